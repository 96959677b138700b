/- AutomorphismCount, as the law calls it. -/
import Derived.Test.YtijaojnaamkinaaNbc
import Derived.Test.YtijaojnaamkinaaPd
import Derived.Test.YtijaojnaamkinaaGAp
import Derived.Test.YtijaojnaamkinaaGApx
import Derived.Test.YtijaojnaamkinaaOpx
namespace Go.Proofs.Ytijaojnaamkinaa
set_option linter.unusedSimpArgs false
set_option linter.unusedVariables false

theorem goA {σ τ ρ : Type} {f : σ → Option (Lp σ τ ρ)} {s s' : σ} (h : f s = some (.go s')) (fuel : Nat) : loopF f (fuel + 1) s = loopF f fuel s' := by simp only [loopF, h]
theorem outA {σ τ ρ : Type} {f : σ → Option (Lp σ τ ρ)} {s : σ} {t : τ} (h : f s = some (.out t)) (fuel : Nat) : loopF f (fuel + 1) s = some (.inl t) := by simp only [loopF, h]
theorem retA {σ τ ρ : Type} {f : σ → Option (Lp σ τ ρ)} {s : σ} {r : ρ} (h : f s = some (.ret r)) (fuel : Nat) : loopF f (fuel + 1) s = some (.inr r) := by simp only [loopF, h]
/-! ### isBefore -/
theorem isBefore_loop : ∀ (xs ys pa pb : List Int) (fuel : Nat), pa.length = pb.length → pa.length + xs.length ≤ 1000000000 → xs.length < fuel →
    ∃ q, loopF (fS_isBefore_s1 (pa ++ xs) (pb ++ ys)) fuel (pa.length : Int) = some q ∧ (match q with | .inl _ => decide (((pa ++ xs).length : Int) < ((pb ++ ys).length : Int)) | .inr r => r) = decide (lexO xs ys < 0)
  | [], ys, pa, pb, fuel, h1, h2, h3 => by
    obtain ⟨fuel, rfl⟩ : ∃ q, fuel = q + 1 := ⟨fuel - 1, by omega⟩
    refine ⟨_, outA (t := (pa.length : Int)) ?_ fuel, ?_⟩
    · unfold fS_isBefore_s1
      rw [if_neg (by simp), sb]
      simp
    · cases ys with
      | nil => simp [lexO, h1]
      | cons y ys => simp [lexO, h1]; omega
  | x :: xs, [], pa, pb, fuel, h1, h2, h3 => by
    obtain ⟨fuel, rfl⟩ : ∃ q, fuel = q + 1 := ⟨fuel - 1, by omega⟩
    refine ⟨_, outA (t := (pa.length : Int)) ?_ fuel, ?_⟩
    · unfold fS_isBefore_s1
      rw [if_pos (by simp; omega), sb]
      simp [h1]
    · simp [lexO, h1]; omega
  | x :: xs, y :: ys, pa, pb, fuel, h1, h2, h3 => by
    simp only [List.length_cons] at h2 h3
    obtain ⟨fuel, rfl⟩ : ∃ q, fuel = q + 1 := ⟨fuel - 1, by omega⟩
    have e1 : fS_isBefore_s1 (pa ++ x :: xs) (pb ++ y :: ys) (pa.length : Int) = if x ≠ y then some (.ret (decide (x < y))) else some (.go ((pa.length : Int) + 1)) := by
      unfold fS_isBefore_s1
      rw [if_pos (by simp; omega), sb, if_pos (by simp [h1]; omega), ix_mid, sb, ix_at pb y ys _ (by rw [h1]), sb]
      by_cases e : x = y
      · rw [if_neg (by simp [e]), if_neg (by simp [e]), ck_in (by omega) (by omega), sb]
      · rw [if_pos (by simp [e]), if_pos e, sb, sb]
    by_cases e : x = y
    · subst e
      rw [if_neg (by simp)] at e1
      rw [goA e1]
      obtain ⟨q, g1, g2⟩ := isBefore_loop xs ys (pa ++ [x]) (pb ++ [x]) fuel (by simp [h1]) (by simp; omega) (by omega)
      simp only [List.append_assoc, List.singleton_append, List.length_append, List.length_singleton] at g1 g2
      rw [show ((pa.length : Int) + 1) = ((pa.length + 1 : Nat) : Int) by omega]
      refine ⟨q, g1, ?_⟩
      simp only [lexO, Int.lt_irrefl, if_false, gt_iff_lt]
      rw [← g2]
      simp
    · rw [if_pos e] at e1
      refine ⟨_, retA e1 fuel, ?_⟩
      simp only [lexO]
      by_cases h : x < y
      · simp [h]
      · simp [h, show x > y by omega]
theorem e_isBefore (fuel : Nat) (a b : List Int) (hl : a.length ≤ 1000000000) (hf : a.length < fuel) : fS_isBefore fuel a b = some (decide (lexO a b < 0)) := by
  unfold fS_isBefore
  obtain ⟨q, g1, g2⟩ := isBefore_loop a b [] [] fuel rfl (by simpa using hl) hf
  simp only [List.nil_append, List.length_nil] at g1 g2
  rw [show ((0 : Nat) : Int) = 0 from rfl] at g1
  rw [g1, sb, ← g2]
  cases q <;> rfl
/-! ### Nodes in order -/
theorem mem_srt {xs : List Int} {x : Int} : x ∈ srt xs ↔ x ∈ xs := (srt_perm' xs).mem_iff
theorem srt_lt {xs : List Int} (h : xs.Nodup) : (srt xs).Pairwise (· < ·) := by
  have h1 := srt_sorted' xs
  have h2 : (srt xs).Nodup := (srt_perm' xs).nodup_iff.2 h
  exact (h1.and h2).imp fun {a b} ⟨q1, q2⟩ => by omega
theorem walkN_pos (p : T_Network) (v : Int) : 1 ≤ (walkN p v).length := bfs_pre p 41 [v] 0
theorem isParts_put (fuel : Nat) (hf : 100 ≤ fuel) (n : Nat) (hn : n ≤ 40) (W : List Int) (h : OkW n W) : forI (fS_isParts_s2 fuel) W 0 [] = some (.inl (srt W)) := by
  have hl := h.le
  have := forI_inv0 (body := fS_isParts_s2 fuel) (fun j => srt (W.take j)) W (fun j x hj => by
    have hjl := (List.getElem?_eq_some_iff.1 hj).1
    have ht : W.take (j + 1) = W.take j ++ [x] := by rw [List.take_add_one, hj]; rfl
    have hnd : (W.take j).Nodup := h.nd.sublist (List.take_sublist j W)
    have hnd1 : (W.take (j + 1)).Nodup := h.nd.sublist (List.take_sublist (j + 1) W)
    have hsl : (srt (W.take j)).length ≤ 40 := by rw [srt_length, List.length_take]; omega
    obtain ⟨ys, e1, e2, e3⟩ := e_l1Put (srt (W.take j)) x fuel (by omega) (by omega) (srt_lt hnd)
    unfold fS_isParts_s2
    rw [e1, sb]
    have : ys = srt (W.take (j + 1)) := pair_ext e2 (srt_lt hnd1) fun a => by
      rw [e3, mem_srt, mem_srt, ht, List.mem_append, List.mem_singleton]
    rw [this])
  rw [List.take_length] at this
  rw [show ([] : List Int) = srt (W.take 0) by simp [srt]]
  exact this
/-! ### The best code of a component -/
def bst (p : T_Network) (s : List Int × List Int × Int) (w : Int) : List Int × List Int × Int :=
  if s.2.2 = 0 ∨ lexO (codeN p (walkN p w)) s.1 < 0 then (codeN p (walkN p w), walkN p w, 1) else if lexO (codeN p (walkN p w)) s.1 = 0 then (s.1, s.2.1, s.2.2 + 1) else s
structure OkB (k : Nat) (s : List Int × List Int × Int) : Prop where
  lo : 0 ≤ s.2.2
  hi : s.2.2 ≤ k
  nl : s.2.2 = 0 ↔ s.2.1 = []
  ln : s.1.length ≤ 1000
theorem OkB.step {p : T_Network} (g : GoodN p) {k : Nat} {s : List Int × List Int × Int} (h : OkB k s) {w : Int} (hw : 0 ≤ w ∧ w < p.Ends.length) : OkB (k + 1) (bst p s w) ∧ 1 ≤ (bst p s w).2.2 := by
  have hc := codeN_len g hw
  have hp := walkN_pos p w
  have hne : walkN p w ≠ [] := fun e => by rw [e] at hp; simp at hp
  have h1 := h.lo
  have h2 := h.hi
  have h3 := h.nl
  unfold bst
  split
  · exact ⟨⟨by simp, by show (1 : Int) ≤ ((k + 1 : Nat) : Int); omega, by simp [hne], hc⟩, by simp⟩
  · rename_i hno
    have hs : s.2.2 ≠ 0 := fun e => hno (.inl e)
    have hs2 : s.2.1 ≠ [] := fun e => hs (h3.2 e)
    split
    · exact ⟨⟨by show 0 ≤ s.2.2 + 1; omega, by show s.2.2 + 1 ≤ ((k + 1 : Nat) : Int); omega, by
        show s.2.2 + 1 = 0 ↔ s.2.1 = []
        constructor
        · intro e; omega
        · intro e; exact absurd e hs2, h.ln⟩, by show 1 ≤ s.2.2 + 1; omega⟩
    · exact ⟨⟨h1, by omega, h3, h.ln⟩, by omega⟩
theorem OkB.fold {p : T_Network} (g : GoodN p) : ∀ (xs : List Int) {k : Nat} {s : List Int × List Int × Int}, OkB k s → (∀ x ∈ xs, 0 ≤ x ∧ x < p.Ends.length) → OkB (k + xs.length) (xs.foldl (bst p) s)
  | [], k, s, h, _ => h
  | x :: xs, k, s, h, hx => by
    have := OkB.fold g xs (h.step g (hx x (by simp))).1 fun y hy => hx y (by simp [hy])
    rw [List.foldl_cons, List.length_cons]
    rw [show k + (xs.length + 1) = k + 1 + xs.length by omega]
    exact this
theorem OkB.nil : OkB 0 ([], [], 0) := ⟨by simp, by simp, by simp, by simp⟩
def bestOf (p : T_Network) (v : Int) : List Int × List Int × Int := (srt (walkN p v)).foldl (bst p) ([], [], 0)
theorem nodes_in {p : T_Network} (g : GoodN p) {v : Int} (hv : 0 ≤ v ∧ v < p.Ends.length) : ∀ x ∈ srt (walkN p v), 0 ≤ x ∧ x < p.Ends.length := fun x hx => (walkN_ok g hv).rng x (mem_srt.1 hx)
theorem nodes_len {p : T_Network} (g : GoodN p) {v : Int} (hv : 0 ≤ v ∧ v < p.Ends.length) : (srt (walkN p v)).length ≤ 40 := by
  have h1 := (walkN_ok g hv).le
  have h2 := g.n2
  rw [srt_length]; omega
theorem bestOf_ok {p : T_Network} (g : GoodN p) {v : Int} (hv : 0 ≤ v ∧ v < p.Ends.length) : OkB 40 (bestOf p v) := by
  have h := OkB.fold g (srt (walkN p v)) OkB.nil (nodes_in g hv)
  have hl := nodes_len g hv
  have := h.hi
  exact ⟨h.lo, by rw [Nat.zero_add] at this; unfold bestOf; omega, h.nl, h.ln⟩
theorem isParts_best (fuel : Nat) (hf : 2000 ≤ fuel) (p : T_Network) (g : GoodN p) (v : Int) (hv : 0 ≤ v ∧ v < p.Ends.length) : forI (fS_isParts_s3 fuel p) (srt (walkN p v)) 0 ([], [], 0) = some (.inl (bestOf p v)) := by
  have hin := nodes_in g hv
  have hnl := nodes_len g hv
  have := forI_inv0 (body := fS_isParts_s3 fuel p) (fun j => ((srt (walkN p v)).take j).foldl (bst p) ([], [], 0)) (srt (walkN p v)) (fun j x hj => by
    have hjl := (List.getElem?_eq_some_iff.1 hj).1
    have hx := hin x (List.mem_of_getElem? hj)
    have hb := OkB.fold g ((srt (walkN p v)).take j) OkB.nil fun y hy => hin y (List.mem_of_mem_take hy)
    have ht : (srt (walkN p v)).take (j + 1) = (srt (walkN p v)).take j ++ [x] := by rw [List.take_add_one, hj]; rfl
    rw [ht, List.foldl_append, List.foldl_cons, List.foldl_nil]
    rw [List.length_take] at hb
    generalize ((srt (walkN p v)).take j).foldl (bst p) ([], [], 0) = s at hb ⊢
    have hc := codeN_len g hx
    have h1 := hb.lo
    have h2 := hb.hi
    unfold fS_isParts_s3
    rw [e_isWalk fuel (by omega) p g x hx, sb, e_isCode p g _ (walkN_ok g hx), sb]
    unfold bst
    by_cases h0 : s.2.2 = 0
    · rw [if_neg (by simp [h0]), sb, if_neg (by simp), if_pos (by simp [h0]), sb, if_pos rfl, if_pos (.inl h0)]
    · rw [if_pos (by simp; omega), e_l1Same _ _ (by omega), sb, sb]
      by_cases he : codeN p (walkN p x) = s.1
      · rw [if_pos (by simpa using he), ck_in (by omega) (by omega), sb]
        have hz := lexO_zero.2 he
        rw [if_neg (by rintro (h | h) <;> omega), if_pos hz]
      · rw [if_neg (by simpa using he), if_neg (by simpa using h0), e_isBefore fuel _ _ (by omega) (by omega), sb, sb]
        have hz : lexO (codeN p (walkN p x)) s.1 ≠ 0 := fun h => he (lexO_zero.1 h)
        by_cases hlt : lexO (codeN p (walkN p x)) s.1 < 0
        · rw [if_pos (by simpa using hlt), if_pos (.inr hlt)]
        · rw [if_neg (by simpa using hlt), if_neg (by rintro (h | h) <;> omega), if_neg hz])
  rw [List.take_length] at this
  exact this
def dnL (n : Nat) (seen : List Int) : List Bool := (List.range n).map fun i : Nat => decide ((i : Int) ∈ seen)
theorem dnL_len (n : Nat) (seen : List Int) : (dnL n seen).length = n := by simp [dnL]
theorem dnL_get {n : Nat} {seen : List Int} {x : Int} (h : 0 ≤ x ∧ x < n) : ix (dnL n seen) x = some (decide (x ∈ seen)) := by
  unfold ix dnL
  rw [if_pos h.1, List.getElem?_map, List.getElem?_range (by omega)]
  simp [Int.toNat_of_nonneg h.1]
theorem dnL_set {n : Nat} {seen : List Int} {x : Int} (h : 0 ≤ x ∧ x < n) : st (dnL n seen) x true = some (dnL n (seen ++ [x])) := by
  unfold Go.Proofs.Ytijaojnaamkinaa.st
  rw [if_pos (by rw [dnL_len]; exact h)]
  congr 1
  apply List.ext_getElem?
  intro i
  by_cases hi : i < n
  · rw [List.getElem?_set, dnL_len]
    unfold dnL
    rw [List.getElem?_map, List.getElem?_map, List.getElem?_range hi, Option.map_some, Option.map_some]
    by_cases e : x.toNat = i
    · have : (i : Int) = x := by omega
      rw [if_pos e, if_pos (by omega), this]; simp
    · have : (i : Int) ≠ x := by omega
      rw [if_neg e]; simp [this]
  · rw [List.getElem?_eq_none (by rw [List.length_set, dnL_len]; omega), List.getElem?_eq_none (by rw [dnL_len]; omega)]
theorem comps_best (fuel : Nat) (hf : 2000 ≤ fuel) (p : T_Network) (g : GoodN p) (seen : List Int) (v : Int) (hv : 0 ≤ v ∧ v < p.Ends.length) :
    forI (fI_componentsOf_s2 fuel p) (srt (walkN p v)) 0 (dnL p.Ends.length seen, [], [], 0) = some (.inl (dnL p.Ends.length (seen ++ srt (walkN p v)), bestOf p v)) := by
  have hin := nodes_in g hv
  have hnl := nodes_len g hv
  have := forI_inv0 (body := fI_componentsOf_s2 fuel p) (fun j => (dnL p.Ends.length (seen ++ (srt (walkN p v)).take j), ((srt (walkN p v)).take j).foldl (bst p) ([], [], 0))) (srt (walkN p v)) (fun j x hj => by
    have hjl := (List.getElem?_eq_some_iff.1 hj).1
    have hx := hin x (List.mem_of_getElem? hj)
    have hb := OkB.fold g ((srt (walkN p v)).take j) OkB.nil fun y hy => hin y (List.mem_of_mem_take hy)
    have ht : (srt (walkN p v)).take (j + 1) = (srt (walkN p v)).take j ++ [x] := by rw [List.take_add_one, hj]; rfl
    rw [ht, List.foldl_append, List.foldl_cons, List.foldl_nil, ← List.append_assoc]
    rw [List.length_take] at hb
    generalize ((srt (walkN p v)).take j).foldl (bst p) ([], [], 0) = s at hb ⊢
    have h1 := hb.lo
    have h2 := hb.hi
    have h3 := hb.nl
    have hp := walkN_pos p x
    unfold fI_componentsOf_s2
    simp only
    rw [dnL_get hx, sb, dnL_set hx, sb, e_codeFrom fuel (by omega) p g x hx, sb]
    simp only
    rw [e_CompareG, sb]
    unfold bst
    by_cases h0 : s.2.2 = 0
    · rw [if_pos (by rw [h3.1 h0]; rfl), sb, if_pos rfl, if_pos (.inl h0)]
      unfold nem
      rw [if_neg (by cases hw : walkN p x with | nil => rw [hw] at hp; simp at hp | cons a l => simp), sb]
    · have hne : s.2.1 ≠ [] := fun e => h0 (h3.2 e)
      rw [if_neg (by simpa using hne), sb]
      by_cases hlt : lexO (codeN p (walkN p x)) s.1 < 0
      · rw [if_pos (by simpa using hlt), if_pos (.inr hlt)]
        unfold nem
        rw [if_neg (by cases hw : walkN p x with | nil => rw [hw] at hp; simp at hp | cons a l => simp), sb]
      · rw [if_neg (by simpa using hlt), if_neg (show ¬ (s.2.2 = 0 ∨ lexO (codeN p (walkN p x)) s.1 < 0) by rintro (h | h) <;> omega)]
        by_cases hz : lexO (codeN p (walkN p x)) s.1 = 0
        · rw [if_pos (by simpa using hz), if_pos hz, ck_in (by omega) (by omega), sb]
        · rw [if_neg (by simpa using hz), if_neg hz])
  rw [List.take_length] at this
  rw [show (dnL p.Ends.length seen, ([] : List Int), ([] : List Int), (0 : Int)) = (dnL p.Ends.length (seen ++ (srt (walkN p v)).take 0), ((srt (walkN p v)).take 0).foldl (bst p) ([], [], 0)) by simp, this]
  rfl
/-! ### All components -/
def stN (p : T_Network) : Nat → List T_component × List Int
  | 0 => ([], [])
  | i + 1 => if (i : Int) ∈ (stN p i).2 then stN p i else ((stN p i).1 ++ [⟨(bestOf p i).1, (bestOf p i).2.1, i, (bestOf p i).2.2⟩], (stN p i).2 ++ srt (walkN p i))
structure OkS (i : Nat) (s : List T_component × List Int) : Prop where
  lt : ∀ c ∈ s.1, c.least < i
  di : distC s.1
  ln : s.1.length ≤ i
  sl : s.2.length ≤ 40 * i
  rt : ∀ c ∈ s.1, 0 ≤ c.roots ∧ c.roots ≤ 40
  cl : ∀ c ∈ s.1, c.code.length ≤ 1000
theorem stN_ok {p : T_Network} (g : GoodN p) : ∀ (i : Nat), i ≤ p.Ends.length → OkS i (stN p i)
  | 0, _ => ⟨by simp [stN], by simp [stN, distC], by simp [stN], by simp [stN], by simp [stN], by simp [stN]⟩
  | i + 1, hi => by
    have h := stN_ok g i (by omega)
    unfold stN
    split
    · exact ⟨fun c hc => by have := h.lt c hc; omega, h.di, by have := h.ln; omega, by have := h.sl; omega, h.rt, h.cl⟩
    · have hv : 0 ≤ (i : Int) ∧ (i : Int) < p.Ends.length := by omega
      have hb := bestOf_ok g hv
      have hl := nodes_len g hv
      refine ⟨fun c hc => ?_, ?_, ?_, ?_, fun c hc => ?_, fun c hc => ?_⟩
      · rcases List.mem_append.1 hc with hc | hc
        · have := h.lt c hc; omega
        · rw [List.mem_singleton.1 hc]; show (i : Int) < ((i + 1 : Nat) : Int); omega
      · refine List.pairwise_append.2 ⟨h.di, by simp, fun a ha b hb => ?_⟩
        rw [List.mem_singleton.1 hb]
        have := h.lt a ha
        show a.least ≠ (i : Int)
        omega
      · have := h.ln; simp; omega
      · have := h.sl; simp; omega
      · rcases List.mem_append.1 hc with hc | hc
        · exact h.rt c hc
        · rw [List.mem_singleton.1 hc]; exact ⟨hb.lo, hb.hi⟩
      · rcases List.mem_append.1 hc with hc | hc
        · exact h.cl c hc
        · rw [List.mem_singleton.1 hc]; exact hb.ln
theorem e_componentsOf (fuel : Nat) (hf : 2000 ≤ fuel) (p : T_Network) (g : GoodN p) : fI_componentsOf fuel p = some (sorC (stN p p.Ends.length).1) := by
  have hn2 := g.n2
  have := forN_inv0 (ρ := List T_component) (body := fI_componentsOf_s1 fuel p) (fun j => ((stN p j).1, dnL p.Ends.length (stN p j).2)) p.Ends.length (fun j hj => by
    have hv : 0 ≤ (j : Int) ∧ (j : Int) < p.Ends.length := by omega
    have h := stN_ok g j (by omega)
    have h1 := h.ln
    have hw := (walkN_ok g hv).le
    unfold fI_componentsOf_s1
    simp only
    rw [dnL_get hv, sb]
    show _ = some (Lp.go ((stN p (j + 1)).1, dnL p.Ends.length (stN p (j + 1)).2))
    conv => rhs; unfold stN
    by_cases hm : (j : Int) ∈ (stN p j).2
    · rw [if_pos (by simpa using hm), if_pos hm]
    · rw [if_neg (by simpa using hm), if_neg hm, e_codeFrom fuel (by omega) p g _ hv, sb]
      unfold srtO
      simp only
      rw [if_pos (by omega), sb, comps_best fuel hf p g _ _ hv, sb]
      simp only
      unfold push
      rw [if_pos (by omega), sb])
  have hm : mk (Rz.z : Bool) (p.Ends.length : Int) = some (dnL p.Ends.length []) := by
    unfold mk
    rw [if_pos (by omega)]
    congr 1
    apply List.ext_getElem?
    intro i
    by_cases hi : i < p.Ends.length
    · rw [List.getElem?_replicate, if_pos (by simpa using hi)]
      unfold dnL
      rw [List.getElem?_map, List.getElem?_range hi]
      rfl
    · rw [List.getElem?_eq_none (by simp; omega), List.getElem?_eq_none (by rw [dnL_len]; omega)]
  unfold fI_componentsOf
  rw [hm, sb, ck_in (by omega) (by omega), sb, Int.toNat_natCast]
  rw [show (([], dnL p.Ends.length []) : List T_component × List Bool) = ((stN p 0).1, dnL p.Ends.length (stN p 0).2) from rfl, this, sb]
  have h := stN_ok g p.Ends.length (Nat.le_refl _)
  have h1 := h.ln
  simp only
  unfold srtC
  rw [if_pos ⟨h.di, by omega⟩, sb]
/-! ### The place of a component -/
def toP (c : T_component) : T_isPart := ⟨c.code, c.walk, c.roots⟩
def posC (l : List T_component) (x : T_component) : Nat := (l.takeWhile fun y => decide (cmpC y x < 0)).length
theorem insC_at (x : T_component) : ∀ (l : List T_component), insC l x = l.take (posC l x) ++ [x] ++ l.drop (posC l x)
  | [] => by simp [insC, posC]
  | y :: l => by
    unfold posC
    rw [List.takeWhile_cons]
    by_cases h : cmpC y x < 0
    · rw [if_pos (by simpa using h)]
      simp only [insC, if_pos h, insC_at x l, List.length_cons, List.take_succ_cons, List.drop_succ_cons]
      rfl
    · rw [if_neg (by simpa using h)]
      simp only [insC, if_neg h]
      simp
theorem place_loop (fuel0 : Nat) (c : List Int) (hc : c.length ≤ 1000) (hf0 : 1000 < fuel0) : ∀ (ys pre : List T_isPart) (fuel : Nat), ys.length < fuel → pre.length + ys.length ≤ 1000000000 →
    loopF (fS_isParts_s4 fuel0 (pre ++ ys) c) fuel (pre.length : Int) = some (.inl ((pre.length + (ys.takeWhile fun y => decide (¬ lexO c y.code < 0)).length : Nat) : Int))
  | [], pre, fuel, hf, hl => by
    obtain ⟨fuel, rfl⟩ : ∃ q, fuel = q + 1 := ⟨fuel - 1, by omega⟩
    refine outA ?_ fuel
    unfold fS_isParts_s4
    rw [if_neg (by simp), sb]
    simp
  | y :: ys, pre, fuel, hf, hl => by
    simp only [List.length_cons] at hf hl
    obtain ⟨fuel, rfl⟩ : ∃ q, fuel = q + 1 := ⟨fuel - 1, by omega⟩
    by_cases h : lexO c y.code < 0
    · refine outA ?_ fuel
      unfold fS_isParts_s4
      rw [if_pos (by simp; omega), ix_mid, sb, e_isBefore fuel0 c y.code (by omega) (by omega), sb, sb, if_neg (by simpa using h), List.takeWhile_cons, if_neg (by simpa using h)]
      simp
    · have e1 : fS_isParts_s4 fuel0 (pre ++ y :: ys) c (pre.length : Int) = some (.go ((pre.length : Int) + 1)) := by
        unfold fS_isParts_s4
        rw [if_pos (by simp; omega), ix_mid, sb, e_isBefore fuel0 c y.code (by omega) (by omega), sb, sb, if_pos (by simpa using h), ck_in (by omega) (by omega), sb]
      rw [goA e1]
      have := place_loop fuel0 c hc hf0 ys (pre ++ [y]) fuel (by omega) (by simp; omega)
      rw [List.append_assoc, List.singleton_append, List.length_append, List.length_singleton] at this
      rw [show ((pre.length : Int) + 1) = ((pre.length + 1 : Nat) : Int) by omega, this, List.takeWhile_cons, if_pos (by simpa using h), List.length_cons]
      congr 3
      omega
theorem place_eq (x : T_component) : ∀ (l : List T_component), (∀ y ∈ l, y.least < x.least) → ((l.map toP).takeWhile fun y => decide (¬ lexO x.code y.code < 0)).length = posC l x
  | [], _ => rfl
  | y :: l, h => by
    have ih := place_eq x l fun z hz => h z (by simp [hz])
    have hy := h y (by simp)
    have key : (¬ lexO x.code y.code < 0) ↔ cmpC y x < 0 := by
      rw [cmpC_lt]
      have ha := lexO_anti y.code x.code
      constructor
      · intro h1
        by_cases h0 : lexO y.code x.code = 0
        · exact .inr ⟨lexO_zero.1 h0, hy⟩
        · exact .inl (by omega)
      · rintro (h1 | ⟨h1, _⟩)
        · omega
        · have := lexO_zero.2 h1; omega
    unfold posC at ih ⊢
    rw [List.map_cons, List.takeWhile_cons, List.takeWhile_cons]
    by_cases hc : cmpC y x < 0
    · have h1 : ¬ lexO x.code (toP y).code < 0 := key.2 hc
      rw [if_pos (by simpa using h1), if_pos (by simpa using hc), List.length_cons, List.length_cons, ih]
    · have h1 : ¬ ¬ lexO x.code (toP y).code < 0 := fun h2 => hc (key.1 h2)
      rw [if_neg (by simpa using h1), if_neg (by simpa using hc)]
      rfl
theorem sorC_mem {cs : List T_component} {c : T_component} : c ∈ sorC cs ↔ c ∈ cs := (sorC_perm cs).mem_iff
theorem sorC_len (cs : List T_component) : (sorC cs).length = cs.length := (sorC_perm cs).length_eq
theorem isParts_round (fuel : Nat) (hf : 2000 ≤ fuel) (p : T_Network) (g : GoodN p) {j : Nat} (hj : j < p.Ends.length) :
    fS_isParts_s1 fuel p (j : Int) ((sorC (stN p j).1).map toP, (stN p j).2) = some (.go ((sorC (stN p (j + 1)).1).map toP, (stN p (j + 1)).2)) := by
  have hv : 0 ≤ (j : Int) ∧ (j : Int) < p.Ends.length := by omega
  have hn2 := g.n2
  have h := stN_ok g j (by omega)
  have h1 := h.ln
  have h2 := h.sl
  have hnl := nodes_len g hv
  have hb := bestOf_ok g hv
  unfold fS_isParts_s1
  simp only
  rw [e_l1Has, sb]
  conv => rhs; unfold stN
  by_cases hm : (j : Int) ∈ (stN p j).2
  · rw [if_pos (by simpa using hm), if_pos hm]
  · rw [if_neg (by simpa using hm), if_neg hm, e_isWalk fuel (by omega) p g _ hv, sb, isParts_put fuel (by omega) _ hn2 _ (walkN_ok g hv), sb]
    simp only
    unfold cat
    rw [if_pos (by omega), sb, isParts_best fuel hf p g _ hv, sb]
    simp only
    have hsl := sorC_len (stN p j).1
    have hpl := place_loop fuel (bestOf p j).1 hb.ln (by omega) ((sorC (stN p j).1).map toP) [] fuel (by rw [List.length_map]; omega) (by rw [List.length_map]; simp; omega)
    rw [List.nil_append, List.length_nil, Nat.zero_add, show ((0 : Nat) : Int) = 0 from rfl] at hpl
    have hpe := place_eq ⟨(bestOf p j).1, (bestOf p j).2.1, j, (bestOf p j).2.2⟩ (sorC (stN p j).1) fun y hy => h.lt y (sorC_mem.1 hy)
    have hins : sorC ((stN p j).1 ++ [⟨(bestOf p j).1, (bestOf p j).2.1, j, (bestOf p j).2.2⟩]) = insC (sorC (stN p j).1) ⟨(bestOf p j).1, (bestOf p j).2.1, j, (bestOf p j).2.2⟩ := by
      unfold sorC
      rw [List.foldl_append]; rfl
    rw [hpl, hpe, sb, hins, insC_at]
    simp only
    have hk : posC (sorC (stN p j).1) ⟨(bestOf p j).1, (bestOf p j).2.1, j, (bestOf p j).2.2⟩ ≤ (sorC (stN p j).1).length := (List.takeWhile_sublist _).length_le
    generalize posC (sorC (stN p j).1) ⟨(bestOf p j).1, (bestOf p j).2.1, j, (bestOf p j).2.2⟩ = k at hk ⊢
    have hlm : ((sorC (stN p j).1).map toP).length = (sorC (stN p j).1).length := List.length_map ..
    have hc1 : cut ((sorC (stN p j).1).map toP) (k : Int) ((sorC (stN p j).1).map toP).length = some (((sorC (stN p j).1).map toP).drop k) := by
      unfold cut
      rw [if_pos (by omega), Int.toNat_natCast, Int.toNat_natCast, List.take_length]
    have hc2 : cut ((sorC (stN p j).1).map toP) 0 (k : Int) = some (((sorC (stN p j).1).map toP).take k) := by
      unfold cut
      rw [if_pos (by omega)]; simp
    rw [hc1, sb, if_pos (by simp; omega), sb, hc2, sb]
    unfold push
    rw [if_pos (by rw [List.length_take]; omega), sb, if_pos (by simp; omega), sb]
    simp [toP, List.map_take, List.map_drop]
theorem e_isParts (fuel : Nat) (hf : 2000 ≤ fuel) (p : T_Network) (g : GoodN p) : fS_isParts fuel p = some ((sorC (stN p p.Ends.length).1).map toP) := by
  have hn2 := g.n2
  have := forN_inv0 (ρ := List T_isPart) (body := fS_isParts_s1 fuel p) (fun j => ((sorC (stN p j).1).map toP, (stN p j).2)) p.Ends.length (fun j hj => isParts_round fuel hf p g hj)
  unfold fS_isParts
  rw [ck_in (by omega) (by omega), sb, Int.toNat_natCast]
  rw [show (([], []) : List T_isPart × List Int) = ((sorC (stN p 0).1).map toP, (stN p 0).2) from rfl, this, sb]
/-! ### The product -/
def autS : Option (List Int) → Int → Int → List T_component → (Int × Int) ⊕ (Int × Bool)
  | _, c, r, [] => .inl (c, r)
  | pr, c, r, x :: xs => if c * (x.roots * (if pr = some x.code then r + 1 else 1)) > 1000000000000 then .inr (0, false) else autS (some x.code) (c * (x.roots * (if pr = some x.code then r + 1 else 1))) (if pr = some x.code then r + 1 else 1) xs
theorem prod_in {c t : Int} (h1 : 0 ≤ c) (h2 : c ≤ 1000000000000) (h3 : 0 ≤ t) (h4 : t ≤ 2000) : 0 ≤ c * t ∧ c * t ≤ 2000000000000000 := by
  refine ⟨Int.mul_nonneg h1 h3, ?_⟩
  have := Int.mul_le_mul h2 h4 h3 (by decide)
  omega
theorem prod_in2 {a b : Int} (h1 : 0 ≤ a) (h2 : a ≤ 40) (h3 : 0 ≤ b) (h4 : b ≤ 41) : 0 ≤ a * b ∧ a * b ≤ 2000 := by
  refine ⟨Int.mul_nonneg h1 h3, ?_⟩
  have := Int.mul_le_mul h2 h4 h3 (by decide)
  omega
theorem last_ix {α : Type} (pre : List α) (z : α) (xs : List α) : ix (pre ++ [z] ++ xs) (((pre ++ [z]).length : Int) - 1) = some z := by
  rw [show (((pre ++ [z]).length : Int) - 1) = ((pre.length : Nat) : Int) by simp]
  rw [List.append_assoc]
  exact ix_mid pre z xs
theorem aut_impl : ∀ (xs pre : List T_component) (c r : Int), (pre.length + xs.length ≤ 40) → (0 ≤ c ∧ c ≤ 1000000000000) → (0 ≤ r ∧ r ≤ pre.length) → (∀ x ∈ pre ++ xs, (0 ≤ x.roots ∧ x.roots ≤ 40) ∧ x.code.length ≤ 1000) →
    forI (fI_AutomorphismCount_s1 (pre ++ xs)) xs (pre.length : Int) (c, r) = some (autS (pre.getLast?.map (·.code)) c r xs)
  | [], pre, c, r, _, _, _, _ => rfl
  | x :: xs, pre, c, r, hl, hc, hr, hx => by
    simp only [List.length_cons] at hl
    have hx1 := hx x (by simp)
    have ih : ∀ c' r', (0 ≤ c' ∧ c' ≤ 1000000000000) → (0 ≤ r' ∧ r' ≤ (pre.length : Int) + 1) → forI (fI_AutomorphismCount_s1 (pre ++ x :: xs)) xs ((pre.length : Int) + 1) (c', r') = some (autS (some x.code) c' r' xs) := fun c' r' h1 h2 => by
      have := aut_impl xs (pre ++ [x]) c' r' (by simp; omega) h1 (by simp; omega) (by simpa using hx)
      simp only [List.append_assoc, List.singleton_append, List.length_append, List.length_singleton, List.getLast?_append, List.getLast?_singleton, Option.some_or, Option.map_some] at this
      rw [show ((pre.length : Int) + 1) = ((pre.length + 1 : Nat) : Int) by omega]
      exact this
    have q1 := prod_in2 (a := x.roots) (b := 1) hx1.1.1 hx1.1.2 (by decide) (by decide)
    have q2 := prod_in2 (a := x.roots) (b := r + 1) hx1.1.1 hx1.1.2 (by omega) (by omega)
    have p1 := prod_in hc.1 hc.2 q1.1 q1.2
    have p2 := prod_in hc.1 hc.2 q2.1 q2.2
    have yes : pre.getLast?.map (·.code) = some x.code → fI_AutomorphismCount_s1 (pre ++ x :: xs) (pre.length : Int) x (c, r) = if c * (x.roots * (r + 1)) > 1000000000000 then some (.ret (0, false)) else some (.go (c * (x.roots * (r + 1)), r + 1)) := fun he => by
      rcases List.eq_nil_or_concat pre with rfl | ⟨pre', z, rfl⟩
      · simp at he
      · rw [List.concat_eq_append] at he hx hl hr ⊢
        have he' : z.code = x.code := by simpa using he
        have hz := hx z (by simp)
        unfold fI_AutomorphismCount_s1
        simp only
        rw [ck_in (by omega) (by simp at hr hl; omega), sb, if_neg (by simp; omega), ck_in (by omega) (by omega), sb, last_ix, sb, e_EqualN _ _ (by omega) (by omega), sb, sb, if_neg (by simp [he']), ck_in (by omega) (by omega), sb, ck_in (by omega) (by omega), sb]
        by_cases hg : c * (x.roots * (r + 1)) > 1000000000000
        · rw [if_pos (by simpa using hg), if_pos hg]
        · rw [if_neg (by simpa using hg), if_neg hg]
    have no : pre.getLast?.map (·.code) ≠ some x.code → fI_AutomorphismCount_s1 (pre ++ x :: xs) (pre.length : Int) x (c, r) = if c * (x.roots * 1) > 1000000000000 then some (.ret (0, false)) else some (.go (c * (x.roots * 1), 1)) := fun he => by
      have tail : ∀ (b : Bool), b = true → (if b then (ck (x.roots * 1)) >>= fun x207 => (ck (c * x207)) >>= fun x208 => if decide (x208 > 1000000000000) then some (Lp.ret (0, false)) else some (Lp.go (x208, 1)) else none : Option (Lp (Int × Int) (Int × Int) (Int × Bool))) = if c * (x.roots * 1) > 1000000000000 then some (.ret (0, false)) else some (.go (c * (x.roots * 1), 1)) := fun b hb => by
        rw [if_pos hb, ck_in (by omega) (by omega), sb, ck_in (by omega) (by omega), sb]
        by_cases hg : c * (x.roots * 1) > 1000000000000
        · rw [if_pos (by simpa using hg), if_pos hg]
        · rw [if_neg (by simpa using hg), if_neg hg]
      rcases List.eq_nil_or_concat pre with rfl | ⟨pre', z, rfl⟩
      · have := tail true rfl
        rw [if_pos rfl] at this
        unfold fI_AutomorphismCount_s1
        simp only
        rw [ck_in (by omega) (by simp at hr; omega), sb, if_pos (by simp), sb, if_pos rfl]
        exact this
      · rw [List.concat_eq_append] at he hx hl hr ⊢
        have he' : z.code ≠ x.code := by simpa using he
        have hz := hx z (by simp)
        have := tail true rfl
        rw [if_pos rfl] at this
        unfold fI_AutomorphismCount_s1
        simp only
        rw [ck_in (by omega) (by simp at hr hl; omega), sb, if_neg (by simp; omega), ck_in (by omega) (by omega), sb, last_ix, sb, e_EqualN _ _ (by omega) (by omega), sb, sb, if_pos (by simp [he'])]
        exact this
    unfold autS
    simp only [forI]
    by_cases he : pre.getLast?.map (·.code) = some x.code
    · rw [yes he, if_pos he]
      by_cases hg : c * (x.roots * (r + 1)) > 1000000000000
      · simp only [if_pos hg]
      · simp only [if_neg hg]
        exact ih _ _ ⟨p2.1, by omega⟩ (by omega)
    · rw [no he, if_neg he]
      by_cases hg : c * (x.roots * 1) > 1000000000000
      · simp only [if_pos hg]
      · simp only [if_neg hg]
        exact ih _ _ ⟨p1.1, by omega⟩ (by omega)
theorem aut_spec : ∀ (xs pre : List T_component) (c r : Int), (pre.length + xs.length ≤ 40) → (0 ≤ c ∧ c ≤ 1000000000000) → (0 ≤ r ∧ r ≤ pre.length) → (∀ x ∈ pre ++ xs, (0 ≤ x.roots ∧ x.roots ≤ 40) ∧ x.code.length ≤ 1000) →
    forI (fS_AutomorphismCount_s1 ((pre ++ xs).map toP)) (xs.map toP) (pre.length : Int) (c, r) = some (autS (pre.getLast?.map (·.code)) c r xs)
  | [], pre, c, r, _, _, _, _ => rfl
  | x :: xs, pre, c, r, hl, hc, hr, hx => by
    simp only [List.length_cons] at hl
    have hx1 := hx x (by simp)
    have ih : ∀ c' r', (0 ≤ c' ∧ c' ≤ 1000000000000) → (0 ≤ r' ∧ r' ≤ (pre.length : Int) + 1) → forI (fS_AutomorphismCount_s1 ((pre ++ x :: xs).map toP)) (xs.map toP) ((pre.length : Int) + 1) (c', r') = some (autS (some x.code) c' r' xs) := fun c' r' h1 h2 => by
      have := aut_spec xs (pre ++ [x]) c' r' (by simp; omega) h1 (by simp; omega) (by simpa using hx)
      simp only [List.append_assoc, List.singleton_append, List.length_append, List.length_singleton, List.getLast?_append, List.getLast?_singleton, Option.some_or, Option.map_some] at this
      rw [show ((pre.length : Int) + 1) = ((pre.length + 1 : Nat) : Int) by omega]
      exact this
    have q1 := prod_in2 (a := x.roots) (b := 1) hx1.1.1 hx1.1.2 (by decide) (by decide)
    have q2 := prod_in2 (a := x.roots) (b := r + 1) hx1.1.1 hx1.1.2 (by omega) (by omega)
    have p1 := prod_in hc.1 hc.2 q1.1 q1.2
    have p2 := prod_in hc.1 hc.2 q2.1 q2.2
    have m1 : 1 * (toP x).count = x.roots * 1 := by show 1 * x.roots = x.roots * 1; omega
    have m2 : (r + 1) * (toP x).count = x.roots * (r + 1) := Int.mul_comm _ _
    have yes : pre.getLast?.map (·.code) = some x.code → fS_AutomorphismCount_s1 ((pre ++ x :: xs).map toP) (pre.length : Int) (toP x) (c, r) = if c * (x.roots * (r + 1)) > 1000000000000 then some (.ret (0, false)) else some (.go (c * (x.roots * (r + 1)), r + 1)) := fun he => by
      rcases List.eq_nil_or_concat pre with rfl | ⟨pre', z, rfl⟩
      · simp at he
      · rw [List.concat_eq_append] at he hx hl hr ⊢
        have he' : z.code = x.code := by simpa using he
        have hz := hx z (by simp)
        have hli : ix ((pre' ++ [z] ++ x :: xs).map toP) (((pre' ++ [z]).length : Int) - 1) = some (toP z) := by
          have := last_ix (pre'.map toP) (toP z) ((x :: xs).map toP)
          simpa using this
        have hpos : ((pre' ++ [z]).length : Int) > 0 := by have : (pre' ++ [z]).length = pre'.length + 1 := by simp
                                                           omega
        unfold fS_AutomorphismCount_s1
        simp only
        rw [ck_in (by omega) (by simp at hr hl; omega), sb, if_pos (decide_eq_true hpos), ck_in (by omega) (by omega), sb, hli, sb, e_l1Same _ _ (by show z.code.length ≤ _; omega), sb, sb, if_neg (by simp [toP, he']), m2, ck_in (by omega) (by omega), sb, ck_in (by omega) (by omega), sb]
        by_cases hg : c * (x.roots * (r + 1)) > 1000000000000
        · rw [if_pos (by simpa using hg), if_pos hg]
        · rw [if_neg (by simpa using hg), if_neg hg]
    have no : pre.getLast?.map (·.code) ≠ some x.code → fS_AutomorphismCount_s1 ((pre ++ x :: xs).map toP) (pre.length : Int) (toP x) (c, r) = (if c * (x.roots * 1) > 1000000000000 then some (.ret (0, false)) else some (.go (c * (x.roots * 1), 1))) ∨ (pre = [] ∧ fS_AutomorphismCount_s1 ((pre ++ x :: xs).map toP) (pre.length : Int) (toP x) (c, r) = if c * (x.roots * (r + 1)) > 1000000000000 then some (.ret (0, false)) else some (.go (c * (x.roots * (r + 1)), r + 1))) := fun he => by
      rcases List.eq_nil_or_concat pre with rfl | ⟨pre', z, rfl⟩
      · refine .inr ⟨rfl, ?_⟩
        unfold fS_AutomorphismCount_s1
        simp only
        rw [ck_in (by omega) (by simp at hr; omega), sb, if_neg (by simp), sb, if_neg (by simp), m2, ck_in (by omega) (by omega), sb, ck_in (by omega) (by omega), sb]
        by_cases hg : c * (x.roots * (r + 1)) > 1000000000000
        · rw [if_pos (by simpa using hg), if_pos hg]
        · rw [if_neg (by simpa using hg), if_neg hg]
      · refine .inl ?_
        rw [List.concat_eq_append] at he hx hl hr ⊢
        have he' : z.code ≠ x.code := by simpa using he
        have hz := hx z (by simp)
        have hli : ix ((pre' ++ [z] ++ x :: xs).map toP) (((pre' ++ [z]).length : Int) - 1) = some (toP z) := by
          have := last_ix (pre'.map toP) (toP z) ((x :: xs).map toP)
          simpa using this
        have hpos : ((pre' ++ [z]).length : Int) > 0 := by have : (pre' ++ [z]).length = pre'.length + 1 := by simp
                                                           omega
        unfold fS_AutomorphismCount_s1
        simp only
        rw [ck_in (by omega) (by simp at hr hl; omega), sb, if_pos (decide_eq_true hpos), ck_in (by omega) (by omega), sb, hli, sb, e_l1Same _ _ (by show z.code.length ≤ _; omega), sb, sb, if_pos (by simp [toP, he']), m1, ck_in (by omega) (by omega), sb, ck_in (by omega) (by omega), sb]
        by_cases hg : c * (x.roots * 1) > 1000000000000
        · rw [if_pos (by simpa using hg), if_pos hg]
        · rw [if_neg (by simpa using hg), if_neg hg]
    unfold autS
    rw [List.map_cons]
    simp only [forI]
    by_cases he : pre.getLast?.map (·.code) = some x.code
    · rw [yes he, if_pos he]
      by_cases hg : c * (x.roots * (r + 1)) > 1000000000000
      · simp only [if_pos hg]
      · simp only [if_neg hg]
        exact ih _ _ ⟨p2.1, by omega⟩ (by omega)
    · rw [if_neg he]
      rcases no he with hn | ⟨h0, hn⟩
      · rw [hn]
        by_cases hg : c * (x.roots * 1) > 1000000000000
        · simp only [if_pos hg]
        · simp only [if_neg hg]
          exact ih _ _ ⟨p1.1, by omega⟩ (by omega)
      · have hr0 : r = 0 := by subst h0; simp at hr; omega
        subst hr0
        rw [hn, show (0 : Int) + 1 = 1 from rfl]
        by_cases hg : c * (x.roots * 1) > 1000000000000
        · simp only [if_pos hg]
        · simp only [if_neg hg]
          exact ih _ _ ⟨p1.1, by omega⟩ (by omega)
def autB (p : T_Network) : Int × Bool := if netB p then (match autS none 1 0 (sorC (stN p p.Ends.length).1) with | .inl y => (y.1, true) | .inr r => r) else (0, false)
theorem comps_ok {p : T_Network} (g : GoodN p) : (sorC (stN p p.Ends.length).1).length ≤ 40 ∧ ∀ x ∈ sorC (stN p p.Ends.length).1, (0 ≤ x.roots ∧ x.roots ≤ 40) ∧ x.code.length ≤ 1000 := by
  have h := stN_ok g p.Ends.length (Nat.le_refl _)
  have h1 := h.ln
  have h2 := g.n2
  exact ⟨by rw [sorC_len]; omega, fun x hx => ⟨h.rt x (sorC_mem.1 hx), h.cl x (sorC_mem.1 hx)⟩⟩
theorem e_specAut (fuel : Nat) (hf : 2000 ≤ fuel) (p : T_Network) (hp : SzN p) : fS_AutomorphismCount fuel p = some (autB p) := by
  unfold fS_AutomorphismCount autB
  rw [e_neGood p hp, sb]
  cases h : netB p
  · simp
  · have g := netB_good h
    obtain ⟨h1, h2⟩ := comps_ok g
    rw [if_neg (by simp), e_isParts fuel hf p g, sb, if_pos rfl]
    have := aut_spec (sorC (stN p p.Ends.length).1) [] 1 0 (by simpa using h1) (by decide) (by simp) (by simpa using h2)
    rw [List.nil_append, List.length_nil, show ((0 : Nat) : Int) = 0 from rfl] at this
    rw [this, sb]
    simp only [List.getLast?_nil, Option.map_none]
    cases autS none 1 0 (sorC (stN p p.Ends.length).1) with
    | inl y => rfl
    | inr r => rfl
theorem e_implAut (fuel : Nat) (hf : 2000 ≤ fuel) (p : T_Network) (hp : SzN p) : fI_AutomorphismCount fuel p = some (autB p) := by
  unfold fI_AutomorphismCount autB
  rw [e_IsNetwork p hp, sb]
  cases h : netB p
  · simp
  · have g := netB_good h
    obtain ⟨h1, h2⟩ := comps_ok g
    rw [if_neg (by simp), e_componentsOf fuel hf p g, sb, if_pos rfl]
    have := aut_impl (sorC (stN p p.Ends.length).1) [] 1 0 (by simpa using h1) (by decide) (by simp) (by simpa using h2)
    rw [List.nil_append, List.length_nil, show ((0 : Nat) : Int) = 0 from rfl] at this
    rw [this, sb]
    simp only [List.getLast?_nil, Option.map_none]
    cases autS none 1 0 (sorC (stN p p.Ends.length).1) with
    | inl y => rfl
    | inr r => rfl
open Go.RowKit
def fAutomorphismCountSpec (x : T_Network) : Int × Bool := autB x
def fAutomorphismCountImpl (x : T_Network) : Int × Bool := fAutomorphismCountSpec x
theorem AutomorphismCount_eq (x : T_Network) (_ : okN x) (_ : szN x ≤ 1048576) : fAutomorphismCountImpl x = fAutomorphismCountSpec x := rfl
theorem specAutomorphismCount_any (v : Value) (x : T_Network) (w : World) (h : RdN w v x) (_ : okN x) (hs : szN x ≤ 1048576) : Calls Try.prog 51 #[v] w fun e w' => e = .returned (.tuple #[.int .i64 (fAutomorphismCountSpec x).1, .bool (fAutomorphismCountSpec x).2]) ∧ Keeps w w' := by
  obtain ⟨u, rfl, hu⟩ := h
  exact cS_AutomorphismCount 2000 w u x hu _ (e_specAut 2000 (by omega) x (szN_of hs))
theorem implAutomorphismCount_any (v : Value) (x : T_Network) (w : World) (h : RdN w v x) (_ : okN x) (hs : szN x ≤ 1048576) : Calls Try.prog 52 #[v] w fun e w' => e = .returned (.tuple #[.int .i64 (fAutomorphismCountImpl x).1, .bool (fAutomorphismCountImpl x).2]) ∧ Keeps w w' := by
  obtain ⟨u, rfl, hu⟩ := h
  exact cI_AutomorphismCount 2000 w u x hu _ (e_implAut 2000 (by omega) x (szN_of hs))
end Go.Proofs.Ytijaojnaamkinaa
