/- CodeFrom and SameRoots: what both sides compute. -/
import Derived.Test.YtijaojnaamkinaaPd
import Derived.Test.YtijaojnaamkinaaNg
import Derived.Test.YtijaojnaamkinaaGNb
import Derived.Test.YtijaojnaamkinaaNz
import Derived.Test.YtijaojnaamkinaaGNc
namespace Go.Proofs.Ytijaojnaamkinaa
set_option linter.unusedSimpArgs false
set_option linter.unusedVariables false

theorem loopF_go {σ τ ρ : Type} {f : σ → Option (Lp σ τ ρ)} {s s' : σ} (h : f s = some (.go s')) (fuel : Nat) : loopF f (fuel + 1) s = loopF f fuel s' := by simp only [loopF, h]
theorem loopF_out {σ τ ρ : Type} {f : σ → Option (Lp σ τ ρ)} {s : σ} {t : τ} (h : f s = some (.out t)) (fuel : Nat) : loopF f (fuel + 1) s = some (.inl t) := by simp only [loopF, h]
theorem loopF_ret {σ τ ρ : Type} {f : σ → Option (Lp σ τ ρ)} {s : σ} {r : ρ} (h : f s = some (.ret r)) (fuel : Nat) : loopF f (fuel + 1) s = some (.inr r) := by simp only [loopF, h]
/-- A loop that folds. -/
theorem forI_fold {α σ τ ρ : Type} {body : Int → α → σ → Option (Lp σ σ ρ)} (g : τ → α → τ) (R : τ → σ) (P : τ → Prop) : ∀ (xs : List α) (k : Int) (s : τ), P s →
    (∀ (k : Int) x s, x ∈ xs → P s → body k x (R s) = some (.go (R (g s x))) ∧ P (g s x)) → forI body xs k (R s) = some (.inl (R (xs.foldl g s))) ∧ P (xs.foldl g s)
  | [], k, s, hs, h => ⟨rfl, hs⟩
  | x :: xs, k, s, hs, h => by
    obtain ⟨h1, h2⟩ := h k x s (by simp) hs
    simp only [forI, h1, List.foldl_cons]
    exact forI_fold g R P xs (k + 1) (g s x) h2 fun k y s hy hs => h k y s (by simp [hy]) hs
theorem forI_inv {α σ ρ : Type} {body : Int → α → σ → Option (Lp σ σ ρ)} (R : Nat → σ) : ∀ (xs : List α) (k : Nat), (∀ (j : Nat) x, xs[j]? = some x → body ((k + j : Nat) : Int) x (R (k + j)) = some (.go (R (k + j + 1)))) →
    forI body xs (k : Int) (R k) = some (.inl (R (k + xs.length)))
  | [], k, h => rfl
  | x :: xs, k, h => by
    have h0 := h 0 x rfl
    simp only [Nat.add_zero] at h0
    simp only [forI, h0]
    rw [show ((k : Int) + 1) = ((k + 1 : Nat) : Int) by omega]
    rw [forI_inv R xs (k + 1) (fun j y hj => by have := h (j + 1) y (by simpa using hj); rw [show k + (j + 1) = k + 1 + j by omega] at this; exact this)]
    rw [List.length_cons, show k + 1 + xs.length = k + (xs.length + 1) by omega]
theorem forN_inv {σ ρ : Type} {body : Int → σ → Option (Lp σ σ ρ)} (R : Nat → σ) : ∀ (n k : Nat), (∀ (j : Nat), j < n → body ((k + j : Nat) : Int) (R (k + j)) = some (.go (R (k + j + 1)))) →
    forN body n (k : Int) (R k) = some (.inl (R (k + n)))
  | 0, k, h => rfl
  | n + 1, k, h => by
    have h0 := h 0 (by omega)
    simp only [Nat.add_zero] at h0
    simp only [forN, h0]
    rw [show ((k : Int) + 1) = ((k + 1 : Nat) : Int) by omega]
    rw [forN_inv R n (k + 1) (fun j hj => by have := h (j + 1) (by omega); rw [show k + (j + 1) = k + 1 + j by omega] at this; exact this)]
    rw [show k + 1 + n = k + (n + 1) by omega]
theorem forI_inv0 {α σ ρ : Type} {body : Int → α → σ → Option (Lp σ σ ρ)} (R : Nat → σ) (xs : List α) (h : ∀ (j : Nat) x, xs[j]? = some x → body (j : Int) x (R j) = some (.go (R (j + 1)))) :
    forI body xs 0 (R 0) = some (.inl (R xs.length)) := by
  have := forI_inv R xs 0 (fun j x hj => by rw [Nat.zero_add]; exact h j x hj)
  rw [Nat.zero_add] at this; exact this
theorem forN_inv0 {σ ρ : Type} {body : Int → σ → Option (Lp σ σ ρ)} (R : Nat → σ) (n : Nat) (h : ∀ (j : Nat), j < n → body (j : Int) (R j) = some (.go (R (j + 1)))) :
    forN body n 0 (R 0) = some (.inl (R n)) := by
  have := forN_inv R n 0 (fun j hj => by rw [Nat.zero_add]; exact h j hj)
  rw [Nat.zero_add] at this; exact this
/-! ### The walk -/
def addN (s : List Int) (x : Int) : List Int := if x ∈ s then s else s ++ [x]
def nearN (p : T_Network) (v : Int) : List Int := (rowAt p v).map T_End.Node
def bfs (p : T_Network) : Nat → List Int → Nat → List Int
  | 0, out, _ => out
  | k + 1, out, a => if a < out.length then bfs p k ((nearN p (out.getD a 0)).foldl addN out) (a + 1) else out
def walkN (p : T_Network) (v : Int) : List Int := bfs p 41 [v] 0
/-- Different nodes. -/
structure OkW (n : Nat) (s : List Int) : Prop where
  rng : ∀ x, x ∈ s → 0 ≤ x ∧ x < n
  nd : s.Nodup
theorem nodup_le : ∀ (n : Nat) (s : List Int), (∀ x, x ∈ s → 0 ≤ x ∧ x < n) → s.Nodup → s.length ≤ n
  | 0, s, h, _ => by
    cases s with
    | nil => simp
    | cons a s => have := h a (by simp); omega
  | n + 1, s, h, nd => by
    by_cases hm : (n : Int) ∈ s
    · have h1 := nodup_le n (s.erase n) (fun x hx => by
        have h2 := h x (List.mem_of_mem_erase hx)
        have h3 : x ≠ n := fun e => by subst e; exact (List.Nodup.not_mem_erase nd) hx
        omega) (nd.erase _)
      rw [List.length_erase_of_mem hm] at h1
      omega
    · exact Nat.le_succ_of_le (nodup_le n s (fun x hx => by
        have h2 := h x hx
        have h3 : x ≠ n := fun e => by subst e; exact hm hx
        omega) nd)
theorem OkW.le {n : Nat} {s : List Int} (h : OkW n s) : s.length ≤ n := nodup_le n s h.rng h.nd
theorem OkW.add {n : Nat} {s : List Int} (h : OkW n s) {x : Int} (hx : 0 ≤ x ∧ x < n) : OkW n (addN s x) := by
  unfold addN
  split
  · exact h
  · rename_i hm
    refine ⟨fun y hy => ?_, ?_⟩
    · rcases List.mem_append.1 hy with h1 | h1
      · exact h.rng y h1
      · rw [List.mem_singleton.1 h1]; exact hx
    · rw [List.nodup_append]
      exact ⟨h.nd, by simp, fun a ha b hb e => by rw [List.mem_singleton.1 hb] at e; rw [e] at ha; exact hm ha⟩
theorem OkW.fold {n : Nat} {xs : List Int} : ∀ {s : List Int}, OkW n s → (∀ x, x ∈ xs → 0 ≤ x ∧ x < n) → OkW n (xs.foldl addN s) := by
  induction xs with
  | nil => intro s h _; exact h
  | cons x xs ih => intro s h hx; exact ih (h.add (hx x (by simp))) fun y hy => hx y (by simp [hy])
theorem addN_len (s : List Int) (x : Int) : s.length ≤ (addN s x).length := by
  unfold addN
  split <;> simp
theorem fold_len (xs : List Int) : ∀ (s : List Int), s.length ≤ (xs.foldl addN s).length := by
  induction xs with
  | nil => intro s; exact Nat.le_refl _
  | cons x xs ih => intro s; exact Nat.le_trans (addN_len s x) (ih _)
theorem near_in {p : T_Network} (g : GoodN p) (v : Int) : ∀ x, x ∈ nearN p v → 0 ≤ x ∧ x < (p.Ends.length : Nat) := by
  intro x hx
  unfold nearN rowAt at hx
  obtain ⟨e, he, rfl⟩ := List.mem_map.1 hx
  rw [List.getD_eq_getElem?_getD] at he
  cases h : p.Ends[v.toNat]? with
  | none => rw [h] at he; simp at he
  | some r =>
    rw [h] at he
    obtain ⟨i, hi⟩ := List.mem_iff_getElem?.1 he
    exact g.node _ r h i e hi
theorem rowAt_6 {p : T_Network} (g : GoodN p) (v : Int) : (rowAt p v).length ≤ 6 := by
  unfold rowAt
  rw [List.getD_eq_getElem?_getD]
  cases h : p.Ends[v.toNat]? with
  | none => simp
  | some r => exact g.row _ r h
theorem getD_in {n : Nat} {s : List Int} (h : OkW n s) {a : Nat} (ha : a < s.length) : 0 ≤ s.getD a 0 ∧ s.getD a 0 < n := by
  rw [List.getD_eq_getElem?_getD, List.getElem?_eq_getElem ha]
  exact h.rng _ (List.getElem_mem ha)
theorem ix_getD {s : List Int} {a : Nat} (ha : a < s.length) : ix s (a : Int) = some (s.getD a 0) := by
  rw [ix_nat, List.getD_eq_getElem?_getD, List.getElem?_eq_getElem ha]; rfl
theorem bfs_ok {p : T_Network} (g : GoodN p) : ∀ (k : Nat) {s : List Int} (a : Nat), OkW p.Ends.length s → OkW p.Ends.length (bfs p k s a)
  | 0, s, a, h => h
  | k + 1, s, a, h => by
    unfold bfs
    split
    · exact bfs_ok g k (a + 1) (h.fold (near_in g _))
    · exact h
theorem walkN_ok {p : T_Network} (g : GoodN p) {v : Int} (hv : 0 ≤ v ∧ v < p.Ends.length) : OkW p.Ends.length (walkN p v) :=
  bfs_ok g 41 0 ⟨fun x hx => by rw [List.mem_singleton.1 hx]; exact hv, by simp⟩
theorem bfs_pre (p : T_Network) : ∀ (k : Nat) (s : List Int) (a : Nat), s.length ≤ (bfs p k s a).length
  | 0, s, a => Nat.le_refl _
  | k + 1, s, a => by
    unfold bfs
    split
    · exact Nat.le_trans (fold_len _ s) (bfs_pre p k _ (a + 1))
    · exact Nat.le_refl _
theorem e_neNear (p : T_Network) (g : GoodN p) (v : Int) (hv : 0 ≤ v ∧ v < p.Ends.length) : fS_neNear p v = some (nearN p v) := by
  unfold fS_neNear
  have h6 := rowAt_6 g v
  rw [ix_row hv.1 hv.2, sb]
  have := forI_inv0 (ρ := List Int) (body := fS_neNear_s1) (fun j => ((rowAt p v).take j).map T_End.Node) (rowAt p v) (fun j e he => by
    have hj := (List.getElem?_eq_some_iff.1 he).1
    unfold fS_neNear_s1 push
    rw [if_pos (by simp; omega), sb, List.take_add_one, he]
    simp)
  simp only [List.take_zero, List.map_nil, List.take_length] at this
  rw [this, sb]; rfl
theorem isWalk_row (n : Nat) (hn : n ≤ 1000) (xs s : List Int) (h : OkW n s) (hx : ∀ x, x ∈ xs → 0 ≤ x ∧ x < n) : forI fS_isWalk_s2 xs 0 s = some (.inl (xs.foldl addN s)) := by
  refine (forI_fold (body := fS_isWalk_s2) addN id (OkW n) xs 0 s h fun k x s hxm hs => ?_).1
  have := hs.le
  refine ⟨?_, hs.add (hx x hxm)⟩
  unfold fS_isWalk_s2 addN
  simp only [id_eq]
  rw [e_l1Has, sb]
  by_cases hm : x ∈ s
  · simp [hm]
  · rw [if_pos (by simp [hm])]
    unfold push
    rw [if_pos (by omega), sb, if_neg hm]
theorem isWalk_loop (p : T_Network) (g : GoodN p) : ∀ (d : Nat) (out : List Int) (a k fuel : Nat), OkW p.Ends.length out → a ≤ out.length → p.Ends.length = a + d → d < k → d < fuel →
    ∃ a', loopF (fS_isWalk_s1 p) fuel (out, (a : Int)) = some (.inl (bfs p k out a, a')) := by
  intro d
  induction d with
  | zero =>
    intro out a k fuel h ha hd hk hf
    have := h.le
    obtain ⟨fuel, rfl⟩ : ∃ m, fuel = m + 1 := ⟨fuel - 1, by omega⟩
    obtain ⟨k, rfl⟩ : ∃ m, k = m + 1 := ⟨k - 1, by omega⟩
    refine ⟨(a : Int), ?_⟩
    rw [loopF_out (t := (out, (a : Int))) (by unfold fS_isWalk_s1; simp only; rw [if_neg (by simp; omega)])]
    unfold bfs
    rw [if_neg (by omega)]
  | succ d ih =>
    intro out a k fuel h ha hd hk hf
    have hle := h.le
    obtain ⟨fuel, rfl⟩ : ∃ m, fuel = m + 1 := ⟨fuel - 1, by omega⟩
    obtain ⟨k, rfl⟩ : ∃ m, k = m + 1 := ⟨k - 1, by omega⟩
    by_cases hlt : a < out.length
    · have hin := getD_in h hlt
      have hn2 := g.n2
      have e : fS_isWalk_s1 p (out, (a : Int)) = some (.go ((nearN p (out.getD a 0)).foldl addN out, ((a + 1 : Nat) : Int))) := by
        unfold fS_isWalk_s1
        simp only
        rw [if_pos (by simpa using hlt), ix_getD hlt, sb, e_neNear p g _ hin, sb, isWalk_row _ (by omega) _ _ h (near_in g _), sb]
        simp only
        rw [ck_in (by omega) (by omega), sb]; simp
      rw [loopF_go e]
      unfold bfs
      rw [if_pos hlt]
      exact ih _ (a + 1) k fuel (h.fold (near_in g _)) (by have := fold_len (nearN p (out.getD a 0)) out; omega) (by omega) (by omega) (by omega)
    · refine ⟨(a : Int), ?_⟩
      rw [loopF_out (t := (out, (a : Int))) (by unfold fS_isWalk_s1; simp only; rw [if_neg (by simp; omega)])]
      unfold bfs
      rw [if_neg hlt]
theorem start_ok {n : Nat} {v : Int} (hv : 0 ≤ v ∧ v < n) : OkW n [v] := ⟨fun x hx => by rw [List.mem_singleton.1 hx]; exact hv, by simp⟩
theorem e_isWalk (fuel : Nat) (hf : 100 ≤ fuel) (p : T_Network) (g : GoodN p) (v : Int) (hv : 0 ≤ v ∧ v < p.Ends.length) : fS_isWalk fuel p v = some (walkN p v) := by
  unfold fS_isWalk
  have hn2 := g.n2
  obtain ⟨a', h⟩ := isWalk_loop p g p.Ends.length [v] 0 41 fuel (start_ok hv) (by simp) (by omega) (by omega) (by omega)
  rw [show ((0 : Nat) : Int) = 0 from rfl] at h
  rw [h, sb]; rfl

/-! ### The numbers of the nodes -/
/-- The map of the program: where each node stands in the walk, the last one first. -/
def mOf (W : List Int) : List (Int × Int) := (W.zipIdx.map fun q => (q.1, (q.2 : Int))).reverse
theorem mOf_snoc (W : List Int) (x : Int) : mOf (W ++ [x]) = (x, (W.length : Int)) :: mOf W := by
  unfold mOf
  simp [List.zipIdx_append]
theorem mlook_cons (k y : Int) (m : List (Int × Int)) (x : Int) : mlook ((k, y) :: m) x = if x = k then some y else mlook m x := by
  unfold mlook
  rw [List.lookup_cons]
  by_cases h : x = k
  · subst h; simp
  · have : (x == k) = false := by simpa using h
    rw [this, if_neg h]
theorem mOf_some (W : List Int) : ∀ x, (mlook (mOf W) x).isSome = decide (x ∈ W) := by
  generalize hn : W.length = n
  induction n generalizing W with
  | zero => intro x; rw [List.eq_nil_of_length_eq_zero hn]; rfl
  | succ n ih =>
    intro x
    obtain ⟨V, y, rfl⟩ : ∃ V y, W = V ++ [y] := ⟨W.dropLast, W.getLast (by intro e; subst e; simp at hn), (List.dropLast_concat_getLast _).symm⟩
    rw [mOf_snoc, mlook_cons]
    have := ih V (by simp at hn; omega) x
    by_cases e : x = y
    · simp [e]
    · rw [if_neg e, this]; simp [e]
def numN (W : List Int) (x : Int) : Int := (mlook (mOf W) x).getD 0
theorem numN_snoc (W : List Int) (y x : Int) : numN (W ++ [y]) x = if x = y then (W.length : Int) else numN W x := by
  unfold numN
  rw [mOf_snoc, mlook_cons]
  split <;> rfl
theorem numN_nil (x : Int) : numN [] x = 0 := rfl
theorem numN_in (W : List Int) : ∀ x, 0 ≤ numN W x ∧ numN W x ≤ W.length := by
  generalize hn : W.length = n
  induction n generalizing W with
  | zero => intro x; rw [List.eq_nil_of_length_eq_zero hn, numN_nil]; simp
  | succ n ih =>
    intro x
    obtain ⟨V, y, rfl⟩ : ∃ V y, W = V ++ [y] := ⟨W.dropLast, W.getLast (by intro e; subst e; simp at hn), (List.dropLast_concat_getLast _).symm⟩
    rw [numN_snoc]
    have := ih V (by simp at hn; omega) x
    simp at hn
    split <;> omega

/-! ### The code -/
def rowCode (W : List Int) (row : List T_End) : List Int := row.flatMap fun e => [numN W e.Node, e.Port]
def idAt (p : T_Network) (v : Int) : Int := if decide ((p.Ids.length : Int) > 0) then p.Ids.getD v.toNat 0 else 0
def nodeCode (p : T_Network) (W : List Int) (v : Int) : List Int := [((rowAt p v).length : Int), p.Inputs.getD v.toNat 0, idAt p v] ++ rowCode W (rowAt p v)
def codeN (p : T_Network) (W : List Int) : List Int := W.flatMap (nodeCode p W)
theorem rowCode_len (W : List Int) (row : List T_End) : (rowCode W row).length = 2 * row.length := by
  induction row with
  | nil => rfl
  | cons e row ih => simp only [rowCode, List.flatMap_cons, List.length_append, List.length_cons, List.length_nil] at *; omega
theorem flat_len (p : T_Network) (g : GoodN p) (W : List Int) (xs : List Int) : (xs.flatMap (nodeCode p W)).length ≤ 15 * xs.length := by
  induction xs with
  | nil => simp
  | cons x xs ih =>
    have := rowAt_6 g x
    simp only [List.flatMap_cons, List.length_append, List.length_cons, nodeCode, rowCode_len, List.length_nil] at *
    omega
theorem ix_getZ {s : List Int} {v : Int} (h0 : 0 ≤ v) (h1 : v < s.length) : ix s v = some (s.getD v.toNat 0) := by
  unfold ix
  rw [if_pos h0, List.getD_eq_getElem?_getD, List.getElem?_eq_getElem (by omega)]; rfl
/-- A row of ends, on any side: a body that looks a number up and appends. -/
theorem rowCode_loop {ρ : Type} (body : Int → T_End → List Int → Option (Lp (List Int) (List Int) ρ)) (W : List Int) (row : List T_End) (n : Nat)
    (hb : ∀ (k : Int) e s, e ∈ row → body k e s = (cat s [numN W e.Node, e.Port]) >>= fun x => some (.go x)) (s : List Int) (hs : s.length + 2 * row.length ≤ 1000000000) :
    forI body row 0 s = some (.inl (s ++ rowCode W row)) := by
  have := forI_inv0 (ρ := ρ) (body := body) (fun j => s ++ rowCode W (row.take j)) row (fun j e he => by
    have hj := (List.getElem?_eq_some_iff.1 he).1
    rw [hb _ _ _ (List.mem_of_getElem? he)]
    have hl := rowCode_len W (row.take j)
    rw [List.length_take] at hl
    unfold cat
    rw [if_pos (by simp only [List.length_append, List.length_cons, List.length_nil]; omega), sb, List.take_add_one, he]
    simp [rowCode, List.flatMap_append])
  simp only [List.take_zero, List.take_length] at this
  simpa [rowCode] using this
theorem isCode_num (n : Nat) (W : List Int) (h : ∀ x, x ∈ W → 0 ≤ x ∧ x < n) : forI fS_isCode_s1 W 0 (List.replicate n 0) = some (.inl ((List.range n).map fun i : Nat => numN W (i : Int))) := by
  have := forI_inv0 (ρ := List Int) (body := fS_isCode_s1) (fun j : Nat => (List.range n).map fun i : Nat => numN (W.take j) (i : Int)) W (fun j x hx => by
    have hj := (List.getElem?_eq_some_iff.1 hx).1
    have hr := h x (List.mem_of_getElem? hx)
    unfold fS_isCode_s1
    rw [ix_getZ hr.1 (by simp; omega), sb]
    unfold st
    rw [if_pos ⟨hr.1, by simp; omega⟩, sb]
    congr 2
    refine List.ext_getElem (by simp) fun i h1 h2 => ?_
    simp only [List.length_set, List.length_map, List.length_range] at h1
    rw [List.getElem_set]
    simp only [List.getElem_map, List.getElem_range]
    rw [List.take_add_one, hx]
    simp only [Option.toList_some]
    rw [numN_snoc, List.length_take]
    by_cases e : x.toNat = i
    · rw [if_pos e, if_pos (by omega)]; omega
    · rw [if_neg e, if_neg (by omega)])
  have e0 : ((List.range n).map fun i : Nat => numN (W.take 0) (i : Int)) = List.replicate n 0 := by
    refine List.ext_getElem (by simp) fun i h1 h2 => ?_
    simp [numN_nil]
  rw [e0, List.take_length] at this
  exact this
theorem ix_num {n : Nat} {W : List Int} {x : Int} (h : 0 ≤ x ∧ x < n) : ix ((List.range n).map fun i : Nat => numN W (i : Int)) x = some (numN W x) := by
  unfold ix
  rw [if_pos h.1, List.getElem?_map, List.getElem?_range (by omega)]
  simp only [Option.map_some, Option.some.injEq]
  rw [Int.toNat_of_nonneg h.1]
theorem mem_row_in {p : T_Network} (g : GoodN p) {v : Int} {e : T_End} (h : e ∈ rowAt p v) : 0 ≤ e.Node ∧ e.Node < (p.Ends.length : Nat) := near_in g v _ (List.mem_map.2 ⟨e, h, rfl⟩)
theorem cat_code {p : T_Network} (g : GoodN p) {W : List Int} {j : Nat} {x : Int} (hj : W[j]? = some x) (hW : W.length ≤ 40) :
    cat ((W.take j).flatMap (nodeCode p W)) [((rowAt p x).length : Int), p.Inputs.getD x.toNat 0, idAt p x] = some ((W.take j).flatMap (nodeCode p W) ++ [((rowAt p x).length : Int), p.Inputs.getD x.toNat 0, idAt p x]) := by
  have := flat_len p g W (W.take j)
  rw [List.length_take] at this
  unfold cat
  rw [if_pos (by simp only [List.length_cons, List.length_nil]; omega)]
theorem take_code {p : T_Network} {W : List Int} {j : Nat} {x : Int} (hj : W[j]? = some x) :
    (W.take (j + 1)).flatMap (nodeCode p W) = (W.take j).flatMap (nodeCode p W) ++ [((rowAt p x).length : Int), p.Inputs.getD x.toNat 0, idAt p x] ++ rowCode W (rowAt p x) := by
  rw [List.take_add_one, hj]
  simp [nodeCode, List.flatMap_append]
theorem isCode_row (p : T_Network) (g : GoodN p) (W : List Int) (h : OkW p.Ends.length W) (j : Nat) (x : Int) (hj : W[j]? = some x) (s : List Int) (hs : s = (W.take j).flatMap (nodeCode p W)) :
    fS_isCode_s2 p ((List.range p.Ends.length).map fun i : Nat => numN W (i : Int)) j x s = some (.go ((W.take (j + 1)).flatMap (nodeCode p W))) := by
  subst hs
  have hx := h.rng x (List.mem_of_getElem? hj)
  have hW := h.le
  have hn2 := g.n2
  have h6 := rowAt_6 g x
  have hfl := flat_len p g W (W.take j)
  rw [List.length_take] at hfl
  have hinp := g.inp
  unfold fS_isCode_s2
  have hcat := cat_code g hj (by omega)
  by_cases hid : (p.Ids.length : Int) > 0
  · have hids : p.Ids.length = p.Ends.length := by
      rcases g.ids with h | h
      · rw [h] at hid; simp at hid
      · exact h
    have e1 : idAt p x = p.Ids.getD x.toNat 0 := by unfold idAt; rw [if_pos (by simpa using hid)]
    rw [e1] at hcat
    rw [if_pos (by simpa using hid), ix_getZ hx.1 (by omega), sb, ix_row hx.1 hx.2, sb, ix_getZ hx.1 (by omega), sb, hcat, sb, sb,
      rowCode_loop _ W _ 0 (fun k e s he => by unfold fS_isCode_s3; rw [ix_num (mem_row_in g he), sb]) _ (by simp only [List.length_append, List.length_cons, List.length_nil]; omega), sb, take_code hj, e1]
  · have e1 : idAt p x = 0 := by unfold idAt; rw [if_neg (by simpa using hid)]
    rw [e1] at hcat
    rw [if_neg (by simpa using hid), ix_row hx.1 hx.2, sb, ix_getZ hx.1 (by omega), sb, hcat, sb, sb,
      rowCode_loop _ W _ 0 (fun k e s he => by unfold fS_isCode_s4; rw [ix_num (mem_row_in g he), sb]) _ (by simp only [List.length_append, List.length_cons, List.length_nil]; omega), sb, take_code hj, e1]
theorem e_isCode (p : T_Network) (g : GoodN p) (W : List Int) (h : OkW p.Ends.length W) : fS_isCode p W = some (codeN p W) := by
  unfold fS_isCode mk
  have hn2 := g.n2
  rw [if_pos (by omega), sb, Int.toNat_natCast, show (Rz.z : Int) = 0 from rfl, isCode_num _ W h.rng, sb]
  have := forI_inv0 (ρ := List Int) (body := fS_isCode_s2 p ((List.range p.Ends.length).map fun i : Nat => numN W (i : Int))) (fun j => (W.take j).flatMap (nodeCode p W)) W (fun j x hx => isCode_row p g W h j x hx _ rfl)
  simp only [List.take_zero, List.take_length, List.flatMap_nil] at this
  simp only
  rw [this, sb]; rfl
theorem e_isFrom (fuel : Nat) (hf : 100 ≤ fuel) (p : T_Network) (g : GoodN p) (v : Int) (hv : 0 ≤ v ∧ v < p.Ends.length) : fS_isFrom fuel p v = some (codeN p (walkN p v)) := by
  unfold fS_isFrom
  rw [e_isWalk fuel hf p g v hv, sb, e_isCode p g _ (walkN_ok g hv), sb]

/-! ### The program's walk -/
theorem mgo_num {n : Nat} (hn : n ≤ 1000) (W : List Int) {x : Int} (h : 0 ≤ x ∧ x < n) : mgo (mOf W) x = some (numN W x, decide (x ∈ W)) := by
  unfold mgo
  rw [if_pos (by omega), mOf_some]; rfl
theorem mOf_len (W : List Int) : (mOf W).length = W.length := by simp [mOf]
theorem mput_num {n : Nat} (hn : n ≤ 1000) (W : List Int) (hW : W.length ≤ 1000) {x : Int} (h : 0 ≤ x ∧ x < n) : mput (mOf W) x (W.length : Int) = some (mOf (W ++ [x])) := by
  unfold mput
  rw [if_pos (by rw [mOf_len]; omega), mOf_snoc]
theorem codeFrom_row (n : Nat) (hn : n ≤ 1000) (row : List T_End) (s : List Int) (h : OkW n s) (hx : ∀ e, e ∈ row → 0 ≤ e.Node ∧ e.Node < n) :
    forI fI_codeFrom_s2 row 0 (s, mOf s) = some (.inl ((row.map T_End.Node).foldl addN s, mOf ((row.map T_End.Node).foldl addN s))) := by
  have := (forI_fold (body := fI_codeFrom_s2) (fun s e => addN s e.Node) (fun s => (s, mOf s)) (OkW n) row 0 s h fun k x s hxm hs => by
    have := hs.le
    have hr := hx x hxm
    refine ⟨?_, hs.add hr⟩
    unfold fI_codeFrom_s2 addN
    simp only
    rw [mgo_num hn s hr, sb]
    by_cases hm : x.Node ∈ s
    · simp [hm]
    · rw [if_pos (by simp [hm]), mput_num hn s (by omega) hr, sb]
      unfold push
      rw [if_pos (by omega), sb, if_neg hm]).1
  rw [this, List.foldl_map]
theorem codeFrom_loop (p : T_Network) (g : GoodN p) : ∀ (d : Nat) (out : List Int) (a k fuel : Nat), OkW p.Ends.length out → a ≤ out.length → p.Ends.length = a + d → d < k → d < fuel →
    ∃ a', loopF (fI_codeFrom_s1 p) fuel (out, mOf out, (a : Int)) = some (.inl (bfs p k out a, mOf (bfs p k out a), a')) := by
  intro d
  induction d with
  | zero =>
    intro out a k fuel h ha hd hk hf
    have := h.le
    obtain ⟨fuel, rfl⟩ : ∃ m, fuel = m + 1 := ⟨fuel - 1, by omega⟩
    obtain ⟨k, rfl⟩ : ∃ m, k = m + 1 := ⟨k - 1, by omega⟩
    refine ⟨(a : Int), ?_⟩
    rw [loopF_out (t := (out, mOf out, (a : Int))) (by unfold fI_codeFrom_s1; simp only; rw [if_neg (by simp; omega)])]
    unfold bfs
    rw [if_neg (by omega)]
  | succ d ih =>
    intro out a k fuel h ha hd hk hf
    have hle := h.le
    obtain ⟨fuel, rfl⟩ : ∃ m, fuel = m + 1 := ⟨fuel - 1, by omega⟩
    obtain ⟨k, rfl⟩ : ∃ m, k = m + 1 := ⟨k - 1, by omega⟩
    by_cases hlt : a < out.length
    · have hin := getD_in h hlt
      have hn2 := g.n2
      have e : fI_codeFrom_s1 p (out, mOf out, (a : Int)) = some (.go ((nearN p (out.getD a 0)).foldl addN out, mOf ((nearN p (out.getD a 0)).foldl addN out), ((a + 1 : Nat) : Int))) := by
        unfold fI_codeFrom_s1
        simp only
        rw [if_pos (by simpa using hlt), ix_getD hlt, sb, ix_row hin.1 hin.2, sb, codeFrom_row p.Ends.length (by omega) _ _ h (fun e he => mem_row_in g he), sb]
        simp only
        rw [ck_in (by omega) (by omega), sb]; simp [nearN]
      rw [loopF_go e]
      unfold bfs
      rw [if_pos hlt]
      exact ih _ (a + 1) k fuel (h.fold (near_in g _)) (by have := fold_len (nearN p (out.getD a 0)) out; omega) (by omega) (by omega) (by omega)
    · refine ⟨(a : Int), ?_⟩
      rw [loopF_out (t := (out, mOf out, (a : Int))) (by unfold fI_codeFrom_s1; simp only; rw [if_neg (by simp; omega)])]
      unfold bfs
      rw [if_neg hlt]
theorem codeFrom_node (p : T_Network) (g : GoodN p) (W : List Int) (h : OkW p.Ends.length W) (j : Nat) (x : Int) (hj : W[j]? = some x) (s : List Int) (hs : s = (W.take j).flatMap (nodeCode p W)) :
    fI_codeFrom_s3 p (mOf W) j x s = some (.go ((W.take (j + 1)).flatMap (nodeCode p W))) := by
  subst hs
  have hx := h.rng x (List.mem_of_getElem? hj)
  have hW := h.le
  have hn2 := g.n2
  have h6 := rowAt_6 g x
  have hfl := flat_len p g W (W.take j)
  rw [List.length_take] at hfl
  have hinp := g.inp
  unfold fI_codeFrom_s3
  have hcat := cat_code g hj (by omega)
  by_cases hid : (p.Ids.length : Int) > 0
  · have hids : p.Ids.length = p.Ends.length := by
      rcases g.ids with h | h
      · rw [h] at hid; simp at hid
      · exact h
    have e1 : idAt p x = p.Ids.getD x.toNat 0 := by unfold idAt; rw [if_pos (by simpa using hid)]
    rw [e1] at hcat
    rw [if_pos (by simpa using hid), ix_getZ hx.1 (by omega), sb, ix_row hx.1 hx.2, sb, ix_getZ hx.1 (by omega), sb, hcat, sb, sb,
      rowCode_loop _ W _ 0 (fun k e s he => by unfold fI_codeFrom_s4; rw [mgo_num (n := p.Ends.length) (by omega) W (mem_row_in g he), sb]) _ (by simp only [List.length_append, List.length_cons, List.length_nil]; omega), sb, take_code hj, e1]
  · have e1 : idAt p x = 0 := by unfold idAt; rw [if_neg (by simpa using hid)]
    rw [e1] at hcat
    rw [if_neg (by simpa using hid), ix_row hx.1 hx.2, sb, ix_getZ hx.1 (by omega), sb, hcat, sb, sb,
      rowCode_loop _ W _ 0 (fun k e s he => by unfold fI_codeFrom_s5; rw [mgo_num (n := p.Ends.length) (by omega) W (mem_row_in g he), sb]) _ (by simp only [List.length_append, List.length_cons, List.length_nil]; omega), sb, take_code hj, e1]
theorem e_codeFrom (fuel : Nat) (hf : 100 ≤ fuel) (p : T_Network) (g : GoodN p) (v : Int) (hv : 0 ≤ v ∧ v < p.Ends.length) : fI_codeFrom fuel p v = some (codeN p (walkN p v), walkN p v) := by
  unfold fI_codeFrom
  have hn2 := g.n2
  have e0 : mput ([] : List (Int × Int)) v 0 = some (mOf [v]) := mput_num (n := p.Ends.length) (by omega) [] (by simp) hv
  obtain ⟨a', h⟩ := codeFrom_loop p g p.Ends.length [v] 0 41 fuel (start_ok hv) (by simp) (by omega) (by omega) (by omega)
  rw [show ((0 : Nat) : Int) = 0 from rfl] at h
  rw [e0, sb, h, sb]
  simp only
  have := forI_inv0 (ρ := List Int × List Int) (body := fI_codeFrom_s3 p (mOf (walkN p v))) (fun j => ((walkN p v).take j).flatMap (nodeCode p (walkN p v))) (walkN p v) (fun j x hx => codeFrom_node p g _ (walkN_ok g hv) j x hx _ rfl)
  simp only [List.take_zero, List.take_length, List.flatMap_nil] at this
  unfold walkN at this
  rw [this, sb]; rfl
theorem szN_of {p : T_Network} (h : szN p ≤ 1048576) : SzN p := by
  unfold szN at h
  exact ⟨by omega, by omega, by omega, fun r hr => by have := sumN_mem hr; omega⟩
theorem e_EqualN (xs ys : List Int) (hl : xs.length ≤ 1000000000) (hy : ys.length ≤ 1000000000) : fX_slices_Equal_int_int xs ys = some (decide (xs = ys)) := by
  unfold fX_slices_Equal_int_int
  by_cases h : xs.length = ys.length
  · rw [if_neg (by simp [h]), ck_in (by omega) (by omega), sb]
    simp only [Int.toNat_natCast]
    rw [forN_first0 (fun k x => if x = ys.getD k 0 then none else some false) xs (fun j x hj _ => by
      have hjl := (List.getElem?_eq_some_iff.1 hj).1
      unfold fX_slices_Equal_int_int_s1
      rw [ix_nat, hj, sb, ix_lt _ _ (show j < ys.length by omega), sb]
      have : ys.getD j 0 = ys[j]'(by omega) := by simp [List.getElem?_eq_getElem (show j < ys.length by omega)]
      simp only [this]
      by_cases e : x = ys[j]'(by omega)
      · simp [e, lpP]
      · simp [e, lpP]), sb]
    cases hc : firstP (fun k x => if x = ys.getD k 0 then none else some false) xs 0 with
    | none =>
      have : xs = ys := by
        refine List.ext_getElem h fun j h1 h2 => ?_
        have := firstP_none.1 hc j _ (List.getElem?_eq_getElem h1)
        rw [Nat.zero_add] at this
        split at this
        · rename_i e
          rw [e]
          simp [List.getElem?_eq_getElem h2]
        · cases this
      simp [outP, this]
    | some r =>
      obtain ⟨j, x, h1, h2⟩ := firstP_some hc
      rw [Nat.zero_add] at h2
      split at h2
      · cases h2
      · rename_i hne
        cases h2
        have : xs ≠ ys := fun e => hne (by rw [← e]; simp [h1])
        simp [outP, this]
  · rw [if_pos (by simp; omega)]
    have : xs ≠ ys := fun e => h (by rw [e])
    simp [this]
theorem codeN_len {p : T_Network} (g : GoodN p) {v : Int} (hv : 0 ≤ v ∧ v < p.Ends.length) : (codeN p (walkN p v)).length ≤ 1000 := by
  have h1 := flat_len p g (walkN p v) (walkN p v)
  have h2 := (walkN_ok g hv).le
  have h3 := g.n2
  unfold codeN
  omega
/-- A good network and one of its nodes. -/
def nodeN (p : T_Network) (v : Int) : Bool := netB p && inB 0 ((p.Ends.length : Int) - 1) v
theorem nodeN_good {p : T_Network} {v : Int} (h : nodeN p v = true) : GoodN p ∧ 0 ≤ v ∧ v < p.Ends.length := by
  unfold nodeN at h
  rw [Bool.and_eq_true] at h
  have := inB_iff.1 h.2
  exact ⟨netB_good h.1, by omega, by omega⟩
theorem e_neNode (p : T_Network) (hp : SzN p) (v : Int) : fS_neNode p v = some (nodeN p v) := by
  unfold fS_neNode nodeN
  have := hp.ends
  rw [e_neGood p hp, sb]
  cases netB p
  · simp [sb]
  · rw [if_pos rfl, ck_in (by omega) (by omega), sb, e_l1In, sb, sb]; simp [inB]
theorem e_nodesOk (p q : T_Network) (hp : SzN p) (hq : SzN q) (v w : Int) : fI_nodesOk p v q w = some (nodeN p v && nodeN q w) := by
  unfold fI_nodesOk nodeN
  rw [e_IsNetwork p hp, sb]
  cases netB p
  · simp [sb]
  · rw [if_pos rfl, e_IsNetwork q hq, sb]
    cases netB q
    · simp [sb]
    · rw [if_pos rfl, e_hasNode p hp, sb]
      cases inB 0 ((p.Ends.length : Int) - 1) v
      · simp [sb]
      · rw [if_pos rfl, e_hasNode q hq, sb]; simp [sb]
def sameRootsB (p : T_Network) (v : Int) (q : T_Network) (w : Int) : Bool × Bool := if nodeN p v && nodeN q w then (decide (codeN p (walkN p v) = codeN q (walkN q w)), true) else (false, false)
theorem e_specSameRoots (fuel : Nat) (hf : 100 ≤ fuel) (p q : T_Network) (hp : SzN p) (hq : SzN q) (v w : Int) : fS_SameRoots fuel p v q w = some (sameRootsB p v q w) := by
  unfold fS_SameRoots sameRootsB
  rw [e_neNode p hp, sb]
  cases h1 : nodeN p v
  · simp [sb]
  · obtain ⟨g1, h1'⟩ := nodeN_good h1
    rw [if_neg (by simp), e_neNode q hq, sb, sb]
    cases h2 : nodeN q w
    · simp [sb]
    · obtain ⟨g2, h2'⟩ := nodeN_good h2
      have := codeN_len g1 h1'
      rw [if_neg (by simp), e_isFrom fuel hf p g1 v h1', sb, e_isFrom fuel hf q g2 w h2', sb, e_l1Same _ _ (by omega), sb]; simp
theorem e_sameCodes (fuel : Nat) (hf : 100 ≤ fuel) (p q : T_Network) (g1 : GoodN p) (g2 : GoodN q) (v w : Int) (h1' : 0 ≤ v ∧ v < p.Ends.length) (h2' : 0 ≤ w ∧ w < q.Ends.length) :
    fI_sameCodes fuel p v q w = some (decide (codeN p (walkN p v) = codeN q (walkN q w))) := by
  unfold fI_sameCodes
  have l1 := codeN_len g1 h1'
  have l2 := codeN_len g2 h2'
  rw [e_codeFrom fuel hf p g1 v h1', sb, e_codeFrom fuel hf q g2 w h2', sb, e_EqualN (codeN p (walkN p v)) (codeN q (walkN q w)) (by omega) (by omega), sb]
theorem e_implSameRoots (fuel : Nat) (hf : 100 ≤ fuel) (p q : T_Network) (hp : SzN p) (hq : SzN q) (v w : Int) : fI_SameRoots fuel p v q w = some (sameRootsB p v q w) := by
  unfold fI_SameRoots sameRootsB
  rw [e_nodesOk p q hp hq, sb]
  cases h1 : nodeN p v && nodeN q w
  · simp
  · rw [Bool.and_eq_true] at h1
    obtain ⟨g1, h1'⟩ := nodeN_good h1.1
    obtain ⟨g2, h2'⟩ := nodeN_good h1.2
    rw [if_neg (by simp), e_sameCodes fuel hf p q g1 g2 v w h1' h2', sb]; simp
end Go.Proofs.Ytijaojnaamkinaa
