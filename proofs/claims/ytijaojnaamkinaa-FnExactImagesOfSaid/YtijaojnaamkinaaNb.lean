/- Networks: the walk from a node and its code, on both sides. -/
import Derived.Test.YtijaojnaamkinaaNg
import Derived.Test.YtijaojnaamkinaaGNb
import Derived.Test.YtijaojnaamkinaaLpp
namespace Go.Proofs.Ytijaojnaamkinaa
set_option linter.unusedSimpArgs false
set_option linter.unusedVariables false

/-! ### The walk -/
def addN (s : List Int) (x : Int) : List Int := if x ∈ s then s else s ++ [x]
def nearN (p : T_Network) (v : Int) : List Int := (rowAt p v).map T_End.Node
def bfs (p : T_Network) : Nat → List Int → Nat → List Int
  | 0, out, _ => out
  | k + 1, out, a => if a < out.length then bfs p k ((nearN p (out.getD a 0)).foldl addN out) (a + 1) else out
def walkN (p : T_Network) (v : Int) : List Int := bfs p 41 [v] 0
/-- Different nodes. -/
structure OkW (n : Nat) (s : List Int) : Prop where
  rng : ∀ x, x ∈ s → 0 ≤ x ∧ x < n
  nd : s.Nodup
theorem nodup_le : ∀ (n : Nat) (s : List Int), (∀ x, x ∈ s → 0 ≤ x ∧ x < n) → s.Nodup → s.length ≤ n
  | 0, s, h, _ => by
    cases s with
    | nil => simp
    | cons a s => have := h a (by simp); omega
  | n + 1, s, h, nd => by
    by_cases hm : (n : Int) ∈ s
    · have h1 := nodup_le n (s.erase n) (fun x hx => by
        have h2 := h x (List.mem_of_mem_erase hx)
        have h3 : x ≠ n := fun e => by subst e; exact (List.Nodup.not_mem_erase nd) hx
        omega) (nd.erase _)
      rw [List.length_erase_of_mem hm] at h1
      omega
    · exact Nat.le_succ_of_le (nodup_le n s (fun x hx => by
        have h2 := h x hx
        have h3 : x ≠ n := fun e => by subst e; exact hm hx
        omega) nd)
theorem OkW.le {n : Nat} {s : List Int} (h : OkW n s) : s.length ≤ n := nodup_le n s h.rng h.nd
theorem OkW.add {n : Nat} {s : List Int} (h : OkW n s) {x : Int} (hx : 0 ≤ x ∧ x < n) : OkW n (addN s x) := by
  unfold addN
  split
  · exact h
  · rename_i hm
    refine ⟨fun y hy => ?_, ?_⟩
    · rcases List.mem_append.1 hy with h1 | h1
      · exact h.rng y h1
      · rw [List.mem_singleton.1 h1]; exact hx
    · rw [List.nodup_append]
      exact ⟨h.nd, by simp, fun a ha b hb e => by rw [List.mem_singleton.1 hb] at e; rw [e] at ha; exact hm ha⟩
theorem OkW.fold {n : Nat} {xs : List Int} : ∀ {s : List Int}, OkW n s → (∀ x, x ∈ xs → 0 ≤ x ∧ x < n) → OkW n (xs.foldl addN s) := by
  induction xs with
  | nil => intro s h _; exact h
  | cons x xs ih => intro s h hx; exact ih (h.add (hx x (by simp))) fun y hy => hx y (by simp [hy])
theorem addN_len (s : List Int) (x : Int) : s.length ≤ (addN s x).length := by
  unfold addN
  split <;> simp
theorem fold_len (xs : List Int) : ∀ (s : List Int), s.length ≤ (xs.foldl addN s).length := by
  induction xs with
  | nil => intro s; exact Nat.le_refl _
  | cons x xs ih => intro s; exact Nat.le_trans (addN_len s x) (ih _)
theorem near_in {p : T_Network} (g : GoodN p) (v : Int) : ∀ x, x ∈ nearN p v → 0 ≤ x ∧ x < (p.Ends.length : Nat) := by
  intro x hx
  unfold nearN rowAt at hx
  obtain ⟨e, he, rfl⟩ := List.mem_map.1 hx
  rw [List.getD_eq_getElem?_getD] at he
  cases h : p.Ends[v.toNat]? with
  | none => rw [h] at he; simp at he
  | some r =>
    rw [h] at he
    obtain ⟨i, hi⟩ := List.mem_iff_getElem?.1 he
    exact g.node _ r h i e hi
theorem rowAt_6 {p : T_Network} (g : GoodN p) (v : Int) : (rowAt p v).length ≤ 6 := by
  unfold rowAt
  rw [List.getD_eq_getElem?_getD]
  cases h : p.Ends[v.toNat]? with
  | none => simp
  | some r => exact g.row _ r h
theorem getD_in {n : Nat} {s : List Int} (h : OkW n s) {a : Nat} (ha : a < s.length) : 0 ≤ s.getD a 0 ∧ s.getD a 0 < n := by
  rw [List.getD_eq_getElem?_getD, List.getElem?_eq_getElem ha]
  exact h.rng _ (List.getElem_mem ha)
theorem ix_getD {s : List Int} {a : Nat} (ha : a < s.length) : ix s (a : Int) = some (s.getD a 0) := by
  rw [ix_nat, List.getD_eq_getElem?_getD, List.getElem?_eq_getElem ha]; rfl
theorem bfs_ok {p : T_Network} (g : GoodN p) : ∀ (k : Nat) {s : List Int} (a : Nat), OkW p.Ends.length s → OkW p.Ends.length (bfs p k s a)
  | 0, s, a, h => h
  | k + 1, s, a, h => by
    unfold bfs
    split
    · exact bfs_ok g k (a + 1) (h.fold (near_in g _))
    · exact h
theorem walkN_ok {p : T_Network} (g : GoodN p) {v : Int} (hv : 0 ≤ v ∧ v < p.Ends.length) : OkW p.Ends.length (walkN p v) :=
  bfs_ok g 41 0 ⟨fun x hx => by rw [List.mem_singleton.1 hx]; exact hv, by simp⟩
theorem bfs_pre (p : T_Network) : ∀ (k : Nat) (s : List Int) (a : Nat), s.length ≤ (bfs p k s a).length
  | 0, s, a => Nat.le_refl _
  | k + 1, s, a => by
    unfold bfs
    split
    · exact Nat.le_trans (fold_len _ s) (bfs_pre p k _ (a + 1))
    · exact Nat.le_refl _
theorem e_neNear (p : T_Network) (g : GoodN p) (v : Int) (hv : 0 ≤ v ∧ v < p.Ends.length) : fS_neNear p v = some (nearN p v) := by
  unfold fS_neNear
  have h6 := rowAt_6 g v
  rw [ix_row hv.1 hv.2, sb]
  have := forI_inv0 (ρ := List Int) (body := fS_neNear_s1) (fun j => ((rowAt p v).take j).map T_End.Node) (rowAt p v) (fun j e he => by
    have hj := (List.getElem?_eq_some_iff.1 he).1
    unfold fS_neNear_s1 push
    rw [if_pos (by simp; omega), sb, List.take_add_one, he]
    simp)
  simp only [List.take_zero, List.map_nil, List.take_length] at this
  rw [this, sb]; rfl
theorem isWalk_row (n : Nat) (hn : n ≤ 1000) (xs s : List Int) (h : OkW n s) (hx : ∀ x, x ∈ xs → 0 ≤ x ∧ x < n) : forI fS_isWalk_s2 xs 0 s = some (.inl (xs.foldl addN s)) := by
  refine (forI_fold (body := fS_isWalk_s2) addN id (OkW n) xs 0 s h fun k x s hxm hs => ?_).1
  have := hs.le
  refine ⟨?_, hs.add (hx x hxm)⟩
  unfold fS_isWalk_s2 addN
  simp only [id_eq]
  rw [e_l1Has, sb]
  by_cases hm : x ∈ s
  · simp [hm]
  · rw [if_pos (by simp [hm])]
    unfold push
    rw [if_pos (by omega), sb, if_neg hm]
theorem isWalk_loop (p : T_Network) (g : GoodN p) : ∀ (d : Nat) (out : List Int) (a k fuel : Nat), OkW p.Ends.length out → a ≤ out.length → p.Ends.length = a + d → d < k → d < fuel →
    ∃ a', loopF (fS_isWalk_s1 p) fuel (out, (a : Int)) = some (.inl (bfs p k out a, a')) := by
  intro d
  induction d with
  | zero =>
    intro out a k fuel h ha hd hk hf
    have := h.le
    obtain ⟨fuel, rfl⟩ : ∃ m, fuel = m + 1 := ⟨fuel - 1, by omega⟩
    obtain ⟨k, rfl⟩ : ∃ m, k = m + 1 := ⟨k - 1, by omega⟩
    refine ⟨(a : Int), ?_⟩
    rw [loopF_out (t := (out, (a : Int))) (by unfold fS_isWalk_s1; simp only; rw [if_neg (by simp; omega)])]
    unfold bfs
    rw [if_neg (by omega)]
  | succ d ih =>
    intro out a k fuel h ha hd hk hf
    have hle := h.le
    obtain ⟨fuel, rfl⟩ : ∃ m, fuel = m + 1 := ⟨fuel - 1, by omega⟩
    obtain ⟨k, rfl⟩ : ∃ m, k = m + 1 := ⟨k - 1, by omega⟩
    by_cases hlt : a < out.length
    · have hin := getD_in h hlt
      have hn2 := g.n2
      have e : fS_isWalk_s1 p (out, (a : Int)) = some (.go ((nearN p (out.getD a 0)).foldl addN out, ((a + 1 : Nat) : Int))) := by
        unfold fS_isWalk_s1
        simp only
        rw [if_pos (by simpa using hlt), ix_getD hlt, sb, e_neNear p g _ hin, sb, isWalk_row _ (by omega) _ _ h (near_in g _), sb]
        simp only
        rw [ck_in (by omega) (by omega), sb]; simp
      rw [loopF_go e]
      unfold bfs
      rw [if_pos hlt]
      exact ih _ (a + 1) k fuel (h.fold (near_in g _)) (by have := fold_len (nearN p (out.getD a 0)) out; omega) (by omega) (by omega) (by omega)
    · refine ⟨(a : Int), ?_⟩
      rw [loopF_out (t := (out, (a : Int))) (by unfold fS_isWalk_s1; simp only; rw [if_neg (by simp; omega)])]
      unfold bfs
      rw [if_neg hlt]
theorem start_ok {n : Nat} {v : Int} (hv : 0 ≤ v ∧ v < n) : OkW n [v] := ⟨fun x hx => by rw [List.mem_singleton.1 hx]; exact hv, by simp⟩
theorem e_isWalk (fuel : Nat) (hf : 100 ≤ fuel) (p : T_Network) (g : GoodN p) (v : Int) (hv : 0 ≤ v ∧ v < p.Ends.length) : fS_isWalk fuel p v = some (walkN p v) := by
  unfold fS_isWalk
  have hn2 := g.n2
  obtain ⟨a', h⟩ := isWalk_loop p g p.Ends.length [v] 0 41 fuel (start_ok hv) (by simp) (by omega) (by omega) (by omega)
  rw [show ((0 : Nat) : Int) = 0 from rfl] at h
  rw [h, sb]; rfl

/-! ### The numbers of the nodes -/
/-- The map of the program: where each node stands in the walk, the last one first. -/
def mOf (W : List Int) : List (Int × Int) := (W.zipIdx.map fun q => (q.1, (q.2 : Int))).reverse
theorem mOf_snoc (W : List Int) (x : Int) : mOf (W ++ [x]) = (x, (W.length : Int)) :: mOf W := by
  unfold mOf
  simp [List.zipIdx_append]
theorem mlook_cons (k y : Int) (m : List (Int × Int)) (x : Int) : mlook ((k, y) :: m) x = if x = k then some y else mlook m x := by
  unfold mlook
  rw [List.lookup_cons]
  by_cases h : x = k
  · subst h; simp
  · have : (x == k) = false := by simpa using h
    rw [this, if_neg h]
theorem mOf_some (W : List Int) : ∀ x, (mlook (mOf W) x).isSome = decide (x ∈ W) := by
  generalize hn : W.length = n
  induction n generalizing W with
  | zero => intro x; rw [List.eq_nil_of_length_eq_zero hn]; rfl
  | succ n ih =>
    intro x
    obtain ⟨V, y, rfl⟩ : ∃ V y, W = V ++ [y] := ⟨W.dropLast, W.getLast (by intro e; subst e; simp at hn), (List.dropLast_concat_getLast _).symm⟩
    rw [mOf_snoc, mlook_cons]
    have := ih V (by simp at hn; omega) x
    by_cases e : x = y
    · simp [e]
    · rw [if_neg e, this]; simp [e]
def numN (W : List Int) (x : Int) : Int := (mlook (mOf W) x).getD 0
theorem numN_snoc (W : List Int) (y x : Int) : numN (W ++ [y]) x = if x = y then (W.length : Int) else numN W x := by
  unfold numN
  rw [mOf_snoc, mlook_cons]
  split <;> rfl
theorem numN_nil (x : Int) : numN [] x = 0 := rfl
theorem numN_in (W : List Int) : ∀ x, 0 ≤ numN W x ∧ numN W x ≤ W.length := by
  generalize hn : W.length = n
  induction n generalizing W with
  | zero => intro x; rw [List.eq_nil_of_length_eq_zero hn, numN_nil]; simp
  | succ n ih =>
    intro x
    obtain ⟨V, y, rfl⟩ : ∃ V y, W = V ++ [y] := ⟨W.dropLast, W.getLast (by intro e; subst e; simp at hn), (List.dropLast_concat_getLast _).symm⟩
    rw [numN_snoc]
    have := ih V (by simp at hn; omega) x
    simp at hn
    split <;> omega

/-! ### The code -/
def rowCode (W : List Int) (row : List T_End) : List Int := row.flatMap fun e => [numN W e.Node, e.Port]
def idAt (p : T_Network) (v : Int) : Int := if decide ((p.Ids.length : Int) > 0) then p.Ids.getD v.toNat 0 else 0
def nodeCode (p : T_Network) (W : List Int) (v : Int) : List Int := [((rowAt p v).length : Int), p.Inputs.getD v.toNat 0, idAt p v] ++ rowCode W (rowAt p v)
def codeN (p : T_Network) (W : List Int) : List Int := W.flatMap (nodeCode p W)
theorem rowCode_len (W : List Int) (row : List T_End) : (rowCode W row).length = 2 * row.length := by
  induction row with
  | nil => rfl
  | cons e row ih => simp only [rowCode, List.flatMap_cons, List.length_append, List.length_cons, List.length_nil] at *; omega
theorem flat_len (p : T_Network) (g : GoodN p) (W : List Int) (xs : List Int) : (xs.flatMap (nodeCode p W)).length ≤ 15 * xs.length := by
  induction xs with
  | nil => simp
  | cons x xs ih =>
    have := rowAt_6 g x
    simp only [List.flatMap_cons, List.length_append, List.length_cons, nodeCode, rowCode_len, List.length_nil] at *
    omega
theorem ix_getZ {s : List Int} {v : Int} (h0 : 0 ≤ v) (h1 : v < s.length) : ix s v = some (s.getD v.toNat 0) := by
  unfold ix
  rw [if_pos h0, List.getD_eq_getElem?_getD, List.getElem?_eq_getElem (by omega)]; rfl
/-- A row of ends, on any side: a body that looks a number up and appends. -/
theorem rowCode_loop {ρ : Type} (body : Int → T_End → List Int → Option (Lp (List Int) (List Int) ρ)) (W : List Int) (row : List T_End) (n : Nat)
    (hb : ∀ (k : Int) e s, e ∈ row → body k e s = (cat s [numN W e.Node, e.Port]) >>= fun x => some (.go x)) (s : List Int) (hs : s.length + 2 * row.length ≤ 1000000000) :
    forI body row 0 s = some (.inl (s ++ rowCode W row)) := by
  have := forI_inv0 (ρ := ρ) (body := body) (fun j => s ++ rowCode W (row.take j)) row (fun j e he => by
    have hj := (List.getElem?_eq_some_iff.1 he).1
    rw [hb _ _ _ (List.mem_of_getElem? he)]
    have hl := rowCode_len W (row.take j)
    rw [List.length_take] at hl
    unfold cat
    rw [if_pos (by simp only [List.length_append, List.length_cons, List.length_nil]; omega), sb, List.take_add_one, he]
    simp [rowCode, List.flatMap_append])
  simp only [List.take_zero, List.take_length] at this
  simpa [rowCode] using this
theorem isCode_num (n : Nat) (W : List Int) (h : ∀ x, x ∈ W → 0 ≤ x ∧ x < n) : forI fS_isCode_s1 W 0 (List.replicate n 0) = some (.inl ((List.range n).map fun i : Nat => numN W (i : Int))) := by
  have := forI_inv0 (ρ := List Int) (body := fS_isCode_s1) (fun j : Nat => (List.range n).map fun i : Nat => numN (W.take j) (i : Int)) W (fun j x hx => by
    have hj := (List.getElem?_eq_some_iff.1 hx).1
    have hr := h x (List.mem_of_getElem? hx)
    unfold fS_isCode_s1
    rw [ix_getZ hr.1 (by simp; omega), sb]
    unfold st
    rw [if_pos ⟨hr.1, by simp; omega⟩, sb]
    congr 2
    refine List.ext_getElem (by simp) fun i h1 h2 => ?_
    simp only [List.length_set, List.length_map, List.length_range] at h1
    rw [List.getElem_set]
    simp only [List.getElem_map, List.getElem_range]
    rw [List.take_add_one, hx]
    simp only [Option.toList_some]
    rw [numN_snoc, List.length_take]
    by_cases e : x.toNat = i
    · rw [if_pos e, if_pos (by omega)]; omega
    · rw [if_neg e, if_neg (by omega)])
  have e0 : ((List.range n).map fun i : Nat => numN (W.take 0) (i : Int)) = List.replicate n 0 := by
    refine List.ext_getElem (by simp) fun i h1 h2 => ?_
    simp [numN_nil]
  rw [e0, List.take_length] at this
  exact this
theorem ix_num {n : Nat} {W : List Int} {x : Int} (h : 0 ≤ x ∧ x < n) : ix ((List.range n).map fun i : Nat => numN W (i : Int)) x = some (numN W x) := by
  unfold ix
  rw [if_pos h.1, List.getElem?_map, List.getElem?_range (by omega)]
  simp only [Option.map_some, Option.some.injEq]
  rw [Int.toNat_of_nonneg h.1]
theorem mem_row_in {p : T_Network} (g : GoodN p) {v : Int} {e : T_End} (h : e ∈ rowAt p v) : 0 ≤ e.Node ∧ e.Node < (p.Ends.length : Nat) := near_in g v _ (List.mem_map.2 ⟨e, h, rfl⟩)
theorem cat_code {p : T_Network} (g : GoodN p) {W : List Int} {j : Nat} {x : Int} (hj : W[j]? = some x) (hW : W.length ≤ 40) :
    cat ((W.take j).flatMap (nodeCode p W)) [((rowAt p x).length : Int), p.Inputs.getD x.toNat 0, idAt p x] = some ((W.take j).flatMap (nodeCode p W) ++ [((rowAt p x).length : Int), p.Inputs.getD x.toNat 0, idAt p x]) := by
  have := flat_len p g W (W.take j)
  rw [List.length_take] at this
  unfold cat
  rw [if_pos (by simp only [List.length_cons, List.length_nil]; omega)]
theorem take_code {p : T_Network} {W : List Int} {j : Nat} {x : Int} (hj : W[j]? = some x) :
    (W.take (j + 1)).flatMap (nodeCode p W) = (W.take j).flatMap (nodeCode p W) ++ [((rowAt p x).length : Int), p.Inputs.getD x.toNat 0, idAt p x] ++ rowCode W (rowAt p x) := by
  rw [List.take_add_one, hj]
  simp [nodeCode, List.flatMap_append]
theorem isCode_row (p : T_Network) (g : GoodN p) (W : List Int) (h : OkW p.Ends.length W) (j : Nat) (x : Int) (hj : W[j]? = some x) (s : List Int) (hs : s = (W.take j).flatMap (nodeCode p W)) :
    fS_isCode_s2 p ((List.range p.Ends.length).map fun i : Nat => numN W (i : Int)) j x s = some (.go ((W.take (j + 1)).flatMap (nodeCode p W))) := by
  subst hs
  have hx := h.rng x (List.mem_of_getElem? hj)
  have hW := h.le
  have hn2 := g.n2
  have h6 := rowAt_6 g x
  have hfl := flat_len p g W (W.take j)
  rw [List.length_take] at hfl
  have hinp := g.inp
  unfold fS_isCode_s2
  have hcat := cat_code g hj (by omega)
  by_cases hid : (p.Ids.length : Int) > 0
  · have hids : p.Ids.length = p.Ends.length := by
      rcases g.ids with h | h
      · rw [h] at hid; simp at hid
      · exact h
    have e1 : idAt p x = p.Ids.getD x.toNat 0 := by unfold idAt; rw [if_pos (by simpa using hid)]
    rw [e1] at hcat
    rw [if_pos (by simpa using hid), ix_getZ hx.1 (by omega), sb, ix_row hx.1 hx.2, sb, ix_getZ hx.1 (by omega), sb, hcat, sb, sb,
      rowCode_loop _ W _ 0 (fun k e s he => by unfold fS_isCode_s3; rw [ix_num (mem_row_in g he), sb]) _ (by simp only [List.length_append, List.length_cons, List.length_nil]; omega), sb, take_code hj, e1]
  · have e1 : idAt p x = 0 := by unfold idAt; rw [if_neg (by simpa using hid)]
    rw [e1] at hcat
    rw [if_neg (by simpa using hid), ix_row hx.1 hx.2, sb, ix_getZ hx.1 (by omega), sb, hcat, sb, sb,
      rowCode_loop _ W _ 0 (fun k e s he => by unfold fS_isCode_s4; rw [ix_num (mem_row_in g he), sb]) _ (by simp only [List.length_append, List.length_cons, List.length_nil]; omega), sb, take_code hj, e1]
theorem e_isCode (p : T_Network) (g : GoodN p) (W : List Int) (h : OkW p.Ends.length W) : fS_isCode p W = some (codeN p W) := by
  unfold fS_isCode mk
  have hn2 := g.n2
  rw [if_pos (by omega), sb, Int.toNat_natCast, show (Rz.z : Int) = 0 from rfl, isCode_num _ W h.rng, sb]
  have := forI_inv0 (ρ := List Int) (body := fS_isCode_s2 p ((List.range p.Ends.length).map fun i : Nat => numN W (i : Int))) (fun j => (W.take j).flatMap (nodeCode p W)) W (fun j x hx => isCode_row p g W h j x hx _ rfl)
  simp only [List.take_zero, List.take_length, List.flatMap_nil] at this
  simp only
  rw [this, sb]; rfl
theorem e_isFrom (fuel : Nat) (hf : 100 ≤ fuel) (p : T_Network) (g : GoodN p) (v : Int) (hv : 0 ≤ v ∧ v < p.Ends.length) : fS_isFrom fuel p v = some (codeN p (walkN p v)) := by
  unfold fS_isFrom
  rw [e_isWalk fuel hf p g v hv, sb, e_isCode p g _ (walkN_ok g hv), sb]

/-! ### The program's walk -/
theorem mgo_num {n : Nat} (hn : n ≤ 1000) (W : List Int) {x : Int} (h : 0 ≤ x ∧ x < n) : mgo (mOf W) x = some (numN W x, decide (x ∈ W)) := by
  unfold mgo
  rw [if_pos (by omega), mOf_some]; rfl
theorem mOf_len (W : List Int) : (mOf W).length = W.length := by simp [mOf]
theorem mput_num {n : Nat} (hn : n ≤ 1000) (W : List Int) (hW : W.length ≤ 1000) {x : Int} (h : 0 ≤ x ∧ x < n) : mput (mOf W) x (W.length : Int) = some (mOf (W ++ [x])) := by
  unfold mput
  rw [if_pos (by rw [mOf_len]; omega), mOf_snoc]
theorem codeFrom_row (n : Nat) (hn : n ≤ 1000) (row : List T_End) (s : List Int) (h : OkW n s) (hx : ∀ e, e ∈ row → 0 ≤ e.Node ∧ e.Node < n) :
    forI fI_codeFrom_s2 row 0 (s, mOf s) = some (.inl ((row.map T_End.Node).foldl addN s, mOf ((row.map T_End.Node).foldl addN s))) := by
  have := (forI_fold (body := fI_codeFrom_s2) (fun s e => addN s e.Node) (fun s => (s, mOf s)) (OkW n) row 0 s h fun k x s hxm hs => by
    have := hs.le
    have hr := hx x hxm
    refine ⟨?_, hs.add hr⟩
    unfold fI_codeFrom_s2 addN
    simp only
    rw [mgo_num hn s hr, sb]
    by_cases hm : x.Node ∈ s
    · simp [hm]
    · rw [if_pos (by simp [hm]), mput_num hn s (by omega) hr, sb]
      unfold push
      rw [if_pos (by omega), sb, if_neg hm]).1
  rw [this, List.foldl_map]
theorem codeFrom_loop (p : T_Network) (g : GoodN p) : ∀ (d : Nat) (out : List Int) (a k fuel : Nat), OkW p.Ends.length out → a ≤ out.length → p.Ends.length = a + d → d < k → d < fuel →
    ∃ a', loopF (fI_codeFrom_s1 p) fuel (out, mOf out, (a : Int)) = some (.inl (bfs p k out a, mOf (bfs p k out a), a')) := by
  intro d
  induction d with
  | zero =>
    intro out a k fuel h ha hd hk hf
    have := h.le
    obtain ⟨fuel, rfl⟩ : ∃ m, fuel = m + 1 := ⟨fuel - 1, by omega⟩
    obtain ⟨k, rfl⟩ : ∃ m, k = m + 1 := ⟨k - 1, by omega⟩
    refine ⟨(a : Int), ?_⟩
    rw [loopF_out (t := (out, mOf out, (a : Int))) (by unfold fI_codeFrom_s1; simp only; rw [if_neg (by simp; omega)])]
    unfold bfs
    rw [if_neg (by omega)]
  | succ d ih =>
    intro out a k fuel h ha hd hk hf
    have hle := h.le
    obtain ⟨fuel, rfl⟩ : ∃ m, fuel = m + 1 := ⟨fuel - 1, by omega⟩
    obtain ⟨k, rfl⟩ : ∃ m, k = m + 1 := ⟨k - 1, by omega⟩
    by_cases hlt : a < out.length
    · have hin := getD_in h hlt
      have hn2 := g.n2
      have e : fI_codeFrom_s1 p (out, mOf out, (a : Int)) = some (.go ((nearN p (out.getD a 0)).foldl addN out, mOf ((nearN p (out.getD a 0)).foldl addN out), ((a + 1 : Nat) : Int))) := by
        unfold fI_codeFrom_s1
        simp only
        rw [if_pos (by simpa using hlt), ix_getD hlt, sb, ix_row hin.1 hin.2, sb, codeFrom_row p.Ends.length (by omega) _ _ h (fun e he => mem_row_in g he), sb]
        simp only
        rw [ck_in (by omega) (by omega), sb]; simp [nearN]
      rw [loopF_go e]
      unfold bfs
      rw [if_pos hlt]
      exact ih _ (a + 1) k fuel (h.fold (near_in g _)) (by have := fold_len (nearN p (out.getD a 0)) out; omega) (by omega) (by omega) (by omega)
    · refine ⟨(a : Int), ?_⟩
      rw [loopF_out (t := (out, mOf out, (a : Int))) (by unfold fI_codeFrom_s1; simp only; rw [if_neg (by simp; omega)])]
      unfold bfs
      rw [if_neg hlt]
theorem codeFrom_node (p : T_Network) (g : GoodN p) (W : List Int) (h : OkW p.Ends.length W) (j : Nat) (x : Int) (hj : W[j]? = some x) (s : List Int) (hs : s = (W.take j).flatMap (nodeCode p W)) :
    fI_codeFrom_s3 p (mOf W) j x s = some (.go ((W.take (j + 1)).flatMap (nodeCode p W))) := by
  subst hs
  have hx := h.rng x (List.mem_of_getElem? hj)
  have hW := h.le
  have hn2 := g.n2
  have h6 := rowAt_6 g x
  have hfl := flat_len p g W (W.take j)
  rw [List.length_take] at hfl
  have hinp := g.inp
  unfold fI_codeFrom_s3
  have hcat := cat_code g hj (by omega)
  by_cases hid : (p.Ids.length : Int) > 0
  · have hids : p.Ids.length = p.Ends.length := by
      rcases g.ids with h | h
      · rw [h] at hid; simp at hid
      · exact h
    have e1 : idAt p x = p.Ids.getD x.toNat 0 := by unfold idAt; rw [if_pos (by simpa using hid)]
    rw [e1] at hcat
    rw [if_pos (by simpa using hid), ix_getZ hx.1 (by omega), sb, ix_row hx.1 hx.2, sb, ix_getZ hx.1 (by omega), sb, hcat, sb, sb,
      rowCode_loop _ W _ 0 (fun k e s he => by unfold fI_codeFrom_s4; rw [mgo_num (n := p.Ends.length) (by omega) W (mem_row_in g he), sb]) _ (by simp only [List.length_append, List.length_cons, List.length_nil]; omega), sb, take_code hj, e1]
  · have e1 : idAt p x = 0 := by unfold idAt; rw [if_neg (by simpa using hid)]
    rw [e1] at hcat
    rw [if_neg (by simpa using hid), ix_row hx.1 hx.2, sb, ix_getZ hx.1 (by omega), sb, hcat, sb, sb,
      rowCode_loop _ W _ 0 (fun k e s he => by unfold fI_codeFrom_s5; rw [mgo_num (n := p.Ends.length) (by omega) W (mem_row_in g he), sb]) _ (by simp only [List.length_append, List.length_cons, List.length_nil]; omega), sb, take_code hj, e1]
theorem e_codeFrom (fuel : Nat) (hf : 100 ≤ fuel) (p : T_Network) (g : GoodN p) (v : Int) (hv : 0 ≤ v ∧ v < p.Ends.length) : fI_codeFrom fuel p v = some (codeN p (walkN p v), walkN p v) := by
  unfold fI_codeFrom
  have hn2 := g.n2
  have e0 : mput ([] : List (Int × Int)) v 0 = some (mOf [v]) := mput_num (n := p.Ends.length) (by omega) [] (by simp) hv
  obtain ⟨a', h⟩ := codeFrom_loop p g p.Ends.length [v] 0 41 fuel (start_ok hv) (by simp) (by omega) (by omega) (by omega)
  rw [show ((0 : Nat) : Int) = 0 from rfl] at h
  rw [e0, sb, h, sb]
  simp only
  have := forI_inv0 (ρ := List Int × List Int) (body := fI_codeFrom_s3 p (mOf (walkN p v))) (fun j => ((walkN p v).take j).flatMap (nodeCode p (walkN p v))) (walkN p v) (fun j x hx => codeFrom_node p g _ (walkN_ok g hv) j x hx _ rfl)
  simp only [List.take_zero, List.take_length, List.flatMap_nil] at this
  unfold walkN at this
  rw [this, sb]; rfl
end Go.Proofs.Ytijaojnaamkinaa
