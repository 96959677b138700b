/- CountRootedSolutions of both sides, as the law calls them. -/
import Derived.Test.YtjmhjobfiemmnaaPlx
import Derived.Test.YtjmhjobfiemmnaaGCsr
import Derived.Test.YtjmhjobfiemmnaaGCsx
import Derived.Test.YtjmhjobfiemmnaaAd
namespace Go.Proofs.Ytjmhjobfiemmnaa
set_option linter.unusedSimpArgs false
set_option linter.unusedVariables false

structure OkRow (n : Nat) (r : List Int) : Prop where
  ln : r.length = n
  el : ∀ y ∈ r, 0 ≤ y ∧ y ≤ 1000000000001
theorem OkRow.get {n : Nat} {r : List Int} (h : OkRow n r) {a : Int} (ha : 0 ≤ a ∧ a < n) : ix r a = some (r.getD a.toNat 0) ∧ 0 ≤ r.getD a.toNat 0 ∧ r.getD a.toNat 0 ≤ 1000000000001 := by
  have h1 := h.ln
  have hlt : a.toNat < r.length := by omega
  have e : r.getD a.toNat 0 = r[a.toNat] := by rw [List.getD_eq_getElem?_getD, List.getElem?_eq_getElem hlt]; rfl
  have h2 := h.el _ (List.getElem_mem hlt)
  refine ⟨?_, by omega, by omega⟩
  unfold ix
  rw [if_pos ha.1, List.getElem?_eq_getElem hlt, e]
theorem e_least (a b : Int) : fS_l1Least a b = some (min a b) := by
  unfold fS_l1Least
  by_cases h : a < b
  · rw [if_pos (by simpa using h), Int.min_eq_left (by omega)]
  · rw [if_neg (by simpa using h), Int.min_eq_right (by omega)]
theorem srt_sorC (xs : List Int) : (srt xs).Pairwise (· ≤ ·) := by
  have := List.pairwise_mergeSort (le := fun x y : Int => decide (x ≤ y)) (fun a b c h1 h2 => by simp at h1 h2 ⊢; omega) (fun a b => by simp; omega) xs
  exact this.imp fun {a b} h => by simpa using h
theorem srt_perC (xs : List Int) : (srt xs).Perm xs := List.mergeSort_perm xs _
theorem line_facts {p : T_RootedProblem} (h : rootedB p = true) : ∀ x, x ∈ p.Lines → ∃ a t, x = a :: t ∧ (t.length : Int) = p.Children ∧ (∀ y ∈ t, 0 ≤ y ∧ y < p.Labels.toNat) ∧ srt t = t := fun x hx => by
  obtain ⟨h1, h2⟩ := lines_of h x hx
  have hC : 1 ≤ p.Children ∧ p.Children ≤ 3 := by
    have := h
    simp only [rootedB, Bool.and_eq_true] at this
    exact inB_iff.1 this.1.2
  have hL : 1 ≤ p.Labels := by
    have := h
    simp only [rootedB, Bool.and_eq_true] at this
    exact (inB_iff.1 this.1.1).1
  cases x with
  | nil => simp at h1; omega
  | cons a t =>
    refine ⟨a, t, rfl, by simp at h1; omega, fun y hy => by have := h2 y (by simp [hy]); omega, ?_⟩
    simp only [rootedB, Bool.and_eq_true, Option.isNone_iff_eq_none] at h
    obtain ⟨j, hj⟩ := List.getElem?_of_mem hx
    have := firstP_none.1 h.2 j _ hj
    rw [Nat.zero_add] at this
    unfold lineP at this
    split at this
    · rename_i hb
      simp only [lineB, Bool.and_eq_true, Bool.or_eq_true, decide_eq_true_eq] at hb
      have hs : t.Pairwise (· ≤ ·) := sortB_pair.1 hb.1.2
      unfold srt
      exact List.mergeSort_of_pairwise (hs.imp fun {a b} h => by simpa using h)
    · cases this
theorem set_getD {s : List Int} {a b : Nat} {c : Int} (ha : a < s.length) : (s.set a c).getD b 0 = if a = b then c else s.getD b 0 := by
  rw [List.getD_eq_getElem?_getD, List.getD_eq_getElem?_getD, List.getElem?_set]
  by_cases e : a = b
  · rw [if_pos e, if_pos ha, if_pos e]; rfl
  · rw [if_neg e, if_neg e]
theorem OkRow.set {n : Nat} {s : List Int} (h : OkRow n s) {a : Nat} {c : Int} (h1 : 0 ≤ c) (h2 : c ≤ 1000000000001) : OkRow n (s.set a c) :=
  ⟨by rw [List.length_set]; exact h.ln, fun y hy => by
    rcases List.mem_or_eq_of_mem_set hy with hy | rfl
    · exact h.el y hy
    · exact ⟨h1, h2⟩⟩
theorem lines_leaf (fuel : Nat) (p : T_RootedProblem) (h : rootedB p = true) (kl : List (List Int)) (v : Int) (hk : ix kl v = some []) (R : List (List Int)) (a : Int) (s : List Int) : ∀ (xs : List (List Int)) (i : Int), (∀ x ∈ xs, x ∈ p.Lines) → forI (fS_roCounts_s4 fuel kl v R a) xs i s = some (.inl s)
  | [], i, _ => rfl
  | x :: xs, i, hx => by
    obtain ⟨b, t, rfl, q1, q2, q3⟩ := line_facts h x (hx x (by simp))
    have hbody : fS_roCounts_s4 fuel kl v R a i (b :: t) s = some (.go s) := by
      unfold fS_roCounts_s4
      rw [show ix (b :: t) 0 = some b from rfl, sb]
      by_cases hb : b = a
      · rw [if_pos (by simpa using hb), hk, sb, sb, if_neg (by simp)]
      · rw [if_neg (by simpa using hb), sb, if_neg (by simp)]
    simp only [forI, hbody]
    exact lines_leaf fuel p h kl v hk R a s xs (i + 1) fun y hy => hx y (by simp [hy])
theorem goC {σ τ ρ : Type} {f : σ → Option (Lp σ τ ρ)} {s s' : σ} (h : f s = some (.go s')) (fuel : Nat) : loopF f (fuel + 1) s = loopF f fuel s' := by simp only [loopF, h]
theorem outC {σ τ ρ : Type} {f : σ → Option (Lp σ τ ρ)} {s : σ} {t : τ} (h : f s = some (.out t)) (fuel : Nat) : loopF f (fuel + 1) s = some (.inl t) := by simp only [loopF, h]
structure Tree (p : T_RootedProblem) (par : List Int) : Prop where
  rb : rootedB p = true
  n1 : 1 ≤ par.length
  n2 : par.length ≤ 200
  pr : ∀ (j : Nat) x, par[j]? = some x → if j = 0 then x = -1 else 0 ≤ x ∧ x < j
  kid : ∀ l, l ∈ kidsL par par.length → l = [] ∨ (l.length : Int) = p.Children
theorem Tree.of {p : T_RootedProblem} {par : List Int} (h : askB p par = true) : Tree p par := by
  unfold askB at h
  rw [Bool.and_eq_true] at h
  obtain ⟨h1, h2, h3, h4, h5, h6⟩ := treeB_iff h.2
  exact ⟨h.1, h3, h4, parP_none h5, h6⟩
theorem Tree.lt {p : T_RootedProblem} {par : List Int} (t : Tree p par) : ∀ x, x ∈ par → x < par.length := fun x hx => by
  obtain ⟨j, hj⟩ := List.getElem?_of_mem hx
  have hjl := (List.getElem?_eq_some_iff.1 hj).1
  have := t.pr j x hj
  split at this <;> omega
def kidsOf (par : List Int) (v : Nat) : List Int := kidF par par.length v
theorem Tree.kids {p : T_RootedProblem} {par : List Int} (t : Tree p par) {v : Nat} (hv : v < par.length) : ix (kidsL par par.length) (v : Int) = some (kidsOf par v) ∧ (kidsOf par v ≠ [] → ((kidsOf par v).length : Int) = p.Children) ∧ ∀ y ∈ kidsOf par v, ∃ w : Nat, y = w ∧ v < w ∧ w < par.length ∧ par[w]? = some (v : Int) := by
  refine ⟨by rw [ix_nat, kidsL_get hv]; rfl, fun h0 => ?_, fun y hy => ?_⟩
  · exact (t.kid _ (List.mem_of_getElem? (kidsL_get hv))).resolve_left h0
  · obtain ⟨w, rfl, h1, h2⟩ := mem_kidF.1 hy
    have h3 := List.getElem?_eq_getElem h1
    rw [List.getD_eq_getElem?_getD, h3] at h2
    have h2' : par[w] = (v : Int) := h2
    have := t.pr w _ h3
    rw [h2'] at this h3
    refine ⟨w, rfl, ?_, h1, h3⟩
    split at this <;> omega
def rowsOf (cs : List (List Int)) (kids : List Int) : List (List Int) := kids.map fun y => cs.getD y.toNat []
theorem rowsOf_len (cs : List (List Int)) (kids : List Int) : (rowsOf cs kids).length = kids.length := by simp [rowsOf]
theorem getD_set_neD {α : Type} {cs : List α} {v w : Nat} {c d : α} (h : v ≠ w) : (cs.set v c).getD w d = cs.getD w d := by
  rw [List.getD_eq_getElem?_getD, List.getD_eq_getElem?_getD, List.getElem?_set_ne h]
theorem getD_set_eqD {α : Type} {cs : List α} {v : Nat} {c d : α} (h : v < cs.length) : (cs.set v c).getD v d = c := by
  rw [List.getD_eq_getElem?_getD, List.getElem?_set_self h]; rfl
/-! ### Sums -/
def sumN (f : Nat → Int) : Nat → Int
  | 0 => 0
  | n + 1 => sumN f n + f n
theorem sumN_congr {f g : Nat → Int} : ∀ n, (∀ b, b < n → f b = g b) → sumN f n = sumN g n
  | 0, _ => rfl
  | n + 1, h => by rw [sumN, sumN, sumN_congr n fun b hb => h b (by omega), h n (by omega)]
theorem sumN_add (f g : Nat → Int) : ∀ n, sumN (fun b => f b + g b) n = sumN f n + sumN g n
  | 0 => rfl
  | n + 1 => by rw [sumN, sumN, sumN, sumN_add f g n]; omega
theorem sumN_mul (c : Int) (f : Nat → Int) : ∀ n, sumN (fun b => c * f b) n = c * sumN f n
  | 0 => by simp [sumN]
  | n + 1 => by rw [sumN, sumN, sumN_mul c f n, Int.mul_add]
theorem sumN_zero : ∀ n, sumN (fun _ => 0) n = 0
  | 0 => rfl
  | n + 1 => by rw [sumN, sumN_zero n]; rfl
theorem sumN_nonneg {f : Nat → Int} : ∀ n, (∀ b, b < n → 0 ≤ f b) → 0 ≤ sumN f n
  | 0, _ => Int.le_refl 0
  | n + 1, h => by
    have h1 := sumN_nonneg n fun b hb => h b (by omega)
    have h2 := h n (by omega)
    rw [sumN]; omega
theorem sumN_at {f : Nat → Int} {x : Nat} (h : ∀ b, b ≠ x → f b = 0) : ∀ n, sumN f n = if x < n then f x else 0
  | 0 => rfl
  | n + 1 => by
    rw [sumN, sumN_at h n]
    by_cases e : n = x
    · subst e; rw [if_neg (by omega), if_pos (by omega)]; omega
    · rw [h n e]
      by_cases h1 : x < n
      · rw [if_pos h1, if_pos (by omega)]; omega
      · rw [if_neg h1, if_neg (by omega)]; rfl
theorem sumN_ge {f : Nat → Int} {x : Nat} : ∀ n, (∀ b, b < n → 0 ≤ f b) → x < n → f x ≤ sumN f n
  | 0, _, hx => by omega
  | n + 1, h, hx => by
    rw [sumN]
    have h1 := sumN_nonneg n fun b hb => h b (by omega)
    by_cases e : x = n
    · subst e; omega
    · have := sumN_ge n (fun b hb => h b (by omega)) (show x < n by omega)
      have := h n (by omega)
      omega
/-- The sum over all lists of d numbers below n. -/
def Sg (n : Nat) : Nat → (List Int → Int) → Int
  | 0, g => g []
  | d + 1, g => sumN (fun b => Sg n d fun m => g ((b : Int) :: m)) n
theorem Sg_congr {n : Nat} : ∀ {d : Nat} {g h : List Int → Int}, (∀ m : List Int, m.length = d → (∀ y ∈ m, 0 ≤ y ∧ y < n) → g m = h m) → Sg n d g = Sg n d h
  | 0, g, h, hh => hh [] rfl (by simp)
  | d + 1, g, h, hh => sumN_congr n fun b hb => Sg_congr fun m hm hy => hh _ (by simp [hm]) fun y hy' => by
      rcases List.mem_cons.1 hy' with rfl | hy'
      · omega
      · exact hy y hy'
theorem Sg_add {n : Nat} : ∀ (d : Nat) (g h : List Int → Int), Sg n d (fun m => g m + h m) = Sg n d g + Sg n d h
  | 0, g, h => rfl
  | d + 1, g, h => by
    rw [Sg, Sg, Sg, ← sumN_add]
    exact sumN_congr n fun b _ => Sg_add d _ _
theorem Sg_mul {n : Nat} (c : Int) : ∀ (d : Nat) (g : List Int → Int), Sg n d (fun m => c * g m) = c * Sg n d g
  | 0, g => rfl
  | d + 1, g => by
    rw [Sg, Sg, ← sumN_mul]
    exact sumN_congr n fun b _ => Sg_mul c d _
theorem Sg_zero {n : Nat} : ∀ (d : Nat), Sg n d (fun _ => 0) = 0
  | 0 => rfl
  | d + 1 => by
    rw [Sg, sumN_congr n fun b _ => Sg_zero d]; exact sumN_zero n
theorem Sg_nonneg {n : Nat} : ∀ {d : Nat} {g : List Int → Int}, (∀ m : List Int, m.length = d → (∀ y ∈ m, 0 ≤ y ∧ y < n) → 0 ≤ g m) → 0 ≤ Sg n d g
  | 0, g, h => h [] rfl (by simp)
  | d + 1, g, h => sumN_nonneg n fun b hb => Sg_nonneg fun m hm hy => h _ (by simp [hm]) fun y hy' => by
      rcases List.mem_cons.1 hy' with rfl | hy'
      · omega
      · exact hy y hy'
/-! ### The ceiling -/
def capI (x : Int) : Int := min x 1000000000001
theorem capI_le (x : Int) : capI x ≤ 1000000000001 := Int.min_le_right _ _
theorem capI_nonneg {x : Int} (h : 0 ≤ x) : 0 ≤ capI x := by unfold capI; omega
theorem capI_add {x y : Int} (hy : 0 ≤ y) : capI (capI x + y) = capI (x + y) := by unfold capI; omega
theorem capI_add2 {x y : Int} (hx : 0 ≤ x) : capI (x + capI y) = capI (x + y) := by unfold capI; omega
theorem capI_id {x : Int} (h : x ≤ 1000000000001) : capI x = x := Int.min_eq_left h
theorem capI_big {x : Int} (h : 1000000000001 ≤ x) : capI x = 1000000000001 := Int.min_eq_right h
theorem capI_mul {x y : Int} (hx : 0 ≤ x) (hy : 0 ≤ y) : capI (capI x * y) = capI (x * y) := by
  by_cases h : x ≤ 1000000000001
  · rw [capI_id h]
  · rw [capI_big (x := x) (by omega)]
    by_cases h0 : y = 0
    · subst h0; rw [Int.mul_zero, Int.mul_zero]
    · have h1 : 1000000000001 * 1 ≤ 1000000000001 * y := Int.mul_le_mul_of_nonneg_left (by omega) (by decide)
      have h2 : x * 1 ≤ x * y := Int.mul_le_mul_of_nonneg_left (by omega) hx
      rw [capI_big (x := 1000000000001 * y) (by omega), capI_big (x := x * y) (by omega)]
theorem quo_gt {c w : Int} (C : Int) (hC0 : 0 ≤ C) (hC1 : C ≤ 1000000000001) (hc : 0 < c) (hw : 0 ≤ w) : ∃ q, quo C c = some q ∧ (w > q → C < w * c) ∧ (¬ w > q → w * c ≤ C) := by
  have h0 : C.tdiv c = C / c := Int.tdiv_eq_ediv_of_nonneg hC0
  have h1 : 0 ≤ C / c := Int.ediv_nonneg hC0 (by omega)
  have h2 : C / c ≤ C := Int.ediv_le_self _ hC0
  refine ⟨C / c, ?_, fun h => ?_, fun h => ?_⟩
  · unfold quo
    rw [if_neg (by omega), h0, ck_in (by omega) (by omega)]
  · have h3 := Int.lt_ediv_add_one_mul_self C hc
    have h4 : C / c + 1 ≤ w := by omega
    have h5 := Int.mul_le_mul_of_nonneg_right h4 (Int.le_of_lt hc)
    omega
  · have h3 : w ≤ C / c := by omega
    have h4 := Int.mul_le_mul_of_nonneg_right h3 (Int.le_of_lt hc)
    have h5 := Int.ediv_mul_le C (show c ≠ 0 by omega)
    omega
theorem e_times {a b : Int} (ha : 0 ≤ a) (hb : 0 ≤ b) (ha1 : a ≤ 1000000000001) (hb1 : b ≤ 1000000000001) : fI_times a b = some (capI (a * b)) := by
  unfold fI_times
  by_cases h0 : a = 0
  · subst h0
    rw [if_neg (by simp), sb, if_neg (by simp), Int.zero_mul, ck_in (by omega) (by omega), sb]; rfl
  · obtain ⟨q, q1, q2, q3⟩ := quo_gt (c := a) (w := b) 1000000000001 (by decide) (Int.le_refl _) (by omega) hb
    rw [if_pos (by simpa using h0), q1, sb, sb]
    by_cases h1 : b > q
    · have := q2 h1
      rw [if_pos (by simpa using h1), capI_big (by rw [Int.mul_comm]; omega)]
    · have := q3 h1
      have h2 : 0 ≤ a * b := Int.mul_nonneg ha hb
      rw [Int.mul_comm] at this
      rw [if_neg (by simpa using h1), ck_in (by omega) (by omega), sb, capI_id this]
/-- The product of what the rows have at a list of places. -/
def prodR : List (List Int) → List Int → Int
  | r :: R, a :: m => r.getD a.toNat 0 * prodR R m
  | _ :: _, [] => 0
  | [], _ => 1
theorem prodR_nonneg {n : Nat} : ∀ (R : List (List Int)) (m : List Int), (∀ r ∈ R, OkRow n r) → (∀ y ∈ m, 0 ≤ y ∧ y < n) → 0 ≤ prodR R m
  | [], m, _, _ => by cases m <;> (show (0 : Int) ≤ 1; decide)
  | r :: R, [], _, _ => Int.le_refl 0
  | r :: R, a :: m, h, hy => Int.mul_nonneg ((h r (by simp)).get (hy a (by simp))).2.1 (prodR_nonneg R m (fun r hr => h r (by simp [hr])) fun y hy' => hy y (by simp [hy']))
/-! ### The ways of a line -/
theorem erase_perm {l : List Int} {i : Nat} {x : Int} (h : l[i]? = some x) : l.Perm (x :: l.eraseIdx i) := by
  obtain ⟨hi, hx⟩ := List.getElem?_eq_some_iff.1 h
  have h3 : l = l.take i ++ l[i] :: l.drop (i + 1) := by rw [List.getElem_cons_drop, List.take_append_drop]
  have h4 := (List.perm_middle (a := l[i]) (l₁ := l.take i) (l₂ := l.drop (i + 1)))
  rw [← h3] at h4
  rw [List.eraseIdx_eq_take_drop_succ, ← hx]
  exact h4
theorem srt_iff {m l : List Int} (hl : l.Pairwise (· ≤ ·)) : srt m = l ↔ m.Perm l :=
  ⟨fun h => by rw [← h]; exact (srt_perC m).symm, fun h => List.Perm.eq_of_pairwise (le := fun x y : Int => x ≤ y) (fun x y _ _ a b => by omega) (srt_sorC m) hl ((srt_perC m).trans h)⟩
theorem srt_cons_iff {m l : List Int} {i : Nat} {x : Int} (hl : l.Pairwise (· ≤ ·)) (h : l[i]? = some x) : srt (x :: m) = l ↔ srt m = l.eraseIdx i := by
  rw [srt_iff hl, srt_iff (hl.sublist (List.eraseIdx_sublist l i))]
  exact ⟨fun q => (List.perm_cons x).1 (q.trans (erase_perm h)), fun q => ((List.perm_cons x).2 q).trans (erase_perm h).symm⟩
theorem sumN_insert {V : Nat → Int} {n b : Nat} {pre : List Int} (hb : b < n) (hn : (b : Int) ∉ pre) : sumN (fun c => if (c : Int) ∈ pre ++ [(b : Int)] then V c else 0) n = sumN (fun c => if (c : Int) ∈ pre then V c else 0) n + V b := by
  have h1 : sumN (fun c => if (c : Int) ∈ pre ++ [(b : Int)] then V c else 0) n = sumN (fun c => (if (c : Int) ∈ pre then V c else 0) + (if c = b then V b else 0)) n := by
    refine sumN_congr n fun c _ => ?_
    by_cases e : c = b
    · subst e
      rw [if_pos (by simp), if_neg hn, if_pos rfl]; omega
    · have : (c : Int) ∈ pre ++ [(b : Int)] ↔ (c : Int) ∈ pre := by
        rw [List.mem_append, List.mem_singleton]
        exact ⟨fun h => h.elim id fun h => absurd (Int.ofNat.inj h) e, .inl⟩
      rw [if_neg e, Int.add_zero]
      by_cases h2 : (c : Int) ∈ pre
      · rw [if_pos (this.2 h2), if_pos h2]
      · rw [if_neg (fun h => h2 (this.1 h)), if_neg h2]
  rw [h1, sumN_add, sumN_at (x := b) fun c hc => if_neg hc, if_pos hb, if_pos rfl]
theorem roWays_loopC (n q : Nat) (r : List Int) (R : List (List Int)) (l : List Int) (hr : OkRow n r) (hl2 : l.length ≤ 1000) (hy : ∀ y ∈ l, 0 ≤ y ∧ y < n) (hls : l.Pairwise (· ≤ ·)) (X : Nat → Int) (V : Nat → Int)
    (ih : ∀ (i : Nat), i < l.length → fS_roWays q (l.eraseIdx i) R = some (capI (X i)) ∧ 0 ≤ X i) (hV : ∀ (i b : Nat), l[i]? = some (b : Int) → V b = r.getD b 0 * X i) (hV0 : ∀ b, b < n → 0 ≤ V b) :
    ∀ (xs pre : List Int) (s : Int), pre ++ xs = l → s = capI (sumN (fun c => if (c : Int) ∈ pre then V c else 0) n) →
      ∃ z, forI (fS_roWays_s1 l (r :: R) (fS_roWays q)) xs (pre.length : Int) s = some z ∧
        (z = .inl (capI (sumN (fun c => if (c : Int) ∈ l then V c else 0) n)) ∨ (z = .inr 1000000000001 ∧ capI (sumN (fun c => if (c : Int) ∈ l then V c else 0) n) = 1000000000001))
  | [], pre, s, hp, h1 => by
    rw [List.append_nil] at hp
    subst hp
    exact ⟨_, rfl, .inl (by rw [h1])⟩
  | x :: xs, pre, s, hp, h1 => by
    have hlt : pre.length < l.length := by rw [← hp]; simp
    have hx : l[pre.length]? = some x := by rw [← hp, List.getElem?_append_right (Nat.le_refl _)]; simp
    have hxm := hy x (List.mem_of_getElem? hx)
    obtain ⟨b, rfl⟩ : ∃ b : Nat, x = b := ⟨x.toNat, by omega⟩
    have hbn : b < n := by omega
    obtain ⟨g1, g2, g3⟩ := hr.get hxm
    rw [Int.toNat_natCast] at g1 g2 g3
    have hpos : ∀ (p : List Int) c, c < n → 0 ≤ (if (c : Int) ∈ p then V c else 0) := fun p c hc => by
      split
      · exact hV0 c hc
      · exact Int.le_refl 0
    have hs0 : 0 ≤ s := by rw [h1]; exact capI_nonneg (sumN_nonneg n (hpos pre))
    have hs1 : s ≤ 1000000000001 := by rw [h1]; exact capI_le _
    have hnext : ∀ s', s' = capI (sumN (fun c => if (c : Int) ∈ pre ++ [(b : Int)] then V c else 0) n) → ∃ z, forI (fS_roWays_s1 l (r :: R) (fS_roWays q)) xs ((pre.length : Int) + 1) s' = some z ∧
        (z = .inl (capI (sumN (fun c => if (c : Int) ∈ l then V c else 0) n)) ∨ (z = .inr 1000000000001 ∧ capI (sumN (fun c => if (c : Int) ∈ l then V c else 0) n) = 1000000000001)) := fun s' a1 => by
      have := roWays_loopC n q r R l hr hl2 hy hls X V ih hV hV0 xs (pre ++ [(b : Int)]) s' (by rw [← hp]; simp) a1
      rw [List.length_append, List.length_singleton] at this
      rw [show ((pre.length : Int) + 1) = ((pre.length + 1 : Nat) : Int) by omega]
      exact this
    by_cases hskip : 0 < pre.length ∧ l[pre.length - 1]? = some (b : Int)
    · have hbody : fS_roWays_s1 l (r :: R) (fS_roWays q) (pre.length : Int) (b : Int) s = some (.go s) := by
        unfold fS_roWays_s1
        rw [if_pos (by rw [decide_eq_true_eq]; omega), ck_in (by omega) (by omega), sb, show ((pre.length : Int) - 1) = ((pre.length - 1 : Nat) : Int) by omega, ix_nat, hskip.2, sb, sb, if_pos (by simp)]
      simp only [forI, hbody]
      refine hnext s ?_
      rw [h1]
      congr 1
      refine sumN_congr n fun c _ => ?_
      have hin : (b : Int) ∈ pre := by
        have h2 := hskip.2
        rw [← hp, List.getElem?_append_left (by omega)] at h2
        exact List.mem_of_getElem? h2
      have : (c : Int) ∈ pre ++ [(b : Int)] ↔ (c : Int) ∈ pre := by
        rw [List.mem_append, List.mem_singleton]
        exact ⟨fun h => h.elim id fun h => h ▸ hin, .inl⟩
      by_cases h2 : (c : Int) ∈ pre
      · rw [if_pos h2, if_pos (this.2 h2)]
      · rw [if_neg h2, if_neg (fun h => h2 (this.1 h))]
    · have hnot : (b : Int) ∉ pre := fun hin => by
        obtain ⟨j, hj, hjb⟩ := List.mem_iff_getElem.1 hin
        have hlj : l[j]? = some (b : Int) := by rw [← hp, List.getElem?_append_left hj, List.getElem?_eq_getElem hj, hjb]
        by_cases ej : j = pre.length - 1
        · subst ej; exact hskip ⟨by omega, hlj⟩
        · have hp1 := List.getElem?_eq_getElem (show pre.length - 1 < l.length by omega)
          have hjl : j < l.length := by omega
          have q1 := List.pairwise_iff_getElem.1 hls j (pre.length - 1) hjl (by omega) (by omega)
          have q2 := List.pairwise_iff_getElem.1 hls (pre.length - 1) pre.length (by omega) hlt (by omega)
          have q3 : l[j] = (b : Int) := by rw [List.getElem?_eq_getElem hjl] at hlj; exact Option.some.inj hlj
          have q4 : l[pre.length] = (b : Int) := by rw [List.getElem?_eq_getElem hlt] at hx; exact Option.some.inj hx
          exact hskip ⟨by omega, by rw [hp1]; congr 1; omega⟩
      obtain ⟨w1, w2⟩ := ih pre.length hlt
      have hVb := hV pre.length b hx
      have hins := sumN_insert (V := V) hbn hnot
      have hsum0 := sumN_nonneg n (hpos pre)
      have hrest : cat (l.take pre.length) (l.drop (pre.length + 1)) = some (l.eraseIdx pre.length) := by
        unfold cat
        rw [if_pos (by rw [List.length_take, List.length_drop]; omega), List.eraseIdx_eq_take_drop_succ]
      have hc1 : cut l 0 (pre.length : Int) = some (l.take pre.length) := by
        unfold cut
        rw [if_pos (by omega)]; simp
      have hc2 : cut l ((pre.length : Int) + 1) l.length = some (l.drop (pre.length + 1)) := by
        unfold cut
        rw [if_pos (by omega), Int.toNat_natCast, List.take_length, show ((pre.length : Int) + 1).toNat = pre.length + 1 by omega]
      have hdup : (if decide ((pre.length : Int) > 0) then (ck ((pre.length : Int) - 1)) >>= fun x26 => (ix l x26) >>= fun x27 => some (x27 == (b : Int)) else some false : Option Bool) = some false := by
        by_cases h0 : 0 < pre.length
        · have hlt' : pre.length - 1 < l.length := by omega
          rw [if_pos (by rw [decide_eq_true_eq]; omega), ck_in (by omega) (by omega), sb, show ((pre.length : Int) - 1) = ((pre.length - 1 : Nat) : Int) by omega, ix_nat, List.getElem?_eq_getElem hlt', sb]
          have hne : l[pre.length - 1] ≠ (b : Int) := fun e => hskip ⟨h0, by rw [List.getElem?_eq_getElem hlt', e]⟩
          simp [hne]
        · rw [if_neg (by rw [decide_eq_true_eq]; omega)]
      have hr0 : ix (r :: R) 0 = some r := rfl
      have w3 := capI_nonneg w2
      have w4 := capI_le (X pre.length)
      have hcm := capI_mul w2 g2
      by_cases hc : 0 < r.getD b 0
      · obtain ⟨qq, q1, q2, q3⟩ := quo_gt 1000000000000 (by decide) (by decide) hc w3
        by_cases hbig : capI (X pre.length) > qq
        · have hbody : fS_roWays_s1 l (r :: R) (fS_roWays q) (pre.length : Int) (b : Int) s = some (.ret 1000000000001) := by
            unfold fS_roWays_s1
            rw [hdup, sb, if_neg (by simp), hc1, sb, e_l1Own _ (by rw [List.length_take]; omega), sb, ck_in (by omega) (by omega), sb, hc2, sb, hrest, sb, cut_tail (r :: R) (by simp), sb]
            simp only [List.tail_cons]
            rw [w1, sb, hr0, sb, g1, sb, if_pos (by simpa using hc), sb, g1, sb, q1, sb, sb, if_pos (by simpa using hbig)]
          simp only [forI, hbody]
          refine ⟨_, rfl, .inr ⟨rfl, capI_big ?_⟩⟩
          have h5 := q2 hbig
          have h6 : 1000000000001 ≤ V b := by
            have : capI (X pre.length * r.getD b 0) = 1000000000001 := by rw [← hcm]; exact capI_big (by omega)
            rw [hVb, Int.mul_comm]
            unfold capI at this; omega
          have h7 := sumN_ge (f := fun c => if (c : Int) ∈ l then V c else 0) (x := b) n (hpos l) hbn
          have h8 : (if (b : Int) ∈ l then V b else 0) = V b := if_pos (List.mem_of_getElem? hx)
          simp only [h8] at h7
          omega
        · have hp1 := q3 hbig
          have hp0 : 0 ≤ capI (X pre.length) * r.getD b 0 := Int.mul_nonneg w3 g2
          have hbody : fS_roWays_s1 l (r :: R) (fS_roWays q) (pre.length : Int) (b : Int) s = some (.go (min (s + capI (X pre.length) * r.getD b 0) 1000000000001)) := by
            unfold fS_roWays_s1
            rw [hdup, sb, if_neg (by simp), hc1, sb, e_l1Own _ (by rw [List.length_take]; omega), sb, ck_in (by omega) (by omega), sb, hc2, sb, hrest, sb, cut_tail (r :: R) (by simp), sb]
            simp only [List.tail_cons]
            rw [w1, sb, hr0, sb, g1, sb, if_pos (by simpa using hc), sb, g1, sb, q1, sb, sb, if_neg (by simpa using hbig), sb, g1, sb, ck_in (by omega) (by omega), sb, ck_in (by omega) (by omega), sb, e_least, sb]
          simp only [forI, hbody]
          refine hnext _ ?_
          rw [hins, hVb, Int.mul_comm (r.getD b 0), ← capI_add2 hsum0 (y := X pre.length * r.getD b 0), ← hcm, capI_id (show capI (X pre.length) * r.getD b 0 ≤ 1000000000001 by omega), ← capI_add hp0, ← h1]
          rfl
      · have hc0 : r.getD b 0 = 0 := by omega
        have hbody : fS_roWays_s1 l (r :: R) (fS_roWays q) (pre.length : Int) (b : Int) s = some (.go s) := by
          unfold fS_roWays_s1
          rw [hdup, sb, if_neg (by simp), hc1, sb, e_l1Own _ (by rw [List.length_take]; omega), sb, ck_in (by omega) (by omega), sb, hc2, sb, hrest, sb, cut_tail (r :: R) (by simp), sb]
          simp only [List.tail_cons]
          rw [w1, sb, hr0, sb, g1, sb, if_neg (by simpa using hc), sb, if_neg (by simp), sb, g1, sb, hc0, Int.mul_zero, ck_in (by omega) (by omega), sb, Int.add_zero, ck_in (by omega) (by omega), sb, e_least, sb, Int.min_eq_left hs1]
        simp only [forI, hbody]
        refine hnext s ?_
        rw [hins, hVb, hc0, Int.zero_mul, Int.add_zero]; exact h1
/-- In how many ways the labels of a line can be given to the children, up to the ceiling. -/
theorem e_roWaysC (n : Nat) : ∀ (R : List (List Int)) (l : List Int) (fuel : Nat), R.length < fuel → (∀ r ∈ R, OkRow n r) → l.length = R.length → l.length ≤ 1000 → (∀ y ∈ l, 0 ≤ y ∧ y < n) → l.Pairwise (· ≤ ·) →
    fS_roWays fuel l R = some (capI (Sg n R.length fun m => if srt m = l then prodR R m else 0))
  | [], l, fuel, hf, _, hl, _, _, _ => by
    obtain ⟨q, rfl⟩ : ∃ q, fuel = q + 1 := ⟨fuel - 1, by simp at hf; omega⟩
    have : l = [] := List.eq_nil_of_length_eq_zero (by simpa using hl)
    subst this
    unfold fS_roWays
    rw [if_pos (by simp)]
    have : srt [] = [] := List.eq_nil_of_length_eq_zero (srt_length [])
    show some 1 = some (capI (if srt [] = [] then prodR [] [] else 0))
    rw [if_pos this]; rfl
  | r :: R, l, fuel, hf, hR, hl, hl2, hy, hls => by
    simp only [List.length_cons] at hf hl
    obtain ⟨q, rfl⟩ : ∃ q, fuel = q + 1 := ⟨fuel - 1, by omega⟩
    have hR' : ∀ r ∈ R, OkRow n r := fun r hr => hR r (by simp [hr])
    have hg0 : ∀ (P : List Int → Prop) [DecidablePred P] (m : List Int), (∀ y ∈ m, 0 ≤ y ∧ y < n) → 0 ≤ (if P m then prodR R m else 0) := fun P _ m hm => by
      split
      · exact prodR_nonneg R m hR' hm
      · exact Int.le_refl 0
    have hX0 : ∀ (i : Nat), 0 ≤ Sg n R.length (fun m => if srt m = l.eraseIdx i then prodR R m else 0) := fun i => Sg_nonneg fun m _ hm => hg0 (fun m => srt m = l.eraseIdx i) m hm
    have hY0 : ∀ (b : Nat), 0 ≤ Sg n R.length (fun m => if srt ((b : Int) :: m) = l then prodR R m else 0) := fun b => Sg_nonneg fun m _ hm => hg0 (fun m => srt ((b : Int) :: m) = l) m hm
    obtain ⟨z, z1, z2⟩ := roWays_loopC n q r R l (hR r (by simp)) hl2 hy hls (fun i => Sg n R.length fun m => if srt m = l.eraseIdx i then prodR R m else 0) (fun b => r.getD b 0 * Sg n R.length fun m => if srt ((b : Int) :: m) = l then prodR R m else 0)
      (fun i hi => ⟨e_roWaysC n R (l.eraseIdx i) q (by omega) hR' (by rw [List.length_eraseIdx, if_pos hi]; omega) (by rw [List.length_eraseIdx]; split <;> omega) (fun y hy' => hy y (List.mem_of_mem_eraseIdx hy')) (hls.sublist (List.eraseIdx_sublist l i)), hX0 i⟩)
      (fun i b hb => by
        congr 1
        refine Sg_congr fun m _ _ => ?_
        have := srt_cons_iff (m := m) hls hb
        by_cases h : srt ((b : Int) :: m) = l
        · rw [if_pos h, if_pos (this.1 h)]
        · rw [if_neg h, if_neg (fun e => h (this.2 e))])
      (fun b hb => Int.mul_nonneg (by have := ((hR r (by simp)).get (a := (b : Int)) (by omega)).2.1; rwa [Int.toNat_natCast] at this) (hY0 b))
      l [] 0 (by simp) (by simp only [List.not_mem_nil, if_false, sumN_zero]; rfl)
    rw [List.length_nil, show ((0 : Nat) : Int) = 0 from rfl] at z1
    have htot : sumN (fun c => if (c : Int) ∈ l then r.getD c 0 * Sg n R.length (fun m => if srt ((c : Int) :: m) = l then prodR R m else 0) else 0) n = Sg n (R.length + 1) (fun m => if srt m = l then prodR (r :: R) m else 0) := by
      rw [Sg]
      refine sumN_congr n fun c hc => ?_
      by_cases hcl : (c : Int) ∈ l
      · rw [if_pos hcl, ← Sg_mul]
        refine Sg_congr fun m _ _ => ?_
        by_cases h : srt ((c : Int) :: m) = l
        · rw [if_pos h, if_pos h]; rfl
        · rw [if_neg h, if_neg h, Int.mul_zero]
      · rw [if_neg hcl, Sg_congr (h := fun _ => 0) fun m _ _ => if_neg fun h => hcl (by rw [← h]; exact (srt_perC _).symm.subset (by simp)), Sg_zero]
    rw [htot] at z2
    unfold fS_roWays
    rw [if_neg (by simp; omega), z1, sb]
    rcases z2 with rfl | ⟨rfl, hg⟩
    · rfl
    · rw [List.length_cons, hg]
/-! ### Rows to which something is added -/
def addRow (n : Nat) (s : List Int) (h : Nat → Int) : List Int := (List.range n).map fun a => capI (s.getD a 0 + h a)
theorem addRow_get {n : Nat} {s : List Int} {h : Nat → Int} {a : Nat} (ha : a < n) : (addRow n s h).getD a 0 = capI (s.getD a 0 + h a) := by
  unfold addRow
  rw [List.getD_eq_getElem?_getD, List.getElem?_map, List.getElem?_range ha]; rfl
theorem addRow_ok {n : Nat} {s : List Int} {h : Nat → Int} (hs : OkRow n s) (h0 : ∀ a, a < n → 0 ≤ h a) : OkRow n (addRow n s h) :=
  ⟨by simp [addRow], fun y hy => by
    unfold addRow at hy
    obtain ⟨a, ha, rfl⟩ := List.mem_map.1 hy
    have ha := List.mem_range.1 ha
    have h1 := (hs.get (a := (a : Int)) (by omega)).2.1
    rw [Int.toNat_natCast] at h1
    have h2 := h0 a ha
    exact ⟨capI_nonneg (by omega), capI_le _⟩⟩
theorem addRow_congr {n : Nat} {s : List Int} {h g : Nat → Int} (hh : ∀ a, a < n → h a = g a) : addRow n s h = addRow n s g := by
  unfold addRow
  refine List.map_congr_left fun a ha => ?_
  rw [hh a (List.mem_range.1 ha)]
theorem addRow_add {n : Nat} {s : List Int} {h g : Nat → Int} (hg : ∀ a, a < n → 0 ≤ g a) : addRow n (addRow n s h) g = addRow n s fun a => h a + g a := by
  show (List.range n).map _ = (List.range n).map _
  refine List.map_congr_left fun a ha => ?_
  have ha := List.mem_range.1 ha
  rw [addRow_get ha, capI_add (hg a ha), Int.add_assoc]
theorem addRow_zero {n : Nat} {s : List Int} (hs : OkRow n s) : addRow n s (fun _ => 0) = s := by
  have hl := hs.ln
  apply List.ext_getElem?
  intro j
  unfold addRow
  rw [List.getElem?_map]
  by_cases hj : j < n
  · have hj' : j < s.length := by omega
    have h1 := hs.el _ (List.getElem_mem hj')
    rw [List.getElem?_range hj, List.getElem?_eq_getElem hj']
    show some (capI (s.getD j 0 + 0)) = _
    rw [List.getD_eq_getElem?_getD, List.getElem?_eq_getElem hj']
    congr 1
    show capI (s[j] + 0) = s[j]
    rw [Int.add_zero, capI_id h1.2]
  · rw [List.getElem?_eq_none (by simp; omega), List.getElem?_eq_none (by omega)]; rfl
/-! ### eachChoice -/
section
variable {n size : Nat} {F : List Int → List Int → Option (List Int)} {h : List Int → Nat → Int} {C : Int}
theorem e_fillC (hF : ∀ (m s : List Int), m.length = size → (∀ y : Int, y ∈ m → 0 ≤ y ∧ y < n) → OkRow n s → F m s = some (addRow n s (h m))) (h0 : ∀ (m : List Int) (a : Nat), m.length = size → (∀ y : Int, y ∈ m → 0 ≤ y ∧ y < n) → a < n → 0 ≤ h m a) (hsz : size ≤ 1000) (hn : n ≤ 1000) :
    ∀ (d k fuel : Nat) (lab s : List Int), k + d = size → n + d + 1 < fuel → lab.length = size → (∀ y : Int, y ∈ lab.take k → 0 ≤ y ∧ y < n) → OkRow n s →
      ∃ lab', fI_RootedProblem_eachChoice_1 fuel s (k : Int) (size : Int) F lab (n : Int) C = some (lab', addRow n s fun a => Sg n d fun m => h (lab.take k ++ m) a) ∧ lab'.length = size ∧ lab'.take k = lab.take k
  | 0, k, fuel, lab, s, hd, hf, hl, hy, hs => by
    obtain ⟨q, rfl⟩ : ∃ q, fuel = q + 1 := ⟨fuel - 1, by omega⟩
    have ht : lab.take k = lab := List.take_of_length_le (by omega)
    refine ⟨lab, ?_, hl, rfl⟩
    unfold fI_RootedProblem_eachChoice_1
    rw [if_pos (by simp; omega), hF lab s hl (by rw [← ht]; exact hy) hs, sb]
    simp only [Sg, ht, List.append_nil]
  | d + 1, k, fuel, lab, s, hd, hf, hl, hy, hs => by
    obtain ⟨q, rfl⟩ : ∃ q, fuel = q + 1 := ⟨fuel - 1, by omega⟩
    have hk : k < lab.length := by omega
    have hg0 : ∀ (b a : Nat), b < n → a < n → 0 ≤ Sg n d fun m => h (lab.take k ++ (b : Int) :: m) a := fun b a hb ha => Sg_nonneg fun m hm hym => h0 _ a (by simp; omega) (fun y hy' => by
      rcases List.mem_append.1 hy' with hy' | hy'
      · exact hy y hy'
      · rcases List.mem_cons.1 hy' with rfl | hy'
        · omega
        · exact hym y hy') ha
    have hsum0 : ∀ (b a : Nat), b ≤ n → a < n → 0 ≤ sumN (fun c => Sg n d fun m => h (lab.take k ++ (c : Int) :: m) a) b := fun b a hb ha => sumN_nonneg b fun c hc => hg0 c a (by omega) ha
    have loop : ∀ (j b f1 : Nat) (labb : List Int), b + j = n → j < f1 → labb.length = size → labb.take k = lab.take k → labb[k]? = some (b : Int) →
        ∃ lab', loopF (fI_RootedProblem_eachChoice_1_s1 (k : Int) (size : Int) F (n : Int) C (fI_RootedProblem_eachChoice_1 q)) f1 (labb, addRow n s fun a => sumN (fun c => Sg n d fun m => h (lab.take k ++ (c : Int) :: m) a) b) =
          some (.inl (lab', addRow n s fun a => sumN (fun c => Sg n d fun m => h (lab.take k ++ (c : Int) :: m) a) n)) ∧ lab'.length = size ∧ lab'.take k = lab.take k := by
      intro j
      induction j with
      | zero =>
        intro b f1 labb hb hf1 hl1 hl2 hl3
        obtain ⟨f1, rfl⟩ : ∃ q, f1 = q + 1 := ⟨f1 - 1, by omega⟩
        have : b = n := by omega
        subst this
        refine ⟨labb, outC ?_ f1, hl1, hl2⟩
        unfold fI_RootedProblem_eachChoice_1_s1
        simp only
        rw [ix_nat, hl3, sb, if_neg (by simp)]
      | succ j ih =>
        intro b f1 labb hb hf1 hl1 hl2 hl3
        obtain ⟨f1, rfl⟩ : ∃ q, f1 = q + 1 := ⟨f1 - 1, by omega⟩
        have htk : labb.take (k + 1) = lab.take k ++ [(b : Int)] := by
          rw [List.take_add_one, hl2, hl3]; rfl
        have hok := addRow_ok (h := fun a => sumN (fun c => Sg n d fun m => h (lab.take k ++ (c : Int) :: m) a) b) hs (fun a ha => hsum0 b a (by omega) ha)
        obtain ⟨lab', e1, e2, e3⟩ := e_fillC hF h0 hsz hn d (k + 1) q labb _ (by omega) (by omega) hl1 (fun y hy' => by
          rw [htk] at hy'
          rcases List.mem_append.1 hy' with hy' | hy'
          · exact hy y hy'
          · rw [List.mem_singleton.1 hy']; omega) hok
        have hlk : k < lab'.length := by omega
        have hlk2 : lab'[k]? = some (b : Int) := by
          rw [htk] at e3
          have : (lab'.take (k + 1))[k]? = (lab.take k ++ [(b : Int)])[k]? := by rw [e3]
          rw [List.getElem?_take, if_pos (by omega)] at this
          rw [this, List.getElem?_append_right (by rw [List.length_take]; omega), List.length_take, Nat.min_eq_left (by omega), Nat.sub_self]; rfl
        have hlk3 : lab'.take k = lab.take k := by
          have := congrArg (List.take k) e3
          rw [List.take_take, List.take_take, Nat.min_eq_left (by omega), hl2] at this
          exact this
        have hstate : addRow n (addRow n s fun a => sumN (fun c => Sg n d fun m => h (lab.take k ++ (c : Int) :: m) a) b) (fun a => Sg n d fun m => h (labb.take (k + 1) ++ m) a) = addRow n s fun a => sumN (fun c => Sg n d fun m => h (lab.take k ++ (c : Int) :: m) a) (b + 1) := by
          rw [addRow_congr (g := fun a => Sg n d fun m => h (lab.take k ++ (b : Int) :: m) a) fun a _ => by rw [htk]; simp only [List.append_assoc, List.singleton_append], addRow_add fun a ha => hg0 b a (by omega) ha]
          rfl
        rw [hstate] at e1
        have hbody : fI_RootedProblem_eachChoice_1_s1 (k : Int) (size : Int) F (n : Int) C (fI_RootedProblem_eachChoice_1 q) (labb, addRow n s fun a => sumN (fun c => Sg n d fun m => h (lab.take k ++ (c : Int) :: m) a) b) =
            some (.go (lab'.set k ((b + 1 : Nat) : Int), addRow n s fun a => sumN (fun c => Sg n d fun m => h (lab.take k ++ (c : Int) :: m) a) (b + 1))) := by
          unfold fI_RootedProblem_eachChoice_1_s1
          simp only
          rw [ix_nat, hl3, sb, if_pos (by simp; omega), ck_in (by omega) (by omega), sb, show ((k : Int) + 1) = ((k + 1 : Nat) : Int) by omega, e1, sb]
          simp only
          rw [ix_nat, hlk2, sb, ck_in (by omega) (by omega), sb, sb, st_nat _ _ _ hlk, sb, show ((b : Int) + 1) = ((b + 1 : Nat) : Int) by omega]
        rw [goC hbody]
        exact ih (b + 1) f1 _ (by omega) (by omega) (by rw [List.length_set]; exact e2) (by rw [List.take_set_of_le (Nat.le_refl _)]; exact hlk3) (by rw [List.getElem?_set_self hlk])
    obtain ⟨lab', e1, e2, e3⟩ := loop n 0 q (lab.set k 0) (by omega) (by omega) (by rw [List.length_set]; exact hl) (List.take_set_of_le (Nat.le_refl _)) (by rw [List.getElem?_set_self hk]; rfl)
    have hz : (addRow n s fun a => sumN (fun c => Sg n d fun m => h (lab.take k ++ (c : Int) :: m) a) 0) = s := addRow_zero hs
    rw [hz] at e1
    refine ⟨lab', ?_, e2, e3⟩
    unfold fI_RootedProblem_eachChoice_1
    rw [if_neg (by simp; omega), ix_lt lab k hk, sb, st_nat _ _ _ hk, sb, e1, sb]
    rfl
theorem e_eachChoice (hF : ∀ (m s : List Int), m.length = size → (∀ y : Int, y ∈ m → 0 ≤ y ∧ y < n) → OkRow n s → F m s = some (addRow n s (h m))) (h0 : ∀ (m : List Int) (a : Nat), m.length = size → (∀ y : Int, y ∈ m → 0 ≤ y ∧ y < n) → a < n → 0 ≤ h m a) (hsz : size ≤ 1000) (hn : n ≤ 1000)
    (fuel : Nat) (hf : 3000 ≤ fuel) (s : List Int) (hs : OkRow n s) : fI_RootedProblem_eachChoice fuel s (n : Int) C (size : Int) F = some (addRow n s fun a => Sg n size fun m => h m a) := by
  obtain ⟨lab', e1, _⟩ := e_fillC (C := C) hF h0 hsz hn size 0 fuel (List.replicate size 0) s (by omega) (by omega) (by simp) (by simp) hs
  rw [show ((0 : Nat) : Int) = 0 from rfl] at e1
  have hm : mk (Rz.z : Int) (size : Int) = some (List.replicate size 0) := by
    unfold mk
    rw [if_pos (by omega)]; rfl
  unfold fI_RootedProblem_eachChoice
  rw [hm, sb, e1, sb]
  rfl
end
/-! ### The row of a node, as the program adds it up -/
theorem forN_stepC {σ ρ : Type} {body : Int → σ → Option (Lp σ σ ρ)} (R : Nat → σ) (n : Nat) (h : ∀ j, j < n → body (j : Int) (R j) = some (.go (R (j + 1)))) : forN body n 0 (R 0) = some (.inl (R n)) := by
  have key : ∀ (d a : Nat), a + d = n → forN body d (a : Int) (R a) = some (.inl (R n)) := by
    intro d
    induction d with
    | zero => intro a ha; have : a = n := by omega
              subst this; rfl
    | succ d ih =>
      intro a ha
      simp only [forN, h a (by omega)]
      rw [show ((a : Int) + 1) = ((a + 1 : Nat) : Int) by omega]
      exact ih (a + 1) (by omega)
  exact key n 0 (by omega)
/-- A row of which the first a places are done. -/
def mixR (n : Nat) (f g : Nat → Int) (a : Nat) : List Int := (List.range n).map fun b => if b < a then f b else g b
theorem mixR_len (n : Nat) (f g : Nat → Int) (a : Nat) : (mixR n f g a).length = n := by simp [mixR]
theorem mixR_at {n : Nat} {f g : Nat → Int} {a : Nat} (ha : a < n) : ix (mixR n f g a) (a : Int) = some (g a) := by
  rw [ix_nat]
  unfold mixR
  rw [List.getElem?_map, List.getElem?_range ha]
  show some (if a < a then f a else g a) = _
  rw [if_neg (by omega)]
theorem mixR_set {n : Nat} {f g : Nat → Int} {a : Nat} (ha : a < n) : (mixR n f g a).set a (f a) = mixR n f g (a + 1) := by
  apply List.ext_getElem?
  intro j
  rw [List.getElem?_set]
  by_cases e : a = j
  · subst e
    rw [if_pos rfl, if_pos (by rw [mixR_len]; exact ha)]
    unfold mixR
    rw [List.getElem?_map, List.getElem?_range ha]
    show _ = some (if a < a + 1 then f a else g a)
    rw [if_pos (by omega)]
  · rw [if_neg e]
    unfold mixR
    rw [List.getElem?_map, List.getElem?_map]
    by_cases hj : j < n
    · rw [List.getElem?_range hj]
      show some (if j < a then f j else g j) = some (if j < a + 1 then f j else g j)
      by_cases h1 : j < a
      · rw [if_pos h1, if_pos (by omega)]
      · rw [if_neg h1, if_neg (by omega)]
    · rw [List.getElem?_eq_none (by simp; omega)]; rfl
theorem mixR_same {n : Nat} {f g : Nat → Int} {a : Nat} (ha : a < n) (h : f a = g a) : mixR n f g a = mixR n f g (a + 1) := by
  rw [← mixR_set ha]
  apply List.ext_getElem?
  intro j
  rw [List.getElem?_set]
  by_cases e : a = j
  · subst e
    have := mixR_at (f := f) (g := g) ha
    rw [ix_nat] at this
    rw [if_pos rfl, if_pos (by rw [mixR_len]; exact ha), this, h]
  · rw [if_neg e]
theorem mixR_last (n : Nat) (f g : Nat → Int) : mixR n f g n = (List.range n).map f := by
  unfold mixR
  exact List.map_congr_left fun b hb => if_pos (List.mem_range.1 hb)
theorem mixR_first {n : Nat} {f : Nat → Int} {s : List Int} (hs : s.length = n) : mixR n f (fun b => s.getD b 0) 0 = s := by
  apply List.ext_getElem?
  intro j
  unfold mixR
  rw [List.getElem?_map]
  by_cases hj : j < n
  · rw [List.getElem?_range hj, List.getElem?_eq_getElem (by omega)]
    show some (if j < 0 then f j else s.getD j 0) = _
    rw [if_neg (by omega), List.getD_eq_getElem?_getD, List.getElem?_eq_getElem (by omega)]; rfl
  · rw [List.getElem?_eq_none (by simp; omega), List.getElem?_eq_none (by omega)]; rfl
theorem prod_loop (n : Nat) (cs : List (List Int)) (v : Int) (kids m : List Int) (hk : ∀ y ∈ kids, 0 ≤ y ∧ y < cs.length ∧ y ≠ v ∧ OkRow n (cs.getD y.toNat [])) (hm : m.length = kids.length) (hy : ∀ y ∈ m, 0 ≤ y ∧ y < n) :
    ∀ (xs : List Int) (i : Nat) (x : Int), kids.drop i = xs → 0 ≤ x → forI (fI_CountRootedSolutions_1_s1 m v cs) xs (i : Int) (capI x) = some (.inl (capI (x * prodR (rowsOf cs xs) (m.drop i))))
  | [], i, x, hx, h0 => by
    have : prodR (rowsOf cs []) (m.drop i) = 1 := by
      cases m.drop i <;> rfl
    rw [this, Int.mul_one]; rfl
  | y :: ys, i, x, hx, h0 => by
    have hi : i < kids.length := by
      have := congrArg List.length hx
      rw [List.length_drop, List.length_cons] at this; omega
    have hyk : y ∈ kids := List.mem_of_mem_drop (i := i) (by rw [hx]; simp)
    obtain ⟨k1, k2, k3, k4⟩ := hk y hyk
    obtain ⟨w, rfl⟩ : ∃ w : Nat, y = w := ⟨y.toNat, by omega⟩
    have hw : w < cs.length := by omega
    rw [Int.toNat_natCast] at k4
    have hmi : i < m.length := by omega
    have hmy := hy _ (List.getElem_mem hmi)
    obtain ⟨g1, g2, g3⟩ := k4.get hmy
    have hdm : m.drop i = m[i] :: m.drop (i + 1) := List.drop_eq_getElem_cons hmi
    have hcw : cs[w]? = some (cs.getD w []) := by rw [List.getD_eq_getElem?_getD, List.getElem?_eq_getElem hw]; rfl
    have hbody : fI_CountRootedSolutions_1_s1 m v cs (i : Int) (w : Int) (capI x) = some (.go (capI (x * (cs.getD w []).getD m[i].toNat 0))) := by
      unfold fI_CountRootedSolutions_1_s1 nei
      rw [ix_nat, hcw, sb, if_neg k3, sb, ix_lt m i hmi, sb, g1, sb, e_times (capI_nonneg h0) g2 (capI_le _) g3, sb, capI_mul h0 g2]
    simp only [forI, hbody]
    have := prod_loop n cs v kids m hk hm hy ys (i + 1) (x * (cs.getD w []).getD m[i].toNat 0) (by rw [← List.drop_drop, hx]; rfl) (Int.mul_nonneg h0 g2)
    rw [show ((i : Int) + 1) = ((i + 1 : Nat) : Int) by omega, this, hdm]
    have : rowsOf cs ((w : Int) :: ys) = cs.getD w [] :: rowsOf cs ys := by
      unfold rowsOf
      rw [List.map_cons, Int.toNat_natCast]
    rw [this]
    show _ = some (Sum.inl (capI (x * ((cs.getD w []).getD m[i].toNat 0 * prodR (rowsOf cs ys) (m.drop (i + 1))))))
    rw [Int.mul_assoc]
theorem e_rowF (fuel n : Nat) (p : T_RootedProblem) (h : rootedB p = true) (hn : p.Labels.toNat = n) (hJ : p.Lines.length ≤ 1048576) (hf : 2000000 ≤ fuel) (kl : List (List Int)) (v : Int) (kids : List Int) (hkl : ix kl v = some kids) (cs : List (List Int))
    (hk : ∀ y ∈ kids, 0 ≤ y ∧ y < cs.length ∧ y ≠ v ∧ OkRow n (cs.getD y.toNat [])) (hkC : (kids.length : Int) = p.Children) (m s : List Int) (hm : m.length = kids.length) (hy : ∀ y ∈ m, 0 ≤ y ∧ y < n) (hs : OkRow n s) :
    fI_CountRootedSolutions_1 fuel m kl v s cs p = some (addRow n s fun a => if ((a : Int) :: srt m) ∈ p.Lines then prodR (rowsOf cs kids) m else 0) := by
  obtain ⟨hL, hn8, hok⟩ := okLines_of h
  have hP0 : 0 ≤ prodR (rowsOf cs kids) m := prodR_nonneg (n := n) _ m (fun r hr => by
    unfold rowsOf at hr
    obtain ⟨y, hy', rfl⟩ := List.mem_map.1 hr
    exact (hk y hy').2.2.2) hy
  have h1 := prod_loop n cs v kids m hk hm hy kids 0 1 (by simp) (by decide)
  rw [Int.one_mul, show capI 1 = 1 from rfl, show ((0 : Nat) : Int) = 0 from rfl, List.drop_zero] at h1
  generalize prodR (rowsOf cs kids) m = P at *
  have h2 := forN_stepC (body := fI_CountRootedSolutions_1_s2 fuel m p (capI P)) (mixR n (fun a => capI (s.getD a 0 + if ((a : Int) :: srt m) ∈ p.Lines then P else 0)) (fun a => s.getD a 0)) n (fun a ha => by
    obtain ⟨g1, g2, g3⟩ := hs.get (a := (a : Int)) (by omega)
    rw [Int.toNat_natCast] at g1 g2 g3
    have hq : (if decide (capI P > 0) then (fI_RootedProblem_line fuel p (a : Int) m) >>= fun x173 => some x173 else some false : Option Bool) = some (decide (0 < P ∧ ((a : Int) :: srt m) ∈ p.Lines)) := by
      by_cases hP : 0 < P
      · have : capI P > 0 := by unfold capI; omega
        rw [if_pos (by simpa using this), e_line fuel p h (a : Int) m (by omega) (by omega) (by omega), sb]
        simp [hP]
      · have : ¬ capI P > 0 := by unfold capI; omega
        rw [if_neg (by simpa using this)]
        simp [hP]
    unfold fI_CountRootedSolutions_1_s2
    rw [hq, sb]
    by_cases hc : 0 < P ∧ ((a : Int) :: srt m) ∈ p.Lines
    · have hcp := capI_nonneg hP0
      have hcl := capI_le P
      have hv : min (s.getD a 0 + capI P) 1000000000001 = capI (s.getD a 0 + if ((a : Int) :: srt m) ∈ p.Lines then P else 0) := by
        rw [if_pos hc.2, ← capI_add2 g2]; rfl
      rw [if_pos (by simpa using hc), mixR_at ha, sb, ck_in (by omega) (by omega), sb, sb, hv, st_nat _ _ _ (by rw [mixR_len]; exact ha), sb]
      have := mixR_set (f := fun a => capI (s.getD a 0 + if ((a : Int) :: srt m) ∈ p.Lines then P else 0)) (g := fun a => s.getD a 0) ha
      rw [← this]
    · have hv : capI (s.getD a 0 + if ((a : Int) :: srt m) ∈ p.Lines then P else 0) = s.getD a 0 := by
        have : (if ((a : Int) :: srt m) ∈ p.Lines then P else 0) = 0 := by
          by_cases hin : ((a : Int) :: srt m) ∈ p.Lines
          · rw [if_pos hin]
            have : ¬ 0 < P := fun e => hc ⟨e, hin⟩
            omega
          · rw [if_neg hin]
        rw [this, Int.add_zero, capI_id g3]
      rw [if_neg (by simpa using hc)]
      have := mixR_same (f := fun a => capI (s.getD a 0 + if ((a : Int) :: srt m) ∈ p.Lines then P else 0)) (g := fun a => s.getD a 0) ha hv
      rw [← this])
  rw [mixR_first hs.ln, mixR_last] at h2
  unfold fI_CountRootedSolutions_1
  rw [hkl, sb, h1, sb]
  simp only
  rw [ck_in (by omega) (by omega), sb, hn, h2, sb]
  rfl
/-! ### The lines of a label -/
def lsum (n : Nat) (R : List (List Int)) (a : Int) : List (List Int) → Int
  | [] => 0
  | x :: xs => (if x.headD 0 = a then Sg n R.length (fun m => if srt m = x.tail then prodR R m else 0) else 0) + lsum n R a xs
theorem lsum_eq (n : Nat) (R : List (List Int)) (a : Int) : ∀ (xs : List (List Int)), xs.Nodup → (∀ x ∈ xs, x ≠ []) → lsum n R a xs = Sg n R.length fun m => if (a :: srt m) ∈ xs then prodR R m else 0
  | [], _, _ => by
    rw [lsum, Sg_congr (h := fun _ => 0) fun m _ _ => if_neg (by simp), Sg_zero]
  | x :: xs, hn, hx => by
    obtain ⟨h1, h2⟩ := List.nodup_cons.1 hn
    have hne := hx x (by simp)
    obtain ⟨b, t, rfl⟩ : ∃ b t, x = b :: t := by
      cases x with
      | nil => exact absurd rfl hne
      | cons b t => exact ⟨b, t, rfl⟩
    rw [lsum, lsum_eq n R a xs h2 fun y hy => hx y (by simp [hy])]
    have h3 : (if (b :: t).headD 0 = a then Sg n R.length (fun m => if srt m = (b :: t).tail then prodR R m else 0) else 0) = Sg n R.length (fun m => if a :: srt m = b :: t then prodR R m else 0) := by
      show (if b = a then Sg n R.length (fun m => if srt m = t then prodR R m else 0) else 0) = _
      by_cases e : b = a
      · subst e
        rw [if_pos rfl]
        refine Sg_congr fun m _ _ => ?_
        by_cases e2 : srt m = t
        · rw [if_pos e2, if_pos (by rw [e2])]
        · rw [if_neg e2, if_neg (fun q => e2 (List.cons.inj q).2)]
      · rw [if_neg e, Sg_congr (g := fun m => if a :: srt m = b :: t then prodR R m else 0) (h := fun _ => 0) fun m _ _ => if_neg fun q => e (List.cons.inj q).1.symm, Sg_zero]
    rw [h3, ← Sg_add]
    refine Sg_congr fun m _ _ => ?_
    by_cases e : a :: srt m = b :: t
    · rw [if_pos e, if_neg (by rw [e]; exact h1), if_pos (by rw [e]; simp), Int.add_zero]
    · rw [if_neg e, Int.zero_add]
      by_cases e2 : (a :: srt m) ∈ xs
      · rw [if_pos e2, if_pos (by simp [e2])]
      · rw [if_neg e2, if_neg (by simp [e, e2])]
theorem lsum_nonneg (n : Nat) (R : List (List Int)) (hR : ∀ r ∈ R, OkRow n r) (a : Int) : ∀ (xs : List (List Int)), 0 ≤ lsum n R a xs
  | [] => Int.le_refl 0
  | x :: xs => by
    have h1 := lsum_nonneg n R hR a xs
    rw [lsum]
    have h2 : 0 ≤ (if x.headD 0 = a then Sg n R.length (fun m => if srt m = x.tail then prodR R m else 0) else 0) := by
      split
      · refine Sg_nonneg fun m _ hm => ?_
        split
        · exact prodR_nonneg R m hR hm
        · exact Int.le_refl 0
      · exact Int.le_refl 0
    omega
theorem lines_nodup {p : T_RootedProblem} (h : rootedB p = true) : p.Lines.Nodup := by
  have hl := lines_of h
  refine (lines_pair h).imp_of_mem fun {a b} ha hb hab => ?_
  intro e
  subst e
  have := (ordL_zero (a := a) (b := a) rfl).2 rfl
  omega
theorem lines_sumC (fuel n : Nat) (p : T_RootedProblem) (h : rootedB p = true) (hn : p.Labels.toNat = n) (hf : 4 < fuel) (kl : List (List Int)) (v : Int) (kids : List Int) (hk : ix kl v = some kids) (hk0 : kids ≠ []) (R : List (List Int)) (hR : (R.length : Int) = p.Children) (hr : ∀ r ∈ R, OkRow n r) (a : Nat) (ha : a < n) :
    ∀ (xs : List (List Int)) (i : Int) (s : List Int), (∀ x ∈ xs, x ∈ p.Lines) → OkRow n s →
      forI (fS_roCounts_s5 fuel kl v R (a : Int)) xs i s = some (.inl (s.set a (capI (s.getD a 0 + lsum n R (a : Int) xs))))
  | [], i, s, hx, hs => by
    have hsl := hs.ln
    obtain ⟨g1, g2, g3⟩ := hs.get (a := (a : Int)) (by omega)
    rw [Int.toNat_natCast] at g2 g3
    show some (Sum.inl s) = _
    congr 2
    rw [lsum, Int.add_zero, capI_id g3]
    apply List.ext_getElem?
    intro j
    rw [List.getElem?_set]
    by_cases e : a = j
    · subst e
      rw [if_pos rfl, if_pos (by omega), List.getD_eq_getElem?_getD, List.getElem?_eq_getElem (by omega)]; rfl
    · rw [if_neg e]
  | x :: xs, i, s, hx, hs => by
    have hsl := hs.ln
    have hC : p.Children ≤ 3 := by
      have := h
      simp only [rootedB, Bool.and_eq_true] at this
      exact (inB_iff.1 this.1.2).2
    obtain ⟨b, t, rfl, q1, q2, q3⟩ := line_facts h x (hx x (by simp))
    have q4 : t.Pairwise (· ≤ ·) := by rw [← q3]; exact srt_sorC t
    have w1 := e_roWaysC n R t fuel (by omega) hr (by omega) (by omega) (by rw [← hn]; exact q2) q4
    have w0 : 0 ≤ Sg n R.length (fun m => if srt m = t then prodR R m else 0) := Sg_nonneg fun m _ hm => by
      split
      · exact prodR_nonneg R m hr hm
      · exact Int.le_refl 0
    have w2 := capI_nonneg w0
    have w3 := capI_le (Sg n R.length (fun m => if srt m = t then prodR R m else 0))
    obtain ⟨g1, g2, g3⟩ := hs.get (a := (a : Int)) (by omega)
    rw [Int.toNat_natCast] at g1 g2 g3
    have hkl : ((kids.length : Int) > 0) := by
      have : kids.length ≠ 0 := fun e => hk0 (List.eq_nil_of_length_eq_zero e)
      omega
    have hls := lsum_nonneg n R hr (a : Int) xs
    by_cases hb : b = (a : Int)
    · have hbody : fS_roCounts_s5 fuel kl v R (a : Int) i (b :: t) s = some (.go (s.set a (capI (s.getD a 0 + Sg n R.length (fun m => if srt m = t then prodR R m else 0))))) := by
        unfold fS_roCounts_s5
        rw [show ix (b :: t) 0 = some b from rfl, sb, if_pos (by simpa using hb), hk, sb, sb, if_pos (decide_eq_true hkl), g1, sb, cut_tail (b :: t) (by simp), sb]
        simp only [List.tail_cons]
        rw [w1, sb, ck_in (by omega) (by omega), sb, e_least, sb, sb, st_nat _ _ _ (by omega), sb, ← capI_add2 g2]
        rfl
      simp only [forI, hbody]
      rw [lines_sumC fuel n p h hn hf kl v kids hk hk0 R hR hr a ha xs (i + 1) _ (fun y hy => hx y (by simp [hy])) (hs.set (capI_nonneg (by omega)) (capI_le _)), set_getD (by omega), if_pos rfl, List.set_set, capI_add hls, Int.add_assoc]
      have : lsum n R (a : Int) ((b :: t) :: xs) = Sg n R.length (fun m => if srt m = t then prodR R m else 0) + lsum n R (a : Int) xs := by
        rw [lsum, if_pos (show (b :: t).headD 0 = (a : Int) from hb)]; rfl
      rw [this]
    · have hbody : fS_roCounts_s5 fuel kl v R (a : Int) i (b :: t) s = some (.go s) := by
        unfold fS_roCounts_s5
        rw [show ix (b :: t) 0 = some b from rfl, sb, if_neg (by simpa using hb), sb, if_neg (by simp)]
      simp only [forI, hbody]
      rw [lines_sumC fuel n p h hn hf kl v kids hk hk0 R hR hr a ha xs (i + 1) s (fun y hy => hx y (by simp [hy])) hs]
      have : lsum n R (a : Int) ((b :: t) :: xs) = lsum n R (a : Int) xs := by
        rw [lsum, if_neg (show ¬ (b :: t).headD 0 = (a : Int) from hb), Int.zero_add]
      rw [this]
/-! ### One node's counts -/
def rowE (n : Nat) (p : T_RootedProblem) (kids : List Int) (R : List (List Int)) (a : Nat) : Int :=
  if kids = [] then 1 else capI (Sg n R.length fun m => if ((a : Int) :: srt m) ∈ p.Lines then prodR R m else 0)
def rowL (n : Nat) (p : T_RootedProblem) (kids : List Int) (R : List (List Int)) : List Int := (List.range n).map (rowE n p kids R)
theorem choice_nonneg (n : Nat) (p : T_RootedProblem) (R : List (List Int)) (hr : ∀ r ∈ R, OkRow n r) (a : Int) : 0 ≤ Sg n R.length fun m => if (a :: srt m) ∈ p.Lines then prodR R m else 0 := Sg_nonneg fun m _ hm => by
  split
  · exact prodR_nonneg R m hr hm
  · exact Int.le_refl 0
theorem rowE_in {n : Nat} {p : T_RootedProblem} {kids : List Int} {R : List (List Int)} (hr : ∀ r ∈ R, OkRow n r) (a : Nat) : 0 ≤ rowE n p kids R a ∧ rowE n p kids R a ≤ 1000000000001 := by
  unfold rowE
  split
  · exact ⟨by decide, by decide⟩
  · exact ⟨capI_nonneg (choice_nonneg n p R hr a), capI_le _⟩
theorem rowL_ok {n : Nat} {p : T_RootedProblem} {kids : List Int} {R : List (List Int)} (hr : ∀ r ∈ R, OkRow n r) : OkRow n (rowL n p kids R) :=
  ⟨by simp [rowL], fun y hy => by
    unfold rowL at hy
    obtain ⟨a, _, rfl⟩ := List.mem_map.1 hy
    exact rowE_in hr a⟩
theorem mixR_zero (n : Nat) (f : Nat → Int) : mixR n f (fun _ => 0) 0 = List.replicate n 0 := by
  apply List.ext_getElem?
  intro j
  unfold mixR
  rw [List.getElem?_map, List.getElem?_replicate]
  by_cases hj : j < n
  · rw [List.getElem?_range hj, if_pos hj]; rfl
  · rw [List.getElem?_eq_none (by simp; omega), if_neg hj]; rfl
theorem row_countsC (fuel n : Nat) (p : T_RootedProblem) (h : rootedB p = true) (hn : p.Labels.toNat = n) (hf : 4 < fuel) (given : List Int) (kl : List (List Int)) (v : Int) (kids : List Int) (hk : ix kl v = some kids) (hg : ix given v = some (-1)) (R : List (List Int)) (hR : kids ≠ [] → (R.length : Int) = p.Children) (hr : ∀ r ∈ R, OkRow n r) :
    forN (fS_roCounts_s3 fuel p given kl v R) n 0 (List.replicate n 0) = some (.inl (rowL n p kids R)) := by
  have := forN_stepC (body := fS_roCounts_s3 fuel p given kl v R) (mixR n (rowE n p kids R) fun _ => 0) n fun a ha => by
    have hat := mixR_at (f := rowE n p kids R) (g := fun _ => 0) ha
    have hset := mixR_set (f := rowE n p kids R) (g := fun _ => 0) ha
    have hlen := mixR_len n (rowE n p kids R) (fun _ => 0) a
    have hokm : OkRow n (mixR n (rowE n p kids R) (fun _ => 0) a) := ⟨hlen, fun y hy => by
      unfold mixR at hy
      obtain ⟨b, _, rfl⟩ := List.mem_map.1 hy
      split
      · exact rowE_in hr b
      · show (0 : Int) ≤ 0 ∧ (0 : Int) ≤ 1000000000001
        exact ⟨by decide, by decide⟩⟩
    unfold fS_roCounts_s3
    rw [hg, sb, if_neg (by decide), sb, if_neg (by simp), hk, sb]
    by_cases hk0 : kids = []
    · subst hk0
      rw [if_pos (by simp), hat, sb, st_nat _ _ _ (by omega), sb, lines_leaf fuel p h kl v hk R _ _ p.Lines 0 (fun x hx => hx), sb]
      rw [← hset]
      rfl
    · have hkl : ¬ ((kids.length : Int) = 0) := fun e => hk0 (List.eq_nil_of_length_eq_zero (by omega))
      have hRl := hR hk0
      rw [if_neg (by simpa using hkl), lines_sumC fuel n p h hn hf kl v kids hk hk0 R hRl hr a ha p.Lines 0 _ (fun x hx => hx) hokm, sb]
      have hz : (mixR n (rowE n p kids R) (fun _ => 0) a).getD a 0 = 0 := by
        rw [ix_nat] at hat
        rw [List.getD_eq_getElem?_getD, hat]; rfl
      have hne : ∀ x ∈ p.Lines, x ≠ [] := fun x hx e => by
        obtain ⟨b, t, q, _⟩ := line_facts h x hx
        rw [e] at q; cases q
      have he : capI ((mixR n (rowE n p kids R) (fun _ => 0) a).getD a 0 + lsum n R (a : Int) p.Lines) = rowE n p kids R a := by
        rw [hz, Int.zero_add, lsum_eq n R _ _ (lines_nodup h) hne]
        unfold rowE
        rw [if_neg hk0]
      rw [he, hset]
  rw [mixR_zero, mixR_last] at this
  exact this
theorem e_roFree {n : Nat} (hn : n ≤ 1000000) : fS_roFree (n : Int) = some ((List.range n).map fun _ => -1) := by
  have hm : mk (Rz.z : Int) (n : Int) = some (List.replicate n 0) := by
    unfold mk
    rw [if_pos (by omega)]; rfl
  have := forN_stepC (body := fS_roFree_s1) (mixR n (fun _ => -1) fun _ => 0) n fun a ha => by
    unfold fS_roFree_s1
    rw [mixR_at ha, sb, st_nat _ _ _ (by rw [mixR_len]; exact ha), sb]
    rw [← mixR_set ha]
  rw [mixR_zero, mixR_last] at this
  unfold fS_roFree
  rw [hm, sb, List.length_replicate, ck_in (by omega) (by omega), sb, Int.toNat_natCast, this, sb]
theorem rowsOf_set {cs : List (List Int)} {v : Nat} {c : List Int} {kids : List Int} (h : ∀ y ∈ kids, y.toNat ≠ v) : rowsOf (cs.set v c) kids = rowsOf cs kids := by
  unfold rowsOf
  exact List.map_congr_left fun y hy => getD_set_neD (Ne.symm (h y hy))
theorem phaseC (fuel n : Nat) (p : T_RootedProblem) (par given : List Int) (t : Tree p par) (hn : p.Labels.toNat = n) (hJ : p.Lines.length ≤ 1048576) (hf : 2000000 ≤ fuel) (hg : ∀ v : Nat, v < par.length → ix given (v : Int) = some (-1)) :
    ∀ (j f1 : Nat) (cs : List (List Int)), j ≤ par.length → j < f1 → cs.length = par.length → (∀ w, j ≤ w → w < par.length → OkRow n (cs.getD w [])) →
      ∃ cs', loopF (fS_roCounts_s1 fuel p given (kidsL par par.length)) f1 (cs, (j : Int) - 1) = some (.inl (cs', -1)) ∧ loopF (fI_CountRootedSolutions_s1 fuel p (kidsL par par.length)) f1 ((j : Int) - 1, cs) = some (.inl (-1, cs')) ∧
        cs'.length = par.length ∧ ∀ w, w < par.length → OkRow n (cs'.getD w [])
  | 0, f1, cs, hj, hf1, h1, h3 => by
    obtain ⟨f1, rfl⟩ : ∃ q, f1 = q + 1 := ⟨f1 - 1, by omega⟩
    refine ⟨cs, outC ?_ f1, outC ?_ f1, h1, fun w hw => h3 w (Nat.zero_le _) hw⟩
    · unfold fS_roCounts_s1
      rw [if_neg (by simp)]; rfl
    · unfold fI_CountRootedSolutions_s1
      rw [if_neg (by simp)]; rfl
  | v + 1, f1, cs, hj, hf1, h1, h3 => by
    obtain ⟨f1, rfl⟩ : ∃ q, f1 = q + 1 := ⟨f1 - 1, by omega⟩
    obtain ⟨hL, hn8, hok⟩ := okLines_of t.rb
    have n2 := t.n2
    have hv : v < par.length := by omega
    obtain ⟨k1, k2, k3⟩ := t.kids hv
    have hkr : ∀ y ∈ kidsOf par v, OkRow n (cs.getD y.toNat []) := fun y hy => by
      obtain ⟨w, rfl, w1, w2, _⟩ := k3 y hy
      exact h3 w (by omega) w2
    have r1 : ∀ r ∈ rowsOf cs (kidsOf par v), OkRow n r := fun r hr => by
      unfold rowsOf at hr
      obtain ⟨y, hy, rfl⟩ := List.mem_map.1 hr
      exact hkr y hy
    have hkl := kidF_length par par.length v
    have hkl' : (kidsOf par v).length ≤ 200 := by unfold kidsOf; omega
    have hz : mk (Rz.z : Int) p.Labels = some (List.replicate n 0) := by
      unfold mk
      rw [if_pos (by omega), hn]; rfl
    have row1 := row_countsC fuel n p t.rb hn (by omega) given (kidsL par par.length) (v : Int) (kidsOf par v) k1 (hg v hv) (rowsOf cs (kidsOf par v)) (fun h0 => by rw [rowsOf_len]; exact k2 h0) r1
    have row2 := rowL_ok (p := p) (kids := kidsOf par v) r1
    have hloop2 := forI_invk0 (body := fS_roCounts_s2 (v : Int) (cs.set v (List.replicate n 0))) (fun i => rowsOf cs ((kidsOf par v).take i)) (kidsOf par v) (fun i y hy => by
      have hi := (List.getElem?_eq_some_iff.1 hy).1
      obtain ⟨w, rfl, w1, w2, _⟩ := k3 y (List.mem_of_getElem? hy)
      have hne : v ≠ w := by omega
      unfold fS_roCounts_s2 nei
      rw [ix_nat, List.getElem?_set_ne hne, List.getElem?_eq_getElem (show w < cs.length by omega), sb, if_neg (by omega), sb]
      unfold push
      rw [if_pos (by rw [rowsOf_len, List.length_take]; omega), sb, take_snoc hy]
      unfold rowsOf
      rw [List.map_append]
      simp [List.getElem?_eq_getElem (show w < cs.length by omega)])
    rw [List.take_length] at hloop2
    have hS1 : fS_roCounts_s1 fuel p given (kidsL par par.length) (cs, ((v + 1 : Nat) : Int) - 1) = some (.go (cs.set v (rowL n p (kidsOf par v) (rowsOf cs (kidsOf par v))), (v : Int) - 1)) := by
      unfold fS_roCounts_s1
      simp only
      rw [show (((v + 1 : Nat) : Int) - 1) = (v : Int) by omega, if_pos (by simp), hz, sb, ix_lt cs v (by omega), sb, st_nat _ _ _ (show v < cs.length by omega), sb, k1, sb]
      rw [show ([] : List (List Int)) = rowsOf cs ((kidsOf par v).take 0) from rfl, hloop2, sb]
      simp only
      rw [List.length_replicate, ck_in (by omega) (by omega), sb, Int.toNat_natCast, row1, sb]
      simp only
      rw [ck_in (by omega) (by omega), sb, Int.toNat_natCast, List.set_set]
    have hI1 : fI_CountRootedSolutions_s1 fuel p (kidsL par par.length) (((v + 1 : Nat) : Int) - 1, cs) = some (.go ((v : Int) - 1, cs.set v (rowL n p (kidsOf par v) (rowsOf cs (kidsOf par v))))) := by
      unfold fI_CountRootedSolutions_s1
      simp only
      rw [show (((v + 1 : Nat) : Int) - 1) = (v : Int) by omega, if_pos (by simp), k1, sb]
      by_cases hk0 : kidsOf par v = []
      · have hone : fI_oneIf (((kidsOf par v).length : Int) == 0) = some 1 := by
          unfold fI_oneIf
          rw [if_pos (by rw [hk0]; rfl)]
        have hrep : repO ([1] : List Int) p.Labels = some (List.replicate n 1) := by
          unfold repO
          simp only
          rw [if_pos (by omega), hn]
        rw [hone, sb, hrep, sb, ix_lt cs v (by omega), sb, st_nat _ _ _ (show v < cs.length by omega), sb, sb, if_pos (by rw [hk0]; rfl), ck_in (by omega) (by omega), sb, Int.toNat_natCast, List.set_set]
        have : rowL n p (kidsOf par v) (rowsOf cs (kidsOf par v)) = List.replicate n 1 := by
          apply List.ext_getElem?
          intro j
          unfold rowL
          rw [List.getElem?_map, List.getElem?_replicate]
          by_cases hj' : j < n
          · rw [List.getElem?_range hj', if_pos hj']
            show some (rowE n p (kidsOf par v) _ j) = _
            unfold rowE
            rw [if_pos hk0]
          · rw [List.getElem?_eq_none (by simp; omega), if_neg hj']; rfl
        rw [this]
      · have hkl0 : ¬ (((kidsOf par v).length : Int) == 0) = true := by
          rw [beq_iff_eq]
          exact fun e => hk0 (List.eq_nil_of_length_eq_zero (by omega))
        have hone : fI_oneIf (((kidsOf par v).length : Int) == 0) = some 0 := by
          unfold fI_oneIf
          rw [if_neg hkl0]
        have hrep : repO ([0] : List Int) p.Labels = some (List.replicate n 0) := by
          unfold repO
          simp only
          rw [if_pos (by omega), hn]
        have hkC := k2 hk0
        have hzr : OkRow n (List.replicate n (0 : Int)) := ⟨by simp, fun y hy => by rw [List.mem_replicate] at hy; omega⟩
        have hkc : ∀ y ∈ kidsOf par v, 0 ≤ y ∧ y < (cs.set v (List.replicate n 0)).length ∧ y ≠ (v : Int) ∧ OkRow n ((cs.set v (List.replicate n 0)).getD y.toNat []) := fun y hy => by
          obtain ⟨w, rfl, w1, w2, _⟩ := k3 y hy
          have := hkr _ hy
          rw [Int.toNat_natCast] at this ⊢
          rw [getD_set_neD (by omega), List.length_set]
          exact ⟨by omega, by omega, by omega, this⟩
        have hrs : rowsOf (cs.set v (List.replicate n 0)) (kidsOf par v) = rowsOf cs (kidsOf par v) := rowsOf_set fun y hy => by
          obtain ⟨w, rfl, w1, w2, _⟩ := k3 y hy
          omega
        have hch := e_eachChoice (n := n) (size := (kidsOf par v).length) (C := p.Children) (F := fun ls9 s9 => fI_CountRootedSolutions_1 fuel ls9 (kidsL par par.length) (v : Int) s9 (cs.set v (List.replicate n 0)) p)
          (h := fun m a => if ((a : Int) :: srt m) ∈ p.Lines then prodR (rowsOf cs (kidsOf par v)) m else 0)
          (fun m s hm hy hs => by
            have := e_rowF fuel n p t.rb hn hJ hf (kidsL par par.length) (v : Int) (kidsOf par v) k1 (cs.set v (List.replicate n 0)) hkc hkC m s hm hy hs
            rw [hrs] at this
            exact this)
          (fun m a hm hy ha => by
            split
            · exact prodR_nonneg _ m r1 hy
            · exact Int.le_refl 0)
          (by omega) (by omega) fuel (by omega) (List.replicate n 0) hzr
        rw [hkC, show (n : Int) = p.Labels by omega] at hch
        rw [hone, sb, hrep, sb, ix_lt cs v (by omega), sb, st_nat _ _ _ (show v < cs.length by omega), sb, sb, if_neg hkl0, hch, sb, ck_in (by omega) (by omega), sb, Int.toNat_natCast, List.set_set]
        have : rowL n p (kidsOf par v) (rowsOf cs (kidsOf par v)) = addRow n (List.replicate n 0) (fun a => Sg n (kidsOf par v).length fun m => if ((a : Int) :: srt m) ∈ p.Lines then prodR (rowsOf cs (kidsOf par v)) m else 0) := by
          unfold rowL addRow
          refine List.map_congr_left fun a ha => ?_
          have ha := List.mem_range.1 ha
          unfold rowE
          rw [if_neg hk0, rowsOf_len, List.getD_eq_getElem?_getD, List.getElem?_replicate, if_pos ha]
          show _ = capI (0 + _)
          rw [Int.zero_add]
        rw [this]
    rw [goC hS1, goC hI1]
    refine phaseC fuel n p par given t hn hJ hf hg v f1 _ (by omega) (by omega) (by rw [List.length_set]; exact h1) (fun w hw1 hw2 => ?_)
    by_cases e : v = w
    · subst e
      rw [getD_set_eqD (by omega)]
      exact row2
    · rw [getD_set_neD e]
      exact h3 w (by omega) hw2
/-! ### The answer -/
theorem last_loop (n : Nat) : ∀ (xs : List Int) (i s : Int), (∀ y ∈ xs, 0 ≤ y ∧ y ≤ 1000000000001) → 0 ≤ s → s ≤ 1000000000001 →
    ∃ c, forI fS_CountRootedSolutions_s1 xs i s = some (.inl c) ∧ forI fI_CountRootedSolutions_s2 xs i s = some (.inl c) ∧ 0 ≤ c ∧ c ≤ 1000000000001
  | [], i, s, _, h0, h1 => ⟨s, rfl, rfl, h0, h1⟩
  | x :: xs, i, s, hx, h0, h1 => by
    have hx1 := hx x (by simp)
    have b1 : fS_CountRootedSolutions_s1 i x s = some (.go (min (s + x) 1000000000001)) := by
      unfold fS_CountRootedSolutions_s1
      rw [ck_in (by omega) (by omega), sb, e_least, sb]
    have b2 : fI_CountRootedSolutions_s2 i x s = some (.go (min (s + x) 1000000000001)) := by
      unfold fI_CountRootedSolutions_s2
      rw [ck_in (by omega) (by omega), sb]
    simp only [forI, b1, b2]
    exact last_loop n xs (i + 1) _ (fun y hy => hx y (by simp [hy])) (by omega) (by omega)
theorem e_count (fuel : Nat) (hf : 2000000 ≤ fuel) (p : T_RootedProblem) (par : List Int) (hJ : p.Lines.length ≤ 1048576) (hl : par.length ≤ 1048576) :
    ∃ r, fS_CountRootedSolutions fuel p par = some r ∧ fI_CountRootedSolutions fuel p par = some r := by
  cases ha : askB p par
  · refine ⟨(0, false), ?_, ?_⟩
    · unfold fS_CountRootedSolutions
      rw [e_roAsked fuel (by omega) p par (by omega) hl, sb, ha, if_pos (by simp)]
    · unfold fI_CountRootedSolutions
      rw [e_rootedOk fuel (by omega) p par (by omega) hl, sb, ha, if_pos (by simp)]
  · have t := Tree.of ha
    obtain ⟨hL, hn8, hok⟩ := okLines_of t.rb
    have n2 := t.n2
    have n1 := t.n1
    have hmS : mk (Rz.z : List Int) (par.length : Int) = some (List.replicate par.length []) := by
      unfold mk
      rw [if_pos (by omega)]; rfl
    obtain ⟨cs, a1, a2, a3, a4⟩ := phaseC fuel p.Labels.toNat p par ((List.range par.length).map fun _ => -1) t rfl hJ hf (fun v hv => by
      rw [ix_nat, List.getElem?_map, List.getElem?_range hv]; rfl) par.length fuel (List.replicate par.length []) (Nat.le_refl _) (by omega) (by simp) (fun w h1 h2 => by omega)
    have hcounts : fS_roCounts fuel p par ((List.range par.length).map fun _ => -1) = some cs := by
      unfold fS_roCounts
      rw [e_roBelow par t.lt (by omega), sb, hmS, sb, ck_in (by omega) (by omega), sb, a1, sb]
    have hrow := a4 0 (by omega)
    have hc0 : ix cs 0 = some (cs.getD 0 []) := by
      rw [show (0 : Int) = ((0 : Nat) : Int) from rfl, ix_nat, List.getD_eq_getElem?_getD, List.getElem?_eq_getElem (show 0 < cs.length by omega)]; rfl
    obtain ⟨c, c1, c2, c3, c4⟩ := last_loop 0 (cs.getD 0 []) 0 0 hrow.el (by decide) (by decide)
    refine ⟨if decide (c > 1000000000000) then (0, false) else (c, true), ?_, ?_⟩
    · unfold fS_CountRootedSolutions
      rw [e_roAsked fuel (by omega) p par (by omega) hl, sb, ha, if_neg (by simp), e_roFree (by omega), sb, hcounts, sb, hc0, sb, c1, sb]
      simp only
      split <;> rfl
    · unfold fI_CountRootedSolutions
      rw [e_rootedOk fuel (by omega) p par (by omega) hl, sb, ha, if_neg (by simp), e_childrenOf par t.lt (by omega), sb, hmS, sb, ck_in (by omega) (by omega), sb, a2, sb]
      simp only
      rw [hc0, sb, c2, sb]
      simp only
      split <;> rfl
open Go.RowKit
def fCountRootedSolutionsSpec (x : RP) (l : List Int) : Int × Bool := (fS_CountRootedSolutions 2000000 (tR x) l).getD (0, false)
def fCountRootedSolutionsImpl (x : RP) (l : List Int) : Int × Bool := fCountRootedSolutionsSpec x l
theorem CountRootedSolutions_eq (x : RP) (l : List Int) (_ : okR x) (_ : szR x ≤ 1048576) (_ : ∀ n ∈ l, I64 n) (_ : l.length ≤ 1048576) : fCountRootedSolutionsImpl x l = fCountRootedSolutionsSpec x l := rfl
theorem specCountRootedSolutions_any (v : Value) (x : RP) (lv : Value) (l : List Int) (w : World) (h : RdR w v x) (_ : okR x) (hs : szR x ≤ 1048576) (hl : Ints w lv l) (_ : ∀ n ∈ l, I64 n) (hls : l.length ≤ 1048576) :
    Calls Try.prog 6 #[v, lv] w fun e w' => e = .returned (.tuple #[.int .i64 (fCountRootedSolutionsSpec x l).1, .bool (fCountRootedSolutionsSpec x l).2]) ∧ Keeps w w' := by
  obtain ⟨u, rfl, h2⟩ := h.rdz
  obtain ⟨r, e1, e2⟩ := e_count 2000000 (Nat.le_refl _) (tR x) l (szR_lines hs) hls
  have := cS_CountRootedSolutions 2000000 w u (tR x) h2 lv l hl.rdl _ e1
  unfold fCountRootedSolutionsSpec
  rw [e1]
  exact this
theorem implCountRootedSolutions_any (v : Value) (x : RP) (lv : Value) (l : List Int) (w : World) (h : RdR w v x) (_ : okR x) (hs : szR x ≤ 1048576) (hl : Ints w lv l) (_ : ∀ n ∈ l, I64 n) (hls : l.length ≤ 1048576) :
    Calls Try.prog 9 #[v, lv] w fun e w' => e = .returned (.tuple #[.int .i64 (fCountRootedSolutionsImpl x l).1, .bool (fCountRootedSolutionsImpl x l).2]) ∧ Keeps w w' := by
  obtain ⟨u, rfl, h2⟩ := h.rdz
  obtain ⟨r, e1, e2⟩ := e_count 2000000 (Nat.le_refl _) (tR x) l (szR_lines hs) hls
  have := cI_CountRootedSolutions 2000000 w u (tR x) h2 lv l hl.rdl _ e2
  unfold fCountRootedSolutionsImpl fCountRootedSolutionsSpec
  rw [e1]
  exact this
end Go.Proofs.Ytjmhjobfiemmnaa
