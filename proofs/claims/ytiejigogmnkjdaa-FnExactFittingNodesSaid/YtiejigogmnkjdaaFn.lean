/- FittingNodes of both sides, as the law calls them. -/
import Derived.Test.YtiejigogmnkjdaaAdp
import Derived.Test.YtiejigogmnkjdaaRk
import Derived.Test.YtiejigogmnkjdaaPp
import Derived.Test.YtiejigogmnkjdaaGV
namespace Go.Proofs.Ytiejigogmnkjdaa
open Go.RowKit
set_option linter.unusedSimpArgs false
set_option linter.unusedVariables false

/-- Goes through x behind place k; tells the place behind the first y that is not below b, if b stands there. -/
def seekB (x : List Int) (b : Int) (k : Nat) : Nat := k + ((x.drop k).takeWhile fun y => decide (y < b)).length
theorem seek_loop (x : List Int) (b : Int) (hx : x.length ≤ 1000000000) : ∀ (fuel k : Nat), k ≤ x.length → x.length < fuel + k → loopF (fI_includes_s2 x b) fuel (k : Int) = some (.inl ((seekB x b k : Nat) : Int)) := by
  intro fuel
  induction fuel with
  | zero => intro k h1 h2; omega
  | succ fuel ih =>
    intro k h1 h2
    by_cases hk : k < x.length
    · have hd : x.drop k = x[k] :: x.drop (k + 1) := List.drop_eq_getElem_cons hk
      by_cases hb : x[k] < b
      · have hs : fI_includes_s2 x b (k : Int) = some (.go ((k + 1 : Nat) : Int)) := by
          unfold fI_includes_s2
          rw [if_pos (by simpa using hk), ix_lt _ _ hk, sb, sb, if_pos (by simpa using hb), ck_in (by omega) (by omega), sb]; rfl
        rw [lpF_go hs fuel, ih (k + 1) (by omega) (by omega)]
        unfold seekB
        rw [hd, List.takeWhile_cons, if_pos (by simpa using hb), List.length_cons]
        congr 3; omega
      · have hs : fI_includes_s2 x b (k : Int) = some (.out (k : Int)) := by
          unfold fI_includes_s2
          rw [if_pos (by simpa using hk), ix_lt _ _ hk, sb, sb, if_neg (by simpa using hb)]
        rw [lpF_out hs fuel]
        unfold seekB
        rw [hd, List.takeWhile_cons, if_neg (by simpa using hb)]; simp
    · have hs : fI_includes_s2 x b (k : Int) = some (.out (k : Int)) := by
        unfold fI_includes_s2
        rw [if_neg (by simpa using hk), sb, if_neg (by simp)]
      rw [lpF_out hs fuel]
      unfold seekB
      rw [List.drop_eq_nil_of_le (by omega)]; simp
theorem seek_le (x : List Int) (b : Int) (k : Nat) (h : k ≤ x.length) : seekB x b k ≤ x.length := by
  unfold seekB
  have h1 : ((x.drop k).takeWhile fun y => decide (y < b)).length ≤ (x.drop k).length := (List.takeWhile_sublist _).length_le
  rw [List.length_drop] at h1
  omega
/-- Each b in turn is found in x behind the one before. -/
def incB (x : List Int) : List Int → Nat → Bool
  | [], _ => true
  | b :: bs, k => if x[seekB x b k]? = some b then incB x bs (seekB x b k + 1) else false
theorem inc_step (x : List Int) (b : Int) (fuel k : Nat) (hx : x.length ≤ 1000000) (hk : k ≤ x.length) (hf : x.length < fuel) (i : Int) :
    fI_includes_s1 fuel x i b (k : Int) = some (if x[seekB x b k]? = some b then .go ((seekB x b k + 1 : Nat) : Int) else .ret false) := by
  have hle := seek_le x b k hk
  unfold fI_includes_s1
  rw [seek_loop x b (by omega) fuel k hk (by omega), sb]
  simp only
  by_cases he : seekB x b k = x.length
  · rw [if_pos (by simp [he]), sb, if_pos rfl, if_neg (by rw [he, List.getElem?_eq_none (Nat.le_refl _)]; simp)]
  · have hlt : seekB x b k < x.length := by omega
    rw [if_neg (by simp; omega), ix_lt _ _ hlt, sb, sb, List.getElem?_eq_getElem hlt]
    by_cases hb : x[seekB x b k] = b
    · rw [if_neg (by simp [hb]), if_pos (by rw [hb]), ck_in (by omega) (by omega), sb]; rfl
    · rw [if_pos (by simpa using hb), if_neg (by simpa using hb)]
theorem inc_loop (x : List Int) (fuel : Nat) (hx : x.length ≤ 1000000) (hf : x.length < fuel) : ∀ (bs : List Int) (i : Int) (k : Nat), k ≤ x.length →
    ∃ y, forI (fI_includes_s1 fuel x) bs i (k : Int) = some (if incB x bs k then .inl y else .inr false)
  | [], i, k, _ => ⟨(k : Int), rfl⟩
  | b :: bs, i, k, hk => by
    have hs := inc_step x b fuel k hx hk hf i
    by_cases h : x[seekB x b k]? = some b
    · rw [if_pos h] at hs
      have hlt := (List.getElem?_eq_some_iff.1 h).1
      obtain ⟨y, hy⟩ := inc_loop x fuel hx hf bs (i + 1) (seekB x b k + 1) (by omega)
      refine ⟨y, ?_⟩
      simp only [forI, hs, incB, if_pos h]
      exact hy
    · rw [if_neg h] at hs
      refine ⟨0, ?_⟩
      simp only [forI, hs, incB, if_neg h]
      rfl
theorem e_includes (x t : List Int) (fuel : Nat) (hx : x.length ≤ 1000000) (hf : x.length < fuel) : fI_includes fuel x t = some (incB x t 0) := by
  unfold fI_includes
  obtain ⟨y, hy⟩ := inc_loop x fuel hx hf t 0 0 (Nat.zero_le _)
  rw [show ((0 : Nat) : Int) = 0 from rfl] at hy
  rw [hy, sb]
  cases incB x t 0 <;> rfl
theorem soInside_step (x : List Int) (b : Int) (fuel : Nat) (i s : Int) (hb : 0 ≤ b) : fS_soInside_s1 fuel x i b s = fI_includes_s1 fuel x i b s := by
  unfold fS_soInside_s1
  rw [if_neg (by simpa using hb)]
  rfl
theorem forI_congr {α σ ρ : Type} {f g : Int → α → σ → Option (Lp σ σ ρ)} : ∀ (xs : List α) (k : Int) (s : σ), (∀ (k : Int) x s, x ∈ xs → f k x s = g k x s) → forI f xs k s = forI g xs k s
  | [], _, _, _ => rfl
  | x :: xs, k, s, h => by
    simp only [forI, h k x s (by simp)]
    cases g k x s with
    | none => rfl
    | some r => cases r with
      | go s' => exact forI_congr xs (k + 1) s' fun k y s hy => h k y s (by simp [hy])
      | out s' => rfl
      | ret r => rfl
theorem e_soInside (x t : List Int) (fuel : Nat) (hx : x.length ≤ 1000000) (hf : x.length < fuel) (ht : t.length ≤ 1000000) (hf2 : t.length < fuel) (hp : ∀ b, b ∈ t → 0 ≤ b) : fS_soInside fuel x t = some (incB x (srt t) 0) := by
  unfold fS_soInside
  rw [e_prSorted t fuel hf2 (by omega), sb, ← srt_eq_ssort, forI_congr (g := fI_includes_s1 fuel x) _ _ _ (fun k b s hb => soInside_step x b fuel k s (hp b ((srt_perm t).mem_iff.1 hb)))]
  obtain ⟨y, hy⟩ := inc_loop x fuel hx hf (srt t) 0 0 (Nat.zero_le _)
  rw [show ((0 : Nat) : Int) = 0 from rfl] at hy
  rw [hy, sb]
  cases incB x (srt t) 0 <;> rfl
def fitL (p : T_Problem) (t : List Int) : List (List Int) := p.Nodes.filter fun x => incB x (srt t) 0
theorem fit_loop {ρ : Type} {body : Int → List Int → List (List Int) → Option (Lp (List (List Int)) (List (List Int)) ρ)} (f : List Int → Bool) : ∀ (xs : List (List Int)) (k : Int) (acc : List (List Int)), acc.length + xs.length ≤ 100000000 →
    (∀ (k : Int) x acc, x ∈ xs → acc.length ≤ 100000000 → body k x acc = some (.go (if f x then acc ++ [x] else acc))) → forI body xs k acc = some (.inl (acc ++ xs.filter f))
  | [], k, acc, _, _ => by simp [forI]
  | x :: xs, k, acc, hl, h => by
    simp only [List.length_cons] at hl
    simp only [forI, h k x acc (by simp) (by omega)]
    rw [fit_loop f xs (k + 1) (if f x then acc ++ [x] else acc) (by split <;> (try simp only [List.length_append, List.length_cons, List.length_nil]) <;> omega) (fun k y acc hy => h k y acc (by simp [hy]))]
    rw [List.filter_cons]
    cases hx : f x <;> simp
def fitB (p : T_Problem) (t : List Int) : List (List Int) × Bool := if probB p && decide ((t.length : Int) ≤ p.Degree) && t.all (inB 0 (p.Labels - 1)) then (fitL p t, true) else ([], false)
theorem e_specFit (fuel : Nat) (hf : 2000000 ≤ fuel) (p : T_Problem) (t : List Int) (hJ : p.Nodes.length ≤ 1048576) (hE : p.Edges.length ≤ 1048576) (ht : t.length ≤ 1048576) : fS_FittingNodes fuel p t = some (fitB p t) := by
  unfold fS_FittingNodes fitB
  rw [e_prGood fuel (by omega) p (by omega) (by omega), sb]
  cases h : probB p
  · simp [sb]
  · obtain ⟨h1, h2, h3, h4, h5, h6⟩ := probB_iff h
    rw [if_neg (by simp)]
    by_cases hd : (t.length : Int) ≤ p.Degree
    · rw [if_neg (by simp; omega), ck_in (by omega) (by omega), sb, e_l1All, sb, sb]
      cases ha : t.all (inB 0 (p.Labels - 1))
      · simp
      · have hp : ∀ b, b ∈ t → 0 ≤ b := fun b hb => (inB_iff.1 (List.all_eq_true.1 ha b hb)).1
        rw [if_neg (by simp), fit_loop (fun x => incB x (srt t) 0) p.Nodes 0 [] (by simp; omega) (fun k x acc hx hacc => by
          have hxl := ((confs_pair h5).1 x hx).1
          unfold fS_FittingNodes_s1
          rw [e_soInside x t fuel (by omega) (by omega) (by omega) (by omega) hp, sb]
          cases incB x (srt t) 0
          · simp
          · rw [if_pos rfl, e_l1Own _ (by omega), sb]
            unfold push
            rw [if_pos (by omega), sb]; simp), sb]
        simp [hd, fitL]
    · rw [if_pos (by simp; omega), sb, if_pos rfl]; simp [hd]
theorem e_implFit (fuel : Nat) (hf : 2000000 ≤ fuel) (p : T_Problem) (t : List Int) (hJ : p.Nodes.length ≤ 1048576) (hE : p.Edges.length ≤ 1048576) (ht : t.length ≤ 1048576) : fI_FittingNodes fuel p t = some (fitB p t) := by
  unfold fI_FittingNodes fitB
  rw [e_IsProblem fuel (by omega) p (by omega) (by omega), sb]
  cases h : probB p
  · simp [sb]
  · obtain ⟨h1, h2, h3, h4, h5, h6⟩ := probB_iff h
    rw [if_neg (by simp)]
    by_cases hd : (t.length : Int) ≤ p.Degree
    · rw [if_neg (by simp; omega)]
      unfold fI_Problem_hasLabels
      rw [ck_in (by omega) (by omega), sb, e_allWithin _ _ _ (by omega), sb, sb, sb]
      cases ha : t.all (inB 0 (p.Labels - 1))
      · simp
      · rw [if_neg (by simp)]
        unfold fI_Problem_fitting srtO
        rw [if_pos (by omega), sb, fit_loop (fun x => incB x (srt t) 0) p.Nodes 0 [] (by simp; omega) (fun k x acc hx hacc => by
          have hxl := ((confs_pair h5).1 x hx).1
          unfold fI_Problem_fitting_s1
          rw [e_includes x (srt t) fuel (by omega) (by omega), sb]
          cases incB x (srt t) 0
          · simp
          · rw [if_pos rfl]
            unfold fX_slices_Clone_int_int
            rw [cat_nil x (by omega), sb, sb]
            unfold push
            rw [if_pos (by omega), sb]; simp), sb]
        simp [hd, fitL, sb]
    · rw [if_pos (by simp; omega), sb, if_pos rfl]; simp [hd]
theorem fitB_sb (p : T_Problem) (t : List Int) : ((fitB p t).2 = false → (fitB p t).1 = []) ∧ tot (fitB p t).1 ≤ tot p.Nodes := by
  unfold fitB
  cases probB p && decide ((t.length : Int) ≤ p.Degree) && t.all (inB 0 (p.Labels - 1))
  · simp [tot, off]
  · simp only [if_true]
    refine ⟨by simp, ?_⟩
    unfold fitL
    have key : ∀ LL : List (List Int), tot (LL.filter fun x => incB x (srt t) 0) ≤ tot LL := by
      intro LL
      have hs : (LL.filter fun x => incB x (srt t) 0).Sublist LL := List.filter_sublist
      unfold tot off
      rw [List.take_length, List.take_length]
      have h1 := hs.length_le
      have h2 : ((LL.filter fun x => incB x (srt t) 0).map List.length).sum ≤ (LL.map List.length).sum := by
        induction LL with
        | nil => simp
        | cons a LL ih =>
          simp only [List.filter_cons]
          have := ih List.filter_sublist (List.filter_sublist.length_le)
          split
          · simp; omega
          · simp; omega
      omega
    exact key _
/-- A result that is a list of lists and whether there is one. -/
def solvM (r : List (List Int) × Bool) : Option (List (List Int)) := match r with
  | (l, true) => some l
  | _ => none
theorem solvM_sb {r : List (List Int) × Bool} (h : r.2 = false → r.1 = []) : (solvM r).isSome = r.2 ∧ (solvM r).getD [] = r.1 := by
  obtain ⟨l, b⟩ := r
  cases b
  · have : l = [] := h rfl
    subst this
    exact ⟨rfl, rfl⟩
  · exact ⟨rfl, rfl⟩
def fFittingNodesSpec (x : PR) (l : List Int) : Option (List (List Int)) := solvM (fitB (tP x) l)
def fFittingNodesImpl (x : PR) (l : List Int) : Option (List (List Int)) := fFittingNodesSpec x l
theorem FittingNodes_eq (x : PR) (l : List Int) (_ : okP x) (_ : szP x ≤ 1048576) (_ : ∀ n ∈ l, I64 n) (_ : l.length ≤ 1048576) : fFittingNodesImpl x l = fFittingNodesSpec x l := rfl
theorem dp_owM {w0 w : World} {o' : Tg} {t : Nat} {v : Value} {g : List Hv} {LL : List (List Int)} (h : Ow w0.heap.size 25 t o' w v g) (hr : Rws w0.heap.size 3 (t + 1) o' w g LL) (ht : 2 ≤ t) (ho : ∀ b, b < w0.heap.size → o' b = 1) : OwM w0.heap.size w.heap.size w v LL := by
  have hz := Dz.of h hr (by omega) (by omega) (by omega)
  obtain ⟨vs, hm⟩ := hz.matIn (fun b hb => by
    have := ho b hb
    unfold Go.Proofs.Ytiejigogmnkjdaa.frz
    rw [if_neg (by rw [this]; omega : ¬ o' b = t), this, if_neg (by omega)])
  exact hm.owM
theorem szP_tot {x : PR} (h : szP x ≤ 1048576) : tot x.nodes ≤ 1048576 := by unfold szP at h; omega
theorem specFittingNodes_any (v : Value) (x : PR) (lv : Value) (l : List Int) (w : World) (h : RdP w v x) (_ : okP x) (hs : szP x ≤ 1048576) (hl : Ints w lv l) (_ : ∀ n ∈ l, I64 n) (hls : l.length ≤ 1048576) :
    Calls Try.prog 27 #[v, lv] w (RetM w (fFittingNodesSpec x l)) := by
  obtain ⟨u, rfl, h2⟩ := h.rdz
  obtain ⟨s1, s2⟩ := szP_len hs
  obtain ⟨e3, e4⟩ := fitB_sb (tP x) l
  obtain ⟨b1, b2⟩ := solvM_sb e3
  have e5 := szP_tot hs
  refine (cS_FittingNodes 2000000 w ot 2 (by decide) u (tP x) h2 lv l hl.rdl _ (e_specFit 2000000 (Nat.le_refl _) (tP x) l s1 s2 hls)).mono ?_
  rintro e w' ⟨v0, g0, o', rfl, ho, hr, hk, hb⟩
  unfold fFittingNodesSpec
  exact ⟨v0, by rw [b1], by rw [b2]; exact dp_owM ho hr (by decide) hb, by rw [b2]; simp only [tP] at e4 ⊢; omega, hk⟩
theorem implFittingNodes_any (v : Value) (x : PR) (lv : Value) (l : List Int) (w : World) (h : RdP w v x) (_ : okP x) (hs : szP x ≤ 1048576) (hl : Ints w lv l) (_ : ∀ n ∈ l, I64 n) (hls : l.length ≤ 1048576) :
    Calls Try.prog 28 #[v, lv] w (RetM w (fFittingNodesImpl x l)) := by
  obtain ⟨u, rfl, h2⟩ := h.rdz
  obtain ⟨s1, s2⟩ := szP_len hs
  obtain ⟨e3, e4⟩ := fitB_sb (tP x) l
  obtain ⟨b1, b2⟩ := solvM_sb e3
  have e5 := szP_tot hs
  refine (cI_FittingNodes 2000000 w ot 2 (by decide) u (tP x) h2 lv l hl.rdl _ (e_implFit 2000000 (Nat.le_refl _) (tP x) l s1 s2 hls)).mono ?_
  rintro e w' ⟨v0, g0, o', rfl, ho, hr, hk, hb⟩
  unfold fFittingNodesImpl fFittingNodesSpec
  exact ⟨v0, by rw [b1], by rw [b2]; exact dp_owM ho hr (by decide) hb, by rw [b2]; simp only [tP] at e4 ⊢; omega, hk⟩
end Go.Proofs.Ytiejigogmnkjdaa
