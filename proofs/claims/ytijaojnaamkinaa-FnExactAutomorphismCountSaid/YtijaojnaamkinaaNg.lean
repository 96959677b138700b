/- Networks: what both sides ask of one. -/
import Derived.Test.YtijaojnaamkinaaPd
import Derived.Test.YtijaojnaamkinaaRis
import Derived.Test.YtijaojnaamkinaaGNa
namespace Go.Proofs.Ytijaojnaamkinaa
set_option linter.unusedSimpArgs false
set_option linter.unusedVariables false

/-! ### Identifiers -/
theorem srt_sorted' (xs : List Int) : (srt xs).Pairwise (· ≤ ·) := by
  have := List.pairwise_mergeSort (le := fun x y : Int => decide (x ≤ y)) (fun a b c h1 h2 => by simp at *; omega) (fun a b => by simp; omega) xs
  exact this.imp fun h => by simpa using h
theorem srt_perm' (xs : List Int) : (srt xs).Perm xs := List.mergeSort_perm xs _
def idsQ (l : List Int) (k : Nat) (x : Int) : Option Bool := if inB 1 999999 x && !decide (x ∈ l.take k) then none else some false
def idsN (l : List Int) : Bool := (firstP (idsQ l) l 0).isNone
theorem idsQ_res {l xs : List Int} {k : Nat} {r : Bool} (h : firstP (idsQ l) xs k = some r) : r = false := by
  obtain ⟨j, x, _, h2⟩ := firstP_some h
  unfold idsQ at h2
  split at h2 <;> cases h2
  rfl
theorem nodup_take' {l : List Int} : l.Nodup ↔ ∀ (j : Nat) x, l[j]? = some x → x ∉ l.take j := by
  rw [List.Nodup, List.pairwise_iff_getElem]
  constructor
  · intro h j x hj hm
    obtain ⟨i, hi, e⟩ := List.mem_take_iff_getElem.1 hm
    have hjl := (List.getElem?_eq_some_iff.1 hj)
    have := h i j (by omega) hjl.1 (by omega)
    exact this (e.trans hjl.2.symm)
  · intro h i j hi hj hij e
    refine h j l[j] (List.getElem?_eq_getElem hj) ?_
    rw [← e]
    exact List.mem_take_iff_getElem.2 ⟨i, by omega, rfl⟩
theorem idsN_iff (l : List Int) : idsN l = true ↔ (∀ x, x ∈ l → 1 ≤ x ∧ x ≤ 999999) ∧ l.Nodup := by
  unfold idsN
  rw [Option.isNone_iff_eq_none, firstP_none, nodup_take']
  have e : ∀ (j : Nat) x, idsQ l (0 + j) x = none ↔ (1 ≤ x ∧ x ≤ 999999) ∧ x ∉ l.take j := fun j x => by
    unfold idsQ
    rw [Nat.zero_add]
    by_cases h1 : inB 1 999999 x = true
    · have h1' := inB_iff.1 h1
      by_cases h2 : x ∈ l.take j <;> simp [h1, h2, h1']
    · have : ¬ (1 ≤ x ∧ x ≤ 999999) := fun h => h1 (inB_iff.2 h)
      simp [h1, this]
  constructor
  · intro h
    refine ⟨fun x hx => ?_, fun j x hj => ((e j x).1 (h j x hj)).2⟩
    obtain ⟨j, hj⟩ := List.mem_iff_getElem?.1 hx
    exact ((e j x).1 (h j x hj)).1
  · rintro ⟨h1, h2⟩ j x hj
    exact (e j x).2 ⟨h1 x (List.mem_of_getElem? hj), h2 j x hj⟩
theorem ris_srtN (l : List Int) : risB (srt l) 1 999999 = idsN l := by
  rw [Bool.eq_iff_iff, risB_iff, idsN_iff]
  have hm : ∀ x, x ∈ srt l ↔ x ∈ l := fun x => (srt_perm' l).mem_iff
  constructor
  · rintro ⟨h1, h2⟩
    exact ⟨fun x hx => h1 x ((hm x).2 hx), (srt_perm' l).nodup_iff.1 (h2.imp fun h => by omega)⟩
  · rintro ⟨h1, h2⟩
    refine ⟨fun x hx => h1 x ((hm x).1 hx), ?_⟩
    have h3 := (srt_perm' l).nodup_iff.2 h2
    exact List.Pairwise.imp₂ (fun a b h1 h2 => by omega) (srt_sorted' l) h3
def idsG (l : List Int) (n : Int) : Bool := idsN l && (decide (l = []) || decide ((l.length : Int) = n))
theorem e_neIds (l : List Int) (n : Int) (hl : l.length ≤ 1048576) : fS_neIds l n = some (idsG l n) := by
  unfold fS_neIds idsG idsN
  rw [forI_first0 (idsQ l) l (fun j x hj _ => by
    have hjl := (List.getElem?_eq_some_iff.1 hj).1
    unfold fS_neIds_s1 idsQ
    rw [e_l1In, sb]
    rw [show (decide (1 ≤ x) && decide (x ≤ 999999)) = inB 1 999999 x from rfl]
    cases h : inB 1 999999 x
    · simp [sb, lpP]
    · rw [if_neg (by simp), show cut l 0 (j : Int) = some (l.take j) by unfold cut; rw [if_pos (by omega)]; simp, sb, e_l1Has, sb, sb]
      by_cases hm : x ∈ l.take j
      · simp [hm, lpP]
      · simp [hm, lpP]), sb]
  cases hc : firstP (idsQ l) l 0 with
  | none =>
    simp only [outP, Option.isNone_none, Bool.true_and]
    by_cases h0 : l = []
    · subst h0; simp [sb]
    · have : (l.length : Int) ≠ 0 := by intro e; apply h0; exact List.eq_nil_of_length_eq_zero (by omega)
      rw [if_neg (by simpa using this), sb]
      simp [h0]
      rfl
  | some r => have := idsQ_res hc; subst this; simp [outP]
theorem e_idsOkN (l : List Int) (n : Int) (hl : l.length ≤ 1048576) : fI_idsOk l n = some (idsG l n) := by
  unfold fI_idsOk idsG
  by_cases h0 : l = []
  · subst h0; simp [idsN, firstP]
  · have : (l.length : Int) ≠ 0 := by intro e; apply h0; exact List.eq_nil_of_length_eq_zero (by omega)
    rw [if_neg (by simpa using this)]
    unfold fX_slices_Clone_int_int
    rw [cat_nil l (by omega), sb, sb]
    unfold srtO
    rw [if_pos (by omega), sb]
    by_cases hn : (l.length : Int) = n
    · rw [if_pos (by simp [hn]), e_increasing _ _ _ (by rw [srt_length]; omega), sb, sb, ris_srtN]; simp [hn]
    · rw [if_neg (by simp [hn]), sb]; simp [hn, h0]

/-! ### The ends -/
def rowAt (p : T_Network) (v : Int) : List T_End := p.Ends.getD v.toNat []
def endP (p : T_Network) (v i : Nat) (e : T_End) : Option Bool :=
  if inB 0 ((p.Ends.length : Int) - 1) e.Node && (inB 0 (((rowAt p e.Node).length : Int) - 1) e.Port && decide ((rowAt p e.Node).getD e.Port.toNat ⟨0, 0⟩ = ⟨v, i⟩)) then none else some false
def rowP (p : T_Network) (v : Nat) (row : List T_End) : Option Bool := if decide ((row.length : Int) > 6) then some false else firstP (endP p v) row 0
def netB (p : T_Network) : Bool :=
  inB 1 40 p.Ends.length && (idsG p.Ids p.Ends.length && (decide ((p.Inputs.length : Int) = p.Ends.length) && p.Inputs.all (inB 0 9))) && (firstP (rowP p) p.Ends 0).isNone
/-- Sizes that a statement allows. -/
structure SzN (p : T_Network) : Prop where
  ids : p.Ids.length ≤ 1048576
  inp : p.Inputs.length ≤ 1048576
  ends : p.Ends.length ≤ 1048576
  rows : ∀ r, r ∈ p.Ends → r.length ≤ 1048576
theorem firstP_false {α : Type} {p : Nat → α → Option Bool} (h : ∀ k x r, p k x = some r → r = false) {xs : List α} {k : Nat} {r : Bool} (h2 : firstP p xs k = some r) : r = false := by
  obtain ⟨j, x, _, h3⟩ := firstP_some h2
  exact h _ _ _ h3
theorem endP_res {p : T_Network} {v i : Nat} {e : T_End} {r : Bool} (h : endP p v i e = some r) : r = false := by
  unfold endP at h
  split at h <;> cases h
  rfl
theorem rowP_res {p : T_Network} {v : Nat} {row : List T_End} {r : Bool} (h : rowP p v row = some r) : r = false := by
  unfold rowP at h
  split at h
  · cases h; rfl
  · exact firstP_false (fun _ _ _ h => endP_res h) h
theorem ix_row {p : T_Network} {v : Int} (h0 : 0 ≤ v) (h1 : v < p.Ends.length) : ix p.Ends v = some (rowAt p v) := by
  unfold ix rowAt
  rw [if_pos h0, List.getD_eq_getElem?_getD, List.getElem?_eq_getElem (by omega)]; rfl
theorem rowAt_le {p : T_Network} (hp : SzN p) (v : Int) : (rowAt p v).length ≤ 1048576 := by
  unfold rowAt
  rw [List.getD_eq_getElem?_getD]
  cases h : p.Ends[v.toNat]? with
  | none => simp
  | some r => exact hp.rows r (List.mem_of_getElem? h)
theorem ix_endAt {r : List T_End} {i : Int} (h0 : 0 ≤ i) (h1 : i < r.length) : ix r i = some (r.getD i.toNat ⟨0, 0⟩) := by
  unfold ix
  rw [if_pos h0, List.getD_eq_getElem?_getD, List.getElem?_eq_getElem (by omega)]; rfl
theorem end_eq (a : T_End) (v i : Int) : (a.Node == v && a.Port == i) = decide (a = ⟨v, i⟩) := by
  cases a with | mk x y =>
  by_cases h1 : x = v <;> by_cases h2 : y = i <;> simp [h1, h2]
theorem goodS_end (p : T_Network) (hp : SzN p) (v j : Nat) (e : T_End) : fS_neGood_s2 p v j e () = some (lpP (endP p v j e)) := by
  unfold fS_neGood_s2 endP
  have := hp.ends
  have hr := rowAt_le hp e.Node
  rw [ck_in (by omega) (by omega), sb, e_l1In, sb, show (decide (0 ≤ e.Node) && decide (e.Node ≤ (p.Ends.length : Int) - 1)) = inB 0 ((p.Ends.length : Int) - 1) e.Node from rfl]
  cases h : inB 0 ((p.Ends.length : Int) - 1) e.Node
  · simp [sb, lpP]
  · have h' := inB_iff.1 h
    rw [if_neg (by simp), ix_row (by omega) (by omega), sb, ck_in (by omega) (by omega), sb, e_l1In, sb, show (decide (0 ≤ e.Port) && decide (e.Port ≤ ((rowAt p e.Node).length : Int) - 1)) = inB 0 (((rowAt p e.Node).length : Int) - 1) e.Port from rfl]
    cases h2 : inB 0 (((rowAt p e.Node).length : Int) - 1) e.Port
    · simp [sb, lpP]
    · have h2' := inB_iff.1 h2
      rw [if_neg (by simp), sb, ix_endAt (by omega) (by omega), sb, sb, end_eq]
      by_cases h3 : (rowAt p e.Node).getD e.Port.toNat ⟨0, 0⟩ = (⟨v, j⟩ : T_End)
      · rw [if_neg (by simp only [h3, decide_true]; decide), if_pos (by simp only [h3, decide_true]; decide)]; rfl
      · rw [if_pos (by simp only [h3, decide_false]; decide), if_neg (by simp only [h3, decide_false]; decide)]; rfl
theorem goodS_row (p : T_Network) (hp : SzN p) (v : Nat) (row : List T_End) : fS_neGood_s1 p v row () = some (lpP (rowP p v row)) := by
  unfold fS_neGood_s1 rowP
  by_cases h : (row.length : Int) > 6
  · simp [h, lpP]
  · rw [if_neg (by simpa using h), if_neg (by simpa using h), forI_first0 (endP p v) row (fun j e _ _ => goodS_end p hp v j e), sb]
    cases firstP (endP p v) row 0 <;> rfl
theorem e_neGood (p : T_Network) (hp : SzN p) : fS_neGood p = some (netB p) := by
  unfold fS_neGood netB
  rw [e_l1In, sb, show (decide (1 ≤ (p.Ends.length : Int)) && decide ((p.Ends.length : Int) ≤ 40)) = inB 1 40 p.Ends.length from rfl]
  cases h1 : inB 1 40 (p.Ends.length : Int)
  · simp [sb]
  rw [if_neg (by simp), e_neIds _ _ hp.ids, sb]
  cases h2 : idsG p.Ids (p.Ends.length : Int)
  · simp [sb]
  rw [if_neg (by simp)]
  by_cases h3 : (p.Inputs.length : Int) = p.Ends.length
  · rw [if_neg (by simp [h3]), e_l1All, sb, sb]
    cases h4 : p.Inputs.all (inB 0 9)
    · simp
    · rw [if_neg (by simp), forI_first0 (rowP p) p.Ends (fun j r _ _ => goodS_row p hp j r), sb]
      cases h5 : firstP (rowP p) p.Ends 0 with
      | none => simp [outP, h3]
      | some r => have := firstP_false (fun _ _ _ h => rowP_res h) h5; subst this; simp [outP]
  · rw [if_pos (by simpa using h3), sb]; simp [h3]
theorem e_hasNode (p : T_Network) (hp : SzN p) (v : Int) : fI_Network_hasNode p v = some (inB 0 ((p.Ends.length : Int) - 1) v) := by
  unfold fI_Network_hasNode
  have := hp.ends
  rw [ck_in (by omega) (by omega), sb, e_within, sb]; rfl
theorem goodI_end (p : T_Network) (hp : SzN p) (v j : Nat) (e : T_End) : fI_IsNetwork_s2 p v j e () = some (lpP (endP p v j e)) := by
  unfold fI_IsNetwork_s2 endP fI_Network_hasPort
  have := hp.ends
  have hr := rowAt_le hp e.Node
  rw [e_hasNode p hp, sb]
  cases h : inB 0 ((p.Ends.length : Int) - 1) e.Node
  · simp [sb, lpP]
  · have h' := inB_iff.1 h
    rw [if_pos rfl, ix_row (by omega) (by omega), sb, ck_in (by omega) (by omega), sb, e_within, sb, show (decide (0 ≤ e.Port) && decide (e.Port ≤ ((rowAt p e.Node).length : Int) - 1)) = inB 0 (((rowAt p e.Node).length : Int) - 1) e.Port from rfl, sb, sb]
    cases h2 : inB 0 (((rowAt p e.Node).length : Int) - 1) e.Port
    · simp [sb, lpP]
    · have h2' := inB_iff.1 h2
      rw [if_neg (by simp), sb, ix_endAt (by omega) (by omega), sb, sb, end_eq]
      by_cases h3 : (rowAt p e.Node).getD e.Port.toNat ⟨0, 0⟩ = (⟨v, j⟩ : T_End)
      · rw [if_neg (by simp only [h3, decide_true]; decide), if_pos (by simp only [h3, decide_true]; decide)]; rfl
      · rw [if_pos (by simp only [h3, decide_false]; decide), if_neg (by simp only [h3, decide_false]; decide)]; rfl
theorem goodI_row (p : T_Network) (hp : SzN p) (v : Nat) (row : List T_End) : fI_IsNetwork_s1 p v row () = some (lpP (rowP p v row)) := by
  unfold fI_IsNetwork_s1 rowP
  by_cases h : (row.length : Int) > 6
  · simp [h, lpP]
  · rw [if_neg (by simpa using h), if_neg (by simpa using h), forI_first0 (endP p v) row (fun j e _ _ => goodI_end p hp v j e), sb]
    cases firstP (endP p v) row 0 <;> rfl
theorem e_IsNetwork (p : T_Network) (hp : SzN p) : fI_IsNetwork p = some (netB p) := by
  unfold fI_IsNetwork netB
  rw [e_within, sb, show (decide (1 ≤ (p.Ends.length : Int)) && decide ((p.Ends.length : Int) ≤ 40)) = inB 1 40 p.Ends.length from rfl]
  cases h1 : inB 1 40 (p.Ends.length : Int)
  · simp [sb]
  rw [if_neg (by simp), e_idsOkN _ _ hp.ids, sb]
  cases h2 : idsG p.Ids (p.Ends.length : Int)
  · simp [sb]
  rw [if_neg (by simp)]
  have hin := hp.inp
  unfold fI_inputsOk
  by_cases h3 : (p.Inputs.length : Int) = p.Ends.length
  · rw [if_pos (by simp [h3]), e_allWithin _ _ _ (by omega), sb, sb, sb, sb]
    cases h4 : p.Inputs.all (inB 0 9)
    · simp
    · rw [if_neg (by simp), forI_first0 (rowP p) p.Ends (fun j r _ _ => goodI_row p hp j r), sb]
      cases h5 : firstP (rowP p) p.Ends 0 with
      | none => simp [outP, h3]
      | some r => have := firstP_false (fun _ _ _ h => rowP_res h) h5; subst this; simp [outP]
  · rw [if_neg (by simpa using h3), sb, sb, sb]; simp [h3]
/-- What is known of a network. -/
structure GoodN (p : T_Network) : Prop where
  n1 : 1 ≤ p.Ends.length
  n2 : p.Ends.length ≤ 40
  ids : p.Ids = [] ∨ p.Ids.length = p.Ends.length
  inp : p.Inputs.length = p.Ends.length
  row : ∀ (v : Nat) r, p.Ends[v]? = some r → r.length ≤ 6
  node : ∀ (v : Nat) r, p.Ends[v]? = some r → ∀ (i : Nat) e, r[i]? = some e → 0 ≤ e.Node ∧ e.Node < p.Ends.length
theorem netB_good {p : T_Network} (h : netB p = true) : GoodN p := by
  unfold netB at h
  simp only [Bool.and_eq_true, decide_eq_true_eq, Option.isNone_iff_eq_none] at h
  obtain ⟨⟨h1, h2, h3, h4⟩, h5⟩ := h
  have h1 := inB_iff.1 h1
  have hrow : ∀ (v : Nat) r, p.Ends[v]? = some r → r.length ≤ 6 ∧ firstP (endP p v) r 0 = none := fun v r hv => by
    have := firstP_none.1 h5 v r hv
    rw [Nat.zero_add] at this
    unfold rowP at this
    split at this
    · cases this
    · rename_i hh; exact ⟨by simp at hh; omega, this⟩
  refine ⟨by omega, by omega, ?_, by omega, fun v r hv => (hrow v r hv).1, fun v r hv i e he => ?_⟩
  · unfold idsG at h2
    simp only [Bool.and_eq_true, Bool.or_eq_true, decide_eq_true_eq] at h2
    rcases h2.2 with h | h
    · exact .inl h
    · exact .inr (by omega)
  · have := firstP_none.1 (hrow v r hv).2 i e he
    unfold endP at this
    split at this
    · rename_i hh
      simp only [Bool.and_eq_true] at hh
      have := inB_iff.1 hh.1
      omega
    · cases this
end Go.Proofs.Ytijaojnaamkinaa
