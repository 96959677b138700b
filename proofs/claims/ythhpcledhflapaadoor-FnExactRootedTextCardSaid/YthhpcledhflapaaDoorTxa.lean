/- RootedText: what both sides answer, and as the law calls them. -/
import Derived.Test.YthhpcledhflapaaDoorGSa
import Derived.Test.YthhpcledhflapaaDoorPc
import Derived.Test.YthhpcledhflapaaDoorAd
namespace Go.Proofs.YthhpcledhflapaaDoor
open Go.RowKit Go.Shelf
set_option linter.unusedSimpArgs false
set_option linter.unusedVariables false

/-! ### Lines of text -/
def numT (l : List Int) : List UInt8 := l.flatMap fun n => 32 :: (digS n).b
def digL (l : List Int) : Prop := ∀ n, n ∈ l → 0 ≤ n ∧ n < 10
theorem numT_len (l : List Int) : (numT l).length = 2 * l.length := by
  induction l with
  | nil => rfl
  | cons n l ih =>
    have : numT (n :: l) = 32 :: ((digS n).b ++ numT l) := rfl
    rw [this]
    simp only [digS, List.length_cons, List.length_append, List.length_nil, ih]
    omega
theorem numT_cons (n : Int) (l : List Int) : numT (n :: l) = 32 :: (digS n).b ++ numT l := rfl
theorem ma_loop : ∀ (l : List Int) (k : Int) (w : Str), digL l → w.b.length + 2 * l.length ≤ 1000000 → forI fS_maLine_s1 l k w = some (.inl ⟨w.b ++ numT l⟩)
  | [], k, w, _, _ => by simp [forI, numT]
  | n :: l, k, w, h, hb => by
    have hn := h n (by simp)
    simp only [List.length_cons] at hb
    have e1 : fS_maLine_s1 k n w = some (.go ⟨w.b ++ 32 :: (digS n).b⟩) := by
      unfold fS_maLine_s1 fS_l1Num
      rw [if_neg (by simp; omega), if_pos hn, sb, sadd_in (by simp [digS]), sb, sadd_in (by simp [digS]; omega), sb]
      rfl
    simp only [forI, e1]
    rw [ma_loop l (k + 1) _ (fun x hx => h x (by simp [hx])) (by simp [digS]; omega), numT_cons]
    simp
theorem wo_loop : ∀ (l : List Int) (k : Int) (w : Str), digL l → w.b.length + 2 * l.length ≤ 1000000 → forI fI_wordsLine_s1 l k w = some (.inl ⟨w.b ++ numT l⟩)
  | [], k, w, _, _ => by simp [forI, numT]
  | n :: l, k, w, h, hb => by
    have hn := h n (by simp)
    simp only [List.length_cons] at hb
    have e1 : fI_wordsLine_s1 k n w = some (.go ⟨w.b ++ 32 :: (digS n).b⟩) := by
      unfold fI_wordsLine_s1 fX_strconv_Itoa
      rw [if_neg (by simp; omega), if_pos hn, sb, sadd_in (by simp [digS]), sb, sadd_in (by simp [digS]; omega), sb]
      rfl
    simp only [forI, e1]
    rw [wo_loop l (k + 1) _ (fun x hx => h x (by simp [hx])) (by simp [digS]; omega), numT_cons]
    simp
theorem e_maLine (w : Str) (l : List Int) (h : digL l) (hb : w.b.length + 2 * l.length ≤ 1000000) : fS_maLine w l = some ⟨w.b ++ numT l⟩ := by
  unfold fS_maLine
  rw [ma_loop l 0 w h hb, sb]
theorem e_wordsLine (w : Str) (l : List Int) (h : digL l) (hb : w.b.length + 2 * l.length ≤ 1000000) : fI_wordsLine w l = some ⟨w.b ++ numT l⟩ := by
  unfold fI_wordsLine
  rw [wo_loop l 0 w h hb, sb]
/-! ### The whole text -/
def lnT (x : List Int) : List UInt8 := [108, 105, 110, 101] ++ numT x
def hdT (p : T_RootedProblem) : List UInt8 := [114, 111, 111, 116, 101, 100] ++ numT [p.Labels, p.Children]
def txtT (p : T_RootedProblem) : List UInt8 := hdT p ++ [10] ++ p.Lines.flatMap fun x => lnT x ++ [10]
def okTx (LL : List (List Int)) : Prop := ∀ x, x ∈ LL → x.length ≤ 4 ∧ digL x
theorem lnT_len {x : List Int} (h : x.length ≤ 4) : (lnT x).length ≤ 12 := by
  unfold lnT
  rw [List.length_append, numT_len]; simp; omega
theorem hdT_len (p : T_RootedProblem) : (hdT p).length = 10 := by
  unfold hdT
  rw [List.length_append, numT_len]; rfl
theorem ro_loop : ∀ (LL : List (List Int)) (k : Int) (s : Str), okTx LL → s.b.length + 13 * LL.length ≤ 1000000000 → forI fS_roText_s1 LL k s = some (.inl ⟨s.b ++ LL.flatMap fun x => lnT x ++ [10]⟩)
  | [], k, s, _, _ => by simp [forI]
  | x :: LL, k, s, h, hb => by
    obtain ⟨hx, hd⟩ := h x (by simp)
    simp only [List.length_cons] at hb
    have hl := lnT_len hx
    have e1 : fS_roText_s1 k x s = some (.go ⟨s.b ++ (lnT x ++ [10])⟩) := by
      unfold fS_roText_s1
      rw [e_maLine _ x hd (by simp; omega), sb, sadd_in (by simp [numT_len]; omega), sb, sadd_in (by simp [numT_len]; omega), sb]
      rfl
    simp only [forI, e1]
    rw [ro_loop LL (k + 1) _ (fun y hy => h y (by simp [hy])) (by simp; omega)]
    simp
theorem digL_head {p : T_RootedProblem} (h1 : 1 ≤ p.Labels ∧ p.Labels ≤ 8) (h2 : 1 ≤ p.Children ∧ p.Children ≤ 3) : digL [p.Labels, p.Children] := by
  intro n hn
  simp at hn
  rcases hn with rfl | rfl <;> omega
theorem e_roText (p : T_RootedProblem) (h1 : 1 ≤ p.Labels ∧ p.Labels ≤ 8) (h2 : 1 ≤ p.Children ∧ p.Children ≤ 3) (h3 : okTx p.Lines) (hJ : p.Lines.length ≤ 2000000) : fS_roText p = some ⟨txtT p⟩ := by
  unfold fS_roText
  rw [e_maLine _ _ (digL_head h1 h2) (by simp), sb, sadd_in (by simp [numT_len]), sb, ro_loop p.Lines 0 _ h3 (by simp [numT_len]; omega), sb]
  rfl
theorem li_loop : ∀ (LL : List (List Int)) (k : Int) (s : List Str), okTx LL → s.length + LL.length ≤ 1000000000 → forI fI_rootedText_s1 LL k s = some (.inl (s ++ LL.map fun x => ⟨lnT x⟩))
  | [], k, s, _, _ => by simp [forI]
  | x :: LL, k, s, h, hb => by
    obtain ⟨hx, hd⟩ := h x (by simp)
    simp only [List.length_cons] at hb
    have e1 : fI_rootedText_s1 k x s = some (.go (s ++ [⟨lnT x⟩])) := by
      unfold fI_rootedText_s1
      rw [e_wordsLine _ x hd (by simp; omega), sb]
      unfold push
      rw [if_pos (by omega), sb]
      rfl
    simp only [forI, e1]
    rw [li_loop LL (k + 1) _ (fun y hy => h y (by simp [hy])) (by simp; omega)]
    simp
theorem join_txt (a : List UInt8) (LL : List (List UInt8)) : Lib.join (a :: LL) [10] ++ [10] = a ++ [10] ++ LL.flatMap fun x => x ++ [10] := by
  rw [Lib.join_cons]
  unfold Lib.joinTail
  induction LL generalizing a with
  | nil => simp
  | cons x LL ih =>
    have := ih x
    simp only [List.append_assoc] at this ⊢
    simp only [List.map_cons, List.flatten_cons, List.flatMap_cons, List.append_assoc]
    rw [this]
theorem join_len (a : List UInt8) (LL : List (List UInt8)) (h : ∀ x ∈ LL, x.length ≤ 12) : (Lib.join (a :: LL) [10]).length ≤ a.length + 13 * LL.length := by
  rw [Lib.join_cons]
  unfold Lib.joinTail
  rw [List.length_append]
  have : ∀ LL : List (List UInt8), (∀ x ∈ LL, x.length ≤ 12) → ((LL.map ([10] ++ ·)).flatten).length ≤ 13 * LL.length := by
    intro LL
    induction LL with
    | nil => intro _; simp
    | cons x LL ih =>
      intro h
      have h1 := h x (by simp)
      have h2 := ih fun y hy => h y (by simp [hy])
      simp only [List.map_cons, List.flatten_cons, List.length_append, List.length_cons, List.length_nil]
      omega
  have := this LL h
  omega
theorem e_rootedText (p : T_RootedProblem) (h1 : 1 ≤ p.Labels ∧ p.Labels ≤ 8) (h2 : 1 ≤ p.Children ∧ p.Children ≤ 3) (h3 : okTx p.Lines) (hJ : p.Lines.length ≤ 2000000) : fI_rootedText p = some ⟨txtT p⟩ := by
  unfold fI_rootedText
  rw [e_wordsLine _ _ (digL_head h1 h2) (by simp), sb, li_loop p.Lines 0 _ h3 (by simp; omega), sb]
  simp only
  have hm : (([⟨hdT p⟩] ++ p.Lines.map fun x => (⟨lnT x⟩ : Str)) : List Str).map (·.b) = hdT p :: p.Lines.map lnT := by simp
  have hj := join_len (hdT p) (p.Lines.map lnT) (fun x hx => by
    obtain ⟨y, hy, rfl⟩ := List.mem_map.1 hx
    exact lnT_len (h3 y hy).1)
  rw [hdT_len, List.length_map] at hj
  have ej : joinO ([⟨hdT p⟩] ++ p.Lines.map fun x => (⟨lnT x⟩ : Str)) ⟨[10]⟩ = some ⟨Lib.join (hdT p :: p.Lines.map lnT) [10]⟩ := by
    unfold joinO
    rw [hm, if_pos (by simp at hj ⊢; omega)]
  have e0 : ([⟨([114, 111, 111, 116, 101, 100] : List UInt8) ++ numT [p.Labels, p.Children]⟩] : List Str) = [⟨hdT p⟩] := rfl
  rw [e0, ej, sb, sadd_in (by simp; omega), sb, join_txt]
  unfold txtT
  rw [List.flatMap_map]
/-! ### The answer -/
theorem okTx_of {p : T_RootedProblem} (h : rootedB p = true) : (1 ≤ p.Labels ∧ p.Labels ≤ 8) ∧ (1 ≤ p.Children ∧ p.Children ≤ 3) ∧ okTx p.Lines := by
  unfold rootedB at h
  simp only [Bool.and_eq_true] at h
  obtain ⟨⟨h1, h2⟩, h3⟩ := h
  rw [inB_iff] at h1 h2
  refine ⟨h1, h2, fun x hx => ?_⟩
  obtain ⟨i, hi⟩ := List.getElem?_of_mem hx
  have hn := firstP_none.1 (Option.isNone_iff_eq_none.1 h3) i x hi
  rw [Nat.zero_add] at hn
  obtain ⟨h5, h6⟩ := lineP_none hn
  exact ⟨by omega, fun y hy => by have := h6 y hy; omega⟩
def textB (p : T_RootedProblem) : Str × Bool := if rootedB p then (⟨txtT p⟩, true) else (⟨[]⟩, false)
theorem e_specText (fuel : Nat) (hf : 100 ≤ fuel) (p : T_RootedProblem) (hJ : p.Lines.length ≤ 2000000) : fS_RootedText fuel p = some (textB p) := by
  unfold fS_RootedText textB
  have hg : fS_roGood fuel p = some (rootedB p) := by
    have := e_specIsRooted fuel (by omega) p (by omega)
    unfold fS_IsRootedProblem at this
    cases h : fS_roGood fuel p with
    | none => rw [h] at this; exact this
    | some r => rw [h] at this; exact this
  rw [hg, sb]
  cases h : rootedB p
  · simp
  · obtain ⟨h1, h2, h3⟩ := okTx_of h
    rw [if_neg (by simp), e_roText p h1 h2 h3 hJ, sb]; simp
theorem e_implText (fuel : Nat) (hf : 100 ≤ fuel) (p : T_RootedProblem) (hJ : p.Lines.length ≤ 2000000) : fI_RootedText fuel p = some (textB p) := by
  unfold fI_RootedText textB
  rw [e_implIsRooted fuel (by omega) p (by omega), sb]
  cases h : rootedB p
  · simp
  · obtain ⟨h1, h2, h3⟩ := okTx_of h
    rw [if_neg (by simp), e_rootedText p h1 h2 h3 hJ, sb]; simp
def fRootedTextSpec (x : RP) : Str × Bool := textB (tR x)
def fRootedTextImpl (x : RP) : Str × Bool := fRootedTextSpec x
theorem RootedText_eq (x : RP) (_ : okR x) (_ : szR x ≤ 1048576) : fRootedTextImpl x = fRootedTextSpec x := rfl
theorem specRootedText_any (v : Value) (x : RP) (w : World) (h : RdR w v x) (_ : okR x) (hs : szR x ≤ 1048576) :
    Calls Tryd.prog 18 #[v] w fun e w' => e = .returned (.tuple #[.string ⟨(fRootedTextSpec x).1.b.toArray⟩, .bool (fRootedTextSpec x).2]) ∧ Keeps w w' := by
  obtain ⟨u, rfl, h2⟩ := h.rdz
  exact cS_RootedText 100 w u (tR x) h2 _ (e_specText 100 (by omega) (tR x) (by have := szR_lines hs; simp only [tR]; omega))
theorem implRootedText_any (v : Value) (x : RP) (w : World) (h : RdR w v x) (_ : okR x) (hs : szR x ≤ 1048576) :
    Calls Tryd.prog 20 #[v] w fun e w' => e = .returned (.tuple #[.string ⟨(fRootedTextImpl x).1.b.toArray⟩, .bool (fRootedTextImpl x).2]) ∧ Keeps w w' := by
  obtain ⟨u, rfl, h2⟩ := h.rdz
  exact cI_RootedText 100 w u (tR x) h2 _ (e_implText 100 (by omega) (tR x) (by have := szR_lines hs; simp only [tR]; omega))
end Go.Proofs.YthhpcledhflapaaDoor
