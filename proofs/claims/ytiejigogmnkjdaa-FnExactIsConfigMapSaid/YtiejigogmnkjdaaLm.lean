/- IsLabelMap of both sides, as the law calls them. -/
import Derived.Test.YtiejigogmnkjdaaAdp
import Derived.Test.YtiejigogmnkjdaaPp
import Derived.Test.YtiejigogmnkjdaaIm
import Derived.Test.YtiejigogmnkjdaaIfl
import Derived.Test.YtiejigogmnkjdaaGT
namespace Go.Proofs.Ytiejigogmnkjdaa
open Go.RowKit
set_option linter.unusedSimpArgs false
set_option linter.unusedVariables false

def twoB (p q : T_Problem) : Bool := probB p && probB q && (p.Degree == q.Degree)
theorem e_reTwo (fuel : Nat) (hf : 10 ≤ fuel) (p q : T_Problem) (h1 : p.Nodes.length ≤ 1048576) (h2 : p.Edges.length ≤ 1048576) (h3 : q.Nodes.length ≤ 1048576) (h4 : q.Edges.length ≤ 1048576) : fS_reTwo fuel p q = some (twoB p q) := by
  unfold fS_reTwo twoB
  rw [e_prGood fuel hf p (by omega) (by omega), sb]
  cases probB p
  · simp [sb]
  · rw [if_pos rfl, e_prGood fuel hf q (by omega) (by omega), sb]
    cases probB q
    · simp [sb]
    · simp [sb]
theorem e_areProblems (fuel : Nat) (hf : 10 ≤ fuel) (p q : T_Problem) (h1 : p.Nodes.length ≤ 1048576) (h2 : p.Edges.length ≤ 1048576) (h3 : q.Nodes.length ≤ 1048576) (h4 : q.Edges.length ≤ 1048576) : fI_areProblems fuel p q = some (twoB p q) := by
  unfold fI_areProblems twoB
  rw [e_IsProblem fuel hf p (by omega) (by omega), sb]
  cases probB p
  · simp [sb]
  · rw [if_pos rfl, e_IsProblem fuel hf q (by omega) (by omega), sb]
    cases probB q
    · simp [sb]
    · simp [sb]
theorem imgL_length (t x : List Int) : (imgL t x).length = x.length := by simp [imgL]
def mapB (p q : T_Problem) (f : List Int) : Bool :=
  decide ((f.length : Int) = p.Labels) && f.all (inB 0 (q.Labels - 1)) && p.Nodes.all (fun x => decide (srt (imgL f x) ∈ q.Nodes)) && p.Edges.all (fun x => decide (srt (imgL f x) ∈ q.Edges))
theorem e_reInto (fuel : Nat) (hf : 10 ≤ fuel) (LL MM : List (List Int)) (f : List Int) (m n : Int) (hc : confsB LL m n = true) (hm : m ≤ 4) (hn : (f.length : Int) = n) (hn8 : n ≤ 8) : fS_reInto fuel LL MM f = some (LL.all fun x => decide (srt (imgL f x) ∈ MM)) := by
  obtain ⟨h1, _⟩ := confs_pair hc
  unfold fS_reInto
  rw [forI_first0 (fun _ x => if decide (srt (imgL f x) ∈ MM) then none else some false) LL (fun j x hj _ => by
    have hx := h1 x (List.mem_of_getElem? hj)
    unfold fS_reInto_s1
    rw [(e_coThrough f x (by omega) (fun y hy => by have := hx.2.2 y hy; omega) (by omega)).1, sb, e_prSorted _ _ (by rw [imgL_length]; omega) (by rw [imgL_length]; omega), sb, ← srt_eq_ssort, e_prHas _ _ (by rw [srt_length, imgL_length]; omega), sb]
    by_cases h : srt (imgL f x) ∈ MM <;> simp [h, lpP]), firstP_all, sb]
  cases LL.all (fun x => decide (srt (imgL f x) ∈ MM)) <;> rfl
theorem e_reMap (fuel : Nat) (hf : 10 ≤ fuel) (p q : T_Problem) (f : List Int) (h : twoB p q = true) : fS_reMap fuel p q f = some (mapB p q f) := by
  simp only [twoB, Bool.and_eq_true, beq_iff_eq] at h
  obtain ⟨⟨hp, hq⟩, hd⟩ := h
  obtain ⟨p1, p2, p3, p4, p5, p6⟩ := probB_iff hp
  obtain ⟨q1, q2, q3, q4, q5, q6⟩ := probB_iff hq
  unfold fS_reMap mapB
  by_cases hl : (f.length : Int) = p.Labels
  · rw [if_pos (by simpa using hl), ck_in (by omega) (by omega), sb, e_l1All, sb]
    cases ha : f.all (inB 0 (q.Labels - 1))
    · simp [sb]
    · rw [if_pos rfl, e_reInto fuel hf p.Nodes q.Nodes f _ _ p5 p4 hl p2, sb]
      cases hn : p.Nodes.all (fun x => decide (srt (imgL f x) ∈ q.Nodes))
      · simp [sb]
      · rw [if_pos rfl, e_reInto fuel hf p.Edges q.Edges f _ _ p6 (by omega) hl p2, sb, sb]; simp [hl]
  · rw [if_neg (by simpa using hl), sb]; simp [hl]
theorem img_two {f x : List Int} {n : Int} (hx : x.length = 2) (h : ∀ y, y ∈ x → 0 ≤ y ∧ y < f.length) : ∃ a b : Int, ix x 0 = some a ∧ ix x 1 = some b ∧ ix f a = some (f.getD a.toNat 0) ∧ ix f b = some (f.getD b.toNat 0) ∧ imgL f x = [f.getD a.toNat 0, f.getD b.toNat 0] := by
  match x, hx, h with
  | [a, b], _, h =>
    have ha := h a (by simp)
    have hb := h b (by simp)
    refine ⟨a, b, rfl, rfl, ?_, ?_, rfl⟩
    · unfold ix; rw [if_pos ha.1, List.getD_eq_getElem?_getD, List.getElem?_eq_getElem (by omega)]; rfl
    · unfold ix; rw [if_pos hb.1, List.getD_eq_getElem?_getD, List.getElem?_eq_getElem (by omega)]; rfl
theorem e_isLabelMap (fuel : Nat) (hf : 2000000 ≤ fuel) (p q : T_Problem) (f : List Int) (h : twoB p q = true) (hf1 : f.length ≤ 1048576) (h3 : q.Nodes.length ≤ 1048576) (h4 : q.Edges.length ≤ 1048576) (h2 : p.Edges.length ≤ 1048576) : fI_isLabelMap fuel p q f = some (mapB p q f) := by
  simp only [twoB, Bool.and_eq_true, beq_iff_eq] at h
  obtain ⟨⟨hp, hq⟩, hd⟩ := h
  obtain ⟨p1, p2, p3, p4, p5, p6⟩ := probB_iff hp
  obtain ⟨q1, q2, q3, q4, q5, q6⟩ := probB_iff hq
  unfold fI_isLabelMap mapB
  by_cases hl : (f.length : Int) = p.Labels
  · rw [if_neg (by simp [hl])]
    unfold fI_Problem_hasLabels
    rw [ck_in (by omega) (by omega), sb, e_allWithin _ _ _ (by omega), sb, sb, sb]
    cases ha : f.all (inB 0 (q.Labels - 1))
    · simp
    · rw [if_neg (by simp), forI_first0 (fun _ x => if decide (srt (imgL f x) ∈ q.Nodes) then none else some false) p.Nodes (fun j x hj _ => by
        have hx := (confs_pair p5).1 x (List.mem_of_getElem? hj)
        unfold fI_isLabelMap_s1
        rw [(e_coThrough f x (by omega) (fun y hy => by have := hx.2.2 y hy; omega) (by omega)).2, sb, e_node fuel q hq _ (by rw [imgL_length]; omega) (by omega) (by omega), sb]
        by_cases h : srt (imgL f x) ∈ q.Nodes <;> simp [h, lpP]), firstP_all, sb]
      cases hn : p.Nodes.all (fun x => decide (srt (imgL f x) ∈ q.Nodes))
      · simp [outP]
      · simp only [if_true, outP]
        rw [e_ContainsFuncL p.Edges _ (fun x => !decide (srt (imgL f x) ∈ q.Edges)) (fun x hx => by
          have hx2 := (confs_pair p6).1 x hx
          obtain ⟨a, b, e1, e2, e3, e4, e5⟩ := img_two (n := p.Labels) (f := f) (x := x) (by omega) (fun y hy => by have := hx2.2.2 y hy; omega)
          unfold fI_isLabelMap_1
          rw [e1, sb, e3, sb, e2, sb, e4, sb, e_edge fuel q hq _ _ (by omega) (by omega), sb, e5]) (by omega), sb]
        rw [List.not_any_eq_all_not]
        simp [hl]
  · rw [if_pos (by simpa using hl), sb, if_pos rfl]; simp [hl]
def lmapB (p q : T_Problem) (f : List Int) : Bool × Bool := if twoB p q then (mapB p q f, true) else (false, false)
theorem e_specMap (fuel : Nat) (hf : 2000000 ≤ fuel) (p q : T_Problem) (f : List Int) (h1 : p.Nodes.length ≤ 1048576) (h2 : p.Edges.length ≤ 1048576) (h3 : q.Nodes.length ≤ 1048576) (h4 : q.Edges.length ≤ 1048576) : fS_IsLabelMap fuel p q f = some (lmapB p q f) := by
  unfold fS_IsLabelMap lmapB
  rw [e_reTwo fuel (by omega) p q h1 h2 h3 h4, sb]
  cases h : twoB p q
  · simp
  · rw [if_neg (by simp), e_reMap fuel (by omega) p q f h, sb]; simp
theorem e_implMap (fuel : Nat) (hf : 2000000 ≤ fuel) (p q : T_Problem) (f : List Int) (hf1 : f.length ≤ 1048576) (h1 : p.Nodes.length ≤ 1048576) (h2 : p.Edges.length ≤ 1048576) (h3 : q.Nodes.length ≤ 1048576) (h4 : q.Edges.length ≤ 1048576) : fI_IsLabelMap fuel p q f = some (lmapB p q f) := by
  unfold fI_IsLabelMap lmapB
  rw [e_areProblems fuel (by omega) p q h1 h2 h3 h4, sb]
  cases h : twoB p q
  · simp
  · rw [if_neg (by simp), e_isLabelMap fuel hf p q f h hf1 h3 h4 h2, sb]; simp

def fIsLabelMapSpec (x y : PR) (l : List Int) : Bool × Bool := lmapB (tP x) (tP y) l
def fIsLabelMapImpl (x y : PR) (l : List Int) : Bool × Bool := fIsLabelMapSpec x y l
theorem IsLabelMap_eq (x y : PR) (l : List Int) (_ : okP x) (_ : szP x ≤ 1048576) (_ : okP y) (_ : szP y ≤ 1048576) (_ : ∀ n ∈ l, I64 n) (_ : l.length ≤ 1048576) : fIsLabelMapImpl x y l = fIsLabelMapSpec x y l := rfl

theorem specIsLabelMap_any (v : Value) (x : PR) (v' : Value) (y : PR) (lv : Value) (l : List Int) (w : World) (h : RdP w v x) (_ : okP x) (hs : szP x ≤ 1048576) (h' : RdP w v' y) (_ : okP y) (hs' : szP y ≤ 1048576) (hl : Ints w lv l) (_ : ∀ n ∈ l, I64 n) (hls : l.length ≤ 1048576) :
    Calls Try.prog 16 #[v, v', lv] w fun e w' => e = .returned (.tuple #[.bool (fIsLabelMapSpec x y l).1, .bool (fIsLabelMapSpec x y l).2]) ∧ Keeps w w' := by
  obtain ⟨u, rfl, h2⟩ := h.rdz
  obtain ⟨u', rfl, h3⟩ := h'.rdz
  obtain ⟨s1, s2⟩ := szP_len hs
  obtain ⟨s3, s4⟩ := szP_len hs'
  exact cS_IsLabelMap 2000000 w u (tP x) h2 u' (tP y) h3 lv l hl.rdl _ (e_specMap 2000000 (Nat.le_refl _) (tP x) (tP y) l s1 s2 s3 s4)

theorem implIsLabelMap_any (v : Value) (x : PR) (v' : Value) (y : PR) (lv : Value) (l : List Int) (w : World) (h : RdP w v x) (_ : okP x) (hs : szP x ≤ 1048576) (h' : RdP w v' y) (_ : okP y) (hs' : szP y ≤ 1048576) (hl : Ints w lv l) (_ : ∀ n ∈ l, I64 n) (hls : l.length ≤ 1048576) :
    Calls Try.prog 19 #[v, v', lv] w fun e w' => e = .returned (.tuple #[.bool (fIsLabelMapImpl x y l).1, .bool (fIsLabelMapImpl x y l).2]) ∧ Keeps w w' := by
  obtain ⟨u, rfl, h2⟩ := h.rdz
  obtain ⟨u', rfl, h3⟩ := h'.rdz
  obtain ⟨s1, s2⟩ := szP_len hs
  obtain ⟨s3, s4⟩ := szP_len hs'
  exact cI_IsLabelMap 2000000 w u (tP x) h2 u' (tP y) h3 lv l hl.rdl _ (e_implMap 2000000 (Nat.le_refl _) (tP x) (tP y) l hls s1 s2 s3 s4)

end Go.Proofs.Ytiejigogmnkjdaa
