/- AllowsNode and AllowsEdge of both sides, as the laws call them. -/
import Derived.Test.YtabclfacjaeblaaAdp
import Derived.Test.YtabclfacjaeblaaPp
namespace Go.Proofs.Ytabclfacjaeblaa
open Go.RowKit
set_option linter.unusedSimpArgs false
set_option linter.unusedVariables false

def nodeB (p : T_Problem) (l : List Int) : Bool × Bool := if probB p && decide ((l.length : Int) = p.Degree) && l.all (inB 0 (p.Labels - 1)) then (decide (srt l ∈ p.Nodes), true) else (false, false)
theorem e_specNode (fuel : Nat) (hf : 2000000 ≤ fuel) (p : T_Problem) (l : List Int) (hJ : p.Nodes.length ≤ 1048576) (hE : p.Edges.length ≤ 1048576) (hl : l.length ≤ 1048576) : fS_AllowsNode fuel p l = some (nodeB p l) := by
  unfold fS_AllowsNode nodeB
  rw [e_prGood fuel (by omega) p (by omega) (by omega), sb]
  cases h : probB p
  · simp [sb]
  · obtain ⟨h1, h2, h3, h4, h5, h6⟩ := probB_iff h
    rw [if_neg (by simp)]
    by_cases hd : (l.length : Int) = p.Degree
    · rw [if_neg (by simp [hd]), ck_in (by omega) (by omega), sb, e_l1All, sb, sb]
      cases ha : l.all (inB 0 (p.Labels - 1))
      · simp
      · rw [if_neg (by simp), e_prNode fuel p l (by omega) (by omega), sb]; simp [hd]
    · rw [if_pos (by simpa using hd), sb, if_pos rfl]; simp [hd]
theorem e_implNode (fuel : Nat) (hf : 2000000 ≤ fuel) (p : T_Problem) (l : List Int) (hJ : p.Nodes.length ≤ 1048576) (hE : p.Edges.length ≤ 1048576) (hl : l.length ≤ 1048576) : fI_AllowsNode fuel p l = some (nodeB p l) := by
  unfold fI_AllowsNode nodeB
  rw [e_IsProblem fuel (by omega) p (by omega) (by omega), sb]
  cases h : probB p
  · simp [sb]
  · obtain ⟨h1, h2, h3, h4, h5, h6⟩ := probB_iff h
    rw [if_neg (by simp)]
    by_cases hd : (l.length : Int) = p.Degree
    · rw [if_neg (by simp [hd])]
      unfold fI_Problem_hasLabels
      rw [ck_in (by omega) (by omega), sb, e_allWithin _ _ _ (by omega), sb, sb, sb]
      cases ha : l.all (inB 0 (p.Labels - 1))
      · simp
      · rw [if_neg (by simp), e_node fuel p h l hd (by omega) (by omega), sb]; simp [hd]
    · rw [if_pos (by simpa using hd), sb, if_pos rfl]; simp [hd]
def edgeB (p : T_Problem) (a b : Int) : Bool × Bool := if probB p && [a, b].all (inB 0 (p.Labels - 1)) then (decide (srt [a, b] ∈ p.Edges), true) else (false, false)
theorem e_specEdge (fuel : Nat) (hf : 2000000 ≤ fuel) (p : T_Problem) (a b : Int) (hJ : p.Nodes.length ≤ 1048576) (hE : p.Edges.length ≤ 1048576) : fS_AllowsEdge fuel p a b = some (edgeB p a b) := by
  unfold fS_AllowsEdge edgeB
  rw [e_prGood fuel (by omega) p (by omega) (by omega), sb]
  cases h : probB p
  · simp [sb]
  · obtain ⟨h1, h2, h3, h4, h5, h6⟩ := probB_iff h
    rw [if_neg (by simp), ck_in (by omega) (by omega), sb, e_l1All, sb, sb]
    cases ha : [a, b].all (inB 0 (p.Labels - 1))
    · simp
    · rw [if_neg (by simp), e_prEdge, sb]; simp
theorem e_implEdge (fuel : Nat) (hf : 2000000 ≤ fuel) (p : T_Problem) (a b : Int) (hJ : p.Nodes.length ≤ 1048576) (hE : p.Edges.length ≤ 1048576) : fI_AllowsEdge fuel p a b = some (edgeB p a b) := by
  unfold fI_AllowsEdge edgeB
  rw [e_IsProblem fuel (by omega) p (by omega) (by omega), sb]
  cases h : probB p
  · simp [sb]
  · obtain ⟨h1, h2, h3, h4, h5, h6⟩ := probB_iff h
    rw [if_neg (by simp)]
    unfold fI_Problem_hasLabels
    rw [ck_in (by omega) (by omega), sb, e_allWithin _ _ _ (by simp), sb, sb, sb]
    cases ha : [a, b].all (inB 0 (p.Labels - 1))
    · simp
    · rw [if_neg (by simp), e_edge fuel p h a b (by omega) (by omega), sb]; simp
def fAllowsNodeSpec (x : PR) (l : List Int) : Bool × Bool := nodeB (tP x) l
def fAllowsNodeImpl (x : PR) (l : List Int) : Bool × Bool := fAllowsNodeSpec x l
theorem AllowsNode_eq (x : PR) (l : List Int) (_ : okP x) (_ : szP x ≤ 1048576) (_ : ∀ n ∈ l, I64 n) (_ : l.length ≤ 1048576) : fAllowsNodeImpl x l = fAllowsNodeSpec x l := rfl
theorem specAllowsNode_any (v : Value) (x : PR) (lv : Value) (l : List Int) (w : World) (h : RdP w v x) (_ : okP x) (hs : szP x ≤ 1048576) (hl : Ints w lv l) (_ : ∀ n ∈ l, I64 n) (hls : l.length ≤ 1048576) :
    Calls Try.prog 45 #[v, lv] w fun e w' => e = .returned (.tuple #[.bool (fAllowsNodeSpec x l).1, .bool (fAllowsNodeSpec x l).2]) ∧ Keeps w w' := by
  obtain ⟨u, rfl, h2⟩ := h.rdz
  obtain ⟨s1, s2⟩ := szP_len hs
  exact cS_AllowsNode 2000000 w u (tP x) h2 lv l hl.rdl _ (e_specNode 2000000 (Nat.le_refl _) (tP x) l s1 s2 hls)
theorem implAllowsNode_any (v : Value) (x : PR) (lv : Value) (l : List Int) (w : World) (h : RdP w v x) (_ : okP x) (hs : szP x ≤ 1048576) (hl : Ints w lv l) (_ : ∀ n ∈ l, I64 n) (hls : l.length ≤ 1048576) :
    Calls Try.prog 47 #[v, lv] w fun e w' => e = .returned (.tuple #[.bool (fAllowsNodeImpl x l).1, .bool (fAllowsNodeImpl x l).2]) ∧ Keeps w w' := by
  obtain ⟨u, rfl, h2⟩ := h.rdz
  obtain ⟨s1, s2⟩ := szP_len hs
  exact cI_AllowsNode 2000000 w u (tP x) h2 lv l hl.rdl _ (e_implNode 2000000 (Nat.le_refl _) (tP x) l s1 s2 hls)
def fAllowsEdgeSpec (x : PR) (a b : Int) : Bool × Bool := edgeB (tP x) a b
def fAllowsEdgeImpl (x : PR) (a b : Int) : Bool × Bool := fAllowsEdgeSpec x a b
theorem AllowsEdge_eq (x : PR) (a b : Int) (_ : okP x) (_ : szP x ≤ 1048576) (_ : I64 a) (_ : I64 b) : fAllowsEdgeImpl x a b = fAllowsEdgeSpec x a b := rfl
theorem specAllowsEdge_any (v : Value) (x : PR) (a b : Int) (w : World) (h : RdP w v x) (_ : okP x) (hs : szP x ≤ 1048576) (_ : I64 a) (_ : I64 b) :
    Calls Try.prog 49 #[v, .int .i64 a, .int .i64 b] w fun e w' => e = .returned (.tuple #[.bool (fAllowsEdgeSpec x a b).1, .bool (fAllowsEdgeSpec x a b).2]) ∧ Keeps w w' := by
  obtain ⟨u, rfl, h2⟩ := h.rdz
  obtain ⟨s1, s2⟩ := szP_len hs
  exact cS_AllowsEdge 2000000 w u (tP x) h2 a b _ (e_specEdge 2000000 (Nat.le_refl _) (tP x) a b s1 s2)
theorem implAllowsEdge_any (v : Value) (x : PR) (a b : Int) (w : World) (h : RdP w v x) (_ : okP x) (hs : szP x ≤ 1048576) (_ : I64 a) (_ : I64 b) :
    Calls Try.prog 50 #[v, .int .i64 a, .int .i64 b] w fun e w' => e = .returned (.tuple #[.bool (fAllowsEdgeImpl x a b).1, .bool (fAllowsEdgeImpl x a b).2]) ∧ Keeps w w' := by
  obtain ⟨u, rfl, h2⟩ := h.rdz
  obtain ⟨s1, s2⟩ := szP_len hs
  exact cI_AllowsEdge 2000000 w u (tP x) h2 a b _ (e_implEdge 2000000 (Nat.le_refl _) (tP x) a b s1 s2)
end Go.Proofs.Ytabclfacjaeblaa
