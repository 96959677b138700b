/- The structs of the program: a Lean structure each, and how it lies in cells (printed by gty.py). -/
import Derived.Test.YtjmhjobfiemmnaaKe
namespace Go.Proofs.Ytjmhjobfiemmnaa
open Go.RowKit
set_option linter.unusedSimpArgs false
set_option linter.unusedVariables false

structure T_WalkProblem where
  Labels : Int
  Arcs : List (List Int)
  deriving DecidableEq
instance : Rp T_WalkProblem where
  sz := 2
  pos := by decide
  rd o w cs x := ∃ v1, cs = [.int .i64 x.Labels, v1] ∧ RdL o w v1 x.Arcs
  len h := by obtain ⟨v1, rfl, h1⟩ := h; rfl
  one h := by 
    obtain ⟨v1, rfl, h1⟩ := h
    intro c hc
    simp only [List.mem_cons, List.not_mem_nil, or_false] at hc
    rcases hc with rfl | rfl <;> first | rfl | exact h1.one1
  mv h hs hb := by obtain ⟨v1, rfl, h1⟩ := h; exact ⟨v1, rfl, h1.mv hs hb⟩
instance : Rz T_WalkProblem := ⟨⟨0, []⟩, [.int .i64 0, .slice none 0 0], fun o w => ⟨_, rfl, RdL.nil o w⟩⟩

structure T_RootedProblem where
  Labels : Int
  Children : Int
  Lines : List (List Int)
  deriving DecidableEq
instance : Rp T_RootedProblem where
  sz := 3
  pos := by decide
  rd o w cs x := ∃ v1, cs = [.int .i64 x.Labels, .int .i64 x.Children, v1] ∧ RdL o w v1 x.Lines
  len h := by obtain ⟨v1, rfl, h1⟩ := h; rfl
  one h := by 
    obtain ⟨v1, rfl, h1⟩ := h
    intro c hc
    simp only [List.mem_cons, List.not_mem_nil, or_false] at hc
    rcases hc with rfl | rfl | rfl <;> first | rfl | exact h1.one1
  mv h hs hb := by obtain ⟨v1, rfl, h1⟩ := h; exact ⟨v1, rfl, h1.mv hs hb⟩
instance : Rz T_RootedProblem := ⟨⟨0, 0, []⟩, [.int .i64 0, .int .i64 0, .slice none 0 0], fun o w => ⟨_, rfl, RdL.nil o w⟩⟩

structure T_WalkCertificate where
  Class : Int
  Label : Int
  First : List Int
  Second : List Int
  Ranks : List (List Int)
  deriving DecidableEq
instance : Rp T_WalkCertificate where
  sz := 5
  pos := by decide
  rd o w cs x := ∃ v1 v2 v3, cs = [.int .i64 x.Class, .int .i64 x.Label, v1, v2, v3] ∧ RdL o w v1 x.First ∧ RdL o w v2 x.Second ∧ RdL o w v3 x.Ranks
  len h := by obtain ⟨v1, v2, v3, rfl, h1, h2, h3⟩ := h; rfl
  one h := by 
    obtain ⟨v1, v2, v3, rfl, h1, h2, h3⟩ := h
    intro c hc
    simp only [List.mem_cons, List.not_mem_nil, or_false] at hc
    rcases hc with rfl | rfl | rfl | rfl | rfl <;> first | rfl | exact h1.one1 | exact h2.one1 | exact h3.one1
  mv h hs hb := by obtain ⟨v1, v2, v3, rfl, h1, h2, h3⟩ := h; exact ⟨v1, v2, v3, rfl, h1.mv hs hb, h2.mv hs hb, h3.mv hs hb⟩
instance : Rz T_WalkCertificate := ⟨⟨0, 0, [], [], []⟩, [.int .i64 0, .int .i64 0, .slice none 0 0, .slice none 0 0, .slice none 0 0], fun o w => ⟨_, _, _, rfl, RdL.nil o w, RdL.nil o w, RdL.nil o w⟩⟩

structure T_Problem where
  Labels : Int
  Degree : Int
  Nodes : List (List Int)
  Edges : List (List Int)
  deriving DecidableEq
instance : Rp T_Problem where
  sz := 4
  pos := by decide
  rd o w cs x := ∃ v1 v2, cs = [.int .i64 x.Labels, .int .i64 x.Degree, v1, v2] ∧ RdL o w v1 x.Nodes ∧ RdL o w v2 x.Edges
  len h := by obtain ⟨v1, v2, rfl, h1, h2⟩ := h; rfl
  one h := by 
    obtain ⟨v1, v2, rfl, h1, h2⟩ := h
    intro c hc
    simp only [List.mem_cons, List.not_mem_nil, or_false] at hc
    rcases hc with rfl | rfl | rfl | rfl <;> first | rfl | exact h1.one1 | exact h2.one1
  mv h hs hb := by obtain ⟨v1, v2, rfl, h1, h2⟩ := h; exact ⟨v1, v2, rfl, h1.mv hs hb, h2.mv hs hb⟩
instance : Rz T_Problem := ⟨⟨0, 0, [], []⟩, [.int .i64 0, .int .i64 0, .slice none 0 0, .slice none 0 0], fun o w => ⟨_, _, rfl, RdL.nil o w, RdL.nil o w⟩⟩

structure T_waPart where
  labels : List Int
  period : Int
  residue : List Int
  deriving DecidableEq
instance : Rp T_waPart where
  sz := 3
  pos := by decide
  rd o w cs x := ∃ v1 v2, cs = [v1, .int .i64 x.period, v2] ∧ RdL o w v1 x.labels ∧ RdL o w v2 x.residue
  len h := by obtain ⟨v1, v2, rfl, h1, h2⟩ := h; rfl
  one h := by 
    obtain ⟨v1, v2, rfl, h1, h2⟩ := h
    intro c hc
    simp only [List.mem_cons, List.not_mem_nil, or_false] at hc
    rcases hc with rfl | rfl | rfl <;> first | rfl | exact h1.one1 | exact h2.one1
  mv h hs hb := by obtain ⟨v1, v2, rfl, h1, h2⟩ := h; exact ⟨v1, v2, rfl, h1.mv hs hb, h2.mv hs hb⟩
instance : Rz T_waPart := ⟨⟨[], 0, []⟩, [.slice none 0 0, .int .i64 0, .slice none 0 0], fun o w => ⟨_, _, rfl, RdL.nil o w, RdL.nil o w⟩⟩

structure T_End where
  Node : Int
  Port : Int
  deriving DecidableEq
instance : Rp T_End where
  sz := 2
  pos := by decide
  rd o w cs x := cs = [.int .i64 x.Node, .int .i64 x.Port]
  len h := by subst h; rfl
  one h := by subst h; simp [Value.oneCell']
  mv h hs hb := h
instance : Rz T_End := ⟨⟨0, 0⟩, [.int .i64 0, .int .i64 0], fun o w => rfl⟩

structure T_Network where
  Ends : List (List T_End)
  Ids : List Int
  Inputs : List Int
  deriving DecidableEq
instance : Rp T_Network where
  sz := 3
  pos := by decide
  rd o w cs x := ∃ v1 v2 v3, cs = [v1, v2, v3] ∧ RdL o w v1 x.Ends ∧ RdL o w v2 x.Ids ∧ RdL o w v3 x.Inputs
  len h := by obtain ⟨v1, v2, v3, rfl, h1, h2, h3⟩ := h; rfl
  one h := by 
    obtain ⟨v1, v2, v3, rfl, h1, h2, h3⟩ := h
    intro c hc
    simp only [List.mem_cons, List.not_mem_nil, or_false] at hc
    rcases hc with rfl | rfl | rfl <;> first | rfl | exact h1.one1 | exact h2.one1 | exact h3.one1
  mv h hs hb := by obtain ⟨v1, v2, v3, rfl, h1, h2, h3⟩ := h; exact ⟨v1, v2, v3, rfl, h1.mv hs hb, h2.mv hs hb, h3.mv hs hb⟩
instance : Rz T_Network := ⟨⟨[], [], []⟩, [.slice none 0 0, .slice none 0 0, .slice none 0 0], fun o w => ⟨_, _, _, rfl, RdL.nil o w, RdL.nil o w, RdL.nil o w⟩⟩
end Go.Proofs.Ytjmhjobfiemmnaa
