/- Two more structs of the program (printed by gty.py). -/
import Derived.Test.YtijaojnaamkinaaKe
namespace Go.Proofs.Ytijaojnaamkinaa
open Go.RowKit
set_option linter.unusedSimpArgs false
set_option linter.unusedVariables false

structure T_component where
  code : List Int
  walk : List Int
  least : Int
  roots : Int
  deriving DecidableEq
instance : Rp T_component where
  sz := 4
  pos := by decide
  rd o w cs x := ∃ v1 v2, cs = [v1, v2, .int .i64 x.least, .int .i64 x.roots] ∧ RdL o w v1 x.code ∧ RdL o w v2 x.walk
  len h := by obtain ⟨v1, v2, rfl, h1, h2⟩ := h; rfl
  one h := by 
    obtain ⟨v1, v2, rfl, h1, h2⟩ := h
    intro c hc
    simp only [List.mem_cons, List.not_mem_nil, or_false] at hc
    rcases hc with rfl | rfl | rfl | rfl <;> first | rfl | exact h1.one1 | exact h2.one1
  mv h hs hb := by obtain ⟨v1, v2, rfl, h1, h2⟩ := h; exact ⟨v1, v2, rfl, h1.mv hs hb, h2.mv hs hb⟩
instance : Rz T_component := ⟨⟨[], [], 0, 0⟩, [.slice none 0 0, .slice none 0 0, .int .i64 0, .int .i64 0], fun o w => ⟨_, _, rfl, RdL.nil o w, RdL.nil o w⟩⟩

structure T_isPart where
  code : List Int
  walk : List Int
  count : Int
  deriving DecidableEq
instance : Rp T_isPart where
  sz := 3
  pos := by decide
  rd o w cs x := ∃ v1 v2, cs = [v1, v2, .int .i64 x.count] ∧ RdL o w v1 x.code ∧ RdL o w v2 x.walk
  len h := by obtain ⟨v1, v2, rfl, h1, h2⟩ := h; rfl
  one h := by 
    obtain ⟨v1, v2, rfl, h1, h2⟩ := h
    intro c hc
    simp only [List.mem_cons, List.not_mem_nil, or_false] at hc
    rcases hc with rfl | rfl | rfl <;> first | rfl | exact h1.one1 | exact h2.one1
  mv h hs hb := by obtain ⟨v1, v2, rfl, h1, h2⟩ := h; exact ⟨v1, v2, rfl, h1.mv hs hb, h2.mv hs hb⟩
instance : Rz T_isPart := ⟨⟨[], [], 0⟩, [.slice none 0 0, .slice none 0 0, .int .i64 0], fun o w => ⟨_, _, rfl, RdL.nil o w, RdL.nil o w⟩⟩
end Go.Proofs.Ytijaojnaamkinaa
