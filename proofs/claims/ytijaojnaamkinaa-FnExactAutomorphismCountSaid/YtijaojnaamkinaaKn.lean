/- Ends of a network compared. -/
import Derived.Test.YtijaojnaamkinaaKg
import Derived.Laws.StructEq
namespace Go.Proofs.Ytijaojnaamkinaa
open Go.RowKit
set_option linter.unusedSimpArgs false
set_option linter.unusedVariables false
section
variable {l : List (Nat × Value)} {w : World} {d : Option Nat} {ty : TypeId} {ps : String} {af : Array Edge} {g : Option (Nat × Bool)} {x y : Operand} {a b c e : Int} {t' : TypeId}
theorem run_eqEnd (w : World) (a b c e : Int) : (Op.equalIn 10000 115 (.agg #[.int .i64 a, .int .i64 b]) (.agg #[.int .i64 c, .int .i64 e])).run Try.prog w = .ok (a == c && b == e) w := by
  rw [run_equalIn_agg w 9999 _ _ _ (by kernel_rfl) (by kernel_rfl)]
  simp only [Program.fieldsOf, Try.underlying115]
  have h1 : ∀ w, (isAgg 3).run Try.prog w = .ok false w := fun w => Try.isAgg3 w
  have h2 : ∀ d w a b, (Op.equalIn (d + 1) 3 (.int .i64 a) (.int .i64 b)).run Try.prog w = .ok (a == b) w := fun d w a b => run_equalIn_int w d _ _ _ a b Try.underlying3
  simp [Op.eqFields, part, Sem.run_bind, h1, h2 9998]
  by_cases h : a = c
  · by_cases h' : b = e
    · simp [h, h']
    · have : (b == e) = false := by simpa using h'
      simp [h, h', this]
  · have : (a == c) = false := by simpa using h
    simp [h, this]
theorem ex_neqEnd (hx : ev l x = some (.agg #[.int .i64 a, .int .i64 b])) (hy : ev l y = some (.agg #[.int .i64 c, .int .i64 e])) :
    ∀ ρ, Agr ρ l → (execOp ρ ⟨d, .binOp .neq 115 x y t', ty, ps, af, g⟩).run Try.prog w = .ok (.value (.bool (!(a == c && b == e)))) w := by
  intro ρ hρ
  have hg := run_eqGuard_agg (P := Try.prog) w .neq 115 x y #[.int .i64 a, .int .i64 b] #[.int .i64 c, .int .i64 e] (by kernel_rfl)
  have hv : (binOp .neq 115 (.agg #[.int .i64 a, .int .i64 b]) (.agg #[.int .i64 c, .int .i64 e])).run Try.prog w = .ok (.bool (!(a == c && b == e))) w := by
    rw [run_neq_struct, run_eqEnd]; rfl
  simp only [execOp, hρ x _ hx, hρ y _ hy, Sem.run_bind, hg, Result.andThen_ok, hv]
  rfl
end
end Go.Proofs.Ytijaojnaamkinaa
