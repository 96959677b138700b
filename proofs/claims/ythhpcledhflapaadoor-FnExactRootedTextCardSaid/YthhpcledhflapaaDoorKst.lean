/- Strings in the printed functions; decimal numerals of one digit; Join. -/
import Derived.Test.YthhpcledhflapaaDoorKg
import Derived.Test.YthhpcledhflapaaDoorLay
namespace Go.Proofs.YthhpcledhflapaaDoor
open Go.RowKit
set_option linter.unusedSimpArgs false
set_option linter.unusedVariables false

structure Str where
  b : List UInt8
deriving DecidableEq
instance : Inhabited Str := ⟨⟨[]⟩⟩
instance : Rp Str where
  sz := 1
  pos := by decide
  rd _ _ cs x := cs = [.string ⟨x.b.toArray⟩]
  len h := by subst h; rfl
  one h := by subst h; simp [Value.oneCell']
  mv h _ _ := h
instance : Rz Str := ⟨⟨[]⟩, [.string ⟨#[]⟩], fun _ _ => rfl⟩
def sadd (a b : Str) : Option Str := if a.b.length + b.b.length ≤ 1000000000000 then some ⟨a.b ++ b.b⟩ else none
theorem sadd_in {a b : Str} (h : a.b.length + b.b.length ≤ 1000000000000) : sadd a b = some ⟨a.b ++ b.b⟩ := if_pos h
section
variable {P : Program} {w : World} {l : List (Nat × Value)} {d : Option Nat} {t t' ty : TypeId} {x y : Operand} {a b c : Str} {ps : String} {af : Array Edge} {g : Option (Nat × Bool)}
theorem ex_sadd (hx : ev l x = some (.string ⟨a.b.toArray⟩)) (hy : ev l y = some (.string ⟨b.b.toArray⟩)) (h : sadd a b = some c) :
    ∀ ρ, Agr ρ l → (execOp ρ ⟨d, .binOp .add t x y t', ty, ps, af, g⟩).run P w = .ok (.value (.string ⟨c.b.toArray⟩)) w := by
  intro ρ hρ
  unfold sadd at h
  split at h
  · rename_i hl
    cases h
    have hg : (eqGuard .add t x y (.string ⟨a.b.toArray⟩) (.string ⟨b.b.toArray⟩)).run P w = .ok () w := rfl
    have hv : (binOp .add t (.string ⟨a.b.toArray⟩) (.string ⟨b.b.toArray⟩)).run P w = .ok (.string ⟨(a.b ++ b.b).toArray⟩) w := by
      have e1 : (⟨a.b.toArray⟩ ++ ⟨b.b.toArray⟩ : ByteArray) = ⟨(a.b ++ b.b).toArray⟩ := by
        apply ByteArray.ext
        rw [ByteArray.data_append]
        simp
      have e2 : ¬ (((⟨a.b.toArray⟩ : ByteArray).size + (⟨b.b.toArray⟩ : ByteArray).size : Nat) : Int) > IntKind.i64.max := by
        have h9 : (IntKind.i64.max) = 9223372036854775807 := by decide
        rw [h9]
        simp only [ByteArray.size, List.size_toArray]
        omega
      show (Op.stringOp .add ⟨a.b.toArray⟩ ⟨b.b.toArray⟩).run P w = _
      unfold Op.stringOp
      simp only [if_neg e2, e1]
      rfl
    simp only [execOp, hρ x _ hx, hρ y _ hy, Sem.run_bind, hg, Result.andThen_ok, hv]
    rfl
  · cases h
theorem str_beq (a b : Str) : ((⟨a.b.toArray⟩ : ByteArray).toList == (⟨b.b.toArray⟩ : ByteArray).toList) = (a == b) := by
  rw [Bool.eq_iff_iff, beq_iff_eq, beq_iff_eq]
  constructor
  · intro h
    have h1 := congrArg List.length h
    have : a.b = b.b := by
      simpa [ByteArray.toList_eq] using h
    cases a; cases b; cases this; rfl
  · rintro rfl; rfl
theorem ex_seql (hx : ev l x = some (.string ⟨a.b.toArray⟩)) (hy : ev l y = some (.string ⟨b.b.toArray⟩)) :
    ∀ ρ, Agr ρ l → (execOp ρ ⟨d, .binOp .eql t x y t', ty, ps, af, g⟩).run P w = .ok (.value (.bool (a == b))) w := by
  intro ρ hρ
  have hg : (eqGuard .eql t x y (.string ⟨a.b.toArray⟩) (.string ⟨b.b.toArray⟩)).run P w = .ok () w := rfl
  have hv : (binOp .eql t (.string ⟨a.b.toArray⟩) (.string ⟨b.b.toArray⟩)).run P w = .ok (.bool (a == b)) w := by
    rw [← str_beq]; rfl
  simp only [execOp, hρ x _ hx, hρ y _ hy, Sem.run_bind, hg, Result.andThen_ok, hv]
  rfl
theorem ex_sneq (hx : ev l x = some (.string ⟨a.b.toArray⟩)) (hy : ev l y = some (.string ⟨b.b.toArray⟩)) :
    ∀ ρ, Agr ρ l → (execOp ρ ⟨d, .binOp .neq t x y t', ty, ps, af, g⟩).run P w = .ok (.value (.bool (!(a == b)))) w := by
  intro ρ hρ
  have hg : (eqGuard .neq t x y (.string ⟨a.b.toArray⟩) (.string ⟨b.b.toArray⟩)).run P w = .ok () w := rfl
  have hv : (binOp .neq t (.string ⟨a.b.toArray⟩) (.string ⟨b.b.toArray⟩)).run P w = .ok (.bool (!(a == b))) w := by
    rw [← str_beq]; rfl
  simp only [execOp, hρ x _ hx, hρ y _ hy, Sem.run_bind, hg, Result.andThen_ok, hv]
  rfl
end
end Go.Proofs.YthhpcledhflapaaDoor
