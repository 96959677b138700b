/- The laws' helpers on lists of lists, in the form of the others; a result that is a list of lists. -/
import Derived.Test.YtiejigogmnkjdaaRng
namespace Go.Proofs.Ytiejigogmnkjdaa
open Go.RowKit
set_option linter.unusedSimpArgs false
set_option linter.unusedVariables false

theorem szIntSS_kp (v : Value) (LL : List (List Int)) (left : Int) (w : World) (h : IntRows w v LL) (h0 : 0 ≤ left) (h1 : left ≤ 1048576) :
    Calls Try.prog 38 #[v, .int .i64 left] w fun e w' => e = .returned (.int .i64 (szL left (tot LL))) ∧ Keeps w w' :=
  (szIntSS_any v LL left w h h0 h1).mono fun e w' ⟨he, hw⟩ => ⟨he, hw ▸ Keeps.refl _⟩
theorem heldIntSS_kp (v : Value) (LL : List (List Int)) (k : Int) (w : World) (h : IntRows w v (numbered k LL LL.length)) (hk : 0 ≤ k) (hk2 : k + tot LL ≤ 4611686018427387904) :
    Calls Try.prog 33 #[v, .int .i64 k] w fun e w' => e = .returned (.int .i64 (k + off LL LL.length)) ∧ Keeps w w' :=
  (heldIntSS_any v LL k w h hk hk2).mono fun e w' ⟨he, hw⟩ => ⟨he, hw ▸ Keeps.refl _⟩
theorem off_tot (LL : List (List Int)) : off LL LL.length ≤ tot LL := by unfold tot; omega
/-- The call returns a new list of lists and whether there is one. -/
def RetM (w0 : World) (r : Option (List (List Int))) (e : Ending) (w' : World) : Prop :=
  ∃ v, e = .returned (.tuple #[v, .bool r.isSome]) ∧ OwM w0.heap.size w'.heap.size w' v (r.getD []) ∧ tot (r.getD []) ≤ 1000000000 ∧ Keeps w0 w'
end Go.Proofs.Ytiejigogmnkjdaa
