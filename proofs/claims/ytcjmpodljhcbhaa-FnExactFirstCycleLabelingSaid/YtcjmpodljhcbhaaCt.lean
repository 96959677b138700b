/- The contracts of within, l1In and both CompleteTree functions. -/
import Derived.Test.YtcjmpodljhcbhaaHelp
import Derived.Deep.RegionHeld3
namespace Go.Proofs.Ytcjmpodljhcbhaa
open Go.RowKit
set_option linter.unusedSimpArgs false
set_option linter.unusedVariables false

/-- lo ≤ n ≤ hi. -/
def inB (n lo hi : Int) : Bool := decide (lo ≤ n) && decide (n ≤ hi)
theorem inB_true {n lo hi : Int} : inB n lo hi = true ↔ lo ≤ n ∧ n ≤ hi := by simp [inB]
theorem inB_false {n lo hi : Int} : inB n lo hi = false ↔ n < lo ∨ hi < n := by simp [inB]; omega

theorem within_any (n lo hi : Int) (w : World) :
    Calls Try.prog 56 #[.int .i64 n, .int .i64 lo, .int .i64 hi] w fun e w' => e = .returned (.bool (inB n lo hi)) ∧ w = w' := by
  by_cases h1 : lo ≤ n <;> by_cases h2 : n ≤ hi
  all_goals
    have Hb := Lib.hid (show inB n lo hi = (decide (lo ≤ n) && decide (n ≤ hi)) from rfl)
    go_enter Try.func56, Try.ntmps56
    go_wp2
    go_ret
    exact ⟨by rw [Hb.out]; simp [h1, h2], rfl⟩

theorem l1In_any (n lo hi : Int) (w : World) :
    Calls Try.prog 65 #[.int .i64 n, .int .i64 lo, .int .i64 hi] w fun e w' => e = .returned (.bool (inB n lo hi)) ∧ w = w' := by
  by_cases h1 : lo ≤ n <;> by_cases h2 : n ≤ hi
  all_goals
    have Hb := Lib.hid (show inB n lo hi = (decide (lo ≤ n) && decide (n ≤ hi)) from rfl)
    go_enter Try.func65, Try.ntmps65
    go_wp2
    go_ret
    exact ⟨by rw [Hb.out]; simp [h1, h2], rfl⟩

/-- The call returns a list and whether there is one. -/
def RetSB (w0 : World) (r : Option (List Int)) (e : Ending) (w' : World) : Prop :=
  ∃ v, e = .returned (.tuple #[v, .bool r.isSome]) ∧ Own w0.heap.size w' v (r.getD []) ∧ (r.getD []).length ≤ 1000000000 ∧ Keeps w0 w'

theorem RetSB.none {w0 w' : World} (h : Keeps w0 w') : RetSB w0 none (.returned (.tuple #[.slice none 0 0, .bool false])) w' :=
  ⟨_, rfl, Own.nil _ _, by simp, h⟩

/-! ### The plain functions -/
def ctRow (c from' n : Nat) : List Int := (List.range' from' n).flatMap fun v : Nat => List.replicate c (v : Int)
def ctGo (c : Nat) : Nat → List Int → Nat → Option (List Int)
  | 0, out, _ => some out
  | k + 1, out, from' =>
    let out' := out ++ ctRow c from' (out.length - from')
    if 200 < out'.length then none else ctGo c k out' out.length
def ctSpec (c d : Int) : Option (List Int) := if inB c 1 3 && inB d 0 200 then ctGo c.toNat d.toNat [-1] 0 else none

theorem ctRow_length (c from' n : Nat) : (ctRow c from' n).length = n * c := by
  induction n generalizing from' with
  | zero => simp [ctRow]
  | succ n ih =>
    have := ih (from' + 1)
    simp [ctRow, List.range'_succ] at this ⊢
    rw [this, Nat.succ_mul]; omega
theorem ctRow_succ (c from' n : Nat) : ctRow c from' (n + 1) = ctRow c from' n ++ List.replicate c ((from' + n : Nat) : Int) := by
  simp [ctRow, List.range'_concat]

/-! ### The program's own -/
def ciGo (c : Nat) (d : Int) : Nat → Nat → List Int → List Int → Option (List Int)
  | 0, _, _, _ => none
  | f + 1, v, out, dep =>
    if v < out.length then
      if dep.getD v 0 = d then some out
      else
        let out' := out ++ List.replicate c (v : Int)
        if 200 < out'.length then none else ciGo c d f (v + 1) out' (dep ++ List.replicate c (dep.getD v 0 + 1))
    else some out
def ctImpl (c d : Int) : Option (List Int) := if inB c 1 3 && inB d 0 200 then ciGo c.toNat d 1000 0 [-1] [0] else none

end Go.Proofs.Ytcjmpodljhcbhaa
