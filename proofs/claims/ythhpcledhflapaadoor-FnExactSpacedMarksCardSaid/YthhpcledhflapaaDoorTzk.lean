/- math/bits.TrailingZeros64, and its table. -/
import Derived.Test.YthhpcledhflapaaDoorKr
import Derived.Test.YthhpcledhflapaaDoorLay
namespace Go.Proofs.YthhpcledhflapaaDoor
open Go.Shelf
set_option linter.unusedSimpArgs false
set_option linter.unusedVariables false

theorem tab_keep {g : Nat} {tab : List Nat} {w w' : World} (h : TabAt g tab w) (k : Keeps w w') : TabAt g tab w' := fun j hj => cell_keep k (h j hj)
def ctzI (x : Int) : Option Int := if 0 ≤ x ∧ x < 18446744073709551616 then some (Lib.ctz 64 x.toNat : Int) else none
theorem cX_Tz (w : World) (x r : Int) (hF : ctzI x = some r) (hTab : TabAt 0 Lib.deBruijn64tab w) :
    Calls Tryd.prog 47 #[.int .u64 x] w fun e w' => e = .returned (.int .i64 r) ∧ Keeps w w' := by
  unfold ctzI at hF
  split at hF
  · rename_i hx
    cases hF
    have := Any7.bits_TrailingZeros64 Tryd.laysTz x.toNat (by omega) w (fun _ => hTab)
    rw [Int.toNat_of_nonneg hx.1] at this
    refine this.mono ?_
    rintro e w' ⟨rfl, rfl⟩
    exact ⟨rfl, Keeps.refl _⟩
  · cases hF
end Go.Proofs.YthhpcledhflapaaDoor
