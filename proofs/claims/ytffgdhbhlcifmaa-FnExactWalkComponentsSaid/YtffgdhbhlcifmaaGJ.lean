/- spec.PowerWalk, impl.PowerWalk: plain functions, and the walks that show that the program computes them (printed by gen.py). -/
import Derived.Test.YtffgdhbhlcifmaaGH
import Derived.Test.YtffgdhbhlcifmaaGI
namespace Go.Proofs.Ytffgdhbhlcifmaa
open Go.RowKit
set_option linter.unusedSimpArgs false
set_option linter.unusedVariables false

theorem info2_t_Lint_J : Inf Try.prog 26 (.slice none 0 0) 1 24 := by unfold Inf; kernel_rfl

theorem info1_t_impl_WalkProblem_J : (Try.prog.info? 29).map (·.size) = some 2 := by kernel_rfl

def fS_PowerWalk_s2 (i71 : Int) : Int → Bool → (List (List Int)) → Option (Lp (List (List Int)) (List (List Int)) (T_WalkProblem × Bool)) := fun (i98 : Int) (x108 : Bool) (s : List (List Int)) =>
  if x108 then
    (push s ([i71, i98] : List Int)) >>= fun x126 =>
    some (.go x126)
  else
    some (.go s)
def fS_PowerWalk_s1 (x54 : List (List Bool)) : Int → (List (List Int)) → Option (Lp (List (List Int)) (List (List Int)) (T_WalkProblem × Bool)) := fun (i71 : Int) (s : List (List Int)) =>
  (ix x54 i71) >>= fun x83 =>
  (forI (fS_PowerWalk_s2 i71) x83 0 s) >>= fun q99 =>
  match q99 with
  | .inl y91 =>
    some (.go y91)
  | .inr _ => none
def fS_PowerWalk (fuel : Nat) (p0 : T_WalkProblem) (p1 : Int) : Option (T_WalkProblem × Bool) :=
  (fS_waGood p0) >>= fun x13 =>
  (
    if !x13 then
      some true
    else
      (fS_l1In p1 1 200) >>= fun x23 =>
      some (!x23)) >>= fun q19 =>
  if q19 then
    some ((⟨0, []⟩ : T_WalkProblem), false)
  else
    (fS_waPowers fuel p0 p1) >>= fun x45 =>
    (ix x45 p1) >>= fun x54 =>
    ck (x54.length : Int) >>= fun _ =>
    (forN (fS_PowerWalk_s1 x54) ((x54.length : Int)).toNat 0 []) >>= fun q72 =>
    match q72 with
    | .inl y64 =>
      some ((⟨p0.Labels, y64⟩ : T_WalkProblem), true)
    | .inr _ => none

def fI_PowerWalk_s2 (i54 : Int) : Int → Int → (List (List Int)) → Option (Lp (List (List Int)) (List (List Int)) (T_WalkProblem × Bool)) := fun (i97 : Int) (x107 : Int) (s : List (List Int)) =>
  (push s ([i54, x107] : List Int)) >>= fun x124 =>
  some (.go x124)
def fI_PowerWalk_s1 (fuel : Nat) (p0 : T_WalkProblem) (p1 : Int) : Int → (List (List Int)) → Option (Lp (List (List Int)) (List (List Int)) (T_WalkProblem × Bool)) := fun (i54 : Int) (s : List (List Int)) =>
  (fI_WalkProblem_reached fuel p0 i54 p1) >>= fun x66 =>
  (ix x66 p1) >>= fun x75 =>
  (fI_labelsIn fuel x75) >>= fun x81 =>
  (forI (fI_PowerWalk_s2 i54) x81 0 s) >>= fun q98 =>
  match q98 with
  | .inl y90 =>
    some (.go y90)
  | .inr _ => none
def fI_PowerWalk (fuel : Nat) (p0 : T_WalkProblem) (p1 : Int) : Option (T_WalkProblem × Bool) :=
  (fI_IsWalkProblem p0) >>= fun x13 =>
  (
    if !x13 then
      some true
    else
      (fI_within p1 1 200) >>= fun x23 =>
      some (!x23)) >>= fun q19 =>
  if q19 then
    some ((⟨0, []⟩ : T_WalkProblem), false)
  else
    ck p0.Labels >>= fun _ =>
    (forN (fI_PowerWalk_s1 fuel p0 p1) (p0.Labels).toNat 0 []) >>= fun q55 =>
    match q55 with
    | .inl y47 =>
      some ((⟨p0.Labels, y47⟩ : T_WalkProblem), true)
    | .inr _ => none

end Go.Proofs.Ytffgdhbhlcifmaa
