/- spec.waArcs, spec.waGood, (impl.WalkProblem).hasLabels, impl.IsWalkProblem, (impl.WalkProblem).after, (impl.WalkProblem).reached: plain functions, and the walks that show that the program computes them (printed by gen.py). -/
import Derived.Test.YtijaojnaamkinaaGA
import Derived.Test.YtijaojnaamkinaaKg
namespace Go.Proofs.Ytijaojnaamkinaa
open Go.RowKit
set_option linter.unusedSimpArgs false
set_option linter.unusedVariables false

theorem info2_t_int_I : Inf Try.prog 3 (.int .i64 0) 1 8 := by unfold Inf; kernel_rfl

def fS_waArcs_s1 (p0 : List (List Int)) (p1 : Int) : Int → (List Int) → Unit → Option (Lp Unit Unit Bool) := fun (i3 : Int) (x13 : List Int) (s : Unit) =>
  (
    if (x13.length : Int) != 2 then
      some true
    else
      (ck (p1 - 1)) >>= fun x25 =>
      (fS_l1All x13 0 x25) >>= fun x26 =>
      if !x26 then
        some true
      else
        if decide (i3 > 0) then
          (ck (i3 - 1)) >>= fun x34 =>
          (ix p0 x34) >>= fun x35 =>
          (fS_prOrder x35 x13) >>= fun x43 =>
          some (decide (x43 ≥ 0))
        else
          some false) >>= fun q21 =>
  if q21 then
    some (.ret false)
  else
    some (.go ())
def fS_waArcs (p0 : List (List Int)) (p1 : Int) : Option Bool :=
  (forI (fS_waArcs_s1 p0 p1) p0 0 ()) >>= fun q4 =>
  match q4 with
  | .inl _ =>
    some true
  | .inr r' => some r'

def fS_waGood (p0 : T_WalkProblem) : Option Bool :=
  (fS_l1In p0.Labels 1 12) >>= fun x8 =>
  (
    if x8 then
      (fS_waArcs p0.Arcs p0.Labels) >>= fun x18 =>
      some x18
    else
      some false) >>= fun q14 =>
  some q14

def fI_WalkProblem_hasLabels (p0 : T_WalkProblem) (p1 : List Int) : Option Bool :=
  (ck (p0.Labels - 1)) >>= fun x8 =>
  (fI_allWithin p1 0 x8) >>= fun x9 =>
  some x9

def fI_IsWalkProblem_s1 (p0 : T_WalkProblem) : Int → (List Int) → Unit → Option (Lp Unit Unit Bool) := fun (i18 : Int) (x28 : List Int) (s : Unit) =>
  (
    if (x28.length : Int) != 2 then
      some true
    else
      (fI_WalkProblem_hasLabels p0 x28) >>= fun x40 =>
      if !x40 then
        some true
      else
        if decide (i18 > 0) then
          (ck (i18 - 1)) >>= fun x48 =>
          (ix p0.Arcs x48) >>= fun x49 =>
          (fX_slices_Compare_int_int x49 x28) >>= fun x57 =>
          some (decide (x57 ≥ 0))
        else
          some false) >>= fun q36 =>
  if q36 then
    some (.ret false)
  else
    some (.go ())
def fI_IsWalkProblem (p0 : T_WalkProblem) : Option Bool :=
  (fI_within p0.Labels 1 12) >>= fun x8 =>
  if !x8 then
    some false
  else
    (forI (fI_IsWalkProblem_s1 p0) p0.Arcs 0 ()) >>= fun q19 =>
    match q19 with
    | .inl _ =>
      some true
    | .inr r' => some r'

def fI_WalkProblem_after_s1 : Int → (List Int) → (List Int) → Option (Lp (List Int) (List Int) (List Int)) := fun (i18 : Int) (x28 : List Int) (s : List Int) =>
  (ix x28 0) >>= fun x36 =>
  (ix s x36) >>= fun x39 =>
  (ix x28 1) >>= fun x42 =>
  (shl 1 x42) >>= fun x45 =>
  (ix s x36) >>= fun x106 =>
  (st s x36 (bor x39 x45)) >>= fun x115 =>
  some (.go x115)
def fI_WalkProblem_after (p0 : T_WalkProblem) : Option (List Int) :=
  (mk (Rz.z : Int) p0.Labels) >>= fun x8 =>
  (forI (fI_WalkProblem_after_s1) p0.Arcs 0 x8) >>= fun q19 =>
  match q19 with
  | .inl y14 =>
    some y14
  | .inr _ => none

def fI_WalkProblem_reached_s2 (x8 : List Int) : Int → Int → Int → Option (Lp Int Int (List Int)) := fun (i58 : Int) (x68 : Int) (s : Int) =>
  (ix x8 x68) >>= fun x74 =>
  some (.go (bor s x74))
def fI_WalkProblem_reached_s1 (fuel : Nat) (x8 : List Int) : Int → (List Int) → Option (Lp (List Int) (List Int) (List Int)) := fun (i28 : Int) (s : List Int) =>
  (ix s i28) >>= fun x40 =>
  (fI_labelsIn fuel x40) >>= fun x46 =>
  (forI (fI_WalkProblem_reached_s2 x8) x46 0 0) >>= fun q59 =>
  match q59 with
  | .inl y55 =>
    (push s y55) >>= fun x88 =>
    some (.go x88)
  | .inr _ => none
def fI_WalkProblem_reached (fuel : Nat) (p0 : T_WalkProblem) (p1 : Int) (p2 : Int) : Option (List Int) :=
  (fI_WalkProblem_after p0) >>= fun x8 =>
  (shl 1 p1) >>= fun x17 =>
  ck p2 >>= fun _ =>
  (forN (fI_WalkProblem_reached_s1 fuel x8) (p2).toNat 0 ([x17] : List Int)) >>= fun q29 =>
  match q29 with
  | .inl y23 =>
    some y23
  | .inr _ => none

end Go.Proofs.Ytijaojnaamkinaa
