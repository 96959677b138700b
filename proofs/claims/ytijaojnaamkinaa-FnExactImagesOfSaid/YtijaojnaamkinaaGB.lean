/- spec.roGood, spec.IsRootedProblem, (impl.RootedProblem).hasLabels, impl.IsRootedProblem: plain functions, and the walks that show that the program computes them (printed by gen.py). -/
import Derived.Test.YtijaojnaamkinaaGA
namespace Go.Proofs.Ytijaojnaamkinaa
open Go.RowKit
set_option linter.unusedSimpArgs false
set_option linter.unusedVariables false

def fS_roGood_s1 (fuel : Nat) (p0 : T_RootedProblem) : Int → (List Int) → Unit → Option (Lp Unit Unit Bool) := fun (i31 : Int) (x41 : List Int) (s : Unit) =>
  (
    (ck (p0.Children + 1)) >>= fun x53 =>
    if (x41.length : Int) != x53 then
      some true
    else
      (ck (p0.Labels - 1)) >>= fun x200 =>
      (fS_l1All x41 0 x200) >>= fun x201 =>
      if !x201 then
        some true
      else
        (cut x41 1 x41.length) >>= fun x363 =>
        (cut x41 1 x41.length) >>= fun x366 =>
        (fS_prSorted fuel x366) >>= fun x369 =>
        (fS_l1Same x363 x369) >>= fun x378 =>
        if !x378 then
          some true
        else
          if decide (i31 > 0) then
            (ck (i31 - 1)) >>= fun x570 =>
            (ix p0.Lines x570) >>= fun x571 =>
            (fS_prOrder x571 x41) >>= fun x777 =>
            some (decide (x777 ≥ 0))
          else
            some false) >>= fun q49 =>
  if q49 then
    some (.ret false)
  else
    some (.go ())
def fS_roGood (fuel : Nat) (p0 : T_RootedProblem) : Option Bool :=
  (fS_l1In p0.Labels 1 8) >>= fun x8 =>
  (
    if !x8 then
      some true
    else
      (fS_l1In p0.Children 1 3) >>= fun x18 =>
      some (!x18)) >>= fun q14 =>
  if q14 then
    some false
  else
    (forI (fS_roGood_s1 fuel p0) p0.Lines 0 ()) >>= fun q32 =>
    match q32 with
    | .inl _ =>
      some true
    | .inr r' => some r'

def fS_IsRootedProblem (fuel : Nat) (p0 : T_RootedProblem) : Option Bool :=
  (fS_roGood fuel p0) >>= fun x8 =>
  some x8

def fI_RootedProblem_hasLabels (p0 : T_RootedProblem) (p1 : List Int) : Option Bool :=
  (ck (p0.Labels - 1)) >>= fun x8 =>
  (fI_allWithin p1 0 x8) >>= fun x9 =>
  some x9

def fI_IsRootedProblem_s1 (fuel : Nat) (p0 : T_RootedProblem) : Int → (List Int) → Unit → Option (Lp Unit Unit Bool) := fun (i31 : Int) (x41 : List Int) (s : Unit) =>
  (ck (p0.Children + 1)) >>= fun x49 =>
  (
    if (x41.length : Int) != x49 then
      some true
    else
      (fI_RootedProblem_hasLabels p0 x41) >>= fun x54 =>
      if !x54 then
        some true
      else
        (cut x41 1 x41.length) >>= fun x61 =>
        (fX_slices_IsSorted_int_int fuel x61) >>= fun x64 =>
        if !x64 then
          some true
        else
          if decide (i31 > 0) then
            (ck (i31 - 1)) >>= fun x72 =>
            (ix p0.Lines x72) >>= fun x73 =>
            (fX_slices_Compare_int_int x73 x41) >>= fun x81 =>
            some (decide (x81 ≥ 0))
          else
            some false) >>= fun q50 =>
  if q50 then
    some (.ret false)
  else
    some (.go ())
def fI_IsRootedProblem (fuel : Nat) (p0 : T_RootedProblem) : Option Bool :=
  (fI_within p0.Labels 1 8) >>= fun x8 =>
  (
    if !x8 then
      some true
    else
      (fI_within p0.Children 1 3) >>= fun x18 =>
      some (!x18)) >>= fun q14 =>
  if q14 then
    some false
  else
    (forI (fI_IsRootedProblem_s1 fuel p0) p0.Lines 0 ()) >>= fun q32 =>
    match q32 with
    | .inl _ =>
      some true
    | .inr r' => some r'

end Go.Proofs.Ytijaojnaamkinaa
