/- spec.prLists, spec.prGood, spec.prHas, spec.prNode, spec.AllowsNode, spec.l1Most, spec.prEdge, spec.AllowsEdge, impl.configurationsOk, impl.IsProblem, (impl.Problem).hasLabels, (impl.Problem).node, (impl.Problem).edge, impl.AllowsNode, impl.AllowsEdge: plain functions, and the walks that show that the program computes them (printed by gen.py). -/
import Derived.Test.YtjmhjobfiemmnaaGN
namespace Go.Proofs.Ytjmhjobfiemmnaa
open Go.RowKit
set_option linter.unusedSimpArgs false
set_option linter.unusedVariables false

def fS_prLists_s2 (p1 : Int) (x13 : List Int) : Int → Option (Lp Int Int Bool) := fun (s : Int) =>
  if decide (s < p1) then
    (ck (s - 1)) >>= fun x68 =>
    (ix x13 x68) >>= fun x69 =>
    (ix x13 s) >>= fun x72 =>
    if decide (x69 > x72) then
      some (.ret false)
    else
      (ck (s + 1)) >>= fun x126 =>
      some (.go x126)
  else
    some (.out s)
def fS_prLists_s1 (fuel : Nat) (p0 : List (List Int)) (p1 : Int) (p2 : Int) : Int → (List Int) → Unit → Option (Lp Unit Unit Bool) := fun (i3 : Int) (x13 : List Int) (s : Unit) =>
  (
    if (x13.length : Int) != p1 then
      some true
    else
      (ck (p2 - 1)) >>= fun x25 =>
      (fS_l1All x13 0 x25) >>= fun x26 =>
      if !x26 then
        some true
      else
        if decide (i3 > 0) then
          (ck (i3 - 1)) >>= fun x34 =>
          (ix p0 x34) >>= fun x35 =>
          (fS_prOrder x35 x13) >>= fun x43 =>
          some (decide (x43 ≥ 0))
        else
          some false) >>= fun q21 =>
  if q21 then
    some (.ret false)
  else
    (loopF (fS_prLists_s2 p1 x13) fuel 1) >>= fun q57 =>
    match q57 with
    | .inl y54 =>
      some (.go ())
    | .inr r' => some (.ret r')
def fS_prLists (fuel : Nat) (p0 : List (List Int)) (p1 : Int) (p2 : Int) : Option Bool :=
  (forI (fS_prLists_s1 fuel p0 p1 p2) p0 0 ()) >>= fun q4 =>
  match q4 with
  | .inl _ =>
    some true
  | .inr r' => some r'

def fS_prGood (fuel : Nat) (p0 : T_Problem) : Option Bool :=
  (fS_l1In p0.Labels 1 8) >>= fun x10 =>
  (
    if x10 then
      (fS_l1In p0.Degree 1 4) >>= fun x20 =>
      if x20 then
        (fS_prLists fuel p0.Nodes p0.Degree p0.Labels) >>= fun x27 =>
        if x27 then
          (fS_prLists fuel p0.Edges 2 p0.Labels) >>= fun x34 =>
          some x34
        else
          some false
      else
        some false
    else
      some false) >>= fun q16 =>
  some q16

def fS_prHas_s1 (p1 : List Int) : Int → (List Int) → Unit → Option (Lp Unit Unit Bool) := fun (i3 : Int) (x13 : List Int) (s : Unit) =>
  (fS_l1Same p1 x13) >>= fun x21 =>
  if x21 then
    some (.ret true)
  else
    some (.go ())
def fS_prHas (p0 : List (List Int)) (p1 : List Int) : Option Bool :=
  (forI (fS_prHas_s1 p1) p0 0 ()) >>= fun q4 =>
  match q4 with
  | .inl _ =>
    some false
  | .inr r' => some r'

def fS_prNode (fuel : Nat) (p0 : T_Problem) (p1 : List Int) : Option Bool :=
  (fS_prSorted fuel p1) >>= fun x10 =>
  (fS_prHas p0.Nodes x10) >>= fun x48 =>
  some x48

def fS_AllowsNode (fuel : Nat) (p0 : T_Problem) (p1 : List Int) : Option (Bool × Bool) :=
  (fS_prGood fuel p0) >>= fun x10 =>
  (
    if !x10 then
      some true
    else
      if (p1.length : Int) != p0.Degree then
        some true
      else
        (ck (p0.Labels - 1)) >>= fun x21 =>
        (fS_l1All p1 0 x21) >>= fun x22 =>
        some (!x22)) >>= fun q16 =>
  if q16 then
    some (false, false)
  else
    (fS_prNode fuel p0 p1) >>= fun x33 =>
    some (x33, true)

def fS_l1Most (p0 : Int) (p1 : Int) : Option Int :=
  if decide (p0 > p1) then
    some p0
  else
    some p1

def fS_prEdge (p0 : T_Problem) (p1 : Int) (p2 : Int) : Option Bool :=
  (fS_l1Least p1 p2) >>= fun x10 =>
  (fS_l1Most p1 p2) >>= fun x16 =>
  (fS_prHas p0.Edges ([x10, x16] : List Int)) >>= fun x85 =>
  some x85

def fS_AllowsEdge (fuel : Nat) (p0 : T_Problem) (p1 : Int) (p2 : Int) : Option (Bool × Bool) :=
  (fS_prGood fuel p0) >>= fun x10 =>
  (
    if !x10 then
      some true
    else
      (ck (p0.Labels - 1)) >>= fun x26 =>
      (fS_l1All ([p1, p2] : List Int) 0 x26) >>= fun x27 =>
      some (!x27)) >>= fun q16 =>
  if q16 then
    some (false, false)
  else
    (fS_prEdge p0 p1 p2) >>= fun x38 =>
    some (x38, true)

def fI_configurationsOk_s1 (fuel : Nat) (p0 : List (List Int)) (p1 : Int) (p2 : Int) : Int → (List Int) → Unit → Option (Lp Unit Unit Bool) := fun (i3 : Int) (x13 : List Int) (s : Unit) =>
  (
    if (x13.length : Int) != p1 then
      some true
    else
      (fX_slices_IsSorted_int_int fuel x13) >>= fun x25 =>
      if !x25 then
        some true
      else
        (ck (p2 - 1)) >>= fun x32 =>
        (fI_allWithin x13 0 x32) >>= fun x33 =>
        if !x33 then
          some true
        else
          if decide (i3 > 0) then
            (ck (i3 - 1)) >>= fun x41 =>
            (ix p0 x41) >>= fun x42 =>
            (fX_slices_Compare_int_int x42 x13) >>= fun x50 =>
            some (decide (x50 ≥ 0))
          else
            some false) >>= fun q21 =>
  if q21 then
    some (.ret false)
  else
    some (.go ())
def fI_configurationsOk (fuel : Nat) (p0 : List (List Int)) (p1 : Int) (p2 : Int) : Option Bool :=
  (forI (fI_configurationsOk_s1 fuel p0 p1 p2) p0 0 ()) >>= fun q4 =>
  match q4 with
  | .inl _ =>
    some true
  | .inr r' => some r'

def fI_IsProblem (fuel : Nat) (p0 : T_Problem) : Option Bool :=
  (fI_within p0.Labels 1 8) >>= fun x10 =>
  (
    if x10 then
      (fI_within p0.Degree 1 4) >>= fun x20 =>
      if x20 then
        (fI_configurationsOk fuel p0.Nodes p0.Degree p0.Labels) >>= fun x27 =>
        if x27 then
          (fI_configurationsOk fuel p0.Edges 2 p0.Labels) >>= fun x34 =>
          some x34
        else
          some false
      else
        some false
    else
      some false) >>= fun q16 =>
  some q16

def fI_Problem_hasLabels (p0 : T_Problem) (p1 : List Int) : Option Bool :=
  (ck (p0.Labels - 1)) >>= fun x10 =>
  (fI_allWithin p1 0 x10) >>= fun x11 =>
  some x11

def fI_Problem_node (fuel : Nat) (p0 : T_Problem) (p1 : List Int) : Option Bool :=
  (fI_hasConfiguration fuel p0.Nodes p1) >>= fun x10 =>
  some x10

def fI_Problem_edge (fuel : Nat) (p0 : T_Problem) (p1 : Int) (p2 : Int) : Option Bool :=
  (fI_hasConfiguration fuel p0.Edges ([p1, p2] : List Int)) >>= fun x16 =>
  some x16

def fI_AllowsNode (fuel : Nat) (p0 : T_Problem) (p1 : List Int) : Option (Bool × Bool) :=
  (fI_IsProblem fuel p0) >>= fun x10 =>
  (
    if !x10 then
      some true
    else
      if (p1.length : Int) != p0.Degree then
        some true
      else
        (fI_Problem_hasLabels p0 p1) >>= fun x21 =>
        some (!x21)) >>= fun q16 =>
  if q16 then
    some (false, false)
  else
    (fI_Problem_node fuel p0 p1) >>= fun x32 =>
    some (x32, true)

def fI_AllowsEdge (fuel : Nat) (p0 : T_Problem) (p1 : Int) (p2 : Int) : Option (Bool × Bool) :=
  (fI_IsProblem fuel p0) >>= fun x10 =>
  (
    if !x10 then
      some true
    else
      (fI_Problem_hasLabels p0 ([p1, p2] : List Int)) >>= fun x26 =>
      some (!x26)) >>= fun q16 =>
  if q16 then
    some (false, false)
  else
    (fI_Problem_edge fuel p0 p1 p2) >>= fun x37 =>
    some (x37, true)

end Go.Proofs.Ytjmhjobfiemmnaa
