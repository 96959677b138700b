/- spec.roAll, spec.roAbove, spec.roRoots, spec.LastingLabels, impl.onlyIn$1, impl.onlyIn, (impl.RootedProblem).rootsAbove, (impl.RootedProblem).rootsOfDepth, impl.LastingLabels: plain functions, and the walks that show that the program computes them (printed by gen.py). -/
import Derived.Test.YtjmhjobfiemmnaaGB
import Derived.Test.YtjmhjobfiemmnaaGA
namespace Go.Proofs.Ytjmhjobfiemmnaa
open Go.RowKit
set_option linter.unusedSimpArgs false
set_option linter.unusedVariables false

theorem info2_t_int_C : Inf Try.prog 3 (.int .i64 0) 1 8 := by unfold Inf; kernel_rfl

def fS_roAll_s1 (p0 : T_RootedProblem) : ((List Int) × Int) → Option (Lp ((List Int) × Int) ((List Int) × Int) (List Int)) := fun (s : (List Int) × Int) =>
  if decide (s.2 < p0.Labels) then
    (push s.1 s.2) >>= fun x32 =>
    (ck (s.2 + 1)) >>= fun x38 =>
    some (.go (x32, x38))
  else
    some (.out (s.1, s.2))
def fS_roAll (fuel : Nat) (p0 : T_RootedProblem) : Option (List Int) :=
  (loopF (fS_roAll_s1 p0) fuel ([], 0)) >>= fun q15 =>
  match q15 with
  | .inl (y9, y12) =>
    some y9
  | .inr _ => none

def fS_roAbove_s1 (fuel : Nat) (p1 : List Int) : Int → (List Int) → (List Int) → Option (Lp (List Int) (List Int) (List Int)) := fun (i16 : Int) (x26 : List Int) (s : List Int) =>
  (cut x26 1 x26.length) >>= fun x34 =>
  (fS_prAll x34 p1) >>= fun x37 =>
  if x37 then
    (ix x26 0) >>= fun x44 =>
    (fS_l1Put fuel s x44) >>= fun x50 =>
    some (.go x50)
  else
    some (.go s)
def fS_roAbove (fuel : Nat) (p0 : T_RootedProblem) (p1 : List Int) : Option (List Int) :=
  (forI (fS_roAbove_s1 fuel p1) p0.Lines 0 []) >>= fun q17 =>
  match q17 with
  | .inl y10 =>
    some y10
  | .inr _ => none

def fS_roRoots_s1 (fuel : Nat) (p0 : T_RootedProblem) (p1 : Int) : ((List Int) × Int) → Option (Lp ((List Int) × Int) ((List Int) × Int) (List Int)) := fun (s : (List Int) × Int) =>
  if decide (s.2 < p1) then
    (fS_roAbove fuel p0 s.1) >>= fun x37 =>
    (fS_l1Same x37 s.1) >>= fun x47 =>
    if x47 then
      some (.ret s.1)
    else
      (ck (s.2 + 1)) >>= fun x55 =>
      some (.go (x37, x55))
  else
    some (.out (s.1, s.2))
def fS_roRoots (fuel : Nat) (p0 : T_RootedProblem) (p1 : Int) : Option (List Int) :=
  (fS_roAll fuel p0) >>= fun x8 =>
  (loopF (fS_roRoots_s1 fuel p0 p1) fuel (x8, 0)) >>= fun q26 =>
  match q26 with
  | .inl (y19, y23) =>
    some y19
  | .inr r' => some r'

def fS_LastingLabels (fuel : Nat) (p0 : T_RootedProblem) : Option ((List Int) × Bool) :=
  (fS_roGood fuel p0) >>= fun x8 =>
  if !x8 then
    some ([], false)
  else
    (ck (p0.Labels + 1)) >>= fun x16 =>
    (fS_roRoots fuel p0 x16) >>= fun x17 =>
    some (x17, true)

def fI_onlyIn_1 (p0 : Int) (p1 : Int) : Option Bool :=
  (shr p1 p0) >>= fun x1 =>
  some ((band x1 1) == 0)

def fI_onlyIn (p0 : Int) (p1 : List Int) : Option Bool :=
  (fX_slices_ContainsFunc_int_int p1 (fun z6 => fI_onlyIn_1 z6 p0)) >>= fun x7 =>
  some (!x7)

def fI_RootedProblem_rootsAbove_s1 (p1 : Int) : Int → (List Int) → Int → Option (Lp Int Int Int) := fun (i11 : Int) (x21 : List Int) (s : Int) =>
  (cut x21 1 x21.length) >>= fun x29 =>
  (fI_onlyIn p1 x29) >>= fun x32 =>
  if x32 then
    (ix x21 0) >>= fun x39 =>
    (shl 1 x39) >>= fun x45 =>
    some (.go (bor s x45))
  else
    some (.go s)
def fI_RootedProblem_rootsAbove (p0 : T_RootedProblem) (p1 : Int) : Option Int :=
  (forI (fI_RootedProblem_rootsAbove_s1 p1) p0.Lines 0 0) >>= fun q12 =>
  match q12 with
  | .inl y8 =>
    some y8
  | .inr _ => none

def fI_RootedProblem_rootsOfDepth_s1 (p0 : T_RootedProblem) : (Int × Int) → Option (Lp (Int × Int) (Int × Int) Int) := fun (s : Int × Int) =>
  if s.1 != 0 then
    (fI_RootedProblem_rootsAbove p0 s.2) >>= fun x25 =>
    if x25 == s.2 then
      some (.out (s.1, s.2))
    else
      (ck (s.1 - 1)) >>= fun x33 =>
      some (.go (x33, x25))
  else
    some (.out (s.1, s.2))
def fI_RootedProblem_rootsOfDepth (fuel : Nat) (p0 : T_RootedProblem) (p1 : Int) : Option Int :=
  (shl 1 p0.Labels) >>= fun x8 =>
  (ck (x8 - 1)) >>= fun x9 =>
  (loopF (fI_RootedProblem_rootsOfDepth_s1 p0) fuel (p1, x9)) >>= fun q14 =>
  match q14 with
  | .inl (y10, y11) =>
    some y11
  | .inr _ => none

def fI_LastingLabels (fuel : Nat) (p0 : T_RootedProblem) : Option ((List Int) × Bool) :=
  (fI_IsRootedProblem fuel p0) >>= fun x8 =>
  if !x8 then
    some ([], false)
  else
    (fI_RootedProblem_rootsOfDepth fuel p0 (-1)) >>= fun x16 =>
    (fI_labelsIn fuel x16) >>= fun x22 =>
    some (x22, true)

end Go.Proofs.Ytjmhjobfiemmnaa
