/- impl.images: plain functions, and the walks that show that the program computes them (printed by gen.py). -/
import Derived.Test.YtijaojnaamkinaaGA
import Derived.Test.YtijaojnaamkinaaKg
namespace Go.Proofs.Ytijaojnaamkinaa
open Go.RowKit
set_option linter.unusedSimpArgs false
set_option linter.unusedVariables false

theorem info2_t_int_Im : Inf Try.prog 3 (.int .i64 0) 1 8 := by unfold Inf; kernel_rfl

def fI_images_s1 (p1 : List Int) : Int → Int → (List Int) → Option (Lp (List Int) (List Int) (List Int)) := fun (i7 : Int) (x17 : Int) (s : List Int) =>
  (ix p1 x17) >>= fun x23 =>
  (push s x23) >>= fun x35 =>
  some (.go x35)
def fI_images (p0 : List Int) (p1 : List Int) : Option (List Int) :=
  (forI (fI_images_s1 p1) p0 0 []) >>= fun q8 =>
  match q8 with
  | .inl y2 =>
    some y2
  | .inr _ => none

end Go.Proofs.Ytijaojnaamkinaa
