/- The walk of laws.FnExactSameNetworks: it returns true at every input and changes nothing that was there. -/
import Derived.Test.YtijaojnaamkinaaNi
import Derived.Test.YtijaojnaamkinaaGLSn
namespace Go.Proofs.Ytijaojnaamkinaa
set_option linter.unusedSimpArgs false
set_option linter.unusedVariables false

theorem e_lawSameNetworks (p q : T_Network) (hp : Fit p) (hq : Fit q) : fL_FnExactSameNetworks 2000000 p q = some true := by
  unfold fL_FnExactSameNetworks
  rw [e_szNetwork 2000000 (by omega) p hp _ (by omega) (by omega), sb]
  unfold szN'
  by_cases a1 : (szN p : Int) ≤ 1048576
  · have z1 : szN p ≤ 1048576 := by omega
    rw [if_pos a1, if_neg (by simp; omega), e_szNetwork 2000000 (by omega) q hq _ (by omega) (by omega), sb]
    unfold szN'
    by_cases a2 : (szN q : Int) ≤ 1048576 - (szN p : Nat)
    · have z2 : szN q ≤ 1048576 := by omega
      rw [if_pos a2, if_neg (by simp; omega)]
      simp only [e_toNetwork 2000000 (by omega) p z1, e_toNetwork 2000000 (by omega) q z2, e_specSameN 2000000 (by omega) p q (szN_of z1) (szN_of z2), e_implSameN 2000000 (by omega) p q (szN_of z1) (szN_of z2),
        e_eqNetwork 2000000 (by omega) p z1, e_eqNetwork 2000000 (by omega) q z2, sb, bne_self_eq_false, Bool.false_eq_true, if_false, Bool.not_true]
    · rw [if_neg a2, if_pos (by decide)]
  · rw [if_neg a1, if_pos (by decide)]
theorem lawSameNetworks (u0 : List Value) (l0 : T_Network) (u1 : List Value) (l1 : T_Network) (w : World) (r0 : Rp.rd zt w u0 l0) (r1 : Rp.rd zt w u1 l1) :
    Calls Try.prog 9 #[.agg u0.toArray, .agg u1.toArray] w fun e w' => e = .returned (.bool true) ∧ Keeps w w' :=
  cL_FnExactSameNetworks 2000000 w u0 l0 r0 u1 l1 r1 true (e_lawSameNetworks l0 l1 (RdN.fit ⟨u0, rfl, r0⟩) (RdN.fit ⟨u1, rfl, r1⟩))
end Go.Proofs.Ytijaojnaamkinaa
