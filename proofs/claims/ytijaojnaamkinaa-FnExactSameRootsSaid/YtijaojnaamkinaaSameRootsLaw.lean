/- The walk of laws.FnExactSameRoots: it returns true at every input and changes nothing that was there. -/
import Derived.Test.YtijaojnaamkinaaNc
import Derived.Test.YtijaojnaamkinaaGLSr
namespace Go.Proofs.Ytijaojnaamkinaa
set_option linter.unusedSimpArgs false
set_option linter.unusedVariables false

theorem e_lawSameRoots (p q : T_Network) (v w : Int) (hp : Fit p) (hq : Fit q) : fL_FnExactSameRoots 2000000 p v q w = some true := by
  unfold fL_FnExactSameRoots
  rw [e_szNetwork 2000000 (by omega) p hp _ (by omega) (by omega), sb]
  unfold szN'
  by_cases a1 : (szN p : Int) ≤ 1048576
  · have z1 : szN p ≤ 1048576 := by omega
    rw [if_pos a1, if_neg (by simp; omega), e_szNetwork 2000000 (by omega) q hq _ (by omega) (by omega), sb]
    unfold szN'
    by_cases a2 : (szN q : Int) ≤ 1048576 - (szN p : Nat)
    · have z2 : szN q ≤ 1048576 := by omega
      rw [if_pos a2, if_neg (by simp; omega)]
      simp only [e_toNetwork 2000000 (by omega) p z1, e_toNetwork 2000000 (by omega) q z2, e_specSameRoots 2000000 (by omega) p q (szN_of z1) (szN_of z2), e_implSameRoots 2000000 (by omega) p q (szN_of z1) (szN_of z2),
        e_eqNetwork 2000000 (by omega) p z1, e_eqNetwork 2000000 (by omega) q z2, sb, bne_self_eq_false, Bool.false_eq_true, if_false, Bool.not_true]
    · rw [if_neg a2, if_pos (by decide)]
  · rw [if_neg a1, if_pos (by decide)]
theorem lawSameRoots (u0 : List Value) (l0 : T_Network) (a1 : Int) (u2 : List Value) (l2 : T_Network) (a3 : Int) (w : World) (r0 : Rp.rd zt w u0 l0) (r2 : Rp.rd zt w u2 l2) :
    Calls Try.prog 3 #[.agg u0.toArray, .int .i64 a1, .agg u2.toArray, .int .i64 a3] w fun e w' => e = .returned (.bool true) ∧ Keeps w w' :=
  cL_FnExactSameRoots 2000000 w u0 l0 r0 a1 u2 l2 r2 a3 true (e_lawSameRoots l0 l2 a1 a3 (RdN.fit ⟨u0, rfl, r0⟩) (RdN.fit ⟨u2, rfl, r2⟩))
end Go.Proofs.Ytijaojnaamkinaa
