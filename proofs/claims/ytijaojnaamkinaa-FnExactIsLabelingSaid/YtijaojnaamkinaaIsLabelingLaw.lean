/- The walk of laws.FnExactIsLabeling: it returns true at every input and changes nothing that was there. -/
import Derived.Test.YtijaojnaamkinaaLb
import Derived.Test.YtijaojnaamkinaaLz
namespace Go.Proofs.Ytijaojnaamkinaa
set_option linter.unusedSimpArgs false
set_option linter.unusedVariables false

theorem e_lawIsLabeling (p : T_Problem) (n : T_Network) (l : List (List Int)) (hp : FitP p) (hn : Fit n) (hl : l.length ≤ 9223372036854775807) (hr : ∀ x, x ∈ l → x.length ≤ 9223372036854775807) : fL_FnExactIsLabeling 2000000 p n l = some true := by
  unfold fL_FnExactIsLabeling
  rw [e_szProblem 2000000 (by omega) p hp _ (by omega) (by omega), sb]
  unfold szN'
  by_cases a1 : (szPr p : Int) ≤ 1048576
  · have z1 : szPr p ≤ 1048576 := by omega
    rw [if_pos a1, if_neg (by simp; omega), e_szNetwork 2000000 (by omega) n hn _ (by omega) (by omega), sb]
    unfold szN'
    by_cases a2 : (szN n : Int) ≤ 1048576 - (szPr p : Nat)
    · have z2 : szN n ≤ 1048576 := by omega
      rw [if_pos a2, if_neg (by simp; omega), e_szIntSSz 2000000 (by omega) l hl hr _ (by omega) (by omega), sb]
      unfold szN'
      by_cases a3 : ((l.length + sumN l : Nat) : Int) ≤ 1048576 - (szPr p : Nat) - (szN n : Nat)
      · have z3 : l.length + sumN l ≤ 1048576 := by omega
        have q1 : p.Nodes.length ≤ 1000000000 := by unfold szPr at z1; omega
        have q2 : p.Edges.length ≤ 1000000000 := by unfold szPr at z1; omega
        rw [if_pos a3, if_neg (by simp; omega)]
        simp only [e_toProblem 2000000 (by omega) p z1, e_toNetwork 2000000 (by omega) n z2, e_toIntSSz 2000000 l (by omega) z3, e_specLabeling 2000000 (by omega) p n l q1 q2 (szN_of z2),
          e_implLabeling 2000000 (by omega) p n l q1 q2 (szN_of z2) (by omega) (fun x hx => by have := sumN_mem hx; omega),
          e_eqProblem 2000000 (by omega) p z1, e_eqNetwork 2000000 (by omega) n z2, e_eqIntSSz 2000000 l (by omega) z3, sb, bne_self_eq_false, Bool.false_eq_true, if_false, Bool.not_true]
      · rw [if_neg a3, if_pos (by decide)]
    · rw [if_neg a2, if_pos (by decide)]
  · rw [if_neg a1, if_pos (by decide)]
theorem fitP_of {w : World} {u : List Value} {p : T_Problem} (h : Rp.rd zt w u p) : FitP p := by
  obtain ⟨v1, v2, rfl, h1, h2⟩ := h
  exact ⟨h1.lenz, h1.rowz, h2.lenz, h2.rowz⟩
theorem lawIsLabeling (u0 : List Value) (l0 : T_Problem) (u1 : List Value) (l1 : T_Network) (u2 : Value) (l2 : List (List Int)) (w : World) (r0 : Rp.rd zt w u0 l0) (r1 : Rp.rd zt w u1 l1) (r2 : RdL zt w u2 l2) :
    Calls Try.prog 8 #[.agg u0.toArray, .agg u1.toArray, u2] w fun e w' => e = .returned (.bool true) ∧ Keeps w w' :=
  cL_FnExactIsLabeling 2000000 w u0 l0 r0 u1 l1 r1 u2 l2 r2 true (e_lawIsLabeling l0 l1 l2 (fitP_of r0) (RdN.fit ⟨u1, rfl, r1⟩) r2.lenz r2.rowz)
end Go.Proofs.Ytijaojnaamkinaa
