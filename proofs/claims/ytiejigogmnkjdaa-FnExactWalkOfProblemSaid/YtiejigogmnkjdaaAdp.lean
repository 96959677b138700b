/- Problems: from the laws' readings to the generator's. -/
import Derived.Test.YtiejigogmnkjdaaAd
import Derived.Test.YtiejigogmnkjdaaPr
namespace Go.Proofs.Ytiejigogmnkjdaa
open Go.RowKit
set_option linter.unusedSimpArgs false
set_option linter.unusedVariables false

def tP (x : PR) : T_Problem := ⟨x.labels, x.degree, x.nodes, x.edges⟩
theorem RdP.rdz {w : World} {v : Value} {x : PR} (h : RdP w v x) : ∃ u : List Value, v = .agg u.toArray ∧ Rp.rd zt w u (tP x) := by
  obtain ⟨v2, v3, rfl, h2, h3⟩ := h
  exact ⟨[.int .i64 x.labels, .int .i64 x.degree, v2, v3], rfl, v2, v3, rfl, h2.rdl, h3.rdl⟩
def okP (x : PR) : Prop := I64 x.labels ∧ I64 x.degree ∧ (∀ r ∈ x.nodes, ∀ n ∈ r, I64 n) ∧ ∀ r ∈ x.edges, ∀ n ∈ r, I64 n
theorem szP_len {x : PR} (h : szP x ≤ 1048576) : x.nodes.length ≤ 1048576 ∧ x.edges.length ≤ 1048576 := by
  unfold szP tot at h
  omega
end Go.Proofs.Ytiejigogmnkjdaa
