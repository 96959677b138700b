/- What the form's reading of a problem, of lists of lists gives the printed walks. -/
import Derived.Test.YtijaojnaamkinaaOpG
namespace Go.Proofs.Ytijaojnaamkinaa
open Go.ChangeShapes Go.WideShapes Go.ChangeAt Go.RowKit Go.Deep Go.Joins
set_option linter.unusedVariables false
set_option maxRecDepth 100000
section
variable {H : Type} {enc : TypeId × Value → H} {W : World}
theorem opn_Problem : Opn enc W 60 T_Problem := fun n cs y h => by
  obtain ⟨m, hl, hf⟩ := opn_fields Try.underlying60 (by kernel_rfl) h
  obtain ⟨c0, c1, c2, c3, rfl⟩ := list4 (hl.trans (by kernel_rfl))
  obtain ⟨y0, h0⟩ := hf 0 _ rfl
  obtain ⟨y1, h1⟩ := hf 1 _ rfl
  obtain ⟨y2, h2⟩ := hf 2 _ rfl
  obtain ⟨y3, h3⟩ := hf 3 _ rfl
  obtain ⟨a0, e0⟩ := opn_int (enc := enc) (W := W) m [c0] _ h0
  obtain ⟨a1, e1⟩ := opn_int (enc := enc) (W := W) m [c1] _ h1
  obtain ⟨a2, v2, e2, r2⟩ := opn_rows (enc := enc) (W := W) m [c2] _ h2
  obtain ⟨a3, v3, e3, r3⟩ := opn_rows (enc := enc) (W := W) m [c3] _ h3
  cases e0; cases e1; cases e2; cases e3
  exact ⟨⟨a0, a1, a2, a3⟩, _, _, rfl, r2, r3⟩
theorem openPrb {base : Nat} {v : Value} {d : DataW H} {p : List MemPlace} (hval : Value.okWide Try.prog W .any base 60 v)
    (h : DataW.Trod enc Try.prog W 0 (fun _ => true) true 60 v d p) : ∃ (x : T_Problem) (u : List Value), v = .agg u.toArray ∧ Rp.rd zt W u x := opn_arg Try.underlying60 opn_Problem hval h
theorem openMat {base : Nat} {v : Value} {d : DataW H} {p : List MemPlace} (hval : Value.okWide Try.prog W .any base 41 v)
    (h : DataW.Trod enc Try.prog W 0 (fun _ => true) true 41 v d p) : ∃ (x : List (List Int)), RdL zt W v x := opn_argL Try.underlying41 opn_rows hval h
end
end Go.Proofs.Ytijaojnaamkinaa
