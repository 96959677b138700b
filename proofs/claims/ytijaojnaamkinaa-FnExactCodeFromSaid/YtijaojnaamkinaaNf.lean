/- CodeFrom, as the laws call it: two lists of one's own. -/
import Derived.Test.YtijaojnaamkinaaNo
import Derived.Test.YtijaojnaamkinaaNc
namespace Go.Proofs.Ytijaojnaamkinaa
open Go.RowKit
set_option linter.unusedSimpArgs false
set_option linter.unusedVariables false

/-- Two lists in the blocks from B to C, apart. -/
structure OwLL (B C : Nat) (w : World) (v1 : Value) (l1 : List Int) (v2 : Value) (l2 : List Int) : Prop where
  o1 : OwI B C w v1 l1
  o2 : OwI B C w v2 l2
  ap : Apart v1 v2
section
variable {B C B' C' : Nat} {w w' : World} {v1 v2 : Value} {l1 l2 : List Int}
theorem OwLL.rd0 (h : OwLL B C w v1 l1 v2 l2) : Ints w v1 l1 := h.o1.ints
theorem OwLL.rd1 (h : OwLL B C w v1 l1 v2 l2) : Ints w v2 l2 := h.o2.ints
theorem OwLL.keep (h : OwLL B C w v1 l1 v2 l2) (k : Keeps w w') : OwLL B C w' v1 l1 v2 l2 := ⟨h.o1.keep k, h.o2.keep k, h.ap⟩
theorem OwLL.chg (h : OwLL B C w v1 l1 v2 l2) (c : Chg B' C' w w') (hd : C ≤ B' ∨ C' ≤ B) : OwLL B C w' v1 l1 v2 l2 := ⟨h.o1.chg c hd, h.o2.chg c hd, h.ap⟩
theorem Apart.symm' {u v : Value} (h : Apart u v) : Apart v u := by
  unfold Apart at *
  rcases h with h | h
  · cases hv : v.ownBlock with
    | none => exact .inl rfl
    | some g => exact .inr (by rw [h]; simp)
  · exact .inr (Ne.symm h)
theorem mark0_ll (k : Int) (h : OwLL B C w v1 l1 v2 l2) (hk : 0 ≤ k) (hk2 : k + l1.length ≤ 4611686018427387904) :
    Calls Try.prog 22 #[v1, .int .i64 k] w fun e w' => e = .returned (.int .i64 (k + l1.length)) ∧ OwLL B C w' v1 (iota k l1.length) v2 l2 ∧ Chg B C w w' := by
  refine (markIntS_any B v1 l1 k w h.o1.own hk hk2).mono ?_
  rintro e w' ⟨rfl, ho, hg⟩
  exact ⟨rfl, ⟨⟨ho, h.o1.hi⟩, ⟨h.o2.own.kept hg h.ap.symm', h.o2.hi⟩, h.ap⟩, Chg.of_grown hg fun q hq => ⟨(h.o1.own.lt q hq).1, h.o1.hi q hq⟩⟩
theorem mark1_ll (k : Int) (h : OwLL B C w v1 l1 v2 l2) (hk : 0 ≤ k) (hk2 : k + l2.length ≤ 4611686018427387904) :
    Calls Try.prog 22 #[v2, .int .i64 k] w fun e w' => e = .returned (.int .i64 (k + l2.length)) ∧ OwLL B C w' v1 l1 v2 (iota k l2.length) ∧ Chg B C w w' := by
  refine (markIntS_any B v2 l2 k w h.o2.own hk hk2).mono ?_
  rintro e w' ⟨rfl, ho, hg⟩
  exact ⟨rfl, ⟨⟨h.o1.own.kept hg h.ap, h.o1.hi⟩, ⟨ho, h.o2.hi⟩, h.ap⟩, Chg.of_grown hg fun q hq => ⟨(h.o2.own.lt q hq).1, h.o2.hi q hq⟩⟩
end
/-- The call returns two new lists and whether there are any. -/
def RetLL (w0 : World) (r : Option (List Int × List Int)) (e : Ending) (w' : World) : Prop :=
  ∃ v1 v2, e = .returned (.tuple #[v1, v2, .bool r.isSome]) ∧ OwLL w0.heap.size w'.heap.size w' v1 (r.getD ([], [])).1 v2 (r.getD ([], [])).2 ∧ (r.getD ([], [])).1.length + (r.getD ([], [])).2.length ≤ 1000000000 ∧ Keeps w0 w'
def codeB (p : T_Network) (v : Int) : List Int × List Int × Bool := if nodeN p v then (codeN p (walkN p v), walkN p v, true) else ([], [], false)
theorem e_specCode (fuel : Nat) (hf : 100 ≤ fuel) (p : T_Network) (hp : SzN p) (v : Int) : fS_CodeFrom fuel p v = some (codeB p v) := by
  unfold fS_CodeFrom codeB
  rw [e_neNode p hp, sb]
  cases h : nodeN p v
  · simp
  · obtain ⟨g, h'⟩ := nodeN_good h
    rw [if_neg (by simp), e_isWalk fuel hf p g v h', sb, e_isCode p g _ (walkN_ok g h'), sb]; simp
theorem e_implCode (fuel : Nat) (hf : 100 ≤ fuel) (p : T_Network) (hp : SzN p) (v : Int) : fI_CodeFrom fuel p v = some (codeB p v) := by
  unfold fI_CodeFrom codeB
  rw [e_IsNetwork p hp, sb]
  have hnode : nodeN p v = (netB p && inB 0 ((p.Ends.length : Int) - 1) v) := rfl
  cases h1 : netB p
  · rw [hnode, h1]; simp [sb]
  · rw [if_neg (by simp), e_hasNode p hp, sb, sb]
    cases h2 : inB 0 ((p.Ends.length : Int) - 1) v
    · rw [hnode, h1, h2]; simp
    · have h : nodeN p v = true := by rw [hnode, h1, h2]; rfl
      obtain ⟨g, h'⟩ := nodeN_good h
      rw [if_neg (by simp), e_codeFrom fuel hf p g v h', sb, h]; simp
def fCodeFromSpec (x : T_Network) (a : Int) : Option (List Int × List Int) := if nodeN x a then some (codeN x (walkN x a), walkN x a) else none
def fCodeFromImpl (x : T_Network) (a : Int) : Option (List Int × List Int) := fCodeFromSpec x a
theorem CodeFrom_eq (x : T_Network) (a : Int) (_ : okN x) (_ : szN x ≤ 1048576) (_ : I64 a) : fCodeFromImpl x a = fCodeFromSpec x a := rfl
theorem code_ret (x : T_Network) (a : Int) : (fCodeFromSpec x a).isSome = (codeB x a).2.2 ∧ (fCodeFromSpec x a).getD ([], []) = ((codeB x a).1, (codeB x a).2.1) ∧ (codeB x a).1.length + (codeB x a).2.1.length ≤ 1000000000 := by
  unfold fCodeFromSpec codeB
  cases h : nodeN x a
  · simp
  · obtain ⟨g, h'⟩ := nodeN_good h
    have h1 := codeN_len g h'
    have h2 := (walkN_ok g h').le
    have h3 := g.n2
    simp
    omega
theorem retLL_of {w w' : World} {e : Ending} (x : T_Network) (a : Int) (hp : ∃ (v0 : Value) (v1 : Value) (o' : Tg), e = .returned (.tuple #[v0, v1, .bool (codeB x a).2.2]) ∧ Ow w.heap.size 3 2 o' w' v0 (codeB x a).1 ∧ Of 3 o' w' v1 (codeB x a).2.1 ∧ Keeps w w' ∧ ∀ b, b < w.heap.size → o' b = ot b) : RetLL w (fCodeFromSpec x a) e w' := by
  obtain ⟨v0, v1, o', rfl, h0, h1, hk, hb⟩ := hp
  obtain ⟨e1, e2, e3⟩ := code_ret x a
  have a0 := h0.own_ints
  have a1 := Of.own_ints (w0 := w) h1 hb
  refine ⟨v0, v1, by rw [e1], ?_, by rw [e2]; exact e3, hk⟩
  rw [e2]
  refine ⟨⟨a0, fun q hq => (a0.lt q hq).2⟩, ⟨a1, fun q hq => (a1.lt q hq).2⟩, ?_⟩
  unfold Apart
  cases hv : v0.ownBlock with
  | none => exact .inl rfl
  | some g =>
    refine .inr fun he => ?_
    have t0 := h0.tagged g hv
    have t1 := Ow.tagged h1 g he.symm
    rw [t0] at t1; cases t1

theorem specCodeFrom_any (v : Value) (x : T_Network) (a : Int) (w : World) (h : RdN w v x) (_ : okN x) (hs : szN x ≤ 1048576) (_ : I64 a) : Calls Try.prog 18 #[v, .int .i64 a] w (RetLL w (fCodeFromSpec x a)) := by
  obtain ⟨u, rfl, hu⟩ := h
  refine (cS_CodeFrom 1000 w ot 2 (by decide) u x hu a _ (e_specCode 1000 (by omega) x (szN_of hs) a)).mono ?_
  intro e w' hp
  exact retLL_of x a hp

theorem implCodeFrom_any (v : Value) (x : T_Network) (a : Int) (w : World) (h : RdN w v x) (_ : okN x) (hs : szN x ≤ 1048576) (_ : I64 a) : Calls Try.prog 19 #[v, .int .i64 a] w (RetLL w (fCodeFromImpl x a)) := by
  obtain ⟨u, rfl, hu⟩ := h
  refine (cI_CodeFrom 1000 w ot 2 (by decide) u x hu a _ (e_implCode 1000 (by omega) x (szN_of hs) a)).mono ?_
  intro e w' hp
  exact retLL_of x a hp
end Go.Proofs.Ytijaojnaamkinaa
