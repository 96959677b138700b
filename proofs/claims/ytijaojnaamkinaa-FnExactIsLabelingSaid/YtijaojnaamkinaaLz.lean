/- Lists of lists and problems in the laws: their sizes, copies, equality. -/
import Derived.Test.YtijaojnaamkinaaNz
import Derived.Test.YtijaojnaamkinaaGLLb
namespace Go.Proofs.Ytijaojnaamkinaa
set_option linter.unusedSimpArgs false
set_option linter.unusedVariables false

theorem szInt_loop (LL : List (List Int)) (hr : ∀ x, x ∈ LL → x.length ≤ 9223372036854775807) (hl : LL.length ≤ 1048576) : ∀ (d j fuel : Nat) (x : Int), j + d = LL.length → d < fuel → 0 ≤ x → x ≤ 1048576 →
    loopF (fL_szIntSS_s1 LL) fuel (x, (j : Int)) = some (if (sumN (LL.drop j) : Int) ≤ x then .inl (x - (sumN (LL.drop j) : Nat), (LL.length : Int)) else .inr (-1)) := by
  intro d
  induction d with
  | zero =>
    intro j fuel x hj hf h0 h1
    obtain ⟨m, rfl⟩ : ∃ m, fuel = m + 1 := ⟨fuel - 1, by omega⟩
    have e : LL.drop j = [] := List.drop_eq_nil_of_le (by omega)
    have hs : fL_szIntSS_s1 LL (x, (j : Int)) = some (.out (x, (j : Int))) := by
      unfold fL_szIntSS_s1
      rw [if_neg (by simp; omega)]
    have hjl : j = LL.length := by omega
    simp only [loopF, hs, e, sumN, List.map_nil, List.sum_nil]
    rw [if_pos (by omega), hjl]
    simp
  | succ d ih =>
    intro j fuel x hj hf h0 h1
    obtain ⟨m, rfl⟩ : ∃ m, fuel = m + 1 := ⟨fuel - 1, by omega⟩
    have hjl : j < LL.length := by omega
    have hq : LL[j]? = some LL[j] := List.getElem?_eq_getElem hjl
    have hle := hr LL[j] (List.getElem_mem hjl)
    have e : sumN (LL.drop j) = LL[j].length + sumN (LL.drop (j + 1)) := by unfold sumN; rw [List.drop_eq_getElem_cons hjl, List.map_cons, List.sum_cons]
    have hs : fL_szIntSS_s1 LL (x, (j : Int)) = some (if (LL[j].length : Int) ≤ x then .go (x - LL[j].length, ((j + 1 : Nat) : Int)) else .ret (-1)) := by
      unfold fL_szIntSS_s1
      simp only
      rw [if_pos (by simp; omega), ix_nat, hq, sb, e_szIntSz _ _ hle h0 h1, sb]
      unfold szN'
      by_cases hx : (LL[j].length : Int) ≤ x
      · rw [if_pos hx, if_pos hx, if_neg (by simp; omega), ck_in (by omega) (by omega), sb]; simp
      · rw [if_neg hx, if_neg hx, if_pos (by decide)]
    by_cases hx : (LL[j].length : Int) ≤ x
    · rw [if_pos hx] at hs
      simp only [loopF, hs]
      rw [ih (j + 1) m _ (by omega) (by omega) (by omega) (by omega), e]
      by_cases h2 : (sumN (LL.drop (j + 1)) : Int) ≤ x - LL[j].length
      · rw [if_pos h2, if_pos (by omega)]
        simp only [Option.some.injEq, Sum.inl.injEq, Prod.mk.injEq, and_true]
        omega
      · rw [if_neg h2, if_neg (by omega)]
    · rw [if_neg hx] at hs
      simp only [loopF, hs]
      rw [if_neg (by rw [e]; omega)]
theorem e_szIntSSz (fuel : Nat) (hf : 2000000 ≤ fuel) (LL : List (List Int)) (hl : LL.length ≤ 9223372036854775807) (hr : ∀ x, x ∈ LL → x.length ≤ 9223372036854775807) (left : Int) (h0 : 0 ≤ left) (h1 : left ≤ 1048576) :
    fL_szIntSS fuel LL left = some (szN' left (LL.length + sumN LL)) := by
  unfold fL_szIntSS szN'
  rw [ck_in (by omega) (by omega), sb]
  by_cases a1 : (LL.length : Int) ≤ left
  · have hq := szInt_loop LL hr (by omega) LL.length 0 fuel (left - LL.length) (by omega) (by omega) (by omega) (by omega)
    rw [show ((0 : Nat) : Int) = 0 from rfl, List.drop_zero] at hq
    rw [if_neg (by simp; omega), hq, sb]
    by_cases a2 : (sumN LL : Int) ≤ left - LL.length
    · rw [if_pos a2, if_pos (by omega)]
      simp only [Option.some.injEq]
      omega
    · rw [if_neg a2, if_neg (by omega)]
  · rw [if_pos (by simp; omega), if_neg (by omega)]
theorem e_toIntSSz (fuel : Nat) (LL : List (List Int)) (hf : 2000000 ≤ fuel) (h : LL.length + sumN LL ≤ 1048576) : fL_toIntSS fuel LL = some LL := by
  unfold fL_toIntSS mk
  rw [if_pos (by omega), sb, Int.toNat_natCast, copy_loop (fL_toIntSS_s1 fuel LL) _ LL (fun j hj s hs => by
    have := sumN_mem (List.getElem_mem hj)
    unfold fL_toIntSS_s1
    simp only
    rw [if_pos (by simp; omega), ix_nat, List.getElem?_eq_getElem hj, sb, e_toIntSz fuel _ (by omega) (by omega), sb, ix_nat, List.getElem?_eq_getElem (by omega), sb, st_nat _ _ _ (by omega), sb, ck_in (by omega) (by omega), sb]; simp)
    (fun s => by unfold fL_toIntSS_s1; simp only; rw [if_neg (by simp)]) fuel (by omega), sb]
theorem e_eqIntSSz (fuel : Nat) (LL : List (List Int)) (hf : 2000000 ≤ fuel) (h : LL.length + sumN LL ≤ 1048576) : fL_eqIntSS fuel LL LL = some true := by
  unfold fL_eqIntSS
  rw [if_neg (by simp), eq_loop (fL_eqIntSS_s1 fuel LL LL) LL (fun j hj => by
    have := sumN_mem (List.getElem_mem hj)
    unfold fL_eqIntSS_s1
    rw [if_pos (by simp; omega), ix_nat, List.getElem?_eq_getElem hj, sb, sb, e_eqIntSz fuel _ (by omega) (by omega), sb, if_neg (by simp), ck_in (by omega) (by omega), sb]; simp)
    (by unfold fL_eqIntSS_s1; rw [if_neg (by simp)]) fuel (by omega), sb]
/-! ### Problems -/
structure FitP (p : T_Problem) : Prop where
  nodes : p.Nodes.length ≤ 9223372036854775807
  nrows : ∀ r, r ∈ p.Nodes → r.length ≤ 9223372036854775807
  edges : p.Edges.length ≤ 9223372036854775807
  erows : ∀ r, r ∈ p.Edges → r.length ≤ 9223372036854775807
def szPr (p : T_Problem) : Nat := (p.Nodes.length + sumN p.Nodes) + (p.Edges.length + sumN p.Edges)
theorem e_szProblem (fuel : Nat) (hf : 2000000 ≤ fuel) (p : T_Problem) (hp : FitP p) (left : Int) (h0 : 0 ≤ left) (h1 : left ≤ 1048576) : fL_szProblem fuel p left = some (szN' left (szPr p)) := by
  unfold fL_szProblem
  rw [e_szIntSSz fuel hf _ hp.nodes hp.nrows left h0 h1, sb]
  unfold szPr
  generalize p.Nodes.length + sumN p.Nodes = a
  unfold szN'
  by_cases a1 : (a : Int) ≤ left
  · rw [if_pos a1, if_neg (by simp; omega), e_szIntSSz fuel hf _ hp.edges hp.erows _ (by omega) (by omega), sb]
    generalize p.Edges.length + sumN p.Edges = b
    unfold szN'
    by_cases a2 : (b : Int) ≤ left - a
    · rw [if_pos a2, if_neg (by simp; omega), if_pos (by omega)]
      congr 1; omega
    · rw [if_neg a2, if_pos (by decide), if_neg (by omega)]
  · rw [if_neg a1, if_pos (by decide), if_neg (by omega)]
theorem e_toProblem (fuel : Nat) (hf : 2000000 ≤ fuel) (p : T_Problem) (h : szPr p ≤ 1048576) : fL_toProblem fuel p = some p := by
  unfold fL_toProblem
  unfold szPr at h
  rw [e_toIntSSz fuel _ hf (by omega), sb, e_toIntSSz fuel _ hf (by omega), sb]
theorem e_eqProblem (fuel : Nat) (hf : 2000000 ≤ fuel) (p : T_Problem) (h : szPr p ≤ 1048576) : fL_eqProblem fuel p p = some true := by
  unfold fL_eqProblem
  unfold szPr at h
  rw [if_neg (by simp), if_neg (by simp), e_eqIntSSz fuel _ hf (by omega), sb, if_neg (by simp), e_eqIntSSz fuel _ hf (by omega), sb, if_neg (by simp)]
end Go.Proofs.Ytijaojnaamkinaa
