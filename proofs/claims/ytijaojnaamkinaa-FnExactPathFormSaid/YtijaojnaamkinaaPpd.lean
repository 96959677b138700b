/- PathForm: what the program computes. -/
import Derived.Test.YtijaojnaamkinaaPpc
import Derived.Test.YtijaojnaamkinaaGPpb
namespace Go.Proofs.Ytijaojnaamkinaa
set_option linter.unusedSimpArgs false
set_option linter.unusedVariables false

theorem e_pathForm (n : Nat) (p : T_RootedProblem) (h : okLines n p.Lines) (hn : n ≤ 60) (hJ : p.Lines.length ≤ 1048576) : fI_RootedProblem_pathForm p ((2 ^ n - 1 : Nat) : Int) = some ⟨p.Labels, sxd (arcsL p.Lines)⟩ := by
  unfold fI_RootedProblem_pathForm
  have hp : 2 ^ n ≤ 2 ^ 60 := Nat.pow_le_pow_right (by decide) hn
  have hp0 : 0 < 2 ^ n := Nat.pow_pos (by decide)
  have hb := forI_invk0 (body := fI_RootedProblem_pathForm_s1 ((2 ^ n - 1 : Nat) : Int)) (fun j => arcsL (p.Lines.take j)) p.Lines (fun j x hj => by
    have hx := h x (List.mem_of_getElem? hj)
    have hjl := (List.getElem?_eq_some_iff.1 hj).1
    unfold fI_RootedProblem_pathForm_s1
    have hall : (x.all fun y => (2 ^ n - 1).testBit y.toNat) = true := by
      rw [List.all_eq_true]
      intro y hy
      have := hx.2.2 y hy
      rw [Nat.testBit_two_pow_sub_one]; simp; omega
    rw [e_onlyIn _ (by omega) x (by omega) (fun y hy => by have := hx.2.2 y hy; omega), sb, hall, if_pos rfl, cut_tail x hx.1, sb]
    have hok := okLines_take h j
    have hl1 := arcsL_len hok
    rw [List.length_take] at hl1
    have hi := forI_invk0 (body := fI_RootedProblem_pathForm_s2 x) (fun i => arcsL (p.Lines.take j) ++ (x.tail.take i).map fun b => [x.headD 0, b]) x.tail (fun i b hb => by
      have hil := (List.getElem?_eq_some_iff.1 hb).1
      rw [List.length_tail] at hil
      unfold fI_RootedProblem_pathForm_s2
      rw [head_ix hx.1, sb, take_snoc hb, List.map_append]
      unfold push
      rw [if_pos (by rw [List.length_append, List.length_map, List.length_take, List.length_tail]; omega), sb, List.append_assoc]
      rfl)
    rw [show arcsL (p.Lines.take j) = arcsL (p.Lines.take j) ++ (x.tail.take 0).map fun b => [x.headD 0, b] by simp, hi, sb, List.take_length, take_snoc hj, arcsL_snoc]
    rfl)
  rw [List.take_length] at hb
  have hl1 := arcsL_len h
  rw [show ([] : List (List Int)) = arcsL (p.Lines.take 0) from rfl, hb, sb]
  simp only
  rw [srtL_in (L := 2) (by omega) (by decide) fun x hx => (arcsL_small hn h x hx).1, sb]
theorem e_implPath (fuel : Nat) (hf : 100 ≤ fuel) (p : T_RootedProblem) (hJ : p.Lines.length ≤ 1048576) : fI_PathForm fuel p = some (pathB p) := by
  unfold fI_PathForm pathB
  rw [e_implIsRooted fuel (by omega) p (by omega), sb]
  cases h : rootedB p
  · simp
  · obtain ⟨h1, h2, h3⟩ := okLines_of h
    have hsh : shl 1 p.Labels = some ((2 ^ p.Labels.toNat : Nat) : Int) := by
      have := shl_one (a := p.Labels.toNat) (by omega)
      rwa [← h1] at this
    have hp : 2 ^ p.Labels.toNat ≤ 2 ^ 60 := Nat.pow_le_pow_right (by decide) (by omega)
    have hp0 : 0 < 2 ^ p.Labels.toNat := Nat.pow_pos (by decide)
    rw [if_neg (by simp), hsh, sb, ck_in (by omega) (by omega), sb, show ((2 ^ p.Labels.toNat : Nat) : Int) - 1 = ((2 ^ p.Labels.toNat - 1 : Nat) : Int) by omega, e_pathForm p.Labels.toNat p h3 (by omega) hJ, sb]
    rfl
end Go.Proofs.Ytijaojnaamkinaa
