/- OrbitsOf and FixedNodes, as the laws call them. -/
import Derived.Test.YtijaojnaamkinaaNd
import Derived.Test.YtijaojnaamkinaaNo
namespace Go.Proofs.Ytijaojnaamkinaa
open Go.RowKit
set_option linter.unusedSimpArgs false
set_option linter.unusedVariables false

def lstO (r : List Int × Bool) : Option (List Int) := if r.2 then some r.1 else none
theorem lstO_sb {r : List Int × Bool} (h : r.2 = false → r.1 = []) : (lstO r).isSome = r.2 ∧ (lstO r).getD [] = r.1 := by
  obtain ⟨l, b⟩ := r
  cases b
  · have : l = [] := h rfl
    subst this
    exact ⟨rfl, rfl⟩
  · exact ⟨rfl, rfl⟩
/-- From a call's post with a list that is new and a flag. -/
theorem retL_of {w w' : World} {e : Ending} {r : List Int × Bool} {t : Nat} (h : r.2 = false → r.1 = []) (hl : r.1.length ≤ 1000000000) (hp : ∃ (v0 : Value) (o' : Tg), e = .returned (.tuple #[v0, .bool r.2]) ∧ Ow w.heap.size 3 t o' w' v0 r.1 ∧ Keeps w w' ∧ ∀ b, b < w.heap.size → o' b = ot b) : RetL w (lstO r) e w' := by
  obtain ⟨v0, o', rfl, ho, hk, hb⟩ := hp
  obtain ⟨b1, b2⟩ := lstO_sb h
  exact ⟨v0, by rw [b1], by rw [b2]; exact ho.own_ints, by rw [b2]; exact hl, hk⟩
theorem netB_n2 {p : T_Network} (h : netB p = true) : p.Ends.length ≤ 40 := (netB_good h).n2
theorem orbB_sb (p : T_Network) : ((orbB p).2 = false → (orbB p).1 = []) ∧ (orbB p).1.length ≤ 1000000000 := by
  unfold orbB
  cases h : netB p
  · simp
  · have := netB_n2 h
    have := orbL_len p
    exact ⟨fun h => by simp at h, by simp; omega⟩
def fOrbitsOfSpec (x : T_Network) : Option (List Int) := lstO (orbB x)
def fOrbitsOfImpl (x : T_Network) : Option (List Int) := fOrbitsOfSpec x
theorem OrbitsOf_eq (x : T_Network) (_ : okN x) (_ : szN x ≤ 1048576) : fOrbitsOfImpl x = fOrbitsOfSpec x := rfl

theorem specOrbitsOf_any (v : Value) (x : T_Network) (w : World) (h : RdN w v x) (_ : okN x) (hs : szN x ≤ 1048576) : Calls Try.prog 33 #[v] w (RetL w (fOrbitsOfSpec x)) := by
  obtain ⟨u, rfl, hu⟩ := h
  refine (cS_OrbitsOf 1000 w ot 2 (by decide) u x hu _ (e_specOrbits 1000 (by omega) x (szN_of hs))).mono ?_
  intro e w' hp
  exact retL_of (orbB_sb x).1 (orbB_sb x).2 hp

theorem implOrbitsOf_any (v : Value) (x : T_Network) (w : World) (h : RdN w v x) (_ : okN x) (hs : szN x ≤ 1048576) : Calls Try.prog 34 #[v] w (RetL w (fOrbitsOfImpl x)) := by
  obtain ⟨u, rfl, hu⟩ := h
  refine (cI_OrbitsOf 1000 w ot 2 (by decide) u x hu _ (e_implOrbits 1000 (by omega) x (szN_of hs))).mono ?_
  intro e w' hp
  exact retL_of (orbB_sb x).1 (orbB_sb x).2 hp
theorem fixB_sb (p : T_Network) : ((fixB p).2 = false → (fixB p).1 = []) ∧ (fixB p).1.length ≤ 1000000000 := by
  unfold fixB
  cases h : netB p
  · simp
  · have := netB_n2 h
    have h2 := filt_len (fixP p) p.Ends.length
    refine ⟨fun h => by simp at h, ?_⟩
    simp only [if_true]
    unfold fixL
    omega
def fFixedNodesSpec (x : T_Network) : Option (List Int) := lstO (fixB x)
def fFixedNodesImpl (x : T_Network) : Option (List Int) := fFixedNodesSpec x
theorem FixedNodes_eq (x : T_Network) (_ : okN x) (_ : szN x ≤ 1048576) : fFixedNodesImpl x = fFixedNodesSpec x := rfl

theorem specFixedNodes_any (v : Value) (x : T_Network) (w : World) (h : RdN w v x) (_ : okN x) (hs : szN x ≤ 1048576) : Calls Try.prog 35 #[v] w (RetL w (fFixedNodesSpec x)) := by
  obtain ⟨u, rfl, hu⟩ := h
  refine (cS_FixedNodes 1000 w ot 2 (by decide) u x hu _ (e_specFixed 1000 (by omega) x (szN_of hs))).mono ?_
  intro e w' hp
  exact retL_of (fixB_sb x).1 (fixB_sb x).2 hp

theorem implFixedNodes_any (v : Value) (x : T_Network) (w : World) (h : RdN w v x) (_ : okN x) (hs : szN x ≤ 1048576) : Calls Try.prog 36 #[v] w (RetL w (fFixedNodesImpl x)) := by
  obtain ⟨u, rfl, hu⟩ := h
  refine (cI_FixedNodes 1000 w ot 2 (by decide) u x hu _ (e_implFixed 1000 (by omega) x (szN_of hs))).mono ?_
  intro e w' hp
  exact retL_of (fixB_sb x).1 (fixB_sb x).2 hp
end Go.Proofs.Ytijaojnaamkinaa
