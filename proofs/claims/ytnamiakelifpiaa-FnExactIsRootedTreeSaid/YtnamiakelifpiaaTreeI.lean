/- The contracts of both IsRootedTree functions. -/
import Derived.Test.YtnamiakelifpiaaTree
import Derived.Test.YtnamiakelifpiaaOpen
namespace Go.Proofs.Ytnamiakelifpiaa
open Go.RowKit
set_option linter.unusedSimpArgs false
set_option linter.unusedVariables false

def fIsRootedTreeSpec (c : Int) (l : List Int) : Bool := isTree c l
def fIsRootedTreeImpl (c : Int) (l : List Int) : Bool := isTree c l
theorem IsRootedTree_eq (c : Int) (l : List Int) (hc : I64 c) (hl : ∀ n ∈ l, I64 n) (hs : l.length ≤ 1048576) : fIsRootedTreeImpl c l = fIsRootedTreeSpec c l := rfl

theorem specIsRootedTree_any (c : Int) (v : Value) (l : List Int) (w : World) (hc : I64 c) (h : Ints w v l) (hl : ∀ n ∈ l, I64 n) (hs : l.length ≤ 1048576) :
    Calls Try.prog 13 #[.int .i64 c, v] w fun e w' => e = .returned (.bool (fIsRootedTreeSpec c l)) ∧ Keeps w w' := by
  have HB := Lib.hid (roTree_any c v l w h)
  clear h hl
  go_enter Try.func13, Try.ntmps13
  go_wp2_with (go_at_call 24; refine (HB.out).mono ?_; rintro e w' ⟨rfl, hk⟩)
  go_ret
  exact ⟨rfl, hk⟩

theorem isRootedTree1_any (c : Int) (u : Value) (r : List Int) (g : Nat) (w : World) (hu : Ints w u r) (h1 : w.cell? ⟨g, 0, none⟩ = some (.int .i64 c)) :
    Calls Try.prog 27 #[u, .pointer (some ⟨g, 0, none⟩)] w fun e w' => e = .returned (.bool (!rowOk c r)) ∧ w' = w := by
  obtain ⟨ua, uc, rfl, hum, _⟩ := hu.form
  have HR : Hid (rowOk c r = (((r.length : Int) == 0) || ((r.length : Int) == c))) := rfl
  clear hu
  cases h0 : ((r.length : Int) != 0)
  · have h0' : ((r.length : Int) == 0) = true := by simpa using h0
    go_enter Try.func27, Try.ntmps27
    go_wp2
    go_ret
    exact ⟨by rw [HR.out, h0']; rfl, rfl⟩
  · have h0' : ((r.length : Int) == 0) = false := by simpa using h0
    have h1' : ((r.length : Int) == c) = !((r.length : Int) != c) := by simp [bne]
    have H1 := Lib.hid h1'
    clear h1'
    cases h2 : ((r.length : Int) != c)
    all_goals
      go_enter Try.func27, Try.ntmps27
      go_wp2
      go_ret
      exact ⟨by rw [HR.out, h0', H1.out, h2]; rfl, rfl⟩

theorem parOk_zero (l : List Int) : parOk l 0 = (l.getD 0 0 == -1) := by
  have : inB (l.getD 0 0) 0 (((0 : Nat) : Int) - 1) = false := by rw [inB_false]; omega
  rw [parOk, this]; simp
theorem parOk_pos (l : List Int) (k : Nat) (h : 0 < k) : parOk l k = inB (l.getD k 0) 0 ((k : Int) - 1) := by
  rw [parOk, decide_eq_false (by omega)]; simp

set_option maxHeartbeats 1600000 in
theorem implIsRootedTree_any (c : Int) (v : Value) (l : List Int) (w : World) (hc : I64 c) (h : Ints w v l) (hl : ∀ n ∈ l, I64 n) (hs : l.length ≤ 1048576) :
    Calls Try.prog 15 #[.int .i64 c, v] w fun e w' => e = .returned (.bool (fIsRootedTreeImpl c l)) ∧ Keeps w w' := by
  have hmf : ∀ (fn : Fn) (first cap : Array Value) (w : World), (Instr.makeFunc fn first cap).run Try.prog w = .ok (.func fn first cap) w := fun _ _ _ _ => rfl
  have HI := Lib.hid h
  obtain ⟨a, cp, rfl, hm, hf⟩ := h.form
  have HF := Lib.hid hf
  have K1 : Hid (Keeps w (w.alloc (.cells #[.int .i64 c] 3))) := (Keeps.refl _).alloc _
  clear h hf hl hc
  have HT : Hid (fIsRootedTreeImpl c l = (inB c 1 3 && inB l.length 1 200 && (List.range l.length).all (parOk l) && (below l l.length).all (rowOk c))) := rfl
  cases hc : inB c 1 3
  · go_enter Try.func15, Try.ntmps15
    go_wp2_with (go_at_call 23; refine (within_any _ _ _ _).mono ?_; rintro e w' ⟨rfl, rfl⟩)
    go_ret
    exact ⟨by rw [HT.out, hc]; rfl, K1.out⟩
  cases hn : inB l.length 1 200
  · go_enter Try.func15, Try.ntmps15
    go_wp2_with (go_at_call 23; refine (within_any _ _ _ _).mono ?_; rintro e w' ⟨rfl, rfl⟩)
    go_ret
    exact ⟨by rw [HT.out, hc, hn]; rfl, K1.out⟩
  have bn := inB_true.1 hn
  obtain ⟨bn1, bn2⟩ := bn
  have hn0 : 0 < l.length := by omega
  obtain ⟨b, o, rfl, hc0⟩ := HF.out 0 hn0
  rw [Nat.add_zero] at hc0
  replace hc0 := cell_keep K1.out hc0
  have HZ := Lib.hid (parOk_zero l)
  generalize l.getD 0 0 = x0 at hc0 HZ
  cases hx0 : (x0 != -1)
  case true =>
    have hx2 : (x0 == -1) = false := by simpa using hx0
    go_enter Try.func15, Try.ntmps15
    go_wp2_with (go_at_call 23; refine (within_any _ _ _ _).mono ?_; rintro e w' ⟨rfl, rfl⟩)
    go_ret
    exact ⟨by rw [HT.out, all_range_false hn0 (by rw [HZ.out, hx2])]; simp, K1.out⟩
  have hx2 : (x0 == -1) = true := by simpa using hx0
  go_enter Try.func15, Try.ntmps15
  go_wp2_with (go_at_call 23; refine (within_any _ _ _ _).mono ?_; rintro e w' ⟨rfl, rfl⟩)
  go_loop [24] (fun i => ∃ k : Nat, i = .int .i64 k ∧ k ≤ l.length ∧ ∀ j, j < k → parOk l j = true) (fun i => l.length - (intOf i).toNat)
  case atStart => exact ⟨0, rfl, Nat.zero_le _, fun j hj => by omega⟩
  case round =>
    obtain ⟨k, rfl, hk, hall⟩ := hrel
    have HA := Lib.hid hall
    clear hall
    by_cases hlt : k < l.length
    · obtain ⟨b', o', he, hcell0⟩ := HF.out k hlt
      cases he
      have hcell := cell_keep K1.out hcell0
      clear hcell0
      have HR : Hid (0 < k → parOk l k = inB (l.getD k 0) 0 ((k : Int) - 1)) := parOk_pos l k
      have step : parOk l k = true → ∀ j, j < k + 1 → parOk l j = true := by
        intro hp j hj
        by_cases hjk : j = k
        · rw [hjk]; exact hp
        · exact HA.out j (by omega)
      have STEP := Lib.hid step
      clear step
      generalize l.getD k 0 = x at hcell HR
      by_cases h0 : (0 : Int) < (k : Int)
      · cases hb : inB x 0 ((k : Int) - 1)
        · go_wp2_with (go_at_call 23; refine (within_any _ _ _ _).mono ?_; rintro e w' ⟨rfl, rfl⟩)
          go_ret
          exact ⟨by rw [HT.out, all_range_false hlt (by rw [HR.out (by omega), hb])]; simp, K1.out⟩
        · go_wp2_with (go_at_call 23; refine (within_any _ _ _ _).mono ?_; rintro e w' ⟨rfl, rfl⟩)
          go_round
          case rel => exact ⟨k + 1, by go_num, by omega, STEP.out (by rw [HR.out (by omega), hb])⟩
          case measure => simp [intOf]; omega
      · go_wp2_with (go_at_call 23; refine (within_any _ _ _ _).mono ?_; rintro e w' ⟨rfl, rfl⟩)
        go_round
        case rel => exact ⟨k + 1, by go_num, by omega, STEP.out (by rw [show k = 0 by omega, HZ.out, hx2])⟩
        case measure => simp [intOf]; omega
    · have HP : Hid ((List.range l.length).all (parOk l) = true) := all_range_true fun j hj => HA.out j (by omega)
      have HB := Lib.hid (childrenOf_any _ l _ (HI.out.keep K1.out) (by omega) (parOk_lt fun j hj => HA.out j (by omega)))
      have HLN : Hid ((below l l.length).length = l.length) := below_length _ _
      have HT2 : Hid (fIsRootedTreeImpl c l = (List.range (below l l.length).length).all fun i => rowOk c ((below l l.length).getD i [])) := by
        show _ = _
        rw [HT.out, hc, hn, HP.out, all_getD]; rfl
      clear HT HP
      generalize below l l.length = LL at HB HLN HT2
      go_wp2_with fail
      refine (HB.out).mono ?_
      rintro e w1 ⟨mv, vs, rfl, hM, hK⟩
      have hg : w1.cell? ⟨w.heap.size, 0, none⟩ = some (.int .i64 c) := cell_keep hK (by rw [World.cell?_alloc_at _ _ _ _ rfl]; rfl)
      have hlen := hM.len
      have hmr := hM.rows
      obtain ⟨vs', q1, q2, q3⟩ := hmr
      have HC0 := containsFunc_row 27 (fun _ _ => by kernel_rfl) #[.pointer (some ⟨w.heap.size, 0, none⟩)] mv vs' (fun i => !rowOk c (LL.getD i []))
        (fun w' => w' = w1) _ rfl (fun w' e => by subst e; exact q1) (fun i hi w' e => by
          subst e
          exact isRootedTree1_any _ _ _ _ _ (q3 i hi) hg)
      have e0 : ((List.range vs'.length).any fun i => !rowOk c (LL.getD i [])) = !(List.range LL.length).all fun i => rowOk c (LL.getD i []) := by
        rw [q2, List.all_eq_not_any_not]; simp
      rw [e0, ← HT2.out] at HC0
      have HC := Lib.hid HC0
      have HK2 := Lib.hid (Keeps.trans K1.out hK)
      obtain ⟨ma, mc, rfl, _⟩ := hM.rows.form
      clear HC0 e0 q1 q2 q3 hM hK hlen hg
      go_wp2_with fail
      refine (HC.out).mono ?_
      rintro e w' ⟨rfl, rfl⟩
      go_wp2
      go_ret
      exact ⟨by simp, HK2.out⟩
end Go.Proofs.Ytnamiakelifpiaa
