/- The contracts of allWithin and l1All. -/
import Derived.Test.YtcjmpodljhcbhaaIdx
import Derived.Test.YtcjmpodljhcbhaaCt
namespace Go.Proofs.Ytcjmpodljhcbhaa
open Go.RowKit
set_option linter.unusedSimpArgs false
set_option linter.unusedVariables false

def allIn (l : List Int) (lo hi : Int) : Bool := l.all fun x => inB x lo hi

theorem allIn_bounds {l : List Int} {lo hi : Int} (h : allIn l lo hi = true) : ∀ i, i < l.length → lo ≤ l.getD i 0 ∧ l.getD i 0 ≤ hi := by
  intro i hi'
  have := List.all_eq_true.1 h (l.getD i 0) (by simp [hi'])
  exact inB_true.1 this
theorem allIn_mem {l : List Int} {lo hi : Int} (h : allIn l lo hi = true) : ∀ x ∈ l, lo ≤ x ∧ x ≤ hi := fun x hx => inB_true.1 (List.all_eq_true.1 h x hx)

theorem any_getD (l : List Int) (p : Int → Bool) : (List.range l.length).any (fun i => p (l.getD i 0)) = l.any p := by
  rw [Bool.eq_iff_iff, List.any_eq_true, List.any_eq_true]
  constructor
  · rintro ⟨i, hi, h⟩
    exact ⟨_, by have : i < l.length := by simpa using hi
                 simp [this], h⟩
  · rintro ⟨x, hx, h⟩
    obtain ⟨i, hi, rfl⟩ := List.mem_iff_getElem.1 hx
    exact ⟨i, by simpa using hi, by simpa [hi] using h⟩

set_option maxHeartbeats 400000 in
theorem allWithin1_any (x lo hi : Int) (g1 g2 : Nat) (w : World) (h1 : w.cell? ⟨g1, 0, none⟩ = some (.int .i64 lo)) (h2 : w.cell? ⟨g2, 0, none⟩ = some (.int .i64 hi)) :
    Calls Try.prog 111 #[.int .i64 x, .pointer (some ⟨g1, 0, none⟩), .pointer (some ⟨g2, 0, none⟩)] w fun e w' => e = .returned (.bool (!inB x lo hi)) ∧ w' = w := by
  go_enter Try.func111, Try.ntmps111
  go_wp2_with (go_at_call 56; refine (within_any _ _ _ _).mono ?_; rintro e w' ⟨rfl, rfl⟩)
  go_ret
  exact ⟨rfl, rfl⟩

set_option maxHeartbeats 400000 in
theorem allWithin_any (v : Value) (l : List Int) (lo hi : Int) (w : World) (h : Ints w v l) :
    Calls Try.prog 92 #[v, .int .i64 lo, .int .i64 hi] w fun e w' => e = .returned (.bool (allIn l lo hi)) ∧ Keeps w w' := by
  have hmf : ∀ (fn : Fn) (first cap : Array Value) (w : World), (Instr.makeFunc fn first cap).run Try.prog w = .ok (.func fn first cap) w := fun _ _ _ _ => rfl
  have kk : Hid (Keeps w ((w.alloc (.cells #[.int .i64 lo] 3)).alloc (.cells #[.int .i64 hi] 3))) := ((Keeps.refl _).alloc _).alloc _
  have e0 : ((List.range (l.map (Value.int .i64)).length).any fun i => !inB (l.getD i 0) lo hi) = !allIn l lo hi := by
    rw [List.length_map, any_getD l (fun x => !inB x lo hi)]
    simp [allIn, List.all_eq_not_any_not]
  have HC0 := (containsFunc_int 111 (fun _ _ => by kernel_rfl) #[.pointer (some ⟨w.heap.size, 0, none⟩), .pointer (some ⟨w.heap.size + 1, 0, none⟩)] v (l.map (Value.int .i64)) (fun i => !inB (l.getD i 0) lo hi)
    (fun w' => w' = (w.alloc (.cells #[.int .i64 lo] 3)).alloc (.cells #[.int .i64 hi] 3)) _ rfl (fun w' e => by subst e; exact Sl.keep h kk.out) (fun i hi w' e => by
      subst e
      have hi' : i < l.length := by simpa using hi
      have e1 : (l.map (Value.int .i64)).getD i undef = .int .i64 (l.getD i 0) := by simp [hi']
      rw [e1]
      exact allWithin1_any _ _ _ _ _ _ (by rw [World.cell?_alloc_past _ _ _ (by simp), World.cell?_alloc_at _ _ _ _ rfl]; rfl) (by rw [World.cell?_alloc_at _ _ _ _ (by simp)]; rfl)))
  rw [e0] at HC0
  have HC := Lib.hid HC0
  clear h HC0 e0
  go_enter Try.func92, Try.ntmps92
  go_wp2_with (go_at_call 109; refine (HC.out).mono ?_; rintro e w' ⟨rfl, rfl⟩)
  go_ret
  exact ⟨by simp, kk.out⟩

set_option maxHeartbeats 400000 in
theorem l1All_any (v : Value) (l : List Int) (lo hi : Int) (w : World) (h : Ints w v l) :
    Calls Try.prog 77 #[v, .int .i64 lo, .int .i64 hi] w fun e w' => e = .returned (.bool (allIn l lo hi)) ∧ w = w' := by
  obtain ⟨a, c, rfl, hm, hf⟩ := h.form
  have HF := Lib.hid hf
  clear h hf
  go_enter Try.func77, Try.ntmps77
  go_wp2
  go_loop [11] (fun i => ∃ k : Nat, i = .int .i64 k ∧ k ≤ l.length ∧ ∀ j, j < k → inB (l.getD j 0) lo hi = true) (fun i => l.length - (intOf i).toNat)
  case atStart => exact ⟨0, rfl, Nat.zero_le _, fun j hj => by omega⟩
  case round =>
    obtain ⟨k, rfl, hk, hall⟩ := hrel
    have HA := Lib.hid hall
    clear hall
    by_cases hlt : k < l.length
    · obtain ⟨b, o, rfl, hc⟩ := HF.out k hlt
      generalize hx : l.getD k 0 = x at hc
      have Hx := Lib.hid hx
      clear hx
      cases hb : inB x lo hi
      · go_wp2_with (go_at_call 65; refine (l1In_any _ _ _ _).mono ?_; rintro e w' ⟨rfl, rfl⟩)
        go_ret
        refine ⟨?_, rfl⟩
        have : allIn l lo hi = false := by
          rw [allIn, List.all_eq_false]
          exact ⟨l.getD k 0, by simp [hlt], by rw [Hx.out, hb]; simp⟩
        rw [this]; rfl
      · go_wp2_with (go_at_call 65; refine (l1In_any _ _ _ _).mono ?_; rintro e w' ⟨rfl, rfl⟩)
        go_round
        case rel =>
          refine ⟨k + 1, by go_num, by omega, fun j hj => ?_⟩
          by_cases hjk : j = k
          · rw [hjk, Hx.out, hb]
          · exact HA.out j (by omega)
        case measure => simp [intOf]; omega
    · go_wp2
      go_ret
      refine ⟨?_, rfl⟩
      have : allIn l lo hi = true := by
        rw [allIn, List.all_eq_true]
        intro x hx
        obtain ⟨i, hi, rfl⟩ := List.mem_iff_getElem.1 hx
        have := HA.out i (by omega)
        simpa [hi] using this
      rw [this]; rfl
end Go.Proofs.Ytcjmpodljhcbhaa
