/- l1Num and strconv.Itoa at one digit; strings.Join. -/
import Derived.Test.YthhpcledhflapaaDoorKst
import Derived.Test.YthhpcledhflapaaDoorBase
namespace Go.Proofs.YthhpcledhflapaaDoor
open Go.RowKit Go.Shelf
set_option linter.unusedSimpArgs false
set_option linter.unusedVariables false

theorem laysJoin_extra : Builder.Extra Tryd.prog Tryd.laysJoin_ren where
  sizeBuilder := by kernel_rfl
  liesBuilder := by kernel_rfl
  t5 := by kernel_rfl
  a5 := Tryd.isAgg5
  z5 := Tryd.sizeOf5
  v5 := Tryd.zeroValue5
  infoByte := by kernel_rfl
  cellsByte := by kernel_rfl
  sizeByte := by kernel_rfl
  neB5 := by decide
/-! ### Numerals of one digit -/
def digS (n : Int) : Str := ⟨[UInt8.ofNat (48 + n.toNat)]⟩
def fS_l1Num (n : Int) : Option Str := if 0 ≤ n ∧ n < 10 then some (digS n) else none
def fX_strconv_Itoa (n : Int) : Option Str := if 0 ≤ n ∧ n < 10 then some (digS n) else none
theorem digit_cases {n : Int} (h : 0 ≤ n ∧ n < 10) : n = 0 ∨ n = 1 ∨ n = 2 ∨ n = 3 ∨ n = 4 ∨ n = 5 ∨ n = 6 ∨ n = 7 ∨ n = 8 ∨ n = 9 := by omega
theorem run_conv1 (w : World) (b : Int) :
    (convert 75 9 (.slice (some ⟨w.heap.size, 0, none⟩) 1 1)).run Tryd.prog (w.alloc (.cells #[.int .u8 b] 5)) = .ok (.string ⟨[UInt8.ofNat b.toNat].toArray⟩) (w.alloc (.cells #[.int .u8 b] 5)) := by
  rw [run_convert_bytes_string _ 75 9 5 _ 1 1 (by kernel_rfl) (by kernel_rfl) (by kernel_rfl)]
  have hl := run_loadCellsFrom (P := Tryd.prog) (w := w.alloc (.cells #[.int .u8 b] 5)) (b := w.heap.size) (off := 0) [.int .u8 b] 0 #[] (by
    intro j u hj
    cases j with
    | zero => simp at hj; subst hj; rw [World.cell?_alloc_at _ _ _ _ rfl]; rfl
    | succ j => simp at hj)
  rw [run_bytesToString _ _ 1 1 [b] hl]
  rfl

set_option maxRecDepth 100000 in
set_option maxHeartbeats 2000000 in
theorem cS_l1Num (w : World) (n : Int) (r : Str) (h : fS_l1Num n = some r) :
    Calls Tryd.prog 74 #[.int .i64 n] w fun e w' => e = .returned (.string ⟨r.b.toArray⟩) ∧ Keeps w w' := by
  unfold fS_l1Num at h
  split at h
  · rename_i hn
    cases h
    rcases digit_cases hn with rfl | rfl | rfl | rfl | rfl | rfl | rfl | rfl | rfl | rfl
    all_goals
      go_enter Tryd.func74, Tryd.ntmps74
      go_wp2
      rw [run_conv1 w]
      simp only [Result.andThen_ok]
      go_wp2
      go_ret
      exact ⟨rfl, by repeat (first | exact Keeps.refl _ | with_reducible refine Keeps.alloc ?_ _)⟩
  · cases h
theorem cX_strconv_Itoa (w : World) (n : Int) (r : Str) (h : fX_strconv_Itoa n = some r) :
    Calls Tryd.prog 77 #[.int .i64 n] w fun e w' => e = .returned (.string ⟨r.b.toArray⟩) ∧ Keeps w w' := by
  unfold fX_strconv_Itoa at h
  split at h
  · rename_i hn
    cases h
    have hc := Any.strconv_Itoa_small Tryd.laysItoa n.toNat (by omega) w
    have e1 : ((n.toNat : Nat) : Int) = n := by omega
    rw [e1] at hc
    refine Calls.mono hc ?_
    rintro e w' ⟨rfl, rfl⟩
    refine ⟨?_, Keeps.refl _⟩
    rw [Lib.decDigits, dif_pos (by omega)]
    rfl
  · cases h
/-! ### Join -/
def joinO (xs : List Str) (sep : Str) : Option Str :=
  if xs.length ≤ 1000000000 ∧ (Lib.join (xs.map (·.b)) sep.b).length ≤ 1000000000000 then some ⟨Lib.join (xs.map (·.b)) sep.b⟩ else none
theorem cX_Join (w : World) (v : Value) (xs : List Str) (hx : RdL zt w v xs) (sep r : Str) (h : joinO xs sep = some r) :
    Calls Tryd.prog 68 #[v, .string ⟨sep.b.toArray⟩] w fun e w' => e = .returned (.string ⟨r.b.toArray⟩) ∧ Keeps w w' := by
  unfold joinO at h
  split at h
  · rename_i hl
    cases h
    obtain ⟨a, c, rfl, h1, h2, h3⟩ := hx
    have em : ((xs.map fun x => (⟨x.b.toArray⟩ : ByteArray)).map (·.data.toList)) = xs.map (·.b) := by
      rw [List.map_map]
      apply List.map_congr_left
      intro x _
      simp
    cases xs with
    | nil =>
      have hc := Any.strings_Join_none Tryd.laysJoin laysJoin_extra a c ⟨sep.b.toArray⟩ w
      refine Calls.mono hc ?_
      rintro e w' ⟨rfl, rfl⟩
      exact ⟨by simp [Lib.join], Keeps.refl _⟩
    | cons x xs =>
      obtain ⟨b, off, cs, rfl, _, hb, _, _⟩ := h3 0 x rfl
      have hc := Any.strings_Join Tryd.laysJoin laysJoin_extra b off c ((x :: xs).map fun x => (⟨x.b.toArray⟩ : ByteArray)) ⟨sep.b.toArray⟩ w (fun j y hy => by
        rw [List.getElem?_map] at hy
        cases hz : (x :: xs)[j]? with
        | none => rw [hz] at hy; simp at hy
        | some z =>
          rw [hz] at hy
          simp only [Option.map_some, Option.some.injEq] at hy
          subst hy
          obtain ⟨b', off', cs', e, _, _, hc, hr⟩ := h3 j z hz
          cases e
          have hr' : cs' = [.string ⟨z.b.toArray⟩] := hr
          subst hr'
          have := hc 0 _ rfl
          simpa [Rp.sz] using this) hb (by simp at hl ⊢; omega) (by simpa using h1) (by rw [em]; simpa using (show (Lib.join ((x :: xs).map (·.b)) sep.b).length ≤ 140737488355328 by omega))
      rw [em, List.length_map] at hc
      refine Calls.mono hc ?_
      rintro e w' ⟨rfl, hk⟩
      exact ⟨by simp, hk⟩
  · cases h
end Go.Proofs.YthhpcledhflapaaDoor
