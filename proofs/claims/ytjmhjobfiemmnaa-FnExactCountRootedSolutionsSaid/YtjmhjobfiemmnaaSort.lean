/- slices.Sort on a list of integers that is one's own. -/
import Derived.Test.YtjmhjobfiemmnaaKg
import Derived.Test.YtjmhjobfiemmnaaLay
import Derived.Shelf.Slices.In.SortAlone
import Derived.Shelf.Slices.In.SortNone
import Derived.Sort.EveryDepth
import Derived.Lib.SlKeysI
namespace Go.Proofs.Ytjmhjobfiemmnaa
open Go.RowKit Go.Sort Go.Shelf
set_option linter.unusedSimpArgs false
set_option linter.unusedVariables false

/-- The list in rising order. -/
def srt (xs : List Int) : List Int := xs.mergeSort fun x y => decide (x ≤ y)
theorem srt_length (xs : List Int) : (srt xs).length = xs.length := by simp [srt]
def srtO (xs : List Int) : Option (List Int) := if xs.length ≤ 1000000000 then some (srt xs) else none
theorem srtO_some {xs ys : List Int} (h : srtO xs = some ys) : xs.length ≤ 1000000000 ∧ ys = srt xs := by
  unfold srtO at h
  split at h
  · rename_i hh; cases h; exact ⟨hh, rfl⟩
  · cases h
theorem flat_i : ∀ {css : List (List Value)} {l : List Int}, css.length = l.length → (∀ (i : Nat) cs x, css[i]? = some cs → l[i]? = some x → cs = [.int .i64 x]) → css.flatten = l.map (Value.int .i64)
  | [], [], _, _ => rfl
  | [], _ :: _, h, _ => by simp at h
  | _ :: _, [], h, _ => by simp at h
  | c :: css, a :: l, hl, h => by
    have h0 := h 0 c a rfl rfl
    subst h0
    rw [List.flatten_cons, flat_i (by simpa using hl) (fun i cs x h1 h2 => h (i + 1) cs x (by simpa using h1) (by simpa using h2))]
    rfl
theorem ow_ints {B k : Nat} {o : Tg} {w : World} {v : Value} {l : List Int} (ho : ∀ g, v.ownBlock = some g → o g = k) (h : w.ownsRow B 3 1 v l.length (l.map (Value.int .i64))) : Ow B 3 k o w v l := by
  refine ⟨l.map fun x => [.int .i64 x], by simp, ?_, ho, fun i cs x a b => ?_⟩
  · have : ∀ l : List Int, (l.map fun x => [Value.int .i64 x]).flatten = l.map (Value.int .i64) := by
      intro l
      induction l with
      | nil => rfl
      | cons a l ih => simp [List.flatten_cons, ih]
    rw [this]; exact h
  · rw [List.getElem?_map, b] at a
    cases a
    rfl
theorem cX_Sort {B k : Nat} {o : Tg} {w : World} {v : Value} {xs ys : List Int} (h : Ow B 3 k o w v xs) (hF : srtO xs = some ys) :
    Calls Try.prog 69 #[v] w (fun e w' => e = .returned (.tuple #[]) ∧ Ow B 3 k o w' v ys ∧ Stp k o w o w') := by
  obtain ⟨hl, rfl⟩ := srtO_some hF
  obtain ⟨css, h1, h2, h3, h4⟩ := h
  rw [flat_i h1 (fun i cs x a b => h4 i cs x a b)] at h2
  have h2' : w.ownsRow B 3 1 v xs.length (xs.map (Value.int .i64)) := h2
  rcases h2'.2 with ⟨rfl, h0⟩ | ⟨g, cap, cur, rfl, hbase, hb, hn, hcap, hsz, htk⟩
  · have hx : xs = [] := List.eq_nil_of_length_eq_zero h0
    subst hx
    refine (calls_of_every_depth fun D => AnyS.slices_Sort_int_none_alone Try.laysSort D none 0 w).mono ?_
    rintro e w' ⟨rfl, rfl⟩
    exact ⟨rfl, (by simpa [srt] using Ow.nil B 3 k o w'), Stp.refl _ _ _⟩
  · have hH : Holds (Value.int .i64) w g 0 xs.toArray := holds_of_block_i hb (by simpa using htk)
    have hgl : g < w.heap.size := (Array.getElem?_eq_some_iff.1 hb).1
    refine (calls_of_every_depth fun D => AnyS.slices_Sort_int_alone Try.laysSort D g 0 cap xs w hH hgl (by omega)).mono ?_
    rintro e w' ⟨rfl, n, os, rfl⟩
    have hr := ownsRow_sorted_i (n := n) (os := os) (ts := srt xs) (srt_length xs) hbase hb hn hcap (by simpa using hsz)
    have hg := grownBy_sorted_i (w := w) (g := g) (n := n) (os := os) (srt xs).toArray
    refine ⟨rfl, ow_ints h3 (by rw [srt_length]; exact hr), ⟨rfl, rfl, rfl, ?_, fun b hb hne => ?_, fun _ _ => rfl⟩⟩
    · simp [putRow, mapBlock, Sort.ahead]
    · rw [heap_grow_old _ _ (by simpa using hb)]
      have : g ≠ b := fun e => hne (by rw [← e]; exact h3 g rfl)
      simp [putRow, mapBlock, Sort.ahead, Array.getElem?_modify, this]
end Go.Proofs.Ytjmhjobfiemmnaa
