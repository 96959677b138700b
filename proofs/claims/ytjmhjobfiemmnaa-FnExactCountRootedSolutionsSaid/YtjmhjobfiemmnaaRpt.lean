/- slices.Repeat of a list of one number. -/
import Derived.Test.YtjmhjobfiemmnaaSort
import Derived.Test.YtjmhjobfiemmnaaRng
import Derived.Test.YtjmhjobfiemmnaaLay
import Derived.StillTailTactics
import Derived.Deep.RegionLaw
namespace Go.Proofs.Ytjmhjobfiemmnaa
open Go.RowKit Go.Shelf
set_option linter.unusedSimpArgs false
set_option linter.unusedVariables false

theorem copy_ints {B g c n d dLen dCap sLen sCap : Nat} {w : World} {l xs : List Int} {ad : Addr} {ty : TypeId} (h : Own B w (.slice (some ⟨g, 0, none⟩) n c) l) (hl : l.length = n) (hx : ∀ j (hj : j < xs.length), w.cell? (ad.add j) = some (.int .i64 xs[j]))
    (hm : xs.length = Nat.min sLen dLen) (hd : d + xs.length ≤ n) :
    ∃ w', (Builtin.copy_ #[25, 25] ty #[.slice (some ⟨g, d, none⟩) dLen dCap, .slice (some ad) sLen sCap]).run Try.prog w = .ok (.int .i64 (xs.length : Int)) w' ∧
      Own B w' (.slice (some ⟨g, 0, none⟩) n c) (l.take d ++ xs ++ l.drop (d + xs.length)) ∧ w.grownBy w' (some g) := by
  obtain ⟨i0, hi, hz0, hz1, hz2⟩ := info_parts info_int
  rcases h.2 with ⟨hv, _⟩ | ⟨g', cap, cur, hv, hb, hg, hnc, hcm, hcs, htk⟩
  · simp at hv
  simp only [Value.slice.injEq, Option.some.injEq, Addr.mk.injEq, and_true, true_and] at hv
  obtain ⟨rfl, -, rfl⟩ := hv
  rw [hl, Nat.mul_one] at htk
  have hcl : n ≤ cur.toList.length := by rw [Array.length_toList, hcs]; omega
  have hr := run_copy_row (P := Try.prog) w 25 25 ty 3 g d dLen dCap ad sLen sCap cur 3 (xs.map (Value.int .i64)) Try.underlying25 (by rw [hi]; simp [hz1]) hg (by simpa using hm)
    (fun j v hj => by
      rw [List.getElem?_map, Option.map_eq_some_iff] at hj
      obtain ⟨x, hj, rfl⟩ := hj
      obtain ⟨hlt, e⟩ := List.getElem?_eq_some_iff.1 hj
      rw [hx j hlt, e]) (by rw [Array.length_toList] at hcl; simp; omega) (by simp [Value.oneCell'])
  rw [List.length_map] at hr
  refine ⟨_, hr, ⟨by simp, .inr ⟨g, c, _, by rw [show (l.take d ++ xs ++ l.drop (d + xs.length)).length = n by simp; omega], hb, setRow_heap w g cur _ 3 (0, 0) hg, by simp; omega, hcm, ?_, ?_⟩⟩, ⟨rfl, rfl, rfl, by simp, fun k _ hk => setRow_other w g k _ fun e => hk (by rw [e])⟩⟩
  · rw [Array.length_toList] at hcl
    simp
    omega
  · have e1 : cur.toList.take d = (cur.toList.take n).take d := by rw [List.take_take, Nat.min_eq_left (by omega)]
    have e2 : (cur.toList.drop (d + xs.length)).take (n - (d + xs.length)) = (cur.toList.take n).drop (d + xs.length) := List.drop_take.symm
    have hlen : (l.take d ++ xs ++ l.drop (d + xs.length)).length = n := by simp; omega
    have hX : (cur.toList.take d ++ xs.map (Value.int .i64)).length = d + xs.length := by simp; rw [Array.length_toList] at hcl; omega
    rw [hlen, Nat.mul_one, List.take_append, hX, List.take_of_length_le (by rw [hX]; exact hd), e1, e2, htk]
    simp [List.map_take, List.map_drop]
theorem step_copy {ops : Array Oper} {o : Oper} {a : Act} {Q : Exit → Act → World → Prop} {E : Prop} {K : Act → World → Prop} {w w' : World} {u v r : Value} {x y : Operand}
    {ty : TypeId} (hr : (Builtin.copy_ #[25, 25] ty #[u, v]).run Try.prog w = .ok r w') (hty : o.type = ty) (hgd : o.guard = none)
    (ho : o.op = .call { callee := .builtin .copy, args := #[x, y], argTypes := #[25, 25] }) (hx : a.eval x = u) (hy : a.eval y = v)
    (h : K (a.put o.dst r) w') : if Region.wanted o (yielded ops a.tmps) = true then Oper.wp Try.prog o a w K Q else E := by
  have hw : Region.wanted o (yielded ops a.tmps) = true := by simp [Region.wanted, hgd]
  rw [if_pos hw]
  unfold Oper.wp execOp
  simp only [ho, resolve, invoke, builtin, Sem.run_bind, Sem.run_pure, Result.andThen_ok, List.map_toArray, List.map_cons, List.map_nil, hx, hy, hty, hr]
  exact h
theorem rep_split (c : Int) (m n : Nat) (h : m ≤ n) (q : Nat) (hq : q ≤ m) (hq2 : m + q ≤ n) : (List.replicate m c ++ List.replicate (n - m) (0 : Int)).take m ++ List.replicate q c ++ (List.replicate m c ++ List.replicate (n - m) (0 : Int)).drop (m + q) = List.replicate (m + q) c ++ List.replicate (n - (m + q)) 0 := by
  rw [List.take_append, List.drop_append]
  simp only [List.length_replicate, Nat.sub_self, List.take_zero, List.append_nil, List.take_replicate, Nat.min_self, List.drop_replicate, Nat.zero_min, List.replicate_zero]
  rw [show m - (m + q) = 0 by omega, show n - m - (m + q - m) = n - (m + q) by omega, List.replicate_zero, List.nil_append, List.replicate_append_replicate]

theorem rdl_ints {w : World} {v : Value} {l : List Int} (h : RdL zt w v l) : Ints w v l := by
  obtain ⟨a, c, rfl, h1, h2, h3⟩ := h
  refine ⟨a, c, by simp, by simpa using h1, h2, ?_⟩
  cases l with
  | nil => exact .inl rfl
  | cons x l =>
    obtain ⟨b, o, cs, rfl, _⟩ := h3 0 x rfl
    refine .inr ⟨b, o, rfl, fun i y hy => ?_⟩
    rw [List.getElem?_map, Option.map_eq_some_iff] at hy
    obtain ⟨z, hz, rfl⟩ := hy
    obtain ⟨b', o', cs', e, _, _, hc, hr⟩ := h3 i z hz
    simp only [Option.some.injEq, Addr.mk.injEq, and_true] at e
    obtain ⟨rfl, rfl⟩ := e
    have hr : cs' = [.int .i64 z] := hr
    subst hr
    have := cell_of_cells hc
    rw [show o + i * Rp.sz Int = o + i from by show o + i * 1 = o + i; omega] at this
    exact this
/-- What the generator calls it by. -/
def repO (xs : List Int) (n : Int) : Option (List Int) := match xs with
  | [c] => if 0 ≤ n ∧ n ≤ 1000000 then some (List.replicate n.toNat c) else none
  | _ => none
theorem repO_some {xs : List Int} {n : Int} {r : List Int} (h : repO xs n = some r) : ∃ (c : Int) (m : Nat), xs = [c] ∧ n = m ∧ m ≤ 1000000 ∧ r = List.replicate m c := by
  unfold repO at h
  split at h
  · rename_i c
    split at h
    · rename_i hn
      cases h
      exact ⟨c, n.toNat, rfl, by omega, by omega, rfl⟩
    · cases h
  · cases h
set_option maxRecDepth 100000 in
set_option maxHeartbeats 1600000 in
theorem Repeat_one (v : Value) (c : Int) (n : Nat) (w : World) (h : Ints w v [c]) (hn : n ≤ 1000000) :
    Calls Try.prog 25 #[v, .int .i64 n] w fun e w' => ∃ r, e = .returned r ∧ Own w.heap.size w' r (List.replicate n c) ∧ Keeps w w' := by
  obtain ⟨a, cp, rfl, hm, hf⟩ := h.form
  have hneg : ¬ ((n : Int) < 0) := by omega
  have HM := Lib.hid (Any.bits_Mul Try.laysMul 1 n (by decide) (by omega))
  obtain ⟨b, o, rfl, hc⟩ := hf 0 (by simp)
  have HC := Lib.hid hc
  clear hf h hc
  obtain ⟨i0, hi, hz0, hz1, hz2⟩ := info_parts info_int
  have HI := Lib.hid hi
  have HZ0 := Lib.hid hz0
  have HZ1 := Lib.hid hz1
  have HZ2 := Lib.hid hz2
  clear hi hz0 hz1 hz2
  go_enter Try.func25, Try.ntmps25
  go_wp2_with fail
  refine (HM.out _).mono ?_
  rintro e w1 ⟨rfl, hw⟩
  rw [hw, show (1 * n / 18446744073709551616 : Nat) = 0 by omega, show (1 * n % 18446744073709551616 : Nat) = n by omega]
  clear hw
  go_wp2_with (at_make; refine wpList_make_full _ rfl _ _ 25 rfl w.heap.size 3 i0 (.int .i64 0) 1 Try.underlying25 HI.out HZ0.out HZ1.out .i64 .i64 _ _ n rfl rfl rfl rfl (by rw [HZ2.out]; omega) (by unfold maxLen; omega) (Nat.le_refl _) ?_; intro w2 hown hgr)
  have hown1 : Own w.heap.size w2 (.slice (some ⟨w.heap.size, 0, none⟩) n n) (List.replicate n 0) := by rw [replicate_map] at hown; unfold Own; simpa using hown
  have H2 : Hid (Keeps w w2) := (Below.refl _ _).grown hgr (Nat.le_refl _) (by simp)
  clear hown hgr HI HZ0 HZ1 HZ2
  by_cases h0 : n = 0
  · subst h0
    obtain ⟨i1, hi1, _, hs1, _⟩ := info_parts info_int
    have hr := run_copy_none (P := Try.prog) w2 25 25 3 3 (some ⟨w.heap.size, 0, none⟩) (some ⟨b, o, none⟩) 0 0 1 cp Try.underlying25 (by rw [hi1]; simp [hs1]) (by simp)
    have H1 := Lib.hid hown1
    clear hown1
    rw [hr]
    go_wp2
    go_loopw [8] (fun t wr => t = .int .i64 0 ∧ wr = w2) (fun _ _ => 0)
    case atStart => exact ⟨rfl, rfl⟩
    case round =>
      obtain ⟨rfl, rfl⟩ := hrel
      go_wp2
      go_ret
      exact ⟨_, rfl, H1.out, H2.out⟩
  · have hx : ∀ j (hj : j < [c].length), w2.cell? ((⟨b, o, none⟩ : Addr).add j) = some (.int .i64 [c][j]) := fun j hj => by
      have : j = 0 := by simpa using hj
      subst this
      rw [Go.WideShapes.add_plain]
      exact cell_keep H2.out HC.out
    obtain ⟨w3, hr, ho3, hg3⟩ := copy_ints (d := 0) (dLen := n) (dCap := n) (sLen := 1) (sCap := cp) (ty := 3) hown1 (by simp) hx (by show 1 = min 1 n; omega) (by simp; omega)
    have e1 : (List.replicate n (0 : Int)).take 0 ++ [c] ++ (List.replicate n (0 : Int)).drop (0 + [c].length) = List.replicate 1 c ++ List.replicate (n - 1) 0 := by simp
    rw [e1] at ho3
    have H3 := Lib.hid ho3
    have H4 : Hid (Keeps w w3) := Below.grown H2.out hg3 H2.out.size (by simp)
    clear hown1 hx ho3 hg3
    rw [hr]
    go_wp2
    go_loopw [8] (fun t wr => ∃ m : Nat, 1 ≤ m ∧ m ≤ n ∧ t = .int .i64 m ∧ Own w.heap.size wr (.slice (some ⟨w.heap.size, 0, none⟩) n n) (List.replicate m c ++ List.replicate (n - m) 0) ∧ Keeps w wr) (fun t _ => n - (intOf t).toNat)
    case atStart => exact ⟨1, Nat.le_refl _, by omega, rfl, H3.out, H4.out⟩
    case round =>
      obtain ⟨m, hm1, hmn, rfl, hO, hK⟩ := hrel
      have HO := Lib.hid hO
      have HK := Lib.hid hK
      clear hO hK H3 H4
      by_cases hlt : m < n
      · go_wp2
        have HOd := Lib.hid (HO.out.keep (Keeps.refl wr).drew)
        have HKd := Lib.hid (Keeps.drew HK.out)
        have HE := Lib.hid (rfl : wr.drew = wr.drew)
        have hq1 : Nat.min m (n - m) ≤ m := Nat.min_le_left _ _
        have hq2 : Nat.min m (n - m) ≤ n - m := Nat.min_le_right _ _
        have hq3 : 1 ≤ Nat.min m (n - m) := by show 1 ≤ min m (n - m); omega
        have hx : ∀ j (hj : j < (List.replicate (Nat.min m (n - m)) c).length), wr.drew.cell? ((⟨w.heap.size, 0, none⟩ : Addr).add j) = some (.int .i64 (List.replicate (Nat.min m (n - m)) c)[j]) := fun j hj => by
          rw [List.length_replicate] at hj
          rw [Go.WideShapes.add_plain, Nat.zero_add]
          have hln : (List.replicate m c ++ List.replicate (n - m) 0).length = n := by simp; omega
          have h0 : wr.drew.ownsRow w.heap.size 3 1 (.slice (some ⟨w.heap.size, 0, none⟩) n n) n ((List.replicate m c ++ List.replicate (n - m) 0).map (Value.int .i64)) := by
            have h1 := HOd.out
            unfold Own at h1
            rw [hln] at h1
            exact h1
          have h1 := h0.cellAt j (by omega)
          rw [h1, List.getElem?_map, List.getElem?_append_left (by simp; omega)]
          simp only [List.map_replicate, List.getElem?_replicate, Option.map_some, List.getElem_replicate]
          rw [if_pos (by omega)]
          rfl
        obtain ⟨w6, hr, ho6, hg6⟩ := copy_ints (d := m) (dLen := n - m) (dCap := n - m) (sLen := m) (sCap := n) (ty := 3) HOd.out (by simp; omega) hx (by simp) (by rw [List.length_replicate]; omega)
        rw [List.length_replicate] at hr ho6
        rw [rep_split c m n hmn _ hq1 (by omega)] at ho6
        have HO6 := Lib.hid ho6
        have HK6 : Hid (Keeps w w6) := Below.grown HKd.out hg6 HKd.out.size (by simp)
        clear hx ho6 hg6
        generalize Nat.min m (n - m) = q at hr HO6 hq1 hq2 hq3
        have hnm : ¬ n = m := by omega
        go_region_law (refine step_copy (ty := 3) ?_ (by rfl) (by rfl) (by rfl) (by rfl) (by rfl) ?_; exact hr)
        all_goals
          go_wp2_with fail
          have hmq : m + q ≤ n := by omega
          have hw : IntKind.i64.wrap ((m : Int) + (q : Int)) = ((m + q : Nat) : Int) := by rw [IntKind.wrap_i64]; omega
          exact ⟨⟨m + q, by omega, hmq, by rw [hw], HO6.out, HK6.out⟩, by rw [hw]; simp only [intOf, Int.toNat_natCast]; omega⟩
      · go_wp2
        go_ret
        have he : m = n := by omega
        subst he
        have := HO.out
        rw [Nat.sub_self, List.replicate_zero, List.append_nil] at this
        exact ⟨_, rfl, this, HK.out⟩
/-- What a call that only makes blocks hands back: what it owns, under the caller's tags. -/
theorem own_leftR {w w' : World} {v : Value} {xs : List Int} (oo : Tg) (t : Nat) (h : w'.ownsRow w.heap.size 3 1 v xs.length (xs.map (Value.int .i64))) (hb : Below w.heap.size w w') :
    ∃ o' : Tg, Ow w.heap.size 3 t o' w' v xs ∧ Keeps w w' ∧ ∀ b, b < w.heap.size → o' b = oo b := by
  refine ⟨fun b => if b < w.heap.size then oo b else t, ow_ints (fun g hg => if_neg ?_) h, ?_, fun b hb => if_pos hb⟩
  · have := (World.ownsRow.lt h g hg).1; omega
  · exact hb
def pX_rep (oo : Tg) (t : Nat) (w : World) (r : List Int) : Ending → World → Prop := fun e w' => ∃ (v0 : Value) (o' : Tg), e = .returned v0 ∧ Ow w.heap.size 3 t o' w' v0 r ∧ Keeps w w' ∧ ∀ b, b < w.heap.size → o' b = oo b
theorem cX_Repeat (w : World) (oo : Tg) (t : Nat) (u : Value) (xs : List Int) (g : RdL zt w u xs) (n : Int) (r : List Int) (hF : repO xs n = some r) :
    Calls Try.prog 25 #[u, .int .i64 n] w (pX_rep oo t w r) := by
  obtain ⟨c, m, rfl, rfl, hm, rfl⟩ := repO_some hF
  refine (Repeat_one u c m w (rdl_ints g) hm).mono ?_
  rintro e w' ⟨v, rfl, ho, hk⟩
  obtain ⟨o', h1, h2, h3⟩ := own_leftR oo t ho hk
  exact ⟨v, o', rfl, h1, h2, h3⟩
end Go.Proofs.Ytjmhjobfiemmnaa
