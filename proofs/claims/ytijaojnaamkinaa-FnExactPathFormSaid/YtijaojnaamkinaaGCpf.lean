/- slices.CompactFunc[[][]int,[]int]: plain functions, and the walks that show that the program computes them (printed by gen.py). -/
import Derived.Test.YtijaojnaamkinaaGEq
import Derived.Test.YtijaojnaamkinaaKpv
namespace Go.Proofs.Ytijaojnaamkinaa
open Go.RowKit
set_option linter.unusedSimpArgs false
set_option linter.unusedVariables false

def fX_slices_CompactFunc_LLint_int_s2 (y5 : Int) : ((List Pv) × Int × Int) → Option (Lp ((List Pv) × Int × Int) ((List Pv) × Int × Int) (List Pv)) := fun (s : (List Pv) × Int × Int) =>
  (cut s.1 y5 s.1.length) >>= fun x115 =>
  if decide (s.2.2 < ((s.1.length : Int) - y5)) then
    (ix s.1 (y5 + s.2.2)) >>= fun x117 =>
    (nn s.2.2) >>= fun x118 =>
    (cut s.1 y5 s.1.length) >>= fun x119 =>
    (ck (s.2.2 - 1)) >>= fun x124 =>
    (ix s.1 (y5 + x124)) >>= fun x125 =>
    (nn x124) >>= fun x126 =>
    (cut s.1 y5 s.1.length) >>= fun x127 =>
    (fX_slices_Equal_int_int x117.x x125.x) >>= fun x193 =>
    if !x193 then
      (ix s.1 (y5 + s.2.2)) >>= fun x200 =>
      (nn s.2.2) >>= fun x201 =>
      (cut s.1 y5 s.1.length) >>= fun x202 =>
      (ix s.1 s.2.1) >>= fun x209 =>
      (st s.1 s.2.1 x200) >>= fun x219 =>
      (ck (s.2.1 + 1)) >>= fun x221 =>
      (ck (s.2.2 + 1)) >>= fun x222 =>
      some (.go (x219, x221, x222))
    else
      (ck (s.2.2 + 1)) >>= fun x224 =>
      some (.go (s.1, s.2.1, x224))
  else
    some (.out (s.1, s.2.1, s.2.2))
def fX_slices_CompactFunc_LLint_int_s1 (fuel : Nat) : ((List Pv) × Int) → Option (Lp ((List Pv) × Int) ((List Pv) × Int) (List Pv)) := fun (s : (List Pv) × Int) =>
  if decide (s.2 < (s.1.length : Int)) then
    (ix s.1 s.2) >>= fun x19 =>
    (ck (s.2 - 1)) >>= fun x24 =>
    (ix s.1 x24) >>= fun x25 =>
    (fX_slices_Equal_int_int x19.x x25.x) >>= fun x91 =>
    if x91 then
      (cut s.1 s.2 s.1.length) >>= fun x98 =>
      (loopF (fX_slices_CompactFunc_LLint_int_s2 s.2) fuel (s.1, s.2, 1)) >>= fun q105 =>
      match q105 with
      | .inl (y99, y101, y102) =>
        (cut y99 y101 y99.length) >>= fun x227 =>
        (cut y99 y101 y99.length) >>= fun x228 =>
        (cut y99 0 y101) >>= fun x229 =>
        some (.ret x229)
      | .inr _ => none
    else
      (ck (s.2 + 1)) >>= fun x237 =>
      some (.go (s.1, x237))
  else
    some (.out (s.1, s.2))
def fX_slices_CompactFunc_LLint_int (fuel : Nat) (p0 : List Pv) : Option (List Pv) :=
  if decide ((p0.length : Int) < 2) then
    some p0
  else
    (loopF (fX_slices_CompactFunc_LLint_int_s1 fuel) fuel (p0, 1)) >>= fun q8 =>
    match q8 with
    | .inl (y3, y5) =>
      some y3
    | .inr r' => some r'

def pX_slices_CompactFunc_LLint_int (oo o : Tg) (w w1 : World) (r : List Pv) : Ending → World → Prop := fun e w' => ∃ (v0 : Value) (o' : Tg), e = .returned v0 ∧ Ow w.heap.size 23 10 o' w' v0 r ∧ Bs oo o' w w' ∧ Stp 10 o w1 o' w'
set_option maxRecDepth 100000 in
set_option maxHeartbeats 2000000 in
theorem cX_slices_CompactFunc_LLint_int (fuel : Nat) (w w1 : World) (oo o : Tg) (hB : Bs oo o w w1) (hO : ∀ b, b < w1.heap.size → o b ≠ 999) (u0 : Value) (p0 : List Pv) (g0 : Ow w.heap.size 23 10 o w1 u0 p0) (r : List Pv) (hF : fX_slices_CompactFunc_LLint_int fuel p0 = some r) :
    Calls Try.prog 138 #[u0, (.func (.func 88) #[] #[])] w1 (pX_slices_CompactFunc_LLint_int oo o w w1 r) := by
  unfold fX_slices_CompactFunc_LLint_int at hF
  have hS : Stp 10 o w1 o w1 := Stp.refl _ _ _
  refine calls_start (n := 66) (vs := [u0, (.func (.func 88) #[] #[])]) Try.func138 rfl rfl ?_
  refine wpC_seq ?_
  refine wpC_region ?_
  refine st_val (ex_assign rfl) (by decide) trivial ?_
  refine wpF_end (r := [(0, u0), (1, (.func (.func 88) #[] #[]))]) ⟨rfl, rfl, trivial⟩ ?_
  refine nx ?_
  refine wpC_seq ?_
  refine wpC_seq ?_
  refine wpC_region ?_
  refine st_val (ex_move rfl) (by decide) trivial ?_
  refine st_val (ex_lenO rfl g0 Try.underlying41) (by decide) trivial ?_
  refine st_val (ex_lss rfl rfl) (by decide) trivial ?_
  refine wpF_end (r := [(0, u0), (1, (.func (.func 88) #[] #[])), (10, (.bool (decide ((p0.length : Int) < 2))))]) ⟨rfl, rfl, rfl, trivial⟩ ?_
  refine nx ?_
  refine wpC_cond rfl (fun t1 => ?_) (fun t1 => ?_)
  · rw [if_pos t1] at hF
    refine wpC_seq ?_
    refine wpC_region ?_
    refine st_val (ex_move rfl) (by decide) trivial ?_
    refine st_val (ex_assign rfl) (by decide) trivial ?_
    refine wpF_end (r := [(4, u0)]) ⟨rfl, trivial⟩ ?_
    refine nx ?_
    refine wpC_ret ?_
    refine nt_ret ?_
    have e2 := Option.some.inj hF
    subst e2
    refine ret_post (P := Try.prog) (vs := [u0]) Try.results138 ⟨rfl, trivial⟩ ?_
    exact ⟨_, o, rfl, g0, hB, hS⟩
  · rw [if_neg (by rw [t1]; decide)] at hF
    refine wpC_skip ?_
    refine nx ?_
    refine wpC_seq ?_
    refine wpC_seq ?_
    refine wpC_region ?_
    refine st_val (ex_assign rfl) (by decide) trivial ?_
    refine wpF_end (r := [(0, u0), (1, (.func (.func 88) #[] #[])), (5, (.int .i64 1))]) ⟨rfl, rfl, rfl, trivial⟩ ?_
    refine nx ?_
    obtain ⟨q8, hq8, hF⟩ := bind_some hF
    refine wpC_cutN (fun a w7 => ∃ (y3 : List Pv) (y5 : Int) (o6 : Tg), q8 = .inl (y3, y5) ∧ Fr a 66 [(0, u0)] ∧ Bs oo o6 w w7 ∧ Stp 10 o w1 o6 w7 ∧ Ow w.heap.size 23 10 o6 w7 u0 y3) (fun a w' => ∃ r', q8 = .inr r' ∧ bodyPost Try.prog Try.f138 (pX_slices_CompactFunc_LLint_int oo o w w1 r') .ret a w') ?_ ?_ ?_
    · refine wpC_block ?_
      refine wpC_loop (fun (K : Nat) a w7 => ∃ (y3 : List Pv) (y5 : Int) (o6 : Tg), loopF (fX_slices_CompactFunc_LLint_int_s1 fuel) K (y3, y5) = some q8 ∧ Fr a 66 [(0, u0), (1, (.func (.func 88) #[] #[])), (5, (.int .i64 y5))] ∧ Bs oo o6 w w7 ∧ Stp 10 o w1 o6 w7 ∧ Ow w.heap.size 23 10 o6 w7 u0 y3) fuel (fun a ha => ⟨p0, 1, o, hq8, ha.sub (r := [(0, u0), (1, (.func (.func 88) #[] #[])), (5, (.int .i64 1))]) ⟨rfl, rfl, rfl, trivial⟩, hB, hS, g0⟩) ?_
      rintro K12 a w7 ⟨y3, y5, o6, l9, ha, hB, hS, h4⟩
      obtain ⟨K16, q13, e17, b14, n15⟩ := loopF_cons l9
      dsimp only [fX_slices_CompactFunc_LLint_int_s1] at b14
      refine wp_of ha ?_
      refine wpC_seq ?_
      refine wpC_seq ?_
      refine wpC_region ?_
      refine st_val (ex_move rfl) (by decide) trivial ?_
      refine st_val (ex_move rfl) (by decide) trivial ?_
      refine st_val (ex_lenO rfl h4 Try.underlying41) (by decide) trivial ?_
      refine st_val (ex_lss rfl rfl) (by decide) trivial ?_
      refine wpF_end (r := [(0, u0), (1, (.func (.func 88) #[] #[])), (5, (.int .i64 y5)), (15, (.bool (decide (y5 < (y3.length : Int)))))]) ⟨rfl, rfl, rfl, rfl, trivial⟩ ?_
      refine nx ?_
      refine wpC_cond rfl (fun t18 => ?_) (fun t18 => ?_)
      · rw [if_pos t18] at b14
        refine wpC_skip ?_
        refine nx ?_
        refine wpC_seq ?_
        refine wpC_block ?_
        refine wpC_seq ?_
        obtain ⟨x19, hx19, b14⟩ := bind_some b14
        obtain ⟨x24, hx24, b14⟩ := bind_some b14
        obtain ⟨x25, hx25, b14⟩ := bind_some b14
        refine wpC_drawn (o := o6) [(0, u0), (1, (.func (.func 88) #[] #[])), (5, (.int .i64 y5))] [0, 1, 5] [18, 19, 20, 21, 22, 23, 24, 25, 26, 27] [[], [], [], [1, 2], [3], [], [], [6], [5, 7], [8]] [none, none, none, none, none, none, none, none, none, none] [999, 999, 999, 999, 999, 999, 999, 999, 999, 999] [0, 0, 0, 10, 0, 0, 0, 0, 10, 0] [999] [fun v _ _ => v = (.func (.func 88) #[] #[]), fun v _ _ => v = u0, fun v _ _ => v = (.int .i64 y5), fun v o w9 => ∃ vl, v = adr vl (y5.toNat * Rp.sz Pv) ∧ Ow w.heap.size 23 10 o w9 vl y3, fun v o w9 => RdL o w9 v (x19.x : List Int), fun v _ _ => v = u0, fun v _ _ => v = (.int .i64 y5), fun v _ _ => v = (.int .i64 x24), fun v o w9 => ∃ vl, v = adr vl (x24.toNat * Rp.sz Pv) ∧ Ow w.heap.size 23 10 o w9 vl y3, fun v o w9 => RdL o w9 v (x25.x : List Int)] (fun o8 w8 => Bs oo o8 w w8 ∧ Stp 10 o w1 o8 w8 ∧ Ow w.heap.size 23 10 o8 w8 u0 y3) follows_mixed (by kernel_rfl) rfl ⟨rfl, rfl, rfl, trivial⟩ ⟨hB, hS, h4⟩ ?_ ⟨st_eq _, st_eq _, st_eq _, fun _ _ _ _ _ _ h0 hb ⟨vl, e, h⟩ hs => ⟨vl, e, h.stp hs h0.1 (Ne.symm hb)⟩, fun _ _ _ _ _ _ h0 hb h hs => h.stp hs h0.1, st_eq _, st_eq _, st_eq _, fun _ _ _ _ _ _ h0 hb ⟨vl, e, h⟩ hs => ⟨vl, e, h.stp hs h0.1 (Ne.symm hb)⟩, fun _ _ _ _ _ _ h0 hb h hs => h.stp hs h0.1, trivial⟩ ?_ ?_
        · rintro t9 o1 w1 o2 w2 ht9 ⟨hB, hS, h4⟩ hs9
          have ht9 : t9 = 999 := by simpa using ht9
          subst ht9
          all_goals exact ⟨hB.stp hs9 (by decide), hS.tr9 hO hs9, h4.stp hs9 (by decide) (by decide)⟩
        · refine ⟨?_, ?_, ?_, ?_, ?_, ?_, ?_, ?_, ?_, ?_, trivial⟩
          · rintro o30 w31 a32 ha ⟨hB, hS, h4⟩ -
            refine opS_of ha (trivial) ?_
            refine op1_val (ex_move rfl) ?_
            exact ⟨_, Stp.refl _ _ _, rfl⟩
          · rintro o33 w34 a35 ha ⟨hB, hS, h4⟩ -
            refine opS_of ha (trivial) ?_
            refine op1_val (ex_move rfl) ?_
            exact ⟨_, Stp.refl _ _ _, rfl⟩
          · rintro o36 w37 a38 ha ⟨hB, hS, h4⟩ -
            refine opS_of ha (trivial) ?_
            refine op1_val (ex_move rfl) ?_
            exact ⟨_, Stp.refl _ _ _, rfl⟩
          · rintro o39 w40 a41 ha ⟨hB, hS, h4⟩ ⟨r42, r43, -⟩
            have ha := Fr.cons (d := 19) ha r42
            have ha := Fr.cons (d := 20) ha r43
            refine opS_of ha (trivial) ?_
            refine wd_indexW h4 hx19 rfl rfl Try.underlying41 Try.sizeOf23 ?_
            exact ⟨_, Stp.refl _ _ _, ⟨_, rfl, h4⟩⟩
          · rintro o44 w45 a46 ha ⟨hB, hS, h4⟩ ⟨r47, -⟩
            obtain ⟨v48, e49, h50⟩ := r47
            have ha := Fr.cons (d := 21) ha e49
            refine opS_of ha (trivial) ?_
            refine wd_load1W h50 hx19 rfl rfl Try.isAgg23 ?_
            intro c51 h52
            obtain ⟨e53, -, h54⟩ := h52
            cases e53
            exact ⟨_, Stp.refl _ _ _, h54⟩
          · rintro o55 w56 a57 ha ⟨hB, hS, h4⟩ -
            refine opS_of ha (trivial) ?_
            refine op1_val (ex_move rfl) ?_
            exact ⟨_, Stp.refl _ _ _, rfl⟩
          · rintro o58 w59 a60 ha ⟨hB, hS, h4⟩ -
            refine opS_of ha (trivial) ?_
            refine op1_val (ex_move rfl) ?_
            exact ⟨_, Stp.refl _ _ _, rfl⟩
          · rintro o61 w62 a63 ha ⟨hB, hS, h4⟩ ⟨r64, -⟩
            have ha := Fr.cons (d := 24) ha r64
            refine opS_of ha (trivial) ?_
            refine op1_val (ex_sub rfl rfl hx24) ?_
            exact ⟨_, Stp.refl _ _ _, rfl⟩
          · rintro o65 w66 a67 ha ⟨hB, hS, h4⟩ ⟨r68, r69, -⟩
            have ha := Fr.cons (d := 23) ha r68
            have ha := Fr.cons (d := 25) ha r69
            refine opS_of ha (trivial) ?_
            refine wd_indexW h4 hx25 rfl rfl Try.underlying41 Try.sizeOf23 ?_
            exact ⟨_, Stp.refl _ _ _, ⟨_, rfl, h4⟩⟩
          · rintro o70 w71 a72 ha ⟨hB, hS, h4⟩ ⟨r73, -⟩
            obtain ⟨v74, e75, h76⟩ := r73
            have ha := Fr.cons (d := 26) ha e75
            refine opS_of ha (trivial) ?_
            refine wd_load1W h76 hx25 rfl rfl Try.isAgg23 ?_
            intro c77 h78
            obtain ⟨e79, -, h80⟩ := h78
            cases e79
            exact ⟨_, Stp.refl _ _ _, h80⟩
        rintro o81 w82 a83 ha ⟨hB, hS, h4⟩ ⟨r84, -, -, -, r85, -, -, -, -, r86, -⟩
        have ha := Fr.cons (d := 18) ha r84
        replace r85 : RdL o81 w82 (a83.tmps.getD 22 undef) (x19.x : List Int) := r85
        generalize e88 : a83.tmps.getD 22 undef = v87 at r85
        have ha := Fr.cons (d := 22) ha e88
        replace r86 : RdL o81 w82 (a83.tmps.getD 27 undef) (x25.x : List Int) := r86
        generalize e90 : a83.tmps.getD 27 undef = v89 at r86
        have ha := Fr.cons (d := 27) ha e90
        refine wl_of ha ?_
        simp only [List.length_cons, List.length_nil, Nat.zero_add, Nat.reduceAdd, List.drop_succ_cons, List.drop_zero]
        obtain ⟨x91, hx91, b14⟩ := bind_some b14
        refine st_op (by decide) trivial ?_
        refine wf_callt (cX_slices_Equal_int_int w82 _ x19.x r85.z _ x25.x r86.z x91 hx91) Try.call88 rfl ⟨rfl, rfl, trivial⟩ ?_
        rintro e96 w92 ⟨rfl, k93⟩
        have s95 := k93.stp 999 o81
        refine ⟨_, rfl, ?_⟩
        replace hS := hS.tr9 hO s95
        replace h4 := h4.stp s95 (by decide) (by decide)
        replace r85 := r85.stp s95 (by decide)
        replace r86 := r86.stp s95 (by decide)
        replace hB := hB.stp s95 (by decide)
        refine wpF_end (r := [(0, u0), (1, (.func (.func 88) #[] #[])), (5, (.int .i64 y5)), (28, (.bool x91))]) ⟨rfl, rfl, rfl, rfl, trivial⟩ ?_
        refine nx ?_
        refine wpC_cond rfl (fun t97 => ?_) (fun t97 => ?_)
        · rw [if_pos t97] at b14
          refine wpC_seq ?_
          refine wpC_region ?_
          refine st_val (ex_move rfl) (by decide) trivial ?_
          refine st_val (ex_move rfl) (by decide) trivial ?_
          obtain ⟨x98, hx98, b14⟩ := bind_some b14
          refine st_op (by decide) trivial ?_
          refine wf_cutSub h4 hx98 rfl rfl Try.underlying41 Try.sizeOf23 ?_
          refine st_val (ex_assign rfl) (by decide) trivial ?_
          refine wpF_end (r := [(0, u0), (1, (.func (.func 88) #[] #[])), (5, (.int .i64 y5)), (6, (subv u0 y5.toNat))]) ⟨rfl, rfl, rfl, rfl, trivial⟩ ?_
          refine nx ?_
          refine wpC_seq ?_
          refine wpC_seq ?_
          refine wpC_region ?_
          refine st_val (ex_assign rfl) (by decide) trivial ?_
          refine wpF_end (r := [(0, u0), (1, (.func (.func 88) #[] #[])), (5, (.int .i64 y5)), (6, (subv u0 y5.toNat)), (7, (.int .i64 1))]) ⟨rfl, rfl, rfl, rfl, rfl, trivial⟩ ?_
          refine nx ?_
          obtain ⟨q105, hq105, b14⟩ := bind_some b14
          refine wpC_cutN (fun a w104 => ∃ (y99 : List Pv) (y101 : Int) (y102 : Int) (o103 : Tg), q105 = .inl (y99, y101, y102) ∧ Fr a 66 [(0, u0), (5, (.int .i64 y101))] ∧ Bs oo o103 w w104 ∧ Stp 10 o w1 o103 w104 ∧ Ow w.heap.size 23 10 o103 w104 u0 y99) (fun _ _ => False) ?_ ?_ ?_
          · refine wpC_block ?_
            refine wpC_loop (fun (K : Nat) a w104 => ∃ (y99 : List Pv) (y101 : Int) (y102 : Int) (o103 : Tg), loopF (fX_slices_CompactFunc_LLint_int_s2 y5) K (y99, y101, y102) = some q105 ∧ Fr a 66 [(0, u0), (1, (.func (.func 88) #[] #[])), (5, (.int .i64 y101)), (6, (subv u0 y5.toNat)), (7, (.int .i64 y102))] ∧ Bs oo o103 w w104 ∧ Stp 10 o w1 o103 w104 ∧ Ow w.heap.size 23 10 o103 w104 u0 y99) fuel (fun a ha => ⟨y3, y5, 1, o81, hq105, ha.sub (r := [(0, u0), (1, (.func (.func 88) #[] #[])), (5, (.int .i64 y5)), (6, (subv u0 y5.toNat)), (7, (.int .i64 1))]) ⟨rfl, rfl, rfl, rfl, rfl, trivial⟩, hB, hS, h4⟩) ?_
            rintro K109 a w104 ⟨y99, y101, y102, o103, l106, ha, hB, hS, h100⟩
            obtain ⟨K113, q110, e114, b111, n112⟩ := loopF_cons l106
            dsimp only [fX_slices_CompactFunc_LLint_int_s2] at b111
            refine wp_of ha ?_
            refine wpC_seq ?_
            refine wpC_seq ?_
            refine wpC_region ?_
            refine st_val (ex_move rfl) (by decide) trivial ?_
            refine st_val (ex_move rfl) (by decide) trivial ?_
            obtain ⟨x115, hx115, b111⟩ := bind_some b111
            refine st_val (ex_lenSub h100 hx115 rfl Try.underlying41) (by decide) trivial ?_
            refine st_val (ex_lss rfl rfl) (by decide) trivial ?_
            refine wpF_end (r := [(0, u0), (1, (.func (.func 88) #[] #[])), (5, (.int .i64 y101)), (6, (subv u0 y5.toNat)), (7, (.int .i64 y102)), (35, (.bool (decide (y102 < ((y99.length : Int) - y5)))))]) ⟨rfl, rfl, rfl, rfl, rfl, rfl, trivial⟩ ?_
            refine nx ?_
            refine wpC_cond rfl (fun t116 => ?_) (fun t116 => ?_)
            · rw [if_pos t116] at b111
              refine wpC_skip ?_
              refine nx ?_
              refine wpC_seq ?_
              refine wpC_block ?_
              refine wpC_seq ?_
              obtain ⟨x117, hx117, b111⟩ := bind_some b111
              obtain ⟨x118, hx118, b111⟩ := bind_some b111
              obtain ⟨x119, hx119, b111⟩ := bind_some b111
              obtain ⟨x124, hx124, b111⟩ := bind_some b111
              obtain ⟨x125, hx125, b111⟩ := bind_some b111
              obtain ⟨x126, hx126, b111⟩ := bind_some b111
              obtain ⟨x127, hx127, b111⟩ := bind_some b111
              refine wpC_drawn (o := o103) [(0, u0), (1, (.func (.func 88) #[] #[])), (5, (.int .i64 y101)), (6, (subv u0 y5.toNat)), (7, (.int .i64 y102))] [0, 1, 5, 6, 7] [38, 39, 40, 41, 42, 43, 44, 45, 46, 47] [[], [], [], [1, 2], [3], [], [], [6], [5, 7], [8]] [none, none, none, none, none, none, none, none, none, none] [999, 999, 999, 999, 999, 999, 999, 999, 999, 999] [0, 0, 0, 10, 0, 0, 0, 0, 10, 0] [999] [fun v _ _ => v = (.func (.func 88) #[] #[]), fun v _ _ => v = (subv u0 y5.toNat), fun v _ _ => v = (.int .i64 y102), fun v o w9 => ∃ vl, v = adr vl ((y5 + y102).toNat * Rp.sz Pv) ∧ Ow w.heap.size 23 10 o w9 vl y99, fun v o w9 => RdL o w9 v (x117.x : List Int), fun v _ _ => v = (subv u0 y5.toNat), fun v _ _ => v = (.int .i64 y102), fun v _ _ => v = (.int .i64 x124), fun v o w9 => ∃ vl, v = adr vl ((y5 + x124).toNat * Rp.sz Pv) ∧ Ow w.heap.size 23 10 o w9 vl y99, fun v o w9 => RdL o w9 v (x125.x : List Int)] (fun o8 w8 => Bs oo o8 w w8 ∧ Stp 10 o w1 o8 w8 ∧ Ow w.heap.size 23 10 o8 w8 u0 y99) follows_mixed (by kernel_rfl) rfl ⟨rfl, rfl, rfl, rfl, rfl, trivial⟩ ⟨hB, hS, h100⟩ ?_ ⟨st_eq _, st_eq _, st_eq _, fun _ _ _ _ _ _ h0 hb ⟨vl, e, h⟩ hs => ⟨vl, e, h.stp hs h0.1 (Ne.symm hb)⟩, fun _ _ _ _ _ _ h0 hb h hs => h.stp hs h0.1, st_eq _, st_eq _, st_eq _, fun _ _ _ _ _ _ h0 hb ⟨vl, e, h⟩ hs => ⟨vl, e, h.stp hs h0.1 (Ne.symm hb)⟩, fun _ _ _ _ _ _ h0 hb h hs => h.stp hs h0.1, trivial⟩ ?_ ?_
              · rintro t9 o1 w1 o2 w2 ht9 ⟨hB, hS, h100⟩ hs9
                have ht9 : t9 = 999 := by simpa using ht9
                subst ht9
                all_goals exact ⟨hB.stp hs9 (by decide), hS.tr9 hO hs9, h100.stp hs9 (by decide) (by decide)⟩
              · refine ⟨?_, ?_, ?_, ?_, ?_, ?_, ?_, ?_, ?_, ?_, trivial⟩
                · rintro o132 w133 a134 ha ⟨hB, hS, h100⟩ -
                  refine opS_of ha (trivial) ?_
                  refine op1_val (ex_move rfl) ?_
                  exact ⟨_, Stp.refl _ _ _, rfl⟩
                · rintro o135 w136 a137 ha ⟨hB, hS, h100⟩ -
                  refine opS_of ha (trivial) ?_
                  refine op1_val (ex_move rfl) ?_
                  exact ⟨_, Stp.refl _ _ _, rfl⟩
                · rintro o138 w139 a140 ha ⟨hB, hS, h100⟩ -
                  refine opS_of ha (trivial) ?_
                  refine op1_val (ex_move rfl) ?_
                  exact ⟨_, Stp.refl _ _ _, rfl⟩
                · rintro o141 w142 a143 ha ⟨hB, hS, h100⟩ ⟨r144, r145, -⟩
                  have ha := Fr.cons (d := 39) ha r144
                  have ha := Fr.cons (d := 40) ha r145
                  refine opS_of ha (trivial) ?_
                  refine wd_indexSub h100 hx119 hx117 (nn_some hx118) rfl rfl Try.underlying41 Try.sizeOf23 ?_
                  exact ⟨_, Stp.refl _ _ _, ⟨_, rfl, h100⟩⟩
                · rintro o146 w147 a148 ha ⟨hB, hS, h100⟩ ⟨r149, -⟩
                  obtain ⟨v150, e151, h152⟩ := r149
                  have ha := Fr.cons (d := 41) ha e151
                  refine opS_of ha (trivial) ?_
                  refine wd_load1W h152 hx117 rfl rfl Try.isAgg23 ?_
                  intro c153 h154
                  obtain ⟨e155, -, h156⟩ := h154
                  cases e155
                  exact ⟨_, Stp.refl _ _ _, h156⟩
                · rintro o157 w158 a159 ha ⟨hB, hS, h100⟩ -
                  refine opS_of ha (trivial) ?_
                  refine op1_val (ex_move rfl) ?_
                  exact ⟨_, Stp.refl _ _ _, rfl⟩
                · rintro o160 w161 a162 ha ⟨hB, hS, h100⟩ -
                  refine opS_of ha (trivial) ?_
                  refine op1_val (ex_move rfl) ?_
                  exact ⟨_, Stp.refl _ _ _, rfl⟩
                · rintro o163 w164 a165 ha ⟨hB, hS, h100⟩ ⟨r166, -⟩
                  have ha := Fr.cons (d := 44) ha r166
                  refine opS_of ha (trivial) ?_
                  refine op1_val (ex_sub rfl rfl hx124) ?_
                  exact ⟨_, Stp.refl _ _ _, rfl⟩
                · rintro o167 w168 a169 ha ⟨hB, hS, h100⟩ ⟨r170, r171, -⟩
                  have ha := Fr.cons (d := 43) ha r170
                  have ha := Fr.cons (d := 45) ha r171
                  refine opS_of ha (trivial) ?_
                  refine wd_indexSub h100 hx127 hx125 (nn_some hx126) rfl rfl Try.underlying41 Try.sizeOf23 ?_
                  exact ⟨_, Stp.refl _ _ _, ⟨_, rfl, h100⟩⟩
                · rintro o172 w173 a174 ha ⟨hB, hS, h100⟩ ⟨r175, -⟩
                  obtain ⟨v176, e177, h178⟩ := r175
                  have ha := Fr.cons (d := 46) ha e177
                  refine opS_of ha (trivial) ?_
                  refine wd_load1W h178 hx125 rfl rfl Try.isAgg23 ?_
                  intro c179 h180
                  obtain ⟨e181, -, h182⟩ := h180
                  cases e181
                  exact ⟨_, Stp.refl _ _ _, h182⟩
              rintro o183 w184 a185 ha ⟨hB, hS, h100⟩ ⟨r186, -, -, -, r187, -, -, -, -, r188, -⟩
              have ha := Fr.cons (d := 38) ha r186
              replace r187 : RdL o183 w184 (a185.tmps.getD 42 undef) (x117.x : List Int) := r187
              generalize e190 : a185.tmps.getD 42 undef = v189 at r187
              have ha := Fr.cons (d := 42) ha e190
              replace r188 : RdL o183 w184 (a185.tmps.getD 47 undef) (x125.x : List Int) := r188
              generalize e192 : a185.tmps.getD 47 undef = v191 at r188
              have ha := Fr.cons (d := 47) ha e192
              refine wl_of ha ?_
              simp only [List.length_cons, List.length_nil, Nat.zero_add, Nat.reduceAdd, List.drop_succ_cons, List.drop_zero]
              obtain ⟨x193, hx193, b111⟩ := bind_some b111
              refine st_op (by decide) trivial ?_
              refine wf_callt (cX_slices_Equal_int_int w184 _ x117.x r187.z _ x125.x r188.z x193 hx193) Try.call88 rfl ⟨rfl, rfl, trivial⟩ ?_
              rintro e198 w194 ⟨rfl, k195⟩
              have s197 := k195.stp 999 o183
              refine ⟨_, rfl, ?_⟩
              replace hS := hS.tr9 hO s197
              replace h100 := h100.stp s197 (by decide) (by decide)
              replace r187 := r187.stp s197 (by decide)
              replace r188 := r188.stp s197 (by decide)
              replace hB := hB.stp s197 (by decide)
              refine st_val (ex_not rfl) (by decide) trivial ?_
              refine wpF_end (r := [(0, u0), (1, (.func (.func 88) #[] #[])), (5, (.int .i64 y101)), (6, (subv u0 y5.toNat)), (7, (.int .i64 y102)), (49, (.bool (!x193)))]) ⟨rfl, rfl, rfl, rfl, rfl, rfl, trivial⟩ ?_
              refine nx ?_
              refine wpC_cond rfl (fun t199 => ?_) (fun t199 => ?_)
              · rw [if_pos t199] at b111
                refine wpC_seq ?_
                refine wpC_region ?_
                refine st_val (ex_move rfl) (by decide) trivial ?_
                refine st_val (ex_move rfl) (by decide) trivial ?_
                refine st_val (ex_move rfl) (by decide) trivial ?_
                refine st_val (ex_move rfl) (by decide) trivial ?_
                obtain ⟨x200, hx200, b111⟩ := bind_some b111
                obtain ⟨x201, hx201, b111⟩ := bind_some b111
                obtain ⟨x202, hx202, b111⟩ := bind_some b111
                refine st_op (by decide) trivial ?_
                refine wf_atSub h100 hx202 hx200 (nn_some hx201) rfl rfl Try.underlying41 Try.sizeOf23 ?_
                intro b203 f204 c205 h206 h207
                obtain ⟨rfl, -, h208⟩ := h207
                refine st_val (ex_load1 rfl Try.isAgg23 (cell_of_cells h206)) (by decide) trivial ?_
                obtain ⟨x209, hx209, b111⟩ := bind_some b111
                refine st_op (by decide) trivial ?_
                refine wf_atP h100 hx209 rfl rfl Try.underlying41 Try.sizeOf23 ?_
                intro b210 c212 h215 h213 h214
                obtain ⟨rfl, -, h216⟩ := h214
                obtain ⟨x219, hx219, b111⟩ := bind_some b111
                refine st_op0 trivial ?_
                refine wf_storeW h100 h215 hx219 (rd_pv h208) (by decide) rfl rfl rfl Try.sizeOf23 h208.cells1 ?_
                intro w217 h220 s218
                replace hS := hS.trans s218
                replace h208 := h208.stp s218 (by decide)
                replace h216 := h216.stp s218 (by decide)
                replace hB := hB.stp s218 (by decide)
                refine wpF_end (r := [(0, u0), (1, (.func (.func 88) #[] #[])), (5, (.int .i64 y101)), (6, (subv u0 y5.toNat)), (7, (.int .i64 y102))]) ⟨rfl, rfl, rfl, rfl, rfl, trivial⟩ ?_
                refine nx ?_
                refine wpC_region ?_
                refine st_val (ex_move rfl) (by decide) trivial ?_
                obtain ⟨x221, hx221, b111⟩ := bind_some b111
                refine st_val (ex_add rfl rfl hx221) (by decide) trivial ?_
                refine st_val (ex_assign rfl) (by decide) trivial ?_
                refine wpF_end (r := [(0, u0), (1, (.func (.func 88) #[] #[])), (5, (.int .i64 x221)), (6, (subv u0 y5.toNat)), (7, (.int .i64 y102))]) ⟨rfl, rfl, rfl, rfl, rfl, trivial⟩ ?_
                refine nb_norm ?_
                refine nx ?_
                refine wpC_region ?_
                refine st_val (ex_move rfl) (by decide) trivial ?_
                obtain ⟨x222, hx222, b111⟩ := bind_some b111
                refine st_val (ex_add rfl rfl hx222) (by decide) trivial ?_
                refine st_val (ex_assign rfl) (by decide) trivial ?_
                refine wpF_end (r := [(0, u0), (1, (.func (.func 88) #[] #[])), (5, (.int .i64 x221)), (6, (subv u0 y5.toNat)), (7, (.int .i64 x222))]) ⟨rfl, rfl, rfl, rfl, rfl, trivial⟩ ?_
                refine nt_norm ?_
                have e223 := Option.some.inj b111
                subst e223
                refine to_k (r := [(0, u0), (1, (.func (.func 88) #[] #[])), (5, (.int .i64 x221)), (6, (subv u0 y5.toNat)), (7, (.int .i64 x222))]) ⟨rfl, rfl, rfl, rfl, rfl, trivial⟩ ?_
                intro a ha
                exact ⟨K113, by omega, x219, x221, x222, o183, n112, ha, hB, hS, h220⟩
              · rw [if_neg (by rw [t199]; decide)] at b111
                refine wpC_skip ?_
                refine nb_norm ?_
                refine nx ?_
                refine wpC_region ?_
                refine st_val (ex_move rfl) (by decide) trivial ?_
                obtain ⟨x224, hx224, b111⟩ := bind_some b111
                refine st_val (ex_add rfl rfl hx224) (by decide) trivial ?_
                refine st_val (ex_assign rfl) (by decide) trivial ?_
                refine wpF_end (r := [(0, u0), (1, (.func (.func 88) #[] #[])), (5, (.int .i64 y101)), (6, (subv u0 y5.toNat)), (7, (.int .i64 x224))]) ⟨rfl, rfl, rfl, rfl, rfl, trivial⟩ ?_
                refine nt_norm ?_
                have e225 := Option.some.inj b111
                subst e225
                refine to_k (r := [(0, u0), (1, (.func (.func 88) #[] #[])), (5, (.int .i64 y101)), (6, (subv u0 y5.toNat)), (7, (.int .i64 x224))]) ⟨rfl, rfl, rfl, rfl, rfl, trivial⟩ ?_
                intro a ha
                exact ⟨K113, by omega, y99, y101, x224, o183, n112, ha, hB, hS, h100⟩
            · rw [if_neg (by rw [t116]; decide)] at b111
              refine wpC_exit ?_
              refine nt_exit ?_
              refine nt_exit ?_
              refine nb_hit ?_
              refine np_norm ?_
              have e226 := Option.some.inj b111
              subst e226
              refine to_k (r := [(0, u0), (5, (.int .i64 y101))]) ⟨rfl, rfl, trivial⟩ ?_
              intro a ha
              exact ⟨y99, y101, y102, o103, n112, ha, hB, hS, h100⟩
          · rintro a w104 ⟨y99, y101, y102, o103, rfl, ha, hB, hS, h100⟩
            dsimp only at b14
            refine ap_k ha ?_
            refine nx ?_
            refine wpC_seq ?_
            refine wpC_region ?_
            refine st_val (ex_move rfl) (by decide) trivial ?_
            refine st_val (ex_move rfl) (by decide) trivial ?_
            obtain ⟨x227, hx227, b14⟩ := bind_some b14
            refine st_op (by decide) trivial ?_
            refine wf_cutSub h100 hx227 rfl rfl Try.underlying41 Try.sizeOf23 ?_
            obtain ⟨x228, hx228, b14⟩ := bind_some b14
            obtain ⟨x229, hx229, b14⟩ := bind_some b14
            have h234 := pre_form h100 hx229
            refine st_op0 trivial ?_
            refine wf_clearSub h100 hx228 hx229 (by decide) rfl Try.underlying41 Try.zeroValue23 ?_
            intro w230 v231 h232 s233
            replace hS := hS.trans s233
            replace hB := hB.stp s233 (by decide)
            refine wpF_end (r := [(0, u0), (5, (.int .i64 y101))]) ⟨rfl, rfl, trivial⟩ ?_
            refine nx ?_
            refine wpC_seq ?_
            refine wpC_region ?_
            refine st_val (ex_move rfl) (by decide) trivial ?_
            refine st_val (ex_move rfl) (by decide) trivial ?_
            refine st_val (ex_cutPre h234 rfl rfl Try.underlying41 Try.sizeOf23) (by decide) trivial ?_
            refine st_val (ex_assign rfl) (by decide) trivial ?_
            refine wpF_end (r := [(4, (prev u0 y101.toNat))]) ⟨rfl, trivial⟩ ?_
            refine nx ?_
            refine wpC_ret ?_
            refine nb_ret ?_
            refine nt_ret ?_
            refine nt_ret ?_
            refine nb_ret ?_
            refine np_ret ?_
            have e236 := Option.some.inj b14
            subst e236
            refine fun a ha => ⟨_, n15, ?_⟩
            refine ret_post (P := Try.prog) (vs := [(prev u0 y101.toNat)]) Try.results138 ⟨rfl, trivial⟩ ?_ a ha
            exact ⟨_, o103, rfl, h232, hB, hS⟩
          · exact fun _ _ h => h.elim
        · rw [if_neg (by rw [t97]; decide)] at b14
          refine wpC_skip ?_
          refine nb_norm ?_
          refine nx ?_
          refine wpC_region ?_
          refine st_val (ex_move rfl) (by decide) trivial ?_
          obtain ⟨x237, hx237, b14⟩ := bind_some b14
          refine st_val (ex_add rfl rfl hx237) (by decide) trivial ?_
          refine st_val (ex_assign rfl) (by decide) trivial ?_
          refine wpF_end (r := [(0, u0), (1, (.func (.func 88) #[] #[])), (5, (.int .i64 x237))]) ⟨rfl, rfl, rfl, trivial⟩ ?_
          refine nt_norm ?_
          have e238 := Option.some.inj b14
          subst e238
          refine to_k (r := [(0, u0), (1, (.func (.func 88) #[] #[])), (5, (.int .i64 x237))]) ⟨rfl, rfl, rfl, trivial⟩ ?_
          intro a ha
          exact ⟨K16, by omega, y3, x237, o81, n15, ha, hB, hS, h4⟩
      · rw [if_neg (by rw [t18]; decide)] at b14
        refine wpC_exit ?_
        refine nt_exit ?_
        refine nt_exit ?_
        refine nb_hit ?_
        refine np_norm ?_
        have e239 := Option.some.inj b14
        subst e239
        refine to_k (r := [(0, u0)]) ⟨rfl, trivial⟩ ?_
        intro a ha
        exact ⟨y3, y5, o6, n15, ha, hB, hS, h4⟩
    · rintro a w7 ⟨y3, y5, o6, rfl, ha, hB, hS, h4⟩
      dsimp only at hF
      refine ap_k ha ?_
      refine nx ?_
      refine wpC_seq ?_
      refine wpC_region ?_
      refine st_val (ex_move rfl) (by decide) trivial ?_
      refine st_val (ex_assign rfl) (by decide) trivial ?_
      refine wpF_end (r := [(4, u0)]) ⟨rfl, trivial⟩ ?_
      refine nx ?_
      refine wpC_ret ?_
      have e240 := Option.some.inj hF
      subst e240
      refine ret_post (P := Try.prog) (vs := [u0]) Try.results138 ⟨rfl, trivial⟩ ?_
      exact ⟨_, o6, rfl, h4, hB, hS⟩
    · rintro a w7 ⟨r', rfl, b241⟩
      dsimp only at hF
      have e242 := Option.some.inj hF
      subst e242
      exact b241

end Go.Proofs.Ytijaojnaamkinaa
