/- Part 25 of what this claim rests on (GEv, Elk, Lqb), packed by pack.py. -/
import Derived.Test.YtdbbeldgdgonfaaGreatP03
import Derived.Test.YtdbbeldgdgonfaaGreatP20
import Derived.Test.YtdbbeldgdgonfaaGreatP22
import Derived.Test.YtdbbeldgdgonfaaGreatP23
import Derived.Test.YtdbbeldgdgonfaaGreatP24
namespace Go.Proofs.YtdbbeldgdgonfaaGreat
set_option linter.unusedSimpArgs false
set_option linter.unusedVariables false

section
set_option maxRecDepth 100000
set_option maxHeartbeats 2000000
open Go.RowKit
theorem fI_ : Inf Tryz.prog 28 (.agg #[(.int .i64 0), (.int .i64 0), (.slice none 0 0), (.slice none 0 0)]) 4 64 := by unfold Inf; kernel_rfl
theorem du_ : (Tryz.prog.info? 28).map (·.size) = some 4 := by kernel_rfl
theorem iD_ : Inf Tryz.prog 41 (.slice none 0 0) 1 24 := by unfold Inf; kernel_rfl
def cI_ (f : List (List Int)) : Int → (List (List Int)) → Option (Lp (List (List Int)) (List (List Int)) (List (List Int))) := fun (a : Int) (s : List (List Int)) =>
  (ix f a) >>= fun b =>
  (ag_ b) >>= fun c =>
  (ix s a) >>= fun g =>
  (st s a c) >>= fun d =>
  some (.go d)
def cB_ (a : List (List Int)) : Option (List (List Int)) :=
  (mk ([] : List Int) (a.length : Int)) >>= fun c =>
  ck (a.length : Int) >>= fun _ =>
  (forN (cI_ a) ((a.length : Int)).toNat 0 c) >>= fun b =>
  match b with
  | .inl d =>
    some d
  | .inr _ => none
def kV_ (oo : Tg) (t : Nat) (w : World) (r : Yk) : Ending → World → Prop := fun e w' => ∃ (a : Value) (c : List Hv) (o' : Tg), e = .returned (a) ∧ Ow w.heap.size 41 t o' w' a c ∧ Rws w.heap.size 3 (t + 1) o' w' c r ∧ Keeps w w' ∧ ∀ b, b < w.heap.size → o' b = oo b
theorem lA_ (w : World) (oo : Tg) (t : Nat) (ht : 2 ≤ t) (u : Value) (k : Yk) (N : RdL zt w u k) (r : Yk) (hF : cB_ k = some r) :
    Calls Tryz.prog 77 #[u] w (kV_ oo t w r) := by
 unfold cB_ at hF; have hB : Bs oo (col oo) w w := Bs.start _ _; refine h_ (n := 23) (vs := [u]) Tryz.func77 rfl rfl ?_; generalize col oo = o at *; refine Zq (Za rfl (Ze [(0, u)] (Zn (Zm rfl (Zv (H_ rfl N Tryz.underlying22) ?_))))); obtain ⟨b1, O, hF⟩ := bind_some hF; obtain ⟨b2, P⟩ := su_ O w.heap.size 3 12 o w; refine Zo ?_; refine iK_ (o := o) w.heap.size 11 hB.keeps.size b2 rfl rfl Tryz.underlying22 iD_ rfl (by decide) ?_; intro b3 d2 q b4 b0; replace P := P.stp b0; replace hB := hB.stp b0; refine Za rfl (Ze [(0, u), (3, q)] (nx (b_ (Zq (Zm rfl (Zv (H_ rfl N Tryz.underlying22) (Zm rfl (Ze [(0, u), (3, q), (9, (ZI (k.length : Int))), (10, ZI 0)] (nx ?_))))))))); obtain ⟨b5, Q, hF⟩ := bind_some hF; obtain ⟨-, h17a, h17b⟩ := bU_ Q; obtain ⟨B, C, hF⟩ := bind_some hF; refine z_ (fun a f => ∃ (x : Yk) (g : List Hv) (c : Tg), B = .inl x ∧ Fr a 23 [(3, q)] ∧ Bs oo c w f ∧ Ow w.heap.size 41 11 c f q g ∧ Rws w.heap.size 3 12 c f g x) (fun _ _ => False) ?_ ?_ ?_
 ·refine d_ ?_; refine y_ (fun (K : Nat) a f => ∃ (b : Int) (x : Yk) (g : List Hv) (c : Tg), forN (cI_ k) ((k.length : Int) - b).toNat b x = some B ∧ ((k.length : Int) - b).toNat = K ∧ 0 ≤ b ∧ Fr a 23 [(0, u), (3, q), (9, (ZI (k.length : Int))), (10, ZI b)] ∧ Bs oo c w f ∧ Ow w.heap.size 41 11 c f q g ∧ Rws w.heap.size 3 12 c f g x) _ (fun a ha => ⟨0, b1, (List.replicate (k.length : Int).toNat ⟨.slice none 0 0⟩), b3, (by rw [Int.sub_zero]; exact C), rfl, Int.le_refl 0, ha.sub (r := [(0, u), (3, q), (9, (ZI (k.length : Int))), (10, ZI 0)]) ⟨rfl, rfl, rfl, rfl, trivial⟩, hB, b4, P⟩) ?_; rintro K22 a f ⟨b, x, g, c, D, R, b6, ha, hB, s, d⟩; by_cases v : b < (k.length : Int)
  ·obtain ⟨b7, j, S⟩ := bp_ v D; dsimp only [cI_] at j; refine N_ ha ?_; refine Zq (Zv (t_ rfl rfl) (Ze [(0, u), (3, q), (9, (ZI (k.length : Int))), (10, ZI b), (11, (.bool (decide (b < (k.length : Int)))))] (nx (b_ ?_)))); refine Q_ (Zb (decide_eq_true v)) ?_; refine f_ (nx (b_ (d_ (Zq (Zm rfl (Za rfl (Ze [(0, u), (3, q), (4, ZI b), (9, (ZI (k.length : Int))), (10, ZI b)] (nx (c_ (Zm rfl (Zm rfl (Zm rfl ?_)))))))))))); refine Zm rfl ?_; obtain ⟨T, E, j⟩ := bind_some j; refine Zo ?_; refine wf_atZ N E hB rfl rfl Tryz.underlying22 Tryz.sizeOf41 ?_; intro b8 b9 c0 U V; obtain ⟨c1, rfl, W⟩ := V; refine Zv (e_ rfl Tryz.isAgg41 (i_ U)) ?_; obtain ⟨X, F, j⟩ := bind_some j; refine Zo ?_; refine p_ (bs_ f c 13 (by decide) _ T (W.keep hB.keeps) X F) Tryz.call70 ⟨rfl, trivial⟩ ?_; rintro c2 c3 ⟨G, H, rfl, m, Y, Z⟩; have y := Y.stp' 13 Z; replace m := m.mono hB.keeps.size; refine ⟨_, rfl, ?_⟩; replace s := s.stp y; replace d := d.stp y; replace hB := hB.stp y; obtain ⟨c4, I, j⟩ := bind_some j; obtain ⟨c5, a0, c6, c7⟩ := d.ix I; refine Zo ?_; refine gG_ s a0 rfl rfl Tryz.underlying22 Tryz.sizeOf41 ?_; intro c8 c9 a1 d0 a2; obtain ⟨rfl, -⟩ := a2; obtain ⟨a3, J, j⟩ := bind_some j; obtain ⟨a4, a5⟩ := d.stV J G; refine au_ trivial ?_; refine cS_ s a1 a4 (ib_ m) (by decide) rfl rfl rfl Tryz.sizeOf41 m.cells1 ?_; intro d1 z A; replace d := d.stp A; replace m := m.stp A; replace hB := hB.stp A; have L := RwH.put (i := b.toNat) (d.hole b.toNat) m (by decide) (by decide); rw [← a5] at L; have M := eL_ 13 12 H; clear d m; replace z := z.rc M (by decide) (by decide); replace hB := hB.rc M (by decide); generalize mrg 13 12 H = a6 at *; refine Ze [(0, u), (3, q), (9, (ZI (k.length : Int))), (10, ZI b)] (x_ (nx (c_ (Zv (C_ rfl rfl (D_ (by omega) (by omega))) (Zm rfl (Ze [(0, u), (3, q), (9, (ZI (k.length : Int))), (10, (ZI (b + 1)))] (w_ ?_))))))); have a7 := Zj j; subst a7; refine Zk [(0, u), (3, q), (9, (ZI (k.length : Int))), (10, (ZI (b + 1)))] ?_; intro a ha; exact ⟨_, (by rw [← R]; omega), b + 1, a3, (g.set b.toNat ⟨G⟩), a6, S, rfl, (by omega), ha, hB, z, L⟩
  ·have a8 := br_ v D; refine N_ ha ?_; refine Zq (Zv (t_ rfl rfl) (Ze [(0, u), (3, q), (9, (ZI (k.length : Int))), (10, ZI b), (11, (.bool (decide (b < (k.length : Int)))))] (nx (b_ ?_)))); refine J_ (Zb (decide_eq_false v)) ?_; refine v_ ?_; refine n_ (n_ (S_ ?_)); refine q_ ?_; refine Zk [(3, q)] ?_; intro a ha; exact ⟨x, g, c, a8, ha, hB, s, d⟩
 ·rintro a f ⟨x, g, c, rfl, ha, hB, s, d⟩; dsimp only at hF; refine ap_k ha ?_; refine Zn (Zm rfl (Za rfl (Ze [(2, q)] (nx (k_ ?_))))); have a9 := Zj hF; subst a9; refine Zr Tryz.results77 [q] ?_; exact ⟨_, g, rt2 oo c w.heap.size 11 12 t, rfl, s.rt2 hB (by decide) (by decide) t, d.rt2 hB (by decide) (by decide) (by decide) t, hB.keeps, gS_ _ _ _ _ _ _⟩
 ·exact fun _ _ h => h.elim
theorem hQ_ (w : World) (oo : Tg) (t : Nat) (ht : 2 ≤ t) (n : Value) (q : Yk) (k : RdL zt w n q) (r : Yk) (hF : cB_ q = some r) :
    Calls Tryz.prog 77 #[n] w (fun e w' => ∃ (f : Value) (o' : Tg), e = .returned f ∧ Iv w.heap.size t (t + 1) 41 3 o' w' f r ∧ Keeps w w' ∧ ∀ b, b < w.heap.size → o' b = oo b) := by
 refine (lA_ w (fun _ => 1) t ht n q k r hF).mono ?_; rintro e w' ⟨f, k, d, rfl, B, m, hk, ho⟩; replace ho : ∀ b, b < w.heap.size → d b = 1 := ho; have g : ∀ c, f.ownBlock = some c → w.heap.size ≤ c ∧ c < w'.heap.size := fun c hc => B.ltw c hc; have j : ∀ (i : Nat) (u : Hv) c, k[i]? = some u → u.v.ownBlock = some c → w.heap.size ≤ c ∧ c < w'.heap.size := fun i u c a b => m.lt i u c a b; refine ⟨f, fun b => if b < w.heap.size then oo b else if d b = t + 1 then t + 1 else t, rfl, ⟨k, w.heap.size, w'.heap.size, Nat.le_refl _, Nat.le_refl _, ?_, ⟨m.1, fun i u x a b => ?_, m.2.2⟩, fun c hc => (g c hc).2, fun i u c a b => (j i u c a b).2, fun c hc _ => ?_⟩, hk, fun b hb => if_pos hb⟩
 ·obtain ⟨css, s, y, z, A⟩ := B; refine ⟨css, s, y, fun c hc => ?_, A⟩; show (if c < w.heap.size then oo c else if d c = t + 1 then t + 1 else t) = t; rw [if_neg (by have := (g c hc).1; omega), if_neg (by rw [z c hc]; omega)]
 ·have hg := m.2.1 i u x a b; obtain ⟨css, s, y, z, A⟩ := hg; refine ⟨css, s, y, fun c hc => ?_, A⟩; show (if c < w.heap.size then oo c else if d c = t + 1 then t + 1 else t) = t + 1; rw [if_neg (by have := (j i u c a hc).1; omega), if_pos (z c hc)]
 ·show (if c < w.heap.size then oo c else if d c = t + 1 then t + 1 else t) = t ∨ (if c < w.heap.size then oo c else if d c = t + 1 then t + 1 else t) = t + 1; rw [if_neg (by omega)]; split
  ·exact .inr rfl
  ·exact .inl rfl
def cr_ (a : a_) : Option a_ :=
  (cB_ a.Nodes) >>= fun b =>
  (cB_ a.Edges) >>= fun c =>
  some (⟨a.Labels, a.Degree, b, c⟩ : a_)
def js_ (oo : Tg) (t : Nat) (w : World) (r : a_) : Ending → World → Prop := fun e w' => ∃ (a : List Value) (o' : Tg), e = .returned (.agg a.toArray) ∧ Rp.rd o' w' a r ∧ D2 41 3 o' w' (a.getD 2 undef) (a.getD 3 undef) r.Nodes r.Edges ∧ Keeps w w' ∧ ∀ b, b < w.heap.size → o' b = oo b
theorem jy_ (w : World) (oo : Tg) (t : Nat) (ht : 2 ≤ t) (d1 : List Value) (k : a_) (d3 : Rp.rd zt w d1 k) (r : a_) (hF : cr_ k = some r) :
    Calls Tryz.prog 50 #[.agg d1.toArray] w (js_ oo t w r) := by
 unfold cr_ at hF; obtain ⟨a8, Z, rfl, d4, d5⟩ := d3; have hB : Bs oo (col oo) w w := Bs.start _ _; refine h_ (n := 12) (vs := [(.agg #[(ZI k.Labels), (ZI k.Degree), a8, Z])]) Tryz.func50 rfl rfl ?_; generalize col oo = o at *; refine Zq (Zo ?_); refine bb_ (o := o) w.heap.size 11 hB.keeps.size (cs := [(ZI k.Labels), (ZI k.Degree), a8, Z]) rfl rfl ?_; intro d6 h7 K A d7; replace hB := hB.stp d7; refine Zo ?_; refine aR_ (o := d6) w.heap.size 12 hB.keeps.size (cs := [(ZI 0), (ZI 0), (.slice none 0 0), (.slice none 0 0)]) Tryz.zeroValue28 rfl ?_; intro a9 d8 F a a0; replace A := A.stp a0; replace hB := hB.stp a0; refine Ze [(1, ZP K), (2, ZP F)] (nx (b_ ?_)); obtain ⟨R, a1, hF⟩ := bind_some hF; obtain ⟨S, a2, hF⟩ := bind_some hF; refine ai_ (o := a9) [(1, ZP K), (2, ZP F)] [1, 2] [3, 4, 5, 6, 7, 8, 9] [[], [0], [1], [], [3], [4], []] [none, none, none, none, none, none, none] [999, 999, 999, 999, 999, 999, 999] [0, 0, 0, 0, 0, 0, 0] [999] [fun v _ _ => v = (.pointer (some ⟨K, 0 + 2, none⟩)), fun v _ _ => v = a8, fun v o b0 => Iv w.heap.size 2026 2027 41 3 o b0 v R, fun v _ _ => v = (.pointer (some ⟨K, 0 + 3, none⟩)), fun v _ _ => v = Z, fun v o b0 => Iv w.heap.size 2030 2031 41 3 o b0 v S, fun v _ _ => v = (.pointer (some ⟨K, 0 + 2, none⟩))] (fun b1 b2 => Bs oo b1 w b2 ∧ Bx w.heap.size 11 b1 b2 K 28 [(ZI k.Labels), (ZI k.Degree), a8, Z] ∧ Bx w.heap.size 12 b1 b2 F 28 [(ZI 0), (ZI 0), (.slice none 0 0), (.slice none 0 0)]) G_ (by kernel_rfl) rfl ⟨rfl, rfl, trivial⟩ ⟨hB, A, a⟩ ?_ ⟨u_ _, u_ _, fun _ _ _ _ _ _ T hb h hs => h.stp hs T.1 (Nat.ne_of_gt (Nat.lt_of_le_of_lt T.2 (by decide))) (Nat.ne_of_gt (Nat.lt_of_le_of_lt T.2 (by decide))), u_ _, u_ _, fun _ _ _ _ _ _ T hb h hs => h.stp hs T.1 (Nat.ne_of_gt (Nat.lt_of_le_of_lt T.2 (by decide))) (Nat.ne_of_gt (Nat.lt_of_le_of_lt T.2 (by decide))), u_ _, trivial⟩ ?_ ?_
 ·rintro d9 h8 h9 i0 i1 U ⟨hB, A, a⟩ V; have U : d9 = 999 := by simpa using U
  subst U; all_goals exact ⟨hB.stp V (by decide), A.stp V (by decide), a.stp V (by decide)⟩
 ·refine ⟨?_, ?_, ?_, ?_, ?_, ?_, ?_, trivial⟩
  ·rintro e0 e1 e2 ha ⟨hB, A, a⟩ -; refine Zs ha ?_; refine g_ (r_ rfl Tryz.underlying28 rfl Tryz.sizeOf22) ?_; exact Zx rfl
  ·rintro e3 e4 e5 ha ⟨hB, A, a⟩ ⟨b3, -⟩; have ha := Fr.cons (d := 3) ha b3; refine Zs ha ?_; refine g_ (e_ rfl Tryz.isAgg22 (A.cell rfl)) ?_; exact Zx rfl
  ·rintro b4 b5 e6 ha ⟨hB, A, a⟩ ⟨b6, -⟩; have ha := Fr.cons (d := 4) ha b6; refine Zs ha ?_; refine p_ (hQ_ b5 b4 2026 (by decide) _ k.Nodes (d4.keep hB.keeps) R a1) Tryz.call77 ⟨rfl, trivial⟩ ?_; rintro e7 e8 ⟨e9, f0, rfl, W, b7, b8⟩; have b9 := b7.stp' 999 b8; replace W := W.mono hB.keeps.size; refine ⟨_, rfl, ?_⟩; exact ⟨_, b9, W⟩
  ·rintro f1 f2 f3 ha ⟨hB, A, a⟩ -; refine Zs ha ?_; refine g_ (r_ rfl Tryz.underlying28 rfl Tryz.sizeOf22) ?_; exact Zx rfl
  ·rintro f4 f5 f6 ha ⟨hB, A, a⟩ ⟨c0, -⟩; have ha := Fr.cons (d := 6) ha c0; refine Zs ha ?_; refine g_ (e_ rfl Tryz.isAgg22 (A.cell rfl)) ?_; exact Zx rfl
  ·rintro c1 c2 f7 ha ⟨hB, A, a⟩ ⟨c3, -⟩; have ha := Fr.cons (d := 7) ha c3; refine Zs ha ?_; refine p_ (hQ_ c2 c1 2030 (by decide) _ k.Edges (d5.keep hB.keeps) S a2) Tryz.call77 ⟨rfl, trivial⟩ ?_; rintro f8 f9 ⟨g0, g1, rfl, X, c4, c5⟩; have c6 := c4.stp' 999 c5; replace X := X.mono hB.keeps.size; refine ⟨_, rfl, ?_⟩; exact ⟨_, c6, X⟩
  ·rintro g2 g3 g4 ha ⟨hB, A, a⟩ -; refine Zs ha ?_; refine g_ (r_ rfl Tryz.underlying28 rfl Tryz.sizeOf22) ?_; exact Zx rfl
 rintro B a3 L ha ⟨hB, A, a⟩ ⟨-, -, M, -, -, N, c7, -⟩; replace M : Iv w.heap.size 2026 2027 41 3 B a3 (L.tmps.getD 5 undef) R := M; generalize c8 : L.tmps.getD 5 undef = O at M; obtain ⟨g5, na, nb, i2, i3, f, C, g6, g7, g8⟩ := M; have ha := Fr.cons (d := 5) ha c8; replace N : Iv w.heap.size 2030 2031 41 3 B a3 (L.tmps.getD 8 undef) S := N; generalize c9 : L.tmps.getD 8 undef = Y at N; obtain ⟨g9, ma, mb, i4, i5, b, j, h0, h1, h2⟩ := N; have ha := Fr.cons (d := 8) ha c9; have ha := Fr.cons (d := 9) ha c7; have hdis : ∀ g, na ≤ g → g < nb → ma ≤ g → g < mb → False := fun g h3 h4 h5 h6 => by
  rcases g8 g h3 h4 with q | q <;> rcases h2 g h5 h6 with q' | q' <;> exact absurd (q.symm.trans q') (by decide)
 refine bi_ ha ?_; simp only [List.length_cons, List.length_nil, Nat.zero_add, Nat.reduceAdd, List.drop_succ_cons, List.drop_zero]; refine au_ trivial ?_; refine ce_ A rfl rfl (of_decide_eq_true rfl) Tryz.sizeOf22 f.cells1 f.one1 ?_; intro d0 G E; replace f := f.stp E; replace C := C.stp E; replace b := b.stp E; replace j := j.stp E; replace a := a.stp E; replace hB := hB.stp E; replace G : Bx w.heap.size 11 B d0 K 28 [(ZI k.Labels), (ZI k.Degree), O, Z] := G; refine Zv (r_ rfl Tryz.underlying28 rfl Tryz.sizeOf22) ?_; refine au_ trivial ?_; refine ce_ G rfl rfl (of_decide_eq_true rfl) Tryz.sizeOf22 b.cells1 b.one1 ?_; intro a4 H i; replace f := f.stp i; replace C := C.stp i; replace b := b.stp i; replace j := j.stp i; replace a := a.stp i; replace hB := hB.stp i; replace H : Bx w.heap.size 11 B a4 K 28 [(ZI k.Labels), (ZI k.Degree), O, Y] := H; refine Ze [(1, ZP K), (2, ZP F)] (Zn (Zv (U_ rfl Tryz.isAgg28 Tryz.sizeOf28 rfl H.cells) ?_)); refine au_ trivial ?_; refine ac_ a rfl rfl rfl du_ (by intro c hc; simp only [List.mem_cons, List.not_mem_nil, or_false] at hc; rcases hc with rfl | rfl | rfl | rfl <;> first | rfl | exact f.one1 | exact b.one1) ?_; intro d2 m s; replace f := f.stp s; replace C := C.stp s; replace b := b.stp s; replace j := j.stp s; replace hB := hB.stp s; refine Ze [(2, ZP F)] (nx (k_ ?_)); have D := Dw.ofI f C (by decide) (by decide) (by decide) g6 g7; have u := dF_ 2026 B; have x := dF_ 2027 (frz 2026 B); replace b := (b.rc u (by decide) (by decide)).rc x (by decide) (by decide); replace j := (j.rc u (by decide) (by decide)).rc x (by decide) (by decide); replace m := (m.rc u (by decide)).rc x (by decide); replace hB := (hB.rc u (by decide)).rc x (by decide); clear u x; generalize frz 2027 (frz 2026 B) = I at *; have J := D.rd; have Q := Dw.ofI b j (by decide) (by decide) (by decide) h0 h1; have y := dF_ 2030 I; have z := dF_ 2031 (frz 2030 I); replace J := (J.rc y (by decide)).rc z (by decide); replace D := (D.rc y (by decide)).rc z (by decide); replace m := (m.rc y (by decide)).rc z (by decide); replace hB := (hB.rc y (by decide)).rc z (by decide); clear y z; generalize frz 2031 (frz 2030 I) = a5 at *; have a6 := Q.rd; have a7 := Zj hF; subst a7; refine E_ (P := Tryz.prog) (vs := [(.agg #[(ZI k.Labels), (ZI k.Degree), O, Y])]) Tryz.results50 ⟨⟨_, rfl, aQ_ Tryz.isAgg28 Tryz.sizeOf28 rfl m.cells⟩, trivial⟩ ?_; exact ⟨[(ZI k.Labels), (ZI k.Degree), O, Y], rt oo a5 w.heap.size 9 t, rfl, ⟨_, _, rfl, J.rt hB 9 t (by decide), a6.rt hB 9 t (by decide)⟩, D2.rt ⟨_, _, _, _, hdis, D, Q⟩ hB 9 t (by decide), hB.keeps, az_ _ _ _ _ _⟩
def jx_ (oo : Tg) (t : Nat) (w : World) (r : a_) : Ending → World → Prop := fun e w' => ∃ (a : List Value) (o' : Tg), e = .returned (.agg a.toArray) ∧ Pc w.heap.size w'.heap.size o' w' a r ∧ Keeps w w' ∧ (∀ b, b < w.heap.size → o' b = oo b) ∧ ∀ b, w.heap.size ≤ b → o' b = 0 ∨ o' b = t
theorem jE_ (w : World) (oo : Tg) (t : Nat) (ht : 2 ≤ t) (c : List Value) (d : a_) (f : Rp.rd zt w c d) (r : a_) (hF : cr_ d = some r) :
    Calls Tryz.prog 50 #[.agg c.toArray] w (jx_ oo t w r) := by
 refine (jy_ w (fun _ => 1) t ht c d f r hF).mono ?_; rintro e w' ⟨g, a, rfl, hr, hD, hk, ho⟩; replace ho : ∀ b, b < w.heap.size → a b = 1 := ho; obtain ⟨vN, vE, rfl, -, -⟩ := hr; have hD' : D2 41 3 a w' vN vE r.Nodes r.Edges := hD; exact ⟨_, fun b => if b < w.heap.size then oo b else if a b = 0 then 0 else t, rfl, ⟨vN, vE, rfl, (hD'.pq (fun b hb => by rw [ho b hb]; decide) hk.size).mv0 (newT ho)⟩, hk, fun b hb => if_pos hb, fun b hb => by
  show (if b < w.heap.size then oo b else if a b = 0 then 0 else t) = 0 ∨ (if b < w.heap.size then oo b else if a b = 0 then 0 else t) = t; rw [if_neg (by omega)]; split
  ·exact .inl rfl
  ·exact .inr rfl⟩
def fB_ (a : Int) : Option Bool :=
  (cW_ a 0 5) >>= fun b =>
  some b
def mC_ (w : World) (r : Bool) : Ending → World → Prop := fun e w' => e = .returned (.bool r) ∧ Keeps w w'
theorem np_ (w : World) (a : Int) (r : Bool) (hF : fB_ a = some r) :
    Calls Tryz.prog 44 #[.int .i64 a] w (mC_ w r) := by
 unfold fB_ at hF; have hB : Bs (fun _ => 1) (col (fun _ => 1)) w w := Bs.start _ _; refine h_ (n := 5) (vs := [(ZI a)]) Tryz.func44 rfl rfl ?_; refine Zq (Za rfl (Ze [(0, ZI a)] (Zn (Zm rfl ?_)))); obtain ⟨b, c, hF⟩ := bind_some hF; refine Zo ?_; refine p_ (fj_ w a 0 5 b c) Tryz.call62 ⟨rfl, rfl, rfl, trivial⟩ ?_; rintro i j ⟨rfl, d⟩; have f := d.stp 999 (col (fun _ => 1)); refine ⟨_, rfl, ?_⟩; replace hB := hB.stp f; refine Za rfl (Ze [(2, (.bool b))] (nx (k_ ?_))); have g := Zj hF; subst g; refine Zr Tryz.results44 [(.bool b)] ?_; exact ⟨rfl, hB.keeps⟩
def ay_ (fuel : Nat) : Int → (List a_) → Option (Lp (List a_) (List a_) ((List a_) × Bool)) := fun (c : Int) (s : List a_) =>
  (ix s c) >>= fun d =>
  (dm_ fuel d) >>= fun a =>
  if !a.2.2.2 then
    some (.ret ([], false))
  else
    (push s a.1) >>= fun b =>
    some (.go b)
def cL_ (fuel : Nat) (j : a_) (a : Int) : Option ((List a_) × Bool) :=
  (dX_ fuel j) >>= fun b =>
  (
    if !b then
      some true
    else
      (fB_ a) >>= fun c =>
      some (!c)) >>= fun d =>
  if d then
    some ([], false)
  else
    (cr_ j) >>= fun f =>
    ck a >>= fun _ =>
    (forN (ay_ fuel) (a).toNat 0 ([f] : List a_)) >>= fun g =>
    match g with
    | .inl i =>
      some (i, true)
    | .inr r' => some r'
def ft_ (w : World) (r : (List a_) × Bool) : Ending → World → Prop := fun e w' => ∃ (a : Value), e = .returned (.tuple #[a, .bool r.2]) ∧ OwQ w.heap.size w'.heap.size w' a r.1 ∧ Keeps w w'
theorem hx_ (fuel : Nat) (w : World) (f4 : List Value) (S : a_) (g5 : Rp.rd zt w f4 S) (k : Int) (r : (List a_) × Bool) (hF : cL_ fuel S k = some r) :
    Calls Tryz.prog 15 #[.agg f4.toArray, .int .i64 k] w (ft_ w r) := by
 unfold cL_ at hF; obtain ⟨f5, f6, rfl, f7, f8⟩ := g5; have hB : Bs (fun _ => 1) (col (fun _ => 1)) w w := Bs.start _ _; refine h_ (n := 45) (vs := [(.agg #[(ZI S.Labels), (ZI S.Degree), f5, f6]), (ZI k)]) Tryz.func15 rfl rfl ?_; generalize col (fun _ => 1) = o at *; refine Zq (Zo ?_); refine bb_ (o := o) w.heap.size 11 hB.keeps.size (cs := [(ZI S.Labels), (ZI S.Degree), f5, f6]) rfl rfl ?_; intro d2 g6 a1 a0 g7; replace hB := hB.stp g7; refine Za rfl (Za rfl (Ze [(1, ZI k), (2, ZP a1)] (nx (b_ (Zq (Zv (U_ rfl Tryz.isAgg28 Tryz.sizeOf28 rfl a0.cells) ?_)))))); obtain ⟨a2, a3, hF⟩ := bind_some hF; refine Zo ?_; refine p_ (lH_ fuel g6 _ S (⟨_, _, rfl, (f7.keep hB.keeps), (f8.keep hB.keeps)⟩) a2 a3) Tryz.call43 ⟨rfl, trivial⟩ ?_; rintro g8 N ⟨rfl, d3⟩; have a4 := d3.stp 999 d2; refine ⟨_, rfl, ?_⟩; replace a0 := a0.stp a4; replace hB := hB.stp a4; refine Zv (bC_ rfl) (Zm rfl ?_); obtain ⟨a5, v, hF⟩ := bind_some hF; refine aK_ 4 (fun d4 V => Fr d4 45 [(1, ZI k), (2, ZP a1), (19, (.bool a5))] ∧ Keeps N V) ?_ ?_; all_goals simp only [List.take_succ_cons, List.take_zero, List.drop_succ_cons, List.drop_zero]
 ·have kp : Keeps N N := Keeps.refl _; rcases Bool.eq_false_or_eq_true (!a2) with m | m
  ·rw [if_pos m] at v; refine s_ rfl rfl (by rw [m]; rfl) (by decide) ?_; refine s_ rfl rfl (by rw [m]; rfl) (by decide) ?_; refine s_ rfl rfl (by rw [m]; rfl) (by decide) ?_; refine Zv (P_ (Zb m) rfl) ?_; have C := Zj v; refine Ze [(1, ZI k), (2, ZP a1), (19, (.bool true))] ?_; subst C; refine q_ (fun a ha => ⟨ha, kp⟩)
  ·rw [if_neg (by rw [m]; decide)] at v; refine o_ (j_ rfl) (by decide) ⟨_, rfl, (Zb m)⟩ ?_; obtain ⟨a6, a7, v⟩ := bind_some v; refine cj_ (by decide) ⟨_, rfl, (Zb m)⟩ ?_; refine p_ (np_ N k a6 a7) Tryz.call44 ⟨rfl, trivial⟩ ?_; rintro g9 h0 ⟨rfl, a8⟩; have h1 := a8.stp 999 d2; refine ⟨_, rfl, ?_⟩; replace kp := Keeps.trans kp a8; refine o_ (bC_ rfl) (by decide) ⟨_, rfl, (Zb m)⟩ (Zv (K_ (Zb m) rfl) ?_); have C := Zj v; refine Ze [(1, ZI k), (2, ZP a1), (19, (.bool (!a6)))] ?_; subst C; refine q_ (fun a ha => ⟨ha, kp⟩)
 rintro h2 V ⟨ha, d5⟩; have a9 := d5.stp 999 d2; replace a0 := a0.stp a9; replace hB := hB.stp a9; refine bi_ ha ?_; refine Ze [(1, ZI k), (2, ZP a1), (19, (.bool a5))] (nx ?_); refine m_ rfl (fun W => ?_) (fun W => ?_)
 ·rw [if_pos W] at hF; refine Zq (Za rfl (Za rfl (Ze [(4, (.slice none 0 0)), (5, (.bool false))] (nx (k_ (A_ ?_)))))); have d6 := Zj hF; subst d6; refine Zr Tryz.results15 [(.slice none 0 0), (.bool false)] ?_; exact ⟨_, rfl, OwQ.nil _ _ _, hB.keeps⟩
 ·rw [if_neg (by rw [W]; decide)] at hF; refine f_ (Zn (Zv (U_ rfl Tryz.isAgg28 Tryz.sizeOf28 rfl a0.cells) ?_)); obtain ⟨i, b0, hF⟩ := bind_some hF; refine Zo ?_; refine p_ (jE_ V d2 14 (by decide) _ S (⟨_, _, rfl, (f7.keep hB.keeps), (f8.keep hB.keeps)⟩) i b0) Tryz.call50 ⟨rfl, trivial⟩ ?_; rintro h3 d7 ⟨_, b1, rfl, ⟨G, H, rfl, hp⟩, d8, d9, hz⟩; have b2 := d8.stp' 14 d9; refine ⟨_, rfl, ?_⟩; have hq : Prs w.heap.size 15 b1 d7 [⟨[(ZI i.Labels), (ZI i.Degree), G, H]⟩] [i] := Prs.push (Prs.nil _ _ _ _) b2 (by decide) ⟨_, _, rfl, hp⟩ (fun b hb _ => by rcases hz b hb with h | h <;> rw [h] <;> decide) hB.keeps.size; have e0 := hp.rdN; have e1 := hp.rdE; clear hp hz; replace hB := hB.stp b2; refine Zo ?_; refine eE_ w.heap.size 15 hB.keeps.size (α := Qv) (o := b1) (cs := [(ZI i.Labels), (ZI i.Degree), G, H]) (xs := ([⟨[(ZI i.Labels), (ZI i.Degree), G, H]⟩] : List Qv)) (vs := [(0, (.agg #[(ZI i.Labels), (ZI i.Degree), G, H]))]) ⟨[(ZI i.Labels), (ZI i.Degree), G, H], _, rfl, Qv.ok e0.one1 e1.one1, rfl⟩ rfl ⟨rfl, rfl, trivial⟩ Tryz.underlying32 Tryz.sizeOf28 Tryz.zeroValue28 (by decide) (fillS 4 rfl rfl (by decide)) (by simp) ?_; intro e2 h4 O e3 b3; replace hq := hq.stp b3; replace hB := hB.stp b3; refine Za rfl (Ze [(1, ZI k), (6, O)] (nx (b_ (Zq (Zm rfl (Zm rfl (Ze [(6, O), (23, ZI k), (24, ZI 0)] (nx ?_)))))))); obtain ⟨h5, e4, hF⟩ := bind_some hF; obtain ⟨-, h58a, h58b⟩ := bU_ e4; obtain ⟨X, b4, hF⟩ := bind_some hF; refine z_ (fun a q => ∃ (x : List a_) (f : Value) (s : Tg), X = .inl x ∧ Fr a 45 [(6, f)] ∧ Bs (fun _ => 1) s w q ∧ ∃ y : List Qv, Ow w.heap.size 28 15 s q f y ∧ Prs w.heap.size 15 s q y x) (fun a w' => ∃ r', X = .inr r' ∧ bodyPost Tryz.prog Tryz.f15 (ft_ w r') .ret a w') ?_ ?_ ?_
  ·refine d_ ?_; refine y_ (fun (K : Nat) a q => ∃ (d : Int) (x : List a_) (f : Value) (s : Tg), forN (ay_ fuel) (k - d).toNat d x = some X ∧ (k - d).toNat = K ∧ 0 ≤ d ∧ Fr a 45 [(6, f), (23, ZI k), (24, ZI d)] ∧ Bs (fun _ => 1) s w q ∧ ∃ y : List Qv, Ow w.heap.size 28 15 s q f y ∧ Prs w.heap.size 15 s q y x) _ (fun a ha => ⟨0, ([i] : List a_), O, e2, (by rw [Int.sub_zero]; exact b4), rfl, Int.le_refl 0, ha.sub (r := [(6, O), (23, ZI k), (24, ZI 0)]) ⟨rfl, rfl, rfl, trivial⟩, hB, _, e3, hq⟩) ?_; rintro K63 a q ⟨d, x, f, s, b5, e5, h6, ha, hB, y, j, hq⟩; by_cases Q : d < k
   ·obtain ⟨h7, u, b6⟩ := bp_ Q b5; dsimp only [ay_] at u; refine N_ ha ?_; refine Zq (Zv (t_ rfl rfl) (Ze [(6, f), (23, ZI k), (24, ZI d), (25, (.bool (decide (d < k))))] (nx (b_ ?_)))); refine Q_ (Zb (decide_eq_true Q)) ?_; refine f_ (nx (b_ (d_ (Zq (Zm rfl (Za rfl (Ze [(6, f), (7, ZI d), (23, ZI k), (24, ZI d)] (Zn (Zm rfl (Zm rfl ?_)))))))))); obtain ⟨e6, b7, u⟩ := bind_some u; refine Zo ?_; obtain ⟨gg, hgg, h8, h9, hge, e7, e8⟩ := hq.ix b7; refine fm_ j hgg rfl rfl Tryz.underlying32 Tryz.sizeOf28 ?_; intro i0 i1 i2 e9 R; obtain ⟨R, -, -⟩ := R; rw [hge] at R; subst R; refine Zv (U_ rfl Tryz.isAgg28 Tryz.sizeOf28 rfl e9) ?_; obtain ⟨g, b8, u⟩ := bind_some u; refine Zo ?_; refine p_ (lI_ fuel q s 16 (by decide) _ e6 (⟨_, _, rfl, e7.z, e8.z⟩) g b8) Tryz.call46 ⟨rfl, trivial⟩ ?_; rintro i3 f0 ⟨_, i4, i5, b9, rfl, ⟨I, J, rfl, hp⟩, f1, f2, hz⟩; have Y := f1.stp' 16 f2; refine ⟨_, rfl, ?_⟩; replace hq : Prs w.heap.size 15 b9 f0 (y ++ [⟨[(ZI g.1.Labels), (ZI g.1.Degree), I, J]⟩]) (x ++ [g.1]) := Prs.push hq Y (by decide) ⟨_, _, rfl, hp⟩ (fun b hb _ => by rcases hz b hb with h | h <;> rw [h] <;> decide) hB.keeps.size; have E := hp.rdN; have F := hp.rdE; clear hp hz; replace j := j.stp Y; replace hB := hB.stp Y; refine Zm rfl (Zv (B_ rfl rfl) (Zv (B_ rfl rfl) (Zv (B_ rfl rfl) (Zv (B_ rfl rfl) (Zo ?_))))); refine aR_ (o := b9) w.heap.size 17 hB.keeps.size (cs := [(ZI 0), (ZI 0), (.slice none 0 0), (.slice none 0 0)]) Tryz.zeroValue28 rfl ?_; intro f3 i6 T c0 A; replace j := j.stp A; replace E := E.stp A; replace F := F.stp A; replace hB := hB.stp A; replace hq := hq.stp A; refine au_ trivial ?_; refine ac_ c0 rfl rfl rfl du_ (by intro c hc; simp only [List.mem_cons, List.not_mem_nil, or_false] at hc; rcases hc with rfl | rfl | rfl | rfl <;> first | rfl | exact E.one1 | exact F.one1) ?_; intro f9 c1 B; replace j := j.stp B; replace E := E.stp B; replace F := F.stp B; replace hB := hB.stp B; replace hq := hq.stp B; refine Za rfl (Za rfl (Za rfl (Ze [(6, f), (8, ZP T), (11, (.bool g.2.2.2)), (23, ZI k), (24, ZI d)] (nx (b_ (Zq (Zm rfl (Zv (bC_ rfl) (Ze [(6, f), (8, ZP T), (23, ZI k), (24, ZI d), (38, (.bool (!g.2.2.2)))] (nx ?_)))))))))); refine m_ rfl (fun L => ?_) (fun L => ?_)
    ·rw [if_pos L] at u; refine Zq (Za rfl (Za rfl (Ze [(4, (.slice none 0 0)), (5, (.bool false))] (nx (k_ (A_ (Z_ (A_ (A_ (Z_ ?_)))))))))); refine bt_ ?_; have c2 := Zj u; subst c2; refine fun a ha => ⟨_, b6, ?_⟩; refine E_ (P := Tryz.prog) (vs := [(.slice none 0 0), (.bool false)]) Tryz.results15 ⟨rfl, rfl, trivial⟩ ?_ a ha; exact ⟨_, rfl, OwQ.nil _ _ _, hB.keeps⟩
    ·rw [if_neg (by rw [L]; decide)] at u; refine f_ (nx (c_ (Zm rfl (Zv (U_ rfl Tryz.isAgg28 Tryz.sizeOf28 rfl c1.cells) (Zo ?_))))); refine aB_ (α := Qv) (o := f3) (cs := [(ZI g.1.Labels), (ZI g.1.Degree), I, J]) (xs := ([⟨[(ZI g.1.Labels), (ZI g.1.Degree), I, J]⟩] : List Qv)) (vs := [(0, (.agg #[(ZI g.1.Labels), (ZI g.1.Degree), I, J]))]) ⟨[(ZI g.1.Labels), (ZI g.1.Degree), I, J], _, rfl, Qv.ok E.one1 F.one1, rfl⟩ rfl ⟨rfl, rfl, trivial⟩ Tryz.underlying32 Tryz.sizeOf28 Tryz.zeroValue28 (by decide) (fillS 4 rfl rfl (by decide)) (by simp) ?_; intro g0 g1 g2 c3 M g3; replace j := j.stp M; replace hB := hB.stp M; replace hq := hq.stp M; obtain ⟨c4, Z, u⟩ := bind_some u; refine Zo ?_; obtain ⟨hpg, hpx⟩ := pushTwo hq Z; refine bg_ j c3 (aq_ hpg) (by decide) hB.keeps.size rfl rfl Tryz.underlying32 fI_ rfl (by decide) ?_; intro c5 g4 D c6 U; replace hB := hB.stp U; replace hq := hq.stp U; refine Za rfl (Ze [(6, D), (23, ZI k), (24, ZI d)] (x_ (nx (c_ (Zv (C_ rfl rfl (D_ (by omega) (by omega))) (Zm rfl (Ze [(6, D), (23, ZI k), (24, (ZI (d + 1)))] (w_ ?_)))))))); have c7 := Zj u; subst c7; refine Zk [(6, D), (23, ZI k), (24, (ZI (d + 1)))] ?_; intro a ha; exact ⟨_, (by rw [← e5]; omega), d + 1, c4, D, c5, b6, rfl, (by omega), ha, hB, _, c6, by rw [hpx]; exact hq⟩
   ·have c8 := br_ Q b5; refine N_ ha ?_; refine Zq (Zv (t_ rfl rfl) (Ze [(6, f), (23, ZI k), (24, ZI d), (25, (.bool (decide (d < k))))] (nx (b_ ?_)))); refine J_ (Zb (decide_eq_false Q)) ?_; refine v_ ?_; refine n_ (n_ (S_ ?_)); refine q_ ?_; refine Zk [(6, f)] ?_; intro a ha; exact ⟨x, f, s, c8, ha, hB, y, j, hq⟩
  ·rintro a q ⟨x, f, s, rfl, ha, hB, y, j, hq⟩; dsimp only at hF; refine ap_k ha ?_; refine Zn (Zm rfl (Za rfl (Za rfl (Ze [(4, f), (5, (.bool true))] (nx (k_ ?_)))))); have c9 := Zj hF; subst c9; refine Zr Tryz.results15 [f, (.bool true)] ?_; exact ⟨_, rfl, hq.owQ j, hB.keeps⟩
  ·rintro a q ⟨r', rfl, d0⟩; dsimp only at hF; have d1 := Zj hF; subst d1; exact d0
end

section
def okT (p : a_) : Prop := probB p = true ∧ p.Nodes.length ≤ 100000000 ∧ p.Edges.length ≤ 100000000
theorem okT.next {p : a_} (h : okT p) (hv : (roundV p).2.2.2 = true) : okT (roundV p).1 := by
 obtain ⟨a1, a2, a3, -⟩ := mY_ p h.1 hv
 exact ⟨a1, a2, a3⟩
noncomputable def itV (p : a_) : Nat → Option a_
  | 0 => some p
  | k + 1 => (itV p k).bind fun q => if (roundV q).2.2.2 then some (roundV q).1 else none
theorem op_ {p : a_} (h : okT p) : ∀ {k : Nat} {q : a_}, itV p k = some q → okT q
 | 0, q, e => by cases e; exact h
 | k + 1, q, e => by
  unfold itV at e
  cases hk : itV p k with
  | none => rw [hk] at e; cases e
  | some r =>
   rw [hk, Option.bind_some] at e
   have hr := op_ h hk
   cases hv : (roundV r).2.2.2
   ·rw [hv, if_neg (by simp)] at e; cases e
   ·rw [hv, if_pos rfl] at e
    cases e
    exact hr.next hv
theorem pT_ (x : List Int) (hx : ∀ y ∈ x, 0 ≤ y ∧ y ≤ 1000) : ∀ (c : List Int) (k : Int) (acc : List Int), acc ++ c = x → x.length ≤ 1000000000 → forI (bR_ 0) c k acc = some (.inl x)
 | [], k, acc, e, _ => by simp only [forI]; rw [← e, List.append_nil]
 | y :: c, k, acc, e, h => by
  have hy := hx y (by rw [← e]; simp)
  have hl : acc.length + c.length + 1 = x.length := by rw [← e]; simp; omega
  have h0 : bR_ 0 k y acc = some (.go (acc ++ [y])) := by
   unfold bR_
   rw [D_ (by omega) (by omega), sb]
   unfold push
   rw [if_pos (by omega), sb, Int.add_zero]
  simp only [forI, h0]
  exact pT_ x hx c (k + 1) _ (by rw [← e]; simp) h
theorem nY_ (X : List (List Int)) (hX : ∀ x ∈ X, x.length ≤ 1000 ∧ ∀ y ∈ x, 0 ≤ y ∧ y ≤ 1000) : ∀ (c : List (List Int)) (k : Int) (acc : List (List Int)), acc ++ c = X → X.length ≤ 1000000000 → forI (ca_ 0) c k acc = some (.inl X)
 | [], k, acc, e, _ => by simp only [forI]; rw [← e, List.append_nil]
 | x :: c, k, acc, e, h => by
  have hx := hX x (by rw [← e]; simp)
  have hl : acc.length + c.length + 1 = X.length := by rw [← e]; simp; omega
  have h0 : ca_ 0 k x acc = some (.go (acc ++ [x])) := by
   unfold ca_
   rw [pT_ x hx.2 x 0 [] rfl (by omega), sb]
   simp only
   unfold push
   rw [if_pos (by omega), sb]
  simp only [forI, h0]
  exact nY_ X hX c (k + 1) _ (by rw [← e]; simp) h
theorem nG_ (X : List (List Int)) (hX : ∀ x ∈ X, x.length ≤ 1000 ∧ ∀ y ∈ x, 0 ≤ y ∧ y ≤ 1000) (h : X.length ≤ 1000000000) : gB_ X = some X := by
 unfold gB_ eV_
 rw [nY_ X hX X 0 [] rfl h, sb, sb]
theorem fn_ {X : List (List Int)} {m n : Int} (h : confsB X m n = true) (hm : m ≤ 4) (hn : n ≤ 8) : ∀ x ∈ X, x.length ≤ 1000 ∧ ∀ y ∈ x, 0 ≤ y ∧ y ≤ 1000 := fun x hx => by
 obtain ⟨a, -, b⟩ := (jU_ h).1 x hx
 exact ⟨by omega, fun y hy => by have := b y hy; omega⟩
noncomputable def itL (p : a_) (k : Nat) : List a_ := (List.range (k + 1)).filterMap (itV p)
theorem nF_ {p q : a_} {k : Nat} (h : itV p (k + 1) = some q) : ∃ r, itV p k = some r ∧ (roundV r).2.2.2 = true ∧ q = (roundV r).1 := by
 unfold itV at h
 cases hk : itV p k with
 | none => rw [hk] at h; cases h
 | some r =>
  rw [hk, Option.bind_some] at h
  cases hv : (roundV r).2.2.2
  ·rw [hv, if_neg (by simp)] at h; cases h
  ·rw [hv, if_pos rfl] at h
   cases h
   exact ⟨r, rfl, hv, rfl⟩
theorem ii_ {p q : a_} {k : Nat} (h : itV p (k + 1) = some q) : itL p (k + 1) = itL p k ++ [q] := by
 unfold itL
 rw [List.range_succ, List.filterMap_append]
 simp [h]
theorem kO_ {p : a_} : ∀ {k : Nat} {q : a_}, itV p k = some q → (itL p k).length = k + 1 ∧ (itL p k)[k]? = some q
 | 0, q, h => by
  cases h
  exact ⟨by simp [itL, itV], by simp [itL, itV]⟩
 | k + 1, q, h => by
  obtain ⟨r, h1, -, -⟩ := nF_ h
  have ih := kO_ h1
  rw [ii_ h]
  refine ⟨by rw [List.length_append, ih.1]; rfl, ?_⟩
  rw [List.getElem?_append_right (by omega), ih.1]
  simp
theorem jW_ (fuel : Nat) (hf : 1000000000 ≤ fuel) (p : a_) (hp : okT p) (k : Nat) (hk : k ≤ 5) : ∀ (d j f : Nat) (q : a_), j + d = k → d < f → itV p j = some q →
  loopF (ab_ fuel (k : Int)) f (itL p j) = if (itV p k).isSome then some (.inl (itL p k)) else some (.inr ([], false))
 | 0, j, f, q, hj, hfl, hq => by
  obtain ⟨f, rfl⟩ : ∃ m, f = m + 1 := ⟨f - 1, by omega⟩
  have : j = k := by omega
  subst this
  have hl := (kO_ hq).1
  have h0 : ab_ fuel (j : Int) (itL p j) = some (.out (itL p j)) := by
   unfold ab_
   rw [if_neg (by simp; omega)]
  simp only [loopF, h0]
  rw [hq]; rfl
 | d + 1, j, f, q, hj, hfl, hq => by
  obtain ⟨f, rfl⟩ : ∃ m, f = m + 1 := ⟨f - 1, by omega⟩
  obtain ⟨hl, hat⟩ := kO_ hq
  have hok := op_ hp hq
  have hix : ix (itL p j) (j : Int) = some q := by unfold ix; rw [if_pos (by omega), Int.toNat_natCast, hat]
  cases hv : (roundV q).2.2.2
  ·have h0 : ab_ fuel (k : Int) (itL p j) = some (.ret ([], false)) := by
    unfold ab_
    rw [if_pos (by simp; omega), D_ (by omega) (by omega), sb, show (((itL p j).length : Int) - 1) = (j : Int) by omega, hix, sb, fO_ fuel hf q hok.1 hok.2.1 hok.2.2, sb, hv, if_pos (by rfl)]
   have hno : ∀ i, itV p (j + 1 + i) = none := fun i => by
    induction i with
    | zero =>
     show itV p (j + 1) = none
     unfold itV
     rw [hq, Option.bind_some, hv, if_neg (by simp)]
    | succ i ih =>
     show itV p (j + 1 + i + 1) = none
     unfold itV
     rw [ih]; rfl
   have := hno d
   rw [show j + 1 + d = k by omega] at this
   simp only [loopF, h0]
   rw [this]; rfl
  ·have hnx : itV p (j + 1) = some (roundV q).1 := by
    unfold itV
    rw [hq, Option.bind_some, hv, if_pos rfl]
   have h0 : ab_ fuel (k : Int) (itL p j) = some (.go (itL p (j + 1))) := by
    unfold ab_
    rw [if_pos (by simp; omega), D_ (by omega) (by omega), sb, show (((itL p j).length : Int) - 1) = (j : Int) by omega, hix, sb, fO_ fuel hf q hok.1 hok.2.1 hok.2.2, sb, hv, if_neg (by simp)]
    unfold push
    rw [if_pos (by omega), sb, ii_ hnx]
   simp only [loopF, h0]
   exact jW_ fuel hf p hp k hk d (j + 1) f _ (by omega) (by omega) hnx
theorem ig_ (fuel : Nat) (hf : 1000000000 ≤ fuel) (p : a_) (hp : okT p) (k : Nat) (hk : k ≤ 5) : aU_ fuel p (k : Int) = some (if (itV p k).isSome then (itL p k, true) else ([], false)) := by
 obtain ⟨g1, g2, g3, g4, g5, g6⟩ := bc_ hp.1
 have hN := hp.2.1
 have hE := hp.2.2
 unfold aU_
 rw [ih_ fuel (by omega) p (by omega) (by omega), sb, hp.1, if_neg (by simp), jP_, sb, sb, if_neg (by simp; omega), nG_ _ (fn_ g5 g4 g2) (by omega), sb, nG_ _ (fn_ g6 (by omega) g2) (by omega), sb]
 have := jW_ fuel hf p hp k hk k 0 fuel p (by omega) (by omega) rfl
 rw [show itL p 0 = [p] by simp [itL, itV]] at this
 rw [show ([(⟨p.Labels, p.Degree, p.Nodes, p.Edges⟩ : a_)] : List a_) = [p] from rfl, this]
 cases (itV p k).isSome
 ·rw [if_neg (by simp), sb, if_neg (by simp)]
 ·rw [if_pos rfl, sb, if_pos rfl]
theorem oT_ (fuel : Nat) (hf : 1000000000 ≤ fuel) (p : a_) (hN : p.Nodes.length ≤ 100000000) (hE : p.Edges.length ≤ 100000000) (hp : probB p = false) (k : Int) : aU_ fuel p k = some ([], false) := by
 unfold aU_
 rw [ih_ fuel (by omega) p (by omega) (by omega), sb, hp, if_pos (by rfl), sb, if_pos rfl]
theorem iU_ (X : List (List Int)) (hX : ∀ x ∈ X, x.length ≤ 1000 ∧ ∀ y ∈ x, 0 ≤ y ∧ y ≤ 1000) (h : X.length < 1000000000) : cB_ X = some X := by
 have := dw_ (ρ := List (List Int)) (body := cI_ X) (fun j => X.take j ++ List.replicate (X.length - j) []) X.length (fun j hj => by
  have hq : X[j]? = some X[j] := List.getElem?_eq_getElem hj
  have hl : (X.take j ++ List.replicate (X.length - j) ([] : List Int)).length = X.length := by simp; omega
  have hs := hU_ X [] j hj
  rw [List.getD_eq_getElem?_getD, hq] at hs
  unfold cI_
  rw [cu_, hq, sb, in_ _ (by have := (hX _ (List.getElem_mem hj)).1; omega), sb, cu_, List.getElem?_eq_getElem (by omega), sb, lT_ _ _ _ (by omega), sb]
  exact congrArg (fun z => some (Lp.go z)) hs)
 rw [List.take_zero, Nat.sub_zero, List.nil_append, List.take_length, Nat.sub_self, List.replicate_zero, List.append_nil] at this
 unfold cB_ mk
 rw [if_pos (by omega), sb, D_ (by omega) (by omega), sb, Int.toNat_natCast, this, sb]
theorem kR_ (p : a_) (hp : okT p) : cr_ p = some p := by
 obtain ⟨g1, g2, g3, g4, g5, g6⟩ := bc_ hp.1
 have hN := hp.2.1
 have hE := hp.2.2
 unfold cr_
 rw [iU_ _ (fn_ g5 g4 g2) (by omega), sb, iU_ _ (fn_ g6 (by omega) g2) (by omega), sb]
theorem iF_ (fuel : Nat) (hf : 1000000000 ≤ fuel) (p : a_) (hp : okT p) (k : Nat) (hk : k ≤ 5) : ∀ (d j : Nat) (q : a_), j + d = k → itV p j = some q →
  forN (ay_ fuel) d (j : Int) (itL p j) = if (itV p k).isSome then some (.inl (itL p k)) else some (.inr ([], false))
 | 0, j, q, hj, hq => by
  have : j = k := by omega
  subst this
  rw [hq]; rfl
 | d + 1, j, q, hj, hq => by
  obtain ⟨hl, hat⟩ := kO_ hq
  have hok := op_ hp hq
  have hix : ix (itL p j) (j : Int) = some q := by unfold ix; rw [if_pos (by omega), Int.toNat_natCast, hat]
  cases hv : (roundV q).2.2.2
  ·have h0 : ay_ fuel (j : Int) (itL p j) = some (.ret ([], false)) := by
    unfold ay_
    rw [hix, sb, iG_ fuel hf q hok.1 hok.2.1 hok.2.2, sb, hv, if_pos (by rfl)]
   have hno : ∀ i, itV p (j + 1 + i) = none := fun i => by
    induction i with
    | zero =>
     show itV p (j + 1) = none
     unfold itV
     rw [hq, Option.bind_some, hv, if_neg (by simp)]
    | succ i ih =>
     show itV p (j + 1 + i + 1) = none
     unfold itV
     rw [ih]; rfl
   have := hno d
   rw [show j + 1 + d = k by omega] at this
   simp only [forN, h0]
   rw [this]; rfl
  ·have hnx : itV p (j + 1) = some (roundV q).1 := by
    unfold itV
    rw [hq, Option.bind_some, hv, if_pos rfl]
   have h0 : ay_ fuel (j : Int) (itL p j) = some (.go (itL p (j + 1))) := by
    unfold ay_
    rw [hix, sb, iG_ fuel hf q hok.1 hok.2.1 hok.2.2, sb, hv, if_neg (by simp)]
    unfold push
    rw [if_pos (by omega), sb, ii_ hnx]
   simp only [forN, h0]
   exact iF_ fuel hf p hp k hk d (j + 1) _ (by omega) hnx
open Classical in
noncomputable def timV (p : a_) (k : Int) : List a_ × Bool := if probB p = true ∧ 0 ≤ k ∧ k ≤ 5 then (if (itV p k.toNat).isSome then (itL p k.toNat, true) else ([], false)) else ([], false)
theorem mv_ {p : a_} {k : Int} (h : probB p = true) (hc : 0 ≤ k ∧ k ≤ 5) : timV p k = if (itV p k.toNat).isSome then (itL p k.toNat, true) else ([], false) := if_pos ⟨h, hc⟩
theorem is_ {p : a_} {k : Int} (h : ¬ (probB p = true ∧ 0 ≤ k ∧ k ≤ 5)) : timV p k = ([], false) := if_neg h
theorem qO_ (fuel : Nat) (hf : 1000000000 ≤ fuel) (p : a_) (k : Int) (hJ : p.Nodes.length ≤ 100000000) (hE : p.Edges.length ≤ 100000000) : cL_ fuel p k = some (timV p k) := by
 unfold cL_ fB_
 rw [nn_ fuel (by omega) p (by omega) (by omega), sb]
 cases h : probB p
 ·rw [if_pos (by rfl), sb, if_pos rfl, is_ (fun hh => by rw [h] at hh; exact absurd hh.1 (by decide))]
 ·rw [if_neg (by simp), gE_, sb, sb, sb]
  by_cases hc : 0 ≤ k ∧ k ≤ 5
  ·have := iF_ fuel hf p ⟨h, hJ, hE⟩ k.toNat (by omega) k.toNat 0 p (by omega) rfl
   rw [show itL p 0 = [p] by simp [itL, itV], show ((0 : Nat) : Int) = 0 from rfl] at this
   rw [if_neg (by simp; omega), kR_ p ⟨h, hJ, hE⟩, sb, D_ (by omega) (by omega), sb, this, mv_ h hc]
   cases (itV p k.toNat).isSome
   ·rw [if_neg (by simp), sb, if_neg (by simp)]
   ·rw [if_pos rfl, sb, if_pos rfl]
  ·rw [if_pos (by simp; omega), is_ (fun hh => hc hh.2)]
theorem qI_ (fuel : Nat) (hf : 1000000000 ≤ fuel) (p : a_) (k : Int) (hJ : p.Nodes.length ≤ 100000000) (hE : p.Edges.length ≤ 100000000) : aU_ fuel p k = some (timV p k) := by
 cases h : probB p
 ·rw [oT_ fuel hf p hJ hE h, is_ (fun hh => by rw [h] at hh; exact absurd hh.1 (by decide))]
 ·by_cases hc : 0 ≤ k ∧ k ≤ 5
  ·have := ig_ fuel hf p ⟨h, hJ, hE⟩ k.toNat (by omega)
   rw [Int.toNat_of_nonneg hc.1] at this
   rw [this, mv_ h hc]
  ·unfold aU_
   rw [ih_ fuel (by omega) p (by omega) (by omega), sb, h, if_neg (by simp), jP_, sb, sb, if_pos (by simp; omega), is_ (fun hh => hc hh.2)]
theorem kE_ {LL : List (List Int)} (h : ∀ x ∈ LL, x.length ≤ 1000) : ∀ j, off LL j ≤ 1000 * j
 | 0 => by simp [off]
 | j + 1 => by
  have ih := kE_ h j
  by_cases hj : j < LL.length
  ·have := h LL[j] (List.getElem_mem hj)
   rw [gz_ LL j hj, List.getD_eq_getElem?_getD, List.getElem?_eq_getElem hj]
   simp only [Option.getD_some]
   omega
  ·have : off LL (j + 1) = off LL j := by unfold off; rw [List.take_of_length_le (by omega), List.take_of_length_le (by omega)]
   omega
theorem okT.sz {p : a_} (h : okT p) : szT p ≤ 300000000000 := by
 obtain ⟨g1, g2, g3, g4, g5, g6⟩ := bc_ h.1
 have hN := h.2.1
 have hE := h.2.2
 have h1 := kE_ (fun x hx => (fn_ g5 g4 g2 x hx).1) p.Nodes.length
 have h2 := kE_ (fun x hx => (fn_ g6 (by omega) g2 x hx).1) p.Edges.length
 unfold szT tot
 omega
theorem rQ_ (ps qs : List a_) : szQ (ps ++ qs) = szQ ps + szQ qs := by
 unfold szQ
 rw [List.length_append, List.map_append, List.sum_append]
 omega
theorem rr_ {p : a_} (h : okT p) : ∀ {k : Nat} {q : a_}, itV p k = some q → szQ (itL p k) ≤ 300000000001 * (k + 1)
 | 0, q, e => by
  cases e
  have := h.sz
  simp [itL, itV, szQ]
  omega
 | k + 1, q, e => by
  obtain ⟨r, h1, -, -⟩ := nF_ e
  have ih := rr_ h h1
  have := (op_ h e).sz
  rw [ii_ e, rQ_]
  simp [szQ] at *
  omega
theorem ph_ (p : a_) (k : Int) (hJ : p.Nodes.length ≤ 100000000) (hE : p.Edges.length ≤ 100000000) : szQ (timV p k).1 ≤ 10000000000000 := by
 unfold timV
 split
 ·rename_i hc
  cases hv : itV p k.toNat with
  | none => simp [szQ]
  | some q =>
   have := rr_ ⟨hc.1, hJ, hE⟩ hv
   have hk : k.toNat ≤ 5 := by omega
   simp only [Option.isSome_some, if_true]
   have : 300000000001 * (k.toNat + 1) ≤ 300000000001 * 6 := Nat.mul_le_mul_left _ (by omega)
   omega
 ·simp [szQ]
end

section
open Go.RowKit
set_option maxHeartbeats 800000 in
theorem ic_ (B C : Nat) (v : Value) (ps : List a_) (k : Int) (w : World) (h : OwQ B C w v ps) (hk : 0 ≤ k) (hk2 : k + szQ ps ≤ 4611686018427387904) :
  Calls Tryz.prog 18 #[v, .int .i64 k] w fun e w' => e = .returned (.int .i64 (k + offQ ps ps.length)) ∧ OwQ B C w' v (numU k ps ps.length) ∧ Chg B C w w' := by
 obtain ⟨a0, c0, e0, hm, -⟩ : ∃ a c, v = .slice a ps.length c ∧ ps.length ≤ 9223372036854775807 ∧ True := by
  obtain ⟨a, c, h1⟩ := h.ow.form
  exact ⟨a, c, h1, h.ow.len_le, trivial⟩
 subst e0
 have HM0 := Lib.hid h
 clear h
 have HO := Lib.hid (pP_ ps)
 have HOS := Lib.hid (la_ ps)
 go_enter Tryz.func18, Tryz.ntmps18
 go_wp2
 go_loopw [1, 5] (fun x i wr => ∃ j : Nat, j ≤ ps.length ∧ i = .int .i64 j ∧ x = .int .i64 (k + offQ ps j) ∧ OwQ B C wr (.slice a0 ps.length c0) (numU k ps j) ∧ Chg B C w wr) (fun _ i _ => ps.length - (intOf i).toNat)
 case atStart => exact ⟨0, Nat.zero_le _, rfl, by simp [offQ], by rw [qd_]; exact HM0.out, Chg.refl _ _ _⟩
 case round =>
  obtain ⟨j, hj, rfl, rfl, hM, hG⟩ := hrel
  have HG := Lib.hid hG
  clear hG
  by_cases hlt : j < ps.length
  ·have hp : ps[j]? = some ps[j] := List.getElem?_eq_getElem hlt
   have hp' := ik_ k ps j j ps[j] hp
   rw [if_neg (Nat.lt_irrefl _)] at hp'
   obtain ⟨g, lo, hi, a, b, c, d, v2, v3, rfl, -, hcs, hfr, hgs, hBg, hgC, hBl, hhC, q1, q2, q3, q4, q5, q6, hN, hE, hcl⟩ := hM.elem hp'
   have b1 := HO.out (j + 1)
   have b2 := HOS.out j _ hp
   have HNS := Lib.hid (pS_ k ps j _ hp)
   have HCL := Lib.hid hcl
   have HN := Lib.hid hN
   have HE := Lib.hid hE
   obtain ⟨x2, y2, rfl, hl2, -⟩ := hN.rows.form
   obtain ⟨x3, y3, rfl, hl3, -⟩ := hE.rows.form
   have c1 : wr.cell? ⟨g, j * 4, none⟩ = some (.int .i64 (ps[j]).Labels) := hcs 0 _ rfl
   have c2 : wr.cell? ⟨g, j * 4 + 1, none⟩ = some (.int .i64 (ps[j]).Degree) := hcs 1 _ rfl
   have c3 : wr.cell? ⟨g, j * 4 + 2, none⟩ = some (.slice x2 (ps[j]).Nodes.length y2) := hcs 2 _ rfl
   have c4 : wr.cell? ⟨g, j * 4 + 3, none⟩ = some (.slice x3 (ps[j]).Edges.length y3) := hcs 3 _ rfl
   have B2 := Lib.hid b2
   have hcq : Hid (cQ ps[j] = 2 + (off (ps[j]).Nodes (ps[j]).Nodes.length + off (ps[j]).Edges (ps[j]).Edges.length)) := rfl
   have hbd : k + (offQ ps j : Int) + 2 + (tot (ps[j]).Nodes : Int) + (tot (ps[j]).Edges : Int) ≤ 4611686018427387904 := by
    have := pE_ ps j _ hp
    unfold szT at this
    omega
   clear hM hcl hN hE hcs hp hp' b1 b2
   generalize ps[j] = p at *
   obtain ⟨L, D, N, E⟩ := p
   simp only at *
   go_wp2_with fail
   have cW : ((wr.setCell ⟨g, j * 4, none⟩ (.int .i64 (k + (offQ ps j : Nat)))).setCell ⟨g, j * 4 + 1, none⟩ (.int .i64 (k + (offQ ps j : Nat) + 1))).cell? ⟨g, j * 4 + 3, none⟩ = some (.slice x3 E.length y3) := by
    rw [World.cell?_setCell_other _ _ _ _ (by intro h; injection h with h1 h2; omega), World.cell?_setCell_other _ _ _ _ (by intro h; injection h with h1 h2; omega), c4]
   have hz : ((wr.setCell ⟨g, j * 4, none⟩ (.int .i64 (k + (offQ ps j : Nat)))).setCell ⟨g, j * 4 + 1, none⟩ (.int .i64 (k + (offQ ps j : Nat) + 1))).heap.size = wr.heap.size := by simp only [bI_]
   have HN2 := Lib.hid ((HN.out.chg Chg.set (by omega)).chg (Chg.set (i := j * 4 + 1) (u := .int .i64 (k + (offQ ps j : Nat) + 1))) (by omega) : OwM a b ((wr.setCell ⟨g, j * 4, none⟩ (.int .i64 (k + (offQ ps j : Nat)))).setCell ⟨g, j * 4 + 1, none⟩ (.int .i64 (k + (offQ ps j : Nat) + 1))) (.slice x2 N.length y2) N)
   have HE2 := Lib.hid ((HE.out.chg Chg.set (by omega)).chg (Chg.set (i := j * 4 + 1) (u := .int .i64 (k + (offQ ps j : Nat) + 1))) (by omega) : OwM c d ((wr.setCell ⟨g, j * 4, none⟩ (.int .i64 (k + (offQ ps j : Nat)))).setCell ⟨g, j * 4 + 1, none⟩ (.int .i64 (k + (offQ ps j : Nat) + 1))) (.slice x3 E.length y3) E)
   have HCL2 := Lib.hid (HCL.out (k + (offQ ps j : Nat)) (k + (offQ ps j : Nat) + 1))
   clear HN HE HCL c1 c2 c3 c4 hfr
   generalize (wr.setCell ⟨g, j * 4, none⟩ (.int .i64 (k + (offQ ps j : Nat)))).setCell ⟨g, j * 4 + 1, none⟩ (.int .i64 (k + (offQ ps j : Nat) + 1)) = W2 at cW hz HN2 HE2 HCL2 ⊢
   have hoN : off N N.length ≤ tot N := by unfold tot; omega
   have hoE : off E E.length ≤ tot E := by unfold tot; omega
   refine (eo_ a b _ N _ _ HN2.out (by omega) (by omega)).mono ?_
   rintro e W3 ⟨rfl, hO, hG3⟩
   have HE3 := Lib.hid (HE2.out.chg hG3 (by omega))
   have cW3 : W3.cell? ⟨g, j * 4 + 3, none⟩ = some (.slice x3 E.length y3) := (World.cell?_of_block (a := ⟨g, j * 4 + 3, none⟩) (hG3.block g (by omega) (by omega))).trans cW
   have HO3 := Lib.hid hO
   have HG3 := Lib.hid hG3
   clear hO hG3 HN2 HE2 cW
   go_wp2_with fail
   refine (eo_ c d _ E _ _ HE3.out (by omega) (by omega)).mono ?_
   rintro e W4 ⟨rfl, hO, hG4⟩
   have HO4 := Lib.hid (HO3.out.chg hG4 (by omega))
   have HR := Lib.hid (HCL2.out _ _ W4 ((HG3.out.mono (by omega) (by omega)).trans (hG4.mono (by omega) (by omega))) HO4.out hO)
   clear hO hG4 HO4 HO3 HE3 HG3 HCL2
   go_wp2
   go_roundw
   case rel => exact ⟨j + 1, by omega, by go_num, by rw [B2.out, hcq.out]; congr 1; omega, by rw [HNS.out]; exact HR.out.1, HG.out.trans HR.out.2⟩
   case measure => simp [intOf]; omega
  ·go_wp2
   go_ret
   have he : j = ps.length := by omega
   subst he
   exact ⟨rfl, hM, HG.out⟩
end

end Go.Proofs.YtdbbeldgdgonfaaGreat
