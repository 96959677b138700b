/- Part 24 of what this claim rests on (Cmx, Srf, GEq, GCpf), packed by pack.py. -/
import Derived.Sort.Grow
import Derived.Test.YtdbbeldgdgonfaaGreatLayF
import Derived.Sort.OwnSorted
import Derived.Test.YtdbbeldgdgonfaaGreatP03
import Derived.Test.YtdbbeldgdgonfaaGreatP04
import Derived.Test.YtdbbeldgdgonfaaGreatP05
import Derived.Test.YtdbbeldgdgonfaaGreatP06
import Derived.Test.YtdbbeldgdgonfaaGreatP13
namespace Go.Proofs.YtdbbeldgdgonfaaGreat
open Tryz renaming prog→tX_, call171→uw_, results138→un_, underlying41→tY_, sizeOf3→tZ_, isAgg3→ua_, results95→ur_, results179→ve_, underlying22→ub_, results178→vf_, sizeOf41→uf_, isAgg41→ug_, call179→wy_
set_option linter.unusedSimpArgs false
set_option linter.unusedVariables false
section
namespace Ex
open Go.RowKit
structure Keeps (w w':World):Prop where
  k:Go.Proofs.YtdbbeldgdgonfaaGreat.Keeps w w'
  d:w.drawn<=w'.drawn
structure Stp (t:Nat) (o:Tg) (w:World) (o':Tg) (w':World):Prop where
  s:Go.Proofs.YtdbbeldgdgonfaaGreat.Stp t o w o' w'
  d:w.drawn<=w'.drawn
structure Bs (oo o:Tg) (w w':World):Prop where
  b:Go.Proofs.YtdbbeldgdgonfaaGreat.Bs oo o w w'
  d:w.drawn<=w'.drawn
theorem Bs.start(oo:Tg)(w:World):Bs oo (col oo) w w:=⟨Go.Proofs.YtdbbeldgdgonfaaGreat.Bs.start _ _,Nat.le_refl _⟩
theorem Bs.keeps{oo o:Tg}{w w':World}(h:Bs oo o w w'):Keeps w w':=⟨h.b.keeps,h.d⟩
theorem Keeps.stp{w w':World}(h:Keeps w w')(t:Nat)(o:Tg):Stp t o w o w':=⟨h.k.stp t o,h.d⟩
theorem Bs.stp{oo o o':Tg}{w0 w w':World}{t:Nat}(h:Bs oo o w0 w)(s:Stp t o w o' w')(ht:2<=t:=by decide):Bs oo o' w0 w':=⟨h.b.stp s.s ht,Nat.le_trans h.d s.d⟩
theorem wf_atZ{P:Program}{n:Nat}{l:List (Nat×Value)}{w w0:World}{o oo:Tg}{α:Type}[Rp α]{d:Nat}{ty:TypeId}{ps:String}{af:Array Edge}{g:Option (Nat×Bool)}{R:Value->World->Prop}{x y:Operand}{t e:TypeId}{v:Value}{xs:List α}{i:Int}{u:α}(h:RdL zt w0 v xs)(hi:ix xs i=some u)(hB:Bs oo o w0 w)(hx:ev l x=some v)(hy:ev l y=some (.int .i64 i))
  (ht:P.underlying t=some (.slice e)) (hs:∀w,(sizeOf e).run P w=.ok (Rp.sz α) w)
  (h:∀b off cs,Cells w b off cs->Rp.rd zt w0 cs u->R (.pointer (some ⟨b,off,none⟩)) w):op1 P ⟨some d,.indexAddr t x y,ty,ps,af,g⟩ n l w R:=Go.Proofs.YtdbbeldgdgonfaaGreat.wf_atZ (by assumption) hi hB.b hx hy ht hs h
theorem Keeps.grown{w w':World}(h:Keeps w w'):∃q os,w'=Go.Sort.grow (w.drewN q) os:=by
 refine⟨w'.drawn-w.drawn,w'.heap.extract w.heap.size w'.heap.size,?_⟩;obtain⟨⟨h1,h2,h3,h4,h5⟩,h6⟩:=h;unfold Go.Sort.grow World.drewN;cases w' with
 | mk heap tape drawn os output=>
  cases w with
  | mk heap0 tape0 drawn0 os0 output0=>
   simp only at h1 h2 h3 h4 h5 h6;subst h1;subst h2;subst h3;have e1:drawn0+(drawn-drawn0)=drawn:=by omega
   have e2:heap0++heap.extract heap0.size heap.size=heap:=by
    apply Array.ext_getElem?;intro i;rw[Array.getElem?_append];split
    ·rename_i hi;exact(h5 i hi).symm
    ·rename_i hi;rw[Array.getElem?_extract];split
     ·congr 1;omega
     ·rw[Array.getElem?_eq_none (by omega)]
   simp only[e1,e2]
def eM_(w:World)(r:Bool):Ending->World->Prop:=λe w'=>e=.returned (.bool r)∧Keeps w w'
set_option maxRecDepth 100000 in
set_option maxHeartbeats 2000000 in
theorem bH_(w:World)(p0:Int)(r:Bool)(hF:aR_ p0=some r):
  Calls tX_ 171 #[.int .i64 p0] w (eM_ w r):=by
 unfold aR_ at hF;have hB:Bs (λ_=>1) (col (λ_=>1)) w w:=Bs.start _ _;refine j_ (n:=6) (vs:=[.int .i64 p0]) Tryz.func171 rfl rfl ?_;refine b_ ?_;refine d_ ?_;refine q_ (ah_ rfl) (by decide) trivial ?_;refine aI_ (r:=[(0,.int .i64 p0)]) ⟨rfl,trivial⟩ ?_;refine nx ?_;refine b_ ?_;refine d_ ?_;refine q_ (g_ rfl) (by decide) trivial ?_;refine q_ (g_ rfl) (by decide) trivial ?_;refine q_ (dw_ rfl rfl) (by decide) trivial ?_;refine q_ (ah_ rfl) (by decide) trivial ?_;refine aI_ (r:=[(2,.bool (p0 !=p0))]) ⟨rfl,trivial⟩ ?_;refine nx ?_;refine n_ ?_;have e1:=Option.some.inj hF;subst e1;refine N_ (P:=tX_) (vs:=[.bool (p0 !=p0)]) Tryz.results171 ⟨rfl,trivial⟩ ?_;exact⟨rfl,hB.keeps⟩
def ed_(w:World)(r:Int):Ending->World->Prop:=λe w'=>e=.returned (.int .i64 r)∧Keeps w w'
set_option maxRecDepth 100000 in
set_option maxHeartbeats 2000000 in
theorem dY_(w:World)(p0:Int)(p1:Int)(r:Int)(hF:bn_ p0 p1=some r):
  Calls tX_ 138 #[.int .i64 p0,.int .i64 p1] w (ed_ w r):=by
 unfold bn_ at hF;have hB:Bs (λ_=>1) (col (λ_=>1)) w w:=Bs.start _ _;refine j_ (n:=20) (vs:=[.int .i64 p0,.int .i64 p1]) Tryz.func138 rfl rfl ?_;refine b_ ?_;refine d_ ?_;refine q_ (ah_ rfl) (by decide) trivial ?_;refine aI_ (r:=[(0,.int .i64 p0),(1,.int .i64 p1)]) ⟨rfl,rfl,trivial⟩ ?_;refine nx ?_;refine b_ ?_;refine d_ ?_;refine q_ (g_ rfl) (by decide) trivial ?_;obtain⟨x1,hx1,hF⟩:=a_ hF;refine ct_ (by decide) trivial ?_;refine o_ (bH_ w p0 x1 hx1) uw_ ⟨rfl,trivial⟩ ?_;rintro e6 w2 ⟨rfl,k3⟩;have s5:=k3.stp 999 (col (λ_=>1));refine⟨_,rfl,?_⟩;replace hB:=hB.stp s5 (by decide);refine q_ (ah_ rfl) (by decide) trivial ?_;refine aI_ (r:=[(0,.int .i64 p0),(1,.int .i64 p1),(5,.bool x1)]) ⟨rfl,rfl,rfl,trivial⟩ ?_;refine nx ?_;refine b_ ?_;refine d_ ?_;refine q_ (g_ rfl) (by decide) trivial ?_;obtain⟨x7,hx7,hF⟩:=a_ hF;refine ct_ (by decide) trivial ?_;refine o_ (bH_ w2 p1 x7 hx7) uw_ ⟨rfl,trivial⟩ ?_;rintro e12 w8 ⟨rfl,k9⟩;have s11:=k9.stp 999 (col (λ_=>1));refine⟨_,rfl,?_⟩;replace hB:=hB.stp s11 (by decide);refine q_ (ah_ rfl) (by decide) trivial ?_;refine aI_ (r:=[(0,.int .i64 p0),(1,.int .i64 p1),(5,.bool x1),(6,.bool x7)]) ⟨rfl,rfl,rfl,rfl,trivial⟩ ?_;refine nx ?_;refine b_ ?_;refine b_ ?_;refine d_ ?_;refine q_ (g_ rfl) (by decide) trivial ?_;refine aI_ (r:=[(0,.int .i64 p0),(1,.int .i64 p1),(6,.bool x7),(11,.bool x1)]) ⟨rfl,rfl,rfl,rfl,trivial⟩ ?_;refine nx ?_;refine p_ rfl (λt13=>?_) (λt13=>?_)
 ·rw[if_pos t13] at hF;refine b_ ?_;refine b_ ?_;refine d_ ?_;refine q_ (g_ rfl) (by decide) trivial ?_;refine aI_ (r:=[(12,.bool x7)]) ⟨rfl,trivial⟩ ?_;refine nx ?_;refine p_ rfl (λt14=>?_) (λt14=>?_)
  ·rw[if_pos t14] at hF;refine b_ ?_;refine d_ ?_;refine q_ (ah_ rfl) (by decide) trivial ?_;refine aI_ (r:=[(4,.int .i64 0)]) ⟨rfl,trivial⟩ ?_;refine nx ?_;refine n_ ?_;refine I_ ?_;refine I_ ?_;have e15:=Option.some.inj hF;subst e15;refine N_ (P:=tX_) (vs:=[.int .i64 0]) un_ ⟨rfl,trivial⟩ ?_;exact⟨rfl,hB.keeps⟩
  ·rw[if_neg (by rw[t14];decide)] at hF;refine h_ ?_;refine nx ?_;refine b_ ?_;refine d_ ?_;refine q_ (ah_ rfl) (by decide) trivial ?_;refine aI_ (r:=[(4,.int .i64 (-1))]) ⟨rfl,trivial⟩ ?_;refine nx ?_;refine n_ ?_;refine I_ ?_;have e16:=Option.some.inj hF;subst e16;refine N_ (P:=tX_) (vs:=[.int .i64 (-1)]) un_ ⟨rfl,trivial⟩ ?_;exact⟨rfl,hB.keeps⟩
 ·rw[if_neg (by rw[t13];decide)] at hF;refine h_ ?_;refine nx ?_;refine b_ ?_;refine b_ ?_;refine d_ ?_;refine q_ (g_ rfl) (by decide) trivial ?_;refine aI_ (r:=[(0,.int .i64 p0),(1,.int .i64 p1),(13,.bool x7)]) ⟨rfl,rfl,rfl,trivial⟩ ?_;refine nx ?_;refine p_ rfl (λt17=>?_) (λt17=>?_)
  ·rw[if_pos t17] at hF;refine b_ ?_;refine d_ ?_;refine q_ (ah_ rfl) (by decide) trivial ?_;refine aI_ (r:=[(4,.int .i64 1)]) ⟨rfl,trivial⟩ ?_;refine nx ?_;refine n_ ?_;refine I_ ?_;have e18:=Option.some.inj hF;subst e18;refine N_ (P:=tX_) (vs:=[.int .i64 1]) un_ ⟨rfl,trivial⟩ ?_;exact⟨rfl,hB.keeps⟩
  ·rw[if_neg (by rw[t17];decide)] at hF;refine h_ ?_;refine nx ?_;refine b_ ?_;refine b_ ?_;refine d_ ?_;refine q_ (g_ rfl) (by decide) trivial ?_;refine q_ (g_ rfl) (by decide) trivial ?_;refine q_ (u_ rfl rfl) (by decide) trivial ?_;refine aI_ (r:=[(0,.int .i64 p0),(1,.int .i64 p1),(16,.bool (decide (p0<p1)))]) ⟨rfl,rfl,rfl,trivial⟩ ?_;refine nx ?_;refine p_ rfl (λt19=>?_) (λt19=>?_)
   ·rw[if_pos t19] at hF;refine b_ ?_;refine d_ ?_;refine q_ (ah_ rfl) (by decide) trivial ?_;refine aI_ (r:=[(4,.int .i64 (-1))]) ⟨rfl,trivial⟩ ?_;refine nx ?_;refine n_ ?_;refine I_ ?_;have e20:=Option.some.inj hF;subst e20;refine N_ (P:=tX_) (vs:=[.int .i64 (-1)]) un_ ⟨rfl,trivial⟩ ?_;exact⟨rfl,hB.keeps⟩
   ·rw[if_neg (by rw[t19];decide)] at hF;refine h_ ?_;refine nx ?_;refine b_ ?_;refine b_ ?_;refine d_ ?_;refine q_ (g_ rfl) (by decide) trivial ?_;refine q_ (g_ rfl) (by decide) trivial ?_;refine q_ (ef_ rfl rfl) (by decide) trivial ?_;refine aI_ (r:=[(19,.bool (decide (p0>p1)))]) ⟨rfl,trivial⟩ ?_;refine nx ?_;refine p_ rfl (λt21=>?_) (λt21=>?_)
    ·rw[if_pos t21] at hF;refine b_ ?_;refine d_ ?_;refine q_ (ah_ rfl) (by decide) trivial ?_;refine aI_ (r:=[(4,.int .i64 1)]) ⟨rfl,trivial⟩ ?_;refine nx ?_;refine n_ ?_;refine I_ ?_;have e22:=Option.some.inj hF;subst e22;refine N_ (P:=tX_) (vs:=[.int .i64 1]) un_ ⟨rfl,trivial⟩ ?_;exact⟨rfl,hB.keeps⟩
    ·rw[if_neg (by rw[t21];decide)] at hF;refine h_ ?_;refine nx ?_;refine b_ ?_;refine d_ ?_;refine q_ (ah_ rfl) (by decide) trivial ?_;refine aI_ (r:=[(4,.int .i64 0)]) ⟨rfl,trivial⟩ ?_;refine nx ?_;refine n_ ?_;have e23:=Option.some.inj hF;subst e23;refine N_ (P:=tX_) (vs:=[.int .i64 0]) un_ ⟨rfl,trivial⟩ ?_;exact⟨rfl,hB.keeps⟩
def be_(w:World)(r:Int):Ending->World->Prop:=λe w'=>e=.returned (.int .i64 r)∧Keeps w w'
set_option maxRecDepth 100000 in
set_option maxHeartbeats 2000000 in
theorem cX_slices_Compare_int_int(w:World)(u0:Value)(p0:List Int)(g0:RdL zt w u0 p0)(u1:Value)(p1:List Int)(g1:RdL zt w u1 p1)(r:Int)(hF:P_ p0 p1=some r):
  Calls tX_ 95 #[u0,u1] w (be_ w r):=by
 unfold P_ at hF;have hB:Bs (λ_=>1) (col (λ_=>1)) w w:=Bs.start _ _;refine j_ (n:=36) (vs:=[u0,u1]) Tryz.func95 rfl rfl ?_;refine b_ ?_;refine d_ ?_;refine q_ (ah_ rfl) (by decide) trivial ?_;refine aI_ (r:=[(0,u0),(1,u1)]) ⟨rfl,rfl,trivial⟩ ?_;refine nx ?_;refine b_ ?_;refine b_ ?_;refine d_ ?_;refine q_ (g_ rfl) (by decide) trivial ?_;refine q_ (J_ rfl g0 tY_) (by decide) trivial ?_;refine q_ (g_ rfl) (by decide) trivial ?_;refine aI_ (r:=[(0,u0),(1,u1),(9,u0),(10,.int .i64 (p0.length:Int)),(11,.int .i64 0)]) ⟨rfl,rfl,rfl,rfl,rfl,trivial⟩ ?_;refine nx ?_;obtain⟨q4,hq4,hF⟩:=a_ hF;refine A_ (λa w2=>∃(o1:Tg),q4=.inl ()∧Fr a 36 [(0,u0),(1,u1)]∧Bs (λ_=>1) o1 w w2) (λa w'=>∃r',q4=.inr r'∧bodyPost tX_ Tryz.f95 (be_ w r') .ret a w') ?_ ?_ ?_
 ·refine f_ ?_;refine z_ (λ(K:Nat) a w2=>∃(i3:Int)(o1:Tg),forI (ap_ p1) (p0.drop i3.toNat) i3 ()=some q4∧(p0.drop i3.toNat).length=K∧0<=i3∧Fr a 36 [(0,u0),(1,u1),(9,u0),(10,.int .i64 (p0.length:Int)),(11,.int .i64 i3)]∧Bs (λ_=>1) o1 w w2) _ (λa ha=>⟨0,col (λ_=>1),hq4,rfl,Int.le_refl 0,ha.sub (r:=[(0,u0),(1,u1),(9,u0),(10,.int .i64 (p0.length:Int)),(11,.int .i64 0)]) ⟨rfl,rfl,rfl,rfl,rfl,trivial⟩,hB⟩) ?_;rintro K8 a w2 ⟨i3,o1,l5,m7,z6,ha,hB⟩;by_cases t12:i3<(p0.length:Int)
  ·obtain⟨x13,q9,hx13,b10,n11⟩:=R_ z6 t12 l5;have hle:=g0.len_le;dsimp only[ap_] at b10;refine O_ ha ?_;refine b_ ?_;refine d_ ?_;refine q_ (u_ rfl rfl) (by decide) trivial ?_;refine aI_ (r:=[(0,u0),(1,u1),(9,u0),(10,.int .i64 (p0.length:Int)),(11,.int .i64 i3),(12,.bool (decide (i3<(p0.length:Int))))]) ⟨rfl,rfl,rfl,rfl,rfl,rfl,trivial⟩ ?_;refine nx ?_;refine b_ ?_;refine M_ (congrArg (λb=>some (Value.bool b)) (decide_eq_true t12)) ?_;refine h_ ?_;refine nx ?_;refine b_ ?_;refine f_ ?_;refine b_ ?_;refine d_ ?_;refine q_ (g_ rfl) (by decide) trivial ?_;refine ct_ (by decide) trivial ?_;refine wf_atZ g0 hx13 hB rfl rfl tY_ tZ_ ?_;intro b14 f15 c16 h17 h18;cases h18
   refine q_ (e_ rfl ua_ (i_ h17)) (by decide) trivial ?_;refine q_ (ah_ rfl) (by decide) trivial ?_;refine q_ (ah_ rfl) (by decide) trivial ?_;refine aI_ (r:=[(0,u0),(1,u1),(5,.int .i64 i3),(6,.int .i64 x13),(9,u0),(10,.int .i64 (p0.length:Int)),(11,.int .i64 i3)]) ⟨rfl,rfl,rfl,rfl,rfl,rfl,rfl,trivial⟩ ?_;refine nx ?_;refine b_ ?_;refine b_ ?_;refine d_ ?_;refine q_ (g_ rfl) (by decide) trivial ?_;refine q_ (g_ rfl) (by decide) trivial ?_;refine q_ (J_ rfl g1 tY_) (by decide) trivial ?_;refine q_ (lc_ rfl rfl) (by decide) trivial ?_;refine aI_ (r:=[(0,u0),(1,u1),(5,.int .i64 i3),(6,.int .i64 x13),(9,u0),(10,.int .i64 (p0.length:Int)),(11,.int .i64 i3),(19,.bool (decide (i3>=(p1.length:Int))))]) ⟨rfl,rfl,rfl,rfl,rfl,rfl,rfl,rfl,trivial⟩ ?_;refine nx ?_;refine p_ rfl (λt19=>?_) (λt19=>?_)
   ·rw[if_pos t19] at b10;refine b_ ?_;refine d_ ?_;refine q_ (ah_ rfl) (by decide) trivial ?_;refine aI_ (r:=[(4,.int .i64 1)]) ⟨rfl,trivial⟩ ?_;refine nx ?_;refine n_ ?_;refine I_ ?_;refine aq_ ?_;refine I_ ?_;refine I_ ?_;refine aq_ ?_;refine cK_ ?_;have e20:=Option.some.inj b10;subst e20;refine λa ha=>⟨_,n11,?_⟩;refine N_ (P:=tX_) (vs:=[.int .i64 1]) ur_ ⟨rfl,trivial⟩ ?_ a ha;exact⟨rfl,hB.keeps⟩
   ·rw[if_neg (by rw[t19];decide)] at b10;refine h_ ?_;refine nx ?_;refine b_ ?_;refine d_ ?_;refine q_ (g_ rfl) (by decide) trivial ?_;refine q_ (g_ rfl) (by decide) trivial ?_;obtain⟨x21,hx21,b10⟩:=a_ b10;refine ct_ (by decide) trivial ?_;refine wf_atZ g1 hx21 hB rfl rfl tY_ tZ_ ?_;intro b22 f23 c24 h25 h26;cases h26
    refine q_ (e_ rfl ua_ (i_ h25)) (by decide) trivial ?_;refine q_ (ah_ rfl) (by decide) trivial ?_;refine aI_ (r:=[(0,u0),(1,u1),(6,.int .i64 x13),(7,.int .i64 x21),(9,u0),(10,.int .i64 (p0.length:Int)),(11,.int .i64 i3)]) ⟨rfl,rfl,rfl,rfl,rfl,rfl,rfl,trivial⟩ ?_;refine nx ?_;refine b_ ?_;refine d_ ?_;refine q_ (g_ rfl) (by decide) trivial ?_;refine q_ (g_ rfl) (by decide) trivial ?_;obtain⟨x27,hx27,b10⟩:=a_ b10;refine ct_ (by decide) trivial ?_;refine o_ (dY_ w2 x13 x21 x27 hx27) Tryz.call138 ⟨rfl,rfl,trivial⟩ ?_;rintro e32 w28 ⟨rfl,k29⟩;have s31:=k29.stp 999 o1;refine⟨_,rfl,?_⟩;replace hB:=hB.stp s31 (by decide);refine q_ (ah_ rfl) (by decide) trivial ?_;refine aI_ (r:=[(0,u0),(1,u1),(8,.int .i64 x27),(9,u0),(10,.int .i64 (p0.length:Int)),(11,.int .i64 i3)]) ⟨rfl,rfl,rfl,rfl,rfl,rfl,trivial⟩ ?_;refine nx ?_;refine b_ ?_;refine d_ ?_;refine q_ (g_ rfl) (by decide) trivial ?_;refine q_ (dw_ rfl rfl) (by decide) trivial ?_;refine aI_ (r:=[(0,u0),(1,u1),(8,.int .i64 x27),(9,u0),(10,.int .i64 (p0.length:Int)),(11,.int .i64 i3),(28,.bool (x27 !=0))]) ⟨rfl,rfl,rfl,rfl,rfl,rfl,rfl,trivial⟩ ?_;refine nx ?_;refine p_ rfl (λt33=>?_) (λt33=>?_)
    ·rw[if_pos t33] at b10;refine b_ ?_;refine d_ ?_;refine q_ (g_ rfl) (by decide) trivial ?_;refine q_ (ah_ rfl) (by decide) trivial ?_;refine aI_ (r:=[(4,.int .i64 x27)]) ⟨rfl,trivial⟩ ?_;refine nx ?_;refine n_ ?_;refine aq_ ?_;refine I_ ?_;refine I_ ?_;refine aq_ ?_;refine cK_ ?_;have e34:=Option.some.inj b10;subst e34;refine λa ha=>⟨_,n11,?_⟩;refine N_ (P:=tX_) (vs:=[.int .i64 x27]) ur_ ⟨rfl,trivial⟩ ?_ a ha;exact⟨rfl,hB.keeps⟩
    ·rw[if_neg (by rw[t33];decide)] at b10;refine h_ ?_;refine y_ ?_;refine nx ?_;refine d_ ?_;refine q_ (C_ rfl rfl (F_ (by omega) (by omega))) (by decide) trivial ?_;refine q_ (g_ rfl) (by decide) trivial ?_;refine aI_ (r:=[(0,u0),(1,u1),(9,u0),(10,.int .i64 (p0.length:Int)),(11,.int .i64 (i3+1))]) ⟨rfl,rfl,rfl,rfl,rfl,trivial⟩ ?_;refine x_ ?_;have e35:=Option.some.inj b10;subst e35;refine to_k (r:=[(0,u0),(1,u1),(9,u0),(10,.int .i64 (p0.length:Int)),(11,.int .i64 (i3+1))]) ⟨rfl,rfl,rfl,rfl,rfl,trivial⟩ ?_;intro a ha;exact⟨_,(by rw[<-m7];simp only[List.length_drop];omega),i3+1,o1,n11,rfl,by omega,ha,hB⟩
  ·have r36:=S_ t12 l5;refine O_ ha ?_;refine b_ ?_;refine d_ ?_;refine q_ (u_ rfl rfl) (by decide) trivial ?_;refine aI_ (r:=[(0,u0),(1,u1),(9,u0),(10,.int .i64 (p0.length:Int)),(11,.int .i64 i3),(12,.bool (decide (i3<(p0.length:Int))))]) ⟨rfl,rfl,rfl,rfl,rfl,rfl,trivial⟩ ?_;refine nx ?_;refine b_ ?_;refine D_ (congrArg (λb=>some (Value.bool b)) (decide_eq_false t12)) ?_;refine w_ ?_;refine m_ ?_;refine m_ ?_;refine Q_ ?_;refine s_ ?_;refine to_k (r:=[(0,u0),(1,u1)]) ⟨rfl,rfl,trivial⟩ ?_;intro a ha;exact⟨o1,r36,ha,hB⟩
 ·rintro a w2 ⟨o1,rfl,ha,hB⟩;dsimp only at hF;refine ap_k ha ?_;refine nx ?_;refine b_ ?_;refine b_ ?_;refine d_ ?_;refine q_ (g_ rfl) (by decide) trivial ?_;refine q_ (J_ rfl g0 tY_) (by decide) trivial ?_;refine q_ (g_ rfl) (by decide) trivial ?_;refine q_ (J_ rfl g1 tY_) (by decide) trivial ?_;refine q_ (u_ rfl rfl) (by decide) trivial ?_;refine aI_ (r:=[(35,.bool (decide ((p0.length:Int)<(p1.length:Int))))]) ⟨rfl,trivial⟩ ?_;refine nx ?_;refine p_ rfl (λt37=>?_) (λt37=>?_)
  ·rw[if_pos t37] at hF;refine b_ ?_;refine d_ ?_;refine q_ (ah_ rfl) (by decide) trivial ?_;refine aI_ (r:=[(4,.int .i64 (-1))]) ⟨rfl,trivial⟩ ?_;refine nx ?_;refine n_ ?_;refine I_ ?_;have e38:=Option.some.inj hF;subst e38;refine N_ (P:=tX_) (vs:=[.int .i64 (-1)]) ur_ ⟨rfl,trivial⟩ ?_;exact⟨rfl,hB.keeps⟩
  ·rw[if_neg (by rw[t37];decide)] at hF;refine h_ ?_;refine nx ?_;refine b_ ?_;refine d_ ?_;refine q_ (ah_ rfl) (by decide) trivial ?_;refine aI_ (r:=[(4,.int .i64 0)]) ⟨rfl,trivial⟩ ?_;refine nx ?_;refine n_ ?_;have e39:=Option.some.inj hF;subst e39;refine N_ (P:=tX_) (vs:=[.int .i64 0]) ur_ ⟨rfl,trivial⟩ ?_;exact⟨rfl,hB.keeps⟩
 ·rintro a w2 ⟨r',rfl,b40⟩;dsimp only at hF;have e41:=Option.some.inj hF;subst e41;exact b40
end Ex
end
section
open Go.RowKit Go.Sort Go.Shelf
def ngT(g:Nat):Tg:=λb=>if b=g then 1 else 0
def PvS(g:Nat)(w:World)(L:Nat):Type:={p:Pv//RdL (ngT g) w p.v p.x∧p.x.length=L}
theorem ha_{α:Type}[Inhabited α](enc:α->Value)(w:World)(g m:Nat)(dk:Array α)(os:Array Obj):w.heap.size<=(sortWorld enc w g 0 m dk os).heap.size∧∀b,b<w.heap.size->b≠g->(sortWorld enc w g 0 m dk os).heap[b]? =w.heap[b]? :=by
 unfold sortWorld;refine⟨by simp,λb hb hne=>?_⟩;rw[heap_grow_old _ _ (by simpa using hb)];have:g≠b:=λe=>hne e.symm;simp[putRow,mapBlock,Sort.ahead,Array.getElem?_modify,this]
set_option maxHeartbeats 1000000 in
theorem no_{B k:Nat}{o:Tg}{w:World}{v:Value}{ps:List Pv}{L:Nat}(h:Ow B 41 k o w v ps)(hk:k≠0)(hL:∀p∈ps,p.x.length=L)(hl:ps.length<=1000000000):
  Calls tX_ 177 #[v,.func (.func 95) #[] #[]] w λe w'=>e=.returned (.tuple #[])∧∃ps',ps'.Perm ps∧ps'.Pairwise (λa b=>¬ordL b.x a.x<0)∧Ow B 41 k o w' v ps'∧Stp k o w o w':=by
 by_cases hps:ps=[]
 ·subst hps;obtain⟨a,c,rfl⟩:=h.form;have hc:=AnyF.slices_SortFunc_none (P:=tX_) (ρ:=Tryz.laysSortF_ren) {Tryz.laysSortF with} a c (.func (.func 95) #[] #[]) w;refine Calls.mono hc ?_;rintro e w' ⟨rfl,rfl⟩;exact⟨rfl,[],List.Perm.refl _,List.Pairwise.nil,h,Stp.refl _ _ _⟩
 ·obtain⟨css,h1,h2,h3,h4⟩:=id h;have hlz:=Ow.lens (e:=41) (B:=B) h1 h4;rcases h2.2 with⟨_,h0⟩|⟨g,cap,cur,rfl,hbase,hb,hn,hcap,hsz,htk⟩
  ·exact absurd (List.eq_nil_of_length_eq_zero h0) hps
  ·have hog:o g=k:=h3 g rfl;have hgl:g<w.heap.size:=(Array.getElem?_eq_some_iff.1 hb).1;have hrd:∀p∈ps,RdL o w p.v p.x:=λp hp=>by
    obtain⟨i,hi⟩:=List.getElem?_of_mem hp;have hil:=(List.getElem?_eq_some_iff.1 hi).1;exact(h4 i (css[i]'(by omega)) p (List.getElem?_eq_getElem (by omega)) hi).2.2
   have hfl:css.flatten=ps.map (·.v):=by
    have:∀(css:List (List Value))(ps:List Pv),css.length=ps.length->(∀(i:Nat) cs x,css[i]? =some cs->ps[i]? =some x->Rp.rd o w cs x)->css.flatten=ps.map (·.v):=by
     intro css
     induction css with
     |nil=>intro ps hl _;cases ps with
      |nil=>rfl
      |cons a l=>simp at hl
     | cons c css ih=>intro ps hl hh;cases ps with
      |nil=>simp at hl
      |cons a l=>
       obtain⟨e0,_⟩:=hh 0 c a rfl rfl;rw[List.flatten_cons,ih l (by simpa using hl) λi cs x a b=>hh (i+1) cs x (by simpa using a) (by simpa using b),e0];rfl
    exact this css ps h1 h4
   rw[hfl] at htk;have htk':cur.toList.take ps.length=ps.map (·.v):=by
    have:ps.length*Rp.sz Pv=ps.length:=Nat.mul_one _;rw[this] at htk;exact htk
   have hng:∀p∈ps,RdL (ngT g) w p.v p.x∧p.x.length=L:=λp hp=>⟨(hrd p hp).mv (Nat.le_refl _) λb _ hb0=>⟨rfl,by
    unfold ngT;rw[if_neg];intro e;rw[e,hog] at hb0;exact hk hb0⟩,hL p hp⟩
   let α:=PvS g w L
   let d0:List α:=ps.pmap (λp hp=>(⟨p,hp⟩:α)) hng
   have hd0:d0.map (λa=>a.1)=ps:=by
    show(ps.pmap (λp hp=>(⟨p,hp⟩:PvS g w L)) hng).map (λa=>a.1)=ps;rw[List.map_pmap];simp
   have hd0l:d0.length=ps.length:=by rw[<-hd0,List.length_map]
   obtain⟨a0,ha0⟩:∃a:α,a∈d0:=by
    cases hq:d0 with
    |nil=>rw[hq] at hd0l;exact absurd (List.eq_nil_of_length_eq_zero hd0l.symm) hps
    |cons a l=>exact⟨a,by simp⟩
   haveI:Inhabited α:=⟨a0⟩
   let enc:α->Value:=λa=>a.1.v
   let cf:α->α->Int:=λa b=>ordL a.1.x b.1.x
   have hone:OneCell enc:=λa=>a.2.1.one1;have hO:SWO (ltOf cf):=by
    constructor
    ·intro x;show decide (ordL x.1.x x.1.x<0)=false;rw[(hA_ rfl).2 rfl];rfl
    ·intro x y z h1 h2;have h1:ordL x.1.x y.1.x<0:=of_decide_eq_true h1;have h2:ordL y.1.x z.1.x<0:=of_decide_eq_true h2;exact decide_eq_true (if_ (by rw[x.2.2,y.2.2]) (by rw[y.2.2,z.2.2]) h1 h2)
    ·intro x y z h1 h2;have h1:¬ordL x.1.x y.1.x<0:=of_decide_eq_false h1;have h2:¬ordL y.1.x z.1.x<0:=of_decide_eq_false h2;exact decide_eq_false (qe_ (by rw[x.2.2,y.2.2]) (by rw[y.2.2,z.2.2]) h1 h2)
   have hdsz:d0.toArray.size=ps.length:=by simp[hd0l]
   have hcmp:CmpLays1 tX_ 95 #[] enc cf g 0 d0.toArray.size w:=by
    intro m os dk _ x y;obtain⟨q1,q2⟩:=ha_ enc w g m dk os;have rz:∀z:α,RdL zt (sortWorld enc w g 0 m dk os) z.1.v z.1.x:=λz=>z.2.1.mv q1 λb hb0 hz0=>⟨q2 b hb0 λe=>by subst e;simp[ngT] at hz0,rfl⟩;have:=Ex.cX_slices_Compare_int_int (sortWorld enc w g 0 m dk os) (enc x) x.1.x (rz x) (enc y) y.1.x (rz y) (cf x y) (jU_ _ _ (by rw[x.2.2,y.2.2]));refine Calls.mono this ?_;rintro e w' ⟨rfl,hk⟩;exact⟨rfl,hk.grown⟩
   have hH:Holds enc w g 0 d0.toArray:=by
    intro j hj;rw[hdsz] at hj;refine⟨?_,by simp[World.frozen?,hb]⟩;have e1:(cur.toList.take ps.length)[j]? =(ps.map (·.v))[j]? :=by rw[htk']
    rw[List.getElem?_take_of_lt hj] at e1;simp only[World.cell?,hb,Nat.zero_add];simp only[Option.isSome_none,Bool.false_eq_true,if_false];rw[<-Array.getElem?_toList,e1];have e2:(d0.map λa=>a.1)[j]? =ps[j]? :=by rw[hd0]
    rw[List.getElem?_map] at e2 ⊢;rw[<-e2];rw[getElem!_pos _ j (by rw[hdsz];exact hj)];rw[List.getElem?_eq_getElem (by omega)];simp[enc]
   have hS:=Any.slices_SortFunc Tryz.laysSortF enc hone cf hO 95 #[] g 0 cap d0.toArray w Tryz.call95 hcmp hH hgl (by rw[hdsz];omega);rw[hdsz] at hS;refine Calls.mono hS ?_;rintro e w' ⟨rfl,d',n,os,hP,hSo,rfl⟩;obtain⟨p1,-,p3⟩:=hP;have hd'sz:d'.size=ps.length:=by rw[p1,hdsz]
   have hperm:(d'.toList.map λa=>a.1).Perm ps:=by
    have e1:(d'.extract 0 ps.length).toList=d'.toList:=by rw[<-hd'sz];simp
    have e2:(d0.toArray.extract 0 ps.length).toList=d0:=by rw[<-hdsz];simp
    rw[e1,e2] at p3;have:=p3.map λa=>a.1;rw[hd0] at this;exact this
   obtain⟨q1,q2⟩:=ha_ enc w g n d' os;have hst:Stp k o w o (sortWorld enc w g 0 n d' os):=⟨rfl,rfl,rfl,q1,λb hb0 hne=>q2 b hb0 λe=>hne (by rw[e,hog]),λ_ _=>rfl⟩;refine⟨rfl,d'.toList.map λa=>a.1,hperm,?_,?_,hst⟩
   ·rw[List.pairwise_map,List.pairwise_iff_getElem];intro i j hi hj hij;have hj':j<d'.size:=by simpa using hj
    have:=hSo i j (Nat.zero_le _) hij (by omega);rw[getElem!_pos _ i (by omega),getElem!_pos _ j hj'] at this;exact of_decide_eq_false this
   ·have hlen:(d'.toList.map λa=>a.1).length=ps.length:=hperm.length_eq;have hheap:(sortWorld enc w g 0 n d' os).heap[g]? =some (.cells (putCells enc 0 d' cur) 41 (0,0)):=by
     unfold sortWorld;rw[heap_grow_old _ _ (by simpa using hgl)];simp[putRow,mapBlock,Sort.ahead,Array.getElem?_modify,hb,onCells]
    have hcsz:cur.size=cap:=by rw[hsz];exact Nat.mul_one _
    refine⟨(d'.toList.map λa=>a.1).map λp=>[p.v],by simp,?_,h3,λi cs p hc hp=>?_⟩
    ·have hf2:∀l:List Pv,(l.map λp=>[p.v]).flatten=l.map (·.v):=by
      intro l
      induction l with
      |nil=>rfl
      |cons a l ih=>simp[List.flatten_cons,ih]
     rw[hf2,hlen];refine⟨by rw[List.length_map,hlen];exact(Nat.mul_one _).symm,.inr ⟨g,cap,_,rfl,hbase,hheap,hn,hcap,by simp[putCells];rw[hcsz];exact(Nat.mul_one _).symm,?_⟩⟩;show(putCells enc 0 d' cur).toList.take (ps.length*1)=_;rw[Nat.mul_one,<-hd'sz];apply List.ext_getElem?;intro j;by_cases hj:j<d'.size
     ·rw[List.getElem?_take_of_lt hj,Array.getElem?_toList];simp[putCells,hj,show j<cur.size by omega,enc]
     ·rw[List.getElem?_take_eq_none (by omega),List.getElem?_eq_none (by simp;omega)]
    ·rw[List.getElem?_map,hp] at hc;cases hc
     have hm:p∈ps:=hperm.subset (List.mem_of_getElem? hp);exact sg_ ((hrd p hm).stp hst hk)
end
section
set_option maxRecDepth 100000
set_option maxHeartbeats 2000000
open Go.RowKit
def bp_(d:List Int)(f:List Int):Int->Unit->Option (Lp Unit Unit Bool):=λ(c:Int)(s:Unit)=>
  (ix d c)>>=λa=>
  (ix f c)>>=λb=>
  if a !=b then
    some (.ret false)
  else
    some (.go ())
def aU_(a:List Int)(b:List Int):Option Bool:=
  if(a.length:Int) !=(b.length:Int) then
    some false
  else
    ck (a.length:Int)>>=λ_=>
    (forN (bp_ a b) ((a.length:Int)).toNat 0 ())>>=λc=>
    match c with
    | .inl _=>
      some true
    | .inr r'=>some r'
def dU_(w:World)(r:Bool):Ending->World->Prop:=λe w'=>e=.returned (.bool r)∧Keeps w w'
theorem dZ_(w:World)(g:Value)(d:Yl)(B:RdL zt w g d)(i:Value)(x:Yl)(C:RdL zt w i x)(r:Bool)(hF:aU_ d x=some r):
    Calls tX_ 179 #[g,i] w (dU_ w r):=by
 unfold aU_ at hF;have hB:Bs (λ_=>1) (col (λ_=>1)) w w:=Bs.start _ _;refine j_ (n:=26) (vs:=[g,i]) Tryz.func179 rfl rfl ?_;refine Zq (Za rfl (Ze [(0,_),(1,_)] (nx (b_ (Zq (Zm rfl (Zv (J_ rfl B tY_) (Zm rfl (Zv (J_ rfl C tY_) (Zv (dw_ rfl rfl) (Ze [(0,_),(1,_),(10,_)] (nx ?_))))))))))));refine p_ rfl (λD=>?_) (λD=>?_)
 ·rw[if_pos D] at hF;refine Zq (Za rfl (Ze [(4,_)] (nx (n_ (I_ ?_)))));have Z:=Zj hF;subst Z;refine Zr ve_ [.bool false] ?_;exact⟨rfl,hB.keeps⟩
 ·replace hF:=ZF D hF;refine h_ (nx (b_ (Zq (Zm rfl (Zv (J_ rfl B tY_) (Zm rfl (Ze [(0,_),(1,_),(12,_),(13,_)] (nx ?_))))))));obtain⟨c5,a0,hF⟩:=a_ hF;obtain⟨-,h7a,h7b⟩:=cr_ a0;obtain⟨E,F,hF⟩:=a_ hF;refine A_ (λa s=>∃(u:Tg),E=.inl ()∧Fr a 26 []∧Bs (λ_=>1) u w s) (λa w'=>∃r',E=.inr r'∧bodyPost tX_ Tryz.f179 (dU_ w r') .ret a w') ?_ ?_ ?_
  ·refine f_ ?_;refine z_ (λ(K:Nat) a s=>∃(b:Int)(u:Tg),forN (bp_ d x) ((d.length:Int)-b).toNat b ()=some E∧((d.length:Int)-b).toNat=K∧0<=b∧Fr a 26 [(0,g),(1,i),(12,ZI (d.length:Int)),(13,ZI b)]∧Bs (λ_=>1) u w s) _ (λa ha=>⟨0,col (λ_=>1),(by rw[Int.sub_zero];exact F),rfl,Int.le_refl 0,ha.sb,hB⟩) ?_;rintro K12 a s ⟨b,u,Y,G,a1,ha,hB⟩;by_cases j:b<(d.length:Int)
   ·obtain⟨a2,f,y⟩:=bz_ j Y;dsimp only[bp_] at f;refine O_ ha ?_;refine Zq (Zv (u_ rfl rfl) (Ze [(0,_),(1,_),(12,_),(13,_),(14,_)] (nx (b_ ?_))));refine M_ (Zb (decide_eq_true j)) ?_;refine h_ (nx (b_ (f_ (Zq (Zm rfl (Za rfl (Ze [(0,_),(1,_),(5,_),(12,_),(13,_)] (nx (b_ ?_)))))))));obtain⟨z,k,f⟩:=a_ f;obtain⟨A,m,f⟩:=a_ f;refine ZW (Bf:=λa3 a4=>Bs (λ_=>1) a3 w a4) [(0,_),(1,_),(5,_),(12,_),(13,_)] (Zrg 16 8) [[],[],[0,1],[2],[],[],[4,5],[6]] (Zcn 8) (Zt9 8) (Zt0 8) [999] [.inl g,.inl (ZI b),.inr (λv o a5=>∃vl,v=adr vl (b.toNat*Rp.sz Int)∧RdL zt w vl d),.inl (ZI z),.inl i,.inl (ZI b),.inr (λv o a5=>∃vl,v=adr vl (b.toNat*Rp.sz Int)∧RdL zt w vl x),.inl (ZI A)] hB ⟨λ_ _ _ _ _ _ a6 hb ⟨vl,e,h⟩ hs=>⟨vl,e,h⟩,λ_ _ _ _ _ _ a6 hb ⟨vl,e,h⟩ hs=>⟨vl,e,h⟩,trivial⟩ ?_ ?_
    ·refine⟨Dp (g_ rfl),Dp (g_ rfl),?_,?_,Dp (g_ rfl),Dp (g_ rfl),?_,?_,trivial⟩
     ·rintro a7 a8 a9 ha hB-;refine Zs ha ?_;refine an_ B k rfl rfl tY_ tZ_ ?_;exact⟨_,Stp.refl _ _ _,⟨_,rfl,B⟩⟩
     ·rintro b0 b1 b2 ha hB ⟨H,-⟩;obtain⟨b3,I,J⟩:=H;have ha:=ha.c I;refine Zs ha ?_;refine cm_ J k hB rfl rfl ua_ ?_;intro b4 L;cases L
      exact Zx rfl
     ·rintro b5 b6 b7 ha hB-;refine Zs ha ?_;refine an_ C m rfl rfl tY_ tZ_ ?_;exact⟨_,Stp.refl _ _ _,⟨_,rfl,C⟩⟩
     ·rintro b8 b9 c0 ha hB ⟨M,-⟩;obtain⟨c1,N,O⟩:=M;have ha:=ha.c N;refine Zs ha ?_;refine cm_ O m hB rfl rfl ua_ ?_;intro c2 Q;cases Q
      exact Zx rfl
    rintro _ rfl R c3 c4 ha hB-;refine aS_ ha ?_;refine Zv (dw_ rfl rfl) (Ze [(0,_),(1,_),(12,_),(13,_),(24,_)] (nx ?_));refine p_ rfl (λq=>?_) (λq=>?_)
    ·rw[if_pos q] at f;refine Zq (Za rfl (Ze [(4,_)] (nx (n_ (aq_ (I_ (I_ (aq_ ?_))))))));refine cK_ ?_;have S:=Zj f;subst S;refine λa ha=>⟨_,y,?_⟩;refine N_ (P:=tX_) (vs:=[.bool false]) ve_ ⟨rfl,trivial⟩ ?_ a ha;exact⟨rfl,hB.keeps⟩
    ·replace f:=ZF q f;refine h_ (y_ (nx (d_ (Zv (C_ rfl rfl (F_ (by omega) (by omega))) (Zm rfl (Ze [(0,_),(1,_),(12,_),(13,_)] (x_ ?_)))))));have T:=Zj f;subst T;refine Zk [(0,_),(1,_),(12,_),(13,_)] ?_;intro a ha;exact⟨_,(by rw[<-G];omega),b+1,R,y,rfl,by omega,ha,hB⟩
   ·have U:=bx_ j Y;refine O_ ha ?_;refine Zq (Zv (u_ rfl rfl) (Ze [(0,_),(1,_),(12,_),(13,_),(14,_)] (nx (b_ ?_))));refine D_ (Zb (decide_eq_false j)) ?_;refine w_ ?_;refine m_ (m_ (Q_ ?_));refine s_ ?_;refine Zk [] ?_;intro a ha;exact⟨u,U,ha,hB⟩
  ·rintro a s ⟨u,rfl,ha,hB⟩;dsimp only at hF;refine ap_k ha ?_;refine Zn (Za rfl (Ze [(4,_)] (nx (n_ ?_))));have V:=Zj hF;subst V;refine Zr ve_ [.bool true] ?_;exact⟨rfl,hB.keeps⟩
  ·rintro a s ⟨r',rfl,W⟩;dsimp only at hF;have X:=Zj hF;subst X;exact W
end
section
set_option maxRecDepth 100000
set_option maxHeartbeats 2000000
open Go.RowKit
def Y_(a:Int):((List Pv)×Int×Int)->Option (Lp ((List Pv)×Int×Int) ((List Pv)×Int×Int) (List Pv)):=λ(s:(List Pv)×Int×Int)=>
  (cut s.1 a s.1.length)>>=λn=>
  if decide (s.2.2<((s.1.length:Int)-a)) then
    (ix s.1 (a+s.2.2))>>=λc=>
    (nn s.2.2)>>=λq=>
    (cut s.1 a s.1.length)>>=λu=>
    (ck (s.2.2-1))>>=λb=>
    (ix s.1 (a+b))>>=λd=>
    (nn b)>>=λv=>
    (cut s.1 a s.1.length)>>=λy=>
    (aU_ c.x d.x)>>=λf=>
    if !f then
      (ix s.1 (a+s.2.2))>>=λg=>
      (nn s.2.2)>>=λz=>
      (cut s.1 a s.1.length)>>=λA=>
      (ix s.1 s.2.1)>>=λB=>
      (st s.1 s.2.1 g)>>=λi=>
      (ck (s.2.1+1))>>=λj=>
      (ck (s.2.2+1))>>=λk=>
      some (.go (i,j,k))
    else
      (ck (s.2.2+1))>>=λm=>
      some (.go (s.1,s.2.1,m))
  else
    some (.out (s.1,s.2.1,s.2.2))
def U_(fuel:Nat):((List Pv)×Int)->Option (Lp ((List Pv)×Int) ((List Pv)×Int) (List Pv)):=λ(s:(List Pv)×Int)=>
  if decide (s.2<(s.1.length:Int)) then
    (ix s.1 s.2)>>=λg=>
    (ck (s.2-1))>>=λi=>
    (ix s.1 i)>>=λj=>
    (aU_ g.x j.x)>>=λk=>
    if k then
      (cut s.1 s.2 s.1.length)>>=λu=>
      (loopF (Y_ s.2) fuel (s.1,s.2,1))>>=λc=>
      match c with
      | .inl (a,b,m)=>
        (cut a b a.length)>>=λn=>
        (cut a b a.length)>>=λq=>
        (cut a 0 b)>>=λd=>
        some (.ret d)
      | .inr _=>none
    else
      (ck (s.2+1))>>=λf=>
      some (.go (s.1,f))
  else
    some (.out (s.1,s.2))
def aT_(fuel:Nat)(a:List Pv):Option (List Pv):=
  if decide ((a.length:Int)<2) then
    some a
  else
    (loopF (U_ fuel) fuel (a,1))>>=λb=>
    match b with
    | .inl (c,d)=>
      some c
    | .inr r'=>some r'
def cx_(oo o:Tg)(w b:World)(r:List Pv):Ending->World->Prop:=λe w'=>∃(a:Value)(o':Tg),e=.returned a∧Ow w.heap.size 41 10 o' w' a r∧Bs oo o' w w'∧Stp 10 o b o' w'
theorem eh_(fuel:Nat)(w E:World)(oo o:Tg)(hB:Bs oo o w E)(hO:∀b,b<E.heap.size->o b≠999)(g:Value)(i6:List Pv)(i7:Ow w.heap.size 41 10 o E g i6)(r:List Pv)(hF:aT_ fuel i6=some r):
    Calls tX_ 178 #[g,.func (.func 179) #[] #[]] E (cx_ oo o w E r):=by
 unfold aT_ at hF;have hS:Stp 10 o E o E:=Stp.refl _ _ _;refine j_ (n:=66) (vs:=[g,.func (.func 179) #[] #[]]) Tryz.func178 rfl rfl ?_;refine Zq (Za rfl (Ze [(0,_),(1,_)] (nx (b_ (Zq (Zm rfl (Zv (bt_ rfl i7 ub_) (Zv (u_ rfl rfl) (Ze [(0,_),(1,_),(10,_)] (nx ?_))))))))));refine p_ rfl (λi8=>?_) (λi8=>?_)
 ·rw[if_pos i8] at hF;refine Zq (Zm rfl (Za rfl (Ze [(4,_)] (nx (n_ (I_ ?_))))));have r5:=Zj hF;subst r5;refine Zr vf_ [g] ?_;exact⟨_,o,rfl,i7,hB,hS⟩
 ·replace hF:=ZF i8 hF;refine h_ (nx (b_ (Zq (Za rfl (Ze [(0,_),(1,_),(5,_)] (nx ?_))))));obtain⟨i9,j0,hF⟩:=a_ hF;refine A_ (λa a5=>∃(J:List Pv)(q:Int)(Q:Tg),i9=.inl (J,q)∧Fr a 66 [(0,g)]∧Bs oo Q w a5∧Stp 10 o E Q a5∧Ow w.heap.size 41 10 Q a5 g J) (λa w'=>∃r',i9=.inr r'∧bodyPost tX_ Tryz.f178 (cx_ oo o w E r') .ret a w') ?_ ?_ ?_
  ·refine f_ ?_;refine z_ (λ(K:Nat) a a5=>∃(J:List Pv)(q:Int)(Q:Tg),loopF (U_ fuel) K (J,q)=some i9∧Fr a 66 [(0,g),(1,.func (.func 179) #[] #[]),(5,ZI q)]∧Bs oo Q w a5∧Stp 10 o E Q a5∧Ow w.heap.size 41 10 Q a5 g J) fuel (λa ha=>⟨i6,1,o,j0,ha.sb,hB,hS,i7⟩) ?_;rintro K12 a a5 ⟨J,q,Q,r6,ha,hB,hS,u⟩;obtain⟨K16,r7,r8,i,b5⟩:=ad_ r6;dsimp only[U_] at i;refine O_ ha ?_;refine b_ (Zq (Zm rfl (Zm rfl (Zv (bt_ rfl u ub_) (Zv (u_ rfl rfl) (Ze [(0,_),(1,_),(5,_),(15,_)] (nx ?_)))))));refine p_ rfl (λb6=>?_) (λb6=>?_)
   ·rw[if_pos b6] at i;refine h_ (nx (b_ (f_ (b_ ?_))));obtain⟨b7,a7,i⟩:=a_ i;obtain⟨e2,e3,i⟩:=a_ i;obtain⟨b8,a8,i⟩:=a_ i;refine cw_ (o:=Q) [(0,g),(1,.func (.func 179) #[] #[]),(5,ZI q)] [0,1,5] [18,19,20,21,22,23,24,25,26,27] [[],[],[],[1,2],[3],[],[],[6],[5,7],[8]] [none,none,none,none,none,none,none,none,none,none] [999,999,999,999,999,999,999,999,999,999] [0,0,0,10,0,0,0,0,10,0] [999] [λv _ _=>v=(.func (.func 179) #[] #[]),λv _ _=>v=g,λv _ _=>v=(ZI q),λv o F=>∃vl,v=adr vl (q.toNat*Rp.sz Pv)∧Ow w.heap.size 41 10 o F vl J,λv o F=>RdL o F v (b7.x:Yl),λv _ _=>v=g,λv _ _=>v=(ZI q),λv _ _=>v=(ZI e2),λv o F=>∃vl,v=adr vl (e2.toNat*Rp.sz Pv)∧Ow w.heap.size 41 10 o F vl J,λv o F=>RdL o F v (b8.x:Yl)] (λb9 c0=>Bs oo b9 w c0∧Stp 10 o E b9 c0∧Ow w.heap.size 41 10 b9 c0 g J) ao_ (by kernel_rfl) rfl ⟨rfl,rfl,rfl,trivial⟩ ⟨hB,hS,u⟩ ?_ ⟨E_ _,E_ _,E_ _,λ_ _ _ _ _ _ G hb ⟨vl,e,h⟩ hs=>⟨vl,e,h.stp hs G.1 (Ne.symm hb)⟩,λ_ _ _ _ _ _ G hb h hs=>h.stp hs G.1,E_ _,E_ _,E_ _,λ_ _ _ _ _ _ G hb ⟨vl,e,h⟩ hs=>⟨vl,e,h.stp hs G.1 (Ne.symm hb)⟩,λ_ _ _ _ _ _ G hb h hs=>h.stp hs G.1,trivial⟩ ?_ ?_
    ·rintro j1 r9 E s0 s1 H ⟨hB,hS,u⟩ I;have H:j1=999:=by simpa using H
     subst H;all_goals exact⟨hB.stp I (by decide),hS.tr9 hO I,u.stp I (by decide) (by decide)⟩
    ·refine⟨?_,?_,?_,?_,?_,?_,?_,?_,?_,?_,trivial⟩
     ·rintro s2 s3 s4 ha ⟨hB,hS,u⟩-;refine Zs ha ?_;refine l_ (g_ rfl) ?_;exact Zx rfl
     ·rintro s5 s6 s7 ha ⟨hB,hS,u⟩-;refine Zs ha ?_;refine l_ (g_ rfl) ?_;exact Zx rfl
     ·rintro s8 s9 t0 ha ⟨hB,hS,u⟩-;refine Zs ha ?_;refine l_ (g_ rfl) ?_;exact Zx rfl
     ·rintro t1 t2 t3 ha ⟨hB,hS,u⟩ ⟨j2,j3,-⟩;have ha:=ha.c j2;have ha:=ha.c j3;refine Zs ha ?_;refine bI_ u a7 rfl rfl ub_ uf_ ?_;exact⟨_,Stp.refl _ _ _,⟨_,rfl,u⟩⟩
     ·rintro t4 t5 t6 ha ⟨hB,hS,u⟩ ⟨j4,-⟩;obtain⟨t7,j5,j6⟩:=j4;have ha:=ha.c j5;refine Zs ha ?_;refine bq_ j6 a7 rfl rfl ug_ ?_;intro t8 j7;obtain⟨j8,-,j9⟩:=j7;cases j8
      exact⟨_,Stp.refl _ _ _,j9⟩
     ·rintro t9 u0 u1 ha ⟨hB,hS,u⟩-;refine Zs ha ?_;refine l_ (g_ rfl) ?_;exact Zx rfl
     ·rintro u2 u3 u4 ha ⟨hB,hS,u⟩-;refine Zs ha ?_;refine l_ (g_ rfl) ?_;exact Zx rfl
     ·rintro u5 u6 u7 ha ⟨hB,hS,u⟩ ⟨k0,-⟩;have ha:=ha.c k0;refine Zs ha ?_;refine l_ (bE_ rfl rfl e3) ?_;exact Zx rfl
     ·rintro u8 u9 v0 ha ⟨hB,hS,u⟩ ⟨k1,k2,-⟩;have ha:=ha.c k1;have ha:=ha.c k2;refine Zs ha ?_;refine bI_ u a8 rfl rfl ub_ uf_ ?_;exact⟨_,Stp.refl _ _ _,⟨_,rfl,u⟩⟩
     ·rintro v1 v2 v3 ha ⟨hB,hS,u⟩ ⟨k3,-⟩;obtain⟨v4,k4,k5⟩:=k3;have ha:=ha.c k4;refine Zs ha ?_;refine bq_ k5 a8 rfl rfl ug_ ?_;intro v5 k6;obtain⟨k7,-,k8⟩:=k6;cases k7
      exact⟨_,Stp.refl _ _ _,k8⟩
    rintro R c1 a6 ha ⟨hB,hS,u⟩ ⟨k9,-,-,-,N,-,-,-,-,O,-⟩;have ha:=ha.c k9;replace N:RdL R c1 (a6.tmps.getD 22 undef) (b7.x:Yl):=N;generalize l0:a6.tmps.getD 22 undef=v6 at N;have ha:=ha.c l0;replace O:RdL R c1 (a6.tmps.getD 27 undef) (b8.x:Yl):=O;generalize l1:a6.tmps.getD 27 undef=v7 at O;have ha:=ha.c l1;refine aS_ ha ?_;simp only[List.length_cons,List.length_nil,Nat.zero_add,Nat.reduceAdd,List.drop_succ_cons,List.drop_zero];obtain⟨e4,e5,i⟩:=a_ i;refine Zo ?_;refine pj_ (dZ_ c1 _ b7.x N.z _ b8.x O.z e4 e5) wy_ rfl ⟨rfl,rfl,trivial⟩ ?_;rintro v8 v9 ⟨rfl,l2⟩;have S:=l2.stp 999 R;refine⟨_,rfl,?_⟩;replace hS:=hS.tr9 hO S;replace u:=u.stp S;replace N:=N.stp S;replace O:=O.stp S;replace hB:=hB.stp S;refine Ze [(0,_),(1,_),(5,_),(28,_)] (nx ?_);refine p_ rfl (λc2=>?_) (λc2=>?_)
    ·rw[if_pos c2] at i;refine Zq (Zm rfl (Zm rfl ?_));obtain⟨w0,e6,i⟩:=a_ i;refine Zo ?_;refine ke_ u e6 rfl rfl ub_ uf_ ?_;refine Za rfl (Ze [(0,_),(1,_),(5,_),(6,_)] (nx (b_ (Zq (Za rfl (Ze [(0,_),(1,_),(5,_),(6,_),(7,_)] (nx ?_)))))));obtain⟨a9,c3,i⟩:=a_ i;refine A_ (λa s=>∃(y:List Pv)(j:Int)(k:Int)(m:Tg),a9=.inl (y,j,k)∧Fr a 66 [(0,g),(5,ZI j)]∧Bs oo m w s∧Stp 10 o E m s∧Ow w.heap.size 41 10 m s g y) (λ_ _=>False) ?_ ?_ ?_
     ·refine f_ ?_;refine z_ (λ(K:Nat) a s=>∃(y:List Pv)(j:Int)(k:Int)(m:Tg),loopF (Y_ q) K (y,j,k)=some a9∧Fr a 66 [(0,g),(1,.func (.func 179) #[] #[]),(5,ZI j),(6,subv g q.toNat),(7,ZI k)]∧Bs oo m w s∧Stp 10 o E m s∧Ow w.heap.size 41 10 m s g y) fuel (λa ha=>⟨J,q,1,R,c3,ha.sb,hB,hS,u⟩) ?_;rintro K109 a s ⟨y,j,k,m,e7,ha,hB,hS,f⟩;obtain⟨K113,l3,l4,d,T⟩:=ad_ e7;dsimp only[Y_] at d;refine O_ ha ?_;refine b_ (Zq (Zm rfl (Zm rfl ?_)));obtain⟨l5,c4,d⟩:=a_ d;refine Zv (rp_ f c4 rfl ub_) (Zv (u_ rfl rfl) (Ze [(0,_),(1,_),(5,_),(6,_),(7,_),(35,_)] (nx ?_)));refine p_ rfl (λU=>?_) (λU=>?_)
      ·rw[if_pos U] at d;refine h_ (nx (b_ (f_ (b_ ?_))));obtain⟨V,W,d⟩:=a_ d;obtain⟨l6,c5,d⟩:=a_ d;obtain⟨l7,c6,d⟩:=a_ d;obtain⟨b0,c7,d⟩:=a_ d;obtain⟨X,Y,d⟩:=a_ d;obtain⟨l8,c8,d⟩:=a_ d;obtain⟨l9,c9,d⟩:=a_ d;refine cw_ (o:=m) [(0,g),(1,.func (.func 179) #[] #[]),(5,ZI j),(6,subv g q.toNat),(7,ZI k)] [0,1,5,6,7] [38,39,40,41,42,43,44,45,46,47] [[],[],[],[1,2],[3],[],[],[6],[5,7],[8]] [none,none,none,none,none,none,none,none,none,none] [999,999,999,999,999,999,999,999,999,999] [0,0,0,10,0,0,0,0,10,0] [999] [λv _ _=>v=(.func (.func 179) #[] #[]),λv _ _=>v=(subv g q.toNat),λv _ _=>v=(ZI k),λv o F=>∃vl,v=adr vl ((q+k).toNat*Rp.sz Pv)∧Ow w.heap.size 41 10 o F vl y,λv o F=>RdL o F v (V.x:Yl),λv _ _=>v=(subv g q.toNat),λv _ _=>v=(ZI k),λv _ _=>v=(ZI b0),λv o F=>∃vl,v=adr vl ((q+b0).toNat*Rp.sz Pv)∧Ow w.heap.size 41 10 o F vl y,λv o F=>RdL o F v (X.x:Yl)] (λb9 c0=>Bs oo b9 w c0∧Stp 10 o E b9 c0∧Ow w.heap.size 41 10 b9 c0 g y) ao_ (by kernel_rfl) rfl ⟨rfl,rfl,rfl,rfl,rfl,trivial⟩ ⟨hB,hS,f⟩ ?_ ⟨E_ _,E_ _,E_ _,λ_ _ _ _ _ _ G hb ⟨vl,e,h⟩ hs=>⟨vl,e,h.stp hs G.1 (Ne.symm hb)⟩,λ_ _ _ _ _ _ G hb h hs=>h.stp hs G.1,E_ _,E_ _,E_ _,λ_ _ _ _ _ _ G hb ⟨vl,e,h⟩ hs=>⟨vl,e,h.stp hs G.1 (Ne.symm hb)⟩,λ_ _ _ _ _ _ G hb h hs=>h.stp hs G.1,trivial⟩ ?_ ?_
       ·rintro j1 r9 E s0 s1 H ⟨hB,hS,f⟩ I;have H:j1=999:=by simpa using H
        subst H;all_goals exact⟨hB.stp I (by decide),hS.tr9 hO I,f.stp I (by decide) (by decide)⟩
       ·refine⟨?_,?_,?_,?_,?_,?_,?_,?_,?_,?_,trivial⟩
        ·rintro m0 m1 m2 ha ⟨hB,hS,f⟩-;refine Zs ha ?_;refine l_ (g_ rfl) ?_;exact Zx rfl
        ·rintro m3 m4 m5 ha ⟨hB,hS,f⟩-;refine Zs ha ?_;refine l_ (g_ rfl) ?_;exact Zx rfl
        ·rintro m6 m7 m8 ha ⟨hB,hS,f⟩-;refine Zs ha ?_;refine l_ (g_ rfl) ?_;exact Zx rfl
        ·rintro m9 n0 n1 ha ⟨hB,hS,f⟩ ⟨e8,e9,-⟩;have ha:=ha.c e8;have ha:=ha.c e9;refine Zs ha ?_;refine jx_ f c6 W (nR_ c5) rfl rfl ub_ uf_ ?_;exact⟨_,Stp.refl _ _ _,⟨_,rfl,f⟩⟩
        ·rintro n2 n3 n4 ha ⟨hB,hS,f⟩ ⟨f0,-⟩;obtain⟨n5,f1,f2⟩:=f0;have ha:=ha.c f1;refine Zs ha ?_;refine bq_ f2 W rfl rfl ug_ ?_;intro n6 f3;obtain⟨f4,-,f5⟩:=f3;cases f4
         exact⟨_,Stp.refl _ _ _,f5⟩
        ·rintro n7 n8 n9 ha ⟨hB,hS,f⟩-;refine Zs ha ?_;refine l_ (g_ rfl) ?_;exact Zx rfl
        ·rintro o0 o1 o2 ha ⟨hB,hS,f⟩-;refine Zs ha ?_;refine l_ (g_ rfl) ?_;exact Zx rfl
        ·rintro o3 o4 o5 ha ⟨hB,hS,f⟩ ⟨f6,-⟩;have ha:=ha.c f6;refine Zs ha ?_;refine l_ (bE_ rfl rfl c7) ?_;exact Zx rfl
        ·rintro o6 o7 o8 ha ⟨hB,hS,f⟩ ⟨f7,f8,-⟩;have ha:=ha.c f7;have ha:=ha.c f8;refine Zs ha ?_;refine jx_ f c9 Y (nR_ c8) rfl rfl ub_ uf_ ?_;exact⟨_,Stp.refl _ _ _,⟨_,rfl,f⟩⟩
        ·rintro o9 p0 p1 ha ⟨hB,hS,f⟩ ⟨f9,-⟩;obtain⟨p2,g0,g1⟩:=f9;have ha:=ha.c g0;refine Zs ha ?_;refine bq_ g1 Y rfl rfl ug_ ?_;intro p3 g2;obtain⟨g3,-,g4⟩:=g2;cases g3
         exact⟨_,Stp.refl _ _ _,g4⟩
       rintro C Z L ha ⟨hB,hS,f⟩ ⟨g5,-,-,-,A,-,-,-,-,B,-⟩;have ha:=ha.c g5;replace A:RdL C Z (L.tmps.getD 42 undef) (V.x:Yl):=A;generalize g6:L.tmps.getD 42 undef=p4 at A;have ha:=ha.c g6;replace B:RdL C Z (L.tmps.getD 47 undef) (X.x:Yl):=B;generalize g7:L.tmps.getD 47 undef=p5 at B;have ha:=ha.c g7;refine aS_ ha ?_;simp only[List.length_cons,List.length_nil,Nat.zero_add,Nat.reduceAdd,List.drop_succ_cons,List.drop_zero];obtain⟨b1,d0,d⟩:=a_ d;refine Zo ?_;refine pj_ (dZ_ Z _ V.x A.z _ X.x B.z b1 d0) wy_ rfl ⟨rfl,rfl,trivial⟩ ?_;rintro p6 p7 ⟨rfl,g8⟩;have D:=g8.stp 999 C;refine⟨_,rfl,?_⟩;replace hS:=hS.tr9 hO D;replace f:=f.stp D;replace A:=A.stp D;replace B:=B.stp D;replace hB:=hB.stp D;refine Zv (bo_ rfl) (Ze [(0,_),(1,_),(5,_),(6,_),(7,_),(49,_)] (nx ?_));refine p_ rfl (λa0=>?_) (λa0=>?_)
       ·rw[if_pos a0] at d;refine Zq (Zm rfl (Zm rfl (Zm rfl (Zm rfl ?_))));obtain⟨p8,d1,d⟩:=a_ d;obtain⟨p9,d2,d⟩:=a_ d;obtain⟨q0,d3,d⟩:=a_ d;refine Zo ?_;refine sw_ f d3 d1 (nR_ d2) rfl rfl ub_ uf_ ?_;intro q1 q2 q3 g9 h0;obtain⟨rfl,-,b2⟩:=h0;refine Zv (e_ rfl ug_ (i_ g9)) ?_;obtain⟨q4,d4,d⟩:=a_ d;refine Zo ?_;refine fs_ f d4 rfl rfl ub_ uf_ ?_;intro q5 q6 h1 q7 h2;obtain⟨rfl,-,q8⟩:=h2;obtain⟨h3,d5,d⟩:=a_ d;refine am_ trivial ?_;refine cc_ f h1 d5 (sg_ b2) (by decide) rfl rfl rfl uf_ b2.cells1 ?_;intro q9 h4 b3;replace hS:=hS.trans b3;replace hB:=hB.stp b3;refine Ze [(0,_),(1,_),(5,_),(6,_),(7,_)] (nx (d_ (Zm rfl ?_)));obtain⟨M,d6,d⟩:=a_ d;refine Zv (C_ rfl rfl d6) (Za rfl (Ze [(0,_),(1,_),(5,_),(6,_),(7,_)] (y_ (nx (d_ (Zm rfl ?_))))));obtain⟨a1,d7,d⟩:=a_ d;refine Zv (C_ rfl rfl d7) (Za rfl (Ze [(0,_),(1,_),(5,_),(6,_),(7,_)] (x_ ?_)));have h5:=Zj d;subst h5;refine Zk [(0,_),(1,_),(5,_),(6,_),(7,_)] ?_;intro a ha;exact⟨K113,by omega,h3,M,a1,C,T,ha,hB,hS,h4⟩
       ·replace d:=ZF a0 d;refine h_ (y_ (nx (d_ (Zm rfl ?_))));obtain⟨a2,d8,d⟩:=a_ d;refine Zv (C_ rfl rfl d8) (Za rfl (Ze [(0,_),(1,_),(5,_),(6,_),(7,_)] (x_ ?_)));have h6:=Zj d;subst h6;refine Zk [(0,_),(1,_),(5,_),(6,_),(7,_)] ?_;intro a ha;exact⟨K113,by omega,y,j,a2,C,T,ha,hB,hS,f⟩
      ·replace d:=ZF U d;refine w_ ?_;refine m_ (m_ (Q_ ?_));refine s_ ?_;have h7:=Zj d;subst h7;refine Zk [(0,_),(5,_)] ?_;intro a ha;exact⟨y,j,k,m,T,ha,hB,hS,f⟩
     ·rintro a s ⟨y,j,k,m,rfl,ha,hB,hS,f⟩;dsimp only at i;refine ap_k ha ?_;refine Zn (Zm rfl (Zm rfl ?_));obtain⟨r0,d9,i⟩:=a_ i;refine Zo ?_;refine ke_ f d9 rfl rfl ub_ uf_ ?_;obtain⟨r1,e0,i⟩:=a_ i;obtain⟨r2,a3,i⟩:=a_ i;have h8:=og_ f a3;refine am_ trivial ?_;refine jY_ f e0 a3 (by decide) rfl ub_ Tryz.zeroValue41 ?_;intro r3 r4 h9 b4;replace hS:=hS.trans b4;replace hB:=hB.stp b4;refine Ze [(0,_),(5,_)] (Zn (Zm rfl (Zm rfl (Zv (lR_ h8 rfl rfl ub_ uf_) (Za rfl (Ze [(4,_)] (nx (n_ (aq_ (I_ (I_ (aq_ ?_))))))))))));refine cK_ ?_;have i0:=Zj i;subst i0;refine λa ha=>⟨_,b5,?_⟩;refine N_ (P:=tX_) (vs:=[prev g j.toNat]) vf_ ⟨rfl,trivial⟩ ?_ a ha;exact⟨_,m,rfl,h9,hB,hS⟩
     ·exact λ_ _ h=>h.elim
    ·replace i:=ZF c2 i;refine h_ (y_ (nx (d_ (Zm rfl ?_))));obtain⟨a4,e1,i⟩:=a_ i;refine Zv (C_ rfl rfl e1) (Za rfl (Ze [(0,_),(1,_),(5,_)] (x_ ?_)));have i1:=Zj i;subst i1;refine Zk [(0,_),(1,_),(5,_)] ?_;intro a ha;exact⟨K16,by omega,J,a4,R,b5,ha,hB,hS,u⟩
   ·replace i:=ZF b6 i;refine w_ ?_;refine m_ (m_ (Q_ ?_));refine s_ ?_;have i2:=Zj i;subst i2;refine Zk [(0,_)] ?_;intro a ha;exact⟨J,q,Q,b5,ha,hB,hS,u⟩
  ·rintro a a5 ⟨J,q,Q,rfl,ha,hB,hS,u⟩;dsimp only at hF;refine ap_k ha ?_;refine Zn (Zm rfl (Za rfl (Ze [(4,_)] (nx (n_ ?_)))));have i3:=Zj hF;subst i3;refine Zr vf_ [g] ?_;exact⟨_,Q,rfl,u,hB,hS⟩
  ·rintro a a5 ⟨r',rfl,i4⟩;dsimp only at hF;have i5:=Zj hF;subst i5;exact i4
end
end Go.Proofs.YtdbbeldgdgonfaaGreat
