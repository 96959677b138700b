/- Part 20 of what this claim rests on (pack.py). -/
import Derived.Sort.Grow
import Derived.Test.YtdbbeldgdgonfaaGreatLayF
import Derived.Sort.OwnSorted
import Derived.Test.YtdbbeldgdgonfaaGreatP17
namespace Go.Proofs.YtdbbeldgdgonfaaGreat
open Tryz renaming prog→wQ_, call171→xw_, results138→xk_, underlying41→wR_, sizeOf3→wS_, isAgg3→wT_, results95→xp_, results179→yp_
set_option linter.unusedSimpArgs false
set_option linter.unusedVariables false
section
namespace Ex
open Go.RowKit
structure Keeps (w w':World):Prop where
  k:Go.Proofs.YtdbbeldgdgonfaaGreat.Keeps w w'
  d:w.drawn<=w'.drawn
structure Stp (t:Nat) (o:Tg) (w:World) (o':Tg) (w':World):Prop where
  s:Go.Proofs.YtdbbeldgdgonfaaGreat.Stp t o w o' w'
  d:w.drawn<=w'.drawn
structure Bs (oo o:Tg) (w w':World):Prop where
  b:Go.Proofs.YtdbbeldgdgonfaaGreat.Bs oo o w w'
  d:w.drawn<=w'.drawn
theorem Bs.start(a:Tg)(w:World):Bs a (col a) w w:=⟨Go.Proofs.YtdbbeldgdgonfaaGreat.Bs.start _ _,Nat.le_refl _⟩
theorem Bs.keeps{a o:Tg}{w w':World}(h:Bs a o w w'):Keeps w w':=⟨h.b.keeps,h.d⟩
theorem Keeps.stp{w w':World}(h:Keeps w w')(t:Nat)(o:Tg):Stp t o w o w':=⟨h.k.stp t o,h.d⟩
theorem Bs.stp{e o a:Tg}{w0 w w':World}{t:Nat}(h:Bs e o w0 w)(s:Stp t o w a w')(f:2<=t:=by decide):Bs e a w0 w':=⟨h.b.stp s.s f,Nat.le_trans h.d s.d⟩
theorem wf_atZ{P:Program}{n:Nat}{l:List (Nat×Value)}{w w0:World}{o p:Tg}{α:Type}[Rp α]{d:Nat}{ty:TypeId}{ps:String}{af:Array Edge}{g:Option (Nat×Bool)}{R:Value->World->Prop}{x y:Operand}{t e:TypeId}{v:Value}{xs:List α}{i:Int}{u:α}(h:RdL zt w0 v xs)(hi:ix xs i=some u)(a:Bs p o w0 w)(j:ev l x=some v)(k:ev l y=some (.int .i64 i))
  (m:P.underlying t=some (.slice e)) (f:∀w,(sizeOf e).run P w=.ok (Rp.sz α) w)
  (h:∀b off cs,Cells w b off cs->Rp.rd zt w0 cs u->R (.pointer (some ⟨b,off,none⟩)) w):op1 P ⟨some d,.indexAddr t x y,ty,ps,af,g⟩ n l w R:=Go.Proofs.YtdbbeldgdgonfaaGreat.wf_atZ (by assumption) hi a.b j k m f h
theorem Keeps.grown{w w':World}(h:Keeps w w'):∃q os,w'=Go.Sort.grow (w.drewN q) os:=by
 refine⟨w'.drawn-w.drawn,w'.heap.extract w.heap.size w'.heap.size,?_⟩;obtain⟨⟨o,k,j,v,n⟩,p⟩:=h;unfold Go.Sort.grow World.drewN;cases w' with
 | mk d m e os f=>
  cases w with
  | mk b g a u output0=>
   simp only at o k j v n p;subst o;subst k;subst j;have s:a+(e-a)=e:=by omega
   have t:b++d.extract b.size d.size=d:=by
    apply Array.ext_getElem?;intro i;rw[Array.getElem?_append];split
    ·rename_i hi;exact(n i hi).symm
    ·rename_i hi;rw[Array.getElem?_extract];split
     ·congr 1;omega
     ·rw[Array.getElem?_eq_none (by omega)]
   simp only[s,t]
def fy_(w:World)(r:Bool):Ending->World->Prop:=λe w'=>e=.returned (.bool r)∧Keeps w w'
set_option maxRecDepth 100000 in
set_option maxHeartbeats 2000000 in
theorem bP_(w:World)(a:Int)(r:Bool)(b:aX_ a=some r):
  Calls wQ_ 171 #[.int .i64 a] w (fy_ w r):=by
 unfold aX_ at b;have e:Bs (λ_=>1) (col (λ_=>1)) w w:=Bs.start _ _;refine i_ (n:=6) (vs:=[.int .i64 a]) Tryz.func171 rfl rfl ?_;refine c_ ?_;refine d_ ?_;refine q_ (ao_ rfl) (by decide) trivial ?_;refine aR_ (r:=[(0,.int .i64 a)]) ⟨rfl,trivial⟩ ?_;refine nx ?_;refine c_ ?_;refine d_ ?_;refine q_ (h_ rfl) (by decide) trivial ?_;refine q_ (h_ rfl) (by decide) trivial ?_;refine q_ (bR_ rfl rfl) (by decide) trivial ?_;refine q_ (ao_ rfl) (by decide) trivial ?_;refine aR_ (r:=[(2,.bool (a !=a))]) ⟨rfl,trivial⟩ ?_;refine nx ?_;refine j_ ?_;have d:=Option.some.inj b;subst d;refine D_ (P:=wQ_) (vs:=[.bool (a !=a)]) Tryz.results171 ⟨rfl,trivial⟩ ?_;exact⟨rfl,e.keeps⟩
def ez_(w:World)(r:Int):Ending->World->Prop:=λe w'=>e=.returned (.int .i64 r)∧Keeps w w'
set_option maxRecDepth 100000 in
set_option maxHeartbeats 2000000 in
theorem eA_(w:World)(d:Int)(b:Int)(r:Int)(a:bx_ d b=some r):
  Calls wQ_ 138 #[.int .i64 d,.int .i64 b] w (ez_ w r):=by
 unfold bx_ at a;have e:Bs (λ_=>1) (col (λ_=>1)) w w:=Bs.start _ _;refine i_ (n:=20) (vs:=[.int .i64 d,.int .i64 b]) Tryz.func138 rfl rfl ?_;refine c_ ?_;refine d_ ?_;refine q_ (ao_ rfl) (by decide) trivial ?_;refine aR_ (r:=[(0,.int .i64 d),(1,.int .i64 b)]) ⟨rfl,rfl,trivial⟩ ?_;refine nx ?_;refine c_ ?_;refine d_ ?_;refine q_ (h_ rfl) (by decide) trivial ?_;obtain⟨m,o,a⟩:=a_ a;refine cJ_ (by decide) trivial ?_;refine o_ (bP_ w d m o) xw_ ⟨rfl,trivial⟩ ?_;rintro G A ⟨rfl,C⟩;have E:=C.stp 999 (col (λ_=>1));refine⟨_,rfl,?_⟩;replace e:=e.stp E (by decide);refine q_ (ao_ rfl) (by decide) trivial ?_;refine aR_ (r:=[(0,.int .i64 d),(1,.int .i64 b),(5,.bool m)]) ⟨rfl,rfl,rfl,trivial⟩ ?_;refine nx ?_;refine c_ ?_;refine d_ ?_;refine q_ (h_ rfl) (by decide) trivial ?_;obtain⟨k,x,a⟩:=a_ a;refine cJ_ (by decide) trivial ?_;refine o_ (bP_ A b k x) xw_ ⟨rfl,trivial⟩ ?_;rintro D F ⟨rfl,B⟩;have t:=B.stp 999 (col (λ_=>1));refine⟨_,rfl,?_⟩;replace e:=e.stp t (by decide);refine q_ (ao_ rfl) (by decide) trivial ?_;refine aR_ (r:=[(0,.int .i64 d),(1,.int .i64 b),(5,.bool m),(6,.bool k)]) ⟨rfl,rfl,rfl,rfl,trivial⟩ ?_;refine nx ?_;refine c_ ?_;refine c_ ?_;refine d_ ?_;refine q_ (h_ rfl) (by decide) trivial ?_;refine aR_ (r:=[(0,.int .i64 d),(1,.int .i64 b),(6,.bool k),(11,.bool m)]) ⟨rfl,rfl,rfl,rfl,trivial⟩ ?_;refine nx ?_;refine l_ rfl (λf=>?_) (λf=>?_)
 ·rw[if_pos f] at a;refine c_ ?_;refine c_ ?_;refine d_ ?_;refine q_ (h_ rfl) (by decide) trivial ?_;refine aR_ (r:=[(12,.bool k)]) ⟨rfl,trivial⟩ ?_;refine nx ?_;refine l_ rfl (λi=>?_) (λi=>?_)
  ·rw[if_pos i] at a;refine c_ ?_;refine d_ ?_;refine q_ (ao_ rfl) (by decide) trivial ?_;refine aR_ (r:=[(4,.int .i64 0)]) ⟨rfl,trivial⟩ ?_;refine nx ?_;refine j_ ?_;refine y_ ?_;refine y_ ?_;have s:=Option.some.inj a;subst s;refine D_ (P:=wQ_) (vs:=[.int .i64 0]) xk_ ⟨rfl,trivial⟩ ?_;exact⟨rfl,e.keeps⟩
  ·rw[if_neg (by rw[i];decide)] at a;refine g_ ?_;refine nx ?_;refine c_ ?_;refine d_ ?_;refine q_ (ao_ rfl) (by decide) trivial ?_;refine aR_ (r:=[(4,.int .i64 (-1))]) ⟨rfl,trivial⟩ ?_;refine nx ?_;refine j_ ?_;refine y_ ?_;have p:=Option.some.inj a;subst p;refine D_ (P:=wQ_) (vs:=[.int .i64 (-1)]) xk_ ⟨rfl,trivial⟩ ?_;exact⟨rfl,e.keeps⟩
 ·rw[if_neg (by rw[f];decide)] at a;refine g_ ?_;refine nx ?_;refine c_ ?_;refine c_ ?_;refine d_ ?_;refine q_ (h_ rfl) (by decide) trivial ?_;refine aR_ (r:=[(0,.int .i64 d),(1,.int .i64 b),(13,.bool k)]) ⟨rfl,rfl,rfl,trivial⟩ ?_;refine nx ?_;refine l_ rfl (λh=>?_) (λh=>?_)
  ·rw[if_pos h] at a;refine c_ ?_;refine d_ ?_;refine q_ (ao_ rfl) (by decide) trivial ?_;refine aR_ (r:=[(4,.int .i64 1)]) ⟨rfl,trivial⟩ ?_;refine nx ?_;refine j_ ?_;refine y_ ?_;have u:=Option.some.inj a;subst u;refine D_ (P:=wQ_) (vs:=[.int .i64 1]) xk_ ⟨rfl,trivial⟩ ?_;exact⟨rfl,e.keeps⟩
  ·rw[if_neg (by rw[h];decide)] at a;refine g_ ?_;refine nx ?_;refine c_ ?_;refine c_ ?_;refine d_ ?_;refine q_ (h_ rfl) (by decide) trivial ?_;refine q_ (h_ rfl) (by decide) trivial ?_;refine q_ (r_ rfl rfl) (by decide) trivial ?_;refine aR_ (r:=[(0,.int .i64 d),(1,.int .i64 b),(16,.bool (decide (d<b)))]) ⟨rfl,rfl,rfl,trivial⟩ ?_;refine nx ?_;refine l_ rfl (λj=>?_) (λj=>?_)
   ·rw[if_pos j] at a;refine c_ ?_;refine d_ ?_;refine q_ (ao_ rfl) (by decide) trivial ?_;refine aR_ (r:=[(4,.int .i64 (-1))]) ⟨rfl,trivial⟩ ?_;refine nx ?_;refine j_ ?_;refine y_ ?_;have v:=Option.some.inj a;subst v;refine D_ (P:=wQ_) (vs:=[.int .i64 (-1)]) xk_ ⟨rfl,trivial⟩ ?_;exact⟨rfl,e.keeps⟩
   ·rw[if_neg (by rw[j];decide)] at a;refine g_ ?_;refine nx ?_;refine c_ ?_;refine c_ ?_;refine d_ ?_;refine q_ (h_ rfl) (by decide) trivial ?_;refine q_ (h_ rfl) (by decide) trivial ?_;refine q_ (eN_ rfl rfl) (by decide) trivial ?_;refine aR_ (r:=[(19,.bool (decide (d>b)))]) ⟨rfl,trivial⟩ ?_;refine nx ?_;refine l_ rfl (λg=>?_) (λg=>?_)
    ·rw[if_pos g] at a;refine c_ ?_;refine d_ ?_;refine q_ (ao_ rfl) (by decide) trivial ?_;refine aR_ (r:=[(4,.int .i64 1)]) ⟨rfl,trivial⟩ ?_;refine nx ?_;refine j_ ?_;refine y_ ?_;have y:=Option.some.inj a;subst y;refine D_ (P:=wQ_) (vs:=[.int .i64 1]) xk_ ⟨rfl,trivial⟩ ?_;exact⟨rfl,e.keeps⟩
    ·rw[if_neg (by rw[g];decide)] at a;refine g_ ?_;refine nx ?_;refine c_ ?_;refine d_ ?_;refine q_ (ao_ rfl) (by decide) trivial ?_;refine aR_ (r:=[(4,.int .i64 0)]) ⟨rfl,trivial⟩ ?_;refine nx ?_;refine j_ ?_;have q:=Option.some.inj a;subst q;refine D_ (P:=wQ_) (vs:=[.int .i64 0]) xk_ ⟨rfl,trivial⟩ ?_;exact⟨rfl,e.keeps⟩
def bm_(w:World)(r:Int):Ending->World->Prop:=λe w'=>e=.returned (.int .i64 r)∧Keeps w w'
set_option maxRecDepth 100000 in
set_option maxHeartbeats 2000000 in
theorem cX_slices_Compare_int_int(w:World)(d:Value)(g:List Int)(E:RdL zt w d g)(h:Value)(A:List Int)(H:RdL zt w h A)(r:Int)(m:Q_ g A=some r):
  Calls wQ_ 95 #[d,h] w (bm_ w r):=by
 unfold Q_ at m;have j:Bs (λ_=>1) (col (λ_=>1)) w w:=Bs.start _ _;refine i_ (n:=36) (vs:=[d,h]) Tryz.func95 rfl rfl ?_;refine c_ ?_;refine d_ ?_;refine q_ (ao_ rfl) (by decide) trivial ?_;refine aR_ (r:=[(0,d),(1,h)]) ⟨rfl,rfl,trivial⟩ ?_;refine nx ?_;refine c_ ?_;refine c_ ?_;refine d_ ?_;refine q_ (h_ rfl) (by decide) trivial ?_;refine q_ (B_ rfl E wR_) (by decide) trivial ?_;refine q_ (h_ rfl) (by decide) trivial ?_;refine aR_ (r:=[(0,d),(1,h),(9,d),(10,.int .i64 (g.length:Int)),(11,.int .i64 0)]) ⟨rfl,rfl,rfl,rfl,rfl,trivial⟩ ?_;refine nx ?_;obtain⟨U,G,m⟩:=a_ m;refine v_ (λa u=>∃(q:Tg),U=.inl ()∧Fr a 36 [(0,d),(1,h)]∧Bs (λ_=>1) q w u) (λa w'=>∃F,U=.inr F∧bodyPost wQ_ Tryz.f95 (bm_ w F) .ret a w') ?_ ?_ ?_
 ·refine f_ ?_;refine w_ (λ(K:Nat) a u=>∃(f:Int)(q:Tg),forI (aw_ A) (g.drop f.toNat) f ()=some U∧(g.drop f.toNat).length=K∧0<=f∧Fr a 36 [(0,d),(1,h),(9,d),(10,.int .i64 (g.length:Int)),(11,.int .i64 f)]∧Bs (λ_=>1) q w u) _ (λa i=>⟨0,col (λ_=>1),G,rfl,Int.le_refl 0,i.sub (r:=[(0,d),(1,h),(9,d),(10,.int .i64 (g.length:Int)),(11,.int .i64 0)]) ⟨rfl,rfl,rfl,rfl,rfl,trivial⟩,j⟩) ?_;rintro K8 a u ⟨f,q,Z,m7,z6,i,j⟩;by_cases p:f<(g.length:Int)
  ·obtain⟨o,q9,D,e,x⟩:=R_ z6 p Z;have hle:=E.len_le;dsimp only[aw_] at e;refine J_ i ?_;refine c_ ?_;refine d_ ?_;refine q_ (r_ rfl rfl) (by decide) trivial ?_;refine aR_ (r:=[(0,d),(1,h),(9,d),(10,.int .i64 (g.length:Int)),(11,.int .i64 f),(12,.bool (decide (f<(g.length:Int))))]) ⟨rfl,rfl,rfl,rfl,rfl,rfl,trivial⟩ ?_;refine nx ?_;refine c_ ?_;refine L_ (congrArg (λb=>some (Value.bool b)) (decide_eq_true p)) ?_;refine g_ ?_;refine nx ?_;refine c_ ?_;refine f_ ?_;refine c_ ?_;refine d_ ?_;refine q_ (h_ rfl) (by decide) trivial ?_;refine cJ_ (by decide) trivial ?_;refine wf_atZ E D j rfl rfl wR_ wS_ ?_;intro b14 f15 c16 N I;cases I
   refine q_ (e_ rfl wT_ (k_ N)) (by decide) trivial ?_;refine q_ (ao_ rfl) (by decide) trivial ?_;refine q_ (ao_ rfl) (by decide) trivial ?_;refine aR_ (r:=[(0,d),(1,h),(5,.int .i64 f),(6,.int .i64 o),(9,d),(10,.int .i64 (g.length:Int)),(11,.int .i64 f)]) ⟨rfl,rfl,rfl,rfl,rfl,rfl,rfl,trivial⟩ ?_;refine nx ?_;refine c_ ?_;refine c_ ?_;refine d_ ?_;refine q_ (h_ rfl) (by decide) trivial ?_;refine q_ (h_ rfl) (by decide) trivial ?_;refine q_ (B_ rfl H wR_) (by decide) trivial ?_;refine q_ (lF_ rfl rfl) (by decide) trivial ?_;refine aR_ (r:=[(0,d),(1,h),(5,.int .i64 f),(6,.int .i64 o),(9,d),(10,.int .i64 (g.length:Int)),(11,.int .i64 f),(19,.bool (decide (f>=(A.length:Int))))]) ⟨rfl,rfl,rfl,rfl,rfl,rfl,rfl,rfl,trivial⟩ ?_;refine nx ?_;refine l_ rfl (λv=>?_) (λv=>?_)
   ·rw[if_pos v] at e;refine c_ ?_;refine d_ ?_;refine q_ (ao_ rfl) (by decide) trivial ?_;refine aR_ (r:=[(4,.int .i64 1)]) ⟨rfl,trivial⟩ ?_;refine nx ?_;refine j_ ?_;refine y_ ?_;refine W_ ?_;refine y_ ?_;refine y_ ?_;refine W_ ?_;refine bg_ ?_;have T:=Option.some.inj e;subst T;refine λa i=>⟨_,x,?_⟩;refine D_ (P:=wQ_) (vs:=[.int .i64 1]) xp_ ⟨rfl,trivial⟩ ?_ a i;exact⟨rfl,j.keeps⟩
   ·rw[if_neg (by rw[v];decide)] at e;refine g_ ?_;refine nx ?_;refine c_ ?_;refine d_ ?_;refine q_ (h_ rfl) (by decide) trivial ?_;refine q_ (h_ rfl) (by decide) trivial ?_;obtain⟨C,B,e⟩:=a_ e;refine cJ_ (by decide) trivial ?_;refine wf_atZ H B j rfl rfl wR_ wS_ ?_;intro b22 f23 c24 O X;cases X
    refine q_ (e_ rfl wT_ (k_ O)) (by decide) trivial ?_;refine q_ (ao_ rfl) (by decide) trivial ?_;refine aR_ (r:=[(0,d),(1,h),(6,.int .i64 o),(7,.int .i64 C),(9,d),(10,.int .i64 (g.length:Int)),(11,.int .i64 f)]) ⟨rfl,rfl,rfl,rfl,rfl,rfl,rfl,trivial⟩ ?_;refine nx ?_;refine c_ ?_;refine d_ ?_;refine q_ (h_ rfl) (by decide) trivial ?_;refine q_ (h_ rfl) (by decide) trivial ?_;obtain⟨k,y,e⟩:=a_ e;refine cJ_ (by decide) trivial ?_;refine o_ (eA_ u o C k y) Tryz.call138 ⟨rfl,rfl,trivial⟩ ?_;rintro e32 w28 ⟨rfl,L⟩;have S:=L.stp 999 q;refine⟨_,rfl,?_⟩;replace j:=j.stp S (by decide);refine q_ (ao_ rfl) (by decide) trivial ?_;refine aR_ (r:=[(0,d),(1,h),(8,.int .i64 k),(9,d),(10,.int .i64 (g.length:Int)),(11,.int .i64 f)]) ⟨rfl,rfl,rfl,rfl,rfl,rfl,trivial⟩ ?_;refine nx ?_;refine c_ ?_;refine d_ ?_;refine q_ (h_ rfl) (by decide) trivial ?_;refine q_ (bR_ rfl rfl) (by decide) trivial ?_;refine aR_ (r:=[(0,d),(1,h),(8,.int .i64 k),(9,d),(10,.int .i64 (g.length:Int)),(11,.int .i64 f),(28,.bool (k !=0))]) ⟨rfl,rfl,rfl,rfl,rfl,rfl,rfl,trivial⟩ ?_;refine nx ?_;refine l_ rfl (λt=>?_) (λt=>?_)
    ·rw[if_pos t] at e;refine c_ ?_;refine d_ ?_;refine q_ (h_ rfl) (by decide) trivial ?_;refine q_ (ao_ rfl) (by decide) trivial ?_;refine aR_ (r:=[(4,.int .i64 k)]) ⟨rfl,trivial⟩ ?_;refine nx ?_;refine j_ ?_;refine W_ ?_;refine y_ ?_;refine y_ ?_;refine W_ ?_;refine bg_ ?_;have W:=Option.some.inj e;subst W;refine λa i=>⟨_,x,?_⟩;refine D_ (P:=wQ_) (vs:=[.int .i64 k]) xp_ ⟨rfl,trivial⟩ ?_ a i;exact⟨rfl,j.keeps⟩
    ·rw[if_neg (by rw[t];decide)] at e;refine g_ ?_;refine x_ ?_;refine nx ?_;refine d_ ?_;refine q_ (C_ rfl rfl (F_ (by omega) (by omega))) (by decide) trivial ?_;refine q_ (h_ rfl) (by decide) trivial ?_;refine aR_ (r:=[(0,d),(1,h),(9,d),(10,.int .i64 (g.length:Int)),(11,.int .i64 (f+1))]) ⟨rfl,rfl,rfl,rfl,rfl,trivial⟩ ?_;refine u_ ?_;have V:=Option.some.inj e;subst V;refine to_k (r:=[(0,d),(1,h),(9,d),(10,.int .i64 (g.length:Int)),(11,.int .i64 (f+1))]) ⟨rfl,rfl,rfl,rfl,rfl,trivial⟩ ?_;intro a i;exact⟨_,(by rw[<-m7];simp only[List.length_drop];omega),f+1,q,x,rfl,by omega,i,j⟩
  ·have M:=S_ p Z;refine J_ i ?_;refine c_ ?_;refine d_ ?_;refine q_ (r_ rfl rfl) (by decide) trivial ?_;refine aR_ (r:=[(0,d),(1,h),(9,d),(10,.int .i64 (g.length:Int)),(11,.int .i64 f),(12,.bool (decide (f<(g.length:Int))))]) ⟨rfl,rfl,rfl,rfl,rfl,rfl,trivial⟩ ?_;refine nx ?_;refine c_ ?_;refine G_ (congrArg (λb=>some (Value.bool b)) (decide_eq_false p)) ?_;refine s_ ?_;refine n_ ?_;refine n_ ?_;refine N_ ?_;refine p_ ?_;refine to_k (r:=[(0,d),(1,h)]) ⟨rfl,rfl,trivial⟩ ?_;intro a i;exact⟨q,M,i,j⟩
 ·rintro a u ⟨q,rfl,i,j⟩;dsimp only at m;refine ap_k i ?_;refine nx ?_;refine c_ ?_;refine c_ ?_;refine d_ ?_;refine q_ (h_ rfl) (by decide) trivial ?_;refine q_ (B_ rfl E wR_) (by decide) trivial ?_;refine q_ (h_ rfl) (by decide) trivial ?_;refine q_ (B_ rfl H wR_) (by decide) trivial ?_;refine q_ (r_ rfl rfl) (by decide) trivial ?_;refine aR_ (r:=[(35,.bool (decide ((g.length:Int)<(A.length:Int))))]) ⟨rfl,trivial⟩ ?_;refine nx ?_;refine l_ rfl (λs=>?_) (λs=>?_)
  ·rw[if_pos s] at m;refine c_ ?_;refine d_ ?_;refine q_ (ao_ rfl) (by decide) trivial ?_;refine aR_ (r:=[(4,.int .i64 (-1))]) ⟨rfl,trivial⟩ ?_;refine nx ?_;refine j_ ?_;refine y_ ?_;have Y:=Option.some.inj m;subst Y;refine D_ (P:=wQ_) (vs:=[.int .i64 (-1)]) xp_ ⟨rfl,trivial⟩ ?_;exact⟨rfl,j.keeps⟩
  ·rw[if_neg (by rw[s];decide)] at m;refine g_ ?_;refine nx ?_;refine c_ ?_;refine d_ ?_;refine q_ (ao_ rfl) (by decide) trivial ?_;refine aR_ (r:=[(4,.int .i64 0)]) ⟨rfl,trivial⟩ ?_;refine nx ?_;refine j_ ?_;have R:=Option.some.inj m;subst R;refine D_ (P:=wQ_) (vs:=[.int .i64 0]) xp_ ⟨rfl,trivial⟩ ?_;exact⟨rfl,j.keeps⟩
 ·rintro a u ⟨F,rfl,Q⟩;dsimp only at m;have J:=Option.some.inj m;subst J;exact Q
end Ex
end
section
theorem mH_{α:Type}(a:List α)(x:α)(b:List α):ix (a++x::b) (a.length:Int)=some x:=by
 rw[aY_];simp
theorem ui_{α:Type}(a:List α)(x:α)(b:List α)(n:Int)(h:n=a.length):ix (a++x::b) n=some x:=by subst h;exact mH_ a x b
theorem uU_{α:Type}(a:List α)(x y:α)(b:List α)(n:Int)(h:n=a.length):st (a++x::b) n y=some (a++y::b):=by
 subst h;rw[iM_ _ _ _ (by simp)];simp
def insR:List Int->Int->List Int->List Int
  |[],x,b=>x::b
  |y::ra,x,b=>if y>x then insR ra x (y::b) else ra.reverse++y::x::b
theorem iT_(x:Int):∀(a b:List Int)(d:Nat),a.length<d->a.length<=1000000000->
  ∃j,loopF cI_ d (a.reverse++x::b,(a.length:Int))=some (.inl (insR a x b,j))
 |[],b,d,e,_=>by
  cases d with
  |zero=>simp at e
  |succ d=>exact⟨0,by simp[loopF,cI_,insR,sb]⟩
 | y::a,b,d,e,i=>by
  cases d with
  |zero=>simp at e
  | succ d=>
   have g:(y::a).reverse++x::b=a.reverse++y::x::b:=by simp
   have k:(((y::a).length:Nat):Int)-1=(a.length:Int):=by simp
   have hi:ix (a.reverse++y::x::b) ((y::a).length:Int)=some x:=by
    rw[<-g,<-List.length_reverse];exact mH_ _ _ _
   have m:cI_ ((y::a).reverse++x::b,((y::a).length:Int))=some (if y>x then .go (a.reverse++x::y::b,(a.length:Int)) else .out (a.reverse++y::x::b,((y::a).length:Int))):=by
    unfold cI_;simp only[g];rw[if_pos (by rw[decide_eq_true_eq];simp),F_ (by omega) (by simp at i ⊢;omega),sb,k,ui_ _ y _ _ (by simp),sb,hi,sb,sb];by_cases h:y>x
    ·have f:st (a.reverse++y::x::b) ((y::a).length:Int) y=some (a.reverse++y::y::b):=by
      have:=uU_ (a.reverse++[y]) x y b ((y::a).length:Int) (by simp);simpa using this
     simp only[h,decide_true,if_true,sb,ui_ a.reverse y (x::b) (a.length:Int) (by simp),f,ui_ a.reverse y (y::b) (a.length:Int) (by simp),uU_ a.reverse y x (y::b) (a.length:Int) (by simp)]
    ·simp only[h,decide_false,if_false,Bool.false_eq_true]
   simp only[loopF,m];by_cases h:y>x
   ·simp only[h,if_true,insR];simp at e i;exact iT_ x a (y::b) d (by omega) (by omega)
   ·simp only[h,if_false,insR];exact⟨_,rfl⟩
def ssort(xs:List Int):List Int:=xs.foldl (λacc x=>insR acc.reverse x []) []
theorem rx_:∀(a:List Int)(x:Int)(b c:List Int),insR a x (b++c)=insR a x b++c
 |[],x,b,c=>by simp[insR]
 |y::a,x,b,c=>by
  simp only[insR];split
  ·rw[<-List.cons_append];exact rx_ a x (y::b) c
  ·simp
theorem ll_:∀(a:List Int)(x:Int)(b:List Int),(insR a x b).Perm (a.reverse++x::b)
 |[],x,b=>by simp[insR]
 |y::a,x,b=>by
  simp only[insR];split
  ·refine (ll_ a x (y::b)).trans ?_;simp only[List.reverse_cons,List.append_assoc,List.cons_append,List.nil_append];exact(List.Perm.refl _).append (List.Perm.swap _ _ _)
  ·simp
theorem qi_(a:List Int)(x:Int)(b:List Int):(insR a x b).length=a.length+1+b.length:=by
 rw[(ll_ a x b).length_eq];simp;omega
theorem lE_:∀(f:List Int)(x:Int)(b:List Int),(f.reverse++b).Pairwise (·<=·)->(∀z,z∈b->x<=z)->(insR f x b).Pairwise (·<=·)
 |[],x,b,h,g=>by simpa [insR] using ⟨g,by simpa using h⟩
 | y::f,x,b,h,g=>by
  simp only[insR];split
  ·rename_i m;refine lE_ f x (y::b) (by simpa using h) λz d=>?_;rcases List.mem_cons.1 d with rfl|e
   ·omega
   ·exact g z e
  ·rename_i m;have e:(f.reverse++y::b).Pairwise (·<=·):=by simpa using h
   rw[List.pairwise_append] at e ⊢;obtain⟨n,i,k⟩:=e;rw[List.pairwise_cons] at i;refine⟨n,?_,?_⟩
   ·rw[List.pairwise_cons,List.pairwise_cons];refine⟨λz d=>?_,g,i.2⟩;rcases List.mem_cons.1 d with rfl|e
    ·omega
    ·exact i.1 z e
   ·intro a j z d;rcases List.mem_cons.1 d with rfl|d
    ·exact k a j _ (by simp)
    ·rcases List.mem_cons.1 d with rfl|d
     ·have:=k a j y (by simp);omega
     ·exact k a j _ (by simp[d])
theorem gD_:∀(xs a:List Int),a.Pairwise (·<=·)->(xs.foldl (λa x=>insR a.reverse x []) a).Pairwise (·<=·)
 |[],a,h=>h
 |x::xs,a,h=>by
  rw[List.foldl_cons];exact gD_ xs _ (lE_ _ _ _ (by simpa using h) (by simp))
theorem id_:∀(xs a:List Int),(xs.foldl (λa x=>insR a.reverse x []) a).Perm (a++xs)
 |[],a=>by simp
 |x::xs,a=>by
  rw[List.foldl_cons];refine (id_ xs _).trans ?_;have:=(ll_ a.reverse x []).append_right xs;simpa using this
theorem oC_(xs:List Int):(ssort xs).Pairwise (·<=·):=gD_ xs [] (by simp)
theorem sj_(xs:List Int):(ssort xs).Perm xs:=by
 have:=id_ xs [];rwa [List.nil_append] at this
theorem in_:∀{xs:List Int},sortB xs=true<->xs.Pairwise (·<=·)
 |[]=>by simp[sortB]
 |[a]=>by simp[sortB]
 | a::b::r=>by
  rw[List.pairwise_cons];simp only[sortB,Bool.and_eq_true,decide_eq_true_eq];rw[in_];constructor
  ·rintro⟨e,d⟩;refine⟨λz f=>?_,d⟩;rcases List.mem_cons.1 f with rfl|f
   ·exact e
   ·have:=(List.pairwise_cons.1 d).1 z f;omega
  ·rintro⟨e,d⟩;exact⟨e b (by simp),d⟩
theorem jh_(a:Nat):∀(xs pre:List Int),(pre.length+xs.length<a)->(pre.length+xs.length<=1000000000)->
  forN (cE_ a) xs.length (pre.length:Int) (pre++xs)=some (.inl (xs.foldl (λd x=>insR d.reverse x []) pre))
 |[],pre,_,_=>by simp[forN]
 | x::xs,pre,g,f=>by
  simp only[List.length_cons] at g f;obtain⟨j,e⟩:=iT_ x pre.reverse xs a (by simp;omega) (by simp;omega);rw[List.reverse_reverse,List.length_reverse] at e;have hi:insR pre.reverse x xs=insR pre.reverse x []++xs:=by
   have:=rx_ pre.reverse x [] xs;simpa using this
  have h:cE_ a (pre.length:Int) (pre++x::xs)=some (.go (insR pre.reverse x []++xs)):=by
   unfold cE_;rw[e,sb,hi]
  have b:(insR pre.reverse x []).length=pre.length+1:=by rw[qi_];simp
  simp only[List.length_cons,forN,h,List.foldl_cons];have:=jh_ a xs (insR pre.reverse x []) (by omega) (by omega);rw[b] at this;rw[show((pre.length:Int)+1)=((pre.length+1:Nat):Int) by omega];exact this
theorem gs_(xs:List Int)(h:xs.length<=1000000000):dd_ xs=some xs:=by
 unfold dd_;rw[iJ_ xs h,sb]
theorem iv_(xs:List Int)(a:Nat)(d:xs.length<a)(b:xs.length<=1000000000):dC_ a xs=some (ssort xs):=by
 unfold dC_;rw[gs_ xs b,sb,F_ (by omega) (by omega),sb];simp only[Int.toNat_natCast];have:=jh_ a xs [] (by simpa using d) (by simpa using b);simp only[List.length_nil,List.nil_append,Int.ofNat_zero] at this;rw[show(0:Int)=((0:Nat):Int) from rfl] at*
 rw[show forN (cE_ a) xs.length ((0:Nat):Int) xs=_ from this,sb];rfl
theorem mr_:∀{xs a:List Int}{k:Nat},xs.length=a.length->(firstP (λ_(p:Int×Int)=>if p.1 !=p.2 then some false else none) (xs.zip a) k=if decide (xs=a) then none else some false)
 |[],[],k,h=>rfl
 |x::xs,y::a,k,h=>by
  simp only[List.zip_cons_cons,firstP];by_cases e:x=y
  ·subst e;simp only[bne_self_eq_false,Bool.false_eq_true,if_false];rw[mr_ (by simpa using h)];simp
  ·simp[e]
 |[],y::a,k,h=>by simp at h
 |x::xs,[],k,h=>by simp at h
theorem rq_(xs a:List Int)(f:xs.length<=1000000000):gw_ xs a=some (decide (xs=a)):=by
 unfold gw_;by_cases h:xs.length=a.length
 ·rw[if_neg (by simp[h]),F_ (by omega) (by omega),sb];simp only[Int.toNat_natCast];have d:xs.length=(xs.zip a).length:=by simp[h]
  rw[d,hq_ (λ_(p:Int×Int)=>if p.1 !=p.2 then some false else none) (xs.zip a) (λj x b _=>by
   unfold gq_;rw[List.getElem?_zip_eq_some] at b;rw[aY_,b.1,sb,aY_,b.2,sb];cases g:(x.1 !=x.2)<;>simp[lpP]),mr_ h,sb]
  by_cases e:xs=a<;>simp[e,outP]
 ·rw[if_pos (by simp;omega)];rw[show decide (xs=a)=false from by rw[decide_eq_false_iff_not];rintro rfl;exact h rfl]
def ordL:List Int->List Int->Int
  |x::xs,y::ys=>if x<y then -1 else if x>y then 1 else ordL xs ys
  |_,_=>0
def ordP(ys:List Int)(k:Nat)(x:Int):Option Int:=match ys[k]? with
  |some y=>if x<y then some (-1) else if x>y then some 1 else none
  |none=>none
theorem jQ_(Y:List Int):∀(xs a:List Int)(k:Nat),a=Y.drop k->xs.length=a.length->(firstP (ordP Y) xs k).getD 0=ordL xs a
 |[],[],k,_,h=>rfl
 | x::xs,y::a,k,f,h=>by
  have b:Y[k]? =some y:=by
   have b:(Y.drop k)[0]? =some y:=by rw[<-f];rfl
   rw[List.getElem?_drop] at b;simpa using b
  have g:a=Y.drop (k+1):=by rw[<-List.drop_drop,<-f];rfl
  simp only[firstP,ordL,ordP,b];by_cases e:x<y
  ·simp[e]
  ·by_cases d:x>y
   ·simp[e,d]
   ·simp only[e,d,if_false];have:=jQ_ Y xs a (k+1) g (by simpa using h);exact this
 |[],y::a,k,_,h=>by simp at h
 |x::xs,[],k,_,h=>by simp at h
theorem lu_(xs a:List Int)(h:xs.length=a.length):Q_ xs a=some (ordL xs a):=by
 unfold Q_;rw[dF_ (ordP a) xs (λj x g _=>by
  have b:j<a.length:=by rw[<-h];exact(List.getElem?_eq_some_iff.1 g).1
  unfold aw_;rw[if_neg (by rw[decide_eq_true_eq];omega),hg_ _ _ b,sb,wM_,sb];simp only[ordP,List.getElem?_eq_getElem b];by_cases e:x<a[j]
  ·simp[e,lpP]
  ·by_cases f:x>a[j]<;>simp[e,f,lpP]),sb]
 have:=jQ_ a xs a 0 (by simp) h;cases d:firstP (ordP a) xs 0 with
 |some r=>rw[d] at this;simp only[outP];rw[<-this];rfl
 |none=>rw[d] at this;simp only[outP];rw[if_neg (by simp[h]),<-this];rfl
theorem oq_(xs a:List Int)(h:xs.length=a.length)(k:∀x,x∈xs->0<=x∧x<=1000000000)(i:∀y,y∈a->0<=y∧y<=1000000000):eY_ xs a=some (ordL xs a):=by
 unfold eY_;rw[dF_ (ordP a) xs (λj x g _=>by
  have b:j<a.length:=by rw[<-h];exact(List.getElem?_eq_some_iff.1 g).1
  have n:=k x (List.mem_of_getElem? g);have m:=i a[j] (List.getElem_mem b);unfold fD_;rw[hg_ _ _ b,sb];simp only[ordP,List.getElem?_eq_getElem b];by_cases e:x<a[j]
  ·rw[if_pos (by simp;omega),sb,F_ (by omega) (by omega),sb];unfold hG_;rw[if_neg (by simp;omega),if_pos (by simp;omega),sb];simp[e,lpP]
  ·by_cases f:x>a[j]
   ·rw[if_pos (by simp;omega),sb,F_ (by omega) (by omega),sb];unfold hG_;rw[if_pos (by simp;omega),sb];simp[e,f,lpP]
   ·rw[if_neg (by simp;omega)];simp[e,f,lpP]),sb]
 have:=jQ_ a xs a 0 (by simp) h;cases d:firstP (ordP a) xs 0 with
 |some r=>rw[d] at this;simp only[outP];rw[<-this];rfl
 |none=>rw[d] at this;simp only[outP];rw[<-this];rfl
end
section
theorem iD_:∀{a b:List Int},a.length=b.length->(ordL a b=0<->a=b)
 |[],[],_=>by simp[ordL]
 | x::a,y::b,h=>by
  have ih:=iD_ (a:=a) (b:=b) (by simpa using h);unfold ordL;by_cases e:x<y
  ·rw[if_pos e];constructor
   ·intro h;omega
   ·intro h;cases h;omega
  ·rw[if_neg e];by_cases d:x>y
   ·rw[if_pos d];constructor
    ·intro h;omega
    ·intro h;cases h;omega
   ·rw[if_neg d,ih];have:x=y:=by omega
    subst this;simp
 |[],_::_,h=>by simp at h
 |_::_,[],h=>by simp at h
theorem iI_:∀(a b:List Int),ordL b a= -ordL a b
 |[],[]=>by simp[ordL]
 |[],_::_=>by simp[ordL]
 |_::_,[]=>by simp[ordL]
 | x::a,y::b=>by
  have ih:=iI_ a b;simp only[ordL];by_cases e:x<y
  ·have d:¬y<x:=by omega
   simp[e,d]
  ·by_cases d:y<x
   ·simp[e,d]
   ·simp[e,d,ih]
theorem js_:∀{a b c:List Int},a.length=b.length->b.length=c.length->ordL a b<0->ordL b c<0->ordL a c<0
 |[],[],[],_,_,h,_=>by simp[ordL] at h
 | x::a,y::b,z::c,m,k,e,d=>by
  have ih:=js_ (a:=a) (b:=b) (c:=c) (by simpa using m) (by simpa using k);simp only[ordL] at e d ⊢;by_cases j:x<y
  ·by_cases f:y<z
   ·rw[if_pos (by omega)];decide
   ·rw[if_neg f] at d;by_cases g:y>z
    ·rw[if_pos g] at d;omega
    ·rw[if_pos (by omega)];decide
  ·rw[if_neg j] at e;by_cases f:x>y
   ·rw[if_pos f] at e;omega
   ·rw[if_neg f] at e;by_cases g:y<z
    ·rw[if_pos (by omega)];decide
    ·rw[if_neg g] at d;by_cases i:y>z
     ·rw[if_pos i] at d;omega
     ·rw[if_neg i] at d;rw[if_neg (by omega),if_neg (by omega)];exact ih e d
 |[],_::_,_,h,_,_,_=>by simp at h
 |_::_,[],_,h,_,_,_=>by simp at h
 |[],[],_::_,_,h,_,_=>by simp at h
 |_::_,_::_,[],_,h,_,_=>by simp at h
theorem tI_{a b c:List Int}(f:a.length=b.length)(e:b.length=c.length)(i:¬ordL a b<0)(j:¬ordL b c<0):¬ordL a c<0:=λh=>by
 have k:=iI_ a b;have n:=iI_ b c;have m:=iI_ a c;by_cases g:ordL a b=0
 ·have:=(iD_ f).1 g;subst this;exact j h
 ·by_cases d:ordL b c=0
  ·have:=(iD_ e).1 d;subst this;exact i h
  ·have:=js_ (a:=c) (b:=b) (c:=a) (by omega) (by omega) (by omega) (by omega);omega
def insS:List (List Int)->List Int->List (List Int)
  |[],x=>[x]
  |y::l,x=>if ordL y x<0 then y::insS l x else if y=x then y::l else x::y::l
def sxd(xs:List (List Int)):List (List Int):=xs.foldl insS []
def sorS(l:List (List Int)):Prop:=l.Pairwise λa b=>ordL a b<0
theorem jj_{z x:List Int}:∀{l:List (List Int)},z∈insS l x<->z=x∨z∈l
 |[]=>by simp[insS]
 | y::l=>by
  unfold insS;split
  ·rw[List.mem_cons,jj_,List.mem_cons];constructor
   ·rintro(h|h|h)<;>simp[h]
   ·rintro(h|h|h)<;>simp[h]
  ·split
   ·rename_i h;subst h;simp
   ·simp
theorem qY_{L:Nat}{x:List Int}(m:x.length=L):∀{l:List (List Int)},(∀z∈l,z.length=L)->sorS l->sorS (insS l x)
 |[],_,_=>by simp[insS,sorS]
 | y::l,g,h=>by
  have o:=g y (by simp);obtain⟨i,k⟩:=List.pairwise_cons.1 h;unfold insS;split
  ·rename_i f;refine List.pairwise_cons.2 ⟨λz a=>?_,qY_ m (λz a=>g z (by simp[a])) k⟩;rcases jj_.1 a with rfl|a
   ·exact f
   ·exact i z a
  ·rename_i j;split
   ·exact h
   ·rename_i d;have b:ordL x y<0:=by
     have n:=iI_ y x;have:ordL y x≠0:=λe=>d ((iD_ (by omega)).1 e);omega
    refine List.pairwise_cons.2 ⟨λz a=>?_,h⟩;rcases List.mem_cons.1 a with rfl|a
    ·exact b
    ·exact js_ (by omega) (by have:=g z (by simp[a]);omega) b (i z a)
theorem ns_{L:Nat}:∀(xs l:List (List Int)),(∀z∈xs,z.length=L)->(∀z∈l,z.length=L)->sorS l->sorS (xs.foldl insS l)∧∀z,z∈xs.foldl insS l<->z∈l∨z∈xs
 |[],l,_,_,h=>⟨h,λz=>by simp⟩
 | x::xs,l,d,b,i=>by
  have e:=d x (by simp);obtain⟨f,g⟩:=ns_ xs (insS l x) (λz a=>d z (by simp[a])) (λz a=>by
   rcases jj_.1 a with rfl|a
   ·exact e
   ·exact b z a) (qY_ e b i)
  refine⟨f,λz=>?_⟩;rw[List.foldl_cons,g,jj_,List.mem_cons];constructor
  ·rintro((h|h)|h)<;>simp[h]
  ·rintro(h|h|h)<;>simp[h]
theorem rB_{L:Nat}{a b:List (List Int)}(o:∀z∈a,z.length=L)(g:sorS a)(f:sorS b)(h:∀z,z∈a<->z∈b):a=b:=by
 have i:∀{l:List (List Int)},sorS l->l.Nodup:=λ{l} j=>j.imp λ{x y} d e=>by
  subst e;rw[(iD_ rfl).2 rfl] at d;omega
 have k:a.Perm b:=(List.perm_ext_iff_of_nodup (i g) (i f)).2 h;refine k.eq_of_pairwise (le:=λx y=>ordL x y<0) (λx y p q m n=>?_) g f;have:=iI_ x y;omega
def srtL(xs:List (List Int)):Option (List (List Int)):=
  if xs.length<=1000000000∧(xs.headD []).length<=1000000000∧(∀x∈xs,x.length=(xs.headD []).length) then some (sxd xs) else none
theorem tc_{xs:List (List Int)}{L:Nat}(d:xs.length<=1000000000)(e:L<=1000000000)(a:∀x∈xs,x.length=L):srtL xs=some (sxd xs):=by
 unfold srtL;cases xs with
 |nil=>rw[if_pos (by simp)]
 |cons x xs=>
  have:=a x (by simp);rw[if_pos ⟨d,by show x.length<=_;omega,λy b=>by show y.length=x.length;rw[a y b,this]⟩]
end
section
open Go.RowKit Go.Sort Go.Shelf
def ngT(g:Nat):Tg:=λb=>if b=g then 1 else 0
def PvS(g:Nat)(w:World)(L:Nat):Type:={p:Pv//RdL (ngT g) w p.v p.x∧p.x.length=L}
theorem hV_{α:Type}[Inhabited α](a:α->Value)(w:World)(g m:Nat)(f:Array α)(os:Array Obj):w.heap.size<=(sortWorld a w g 0 m f os).heap.size∧∀b,b<w.heap.size->b≠g->(sortWorld a w g 0 m f os).heap[b]? =w.heap[b]? :=by
 unfold sortWorld;refine⟨by simp,λb h d=>?_⟩;rw[heap_grow_old _ _ (by simpa using h)];have:g≠b:=λe=>d e.symm;simp[putRow,mapBlock,Sort.ahead,Array.getElem?_modify,this]
set_option maxHeartbeats 1000000 in
theorem pH_{B k:Nat}{o:Tg}{w:World}{v:Value}{ps:List Pv}{L:Nat}(h:Ow B 41 k o w v ps)(hk:k≠0)(hL:∀p∈ps,p.x.length=L)(Q:ps.length<=1000000000):
  Calls wQ_ 177 #[v,.func (.func 95) #[] #[]] w λe w'=>e=.returned (.tuple #[])∧∃J,J.Perm ps∧J.Pairwise (λa b=>¬ordL b.x a.x<0)∧Ow B 41 k o w' v J∧Stp k o w o w':=by
 by_cases K:ps=[]
 ·subst K;obtain⟨a,c,rfl⟩:=h.form;have hc:=AnyF.slices_SortFunc_none (P:=wQ_) (ρ:=Tryz.laysSortF_ren) {Tryz.laysSortF with} a c (.func (.func 95) #[] #[]) w;refine Calls.mono hc ?_;rintro e w' ⟨rfl,rfl⟩;exact⟨rfl,[],List.Perm.refl _,List.Pairwise.nil,h,Stp.refl _ _ _⟩
 ·obtain⟨css,E,F,h3,h4⟩:=id h;have hlz:=Ow.lens (e:=41) (B:=B) E h4;rcases F.2 with⟨_,h0⟩|⟨g,cap,t,rfl,M,hb,hn,Z,hsz,O⟩
  ·exact absurd (List.eq_nil_of_length_eq_zero h0) K
  ·have S:o g=k:=h3 g rfl;have U:g<w.heap.size:=(Array.getElem?_eq_some_iff.1 hb).1;have W:∀p∈ps,RdL o w p.v p.x:=λp C=>by
    obtain⟨i,hi⟩:=List.getElem?_of_mem C;have hil:=(List.getElem?_eq_some_iff.1 hi).1;exact(h4 i (css[i]'(by omega)) p (List.getElem?_eq_getElem (by omega)) hi).2.2
   have hfl:css.flatten=ps.map (·.v):=by
    have:∀(css:List (List Value))(ps:List Pv),css.length=ps.length->(∀(i:Nat) cs x,css[i]? =some cs->ps[i]? =some x->Rp.rd o w cs x)->css.flatten=ps.map (·.v):=by
     intro css
     induction css with
     |nil=>intro ps Q _;cases ps with
      |nil=>rfl
      |cons a l=>simp at Q
     | cons c css ih=>intro ps Q hh;cases ps with
      |nil=>simp at Q
      |cons a l=>
       obtain⟨e0,_⟩:=hh 0 c a rfl rfl;rw[List.flatten_cons,ih l (by simpa using Q) λi cs x a b=>hh (i+1) cs x (by simpa using a) (by simpa using b),e0];rfl
    exact this css ps E h4
   rw[hfl] at O;have Y:t.toList.take ps.length=ps.map (·.v):=by
    have:ps.length*Rp.sz Pv=ps.length:=Nat.mul_one _;rw[this] at O;exact O
   have hng:∀p∈ps,RdL (ngT g) w p.v p.x∧p.x.length=L:=λp C=>⟨(W p C).mv (Nat.le_refl _) λb _ u=>⟨rfl,by
    unfold ngT;rw[if_neg];intro e;rw[e,S] at u;exact hk u⟩,hL p C⟩
   let α:=PvS g w L
   let A:List α:=ps.pmap (λp C=>(⟨p,C⟩:α)) hng
   have N:A.map (λa=>a.1)=ps:=by
    show(ps.pmap (λp C=>(⟨p,C⟩:PvS g w L)) hng).map (λa=>a.1)=ps;rw[List.map_pmap];simp
   have D:A.length=ps.length:=by rw[<-N,List.length_map]
   obtain⟨a0,ha0⟩:∃a:α,a∈A:=by
    cases hq:A with
    |nil=>rw[hq] at D;exact absurd (List.eq_nil_of_length_eq_zero D.symm) K
    |cons a l=>exact⟨a,by simp⟩
   haveI:Inhabited α:=⟨a0⟩
   let d:α->Value:=λa=>a.1.v
   let cf:α->α->Int:=λa b=>ordL a.1.x b.1.x
   have R:OneCell d:=λa=>a.2.1.one1;have hO:SWO (ltOf cf):=by
    constructor
    ·intro x;show decide (ordL x.1.x x.1.x<0)=false;rw[(iD_ rfl).2 rfl];rfl
    ·intro x y z E F;have E:ordL x.1.x y.1.x<0:=of_decide_eq_true E;have F:ordL y.1.x z.1.x<0:=of_decide_eq_true F;exact decide_eq_true (js_ (by rw[x.2.2,y.2.2]) (by rw[y.2.2,z.2.2]) E F)
    ·intro x y z E F;have E:¬ordL x.1.x y.1.x<0:=of_decide_eq_false E;have F:¬ordL y.1.x z.1.x<0:=of_decide_eq_false F;exact decide_eq_false (tI_ (by rw[x.2.2,y.2.2]) (by rw[y.2.2,z.2.2]) E F)
   have f:A.toArray.size=ps.length:=by simp[D]
   have V:CmpLays1 wQ_ 95 #[] d cf g 0 A.toArray.size w:=by
    intro m os dk _ x y;obtain⟨q1,q2⟩:=hV_ d w g m dk os;have rz:∀z:α,RdL zt (sortWorld d w g 0 m dk os) z.1.v z.1.x:=λz=>z.2.1.mv q1 λb u hz0=>⟨q2 b u λe=>by subst e;simp[ngT] at hz0,rfl⟩;have:=Ex.cX_slices_Compare_int_int (sortWorld d w g 0 m dk os) (d x) x.1.x (rz x) (d y) y.1.x (rz y) (cf x y) (lu_ _ _ (by rw[x.2.2,y.2.2]));refine Calls.mono this ?_;rintro e w' ⟨rfl,hk⟩;exact⟨rfl,hk.grown⟩
   have hH:Holds d w g 0 A.toArray:=by
    intro j G;rw[f] at G;refine⟨?_,by simp[World.frozen?,hb]⟩;have e1:(t.toList.take ps.length)[j]? =(ps.map (·.v))[j]? :=by rw[Y]
    rw[List.getElem?_take_of_lt G] at e1;simp only[World.cell?,hb,Nat.zero_add];simp only[Option.isSome_none,Bool.false_eq_true,if_false];rw[<-Array.getElem?_toList,e1];have e2:(A.map λa=>a.1)[j]? =ps[j]? :=by rw[N]
    rw[List.getElem?_map] at e2 ⊢;rw[<-e2];rw[getElem!_pos _ j (by rw[f];exact G)];rw[List.getElem?_eq_getElem (by omega)];simp[d]
   have hS:=Any.slices_SortFunc Tryz.laysSortF d R cf hO 95 #[] g 0 cap A.toArray w Tryz.call95 V hH U (by rw[f];omega);rw[f] at hS;refine Calls.mono hS ?_;rintro e w' ⟨rfl,s,n,os,hP,hSo,rfl⟩;obtain⟨p1,-,p3⟩:=hP;have hd'sz:s.size=ps.length:=by rw[p1,f]
   have q:(s.toList.map λa=>a.1).Perm ps:=by
    have e1:(s.extract 0 ps.length).toList=s.toList:=by rw[<-hd'sz];simp
    have e2:(A.toArray.extract 0 ps.length).toList=A:=by rw[<-f];simp
    rw[e1,e2] at p3;have:=p3.map λa=>a.1;rw[N] at this;exact this
   obtain⟨q1,q2⟩:=hV_ d w g n s os;have T:Stp k o w o (sortWorld d w g 0 n s os):=⟨rfl,rfl,rfl,q1,λb u hne=>q2 b u λe=>hne (by rw[e,S]),λ_ _=>rfl⟩;refine⟨rfl,s.toList.map λa=>a.1,q,?_,?_,T⟩
   ·rw[List.pairwise_map,List.pairwise_iff_getElem];intro i j hi G hij;have hj':j<s.size:=by simpa using G
    have:=hSo i j (Nat.zero_le _) hij (by omega);rw[getElem!_pos _ i (by omega),getElem!_pos _ j hj'] at this;exact of_decide_eq_false this
   ·have H:(s.toList.map λa=>a.1).length=ps.length:=q.length_eq;have I:(sortWorld d w g 0 n s os).heap[g]? =some (.cells (putCells d 0 s t) 41 (0,0)):=by
     unfold sortWorld;rw[heap_grow_old _ _ (by simpa using U)];simp[putRow,mapBlock,Sort.ahead,Array.getElem?_modify,hb,onCells]
    have X:t.size=cap:=by rw[hsz];exact Nat.mul_one _
    refine⟨(s.toList.map λa=>a.1).map λp=>[p.v],by simp,?_,h3,λi cs p hc C=>?_⟩
    ·have hf2:∀l:List Pv,(l.map λp=>[p.v]).flatten=l.map (·.v):=by
      intro l
      induction l with
      |nil=>rfl
      |cons a l ih=>simp[List.flatten_cons,ih]
     rw[hf2,H];refine⟨by rw[List.length_map,H];exact(Nat.mul_one _).symm,.inr ⟨g,cap,_,rfl,M,I,hn,Z,by simp[putCells];rw[X];exact(Nat.mul_one _).symm,?_⟩⟩;show(putCells d 0 s t).toList.take (ps.length*1)=_;rw[Nat.mul_one,<-hd'sz];apply List.ext_getElem?;intro j;by_cases G:j<s.size
     ·rw[List.getElem?_take_of_lt G,Array.getElem?_toList];simp[putCells,G,show j<t.size by omega,d]
     ·rw[List.getElem?_take_eq_none (by omega),List.getElem?_eq_none (by simp;omega)]
    ·rw[List.getElem?_map,C] at hc;cases hc
     have hm:p∈ps:=q.subset (List.mem_of_getElem? C);exact uO_ ((W p hm).stp T hk)
end
section
set_option maxRecDepth 100000
set_option maxHeartbeats 2000000
open Go.RowKit
def bz_(d:List Int)(f:List Int):Int->Unit->Option (Lp Unit Unit Bool):=λ(c:Int)(s:Unit)=>
  (ix d c)>>=λa=>
  (ix f c)>>=λb=>
  if a !=b then
    some (.ret false)
  else
    some (.go ())
def bb_(a:List Int)(b:List Int):Option Bool:=
  if(a.length:Int) !=(b.length:Int) then
    some false
  else
    ck (a.length:Int)>>=λ_=>
    (forN (bz_ a b) ((a.length:Int)).toNat 0 ())>>=λc=>
    match c with
    | .inl _=>
      some true
    | .inr r'=>some r'
def ex_(w:World)(r:Bool):Ending->World->Prop:=λe w'=>e=.returned (.bool r)∧Keeps w w'
theorem eH_(w:World)(g:Value)(d:Yl)(B:RdL zt w g d)(i:Value)(x:Yl)(C:RdL zt w i x)(r:Bool)(hF:bb_ d x=some r):
    Calls wQ_ 179 #[g,i] w (ex_ w r):=by
 unfold bb_ at hF;have hB:Bs (λ_=>1) (col (λ_=>1)) w w:=Bs.start _ _;refine i_ (n:=26) (vs:=[g,i]) Tryz.func179 rfl rfl ?_;refine Zq (Za rfl (Ze [(0,_),(1,_)] (nx (c_ (Zq (Zm rfl (Zv (B_ rfl B wR_) (Zm rfl (Zv (B_ rfl C wR_) (Zv (bR_ rfl rfl) (Ze [(0,_),(1,_),(10,_)] (nx ?_))))))))))));refine l_ rfl (λD=>?_) (λD=>?_)
 ·rw[if_pos D] at hF;refine Zq (Za rfl (Ze [(4,_)] (nx (j_ (y_ ?_)))));have Z:=Zj hF;subst Z;refine Zr yp_ [.bool false] ?_;exact⟨rfl,hB.keeps⟩
 ·replace hF:=ZF D hF;refine g_ (nx (c_ (Zq (Zm rfl (Zv (B_ rfl B wR_) (Zm rfl (Ze [(0,_),(1,_),(12,_),(13,_)] (nx ?_))))))));obtain⟨c5,a0,hF⟩:=a_ hF;obtain⟨-,h7a,h7b⟩:=bV_ a0;obtain⟨E,F,hF⟩:=a_ hF;refine v_ (λa s=>∃(u:Tg),E=.inl ()∧Fr a 26 []∧Bs (λ_=>1) u w s) (λa w'=>∃r',E=.inr r'∧bodyPost wQ_ Tryz.f179 (ex_ w r') .ret a w') ?_ ?_ ?_
  ·refine f_ ?_;refine w_ (λ(K:Nat) a s=>∃(b:Int),∃(u:Tg),forN (bz_ d x) ((d.length:Int)-b).toNat b ()=some E∧((d.length:Int)-b).toNat=K∧0<=b∧Fr a 26 [(0,g),(1,i),(12,ZI (d.length:Int)),(13,ZI b)]∧Bs (λ_=>1) u w s) _ (λa ha=>⟨0,col (λ_=>1),(by rw[Int.sub_zero];exact F),rfl,Int.le_refl 0,ha.sb,hB⟩) ?_;rintro K12 a s ⟨b,u,Y,G,a1,ha,hB⟩;by_cases j:b<(d.length:Int)
   ·obtain⟨a2,f,y⟩:=bv_ j Y;dsimp only[bz_] at f;refine J_ ha ?_;refine Zq (Zv (r_ rfl rfl) (Ze [(0,_),(1,_),(12,_),(13,_),(14,_)] (nx (c_ ?_))));refine L_ (Zb (decide_eq_true j)) ?_;refine g_ (nx (c_ (f_ (Zq (Zm rfl (Za rfl (Ze [(0,_),(1,_),(5,_),(12,_),(13,_)] (nx (c_ ?_)))))))));obtain⟨z,k,f⟩:=a_ f;obtain⟨A,m,f⟩:=a_ f;refine ZW (Bf:=λa3 a4=>Bs (λ_=>1) a3 w a4) [(0,_),(1,_),(5,_),(12,_),(13,_)] (Zrg 16 8) [[],[],[0,1],[2],[],[],[4,5],[6]] (Zcn 8) (Zt9 8) (Zt0 8) [999] [.inl g,.inl (ZI b),.inr (λv o a5=>∃vl,v=adr vl (b.toNat*Rp.sz Int)∧RdL zt w vl d),.inl (ZI z),.inl i,.inl (ZI b),.inr (λv o a5=>∃vl,v=adr vl (b.toNat*Rp.sz Int)∧RdL zt w vl x),.inl (ZI A)] hB ⟨λ_ _ _ _ _ _ a6 hb ⟨vl,e,h⟩ hs=>⟨vl,e,h⟩,λ_ _ _ _ _ _ a6 hb ⟨vl,e,h⟩ hs=>⟨vl,e,h⟩,trivial⟩ ?_ ?_
    ·refine⟨Dp (h_ rfl),Dp (h_ rfl),?_,?_,Dp (h_ rfl),Dp (h_ rfl),?_,?_,trivial⟩
     ·rintro a7 a8 a9 ha- -;refine Zs ha ?_;refine ae_ B k rfl rfl wR_ wS_ ?_;exact⟨_,Stp.refl _ _ _,⟨_,rfl,B⟩⟩
     ·rintro b0 b1 b2 ha hB ⟨H,-⟩;obtain⟨b3,I,J⟩:=H;have ha:=ha.c I;refine Zs ha ?_;refine bB_ J k hB rfl rfl wT_ ?_;intro b4 L;cases L
      exact Zx rfl
     ·rintro b5 b6 b7 ha- -;refine Zs ha ?_;refine ae_ C m rfl rfl wR_ wS_ ?_;exact⟨_,Stp.refl _ _ _,⟨_,rfl,C⟩⟩
     ·rintro b8 b9 c0 ha hB ⟨M,-⟩;obtain⟨c1,N,O⟩:=M;have ha:=ha.c N;refine Zs ha ?_;refine bB_ O m hB rfl rfl wT_ ?_;intro c2 Q;cases Q
      exact Zx rfl
    rintro _ rfl R c3 c4 ha hB-;refine aH_ ha ?_;refine Zv (bR_ rfl rfl) (Ze [(0,_),(1,_),(12,_),(13,_),(24,_)] (nx ?_));refine l_ rfl (λq=>?_) (λq=>?_)
    ·rw[if_pos q] at f;refine Zq (Za rfl (Ze [(4,_)] (nx (j_ (W_ (y_ (y_ (W_ ?_))))))));refine bg_ ?_;have S:=Zj f;subst S;refine λa ha=>⟨_,y,?_⟩;refine D_ (P:=wQ_) (vs:=[.bool false]) yp_ ⟨rfl,trivial⟩ ?_ a ha;exact⟨rfl,hB.keeps⟩
    ·replace f:=ZF q f;refine g_ (x_ (nx (d_ (Zv (C_ rfl rfl (F_ (by omega) (by omega))) (Zm rfl (Ze [(0,_),(1,_),(12,_),(13,_)] (u_ ?_)))))));have T:=Zj f;subst T;refine Zk [(0,_),(1,_),(12,_),(13,_)] ?_;intro a ha;exact⟨_,(by rw[<-G];omega),b+1,R,y,rfl,by omega,ha,hB⟩
   ·have U:=bu_ j Y;refine J_ ha ?_;refine Zq (Zv (r_ rfl rfl) (Ze [(0,_),(1,_),(12,_),(13,_),(14,_)] (nx (c_ ?_))));refine G_ (Zb (decide_eq_false j)) ?_;refine s_ ?_;refine n_ (n_ (N_ ?_));refine p_ ?_;refine Zk [] ?_;intro a ha;exact⟨u,U,ha,hB⟩
  ·rintro a s ⟨u,rfl,ha,hB⟩;dsimp only at hF;refine ap_k ha ?_;refine Zn (Za rfl (Ze [(4,_)] (nx (j_ ?_))));have V:=Zj hF;subst V;refine Zr yp_ [.bool true] ?_;exact⟨rfl,hB.keeps⟩
  ·rintro a s ⟨r',rfl,W⟩;dsimp only at hF;have X:=Zj hF;subst X;exact W
end
end Go.Proofs.YtdbbeldgdgonfaaGreat
