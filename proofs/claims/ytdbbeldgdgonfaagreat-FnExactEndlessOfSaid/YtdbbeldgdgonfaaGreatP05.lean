/- Part 5 of what this claim rests on (GA), packed by pack.py. -/
import Derived.Test.YtdbbeldgdgonfaaGreatP03
import Derived.Test.YtdbbeldgdgonfaaGreatP04
namespace Go.Proofs.YtdbbeldgdgonfaaGreat
open Tryz renaming prog→tX_, results164→vt_, underlying41→tY_, sizeOf3→tZ_, isAgg3→ua_, results114→vu_, results106→vv_, results157→vw_, zeroValue3→uh_, results154→uO_, results115→uP_, results107→vx_, call171→uw_, results138→un_, results172→vB_, results95→ur_, results93→vF_
set_option linter.unusedSimpArgs false
set_option linter.unusedVariables false
section
set_option maxRecDepth 100000
set_option maxHeartbeats 2000000
open Go.RowKit
theorem dt_:Inf tX_ 3 (.int .i64 0) 1 8:=by unfold Inf;kernel_rfl
def gR_(a:Int)(b:Int)(c:Int):Option Bool:=
  (
    if decide (a>=b) then
      some (decide (a<=c))
    else
      some false)>>=λd=>
  some d
def sZ_(w:World)(r:Bool):Ending->World->Prop:=λe w'=>e=.returned (.bool r)∧Keeps w w'
theorem lH_(w:World)(f:Int)(g:Int)(i:Int)(r:Bool)(hF:gR_ f g i=some r):
    Calls tX_ 40 #[.int .i64 f,.int .i64 g,.int .i64 i] w (sZ_ w r):=by
 unfold gR_ at hF;have hB:Bs (λ_=>1) (col (λ_=>1)) w w:=Bs.start _ _;refine j_ (n:=15) (vs:=[ZI f,ZI g,ZI i]) Tryz.func40 rfl rfl ?_;refine Zq (Za rfl (Ze [(0,_),(1,_),(2,_)] (Zn (Zm rfl (Zm rfl (Zv (lc_ rfl rfl) (Zm rfl ?_)))))));obtain⟨j,d,hF⟩:=a_ hF;refine aF_ 4 (λm k=>Fr m 15 [(14,.bool j)]∧Keeps w k) ?_ ?_;all_goals simp only[List.take_succ_cons,List.take_zero,List.drop_succ_cons,List.drop_zero]
 ·have kp:Keeps w w:=Keeps.refl _;rcases Bool.eq_false_or_eq_true (decide (f>=g)) with b|b
  ·rw[if_pos b] at d;refine q_ (g_ rfl) (by decide) ⟨_,rfl,Zb b⟩ (q_ (g_ rfl) (by decide) ⟨_,rfl,Zb b⟩ (q_ (qW_ rfl rfl) (by decide) ⟨_,rfl,Zb b⟩ (Zv (L_ (Zb b) rfl) ?_)));have c:=Zj d;refine Ze [(14,_)] ?_;subst c;refine s_ (λa ha=>⟨ha,kp⟩)
  ·replace d:=ZF b d;refine v_ rfl rfl (by rw[b];rfl) (by decide) ?_;refine v_ rfl rfl (by rw[b];rfl) (by decide) ?_;refine v_ rfl rfl (by rw[b];rfl) (by decide) ?_;refine Zv (G_ (Zb b) rfl) ?_;have c:=Zj d;refine Ze [(14,_)] ?_;subst c;refine s_ (λa ha=>⟨ha,kp⟩)
 rintro v k ⟨ha,q⟩;have s:=q.stp 999 (col (λ_=>1));replace hB:=hB.stp s;refine aS_ ha ?_;refine Za rfl (Ze [(6,_)] (nx (n_ ?_)));have u:=Zj hF;subst u;refine Zr Tryz.results40 [.bool j] ?_;exact⟨rfl,hB.keeps⟩
def ht_(a:Int)(b:Int):Option Int:=
  if decide (a<b) then
    some a
  else
    some b
def pk_(w:World)(r:Int):Ending->World->Prop:=λe w'=>e=.returned (.int .i64 r)∧Keeps w w'
theorem pO_(w:World)(a:Int)(b:Int)(r:Int)(hF:ht_ a b=some r):
    Calls tX_ 164 #[.int .i64 a,.int .i64 b] w (pk_ w r):=by
 unfold ht_ at hF;have hB:Bs (λ_=>1) (col (λ_=>1)) w w:=Bs.start _ _;refine j_ (n:=10) (vs:=[ZI a,ZI b]) Tryz.func164 rfl rfl ?_;refine Zq (Za rfl (Ze [(0,_),(1,_)] (nx (b_ (Zq (Zm rfl (Zm rfl (Zv (u_ rfl rfl) (Ze [(0,_),(1,_),(7,_)] (nx ?_))))))))));refine p_ rfl (λc=>?_) (λc=>?_)
 ·rw[if_pos c] at hF;refine Zq (Zm rfl (Za rfl (Ze [(4,_)] (nx (n_ (I_ ?_))))));have d:=Zj hF;subst d;refine Zr vt_ [ZI a] ?_;exact⟨rfl,hB.keeps⟩
 ·replace hF:=ZF c hF;refine h_ (Zn (Zm rfl (Za rfl (Ze [(4,_)] (nx (n_ ?_))))));have f:=Zj hF;subst f;refine Zr vt_ [ZI b] ?_;exact⟨rfl,hB.keeps⟩
def gi_(b:Int):Int->Int->Unit->Option (Lp Unit Unit Bool):=λ(c:Int)(a:Int)(s:Unit)=>
  if a==b then
    some (.ret true)
  else
    some (.go ())
def hS_(a:List Int)(b:Int):Option Bool:=
  (forI (gi_ b) a 0 ())>>=λc=>
  match c with
  | .inl _=>
    some false
  | .inr r'=>some r'
def oE_(w:World)(r:Bool):Ending->World->Prop:=λe w'=>e=.returned (.bool r)∧Keeps w w'
theorem sa_(w:World)(f:Value)(b:Yl)(v:RdL zt w f b)(d:Int)(r:Bool)(hF:hS_ b d=some r):
    Calls tX_ 114 #[f,.int .i64 d] w (oE_ w r):=by
 unfold hS_ at hF;have hB:Bs (λ_=>1) (col (λ_=>1)) w w:=Bs.start _ _;refine j_ (n:=17) (vs:=[f,ZI d]) Tryz.func114 rfl rfl ?_;refine Zq (Za rfl (Ze [(0,_),(1,_)] (nx (b_ (Zq (Zm rfl (Zv (J_ rfl v tY_) (Zm rfl (Ze [(1,_),(7,_),(8,_),(9,_)] (nx ?_))))))))));obtain⟨x,y,hF⟩:=a_ hF;refine A_ (λa m=>∃(j:Tg),x=.inl ()∧Fr a 17 []∧Bs (λ_=>1) j w m) (λa w'=>∃r',x=.inr r'∧bodyPost tX_ Tryz.f114 (oE_ w r') .ret a w') ?_ ?_ ?_
 ·refine f_ ?_;refine z_ (λ(K:Nat) a m=>∃(c:Int)(j:Tg),forI (gi_ d) (b.drop c.toNat) c ()=some x∧(b.drop c.toNat).length=K∧0<=c∧Fr a 17 [(1,ZI d),(7,f),(8,ZI (b.length:Int)),(9,ZI c)]∧Bs (λ_=>1) j w m) _ (λa ha=>⟨0,col (λ_=>1),y,rfl,Int.le_refl 0,ha.sb,hB⟩) ?_;rintro K8 a m ⟨c,j,H,I,J,ha,hB⟩;by_cases i:c<(b.length:Int)
  ·obtain⟨q,O,s,g,u⟩:=R_ J i H;have hle:=v.len_le;dsimp only[gi_] at g;refine O_ ha ?_;refine Zq (Zv (u_ rfl rfl) (Ze [(1,_),(7,_),(8,_),(9,_),(10,_)] (nx (b_ ?_))));refine M_ (Zb (decide_eq_true i)) ?_;refine h_ (nx (b_ (f_ (Zq (Zo ?_)))));refine wf_atZ v s hB rfl rfl tY_ tZ_ ?_;intro L M N z A;cases A
   refine Zv (e_ rfl ua_ (i_ z)) (Za rfl (Ze [(1,_),(6,_),(7,_),(8,_),(9,_)] (Zn (Zm rfl (Zm rfl (Zv (cD_ rfl rfl) (Ze [(1,_),(7,_),(8,_),(9,_),(15,_)] (nx ?_))))))));refine p_ rfl (λk=>?_) (λk=>?_)
   ·rw[if_pos k] at g;refine Zq (Za rfl (Ze [(4,_)] (nx (n_ (aq_ (I_ (I_ (aq_ ?_))))))));refine cK_ ?_;have B:=Zj g;subst B;refine λa ha=>⟨_,u,?_⟩;refine N_ (P:=tX_) (vs:=[.bool true]) vu_ ⟨rfl,trivial⟩ ?_ a ha;exact⟨rfl,hB.keeps⟩
   ·replace g:=ZF k g;refine h_ (y_ (nx (d_ (Zv (C_ rfl rfl (F_ (by omega) (by omega))) (Zm rfl (Ze [(1,_),(7,_),(8,_),(9,_)] (x_ ?_)))))));have C:=Zj g;subst C;refine Zk [(1,_),(7,_),(8,_),(9,_)] ?_;intro a ha;exact⟨_,(by rw[<-I];simp only[List.length_drop];omega),c+1,j,u,rfl,by omega,ha,hB⟩
  ·have D:=S_ i H;refine O_ ha ?_;refine Zq (Zv (u_ rfl rfl) (Ze [(1,_),(7,_),(8,_),(9,_),(10,_)] (nx (b_ ?_))));refine D_ (Zb (decide_eq_false i)) ?_;refine w_ ?_;refine m_ (m_ (Q_ ?_));refine s_ ?_;refine Zk [] ?_;intro a ha;exact⟨j,D,ha,hB⟩
 ·rintro a m ⟨j,rfl,ha,hB⟩;dsimp only at hF;refine ap_k ha ?_;refine Zn (Za rfl (Ze [(4,_)] (nx (n_ ?_))));have E:=Zj hF;subst E;refine Zr vu_ [.bool false] ?_;exact⟨rfl,hB.keeps⟩
 ·rintro a m ⟨r',rfl,F⟩;dsimp only at hF;have G:=Zj hF;subst G;exact F
def gq_(c:Int)(d:Int):Int->Int->Unit->Option (Lp Unit Unit Bool):=λ(f:Int)(a:Int)(s:Unit)=>
  (gR_ a c d)>>=λb=>
  if !b then
    some (.ret false)
  else
    some (.go ())
def hR_(a:List Int)(b:Int)(c:Int):Option Bool:=
  (forI (gq_ b c) a 0 ())>>=λd=>
  match d with
  | .inl _=>
    some true
  | .inr r'=>some r'
def oD_(w:World)(r:Bool):Ending->World->Prop:=λe w'=>e=.returned (.bool r)∧Keeps w w'
theorem rO_(w:World)(i:Value)(b:Yl)(z:RdL zt w i b)(d:Int)(f:Int)(r:Bool)(hF:hR_ b d f=some r):
    Calls tX_ 106 #[i,.int .i64 d,.int .i64 f] w (oD_ w r):=by
 unfold hR_ at hF;have hB:Bs (λ_=>1) (col (λ_=>1)) w w:=Bs.start _ _;refine j_ (n:=21) (vs:=[i,ZI d,ZI f]) Tryz.func106 rfl rfl ?_;refine Zq (Za rfl (Ze [(0,_),(1,_),(2,_)] (nx (b_ (Zq (Zm rfl (Zv (J_ rfl z tY_) (Zm rfl (Ze [(1,_),(2,_),(9,_),(10,_),(11,_)] (nx ?_))))))))));obtain⟨A,B,hF⟩:=a_ hF;refine A_ (λa m=>∃(k:Tg),A=.inl ()∧Fr a 21 []∧Bs (λ_=>1) k w m) (λa w'=>∃r',A=.inr r'∧bodyPost tX_ Tryz.f106 (oD_ w r') .ret a w') ?_ ?_ ?_
 ·refine f_ ?_;refine z_ (λ(K:Nat) a m=>∃(c:Int)(k:Tg),forI (gq_ d f) (b.drop c.toNat) c ()=some A∧(b.drop c.toNat).length=K∧0<=c∧Fr a 21 [(1,ZI d),(2,ZI f),(9,i),(10,ZI (b.length:Int)),(11,ZI c)]∧Bs (λ_=>1) k w m) _ (λa ha=>⟨0,col (λ_=>1),B,rfl,Int.le_refl 0,ha.sb,hB⟩) ?_;rintro K8 a m ⟨c,k,N,O,Q,ha,hB⟩;by_cases j:c<(b.length:Int)
  ·obtain⟨s,W,u,g,v⟩:=R_ Q j N;have hle:=z.len_le;dsimp only[gq_] at g;refine O_ ha ?_;refine Zq (Zv (u_ rfl rfl) (Ze [(1,_),(2,_),(9,_),(10,_),(11,_),(12,_)] (nx (b_ ?_))));refine M_ (Zb (decide_eq_true j)) ?_;refine h_ (nx (b_ (f_ (Zq (Zo ?_)))));refine wf_atZ z u hB rfl rfl tY_ tZ_ ?_;intro R S T C D;cases D
   refine Zv (e_ rfl ua_ (i_ C)) (Za rfl (Ze [(1,_),(2,_),(8,_),(9,_),(10,_),(11,_)] (Zn (Zm rfl (Zm rfl (Zm rfl ?_))))));obtain⟨x,y,g⟩:=a_ g;refine Zo ?_;refine o_ (lH_ m s d f x y) Tryz.call40 ⟨rfl,rfl,rfl,trivial⟩ ?_;rintro U V ⟨rfl,E⟩;have F:=E.stp 999 k;refine⟨_,rfl,?_⟩;replace hB:=hB.stp F;refine Zv (bo_ rfl) (Ze [(1,_),(2,_),(9,_),(10,_),(11,_),(19,_)] (nx ?_));refine p_ rfl (λq=>?_) (λq=>?_)
   ·rw[if_pos q] at g;refine Zq (Za rfl (Ze [(6,_)] (nx (n_ (aq_ (I_ (I_ (aq_ ?_))))))));refine cK_ ?_;have G:=Zj g;subst G;refine λa ha=>⟨_,v,?_⟩;refine N_ (P:=tX_) (vs:=[.bool false]) vv_ ⟨rfl,trivial⟩ ?_ a ha;exact⟨rfl,hB.keeps⟩
   ·replace g:=ZF q g;refine h_ (y_ (nx (d_ (Zv (C_ rfl rfl (F_ (by omega) (by omega))) (Zm rfl (Ze [(1,_),(2,_),(9,_),(10,_),(11,_)] (x_ ?_)))))));have H:=Zj g;subst H;refine Zk [(1,_),(2,_),(9,_),(10,_),(11,_)] ?_;intro a ha;exact⟨_,(by rw[<-O];simp only[List.length_drop];omega),c+1,k,v,rfl,by omega,ha,hB⟩
  ·have I:=S_ j N;refine O_ ha ?_;refine Zq (Zv (u_ rfl rfl) (Ze [(1,_),(2,_),(9,_),(10,_),(11,_),(12,_)] (nx (b_ ?_))));refine D_ (Zb (decide_eq_false j)) ?_;refine w_ ?_;refine m_ (m_ (Q_ ?_));refine s_ ?_;refine Zk [] ?_;intro a ha;exact⟨k,I,ha,hB⟩
 ·rintro a m ⟨k,rfl,ha,hB⟩;dsimp only at hF;refine ap_k ha ?_;refine Zn (Za rfl (Ze [(6,_)] (nx (n_ ?_))));have J:=Zj hF;subst J;refine Zr vv_ [.bool true] ?_;exact⟨rfl,hB.keeps⟩
 ·rintro a m ⟨r',rfl,L⟩;dsimp only at hF;have M:=Zj hF;subst M;exact L
def dg_(d:List Int)(f:Int):Int->Option (Lp Int Int (List Int)):=λ(s:Int)=>
  (
    if decide (s<(d.length:Int)) then
      (ix d s)>>=λa=>
      some (decide (a<f))
    else
      some false)>>=λb=>
  if b then
    (ck (s+1))>>=λc=>
    some (.go c)
  else
    some (.out s)
def hk_(fuel:Nat)(a:List Int)(c:Int):Option (List Int):=
  (loopF (dg_ a c) fuel 0)>>=λn=>
  match n with
  | .inl b=>
    (
      if decide (b<(a.length:Int)) then
        (ix a b)>>=λd=>
        some (d==c)
      else
        some false)>>=λf=>
    if f then
      some a
    else
      (cut a 0 b)>>=λg=>
      (cat ([]:List Int) g)>>=λi=>
      (push i c)>>=λj=>
      (cut a b a.length)>>=λk=>
      (cat j k)>>=λm=>
      some m
  | .inr _=>none
def sd_(oo:Tg)(t:Nat)(w:World)(r:Yl):Ending->World->Prop:=λe w'=>∃(a:Value)(o':Tg),e=.returned (a)∧Of 3 o' w' a r∧Keeps w w'∧∀b,b<w.heap.size->o' b=oo b
theorem sl_(fuel:Nat)(w:World)(oo:Tg)(t:Nat)(ht:2<=t)(d:Value)(x:Yl)(g:Of 3 oo w d x)(f:Int)(r:Yl)(hF:hk_ fuel x f=some r):
    Calls tX_ 157 #[d,.int .i64 f] w (sd_ oo t w r):=by
 unfold hk_ at hF;replace g:=g.col;have g0r:=g.rd;have hB:Bs oo (col oo) w w:=Bs.start _ _;refine j_ (n:=48) (vs:=[d,ZI f]) Tryz.func157 rfl rfl ?_;generalize col oo=o at*;refine Zq (Za rfl (Ze [(0,_),(1,_)] (Zn (Za rfl (Ze [(0,_),(1,_),(5,_)] (nx ?_))))));obtain⟨c5,Y,hF⟩:=a_ hF;refine jm_ (λa q=>∃(i:Int)(s:Tg),c5=.inl i∧Fr a 48 [(0,d),(1,ZI f),(5,ZI i)]∧Bs oo s w q∧RdL s q d x∧Of 3 s q d x) (λ_ _=>False) ?_ ?_ ?_
 ·refine f_ ?_;refine z_ (λ(K:Nat) a q=>∃(i:Int)(s:Tg),loopF (dg_ x f) K i=some c5∧Fr a 48 [(0,d),(1,ZI f),(5,ZI i)]∧Bs oo s w q∧RdL s q d x∧Of 3 s q d x) fuel (λa ha=>⟨0,o,Y,ha.sb,hB,g0r,g⟩) ?_;rintro K8 a q ⟨i,s,c6,ha,hB,g0r,g⟩;obtain⟨K12,f4,c7,m,J⟩:=ad_ c6;dsimp only[dg_] at m;refine O_ ha ?_;refine b_ (Zq (Zm rfl (Zm rfl (Zv (J_ rfl g0r tY_) (Zv (u_ rfl rfl) (Zm rfl ?_))))));obtain⟨L,j,m⟩:=a_ m;refine aF_ 7 (λZ M=>Fr Z 48 [(0,d),(1,ZI f),(5,ZI i),(18,.bool L)]∧Keeps q M) ?_ ?_;all_goals simp only[List.take_succ_cons,List.take_zero,List.drop_succ_cons,List.drop_zero]
  ·have kp:Keeps q q:=Keeps.refl _;rcases Bool.eq_false_or_eq_true (decide (i<(x.length:Int))) with b|b
   ·rw[if_pos b] at j;refine q_ (g_ rfl) (by decide) ⟨_,rfl,Zb b⟩ (q_ (g_ rfl) (by decide) ⟨_,rfl,Zb b⟩ ?_);obtain⟨a0,N,j⟩:=a_ j;refine ct_ (by decide) ⟨_,rfl,Zb b⟩ ?_;refine fn_ g0r N rfl rfl tY_ tZ_ ?_;intro c8 c9 d0 a1 a2;cases a2
    refine q_ (e_ rfl ua_ (i_ a1)) (by decide) ⟨_,rfl,Zb b⟩ (q_ (g_ rfl) (by decide) ⟨_,rfl,Zb b⟩ (q_ (u_ rfl rfl) (by decide) ⟨_,rfl,Zb b⟩ (Zv (L_ (Zb b) rfl) ?_)));have u:=Zj j;refine Ze [(0,_),(1,_),(5,_),(18,_)] ?_;subst u;refine s_ (λa ha=>⟨ha,kp⟩)
   ·replace j:=ZF b j;refine v_ rfl rfl (by rw[b];rfl) (by decide) ?_;refine v_ rfl rfl (by rw[b];rfl) (by decide) ?_;refine v_ rfl rfl (by rw[b];rfl) (by decide) ?_;refine v_ rfl rfl (by rw[b];rfl) (by decide) ?_;refine v_ rfl rfl (by rw[b];rfl) (by decide) ?_;refine v_ rfl rfl (by rw[b];rfl) (by decide) ?_;refine Zv (G_ (Zb b) rfl) ?_;have u:=Zj j;refine Ze [(0,_),(1,_),(5,_),(18,_)] ?_;subst u;refine s_ (λa ha=>⟨ha,kp⟩)
  rintro d1 M ⟨ha,a3⟩;have z:=a3.stp 999 s;replace g0r:=g0r.stp z;replace g:=g.stp z;replace hB:=hB.stp z;refine aS_ ha ?_;refine Ze [(0,_),(1,_),(5,_),(18,_)] (nx ?_);refine p_ rfl (λA=>?_) (λA=>?_)
  ·rw[if_pos A] at m;refine h_ (nx (f_ (d_ (Zm rfl ?_))));obtain⟨B,O,m⟩:=a_ m;refine Zv (C_ rfl rfl O) (Za rfl (Ze [(0,_),(1,_),(5,_)] (y_ (x_ ?_))));have a4:=Zj m;subst a4;refine Zk [(0,_),(1,_),(5,_)] ?_;intro a ha;exact⟨K12,by omega,B,s,J,ha,hB,g0r,g⟩
  ·replace m:=ZF A m;refine w_ ?_;refine m_ (m_ (Q_ ?_));refine s_ ?_;have a5:=Zj m;subst a5;refine Zk [(0,_),(1,_),(5,_)] ?_;intro a ha;exact⟨i,s,J,ha,hB,g0r,g⟩
 ·rintro a q ⟨i,s,rfl,ha,hB,g0r,g⟩;dsimp only at hF;refine O_ ha ?_;refine b_ (Zq (Zm rfl (Zm rfl (Zv (J_ rfl g0r tY_) (Zv (u_ rfl rfl) (Zm rfl ?_))))));obtain⟨P,k,hF⟩:=a_ hF;refine aF_ 7 (λa6 Q=>Fr a6 48 [(0,d),(1,ZI f),(5,ZI i),(32,.bool P)]∧Keeps q Q) ?_ ?_;all_goals simp only[List.take_succ_cons,List.take_zero,List.drop_succ_cons,List.drop_zero]
  ·have kp:Keeps q q:=Keeps.refl _;rcases Bool.eq_false_or_eq_true (decide (i<(x.length:Int))) with c|c
   ·rw[if_pos c] at k;refine q_ (g_ rfl) (by decide) ⟨_,rfl,Zb c⟩ (q_ (g_ rfl) (by decide) ⟨_,rfl,Zb c⟩ ?_);obtain⟨a7,R,k⟩:=a_ k;refine ct_ (by decide) ⟨_,rfl,Zb c⟩ ?_;refine fn_ g0r R rfl rfl tY_ tZ_ ?_;intro d2 d3 d4 a8 a9;cases a9
    refine q_ (e_ rfl ua_ (i_ a8)) (by decide) ⟨_,rfl,Zb c⟩ (q_ (g_ rfl) (by decide) ⟨_,rfl,Zb c⟩ (q_ (cD_ rfl rfl) (by decide) ⟨_,rfl,Zb c⟩ (Zv (L_ (Zb c) rfl) ?_)));have v:=Zj k;refine Ze [(0,_),(1,_),(5,_),(32,_)] ?_;subst v;refine s_ (λa ha=>⟨ha,kp⟩)
   ·replace k:=ZF c k;refine v_ rfl rfl (by rw[c];rfl) (by decide) ?_;refine v_ rfl rfl (by rw[c];rfl) (by decide) ?_;refine v_ rfl rfl (by rw[c];rfl) (by decide) ?_;refine v_ rfl rfl (by rw[c];rfl) (by decide) ?_;refine v_ rfl rfl (by rw[c];rfl) (by decide) ?_;refine v_ rfl rfl (by rw[c];rfl) (by decide) ?_;refine Zv (G_ (Zb c) rfl) ?_;have v:=Zj k;refine Ze [(0,_),(1,_),(5,_),(32,_)] ?_;subst v;refine s_ (λa ha=>⟨ha,kp⟩)
  rintro d5 Q ⟨ha,b0⟩;have C:=b0.stp 999 s;replace g0r:=g0r.stp C;replace g:=g.stp C;replace hB:=hB.stp C;refine aS_ ha ?_;refine Ze [(0,_),(1,_),(5,_),(32,_)] (nx ?_);refine p_ rfl (λD=>?_) (λD=>?_)
  ·rw[if_pos D] at hF;refine Zq (Zm rfl (Za rfl (Ze [(4,_)] (nx (n_ (I_ ?_))))));have b1:=Zj hF;subst b1;refine Zr vw_ [d] ?_;exact⟨_,rt oo s w.heap.size 9 t,rfl,g.rt hB 9 t (by decide),hB.keeps,ac_ _ _ _ _ _⟩
  ·replace hF:=ZF D hF;refine h_ (Zn (Zo ?_));refine gj_ w.heap.size 11 hB.keeps.size (o:=s) (cs:=[]) (xs:=([]:Yl)) (vs:=[]) rfl rfl trivial tY_ tZ_ uh_ (by decide) fill0 (by simp) ?_;intro d6 d7 d8 b2 E;replace g0r:=g0r.stp E;replace g:=g.stp E;replace hB:=hB.stp E;refine Zm rfl (Zm rfl ?_);obtain⟨d9,S,hF⟩:=a_ hF;refine Zo ?_;refine lv_ g0r S rfl rfl rfl tY_ tZ_ ?_;intro e0 b3;obtain⟨e1,T,hF⟩:=a_ hF;refine Zo ?_;refine bf_ b2 b3 T (by decide) hB.keeps.size rfl rfl tY_ dt_ rfl (by decide) ?_;intro b4 e2 b5 F G;replace g0r:=g0r.stp G;replace g:=g.stp G;replace hB:=hB.stp G;refine Za rfl (Ze [(0,_),(1,_),(5,_),(6,_)] (Zn (Zm rfl (Zm rfl (Zo ?_)))));refine aB_ (o:=b4) (cs:=[ZI f]) (xs:=([f]:Yl)) (vs:=[(0,ZI f)]) ⟨_,_,rfl,rfl,rfl⟩ rfl ⟨rfl,rfl,trivial⟩ tY_ tZ_ uh_ (by decide) (fill1 rfl) (by simp) ?_;intro e3 e4 e5 b6 y e6;replace g0r:=g0r.stp y;replace g:=g.stp y;replace F:=F.stp y;replace hB:=hB.stp y;obtain⟨e7,U,hF⟩:=a_ hF;refine Zo ?_;refine bf_ F b6 (ai_ U) (by decide) hB.keeps.size rfl rfl tY_ dt_ rfl (by decide) ?_;intro e8 e9 b7 b8 H;replace g0r:=g0r.stp H;replace g:=g.stp H;replace hB:=hB.stp H;refine Za rfl (Ze [(0,_),(5,_),(6,_)] (Zn (Zm rfl (Zm rfl (Zm rfl ?_)))));obtain⟨f0,V,hF⟩:=a_ hF;refine Zo ?_;refine lv_ g0r V rfl rfl rfl tY_ tZ_ ?_;intro f1 b9;obtain⟨f2,W,hF⟩:=a_ hF;refine Zo ?_;refine bf_ b8 b9 W (by decide) hB.keeps.size rfl rfl tY_ dt_ rfl (by decide) ?_;intro c0 f3 X c1 I;replace g0r:=g0r.stp I;replace g:=g.stp I;replace hB:=hB.stp I;refine Za rfl (Ze [(4,_)] (nx (n_ ?_)));have c2:=c1.frzF;replace hB:=hB.frz 11 (by decide);generalize (frz 11 c0)=c3 at*;have c4:=Zj hF;subst c4;refine Zr vw_ [X] ?_;exact⟨_,rt oo c3 w.heap.size 9 t,rfl,c2.rt hB 9 t (by decide),hB.keeps,ac_ _ _ _ _ _⟩
 ·exact λ_ _ h=>h.elim
def da_(a:List Int):Option (List Int):=
  (cat ([]:List Int) a)>>=λb=>
  some b
def rM_(oo:Tg)(t:Nat)(w:World)(r:Yl):Ending->World->Prop:=λe w'=>∃(a:Value)(o':Tg),e=.returned (a)∧Ow w.heap.size 3 t o' w' a r∧Keeps w w'∧∀b,b<w.heap.size->o' b=oo b
theorem er_(w:World)(oo:Tg)(t:Nat)(ht:2<=t)(a:Value)(g:Yl)(j:RdL zt w a g)(r:Yl)(hF:da_ g=some r):
    Calls tX_ 66 #[a] w (rM_ oo t w r):=by
 unfold da_ at hF;have hB:Bs oo (col oo) w w:=Bs.start _ _;refine j_ (n:=6) (vs:=[a]) Tryz.func66 rfl rfl ?_;generalize col oo=o at*;refine Zq (Za rfl (Ze [(0,_)] (Zn (Zo ?_))));refine gj_ w.heap.size 11 hB.keeps.size (o:=o) (cs:=[]) (xs:=([]:Yl)) (vs:=[]) rfl rfl trivial tY_ tZ_ uh_ (by decide) fill0 (by simp) ?_;intro s u v k m;replace hB:=hB.stp m;refine Zm rfl ?_;obtain⟨x,b,hF⟩:=a_ hF;refine Zo ?_;refine lk_ k (j.keep hB.keeps) b (by decide) hB.keeps.size (λ_ _ h=>h) rfl rfl tY_ dt_ rfl (by decide) ?_;intro q y i c d;replace hB:=hB.stp d;refine Za rfl (Ze [(2,_)] (nx (n_ ?_)));have f:=Zj hF;subst f;refine Zr Tryz.results66 [i] ?_;exact⟨_,rt oo q w.heap.size 11 t,rfl,c.rt hB (by decide) t,hB.keeps,ac_ _ _ _ _ _⟩
def gT_(a:Int):Option Int:=
  if decide (a>0) then
    some 1
  else
    if decide (a<0) then
      some (-1)
    else
      some 0
def qd_(w:World)(r:Int):Ending->World->Prop:=λe w'=>e=.returned (.int .i64 r)∧Keeps w w'
theorem rA_(w:World)(a:Int)(r:Int)(hF:gT_ a=some r):
    Calls tX_ 154 #[.int .i64 a] w (qd_ w r):=by
 unfold gT_ at hF;have hB:Bs (λ_=>1) (col (λ_=>1)) w w:=Bs.start _ _;refine j_ (n:=9) (vs:=[ZI a]) Tryz.func154 rfl rfl ?_;refine Zq (Za rfl (Ze [(0,_)] (nx (b_ (f_ (Zq (Zm rfl (Zv (ef_ rfl rfl) (Za rfl (Ze [(0,_),(3,_)] (nx ?_)))))))))));refine p_ rfl (λb=>?_) (λb=>?_)
 ·rw[if_pos b] at hF;refine Zq (Za rfl (Ze [(2,_)] (nx (n_ (aq_ (I_ ?_))))));have d:=Zj hF;subst d;refine Zr uO_ [ZI 1] ?_;exact⟨rfl,hB.keeps⟩
 ·replace hF:=ZF b hF;refine Zq (Zm rfl (Zv (u_ rfl rfl) (Za rfl (Ze [(6,_)] (nx ?_)))));refine p_ rfl (λc=>?_) (λc=>?_)
  ·rw[if_pos c] at hF;refine Zq (Za rfl (Ze [(2,_)] (nx (n_ (aq_ (I_ ?_))))));have f:=Zj hF;subst f;refine Zr uO_ [ZI (-1)] ?_;exact⟨rfl,hB.keeps⟩
  ·replace hF:=ZF c hF;refine h_ (y_ (Zn (Za rfl (Ze [(2,_)] (nx (n_ ?_))))));have g:=Zj hF;subst g;refine Zr uO_ [ZI 0] ?_;exact⟨rfl,hB.keeps⟩
def fr_(d:List Int)(f:List Int):Int->Unit->Option (Lp Unit Unit Bool):=λ(c:Int)(s:Unit)=>
  (ix d c)>>=λa=>
  (ix f c)>>=λb=>
  if a !=b then
    some (.ret false)
  else
    some (.go ())
def fN_(a:List Int)(b:List Int):Option Bool:=
  if(a.length:Int) !=(b.length:Int) then
    some false
  else
    ck (a.length:Int)>>=λ_=>
    (forN (fr_ a b) ((a.length:Int)).toNat 0 ())>>=λc=>
    match c with
    | .inl _=>
      some true
    | .inr r'=>some r'
def mZ_(w:World)(r:Bool):Ending->World->Prop:=λe w'=>e=.returned (.bool r)∧Keeps w w'
theorem nd_(w:World)(g:Value)(d:Yl)(B:RdL zt w g d)(i:Value)(x:Yl)(C:RdL zt w i x)(r:Bool)(hF:fN_ d x=some r):
    Calls tX_ 115 #[g,i] w (mZ_ w r):=by
 unfold fN_ at hF;have hB:Bs (λ_=>1) (col (λ_=>1)) w w:=Bs.start _ _;refine j_ (n:=26) (vs:=[g,i]) Tryz.func115 rfl rfl ?_;refine Zq (Za rfl (Ze [(0,_),(1,_)] (nx (b_ (Zq (Zm rfl (Zv (J_ rfl B tY_) (Zm rfl (Zv (J_ rfl C tY_) (Zv (dw_ rfl rfl) (Ze [(0,_),(1,_),(10,_)] (nx ?_))))))))))));refine p_ rfl (λD=>?_) (λD=>?_)
 ·rw[if_pos D] at hF;refine Zq (Za rfl (Ze [(4,_)] (nx (n_ (I_ ?_)))));have Z:=Zj hF;subst Z;refine Zr uP_ [.bool false] ?_;exact⟨rfl,hB.keeps⟩
 ·replace hF:=ZF D hF;refine h_ (nx (b_ (Zq (Zm rfl (Zv (J_ rfl B tY_) (Zm rfl (Ze [(0,_),(1,_),(12,_),(13,_)] (nx ?_))))))));obtain⟨c5,a0,hF⟩:=a_ hF;obtain⟨-,h7a,h7b⟩:=cr_ a0;obtain⟨E,F,hF⟩:=a_ hF;refine A_ (λa s=>∃(u:Tg),E=.inl ()∧Fr a 26 []∧Bs (λ_=>1) u w s) (λa w'=>∃r',E=.inr r'∧bodyPost tX_ Tryz.f115 (mZ_ w r') .ret a w') ?_ ?_ ?_
  ·refine f_ ?_;refine z_ (λ(K:Nat) a s=>∃(b:Int)(u:Tg),forN (fr_ d x) ((d.length:Int)-b).toNat b ()=some E∧((d.length:Int)-b).toNat=K∧0<=b∧Fr a 26 [(0,g),(1,i),(12,ZI (d.length:Int)),(13,ZI b)]∧Bs (λ_=>1) u w s) _ (λa ha=>⟨0,col (λ_=>1),F,rfl,Int.le_refl 0,ha.sb,hB⟩) ?_;rintro K12 a s ⟨b,u,Y,G,a1,ha,hB⟩;by_cases j:b<(d.length:Int)
   ·obtain⟨a2,f,y⟩:=bz_ j Y;dsimp only[fr_] at f;refine O_ ha ?_;refine Zq (Zv (u_ rfl rfl) (Ze [(0,_),(1,_),(12,_),(13,_),(14,_)] (nx (b_ ?_))));refine M_ (Zb (decide_eq_true j)) ?_;refine h_ (nx (b_ (f_ (Zq (Zm rfl (Za rfl (Ze [(0,_),(1,_),(5,_),(12,_),(13,_)] (nx (b_ ?_)))))))));obtain⟨z,k,f⟩:=a_ f;obtain⟨A,m,f⟩:=a_ f;refine ZW (Bf:=λa3 a4=>Bs (λ_=>1) a3 w a4) [(0,_),(1,_),(5,_),(12,_),(13,_)] (Zrg 16 8) [[],[],[0,1],[2],[],[],[4,5],[6]] (Zcn 8) (Zt9 8) (Zt0 8) [999] [.inl g,.inl (ZI b),.inr (λv o a5=>∃vl,v=adr vl (b.toNat*Rp.sz Int)∧RdL zt w vl d),.inl (ZI z),.inl i,.inl (ZI b),.inr (λv o a5=>∃vl,v=adr vl (b.toNat*Rp.sz Int)∧RdL zt w vl x),.inl (ZI A)] hB ⟨λ_ _ _ _ _ _ a6 hb ⟨vl,e,h⟩ hs=>⟨vl,e,h⟩,λ_ _ _ _ _ _ a6 hb ⟨vl,e,h⟩ hs=>⟨vl,e,h⟩,trivial⟩ ?_ ?_
    ·refine⟨Dp (g_ rfl),Dp (g_ rfl),?_,?_,Dp (g_ rfl),Dp (g_ rfl),?_,?_,trivial⟩
     ·rintro a7 a8 a9 ha hB-;refine Zs ha ?_;refine an_ B k rfl rfl tY_ tZ_ ?_;exact⟨_,Stp.refl _ _ _,⟨_,rfl,B⟩⟩
     ·rintro b0 b1 b2 ha hB ⟨H,-⟩;obtain⟨b3,I,J⟩:=H;have ha:=ha.c I;refine Zs ha ?_;refine cm_ J k hB rfl rfl ua_ ?_;intro b4 L;cases L
      exact Zx rfl
     ·rintro b5 b6 b7 ha hB-;refine Zs ha ?_;refine an_ C m rfl rfl tY_ tZ_ ?_;exact⟨_,Stp.refl _ _ _,⟨_,rfl,C⟩⟩
     ·rintro b8 b9 c0 ha hB ⟨M,-⟩;obtain⟨c1,N,O⟩:=M;have ha:=ha.c N;refine Zs ha ?_;refine cm_ O m hB rfl rfl ua_ ?_;intro c2 Q;cases Q
      exact Zx rfl
    rintro _ rfl R c3 c4 ha hB-;refine aS_ ha ?_;refine Zv (dw_ rfl rfl) (Ze [(0,_),(1,_),(12,_),(13,_),(24,_)] (nx ?_));refine p_ rfl (λq=>?_) (λq=>?_)
    ·rw[if_pos q] at f;refine Zq (Za rfl (Ze [(4,_)] (nx (n_ (aq_ (I_ (I_ (aq_ ?_))))))));refine cK_ ?_;have S:=Zj f;subst S;refine λa ha=>⟨_,y,?_⟩;refine N_ (P:=tX_) (vs:=[.bool false]) uP_ ⟨rfl,trivial⟩ ?_ a ha;exact⟨rfl,hB.keeps⟩
    ·replace f:=ZF q f;refine h_ (y_ (nx (d_ (Zv (C_ rfl rfl (F_ (by omega) (by omega))) (Zm rfl (Ze [(0,_),(1,_),(12,_),(13,_)] (x_ ?_)))))));have T:=Zj f;subst T;refine Zk [(0,_),(1,_),(12,_),(13,_)] ?_;intro a ha;exact⟨_,(by rw[<-G];omega),b+1,R,y,rfl,by omega,ha,hB⟩
   ·have U:=bx_ j Y;refine O_ ha ?_;refine Zq (Zv (u_ rfl rfl) (Ze [(0,_),(1,_),(12,_),(13,_),(14,_)] (nx (b_ ?_))));refine D_ (Zb (decide_eq_false j)) ?_;refine w_ ?_;refine m_ (m_ (Q_ ?_));refine s_ ?_;refine Zk [] ?_;intro a ha;exact⟨u,U,ha,hB⟩
  ·rintro a s ⟨u,rfl,ha,hB⟩;dsimp only at hF;refine ap_k ha ?_;refine Zn (Za rfl (Ze [(4,_)] (nx (n_ ?_))));have V:=Zj hF;subst V;refine Zr uP_ [.bool true] ?_;exact⟨rfl,hB.keeps⟩
  ·rintro a s ⟨r',rfl,W⟩;dsimp only at hF;have X:=Zj hF;subst X;exact W
def df_(d:List Int):Int->Int->(List Int)->Option (Lp (List Int) (List Int) (List Int)):=λ(f:Int)(a:Int)(s:List Int)=>
  (ix d a)>>=λb=>
  (push s b)>>=λc=>
  some (.go c)
def eJ_(a:List Int)(b:List Int):Option (List Int):=
  (forI (df_ a) b 0 [])>>=λc=>
  match c with
  | .inl d=>
    some d
  | .inr _=>none
def mh_(oo:Tg)(t:Nat)(w:World)(r:Yl):Ending->World->Prop:=λe w'=>∃(a:Value)(o':Tg),e=.returned (a)∧Ow w.heap.size 3 t o' w' a r∧Keeps w w'∧∀b,b<w.heap.size->o' b=oo b
theorem mf_(w:World)(oo:Tg)(t:Nat)(ht:2<=t)(d:Value)(B:Yl)(X:RdL zt w d B)(f:Value)(b:Yl)(C:RdL zt w f b)(r:Yl)(hF:eJ_ B b=some r):
    Calls tX_ 130 #[d,f] w (mh_ oo t w r):=by
 unfold eJ_ at hF;have hB:Bs oo (col oo) w w:=Bs.start _ _;refine j_ (n:=23) (vs:=[d,f]) Tryz.func130 rfl rfl ?_;generalize col oo=o at*;refine Zq (Za rfl (Ze [(0,_),(1,_)] (Zn (Za rfl (Ze [(0,_),(1,_),(5,_)] (nx (b_ (Zq (Zm rfl (Zv (J_ rfl C tY_) (Zm rfl (Ze [(0,_),(5,_),(8,_),(9,_),(10,_)] ?_))))))))))));refine nx ?_;have Y:Ow w.heap.size 3 11 o w (.slice none 0 0) ([]:Yl):=Ow.nil _ _ _ _ _;obtain⟨V,D,hF⟩:=a_ hF;refine A_ (λa s=>∃(q:Yl)(g:Value)(j:Tg),V=.inl q∧Fr a 23 [(5,g)]∧Bs oo j w s∧Ow w.heap.size 3 11 j s g q) (λ_ _=>False) ?_ ?_ ?_
 ·refine f_ ?_;refine z_ (λ(K:Nat) a s=>∃(c:Int)(q:Yl)(g:Value)(j:Tg),forI (df_ B) (b.drop c.toNat) c q=some V∧(b.drop c.toNat).length=K∧0<=c∧Fr a 23 [(0,d),(5,g),(8,f),(9,ZI (b.length:Int)),(10,ZI c)]∧Bs oo j w s∧Ow w.heap.size 3 11 j s g q) _ (λa ha=>⟨0,[],.slice none 0 0,o,D,rfl,Int.le_refl 0,ha.sb,hB,Y⟩) ?_;rintro K12 a s ⟨c,q,g,j,W,E,F,ha,hB,v⟩;by_cases k:c<(b.length:Int)
  ·obtain⟨G,Z,x,i,H⟩:=R_ F k W;have hle:=C.len_le;dsimp only[df_] at i;refine O_ ha ?_;refine Zq (Zv (u_ rfl rfl) (Ze [(0,_),(5,_),(8,_),(9,_),(10,_),(11,_)] (nx (b_ ?_))));refine M_ (Zb (decide_eq_true k)) ?_;refine h_ (nx (b_ (f_ (Zq (Zo ?_)))));refine wf_atZ C x hB rfl rfl tY_ tZ_ ?_;intro a0 a1 a2 I J;cases J
   refine Zv (e_ rfl ua_ (i_ I)) (Za rfl (Ze [(0,_),(5,_),(7,_),(8,_),(9,_),(10,_)] (nx (d_ (Zm rfl (Zm rfl (Zm rfl ?_)))))));obtain⟨u,y,i⟩:=a_ i;refine Zo ?_;refine wf_atZ X y hB rfl rfl tY_ tZ_ ?_;intro a3 a4 a5 L M;cases M
   refine Zv (e_ rfl ua_ (i_ L)) (Zo ?_);refine aB_ (o:=j) (cs:=[ZI u]) (xs:=([u]:Yl)) (vs:=[(0,ZI u)]) ⟨_,_,rfl,rfl,rfl⟩ rfl ⟨rfl,rfl,trivial⟩ tY_ tZ_ uh_ (by decide) (fill1 rfl) (by simp) ?_;intro a6 a7 a8 N z a9;replace v:=v.stp z;replace hB:=hB.stp z;obtain⟨O,A,i⟩:=a_ i;refine Zo ?_;refine bf_ v N (ai_ A) (by decide) hB.keeps.size rfl rfl tY_ dt_ rfl (by decide) ?_;intro P b0 m Q R;replace hB:=hB.stp R;refine Za rfl (Ze [(0,d),(5,m),(8,f),(9,ZI (b.length:Int)),(10,ZI c)] (y_ (nx (d_ (Zv (C_ rfl rfl (F_ (by omega) (by omega))) (Zm rfl (Ze [(0,_),(5,_),(8,_),(9,_),(10,_)] (x_ ?_))))))));have S:=Zj i;subst S;refine Zk [(0,_),(5,_),(8,_),(9,_),(10,_)] ?_;intro a ha;exact⟨_,(by rw[<-E];simp only[List.length_drop];omega),c+1,O,m,P,H,rfl,by omega,ha,hB,Q⟩
  ·have T:=S_ k W;refine O_ ha ?_;refine Zq (Zv (u_ rfl rfl) (Ze [(0,_),(5,_),(8,_),(9,_),(10,_),(11,_)] (nx (b_ ?_))));refine D_ (Zb (decide_eq_false k)) ?_;refine w_ ?_;refine m_ (m_ (Q_ ?_));refine s_ ?_;refine Zk [(5,_)] ?_;intro a ha;exact⟨q,g,j,T,ha,hB,v⟩
 ·rintro a s ⟨q,g,j,rfl,ha,hB,v⟩;dsimp only at hF;refine ap_k ha ?_;refine Zn (Zm rfl (Za rfl (Ze [(4,_)] (nx (n_ ?_)))));have U:=Zj hF;subst U;refine Zr Tryz.results130 [g] ?_;exact⟨_,rt oo j w.heap.size 11 t,rfl,v.rt hB (by decide) t,hB.keeps,ac_ _ _ _ _ _⟩
 ·exact λ_ _ h=>h.elim
def eP_(g:List Int):Int->Int->Unit->Option (Lp Unit Unit Int):=λ(i:Int)(a:Int)(s:Unit)=>
  (ix g i)>>=λb=>
  if a !=b then
    (ix g i)>>=λc=>
    (ck (a-c))>>=λd=>
    (gT_ d)>>=λf=>
    some (.ret f)
  else
    some (.go ())
def em_(a:List Int)(b:List Int):Option Int:=
  (forI (eP_ b) a 0 ())>>=λc=>
  match c with
  | .inl _=>
    some 0
  | .inr r'=>some r'
def kG_(w:World)(r:Int):Ending->World->Prop:=λe w'=>e=.returned (.int .i64 r)∧Keeps w w'
theorem kS_(w:World)(f:Value)(d:Yl)(B:RdL zt w f d)(g:Value)(C:Yl)(X:RdL zt w g C)(r:Int)(hF:em_ d C=some r):
    Calls tX_ 107 #[f,g] w (kG_ w r):=by
 unfold em_ at hF;have hB:Bs (λ_=>1) (col (λ_=>1)) w w:=Bs.start _ _;refine j_ (n:=28) (vs:=[f,g]) Tryz.func107 rfl rfl ?_;refine Zq (Za rfl (Ze [(0,_),(1,_)] (nx (b_ (Zq (Zm rfl (Zv (J_ rfl B tY_) (Zm rfl (Ze [(1,_),(7,_),(8,_),(9,_)] (nx ?_))))))))));obtain⟨D,E,hF⟩:=a_ hF;refine A_ (λa k=>∃(j:Tg),D=.inl ()∧Fr a 28 []∧Bs (λ_=>1) j w k) (λa w'=>∃r',D=.inr r'∧bodyPost tX_ Tryz.f107 (kG_ w r') .ret a w') ?_ ?_ ?_
 ·refine f_ ?_;refine z_ (λ(K:Nat) a k=>∃(c:Int)(j:Tg),forI (eP_ C) (d.drop c.toNat) c ()=some D∧(d.drop c.toNat).length=K∧0<=c∧Fr a 28 [(1,g),(7,f),(8,ZI (d.length:Int)),(9,ZI c)]∧Bs (λ_=>1) j w k) _ (λa ha=>⟨0,col (λ_=>1),E,rfl,Int.le_refl 0,ha.sb,hB⟩) ?_;rintro K8 a k ⟨c,j,Y,Z,a0,ha,hB⟩;by_cases i:c<(d.length:Int)
  ·obtain⟨m,b3,u,b,v⟩:=R_ a0 i Y;have hle:=B.len_le;dsimp only[eP_] at b;refine O_ ha ?_;refine Zq (Zv (u_ rfl rfl) (Ze [(1,_),(7,_),(8,_),(9,_),(10,_)] (nx (b_ ?_))));refine M_ (Zb (decide_eq_true i)) ?_;refine h_ (nx (b_ (f_ (Zq (Zm rfl (Zo ?_))))));refine wf_atZ B u hB rfl rfl tY_ tZ_ ?_;intro a1 a2 a3 F G;cases G
   refine Zv (e_ rfl ua_ (i_ F)) (Za rfl (Za rfl (Ze [(1,_),(5,_),(6,_),(7,_),(8,_),(9,_)] (Zn (Zm rfl (Zm rfl (Zm rfl ?_)))))));obtain⟨H,x,b⟩:=a_ b;refine Zo ?_;refine wf_atZ X x hB rfl rfl tY_ tZ_ ?_;intro a4 a5 a6 I J;cases J
   refine Zv (e_ rfl ua_ (i_ I)) (Zv (dw_ rfl rfl) (Ze [(1,_),(5,_),(6,_),(7,_),(8,_),(9,_),(19,_)] (nx ?_)));refine p_ rfl (λq=>?_) (λq=>?_)
   ·rw[if_pos q] at b;refine Zq (Zm rfl (Zm rfl (Zm rfl ?_)));obtain⟨a7,y,b⟩:=a_ b;refine Zo ?_;refine wf_atZ X y hB rfl rfl tY_ tZ_ ?_;intro a8 a9 b0 L M;cases M
    refine Zv (e_ rfl ua_ (i_ L)) ?_;obtain⟨N,z,b⟩:=a_ b;refine Zv (bE_ rfl rfl z) ?_;obtain⟨s,A,b⟩:=a_ b;refine Zo ?_;refine o_ (rA_ k N s A) Tryz.call154 ⟨rfl,trivial⟩ ?_;rintro b1 b2 ⟨rfl,O⟩;have Q:=O.stp 999 j;refine⟨_,rfl,?_⟩;replace hB:=hB.stp Q;refine Za rfl (Ze [(4,_)] (nx (n_ (aq_ (I_ (I_ (aq_ ?_)))))));refine cK_ ?_;have R:=Zj b;subst R;refine λa ha=>⟨_,v,?_⟩;refine N_ (P:=tX_) (vs:=[ZI s]) vx_ ⟨rfl,trivial⟩ ?_ a ha;exact⟨rfl,hB.keeps⟩
   ·replace b:=ZF q b;refine h_ (y_ (nx (d_ (Zv (C_ rfl rfl (F_ (by omega) (by omega))) (Zm rfl (Ze [(1,_),(7,_),(8,_),(9,_)] (x_ ?_)))))));have S:=Zj b;subst S;refine Zk [(1,_),(7,_),(8,_),(9,_)] ?_;intro a ha;exact⟨_,(by rw[<-Z];simp only[List.length_drop];omega),c+1,j,v,rfl,by omega,ha,hB⟩
  ·have T:=S_ i Y;refine O_ ha ?_;refine Zq (Zv (u_ rfl rfl) (Ze [(1,_),(7,_),(8,_),(9,_),(10,_)] (nx (b_ ?_))));refine D_ (Zb (decide_eq_false i)) ?_;refine w_ ?_;refine m_ (m_ (Q_ ?_));refine s_ ?_;refine Zk [] ?_;intro a ha;exact⟨j,T,ha,hB⟩
 ·rintro a k ⟨j,rfl,ha,hB⟩;dsimp only at hF;refine ap_k ha ?_;refine Zn (Za rfl (Ze [(4,_)] (nx (n_ ?_))));have U:=Zj hF;subst U;refine Zr vx_ [ZI 0] ?_;exact⟨rfl,hB.keeps⟩
 ·rintro a k ⟨r',rfl,V⟩;dsimp only at hF;have W:=Zj hF;subst W;exact V
def cp_:((List Int)×Int)->Option (Lp ((List Int)×Int) ((List Int)×Int) (List Int)):=λ(s:(List Int)×Int)=>
  (
    if decide (s.2>0) then
      (ck (s.2-1))>>=λj=>
      (ix s.1 j)>>=λk=>
      (ix s.1 s.2)>>=λm=>
      some (decide (k>m))
    else
      some false)>>=λn=>
  if n then
    (ix s.1 s.2)>>=λc=>
    (ck (s.2-1))>>=λd=>
    (ix s.1 d)>>=λf=>
    (ix s.1 s.2)>>=λq=>
    (st s.1 s.2 f)>>=λa=>
    (ck (s.2-1))>>=λb=>
    (ix a b)>>=λu=>
    (st a b c)>>=λg=>
    (ck (s.2-1))>>=λi=>
    some (.go (g,i))
  else
    some (.out (s.1,s.2))
def cq_(fuel:Nat):Int->(List Int)->Option (Lp (List Int) (List Int) (List Int)):=λ(a:Int)(s:List Int)=>
  (loopF (cp_) fuel (s,a))>>=λb=>
  match b with
  | .inl (c,d)=>
    some (.go c)
  | .inr _=>none
def dn_(fuel:Nat)(d:List Int):Option (List Int):=
  (da_ d)>>=λa=>
  ck (a.length:Int)>>=λ_=>
  (forN (cq_ fuel) ((a.length:Int)).toNat 0 a)>>=λb=>
  match b with
  | .inl c=>
    some c
  | .inr _=>none
def od_(oo:Tg)(t:Nat)(w:World)(r:Yl):Ending->World->Prop:=λe w'=>∃(a:Value)(o':Tg),e=.returned (a)∧Ow w.heap.size 3 t o' w' a r∧Keeps w w'∧∀b,b<w.heap.size->o' b=oo b
theorem gs_(fuel:Nat)(w:World)(oo:Tg)(t:Nat)(ht:2<=t)(d2:Value)(d4:Yl)(k8:RdL zt w d2 d4)(r:Yl)(hF:dn_ fuel d4=some r):
    Calls tX_ 121 #[d2] w (od_ oo t w r):=by
 unfold dn_ at hF;have hB:Bs oo (col oo) w w:=Bs.start _ _;refine j_ (n:=50) (vs:=[d2]) Tryz.func121 rfl rfl ?_;generalize col oo=o at*;refine Zq (Za rfl (Ze [(0,_)] (Zn (Zm rfl ?_))));obtain⟨q,d5,hF⟩:=a_ hF;refine Zo ?_;refine o_ (er_ w o 11 (by decide) _ d4 (k8.keep hB.keeps) q d5) Tryz.call66 ⟨rfl,trivial⟩ ?_;rintro o1 o2 ⟨j,k9,rfl,d3,l0,l1⟩;have l2:=l0.stp' 11 l1;replace d3:=d3.mono hB.keeps.size;refine⟨_,rfl,?_⟩;replace hB:=hB.stp l2;refine Za rfl (Ze [(3,_)] (nx (b_ (Zq (Zm rfl (Zv (bt_ rfl d3 tY_) (Zm rfl (Ze [(3,_),(10,_),(11,_)] (nx ?_)))))))));obtain⟨l3,d6,hF⟩:=a_ hF;obtain⟨-,h16a,h16b⟩:=cr_ d6;obtain⟨V,W,hF⟩:=a_ hF;refine A_ (λa y=>∃(u:Yl)(s:Tg),V=.inl u∧Fr a 50 [(3,j)]∧Bs oo s w y∧Ow w.heap.size 3 11 s y j u) (λ_ _=>False) ?_ ?_ ?_
 ·refine f_ ?_;refine z_ (λ(K:Nat) a y=>∃(d:Int)(u:Yl)(s:Tg),forN (cq_ fuel) ((q.length:Int)-d).toNat d u=some V∧((q.length:Int)-d).toNat=K∧0<=d∧Fr a 50 [(3,j),(10,ZI (q.length:Int)),(11,ZI d)]∧Bs oo s w y∧Ow w.heap.size 3 11 s y j u) _ (λa ha=>⟨0,q,k9,W,rfl,Int.le_refl 0,ha.sb,hB,d3⟩) ?_;rintro K21 a y ⟨d,u,s,X,d7,l4,ha,hB,E⟩;by_cases F:d<(q.length:Int)
  ·obtain⟨l5,A,d8⟩:=bz_ F X;dsimp only[cq_] at A;refine O_ ha ?_;refine Zq (Zv (u_ rfl rfl) (Ze [(3,_),(10,_),(11,_),(12,_)] (nx (b_ ?_))));refine M_ (Zb (decide_eq_true F)) ?_;refine h_ (nx (b_ (f_ (Zq (Zm rfl (Za rfl (Ze [(3,_),(4,_),(10,_),(11,_)] (Zn (Zm rfl (Za rfl (Ze [(3,_),(5,_),(10,_),(11,_)] (nx ?_))))))))))));obtain⟨Y,Z,A⟩:=a_ A;refine A_ (λa z=>∃(m:Yl)(i:Int)(x:Tg),Y=.inl (m,i)∧Fr a 50 [(3,j),(10,ZI (q.length:Int)),(11,ZI d)]∧Bs oo x w z∧Ow w.heap.size 3 11 x z j m) (λ_ _=>False) ?_ ?_ ?_
   ·refine f_ ?_;refine z_ (λ(K:Nat) a z=>∃(m:Yl)(i:Int)(x:Tg),loopF (cp_) K (m,i)=some Y∧Fr a 50 [(3,j),(5,ZI i),(10,ZI (q.length:Int)),(11,ZI d)]∧Bs oo x w z∧Ow w.heap.size 3 11 x z j m) fuel (λa ha=>⟨u,d,s,Z,ha.sb,hB,E⟩) ?_;rintro K35 a z ⟨m,i,x,d9,ha,hB,b⟩;obtain⟨K39,l6,l7,f,a0⟩:=ad_ d9;dsimp only[cp_] at f;refine O_ ha ?_;refine b_ (b_ ?_);obtain⟨e0,k,f⟩:=a_ f;refine A_ (λe1 L=>∃B:Tg,Fr e1 50 [(3,j),(5,ZI i),(10,ZI (q.length:Int)),(11,ZI d),(28,.bool e0)]∧Bs oo B w L∧Ow w.heap.size 3 11 B L j m) (λ_ _=>False) ?_ ?_ (λ_ _ h=>h.elim)
    ·rcases Bool.eq_false_or_eq_true (decide (i>0)) with g|g
     ·rw[if_pos g] at k;obtain⟨a1,a2,k⟩:=a_ k;obtain⟨a3,G,k⟩:=a_ k;obtain⟨a4,H,k⟩:=a_ k;refine ZW (Bf:=λa5 a6=>Bs oo a5 w a6∧Ow w.heap.size 3 11 a5 a6 j m) [(3,_),(5,_),(10,_),(11,_)] (Zrg 15 12) [[],[0],[1],[2],[2],[2,4],[2,3,5],[2,6],[2],[2],[2,8,9],[2,10]] (Zcn 12) (Zt9 12) [0,0,0,0,0,0,11,0,0,0,11,0] [999] [.inl (ZI i),.inl (.bool (decide (i>0))),.inl (.bool (decide (i>0))),.inl j,.inl (ZI i),.inl (ZI a1),.inr (λv o e2=>∃vl,v=adr vl (a1.toNat*Rp.sz Int)∧Ow w.heap.size 3 11 o e2 vl m),.inl (ZI a3),.inl j,.inl (ZI i),.inr (λv o e2=>∃vl,v=adr vl (i.toNat*Rp.sz Int)∧Ow w.heap.size 3 11 o e2 vl m),.inl (ZI a4)] ⟨hB,b⟩ ⟨λ_ _ _ _ _ _ e3 hb ⟨vl,e,h⟩ hs=>⟨vl,e,h.stp hs e3.1 (Ne.symm hb)⟩,λ_ _ _ _ _ _ e3 hb ⟨vl,e,h⟩ hs=>⟨vl,e,h.stp hs e3.1 (Ne.symm hb)⟩,trivial⟩ ?_ ?_
      ·refine⟨Dp (g_ rfl),Dp (ef_ rfl rfl),Dp (g_ rfl),?_,?_,?_,?_,?_,?_,?_,?_,?_,trivial⟩
       ·rintro l8 l9 m0 ha ⟨hB,b⟩-;refine af_ ha (⟨_,rfl,Zb g⟩) ?_;refine l_ (g_ rfl) ?_;exact Zx rfl
       ·rintro m1 m2 m3 ha ⟨hB,b⟩-;refine af_ ha (⟨_,rfl,Zb g⟩) ?_;refine l_ (g_ rfl) ?_;exact Zx rfl
       ·rintro m4 m5 m6 ha ⟨hB,b⟩-;refine af_ ha (⟨_,rfl,Zb g⟩) ?_;refine l_ (bE_ rfl rfl a2) ?_;exact Zx rfl
       ·rintro m7 m8 m9 ha ⟨hB,b⟩-;refine af_ ha (⟨_,rfl,Zb g⟩) ?_;refine bI_ b G rfl rfl tY_ tZ_ ?_;exact⟨_,Stp.refl _ _ _,⟨_,rfl,b⟩⟩
       ·rintro n0 n1 n2 ha ⟨hB,b⟩ ⟨e4,-⟩;obtain⟨n3,e5,e6⟩:=e4;have ha:=ha.c e5;refine af_ ha (⟨_,rfl,Zb g⟩) ?_;refine bq_ e6 G rfl rfl ua_ ?_;intro n4 e7;cases e7
        exact Zx rfl
       ·rintro n5 n6 n7 ha ⟨hB,b⟩-;refine af_ ha (⟨_,rfl,Zb g⟩) ?_;refine l_ (g_ rfl) ?_;exact Zx rfl
       ·rintro n8 n9 o0 ha ⟨hB,b⟩-;refine af_ ha (⟨_,rfl,Zb g⟩) ?_;refine l_ (g_ rfl) ?_;exact Zx rfl
       ·rintro e8 e9 f0 ha ⟨hB,b⟩-;refine af_ ha (⟨_,rfl,Zb g⟩) ?_;refine bI_ b H rfl rfl tY_ tZ_ ?_;exact⟨_,Stp.refl _ _ _,⟨_,rfl,b⟩⟩
       ·rintro f1 f2 f3 ha ⟨hB,b⟩ ⟨a7,-⟩;obtain⟨f4,a8,a9⟩:=a7;have ha:=ha.c a8;refine af_ ha (⟨_,rfl,Zb g⟩) ?_;refine bq_ a9 H rfl rfl ua_ ?_;intro f5 b0;cases b0
        exact Zx rfl
      rintro _ rfl b1 f6 f7 ha ⟨hB,b⟩-;refine aS_ ha ?_;refine q_ (ef_ rfl rfl) (by decide) ⟨_,rfl,Zb g⟩ (Zv (L_ (Zb g) rfl) ?_);have b2:=Zj k;subst b2;refine Ze [(3,_),(5,_),(10,_),(11,_),(28,_)] ?_;refine s_ (λa ha=>⟨b1,ha,hB,b⟩)
     ·replace k:=ZF g k;refine ZW (Bf:=λa5 a6=>Bs oo a5 w a6∧Ow w.heap.size 3 11 a5 a6 j m) [(3,_),(5,_),(10,_),(11,_)] (Zrg 15 12) [[],[0],[1],[2],[2],[2],[2],[2],[2],[2],[2],[2]] (Zcn 12) (Zt9 12) (Zt0 12) [999] [.inl (ZI i),.inl (.bool (decide (i>0))),.inl (.bool (decide (i>0))),.inl undef,.inl undef,.inl undef,.inl undef,.inl undef,.inl undef,.inl undef,.inl undef,.inl undef] ⟨hB,b⟩ trivial ?_ ?_
      ·refine⟨Dp (g_ rfl),Dp (ef_ rfl rfl),Dp (g_ rfl),?_,?_,?_,?_,?_,?_,?_,?_,?_,trivial⟩
       ·rintro f8 f9 g0 ha ⟨hB,b⟩-;exact aJ_ ha rfl rfl rfl (by rw[g];rfl) ⟨_,Stp.refl _ _ _,rfl⟩
       ·rintro g1 g2 g3 ha ⟨hB,b⟩-;exact aJ_ ha rfl rfl rfl (by rw[g];rfl) ⟨_,Stp.refl _ _ _,rfl⟩
       ·rintro g4 g5 g6 ha ⟨hB,b⟩-;exact aJ_ ha rfl rfl rfl (by rw[g];rfl) ⟨_,Stp.refl _ _ _,rfl⟩
       ·rintro g7 g8 g9 ha ⟨hB,b⟩-;exact aJ_ ha rfl rfl rfl (by rw[g];rfl) ⟨_,Stp.refl _ _ _,rfl⟩
       ·rintro h0 h1 h2 ha ⟨hB,b⟩-;exact aJ_ ha rfl rfl rfl (by rw[g];rfl) ⟨_,Stp.refl _ _ _,rfl⟩
       ·rintro h3 h4 h5 ha ⟨hB,b⟩-;exact aJ_ ha rfl rfl rfl (by rw[g];rfl) ⟨_,Stp.refl _ _ _,rfl⟩
       ·rintro h6 h7 h8 ha ⟨hB,b⟩-;exact aJ_ ha rfl rfl rfl (by rw[g];rfl) ⟨_,Stp.refl _ _ _,rfl⟩
       ·rintro h9 i0 i1 ha ⟨hB,b⟩-;exact aJ_ ha rfl rfl rfl (by rw[g];rfl) ⟨_,Stp.refl _ _ _,rfl⟩
       ·rintro i2 i3 i4 ha ⟨hB,b⟩-;exact aJ_ ha rfl rfl rfl (by rw[g];rfl) ⟨_,Stp.refl _ _ _,rfl⟩
      rintro _ rfl b3 i5 i6 ha ⟨hB,b⟩-;refine aS_ ha ?_;refine v_ rfl rfl (by rw[g];rfl) (by decide) ?_;refine Zv (G_ (Zb g) rfl) ?_;have b4:=Zj k;subst b4;refine Ze [(3,_),(5,_),(10,_),(11,_),(28,_)] ?_;refine s_ (λa ha=>⟨b3,ha,hB,b⟩)
    rintro i7 L ⟨B,ha,hB,b⟩;refine ap_k ha ?_;refine nx ?_;refine p_ rfl (λC=>?_) (λC=>?_)
    ·rw[if_pos C] at f;refine h_ (nx (b_ (f_ (Zq (Zm rfl (Zm rfl ?_))))));obtain⟨I,M,f⟩:=a_ f;refine Zo ?_;refine fS_ b M rfl rfl tY_ tZ_ ?_;intro i8 i9 j0 b5 b6;cases b6
     refine Zv (e_ rfl ua_ (i_ b5)) (Za rfl (Ze [(3,_),(5,_),(6,_),(10,_),(11,_)] (Zn (Zm rfl (Zm rfl (Zm rfl (Zm rfl ?_)))))));obtain⟨j1,N,f⟩:=a_ f;refine Zv (bE_ rfl rfl N) ?_;obtain⟨j2,O,f⟩:=a_ f;refine Zo ?_;refine fS_ b O rfl rfl tY_ tZ_ ?_;intro j3 j4 j5 b7 b8;cases b8
     refine Zv (e_ rfl ua_ (i_ b7)) ?_;obtain⟨j6,P,f⟩:=a_ f;refine Zo ?_;refine fs_ b P rfl rfl tY_ tZ_ ?_;intro j7 j8 b9 j9 c0;cases c0
     obtain⟨k0,Q,f⟩:=a_ f;refine am_ trivial ?_;refine cc_ b b9 Q rfl (by decide) rfl rfl rfl tZ_ rfl ?_;intro k1 J c1;replace hB:=hB.stp c1;refine Ze [(3,_),(5,_),(6,_),(10,_),(11,_)] (nx (d_ (Zm rfl (Zm rfl ?_))));obtain⟨k2,R,f⟩:=a_ f;refine Zv (bE_ rfl rfl R) (Zm rfl ?_);obtain⟨k3,S,f⟩:=a_ f;refine Zo ?_;refine fs_ J S rfl rfl tY_ tZ_ ?_;intro k4 k5 c2 k6 c3;cases c3
     obtain⟨c4,T,f⟩:=a_ f;refine am_ trivial ?_;refine cc_ J c2 T rfl (by decide) rfl rfl rfl tZ_ rfl ?_;intro k7 c5 c6;replace hB:=hB.stp c6;refine Ze [(3,_),(5,_),(10,_),(11,_)] (y_ (nx (d_ (Zm rfl ?_))));obtain⟨D,U,f⟩:=a_ f;refine Zv (bE_ rfl rfl U) (Za rfl (Ze [(3,_),(5,_),(10,_),(11,_)] (x_ ?_)));have c7:=Zj f;subst c7;refine Zk [(3,_),(5,_),(10,_),(11,_)] ?_;intro a ha;exact⟨K39,by omega,c4,D,B,a0,ha,hB,c5⟩
    ·replace f:=ZF C f;refine w_ ?_;refine m_ (m_ (Q_ ?_));refine s_ ?_;have c8:=Zj f;subst c8;refine Zk [(3,_),(10,_),(11,_)] ?_;intro a ha;exact⟨m,i,B,a0,ha,hB,b⟩
   ·rintro a z ⟨m,i,x,rfl,ha,hB,b⟩;dsimp only at A;refine ap_k ha ?_;refine y_ (nx (d_ (Zv (C_ rfl rfl (F_ (by omega) (by omega))) (Zm rfl (Ze [(3,_),(10,_),(11,_)] (x_ ?_))))));have c9:=Zj A;subst c9;refine Zk [(3,_),(10,_),(11,_)] ?_;intro a ha;exact⟨_,(by rw[<-d7];omega),d+1,m,x,d8,rfl,by omega,ha,hB,b⟩
   ·exact λ_ _ h=>h.elim
  ·have d0:=bx_ F X;refine O_ ha ?_;refine Zq (Zv (u_ rfl rfl) (Ze [(3,_),(10,_),(11,_),(12,_)] (nx (b_ ?_))));refine D_ (Zb (decide_eq_false F)) ?_;refine w_ ?_;refine m_ (m_ (Q_ ?_));refine s_ ?_;refine Zk [(3,_)] ?_;intro a ha;exact⟨u,s,d0,ha,hB,E⟩
 ·rintro a y ⟨u,s,rfl,ha,hB,E⟩;dsimp only at hF;refine ap_k ha ?_;refine Zn (Zm rfl (Za rfl (Ze [(2,_)] (nx (n_ ?_)))));have d1:=Zj hF;subst d1;refine Zr Tryz.results121 [j] ?_;exact⟨_,rt oo s w.heap.size 11 t,rfl,E.rt hB (by decide) t,hB.keeps,ac_ _ _ _ _ _⟩
 ·exact λ_ _ h=>h.elim
def ea_(a:Int)(b:Int)(c:Int):Option Bool:=
  (
    if decide (b<=a) then
      some (decide (a<=c))
    else
      some false)>>=λd=>
  some d
def pV_(w:World)(r:Bool):Ending->World->Prop:=λe w'=>e=.returned (.bool r)∧Keeps w w'
theorem gG_(w:World)(f:Int)(g:Int)(i:Int)(r:Bool)(hF:ea_ f g i=some r):
    Calls tX_ 62 #[.int .i64 f,.int .i64 g,.int .i64 i] w (pV_ w r):=by
 unfold ea_ at hF;have hB:Bs (λ_=>1) (col (λ_=>1)) w w:=Bs.start _ _;refine j_ (n:=15) (vs:=[ZI f,ZI g,ZI i]) Tryz.func62 rfl rfl ?_;refine Zq (Za rfl (Ze [(0,_),(1,_),(2,_)] (Zn (Zm rfl (Zm rfl (Zv (qW_ rfl rfl) (Zm rfl ?_)))))));obtain⟨j,d,hF⟩:=a_ hF;refine aF_ 4 (λm k=>Fr m 15 [(14,.bool j)]∧Keeps w k) ?_ ?_;all_goals simp only[List.take_succ_cons,List.take_zero,List.drop_succ_cons,List.drop_zero]
 ·have kp:Keeps w w:=Keeps.refl _;rcases Bool.eq_false_or_eq_true (decide (g<=f)) with b|b
  ·rw[if_pos b] at d;refine q_ (g_ rfl) (by decide) ⟨_,rfl,Zb b⟩ (q_ (g_ rfl) (by decide) ⟨_,rfl,Zb b⟩ (q_ (qW_ rfl rfl) (by decide) ⟨_,rfl,Zb b⟩ (Zv (L_ (Zb b) rfl) ?_)));have c:=Zj d;refine Ze [(14,_)] ?_;subst c;refine s_ (λa ha=>⟨ha,kp⟩)
  ·replace d:=ZF b d;refine v_ rfl rfl (by rw[b];rfl) (by decide) ?_;refine v_ rfl rfl (by rw[b];rfl) (by decide) ?_;refine v_ rfl rfl (by rw[b];rfl) (by decide) ?_;refine Zv (G_ (Zb b) rfl) ?_;have c:=Zj d;refine Ze [(14,_)] ?_;subst c;refine s_ (λa ha=>⟨ha,kp⟩)
 rintro v k ⟨ha,q⟩;have s:=q.stp 999 (col (λ_=>1));replace hB:=hB.stp s;refine aS_ ha ?_;refine Za rfl (Ze [(6,_)] (nx (n_ ?_)));have u:=Zj hF;subst u;refine Zr Tryz.results62 [.bool j] ?_;exact⟨rfl,hB.keeps⟩
def bM_(g:Int):((List Int)×Int)->Option (Lp ((List Int)×Int) ((List Int)×Int) (List Int)):=λ(s:(List Int)×Int)=>
  (shr g s.2)>>=λa=>
  if a !=0 then
    (shr g s.2)>>=λb=>
    if(band b 1)==1 then
      (push s.1 s.2)>>=λc=>
      (ck (s.2+1))>>=λd=>
      some (.go (c,d))
    else
      (ck (s.2+1))>>=λf=>
      some (.go (s.1,f))
  else
    some (.out (s.1,s.2))
def dF_(fuel:Nat)(a:Int):Option (List Int):=
  (loopF (bM_ a) fuel ([],0))>>=λb=>
  match b with
  | .inl (c,d)=>
    some c
  | .inr _=>none
def nx_(oo:Tg)(t:Nat)(w:World)(r:Yl):Ending->World->Prop:=λe w'=>∃(a:Value)(o':Tg),e=.returned (a)∧Ow w.heap.size 3 t o' w' a r∧Keeps w w'∧∀b,b<w.heap.size->o' b=oo b
theorem kc_(fuel:Nat)(w:World)(oo:Tg)(t:Nat)(ht:2<=t)(c:Int)(r:Yl)(hF:dF_ fuel c=some r):
    Calls tX_ 139 #[.int .i64 c] w (nx_ oo t w r):=by
 unfold dF_ at hF;have hB:Bs oo (col oo) w w:=Bs.start _ _;refine j_ (n:=21) (vs:=[ZI c]) Tryz.func139 rfl rfl ?_;generalize col oo=o at*;refine Zq (Za rfl (Ze [(0,_)] (Zn (Za rfl (Ze [(0,_),(3,_)] (nx (b_ (Zq (Za rfl (Ze [(0,_),(3,_),(4,_)] (nx ?_)))))))))));have S:Ow w.heap.size 3 11 o w (.slice none 0 0) ([]:Yl):=Ow.nil _ _ _ _ _;obtain⟨R,E,hF⟩:=a_ hF;refine A_ (λa k=>∃(i:Yl)(f:Int)(d:Value)(g:Tg),R=.inl (i,f)∧Fr a 21 [(3,d)]∧Bs oo g w k∧Ow w.heap.size 3 11 g k d i) (λ_ _=>False) ?_ ?_ ?_
 ·refine f_ ?_;refine z_ (λ(K:Nat) a k=>∃(i:Yl)(f:Int)(d:Value)(g:Tg),loopF (bM_ c) K (i,f)=some R∧Fr a 21 [(0,ZI c),(3,d),(4,ZI f)]∧Bs oo g w k∧Ow w.heap.size 3 11 g k d i) fuel (λa ha=>⟨[],0,.slice none 0 0,o,E,ha.sb,hB,S⟩) ?_;rintro K12 a k ⟨i,f,d,g,T,ha,hB,m⟩;obtain⟨K16,U,V,b,q⟩:=ad_ T;dsimp only[bM_] at b;refine O_ ha ?_;refine b_ (Zq (Zm rfl (Zm rfl ?_)));obtain⟨F,y,b⟩:=a_ b;refine Zv (pe_ rfl rfl y) (Zv (dw_ rfl rfl) (Ze [(0,_),(3,_),(4,_),(8,_)] (nx ?_)));refine p_ rfl (λs=>?_) (λs=>?_)
  ·rw[if_pos s] at b;refine h_ (nx (b_ (f_ (Zq (Zm rfl (Zm rfl ?_))))));obtain⟨G,z,b⟩:=a_ b;refine Zv (pe_ rfl rfl z) (Zv (iX_ rfl rfl) (Zv (cD_ rfl rfl) (Ze [(0,_),(3,_),(4,_),(15,_)] (nx ?_))));refine p_ rfl (λu=>?_) (λu=>?_)
   ·rw[if_pos u] at b;refine d_ (Zm rfl (Zm rfl (Zo ?_)));refine aB_ (o:=g) (cs:=[ZI f]) (xs:=([f]:Yl)) (vs:=[(0,ZI f)]) ⟨_,_,rfl,rfl,rfl⟩ rfl ⟨rfl,rfl,trivial⟩ tY_ tZ_ uh_ (by decide) (fill1 rfl) (by simp) ?_;intro W X Y H A Z;replace m:=m.stp A;replace hB:=hB.stp A;obtain⟨I,B,b⟩:=a_ b;refine Zo ?_;refine bf_ m H (ai_ B) (by decide) hB.keeps.size rfl rfl tY_ dt_ rfl (by decide) ?_;intro J a0 j L M;replace hB:=hB.stp M;refine Za rfl (Ze [(0,_),(3,_),(4,_)] (y_ (nx (d_ (Zm rfl ?_)))));obtain⟨v,C,b⟩:=a_ b;refine Zv (C_ rfl rfl C) (Za rfl (Ze [(0,_),(3,_),(4,_)] (x_ ?_)));have N:=Zj b;subst N;refine Zk [(0,_),(3,_),(4,_)] ?_;intro a ha;exact⟨K16,by omega,I,v,j,J,q,ha,hB,L⟩
   ·replace b:=ZF u b;refine h_ (y_ (nx (d_ (Zm rfl ?_))));obtain⟨x,D,b⟩:=a_ b;refine Zv (C_ rfl rfl D) (Za rfl (Ze [(0,_),(3,_),(4,_)] (x_ ?_)));have O:=Zj b;subst O;refine Zk [(0,_),(3,_),(4,_)] ?_;intro a ha;exact⟨K16,by omega,i,x,d,g,q,ha,hB,m⟩
  ·replace b:=ZF s b;refine w_ ?_;refine m_ (m_ (Q_ ?_));refine s_ ?_;have P:=Zj b;subst P;refine Zk [(3,_)] ?_;intro a ha;exact⟨i,f,d,g,q,ha,hB,m⟩
 ·rintro a k ⟨i,f,d,g,rfl,ha,hB,m⟩;dsimp only at hF;refine ap_k ha ?_;refine Zn (Zm rfl (Za rfl (Ze [(2,_)] (nx (n_ ?_)))));have Q:=Zj hF;subst Q;refine Zr Tryz.results139 [d] ?_;exact⟨_,rt oo g w.heap.size 11 t,rfl,m.rt hB (by decide) t,hB.keeps,ac_ _ _ _ _ _⟩
 ·exact λ_ _ h=>h.elim
def aR_(a:Int):Option Bool:=
  some (a !=a)
def eM_(w:World)(r:Bool):Ending->World->Prop:=λe w'=>e=.returned (.bool r)∧Keeps w w'
theorem bH_(w:World)(a:Int)(r:Bool)(hF:aR_ a=some r):
    Calls tX_ 171 #[.int .i64 a] w (eM_ w r):=by
 unfold aR_ at hF;have hB:Bs (λ_=>1) (col (λ_=>1)) w w:=Bs.start _ _;refine j_ (n:=6) (vs:=[ZI a]) Tryz.func171 rfl rfl ?_;refine Zq (Za rfl (Ze [(0,_)] (Zn (Zm rfl (Zm rfl (Zv (dw_ rfl rfl) (Za rfl (Ze [(2,_)] (nx (n_ ?_))))))))));have b:=Zj hF;subst b;refine Zr Tryz.results171 [.bool (a !=a)] ?_;exact⟨rfl,hB.keeps⟩
def bn_(a:Int)(b:Int):Option Int:=
  (aR_ a)>>=λd=>
  (aR_ b)>>=λc=>
  if d then
    if c then
      some 0
    else
      some (-1)
  else
    if c then
      some 1
    else
      if decide (a<b) then
        some (-1)
      else
        if decide (a>b) then
          some 1
        else
          some 0
def ed_(w:World)(r:Int):Ending->World->Prop:=λe w'=>e=.returned (.int .i64 r)∧Keeps w w'
theorem dY_(w:World)(a:Int)(b:Int)(r:Int)(hF:bn_ a b=some r):
    Calls tX_ 138 #[.int .i64 a,.int .i64 b] w (ed_ w r):=by
 unfold bn_ at hF;have hB:Bs (λ_=>1) (col (λ_=>1)) w w:=Bs.start _ _;refine j_ (n:=20) (vs:=[ZI a,ZI b]) Tryz.func138 rfl rfl ?_;refine Zq (Za rfl (Ze [(0,_),(1,_)] (Zn (Zm rfl ?_))));obtain⟨k,m,hF⟩:=a_ hF;refine Zo ?_;refine o_ (bH_ w a k m) uw_ ⟨rfl,trivial⟩ ?_;rintro G B ⟨rfl,C⟩;have D:=C.stp 999 (col (λ_=>1));refine⟨_,rfl,?_⟩;replace hB:=hB.stp D;refine Za rfl (Ze [(0,_),(1,_),(5,_)] (Zn (Zm rfl ?_)));obtain⟨j,q,hF⟩:=a_ hF;refine Zo ?_;refine o_ (bH_ B b j q) uw_ ⟨rfl,trivial⟩ ?_;rintro E H ⟨rfl,F⟩;have s:=F.stp 999 (col (λ_=>1));refine⟨_,rfl,?_⟩;replace hB:=hB.stp s;refine Za rfl (Ze [(0,_),(1,_),(5,_),(6,_)] (nx (b_ (Zq (Zm rfl (Ze [(0,_),(1,_),(6,_),(11,_)] (nx ?_)))))));refine p_ rfl (λc=>?_) (λc=>?_)
 ·rw[if_pos c] at hF;refine b_ (Zq (Zm rfl (Ze [(12,_)] (nx ?_))));refine p_ rfl (λd=>?_) (λd=>?_)
  ·rw[if_pos d] at hF;refine Zq (Za rfl (Ze [(4,_)] (nx (n_ (I_ (I_ ?_))))));have u:=Zj hF;subst u;refine Zr un_ [ZI 0] ?_;exact⟨rfl,hB.keeps⟩
  ·replace hF:=ZF d hF;refine h_ (Zn (Za rfl (Ze [(4,_)] (nx (n_ (I_ ?_))))));have v:=Zj hF;subst v;refine Zr un_ [ZI (-1)] ?_;exact⟨rfl,hB.keeps⟩
 ·replace hF:=ZF c hF;refine h_ (nx (b_ (Zq (Zm rfl (Ze [(0,_),(1,_),(13,_)] (nx ?_))))));refine p_ rfl (λf=>?_) (λf=>?_)
  ·rw[if_pos f] at hF;refine Zq (Za rfl (Ze [(4,_)] (nx (n_ (I_ ?_)))));have x:=Zj hF;subst x;refine Zr un_ [ZI 1] ?_;exact⟨rfl,hB.keeps⟩
  ·replace hF:=ZF f hF;refine h_ (nx (b_ (Zq (Zm rfl (Zm rfl (Zv (u_ rfl rfl) (Ze [(0,_),(1,_),(16,_)] (nx ?_))))))));refine p_ rfl (λg=>?_) (λg=>?_)
   ·rw[if_pos g] at hF;refine Zq (Za rfl (Ze [(4,_)] (nx (n_ (I_ ?_)))));have y:=Zj hF;subst y;refine Zr un_ [ZI (-1)] ?_;exact⟨rfl,hB.keeps⟩
   ·replace hF:=ZF g hF;refine h_ (nx (b_ (Zq (Zm rfl (Zm rfl (Zv (ef_ rfl rfl) (Ze [(19,_)] (nx ?_))))))));refine p_ rfl (λi=>?_) (λi=>?_)
    ·rw[if_pos i] at hF;refine Zq (Za rfl (Ze [(4,_)] (nx (n_ (I_ ?_)))));have z:=Zj hF;subst z;refine Zr un_ [ZI 1] ?_;exact⟨rfl,hB.keeps⟩
    ·replace hF:=ZF i hF;refine h_ (Zn (Za rfl (Ze [(4,_)] (nx (n_ ?_)))));have A:=Zj hF;subst A;refine Zr un_ [ZI 0] ?_;exact⟨rfl,hB.keeps⟩
def cz_(a:Int)(b:Int):Option Bool:=
  (aR_ a)>>=λd=>
  (
    if d then
      (aR_ b)>>=λc=>
      if !c then
        some true
      else
        some (decide (a<b))
    else
      some (decide (a<b)))>>=λf=>
  some f
def ju_(w:World)(r:Bool):Ending->World->Prop:=λe w'=>e=.returned (.bool r)∧Keeps w w'
theorem gD_(w:World)(g:Int)(i:Int)(r:Bool)(hF:cz_ g i=some r):
    Calls tX_ 135 #[.int .i64 g,.int .i64 i] w (ju_ w r):=by
 unfold cz_ at hF;have hB:Bs (λ_=>1) (col (λ_=>1)) w w:=Bs.start _ _;refine j_ (n:=17) (vs:=[ZI g,ZI i]) Tryz.func135 rfl rfl ?_;refine Zq (Za rfl (Ze [(0,_),(1,_)] (Zn (Zm rfl ?_))));obtain⟨z,s,hF⟩:=a_ hF;refine Zo ?_;refine o_ (bH_ w g z s) uw_ ⟨rfl,trivial⟩ ?_;rintro I q ⟨rfl,B⟩;have C:=B.stp 999 (col (λ_=>1));refine⟨_,rfl,?_⟩;replace hB:=hB.stp C;refine Zm rfl ?_;obtain⟨u,d,hF⟩:=a_ hF;refine aF_ 9 (λD A=>Fr D 17 [(16,.bool u)]∧Keeps q A) ?_ ?_;all_goals simp only[List.take_succ_cons,List.take_zero,List.drop_succ_cons,List.drop_zero]
 ·have kp:Keeps q q:=Keeps.refl _;rcases Bool.eq_false_or_eq_true (z) with b|b
  ·rw[if_pos b] at d;refine q_ (g_ rfl) (by decide) ⟨_,rfl,Zb b⟩ ?_;obtain⟨j,k,d⟩:=a_ d;refine ct_ (by decide) ⟨_,rfl,Zb b⟩ ?_;refine o_ (bH_ q i j k) uw_ ⟨rfl,trivial⟩ ?_;rintro E F ⟨rfl,m⟩;have G:=m.stp 999 (col (λ_=>1));refine⟨_,rfl,?_⟩;replace kp:=Keeps.trans kp m;refine q_ (bo_ rfl) (by decide) ⟨_,rfl,Zb b⟩ (Zv (L_ (Zb b) rfl) (Zm rfl ?_));rcases Bool.eq_false_or_eq_true (!j) with c|c
   ·rw[if_pos c] at d;refine v_ rfl rfl (by rw[c];rfl) (by decide) ?_;refine v_ rfl rfl (by rw[c];rfl) (by decide) ?_;refine v_ rfl rfl (by rw[c];rfl) (by decide) ?_;refine Zv (L_ (Zb c) rfl) ?_;have f:=Zj d;refine Ze [(16,_)] ?_;subst f;refine s_ (λa ha=>⟨ha,kp⟩)
   ·replace d:=ZF c d;refine q_ (g_ rfl) (by decide) ⟨_,rfl,Zb c⟩ (q_ (g_ rfl) (by decide) ⟨_,rfl,Zb c⟩ (q_ (u_ rfl rfl) (by decide) ⟨_,rfl,Zb c⟩ (Zv (G_ (Zb c) rfl) ?_)));have f:=Zj d;refine Ze [(16,_)] ?_;subst f;refine s_ (λa ha=>⟨ha,kp⟩)
  ·replace d:=ZF b d;refine v_ rfl rfl (by rw[b];rfl) (by decide) ?_;refine v_ rfl rfl (by rw[b];rfl) (by decide) ?_;refine v_ rfl rfl (by rw[b];rfl) (by decide) ?_;refine Zv (G_ (Zb b) rfl) (Zm rfl (q_ (g_ rfl) (by decide) ⟨_,rfl,rfl⟩ (q_ (g_ rfl) (by decide) ⟨_,rfl,rfl⟩ (q_ (u_ rfl rfl) (by decide) ⟨_,rfl,rfl⟩ (Zv (G_ rfl rfl) ?_)))));have f:=Zj d;refine Ze [(16,_)] ?_;subst f;refine s_ (λa ha=>⟨ha,kp⟩)
 rintro H A ⟨ha,v⟩;have x:=v.stp 999 (col (λ_=>1));replace hB:=hB.stp x;refine aS_ ha ?_;refine Za rfl (Ze [(4,_)] (nx (n_ ?_)));have y:=Zj hF;subst y;refine Zr Tryz.results135 [.bool u] ?_;exact⟨rfl,hB.keeps⟩
def aZ_(d:List Int)(f:Int->Option Bool):Int->Unit->Option (Lp Unit Unit Int):=λ(c:Int)(s:Unit)=>
  (ix d c)>>=λa=>
  (f a)>>=λb=>
  if b then
    some (.ret c)
  else
    some (.go ())
def aM_(a:List Int)(b:Int->Option Bool):Option Int:=
  ck (a.length:Int)>>=λ_=>
  (forN (aZ_ a b) ((a.length:Int)).toNat 0 ())>>=λc=>
  match c with
  | .inl _=>
    some (-1)
  | .inr r'=>some r'
def dl_(w:World)(r:Int):Ending->World->Prop:=λe w'=>e=.returned (.int .i64 r)∧Keeps w w'
theorem eV_(w:World)(f:Value)(d:Yl)(N:RdL zt w f d)(g:Value)(y:Int->Option Bool)(Q:FnV tX_ w g y)(r:Int)(hF:aM_ d y=some r):
    Calls tX_ 172 #[f,g] w (dl_ w r):=by
 unfold aM_ at hF;have hB:Bs (λ_=>1) (col (λ_=>1)) w w:=Bs.start _ _;refine j_ (n:=19) (vs:=[f,g]) Tryz.func172 rfl rfl ?_;refine Zq (Za rfl (Ze [(0,_),(1,_)] (nx (b_ (Zq (Zm rfl (Zv (J_ rfl N tY_) (Zm rfl (Ze [(0,_),(1,_),(7,_),(8,_)] (nx ?_))))))))));obtain⟨Y,R,hF⟩:=a_ hF;obtain⟨-,h5a,h5b⟩:=cr_ R;obtain⟨z,A,hF⟩:=a_ hF;refine A_ (λa m=>∃(j:Tg),z=.inl ()∧Fr a 19 []∧Bs (λ_=>1) j w m) (λa w'=>∃r',z=.inr r'∧bodyPost tX_ Tryz.f172 (dl_ w r') .ret a w') ?_ ?_ ?_
 ·refine f_ ?_;refine z_ (λ(K:Nat) a m=>∃(b:Int)(j:Tg),forN (aZ_ d y) ((d.length:Int)-b).toNat b ()=some z∧((d.length:Int)-b).toNat=K∧0<=b∧Fr a 19 [(0,f),(1,g),(7,ZI (d.length:Int)),(8,ZI b)]∧Bs (λ_=>1) j w m) _ (λa ha=>⟨0,col (λ_=>1),A,rfl,Int.le_refl 0,ha.sb,hB⟩) ?_;rintro K10 a m ⟨b,j,O,S,Z,ha,hB⟩;by_cases i:b<(d.length:Int)
  ·obtain⟨T,c,q⟩:=bz_ i O;dsimp only[aZ_] at c;refine O_ ha ?_;refine Zq (Zv (u_ rfl rfl) (Ze [(0,_),(1,_),(7,_),(8,_),(9,_)] (nx (b_ ?_))));refine M_ (Zb (decide_eq_true i)) ?_;refine h_ (nx (b_ (f_ (Zq (Zm rfl (Za rfl (Ze [(0,_),(1,_),(5,_),(7,_),(8,_)] (Zn (Zm rfl (Zm rfl (Zm rfl ?_)))))))))));obtain⟨s,u,c⟩:=a_ c;refine Zo ?_;refine wf_atZ N u hB rfl rfl tY_ tZ_ ?_;intro U V W B C;cases C
   refine Zv (e_ rfl ua_ (i_ B)) ?_;obtain⟨D,v,c⟩:=a_ c;refine Zo ?_;refine gl_ (x:=s) (vs:=[ZI s]) (Q.keep hB.keeps) v rfl rfl ⟨rfl,trivial⟩ ?_;intro X E;have F:=E.stp 999 j;replace hB:=hB.stp F;refine Ze [(0,_),(1,_),(5,_),(7,_),(8,_),(16,_)] (nx ?_);refine p_ rfl (λk=>?_) (λk=>?_)
   ·rw[if_pos k] at c;refine Zq (Zm rfl (Za rfl (Ze [(4,_)] (nx (n_ (aq_ (I_ (I_ (aq_ ?_)))))))));refine cK_ ?_;have G:=Zj c;subst G;refine λa ha=>⟨_,q,?_⟩;refine N_ (P:=tX_) (vs:=[ZI b]) vB_ ⟨rfl,trivial⟩ ?_ a ha;exact⟨rfl,hB.keeps⟩
   ·replace c:=ZF k c;refine h_ (y_ (nx (d_ (Zv (C_ rfl rfl (F_ (by omega) (by omega))) (Zm rfl (Ze [(0,_),(1,_),(7,_),(8,_)] (x_ ?_)))))));have H:=Zj c;subst H;refine Zk [(0,_),(1,_),(7,_),(8,_)] ?_;intro a ha;exact⟨_,(by rw[<-S];omega),b+1,j,q,rfl,by omega,ha,hB⟩
  ·have I:=bx_ i O;refine O_ ha ?_;refine Zq (Zv (u_ rfl rfl) (Ze [(0,_),(1,_),(7,_),(8,_),(9,_)] (nx (b_ ?_))));refine D_ (Zb (decide_eq_false i)) ?_;refine w_ ?_;refine m_ (m_ (Q_ ?_));refine s_ ?_;refine Zk [] ?_;intro a ha;exact⟨j,I,ha,hB⟩
 ·rintro a m ⟨j,rfl,ha,hB⟩;dsimp only at hF;refine ap_k ha ?_;refine Zn (Za rfl (Ze [(4,_)] (nx (n_ ?_))));have J:=Zj hF;subst J;refine Zr vB_ [ZI (-1)] ?_;exact⟨rfl,hB.keeps⟩
 ·rintro a m ⟨r',rfl,L⟩;dsimp only at hF;have M:=Zj hF;subst M;exact L
def ay_(a:List Int)(b:Int->Option Bool):Option Bool:=
  (aM_ a b)>>=λc=>
  some (decide (c>=0))
def eA_(w:World)(r:Bool):Ending->World->Prop:=λe w'=>e=.returned (.bool r)∧Keeps w w'
theorem eE_(w:World)(a:Value)(c:Yl)(i:RdL zt w a c)(b:Value)(d:Int->Option Bool)(j:FnV tX_ w b d)(r:Bool)(hF:ay_ c d=some r):
    Calls tX_ 136 #[a,b] w (eA_ w r):=by
 unfold ay_ at hF;have hB:Bs (λ_=>1) (col (λ_=>1)) w w:=Bs.start _ _;refine j_ (n:=9) (vs:=[a,b]) Tryz.func136 rfl rfl ?_;refine Zq (Za rfl (Ze [(0,_),(1,_)] (Zn (Zm rfl (Zm rfl ?_)))));obtain⟨f,g,hF⟩:=a_ hF;refine Zo ?_;refine o_ (eV_ w _ c (i.keep hB.keeps) _ d (j.keep hB.keeps) f g) Tryz.call172 ⟨rfl,rfl,trivial⟩ ?_;rintro s u ⟨rfl,k⟩;have m:=k.stp 999 (col (λ_=>1));refine⟨_,rfl,?_⟩;replace hB:=hB.stp m;refine Zv (lc_ rfl rfl) (Za rfl (Ze [(4,_)] (nx (n_ ?_))));have q:=Zj hF;subst q;refine Zr Tryz.results136 [.bool (decide (f>=0))] ?_;exact⟨rfl,hB.keeps⟩
def cZ_(a:Int)(b:Int)(c:Int):Option Bool:=
  (ea_ a b c)>>=λd=>
  some (!d)
def kw_(w:World)(r:Bool):Ending->World->Prop:=λe w'=>e=.returned (.bool r)∧Keeps w w'
theorem kz_(w:World)(a:Int)(b:Nat)(j:List Value)(d:Int)(s:Cells w b 0 j)(k:Rp.rd zt w j d)(c:Nat)(m:List Value)(f:Int)(u:Cells w c 0 m)(q:Rp.rd zt w m f)(r:Bool)(hF:cZ_ a d f=some r):
    Calls tX_ 137 #[.int .i64 a,.pointer (some ⟨b,0,none⟩),.pointer (some ⟨c,0,none⟩)] w (kw_ w r):=by
 unfold cZ_ at hF;have g1k:=k;cases k
 have g2k:=q;cases q
 have hB:Bs (λ_=>1) (col (λ_=>1)) w w:=Bs.start _ _;refine j_ (n:=10) (vs:=[ZI a,ZP b,ZP c]) Tryz.func137 rfl rfl ?_;refine Zq (Za rfl (Ze [(0,_),(1,_),(2,_)] (Zn (Zm rfl (Zv (e_ rfl ua_ (i_ (s.keep hB.keeps))) (Zv (e_ rfl ua_ (i_ (u.keep hB.keeps))) ?_))))));obtain⟨g,i,hF⟩:=a_ hF;refine Zo ?_;refine o_ (gG_ w a d f g i) Tryz.call62 ⟨rfl,rfl,rfl,trivial⟩ ?_;rintro z A ⟨rfl,v⟩;have x:=v.stp 999 (col (λ_=>1));refine⟨_,rfl,?_⟩;replace hB:=hB.stp x;refine Zv (bo_ rfl) (Za rfl (Ze [(4,_)] (nx (n_ ?_))));have y:=Zj hF;subst y;refine Zr Tryz.results137 [.bool (!g)] ?_;exact⟨rfl,hB.keeps⟩
def eB_(c:List Int)(d:Int)(f:Int):Option Bool:=
  (ay_ c (λa=>cZ_ a d f))>>=λb=>
  some (!b)
def mW_(w:World)(r:Bool):Ending->World->Prop:=λe w'=>e=.returned (.bool r)∧Keeps w w'
theorem ml_(w:World)(i:Value)(q:Yl)(y:RdL zt w i q)(a:Int)(b:Int)(r:Bool)(hF:eB_ q a b=some r):
    Calls tX_ 94 #[i,.int .i64 a,.int .i64 b] w (mW_ w r):=by
 unfold eB_ at hF;have hB:Bs (λ_=>1) (col (λ_=>1)) w w:=Bs.start _ _;refine j_ (n:=11) (vs:=[i,ZI a,ZI b]) Tryz.func94 rfl rfl ?_;refine Zq (Zo ?_);refine aD_ (o:=(col (λ_=>1))) w.heap.size 11 hB.keeps.size (cs:=[ZI a]) rfl rfl ?_;intro z F j s A;replace hB:=hB.stp A;refine Zo ?_;refine aD_ (o:=z) w.heap.size 12 hB.keeps.size (cs:=[ZI b]) rfl rfl ?_;intro B k m C f;replace s:=s.stp f;replace hB:=hB.stp f;refine Za rfl (Ze [(0,_),(4,_),(5,_)] (Zn (Zm rfl (Zv (gI_ (vs:=[ZP j,ZP m]) ⟨rfl,rfl,trivial⟩) ?_))));obtain⟨c,g,hF⟩:=a_ hF;refine Zo ?_;refine o_ (eE_ k _ q (y.keep hB.keeps) _ (λd=>cZ_ d a b) (show FnV tX_ k (.func (.func 137) #[] #[ZP j,ZP m]) (λd=>cZ_ d a b) from ⟨_,_,rfl,Tryz.call137,λww vs xx rr kk hok hG=>by(cases hok;exact kz_ ww xx j _ a ((s.cells).keep kk) (Rp.keep ((show Rp.rd zt k [ZI a] (a:Int) from rfl)) kk) m _ b ((C.cells).keep kk) (Rp.keep ((show Rp.rd zt k [ZI b] (b:Int) from rfl)) kk) rr hG)⟩) c g) Tryz.call136 ⟨rfl,rfl,trivial⟩ ?_;rintro D E ⟨rfl,u⟩;have v:=u.stp 999 B;refine⟨_,rfl,?_⟩;replace hB:=hB.stp v;refine Zv (bo_ rfl) (Za rfl (Ze [(6,_)] (nx (n_ ?_))));have x:=Zj hF;subst x;refine Zr Tryz.results94 [.bool (!c)] ?_;exact⟨rfl,hB.keeps⟩
def ap_(d:List Int):Int->Int->Unit->Option (Lp Unit Unit Int):=λ(f:Int)(b:Int)(s:Unit)=>
  if decide (f>=(d.length:Int)) then
    some (.ret 1)
  else
    (ix d f)>>=λc=>
    (bn_ b c)>>=λa=>
    if a !=0 then
      some (.ret a)
    else
      some (.go ())
def P_(a:List Int)(b:List Int):Option Int:=
  (forI (ap_ b) a 0 ())>>=λc=>
  match c with
  | .inl _=>
    if decide ((a.length:Int)<(b.length:Int)) then
      some (-1)
    else
      some 0
  | .inr r'=>some r'
def be_(w:World)(r:Int):Ending->World->Prop:=λe w'=>e=.returned (.int .i64 r)∧Keeps w w'
theorem cX_slices_Compare_int_int(w:World)(b:Value)(f:Yl)(D:RdL zt w b f)(g:Value)(y:Yl)(E:RdL zt w g y)(r:Int)(hF:P_ f y=some r):
    Calls tX_ 95 #[b,g] w (be_ w r):=by
 unfold P_ at hF;have hB:Bs (λ_=>1) (col (λ_=>1)) w w:=Bs.start _ _;refine j_ (n:=36) (vs:=[b,g]) Tryz.func95 rfl rfl ?_;refine Zq (Za rfl (Ze [(0,_),(1,_)] (nx (b_ (Zq (Zm rfl (Zv (J_ rfl D tY_) (Zm rfl (Ze [(0,_),(1,_),(9,_),(10,_),(11,_)] (nx ?_))))))))));obtain⟨F,G,hF⟩:=a_ hF;refine A_ (λa q=>∃(m:Tg),F=.inl ()∧Fr a 36 [(0,b),(1,g)]∧Bs (λ_=>1) m w q) (λa w'=>∃r',F=.inr r'∧bodyPost tX_ Tryz.f95 (be_ w r') .ret a w') ?_ ?_ ?_
 ·refine f_ ?_;refine z_ (λ(K:Nat) a q=>∃(d:Int)(m:Tg),forI (ap_ y) (f.drop d.toNat) d ()=some F∧(f.drop d.toNat).length=K∧0<=d∧Fr a 36 [(0,b),(1,g),(9,b),(10,ZI (f.length:Int)),(11,ZI d)]∧Bs (λ_=>1) m w q) _ (λa ha=>⟨0,col (λ_=>1),G,rfl,Int.le_refl 0,ha.sb,hB⟩) ?_;rintro K8 a q ⟨d,m,X,Y,Z,ha,hB⟩;by_cases j:d<(f.length:Int)
  ·obtain⟨k,a8,z,c,s⟩:=R_ Z j X;have hle:=D.len_le;dsimp only[ap_] at c;refine O_ ha ?_;refine Zq (Zv (u_ rfl rfl) (Ze [(0,_),(1,_),(9,_),(10,_),(11,_),(12,_)] (nx (b_ ?_))));refine M_ (Zb (decide_eq_true j)) ?_;refine h_ (nx (b_ (f_ (Zq (Zm rfl (Zo ?_))))));refine wf_atZ D z hB rfl rfl tY_ tZ_ ?_;intro a0 a1 a2 H I;cases I
   refine Zv (e_ rfl ua_ (i_ H)) (Za rfl (Za rfl (Ze [(0,_),(1,_),(5,_),(6,_),(9,_),(10,_),(11,_)] (nx (b_ (Zq (Zm rfl (Zm rfl (Zv (J_ rfl E tY_) (Zv (lc_ rfl rfl) (Ze [(0,_),(1,_),(5,_),(6,_),(9,_),(10,_),(11,_),(19,_)] (nx ?_))))))))))));refine p_ rfl (λu=>?_) (λu=>?_)
   ·rw[if_pos u] at c;refine Zq (Za rfl (Ze [(4,_)] (nx (n_ (I_ (aq_ (I_ (I_ (aq_ ?_)))))))));refine cK_ ?_;have J:=Zj c;subst J;refine λa ha=>⟨_,s,?_⟩;refine N_ (P:=tX_) (vs:=[ZI 1]) ur_ ⟨rfl,trivial⟩ ?_ a ha;exact⟨rfl,hB.keeps⟩
   ·replace c:=ZF u c;refine h_ (Zn (Zm rfl (Zm rfl ?_)));obtain⟨A,B,c⟩:=a_ c;refine Zo ?_;refine wf_atZ E B hB rfl rfl tY_ tZ_ ?_;intro a3 a4 a5 L M;cases M
    refine Zv (e_ rfl ua_ (i_ L)) (Za rfl (Ze [(0,_),(1,_),(6,_),(7,_),(9,_),(10,_),(11,_)] (Zn (Zm rfl (Zm rfl ?_)))));obtain⟨i,C,c⟩:=a_ c;refine Zo ?_;refine o_ (dY_ q k A i C) Tryz.call138 ⟨rfl,rfl,trivial⟩ ?_;rintro a6 a7 ⟨rfl,N⟩;have O:=N.stp 999 m;refine⟨_,rfl,?_⟩;replace hB:=hB.stp O;refine Za rfl (Ze [(0,_),(1,_),(8,_),(9,_),(10,_),(11,_)] (Zn (Zm rfl (Zv (dw_ rfl rfl) (Ze [(0,_),(1,_),(8,_),(9,_),(10,_),(11,_),(28,_)] (nx ?_))))));refine p_ rfl (λv=>?_) (λv=>?_)
    ·rw[if_pos v] at c;refine Zq (Zm rfl (Za rfl (Ze [(4,_)] (nx (n_ (aq_ (I_ (I_ (aq_ ?_)))))))));refine cK_ ?_;have Q:=Zj c;subst Q;refine λa ha=>⟨_,s,?_⟩;refine N_ (P:=tX_) (vs:=[ZI i]) ur_ ⟨rfl,trivial⟩ ?_ a ha;exact⟨rfl,hB.keeps⟩
    ·replace c:=ZF v c;refine h_ (y_ (nx (d_ (Zv (C_ rfl rfl (F_ (by omega) (by omega))) (Zm rfl (Ze [(0,_),(1,_),(9,_),(10,_),(11,_)] (x_ ?_)))))));have R:=Zj c;subst R;refine Zk [(0,_),(1,_),(9,_),(10,_),(11,_)] ?_;intro a ha;exact⟨_,(by rw[<-Y];simp only[List.length_drop];omega),d+1,m,s,rfl,by omega,ha,hB⟩
  ·have S:=S_ j X;refine O_ ha ?_;refine Zq (Zv (u_ rfl rfl) (Ze [(0,_),(1,_),(9,_),(10,_),(11,_),(12,_)] (nx (b_ ?_))));refine D_ (Zb (decide_eq_false j)) ?_;refine w_ ?_;refine m_ (m_ (Q_ ?_));refine s_ ?_;refine Zk [(0,_),(1,_)] ?_;intro a ha;exact⟨m,S,ha,hB⟩
 ·rintro a q ⟨m,rfl,ha,hB⟩;dsimp only at hF;refine ap_k ha ?_;refine nx (b_ (Zq (Zm rfl (Zv (J_ rfl D tY_) (Zm rfl (Zv (J_ rfl E tY_) (Zv (u_ rfl rfl) (Ze [(35,_)] (nx ?_)))))))));refine p_ rfl (λx=>?_) (λx=>?_)
  ·rw[if_pos x] at hF;refine Zq (Za rfl (Ze [(4,_)] (nx (n_ (I_ ?_)))));have T:=Zj hF;subst T;refine Zr ur_ [ZI (-1)] ?_;exact⟨rfl,hB.keeps⟩
  ·replace hF:=ZF x hF;refine h_ (Zn (Za rfl (Ze [(4,_)] (nx (n_ ?_)))));have U:=Zj hF;subst U;refine Zr ur_ [ZI 0] ?_;exact⟨rfl,hB.keeps⟩
 ·rintro a q ⟨r',rfl,V⟩;dsimp only at hF;have W:=Zj hF;subst W;exact V
def W_(g:List Int):Int->Option (Lp Int Int Bool):=λ(s:Int)=>
  if decide (s>0) then
    (ix g s)>>=λa=>
    (ck (s-1))>>=λb=>
    (ix g b)>>=λc=>
    (cz_ a c)>>=λd=>
    if d then
      some (.ret false)
    else
      (ck (s-1))>>=λf=>
      some (.go f)
  else
    some (.out s)
def aV_(fuel:Nat)(a:List Int):Option Bool:=
  (ck ((a.length:Int)-1))>>=λb=>
  (loopF (W_ a) fuel b)>>=λc=>
  match c with
  | .inl d=>
    some true
  | .inr r'=>some r'
def dv_(w:World)(r:Bool):Ending->World->Prop:=λe w'=>e=.returned (.bool r)∧Keeps w w'
theorem fl_(fuel:Nat)(w:World)(d:Value)(x:Yl)(y:RdL zt w d x)(r:Bool)(hF:aV_ fuel x=some r):
    Calls tX_ 93 #[d] w (dv_ w r):=by
 unfold aV_ at hF;have hB:Bs (λ_=>1) (col (λ_=>1)) w w:=Bs.start _ _;refine j_ (n:=21) (vs:=[d]) Tryz.func93 rfl rfl ?_;refine Zq (Za rfl (Ze [(0,_)] (nx (b_ (Zq (Zm rfl (Zv (J_ rfl y tY_) ?_)))))));obtain⟨H,I,hF⟩:=a_ hF;refine Zv (bE_ rfl rfl I) (Za rfl (Ze [(0,_),(3,_)] (nx ?_)));obtain⟨J,L,hF⟩:=a_ hF;refine A_ (λa s=>∃(f:Int)(u:Tg),J=.inl f∧Fr a 21 []∧Bs (λ_=>1) u w s) (λa w'=>∃r',J=.inr r'∧bodyPost tX_ Tryz.f93 (dv_ w r') .ret a w') ?_ ?_ ?_
 ·refine f_ ?_;refine z_ (λ(K:Nat) a s=>∃(f:Int)(u:Tg),loopF (W_ x) K f=some J∧Fr a 21 [(0,d),(3,ZI f)]∧Bs (λ_=>1) u w s) fuel (λa ha=>⟨H,col (λ_=>1),L,ha.sb,hB⟩) ?_;rintro K9 a s ⟨f,u,a4,ha,hB⟩;obtain⟨K13,a5,a6,b,j⟩:=ad_ a4;dsimp only[W_] at b;refine O_ ha ?_;refine b_ (Zq (Zm rfl (Zv (ef_ rfl rfl) (Ze [(0,_),(3,_),(8,_)] (nx ?_)))));refine p_ rfl (λk=>?_) (λk=>?_)
  ·rw[if_pos k] at b;refine h_ (nx (b_ (f_ (b_ ?_))));obtain⟨z,g,b⟩:=a_ b;obtain⟨A,B,b⟩:=a_ b;obtain⟨C,i,b⟩:=a_ b;refine ZW (Bf:=λa7 a8=>Bs (λ_=>1) a7 w a8) [(0,_),(3,_)] (Zrg 11 9) [[],[],[0,1],[2],[],[],[5],[4,6],[7]] (Zcn 9) (Zt9 9) (Zt0 9) [999] [.inl d,.inl (ZI f),.inr (λv o a9=>∃vl,v=adr vl (f.toNat*Rp.sz Int)∧RdL zt w vl x),.inl (ZI z),.inl d,.inl (ZI f),.inl (ZI A),.inr (λv o a9=>∃vl,v=adr vl (A.toNat*Rp.sz Int)∧RdL zt w vl x),.inl (ZI C)] hB ⟨λ_ _ _ _ _ _ b0 hb ⟨vl,e,h⟩ hs=>⟨vl,e,h⟩,λ_ _ _ _ _ _ b0 hb ⟨vl,e,h⟩ hs=>⟨vl,e,h⟩,trivial⟩ ?_ ?_
   ·refine⟨Dp (g_ rfl),Dp (g_ rfl),?_,?_,Dp (g_ rfl),Dp (g_ rfl),Dp (bE_ rfl rfl B),?_,?_,trivial⟩
    ·rintro b1 b2 b3 ha hB-;refine Zs ha ?_;refine an_ y g rfl rfl tY_ tZ_ ?_;exact⟨_,Stp.refl _ _ _,⟨_,rfl,y⟩⟩
    ·rintro b4 b5 b6 ha hB ⟨M,-⟩;obtain⟨b7,N,O⟩:=M;have ha:=ha.c N;refine Zs ha ?_;refine cm_ O g hB rfl rfl ua_ ?_;intro b8 Q;cases Q
     exact Zx rfl
    ·rintro b9 c0 c1 ha hB-;refine Zs ha ?_;refine an_ y i rfl rfl tY_ tZ_ ?_;exact⟨_,Stp.refl _ _ _,⟨_,rfl,y⟩⟩
    ·rintro c2 c3 c4 ha hB ⟨R,-⟩;obtain⟨c5,S,T⟩:=R;have ha:=ha.c S;refine Zs ha ?_;refine cm_ T i hB rfl rfl ua_ ?_;intro c6 U;cases U
     exact Zx rfl
   rintro _ rfl D V c7 ha hB-;refine aS_ ha ?_;obtain⟨E,F,b⟩:=a_ b;refine Zo ?_;refine o_ (gD_ V z C E F) Tryz.call135 ⟨rfl,rfl,trivial⟩ ?_;rintro c8 c9 ⟨rfl,W⟩;have X:=W.stp 999 D;refine⟨_,rfl,?_⟩;replace hB:=hB.stp X;refine Ze [(0,_),(3,_),(20,_)] (nx ?_);refine p_ rfl (λm=>?_) (λm=>?_)
   ·rw[if_pos m] at b;refine Zq (Za rfl (Ze [(2,_)] (nx (n_ (aq_ (I_ (I_ (aq_ ?_))))))));refine cK_ ?_;have Y:=Zj b;subst Y;refine λa ha=>⟨_,j,?_⟩;refine N_ (P:=tX_) (vs:=[.bool false]) vF_ ⟨rfl,trivial⟩ ?_ a ha;exact⟨rfl,hB.keeps⟩
   ·replace b:=ZF m b;refine h_ (y_ (nx (d_ (Zm rfl ?_))));obtain⟨q,G,b⟩:=a_ b;refine Zv (bE_ rfl rfl G) (Za rfl (Ze [(0,_),(3,_)] (x_ ?_)));have Z:=Zj b;subst Z;refine Zk [(0,_),(3,_)] ?_;intro a ha;exact⟨K13,by omega,q,D,j,ha,hB⟩
  ·replace b:=ZF k b;refine w_ ?_;refine m_ (m_ (Q_ ?_));refine s_ ?_;have a0:=Zj b;subst a0;refine Zk [] ?_;intro a ha;exact⟨f,u,j,ha,hB⟩
 ·rintro a s ⟨f,u,rfl,ha,hB⟩;dsimp only at hF;refine ap_k ha ?_;refine Zn (Za rfl (Ze [(2,_)] (nx (n_ ?_))));have a1:=Zj hF;subst a1;refine Zr vF_ [.bool true] ?_;exact⟨rfl,hB.keeps⟩
 ·rintro a s ⟨r',rfl,a2⟩;dsimp only at hF;have a3:=Zj hF;subst a3;exact a2
end
end Go.Proofs.YtdbbeldgdgonfaaGreat
