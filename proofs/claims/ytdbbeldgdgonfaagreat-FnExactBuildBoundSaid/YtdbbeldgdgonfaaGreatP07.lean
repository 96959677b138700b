/- Part 7 of what this claim rests on (pack.py). -/
import Derived.Test.YtdbbeldgdgonfaaGreatP06
namespace Go.Proofs.YtdbbeldgdgonfaaGreat
open Tryz renaming prog→wQ_, underlying22→wV_, sizeOf41→wY_, isAgg41→xa_, underlying41→wR_, results73→yc_, sizeOf3→wS_, isAgg3→wT_, underlying28→wW_, call40→xD_, sizeOf22→wZ_, isAgg22→xb_, call73→yX_, results120→yZ_, call120→xO_, results165→za_, zeroValue3→xd_, results68→zb_, call62→xx_, call68→zc_, call162→yd_
set_option linter.unusedSimpArgs false
set_option linter.unusedVariables false
section
set_option maxRecDepth 100000
set_option maxHeartbeats 2000000
open Go.RowKit
def bG_(g:Int)(a:List Int):Int->Option (Lp Int Int Bool):=λ(s:Int)=>
  if decide (s<g) then
    (ck (s-1))>>=λc=>
    (ix a c)>>=λd=>
    (ix a s)>>=λf=>
    if decide (d>f) then
      some (.ret false)
    else
      (ck (s+1))>>=λb=>
      some (.go b)
  else
    some (.out s)
def fI_(fuel:Nat)(n:List (List Int))(k:Int)(q:Int):Int->(List Int)->Unit->Option (Lp Unit Unit Bool):=λ(m:Int)(a:List Int)(s:Unit)=>
  (
    if(a.length:Int) !=k then
      some true
    else
      (ck (q-1))>>=λb=>
      (iS_ a 0 b)>>=λc=>
      if !c then
        some true
      else
        if decide (m>0) then
          (ck (m-1))>>=λd=>
          (ix n d)>>=λf=>
          (eY_ f a)>>=λg=>
          some (decide (g>=0))
        else
          some false)>>=λi=>
  if i then
    some (.ret false)
  else
    (loopF (bG_ k a) fuel 1)>>=λj=>
    match j with
    | .inl u=>
      some (.go ())
    | .inr r'=>some (.ret r')
def fL_(fuel:Nat)(a:List (List Int))(b:Int)(c:Int):Option Bool:=
  (forI (fI_ fuel a b c) a 0 ())>>=λd=>
  match d with
  | .inl _=>
    some true
  | .inr r'=>some r'
def jM_(w:World)(r:Bool):Ending->World->Prop:=λe w'=>e=.returned (.bool r)∧Keeps w w'
theorem mq_(fuel:Nat)(w:World)(d:Value)(k:Yk)(c5:RdL zt w d k)(m:Int)(x:Int)(r:Bool)(hF:fL_ fuel k m x=some r):
    Calls wQ_ 73 #[d,.int .i64 m,.int .i64 x] w (jM_ w r):=by
 unfold fL_ at hF;have hB:Bs (λ_=>1) (col (λ_=>1)) w w:=Bs.start _ _;refine i_ (n:=58) (vs:=[d,ZI m,ZI x]) Tryz.func73 rfl rfl ?_;refine Zq (Za rfl (Ze [(0,_),(1,_),(2,_)] (nx (c_ (Zq (Zm rfl (Zv (B_ rfl c5 wV_) (Zm rfl (Ze [(0,_),(1,_),(2,_),(10,_),(11,_),(12,_)] (nx ?_))))))))));obtain⟨c6,c7,hF⟩:=a_ hF;refine v_ (λa G=>∃(H:Tg),c6=.inl ()∧Fr a 58 []∧Bs (λ_=>1) H w G) (λa w'=>∃r',c6=.inr r'∧bodyPost wQ_ Tryz.f73 (jM_ w r') .ret a w') ?_ ?_ ?_
 ·refine f_ ?_;refine w_ (λ(K:Nat) a G=>∃(j:Int),∃(H:Tg),forI (fI_ fuel k m x) (k.drop j.toNat) j ()=some c6∧(k.drop j.toNat).length=K∧0<=j∧Fr a 58 [(0,d),(1,ZI m),(2,ZI x),(10,d),(11,ZI (k.length:Int)),(12,ZI j)]∧Bs (λ_=>1) H w G) _ (λa ha=>⟨0,col (λ_=>1),c7,rfl,Int.le_refl 0,ha.sb,hB⟩) ?_;rintro K8 a G ⟨j,H,e6,f7,f8,ha,hB⟩;by_cases I:j<(k.length:Int)
  ·obtain⟨C,i6,T,z,M⟩:=R_ f8 I e6;have hle:=c5.len_le;dsimp only[fI_] at z;refine J_ ha ?_;refine Zq (Zv (r_ rfl rfl) (Ze [(0,_),(1,_),(2,_),(10,_),(11,_),(12,_),(13,_)] (nx (c_ ?_))));refine L_ (Zb (decide_eq_true I)) ?_;refine g_ (nx (c_ (f_ (Zq (Zm rfl (Zo ?_))))));refine wf_atZ c5 T hB rfl rfl wV_ wY_ ?_;intro f9 g0 g1 c8 c9;obtain⟨g,rfl,A⟩:=c9;refine Zv (e_ rfl xa_ (k_ c8)) (Za rfl (Za rfl (Ze [(0,_),(1,_),(2,_),(7,_),(8,_),(10,_),(11,_),(12,_)] (nx (c_ (Zq (Zm rfl (Zv (B_ rfl A wR_) (Zm rfl (Zv (bR_ rfl rfl) (Zm rfl ?_)))))))))));obtain⟨U,b,z⟩:=a_ z;refine bc_ 20 (λd0 V=>Fr d0 58 [(0,d),(1,ZI m),(2,ZI x),(8,g),(10,d),(11,ZI (k.length:Int)),(12,ZI j),(41,.bool U)]∧Keeps G V) ?_ ?_;all_goals simp only[List.take_succ_cons,List.take_zero,List.drop_succ_cons,List.drop_zero]
   ·have kp:Keeps G G:=Keeps.refl _;rcases Bool.eq_false_or_eq_true ((C.length:Int) !=m) with q|q
    ·rw[if_pos q] at b;refine A_ rfl rfl (by rw[q];rfl) (by decide) ?_;refine A_ rfl rfl (by rw[q];rfl) (by decide) ?_;refine A_ rfl rfl (by rw[q];rfl) (by decide) ?_;refine A_ rfl rfl (by rw[q];rfl) (by decide) ?_;refine A_ rfl rfl (by rw[q];rfl) (by decide) ?_;refine Zv (P_ (Zb q) rfl) (Zm rfl ?_);refine A_ rfl rfl rfl (by decide) ?_;refine A_ rfl rfl rfl (by decide) ?_;refine A_ rfl rfl rfl (by decide) ?_;refine aq_ rfl rfl (by decide) ?_;refine aq_ rfl rfl (by decide) ?_;refine aq_ rfl rfl (by decide) ?_;refine aq_ rfl rfl (by decide) ?_;refine aq_ rfl rfl (by decide) ?_;refine aq_ rfl rfl (by decide) ?_;refine aq_ rfl rfl (by decide) ?_;refine aq_ rfl rfl (by decide) ?_;refine A_ rfl rfl rfl (by decide) ?_;refine Zv (P_ rfl rfl) ?_;have s:=Zj b;refine Ze [(0,_),(1,_),(2,_),(8,_),(10,_),(11,_),(12,_),(41,_)] ?_;subst s;refine p_ (λa ha=>⟨ha,kp⟩)
    ·replace b:=ZF q b;refine q_ (h_ rfl) (by decide) ⟨_,rfl,Zb q⟩ (q_ (h_ rfl) (by decide) ⟨_,rfl,Zb q⟩ ?_);obtain⟨d1,W,b⟩:=a_ b;refine q_ (bs_ rfl rfl W) (by decide) ⟨_,rfl,Zb q⟩ ?_;obtain⟨X,Y,b⟩:=a_ b;refine cJ_ (by decide) ⟨_,rfl,Zb q⟩ ?_;refine o_ (uW_ G _ C (A.keep hB.keeps) 0 d1 X Y) Tryz.call106 ⟨rfl,rfl,rfl,trivial⟩ ?_;rintro g2 d2 ⟨rfl,Z⟩;have d3:=Z.stp 999 H;refine⟨_,rfl,?_⟩;replace hB:=hB.stp d3;replace kp:=Keeps.trans kp Z;refine q_ (aI_ rfl) (by decide) ⟨_,rfl,Zb q⟩ (Zv (I_ (Zb q) rfl) (Zm rfl ?_));rcases Bool.eq_false_or_eq_true (!X) with u|u
     ·rw[if_pos u] at b;refine A_ rfl rfl (by rw[u];rfl) (by decide) ?_;refine A_ rfl rfl (by rw[u];rfl) (by decide) ?_;refine A_ rfl rfl (by rw[u];rfl) (by decide) ?_;refine aq_ rfl rfl (by decide) ?_;refine aq_ rfl rfl (by decide) ?_;refine aq_ rfl rfl (by decide) ?_;refine aq_ rfl rfl (by decide) ?_;refine aq_ rfl rfl (by decide) ?_;refine aq_ rfl rfl (by decide) ?_;refine aq_ rfl rfl (by decide) ?_;refine aq_ rfl rfl (by decide) ?_;refine A_ rfl rfl (by rw[u];rfl) (by decide) ?_;refine Zv (P_ (Zb u) rfl) ?_;have s:=Zj b;refine Ze [(0,_),(1,_),(2,_),(8,_),(10,_),(11,_),(12,_),(41,_)] ?_;subst s;refine p_ (λa ha=>⟨ha,kp⟩)
     ·replace b:=ZF u b;refine q_ (h_ rfl) (by decide) ⟨_,rfl,Zb u⟩ (q_ (eN_ rfl rfl) (by decide) ⟨_,rfl,Zb u⟩ (q_ (h_ rfl) (by decide) ⟨_,rfl,Zb u⟩ ?_));rcases Bool.eq_false_or_eq_true (decide (j>0)) with f|f
      ·rw[if_pos f] at b;refine q_ (h_ rfl) (by decide) ⟨_,rfl,Zb f⟩ (q_ (h_ rfl) (by decide) ⟨_,rfl,Zb f⟩ ?_);obtain⟨g3,a0,b⟩:=a_ b;refine q_ (bs_ rfl rfl a0) (by decide) ⟨_,rfl,Zb f⟩ ?_;obtain⟨d4,a1,b⟩:=a_ b;refine cJ_ (by decide) ⟨_,rfl,Zb f⟩ ?_;refine wf_atZ c5 a1 hB rfl rfl wV_ wY_ ?_;intro g4 g5 g6 d5 d6;obtain⟨g7,rfl,d7⟩:=d6;refine q_ (e_ rfl xa_ (k_ d5)) (by decide) ⟨_,rfl,Zb f⟩ (q_ (h_ rfl) (by decide) ⟨_,rfl,Zb f⟩ ?_);obtain⟨a2,a3,b⟩:=a_ b;refine cJ_ (by decide) ⟨_,rfl,Zb f⟩ ?_;refine o_ (mi_ d2 _ d4 (d7.keep hB.keeps) _ C (A.keep hB.keeps) a2 a3) Tryz.call107 ⟨rfl,rfl,trivial⟩ ?_;rintro g8 g9 ⟨rfl,a4⟩;have h0:=a4.stp 999 H;refine⟨_,rfl,?_⟩;replace kp:=Keeps.trans kp a4;refine q_ (lF_ rfl rfl) (by decide) ⟨_,rfl,Zb f⟩ (q_ (P_ (Zb f) rfl) (by decide) ⟨_,rfl,Zb u⟩ (Zv (I_ (Zb u) rfl) ?_));have s:=Zj b;refine Ze [(0,_),(1,_),(2,_),(8,_),(10,_),(11,_),(12,_),(41,_)] ?_;subst s;refine p_ (λa ha=>⟨ha,kp⟩)
      ·replace b:=ZF f b;refine A_ rfl rfl (by rw[f];rfl) (by decide) ?_;refine A_ rfl rfl (by rw[f];rfl) (by decide) ?_;refine A_ rfl rfl (by rw[f];rfl) (by decide) ?_;refine A_ rfl rfl (by rw[f];rfl) (by decide) ?_;refine A_ rfl rfl (by rw[f];rfl) (by decide) ?_;refine A_ rfl rfl (by rw[f];rfl) (by decide) ?_;refine A_ rfl rfl (by rw[f];rfl) (by decide) ?_;refine A_ rfl rfl (by rw[f];rfl) (by decide) ?_;refine q_ (I_ (Zb f) rfl) (by decide) ⟨_,rfl,Zb u⟩ (Zv (I_ (Zb u) rfl) ?_);have s:=Zj b;refine Ze [(0,_),(1,_),(2,_),(8,_),(10,_),(11,_),(12,_),(41,_)] ?_;subst s;refine p_ (λa ha=>⟨ha,kp⟩)
   rintro h1 V ⟨ha,d8⟩;have d9:=d8.stp 999 H;replace hB:=hB.stp d9;refine aH_ ha ?_;refine Ze [(0,_),(1,_),(2,_),(8,_),(10,_),(11,_),(12,_),(41,_)] (nx ?_);refine l_ rfl (λN=>?_) (λN=>?_)
   ·rw[if_pos N] at z;refine Zq (Za rfl (Ze [(6,_)] (nx (j_ (y_ (W_ (y_ (y_ (W_ ?_)))))))));refine bg_ ?_;have e0:=Zj z;subst e0;refine λa ha=>⟨_,M,?_⟩;refine D_ (P:=wQ_) (vs:=[.bool false]) yc_ ⟨rfl,trivial⟩ ?_ a ha;exact⟨rfl,hB.keeps⟩
   ·replace z:=ZF N z;refine g_ (Zn (Za rfl (Ze [(0,_),(1,_),(2,_),(8,_),(9,_),(10,_),(11,_),(12,_)] (nx ?_))));obtain⟨O,a5,z⟩:=a_ z;refine v_ (λa D=>∃(y:Int),∃(B:Tg),O=.inl y∧Fr a 58 [(0,d),(1,ZI m),(2,ZI x),(10,d),(11,ZI (k.length:Int)),(12,ZI j)]∧Bs (λ_=>1) B w D) (λa w'=>∃r',O=.inr r'∧bodyPost wQ_ Tryz.f73 (jM_ w r') .ret a w') ?_ ?_ ?_
    ·refine f_ ?_;refine w_ (λ(K:Nat) a D=>∃(y:Int),∃(B:Tg),loopF (bG_ m C) K y=some O∧Fr a 58 [(0,d),(1,ZI m),(2,ZI x),(8,g),(9,ZI y),(10,d),(11,ZI (k.length:Int)),(12,ZI j)]∧Bs (λ_=>1) B w D) fuel (λa ha=>⟨1,H,a5,ha.sb,hB⟩) ?_;rintro K61 a D ⟨y,B,e1,ha,hB⟩;obtain⟨K65,h2,h3,i,Q⟩:=X_ e1;dsimp only[bG_] at i;refine J_ ha ?_;refine c_ (Zq (Zm rfl (Zm rfl (Zv (r_ rfl rfl) (Ze [(0,_),(1,_),(2,_),(8,_),(9,_),(10,_),(11,_),(12,_),(44,_)] (nx ?_))))));refine l_ rfl (λR=>?_) (λR=>?_)
     ·rw[if_pos R] at i;refine g_ (nx (c_ (f_ (c_ ?_))));obtain⟨a6,a7,i⟩:=a_ i;obtain⟨a8,J,i⟩:=a_ i;obtain⟨a9,L,i⟩:=a_ i;refine ZW (Bf:=λh4 h5=>Bs (λ_=>1) h4 w h5) [(0,_),(1,_),(2,_),(8,_),(9,_),(10,_),(11,_),(12,_)] (Zrg 47 9) [[],[],[1],[0,2],[3],[],[],[5,6],[7]] (Zcn 9) (Zt9 9) (Zt0 9) [999] [.inl g,.inl (ZI y),.inl (ZI a6),.inr (λv o h6=>∃vl,v=adr vl (a6.toNat*Rp.sz Int)∧RdL zt w vl C),.inl (ZI a8),.inl g,.inl (ZI y),.inr (λv o h6=>∃vl,v=adr vl (y.toNat*Rp.sz Int)∧RdL zt w vl C),.inl (ZI a9)] hB ⟨λ_ _ _ _ _ _ h7 hb ⟨vl,e,h⟩ hs=>⟨vl,e,h⟩,λ_ _ _ _ _ _ h7 hb ⟨vl,e,h⟩ hs=>⟨vl,e,h⟩,trivial⟩ ?_ ?_
      ·refine⟨Dp (h_ rfl),Dp (h_ rfl),Dp (bs_ rfl rfl a7),?_,?_,Dp (h_ rfl),Dp (h_ rfl),?_,?_,trivial⟩
       ·rintro h8 h9 i0 ha- -;refine Zs ha ?_;refine ae_ A J rfl rfl wR_ wS_ ?_;exact⟨_,Stp.refl _ _ _,⟨_,rfl,A⟩⟩
       ·rintro i1 i2 i3 ha hB ⟨e2,-⟩;obtain⟨i4,e3,e4⟩:=e2;have ha:=ha.c e3;refine Zs ha ?_;refine bB_ e4 J hB rfl rfl wT_ ?_;intro i5 e5;cases e5
        exact Zx rfl
       ·rintro e7 e8 e9 ha- -;refine Zs ha ?_;refine ae_ A L rfl rfl wR_ wS_ ?_;exact⟨_,Stp.refl _ _ _,⟨_,rfl,A⟩⟩
       ·rintro f0 f1 f2 ha hB ⟨b0,-⟩;obtain⟨f3,b1,b2⟩:=b0;have ha:=ha.c b1;refine Zs ha ?_;refine bB_ b2 L hB rfl rfl wT_ ?_;intro f4 b3;cases b3
        exact Zx rfl
      rintro _ rfl b4 f5 f6 ha hB-;refine aH_ ha ?_;refine Zv (eN_ rfl rfl) (Ze [(0,_),(1,_),(2,_),(8,_),(9,_),(10,_),(11,_),(12,_),(56,_)] (nx ?_));refine l_ rfl (λE=>?_) (λE=>?_)
      ·rw[if_pos E] at i;refine Zq (Za rfl (Ze [(6,_)] (nx (j_ (W_ (y_ (y_ (W_ ?_))))))));refine bg_ ?_;have b5:=Zj i;subst b5;refine λa ha=>⟨_,Q,?_⟩;refine D_ (P:=wQ_) (vs:=[.bool false]) yc_ ⟨rfl,trivial⟩ ?_ a ha;exact⟨rfl,hB.keeps⟩
      ·replace i:=ZF E i;refine g_ (x_ (nx (d_ (Zm rfl ?_))));obtain⟨F,S,i⟩:=a_ i;refine Zv (C_ rfl rfl S) (Za rfl (Ze [(0,_),(1,_),(2,_),(8,_),(9,_),(10,_),(11,_),(12,_)] (u_ ?_)));have b6:=Zj i;subst b6;refine Zk [(0,_),(1,_),(2,_),(8,_),(9,_),(10,_),(11,_),(12,_)] ?_;intro a ha;exact⟨K65,by omega,F,b4,Q,ha,hB⟩
     ·replace i:=ZF R i;refine s_ ?_;refine n_ (n_ (N_ ?_));refine p_ ?_;have b7:=Zj i;subst b7;refine Zk [(0,_),(1,_),(2,_),(10,_),(11,_),(12,_)] ?_;intro a ha;exact⟨y,B,Q,ha,hB⟩
    ·rintro a D ⟨y,B,rfl,ha,hB⟩;dsimp only at z;refine ap_k ha ?_;refine x_ (nx (d_ (Zv (C_ rfl rfl (F_ (by omega) (by omega))) (Zm rfl (Ze [(0,_),(1,_),(2,_),(10,_),(11,_),(12,_)] (u_ ?_))))));have b8:=Zj z;subst b8;refine Zk [(0,_),(1,_),(2,_),(10,_),(11,_),(12,_)] ?_;intro a ha;exact⟨_,(by rw[<-f7];simp only[List.length_drop];omega),j+1,B,M,rfl,by omega,ha,hB⟩
    ·rintro a D ⟨r',rfl,b9⟩;dsimp only at z;have c0:=Zj z;subst c0;exact⟨_,M,b9⟩
  ·have c1:=S_ I e6;refine J_ ha ?_;refine Zq (Zv (r_ rfl rfl) (Ze [(0,_),(1,_),(2,_),(10,_),(11,_),(12,_),(13,_)] (nx (c_ ?_))));refine G_ (Zb (decide_eq_false I)) ?_;refine s_ ?_;refine n_ (n_ (N_ ?_));refine p_ ?_;refine Zk [] ?_;intro a ha;exact⟨H,c1,ha,hB⟩
 ·rintro a G ⟨H,rfl,ha,hB⟩;dsimp only at hF;refine ap_k ha ?_;refine Zn (Za rfl (Ze [(6,_)] (nx (j_ ?_))));have c2:=Zj hF;subst c2;refine Zr yc_ [.bool true] ?_;exact⟨rfl,hB.keeps⟩
 ·rintro a G ⟨r',rfl,c3⟩;dsimp only at hF;have c4:=Zj hF;subst c4;exact c3
def eC_(fuel:Nat)(a:b_):Option Bool:=
  (hl_ a.Labels 1 8)>>=λb=>
  (
    if b then
      (hl_ a.Degree 1 4)>>=λc=>
      if c then
        (fL_ fuel a.Nodes a.Degree a.Labels)>>=λd=>
        if d then
          (fL_ fuel a.Edges 2 a.Labels)>>=λf=>
          some f
        else
          some false
      else
        some false
    else
      some false)>>=λg=>
  some g
def tL_(w:World)(r:Bool):Ending->World->Prop:=λe w'=>e=.returned (.bool r)∧Keeps w w'
theorem gu_(fuel:Nat)(w:World)(Q:List Value)(i:b_)(T:Rp.rd zt w Q i)(r:Bool)(hF:eC_ fuel i=some r):
    Calls wQ_ 47 #[.agg Q.toArray] w (tL_ w r):=by
 unfold eC_ at hF;obtain⟨R,S,rfl,U,V⟩:=T;have hB:Bs (λ_=>1) (col (λ_=>1)) w w:=Bs.start _ _;refine i_ (n:=27) (vs:=[.agg #[ZI i.Labels,ZI i.Degree,R,S]]) Tryz.func47 rfl rfl ?_;refine Zq (Zo ?_);refine as_ (o:=(col (λ_=>1))) w.heap.size 11 hB.keeps.size (cs:=[ZI i.Labels,ZI i.Degree,R,S]) rfl rfl ?_;intro q W X j Y;replace hB:=hB.stp Y;refine Za rfl (Ze [(1,_)] (Zn (Zv (m_ rfl wW_ rfl wS_) (Zv (e_ rfl wT_ (j.cell rfl)) ?_))));obtain⟨s,u,hF⟩:=a_ hF;refine Zo ?_;refine o_ (lC_ W i.Labels 1 8 s u) xD_ ⟨rfl,rfl,rfl,trivial⟩ ?_;rintro Z k ⟨rfl,G⟩;have H:=G.stp 999 q;refine⟨_,rfl,?_⟩;obtain⟨j,hB⟩:=ZS H (A2 j hB);refine Zm rfl ?_;obtain⟨m,b,hF⟩:=a_ hF;refine bc_ 20 (λI v=>Fr I 27 [(26,.bool m)]∧Keeps k v) ?_ ?_;all_goals simp only[List.take_succ_cons,List.take_zero,List.drop_succ_cons,List.drop_zero]
 ·have kp:Keeps k k:=Keeps.refl _;rcases Bool.eq_false_or_eq_true (s) with g|g
  ·rw[if_pos g] at b;refine q_ (m_ rfl wW_ rfl wS_) (by decide) ⟨_,rfl,Zb g⟩ (q_ (e_ rfl wT_ (j.cell rfl)) (by decide) ⟨_,rfl,Zb g⟩ ?_);obtain⟨x,y,b⟩:=a_ b;refine cJ_ (by decide) ⟨_,rfl,Zb g⟩ ?_;refine o_ (lC_ k i.Degree 1 4 x y) xD_ ⟨rfl,rfl,rfl,trivial⟩ ?_;rintro a0 J ⟨rfl,z⟩;have K:=z.stp 999 q;refine⟨_,rfl,?_⟩;obtain⟨j,hB⟩:=ZS K (A2 j hB);replace kp:=Keeps.trans kp z;refine Zv (P_ (Zb g) rfl) (Zm rfl ?_);rcases Bool.eq_false_or_eq_true (x) with c|c
   ·rw[if_pos c] at b;refine q_ (m_ rfl wW_ rfl wZ_) (by decide) ⟨_,rfl,Zb c⟩ (q_ (e_ rfl xb_ (j.cell rfl)) (by decide) ⟨_,rfl,Zb c⟩ (q_ (m_ rfl wW_ rfl wS_) (by decide) ⟨_,rfl,Zb c⟩ (q_ (e_ rfl wT_ (j.cell rfl)) (by decide) ⟨_,rfl,Zb c⟩ (q_ (m_ rfl wW_ rfl wS_) (by decide) ⟨_,rfl,Zb c⟩ (q_ (e_ rfl wT_ (j.cell rfl)) (by decide) ⟨_,rfl,Zb c⟩ ?_)))));obtain⟨A,B,b⟩:=a_ b;refine cJ_ (by decide) ⟨_,rfl,Zb c⟩ ?_;refine o_ (mq_ fuel J _ i.Nodes (U.keep hB.keeps) i.Degree i.Labels A B) yX_ ⟨rfl,rfl,rfl,trivial⟩ ?_;rintro a1 L ⟨rfl,C⟩;have M:=C.stp 999 q;refine⟨_,rfl,?_⟩;obtain⟨j,hB⟩:=ZS M (A2 j hB);replace kp:=Keeps.trans kp C;refine Zv (P_ (Zb c) rfl) (Zm rfl ?_);rcases Bool.eq_false_or_eq_true (A) with d|d
    ·rw[if_pos d] at b;refine q_ (m_ rfl wW_ rfl wZ_) (by decide) ⟨_,rfl,Zb d⟩ (q_ (e_ rfl xb_ (j.cell rfl)) (by decide) ⟨_,rfl,Zb d⟩ (q_ (m_ rfl wW_ rfl wS_) (by decide) ⟨_,rfl,Zb d⟩ (q_ (e_ rfl wT_ (j.cell rfl)) (by decide) ⟨_,rfl,Zb d⟩ ?_)));obtain⟨D,E,b⟩:=a_ b;refine cJ_ (by decide) ⟨_,rfl,Zb d⟩ ?_;refine o_ (mq_ fuel L _ i.Edges (V.keep hB.keeps) 2 i.Labels D E) yX_ ⟨rfl,rfl,rfl,trivial⟩ ?_;rintro a2 a3 ⟨rfl,F⟩;have a4:=F.stp 999 q;refine⟨_,rfl,?_⟩;replace kp:=Keeps.trans kp F;refine Zv (P_ (Zb d) rfl) ?_;have f:=Zj b;refine Ze [(26,_)] ?_;subst f;refine p_ (λa ha=>⟨ha,kp⟩)
    ·replace b:=ZF d b;refine A_ rfl rfl (by rw[d];rfl) (by decide) ?_;refine A_ rfl rfl (by rw[d];rfl) (by decide) ?_;refine A_ rfl rfl (by rw[d];rfl) (by decide) ?_;refine A_ rfl rfl (by rw[d];rfl) (by decide) ?_;refine A_ rfl rfl (by rw[d];rfl) (by decide) ?_;refine Zv (I_ (Zb d) rfl) ?_;have f:=Zj b;refine Ze [(26,_)] ?_;subst f;refine p_ (λa ha=>⟨ha,kp⟩)
   ·replace b:=ZF c b;refine A_ rfl rfl (by rw[c];rfl) (by decide) ?_;refine A_ rfl rfl (by rw[c];rfl) (by decide) ?_;refine A_ rfl rfl (by rw[c];rfl) (by decide) ?_;refine A_ rfl rfl (by rw[c];rfl) (by decide) ?_;refine A_ rfl rfl (by rw[c];rfl) (by decide) ?_;refine A_ rfl rfl (by rw[c];rfl) (by decide) ?_;refine A_ rfl rfl (by rw[c];rfl) (by decide) ?_;refine Zv (I_ (Zb c) rfl) (Zm rfl ?_);refine A_ rfl rfl rfl (by decide) ?_;refine A_ rfl rfl rfl (by decide) ?_;refine A_ rfl rfl rfl (by decide) ?_;refine A_ rfl rfl rfl (by decide) ?_;refine A_ rfl rfl rfl (by decide) ?_;refine Zv (I_ rfl rfl) ?_;have f:=Zj b;refine Ze [(26,_)] ?_;subst f;refine p_ (λa ha=>⟨ha,kp⟩)
  ·replace b:=ZF g b;refine A_ rfl rfl (by rw[g];rfl) (by decide) ?_;refine A_ rfl rfl (by rw[g];rfl) (by decide) ?_;refine A_ rfl rfl (by rw[g];rfl) (by decide) ?_;refine Zv (I_ (Zb g) rfl) (Zm rfl ?_);refine A_ rfl rfl rfl (by decide) ?_;refine A_ rfl rfl rfl (by decide) ?_;refine A_ rfl rfl rfl (by decide) ?_;refine A_ rfl rfl rfl (by decide) ?_;refine A_ rfl rfl rfl (by decide) ?_;refine A_ rfl rfl rfl (by decide) ?_;refine A_ rfl rfl rfl (by decide) ?_;refine Zv (I_ rfl rfl) (Zm rfl ?_);refine A_ rfl rfl rfl (by decide) ?_;refine A_ rfl rfl rfl (by decide) ?_;refine A_ rfl rfl rfl (by decide) ?_;refine A_ rfl rfl rfl (by decide) ?_;refine A_ rfl rfl rfl (by decide) ?_;refine Zv (I_ rfl rfl) ?_;have f:=Zj b;refine Ze [(26,_)] ?_;subst f;refine p_ (λa ha=>⟨ha,kp⟩)
 rintro a5 v ⟨ha,N⟩;have O:=N.stp 999 q;replace hB:=hB.stp O;refine aH_ ha ?_;refine Za rfl (Ze [(2,_)] (nx (j_ ?_)));have P:=Zj hF;subst P;refine Zr Tryz.results47 [.bool m] ?_;exact⟨rfl,hB.keeps⟩
def gW_(c:List Int):Int->(List Int)->Unit->Option (Lp Unit Unit Bool):=λ(d:Int)(a:List Int)(s:Unit)=>
  (gw_ c a)>>=λb=>
  if b then
    some (.ret true)
  else
    some (.go ())
def gg_(a:List (List Int))(b:List Int):Option Bool:=
  (forI (gW_ b) a 0 ())>>=λc=>
  match c with
  | .inl _=>
    some false
  | .inr r'=>some r'
def qU_(w:World)(r:Bool):Ending->World->Prop:=λe w'=>e=.returned (.bool r)∧Keeps w w'
theorem ky_(w:World)(f:Value)(b:Yk)(y:RdL zt w f b)(g:Value)(x:Yl)(R:RdL zt w g x)(r:Bool)(hF:gg_ b x=some r):
    Calls wQ_ 120 #[f,g] w (qU_ w r):=by
 unfold gg_ at hF;have hB:Bs (λ_=>1) (col (λ_=>1)) w w:=Bs.start _ _;refine i_ (n:=17) (vs:=[f,g]) Tryz.func120 rfl rfl ?_;refine Zq (Za rfl (Ze [(0,_),(1,_)] (nx (c_ (Zq (Zm rfl (Zv (B_ rfl y wV_) (Zm rfl (Ze [(1,_),(7,_),(8,_),(9,_)] (nx ?_))))))))));obtain⟨z,A,hF⟩:=a_ hF;refine v_ (λa k=>∃(j:Tg),z=.inl ()∧Fr a 17 []∧Bs (λ_=>1) j w k) (λa w'=>∃r',z=.inr r'∧bodyPost wQ_ Tryz.f120 (qU_ w r') .ret a w') ?_ ?_ ?_
 ·refine f_ ?_;refine w_ (λ(K:Nat) a k=>∃(c:Int),∃(j:Tg),forI (gW_ x) (b.drop c.toNat) c ()=some z∧(b.drop c.toNat).length=K∧0<=c∧Fr a 17 [(1,g),(7,f),(8,ZI (b.length:Int)),(9,ZI c)]∧Bs (λ_=>1) j w k) _ (λa ha=>⟨0,col (λ_=>1),A,rfl,Int.le_refl 0,ha.sb,hB⟩) ?_;rintro K8 a k ⟨c,j,Q,S,T,ha,hB⟩;by_cases i:c<(b.length:Int)
  ·obtain⟨B,Z,q,d,s⟩:=R_ T i Q;have hle:=y.len_le;dsimp only[gW_] at d;refine J_ ha ?_;refine Zq (Zv (r_ rfl rfl) (Ze [(1,_),(7,_),(8,_),(9,_),(10,_)] (nx (c_ ?_))));refine L_ (Zb (decide_eq_true i)) ?_;refine g_ (nx (c_ (f_ (Zq (Zo ?_)))));refine wf_atZ y q hB rfl rfl wV_ wY_ ?_;intro U V W C D;obtain⟨E,rfl,F⟩:=D;refine Zv (e_ rfl xa_ (k_ C)) (Za rfl (Ze [(1,_),(6,_),(7,_),(8,_),(9,_)] (Zn (Zm rfl (Zm rfl ?_)))));obtain⟨u,v,d⟩:=a_ d;refine Zo ?_;refine o_ (nR_ k _ x (R.keep hB.keeps) _ B (F.keep hB.keeps) u v) Tryz.call115 ⟨rfl,rfl,trivial⟩ ?_;rintro X Y ⟨rfl,G⟩;have H:=G.stp 999 j;refine⟨_,rfl,?_⟩;replace hB:=hB.stp H;refine Ze [(1,_),(7,_),(8,_),(9,_),(15,_)] (nx ?_);refine l_ rfl (λm=>?_) (λm=>?_)
   ·rw[if_pos m] at d;refine Zq (Za rfl (Ze [(4,_)] (nx (j_ (W_ (y_ (y_ (W_ ?_))))))));refine bg_ ?_;have I:=Zj d;subst I;refine λa ha=>⟨_,s,?_⟩;refine D_ (P:=wQ_) (vs:=[.bool true]) yZ_ ⟨rfl,trivial⟩ ?_ a ha;exact⟨rfl,hB.keeps⟩
   ·replace d:=ZF m d;refine g_ (x_ (nx (d_ (Zv (C_ rfl rfl (F_ (by omega) (by omega))) (Zm rfl (Ze [(1,_),(7,_),(8,_),(9,_)] (u_ ?_)))))));have J:=Zj d;subst J;refine Zk [(1,_),(7,_),(8,_),(9,_)] ?_;intro a ha;exact⟨_,(by rw[<-S];simp only[List.length_drop];omega),c+1,j,s,rfl,by omega,ha,hB⟩
  ·have L:=S_ i Q;refine J_ ha ?_;refine Zq (Zv (r_ rfl rfl) (Ze [(1,_),(7,_),(8,_),(9,_),(10,_)] (nx (c_ ?_))));refine G_ (Zb (decide_eq_false i)) ?_;refine s_ ?_;refine n_ (n_ (N_ ?_));refine p_ ?_;refine Zk [] ?_;intro a ha;exact⟨j,L,ha,hB⟩
 ·rintro a k ⟨j,rfl,ha,hB⟩;dsimp only at hF;refine ap_k ha ?_;refine Zn (Za rfl (Ze [(4,_)] (nx (j_ ?_))));have M:=Zj hF;subst M;refine Zr yZ_ [.bool false] ?_;exact⟨rfl,hB.keeps⟩
 ·rintro a k ⟨r',rfl,N⟩;dsimp only at hF;have O:=Zj hF;subst O;exact N
def hF_(fuel:Nat)(c:b_)(d:List Int):Option Bool:=
  (dC_ fuel d)>>=λa=>
  (gg_ c.Nodes a)>>=λb=>
  some b
def ur_(w:World)(r:Bool):Ending->World->Prop:=λe w'=>e=.returned (.bool r)∧Keeps w w'
theorem sC_(fuel:Nat)(w:World)(L:List Value)(b:b_)(O:Rp.rd zt w L b)(i:Value)(x:Yl)(P:RdL zt w i x)(r:Bool)(hF:hF_ fuel b x=some r):
    Calls wQ_ 156 #[.agg L.toArray,i] w (ur_ w r):=by
 unfold hF_ at hF;obtain⟨u,y,rfl,Q,a2⟩:=O;have hB:Bs (λ_=>1) (col (λ_=>1)) w w:=Bs.start _ _;refine i_ (n:=10) (vs:=[.agg #[ZI b.Labels,ZI b.Degree,u,y],i]) Tryz.func156 rfl rfl ?_;refine Zq (Zo ?_);refine as_ (o:=(col (λ_=>1))) w.heap.size 11 hB.keeps.size (cs:=[ZI b.Labels,ZI b.Degree,u,y]) rfl rfl ?_;intro a3 a4 A B R;replace hB:=hB.stp R;refine Za rfl (Ze [(1,_),(2,_)] (nx (c_ ?_)));obtain⟨d,j,hF⟩:=a_ hF;refine ZW (Bf:=λM N=>Bs (λ_=>1) M w N∧Bz w 11 M N A 28 [ZI b.Labels,ZI b.Degree,u,y]) [(1,_),(2,_)] (Zrg 5 4) [[],[0],[],[2]] (Zcn 4) (Zt9 4) [0,0,0,12] [999] [.inl (.pointer (some ⟨A,0+2,none⟩)),.inl u,.inl i,.inr (λv o S=>Oz w 3 12 o S v d)] ⟨hB,B⟩ ⟨λ_ _ _ _ _ _ T hb h hs=>h.stp hs T.1 (Ne.symm hb),trivial⟩ ?_ ?_
 ·refine⟨Dp (m_ rfl wW_ rfl wZ_),Dq λh=>e_ rfl xb_ (h.2.cell rfl),Dp (h_ rfl),?_,trivial⟩
  ·rintro C D U ha ⟨hB,B⟩-;refine Zs ha ?_;refine o_ (gY_ fuel D C 12 (by decide) _ x (P.keep hB.keeps) d j) Tryz.call121 ⟨rfl,trivial⟩ ?_;rintro V W ⟨X,Y,rfl,f,E,F⟩;have G:=E.stp' 999 F;replace f:=f.mono hB.keeps.size;refine⟨_,rfl,?_⟩;exact⟨_,G,f⟩
 rintro _ rfl k m q ha ⟨hB,B⟩ ⟨a,-⟩;replace a:Oz w 3 12 k m (q.tmps.getD 8 undef) d:=a;generalize H:q.tmps.getD 8 undef=Z at a;have ha:=ha.c H;refine aH_ ha ?_;obtain⟨g,s,hF⟩:=a_ hF;refine Zo ?_;refine o_ (ky_ m _ b.Nodes (Q.keep hB.keeps) _ d a.z g s) xO_ ⟨rfl,rfl,trivial⟩ ?_;rintro a0 a1 ⟨rfl,I⟩;have J:=I.stp 999 k;refine⟨_,rfl,?_⟩;obtain⟨a,hB⟩:=ZS J (A2 a hB);refine Za rfl (Ze [(4,_)] (nx (j_ ?_)));have K:=Zj hF;subst K;refine Zr Tryz.results156 [.bool g] ?_;exact⟨rfl,hB.keeps⟩
def jd_(a:Int)(b:Int):Option Int:=
  if decide (a>b) then
    some a
  else
    some b
def tn_(w:World)(r:Int):Ending->World->Prop:=λe w'=>e=.returned (.int .i64 r)∧Keeps w w'
theorem sA_(w:World)(a:Int)(b:Int)(r:Int)(hF:jd_ a b=some r):
    Calls wQ_ 165 #[.int .i64 a,.int .i64 b] w (tn_ w r):=by
 unfold jd_ at hF;have hB:Bs (λ_=>1) (col (λ_=>1)) w w:=Bs.start _ _;refine i_ (n:=10) (vs:=[ZI a,ZI b]) Tryz.func165 rfl rfl ?_;refine Zq (Za rfl (Ze [(0,_),(1,_)] (nx (c_ (Zq (Zm rfl (Zm rfl (Zv (eN_ rfl rfl) (Ze [(0,_),(1,_),(7,_)] (nx ?_))))))))));refine l_ rfl (λc=>?_) (λc=>?_)
 ·rw[if_pos c] at hF;refine Zq (Zm rfl (Za rfl (Ze [(4,_)] (nx (j_ (y_ ?_))))));have d:=Zj hF;subst d;refine Zr za_ [ZI a] ?_;exact⟨rfl,hB.keeps⟩
 ·replace hF:=ZF c hF;refine g_ (Zn (Zm rfl (Za rfl (Ze [(4,_)] (nx (j_ ?_))))));have f:=Zj hF;subst f;refine Zr za_ [ZI b] ?_;exact⟨rfl,hB.keeps⟩
def gF_(g:b_)(d:Int)(f:Int):Option Bool:=
  (ik_ d f)>>=λa=>
  (jd_ d f)>>=λb=>
  (gg_ g.Edges ([a,b]:List Int))>>=λc=>
  some c
def tm_(w:World)(r:Bool):Ending->World->Prop:=λe w'=>e=.returned (.bool r)∧Keeps w w'
theorem oQ_(w:World)(S:List Value)(f:b_)(V:Rp.rd zt w S f)(g:Int)(i:Int)(r:Bool)(hF:gF_ f g i=some r):
    Calls wQ_ 124 #[.agg S.toArray,.int .i64 g,.int .i64 i] w (tm_ w r):=by
 unfold gF_ at hF;obtain⟨B,A,rfl,b5,W⟩:=V;have hB:Bs (λ_=>1) (col (λ_=>1)) w w:=Bs.start _ _;refine i_ (n:=17) (vs:=[.agg #[ZI f.Labels,ZI f.Degree,B,A],ZI g,ZI i]) Tryz.func124 rfl rfl ?_;refine Zq (Zo ?_);refine as_ (o:=(col (λ_=>1))) w.heap.size 11 hB.keeps.size (cs:=[ZI f.Labels,ZI f.Degree,B,A]) rfl rfl ?_;intro b6 b7 C k X;replace hB:=hB.stp X;refine Za rfl (Ze [(1,_),(2,_),(3,_)] (nx (c_ ?_)));obtain⟨a,m,hF⟩:=a_ hF;obtain⟨b,q,hF⟩:=a_ hF;refine ZW (Bf:=λT U=>Bs (λ_=>1) T w U∧Bz w 11 T U C 28 [ZI f.Labels,ZI f.Degree,B,A]) [(1,_),(2,_),(3,_)] (Zrg 7 9) [[],[0],[],[],[2,3],[],[],[5,6],[4,7]] (Zcn 9) (Zt9 9) (Zt0 9) [999] [.inl (.pointer (some ⟨C,0+3,none⟩)),.inl A,.inl (ZI g),.inl (ZI i),.inl (ZI a),.inl (ZI g),.inl (ZI i),.inl (ZI b),.inr (λv o Y=>RdL o Y v (([a,b]:Yl):Yl))] ⟨hB,k⟩ ⟨λ_ _ _ _ _ _ Z hb h hs=>h.stp hs Z.1,trivial⟩ ?_ ?_
 ·refine⟨Dp (m_ rfl wW_ rfl wZ_),Dq λh=>e_ rfl xb_ (h.2.cell rfl),Dp (h_ rfl),Dp (h_ rfl),?_,Dp (h_ rfl),Dp (h_ rfl),?_,?_,trivial⟩
  ·rintro D E a0 ha ⟨hB,k⟩-;refine Zs ha ?_;refine o_ (sh_ E g i a m) Tryz.call164 ⟨rfl,rfl,trivial⟩ ?_;rintro a1 a2 ⟨rfl,F⟩;have G:=F.stp 999 D;refine⟨_,rfl,?_⟩;exact⟨_,G,rfl⟩
  ·rintro H I a3 ha ⟨hB,k⟩-;refine Zs ha ?_;refine o_ (sA_ I g i b q) Tryz.call165 ⟨rfl,rfl,trivial⟩ ?_;rintro a4 a5 ⟨rfl,J⟩;have K:=J.stp 999 H;refine⟨_,rfl,?_⟩;exact⟨_,K,rfl⟩
  ·rintro L a6 a7 ha ⟨hB,k⟩-;refine Zs ha ?_;refine au_ (o:=L) (cs:=[ZI a,ZI b]) (xs:=([a,b]:Yl)) (vs:=[(0,ZI a),(1,ZI b)]) ⟨_,_,rfl,rfl,⟨_,_,rfl,rfl,rfl⟩⟩ rfl ⟨rfl,rfl,rfl,rfl,trivial⟩ wR_ wS_ xd_ (by decide) (fill2 rfl rfl) (by simp) ?_;intro a8 a9 b0 M N b1;exact⟨_,N,M⟩
 rintro _ rfl s u x ha ⟨hB,k⟩ ⟨d,-⟩;replace d:RdL s u (x.tmps.getD 15 undef) (([a,b]:Yl):Yl):=d;generalize O:x.tmps.getD 15 undef=b2 at d;have ha:=ha.c O;refine aH_ ha ?_;obtain⟨j,y,hF⟩:=a_ hF;refine Zo ?_;refine o_ (ky_ u _ f.Edges (W.keep hB.keeps) _ ([a,b]:Yl) d.z j y) xO_ ⟨rfl,rfl,trivial⟩ ?_;rintro b3 b4 ⟨rfl,P⟩;have Q:=P.stp 999 s;refine⟨_,rfl,?_⟩;obtain⟨d,hB⟩:=ZS Q (A2 d hB);refine Za rfl (Ze [(6,_)] (nx (j_ ?_)));have R:=Zj hF;subst R;refine Zr Tryz.results124 [.bool j] ?_;exact⟨rfl,hB.keeps⟩
def ck_(fuel:Nat)(m:List (List Int))(n:Int)(q:Int):Int->(List Int)->Unit->Option (Lp Unit Unit Bool):=λ(k:Int)(a:List Int)(s:Unit)=>
  (
    if(a.length:Int) !=n then
      some true
    else
      (bd_ fuel a)>>=λb=>
      if !b then
        some true
      else
        (ck (q-1))>>=λc=>
        (fm_ a 0 c)>>=λd=>
        if !d then
          some true
        else
          if decide (k>0) then
            (ck (k-1))>>=λf=>
            (ix m f)>>=λg=>
            (Q_ g a)>>=λi=>
            some (decide (i>=0))
          else
            some false)>>=λj=>
  if j then
    some (.ret false)
  else
    some (.go ())
def bF_(fuel:Nat)(a:List (List Int))(b:Int)(c:Int):Option Bool:=
  (forI (ck_ fuel a b c) a 0 ())>>=λd=>
  match d with
  | .inl _=>
    some true
  | .inr r'=>some r'
def fQ_(w:World)(r:Bool):Ending->World->Prop:=λe w'=>e=.returned (.bool r)∧Keeps w w'
theorem fW_(fuel:Nat)(w:World)(f:Value)(k:Yk)(U:RdL zt w f k)(q:Int)(s:Int)(r:Bool)(hF:bF_ fuel k q s=some r):
    Calls wQ_ 68 #[f,.int .i64 q,.int .i64 s] w (fQ_ w r):=by
 unfold bF_ at hF;have hB:Bs (λ_=>1) (col (λ_=>1)) w w:=Bs.start _ _;refine i_ (n:=47) (vs:=[f,ZI q,ZI s]) Tryz.func68 rfl rfl ?_;refine Zq (Za rfl (Ze [(0,_),(1,_),(2,_)] (nx (c_ (Zq (Zm rfl (Zv (B_ rfl U wV_) (Zm rfl (Ze [(0,_),(1,_),(2,_),(9,_),(10,_),(11,_)] (nx ?_))))))))));obtain⟨V,W,hF⟩:=a_ hF;refine v_ (λa x=>∃(v:Tg),V=.inl ()∧Fr a 47 []∧Bs (λ_=>1) v w x) (λa w'=>∃r',V=.inr r'∧bodyPost wQ_ Tryz.f68 (fQ_ w r') .ret a w') ?_ ?_ ?_
 ·refine f_ ?_;refine w_ (λ(K:Nat) a x=>∃(j:Int),∃(v:Tg),forI (ck_ fuel k q s) (k.drop j.toNat) j ()=some V∧(k.drop j.toNat).length=K∧0<=j∧Fr a 47 [(0,f),(1,ZI q),(2,ZI s),(9,f),(10,ZI (k.length:Int)),(11,ZI j)]∧Bs (λ_=>1) v w x) _ (λa ha=>⟨0,col (λ_=>1),W,rfl,Int.le_refl 0,ha.sb,hB⟩) ?_;rintro K8 a x ⟨j,v,b8,b9,c0,ha,hB⟩;by_cases y:j<(k.length:Int)
  ·obtain⟨z,d5,C,u,D⟩:=R_ c0 y b8;have hle:=U.len_le;dsimp only[ck_] at u;refine J_ ha ?_;refine Zq (Zv (r_ rfl rfl) (Ze [(0,_),(1,_),(2,_),(9,_),(10,_),(11,_),(12,_)] (nx (c_ ?_))));refine L_ (Zb (decide_eq_true y)) ?_;refine g_ (nx (c_ (f_ (Zq (Zm rfl (Zo ?_))))));refine wf_atZ U C hB rfl rfl wV_ wY_ ?_;intro c1 c2 c3 X Y;obtain⟨Z,rfl,A⟩:=Y;refine Zv (e_ rfl xa_ (k_ X)) (Za rfl (Za rfl (Ze [(0,_),(1,_),(2,_),(7,_),(8,_),(9,_),(10,_),(11,_)] (Zn (Zm rfl (Zv (B_ rfl A wR_) (Zm rfl (Zv (bR_ rfl rfl) (Zm rfl ?_)))))))));obtain⟨E,b,u⟩:=a_ u;refine bc_ 25 (λa0 F=>Fr a0 47 [(0,f),(1,ZI q),(2,ZI s),(9,f),(10,ZI (k.length:Int)),(11,ZI j),(45,.bool E)]∧Keeps x F) ?_ ?_;all_goals simp only[List.take_succ_cons,List.take_zero,List.drop_succ_cons,List.drop_zero]
   ·have kp:Keeps x x:=Keeps.refl _;rcases Bool.eq_false_or_eq_true ((z.length:Int) !=q) with m|m
    ·rw[if_pos m] at b;refine A_ rfl rfl (by rw[m];rfl) (by decide) ?_;refine A_ rfl rfl (by rw[m];rfl) (by decide) ?_;refine A_ rfl rfl (by rw[m];rfl) (by decide) ?_;refine Zv (P_ (Zb m) rfl) (Zm rfl ?_);refine A_ rfl rfl rfl (by decide) ?_;refine A_ rfl rfl rfl (by decide) ?_;refine A_ rfl rfl rfl (by decide) ?_;refine A_ rfl rfl rfl (by decide) ?_;refine A_ rfl rfl rfl (by decide) ?_;refine Zv (P_ rfl rfl) (Zm rfl ?_);refine A_ rfl rfl rfl (by decide) ?_;refine A_ rfl rfl rfl (by decide) ?_;refine A_ rfl rfl rfl (by decide) ?_;refine aq_ rfl rfl (by decide) ?_;refine aq_ rfl rfl (by decide) ?_;refine aq_ rfl rfl (by decide) ?_;refine aq_ rfl rfl (by decide) ?_;refine aq_ rfl rfl (by decide) ?_;refine aq_ rfl rfl (by decide) ?_;refine aq_ rfl rfl (by decide) ?_;refine aq_ rfl rfl (by decide) ?_;refine A_ rfl rfl rfl (by decide) ?_;refine Zv (P_ rfl rfl) ?_;have d:=Zj b;refine Ze [(0,_),(1,_),(2,_),(9,_),(10,_),(11,_),(45,_)] ?_;subst d;refine p_ (λa ha=>⟨ha,kp⟩)
    ·replace b:=ZF m b;refine q_ (h_ rfl) (by decide) ⟨_,rfl,Zb m⟩ ?_;obtain⟨G,H,b⟩:=a_ b;refine cJ_ (by decide) ⟨_,rfl,Zb m⟩ ?_;refine o_ (gc_ fuel x _ z (A.keep hB.keeps) G H) Tryz.call93 ⟨rfl,trivial⟩ ?_;rintro c4 a1 ⟨rfl,I⟩;have a2:=I.stp 999 v;refine⟨_,rfl,?_⟩;replace hB:=hB.stp a2;replace kp:=Keeps.trans kp I;refine q_ (aI_ rfl) (by decide) ⟨_,rfl,Zb m⟩ (Zv (I_ (Zb m) rfl) (Zm rfl ?_));rcases Bool.eq_false_or_eq_true (!G) with g|g
     ·rw[if_pos g] at b;refine A_ rfl rfl (by rw[g];rfl) (by decide) ?_;refine A_ rfl rfl (by rw[g];rfl) (by decide) ?_;refine A_ rfl rfl (by rw[g];rfl) (by decide) ?_;refine A_ rfl rfl (by rw[g];rfl) (by decide) ?_;refine A_ rfl rfl (by rw[g];rfl) (by decide) ?_;refine Zv (P_ (Zb g) rfl) (Zm rfl ?_);refine A_ rfl rfl rfl (by decide) ?_;refine A_ rfl rfl rfl (by decide) ?_;refine A_ rfl rfl rfl (by decide) ?_;refine aq_ rfl rfl (by decide) ?_;refine aq_ rfl rfl (by decide) ?_;refine aq_ rfl rfl (by decide) ?_;refine aq_ rfl rfl (by decide) ?_;refine aq_ rfl rfl (by decide) ?_;refine aq_ rfl rfl (by decide) ?_;refine aq_ rfl rfl (by decide) ?_;refine aq_ rfl rfl (by decide) ?_;refine A_ rfl rfl rfl (by decide) ?_;refine Zv (P_ rfl rfl) ?_;have d:=Zj b;refine Ze [(0,_),(1,_),(2,_),(9,_),(10,_),(11,_),(45,_)] ?_;subst d;refine p_ (λa ha=>⟨ha,kp⟩)
     ·replace b:=ZF g b;refine q_ (h_ rfl) (by decide) ⟨_,rfl,Zb g⟩ (q_ (h_ rfl) (by decide) ⟨_,rfl,Zb g⟩ ?_);obtain⟨a3,J,b⟩:=a_ b;refine q_ (bs_ rfl rfl J) (by decide) ⟨_,rfl,Zb g⟩ ?_;obtain⟨L,M,b⟩:=a_ b;refine cJ_ (by decide) ⟨_,rfl,Zb g⟩ ?_;refine o_ (nL_ a1 _ z (A.keep hB.keeps) 0 a3 L M) Tryz.call94 ⟨rfl,rfl,rfl,trivial⟩ ?_;rintro c5 a4 ⟨rfl,N⟩;have a5:=N.stp 999 v;refine⟨_,rfl,?_⟩;replace hB:=hB.stp a5;replace kp:=Keeps.trans kp N;refine q_ (aI_ rfl) (by decide) ⟨_,rfl,Zb g⟩ (Zv (I_ (Zb g) rfl) (Zm rfl ?_));rcases Bool.eq_false_or_eq_true (!L) with i|i
      ·rw[if_pos i] at b;refine A_ rfl rfl (by rw[i];rfl) (by decide) ?_;refine A_ rfl rfl (by rw[i];rfl) (by decide) ?_;refine A_ rfl rfl (by rw[i];rfl) (by decide) ?_;refine aq_ rfl rfl (by decide) ?_;refine aq_ rfl rfl (by decide) ?_;refine aq_ rfl rfl (by decide) ?_;refine aq_ rfl rfl (by decide) ?_;refine aq_ rfl rfl (by decide) ?_;refine aq_ rfl rfl (by decide) ?_;refine aq_ rfl rfl (by decide) ?_;refine aq_ rfl rfl (by decide) ?_;refine A_ rfl rfl (by rw[i];rfl) (by decide) ?_;refine Zv (P_ (Zb i) rfl) ?_;have d:=Zj b;refine Ze [(0,_),(1,_),(2,_),(9,_),(10,_),(11,_),(45,_)] ?_;subst d;refine p_ (λa ha=>⟨ha,kp⟩)
      ·replace b:=ZF i b;refine q_ (h_ rfl) (by decide) ⟨_,rfl,Zb i⟩ (q_ (eN_ rfl rfl) (by decide) ⟨_,rfl,Zb i⟩ (q_ (h_ rfl) (by decide) ⟨_,rfl,Zb i⟩ ?_));rcases Bool.eq_false_or_eq_true (decide (j>0)) with c|c
       ·rw[if_pos c] at b;refine q_ (h_ rfl) (by decide) ⟨_,rfl,Zb c⟩ (q_ (h_ rfl) (by decide) ⟨_,rfl,Zb c⟩ ?_);obtain⟨c6,O,b⟩:=a_ b;refine q_ (bs_ rfl rfl O) (by decide) ⟨_,rfl,Zb c⟩ ?_;obtain⟨a6,Q,b⟩:=a_ b;refine cJ_ (by decide) ⟨_,rfl,Zb c⟩ ?_;refine wf_atZ U Q hB rfl rfl wV_ wY_ ?_;intro c7 c8 c9 a7 a8;obtain⟨d0,rfl,a9⟩:=a8;refine q_ (e_ rfl xa_ (k_ a7)) (by decide) ⟨_,rfl,Zb c⟩ (q_ (h_ rfl) (by decide) ⟨_,rfl,Zb c⟩ ?_);obtain⟨R,S,b⟩:=a_ b;refine cJ_ (by decide) ⟨_,rfl,Zb c⟩ ?_;refine o_ (cX_slices_Compare_int_int a4 _ a6 (a9.keep hB.keeps) _ z (A.keep hB.keeps) R S) Tryz.call95 ⟨rfl,rfl,trivial⟩ ?_;rintro d1 d2 ⟨rfl,T⟩;have d3:=T.stp 999 v;refine⟨_,rfl,?_⟩;replace kp:=Keeps.trans kp T;refine q_ (lF_ rfl rfl) (by decide) ⟨_,rfl,Zb c⟩ (q_ (P_ (Zb c) rfl) (by decide) ⟨_,rfl,Zb i⟩ (Zv (I_ (Zb i) rfl) ?_));have d:=Zj b;refine Ze [(0,_),(1,_),(2,_),(9,_),(10,_),(11,_),(45,_)] ?_;subst d;refine p_ (λa ha=>⟨ha,kp⟩)
       ·replace b:=ZF c b;refine A_ rfl rfl (by rw[c];rfl) (by decide) ?_;refine A_ rfl rfl (by rw[c];rfl) (by decide) ?_;refine A_ rfl rfl (by rw[c];rfl) (by decide) ?_;refine A_ rfl rfl (by rw[c];rfl) (by decide) ?_;refine A_ rfl rfl (by rw[c];rfl) (by decide) ?_;refine A_ rfl rfl (by rw[c];rfl) (by decide) ?_;refine A_ rfl rfl (by rw[c];rfl) (by decide) ?_;refine A_ rfl rfl (by rw[c];rfl) (by decide) ?_;refine q_ (I_ (Zb c) rfl) (by decide) ⟨_,rfl,Zb i⟩ (Zv (I_ (Zb i) rfl) ?_);have d:=Zj b;refine Ze [(0,_),(1,_),(2,_),(9,_),(10,_),(11,_),(45,_)] ?_;subst d;refine p_ (λa ha=>⟨ha,kp⟩)
   rintro d4 F ⟨ha,b0⟩;have b1:=b0.stp 999 v;replace hB:=hB.stp b1;refine aH_ ha ?_;refine Ze [(0,_),(1,_),(2,_),(9,_),(10,_),(11,_),(45,_)] (nx ?_);refine l_ rfl (λB=>?_) (λB=>?_)
   ·rw[if_pos B] at u;refine Zq (Za rfl (Ze [(6,_)] (nx (j_ (W_ (y_ (y_ (W_ ?_))))))));refine bg_ ?_;have b2:=Zj u;subst b2;refine λa ha=>⟨_,D,?_⟩;refine D_ (P:=wQ_) (vs:=[.bool false]) zb_ ⟨rfl,trivial⟩ ?_ a ha;exact⟨rfl,hB.keeps⟩
   ·replace u:=ZF B u;refine g_ (x_ (nx (d_ (Zv (C_ rfl rfl (F_ (by omega) (by omega))) (Zm rfl (Ze [(0,_),(1,_),(2,_),(9,_),(10,_),(11,_)] (u_ ?_)))))));have b3:=Zj u;subst b3;refine Zk [(0,_),(1,_),(2,_),(9,_),(10,_),(11,_)] ?_;intro a ha;exact⟨_,(by rw[<-b9];simp only[List.length_drop];omega),j+1,v,D,rfl,by omega,ha,hB⟩
  ·have b4:=S_ y b8;refine J_ ha ?_;refine Zq (Zv (r_ rfl rfl) (Ze [(0,_),(1,_),(2,_),(9,_),(10,_),(11,_),(12,_)] (nx (c_ ?_))));refine G_ (Zb (decide_eq_false y)) ?_;refine s_ ?_;refine n_ (n_ (N_ ?_));refine p_ ?_;refine Zk [] ?_;intro a ha;exact⟨v,b4,ha,hB⟩
 ·rintro a x ⟨v,rfl,ha,hB⟩;dsimp only at hF;refine ap_k ha ?_;refine Zn (Za rfl (Ze [(6,_)] (nx (j_ ?_))));have b5:=Zj hF;subst b5;refine Zr zb_ [.bool true] ?_;exact⟨rfl,hB.keeps⟩
 ·rintro a x ⟨r',rfl,b6⟩;dsimp only at hF;have b7:=Zj hF;subst b7;exact b6
def db_(fuel:Nat)(a:b_):Option Bool:=
  (dT_ a.Labels 1 8)>>=λb=>
  (
    if b then
      (dT_ a.Degree 1 4)>>=λc=>
      if c then
        (bF_ fuel a.Nodes a.Degree a.Labels)>>=λd=>
        if d then
          (bF_ fuel a.Edges 2 a.Labels)>>=λf=>
          some f
        else
          some false
      else
        some false
    else
      some false)>>=λg=>
  some g
def oF_(w:World)(r:Bool):Ending->World->Prop:=λe w'=>e=.returned (.bool r)∧Keeps w w'
theorem fn_(fuel:Nat)(w:World)(Q:List Value)(i:b_)(T:Rp.rd zt w Q i)(r:Bool)(hF:db_ fuel i=some r):
    Calls wQ_ 43 #[.agg Q.toArray] w (oF_ w r):=by
 unfold db_ at hF;obtain⟨R,S,rfl,U,V⟩:=T;have hB:Bs (λ_=>1) (col (λ_=>1)) w w:=Bs.start _ _;refine i_ (n:=27) (vs:=[.agg #[ZI i.Labels,ZI i.Degree,R,S]]) Tryz.func43 rfl rfl ?_;refine Zq (Zo ?_);refine as_ (o:=(col (λ_=>1))) w.heap.size 11 hB.keeps.size (cs:=[ZI i.Labels,ZI i.Degree,R,S]) rfl rfl ?_;intro q W X j Y;replace hB:=hB.stp Y;refine Za rfl (Ze [(1,_)] (Zn (Zv (m_ rfl wW_ rfl wS_) (Zv (e_ rfl wT_ (j.cell rfl)) ?_))));obtain⟨s,u,hF⟩:=a_ hF;refine Zo ?_;refine o_ (gy_ W i.Labels 1 8 s u) xx_ ⟨rfl,rfl,rfl,trivial⟩ ?_;rintro Z k ⟨rfl,G⟩;have H:=G.stp 999 q;refine⟨_,rfl,?_⟩;obtain⟨j,hB⟩:=ZS H (A2 j hB);refine Zm rfl ?_;obtain⟨m,b,hF⟩:=a_ hF;refine bc_ 20 (λI v=>Fr I 27 [(26,.bool m)]∧Keeps k v) ?_ ?_;all_goals simp only[List.take_succ_cons,List.take_zero,List.drop_succ_cons,List.drop_zero]
 ·have kp:Keeps k k:=Keeps.refl _;rcases Bool.eq_false_or_eq_true (s) with g|g
  ·rw[if_pos g] at b;refine q_ (m_ rfl wW_ rfl wS_) (by decide) ⟨_,rfl,Zb g⟩ (q_ (e_ rfl wT_ (j.cell rfl)) (by decide) ⟨_,rfl,Zb g⟩ ?_);obtain⟨x,y,b⟩:=a_ b;refine cJ_ (by decide) ⟨_,rfl,Zb g⟩ ?_;refine o_ (gy_ k i.Degree 1 4 x y) xx_ ⟨rfl,rfl,rfl,trivial⟩ ?_;rintro a0 J ⟨rfl,z⟩;have K:=z.stp 999 q;refine⟨_,rfl,?_⟩;obtain⟨j,hB⟩:=ZS K (A2 j hB);replace kp:=Keeps.trans kp z;refine Zv (P_ (Zb g) rfl) (Zm rfl ?_);rcases Bool.eq_false_or_eq_true (x) with c|c
   ·rw[if_pos c] at b;refine q_ (m_ rfl wW_ rfl wZ_) (by decide) ⟨_,rfl,Zb c⟩ (q_ (e_ rfl xb_ (j.cell rfl)) (by decide) ⟨_,rfl,Zb c⟩ (q_ (m_ rfl wW_ rfl wS_) (by decide) ⟨_,rfl,Zb c⟩ (q_ (e_ rfl wT_ (j.cell rfl)) (by decide) ⟨_,rfl,Zb c⟩ (q_ (m_ rfl wW_ rfl wS_) (by decide) ⟨_,rfl,Zb c⟩ (q_ (e_ rfl wT_ (j.cell rfl)) (by decide) ⟨_,rfl,Zb c⟩ ?_)))));obtain⟨A,B,b⟩:=a_ b;refine cJ_ (by decide) ⟨_,rfl,Zb c⟩ ?_;refine o_ (fW_ fuel J _ i.Nodes (U.keep hB.keeps) i.Degree i.Labels A B) zc_ ⟨rfl,rfl,rfl,trivial⟩ ?_;rintro a1 L ⟨rfl,C⟩;have M:=C.stp 999 q;refine⟨_,rfl,?_⟩;obtain⟨j,hB⟩:=ZS M (A2 j hB);replace kp:=Keeps.trans kp C;refine Zv (P_ (Zb c) rfl) (Zm rfl ?_);rcases Bool.eq_false_or_eq_true (A) with d|d
    ·rw[if_pos d] at b;refine q_ (m_ rfl wW_ rfl wZ_) (by decide) ⟨_,rfl,Zb d⟩ (q_ (e_ rfl xb_ (j.cell rfl)) (by decide) ⟨_,rfl,Zb d⟩ (q_ (m_ rfl wW_ rfl wS_) (by decide) ⟨_,rfl,Zb d⟩ (q_ (e_ rfl wT_ (j.cell rfl)) (by decide) ⟨_,rfl,Zb d⟩ ?_)));obtain⟨D,E,b⟩:=a_ b;refine cJ_ (by decide) ⟨_,rfl,Zb d⟩ ?_;refine o_ (fW_ fuel L _ i.Edges (V.keep hB.keeps) 2 i.Labels D E) zc_ ⟨rfl,rfl,rfl,trivial⟩ ?_;rintro a2 a3 ⟨rfl,F⟩;have a4:=F.stp 999 q;refine⟨_,rfl,?_⟩;replace kp:=Keeps.trans kp F;refine Zv (P_ (Zb d) rfl) ?_;have f:=Zj b;refine Ze [(26,_)] ?_;subst f;refine p_ (λa ha=>⟨ha,kp⟩)
    ·replace b:=ZF d b;refine A_ rfl rfl (by rw[d];rfl) (by decide) ?_;refine A_ rfl rfl (by rw[d];rfl) (by decide) ?_;refine A_ rfl rfl (by rw[d];rfl) (by decide) ?_;refine A_ rfl rfl (by rw[d];rfl) (by decide) ?_;refine A_ rfl rfl (by rw[d];rfl) (by decide) ?_;refine Zv (I_ (Zb d) rfl) ?_;have f:=Zj b;refine Ze [(26,_)] ?_;subst f;refine p_ (λa ha=>⟨ha,kp⟩)
   ·replace b:=ZF c b;refine A_ rfl rfl (by rw[c];rfl) (by decide) ?_;refine A_ rfl rfl (by rw[c];rfl) (by decide) ?_;refine A_ rfl rfl (by rw[c];rfl) (by decide) ?_;refine A_ rfl rfl (by rw[c];rfl) (by decide) ?_;refine A_ rfl rfl (by rw[c];rfl) (by decide) ?_;refine A_ rfl rfl (by rw[c];rfl) (by decide) ?_;refine A_ rfl rfl (by rw[c];rfl) (by decide) ?_;refine Zv (I_ (Zb c) rfl) (Zm rfl ?_);refine A_ rfl rfl rfl (by decide) ?_;refine A_ rfl rfl rfl (by decide) ?_;refine A_ rfl rfl rfl (by decide) ?_;refine A_ rfl rfl rfl (by decide) ?_;refine A_ rfl rfl rfl (by decide) ?_;refine Zv (I_ rfl rfl) ?_;have f:=Zj b;refine Ze [(26,_)] ?_;subst f;refine p_ (λa ha=>⟨ha,kp⟩)
  ·replace b:=ZF g b;refine A_ rfl rfl (by rw[g];rfl) (by decide) ?_;refine A_ rfl rfl (by rw[g];rfl) (by decide) ?_;refine A_ rfl rfl (by rw[g];rfl) (by decide) ?_;refine Zv (I_ (Zb g) rfl) (Zm rfl ?_);refine A_ rfl rfl rfl (by decide) ?_;refine A_ rfl rfl rfl (by decide) ?_;refine A_ rfl rfl rfl (by decide) ?_;refine A_ rfl rfl rfl (by decide) ?_;refine A_ rfl rfl rfl (by decide) ?_;refine A_ rfl rfl rfl (by decide) ?_;refine A_ rfl rfl rfl (by decide) ?_;refine Zv (I_ rfl rfl) (Zm rfl ?_);refine A_ rfl rfl rfl (by decide) ?_;refine A_ rfl rfl rfl (by decide) ?_;refine A_ rfl rfl rfl (by decide) ?_;refine A_ rfl rfl rfl (by decide) ?_;refine A_ rfl rfl rfl (by decide) ?_;refine Zv (I_ rfl rfl) ?_;have f:=Zj b;refine Ze [(26,_)] ?_;subst f;refine p_ (λa ha=>⟨ha,kp⟩)
 rintro a5 v ⟨ha,N⟩;have O:=N.stp 999 q;replace hB:=hB.stp O;refine aH_ ha ?_;refine Za rfl (Ze [(2,_)] (nx (j_ ?_)));have P:=Zj hF;subst P;refine Zr Tryz.results43 [.bool m] ?_;exact⟨rfl,hB.keeps⟩
def cW_(fuel:Nat)(b:b_)(c:List Int):Option Bool:=
  (bn_ fuel b.Nodes c)>>=λa=>
  some a
def kN_(w:World)(r:Bool):Ending->World->Prop:=λe w'=>e=.returned (.bool r)∧Keeps w w'
theorem hT_(fuel:Nat)(w:World)(k:List Value)(a:b_)(s:Rp.rd zt w k a)(d:Value)(f:Yl)(u:RdL zt w d f)(r:Bool)(hF:cW_ fuel a f=some r):
    Calls wQ_ 150 #[.agg k.toArray,d] w (kN_ w r):=by
 unfold cW_ at hF;obtain⟨m,q,rfl,v,E⟩:=s;have hB:Bs (λ_=>1) (col (λ_=>1)) w w:=Bs.start _ _;refine i_ (n:=9) (vs:=[.agg #[ZI a.Labels,ZI a.Degree,m,q],d]) Tryz.func150 rfl rfl ?_;refine Zq (Zo ?_);refine as_ (o:=(col (λ_=>1))) w.heap.size 11 hB.keeps.size (cs:=[ZI a.Labels,ZI a.Degree,m,q]) rfl rfl ?_;intro x y z A B;replace hB:=hB.stp B;refine Za rfl (Ze [(1,_),(2,_)] (Zn (Zv (m_ rfl wW_ rfl wZ_) (Zv (e_ rfl xb_ (A.cell rfl)) (Zm rfl ?_)))));obtain⟨b,c,hF⟩:=a_ hF;refine Zo ?_;refine o_ (ea_ fuel y _ a.Nodes (v.keep hB.keeps) _ f (u.keep hB.keeps) b c) yd_ ⟨rfl,rfl,trivial⟩ ?_;rintro C D ⟨rfl,g⟩;have i:=g.stp 999 x;refine⟨_,rfl,?_⟩;replace hB:=hB.stp i;refine Za rfl (Ze [(4,_)] (nx (j_ ?_)));have j:=Zj hF;subst j;refine Zr Tryz.results150 [.bool b] ?_;exact⟨rfl,hB.keeps⟩
def cU_(fuel:Nat)(b:b_)(c:Int)(d:Int):Option Bool:=
  (bn_ fuel b.Edges ([c,d]:List Int))>>=λa=>
  some a
def kK_(w:World)(r:Bool):Ending->World->Prop:=λe w'=>e=.returned (.bool r)∧Keeps w w'
theorem hM_(fuel:Nat)(w:World)(u:List Value)(c:b_)(y:Rp.rd zt w u c)(a:Int)(b:Int)(r:Bool)(hF:cU_ fuel c a b=some r):
    Calls wQ_ 125 #[.agg u.toArray,.int .i64 a,.int .i64 b] w (kK_ w r):=by
 unfold cU_ at hF;obtain⟨v,x,rfl,J,A⟩:=y;have hB:Bs (λ_=>1) (col (λ_=>1)) w w:=Bs.start _ _;refine i_ (n:=13) (vs:=[.agg #[ZI c.Labels,ZI c.Degree,v,x],ZI a,ZI b]) Tryz.func125 rfl rfl ?_;refine Zq (Zo ?_);refine as_ (o:=(col (λ_=>1))) w.heap.size 11 hB.keeps.size (cs:=[ZI c.Labels,ZI c.Degree,v,x]) rfl rfl ?_;intro B K C D E;replace hB:=hB.stp E;refine Za rfl (Ze [(1,_),(2,_),(3,_)] (Zn (Zv (m_ rfl wW_ rfl wZ_) (Zv (e_ rfl xb_ (D.cell rfl)) (Zm rfl (Zm rfl (Zo ?_)))))));refine au_ (o:=B) (cs:=[ZI a,ZI b]) (xs:=([a,b]:Yl)) (vs:=[(0,ZI a),(1,ZI b)]) ⟨_,_,rfl,rfl,⟨_,_,rfl,rfl,rfl⟩⟩ rfl ⟨rfl,rfl,rfl,rfl,trivial⟩ wR_ wS_ xd_ (by decide) (fill2 rfl rfl) (by simp) ?_;intro g i F j k G;replace hB:=hB.stp k;obtain⟨d,f,hF⟩:=a_ hF;refine Zo ?_;refine o_ (ea_ fuel i _ c.Edges (A.keep hB.keeps) _ ([a,b]:Yl) j.z d f) yd_ ⟨rfl,rfl,trivial⟩ ?_;rintro H I ⟨rfl,m⟩;have q:=m.stp 999 g;refine⟨_,rfl,?_⟩;replace hB:=hB.stp q;refine Za rfl (Ze [(6,_)] (nx (j_ ?_)));have s:=Zj hF;subst s;refine Zr Tryz.results125 [.bool d] ?_;exact⟨rfl,hB.keeps⟩
end
end Go.Proofs.YtdbbeldgdgonfaaGreat
