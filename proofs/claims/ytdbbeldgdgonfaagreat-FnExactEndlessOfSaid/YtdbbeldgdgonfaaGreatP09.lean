/- Part 9 of what this claim rests on (GR), packed by pack.py. -/
import Derived.Test.YtdbbeldgdgonfaaGreatP03
import Derived.Test.YtdbbeldgdgonfaaGreatP04
import Derived.Test.YtdbbeldgdgonfaaGreatP07
namespace Go.Proofs.YtdbbeldgdgonfaaGreat
open Tryz renaming prog→tX_, underlying22→ub_, sizeOf41→uf_, isAgg41→ug_, underlying41→tY_, results73→uR_, sizeOf3→tZ_, isAgg3→ua_, underlying28→ud_, call40→uF_, sizeOf22→ui_, isAgg22→uj_, call73→vK_, results120→vM_, call120→uI_, results165→vN_, zeroValue3→uh_, results68→vO_, call62→uB_, call68→vP_, call162→uS_
set_option linter.unusedSimpArgs false
set_option linter.unusedVariables false
section
set_option maxRecDepth 100000
set_option maxHeartbeats 2000000
open Go.RowKit
def bw_(g:Int)(a:List Int):Int->Option (Lp Int Int Bool):=λ(s:Int)=>
  if decide (s<g) then
    (ck (s-1))>>=λc=>
    (ix a c)>>=λd=>
    (ix a s)>>=λf=>
    if decide (d>f) then
      some (.ret false)
    else
      (ck (s+1))>>=λb=>
      some (.go b)
  else
    some (.out s)
def eO_(fuel:Nat)(n:List (List Int))(k:Int)(q:Int):Int->(List Int)->Unit->Option (Lp Unit Unit Bool):=λ(m:Int)(a:List Int)(s:Unit)=>
  (
    if(a.length:Int) !=k then
      some true
    else
      (ck (q-1))>>=λb=>
      (hR_ a 0 b)>>=λc=>
      if !c then
        some true
      else
        if decide (m>0) then
          (ck (m-1))>>=λd=>
          (ix n d)>>=λf=>
          (em_ f a)>>=λg=>
          some (decide (g>=0))
        else
          some false)>>=λi=>
  if i then
    some (.ret false)
  else
    (loopF (bw_ k a) fuel 1)>>=λj=>
    match j with
    | .inl u=>
      some (.go ())
    | .inr r'=>some (.ret r')
def eU_(fuel:Nat)(a:List (List Int))(b:Int)(c:Int):Option Bool:=
  (forI (eO_ fuel a b c) a 0 ())>>=λd=>
  match d with
  | .inl _=>
    some true
  | .inr r'=>some r'
def iz_(w:World)(r:Bool):Ending->World->Prop:=λe w'=>e=.returned (.bool r)∧Keeps w w'
theorem kJ_(fuel:Nat)(w:World)(d:Value)(k:Yk)(c5:RdL zt w d k)(m:Int)(x:Int)(r:Bool)(hF:eU_ fuel k m x=some r):
    Calls tX_ 73 #[d,.int .i64 m,.int .i64 x] w (iz_ w r):=by
 unfold eU_ at hF;have hB:Bs (λ_=>1) (col (λ_=>1)) w w:=Bs.start _ _;refine j_ (n:=58) (vs:=[d,ZI m,ZI x]) Tryz.func73 rfl rfl ?_;refine Zq (Za rfl (Ze [(0,_),(1,_),(2,_)] (nx (b_ (Zq (Zm rfl (Zv (J_ rfl c5 ub_) (Zm rfl (Ze [(0,_),(1,_),(2,_),(10,_),(11,_),(12,_)] (nx ?_))))))))));obtain⟨c6,c7,hF⟩:=a_ hF;refine A_ (λa G=>∃(H:Tg),c6=.inl ()∧Fr a 58 []∧Bs (λ_=>1) H w G) (λa w'=>∃r',c6=.inr r'∧bodyPost tX_ Tryz.f73 (iz_ w r') .ret a w') ?_ ?_ ?_
 ·refine f_ ?_;refine z_ (λ(K:Nat) a G=>∃(j:Int)(H:Tg),forI (eO_ fuel k m x) (k.drop j.toNat) j ()=some c6∧(k.drop j.toNat).length=K∧0<=j∧Fr a 58 [(0,d),(1,ZI m),(2,ZI x),(10,d),(11,ZI (k.length:Int)),(12,ZI j)]∧Bs (λ_=>1) H w G) _ (λa ha=>⟨0,col (λ_=>1),c7,rfl,Int.le_refl 0,ha.sb,hB⟩) ?_;rintro K8 a G ⟨j,H,e6,f7,f8,ha,hB⟩;by_cases I:j<(k.length:Int)
  ·obtain⟨C,i6,T,z,M⟩:=R_ f8 I e6;have hle:=c5.len_le;dsimp only[eO_] at z;refine O_ ha ?_;refine Zq (Zv (u_ rfl rfl) (Ze [(0,_),(1,_),(2,_),(10,_),(11,_),(12,_),(13,_)] (nx (b_ ?_))));refine M_ (Zb (decide_eq_true I)) ?_;refine h_ (nx (b_ (f_ (Zq (Zm rfl (Zo ?_))))));refine wf_atZ c5 T hB rfl rfl ub_ uf_ ?_;intro f9 g0 g1 c8 c9;obtain⟨g,rfl,A⟩:=c9;refine Zv (e_ rfl ug_ (i_ c8)) (Za rfl (Za rfl (Ze [(0,_),(1,_),(2,_),(7,_),(8,_),(10,_),(11,_),(12,_)] (nx (b_ (Zq (Zm rfl (Zv (J_ rfl A tY_) (Zm rfl (Zv (dw_ rfl rfl) (Zm rfl ?_)))))))))));obtain⟨U,b,z⟩:=a_ z;refine aF_ 20 (λd0 V=>Fr d0 58 [(0,d),(1,ZI m),(2,ZI x),(8,g),(10,d),(11,ZI (k.length:Int)),(12,ZI j),(41,.bool U)]∧Keeps G V) ?_ ?_;all_goals simp only[List.take_succ_cons,List.take_zero,List.drop_succ_cons,List.drop_zero]
   ·have kp:Keeps G G:=Keeps.refl _;rcases Bool.eq_false_or_eq_true ((C.length:Int) !=m) with q|q
    ·rw[if_pos q] at b;refine v_ rfl rfl (by rw[q];rfl) (by decide) ?_;refine v_ rfl rfl (by rw[q];rfl) (by decide) ?_;refine v_ rfl rfl (by rw[q];rfl) (by decide) ?_;refine v_ rfl rfl (by rw[q];rfl) (by decide) ?_;refine v_ rfl rfl (by rw[q];rfl) (by decide) ?_;refine Zv (L_ (Zb q) rfl) (Zm rfl ?_);refine v_ rfl rfl rfl (by decide) ?_;refine v_ rfl rfl rfl (by decide) ?_;refine v_ rfl rfl rfl (by decide) ?_;refine ak_ rfl rfl (by decide) ?_;refine ak_ rfl rfl (by decide) ?_;refine ak_ rfl rfl (by decide) ?_;refine ak_ rfl rfl (by decide) ?_;refine ak_ rfl rfl (by decide) ?_;refine ak_ rfl rfl (by decide) ?_;refine ak_ rfl rfl (by decide) ?_;refine ak_ rfl rfl (by decide) ?_;refine v_ rfl rfl rfl (by decide) ?_;refine Zv (L_ rfl rfl) ?_;have s:=Zj b;refine Ze [(0,_),(1,_),(2,_),(8,_),(10,_),(11,_),(12,_),(41,_)] ?_;subst s;refine s_ (λa ha=>⟨ha,kp⟩)
    ·replace b:=ZF q b;refine q_ (g_ rfl) (by decide) ⟨_,rfl,Zb q⟩ (q_ (g_ rfl) (by decide) ⟨_,rfl,Zb q⟩ ?_);obtain⟨d1,W,b⟩:=a_ b;refine q_ (bE_ rfl rfl W) (by decide) ⟨_,rfl,Zb q⟩ ?_;obtain⟨X,Y,b⟩:=a_ b;refine ct_ (by decide) ⟨_,rfl,Zb q⟩ ?_;refine o_ (rO_ G _ C (A.keep hB.keeps) 0 d1 X Y) Tryz.call106 ⟨rfl,rfl,rfl,trivial⟩ ?_;rintro g2 d2 ⟨rfl,Z⟩;have d3:=Z.stp 999 H;refine⟨_,rfl,?_⟩;replace hB:=hB.stp d3;replace kp:=Keeps.trans kp Z;refine q_ (bo_ rfl) (by decide) ⟨_,rfl,Zb q⟩ (Zv (G_ (Zb q) rfl) (Zm rfl ?_));rcases Bool.eq_false_or_eq_true (!X) with u|u
     ·rw[if_pos u] at b;refine v_ rfl rfl (by rw[u];rfl) (by decide) ?_;refine v_ rfl rfl (by rw[u];rfl) (by decide) ?_;refine v_ rfl rfl (by rw[u];rfl) (by decide) ?_;refine ak_ rfl rfl (by decide) ?_;refine ak_ rfl rfl (by decide) ?_;refine ak_ rfl rfl (by decide) ?_;refine ak_ rfl rfl (by decide) ?_;refine ak_ rfl rfl (by decide) ?_;refine ak_ rfl rfl (by decide) ?_;refine ak_ rfl rfl (by decide) ?_;refine ak_ rfl rfl (by decide) ?_;refine v_ rfl rfl (by rw[u];rfl) (by decide) ?_;refine Zv (L_ (Zb u) rfl) ?_;have s:=Zj b;refine Ze [(0,_),(1,_),(2,_),(8,_),(10,_),(11,_),(12,_),(41,_)] ?_;subst s;refine s_ (λa ha=>⟨ha,kp⟩)
     ·replace b:=ZF u b;refine q_ (g_ rfl) (by decide) ⟨_,rfl,Zb u⟩ (q_ (ef_ rfl rfl) (by decide) ⟨_,rfl,Zb u⟩ (q_ (g_ rfl) (by decide) ⟨_,rfl,Zb u⟩ ?_));rcases Bool.eq_false_or_eq_true (decide (j>0)) with f|f
      ·rw[if_pos f] at b;refine q_ (g_ rfl) (by decide) ⟨_,rfl,Zb f⟩ (q_ (g_ rfl) (by decide) ⟨_,rfl,Zb f⟩ ?_);obtain⟨g3,a0,b⟩:=a_ b;refine q_ (bE_ rfl rfl a0) (by decide) ⟨_,rfl,Zb f⟩ ?_;obtain⟨d4,a1,b⟩:=a_ b;refine ct_ (by decide) ⟨_,rfl,Zb f⟩ ?_;refine wf_atZ c5 a1 hB rfl rfl ub_ uf_ ?_;intro g4 g5 g6 d5 d6;obtain⟨g7,rfl,d7⟩:=d6;refine q_ (e_ rfl ug_ (i_ d5)) (by decide) ⟨_,rfl,Zb f⟩ (q_ (g_ rfl) (by decide) ⟨_,rfl,Zb f⟩ ?_);obtain⟨a2,a3,b⟩:=a_ b;refine ct_ (by decide) ⟨_,rfl,Zb f⟩ ?_;refine o_ (kS_ d2 _ d4 (d7.keep hB.keeps) _ C (A.keep hB.keeps) a2 a3) Tryz.call107 ⟨rfl,rfl,trivial⟩ ?_;rintro g8 g9 ⟨rfl,a4⟩;have h0:=a4.stp 999 H;refine⟨_,rfl,?_⟩;replace kp:=Keeps.trans kp a4;refine q_ (lc_ rfl rfl) (by decide) ⟨_,rfl,Zb f⟩ (q_ (L_ (Zb f) rfl) (by decide) ⟨_,rfl,Zb u⟩ (Zv (G_ (Zb u) rfl) ?_));have s:=Zj b;refine Ze [(0,_),(1,_),(2,_),(8,_),(10,_),(11,_),(12,_),(41,_)] ?_;subst s;refine s_ (λa ha=>⟨ha,kp⟩)
      ·replace b:=ZF f b;refine v_ rfl rfl (by rw[f];rfl) (by decide) ?_;refine v_ rfl rfl (by rw[f];rfl) (by decide) ?_;refine v_ rfl rfl (by rw[f];rfl) (by decide) ?_;refine v_ rfl rfl (by rw[f];rfl) (by decide) ?_;refine v_ rfl rfl (by rw[f];rfl) (by decide) ?_;refine v_ rfl rfl (by rw[f];rfl) (by decide) ?_;refine v_ rfl rfl (by rw[f];rfl) (by decide) ?_;refine v_ rfl rfl (by rw[f];rfl) (by decide) ?_;refine q_ (G_ (Zb f) rfl) (by decide) ⟨_,rfl,Zb u⟩ (Zv (G_ (Zb u) rfl) ?_);have s:=Zj b;refine Ze [(0,_),(1,_),(2,_),(8,_),(10,_),(11,_),(12,_),(41,_)] ?_;subst s;refine s_ (λa ha=>⟨ha,kp⟩)
   rintro h1 V ⟨ha,d8⟩;have d9:=d8.stp 999 H;replace hB:=hB.stp d9;refine aS_ ha ?_;refine Ze [(0,_),(1,_),(2,_),(8,_),(10,_),(11,_),(12,_),(41,_)] (nx ?_);refine p_ rfl (λN=>?_) (λN=>?_)
   ·rw[if_pos N] at z;refine Zq (Za rfl (Ze [(6,_)] (nx (n_ (I_ (aq_ (I_ (I_ (aq_ ?_)))))))));refine cK_ ?_;have e0:=Zj z;subst e0;refine λa ha=>⟨_,M,?_⟩;refine N_ (P:=tX_) (vs:=[.bool false]) uR_ ⟨rfl,trivial⟩ ?_ a ha;exact⟨rfl,hB.keeps⟩
   ·replace z:=ZF N z;refine h_ (Zn (Za rfl (Ze [(0,_),(1,_),(2,_),(8,_),(9,_),(10,_),(11,_),(12,_)] (nx ?_))));obtain⟨O,a5,z⟩:=a_ z;refine A_ (λa D=>∃(y:Int)(B:Tg),O=.inl y∧Fr a 58 [(0,d),(1,ZI m),(2,ZI x),(10,d),(11,ZI (k.length:Int)),(12,ZI j)]∧Bs (λ_=>1) B w D) (λa w'=>∃r',O=.inr r'∧bodyPost tX_ Tryz.f73 (iz_ w r') .ret a w') ?_ ?_ ?_
    ·refine f_ ?_;refine z_ (λ(K:Nat) a D=>∃(y:Int)(B:Tg),loopF (bw_ m C) K y=some O∧Fr a 58 [(0,d),(1,ZI m),(2,ZI x),(8,g),(9,ZI y),(10,d),(11,ZI (k.length:Int)),(12,ZI j)]∧Bs (λ_=>1) B w D) fuel (λa ha=>⟨1,H,a5,ha.sb,hB⟩) ?_;rintro K61 a D ⟨y,B,e1,ha,hB⟩;obtain⟨K65,h2,h3,i,Q⟩:=ad_ e1;dsimp only[bw_] at i;refine O_ ha ?_;refine b_ (Zq (Zm rfl (Zm rfl (Zv (u_ rfl rfl) (Ze [(0,_),(1,_),(2,_),(8,_),(9,_),(10,_),(11,_),(12,_),(44,_)] (nx ?_))))));refine p_ rfl (λR=>?_) (λR=>?_)
     ·rw[if_pos R] at i;refine h_ (nx (b_ (f_ (b_ ?_))));obtain⟨a6,a7,i⟩:=a_ i;obtain⟨a8,J,i⟩:=a_ i;obtain⟨a9,L,i⟩:=a_ i;refine ZW (Bf:=λh4 h5=>Bs (λ_=>1) h4 w h5) [(0,_),(1,_),(2,_),(8,_),(9,_),(10,_),(11,_),(12,_)] (Zrg 47 9) [[],[],[1],[0,2],[3],[],[],[5,6],[7]] (Zcn 9) (Zt9 9) (Zt0 9) [999] [.inl g,.inl (ZI y),.inl (ZI a6),.inr (λv o h6=>∃vl,v=adr vl (a6.toNat*Rp.sz Int)∧RdL zt w vl C),.inl (ZI a8),.inl g,.inl (ZI y),.inr (λv o h6=>∃vl,v=adr vl (y.toNat*Rp.sz Int)∧RdL zt w vl C),.inl (ZI a9)] hB ⟨λ_ _ _ _ _ _ h7 hb ⟨vl,e,h⟩ hs=>⟨vl,e,h⟩,λ_ _ _ _ _ _ h7 hb ⟨vl,e,h⟩ hs=>⟨vl,e,h⟩,trivial⟩ ?_ ?_
      ·refine⟨Dp (g_ rfl),Dp (g_ rfl),Dp (bE_ rfl rfl a7),?_,?_,Dp (g_ rfl),Dp (g_ rfl),?_,?_,trivial⟩
       ·rintro h8 h9 i0 ha hB-;refine Zs ha ?_;refine an_ A J rfl rfl tY_ tZ_ ?_;exact⟨_,Stp.refl _ _ _,⟨_,rfl,A⟩⟩
       ·rintro i1 i2 i3 ha hB ⟨e2,-⟩;obtain⟨i4,e3,e4⟩:=e2;have ha:=ha.c e3;refine Zs ha ?_;refine cm_ e4 J hB rfl rfl ua_ ?_;intro i5 e5;cases e5
        exact Zx rfl
       ·rintro e7 e8 e9 ha hB-;refine Zs ha ?_;refine an_ A L rfl rfl tY_ tZ_ ?_;exact⟨_,Stp.refl _ _ _,⟨_,rfl,A⟩⟩
       ·rintro f0 f1 f2 ha hB ⟨b0,-⟩;obtain⟨f3,b1,b2⟩:=b0;have ha:=ha.c b1;refine Zs ha ?_;refine cm_ b2 L hB rfl rfl ua_ ?_;intro f4 b3;cases b3
        exact Zx rfl
      rintro _ rfl b4 f5 f6 ha hB-;refine aS_ ha ?_;refine Zv (ef_ rfl rfl) (Ze [(0,_),(1,_),(2,_),(8,_),(9,_),(10,_),(11,_),(12,_),(56,_)] (nx ?_));refine p_ rfl (λE=>?_) (λE=>?_)
      ·rw[if_pos E] at i;refine Zq (Za rfl (Ze [(6,_)] (nx (n_ (aq_ (I_ (I_ (aq_ ?_))))))));refine cK_ ?_;have b5:=Zj i;subst b5;refine λa ha=>⟨_,Q,?_⟩;refine N_ (P:=tX_) (vs:=[.bool false]) uR_ ⟨rfl,trivial⟩ ?_ a ha;exact⟨rfl,hB.keeps⟩
      ·replace i:=ZF E i;refine h_ (y_ (nx (d_ (Zm rfl ?_))));obtain⟨F,S,i⟩:=a_ i;refine Zv (C_ rfl rfl S) (Za rfl (Ze [(0,_),(1,_),(2,_),(8,_),(9,_),(10,_),(11,_),(12,_)] (x_ ?_)));have b6:=Zj i;subst b6;refine Zk [(0,_),(1,_),(2,_),(8,_),(9,_),(10,_),(11,_),(12,_)] ?_;intro a ha;exact⟨K65,by omega,F,b4,Q,ha,hB⟩
     ·replace i:=ZF R i;refine w_ ?_;refine m_ (m_ (Q_ ?_));refine s_ ?_;have b7:=Zj i;subst b7;refine Zk [(0,_),(1,_),(2,_),(10,_),(11,_),(12,_)] ?_;intro a ha;exact⟨y,B,Q,ha,hB⟩
    ·rintro a D ⟨y,B,rfl,ha,hB⟩;dsimp only at z;refine ap_k ha ?_;refine y_ (nx (d_ (Zv (C_ rfl rfl (F_ (by omega) (by omega))) (Zm rfl (Ze [(0,_),(1,_),(2,_),(10,_),(11,_),(12,_)] (x_ ?_))))));have b8:=Zj z;subst b8;refine Zk [(0,_),(1,_),(2,_),(10,_),(11,_),(12,_)] ?_;intro a ha;exact⟨_,(by rw[<-f7];simp only[List.length_drop];omega),j+1,B,M,rfl,by omega,ha,hB⟩
    ·rintro a D ⟨r',rfl,b9⟩;dsimp only at z;have c0:=Zj z;subst c0;exact⟨_,M,b9⟩
  ·have c1:=S_ I e6;refine O_ ha ?_;refine Zq (Zv (u_ rfl rfl) (Ze [(0,_),(1,_),(2,_),(10,_),(11,_),(12,_),(13,_)] (nx (b_ ?_))));refine D_ (Zb (decide_eq_false I)) ?_;refine w_ ?_;refine m_ (m_ (Q_ ?_));refine s_ ?_;refine Zk [] ?_;intro a ha;exact⟨H,c1,ha,hB⟩
 ·rintro a G ⟨H,rfl,ha,hB⟩;dsimp only at hF;refine ap_k ha ?_;refine Zn (Za rfl (Ze [(6,_)] (nx (n_ ?_))));have c2:=Zj hF;subst c2;refine Zr uR_ [.bool true] ?_;exact⟨rfl,hB.keeps⟩
 ·rintro a G ⟨r',rfl,c3⟩;dsimp only at hF;have c4:=Zj hF;subst c4;exact c3
def ey_(fuel:Nat)(a:c_):Option Bool:=
  (gR_ a.Labels 1 8)>>=λb=>
  (
    if b then
      (gR_ a.Degree 1 4)>>=λc=>
      if c then
        (eU_ fuel a.Nodes a.Degree a.Labels)>>=λd=>
        if d then
          (eU_ fuel a.Edges 2 a.Labels)>>=λf=>
          some f
        else
          some false
      else
        some false
    else
      some false)>>=λg=>
  some g
def rG_(w:World)(r:Bool):Ending->World->Prop:=λe w'=>e=.returned (.bool r)∧Keeps w w'
theorem ic_(fuel:Nat)(w:World)(Q:List Value)(i:c_)(T:Rp.rd zt w Q i)(r:Bool)(hF:ey_ fuel i=some r):
    Calls tX_ 47 #[.agg Q.toArray] w (rG_ w r):=by
 unfold ey_ at hF;obtain⟨R,S,rfl,U,V⟩:=T;have hB:Bs (λ_=>1) (col (λ_=>1)) w w:=Bs.start _ _;refine j_ (n:=27) (vs:=[.agg #[ZI i.Labels,ZI i.Degree,R,S]]) Tryz.func47 rfl rfl ?_;refine Zq (Zo ?_);refine aD_ (o:=(col (λ_=>1))) w.heap.size 11 hB.keeps.size (cs:=[ZI i.Labels,ZI i.Degree,R,S]) rfl rfl ?_;intro q W X j Y;replace hB:=hB.stp Y;refine Za rfl (Ze [(1,_)] (Zn (Zv (r_ rfl ud_ rfl tZ_) (Zv (e_ rfl ua_ (j.cell rfl)) ?_))));obtain⟨s,u,hF⟩:=a_ hF;refine Zo ?_;refine o_ (lH_ W i.Labels 1 8 s u) uF_ ⟨rfl,rfl,rfl,trivial⟩ ?_;rintro Z k ⟨rfl,J⟩;have v:=J.stp 999 q;refine⟨_,rfl,?_⟩;replace j:=j.stp v;replace hB:=hB.stp v;refine Zm rfl ?_;obtain⟨m,b,hF⟩:=a_ hF;refine aF_ 20 (λK x=>Fr K 27 [(26,.bool m)]∧Keeps k x) ?_ ?_;all_goals simp only[List.take_succ_cons,List.take_zero,List.drop_succ_cons,List.drop_zero]
 ·have kp:Keeps k k:=Keeps.refl _;rcases Bool.eq_false_or_eq_true (s) with g|g
  ·rw[if_pos g] at b;refine q_ (r_ rfl ud_ rfl tZ_) (by decide) ⟨_,rfl,Zb g⟩ (q_ (e_ rfl ua_ (j.cell rfl)) (by decide) ⟨_,rfl,Zb g⟩ ?_);obtain⟨y,z,b⟩:=a_ b;refine ct_ (by decide) ⟨_,rfl,Zb g⟩ ?_;refine o_ (lH_ k i.Degree 1 4 y z) uF_ ⟨rfl,rfl,rfl,trivial⟩ ?_;rintro a0 L ⟨rfl,A⟩;have B:=A.stp 999 q;refine⟨_,rfl,?_⟩;replace j:=j.stp B;replace hB:=hB.stp B;replace kp:=Keeps.trans kp A;refine Zv (L_ (Zb g) rfl) (Zm rfl ?_);rcases Bool.eq_false_or_eq_true (y) with c|c
   ·rw[if_pos c] at b;refine q_ (r_ rfl ud_ rfl ui_) (by decide) ⟨_,rfl,Zb c⟩ (q_ (e_ rfl uj_ (j.cell rfl)) (by decide) ⟨_,rfl,Zb c⟩ (q_ (r_ rfl ud_ rfl tZ_) (by decide) ⟨_,rfl,Zb c⟩ (q_ (e_ rfl ua_ (j.cell rfl)) (by decide) ⟨_,rfl,Zb c⟩ (q_ (r_ rfl ud_ rfl tZ_) (by decide) ⟨_,rfl,Zb c⟩ (q_ (e_ rfl ua_ (j.cell rfl)) (by decide) ⟨_,rfl,Zb c⟩ ?_)))));obtain⟨C,D,b⟩:=a_ b;refine ct_ (by decide) ⟨_,rfl,Zb c⟩ ?_;refine o_ (kJ_ fuel L _ i.Nodes (U.keep hB.keeps) i.Degree i.Labels C D) vK_ ⟨rfl,rfl,rfl,trivial⟩ ?_;rintro a1 M ⟨rfl,E⟩;have F:=E.stp 999 q;refine⟨_,rfl,?_⟩;replace j:=j.stp F;replace hB:=hB.stp F;replace kp:=Keeps.trans kp E;refine Zv (L_ (Zb c) rfl) (Zm rfl ?_);rcases Bool.eq_false_or_eq_true (C) with d|d
    ·rw[if_pos d] at b;refine q_ (r_ rfl ud_ rfl ui_) (by decide) ⟨_,rfl,Zb d⟩ (q_ (e_ rfl uj_ (j.cell rfl)) (by decide) ⟨_,rfl,Zb d⟩ (q_ (r_ rfl ud_ rfl tZ_) (by decide) ⟨_,rfl,Zb d⟩ (q_ (e_ rfl ua_ (j.cell rfl)) (by decide) ⟨_,rfl,Zb d⟩ ?_)));obtain⟨G,H,b⟩:=a_ b;refine ct_ (by decide) ⟨_,rfl,Zb d⟩ ?_;refine o_ (kJ_ fuel M _ i.Edges (V.keep hB.keeps) 2 i.Labels G H) vK_ ⟨rfl,rfl,rfl,trivial⟩ ?_;rintro a2 a3 ⟨rfl,I⟩;have a4:=I.stp 999 q;refine⟨_,rfl,?_⟩;replace kp:=Keeps.trans kp I;refine Zv (L_ (Zb d) rfl) ?_;have f:=Zj b;refine Ze [(26,_)] ?_;subst f;refine s_ (λa ha=>⟨ha,kp⟩)
    ·replace b:=ZF d b;refine v_ rfl rfl (by rw[d];rfl) (by decide) ?_;refine v_ rfl rfl (by rw[d];rfl) (by decide) ?_;refine v_ rfl rfl (by rw[d];rfl) (by decide) ?_;refine v_ rfl rfl (by rw[d];rfl) (by decide) ?_;refine v_ rfl rfl (by rw[d];rfl) (by decide) ?_;refine Zv (G_ (Zb d) rfl) ?_;have f:=Zj b;refine Ze [(26,_)] ?_;subst f;refine s_ (λa ha=>⟨ha,kp⟩)
   ·replace b:=ZF c b;refine v_ rfl rfl (by rw[c];rfl) (by decide) ?_;refine v_ rfl rfl (by rw[c];rfl) (by decide) ?_;refine v_ rfl rfl (by rw[c];rfl) (by decide) ?_;refine v_ rfl rfl (by rw[c];rfl) (by decide) ?_;refine v_ rfl rfl (by rw[c];rfl) (by decide) ?_;refine v_ rfl rfl (by rw[c];rfl) (by decide) ?_;refine v_ rfl rfl (by rw[c];rfl) (by decide) ?_;refine Zv (G_ (Zb c) rfl) (Zm rfl ?_);refine v_ rfl rfl rfl (by decide) ?_;refine v_ rfl rfl rfl (by decide) ?_;refine v_ rfl rfl rfl (by decide) ?_;refine v_ rfl rfl rfl (by decide) ?_;refine v_ rfl rfl rfl (by decide) ?_;refine Zv (G_ rfl rfl) ?_;have f:=Zj b;refine Ze [(26,_)] ?_;subst f;refine s_ (λa ha=>⟨ha,kp⟩)
  ·replace b:=ZF g b;refine v_ rfl rfl (by rw[g];rfl) (by decide) ?_;refine v_ rfl rfl (by rw[g];rfl) (by decide) ?_;refine v_ rfl rfl (by rw[g];rfl) (by decide) ?_;refine Zv (G_ (Zb g) rfl) (Zm rfl ?_);refine v_ rfl rfl rfl (by decide) ?_;refine v_ rfl rfl rfl (by decide) ?_;refine v_ rfl rfl rfl (by decide) ?_;refine v_ rfl rfl rfl (by decide) ?_;refine v_ rfl rfl rfl (by decide) ?_;refine v_ rfl rfl rfl (by decide) ?_;refine v_ rfl rfl rfl (by decide) ?_;refine Zv (G_ rfl rfl) (Zm rfl ?_);refine v_ rfl rfl rfl (by decide) ?_;refine v_ rfl rfl rfl (by decide) ?_;refine v_ rfl rfl rfl (by decide) ?_;refine v_ rfl rfl rfl (by decide) ?_;refine v_ rfl rfl rfl (by decide) ?_;refine Zv (G_ rfl rfl) ?_;have f:=Zj b;refine Ze [(26,_)] ?_;subst f;refine s_ (λa ha=>⟨ha,kp⟩)
 rintro a5 x ⟨ha,N⟩;have O:=N.stp 999 q;replace hB:=hB.stp O;refine aS_ ha ?_;refine Za rfl (Ze [(2,_)] (nx (n_ ?_)));have P:=Zj hF;subst P;refine Zr Tryz.results47 [.bool m] ?_;exact⟨rfl,hB.keeps⟩
def ge_(c:List Int):Int->(List Int)->Unit->Option (Lp Unit Unit Bool):=λ(d:Int)(a:List Int)(s:Unit)=>
  (fN_ c a)>>=λb=>
  if b then
    some (.ret true)
  else
    some (.go ())
def fz_(a:List (List Int))(b:List Int):Option Bool:=
  (forI (ge_ b) a 0 ())>>=λc=>
  match c with
  | .inl _=>
    some false
  | .inr r'=>some r'
def ph_(w:World)(r:Bool):Ending->World->Prop:=λe w'=>e=.returned (.bool r)∧Keeps w w'
theorem jp_(w:World)(f:Value)(b:Yk)(y:RdL zt w f b)(g:Value)(x:Yl)(R:RdL zt w g x)(r:Bool)(hF:fz_ b x=some r):
    Calls tX_ 120 #[f,g] w (ph_ w r):=by
 unfold fz_ at hF;have hB:Bs (λ_=>1) (col (λ_=>1)) w w:=Bs.start _ _;refine j_ (n:=17) (vs:=[f,g]) Tryz.func120 rfl rfl ?_;refine Zq (Za rfl (Ze [(0,_),(1,_)] (nx (b_ (Zq (Zm rfl (Zv (J_ rfl y ub_) (Zm rfl (Ze [(1,_),(7,_),(8,_),(9,_)] (nx ?_))))))))));obtain⟨z,A,hF⟩:=a_ hF;refine A_ (λa k=>∃(j:Tg),z=.inl ()∧Fr a 17 []∧Bs (λ_=>1) j w k) (λa w'=>∃r',z=.inr r'∧bodyPost tX_ Tryz.f120 (ph_ w r') .ret a w') ?_ ?_ ?_
 ·refine f_ ?_;refine z_ (λ(K:Nat) a k=>∃(c:Int)(j:Tg),forI (ge_ x) (b.drop c.toNat) c ()=some z∧(b.drop c.toNat).length=K∧0<=c∧Fr a 17 [(1,g),(7,f),(8,ZI (b.length:Int)),(9,ZI c)]∧Bs (λ_=>1) j w k) _ (λa ha=>⟨0,col (λ_=>1),A,rfl,Int.le_refl 0,ha.sb,hB⟩) ?_;rintro K8 a k ⟨c,j,Q,S,T,ha,hB⟩;by_cases i:c<(b.length:Int)
  ·obtain⟨B,Z,q,d,s⟩:=R_ T i Q;have hle:=y.len_le;dsimp only[ge_] at d;refine O_ ha ?_;refine Zq (Zv (u_ rfl rfl) (Ze [(1,_),(7,_),(8,_),(9,_),(10,_)] (nx (b_ ?_))));refine M_ (Zb (decide_eq_true i)) ?_;refine h_ (nx (b_ (f_ (Zq (Zo ?_)))));refine wf_atZ y q hB rfl rfl ub_ uf_ ?_;intro U V W C D;obtain⟨E,rfl,F⟩:=D;refine Zv (e_ rfl ug_ (i_ C)) (Za rfl (Ze [(1,_),(6,_),(7,_),(8,_),(9,_)] (Zn (Zm rfl (Zm rfl ?_)))));obtain⟨u,v,d⟩:=a_ d;refine Zo ?_;refine o_ (nd_ k _ x (R.keep hB.keeps) _ B (F.keep hB.keeps) u v) Tryz.call115 ⟨rfl,rfl,trivial⟩ ?_;rintro X Y ⟨rfl,G⟩;have H:=G.stp 999 j;refine⟨_,rfl,?_⟩;replace hB:=hB.stp H;refine Ze [(1,_),(7,_),(8,_),(9,_),(15,_)] (nx ?_);refine p_ rfl (λm=>?_) (λm=>?_)
   ·rw[if_pos m] at d;refine Zq (Za rfl (Ze [(4,_)] (nx (n_ (aq_ (I_ (I_ (aq_ ?_))))))));refine cK_ ?_;have I:=Zj d;subst I;refine λa ha=>⟨_,s,?_⟩;refine N_ (P:=tX_) (vs:=[.bool true]) vM_ ⟨rfl,trivial⟩ ?_ a ha;exact⟨rfl,hB.keeps⟩
   ·replace d:=ZF m d;refine h_ (y_ (nx (d_ (Zv (C_ rfl rfl (F_ (by omega) (by omega))) (Zm rfl (Ze [(1,_),(7,_),(8,_),(9,_)] (x_ ?_)))))));have J:=Zj d;subst J;refine Zk [(1,_),(7,_),(8,_),(9,_)] ?_;intro a ha;exact⟨_,(by rw[<-S];simp only[List.length_drop];omega),c+1,j,s,rfl,by omega,ha,hB⟩
  ·have L:=S_ i Q;refine O_ ha ?_;refine Zq (Zv (u_ rfl rfl) (Ze [(1,_),(7,_),(8,_),(9,_),(10,_)] (nx (b_ ?_))));refine D_ (Zb (decide_eq_false i)) ?_;refine w_ ?_;refine m_ (m_ (Q_ ?_));refine s_ ?_;refine Zk [] ?_;intro a ha;exact⟨j,L,ha,hB⟩
 ·rintro a k ⟨j,rfl,ha,hB⟩;dsimp only at hF;refine ap_k ha ?_;refine Zn (Za rfl (Ze [(4,_)] (nx (n_ ?_))));have M:=Zj hF;subst M;refine Zr vM_ [.bool false] ?_;exact⟨rfl,hB.keeps⟩
 ·rintro a k ⟨r',rfl,N⟩;dsimp only at hF;have O:=Zj hF;subst O;exact N
def gN_(fuel:Nat)(c:c_)(d:List Int):Option Bool:=
  (dn_ fuel d)>>=λa=>
  (fz_ c.Nodes a)>>=λb=>
  some b
def qa_(w:World)(r:Bool):Ending->World->Prop:=λe w'=>e=.returned (.bool r)∧Keeps w w'
theorem pU_(fuel:Nat)(w:World)(L:List Value)(b:c_)(O:Rp.rd zt w L b)(i:Value)(y:Yl)(P:RdL zt w i y)(r:Bool)(hF:gN_ fuel b y=some r):
    Calls tX_ 156 #[.agg L.toArray,i] w (qa_ w r):=by
 unfold gN_ at hF;obtain⟨x,A,rfl,Q,a2⟩:=O;have hB:Bs (λ_=>1) (col (λ_=>1)) w w:=Bs.start _ _;refine j_ (n:=10) (vs:=[.agg #[ZI b.Labels,ZI b.Degree,x,A],i]) Tryz.func156 rfl rfl ?_;refine Zq (Zo ?_);refine aD_ (o:=(col (λ_=>1))) w.heap.size 11 hB.keeps.size (cs:=[ZI b.Labels,ZI b.Degree,x,A]) rfl rfl ?_;intro a3 a4 B C R;replace hB:=hB.stp R;refine Za rfl (Ze [(1,_),(2,_)] (nx (b_ ?_)));obtain⟨d,j,hF⟩:=a_ hF;refine ZW (Bf:=λM N=>Bs (λ_=>1) M w N∧Bx w.heap.size 11 M N B 28 [ZI b.Labels,ZI b.Degree,x,A]) [(1,_),(2,_)] (Zrg 5 4) [[],[0],[],[2]] (Zcn 4) (Zt9 4) [0,0,0,12] [999] [.inl (.pointer (some ⟨B,0+2,none⟩)),.inl x,.inl i,.inr (λv o S=>Ow w.heap.size 3 12 o S v d)] ⟨hB,C⟩ ⟨λ_ _ _ _ _ _ T hb h hs=>h.stp hs T.1 (Ne.symm hb),trivial⟩ ?_ ?_
 ·refine⟨Dp (r_ rfl ud_ rfl ui_),Dq λh=>e_ rfl uj_ (h.2.cell rfl),Dp (g_ rfl),?_,trivial⟩
  ·rintro D E U ha ⟨hB,C⟩-;refine Zs ha ?_;refine o_ (gs_ fuel E D 12 (by decide) _ y (P.keep hB.keeps) d j) Tryz.call121 ⟨rfl,trivial⟩ ?_;rintro V W ⟨X,Y,rfl,f,F,G⟩;have H:=F.stp' 999 G;replace f:=f.mono hB.keeps.size;refine⟨_,rfl,?_⟩;exact⟨_,H,f⟩
 rintro _ rfl k m q ha ⟨hB,C⟩ ⟨a,-⟩;replace a:Ow w.heap.size 3 12 k m (q.tmps.getD 8 undef) d:=a;generalize I:q.tmps.getD 8 undef=Z at a;have ha:=ha.c I;refine aS_ ha ?_;obtain⟨g,s,hF⟩:=a_ hF;refine Zo ?_;refine o_ (jp_ m _ b.Nodes (Q.keep hB.keeps) _ d a.z g s) uI_ ⟨rfl,rfl,trivial⟩ ?_;rintro a0 a1 ⟨rfl,J⟩;have u:=J.stp 999 k;refine⟨_,rfl,?_⟩;replace a:=a.stp u;replace hB:=hB.stp u;refine Za rfl (Ze [(4,_)] (nx (n_ ?_)));have K:=Zj hF;subst K;refine Zr Tryz.results156 [.bool g] ?_;exact⟨rfl,hB.keeps⟩
def hQ_(a:Int)(b:Int):Option Int:=
  if decide (a>b) then
    some a
  else
    some b
def qL_(w:World)(r:Int):Ending->World->Prop:=λe w'=>e=.returned (.int .i64 r)∧Keeps w w'
theorem pY_(w:World)(a:Int)(b:Int)(r:Int)(hF:hQ_ a b=some r):
    Calls tX_ 165 #[.int .i64 a,.int .i64 b] w (qL_ w r):=by
 unfold hQ_ at hF;have hB:Bs (λ_=>1) (col (λ_=>1)) w w:=Bs.start _ _;refine j_ (n:=10) (vs:=[ZI a,ZI b]) Tryz.func165 rfl rfl ?_;refine Zq (Za rfl (Ze [(0,_),(1,_)] (nx (b_ (Zq (Zm rfl (Zm rfl (Zv (ef_ rfl rfl) (Ze [(0,_),(1,_),(7,_)] (nx ?_))))))))));refine p_ rfl (λc=>?_) (λc=>?_)
 ·rw[if_pos c] at hF;refine Zq (Zm rfl (Za rfl (Ze [(4,_)] (nx (n_ (I_ ?_))))));have d:=Zj hF;subst d;refine Zr vN_ [ZI a] ?_;exact⟨rfl,hB.keeps⟩
 ·replace hF:=ZF c hF;refine h_ (Zn (Zm rfl (Za rfl (Ze [(4,_)] (nx (n_ ?_))))));have f:=Zj hF;subst f;refine Zr vN_ [ZI b] ?_;exact⟨rfl,hB.keeps⟩
def fK_(g:c_)(d:Int)(f:Int):Option Bool:=
  (ht_ d f)>>=λa=>
  (hQ_ d f)>>=λb=>
  (fz_ g.Edges ([a,b]:List Int))>>=λc=>
  some c
def rb_(w:World)(r:Bool):Ending->World->Prop:=λe w'=>e=.returned (.bool r)∧Keeps w w'
theorem mN_(w:World)(S:List Value)(f:c_)(V:Rp.rd zt w S f)(g:Int)(i:Int)(r:Bool)(hF:fK_ f g i=some r):
    Calls tX_ 124 #[.agg S.toArray,.int .i64 g,.int .i64 i] w (rb_ w r):=by
 unfold fK_ at hF;obtain⟨C,B,rfl,b5,W⟩:=V;have hB:Bs (λ_=>1) (col (λ_=>1)) w w:=Bs.start _ _;refine j_ (n:=17) (vs:=[.agg #[ZI f.Labels,ZI f.Degree,C,B],ZI g,ZI i]) Tryz.func124 rfl rfl ?_;refine Zq (Zo ?_);refine aD_ (o:=(col (λ_=>1))) w.heap.size 11 hB.keeps.size (cs:=[ZI f.Labels,ZI f.Degree,C,B]) rfl rfl ?_;intro b6 b7 D k X;replace hB:=hB.stp X;refine Za rfl (Ze [(1,_),(2,_),(3,_)] (nx (b_ ?_)));obtain⟨a,m,hF⟩:=a_ hF;obtain⟨b,q,hF⟩:=a_ hF;refine ZW (Bf:=λT U=>Bs (λ_=>1) T w U∧Bx w.heap.size 11 T U D 28 [ZI f.Labels,ZI f.Degree,C,B]) [(1,_),(2,_),(3,_)] (Zrg 7 9) [[],[0],[],[],[2,3],[],[],[5,6],[4,7]] (Zcn 9) (Zt9 9) (Zt0 9) [999] [.inl (.pointer (some ⟨D,0+3,none⟩)),.inl B,.inl (ZI g),.inl (ZI i),.inl (ZI a),.inl (ZI g),.inl (ZI i),.inl (ZI b),.inr (λv o Y=>RdL o Y v (([a,b]:Yl):Yl))] ⟨hB,k⟩ ⟨λ_ _ _ _ _ _ Z hb h hs=>h.stp hs Z.1,trivial⟩ ?_ ?_
 ·refine⟨Dp (r_ rfl ud_ rfl ui_),Dq λh=>e_ rfl uj_ (h.2.cell rfl),Dp (g_ rfl),Dp (g_ rfl),?_,Dp (g_ rfl),Dp (g_ rfl),?_,?_,trivial⟩
  ·rintro E F a0 ha ⟨hB,k⟩-;refine Zs ha ?_;refine o_ (pO_ F g i a m) Tryz.call164 ⟨rfl,rfl,trivial⟩ ?_;rintro a1 a2 ⟨rfl,G⟩;have H:=G.stp 999 E;refine⟨_,rfl,?_⟩;exact⟨_,H,rfl⟩
  ·rintro I J a3 ha ⟨hB,k⟩-;refine Zs ha ?_;refine o_ (pY_ J g i b q) Tryz.call165 ⟨rfl,rfl,trivial⟩ ?_;rintro a4 a5 ⟨rfl,K⟩;have L:=K.stp 999 I;refine⟨_,rfl,?_⟩;exact⟨_,L,rfl⟩
  ·rintro M a6 a7 ha ⟨hB,k⟩-;refine Zs ha ?_;refine aB_ (o:=M) (cs:=[ZI a,ZI b]) (xs:=([a,b]:Yl)) (vs:=[(0,ZI a),(1,ZI b)]) ⟨_,_,rfl,rfl,⟨_,_,rfl,rfl,rfl⟩⟩ rfl ⟨rfl,rfl,rfl,rfl,trivial⟩ tY_ tZ_ uh_ (by decide) (fill2 rfl rfl) (by simp) ?_;intro a8 a9 b0 N O b1;exact⟨_,O,N⟩
 rintro _ rfl s u x ha ⟨hB,k⟩ ⟨d,-⟩;replace d:RdL s u (x.tmps.getD 15 undef) (([a,b]:Yl):Yl):=d;generalize P:x.tmps.getD 15 undef=b2 at d;have ha:=ha.c P;refine aS_ ha ?_;obtain⟨j,y,hF⟩:=a_ hF;refine Zo ?_;refine o_ (jp_ u _ f.Edges (W.keep hB.keeps) _ ([a,b]:Yl) d.z j y) uI_ ⟨rfl,rfl,trivial⟩ ?_;rintro b3 b4 ⟨rfl,Q⟩;have A:=Q.stp 999 s;refine⟨_,rfl,?_⟩;replace d:=d.stp A;replace hB:=hB.stp A;refine Za rfl (Ze [(6,_)] (nx (n_ ?_)));have R:=Zj hF;subst R;refine Zr Tryz.results124 [.bool j] ?_;exact⟨rfl,hB.keeps⟩
def bZ_(fuel:Nat)(m:List (List Int))(n:Int)(q:Int):Int->(List Int)->Unit->Option (Lp Unit Unit Bool):=λ(k:Int)(a:List Int)(s:Unit)=>
  (
    if(a.length:Int) !=n then
      some true
    else
      (aV_ fuel a)>>=λb=>
      if !b then
        some true
      else
        (ck (q-1))>>=λc=>
        (eB_ a 0 c)>>=λd=>
        if !d then
          some true
        else
          if decide (k>0) then
            (ck (k-1))>>=λf=>
            (ix m f)>>=λg=>
            (P_ g a)>>=λi=>
            some (decide (i>=0))
          else
            some false)>>=λj=>
  if j then
    some (.ret false)
  else
    some (.go ())
def bv_(fuel:Nat)(a:List (List Int))(b:Int)(c:Int):Option Bool:=
  (forI (bZ_ fuel a b c) a 0 ())>>=λd=>
  match d with
  | .inl _=>
    some true
  | .inr r'=>some r'
def eX_(w:World)(r:Bool):Ending->World->Prop:=λe w'=>e=.returned (.bool r)∧Keeps w w'
theorem fa_(fuel:Nat)(w:World)(f:Value)(k:Yk)(U:RdL zt w f k)(q:Int)(s:Int)(r:Bool)(hF:bv_ fuel k q s=some r):
    Calls tX_ 68 #[f,.int .i64 q,.int .i64 s] w (eX_ w r):=by
 unfold bv_ at hF;have hB:Bs (λ_=>1) (col (λ_=>1)) w w:=Bs.start _ _;refine j_ (n:=47) (vs:=[f,ZI q,ZI s]) Tryz.func68 rfl rfl ?_;refine Zq (Za rfl (Ze [(0,_),(1,_),(2,_)] (nx (b_ (Zq (Zm rfl (Zv (J_ rfl U ub_) (Zm rfl (Ze [(0,_),(1,_),(2,_),(9,_),(10,_),(11,_)] (nx ?_))))))))));obtain⟨V,W,hF⟩:=a_ hF;refine A_ (λa x=>∃(v:Tg),V=.inl ()∧Fr a 47 []∧Bs (λ_=>1) v w x) (λa w'=>∃r',V=.inr r'∧bodyPost tX_ Tryz.f68 (eX_ w r') .ret a w') ?_ ?_ ?_
 ·refine f_ ?_;refine z_ (λ(K:Nat) a x=>∃(j:Int)(v:Tg),forI (bZ_ fuel k q s) (k.drop j.toNat) j ()=some V∧(k.drop j.toNat).length=K∧0<=j∧Fr a 47 [(0,f),(1,ZI q),(2,ZI s),(9,f),(10,ZI (k.length:Int)),(11,ZI j)]∧Bs (λ_=>1) v w x) _ (λa ha=>⟨0,col (λ_=>1),W,rfl,Int.le_refl 0,ha.sb,hB⟩) ?_;rintro K8 a x ⟨j,v,b8,b9,c0,ha,hB⟩;by_cases y:j<(k.length:Int)
  ·obtain⟨z,d5,C,u,D⟩:=R_ c0 y b8;have hle:=U.len_le;dsimp only[bZ_] at u;refine O_ ha ?_;refine Zq (Zv (u_ rfl rfl) (Ze [(0,_),(1,_),(2,_),(9,_),(10,_),(11,_),(12,_)] (nx (b_ ?_))));refine M_ (Zb (decide_eq_true y)) ?_;refine h_ (nx (b_ (f_ (Zq (Zm rfl (Zo ?_))))));refine wf_atZ U C hB rfl rfl ub_ uf_ ?_;intro c1 c2 c3 X Y;obtain⟨Z,rfl,A⟩:=Y;refine Zv (e_ rfl ug_ (i_ X)) (Za rfl (Za rfl (Ze [(0,_),(1,_),(2,_),(7,_),(8,_),(9,_),(10,_),(11,_)] (Zn (Zm rfl (Zv (J_ rfl A tY_) (Zm rfl (Zv (dw_ rfl rfl) (Zm rfl ?_)))))))));obtain⟨E,b,u⟩:=a_ u;refine aF_ 25 (λa0 F=>Fr a0 47 [(0,f),(1,ZI q),(2,ZI s),(9,f),(10,ZI (k.length:Int)),(11,ZI j),(45,.bool E)]∧Keeps x F) ?_ ?_;all_goals simp only[List.take_succ_cons,List.take_zero,List.drop_succ_cons,List.drop_zero]
   ·have kp:Keeps x x:=Keeps.refl _;rcases Bool.eq_false_or_eq_true ((z.length:Int) !=q) with m|m
    ·rw[if_pos m] at b;refine v_ rfl rfl (by rw[m];rfl) (by decide) ?_;refine v_ rfl rfl (by rw[m];rfl) (by decide) ?_;refine v_ rfl rfl (by rw[m];rfl) (by decide) ?_;refine Zv (L_ (Zb m) rfl) (Zm rfl ?_);refine v_ rfl rfl rfl (by decide) ?_;refine v_ rfl rfl rfl (by decide) ?_;refine v_ rfl rfl rfl (by decide) ?_;refine v_ rfl rfl rfl (by decide) ?_;refine v_ rfl rfl rfl (by decide) ?_;refine Zv (L_ rfl rfl) (Zm rfl ?_);refine v_ rfl rfl rfl (by decide) ?_;refine v_ rfl rfl rfl (by decide) ?_;refine v_ rfl rfl rfl (by decide) ?_;refine ak_ rfl rfl (by decide) ?_;refine ak_ rfl rfl (by decide) ?_;refine ak_ rfl rfl (by decide) ?_;refine ak_ rfl rfl (by decide) ?_;refine ak_ rfl rfl (by decide) ?_;refine ak_ rfl rfl (by decide) ?_;refine ak_ rfl rfl (by decide) ?_;refine ak_ rfl rfl (by decide) ?_;refine v_ rfl rfl rfl (by decide) ?_;refine Zv (L_ rfl rfl) ?_;have d:=Zj b;refine Ze [(0,_),(1,_),(2,_),(9,_),(10,_),(11,_),(45,_)] ?_;subst d;refine s_ (λa ha=>⟨ha,kp⟩)
    ·replace b:=ZF m b;refine q_ (g_ rfl) (by decide) ⟨_,rfl,Zb m⟩ ?_;obtain⟨G,H,b⟩:=a_ b;refine ct_ (by decide) ⟨_,rfl,Zb m⟩ ?_;refine o_ (fl_ fuel x _ z (A.keep hB.keeps) G H) Tryz.call93 ⟨rfl,trivial⟩ ?_;rintro c4 a1 ⟨rfl,I⟩;have a2:=I.stp 999 v;refine⟨_,rfl,?_⟩;replace hB:=hB.stp a2;replace kp:=Keeps.trans kp I;refine q_ (bo_ rfl) (by decide) ⟨_,rfl,Zb m⟩ (Zv (G_ (Zb m) rfl) (Zm rfl ?_));rcases Bool.eq_false_or_eq_true (!G) with g|g
     ·rw[if_pos g] at b;refine v_ rfl rfl (by rw[g];rfl) (by decide) ?_;refine v_ rfl rfl (by rw[g];rfl) (by decide) ?_;refine v_ rfl rfl (by rw[g];rfl) (by decide) ?_;refine v_ rfl rfl (by rw[g];rfl) (by decide) ?_;refine v_ rfl rfl (by rw[g];rfl) (by decide) ?_;refine Zv (L_ (Zb g) rfl) (Zm rfl ?_);refine v_ rfl rfl rfl (by decide) ?_;refine v_ rfl rfl rfl (by decide) ?_;refine v_ rfl rfl rfl (by decide) ?_;refine ak_ rfl rfl (by decide) ?_;refine ak_ rfl rfl (by decide) ?_;refine ak_ rfl rfl (by decide) ?_;refine ak_ rfl rfl (by decide) ?_;refine ak_ rfl rfl (by decide) ?_;refine ak_ rfl rfl (by decide) ?_;refine ak_ rfl rfl (by decide) ?_;refine ak_ rfl rfl (by decide) ?_;refine v_ rfl rfl rfl (by decide) ?_;refine Zv (L_ rfl rfl) ?_;have d:=Zj b;refine Ze [(0,_),(1,_),(2,_),(9,_),(10,_),(11,_),(45,_)] ?_;subst d;refine s_ (λa ha=>⟨ha,kp⟩)
     ·replace b:=ZF g b;refine q_ (g_ rfl) (by decide) ⟨_,rfl,Zb g⟩ (q_ (g_ rfl) (by decide) ⟨_,rfl,Zb g⟩ ?_);obtain⟨a3,J,b⟩:=a_ b;refine q_ (bE_ rfl rfl J) (by decide) ⟨_,rfl,Zb g⟩ ?_;obtain⟨L,M,b⟩:=a_ b;refine ct_ (by decide) ⟨_,rfl,Zb g⟩ ?_;refine o_ (ml_ a1 _ z (A.keep hB.keeps) 0 a3 L M) Tryz.call94 ⟨rfl,rfl,rfl,trivial⟩ ?_;rintro c5 a4 ⟨rfl,N⟩;have a5:=N.stp 999 v;refine⟨_,rfl,?_⟩;replace hB:=hB.stp a5;replace kp:=Keeps.trans kp N;refine q_ (bo_ rfl) (by decide) ⟨_,rfl,Zb g⟩ (Zv (G_ (Zb g) rfl) (Zm rfl ?_));rcases Bool.eq_false_or_eq_true (!L) with i|i
      ·rw[if_pos i] at b;refine v_ rfl rfl (by rw[i];rfl) (by decide) ?_;refine v_ rfl rfl (by rw[i];rfl) (by decide) ?_;refine v_ rfl rfl (by rw[i];rfl) (by decide) ?_;refine ak_ rfl rfl (by decide) ?_;refine ak_ rfl rfl (by decide) ?_;refine ak_ rfl rfl (by decide) ?_;refine ak_ rfl rfl (by decide) ?_;refine ak_ rfl rfl (by decide) ?_;refine ak_ rfl rfl (by decide) ?_;refine ak_ rfl rfl (by decide) ?_;refine ak_ rfl rfl (by decide) ?_;refine v_ rfl rfl (by rw[i];rfl) (by decide) ?_;refine Zv (L_ (Zb i) rfl) ?_;have d:=Zj b;refine Ze [(0,_),(1,_),(2,_),(9,_),(10,_),(11,_),(45,_)] ?_;subst d;refine s_ (λa ha=>⟨ha,kp⟩)
      ·replace b:=ZF i b;refine q_ (g_ rfl) (by decide) ⟨_,rfl,Zb i⟩ (q_ (ef_ rfl rfl) (by decide) ⟨_,rfl,Zb i⟩ (q_ (g_ rfl) (by decide) ⟨_,rfl,Zb i⟩ ?_));rcases Bool.eq_false_or_eq_true (decide (j>0)) with c|c
       ·rw[if_pos c] at b;refine q_ (g_ rfl) (by decide) ⟨_,rfl,Zb c⟩ (q_ (g_ rfl) (by decide) ⟨_,rfl,Zb c⟩ ?_);obtain⟨c6,O,b⟩:=a_ b;refine q_ (bE_ rfl rfl O) (by decide) ⟨_,rfl,Zb c⟩ ?_;obtain⟨a6,Q,b⟩:=a_ b;refine ct_ (by decide) ⟨_,rfl,Zb c⟩ ?_;refine wf_atZ U Q hB rfl rfl ub_ uf_ ?_;intro c7 c8 c9 a7 a8;obtain⟨d0,rfl,a9⟩:=a8;refine q_ (e_ rfl ug_ (i_ a7)) (by decide) ⟨_,rfl,Zb c⟩ (q_ (g_ rfl) (by decide) ⟨_,rfl,Zb c⟩ ?_);obtain⟨R,S,b⟩:=a_ b;refine ct_ (by decide) ⟨_,rfl,Zb c⟩ ?_;refine o_ (cX_slices_Compare_int_int a4 _ a6 (a9.keep hB.keeps) _ z (A.keep hB.keeps) R S) Tryz.call95 ⟨rfl,rfl,trivial⟩ ?_;rintro d1 d2 ⟨rfl,T⟩;have d3:=T.stp 999 v;refine⟨_,rfl,?_⟩;replace kp:=Keeps.trans kp T;refine q_ (lc_ rfl rfl) (by decide) ⟨_,rfl,Zb c⟩ (q_ (L_ (Zb c) rfl) (by decide) ⟨_,rfl,Zb i⟩ (Zv (G_ (Zb i) rfl) ?_));have d:=Zj b;refine Ze [(0,_),(1,_),(2,_),(9,_),(10,_),(11,_),(45,_)] ?_;subst d;refine s_ (λa ha=>⟨ha,kp⟩)
       ·replace b:=ZF c b;refine v_ rfl rfl (by rw[c];rfl) (by decide) ?_;refine v_ rfl rfl (by rw[c];rfl) (by decide) ?_;refine v_ rfl rfl (by rw[c];rfl) (by decide) ?_;refine v_ rfl rfl (by rw[c];rfl) (by decide) ?_;refine v_ rfl rfl (by rw[c];rfl) (by decide) ?_;refine v_ rfl rfl (by rw[c];rfl) (by decide) ?_;refine v_ rfl rfl (by rw[c];rfl) (by decide) ?_;refine v_ rfl rfl (by rw[c];rfl) (by decide) ?_;refine q_ (G_ (Zb c) rfl) (by decide) ⟨_,rfl,Zb i⟩ (Zv (G_ (Zb i) rfl) ?_);have d:=Zj b;refine Ze [(0,_),(1,_),(2,_),(9,_),(10,_),(11,_),(45,_)] ?_;subst d;refine s_ (λa ha=>⟨ha,kp⟩)
   rintro d4 F ⟨ha,b0⟩;have b1:=b0.stp 999 v;replace hB:=hB.stp b1;refine aS_ ha ?_;refine Ze [(0,_),(1,_),(2,_),(9,_),(10,_),(11,_),(45,_)] (nx ?_);refine p_ rfl (λB=>?_) (λB=>?_)
   ·rw[if_pos B] at u;refine Zq (Za rfl (Ze [(6,_)] (nx (n_ (aq_ (I_ (I_ (aq_ ?_))))))));refine cK_ ?_;have b2:=Zj u;subst b2;refine λa ha=>⟨_,D,?_⟩;refine N_ (P:=tX_) (vs:=[.bool false]) vO_ ⟨rfl,trivial⟩ ?_ a ha;exact⟨rfl,hB.keeps⟩
   ·replace u:=ZF B u;refine h_ (y_ (nx (d_ (Zv (C_ rfl rfl (F_ (by omega) (by omega))) (Zm rfl (Ze [(0,_),(1,_),(2,_),(9,_),(10,_),(11,_)] (x_ ?_)))))));have b3:=Zj u;subst b3;refine Zk [(0,_),(1,_),(2,_),(9,_),(10,_),(11,_)] ?_;intro a ha;exact⟨_,(by rw[<-b9];simp only[List.length_drop];omega),j+1,v,D,rfl,by omega,ha,hB⟩
  ·have b4:=S_ y b8;refine O_ ha ?_;refine Zq (Zv (u_ rfl rfl) (Ze [(0,_),(1,_),(2,_),(9,_),(10,_),(11,_),(12,_)] (nx (b_ ?_))));refine D_ (Zb (decide_eq_false y)) ?_;refine w_ ?_;refine m_ (m_ (Q_ ?_));refine s_ ?_;refine Zk [] ?_;intro a ha;exact⟨v,b4,ha,hB⟩
 ·rintro a x ⟨v,rfl,ha,hB⟩;dsimp only at hF;refine ap_k ha ?_;refine Zn (Za rfl (Ze [(6,_)] (nx (n_ ?_))));have b5:=Zj hF;subst b5;refine Zr vO_ [.bool true] ?_;exact⟨rfl,hB.keeps⟩
 ·rintro a x ⟨r',rfl,b6⟩;dsimp only at hF;have b7:=Zj hF;subst b7;exact b6
def cL_(fuel:Nat)(a:c_):Option Bool:=
  (ea_ a.Labels 1 8)>>=λb=>
  (
    if b then
      (ea_ a.Degree 1 4)>>=λc=>
      if c then
        (bv_ fuel a.Nodes a.Degree a.Labels)>>=λd=>
        if d then
          (bv_ fuel a.Edges 2 a.Labels)>>=λf=>
          some f
        else
          some false
      else
        some false
    else
      some false)>>=λg=>
  some g
def mY_(w:World)(r:Bool):Ending->World->Prop:=λe w'=>e=.returned (.bool r)∧Keeps w w'
theorem fu_(fuel:Nat)(w:World)(Q:List Value)(i:c_)(T:Rp.rd zt w Q i)(r:Bool)(hF:cL_ fuel i=some r):
    Calls tX_ 43 #[.agg Q.toArray] w (mY_ w r):=by
 unfold cL_ at hF;obtain⟨R,S,rfl,U,V⟩:=T;have hB:Bs (λ_=>1) (col (λ_=>1)) w w:=Bs.start _ _;refine j_ (n:=27) (vs:=[.agg #[ZI i.Labels,ZI i.Degree,R,S]]) Tryz.func43 rfl rfl ?_;refine Zq (Zo ?_);refine aD_ (o:=(col (λ_=>1))) w.heap.size 11 hB.keeps.size (cs:=[ZI i.Labels,ZI i.Degree,R,S]) rfl rfl ?_;intro q W X j Y;replace hB:=hB.stp Y;refine Za rfl (Ze [(1,_)] (Zn (Zv (r_ rfl ud_ rfl tZ_) (Zv (e_ rfl ua_ (j.cell rfl)) ?_))));obtain⟨s,u,hF⟩:=a_ hF;refine Zo ?_;refine o_ (gG_ W i.Labels 1 8 s u) uB_ ⟨rfl,rfl,rfl,trivial⟩ ?_;rintro Z k ⟨rfl,J⟩;have v:=J.stp 999 q;refine⟨_,rfl,?_⟩;replace j:=j.stp v;replace hB:=hB.stp v;refine Zm rfl ?_;obtain⟨m,b,hF⟩:=a_ hF;refine aF_ 20 (λK x=>Fr K 27 [(26,.bool m)]∧Keeps k x) ?_ ?_;all_goals simp only[List.take_succ_cons,List.take_zero,List.drop_succ_cons,List.drop_zero]
 ·have kp:Keeps k k:=Keeps.refl _;rcases Bool.eq_false_or_eq_true (s) with g|g
  ·rw[if_pos g] at b;refine q_ (r_ rfl ud_ rfl tZ_) (by decide) ⟨_,rfl,Zb g⟩ (q_ (e_ rfl ua_ (j.cell rfl)) (by decide) ⟨_,rfl,Zb g⟩ ?_);obtain⟨y,z,b⟩:=a_ b;refine ct_ (by decide) ⟨_,rfl,Zb g⟩ ?_;refine o_ (gG_ k i.Degree 1 4 y z) uB_ ⟨rfl,rfl,rfl,trivial⟩ ?_;rintro a0 L ⟨rfl,A⟩;have B:=A.stp 999 q;refine⟨_,rfl,?_⟩;replace j:=j.stp B;replace hB:=hB.stp B;replace kp:=Keeps.trans kp A;refine Zv (L_ (Zb g) rfl) (Zm rfl ?_);rcases Bool.eq_false_or_eq_true (y) with c|c
   ·rw[if_pos c] at b;refine q_ (r_ rfl ud_ rfl ui_) (by decide) ⟨_,rfl,Zb c⟩ (q_ (e_ rfl uj_ (j.cell rfl)) (by decide) ⟨_,rfl,Zb c⟩ (q_ (r_ rfl ud_ rfl tZ_) (by decide) ⟨_,rfl,Zb c⟩ (q_ (e_ rfl ua_ (j.cell rfl)) (by decide) ⟨_,rfl,Zb c⟩ (q_ (r_ rfl ud_ rfl tZ_) (by decide) ⟨_,rfl,Zb c⟩ (q_ (e_ rfl ua_ (j.cell rfl)) (by decide) ⟨_,rfl,Zb c⟩ ?_)))));obtain⟨C,D,b⟩:=a_ b;refine ct_ (by decide) ⟨_,rfl,Zb c⟩ ?_;refine o_ (fa_ fuel L _ i.Nodes (U.keep hB.keeps) i.Degree i.Labels C D) vP_ ⟨rfl,rfl,rfl,trivial⟩ ?_;rintro a1 M ⟨rfl,E⟩;have F:=E.stp 999 q;refine⟨_,rfl,?_⟩;replace j:=j.stp F;replace hB:=hB.stp F;replace kp:=Keeps.trans kp E;refine Zv (L_ (Zb c) rfl) (Zm rfl ?_);rcases Bool.eq_false_or_eq_true (C) with d|d
    ·rw[if_pos d] at b;refine q_ (r_ rfl ud_ rfl ui_) (by decide) ⟨_,rfl,Zb d⟩ (q_ (e_ rfl uj_ (j.cell rfl)) (by decide) ⟨_,rfl,Zb d⟩ (q_ (r_ rfl ud_ rfl tZ_) (by decide) ⟨_,rfl,Zb d⟩ (q_ (e_ rfl ua_ (j.cell rfl)) (by decide) ⟨_,rfl,Zb d⟩ ?_)));obtain⟨G,H,b⟩:=a_ b;refine ct_ (by decide) ⟨_,rfl,Zb d⟩ ?_;refine o_ (fa_ fuel M _ i.Edges (V.keep hB.keeps) 2 i.Labels G H) vP_ ⟨rfl,rfl,rfl,trivial⟩ ?_;rintro a2 a3 ⟨rfl,I⟩;have a4:=I.stp 999 q;refine⟨_,rfl,?_⟩;replace kp:=Keeps.trans kp I;refine Zv (L_ (Zb d) rfl) ?_;have f:=Zj b;refine Ze [(26,_)] ?_;subst f;refine s_ (λa ha=>⟨ha,kp⟩)
    ·replace b:=ZF d b;refine v_ rfl rfl (by rw[d];rfl) (by decide) ?_;refine v_ rfl rfl (by rw[d];rfl) (by decide) ?_;refine v_ rfl rfl (by rw[d];rfl) (by decide) ?_;refine v_ rfl rfl (by rw[d];rfl) (by decide) ?_;refine v_ rfl rfl (by rw[d];rfl) (by decide) ?_;refine Zv (G_ (Zb d) rfl) ?_;have f:=Zj b;refine Ze [(26,_)] ?_;subst f;refine s_ (λa ha=>⟨ha,kp⟩)
   ·replace b:=ZF c b;refine v_ rfl rfl (by rw[c];rfl) (by decide) ?_;refine v_ rfl rfl (by rw[c];rfl) (by decide) ?_;refine v_ rfl rfl (by rw[c];rfl) (by decide) ?_;refine v_ rfl rfl (by rw[c];rfl) (by decide) ?_;refine v_ rfl rfl (by rw[c];rfl) (by decide) ?_;refine v_ rfl rfl (by rw[c];rfl) (by decide) ?_;refine v_ rfl rfl (by rw[c];rfl) (by decide) ?_;refine Zv (G_ (Zb c) rfl) (Zm rfl ?_);refine v_ rfl rfl rfl (by decide) ?_;refine v_ rfl rfl rfl (by decide) ?_;refine v_ rfl rfl rfl (by decide) ?_;refine v_ rfl rfl rfl (by decide) ?_;refine v_ rfl rfl rfl (by decide) ?_;refine Zv (G_ rfl rfl) ?_;have f:=Zj b;refine Ze [(26,_)] ?_;subst f;refine s_ (λa ha=>⟨ha,kp⟩)
  ·replace b:=ZF g b;refine v_ rfl rfl (by rw[g];rfl) (by decide) ?_;refine v_ rfl rfl (by rw[g];rfl) (by decide) ?_;refine v_ rfl rfl (by rw[g];rfl) (by decide) ?_;refine Zv (G_ (Zb g) rfl) (Zm rfl ?_);refine v_ rfl rfl rfl (by decide) ?_;refine v_ rfl rfl rfl (by decide) ?_;refine v_ rfl rfl rfl (by decide) ?_;refine v_ rfl rfl rfl (by decide) ?_;refine v_ rfl rfl rfl (by decide) ?_;refine v_ rfl rfl rfl (by decide) ?_;refine v_ rfl rfl rfl (by decide) ?_;refine Zv (G_ rfl rfl) (Zm rfl ?_);refine v_ rfl rfl rfl (by decide) ?_;refine v_ rfl rfl rfl (by decide) ?_;refine v_ rfl rfl rfl (by decide) ?_;refine v_ rfl rfl rfl (by decide) ?_;refine v_ rfl rfl rfl (by decide) ?_;refine Zv (G_ rfl rfl) ?_;have f:=Zj b;refine Ze [(26,_)] ?_;subst f;refine s_ (λa ha=>⟨ha,kp⟩)
 rintro a5 x ⟨ha,N⟩;have O:=N.stp 999 q;replace hB:=hB.stp O;refine aS_ ha ?_;refine Za rfl (Ze [(2,_)] (nx (n_ ?_)));have P:=Zj hF;subst P;refine Zr Tryz.results43 [.bool m] ?_;exact⟨rfl,hB.keeps⟩
def cJ_(fuel:Nat)(b:c_)(c:List Int):Option Bool:=
  (bg_ fuel b.Nodes c)>>=λa=>
  some a
def jB_(w:World)(r:Bool):Ending->World->Prop:=λe w'=>e=.returned (.bool r)∧Keeps w w'
theorem hb_(fuel:Nat)(w:World)(k:List Value)(a:c_)(s:Rp.rd zt w k a)(d:Value)(f:Yl)(u:RdL zt w d f)(r:Bool)(hF:cJ_ fuel a f=some r):
    Calls tX_ 150 #[.agg k.toArray,d] w (jB_ w r):=by
 unfold cJ_ at hF;obtain⟨m,q,rfl,v,E⟩:=s;have hB:Bs (λ_=>1) (col (λ_=>1)) w w:=Bs.start _ _;refine j_ (n:=9) (vs:=[.agg #[ZI a.Labels,ZI a.Degree,m,q],d]) Tryz.func150 rfl rfl ?_;refine Zq (Zo ?_);refine aD_ (o:=(col (λ_=>1))) w.heap.size 11 hB.keeps.size (cs:=[ZI a.Labels,ZI a.Degree,m,q]) rfl rfl ?_;intro x y z A B;replace hB:=hB.stp B;refine Za rfl (Ze [(1,_),(2,_)] (Zn (Zv (r_ rfl ud_ rfl ui_) (Zv (e_ rfl uj_ (A.cell rfl)) (Zm rfl ?_)))));obtain⟨b,c,hF⟩:=a_ hF;refine Zo ?_;refine o_ (dE_ fuel y _ a.Nodes (v.keep hB.keeps) _ f (u.keep hB.keeps) b c) uS_ ⟨rfl,rfl,trivial⟩ ?_;rintro C D ⟨rfl,g⟩;have i:=g.stp 999 x;refine⟨_,rfl,?_⟩;replace hB:=hB.stp i;refine Za rfl (Ze [(4,_)] (nx (n_ ?_)));have j:=Zj hF;subst j;refine Zr Tryz.results150 [.bool b] ?_;exact⟨rfl,hB.keeps⟩
def cI_(fuel:Nat)(b:c_)(c:Int)(d:Int):Option Bool:=
  (bg_ fuel b.Edges ([c,d]:List Int))>>=λa=>
  some a
def jW_(w:World)(r:Bool):Ending->World->Prop:=λe w'=>e=.returned (.bool r)∧Keeps w w'
theorem gS_(fuel:Nat)(w:World)(u:List Value)(c:c_)(y:Rp.rd zt w u c)(a:Int)(b:Int)(r:Bool)(hF:cI_ fuel c a b=some r):
    Calls tX_ 125 #[.agg u.toArray,.int .i64 a,.int .i64 b] w (jW_ w r):=by
 unfold cI_ at hF;obtain⟨v,x,rfl,J,A⟩:=y;have hB:Bs (λ_=>1) (col (λ_=>1)) w w:=Bs.start _ _;refine j_ (n:=13) (vs:=[.agg #[ZI c.Labels,ZI c.Degree,v,x],ZI a,ZI b]) Tryz.func125 rfl rfl ?_;refine Zq (Zo ?_);refine aD_ (o:=(col (λ_=>1))) w.heap.size 11 hB.keeps.size (cs:=[ZI c.Labels,ZI c.Degree,v,x]) rfl rfl ?_;intro B K C D E;replace hB:=hB.stp E;refine Za rfl (Ze [(1,_),(2,_),(3,_)] (Zn (Zv (r_ rfl ud_ rfl ui_) (Zv (e_ rfl uj_ (D.cell rfl)) (Zm rfl (Zm rfl (Zo ?_)))))));refine aB_ (o:=B) (cs:=[ZI a,ZI b]) (xs:=([a,b]:Yl)) (vs:=[(0,ZI a),(1,ZI b)]) ⟨_,_,rfl,rfl,⟨_,_,rfl,rfl,rfl⟩⟩ rfl ⟨rfl,rfl,rfl,rfl,trivial⟩ tY_ tZ_ uh_ (by decide) (fill2 rfl rfl) (by simp) ?_;intro g i F j k G;replace hB:=hB.stp k;obtain⟨d,f,hF⟩:=a_ hF;refine Zo ?_;refine o_ (dE_ fuel i _ c.Edges (A.keep hB.keeps) _ ([a,b]:Yl) j.z d f) uS_ ⟨rfl,rfl,trivial⟩ ?_;rintro H I ⟨rfl,m⟩;have q:=m.stp 999 g;refine⟨_,rfl,?_⟩;replace hB:=hB.stp q;refine Za rfl (Ze [(6,_)] (nx (n_ ?_)));have s:=Zj hF;subst s;refine Zr Tryz.results125 [.bool d] ?_;exact⟨rfl,hB.keeps⟩
end
end Go.Proofs.YtdbbeldgdgonfaaGreat
