/- Part 14 of what this claim rests on (pack.py). -/
import Derived.Test.YtdbbeldgdgonfaaGreatP13
namespace Go.Proofs.YtdbbeldgdgonfaaGreat
open Tryz renaming prog→wQ_, underlying41→wR_, sizeOf28→wU_, underlying28→wW_, sizeOf3→wS_, isAgg3→wT_, results83→yi_, call66→xl_, isAgg90→xt_, sizeOf90→xu_, call82→zq_, zeroValue3→xd_, call83→zr_, isAgg28→wX_, call47→xz_, underlying87→xr_, sizeOf4→xA_, results54→yj_, sizeOf22→wZ_, isAgg22→xb_, call81→zs_
set_option linter.unusedSimpArgs false
set_option linter.unusedVariables false
section
set_option maxRecDepth 100000
set_option maxHeartbeats 2000000
open Go.RowKit
theorem lT_:Inf wQ_ 3 (.int .i64 0) 1 8:=by unfold Inf;kernel_rfl
def ch_(fuel:Nat)(m:H_)(f:List Int)(n:List Int)(self:H_->(List Int)->(List Int)->Option ((List Int)×Bool)):Int->Int->Unit->Option (Lp Unit Unit ((List Int)×Bool)):=λ(q:Int)(b:Int)(s:Unit)=>
  (dd_ n)>>=λc=>
  (shl 1 b)>>=λg=>
  (ix c (f.length:Int))>>=λu=>
  (st c (f.length:Int) g)>>=λi=>
  (bO_ fuel m i)>>=λd=>
  if d.2 then
    (dd_ f)>>=λj=>
    (push j b)>>=λk=>
    (self m k d.1)>>=λa=>
    if a.2 then
      some (.ret (a.1,true))
    else
      some (.go ())
  else
    some (.go ())
def aW_:Nat->H_->(List Int)->(List Int)->Option ((List Int)×Bool)
  |0=>λ_ _ _=>none
  | fuel+1=>λf a g=>
    if(a.length:Int)==f.p.Labels then
      some (a,true)
    else
      (ix g (a.length:Int))>>=λb=>
      (cF_ fuel b)>>=λc=>
      (forI (ch_ fuel f a g (aW_ fuel)) c 0 ())>>=λd=>
      match d with
      | .inl _=>
        some ([],false)
      | .inr r'=>some r'
def hx_(oo:Tg)(t:Nat)(w:World)(r:Yl×Bool):Ending->World->Prop:=λe w'=>∃(a:Value)(o':Tg),e=.returned (.tuple #[a,.bool r.2])∧Of 3 o' w' a r.1∧Keeps w w'∧∀b,b<w.heap.size->o' b=oo b
theorem kk_(fuel:Nat):∀(w:World)(oo:Tg)(t:Nat)(ht:2<=t)(i2:List Value)(u:H_)(d3:Rp.rd oo w i2 u)(D:Value)(Z:Yl)(B:Of 3 oo w D Z)(I:Value)(d2:Yl)(i3:RdL zt w I d2)(r:Yl×Bool)(hF:aW_ fuel u Z d2=some r),Calls wQ_ 83 #[.agg i2.toArray,D,I] w (hx_ oo t w r):=by
 induction fuel with
 |zero=>
  intro w oo t ht i2 u d3 D Z B I d2 i3 r hF;unfold aW_ at hF;cases hF
 | succ fuel ih=>
  intro w oo t ht i2 u d3 D Z B I d2 i3 r hF;unfold aW_ at hF;replace d3:=Rp.col d3;obtain⟨b9,c0,c1,c2,c3,N,rfl,E,F,G,H,b,d⟩:=d3;replace B:=B.col;have g1r:=B.rd;have hB:Bs oo (col oo) w w:=Bs.start _ _;refine i_ (n:=62) (vs:=[.agg #[ZI u.p.Labels,ZI u.p.Degree,b9,c0,ZI u.q.Labels,ZI u.q.Degree,c1,c2,c3,N],D,I]) Tryz.func83 rfl rfl ?_;generalize col oo=o at*;refine Zq (Zo ?_);refine as_ (o:=o) w.heap.size 11 hB.keeps.size (cs:=[ZI u.p.Labels,ZI u.p.Degree,b9,c0,ZI u.q.Labels,ZI u.q.Degree,c1,c2,c3,N]) rfl rfl ?_;intro d4 i4 s m i5;obtain⟨g1r,B,E,F,G,H,b,d,hB⟩:=ZS i5 (A8 g1r B E F G H b (A2 d hB));refine Za rfl (Za rfl (Ze [(1,_),(2,_),(3,_)] (nx (c_ (Zq (Zm rfl (Zv (B_ rfl g1r wR_) (Zv (m_ rfl Tryz.underlying90 rfl wU_) (Zv (m_ rfl wW_ rfl wS_) (Zv (e_ rfl wT_ (m.cell rfl)) (Zv (cD_ rfl rfl) (Ze [(1,_),(2,_),(3,_),(20,_)] ?_))))))))))));refine nx ?_;refine l_ rfl (λc4=>?_) (λc4=>?_)
  ·rw[if_pos c4] at hF;refine Zq (Zm rfl (Za rfl (Za rfl (Ze [(6,_),(7,_)] (nx (j_ (y_ ?_)))))));have i6:=Zj hF;subst i6;refine Zr yi_ [D,.bool true] ?_;exact⟨_,rt oo d4 w.heap.size 9 t,rfl,B.rt hB 9 t (by decide),hB.keeps,am_ _ _ _ _ _⟩
  ·replace hF:=ZF c4 hF;refine g_ (nx (c_ (Zq (Zm rfl (Zm rfl (Zv (B_ rfl g1r wR_) ?_))))));obtain⟨i7,d5,hF⟩:=a_ hF;refine Zo ?_;refine wf_atZ i3 d5 hB rfl rfl wR_ wS_ ?_;intro o7 o8 o9 i8 i9;cases i9
   refine Zv (e_ rfl wT_ (k_ i8)) ?_;obtain⟨f,d6,hF⟩:=a_ hF;refine Zo ?_;refine o_ (gS_ fuel i4 d4 12 (by decide) i7 f d6) Tryz.call123 ⟨rfl,trivial⟩ ?_;rintro p0 p1 ⟨y,j0,rfl,k,j1,j2⟩;have j3:=j1.stp' 12 j2;replace k:=k.mono hB.keeps.size;refine⟨_,rfl,?_⟩;obtain⟨g1r,B,m,E,F,G,H,b,d,hB⟩:=ZS j3 (A8 g1r B m E F G H (A3 b d hB));refine Zv (bC_ rfl k wR_) (Zm rfl (Ze [(1,_),(2,_),(3,_),(27,_),(28,_),(29,_)] (nx ?_)));obtain⟨c5,d7,hF⟩:=a_ hF;refine v_ (λa C=>∃(A:Tg),c5=.inl ()∧Fr a 62 []∧Bs oo A w C) (λa w'=>∃r',c5=.inr r'∧bodyPost wQ_ Tryz.f83 (hx_ oo t w r') .ret a w') ?_ ?_ ?_
   ·refine f_ ?_;refine w_ (λ(K:Nat) a C=>∃(g:Int),∃(A:Tg),forI (ch_ fuel u Z d2 (aW_ fuel)) (f.drop g.toNat) g ()=some c5∧(f.drop g.toNat).length=K∧0<=g∧Fr a 62 [(1,D),(2,I),(3,ZP s),(27,y),(28,ZI (f.length:Int)),(29,ZI g)]∧Bs oo A w C∧RdL A C D Z∧Of 3 A C D Z∧Oz w 3 12 A C y f∧Bz w 11 A C s 90 [ZI u.p.Labels,ZI u.p.Degree,b9,c0,ZI u.q.Labels,ZI u.q.Degree,c1,c2,c3,N]∧RdL A C b9 (u.p.Nodes:Yk)∧RdL A C c0 (u.p.Edges:Yk)∧RdL A C c1 (u.q.Nodes:Yk)∧RdL A C c2 (u.q.Edges:Yk)∧RdL A C c3 (u.nodes:List Bool)∧RdL A C N (u.edges:List Bool)) _ (λa ha=>⟨0,j0,d7,rfl,Int.le_refl 0,ha.sb,hB,g1r,B,k,m,E,F,G,H,b,d⟩) ?_;rintro K42 a C ⟨g,A,d8,d9,j4,ha,hB,g1r,B,k,m,E,F,G,H,b,d⟩;by_cases a3:g<(f.length:Int)
    ·obtain⟨J,p2,e0,i,c6⟩:=R_ j4 a3 d8;have hle:=k.len_le;dsimp only[ch_] at i;refine J_ ha ?_;refine Zq (Zv (r_ rfl rfl) (Ze [(1,_),(2,_),(3,_),(27,_),(28,_),(29,_),(30,_)] (nx (c_ ?_))));refine L_ (Zb (decide_eq_true a3)) ?_;refine g_ (nx (c_ (f_ (Zq (Zo ?_)))));refine gE_ k e0 rfl rfl wR_ wS_ ?_;intro p3 p4 p5 j5 j6;cases j6
     refine Zv (e_ rfl wT_ (k_ j5)) (Za rfl (Ze [(1,_),(2,_),(3,_),(9,_),(27,_),(28,_),(29,_)] (Zn (Zm rfl ?_))));obtain⟨j7,e1,i⟩:=a_ i;refine Zo ?_;refine o_ (eB_ C A 13 (by decide) _ d2 (i3.keep hB.keeps) j7 e1) xl_ ⟨rfl,trivial⟩ ?_;rintro p6 p7 ⟨e2,j8,rfl,a4,j9,k0⟩;have k1:=j9.stp' 13 k0;replace a4:=a4.mono hB.keeps.size;refine⟨_,rfl,?_⟩;obtain⟨g1r,B,k,m,E,F,G,H,b,d,hB⟩:=ZS k1 (A8 g1r B k m E F G (A4 H b d hB));refine Za rfl (Ze [(1,_),(2,_),(3,_),(9,_),(10,_),(27,_),(28,_),(29,_)] (Zn (Zm rfl (Zm rfl (Zv (B_ rfl g1r wR_) (Zm rfl ?_))))));obtain⟨p8,e3,i⟩:=a_ i;refine Zv (gL_ rfl rfl e3) ?_;obtain⟨p9,e4,i⟩:=a_ i;refine Zo ?_;refine fC_ a4 e4 rfl rfl wR_ wS_ ?_;intro q0 q1 k2 q2 k3;cases k3
     obtain⟨k4,e5,i⟩:=a_ i;refine Z_ trivial ?_;refine cf_ a4 k2 e5 rfl (by decide) rfl rfl rfl wS_ rfl ?_;intro k5 k6 k7;obtain⟨g1r,B,k,m,E,F,G,H,b,d,hB⟩:=ZS k7 (A8 g1r B k m E F G (A4 H b d hB));refine Ze [(1,_),(2,_),(3,_),(9,_),(10,_),(27,_),(28,_),(29,_)] (Zn (Zv (E_ rfl xt_ xu_ rfl m.cells) (Zm rfl ?_)));obtain⟨a0,e6,i⟩:=a_ i;refine Zo ?_;refine o_ (gp_ fuel k5 j8 14 (by decide) _ u (⟨_,_,_,_,_,_,rfl,E,F,G,H,b,d⟩) _ k4 k6.z a0 e6) zq_ ⟨rfl,rfl,trivial⟩ ?_;rintro q3 q4 ⟨a5,k8,rfl,M,k9,l0⟩;have l1:=k9.stp' 14 l0;replace M:=M.mono hB.keeps.size;refine⟨_,rfl,?_⟩;obtain⟨g1r,B,k,E,F,G,H,b,d,m,hB⟩:=ZS l1 (A8 g1r B k E F G H (A4 b d m hB));refine Zm rfl (Zv (t_ rfl rfl) (Zv (t_ rfl rfl) (Za rfl (Za rfl (Ze [(1,_),(2,_),(3,_),(9,_),(11,_),(12,_),(27,_),(28,_),(29,_)] (Zn (Zm rfl (Ze [(1,_),(2,_),(3,_),(9,_),(11,_),(27,_),(28,_),(29,_),(47,_)] (nx ?_)))))))));refine l_ rfl (λc7=>?_) (λc7=>?_)
     ·rw[if_pos c7] at i;refine c_ ?_;obtain⟨c8,e7,i⟩:=a_ i;obtain⟨c9,e8,i⟩:=a_ i;obtain⟨x,d0,i⟩:=a_ i;refine ZW (Bf:=λX Y=>Bs oo X w Y∧RdL X Y D Z∧Of 3 X Y D Z∧Oz w 3 14 X Y a5 (a0.1:Yl)∧Oz w 3 12 X Y y f∧Bz w 11 X Y s 90 [ZI u.p.Labels,ZI u.p.Degree,b9,c0,ZI u.q.Labels,ZI u.q.Degree,c1,c2,c3,N]∧RdL X Y b9 (u.p.Nodes:Yk)∧RdL X Y c0 (u.p.Edges:Yk)∧RdL X Y c1 (u.q.Nodes:Yk)∧RdL X Y c2 (u.q.Edges:Yk)∧RdL X Y c3 (u.nodes:List Bool)∧RdL X Y N (u.edges:List Bool)) [(1,_),(2,_),(3,_),(9,_),(11,_),(27,_),(28,_),(29,_)] (Zrg 49 8++[48,57,58,13]) [[],[],[1],[],[3],[2,4],[],[0,5,6],[7],[8],[8],[9]] [none,none,some 5,none,none,none,none,none,none,none,none,none] [999,999,999,999,999,15,999,999,999,999,999,999] [0,0,15,0,0,15,0,15,15,15,0,15] [15,999] [.inl (.agg #[ZI u.p.Labels,ZI u.p.Degree,b9,c0,ZI u.q.Labels,ZI u.q.Degree,c1,c2,c3,N]),.inl D,.inr (λv o V=>Oz w 3 15 o V v c8),.inl (ZI J),.inr (λv o V=>RdL o V v (([J]:Yl):Yl)),.inr (λv o V=>Oz w 3 15 o V v c9),.inl a5,.inr (λv o V=>∃a6,v=.tuple #[a6,.bool x.2]∧Of 3 (frz 15 o) V a6 (x.1:Yl)),.inr (λv o V=>∃a6,v=.tuple #[a6,.bool x.2]∧Of 3 (frz 15 o) V a6 (x.1:Yl)),.inr (λv o V=>Of 3 (frz 15 o) V v (x.1:Yl)),.inl (.bool x.2),.inr (λv o V=>Of 3 (frz 15 o) V v (x.1:Yl))] ⟨hB,g1r,B,M,k,m,E,F,G,H,b,d⟩ ⟨λ_ _ _ _ _ _ W hb h hs=>h.stp hs W.1 (Ne.symm hb),λ_ _ _ _ _ _ W hb h hs=>h.stp hs W.1,λ_ _ _ _ _ _ W hb h hs=>h.stp hs W.1 (Ne.symm hb),λ_ _ _ _ _ _ W hb ⟨a6,e,d1⟩ hs=>⟨a6,e,d1.stpF hs W.1 hb⟩,λ_ _ _ _ _ _ W hb ⟨a6,e,d1⟩ hs=>⟨a6,e,d1.stpF hs W.1 hb⟩,λ_ _ _ _ _ _ W hb h hs=>h.stpF hs W.1 hb,λ_ _ _ _ _ _ W hb h hs=>h.stpF hs W.1 hb,trivial⟩ ?_ ?_
      ·refine⟨Dq λh=>E_ rfl xt_ xu_ rfl h.2.2.2.2.2.1.cells,Dp (h_ rfl),?_,Dp (h_ rfl),?_,?_,Dp (h_ rfl),?_,?_,?_,?_,?_,trivial⟩
       ·rintro e9 f0 l2 ha ⟨hB,g1r,B,M,k,m,E,F,G,H,b,d⟩-;refine Zs ha ?_;refine o_ (eB_ f0 e9 15 (by decide) _ Z g1r.z c8 e7) xl_ ⟨rfl,trivial⟩ ?_;rintro l3 l4 ⟨l5,l6,rfl,a1,f1,f2⟩;have a7:=f1.stp' 999 f2;replace a1:=a1.mono hB.keeps.size;refine⟨_,rfl,?_⟩;obtain⟨g1r,B⟩:=ZS a7 (A2 g1r B);exact⟨_,a7,a1⟩
       ·rintro f3 l7 l8 ha ⟨hB,g1r,B,M,k,m,E,F,G,H,b,d⟩-;refine Zs ha ?_;refine au_ (o:=f3) (cs:=[ZI J]) (xs:=([J]:Yl)) (vs:=[(0,ZI J)]) ⟨_,_,rfl,rfl,rfl⟩ rfl ⟨rfl,rfl,trivial⟩ wR_ wS_ xd_ (by decide) (fill1 rfl) (by simp) ?_;intro l9 m0 m1 f4 a8 m2;obtain⟨g1r,B⟩:=ZS a8 (A2 g1r B);exact⟨_,a8,f4⟩
       ·rintro a9 b0 O ha ⟨hB,g1r,B,M,k,m,E,F,G,H,b,d⟩ ⟨Q,L,-⟩;replace Q:Oz w 3 15 a9 b0 (O.tmps.getD 51 undef) c8:=Q;generalize f5:O.tmps.getD 51 undef=m3 at Q;have ha:=ha.c f5;replace L:RdL a9 b0 (O.tmps.getD 53 undef) (([J]:Yl):Yl):=L;generalize f6:O.tmps.getD 53 undef=m4 at L;have ha:=ha.c f6;refine Zs ha ?_;refine aT_ Q L (ai_ e8) (by decide) hB.keeps.size rfl rfl wR_ lT_ rfl (by decide) ?_;intro m5 m6 m7 f7 b1;obtain⟨g1r,B,L⟩:=ZS b1 (A3 g1r B L);exact⟨_,b1,f7⟩
       ·rintro b2 b3 b4 ha ⟨hB,g1r,B,M,k,m,E,F,G,H,b,d⟩ ⟨R,-⟩;replace R:Oz w 3 15 b2 b3 (b4.tmps.getD 54 undef) c9:=R;generalize f8:b4.tmps.getD 54 undef=m8 at R;have ha:=ha.c f8;refine Zs ha ?_;refine o_ (vM_ 15 (ih b3 (frz 15 b2) 17 (by decide) _ u (⟨_,_,_,_,_,_,rfl,E.frz 15,F.frz 15,G.frz 15,H.frz 15,b.frz 15,d.frz 15⟩) _ c9 R.frzF _ a0.1 M.z x d0)) zr_ ⟨rfl,rfl,rfl,trivial⟩ ?_;rintro m9 n0 ⟨n1,n2,rfl,f9,g0,g1⟩;have b5:=g0.stp' 999 g1;refine⟨_,rfl,?_⟩;obtain⟨g1r,B⟩:=ZS b5 (A2 g1r B);exact⟨_,b5,⟨_,rfl,f9⟩⟩
       ·rintro n3 n4 n5 ha- ⟨g2,-⟩;obtain⟨n6,g3,g4⟩:=g2;have ha:=ha.c g3;refine Zs ha ?_;refine M_ (h_ rfl) ?_;exact⟨_,Stp.refl _ _ _,⟨_,rfl,g4⟩⟩
       ·rintro n7 n8 n9 ha- ⟨g5,-⟩;obtain⟨o0,g6,g7⟩:=g5;have ha:=ha.c g6;refine Zs ha ?_;refine M_ (t_ rfl rfl) ?_;exact⟨_,Stp.refl _ _ _,g7⟩
       ·rintro o1 o2 o3 ha- ⟨g8,-⟩;obtain⟨o4,g9,o5⟩:=g8;have ha:=ha.c g9;refine Zs ha ?_;refine M_ (t_ rfl rfl) ?_;exact Zx rfl
       ·rintro h0 h1 b6 ha- ⟨S,-⟩;replace S:Of 3 (frz 15 h0) h1 (b6.tmps.getD 57 undef) (x.1:Yl):=S;generalize h2:b6.tmps.getD 57 undef=o6 at S;have ha:=ha.c h2;refine Zs ha ?_;refine M_ (ao_ rfl) ?_;exact⟨_,Stp.refl _ _ _,S⟩
      rintro _ rfl o207z h3 b7 ha ⟨hB,g1r,B,M,k,m,E,F,G,H,b,d⟩ ⟨-,-,-,-,-,T,-⟩;replace T:Of 3 (frz 15 o207z) h3 (b7.tmps.getD 13 undef) (x.1:Yl):=T;generalize h4:b7.tmps.getD 13 undef=U at T;have ha:=ha.c h4;replace hB:=hB.frz 15 (by decide);replace g1r:=g1r.frz 15;replace B:=B.frz 15 (by decide);replace k:=k.frz_ne (j:=15) (by decide);replace m:=m.frz_ne (j:=15) (by decide);replace E:=E.frz 15;replace F:=F.frz 15;replace G:=G.frz 15;replace H:=H.frz 15;replace b:=b.frz 15;replace d:=d.frz 15;generalize frz 15 o207z=b8 at*;refine aH_ ha ?_;refine Za rfl (Ze [(1,_),(2,_),(3,_),(13,_),(14,_),(27,_),(28,_),(29,_)] (Zn (Zm rfl (Ze [(1,_),(2,_),(3,_),(13,_),(27,_),(28,_),(29,_),(59,_)] (nx ?_)))));refine l_ rfl (λa2=>?_) (λa2=>?_)
      ·rw[if_pos a2] at i;refine Zq (Zm rfl (Za rfl (Za rfl (Ze [(6,_),(7,_)] (nx (j_ (W_ (y_ (y_ (W_ ?_))))))))));refine bg_ ?_;have h5:=Zj i;subst h5;refine λa ha=>⟨_,c6,?_⟩;refine D_ (P:=wQ_) (vs:=[U,.bool true]) yi_ ⟨rfl,rfl,trivial⟩ ?_ a ha;exact⟨_,rt oo b8 w.heap.size 9 t,rfl,T.rt hB 9 t (by decide),hB.keeps,am_ _ _ _ _ _⟩
      ·replace i:=ZF a2 i;refine g_ (x_ (nx (d_ (Zv (C_ rfl rfl (F_ (by omega) (by omega))) (Zm rfl (Ze [(1,_),(2,_),(3,_),(27,_),(28,_),(29,_)] (u_ ?_)))))));have h6:=Zj i;subst h6;refine Zk [(1,_),(2,_),(3,_),(27,_),(28,_),(29,_)] ?_;intro a ha;exact⟨_,(by rw[<-d9];simp only[List.length_drop];omega),g+1,b8,c6,rfl,by omega,ha,hB,g1r,B,k,m,E,F,G,H,b,d⟩
     ·replace i:=ZF c7 i;refine g_ (x_ (nx (d_ (Zv (C_ rfl rfl (F_ (by omega) (by omega))) (Zm rfl (Ze [(1,_),(2,_),(3,_),(27,_),(28,_),(29,_)] (u_ ?_)))))));have h7:=Zj i;subst h7;refine Zk [(1,_),(2,_),(3,_),(27,_),(28,_),(29,_)] ?_;intro a ha;exact⟨_,(by rw[<-d9];simp only[List.length_drop];omega),g+1,k8,c6,rfl,by omega,ha,hB,g1r,B,k,m,E,F,G,H,b,d⟩
    ·have h8:=S_ a3 d8;refine J_ ha ?_;refine Zq (Zv (r_ rfl rfl) (Ze [(1,_),(2,_),(3,_),(27,_),(28,_),(29,_),(30,_)] (nx (c_ ?_))));refine G_ (Zb (decide_eq_false a3)) ?_;refine s_ ?_;refine n_ (n_ (N_ ?_));refine p_ ?_;refine Zk [] ?_;intro a ha;exact⟨A,h8,ha,hB⟩
   ·rintro a C ⟨A,rfl,ha,hB⟩;dsimp only at hF;refine ap_k ha ?_;refine Zn (Za rfl (Za rfl (Ze [(6,_),(7,_)] (nx (j_ ?_)))));have h9:=Zj hF;subst h9;refine Zr yi_ [.slice none 0 0,.bool false] ?_;exact⟨_,rt oo A w.heap.size 9 t,rfl,Of.nil _ _ _,hB.keeps,am_ _ _ _ _ _⟩
   ·rintro a C ⟨r',rfl,i0⟩;dsimp only at hF;have i1:=Zj hF;subst i1;exact i0
end
section
set_option maxRecDepth 100000
set_option maxHeartbeats 2000000
open Go.RowKit
theorem iB_:Inf wQ_ 3 (.int .i64 0) 1 8:=by unfold Inf;kernel_rfl
theorem lm_:Inf wQ_ 4 (.bool false) 1 1:=by unfold Inf;kernel_rfl
theorem gA_:(wQ_.info? 90).map (·.size)=some 10:=by kernel_rfl
def ju_(fuel:Nat)(d:b_)(f:b_):Option Bool:=
  (eC_ fuel d)>>=λa=>
  (
    if a then
      (eC_ fuel f)>>=λb=>
      if b then
        some (d.Degree==f.Degree)
      else
        some false
    else
      some false)>>=λc=>
  some c
def vn_(w:World)(r:Bool):Ending->World->Prop:=λe w'=>e=.returned (.bool r)∧Keeps w w'
theorem vj_(fuel:Nat)(w:World)(N:List Value)(k:b_)(T:Rp.rd zt w N k)(O:List Value)(m:b_)(U:Rp.rd zt w O m)(r:Bool)(hF:ju_ fuel k m=some r):
    Calls wQ_ 80 #[.agg N.toArray,.agg O.toArray] w (vn_ w r):=by
 unfold ju_ at hF;obtain⟨P,Q,rfl,V,W⟩:=T;obtain⟨R,S,rfl,X,Y⟩:=U;have hB:Bs (λ_=>1) (col (λ_=>1)) w w:=Bs.start _ _;refine i_ (n:=18) (vs:=[.agg #[ZI k.Labels,ZI k.Degree,P,Q],.agg #[ZI m.Labels,ZI m.Degree,R,S]]) Tryz.func80 rfl rfl ?_;refine Zq (Zo ?_);refine as_ (o:=(col (λ_=>1))) w.heap.size 11 hB.keeps.size (cs:=[ZI k.Labels,ZI k.Degree,P,Q]) rfl rfl ?_;intro Z a0 B g C;replace hB:=hB.stp C;refine Zo ?_;refine as_ (o:=Z) w.heap.size 12 hB.keeps.size (cs:=[ZI m.Labels,ZI m.Degree,R,S]) rfl rfl ?_;intro q D E i F;obtain⟨g,hB⟩:=ZS F (A2 g hB);refine Za rfl (Ze [(2,_),(3,_)] (Zn (Zv (E_ rfl wX_ wU_ rfl g.cells) ?_)));obtain⟨u,v,hF⟩:=a_ hF;refine Zo ?_;refine o_ (gu_ fuel D _ k (⟨_,_,rfl,V.keep hB.keeps,W.keep hB.keeps⟩) u v) xz_ ⟨rfl,trivial⟩ ?_;rintro a1 j ⟨rfl,G⟩;have H:=G.stp 999 q;refine⟨_,rfl,?_⟩;obtain⟨g,i,hB⟩:=ZS H (A3 g i hB);refine Zm rfl ?_;obtain⟨s,c,hF⟩:=a_ hF;refine bc_ 10 (λI x=>Fr I 18 [(17,.bool s)]∧Keeps j x) ?_ ?_;all_goals simp only[List.take_succ_cons,List.take_zero,List.drop_succ_cons,List.drop_zero]
 ·have kp:Keeps j j:=Keeps.refl _;rcases Bool.eq_false_or_eq_true (u) with f|f
  ·rw[if_pos f] at c;refine q_ (E_ rfl wX_ wU_ rfl i.cells) (by decide) ⟨_,rfl,Zb f⟩ ?_;obtain⟨y,z,c⟩:=a_ c;refine cJ_ (by decide) ⟨_,rfl,Zb f⟩ ?_;refine o_ (gu_ fuel j _ m (⟨_,_,rfl,X.keep hB.keeps,Y.keep hB.keeps⟩) y z) xz_ ⟨rfl,trivial⟩ ?_;rintro a2 a3 ⟨rfl,A⟩;have J:=A.stp 999 q;refine⟨_,rfl,?_⟩;obtain⟨g,i⟩:=ZS J (A2 g i);replace kp:=Keeps.trans kp A;refine Zv (P_ (Zb f) rfl) (Zm rfl ?_);rcases Bool.eq_false_or_eq_true (y) with b|b
   ·rw[if_pos b] at c;refine q_ (m_ rfl wW_ rfl wS_) (by decide) ⟨_,rfl,Zb b⟩ (q_ (e_ rfl wT_ (g.cell rfl)) (by decide) ⟨_,rfl,Zb b⟩ (q_ (m_ rfl wW_ rfl wS_) (by decide) ⟨_,rfl,Zb b⟩ (q_ (e_ rfl wT_ (i.cell rfl)) (by decide) ⟨_,rfl,Zb b⟩ (q_ (cD_ rfl rfl) (by decide) ⟨_,rfl,Zb b⟩ (Zv (P_ (Zb b) rfl) ?_)))));have d:=Zj c;refine Ze [(17,_)] ?_;subst d;refine p_ (λa ha=>⟨ha,kp⟩)
   ·replace c:=ZF b c;refine A_ rfl rfl (by rw[b];rfl) (by decide) ?_;refine A_ rfl rfl (by rw[b];rfl) (by decide) ?_;refine A_ rfl rfl (by rw[b];rfl) (by decide) ?_;refine A_ rfl rfl (by rw[b];rfl) (by decide) ?_;refine A_ rfl rfl (by rw[b];rfl) (by decide) ?_;refine Zv (I_ (Zb b) rfl) ?_;have d:=Zj c;refine Ze [(17,_)] ?_;subst d;refine p_ (λa ha=>⟨ha,kp⟩)
  ·replace c:=ZF f c;refine A_ rfl rfl (by rw[f];rfl) (by decide) ?_;refine A_ rfl rfl (by rw[f];rfl) (by decide) ?_;refine Zv (I_ (Zb f) rfl) (Zm rfl ?_);refine A_ rfl rfl rfl (by decide) ?_;refine A_ rfl rfl rfl (by decide) ?_;refine A_ rfl rfl rfl (by decide) ?_;refine A_ rfl rfl rfl (by decide) ?_;refine A_ rfl rfl rfl (by decide) ?_;refine Zv (I_ rfl rfl) ?_;have d:=Zj c;refine Ze [(17,_)] ?_;subst d;refine p_ (λa ha=>⟨ha,kp⟩)
 rintro a4 x ⟨ha,K⟩;have L:=K.stp 999 q;replace hB:=hB.stp L;refine aH_ ha ?_;refine Za rfl (Ze [(4,_)] (nx (j_ ?_)));have M:=Zj hF;subst M;refine Zr Tryz.results80 [.bool s] ?_;exact⟨rfl,hB.keeps⟩
def dR_(c:Int)(d:Int):(Int×Int)->Option (Lp (Int×Int) (Int×Int) (List Bool)):=λ(s:Int×Int)=>
  if decide (s.2<d) then
    (ck (s.1*c))>>=λa=>
    (ck (s.2+1))>>=λb=>
    some (.go (a,b))
  else
    some (.out (s.1,s.2))
def dc_(d:Int)(f:Int):((List Int)×Int)->Option (Lp ((List Int)×Int) ((List Int)×Int) (List Bool)):=λ(s:(List Int)×Int)=>
  if decide ((s.1.length:Int)<f) then
    (rem s.2 d)>>=λa=>
    (push s.1 a)>>=λb=>
    (quo s.2 d)>>=λc=>
    some (.go (b,c))
  else
    some (.out (s.1,s.2))
def eJ_(fuel:Nat)(i:List (List Int))(j:Int)(k:Int):Int->(List Bool)->Option (Lp (List Bool) (List Bool) (List Bool)):=λ(a:Int)(s:List Bool)=>
  (loopF (dc_ j k) fuel ([],a))>>=λc=>
  match c with
  | .inl (d,m)=>
    (dC_ fuel d)>>=λf=>
    (gg_ i f)>>=λg=>
    (ix s a)>>=λn=>
    (st s a g)>>=λb=>
    some (.go b)
  | .inr _=>none
def fM_(fuel:Nat)(g:List (List Int))(d:Int)(f:Int):Option (List Bool):=
  (loopF (dR_ d f) fuel (1,0))>>=λi=>
  match i with
  | .inl (j,k)=>
    (mk (Rz.z:Bool) j)>>=λa=>
    ck (a.length:Int)>>=λ_=>
    (forN (eJ_ fuel g d f) ((a.length:Int)).toNat 0 a)>>=λb=>
    match b with
    | .inl c=>
      some c
    | .inr _=>none
  | .inr _=>none
def rI_(oo:Tg)(t:Nat)(w:World)(r:List Bool):Ending->World->Prop:=λe w'=>∃(a:Value)(o':Tg),e=.returned (a)∧RdL o' w' a r∧Keeps w w'∧∀b,b<w.heap.size->o' b=oo b
theorem mD_(fuel:Nat)(w:World)(oo:Tg)(t:Nat)(ht:2<=t)(j:Value)(b8:Yk)(e9:RdL zt w j b8)(i:Int)(g:Int)(r:List Bool)(hF:fM_ fuel b8 i g=some r):
    Calls wQ_ 81 #[j,.int .i64 i,.int .i64 g] w (rI_ oo t w r):=by
 unfold fM_ at hF;have hB:Bs oo (col oo) w w:=Bs.start _ _;refine i_ (n:=51) (vs:=[j,ZI i,ZI g]) Tryz.func81 rfl rfl ?_;generalize col oo=o at*;refine Zq (Za rfl (Ze [(0,_),(1,_),(2,_)] (Zn (Za rfl (Ze [(0,_),(1,_),(2,_),(7,_)] (nx (c_ (Zq (Za rfl (Ze [(0,_),(1,_),(2,_),(7,_),(8,_)] (nx ?_)))))))))));obtain⟨e7,b9,hF⟩:=a_ hF;refine v_ (λa S=>∃(E:Int)(F:Int),∃(J:Tg),e7=.inl (E,F)∧Fr a 51 [(0,j),(1,ZI i),(2,ZI g),(7,ZI E)]∧Bs oo J w S) (λ_ _=>False) ?_ ?_ ?_
 ·refine f_ ?_;refine w_ (λ(K:Nat) a S=>∃(E:Int)(F:Int),∃(J:Tg),loopF (dR_ i g) K (E,F)=some e7∧Fr a 51 [(0,j),(1,ZI i),(2,ZI g),(7,ZI E),(8,ZI F)]∧Bs oo J w S) fuel (λa ha=>⟨1,0,o,b9,ha.sb,hB⟩) ?_;rintro K9 a S ⟨E,F,J,f0,ha,hB⟩;obtain⟨K13,f1,f2,A,T⟩:=X_ f0;dsimp only[dR_] at A;refine J_ ha ?_;refine c_ (Zq (Zm rfl (Zm rfl (Zv (r_ rfl rfl) (Ze [(0,_),(1,_),(2,_),(7,_),(8,_),(15,_)] (nx ?_))))));refine l_ rfl (λL=>?_) (λL=>?_)
  ·rw[if_pos L] at A;refine g_ (nx (c_ (f_ (d_ (Zm rfl (Zm rfl ?_))))));obtain⟨G,U,A⟩:=a_ A;refine Zv (kb_ rfl rfl U) (Za rfl (Ze [(0,_),(1,_),(2,_),(7,_),(8,_)] (x_ (nx (d_ (Zm rfl ?_))))));obtain⟨M,V,A⟩:=a_ A;refine Zv (C_ rfl rfl V) (Za rfl (Ze [(0,_),(1,_),(2,_),(7,_),(8,_)] (u_ ?_)));have c0:=Zj A;subst c0;refine Zk [(0,_),(1,_),(2,_),(7,_),(8,_)] ?_;intro a ha;exact⟨K13,by omega,G,M,J,T,ha,hB⟩
  ·replace A:=ZF L A;refine s_ ?_;refine n_ (n_ (N_ ?_));refine p_ ?_;have c1:=Zj A;subst c1;refine Zk [(0,_),(1,_),(2,_),(7,_)] ?_;intro a ha;exact⟨E,F,J,T,ha,hB⟩
 ·rintro a S ⟨E,F,J,rfl,ha,hB⟩;dsimp only at hF;refine ap_k ha ?_;refine Zn (Zm rfl ?_);obtain⟨d,W,hF⟩:=a_ hF;refine Zo ?_;refine hn_ (o:=J) w.heap.size 11 hB.keeps.size W rfl rfl xr_ lm_ rfl (by decide) ?_;intro c2 f3 c X c3;replace hB:=hB.stp c3;refine Za rfl (Ze [(0,_),(1,_),(2,_),(9,_)] (nx (c_ (Zq (Zm rfl (Zv (bC_ rfl X xr_) (Zm rfl (Ze [(0,_),(1,_),(2,_),(9,_),(24,_),(25,_)] (nx ?_)))))))));obtain⟨f4,c4,hF⟩:=a_ hF;obtain⟨-,h32a,h32b⟩:=bV_ c4;obtain⟨Y,Z,hF⟩:=a_ hF;refine v_ (λa C=>∃u q,Y=.inl u∧Fr a 51 [(9,c)]∧Bs oo q w C∧Oz w 4 11 q C c u) (λ_ _=>False) ?_ ?_ ?_
  ·refine f_ ?_;refine w_ (λ(K:Nat) a C=>∃(b:Int),∃u q,forN (eJ_ fuel b8 i g) ((d.length:Int)-b).toNat b u=some Y∧((d.length:Int)-b).toNat=K∧0<=b∧Fr a 51 [(0,j),(1,ZI i),(2,ZI g),(9,c),(24,ZI (d.length:Int)),(25,ZI b)]∧Bs oo q w C∧Oz w 4 11 q C c u) _ (λa ha=>⟨0,d,c2,(by rw[Int.sub_zero];exact Z),rfl,Int.le_refl 0,ha.sb,hB,X⟩) ?_;rintro K37 a C ⟨b,u,q,a0,c5,f5,ha,hB,f⟩;by_cases H:b<(d.length:Int)
   ·obtain⟨f6,k,c6⟩:=bv_ H a0;dsimp only[eJ_] at k;refine J_ ha ?_;refine Zq (Zv (r_ rfl rfl) (Ze [(0,_),(1,_),(2,_),(9,_),(24,_),(25,_),(26,_)] (nx (c_ ?_))));refine L_ (Zb (decide_eq_true H)) ?_;refine g_ (nx (c_ (f_ (Zq (Zm rfl (Za rfl (Ze [(0,_),(1,_),(2,_),(9,_),(10,_),(24,_),(25,_)] (Zn (Za rfl (Ze [(0,_),(1,_),(2,_),(9,_),(10,_),(11,_),(24,_),(25,_)] (nx (c_ ?_))))))))))));refine Zq (Zm rfl (Za rfl (Ze [(0,_),(1,_),(2,_),(9,_),(10,_),(11,_),(12,_),(24,_),(25,_)] (nx ?_))));have c7:Oz w 3 12 q C (.slice none 0 0) ([]:Yl):=Ow.nil _ _ _ _ _;obtain⟨a1,a2,k⟩:=a_ k;refine v_ (λa v=>∃(x:Yl),∃(B:Int),∃y m,a1=.inl (x,B)∧Fr a 51 [(0,j),(1,ZI i),(2,ZI g),(9,c),(10,ZI b),(11,y),(24,ZI (d.length:Int)),(25,ZI b)]∧Bs oo m w v∧Oz w 4 11 m v c u∧Oz w 3 12 m v y x) (λ_ _=>False) ?_ ?_ ?_
    ·refine f_ ?_;refine w_ (λ(K:Nat) a v=>∃(x:Yl),∃(B:Int),∃y m,loopF (dc_ i g) K (x,B)=some a1∧Fr a 51 [(0,j),(1,ZI i),(2,ZI g),(9,c),(10,ZI b),(11,y),(12,ZI B),(24,ZI (d.length:Int)),(25,ZI b)]∧Bs oo m w v∧Oz w 4 11 m v c u∧Oz w 3 12 m v y x) fuel (λa ha=>⟨[],b,.slice none 0 0,q,a2,ha.sb,hB,f,c7⟩) ?_;rintro K53 a v ⟨x,B,y,m,c8,ha,hB,f,D⟩;obtain⟨K57,f7,f8,s,a3⟩:=X_ c8;dsimp only[dc_] at s;refine J_ ha ?_;refine c_ (Zq (Zm rfl (Zv (bC_ rfl D wR_) (Zm rfl (Zv (r_ rfl rfl) (Ze [(0,_),(1,_),(2,_),(9,_),(10,_),(11,_),(12,_),(24,_),(25,_),(32,_)] (nx ?_)))))));refine l_ rfl (λN=>?_) (λN=>?_)
     ·rw[if_pos N] at s;refine g_ (nx (c_ (f_ (d_ (Zm rfl (Zm rfl (Zm rfl ?_)))))));obtain⟨O,a4,s⟩:=a_ s;refine Zv (qK_ rfl rfl a4) (Zo ?_);refine au_ (o:=m) (cs:=[ZI O]) (xs:=([O]:Yl)) (vs:=[(0,ZI O)]) ⟨_,_,rfl,rfl,rfl⟩ rfl ⟨rfl,rfl,trivial⟩ wR_ wS_ xd_ (by decide) (fill1 rfl) (by simp) ?_;intro f9 g0 g1 c9 d0 g2;obtain⟨f,D,hB⟩:=ZS d0 (A3 f D hB);obtain⟨d1,a5,s⟩:=a_ s;refine Zo ?_;refine aT_ D c9 (ai_ a5) (by decide) hB.keeps.size rfl rfl wR_ iB_ rfl (by decide) ?_;intro d2 g3 I d3 d4;obtain⟨f,hB⟩:=ZS d4 (A2 f hB);refine Za rfl (Ze [(0,_),(1,_),(2,_),(9,_),(10,_),(11,_),(12,_),(24,_),(25,_)] (x_ (nx (d_ (Zm rfl (Zm rfl ?_))))));obtain⟨P,a6,s⟩:=a_ s;refine Zv (sE_ rfl rfl a6) (Za rfl (Ze [(0,_),(1,_),(2,_),(9,_),(10,_),(11,_),(12,_),(24,_),(25,_)] (u_ ?_)));have d5:=Zj s;subst d5;refine Zk [(0,_),(1,_),(2,_),(9,_),(10,_),(11,_),(12,_),(24,_),(25,_)] ?_;intro a ha;exact⟨K57,by omega,d1,P,I,d2,a3,ha,hB,f,d3⟩
     ·replace s:=ZF N s;refine s_ ?_;refine n_ (n_ (N_ ?_));refine p_ ?_;have d6:=Zj s;subst d6;refine Zk [(0,_),(1,_),(2,_),(9,_),(10,_),(11,_),(24,_),(25,_)] ?_;intro a ha;exact⟨x,B,y,m,a3,ha,hB,f,D⟩
    ·rintro a v ⟨x,B,y,m,rfl,ha,hB,f,D⟩;dsimp only at k;refine ap_k ha ?_;refine nx (d_ (Zm rfl (Zm rfl (Zm rfl (Zm rfl ?_)))));obtain⟨a7,a8,k⟩:=a_ k;refine Zo ?_;refine o_ (gY_ fuel v m 13 (by decide) _ x D.z a7 a8) Tryz.call121 ⟨rfl,trivial⟩ ?_;rintro g4 d7 ⟨g5,a9,rfl,Q,d8,d9⟩;have e0:=d8.stp' 13 d9;replace Q:=Q.mono hB.keeps.size;refine⟨_,rfl,?_⟩;obtain⟨f,hB⟩:=ZS e0 (A2 f hB);obtain⟨e1,b0,k⟩:=a_ k;refine Zo ?_;refine o_ (ky_ d7 _ b8 (e9.keep hB.keeps) _ a7 Q.z e1 b0) Tryz.call120 ⟨rfl,rfl,trivial⟩ ?_;rintro g6 g7 ⟨rfl,e2⟩;have e3:=e2.stp 999 a9;refine⟨_,rfl,?_⟩;obtain⟨f,hB⟩:=ZS e3 (A2 f hB);obtain⟨g8,b1,k⟩:=a_ k;refine Zo ?_;refine fC_ f b1 rfl rfl xr_ xA_ ?_;intro g9 h0 e4 h1 e5;cases e5
     obtain⟨b2,R,k⟩:=a_ k;refine Z_ trivial ?_;refine cf_ f e4 R rfl (by decide) rfl rfl rfl xA_ rfl ?_;intro h2 b3 e6;replace hB:=hB.stp e6;refine Ze [(0,j),(1,ZI i),(2,ZI g),(9,c),(24,ZI (d.length:Int)),(25,ZI b)] (x_ (nx (d_ (Zv (C_ rfl rfl (F_ (by omega) (by omega))) (Zm rfl (Ze [(0,_),(1,_),(2,_),(9,_),(24,_),(25,_)] (u_ ?_)))))));have b4:=Zj k;subst b4;refine Zk [(0,_),(1,_),(2,_),(9,_),(24,_),(25,_)] ?_;intro a ha;exact⟨_,(by rw[<-c5];omega),b+1,b2,a9,c6,rfl,by omega,ha,hB,b3⟩
    ·exact λ_ _ h=>h.elim
   ·have b5:=bu_ H a0;refine J_ ha ?_;refine Zq (Zv (r_ rfl rfl) (Ze [(0,_),(1,_),(2,_),(9,_),(24,_),(25,_),(26,_)] (nx (c_ ?_))));refine G_ (Zb (decide_eq_false H)) ?_;refine s_ ?_;refine n_ (n_ (N_ ?_));refine p_ ?_;refine Zk [(9,_)] ?_;intro a ha;exact⟨u,q,b5,ha,hB,f⟩
  ·rintro a C ⟨u,q,rfl,ha,hB,f⟩;dsimp only at hF;refine ap_k ha ?_;refine Zn (Zm rfl (Za rfl (Ze [(6,_)] (nx (j_ ?_)))));have e8:=f.frzF;replace f:=f.frz;replace hB:=hB.frz 11 (by decide);generalize (frz 11 q)=b6 at*;have b7:=Zj hF;subst b7;refine Zr Tryz.results81 [c] ?_;exact⟨_,rt oo b6 w.heap.size 9 t,rfl,f.rt hB 9 t (by decide),hB.keeps,am_ _ _ _ _ _⟩
  ·exact λ_ _ h=>h.elim
 ·exact λ_ _ h=>h.elim
def bp_(f:b_)(g:b_):((List Int)×Int)->Option (Lp ((List Int)×Int) ((List Int)×Int) ((List Int)×Bool)):=λ(s:(List Int)×Int)=>
  if decide (s.2<f.Labels) then
    (shl 1 g.Labels)>>=λa=>
    (ck (a-1))>>=λb=>
    (push s.1 b)>>=λc=>
    (ck (s.2+1))>>=λd=>
    some (.go (c,d))
  else
    some (.out (s.1,s.2))
def cy_(fuel:Nat)(j:b_)(a:b_):Option ((List Int)×Bool):=
  (ju_ fuel j a)>>=λk=>
  if !k then
    some ([],false)
  else
    (fM_ fuel a.Nodes a.Labels a.Degree)>>=λd=>
    (fM_ fuel a.Edges a.Labels 2)>>=λf=>
    (loopF (bp_ j a) fuel ([],0))>>=λg=>
    match g with
    | .inl (i,m)=>
      (bO_ fuel (⟨j,a,d,f⟩:H_) i)>>=λb=>
      if !b.2 then
        some ([],false)
      else
        (aW_ fuel (⟨j,a,d,f⟩:H_) [] b.1)>>=λc=>
        some (c.1,c.2)
    | .inr _=>none
def jo_(oo:Tg)(t:Nat)(w:World)(r:Yl×Bool):Ending->World->Prop:=λe w'=>∃(a:Value)(o':Tg),e=.returned (.tuple #[a,.bool r.2])∧Of 3 o' w' a r.1∧Keeps w w'∧∀b,b<w.heap.size->o' b=oo b
theorem jk_(fuel:Nat)(w:World)(oo:Tg)(t:Nat)(ht:2<=t)(j3:List Value)(B:b_)(h9:Rp.rd oo w j3 B)(j4:List Value)(g:b_)(i0:Rp.rd oo w j4 g)(r:Yl×Bool)(hF:cy_ fuel B g=some r):
    Calls wQ_ 54 #[.agg j3.toArray,.agg j4.toArray] w (jo_ oo t w r):=by
 unfold cy_ at hF;replace h9:=Rp.col h9;obtain⟨b0,b1,rfl,O,P⟩:=h9;replace i0:=Rp.col i0;obtain⟨a8,a9,rfl,M,N⟩:=i0;have hB:Bs oo (col oo) w w:=Bs.start _ _;refine i_ (n:=56) (vs:=[.agg #[ZI B.Labels,ZI B.Degree,b0,b1],.agg #[ZI g.Labels,ZI g.Degree,a8,a9]]) Tryz.func54 rfl rfl ?_;generalize col oo=o at*;refine Zq (Zo ?_);refine as_ (o:=o) w.heap.size 11 hB.keeps.size (cs:=[ZI B.Labels,ZI B.Degree,b0,b1]) rfl rfl ?_;intro m0 m1 L C i1;obtain⟨O,P,M,N,hB⟩:=ZS i1 (A5 O P M N hB);refine Zo ?_;refine as_ (o:=m0) w.heap.size 12 hB.keeps.size (cs:=[ZI g.Labels,ZI g.Degree,a8,a9]) rfl rfl ?_;intro d5 i2 F G i3;obtain⟨O,P,M,N,C,hB⟩:=ZS i3 (A6 O P M N C hB);refine Za rfl (Za rfl (Ze [(2,_),(3,_)] (nx (c_ (Zq (Zv (E_ rfl wX_ wU_ rfl C.cells) (Zv (E_ rfl wX_ wU_ rfl G.cells) ?_)))))));obtain⟨d6,d7,hF⟩:=a_ hF;refine Zo ?_;refine o_ (vj_ fuel i2 _ B (⟨_,_,rfl,O.z,P.z⟩) _ g (⟨_,_,rfl,M.z,N.z⟩) d6 d7) Tryz.call80 ⟨rfl,rfl,trivial⟩ ?_;rintro m2 m3 ⟨rfl,i4⟩;have i5:=i4.stp 999 d5;refine⟨_,rfl,?_⟩;obtain⟨O,P,M,N,C,G,hB⟩:=ZS i5 (A7 O P M N C G hB);refine Zv (aI_ rfl) (Ze [(2,_),(3,_),(14,_)] (nx ?_));refine l_ rfl (λc3=>?_) (λc3=>?_)
 ·rw[if_pos c3] at hF;refine Zq (Za rfl (Za rfl (Ze [(4,_),(5,_)] (nx (j_ (y_ ?_))))));have i6:=Zj hF;subst i6;refine Zr yj_ [.slice none 0 0,.bool false] ?_;exact⟨_,rt oo d5 w.heap.size 9 t,rfl,Of.nil _ _ _,hB.keeps,am_ _ _ _ _ _⟩
 ·replace hF:=ZF c3 hF;refine g_ (nx (c_ ?_));obtain⟨i,d8,hF⟩:=a_ hF;obtain⟨j,d9,hF⟩:=a_ hF;refine ZW (Bf:=λc4 c5=>Bs oo c4 w c5∧Bz w 11 c4 c5 L 28 [ZI B.Labels,ZI B.Degree,b0,b1]∧RdL c4 c5 b0 (B.Nodes:Yk)∧RdL c4 c5 b1 (B.Edges:Yk)∧Bz w 12 c4 c5 F 28 [ZI g.Labels,ZI g.Degree,a8,a9]∧RdL c4 c5 a8 (g.Nodes:Yk)∧RdL c4 c5 a9 (g.Edges:Yk)) [(2,_),(3,_)] (Zrg 15 15++[6]) [[],[],[],[2],[],[4],[],[6],[3,5,7],[],[9],[],[11],[10,12],[0,1,8,13],[]] (Zcn 16) [999,999,999,999,999,999,999,999,999,999,999,999,999,999,999,16] [0,0,0,0,0,0,0,0,0,0,0,0,0,0,0,16] [16,999] [.inl (.agg #[ZI B.Labels,ZI B.Degree,b0,b1]),.inl (.agg #[ZI g.Labels,ZI g.Degree,a8,a9]),.inl (.pointer (some ⟨F,0+2,none⟩)),.inl a8,.inl (.pointer (some ⟨F,0+0,none⟩)),.inl (ZI g.Labels),.inl (.pointer (some ⟨F,0+1,none⟩)),.inl (ZI g.Degree),.inr (λv o c6=>RdL o c6 v i),.inl (.pointer (some ⟨F,0+3,none⟩)),.inl a9,.inl (.pointer (some ⟨F,0+0,none⟩)),.inl (ZI g.Labels),.inr (λv o c6=>RdL o c6 v j),.inr (λv o c6=>∃(c:List Value),v=.agg c.toArray∧Rp.rd o c6 c (⟨B,g,i,j⟩:H_)),.inr (λv o c6=>∃b:Nat,v=ZP b∧Bz w 16 o c6 b 90 [ZI 0,ZI 0,.slice none 0 0,.slice none 0 0,ZI 0,ZI 0,.slice none 0 0,.slice none 0 0,.slice none 0 0,.slice none 0 0])] ⟨hB,C,O,P,G,M,N⟩ ⟨λ_ _ _ _ _ _ d4 hb h hs=>h.stp hs d4.1,λ_ _ _ _ _ _ d4 hb h hs=>h.stp hs d4.1,λ_ _ _ _ _ _ d4 hb ⟨c,e,h⟩ hs=>⟨c,e,Rp.stp h hs d4.1⟩,λ_ _ _ _ _ _ d4 hb ⟨b,e,h⟩ hs=>⟨b,e,h.stp hs (Ne.symm hb)⟩,trivial⟩ ?_ ?_
  ·refine⟨Dq λh=>E_ rfl wX_ wU_ rfl h.2.1.cells,Dq λh=>E_ rfl wX_ wU_ rfl h.2.2.2.2.1.cells,Dp (m_ rfl wW_ rfl wZ_),Dq λh=>e_ rfl xb_ (h.2.2.2.2.1.cell rfl),Dp (m_ rfl wW_ rfl wS_),Dq λh=>e_ rfl wT_ (h.2.2.2.2.1.cell rfl),Dp (m_ rfl wW_ rfl wS_),Dq λh=>e_ rfl wT_ (h.2.2.2.2.1.cell rfl),?_,Dp (m_ rfl wW_ rfl wZ_),Dq λh=>e_ rfl xb_ (h.2.2.2.2.1.cell rfl),Dp (m_ rfl wW_ rfl wS_),Dq λh=>e_ rfl wT_ (h.2.2.2.2.1.cell rfl),?_,?_,?_,trivial⟩
   ·rintro i7 i8 m4 ha ⟨hB,C,O,P,G,M,N⟩-;refine Zs ha ?_;refine o_ (mD_ fuel i8 i7 17 (by decide) _ g.Nodes M.z g.Labels g.Degree i d8) zs_ ⟨rfl,rfl,rfl,trivial⟩ ?_;rintro m5 m6 ⟨m7,m8,rfl,i9,j0,j1⟩;have j2:=j0.stp' 999 j1;refine⟨_,rfl,?_⟩;exact⟨_,j2,i9⟩
   ·rintro e0 e1 j5 ha ⟨hB,C,O,P,G,M,N⟩-;refine Zs ha ?_;refine o_ (mD_ fuel e1 e0 18 (by decide) _ g.Edges N.z g.Labels 2 j d9) zs_ ⟨rfl,rfl,rfl,trivial⟩ ?_;rintro j6 j7 ⟨j8,j9,rfl,e2,e3,e4⟩;have e5:=e3.stp' 999 e4;refine⟨_,rfl,?_⟩;exact⟨_,e5,e2⟩
   ·rintro b2 b3 T ha ⟨-,-,O,P,-,M,N⟩ ⟨R,S,-⟩;replace R:RdL b2 b3 (T.tmps.getD 23 undef) i:=R;generalize e6:T.tmps.getD 23 undef=b4 at R;have ha:=ha.c e6;replace S:RdL b2 b3 (T.tmps.getD 28 undef) j:=S;generalize e7:T.tmps.getD 28 undef=b5 at S;have ha:=ha.c e7;refine Zs ha ?_;refine M_ (ba_ (vs:=[(0,.agg #[ZI B.Labels,ZI B.Degree,b0,b1]),(1,.agg #[ZI g.Labels,ZI g.Degree,a8,a9]),(2,b4),(3,b5)]) (cs:=[ZI B.Labels,ZI B.Degree,b0,b1,ZI g.Labels,ZI g.Degree,a8,a9,b4,b5]) ⟨rfl,rfl,rfl,rfl,rfl,rfl,rfl,rfl,trivial⟩ (by obtain⟨_,_,m9⟩:=R.form;rw[m9];obtain⟨_,_,n0⟩:=S.form;rw[n0];kernel_rfl)) ?_;exact⟨_,Stp.refl _ _ _,⟨_,rfl,⟨_,_,_,_,_,_,rfl,O,P,M,N,R,S⟩⟩⟩
   ·rintro e8 k0 k1 ha ⟨hB,C,O,P,G,M,N⟩-;refine Zs ha ?_;refine av_ (o:=e8) w.heap.size 16 hB.keeps.size (cs:=[ZI 0,ZI 0,.slice none 0 0,.slice none 0 0,ZI 0,ZI 0,.slice none 0 0,.slice none 0 0,.slice none 0 0,.slice none 0 0]) Tryz.zeroValue90 rfl ?_;intro k2 k3 k4 e9 f0;exact⟨_,f0,⟨_,rfl,e9⟩⟩
  rintro _ rfl b6 k5 k6 ha ⟨hB,C,O,P,G,M,N⟩ ⟨-,-,f1,f2,-⟩;obtain⟨k7,f3,f4⟩:=f1;obtain⟨U,V,W,X,Y,Z,rfl,k,m,s,u,x,y⟩:=f4;have ha:=ha.c f3;obtain⟨A,f5,f6⟩:=f2;have ha:=ha.c f5;refine aH_ ha ?_;refine Z_ trivial ?_;refine T_ f6 rfl rfl rfl gA_ (by intro c hc;simp only[List.mem_cons,List.not_mem_nil,or_false] at hc;rcases hc with rfl|rfl|rfl|rfl|rfl|rfl|rfl|rfl|rfl|rfl<;>first|rfl|exact k.one1|exact m.one1|exact s.one1|exact u.one1|exact x.one1|exact y.one1) ?_;intro f7 D f8;obtain⟨k,m,s,u,x,y,C,O,P,G,M,N,hB⟩:=ZS f8 (A8 k m s u x y C (A6 O P G M N hB));refine Ze [(2,_),(3,_),(6,_)] (Zn (Za rfl (Ze [(2,_),(3,_),(6,_),(7,_)] (nx (c_ (Zq (Za rfl (Ze [(2,_),(3,_),(6,_),(7,_),(8,_)] (nx ?_)))))))));have f9:Oz w 3 19 b6 f7 (.slice none 0 0) ([]:Yl):=Ow.nil _ _ _ _ _;obtain⟨b7,c7,hF⟩:=a_ hF;refine v_ (λa f=>∃(J:Yl),∃(H:Int),∃I d,b7=.inl (J,H)∧Fr a 56 [(6,ZP A),(7,I)]∧Bs oo d w f∧Oz w 3 19 d f I J∧Bz w 16 d f A 90 [ZI ((⟨B,g,i,j⟩:H_).p.Labels),ZI ((⟨B,g,i,j⟩:H_).p.Degree),U,V,ZI ((⟨B,g,i,j⟩:H_).q.Labels),ZI ((⟨B,g,i,j⟩:H_).q.Degree),W,X,Y,Z]∧RdL d f U ((⟨B,g,i,j⟩:H_).p.Nodes:Yk)∧RdL d f V ((⟨B,g,i,j⟩:H_).p.Edges:Yk)∧RdL d f W ((⟨B,g,i,j⟩:H_).q.Nodes:Yk)∧RdL d f X ((⟨B,g,i,j⟩:H_).q.Edges:Yk)∧RdL d f Y ((⟨B,g,i,j⟩:H_).nodes:List Bool)∧RdL d f Z ((⟨B,g,i,j⟩:H_).edges:List Bool)) (λ_ _=>False) ?_ ?_ ?_
  ·refine f_ ?_;refine w_ (λ(K:Nat) a f=>∃(J:Yl),∃(H:Int),∃I d,loopF (bp_ B g) K (J,H)=some b7∧Fr a 56 [(2,ZP L),(3,ZP F),(6,ZP A),(7,I),(8,ZI H)]∧Bs oo d w f∧Oz w 3 19 d f I J∧Bz w 11 d f L 28 [ZI B.Labels,ZI B.Degree,b0,b1]∧RdL d f b0 (B.Nodes:Yk)∧RdL d f b1 (B.Edges:Yk)∧Bz w 12 d f F 28 [ZI g.Labels,ZI g.Degree,a8,a9]∧RdL d f a8 (g.Nodes:Yk)∧RdL d f a9 (g.Edges:Yk)∧Bz w 16 d f A 90 [ZI ((⟨B,g,i,j⟩:H_).p.Labels),ZI ((⟨B,g,i,j⟩:H_).p.Degree),U,V,ZI ((⟨B,g,i,j⟩:H_).q.Labels),ZI ((⟨B,g,i,j⟩:H_).q.Degree),W,X,Y,Z]∧RdL d f U ((⟨B,g,i,j⟩:H_).p.Nodes:Yk)∧RdL d f V ((⟨B,g,i,j⟩:H_).p.Edges:Yk)∧RdL d f W ((⟨B,g,i,j⟩:H_).q.Nodes:Yk)∧RdL d f X ((⟨B,g,i,j⟩:H_).q.Edges:Yk)∧RdL d f Y ((⟨B,g,i,j⟩:H_).nodes:List Bool)∧RdL d f Z ((⟨B,g,i,j⟩:H_).edges:List Bool)) fuel (λa ha=>⟨[],0,.slice none 0 0,b6,c7,ha.sb,hB,f9,C,O,P,G,M,N,D,k,m,s,u,x,y⟩) ?_;rintro K174 a f ⟨J,H,I,d,g0,ha,hB,Q,C,O,P,G,M,N,D,k,m,s,u,x,y⟩;obtain⟨K178,k8,k9,E,b8⟩:=X_ g0;dsimp only[bp_] at E;refine J_ ha ?_;refine c_ (Zq (Zm rfl (Zv (m_ rfl wW_ rfl wS_) (Zv (e_ rfl wT_ (C.cell rfl)) (Zv (r_ rfl rfl) (Ze [(2,_),(3,_),(6,_),(7,_),(8,_),(33,_)] (nx ?_)))))));refine l_ rfl (λa2=>?_) (λa2=>?_)
   ·rw[if_pos a2] at E;refine g_ (nx (c_ (f_ (d_ (Zm rfl (Zv (m_ rfl wW_ rfl wS_) (Zv (e_ rfl wT_ (G.cell rfl)) ?_)))))));obtain⟨l0,c8,E⟩:=a_ E;refine Zv (gL_ rfl rfl c8) ?_;obtain⟨a3,c9,E⟩:=a_ E;refine Zv (bs_ rfl rfl c9) (Zo ?_);refine au_ (o:=d) (cs:=[ZI a3]) (xs:=([a3]:Yl)) (vs:=[(0,ZI a3)]) ⟨_,_,rfl,rfl,rfl⟩ rfl ⟨rfl,rfl,trivial⟩ wR_ wS_ xd_ (by decide) (fill1 rfl) (by simp) ?_;intro l1 l2 l3 g1 g2 l4;obtain⟨Q,C,O,P,G,M,N,D,k,m,s,u,x,y,hB⟩:=ZS g2 (A8 Q C O P G M N (A8 D k m s u x y hB));obtain⟨g3,d0,E⟩:=a_ E;refine Zo ?_;refine aT_ Q g1 (ai_ d0) (by decide) hB.keeps.size rfl rfl wR_ iB_ rfl (by decide) ?_;intro g4 l5 a0 g5 g6;obtain⟨C,O,P,G,M,N,D,k,m,s,u,x,y,hB⟩:=ZS g6 (A8 C O P G M N D (A7 k m s u x y hB));refine Za rfl (Ze [(2,_),(3,_),(6,_),(7,_),(8,_)] (x_ (nx (d_ (Zm rfl ?_)))));obtain⟨a4,d1,E⟩:=a_ E;refine Zv (C_ rfl rfl d1) (Za rfl (Ze [(2,_),(3,_),(6,_),(7,_),(8,_)] (u_ ?_)));have g7:=Zj E;subst g7;refine Zk [(2,_),(3,_),(6,_),(7,_),(8,_)] ?_;intro a ha;exact⟨K178,by omega,g3,a4,a0,g4,b8,ha,hB,g5,C,O,P,G,M,N,D,k,m,s,u,x,y⟩
   ·replace E:=ZF a2 E;refine s_ ?_;refine n_ (n_ (N_ ?_));refine p_ ?_;have g8:=Zj E;subst g8;refine Zk [(6,_),(7,_)] ?_;intro a ha;exact⟨J,H,I,d,b8,ha,hB,Q,D,k,m,s,u,x,y⟩
  ·rintro a f ⟨J,H,I,d,rfl,ha,hB,Q,D,k,m,s,u,x,y⟩;dsimp only at hF;refine ap_k ha ?_;refine Zn (Zv (E_ rfl xt_ xu_ rfl D.cells) (Zm rfl ?_));obtain⟨a1,d2,hF⟩:=a_ hF;refine Zo ?_;refine o_ (gp_ fuel f d 20 (by decide) _ (⟨B,g,i,j⟩:H_) (⟨_,_,_,_,_,_,rfl,k,m,s,u,x,y⟩) _ J Q.z a1 d2) zq_ ⟨rfl,rfl,trivial⟩ ?_;rintro l6 g9 ⟨b9,c0,rfl,a5,h0,h1⟩;have h2:=h0.stp' 20 h1;replace a5:=a5.mono hB.keeps.size;refine⟨_,rfl,?_⟩;obtain⟨k,m,s,u,x,y,D,hB⟩:=ZS h2 (A8 k m s u x y D hB);refine Zm rfl (Zv (t_ rfl rfl) (Zv (t_ rfl rfl) (Za rfl (Za rfl (Ze [(6,_),(9,_),(10,_)] (nx (c_ (Zq (Zm rfl (Zv (aI_ rfl) (Ze [(6,_),(9,_),(50,_)] (nx ?_))))))))))));refine l_ rfl (λa6=>?_) (λa6=>?_)
   ·rw[if_pos a6] at hF;refine Zq (Za rfl (Za rfl (Ze [(4,_),(5,_)] (nx (j_ (y_ ?_))))));have h3:=Zj hF;subst h3;refine Zr yj_ [.slice none 0 0,.bool false] ?_;exact⟨_,rt oo c0 w.heap.size 9 t,rfl,Of.nil _ _ _,hB.keeps,am_ _ _ _ _ _⟩
   ·replace hF:=ZF a6 hF;refine g_ (Zn (Zv (E_ rfl xt_ xu_ rfl D.cells) (Zm rfl ?_)));obtain⟨a7,d3,hF⟩:=a_ hF;refine Zo ?_;refine o_ (kk_ fuel g9 c0 21 (by decide) _ (⟨B,g,i,j⟩:H_) (⟨_,_,_,_,_,_,rfl,k,m,s,u,x,y⟩) _ ([]:Yl) (Of.nil _ _ _) _ a1.1 a5.z a7 d3) zr_ ⟨rfl,rfl,rfl,trivial⟩ ?_;rintro l7 l8 ⟨c1,h4,rfl,c2,h5,h6⟩;have h7:=h5.stp' 21 h6;have l9:=c2.rd;refine⟨_,rfl,?_⟩;replace hB:=hB.stp h7;refine Zv (t_ rfl rfl) (Zv (t_ rfl rfl) (Za rfl (Za rfl (Ze [(4,_),(5,_)] (nx (j_ ?_))))));have h8:=Zj hF;subst h8;refine Zr yj_ [c1,.bool a7.2] ?_;exact⟨_,rt oo h4 w.heap.size 9 t,rfl,c2.rt hB 9 t (by decide),hB.keeps,am_ _ _ _ _ _⟩
  ·exact λ_ _ h=>h.elim
end
section
open Go.RowKit
structure bw_ where
  p:b_
  good:List Bool
  deriving DecidableEq
instance:Rp bw_ where
  sz:=5
  pos:=by decide
  rd o w cs x:=∃v1 v2 v3,cs=[.int .i64 x.p.Labels,.int .i64 x.p.Degree,v1,v2,v3]∧RdL o w v1 x.p.Nodes∧RdL o w v2 x.p.Edges∧RdL o w v3 x.good
  len h:=by obtain⟨v1,v2,v3,rfl,h1,h2,h3⟩:=h;rfl
  one h:=by
    obtain⟨v1,v2,v3,rfl,h1,h2,h3⟩:=h
    intro c hc
    simp only[List.mem_cons,List.not_mem_nil,or_false] at hc
    rcases hc with rfl|rfl|rfl|rfl|rfl<;>first|rfl|exact h1.one1|exact h2.one1|exact h3.one1
  mv h hs hb:=by obtain⟨v1,v2,v3,rfl,h1,h2,h3⟩:=h;exact⟨v1,v2,v3,rfl,h1.mv hs hb,h2.mv hs hb,h3.mv hs hb⟩
instance:Rz bw_:=⟨⟨⟨0,0,[],[]⟩,[]⟩,[.int .i64 0,.int .i64 0,.slice none 0 0,.slice none 0 0,.slice none 0 0],λo w=>⟨_,_,_,rfl,RdL.nil o w,RdL.nil o w,RdL.nil o w⟩⟩
structure ar_ where
  p:b_
  after:List Int
  deriving DecidableEq
instance:Rp ar_ where
  sz:=5
  pos:=by decide
  rd o w cs x:=∃v1 v2 v3,cs=[.int .i64 x.p.Labels,.int .i64 x.p.Degree,v1,v2,v3]∧RdL o w v1 x.p.Nodes∧RdL o w v2 x.p.Edges∧RdL o w v3 x.after
  len h:=by obtain⟨v1,v2,v3,rfl,h1,h2,h3⟩:=h;rfl
  one h:=by
    obtain⟨v1,v2,v3,rfl,h1,h2,h3⟩:=h
    intro c hc
    simp only[List.mem_cons,List.not_mem_nil,or_false] at hc
    rcases hc with rfl|rfl|rfl|rfl|rfl<;>first|rfl|exact h1.one1|exact h2.one1|exact h3.one1
  mv h hs hb:=by obtain⟨v1,v2,v3,rfl,h1,h2,h3⟩:=h;exact⟨v1,v2,v3,rfl,h1.mv hs hb,h2.mv hs hb,h3.mv hs hb⟩
instance:Rz ar_:=⟨⟨⟨0,0,[],[]⟩,[]⟩,[.int .i64 0,.int .i64 0,.slice none 0 0,.slice none 0 0,.slice none 0 0],λo w=>⟨_,_,_,rfl,RdL.nil o w,RdL.nil o w,RdL.nil o w⟩⟩
end
end Go.Proofs.YtdbbeldgdgonfaaGreat
