/- Part 21 of what this claim rests on (pack.py). -/
import Derived.Test.YtdbbeldgdgonfaaGreatP20
namespace Go.Proofs.YtdbbeldgdgonfaaGreat
open Tryz renaming prog→wQ_, underlying22→wV_, results178→yq_, sizeOf41→wY_, isAgg41→xa_, call179→zT_
set_option linter.unusedSimpArgs false
set_option linter.unusedVariables false
section
set_option maxRecDepth 100000
set_option maxHeartbeats 2000000
open Go.RowKit
def ac_(a:Int):((List Pv)×Int×Int)->Option (Lp ((List Pv)×Int×Int) ((List Pv)×Int×Int) (List Pv)):=λ(s:(List Pv)×Int×Int)=>
  (cut s.1 a s.1.length)>>=λn=>
  if decide (s.2.2<((s.1.length:Int)-a)) then
    (ix s.1 (a+s.2.2))>>=λc=>
    (nn s.2.2)>>=λq=>
    (cut s.1 a s.1.length)>>=λu=>
    (ck (s.2.2-1))>>=λb=>
    (ix s.1 (a+b))>>=λd=>
    (nn b)>>=λv=>
    (cut s.1 a s.1.length)>>=λy=>
    (bb_ c.x d.x)>>=λf=>
    if !f then
      (ix s.1 (a+s.2.2))>>=λg=>
      (nn s.2.2)>>=λz=>
      (cut s.1 a s.1.length)>>=λA=>
      (ix s.1 s.2.1)>>=λB=>
      (st s.1 s.2.1 g)>>=λi=>
      (ck (s.2.1+1))>>=λj=>
      (ck (s.2.2+1))>>=λk=>
      some (.go (i,j,k))
    else
      (ck (s.2.2+1))>>=λm=>
      some (.go (s.1,s.2.1,m))
  else
    some (.out (s.1,s.2.1,s.2.2))
def V_(fuel:Nat):((List Pv)×Int)->Option (Lp ((List Pv)×Int) ((List Pv)×Int) (List Pv)):=λ(s:(List Pv)×Int)=>
  if decide (s.2<(s.1.length:Int)) then
    (ix s.1 s.2)>>=λg=>
    (ck (s.2-1))>>=λi=>
    (ix s.1 i)>>=λj=>
    (bb_ g.x j.x)>>=λk=>
    if k then
      (cut s.1 s.2 s.1.length)>>=λu=>
      (loopF (ac_ s.2) fuel (s.1,s.2,1))>>=λc=>
      match c with
      | .inl (a,b,m)=>
        (cut a b a.length)>>=λn=>
        (cut a b a.length)>>=λq=>
        (cut a 0 b)>>=λd=>
        some (.ret d)
      | .inr _=>none
    else
      (ck (s.2+1))>>=λf=>
      some (.go (s.1,f))
  else
    some (.out (s.1,s.2))
def aZ_(fuel:Nat)(a:List Pv):Option (List Pv):=
  if decide ((a.length:Int)<2) then
    some a
  else
    (loopF (V_ fuel) fuel (a,1))>>=λb=>
    match b with
    | .inl (c,d)=>
      some c
    | .inr r'=>some r'
def cR_(oo o:Tg)(w b:World)(r:List Pv):Ending->World->Prop:=λe w'=>∃(a:Value)(o':Tg),e=.returned a∧Ow w.heap.size 41 10 o' w' a r∧Bs oo o' w w'∧Stp 10 o b o' w'
theorem eR_(fuel:Nat)(w F:World)(oo o:Tg)(hB:Bs oo o w F)(hO:∀b,b<F.heap.size->o b≠999)(i:Value)(h8:List Pv)(h9:Ow w.heap.size 41 10 o F i h8)(r:List Pv)(hF:aZ_ fuel h8=some r):
    Calls wQ_ 178 #[i,.func (.func 179) #[] #[]] F (cR_ oo o w F r):=by
 unfold aZ_ at hF;have hS:Stp 10 o F o F:=Stp.refl _ _ _;refine i_ (n:=66) (vs:=[i,.func (.func 179) #[] #[]]) Tryz.func178 rfl rfl ?_;refine Zq (Za rfl (Ze [(0,_),(1,_)] (nx (c_ (Zq (Zm rfl (Zv (bC_ rfl h9 wV_) (Zv (r_ rfl rfl) (Ze [(0,_),(1,_),(10,_)] (nx ?_))))))))));refine l_ rfl (λi0=>?_) (λi0=>?_)
 ·rw[if_pos i0] at hF;refine Zq (Zm rfl (Za rfl (Ze [(4,_)] (nx (j_ (y_ ?_))))));have o2:=Zj hF;subst o2;refine Zr yq_ [i] ?_;exact⟨_,o,rfl,h9,hB,hS⟩
 ·replace hF:=ZF i0 hF;refine g_ (nx (c_ (Zq (Za rfl (Ze [(0,_),(1,_),(5,_)] (nx ?_))))));obtain⟨i1,i2,hF⟩:=a_ hF;refine v_ (λa a1=>∃(G:List Pv)(m:Int),∃(M:Tg),i1=.inl (G,m)∧Fr a 66 [(0,i)]∧Bs oo M w a1∧Stp 10 o F M a1∧Oz w 41 10 M a1 i G) (λa w'=>∃r',i1=.inr r'∧bodyPost wQ_ Tryz.f178 (cR_ oo o w F r') .ret a w') ?_ ?_ ?_
  ·refine f_ ?_;refine w_ (λ(K:Nat) a a1=>∃(G:List Pv)(m:Int),∃(M:Tg),loopF (V_ fuel) K (G,m)=some i1∧Fr a 66 [(0,i),(1,.func (.func 179) #[] #[]),(5,ZI m)]∧Bs oo M w a1∧Stp 10 o F M a1∧Oz w 41 10 M a1 i G) fuel (λa ha=>⟨h8,1,o,i2,ha.sb,hB,hS,h9⟩) ?_;rintro K12 a a1 ⟨G,m,M,o3,ha,hB,hS,B⟩;obtain⟨K16,o4,o5,g,b2⟩:=X_ o3;dsimp only[V_] at g;refine J_ ha ?_;refine c_ (Zq (Zm rfl (Zm rfl (Zv (bC_ rfl B wV_) (Zv (r_ rfl rfl) (Ze [(0,_),(1,_),(5,_),(15,_)] (nx ?_)))))));refine l_ rfl (λb3=>?_) (λb3=>?_)
   ·rw[if_pos b3] at g;refine g_ (nx (c_ (f_ (c_ ?_))));obtain⟨b4,a3,g⟩:=a_ g;obtain⟨d9,e0,g⟩:=a_ g;obtain⟨b5,a4,g⟩:=a_ g;refine ZW (Bf:=λb6 b7=>Bs oo b6 w b7∧Stp 10 o F b6 b7∧Oz w 41 10 b6 b7 i G) [(0,_),(1,_),(5,_)] (Zrg 18 10) [[],[],[],[1,2],[3],[],[],[6],[5,7],[8]] (Zcn 10) (Zt9 10) [0,0,0,10,0,0,0,0,10,0] [999] [.inl (.func (.func 179) #[] #[]),.inl i,.inl (ZI m),.inr (λv o D=>∃vl,v=adr vl (m.toNat*Rp.sz Pv)∧Oz w 41 10 o D vl G),.inr (λv o D=>RdL o D v (b4.x:Yl)),.inl i,.inl (ZI m),.inl (ZI d9),.inr (λv o D=>∃vl,v=adr vl (d9.toNat*Rp.sz Pv)∧Oz w 41 10 o D vl G),.inr (λv o D=>RdL o D v (b5.x:Yl))] ⟨hB,hS,B⟩ ⟨λ_ _ _ _ _ _ E hb ⟨vl,e,h⟩ hs=>⟨vl,e,h.stp hs E.1 (Ne.symm hb)⟩,λ_ _ _ _ _ _ E hb h hs=>h.stp hs E.1,λ_ _ _ _ _ _ E hb ⟨vl,e,h⟩ hs=>⟨vl,e,h.stp hs E.1 (Ne.symm hb)⟩,λ_ _ _ _ _ _ E hb h hs=>h.stp hs E.1,trivial⟩ ?_ ?_
    ·refine⟨Dp (h_ rfl),Dp (h_ rfl),Dp (h_ rfl),?_,?_,Dp (h_ rfl),Dp (h_ rfl),Dp (bs_ rfl rfl e0),?_,?_,trivial⟩
     ·rintro o6 o7 o8 ha ⟨-,-,B⟩-;refine Zs ha ?_;refine bT_ B a3 rfl rfl wV_ wY_ ?_;exact⟨_,Stp.refl _ _ _,⟨_,rfl,B⟩⟩
     ·rintro o9 p0 p1 ha- ⟨i3,-⟩;obtain⟨p2,i4,i5⟩:=i3;have ha:=ha.c i4;refine Zs ha ?_;refine bA_ i5 a3 rfl rfl xa_ ?_;intro p3 i6;obtain⟨i7,-,i8⟩:=i6;cases i7
      exact⟨_,Stp.refl _ _ _,i8⟩
     ·rintro p4 p5 p6 ha ⟨-,-,B⟩-;refine Zs ha ?_;refine bT_ B a4 rfl rfl wV_ wY_ ?_;exact⟨_,Stp.refl _ _ _,⟨_,rfl,B⟩⟩
     ·rintro p7 p8 p9 ha- ⟨i9,-⟩;obtain⟨q0,j0,j1⟩:=i9;have ha:=ha.c j0;refine Zs ha ?_;refine bA_ j1 a4 rfl rfl xa_ ?_;intro q1 j2;obtain⟨j3,-,j4⟩:=j2;cases j3
      exact⟨_,Stp.refl _ _ _,j4⟩
    rintro _ rfl N b8 a2 ha ⟨hB,hS,B⟩ ⟨-,J,-,L,-⟩;replace J:RdL N b8 (a2.tmps.getD 22 undef) (b4.x:Yl):=J;generalize j5:a2.tmps.getD 22 undef=q2 at J;have ha:=ha.c j5;replace L:RdL N b8 (a2.tmps.getD 27 undef) (b5.x:Yl):=L;generalize j6:a2.tmps.getD 27 undef=q3 at L;have ha:=ha.c j6;refine aH_ ha ?_;obtain⟨e1,e2,g⟩:=a_ g;refine Zo ?_;refine qO_ (eH_ b8 _ b4.x J.z _ b5.x L.z e1 e2) zT_ rfl ⟨rfl,rfl,trivial⟩ ?_;rintro q4 q5 ⟨rfl,j7⟩;have e3:=j7.stp 999 N;refine⟨_,rfl,?_⟩;replace hS:=hS.tr9 hO e3;obtain⟨B,J,L,hB⟩:=ZS e3 (A4 B J L hB);refine Ze [(0,_),(1,_),(5,_),(28,_)] (nx ?_);refine l_ rfl (λb9=>?_) (λb9=>?_)
    ·rw[if_pos b9] at g;refine Zq (Zm rfl (Zm rfl ?_));obtain⟨q6,e4,g⟩:=a_ g;refine Zo ?_;refine lp_ B e4 rfl rfl wV_ wY_ ?_;refine Za rfl (Ze [(0,_),(1,_),(5,_),(6,_)] (nx (c_ (Zq (Za rfl (Ze [(0,_),(1,_),(5,_),(6,_),(7,_)] (nx ?_)))))));obtain⟨a5,c0,g⟩:=a_ g;refine v_ (λa s=>∃(u:List Pv)(j:Int)(k:Int),∃(q:Tg),a5=.inl (u,j,k)∧Fr a 66 [(0,i),(5,ZI j)]∧Bs oo q w s∧Stp 10 o F q s∧Oz w 41 10 q s i u) (λ_ _=>False) ?_ ?_ ?_
     ·refine f_ ?_;refine w_ (λ(K:Nat) a s=>∃(u:List Pv)(j:Int)(k:Int),∃(q:Tg),loopF (ac_ m) K (u,j,k)=some a5∧Fr a 66 [(0,i),(1,.func (.func 179) #[] #[]),(5,ZI j),(6,subv i m.toNat),(7,ZI k)]∧Bs oo q w s∧Stp 10 o F q s∧Oz w 41 10 q s i u) fuel (λa ha=>⟨G,m,1,N,c0,ha.sb,hB,hS,B⟩) ?_;rintro K109 a s ⟨u,j,k,q,e5,ha,hB,hS,f⟩;obtain⟨K113,j8,j9,d,O⟩:=X_ e5;dsimp only[ac_] at d;refine J_ ha ?_;refine c_ (Zq (Zm rfl (Zm rfl ?_)));obtain⟨k0,c1,d⟩:=a_ d;refine Zv (tu_ f c1 rfl wV_) (Zv (r_ rfl rfl) (Ze [(0,_),(1,_),(5,_),(6,_),(7,_),(35,_)] (nx ?_)));refine l_ rfl (λQ=>?_) (λQ=>?_)
      ·rw[if_pos Q] at d;refine g_ (nx (c_ (f_ (c_ ?_))));obtain⟨R,S,d⟩:=a_ d;obtain⟨k1,c2,d⟩:=a_ d;obtain⟨k2,c3,d⟩:=a_ d;obtain⟨a6,c4,d⟩:=a_ d;obtain⟨T,U,d⟩:=a_ d;obtain⟨k3,c5,d⟩:=a_ d;obtain⟨k4,c6,d⟩:=a_ d;refine ZW (Bf:=λb6 b7=>Bs oo b6 w b7∧Stp 10 o F b6 b7∧Oz w 41 10 b6 b7 i u) [(0,_),(1,_),(5,_),(6,_),(7,_)] (Zrg 38 10) [[],[],[],[1,2],[3],[],[],[6],[5,7],[8]] (Zcn 10) (Zt9 10) [0,0,0,10,0,0,0,0,10,0] [999] [.inl (.func (.func 179) #[] #[]),.inl (subv i m.toNat),.inl (ZI k),.inr (λv o D=>∃vl,v=adr vl ((m+k).toNat*Rp.sz Pv)∧Oz w 41 10 o D vl u),.inr (λv o D=>RdL o D v (R.x:Yl)),.inl (subv i m.toNat),.inl (ZI k),.inl (ZI a6),.inr (λv o D=>∃vl,v=adr vl ((m+a6).toNat*Rp.sz Pv)∧Oz w 41 10 o D vl u),.inr (λv o D=>RdL o D v (T.x:Yl))] ⟨hB,hS,f⟩ ⟨λ_ _ _ _ _ _ E hb ⟨vl,e,h⟩ hs=>⟨vl,e,h.stp hs E.1 (Ne.symm hb)⟩,λ_ _ _ _ _ _ E hb h hs=>h.stp hs E.1,λ_ _ _ _ _ _ E hb ⟨vl,e,h⟩ hs=>⟨vl,e,h.stp hs E.1 (Ne.symm hb)⟩,λ_ _ _ _ _ _ E hb h hs=>h.stp hs E.1,trivial⟩ ?_ ?_
       ·refine⟨Dp (h_ rfl),Dp (h_ rfl),Dp (h_ rfl),?_,?_,Dp (h_ rfl),Dp (h_ rfl),Dp (bs_ rfl rfl c4),?_,?_,trivial⟩
        ·rintro k5 k6 k7 ha ⟨-,-,f⟩-;refine Zs ha ?_;refine ld_ f c3 S (qg_ c2) rfl rfl wV_ wY_ ?_;exact⟨_,Stp.refl _ _ _,⟨_,rfl,f⟩⟩
        ·rintro k8 k9 l0 ha- ⟨e6,-⟩;obtain⟨l1,e7,e8⟩:=e6;have ha:=ha.c e7;refine Zs ha ?_;refine bA_ e8 S rfl rfl xa_ ?_;intro l2 e9;obtain⟨f0,-,f1⟩:=e9;cases f0
         exact⟨_,Stp.refl _ _ _,f1⟩
        ·rintro l3 l4 l5 ha ⟨-,-,f⟩-;refine Zs ha ?_;refine ld_ f c6 U (qg_ c5) rfl rfl wV_ wY_ ?_;exact⟨_,Stp.refl _ _ _,⟨_,rfl,f⟩⟩
        ·rintro l6 l7 l8 ha- ⟨f2,-⟩;obtain⟨l9,f3,f4⟩:=f2;have ha:=ha.c f3;refine Zs ha ?_;refine bA_ f4 U rfl rfl xa_ ?_;intro m0 f5;obtain⟨f6,-,f7⟩:=f5;cases f6
         exact⟨_,Stp.refl _ _ _,f7⟩
       rintro _ rfl C V H ha ⟨hB,hS,f⟩ ⟨-,y,-,A,-⟩;replace y:RdL C V (H.tmps.getD 42 undef) (R.x:Yl):=y;generalize f8:H.tmps.getD 42 undef=m1 at y;have ha:=ha.c f8;replace A:RdL C V (H.tmps.getD 47 undef) (T.x:Yl):=A;generalize f9:H.tmps.getD 47 undef=m2 at A;have ha:=ha.c f9;refine aH_ ha ?_;obtain⟨a7,c7,d⟩:=a_ d;refine Zo ?_;refine qO_ (eH_ V _ R.x y.z _ T.x A.z a7 c7) zT_ rfl ⟨rfl,rfl,trivial⟩ ?_;rintro m3 m4 ⟨rfl,g0⟩;have a8:=g0.stp 999 C;refine⟨_,rfl,?_⟩;replace hS:=hS.tr9 hO a8;obtain⟨f,y,A,hB⟩:=ZS a8 (A4 f y A hB);refine Zv (aI_ rfl) (Ze [(0,_),(1,_),(5,_),(6,_),(7,_),(49,_)] (nx ?_));refine l_ rfl (λW=>?_) (λW=>?_)
       ·rw[if_pos W] at d;refine Zq (Zm rfl (Zm rfl (Zm rfl (Zm rfl ?_))));obtain⟨m5,c8,d⟩:=a_ d;obtain⟨m6,c9,d⟩:=a_ d;obtain⟨m7,d0,d⟩:=a_ d;refine Zo ?_;refine uR_ f d0 c8 (qg_ c9) rfl rfl wV_ wY_ ?_;intro m8 m9 n0 g1 g2;obtain⟨rfl,-,a9⟩:=g2;refine Zv (e_ rfl xa_ (k_ g1)) ?_;obtain⟨n1,d1,d⟩:=a_ d;refine Zo ?_;refine fC_ f d1 rfl rfl wV_ wY_ ?_;intro n2 n3 g3 n4 g4;obtain⟨rfl,-,n5⟩:=g4;obtain⟨g5,d2,d⟩:=a_ d;refine Z_ trivial ?_;refine cf_ f g3 d2 (uO_ a9) (by decide) rfl rfl rfl wY_ a9.cells1 ?_;intro n6 g6 b0;replace hS:=hS.trans b0;replace hB:=hB.stp b0;refine Ze [(0,_),(1,_),(5,_),(6,_),(7,_)] (nx (d_ (Zm rfl ?_)));obtain⟨I,d3,d⟩:=a_ d;refine Zv (C_ rfl rfl d3) (Za rfl (Ze [(0,_),(1,_),(5,_),(6,_),(7,_)] (x_ (nx (d_ (Zm rfl ?_))))));obtain⟨X,d4,d⟩:=a_ d;refine Zv (C_ rfl rfl d4) (Za rfl (Ze [(0,_),(1,_),(5,_),(6,_),(7,_)] (u_ ?_)));have g7:=Zj d;subst g7;refine Zk [(0,_),(1,_),(5,_),(6,_),(7,_)] ?_;intro a ha;exact⟨K113,by omega,g5,I,X,C,O,ha,hB,hS,g6⟩
       ·replace d:=ZF W d;refine g_ (x_ (nx (d_ (Zm rfl ?_))));obtain⟨Y,d5,d⟩:=a_ d;refine Zv (C_ rfl rfl d5) (Za rfl (Ze [(0,_),(1,_),(5,_),(6,_),(7,_)] (u_ ?_)));have g8:=Zj d;subst g8;refine Zk [(0,_),(1,_),(5,_),(6,_),(7,_)] ?_;intro a ha;exact⟨K113,by omega,u,j,Y,C,O,ha,hB,hS,f⟩
      ·replace d:=ZF Q d;refine s_ ?_;refine n_ (n_ (N_ ?_));refine p_ ?_;have g9:=Zj d;subst g9;refine Zk [(0,_),(5,_)] ?_;intro a ha;exact⟨u,j,k,q,O,ha,hB,hS,f⟩
     ·rintro a s ⟨u,j,k,q,rfl,ha,hB,hS,f⟩;dsimp only at g;refine ap_k ha ?_;refine Zn (Zm rfl (Zm rfl ?_));obtain⟨n7,d6,g⟩:=a_ g;refine Zo ?_;refine lp_ f d6 rfl rfl wV_ wY_ ?_;obtain⟨n8,d7,g⟩:=a_ g;obtain⟨n9,Z,g⟩:=a_ g;have h0:=rh_ f Z;refine Z_ trivial ?_;refine kP_ f d7 Z (by decide) rfl wV_ Tryz.zeroValue41 ?_;intro o0 o1 h1 b1;replace hS:=hS.trans b1;replace hB:=hB.stp b1;refine Ze [(0,_),(5,_)] (Zn (Zm rfl (Zm rfl (Zv (ok_ h0 rfl rfl wV_ wY_) (Za rfl (Ze [(4,_)] (nx (j_ (W_ (y_ (y_ (W_ ?_))))))))))));refine bg_ ?_;have h2:=Zj g;subst h2;refine λa ha=>⟨_,b2,?_⟩;refine D_ (P:=wQ_) (vs:=[prev i j.toNat]) yq_ ⟨rfl,trivial⟩ ?_ a ha;exact⟨_,q,rfl,h1,hB,hS⟩
     ·exact λ_ _ h=>h.elim
    ·replace g:=ZF b9 g;refine g_ (x_ (nx (d_ (Zm rfl ?_))));obtain⟨a0,d8,g⟩:=a_ g;refine Zv (C_ rfl rfl d8) (Za rfl (Ze [(0,_),(1,_),(5,_)] (u_ ?_)));have h3:=Zj g;subst h3;refine Zk [(0,_),(1,_),(5,_)] ?_;intro a ha;exact⟨K16,by omega,G,a0,N,b2,ha,hB,hS,B⟩
   ·replace g:=ZF b3 g;refine s_ ?_;refine n_ (n_ (N_ ?_));refine p_ ?_;have h4:=Zj g;subst h4;refine Zk [(0,_)] ?_;intro a ha;exact⟨G,m,M,b2,ha,hB,hS,B⟩
  ·rintro a a1 ⟨G,m,M,rfl,ha,hB,hS,B⟩;dsimp only at hF;refine ap_k ha ?_;refine Zn (Zm rfl (Za rfl (Ze [(4,_)] (nx (j_ ?_)))));have h5:=Zj hF;subst h5;refine Zr yq_ [i] ?_;exact⟨_,M,rfl,B,hB,hS⟩
  ·rintro a a1 ⟨r',rfl,h6⟩;dsimp only at hF;have h7:=Zj hF;subst h7;exact h6
end
section
open Go.RowKit
theorem goF{σ τ ρ:Type}{f:σ->Option (Lp σ τ ρ)}{s b:σ}(h:f s=some (.go b))(a:Nat):loopF f (a+1) s=loopF f a b:=by simp only[loopF,h]
theorem outF{σ τ ρ:Type}{f:σ->Option (Lp σ τ ρ)}{s:σ}{t:τ}(h:f s=some (.out t))(a:Nat):loopF f (a+1) s=some (.inl t):=by simp only[loopF,h]
theorem retF{σ τ ρ:Type}{f:σ->Option (Lp σ τ ρ)}{s:σ}{r:ρ}(h:f s=some (.ret r))(a:Nat):loopF f (a+1) s=some (.inr r):=by simp only[loopF,h]
theorem wq_(xs a:List Int)(o:xs.length<=1000000000)(n:a.length<=1000000000):bb_ xs a=some (decide (xs=a)):=by
 unfold bb_;by_cases h:xs.length=a.length
 ·rw[if_neg (by simp[h]),F_ (by omega) (by omega),sb];simp only[Int.toNat_natCast];rw[hq_ (λk x=>if x=a.getD k 0 then none else some false) xs (λj x i _=>by
   have m:=(List.getElem?_eq_some_iff.1 i).1;unfold bz_;rw[aY_,i,sb,hg_ _ _ (show j<a.length by omega),sb];have:a.getD j 0=a[j]'(by omega):=by simp[List.getElem?_eq_getElem (show j<a.length by omega)]
   simp only[this];by_cases e:x=a[j]'(by omega)
   ·simp[e,lpP]
   ·simp[e,lpP]),sb]
  cases g:firstP (λk x=>if x=a.getD k 0 then none else some false) xs 0 with
  | none=>
   have:xs=a:=by
    refine List.ext_getElem h λj f b=>?_;have:=df_.1 g j _ (List.getElem?_eq_getElem f);rw[Nat.zero_add] at this;split at this
    ·rename_i e;rw[e];simp[List.getElem?_eq_getElem b]
    ·cases this
   simp[outP,this]
  | some r=>
   obtain⟨j,x,f,b⟩:=dI_ g;rw[Nat.zero_add] at b;split at b
   ·cases b
   ·rename_i d;cases b
    have:xs≠a:=λe=>d (by rw[<-e];simp[f]);simp[outP,this]
 ·rw[if_pos (by simp;omega)];have:xs≠a:=λe=>h (by rw[e]);simp[this]
def at'(ps:List Pv)(j:Nat):Pv:=ps.getD j default
def kc(ps:List Pv)(j:Nat):Bool:=decide (j=0∨(at' ps j).x≠(at' ps (j-1)).x)
def kp(ps:List Pv)(n:Nat):List Pv:=((List.range n).filter (kc ps)).map (at' ps)
theorem vt_{ps:List Pv}{n:Nat}(h:kc ps n=true):kp ps (n+1)=kp ps n++[at' ps n]:=by simp[kp,List.range_succ,h]
theorem wI_{ps:List Pv}{n:Nat}(h:kc ps n=false):kp ps (n+1)=kp ps n:=by simp[kp,List.range_succ,h]
theorem wD_(ps:List Pv)(n:Nat):(kp ps n).length<=n:=by
 have:=List.length_filter_le (kc ps) (List.range n);simpa [kp] using this
theorem hJ_{ps:List Pv}{j:Nat}(h:j<ps.length):ps[j]? =some (at' ps j):=by
 unfold at';rw[List.getD_eq_getElem?_getD,List.getElem?_eq_getElem h];rfl
theorem ixa{ps:List Pv}{j:Nat}{i:Int}(hi:i=(j:Int))(h:j<ps.length):ix ps i=some (at' ps j):=by
 subst hi;unfold ix;rw[if_pos (by omega),Int.toNat_natCast];exact hJ_ h
theorem tB_(ps:List Pv):(kp ps ps.length).Sublist ps:=by
 have d:(kp ps ps.length).Sublist ((List.range ps.length).map (at' ps)):=(List.filter_sublist).map _;have b:(List.range ps.length).map (at' ps)=ps:=by
  apply List.ext_getElem?;intro j;by_cases a:j<ps.length
  ·rw[List.getElem?_map,List.getElem?_range a,hJ_ a];rfl
  ·rw[List.getElem?_eq_none (by simp;omega),List.getElem?_eq_none (by omega)]
 rwa [b] at d
theorem cutF(ps:List Pv)(lo:Nat):cut ps (lo:Int) ps.length=if lo<=ps.length then some (ps.drop lo) else none:=by
 unfold cut;by_cases h:lo<=ps.length
 ·rw[if_pos (by omega),if_pos h];simp
 ·rw[if_neg (by omega),if_neg h]
theorem qT_(ps:List Pv)(hl:ps.length<=1000000000)(hx:∀p∈ps,p.x.length<=1000000000)(k0:Nat)(h0:1<=k0):∀(d m fuel:Nat)(s:List Pv),m+d=ps.length->d<fuel->k0+1<=m->s.length=ps.length->
    (kp ps m).length+1<=m->s.take (kp ps m).length=kp ps m->s.drop (m-1)=ps.drop (m-1)->k0<=(kp ps m).length->
    ∃s' c,loopF (ac_ (k0:Int)) fuel (s,((kp ps m).length:Int),((m-k0:Nat):Int))=some (.inl (s',((kp ps ps.length).length:Int),c))∧s'.take (kp ps ps.length).length=kp ps ps.length∧s'.length=ps.length∧k0<=(kp ps ps.length).length
  | 0,m,fuel,s,hd,hf,h1,h2,h3,h4,h5,h6=>by
    obtain⟨fuel,rfl⟩:∃q,fuel=q+1:=⟨fuel-1,by omega⟩;have hm:m=ps.length:=by omega
    subst hm;refine⟨s,((ps.length-k0:Nat):Int),?_,h4,h2,h6⟩;refine outF ?_ fuel;unfold ac_;simp only
    rw[cutF,if_pos (by omega),sb,if_neg (by simp;omega)]
  | d+1,m,fuel,s,hd,hf,h1,h2,h3,h4,h5,h6=>by
    obtain⟨fuel,rfl⟩:∃q,fuel=q+1:=⟨fuel-1,by omega⟩;have hat:∀j,m-1<=j->at' s j=at' ps j:=λj hj=>by
      unfold at';rw[List.getD_eq_getElem?_getD,List.getD_eq_getElem?_getD];have e:=congrArg (λl=>l[j-(m-1)]?) h5;simp only[List.getElem?_drop] at e;rw[show m-1+(j-(m-1))=j by omega] at e;rw[e]
    have e1:=hat m (by omega);have e2:=hat (m-1) (by omega);have hm1:=hx _ (List.mem_of_getElem? (hJ_ (ps:=ps) (j:=m) (by omega)));have hm2:=hx _ (List.mem_of_getElem? (hJ_ (ps:=ps) (j:=m-1) (by omega)));have step:∃s',ac_ (k0:Int) (s,((kp ps m).length:Int),((m-k0:Nat):Int))=some (.go (s',((kp ps (m+1)).length:Int),((m+1-k0:Nat):Int)))∧s'.length=ps.length∧(kp ps (m+1)).length+1<=m+1∧
        s'.take (kp ps (m+1)).length=kp ps (m+1)∧s'.drop m=ps.drop m∧k0<=(kp ps (m+1)).length:=by
      unfold ac_ nn;simp only
      rw[cutF,if_pos (by omega),sb,if_pos (by simp;omega),ixa (j:=m) (by omega) (by omega),sb,if_pos (by omega),sb,sb,F_ (by omega) (by omega),sb,ixa (j:=m-1) (by omega) (by omega),sb,if_pos (by omega),sb,sb,e1,e2,wq_ _ _ hm1 hm2,sb];by_cases hc:(at' ps m).x=(at' ps (m-1)).x
      · have hk : kc ps m = false := by unfold kc;rw[decide_eq_false_iff_not];intro h;rcases h with h|h;· omega
                                        · exact h hc
        rw[if_neg (by simp[hc]),F_ (by omega) (by omega),sb,wI_ hk];refine⟨s,?_,h2,by omega,h4,?_,h6⟩
        · rw[show((m-k0:Nat):Int)+1=((m+1-k0:Nat):Int) by omega]
        · have:=congrArg (List.drop 1) h5
          rw[List.drop_drop,List.drop_drop,show m-1+1=m by omega] at this;exact this
      · have hk:kc ps m=true:=by unfold kc;rw[decide_eq_true_eq];exact .inr hc
        have hlt:(kp ps m).length<s.length:=by omega
        rw[if_pos (by simp[hc]),sb,sb,sb,ixa (i:=((kp ps m).length:Int)) (j:=(kp ps m).length) rfl hlt,sb];unfold Go.Proofs.YtdbbeldgdgonfaaGreat.st;rw[if_pos (by omega),sb,F_ (by omega) (by omega),sb,F_ (by omega) (by omega),sb,vt_ hk];refine⟨s.set (kp ps m).length (at' ps m),?_,by simp[h2],by simp;omega,?_,?_,by simp;omega⟩
        · rw[show((m-k0:Nat):Int)+1=((m+1-k0:Nat):Int) by omega,Int.toNat_natCast]
          simp
        · rw[List.length_append,List.length_cons,List.length_nil,List.take_add_one,List.take_set_of_le (Nat.le_refl _),h4,List.getElem?_set_self hlt]
          rfl
        · rw[List.drop_set_of_lt (by omega)]
          have:=congrArg (List.drop 1) h5;rw[List.drop_drop,List.drop_drop,show m-1+1=m by omega] at this;exact this
    obtain⟨s',g1,g2,g3,g4,g5,g6⟩:=step;rw[goF g1];exact qT_ ps hl hx k0 h0 d (m+1) fuel s' (by omega) (by omega) (by omega) g2 g3 g4 (by simpa using g5) g6
theorem rs_(ps:List Pv)(hl:ps.length<=1000000000)(hx:∀p∈ps,p.x.length<=1000000000)(fuel0:Nat)(hf0:ps.length<fuel0):∀(d k fuel:Nat),k+d=ps.length->d<fuel->1<=k->kp ps k=ps.take k->
    ∃q,loopF (V_ fuel0) fuel (ps,(k:Int))=some q∧(q=.inr (kp ps ps.length)∨∃c,q=.inl (kp ps ps.length,c))
  | 0,k,fuel,hd,hf,h1,h2=>by
    obtain⟨fuel,rfl⟩:∃q,fuel=q+1:=⟨fuel-1,by omega⟩;have hk:k=ps.length:=by omega
    subst hk;rw[List.take_length] at h2;refine⟨_,outF (t:=(ps,(ps.length:Int))) ?_ fuel,.inr ⟨_,by rw[h2]⟩⟩;unfold V_;simp only
    rw[if_neg (by simp)]
  | d + 1, k, fuel, hd, hf, h1, h2 => by
    obtain⟨fuel,rfl⟩:∃q,fuel=q+1:=⟨fuel-1,by omega⟩;have hm1:=hx _ (List.mem_of_getElem? (hJ_ (ps:=ps) (j:=k) (by omega)));have hm2:=hx _ (List.mem_of_getElem? (hJ_ (ps:=ps) (j:=k-1) (by omega)));by_cases hc:(at' ps k).x=(at' ps (k-1)).x
    · have hk : kc ps k = false := by unfold kc;rw[decide_eq_false_iff_not];intro h;rcases h with h|h;· omega
                                      · exact h hc
      have hkp:kp ps (k+1)=ps.take k:=by rw[wI_ hk,h2]
      have hkl:(kp ps (k+1)).length=k:=by rw[hkp,List.length_take];omega
      obtain⟨s',c,g1,g2,g3,g4⟩:=qT_ ps hl hx k h1 d (k+1) fuel0 ps (by omega) (by omega) (by omega) rfl (by omega) (by rw[hkl,hkp]) rfl (by omega);rw[hkl,show((k+1-k:Nat):Int)=1 by omega] at g1;have hkle:=wD_ ps ps.length;refine⟨_,retF (r:=kp ps ps.length) ?_ fuel,.inl rfl⟩;unfold V_;simp only
      rw[if_pos (by simp;omega),ixa (j:=k) rfl (by omega),sb,F_ (by omega) (by omega),sb,ixa (j:=k-1) (by omega) (by omega),sb,wq_ _ _ hm1 hm2,sb,if_pos (by simp[hc]),cutF,if_pos (by omega),sb,g1,sb];simp only
      rw[cutF,if_pos (by omega),sb,sb];unfold cut;rw[if_pos (by omega),sb];simp only[Int.toNat_natCast,show(0:Int).toNat=0 from rfl,List.drop_zero,g2]
    · have hk:kc ps k=true:=by unfold kc;rw[decide_eq_true_eq];exact .inr hc
      have hkp:kp ps (k+1)=ps.take (k+1):=by
        rw[vt_ hk,h2,List.take_add_one,hJ_ (by omega)];rfl
      have g1:V_ fuel0 (ps,(k:Int))=some (.go (ps,((k+1:Nat):Int))):=by
        unfold V_;simp only
        rw[if_pos (by simp;omega),ixa (j:=k) rfl (by omega),sb,F_ (by omega) (by omega),sb,ixa (j:=k-1) (by omega) (by omega),sb,wq_ _ _ hm1 hm2,sb,if_neg (by simp[hc]),F_ (by omega) (by omega),sb];simp
      rw[goF g1];exact rs_ ps hl hx fuel0 hf0 d (k+1) fuel (by omega) (by omega) (by omega) hkp
theorem ty_(ps:List Pv)(f:ps.length<=1000000000)(j:∀p∈ps,p.x.length<=1000000000)(a:Nat)(g:ps.length<a):aZ_ a ps=some (kp ps ps.length):=by
 unfold aZ_;by_cases b:ps.length<2
 ·rw[if_pos (by simp;omega)]
  match ps,b with
  |[],_=>rfl
  |[p],_=>rfl
  |_::_::_,h=>exfalso;simp only[List.length_cons] at h;omega
 ·rw[if_neg (by simp;omega)];have i:kp ps 1=ps.take 1:=by
   match ps,b with
   |p::_,_=>rfl
   |[],h=>simp at h
  obtain⟨q,e,d⟩:=rs_ ps f j a g (ps.length-1) 1 a (by omega) (by omega) (by omega) i;rw[show((1:Nat):Int)=1 from rfl] at e;rw[e,sb];rcases d with rfl|⟨c,rfl⟩<;>rfl
end
section
open Go.RowKit
theorem wH_{L:Nat}(ps:List Pv)(hL:∀p∈ps,p.x.length=L)(hs:ps.Pairwise λa b=>¬ordL b.x a.x<0):sorS ((kp ps ps.length).map (·.x))∧∀z,z∈(kp ps ps.length).map (·.x)<->z∈ps.map (·.x):=by
  have hat:∀i,i<ps.length->at' ps i∈ps:=λi hi=>List.mem_of_getElem? (hJ_ hi);have hpw:∀i j,i<j->j<ps.length->¬ordL (at' ps j).x (at' ps i).x<0:=λi j hij hj=>by
    have:=List.pairwise_iff_getElem.1 hs i j (by omega) hj hij;have e1:ps[i]'(by omega)=at' ps i:=by have:=hJ_ (ps:=ps) (j:=i) (by omega);rw[List.getElem?_eq_getElem (by omega)] at this;exact Option.some.inj this
    have e2:ps[j]=at' ps j:=by have:=hJ_ (ps:=ps) (j:=j) hj;rw[List.getElem?_eq_getElem hj] at this;exact Option.some.inj this
    rw[e1,e2] at this;exact this
  have hle:∀i j,i<=j->j<ps.length->(at' ps i).x=(at' ps j).x∨ordL (at' ps i).x (at' ps j).x<0:=λi j hij hj=>by
    by_cases e:i=j
    · subst e;exact .inl rfl
    · have h1:=hpw i j (by omega) hj
      have h2:=iI_ (at' ps i).x (at' ps j).x;by_cases h0:ordL (at' ps i).x (at' ps j).x=0
      · exact .inl ((iD_ (by rw[hL _ (hat i (by omega)),hL _ (hat j hj)])).1 h0)
      · exact .inr (by omega)
  constructor
  · unfold sorS kp
    rw[List.map_map,List.pairwise_map];have hr:(List.range ps.length).Pairwise (·<·):=List.pairwise_lt_range;refine List.Pairwise.imp_of_mem (λ{i j} hi hj hij=>?_) (hr.filter (kc ps));have hj1:=List.mem_range.1 (List.mem_filter.1 hj).1;have hj2:=(List.mem_filter.1 hj).2;unfold kc at hj2;rw[decide_eq_true_eq] at hj2
    have hne : (at' ps j).x ≠ (at' ps (j - 1)).x := by rcases hj2 with h|h;· omega
                                                       · exact h
    have hlt:ordL (at' ps (j-1)).x (at' ps j).x<0:=by
      rcases hle (j-1) j (by omega) hj1 with h|h
      · exact absurd h.symm hne
      · exact h
    show ordL (at' ps i).x (at' ps j).x<0;rcases hle i (j-1) (by omega) (by omega) with h|h
    · rw[h];exact hlt
    · exact js_ (by rw[hL _ (hat i (by omega)),hL _ (hat (j-1) (by omega))]) (by rw[hL _ (hat j hj1),hL _ (hat (j-1) (by omega))]) h hlt
  · intro z
    constructor
    · intro hz
      obtain⟨p,hp,rfl⟩:=List.mem_map.1 hz;exact List.mem_map.2 ⟨p,(tB_ ps).subset hp,rfl⟩
    · intro hz
      obtain⟨p,hp,rfl⟩:=List.mem_map.1 hz;obtain⟨i,hi⟩:=List.getElem?_of_mem hp;have hil:=(List.getElem?_eq_some_iff.1 hi).1;have:∀i,i<ps.length->(at' ps i).x∈(kp ps ps.length).map (·.x):=by
        intro i
        induction i with
        | zero=>
          intro h;refine List.mem_map.2 ⟨_,List.mem_map.2 ⟨0,List.mem_filter.2 ⟨List.mem_range.2 h,by simp[kc]⟩,rfl⟩,rfl⟩
        | succ i ih=>
          intro h;by_cases hc:kc ps (i+1)=true
          · exact List.mem_map.2 ⟨_,List.mem_map.2 ⟨i+1,List.mem_filter.2 ⟨List.mem_range.2 h,hc⟩,rfl⟩,rfl⟩
          · have:(at' ps (i+1)).x=(at' ps i).x:=by
              unfold kc at hc;rw[decide_eq_true_eq] at hc;exact Classical.byContradiction λh=>hc (.inr (by simpa using h))
            rw[this];exact ih (by omega)
      have e1:=hJ_ hil;rw[hi] at e1;cases e1
      exact this i hil
theorem uM_(ps e:List Pv){L:Nat}(j:∀p∈ps,p.x.length=L)(g:e.Perm ps)(o:e.Pairwise λa b=>¬ordL b.x a.x<0):(kp e e.length).map (·.x)=sxd (ps.map (·.x)):=by
 have f:∀p∈e,p.x.length=L:=λp d=>j p (g.subset d);obtain⟨n,m⟩:=wH_ e f o;obtain⟨k,q⟩:=ns_ (L:=L) (ps.map (·.x)) [] (λz i=>by obtain⟨p,g,rfl⟩:=List.mem_map.1 i;exact j p g) (by simp) List.Pairwise.nil;refine rB_ (L:=L) (λz i=>?_) n k λz=>?_
 ·obtain⟨p,d,rfl⟩:=List.mem_map.1 i;exact f p ((tB_ e).subset d)
 ·unfold sxd;rw[m,q];constructor
  ·intro h;obtain⟨p,d,rfl⟩:=List.mem_map.1 h;exact .inr (List.mem_map.2 ⟨p,g.subset d,rfl⟩)
  ·rintro(h|h)
   ·cases h
   ·obtain⟨p,d,rfl⟩:=List.mem_map.1 h;exact List.mem_map.2 ⟨p,g.symm.subset d,rfl⟩
def apV(a b:Pv):Prop:=∀g,a.v.ownBlock=some g->b.v.ownBlock≠some g
def sl2(w:World)(G:Nat):World:={w with heap:=w.heap.extract 0 G}
set_option maxRecDepth 100000 in
set_option maxHeartbeats 2000000 in
theorem iA_{B k R:Nat}{o:Tg}{w:World}{v:Value}{vs:List Hv}{xs ys:List (List Int)}(h:Ow B 41 k o w v vs)(hr:Rws B 3 R o w vs xs)(hk:k≠0)(hkr:R≠0)(hne:R≠k)(hB:B<=w.heap.size)(hF:srtL xs=some ys):
  Calls wQ_ 144 #[v] w λe w'=>∃v' vs' Y,e=.returned v'∧Ow B 41 k Y w' v' vs'∧Rws B 3 R Y w' vs' ys∧Stp k o w Y w':=by
 unfold srtL at hF;split at hF
 rotate_left
 ·cases hF
 rename_i hcond;obtain⟨hl,hL1,hL⟩:=hcond;cases hF
 generalize (xs.headD []).length=L at hL1 hL
 -- the rows under their values
 obtain⟨r1,r2,r3⟩:=hr;let ps:List Pv:=List.zipWith (λu x=>(⟨u.v,x⟩:Pv)) vs xs
 have hpl:ps.length=xs.length:=by show(List.zipWith _ vs xs).length=_;rw[List.length_zipWith,r1,Nat.min_self]
 have hpi:∀(i:Nat)(u:Hv)(x:List Int),vs[i]? =some u->xs[i]? =some x->ps[i]? =some (⟨u.v,x⟩:Pv):=λi u x a b=>by
  show(List.zipWith _ vs xs)[i]? =_;rw[List.getElem?_zipWith,a,b]
 have hpx:ps.map (·.x)=xs:=by
  apply List.ext_getElem?;intro i;by_cases hi:i<xs.length
  ·rw[List.getElem?_map,hpi i (vs[i]'(by omega)) xs[i] (List.getElem?_eq_getElem (by omega)) (List.getElem?_eq_getElem hi),List.getElem?_eq_getElem hi];rfl
  ·rw[List.getElem?_eq_none (by rw[List.length_map,hpl];omega),List.getElem?_eq_none (by omega)]
 have O:∀(i:Nat)(p:Pv),ps[i]? =some p->vs[i]? =some (⟨p.v⟩:Hv)∧xs[i]? =some p.x:=λi p d=>by
  have hi:i<xs.length:=by have:=(List.getElem?_eq_some_iff.1 d).1;omega
  have:=hpi i (vs[i]'(by omega)) xs[i] (List.getElem?_eq_getElem (by omega)) (List.getElem?_eq_getElem hi);rw[d] at this;cases this
  exact⟨List.getElem?_eq_getElem (by omega),List.getElem?_eq_getElem hi⟩
 have T:∀p∈ps,Ow B 3 R o w p.v p.x:=λp d=>by
  obtain⟨i,hi⟩:=List.getElem?_of_mem d;obtain⟨a,b⟩:=O i p hi;exact r2 i ⟨p.v⟩ p.x a b
 have hpL:∀p∈ps,p.x.length=L:=λp d=>hL p.x (by rw[<-hpx];exact List.mem_map.2 ⟨p,d,rfl⟩);have hap:ps.Pairwise apV:=by
  rw[List.pairwise_iff_getElem];intro i j hi hj hij g h1 h2;obtain⟨a1,b1⟩:=O i _ (List.getElem?_eq_getElem hi);obtain⟨a2,b2⟩:=O j _ (List.getElem?_eq_getElem hj);have:=r3 i j _ _ g a1 a2 h1 h2;omega
 let E:Tg:=frz R o
 have ho2:∀b,o b=k->E b=k:=λb t=>by show(if o b=R then 0 else o b)=k;rw[t,if_neg (Ne.symm hne)]
 have J:∀b,E b=k->o b=k:=λb t=>by
  have t:(if o b=R then 0 else o b)=k:=t;split at t
  ·exact absurd t.symm hk
  ·exact t
 have hrd2:∀p∈ps,RdL E w p.v p.x:=λp d=>(T p d).frz;have hsp:Ow B 41 k E w v ps:=by
  obtain⟨css,c1,c2,c3,c4⟩:=h;refine⟨css,by rw[c1,r1,hpl],?_,λg hg=>ho2 g (c3 g hg),λi cs p hc d=>?_⟩
  ·rw[hpl,<-r1];exact c2
  ·obtain⟨a,b⟩:=O i p d;obtain⟨U,Q⟩:=c4 i cs _ hc a;exact⟨U,Q,hrd2 p (List.mem_of_getElem? d)⟩
 clear h r2 r3;refine i_ (n:=7) (vs:=[v]) Tryz.func144 rfl rfl ?_;refine c_ ?_;refine d_ ?_;refine q_ (ao_ rfl) (by decide) trivial ?_;refine aR_ (r:=[(0,v)]) ⟨rfl,trivial⟩ ?_;refine nx ?_;refine c_ ?_;refine d_ ?_;refine q_ (h_ rfl) (by decide) trivial ?_;refine cJ_ (by decide) trivial ?_;refine o_ (pH_ hsp hk hpL (by omega)) Tryz.call177 ⟨rfl,rfl,trivial⟩ ?_;rintro e1 C ⟨rfl,s,m,hsor,D,f⟩;refine⟨_,rfl,?_⟩;refine aR_ (r:=[(0,v)]) ⟨rfl,trivial⟩ ?_;refine nx ?_
 -- as the second call sees it
 let G:Nat:=match v.ownBlock with|some g=>g|none=>C.heap.size
 let wb:World:=sl2 C G
 let oo:Tg:=λb=>if E b=0 then 0 else 1
 let I:Tg:=λb=>if v.ownBlock=some b then 10 else if E b=0 then 0 else 1
 have hGw:G<=C.heap.size:=by
  show(match v.ownBlock with|some g=>g|none=>C.heap.size)<=_;cases V:v.ownBlock with
  |none=>exact Nat.le_refl _
  |some g=>exact Nat.le_of_lt (D.ltw g V).2
 have hBG:B<=G:=by
  show B<=(match v.ownBlock with|some g=>g|none=>C.heap.size);cases V:v.ownBlock with
  |none=>exact Nat.le_trans hB f.size
  |some g=>exact(D.ltw g V).1
 have K:wb.heap.size=G:=by show(C.heap.extract 0 G).size=G;simp;omega
 have W:∀g,v.ownBlock=some g->E g=k:=D.tagged;have hBs:Bs oo I wb C:=by
  refine⟨⟨rfl,rfl,rfl,by rw[K];exact hGw,λb t=>?_⟩,λb t=>?_⟩
  ·show C.heap[b]? =(C.heap.extract 0 G)[b]?;rw[Array.getElem?_extract];rw[K] at t;rw[if_pos (by omega)];simp
  ·rw[K] at t;show(if v.ownBlock=some b then 10 else if E b=0 then 0 else 1)=if(if E b=0 then 0 else 1)=0 then 0 else 1;rw[if_neg (λe=>by
    have:G=b:=by show(match v.ownBlock with|some g=>g|none=>C.heap.size)=b;rw[e]
    omega)]
   split<;>simp
 have hO:∀b,b<C.heap.size->I b≠999:=λb _=>by
  show(if v.ownBlock=some b then 10 else if E b=0 then 0 else 1)≠999;split
  ·decide
  ·split<;>decide
 have h10:∀b,E b=0->I b=0:=λb t=>by
  show(if v.ownBlock=some b then 10 else if E b=0 then 0 else 1)=0;rw[if_neg (λe=>by have:=W b e;rw[t] at this;exact hk this.symm),if_pos t]
 have hsp2:Ow wb.heap.size 41 10 I C v s:=by
  obtain⟨css,c1,c2,c3,c4⟩:=D;refine⟨css,c1,⟨c2.1,?_⟩,λg hg=>if_pos hg,λi cs p hc d=>?_⟩
  ·rcases c2.2 with q|⟨g,cap,Z,rfl,q⟩
   ·exact .inl q
   ·refine .inr ⟨g,cap,Z,rfl,?_,q.2⟩;rw[K];exact Nat.le_refl _
  ·obtain⟨U,Q,q3⟩:=c4 i cs p hc d;exact⟨U,Q,q3.mv (Nat.le_refl _) λb _ t=>⟨rfl,h10 b t⟩⟩
 have hl1:s.length<=1000000000:=by rw[m.length_eq];omega
 refine c_ ?_;refine d_ ?_;refine q_ (h_ rfl) (by decide) trivial ?_;refine cJ_ (by decide) trivial ?_;refine o_ (eR_ 1000000001 wb C oo I hBs hO v s hsp2 _ (ty_ s hl1 (λp d=>by have:=hpL p (m.subset d);omega) 1000000001 (by omega))) Tryz.call178 ⟨rfl,rfl,trivial⟩ ?_;rintro e2 w2 ⟨v2,o3,rfl,S,hBs3,y⟩;refine⟨_,rfl,?_⟩;refine q_ (ao_ rfl) (by decide) trivial ?_;refine aR_ (r:=[(2,v2)]) ⟨rfl,trivial⟩ ?_;refine nx ?_;refine j_ ?_;refine D_ (P:=wQ_) (vs:=[v2]) Tryz.results144 ⟨rfl,trivial⟩ ?_
 -- what is left
 have N:=uM_ ps s hpL m hsor;rw[hpx] at N;have M:(kp s s.length).Sublist s:=tB_ s;generalize kp s s.length=r at S N M;have hmem:∀p∈r,p∈ps:=λp d=>m.subset (M.subset d);let Y:Tg:=λb=>if b<w.heap.size then o b else if o3 b=10 then k else 0
 have F:Stp k o w Y w2:=by
  refine⟨y.os.trans f.os,y.tape.trans f.tape,y.output.trans f.output,Nat.le_trans f.size y.size,λb t hnk=>?_,λb t=>if_pos t⟩;have e1:=f.block b t (λe=>hnk (J b e));have e2:=y.block b (Nat.lt_of_lt_of_le t f.size) (λe=>by
   have e:(if v.ownBlock=some b then 10 else if E b=0 then 0 else 1)=10:=e;split at e
   ·rename_i V;exact hnk (J b (W b V))
   ·split at e<;>cases e)
  exact e2.trans e1
 have X:∀p∈r,Ow B 3 R Y w2 p.v p.x:=λp d=>(T p (hmem p d)).stp F hk hne;have hapr:r.Pairwise apV:=(m.symm.pairwise hap (λ{a b} hab g h1 h2=>hab g h2 h1)).sublist M;refine⟨v2,r.map λp=>⟨p.v⟩,Y,rfl,?_,⟨?_,?_,?_⟩,F⟩
 ·obtain⟨css,c1,c2,c3,c4⟩:=S;refine⟨css,by simpa using c1,?_,λg hg=>?_,λi cs u hc A=>?_⟩
  ·rw[List.length_map];obtain⟨U,Q⟩:=c2;refine⟨U,?_⟩;rcases Q with Q|⟨g,cap,Z,e,q3,q4⟩
   ·exact .inl Q
   ·rw[K] at q3;exact .inr ⟨g,cap,Z,e,Nat.le_trans hBG q3,q4⟩
  ·have e3:=c3 g hg;show(if g<w.heap.size then o g else if o3 g=10 then k else 0)=k;split
   ·rename_i hgl;have hgl1:g<C.heap.size:=Nat.lt_of_lt_of_le hgl f.size;have e4:=y.own g hgl1;rw[e3] at e4;have e5:(if v.ownBlock=some g then 10 else if E g=0 then 0 else 1)=10:=e4.symm;split at e5
    ·rename_i V;exact J g (W g V)
    ·split at e5<;>cases e5
   ·simp
  ·rw[List.getElem?_map] at A;cases d:r[i]? with
   |none=>rw[d] at A;cases A
   |some p=>
    rw[d] at A;cases A
    obtain⟨U,Q,_⟩:=c4 i cs p hc d;exact⟨U,Q⟩
 ·rw[List.length_map,<-N,List.length_map]
 ·intro i u x A hx;rw[List.getElem?_map] at A;rw[<-N,List.getElem?_map] at hx;cases d:r[i]? with
  |none=>rw[d] at A;cases A
  |some p=>
   rw[d] at A hx;cases A;cases hx
   exact X p (List.mem_of_getElem? d)
 ·intro i j u u' g A H h1 h2;rw[List.getElem?_map] at A H;cases d:r[i]? with
  |none=>rw[d] at A;cases A
  | some p=>
   cases hq:r[j]? with
   |none=>rw[hq] at H;cases H
   |some q=>
    rw[d] at A;rw[hq] at H;cases A;cases H
    obtain⟨hi,ei⟩:=List.getElem?_eq_some_iff.1 d;obtain⟨hj,ej⟩:=List.getElem?_eq_some_iff.1 hq;have hpw:=List.pairwise_iff_getElem.1 hapr;rcases Nat.lt_trichotomy i j with hlt|heq|hgt
    ·have:=hpw i j hi hj hlt g;rw[ei,ej] at this;exact absurd h2 (this h1)
    ·exact heq
    ·have:=hpw j i hj hi hgt g;rw[ei,ej] at this;exact absurd h1 (this h2)
end
end Go.Proofs.YtdbbeldgdgonfaaGreat
