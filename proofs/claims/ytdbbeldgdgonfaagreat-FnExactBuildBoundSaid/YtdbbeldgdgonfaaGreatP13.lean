/- Part 13 of what this claim rests on (pack.py). -/
import Derived.Test.YtdbbeldgdgonfaaGreatP12
namespace Go.Proofs.YtdbbeldgdgonfaaGreat
open Tryz renaming prog→wQ_, underlying90→xm_, sizeOf28→wU_, underlying28→wW_, sizeOf22→wZ_, isAgg22→xb_, underlying22→wV_, sizeOf41→wY_, sizeOf87→xG_, isAgg87→xH_, sizeOf3→wS_, isAgg3→wT_, underlying41→wR_, isAgg90→xt_, sizeOf90→xu_, call122→yg_
set_option linter.unusedSimpArgs false
set_option linter.unusedVariables false
section
set_option maxRecDepth 100000
set_option maxHeartbeats 2000000
open Go.RowKit
theorem ix_:Inf wQ_ 3 (.int .i64 0) 1 8:=by unfold Inf;kernel_rfl
theorem hZ_:Inf wQ_ 41 (.slice none 0 0) 1 24:=by unfold Inf;kernel_rfl
def aM_(b:List Int):Int->Int->((List Int)×Bool)->Option (Lp ((List Int)×Bool) ((List Int)×Bool) ((List Int)×Bool)):=λ(k:Int)(a:Int)(s:(List Int)×Bool)=>
  (ix s.1 a)>>=λc=>
  (ix b a)>>=λd=>
  (ix s.1 a)>>=λf=>
  if(band c d) !=f then
    (ix s.1 a)>>=λg=>
    (ix b a)>>=λi=>
    (ix s.1 a)>>=λm=>
    (st s.1 a (band g i))>>=λj=>
    some (.go (j,true))
  else
    some (.go (s.1,s.2))
def cC_(b:List Int):Int->Int->((List Int)×Bool)->Option (Lp ((List Int)×Bool) ((List Int)×Bool) ((List Int)×Bool)):=λ(k:Int)(a:Int)(s:(List Int)×Bool)=>
  (ix s.1 a)>>=λc=>
  (ix b a)>>=λd=>
  (ix s.1 a)>>=λf=>
  if(band c d) !=f then
    (ix s.1 a)>>=λg=>
    (ix b a)>>=λi=>
    (ix s.1 a)>>=λm=>
    (st s.1 a (band g i))>>=λj=>
    some (.go (j,true))
  else
    some (.go (s.1,s.2))
def aC_(fuel:Nat)(b:H_):Int->(List Int)->((List Int)×Bool)->Option (Lp ((List Int)×Bool) ((List Int)×Bool) ((List Int)×Bool)):=λ(c:Int)(a:List Int)(s:(List Int)×Bool)=>
  if decide (c<(b.p.Edges.length:Int)) then
    (mk (Rz.z:Int) b.p.Labels)>>=λd=>
    (ag_ fuel b b.edges a s.1 [] d)>>=λf=>
    (forI (aM_ f) a 0 (s.1,s.2))>>=λg=>
    match g with
    | .inl (i,j)=>
      some (.go (i,j))
    | .inr _=>none
  else
    (mk (Rz.z:Int) b.p.Labels)>>=λk=>
    (ag_ fuel b b.nodes a s.1 [] k)>>=λm=>
    (forI (cC_ m) a 0 (s.1,s.2))>>=λn=>
    match n with
    | .inl (q,u)=>
      some (.go (q,u))
    | .inr _=>none
def ad_(fuel:Nat)(d:H_):((List Int)×Bool)->Option (Lp ((List Int)×Bool) ((List Int)×Bool) ((List Int)×Bool)):=λ(s:(List Int)×Bool)=>
  if s.2 then
    (cat ([]:List (List Int)) d.p.Edges)>>=λf=>
    (cat f d.p.Nodes)>>=λg=>
    (forI (aC_ fuel d) g 0 (s.1,false))>>=λa=>
    match a with
    | .inl (b,c)=>
      some (.go (b,c))
    | .inr _=>none
  else
    some (.out (s.1,false))
def bO_(fuel:Nat)(f:H_)(g:List Int):Option ((List Int)×Bool):=
  (dd_ g)>>=λc=>
  (loopF (ad_ fuel f) fuel (c,true))>>=λd=>
  match d with
  | .inl (a,i)=>
    (jy_ a 0)>>=λb=>
    some (a, !b)
  | .inr _=>none
def iX_(oo:Tg)(t:Nat)(w:World)(r:Yl×Bool):Ending->World->Prop:=λe w'=>∃(a:Value)(o':Tg),e=.returned (.tuple #[a,.bool r.2])∧Ow w.heap.size 3 t o' w' a r.1∧Keeps w w'∧∀b,b<w.heap.size->o' b=oo b
theorem gp_(fuel:Nat)(w:World)(oo:Tg)(t:Nat)(ht:2<=t)(v9:List Value)(i:H_)(u1:Rp.rd oo w v9 i)(u0:Value)(u2:Yl)(g1:RdL zt w u0 u2)(r:Yl×Bool)(hF:bO_ fuel i u2=some r):
    Calls wQ_ 82 #[.agg v9.toArray,u0] w (iX_ oo t w r):=by
 unfold bO_ at hF;replace u1:=Rp.col u1;obtain⟨b3,b4,b5,b6,b2,Z,rfl,a0,Y,a1,a2,A,B⟩:=u1;have hB:Bs oo (col oo) w w:=Bs.start _ _;refine i_ (n:=88) (vs:=[.agg #[ZI i.p.Labels,ZI i.p.Degree,b3,b4,ZI i.q.Labels,ZI i.q.Degree,b5,b6,b2,Z],u0]) Tryz.func82 rfl rfl ?_;generalize col oo=o at*;refine Zq (Zo ?_);refine as_ (o:=o) w.heap.size 30 hB.keeps.size (cs:=[ZI i.p.Labels,ZI i.p.Degree,b3,b4,ZI i.q.Labels,ZI i.q.Degree,b5,b6,b2,Z]) rfl rfl ?_;intro u3 u4 g y u5;obtain⟨a0,Y,a1,a2,A,B,hB⟩:=ZS u5 (A7 a0 Y a1 a2 A B hB);refine Za rfl (Za rfl (Ze [(1,_),(2,_)] (Zn (Zm rfl ?_))));obtain⟨i6,i7,hF⟩:=a_ hF;refine Zo ?_;refine o_ (eB_ u4 u3 31 (by decide) _ u2 (g1.keep hB.keeps) i6 i7) Tryz.call66 ⟨rfl,trivial⟩ ?_;rintro e25 w19 ⟨f,u6,rfl,g9,u7,u8⟩;have u9:=u7.stp' 31 u8;replace g9:=g9.mono hB.keeps.size;refine⟨_,rfl,?_⟩;obtain⟨y,a0,Y,a1,a2,A,B,hB⟩:=ZS u9 (A8 y a0 Y a1 a2 A B hB);refine Za rfl (Ze [(2,_),(6,_)] (nx (c_ (Zq (Za rfl (Ze [(2,_),(6,_),(7,_)] (nx ?_)))))));obtain⟨i8,i9,hF⟩:=a_ hF;refine v_ (λa b1=>∃(c1:Yl),∃(c4:Bool),∃(b0:Tg),i8=.inl (c1,c4)∧Fr a 88 [(6,f)]∧Bs oo b0 w b1∧Oz w 3 31 b0 b1 f c1) (λ_ _=>False) ?_ ?_ ?_
 ·refine f_ ?_;refine w_ (λ(K:Nat) a b1=>∃(c1:Yl),∃(c4:Bool),∃(b0:Tg),loopF (ad_ fuel i) K (c1,c4)=some i8∧Fr a 88 [(2,ZP g),(6,f),(7,.bool c4)]∧Bs oo b0 w b1∧Oz w 3 31 b0 b1 f c1∧Bz w 30 b0 b1 g 90 [ZI i.p.Labels,ZI i.p.Degree,b3,b4,ZI i.q.Labels,ZI i.q.Degree,b5,b6,b2,Z]∧RdL b0 b1 b3 (i.p.Nodes:Yk)∧RdL b0 b1 b4 (i.p.Edges:Yk)∧RdL b0 b1 b5 (i.q.Nodes:Yk)∧RdL b0 b1 b6 (i.q.Edges:Yk)∧RdL b0 b1 b2 (i.nodes:List Bool)∧RdL b0 b1 Z (i.edges:List Bool)) fuel (λa ha=>⟨i6,true,u6,i9,ha.sb,hB,g9,y,a0,Y,a1,a2,A,B⟩) ?_;rintro K36 a b1 ⟨c1,c4,b0,v0,ha,hB,b7,y,a0,Y,a1,a2,A,B⟩;obtain⟨K40,q37,e41,b8,j0⟩:=X_ v0;dsimp only[ad_] at b8;refine J_ ha ?_;refine c_ (Zq (Zm rfl (Ze [(2,_),(6,_),(16,_)] (nx ?_))));refine l_ rfl (λh0=>?_) (λh0=>?_)
  ·rw[if_pos h0] at b8;refine g_ (nx (f_ (Zq (Za rfl (Ze [(2,_),(6,_),(7,_)] (nx (c_ ?_)))))));obtain⟨j1,j2,b8⟩:=a_ b8;obtain⟨s,j3,b8⟩:=a_ b8;refine ZW (Bf:=λO P=>Bs oo O w P∧Oz w 3 31 O P f c1∧Bz w 30 O P g 90 [ZI i.p.Labels,ZI i.p.Degree,b3,b4,ZI i.q.Labels,ZI i.q.Degree,b5,b6,b2,Z]∧RdL O P b3 (i.p.Nodes:Yk)∧RdL O P b4 (i.p.Edges:Yk)∧RdL O P b5 (i.q.Nodes:Yk)∧RdL O P b6 (i.q.Edges:Yk)∧RdL O P b2 (i.nodes:List Bool)∧RdL O P Z (i.edges:List Bool)) [(2,_),(6,_),(7,_)] (Zrg 17 11) [[],[],[1],[2],[0,3],[],[5],[6],[4,7],[8],[]] [some 4,none,none,none,some 8,none,none,none,none,none,none] [999,999,999,999,32,999,999,999,32,999,999] [32,0,0,0,32,0,0,0,32,0,0] [32,999] [.inr (λv o b9=>Oz w 41 32 o b9 v (([]:Yk):Yk)),.inl (.pointer (some ⟨g,0+0,none⟩)),.inl (.pointer (some ⟨g,0+0+3,none⟩)),.inl b4,.inr (λv o b9=>Oz w 41 32 o b9 v j1),.inl (.pointer (some ⟨g,0+0,none⟩)),.inl (.pointer (some ⟨g,0+0+2,none⟩)),.inl b3,.inr (λv o b9=>Oz w 41 32 o b9 v s),.inl (ZI (s.length:Int)),.inl (ZI 0)] ⟨hB,b7,y,a0,Y,a1,a2,A,B⟩ ⟨λ_ _ _ _ _ _ c0 hb h hs=>h.stp hs c0.1 (Ne.symm hb),λ_ _ _ _ _ _ c0 hb h hs=>h.stp hs c0.1 (Ne.symm hb),λ_ _ _ _ _ _ c0 hb h hs=>h.stp hs c0.1 (Ne.symm hb),trivial⟩ ?_ ?_
   ·refine⟨?_,Dp (m_ rfl xm_ rfl wU_),Dp (m_ rfl wW_ rfl wZ_),Dq λh=>e_ rfl xb_ (h.2.2.1.cell rfl),?_,Dp (m_ rfl xm_ rfl wU_),Dp (m_ rfl wW_ rfl wZ_),Dq λh=>e_ rfl xb_ (h.2.2.1.cell rfl),?_,?_,Dp (h_ rfl),trivial⟩
    ·rintro v1 w61 a62 ha ⟨hB,b7,y,a0,Y,a1,a2,A,B⟩-;refine Zs ha ?_;refine qB_ w.heap.size 32 hB.keeps.size (o:=v1) (cs:=[]) (xs:=([]:Yk)) (vs:=[]) rfl rfl trivial wV_ wY_ Tryz.zeroValue41 (by decide) fill0 (by simp) ?_;intro o63 w64 v65 v2 v3;exact⟨_,v3,v2⟩
    ·rintro v4 v5 j4 ha ⟨hB,b7,y,a0,Y,a1,a2,A,B⟩ ⟨f0,-⟩;replace f0:Oz w 41 32 v4 v5 (j4.tmps.getD 17 undef) (([]:Yk):Yk):=f0;generalize v6:j4.tmps.getD 17 undef=v84 at f0;have ha:=ha.c v6;refine Zs ha ?_;refine aT_ f0 Y j2 (by decide) hB.keeps.size rfl rfl wV_ hZ_ rfl (by decide) ?_;intro o86 w87 v88 v7 v8;exact⟨_,v8,v7⟩
    ·rintro j5 j6 f1 ha ⟨hB,b7,y,a0,Y,a1,a2,A,B⟩ ⟨c5,-⟩;replace c5:Oz w 41 32 j5 j6 (f1.tmps.getD 21 undef) j1:=c5;generalize j7:f1.tmps.getD 21 undef=w0 at c5;have ha:=ha.c j7;refine Zs ha ?_;refine aT_ c5 a0 j3 (by decide) hB.keeps.size rfl rfl wV_ hZ_ rfl (by decide) ?_;intro w1 w2 w3 j8 j9;exact⟨_,j9,j8⟩
    ·rintro k0 k1 f2 ha- ⟨c6,-⟩;replace c6:Oz w 41 32 k0 k1 (f2.tmps.getD 25 undef) s:=c6;generalize k2:f2.tmps.getD 25 undef=w4 at c6;have ha:=ha.c k2;refine Zs ha ?_;refine M_ (bC_ rfl c6 wV_) ?_;exact Zx rfl
   rintro _ rfl f3 k3 f4 ha ⟨hB,b7,y,a0,Y,a1,a2,A,B⟩ ⟨j,-⟩;replace j:Oz w 41 32 f3 k3 (f4.tmps.getD 25 undef) s:=j;generalize k4:f4.tmps.getD 25 undef=d at j;have ha:=ha.c k4;refine aH_ ha ?_;refine Ze [(2,_),(6,_),(7,_),(25,_),(26,_),(27,_)] (nx ?_);obtain⟨f5,h1,b8⟩:=a_ b8;refine v_ (λa I=>∃(a7:Yl),∃(C:Bool),∃(F:Tg),f5=.inl (a7,C)∧Fr a 88 [(2,ZP g),(6,f),(7,.bool C)]∧Bs oo F w I∧Oz w 3 31 F I f a7∧Bz w 30 F I g 90 [ZI i.p.Labels,ZI i.p.Degree,b3,b4,ZI i.q.Labels,ZI i.q.Degree,b5,b6,b2,Z]∧RdL F I b3 (i.p.Nodes:Yk)∧RdL F I b4 (i.p.Edges:Yk)∧RdL F I b5 (i.q.Nodes:Yk)∧RdL F I b6 (i.q.Edges:Yk)∧RdL F I b2 (i.nodes:List Bool)∧RdL F I Z (i.edges:List Bool)) (λ_ _=>False) ?_ ?_ ?_
   ·refine f_ ?_;refine w_ (λ(K:Nat) a I=>∃(b:Int),∃(a7:Yl),∃(C:Bool),∃(F:Tg),forI (aC_ fuel i) (s.drop b.toNat) b (a7,C)=some f5∧(s.drop b.toNat).length=K∧0<=b∧Fr a 88 [(2,ZP g),(6,f),(7,.bool C),(25,d),(26,ZI (s.length:Int)),(27,ZI b)]∧Bs oo F w I∧Oz w 3 31 F I f a7∧Oz w 41 32 F I d s∧Bz w 30 F I g 90 [ZI i.p.Labels,ZI i.p.Degree,b3,b4,ZI i.q.Labels,ZI i.q.Degree,b5,b6,b2,Z]∧RdL F I b3 (i.p.Nodes:Yk)∧RdL F I b4 (i.p.Edges:Yk)∧RdL F I b5 (i.q.Nodes:Yk)∧RdL F I b6 (i.q.Edges:Yk)∧RdL F I b2 (i.nodes:List Bool)∧RdL F I Z (i.edges:List Bool)) _ (λa ha=>⟨0,c1,false,f3,h1,rfl,Int.le_refl 0,ha.sb,hB,b7,j,y,a0,Y,a1,a2,A,B⟩) ?_;rintro K141 a I ⟨b,a7,C,F,f6,f7,k5,ha,hB,Q,j,y,a0,Y,a1,a2,A,B⟩;by_cases c7:b<(s.length:Int)
    ·obtain⟨m,w5,h2,R,f8⟩:=R_ k5 c7 f6;have hle:=j.len_le;dsimp only[aC_] at R;refine J_ ha ?_;refine Zq (Zv (r_ rfl rfl) (Ze [(2,_),(6,_),(7,_),(25,_),(26,_),(27,_),(28,_)] (nx (c_ ?_))));refine L_ (Zb (decide_eq_true c7)) ?_;refine g_ (nx (c_ (f_ (Zq (Zm rfl (Zo ?_))))));refine gE_ j h2 rfl rfl wV_ wY_ ?_;intro w6 w7 w8 k6 k7;obtain⟨u,rfl,x⟩:=k7;refine Zv (e_ rfl Tryz.isAgg41 (k_ k6)) (Za rfl (Za rfl (Ze [(2,_),(6,_),(7,_),(8,_),(9,_),(25,_),(26,_),(27,_)] (Zn (Zv (m_ rfl xm_ rfl xG_) (Zv (e_ rfl xH_ (y.cell rfl)) (Za rfl (Ze [(2,_),(6,_),(7,_),(8,_),(9,_),(10,_),(25,_),(26,_),(27,_)] (nx (c_ (Zq (Zm rfl ?_))))))))))));refine Zv (m_ rfl xm_ rfl wU_) (Zv (m_ rfl wW_ rfl wZ_) (Zv (e_ rfl xb_ (y.cell rfl)) (Zv (B_ rfl Y wV_) (Zv (r_ rfl rfl) (Ze [(2,_),(6,_),(7,_),(9,_),(10,_),(25,_),(26,_),(27,_),(39,_)] (nx ?_))))));refine l_ rfl (λd0=>?_) (λd0=>?_)
     ·rw[if_pos d0] at R;refine d_ (Zv (m_ rfl xm_ rfl xG_) (Zv (e_ rfl xH_ (y.cell rfl)) (Za rfl (Ze [(2,_),(6,_),(7,_),(9,_),(10,_),(25,_),(26,_),(27,_)] (Zn (Zv (m_ rfl xm_ rfl wU_) (Zv (m_ rfl wW_ rfl wS_) (Zv (e_ rfl wT_ (y.cell rfl)) ?_))))))));obtain⟨k8,h3,R⟩:=a_ R;refine Zo ?_;refine hn_ (o:=F) w.heap.size 33 hB.keeps.size h3 rfl rfl wR_ ix_ rfl (by decide) ?_;intro k9 l0 M d1 l1;obtain⟨Q,x,B,j,y,a0,Y,a1,a2,A,hB⟩:=ZS l1 (A8 Q x B j y a0 Y (A4 a1 a2 A hB));refine Za rfl (Ze [(2,_),(6,_),(7,_),(9,_),(10,_),(11,_),(25,_),(26,_),(27,_)] (Zn (Zv (E_ rfl xt_ xu_ rfl y.cells) (Zm rfl (Zm rfl (Zm rfl (Zm rfl ?_)))))));replace Q:=Q.rtg_ne (k:=33) (k':=13) (by decide) (by decide) (by decide);replace x:=x.rtg 33 13 (by decide);replace B:=B.rtg 33 13 (by decide);replace d1:=d1.rtg 13 (by decide);replace j:=j.rtg_ne (k:=33) (k':=13) (by decide) (by decide) (by decide);replace a0:=a0.rtg 33 13 (by decide);replace Y:=Y.rtg 33 13 (by decide);replace a1:=a1.rtg 33 13 (by decide);replace a2:=a2.rtg 33 13 (by decide);replace A:=A.rtg 33 13 (by decide);replace y:=y.rtg_ne (k:=33) (k':=13) (by decide) (by decide);replace hB:=hB.rtg 33 13 (by decide) (by decide);generalize (rtg 33 13 k9)=l2 at*;obtain⟨c2,h4,R⟩:=a_ R;refine Zo ?_;refine o_ (ml_ fuel w l0 oo l2 hB _ i ⟨_,_,_,_,_,_,rfl,a0,Y,a1,a2,A,B⟩ _ i.edges B _ m x 31 (by decide) (by decide) _ a7 Q _ ([]:Yl) (RdL.nil _ _) _ k8 d1 c2 h4) yg_ ⟨rfl,rfl,rfl,rfl,rfl,rfl,trivial⟩ ?_;rintro w9 x0 ⟨l3,rfl,a3,-,l4⟩;refine⟨_,rfl,?_⟩;obtain⟨Q,x,B,j,a0,Y,a1,a2,A,y,hB⟩:=ZS l4 (A8 Q x B j a0 Y a1 (A4 a2 A y hB));refine Ze [(2,_),(6,_),(7,_),(9,_),(11,_),(25,_),(26,_),(27,_)] (Zn (Zm rfl (Zv (B_ rfl x wR_) (Zm rfl (Ze [(2,_),(6,_),(7,_),(11,_),(25,_),(26,_),(27,_),(52,_),(53,_),(54,_)] (nx ?_))))));obtain⟨f9,h5,R⟩:=a_ R;refine v_ (λa G=>∃(a5:Yl),∃(S:Bool),∃(D:Tg),f9=.inl (a5,S)∧Fr a 88 [(2,ZP g),(6,f),(7,.bool S),(25,d),(26,ZI (s.length:Int)),(27,ZI b)]∧Bs oo D w G∧Oz w 3 31 D G f a5∧Oz w 41 32 D G d s∧Bz w 30 D G g 90 [ZI i.p.Labels,ZI i.p.Degree,b3,b4,ZI i.q.Labels,ZI i.q.Degree,b5,b6,b2,Z]∧RdL D G b3 (i.p.Nodes:Yk)∧RdL D G b4 (i.p.Edges:Yk)∧RdL D G b5 (i.q.Nodes:Yk)∧RdL D G b6 (i.q.Edges:Yk)∧RdL D G b2 (i.nodes:List Bool)∧RdL D G Z (i.edges:List Bool)) (λ_ _=>False) ?_ ?_ ?_
      ·refine f_ ?_;refine w_ (λ(K:Nat) a G=>∃(J:Int),∃(a5:Yl),∃(S:Bool),∃(D:Tg),forI (aM_ c2) (m.drop J.toNat) J (a5,S)=some f9∧(m.drop J.toNat).length=K∧0<=J∧Fr a 88 [(2,ZP g),(6,f),(7,.bool S),(11,M),(25,d),(26,ZI (s.length:Int)),(27,ZI b),(52,u),(53,ZI (m.length:Int)),(54,ZI J)]∧Bs oo D w G∧Oz w 3 31 D G f a5∧Oz w 3 13 D G M c2∧Oz w 41 32 D G d s∧RdL D G u m∧Bz w 30 D G g 90 [ZI i.p.Labels,ZI i.p.Degree,b3,b4,ZI i.q.Labels,ZI i.q.Degree,b5,b6,b2,Z]∧RdL D G b3 (i.p.Nodes:Yk)∧RdL D G b4 (i.p.Edges:Yk)∧RdL D G b5 (i.q.Nodes:Yk)∧RdL D G b6 (i.q.Edges:Yk)∧RdL D G b2 (i.nodes:List Bool)∧RdL D G Z (i.edges:List Bool)) _ (λa ha=>⟨0,a7,C,l3,h5,rfl,Int.le_refl 0,ha.sb,hB,Q,a3,j,x,y,a0,Y,a1,a2,A,B⟩) ?_;rintro K178 a G ⟨J,a5,S,D,g0,m177,l5,ha,hB,T,a3,j,x,y,a0,Y,a1,a2,A,B⟩;by_cases c8:J<(m.length:Int)
       ·obtain⟨a8,x1,h6,U,g2⟩:=R_ l5 c8 g0;have hle:=x.len_le;dsimp only[aM_] at U;refine J_ ha ?_;refine Zq (Zv (r_ rfl rfl) (Ze [(2,_),(6,_),(7,_),(11,_),(25,_),(26,_),(27,_),(52,_),(53,_),(54,_),(55,_)] (nx (c_ ?_))));refine L_ (Zb (decide_eq_true c8)) ?_;refine g_ (nx (c_ (f_ (Zq (Zo ?_)))));refine fo_ x h6 rfl rfl wR_ wS_ ?_;intro x2 x3 x4 l6 l7;cases l7
        refine Zv (e_ rfl wT_ (k_ l6)) (Za rfl (Ze [(2,_),(6,_),(7,_),(11,_),(13,_),(25,_),(26,_),(27,_),(52,_),(53,_),(54,_)] (nx (c_ ?_))));obtain⟨d2,d3,U⟩:=a_ U;obtain⟨d4,d5,U⟩:=a_ U;obtain⟨g3,d6,U⟩:=a_ U;refine ZW (Bf:=λO P=>Bs oo O w P∧Oz w 3 31 O P f a5∧Oz w 3 13 O P M c2∧Oz w 41 32 O P d s∧RdL O P u m∧Bz w 30 O P g 90 [ZI i.p.Labels,ZI i.p.Degree,b3,b4,ZI i.q.Labels,ZI i.q.Degree,b5,b6,b2,Z]∧RdL O P b3 (i.p.Nodes:Yk)∧RdL O P b4 (i.p.Edges:Yk)∧RdL O P b5 (i.q.Nodes:Yk)∧RdL O P b6 (i.q.Edges:Yk)∧RdL O P b2 (i.nodes:List Bool)∧RdL O P Z (i.edges:List Bool)) [(2,_),(6,_),(7,_),(11,_),(13,_),(25,_),(26,_),(27,_),(52,_),(53,_),(54,_)] (Zrg 58 13) [[],[],[0,1],[2],[],[],[4,5],[6],[3,7],[],[],[9,10],[11]] (Zcn 13) (Zt9 13) [0,0,31,0,0,0,13,0,0,0,0,31,0] [999] [.inl f,.inl (ZI a8),.inr (λv o b9=>∃vl,v=adr vl (a8.toNat*Rp.sz Int)∧Oz w 3 31 o b9 vl a5),.inl (ZI d2),.inl M,.inl (ZI a8),.inr (λv o b9=>∃vl,v=adr vl (a8.toNat*Rp.sz Int)∧Oz w 3 13 o b9 vl c2),.inl (ZI d4),.inl (ZI (band d2 d4)),.inl f,.inl (ZI a8),.inr (λv o b9=>∃vl,v=adr vl (a8.toNat*Rp.sz Int)∧Oz w 3 31 o b9 vl a5),.inl (ZI g3)] ⟨hB,T,a3,j,x,y,a0,Y,a1,a2,A,B⟩ ⟨λ_ _ _ _ _ _ c0 hb ⟨vl,e,h⟩ hs=>⟨vl,e,h.stp hs c0.1 (Ne.symm hb)⟩,λ_ _ _ _ _ _ c0 hb ⟨vl,e,h⟩ hs=>⟨vl,e,h.stp hs c0.1 (Ne.symm hb)⟩,λ_ _ _ _ _ _ c0 hb ⟨vl,e,h⟩ hs=>⟨vl,e,h.stp hs c0.1 (Ne.symm hb)⟩,trivial⟩ ?_ ?_
        ·refine⟨Dp (h_ rfl),Dp (h_ rfl),?_,?_,Dp (h_ rfl),Dp (h_ rfl),?_,?_,Dp (jY_ rfl rfl),Dp (h_ rfl),Dp (h_ rfl),?_,?_,trivial⟩
         ·rintro x5 x6 x7 ha ⟨-,T,-⟩-;refine Zs ha ?_;refine bT_ T d3 rfl rfl wR_ wS_ ?_;exact⟨_,Stp.refl _ _ _,⟨_,rfl,T⟩⟩
         ·rintro x8 x9 y0 ha- ⟨l8,-⟩;obtain⟨y1,l9,m0⟩:=l8;have ha:=ha.c l9;refine Zs ha ?_;refine bA_ m0 d3 rfl rfl wT_ ?_;intro y2 m1;cases m1
          exact Zx rfl
         ·rintro y3 y4 y5 ha ⟨-,-,a3,-⟩-;refine Zs ha ?_;refine bT_ a3 d5 rfl rfl wR_ wS_ ?_;exact⟨_,Stp.refl _ _ _,⟨_,rfl,a3⟩⟩
         ·rintro y6 y7 y8 ha- ⟨m2,-⟩;obtain⟨y9,m3,m4⟩:=m2;have ha:=ha.c m3;refine Zs ha ?_;refine bA_ m4 d5 rfl rfl wT_ ?_;intro z0 m5;cases m5
          exact Zx rfl
         ·rintro z1 z2 z3 ha ⟨-,T,-⟩-;refine Zs ha ?_;refine bT_ T d6 rfl rfl wR_ wS_ ?_;exact⟨_,Stp.refl _ _ _,⟨_,rfl,T⟩⟩
         ·rintro z4 z5 z6 ha- ⟨m6,-⟩;obtain⟨z7,m7,m8⟩:=m6;have ha:=ha.c m7;refine Zs ha ?_;refine bA_ m8 d6 rfl rfl wT_ ?_;intro z8 m9;cases m9
          exact Zx rfl
        rintro _ rfl n0 z9 a265 ha ⟨hB,T,a3,j,x,y,a0,Y,a1,a2,A,B⟩-;refine aH_ ha ?_;refine Zv (bR_ rfl rfl) (Ze [(2,_),(6,_),(7,_),(11,_),(13,_),(25,_),(26,_),(27,_),(52,_),(53,_),(54,_),(71,_)] (nx ?_));refine l_ rfl (λd7=>?_) (λd7=>?_)
        ·rw[if_pos d7] at U;refine c_ ?_;obtain⟨n1,d8,U⟩:=a_ U;obtain⟨n2,d9,U⟩:=a_ U;refine ZW (Bf:=λO P=>Bs oo O w P∧Oz w 3 31 O P f a5∧Oz w 3 13 O P M c2∧Oz w 41 32 O P d s∧RdL O P u m∧Bz w 30 O P g 90 [ZI i.p.Labels,ZI i.p.Degree,b3,b4,ZI i.q.Labels,ZI i.q.Degree,b5,b6,b2,Z]∧RdL O P b3 (i.p.Nodes:Yk)∧RdL O P b4 (i.p.Edges:Yk)∧RdL O P b5 (i.q.Nodes:Yk)∧RdL O P b6 (i.q.Edges:Yk)∧RdL O P b2 (i.nodes:List Bool)∧RdL O P Z (i.edges:List Bool)) [(2,_),(6,_),(11,_),(13,_),(25,_),(26,_),(27,_),(52,_),(53,_),(54,_)] (Zrg 72 8) [[],[],[0,1],[2],[],[],[4,5],[6]] (Zcn 8) (Zt9 8) [0,0,31,0,0,0,13,0] [999] [.inl f,.inl (ZI a8),.inr (λv o b9=>∃vl,v=adr vl (a8.toNat*Rp.sz Int)∧Oz w 3 31 o b9 vl a5),.inl (ZI n1),.inl M,.inl (ZI a8),.inr (λv o b9=>∃vl,v=adr vl (a8.toNat*Rp.sz Int)∧Oz w 3 13 o b9 vl c2),.inl (ZI n2)] ⟨hB,T,a3,j,x,y,a0,Y,a1,a2,A,B⟩ ⟨λ_ _ _ _ _ _ c0 hb ⟨vl,e,h⟩ hs=>⟨vl,e,h.stp hs c0.1 (Ne.symm hb)⟩,λ_ _ _ _ _ _ c0 hb ⟨vl,e,h⟩ hs=>⟨vl,e,h.stp hs c0.1 (Ne.symm hb)⟩,trivial⟩ ?_ ?_
         ·refine⟨Dp (h_ rfl),Dp (h_ rfl),?_,?_,Dp (h_ rfl),Dp (h_ rfl),?_,?_,trivial⟩
          ·rintro o281 w282 a283 ha ⟨-,T,-⟩-;refine Zs ha ?_;refine bT_ T d8 rfl rfl wR_ wS_ ?_;exact⟨_,Stp.refl _ _ _,⟨_,rfl,T⟩⟩
          ·rintro o286 w287 a288 ha- ⟨n3,-⟩;obtain⟨v290,n4,n5⟩:=n3;have ha:=ha.c n4;refine Zs ha ?_;refine bA_ n5 d8 rfl rfl wT_ ?_;intro c293 n6;cases n6
           exact Zx rfl
          ·rintro o301 w302 a303 ha ⟨-,-,a3,-⟩-;refine Zs ha ?_;refine bT_ a3 d9 rfl rfl wR_ wS_ ?_;exact⟨_,Stp.refl _ _ _,⟨_,rfl,a3⟩⟩
          ·rintro o306 w307 a308 ha- ⟨n7,-⟩;obtain⟨v310,n8,n9⟩:=n7;have ha:=ha.c n8;refine Zs ha ?_;refine bA_ n9 d9 rfl rfl wT_ ?_;intro c313 o0;cases o0
           exact Zx rfl
         rintro _ rfl o1 w316 a317 ha ⟨hB,T,a3,j,x,y,a0,Y,a1,a2,A,B⟩-;refine aH_ ha ?_;refine Zv (jY_ rfl rfl) ?_;obtain⟨x322,h7,U⟩:=a_ U;refine Zo ?_;refine fC_ T h7 rfl rfl wR_ wS_ ?_;intro b323 c325 o2 h326 o3;cases o3
         obtain⟨o4,h8,U⟩:=a_ U;refine Z_ trivial ?_;refine cf_ T o2 h8 rfl (by decide) rfl rfl rfl wS_ rfl ?_;intro w329 o5 o6;obtain⟨a3,j,x,y,a0,Y,a1,a2,A,B,hB⟩:=ZS o6 (A8 a3 j x y a0 Y a1 (A4 a2 A B hB));refine Ze [(2,ZP g),(6,f),(11,M),(25,d),(26,ZI (s.length:Int)),(27,ZI b),(52,u),(53,ZI (m.length:Int)),(54,ZI J)] (nx (d_ (Za rfl (Ze [(2,ZP g),(6,f),(7,.bool true),(11,M),(25,d),(26,ZI (s.length:Int)),(27,ZI b),(52,u),(53,ZI (m.length:Int)),(54,ZI J)] (x_ (nx (d_ (Zv (C_ rfl rfl (F_ (by omega) (by omega))) (Zm rfl (Ze [(2,_),(6,_),(7,_),(11,_),(25,_),(26,_),(27,_),(52,_),(53,_),(54,_)] (u_ ?_)))))))))));have o7:=Zj U;subst o7;refine Zk [(2,_),(6,_),(7,_),(11,_),(25,_),(26,_),(27,_),(52,_),(53,_),(54,_)] ?_;intro a ha;exact⟨_,(by rw[<-m177];simp only[List.length_drop];omega),J+1,o4,true,o1,g2,rfl,by omega,ha,hB,o5,a3,j,x,y,a0,Y,a1,a2,A,B⟩
        ·replace U:=ZF d7 U;refine g_ (x_ (nx (d_ (Zv (C_ rfl rfl (F_ (by omega) (by omega))) (Zm rfl (Ze [(2,_),(6,_),(7,_),(11,_),(25,_),(26,_),(27,_),(52,_),(53,_),(54,_)] (u_ ?_)))))));have o8:=Zj U;subst o8;refine Zk [(2,_),(6,_),(7,_),(11,_),(25,_),(26,_),(27,_),(52,_),(53,_),(54,_)] ?_;intro a ha;exact⟨_,(by rw[<-m177];simp only[List.length_drop];omega),J+1,a5,S,n0,g2,rfl,by omega,ha,hB,T,a3,j,x,y,a0,Y,a1,a2,A,B⟩
       ·have o9:=S_ c8 g0;refine J_ ha ?_;refine Zq (Zv (r_ rfl rfl) (Ze [(2,_),(6,_),(7,_),(11,_),(25,_),(26,_),(27,_),(52,_),(53,_),(54,_),(55,_)] (nx (c_ ?_))));refine G_ (Zb (decide_eq_false c8)) ?_;refine s_ ?_;refine n_ (n_ (N_ ?_));refine p_ ?_;refine Zk [(2,_),(6,_),(7,_),(25,_),(26,_),(27,_)] ?_;intro a ha;exact⟨a5,S,D,o9,ha,hB,T,j,y,a0,Y,a1,a2,A,B⟩
      ·rintro a G ⟨a5,S,D,rfl,ha,hB,T,j,y,a0,Y,a1,a2,A,B⟩;dsimp only at R;refine ap_k ha ?_;refine x_ (nx (d_ (Zv (C_ rfl rfl (F_ (by omega) (by omega))) (Zm rfl (Ze [(2,_),(6,_),(7,_),(25,_),(26,_),(27,_)] (u_ ?_))))));have p0:=Zj R;subst p0;refine Zk [(2,_),(6,_),(7,_),(25,_),(26,_),(27,_)] ?_;intro a ha;exact⟨_,(by rw[<-f7];simp only[List.length_drop];omega),b+1,a5,S,D,f8,rfl,by omega,ha,hB,T,j,y,a0,Y,a1,a2,A,B⟩
      ·exact λ_ _ h=>h.elim
     ·replace R:=ZF d0 R;refine g_ (Zn (Zv (m_ rfl xm_ rfl wU_) (Zv (m_ rfl wW_ rfl wS_) (Zv (e_ rfl wT_ (y.cell rfl)) ?_))));obtain⟨p1,h9,R⟩:=a_ R;refine Zo ?_;refine hn_ (o:=F) w.heap.size 34 hB.keeps.size h9 rfl rfl wR_ ix_ rfl (by decide) ?_;intro p2 p3 N e0 p4;obtain⟨Q,x,A,j,y,a0,Y,a1,a2,B,hB⟩:=ZS p4 (A8 Q x A j y a0 Y (A4 a1 a2 B hB));refine Za rfl (Ze [(2,_),(6,_),(7,_),(9,_),(10,_),(11,_),(25,_),(26,_),(27,_)] (Zn (Zv (E_ rfl xt_ xu_ rfl y.cells) (Zm rfl (Zm rfl (Zm rfl (Zm rfl ?_)))))));replace Q:=Q.rtg_ne (k:=34) (k':=13) (by decide) (by decide) (by decide);replace x:=x.rtg 34 13 (by decide);replace A:=A.rtg 34 13 (by decide);replace e0:=e0.rtg 13 (by decide);replace j:=j.rtg_ne (k:=34) (k':=13) (by decide) (by decide) (by decide);replace a0:=a0.rtg 34 13 (by decide);replace Y:=Y.rtg 34 13 (by decide);replace a1:=a1.rtg 34 13 (by decide);replace a2:=a2.rtg 34 13 (by decide);replace B:=B.rtg 34 13 (by decide);replace y:=y.rtg_ne (k:=34) (k':=13) (by decide) (by decide);replace hB:=hB.rtg 34 13 (by decide) (by decide);generalize (rtg 34 13 p2)=p5 at*;obtain⟨c3,i0,R⟩:=a_ R;refine Zo ?_;refine o_ (ml_ fuel w p3 oo p5 hB _ i ⟨_,_,_,_,_,_,rfl,a0,Y,a1,a2,A,B⟩ _ i.nodes A _ m x 31 (by decide) (by decide) _ a7 Q _ ([]:Yl) (RdL.nil _ _) _ p1 e0 c3 i0) yg_ ⟨rfl,rfl,rfl,rfl,rfl,rfl,trivial⟩ ?_;rintro e347 w345 ⟨p6,rfl,a4,-,p7⟩;refine⟨_,rfl,?_⟩;obtain⟨Q,x,A,j,a0,Y,a1,a2,B,y,hB⟩:=ZS p7 (A8 Q x A j a0 Y a1 (A4 a2 B y hB));refine Ze [(2,_),(6,_),(7,_),(9,_),(11,_),(25,_),(26,_),(27,_)] (Zn (Zm rfl (Zv (B_ rfl x wR_) (Zm rfl (Ze [(2,_),(6,_),(7,_),(11,_),(25,_),(26,_),(27,_),(52,_),(53,_),(54,_)] (nx ?_))))));obtain⟨g4,i1,R⟩:=a_ R;refine v_ (λa H=>∃(a6:Yl),∃(V:Bool),∃(E:Tg),g4=.inl (a6,V)∧Fr a 88 [(2,ZP g),(6,f),(7,.bool V),(25,d),(26,ZI (s.length:Int)),(27,ZI b)]∧Bs oo E w H∧Oz w 3 31 E H f a6∧Oz w 41 32 E H d s∧Bz w 30 E H g 90 [ZI i.p.Labels,ZI i.p.Degree,b3,b4,ZI i.q.Labels,ZI i.q.Degree,b5,b6,b2,Z]∧RdL E H b3 (i.p.Nodes:Yk)∧RdL E H b4 (i.p.Edges:Yk)∧RdL E H b5 (i.q.Nodes:Yk)∧RdL E H b6 (i.q.Edges:Yk)∧RdL E H b2 (i.nodes:List Bool)∧RdL E H Z (i.edges:List Bool)) (λ_ _=>False) ?_ ?_ ?_
      ·refine f_ ?_;refine w_ (λ(K:Nat) a H=>∃(L:Int),∃(a6:Yl),∃(V:Bool),∃(E:Tg),forI (cC_ c3) (m.drop L.toNat) L (a6,V)=some g4∧(m.drop L.toNat).length=K∧0<=L∧Fr a 88 [(2,ZP g),(6,f),(7,.bool V),(11,N),(25,d),(26,ZI (s.length:Int)),(27,ZI b),(52,u),(53,ZI (m.length:Int)),(54,ZI L)]∧Bs oo E w H∧Oz w 3 31 E H f a6∧Oz w 3 13 E H N c3∧Oz w 41 32 E H d s∧RdL E H u m∧Bz w 30 E H g 90 [ZI i.p.Labels,ZI i.p.Degree,b3,b4,ZI i.q.Labels,ZI i.q.Degree,b5,b6,b2,Z]∧RdL E H b3 (i.p.Nodes:Yk)∧RdL E H b4 (i.p.Edges:Yk)∧RdL E H b5 (i.q.Nodes:Yk)∧RdL E H b6 (i.q.Edges:Yk)∧RdL E H b2 (i.nodes:List Bool)∧RdL E H Z (i.edges:List Bool)) _ (λa ha=>⟨0,a7,C,p6,i1,rfl,Int.le_refl 0,ha.sb,hB,Q,a4,j,x,y,a0,Y,a1,a2,A,B⟩) ?_;rintro K360 a H ⟨L,a6,V,E,g5,g6,p8,ha,hB,W,a4,j,x,y,a0,Y,a1,a2,A,B⟩;by_cases c9:L<(m.length:Int)
       ·obtain⟨a9,q361,i2,X,g7⟩:=R_ p8 c9 g5;have hle:=x.len_le;dsimp only[cC_] at X;refine J_ ha ?_;refine Zq (Zv (r_ rfl rfl) (Ze [(2,_),(6,_),(7,_),(11,_),(25,_),(26,_),(27,_),(52,_),(53,_),(54,_),(55,_)] (nx (c_ ?_))));refine L_ (Zb (decide_eq_true c9)) ?_;refine g_ (nx (c_ (f_ (Zq (Zo ?_)))));refine fo_ x i2 rfl rfl wR_ wS_ ?_;intro b366 f367 c368 p9 q0;cases q0
        refine Zv (e_ rfl wT_ (k_ p9)) (Za rfl (Ze [(2,_),(6,_),(7,_),(11,_),(13,_),(25,_),(26,_),(27,_),(52,_),(53,_),(54,_)] (nx (c_ ?_))));obtain⟨e1,e2,X⟩:=a_ X;obtain⟨e3,e4,X⟩:=a_ X;obtain⟨g8,e5,X⟩:=a_ X;refine ZW (Bf:=λO P=>Bs oo O w P∧Oz w 3 31 O P f a6∧Oz w 3 13 O P N c3∧Oz w 41 32 O P d s∧RdL O P u m∧Bz w 30 O P g 90 [ZI i.p.Labels,ZI i.p.Degree,b3,b4,ZI i.q.Labels,ZI i.q.Degree,b5,b6,b2,Z]∧RdL O P b3 (i.p.Nodes:Yk)∧RdL O P b4 (i.p.Edges:Yk)∧RdL O P b5 (i.q.Nodes:Yk)∧RdL O P b6 (i.q.Edges:Yk)∧RdL O P b2 (i.nodes:List Bool)∧RdL O P Z (i.edges:List Bool)) [(2,_),(6,_),(7,_),(11,_),(13,_),(25,_),(26,_),(27,_),(52,_),(53,_),(54,_)] (Zrg 58 13) [[],[],[0,1],[2],[],[],[4,5],[6],[3,7],[],[],[9,10],[11]] (Zcn 13) (Zt9 13) [0,0,31,0,0,0,13,0,0,0,0,31,0] [999] [.inl f,.inl (ZI a9),.inr (λv o b9=>∃vl,v=adr vl (a9.toNat*Rp.sz Int)∧Oz w 3 31 o b9 vl a6),.inl (ZI e1),.inl N,.inl (ZI a9),.inr (λv o b9=>∃vl,v=adr vl (a9.toNat*Rp.sz Int)∧Oz w 3 13 o b9 vl c3),.inl (ZI e3),.inl (ZI (band e1 e3)),.inl f,.inl (ZI a9),.inr (λv o b9=>∃vl,v=adr vl (a9.toNat*Rp.sz Int)∧Oz w 3 31 o b9 vl a6),.inl (ZI g8)] ⟨hB,W,a4,j,x,y,a0,Y,a1,a2,A,B⟩ ⟨λ_ _ _ _ _ _ c0 hb ⟨vl,e,h⟩ hs=>⟨vl,e,h.stp hs c0.1 (Ne.symm hb)⟩,λ_ _ _ _ _ _ c0 hb ⟨vl,e,h⟩ hs=>⟨vl,e,h.stp hs c0.1 (Ne.symm hb)⟩,λ_ _ _ _ _ _ c0 hb ⟨vl,e,h⟩ hs=>⟨vl,e,h.stp hs c0.1 (Ne.symm hb)⟩,trivial⟩ ?_ ?_
        ·refine⟨Dp (h_ rfl),Dp (h_ rfl),?_,?_,Dp (h_ rfl),Dp (h_ rfl),?_,?_,Dp (jY_ rfl rfl),Dp (h_ rfl),Dp (h_ rfl),?_,?_,trivial⟩
         ·rintro o386 w387 a388 ha ⟨-,W,-⟩-;refine Zs ha ?_;refine bT_ W e2 rfl rfl wR_ wS_ ?_;exact⟨_,Stp.refl _ _ _,⟨_,rfl,W⟩⟩
         ·rintro o391 w392 a393 ha- ⟨q1,-⟩;obtain⟨v395,q2,q3⟩:=q1;have ha:=ha.c q2;refine Zs ha ?_;refine bA_ q3 e2 rfl rfl wT_ ?_;intro c398 q4;cases q4
          exact Zx rfl
         ·rintro o406 w407 a408 ha ⟨-,-,a4,-⟩-;refine Zs ha ?_;refine bT_ a4 e4 rfl rfl wR_ wS_ ?_;exact⟨_,Stp.refl _ _ _,⟨_,rfl,a4⟩⟩
         ·rintro o411 w412 a413 ha- ⟨q5,-⟩;obtain⟨v415,q6,q7⟩:=q5;have ha:=ha.c q6;refine Zs ha ?_;refine bA_ q7 e4 rfl rfl wT_ ?_;intro c418 q8;cases q8
          exact Zx rfl
         ·rintro o431 w432 a433 ha ⟨-,W,-⟩-;refine Zs ha ?_;refine bT_ W e5 rfl rfl wR_ wS_ ?_;exact⟨_,Stp.refl _ _ _,⟨_,rfl,W⟩⟩
         ·rintro o436 w437 a438 ha- ⟨q9,-⟩;obtain⟨v440,r0,r1⟩:=q9;have ha:=ha.c r0;refine Zs ha ?_;refine bA_ r1 e5 rfl rfl wT_ ?_;intro c443 r2;cases r2
          exact Zx rfl
        rintro _ rfl r3 w446 a447 ha ⟨hB,W,a4,j,x,y,a0,Y,a1,a2,A,B⟩-;refine aH_ ha ?_;refine Zv (bR_ rfl rfl) (Ze [(2,_),(6,_),(7,_),(11,_),(13,_),(25,_),(26,_),(27,_),(52,_),(53,_),(54,_),(71,_)] (nx ?_));refine l_ rfl (λe6=>?_) (λe6=>?_)
        ·rw[if_pos e6] at X;refine c_ ?_;obtain⟨r4,e7,X⟩:=a_ X;obtain⟨r5,e8,X⟩:=a_ X;refine ZW (Bf:=λO P=>Bs oo O w P∧Oz w 3 31 O P f a6∧Oz w 3 13 O P N c3∧Oz w 41 32 O P d s∧RdL O P u m∧Bz w 30 O P g 90 [ZI i.p.Labels,ZI i.p.Degree,b3,b4,ZI i.q.Labels,ZI i.q.Degree,b5,b6,b2,Z]∧RdL O P b3 (i.p.Nodes:Yk)∧RdL O P b4 (i.p.Edges:Yk)∧RdL O P b5 (i.q.Nodes:Yk)∧RdL O P b6 (i.q.Edges:Yk)∧RdL O P b2 (i.nodes:List Bool)∧RdL O P Z (i.edges:List Bool)) [(2,_),(6,_),(11,_),(13,_),(25,_),(26,_),(27,_),(52,_),(53,_),(54,_)] (Zrg 72 8) [[],[],[0,1],[2],[],[],[4,5],[6]] (Zcn 8) (Zt9 8) [0,0,31,0,0,0,13,0] [999] [.inl f,.inl (ZI a9),.inr (λv o b9=>∃vl,v=adr vl (a9.toNat*Rp.sz Int)∧Oz w 3 31 o b9 vl a6),.inl (ZI r4),.inl N,.inl (ZI a9),.inr (λv o b9=>∃vl,v=adr vl (a9.toNat*Rp.sz Int)∧Oz w 3 13 o b9 vl c3),.inl (ZI r5)] ⟨hB,W,a4,j,x,y,a0,Y,a1,a2,A,B⟩ ⟨λ_ _ _ _ _ _ c0 hb ⟨vl,e,h⟩ hs=>⟨vl,e,h.stp hs c0.1 (Ne.symm hb)⟩,λ_ _ _ _ _ _ c0 hb ⟨vl,e,h⟩ hs=>⟨vl,e,h.stp hs c0.1 (Ne.symm hb)⟩,trivial⟩ ?_ ?_
         ·refine⟨Dp (h_ rfl),Dp (h_ rfl),?_,?_,Dp (h_ rfl),Dp (h_ rfl),?_,?_,trivial⟩
          ·rintro o463 w464 a465 ha ⟨-,W,-⟩-;refine Zs ha ?_;refine bT_ W e7 rfl rfl wR_ wS_ ?_;exact⟨_,Stp.refl _ _ _,⟨_,rfl,W⟩⟩
          ·rintro o468 w469 a470 ha- ⟨r6,-⟩;obtain⟨v472,r7,r8⟩:=r6;have ha:=ha.c r7;refine Zs ha ?_;refine bA_ r8 e7 rfl rfl wT_ ?_;intro c475 r9;cases r9
           exact Zx rfl
          ·rintro o483 w484 a485 ha ⟨-,-,a4,-⟩-;refine Zs ha ?_;refine bT_ a4 e8 rfl rfl wR_ wS_ ?_;exact⟨_,Stp.refl _ _ _,⟨_,rfl,a4⟩⟩
          ·rintro o488 w489 a490 ha- ⟨s0,-⟩;obtain⟨v492,s1,s2⟩:=s0;have ha:=ha.c s1;refine Zs ha ?_;refine bA_ s2 e8 rfl rfl wT_ ?_;intro c495 s3;cases s3
           exact Zx rfl
         rintro _ rfl s4 w498 a499 ha ⟨hB,W,a4,j,x,y,a0,Y,a1,a2,A,B⟩-;refine aH_ ha ?_;refine Zv (jY_ rfl rfl) ?_;obtain⟨x504,i3,X⟩:=a_ X;refine Zo ?_;refine fC_ W i3 rfl rfl wR_ wS_ ?_;intro b505 c507 s5 h508 s6;cases s6
         obtain⟨s7,i4,X⟩:=a_ X;refine Z_ trivial ?_;refine cf_ W s5 i4 rfl (by decide) rfl rfl rfl wS_ rfl ?_;intro w511 s8 s9;obtain⟨a4,j,x,y,a0,Y,a1,a2,A,B,hB⟩:=ZS s9 (A8 a4 j x y a0 Y a1 (A4 a2 A B hB));refine Ze [(2,ZP g),(6,f),(11,N),(25,d),(26,ZI (s.length:Int)),(27,ZI b),(52,u),(53,ZI (m.length:Int)),(54,ZI L)] (nx (d_ (Za rfl (Ze [(2,ZP g),(6,f),(7,.bool true),(11,N),(25,d),(26,ZI (s.length:Int)),(27,ZI b),(52,u),(53,ZI (m.length:Int)),(54,ZI L)] (x_ (nx (d_ (Zv (C_ rfl rfl (F_ (by omega) (by omega))) (Zm rfl (Ze [(2,_),(6,_),(7,_),(11,_),(25,_),(26,_),(27,_),(52,_),(53,_),(54,_)] (u_ ?_)))))))))));have t0:=Zj X;subst t0;refine Zk [(2,_),(6,_),(7,_),(11,_),(25,_),(26,_),(27,_),(52,_),(53,_),(54,_)] ?_;intro a ha;exact⟨_,(by rw[<-g6];simp only[List.length_drop];omega),L+1,s7,true,s4,g7,rfl,by omega,ha,hB,s8,a4,j,x,y,a0,Y,a1,a2,A,B⟩
        ·replace X:=ZF e6 X;refine g_ (x_ (nx (d_ (Zv (C_ rfl rfl (F_ (by omega) (by omega))) (Zm rfl (Ze [(2,_),(6,_),(7,_),(11,_),(25,_),(26,_),(27,_),(52,_),(53,_),(54,_)] (u_ ?_)))))));have t1:=Zj X;subst t1;refine Zk [(2,_),(6,_),(7,_),(11,_),(25,_),(26,_),(27,_),(52,_),(53,_),(54,_)] ?_;intro a ha;exact⟨_,(by rw[<-g6];simp only[List.length_drop];omega),L+1,a6,V,r3,g7,rfl,by omega,ha,hB,W,a4,j,x,y,a0,Y,a1,a2,A,B⟩
       ·have t2:=S_ c9 g5;refine J_ ha ?_;refine Zq (Zv (r_ rfl rfl) (Ze [(2,_),(6,_),(7,_),(11,_),(25,_),(26,_),(27,_),(52,_),(53,_),(54,_),(55,_)] (nx (c_ ?_))));refine G_ (Zb (decide_eq_false c9)) ?_;refine s_ ?_;refine n_ (n_ (N_ ?_));refine p_ ?_;refine Zk [(2,_),(6,_),(7,_),(25,_),(26,_),(27,_)] ?_;intro a ha;exact⟨a6,V,E,t2,ha,hB,W,j,y,a0,Y,a1,a2,A,B⟩
      ·rintro a H ⟨a6,V,E,rfl,ha,hB,W,j,y,a0,Y,a1,a2,A,B⟩;dsimp only at R;refine ap_k ha ?_;refine x_ (nx (d_ (Zv (C_ rfl rfl (F_ (by omega) (by omega))) (Zm rfl (Ze [(2,_),(6,_),(7,_),(25,_),(26,_),(27,_)] (u_ ?_))))));have t3:=Zj R;subst t3;refine Zk [(2,_),(6,_),(7,_),(25,_),(26,_),(27,_)] ?_;intro a ha;exact⟨_,(by rw[<-f7];simp only[List.length_drop];omega),b+1,a6,V,E,f8,rfl,by omega,ha,hB,W,j,y,a0,Y,a1,a2,A,B⟩
      ·exact λ_ _ h=>h.elim
    ·have t4:=S_ c7 f6;refine J_ ha ?_;refine Zq (Zv (r_ rfl rfl) (Ze [(2,_),(6,_),(7,_),(25,_),(26,_),(27,_),(28,_)] (nx (c_ ?_))));refine G_ (Zb (decide_eq_false c7)) ?_;refine s_ ?_;refine n_ (n_ (N_ ?_));refine p_ ?_;refine Zk [(2,_),(6,_),(7,_)] ?_;intro a ha;exact⟨a7,C,F,t4,ha,hB,Q,y,a0,Y,a1,a2,A,B⟩
   ·rintro a I ⟨a7,C,F,rfl,ha,hB,Q,y,a0,Y,a1,a2,A,B⟩;dsimp only at b8;refine ap_k ha ?_;refine x_ (u_ ?_);have t5:=Zj b8;subst t5;refine Zk [(2,_),(6,_),(7,_)] ?_;intro a ha;exact⟨K40,by omega,a7,C,F,j0,ha,hB,Q,y,a0,Y,a1,a2,A,B⟩
   ·exact λ_ _ h=>h.elim
  ·replace b8:=ZF h0 b8;refine s_ ?_;refine n_ (n_ (N_ ?_));refine p_ ?_;have t6:=Zj b8;subst t6;refine Zk [(6,_)] ?_;intro a ha;exact⟨c1,false,b0,j0,ha,hB,b7⟩
 ·rintro a b1 ⟨c1,c4,b0,rfl,ha,hB,b7⟩;dsimp only at hF;refine ap_k ha ?_;refine Zn (Zm rfl (Zm rfl ?_));obtain⟨e9,i5,hF⟩:=a_ hF;refine Zo ?_;refine o_ (uL_ b1 _ c1 b7.z 0 e9 i5) Tryz.call114 ⟨rfl,rfl,trivial⟩ ?_;rintro e527 w523 ⟨rfl,t7⟩;have t8:=t7.stp 999 b0;refine⟨_,rfl,?_⟩;obtain⟨b7,hB⟩:=ZS t8 (A2 b7 hB);refine Zv (aI_ rfl) (Za rfl (Za rfl (Ze [(4,_),(5,_)] (nx (j_ ?_)))));have t9:=Zj hF;subst t9;refine Zr Tryz.results82 [f,.bool (!e9)] ?_;exact⟨_,rt oo b0 w.heap.size 31 t,rfl,b7.rt hB (by decide) t,hB.keeps,am_ _ _ _ _ _⟩
 ·exact λ_ _ h=>h.elim
end
section
open Go.RowKit
section
variable {α:Type} [Rp α] {o o' oo:Tg} {w w' w0:World} {v u vN vE:Value} {vs:List Hv} {xs ys:List (List α)} {t k kr:Nat} {e er:TypeId} {B lo hi m n:Nat}
theorem Ow.low0{zs:List α}(h:Ow B e k o w v zs)(f:∀g,v.ownBlock=some g->m<=g):Ow m e k o w v zs:=by
 obtain⟨css,j,⟨i,b⟩,q,s⟩:=h;refine⟨css,j,⟨i,?_⟩,q,s⟩;rcases b with h|⟨g,cap,d,rfl,x,a⟩
 ·exact .inl h
 ·exact .inr ⟨g,cap,d,rfl,f g rfl,a⟩
theorem Ow.mv0{zs:List α}(h:Ow B e 0 o w v zs)(d:∀b,o b=0->o' b=0):Ow B e 0 o' w v zs:=by
 obtain⟨css,s,j,y,A⟩:=h;exact⟨css,s,j,λg f=>d g (y g f),λi cs x a b=>Rp.mv (A i cs x a b) (Nat.le_refl _) λb _ q=>⟨rfl,d b q⟩⟩
theorem Rws.mv0(h:Rws B er 0 o w vs xs)(d:∀b,o b=0->o' b=0):Rws B er 0 o' w vs xs:=⟨h.1,λi u x a b=>(h.2.1 i u x a b).mv0 d,h.2.2⟩
theorem Rws.row'(h:Rws B er kr o w vs xs){i:Nat}{u:Hv}(a:vs[i]? =some u):∃x,xs[i]? =some x∧Ow B er kr o w u.v x:=by
 have hi:i<xs.length:=by have:=(List.getElem?_eq_some_iff.1 a).1;have:=h.1;omega
 exact⟨xs[i],List.getElem?_eq_getElem hi,h.2.1 i u xs[i] a (List.getElem?_eq_getElem hi)⟩
theorem Rws.low0(h:Rws B er kr o w vs xs)(d:∀(i:Nat)(u:Hv) g,vs[i]? =some u->u.v.ownBlock=some g->m<=g):Rws m er kr o w vs xs:=⟨h.1,λi u x a b=>(h.2.1 i u x a b).low0 λg f=>d i u g a f,h.2.2⟩
theorem Rws.lt(h:Rws B er kr o w vs xs)(i:Nat)(u:Hv)(g:Nat)(b:vs[i]? =some u)(a:u.v.ownBlock=some g):B<=g∧g<w.heap.size:=by
 obtain⟨x,_,d⟩:=h.row' b;exact d.ltw g a
theorem Rws.tg(h:Rws B er kr o w vs xs)(i:Nat)(u:Hv)(g:Nat)(b:vs[i]? =some u)(a:u.v.ownBlock=some g):o g=kr:=by
 obtain⟨x,_,d⟩:=h.row' b;exact d.tagged g a
def Dw(lo hi:Nat)(e er:TypeId)(o:Tg)(w:World)(v:Value)(xs:List (List α)):Prop:=
  ∃vs:List Hv,Ow lo e 0 o w v vs∧Rws lo er 0 o w vs xs∧(∀g,v.ownBlock=some g->g<hi)∧∀(i:Nat)(u:Hv) g,vs[i]? =some u->u.v.ownBlock=some g->g<hi
theorem Dw.stp(h:Dw lo hi e er o w v xs)(s:Stp t o w o' w')(a:t≠0:=by decide):Dw lo hi e er o' w' v xs:=by
 obtain⟨vs,d,b,f⟩:=h;exact⟨vs,d.stp s a a.symm,b.stp s a a.symm,f⟩
theorem Dw.mv0(h:Dw lo hi e er o w v xs)(a:∀b,o b=0->o' b=0):Dw lo hi e er o' w v xs:=by
 obtain⟨vs,f,d,g⟩:=h;exact⟨vs,f.mv0 a,d.mv0 a,g⟩
theorem Dw.rc(h:Dw lo hi e er o w v xs)(r:Rtc t o o')(d:t≠0):Dw lo hi e er o' w v xs:=h.mv0 λb a=>r.zero d a
theorem Dw.dz(h:Dw lo hi e er o w v xs):Dz e er o w v xs:=by
 obtain⟨vs,b,a,_⟩:=h;exact⟨vs,b.mono (Nat.zero_le _),a.mono (Nat.zero_le _)⟩
theorem Dw.rd(h:Dw lo hi e er o w v xs):RdL o w v xs:=h.dz.rd
theorem Dw.sub{lo' hi':Nat}(h:Dw lo hi e er o w v xs)(s:∀g,o g=0->lo<=g->g<hi->g<w.heap.size->lo'<=g∧g<hi'):Dw lo' hi' e er o w v xs:=by
 obtain⟨vs,f,j,A,y⟩:=h;have x:∀g,v.ownBlock=some g->lo'<=g∧g<hi':=λg d=>s g (f.tagged g d) (f.ltw g d).1 (A g d) (f.ltw g d).2;have q:∀(i:Nat)(u:Hv) g,vs[i]? =some u->u.v.ownBlock=some g->lo'<=g∧g<hi':=λi u g a b=>s g (j.tg i u g a b) (j.lt i u g a b).1 (y i u g a b) (j.lt i u g a b).2;exact⟨vs,f.low0 λg d=>(x g d).1,j.low0 λi u g a b=>(q i u g a b).1,λg d=>(x g d).2,λi u g a b=>(q i u g a b).2⟩
def D2(e er:TypeId)(o:Tg)(w:World)(vN vE:Value)(xs ys:List (List α)):Prop:=∃a b c d,(∀g,a<=g->g<b->c<=g->g<d->False)∧Dw a b e er o w vN xs∧Dw c d e er o w vE ys
theorem Dw.ofI{a b:Nat}(h:Ow a e k o w v vs)(g:Rws a er kr o w vs xs)(y:k≠0)(d:kr≠0)(f:kr≠k)(s:∀c,v.ownBlock=some c->c<b)(x:∀(i:Nat)(u:Hv) c,vs[i]? =some u->u.v.ownBlock=some c->c<b):
  Dw a b e er (Go.Proofs.YtdbbeldgdgonfaaGreat.frz kr (Go.Proofs.YtdbbeldgdgonfaaGreat.frz k o)) w v xs:=
 ⟨vs,Ow.low0 (Of.frz (h.frzF) kr d.symm) (λc j=>(h.ltw c j).1),Rws.low0 ((g.frz_ne f).frz d) (λi u c p q=>(g.lt i u c p q).1),s,x⟩
theorem newT{n:Nat}{a oo:Tg}{t:Nat}(g:∀b,b<n->a b=1):∀b,a b=0->(λb=>if b<n then oo b else if a b=0 then 0 else t) b=0:=λb d=>by
 have f:¬b<n:=λh=>by rw[g b h] at d;omega
 show(if b<n then oo b else if a b=0 then 0 else t)=0;rw[if_neg f,if_pos d]
theorem D2.mv0(h:D2 e er o w vN vE xs ys)(f:∀b,o b=0->o' b=0):D2 e er o' w vN vE xs ys:=by
 obtain⟨a,b,c,d,g,j,i⟩:=h;exact⟨a,b,c,d,g,j.mv0 f,i.mv0 f⟩
theorem D2.rt(h:D2 e er o w vN vE xs ys)(f:Bs oo o w0 w)(k t:Nat)(d:2<=k):D2 e er (Go.Proofs.YtdbbeldgdgonfaaGreat.rt oo o w0.heap.size k t) w vN vE xs ys:=h.mv0 λb a=>ly_ f k t b d a
def Pq(lo hi:Nat)(e er:TypeId)(o:Tg)(w:World)(vN vE:Value)(xs ys:List (List α)):Prop:=∃a b c d,lo<=a∧b<=hi∧lo<=c∧d<=hi∧(b<=c∨d<=a)∧Dw a b e er o w vN xs∧Dw c d e er o w vE ys
theorem D2.pq(h:D2 e er o w vN vE xs ys)(G:∀b,b<n->o b≠0)(C:n<=w.heap.size):Pq n w.heap.size e er o w vN vE xs ys:=by
 obtain⟨a,b,c,d,F,E,A⟩:=h;have x:∀g,o g=0->n<=g:=λg f=>Nat.le_of_not_lt λy=>G g y f;have j:Dw (max a n) (min b w.heap.size) e er o w vN xs:=E.sub λg f q i D=>by have:=x g f;omega
 have s:Dw (max c n) (min d w.heap.size) e er o w vE ys:=A.sub λg f q i D=>by have:=x g f;omega
 by_cases H:max a n<min b w.heap.size
 ·by_cases I:max c n<min d w.heap.size
  ·refine⟨_,_,_,_,by omega,by omega,by omega,by omega,?_,j,s⟩;refine Classical.byContradiction λJ=>F (max (max a n) (max c n)) (by omega) (by omega) (by omega) (by omega)
  ·exact⟨_,_,n,n,by omega,by omega,by omega,by omega,by omega,j,s.sub λg _ q i _=>by omega⟩
 ·exact⟨n,n,_,_,by omega,by omega,by omega,by omega,by omega,j.sub λg _ q i _=>by omega,s⟩
theorem Pq.stp{lo hi:Nat}(h:Pq lo hi e er o w vN vE xs ys)(s:Stp t o w o' w')(f:t≠0:=by decide):Pq lo hi e er o' w' vN vE xs ys:=by
 obtain⟨a,b,c,d,x,i,A,y,g,q,j⟩:=h;exact⟨a,b,c,d,x,i,A,y,g,q.stp s f,j.stp s f⟩
theorem Pq.mv0{lo hi:Nat}(h:Pq lo hi e er o w vN vE xs ys)(f:∀b,o b=0->o' b=0):Pq lo hi e er o' w vN vE xs ys:=by
 obtain⟨a,b,c,d,s,i,y,x,g,q,j⟩:=h;exact⟨a,b,c,d,s,i,y,x,g,q.mv0 f,j.mv0 f⟩
theorem Pq.rdN{lo hi:Nat}(h:Pq lo hi e er o w vN vE xs ys):RdL o w vN xs:=by obtain⟨a,b,c,d,q,i,x,s,g,f,j⟩:=h;exact f.rd
theorem Pq.rdE{lo hi:Nat}(h:Pq lo hi e er o w vN vE xs ys):RdL o w vE ys:=by obtain⟨a,b,c,d,q,i,x,s,g,j,f⟩:=h;exact f.rd
def Iv(B k kr:Nat)(e er:TypeId)(o:Tg)(w:World)(v:Value)(xs:List (List α)):Prop:=
  ∃(g:List Hv)(a b:Nat),B<=a∧b<=w.heap.size∧Ow a e k o w v g∧Rws a er kr o w g xs∧(∀c,v.ownBlock=some c->c<b)∧(∀(i:Nat)(u:Hv) c,g[i]? =some u->u.v.ownBlock=some c->c<b)∧∀c,a<=c->c<b->o c=k∨o c=kr
theorem Iv.stp{B:Nat}(h:Iv B k kr e er o w v xs)(s:Stp t o w o' w')(f:t≠0:=by decide)(hk:k≠t:=by decide)(hkr:kr≠t):Iv B k kr e er o' w' v xs:=by
 obtain⟨g,a,b,x,d,y,C,A,i,j⟩:=h;exact⟨g,a,b,x,Nat.le_trans d s.size,y.stp s f hk,C.stp s f hkr,A,i,λc p q=>by rw[s.own c (Nat.lt_of_lt_of_le q d)];exact j c p q⟩
end
theorem Iv.mono{α:Type}[Rp α]{B d k kr:Nat}{e er:TypeId}{o:Tg}{w:World}{v:Value}{xs:List (List α)}(h:Iv B k kr e er o w v xs)(j:d<=B):Iv d k kr e er o w v xs:=by
 obtain⟨g,a,b,i,f⟩:=h;exact⟨g,a,b,Nat.le_trans j i,f⟩
structure Qv where
  cs:List Value
instance:Rp Qv where
  sz:=4
  pos:=by decide
  rd _ _ cs x:=cs=x.cs∧cs.length=4∧∀c∈cs,c.oneCell'=true
  len h:=h.2.1
  one h:=h.2.2
  mv h _ _:=h
theorem Qv.ok{o:Tg}{w:World}{L D:Int}{vN vE:Value}(d:vN.oneCell'=true)(b:vE.oneCell'=true):Rp.rd o w [.int .i64 L,.int .i64 D,vN,vE] (⟨[.int .i64 L,.int .i64 D,vN,vE]⟩:Qv):=
 ⟨rfl,rfl,λc a=>by
  simp only[List.mem_cons,List.not_mem_nil,or_false] at a;rcases a with rfl|rfl|rfl|rfl
  ·rfl
  ·rfl
  ·exact d
  ·exact b⟩
section
variable {o o' oo:Tg} {w w' w0:World} {v u vN vE:Value} {t k:Nat} {B n:Nat} {gs:List Qv} {ps:List b_} {p:b_}
def Pc(lo hi:Nat)(o:Tg)(w:World)(cs:List Value)(p:b_):Prop:=∃vN vE,cs=[.int .i64 p.Labels,.int .i64 p.Degree,vN,vE]∧Pq lo hi 41 3 o w vN vE p.Nodes p.Edges
theorem Pc.stp{lo hi:Nat}{cs:List Value}(h:Pc lo hi o w cs p)(s:Stp t o w o' w')(a:t≠0:=by decide):Pc lo hi o' w' cs p:=by obtain⟨vN,vE,e,h⟩:=h;exact⟨vN,vE,e,h.stp s a⟩
theorem Pc.mv0{lo hi:Nat}{cs:List Value}(h:Pc lo hi o w cs p)(a:∀b,o b=0->o' b=0):Pc lo hi o' w cs p:=by obtain⟨vN,vE,e,h⟩:=h;exact⟨vN,vE,e,h.mv0 a⟩
end
end
section
open Go.RowKit
section
variable {α:Type} [Rp α] {o o':Tg} {w w':World} {v vN vE:Value} {xs ys:List (List α)} {t k kr B lo hi:Nat} {e er:TypeId} {cs:List Value} {p:b_}
instance:Stq t o w o' w' (Dw lo hi e er o w v xs) (Dw lo hi e er o' w' v xs) (t !=0):=⟨λc h s=>h.stp s (neb c)⟩
instance:Stq t o w o' w' (Pq lo hi e er o w vN vE xs ys) (Pq lo hi e er o' w' vN vE xs ys) (t !=0):=⟨λc h s=>h.stp s (neb c)⟩
instance:Stq t o w o' w' (Iv B k kr e er o w v xs) (Iv B k kr e er o' w' v xs) (t !=0&&(k !=t&&kr !=t)):=⟨λc h s=>h.stp s (neb (andb c).1) (neb (andb (andb c).2).1) (neb (andb (andb c).2).2)⟩
instance:Stq t o w o' w' (Pc lo hi o w cs p) (Pc lo hi o' w' cs p) (t !=0):=⟨λc h s=>h.stp s (neb c)⟩
end
end
section
open Go.RowKit
theorem Of.stpF{α:Type}[Rp α]{e:TypeId}{k t:Nat}{o f:Tg}{w w':World}{v:Value}{xs:List α}(h:Of e (Go.Proofs.YtdbbeldgdgonfaaGreat.frz k o) w v xs)(s:Stp t o w f w')(i:t≠0)(g:t≠k):Of e (Go.Proofs.YtdbbeldgdgonfaaGreat.frz k f) w' v xs:=by
 have j:Stp t (Go.Proofs.YtdbbeldgdgonfaaGreat.frz k o) w (Go.Proofs.YtdbbeldgdgonfaaGreat.frz k f) w':=⟨s.os,s.tape,s.output,s.size,λb d a=>s.block b d (λh=>by
  unfold Go.Proofs.YtdbbeldgdgonfaaGreat.frz at a;rw[if_neg (by rw[h];exact g)] at a;exact a h),λb d=>by unfold Go.Proofs.YtdbbeldgdgonfaaGreat.frz;rw[s.own b d]⟩
 exact Of.stp h j i
theorem vM_{P:Program}{f:FuncId}{args:Array Value}{w:World}{m:TypeId}{j:Tg}{l:List Int}{b:Bool}(k:Nat)
  (H:Calls P f args w (λe w'=>∃(d:Value)(i:Tg),e=.returned (.tuple #[d,.bool b])∧Of m i w' d l∧Keeps w w'∧∀c,c<w.heap.size->i c=frz k j c)):
  Calls P f args w (λe w'=>∃(d:Value)(i:Tg),e=.returned (.tuple #[d,.bool b])∧Of m (frz k i) w' d l∧Keeps w w'∧∀c,c<w.heap.size->i c=j c):=by
 refine H.mono ?_;rintro e w' ⟨d,p,rfl,h,o,n⟩;refine⟨d,λc=>if c<w.heap.size then j c else p c,rfl,Ow.mv0 h (λc g=>?_),o,λc g=>if_pos g⟩;unfold frz;by_cases a:c<w.heap.size
 ·simp only[if_pos a];rw[n c a] at g;exact g
 ·simp only[if_neg a];split
  ·rfl
  ·exact g
end
end Go.Proofs.YtdbbeldgdgonfaaGreat
