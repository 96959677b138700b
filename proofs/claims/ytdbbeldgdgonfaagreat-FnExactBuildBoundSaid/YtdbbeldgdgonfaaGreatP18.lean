/- Part 18 of what this claim rests on (pack.py). -/
import Derived.Test.YtdbbeldgdgonfaaGreatP17
namespace Go.Proofs.YtdbbeldgdgonfaaGreat
open Tryz renaming prog→wQ_, underlying28→wW_, sizeOf3→wS_, isAgg3→wT_, isAgg28→wX_, sizeOf28→wU_, underlying41→wR_, underlying135→xo_, sizeOf41→wY_, isAgg41→xa_, isAgg105→xR_, results182→zH_, isAgg150→zI_, call182→zJ_, zeroValue3→xd_, call70→xS_, results152→zL_, underlying22→wV_, zeroValue41→xe_
set_option linter.unusedSimpArgs false
set_option linter.unusedVariables false
section
set_option maxRecDepth 100000
set_option maxHeartbeats 2000000
open Go.RowKit
theorem fc_:Inf wQ_ 3 (.int .i64 0) 1 8:=by unfold Inf;kernel_rfl
theorem hA_:Inf wQ_ 41 (.slice none 0 0) 1 24:=by unfold Inf;kernel_rfl
def ca_(b:b_):Int->Int->Option (Lp Int Int ar_):=λ(c:Int)(s:Int)=>
  (ck (s*b.Labels))>>=λa=>
  some (.go a)
def bZ_(f:b_):Int->((List Int)×Int)->Option (Lp ((List Int)×Int) ((List Int)×Int) ar_):=λ(a:Int)(s:(List Int)×Int)=>
  (rem s.2 f.Labels)>>=λb=>
  (ix s.1 a)>>=λg=>
  (st s.1 a b)>>=λc=>
  (quo s.2 f.Labels)>>=λd=>
  some (.go (c,d))
def cb_(fuel:Nat)(k:b_)(d:Int):Int->((List Int)×(List Int))->Option (Lp ((List Int)×(List Int)) ((List Int)×(List Int)) ar_):=λ(b:Int)(s:(List Int)×(List Int))=>
  (ck (k.Degree-1))>>=λc=>
  (ix s.1 c)>>=λm=>
  (st s.1 c b)>>=λa=>
  (cW_ fuel k a)>>=λf=>
  if f then
    (ix s.2 d)>>=λg=>
    (shl 1 b)>>=λi=>
    (ix s.2 d)>>=λn=>
    (st s.2 d (bor g i))>>=λj=>
    some (.go (a,j))
  else
    some (.go (a,s.2))
def cZ_(fuel:Nat)(a:b_):Int->(List Int)->Option (Lp (List Int) (List Int) ar_):=λ(b:Int)(s:List Int)=>
  (mk (Rz.z:Int) a.Degree)>>=λg=>
  (ck (a.Degree-1))>>=λc=>
  ck c>>=λ_=>
  (forN (bZ_ a) (c).toNat 0 (g,b))>>=λi=>
  match i with
  | .inl (j,m)=>
    ck a.Labels>>=λ_=>
    (forN (cb_ fuel a b) (a.Labels).toNat 0 (j,s))>>=λd=>
    match d with
    | .inl (k,f)=>
      some (.go f)
    | .inr _=>none
  | .inr _=>none
def dW_(fuel:Nat)(a:b_):Option ar_:=
  (ck (a.Degree-1))>>=λc=>
  ck c>>=λ_=>
  (forN (ca_ a) (c).toNat 0 1)>>=λd=>
  match d with
  | .inl f=>
    (mk (Rz.z:Int) f)>>=λb=>
    ck (b.length:Int)>>=λ_=>
    (forN (cZ_ fuel a) ((b.length:Int)).toNat 0 b)>>=λg=>
    match g with
    | .inl i=>
      some (⟨⟨a.Labels,a.Degree,a.Nodes,a.Edges⟩,i⟩:ar_)
    | .inr _=>none
  | .inr _=>none
def lY_(oo:Tg)(t:Nat)(w:World)(r:ar_):Ending->World->Prop:=λe w'=>∃(a:Nat)(o':Tg),e=.returned (.pointer (some ⟨a,0,none⟩))∧RdL o' w' (.slice (some ⟨a,0,none⟩) 1 1) [r]∧Keeps w w'∧∀b,b<w.heap.size->o' b=oo b
theorem lX_(fuel:Nat)(w:World)(oo:Tg)(t:Nat)(ht:2<=t)(l2:List Value)(f:b_)(i8:Rp.rd oo w l2 f)(r:ar_)(hF:dW_ fuel f=some r):
    Calls wQ_ 102 #[.agg l2.toArray] w (lY_ oo t w r):=by
 unfold dW_ at hF;replace i8:=Rp.col i8;obtain⟨N,O,rfl,C,D⟩:=i8;have hB:Bs oo (col oo) w w:=Bs.start _ _;refine i_ (n:=83) (vs:=[.agg #[ZI f.Labels,ZI f.Degree,N,O]]) Tryz.func102 rfl rfl ?_;generalize col oo=o at*;refine Zq (Zo ?_);refine as_ (o:=o) w.heap.size 11 hB.keeps.size (cs:=[ZI f.Labels,ZI f.Degree,N,O]) rfl rfl ?_;intro o5 q4 u B o6;obtain⟨C,D,hB⟩:=ZS o6 (A3 C D hB);refine Za rfl (Ze [(1,_)] (Zn (Za rfl (Ze [(1,_),(3,_)] (nx (c_ (Zq (Zv (m_ rfl wW_ rfl wS_) (Zv (e_ rfl wT_ (B.cell rfl)) ?_)))))))));obtain⟨U,d6,hF⟩:=a_ hF;refine Zv (bs_ rfl rfl d6) (Zm rfl (Ze [(1,_),(3,_),(12,_),(13,_)] (nx ?_)));obtain⟨o7,i9,hF⟩:=a_ hF;obtain⟨-,h16a,h16b⟩:=bV_ i9;obtain⟨d7,d8,hF⟩:=a_ hF;refine v_ (λa Z=>∃(X:Int),∃(V:Tg),d7=.inl X∧Fr a 83 [(1,ZP u),(3,ZI X)]∧Bs oo V w Z∧Bz w 11 V Z u 28 [ZI f.Labels,ZI f.Degree,N,O]∧RdL V Z N (f.Nodes:Yk)∧RdL V Z O (f.Edges:Yk)) (λ_ _=>False) ?_ ?_ ?_
 ·refine f_ ?_;refine w_ (λ(K:Nat) a Z=>∃(Q:Int)(X:Int),∃(V:Tg),forN (ca_ f) (U-Q).toNat Q X=some d7∧(U-Q).toNat=K∧0<=Q∧Fr a 83 [(1,ZP u),(3,ZI X),(12,ZI U),(13,ZI Q)]∧Bs oo V w Z∧Bz w 11 V Z u 28 [ZI f.Labels,ZI f.Degree,N,O]∧RdL V Z N (f.Nodes:Yk)∧RdL V Z O (f.Edges:Yk)) _ (λa ha=>⟨0,1,o5,(by rw[Int.sub_zero];exact d8),rfl,Int.le_refl 0,ha.sb,hB,B,C,D⟩) ?_;rintro K21 a Z ⟨Q,X,V,d9,j0,o8,ha,hB,B,C,D⟩;by_cases b3:Q<U
  ·obtain⟨o9,b4,j1⟩:=bv_ b3 d9;dsimp only[ca_] at b4;refine J_ ha ?_;refine Zq (Zv (r_ rfl rfl) (Ze [(1,_),(3,_),(12,_),(13,_),(14,_)] (nx (c_ ?_))));refine L_ (Zb (decide_eq_true b3)) ?_;refine g_ (nx (c_ (f_ (d_ (Zm rfl (Zv (m_ rfl wW_ rfl wS_) (Zv (e_ rfl wT_ (B.cell rfl)) ?_)))))));obtain⟨b5,e0,b4⟩:=a_ b4;refine Zv (kb_ rfl rfl e0) (Za rfl (Ze [(1,ZP u),(3,ZI b5),(12,ZI U),(13,ZI Q)] (x_ (nx (d_ (Zv (C_ rfl rfl (F_ (by omega) (by omega))) (Zm rfl (Ze [(1,_),(3,_),(12,_),(13,_)] (u_ ?_)))))))));have j2:=Zj b4;subst j2;refine Zk [(1,_),(3,_),(12,_),(13,_)] ?_;intro a ha;exact⟨_,(by rw[<-j0];omega),Q+1,b5,V,j1,rfl,by omega,ha,hB,B,C,D⟩
  ·have j3:=bu_ b3 d9;refine J_ ha ?_;refine Zq (Zv (r_ rfl rfl) (Ze [(1,_),(3,_),(12,_),(13,_),(14,_)] (nx (c_ ?_))));refine G_ (Zb (decide_eq_false b3)) ?_;refine s_ ?_;refine n_ (n_ (N_ ?_));refine p_ ?_;refine Zk [(1,_),(3,_)] ?_;intro a ha;exact⟨X,V,j3,ha,hB,B,C,D⟩
 ·rintro a Z ⟨X,V,rfl,ha,hB,B,C,D⟩;dsimp only at hF;refine ap_k ha ?_;refine nx (c_ ?_);obtain⟨g,e1,hF⟩:=a_ hF;refine ZW (Bf:=λa8 a9=>Bs oo a8 w a9∧Bz w 11 a8 a9 u 28 [ZI f.Labels,ZI f.Degree,N,O]∧RdL a8 a9 N (f.Nodes:Yk)∧RdL a8 a9 O (f.Edges:Yk)) [(1,_),(3,_)] [20,21,22] [[],[],[1]] (Zcn 3) [999,999,12] [0,0,12] [12,999] [.inl (.agg #[ZI f.Labels,ZI f.Degree,N,O]),.inl (ZI X),.inr (λv o j4=>Oz w 3 12 o j4 v g)] ⟨hB,B,C,D⟩ ⟨λ_ _ _ _ _ _ j5 hb h hs=>h.stp hs j5.1 (Ne.symm hb),trivial⟩ ?_ ?_
  ·refine⟨Dq λh=>E_ rfl wX_ wU_ rfl h.2.1.cells,Dp (h_ rfl),?_,trivial⟩
   ·rintro j6 p0 p1 ha ⟨hB,B,C,D⟩-;refine Zs ha ?_;refine hn_ (o:=j6) w.heap.size 12 hB.keeps.size e1 rfl rfl wR_ fc_ rfl (by decide) ?_;intro p2 p3 p4 j7 j8;exact⟨_,j8,j7⟩
  rintro _ rfl e2 j9 e3 ha ⟨hB,B,C,D⟩ ⟨a3,-⟩;replace a3:Oz w 3 12 e2 j9 (e3.tmps.getD 22 undef) g:=a3;generalize k0:e3.tmps.getD 22 undef=b6 at a3;have ha:=ha.c k0;refine aH_ ha ?_;refine Zv (ba_ (vs:=[(0,.agg #[ZI f.Labels,ZI f.Degree,N,O]),(1,b6)]) (cs:=[ZI f.Labels,ZI f.Degree,N,O,b6]) ⟨rfl,rfl,rfl,rfl,trivial⟩ (by obtain⟨_,_,p5⟩:=a3.form;rw[p5];kernel_rfl)) (Zo ?_);refine as_ (o:=e2) w.heap.size 13 hB.keeps.size (cs:=[ZI f.Labels,ZI f.Degree,N,O,b6]) rfl rfl ?_;intro k1 p6 d k k2;obtain⟨C,D,a3,B,hB⟩:=ZS k2 (A5 C D a3 B hB);refine Za rfl (Ze [(1,_),(4,_)] (nx (c_ (Zq (Zm rfl (Zv (bH_ rfl) (Zv (m_ rfl xo_ rfl wY_) (Zv (e_ rfl xa_ (k.cell rfl)) (Zv (bC_ rfl a3 wR_) (Zm rfl (Ze [(1,_),(4,_),(29,_),(30,_)] (nx ?_))))))))))));obtain⟨p7,k3,hF⟩:=a_ hF;obtain⟨-,h69a,h69b⟩:=bV_ k3;obtain⟨e4,e5,hF⟩:=a_ hF;refine v_ (λa S=>∃Y W I,e4=.inl Y∧Fr a 83 [(4,ZP d)]∧Bs oo I w S∧Bz w 13 I S d 135 [ZI f.Labels,ZI f.Degree,N,O,W]∧RdL I S N (f.Nodes:Yk)∧RdL I S O (f.Edges:Yk)∧Oz w 3 12 I S W Y) (λ_ _=>False) ?_ ?_ ?_
  ·refine f_ ?_;refine w_ (λ(K:Nat) a S=>∃(b:Int),∃Y W I,forN (cZ_ fuel f) ((g.length:Int)-b).toNat b Y=some e4∧((g.length:Int)-b).toNat=K∧0<=b∧Fr a 83 [(1,ZP u),(4,ZP d),(29,ZI (g.length:Int)),(30,ZI b)]∧Bs oo I w S∧Bz w 11 I S u 28 [ZI f.Labels,ZI f.Degree,N,O]∧RdL I S N (f.Nodes:Yk)∧RdL I S O (f.Edges:Yk)∧Bz w 13 I S d 135 [ZI f.Labels,ZI f.Degree,N,O,W]∧Oz w 3 12 I S W Y) _ (λa ha=>⟨0,g,b6,k1,(by rw[Int.sub_zero];exact e5),rfl,Int.le_refl 0,ha.sb,hB,B,C,D,k,a3⟩) ?_;rintro K74 a S ⟨b,Y,W,I,e6,k4,p8,ha,hB,B,C,D,k,L⟩;by_cases b7:b<(g.length:Int)
   ·obtain⟨p9,M,k5⟩:=bv_ b7 e6;dsimp only[cZ_] at M;refine J_ ha ?_;refine Zq (Zv (r_ rfl rfl) (Ze [(1,_),(4,_),(29,_),(30,_),(31,_)] (nx (c_ ?_))));refine L_ (Zb (decide_eq_true b7)) ?_;refine g_ (nx (c_ (f_ (Zq (Zm rfl (Za rfl (Ze [(1,_),(4,_),(5,_),(29,_),(30,_)] (Zn (Zv (m_ rfl wW_ rfl wS_) (Zv (e_ rfl wT_ (B.cell rfl)) ?_))))))))));obtain⟨k6,e7,M⟩:=a_ M;refine Zo ?_;refine hn_ (o:=I) w.heap.size 14 hB.keeps.size e7 rfl rfl wR_ fc_ rfl (by decide) ?_;intro k7 q0 q k8 k9;obtain⟨B,C,D,k,L,hB⟩:=ZS k9 (A6 B C D k L hB);refine Za rfl (Ze [(1,_),(4,_),(5,_),(6,_),(29,_),(30,_)] (Zn (Zm rfl (Za rfl (Ze [(1,_),(4,_),(5,_),(6,_),(7,_),(29,_),(30,_)] (nx (c_ (Zq (Zv (m_ rfl wW_ rfl wS_) (Zv (e_ rfl wT_ (B.cell rfl)) ?_))))))))));obtain⟨R,e8,M⟩:=a_ M;refine Zv (bs_ rfl rfl e8) (Zm rfl (Ze [(1,_),(4,_),(5,_),(6,_),(7,_),(29,_),(30,_),(39,_),(40,_)] (nx ?_)));obtain⟨q1,l0,M⟩:=a_ M;obtain⟨-,h93a,h93b⟩:=bV_ l0;obtain⟨e9,f0,M⟩:=a_ M;refine v_ (λa J=>∃(a2:Yl),∃(a0:Int),∃(F:Tg),e9=.inl (a2,a0)∧Fr a 83 [(1,ZP u),(4,ZP d),(5,ZI b),(6,q),(29,ZI (g.length:Int)),(30,ZI b)]∧Bs oo F w J∧Oz w 3 14 F J q a2∧Bz w 11 F J u 28 [ZI f.Labels,ZI f.Degree,N,O]∧RdL F J N (f.Nodes:Yk)∧RdL F J O (f.Edges:Yk)∧Bz w 13 F J d 135 [ZI f.Labels,ZI f.Degree,N,O,W]∧Oz w 3 12 F J W Y) (λ_ _=>False) ?_ ?_ ?_
    ·refine f_ ?_;refine w_ (λ(K:Nat) a J=>∃(H:Int),∃(a2:Yl),∃(a0:Int),∃(F:Tg),forN (bZ_ f) (R-H).toNat H (a2,a0)=some e9∧(R-H).toNat=K∧0<=H∧Fr a 83 [(1,ZP u),(4,ZP d),(5,ZI b),(6,q),(7,ZI a0),(29,ZI (g.length:Int)),(30,ZI b),(39,ZI R),(40,ZI H)]∧Bs oo F w J∧Oz w 3 14 F J q a2∧Bz w 11 F J u 28 [ZI f.Labels,ZI f.Degree,N,O]∧RdL F J N (f.Nodes:Yk)∧RdL F J O (f.Edges:Yk)∧Bz w 13 F J d 135 [ZI f.Labels,ZI f.Degree,N,O,W]∧Oz w 3 12 F J W Y) _ (λa ha=>⟨0,k6,b,k7,(by rw[Int.sub_zero];exact f0),rfl,Int.le_refl 0,ha.sb,hB,k8,B,C,D,k,L⟩) ?_;rintro K98 a J ⟨H,a2,a0,F,f1,l1,q2,ha,hB,b0,B,C,D,k,L⟩;by_cases a4:H<R
     ·obtain⟨q3,P,f2⟩:=bv_ a4 f1;dsimp only[bZ_] at P;refine J_ ha ?_;refine Zq (Zv (r_ rfl rfl) (Ze [(1,_),(4,_),(5,_),(6,_),(7,_),(29,_),(30,_),(39,_),(40,_),(41,_)] (nx (c_ ?_))));refine L_ (Zb (decide_eq_true a4)) ?_;refine g_ (nx (c_ (f_ (Zq (Zm rfl (Za rfl (Ze [(1,_),(4,_),(5,_),(6,_),(7,_),(8,_),(29,_),(30,_),(39,_),(40,_)] (Zn (Zm rfl (Zm rfl (Zm rfl (Zv (m_ rfl wW_ rfl wS_) ?_))))))))))));refine Zv (e_ rfl wT_ (B.cell rfl)) ?_;obtain⟨l3,c4,P⟩:=a_ P;refine Zv (qK_ rfl rfl c4) ?_;obtain⟨l4,c5,P⟩:=a_ P;refine Zo ?_;refine fC_ b0 c5 rfl rfl wR_ wS_ ?_;intro l5 l6 f3 l7 f4;cases f4
      obtain⟨f5,c6,P⟩:=a_ P;refine Z_ trivial ?_;refine cf_ b0 f3 c6 rfl (by decide) rfl rfl rfl wS_ rfl ?_;intro l8 f6 f7;obtain⟨B,C,D,k,L,hB⟩:=ZS f7 (A6 B C D k L hB);refine Ze [(1,_),(4,_),(5,_),(6,_),(7,_),(29,_),(30,_),(39,_),(40,_)] (nx (d_ (Zm rfl (Zv (m_ rfl wW_ rfl wS_) (Zv (e_ rfl wT_ (B.cell rfl)) ?_)))));obtain⟨a5,c7,P⟩:=a_ P;refine Zv (sE_ rfl rfl c7) (Za rfl (Ze [(1,ZP u),(4,ZP d),(5,ZI b),(6,q),(7,ZI a5),(29,ZI (g.length:Int)),(30,ZI b),(39,ZI R),(40,ZI H)] (x_ (nx (d_ (Zv (C_ rfl rfl (F_ (by omega) (by omega))) (Zm rfl (Ze [(1,_),(4,_),(5,_),(6,_),(7,_),(29,_),(30,_),(39,_),(40,_)] (u_ ?_)))))))));have f8:=Zj P;subst f8;refine Zk [(1,_),(4,_),(5,_),(6,_),(7,_),(29,_),(30,_),(39,_),(40,_)] ?_;intro a ha;exact⟨_,(by rw[<-l1];omega),H+1,f5,a5,F,f2,rfl,by omega,ha,hB,f6,B,C,D,k,L⟩
     ·have f9:=bu_ a4 f1;refine J_ ha ?_;refine Zq (Zv (r_ rfl rfl) (Ze [(1,_),(4,_),(5,_),(6,_),(7,_),(29,_),(30,_),(39,_),(40,_),(41,_)] (nx (c_ ?_))));refine G_ (Zb (decide_eq_false a4)) ?_;refine s_ ?_;refine n_ (n_ (N_ ?_));refine p_ ?_;refine Zk [(1,_),(4,_),(5,_),(6,_),(29,_),(30,_)] ?_;intro a ha;exact⟨a2,a0,F,f9,ha,hB,b0,B,C,D,k,L⟩
    ·rintro a J ⟨a2,a0,F,rfl,ha,hB,b0,B,C,D,k,L⟩;dsimp only at M;refine ap_k ha ?_;refine Zn (Zv (m_ rfl wW_ rfl wS_) (Zv (e_ rfl wT_ (B.cell rfl)) (Zm rfl (Ze [(1,_),(4,_),(5,_),(6,_),(29,_),(30,_),(56,_),(57,_)] (nx ?_)))));obtain⟨l9,g0,M⟩:=a_ M;obtain⟨-,h127a,h127b⟩:=bV_ g0;obtain⟨b8,c8,M⟩:=a_ M;refine v_ (λa y=>∃a1 G E s,b8=.inl (a1,G)∧Fr a 83 [(1,ZP u),(4,ZP d),(29,ZI (g.length:Int)),(30,ZI b)]∧Bs oo s w y∧Bz w 11 s y u 28 [ZI f.Labels,ZI f.Degree,N,O]∧RdL s y N (f.Nodes:Yk)∧RdL s y O (f.Edges:Yk)∧Bz w 13 s y d 135 [ZI f.Labels,ZI f.Degree,N,O,E]∧Oz w 3 12 s y E G) (λ_ _=>False) ?_ ?_ ?_
     ·refine f_ ?_;refine w_ (λ(K:Nat) a y=>∃(i:Int),∃a1 G E s,forN (cb_ fuel f b) (f.Labels-i).toNat i (a1,G)=some b8∧(f.Labels-i).toNat=K∧0<=i∧Fr a 83 [(1,ZP u),(4,ZP d),(5,ZI b),(6,q),(29,ZI (g.length:Int)),(30,ZI b),(56,ZI f.Labels),(57,ZI i)]∧Bs oo s w y∧Oz w 3 14 s y q a1∧Bz w 11 s y u 28 [ZI f.Labels,ZI f.Degree,N,O]∧RdL s y N (f.Nodes:Yk)∧RdL s y O (f.Edges:Yk)∧Bz w 13 s y d 135 [ZI f.Labels,ZI f.Degree,N,O,E]∧Oz w 3 12 s y E G) _ (λa ha=>⟨0,a2,Y,W,F,(by rw[Int.sub_zero];exact c8),rfl,Int.le_refl 0,ha.sb,hB,b0,B,C,D,k,L⟩) ?_;rintro K132 a y ⟨i,a1,G,E,s,b9,c0,m0,ha,hB,c1,B,C,D,k,A⟩;by_cases a6:i<f.Labels
      ·obtain⟨m1,m,c2⟩:=bv_ a6 b9;dsimp only[cb_] at m;refine J_ ha ?_;refine Zq (Zv (r_ rfl rfl) (Ze [(1,_),(4,_),(5,_),(6,_),(29,_),(30,_),(56,_),(57,_),(58,_)] (nx (c_ ?_))));refine L_ (Zb (decide_eq_true a6)) ?_;refine g_ (nx (c_ (f_ (Zq (Zm rfl (Za rfl (Ze [(1,_),(4,_),(5,_),(6,_),(9,_),(29,_),(30,_),(56,_),(57,_)] (Zn (Zm rfl (Zv (m_ rfl wW_ rfl wS_) (Zv (e_ rfl wT_ (B.cell rfl)) ?_)))))))))));obtain⟨m2,c9,m⟩:=a_ m;refine Zv (bs_ rfl rfl c9) (Zm rfl ?_);obtain⟨m3,d0,m⟩:=a_ m;refine Zo ?_;refine fC_ c1 d0 rfl rfl wR_ wS_ ?_;intro m4 m5 g1 m6 g2;cases g2
       obtain⟨a7,d1,m⟩:=a_ m;refine Z_ trivial ?_;refine cf_ c1 g1 d1 rfl (by decide) rfl rfl rfl wS_ rfl ?_;intro g3 T g4;obtain⟨B,C,D,k,A,hB⟩:=ZS g4 (A6 B C D k A hB);refine Ze [(1,_),(4,_),(5,_),(6,_),(9,_),(29,_),(30,_),(56,_),(57,_)] (Zn (Zv (E_ rfl wX_ wU_ rfl B.cells) (Zm rfl ?_)));obtain⟨c3,d2,m⟩:=a_ m;refine Zo ?_;refine o_ (hT_ fuel g3 _ f (⟨_,_,rfl,C.z,D.z⟩) _ a7 T.z c3 d2) Tryz.call150 ⟨rfl,rfl,trivial⟩ ?_;rintro m7 m8 ⟨rfl,g5⟩;have g6:=g5.stp 999 s;refine⟨_,rfl,?_⟩;obtain⟨T,C,D,B,k,A,hB⟩:=ZS g6 (A7 T C D B k A hB);refine Ze [(1,_),(4,_),(5,_),(6,_),(9,_),(29,_),(30,_),(56,_),(57,_),(68,_)] (nx ?_);refine l_ rfl (λb1=>?_) (λb1=>?_)
       ·rw[if_pos b1] at m;obtain⟨g7,b2,m⟩:=a_ m;obtain⟨g8,d3,m⟩:=a_ m;refine ZW (Bf:=λa8 a9=>Bs oo a8 w a9∧Oz w 3 14 a8 a9 q a7∧Bz w 11 a8 a9 u 28 [ZI f.Labels,ZI f.Degree,N,O]∧RdL a8 a9 N (f.Nodes:Yk)∧RdL a8 a9 O (f.Edges:Yk)∧Bz w 13 a8 a9 d 135 [ZI f.Labels,ZI f.Degree,N,O,E]∧Oz w 3 12 a8 a9 E G) [(1,_),(4,_),(5,_),(6,_),(9,_),(29,_),(30,_),(56,_),(57,_)] (Zrg 69 9) [[],[0],[1],[2],[],[3,4],[5],[],[7]] (Zcn 9) (Zt9 9) [0,0,0,0,0,12,0,0,0] [999] [.inl (ZP d),.inl (ZP d),.inl (.pointer (some ⟨d,0+4,none⟩)),.inl E,.inl (ZI b),.inr (λv o j4=>∃vl,v=adr vl (b.toNat*Rp.sz Int)∧Oz w 3 12 o j4 vl G),.inl (ZI g7),.inl (ZI i),.inl (ZI g8)] ⟨hB,T,B,C,D,k,A⟩ ⟨λ_ _ _ _ _ _ j5 hb ⟨vl,e,h⟩ hs=>⟨vl,e,h.stp hs j5.1 (Ne.symm hb)⟩,trivial⟩ ?_ ?_
        ·refine⟨Dp (h_ rfl),Dp (bH_ rfl),Dp (m_ rfl xo_ rfl wY_),Dq λh=>e_ rfl xa_ (h.2.2.2.2.2.1.cell rfl),Dp (h_ rfl),?_,?_,Dp (h_ rfl),Dp (gL_ rfl rfl d3),trivial⟩
         ·rintro m9 n0 n1 ha ⟨-,-,-,-,-,-,A⟩-;refine Zs ha ?_;refine bT_ A b2 rfl rfl wR_ wS_ ?_;exact⟨_,Stp.refl _ _ _,⟨_,rfl,A⟩⟩
         ·rintro n2 n3 n4 ha- ⟨g9,-⟩;obtain⟨n5,h0,h1⟩:=g9;have ha:=ha.c h0;refine Zs ha ?_;refine bA_ h1 b2 rfl rfl wT_ ?_;intro n6 h2;cases h2
          exact Zx rfl
        rintro _ rfl h3 n7 n8 ha ⟨hB,T,B,C,D,k,A⟩-;refine aH_ ha ?_;refine Zv (wk_ rfl rfl) ?_;obtain⟨n9,d4,m⟩:=a_ m;refine Zo ?_;refine fC_ A d4 rfl rfl wR_ wS_ ?_;intro o0 o1 h4 o2 h5;cases h5
        obtain⟨h6,d5,m⟩:=a_ m;refine Z_ trivial ?_;refine cf_ A h4 d5 rfl (by decide) rfl rfl rfl wS_ rfl ?_;intro o3 h7 h8;obtain⟨T,B,C,D,k,hB⟩:=ZS h8 (A6 T B C D k hB);refine Ze [(1,ZP u),(4,ZP d),(5,ZI b),(6,q),(29,ZI (g.length:Int)),(30,ZI b),(56,ZI f.Labels),(57,ZI i)] (x_ (nx (d_ (Zv (C_ rfl rfl (F_ (by omega) (by omega))) (Zm rfl (Ze [(1,_),(4,_),(5,_),(6,_),(29,_),(30,_),(56,_),(57,_)] (u_ ?_)))))));have h9:=Zj m;subst h9;refine Zk [(1,_),(4,_),(5,_),(6,_),(29,_),(30,_),(56,_),(57,_)] ?_;intro a ha;exact⟨_,(by rw[<-c0];omega),i+1,a7,h6,E,h3,c2,rfl,by omega,ha,hB,T,B,C,D,k,h7⟩
       ·replace m:=ZF b1 m;refine g_ (x_ (nx (d_ (Zv (C_ rfl rfl (F_ (by omega) (by omega))) (Zm rfl (Ze [(1,_),(4,_),(5,_),(6,_),(29,_),(30,_),(56,_),(57,_)] (u_ ?_)))))));have i0:=Zj m;subst i0;refine Zk [(1,_),(4,_),(5,_),(6,_),(29,_),(30,_),(56,_),(57,_)] ?_;intro a ha;exact⟨_,(by rw[<-c0];omega),i+1,a7,G,E,s,c2,rfl,by omega,ha,hB,T,B,C,D,k,A⟩
      ·have i1:=bu_ a6 b9;refine J_ ha ?_;refine Zq (Zv (r_ rfl rfl) (Ze [(1,_),(4,_),(5,_),(6,_),(29,_),(30,_),(56,_),(57,_),(58,_)] (nx (c_ ?_))));refine G_ (Zb (decide_eq_false a6)) ?_;refine s_ ?_;refine n_ (n_ (N_ ?_));refine p_ ?_;refine Zk [(1,_),(4,_),(29,_),(30,_)] ?_;intro a ha;exact⟨a1,G,E,s,i1,ha,hB,B,C,D,k,A⟩
     ·rintro a y ⟨a1,G,E,s,rfl,ha,hB,B,C,D,k,A⟩;dsimp only at M;refine ap_k ha ?_;refine x_ (nx (d_ (Zv (C_ rfl rfl (F_ (by omega) (by omega))) (Zm rfl (Ze [(1,_),(4,_),(29,_),(30,_)] (u_ ?_))))));have i2:=Zj M;subst i2;refine Zk [(1,_),(4,_),(29,_),(30,_)] ?_;intro a ha;exact⟨_,(by rw[<-k4];omega),b+1,G,E,s,k5,rfl,by omega,ha,hB,B,C,D,k,A⟩
     ·exact λ_ _ h=>h.elim
    ·exact λ_ _ h=>h.elim
   ·have i3:=bu_ b7 e6;refine J_ ha ?_;refine Zq (Zv (r_ rfl rfl) (Ze [(1,_),(4,_),(29,_),(30,_),(31,_)] (nx (c_ ?_))));refine G_ (Zb (decide_eq_false b7)) ?_;refine s_ ?_;refine n_ (n_ (N_ ?_));refine p_ ?_;refine Zk [(4,_)] ?_;intro a ha;exact⟨Y,W,I,i3,ha,hB,k,C,D,L⟩
  ·rintro a S ⟨Y,W,I,rfl,ha,hB,k,C,D,L⟩;dsimp only at hF;refine ap_k ha ?_;refine Zn (Zm rfl (Za rfl (Ze [(2,_)] (nx (j_ ?_)))));replace k:=k.frz_ne (j:=12) (by decide);replace C:=C.frz 12;replace D:=D.frz 12;have o4:=L.frzF;replace L:=L.frz;replace hB:=hB.frz 12 (by decide);generalize (frz 12 I)=i4 at*;have i5:=Bx.frzP (x:=(⟨⟨f.Labels,f.Degree,f.Nodes,f.Edges⟩,Y⟩:ar_)) k ⟨_,_,_,rfl,C,D,L⟩;replace hB:=hB.frz 13 (by decide);generalize (frz 13 i4)=i6 at*;have i7:=Zj hF;subst i7;refine Zr Tryz.results102 [ZP d] ?_;exact⟨d,rt oo i6 w.heap.size 9 t,rfl,i5.rt hB 9 t (by decide),hB.keeps,am_ _ _ _ _ _⟩
  ·exact λ_ _ h=>h.elim
 ·exact λ_ _ h=>h.elim
def aQ_(m:Int)(v:Int)(n:Int)(q:List Int)(u:ar_)(self:Int->Int->Int->(List Int)->Int->ar_->Option Int):Int->Int->Option (Lp Int Int Int):=λ(a:Int)(s:Int)=>
  (ix q m)>>=λc=>
  (shr c a)>>=λd=>
  (
    if(band d 1)==1 then
      some (s !=0)
    else
      some false)>>=λf=>
  if f then
    (ck (m+1))>>=λg=>
    (ck (a*n))>>=λi=>
    (ck (v+i))>>=λj=>
    (ck (n*u.p.Labels))>>=λk=>
    (self g j k q s u)>>=λb=>
    some (.go b)
  else
    some (.go s)
def aa_:Nat->Int->Int->Int->(List Int)->Int->ar_->Option Int
  |0=>λ_ _ _ _ _ _=>none
  | fuel+1=>λd f j g i a=>
    if d==(g.length:Int) then
      (ix a.after f)>>=λk=>
      some (band i k)
    else
      ck a.p.Labels>>=λ_=>
      (forN (aQ_ d f j g a (aa_ fuel)) (a.p.Labels).toNat 0 i)>>=λb=>
      match b with
      | .inl c=>
        some c
      | .inr _=>none
def em_(oo o:Tg)(w a:World)(b:Nat)(r:Int):Ending->World->Prop:=λe w'=>∃(o':Tg),e=.returned (.tuple #[])∧Bx w.heap.size 13 o' w' b 3 [.int .i64 r]∧Bs oo o' w w'∧Stp 13 o a o' w'
theorem gJ_(fuel:Nat):∀(w:World)(D:World)(oo o:Tg)(hB:Bs oo o w D)(B:Int)(A:Int)(C:Int)(q:Nat)(J:Value)(Q:Yl)(f:Bx w.heap.size 12 o D q 41 [J])(V:RdL zt w J Q)(k:Nat)(M:Int)(m:Bx w.heap.size 13 o D k 3 [.int .i64 M])(s:Nat)(F:Nat)(S:List Value)(z:ar_)(g:Bx w.heap.size 11 o D s 105 [.pointer (some ⟨F,0,none⟩)])(T:Cells w F 0 S)(Y:Rp.rd zt w S z)(u:Nat)(i:Bx w.heap.size 14 o D u 150 [.func (.func 182) #[] #[.pointer (some ⟨q,0,none⟩),.pointer (some ⟨k,0,none⟩),.pointer (some ⟨s,0,none⟩),.pointer (some ⟨u,0,none⟩)]])(r:Int)(hF:aa_ fuel B A C Q M z=some r),Calls wQ_ 182 #[.int .i64 B,.int .i64 A,.int .i64 C,.pointer (some ⟨q,0,none⟩),.pointer (some ⟨k,0,none⟩),.pointer (some ⟨s,0,none⟩),.pointer (some ⟨u,0,none⟩)] D (em_ oo o w D k r):=by
 induction fuel with
 |zero=>
  intro w D oo o hB B A C q J Q f V k M m s F S z g T Y u i r hF;unfold aa_ at hF;cases hF
 | succ fuel ih=>
  suffices H:∀(w:World)(D:World)(oo o:Tg)(hB:Bs oo o w D)(B:Int)(A:Int)(C:Int)(q:Nat)(J:Value)(Q:Yl)(f:Bz w 12 o D q 41 [J])(V:RdL zt w J Q)(k:Nat)(M:Int)(m:Bz w 13 o D k 3 [ZI M])(s:Nat)(F:Nat)(S:List Value)(z:ar_)(g:Bz w 11 o D s 105 [ZP F])(T:Cells w F 0 S)(Y:Rp.rd zt w S z)(u:Nat)(i:Bz w 14 o D u 150 [.func (.func 182) #[] #[ZP q,ZP k,ZP s,ZP u]])(r:Int)(hF:aa_ (fuel+1) B A C Q M z=some r)(hO:∀b,b<D.heap.size->o b≠999),Calls wQ_ 182 #[ZI B,ZI A,ZI C,ZP q,ZP k,ZP s,ZP u] D (em_ oo o w D k r) by
   intro w D oo o hB B A C q J Q f V k M m s F S z g T Y u i r hF;have hm:=uc_ o D (lo:=999) (by decide);refine (H w D oo (prg 999 o) (hB.mvr hm (by decide)) B A C q J Q (f.mvr hm (by decide)) V k M (m.mvr hm (by decide)) s F S z (g.mvr hm (by decide)) T Y u (i.mvr hm (by decide)) r hF λb _=>wK_ (by decide) o b).mono ?_;rintro e w' ⟨o',f2,e7,f3,d1⟩;have hk:=su_ (w':=w') (lo:=999) (by decide) d1.own;exact⟨bck o D o',f2,e7.mvr hk (by decide),f3.mvr hk (by decide),d1.bckS (by decide) (by decide)⟩
  intro w D oo o hB B A C q J Q f V k M m s F S z g T Y u i r hF hO;unfold aa_ at hF;have g5k:=Y;obtain⟨h8,h9,i0,rfl,e7,d1,f4⟩:=Y;have hS:Stp 13 o D o D:=Stp.refl _ _ _;refine i_ (n:=61) (vs:=[ZI B,ZI A,ZI C,ZP q,ZP k,ZP s,ZP u]) Tryz.func182 rfl rfl ?_;refine c_ (Zq (Zm rfl (Zv (e_ rfl xa_ (f.cell rfl)) (Zv (B_ rfl V wR_) (Zv (cD_ rfl rfl) (Ze [(0,_),(1,_),(2,_),(3,_),(4,_),(5,_),(6,_),(14,_)] (nx ?_)))))));refine l_ rfl (λd2=>?_) (λd2=>?_)
  ·rw[if_pos d2] at hF;refine c_ ?_;obtain⟨e8,a5,hF⟩:=a_ hF;refine ZW (Bf:=λN O=>Bs oo N w O∧Stp 13 o D N O∧Bz w 14 N O u 150 [.func (.func 182) #[] #[ZP q,ZP k,ZP s,ZP u]]∧Bz w 11 N O s 105 [ZP F]∧Bz w 13 N O k 3 [ZI M]∧Bz w 12 N O q 41 [J]) [(1,_),(4,_),(5,_)] (Zrg 15 8) [[],[],[1],[2],[3],[],[4,5],[6]] (Zcn 8) (Zt9 8) (Zt0 8) [999] [.inl (ZI M),.inl (ZP F),.inl (ZP F),.inl (.pointer (some ⟨F,0+4,none⟩)),.inr (λv o f5=>RdL zt w v (z.after:Yl)),.inl (ZI A),.inr (λv o f5=>∃vl,v=adr vl (A.toNat*Rp.sz Int)∧RdL zt w vl (z.after:Yl)),.inl (ZI e8)] ⟨hB,hS,i,g,m,f⟩ ⟨λ_ _ _ _ _ _ f6 hb h hs=>h,λ_ _ _ _ _ _ f6 hb ⟨vl,e,h⟩ hs=>⟨vl,e,h⟩,trivial⟩ ?_ ?_
   ·refine⟨Dq λh=>e_ rfl wT_ (h.2.2.2.2.1.cell rfl),Dq λh=>e_ rfl xR_ (h.2.2.2.1.cell rfl),Dp (bH_ rfl),Dp (m_ rfl xo_ rfl wY_),?_,Dp (h_ rfl),?_,?_,trivial⟩
    ·rintro f7 f8 f9 ha ⟨hB,-⟩-;refine Zs ha ?_;refine M_ (e_ rfl xa_ ((T.keep hB.keeps) 4 _ rfl)) ?_;exact⟨_,Stp.refl _ _ _,f4⟩
    ·rintro g0 g1 a6 ha- ⟨R,-⟩;replace R:RdL zt w (a6.tmps.getD 19 undef) (z.after:Yl):=R;generalize d3:a6.tmps.getD 19 undef=g2 at R;have ha:=ha.c d3;refine Zs ha ?_;refine ae_ R a5 rfl rfl wR_ wS_ ?_;exact⟨_,Stp.refl _ _ _,⟨_,rfl,R⟩⟩
    ·rintro g3 g4 g5 ha ⟨hB,-⟩ ⟨d4,-⟩;obtain⟨g6,d5,d6⟩:=d4;have ha:=ha.c d5;refine Zs ha ?_;refine bB_ d6 a5 hB rfl rfl wT_ ?_;intro g7 d7;cases d7
     exact Zx rfl
   rintro _ rfl a7 g8 g9 ha ⟨hB,hS,i,g,m,f⟩-;refine aH_ ha ?_;refine Zv (jY_ rfl rfl) ?_;refine Z_ trivial ?_;refine bl_ m rfl rfl (of_decide_eq_true rfl) wS_ rfl rfl ?_;intro d8 Z a8;replace hS:=hS.trans a8;obtain⟨f,g,i,hB⟩:=ZS a8 (A4 f g i hB);replace Z:Bz w 13 a7 d8 k 3 [ZI (band M e8)]:=Z;refine Ze [] (nx (j_ (y_ ?_)));have d9:=Zj hF;subst d9;refine D_ (P:=wQ_) (vs:=[]) zH_ trivial ?_;exact⟨a7,rfl,Z,hB,hS⟩
  ·replace hF:=ZF d2 hF;refine g_ (Zn (Zv (e_ rfl xR_ (g.cell rfl)) (Zv (bH_ rfl) (Zv (m_ rfl xo_ rfl wU_) (Zv (m_ rfl wW_ rfl wS_) (Zv (e_ rfl wT_ ((T.keep hB.keeps) 0 _ rfl)) (Zm rfl (Ze [(0,_),(1,_),(2,_),(3,_),(4,_),(5,_),(6,_),(28,_),(29,_)] (nx ?_)))))))));obtain⟨h0,e0,hF⟩:=a_ hF;obtain⟨-,h62a,h62b⟩:=bV_ e0;obtain⟨a9,b0,hF⟩:=a_ hF;refine v_ (λa y=>∃(E:Int),∃(x:Tg),a9=.inl E∧Fr a 61 []∧Bs oo x w y∧Stp 13 o D x y∧Bz w 14 x y u 150 [.func (.func 182) #[] #[ZP q,ZP k,ZP s,ZP u]]∧Bz w 11 x y s 105 [ZP F]∧Bz w 13 x y k 3 [ZI E]∧Bz w 12 x y q 41 [J]) (λ_ _=>False) ?_ ?_ ?_
   ·refine f_ ?_;refine w_ (λ(K:Nat) a y=>∃(d:Int)(E:Int),∃(x:Tg),forN (aQ_ B A C Q z (aa_ fuel)) (z.p.Labels-d).toNat d E=some a9∧(z.p.Labels-d).toNat=K∧0<=d∧Fr a 61 [(0,ZI B),(1,ZI A),(2,ZI C),(3,ZP q),(4,ZP k),(5,ZP s),(6,ZP u),(28,ZI z.p.Labels),(29,ZI d)]∧Bs oo x w y∧Stp 13 o D x y∧Bz w 14 x y u 150 [.func (.func 182) #[] #[ZP q,ZP k,ZP s,ZP u]]∧Bz w 11 x y s 105 [ZP F]∧Bz w 13 x y k 3 [ZI E]∧Bz w 12 x y q 41 [J]) _ (λa ha=>⟨0,M,o,(by rw[Int.sub_zero];exact b0),rfl,Int.le_refl 0,ha.sb,hB,hS,i,g,m,f⟩) ?_;rintro K67 a y ⟨d,E,x,b1,b2,h1,ha,hB,hS,i,g,m,f⟩;by_cases U:d<z.p.Labels
    ·obtain⟨h2,j,b3⟩:=bv_ U b1;dsimp only[aQ_] at j;refine J_ ha ?_;refine Zq (Zv (r_ rfl rfl) (Ze [(0,_),(1,_),(2,_),(3,_),(4,_),(5,_),(6,_),(28,_),(29,_),(30,_)] (nx (c_ ?_))));refine L_ (Zb (decide_eq_true U)) ?_;refine g_ (nx (c_ (f_ (Zq (Zm rfl (Za rfl (Ze [(0,_),(1,_),(2,_),(3,_),(4,_),(5,_),(6,_),(10,_),(28,_),(29,_)] (Zn (Zv (e_ rfl xa_ (f.cell rfl)) (Zm rfl ?_))))))))));obtain⟨h3,b4,j⟩:=a_ j;refine Zo ?_;refine wf_atZ V b4 hB rfl rfl wR_ wS_ ?_;intro h4 h5 h6 e1 e2;cases e2
     refine Zv (e_ rfl wT_ (k_ e1)) (Zm rfl ?_);obtain⟨e3,b5,j⟩:=a_ j;refine Zv (qS_ rfl rfl b5) (Zv (jY_ rfl rfl) (Zv (cD_ rfl rfl) (Zm rfl ?_)));obtain⟨b6,L,j⟩:=a_ j;refine bc_ 3 (λe4 b7=>Fr e4 61 [(0,ZI B),(1,ZI A),(2,ZI C),(3,ZP q),(4,ZP k),(5,ZP s),(6,ZP u),(10,ZI d),(28,ZI z.p.Labels),(29,ZI d),(43,.bool b6)]∧Keeps y b7) ?_ ?_;all_goals simp only[List.take_succ_cons,List.take_zero,List.drop_succ_cons,List.drop_zero]
     ·have kp:Keeps y y:=Keeps.refl _;rcases Bool.eq_false_or_eq_true ((band e3 1)==1) with G|G
      ·rw[if_pos G] at L;refine q_ (e_ rfl wT_ (m.cell rfl)) (by decide) ⟨_,rfl,Zb G⟩ (q_ (bR_ rfl rfl) (by decide) ⟨_,rfl,Zb G⟩ (Zv (P_ (Zb G) rfl) ?_));have I:=Zj L;refine Ze [(0,_),(1,_),(2,_),(3,_),(4,_),(5,_),(6,_),(10,_),(28,_),(29,_),(43,_)] ?_;subst I;refine p_ (λa ha=>⟨ha,kp⟩)
      ·replace L:=ZF G L;refine A_ rfl rfl (by rw[G];rfl) (by decide) ?_;refine A_ rfl rfl (by rw[G];rfl) (by decide) ?_;refine Zv (I_ (Zb G) rfl) ?_;have I:=Zj L;refine Ze [(0,_),(1,_),(2,_),(3,_),(4,_),(5,_),(6,_),(10,_),(28,_),(29,_),(43,_)] ?_;subst I;refine p_ (λa ha=>⟨ha,kp⟩)
     rintro h7 b7 ⟨ha,e5⟩;have b8:=e5.stp 999 x;replace hS:=hS.trq hO b8;obtain⟨f,m,g,i,hB⟩:=ZS b8 (A5 f m g i hB);refine aH_ ha ?_;refine Ze [(0,_),(1,_),(2,_),(3,_),(4,_),(5,_),(6,_),(10,_),(28,_),(29,_),(43,_)] (nx ?_);refine l_ rfl (λa0=>?_) (λa0=>?_)
     ·rw[if_pos a0] at j;obtain⟨a1,b9,j⟩:=a_ j;obtain⟨e6,c0,j⟩:=a_ j;obtain⟨a2,c1,j⟩:=a_ j;obtain⟨a3,c2,j⟩:=a_ j;refine ZW (Bf:=λN O=>Bs oo N w O∧Stp 13 o D N O∧Bz w 14 N O u 150 [.func (.func 182) #[] #[ZP q,ZP k,ZP s,ZP u]]∧Bz w 11 N O s 105 [ZP F]∧Bz w 13 N O k 3 [ZI E]∧Bz w 12 N O q 41 [J]) [(0,_),(1,_),(2,_),(3,_),(4,_),(5,_),(6,_),(10,_),(28,_),(29,_)] (Zrg 44 15) [[],[],[1],[],[],[],[4,5],[3,6],[],[],[9],[10],[11],[12],[8,13]] (Zcn 15) (Zt9 15) (Zt0 15) [999] [.inl (.func (.func 182) #[] #[ZP q,ZP k,ZP s,ZP u]),.inl (ZI B),.inl (ZI a1),.inl (ZI A),.inl (ZI d),.inl (ZI C),.inl (ZI e6),.inl (ZI a2),.inl (ZI C),.inl (ZP F),.inl (ZP F),.inl (.pointer (some ⟨F,0+0,none⟩)),.inl (.pointer (some ⟨F,0+0+0,none⟩)),.inl (ZI z.p.Labels),.inl (ZI a3)] ⟨hB,hS,i,g,m,f⟩ trivial ?_ ?_
      ·exact⟨Dq λh=>e_ rfl zI_ (h.2.2.1.cell rfl),Dp (h_ rfl),Dp (C_ rfl rfl b9),Dp (h_ rfl),Dp (h_ rfl),Dp (h_ rfl),Dp (kb_ rfl rfl c0),Dp (C_ rfl rfl c1),Dp (h_ rfl),Dq λh=>e_ rfl xR_ (h.2.2.2.1.cell rfl),Dp (bH_ rfl),Dp (m_ rfl xo_ rfl wU_),Dp (m_ rfl wW_ rfl wS_),Dq λh=>e_ rfl wT_ ((T.keep h.1.keeps) 0 _ rfl),Dp (kb_ rfl rfl c2),trivial⟩
      rintro _ rfl c3 c4 e9 ha ⟨hB,hS,i,g,m,f⟩-;refine aH_ ha ?_;obtain⟨W,a4,j⟩:=a_ j;refine Zo ?_;refine kv_ (vs:=[ZI a1,ZI a2,ZI a3]) (cap:=[ZP q,ZP k,ZP s,ZP u]) (ih w c4 oo c3 hB a1 a2 a3 q J Q f V k E m s F _ z g T g5k u i W a4) zJ_ rfl ⟨rfl,rfl,rfl,trivial⟩ ?_;rintro f0 f1 ⟨c5,rfl,c6,-,X⟩;refine⟨_,rfl,?_⟩;replace hS:=hS.trans X;obtain⟨f,g,i,hB⟩:=ZS X (A4 f g i hB);refine Ze [(0,ZI B),(1,ZI A),(2,ZI C),(3,ZP q),(4,ZP k),(5,ZP s),(6,ZP u),(28,ZI z.p.Labels),(29,ZI d)] (x_ (nx (d_ (Zv (C_ rfl rfl (F_ (by omega) (by omega))) (Zm rfl (Ze [(0,_),(1,_),(2,_),(3,_),(4,_),(5,_),(6,_),(28,_),(29,_)] (u_ ?_)))))));have c7:=Zj j;subst c7;refine Zk [(0,_),(1,_),(2,_),(3,_),(4,_),(5,_),(6,_),(28,_),(29,_)] ?_;intro a ha;exact⟨_,(by rw[<-b2];omega),d+1,W,c5,b3,rfl,by omega,ha,hB,hS,i,g,c6,f⟩
     ·replace j:=ZF a0 j;refine g_ (x_ (nx (d_ (Zv (C_ rfl rfl (F_ (by omega) (by omega))) (Zm rfl (Ze [(0,_),(1,_),(2,_),(3,_),(4,_),(5,_),(6,_),(28,_),(29,_)] (u_ ?_)))))));have c8:=Zj j;subst c8;refine Zk [(0,_),(1,_),(2,_),(3,_),(4,_),(5,_),(6,_),(28,_),(29,_)] ?_;intro a ha;exact⟨_,(by rw[<-b2];omega),d+1,E,x,b3,rfl,by omega,ha,hB,hS,i,g,m,f⟩
    ·have c9:=bu_ U b1;refine J_ ha ?_;refine Zq (Zv (r_ rfl rfl) (Ze [(0,_),(1,_),(2,_),(3,_),(4,_),(5,_),(6,_),(28,_),(29,_),(30,_)] (nx (c_ ?_))));refine G_ (Zb (decide_eq_false U)) ?_;refine s_ ?_;refine n_ (n_ (N_ ?_));refine p_ ?_;refine Zk [] ?_;intro a ha;exact⟨E,x,c9,ha,hB,hS,i,g,m,f⟩
   ·rintro a y ⟨E,x,rfl,ha,hB,hS,i,g,m,f⟩;dsimp only at hF;refine ap_k ha ?_;have d0:=Zj hF;subst d0;refine nJ_ (P:=wQ_) (vs:=[]) zH_ trivial ?_;exact⟨x,rfl,m,hB,hS⟩
   ·exact λ_ _ h=>h.elim
def bk_(fuel:Nat)(d:ar_)(f:List Int):Option Int:=
  (shl 1 d.p.Labels)>>=λa=>
  (ck (a-1))>>=λb=>
  (aa_ fuel 0 0 1 f b d)>>=λc=>
  some c
def hy_(w:World)(r:Int):Ending->World->Prop:=λe w'=>e=.returned (.int .i64 r)∧Keeps w w'
theorem eP_(fuel:Nat)(w:World)(m:Nat)(Q:List Value)(B:ar_)(R:Cells w m 0 Q)(S:Rp.rd zt w Q B)(q:Value)(C:Yl)(T:RdL zt w q C)(r:Int)(hF:bk_ fuel B C=some r):
    Calls wQ_ 151 #[.pointer (some ⟨m,0,none⟩),q] w (hy_ w r):=by
 unfold bk_ at hF;have g0k:=S;obtain⟨a2,a3,a4,rfl,a5,a6,a7⟩:=S;have hB:Bs (λ_=>1) (col (λ_=>1)) w w:=Bs.start _ _;refine i_ (n:=18) (vs:=[ZP m,q]) Tryz.func151 rfl rfl ?_;refine Zq (Zo ?_);refine as_ (o:=(col (λ_=>1))) w.heap.size 11 hB.keeps.size (cs:=[ZP m]) rfl rfl ?_;intro U a8 j a D;replace hB:=hB.stp D;refine Zo ?_;refine as_ (o:=U) w.heap.size 12 hB.keeps.size (cs:=[q]) T.cells1 rfl ?_;intro E V d b F;obtain⟨a,hB⟩:=ZS F (A2 a hB);refine Za rfl (Ze [(2,_),(3,_)] (Zn (Zv (e_ rfl xR_ (a.cell rfl)) (Zv (bH_ rfl) (Zv (m_ rfl xo_ rfl wU_) (Zv (m_ rfl wW_ rfl wS_) (Zv (e_ rfl wT_ ((R.keep hB.keeps) 0 _ rfl)) ?_)))))));obtain⟨W,s,hF⟩:=a_ hF;refine Zv (gL_ rfl rfl s) ?_;obtain⟨u,v,hF⟩:=a_ hF;refine Zv (bs_ rfl rfl v) (Zo ?_);refine av_ (o:=E) w.heap.size 13 hB.keeps.size (cs:=[ZI 0]) xd_ rfl ?_;intro x X c G H;obtain⟨a,b,hB⟩:=ZS H (A3 a b hB);refine Z_ trivial ?_;refine bl_ G rfl rfl (of_decide_eq_true rfl) wS_ rfl rfl ?_;intro I f J;obtain⟨a,b,hB⟩:=ZS J (A3 a b hB);replace f:Bz w 13 x I c 3 [ZI u]:=f;refine Ze [(2,_),(3,_),(5,_)] (Zn (Zo ?_));refine av_ (o:=x) w.heap.size 14 hB.keeps.size (cs:=[.nilFunc]) Tryz.zeroValue150 rfl ?_;intro y Y g K L;obtain⟨a,b,f,hB⟩:=ZS L (A4 a b f hB);refine Ze [(2,_),(3,_),(5,_),(6,_)] (Zn (Zv (gU_ (vs:=[ZP d,ZP c,ZP j,ZP g]) ⟨rfl,rfl,rfl,rfl,trivial⟩) ?_));refine Z_ trivial ?_;refine bl_ K rfl rfl (of_decide_eq_true rfl) Tryz.sizeOf150 rfl rfl ?_;intro z i M;obtain⟨a,b,f,hB⟩:=ZS M (A4 a b f hB);replace i:Bz w 14 y z g 150 [.func (.func 182) #[] #[ZP d,ZP c,ZP j,ZP g]]:=i;refine Ze [(5,_),(6,_)] (Zn (Zv (e_ rfl zI_ (i.cell rfl)) ?_));obtain⟨k,A,hF⟩:=a_ hF;refine Zo ?_;refine kv_ (vs:=[ZI 0,ZI 0,ZI 1]) (cap:=[ZP d,ZP c,ZP j,ZP g]) (gJ_ fuel w z (λ_=>1) y hB 0 0 1 d q C b T c u f j m _ B a R g0k g i k A) zJ_ rfl ⟨rfl,rfl,rfl,trivial⟩ ?_;rintro Z a0 ⟨a1,rfl,N,-,O⟩;refine⟨_,rfl,?_⟩;replace hB:=hB.stp O;refine Ze [(5,_)] (Zn (Zv (e_ rfl wT_ (N.cell rfl)) (Za rfl (Ze [(4,_)] (nx (j_ ?_))))));have P:=Zj hF;subst P;refine Zr Tryz.results151 [ZI k] ?_;exact⟨rfl,hB.keeps⟩
def bt_(fuel:Nat)(j:ar_)(i:List Int):Int->Unit->Option (Lp Unit Unit Bool):=λ(a:Int)(s:Unit)=>
  (at_ i)>>=λb=>
  (ck (a+1))>>=λc=>
  (delO b a c)>>=λd=>
  (bk_ fuel j d)>>=λf=>
  (ix i a)>>=λg=>
  if f !=g then
    some (.ret false)
  else
    some (.go ())
def cp_(fuel:Nat)(c:ar_)(a:List Int):Option Bool:=
  ck (a.length:Int)>>=λ_=>
  (forN (bt_ fuel c a) ((a.length:Int)).toNat 0 ())>>=λb=>
  match b with
  | .inl _=>
    some true
  | .inr r'=>some r'
def gi_(w:World)(r:Bool):Ending->World->Prop:=λe w'=>e=.returned (.bool r)∧Keeps w w'
theorem iR_(fuel:Nat)(w:World)(g:Nat)(c3:List Value)(a4:ar_)(d5:Cells w g 0 c3)(c4:Rp.rd zt w c3 a4)(i:Value)(f:Yl)(a5:RdL zt w i f)(r:Bool)(hF:cp_ fuel a4 f=some r):
    Calls wQ_ 152 #[.pointer (some ⟨g,0,none⟩),i] w (gi_ w r):=by
 unfold cp_ at hF;have g0k:=c4;obtain⟨f2,f3,f4,rfl,f5,f6,f7⟩:=c4;have hB:Bs (λ_=>1) (col (λ_=>1)) w w:=Bs.start _ _;refine i_ (n:=25) (vs:=[ZP g,i]) Tryz.func152 rfl rfl ?_;refine Zq (Za rfl (Ze [(0,_),(1,_)] (nx (c_ (Zq (Zm rfl (Zv (B_ rfl a5 wR_) (Zm rfl (Ze [(0,_),(1,_),(7,_),(8,_)] (nx ?_))))))))));obtain⟨d6,a8,hF⟩:=a_ hF;obtain⟨-,h11a,h11b⟩:=bV_ a8;obtain⟨x,E,hF⟩:=a_ hF;refine v_ (λa s=>∃(D:Tg),x=.inl ()∧Fr a 25 []∧Bs (λ_=>1) D w s) (λa w'=>∃r',x=.inr r'∧bodyPost wQ_ Tryz.f152 (gi_ w r') .ret a w') ?_ ?_ ?_
 ·refine f_ ?_;refine w_ (λ(K:Nat) a s=>∃(d:Int),∃(D:Tg),forN (bt_ fuel a4 f) ((f.length:Int)-d).toNat d ()=some x∧((f.length:Int)-d).toNat=K∧0<=d∧Fr a 25 [(0,ZP g),(1,i),(7,ZI (f.length:Int)),(8,ZI d)]∧Bs (λ_=>1) D w s) _ (λa ha=>⟨0,col (λ_=>1),(by rw[Int.sub_zero];exact E),rfl,Int.le_refl 0,ha.sb,hB⟩) ?_;rintro K16 a s ⟨d,D,F,a9,d7,ha,hB⟩;by_cases m:d<(f.length:Int)
  ·obtain⟨d8,b,G⟩:=bv_ m F;dsimp only[bt_] at b;refine J_ ha ?_;refine Zq (Zv (r_ rfl rfl) (Ze [(0,_),(1,_),(7,_),(8,_),(9,_)] (nx (c_ ?_))));refine L_ (Zb (decide_eq_true m)) ?_;refine g_ (nx (c_ (f_ (Zq (Zm rfl (Za rfl (Ze [(0,_),(1,_),(5,_),(7,_),(8,_)] (nx (c_ ?_)))))))));obtain⟨y,H,b⟩:=a_ b;obtain⟨b0,I,b⟩:=a_ b;obtain⟨A,J,b⟩:=a_ b;obtain⟨B,L,b⟩:=a_ b;obtain⟨M,u,b⟩:=a_ b;refine ZW (Bf:=λd9 s=>Bs (λ_=>1) d9 w s) [(0,_),(1,_),(5,_),(7,_),(8,_)] (Zrg 11 12) [[],[],[1],[],[],[4],[2,3,5],[0,6],[],[],[8,9],[10]] [none,none,some 6,none,none,none,none,none,none,none,none,none] [999,999,999,999,999,999,11,999,999,999,999,999] [0,0,11,0,0,0,11,0,0,0,0,0] [11,999] [.inl (ZP g),.inl i,.inr (λv o a6=>Oz w 3 11 o a6 v y),.inl (ZI d),.inl (ZI d),.inl (ZI b0),.inr (λv o a6=>Oz w 3 11 o a6 v A),.inl (ZI B),.inl i,.inl (ZI d),.inr (λv o a6=>∃vl,v=adr vl (d.toNat*Rp.sz Int)∧RdL zt w vl f),.inl (ZI M)] hB ⟨λ_ _ _ _ _ _ a7 hb h hs=>h.stp hs a7.1 (Ne.symm hb),λ_ _ _ _ _ _ a7 hb h hs=>h.stp hs a7.1 (Ne.symm hb),λ_ _ _ _ _ _ a7 hb ⟨vl,e,h⟩ hs=>⟨vl,e,h⟩,trivial⟩ ?_ ?_
   ·refine⟨Dp (h_ rfl),Dp (h_ rfl),?_,Dp (h_ rfl),Dp (h_ rfl),Dp (C_ rfl rfl I),?_,?_,Dp (h_ rfl),Dp (h_ rfl),?_,?_,trivial⟩
    ·rintro b1 b2 e0 ha hB-;refine Zs ha ?_;refine o_ (bU_ b2 b1 11 (by decide) _ f (a5.keep hB.keeps) y H) xS_ ⟨rfl,trivial⟩ ?_;rintro e1 e2 ⟨e3,e4,rfl,C,b3,b4⟩;have b5:=b3.stp' 999 b4;replace C:=C.mono hB.keeps.size;refine⟨_,rfl,?_⟩;exact⟨_,b5,C⟩
    ·rintro b6 b7 N ha hB ⟨q,-⟩;replace q:Oz w 3 11 b6 b7 (N.tmps.getD 13 undef) y:=q;generalize b8:N.tmps.getD 13 undef=e5 at q;have ha:=ha.c b8;refine Zs ha ?_;refine o_ (tC_ q J) Tryz.call134 ⟨rfl,rfl,rfl,trivial⟩ ?_;rintro e6 e7 ⟨e8,rfl,b9,c0⟩;refine⟨_,rfl,?_⟩;exact⟨_,c0,b9⟩
    ·rintro O Q R ha hB ⟨j,-⟩;replace j:Oz w 3 11 O Q (R.tmps.getD 17 undef) A:=j;generalize c1:R.tmps.getD 17 undef=e9 at j;have ha:=ha.c c1;refine Zs ha ?_;refine o_ (eP_ fuel Q g _ a4 (d5.keep hB.keeps) (Rp.keep g0k hB.keeps) _ A j.z B L) Tryz.call151 ⟨rfl,rfl,trivial⟩ ?_;rintro f0 f1 ⟨rfl,c2⟩;have S:=c2.stp 999 O;refine⟨_,rfl,?_⟩;replace j:=j.stp S;exact⟨_,S,rfl⟩
    ·rintro c5 c6 c7 ha- -;refine Zs ha ?_;refine ae_ a5 u rfl rfl wR_ wS_ ?_;exact⟨_,Stp.refl _ _ _,⟨_,rfl,a5⟩⟩
    ·rintro c8 c9 d0 ha hB ⟨T,-⟩;obtain⟨d1,U,V⟩:=T;have ha:=ha.c U;refine Zs ha ?_;refine bB_ V u hB rfl rfl wT_ ?_;intro d2 W;cases W
     exact Zx rfl
   rintro _ rfl X d3 d4 ha hB-;refine aH_ ha ?_;refine Zv (bR_ rfl rfl) (Ze [(0,_),(1,_),(7,_),(8,_),(23,_)] (nx ?_));refine l_ rfl (λk=>?_) (λk=>?_)
   ·rw[if_pos k] at b;refine Zq (Za rfl (Ze [(4,_)] (nx (j_ (W_ (y_ (y_ (W_ ?_))))))));refine bg_ ?_;have Y:=Zj b;subst Y;refine λa ha=>⟨_,G,?_⟩;refine D_ (P:=wQ_) (vs:=[.bool false]) zL_ ⟨rfl,trivial⟩ ?_ a ha;exact⟨rfl,hB.keeps⟩
   ·replace b:=ZF k b;refine g_ (x_ (nx (d_ (Zv (C_ rfl rfl (F_ (by omega) (by omega))) (Zm rfl (Ze [(0,_),(1,_),(7,_),(8,_)] (u_ ?_)))))));have Z:=Zj b;subst Z;refine Zk [(0,_),(1,_),(7,_),(8,_)] ?_;intro a ha;exact⟨_,(by rw[<-a9];omega),d+1,X,G,rfl,by omega,ha,hB⟩
  ·have a0:=bu_ m F;refine J_ ha ?_;refine Zq (Zv (r_ rfl rfl) (Ze [(0,_),(1,_),(7,_),(8,_),(9,_)] (nx (c_ ?_))));refine G_ (Zb (decide_eq_false m)) ?_;refine s_ ?_;refine n_ (n_ (N_ ?_));refine p_ ?_;refine Zk [] ?_;intro a ha;exact⟨D,a0,ha,hB⟩
 ·rintro a s ⟨D,rfl,ha,hB⟩;dsimp only at hF;refine ap_k ha ?_;refine Zn (Za rfl (Ze [(4,_)] (nx (j_ ?_))));have a1:=Zj hF;subst a1;refine Zr zL_ [.bool true] ?_;exact⟨rfl,hB.keeps⟩
 ·rintro a s ⟨r',rfl,a2⟩;dsimp only at hF;have a3:=Zj hF;subst a3;exact a2
def cY_(g:Int)(c:List Int):((List (List Int))×Int)->Option (Lp ((List (List Int))×Int) ((List (List Int))×Int) (List (List Int))):=λ(s:(List (List Int))×Int)=>
  if decide (s.2<g) then
    (at_ c)>>=λd=>
    (push d s.2)>>=λf=>
    (push s.1 f)>>=λa=>
    (ck (s.2+1))>>=λb=>
    some (.go (a,b))
  else
    some (.out (s.1,s.2))
def cd_(g:Int)(f:List Int):((List (List Int))×Int)->Option (Lp ((List (List Int))×Int) ((List (List Int))×Int) (List (List Int))):=λ(s:(List (List Int))×Int)=>
  if decide (s.2<g) then
    (at_ f)>>=λa=>
    (push a s.2)>>=λb=>
    (push s.1 b)>>=λc=>
    (ck (s.2+1))>>=λd=>
    some (.go (c,d))
  else
    some (.out (s.1,s.2))
def dA_(fuel:Nat)(j:Int):Int->(List Int)->(List (List Int))->Option (Lp (List (List Int)) (List (List Int)) (List (List Int))):=λ(m:Int)(a:List Int)(s:List (List Int))=>
  if decide ((a.length:Int)>0) then
    (ck ((a.length:Int)-1))>>=λd=>
    (ix a d)>>=λf=>
    (loopF (cY_ j a) fuel (s,f))>>=λg=>
    match g with
    | .inl (i,n)=>
      some (.go i)
    | .inr _=>none
  else
    (loopF (cd_ j a) fuel (s,0))>>=λb=>
    match b with
    | .inl (c,k)=>
      some (.go c)
    | .inr _=>none
def cP_(fuel:Nat)(c:Int):Int->(List (List Int))->Option (Lp (List (List Int)) (List (List Int)) (List (List Int))):=λ(d:Int)(s:List (List Int))=>
  (forI (dA_ fuel c) s 0 [])>>=λa=>
  match a with
  | .inl b=>
    some (.go b)
  | .inr _=>none
def eq_(fuel:Nat)(c:Int)(b:Int):Option (List (List Int)):=
  ck b>>=λ_=>
  (forN (cP_ fuel c) (b).toNat 0 ([[]]:List (List Int)))>>=λa=>
  match a with
  | .inl d=>
    some d
  | .inr _=>none
def oB_(oo:Tg)(t:Nat)(w:World)(r:Yk):Ending->World->Prop:=λe w'=>∃(a:Value)(c:List Hv)(o':Tg),e=.returned (a)∧Ow w.heap.size 41 t o' w' a c∧Rws w.heap.size 3 (t+1) o' w' c r∧Keeps w w'∧∀b,b<w.heap.size->o' b=oo b
theorem kc_(fuel:Nat)(w:World)(oo:Tg)(t:Nat)(ht:2<=t)(f:Int)(g:Int)(r:Yk)(hF:eq_ fuel f g=some r):
    Calls wQ_ 146 #[.int .i64 f,.int .i64 g] w (oB_ oo t w r):=by
 unfold eq_ at hF;have hB:Bs oo (col oo) w w:=Bs.start _ _;refine i_ (n:=48) (vs:=[ZI f,ZI g]) Tryz.func146 rfl rfl ?_;generalize col oo=o at*;refine Zq (Za rfl (Ze [(0,_),(1,_)] (Zn (Zo ?_))));refine hu_ w.heap.size 11 hB.keeps.size (o:=o) (cs:=[.slice none 0 0]) (xs:=([⟨.slice none 0 0⟩]:List Hv)) (vs:=[(0,.slice none 0 0)]) ⟨_,_,rfl,show Rp.rd o w [.slice none 0 0] (⟨.slice none 0 0⟩:Hv) from ⟨rfl,rfl⟩,rfl⟩ rfl ⟨rfl,rfl,trivial⟩ wV_ wY_ xe_ (by decide) (fill1 rfl) (by simp) ?_;intro l0 n2 i9 n3 n4;replace hB:=hB.stp n4;have n5:Rq w 3 12 l0 n2 [⟨.slice none 0 0⟩] ([[]]:Yk):=Rws.make _ _ _ _ _ 1;refine Za rfl (Ze [(0,_),(1,_),(5,_)] (nx (c_ (Zq (Zm rfl (Zm rfl (Ze [(0,_),(5,_),(12,_),(13,_)] (nx ?_))))))));obtain⟨n6,j0,hF⟩:=a_ hF;obtain⟨-,h16a,h16b⟩:=bV_ j0;obtain⟨d6,d7,hF⟩:=a_ hF;refine v_ (λa T=>∃s j B J,d6=.inl s∧Fr a 48 [(5,j)]∧Bs oo J w T∧Oz w 41 11 J T j B∧Rq w 3 12 J T B s) (λ_ _=>False) ?_ ?_ ?_
 ·refine f_ ?_;refine w_ (λ(K:Nat) a T=>∃(b:Int),∃s j B J,forN (cP_ fuel f) (g-b).toNat b s=some d6∧(g-b).toNat=K∧0<=b∧Fr a 48 [(0,ZI f),(5,j),(12,ZI g),(13,ZI b)]∧Bs oo J w T∧Oz w 41 11 J T j B∧Rq w 3 12 J T B s) _ (λa ha=>⟨0,([[]]:Yk),i9,([⟨.slice none 0 0⟩]:List Hv),l0,(by rw[Int.sub_zero];exact d7),rfl,Int.le_refl 0,ha.sb,hB,n3,n5⟩) ?_;rintro K21 a T ⟨b,s,j,B,J,d8,j1,n7,ha,hB,u,c⟩;by_cases b8:b<g
  ·obtain⟨n8,a8,j2⟩:=bv_ b8 d8;dsimp only[cP_] at a8;refine J_ ha ?_;refine Zq (Zv (r_ rfl rfl) (Ze [(0,_),(5,_),(12,_),(13,_),(14,_)] (nx (c_ ?_))));refine L_ (Zb (decide_eq_true b8)) ?_;refine g_ (nx (c_ (f_ (Zq (Za rfl (Ze [(0,_),(5,_),(6,_),(12,_),(13,_)] (nx (c_ (Zq (Zm rfl (Zv (B_ rfl (c.z u) wV_) (Zm rfl ?_))))))))))));refine Ze [(0,_),(6,_),(12,_),(13,_),(15,_),(16,_),(17,_)] (nx ?_);have j3:Oz w 41 13 J T (.slice none 0 0) ([]:List Hv):=Ow.nil _ _ _ _ _;have j4:Rq w 3 14 J T [] ([]:Yk):=Rws.nil _ _ _ _ _;obtain⟨d9,e0,a8⟩:=a_ a8;refine v_ (λa U=>∃V i W H,d9=.inl V∧Fr a 48 [(0,ZI f),(6,i),(12,ZI g),(13,ZI b)]∧Bs oo H w U∧Oz w 41 13 H U i W∧Rq w 3 14 H U W V) (λ_ _=>False) ?_ ?_ ?_
   ·refine f_ ?_;refine w_ (λ(K:Nat) a U=>∃(d:Int),∃V i W H,forI (dA_ fuel f) (s.drop d.toNat) d V=some d9∧(s.drop d.toNat).length=K∧0<=d∧Fr a 48 [(0,ZI f),(6,i),(12,ZI g),(13,ZI b),(15,j),(16,ZI (s.length:Int)),(17,ZI d)]∧Bs oo H w U∧Oz w 41 13 H U i W∧Rq w 3 14 H U W V∧Oz w 41 11 H U j B∧Rq w 3 12 H U B s) _ (λa ha=>⟨0,[],.slice none 0 0,[],J,e0,rfl,Int.le_refl 0,ha.sb,hB,j3,j4,u,c⟩) ?_;rintro K40 a U ⟨d,V,i,W,H,e1,e2,j5,ha,hB,Y,Z,u,c⟩;by_cases b9:d<(s.length:Int)
    ·obtain⟨a9,n9,e3,I,e4⟩:=R_ j5 b9 e1;have hle:=(c.z u).len_le;dsimp only[dA_] at I;refine J_ ha ?_;refine Zq (Zv (r_ rfl rfl) (Ze [(0,_),(6,_),(12,_),(13,_),(15,_),(16,_),(17,_),(18,_)] (nx (c_ ?_))));refine L_ (Zb (decide_eq_true b9)) ?_;refine g_ (nx (c_ (f_ (Zq ?_))));obtain⟨D,j6,b0,b1⟩:=c.ix e3;refine Zo ?_;refine gE_ u j6 rfl rfl wV_ wY_ ?_;intro o0 o1 o2 j7 j8;obtain⟨rfl,-⟩:=j8;refine Zv (e_ rfl xa_ (k_ j7)) (Za rfl (Ze [(0,_),(6,_),(8,_),(12,_),(13,_),(15,_),(16,_),(17,_)] (Zn (Za rfl (Ze [(0,_),(6,_),(8,_),(9,_),(12,_),(13,_),(15,_),(16,_),(17,_)] (nx (c_ (Zq (Zm rfl (Zv (bC_ rfl (c.at b0 b1) wR_) (Zv (eN_ rfl rfl) (Ze [(0,_),(6,_),(8,_),(9,_),(12,_),(13,_),(15,_),(16,_),(17,_),(23,_)] ?_))))))))))));refine nx ?_;refine l_ rfl (λc7=>?_) (λc7=>?_)
     ·rw[if_pos c7] at I;refine d_ (Zm rfl (Zm rfl (Zv (bC_ rfl (c.at b0 b1) wR_) ?_)));obtain⟨o3,e5,I⟩:=a_ I;refine Zv (bs_ rfl rfl e5) ?_;obtain⟨c0,e6,I⟩:=a_ I;refine Zo ?_;refine gE_ (c.at b0 b1) e6 rfl rfl wR_ wS_ ?_;intro o4 o5 o6 j9 k0;cases k0
      refine Zv (e_ rfl wT_ (k_ j9)) (Za rfl (Ze [(0,_),(6,_),(8,_),(9,_),(12,_),(13,_),(15,_),(16,_),(17,_)] (Zn (Zm rfl (Za rfl (Ze [(0,_),(6,_),(8,_),(10,_),(12,_),(13,_),(15,_),(16,_),(17,_)] (nx ?_)))))));obtain⟨e7,e8,I⟩:=a_ I;refine v_ (λa L=>∃(a0:Yk),∃(N:Int),∃O X E,e7=.inl (a0,N)∧Fr a 48 [(0,ZI f),(6,O),(12,ZI g),(13,ZI b),(15,j),(16,ZI (s.length:Int)),(17,ZI d)]∧Bs oo E w L∧Oz w 41 13 E L O X∧Rq w 3 14 E L X a0∧Oz w 41 11 E L j B∧Rq w 3 12 E L B s) (λ_ _=>False) ?_ ?_ ?_
      ·refine f_ ?_;refine w_ (λ(K:Nat) a L=>∃(a0:Yk),∃(N:Int),∃O X E,loopF (cY_ f a9) K (a0,N)=some e7∧Fr a 48 [(0,ZI f),(6,O),(8,D),(10,ZI N),(12,ZI g),(13,ZI b),(15,j),(16,ZI (s.length:Int)),(17,ZI d)]∧Bs oo E w L∧Oz w 41 13 E L O X∧Rq w 3 14 E L X a0∧Oz w 41 11 E L j B∧Rq w 3 12 E L B s) fuel (λa ha=>⟨V,c0,i,W,H,e8,ha.sb,hB,Y,Z,u,c⟩) ?_;rintro K75 a L ⟨a0,N,O,X,E,k1,ha,hB,S,F,u,c⟩;obtain⟨K79,o7,o8,P,e9⟩:=X_ k1;dsimp only[cY_] at P;refine J_ ha ?_;refine c_ (Zq (Zm rfl (Zm rfl (Zv (r_ rfl rfl) (Ze [(0,_),(6,_),(8,_),(10,_),(12,_),(13,_),(15,_),(16,_),(17,_),(33,_)] (nx ?_))))));refine l_ rfl (λc8=>?_) (λc8=>?_)
       ·rw[if_pos c8] at P;refine g_ (nx (c_ (f_ (d_ (Zm rfl (Zm rfl ?_))))));obtain⟨k2,f0,P⟩:=a_ P;refine Zo ?_;refine o_ (bU_ L E 15 (by decide) _ a9 (c.at b0 b1).z k2 f0) xS_ ⟨rfl,trivial⟩ ?_;rintro o9 p0 ⟨p1,k3,rfl,b2,k4,k5⟩;have k6:=k4.stp' 15 k5;replace b2:=b2.mono hB.keeps.size;refine⟨_,rfl,?_⟩;obtain⟨S,F,u,c,hB⟩:=ZS k6 (A5 S F u c hB);refine Zm rfl (Zo ?_);refine au_ (o:=k3) (cs:=[ZI N]) (xs:=([N]:Yl)) (vs:=[(0,ZI N)]) ⟨_,_,rfl,rfl,rfl⟩ rfl ⟨rfl,rfl,trivial⟩ wR_ wS_ xd_ (by decide) (fill1 rfl) (by simp) ?_;intro p2 p3 p4 k7 k8 p5;obtain⟨S,F,u,c,b2,hB⟩:=ZS k8 (A6 S F u c b2 hB);obtain⟨p6,f1,P⟩:=a_ P;refine Zo ?_;refine aT_ b2 k7 (ai_ f1) (by decide) hB.keeps.size rfl rfl wR_ fc_ rfl (by decide) ?_;intro k9 p7 a1 Q f2;obtain⟨S,F,u,c,hB⟩:=ZS f2 (A5 S F u c hB);refine Zo ?_;refine au_ (o:=k9) (cs:=[a1]) (xs:=([⟨a1⟩]:List Hv)) (vs:=[(0,a1)]) ⟨_,_,rfl,iG_ Q,rfl⟩ rfl ⟨rfl,rfl,trivial⟩ wV_ wY_ xe_ (by decide) (fill1 Q.cells1) (by simp) ?_;intro l1 l2 l3 f3 f4 l4;obtain⟨S,F,u,c,Q,hB⟩:=ZS f4 (A6 S F u c Q hB);obtain⟨f5,c9,P⟩:=a_ P;obtain⟨f6,f7⟩:=F.pushV c9 a1;refine Zo ?_;refine aT_ S f3 (ai_ f6) (by decide) hB.keeps.size rfl rfl wV_ hA_ rfl (by decide) ?_;intro c1 l5 a4 b3 f8;obtain⟨F,u,c,Q,hB⟩:=ZS f8 (A5 F u c Q hB);have c2:=F.push Q (by decide) (by decide);rw[<-f7] at c2;clear F Q;have a5:=eO_ 15 14 c1;replace u:=u.rc a5 (by decide) (by decide);replace c:=c.rc a5 (by decide) (by decide);replace b3:=b3.rc a5 (by decide) (by decide);replace hB:=hB.rc a5 (by decide);generalize mrg 15 14 c1=f9 at*;refine Za rfl (Ze [(0,_),(6,_),(8,_),(10,_),(12,_),(13,_),(15,_),(16,_),(17,_)] (x_ (nx (d_ (Zm rfl ?_)))));obtain⟨b4,d0,P⟩:=a_ P;refine Zv (C_ rfl rfl d0) (Za rfl (Ze [(0,_),(6,_),(8,_),(10,_),(12,_),(13,_),(15,_),(16,_),(17,_)] (u_ ?_)));have g0:=Zj P;subst g0;refine Zk [(0,_),(6,_),(8,_),(10,_),(12,_),(13,_),(15,_),(16,_),(17,_)] ?_;intro a ha;exact⟨K79,by omega,f5,b4,a4,X++[⟨a1⟩],f9,e9,ha,hB,b3,c2,u,c⟩
       ·replace P:=ZF c8 P;refine s_ ?_;refine n_ (n_ (N_ ?_));refine p_ ?_;have g1:=Zj P;subst g1;refine Zk [(0,_),(6,_),(12,_),(13,_),(15,_),(16,_),(17,_)] ?_;intro a ha;exact⟨a0,N,O,X,E,e9,ha,hB,S,F,u,c⟩
      ·rintro a L ⟨a0,N,O,X,E,rfl,ha,hB,S,F,u,c⟩;dsimp only at I;refine ap_k ha ?_;refine x_ (nx (d_ (Zv (C_ rfl rfl (F_ (by omega) (by omega))) (Zm rfl (Ze [(0,_),(6,_),(12,_),(13,_),(15,_),(16,_),(17,_)] (u_ ?_))))));have g2:=Zj I;subst g2;refine Zk [(0,_),(6,_),(12,_),(13,_),(15,_),(16,_),(17,_)] ?_;intro a ha;exact⟨_,(by rw[<-e2];simp only[List.length_drop];omega),d+1,a0,O,X,E,e4,rfl,by omega,ha,hB,S,F,u,c⟩
      ·exact λ_ _ h=>h.elim
     ·replace I:=ZF c7 I;refine g_ (Zn (Zm rfl (Za rfl (Ze [(0,_),(6,_),(8,_),(10,_),(12,_),(13,_),(15,_),(16,_),(17,_)] (nx ?_)))));obtain⟨c3,d1,I⟩:=a_ I;refine v_ (λa v=>∃(M:Yk),∃(x:Int),∃y G m,c3=.inl (M,x)∧Fr a 48 [(0,ZI f),(6,y),(12,ZI g),(13,ZI b),(15,j),(16,ZI (s.length:Int)),(17,ZI d)]∧Bs oo m w v∧Oz w 41 13 m v y G∧Rq w 3 14 m v G M∧Oz w 41 11 m v j B∧Rq w 3 12 m v B s) (λ_ _=>False) ?_ ?_ ?_
      ·refine f_ ?_;refine w_ (λ(K:Nat) a v=>∃(M:Yk),∃(x:Int),∃y G m,loopF (cd_ f a9) K (M,x)=some c3∧Fr a 48 [(0,ZI f),(6,y),(8,D),(10,ZI x),(12,ZI g),(13,ZI b),(15,j),(16,ZI (s.length:Int)),(17,ZI d)]∧Bs oo m w v∧Oz w 41 13 m v y G∧Rq w 3 14 m v G M∧Oz w 41 11 m v j B∧Rq w 3 12 m v B s) fuel (λa ha=>⟨V,0,i,W,H,d1,ha.sb,hB,Y,Z,u,c⟩) ?_;rintro K136 a v ⟨M,x,y,G,m,g3,ha,hB,C,q,u,c⟩;obtain⟨K140,l6,l7,A,c4⟩:=X_ g3;dsimp only[cd_] at A;refine J_ ha ?_;refine c_ (Zq (Zm rfl (Zm rfl (Zv (r_ rfl rfl) (Ze [(0,_),(6,_),(8,_),(10,_),(12,_),(13,_),(15,_),(16,_),(17,_),(33,_)] (nx ?_))))));refine l_ rfl (λb5=>?_) (λb5=>?_)
       ·rw[if_pos b5] at A;refine g_ (nx (c_ (f_ (d_ (Zm rfl (Zm rfl ?_))))));obtain⟨g4,d2,A⟩:=a_ A;refine Zo ?_;refine o_ (bU_ v m 16 (by decide) _ a9 (c.at b0 b1).z g4 d2) xS_ ⟨rfl,trivial⟩ ?_;rintro l8 l9 ⟨m0,g5,rfl,a2,g6,g7⟩;have g8:=g6.stp' 16 g7;replace a2:=a2.mono hB.keeps.size;refine⟨_,rfl,?_⟩;obtain⟨C,q,u,c,hB⟩:=ZS g8 (A5 C q u c hB);refine Zm rfl (Zo ?_);refine au_ (o:=g5) (cs:=[ZI x]) (xs:=([x]:Yl)) (vs:=[(0,ZI x)]) ⟨_,_,rfl,rfl,rfl⟩ rfl ⟨rfl,rfl,trivial⟩ wR_ wS_ xd_ (by decide) (fill1 rfl) (by simp) ?_;intro m1 m2 m3 g9 h0 m4;obtain⟨C,q,u,c,a2,hB⟩:=ZS h0 (A6 C q u c a2 hB);obtain⟨m5,d3,A⟩:=a_ A;refine Zo ?_;refine aT_ a2 g9 (ai_ d3) (by decide) hB.keeps.size rfl rfl wR_ fc_ rfl (by decide) ?_;intro h1 m6 a3 R h2;obtain⟨C,q,u,c,hB⟩:=ZS h2 (A5 C q u c hB);refine Zo ?_;refine au_ (o:=h1) (cs:=[a3]) (xs:=([⟨a3⟩]:List Hv)) (vs:=[(0,a3)]) ⟨_,_,rfl,iG_ R,rfl⟩ rfl ⟨rfl,rfl,trivial⟩ wV_ wY_ xe_ (by decide) (fill1 R.cells1) (by simp) ?_;intro m7 m8 m9 h3 h4 n0;obtain⟨C,q,u,c,R,hB⟩:=ZS h4 (A6 C q u c R hB);obtain⟨h5,d4,A⟩:=a_ A;obtain⟨h6,h7⟩:=q.pushV d4 a3;refine Zo ?_;refine aT_ C h3 (ai_ h6) (by decide) hB.keeps.size rfl rfl wV_ hA_ rfl (by decide) ?_;intro c5 n1 a6 b6 h8;obtain⟨q,u,c,R,hB⟩:=ZS h8 (A5 q u c R hB);have c6:=q.push R (by decide) (by decide);rw[<-h7] at c6;clear q R;have a7:=eO_ 16 14 c5;replace u:=u.rc a7 (by decide) (by decide);replace c:=c.rc a7 (by decide) (by decide);replace b6:=b6.rc a7 (by decide) (by decide);replace hB:=hB.rc a7 (by decide);generalize mrg 16 14 c5=h9 at*;refine Za rfl (Ze [(0,_),(6,_),(8,_),(10,_),(12,_),(13,_),(15,_),(16,_),(17,_)] (x_ (nx (d_ (Zm rfl ?_)))));obtain⟨b7,d5,A⟩:=a_ A;refine Zv (C_ rfl rfl d5) (Za rfl (Ze [(0,_),(6,_),(8,_),(10,_),(12,_),(13,_),(15,_),(16,_),(17,_)] (u_ ?_)));have i0:=Zj A;subst i0;refine Zk [(0,_),(6,_),(8,_),(10,_),(12,_),(13,_),(15,_),(16,_),(17,_)] ?_;intro a ha;exact⟨K140,by omega,h5,b7,a6,G++[⟨a3⟩],h9,c4,ha,hB,b6,c6,u,c⟩
       ·replace A:=ZF b5 A;refine s_ ?_;refine n_ (n_ (N_ ?_));refine p_ ?_;have i1:=Zj A;subst i1;refine Zk [(0,_),(6,_),(12,_),(13,_),(15,_),(16,_),(17,_)] ?_;intro a ha;exact⟨M,x,y,G,m,c4,ha,hB,C,q,u,c⟩
      ·rintro a v ⟨M,x,y,G,m,rfl,ha,hB,C,q,u,c⟩;dsimp only at I;refine ap_k ha ?_;refine x_ (nx (d_ (Zv (C_ rfl rfl (F_ (by omega) (by omega))) (Zm rfl (Ze [(0,_),(6,_),(12,_),(13,_),(15,_),(16,_),(17,_)] (u_ ?_))))));have i2:=Zj I;subst i2;refine Zk [(0,_),(6,_),(12,_),(13,_),(15,_),(16,_),(17,_)] ?_;intro a ha;exact⟨_,(by rw[<-e2];simp only[List.length_drop];omega),d+1,M,y,G,m,e4,rfl,by omega,ha,hB,C,q,u,c⟩
      ·exact λ_ _ h=>h.elim
    ·have i3:=S_ b9 e1;refine J_ ha ?_;refine Zq (Zv (r_ rfl rfl) (Ze [(0,_),(6,_),(12,_),(13,_),(15,_),(16,_),(17,_),(18,_)] (nx (c_ ?_))));refine G_ (Zb (decide_eq_false b9)) ?_;refine s_ ?_;refine n_ (n_ (N_ ?_));refine p_ ?_;refine Zk [(0,_),(6,_),(12,_),(13,_)] ?_;intro a ha;exact⟨V,i,W,H,i3,ha,hB,Y,Z⟩
   ·rintro a U ⟨V,i,W,H,rfl,ha,hB,Y,Z⟩;dsimp only at a8;refine ap_k ha ?_;refine nx (d_ (Zm rfl (Za rfl (Ze [(0,ZI f),(5,i),(12,ZI g),(13,ZI b)] (x_ (nx (d_ (Zv (C_ rfl rfl (F_ (by omega) (by omega))) (Zm rfl (Ze [(0,_),(5,_),(12,_),(13,_)] (u_ ?_)))))))))));have i4:=Zj a8;subst i4;replace Y:=Y.rtg 11 (by decide);replace Z:=Z.rtg_ne (k:=13) (k':=11) (by decide) (by decide) (by decide);replace hB:=hB.rtg 13 11 (by decide) (by decide);generalize (rtg 13 11 H)=i5 at*;replace Y:=Y.rtg_ne (k:=14) (k':=12) (by decide) (by decide) (by decide);replace Z:=Z.rtg 12 (by decide);replace hB:=hB.rtg 14 12 (by decide) (by decide);generalize (rtg 14 12 i5)=i6 at*;refine Zk [(0,_),(5,_),(12,_),(13,_)] ?_;intro a ha;exact⟨_,(by rw[<-j1];omega),b+1,V,i,W,i6,j2,rfl,by omega,ha,hB,Y,Z⟩
   ·exact λ_ _ h=>h.elim
  ·have i7:=bu_ b8 d8;refine J_ ha ?_;refine Zq (Zv (r_ rfl rfl) (Ze [(0,_),(5,_),(12,_),(13,_),(14,_)] (nx (c_ ?_))));refine G_ (Zb (decide_eq_false b8)) ?_;refine s_ ?_;refine n_ (n_ (N_ ?_));refine p_ ?_;refine Zk [(5,_)] ?_;intro a ha;exact⟨s,j,B,J,i7,ha,hB,u,c⟩
 ·rintro a T ⟨s,j,B,J,rfl,ha,hB,u,c⟩;dsimp only at hF;refine ap_k ha ?_;refine Zn (Zm rfl (Za rfl (Ze [(4,_)] (nx (j_ ?_)))));have i8:=Zj hF;subst i8;refine Zr Tryz.results146 [j] ?_;exact⟨_,B,rt2 oo J w.heap.size 11 12 t,rfl,u.rt2 hB (by decide) (by decide) t,c.rt2 hB (by decide) (by decide) (by decide) t,hB.keeps,fA_ _ _ _ _ _ _⟩
 ·exact λ_ _ h=>h.elim
end
end Go.Proofs.YtdbbeldgdgonfaaGreat
