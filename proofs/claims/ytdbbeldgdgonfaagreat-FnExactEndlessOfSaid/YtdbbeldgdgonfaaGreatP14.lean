/- Part 14 of what this claim rests on (GNs), packed by pack.py. -/
import Derived.Test.YtdbbeldgdgonfaaGreatP03
import Derived.Test.YtdbbeldgdgonfaaGreatP04
import Derived.Test.YtdbbeldgdgonfaaGreatP06
import Derived.Test.YtdbbeldgdgonfaaGreatP09
import Derived.Test.YtdbbeldgdgonfaaGreatP10
import Derived.Test.YtdbbeldgdgonfaaGreatP12
import Derived.Test.YtdbbeldgdgonfaaGreatP13
namespace Go.Proofs.YtdbbeldgdgonfaaGreat
open Tryz renaming prog→tX_, underlying28→ud_, sizeOf3→tZ_, isAgg3→ua_, isAgg28→ue_, sizeOf28→uc_, underlying41→tY_, underlying135→uq_, sizeOf41→uf_, isAgg41→ug_, isAgg105→uL_, results182→vZ_, isAgg150→wa_, call182→wb_, zeroValue3→uh_, call70→uV_, results152→wd_, underlying22→ub_, zeroValue41→uk_
set_option linter.unusedSimpArgs false
set_option linter.unusedVariables false
section
set_option maxRecDepth 100000
set_option maxHeartbeats 2000000
open Go.RowKit
theorem es_:Inf tX_ 3 (.int .i64 0) 1 8:=by unfold Inf;kernel_rfl
theorem gF_:Inf tX_ 41 (.slice none 0 0) 1 24:=by unfold Inf;kernel_rfl
def bR_(b:c_):Int->Int->Option (Lp Int Int al_):=λ(c:Int)(s:Int)=>
  (ck (s*b.Labels))>>=λa=>
  some (.go a)
def bO_(f:c_):Int->((List Int)×Int)->Option (Lp ((List Int)×Int) ((List Int)×Int) al_):=λ(a:Int)(s:(List Int)×Int)=>
  (rem s.2 f.Labels)>>=λb=>
  (ix s.1 a)>>=λg=>
  (st s.1 a b)>>=λc=>
  (quo s.2 f.Labels)>>=λd=>
  some (.go (c,d))
def bQ_(fuel:Nat)(k:c_)(d:Int):Int->((List Int)×(List Int))->Option (Lp ((List Int)×(List Int)) ((List Int)×(List Int)) al_):=λ(b:Int)(s:(List Int)×(List Int))=>
  (ck (k.Degree-1))>>=λc=>
  (ix s.1 c)>>=λm=>
  (st s.1 c b)>>=λa=>
  (cJ_ fuel k a)>>=λf=>
  if f then
    (ix s.2 d)>>=λg=>
    (shl 1 b)>>=λi=>
    (ix s.2 d)>>=λn=>
    (st s.2 d (bor g i))>>=λj=>
    some (.go (a,j))
  else
    some (.go (a,s.2))
def cH_(fuel:Nat)(a:c_):Int->(List Int)->Option (Lp (List Int) (List Int) al_):=λ(b:Int)(s:List Int)=>
  (mk (Rz.z:Int) a.Degree)>>=λg=>
  (ck (a.Degree-1))>>=λc=>
  ck c>>=λ_=>
  (forN (bO_ a) (c).toNat 0 (g,b))>>=λi=>
  match i with
  | .inl (j,m)=>
    ck a.Labels>>=λ_=>
    (forN (bQ_ fuel a b) (a.Labels).toNat 0 (j,s))>>=λd=>
    match d with
    | .inl (k,f)=>
      some (.go f)
    | .inr _=>none
  | .inr _=>none
def dB_(fuel:Nat)(a:c_):Option al_:=
  (ck (a.Degree-1))>>=λc=>
  ck c>>=λ_=>
  (forN (bR_ a) (c).toNat 0 1)>>=λd=>
  match d with
  | .inl f=>
    (mk (Rz.z:Int) f)>>=λb=>
    ck (b.length:Int)>>=λ_=>
    (forN (cH_ fuel a) ((b.length:Int)).toNat 0 b)>>=λg=>
    match g with
    | .inl i=>
      some (⟨⟨a.Labels,a.Degree,a.Nodes,a.Edges⟩,i⟩:al_)
    | .inr _=>none
  | .inr _=>none
def kp_(oo:Tg)(t:Nat)(w:World)(r:al_):Ending->World->Prop:=λe w'=>∃(a:Nat)(o':Tg),e=.returned (.pointer (some ⟨a,0,none⟩))∧RdL o' w' (.slice (some ⟨a,0,none⟩) 1 1) [r]∧Keeps w w'∧∀b,b<w.heap.size->o' b=oo b
theorem ko_(fuel:Nat)(w:World)(oo:Tg)(t:Nat)(ht:2<=t)(l3:List Value)(f:c_)(j0:Rp.rd oo w l3 f)(r:al_)(hF:dB_ fuel f=some r):
    Calls tX_ 102 #[.agg l3.toArray] w (kp_ oo t w r):=by
 unfold dB_ at hF;replace j0:=Rp.col j0;obtain⟨O,P,rfl,C,D⟩:=j0;have hB:Bs oo (col oo) w w:=Bs.start _ _;refine j_ (n:=83) (vs:=[.agg #[ZI f.Labels,ZI f.Degree,O,P]]) Tryz.func102 rfl rfl ?_;generalize col oo=o at*;refine Zq (Zo ?_);refine aD_ (o:=o) w.heap.size 11 hB.keeps.size (cs:=[ZI f.Labels,ZI f.Degree,O,P]) rfl rfl ?_;intro o6 q4 u B j1;replace C:=C.stp j1;replace D:=D.stp j1;replace hB:=hB.stp j1;refine Za rfl (Ze [(1,_)] (Zn (Za rfl (Ze [(1,_),(3,_)] (nx (b_ (Zq (Zv (r_ rfl ud_ rfl tZ_) (Zv (e_ rfl ua_ (B.cell rfl)) ?_)))))))));obtain⟨U,e2,hF⟩:=a_ hF;refine Zv (bE_ rfl rfl e2) (Zm rfl (Ze [(1,_),(3,_),(12,_),(13,_)] (nx ?_)));obtain⟨o7,j2,hF⟩:=a_ hF;obtain⟨-,h16a,h16b⟩:=cr_ j2;obtain⟨e3,e4,hF⟩:=a_ hF;refine A_ (λa Z=>∃(X:Int)(V:Tg),e3=.inl X∧Fr a 83 [(1,ZP u),(3,ZI X)]∧Bs oo V w Z∧Bx w.heap.size 11 V Z u 28 [ZI f.Labels,ZI f.Degree,O,P]∧RdL V Z O (f.Nodes:Yk)∧RdL V Z P (f.Edges:Yk)) (λ_ _=>False) ?_ ?_ ?_
 ·refine f_ ?_;refine z_ (λ(K:Nat) a Z=>∃(R:Int)(X:Int)(V:Tg),forN (bR_ f) (U-R).toNat R X=some e3∧(U-R).toNat=K∧0<=R∧Fr a 83 [(1,ZP u),(3,ZI X),(12,ZI U),(13,ZI R)]∧Bs oo V w Z∧Bx w.heap.size 11 V Z u 28 [ZI f.Labels,ZI f.Degree,O,P]∧RdL V Z O (f.Nodes:Yk)∧RdL V Z P (f.Edges:Yk)) _ (λa ha=>⟨0,1,o6,(by rw[Int.sub_zero];exact e4),rfl,Int.le_refl 0,ha.sb,hB,B,C,D⟩) ?_;rintro K21 a Z ⟨R,X,V,e5,j3,o8,ha,hB,B,C,D⟩;by_cases b9:R<U
  ·obtain⟨o9,c0,j4⟩:=bz_ b9 e5;dsimp only[bR_] at c0;refine O_ ha ?_;refine Zq (Zv (u_ rfl rfl) (Ze [(1,_),(3,_),(12,_),(13,_),(14,_)] (nx (b_ ?_))));refine M_ (Zb (decide_eq_true b9)) ?_;refine h_ (nx (b_ (f_ (d_ (Zm rfl (Zv (r_ rfl ud_ rfl tZ_) (Zv (e_ rfl ua_ (B.cell rfl)) ?_)))))));obtain⟨c1,e6,c0⟩:=a_ c0;refine Zv (iS_ rfl rfl e6) (Za rfl (Ze [(1,ZP u),(3,ZI c1),(12,ZI U),(13,ZI R)] (y_ (nx (d_ (Zv (C_ rfl rfl (F_ (by omega) (by omega))) (Zm rfl (Ze [(1,_),(3,_),(12,_),(13,_)] (x_ ?_)))))))));have j5:=Zj c0;subst j5;refine Zk [(1,_),(3,_),(12,_),(13,_)] ?_;intro a ha;exact⟨_,(by rw[<-j3];omega),R+1,c1,V,j4,rfl,by omega,ha,hB,B,C,D⟩
  ·have j6:=bx_ b9 e5;refine O_ ha ?_;refine Zq (Zv (u_ rfl rfl) (Ze [(1,_),(3,_),(12,_),(13,_),(14,_)] (nx (b_ ?_))));refine D_ (Zb (decide_eq_false b9)) ?_;refine w_ ?_;refine m_ (m_ (Q_ ?_));refine s_ ?_;refine Zk [(1,_),(3,_)] ?_;intro a ha;exact⟨X,V,j6,ha,hB,B,C,D⟩
 ·rintro a Z ⟨X,V,rfl,ha,hB,B,C,D⟩;dsimp only at hF;refine ap_k ha ?_;refine nx (b_ ?_);obtain⟨g,e7,hF⟩:=a_ hF;refine ZW (Bf:=λb3 b4=>Bs oo b3 w b4∧Bx w.heap.size 11 b3 b4 u 28 [ZI f.Labels,ZI f.Degree,O,P]∧RdL b3 b4 O (f.Nodes:Yk)∧RdL b3 b4 P (f.Edges:Yk)) [(1,_),(3,_)] [20,21,22] [[],[],[1]] (Zcn 3) [999,999,12] [0,0,12] [12,999] [.inl (.agg #[ZI f.Labels,ZI f.Degree,O,P]),.inl (ZI X),.inr (λv o j7=>Ow w.heap.size 3 12 o j7 v g)] ⟨hB,B,C,D⟩ ⟨λ_ _ _ _ _ _ j8 hb h hs=>h.stp hs j8.1 (Ne.symm hb),trivial⟩ ?_ ?_
  ·refine⟨Dq λh=>H_ rfl ue_ uc_ rfl h.2.1.cells,Dp (g_ rfl),?_,trivial⟩
   ·rintro j9 p0 p1 ha ⟨hB,B,C,D⟩-;refine Zs ha ?_;refine hD_ (o:=j9) w.heap.size 12 hB.keeps.size e7 rfl rfl tY_ es_ rfl (by decide) ?_;intro p2 p3 p4 k0 k1;exact⟨_,k1,k0⟩
  rintro _ rfl e8 k2 e9 ha ⟨hB,B,C,D⟩ ⟨a7,-⟩;replace a7:Ow w.heap.size 3 12 e8 k2 (e9.tmps.getD 22 undef) g:=a7;generalize k3:e9.tmps.getD 22 undef=c2 at a7;have ha:=ha.c k3;refine aS_ ha ?_;refine Zv (bY_ (vs:=[(0,.agg #[ZI f.Labels,ZI f.Degree,O,P]),(1,c2)]) (cs:=[ZI f.Labels,ZI f.Degree,O,P,c2]) ⟨rfl,rfl,rfl,rfl,trivial⟩ (by obtain⟨_,_,p5⟩:=a7.form;rw[p5];kernel_rfl)) (Zo ?_);refine aD_ (o:=e8) w.heap.size 13 hB.keeps.size (cs:=[ZI f.Labels,ZI f.Degree,O,P,c2]) rfl rfl ?_;intro k4 p6 d k b5;replace C:=C.stp b5;replace D:=D.stp b5;replace a7:=a7.stp b5;replace B:=B.stp b5;replace hB:=hB.stp b5;refine Za rfl (Ze [(1,_),(4,_)] (nx (b_ (Zq (Zm rfl (Zv (by_ rfl) (Zv (r_ rfl uq_ rfl uf_) (Zv (e_ rfl ug_ (k.cell rfl)) (Zv (bt_ rfl a7 tY_) (Zm rfl (Ze [(1,_),(4,_),(29,_),(30,_)] (nx ?_))))))))))));obtain⟨p7,k5,hF⟩:=a_ hF;obtain⟨-,h69a,h69b⟩:=cr_ k5;obtain⟨f0,f1,hF⟩:=a_ hF;refine A_ (λa T=>∃(Y:Yl)(W:Value)(I:Tg),f0=.inl Y∧Fr a 83 [(4,ZP d)]∧Bs oo I w T∧Bx w.heap.size 13 I T d 135 [ZI f.Labels,ZI f.Degree,O,P,W]∧RdL I T O (f.Nodes:Yk)∧RdL I T P (f.Edges:Yk)∧Ow w.heap.size 3 12 I T W Y) (λ_ _=>False) ?_ ?_ ?_
  ·refine f_ ?_;refine z_ (λ(K:Nat) a T=>∃(b:Int)(Y:Yl)(W:Value)(I:Tg),forN (cH_ fuel f) ((g.length:Int)-b).toNat b Y=some f0∧((g.length:Int)-b).toNat=K∧0<=b∧Fr a 83 [(1,ZP u),(4,ZP d),(29,ZI (g.length:Int)),(30,ZI b)]∧Bs oo I w T∧Bx w.heap.size 11 I T u 28 [ZI f.Labels,ZI f.Degree,O,P]∧RdL I T O (f.Nodes:Yk)∧RdL I T P (f.Edges:Yk)∧Bx w.heap.size 13 I T d 135 [ZI f.Labels,ZI f.Degree,O,P,W]∧Ow w.heap.size 3 12 I T W Y) _ (λa ha=>⟨0,g,c2,k4,(by rw[Int.sub_zero];exact f1),rfl,Int.le_refl 0,ha.sb,hB,B,C,D,k,a7⟩) ?_;rintro K74 a T ⟨b,Y,W,I,f2,k6,p8,ha,hB,B,C,D,k,M⟩;by_cases c3:b<(g.length:Int)
   ·obtain⟨p9,N,k7⟩:=bz_ c3 f2;dsimp only[cH_] at N;refine O_ ha ?_;refine Zq (Zv (u_ rfl rfl) (Ze [(1,_),(4,_),(29,_),(30,_),(31,_)] (nx (b_ ?_))));refine M_ (Zb (decide_eq_true c3)) ?_;refine h_ (nx (b_ (f_ (Zq (Zm rfl (Za rfl (Ze [(1,_),(4,_),(5,_),(29,_),(30,_)] (Zn (Zv (r_ rfl ud_ rfl tZ_) (Zv (e_ rfl ua_ (B.cell rfl)) ?_))))))))));obtain⟨k8,f3,N⟩:=a_ N;refine Zo ?_;refine hD_ (o:=I) w.heap.size 14 hB.keeps.size f3 rfl rfl tY_ es_ rfl (by decide) ?_;intro k9 q0 q l0 b2;replace B:=B.stp b2;replace C:=C.stp b2;replace D:=D.stp b2;replace k:=k.stp b2;replace M:=M.stp b2;replace hB:=hB.stp b2;refine Za rfl (Ze [(1,_),(4,_),(5,_),(6,_),(29,_),(30,_)] (Zn (Zm rfl (Za rfl (Ze [(1,_),(4,_),(5,_),(6,_),(7,_),(29,_),(30,_)] (nx (b_ (Zq (Zv (r_ rfl ud_ rfl tZ_) (Zv (e_ rfl ua_ (B.cell rfl)) ?_))))))))));obtain⟨S,f4,N⟩:=a_ N;refine Zv (bE_ rfl rfl f4) (Zm rfl (Ze [(1,_),(4,_),(5,_),(6,_),(7,_),(29,_),(30,_),(39,_),(40,_)] (nx ?_)));obtain⟨q1,l1,N⟩:=a_ N;obtain⟨-,h93a,h93b⟩:=cr_ l1;obtain⟨f5,f6,N⟩:=a_ N;refine A_ (λa J=>∃(a6:Yl)(a0:Int)(F:Tg),f5=.inl (a6,a0)∧Fr a 83 [(1,ZP u),(4,ZP d),(5,ZI b),(6,q),(29,ZI (g.length:Int)),(30,ZI b)]∧Bs oo F w J∧Ow w.heap.size 3 14 F J q a6∧Bx w.heap.size 11 F J u 28 [ZI f.Labels,ZI f.Degree,O,P]∧RdL F J O (f.Nodes:Yk)∧RdL F J P (f.Edges:Yk)∧Bx w.heap.size 13 F J d 135 [ZI f.Labels,ZI f.Degree,O,P,W]∧Ow w.heap.size 3 12 F J W Y) (λ_ _=>False) ?_ ?_ ?_
    ·refine f_ ?_;refine z_ (λ(K:Nat) a J=>∃(H:Int)(a6:Yl)(a0:Int)(F:Tg),forN (bO_ f) (S-H).toNat H (a6,a0)=some f5∧(S-H).toNat=K∧0<=H∧Fr a 83 [(1,ZP u),(4,ZP d),(5,ZI b),(6,q),(7,ZI a0),(29,ZI (g.length:Int)),(30,ZI b),(39,ZI S),(40,ZI H)]∧Bs oo F w J∧Ow w.heap.size 3 14 F J q a6∧Bx w.heap.size 11 F J u 28 [ZI f.Labels,ZI f.Degree,O,P]∧RdL F J O (f.Nodes:Yk)∧RdL F J P (f.Edges:Yk)∧Bx w.heap.size 13 F J d 135 [ZI f.Labels,ZI f.Degree,O,P,W]∧Ow w.heap.size 3 12 F J W Y) _ (λa ha=>⟨0,k8,b,k9,(by rw[Int.sub_zero];exact f6),rfl,Int.le_refl 0,ha.sb,hB,l0,B,C,D,k,M⟩) ?_;rintro K98 a J ⟨H,a6,a0,F,f7,l2,q2,ha,hB,b6,B,C,D,k,M⟩;by_cases a8:H<S
     ·obtain⟨q3,Q,f8⟩:=bz_ a8 f7;dsimp only[bO_] at Q;refine O_ ha ?_;refine Zq (Zv (u_ rfl rfl) (Ze [(1,_),(4,_),(5,_),(6,_),(7,_),(29,_),(30,_),(39,_),(40,_),(41,_)] (nx (b_ ?_))));refine M_ (Zb (decide_eq_true a8)) ?_;refine h_ (nx (b_ (f_ (Zq (Zm rfl (Za rfl (Ze [(1,_),(4,_),(5,_),(6,_),(7,_),(8,_),(29,_),(30,_),(39,_),(40,_)] (Zn (Zm rfl (Zm rfl (Zm rfl (Zv (r_ rfl ud_ rfl tZ_) ?_))))))))))));refine Zv (e_ rfl ua_ (B.cell rfl)) ?_;obtain⟨l4,d0,Q⟩:=a_ Q;refine Zv (ox_ rfl rfl d0) ?_;obtain⟨l5,d1,Q⟩:=a_ Q;refine Zo ?_;refine fs_ b6 d1 rfl rfl tY_ tZ_ ?_;intro l6 l7 f9 l8 g0;cases g0
      obtain⟨g1,d2,Q⟩:=a_ Q;refine am_ trivial ?_;refine cc_ b6 f9 d2 rfl (by decide) rfl rfl rfl tZ_ rfl ?_;intro l9 g2 a3;replace B:=B.stp a3;replace C:=C.stp a3;replace D:=D.stp a3;replace k:=k.stp a3;replace M:=M.stp a3;replace hB:=hB.stp a3;refine Ze [(1,_),(4,_),(5,_),(6,_),(7,_),(29,_),(30,_),(39,_),(40,_)] (nx (d_ (Zm rfl (Zv (r_ rfl ud_ rfl tZ_) (Zv (e_ rfl ua_ (B.cell rfl)) ?_)))));obtain⟨a9,d3,Q⟩:=a_ Q;refine Zv (qv_ rfl rfl d3) (Za rfl (Ze [(1,ZP u),(4,ZP d),(5,ZI b),(6,q),(7,ZI a9),(29,ZI (g.length:Int)),(30,ZI b),(39,ZI S),(40,ZI H)] (y_ (nx (d_ (Zv (C_ rfl rfl (F_ (by omega) (by omega))) (Zm rfl (Ze [(1,_),(4,_),(5,_),(6,_),(7,_),(29,_),(30,_),(39,_),(40,_)] (x_ ?_)))))))));have g3:=Zj Q;subst g3;refine Zk [(1,_),(4,_),(5,_),(6,_),(7,_),(29,_),(30,_),(39,_),(40,_)] ?_;intro a ha;exact⟨_,(by rw[<-l2];omega),H+1,g1,a9,F,f8,rfl,by omega,ha,hB,g2,B,C,D,k,M⟩
     ·have g4:=bx_ a8 f7;refine O_ ha ?_;refine Zq (Zv (u_ rfl rfl) (Ze [(1,_),(4,_),(5,_),(6,_),(7,_),(29,_),(30,_),(39,_),(40,_),(41,_)] (nx (b_ ?_))));refine D_ (Zb (decide_eq_false a8)) ?_;refine w_ ?_;refine m_ (m_ (Q_ ?_));refine s_ ?_;refine Zk [(1,_),(4,_),(5,_),(6,_),(29,_),(30,_)] ?_;intro a ha;exact⟨a6,a0,F,g4,ha,hB,b6,B,C,D,k,M⟩
    ·rintro a J ⟨a6,a0,F,rfl,ha,hB,b6,B,C,D,k,M⟩;dsimp only at N;refine ap_k ha ?_;refine Zn (Zv (r_ rfl ud_ rfl tZ_) (Zv (e_ rfl ua_ (B.cell rfl)) (Zm rfl (Ze [(1,_),(4,_),(5,_),(6,_),(29,_),(30,_),(56,_),(57,_)] (nx ?_)))));obtain⟨m0,g5,N⟩:=a_ N;obtain⟨-,h127a,h127b⟩:=cr_ g5;obtain⟨c4,d4,N⟩:=a_ N;refine A_ (λa y=>∃(a1:Yl)(G:Yl)(E:Value)(s:Tg),c4=.inl (a1,G)∧Fr a 83 [(1,ZP u),(4,ZP d),(29,ZI (g.length:Int)),(30,ZI b)]∧Bs oo s w y∧Bx w.heap.size 11 s y u 28 [ZI f.Labels,ZI f.Degree,O,P]∧RdL s y O (f.Nodes:Yk)∧RdL s y P (f.Edges:Yk)∧Bx w.heap.size 13 s y d 135 [ZI f.Labels,ZI f.Degree,O,P,E]∧Ow w.heap.size 3 12 s y E G) (λ_ _=>False) ?_ ?_ ?_
     ·refine f_ ?_;refine z_ (λ(K:Nat) a y=>∃(i:Int)(a1:Yl)(G:Yl)(E:Value)(s:Tg),forN (bQ_ fuel f b) (f.Labels-i).toNat i (a1,G)=some c4∧(f.Labels-i).toNat=K∧0<=i∧Fr a 83 [(1,ZP u),(4,ZP d),(5,ZI b),(6,q),(29,ZI (g.length:Int)),(30,ZI b),(56,ZI f.Labels),(57,ZI i)]∧Bs oo s w y∧Ow w.heap.size 3 14 s y q a1∧Bx w.heap.size 11 s y u 28 [ZI f.Labels,ZI f.Degree,O,P]∧RdL s y O (f.Nodes:Yk)∧RdL s y P (f.Edges:Yk)∧Bx w.heap.size 13 s y d 135 [ZI f.Labels,ZI f.Degree,O,P,E]∧Ow w.heap.size 3 12 s y E G) _ (λa ha=>⟨0,a6,Y,W,F,(by rw[Int.sub_zero];exact d4),rfl,Int.le_refl 0,ha.sb,hB,b6,B,C,D,k,M⟩) ?_;rintro K132 a y ⟨i,a1,G,E,s,c5,c6,m1,ha,hB,c7,B,C,D,k,A⟩;by_cases b0:i<f.Labels
      ·obtain⟨m2,m,c8⟩:=bz_ b0 c5;dsimp only[bQ_] at m;refine O_ ha ?_;refine Zq (Zv (u_ rfl rfl) (Ze [(1,_),(4,_),(5,_),(6,_),(29,_),(30,_),(56,_),(57,_),(58,_)] (nx (b_ ?_))));refine M_ (Zb (decide_eq_true b0)) ?_;refine h_ (nx (b_ (f_ (Zq (Zm rfl (Za rfl (Ze [(1,_),(4,_),(5,_),(6,_),(9,_),(29,_),(30,_),(56,_),(57,_)] (Zn (Zm rfl (Zv (r_ rfl ud_ rfl tZ_) (Zv (e_ rfl ua_ (B.cell rfl)) ?_)))))))))));obtain⟨m3,d5,m⟩:=a_ m;refine Zv (bE_ rfl rfl d5) (Zm rfl ?_);obtain⟨m4,d6,m⟩:=a_ m;refine Zo ?_;refine fs_ c7 d6 rfl rfl tY_ tZ_ ?_;intro m5 m6 g6 m7 g7;cases g7
       obtain⟨b1,d7,m⟩:=a_ m;refine am_ trivial ?_;refine cc_ c7 g6 d7 rfl (by decide) rfl rfl rfl tZ_ rfl ?_;intro g8 L a4;replace B:=B.stp a4;replace C:=C.stp a4;replace D:=D.stp a4;replace k:=k.stp a4;replace A:=A.stp a4;replace hB:=hB.stp a4;refine Ze [(1,_),(4,_),(5,_),(6,_),(9,_),(29,_),(30,_),(56,_),(57,_)] (Zn (Zv (H_ rfl ue_ uc_ rfl B.cells) (Zm rfl ?_)));obtain⟨c9,d8,m⟩:=a_ m;refine Zo ?_;refine o_ (hb_ fuel g8 _ f (⟨_,_,rfl,C.z,D.z⟩) _ b1 L.z c9 d8) Tryz.call150 ⟨rfl,rfl,trivial⟩ ?_;rintro m8 m9 ⟨rfl,g9⟩;have a2:=g9.stp 999 s;refine⟨_,rfl,?_⟩;replace L:=L.stp a2;replace C:=C.stp a2;replace D:=D.stp a2;replace B:=B.stp a2;replace k:=k.stp a2;replace A:=A.stp a2;replace hB:=hB.stp a2;refine Ze [(1,_),(4,_),(5,_),(6,_),(9,_),(29,_),(30,_),(56,_),(57,_),(68,_)] (nx ?_);refine p_ rfl (λb7=>?_) (λb7=>?_)
       ·rw[if_pos b7] at m;obtain⟨h0,b8,m⟩:=a_ m;obtain⟨h1,d9,m⟩:=a_ m;refine ZW (Bf:=λb3 b4=>Bs oo b3 w b4∧Ow w.heap.size 3 14 b3 b4 q b1∧Bx w.heap.size 11 b3 b4 u 28 [ZI f.Labels,ZI f.Degree,O,P]∧RdL b3 b4 O (f.Nodes:Yk)∧RdL b3 b4 P (f.Edges:Yk)∧Bx w.heap.size 13 b3 b4 d 135 [ZI f.Labels,ZI f.Degree,O,P,E]∧Ow w.heap.size 3 12 b3 b4 E G) [(1,_),(4,_),(5,_),(6,_),(9,_),(29,_),(30,_),(56,_),(57,_)] (Zrg 69 9) [[],[0],[1],[2],[],[3,4],[5],[],[7]] (Zcn 9) (Zt9 9) [0,0,0,0,0,12,0,0,0] [999] [.inl (ZP d),.inl (ZP d),.inl (.pointer (some ⟨d,0+4,none⟩)),.inl E,.inl (ZI b),.inr (λv o j7=>∃vl,v=adr vl (b.toNat*Rp.sz Int)∧Ow w.heap.size 3 12 o j7 vl G),.inl (ZI h0),.inl (ZI i),.inl (ZI h1)] ⟨hB,L,B,C,D,k,A⟩ ⟨λ_ _ _ _ _ _ j8 hb ⟨vl,e,h⟩ hs=>⟨vl,e,h.stp hs j8.1 (Ne.symm hb)⟩,trivial⟩ ?_ ?_
        ·refine⟨Dp (g_ rfl),Dp (by_ rfl),Dp (r_ rfl uq_ rfl uf_),Dq λh=>e_ rfl ug_ (h.2.2.2.2.2.1.cell rfl),Dp (g_ rfl),?_,?_,Dp (g_ rfl),Dp (fI_ rfl rfl d9),trivial⟩
         ·rintro n0 n1 n2 ha ⟨hB,L,B,C,D,k,A⟩-;refine Zs ha ?_;refine bI_ A b8 rfl rfl tY_ tZ_ ?_;exact⟨_,Stp.refl _ _ _,⟨_,rfl,A⟩⟩
         ·rintro n3 n4 n5 ha ⟨hB,L,B,C,D,k,A⟩ ⟨h2,-⟩;obtain⟨n6,h3,h4⟩:=h2;have ha:=ha.c h3;refine Zs ha ?_;refine bq_ h4 b8 rfl rfl ua_ ?_;intro n7 h5;cases h5
          exact Zx rfl
        rintro _ rfl h6 n8 n9 ha ⟨hB,L,B,C,D,k,A⟩-;refine aS_ ha ?_;refine Zv (tf_ rfl rfl) ?_;obtain⟨o0,e0,m⟩:=a_ m;refine Zo ?_;refine fs_ A e0 rfl rfl tY_ tZ_ ?_;intro o1 o2 h7 o3 h8;cases h8
        obtain⟨h9,e1,m⟩:=a_ m;refine am_ trivial ?_;refine cc_ A h7 e1 rfl (by decide) rfl rfl rfl tZ_ rfl ?_;intro o4 i0 a5;replace L:=L.stp a5;replace B:=B.stp a5;replace C:=C.stp a5;replace D:=D.stp a5;replace k:=k.stp a5;replace hB:=hB.stp a5;refine Ze [(1,ZP u),(4,ZP d),(5,ZI b),(6,q),(29,ZI (g.length:Int)),(30,ZI b),(56,ZI f.Labels),(57,ZI i)] (y_ (nx (d_ (Zv (C_ rfl rfl (F_ (by omega) (by omega))) (Zm rfl (Ze [(1,_),(4,_),(5,_),(6,_),(29,_),(30,_),(56,_),(57,_)] (x_ ?_)))))));have i1:=Zj m;subst i1;refine Zk [(1,_),(4,_),(5,_),(6,_),(29,_),(30,_),(56,_),(57,_)] ?_;intro a ha;exact⟨_,(by rw[<-c6];omega),i+1,b1,h9,E,h6,c8,rfl,by omega,ha,hB,L,B,C,D,k,i0⟩
       ·replace m:=ZF b7 m;refine h_ (y_ (nx (d_ (Zv (C_ rfl rfl (F_ (by omega) (by omega))) (Zm rfl (Ze [(1,_),(4,_),(5,_),(6,_),(29,_),(30,_),(56,_),(57,_)] (x_ ?_)))))));have i2:=Zj m;subst i2;refine Zk [(1,_),(4,_),(5,_),(6,_),(29,_),(30,_),(56,_),(57,_)] ?_;intro a ha;exact⟨_,(by rw[<-c6];omega),i+1,b1,G,E,s,c8,rfl,by omega,ha,hB,L,B,C,D,k,A⟩
      ·have i3:=bx_ b0 c5;refine O_ ha ?_;refine Zq (Zv (u_ rfl rfl) (Ze [(1,_),(4,_),(5,_),(6,_),(29,_),(30,_),(56,_),(57,_),(58,_)] (nx (b_ ?_))));refine D_ (Zb (decide_eq_false b0)) ?_;refine w_ ?_;refine m_ (m_ (Q_ ?_));refine s_ ?_;refine Zk [(1,_),(4,_),(29,_),(30,_)] ?_;intro a ha;exact⟨a1,G,E,s,i3,ha,hB,B,C,D,k,A⟩
     ·rintro a y ⟨a1,G,E,s,rfl,ha,hB,B,C,D,k,A⟩;dsimp only at N;refine ap_k ha ?_;refine y_ (nx (d_ (Zv (C_ rfl rfl (F_ (by omega) (by omega))) (Zm rfl (Ze [(1,_),(4,_),(29,_),(30,_)] (x_ ?_))))));have i4:=Zj N;subst i4;refine Zk [(1,_),(4,_),(29,_),(30,_)] ?_;intro a ha;exact⟨_,(by rw[<-k6];omega),b+1,G,E,s,k7,rfl,by omega,ha,hB,B,C,D,k,A⟩
     ·exact λ_ _ h=>h.elim
    ·exact λ_ _ h=>h.elim
   ·have i5:=bx_ c3 f2;refine O_ ha ?_;refine Zq (Zv (u_ rfl rfl) (Ze [(1,_),(4,_),(29,_),(30,_),(31,_)] (nx (b_ ?_))));refine D_ (Zb (decide_eq_false c3)) ?_;refine w_ ?_;refine m_ (m_ (Q_ ?_));refine s_ ?_;refine Zk [(4,_)] ?_;intro a ha;exact⟨Y,W,I,i5,ha,hB,k,C,D,M⟩
  ·rintro a T ⟨Y,W,I,rfl,ha,hB,k,C,D,M⟩;dsimp only at hF;refine ap_k ha ?_;refine Zn (Zm rfl (Za rfl (Ze [(2,_)] (nx (n_ ?_)))));replace k:=k.frz_ne (j:=12) (by decide);replace C:=C.frz 12;replace D:=D.frz 12;have o5:=M.frzF;replace M:=M.frz;replace hB:=hB.frz 12 (by decide);generalize (frz 12 I)=i6 at*;have i7:=Bx.frzP (x:=(⟨⟨f.Labels,f.Degree,f.Nodes,f.Edges⟩,Y⟩:al_)) k ⟨_,_,_,rfl,C,D,M⟩;replace hB:=hB.frz 13 (by decide);generalize (frz 13 i6)=i8 at*;have i9:=Zj hF;subst i9;refine Zr Tryz.results102 [ZP d] ?_;exact⟨d,rt oo i8 w.heap.size 9 t,rfl,i7.rt hB 9 t (by decide),hB.keeps,ac_ _ _ _ _ _⟩
  ·exact λ_ _ h=>h.elim
 ·exact λ_ _ h=>h.elim
def aO_(m:Int)(v:Int)(n:Int)(q:List Int)(u:al_)(self:Int->Int->Int->(List Int)->Int->al_->Option Int):Int->Int->Option (Lp Int Int Int):=λ(a:Int)(s:Int)=>
  (ix q m)>>=λc=>
  (shr c a)>>=λd=>
  (
    if(band d 1)==1 then
      some (s !=0)
    else
      some false)>>=λf=>
  if f then
    (ck (m+1))>>=λg=>
    (ck (a*n))>>=λi=>
    (ck (v+i))>>=λj=>
    (ck (n*u.p.Labels))>>=λk=>
    (self g j k q s u)>>=λb=>
    some (.go b)
  else
    some (.go s)
def X_:Nat->Int->Int->Int->(List Int)->Int->al_->Option Int
  |0=>λ_ _ _ _ _ _=>none
  | fuel+1=>λd f j g i a=>
    if d==(g.length:Int) then
      (ix a.after f)>>=λk=>
      some (band i k)
    else
      ck a.p.Labels>>=λ_=>
      (forN (aO_ d f j g a (X_ fuel)) (a.p.Labels).toNat 0 i)>>=λb=>
      match b with
      | .inl c=>
        some c
      | .inr _=>none
def dS_(oo o:Tg)(w a:World)(b:Nat)(r:Int):Ending->World->Prop:=λe w'=>∃(o':Tg),e=.returned (.tuple #[])∧Bx w.heap.size 13 o' w' b 3 [.int .i64 r]∧Bs oo o' w w'∧Stp 13 o a o' w'
theorem fF_(fuel:Nat):∀(w:World)(B:World)(oo o:Tg)(hB:Bs oo o w B)(C:Int)(A:Int)(D:Int)(u:Nat)(N:Value)(U:Yl)(f:Bx w.heap.size 12 o B u 41 [N])(a0:RdL zt w N U)(k:Nat)(Q:Int)(i:Bx w.heap.size 13 o B k 3 [.int .i64 Q])(q:Nat)(G:Nat)(X:List Value)(z:al_)(d:Bx w.heap.size 11 o B q 105 [.pointer (some ⟨G,0,none⟩)])(Y:Cells w G 0 X)(a2:Rp.rd zt w X z)(x:Nat)(g:Bx w.heap.size 14 o B x 150 [.func (.func 182) #[] #[.pointer (some ⟨u,0,none⟩),.pointer (some ⟨k,0,none⟩),.pointer (some ⟨q,0,none⟩),.pointer (some ⟨x,0,none⟩)]])(r:Int)(hF:X_ fuel C A D U Q z=some r),Calls tX_ 182 #[.int .i64 C,.int .i64 A,.int .i64 D,.pointer (some ⟨u,0,none⟩),.pointer (some ⟨k,0,none⟩),.pointer (some ⟨q,0,none⟩),.pointer (some ⟨x,0,none⟩)] B (dS_ oo o w B k r):=by
 induction fuel with
 |zero=>
  intro w B oo o hB C A D u N U f a0 k Q i q G X z d Y a2 x g r hF;unfold X_ at hF;cases hF
 | succ fuel ih=>
  suffices H:∀(w:World)(B:World)(oo o:Tg)(hB:Bs oo o w B)(C:Int)(A:Int)(D:Int)(u:Nat)(N:Value)(U:Yl)(f:Bx w.heap.size 12 o B u 41 [N])(a0:RdL zt w N U)(k:Nat)(Q:Int)(i:Bx w.heap.size 13 o B k 3 [ZI Q])(q:Nat)(G:Nat)(X:List Value)(z:al_)(d:Bx w.heap.size 11 o B q 105 [ZP G])(Y:Cells w G 0 X)(a2:Rp.rd zt w X z)(x:Nat)(g:Bx w.heap.size 14 o B x 150 [.func (.func 182) #[] #[ZP u,ZP k,ZP q,ZP x]])(r:Int)(hF:X_ (fuel+1) C A D U Q z=some r)(hO:∀b,b<B.heap.size->o b≠999),Calls tX_ 182 #[ZI C,ZI A,ZI D,ZP u,ZP k,ZP q,ZP x] B (dS_ oo o w B k r) by
   intro w B oo o hB C A D u N U f a0 k Q i q G X z d Y a2 x g r hF;have hm:=qP_ o B (lo:=999) (by decide);refine (H w B oo (prg 999 o) (hB.mvr hm (by decide)) C A D u N U (f.mvr hm (by decide)) a0 k Q (i.mvr hm (by decide)) q G X z (d.mvr hm (by decide)) Y a2 x (g.mvr hm (by decide)) r hF λb _=>tH_ (by decide) o b).mono ?_;rintro e w' ⟨o',l2,h1,l3,e8⟩;have hk:=qm_ (w':=w') (lo:=999) (by decide) e8.own;exact⟨bck o B o',l2,h1.mvr hk (by decide),l3.mvr hk (by decide),e8.bckS (by decide) (by decide)⟩
  intro w B oo o hB C A D u N U f a0 k Q i q G X z d Y a2 x g r hF hO;unfold X_ at hF;have g5k:=a2;obtain⟨q5,q6,q7,rfl,h1,e8,l4⟩:=a2;have hS:Stp 13 o B o B:=Stp.refl _ _ _;refine j_ (n:=61) (vs:=[ZI C,ZI A,ZI D,ZP u,ZP k,ZP q,ZP x]) Tryz.func182 rfl rfl ?_;refine b_ (Zq (Zm rfl (Zv (e_ rfl ug_ (f.cell rfl)) (Zv (J_ rfl a0 tY_) (Zv (cD_ rfl rfl) (Ze [(0,_),(1,_),(2,_),(3,_),(4,_),(5,_),(6,_),(14,_)] (nx ?_)))))));refine p_ rfl (λe9=>?_) (λe9=>?_)
  ·rw[if_pos e9] at hF;refine b_ ?_;obtain⟨h2,a9,hF⟩:=a_ hF;refine cw_ (o:=o) [(1,ZI A),(4,ZP k),(5,ZP q)] [1,4,5] [15,16,17,18,19,20,21,22] [[],[],[1],[2],[3],[],[4,5],[6]] [none,none,none,none,none,none,none,none] [999,999,999,999,999,999,999,999] [0,0,0,0,0,0,0,0] [999] [λv _ _=>v=(ZI Q),λv _ _=>v=(ZP G),λv _ _=>v=(ZP G),λv _ _=>v=(.pointer (some ⟨G,0+4,none⟩)),λv o l5=>RdL zt w v (z.after:Yl),λv _ _=>v=(ZI A),λv o l5=>∃vl,v=adr vl (A.toNat*Rp.sz Int)∧RdL zt w vl (z.after:Yl),λv _ _=>v=(ZI h2)] (λR S=>Bs oo R w S∧Stp 13 o B R S∧Bx w.heap.size 14 R S x 150 [.func (.func 182) #[] #[ZP u,ZP k,ZP q,ZP x]]∧Bx w.heap.size 11 R S q 105 [ZP G]∧Bx w.heap.size 13 R S k 3 [ZI Q]∧Bx w.heap.size 12 R S u 41 [N]) ao_ (by kernel_rfl) rfl ⟨rfl,rfl,rfl,trivial⟩ ⟨hB,hS,g,d,i,f⟩ ?_ ⟨E_ _,E_ _,E_ _,E_ _,λ_ _ _ _ _ _ l6 hb h hs=>h,E_ _,λ_ _ _ _ _ _ l6 hb ⟨vl,e,h⟩ hs=>⟨vl,e,h⟩,E_ _,trivial⟩ ?_ ?_
   ·rintro f0 l7 B l8 l9 L ⟨hB,hS,g,d,i,f⟩ E;have L:f0=999:=by simpa using L
    subst L;all_goals exact⟨hB.stp E (by decide),hS.trq hO E,g.stp E (by decide),d.stp E (by decide),i.stp E (by decide),f.stp E (by decide)⟩
   ·refine⟨?_,?_,?_,?_,?_,?_,?_,?_,trivial⟩
    ·rintro m0 m1 m2 ha ⟨hB,hS,g,d,i,f⟩-;refine Zs ha ?_;refine l_ (e_ rfl ua_ (i.cell rfl)) ?_;exact Zx rfl
    ·rintro m3 m4 m5 ha ⟨hB,hS,g,d,i,f⟩-;refine Zs ha ?_;refine l_ (e_ rfl uL_ (d.cell rfl)) ?_;exact Zx rfl
    ·rintro m6 m7 m8 ha ⟨hB,hS,g,d,i,f⟩ ⟨f1,-⟩;have ha:=ha.c f1;refine Zs ha ?_;refine l_ (by_ rfl) ?_;exact Zx rfl
    ·rintro m9 n0 n1 ha ⟨hB,hS,g,d,i,f⟩ ⟨f2,-⟩;have ha:=ha.c f2;refine Zs ha ?_;refine l_ (r_ rfl uq_ rfl uf_) ?_;exact Zx rfl
    ·rintro n2 n3 n4 ha ⟨hB,hS,g,d,i,f⟩ ⟨f3,-⟩;have ha:=ha.c f3;refine Zs ha ?_;refine l_ (e_ rfl ug_ ((Y.keep hB.keeps) 4 _ rfl)) ?_;exact⟨_,Stp.refl _ _ _,l4⟩
    ·rintro n5 n6 n7 ha ⟨hB,hS,g,d,i,f⟩-;refine Zs ha ?_;refine l_ (g_ rfl) ?_;exact Zx rfl
    ·rintro n8 n9 b0 ha ⟨hB,hS,g,d,i,f⟩ ⟨V,f4,-⟩;replace V:RdL zt w (b0.tmps.getD 19 undef) (z.after:Yl):=V;generalize f5:b0.tmps.getD 19 undef=o0 at V;have ha:=ha.c f5;have ha:=ha.c f4;refine Zs ha ?_;refine an_ V a9 rfl rfl tY_ tZ_ ?_;exact⟨_,Stp.refl _ _ _,⟨_,rfl,V⟩⟩
    ·rintro o1 o2 o3 ha ⟨hB,hS,g,d,i,f⟩ ⟨f6,-⟩;obtain⟨o4,f7,f8⟩:=f6;have ha:=ha.c f7;refine Zs ha ?_;refine cm_ f8 a9 hB rfl rfl ua_ ?_;intro o5 f9;cases f9
     exact Zx rfl
   rintro b1 o6 o7 ha ⟨hB,hS,g,d,i,f⟩ ⟨g0,-,-,-,-,-,-,g1,-⟩;have ha:=ha.c g0;have ha:=ha.c g1;refine aS_ ha ?_;simp only[List.length_cons,List.length_nil,Nat.zero_add,Nat.reduceAdd,List.drop_succ_cons,List.drop_zero];refine Zv (iX_ rfl rfl) ?_;refine am_ trivial ?_;refine cu_ i rfl rfl (of_decide_eq_true rfl) tZ_ rfl rfl ?_;intro g2 a3 W;replace hS:=hS.trans W;replace f:=f.stp W;replace d:=d.stp W;replace g:=g.stp W;replace hB:=hB.stp W;replace a3:Bx w.heap.size 13 b1 g2 k 3 [ZI (band Q h2)]:=a3;refine Ze [] (nx (n_ (I_ ?_)));have g3:=Zj hF;subst g3;refine N_ (P:=tX_) (vs:=[]) vZ_ trivial ?_;exact⟨b1,rfl,a3,hB,hS⟩
  ·replace hF:=ZF e9 hF;refine h_ (Zn (Zv (e_ rfl uL_ (d.cell rfl)) (Zv (by_ rfl) (Zv (r_ rfl uq_ rfl uc_) (Zv (r_ rfl ud_ rfl tZ_) (Zv (e_ rfl ua_ ((Y.keep hB.keeps) 0 _ rfl)) (Zm rfl (Ze [(0,_),(1,_),(2,_),(3,_),(4,_),(5,_),(6,_),(28,_),(29,_)] (nx ?_)))))))));obtain⟨o8,g4,hF⟩:=a_ hF;obtain⟨-,h62a,h62b⟩:=cr_ g4;obtain⟨b2,b3,hF⟩:=a_ hF;refine A_ (λa y=>∃(F:Int)(s:Tg),b2=.inl F∧Fr a 61 []∧Bs oo s w y∧Stp 13 o B s y∧Bx w.heap.size 14 s y x 150 [.func (.func 182) #[] #[ZP u,ZP k,ZP q,ZP x]]∧Bx w.heap.size 11 s y q 105 [ZP G]∧Bx w.heap.size 13 s y k 3 [ZI F]∧Bx w.heap.size 12 s y u 41 [N]) (λ_ _=>False) ?_ ?_ ?_
   ·refine f_ ?_;refine z_ (λ(K:Nat) a y=>∃(j:Int)(F:Int)(s:Tg),forN (aO_ C A D U z (X_ fuel)) (z.p.Labels-j).toNat j F=some b2∧(z.p.Labels-j).toNat=K∧0<=j∧Fr a 61 [(0,ZI C),(1,ZI A),(2,ZI D),(3,ZP u),(4,ZP k),(5,ZP q),(6,ZP x),(28,ZI z.p.Labels),(29,ZI j)]∧Bs oo s w y∧Stp 13 o B s y∧Bx w.heap.size 14 s y x 150 [.func (.func 182) #[] #[ZP u,ZP k,ZP q,ZP x]]∧Bx w.heap.size 11 s y q 105 [ZP G]∧Bx w.heap.size 13 s y k 3 [ZI F]∧Bx w.heap.size 12 s y u 41 [N]) _ (λa ha=>⟨0,Q,o,(by rw[Int.sub_zero];exact b3),rfl,Int.le_refl 0,ha.sb,hB,hS,g,d,i,f⟩) ?_;rintro K67 a y ⟨j,F,s,b4,b5,o9,ha,hB,hS,g,d,i,f⟩;by_cases Z:j<z.p.Labels
    ·obtain⟨p0,m,b6⟩:=bz_ Z b4;dsimp only[aO_] at m;refine O_ ha ?_;refine Zq (Zv (u_ rfl rfl) (Ze [(0,_),(1,_),(2,_),(3,_),(4,_),(5,_),(6,_),(28,_),(29,_),(30,_)] (nx (b_ ?_))));refine M_ (Zb (decide_eq_true Z)) ?_;refine h_ (nx (b_ (f_ (Zq (Zm rfl (Za rfl (Ze [(0,_),(1,_),(2,_),(3,_),(4,_),(5,_),(6,_),(10,_),(28,_),(29,_)] (Zn (Zv (e_ rfl ug_ (f.cell rfl)) (Zm rfl ?_))))))))));obtain⟨p1,b7,m⟩:=a_ m;refine Zo ?_;refine wf_atZ a0 b7 hB rfl rfl tY_ tZ_ ?_;intro p2 p3 p4 g5 g6;cases g6
     refine Zv (e_ rfl ua_ (i_ g5)) (Zm rfl ?_);obtain⟨g7,b8,m⟩:=a_ m;refine Zv (pe_ rfl rfl b8) (Zv (iX_ rfl rfl) (Zv (cD_ rfl rfl) (Zm rfl ?_)));obtain⟨b9,O,m⟩:=a_ m;refine aF_ 3 (λg8 c0=>Fr g8 61 [(0,ZI C),(1,ZI A),(2,ZI D),(3,ZP u),(4,ZP k),(5,ZP q),(6,ZP x),(10,ZI j),(28,ZI z.p.Labels),(29,ZI j),(43,.bool b9)]∧Keeps y c0) ?_ ?_;all_goals simp only[List.take_succ_cons,List.take_zero,List.drop_succ_cons,List.drop_zero]
     ·have kp:Keeps y y:=Keeps.refl _;rcases Bool.eq_false_or_eq_true ((band g7 1)==1) with I|I
      ·rw[if_pos I] at O;refine q_ (e_ rfl ua_ (i.cell rfl)) (by decide) ⟨_,rfl,Zb I⟩ (q_ (dw_ rfl rfl) (by decide) ⟨_,rfl,Zb I⟩ (Zv (L_ (Zb I) rfl) ?_));have M:=Zj O;refine Ze [(0,_),(1,_),(2,_),(3,_),(4,_),(5,_),(6,_),(10,_),(28,_),(29,_),(43,_)] ?_;subst M;refine s_ (λa ha=>⟨ha,kp⟩)
      ·replace O:=ZF I O;refine v_ rfl rfl (by rw[I];rfl) (by decide) ?_;refine v_ rfl rfl (by rw[I];rfl) (by decide) ?_;refine Zv (G_ (Zb I) rfl) ?_;have M:=Zj O;refine Ze [(0,_),(1,_),(2,_),(3,_),(4,_),(5,_),(6,_),(10,_),(28,_),(29,_),(43,_)] ?_;subst M;refine s_ (λa ha=>⟨ha,kp⟩)
     rintro p5 c0 ⟨ha,g9⟩;have T:=g9.stp 999 s;replace hS:=hS.trq hO T;replace f:=f.stp T;replace i:=i.stp T;replace d:=d.stp T;replace g:=g.stp T;replace hB:=hB.stp T;refine aS_ ha ?_;refine Ze [(0,_),(1,_),(2,_),(3,_),(4,_),(5,_),(6,_),(10,_),(28,_),(29,_),(43,_)] (nx ?_);refine p_ rfl (λa4=>?_) (λa4=>?_)
     ·rw[if_pos a4] at m;obtain⟨a5,c1,m⟩:=a_ m;obtain⟨h0,c2,m⟩:=a_ m;obtain⟨a6,c3,m⟩:=a_ m;obtain⟨a7,c4,m⟩:=a_ m;refine cw_ (o:=s) [(0,ZI C),(1,ZI A),(2,ZI D),(3,ZP u),(4,ZP k),(5,ZP q),(6,ZP x),(10,ZI j),(28,ZI z.p.Labels),(29,ZI j)] [0,1,2,3,4,5,6,10,28,29] [44,45,46,47,48,49,50,51,52,53,54,55,56,57,58] [[],[],[1],[],[],[],[4,5],[3,6],[],[],[9],[10],[11],[12],[8,13]] [none,none,none,none,none,none,none,none,none,none,none,none,none,none,none] [999,999,999,999,999,999,999,999,999,999,999,999,999,999,999] [0,0,0,0,0,0,0,0,0,0,0,0,0,0,0] [999] [λv _ _=>v=(.func (.func 182) #[] #[ZP u,ZP k,ZP q,ZP x]),λv _ _=>v=(ZI C),λv _ _=>v=(ZI a5),λv _ _=>v=(ZI A),λv _ _=>v=(ZI j),λv _ _=>v=(ZI D),λv _ _=>v=(ZI h0),λv _ _=>v=(ZI a6),λv _ _=>v=(ZI D),λv _ _=>v=(ZP G),λv _ _=>v=(ZP G),λv _ _=>v=(.pointer (some ⟨G,0+0,none⟩)),λv _ _=>v=(.pointer (some ⟨G,0+0+0,none⟩)),λv _ _=>v=(ZI z.p.Labels),λv _ _=>v=(ZI a7)] (λR S=>Bs oo R w S∧Stp 13 o B R S∧Bx w.heap.size 14 R S x 150 [.func (.func 182) #[] #[ZP u,ZP k,ZP q,ZP x]]∧Bx w.heap.size 11 R S q 105 [ZP G]∧Bx w.heap.size 13 R S k 3 [ZI F]∧Bx w.heap.size 12 R S u 41 [N]) ao_ (by kernel_rfl) rfl ⟨rfl,rfl,rfl,rfl,rfl,rfl,rfl,rfl,rfl,rfl,trivial⟩ ⟨hB,hS,g,d,i,f⟩ ?_ ⟨E_ _,E_ _,E_ _,E_ _,E_ _,E_ _,E_ _,E_ _,E_ _,E_ _,E_ _,E_ _,E_ _,E_ _,E_ _,trivial⟩ ?_ ?_
      ·rintro f0 l7 B l8 l9 L ⟨hB,hS,g,d,i,f⟩ E;have L:f0=999:=by simpa using L
       subst L;all_goals exact⟨hB.stp E (by decide),hS.trq hO E,g.stp E (by decide),d.stp E (by decide),i.stp E (by decide),f.stp E (by decide)⟩
      ·refine⟨?_,?_,?_,?_,?_,?_,?_,?_,?_,?_,?_,?_,?_,?_,?_,trivial⟩
       ·rintro p6 p7 p8 ha ⟨hB,hS,g,d,i,f⟩-;refine Zs ha ?_;refine l_ (e_ rfl wa_ (g.cell rfl)) ?_;exact Zx rfl
       ·rintro p9 q0 q1 ha ⟨hB,hS,g,d,i,f⟩-;refine Zs ha ?_;refine l_ (g_ rfl) ?_;exact Zx rfl
       ·rintro q2 q3 q4 ha ⟨hB,hS,g,d,i,f⟩ ⟨c5,-⟩;have ha:=ha.c c5;refine Zs ha ?_;refine l_ (C_ rfl rfl c1) ?_;exact Zx rfl
       ·rintro h3 h4 h5 ha ⟨hB,hS,g,d,i,f⟩-;refine Zs ha ?_;refine l_ (g_ rfl) ?_;exact Zx rfl
       ·rintro h6 h7 h8 ha ⟨hB,hS,g,d,i,f⟩-;refine Zs ha ?_;refine l_ (g_ rfl) ?_;exact Zx rfl
       ·rintro h9 i0 i1 ha ⟨hB,hS,g,d,i,f⟩-;refine Zs ha ?_;refine l_ (g_ rfl) ?_;exact Zx rfl
       ·rintro i2 i3 i4 ha ⟨hB,hS,g,d,i,f⟩ ⟨c6,c7,-⟩;have ha:=ha.c c6;have ha:=ha.c c7;refine Zs ha ?_;refine l_ (iS_ rfl rfl c2) ?_;exact Zx rfl
       ·rintro i5 i6 i7 ha ⟨hB,hS,g,d,i,f⟩ ⟨c8,c9,-⟩;have ha:=ha.c c8;have ha:=ha.c c9;refine Zs ha ?_;refine l_ (C_ rfl rfl c3) ?_;exact Zx rfl
       ·rintro i8 i9 j0 ha ⟨hB,hS,g,d,i,f⟩-;refine Zs ha ?_;refine l_ (g_ rfl) ?_;exact Zx rfl
       ·rintro j1 j2 j3 ha ⟨hB,hS,g,d,i,f⟩-;refine Zs ha ?_;refine l_ (e_ rfl uL_ (d.cell rfl)) ?_;exact Zx rfl
       ·rintro j4 j5 j6 ha ⟨hB,hS,g,d,i,f⟩ ⟨d0,-⟩;have ha:=ha.c d0;refine Zs ha ?_;refine l_ (by_ rfl) ?_;exact Zx rfl
       ·rintro j7 j8 j9 ha ⟨hB,hS,g,d,i,f⟩ ⟨d1,-⟩;have ha:=ha.c d1;refine Zs ha ?_;refine l_ (r_ rfl uq_ rfl uc_) ?_;exact Zx rfl
       ·rintro k0 k1 k2 ha ⟨hB,hS,g,d,i,f⟩ ⟨d2,-⟩;have ha:=ha.c d2;refine Zs ha ?_;refine l_ (r_ rfl ud_ rfl tZ_) ?_;exact Zx rfl
       ·rintro k3 k4 k5 ha ⟨hB,hS,g,d,i,f⟩ ⟨d3,-⟩;have ha:=ha.c d3;refine Zs ha ?_;refine l_ (e_ rfl ua_ ((Y.keep hB.keeps) 0 _ rfl)) ?_;exact Zx rfl
       ·rintro k6 k7 k8 ha ⟨hB,hS,g,d,i,f⟩ ⟨d4,d5,-⟩;have ha:=ha.c d4;have ha:=ha.c d5;refine Zs ha ?_;refine l_ (iS_ rfl rfl c4) ?_;exact Zx rfl
      rintro d6 d7 k9 ha ⟨hB,hS,g,d,i,f⟩ ⟨d8,-,d9,-,-,-,-,e0,-,-,-,-,-,-,e1,-⟩;have ha:=ha.c d8;have ha:=ha.c d9;have ha:=ha.c e0;have ha:=ha.c e1;refine aS_ ha ?_;simp only[List.length_cons,List.length_nil,Nat.zero_add,Nat.reduceAdd,List.drop_succ_cons,List.drop_zero];obtain⟨a1,a8,m⟩:=a_ m;refine Zo ?_;refine jn_ (vs:=[ZI a5,ZI a6,ZI a7]) (cap:=[ZP u,ZP k,ZP q,ZP x]) (ih w d7 oo d6 hB a5 a6 a7 u N U f a0 k F i q G _ z d Y g5k x g a1 a8) wb_ rfl ⟨rfl,rfl,rfl,trivial⟩ ?_;rintro l0 l1 ⟨e2,rfl,e3,-,J⟩;refine⟨_,rfl,?_⟩;replace hS:=hS.trans J;replace f:=f.stp J;replace d:=d.stp J;replace g:=g.stp J;replace hB:=hB.stp J;refine Ze [(0,ZI C),(1,ZI A),(2,ZI D),(3,ZP u),(4,ZP k),(5,ZP q),(6,ZP x),(28,ZI z.p.Labels),(29,ZI j)] (y_ (nx (d_ (Zv (C_ rfl rfl (F_ (by omega) (by omega))) (Zm rfl (Ze [(0,_),(1,_),(2,_),(3,_),(4,_),(5,_),(6,_),(28,_),(29,_)] (x_ ?_)))))));have e4:=Zj m;subst e4;refine Zk [(0,_),(1,_),(2,_),(3,_),(4,_),(5,_),(6,_),(28,_),(29,_)] ?_;intro a ha;exact⟨_,(by rw[<-b5];omega),j+1,a1,e2,b6,rfl,by omega,ha,hB,hS,g,d,e3,f⟩
     ·replace m:=ZF a4 m;refine h_ (y_ (nx (d_ (Zv (C_ rfl rfl (F_ (by omega) (by omega))) (Zm rfl (Ze [(0,_),(1,_),(2,_),(3,_),(4,_),(5,_),(6,_),(28,_),(29,_)] (x_ ?_)))))));have e5:=Zj m;subst e5;refine Zk [(0,_),(1,_),(2,_),(3,_),(4,_),(5,_),(6,_),(28,_),(29,_)] ?_;intro a ha;exact⟨_,(by rw[<-b5];omega),j+1,F,s,b6,rfl,by omega,ha,hB,hS,g,d,i,f⟩
    ·have e6:=bx_ Z b4;refine O_ ha ?_;refine Zq (Zv (u_ rfl rfl) (Ze [(0,_),(1,_),(2,_),(3,_),(4,_),(5,_),(6,_),(28,_),(29,_),(30,_)] (nx (b_ ?_))));refine D_ (Zb (decide_eq_false Z)) ?_;refine w_ ?_;refine m_ (m_ (Q_ ?_));refine s_ ?_;refine Zk [] ?_;intro a ha;exact⟨F,s,e6,ha,hB,hS,g,d,i,f⟩
   ·rintro a y ⟨F,s,rfl,ha,hB,hS,g,d,i,f⟩;dsimp only at hF;refine ap_k ha ?_;have e7:=Zj hF;subst e7;refine ln_ (P:=tX_) (vs:=[]) vZ_ trivial ?_;exact⟨s,rfl,i,hB,hS⟩
   ·exact λ_ _ h=>h.elim
def bc_(fuel:Nat)(d:al_)(f:List Int):Option Int:=
  (shl 1 d.p.Labels)>>=λa=>
  (ck (a-1))>>=λb=>
  (X_ fuel 0 0 1 f b d)>>=λc=>
  some c
def gB_(w:World)(r:Int):Ending->World->Prop:=λe w'=>e=.returned (.int .i64 r)∧Keeps w w'
theorem eg_(fuel:Nat)(w:World)(v:Nat)(Q:List Value)(G:al_)(R:Cells w v 0 Q)(S:Rp.rd zt w Q G)(x:Value)(H:Yl)(T:RdL zt w x H)(r:Int)(hF:bc_ fuel G H=some r):
    Calls tX_ 151 #[.pointer (some ⟨v,0,none⟩),x] w (gB_ w r):=by
 unfold bc_ at hF;have g0k:=S;obtain⟨a2,a3,a4,rfl,a5,a6,a7⟩:=S;have hB:Bs (λ_=>1) (col (λ_=>1)) w w:=Bs.start _ _;refine j_ (n:=18) (vs:=[ZP v,x]) Tryz.func151 rfl rfl ?_;refine Zq (Zo ?_);refine aD_ (o:=(col (λ_=>1))) w.heap.size 11 hB.keeps.size (cs:=[ZP v]) rfl rfl ?_;intro U a8 m a I;replace hB:=hB.stp I;refine Zo ?_;refine aD_ (o:=U) w.heap.size 12 hB.keeps.size (cs:=[x]) T.cells1 rfl ?_;intro J V d b y;replace a:=a.stp y;replace hB:=hB.stp y;refine Za rfl (Ze [(2,_),(3,_)] (Zn (Zv (e_ rfl uL_ (a.cell rfl)) (Zv (by_ rfl) (Zv (r_ rfl uq_ rfl uc_) (Zv (r_ rfl ud_ rfl tZ_) (Zv (e_ rfl ua_ ((R.keep hB.keeps) 0 _ rfl)) ?_)))))));obtain⟨W,z,hF⟩:=a_ hF;refine Zv (fI_ rfl rfl z) ?_;obtain⟨A,B,hF⟩:=a_ hF;refine Zv (bE_ rfl rfl B) (Zo ?_);refine aY_ (o:=J) w.heap.size 13 hB.keeps.size (cs:=[ZI 0]) uh_ rfl ?_;intro C X c K q;replace a:=a.stp q;replace b:=b.stp q;replace hB:=hB.stp q;refine am_ trivial ?_;refine cu_ K rfl rfl (of_decide_eq_true rfl) tZ_ rfl rfl ?_;intro L f s;replace a:=a.stp s;replace b:=b.stp s;replace hB:=hB.stp s;replace f:Bx w.heap.size 13 C L c 3 [ZI A]:=f;refine Ze [(2,_),(3,_),(5,_)] (Zn (Zo ?_));refine aY_ (o:=C) w.heap.size 14 hB.keeps.size (cs:=[.nilFunc]) Tryz.zeroValue150 rfl ?_;intro D Y g M i;replace a:=a.stp i;replace b:=b.stp i;replace f:=f.stp i;replace hB:=hB.stp i;refine Ze [(2,_),(3,_),(5,_),(6,_)] (Zn (Zv (gI_ (vs:=[ZP d,ZP c,ZP m,ZP g]) ⟨rfl,rfl,rfl,rfl,trivial⟩) ?_));refine am_ trivial ?_;refine cu_ M rfl rfl (of_decide_eq_true rfl) Tryz.sizeOf150 rfl rfl ?_;intro E j k;replace a:=a.stp k;replace b:=b.stp k;replace f:=f.stp k;replace hB:=hB.stp k;replace j:Bx w.heap.size 14 D E g 150 [.func (.func 182) #[] #[ZP d,ZP c,ZP m,ZP g]]:=j;refine Ze [(5,_),(6,_)] (Zn (Zv (e_ rfl wa_ (j.cell rfl)) ?_));obtain⟨u,F,hF⟩:=a_ hF;refine Zo ?_;refine jn_ (vs:=[ZI 0,ZI 0,ZI 1]) (cap:=[ZP d,ZP c,ZP m,ZP g]) (fF_ fuel w E (λ_=>1) D hB 0 0 1 d x H b T c A f m v _ G a R g0k g j u F) wb_ rfl ⟨rfl,rfl,rfl,trivial⟩ ?_;rintro Z a0 ⟨a1,rfl,N,-,O⟩;refine⟨_,rfl,?_⟩;replace hB:=hB.stp O;refine Ze [(5,_)] (Zn (Zv (e_ rfl ua_ (N.cell rfl)) (Za rfl (Ze [(4,_)] (nx (n_ ?_))))));have P:=Zj hF;subst P
 refine Zr Tryz.results151 [ZI u] ?_;exact⟨rfl,hB.keeps⟩
def bh_(fuel:Nat)(j:al_)(i:List Int):Int->Unit->Option (Lp Unit Unit Bool):=λ(a:Int)(s:Unit)=>
  (aC_ i)>>=λb=>
  (ck (a+1))>>=λc=>
  (delO b a c)>>=λd=>
  (bc_ fuel j d)>>=λf=>
  (ix i a)>>=λg=>
  if f !=g then
    some (.ret false)
  else
    some (.go ())
def cb_(fuel:Nat)(c:al_)(a:List Int):Option Bool:=
  ck (a.length:Int)>>=λ_=>
  (forN (bh_ fuel c a) ((a.length:Int)).toNat 0 ())>>=λb=>
  match b with
  | .inl _=>
    some true
  | .inr r'=>some r'
def fo_(w:World)(r:Bool):Ending->World->Prop:=λe w'=>e=.returned (.bool r)∧Keeps w w'
theorem id_(fuel:Nat)(w:World)(g:Nat)(c3:List Value)(a4:al_)(d5:Cells w g 0 c3)(c4:Rp.rd zt w c3 a4)(i:Value)(f:Yl)(a5:RdL zt w i f)(r:Bool)(hF:cb_ fuel a4 f=some r):
    Calls tX_ 152 #[.pointer (some ⟨g,0,none⟩),i] w (fo_ w r):=by
 unfold cb_ at hF;have g0k:=c4;obtain⟨f2,f3,f4,rfl,f5,f6,f7⟩:=c4;have hB:Bs (λ_=>1) (col (λ_=>1)) w w:=Bs.start _ _;refine j_ (n:=25) (vs:=[ZP g,i]) Tryz.func152 rfl rfl ?_;refine Zq (Za rfl (Ze [(0,_),(1,_)] (nx (b_ (Zq (Zm rfl (Zv (J_ rfl a5 tY_) (Zm rfl (Ze [(0,_),(1,_),(7,_),(8,_)] (nx ?_))))))))));obtain⟨d6,a8,hF⟩:=a_ hF;obtain⟨-,h11a,h11b⟩:=cr_ a8;obtain⟨x,E,hF⟩:=a_ hF;refine A_ (λa s=>∃(D:Tg),x=.inl ()∧Fr a 25 []∧Bs (λ_=>1) D w s) (λa w'=>∃r',x=.inr r'∧bodyPost tX_ Tryz.f152 (fo_ w r') .ret a w') ?_ ?_ ?_
 ·refine f_ ?_;refine z_ (λ(K:Nat) a s=>∃(d:Int)(D:Tg),forN (bh_ fuel a4 f) ((f.length:Int)-d).toNat d ()=some x∧((f.length:Int)-d).toNat=K∧0<=d∧Fr a 25 [(0,ZP g),(1,i),(7,ZI (f.length:Int)),(8,ZI d)]∧Bs (λ_=>1) D w s) _ (λa ha=>⟨0,col (λ_=>1),(by rw[Int.sub_zero];exact E),rfl,Int.le_refl 0,ha.sb,hB⟩) ?_;rintro K16 a s ⟨d,D,F,a9,d7,ha,hB⟩;by_cases m:d<(f.length:Int)
  ·obtain⟨d8,b,G⟩:=bz_ m F;dsimp only[bh_] at b;refine O_ ha ?_;refine Zq (Zv (u_ rfl rfl) (Ze [(0,_),(1,_),(7,_),(8,_),(9,_)] (nx (b_ ?_))));refine M_ (Zb (decide_eq_true m)) ?_;refine h_ (nx (b_ (f_ (Zq (Zm rfl (Za rfl (Ze [(0,_),(1,_),(5,_),(7,_),(8,_)] (nx (b_ ?_)))))))));obtain⟨y,H,b⟩:=a_ b;obtain⟨b0,I,b⟩:=a_ b;obtain⟨A,J,b⟩:=a_ b;obtain⟨B,L,b⟩:=a_ b;obtain⟨M,u,b⟩:=a_ b;refine ZW (Bf:=λd9 s=>Bs (λ_=>1) d9 w s) [(0,_),(1,_),(5,_),(7,_),(8,_)] (Zrg 11 12) [[],[],[1],[],[],[4],[2,3,5],[0,6],[],[],[8,9],[10]] [none,none,some 6,none,none,none,none,none,none,none,none,none] [999,999,999,999,999,999,11,999,999,999,999,999] [0,0,11,0,0,0,11,0,0,0,0,0] [11,999] [.inl (ZP g),.inl i,.inr (λv o a6=>Ow w.heap.size 3 11 o a6 v y),.inl (ZI d),.inl (ZI d),.inl (ZI b0),.inr (λv o a6=>Ow w.heap.size 3 11 o a6 v A),.inl (ZI B),.inl i,.inl (ZI d),.inr (λv o a6=>∃vl,v=adr vl (d.toNat*Rp.sz Int)∧RdL zt w vl f),.inl (ZI M)] hB ⟨λ_ _ _ _ _ _ a7 hb h hs=>h.stp hs a7.1 (Ne.symm hb),λ_ _ _ _ _ _ a7 hb h hs=>h.stp hs a7.1 (Ne.symm hb),λ_ _ _ _ _ _ a7 hb ⟨vl,e,h⟩ hs=>⟨vl,e,h⟩,trivial⟩ ?_ ?_
   ·refine⟨Dp (g_ rfl),Dp (g_ rfl),?_,Dp (g_ rfl),Dp (g_ rfl),Dp (C_ rfl rfl I),?_,?_,Dp (g_ rfl),Dp (g_ rfl),?_,?_,trivial⟩
    ·rintro b1 b2 e0 ha hB-;refine Zs ha ?_;refine o_ (cQ_ b2 b1 11 (by decide) _ f (a5.keep hB.keeps) y H) uV_ ⟨rfl,trivial⟩ ?_;rintro e1 e2 ⟨e3,e4,rfl,C,b3,b4⟩;have b5:=b3.stp' 999 b4;replace C:=C.mono hB.keeps.size;refine⟨_,rfl,?_⟩;exact⟨_,b5,C⟩
    ·rintro b6 b7 N ha hB ⟨q,-⟩;replace q:Ow w.heap.size 3 11 b6 b7 (N.tmps.getD 13 undef) y:=q;generalize b8:N.tmps.getD 13 undef=e5 at q;have ha:=ha.c b8;refine Zs ha ?_;refine o_ (qk_ q J) Tryz.call134 ⟨rfl,rfl,rfl,trivial⟩ ?_;rintro e6 e7 ⟨e8,rfl,b9,c0⟩;refine⟨_,rfl,?_⟩;exact⟨_,c0,b9⟩
    ·rintro O Q R ha hB ⟨j,-⟩;replace j:Ow w.heap.size 3 11 O Q (R.tmps.getD 17 undef) A:=j;generalize c1:R.tmps.getD 17 undef=e9 at j;have ha:=ha.c c1;refine Zs ha ?_;refine o_ (eg_ fuel Q g _ a4 (d5.keep hB.keeps) (Rp.keep g0k hB.keeps) _ A j.z B L) Tryz.call151 ⟨rfl,rfl,trivial⟩ ?_;rintro f0 f1 ⟨rfl,c2⟩;have S:=c2.stp 999 O;refine⟨_,rfl,?_⟩;replace j:=j.stp S;exact⟨_,S,rfl⟩
    ·rintro c5 c6 c7 ha hB-;refine Zs ha ?_;refine an_ a5 u rfl rfl tY_ tZ_ ?_;exact⟨_,Stp.refl _ _ _,⟨_,rfl,a5⟩⟩
    ·rintro c8 c9 d0 ha hB ⟨T,-⟩;obtain⟨d1,U,V⟩:=T;have ha:=ha.c U;refine Zs ha ?_;refine cm_ V u hB rfl rfl ua_ ?_;intro d2 W;cases W
     exact Zx rfl
   rintro _ rfl X d3 d4 ha hB-;refine aS_ ha ?_;refine Zv (dw_ rfl rfl) (Ze [(0,_),(1,_),(7,_),(8,_),(23,_)] (nx ?_));refine p_ rfl (λk=>?_) (λk=>?_)
   ·rw[if_pos k] at b;refine Zq (Za rfl (Ze [(4,_)] (nx (n_ (aq_ (I_ (I_ (aq_ ?_))))))));refine cK_ ?_;have Y:=Zj b;subst Y;refine λa ha=>⟨_,G,?_⟩;refine N_ (P:=tX_) (vs:=[.bool false]) wd_ ⟨rfl,trivial⟩ ?_ a ha;exact⟨rfl,hB.keeps⟩
   ·replace b:=ZF k b;refine h_ (y_ (nx (d_ (Zv (C_ rfl rfl (F_ (by omega) (by omega))) (Zm rfl (Ze [(0,_),(1,_),(7,_),(8,_)] (x_ ?_)))))));have Z:=Zj b;subst Z;refine Zk [(0,_),(1,_),(7,_),(8,_)] ?_;intro a ha;exact⟨_,(by rw[<-a9];omega),d+1,X,G,rfl,by omega,ha,hB⟩
  ·have a0:=bx_ m F;refine O_ ha ?_;refine Zq (Zv (u_ rfl rfl) (Ze [(0,_),(1,_),(7,_),(8,_),(9,_)] (nx (b_ ?_))));refine D_ (Zb (decide_eq_false m)) ?_;refine w_ ?_;refine m_ (m_ (Q_ ?_));refine s_ ?_;refine Zk [] ?_;intro a ha;exact⟨D,a0,ha,hB⟩
 ·rintro a s ⟨D,rfl,ha,hB⟩;dsimp only at hF;refine ap_k ha ?_;refine Zn (Za rfl (Ze [(4,_)] (nx (n_ ?_))));have a1:=Zj hF;subst a1;refine Zr wd_ [.bool true] ?_;exact⟨rfl,hB.keeps⟩
 ·rintro a s ⟨r',rfl,a2⟩;dsimp only at hF;have a3:=Zj hF;subst a3;exact a2
def cC_(g:Int)(c:List Int):((List (List Int))×Int)->Option (Lp ((List (List Int))×Int) ((List (List Int))×Int) (List (List Int))):=λ(s:(List (List Int))×Int)=>
  if decide (s.2<g) then
    (aC_ c)>>=λd=>
    (push d s.2)>>=λf=>
    (push s.1 f)>>=λa=>
    (ck (s.2+1))>>=λb=>
    some (.go (a,b))
  else
    some (.out (s.1,s.2))
def bV_(g:Int)(f:List Int):((List (List Int))×Int)->Option (Lp ((List (List Int))×Int) ((List (List Int))×Int) (List (List Int))):=λ(s:(List (List Int))×Int)=>
  if decide (s.2<g) then
    (aC_ f)>>=λa=>
    (push a s.2)>>=λb=>
    (push s.1 b)>>=λc=>
    (ck (s.2+1))>>=λd=>
    some (.go (c,d))
  else
    some (.out (s.1,s.2))
def di_(fuel:Nat)(j:Int):Int->(List Int)->(List (List Int))->Option (Lp (List (List Int)) (List (List Int)) (List (List Int))):=λ(m:Int)(a:List Int)(s:List (List Int))=>
  if decide ((a.length:Int)>0) then
    (ck ((a.length:Int)-1))>>=λd=>
    (ix a d)>>=λf=>
    (loopF (cC_ j a) fuel (s,f))>>=λg=>
    match g with
    | .inl (i,n)=>
      some (.go i)
    | .inr _=>none
  else
    (loopF (bV_ j a) fuel (s,0))>>=λb=>
    match b with
    | .inl (c,k)=>
      some (.go c)
    | .inr _=>none
def cv_(fuel:Nat)(c:Int):Int->(List (List Int))->Option (Lp (List (List Int)) (List (List Int)) (List (List Int))):=λ(d:Int)(s:List (List Int))=>
  (forI (di_ fuel c) s 0 [])>>=λa=>
  match a with
  | .inl b=>
    some (.go b)
  | .inr _=>none
def dI_(fuel:Nat)(c:Int)(b:Int):Option (List (List Int)):=
  ck b>>=λ_=>
  (forN (cv_ fuel c) (b).toNat 0 ([[]]:List (List Int)))>>=λa=>
  match a with
  | .inl d=>
    some d
  | .inr _=>none
def lW_(oo:Tg)(t:Nat)(w:World)(r:Yk):Ending->World->Prop:=λe w'=>∃(a:Value)(c:List Hv)(o':Tg),e=.returned (a)∧Ow w.heap.size 41 t o' w' a c∧Rws w.heap.size 3 (t+1) o' w' c r∧Keeps w w'∧∀b,b<w.heap.size->o' b=oo b
theorem iN_(fuel:Nat)(w:World)(oo:Tg)(t:Nat)(ht:2<=t)(f:Int)(g:Int)(r:Yk)(hF:dI_ fuel f g=some r):
    Calls tX_ 146 #[.int .i64 f,.int .i64 g] w (lW_ oo t w r):=by
 unfold dI_ at hF;have hB:Bs oo (col oo) w w:=Bs.start _ _;refine j_ (n:=48) (vs:=[ZI f,ZI g]) Tryz.func146 rfl rfl ?_;generalize col oo=o at*;refine Zq (Za rfl (Ze [(0,_),(1,_)] (Zn (Zo ?_))));refine gj_ w.heap.size 11 hB.keeps.size (o:=o) (cs:=[.slice none 0 0]) (xs:=([⟨.slice none 0 0⟩]:List Hv)) (vs:=[(0,.slice none 0 0)]) ⟨_,_,rfl,show Rp.rd o w [.slice none 0 0] (⟨.slice none 0 0⟩:Hv) from ⟨rfl,rfl⟩,rfl⟩ rfl ⟨rfl,rfl,trivial⟩ ub_ uf_ uk_ (by decide) (fill1 rfl) (by simp) ?_;intro l0 n2 j1 n3 n4;replace hB:=hB.stp n4;have n5:Rws w.heap.size 3 12 l0 n2 [⟨.slice none 0 0⟩] ([[]]:Yk):=Rws.make _ _ _ _ _ 1;refine Za rfl (Ze [(0,_),(1,_),(5,_)] (nx (b_ (Zq (Zm rfl (Zm rfl (Ze [(0,_),(5,_),(12,_),(13,_)] (nx ?_))))))));obtain⟨n6,j2,hF⟩:=a_ hF;obtain⟨-,h16a,h16b⟩:=cr_ j2;obtain⟨e6,e7,hF⟩:=a_ hF;refine A_ (λa T=>∃(s:Yk)(j:Value)(B:List Hv)(J:Tg),e6=.inl s∧Fr a 48 [(5,j)]∧Bs oo J w T∧Ow w.heap.size 41 11 J T j B∧Rws w.heap.size 3 12 J T B s) (λ_ _=>False) ?_ ?_ ?_
 ·refine f_ ?_;refine z_ (λ(K:Nat) a T=>∃(b:Int)(s:Yk)(j:Value)(B:List Hv)(J:Tg),forN (cv_ fuel f) (g-b).toNat b s=some e6∧(g-b).toNat=K∧0<=b∧Fr a 48 [(0,ZI f),(5,j),(12,ZI g),(13,ZI b)]∧Bs oo J w T∧Ow w.heap.size 41 11 J T j B∧Rws w.heap.size 3 12 J T B s) _ (λa ha=>⟨0,([[]]:Yk),j1,([⟨.slice none 0 0⟩]:List Hv),l0,(by rw[Int.sub_zero];exact e7),rfl,Int.le_refl 0,ha.sb,hB,n3,n5⟩) ?_;rintro K21 a T ⟨b,s,j,B,J,e8,j3,n7,ha,hB,u,c⟩;by_cases c8:b<g
  ·obtain⟨n8,b7,j4⟩:=bz_ c8 e8;dsimp only[cv_] at b7;refine O_ ha ?_;refine Zq (Zv (u_ rfl rfl) (Ze [(0,_),(5,_),(12,_),(13,_),(14,_)] (nx (b_ ?_))));refine M_ (Zb (decide_eq_true c8)) ?_;refine h_ (nx (b_ (f_ (Zq (Za rfl (Ze [(0,_),(5,_),(6,_),(12,_),(13,_)] (nx (b_ (Zq (Zm rfl (Zv (J_ rfl (c.z u) ub_) (Zm rfl ?_))))))))))));refine Ze [(0,_),(6,_),(12,_),(13,_),(15,_),(16,_),(17,_)] (nx ?_);have j5:Ow w.heap.size 41 13 J T (.slice none 0 0) ([]:List Hv):=Ow.nil _ _ _ _ _;have j6:Rws w.heap.size 3 14 J T [] ([]:Yk):=Rws.nil _ _ _ _ _;obtain⟨e9,f0,b7⟩:=a_ b7;refine A_ (λa U=>∃(V:Yk)(i:Value)(W:List Hv)(H:Tg),e9=.inl V∧Fr a 48 [(0,ZI f),(6,i),(12,ZI g),(13,ZI b)]∧Bs oo H w U∧Ow w.heap.size 41 13 H U i W∧Rws w.heap.size 3 14 H U W V) (λ_ _=>False) ?_ ?_ ?_
   ·refine f_ ?_;refine z_ (λ(K:Nat) a U=>∃(d:Int)(V:Yk)(i:Value)(W:List Hv)(H:Tg),forI (di_ fuel f) (s.drop d.toNat) d V=some e9∧(s.drop d.toNat).length=K∧0<=d∧Fr a 48 [(0,ZI f),(6,i),(12,ZI g),(13,ZI b),(15,j),(16,ZI (s.length:Int)),(17,ZI d)]∧Bs oo H w U∧Ow w.heap.size 41 13 H U i W∧Rws w.heap.size 3 14 H U W V∧Ow w.heap.size 41 11 H U j B∧Rws w.heap.size 3 12 H U B s) _ (λa ha=>⟨0,[],.slice none 0 0,[],J,f0,rfl,Int.le_refl 0,ha.sb,hB,j5,j6,u,c⟩) ?_;rintro K40 a U ⟨d,V,i,W,H,f1,f2,j7,ha,hB,a1,a2,u,c⟩;by_cases c9:d<(s.length:Int)
    ·obtain⟨b8,n9,f3,I,f4⟩:=R_ j7 c9 f1;have hle:=(c.z u).len_le;dsimp only[di_] at I;refine O_ ha ?_;refine Zq (Zv (u_ rfl rfl) (Ze [(0,_),(6,_),(12,_),(13,_),(15,_),(16,_),(17,_),(18,_)] (nx (b_ ?_))));refine M_ (Zb (decide_eq_true c9)) ?_;refine h_ (nx (b_ (f_ (Zq ?_))));obtain⟨D,j8,b9,c0⟩:=c.ix f3;refine Zo ?_;refine fS_ u j8 rfl rfl ub_ uf_ ?_;intro o0 o1 o2 j9 k0;obtain⟨rfl,-⟩:=k0;refine Zv (e_ rfl ug_ (i_ j9)) (Za rfl (Ze [(0,_),(6,_),(8,_),(12,_),(13,_),(15,_),(16,_),(17,_)] (Zn (Za rfl (Ze [(0,_),(6,_),(8,_),(9,_),(12,_),(13,_),(15,_),(16,_),(17,_)] (nx (b_ (Zq (Zm rfl (Zv (bt_ rfl (c.at b9 c0) tY_) (Zv (ef_ rfl rfl) (Ze [(0,_),(6,_),(8,_),(9,_),(12,_),(13,_),(15,_),(16,_),(17,_),(23,_)] ?_))))))))))));refine nx ?_;refine p_ rfl (λd7=>?_) (λd7=>?_)
     ·rw[if_pos d7] at I;refine d_ (Zm rfl (Zm rfl (Zv (bt_ rfl (c.at b9 c0) tY_) ?_)));obtain⟨o3,f5,I⟩:=a_ I;refine Zv (bE_ rfl rfl f5) ?_;obtain⟨d0,f6,I⟩:=a_ I;refine Zo ?_;refine fS_ (c.at b9 c0) f6 rfl rfl tY_ tZ_ ?_;intro o4 o5 o6 k1 k2;cases k2
      refine Zv (e_ rfl ua_ (i_ k1)) (Za rfl (Ze [(0,_),(6,_),(8,_),(9,_),(12,_),(13,_),(15,_),(16,_),(17,_)] (Zn (Zm rfl (Za rfl (Ze [(0,_),(6,_),(8,_),(10,_),(12,_),(13,_),(15,_),(16,_),(17,_)] (nx ?_)))))));obtain⟨f7,f8,I⟩:=a_ I;refine A_ (λa L=>∃(a3:Yk)(N:Int)(O:Value)(X:List Hv)(E:Tg),f7=.inl (a3,N)∧Fr a 48 [(0,ZI f),(6,O),(12,ZI g),(13,ZI b),(15,j),(16,ZI (s.length:Int)),(17,ZI d)]∧Bs oo E w L∧Ow w.heap.size 41 13 E L O X∧Rws w.heap.size 3 14 E L X a3∧Ow w.heap.size 41 11 E L j B∧Rws w.heap.size 3 12 E L B s) (λ_ _=>False) ?_ ?_ ?_
      ·refine f_ ?_;refine z_ (λ(K:Nat) a L=>∃(a3:Yk)(N:Int)(O:Value)(X:List Hv)(E:Tg),loopF (cC_ f b8) K (a3,N)=some f7∧Fr a 48 [(0,ZI f),(6,O),(8,D),(10,ZI N),(12,ZI g),(13,ZI b),(15,j),(16,ZI (s.length:Int)),(17,ZI d)]∧Bs oo E w L∧Ow w.heap.size 41 13 E L O X∧Rws w.heap.size 3 14 E L X a3∧Ow w.heap.size 41 11 E L j B∧Rws w.heap.size 3 12 E L B s) fuel (λa ha=>⟨V,d0,i,W,H,f8,ha.sb,hB,a1,a2,u,c⟩) ?_;rintro K75 a L ⟨a3,N,O,X,E,k3,ha,hB,S,F,u,c⟩;obtain⟨K79,o7,o8,P,f9⟩:=ad_ k3;dsimp only[cC_] at P;refine O_ ha ?_;refine b_ (Zq (Zm rfl (Zm rfl (Zv (u_ rfl rfl) (Ze [(0,_),(6,_),(8,_),(10,_),(12,_),(13,_),(15,_),(16,_),(17,_),(33,_)] (nx ?_))))));refine p_ rfl (λd8=>?_) (λd8=>?_)
       ·rw[if_pos d8] at P;refine h_ (nx (b_ (f_ (d_ (Zm rfl (Zm rfl ?_))))));obtain⟨k4,g0,P⟩:=a_ P;refine Zo ?_;refine o_ (cQ_ L E 15 (by decide) _ b8 (c.at b9 c0).z k4 g0) uV_ ⟨rfl,trivial⟩ ?_;rintro o9 p0 ⟨p1,k5,rfl,c1,k6,k7⟩;have c2:=k6.stp' 15 k7;replace c1:=c1.mono hB.keeps.size;refine⟨_,rfl,?_⟩;replace S:=S.stp c2;replace F:=F.stp c2;replace u:=u.stp c2;replace c:=c.stp c2;replace hB:=hB.stp c2;refine Zm rfl (Zo ?_);refine aB_ (o:=k5) (cs:=[ZI N]) (xs:=([N]:Yl)) (vs:=[(0,ZI N)]) ⟨_,_,rfl,rfl,rfl⟩ rfl ⟨rfl,rfl,trivial⟩ tY_ tZ_ uh_ (by decide) (fill1 rfl) (by simp) ?_;intro p2 p3 p4 k8 b6 p5;replace S:=S.stp b6;replace F:=F.stp b6;replace u:=u.stp b6;replace c:=c.stp b6;replace c1:=c1.stp b6;replace hB:=hB.stp b6;obtain⟨p6,g1,P⟩:=a_ P;refine Zo ?_;refine bf_ c1 k8 (ai_ g1) (by decide) hB.keeps.size rfl rfl tY_ es_ rfl (by decide) ?_;intro k9 p7 a4 Q a5;replace S:=S.stp a5;replace F:=F.stp a5;replace u:=u.stp a5;replace c:=c.stp a5;replace hB:=hB.stp a5;refine Zo ?_;refine aB_ (o:=k9) (cs:=[a4]) (xs:=([⟨a4⟩]:List Hv)) (vs:=[(0,a4)]) ⟨_,_,rfl,jb_ Q,rfl⟩ rfl ⟨rfl,rfl,trivial⟩ ub_ uf_ uk_ (by decide) (fill1 Q.cells1) (by simp) ?_;intro l1 l2 l3 g2 Y l4;replace S:=S.stp Y;replace F:=F.stp Y;replace u:=u.stp Y;replace c:=c.stp Y;replace Q:=Q.stp Y;replace hB:=hB.stp Y;obtain⟨g3,d9,P⟩:=a_ P;obtain⟨g4,g5⟩:=F.pushV d9 a4;refine Zo ?_;refine bf_ S g2 (ai_ g4) (by decide) hB.keeps.size rfl rfl ub_ gF_ rfl (by decide) ?_;intro d1 l5 b2 c3 a6;replace F:=F.stp a6;replace u:=u.stp a6;replace c:=c.stp a6;replace Q:=Q.stp a6;replace hB:=hB.stp a6;have d2:=F.push Q (by decide) (by decide);rw[<-g5] at d2;clear F Q;have b3:=fe_ 15 14 d1;replace u:=u.rc b3 (by decide) (by decide);replace c:=c.rc b3 (by decide) (by decide);replace c3:=c3.rc b3 (by decide) (by decide);replace hB:=hB.rc b3 (by decide);generalize mrg 15 14 d1=g6 at*;refine Za rfl (Ze [(0,_),(6,_),(8,_),(10,_),(12,_),(13,_),(15,_),(16,_),(17,_)] (y_ (nx (d_ (Zm rfl ?_)))));obtain⟨c4,e0,P⟩:=a_ P;refine Zv (C_ rfl rfl e0) (Za rfl (Ze [(0,_),(6,_),(8,_),(10,_),(12,_),(13,_),(15,_),(16,_),(17,_)] (x_ ?_)));have g7:=Zj P
        subst g7;refine Zk [(0,_),(6,_),(8,_),(10,_),(12,_),(13,_),(15,_),(16,_),(17,_)] ?_;intro a ha;exact⟨K79,by omega,g3,c4,b2,X++[⟨a4⟩],g6,f9,ha,hB,c3,d2,u,c⟩
       ·replace P:=ZF d8 P;refine w_ ?_;refine m_ (m_ (Q_ ?_));refine s_ ?_;have g8:=Zj P;subst g8;refine Zk [(0,_),(6,_),(12,_),(13,_),(15,_),(16,_),(17,_)] ?_;intro a ha;exact⟨a3,N,O,X,E,f9,ha,hB,S,F,u,c⟩
      ·rintro a L ⟨a3,N,O,X,E,rfl,ha,hB,S,F,u,c⟩;dsimp only at I;refine ap_k ha ?_;refine y_ (nx (d_ (Zv (C_ rfl rfl (F_ (by omega) (by omega))) (Zm rfl (Ze [(0,_),(6,_),(12,_),(13,_),(15,_),(16,_),(17,_)] (x_ ?_))))));have g9:=Zj I;subst g9;refine Zk [(0,_),(6,_),(12,_),(13,_),(15,_),(16,_),(17,_)] ?_;intro a ha;exact⟨_,(by rw[<-f2];simp only[List.length_drop];omega),d+1,a3,O,X,E,f4,rfl,by omega,ha,hB,S,F,u,c⟩
      ·exact λ_ _ h=>h.elim
     ·replace I:=ZF d7 I;refine h_ (Zn (Zm rfl (Za rfl (Ze [(0,_),(6,_),(8,_),(10,_),(12,_),(13,_),(15,_),(16,_),(17,_)] (nx ?_)))));obtain⟨d3,e1,I⟩:=a_ I;refine A_ (λa v=>∃(M:Yk)(x:Int)(y:Value)(G:List Hv)(m:Tg),d3=.inl (M,x)∧Fr a 48 [(0,ZI f),(6,y),(12,ZI g),(13,ZI b),(15,j),(16,ZI (s.length:Int)),(17,ZI d)]∧Bs oo m w v∧Ow w.heap.size 41 13 m v y G∧Rws w.heap.size 3 14 m v G M∧Ow w.heap.size 41 11 m v j B∧Rws w.heap.size 3 12 m v B s) (λ_ _=>False) ?_ ?_ ?_
      ·refine f_ ?_;refine z_ (λ(K:Nat) a v=>∃(M:Yk)(x:Int)(y:Value)(G:List Hv)(m:Tg),loopF (bV_ f b8) K (M,x)=some d3∧Fr a 48 [(0,ZI f),(6,y),(8,D),(10,ZI x),(12,ZI g),(13,ZI b),(15,j),(16,ZI (s.length:Int)),(17,ZI d)]∧Bs oo m w v∧Ow w.heap.size 41 13 m v y G∧Rws w.heap.size 3 14 m v G M∧Ow w.heap.size 41 11 m v j B∧Rws w.heap.size 3 12 m v B s) fuel (λa ha=>⟨V,0,i,W,H,e1,ha.sb,hB,a1,a2,u,c⟩) ?_;rintro K136 a v ⟨M,x,y,G,m,h0,ha,hB,C,q,u,c⟩;obtain⟨K140,l6,l7,A,d4⟩:=ad_ h0;dsimp only[bV_] at A;refine O_ ha ?_;refine b_ (Zq (Zm rfl (Zm rfl (Zv (u_ rfl rfl) (Ze [(0,_),(6,_),(8,_),(10,_),(12,_),(13,_),(15,_),(16,_),(17,_),(33,_)] (nx ?_))))));refine p_ rfl (λc5=>?_) (λc5=>?_)
       ·rw[if_pos c5] at A;refine h_ (nx (b_ (f_ (d_ (Zm rfl (Zm rfl ?_))))));obtain⟨h1,e2,A⟩:=a_ A;refine Zo ?_;refine o_ (cQ_ v m 16 (by decide) _ b8 (c.at b9 c0).z h1 e2) uV_ ⟨rfl,trivial⟩ ?_;rintro l8 l9 ⟨m0,h2,rfl,a7,h3,h4⟩;have a8:=h3.stp' 16 h4;replace a7:=a7.mono hB.keeps.size;refine⟨_,rfl,?_⟩;replace C:=C.stp a8;replace q:=q.stp a8;replace u:=u.stp a8;replace c:=c.stp a8;replace hB:=hB.stp a8;refine Zm rfl (Zo ?_);refine aB_ (o:=h2) (cs:=[ZI x]) (xs:=([x]:Yl)) (vs:=[(0,ZI x)]) ⟨_,_,rfl,rfl,rfl⟩ rfl ⟨rfl,rfl,trivial⟩ tY_ tZ_ uh_ (by decide) (fill1 rfl) (by simp) ?_;intro m1 m2 m3 h5 Z m4;replace C:=C.stp Z;replace q:=q.stp Z;replace u:=u.stp Z;replace c:=c.stp Z;replace a7:=a7.stp Z;replace hB:=hB.stp Z;obtain⟨m5,e3,A⟩:=a_ A;refine Zo ?_;refine bf_ a7 h5 (ai_ e3) (by decide) hB.keeps.size rfl rfl tY_ es_ rfl (by decide) ?_;intro h6 m6 a9 R b0;replace C:=C.stp b0;replace q:=q.stp b0;replace u:=u.stp b0;replace c:=c.stp b0;replace hB:=hB.stp b0;refine Zo ?_;refine aB_ (o:=h6) (cs:=[a9]) (xs:=([⟨a9⟩]:List Hv)) (vs:=[(0,a9)]) ⟨_,_,rfl,jb_ R,rfl⟩ rfl ⟨rfl,rfl,trivial⟩ ub_ uf_ uk_ (by decide) (fill1 R.cells1) (by simp) ?_;intro m7 m8 m9 h7 a0 n0;replace C:=C.stp a0;replace q:=q.stp a0;replace u:=u.stp a0;replace c:=c.stp a0;replace R:=R.stp a0;replace hB:=hB.stp a0;obtain⟨h8,e4,A⟩:=a_ A;obtain⟨h9,i0⟩:=q.pushV e4 a9;refine Zo ?_;refine bf_ C h7 (ai_ h9) (by decide) hB.keeps.size rfl rfl ub_ gF_ rfl (by decide) ?_;intro d5 n1 b4 c6 b1;replace q:=q.stp b1;replace u:=u.stp b1;replace c:=c.stp b1;replace R:=R.stp b1;replace hB:=hB.stp b1;have d6:=q.push R (by decide) (by decide);rw[<-i0] at d6;clear q R;have b5:=fe_ 16 14 d5;replace u:=u.rc b5 (by decide) (by decide);replace c:=c.rc b5 (by decide) (by decide);replace c6:=c6.rc b5 (by decide) (by decide);replace hB:=hB.rc b5 (by decide);generalize mrg 16 14 d5=i1 at*;refine Za rfl (Ze [(0,_),(6,_),(8,_),(10,_),(12,_),(13,_),(15,_),(16,_),(17,_)] (y_ (nx (d_ (Zm rfl ?_)))));obtain⟨c7,e5,A⟩:=a_ A;refine Zv (C_ rfl rfl e5) (Za rfl (Ze [(0,_),(6,_),(8,_),(10,_),(12,_),(13,_),(15,_),(16,_),(17,_)] (x_ ?_)))
        have i2:=Zj A;subst i2;refine Zk [(0,_),(6,_),(8,_),(10,_),(12,_),(13,_),(15,_),(16,_),(17,_)] ?_;intro a ha;exact⟨K140,by omega,h8,c7,b4,G++[⟨a9⟩],i1,d4,ha,hB,c6,d6,u,c⟩
       ·replace A:=ZF c5 A;refine w_ ?_;refine m_ (m_ (Q_ ?_));refine s_ ?_;have i3:=Zj A;subst i3;refine Zk [(0,_),(6,_),(12,_),(13,_),(15,_),(16,_),(17,_)] ?_;intro a ha;exact⟨M,x,y,G,m,d4,ha,hB,C,q,u,c⟩
      ·rintro a v ⟨M,x,y,G,m,rfl,ha,hB,C,q,u,c⟩;dsimp only at I;refine ap_k ha ?_;refine y_ (nx (d_ (Zv (C_ rfl rfl (F_ (by omega) (by omega))) (Zm rfl (Ze [(0,_),(6,_),(12,_),(13,_),(15,_),(16,_),(17,_)] (x_ ?_))))));have i4:=Zj I;subst i4;refine Zk [(0,_),(6,_),(12,_),(13,_),(15,_),(16,_),(17,_)] ?_;intro a ha;exact⟨_,(by rw[<-f2];simp only[List.length_drop];omega),d+1,M,y,G,m,f4,rfl,by omega,ha,hB,C,q,u,c⟩
      ·exact λ_ _ h=>h.elim
    ·have i5:=S_ c9 f1;refine O_ ha ?_;refine Zq (Zv (u_ rfl rfl) (Ze [(0,_),(6,_),(12,_),(13,_),(15,_),(16,_),(17,_),(18,_)] (nx (b_ ?_))));refine D_ (Zb (decide_eq_false c9)) ?_;refine w_ ?_;refine m_ (m_ (Q_ ?_));refine s_ ?_;refine Zk [(0,_),(6,_),(12,_),(13,_)] ?_;intro a ha;exact⟨V,i,W,H,i5,ha,hB,a1,a2⟩
   ·rintro a U ⟨V,i,W,H,rfl,ha,hB,a1,a2⟩;dsimp only at b7;refine ap_k ha ?_;refine nx (d_ (Zm rfl (Za rfl (Ze [(0,ZI f),(5,i),(12,ZI g),(13,ZI b)] (y_ (nx (d_ (Zv (C_ rfl rfl (F_ (by omega) (by omega))) (Zm rfl (Ze [(0,_),(5,_),(12,_),(13,_)] (x_ ?_)))))))))));have i6:=Zj b7;subst i6;replace a1:=a1.rtg 11 (by decide);replace a2:=a2.rtg_ne (k:=13) (k':=11) (by decide) (by decide) (by decide);replace hB:=hB.rtg 13 11 (by decide) (by decide);generalize (rtg 13 11 H)=i7 at*;replace a1:=a1.rtg_ne (k:=14) (k':=12) (by decide) (by decide) (by decide);replace a2:=a2.rtg 12 (by decide);replace hB:=hB.rtg 14 12 (by decide) (by decide);generalize (rtg 14 12 i7)=i8 at*;refine Zk [(0,_),(5,_),(12,_),(13,_)] ?_;intro a ha;exact⟨_,(by rw[<-j3];omega),b+1,V,i,W,i8,j4,rfl,by omega,ha,hB,a1,a2⟩
   ·exact λ_ _ h=>h.elim
  ·have i9:=bx_ c8 e8;refine O_ ha ?_;refine Zq (Zv (u_ rfl rfl) (Ze [(0,_),(5,_),(12,_),(13,_),(14,_)] (nx (b_ ?_))));refine D_ (Zb (decide_eq_false c8)) ?_;refine w_ ?_;refine m_ (m_ (Q_ ?_));refine s_ ?_;refine Zk [(5,_)] ?_;intro a ha;exact⟨s,j,B,J,i9,ha,hB,u,c⟩
 ·rintro a T ⟨s,j,B,J,rfl,ha,hB,u,c⟩;dsimp only at hF;refine ap_k ha ?_;refine Zn (Zm rfl (Za rfl (Ze [(4,_)] (nx (n_ ?_)))));have j0:=Zj hF;subst j0;refine Zr Tryz.results146 [j] ?_;exact⟨_,B,rt2 oo J w.heap.size 11 12 t,rfl,u.rt2 hB (by decide) (by decide) t,c.rt2 hB (by decide) (by decide) (by decide) t,hB.keeps,fA_ _ _ _ _ _ _⟩
 ·exact λ_ _ h=>h.elim
end
end Go.Proofs.YtdbbeldgdgonfaaGreat
