/- Part 15 of what this claim rests on (pack.py). -/
import Derived.Test.YtdbbeldgdgonfaaGreatP14
namespace Go.Proofs.YtdbbeldgdgonfaaGreat
open Tryz renaming prog→wQ_, zeroValue109→yk_, underlying28→wW_, sizeOf3→wS_, isAgg3→wT_, isAgg28→wX_, sizeOf28→wU_, underlying87→xr_, underlying109→xv_, sizeOf87→xG_, isAgg87→xH_, underlying41→wR_, zeroValue3→xd_, sizeOf4→xA_, isAgg109→xB_, sizeOf109→xC_, results111→zt_, call111→yl_, results112→zu_, zeroValue28→xf_, results76→zv_, underlying22→wV_, sizeOf41→wY_, results49→ym_
set_option linter.unusedSimpArgs false
set_option linter.unusedVariables false
section
set_option maxRecDepth 100000
set_option maxHeartbeats 2000000
open Go.RowKit
theorem eu_:Inf wQ_ 3 (.int .i64 0) 1 8:=by unfold Inf;kernel_rfl
theorem kn_:Inf wQ_ 4 (.bool false) 1 1:=by unfold Inf;kernel_rfl
theorem ki_:Inf wQ_ 41 (.slice none 0 0) 1 24:=by unfold Inf;kernel_rfl
theorem az_:(wQ_.info? 28).map (·.size)=some 4:=by kernel_rfl
theorem cV_:(wQ_.info? 109).map (·.size)=some 5:=by kernel_rfl
def dk_(c:b_):(Int×Int)->Option (Lp (Int×Int) (Int×Int) bw_):=λ(s:Int×Int)=>
  if decide (s.2<c.Degree) then
    (ck (s.1*c.Labels))>>=λa=>
    (ck (s.2+1))>>=λb=>
    some (.go (a,b))
  else
    some (.out (s.1,s.2))
def cH_(d:b_):((List Int)×Int)->Option (Lp ((List Int)×Int) ((List Int)×Int) bw_):=λ(s:(List Int)×Int)=>
  if decide ((s.1.length:Int)<d.Degree) then
    (rem s.2 d.Labels)>>=λa=>
    (push s.1 a)>>=λb=>
    (quo s.2 d.Labels)>>=λc=>
    some (.go (b,c))
  else
    some (.out (s.1,s.2))
def dY_(fuel:Nat)(g:b_):Int->(List Bool)->Option (Lp (List Bool) (List Bool) bw_):=λ(a:Int)(s:List Bool)=>
  (loopF (cH_ g) fuel ([],a))>>=λb=>
  match b with
  | .inl (c,i)=>
    (hF_ fuel g c)>>=λd=>
    (ix s a)>>=λj=>
    (st s a d)>>=λf=>
    some (.go f)
  | .inr _=>none
def fV_(fuel:Nat)(b:b_):Option bw_:=
  (loopF (dk_ b) fuel (1,0))>>=λc=>
  match c with
  | .inl (d,i)=>
    (mk (Rz.z:Bool) d)>>=λa=>
    ck (a.length:Int)>>=λ_=>
    (forN (dY_ fuel b) ((a.length:Int)).toNat 0 a)>>=λf=>
    match f with
    | .inl g=>
      some (⟨⟨b.Labels,b.Degree,b.Nodes,b.Edges⟩,g⟩:bw_)
    | .inr _=>none
  | .inr _=>none
def pR_(oo:Tg)(t:Nat)(w:World)(r:bw_):Ending->World->Prop:=λe w'=>∃(a:List Value)(o':Tg),e=.returned (.agg a.toArray)∧Rp.rd o' w' a r∧Keeps w w'∧∀b,b<w.heap.size->o' b=oo b
theorem qq_(fuel:Nat)(w:World)(oo:Tg)(t:Nat)(ht:2<=t)(i9:List Value)(i:b_)(g2:Rp.rd oo w i9 i)(r:bw_)(hF:fV_ fuel i=some r):
    Calls wQ_ 109 #[.agg i9.toArray] w (pR_ oo t w r):=by
 unfold fV_ at hF;replace g2:=Rp.col g2;obtain⟨N,O,rfl,u,x⟩:=g2;have hB:Bs oo (col oo) w w:=Bs.start _ _;refine i_ (n:=55) (vs:=[.agg #[ZI i.Labels,ZI i.Degree,N,O]]) Tryz.func109 rfl rfl ?_;generalize col oo=o at*;refine Zq (Zo ?_);refine as_ (o:=o) w.heap.size 11 hB.keeps.size (cs:=[ZI i.Labels,ZI i.Degree,N,O]) rfl rfl ?_;intro l0 n7 D B l1;obtain⟨u,x,hB⟩:=ZS l1 (A3 u x hB);refine Zo ?_;refine av_ (o:=l0) w.heap.size 12 hB.keeps.size (cs:=[ZI 0,ZI 0,.slice none 0 0,.slice none 0 0,.slice none 0 0]) yk_ rfl ?_;intro g3 l2 d g g4;obtain⟨u,x,B,hB⟩:=ZS g4 (A4 u x B hB);refine Ze [(1,_),(2,_)] (Zn (Za rfl (Ze [(1,_),(2,_),(3,_)] (nx (c_ (Zq (Za rfl (Ze [(1,_),(2,_),(3,_),(4,_)] (nx ?_)))))))));obtain⟨c1,c2,hF⟩:=a_ hF;refine v_ (λa R=>∃(S:Int)(U:Int),∃(L:Tg),c1=.inl (S,U)∧Fr a 55 [(1,ZP D),(2,ZP d),(3,ZI S)]∧Bs oo L w R∧Bz w 11 L R D 28 [ZI i.Labels,ZI i.Degree,N,O]∧RdL L R N (i.Nodes:Yk)∧RdL L R O (i.Edges:Yk)∧Bz w 12 L R d 109 [ZI 0,ZI 0,.slice none 0 0,.slice none 0 0,.slice none 0 0]) (λ_ _=>False) ?_ ?_ ?_
 ·refine f_ ?_;refine w_ (λ(K:Nat) a R=>∃(S:Int)(U:Int),∃(L:Tg),loopF (dk_ i) K (S,U)=some c1∧Fr a 55 [(1,ZP D),(2,ZP d),(3,ZI S),(4,ZI U)]∧Bs oo L w R∧Bz w 11 L R D 28 [ZI i.Labels,ZI i.Degree,N,O]∧RdL L R N (i.Nodes:Yk)∧RdL L R O (i.Edges:Yk)∧Bz w 12 L R d 109 [ZI 0,ZI 0,.slice none 0 0,.slice none 0 0,.slice none 0 0]) fuel (λa ha=>⟨1,0,g3,c2,ha.sb,hB,B,u,x,g⟩) ?_;rintro K23 a R ⟨S,U,L,g5,ha,hB,B,u,x,g⟩;obtain⟨K27,l3,l4,V,c3⟩:=X_ g5;dsimp only[dk_] at V;refine J_ ha ?_;refine c_ (Zq (Zm rfl (Zv (m_ rfl wW_ rfl wS_) (Zv (e_ rfl wT_ (B.cell rfl)) (Zv (r_ rfl rfl) (Ze [(1,_),(2,_),(3,_),(4,_),(12,_)] (nx ?_)))))));refine l_ rfl (λb1=>?_) (λb1=>?_)
  ·rw[if_pos b1] at V;refine g_ (nx (c_ (f_ (d_ (Zm rfl (Zv (m_ rfl wW_ rfl wS_) (Zv (e_ rfl wT_ (B.cell rfl)) ?_)))))));obtain⟨a7,c4,V⟩:=a_ V;refine Zv (kb_ rfl rfl c4) (Za rfl (Ze [(1,_),(2,_),(3,_),(4,_)] (x_ (nx (d_ (Zm rfl ?_))))));obtain⟨b2,c5,V⟩:=a_ V;refine Zv (C_ rfl rfl c5) (Za rfl (Ze [(1,_),(2,_),(3,_),(4,_)] (u_ ?_)));have g6:=Zj V;subst g6;refine Zk [(1,_),(2,_),(3,_),(4,_)] ?_;intro a ha;exact⟨K27,by omega,a7,b2,L,c3,ha,hB,B,u,x,g⟩
  ·replace V:=ZF b1 V;refine s_ ?_;refine n_ (n_ (N_ ?_));refine p_ ?_;have g7:=Zj V;subst g7;refine Zk [(1,_),(2,_),(3,_)] ?_;intro a ha;exact⟨S,U,L,c3,ha,hB,B,u,x,g⟩
 ·rintro a R ⟨S,U,L,rfl,ha,hB,B,u,x,g⟩;dsimp only at hF;refine ap_k ha ?_;refine nx (c_ ?_);obtain⟨q,c6,hF⟩:=a_ hF;refine jz_ (o:=L) [(1,ZP D),(2,ZP d),(3,ZI S)] [1,2,3] [19,20,21,22,5] [[],[],[1],[0,2],[]] [none,none,some 3,none,none] [999,999,13,999,14] [0,0,13,13,14] [13,14,999] [] [] [[],[],[],[],[]] [false,false,false,false,false] [λv _ _=>v=(.agg #[ZI i.Labels,ZI i.Degree,N,O]),λv _ _=>v=(ZI S),λv o c7=>Oz w 4 13 o c7 v q,λv o c7=>∃g0,v=.agg #[ZI i.Labels,ZI i.Degree,N,O,g0]∧Oz w 4 13 o c7 g0 q,λv o c7=>∃b:Nat,v=ZP b∧Bz w 14 o c7 b 109 [ZI 0,ZI 0,.slice none 0 0,.slice none 0 0,.slice none 0 0]] [] (λW X=>Bs oo W w X∧Bz w 11 W X D 28 [ZI i.Labels,ZI i.Degree,N,O]∧RdL W X N (i.Nodes:Yk)∧RdL W X O (i.Edges:Yk)∧Bz w 12 W X d 109 [ZI 0,ZI 0,.slice none 0 0,.slice none 0 0,.slice none 0 0]) cu_ (by kernel_rfl) rfl ⟨rfl,rfl,rfl,trivial⟩ ⟨hB,B,u,x,g⟩ trivial ?_ ⟨dQ_ _,dQ_ _,λ_ _ _ _ _ _ g1 hb h hs=>h.stp hs g1.1 (Ne.symm hb),λ_ _ _ _ _ _ g1 hb ⟨g0,e,h⟩ hs=>⟨g0,e,h.stp hs g1.1 (Ne.symm hb)⟩,λ_ _ _ _ _ _ g1 hb ⟨b,e,h⟩ hs=>⟨b,e,h.stp hs (Ne.symm hb)⟩,trivial⟩ trivial ⟨trivial,trivial,trivial,trivial,trivial,trivial⟩ ?_ ?_
  ·rintro g8 n8 n9 o0 o1 b3 ⟨hB,B,u,x,g⟩ a0;have b3:g8=13∨g8=14∨g8=999:=by simpa using b3
   rcases b3 with rfl|rfl|rfl
   all_goals exact⟨hB.stp a0 (by decide),B.stp a0 (by decide),u.stp a0 (by decide),x.stp a0 (by decide),g.stp a0 (by decide)⟩
  ·refine⟨?_,?_,?_,?_,?_,trivial⟩
   ·rintro l5 l6 l7 ha ⟨hB,B,u,x,g⟩- -;refine Zs ha ?_;refine M_ (E_ rfl wX_ wU_ rfl B.cells) ?_;exact Zx rfl
   ·rintro l8 l9 m0 ha ⟨hB,B,u,x,g⟩- -;refine Zs ha ?_;refine M_ (h_ rfl) ?_;exact Zx rfl
   ·rintro g9 m1 m2 ha ⟨hB,B,u,x,g⟩- ⟨h0,-⟩;have ha:=ha.c h0;refine Zs ha ?_;refine hn_ (o:=g9) w.heap.size 13 hB.keeps.size c6 rfl rfl xr_ kn_ rfl (by decide) ?_;intro m3 m4 m5 h1 h2;exact⟨_,h2,h1⟩
   ·rintro h3 h4 c8 ha ⟨hB,B,u,x,g⟩- ⟨h5,a1,-⟩;have ha:=ha.c h5;replace a1:Oz w 4 13 h3 h4 (c8.tmps.getD 21 undef) q:=a1;generalize h6:c8.tmps.getD 21 undef=c9 at a1;have ha:=ha.c h6;refine Zs ha ?_;refine M_ (ba_ (vs:=[(0,.agg #[ZI i.Labels,ZI i.Degree,N,O]),(1,c9)]) (cs:=[ZI i.Labels,ZI i.Degree,N,O,c9]) ⟨rfl,rfl,rfl,rfl,trivial⟩ (by obtain⟨_,_,m6⟩:=a1.form;rw[m6];kernel_rfl)) ?_;exact⟨_,Stp.refl _ _ _,⟨_,rfl,a1⟩⟩
   ·rintro h7 m7 m8 ha ⟨hB,B,u,x,g⟩- -;refine Zs ha ?_;refine av_ (o:=h7) w.heap.size 14 hB.keeps.size (cs:=[ZI 0,ZI 0,.slice none 0 0,.slice none 0 0,.slice none 0 0]) yk_ rfl ?_;intro m9 n0 n1 h8 h9;exact⟨_,h9,⟨_,rfl,h8⟩⟩
  rintro i0 n2 n3 ha ⟨hB,B,u,x,g⟩ ⟨-,-,-,i1,i2,-⟩;obtain⟨i3,i4,a2⟩:=i1;have ha:=ha.c i4;obtain⟨s,i5,i6⟩:=i2;have ha:=ha.c i5;refine aH_ ha ?_;simp only[List.length_cons,List.length_nil,Nat.zero_add,Nat.reduceAdd,List.drop_succ_cons,List.drop_zero];refine Z_ trivial ?_;refine T_ i6 rfl rfl rfl cV_ (by intro c hc;simp only[List.mem_cons,List.not_mem_nil,or_false] at hc;rcases hc with rfl|rfl|rfl|rfl|rfl<;>first|rfl|exact u.one1|exact x.one1|exact a2.one1) ?_;intro n4 A i7;obtain⟨u,x,a2,B,g,hB⟩:=ZS i7 (A6 u x a2 B g hB);refine Ze [(1,_),(2,_),(5,_)] (nx (c_ (Zq (Zv (m_ rfl xv_ rfl xG_) (Zv (e_ rfl xH_ (A.cell rfl)) (Zv (bC_ rfl a2 xr_) (Zm rfl (Ze [(1,_),(2,_),(5,_),(25,_),(26,_)] (nx ?_)))))))));obtain⟨n5,i8,hF⟩:=a_ hF;obtain⟨-,h96a,h96b⟩:=bV_ i8;obtain⟨d0,d1,hF⟩:=a_ hF;refine v_ (λa G=>∃T F C,d0=.inl T∧Fr a 55 [(2,ZP d),(5,ZP s)]∧Bs oo C w G∧Bz w 12 C G d 109 [ZI 0,ZI 0,.slice none 0 0,.slice none 0 0,.slice none 0 0]∧Bz w 14 C G s 109 [ZI i.Labels,ZI i.Degree,N,O,F]∧RdL C G N (i.Nodes:Yk)∧RdL C G O (i.Edges:Yk)∧Oz w 4 13 C G F T) (λ_ _=>False) ?_ ?_ ?_
  ·refine f_ ?_;refine w_ (λ(K:Nat) a G=>∃(f:Int),∃T F C,forN (dY_ fuel i) ((q.length:Int)-f).toNat f T=some d0∧((q.length:Int)-f).toNat=K∧0<=f∧Fr a 55 [(1,ZP D),(2,ZP d),(5,ZP s),(25,ZI (q.length:Int)),(26,ZI f)]∧Bs oo C w G∧Bz w 11 C G D 28 [ZI i.Labels,ZI i.Degree,N,O]∧RdL C G N (i.Nodes:Yk)∧RdL C G O (i.Edges:Yk)∧Bz w 12 C G d 109 [ZI 0,ZI 0,.slice none 0 0,.slice none 0 0,.slice none 0 0]∧Bz w 14 C G s 109 [ZI i.Labels,ZI i.Degree,N,O,F]∧Oz w 4 13 C G F T) _ (λa ha=>⟨0,q,i3,i0,(by rw[Int.sub_zero];exact d1),rfl,Int.le_refl 0,ha.sb,hB,B,u,x,g,A,a2⟩) ?_;rintro K101 a G ⟨f,T,F,C,d2,d3,n6,ha,hB,B,u,x,g,A,y⟩;by_cases Y:f<(q.length:Int)
   ·obtain⟨j0,H,d4⟩:=bv_ Y d2;dsimp only[dY_] at H;refine J_ ha ?_;refine Zq (Zv (r_ rfl rfl) (Ze [(1,_),(2,_),(5,_),(25,_),(26,_),(27,_)] (nx (c_ ?_))));refine L_ (Zb (decide_eq_true Y)) ?_;refine g_ (nx (c_ (f_ (Zq (Zm rfl (Za rfl (Ze [(1,_),(2,_),(5,_),(6,_),(25,_),(26,_)] (Zn (Za rfl (Ze [(1,_),(2,_),(5,_),(6,_),(7,_),(25,_),(26,_)] (nx (c_ ?_))))))))))));refine Zq (Zm rfl (Za rfl (Ze [(1,_),(2,_),(5,_),(6,_),(7,_),(8,_),(25,_),(26,_)] (nx ?_))));have d5:Oz w 3 15 C G (.slice none 0 0) ([]:Yl):=Ow.nil _ _ _ _ _;obtain⟨a8,b4,H⟩:=a_ H;refine v_ (λa m=>∃(I:Yl),∃(Q:Int),∃E k,a8=.inl (I,Q)∧Fr a 55 [(1,ZP D),(2,ZP d),(5,ZP s),(6,ZI f),(7,E),(25,ZI (q.length:Int)),(26,ZI f)]∧Bs oo k w m∧Oz w 3 15 k m E I∧Bz w 11 k m D 28 [ZI i.Labels,ZI i.Degree,N,O]∧RdL k m N (i.Nodes:Yk)∧RdL k m O (i.Edges:Yk)∧Bz w 12 k m d 109 [ZI 0,ZI 0,.slice none 0 0,.slice none 0 0,.slice none 0 0]∧Bz w 14 k m s 109 [ZI i.Labels,ZI i.Degree,N,O,F]∧Oz w 4 13 k m F T) (λ_ _=>False) ?_ ?_ ?_
    ·refine f_ ?_;refine w_ (λ(K:Nat) a m=>∃(I:Yl),∃(Q:Int),∃E k,loopF (cH_ i) K (I,Q)=some a8∧Fr a 55 [(1,ZP D),(2,ZP d),(5,ZP s),(6,ZI f),(7,E),(8,ZI Q),(25,ZI (q.length:Int)),(26,ZI f)]∧Bs oo k w m∧Oz w 3 15 k m E I∧Bz w 11 k m D 28 [ZI i.Labels,ZI i.Degree,N,O]∧RdL k m N (i.Nodes:Yk)∧RdL k m O (i.Edges:Yk)∧Bz w 12 k m d 109 [ZI 0,ZI 0,.slice none 0 0,.slice none 0 0,.slice none 0 0]∧Bz w 14 k m s 109 [ZI i.Labels,ZI i.Degree,N,O,F]∧Oz w 4 13 k m F T) fuel (λa ha=>⟨[],f,.slice none 0 0,C,b4,ha.sb,hB,d5,B,u,x,g,A,y⟩) ?_;rintro K117 a m ⟨I,Q,E,k,d6,ha,hB,M,B,u,x,g,A,y⟩;obtain⟨K121,j1,j2,J,a9⟩:=X_ d6;dsimp only[cH_] at J;refine J_ ha ?_;refine c_ (Zq (Zm rfl (Zv (bC_ rfl M wR_) (Zv (m_ rfl wW_ rfl wS_) (Zv (e_ rfl wT_ (B.cell rfl)) (Zv (r_ rfl rfl) (Ze [(1,_),(2,_),(5,_),(6,_),(7,_),(8,_),(25,_),(26,_),(34,_)] (nx ?_))))))));refine l_ rfl (λa3=>?_) (λa3=>?_)
     ·rw[if_pos a3] at J;refine g_ (nx (c_ (f_ (d_ (Zm rfl (Zm rfl (Zv (m_ rfl wW_ rfl wS_) (Zv (e_ rfl wT_ (B.cell rfl)) ?_))))))));obtain⟨a4,b5,J⟩:=a_ J;refine Zv (qK_ rfl rfl b5) (Zo ?_);refine au_ (o:=k) (cs:=[ZI a4]) (xs:=([a4]:Yl)) (vs:=[(0,ZI a4)]) ⟨_,_,rfl,rfl,rfl⟩ rfl ⟨rfl,rfl,trivial⟩ wR_ wS_ xd_ (by decide) (fill1 rfl) (by simp) ?_;intro j3 j4 j5 d7 d8 j6;obtain⟨M,B,u,x,g,A,y,hB⟩:=ZS d8 (A8 M B u x g A y hB);obtain⟨d9,b6,J⟩:=a_ J;refine Zo ?_;refine aT_ M d7 (ai_ b6) (by decide) hB.keeps.size rfl rfl wR_ eu_ rfl (by decide) ?_;intro e0 j7 Z e1 e2;obtain⟨B,u,x,g,A,y,hB⟩:=ZS e2 (A7 B u x g A y hB);refine Za rfl (Ze [(1,_),(2,_),(5,_),(6,_),(7,_),(8,_),(25,_),(26,_)] (x_ (nx (d_ (Zm rfl (Zv (m_ rfl wW_ rfl wS_) (Zv (e_ rfl wT_ (B.cell rfl)) ?_)))))));obtain⟨a5,b7,J⟩:=a_ J;refine Zv (sE_ rfl rfl b7) (Za rfl (Ze [(1,_),(2,_),(5,_),(6,_),(7,_),(8,_),(25,_),(26,_)] (u_ ?_)));have e3:=Zj J;subst e3;refine Zk [(1,_),(2,_),(5,_),(6,_),(7,_),(8,_),(25,_),(26,_)] ?_;intro a ha;exact⟨K121,by omega,d9,a5,Z,e0,a9,ha,hB,e1,B,u,x,g,A,y⟩
     ·replace J:=ZF a3 J;refine s_ ?_;refine n_ (n_ (N_ ?_));refine p_ ?_;have e4:=Zj J;subst e4;refine Zk [(1,_),(2,_),(5,_),(6,_),(7,_),(25,_),(26,_)] ?_;intro a ha;exact⟨I,Q,E,k,a9,ha,hB,M,B,u,x,g,A,y⟩
    ·rintro a m ⟨I,Q,E,k,rfl,ha,hB,M,B,u,x,g,A,y⟩;dsimp only at H;refine ap_k ha ?_;refine nx ?_;obtain⟨b0,b8,H⟩:=a_ H;refine ZW (Bf:=λW X=>Bs oo W w X∧Oz w 3 15 W X E I∧Bz w 11 W X D 28 [ZI i.Labels,ZI i.Degree,N,O]∧RdL W X N (i.Nodes:Yk)∧RdL W X O (i.Edges:Yk)∧Bz w 12 W X d 109 [ZI 0,ZI 0,.slice none 0 0,.slice none 0 0,.slice none 0 0]∧Bz w 14 W X s 109 [ZI i.Labels,ZI i.Degree,N,O,F]∧Oz w 4 13 W X F T) [(1,_),(2,_),(5,_),(6,_),(7,_),(25,_),(26,_)] (Zrg 46 6) [[],[0],[],[],[],[3,4]] (Zcn 6) (Zt9 6) (Zt0 6) [999] [.inl (.pointer (some ⟨s,0+4,none⟩)),.inl F,.inl (ZI f),.inl (.agg #[ZI i.Labels,ZI i.Degree,N,O]),.inl E,.inl (.bool b0)] ⟨hB,M,B,u,x,g,A,y⟩ trivial ?_ ?_
     ·refine⟨Dp (m_ rfl xv_ rfl xG_),Dq λh=>e_ rfl xH_ (h.2.2.2.2.2.2.1.cell rfl),Dp (h_ rfl),Dq λh=>E_ rfl wX_ wU_ rfl h.2.2.1.cells,Dp (h_ rfl),?_,trivial⟩
      ·rintro e5 e6 j8 ha ⟨hB,M,B,u,x,g,A,y⟩-;refine Zs ha ?_;refine o_ (sC_ fuel e6 _ i (⟨_,_,rfl,u.z,x.z⟩) _ I M.z b0 b8) Tryz.call156 ⟨rfl,rfl,trivial⟩ ?_;rintro j9 k0 ⟨rfl,e7⟩;have e8:=e7.stp 999 e5;refine⟨_,rfl,?_⟩;exact⟨_,e8,rfl⟩
     rintro _ rfl e9 k1 k2 ha ⟨hB,M,B,u,x,g,A,y⟩-;refine aH_ ha ?_;obtain⟨k3,b9,H⟩:=a_ H;refine Zo ?_;refine fC_ y b9 rfl rfl xr_ xA_ ?_;intro k4 k5 f0 k6 f1;cases f1
     obtain⟨f2,c0,H⟩:=a_ H;refine Z_ trivial ?_;refine cf_ y f0 c0 rfl (by decide) rfl rfl rfl xA_ rfl ?_;intro k7 f3 f4;obtain⟨B,u,x,g,A,hB⟩:=ZS f4 (A6 B u x g A hB);refine Ze [(1,ZP D),(2,ZP d),(5,ZP s),(25,ZI (q.length:Int)),(26,ZI f)] (x_ (nx (d_ (Zv (C_ rfl rfl (F_ (by omega) (by omega))) (Zm rfl (Ze [(1,_),(2,_),(5,_),(25,_),(26,_)] (u_ ?_)))))));have f5:=Zj H;subst f5;refine Zk [(1,_),(2,_),(5,_),(25,_),(26,_)] ?_;intro a ha;exact⟨_,(by rw[<-d3];omega),f+1,f2,F,e9,d4,rfl,by omega,ha,hB,B,u,x,g,A,f3⟩
    ·exact λ_ _ h=>h.elim
   ·have f6:=bu_ Y d2;refine J_ ha ?_;refine Zq (Zv (r_ rfl rfl) (Ze [(1,_),(2,_),(5,_),(25,_),(26,_),(27,_)] (nx (c_ ?_))));refine G_ (Zb (decide_eq_false Y)) ?_;refine s_ ?_;refine n_ (n_ (N_ ?_));refine p_ ?_;refine Zk [(2,_),(5,_)] ?_;intro a ha;exact⟨T,F,C,f6,ha,hB,g,A,u,x,y⟩
  ·rintro a G ⟨T,F,C,rfl,ha,hB,g,A,u,x,y⟩;dsimp only at hF;refine ap_k ha ?_;refine Zn (Zv (E_ rfl xB_ xC_ rfl A.cells) ?_);refine Z_ trivial ?_;refine T_ g rfl rfl rfl cV_ (by intro c hc;simp only[List.mem_cons,List.not_mem_nil,or_false] at hc;rcases hc with rfl|rfl|rfl|rfl|rfl<;>first|rfl|exact u.one1|exact x.one1|exact y.one1) ?_;intro k8 a6 f7;obtain⟨u,x,y,hB⟩:=ZS f7 (A4 u x y hB);refine Ze [(2,_)] (nx (j_ ?_));replace a6:=a6.frz_ne (j:=13) (by decide);replace u:=u.frz 13;replace x:=x.frz 13;have k9:=y.frzF;replace y:=y.frz;replace hB:=hB.frz 13 (by decide);generalize (frz 13 C)=f8 at*;have f9:=Zj hF;subst f9;refine D_ (P:=wQ_) (vs:=[.agg #[ZI i.Labels,ZI i.Degree,N,O,F]]) Tryz.results109 ⟨⟨_,rfl,al_ xB_ xC_ rfl a6.cells⟩,trivial⟩ ?_;exact⟨[ZI i.Labels,ZI i.Degree,N,O,F],rt oo f8 w.heap.size 9 t,rfl,⟨_,_,_,rfl,u.rt hB 9 t (by decide),x.rt hB 9 t (by decide),y.rt hB 9 t (by decide)⟩,hB.keeps,am_ _ _ _ _ _⟩
  ·exact λ_ _ h=>h.elim
 ·exact λ_ _ h=>h.elim
def by_(a:bw_)(k:Int):(Int×Int)->Option (Lp (Int×Int) (Int×Int) Int):=λ(s:Int×Int)=>
  if decide (s.2<a.p.Labels) then
    (ck (k*a.p.Labels))>>=λb=>
    (ck (b+s.2))>>=λc=>
    (ix a.good c)>>=λd=>
    if d then
      (shl 1 s.2)>>=λf=>
      (ck (s.1+f))>>=λg=>
      (ck (s.2+1))>>=λi=>
      some (.go (g,i))
    else
      (ck (s.2+1))>>=λj=>
      some (.go (s.1,j))
  else
    some (.out (s.1,s.2))
def bL_(g:bw_)(i:List Int)(j:Int)(self:bw_->(List Int)->Int->Option Int):Int->Int->Int->Option (Lp Int Int Int):=λ(k:Int)(a:Int)(s:Int)=>
  if decide (s>0) then
    (cut i 1 i.length)>>=λb=>
    (ck (j*g.p.Labels))>>=λc=>
    (ck (c+a))>>=λd=>
    (self g b d)>>=λf=>
    some (.go (band s f))
  else
    some (.go s)
def aA_:Nat->bw_->(List Int)->Int->Option Int
  |0=>λ_ _ _=>none
  | fuel+1=>λa b n=>
    if(b.length:Int)==0 then
      (loopF (by_ a n) fuel (0,0))>>=λc=>
      match c with
      | .inl (d,q)=>
        some d
      | .inr _=>none
    else
      (shl 1 a.p.Labels)>>=λf=>
      (ck (f-1))>>=λg=>
      (ix b 0)>>=λi=>
      (cF_ fuel i)>>=λj=>
      (forI (bL_ a b n (aA_ fuel)) j 0 g)>>=λk=>
      match k with
      | .inl m=>
        some m
      | .inr _=>none
def lk_(w:World)(r:Int):Ending->World->Prop:=λe w'=>e=.returned (.int .i64 r)∧Keeps w w'
theorem hD_(fuel:Nat):∀(w:World)(d5:List Value)(y:bw_)(d6:Rp.rd zt w d5 y)(z:Value)(U:Yl)(Y:RdL zt w z U)(j:Int)(r:Int)(hF:aA_ fuel y U j=some r),Calls wQ_ 111 #[.agg d5.toArray,z,.int .i64 j] w (lk_ w r):=by
 induction fuel with
 |zero=>
  intro w d5 y d6 z U Y j r hF;unfold aA_ at hF;cases hF
 | succ fuel ih=>
  intro w d5 y d6 z U Y j r hF;unfold aA_ at hF;obtain⟨V,W,X,rfl,g9,h0,f8⟩:=d6;have hB:Bs (λ_=>1) (col (λ_=>1)) w w:=Bs.start _ _;refine i_ (n:=69) (vs:=[.agg #[ZI y.p.Labels,ZI y.p.Degree,V,W,X],z,ZI j]) Tryz.func111 rfl rfl ?_;refine Zq (Zo ?_);refine as_ (o:=(col (λ_=>1))) w.heap.size 11 hB.keeps.size (cs:=[ZI y.p.Labels,ZI y.p.Degree,V,W,X]) rfl rfl ?_;intro f9 Z m i d7;replace hB:=hB.stp d7;refine Za rfl (Ze [(1,_),(2,_),(3,_)] (nx (c_ (Zq (Zm rfl (Zv (B_ rfl Y wR_) (Zv (cD_ rfl rfl) (Ze [(1,_),(2,_),(3,_),(14,_)] (nx ?_)))))))));refine l_ rfl (λL=>?_) (λL=>?_)
  ·rw[if_pos L] at hF;refine Zq (Za rfl (Ze [(2,_),(3,_),(7,_)] (nx (c_ (Zq (Za rfl (Ze [(2,_),(3,_),(7,_),(8,_)] (nx ?_))))))));obtain⟨a0,a1,hF⟩:=a_ hF;refine v_ (λa E=>∃(k:Int)(x:Int),∃(A:Tg),a0=.inl (k,x)∧Fr a 69 [(7,ZI k)]∧Bs (λ_=>1) A w E) (λ_ _=>False) ?_ ?_ ?_
   ·refine f_ ?_;refine w_ (λ(K:Nat) a E=>∃(k:Int)(x:Int),∃(A:Tg),loopF (by_ y j) K (k,x)=some a0∧Fr a 69 [(2,ZI j),(3,ZP m),(7,ZI k),(8,ZI x)]∧Bs (λ_=>1) A w E∧Bz w 11 A E m 109 [ZI y.p.Labels,ZI y.p.Degree,V,W,X]) fuel (λa ha=>⟨0,0,f9,a1,ha.sb,hB,i⟩) ?_;rintro K21 a E ⟨k,x,A,d8,ha,hB,i⟩;obtain⟨K25,h1,h2,d,M⟩:=X_ d8;dsimp only[by_] at d;refine J_ ha ?_;refine c_ (Zq (Zm rfl (Zv (m_ rfl xv_ rfl wU_) (Zv (m_ rfl wW_ rfl wS_) (Zv (e_ rfl wT_ (i.cell rfl)) (Zv (r_ rfl rfl) (Ze [(2,_),(3,_),(7,_),(8,_),(19,_)] (nx ?_))))))));refine l_ rfl (λN=>?_) (λN=>?_)
    ·rw[if_pos N] at d;refine g_ (nx (c_ (f_ (Zq (Zv (m_ rfl xv_ rfl xG_) (Zv (e_ rfl xH_ (i.cell rfl)) (Zm rfl (Zv (m_ rfl xv_ rfl wU_) (Zv (m_ rfl wW_ rfl wS_) (Zv (e_ rfl wT_ (i.cell rfl)) ?_))))))))));obtain⟨h3,a2,d⟩:=a_ d;refine Zv (kb_ rfl rfl a2) (Zm rfl ?_);obtain⟨h4,a3,d⟩:=a_ d;refine Zv (C_ rfl rfl a3) ?_;obtain⟨d9,a4,d⟩:=a_ d;refine Zo ?_;refine wf_atZ f8 a4 hB rfl rfl xr_ xA_ ?_;intro h5 h6 h7 e0 e1;cases e1
     refine Zv (e_ rfl Tryz.isAgg4 (k_ e0)) (Ze [(2,_),(3,_),(7,_),(8,_),(32,_)] (nx ?_));refine l_ rfl (λO=>?_) (λO=>?_)
     ·rw[if_pos O] at d;refine d_ (Zm rfl (Zm rfl ?_));obtain⟨h8,a5,d⟩:=a_ d;refine Zv (gL_ rfl rfl a5) ?_;obtain⟨G,a6,d⟩:=a_ d;refine Zv (C_ rfl rfl a6) (Za rfl (Ze [(2,_),(3,_),(7,_),(8,_)] (x_ (nx (d_ (Zm rfl ?_))))));obtain⟨P,a7,d⟩:=a_ d;refine Zv (C_ rfl rfl a7) (Za rfl (Ze [(2,_),(3,_),(7,_),(8,_)] (u_ ?_)));have e2:=Zj d;subst e2;refine Zk [(2,_),(3,_),(7,_),(8,_)] ?_;intro a ha;exact⟨K25,by omega,G,P,A,M,ha,hB,i⟩
     ·replace d:=ZF O d;refine g_ (x_ (nx (d_ (Zm rfl ?_))));obtain⟨Q,a8,d⟩:=a_ d;refine Zv (C_ rfl rfl a8) (Za rfl (Ze [(2,_),(3,_),(7,_),(8,_)] (u_ ?_)));have e3:=Zj d;subst e3;refine Zk [(2,_),(3,_),(7,_),(8,_)] ?_;intro a ha;exact⟨K25,by omega,k,Q,A,M,ha,hB,i⟩
    ·replace d:=ZF N d;refine s_ ?_;refine n_ (n_ (N_ ?_));refine p_ ?_;have e4:=Zj d;subst e4;refine Zk [(7,_)] ?_;intro a ha;exact⟨k,x,A,M,ha,hB⟩
   ·rintro a E ⟨k,x,A,rfl,ha,hB⟩;dsimp only at hF;refine ap_k ha ?_;refine Zn (Zm rfl (Za rfl (Ze [(6,_)] (nx (j_ (y_ ?_))))));have e5:=Zj hF;subst e5;refine Zr zt_ [ZI k] ?_;exact⟨rfl,hB.keeps⟩
   ·exact λ_ _ h=>h.elim
  ·replace hF:=ZF L hF;refine g_ (Zn (Zv (m_ rfl xv_ rfl wU_) (Zv (m_ rfl wW_ rfl wS_) (Zv (e_ rfl wT_ (i.cell rfl)) ?_))));obtain⟨h9,a9,hF⟩:=a_ hF;refine Zv (gL_ rfl rfl a9) ?_;obtain⟨H,b0,hF⟩:=a_ hF;refine Zv (bs_ rfl rfl b0) (Za rfl (Ze [(1,_),(2,_),(3,_),(9,_)] (nx (c_ (Zq (Zm rfl ?_))))));obtain⟨e6,b1,hF⟩:=a_ hF;refine Zo ?_;refine wf_atZ Y b1 hB rfl rfl wR_ wS_ ?_;intro i0 i1 i2 e7 e8;cases e8
   refine Zv (e_ rfl wT_ (k_ e7)) ?_;obtain⟨f,b2,hF⟩:=a_ hF;refine Zo ?_;refine o_ (gS_ fuel Z f9 12 (by decide) e6 f b2) Tryz.call123 ⟨rfl,trivial⟩ ?_;rintro i3 i4 ⟨q,e9,rfl,u,f0,f1⟩;have f2:=f0.stp' 12 f1;replace u:=u.mono hB.keeps.size;refine⟨_,rfl,?_⟩;obtain⟨i,hB⟩:=ZS f2 (A2 i hB);refine Zv (bC_ rfl u wR_) (Zm rfl (Ze [(1,_),(2,_),(3,_),(9,_),(46,_),(47,_),(48,_)] (nx ?_)));obtain⟨b3,b4,hF⟩:=a_ hF;refine v_ (λa C=>∃(b:Int),∃(B:Tg),b3=.inl b∧Fr a 69 [(9,ZI b)]∧Bs (λ_=>1) B w C) (λ_ _=>False) ?_ ?_ ?_
   ·refine f_ ?_;refine w_ (λ(K:Nat) a C=>∃(g:Int)(b:Int),∃(B:Tg),forI (bL_ y U j (aA_ fuel)) (f.drop g.toNat) g b=some b3∧(f.drop g.toNat).length=K∧0<=g∧Fr a 69 [(1,z),(2,ZI j),(3,ZP m),(9,ZI b),(46,q),(47,ZI (f.length:Int)),(48,ZI g)]∧Bs (λ_=>1) B w C∧Oz w 3 12 B C q f∧Bz w 11 B C m 109 [ZI y.p.Labels,ZI y.p.Degree,V,W,X]) _ (λa ha=>⟨0,H,e9,b4,rfl,Int.le_refl 0,ha.sb,hB,u,i⟩) ?_;rintro K70 a C ⟨g,b,B,b5,b6,f3,ha,hB,u,i⟩;by_cases I:g<(f.length:Int)
    ·obtain⟨R,i5,b7,s,b8⟩:=R_ f3 I b5;have hle:=u.len_le;dsimp only[bL_] at s;refine J_ ha ?_;refine Zq (Zv (r_ rfl rfl) (Ze [(1,_),(2,_),(3,_),(9,_),(46,_),(47,_),(48,_),(49,_)] (nx (c_ ?_))));refine L_ (Zb (decide_eq_true I)) ?_;refine g_ (nx (c_ (f_ (Zq (Zo ?_)))));refine gE_ u b7 rfl rfl wR_ wS_ ?_;intro i6 i7 i8 f4 f5;cases f5
     refine Zv (e_ rfl wT_ (k_ f4)) (Za rfl (Ze [(1,_),(2,_),(3,_),(9,_),(11,_),(46,_),(47,_),(48,_)] (Zn (Zm rfl (Zv (eN_ rfl rfl) (Ze [(1,_),(2,_),(3,_),(9,_),(11,_),(46,_),(47,_),(48,_),(53,_)] (nx ?_)))))));refine l_ rfl (λS=>?_) (λS=>?_)
     ·rw[if_pos S] at s;obtain⟨T,b9,s⟩:=a_ s;obtain⟨f6,c0,s⟩:=a_ s;obtain⟨c1,c2,s⟩:=a_ s;obtain⟨F,c3,s⟩:=a_ s;refine ZW (Bf:=λf7 Z=>Bs (λ_=>1) f7 w Z∧Oz w 3 12 f7 Z q f∧Bz w 11 f7 Z m 109 [ZI y.p.Labels,ZI y.p.Degree,V,W,X]) [(1,_),(2,_),(3,_),(9,_),(11,_),(46,_),(47,_),(48,_)] (Zrg 54 12) [[],[],[],[2],[],[],[5],[6],[4,7],[],[8,9],[1,3,10]] (Zcn 12) (Zt9 12) (Zt0 12) [999] [.inl (ZI b),.inl (.agg #[ZI y.p.Labels,ZI y.p.Degree,V,W,X]),.inl z,.inr (λv o i9=>RdL zt w v T),.inl (ZI j),.inl (.pointer (some ⟨m,0+0,none⟩)),.inl (.pointer (some ⟨m,0+0+0,none⟩)),.inl (ZI y.p.Labels),.inl (ZI f6),.inl (ZI R),.inl (ZI c1),.inl (ZI F)] ⟨hB,u,i⟩ ⟨λ_ _ _ _ _ _ j0 hb h hs=>h,trivial⟩ ?_ ?_
      ·refine⟨Dp (h_ rfl),Dq λh=>E_ rfl xB_ xC_ rfl h.2.2.cells,Dp (h_ rfl),?_,Dp (h_ rfl),Dp (m_ rfl xv_ rfl wU_),Dp (m_ rfl wW_ rfl wS_),Dq λh=>e_ rfl wT_ (h.2.2.cell rfl),Dp (kb_ rfl rfl c0),Dp (h_ rfl),Dp (C_ rfl rfl c2),?_,trivial⟩
       ·rintro g0 g1 g2 ha- -;refine Zs ha ?_;refine kJ_ Y b9 rfl rfl rfl wR_ wS_ ?_;intro g3 c4;exact⟨_,Stp.refl _ _ _,c4⟩
       ·rintro c5 c6 J ha ⟨hB,u,i⟩ ⟨D,-⟩;replace D:RdL zt w (J.tmps.getD 57 undef) T:=D;generalize c7:J.tmps.getD 57 undef=g4 at D;have ha:=ha.c c7;refine Zs ha ?_;refine o_ (ih c6 _ y (⟨_,_,_,rfl,g9.keep hB.keeps,h0.keep hB.keeps,f8.keep hB.keeps⟩) _ T (D.keep hB.keeps) c1 F c3) yl_ ⟨rfl,rfl,rfl,trivial⟩ ?_;rintro g5 g6 ⟨rfl,c8⟩;have c9:=c8.stp 999 c5;refine⟨_,rfl,?_⟩;exact⟨_,c9,rfl⟩
      rintro _ rfl d0 g7 g8 ha ⟨hB,u,i⟩-;refine aH_ ha ?_;refine Zv (jY_ rfl rfl) (Za rfl (Ze [(1,z),(2,ZI j),(3,ZP m),(9,ZI (band b F)),(46,q),(47,ZI (f.length:Int)),(48,ZI g)] (x_ (nx (d_ (Zv (C_ rfl rfl (F_ (by omega) (by omega))) (Zm rfl (Ze [(1,_),(2,_),(3,_),(9,_),(46,_),(47,_),(48,_)] (u_ ?_)))))))));have d1:=Zj s;subst d1;refine Zk [(1,_),(2,_),(3,_),(9,_),(46,_),(47,_),(48,_)] ?_;intro a ha;exact⟨_,(by rw[<-b6];simp only[List.length_drop];omega),g+1,band b F,d0,b8,rfl,by omega,ha,hB,u,i⟩
     ·replace s:=ZF S s;refine g_ (x_ (nx (d_ (Zv (C_ rfl rfl (F_ (by omega) (by omega))) (Zm rfl (Ze [(1,_),(2,_),(3,_),(9,_),(46,_),(47,_),(48,_)] (u_ ?_)))))));have d2:=Zj s;subst d2;refine Zk [(1,_),(2,_),(3,_),(9,_),(46,_),(47,_),(48,_)] ?_;intro a ha;exact⟨_,(by rw[<-b6];simp only[List.length_drop];omega),g+1,b,B,b8,rfl,by omega,ha,hB,u,i⟩
    ·have d3:=S_ I b5;refine J_ ha ?_;refine Zq (Zv (r_ rfl rfl) (Ze [(1,_),(2,_),(3,_),(9,_),(46,_),(47,_),(48,_),(49,_)] (nx (c_ ?_))));refine G_ (Zb (decide_eq_false I)) ?_;refine s_ ?_;refine n_ (n_ (N_ ?_));refine p_ ?_;refine Zk [(9,_)] ?_;intro a ha;exact⟨b,B,d3,ha,hB⟩
   ·rintro a C ⟨b,B,rfl,ha,hB⟩;dsimp only at hF;refine ap_k ha ?_;refine Zn (Zm rfl (Za rfl (Ze [(6,_)] (nx (j_ ?_)))));have d4:=Zj hF;subst d4;refine Zr zt_ [ZI b] ?_;exact⟨rfl,hB.keeps⟩
   ·exact λ_ _ h=>h.elim
def bK_(fuel:Nat)(m:bw_)(c:List Int):Int->Int->Unit->Option (Lp Unit Unit Bool):=λ(a:Int)(d:Int)(s:Unit)=>
  (cut c 0 a)>>=λf=>
  (dd_ f)>>=λg=>
  (ck (a+1))>>=λi=>
  (cut c i c.length)>>=λj=>
  (cat g j)>>=λk=>
  (aA_ fuel m k 0)>>=λb=>
  if b !=d then
    some (.ret false)
  else
    some (.go ())
def dw_(fuel:Nat)(c:bw_)(b:List Int):Option Bool:=
  (forI (bK_ fuel c b) b 0 ())>>=λa=>
  match a with
  | .inl _=>
    some true
  | .inr r'=>some r'
def ic_(w:World)(r:Bool):Ending->World->Prop:=λe w'=>e=.returned (.bool r)∧Keeps w w'
theorem li_(fuel:Nat)(w:World)(d5:List Value)(q:bw_)(d9:Rp.rd zt w d5 q)(f:Value)(i:Yl)(L:RdL zt w f i)(r:Bool)(hF:dw_ fuel q i=some r):
    Calls wQ_ 112 #[.agg d5.toArray,f] w (ic_ w r):=by
 unfold dw_ at hF;obtain⟨b0,b1,b2,rfl,e0,e1,e2⟩:=d9;have hB:Bs (λ_=>1) (col (λ_=>1)) w w:=Bs.start _ _;refine i_ (n:=30) (vs:=[.agg #[ZI q.p.Labels,ZI q.p.Degree,b0,b1,b2],f]) Tryz.func112 rfl rfl ?_;refine Zq (Zo ?_);refine as_ (o:=(col (λ_=>1))) w.heap.size 11 hB.keeps.size (cs:=[ZI q.p.Labels,ZI q.p.Degree,b0,b1,b2]) rfl rfl ?_;intro e3 b3 m g b4;replace hB:=hB.stp b4;refine Za rfl (Ze [(1,_),(2,_)] (nx (c_ (Zq (Zm rfl (Zv (B_ rfl L wR_) (Zm rfl (Ze [(1,_),(2,_),(8,_),(9,_),(10,_)] (nx ?_)))))))));obtain⟨E,M,hF⟩:=a_ hF;refine v_ (λa j=>∃(k:Tg),E=.inl ()∧Fr a 30 []∧Bs (λ_=>1) k w j) (λa w'=>∃r',E=.inr r'∧bodyPost wQ_ Tryz.f112 (ic_ w r') .ret a w') ?_ ?_ ?_
 ·refine f_ ?_;refine w_ (λ(K:Nat) a j=>∃(b:Int),∃(k:Tg),forI (bK_ fuel q i) (i.drop b.toNat) b ()=some E∧(i.drop b.toNat).length=K∧0<=b∧Fr a 30 [(1,f),(2,ZP m),(8,f),(9,ZI (i.length:Int)),(10,ZI b)]∧Bs (λ_=>1) k w j∧Bz w 11 k j m 109 [ZI q.p.Labels,ZI q.p.Degree,b0,b1,b2]) _ (λa ha=>⟨0,e3,M,rfl,Int.le_refl 0,ha.sb,hB,g⟩) ?_;rintro K19 a j ⟨b,k,N,b5,b6,ha,hB,g⟩;by_cases u:b<(i.length:Int)
  ·obtain⟨F,e4,O,d,Q⟩:=R_ b6 u N;have hle:=L.len_le;dsimp only[bK_] at d;refine J_ ha ?_;refine Zq (Zv (r_ rfl rfl) (Ze [(1,_),(2,_),(8,_),(9,_),(10,_),(11,_)] (nx (c_ ?_))));refine L_ (Zb (decide_eq_true u)) ?_;refine g_ (nx (c_ (f_ (Zq (Zm rfl (Zo ?_))))));refine wf_atZ L O hB rfl rfl wR_ wS_ ?_;intro e5 e6 e7 b7 b8;cases b8
   refine Zv (e_ rfl wT_ (k_ b7)) (Za rfl (Za rfl (Ze [(1,_),(2,_),(5,_),(6,_),(8,_),(9,_),(10,_)] (nx (c_ ?_)))));obtain⟨G,R,d⟩:=a_ d;obtain⟨H,S,d⟩:=a_ d;obtain⟨b9,T,d⟩:=a_ d;obtain⟨U,V,d⟩:=a_ d;refine ZW (Bf:=λd6 b3=>Bs (λ_=>1) d6 w b3∧Bz w 11 d6 b3 m 109 [ZI q.p.Labels,ZI q.p.Degree,b0,b1,b2]) [(1,_),(2,_),(5,_),(6,_),(8,_),(9,_),(10,_)] (Zrg 15 8) [[],[],[0,1],[2],[],[],[5],[4,6]] (Zcn 8) (Zt9 8) [0,0,0,12,0,0,0,0] [999] [.inl f,.inl (ZI b),.inr (λv o c0=>RdL zt w v G),.inr (λv o c0=>Oz w 3 12 o c0 v H),.inl f,.inl (ZI b),.inl (ZI b9),.inr (λv o c0=>RdL zt w v U)] ⟨hB,g⟩ ⟨λ_ _ _ _ _ _ c1 hb h hs=>h,λ_ _ _ _ _ _ c1 hb h hs=>h.stp hs c1.1 (Ne.symm hb),λ_ _ _ _ _ _ c1 hb h hs=>h,trivial⟩ ?_ ?_
   ·refine⟨Dp (h_ rfl),Dp (h_ rfl),?_,?_,Dp (h_ rfl),Dp (h_ rfl),Dp (C_ rfl rfl T),?_,trivial⟩
    ·rintro e8 e9 f0 ha- -;refine Zs ha ?_;refine kJ_ L R rfl rfl rfl wR_ wS_ ?_;intro f1 c2;exact⟨_,Stp.refl _ _ _,c2⟩
    ·rintro c3 c4 W ha ⟨hB,g⟩ ⟨x,-⟩;replace x:RdL zt w (W.tmps.getD 17 undef) G:=x;generalize c5:W.tmps.getD 17 undef=f2 at x;have ha:=ha.c c5;refine Zs ha ?_;refine o_ (eB_ c4 c3 12 (by decide) _ G (x.keep hB.keeps) H S) Tryz.call66 ⟨rfl,trivial⟩ ?_;rintro f3 f4 ⟨f5,f6,rfl,I,c6,c7⟩;have c8:=c6.stp' 999 c7;replace I:=I.mono hB.keeps.size;refine⟨_,rfl,?_⟩;exact⟨_,c8,I⟩
    ·rintro f7 f8 f9 ha- -;refine Zs ha ?_;refine kJ_ L V rfl rfl rfl wR_ wS_ ?_;intro g0 c9;exact⟨_,Stp.refl _ _ _,c9⟩
   rintro _ rfl d0 d1 y ha ⟨hB,g⟩ ⟨-,A,B,-⟩;replace A:Oz w 3 12 d0 d1 (y.tmps.getD 18 undef) H:=A;generalize d2:y.tmps.getD 18 undef=g1 at A;have ha:=ha.c d2;replace B:RdL zt w (y.tmps.getD 22 undef) U:=B;generalize d3:y.tmps.getD 22 undef=g2 at B;have ha:=ha.c d3;refine aH_ ha ?_;obtain⟨d4,X,d⟩:=a_ d;refine Zo ?_;refine nH_ A (B.keep hB.keeps) X (by decide) hB.keeps.size (λ_ _ h=>h) rfl rfl wR_ eu_ rfl (by decide) ?_;intro C Y Z a0 a1;obtain⟨g,hB⟩:=ZS a1 (A2 g hB);refine Za rfl (Ze [(1,_),(2,_),(6,_),(7,_),(8,_),(9,_),(10,_)] (Zn (Zv (E_ rfl xB_ xC_ rfl g.cells) (Zm rfl ?_))));obtain⟨D,J,d⟩:=a_ d;refine Zo ?_;refine o_ (hD_ fuel Y _ q (⟨_,_,_,rfl,e0.keep hB.keeps,e1.keep hB.keeps,e2.keep hB.keeps⟩) _ d4 a0.z 0 D J) yl_ ⟨rfl,rfl,rfl,trivial⟩ ?_;rintro d7 d8 ⟨rfl,a2⟩;have a3:=a2.stp 999 C;refine⟨_,rfl,?_⟩;obtain⟨g,hB⟩:=ZS a3 (A2 g hB);refine Zm rfl (Zv (bR_ rfl rfl) (Ze [(1,_),(2,_),(8,_),(9,_),(10,_),(28,_)] (nx ?_)));refine l_ rfl (λs=>?_) (λs=>?_)
   ·rw[if_pos s] at d;refine Zq (Za rfl (Ze [(4,_)] (nx (j_ (W_ (y_ (y_ (W_ ?_))))))));refine bg_ ?_;have a4:=Zj d;subst a4;refine λa ha=>⟨_,Q,?_⟩;refine D_ (P:=wQ_) (vs:=[.bool false]) zu_ ⟨rfl,trivial⟩ ?_ a ha;exact⟨rfl,hB.keeps⟩
   ·replace d:=ZF s d;refine g_ (x_ (nx (d_ (Zv (C_ rfl rfl (F_ (by omega) (by omega))) (Zm rfl (Ze [(1,_),(2,_),(8,_),(9,_),(10,_)] (u_ ?_)))))));have a5:=Zj d;subst a5;refine Zk [(1,_),(2,_),(8,_),(9,_),(10,_)] ?_;intro a ha;exact⟨_,(by rw[<-b5];simp only[List.length_drop];omega),b+1,C,Q,rfl,by omega,ha,hB,g⟩
  ·have a6:=S_ u N;refine J_ ha ?_;refine Zq (Zv (r_ rfl rfl) (Ze [(1,_),(2,_),(8,_),(9,_),(10,_),(11,_)] (nx (c_ ?_))));refine G_ (Zb (decide_eq_false u)) ?_;refine s_ ?_;refine n_ (n_ (N_ ?_));refine p_ ?_;refine Zk [] ?_;intro a ha;exact⟨k,a6,ha,hB⟩
 ·rintro a j ⟨k,rfl,ha,hB⟩;dsimp only at hF;refine ap_k ha ?_;refine Zn (Za rfl (Ze [(4,_)] (nx (j_ ?_))));have a7:=Zj hF;subst a7;refine Zr zu_ [.bool true] ?_;exact⟨rfl,hB.keeps⟩
 ·rintro a j ⟨r',rfl,a8⟩;dsimp only at hF;have a9:=Zj hF;subst a9;exact a8
def gh_:Int->Int->(List Int)->Option (Lp (List Int) (List Int) (b_×(List Int)×Bool)):=λ(d:Int)(a:Int)(s:List Int)=>
  (ck (a+1))>>=λb=>
  (push s b)>>=λc=>
  some (.go c)
def fs_(fuel:Nat)(d:bw_):Int->(List Int)->(List (List Int))->Option (Lp (List (List Int)) (List (List Int)) (b_×(List Int)×Bool)):=λ(q:Int)(f:List Int)(s:List (List Int))=>
  (forI (gh_) f 0 [])>>=λg=>
  match g with
  | .inl a=>
    (aA_ fuel d a 0)>>=λb=>
    (
      if b==0 then
        some true
      else
        if decide ((a.length:Int)>0) then
          (ck ((a.length:Int)-1))>>=λi=>
          (ix a i)>>=λj=>
          some (decide (b<j))
        else
          some false)>>=λk=>
    if k then
      some (.go s)
    else
      (push a b)>>=λc=>
      (dw_ fuel d c)>>=λm=>
      if m then
        (push s c)>>=λn=>
        some (.go n)
      else
        some (.go s)
  | .inr _=>none
def hC_(fuel:Nat)(b:b_):Option (b_×(List Int)×Bool):=
  (
    if b.Degree==4 then
      some (decide (b.Labels>6))
    else
      some false)>>=λf=>
  if f then
    some ((⟨0,0,[],[]⟩:b_),[],false)
  else
    (fV_ fuel b)>>=λg=>
    (shl 1 b.Labels)>>=λi=>
    (ck (i-1))>>=λj=>
    (ck (b.Degree-1))>>=λk=>
    (en_ fuel j k)>>=λm=>
    (forI (fs_ fuel g) m 0 [])>>=λc=>
    match c with
    | .inl d=>
      (gI_ fuel b d false)>>=λa=>
      some (a.1,a.2.1,a.2.2)
    | .inr _=>none
def ub_(oo:Tg)(t:Nat)(w:World)(r:b_×Yl×Bool):Ending->World->Prop:=λe w'=>∃(a:List Value)(c:Value)(o':Tg),e=.returned (.tuple #[.agg a.toArray,c,.bool r.2.2])∧Rp.rd o' w' a r.1∧RdL o' w' c r.2.1∧Keeps w w'∧∀b,b<w.heap.size->o' b=oo b
theorem tw_(fuel:Nat)(w:World)(oo:Tg)(t:Nat)(ht:2<=t)(p4:List Value)(a0:b_)(n1:Rp.rd oo w p4 a0)(r:b_×Yl×Bool)(hF:hC_ fuel a0=some r):
    Calls wQ_ 76 #[.agg p4.toArray] w (ub_ oo t w r):=by
 unfold hC_ at hF;replace n1:=Rp.col n1;obtain⟨c1,c2,rfl,M,N⟩:=n1;have hB:Bs oo (col oo) w w:=Bs.start _ _;refine i_ (n:=87) (vs:=[.agg #[ZI a0.Labels,ZI a0.Degree,c1,c2]]) Tryz.func76 rfl rfl ?_;generalize col oo=o at*;refine Zq (Zo ?_);refine as_ (o:=o) w.heap.size 11 hB.keeps.size (cs:=[ZI a0.Labels,ZI a0.Degree,c1,c2]) rfl rfl ?_;intro t1 u7 O Q t2;obtain⟨M,N,hB⟩:=ZS t2 (A3 M N hB);refine Zo ?_;refine av_ (o:=t1) w.heap.size 12 hB.keeps.size (cs:=[ZI 0,ZI 0,.slice none 0 0,.slice none 0 0]) xf_ rfl ?_;intro e9 f0 j k n2;obtain⟨M,N,Q,hB⟩:=ZS n2 (A4 M N Q hB);refine Za rfl (Za rfl (Ze [(1,_),(2,_)] (nx (c_ (Zq (Zv (m_ rfl wW_ rfl wS_) (Zv (e_ rfl wT_ (Q.cell rfl)) (Zv (cD_ rfl rfl) (Zm rfl ?_)))))))));obtain⟨g5,b2,hF⟩:=a_ hF;refine bc_ 4 (λn3 f1=>Fr n3 87 [(1,ZP O),(2,ZP j),(20,.bool g5)]∧Keeps f0 f1) ?_ ?_;all_goals simp only[List.take_succ_cons,List.take_zero,List.drop_succ_cons,List.drop_zero]
 ·have kp:Keeps f0 f0:=Keeps.refl _;rcases Bool.eq_false_or_eq_true (a0.Degree==4) with a4|a4
  ·rw[if_pos a4] at b2;refine q_ (m_ rfl wW_ rfl wS_) (by decide) ⟨_,rfl,Zb a4⟩ (q_ (e_ rfl wT_ (Q.cell rfl)) (by decide) ⟨_,rfl,Zb a4⟩ (q_ (eN_ rfl rfl) (by decide) ⟨_,rfl,Zb a4⟩ (Zv (P_ (Zb a4) rfl) ?_)));have a5:=Zj b2;refine Ze [(1,_),(2,_),(20,_)] ?_;subst a5;refine p_ (λa ha=>⟨ha,kp⟩)
  ·replace b2:=ZF a4 b2;refine A_ rfl rfl (by rw[a4];rfl) (by decide) ?_;refine A_ rfl rfl (by rw[a4];rfl) (by decide) ?_;refine A_ rfl rfl (by rw[a4];rfl) (by decide) ?_;refine Zv (I_ (Zb a4) rfl) ?_;have a5:=Zj b2;refine Ze [(1,_),(2,_),(20,_)] ?_;subst a5;refine p_ (λa ha=>⟨ha,kp⟩)
 rintro t3 f1 ⟨ha,n4⟩;have n5:=n4.stp 999 e9;obtain⟨Q,M,N,k,hB⟩:=ZS n5 (A5 Q M N k hB);refine aH_ ha ?_;refine Ze [(1,_),(2,_),(20,_)] (nx ?_);refine l_ rfl (λf2=>?_) (λf2=>?_)
 ·rw[if_pos f2] at hF;refine Zq (Zv (ba_ (vs:=[]) (cs:=[ZI 0,ZI 0,.slice none 0 0,.slice none 0 0]) trivial (by kernel_rfl)) ?_);refine Z_ trivial ?_;refine T_ k rfl rfl rfl az_ (by intro c hc;simp only[List.mem_cons,List.not_mem_nil,or_false] at hc;rcases hc with rfl|rfl|rfl|rfl<;>first|rfl) ?_;intro t4 n6 n7;replace hB:=hB.stp n7;refine Za rfl (Za rfl (Ze [(2,_),(3,_),(4,_)] (nx (j_ (y_ ?_)))));have n8:=Zj hF;subst n8;refine D_ (P:=wQ_) (vs:=[.agg #[ZI 0,ZI 0,.slice none 0 0,.slice none 0 0],.slice none 0 0,.bool false]) zv_ ⟨⟨_,rfl,al_ wX_ wU_ rfl n6.cells⟩,rfl,rfl,trivial⟩ ?_;exact⟨[ZI 0,ZI 0,.slice none 0 0,.slice none 0 0],_,rt oo e9 w.heap.size 9 t,rfl,⟨_,_,rfl,RdL.nil _ _,RdL.nil _ _⟩,RdL.nil _ _,hB.keeps,am_ _ _ _ _ _⟩
 ·replace hF:=ZF f2 hF;refine g_ (Zn (Zv (E_ rfl wX_ wU_ rfl Q.cells) ?_));obtain⟨R,g6,hF⟩:=a_ hF;refine Zo ?_;refine o_ (qq_ fuel f1 e9 13 (by decide) _ a0 (⟨_,_,rfl,M,N⟩) R g6) Tryz.call109 ⟨rfl,trivial⟩ ?_;rintro t5 t6 ⟨t7,n9,rfl,o0,o1,o2⟩;have o3:=o1.stp' 13 o2;refine⟨_,rfl,?_⟩;obtain⟨a9,b0,b1,rfl,x,y,A⟩:=o0;obtain⟨M,N,Q,k,hB⟩:=ZS o3 (A5 M N Q k hB);refine Zo ?_;refine av_ (o:=n9) w.heap.size 14 hB.keeps.size (cs:=[ZI 0,ZI 0,.slice none 0 0,.slice none 0 0,.slice none 0 0]) yk_ rfl ?_;intro t8 t9 C o4 o5;obtain⟨M,N,x,y,A,Q,k,hB⟩:=ZS o5 (A8 M N x y A Q k hB);refine Z_ trivial ?_;refine T_ o4 rfl rfl rfl cV_ (by intro c hc;simp only[List.mem_cons,List.not_mem_nil,or_false] at hc;rcases hc with rfl|rfl|rfl|rfl|rfl<;>first|rfl|exact x.one1|exact y.one1|exact A.one1) ?_;intro u0 E o6;obtain⟨M,N,x,y,A,Q,k,hB⟩:=ZS o6 (A8 M N x y A Q k hB);refine Ze [(1,_),(2,_),(5,_)] (Zn (Za rfl (Ze [(1,_),(2,_),(5,_),(6,_)] (nx (c_ (c_ ?_))))));obtain⟨o7,g7,hF⟩:=a_ hF;obtain⟨g8,g9,hF⟩:=a_ hF;obtain⟨h0,h1,hF⟩:=a_ hF;obtain⟨s,h2,hF⟩:=a_ hF;refine ZW (Bf:=λd3 d4=>Bs oo d3 w d4∧Bz w 11 d3 d4 O 28 [ZI a0.Labels,ZI a0.Degree,c1,c2]∧RdL d3 d4 c1 (a0.Nodes:Yk)∧RdL d3 d4 c2 (a0.Edges:Yk)∧Bz w 12 d3 d4 j 28 [ZI 0,ZI 0,.slice none 0 0,.slice none 0 0]∧Bz w 14 d3 d4 C 109 [ZI R.p.Labels,ZI R.p.Degree,a9,b0,b1]∧RdL d3 d4 a9 (R.p.Nodes:Yk)∧RdL d3 d4 b0 (R.p.Edges:Yk)∧RdL d3 d4 b1 (R.good:List Bool)) [(1,_),(2,_),(5,_),(6,_)] (Zrg 24 10) [[],[0],[1],[2],[],[4],[5],[3,6],[7],[]] (Zcn 10) (Zt9 10) (Zt0 10) [999] [.inl (.pointer (some ⟨O,0+0,none⟩)),.inl (ZI a0.Labels),.inl (ZI o7),.inl (ZI g8),.inl (.pointer (some ⟨O,0+1,none⟩)),.inl (ZI a0.Degree),.inl (ZI h0),.inr (λv o u1=>RdL o u1 v s),.inl (ZI (s.length:Int)),.inl (ZI 0)] ⟨hB,Q,M,N,k,E,x,y,A⟩ ⟨λ_ _ _ _ _ _ u2 hb h hs=>h.stp hs u2.1,trivial⟩ ?_ ?_
  ·refine⟨Dp (m_ rfl wW_ rfl wS_),Dq λh=>e_ rfl wT_ (h.2.1.cell rfl),Dp (gL_ rfl rfl g7),Dp (bs_ rfl rfl g9),Dp (m_ rfl wW_ rfl wS_),Dq λh=>e_ rfl wT_ (h.2.1.cell rfl),Dp (bs_ rfl rfl h1),?_,?_,Dp (h_ rfl),trivial⟩
   ·rintro o8 o9 u3 ha ⟨hB,Q,M,N,k,E,x,y,A⟩-;refine Zs ha ?_;refine o_ (jT_ fuel o9 o8 16 (by decide) g8 h0 s h2) Tryz.call110 ⟨rfl,rfl,trivial⟩ ?_;rintro u4 u5 ⟨u6,p5,rfl,p0,p1,p2⟩;have p3:=p1.stp' 999 p2;refine⟨_,rfl,?_⟩;exact⟨_,p3,p0⟩
   ·rintro h3 h4 d5 ha- ⟨b3,-⟩;replace b3:RdL h3 h4 (d5.tmps.getD 31 undef) s:=b3;generalize h5:d5.tmps.getD 31 undef=p6 at b3;have ha:=ha.c h5;refine Zs ha ?_;refine M_ (B_ rfl b3 wV_) ?_;exact Zx rfl
  rintro _ rfl b4 c3 d6 ha ⟨hB,Q,M,N,k,E,x,y,A⟩ ⟨i,-⟩;replace i:RdL b4 c3 (d6.tmps.getD 31 undef) s:=i;generalize h6:d6.tmps.getD 31 undef=f at i;have ha:=ha.c h6;refine aH_ ha ?_;refine Ze [(1,_),(2,_),(5,_),(6,_),(31,_),(32,_),(33,_)] (nx ?_);have h7:Oz w 41 17 b4 c3 (.slice none 0 0) ([]:List Hv):=Ow.nil _ _ _ _ _;have h8:Rq w 3 18 b4 c3 [] ([]:Yk):=Rws.nil _ _ _ _ _;obtain⟨d7,f3,hF⟩:=a_ hF;refine v_ (λa D=>∃V d S B,d7=.inl V∧Fr a 87 [(1,ZP O),(2,ZP j),(6,d)]∧Bs oo B w D∧Oz w 41 17 B D d S∧Rq w 3 18 B D S V∧Bz w 11 B D O 28 [ZI a0.Labels,ZI a0.Degree,c1,c2]∧RdL B D c1 (a0.Nodes:Yk)∧RdL B D c2 (a0.Edges:Yk)∧Bz w 12 B D j 28 [ZI 0,ZI 0,.slice none 0 0,.slice none 0 0]) (λ_ _=>False) ?_ ?_ ?_
  ·refine f_ ?_;refine w_ (λ(K:Nat) a D=>∃(b:Int),∃V d S B,forI (fs_ fuel R) (s.drop b.toNat) b V=some d7∧(s.drop b.toNat).length=K∧0<=b∧Fr a 87 [(1,ZP O),(2,ZP j),(5,ZP C),(6,d),(31,f),(32,ZI (s.length:Int)),(33,ZI b)]∧Bs oo B w D∧Oz w 41 17 B D d S∧Rq w 3 18 B D S V∧RdL B D f s∧Bz w 11 B D O 28 [ZI a0.Labels,ZI a0.Degree,c1,c2]∧RdL B D c1 (a0.Nodes:Yk)∧RdL B D c2 (a0.Edges:Yk)∧Bz w 12 B D j 28 [ZI 0,ZI 0,.slice none 0 0,.slice none 0 0]∧Bz w 14 B D C 109 [ZI R.p.Labels,ZI R.p.Degree,a9,b0,b1]∧RdL B D a9 (R.p.Nodes:Yk)∧RdL B D b0 (R.p.Edges:Yk)∧RdL B D b1 (R.good:List Bool)) _ (λa ha=>⟨0,[],.slice none 0 0,[],b4,f3,rfl,Int.le_refl 0,ha.sb,hB,h7,h8,i,Q,M,N,k,E,x,y,A⟩) ?_;rintro K132 a D ⟨b,V,d,S,B,d8,c4,h9,ha,hB,u,m,i,Q,M,N,k,E,x,y,A⟩;by_cases b5:b<(s.length:Int)
   ·obtain⟨T,p7,f4,F,c5⟩:=R_ h9 b5 d8;have hle:=i.len_le;dsimp only[fs_] at F;refine J_ ha ?_;refine Zq (Zv (r_ rfl rfl) (Ze [(1,_),(2,_),(5,_),(6,_),(31,_),(32,_),(33,_),(34,_)] (nx (c_ ?_))));refine L_ (Zb (decide_eq_true b5)) ?_;refine g_ (nx (c_ (f_ (Zq (Zo ?_)))));refine fo_ i f4 rfl rfl wV_ wY_ ?_;intro p8 p9 q0 i0 i1;obtain⟨W,rfl,a1⟩:=i1;refine Zv (e_ rfl Tryz.isAgg41 (k_ i0)) (Za rfl (Ze [(1,_),(2,_),(5,_),(6,_),(8,_),(31,_),(32,_),(33,_)] (Zn (Za rfl (Ze [(1,_),(2,_),(5,_),(6,_),(8,_),(9,_),(31,_),(32,_),(33,_)] (nx (c_ (Zq (Zm rfl (Zv (B_ rfl a1 wR_) (Zm rfl (Ze [(1,_),(2,_),(5,_),(6,_),(9,_),(31,_),(32,_),(33,_),(37,_),(38,_),(39,_)] ?_))))))))))));refine nx ?_;have i2:Oz w 3 19 B D (.slice none 0 0) ([]:Yl):=Ow.nil _ _ _ _ _;obtain⟨d9,a5,F⟩:=a_ F;refine v_ (λa q=>∃a2 H g,d9=.inl a2∧Fr a 87 [(1,ZP O),(2,ZP j),(5,ZP C),(6,d),(9,H),(31,f),(32,ZI (s.length:Int)),(33,ZI b)]∧Bs oo g w q∧Oz w 41 17 g q d S∧Rq w 3 18 g q S V∧Oz w 3 19 g q H a2∧RdL g q f s∧Bz w 11 g q O 28 [ZI a0.Labels,ZI a0.Degree,c1,c2]∧RdL g q c1 (a0.Nodes:Yk)∧RdL g q c2 (a0.Edges:Yk)∧Bz w 12 g q j 28 [ZI 0,ZI 0,.slice none 0 0,.slice none 0 0]∧Bz w 14 g q C 109 [ZI R.p.Labels,ZI R.p.Degree,a9,b0,b1]∧RdL g q a9 (R.p.Nodes:Yk)∧RdL g q b0 (R.p.Edges:Yk)∧RdL g q b1 (R.good:List Bool)) (λ_ _=>False) ?_ ?_ ?_
    ·refine f_ ?_;refine w_ (λ(K:Nat) a q=>∃(J:Int),∃a2 H g,forI (gh_) (T.drop J.toNat) J a2=some d9∧(T.drop J.toNat).length=K∧0<=J∧Fr a 87 [(1,ZP O),(2,ZP j),(5,ZP C),(6,d),(9,H),(31,f),(32,ZI (s.length:Int)),(33,ZI b),(37,W),(38,ZI (T.length:Int)),(39,ZI J)]∧Bs oo g w q∧Oz w 41 17 g q d S∧Rq w 3 18 g q S V∧Oz w 3 19 g q H a2∧RdL g q f s∧RdL g q W T∧Bz w 11 g q O 28 [ZI a0.Labels,ZI a0.Degree,c1,c2]∧RdL g q c1 (a0.Nodes:Yk)∧RdL g q c2 (a0.Edges:Yk)∧Bz w 12 g q j 28 [ZI 0,ZI 0,.slice none 0 0,.slice none 0 0]∧Bz w 14 g q C 109 [ZI R.p.Labels,ZI R.p.Degree,a9,b0,b1]∧RdL g q a9 (R.p.Nodes:Yk)∧RdL g q b0 (R.p.Edges:Yk)∧RdL g q b1 (R.good:List Bool)) _ (λa ha=>⟨0,[],.slice none 0 0,B,a5,rfl,Int.le_refl 0,ha.sb,hB,u,m,i2,i,a1,Q,M,N,k,E,x,y,A⟩) ?_;rintro K156 a q ⟨J,a2,H,g,e0,i3,i4,ha,hB,u,m,L,i,a1,Q,M,N,k,E,x,y,A⟩;by_cases b6:J<(T.length:Int)
     ·obtain⟨i5,q1,f5,a8,i6⟩:=R_ i4 b6 e0;have hle:=a1.len_le;dsimp only[gh_] at a8;refine J_ ha ?_;refine Zq (Zv (r_ rfl rfl) (Ze [(1,_),(2,_),(5,_),(6,_),(9,_),(31,_),(32,_),(33,_),(37,_),(38,_),(39,_),(40,_)] (nx (c_ ?_))));refine L_ (Zb (decide_eq_true b6)) ?_;refine g_ (nx (c_ (f_ (Zq (Zo ?_)))));refine fo_ a1 f5 rfl rfl wR_ wS_ ?_;intro q2 q3 q4 i7 i8;cases i8
      refine Zv (e_ rfl wT_ (k_ i7)) (Za rfl (Ze [(1,_),(2,_),(5,_),(6,_),(9,_),(11,_),(31,_),(32,_),(33,_),(37,_),(38,_),(39,_)] (nx (d_ (Zm rfl (Zm rfl ?_))))));obtain⟨c6,f6,a8⟩:=a_ a8;refine Zv (C_ rfl rfl f6) (Zo ?_);refine au_ (o:=g) (cs:=[ZI c6]) (xs:=([c6]:Yl)) (vs:=[(0,ZI c6)]) ⟨_,_,rfl,rfl,rfl⟩ rfl ⟨rfl,rfl,trivial⟩ wR_ wS_ xd_ (by decide) (fill1 rfl) (by simp) ?_;intro q5 q6 q7 i9 j0 q8;obtain⟨u,m,L,i,a1,Q,M,N,k,E,x,y,A,hB⟩:=ZS j0 (A8 u m L i a1 Q M (A7 N k E x y A hB));obtain⟨j1,f7,a8⟩:=a_ a8;refine Zo ?_;refine aT_ L i9 (ai_ f7) (by decide) hB.keeps.size rfl rfl wR_ eu_ rfl (by decide) ?_;intro j2 q9 b7 j3 j4;obtain⟨u,m,i,a1,Q,M,N,k,E,x,y,A,hB⟩:=ZS j4 (A8 u m i a1 Q M N (A6 k E x y A hB));refine Za rfl (Ze [(1,ZP O),(2,ZP j),(5,ZP C),(6,d),(9,b7),(31,f),(32,ZI (s.length:Int)),(33,ZI b),(37,W),(38,ZI (T.length:Int)),(39,ZI J)] (x_ (nx (d_ (Zv (C_ rfl rfl (F_ (by omega) (by omega))) (Zm rfl (Ze [(1,_),(2,_),(5,_),(6,_),(9,_),(31,_),(32,_),(33,_),(37,_),(38,_),(39,_)] (u_ ?_))))))));have j5:=Zj a8;subst j5;refine Zk [(1,_),(2,_),(5,_),(6,_),(9,_),(31,_),(32,_),(33,_),(37,_),(38,_),(39,_)] ?_;intro a ha;exact⟨_,(by rw[<-i3];simp only[List.length_drop];omega),J+1,j1,b7,j2,i6,rfl,by omega,ha,hB,u,m,j3,i,a1,Q,M,N,k,E,x,y,A⟩
     ·have j6:=S_ b6 e0;refine J_ ha ?_;refine Zq (Zv (r_ rfl rfl) (Ze [(1,_),(2,_),(5,_),(6,_),(9,_),(31,_),(32,_),(33,_),(37,_),(38,_),(39,_),(40,_)] (nx (c_ ?_))));refine G_ (Zb (decide_eq_false b6)) ?_;refine s_ ?_;refine n_ (n_ (N_ ?_));refine p_ ?_;refine Zk [(1,_),(2,_),(5,_),(6,_),(9,_),(31,_),(32,_),(33,_)] ?_;intro a ha;exact⟨a2,H,g,j6,ha,hB,u,m,L,i,Q,M,N,k,E,x,y,A⟩
    ·rintro a q ⟨a2,H,g,rfl,ha,hB,u,m,L,i,Q,M,N,k,E,x,y,A⟩;dsimp only at F;refine ap_k ha ?_;refine Zn (Zv (E_ rfl xB_ xC_ rfl E.cells) (Zm rfl ?_));obtain⟨X,f8,F⟩:=a_ F;refine Zo ?_;refine o_ (hD_ fuel q _ R (⟨_,_,_,rfl,x.z,y.z,A.z⟩) _ a2 L.z 0 X f8) yl_ ⟨rfl,rfl,rfl,trivial⟩ ?_;rintro r0 c7 ⟨rfl,j7⟩;have j8:=j7.stp 999 g;refine⟨_,rfl,?_⟩;obtain⟨u,m,L,i,x,y,A,Q,M,N,k,E,hB⟩:=ZS j8 (A8 u m L i x y A (A6 Q M N k E hB));refine Za rfl (Ze [(1,_),(2,_),(5,_),(6,_),(9,_),(12,_),(31,_),(32,_),(33,_)] (nx (c_ (Zq (Zm rfl (Zv (cD_ rfl rfl) (Zm rfl ?_)))))));obtain⟨e1,U,F⟩:=a_ F;refine bc_ 14 (λj9 e2=>Fr j9 87 [(1,ZP O),(2,ZP j),(5,ZP C),(6,d),(9,H),(12,ZI X),(31,f),(32,ZI (s.length:Int)),(33,ZI b),(68,.bool e1)]∧Keeps c7 e2) ?_ ?_;all_goals simp only[List.take_succ_cons,List.take_zero,List.drop_succ_cons,List.drop_zero]
     ·have kp:Keeps c7 c7:=Keeps.refl _;rcases Bool.eq_false_or_eq_true (X==0) with I|I
      ·rw[if_pos I] at U;refine A_ rfl rfl (by rw[I];rfl) (by decide) ?_;refine A_ rfl rfl (by rw[I];rfl) (by decide) ?_;refine A_ rfl rfl (by rw[I];rfl) (by decide) ?_;refine A_ rfl rfl (by rw[I];rfl) (by decide) ?_;refine aq_ rfl rfl (by decide) ?_;refine aq_ rfl rfl (by decide) ?_;refine aq_ rfl rfl (by decide) ?_;refine aq_ rfl rfl (by decide) ?_;refine aq_ rfl rfl (by decide) ?_;refine aq_ rfl rfl (by decide) ?_;refine aq_ rfl rfl (by decide) ?_;refine aq_ rfl rfl (by decide) ?_;refine A_ rfl rfl (by rw[I];rfl) (by decide) ?_;refine Zv (P_ (Zb I) rfl) ?_;have a3:=Zj U;refine Ze [(1,_),(2,_),(5,_),(6,_),(9,_),(12,_),(31,_),(32,_),(33,_),(68,_)] ?_;subst a3;refine p_ (λa ha=>⟨ha,kp⟩)
      ·replace U:=ZF I U;refine q_ (h_ rfl) (by decide) ⟨_,rfl,Zb I⟩ (q_ (bC_ rfl L wR_) (by decide) ⟨_,rfl,Zb I⟩ (q_ (eN_ rfl rfl) (by decide) ⟨_,rfl,Zb I⟩ (q_ (h_ rfl) (by decide) ⟨_,rfl,Zb I⟩ ?_)));rcases Bool.eq_false_or_eq_true (decide ((a2.length:Int)>0)) with G|G
       ·rw[if_pos G] at U;refine q_ (h_ rfl) (by decide) ⟨_,rfl,Zb G⟩ (q_ (h_ rfl) (by decide) ⟨_,rfl,Zb G⟩ (q_ (h_ rfl) (by decide) ⟨_,rfl,Zb G⟩ (q_ (bC_ rfl L wR_) (by decide) ⟨_,rfl,Zb G⟩ ?_)));obtain⟨r1,f9,U⟩:=a_ U;refine q_ (bs_ rfl rfl f9) (by decide) ⟨_,rfl,Zb G⟩ ?_;obtain⟨k0,g0,U⟩:=a_ U;refine cJ_ (by decide) ⟨_,rfl,Zb G⟩ ?_;refine gE_ L g0 rfl rfl wR_ wS_ ?_;intro r2 r3 r4 k1 k2;cases k2
        refine q_ (e_ rfl wT_ (k_ k1)) (by decide) ⟨_,rfl,Zb G⟩ (q_ (r_ rfl rfl) (by decide) ⟨_,rfl,Zb G⟩ (q_ (P_ (Zb G) rfl) (by decide) ⟨_,rfl,Zb I⟩ (Zv (I_ (Zb I) rfl) ?_)));have a3:=Zj U;refine Ze [(1,_),(2,_),(5,_),(6,_),(9,_),(12,_),(31,_),(32,_),(33,_),(68,_)] ?_;subst a3;refine p_ (λa ha=>⟨ha,kp⟩)
       ·replace U:=ZF G U;refine A_ rfl rfl (by rw[G];rfl) (by decide) ?_;refine A_ rfl rfl (by rw[G];rfl) (by decide) ?_;refine A_ rfl rfl (by rw[G];rfl) (by decide) ?_;refine A_ rfl rfl (by rw[G];rfl) (by decide) ?_;refine A_ rfl rfl (by rw[G];rfl) (by decide) ?_;refine A_ rfl rfl (by rw[G];rfl) (by decide) ?_;refine A_ rfl rfl (by rw[G];rfl) (by decide) ?_;refine A_ rfl rfl (by rw[G];rfl) (by decide) ?_;refine q_ (I_ (Zb G) rfl) (by decide) ⟨_,rfl,Zb I⟩ (Zv (I_ (Zb I) rfl) ?_);have a3:=Zj U;refine Ze [(1,_),(2,_),(5,_),(6,_),(9,_),(12,_),(31,_),(32,_),(33,_),(68,_)] ?_;subst a3;refine p_ (λa ha=>⟨ha,kp⟩)
     rintro r5 e2 ⟨ha,k3⟩;have k4:=k3.stp 999 g;obtain⟨u,m,L,i,Q,M,N,k,E,x,y,A,hB⟩:=ZS k4 (A8 u m L i Q M N (A6 k E x y A hB));refine aH_ ha ?_;refine Ze [(1,_),(2,_),(5,_),(6,_),(9,_),(12,_),(31,_),(32,_),(33,_),(68,_)] (nx ?_);refine l_ rfl (λc8=>?_) (λc8=>?_)
     ·rw[if_pos c8] at F;refine s_ ?_;refine n_ (N_ (nx (d_ (Zv (C_ rfl rfl (F_ (by omega) (by omega))) (Zm rfl (Ze [(1,_),(2,_),(5,_),(6,_),(31,_),(32,_),(33,_)] (u_ ?_)))))));have k5:=Zj F;subst k5;refine Zk [(1,_),(2,_),(5,_),(6,_),(31,_),(32,_),(33,_)] ?_;intro a ha;exact⟨_,(by rw[<-c4];simp only[List.length_drop];omega),b+1,V,d,S,g,c5,rfl,by omega,ha,hB,u,m,i,Q,M,N,k,E,x,y,A⟩
     ·replace F:=ZF c8 F;refine g_ (Zn (Zm rfl (Zm rfl (Zo ?_))));refine au_ (o:=g) (cs:=[ZI X]) (xs:=([X]:Yl)) (vs:=[(0,ZI X)]) ⟨_,_,rfl,rfl,rfl⟩ rfl ⟨rfl,rfl,trivial⟩ wR_ wS_ xd_ (by decide) (fill1 rfl) (by simp) ?_;intro r6 r7 r8 k6 k7 r9;obtain⟨u,m,L,i,Q,M,N,k,E,x,y,A,hB⟩:=ZS k7 (A8 u m L i Q M N (A6 k E x y A hB));obtain⟨k8,g1,F⟩:=a_ F;refine Zo ?_;refine aT_ L k6 (ai_ g1) (by decide) hB.keeps.size rfl rfl wR_ eu_ rfl (by decide) ?_;intro c9 k9 a6 Y l0;obtain⟨u,m,i,Q,M,N,k,E,x,y,A,hB⟩:=ZS l0 (A8 u m i Q M N k (A5 E x y A hB));refine Za rfl (Ze [(1,_),(2,_),(5,_),(6,_),(9,_),(31,_),(32,_),(33,_)] (Zn (Zv (E_ rfl xB_ xC_ rfl E.cells) (Zm rfl ?_))));obtain⟨e3,g2,F⟩:=a_ F;refine Zo ?_;refine o_ (li_ fuel k9 _ R (⟨_,_,_,rfl,x.z,y.z,A.z⟩) _ k8 Y.z e3 g2) Tryz.call112 ⟨rfl,rfl,trivial⟩ ?_;rintro s0 s1 ⟨rfl,l1⟩;have l2:=l1.stp 999 c9;refine⟨_,rfl,?_⟩;obtain⟨u,m,Y,i,x,y,A,Q,M,N,k,E,hB⟩:=ZS l2 (A8 u m Y i x y A (A6 Q M N k E hB));refine Ze [(1,_),(2,_),(5,_),(6,_),(9,_),(31,_),(32,_),(33,_),(75,_)] (nx ?_);refine l_ rfl (λd0=>?_) (λd0=>?_)
      ·rw[if_pos d0] at F;refine d_ (Zm rfl (Zm rfl (Zo ?_)));refine au_ (o:=c9) (cs:=[a6]) (xs:=([⟨a6⟩]:List Hv)) (vs:=[(0,a6)]) ⟨_,_,rfl,iG_ Y,rfl⟩ rfl ⟨rfl,rfl,trivial⟩ wV_ wY_ Tryz.zeroValue41 (by decide) (fill1 Y.cells1) (by simp) ?_;intro s2 s3 s4 l3 l4 s5;obtain⟨u,m,Y,i,Q,M,N,k,E,x,y,A,hB⟩:=ZS l4 (A8 u m Y i Q M N (A6 k E x y A hB));obtain⟨l5,g3,F⟩:=a_ F;obtain⟨l6,l7⟩:=m.pushV g3 a6;refine Zo ?_;refine aT_ u l3 (ai_ l6) (by decide) hB.keeps.size rfl rfl wV_ ki_ rfl (by decide) ?_;intro e4 s6 b8 d1 l8;obtain⟨m,Y,i,Q,M,N,k,E,x,y,A,hB⟩:=ZS l8 (A8 m Y i Q M N k (A5 E x y A hB));have e5:=m.push Y (by decide) (by decide);rw[<-l7] at e5;clear m Y;have Z:=eO_ 19 18 e4;replace i:=i.rc Z (by decide);replace d1:=d1.rc Z (by decide) (by decide);replace Q:=Q.rc Z (by decide);replace M:=M.rc Z (by decide);replace N:=N.rc Z (by decide);replace k:=k.rc Z (by decide);replace E:=E.rc Z (by decide);replace x:=x.rc Z (by decide);replace y:=y.rc Z (by decide);replace A:=A.rc Z (by decide);replace hB:=hB.rc Z (by decide);generalize mrg 19 18 e4=l9 at*;refine Za rfl (Ze [(1,ZP O),(2,ZP j),(5,ZP C),(6,b8),(31,f),(32,ZI (s.length:Int)),(33,ZI b)] (x_ (nx (d_ (Zv (C_ rfl rfl (F_ (by omega) (by omega))) (Zm rfl (Ze [(1,_),(2,_),(5,_),(6,_),(31,_),(32,_),(33,_)] (u_ ?_))))))));have m0:=Zj F;subst m0;refine Zk [(1,_),(2,_),(5,_),(6,_),(31,_),(32,_),(33,_)] ?_;intro a ha;exact⟨_,(by rw[<-c4];simp only[List.length_drop];omega),b+1,l5,b8,S++[⟨a6⟩],l9,c5,rfl,by omega,ha,hB,d1,e5,i,Q,M,N,k,E,x,y,A⟩
      ·replace F:=ZF d0 F;refine g_ (x_ (nx (d_ (Zv (C_ rfl rfl (F_ (by omega) (by omega))) (Zm rfl (Ze [(1,_),(2,_),(5,_),(6,_),(31,_),(32,_),(33,_)] (u_ ?_)))))));have m1:=Zj F;subst m1;refine Zk [(1,_),(2,_),(5,_),(6,_),(31,_),(32,_),(33,_)] ?_;intro a ha;exact⟨_,(by rw[<-c4];simp only[List.length_drop];omega),b+1,V,d,S,c9,c5,rfl,by omega,ha,hB,u,m,i,Q,M,N,k,E,x,y,A⟩
    ·exact λ_ _ h=>h.elim
   ·have m2:=S_ b5 d8;refine J_ ha ?_;refine Zq (Zv (r_ rfl rfl) (Ze [(1,_),(2,_),(5,_),(6,_),(31,_),(32,_),(33,_),(34,_)] (nx (c_ ?_))));refine G_ (Zb (decide_eq_false b5)) ?_;refine s_ ?_;refine n_ (n_ (N_ ?_));refine p_ ?_;refine Zk [(1,_),(2,_),(6,_)] ?_;intro a ha;exact⟨V,d,S,B,m2,ha,hB,u,m,Q,M,N,k⟩
  ·rintro a D ⟨V,d,S,B,rfl,ha,hB,u,m,Q,M,N,k⟩;dsimp only at hF;refine ap_k ha ?_;refine Zn (Zv (E_ rfl wX_ wU_ rfl Q.cells) (Zm rfl ?_));obtain⟨a7,g4,hF⟩:=a_ hF;refine Zo ?_;refine o_ (pe_ fuel D B 22 (by decide) _ a0 (⟨_,_,rfl,M.z,N.z⟩) _ V (m.z u) false a7 g4) Tryz.call113 ⟨rfl,rfl,rfl,trivial⟩ ?_;rintro s7 s8 ⟨s9,e6,m3,rfl,m4,d2,m5,m6⟩;have m7:=m5.stp' 22 m6;refine⟨_,rfl,?_⟩;obtain⟨e7,e8,rfl,b9,c0⟩:=m4;obtain⟨k,hB⟩:=ZS m7 (A2 k hB);refine Zv (t_ rfl rfl) (Zv (t_ rfl rfl) (Zv (t_ rfl rfl) ?_));refine Z_ trivial ?_;refine T_ k rfl rfl rfl az_ (by intro c hc;simp only[List.mem_cons,List.not_mem_nil,or_false] at hc;rcases hc with rfl|rfl|rfl|rfl<;>first|rfl|exact b9.one1|exact c0.one1) ?_;intro t0 m8 m9;obtain⟨b9,c0,d2,hB⟩:=ZS m9 (A4 b9 c0 d2 hB);refine Za rfl (Za rfl (Ze [(2,_),(3,_),(4,_)] (nx (j_ ?_))));have n0:=Zj hF;subst n0;refine D_ (P:=wQ_) (vs:=[.agg #[ZI a7.1.Labels,ZI a7.1.Degree,e7,e8],e6,.bool a7.2.2]) zv_ ⟨⟨_,rfl,al_ wX_ wU_ rfl m8.cells⟩,rfl,rfl,trivial⟩ ?_;exact⟨[ZI a7.1.Labels,ZI a7.1.Degree,e7,e8],_,rt oo m3 w.heap.size 9 t,rfl,⟨_,_,rfl,b9.rt hB 9 t (by decide),c0.rt hB 9 t (by decide)⟩,d2.rt hB 9 t (by decide),hB.keeps,am_ _ _ _ _ _⟩
  ·exact λ_ _ h=>h.elim
def cS_(fuel:Nat)(c:b_):Option (b_×(List Int)×(List Int)×Bool):=
  (fT_ fuel c)>>=λa=>
  if !a.2.2 then
    some ((⟨0,0,[],[]⟩:b_),[],[],false)
  else
    (hC_ fuel a.1)>>=λb=>
    if !b.2.2 then
      some ((⟨0,0,[],[]⟩:b_),[],[],false)
    else
      some (b.1,a.2.1,b.2.1,true)
def jA_(oo:Tg)(t:Nat)(w:World)(r:b_×Yl×Yl×Bool):Ending->World->Prop:=λe w'=>∃(a:List Value)(c:Value)(d:Value)(o':Tg),e=.returned (.tuple #[.agg a.toArray,c,d,.bool r.2.2.2])∧Rp.rd o' w' a r.1∧RdL o' w' c r.2.1∧RdL o' w' d r.2.2.1∧Keeps w w'∧∀b,b<w.heap.size->o' b=oo b
theorem jF_(fuel:Nat)(w:World)(oo:Tg)(t:Nat)(ht:2<=t)(b4:List Value)(v:b_)(b7:Rp.rd zt w b4 v)(r:b_×Yl×Yl×Bool)(hF:cS_ fuel v=some r):
    Calls wQ_ 49 #[.agg b4.toArray] w (jA_ oo t w r):=by
 unfold cS_ at hF;obtain⟨b5,b6,rfl,b8,b9⟩:=b7;have hB:Bs oo (col oo) w w:=Bs.start _ _;refine i_ (n:=33) (vs:=[.agg #[ZI v.Labels,ZI v.Degree,b5,b6]]) Tryz.func49 rfl rfl ?_;generalize col oo=o at*;refine Zq (Zo ?_);refine as_ (o:=o) w.heap.size 11 hB.keeps.size (cs:=[ZI v.Labels,ZI v.Degree,b5,b6]) rfl rfl ?_;intro c0 d7 c1 H c2;replace hB:=hB.stp c2;refine Zo ?_;refine av_ (o:=c0) w.heap.size 12 hB.keeps.size (cs:=[ZI 0,ZI 0,.slice none 0 0,.slice none 0 0]) xf_ rfl ?_;intro I J g a K;obtain⟨H,hB⟩:=ZS K (A2 H hB);refine Za rfl (Za rfl (Za rfl (Ze [(1,_),(2,_)] (Zn (Zv (E_ rfl wX_ wU_ rfl H.cells) ?_)))));obtain⟨s,z,hF⟩:=a_ hF;refine Zo ?_;refine o_ (qe_ fuel J I 13 (by decide) _ v (⟨_,_,rfl,b8.keep hB.keeps,b9.keep hB.keeps⟩) s z) Tryz.call75 ⟨rfl,trivial⟩ ?_;rintro c3 c4 ⟨c5,k,L,rfl,M,b,N,O⟩;have Q:=N.stp' 13 O;refine⟨_,rfl,?_⟩;obtain⟨c6,c7,rfl,m,q⟩:=M;obtain⟨a,hB⟩:=ZS Q (A2 a hB);refine Zm rfl (Zv (t_ rfl rfl) (Zv (t_ rfl rfl) (Zv (t_ rfl rfl) (Zo ?_))));refine av_ (o:=L) w.heap.size 14 hB.keeps.size (cs:=[ZI 0,ZI 0,.slice none 0 0,.slice none 0 0]) xf_ rfl ?_;intro A c8 B R S;obtain⟨m,q,b,a,hB⟩:=ZS S (A5 m q b a hB);refine Z_ trivial ?_;refine T_ R rfl rfl rfl az_ (by intro c hc;simp only[List.mem_cons,List.not_mem_nil,or_false] at hc;rcases hc with rfl|rfl|rfl|rfl<;>first|rfl|exact m.one1|exact q.one1) ?_;intro T U V;obtain⟨m,q,b,a,hB⟩:=ZS V (A5 m q b a hB);refine Za rfl (Za rfl (Ze [(2,_),(6,_),(7,_),(8,_)] (nx (c_ (Zq (Zm rfl (Zv (aI_ rfl) (Ze [(2,_),(6,_),(7,_),(19,_)] (nx ?_)))))))));refine l_ rfl (λx=>?_) (λx=>?_)
 ·rw[if_pos x] at hF;refine Zq (Zv (ba_ (vs:=[]) (cs:=[ZI 0,ZI 0,.slice none 0 0,.slice none 0 0]) trivial (by kernel_rfl)) ?_);refine Z_ trivial ?_;refine T_ a rfl rfl rfl az_ (by intro c hc;simp only[List.mem_cons,List.not_mem_nil,or_false] at hc;rcases hc with rfl|rfl|rfl|rfl<;>first|rfl) ?_;intro c9 W X;replace hB:=hB.stp X;refine Za rfl (Za rfl (Za rfl (Ze [(2,_),(3,_),(4,_),(5,_)] (nx (j_ (y_ ?_))))));have Y:=Zj hF;subst Y;refine D_ (P:=wQ_) (vs:=[.agg #[ZI 0,ZI 0,.slice none 0 0,.slice none 0 0],.slice none 0 0,.slice none 0 0,.bool false]) ym_ ⟨⟨_,rfl,al_ wX_ wU_ rfl W.cells⟩,rfl,rfl,rfl,trivial⟩ ?_;exact⟨[ZI 0,ZI 0,.slice none 0 0,.slice none 0 0],_,_,rt oo A w.heap.size 9 t,rfl,⟨_,_,rfl,RdL.nil _ _,RdL.nil _ _⟩,RdL.nil _ _,RdL.nil _ _,hB.keeps,am_ _ _ _ _ _⟩
 ·replace hF:=ZF x hF;refine g_ (Zn (Zv (E_ rfl wX_ wU_ rfl U.cells) ?_));obtain⟨i,C,hF⟩:=a_ hF;refine Zo ?_;refine o_ (tw_ fuel T A 15 (by decide) _ s.1 (⟨_,_,rfl,m,q⟩) i C) Tryz.call76 ⟨rfl,trivial⟩ ?_;rintro d0 d1 ⟨d2,u,Z,rfl,a0,j,a1,a2⟩;have a3:=a1.stp' 15 a2;refine⟨_,rfl,?_⟩;obtain⟨D,E,rfl,d,f⟩:=a0;obtain⟨b,a,hB⟩:=ZS a3 (A3 b a hB);refine Zm rfl (Zv (t_ rfl rfl) (Zv (t_ rfl rfl) (Zv (t_ rfl rfl) (Zo ?_))));refine av_ (o:=Z) w.heap.size 16 hB.keeps.size (cs:=[ZI 0,ZI 0,.slice none 0 0,.slice none 0 0]) xf_ rfl ?_;intro F d3 G a4 a5;obtain⟨b,d,f,j,a,hB⟩:=ZS a5 (A6 b d f j a hB);refine Z_ trivial ?_;refine T_ a4 rfl rfl rfl az_ (by intro c hc;simp only[List.mem_cons,List.not_mem_nil,or_false] at hc;rcases hc with rfl|rfl|rfl|rfl<;>first|rfl|exact d.one1|exact f.one1) ?_;intro d4 a6 a7;obtain⟨b,d,f,j,a,hB⟩:=ZS a7 (A6 b d f j a hB);refine Za rfl (Za rfl (Ze [(2,_),(7,_),(9,_),(10,_),(11,_)] (nx (c_ (Zq (Zm rfl (Zv (aI_ rfl) (Ze [(2,_),(7,_),(9,_),(10,_),(28,_)] (nx ?_)))))))));refine l_ rfl (λy=>?_) (λy=>?_)
  ·rw[if_pos y] at hF;refine Zq (Zv (ba_ (vs:=[]) (cs:=[ZI 0,ZI 0,.slice none 0 0,.slice none 0 0]) trivial (by kernel_rfl)) ?_);refine Z_ trivial ?_;refine T_ a rfl rfl rfl az_ (by intro c hc;simp only[List.mem_cons,List.not_mem_nil,or_false] at hc;rcases hc with rfl|rfl|rfl|rfl<;>first|rfl) ?_;intro d5 a8 a9;replace hB:=hB.stp a9;refine Za rfl (Za rfl (Za rfl (Ze [(2,_),(3,_),(4,_),(5,_)] (nx (j_ (y_ ?_))))));have b0:=Zj hF;subst b0;refine D_ (P:=wQ_) (vs:=[.agg #[ZI 0,ZI 0,.slice none 0 0,.slice none 0 0],.slice none 0 0,.slice none 0 0,.bool false]) ym_ ⟨⟨_,rfl,al_ wX_ wU_ rfl a8.cells⟩,rfl,rfl,rfl,trivial⟩ ?_;exact⟨[ZI 0,ZI 0,.slice none 0 0,.slice none 0 0],_,_,rt oo F w.heap.size 9 t,rfl,⟨_,_,rfl,RdL.nil _ _,RdL.nil _ _⟩,RdL.nil _ _,RdL.nil _ _,hB.keeps,am_ _ _ _ _ _⟩
  ·replace hF:=ZF y hF;refine g_ (Zn (Zv (E_ rfl wX_ wU_ rfl a6.cells) (Zm rfl (Zm rfl ?_))));refine Z_ trivial ?_;refine T_ a rfl rfl rfl az_ (by intro c hc;simp only[List.mem_cons,List.not_mem_nil,or_false] at hc;rcases hc with rfl|rfl|rfl|rfl<;>first|rfl|exact d.one1|exact f.one1) ?_;intro d6 b1 b2;obtain⟨b,j,d,f,hB⟩:=ZS b2 (A5 b j d f hB);refine Za rfl (Za rfl (Za rfl (Ze [(2,_),(3,_),(4,_),(5,_)] (nx (j_ ?_)))));have b3:=Zj hF;subst b3;refine D_ (P:=wQ_) (vs:=[.agg #[ZI i.1.Labels,ZI i.1.Degree,D,E],k,u,.bool true]) ym_ ⟨⟨_,rfl,al_ wX_ wU_ rfl b1.cells⟩,rfl,rfl,rfl,trivial⟩ ?_;exact⟨[ZI i.1.Labels,ZI i.1.Degree,D,E],_,_,rt oo F w.heap.size 9 t,rfl,⟨_,_,rfl,d.rt hB 9 t (by decide),f.rt hB 9 t (by decide)⟩,b.rt hB 9 t (by decide),j.rt hB 9 t (by decide),hB.keeps,am_ _ _ _ _ _⟩
end
end Go.Proofs.YtdbbeldgdgonfaaGreat
