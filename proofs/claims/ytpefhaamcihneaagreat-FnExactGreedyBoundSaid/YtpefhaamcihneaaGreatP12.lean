/- Part 12 of what this claim rests on (pack.py). -/
import Derived.Test.YtpefhaamcihneaaGreatP11
namespace Go.Proofs.YtpefhaamcihneaaGreat
open Tryz renaming underlying75→GV, sizeOf31→GD, underlying31→GF, sizeOf22→GI, isAgg22→GK, underlying22→GE, sizeOf51→GH, sizeOf72→Hu, isAgg72→Hw, sizeOf3→GB, isAgg3→GC, underlying51→GA, isAgg75→Hf, sizeOf75→Hg, call93→Ir
set_option linter.unusedSimpArgs false
set_option linter.unusedVariables false
set_option maxRecDepth 100000
set_option maxHeartbeats 2000000
open Go.RowKit
def fs(b:Yl):Int->Int->(Yl×Bool)->Option (Lo (Yl×Bool) (Yl×Bool)):=λk a s=>(ix s.1 a)>>=λc=>(ix b a)>>=λd=>(ix s.1 a)>>=λf=>if(band c d) !=f then(ix s.1 a)>>=λg=>(ix b a)>>=λi=>(ix s.1 a)>>=λm=>(st s.1 a (band g i))>>=λj=>some (.go (j,true)) else some (.go (s.1,s.2))
def mQ(b:Yl):Int->Int->(Yl×Bool)->Option (Lo (Yl×Bool) (Yl×Bool)):=λk a s=>(ix s.1 a)>>=λc=>(ix b a)>>=λd=>(ix s.1 a)>>=λf=>if(band c d) !=f then(ix s.1 a)>>=λg=>(ix b a)>>=λi=>(ix s.1 a)>>=λm=>(st s.1 a (band g i))>>=λj=>some (.go (j,true)) else some (.go (s.1,s.2))
def eD(c:Nat)(a:al):Int->Yl->(Yl×Bool)->Option (Lo (Yl×Bool) (Yl×Bool)):=λd b s=>
  if decide (d<(a.p.Edges.length:Int)) then
    (mk (Rz.z:Int) a.p.Labels)>>=λf=>
    (cJ c a a.edges b s.1 [] f)>>=λg=>
    (forI (fs g) b 0 (s.1,s.2))>>=λi=>
    match i with
    | .inl (j,k)=>
      some (.go (j,k))
    | .inr _=>none
  else
    (mk (Rz.z:Int) a.p.Labels)>>=λm=>
    (cJ c a a.nodes b s.1 [] m)>>=λn=>
    (forI (mQ n) b 0 (s.1,s.2))>>=λq=>
    match q with
    | .inl (u,v)=>
      some (.go (u,v))
    | .inr _=>none
def cV(b:Nat)(a:al):(Yl×Bool)->Option (Lo (Yl×Bool) (Yl×Bool)):=λs=>if s.2 then(cat ([]:Yk) a.p.Edges)>>=λc=>(cat c a.p.Nodes)>>=λd=>(forI (eD b a) d 0 (s.1,false))>>=λf=>match f with| .inl (g,i)=>some (.go (g,i))| .inr _=>none else some (.out (s.1,false))
def gK(a:Nat)(c:al)(d:Yl):Option (Yl×Bool):=(ch d)>>=λf=>(loopF (cV a c) a (f,true))>>=λg=>match g with| .inl (b,j)=>(lU b 0)>>=λi=>some (b, !i)| .inr _=>none
def yR(d:Tg)(t:Nat)(w:World)(r:Yl×Bool):Ending->World->Prop:=λe w'=>∃(a:Value)(c:Tg),e=.returned (.tuple #[a,.bool r.2])∧Ow w.heap.size 3 t c w' a r.1∧Keeps w w'∧∀b,b<w.heap.size->c b=d b
theorem rG(b8:Nat)(w:World)(S:Tg)(t:Nat)(F:2<=t)(a0:List Value)(b:al)(F:Rp.rd S w a0 b)(P:Value)(U:Yl)(a3:RdL zt w P U)(r:Yl×Bool)(b3:gK b8 b U=some r):
    Calls Tryz.prog 60 #[.agg a0.toArray,P] w (yR S t w r):=by
 unfold gK at b3;replace F:=Rp.col F;obtain⟨D,E,G,H,I,J,rfl,s,m,y,l,u,x⟩:=F;have f:Bs S (col S) w w:=Bs.start _ _;refine y_ (n:=88) (vs:=[.agg #[ZI b.p.Labels,ZI b.p.Degree,D,E,ZI b.q.Labels,ZI b.q.Degree,G,H,I,J],P]) Tryz.func60 rfl rfl ?_;generalize col S=o at*;refine Zq (Zo ?_);refine Z_ (o:=o) w.heap.size 30 f.keeps.size (cs:=[ZI b.p.Labels,ZI b.p.Degree,D,E,ZI b.q.Labels,ZI b.q.Degree,G,H,I,J]) rfl rfl ?_;intro b0 b1 M j b2;obtain⟨s,m,y,l,u,x,f⟩:=ZS b2 (A7 s m y l u x f);refine Za rfl (Za rfl (Ze [(1,_),(2,_)] (Zn (Zm rfl ?_))));obtain⟨P,F,b3⟩:=a_ b3;refine Zo ?_;refine j_ (cZ b1 b0 31 dc _ U (a3.keep f.keeps) P F) Tryz.call63 ⟨rfl,trivial⟩ ?_;rintro F F ⟨C,a0,rfl,F,U,a3⟩;have b0:=U.stp' 31 a3;replace F:=F.mono f.keeps.size;refine⟨_,rfl,?_⟩;obtain⟨j,s,m,y,l,u,x,f⟩:=ZS b0 (A8 j s m y l u x f);refine Za rfl (Zy (b_ (Zq (Za rfl (Zy ?_)))));obtain⟨U,a3,b3⟩:=a_ b3;refine D_ (λa a1=>∃(a7:Yl),∃(b9:Bool),∃(Y:Tg),U=.inl (a7,b9)∧Fr a 88 [(6,C)]∧Bs S Y w a1∧Oz w 3 31 Y a1 C a7) (λ_ _=>False) ?_ ?_ ?_
 ·refine k_ ?_;refine B_ (λ(K:Nat) a a1=>∃(a7:Yl),∃(b9:Bool),∃(Y:Tg),loopF (cV b8 b) K (a7,b9)=some U∧Fr a 88 [(2,ZP M),(6,C),(7,.bool b9)]∧Bs S Y w a1∧Oz w 3 31 Y a1 C a7∧Bz w 30 Y a1 M 75 [ZI b.p.Labels,ZI b.p.Degree,D,E,ZI b.q.Labels,ZI b.q.Degree,G,H,I,J]∧RdL Y a1 D (b.p.Nodes:Yk)∧RdL Y a1 E (b.p.Edges:Yk)∧RdL Y a1 G (b.q.Nodes:Yk)∧RdL Y a1 H (b.q.Edges:Yk)∧RdL Y a1 I (b.nodes:List Bool)∧RdL Y a1 J (b.edges:List Bool)) b8 (λa d=>⟨P,true,a0,a3,d.sb,f,F,j,s,m,y,l,u,x⟩) ?_;rintro F a a1 ⟨a7,b9,Y,F,d,f,a6,j,s,m,y,l,u,x⟩;obtain⟨d6,P,P,a4,c3⟩:=aC F;dsimp only[cV] at a4;refine q_ d ?_;refine b_ (Zq (Zm rfl (Zy ?_)));refine Zi rfl a4 (λF a4=>?_) (λF a4=>?_)
  ·refine f_ (nx (k_ (Zq (Za rfl (Zy (b_ ?_))))));obtain⟨P,a0,a4⟩:=a_ a4;obtain⟨Q,a3,a4⟩:=a_ a4;refine ZW (Bf:=λg i=>Bs S g w i∧Oz w 3 31 g i C a7∧Bz w 30 g i M 75 [ZI b.p.Labels,ZI b.p.Degree,D,E,ZI b.q.Labels,ZI b.q.Degree,G,H,I,J]∧RdL g i D (b.p.Nodes:Yk)∧RdL g i E (b.p.Edges:Yk)∧RdL g i G (b.q.Nodes:Yk)∧RdL g i H (b.q.Edges:Yk)∧RdL g i I (b.nodes:List Bool)∧RdL g i J (b.edges:List Bool)) [(2,_),(6,_),(7,_)] (Zrg 17 11) [[],[],[1],[2],[0,3],[],[5],[6],[4,7],[8],[]] [some 4,none,none,none,some 8,none,none,none,none,none,none] [999,999,999,999,32,999,999,999,32,999,999] [32,0,0,0,32,0,0,0,32,0,0] [32,999] [.inr (λv o N=>Oz w 51 32 o N v (([]:Yk):Yk)),.inl (.pointer (some ⟨M,0+0,none⟩)),.inl (.pointer (some ⟨M,0+0+3,none⟩)),.inl E,.inr (λv o N=>Oz w 51 32 o N v P),.inl (.pointer (some ⟨M,0+0,none⟩)),.inl (.pointer (some ⟨M,0+0+2,none⟩)),.inl D,.inr (λv o N=>Oz w 51 32 o N v Q),.inl (ZI (Q.length:Int)),.inl (ZI 0)] ⟨f,a6,j,s,m,y,l,u,x⟩ ⟨λ_ _ _ _ _ _ O hb h hs=>h.stp hs O.1 (V_ hb),λ_ _ _ _ _ _ O hb h hs=>h.stp hs O.1 (V_ hb),λ_ _ _ _ _ _ O hb h hs=>h.stp hs O.1 (V_ hb),trivial⟩ ?_ ?_
   ·refine⟨?_,Dp (s_ rfl GV rfl GD),Dp (s_ rfl GF rfl GI),Dq λh=>e_ rfl GK (h.2.2.1.cell rfl),?_,Dp (s_ rfl GV rfl GD),Dp (s_ rfl GF rfl GI),Dq λh=>e_ rfl GK (h.2.2.1.cell rfl),?_,?_,Dp (d_ rfl),trivial⟩
    ·rintro F U U d ⟨f,a6,j,s,m,y,l,u,x⟩-;refine Zs d ?_;refine we w.heap.size 32 f.keeps.size (o:=F) (cs:=[]) (xs:=([]:Yk)) (vs:=[]) rfl rfl trivial GE GH Tryz.zeroValue51 dc fill0 sy ?_;intro F F F F U;exact⟨_,U,F⟩
    ·rintro b0 b1 U d ⟨f,a6,j,s,m,y,l,u,x⟩ ⟨F,-⟩;replace F:Oz w 51 32 b0 b1 (U.tmps.getD 17 undef) (([]:Yk):Yk):=F;generalize b0:U.tmps.getD 17 undef=U at F;have d:=d.c b0;refine Zs d ?_;refine am F m a0 dc f.keeps.size rfl rfl GE cX rfl dc ?_;intro F F F F U;exact⟨_,U,F⟩
    ·rintro a0 b0 U d ⟨f,a6,j,s,m,y,l,u,x⟩ ⟨F,-⟩;replace F:Oz w 51 32 a0 b0 (U.tmps.getD 21 undef) P:=F;generalize P:U.tmps.getD 21 undef=U at F;have d:=d.c P;refine Zs d ?_;refine am F s a3 dc f.keeps.size rfl rfl GE cX rfl dc ?_;intro F F F F P;exact⟨_,P,F⟩
    ·rintro U a0 P d- ⟨F,-⟩;replace F:Oz w 51 32 U a0 (P.tmps.getD 25 undef) Q:=F;generalize U:P.tmps.getD 25 undef=P at F;have d:=d.c U;refine Zs d ?_;refine M_ (aU rfl F GE) ?_;exact Zx rfl
   rintro _ rfl F U P d ⟨f,a6,j,s,m,y,l,u,x⟩ ⟨A,-⟩;replace A:Oz w 51 32 F U (P.tmps.getD 25 undef) Q:=A;generalize U:P.tmps.getD 25 undef=Z at A;have d:=d.c U;refine O_ d ?_;refine Zy ?_;obtain⟨P,U,a4⟩:=a_ a4;refine D_ (λa R=>∃(a5:Yl),∃(a8:Bool),∃(L:Tg),P=.inl (a5,a8)∧Fr a 88 [(2,ZP M),(6,C),(7,.bool a8)]∧Bs S L w R∧Oz w 3 31 L R C a5∧Bz w 30 L R M 75 [ZI b.p.Labels,ZI b.p.Degree,D,E,ZI b.q.Labels,ZI b.q.Degree,G,H,I,J]∧RdL L R D (b.p.Nodes:Yk)∧RdL L R E (b.p.Edges:Yk)∧RdL L R G (b.q.Nodes:Yk)∧RdL L R H (b.q.Edges:Yk)∧RdL L R I (b.nodes:List Bool)∧RdL L R J (b.edges:List Bool)) (λ_ _=>False) ?_ ?_ ?_
   ·refine k_ ?_;refine B_ (λ(K:Nat) a R=>∃(a2:Int),∃(a5:Yl),∃(a8:Bool),∃(L:Tg),forI (eD b8 b) (Q.drop a2.toNat) a2 (a5,a8)=some P∧(Q.drop a2.toNat).length=K∧0<=a2∧Fr a 88 [(2,ZP M),(6,C),(7,.bool a8),(25,Z),(26,ZI (Q.length:Int)),(27,ZI a2)]∧Bs S L w R∧Oz w 3 31 L R C a5∧Oz w 51 32 L R Z Q∧Bz w 30 L R M 75 [ZI b.p.Labels,ZI b.p.Degree,D,E,ZI b.q.Labels,ZI b.q.Degree,G,H,I,J]∧RdL L R D (b.p.Nodes:Yk)∧RdL L R E (b.p.Edges:Yk)∧RdL L R G (b.q.Nodes:Yk)∧RdL L R H (b.q.Edges:Yk)∧RdL L R I (b.nodes:List Bool)∧RdL L R J (b.edges:List Bool)) _ (λa d=>⟨0,a7,false,F,U,rfl,N_ 0,d.sb,f,a6,A,j,s,m,y,l,u,x⟩) ?_;rintro F a R ⟨a2,a5,a8,L,c4,c5,F,d,f,V,A,j,s,m,y,l,u,x⟩;by_cases c0:a2<(Q.length:Int)
    ·obtain⟨X,P,P,T,c6⟩:=ai F c0 c4;have c7:=A.len_le;dsimp only[eD] at T;refine q_ d ?_;refine Zq (Zv (o_ rfl rfl) (Zy (b_ ?_)));refine R_ (Zb (decide_eq_true c0)) ?_;refine f_ (nx (b_ (k_ (Zq (Zm rfl (Zo ?_))))));refine ci A P rfl rfl GE GH ?_;intro F F F F P;obtain⟨a9,rfl,B⟩:=P;refine Zv (e_ rfl Tryz.isAgg51 (G_ F)) (Za rfl (Za rfl (Ze [(2,_),(6,_),(7,_),(8,_),(9,_),(25,_),(26,_),(27,_)] (Zn (Zv (s_ rfl GV rfl Hu) (Zv (e_ rfl Hw (j.cell rfl)) (Za rfl (Zy (b_ (Zq (Zm rfl ?_)))))))))));refine Zv (s_ rfl GV rfl GD) (Zv (s_ rfl GF rfl GI) (Zv (e_ rfl GK (j.cell rfl)) (Zv (C_ rfl m GE) (Zv (o_ rfl rfl) (Zy ?_)))));refine Zi rfl T (λF T=>?_) (λF T=>?_)
     ·refine h_ (Zv (s_ rfl GV rfl Hu) (Zv (e_ rfl Hw (j.cell rfl)) (Za rfl (Ze [(2,_),(6,_),(7,_),(9,_),(10,_),(25,_),(26,_),(27,_)] (Zn (Zv (s_ rfl GV rfl GD) (Zv (s_ rfl GF rfl GB) (Zv (e_ rfl GC (j.cell rfl)) ?_))))))));obtain⟨c1,F,T⟩:=a_ T;refine Zo ?_;refine dQ (o:=L) w.heap.size 33 f.keeps.size F rfl rfl GA aI rfl dc ?_;intro c8 c9 b4 W F;obtain⟨V,B,x,A,j,s,m,y,l,u,f⟩:=ZS F (A8 V B x A j s m (A4 y l u f));refine Za rfl (Ze [(2,_),(6,_),(7,_),(9,_),(10,_),(11,_),(25,_),(26,_),(27,_)] (Zn (Zv (F_ rfl Hf Hg rfl j.cells) (Zm rfl (Zm rfl (Zm rfl (Zm rfl ?_)))))));replace V:=V.rtg_ne (k:=33) (k':=13) dc dc dc;replace B:=B.rtg 33 13 dc;replace x:=x.rtg 33 13 dc;replace W:=W.rtg 13 dc;replace A:=A.rtg_ne (k:=33) (k':=13) dc dc dc;replace s:=s.rtg 33 13 dc;replace m:=m.rtg 33 13 dc;replace y:=y.rtg 33 13 dc;replace l:=l.rtg 33 13 dc;replace u:=u.rtg 33 13 dc;replace j:=j.rtg_ne (k:=33) (k':=13) dc dc;replace f:=f.rtg 33 13 dc dc;generalize (rtg 33 13 c8)=d0 at*;obtain⟨b5,d1,T⟩:=a_ T;refine Zo ?_;refine j_ (tA b8 w c9 S d0 f _ b ⟨_,_,_,_,_,_,rfl,s,m,y,l,u,x⟩ _ b.edges x _ X B 31 dc dc _ a5 V _ ([]:Yl) (RdL.nil _ _) _ c1 W b5 d1) Ir ⟨rfl,rfl,rfl,rfl,rfl,rfl,trivial⟩ ?_;rintro F F ⟨W,rfl,a0,-,F⟩;refine⟨_,rfl,?_⟩;obtain⟨V,B,x,A,s,m,y,l,u,j,f⟩:=ZS F (A8 V B x A s m y (A4 l u j f));refine Ze [(2,_),(6,_),(7,_),(9,_),(11,_),(25,_),(26,_),(27,_)] (Zn (Zm rfl (Zv (C_ rfl B GA) (Zm rfl (Zy ?_)))));obtain⟨U,b2,T⟩:=a_ T;refine D_ (λa P=>∃(a3:Yl),∃(b0:Bool),∃(F:Tg),U=.inl (a3,b0)∧Fr a 88 [(2,ZP M),(6,C),(7,.bool b0),(25,Z),(26,ZI (Q.length:Int)),(27,ZI a2)]∧Bs S F w P∧Oz w 3 31 F P C a3∧Oz w 51 32 F P Z Q∧Bz w 30 F P M 75 [ZI b.p.Labels,ZI b.p.Degree,D,E,ZI b.q.Labels,ZI b.q.Degree,G,H,I,J]∧RdL F P D (b.p.Nodes:Yk)∧RdL F P E (b.p.Edges:Yk)∧RdL F P G (b.q.Nodes:Yk)∧RdL F P H (b.q.Edges:Yk)∧RdL F P I (b.nodes:List Bool)∧RdL F P J (b.edges:List Bool)) (λ_ _=>False) ?_ ?_ ?_
      ·refine k_ ?_;refine B_ (λ(K:Nat) a P=>∃(b1:Int),∃(a3:Yl),∃(b0:Bool),∃(F:Tg),forI (fs b5) (X.drop b1.toNat) b1 (a3,b0)=some U∧(X.drop b1.toNat).length=K∧0<=b1∧Fr a 88 [(2,ZP M),(6,C),(7,.bool b0),(11,b4),(25,Z),(26,ZI (Q.length:Int)),(27,ZI a2),(52,a9),(53,ZI (X.length:Int)),(54,ZI b1)]∧Bs S F w P∧Oz w 3 31 F P C a3∧Oz w 3 13 F P b4 b5∧Oz w 51 32 F P Z Q∧RdL F P a9 X∧Bz w 30 F P M 75 [ZI b.p.Labels,ZI b.p.Degree,D,E,ZI b.q.Labels,ZI b.q.Degree,G,H,I,J]∧RdL F P D (b.p.Nodes:Yk)∧RdL F P E (b.p.Edges:Yk)∧RdL F P G (b.q.Nodes:Yk)∧RdL F P H (b.q.Edges:Yk)∧RdL F P I (b.nodes:List Bool)∧RdL F P J (b.edges:List Bool)) _ (λa d=>⟨0,a5,a8,W,b2,rfl,N_ 0,d.sb,f,V,a0,A,B,j,s,m,y,l,u,x⟩) ?_;rintro U a P ⟨b1,a3,b0,F,c8,c9,d1,d,f,W,a0,A,B,j,s,m,y,l,u,x⟩;by_cases c1:b1<(X.length:Int)
       ·obtain⟨b2,U,d2,U,d0⟩:=ai d1 c1 c8;have c7:=B.len_le;dsimp only[fs] at U;refine q_ d ?_;refine Zq (Zv (o_ rfl rfl) (Zy (b_ ?_)));refine R_ (Zb (decide_eq_true c1)) ?_;refine f_ (nx (b_ (k_ (Zq (Zo ?_)))));refine bR B d2 rfl rfl GA GB ?_;intro d1 d1 d1 d1 d2;cases d2
        refine Zv (e_ rfl GC (G_ d1)) (Za rfl (Zy (b_ ?_)));obtain⟨d1,d2,U⟩:=a_ U;obtain⟨d3,d4,U⟩:=a_ U;obtain⟨d7,d5,U⟩:=a_ U;refine ZW (Bf:=λg i=>Bs S g w i∧Oz w 3 31 g i C a3∧Oz w 3 13 g i b4 b5∧Oz w 51 32 g i Z Q∧RdL g i a9 X∧Bz w 30 g i M 75 [ZI b.p.Labels,ZI b.p.Degree,D,E,ZI b.q.Labels,ZI b.q.Degree,G,H,I,J]∧RdL g i D (b.p.Nodes:Yk)∧RdL g i E (b.p.Edges:Yk)∧RdL g i G (b.q.Nodes:Yk)∧RdL g i H (b.q.Edges:Yk)∧RdL g i I (b.nodes:List Bool)∧RdL g i J (b.edges:List Bool)) [(2,_),(6,_),(7,_),(11,_),(13,_),(25,_),(26,_),(27,_),(52,_),(53,_),(54,_)] (Zrg 58 13) [[],[],[0,1],[2],[],[],[4,5],[6],[3,7],[],[],[9,10],[11]] (Zcn 13) (Zt9 13) [0,0,31,0,0,0,13,0,0,0,0,31,0] [999] [.inl C,.inl (ZI b2),.inr (λv o N=>∃vl,v=adr vl (b2.toNat*Rp.sz Int)∧Oz w 3 31 o N vl a3),.inl (ZI d1),.inl b4,.inl (ZI b2),.inr (λv o N=>∃vl,v=adr vl (b2.toNat*Rp.sz Int)∧Oz w 3 13 o N vl b5),.inl (ZI d3),.inl (ZI (band d1 d3)),.inl C,.inl (ZI b2),.inr (λv o N=>∃vl,v=adr vl (b2.toNat*Rp.sz Int)∧Oz w 3 31 o N vl a3),.inl (ZI d7)] ⟨f,W,a0,A,B,j,s,m,y,l,u,x⟩ ⟨λ_ _ _ _ _ _ O hb ⟨vl,e,h⟩ hs=>⟨vl,e,h.stp hs O.1 (V_ hb)⟩,λ_ _ _ _ _ _ O hb ⟨vl,e,h⟩ hs=>⟨vl,e,h.stp hs O.1 (V_ hb)⟩,λ_ _ _ _ _ _ O hb ⟨vl,e,h⟩ hs=>⟨vl,e,h.stp hs O.1 (V_ hb)⟩,trivial⟩ ?_ ?_
        ·refine⟨Dp (d_ rfl),Dp (d_ rfl),?_,?_,Dp (d_ rfl),Dp (d_ rfl),?_,?_,Dp (fc rfl rfl),Dp (d_ rfl),Dp (d_ rfl),?_,?_,trivial⟩
         ·rintro d1 d1 d1 d ⟨-,W,-⟩-;refine Zs d ?_;refine cg W d2 rfl rfl GA GB ?_;exact⟨_,Stp.refl _ _ _,⟨_,rfl,W⟩⟩
         ·rintro d1 d1 d1 d- ⟨d1,-⟩;obtain⟨d3,d3,d7⟩:=d1;have d:=d.c d3;refine Zs d ?_;refine bW d7 d2 rfl rfl GC ?_;intro d1 d1;cases d1
          exact Zx rfl
         ·rintro d1 d1 d1 d ⟨-,-,a0,-⟩-;refine Zs d ?_;refine cg a0 d4 rfl rfl GA GB ?_;exact⟨_,Stp.refl _ _ _,⟨_,rfl,a0⟩⟩
         ·rintro d1 d1 d1 d- ⟨d1,-⟩;obtain⟨d2,d2,d3⟩:=d1;have d:=d.c d2;refine Zs d ?_;refine bW d3 d4 rfl rfl GC ?_;intro d1 d1;cases d1
          exact Zx rfl
         ·rintro d1 d1 d1 d ⟨-,W,-⟩-;refine Zs d ?_;refine cg W d5 rfl rfl GA GB ?_;exact⟨_,Stp.refl _ _ _,⟨_,rfl,W⟩⟩
         ·rintro d1 d1 d1 d- ⟨d1,-⟩;obtain⟨d2,d2,d3⟩:=d1;have d:=d.c d2;refine Zs d ?_;refine bW d3 d5 rfl rfl GC ?_;intro d1 d1;cases d1
          exact Zx rfl
        rintro _ rfl d3 d1 d1 d ⟨f,W,a0,A,B,j,s,m,y,l,u,x⟩-;refine O_ d ?_;refine Zv (aP rfl rfl) (Zy ?_);refine Zi rfl U (λd1 U=>?_) (λd1 U=>?_)
        ·refine b_ ?_;obtain⟨d4,d1,U⟩:=a_ U;obtain⟨d5,d2,U⟩:=a_ U;refine ZW (Bf:=λg i=>Bs S g w i∧Oz w 3 31 g i C a3∧Oz w 3 13 g i b4 b5∧Oz w 51 32 g i Z Q∧RdL g i a9 X∧Bz w 30 g i M 75 [ZI b.p.Labels,ZI b.p.Degree,D,E,ZI b.q.Labels,ZI b.q.Degree,G,H,I,J]∧RdL g i D (b.p.Nodes:Yk)∧RdL g i E (b.p.Edges:Yk)∧RdL g i G (b.q.Nodes:Yk)∧RdL g i H (b.q.Edges:Yk)∧RdL g i I (b.nodes:List Bool)∧RdL g i J (b.edges:List Bool)) [(2,_),(6,_),(11,_),(13,_),(25,_),(26,_),(27,_),(52,_),(53,_),(54,_)] (Zrg 72 8) [[],[],[0,1],[2],[],[],[4,5],[6]] (Zcn 8) (Zt9 8) [0,0,31,0,0,0,13,0] [999] [.inl C,.inl (ZI b2),.inr (λv o N=>∃vl,v=adr vl (b2.toNat*Rp.sz Int)∧Oz w 3 31 o N vl a3),.inl (ZI d4),.inl b4,.inl (ZI b2),.inr (λv o N=>∃vl,v=adr vl (b2.toNat*Rp.sz Int)∧Oz w 3 13 o N vl b5),.inl (ZI d5)] ⟨f,W,a0,A,B,j,s,m,y,l,u,x⟩ ⟨λ_ _ _ _ _ _ O hb ⟨vl,e,h⟩ hs=>⟨vl,e,h.stp hs O.1 (V_ hb)⟩,λ_ _ _ _ _ _ O hb ⟨vl,e,h⟩ hs=>⟨vl,e,h.stp hs O.1 (V_ hb)⟩,trivial⟩ ?_ ?_
         ·refine⟨Dp (d_ rfl),Dp (d_ rfl),?_,?_,Dp (d_ rfl),Dp (d_ rfl),?_,?_,trivial⟩
          ·rintro b2 b2 b2 d ⟨-,W,-⟩-;refine Zs d ?_;refine cg W d1 rfl rfl GA GB ?_;exact⟨_,Stp.refl _ _ _,⟨_,rfl,W⟩⟩
          ·rintro b2 b2 b2 d- ⟨b2,-⟩;obtain⟨b5,b5,d4⟩:=b2;have d:=d.c b5;refine Zs d ?_;refine bW d4 d1 rfl rfl GC ?_;intro b2 b2;cases b2
           exact Zx rfl
          ·rintro b2 b2 b2 d ⟨-,-,a0,-⟩-;refine Zs d ?_;refine cg a0 d2 rfl rfl GA GB ?_;exact⟨_,Stp.refl _ _ _,⟨_,rfl,a0⟩⟩
          ·rintro b2 b2 b2 d- ⟨b2,-⟩;obtain⟨b5,b5,d1⟩:=b2;have d:=d.c b5;refine Zs d ?_;refine bW d1 d2 rfl rfl GC ?_;intro b2 b2;cases b2
           exact Zx rfl
         rintro _ rfl b2 b5 b5 d ⟨f,W,a0,A,B,j,s,m,y,l,u,x⟩-;refine O_ d ?_;refine Zv (fc rfl rfl) ?_;obtain⟨b5,b5,U⟩:=a_ U;refine Zo ?_;refine bI W b5 rfl rfl GA GB ?_;intro b5 b5 b5 d1 d1;cases d1
         obtain⟨d1,d2,U⟩:=a_ U;refine E_ trivial ?_;refine bH W b5 d2 rfl dc rfl rfl rfl GB rfl ?_;intro b5 b5 d2;obtain⟨a0,A,B,j,s,m,y,l,u,x,f⟩:=ZS d2 (A8 a0 A B j s m y (A4 l u x f));refine Zy (h_ (Za rfl (Ze [(2,ZP M),(6,C),(7,.bool true),(11,b4),(25,Z),(26,ZI (Q.length:Int)),(27,ZI a2),(52,a9),(53,ZI (X.length:Int)),(54,ZI b1)] (w_ (nx (h_ (Zv (u_ rfl rfl (n_ om om)) (Zm rfl (Zf (v_ ?_))))))))));obtain rfl:=Zj U;refine Zk [(2,_),(6,_),(7,_),(11,_),(25,_),(26,_),(27,_),(52,_),(53,_),(54,_)] ?_;intro a d;exact⟨_,(by rw[<-c9];simp only[T_];omega),b1+1,d1,true,b2,d0,rfl,om,d,f,b5,a0,A,B,j,s,m,y,l,u,x⟩
        ·refine f_ (w_ (nx (h_ (Zv (u_ rfl rfl (n_ om om)) (Zm rfl (Zf (v_ ?_)))))));obtain rfl:=Zj U;refine Zk [(2,_),(6,_),(7,_),(11,_),(25,_),(26,_),(27,_),(52,_),(53,_),(54,_)] ?_;intro a d;exact⟨_,(by rw[<-c9];simp only[T_];omega),b1+1,a3,b0,d3,d0,rfl,om,d,f,W,a0,A,B,j,s,m,y,l,u,x⟩
       ·have U:=ak c1 c8;refine q_ d ?_;refine Zq (Zv (o_ rfl rfl) (Zy (b_ ?_)));refine Q_ (Zb (decide_eq_false c1)) ?_;refine z_ ?_;refine g_ (g_ (A_ ?_));refine r_ ?_;refine Zk [(2,_),(6,_),(7,_),(25,_),(26,_),(27,_)] ?_;intro a d;exact⟨a3,b0,F,U,d,f,W,A,j,s,m,y,l,u,x⟩
      ·rintro a P ⟨a3,b0,F,rfl,d,f,W,A,j,s,m,y,l,u,x⟩;dsimp only at T;refine ap_k d ?_;refine w_ (nx (h_ (Zv (u_ rfl rfl (n_ om om)) (Zm rfl (Zf (v_ ?_))))));obtain rfl:=Zj T;refine Zk [(2,_),(6,_),(7,_),(25,_),(26,_),(27,_)] ?_;intro a d;exact⟨_,(by rw[<-c5];simp only[T_];omega),a2+1,a3,b0,F,c6,rfl,om,d,f,W,A,j,s,m,y,l,u,x⟩
      ·exact λ_ _ h=>h.elim
     ·refine f_ (Zn (Zv (s_ rfl GV rfl GD) (Zv (s_ rfl GF rfl GB) (Zv (e_ rfl GC (j.cell rfl)) ?_))));obtain⟨d8,F,T⟩:=a_ T;refine Zo ?_;refine dQ (o:=L) w.heap.size 34 f.keeps.size F rfl rfl GA aI rfl dc ?_;intro d9 e0 b6 c2 F;obtain⟨V,B,u,A,j,s,m,y,l,x,f⟩:=ZS F (A8 V B u A j s m (A4 y l x f));refine Za rfl (Ze [(2,_),(6,_),(7,_),(9,_),(10,_),(11,_),(25,_),(26,_),(27,_)] (Zn (Zv (F_ rfl Hf Hg rfl j.cells) (Zm rfl (Zm rfl (Zm rfl (Zm rfl ?_)))))));replace V:=V.rtg_ne (k:=34) (k':=13) dc dc dc;replace B:=B.rtg 34 13 dc;replace u:=u.rtg 34 13 dc;replace c2:=c2.rtg 13 dc;replace A:=A.rtg_ne (k:=34) (k':=13) dc dc dc;replace s:=s.rtg 34 13 dc;replace m:=m.rtg 34 13 dc;replace y:=y.rtg 34 13 dc;replace l:=l.rtg 34 13 dc;replace x:=x.rtg 34 13 dc;replace j:=j.rtg_ne (k:=34) (k':=13) dc dc;replace f:=f.rtg 34 13 dc dc;generalize (rtg 34 13 d9)=e1 at*;obtain⟨b7,e2,T⟩:=a_ T;refine Zo ?_;refine j_ (tA b8 w e0 S e1 f _ b ⟨_,_,_,_,_,_,rfl,s,m,y,l,u,x⟩ _ b.nodes u _ X B 31 dc dc _ a5 V _ ([]:Yl) (RdL.nil _ _) _ d8 c2 b7 e2) Ir ⟨rfl,rfl,rfl,rfl,rfl,rfl,trivial⟩ ?_;rintro F F ⟨W,rfl,a0,-,F⟩;refine⟨_,rfl,?_⟩;obtain⟨V,B,u,A,s,m,y,l,x,j,f⟩:=ZS F (A8 V B u A s m y (A4 l x j f));refine Ze [(2,_),(6,_),(7,_),(9,_),(11,_),(25,_),(26,_),(27,_)] (Zn (Zm rfl (Zv (C_ rfl B GA) (Zm rfl (Zy ?_)))));obtain⟨U,b2,T⟩:=a_ T;refine D_ (λa P=>∃(a3:Yl),∃(b0:Bool),∃(F:Tg),U=.inl (a3,b0)∧Fr a 88 [(2,ZP M),(6,C),(7,.bool b0),(25,Z),(26,ZI (Q.length:Int)),(27,ZI a2)]∧Bs S F w P∧Oz w 3 31 F P C a3∧Oz w 51 32 F P Z Q∧Bz w 30 F P M 75 [ZI b.p.Labels,ZI b.p.Degree,D,E,ZI b.q.Labels,ZI b.q.Degree,G,H,I,J]∧RdL F P D (b.p.Nodes:Yk)∧RdL F P E (b.p.Edges:Yk)∧RdL F P G (b.q.Nodes:Yk)∧RdL F P H (b.q.Edges:Yk)∧RdL F P I (b.nodes:List Bool)∧RdL F P J (b.edges:List Bool)) (λ_ _=>False) ?_ ?_ ?_
      ·refine k_ ?_;refine B_ (λ(K:Nat) a P=>∃(b1:Int),∃(a3:Yl),∃(b0:Bool),∃(F:Tg),forI (mQ b7) (X.drop b1.toNat) b1 (a3,b0)=some U∧(X.drop b1.toNat).length=K∧0<=b1∧Fr a 88 [(2,ZP M),(6,C),(7,.bool b0),(11,b6),(25,Z),(26,ZI (Q.length:Int)),(27,ZI a2),(52,a9),(53,ZI (X.length:Int)),(54,ZI b1)]∧Bs S F w P∧Oz w 3 31 F P C a3∧Oz w 3 13 F P b6 b7∧Oz w 51 32 F P Z Q∧RdL F P a9 X∧Bz w 30 F P M 75 [ZI b.p.Labels,ZI b.p.Degree,D,E,ZI b.q.Labels,ZI b.q.Degree,G,H,I,J]∧RdL F P D (b.p.Nodes:Yk)∧RdL F P E (b.p.Edges:Yk)∧RdL F P G (b.q.Nodes:Yk)∧RdL F P H (b.q.Edges:Yk)∧RdL F P I (b.nodes:List Bool)∧RdL F P J (b.edges:List Bool)) _ (λa d=>⟨0,a5,a8,W,b2,rfl,N_ 0,d.sb,f,V,a0,A,B,j,s,m,y,l,u,x⟩) ?_;rintro U a P ⟨b1,a3,b0,F,b5,b8,c2,d,f,W,a0,A,B,j,s,m,y,l,u,x⟩;by_cases b4:b1<(X.length:Int)
       ·obtain⟨b2,U,c8,U,c1⟩:=ai c2 b4 b5;have c7:=B.len_le;dsimp only[mQ] at U;refine q_ d ?_;refine Zq (Zv (o_ rfl rfl) (Zy (b_ ?_)));refine R_ (Zb (decide_eq_true b4)) ?_;refine f_ (nx (b_ (k_ (Zq (Zo ?_)))));refine bR B c8 rfl rfl GA GB ?_;intro c2 c2 c2 c2 c7;cases c7
        refine Zv (e_ rfl GC (G_ c2)) (Za rfl (Zy (b_ ?_)));obtain⟨c2,c7,U⟩:=a_ U;obtain⟨c8,c9,U⟩:=a_ U;obtain⟨d1,d0,U⟩:=a_ U;refine ZW (Bf:=λg i=>Bs S g w i∧Oz w 3 31 g i C a3∧Oz w 3 13 g i b6 b7∧Oz w 51 32 g i Z Q∧RdL g i a9 X∧Bz w 30 g i M 75 [ZI b.p.Labels,ZI b.p.Degree,D,E,ZI b.q.Labels,ZI b.q.Degree,G,H,I,J]∧RdL g i D (b.p.Nodes:Yk)∧RdL g i E (b.p.Edges:Yk)∧RdL g i G (b.q.Nodes:Yk)∧RdL g i H (b.q.Edges:Yk)∧RdL g i I (b.nodes:List Bool)∧RdL g i J (b.edges:List Bool)) [(2,_),(6,_),(7,_),(11,_),(13,_),(25,_),(26,_),(27,_),(52,_),(53,_),(54,_)] (Zrg 58 13) [[],[],[0,1],[2],[],[],[4,5],[6],[3,7],[],[],[9,10],[11]] (Zcn 13) (Zt9 13) [0,0,31,0,0,0,13,0,0,0,0,31,0] [999] [.inl C,.inl (ZI b2),.inr (λv o N=>∃vl,v=adr vl (b2.toNat*Rp.sz Int)∧Oz w 3 31 o N vl a3),.inl (ZI c2),.inl b6,.inl (ZI b2),.inr (λv o N=>∃vl,v=adr vl (b2.toNat*Rp.sz Int)∧Oz w 3 13 o N vl b7),.inl (ZI c8),.inl (ZI (band c2 c8)),.inl C,.inl (ZI b2),.inr (λv o N=>∃vl,v=adr vl (b2.toNat*Rp.sz Int)∧Oz w 3 31 o N vl a3),.inl (ZI d1)] ⟨f,W,a0,A,B,j,s,m,y,l,u,x⟩ ⟨λ_ _ _ _ _ _ O hb ⟨vl,e,h⟩ hs=>⟨vl,e,h.stp hs O.1 (V_ hb)⟩,λ_ _ _ _ _ _ O hb ⟨vl,e,h⟩ hs=>⟨vl,e,h.stp hs O.1 (V_ hb)⟩,λ_ _ _ _ _ _ O hb ⟨vl,e,h⟩ hs=>⟨vl,e,h.stp hs O.1 (V_ hb)⟩,trivial⟩ ?_ ?_
        ·refine⟨Dp (d_ rfl),Dp (d_ rfl),?_,?_,Dp (d_ rfl),Dp (d_ rfl),?_,?_,Dp (fc rfl rfl),Dp (d_ rfl),Dp (d_ rfl),?_,?_,trivial⟩
         ·rintro c2 c2 c2 d ⟨-,W,-⟩-;refine Zs d ?_;refine cg W c7 rfl rfl GA GB ?_;exact⟨_,Stp.refl _ _ _,⟨_,rfl,W⟩⟩
         ·rintro c2 c2 c2 d- ⟨c2,-⟩;obtain⟨c8,c8,d1⟩:=c2;have d:=d.c c8;refine Zs d ?_;refine bW d1 c7 rfl rfl GC ?_;intro c2 c2;cases c2
          exact Zx rfl
         ·rintro c2 c2 c2 d ⟨-,-,a0,-⟩-;refine Zs d ?_;refine cg a0 c9 rfl rfl GA GB ?_;exact⟨_,Stp.refl _ _ _,⟨_,rfl,a0⟩⟩
         ·rintro c2 c2 c2 d- ⟨c2,-⟩;obtain⟨c7,c7,c8⟩:=c2;have d:=d.c c7;refine Zs d ?_;refine bW c8 c9 rfl rfl GC ?_;intro c2 c2;cases c2
          exact Zx rfl
         ·rintro c2 c2 c2 d ⟨-,W,-⟩-;refine Zs d ?_;refine cg W d0 rfl rfl GA GB ?_;exact⟨_,Stp.refl _ _ _,⟨_,rfl,W⟩⟩
         ·rintro c2 c2 c2 d- ⟨c2,-⟩;obtain⟨c7,c7,c8⟩:=c2;have d:=d.c c7;refine Zs d ?_;refine bW c8 d0 rfl rfl GC ?_;intro c2 c2;cases c2
          exact Zx rfl
        rintro _ rfl c8 c2 c2 d ⟨f,W,a0,A,B,j,s,m,y,l,u,x⟩-;refine O_ d ?_;refine Zv (aP rfl rfl) (Zy ?_);refine Zi rfl U (λc2 U=>?_) (λc2 U=>?_)
        ·refine b_ ?_;obtain⟨c9,c2,U⟩:=a_ U;obtain⟨d0,c7,U⟩:=a_ U;refine ZW (Bf:=λg i=>Bs S g w i∧Oz w 3 31 g i C a3∧Oz w 3 13 g i b6 b7∧Oz w 51 32 g i Z Q∧RdL g i a9 X∧Bz w 30 g i M 75 [ZI b.p.Labels,ZI b.p.Degree,D,E,ZI b.q.Labels,ZI b.q.Degree,G,H,I,J]∧RdL g i D (b.p.Nodes:Yk)∧RdL g i E (b.p.Edges:Yk)∧RdL g i G (b.q.Nodes:Yk)∧RdL g i H (b.q.Edges:Yk)∧RdL g i I (b.nodes:List Bool)∧RdL g i J (b.edges:List Bool)) [(2,_),(6,_),(11,_),(13,_),(25,_),(26,_),(27,_),(52,_),(53,_),(54,_)] (Zrg 72 8) [[],[],[0,1],[2],[],[],[4,5],[6]] (Zcn 8) (Zt9 8) [0,0,31,0,0,0,13,0] [999] [.inl C,.inl (ZI b2),.inr (λv o N=>∃vl,v=adr vl (b2.toNat*Rp.sz Int)∧Oz w 3 31 o N vl a3),.inl (ZI c9),.inl b6,.inl (ZI b2),.inr (λv o N=>∃vl,v=adr vl (b2.toNat*Rp.sz Int)∧Oz w 3 13 o N vl b7),.inl (ZI d0)] ⟨f,W,a0,A,B,j,s,m,y,l,u,x⟩ ⟨λ_ _ _ _ _ _ O hb ⟨vl,e,h⟩ hs=>⟨vl,e,h.stp hs O.1 (V_ hb)⟩,λ_ _ _ _ _ _ O hb ⟨vl,e,h⟩ hs=>⟨vl,e,h.stp hs O.1 (V_ hb)⟩,trivial⟩ ?_ ?_
         ·refine⟨Dp (d_ rfl),Dp (d_ rfl),?_,?_,Dp (d_ rfl),Dp (d_ rfl),?_,?_,trivial⟩
          ·rintro b b b d ⟨-,W,-⟩-;refine Zs d ?_;refine cg W c2 rfl rfl GA GB ?_;exact⟨_,Stp.refl _ _ _,⟨_,rfl,W⟩⟩
          ·rintro b b b d- ⟨b,-⟩;obtain⟨g,g,i⟩:=b;have d:=d.c g;refine Zs d ?_;refine bW i c2 rfl rfl GC ?_;intro b b;cases b
           exact Zx rfl
          ·rintro b b b d ⟨-,-,a0,-⟩-;refine Zs d ?_;refine cg a0 c7 rfl rfl GA GB ?_;exact⟨_,Stp.refl _ _ _,⟨_,rfl,a0⟩⟩
          ·rintro b b b d- ⟨b,-⟩;obtain⟨g,g,i⟩:=b;have d:=d.c g;refine Zs d ?_;refine bW i c7 rfl rfl GC ?_;intro b b;cases b
           exact Zx rfl
         rintro _ rfl b g g d ⟨f,W,a0,A,B,j,s,m,y,l,u,x⟩-;refine O_ d ?_;refine Zv (fc rfl rfl) ?_;obtain⟨g,g,U⟩:=a_ U;refine Zo ?_;refine bI W g rfl rfl GA GB ?_;intro g g g i i;cases i
         obtain⟨i,D,U⟩:=a_ U;refine E_ trivial ?_;refine bH W g D rfl dc rfl rfl rfl GB rfl ?_;intro g g D;obtain⟨a0,A,B,j,s,m,y,l,u,x,f⟩:=ZS D (A8 a0 A B j s m y (A4 l u x f));refine Zy (h_ (Za rfl (Ze [(2,ZP M),(6,C),(7,.bool true),(11,b6),(25,Z),(26,ZI (Q.length:Int)),(27,ZI a2),(52,a9),(53,ZI (X.length:Int)),(54,ZI b1)] (w_ (nx (h_ (Zv (u_ rfl rfl (n_ om om)) (Zm rfl (Zf (v_ ?_))))))))));obtain rfl:=Zj U;refine Zk [(2,_),(6,_),(7,_),(11,_),(25,_),(26,_),(27,_),(52,_),(53,_),(54,_)] ?_;intro a d;exact⟨_,(by rw[<-b8];simp only[T_];omega),b1+1,i,true,b,c1,rfl,om,d,f,g,a0,A,B,j,s,m,y,l,u,x⟩
        ·refine f_ (w_ (nx (h_ (Zv (u_ rfl rfl (n_ om om)) (Zm rfl (Zf (v_ ?_)))))));obtain rfl:=Zj U;refine Zk [(2,_),(6,_),(7,_),(11,_),(25,_),(26,_),(27,_),(52,_),(53,_),(54,_)] ?_;intro a d;exact⟨_,(by rw[<-b8];simp only[T_];omega),b1+1,a3,b0,c8,c1,rfl,om,d,f,W,a0,A,B,j,s,m,y,l,u,x⟩
       ·have b:=ak b4 b5;refine q_ d ?_;refine Zq (Zv (o_ rfl rfl) (Zy (b_ ?_)));refine Q_ (Zb (decide_eq_false b4)) ?_;refine z_ ?_;refine g_ (g_ (A_ ?_));refine r_ ?_;refine Zk [(2,_),(6,_),(7,_),(25,_),(26,_),(27,_)] ?_;intro a d;exact⟨a3,b0,F,b,d,f,W,A,j,s,m,y,l,u,x⟩
      ·rintro a P ⟨a3,b0,F,rfl,d,f,W,A,j,s,m,y,l,u,x⟩;dsimp only at T;refine ap_k d ?_;refine w_ (nx (h_ (Zv (u_ rfl rfl (n_ om om)) (Zm rfl (Zf (v_ ?_))))));obtain rfl:=Zj T;refine Zk [(2,_),(6,_),(7,_),(25,_),(26,_),(27,_)] ?_;intro a d;exact⟨_,(by rw[<-c5];simp only[T_];omega),a2+1,a3,b0,F,c6,rfl,om,d,f,W,A,j,s,m,y,l,u,x⟩
      ·exact λ_ _ h=>h.elim
    ·have b:=ak c0 c4;refine q_ d ?_;refine Zq (Zv (o_ rfl rfl) (Zy (b_ ?_)));refine Q_ (Zb (decide_eq_false c0)) ?_;refine z_ ?_;refine g_ (g_ (A_ ?_));refine r_ ?_;refine Zk [(2,_),(6,_),(7,_)] ?_;intro a d;exact⟨a5,a8,L,b,d,f,V,j,s,m,y,l,u,x⟩
   ·rintro a R ⟨a5,a8,L,rfl,d,f,V,j,s,m,y,l,u,x⟩;dsimp only at a4;refine ap_k d ?_;refine w_ (v_ ?_);obtain rfl:=Zj a4;refine Zk [(2,_),(6,_),(7,_)] ?_;intro a d;exact⟨d6,om,a5,a8,L,c3,d,f,V,j,s,m,y,l,u,x⟩
   ·exact λ_ _ h=>h.elim
  ·refine z_ ?_;refine g_ (g_ (A_ ?_));refine r_ ?_;obtain rfl:=Zj a4;refine Zk [(6,_)] ?_;intro a d;exact⟨a7,false,Y,c3,d,f,a6⟩
 ·rintro a a1 ⟨a7,b9,Y,rfl,d,f,a6⟩;dsimp only at b3;refine ap_k d ?_;refine Zn (Zm rfl (Zm rfl ?_));obtain⟨b,d,b3⟩:=a_ b3;refine Zo ?_;refine j_ (DC a1 _ a7 a6.z 0 b d) Tryz.call94 ⟨rfl,rfl,trivial⟩ ?_;rintro d d ⟨rfl,d⟩;have g:=d.stp 999 Y;refine⟨_,rfl,?_⟩;obtain⟨a6,f⟩:=ZS g (A2 a6 f);refine Zv (ag rfl) (Za rfl (Za rfl (Zy (i_ ?_))));obtain rfl:=Zj b3;refine Zr Tryz.results60 [C,.bool (!b)] ?_;exact⟨_,rt S Y w.heap.size 31 t,rfl,a6.rt f dc t,f.keeps,S_ _ _ _ _ _⟩
 ·exact λ_ _ h=>h.elim
section
section
variable {α:Type} [Rp α] {o o' oo:Tg} {w w' w0:World} {v u vN vE:Value} {vs:List Hv} {xs ys:List (List α)} {t k kr:Nat} {e er:TypeId} {B lo hi m n:Nat}
theorem Ow.low0{zs:List α}(h:Ow B e k o w v zs)(s:∀g,v.ownBlock=some g->m<=g):Ow m e k o w v zs:=by
 obtain⟨css,i,⟨f,b⟩,q,j⟩:=h;refine⟨css,i,⟨f,?_⟩,q,j⟩;rcases b with h|⟨g,cap,d,rfl,x,a⟩
 ·exact .inl h
 ·exact .inr ⟨g,cap,d,rfl,s g rfl,a⟩
theorem Ow.mv0{zs:List α}(h:Ow B e 0 o w v zs)(d:∀b,o b=0->o' b=0):Ow B e 0 o' w v zs:=by
 obtain⟨css,j,f,s,q⟩:=h;exact⟨css,j,f,λg y=>d g (s g y),λi cs x a b=>Rp.mv (q i cs x a b) (K_ _) λb _ A=>⟨rfl,d b A⟩⟩
theorem Rws.mv0(h:Rws B er 0 o w vs xs)(d:∀b,o b=0->o' b=0):Rws B er 0 o' w vs xs:=⟨h.1,λi u x a b=>(h.2.1 i u x a b).mv0 d,h.2.2⟩
theorem Rws.row'(h:Rws B er kr o w vs xs){i:Nat}{u:Hv}(a:vs[i]? =some u):∃x,xs[i]? =some x∧Ow B er kr o w u.v x:=by
 have hi:i<xs.length:=by have:=(Y_.1 a).1;have:=h.1;omega
 exact⟨xs[i],x_ hi,h.2.1 i u xs[i] a (x_ hi)⟩
theorem Rws.low0(h:Rws B er kr o w vs xs)(d:∀(i:Nat)(u:Hv) g,vs[i]? =some u->u.v.ownBlock=some g->m<=g):Rws m er kr o w vs xs:=⟨h.1,λi u x a b=>(h.2.1 i u x a b).low0 λg f=>d i u g a f,h.2.2⟩
theorem Rws.lt(h:Rws B er kr o w vs xs)(i:Nat)(u:Hv)(g:Nat)(d:vs[i]? =some u)(a:u.v.ownBlock=some g):B<=g∧g<w.heap.size:=by
 obtain⟨x,_,b⟩:=h.row' d;exact b.ltw g a
theorem Rws.tg(h:Rws B er kr o w vs xs)(i:Nat)(u:Hv)(g:Nat)(d:vs[i]? =some u)(a:u.v.ownBlock=some g):o g=kr:=by
 obtain⟨x,_,b⟩:=h.row' d;exact b.tagged g a
def Dw(lo hi:Nat)(e er:TypeId)(o:Tg)(w:World)(v:Value)(xs:List (List α)):Prop:=
  ∃vs:List Hv,Ow lo e 0 o w v vs∧Rws lo er 0 o w vs xs∧(∀g,v.ownBlock=some g->g<hi)∧∀(i:Nat)(u:Hv) g,vs[i]? =some u->u.v.ownBlock=some g->g<hi
theorem Dw.stp(h:Dw lo hi e er o w v xs)(s:Stp t o w o' w')(a:t≠0:=by decide):Dw lo hi e er o' w' v xs:=by
 obtain⟨vs,d,b,f⟩:=h;exact⟨vs,d.stp s a a.symm,b.stp s a a.symm,f⟩
theorem Dw.mv0(h:Dw lo hi e er o w v xs)(a:∀b,o b=0->o' b=0):Dw lo hi e er o' w v xs:=by
 obtain⟨vs,f,d,g⟩:=h;exact⟨vs,f.mv0 a,d.mv0 a,g⟩
theorem Dw.rc(h:Dw lo hi e er o w v xs)(r:Rtc t o o')(a:t≠0):Dw lo hi e er o' w v xs:=h.mv0 λb d=>r.zero a d
theorem Dw.dz(h:Dw lo hi e er o w v xs):Dz e er o w v xs:=by
 obtain⟨vs,b,a,_⟩:=h;exact⟨vs,b.mono (bj _),a.mono (bj _)⟩
theorem Dw.rd(h:Dw lo hi e er o w v xs):RdL o w v xs:=h.dz.rd
theorem Dw.sub{lo' hi':Nat}(h:Dw lo hi e er o w v xs)(q:∀g,o g=0->lo<=g->g<hi->g<w.heap.size->lo'<=g∧g<hi'):Dw lo' hi' e er o w v xs:=by
 obtain⟨vs,f,j,A,y⟩:=h;have x:∀g,v.ownBlock=some g->lo'<=g∧g<hi':=λg d=>q g (f.tagged g d) (f.ltw g d).1 (A g d) (f.ltw g d).2;have s:∀(i:Nat)(u:Hv) g,vs[i]? =some u->u.v.ownBlock=some g->lo'<=g∧g<hi':=λi u g a b=>q g (j.tg i u g a b) (j.lt i u g a b).1 (y i u g a b) (j.lt i u g a b).2;exact⟨vs,f.low0 λg d=>(x g d).1,j.low0 λi u g a b=>(s i u g a b).1,λg d=>(x g d).2,λi u g a b=>(s i u g a b).2⟩
def D2(e er:TypeId)(o:Tg)(w:World)(vN vE:Value)(xs ys:List (List α)):Prop:=∃a b c d,(∀g,a<=g->g<b->c<=g->g<d->False)∧Dw a b e er o w vN xs∧Dw c d e er o w vE ys
theorem Dw.ofI{a b:Nat}(h:Ow a e k o w v vs)(g:Rws a er kr o w vs xs)(y:k≠0)(d:kr≠0)(f:kr≠k)(s:∀c,v.ownBlock=some c->c<b)(x:∀(i:Nat)(u:Hv) c,vs[i]? =some u->u.v.ownBlock=some c->c<b):
  Dw a b e er (Go.Proofs.YtpefhaamcihneaaGreat.frz kr (Go.Proofs.YtpefhaamcihneaaGreat.frz k o)) w v xs:=
 ⟨vs,Ow.low0 (Of.frz (h.frzF) kr d.symm) (λc j=>(h.ltw c j).1),Rws.low0 ((g.frz_ne f).frz d) (λi u c p q=>(g.lt i u c p q).1),s,x⟩
theorem newT{n:Nat}{a oo:Tg}{t:Nat}(g:∀b,b<n->a b=1):∀b,a b=0->(λb=>if b<n then oo b else if a b=0 then 0 else t) b=0:=λb d=>by
 have f:¬b<n:=λh=>by rw[g b h] at d;omega
 show(if b<n then oo b else if a b=0 then 0 else t)=0;rw[if_neg f,if_pos d]
theorem D2.mv0(h:D2 e er o w vN vE xs ys)(f:∀b,o b=0->o' b=0):D2 e er o' w vN vE xs ys:=by
 obtain⟨a,b,c,d,j,i,g⟩:=h;exact⟨a,b,c,d,j,i.mv0 f,g.mv0 f⟩
theorem D2.rt(h:D2 e er o w vN vE xs ys)(a:Bs oo o w0 w)(k t:Nat)(f:2<=k):D2 e er (Go.Proofs.YtpefhaamcihneaaGreat.rt oo o w0.heap.size k t) w vN vE xs ys:=h.mv0 λb d=>me a k t b f d
def Pq(lo hi:Nat)(e er:TypeId)(o:Tg)(w:World)(vN vE:Value)(xs ys:List (List α)):Prop:=∃a b c d,lo<=a∧b<=hi∧lo<=c∧d<=hi∧(b<=c∨d<=a)∧Dw a b e er o w vN xs∧Dw c d e er o w vE ys
theorem D2.pq(h:D2 e er o w vN vE xs ys)(E:∀b,b<n->o b≠0)(G:n<=w.heap.size):Pq n w.heap.size e er o w vN vE xs ys:=by
 obtain⟨a,b,c,d,A,y,C⟩:=h;have x:∀g,o g=0->n<=g:=λg f=>FC λD=>E g D f;have q:Dw (max a n) (min b w.heap.size) e er o w vN xs:=y.sub λg f j i F=>by have:=x g f;omega
 have s:Dw (max c n) (min d w.heap.size) e er o w vE ys:=C.sub λg f j i F=>by have:=x g f;omega
 by_cases H:max a n<min b w.heap.size
 ·by_cases I:max c n<min d w.heap.size
  ·refine⟨_,_,_,_,om,om,om,om,?_,q,s⟩;refine ge λJ=>A (max (max a n) (max c n)) om om om om
  ·exact⟨_,_,n,n,om,om,om,om,om,q,s.sub λg _ j i _=>om⟩
 ·exact⟨n,n,_,_,om,om,om,om,om,q.sub λg _ j i _=>om,s⟩
theorem Pq.stp{lo hi:Nat}(h:Pq lo hi e er o w vN vE xs ys)(s:Stp t o w o' w')(f:t≠0:=by decide):Pq lo hi e er o' w' vN vE xs ys:=by
 obtain⟨a,b,c,d,A,q,x,i,y,j,g⟩:=h;exact⟨a,b,c,d,A,q,x,i,y,j.stp s f,g.stp s f⟩
theorem Pq.mv0{lo hi:Nat}(h:Pq lo hi e er o w vN vE xs ys)(f:∀b,o b=0->o' b=0):Pq lo hi e er o' w vN vE xs ys:=by
 obtain⟨a,b,c,d,y,q,s,i,x,j,g⟩:=h;exact⟨a,b,c,d,y,q,s,i,x,j.mv0 f,g.mv0 f⟩
theorem Pq.rdN{lo hi:Nat}(h:Pq lo hi e er o w vN vE xs ys):RdL o w vN xs:=by obtain⟨a,b,c,d,x,j,q,i,s,f,g⟩:=h;exact f.rd
theorem Pq.rdE{lo hi:Nat}(h:Pq lo hi e er o w vN vE xs ys):RdL o w vE ys:=by obtain⟨a,b,c,d,x,j,q,g,s,i,f⟩:=h;exact f.rd
def Iv(B k kr:Nat)(e er:TypeId)(o:Tg)(w:World)(v:Value)(xs:List (List α)):Prop:=
  ∃(g:List Hv)(a b:Nat),B<=a∧b<=w.heap.size∧Ow a e k o w v g∧Rws a er kr o w g xs∧(∀c,v.ownBlock=some c->c<b)∧(∀(i:Nat)(u:Hv) c,g[i]? =some u->u.v.ownBlock=some c->c<b)∧∀c,a<=c->c<b->o c=k∨o c=kr
theorem Iv.stp{B:Nat}(h:Iv B k kr e er o w v xs)(s:Stp t o w o' w')(f:t≠0:=by decide)(hk:k≠t:=by decide)(hkr:kr≠t):Iv B k kr e er o' w' v xs:=by
 obtain⟨g,a,b,j,d,C,A,i,x,y⟩:=h;exact⟨g,a,b,j,aH d s.size,C.stp s f hk,A.stp s f hkr,i,x,λc p q=>by rw[s.own c (bh q d)];exact y c p q⟩
end
theorem Iv.mono{α:Type}[Rp α]{B d k kr:Nat}{e er:TypeId}{o:Tg}{w:World}{v:Value}{xs:List (List α)}(h:Iv B k kr e er o w v xs)(i:d<=B):Iv d k kr e er o w v xs:=by
 obtain⟨g,a,b,j,f⟩:=h;exact⟨g,a,b,aH i j,f⟩
structure Qv where
  cs:List Value
instance:Rp Qv where
  sz:=4
  pos:=dc
  rd _ _ cs x:=cs=x.cs∧cs.length=4∧∀c∈cs,c.oneCell'=true
  len h:=h.2.1
  one h:=h.2.2
  mv h _ _:=h
theorem Qv.ok{o:Tg}{w:World}{L D:Int}{vN vE:Value}(d:vN.oneCell'=true)(b:vE.oneCell'=true):Rp.rd o w [.int .i64 L,.int .i64 D,vN,vE] (⟨[.int .i64 L,.int .i64 D,vN,vE]⟩:Qv):=
 ⟨rfl,rfl,λc a=>by
  simp only[I_,P_,or_false] at a;rcases a with rfl|rfl|rfl|rfl
  ·rfl
  ·rfl
  ·exact d
  ·exact b⟩
section
variable {o o' oo:Tg} {w w' w0:World} {v u vN vE:Value} {t k:Nat} {B n:Nat} {gs:List Qv} {ps:List c_} {p:c_}
def Pc(lo hi:Nat)(o:Tg)(w:World)(cs:List Value)(p:c_):Prop:=∃vN vE,cs=[.int .i64 p.Labels,.int .i64 p.Degree,vN,vE]∧Pq lo hi 51 3 o w vN vE p.Nodes p.Edges
theorem Pc.stp{lo hi:Nat}{cs:List Value}(h:Pc lo hi o w cs p)(s:Stp t o w o' w')(a:t≠0:=by decide):Pc lo hi o' w' cs p:=by obtain⟨vN,vE,e,h⟩:=h;exact⟨vN,vE,e,h.stp s a⟩
theorem Pc.mv0{lo hi:Nat}{cs:List Value}(h:Pc lo hi o w cs p)(a:∀b,o b=0->o' b=0):Pc lo hi o' w cs p:=by obtain⟨vN,vE,e,h⟩:=h;exact⟨vN,vE,e,h.mv0 a⟩
end
end
section
section
variable {α:Type} [Rp α] {o o':Tg} {w w':World} {v vN vE:Value} {xs ys:List (List α)} {t k kr B lo hi:Nat} {e er:TypeId} {cs:List Value} {p:c_}
instance:Stq t o w o' w' (Dw lo hi e er o w v xs) (Dw lo hi e er o' w' v xs) (t !=0):=⟨λc h s=>h.stp s (neb c)⟩
instance:Stq t o w o' w' (Pq lo hi e er o w vN vE xs ys) (Pq lo hi e er o' w' vN vE xs ys) (t !=0):=⟨λc h s=>h.stp s (neb c)⟩
instance:Stq t o w o' w' (Iv B k kr e er o w v xs) (Iv B k kr e er o' w' v xs) (t !=0&&(k !=t&&kr !=t)):=⟨λc h s=>h.stp s (neb (andb c).1) (neb (andb (andb c).2).1) (neb (andb (andb c).2).2)⟩
instance:Stq t o w o' w' (Pc lo hi o w cs p) (Pc lo hi o' w' cs p) (t !=0):=⟨λc h s=>h.stp s (neb c)⟩
end
end
theorem Of.stpF{α:Type}[Rp α]{e:TypeId}{k t:Nat}{o a:Tg}{w w':World}{v:Value}{xs:List α}(h:Of e (Go.Proofs.YtpefhaamcihneaaGreat.frz k o) w v xs)(s:Stp t o w a w')(g:t≠0)(i:t≠k):Of e (Go.Proofs.YtpefhaamcihneaaGreat.frz k a) w' v xs:=by
 have s':Stp t (Go.Proofs.YtpefhaamcihneaaGreat.frz k o) w (Go.Proofs.YtpefhaamcihneaaGreat.frz k a) w':=⟨s.os,s.tape,s.output,s.size,λb d f=>s.block b d (λh=>by
  unfold Go.Proofs.YtpefhaamcihneaaGreat.frz at f;rw[if_neg (by rw[h];exact i)] at f;exact f h),λb d=>by unfold Go.Proofs.YtpefhaamcihneaaGreat.frz;rw[s.own b d]⟩
 exact Of.stp h s' g
theorem Ez{P:Program}{f:FuncId}{args:Array Value}{w:World}{m:TypeId}{j:Tg}{l:List Int}{b:Bool}(k:Nat)
  (H:Calls P f args w (λe w'=>∃(d:Value)(i:Tg),e=.returned (.tuple #[d,.bool b])∧Of m i w' d l∧Keeps w w'∧∀c,c<w.heap.size->i c=frz k j c)):
  Calls P f args w (λe w'=>∃(d:Value)(i:Tg),e=.returned (.tuple #[d,.bool b])∧Of m (frz k i) w' d l∧Keeps w w'∧∀c,c<w.heap.size->i c=j c):=by
 refine H.mono ?_;rintro e w' ⟨d,n,rfl,h,o,p⟩;refine⟨d,λc=>if c<w.heap.size then j c else n c,rfl,Ow.mv0 h (λc g=>?_),o,λc g=>if_pos g⟩;unfold frz;by_cases a:c<w.heap.size
 ·simp only[if_pos a];rw[p c a] at g;exact g
 ·simp only[if_neg a];split
  ·rfl
  ·exact g
end Go.Proofs.YtpefhaamcihneaaGreat
