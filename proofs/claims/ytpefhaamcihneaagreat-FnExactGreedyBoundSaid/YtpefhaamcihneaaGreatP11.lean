/- Part 11 of what this claim rests on (pack.py). -/
import Derived.Test.YtpefhaamcihneaaGreatLayC
import Derived.Test.YtpefhaamcihneaaGreatP09
import Derived.Test.YtpefhaamcihneaaGreatP10
namespace Go.Proofs.YtpefhaamcihneaaGreat
open Tryz renaming prog→Gz, underlying51→GA, underlying75→GV, sizeOf31→GD, underlying31→GF, sizeOf3→GB, isAgg3→GC, call126→Hs, results93→Is
set_option linter.unusedSimpArgs false
set_option linter.unusedVariables false
set_option maxRecDepth 100000
set_option maxHeartbeats 2000000
open Go.RowKit
def gA(c:al)(f:List Bool)(b:Yl)(d:Yl)(a:Yl)(self:al->(List Bool)->Yl->Yl->Yl->Yl->Option Yl):(Yl×Int)->Option (Lo (Yl×Int) Yl):=λs=>if decide (s.2<c.q.Labels) then((ix b (a.length:Int))>>=λg=>(ix d g)>>=λi=>(fO i s.2)>>=λj=>if j then if(a.length:Int)==0 then some true else(ck ((a.length:Int)-1))>>=λk=>(ix b k)>>=λm=>(ix b (a.length:Int))>>=λn=>if m !=n then some true else(ck ((a.length:Int)-1))>>=λu=>(ix a u)>>=λv=>some (v==s.2) else some false)>>=λx=>if x then(ch a)>>=λy=>(push y s.2)>>=λz=>(self c f b d z s.1)>>=λe=>(ck (s.2+1))>>=λh=>some (.go (e,h)) else(ck (s.2+1))>>=λl=>some (.go (s.1,l)) else some (.out (s.1,s.2))
def gz(a:al):Int->Int->Int->Option (Lp Int Int Yl):=λf b s=>(ck (s*a.q.Labels))>>=λc=>(ck (c+b))>>=λd=>some (.go d)
def gy(b:Yl):Int->Int->Yl->Option (Lp Yl Yl Yl):=λc d s=>(ix b c)>>=λa=>(ix s a)>>=λf=>(shl 1 d)>>=λg=>(ix s a)>>=λj=>(st s a (bor f g))>>=λi=>some (.go i)
def cJ:Nat->al->(List Bool)->Yl->Yl->Yl->Yl->Option Yl
  |0=>λ_ _ _ _ _ _=>none
  | d+1=>λf g b i a c=>
    if decide ((a.length:Int)<(b.length:Int)) then
      (loopF (gA f g b i a (cJ d)) d (c,0))>>=λj=>
      match j with
      | .inl (k,v)=>
        some k
      | .inr _=>none
    else
      (forI (gz f) a 0 0)>>=λm=>
      match m with
      | .inl n=>
        (ix g n)>>=λq=>
        if q then
          (forI (gy b) a 0 c)>>=λs=>
          match s with
          | .inl u=>
            some u
          | .inr _=>none
        else
          some c
      | .inr _=>none
def pb(b o:Tg)(w c:World)(u:Value)(r:Yl):Ending->World->Prop:=λe w'=>∃(a:Tg),e=.returned (.tuple #[])∧Ow w.heap.size 3 13 a w' u r∧Bs b a w w'∧Stp 13 o c a w'
theorem yP(Q:Nat):∀(w:World)(l:World)(W o:Tg)(u:Bs W o w l)(I:List Value)(f:al)(S:Rp.rd o l I f)(U:Value)(a1:List Bool)(y:RdL o l U a1)(A:Value)(N:Yl)(g:RdL o l A N)(V:Value)(Y:Yl)(s:RdL o l V Y)(O:Value)(x:Yl)(m:RdL o l O x)(C:Value)(b4:Yl)(b2:Ow w.heap.size 3 13 o l C b4)(r:Yl)(T:cJ Q f a1 N Y x b4=some r),Calls Gz 93 #[.agg I.toArray,U,A,V,O,C] l (pb W o w l C r):=by
 induction Q with
 |zero=>
  intro w l W o u I f S U a1 y A N g V Y s O x m C b4 b2 r T;unfold cJ at T;cases T
 | succ Q ih=>
  suffices H:∀(w:World)(l:World)(W o:Tg)(u:Bs W o w l)(I:List Value)(f:al)(S:Rp.rd o l I f)(U:Value)(a1:List Bool)(y:RdL o l U a1)(A:Value)(N:Yl)(g:RdL o l A N)(V:Value)(Y:Yl)(s:RdL o l V Y)(O:Value)(x:Yl)(m:RdL o l O x)(C:Value)(b4:Yl)(b2:Oz w 3 13 o l C b4)(r:Yl)(T:cJ (Q+1) f a1 N Y x b4=some r)(hO:∀b,b<l.heap.size->o b<14∨1000<=o b),Calls Gz 93 #[.agg I.toArray,U,A,V,O,C] l (pb W o w l C r) by
   intro w l W o u I f S U a1 y A N g V Y s O x m C b4 b2 r T;have hm:=xg o l (lo:=14) dc;refine (H w l W (prg 14 o) (u.mvr hm dc) I f (Rp.mvr S hm dc) U a1 (y.mvr hm dc) A N (g.mvr hm dc) V Y (s.mvr hm dc) O x (m.mvr hm dc) C b4 (b2.mvr hm dc dc) r T λb _=>Fg o b).mono ?_;rintro e w' ⟨a9,b3,B,b5,t⟩;have hk:=wB (w':=w') (lo:=14) dc t.own;exact⟨bck o l a9,b3,B.mvr hk dc dc,b5.mvr hk dc,t.bckS dc dc⟩
  intro w l W o u I f S U a1 y A N g V Y s O x m C b4 b2 r T hO;unfold cJ at T;obtain⟨a3,a4,a5,a6,a7,a8,rfl,B,t,D,E,F,G⟩:=S;have hS:Stp 13 o l o l:=Stp.refl _ _ _;refine y_ (n:=114) (vs:=[.agg #[ZI f.p.Labels,ZI f.p.Degree,a3,a4,ZI f.q.Labels,ZI f.q.Degree,a5,a6,a7,a8],U,A,V,O,C]) Tryz.func93 rfl rfl ?_;refine Zq (Zo ?_);refine Z_ (o:=o) w.heap.size 30 u.keeps.size (cs:=[ZI f.p.Labels,ZI f.p.Degree,a3,a4,ZI f.q.Labels,ZI f.q.Degree,a5,a6,a7,a8]) rfl rfl ?_;intro d0 I b6 J I;obtain⟨y,g,s,m,b2,B,t,D,E,F,G⟩:=ZS I (A8 y g s m b2 B t (A4 D E F G));replace hS:=hS.trW hO I dc dc;replace u:=u.stp I;refine Ze [(1,_),(2,_),(3,_),(4,_),(5,_),(6,_)] (Zn (Zm rfl (Zv (C_ rfl m GA) (Za rfl (Zy (b_ (Zq (Zm rfl (Zm rfl (Zv (C_ rfl g GA) (Zv (o_ rfl rfl) ?_)))))))))));refine Zy ?_;refine Zi rfl T (λI T=>?_) (λI T=>?_)
  ·refine b_ (Zq (Za rfl (Zy ?_)));obtain⟨I,S,T⟩:=a_ T;refine D_ (λa a2=>∃(b0:Yl),∃(X:Int),∃(Z:Tg),I=.inl (b0,X)∧Fr a 114 [(5,C)]∧Bs W Z w a2∧Stp 13 o l Z a2∧Oz w 3 13 Z a2 C b0) (λ_ _=>False) ?_ ?_ ?_
   ·refine k_ ?_;refine B_ (λ(K:Nat) a a2=>∃(b0:Yl),∃(X:Int),∃(Z:Tg),loopF (gA f a1 N Y x (cJ Q)) K (b0,X)=some I∧Fr a 114 [(1,U),(2,A),(3,V),(4,O),(5,C),(6,ZP b6),(12,ZI (x.length:Int)),(13,ZI X)]∧Bs W Z w a2∧Stp 13 o l Z a2∧RdL Z a2 U a1∧RdL Z a2 A N∧RdL Z a2 V Y∧RdL Z a2 O x∧Oz w 3 13 Z a2 C b0∧Bz w 30 Z a2 b6 75 [ZI f.p.Labels,ZI f.p.Degree,a3,a4,ZI f.q.Labels,ZI f.q.Degree,a5,a6,a7,a8]∧RdL Z a2 a3 (f.p.Nodes:Yk)∧RdL Z a2 a4 (f.p.Edges:Yk)∧RdL Z a2 a5 (f.q.Nodes:Yk)∧RdL Z a2 a6 (f.q.Edges:Yk)∧RdL Z a2 a7 (f.nodes:List Bool)∧RdL Z a2 a8 (f.edges:List Bool)) Q (λa d=>⟨b4,0,d0,S,d.sb,u,hS,y,g,s,m,b2,J,B,t,D,E,F,G⟩) ?_;rintro I a a2 ⟨b0,X,Z,I,d,u,hS,y,g,s,m,R,J,B,t,D,E,F,G⟩;obtain⟨d1,Q,Q,a0,c8⟩:=aC I;dsimp only[gA] at a0;refine q_ d ?_;refine b_ (Zq (Zm rfl (Zv (s_ rfl GV rfl GD) (Zv (s_ rfl GF rfl GB) (Zv (e_ rfl GC (J.cell rfl)) (Zv (o_ rfl rfl) (Zy ?_)))))));refine Zi rfl a0 (λI a0=>?_) (λI a0=>?_)
    ·refine f_ (nx (b_ (k_ (b_ ?_))));obtain⟨I,S,a0⟩:=a_ a0;refine D_ (λQ b3=>∃b1:Tg,Fr Q 114 [(1,U),(2,A),(3,V),(4,O),(5,C),(6,ZP b6),(12,ZI (x.length:Int)),(13,ZI X),(65,.bool I)]∧Bs W b1 w b3∧Stp 13 o l b1 b3∧RdL b1 b3 U a1∧RdL b1 b3 A N∧RdL b1 b3 V Y∧RdL b1 b3 O x∧Oz w 3 13 b1 b3 C b0∧Bz w 30 b1 b3 b6 75 [ZI f.p.Labels,ZI f.p.Degree,a3,a4,ZI f.q.Labels,ZI f.q.Degree,a5,a6,a7,a8]∧RdL b1 b3 a3 (f.p.Nodes:Yk)∧RdL b1 b3 a4 (f.p.Edges:Yk)∧RdL b1 b3 a5 (f.q.Nodes:Yk)∧RdL b1 b3 a6 (f.q.Edges:Yk)∧RdL b1 b3 a7 (f.nodes:List Bool)∧RdL b1 b3 a8 (f.edges:List Bool)) (λ_ _=>False) ?_ ?_ (λ_ _ h=>h.elim)
     ·obtain⟨c0,c1,S⟩:=a_ S;obtain⟨c2,c3,S⟩:=a_ S;obtain⟨b5,c4,S⟩:=a_ S;rcases aw (b5) with Q|Q
      ·rw[if_pos Q] at S;rcases aw ((x.length:Int)==0) with I|I
       ·rw[if_pos I] at S;refine ZW (Bf:=λi k=>Bs W i w k∧Stp 13 o l i k∧RdL i k U a1∧RdL i k A N∧RdL i k V Y∧RdL i k O x∧Oz w 3 13 i k C b0∧Bz w 30 i k b6 75 [ZI f.p.Labels,ZI f.p.Degree,a3,a4,ZI f.q.Labels,ZI f.q.Degree,a5,a6,a7,a8]∧RdL i k a3 (f.p.Nodes:Yk)∧RdL i k a4 (f.p.Edges:Yk)∧RdL i k a5 (f.q.Nodes:Yk)∧RdL i k a6 (f.q.Edges:Yk)∧RdL i k a7 (f.nodes:List Bool)∧RdL i k a8 (f.edges:List Bool)) [(1,_),(2,_),(3,_),(4,_),(5,_),(6,_),(12,_),(13,_)] (Zrg 32 31) [[],[],[],[1,2],[3],[0,4],[5],[],[6,7],[8],[9],[9,10],[9,11],[12],[12],[12],[12],[12],[12],[12],[12],[12],[12],[9,12,22],[9,23],[24],[24],[24],[24],[24],[24]] (Zcn 31) (Zt9 31) (Zt0 31) [999] [.inl V,.inl A,.inl (ZI (x.length:Int)),.inr (λv o L=>∃vl,v=adr vl ((x.length:Int).toNat*Rp.sz Int)∧RdL o L vl N),.inl (ZI c0),.inr (λv o L=>∃vl,v=adr vl (c0.toNat*Rp.sz Int)∧RdL o L vl Y),.inl (ZI c2),.inl (ZI X),.inl (.bool b5),.inl (.bool b5),.inl (ZI (x.length:Int)),.inl (.bool ((x.length:Int)==0)),.inl (.bool ((x.length:Int)==0)),.inl undef,.inl undef,.inl undef,.inl undef,.inl undef,.inl undef,.inl undef,.inl undef,.inl undef,.inl undef,.inl (.bool true),.inl (.bool true),.inl undef,.inl undef,.inl undef,.inl undef,.inl undef,.inl undef] ⟨u,hS,y,g,s,m,R,J,B,t,D,E,F,G⟩ ⟨λ_ _ _ _ _ _ M hb ⟨vl,e,h⟩ hs=>⟨vl,e,h.stp hs M.1⟩,λ_ _ _ _ _ _ M hb ⟨vl,e,h⟩ hs=>⟨vl,e,h.stp hs M.1⟩,trivial⟩ ?_ ?_
        ·refine⟨Dp (d_ rfl),Dp (d_ rfl),Dp (d_ rfl),?_,?_,?_,?_,Dp (d_ rfl),?_,Dp (d_ rfl),Dp (d_ rfl) (⟨_,rfl,Zb Q⟩),Dp (bg rfl rfl) (⟨_,rfl,Zb Q⟩),Dp (d_ rfl) (⟨_,rfl,Zb Q⟩),Dn rfl rfl rfl (by rw[I];rfl),Dn rfl rfl rfl (by rw[I];rfl),Dn rfl rfl rfl (by rw[I];rfl),Dn rfl rfl rfl (by rw[I];rfl),Dn rfl rfl rfl (by rw[I];rfl),Dn rfl rfl rfl (by rw[I];rfl),Dn rfl rfl rfl (by rw[I];rfl),Dn rfl rfl rfl (by rw[I];rfl),Dn rfl rfl rfl (by rw[I];rfl),Dn rfl rfl rfl (by rw[I];rfl),Dp (aj (Zb I) rfl) (⟨_,rfl,Zb Q⟩),Dp (d_ rfl) (⟨_,rfl,Zb Q⟩),Dn rfl rfl rfl rfl,Dn rfl rfl rfl rfl,Dn rfl rfl rfl rfl,Dn rfl rfl rfl rfl,Dn rfl rfl rfl rfl,Dn rfl rfl rfl rfl,trivial⟩
         ·rintro a9 a9 a9 d ⟨-,-,-,g,-⟩-;refine Zs d ?_;refine aN g c1 rfl rfl GA GB ?_;exact⟨_,Stp.refl _ _ _,⟨_,rfl,g⟩⟩
         ·rintro a9 a9 a9 d- ⟨a9,-⟩;obtain⟨b7,b7,b8⟩:=a9;have d:=d.c b7;refine Zs d ?_;refine cz b8 c1 rfl rfl GC ?_;intro a9 a9;cases a9
          exact Zx rfl
         ·rintro a9 a9 a9 d ⟨-,-,-,-,s,-⟩-;refine Zs d ?_;refine aN s c3 rfl rfl GA GB ?_;exact⟨_,Stp.refl _ _ _,⟨_,rfl,s⟩⟩
         ·rintro a9 a9 a9 d- ⟨a9,-⟩;obtain⟨b7,b7,b8⟩:=a9;have d:=d.c b7;refine Zs d ?_;refine cz b8 c3 rfl rfl GC ?_;intro a9 a9;cases a9
          exact Zx rfl
         ·rintro b7 a9 b8 d ⟨u,hS,y,g,s,m,R,J,B,t,D,E,F,G⟩-;refine Zs d ?_;refine j_ (lZ a9 c2 X b5 c4) Hs ⟨rfl,rfl,trivial⟩ ?_;rintro a9 a9 ⟨rfl,b8⟩;have a9:=b8.stp 999 b7;refine⟨_,rfl,?_⟩;obtain⟨y,g,s,m⟩:=ZS a9 (A4 y g s m);exact⟨_,a9,rfl⟩
        rintro _ rfl a9 b7 b7 d ⟨u,hS,y,g,s,m,R,J,B,t,D,E,F,G⟩-;refine O_ d ?_;refine W_ rfl rfl rfl dc ?_;refine m_ (aj rfl rfl) dc ⟨_,rfl,Zb Q⟩ (Zv (aj (Zb Q) rfl) ?_);obtain rfl:=Zj S;refine Ze [(1,_),(2,_),(3,_),(4,_),(5,_),(6,_),(12,_),(13,_),(65,_)] ?_;refine r_ (λa d=>⟨a9,d,u,hS,y,g,s,m,R,J,B,t,D,E,F,G⟩)
       ·replace S:=ZF I S;obtain⟨c5,d2,S⟩:=a_ S;obtain⟨b7,c6,S⟩:=a_ S;obtain⟨b8,c7,S⟩:=a_ S;rcases aw (b7 !=b8) with a9|a9
        ·rw[if_pos a9] at S;refine ZW (Bf:=λi k=>Bs W i w k∧Stp 13 o l i k∧RdL i k U a1∧RdL i k A N∧RdL i k V Y∧RdL i k O x∧Oz w 3 13 i k C b0∧Bz w 30 i k b6 75 [ZI f.p.Labels,ZI f.p.Degree,a3,a4,ZI f.q.Labels,ZI f.q.Degree,a5,a6,a7,a8]∧RdL i k a3 (f.p.Nodes:Yk)∧RdL i k a4 (f.p.Edges:Yk)∧RdL i k a5 (f.q.Nodes:Yk)∧RdL i k a6 (f.q.Edges:Yk)∧RdL i k a7 (f.nodes:List Bool)∧RdL i k a8 (f.edges:List Bool)) [(1,_),(2,_),(3,_),(4,_),(5,_),(6,_),(12,_),(13,_)] (Zrg 32 31) [[],[],[],[1,2],[3],[0,4],[5],[],[6,7],[8],[9],[9,10],[9,11],[12],[12],[12,14],[12,13,15],[12,16],[12],[12],[12,18,19],[12,20],[12,17,21],[9,12,22],[9,23],[24],[24],[24],[24],[24],[24]] (Zcn 31) (Zt9 31) (Zt0 31) [999] [.inl V,.inl A,.inl (ZI (x.length:Int)),.inr (λv o L=>∃vl,v=adr vl ((x.length:Int).toNat*Rp.sz Int)∧RdL o L vl N),.inl (ZI c0),.inr (λv o L=>∃vl,v=adr vl (c0.toNat*Rp.sz Int)∧RdL o L vl Y),.inl (ZI c2),.inl (ZI X),.inl (.bool b5),.inl (.bool b5),.inl (ZI (x.length:Int)),.inl (.bool ((x.length:Int)==0)),.inl (.bool ((x.length:Int)==0)),.inl A,.inl (ZI (x.length:Int)),.inl (ZI c5),.inr (λv o L=>∃vl,v=adr vl (c5.toNat*Rp.sz Int)∧RdL o L vl N),.inl (ZI b7),.inl A,.inl (ZI (x.length:Int)),.inr (λv o L=>∃vl,v=adr vl ((x.length:Int).toNat*Rp.sz Int)∧RdL o L vl N),.inl (ZI b8),.inl (.bool (b7 !=b8)),.inl (.bool (b7 !=b8)),.inl (.bool (b7 !=b8)),.inl undef,.inl undef,.inl undef,.inl undef,.inl undef,.inl undef] ⟨u,hS,y,g,s,m,R,J,B,t,D,E,F,G⟩ ⟨λ_ _ _ _ _ _ M hb ⟨vl,e,h⟩ hs=>⟨vl,e,h.stp hs M.1⟩,λ_ _ _ _ _ _ M hb ⟨vl,e,h⟩ hs=>⟨vl,e,h.stp hs M.1⟩,λ_ _ _ _ _ _ M hb ⟨vl,e,h⟩ hs=>⟨vl,e,h.stp hs M.1⟩,λ_ _ _ _ _ _ M hb ⟨vl,e,h⟩ hs=>⟨vl,e,h.stp hs M.1⟩,trivial⟩ ?_ ?_
         ·refine⟨Dp (d_ rfl),Dp (d_ rfl),Dp (d_ rfl),?_,?_,?_,?_,Dp (d_ rfl),?_,Dp (d_ rfl),Dp (d_ rfl) (⟨_,rfl,Zb Q⟩),Dp (bg rfl rfl) (⟨_,rfl,Zb Q⟩),Dp (d_ rfl) (⟨_,rfl,Zb Q⟩),Dp (d_ rfl) (⟨_,rfl,Zb I⟩),Dp (d_ rfl) (⟨_,rfl,Zb I⟩),Dp (aD rfl rfl d2) (⟨_,rfl,Zb I⟩),?_,?_,Dp (d_ rfl) (⟨_,rfl,Zb I⟩),Dp (d_ rfl) (⟨_,rfl,Zb I⟩),?_,?_,Dp (aP rfl rfl) (⟨_,rfl,Zb I⟩),Dp (aa (Zb I) rfl) (⟨_,rfl,Zb Q⟩),Dp (d_ rfl) (⟨_,rfl,Zb Q⟩),Dn rfl rfl rfl (by rw[a9];rfl),Dn rfl rfl rfl (by rw[a9];rfl),Dn rfl rfl rfl (by rw[a9];rfl),Dn rfl rfl rfl (by rw[a9];rfl),Dn rfl rfl rfl (by rw[a9];rfl),Dn rfl rfl rfl (by rw[a9];rfl),trivial⟩
          ·rintro d3 d3 d3 d ⟨-,-,-,g,-⟩-;refine Zs d ?_;refine aN g c1 rfl rfl GA GB ?_;exact⟨_,Stp.refl _ _ _,⟨_,rfl,g⟩⟩
          ·rintro d3 d3 d3 d- ⟨d3,-⟩;obtain⟨d4,d4,d8⟩:=d3;have d:=d.c d4;refine Zs d ?_;refine cz d8 c1 rfl rfl GC ?_;intro d3 d3;cases d3
           exact Zx rfl
          ·rintro d3 d3 d3 d ⟨-,-,-,-,s,-⟩-;refine Zs d ?_;refine aN s c3 rfl rfl GA GB ?_;exact⟨_,Stp.refl _ _ _,⟨_,rfl,s⟩⟩
          ·rintro d3 d3 d3 d- ⟨d3,-⟩;obtain⟨d4,d4,d8⟩:=d3;have d:=d.c d4;refine Zs d ?_;refine cz d8 c3 rfl rfl GC ?_;intro d3 d3;cases d3
           exact Zx rfl
          ·rintro d4 d3 d8 d ⟨u,hS,y,g,s,m,R,J,B,t,D,E,F,G⟩-;refine Zs d ?_;refine j_ (lZ d3 c2 X b5 c4) Hs ⟨rfl,rfl,trivial⟩ ?_;rintro d3 d3 ⟨rfl,d8⟩;have d3:=d8.stp 999 d4;refine⟨_,rfl,?_⟩;obtain⟨y,g,s,m⟩:=ZS d3 (A4 y g s m);exact⟨_,d3,rfl⟩
          ·rintro d3 d3 d3 d ⟨-,-,-,g,-⟩-;refine bJ d (⟨_,rfl,Zb I⟩) ?_;refine aN g c6 rfl rfl GA GB ?_;exact⟨_,Stp.refl _ _ _,⟨_,rfl,g⟩⟩
          ·rintro d3 d3 d3 d- ⟨d3,-⟩;obtain⟨d4,d4,d8⟩:=d3;have d:=d.c d4;refine bJ d (⟨_,rfl,Zb I⟩) ?_;refine cz d8 c6 rfl rfl GC ?_;intro d3 d3;cases d3
           exact Zx rfl
          ·rintro d3 d3 d3 d ⟨-,-,-,g,-⟩-;refine bJ d (⟨_,rfl,Zb I⟩) ?_;refine aN g c7 rfl rfl GA GB ?_;exact⟨_,Stp.refl _ _ _,⟨_,rfl,g⟩⟩
          ·rintro d3 d3 d3 d- ⟨d3,-⟩;obtain⟨d4,d4,d8⟩:=d3;have d:=d.c d4;refine bJ d (⟨_,rfl,Zb I⟩) ?_;refine cz d8 c7 rfl rfl GC ?_;intro d3 d3;cases d3
           exact Zx rfl
         rintro _ rfl d3 d4 d4 d ⟨u,hS,y,g,s,m,R,J,B,t,D,E,F,G⟩-;refine O_ d ?_;refine Zd a9 ?_;refine m_ (aj (Zb a9) rfl) dc ⟨_,rfl,Zb Q⟩ (Zv (aj (Zb Q) rfl) ?_);obtain rfl:=Zj S;refine Ze [(1,_),(2,_),(3,_),(4,_),(5,_),(6,_),(12,_),(13,_),(65,_)] ?_;refine r_ (λa d=>⟨d3,d,u,hS,y,g,s,m,R,J,B,t,D,E,F,G⟩)
        ·replace S:=ZF a9 S;obtain⟨d3,d8,S⟩:=a_ S;obtain⟨d9,d4,S⟩:=a_ S;refine ZW (Bf:=λi k=>Bs W i w k∧Stp 13 o l i k∧RdL i k U a1∧RdL i k A N∧RdL i k V Y∧RdL i k O x∧Oz w 3 13 i k C b0∧Bz w 30 i k b6 75 [ZI f.p.Labels,ZI f.p.Degree,a3,a4,ZI f.q.Labels,ZI f.q.Degree,a5,a6,a7,a8]∧RdL i k a3 (f.p.Nodes:Yk)∧RdL i k a4 (f.p.Edges:Yk)∧RdL i k a5 (f.q.Nodes:Yk)∧RdL i k a6 (f.q.Edges:Yk)∧RdL i k a7 (f.nodes:List Bool)∧RdL i k a8 (f.edges:List Bool)) [(1,_),(2,_),(3,_),(4,_),(5,_),(6,_),(12,_),(13,_)] (Zrg 32 31) [[],[],[],[1,2],[3],[0,4],[5],[],[6,7],[8],[9],[9,10],[9,11],[12],[12],[12,14],[12,13,15],[12,16],[12],[12],[12,18,19],[12,20],[12,17,21],[9,12,22],[9,23],[24],[24],[24,26],[24,25,27],[24,28],[24]] (Zcn 31) (Zt9 31) (Zt0 31) [999] [.inl V,.inl A,.inl (ZI (x.length:Int)),.inr (λv o L=>∃vl,v=adr vl ((x.length:Int).toNat*Rp.sz Int)∧RdL o L vl N),.inl (ZI c0),.inr (λv o L=>∃vl,v=adr vl (c0.toNat*Rp.sz Int)∧RdL o L vl Y),.inl (ZI c2),.inl (ZI X),.inl (.bool b5),.inl (.bool b5),.inl (ZI (x.length:Int)),.inl (.bool ((x.length:Int)==0)),.inl (.bool ((x.length:Int)==0)),.inl A,.inl (ZI (x.length:Int)),.inl (ZI c5),.inr (λv o L=>∃vl,v=adr vl (c5.toNat*Rp.sz Int)∧RdL o L vl N),.inl (ZI b7),.inl A,.inl (ZI (x.length:Int)),.inr (λv o L=>∃vl,v=adr vl ((x.length:Int).toNat*Rp.sz Int)∧RdL o L vl N),.inl (ZI b8),.inl (.bool (b7 !=b8)),.inl (.bool (b7 !=b8)),.inl (.bool (b7 !=b8)),.inl O,.inl (ZI (x.length:Int)),.inl (ZI d3),.inr (λv o L=>∃vl,v=adr vl (d3.toNat*Rp.sz Int)∧RdL o L vl x),.inl (ZI d9),.inl (ZI X)] ⟨u,hS,y,g,s,m,R,J,B,t,D,E,F,G⟩ ⟨λ_ _ _ _ _ _ M hb ⟨vl,e,h⟩ hs=>⟨vl,e,h.stp hs M.1⟩,λ_ _ _ _ _ _ M hb ⟨vl,e,h⟩ hs=>⟨vl,e,h.stp hs M.1⟩,λ_ _ _ _ _ _ M hb ⟨vl,e,h⟩ hs=>⟨vl,e,h.stp hs M.1⟩,λ_ _ _ _ _ _ M hb ⟨vl,e,h⟩ hs=>⟨vl,e,h.stp hs M.1⟩,λ_ _ _ _ _ _ M hb ⟨vl,e,h⟩ hs=>⟨vl,e,h.stp hs M.1⟩,trivial⟩ ?_ ?_
         ·refine⟨Dp (d_ rfl),Dp (d_ rfl),Dp (d_ rfl),?_,?_,?_,?_,Dp (d_ rfl),?_,Dp (d_ rfl),Dp (d_ rfl) (⟨_,rfl,Zb Q⟩),Dp (bg rfl rfl) (⟨_,rfl,Zb Q⟩),Dp (d_ rfl) (⟨_,rfl,Zb Q⟩),Dp (d_ rfl) (⟨_,rfl,Zb I⟩),Dp (d_ rfl) (⟨_,rfl,Zb I⟩),Dp (aD rfl rfl d2) (⟨_,rfl,Zb I⟩),?_,?_,Dp (d_ rfl) (⟨_,rfl,Zb I⟩),Dp (d_ rfl) (⟨_,rfl,Zb I⟩),?_,?_,Dp (aP rfl rfl) (⟨_,rfl,Zb I⟩),Dp (aa (Zb I) rfl) (⟨_,rfl,Zb Q⟩),Dp (d_ rfl) (⟨_,rfl,Zb Q⟩),Dp (d_ rfl) (⟨_,rfl,Zb a9⟩),Dp (d_ rfl) (⟨_,rfl,Zb a9⟩),Dp (aD rfl rfl d8) (⟨_,rfl,Zb a9⟩),?_,?_,Dp (d_ rfl) (⟨_,rfl,Zb a9⟩),trivial⟩
          ·rintro b7 b7 b7 d ⟨-,-,-,g,-⟩-;refine Zs d ?_;refine aN g c1 rfl rfl GA GB ?_;exact⟨_,Stp.refl _ _ _,⟨_,rfl,g⟩⟩
          ·rintro b7 b7 b7 d- ⟨b7,-⟩;obtain⟨b8,b8,c5⟩:=b7;have d:=d.c b8;refine Zs d ?_;refine cz c5 c1 rfl rfl GC ?_;intro b7 b7;cases b7
           exact Zx rfl
          ·rintro b7 b7 b7 d ⟨-,-,-,-,s,-⟩-;refine Zs d ?_;refine aN s c3 rfl rfl GA GB ?_;exact⟨_,Stp.refl _ _ _,⟨_,rfl,s⟩⟩
          ·rintro b7 b7 b7 d- ⟨b7,-⟩;obtain⟨b8,b8,c5⟩:=b7;have d:=d.c b8;refine Zs d ?_;refine cz c5 c3 rfl rfl GC ?_;intro b7 b7;cases b7
           exact Zx rfl
          ·rintro b8 b7 c5 d ⟨u,hS,y,g,s,m,R,J,B,t,D,E,F,G⟩-;refine Zs d ?_;refine j_ (lZ b7 c2 X b5 c4) Hs ⟨rfl,rfl,trivial⟩ ?_;rintro b7 b7 ⟨rfl,c5⟩;have b7:=c5.stp 999 b8;refine⟨_,rfl,?_⟩;obtain⟨y,g,s,m⟩:=ZS b7 (A4 y g s m);exact⟨_,b7,rfl⟩
          ·rintro b7 b7 b7 d ⟨-,-,-,g,-⟩-;refine bJ d (⟨_,rfl,Zb I⟩) ?_;refine aN g c6 rfl rfl GA GB ?_;exact⟨_,Stp.refl _ _ _,⟨_,rfl,g⟩⟩
          ·rintro b7 b7 b7 d- ⟨b7,-⟩;obtain⟨b8,b8,c5⟩:=b7;have d:=d.c b8;refine bJ d (⟨_,rfl,Zb I⟩) ?_;refine cz c5 c6 rfl rfl GC ?_;intro b7 b7;cases b7
           exact Zx rfl
          ·rintro b7 b7 b7 d ⟨-,-,-,g,-⟩-;refine bJ d (⟨_,rfl,Zb I⟩) ?_;refine aN g c7 rfl rfl GA GB ?_;exact⟨_,Stp.refl _ _ _,⟨_,rfl,g⟩⟩
          ·rintro b7 b7 b7 d- ⟨b7,-⟩;obtain⟨b8,b8,c5⟩:=b7;have d:=d.c b8;refine bJ d (⟨_,rfl,Zb I⟩) ?_;refine cz c5 c7 rfl rfl GC ?_;intro I I;cases I
           exact Zx rfl
          ·rintro I I I d ⟨-,-,-,-,-,m,-⟩-;refine bJ d (⟨_,rfl,Zb a9⟩) ?_;refine aN m d4 rfl rfl GA GB ?_;exact⟨_,Stp.refl _ _ _,⟨_,rfl,m⟩⟩
          ·rintro I I I d- ⟨I,-⟩;obtain⟨b7,b7,b8⟩:=I;have d:=d.c b7;refine bJ d (⟨_,rfl,Zb a9⟩) ?_;refine cz b8 d4 rfl rfl GC ?_;intro I I;cases I
           exact Zx rfl
         rintro _ rfl I b7 b7 d ⟨u,hS,y,g,s,m,R,J,B,t,D,E,F,G⟩-;refine O_ d ?_;refine m_ (bg rfl rfl) dc ⟨_,rfl,Zb a9⟩ (m_ (aa (Zb a9) rfl) dc ⟨_,rfl,Zb Q⟩ (Zv (aj (Zb Q) rfl) ?_));obtain rfl:=Zj S;refine Ze [(1,_),(2,_),(3,_),(4,_),(5,_),(6,_),(12,_),(13,_),(65,_)] ?_;refine r_ (λa d=>⟨I,d,u,hS,y,g,s,m,R,J,B,t,D,E,F,G⟩)
      ·replace S:=ZF Q S;refine ZW (Bf:=λi k=>Bs W i w k∧Stp 13 o l i k∧RdL i k U a1∧RdL i k A N∧RdL i k V Y∧RdL i k O x∧Oz w 3 13 i k C b0∧Bz w 30 i k b6 75 [ZI f.p.Labels,ZI f.p.Degree,a3,a4,ZI f.q.Labels,ZI f.q.Degree,a5,a6,a7,a8]∧RdL i k a3 (f.p.Nodes:Yk)∧RdL i k a4 (f.p.Edges:Yk)∧RdL i k a5 (f.q.Nodes:Yk)∧RdL i k a6 (f.q.Edges:Yk)∧RdL i k a7 (f.nodes:List Bool)∧RdL i k a8 (f.edges:List Bool)) [(1,_),(2,_),(3,_),(4,_),(5,_),(6,_),(12,_),(13,_)] (Zrg 32 31) [[],[],[],[1,2],[3],[0,4],[5],[],[6,7],[8],[9],[9],[9],[12],[12],[12],[12],[12],[12],[12],[12],[12],[12],[9],[9],[24],[24],[24],[24],[24],[24]] (Zcn 31) (Zt9 31) (Zt0 31) [999] [.inl V,.inl A,.inl (ZI (x.length:Int)),.inr (λv o L=>∃vl,v=adr vl ((x.length:Int).toNat*Rp.sz Int)∧RdL o L vl N),.inl (ZI c0),.inr (λv o L=>∃vl,v=adr vl (c0.toNat*Rp.sz Int)∧RdL o L vl Y),.inl (ZI c2),.inl (ZI X),.inl (.bool b5),.inl (.bool b5),.inl undef,.inl undef,.inl undef,.inl undef,.inl undef,.inl undef,.inl undef,.inl undef,.inl undef,.inl undef,.inl undef,.inl undef,.inl undef,.inl undef,.inl undef,.inl undef,.inl undef,.inl undef,.inl undef,.inl undef,.inl undef] ⟨u,hS,y,g,s,m,R,J,B,t,D,E,F,G⟩ ⟨λ_ _ _ _ _ _ M hb ⟨vl,e,h⟩ hs=>⟨vl,e,h.stp hs M.1⟩,λ_ _ _ _ _ _ M hb ⟨vl,e,h⟩ hs=>⟨vl,e,h.stp hs M.1⟩,trivial⟩ ?_ ?_
       ·refine⟨Dp (d_ rfl),Dp (d_ rfl),Dp (d_ rfl),?_,?_,?_,?_,Dp (d_ rfl),?_,Dp (d_ rfl),Dn rfl rfl rfl (by rw[Q];rfl),Dn rfl rfl rfl (by rw[Q];rfl),Dn rfl rfl rfl (by rw[Q];rfl),Dm rfl rfl rfl,Dm rfl rfl rfl,Dm rfl rfl rfl,Dm rfl rfl rfl,Dm rfl rfl rfl,Dm rfl rfl rfl,Dm rfl rfl rfl,Dm rfl rfl rfl,Dm rfl rfl rfl,Dm rfl rfl rfl,Dn rfl rfl rfl (by rw[Q];rfl),Dn rfl rfl rfl (by rw[Q];rfl),Dm rfl rfl rfl,Dm rfl rfl rfl,Dm rfl rfl rfl,Dm rfl rfl rfl,Dm rfl rfl rfl,Dm rfl rfl rfl,trivial⟩
        ·rintro I I I d ⟨-,-,-,g,-⟩-;refine Zs d ?_;refine aN g c1 rfl rfl GA GB ?_;exact⟨_,Stp.refl _ _ _,⟨_,rfl,g⟩⟩
        ·rintro I I I d- ⟨I,-⟩;obtain⟨a9,a9,b7⟩:=I;have d:=d.c a9;refine Zs d ?_;refine cz b7 c1 rfl rfl GC ?_;intro I I;cases I
         exact Zx rfl
        ·rintro I I I d ⟨-,-,-,-,s,-⟩-;refine Zs d ?_;refine aN s c3 rfl rfl GA GB ?_;exact⟨_,Stp.refl _ _ _,⟨_,rfl,s⟩⟩
        ·rintro I I I d- ⟨I,-⟩;obtain⟨a9,a9,b7⟩:=I;have d:=d.c a9;refine Zs d ?_;refine cz b7 c3 rfl rfl GC ?_;intro I I;cases I
         exact Zx rfl
        ·rintro a9 I b7 d ⟨u,hS,y,g,s,m,R,J,B,t,D,E,F,G⟩-;refine Zs d ?_;refine j_ (lZ I c2 X b5 c4) Hs ⟨rfl,rfl,trivial⟩ ?_;rintro I I ⟨rfl,b5⟩;have I:=b5.stp 999 a9;refine⟨_,rfl,?_⟩;obtain⟨y,g,s,m⟩:=ZS I (A4 y g s m);exact⟨_,I,rfl⟩
       rintro _ rfl I a9 a9 d ⟨u,hS,y,g,s,m,R,J,B,t,D,E,F,G⟩-;refine O_ d ?_;refine ah rfl rfl dc ?_;refine Zd Q ?_;refine Zv (aa (Zb Q) rfl) ?_;obtain rfl:=Zj S;refine Ze [(1,_),(2,_),(3,_),(4,_),(5,_),(6,_),(12,_),(13,_),(65,_)] ?_;refine r_ (λa d=>⟨I,d,u,hS,y,g,s,m,R,J,B,t,D,E,F,G⟩)
     rintro I b3 ⟨b1,d,u,hS,y,g,s,m,R,J,B,t,D,E,F,G⟩;refine ap_k d ?_;refine nx ?_;refine Zi rfl a0 (λI a0=>?_) (λI a0=>?_)
     ·obtain⟨a9,I,a0⟩:=a_ a0;obtain⟨c9,b5,a0⟩:=a_ a0;refine ZW (Bf:=λi k=>Bs W i w k∧Stp 13 o l i k∧RdL i k U a1∧RdL i k A N∧RdL i k V Y∧RdL i k O x∧Oz w 3 13 i k C b0∧Bz w 30 i k b6 75 [ZI f.p.Labels,ZI f.p.Degree,a3,a4,ZI f.q.Labels,ZI f.q.Degree,a5,a6,a7,a8]∧RdL i k a3 (f.p.Nodes:Yk)∧RdL i k a4 (f.p.Edges:Yk)∧RdL i k a5 (f.q.Nodes:Yk)∧RdL i k a6 (f.q.Edges:Yk)∧RdL i k a7 (f.nodes:List Bool)∧RdL i k a8 (f.edges:List Bool)) [(1,_),(2,_),(3,_),(4,_),(5,_),(6,_),(12,_),(13,_)] (Zrg 66 10) [[],[],[],[],[],[4],[],[6],[5,7],[]] [none,none,none,none,none,some 8,none,none,none,none] [999,999,999,999,999,999,999,999,36,999] [0,0,0,0,0,36,0,0,36,0] [36,999] [.inl (.agg #[ZI f.p.Labels,ZI f.p.Degree,a3,a4,ZI f.q.Labels,ZI f.q.Degree,a5,a6,a7,a8]),.inl U,.inl A,.inl V,.inl O,.inr (λv o L=>Oz w 3 36 o L v a9),.inl (ZI X),.inr (λv o L=>RdL o L v (([X]:Yl):Yl)),.inr (λv o L=>Oz w 3 36 o L v c9),.inl C] ⟨u,hS,y,g,s,m,R,J,B,t,D,E,F,G⟩ ⟨λ_ _ _ _ _ _ M hb h hs=>h.stp hs M.1 (V_ hb),λ_ _ _ _ _ _ M hb h hs=>h.stp hs M.1,λ_ _ _ _ _ _ M hb h hs=>h.stp hs M.1 (V_ hb),trivial⟩ ?_ ?_
      ·refine⟨Dq λh=>F_ rfl Tryz.isAgg75 Tryz.sizeOf75 rfl h.2.2.2.2.2.2.2.1.cells,Dp (d_ rfl),Dp (d_ rfl),Dp (d_ rfl),Dp (d_ rfl),?_,Dp (d_ rfl),?_,?_,Dp (d_ rfl),trivial⟩
       ·rintro Q S V d ⟨u,hS,y,g,s,m,R,J,B,t,D,E,F,G⟩-;refine Zs d ?_;refine j_ (cZ S Q 36 dc _ x m.z a9 I) Tryz.call63 ⟨rfl,trivial⟩ ?_;rintro I I ⟨I,I,rfl,I,S,V⟩;have Q:=S.stp' 999 V;replace I:=I.mono u.keeps.size;refine⟨_,rfl,?_⟩;obtain⟨y,g,s,m⟩:=ZS Q (A4 y g s m);exact⟨_,Q,I⟩
       ·rintro I Q Q d ⟨u,hS,y,g,s,m,R,J,B,t,D,E,F,G⟩-;refine Zs d ?_;refine ap (o:=I) (cs:=[ZI X]) (xs:=([X]:Yl)) (vs:=[(0,ZI X)]) ⟨_,_,rfl,rfl,rfl⟩ rfl ⟨rfl,rfl,trivial⟩ GA GB Tryz.zeroValue3 dc (fill1 rfl) sy ?_;intro I I I Q I S;obtain⟨y,g,s,m⟩:=ZS I (A4 y g s m);exact⟨_,I,Q⟩
       ·rintro V b3 Q d ⟨u,hS,y,g,s,m,R,J,B,t,D,E,F,G⟩ ⟨S,I,-⟩;replace S:Oz w 3 36 V b3 (Q.tmps.getD 71 undef) a9:=S;generalize a9:Q.tmps.getD 71 undef=b7 at S;have d:=d.c a9;replace I:RdL V b3 (Q.tmps.getD 73 undef) (([X]:Yl):Yl):=I;generalize V:Q.tmps.getD 73 undef=Q at I;have d:=d.c V;refine Zs d ?_;refine am S I (av b5) dc u.keeps.size rfl rfl GA aI rfl dc ?_;intro Q Q Q S Q;obtain⟨y,g,s,m,I⟩:=ZS Q (A5 y g s m I);exact⟨_,Q,S⟩
      rintro _ rfl d5 d6 I d ⟨u,hS,y,g,s,m,R,J,B,t,D,E,F,G⟩ ⟨-,b9,-⟩;replace b9:Oz w 3 36 d5 d6 (I.tmps.getD 74 undef) c9:=b9;generalize Q:I.tmps.getD 74 undef=I at b9;have d:=d.c Q;refine O_ d ?_;replace hS:=hS.frzW hO 36 dc dc;replace y:=y.frz 36;replace g:=g.frz 36;replace s:=s.frz 36;replace m:=m.frz 36;replace R:=R.frz_ne (j:=36) dc;replace B:=B.frz 36;replace t:=t.frz 36;replace D:=D.frz 36;replace E:=E.frz 36;replace F:=F.frz 36;replace G:=G.frz 36;have I:=b9.frzF;replace b9:=b9.frz;replace J:=J.frz_ne (j:=36) dc;replace u:=u.frz 36 dc;generalize (frz 36 d5)=e0 at*;obtain⟨d7,e1,a0⟩:=a_ a0;refine Zo ?_;refine j_ (ih w d6 W e0 u _ f ⟨_,_,_,_,_,_,rfl,B,t,D,E,F,G⟩ _ a1 y _ N g _ Y s _ c9 b9 _ b0 R d7 e1) Tryz.call93 ⟨rfl,rfl,rfl,rfl,rfl,rfl,trivial⟩ ?_;rintro I I ⟨Q,rfl,S,-,I⟩;refine⟨_,rfl,?_⟩;replace hS:=hS.trans I;obtain⟨y,g,s,m,B,t,D,E,F,G,b9,J,u⟩:=ZS I (A8 y g s m B t D (A6 E F G b9 J u));refine Ze [(1,_),(2,_),(3,_),(4,_),(5,_),(6,_),(12,_),(13,_)] (w_ (nx (h_ (Zm rfl ?_))));obtain⟨I,V,a0⟩:=a_ a0;refine Zv (u_ rfl rfl V) (Za rfl (Zf (v_ ?_)));obtain rfl:=Zj a0;refine Zk [(1,_),(2,_),(3,_),(4,_),(5,_),(6,_),(12,_),(13,_)] ?_;intro a d;exact⟨d1,om,d7,I,Q,c8,d,u,hS,y,g,s,m,S,J,B,t,D,E,F,G⟩
     ·refine f_ (w_ (nx (h_ (Zm rfl ?_))));obtain⟨I,Q,a0⟩:=a_ a0;refine Zv (u_ rfl rfl Q) (Za rfl (Zf (v_ ?_)));obtain rfl:=Zj a0;refine Zk [(1,_),(2,_),(3,_),(4,_),(5,_),(6,_),(12,_),(13,_)] ?_;intro a d;exact⟨d1,om,b0,I,b1,c8,d,u,hS,y,g,s,m,R,J,B,t,D,E,F,G⟩
    ·refine z_ ?_;refine g_ (g_ (A_ ?_));refine r_ ?_;obtain rfl:=Zj a0;refine Zk [(5,_)] ?_;intro a d;exact⟨b0,X,Z,c8,d,u,hS,R⟩
   ·rintro a a2 ⟨b0,X,Z,rfl,d,u,hS,R⟩;dsimp only at T;refine ap_k d ?_;refine nx (i_ (t_ ?_));obtain rfl:=Zj T;refine J_ (P:=Gz) (vs:=[]) Is trivial ?_;exact⟨Z,rfl,R,u,hS⟩
   ·exact λ_ _ h=>h.elim
  ·refine f_ (Zn (Za rfl (Zy (b_ (Zq (Zm rfl (Zv (C_ rfl m GA) (Zm rfl (Zy ?_)))))))));obtain⟨S,V,T⟩:=a_ T;refine D_ (λa I=>∃(R:Int),∃(s:Tg),S=.inl R∧Fr a 114 [(1,U),(2,A),(4,O),(5,C),(14,ZI R)]∧Bs W s w I∧Stp 13 o l s I∧RdL s I U a1∧RdL s I A N∧RdL s I O x∧Oz w 3 13 s I C b4) (λ_ _=>False) ?_ ?_ ?_
   ·refine k_ ?_;refine B_ (λ(K:Nat) a I=>∃(Q:Int)(R:Int),∃(s:Tg),forI (gz f) (x.drop Q.toNat) Q R=some S∧(x.drop Q.toNat).length=K∧0<=Q∧Fr a 114 [(1,U),(2,A),(4,O),(5,C),(6,ZP b6),(14,ZI R),(77,O),(78,ZI (x.length:Int)),(79,ZI Q)]∧Bs W s w I∧Stp 13 o l s I∧RdL s I U a1∧RdL s I A N∧RdL s I O x∧Oz w 3 13 s I C b4∧Bz w 30 s I b6 75 [ZI f.p.Labels,ZI f.p.Degree,a3,a4,ZI f.q.Labels,ZI f.q.Degree,a5,a6,a7,a8]∧RdL s I a3 (f.p.Nodes:Yk)∧RdL s I a4 (f.p.Edges:Yk)∧RdL s I a5 (f.q.Nodes:Yk)∧RdL s I a6 (f.q.Edges:Yk)∧RdL s I a7 (f.nodes:List Bool)∧RdL s I a8 (f.edges:List Bool)) _ (λa d=>⟨0,0,d0,V,rfl,N_ 0,d.sb,u,hS,y,g,m,b2,J,B,t,D,E,F,G⟩) ?_;rintro f a I ⟨Q,R,s,V,Y,X,d,u,hS,y,g,m,b2,J,B,t,D,E,F,G⟩;by_cases S:Q<(x.length:Int)
    ·obtain⟨f,f,Z,f,a0⟩:=ai X S V;have a1:=m.len_le;dsimp only[gz] at f;refine q_ d ?_;refine Zq (Zv (o_ rfl rfl) (Zy (b_ ?_)));refine R_ (Zb (decide_eq_true S)) ?_;refine f_ (nx (b_ (k_ (Zq (Zo ?_)))));refine bR m Z rfl rfl GA GB ?_;intro X X X X Z;cases Z
     refine Zv (e_ rfl GC (G_ X)) (Za rfl (Zy (h_ (Zm rfl (Zv (s_ rfl GV rfl GD) (Zv (s_ rfl GF rfl GB) (Zv (e_ rfl GC (J.cell rfl)) ?_)))))));obtain⟨X,X,f⟩:=a_ f;refine Zv (fe rfl rfl X) (Zm rfl ?_);obtain⟨X,Z,f⟩:=a_ f;refine Zv (u_ rfl rfl Z) (Za rfl (Ze [(1,U),(2,A),(4,O),(5,C),(6,ZP b6),(14,ZI X),(77,O),(78,ZI (x.length:Int)),(79,ZI Q)] (w_ (nx (h_ (Zv (u_ rfl rfl (n_ om om)) (Zm rfl (Zf (v_ ?_)))))))));obtain rfl:=Zj f;refine Zk [(1,_),(2,_),(4,_),(5,_),(6,_),(14,_),(77,_),(78,_),(79,_)] ?_;intro a d;exact⟨_,(by rw[<-Y];simp only[T_];omega),Q+1,X,s,a0,rfl,om,d,u,hS,y,g,m,b2,J,B,t,D,E,F,G⟩
    ·have f:=ak S V;refine q_ d ?_;refine Zq (Zv (o_ rfl rfl) (Zy (b_ ?_)));refine Q_ (Zb (decide_eq_false S)) ?_;refine z_ ?_;refine g_ (g_ (A_ ?_));refine r_ ?_;refine Zk [(1,_),(2,_),(4,_),(5,_),(14,_)] ?_;intro a d;exact⟨R,s,f,d,u,hS,y,g,m,b2⟩
   ·rintro a I ⟨R,s,rfl,d,u,hS,y,g,m,b2⟩;dsimp only at T;refine ap_k d ?_;refine Zn (Zm rfl (Zm rfl ?_));obtain⟨f,f,T⟩:=a_ T;refine Zo ?_;refine bR y f rfl rfl Tryz.underlying72 Tryz.sizeOf4 ?_;intro f f f f y;cases y
    refine Zv (e_ rfl Tryz.isAgg4 (G_ f)) (Zy ?_);refine Zi rfl T (λf T=>?_) (λf T=>?_)
    ·refine Zq (Zm rfl (Zv (C_ rfl m GA) (Zm rfl (Zy ?_))));obtain⟨y,E,T⟩:=a_ T;refine D_ (λa t=>∃D f,y=.inl D∧Fr a 114 [(5,C)]∧Bs W f w t∧Stp 13 o l f t∧Oz w 3 13 f t C D) (λ_ _=>False) ?_ ?_ ?_
     ·refine k_ ?_;refine B_ (λ(K:Nat) a t=>∃(B:Int),∃D f,forI (gy N) (x.drop B.toNat) B D=some y∧(x.drop B.toNat).length=K∧0<=B∧Fr a 114 [(2,A),(5,C),(95,O),(96,ZI (x.length:Int)),(97,ZI B)]∧Bs W f w t∧Stp 13 o l f t∧RdL f t A N∧Oz w 3 13 f t C D∧RdL f t O x) _ (λa d=>⟨0,b4,s,E,rfl,N_ 0,d.sb,u,hS,g,b2,m⟩) ?_;rintro y a t ⟨B,D,f,G,R,I,d,u,hS,g,E,m⟩;by_cases F:B<(x.length:Int)
      ·obtain⟨S,y,J,y,U⟩:=ai I F G;have a1:=m.len_le;dsimp only[gy] at y;refine q_ d ?_;refine Zq (Zv (o_ rfl rfl) (Zy (b_ ?_)));refine R_ (Zb (decide_eq_true F)) ?_;refine f_ (nx (b_ (k_ (Zq (Zm rfl (Zo ?_))))));refine bR m J rfl rfl GA GB ?_;intro I I I I J;cases J
       refine Zv (e_ rfl GC (G_ I)) (Za rfl (Za rfl (Zy ?_)));obtain⟨I,J,y⟩:=a_ y;obtain⟨V,Q,y⟩:=a_ y;obtain⟨X,Y,y⟩:=a_ y;refine ZW (Bf:=λi k=>Bs W i w k∧Stp 13 o l i k∧RdL i k A N∧Oz w 3 13 i k C D∧RdL i k O x) [(2,_),(5,_),(17,_),(18,_),(95,_),(96,_),(97,_)] (Zrg 102 9) [[],[],[],[1,2],[3],[0,4],[5],[],[7]] (Zcn 9) (Zt9 9) [0,0,0,0,0,13,0,0,0] [999] [.inl C,.inl A,.inl (ZI B),.inr (λv o L=>∃vl,v=adr vl (B.toNat*Rp.sz Int)∧RdL o L vl N),.inl (ZI I),.inr (λv o L=>∃vl,v=adr vl (I.toNat*Rp.sz Int)∧Oz w 3 13 o L vl D),.inl (ZI V),.inl (ZI S),.inl (ZI X)] ⟨u,hS,g,E,m⟩ ⟨λ_ _ _ _ _ _ M hb ⟨vl,e,h⟩ hs=>⟨vl,e,h.stp hs M.1⟩,λ_ _ _ _ _ _ M hb ⟨vl,e,h⟩ hs=>⟨vl,e,h.stp hs M.1 (V_ hb)⟩,trivial⟩ ?_ ?_
       ·refine⟨Dp (d_ rfl),Dp (d_ rfl),Dp (d_ rfl),?_,?_,?_,?_,Dp (d_ rfl),Dp (cS rfl rfl Y),trivial⟩
        ·rintro i i i d ⟨-,-,g,-⟩-;refine Zs d ?_;refine aN g J rfl rfl GA GB ?_;exact⟨_,Stp.refl _ _ _,⟨_,rfl,g⟩⟩
        ·rintro i i i d- ⟨i,-⟩;obtain⟨k,k,l⟩:=i;have d:=d.c k;refine Zs d ?_;refine cz l J rfl rfl GC ?_;intro i i;cases i
         exact Zx rfl
        ·rintro i i i d ⟨-,-,-,E,-⟩-;refine Zs d ?_;refine cg E Q rfl rfl GA GB ?_;exact⟨_,Stp.refl _ _ _,⟨_,rfl,E⟩⟩
        ·rintro i i i d- ⟨i,-⟩;obtain⟨k,k,l⟩:=i;have d:=d.c k;refine Zs d ?_;refine bW l Q rfl rfl GC ?_;intro i i;cases i
         exact Zx rfl
       rintro _ rfl k i i d ⟨u,hS,g,E,m⟩-;refine O_ d ?_;refine Zv (qJ rfl rfl) ?_;obtain⟨i,i,y⟩:=a_ y;refine Zo ?_;refine bI E i rfl rfl GA GB ?_;intro i i i l l;cases l
       obtain⟨l,I,y⟩:=a_ y;refine E_ trivial ?_;refine bH E i I rfl dc rfl rfl rfl GB rfl ?_;intro i I i;replace hS:=hS.trans i;obtain⟨g,m,u⟩:=ZS i (A3 g m u);refine Ze [(2,A),(5,C),(95,O),(96,ZI (x.length:Int)),(97,ZI B)] (w_ (nx (h_ (Zv (u_ rfl rfl (n_ om om)) (Zm rfl (Zf (v_ ?_)))))));obtain rfl:=Zj y;refine Zk [(2,_),(5,_),(95,_),(96,_),(97,_)] ?_;intro a d;exact⟨_,(by rw[<-R];simp only[T_];omega),B+1,l,k,U,rfl,om,d,u,hS,g,I,m⟩
      ·have g:=ak F G;refine q_ d ?_;refine Zq (Zv (o_ rfl rfl) (Zy (b_ ?_)));refine Q_ (Zb (decide_eq_false F)) ?_;refine z_ ?_;refine g_ (g_ (A_ ?_));refine r_ ?_;refine Zk [(5,_)] ?_;intro a d;exact⟨D,f,g,d,u,hS,E⟩
     ·rintro a t ⟨D,f,rfl,d,u,hS,E⟩;dsimp only at T;refine ap_k d ?_;obtain rfl:=Zj T;refine pZ (P:=Gz) (vs:=[]) Is trivial ?_;exact⟨f,rfl,E,u,hS⟩
     ·exact λ_ _ h=>h.elim
    ·refine f_ ?_;obtain rfl:=Zj T;refine pZ (P:=Gz) (vs:=[]) Is trivial ?_;exact⟨s,rfl,b2,u,hS⟩
   ·exact λ_ _ h=>h.elim
theorem tA(h:Nat)(w f:World)(q o:Tg)(p:Bs q o w f)(E:List Value)(B:al)(R:Rp.rd o f E B)(y:Value)(A:List Bool)(W:RdL o f y A)(F:Value)(x:List Int)(L:RdL o f F x)
  (k:Nat) (t:2<=k) (Q:k≠13) (m:Value) (D:List Int) (H:Ow w.heap.size 3 k o f m D) (u:Value) (v:List Int) (O:RdL o f u v) (n:Value) (C:List Int) (T:Ow w.heap.size 3 13 o f n C) (r:List Int) (V:cJ h B A x D v C=some r):
  Calls Gz 93 #[.agg E.toArray,y,F,m,u,n] f (pb q o w f n r):=by
 have rc:=xw H.tagged 0;have d:k≠0:=om;refine (yP h w f q (one m 0 o) (p.rc rc t) E B (Rp.rc R rc d) y A (W.rc rc d) F x (L.rc rc d) m D (Of.rd (Ow.mono (H.one 0 d) (bj _))) u v (O.rc rc d) n C (T.rc rc d (V_ Q)) r V).mono ?_;rintro e w' ⟨G,rfl,K,M,i⟩;refine⟨bck o f G,rfl,?_,⟨M.keeps,λb j=>?_⟩,⟨i.os,i.tape,i.output,i.size,λb j U=>i.block b j ?_,λb j=>if_pos j⟩⟩
 ·obtain⟨css,X,I,S,J⟩:=K;refine⟨css,X,I,λg N=>?_,J⟩;have a:=S g N;unfold bck;split
  ·rename_i s;rw[i.own g s] at a;unfold one at a;split at a
   ·cases a
   ·exact a
  ·exact a
 ·show(if b<f.heap.size then o b else G b)=_;rw[if_pos (bh j p.keeps.size)];exact p.old b j
 ·unfold one;split
  ·decide
  ·exact U
section
open Go.RowKit Go.Sort Go.Shelf
theorem xq{B k g cap q m:Nat}{o:Tg}{w:World}{xs zs:List Int}{h:Array Value}(a:B<=g)(J:w.heap[g]? =some (.cells h 3 (0,0)))(G:xs.length<=cap)(d:cap<=maxLen)(p:h.size=cap*1)(t:o g=k)(C:zs.length=xs.length)(s:m<=zs.length):
  Ow B 3 k o (putRow (Value.int .i64) (Sort.ahead w q) g 0 zs.toArray) (.slice (some ⟨g,0,none⟩) m cap) (zs.take m)∧Stp k o w o (putRow (Value.int .i64) (Sort.ahead w q) g 0 zs.toArray):=by
 have i:=ownsRow_sorted_i (n:=q) (os:= #[]) C a J G d p;have F:grow (putRow (Value.int .i64) (Sort.ahead w q) g 0 zs.toArray) #[]=putRow (Value.int .i64) (Sort.ahead w q) g 0 zs.toArray:=by
  unfold grow;rw[Array.append_empty]
 have i:(putRow (Value.int .i64) (Sort.ahead w q) g 0 zs.toArray).ownsRow B 3 1 (.slice (some ⟨g,0,none⟩) xs.length cap) xs.length (zs.map (Value.int .i64)):=by
  rw[<-F];exact i
 refine⟨oz (λx D=>by cases D;exact t) ?_,⟨rfl,rfl,rfl,by simp[putRow,mapBlock,Sort.ahead],λb K j=>?_,λ_ _=>rfl⟩⟩
 ·rw[aX,eq s];refine⟨by simp[s],.inr ?_⟩;rcases i.2 with⟨H,_⟩|⟨x,u,f,e,v,y,L,I,A,E⟩
  ·cases H
  ·cases e
   refine⟨g,cap,f,rfl,v,y,om,I,A,?_⟩;have:=congrArg (List.take m) E;rw[fZ,cm,eq om] at this;rw[cm,this,List.map_take]
 ·have:g≠b:=λe=>j (by rw[<-e];exact t);simp[putRow,mapBlock,Sort.ahead,gb,this]
def cmpO(xs:List Int):Option (List Int):=if xs.length<=1000000000 then some (Lib.compact xs) else none
theorem AA(xs:List Int):(Lib.compact xs).length<=xs.length:=by
 unfold Lib.compact Lib.compactUpTo;rw[aA];exact aH (gj _ _) sy
theorem Bn{B k:Nat}{o:Tg}{w:World}{v:Value}{xs A:List Int}(h:Ow B 3 k o w v xs)(j:cmpO xs=some A):
  Calls Gz 133 #[v] w (λe w'=>∃u,e=.returned u∧Ow B 3 k o w' u A∧Stp k o w o w'):=by
 unfold cmpO at j;split at j
 rotate_left
 ·cases j
 rename_i N;cases j
 obtain⟨css,E,t,H,J⟩:=h;rw[mp E (λi cs x a b=>J i cs x a b)] at t;have n:w.ownsRow B 3 1 v xs.length (xs.map (Value.int .i64)):=t;rcases n.2 with⟨rfl,I⟩|⟨g,cap,K,rfl,d,C,y,f,s,p⟩
 ·have L:xs=[]:=cD I;subst L;refine (Any.slices_Compact_int_empty Tryz.laysCompact none 0 w).mono ?_;rintro e w' ⟨rfl,rfl⟩;exact⟨_,rfl,Ow.nil B 3 k o w',Stp.refl _ _ _⟩
 ·have G:Holds (Value.int .i64) w g 0 xs.toArray:=holds_of_block_i C (su p);refine (Any.slices_Compact_int Tryz.laysCompact g 0 cap xs w G om y).mono ?_;rintro e w' ⟨rfl,q,rfl⟩;have M:=AA xs;obtain⟨D,F⟩:=xq (q:=q) (zs:=Lib.compact xs++List.replicate (xs.length-(Lib.compact xs).length) 0) (m:=(Lib.compact xs).length) d C y f s (H g rfl) (by simp;omega) sy;rw[qR] at D;exact⟨_,rfl,D,F⟩
def delO(xs:List Int)(i j:Int):Option (List Int):=if 0<=i∧i<=j∧j<=xs.length∧0<xs.length then some (xs.take i.toNat++xs.drop j.toNat) else none
theorem pR{B k:Nat}{o:Tg}{w:World}{v:Value}{xs E:List Int}{i j:Int}(h:Ow B 3 k o w v xs)(s:delO xs i j=some E):
  Calls Gz 74 #[v,.int .i64 i,.int .i64 j] w (λe w'=>∃C,e=.returned C∧Ow B 3 k o w' C E∧Stp k o w o w'):=by
 unfold delO at s;split at s
 rotate_left
 ·cases s
 rename_i J;cases s
 obtain⟨T,R,O,Q⟩:=J;obtain⟨css,H,A,L,M⟩:=h;rw[mp H (λi cs x a b=>M i cs x a b)] at A;have t:w.ownsRow B 3 1 v xs.length (xs.map (Value.int .i64)):=A;rcases t.2 with⟨rfl,S⟩|⟨g,cap,N,rfl,p,F,D,d,y,u⟩
 ·omega
 ·have K:Holds (Value.int .i64) w g 0 xs.toArray:=holds_of_block_i F (su u);obtain⟨i,rfl⟩:∃n:Nat,i=n:=⟨i.toNat,om⟩;obtain⟨j,rfl⟩:∃n:Nat,j=n:=⟨j.toNat,om⟩;simp only[U_];refine (Any.slices_Delete_int Tryz.laysDelete g 0 cap i j xs w K D (by simp only[maxLen] at d;omega) om om).mono ?_;rintro e w' ⟨rfl,q,rfl⟩;have f:(xs.take i++xs.drop j).length=xs.length-(j-i):=by
   rw[ar,aX,T_];omega
  obtain⟨G,I⟩:=xq (q:=q) (zs:=xs.take i++xs.drop j++List.replicate (j-i) 0) (m:=(xs.take i++xs.drop j).length) p F D d y (L g rfl) (by rw[ar,f,cd];omega) sy;rw[qR,f] at G;exact⟨_,rfl,G,I⟩
end
end Go.Proofs.YtpefhaamcihneaaGreat
