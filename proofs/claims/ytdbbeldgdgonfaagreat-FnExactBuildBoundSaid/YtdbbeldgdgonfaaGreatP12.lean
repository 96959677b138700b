/- Part 12 of what this claim rests on (pack.py). -/
import Derived.Test.YtdbbeldgdgonfaaGreatLayC
import Derived.Test.YtdbbeldgdgonfaaGreatP10
import Derived.Test.YtdbbeldgdgonfaaGreatP11
namespace Go.Proofs.YtdbbeldgdgonfaaGreat
open Tryz renaming prog→wQ_, underlying41→wR_, underlying90→xm_, sizeOf28→wU_, underlying28→wW_, sizeOf3→wS_, isAgg3→wT_, call163→xF_, results122→yh_
set_option linter.unusedSimpArgs false
set_option linter.unusedVariables false
section
set_option maxRecDepth 100000
set_option maxHeartbeats 2000000
open Go.RowKit
theorem lQ_:Inf wQ_ 3 (.int .i64 0) 1 8:=by unfold Inf;kernel_rfl
def bj_(A:H_)(C:List Bool)(u:List Int)(B:List Int)(a:List Int)(self:H_->(List Bool)->(List Int)->(List Int)->(List Int)->(List Int)->Option (List Int)):((List Int)×Int)->Option (Lp ((List Int)×Int) ((List Int)×Int) (List Int)):=λ(s:(List Int)×Int)=>
  if decide (s.2<A.q.Labels) then
    (
      (ix u (a.length:Int))>>=λv=>
      (ix B v)>>=λx=>
      (ht_ x s.2)>>=λy=>
      if y then
        if(a.length:Int)==0 then
          some true
        else
          (ck ((a.length:Int)-1))>>=λb=>
          (ix u b)>>=λc=>
          (ix u (a.length:Int))>>=λd=>
          if c !=d then
            some true
          else
            (ck ((a.length:Int)-1))>>=λf=>
            (ix a f)>>=λg=>
            some (g==s.2)
      else
        some false)>>=λz=>
    if z then
      (dd_ a)>>=λi=>
      (push i s.2)>>=λj=>
      (self A C u B j s.1)>>=λk=>
      (ck (s.2+1))>>=λm=>
      some (.go (k,m))
    else
      (ck (s.2+1))>>=λn=>
      some (.go (s.1,n))
  else
    some (.out (s.1,s.2))
def bh_(f:H_):Int->Int->Int->Option (Lp Int Int (List Int)):=λ(d:Int)(a:Int)(s:Int)=>
  (ck (s*f.q.Labels))>>=λb=>
  (ck (b+a))>>=λc=>
  some (.go c)
def bi_(j:List Int):Int->Int->(List Int)->Option (Lp (List Int) (List Int) (List Int)):=λ(b:Int)(c:Int)(s:List Int)=>
  (ix j b)>>=λa=>
  (ix s a)>>=λd=>
  (shl 1 c)>>=λf=>
  (ix s a)>>=λi=>
  (st s a (bor d f))>>=λg=>
  some (.go g)
def ag_:Nat->H_->(List Bool)->(List Int)->(List Int)->(List Int)->(List Int)->Option (List Int)
  |0=>λ_ _ _ _ _ _=>none
  | fuel+1=>λn q i s g j=>
    if decide ((g.length:Int)<(i.length:Int)) then
      (loopF (bj_ n q i s g (ag_ fuel)) fuel (j,0))>>=λk=>
      match k with
      | .inl (m,u)=>
        some m
      | .inr _=>none
    else
      (forI (bh_ n) g 0 0)>>=λa=>
      match a with
      | .inl b=>
        (ix q b)>>=λc=>
        if c then
          (forI (bi_ i) g 0 j)>>=λd=>
          match d with
          | .inl f=>
            some f
          | .inr _=>none
        else
          some j
      | .inr _=>none
def eb_(oo o:Tg)(w a:World)(u:Value)(r:Yl):Ending->World->Prop:=λe w'=>∃(o':Tg),e=.returned (.tuple #[])∧Ow w.heap.size 3 13 o' w' u r∧Bs oo o' w w'∧Stp 13 o a o' w'
theorem iC_(fuel:Nat):∀(w:World)(U:World)(oo o:Tg)(hB:Bs oo o w U)(f4:List Value)(d:H_)(j8:Rp.rd o U f4 d)(S:Value)(c2:List Bool)(Q:RdL o U S c2)(E:Value)(a9:Yl)(g:RdL o U E a9)(Y:Value)(c1:Yl)(I:RdL o U Y c1)(B:Value)(f:Yl)(u:RdL o U B f)(F:Value)(e2:Yl)(d4:Ow w.heap.size 3 13 o U F e2)(r:Yl)(hF:ag_ fuel d c2 a9 c1 f e2=some r),Calls wQ_ 122 #[.agg f4.toArray,S,E,Y,B,F] U (eb_ oo o w U F r):=by
 induction fuel with
 |zero=>
  intro w U oo o hB f4 d j8 S c2 Q E a9 g Y c1 I B f u F e2 d4 r hF;unfold ag_ at hF;cases hF
 | succ fuel ih=>
  suffices H:∀(w:World)(U:World)(oo o:Tg)(hB:Bs oo o w U)(f4:List Value)(d:H_)(j8:Rp.rd o U f4 d)(S:Value)(c2:List Bool)(Q:RdL o U S c2)(E:Value)(a9:Yl)(g:RdL o U E a9)(Y:Value)(c1:Yl)(I:RdL o U Y c1)(B:Value)(f:Yl)(u:RdL o U B f)(F:Value)(e2:Yl)(d4:Oz w 3 13 o U F e2)(r:Yl)(hF:ag_ (fuel+1) d c2 a9 c1 f e2=some r)(hO:∀b,b<U.heap.size->o b<14∨1000<=o b),Calls wQ_ 122 #[.agg f4.toArray,S,E,Y,B,F] U (eb_ oo o w U F r) by
   intro w U oo o hB f4 d j8 S c2 Q E a9 g Y c1 I B f u F e2 d4 r hF;have hm:=uc_ o U (lo:=14) (by decide);refine (H w U oo (prg 14 o) (hB.mvr hm (by decide)) f4 d (Rp.mvr j8 hm (by decide)) S c2 (Q.mvr hm (by decide)) E a9 (g.mvr hm (by decide)) Y c1 (I.mvr hm (by decide)) B f (u.mvr hm (by decide)) F e2 (d4.mvr hm (by decide) (by decide)) r hF λb _=>wy_ o b).mono ?_;rintro e w' ⟨o',h1,a1,h3,Z⟩;have hk:=su_ (w':=w') (lo:=14) (by decide) Z.own;exact⟨bck o U o',h1,a1.mvr hk (by decide) (by decide),h3.mvr hk (by decide),Z.bckS (by decide) (by decide)⟩
  intro w U oo o hB f4 d j8 S c2 Q E a9 g Y c1 I B f u F e2 d4 r hF hO;unfold ag_ at hF;obtain⟨c5,c6,c7,c8,c9,a0,rfl,a1,Z,a4,a5,x,y⟩:=j8;have hS:Stp 13 o U o U:=Stp.refl _ _ _;refine i_ (n:=114) (vs:=[.agg #[ZI d.p.Labels,ZI d.p.Degree,c5,c6,ZI d.q.Labels,ZI d.q.Degree,c7,c8,c9,a0],S,E,Y,B,F]) Tryz.func122 rfl rfl ?_;refine Zq (Zo ?_);refine as_ (o:=o) w.heap.size 30 hB.keeps.size (cs:=[ZI d.p.Labels,ZI d.p.Degree,c5,c6,ZI d.q.Labels,ZI d.q.Degree,c7,c8,c9,a0]) rfl rfl ?_;intro j9 w14 C D h8;obtain⟨Q,g,I,u,d4,a1,Z,a4,a5,x,y⟩:=ZS h8 (A8 Q g I u d4 a1 Z (A4 a4 a5 x y));replace hS:=hS.trW hO h8 (by decide) (by decide);replace hB:=hB.stp h8;refine Ze [(1,_),(2,_),(3,_),(4,_),(5,_),(6,_)] (Zn (Zm rfl (Zv (B_ rfl u wR_) (Za rfl (Ze [(1,_),(2,_),(3,_),(4,_),(5,_),(6,_),(12,_)] (nx (c_ (Zq (Zm rfl (Zm rfl (Zv (B_ rfl g wR_) (Zv (r_ rfl rfl) ?_))))))))))));refine Ze [(1,_),(2,_),(3,_),(4,_),(5,_),(6,_),(12,_),(24,_)] (nx ?_);refine l_ rfl (λh9=>?_) (λh9=>?_)
  ·rw[if_pos h9] at hF;refine c_ (Zq (Za rfl (Ze [(1,_),(2,_),(3,_),(4,_),(5,_),(6,_),(12,_),(13,_)] (nx ?_))));obtain⟨k0,k1,hF⟩:=a_ hF;refine v_ (λa V=>∃(b0:Yl),∃(J:Int),∃(T:Tg),k0=.inl (b0,J)∧Fr a 114 [(5,F)]∧Bs oo T w V∧Stp 13 o U T V∧Oz w 3 13 T V F b0) (λ_ _=>False) ?_ ?_ ?_
   ·refine f_ ?_;refine w_ (λ(K:Nat) a V=>∃(b0:Yl),∃(J:Int),∃(T:Tg),loopF (bj_ d c2 a9 c1 f (ag_ fuel)) K (b0,J)=some k0∧Fr a 114 [(1,S),(2,E),(3,Y),(4,B),(5,F),(6,ZP C),(12,ZI (f.length:Int)),(13,ZI J)]∧Bs oo T w V∧Stp 13 o U T V∧RdL T V S c2∧RdL T V E a9∧RdL T V Y c1∧RdL T V B f∧Oz w 3 13 T V F b0∧Bz w 30 T V C 90 [ZI d.p.Labels,ZI d.p.Degree,c5,c6,ZI d.q.Labels,ZI d.q.Degree,c7,c8,c9,a0]∧RdL T V c5 (d.p.Nodes:Yk)∧RdL T V c6 (d.p.Edges:Yk)∧RdL T V c7 (d.q.Nodes:Yk)∧RdL T V c8 (d.q.Edges:Yk)∧RdL T V c9 (d.nodes:List Bool)∧RdL T V a0 (d.edges:List Bool)) fuel (λa ha=>⟨e2,0,j9,k1,ha.sb,hB,hS,Q,g,I,u,d4,D,a1,Z,a4,a5,x,y⟩) ?_;rintro K28 a V ⟨b0,J,T,v5,ha,hB,hS,Q,g,I,u,M,D,a1,Z,a4,a5,x,y⟩;obtain⟨K32,q29,e33,W,i0⟩:=X_ v5;dsimp only[bj_] at W;refine J_ ha ?_;refine c_ (Zq (Zm rfl (Zv (m_ rfl xm_ rfl wU_) (Zv (m_ rfl wW_ rfl wS_) (Zv (e_ rfl wT_ (D.cell rfl)) (Zv (r_ rfl rfl) (Ze [(1,_),(2,_),(3,_),(4,_),(5,_),(6,_),(12,_),(13,_),(29,_)] (nx ?_))))))));refine l_ rfl (λi1=>?_) (λi1=>?_)
    ·rw[if_pos i1] at W;refine g_ (nx (c_ (f_ (c_ ?_))));obtain⟨v6,i,W⟩:=a_ W;refine v_ (λv7 b4=>∃b1:Tg,Fr v7 114 [(1,S),(2,E),(3,Y),(4,B),(5,F),(6,ZP C),(12,ZI (f.length:Int)),(13,ZI J),(65,.bool v6)]∧Bs oo b1 w b4∧Stp 13 o U b1 b4∧RdL b1 b4 S c2∧RdL b1 b4 E a9∧RdL b1 b4 Y c1∧RdL b1 b4 B f∧Oz w 3 13 b1 b4 F b0∧Bz w 30 b1 b4 C 90 [ZI d.p.Labels,ZI d.p.Degree,c5,c6,ZI d.q.Labels,ZI d.q.Degree,c7,c8,c9,a0]∧RdL b1 b4 c5 (d.p.Nodes:Yk)∧RdL b1 b4 c6 (d.p.Edges:Yk)∧RdL b1 b4 c7 (d.q.Nodes:Yk)∧RdL b1 b4 c8 (d.q.Edges:Yk)∧RdL b1 b4 c9 (d.nodes:List Bool)∧RdL b1 b4 a0 (d.edges:List Bool)) (λ_ _=>False) ?_ ?_ (λ_ _ h=>h.elim)
     ·obtain⟨d2,b9,i⟩:=a_ i;obtain⟨d3,c0,i⟩:=a_ i;obtain⟨b8,d5,i⟩:=a_ i;rcases Bool.eq_false_or_eq_true (b8) with L|L
      ·rw[if_pos L] at i;rcases Bool.eq_false_or_eq_true ((f.length:Int)==0) with A|A
       ·rw[if_pos A] at i;refine ZW (Bf:=λk m=>Bs oo k w m∧Stp 13 o U k m∧RdL k m S c2∧RdL k m E a9∧RdL k m Y c1∧RdL k m B f∧Oz w 3 13 k m F b0∧Bz w 30 k m C 90 [ZI d.p.Labels,ZI d.p.Degree,c5,c6,ZI d.q.Labels,ZI d.q.Degree,c7,c8,c9,a0]∧RdL k m c5 (d.p.Nodes:Yk)∧RdL k m c6 (d.p.Edges:Yk)∧RdL k m c7 (d.q.Nodes:Yk)∧RdL k m c8 (d.q.Edges:Yk)∧RdL k m c9 (d.nodes:List Bool)∧RdL k m a0 (d.edges:List Bool)) [(1,_),(2,_),(3,_),(4,_),(5,_),(6,_),(12,_),(13,_)] (Zrg 32 31) [[],[],[],[1,2],[3],[0,4],[5],[],[6,7],[8],[9],[9,10],[9,11],[12],[12],[12],[12],[12],[12],[12],[12],[12],[12],[9,12,22],[9,23],[24],[24],[24],[24],[24],[24]] (Zcn 31) (Zt9 31) (Zt0 31) [999] [.inl Y,.inl E,.inl (ZI (f.length:Int)),.inr (λv o a6=>∃vl,v=adr vl ((f.length:Int).toNat*Rp.sz Int)∧RdL o a6 vl a9),.inl (ZI d2),.inr (λv o a6=>∃vl,v=adr vl (d2.toNat*Rp.sz Int)∧RdL o a6 vl c1),.inl (ZI d3),.inl (ZI J),.inl (.bool b8),.inl (.bool b8),.inl (ZI (f.length:Int)),.inl (.bool ((f.length:Int)==0)),.inl (.bool ((f.length:Int)==0)),.inl undef,.inl undef,.inl undef,.inl undef,.inl undef,.inl undef,.inl undef,.inl undef,.inl undef,.inl undef,.inl (.bool true),.inl (.bool true),.inl undef,.inl undef,.inl undef,.inl undef,.inl undef,.inl undef] ⟨hB,hS,Q,g,I,u,M,D,a1,Z,a4,a5,x,y⟩ ⟨λ_ _ _ _ _ _ a7 hb ⟨vl,e,h⟩ hs=>⟨vl,e,h.stp hs a7.1⟩,λ_ _ _ _ _ _ a7 hb ⟨vl,e,h⟩ hs=>⟨vl,e,h.stp hs a7.1⟩,trivial⟩ ?_ ?_
        ·refine⟨Dp (h_ rfl),Dp (h_ rfl),Dp (h_ rfl),?_,?_,?_,?_,Dp (h_ rfl),?_,Dp (h_ rfl),Dp (h_ rfl) (⟨_,rfl,Zb L⟩),Dp (cD_ rfl rfl) (⟨_,rfl,Zb L⟩),Dp (h_ rfl) (⟨_,rfl,Zb L⟩),Dn rfl rfl rfl (by rw[A];rfl),Dn rfl rfl rfl (by rw[A];rfl),Dn rfl rfl rfl (by rw[A];rfl),Dn rfl rfl rfl (by rw[A];rfl),Dn rfl rfl rfl (by rw[A];rfl),Dn rfl rfl rfl (by rw[A];rfl),Dn rfl rfl rfl (by rw[A];rfl),Dn rfl rfl rfl (by rw[A];rfl),Dn rfl rfl rfl (by rw[A];rfl),Dn rfl rfl rfl (by rw[A];rfl),Dp (P_ (Zb A) rfl) (⟨_,rfl,Zb L⟩),Dp (h_ rfl) (⟨_,rfl,Zb L⟩),Dn rfl rfl rfl rfl,Dn rfl rfl rfl rfl,Dn rfl rfl rfl rfl,Dn rfl rfl rfl rfl,Dn rfl rfl rfl rfl,Dn rfl rfl rfl rfl,trivial⟩
         ·rintro o62 w63 a64 ha ⟨-,-,-,g,-⟩-;refine Zs ha ?_;refine ae_ g b9 rfl rfl wR_ wS_ ?_;exact⟨_,Stp.refl _ _ _,⟨_,rfl,g⟩⟩
         ·rintro o67 w68 a69 ha- ⟨v8,-⟩;obtain⟨v71,v9,w0⟩:=v8;have ha:=ha.c v9;refine Zs ha ?_;refine dr_ w0 b9 rfl rfl wT_ ?_;intro c74 w1;cases w1
          exact Zx rfl
         ·rintro o76 w77 a78 ha ⟨-,-,-,-,I,-⟩-;refine Zs ha ?_;refine ae_ I c0 rfl rfl wR_ wS_ ?_;exact⟨_,Stp.refl _ _ _,⟨_,rfl,I⟩⟩
         ·rintro o81 w82 a83 ha- ⟨w2,-⟩;obtain⟨v85,w3,w4⟩:=w2;have ha:=ha.c w3;refine Zs ha ?_;refine dr_ w4 c0 rfl rfl wT_ ?_;intro c88 w5;cases w5
          exact Zx rfl
         ·rintro w6 w7 a95 ha ⟨hB,hS,Q,g,I,u,M,D,a1,Z,a4,a5,x,y⟩-;refine Zs ha ?_;refine o_ (je_ w7 d3 J b8 d5) xF_ ⟨rfl,rfl,trivial⟩ ?_;rintro w9 w98 ⟨rfl,w8⟩;have f5:=w8.stp 999 w6;refine⟨_,rfl,?_⟩;obtain⟨Q,g,I,u⟩:=ZS f5 (A4 Q g I u);exact⟨_,f5,rfl⟩
        rintro _ rfl k2 x0 x1 ha ⟨hB,hS,Q,g,I,u,M,D,a1,Z,a4,a5,x,y⟩-;refine aH_ ha ?_;refine A_ rfl rfl rfl (by decide) ?_;refine q_ (P_ rfl rfl) (by decide) ⟨_,rfl,Zb L⟩ (Zv (P_ (Zb L) rfl) ?_);have k3:=Zj i;subst k3;refine Ze [(1,_),(2,_),(3,_),(4,_),(5,_),(6,_),(12,_),(13,_),(65,_)] ?_;refine p_ (λa ha=>⟨k2,ha,hB,hS,Q,g,I,u,M,D,a1,Z,a4,a5,x,y⟩)
       ·replace i:=ZF A i;obtain⟨d6,e3,i⟩:=a_ i;obtain⟨b5,d0,i⟩:=a_ i;obtain⟨b6,d1,i⟩:=a_ i;rcases Bool.eq_false_or_eq_true (b5 !=b6) with N|N
        ·rw[if_pos N] at i;refine ZW (Bf:=λk m=>Bs oo k w m∧Stp 13 o U k m∧RdL k m S c2∧RdL k m E a9∧RdL k m Y c1∧RdL k m B f∧Oz w 3 13 k m F b0∧Bz w 30 k m C 90 [ZI d.p.Labels,ZI d.p.Degree,c5,c6,ZI d.q.Labels,ZI d.q.Degree,c7,c8,c9,a0]∧RdL k m c5 (d.p.Nodes:Yk)∧RdL k m c6 (d.p.Edges:Yk)∧RdL k m c7 (d.q.Nodes:Yk)∧RdL k m c8 (d.q.Edges:Yk)∧RdL k m c9 (d.nodes:List Bool)∧RdL k m a0 (d.edges:List Bool)) [(1,_),(2,_),(3,_),(4,_),(5,_),(6,_),(12,_),(13,_)] (Zrg 32 31) [[],[],[],[1,2],[3],[0,4],[5],[],[6,7],[8],[9],[9,10],[9,11],[12],[12],[12,14],[12,13,15],[12,16],[12],[12],[12,18,19],[12,20],[12,17,21],[9,12,22],[9,23],[24],[24],[24],[24],[24],[24]] (Zcn 31) (Zt9 31) (Zt0 31) [999] [.inl Y,.inl E,.inl (ZI (f.length:Int)),.inr (λv o a6=>∃vl,v=adr vl ((f.length:Int).toNat*Rp.sz Int)∧RdL o a6 vl a9),.inl (ZI d2),.inr (λv o a6=>∃vl,v=adr vl (d2.toNat*Rp.sz Int)∧RdL o a6 vl c1),.inl (ZI d3),.inl (ZI J),.inl (.bool b8),.inl (.bool b8),.inl (ZI (f.length:Int)),.inl (.bool ((f.length:Int)==0)),.inl (.bool ((f.length:Int)==0)),.inl E,.inl (ZI (f.length:Int)),.inl (ZI d6),.inr (λv o a6=>∃vl,v=adr vl (d6.toNat*Rp.sz Int)∧RdL o a6 vl a9),.inl (ZI b5),.inl E,.inl (ZI (f.length:Int)),.inr (λv o a6=>∃vl,v=adr vl ((f.length:Int).toNat*Rp.sz Int)∧RdL o a6 vl a9),.inl (ZI b6),.inl (.bool (b5 !=b6)),.inl (.bool (b5 !=b6)),.inl (.bool (b5 !=b6)),.inl undef,.inl undef,.inl undef,.inl undef,.inl undef,.inl undef] ⟨hB,hS,Q,g,I,u,M,D,a1,Z,a4,a5,x,y⟩ ⟨λ_ _ _ _ _ _ a7 hb ⟨vl,e,h⟩ hs=>⟨vl,e,h.stp hs a7.1⟩,λ_ _ _ _ _ _ a7 hb ⟨vl,e,h⟩ hs=>⟨vl,e,h.stp hs a7.1⟩,λ_ _ _ _ _ _ a7 hb ⟨vl,e,h⟩ hs=>⟨vl,e,h.stp hs a7.1⟩,λ_ _ _ _ _ _ a7 hb ⟨vl,e,h⟩ hs=>⟨vl,e,h.stp hs a7.1⟩,trivial⟩ ?_ ?_
         ·refine⟨Dp (h_ rfl),Dp (h_ rfl),Dp (h_ rfl),?_,?_,?_,?_,Dp (h_ rfl),?_,Dp (h_ rfl),Dp (h_ rfl) (⟨_,rfl,Zb L⟩),Dp (cD_ rfl rfl) (⟨_,rfl,Zb L⟩),Dp (h_ rfl) (⟨_,rfl,Zb L⟩),Dp (h_ rfl) (⟨_,rfl,Zb A⟩),Dp (h_ rfl) (⟨_,rfl,Zb A⟩),Dp (bs_ rfl rfl e3) (⟨_,rfl,Zb A⟩),?_,?_,Dp (h_ rfl) (⟨_,rfl,Zb A⟩),Dp (h_ rfl) (⟨_,rfl,Zb A⟩),?_,?_,Dp (bR_ rfl rfl) (⟨_,rfl,Zb A⟩),Dp (I_ (Zb A) rfl) (⟨_,rfl,Zb L⟩),Dp (h_ rfl) (⟨_,rfl,Zb L⟩),Dn rfl rfl rfl (by rw[N];rfl),Dn rfl rfl rfl (by rw[N];rfl),Dn rfl rfl rfl (by rw[N];rfl),Dn rfl rfl rfl (by rw[N];rfl),Dn rfl rfl rfl (by rw[N];rfl),Dn rfl rfl rfl (by rw[N];rfl),trivial⟩
          ·rintro x2 x3 x4 ha ⟨-,-,-,g,-⟩-;refine Zs ha ?_;refine ae_ g b9 rfl rfl wR_ wS_ ?_;exact⟨_,Stp.refl _ _ _,⟨_,rfl,g⟩⟩
          ·rintro x5 x6 x7 ha- ⟨k4,-⟩;obtain⟨x8,k5,k6⟩:=k4;have ha:=ha.c k5;refine Zs ha ?_;refine dr_ k6 b9 rfl rfl wT_ ?_;intro x9 k7;cases k7
           exact Zx rfl
          ·rintro y0 y1 y2 ha ⟨-,-,-,-,I,-⟩-;refine Zs ha ?_;refine ae_ I c0 rfl rfl wR_ wS_ ?_;exact⟨_,Stp.refl _ _ _,⟨_,rfl,I⟩⟩
          ·rintro y3 y4 y5 ha- ⟨k8,-⟩;obtain⟨y6,k9,l0⟩:=k8;have ha:=ha.c k9;refine Zs ha ?_;refine dr_ l0 c0 rfl rfl wT_ ?_;intro y7 l1;cases l1
           exact Zx rfl
          ·rintro l2 l3 y8 ha ⟨hB,hS,Q,g,I,u,M,D,a1,Z,a4,a5,x,y⟩-;refine Zs ha ?_;refine o_ (je_ l3 d3 J b8 d5) xF_ ⟨rfl,rfl,trivial⟩ ?_;rintro y9 z0 ⟨rfl,l4⟩;have f6:=l4.stp 999 l2;refine⟨_,rfl,?_⟩;obtain⟨Q,g,I,u⟩:=ZS f6 (A4 Q g I u);exact⟨_,f6,rfl⟩
          ·rintro z1 z2 z3 ha ⟨-,-,-,g,-⟩-;refine ds_ ha (⟨_,rfl,Zb A⟩) ?_;refine ae_ g d0 rfl rfl wR_ wS_ ?_;exact⟨_,Stp.refl _ _ _,⟨_,rfl,g⟩⟩
          ·rintro z4 z5 z6 ha- ⟨l5,-⟩;obtain⟨z7,l6,l7⟩:=l5;have ha:=ha.c l6;refine ds_ ha (⟨_,rfl,Zb A⟩) ?_;refine dr_ l7 d0 rfl rfl wT_ ?_;intro z8 l8;cases l8
           exact Zx rfl
          ·rintro z9 w318 a319 ha ⟨-,-,-,g,-⟩-;refine ds_ ha (⟨_,rfl,Zb A⟩) ?_;refine ae_ g d1 rfl rfl wR_ wS_ ?_;exact⟨_,Stp.refl _ _ _,⟨_,rfl,g⟩⟩
          ·rintro o323 w324 a325 ha- ⟨l9,-⟩;obtain⟨v328,m0,m1⟩:=l9;have ha:=ha.c m0;refine ds_ ha (⟨_,rfl,Zb A⟩) ?_;refine dr_ m1 d1 rfl rfl wT_ ?_;intro c331 m2;cases m2
           exact Zx rfl
         rintro _ rfl m3 w375 a376 ha ⟨hB,hS,Q,g,I,u,M,D,a1,Z,a4,a5,x,y⟩-;refine aH_ ha ?_;refine A_ rfl rfl (by rw[N];rfl) (by decide) ?_;refine q_ (P_ (Zb N) rfl) (by decide) ⟨_,rfl,Zb L⟩ (Zv (P_ (Zb L) rfl) ?_);have m4:=Zj i;subst m4;refine Ze [(1,_),(2,_),(3,_),(4,_),(5,_),(6,_),(12,_),(13,_),(65,_)] ?_;refine p_ (λa ha=>⟨m3,ha,hB,hS,Q,g,I,u,M,D,a1,Z,a4,a5,x,y⟩)
        ·replace i:=ZF N i;obtain⟨f7,i2,i⟩:=a_ i;obtain⟨f8,e4,i⟩:=a_ i;refine ZW (Bf:=λk m=>Bs oo k w m∧Stp 13 o U k m∧RdL k m S c2∧RdL k m E a9∧RdL k m Y c1∧RdL k m B f∧Oz w 3 13 k m F b0∧Bz w 30 k m C 90 [ZI d.p.Labels,ZI d.p.Degree,c5,c6,ZI d.q.Labels,ZI d.q.Degree,c7,c8,c9,a0]∧RdL k m c5 (d.p.Nodes:Yk)∧RdL k m c6 (d.p.Edges:Yk)∧RdL k m c7 (d.q.Nodes:Yk)∧RdL k m c8 (d.q.Edges:Yk)∧RdL k m c9 (d.nodes:List Bool)∧RdL k m a0 (d.edges:List Bool)) [(1,_),(2,_),(3,_),(4,_),(5,_),(6,_),(12,_),(13,_)] (Zrg 32 31) [[],[],[],[1,2],[3],[0,4],[5],[],[6,7],[8],[9],[9,10],[9,11],[12],[12],[12,14],[12,13,15],[12,16],[12],[12],[12,18,19],[12,20],[12,17,21],[9,12,22],[9,23],[24],[24],[24,26],[24,25,27],[24,28],[24]] (Zcn 31) (Zt9 31) (Zt0 31) [999] [.inl Y,.inl E,.inl (ZI (f.length:Int)),.inr (λv o a6=>∃vl,v=adr vl ((f.length:Int).toNat*Rp.sz Int)∧RdL o a6 vl a9),.inl (ZI d2),.inr (λv o a6=>∃vl,v=adr vl (d2.toNat*Rp.sz Int)∧RdL o a6 vl c1),.inl (ZI d3),.inl (ZI J),.inl (.bool b8),.inl (.bool b8),.inl (ZI (f.length:Int)),.inl (.bool ((f.length:Int)==0)),.inl (.bool ((f.length:Int)==0)),.inl E,.inl (ZI (f.length:Int)),.inl (ZI d6),.inr (λv o a6=>∃vl,v=adr vl (d6.toNat*Rp.sz Int)∧RdL o a6 vl a9),.inl (ZI b5),.inl E,.inl (ZI (f.length:Int)),.inr (λv o a6=>∃vl,v=adr vl ((f.length:Int).toNat*Rp.sz Int)∧RdL o a6 vl a9),.inl (ZI b6),.inl (.bool (b5 !=b6)),.inl (.bool (b5 !=b6)),.inl (.bool (b5 !=b6)),.inl B,.inl (ZI (f.length:Int)),.inl (ZI f7),.inr (λv o a6=>∃vl,v=adr vl (f7.toNat*Rp.sz Int)∧RdL o a6 vl f),.inl (ZI f8),.inl (ZI J)] ⟨hB,hS,Q,g,I,u,M,D,a1,Z,a4,a5,x,y⟩ ⟨λ_ _ _ _ _ _ a7 hb ⟨vl,e,h⟩ hs=>⟨vl,e,h.stp hs a7.1⟩,λ_ _ _ _ _ _ a7 hb ⟨vl,e,h⟩ hs=>⟨vl,e,h.stp hs a7.1⟩,λ_ _ _ _ _ _ a7 hb ⟨vl,e,h⟩ hs=>⟨vl,e,h.stp hs a7.1⟩,λ_ _ _ _ _ _ a7 hb ⟨vl,e,h⟩ hs=>⟨vl,e,h.stp hs a7.1⟩,λ_ _ _ _ _ _ a7 hb ⟨vl,e,h⟩ hs=>⟨vl,e,h.stp hs a7.1⟩,trivial⟩ ?_ ?_
         ·refine⟨Dp (h_ rfl),Dp (h_ rfl),Dp (h_ rfl),?_,?_,?_,?_,Dp (h_ rfl),?_,Dp (h_ rfl),Dp (h_ rfl) (⟨_,rfl,Zb L⟩),Dp (cD_ rfl rfl) (⟨_,rfl,Zb L⟩),Dp (h_ rfl) (⟨_,rfl,Zb L⟩),Dp (h_ rfl) (⟨_,rfl,Zb A⟩),Dp (h_ rfl) (⟨_,rfl,Zb A⟩),Dp (bs_ rfl rfl e3) (⟨_,rfl,Zb A⟩),?_,?_,Dp (h_ rfl) (⟨_,rfl,Zb A⟩),Dp (h_ rfl) (⟨_,rfl,Zb A⟩),?_,?_,Dp (bR_ rfl rfl) (⟨_,rfl,Zb A⟩),Dp (I_ (Zb A) rfl) (⟨_,rfl,Zb L⟩),Dp (h_ rfl) (⟨_,rfl,Zb L⟩),Dp (h_ rfl) (⟨_,rfl,Zb N⟩),Dp (h_ rfl) (⟨_,rfl,Zb N⟩),Dp (bs_ rfl rfl i2) (⟨_,rfl,Zb N⟩),?_,?_,Dp (h_ rfl) (⟨_,rfl,Zb N⟩),trivial⟩
          ·rintro o395 w396 a397 ha ⟨-,-,-,g,-⟩-;refine Zs ha ?_;refine ae_ g b9 rfl rfl wR_ wS_ ?_;exact⟨_,Stp.refl _ _ _,⟨_,rfl,g⟩⟩
          ·rintro o400 w401 a402 ha- ⟨m5,-⟩;obtain⟨v404,m6,m7⟩:=m5;have ha:=ha.c m6;refine Zs ha ?_;refine dr_ m7 b9 rfl rfl wT_ ?_;intro c407 m8;cases m8
           exact Zx rfl
          ·rintro o409 w410 a411 ha ⟨-,-,-,-,I,-⟩-;refine Zs ha ?_;refine ae_ I c0 rfl rfl wR_ wS_ ?_;exact⟨_,Stp.refl _ _ _,⟨_,rfl,I⟩⟩
          ·rintro o414 w415 a416 ha- ⟨m9,-⟩;obtain⟨v418,n0,n1⟩:=m9;have ha:=ha.c n0;refine Zs ha ?_;refine dr_ n1 c0 rfl rfl wT_ ?_;intro c421 n2;cases n2
           exact Zx rfl
          ·rintro n3 n4 a428 ha ⟨hB,hS,Q,g,I,u,M,D,a1,Z,a4,a5,x,y⟩-;refine Zs ha ?_;refine o_ (je_ n4 d3 J b8 d5) xF_ ⟨rfl,rfl,trivial⟩ ?_;rintro e435 w431 ⟨rfl,n5⟩;have f9:=n5.stp 999 n3;refine⟨_,rfl,?_⟩;obtain⟨Q,g,I,u⟩:=ZS f9 (A4 Q g I u);exact⟨_,f9,rfl⟩
          ·rintro o467 w468 a469 ha ⟨-,-,-,g,-⟩-;refine ds_ ha (⟨_,rfl,Zb A⟩) ?_;refine ae_ g d0 rfl rfl wR_ wS_ ?_;exact⟨_,Stp.refl _ _ _,⟨_,rfl,g⟩⟩
          ·rintro o473 w474 a475 ha- ⟨n6,-⟩;obtain⟨v478,n7,n8⟩:=n6;have ha:=ha.c n7;refine ds_ ha (⟨_,rfl,Zb A⟩) ?_;refine dr_ n8 d0 rfl rfl wT_ ?_;intro c481 n9;cases n9
           exact Zx rfl
          ·rintro o491 w492 a493 ha ⟨-,-,-,g,-⟩-;refine ds_ ha (⟨_,rfl,Zb A⟩) ?_;refine ae_ g d1 rfl rfl wR_ wS_ ?_;exact⟨_,Stp.refl _ _ _,⟨_,rfl,g⟩⟩
          ·rintro o497 w498 a499 ha- ⟨o0,-⟩;obtain⟨v502,o1,o2⟩:=o0;have ha:=ha.c o1;refine ds_ ha (⟨_,rfl,Zb A⟩) ?_;refine dr_ o2 d1 rfl rfl wT_ ?_;intro c505 o3;cases o3
           exact Zx rfl
          ·rintro o537 w538 a539 ha ⟨-,-,-,-,-,u,-⟩-;refine ds_ ha (⟨_,rfl,Zb N⟩) ?_;refine ae_ u e4 rfl rfl wR_ wS_ ?_;exact⟨_,Stp.refl _ _ _,⟨_,rfl,u⟩⟩
          ·rintro o543 w544 a545 ha- ⟨o4,-⟩;obtain⟨v548,o5,o6⟩:=o4;have ha:=ha.c o5;refine ds_ ha (⟨_,rfl,Zb N⟩) ?_;refine dr_ o6 e4 rfl rfl wT_ ?_;intro c551 o7;cases o7
           exact Zx rfl
         rintro _ rfl o8 w558 a559 ha ⟨hB,hS,Q,g,I,u,M,D,a1,Z,a4,a5,x,y⟩-;refine aH_ ha ?_;refine q_ (cD_ rfl rfl) (by decide) ⟨_,rfl,Zb N⟩ (q_ (I_ (Zb N) rfl) (by decide) ⟨_,rfl,Zb L⟩ (Zv (P_ (Zb L) rfl) ?_));have o9:=Zj i;subst o9;refine Ze [(1,_),(2,_),(3,_),(4,_),(5,_),(6,_),(12,_),(13,_),(65,_)] ?_;refine p_ (λa ha=>⟨o8,ha,hB,hS,Q,g,I,u,M,D,a1,Z,a4,a5,x,y⟩)
      ·replace i:=ZF L i;refine ZW (Bf:=λk m=>Bs oo k w m∧Stp 13 o U k m∧RdL k m S c2∧RdL k m E a9∧RdL k m Y c1∧RdL k m B f∧Oz w 3 13 k m F b0∧Bz w 30 k m C 90 [ZI d.p.Labels,ZI d.p.Degree,c5,c6,ZI d.q.Labels,ZI d.q.Degree,c7,c8,c9,a0]∧RdL k m c5 (d.p.Nodes:Yk)∧RdL k m c6 (d.p.Edges:Yk)∧RdL k m c7 (d.q.Nodes:Yk)∧RdL k m c8 (d.q.Edges:Yk)∧RdL k m c9 (d.nodes:List Bool)∧RdL k m a0 (d.edges:List Bool)) [(1,_),(2,_),(3,_),(4,_),(5,_),(6,_),(12,_),(13,_)] (Zrg 32 31) [[],[],[],[1,2],[3],[0,4],[5],[],[6,7],[8],[9],[9],[9],[12],[12],[12],[12],[12],[12],[12],[12],[12],[12],[9],[9],[24],[24],[24],[24],[24],[24]] (Zcn 31) (Zt9 31) (Zt0 31) [999] [.inl Y,.inl E,.inl (ZI (f.length:Int)),.inr (λv o a6=>∃vl,v=adr vl ((f.length:Int).toNat*Rp.sz Int)∧RdL o a6 vl a9),.inl (ZI d2),.inr (λv o a6=>∃vl,v=adr vl (d2.toNat*Rp.sz Int)∧RdL o a6 vl c1),.inl (ZI d3),.inl (ZI J),.inl (.bool b8),.inl (.bool b8),.inl undef,.inl undef,.inl undef,.inl undef,.inl undef,.inl undef,.inl undef,.inl undef,.inl undef,.inl undef,.inl undef,.inl undef,.inl undef,.inl undef,.inl undef,.inl undef,.inl undef,.inl undef,.inl undef,.inl undef,.inl undef] ⟨hB,hS,Q,g,I,u,M,D,a1,Z,a4,a5,x,y⟩ ⟨λ_ _ _ _ _ _ a7 hb ⟨vl,e,h⟩ hs=>⟨vl,e,h.stp hs a7.1⟩,λ_ _ _ _ _ _ a7 hb ⟨vl,e,h⟩ hs=>⟨vl,e,h.stp hs a7.1⟩,trivial⟩ ?_ ?_
       ·refine⟨Dp (h_ rfl),Dp (h_ rfl),Dp (h_ rfl),?_,?_,?_,?_,Dp (h_ rfl),?_,Dp (h_ rfl),Dn rfl rfl rfl (by rw[L];rfl),Dn rfl rfl rfl (by rw[L];rfl),Dn rfl rfl rfl (by rw[L];rfl),Dm rfl rfl rfl,Dm rfl rfl rfl,Dm rfl rfl rfl,Dm rfl rfl rfl,Dm rfl rfl rfl,Dm rfl rfl rfl,Dm rfl rfl rfl,Dm rfl rfl rfl,Dm rfl rfl rfl,Dm rfl rfl rfl,Dn rfl rfl rfl (by rw[L];rfl),Dn rfl rfl rfl (by rw[L];rfl),Dm rfl rfl rfl,Dm rfl rfl rfl,Dm rfl rfl rfl,Dm rfl rfl rfl,Dm rfl rfl rfl,Dm rfl rfl rfl,trivial⟩
        ·rintro o574 w575 a576 ha ⟨-,-,-,g,-⟩-;refine Zs ha ?_;refine ae_ g b9 rfl rfl wR_ wS_ ?_;exact⟨_,Stp.refl _ _ _,⟨_,rfl,g⟩⟩
        ·rintro o579 w580 a581 ha- ⟨p0,-⟩;obtain⟨v583,p1,p2⟩:=p0;have ha:=ha.c p1;refine Zs ha ?_;refine dr_ p2 b9 rfl rfl wT_ ?_;intro c586 p3;cases p3
         exact Zx rfl
        ·rintro o588 w589 a590 ha ⟨-,-,-,-,I,-⟩-;refine Zs ha ?_;refine ae_ I c0 rfl rfl wR_ wS_ ?_;exact⟨_,Stp.refl _ _ _,⟨_,rfl,I⟩⟩
        ·rintro o593 w594 a595 ha- ⟨p4,-⟩;obtain⟨v597,p5,p6⟩:=p4;have ha:=ha.c p5;refine Zs ha ?_;refine dr_ p6 c0 rfl rfl wT_ ?_;intro c600 p7;cases p7
         exact Zx rfl
        ·rintro p8 p9 a607 ha ⟨hB,hS,Q,g,I,u,M,D,a1,Z,a4,a5,x,y⟩-;refine Zs ha ?_;refine o_ (je_ p9 d3 J b8 d5) xF_ ⟨rfl,rfl,trivial⟩ ?_;rintro e614 w610 ⟨rfl,q0⟩;have g0:=q0.stp 999 p8;refine⟨_,rfl,?_⟩;obtain⟨Q,g,I,u⟩:=ZS g0 (A4 Q g I u);exact⟨_,g0,rfl⟩
       rintro _ rfl q1 w704 a705 ha ⟨hB,hS,Q,g,I,u,M,D,a1,Z,a4,a5,x,y⟩-;refine aH_ ha ?_;refine aq_ rfl rfl (by decide) ?_;refine A_ rfl rfl (by rw[L];rfl) (by decide) ?_;refine Zv (I_ (Zb L) rfl) ?_;have q2:=Zj i;subst q2;refine Ze [(1,_),(2,_),(3,_),(4,_),(5,_),(6,_),(12,_),(13,_),(65,_)] ?_;refine p_ (λa ha=>⟨q1,ha,hB,hS,Q,g,I,u,M,D,a1,Z,a4,a5,x,y⟩)
     rintro a711 b4 ⟨b1,ha,hB,hS,Q,g,I,u,M,D,a1,Z,a4,a5,x,y⟩;refine ap_k ha ?_;refine nx ?_;refine l_ rfl (λe5=>?_) (λe5=>?_)
     ·rw[if_pos e5] at W;obtain⟨e6,i3,W⟩:=a_ W;obtain⟨e7,i4,W⟩:=a_ W;refine ZW (Bf:=λk m=>Bs oo k w m∧Stp 13 o U k m∧RdL k m S c2∧RdL k m E a9∧RdL k m Y c1∧RdL k m B f∧Oz w 3 13 k m F b0∧Bz w 30 k m C 90 [ZI d.p.Labels,ZI d.p.Degree,c5,c6,ZI d.q.Labels,ZI d.q.Degree,c7,c8,c9,a0]∧RdL k m c5 (d.p.Nodes:Yk)∧RdL k m c6 (d.p.Edges:Yk)∧RdL k m c7 (d.q.Nodes:Yk)∧RdL k m c8 (d.q.Edges:Yk)∧RdL k m c9 (d.nodes:List Bool)∧RdL k m a0 (d.edges:List Bool)) [(1,_),(2,_),(3,_),(4,_),(5,_),(6,_),(12,_),(13,_)] (Zrg 66 10) [[],[],[],[],[],[4],[],[6],[5,7],[]] [none,none,none,none,none,some 8,none,none,none,none] [999,999,999,999,999,999,999,999,36,999] [0,0,0,0,0,36,0,0,36,0] [36,999] [.inl (.agg #[ZI d.p.Labels,ZI d.p.Degree,c5,c6,ZI d.q.Labels,ZI d.q.Degree,c7,c8,c9,a0]),.inl S,.inl E,.inl Y,.inl B,.inr (λv o a6=>Oz w 3 36 o a6 v e6),.inl (ZI J),.inr (λv o a6=>RdL o a6 v (([J]:Yl):Yl)),.inr (λv o a6=>Oz w 3 36 o a6 v e7),.inl F] ⟨hB,hS,Q,g,I,u,M,D,a1,Z,a4,a5,x,y⟩ ⟨λ_ _ _ _ _ _ a7 hb h hs=>h.stp hs a7.1 (Ne.symm hb),λ_ _ _ _ _ _ a7 hb h hs=>h.stp hs a7.1,λ_ _ _ _ _ _ a7 hb h hs=>h.stp hs a7.1 (Ne.symm hb),trivial⟩ ?_ ?_
      ·refine⟨Dq λh=>E_ rfl Tryz.isAgg90 Tryz.sizeOf90 rfl h.2.2.2.2.2.2.2.1.cells,Dp (h_ rfl),Dp (h_ rfl),Dp (h_ rfl),Dp (h_ rfl),?_,Dp (h_ rfl),?_,?_,Dp (h_ rfl),trivial⟩
       ·rintro q3 q4 a751 ha ⟨hB,hS,Q,g,I,u,M,D,a1,Z,a4,a5,x,y⟩-;refine Zs ha ?_;refine o_ (eB_ q4 q3 36 (by decide) _ f u.z e6 i3) Tryz.call66 ⟨rfl,trivial⟩ ?_;rintro e759 w753 ⟨v754,o760,rfl,e8,q5,q6⟩;have g1:=q5.stp' 999 q6;replace e8:=e8.mono hB.keeps.size;refine⟨_,rfl,?_⟩;obtain⟨Q,g,I,u⟩:=ZS g1 (A4 Q g I u);exact⟨_,g1,e8⟩
       ·rintro q7 w765 a766 ha ⟨hB,hS,Q,g,I,u,M,D,a1,Z,a4,a5,x,y⟩-;refine Zs ha ?_;refine au_ (o:=q7) (cs:=[ZI J]) (xs:=([J]:Yl)) (vs:=[(0,ZI J)]) ⟨_,_,rfl,rfl,rfl⟩ rfl ⟨rfl,rfl,trivial⟩ wR_ wS_ Tryz.zeroValue3 (by decide) (fill1 rfl) (by simp) ?_;intro o768 w769 v770 q8 g2 k773;obtain⟨Q,g,I,u⟩:=ZS g2 (A4 Q g I u);exact⟨_,g2,q8⟩
       ·rintro g3 g4 d7 ha ⟨hB,hS,Q,g,I,u,M,D,a1,Z,a4,a5,x,y⟩ ⟨d8,c3,-⟩;replace d8:Oz w 3 36 g3 g4 (d7.tmps.getD 71 undef) e6:=d8;generalize q9:d7.tmps.getD 71 undef=v779 at d8;have ha:=ha.c q9;replace c3:RdL g3 g4 (d7.tmps.getD 73 undef) (([J]:Yl):Yl):=c3;generalize r0:d7.tmps.getD 73 undef=v781 at c3;have ha:=ha.c r0;refine Zs ha ?_;refine aT_ d8 c3 (ai_ i4) (by decide) hB.keeps.size rfl rfl wR_ lQ_ rfl (by decide) ?_;intro o783 w784 v785 r1 g5;obtain⟨Q,g,I,u,c3⟩:=ZS g5 (A5 Q g I u c3);exact⟨_,g5,r1⟩
      rintro _ rfl g6 g7 g8 ha ⟨hB,hS,Q,g,I,u,M,D,a1,Z,a4,a5,x,y⟩ ⟨-,b7,-⟩;replace b7:Oz w 3 36 g6 g7 (g8.tmps.getD 74 undef) e7:=b7;generalize r2:g8.tmps.getD 74 undef=v800 at b7;have ha:=ha.c r2;refine aH_ ha ?_;replace hS:=hS.frzW hO 36 (by decide) (by decide);replace Q:=Q.frz 36;replace g:=g.frz 36;replace I:=I.frz 36;replace u:=u.frz 36;replace M:=M.frz_ne (j:=36) (by decide);replace a1:=a1.frz 36;replace Z:=Z.frz 36;replace a4:=a4.frz 36;replace a5:=a5.frz 36;replace x:=x.frz 36;replace y:=y.frz 36;have h802:=b7.frzF;replace b7:=b7.frz;replace D:=D.frz_ne (j:=36) (by decide);replace hB:=hB.frz 36 (by decide);generalize (frz 36 g6)=r3 at*;obtain⟨g9,i5,W⟩:=a_ W;refine Zo ?_;refine o_ (ih w g7 oo r3 hB _ d ⟨_,_,_,_,_,_,rfl,a1,Z,a4,a5,x,y⟩ _ c2 Q _ a9 g _ c1 I _ e7 b7 _ b0 M g9 i5) Tryz.call122 ⟨rfl,rfl,rfl,rfl,rfl,rfl,trivial⟩ ?_;rintro e807 w805 ⟨r4,rfl,r5,-,h0⟩;refine⟨_,rfl,?_⟩;replace hS:=hS.trans h0;obtain⟨Q,g,I,u,a1,Z,a4,a5,x,y,b7,D,hB⟩:=ZS h0 (A8 Q g I u a1 Z a4 (A6 a5 x y b7 D hB));refine Ze [(1,_),(2,_),(3,_),(4,_),(5,_),(6,_),(12,_),(13,_)] (x_ (nx (d_ (Zm rfl ?_))));obtain⟨e9,i6,W⟩:=a_ W;refine Zv (C_ rfl rfl i6) (Za rfl (Ze [(1,_),(2,_),(3,_),(4,_),(5,_),(6,_),(12,_),(13,_)] (u_ ?_)));have r6:=Zj W;subst r6;refine Zk [(1,_),(2,_),(3,_),(4,_),(5,_),(6,_),(12,_),(13,_)] ?_;intro a ha;exact⟨K32,by omega,g9,e9,r4,i0,ha,hB,hS,Q,g,I,u,r5,D,a1,Z,a4,a5,x,y⟩
     ·replace W:=ZF e5 W;refine g_ (x_ (nx (d_ (Zm rfl ?_))));obtain⟨f0,i7,W⟩:=a_ W;refine Zv (C_ rfl rfl i7) (Za rfl (Ze [(1,_),(2,_),(3,_),(4,_),(5,_),(6,_),(12,_),(13,_)] (u_ ?_)));have r7:=Zj W;subst r7;refine Zk [(1,_),(2,_),(3,_),(4,_),(5,_),(6,_),(12,_),(13,_)] ?_;intro a ha;exact⟨K32,by omega,b0,f0,b1,i0,ha,hB,hS,Q,g,I,u,M,D,a1,Z,a4,a5,x,y⟩
    ·replace W:=ZF i1 W;refine s_ ?_;refine n_ (n_ (N_ ?_));refine p_ ?_;have r8:=Zj W;subst r8;refine Zk [(5,_)] ?_;intro a ha;exact⟨b0,J,T,i0,ha,hB,hS,M⟩
   ·rintro a V ⟨b0,J,T,rfl,ha,hB,hS,M⟩;dsimp only at hF;refine ap_k ha ?_;refine nx (j_ (y_ ?_));have r9:=Zj hF;subst r9;refine D_ (P:=wQ_) (vs:=[]) yh_ trivial ?_;exact⟨T,rfl,M,hB,hS⟩
   ·exact λ_ _ h=>h.elim
  ·replace hF:=ZF h9 hF;refine g_ (Zn (Za rfl (Ze [(1,_),(2,_),(4,_),(5,_),(6,_),(14,_)] (nx (c_ (Zq (Zm rfl (Zv (B_ rfl u wR_) (Zm rfl (Ze [(1,_),(2,_),(4,_),(5,_),(6,_),(14,_),(77,_),(78,_),(79,_)] (nx ?_)))))))))));obtain⟨q820,i8,hF⟩:=a_ hF;refine v_ (λa G=>∃(a2:Int),∃(s:Tg),q820=.inl a2∧Fr a 114 [(1,S),(2,E),(4,B),(5,F),(14,ZI a2)]∧Bs oo s w G∧Stp 13 o U s G∧RdL s G S c2∧RdL s G E a9∧RdL s G B f∧Oz w 3 13 s G F e2) (λ_ _=>False) ?_ ?_ ?_
   ·refine f_ ?_;refine w_ (λ(K:Nat) a G=>∃(R:Int)(a2:Int),∃(s:Tg),forI (bh_ d) (f.drop R.toNat) R a2=some q820∧(f.drop R.toNat).length=K∧0<=R∧Fr a 114 [(1,S),(2,E),(4,B),(5,F),(6,ZP C),(14,ZI a2),(77,B),(78,ZI (f.length:Int)),(79,ZI R)]∧Bs oo s w G∧Stp 13 o U s G∧RdL s G S c2∧RdL s G E a9∧RdL s G B f∧Oz w 3 13 s G F e2∧Bz w 30 s G C 90 [ZI d.p.Labels,ZI d.p.Degree,c5,c6,ZI d.q.Labels,ZI d.q.Degree,c7,c8,c9,a0]∧RdL s G c5 (d.p.Nodes:Yk)∧RdL s G c6 (d.p.Edges:Yk)∧RdL s G c7 (d.q.Nodes:Yk)∧RdL s G c8 (d.q.Edges:Yk)∧RdL s G c9 (d.nodes:List Bool)∧RdL s G a0 (d.edges:List Bool)) _ (λa ha=>⟨0,0,j9,i8,rfl,Int.le_refl 0,ha.sb,hB,hS,Q,g,u,d4,D,a1,Z,a4,a5,x,y⟩) ?_;rintro K824 a G ⟨R,a2,s,h2,s0,s1,ha,hB,hS,Q,g,u,d4,D,a1,Z,a4,a5,x,y⟩;by_cases d9:R<(f.length:Int)
    ·obtain⟨s2,q825,i9,c4,s3⟩:=R_ s1 d9 h2;have hle:=u.len_le;dsimp only[bh_] at c4;refine J_ ha ?_;refine Zq (Zv (r_ rfl rfl) (Ze [(1,_),(2,_),(4,_),(5,_),(6,_),(14,_),(77,_),(78,_),(79,_),(80,_)] (nx (c_ ?_))));refine L_ (Zb (decide_eq_true d9)) ?_;refine g_ (nx (c_ (f_ (Zq (Zo ?_)))));refine fo_ u i9 rfl rfl wR_ wS_ ?_;intro b830 f831 c832 s4 s5;cases s5
     refine Zv (e_ rfl wT_ (k_ s4)) (Za rfl (Ze [(1,_),(2,_),(4,_),(5,_),(6,_),(14,_),(16,_),(77,_),(78,_),(79,_)] (nx (d_ (Zm rfl (Zv (m_ rfl xm_ rfl wU_) (Zv (m_ rfl wW_ rfl wS_) (Zv (e_ rfl wT_ (D.cell rfl)) ?_))))))));obtain⟨x835,j0,c4⟩:=a_ c4;refine Zv (kb_ rfl rfl j0) (Zm rfl ?_);obtain⟨e0,j1,c4⟩:=a_ c4;refine Zv (C_ rfl rfl j1) (Za rfl (Ze [(1,S),(2,E),(4,B),(5,F),(6,ZP C),(14,ZI e0),(77,B),(78,ZI (f.length:Int)),(79,ZI R)] (x_ (nx (d_ (Zv (C_ rfl rfl (F_ (by omega) (by omega))) (Zm rfl (Ze [(1,_),(2,_),(4,_),(5,_),(6,_),(14,_),(77,_),(78,_),(79,_)] (u_ ?_)))))))));have s6:=Zj c4;subst s6;refine Zk [(1,_),(2,_),(4,_),(5,_),(6,_),(14,_),(77,_),(78,_),(79,_)] ?_;intro a ha;exact⟨_,(by rw[<-s0];simp only[List.length_drop];omega),R+1,e0,s,s3,rfl,by omega,ha,hB,hS,Q,g,u,d4,D,a1,Z,a4,a5,x,y⟩
    ·have s7:=S_ d9 h2;refine J_ ha ?_;refine Zq (Zv (r_ rfl rfl) (Ze [(1,_),(2,_),(4,_),(5,_),(6,_),(14,_),(77,_),(78,_),(79,_),(80,_)] (nx (c_ ?_))));refine G_ (Zb (decide_eq_false d9)) ?_;refine s_ ?_;refine n_ (n_ (N_ ?_));refine p_ ?_;refine Zk [(1,_),(2,_),(4,_),(5,_),(14,_)] ?_;intro a ha;exact⟨a2,s,s7,ha,hB,hS,Q,g,u,d4⟩
   ·rintro a G ⟨a2,s,rfl,ha,hB,hS,Q,g,u,d4⟩;dsimp only at hF;refine ap_k ha ?_;refine Zn (Zm rfl (Zm rfl ?_));obtain⟨s8,j2,hF⟩:=a_ hF;refine Zo ?_;refine fo_ Q j2 rfl rfl Tryz.underlying87 Tryz.sizeOf4 ?_;intro b840 f841 c842 s9 t0;cases t0
    refine Zv (e_ rfl Tryz.isAgg4 (k_ s9)) (Ze [(2,_),(4,_),(5,_),(94,_)] (nx ?_));refine l_ rfl (λf1=>?_) (λf1=>?_)
    ·rw[if_pos f1] at hF;refine Zq (Zm rfl (Zv (B_ rfl u wR_) (Zm rfl (Ze [(2,_),(5,_),(95,_),(96,_),(97,_)] (nx ?_)))));obtain⟨q851,j3,hF⟩:=a_ hF;refine v_ (λa a8=>∃b2 X,q851=.inl b2∧Fr a 114 [(5,F)]∧Bs oo X w a8∧Stp 13 o U X a8∧Oz w 3 13 X a8 F b2) (λ_ _=>False) ?_ ?_ ?_
     ·refine f_ ?_;refine w_ (λ(K:Nat) a a8=>∃(O:Int),∃b2 X,forI (bi_ a9) (f.drop O.toNat) O b2=some q851∧(f.drop O.toNat).length=K∧0<=O∧Fr a 114 [(2,E),(5,F),(95,B),(96,ZI (f.length:Int)),(97,ZI O)]∧Bs oo X w a8∧Stp 13 o U X a8∧RdL X a8 E a9∧Oz w 3 13 X a8 F b2∧RdL X a8 B f) _ (λa ha=>⟨0,e2,s,j3,rfl,Int.le_refl 0,ha.sb,hB,hS,g,d4,u⟩) ?_;rintro K855 a a8 ⟨O,b2,X,h4,t1,t2,ha,hB,hS,g,b3,u⟩;by_cases e1:O<(f.length:Int)
      ·obtain⟨h5,q856,j4,a3,t3⟩:=R_ t2 e1 h4;have hle:=u.len_le;dsimp only[bi_] at a3;refine J_ ha ?_;refine Zq (Zv (r_ rfl rfl) (Ze [(2,_),(5,_),(95,_),(96,_),(97,_),(98,_)] (nx (c_ ?_))));refine L_ (Zb (decide_eq_true e1)) ?_;refine g_ (nx (c_ (f_ (Zq (Zm rfl (Zo ?_))))));refine fo_ u j4 rfl rfl wR_ wS_ ?_;intro b861 f862 c863 t4 t5;cases t5
       refine Zv (e_ rfl wT_ (k_ t4)) (Za rfl (Za rfl (Ze [(2,_),(5,_),(17,_),(18,_),(95,_),(96,_),(97,_)] (nx ?_))));obtain⟨h6,f2,a3⟩:=a_ a3;obtain⟨t6,f3,a3⟩:=a_ a3;obtain⟨t7,j5,a3⟩:=a_ a3;refine ZW (Bf:=λk m=>Bs oo k w m∧Stp 13 o U k m∧RdL k m E a9∧Oz w 3 13 k m F b2∧RdL k m B f) [(2,_),(5,_),(17,_),(18,_),(95,_),(96,_),(97,_)] (Zrg 102 9) [[],[],[],[1,2],[3],[0,4],[5],[],[7]] (Zcn 9) (Zt9 9) [0,0,0,0,0,13,0,0,0] [999] [.inl F,.inl E,.inl (ZI O),.inr (λv o a6=>∃vl,v=adr vl (O.toNat*Rp.sz Int)∧RdL o a6 vl a9),.inl (ZI h6),.inr (λv o a6=>∃vl,v=adr vl (h6.toNat*Rp.sz Int)∧Oz w 3 13 o a6 vl b2),.inl (ZI t6),.inl (ZI h5),.inl (ZI t7)] ⟨hB,hS,g,b3,u⟩ ⟨λ_ _ _ _ _ _ a7 hb ⟨vl,e,h⟩ hs=>⟨vl,e,h.stp hs a7.1⟩,λ_ _ _ _ _ _ a7 hb ⟨vl,e,h⟩ hs=>⟨vl,e,h.stp hs a7.1 (Ne.symm hb)⟩,trivial⟩ ?_ ?_
       ·refine⟨Dp (h_ rfl),Dp (h_ rfl),Dp (h_ rfl),?_,?_,?_,?_,Dp (h_ rfl),Dp (gL_ rfl rfl j5),trivial⟩
        ·rintro o882 w883 a884 ha ⟨-,-,g,-⟩-;refine Zs ha ?_;refine ae_ g f2 rfl rfl wR_ wS_ ?_;exact⟨_,Stp.refl _ _ _,⟨_,rfl,g⟩⟩
        ·rintro o887 w888 a889 ha- ⟨t8,-⟩;obtain⟨v891,t9,u0⟩:=t8;have ha:=ha.c t9;refine Zs ha ?_;refine dr_ u0 f2 rfl rfl wT_ ?_;intro c894 u1;cases u1
         exact Zx rfl
        ·rintro o896 w897 a898 ha ⟨-,-,-,b3,-⟩-;refine Zs ha ?_;refine bT_ b3 f3 rfl rfl wR_ wS_ ?_;exact⟨_,Stp.refl _ _ _,⟨_,rfl,b3⟩⟩
        ·rintro o901 w902 a903 ha- ⟨u2,-⟩;obtain⟨v905,u3,u4⟩:=u2;have ha:=ha.c u3;refine Zs ha ?_;refine bA_ u4 f3 rfl rfl wT_ ?_;intro c908 u5;cases u5
         exact Zx rfl
       rintro _ rfl u6 w918 a919 ha ⟨hB,hS,g,b3,u⟩-;refine aH_ ha ?_;refine Zv (wk_ rfl rfl) ?_;obtain⟨x924,j6,a3⟩:=a_ a3;refine Zo ?_;refine fC_ b3 j6 rfl rfl wR_ wS_ ?_;intro b925 c927 u7 h928 u8;cases u8
       obtain⟨u9,j7,a3⟩:=a_ a3;refine Z_ trivial ?_;refine cf_ b3 u7 j7 rfl (by decide) rfl rfl rfl wS_ rfl ?_;intro w931 v0 h7;replace hS:=hS.trans h7;obtain⟨g,u,hB⟩:=ZS h7 (A3 g u hB);refine Ze [(2,E),(5,F),(95,B),(96,ZI (f.length:Int)),(97,ZI O)] (x_ (nx (d_ (Zv (C_ rfl rfl (F_ (by omega) (by omega))) (Zm rfl (Ze [(2,_),(5,_),(95,_),(96,_),(97,_)] (u_ ?_)))))));have v1:=Zj a3;subst v1;refine Zk [(2,_),(5,_),(95,_),(96,_),(97,_)] ?_;intro a ha;exact⟨_,(by rw[<-t1];simp only[List.length_drop];omega),O+1,u9,u6,t3,rfl,by omega,ha,hB,hS,g,v0,u⟩
      ·have v2:=S_ e1 h4;refine J_ ha ?_;refine Zq (Zv (r_ rfl rfl) (Ze [(2,_),(5,_),(95,_),(96,_),(97,_),(98,_)] (nx (c_ ?_))));refine G_ (Zb (decide_eq_false e1)) ?_;refine s_ ?_;refine n_ (n_ (N_ ?_));refine p_ ?_;refine Zk [(5,_)] ?_;intro a ha;exact⟨b2,X,v2,ha,hB,hS,b3⟩
     ·rintro a a8 ⟨b2,X,rfl,ha,hB,hS,b3⟩;dsimp only at hF;refine ap_k ha ?_;have v3:=Zj hF;subst v3;refine nJ_ (P:=wQ_) (vs:=[]) yh_ trivial ?_;exact⟨X,rfl,b3,hB,hS⟩
     ·exact λ_ _ h=>h.elim
    ·replace hF:=ZF f1 hF;refine g_ ?_;have v4:=Zj hF;subst v4;refine nJ_ (P:=wQ_) (vs:=[]) yh_ trivial ?_;exact⟨s,rfl,d4,hB,hS⟩
   ·exact λ_ _ h=>h.elim
end
section
open Go.RowKit
theorem ml_(h:Nat)(w f:World)(F o:Tg)(C:Bs F o w f)(D:List Value)(x:H_)(O:Rp.rd o f D x)(v:Value)(u:List Bool)(I:RdL o f v u)(t:Value)(s:List Int)(M:RdL o f t s)
  (k:Nat) (p:2<=k) (V:k≠13) (m:Value) (A:List Int) (G:Ow w.heap.size 3 k o f m A) (y:Value) (B:List Int) (L:RdL o f y B) (n:Value) (E:List Int) (Q:Ow w.heap.size 3 13 o f n E) (r:List Int) (K:ag_ h x u s A B E=some r):
  Calls wQ_ 122 #[.agg D.toArray,v,t,m,y,n] f (eb_ F o w f n r):=by
 have rc:=vA_ G.tagged 0;have a:k≠0:=by omega
 refine (iC_ h w f F (one m 0 o) (C.rc rc p) D x (Rp.rc O rc a) v u (I.rc rc a) t s (M.rc rc a) m A (Of.rd (Ow.mono (G.one 0 a) (Nat.zero_le _))) y B (L.rc rc a) n E (Q.rc rc a (Ne.symm V)) r K).mono ?_;rintro e w' ⟨H,rfl,S,R,i⟩;refine⟨bck o f H,rfl,?_,⟨R.keeps,λb j=>?_⟩,⟨i.os,i.tape,i.output,i.size,λb j T=>i.block b j ?_,λb j=>if_pos j⟩⟩
 ·obtain⟨css,W,U,J,X⟩:=S;refine⟨css,W,U,λg N=>?_,X⟩;have d:=J g N;unfold bck;split
  ·rename_i q;rw[i.own g q] at d;unfold one at d;split at d
   ·cases d
   ·exact d
  ·exact d
 ·show(if b<f.heap.size then o b else H b)=_;rw[if_pos (Nat.lt_of_lt_of_le j C.keeps.size)];exact C.old b j
 ·unfold one;split
  ·decide
  ·exact T
end
section
open Go.RowKit Go.Sort Go.Shelf
theorem vG_{B k g cap q m:Nat}{o:Tg}{w:World}{xs zs:List Int}{f:Array Value}(a:B<=g)(J:w.heap[g]? =some (.cells f 3 (0,0)))(I:xs.length<=cap)(h:cap<=maxLen)(p:f.size=cap*1)(s:o g=k)(y:zs.length=xs.length)(t:m<=zs.length):
  Ow B 3 k o (putRow (Value.int .i64) (Sort.ahead w q) g 0 zs.toArray) (.slice (some ⟨g,0,none⟩) m cap) (zs.take m)∧Stp k o w o (putRow (Value.int .i64) (Sort.ahead w q) g 0 zs.toArray):=by
 have j:=ownsRow_sorted_i (n:=q) (os:= #[]) y a J I h p;have K:grow (putRow (Value.int .i64) (Sort.ahead w q) g 0 zs.toArray) #[]=putRow (Value.int .i64) (Sort.ahead w q) g 0 zs.toArray:=by
  unfold grow;rw[Array.append_empty]
 have j:(putRow (Value.int .i64) (Sort.ahead w q) g 0 zs.toArray).ownsRow B 3 1 (.slice (some ⟨g,0,none⟩) xs.length cap) xs.length (zs.map (Value.int .i64)):=by
  rw[<-K];exact j
 refine⟨qf_ (λH A=>by cases A;exact s) ?_,⟨rfl,rfl,rfl,by simp[putRow,mapBlock,Sort.ahead],λb E i=>?_,λ_ _=>rfl⟩⟩
 ·rw[List.length_take,Nat.min_eq_left t];refine⟨by simp[t],.inr ?_⟩;rcases j.2 with⟨x,_⟩|⟨H,u,d,e,F,C,L,G,D,v⟩
  ·cases x
  ·cases e
   refine⟨g,cap,d,rfl,F,C,by omega,G,D,?_⟩;have:=congrArg (List.take m) v;rw[List.take_take,Nat.mul_one,Nat.min_eq_left (by omega)] at this;rw[Nat.mul_one,this,List.map_take]
 ·have:g≠b:=λe=>i (by rw[<-e];exact s);simp[putRow,mapBlock,Sort.ahead,Array.getElem?_modify,this]
def cmpO(xs:List Int):Option (List Int):=if xs.length<=1000000000 then some (Lib.compact xs) else none
theorem pV_(xs:List Int):(Lib.compact xs).length<=xs.length:=by
 unfold Lib.compact Lib.compactUpTo;rw[List.length_map];exact Nat.le_trans (List.length_filter_le _ _) (by simp)
theorem sd_{B k:Nat}{o:Tg}{w:World}{v:Value}{xs y:List Int}(h:Ow B 3 k o w v xs)(j:cmpO xs=some y):
  Calls wQ_ 142 #[v] w (λe w'=>∃t,e=.returned t∧Ow B 3 k o w' t y∧Stp k o w o w'):=by
 unfold cmpO at j;split at j
 rotate_left
 ·cases j
 rename_i N;cases j
 obtain⟨css,K,u,F,M⟩:=h;rw[ol_ K (λi cs x a b=>M i cs x a b)] at u;have n:w.ownsRow B 3 1 v xs.length (xs.map (Value.int .i64)):=u;rcases n.2 with⟨rfl,E⟩|⟨g,cap,J,rfl,d,D,C,f,p,s⟩
 ·have L:xs=[]:=List.eq_nil_of_length_eq_zero E;subst L;refine (Any.slices_Compact_int_empty Tryz.laysCompact none 0 w).mono ?_;rintro e w' ⟨rfl,rfl⟩;exact⟨_,rfl,Ow.nil B 3 k o w',Stp.refl _ _ _⟩
 ·have I:Holds (Value.int .i64) w g 0 xs.toArray:=holds_of_block_i D (by simpa using s);refine (Any.slices_Compact_int Tryz.laysCompact g 0 cap xs w I (by omega) C).mono ?_;rintro e w' ⟨rfl,q,rfl⟩;have G:=pV_ xs;obtain⟨A,H⟩:=vG_ (q:=q) (zs:=Lib.compact xs++List.replicate (xs.length-(Lib.compact xs).length) 0) (m:=(Lib.compact xs).length) d D C f p (F g rfl) (by simp;omega) (by simp);rw[List.take_left] at A;exact⟨_,rfl,A,H⟩
def delO(xs:List Int)(i j:Int):Option (List Int):=if 0<=i∧i<=j∧j<=xs.length∧0<xs.length then some (xs.take i.toNat++xs.drop j.toNat) else none
theorem tC_{B k:Nat}{o:Tg}{w:World}{v:Value}{xs D:List Int}{i j:Int}(h:Ow B 3 k o w v xs)(s:delO xs i j=some D):
  Calls wQ_ 134 #[v,.int .i64 i,.int .i64 j] w (λe w'=>∃A,e=.returned A∧Ow B 3 k o w' A D∧Stp k o w o w'):=by
 unfold delO at s;split at s
 rotate_left
 ·cases s
 rename_i H;cases s
 obtain⟨O,S,T,R⟩:=H;obtain⟨css,M,C,I,N⟩:=h;rw[ol_ M (λi cs x a b=>N i cs x a b)] at C;have t:w.ownsRow B 3 1 v xs.length (xs.map (Value.int .i64)):=C;rcases t.2 with⟨rfl,Q⟩|⟨g,cap,L,rfl,p,G,F,f,u,y⟩
 ·omega
 ·have K:Holds (Value.int .i64) w g 0 xs.toArray:=holds_of_block_i G (by simpa using y);obtain⟨i,rfl⟩:∃n:Nat,i=n:=⟨i.toNat,by omega⟩;obtain⟨j,rfl⟩:∃n:Nat,j=n:=⟨j.toNat,by omega⟩;simp only[Int.toNat_natCast];refine (Any.slices_Delete_int Tryz.laysDelete g 0 cap i j xs w K F (by simp only[maxLen] at f;omega) (by omega) (by omega)).mono ?_;rintro e w' ⟨rfl,q,rfl⟩;have d:(xs.take i++xs.drop j).length=xs.length-(j-i):=by
   rw[List.length_append,List.length_take,List.length_drop];omega
  obtain⟨E,J⟩:=vG_ (q:=q) (zs:=xs.take i++xs.drop j++List.replicate (j-i) 0) (m:=(xs.take i++xs.drop j).length) p G F f u (I g rfl) (by rw[List.length_append,d,List.length_replicate];omega) (by simp);rw[List.take_left,d] at E;exact⟨_,rfl,E,J⟩
end
end Go.Proofs.YtdbbeldgdgonfaaGreat
