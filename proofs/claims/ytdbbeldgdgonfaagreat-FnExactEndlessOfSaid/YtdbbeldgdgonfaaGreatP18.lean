/- Part 18 of what this claim rests on (GSp), packed by pack.py. -/
import Derived.Test.YtdbbeldgdgonfaaGreatP03
import Derived.Test.YtdbbeldgdgonfaaGreatP04
import Derived.Test.YtdbbeldgdgonfaaGreatP11
import Derived.Test.YtdbbeldgdgonfaaGreatP15
import Derived.Test.YtdbbeldgdgonfaaGreatP17
namespace Go.Proofs.YtdbbeldgdgonfaaGreat
open Tryz renaming prog→tX_, underlying41→tY_, underlying90→up_, sizeOf28→uc_, underlying28→ud_, sizeOf3→tZ_, isAgg3→ua_, call163→uC_, results122→va_
set_option linter.unusedSimpArgs false
set_option linter.unusedVariables false
section
set_option maxRecDepth 100000
set_option maxHeartbeats 2000000
open Go.RowKit
theorem kr_:Inf tX_ 3 (.int .i64 0) 1 8:=by unfold Inf;kernel_rfl
def bb_(A:B_)(C:List Bool)(u:List Int)(B:List Int)(a:List Int)(self:B_->(List Bool)->(List Int)->(List Int)->(List Int)->(List Int)->Option (List Int)):((List Int)×Int)->Option (Lp ((List Int)×Int) ((List Int)×Int) (List Int)):=λ(s:(List Int)×Int)=>
  if decide (s.2<A.q.Labels) then
    (
      (ix u (a.length:Int))>>=λv=>
      (ix B v)>>=λx=>
      (ga_ x s.2)>>=λy=>
      if y then
        if(a.length:Int)==0 then
          some true
        else
          (ck ((a.length:Int)-1))>>=λb=>
          (ix u b)>>=λc=>
          (ix u (a.length:Int))>>=λd=>
          if c !=d then
            some true
          else
            (ck ((a.length:Int)-1))>>=λf=>
            (ix a f)>>=λg=>
            some (g==s.2)
      else
        some false)>>=λz=>
    if z then
      (da_ a)>>=λi=>
      (push i s.2)>>=λj=>
      (self A C u B j s.1)>>=λk=>
      (ck (s.2+1))>>=λm=>
      some (.go (k,m))
    else
      (ck (s.2+1))>>=λn=>
      some (.go (s.1,n))
  else
    some (.out (s.1,s.2))
def ba_(f:B_):Int->Int->Int->Option (Lp Int Int (List Int)):=λ(d:Int)(a:Int)(s:Int)=>
  (ck (s*f.q.Labels))>>=λb=>
  (ck (b+a))>>=λc=>
  some (.go c)
def bd_(j:List Int):Int->Int->(List Int)->Option (Lp (List Int) (List Int) (List Int)):=λ(b:Int)(c:Int)(s:List Int)=>
  (ix j b)>>=λa=>
  (ix s a)>>=λd=>
  (shl 1 c)>>=λf=>
  (ix s a)>>=λi=>
  (st s a (bor d f))>>=λg=>
  some (.go g)
def aa_:Nat->B_->(List Bool)->(List Int)->(List Int)->(List Int)->(List Int)->Option (List Int)
  |0=>λ_ _ _ _ _ _=>none
  | fuel+1=>λn q i s g j=>
    if decide ((g.length:Int)<(i.length:Int)) then
      (loopF (bb_ n q i s g (aa_ fuel)) fuel (j,0))>>=λk=>
      match k with
      | .inl (m,u)=>
        some m
      | .inr _=>none
    else
      (forI (ba_ n) g 0 0)>>=λa=>
      match a with
      | .inl b=>
        (ix q b)>>=λc=>
        if c then
          (forI (bd_ i) g 0 j)>>=λd=>
          match d with
          | .inl f=>
            some f
          | .inr _=>none
        else
          some j
      | .inr _=>none
def dD_(oo o:Tg)(w a:World)(u:Value)(r:Yl):Ending->World->Prop:=λe w'=>∃(o':Tg),e=.returned (.tuple #[])∧Ow w.heap.size 3 13 o' w' u r∧Bs oo o' w w'∧Stp 13 o a o' w'
theorem hC_(fuel:Nat):∀(w:World)(a0:World)(oo o:Tg)(hB:Bs oo o w a0)(g8:List Value)(D:B_)(k1:Rp.rd o a0 g8 D)(X:Value)(c6:List Bool)(u:RdL o a0 X c6)(N:Value)(b4:Yl)(k:RdL o a0 N b4)(a2:Value)(c5:Yl)(s:RdL o a0 a2 c5)(M:Value)(E:Yl)(m:RdL o a0 M E)(O:Value)(f4:Yl)(e5:Ow w.heap.size 3 13 o a0 O f4)(r:Yl)(hF:aa_ fuel D c6 b4 c5 E f4=some r),Calls tX_ 122 #[.agg g8.toArray,X,N,a2,M,O] a0 (dD_ oo o w a0 O r):=by
 induction fuel with
 |zero=>
  intro w a0 oo o hB g8 D k1 X c6 u N b4 k a2 c5 s M E m O f4 e5 r hF;unfold aa_ at hF;cases hF
 | succ fuel ih=>
  suffices H:∀(w:World)(a0:World)(oo o:Tg)(hB:Bs oo o w a0)(g8:List Value)(D:B_)(k1:Rp.rd o a0 g8 D)(X:Value)(c6:List Bool)(u:RdL o a0 X c6)(N:Value)(b4:Yl)(k:RdL o a0 N b4)(a2:Value)(c5:Yl)(s:RdL o a0 a2 c5)(M:Value)(E:Yl)(m:RdL o a0 M E)(O:Value)(f4:Yl)(e5:Ow w.heap.size 3 13 o a0 O f4)(r:Yl)(hF:aa_ (fuel+1) D c6 b4 c5 E f4=some r)(hO:∀b,b<a0.heap.size->o b<14∨1000<=o b),Calls tX_ 122 #[.agg g8.toArray,X,N,a2,M,O] a0 (dD_ oo o w a0 O r) by
   intro w a0 oo o hB g8 D k1 X c6 u N b4 k a2 c5 s M E m O f4 e5 r hF;have hm:=qP_ o a0 (lo:=14) (by decide);refine (H w a0 oo (prg 14 o) (hB.mvr hm (by decide)) g8 D (Rp.mvr k1 hm (by decide)) X c6 (u.mvr hm (by decide)) N b4 (k.mvr hm (by decide)) a2 c5 (s.mvr hm (by decide)) M E (m.mvr hm (by decide)) O f4 (e5.mvr hm (by decide) (by decide)) r hF λb _=>tO_ o b).mono ?_;rintro e w' ⟨o',h1,y,h3,x⟩;have hk:=qm_ (w':=w') (lo:=14) (by decide) x.own;exact⟨bck o a0 o',h1,y.mvr hk (by decide) (by decide),h3.mvr hk (by decide),x.bckS (by decide) (by decide)⟩
  intro w a0 oo o hB g8 D k1 X c6 u N b4 k a2 c5 s M E m O f4 e5 r hF hO;unfold aa_ at hF;obtain⟨d0,d1,d2,d3,d4,a7,rfl,y,x,A,B,d,f⟩:=k1;have hS:Stp 13 o a0 o a0:=Stp.refl _ _ _;refine j_ (n:=114) (vs:=[.agg #[ZI D.p.Labels,ZI D.p.Degree,d0,d1,ZI D.q.Labels,ZI D.q.Degree,d2,d3,d4,a7],X,N,a2,M,O]) Tryz.func122 rfl rfl ?_;refine Zq (Zo ?_);refine aD_ (o:=o) w.heap.size 30 hB.keeps.size (cs:=[ZI D.p.Labels,ZI D.p.Degree,d0,d1,ZI D.q.Labels,ZI D.q.Degree,d2,d3,d4,a7]) rfl rfl ?_;intro k2 w14 F g c1;replace u:=u.stp c1;replace k:=k.stp c1;replace s:=s.stp c1;replace m:=m.stp c1;replace e5:=e5.stp c1;replace y:=y.stp c1;replace x:=x.stp c1;replace A:=A.stp c1;replace B:=B.stp c1;replace d:=d.stp c1;replace f:=f.stp c1;replace hS:=hS.trW hO c1 (by decide) (by decide);replace hB:=hB.stp c1;refine Ze [(1,_),(2,_),(3,_),(4,_),(5,_),(6,_)] (Zn (Zm rfl (Zv (J_ rfl m tY_) (Za rfl (Ze [(1,_),(2,_),(3,_),(4,_),(5,_),(6,_),(12,_)] (nx (b_ (Zq (Zm rfl (Zm rfl (Zv (J_ rfl k tY_) (Zv (u_ rfl rfl) ?_))))))))))));refine Ze [(1,_),(2,_),(3,_),(4,_),(5,_),(6,_),(12,_),(24,_)] (nx ?_);refine p_ rfl (λi2=>?_) (λi2=>?_)
  ·rw[if_pos i2] at hF;refine b_ (Zq (Za rfl (Ze [(1,_),(2,_),(3,_),(4,_),(5,_),(6,_),(12,_),(13,_)] (nx ?_))));obtain⟨k3,k4,hF⟩:=a_ hF;refine A_ (λa a5=>∃(b5:Yl)(Q:Int)(Y:Tg),k3=.inl (b5,Q)∧Fr a 114 [(5,O)]∧Bs oo Y w a5∧Stp 13 o a0 Y a5∧Ow w.heap.size 3 13 Y a5 O b5) (λ_ _=>False) ?_ ?_ ?_
   ·refine f_ ?_;refine z_ (λ(K:Nat) a a5=>∃(b5:Yl)(Q:Int)(Y:Tg),loopF (bb_ D c6 b4 c5 E (aa_ fuel)) K (b5,Q)=some k3∧Fr a 114 [(1,X),(2,N),(3,a2),(4,M),(5,O),(6,ZP F),(12,ZI (E.length:Int)),(13,ZI Q)]∧Bs oo Y w a5∧Stp 13 o a0 Y a5∧RdL Y a5 X c6∧RdL Y a5 N b4∧RdL Y a5 a2 c5∧RdL Y a5 M E∧Ow w.heap.size 3 13 Y a5 O b5∧Bx w.heap.size 30 Y a5 F 90 [ZI D.p.Labels,ZI D.p.Degree,d0,d1,ZI D.q.Labels,ZI D.q.Degree,d2,d3,d4,a7]∧RdL Y a5 d0 (D.p.Nodes:Yk)∧RdL Y a5 d1 (D.p.Edges:Yk)∧RdL Y a5 d2 (D.q.Nodes:Yk)∧RdL Y a5 d3 (D.q.Edges:Yk)∧RdL Y a5 d4 (D.nodes:List Bool)∧RdL Y a5 a7 (D.edges:List Bool)) fuel (λa ha=>⟨f4,0,k2,k4,ha.sb,hB,hS,u,k,s,m,e5,g,y,x,A,B,d,f⟩) ?_;rintro K28 a a5 ⟨b5,Q,Y,l25,ha,hB,hS,u,k,s,m,i,g,y,x,A,B,d,f⟩;obtain⟨K32,q29,e33,a6,i3⟩:=ad_ l25;dsimp only[bb_] at a6;refine O_ ha ?_;refine b_ (Zq (Zm rfl (Zv (r_ rfl up_ rfl uc_) (Zv (r_ rfl ud_ rfl tZ_) (Zv (e_ rfl ua_ (g.cell rfl)) (Zv (u_ rfl rfl) (Ze [(1,_),(2,_),(3,_),(4,_),(5,_),(6,_),(12,_),(13,_),(29,_)] (nx ?_))))))));refine p_ rfl (λi4=>?_) (λi4=>?_)
    ·rw[if_pos i4] at a6;refine h_ (nx (b_ (f_ (b_ ?_))));obtain⟨q35,G,a6⟩:=a_ a6;refine A_ (λa38 b7=>∃b0:Tg,Fr a38 114 [(1,X),(2,N),(3,a2),(4,M),(5,O),(6,ZP F),(12,ZI (E.length:Int)),(13,ZI Q),(65,.bool q35)]∧Bs oo b0 w b7∧Stp 13 o a0 b0 b7∧RdL b0 b7 X c6∧RdL b0 b7 N b4∧RdL b0 b7 a2 c5∧RdL b0 b7 M E∧Ow w.heap.size 3 13 b0 b7 O b5∧Bx w.heap.size 30 b0 b7 F 90 [ZI D.p.Labels,ZI D.p.Degree,d0,d1,ZI D.q.Labels,ZI D.q.Degree,d2,d3,d4,a7]∧RdL b0 b7 d0 (D.p.Nodes:Yk)∧RdL b0 b7 d1 (D.p.Edges:Yk)∧RdL b0 b7 d2 (D.q.Nodes:Yk)∧RdL b0 b7 d3 (D.q.Edges:Yk)∧RdL b0 b7 d4 (D.nodes:List Bool)∧RdL b0 b7 a7 (D.edges:List Bool)) (λ_ _=>False) ?_ ?_ (λ_ _ h=>h.elim)
     ·obtain⟨d7,c3,G⟩:=a_ G;obtain⟨d8,c4,G⟩:=a_ G;obtain⟨c2,e6,G⟩:=a_ G;rcases Bool.eq_false_or_eq_true (c2) with U|U
      ·rw[if_pos U] at G;rcases Bool.eq_false_or_eq_true ((E.length:Int)==0) with R|R
       ·rw[if_pos R] at G;refine cw_ (o:=Y) [(1,X),(2,N),(3,a2),(4,M),(5,O),(6,ZP F),(12,ZI (E.length:Int)),(13,ZI Q)] [1,2,3,4,5,6,12,13] [32,33,34,35,36,37,38,39,40,41,42,43,44,45,46,47,48,49,50,51,52,53,54,55,56,57,58,59,60,61,62] [[],[],[],[1,2],[3],[0,4],[5],[],[6,7],[8],[9],[9,10],[9,11],[12],[12],[12],[12],[12],[12],[12],[12],[12],[12],[9,12,22],[9,23],[24],[24],[24],[24],[24],[24]] [none,none,none,none,none,none,none,none,none,none,none,none,none,none,none,none,none,none,none,none,none,none,none,none,none,none,none,none,none,none,none] [999,999,999,999,999,999,999,999,999,999,999,999,999,999,999,999,999,999,999,999,999,999,999,999,999,999,999,999,999,999,999] [0,0,0,0,0,0,0,0,0,0,0,0,0,0,0,0,0,0,0,0,0,0,0,0,0,0,0,0,0,0,0] [999] [λv _ _=>v=a2,λv _ _=>v=N,λv _ _=>v=(ZI (E.length:Int)),λv o b1=>∃vl,v=adr vl ((E.length:Int).toNat*Rp.sz Int)∧RdL o b1 vl b4,λv _ _=>v=(ZI d7),λv o b1=>∃vl,v=adr vl (d7.toNat*Rp.sz Int)∧RdL o b1 vl c5,λv _ _=>v=(ZI d8),λv _ _=>v=(ZI Q),λv _ _=>v=(.bool c2),λv _ _=>v=(.bool c2),λv _ _=>v=(ZI (E.length:Int)),λv _ _=>v=(.bool ((E.length:Int)==0)),λv _ _=>v=(.bool ((E.length:Int)==0)),λv _ _=>v=undef,λv _ _=>v=undef,λv _ _=>v=undef,λv _ _=>v=undef,λv _ _=>v=undef,λv _ _=>v=undef,λv _ _=>v=undef,λv _ _=>v=undef,λv _ _=>v=undef,λv _ _=>v=undef,λv _ _=>v=(.bool true),λv _ _=>v=(.bool true),λv _ _=>v=undef,λv _ _=>v=undef,λv _ _=>v=undef,λv _ _=>v=undef,λv _ _=>v=undef,λv _ _=>v=undef] (λI J=>Bs oo I w J∧Stp 13 o a0 I J∧RdL I J X c6∧RdL I J N b4∧RdL I J a2 c5∧RdL I J M E∧Ow w.heap.size 3 13 I J O b5∧Bx w.heap.size 30 I J F 90 [ZI D.p.Labels,ZI D.p.Degree,d0,d1,ZI D.q.Labels,ZI D.q.Degree,d2,d3,d4,a7]∧RdL I J d0 (D.p.Nodes:Yk)∧RdL I J d1 (D.p.Edges:Yk)∧RdL I J d2 (D.q.Nodes:Yk)∧RdL I J d3 (D.q.Edges:Yk)∧RdL I J d4 (D.nodes:List Bool)∧RdL I J a7 (D.edges:List Bool)) ao_ (by kernel_rfl) rfl ⟨rfl,rfl,rfl,rfl,rfl,rfl,rfl,rfl,trivial⟩ ⟨hB,hS,u,k,s,m,i,g,y,x,A,B,d,f⟩ ?_ ⟨E_ _,E_ _,E_ _,λ_ _ _ _ _ _ b2 hb ⟨vl,e,h⟩ hs=>⟨vl,e,h.stp hs b2.1⟩,E_ _,λ_ _ _ _ _ _ b2 hb ⟨vl,e,h⟩ hs=>⟨vl,e,h.stp hs b2.1⟩,E_ _,E_ _,E_ _,E_ _,E_ _,E_ _,E_ _,E_ _,E_ _,E_ _,E_ _,E_ _,E_ _,E_ _,E_ _,E_ _,E_ _,E_ _,E_ _,E_ _,E_ _,E_ _,E_ _,E_ _,E_ _,trivial⟩ ?_ ?_
        ·rintro f5 k5 a0 k6 k7 a1 ⟨hB,hS,u,k,s,m,i,g,y,x,A,B,d,f⟩ C;have a1:f5=999:=by simpa using a1
         subst a1;all_goals exact⟨hB.stp C (by decide),hS.trW hO C (by decide) (by decide),u.stp C (by decide),k.stp C (by decide),s.stp C (by decide),m.stp C (by decide),i.stp C (by decide) (by decide),g.stp C (by decide),y.stp C (by decide),x.stp C (by decide),A.stp C (by decide),B.stp C (by decide),d.stp C (by decide),f.stp C (by decide)⟩
        ·refine⟨?_,?_,?_,?_,?_,?_,?_,?_,?_,?_,?_,?_,?_,?_,?_,?_,?_,?_,?_,?_,?_,?_,?_,?_,?_,?_,?_,?_,?_,?_,?_,trivial⟩
         ·rintro o53 w54 a55 ha ⟨hB,hS,u,k,s,m,i,g,y,x,A,B,d,f⟩-;refine Zs ha ?_;refine l_ (g_ rfl) ?_;exact Zx rfl
         ·rintro o56 w57 a58 ha ⟨hB,hS,u,k,s,m,i,g,y,x,A,B,d,f⟩-;refine Zs ha ?_;refine l_ (g_ rfl) ?_;exact Zx rfl
         ·rintro o59 w60 a61 ha ⟨hB,hS,u,k,s,m,i,g,y,x,A,B,d,f⟩-;refine Zs ha ?_;refine l_ (g_ rfl) ?_;exact Zx rfl
         ·rintro o62 w63 a64 ha ⟨hB,hS,u,k,s,m,i,g,y,x,A,B,d,f⟩ ⟨r65,r66,-⟩;have ha:=ha.c r65;have ha:=ha.c r66;refine Zs ha ?_;refine an_ k c3 rfl rfl tY_ tZ_ ?_;exact⟨_,Stp.refl _ _ _,⟨_,rfl,k⟩⟩
         ·rintro o67 w68 a69 ha ⟨hB,hS,u,k,s,m,i,g,y,x,A,B,d,f⟩ ⟨r70,-⟩;obtain⟨v71,e72,h73⟩:=r70;have ha:=ha.c e72;refine Zs ha ?_;refine db_ h73 c3 rfl rfl ua_ ?_;intro c74 h75;cases h75
          exact Zx rfl
         ·rintro o76 w77 a78 ha ⟨hB,hS,u,k,s,m,i,g,y,x,A,B,d,f⟩ ⟨r79,r80,-⟩;have ha:=ha.c r79;have ha:=ha.c r80;refine Zs ha ?_;refine an_ s c4 rfl rfl tY_ tZ_ ?_;exact⟨_,Stp.refl _ _ _,⟨_,rfl,s⟩⟩
         ·rintro o81 w82 a83 ha ⟨hB,hS,u,k,s,m,i,g,y,x,A,B,d,f⟩ ⟨r84,-⟩;obtain⟨v85,e86,h87⟩:=r84;have ha:=ha.c e86;refine Zs ha ?_;refine db_ h87 c4 rfl rfl ua_ ?_;intro c88 h89;cases h89
          exact Zx rfl
         ·rintro o90 w91 a92 ha ⟨hB,hS,u,k,s,m,i,g,y,x,A,B,d,f⟩-;refine Zs ha ?_;refine l_ (g_ rfl) ?_;exact Zx rfl
         ·rintro o93 w94 a95 ha ⟨hB,hS,u,k,s,m,i,g,y,x,A,B,d,f⟩ ⟨r96,r97,-⟩;have ha:=ha.c r96;have ha:=ha.c r97;refine Zs ha ?_;refine o_ (hI_ w94 d8 Q c2 e6) uC_ ⟨rfl,rfl,trivial⟩ ?_;rintro e102 w98 ⟨rfl,k99⟩;have d9:=k99.stp 999 o93;refine⟨_,rfl,?_⟩;replace u:=u.stp d9;replace k:=k.stp d9;replace s:=s.stp d9;replace m:=m.stp d9;exact⟨_,d9,rfl⟩
         ·rintro o103 w104 a105 ha ⟨hB,hS,u,k,s,m,i,g,y,x,A,B,d,f⟩ ⟨k8,-⟩;have ha:=ha.c k8;refine Zs ha ?_;refine l_ (g_ rfl) ?_;exact Zx rfl
         ·rintro o107 w108 a109 ha ⟨hB,hS,u,k,s,m,i,g,y,x,A,B,d,f⟩ ⟨k9,-⟩;have ha:=ha.c k9;refine af_ ha (⟨_,rfl,Zb U⟩) ?_;refine l_ (g_ rfl) ?_;exact Zx rfl
         ·rintro o111 w112 a113 ha ⟨hB,hS,u,k,s,m,i,g,y,x,A,B,d,f⟩ ⟨l0,l1,-⟩;have ha:=ha.c l0;have ha:=ha.c l1;refine af_ ha (⟨_,rfl,Zb U⟩) ?_;refine l_ (cD_ rfl rfl) ?_;exact Zx rfl
         ·rintro o116 w117 a118 ha ⟨hB,hS,u,k,s,m,i,g,y,x,A,B,d,f⟩ ⟨l2,l3,-⟩;have ha:=ha.c l2;have ha:=ha.c l3;refine af_ ha (⟨_,rfl,Zb U⟩) ?_;refine l_ (g_ rfl) ?_;exact Zx rfl
         ·rintro o121 w122 a123 ha ⟨hB,hS,u,k,s,m,i,g,y,x,A,B,d,f⟩ ⟨l4,-⟩;have ha:=ha.c l4;exact aJ_ ha rfl rfl rfl (by rw[R];rfl) ⟨_,Stp.refl _ _ _,rfl⟩
         ·rintro o125 w126 a127 ha ⟨hB,hS,u,k,s,m,i,g,y,x,A,B,d,f⟩ ⟨l5,-⟩;have ha:=ha.c l5;exact aJ_ ha rfl rfl rfl (by rw[R];rfl) ⟨_,Stp.refl _ _ _,rfl⟩
         ·rintro o129 w130 a131 ha ⟨hB,hS,u,k,s,m,i,g,y,x,A,B,d,f⟩ ⟨l6,-⟩;have ha:=ha.c l6;exact aJ_ ha rfl rfl rfl (by rw[R];rfl) ⟨_,Stp.refl _ _ _,rfl⟩
         ·rintro o133 w134 a135 ha ⟨hB,hS,u,k,s,m,i,g,y,x,A,B,d,f⟩ ⟨l7,-⟩;have ha:=ha.c l7;exact aJ_ ha rfl rfl rfl (by rw[R];rfl) ⟨_,Stp.refl _ _ _,rfl⟩
         ·rintro o137 w138 a139 ha ⟨hB,hS,u,k,s,m,i,g,y,x,A,B,d,f⟩ ⟨l8,-⟩;have ha:=ha.c l8;exact aJ_ ha rfl rfl rfl (by rw[R];rfl) ⟨_,Stp.refl _ _ _,rfl⟩
         ·rintro o141 w142 a143 ha ⟨hB,hS,u,k,s,m,i,g,y,x,A,B,d,f⟩ ⟨l9,-⟩;have ha:=ha.c l9;exact aJ_ ha rfl rfl rfl (by rw[R];rfl) ⟨_,Stp.refl _ _ _,rfl⟩
         ·rintro o145 w146 a147 ha ⟨hB,hS,u,k,s,m,i,g,y,x,A,B,d,f⟩ ⟨m0,-⟩;have ha:=ha.c m0;exact aJ_ ha rfl rfl rfl (by rw[R];rfl) ⟨_,Stp.refl _ _ _,rfl⟩
         ·rintro o149 w150 a151 ha ⟨hB,hS,u,k,s,m,i,g,y,x,A,B,d,f⟩ ⟨m1,-⟩;have ha:=ha.c m1;exact aJ_ ha rfl rfl rfl (by rw[R];rfl) ⟨_,Stp.refl _ _ _,rfl⟩
         ·rintro o153 w154 a155 ha ⟨hB,hS,u,k,s,m,i,g,y,x,A,B,d,f⟩ ⟨m2,-⟩;have ha:=ha.c m2;exact aJ_ ha rfl rfl rfl (by rw[R];rfl) ⟨_,Stp.refl _ _ _,rfl⟩
         ·rintro o157 w158 a159 ha ⟨hB,hS,u,k,s,m,i,g,y,x,A,B,d,f⟩ ⟨m3,-⟩;have ha:=ha.c m3;exact aJ_ ha rfl rfl rfl (by rw[R];rfl) ⟨_,Stp.refl _ _ _,rfl⟩
         ·rintro o161 w162 a163 ha ⟨hB,hS,u,k,s,m,i,g,y,x,A,B,d,f⟩ ⟨m4,m5,m6,-⟩;have ha:=ha.c m4;have ha:=ha.c m5;have ha:=ha.c m6;refine af_ ha (⟨_,rfl,Zb U⟩) ?_;refine l_ (L_ (Zb R) rfl) ?_;exact Zx rfl
         ·rintro o167 w168 a169 ha ⟨hB,hS,u,k,s,m,i,g,y,x,A,B,d,f⟩ ⟨m7,m8,-⟩;have ha:=ha.c m7;have ha:=ha.c m8;refine af_ ha (⟨_,rfl,Zb U⟩) ?_;refine l_ (g_ rfl) ?_;exact Zx rfl
         ·rintro o172 w173 a174 ha ⟨hB,hS,u,k,s,m,i,g,y,x,A,B,d,f⟩ ⟨m9,-⟩;have ha:=ha.c m9;exact aJ_ ha rfl rfl rfl rfl ⟨_,Stp.refl _ _ _,rfl⟩
         ·rintro o176 w177 a178 ha ⟨hB,hS,u,k,s,m,i,g,y,x,A,B,d,f⟩ ⟨n0,-⟩;have ha:=ha.c n0;exact aJ_ ha rfl rfl rfl rfl ⟨_,Stp.refl _ _ _,rfl⟩
         ·rintro o180 w181 a182 ha ⟨hB,hS,u,k,s,m,i,g,y,x,A,B,d,f⟩ ⟨n1,-⟩;have ha:=ha.c n1;exact aJ_ ha rfl rfl rfl rfl ⟨_,Stp.refl _ _ _,rfl⟩
         ·rintro o184 w185 a186 ha ⟨hB,hS,u,k,s,m,i,g,y,x,A,B,d,f⟩ ⟨n2,-⟩;have ha:=ha.c n2;exact aJ_ ha rfl rfl rfl rfl ⟨_,Stp.refl _ _ _,rfl⟩
         ·rintro o188 w189 a190 ha ⟨hB,hS,u,k,s,m,i,g,y,x,A,B,d,f⟩ ⟨n3,-⟩;have ha:=ha.c n3;exact aJ_ ha rfl rfl rfl rfl ⟨_,Stp.refl _ _ _,rfl⟩
         ·rintro o192 w193 a194 ha ⟨hB,hS,u,k,s,m,i,g,y,x,A,B,d,f⟩ ⟨n4,-⟩;have ha:=ha.c n4;exact aJ_ ha rfl rfl rfl rfl ⟨_,Stp.refl _ _ _,rfl⟩
        rintro n5 w197 a198 ha ⟨hB,hS,u,k,s,m,i,g,y,x,A,B,d,f⟩ ⟨-,-,-,-,-,-,-,-,-,n6,-,-,-,-,-,-,-,-,-,-,-,-,-,-,n7,-,-,-,-,n8,n9,-⟩;have ha:=ha.c n6;have ha:=ha.c n7;have ha:=ha.c n8;have ha:=ha.c n9;refine aS_ ha ?_;simp only[List.length_cons,List.length_nil,Nat.zero_add,Nat.reduceAdd,List.drop_succ_cons,List.drop_zero];refine v_ rfl rfl rfl (by decide) ?_;refine q_ (L_ rfl rfl) (by decide) ⟨_,rfl,Zb U⟩ (Zv (L_ (Zb U) rfl) ?_);have o0:=Zj G;subst o0;refine Ze [(1,_),(2,_),(3,_),(4,_),(5,_),(6,_),(12,_),(13,_),(65,_)] ?_;refine s_ (λa ha=>⟨n5,ha,hB,hS,u,k,s,m,i,g,y,x,A,B,d,f⟩)
       ·replace G:=ZF R G;obtain⟨e7,f6,G⟩:=a_ G;obtain⟨b8,d5,G⟩:=a_ G;obtain⟨b9,d6,G⟩:=a_ G;rcases Bool.eq_false_or_eq_true (b8 !=b9) with W|W
        ·rw[if_pos W] at G;refine cw_ (o:=Y) [(1,X),(2,N),(3,a2),(4,M),(5,O),(6,ZP F),(12,ZI (E.length:Int)),(13,ZI Q)] [1,2,3,4,5,6,12,13] [32,33,34,35,36,37,38,39,40,41,42,43,44,45,46,47,48,49,50,51,52,53,54,55,56,57,58,59,60,61,62] [[],[],[],[1,2],[3],[0,4],[5],[],[6,7],[8],[9],[9,10],[9,11],[12],[12],[12,14],[12,13,15],[12,16],[12],[12],[12,18,19],[12,20],[12,17,21],[9,12,22],[9,23],[24],[24],[24],[24],[24],[24]] [none,none,none,none,none,none,none,none,none,none,none,none,none,none,none,none,none,none,none,none,none,none,none,none,none,none,none,none,none,none,none] [999,999,999,999,999,999,999,999,999,999,999,999,999,999,999,999,999,999,999,999,999,999,999,999,999,999,999,999,999,999,999] [0,0,0,0,0,0,0,0,0,0,0,0,0,0,0,0,0,0,0,0,0,0,0,0,0,0,0,0,0,0,0] [999] [λv _ _=>v=a2,λv _ _=>v=N,λv _ _=>v=(ZI (E.length:Int)),λv o b1=>∃vl,v=adr vl ((E.length:Int).toNat*Rp.sz Int)∧RdL o b1 vl b4,λv _ _=>v=(ZI d7),λv o b1=>∃vl,v=adr vl (d7.toNat*Rp.sz Int)∧RdL o b1 vl c5,λv _ _=>v=(ZI d8),λv _ _=>v=(ZI Q),λv _ _=>v=(.bool c2),λv _ _=>v=(.bool c2),λv _ _=>v=(ZI (E.length:Int)),λv _ _=>v=(.bool ((E.length:Int)==0)),λv _ _=>v=(.bool ((E.length:Int)==0)),λv _ _=>v=N,λv _ _=>v=(ZI (E.length:Int)),λv _ _=>v=(ZI e7),λv o b1=>∃vl,v=adr vl (e7.toNat*Rp.sz Int)∧RdL o b1 vl b4,λv _ _=>v=(ZI b8),λv _ _=>v=N,λv _ _=>v=(ZI (E.length:Int)),λv o b1=>∃vl,v=adr vl ((E.length:Int).toNat*Rp.sz Int)∧RdL o b1 vl b4,λv _ _=>v=(ZI b9),λv _ _=>v=(.bool (b8 !=b9)),λv _ _=>v=(.bool (b8 !=b9)),λv _ _=>v=(.bool (b8 !=b9)),λv _ _=>v=undef,λv _ _=>v=undef,λv _ _=>v=undef,λv _ _=>v=undef,λv _ _=>v=undef,λv _ _=>v=undef] (λI J=>Bs oo I w J∧Stp 13 o a0 I J∧RdL I J X c6∧RdL I J N b4∧RdL I J a2 c5∧RdL I J M E∧Ow w.heap.size 3 13 I J O b5∧Bx w.heap.size 30 I J F 90 [ZI D.p.Labels,ZI D.p.Degree,d0,d1,ZI D.q.Labels,ZI D.q.Degree,d2,d3,d4,a7]∧RdL I J d0 (D.p.Nodes:Yk)∧RdL I J d1 (D.p.Edges:Yk)∧RdL I J d2 (D.q.Nodes:Yk)∧RdL I J d3 (D.q.Edges:Yk)∧RdL I J d4 (D.nodes:List Bool)∧RdL I J a7 (D.edges:List Bool)) ao_ (by kernel_rfl) rfl ⟨rfl,rfl,rfl,rfl,rfl,rfl,rfl,rfl,trivial⟩ ⟨hB,hS,u,k,s,m,i,g,y,x,A,B,d,f⟩ ?_ ⟨E_ _,E_ _,E_ _,λ_ _ _ _ _ _ b2 hb ⟨vl,e,h⟩ hs=>⟨vl,e,h.stp hs b2.1⟩,E_ _,λ_ _ _ _ _ _ b2 hb ⟨vl,e,h⟩ hs=>⟨vl,e,h.stp hs b2.1⟩,E_ _,E_ _,E_ _,E_ _,E_ _,E_ _,E_ _,E_ _,E_ _,E_ _,λ_ _ _ _ _ _ b2 hb ⟨vl,e,h⟩ hs=>⟨vl,e,h.stp hs b2.1⟩,E_ _,E_ _,E_ _,λ_ _ _ _ _ _ b2 hb ⟨vl,e,h⟩ hs=>⟨vl,e,h.stp hs b2.1⟩,E_ _,E_ _,E_ _,E_ _,E_ _,E_ _,E_ _,E_ _,E_ _,E_ _,trivial⟩ ?_ ?_
         ·rintro f5 k5 a0 k6 k7 a1 ⟨hB,hS,u,k,s,m,i,g,y,x,A,B,d,f⟩ C;have a1:f5=999:=by simpa using a1
          subst a1;all_goals exact⟨hB.stp C (by decide),hS.trW hO C (by decide) (by decide),u.stp C (by decide),k.stp C (by decide),s.stp C (by decide),m.stp C (by decide),i.stp C (by decide) (by decide),g.stp C (by decide),y.stp C (by decide),x.stp C (by decide),A.stp C (by decide),B.stp C (by decide),d.stp C (by decide),f.stp C (by decide)⟩
         ·refine⟨?_,?_,?_,?_,?_,?_,?_,?_,?_,?_,?_,?_,?_,?_,?_,?_,?_,?_,?_,?_,?_,?_,?_,?_,?_,?_,?_,?_,?_,?_,?_,trivial⟩
          ·rintro o212 w213 a214 ha ⟨hB,hS,u,k,s,m,i,g,y,x,A,B,d,f⟩-;refine Zs ha ?_;refine l_ (g_ rfl) ?_;exact Zx rfl
          ·rintro o215 w216 a217 ha ⟨hB,hS,u,k,s,m,i,g,y,x,A,B,d,f⟩-;refine Zs ha ?_;refine l_ (g_ rfl) ?_;exact Zx rfl
          ·rintro o218 w219 a220 ha ⟨hB,hS,u,k,s,m,i,g,y,x,A,B,d,f⟩-;refine Zs ha ?_;refine l_ (g_ rfl) ?_;exact Zx rfl
          ·rintro o221 w222 a223 ha ⟨hB,hS,u,k,s,m,i,g,y,x,A,B,d,f⟩ ⟨o1,o2,-⟩;have ha:=ha.c o1;have ha:=ha.c o2;refine Zs ha ?_;refine an_ k c3 rfl rfl tY_ tZ_ ?_;exact⟨_,Stp.refl _ _ _,⟨_,rfl,k⟩⟩
          ·rintro o226 w227 a228 ha ⟨hB,hS,u,k,s,m,i,g,y,x,A,B,d,f⟩ ⟨o3,-⟩;obtain⟨v230,o4,o5⟩:=o3;have ha:=ha.c o4;refine Zs ha ?_;refine db_ o5 c3 rfl rfl ua_ ?_;intro c233 o6;cases o6
           exact Zx rfl
          ·rintro o235 w236 a237 ha ⟨hB,hS,u,k,s,m,i,g,y,x,A,B,d,f⟩ ⟨o7,o8,-⟩;have ha:=ha.c o7;have ha:=ha.c o8;refine Zs ha ?_;refine an_ s c4 rfl rfl tY_ tZ_ ?_;exact⟨_,Stp.refl _ _ _,⟨_,rfl,s⟩⟩
          ·rintro o240 w241 a242 ha ⟨hB,hS,u,k,s,m,i,g,y,x,A,B,d,f⟩ ⟨o9,-⟩;obtain⟨v244,p0,p1⟩:=o9;have ha:=ha.c p0;refine Zs ha ?_;refine db_ p1 c4 rfl rfl ua_ ?_;intro c247 p2;cases p2
           exact Zx rfl
          ·rintro o249 w250 a251 ha ⟨hB,hS,u,k,s,m,i,g,y,x,A,B,d,f⟩-;refine Zs ha ?_;refine l_ (g_ rfl) ?_;exact Zx rfl
          ·rintro p3 p4 a254 ha ⟨hB,hS,u,k,s,m,i,g,y,x,A,B,d,f⟩ ⟨p5,p6,-⟩;have ha:=ha.c p5;have ha:=ha.c p6;refine Zs ha ?_;refine o_ (hI_ p4 d8 Q c2 e6) uC_ ⟨rfl,rfl,trivial⟩ ?_;rintro e261 w257 ⟨rfl,p7⟩;have e0:=p7.stp 999 p3;refine⟨_,rfl,?_⟩;replace u:=u.stp e0;replace k:=k.stp e0;replace s:=s.stp e0;replace m:=m.stp e0;exact⟨_,e0,rfl⟩
          ·rintro o262 w263 a264 ha ⟨hB,hS,u,k,s,m,i,g,y,x,A,B,d,f⟩ ⟨p8,-⟩;have ha:=ha.c p8;refine Zs ha ?_;refine l_ (g_ rfl) ?_;exact Zx rfl
          ·rintro o266 w267 a268 ha ⟨hB,hS,u,k,s,m,i,g,y,x,A,B,d,f⟩ ⟨p9,-⟩;have ha:=ha.c p9;refine af_ ha (⟨_,rfl,Zb U⟩) ?_;refine l_ (g_ rfl) ?_;exact Zx rfl
          ·rintro o270 w271 a272 ha ⟨hB,hS,u,k,s,m,i,g,y,x,A,B,d,f⟩ ⟨q0,q1,-⟩;have ha:=ha.c q0;have ha:=ha.c q1;refine af_ ha (⟨_,rfl,Zb U⟩) ?_;refine l_ (cD_ rfl rfl) ?_;exact Zx rfl
          ·rintro o275 w276 a277 ha ⟨hB,hS,u,k,s,m,i,g,y,x,A,B,d,f⟩ ⟨q2,q3,-⟩;have ha:=ha.c q2;have ha:=ha.c q3;refine af_ ha (⟨_,rfl,Zb U⟩) ?_;refine l_ (g_ rfl) ?_;exact Zx rfl
          ·rintro o280 w281 a282 ha ⟨hB,hS,u,k,s,m,i,g,y,x,A,B,d,f⟩ ⟨q4,-⟩;have ha:=ha.c q4;refine af_ ha (⟨_,rfl,Zb R⟩) ?_;refine l_ (g_ rfl) ?_;exact Zx rfl
          ·rintro o284 w285 a286 ha ⟨hB,hS,u,k,s,m,i,g,y,x,A,B,d,f⟩ ⟨q5,-⟩;have ha:=ha.c q5;refine af_ ha (⟨_,rfl,Zb R⟩) ?_;refine l_ (g_ rfl) ?_;exact Zx rfl
          ·rintro o288 w289 a290 ha ⟨hB,hS,u,k,s,m,i,g,y,x,A,B,d,f⟩ ⟨q6,q7,-⟩;have ha:=ha.c q6;have ha:=ha.c q7;refine af_ ha (⟨_,rfl,Zb R⟩) ?_;refine l_ (bE_ rfl rfl f6) ?_;exact Zx rfl
          ·rintro o293 w294 a295 ha ⟨hB,hS,u,k,s,m,i,g,y,x,A,B,d,f⟩ ⟨q8,q9,r0,-⟩;have ha:=ha.c q8;have ha:=ha.c q9;have ha:=ha.c r0;refine af_ ha (⟨_,rfl,Zb R⟩) ?_;refine an_ k d5 rfl rfl tY_ tZ_ ?_;exact⟨_,Stp.refl _ _ _,⟨_,rfl,k⟩⟩
          ·rintro o299 w300 a301 ha ⟨hB,hS,u,k,s,m,i,g,y,x,A,B,d,f⟩ ⟨r1,r2,-⟩;have ha:=ha.c r1;obtain⟨v304,r3,r4⟩:=r2;have ha:=ha.c r3;refine af_ ha (⟨_,rfl,Zb R⟩) ?_;refine db_ r4 d5 rfl rfl ua_ ?_;intro c307 r5;cases r5
           exact Zx rfl
          ·rintro o309 w310 a311 ha ⟨hB,hS,u,k,s,m,i,g,y,x,A,B,d,f⟩ ⟨r6,-⟩;have ha:=ha.c r6;refine af_ ha (⟨_,rfl,Zb R⟩) ?_;refine l_ (g_ rfl) ?_;exact Zx rfl
          ·rintro o313 w314 a315 ha ⟨hB,hS,u,k,s,m,i,g,y,x,A,B,d,f⟩ ⟨r7,-⟩;have ha:=ha.c r7;refine af_ ha (⟨_,rfl,Zb R⟩) ?_;refine l_ (g_ rfl) ?_;exact Zx rfl
          ·rintro o317 w318 a319 ha ⟨hB,hS,u,k,s,m,i,g,y,x,A,B,d,f⟩ ⟨r8,r9,s0,-⟩;have ha:=ha.c r8;have ha:=ha.c r9;have ha:=ha.c s0;refine af_ ha (⟨_,rfl,Zb R⟩) ?_;refine an_ k d6 rfl rfl tY_ tZ_ ?_;exact⟨_,Stp.refl _ _ _,⟨_,rfl,k⟩⟩
          ·rintro o323 w324 a325 ha ⟨hB,hS,u,k,s,m,i,g,y,x,A,B,d,f⟩ ⟨s1,s2,-⟩;have ha:=ha.c s1;obtain⟨v328,s3,s4⟩:=s2;have ha:=ha.c s3;refine af_ ha (⟨_,rfl,Zb R⟩) ?_;refine db_ s4 d6 rfl rfl ua_ ?_;intro c331 s5;cases s5
           exact Zx rfl
          ·rintro o333 w334 a335 ha ⟨hB,hS,u,k,s,m,i,g,y,x,A,B,d,f⟩ ⟨s6,s7,s8,-⟩;have ha:=ha.c s6;have ha:=ha.c s7;have ha:=ha.c s8;refine af_ ha (⟨_,rfl,Zb R⟩) ?_;refine l_ (dw_ rfl rfl) ?_;exact Zx rfl
          ·rintro o339 w340 a341 ha ⟨hB,hS,u,k,s,m,i,g,y,x,A,B,d,f⟩ ⟨s9,t0,t1,-⟩;have ha:=ha.c s9;have ha:=ha.c t0;have ha:=ha.c t1;refine af_ ha (⟨_,rfl,Zb U⟩) ?_;refine l_ (G_ (Zb R) rfl) ?_;exact Zx rfl
          ·rintro o345 w346 a347 ha ⟨hB,hS,u,k,s,m,i,g,y,x,A,B,d,f⟩ ⟨t2,t3,-⟩;have ha:=ha.c t2;have ha:=ha.c t3;refine af_ ha (⟨_,rfl,Zb U⟩) ?_;refine l_ (g_ rfl) ?_;exact Zx rfl
          ·rintro o350 w351 a352 ha ⟨hB,hS,u,k,s,m,i,g,y,x,A,B,d,f⟩ ⟨t4,-⟩;have ha:=ha.c t4;exact aJ_ ha rfl rfl rfl (by rw[W];rfl) ⟨_,Stp.refl _ _ _,rfl⟩
          ·rintro o354 w355 a356 ha ⟨hB,hS,u,k,s,m,i,g,y,x,A,B,d,f⟩ ⟨t5,-⟩;have ha:=ha.c t5;exact aJ_ ha rfl rfl rfl (by rw[W];rfl) ⟨_,Stp.refl _ _ _,rfl⟩
          ·rintro o358 w359 a360 ha ⟨hB,hS,u,k,s,m,i,g,y,x,A,B,d,f⟩ ⟨t6,-⟩;have ha:=ha.c t6;exact aJ_ ha rfl rfl rfl (by rw[W];rfl) ⟨_,Stp.refl _ _ _,rfl⟩
          ·rintro o362 w363 a364 ha ⟨hB,hS,u,k,s,m,i,g,y,x,A,B,d,f⟩ ⟨t7,-⟩;have ha:=ha.c t7;exact aJ_ ha rfl rfl rfl (by rw[W];rfl) ⟨_,Stp.refl _ _ _,rfl⟩
          ·rintro o366 w367 a368 ha ⟨hB,hS,u,k,s,m,i,g,y,x,A,B,d,f⟩ ⟨t8,-⟩;have ha:=ha.c t8;exact aJ_ ha rfl rfl rfl (by rw[W];rfl) ⟨_,Stp.refl _ _ _,rfl⟩
          ·rintro o370 w371 a372 ha ⟨hB,hS,u,k,s,m,i,g,y,x,A,B,d,f⟩ ⟨t9,-⟩;have ha:=ha.c t9;exact aJ_ ha rfl rfl rfl (by rw[W];rfl) ⟨_,Stp.refl _ _ _,rfl⟩
         rintro u0 w375 a376 ha ⟨hB,hS,u,k,s,m,i,g,y,x,A,B,d,f⟩ ⟨-,-,-,-,-,-,-,-,-,u1,-,-,-,-,-,-,-,-,-,-,-,-,-,-,u2,-,-,-,-,u3,u4,-⟩;have ha:=ha.c u1;have ha:=ha.c u2;have ha:=ha.c u3;have ha:=ha.c u4;refine aS_ ha ?_;simp only[List.length_cons,List.length_nil,Nat.zero_add,Nat.reduceAdd,List.drop_succ_cons,List.drop_zero];refine v_ rfl rfl (by rw[W];rfl) (by decide) ?_;refine q_ (L_ (Zb W) rfl) (by decide) ⟨_,rfl,Zb U⟩ (Zv (L_ (Zb U) rfl) ?_);have u5:=Zj G;subst u5;refine Ze [(1,_),(2,_),(3,_),(4,_),(5,_),(6,_),(12,_),(13,_),(65,_)] ?_;refine s_ (λa ha=>⟨u0,ha,hB,hS,u,k,s,m,i,g,y,x,A,B,d,f⟩)
        ·replace G:=ZF W G;obtain⟨g9,i5,G⟩:=a_ G;obtain⟨h0,f7,G⟩:=a_ G;refine cw_ (o:=Y) [(1,X),(2,N),(3,a2),(4,M),(5,O),(6,ZP F),(12,ZI (E.length:Int)),(13,ZI Q)] [1,2,3,4,5,6,12,13] [32,33,34,35,36,37,38,39,40,41,42,43,44,45,46,47,48,49,50,51,52,53,54,55,56,57,58,59,60,61,62] [[],[],[],[1,2],[3],[0,4],[5],[],[6,7],[8],[9],[9,10],[9,11],[12],[12],[12,14],[12,13,15],[12,16],[12],[12],[12,18,19],[12,20],[12,17,21],[9,12,22],[9,23],[24],[24],[24,26],[24,25,27],[24,28],[24]] [none,none,none,none,none,none,none,none,none,none,none,none,none,none,none,none,none,none,none,none,none,none,none,none,none,none,none,none,none,none,none] [999,999,999,999,999,999,999,999,999,999,999,999,999,999,999,999,999,999,999,999,999,999,999,999,999,999,999,999,999,999,999] [0,0,0,0,0,0,0,0,0,0,0,0,0,0,0,0,0,0,0,0,0,0,0,0,0,0,0,0,0,0,0] [999] [λv _ _=>v=a2,λv _ _=>v=N,λv _ _=>v=(ZI (E.length:Int)),λv o b1=>∃vl,v=adr vl ((E.length:Int).toNat*Rp.sz Int)∧RdL o b1 vl b4,λv _ _=>v=(ZI d7),λv o b1=>∃vl,v=adr vl (d7.toNat*Rp.sz Int)∧RdL o b1 vl c5,λv _ _=>v=(ZI d8),λv _ _=>v=(ZI Q),λv _ _=>v=(.bool c2),λv _ _=>v=(.bool c2),λv _ _=>v=(ZI (E.length:Int)),λv _ _=>v=(.bool ((E.length:Int)==0)),λv _ _=>v=(.bool ((E.length:Int)==0)),λv _ _=>v=N,λv _ _=>v=(ZI (E.length:Int)),λv _ _=>v=(ZI e7),λv o b1=>∃vl,v=adr vl (e7.toNat*Rp.sz Int)∧RdL o b1 vl b4,λv _ _=>v=(ZI b8),λv _ _=>v=N,λv _ _=>v=(ZI (E.length:Int)),λv o b1=>∃vl,v=adr vl ((E.length:Int).toNat*Rp.sz Int)∧RdL o b1 vl b4,λv _ _=>v=(ZI b9),λv _ _=>v=(.bool (b8 !=b9)),λv _ _=>v=(.bool (b8 !=b9)),λv _ _=>v=(.bool (b8 !=b9)),λv _ _=>v=M,λv _ _=>v=(ZI (E.length:Int)),λv _ _=>v=(ZI g9),λv o b1=>∃vl,v=adr vl (g9.toNat*Rp.sz Int)∧RdL o b1 vl E,λv _ _=>v=(ZI h0),λv _ _=>v=(ZI Q)] (λI J=>Bs oo I w J∧Stp 13 o a0 I J∧RdL I J X c6∧RdL I J N b4∧RdL I J a2 c5∧RdL I J M E∧Ow w.heap.size 3 13 I J O b5∧Bx w.heap.size 30 I J F 90 [ZI D.p.Labels,ZI D.p.Degree,d0,d1,ZI D.q.Labels,ZI D.q.Degree,d2,d3,d4,a7]∧RdL I J d0 (D.p.Nodes:Yk)∧RdL I J d1 (D.p.Edges:Yk)∧RdL I J d2 (D.q.Nodes:Yk)∧RdL I J d3 (D.q.Edges:Yk)∧RdL I J d4 (D.nodes:List Bool)∧RdL I J a7 (D.edges:List Bool)) ao_ (by kernel_rfl) rfl ⟨rfl,rfl,rfl,rfl,rfl,rfl,rfl,rfl,trivial⟩ ⟨hB,hS,u,k,s,m,i,g,y,x,A,B,d,f⟩ ?_ ⟨E_ _,E_ _,E_ _,λ_ _ _ _ _ _ b2 hb ⟨vl,e,h⟩ hs=>⟨vl,e,h.stp hs b2.1⟩,E_ _,λ_ _ _ _ _ _ b2 hb ⟨vl,e,h⟩ hs=>⟨vl,e,h.stp hs b2.1⟩,E_ _,E_ _,E_ _,E_ _,E_ _,E_ _,E_ _,E_ _,E_ _,E_ _,λ_ _ _ _ _ _ b2 hb ⟨vl,e,h⟩ hs=>⟨vl,e,h.stp hs b2.1⟩,E_ _,E_ _,E_ _,λ_ _ _ _ _ _ b2 hb ⟨vl,e,h⟩ hs=>⟨vl,e,h.stp hs b2.1⟩,E_ _,E_ _,E_ _,E_ _,E_ _,E_ _,E_ _,λ_ _ _ _ _ _ b2 hb ⟨vl,e,h⟩ hs=>⟨vl,e,h.stp hs b2.1⟩,E_ _,E_ _,trivial⟩ ?_ ?_
         ·rintro f5 k5 a0 k6 k7 a1 ⟨hB,hS,u,k,s,m,i,g,y,x,A,B,d,f⟩ C;have a1:f5=999:=by simpa using a1
          subst a1;all_goals exact⟨hB.stp C (by decide),hS.trW hO C (by decide) (by decide),u.stp C (by decide),k.stp C (by decide),s.stp C (by decide),m.stp C (by decide),i.stp C (by decide) (by decide),g.stp C (by decide),y.stp C (by decide),x.stp C (by decide),A.stp C (by decide),B.stp C (by decide),d.stp C (by decide),f.stp C (by decide)⟩
         ·refine⟨?_,?_,?_,?_,?_,?_,?_,?_,?_,?_,?_,?_,?_,?_,?_,?_,?_,?_,?_,?_,?_,?_,?_,?_,?_,?_,?_,?_,?_,?_,?_,trivial⟩
          ·rintro o386 w387 a388 ha ⟨hB,hS,u,k,s,m,i,g,y,x,A,B,d,f⟩-;refine Zs ha ?_;refine l_ (g_ rfl) ?_;exact Zx rfl
          ·rintro o389 w390 a391 ha ⟨hB,hS,u,k,s,m,i,g,y,x,A,B,d,f⟩-;refine Zs ha ?_;refine l_ (g_ rfl) ?_;exact Zx rfl
          ·rintro o392 w393 a394 ha ⟨hB,hS,u,k,s,m,i,g,y,x,A,B,d,f⟩-;refine Zs ha ?_;refine l_ (g_ rfl) ?_;exact Zx rfl
          ·rintro o395 w396 a397 ha ⟨hB,hS,u,k,s,m,i,g,y,x,A,B,d,f⟩ ⟨u6,u7,-⟩;have ha:=ha.c u6;have ha:=ha.c u7;refine Zs ha ?_;refine an_ k c3 rfl rfl tY_ tZ_ ?_;exact⟨_,Stp.refl _ _ _,⟨_,rfl,k⟩⟩
          ·rintro o400 w401 a402 ha ⟨hB,hS,u,k,s,m,i,g,y,x,A,B,d,f⟩ ⟨u8,-⟩;obtain⟨v404,u9,v0⟩:=u8;have ha:=ha.c u9;refine Zs ha ?_;refine db_ v0 c3 rfl rfl ua_ ?_;intro c407 v1;cases v1
           exact Zx rfl
          ·rintro o409 w410 a411 ha ⟨hB,hS,u,k,s,m,i,g,y,x,A,B,d,f⟩ ⟨v2,v3,-⟩;have ha:=ha.c v2;have ha:=ha.c v3;refine Zs ha ?_;refine an_ s c4 rfl rfl tY_ tZ_ ?_;exact⟨_,Stp.refl _ _ _,⟨_,rfl,s⟩⟩
          ·rintro o414 w415 a416 ha ⟨hB,hS,u,k,s,m,i,g,y,x,A,B,d,f⟩ ⟨v4,-⟩;obtain⟨v418,v5,v6⟩:=v4;have ha:=ha.c v5;refine Zs ha ?_;refine db_ v6 c4 rfl rfl ua_ ?_;intro c421 v7;cases v7
           exact Zx rfl
          ·rintro o423 w424 a425 ha ⟨hB,hS,u,k,s,m,i,g,y,x,A,B,d,f⟩-;refine Zs ha ?_;refine l_ (g_ rfl) ?_;exact Zx rfl
          ·rintro v8 v9 a428 ha ⟨hB,hS,u,k,s,m,i,g,y,x,A,B,d,f⟩ ⟨w0,w1,-⟩;have ha:=ha.c w0;have ha:=ha.c w1;refine Zs ha ?_;refine o_ (hI_ v9 d8 Q c2 e6) uC_ ⟨rfl,rfl,trivial⟩ ?_;rintro e435 w431 ⟨rfl,w2⟩;have e1:=w2.stp 999 v8;refine⟨_,rfl,?_⟩;replace u:=u.stp e1;replace k:=k.stp e1;replace s:=s.stp e1;replace m:=m.stp e1;exact⟨_,e1,rfl⟩
          ·rintro o436 w437 a438 ha ⟨hB,hS,u,k,s,m,i,g,y,x,A,B,d,f⟩ ⟨w3,-⟩;have ha:=ha.c w3;refine Zs ha ?_;refine l_ (g_ rfl) ?_;exact Zx rfl
          ·rintro o440 w441 a442 ha ⟨hB,hS,u,k,s,m,i,g,y,x,A,B,d,f⟩ ⟨w4,-⟩;have ha:=ha.c w4;refine af_ ha (⟨_,rfl,Zb U⟩) ?_;refine l_ (g_ rfl) ?_;exact Zx rfl
          ·rintro o444 w445 a446 ha ⟨hB,hS,u,k,s,m,i,g,y,x,A,B,d,f⟩ ⟨w5,w6,-⟩;have ha:=ha.c w5;have ha:=ha.c w6;refine af_ ha (⟨_,rfl,Zb U⟩) ?_;refine l_ (cD_ rfl rfl) ?_;exact Zx rfl
          ·rintro o449 w450 a451 ha ⟨hB,hS,u,k,s,m,i,g,y,x,A,B,d,f⟩ ⟨w7,w8,-⟩;have ha:=ha.c w7;have ha:=ha.c w8;refine af_ ha (⟨_,rfl,Zb U⟩) ?_;refine l_ (g_ rfl) ?_;exact Zx rfl
          ·rintro o454 w455 a456 ha ⟨hB,hS,u,k,s,m,i,g,y,x,A,B,d,f⟩ ⟨w9,-⟩;have ha:=ha.c w9;refine af_ ha (⟨_,rfl,Zb R⟩) ?_;refine l_ (g_ rfl) ?_;exact Zx rfl
          ·rintro o458 w459 a460 ha ⟨hB,hS,u,k,s,m,i,g,y,x,A,B,d,f⟩ ⟨x0,-⟩;have ha:=ha.c x0;refine af_ ha (⟨_,rfl,Zb R⟩) ?_;refine l_ (g_ rfl) ?_;exact Zx rfl
          ·rintro o462 w463 a464 ha ⟨hB,hS,u,k,s,m,i,g,y,x,A,B,d,f⟩ ⟨x1,x2,-⟩;have ha:=ha.c x1;have ha:=ha.c x2;refine af_ ha (⟨_,rfl,Zb R⟩) ?_;refine l_ (bE_ rfl rfl f6) ?_;exact Zx rfl
          ·rintro o467 w468 a469 ha ⟨hB,hS,u,k,s,m,i,g,y,x,A,B,d,f⟩ ⟨x3,x4,x5,-⟩;have ha:=ha.c x3;have ha:=ha.c x4;have ha:=ha.c x5;refine af_ ha (⟨_,rfl,Zb R⟩) ?_;refine an_ k d5 rfl rfl tY_ tZ_ ?_;exact⟨_,Stp.refl _ _ _,⟨_,rfl,k⟩⟩
          ·rintro o473 w474 a475 ha ⟨hB,hS,u,k,s,m,i,g,y,x,A,B,d,f⟩ ⟨x6,x7,-⟩;have ha:=ha.c x6;obtain⟨v478,x8,x9⟩:=x7;have ha:=ha.c x8;refine af_ ha (⟨_,rfl,Zb R⟩) ?_;refine db_ x9 d5 rfl rfl ua_ ?_;intro c481 y0;cases y0
           exact Zx rfl
          ·rintro o483 w484 a485 ha ⟨hB,hS,u,k,s,m,i,g,y,x,A,B,d,f⟩ ⟨y1,-⟩;have ha:=ha.c y1;refine af_ ha (⟨_,rfl,Zb R⟩) ?_;refine l_ (g_ rfl) ?_;exact Zx rfl
          ·rintro o487 w488 a489 ha ⟨hB,hS,u,k,s,m,i,g,y,x,A,B,d,f⟩ ⟨y2,-⟩;have ha:=ha.c y2;refine af_ ha (⟨_,rfl,Zb R⟩) ?_;refine l_ (g_ rfl) ?_;exact Zx rfl
          ·rintro o491 w492 a493 ha ⟨hB,hS,u,k,s,m,i,g,y,x,A,B,d,f⟩ ⟨y3,y4,y5,-⟩;have ha:=ha.c y3;have ha:=ha.c y4;have ha:=ha.c y5;refine af_ ha (⟨_,rfl,Zb R⟩) ?_;refine an_ k d6 rfl rfl tY_ tZ_ ?_;exact⟨_,Stp.refl _ _ _,⟨_,rfl,k⟩⟩
          ·rintro o497 w498 a499 ha ⟨hB,hS,u,k,s,m,i,g,y,x,A,B,d,f⟩ ⟨y6,y7,-⟩;have ha:=ha.c y6;obtain⟨v502,y8,y9⟩:=y7;have ha:=ha.c y8;refine af_ ha (⟨_,rfl,Zb R⟩) ?_;refine db_ y9 d6 rfl rfl ua_ ?_;intro c505 z0;cases z0
           exact Zx rfl
          ·rintro o507 w508 a509 ha ⟨hB,hS,u,k,s,m,i,g,y,x,A,B,d,f⟩ ⟨z1,z2,z3,-⟩;have ha:=ha.c z1;have ha:=ha.c z2;have ha:=ha.c z3;refine af_ ha (⟨_,rfl,Zb R⟩) ?_;refine l_ (dw_ rfl rfl) ?_;exact Zx rfl
          ·rintro o513 w514 a515 ha ⟨hB,hS,u,k,s,m,i,g,y,x,A,B,d,f⟩ ⟨z4,z5,z6,-⟩;have ha:=ha.c z4;have ha:=ha.c z5;have ha:=ha.c z6;refine af_ ha (⟨_,rfl,Zb U⟩) ?_;refine l_ (G_ (Zb R) rfl) ?_;exact Zx rfl
          ·rintro o519 w520 a521 ha ⟨hB,hS,u,k,s,m,i,g,y,x,A,B,d,f⟩ ⟨z7,z8,-⟩;have ha:=ha.c z7;have ha:=ha.c z8;refine af_ ha (⟨_,rfl,Zb U⟩) ?_;refine l_ (g_ rfl) ?_;exact Zx rfl
          ·rintro o524 w525 a526 ha ⟨hB,hS,u,k,s,m,i,g,y,x,A,B,d,f⟩ ⟨z9,-⟩;have ha:=ha.c z9;refine af_ ha (⟨_,rfl,Zb W⟩) ?_;refine l_ (g_ rfl) ?_;exact Zx rfl
          ·rintro o528 w529 a530 ha ⟨hB,hS,u,k,s,m,i,g,y,x,A,B,d,f⟩ ⟨r531,-⟩;have ha:=ha.c r531;refine af_ ha (⟨_,rfl,Zb W⟩) ?_;refine l_ (g_ rfl) ?_;exact Zx rfl
          ·rintro o532 w533 a534 ha ⟨hB,hS,u,k,s,m,i,g,y,x,A,B,d,f⟩ ⟨r535,r536,-⟩;have ha:=ha.c r535;have ha:=ha.c r536;refine af_ ha (⟨_,rfl,Zb W⟩) ?_;refine l_ (bE_ rfl rfl i5) ?_;exact Zx rfl
          ·rintro o537 w538 a539 ha ⟨hB,hS,u,k,s,m,i,g,y,x,A,B,d,f⟩ ⟨r540,r541,r542,-⟩;have ha:=ha.c r540;have ha:=ha.c r541;have ha:=ha.c r542;refine af_ ha (⟨_,rfl,Zb W⟩) ?_;refine an_ m f7 rfl rfl tY_ tZ_ ?_;exact⟨_,Stp.refl _ _ _,⟨_,rfl,m⟩⟩
          ·rintro o543 w544 a545 ha ⟨hB,hS,u,k,s,m,i,g,y,x,A,B,d,f⟩ ⟨r546,r547,-⟩;have ha:=ha.c r546;obtain⟨v548,e549,h550⟩:=r547;have ha:=ha.c e549;refine af_ ha (⟨_,rfl,Zb W⟩) ?_;refine db_ h550 f7 rfl rfl ua_ ?_;intro c551 h552;cases h552
           exact Zx rfl
          ·rintro o553 w554 a555 ha ⟨hB,hS,u,k,s,m,i,g,y,x,A,B,d,f⟩ ⟨r556,-⟩;have ha:=ha.c r556;refine af_ ha (⟨_,rfl,Zb W⟩) ?_;refine l_ (g_ rfl) ?_;exact Zx rfl
         rintro o557 w558 a559 ha ⟨hB,hS,u,k,s,m,i,g,y,x,A,B,d,f⟩ ⟨-,-,-,-,-,-,-,-,-,r560,-,-,-,-,-,-,-,-,-,-,-,-,-,-,r561,-,-,-,-,r562,r563,-⟩;have ha:=ha.c r560;have ha:=ha.c r561;have ha:=ha.c r562;have ha:=ha.c r563;refine aS_ ha ?_;simp only[List.length_cons,List.length_nil,Nat.zero_add,Nat.reduceAdd,List.drop_succ_cons,List.drop_zero];refine q_ (cD_ rfl rfl) (by decide) ⟨_,rfl,Zb W⟩ (q_ (G_ (Zb W) rfl) (by decide) ⟨_,rfl,Zb U⟩ (Zv (L_ (Zb U) rfl) ?_));have e564:=Zj G;subst e564;refine Ze [(1,_),(2,_),(3,_),(4,_),(5,_),(6,_),(12,_),(13,_),(65,_)] ?_;refine s_ (λa ha=>⟨o557,ha,hB,hS,u,k,s,m,i,g,y,x,A,B,d,f⟩)
      ·replace G:=ZF U G;refine cw_ (o:=Y) [(1,X),(2,N),(3,a2),(4,M),(5,O),(6,ZP F),(12,ZI (E.length:Int)),(13,ZI Q)] [1,2,3,4,5,6,12,13] [32,33,34,35,36,37,38,39,40,41,42,43,44,45,46,47,48,49,50,51,52,53,54,55,56,57,58,59,60,61,62] [[],[],[],[1,2],[3],[0,4],[5],[],[6,7],[8],[9],[9],[9],[12],[12],[12],[12],[12],[12],[12],[12],[12],[12],[9],[9],[24],[24],[24],[24],[24],[24]] [none,none,none,none,none,none,none,none,none,none,none,none,none,none,none,none,none,none,none,none,none,none,none,none,none,none,none,none,none,none,none] [999,999,999,999,999,999,999,999,999,999,999,999,999,999,999,999,999,999,999,999,999,999,999,999,999,999,999,999,999,999,999] [0,0,0,0,0,0,0,0,0,0,0,0,0,0,0,0,0,0,0,0,0,0,0,0,0,0,0,0,0,0,0] [999] [λv _ _=>v=a2,λv _ _=>v=N,λv _ _=>v=(ZI (E.length:Int)),λv o b1=>∃vl,v=adr vl ((E.length:Int).toNat*Rp.sz Int)∧RdL o b1 vl b4,λv _ _=>v=(ZI d7),λv o b1=>∃vl,v=adr vl (d7.toNat*Rp.sz Int)∧RdL o b1 vl c5,λv _ _=>v=(ZI d8),λv _ _=>v=(ZI Q),λv _ _=>v=(.bool c2),λv _ _=>v=(.bool c2),λv _ _=>v=undef,λv _ _=>v=undef,λv _ _=>v=undef,λv _ _=>v=undef,λv _ _=>v=undef,λv _ _=>v=undef,λv _ _=>v=undef,λv _ _=>v=undef,λv _ _=>v=undef,λv _ _=>v=undef,λv _ _=>v=undef,λv _ _=>v=undef,λv _ _=>v=undef,λv _ _=>v=undef,λv _ _=>v=undef,λv _ _=>v=undef,λv _ _=>v=undef,λv _ _=>v=undef,λv _ _=>v=undef,λv _ _=>v=undef,λv _ _=>v=undef] (λI J=>Bs oo I w J∧Stp 13 o a0 I J∧RdL I J X c6∧RdL I J N b4∧RdL I J a2 c5∧RdL I J M E∧Ow w.heap.size 3 13 I J O b5∧Bx w.heap.size 30 I J F 90 [ZI D.p.Labels,ZI D.p.Degree,d0,d1,ZI D.q.Labels,ZI D.q.Degree,d2,d3,d4,a7]∧RdL I J d0 (D.p.Nodes:Yk)∧RdL I J d1 (D.p.Edges:Yk)∧RdL I J d2 (D.q.Nodes:Yk)∧RdL I J d3 (D.q.Edges:Yk)∧RdL I J d4 (D.nodes:List Bool)∧RdL I J a7 (D.edges:List Bool)) ao_ (by kernel_rfl) rfl ⟨rfl,rfl,rfl,rfl,rfl,rfl,rfl,rfl,trivial⟩ ⟨hB,hS,u,k,s,m,i,g,y,x,A,B,d,f⟩ ?_ ⟨E_ _,E_ _,E_ _,λ_ _ _ _ _ _ b2 hb ⟨vl,e,h⟩ hs=>⟨vl,e,h.stp hs b2.1⟩,E_ _,λ_ _ _ _ _ _ b2 hb ⟨vl,e,h⟩ hs=>⟨vl,e,h.stp hs b2.1⟩,E_ _,E_ _,E_ _,E_ _,E_ _,E_ _,E_ _,E_ _,E_ _,E_ _,E_ _,E_ _,E_ _,E_ _,E_ _,E_ _,E_ _,E_ _,E_ _,E_ _,E_ _,E_ _,E_ _,E_ _,E_ _,trivial⟩ ?_ ?_
       ·rintro f5 k5 a0 k6 k7 a1 ⟨hB,hS,u,k,s,m,i,g,y,x,A,B,d,f⟩ C;have a1:f5=999:=by simpa using a1
        subst a1;all_goals exact⟨hB.stp C (by decide),hS.trW hO C (by decide) (by decide),u.stp C (by decide),k.stp C (by decide),s.stp C (by decide),m.stp C (by decide),i.stp C (by decide) (by decide),g.stp C (by decide),y.stp C (by decide),x.stp C (by decide),A.stp C (by decide),B.stp C (by decide),d.stp C (by decide),f.stp C (by decide)⟩
       ·refine⟨?_,?_,?_,?_,?_,?_,?_,?_,?_,?_,?_,?_,?_,?_,?_,?_,?_,?_,?_,?_,?_,?_,?_,?_,?_,?_,?_,?_,?_,?_,?_,trivial⟩
        ·rintro o565 w566 a567 ha ⟨hB,hS,u,k,s,m,i,g,y,x,A,B,d,f⟩-;refine Zs ha ?_;refine l_ (g_ rfl) ?_;exact Zx rfl
        ·rintro o568 w569 a570 ha ⟨hB,hS,u,k,s,m,i,g,y,x,A,B,d,f⟩-;refine Zs ha ?_;refine l_ (g_ rfl) ?_;exact Zx rfl
        ·rintro o571 w572 a573 ha ⟨hB,hS,u,k,s,m,i,g,y,x,A,B,d,f⟩-;refine Zs ha ?_;refine l_ (g_ rfl) ?_;exact Zx rfl
        ·rintro o574 w575 a576 ha ⟨hB,hS,u,k,s,m,i,g,y,x,A,B,d,f⟩ ⟨r577,r578,-⟩;have ha:=ha.c r577;have ha:=ha.c r578;refine Zs ha ?_;refine an_ k c3 rfl rfl tY_ tZ_ ?_;exact⟨_,Stp.refl _ _ _,⟨_,rfl,k⟩⟩
        ·rintro o579 w580 a581 ha ⟨hB,hS,u,k,s,m,i,g,y,x,A,B,d,f⟩ ⟨r582,-⟩;obtain⟨v583,e584,h585⟩:=r582;have ha:=ha.c e584;refine Zs ha ?_;refine db_ h585 c3 rfl rfl ua_ ?_;intro c586 h587;cases h587
         exact Zx rfl
        ·rintro o588 w589 a590 ha ⟨hB,hS,u,k,s,m,i,g,y,x,A,B,d,f⟩ ⟨r591,r592,-⟩;have ha:=ha.c r591;have ha:=ha.c r592;refine Zs ha ?_;refine an_ s c4 rfl rfl tY_ tZ_ ?_;exact⟨_,Stp.refl _ _ _,⟨_,rfl,s⟩⟩
        ·rintro o593 w594 a595 ha ⟨hB,hS,u,k,s,m,i,g,y,x,A,B,d,f⟩ ⟨r596,-⟩;obtain⟨v597,e598,h599⟩:=r596;have ha:=ha.c e598;refine Zs ha ?_;refine db_ h599 c4 rfl rfl ua_ ?_;intro c600 h601;cases h601
         exact Zx rfl
        ·rintro o602 w603 a604 ha ⟨hB,hS,u,k,s,m,i,g,y,x,A,B,d,f⟩-;refine Zs ha ?_;refine l_ (g_ rfl) ?_;exact Zx rfl
        ·rintro o605 w606 a607 ha ⟨hB,hS,u,k,s,m,i,g,y,x,A,B,d,f⟩ ⟨r608,r609,-⟩;have ha:=ha.c r608;have ha:=ha.c r609;refine Zs ha ?_;refine o_ (hI_ w606 d8 Q c2 e6) uC_ ⟨rfl,rfl,trivial⟩ ?_;rintro e614 w610 ⟨rfl,k611⟩;have e2:=k611.stp 999 o605;refine⟨_,rfl,?_⟩;replace u:=u.stp e2;replace k:=k.stp e2;replace s:=s.stp e2;replace m:=m.stp e2;exact⟨_,e2,rfl⟩
        ·rintro o615 w616 a617 ha ⟨hB,hS,u,k,s,m,i,g,y,x,A,B,d,f⟩ ⟨r618,-⟩;have ha:=ha.c r618;refine Zs ha ?_;refine l_ (g_ rfl) ?_;exact Zx rfl
        ·rintro o619 w620 a621 ha ⟨hB,hS,u,k,s,m,i,g,y,x,A,B,d,f⟩ ⟨r622,-⟩;have ha:=ha.c r622;exact aJ_ ha rfl rfl rfl (by rw[U];rfl) ⟨_,Stp.refl _ _ _,rfl⟩
        ·rintro o623 w624 a625 ha ⟨hB,hS,u,k,s,m,i,g,y,x,A,B,d,f⟩ ⟨r626,-⟩;have ha:=ha.c r626;exact aJ_ ha rfl rfl rfl (by rw[U];rfl) ⟨_,Stp.refl _ _ _,rfl⟩
        ·rintro o627 w628 a629 ha ⟨hB,hS,u,k,s,m,i,g,y,x,A,B,d,f⟩ ⟨r630,-⟩;have ha:=ha.c r630;exact aJ_ ha rfl rfl rfl (by rw[U];rfl) ⟨_,Stp.refl _ _ _,rfl⟩
        ·rintro o631 w632 a633 ha ⟨hB,hS,u,k,s,m,i,g,y,x,A,B,d,f⟩ ⟨r634,-⟩;have ha:=ha.c r634;exact dx_ ha rfl rfl rfl ⟨_,Stp.refl _ _ _,rfl⟩
        ·rintro o635 w636 a637 ha ⟨hB,hS,u,k,s,m,i,g,y,x,A,B,d,f⟩ ⟨r638,-⟩;have ha:=ha.c r638;exact dx_ ha rfl rfl rfl ⟨_,Stp.refl _ _ _,rfl⟩
        ·rintro o639 w640 a641 ha ⟨hB,hS,u,k,s,m,i,g,y,x,A,B,d,f⟩ ⟨r642,-⟩;have ha:=ha.c r642;exact dx_ ha rfl rfl rfl ⟨_,Stp.refl _ _ _,rfl⟩
        ·rintro o643 w644 a645 ha ⟨hB,hS,u,k,s,m,i,g,y,x,A,B,d,f⟩ ⟨r646,-⟩;have ha:=ha.c r646;exact dx_ ha rfl rfl rfl ⟨_,Stp.refl _ _ _,rfl⟩
        ·rintro o647 w648 a649 ha ⟨hB,hS,u,k,s,m,i,g,y,x,A,B,d,f⟩ ⟨r650,-⟩;have ha:=ha.c r650;exact dx_ ha rfl rfl rfl ⟨_,Stp.refl _ _ _,rfl⟩
        ·rintro o651 w652 a653 ha ⟨hB,hS,u,k,s,m,i,g,y,x,A,B,d,f⟩ ⟨r654,-⟩;have ha:=ha.c r654;exact dx_ ha rfl rfl rfl ⟨_,Stp.refl _ _ _,rfl⟩
        ·rintro o655 w656 a657 ha ⟨hB,hS,u,k,s,m,i,g,y,x,A,B,d,f⟩ ⟨r658,-⟩;have ha:=ha.c r658;exact dx_ ha rfl rfl rfl ⟨_,Stp.refl _ _ _,rfl⟩
        ·rintro o659 w660 a661 ha ⟨hB,hS,u,k,s,m,i,g,y,x,A,B,d,f⟩ ⟨r662,-⟩;have ha:=ha.c r662;exact dx_ ha rfl rfl rfl ⟨_,Stp.refl _ _ _,rfl⟩
        ·rintro o663 w664 a665 ha ⟨hB,hS,u,k,s,m,i,g,y,x,A,B,d,f⟩ ⟨r666,-⟩;have ha:=ha.c r666;exact dx_ ha rfl rfl rfl ⟨_,Stp.refl _ _ _,rfl⟩
        ·rintro o667 w668 a669 ha ⟨hB,hS,u,k,s,m,i,g,y,x,A,B,d,f⟩ ⟨r670,-⟩;have ha:=ha.c r670;exact dx_ ha rfl rfl rfl ⟨_,Stp.refl _ _ _,rfl⟩
        ·rintro o671 w672 a673 ha ⟨hB,hS,u,k,s,m,i,g,y,x,A,B,d,f⟩ ⟨r674,-⟩;have ha:=ha.c r674;exact aJ_ ha rfl rfl rfl (by rw[U];rfl) ⟨_,Stp.refl _ _ _,rfl⟩
        ·rintro o675 w676 a677 ha ⟨hB,hS,u,k,s,m,i,g,y,x,A,B,d,f⟩ ⟨r678,-⟩;have ha:=ha.c r678;exact aJ_ ha rfl rfl rfl (by rw[U];rfl) ⟨_,Stp.refl _ _ _,rfl⟩
        ·rintro o679 w680 a681 ha ⟨hB,hS,u,k,s,m,i,g,y,x,A,B,d,f⟩ ⟨r682,-⟩;have ha:=ha.c r682;exact dx_ ha rfl rfl rfl ⟨_,Stp.refl _ _ _,rfl⟩
        ·rintro o683 w684 a685 ha ⟨hB,hS,u,k,s,m,i,g,y,x,A,B,d,f⟩ ⟨r686,-⟩;have ha:=ha.c r686;exact dx_ ha rfl rfl rfl ⟨_,Stp.refl _ _ _,rfl⟩
        ·rintro o687 w688 a689 ha ⟨hB,hS,u,k,s,m,i,g,y,x,A,B,d,f⟩ ⟨r690,-⟩;have ha:=ha.c r690;exact dx_ ha rfl rfl rfl ⟨_,Stp.refl _ _ _,rfl⟩
        ·rintro o691 w692 a693 ha ⟨hB,hS,u,k,s,m,i,g,y,x,A,B,d,f⟩ ⟨r694,-⟩;have ha:=ha.c r694;exact dx_ ha rfl rfl rfl ⟨_,Stp.refl _ _ _,rfl⟩
        ·rintro o695 w696 a697 ha ⟨hB,hS,u,k,s,m,i,g,y,x,A,B,d,f⟩ ⟨r698,-⟩;have ha:=ha.c r698;exact dx_ ha rfl rfl rfl ⟨_,Stp.refl _ _ _,rfl⟩
        ·rintro o699 w700 a701 ha ⟨hB,hS,u,k,s,m,i,g,y,x,A,B,d,f⟩ ⟨r702,-⟩;have ha:=ha.c r702;exact dx_ ha rfl rfl rfl ⟨_,Stp.refl _ _ _,rfl⟩
       rintro o703 w704 a705 ha ⟨hB,hS,u,k,s,m,i,g,y,x,A,B,d,f⟩ ⟨-,-,-,-,-,-,-,-,-,r706,-,-,-,-,-,-,-,-,-,-,-,-,-,-,r707,-,-,-,-,r708,r709,-⟩;have ha:=ha.c r706;have ha:=ha.c r707;have ha:=ha.c r708;have ha:=ha.c r709;refine aS_ ha ?_;simp only[List.length_cons,List.length_nil,Nat.zero_add,Nat.reduceAdd,List.drop_succ_cons,List.drop_zero];refine ak_ rfl rfl (by decide) ?_;refine v_ rfl rfl (by rw[U];rfl) (by decide) ?_;refine Zv (G_ (Zb U) rfl) ?_;have e710:=Zj G;subst e710;refine Ze [(1,_),(2,_),(3,_),(4,_),(5,_),(6,_),(12,_),(13,_),(65,_)] ?_;refine s_ (λa ha=>⟨o703,ha,hB,hS,u,k,s,m,i,g,y,x,A,B,d,f⟩)
     rintro a711 b7 ⟨b0,ha,hB,hS,u,k,s,m,i,g,y,x,A,B,d,f⟩;refine ap_k ha ?_;refine nx ?_;refine p_ rfl (λf8=>?_) (λf8=>?_)
     ·rw[if_pos f8] at a6;obtain⟨f9,i6,a6⟩:=a_ a6;obtain⟨g0,i7,a6⟩:=a_ a6;refine cw_ (o:=b0) [(1,X),(2,N),(3,a2),(4,M),(5,O),(6,ZP F),(12,ZI (E.length:Int)),(13,ZI Q)] [1,2,3,4,5,6,12,13] [66,67,68,69,70,71,72,73,74,75] [[],[],[],[],[],[4],[],[6],[5,7],[]] [none,none,none,none,none,some 8,none,none,none,none] [999,999,999,999,999,999,999,999,36,999] [0,0,0,0,0,36,0,0,36,0] [36,999] [λv _ _=>v=(.agg #[ZI D.p.Labels,ZI D.p.Degree,d0,d1,ZI D.q.Labels,ZI D.q.Degree,d2,d3,d4,a7]),λv _ _=>v=X,λv _ _=>v=N,λv _ _=>v=a2,λv _ _=>v=M,λv o b1=>Ow w.heap.size 3 36 o b1 v f9,λv _ _=>v=(ZI Q),λv o b1=>RdL o b1 v (([Q]:Yl):Yl),λv o b1=>Ow w.heap.size 3 36 o b1 v g0,λv _ _=>v=O] (λI J=>Bs oo I w J∧Stp 13 o a0 I J∧RdL I J X c6∧RdL I J N b4∧RdL I J a2 c5∧RdL I J M E∧Ow w.heap.size 3 13 I J O b5∧Bx w.heap.size 30 I J F 90 [ZI D.p.Labels,ZI D.p.Degree,d0,d1,ZI D.q.Labels,ZI D.q.Degree,d2,d3,d4,a7]∧RdL I J d0 (D.p.Nodes:Yk)∧RdL I J d1 (D.p.Edges:Yk)∧RdL I J d2 (D.q.Nodes:Yk)∧RdL I J d3 (D.q.Edges:Yk)∧RdL I J d4 (D.nodes:List Bool)∧RdL I J a7 (D.edges:List Bool)) ao_ (by kernel_rfl) rfl ⟨rfl,rfl,rfl,rfl,rfl,rfl,rfl,rfl,trivial⟩ ⟨hB,hS,u,k,s,m,i,g,y,x,A,B,d,f⟩ ?_ ⟨E_ _,E_ _,E_ _,E_ _,E_ _,λ_ _ _ _ _ _ b2 hb h hs=>h.stp hs b2.1 (Ne.symm hb),E_ _,λ_ _ _ _ _ _ b2 hb h hs=>h.stp hs b2.1,λ_ _ _ _ _ _ b2 hb h hs=>h.stp hs b2.1 (Ne.symm hb),E_ _,trivial⟩ ?_ ?_
      ·rintro f5 k5 a0 k6 k7 a1 ⟨hB,hS,u,k,s,m,i,g,y,x,A,B,d,f⟩ C;have a1:f5=36∨f5=999:=by simpa using a1
       rcases a1 with rfl|rfl
       all_goals exact⟨hB.stp C (by decide),hS.trW hO C (by decide) (by decide),u.stp C (by decide),k.stp C (by decide),s.stp C (by decide),m.stp C (by decide),i.stp C (by decide) (by decide),g.stp C (by decide),y.stp C (by decide),x.stp C (by decide),A.stp C (by decide),B.stp C (by decide),d.stp C (by decide),f.stp C (by decide)⟩
      ·refine⟨?_,?_,?_,?_,?_,?_,?_,?_,?_,?_,trivial⟩
       ·rintro o734 w735 a736 ha ⟨hB,hS,u,k,s,m,i,g,y,x,A,B,d,f⟩-;refine Zs ha ?_;refine l_ (H_ rfl Tryz.isAgg90 Tryz.sizeOf90 rfl g.cells) ?_;exact Zx rfl
       ·rintro o737 w738 a739 ha ⟨hB,hS,u,k,s,m,i,g,y,x,A,B,d,f⟩-;refine Zs ha ?_;refine l_ (g_ rfl) ?_;exact Zx rfl
       ·rintro o740 w741 a742 ha ⟨hB,hS,u,k,s,m,i,g,y,x,A,B,d,f⟩-;refine Zs ha ?_;refine l_ (g_ rfl) ?_;exact Zx rfl
       ·rintro o743 w744 a745 ha ⟨hB,hS,u,k,s,m,i,g,y,x,A,B,d,f⟩-;refine Zs ha ?_;refine l_ (g_ rfl) ?_;exact Zx rfl
       ·rintro o746 w747 a748 ha ⟨hB,hS,u,k,s,m,i,g,y,x,A,B,d,f⟩-;refine Zs ha ?_;refine l_ (g_ rfl) ?_;exact Zx rfl
       ·rintro o749 w750 a751 ha ⟨hB,hS,u,k,s,m,i,g,y,x,A,B,d,f⟩ ⟨r752,-⟩;have ha:=ha.c r752;refine Zs ha ?_;refine o_ (er_ w750 o749 36 (by decide) _ E m.z f9 i6) Tryz.call66 ⟨rfl,trivial⟩ ?_;rintro e759 w753 ⟨v754,o760,rfl,g1,k756,k757⟩;have e3:=k756.stp' 999 k757;replace g1:=g1.mono hB.keeps.size;refine⟨_,rfl,?_⟩;replace u:=u.stp e3;replace k:=k.stp e3;replace s:=s.stp e3;replace m:=m.stp e3;exact⟨_,e3,g1⟩
       ·rintro o761 w762 a763 ha ⟨hB,hS,u,k,s,m,i,g,y,x,A,B,d,f⟩-;refine Zs ha ?_;refine l_ (g_ rfl) ?_;exact Zx rfl
       ·rintro o764 w765 a766 ha ⟨hB,hS,u,k,s,m,i,g,y,x,A,B,d,f⟩ ⟨r767,-⟩;have ha:=ha.c r767;refine Zs ha ?_;refine aB_ (o:=o764) (cs:=[ZI Q]) (xs:=([Q]:Yl)) (vs:=[(0,ZI Q)]) ⟨_,_,rfl,rfl,rfl⟩ rfl ⟨rfl,rfl,trivial⟩ tY_ tZ_ Tryz.zeroValue3 (by decide) (fill1 rfl) (by simp) ?_;intro o768 w769 v770 h771 e4 k773;replace u:=u.stp e4;replace k:=k.stp e4;replace s:=s.stp e4;replace m:=m.stp e4;exact⟨_,e4,h771⟩
       ·rintro o774 h2 e8 ha ⟨hB,hS,u,k,s,m,i,g,y,x,A,B,d,f⟩ ⟨e9,c7,-⟩;replace e9:Ow w.heap.size 3 36 o774 h2 (e8.tmps.getD 71 undef) f9:=e9;generalize e780:e8.tmps.getD 71 undef=v779 at e9;have ha:=ha.c e780;replace c7:RdL o774 h2 (e8.tmps.getD 73 undef) (([Q]:Yl):Yl):=c7;generalize e782:e8.tmps.getD 73 undef=v781 at c7;have ha:=ha.c e782;refine Zs ha ?_;refine bf_ e9 c7 (ai_ i7) (by decide) hB.keeps.size rfl rfl tY_ kr_ rfl (by decide) ?_;intro o783 w784 v785 h786 c8;replace u:=u.stp c8;replace k:=k.stp c8;replace s:=s.stp c8;replace m:=m.stp c8;replace c7:=c7.stp c8;exact⟨_,c8,h786⟩
       ·rintro o788 w789 a790 ha ⟨hB,hS,u,k,s,m,i,g,y,x,A,B,d,f⟩-;refine Zs ha ?_;refine l_ (g_ rfl) ?_;exact Zx rfl
      rintro o791 h4 h5 ha ⟨hB,hS,u,k,s,m,i,g,y,x,A,B,d,f⟩ ⟨r794,r795,r796,r797,-,-,-,-,c0,r799,-⟩;have ha:=ha.c r794;have ha:=ha.c r795;have ha:=ha.c r796;have ha:=ha.c r797;replace c0:Ow w.heap.size 3 36 o791 h4 (h5.tmps.getD 74 undef) g0:=c0;generalize e801:h5.tmps.getD 74 undef=v800 at c0;have ha:=ha.c e801;have ha:=ha.c r799;refine aS_ ha ?_;simp only[List.length_cons,List.length_nil,Nat.zero_add,Nat.reduceAdd,List.drop_succ_cons,List.drop_zero];replace hS:=hS.frzW hO 36 (by decide) (by decide);replace u:=u.frz 36;replace k:=k.frz 36;replace s:=s.frz 36;replace m:=m.frz 36;replace i:=i.frz_ne (j:=36) (by decide);replace y:=y.frz 36;replace x:=x.frz 36;replace A:=A.frz 36;replace B:=B.frz 36;replace d:=d.frz 36;replace f:=f.frz 36;have h802:=c0.frzF;replace c0:=c0.frz;replace g:=g.frz_ne (j:=36) (by decide);replace hB:=hB.frz 36 (by decide);generalize (frz 36 o791)=o803 at*;obtain⟨h6,i8,a6⟩:=a_ a6;refine Zo ?_;refine o_ (ih w h4 oo o803 hB _ D ⟨_,_,_,_,_,_,rfl,y,x,A,B,d,f⟩ _ c6 u _ b4 k _ c5 s _ g0 c0 _ b5 i h6 i8) Tryz.call122 ⟨rfl,rfl,rfl,rfl,rfl,rfl,trivial⟩ ?_;rintro e807 w805 ⟨o806,rfl,h808,-,a3⟩;refine⟨_,rfl,?_⟩;replace hS:=hS.trans a3;replace u:=u.stp a3;replace k:=k.stp a3;replace s:=s.stp a3;replace m:=m.stp a3;replace y:=y.stp a3;replace x:=x.stp a3;replace A:=A.stp a3;replace B:=B.stp a3;replace d:=d.stp a3;replace f:=f.stp a3;replace c0:=c0.stp a3;replace g:=g.stp a3;replace hB:=hB.stp a3;refine Ze [(1,_),(2,_),(3,_),(4,_),(5,_),(6,_),(12,_),(13,_)] (y_ (nx (d_ (Zm rfl ?_))));obtain⟨g2,i9,a6⟩:=a_ a6;refine Zv (C_ rfl rfl i9) (Za rfl (Ze [(1,_),(2,_),(3,_),(4,_),(5,_),(6,_),(12,_),(13,_)] (x_ ?_)));have e811:=Zj a6;subst e811;refine Zk [(1,_),(2,_),(3,_),(4,_),(5,_),(6,_),(12,_),(13,_)] ?_;intro a ha;exact⟨K32,by omega,h6,g2,o806,i3,ha,hB,hS,u,k,s,m,h808,g,y,x,A,B,d,f⟩
     ·replace a6:=ZF f8 a6;refine h_ (y_ (nx (d_ (Zm rfl ?_))));obtain⟨g3,j0,a6⟩:=a_ a6;refine Zv (C_ rfl rfl j0) (Za rfl (Ze [(1,_),(2,_),(3,_),(4,_),(5,_),(6,_),(12,_),(13,_)] (x_ ?_)));have e813:=Zj a6;subst e813;refine Zk [(1,_),(2,_),(3,_),(4,_),(5,_),(6,_),(12,_),(13,_)] ?_;intro a ha;exact⟨K32,by omega,b5,g3,b0,i3,ha,hB,hS,u,k,s,m,i,g,y,x,A,B,d,f⟩
    ·replace a6:=ZF i4 a6;refine w_ ?_;refine m_ (m_ (Q_ ?_));refine s_ ?_;have e814:=Zj a6;subst e814;refine Zk [(5,_)] ?_;intro a ha;exact⟨b5,Q,Y,i3,ha,hB,hS,i⟩
   ·rintro a a5 ⟨b5,Q,Y,rfl,ha,hB,hS,i⟩;dsimp only at hF;refine ap_k ha ?_;refine nx (n_ (I_ ?_));have e815:=Zj hF;subst e815;refine N_ (P:=tX_) (vs:=[]) va_ trivial ?_;exact⟨Y,rfl,i,hB,hS⟩
   ·exact λ_ _ h=>h.elim
  ·replace hF:=ZF i2 hF;refine h_ (Zn (Za rfl (Ze [(1,_),(2,_),(4,_),(5,_),(6,_),(14,_)] (nx (b_ (Zq (Zm rfl (Zv (J_ rfl m tY_) (Zm rfl (Ze [(1,_),(2,_),(4,_),(5,_),(6,_),(14,_),(77,_),(78,_),(79,_)] (nx ?_)))))))))));obtain⟨h7,j1,hF⟩:=a_ hF;refine A_ (λa S=>∃(a8:Int)(L:Tg),h7=.inl a8∧Fr a 114 [(1,X),(2,N),(4,M),(5,O),(14,ZI a8)]∧Bs oo L w S∧Stp 13 o a0 L S∧RdL L S X c6∧RdL L S N b4∧RdL L S M E∧Ow w.heap.size 3 13 L S O f4) (λ_ _=>False) ?_ ?_ ?_
   ·refine f_ ?_;refine z_ (λ(K:Nat) a S=>∃(Z:Int)(a8:Int)(L:Tg),forI (ba_ D) (E.drop Z.toNat) Z a8=some h7∧(E.drop Z.toNat).length=K∧0<=Z∧Fr a 114 [(1,X),(2,N),(4,M),(5,O),(6,ZP F),(14,ZI a8),(77,M),(78,ZI (E.length:Int)),(79,ZI Z)]∧Bs oo L w S∧Stp 13 o a0 L S∧RdL L S X c6∧RdL L S N b4∧RdL L S M E∧Ow w.heap.size 3 13 L S O f4∧Bx w.heap.size 30 L S F 90 [ZI D.p.Labels,ZI D.p.Degree,d0,d1,ZI D.q.Labels,ZI D.q.Degree,d2,d3,d4,a7]∧RdL L S d0 (D.p.Nodes:Yk)∧RdL L S d1 (D.p.Edges:Yk)∧RdL L S d2 (D.q.Nodes:Yk)∧RdL L S d3 (D.q.Edges:Yk)∧RdL L S d4 (D.nodes:List Bool)∧RdL L S a7 (D.edges:List Bool)) _ (λa ha=>⟨0,0,k2,j1,rfl,Int.le_refl 0,ha.sb,hB,hS,u,k,m,e5,g,y,x,A,B,d,f⟩) ?_;rintro K824 a S ⟨Z,a8,L,h8,m823,z822,ha,hB,hS,u,k,m,e5,g,y,x,A,B,d,f⟩;by_cases f0:Z<(E.length:Int)
    ·obtain⟨x829,q825,j2,c9,n827⟩:=R_ z822 f0 h8;have hle:=m.len_le;dsimp only[ba_] at c9;refine O_ ha ?_;refine Zq (Zv (u_ rfl rfl) (Ze [(1,_),(2,_),(4,_),(5,_),(6,_),(14,_),(77,_),(78,_),(79,_),(80,_)] (nx (b_ ?_))));refine M_ (Zb (decide_eq_true f0)) ?_;refine h_ (nx (b_ (f_ (Zq (Zo ?_)))));refine fn_ m j2 rfl rfl tY_ tZ_ ?_;intro b830 f831 c832 h833 h834;cases h834
     refine Zv (e_ rfl ua_ (i_ h833)) (Za rfl (Ze [(1,_),(2,_),(4,_),(5,_),(6,_),(14,_),(16,_),(77,_),(78,_),(79,_)] (nx (d_ (Zm rfl (Zv (r_ rfl up_ rfl uc_) (Zv (r_ rfl ud_ rfl tZ_) (Zv (e_ rfl ua_ (g.cell rfl)) ?_))))))));obtain⟨x835,j3,c9⟩:=a_ c9;refine Zv (iS_ rfl rfl j3) (Zm rfl ?_);obtain⟨f1,j4,c9⟩:=a_ c9;refine Zv (C_ rfl rfl j4) (Za rfl (Ze [(1,X),(2,N),(4,M),(5,O),(6,ZP F),(14,ZI f1),(77,M),(78,ZI (E.length:Int)),(79,ZI Z)] (y_ (nx (d_ (Zv (C_ rfl rfl (F_ (by omega) (by omega))) (Zm rfl (Ze [(1,_),(2,_),(4,_),(5,_),(6,_),(14,_),(77,_),(78,_),(79,_)] (x_ ?_)))))))));have e837:=Zj c9;subst e837;refine Zk [(1,_),(2,_),(4,_),(5,_),(6,_),(14,_),(77,_),(78,_),(79,_)] ?_;intro a ha;exact⟨_,(by rw[<-m823];simp only[List.length_drop];omega),Z+1,f1,L,n827,rfl,by omega,ha,hB,hS,u,k,m,e5,g,y,x,A,B,d,f⟩
    ·have r838:=S_ f0 h8;refine O_ ha ?_;refine Zq (Zv (u_ rfl rfl) (Ze [(1,_),(2,_),(4,_),(5,_),(6,_),(14,_),(77,_),(78,_),(79,_),(80,_)] (nx (b_ ?_))));refine D_ (Zb (decide_eq_false f0)) ?_;refine w_ ?_;refine m_ (m_ (Q_ ?_));refine s_ ?_;refine Zk [(1,_),(2,_),(4,_),(5,_),(14,_)] ?_;intro a ha;exact⟨a8,L,r838,ha,hB,hS,u,k,m,e5⟩
   ·rintro a S ⟨a8,L,rfl,ha,hB,hS,u,k,m,e5⟩;dsimp only at hF;refine ap_k ha ?_;refine Zn (Zm rfl (Zm rfl ?_));obtain⟨x839,j5,hF⟩:=a_ hF;refine Zo ?_;refine fn_ u j5 rfl rfl Tryz.underlying87 Tryz.sizeOf4 ?_;intro b840 f841 c842 h843 h844;cases h844
    refine Zv (e_ rfl Tryz.isAgg4 (i_ h843)) (Ze [(2,_),(4,_),(5,_),(94,_)] (nx ?_));refine p_ rfl (λg4=>?_) (λg4=>?_)
    ·rw[if_pos g4] at hF;refine Zq (Zm rfl (Zv (J_ rfl m tY_) (Zm rfl (Ze [(2,_),(5,_),(95,_),(96,_),(97,_)] (nx ?_)))));obtain⟨h9,j6,hF⟩:=a_ hF;refine A_ (λa b3=>∃(b6:Yl)(a4:Tg),h9=.inl b6∧Fr a 114 [(5,O)]∧Bs oo a4 w b3∧Stp 13 o a0 a4 b3∧Ow w.heap.size 3 13 a4 b3 O b6) (λ_ _=>False) ?_ ?_ ?_
     ·refine f_ ?_;refine z_ (λ(K:Nat) a b3=>∃(T:Int)(b6:Yl)(a4:Tg),forI (bd_ b4) (E.drop T.toNat) T b6=some h9∧(E.drop T.toNat).length=K∧0<=T∧Fr a 114 [(2,N),(5,O),(95,M),(96,ZI (E.length:Int)),(97,ZI T)]∧Bs oo a4 w b3∧Stp 13 o a0 a4 b3∧RdL a4 b3 N b4∧Ow w.heap.size 3 13 a4 b3 O b6∧RdL a4 b3 M E) _ (λa ha=>⟨0,f4,L,j6,rfl,Int.le_refl 0,ha.sb,hB,hS,k,e5,m⟩) ?_;rintro K855 a b3 ⟨T,b6,a4,i0,m854,z853,ha,hB,hS,k,V,m⟩;by_cases f2:T<(E.length:Int)
      ·obtain⟨g5,q856,j7,a9,n858⟩:=R_ z853 f2 i0;have hle:=m.len_le;dsimp only[bd_] at a9;refine O_ ha ?_;refine Zq (Zv (u_ rfl rfl) (Ze [(2,_),(5,_),(95,_),(96,_),(97,_),(98,_)] (nx (b_ ?_))));refine M_ (Zb (decide_eq_true f2)) ?_;refine h_ (nx (b_ (f_ (Zq (Zm rfl (Zo ?_))))));refine fn_ m j7 rfl rfl tY_ tZ_ ?_;intro b861 f862 c863 h864 h865;cases h865
       refine Zv (e_ rfl ua_ (i_ h864)) (Za rfl (Za rfl (Ze [(2,_),(5,_),(17,_),(18,_),(95,_),(96,_),(97,_)] (nx ?_))));obtain⟨i1,g6,a9⟩:=a_ a9;obtain⟨x869,g7,a9⟩:=a_ a9;obtain⟨x872,j8,a9⟩:=a_ a9;refine cw_ (o:=a4) [(2,N),(5,O),(17,ZI T),(18,ZI g5),(95,M),(96,ZI (E.length:Int)),(97,ZI T)] [2,5,17,18,95,96,97] [102,103,104,105,106,107,108,109,110] [[],[],[],[1,2],[3],[0,4],[5],[],[7]] [none,none,none,none,none,none,none,none,none] [999,999,999,999,999,999,999,999,999] [0,0,0,0,0,13,0,0,0] [999] [λv _ _=>v=O,λv _ _=>v=N,λv _ _=>v=(ZI T),λv o b1=>∃vl,v=adr vl (T.toNat*Rp.sz Int)∧RdL o b1 vl b4,λv _ _=>v=(ZI i1),λv o b1=>∃vl,v=adr vl (i1.toNat*Rp.sz Int)∧Ow w.heap.size 3 13 o b1 vl b6,λv _ _=>v=(ZI x869),λv _ _=>v=(ZI g5),λv _ _=>v=(ZI x872)] (λI J=>Bs oo I w J∧Stp 13 o a0 I J∧RdL I J N b4∧Ow w.heap.size 3 13 I J O b6∧RdL I J M E) ao_ (by kernel_rfl) rfl ⟨rfl,rfl,rfl,rfl,rfl,rfl,rfl,trivial⟩ ⟨hB,hS,k,V,m⟩ ?_ ⟨E_ _,E_ _,E_ _,λ_ _ _ _ _ _ b2 hb ⟨vl,e,h⟩ hs=>⟨vl,e,h.stp hs b2.1⟩,E_ _,λ_ _ _ _ _ _ b2 hb ⟨vl,e,h⟩ hs=>⟨vl,e,h.stp hs b2.1 (Ne.symm hb)⟩,E_ _,E_ _,E_ _,trivial⟩ ?_ ?_
       ·rintro f5 k5 a0 k6 k7 a1 ⟨hB,hS,k,V,m⟩ C;have a1:f5=999:=by simpa using a1
        subst a1;all_goals exact⟨hB.stp C (by decide),hS.trW hO C (by decide) (by decide),k.stp C (by decide),V.stp C (by decide) (by decide),m.stp C (by decide)⟩
       ·refine⟨?_,?_,?_,?_,?_,?_,?_,?_,?_,trivial⟩
        ·rintro o873 w874 a875 ha ⟨hB,hS,k,V,m⟩-;refine Zs ha ?_;refine l_ (g_ rfl) ?_;exact Zx rfl
        ·rintro o876 w877 a878 ha ⟨hB,hS,k,V,m⟩-;refine Zs ha ?_;refine l_ (g_ rfl) ?_;exact Zx rfl
        ·rintro o879 w880 a881 ha ⟨hB,hS,k,V,m⟩-;refine Zs ha ?_;refine l_ (g_ rfl) ?_;exact Zx rfl
        ·rintro o882 w883 a884 ha ⟨hB,hS,k,V,m⟩ ⟨r885,r886,-⟩;have ha:=ha.c r885;have ha:=ha.c r886;refine Zs ha ?_;refine an_ k g6 rfl rfl tY_ tZ_ ?_;exact⟨_,Stp.refl _ _ _,⟨_,rfl,k⟩⟩
        ·rintro o887 w888 a889 ha ⟨hB,hS,k,V,m⟩ ⟨r890,-⟩;obtain⟨v891,e892,h893⟩:=r890;have ha:=ha.c e892;refine Zs ha ?_;refine db_ h893 g6 rfl rfl ua_ ?_;intro c894 h895;cases h895
         exact Zx rfl
        ·rintro o896 w897 a898 ha ⟨hB,hS,k,V,m⟩ ⟨r899,r900,-⟩;have ha:=ha.c r899;have ha:=ha.c r900;refine Zs ha ?_;refine bI_ V g7 rfl rfl tY_ tZ_ ?_;exact⟨_,Stp.refl _ _ _,⟨_,rfl,V⟩⟩
        ·rintro o901 w902 a903 ha ⟨hB,hS,k,V,m⟩ ⟨r904,-⟩;obtain⟨v905,e906,h907⟩:=r904;have ha:=ha.c e906;refine Zs ha ?_;refine bq_ h907 g7 rfl rfl ua_ ?_;intro c908 h909;cases h909
         exact Zx rfl
        ·rintro o910 w911 a912 ha ⟨hB,hS,k,V,m⟩-;refine Zs ha ?_;refine l_ (g_ rfl) ?_;exact Zx rfl
        ·rintro o913 w914 a915 ha ⟨hB,hS,k,V,m⟩ ⟨r916,-⟩;have ha:=ha.c r916;refine Zs ha ?_;refine l_ (fI_ rfl rfl j8) ?_;exact Zx rfl
       rintro o917 w918 a919 ha ⟨hB,hS,k,V,m⟩ ⟨r920,-,-,-,r921,-,r922,-,r923,-⟩;have ha:=ha.c r920;have ha:=ha.c r921;have ha:=ha.c r922;have ha:=ha.c r923;refine aS_ ha ?_;simp only[List.length_cons,List.length_nil,Nat.zero_add,Nat.reduceAdd,List.drop_succ_cons,List.drop_zero];refine Zv (tf_ rfl rfl) ?_;obtain⟨x924,j9,a9⟩:=a_ a9;refine Zo ?_;refine fs_ V j9 rfl rfl tY_ tZ_ ?_;intro b925 c927 h930 h928 h929;cases h929
       obtain⟨x933,k0,a9⟩:=a_ a9;refine am_ trivial ?_;refine cc_ V h930 k0 rfl (by decide) rfl rfl rfl tZ_ rfl ?_;intro w931 h934 f3;replace hS:=hS.trans f3;replace k:=k.stp f3;replace m:=m.stp f3;replace hB:=hB.stp f3;refine Ze [(2,N),(5,O),(95,M),(96,ZI (E.length:Int)),(97,ZI T)] (y_ (nx (d_ (Zv (C_ rfl rfl (F_ (by omega) (by omega))) (Zm rfl (Ze [(2,_),(5,_),(95,_),(96,_),(97,_)] (x_ ?_)))))));have e935:=Zj a9;subst e935;refine Zk [(2,_),(5,_),(95,_),(96,_),(97,_)] ?_;intro a ha;exact⟨_,(by rw[<-m854];simp only[List.length_drop];omega),T+1,x933,o917,n858,rfl,by omega,ha,hB,hS,k,h934,m⟩
      ·have r936:=S_ f2 i0;refine O_ ha ?_;refine Zq (Zv (u_ rfl rfl) (Ze [(2,_),(5,_),(95,_),(96,_),(97,_),(98,_)] (nx (b_ ?_))));refine D_ (Zb (decide_eq_false f2)) ?_;refine w_ ?_;refine m_ (m_ (Q_ ?_));refine s_ ?_;refine Zk [(5,_)] ?_;intro a ha;exact⟨b6,a4,r936,ha,hB,hS,V⟩
     ·rintro a b3 ⟨b6,a4,rfl,ha,hB,hS,V⟩;dsimp only at hF;refine ap_k ha ?_;have e937:=Zj hF;subst e937;refine ln_ (P:=tX_) (vs:=[]) va_ trivial ?_;exact⟨a4,rfl,V,hB,hS⟩
     ·exact λ_ _ h=>h.elim
    ·replace hF:=ZF g4 hF;refine h_ ?_;have e938:=Zj hF;subst e938;refine ln_ (P:=tX_) (vs:=[]) va_ trivial ?_;exact⟨L,rfl,e5,hB,hS⟩
   ·exact λ_ _ h=>h.elim
end
end Go.Proofs.YtdbbeldgdgonfaaGreat
