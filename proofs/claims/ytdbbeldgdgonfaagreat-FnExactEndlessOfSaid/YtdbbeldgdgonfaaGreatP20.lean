/- Part 20 of what this claim rests on (Kfz, GGw, GRt), packed by pack.py. -/
import Derived.Test.YtdbbeldgdgonfaaGreatP03
import Derived.Test.YtdbbeldgdgonfaaGreatP04
import Derived.Test.YtdbbeldgdgonfaaGreatP19
namespace Go.Proofs.YtdbbeldgdgonfaaGreat
open Tryz renaming prog→tX_, underlying41→tY_, sizeOf28→uc_, underlying28→ud_, sizeOf3→tZ_, isAgg3→ua_, results83→vb_, call66→uo_, isAgg90→uu_, sizeOf90→uv_, call82→wi_, zeroValue3→uh_, call83→wj_, isAgg28→ue_, call47→uK_, underlying87→us_, sizeOf4→uy_, results54→vc_, sizeOf22→ui_, isAgg22→uj_, call81→wk_
set_option linter.unusedSimpArgs false
set_option linter.unusedVariables false
section
open Go.RowKit
theorem Of.stpF{α:Type}[Rp α]{e:TypeId}{k t:Nat}{o o':Tg}{w w':World}{v:Value}{xs:List α}(h:Of e (Go.Proofs.YtdbbeldgdgonfaaGreat.frz k o) w v xs)(s:Stp t o w o' w')(ht:t≠0)(hk:t≠k):Of e (Go.Proofs.YtdbbeldgdgonfaaGreat.frz k o') w' v xs:=by
 have s':Stp t (Go.Proofs.YtdbbeldgdgonfaaGreat.frz k o) w (Go.Proofs.YtdbbeldgdgonfaaGreat.frz k o') w':=⟨s.os,s.tape,s.output,s.size,λb hb hn=>s.block b hb (λh=>by
  unfold Go.Proofs.YtdbbeldgdgonfaaGreat.frz at hn;rw[if_neg (by rw[h];exact hk)] at hn;exact hn h),λb hb=>by unfold Go.Proofs.YtdbbeldgdgonfaaGreat.frz;rw[s.own b hb]⟩
 exact Of.stp h s' ht
theorem tq_{P:Program}{f:FuncId}{args:Array Value}{w:World}{e9:TypeId}{oo:Tg}{l:List Int}{b:Bool}(k:Nat)
  (H:Calls P f args w (λe w'=>∃(v0:Value)(o':Tg),e=.returned (.tuple #[v0,.bool b])∧Of e9 o' w' v0 l∧Keeps w w'∧∀c,c<w.heap.size->o' c=frz k oo c)):
  Calls P f args w (λe w'=>∃(v0:Value)(o':Tg),e=.returned (.tuple #[v0,.bool b])∧Of e9 (frz k o') w' v0 l∧Keeps w w'∧∀c,c<w.heap.size->o' c=oo c):=by
 refine H.mono ?_;rintro e w' ⟨v0,o3,rfl,h,hk,ho⟩;refine⟨v0,λc=>if c<w.heap.size then oo c else o3 c,rfl,Ow.mv0 h (λc hc=>?_),hk,λc hc=>if_pos hc⟩;unfold frz;by_cases hlt:c<w.heap.size
 ·simp only[if_pos hlt];rw[ho c hlt] at hc;exact hc
 ·simp only[if_neg hlt];split
  ·rfl
  ·exact hc
end
section
set_option maxRecDepth 100000
set_option maxHeartbeats 2000000
open Go.RowKit
theorem kC_:Inf tX_ 3 (.int .i64 0) 1 8:=by unfold Inf;kernel_rfl
def bS_(fuel:Nat)(m:B_)(f:List Int)(n:List Int)(self:B_->(List Int)->(List Int)->Option ((List Int)×Bool)):Int->Int->Unit->Option (Lp Unit Unit ((List Int)×Bool)):=λ(q:Int)(b:Int)(s:Unit)=>
  (da_ n)>>=λc=>
  (shl 1 b)>>=λg=>
  (ix c (f.length:Int))>>=λu=>
  (st c (f.length:Int) g)>>=λi=>
  (bC_ fuel m i)>>=λd=>
  if d.2 then
    (da_ f)>>=λj=>
    (push j b)>>=λk=>
    (self m k d.1)>>=λa=>
    if a.2 then
      some (.ret (a.1,true))
    else
      some (.go ())
  else
    some (.go ())
def aP_:Nat->B_->(List Int)->(List Int)->Option ((List Int)×Bool)
  |0=>λ_ _ _=>none
  | fuel+1=>λf a g=>
    if(a.length:Int)==f.p.Labels then
      some (a,true)
    else
      (ix g (a.length:Int))>>=λb=>
      (cn_ fuel b)>>=λc=>
      (forI (bS_ fuel f a g (aP_ fuel)) c 0 ())>>=λd=>
      match d with
      | .inl _=>
        some ([],false)
      | .inr r'=>some r'
def gA_(oo:Tg)(t:Nat)(w:World)(r:Yl×Bool):Ending->World->Prop:=λe w'=>∃(a:Value)(o':Tg),e=.returned (.tuple #[a,.bool r.2])∧Of 3 o' w' a r.1∧Keeps w w'∧∀b,b<w.heap.size->o' b=oo b
theorem iZ_(fuel:Nat):∀(w:World)(oo:Tg)(t:Nat)(ht:2<=t)(i7:List Value)(u:B_)(d8:Rp.rd oo w i7 u)(D:Value)(a5:Yl)(x:Of 3 oo w D a5)(J:Value)(d7:Yl)(i8:RdL zt w J d7)(r:Yl×Bool)(hF:aP_ fuel u a5 d7=some r),Calls tX_ 83 #[.agg i7.toArray,D,J] w (gA_ oo t w r):=by
 induction fuel with
 |zero=>
  intro w oo t ht i7 u d8 D a5 x J d7 i8 r hF;unfold aP_ at hF;cases hF
 | succ fuel ih=>
  intro w oo t ht i7 u d8 D a5 x J d7 i8 r hF;unfold aP_ at hF;replace d8:=Rp.col d8;obtain⟨c4,c5,c6,c7,c8,T,rfl,E,F,G,H,b,d⟩:=d8;replace x:=x.col;have g1r:=x.rd;have hB:Bs oo (col oo) w w:=Bs.start _ _;refine j_ (n:=62) (vs:=[.agg #[ZI u.p.Labels,ZI u.p.Degree,c4,c5,ZI u.q.Labels,ZI u.q.Degree,c6,c7,c8,T],D,J]) Tryz.func83 rfl rfl ?_;generalize col oo=o at*;refine Zq (Zo ?_);refine aD_ (o:=o) w.heap.size 11 hB.keeps.size (cs:=[ZI u.p.Labels,ZI u.p.Degree,c4,c5,ZI u.q.Labels,ZI u.q.Degree,c6,c7,c8,T]) rfl rfl ?_;intro d9 i9 s g S;replace g1r:=g1r.stp S;replace x:=x.stp S;replace E:=E.stp S;replace F:=F.stp S;replace G:=G.stp S;replace H:=H.stp S;replace b:=b.stp S;replace d:=d.stp S;replace hB:=hB.stp S;refine Za rfl (Za rfl (Ze [(1,_),(2,_),(3,_)] (nx (b_ (Zq (Zm rfl (Zv (J_ rfl g1r tY_) (Zv (r_ rfl Tryz.underlying90 rfl uc_) (Zv (r_ rfl ud_ rfl tZ_) (Zv (e_ rfl ua_ (g.cell rfl)) (Zv (cD_ rfl rfl) (Ze [(1,_),(2,_),(3,_),(20,_)] ?_))))))))))));refine nx ?_;refine p_ rfl (λc9=>?_) (λc9=>?_)
  ·rw[if_pos c9] at hF;refine Zq (Zm rfl (Za rfl (Za rfl (Ze [(6,_),(7,_)] (nx (n_ (I_ ?_)))))));have j0:=Zj hF;subst j0;refine Zr vb_ [D,.bool true] ?_;exact⟨_,rt oo d9 w.heap.size 9 t,rfl,x.rt hB 9 t (by decide),hB.keeps,ac_ _ _ _ _ _⟩
  ·replace hF:=ZF c9 hF;refine h_ (nx (b_ (Zq (Zm rfl (Zm rfl (Zv (J_ rfl g1r tY_) ?_))))));obtain⟨j1,e0,hF⟩:=a_ hF;refine Zo ?_;refine wf_atZ i8 e0 hB rfl rfl tY_ tZ_ ?_;intro o7 o8 o9 j2 j3;cases j3
   refine Zv (e_ rfl ua_ (i_ j2)) ?_;obtain⟨i,e1,hF⟩:=a_ hF;refine Zo ?_;refine o_ (gc_ fuel i9 d9 12 (by decide) j1 i e1) Tryz.call123 ⟨rfl,trivial⟩ ?_;rintro p0 p1 ⟨A,j4,rfl,f,j5,j6⟩;have Q:=j5.stp' 12 j6;replace f:=f.mono hB.keeps.size;refine⟨_,rfl,?_⟩;replace g1r:=g1r.stp Q;replace x:=x.stp Q;replace g:=g.stp Q;replace E:=E.stp Q;replace F:=F.stp Q;replace G:=G.stp Q;replace H:=H.stp Q;replace b:=b.stp Q;replace d:=d.stp Q;replace hB:=hB.stp Q;refine Zv (bt_ rfl f tY_) (Zm rfl (Ze [(1,_),(2,_),(3,_),(27,_),(28,_),(29,_)] (nx ?_)));obtain⟨d0,e2,hF⟩:=a_ hF;refine A_ (λa C=>∃(B:Tg),d0=.inl ()∧Fr a 62 []∧Bs oo B w C) (λa w'=>∃r',d0=.inr r'∧bodyPost tX_ Tryz.f83 (gA_ oo t w r') .ret a w') ?_ ?_ ?_
   ·refine f_ ?_;refine z_ (λ(K:Nat) a C=>∃(k:Int)(B:Tg),forI (bS_ fuel u a5 d7 (aP_ fuel)) (i.drop k.toNat) k ()=some d0∧(i.drop k.toNat).length=K∧0<=k∧Fr a 62 [(1,D),(2,J),(3,ZP s),(27,A),(28,ZI (i.length:Int)),(29,ZI k)]∧Bs oo B w C∧RdL B C D a5∧Of 3 B C D a5∧Ow w.heap.size 3 12 B C A i∧Bx w.heap.size 11 B C s 90 [ZI u.p.Labels,ZI u.p.Degree,c4,c5,ZI u.q.Labels,ZI u.q.Degree,c6,c7,c8,T]∧RdL B C c4 (u.p.Nodes:Yk)∧RdL B C c5 (u.p.Edges:Yk)∧RdL B C c6 (u.q.Nodes:Yk)∧RdL B C c7 (u.q.Edges:Yk)∧RdL B C c8 (u.nodes:List Bool)∧RdL B C T (u.edges:List Bool)) _ (λa ha=>⟨0,j4,e2,rfl,Int.le_refl 0,ha.sb,hB,g1r,x,f,g,E,F,G,H,b,d⟩) ?_;rintro K42 a C ⟨k,B,e3,e4,j7,ha,hB,g1r,x,f,g,E,F,G,H,b,d⟩;by_cases b2:k<(i.length:Int)
    ·obtain⟨L,p2,e5,m,d1⟩:=R_ j7 b2 e3;have hle:=f.len_le;dsimp only[bS_] at m;refine O_ ha ?_;refine Zq (Zv (u_ rfl rfl) (Ze [(1,_),(2,_),(3,_),(27,_),(28,_),(29,_),(30,_)] (nx (b_ ?_))));refine M_ (Zb (decide_eq_true b2)) ?_;refine h_ (nx (b_ (f_ (Zq (Zo ?_)))));refine fS_ f e5 rfl rfl tY_ tZ_ ?_;intro p3 p4 p5 j8 j9;cases j9
     refine Zv (e_ rfl ua_ (i_ j8)) (Za rfl (Ze [(1,_),(2,_),(3,_),(9,_),(27,_),(28,_),(29,_)] (Zn (Zm rfl ?_))));obtain⟨k0,e6,m⟩:=a_ m;refine Zo ?_;refine o_ (er_ C B 13 (by decide) _ d7 (i8.keep hB.keeps) k0 e6) uo_ ⟨rfl,trivial⟩ ?_;rintro p6 p7 ⟨e7,k1,rfl,b3,k2,k3⟩;have M:=k2.stp' 13 k3;replace b3:=b3.mono hB.keeps.size;refine⟨_,rfl,?_⟩;replace g1r:=g1r.stp M;replace x:=x.stp M;replace f:=f.stp M;replace g:=g.stp M;replace E:=E.stp M;replace F:=F.stp M;replace G:=G.stp M;replace H:=H.stp M;replace b:=b.stp M;replace d:=d.stp M;replace hB:=hB.stp M;refine Za rfl (Ze [(1,_),(2,_),(3,_),(9,_),(10,_),(27,_),(28,_),(29,_)] (Zn (Zm rfl (Zm rfl (Zv (J_ rfl g1r tY_) (Zm rfl ?_))))));obtain⟨p8,e8,m⟩:=a_ m;refine Zv (fI_ rfl rfl e8) ?_;obtain⟨p9,e9,m⟩:=a_ m;refine Zo ?_;refine fs_ b3 e9 rfl rfl tY_ tZ_ ?_;intro q0 q1 k4 q2 k5;cases k5
     obtain⟨k6,f0,m⟩:=a_ m;refine am_ trivial ?_;refine cc_ b3 k4 f0 rfl (by decide) rfl rfl rfl tZ_ rfl ?_;intro k7 k8 N;replace g1r:=g1r.stp N;replace x:=x.stp N;replace f:=f.stp N;replace g:=g.stp N;replace E:=E.stp N;replace F:=F.stp N;replace G:=G.stp N;replace H:=H.stp N;replace b:=b.stp N;replace d:=d.stp N;replace hB:=hB.stp N;refine Ze [(1,_),(2,_),(3,_),(9,_),(10,_),(27,_),(28,_),(29,_)] (Zn (Zv (H_ rfl uu_ uv_ rfl g.cells) (Zm rfl ?_)));obtain⟨a6,f1,m⟩:=a_ m;refine Zo ?_;refine o_ (ft_ fuel k7 k1 14 (by decide) _ u (⟨_,_,_,_,_,_,rfl,E,F,G,H,b,d⟩) _ k6 k8.z a6 f1) wi_ ⟨rfl,rfl,trivial⟩ ?_;rintro q3 q4 ⟨b4,k9,rfl,I,l0,l1⟩;have O:=l0.stp' 14 l1;replace I:=I.mono hB.keeps.size;refine⟨_,rfl,?_⟩;replace g1r:=g1r.stp O;replace x:=x.stp O;replace f:=f.stp O;replace E:=E.stp O;replace F:=F.stp O;replace G:=G.stp O;replace H:=H.stp O;replace b:=b.stp O;replace d:=d.stp O;replace g:=g.stp O;replace hB:=hB.stp O;refine Zm rfl (Zv (t_ rfl rfl) (Zv (t_ rfl rfl) (Za rfl (Za rfl (Ze [(1,_),(2,_),(3,_),(9,_),(11,_),(12,_),(27,_),(28,_),(29,_)] (Zn (Zm rfl (Ze [(1,_),(2,_),(3,_),(9,_),(11,_),(27,_),(28,_),(29,_),(47,_)] (nx ?_)))))))));refine p_ rfl (λd2=>?_) (λd2=>?_)
     ·rw[if_pos d2] at m;refine b_ ?_;obtain⟨d3,f2,m⟩:=a_ m;obtain⟨d4,f3,m⟩:=a_ m;obtain⟨y,d5,m⟩:=a_ m;refine ZW (Bf:=λa3 a4=>Bs oo a3 w a4∧RdL a3 a4 D a5∧Of 3 a3 a4 D a5∧Ow w.heap.size 3 14 a3 a4 b4 (a6.1:Yl)∧Ow w.heap.size 3 12 a3 a4 A i∧Bx w.heap.size 11 a3 a4 s 90 [ZI u.p.Labels,ZI u.p.Degree,c4,c5,ZI u.q.Labels,ZI u.q.Degree,c6,c7,c8,T]∧RdL a3 a4 c4 (u.p.Nodes:Yk)∧RdL a3 a4 c5 (u.p.Edges:Yk)∧RdL a3 a4 c6 (u.q.Nodes:Yk)∧RdL a3 a4 c7 (u.q.Edges:Yk)∧RdL a3 a4 c8 (u.nodes:List Bool)∧RdL a3 a4 T (u.edges:List Bool)) [(1,_),(2,_),(3,_),(9,_),(11,_),(27,_),(28,_),(29,_)] (Zrg 49 8++[48,57,58,13]) [[],[],[1],[],[3],[2,4],[],[0,5,6],[7],[8],[8],[9]] [none,none,some 5,none,none,none,none,none,none,none,none,none] [999,999,999,999,999,15,999,999,999,999,999,999] [0,0,15,0,0,15,0,15,15,15,0,15] [15,999] [.inl (.agg #[ZI u.p.Labels,ZI u.p.Degree,c4,c5,ZI u.q.Labels,ZI u.q.Degree,c6,c7,c8,T]),.inl D,.inr (λv o a1=>Ow w.heap.size 3 15 o a1 v d3),.inl (ZI L),.inr (λv o a1=>RdL o a1 v (([L]:Yl):Yl)),.inr (λv o a1=>Ow w.heap.size 3 15 o a1 v d4),.inl b4,.inr (λv o a1=>∃b5,v=.tuple #[b5,.bool y.2]∧Of 3 (frz 15 o) a1 b5 (y.1:Yl)),.inr (λv o a1=>∃b5,v=.tuple #[b5,.bool y.2]∧Of 3 (frz 15 o) a1 b5 (y.1:Yl)),.inr (λv o a1=>Of 3 (frz 15 o) a1 v (y.1:Yl)),.inl (.bool y.2),.inr (λv o a1=>Of 3 (frz 15 o) a1 v (y.1:Yl))] ⟨hB,g1r,x,I,f,g,E,F,G,H,b,d⟩ ⟨λ_ _ _ _ _ _ a2 hb h hs=>h.stp hs a2.1 (Ne.symm hb),λ_ _ _ _ _ _ a2 hb h hs=>h.stp hs a2.1,λ_ _ _ _ _ _ a2 hb h hs=>h.stp hs a2.1 (Ne.symm hb),λ_ _ _ _ _ _ a2 hb ⟨b5,e,d6⟩ hs=>⟨b5,e,d6.stpF hs a2.1 hb⟩,λ_ _ _ _ _ _ a2 hb ⟨b5,e,d6⟩ hs=>⟨b5,e,d6.stpF hs a2.1 hb⟩,λ_ _ _ _ _ _ a2 hb h hs=>h.stpF hs a2.1 hb,λ_ _ _ _ _ _ a2 hb h hs=>h.stpF hs a2.1 hb,trivial⟩ ?_ ?_
      ·refine⟨Dq λh=>H_ rfl uu_ uv_ rfl h.2.2.2.2.2.1.cells,Dp (g_ rfl),?_,Dp (g_ rfl),?_,?_,Dp (g_ rfl),?_,?_,?_,?_,?_,trivial⟩
       ·rintro f4 f5 l2 ha ⟨hB,g1r,x,I,f,g,E,F,G,H,b,d⟩-;refine Zs ha ?_;refine o_ (er_ f5 f4 15 (by decide) _ a5 g1r.z d3 f2) uo_ ⟨rfl,trivial⟩ ?_;rintro l3 l4 ⟨l5,l6,rfl,a7,f6,f7⟩;have a8:=f6.stp' 999 f7;replace a7:=a7.mono hB.keeps.size;refine⟨_,rfl,?_⟩;replace g1r:=g1r.stp a8;replace x:=x.stp a8;exact⟨_,a8,a7⟩
       ·rintro f8 l7 l8 ha ⟨hB,g1r,x,I,f,g,E,F,G,H,b,d⟩-;refine Zs ha ?_;refine aB_ (o:=f8) (cs:=[ZI L]) (xs:=([L]:Yl)) (vs:=[(0,ZI L)]) ⟨_,_,rfl,rfl,rfl⟩ rfl ⟨rfl,rfl,trivial⟩ tY_ tZ_ uh_ (by decide) (fill1 rfl) (by simp) ?_;intro l9 m0 m1 f9 a9 m2;replace g1r:=g1r.stp a9;replace x:=x.stp a9;exact⟨_,a9,f9⟩
       ·rintro b6 b7 U ha ⟨hB,g1r,x,I,f,g,E,F,G,H,b,d⟩ ⟨V,R,-⟩;replace V:Ow w.heap.size 3 15 b6 b7 (U.tmps.getD 51 undef) d3:=V;generalize g0:U.tmps.getD 51 undef=m3 at V;have ha:=ha.c g0;replace R:RdL b6 b7 (U.tmps.getD 53 undef) (([L]:Yl):Yl):=R;generalize g1:U.tmps.getD 53 undef=m4 at R;have ha:=ha.c g1;refine Zs ha ?_;refine bf_ V R (ai_ f3) (by decide) hB.keeps.size rfl rfl tY_ kC_ rfl (by decide) ?_;intro m5 m6 m7 g2 W;replace g1r:=g1r.stp W;replace x:=x.stp W;replace R:=R.stp W;exact⟨_,W,g2⟩
       ·rintro b8 b9 c0 ha ⟨hB,g1r,x,I,f,g,E,F,G,H,b,d⟩ ⟨X,-⟩;replace X:Ow w.heap.size 3 15 b8 b9 (c0.tmps.getD 54 undef) d4:=X;generalize g3:c0.tmps.getD 54 undef=m8 at X;have ha:=ha.c g3;refine Zs ha ?_;refine o_ (tq_ 15 (ih b9 (frz 15 b8) 17 (by decide) _ u (⟨_,_,_,_,_,_,rfl,E.frz 15,F.frz 15,G.frz 15,H.frz 15,b.frz 15,d.frz 15⟩) _ d4 X.frzF _ a6.1 I.z y d5)) wj_ ⟨rfl,rfl,rfl,trivial⟩ ?_;rintro m9 n0 ⟨n1,n2,rfl,g4,g5,g6⟩;have b0:=g5.stp' 999 g6;refine⟨_,rfl,?_⟩;replace g1r:=g1r.stp b0;replace x:=x.stp b0;exact⟨_,b0,⟨_,rfl,g4⟩⟩
       ·rintro n3 n4 n5 ha ⟨hB,g1r,x,I,f,g,E,F,G,H,b,d⟩ ⟨g7,-⟩;obtain⟨n6,g8,g9⟩:=g7;have ha:=ha.c g8;refine Zs ha ?_;refine l_ (g_ rfl) ?_;exact⟨_,Stp.refl _ _ _,⟨_,rfl,g9⟩⟩
       ·rintro n7 n8 n9 ha ⟨hB,g1r,x,I,f,g,E,F,G,H,b,d⟩ ⟨h0,-⟩;obtain⟨o0,h1,h2⟩:=h0;have ha:=ha.c h1;refine Zs ha ?_;refine l_ (t_ rfl rfl) ?_;exact⟨_,Stp.refl _ _ _,h2⟩
       ·rintro o1 o2 o3 ha ⟨hB,g1r,x,I,f,g,E,F,G,H,b,d⟩ ⟨h3,-⟩;obtain⟨o4,h4,o5⟩:=h3;have ha:=ha.c h4;refine Zs ha ?_;refine l_ (t_ rfl rfl) ?_;exact Zx rfl
       ·rintro h5 h6 c1 ha ⟨hB,g1r,x,I,f,g,E,F,G,H,b,d⟩ ⟨Y,-⟩;replace Y:Of 3 (frz 15 h5) h6 (c1.tmps.getD 57 undef) (y.1:Yl):=Y;generalize h7:c1.tmps.getD 57 undef=o6 at Y;have ha:=ha.c h7;refine Zs ha ?_;refine l_ (ah_ rfl) ?_;exact⟨_,Stp.refl _ _ _,Y⟩
      rintro _ rfl o207z h8 c2 ha ⟨hB,g1r,x,I,f,g,E,F,G,H,b,d⟩ ⟨-,-,-,-,-,Z,-⟩;replace Z:Of 3 (frz 15 o207z) h8 (c2.tmps.getD 13 undef) (y.1:Yl):=Z;generalize h9:c2.tmps.getD 13 undef=a0 at Z;have ha:=ha.c h9;replace hB:=hB.frz 15 (by decide);replace g1r:=g1r.frz 15;replace x:=x.frz 15 (by decide);replace f:=f.frz_ne (j:=15) (by decide);replace g:=g.frz_ne (j:=15) (by decide);replace E:=E.frz 15;replace F:=F.frz 15;replace G:=G.frz 15;replace H:=H.frz 15;replace b:=b.frz 15;replace d:=d.frz 15;generalize frz 15 o207z=c3 at*;refine aS_ ha ?_;refine Za rfl (Ze [(1,_),(2,_),(3,_),(13,_),(14,_),(27,_),(28,_),(29,_)] (Zn (Zm rfl (Ze [(1,_),(2,_),(3,_),(13,_),(27,_),(28,_),(29,_),(59,_)] (nx ?_)))));refine p_ rfl (λb1=>?_) (λb1=>?_)
      ·rw[if_pos b1] at m;refine Zq (Zm rfl (Za rfl (Za rfl (Ze [(6,_),(7,_)] (nx (n_ (aq_ (I_ (I_ (aq_ ?_))))))))));refine cK_ ?_;have i0:=Zj m;subst i0;refine λa ha=>⟨_,d1,?_⟩;refine N_ (P:=tX_) (vs:=[a0,.bool true]) vb_ ⟨rfl,rfl,trivial⟩ ?_ a ha;exact⟨_,rt oo c3 w.heap.size 9 t,rfl,Z.rt hB 9 t (by decide),hB.keeps,ac_ _ _ _ _ _⟩
      ·replace m:=ZF b1 m;refine h_ (y_ (nx (d_ (Zv (C_ rfl rfl (F_ (by omega) (by omega))) (Zm rfl (Ze [(1,_),(2,_),(3,_),(27,_),(28,_),(29,_)] (x_ ?_)))))));have i1:=Zj m;subst i1;refine Zk [(1,_),(2,_),(3,_),(27,_),(28,_),(29,_)] ?_;intro a ha;exact⟨_,(by rw[<-e4];simp only[List.length_drop];omega),k+1,c3,d1,rfl,by omega,ha,hB,g1r,x,f,g,E,F,G,H,b,d⟩
     ·replace m:=ZF d2 m;refine h_ (y_ (nx (d_ (Zv (C_ rfl rfl (F_ (by omega) (by omega))) (Zm rfl (Ze [(1,_),(2,_),(3,_),(27,_),(28,_),(29,_)] (x_ ?_)))))));have i2:=Zj m;subst i2;refine Zk [(1,_),(2,_),(3,_),(27,_),(28,_),(29,_)] ?_;intro a ha;exact⟨_,(by rw[<-e4];simp only[List.length_drop];omega),k+1,k9,d1,rfl,by omega,ha,hB,g1r,x,f,g,E,F,G,H,b,d⟩
    ·have i3:=S_ b2 e3;refine O_ ha ?_;refine Zq (Zv (u_ rfl rfl) (Ze [(1,_),(2,_),(3,_),(27,_),(28,_),(29,_),(30,_)] (nx (b_ ?_))));refine D_ (Zb (decide_eq_false b2)) ?_;refine w_ ?_;refine m_ (m_ (Q_ ?_));refine s_ ?_;refine Zk [] ?_;intro a ha;exact⟨B,i3,ha,hB⟩
   ·rintro a C ⟨B,rfl,ha,hB⟩;dsimp only at hF;refine ap_k ha ?_;refine Zn (Za rfl (Za rfl (Ze [(6,_),(7,_)] (nx (n_ ?_)))));have i4:=Zj hF;subst i4;refine Zr vb_ [.slice none 0 0,.bool false] ?_;exact⟨_,rt oo B w.heap.size 9 t,rfl,Of.nil _ _ _,hB.keeps,ac_ _ _ _ _ _⟩
   ·rintro a C ⟨r',rfl,i5⟩;dsimp only at hF;have i6:=Zj hF;subst i6;exact i5
end
section
set_option maxRecDepth 100000
set_option maxHeartbeats 2000000
open Go.RowKit
theorem hv_:Inf tX_ 3 (.int .i64 0) 1 8:=by unfold Inf;kernel_rfl
theorem jN_:Inf tX_ 4 (.bool false) 1 1:=by unfold Inf;kernel_rfl
theorem fJ_:(tX_.info? 90).map (·.size)=some 10:=by kernel_rfl
def ia_(fuel:Nat)(d:c_)(f:c_):Option Bool:=
  (ey_ fuel d)>>=λa=>
  (
    if a then
      (ey_ fuel f)>>=λb=>
      if b then
        some (d.Degree==f.Degree)
      else
        some false
    else
      some false)>>=λc=>
  some c
def sr_(w:World)(r:Bool):Ending->World->Prop:=λe w'=>e=.returned (.bool r)∧Keeps w w'
theorem su_(fuel:Nat)(w:World)(N:List Value)(k:c_)(T:Rp.rd zt w N k)(O:List Value)(m:c_)(U:Rp.rd zt w O m)(r:Bool)(hF:ia_ fuel k m=some r):
    Calls tX_ 80 #[.agg N.toArray,.agg O.toArray] w (sr_ w r):=by
 unfold ia_ at hF;obtain⟨P,Q,rfl,V,W⟩:=T;obtain⟨R,S,rfl,X,Y⟩:=U;have hB:Bs (λ_=>1) (col (λ_=>1)) w w:=Bs.start _ _;refine j_ (n:=18) (vs:=[.agg #[ZI k.Labels,ZI k.Degree,P,Q],.agg #[ZI m.Labels,ZI m.Degree,R,S]]) Tryz.func80 rfl rfl ?_;refine Zq (Zo ?_);refine aD_ (o:=(col (λ_=>1))) w.heap.size 11 hB.keeps.size (cs:=[ZI k.Labels,ZI k.Degree,P,Q]) rfl rfl ?_;intro Z a0 E g F;replace hB:=hB.stp F;refine Zo ?_;refine aD_ (o:=Z) w.heap.size 12 hB.keeps.size (cs:=[ZI m.Labels,ZI m.Degree,R,S]) rfl rfl ?_;intro q G H i v;replace g:=g.stp v;replace hB:=hB.stp v;refine Za rfl (Ze [(2,_),(3,_)] (Zn (Zv (H_ rfl ue_ uc_ rfl g.cells) ?_)));obtain⟨x,y,hF⟩:=a_ hF;refine Zo ?_;refine o_ (ic_ fuel G _ k (⟨_,_,rfl,V.keep hB.keeps,W.keep hB.keeps⟩) x y) uK_ ⟨rfl,trivial⟩ ?_;rintro a1 j ⟨rfl,I⟩;have s:=I.stp 999 q;refine⟨_,rfl,?_⟩;replace g:=g.stp s;replace i:=i.stp s;replace hB:=hB.stp s;refine Zm rfl ?_;obtain⟨u,c,hF⟩:=a_ hF;refine aF_ 10 (λJ z=>Fr J 18 [(17,.bool u)]∧Keeps j z) ?_ ?_;all_goals simp only[List.take_succ_cons,List.take_zero,List.drop_succ_cons,List.drop_zero]
 ·have kp:Keeps j j:=Keeps.refl _;rcases Bool.eq_false_or_eq_true (x) with f|f
  ·rw[if_pos f] at c;refine q_ (H_ rfl ue_ uc_ rfl i.cells) (by decide) ⟨_,rfl,Zb f⟩ ?_;obtain⟨A,B,c⟩:=a_ c;refine ct_ (by decide) ⟨_,rfl,Zb f⟩ ?_;refine o_ (ic_ fuel j _ m (⟨_,_,rfl,X.keep hB.keeps,Y.keep hB.keeps⟩) A B) uK_ ⟨rfl,trivial⟩ ?_;rintro a2 a3 ⟨rfl,C⟩;have D:=C.stp 999 q;refine⟨_,rfl,?_⟩;replace g:=g.stp D;replace i:=i.stp D;replace kp:=Keeps.trans kp C;refine Zv (L_ (Zb f) rfl) (Zm rfl ?_);rcases Bool.eq_false_or_eq_true (A) with b|b
   ·rw[if_pos b] at c;refine q_ (r_ rfl ud_ rfl tZ_) (by decide) ⟨_,rfl,Zb b⟩ (q_ (e_ rfl ua_ (g.cell rfl)) (by decide) ⟨_,rfl,Zb b⟩ (q_ (r_ rfl ud_ rfl tZ_) (by decide) ⟨_,rfl,Zb b⟩ (q_ (e_ rfl ua_ (i.cell rfl)) (by decide) ⟨_,rfl,Zb b⟩ (q_ (cD_ rfl rfl) (by decide) ⟨_,rfl,Zb b⟩ (Zv (L_ (Zb b) rfl) ?_)))));have d:=Zj c;refine Ze [(17,_)] ?_;subst d;refine s_ (λa ha=>⟨ha,kp⟩)
   ·replace c:=ZF b c;refine v_ rfl rfl (by rw[b];rfl) (by decide) ?_;refine v_ rfl rfl (by rw[b];rfl) (by decide) ?_;refine v_ rfl rfl (by rw[b];rfl) (by decide) ?_;refine v_ rfl rfl (by rw[b];rfl) (by decide) ?_;refine v_ rfl rfl (by rw[b];rfl) (by decide) ?_;refine Zv (G_ (Zb b) rfl) ?_;have d:=Zj c;refine Ze [(17,_)] ?_;subst d;refine s_ (λa ha=>⟨ha,kp⟩)
  ·replace c:=ZF f c;refine v_ rfl rfl (by rw[f];rfl) (by decide) ?_;refine v_ rfl rfl (by rw[f];rfl) (by decide) ?_;refine Zv (G_ (Zb f) rfl) (Zm rfl ?_);refine v_ rfl rfl rfl (by decide) ?_;refine v_ rfl rfl rfl (by decide) ?_;refine v_ rfl rfl rfl (by decide) ?_;refine v_ rfl rfl rfl (by decide) ?_;refine v_ rfl rfl rfl (by decide) ?_;refine Zv (G_ rfl rfl) ?_;have d:=Zj c;refine Ze [(17,_)] ?_;subst d;refine s_ (λa ha=>⟨ha,kp⟩)
 rintro a4 z ⟨ha,K⟩;have L:=K.stp 999 q;replace hB:=hB.stp L;refine aS_ ha ?_;refine Za rfl (Ze [(4,_)] (nx (n_ ?_)));have M:=Zj hF;subst M;refine Zr Tryz.results80 [.bool u] ?_;exact⟨rfl,hB.keeps⟩
def dq_(c:Int)(d:Int):(Int×Int)->Option (Lp (Int×Int) (Int×Int) (List Bool)):=λ(s:Int×Int)=>
  if decide (s.2<d) then
    (ck (s.1*c))>>=λa=>
    (ck (s.2+1))>>=λb=>
    some (.go (a,b))
  else
    some (.out (s.1,s.2))
def cO_(d:Int)(f:Int):((List Int)×Int)->Option (Lp ((List Int)×Int) ((List Int)×Int) (List Bool)):=λ(s:(List Int)×Int)=>
  if decide ((s.1.length:Int)<f) then
    (rem s.2 d)>>=λa=>
    (push s.1 a)>>=λb=>
    (quo s.2 d)>>=λc=>
    some (.go (b,c))
  else
    some (.out (s.1,s.2))
def dX_(fuel:Nat)(i:List (List Int))(j:Int)(k:Int):Int->(List Bool)->Option (Lp (List Bool) (List Bool) (List Bool)):=λ(a:Int)(s:List Bool)=>
  (loopF (cO_ j k) fuel ([],a))>>=λc=>
  match c with
  | .inl (d,m)=>
    (dn_ fuel d)>>=λf=>
    (fz_ i f)>>=λg=>
    (ix s a)>>=λn=>
    (st s a g)>>=λb=>
    some (.go b)
  | .inr _=>none
def eS_(fuel:Nat)(g:List (List Int))(d:Int)(f:Int):Option (List Bool):=
  (loopF (dq_ d f) fuel (1,0))>>=λi=>
  match i with
  | .inl (j,k)=>
    (mk (Rz.z:Bool) j)>>=λa=>
    ck (a.length:Int)>>=λ_=>
    (forN (dX_ fuel g d f) ((a.length:Int)).toNat 0 a)>>=λb=>
    match b with
    | .inl c=>
      some c
    | .inr _=>none
  | .inr _=>none
def pm_(oo:Tg)(t:Nat)(w:World)(r:List Bool):Ending->World->Prop:=λe w'=>∃(a:Value)(o':Tg),e=.returned (a)∧RdL o' w' a r∧Keeps w w'∧∀b,b<w.heap.size->o' b=oo b
theorem kU_(fuel:Nat)(w:World)(oo:Tg)(t:Nat)(ht:2<=t)(j:Value)(c2:Yk)(e9:RdL zt w j c2)(i:Int)(g:Int)(r:List Bool)(hF:eS_ fuel c2 i g=some r):
    Calls tX_ 81 #[j,.int .i64 i,.int .i64 g] w (pm_ oo t w r):=by
 unfold eS_ at hF;have hB:Bs oo (col oo) w w:=Bs.start _ _;refine j_ (n:=51) (vs:=[j,ZI i,ZI g]) Tryz.func81 rfl rfl ?_;generalize col oo=o at*;refine Zq (Za rfl (Ze [(0,_),(1,_),(2,_)] (Zn (Za rfl (Ze [(0,_),(1,_),(2,_),(7,_)] (nx (b_ (Zq (Za rfl (Ze [(0,_),(1,_),(2,_),(7,_),(8,_)] (nx ?_)))))))))));obtain⟨e7,c3,hF⟩:=a_ hF;refine A_ (λa T=>∃(E:Int)(F:Int)(J:Tg),e7=.inl (E,F)∧Fr a 51 [(0,j),(1,ZI i),(2,ZI g),(7,ZI E)]∧Bs oo J w T) (λ_ _=>False) ?_ ?_ ?_
 ·refine f_ ?_;refine z_ (λ(K:Nat) a T=>∃(E:Int)(F:Int)(J:Tg),loopF (dq_ i g) K (E,F)=some e7∧Fr a 51 [(0,j),(1,ZI i),(2,ZI g),(7,ZI E),(8,ZI F)]∧Bs oo J w T) fuel (λa ha=>⟨1,0,o,c3,ha.sb,hB⟩) ?_;rintro K9 a T ⟨E,F,J,f0,ha,hB⟩;obtain⟨K13,f1,f2,A,U⟩:=ad_ f0;dsimp only[dq_] at A;refine O_ ha ?_;refine b_ (Zq (Zm rfl (Zm rfl (Zv (u_ rfl rfl) (Ze [(0,_),(1,_),(2,_),(7,_),(8,_),(15,_)] (nx ?_))))));refine p_ rfl (λL=>?_) (λL=>?_)
  ·rw[if_pos L] at A;refine h_ (nx (b_ (f_ (d_ (Zm rfl (Zm rfl ?_))))));obtain⟨G,V,A⟩:=a_ A;refine Zv (iS_ rfl rfl V) (Za rfl (Ze [(0,_),(1,_),(2,_),(7,_),(8,_)] (y_ (nx (d_ (Zm rfl ?_))))));obtain⟨M,W,A⟩:=a_ A;refine Zv (C_ rfl rfl W) (Za rfl (Ze [(0,_),(1,_),(2,_),(7,_),(8,_)] (x_ ?_)));have c4:=Zj A;subst c4;refine Zk [(0,_),(1,_),(2,_),(7,_),(8,_)] ?_;intro a ha;exact⟨K13,by omega,G,M,J,U,ha,hB⟩
  ·replace A:=ZF L A;refine w_ ?_;refine m_ (m_ (Q_ ?_));refine s_ ?_;have c5:=Zj A;subst c5;refine Zk [(0,_),(1,_),(2,_),(7,_)] ?_;intro a ha;exact⟨E,F,J,U,ha,hB⟩
 ·rintro a T ⟨E,F,J,rfl,ha,hB⟩;dsimp only at hF;refine ap_k ha ?_;refine Zn (Zm rfl ?_);obtain⟨d,X,hF⟩:=a_ hF;refine Zo ?_;refine hD_ (o:=J) w.heap.size 11 hB.keeps.size X rfl rfl us_ jN_ rfl (by decide) ?_;intro c6 f3 c Y c7;replace hB:=hB.stp c7;refine Za rfl (Ze [(0,_),(1,_),(2,_),(9,_)] (nx (b_ (Zq (Zm rfl (Zv (bt_ rfl Y us_) (Zm rfl (Ze [(0,_),(1,_),(2,_),(9,_),(24,_),(25,_)] (nx ?_)))))))));obtain⟨f4,c8,hF⟩:=a_ hF;obtain⟨-,h32a,h32b⟩:=cr_ c8;obtain⟨Z,a0,hF⟩:=a_ hF;refine A_ (λa C=>∃(u:List Bool)(q:Tg),Z=.inl u∧Fr a 51 [(9,c)]∧Bs oo q w C∧Ow w.heap.size 4 11 q C c u) (λ_ _=>False) ?_ ?_ ?_
  ·refine f_ ?_;refine z_ (λ(K:Nat) a C=>∃(b:Int)(u:List Bool)(q:Tg),forN (dX_ fuel c2 i g) ((d.length:Int)-b).toNat b u=some Z∧((d.length:Int)-b).toNat=K∧0<=b∧Fr a 51 [(0,j),(1,ZI i),(2,ZI g),(9,c),(24,ZI (d.length:Int)),(25,ZI b)]∧Bs oo q w C∧Ow w.heap.size 4 11 q C c u) _ (λa ha=>⟨0,d,c6,(by rw[Int.sub_zero];exact a0),rfl,Int.le_refl 0,ha.sb,hB,Y⟩) ?_;rintro K37 a C ⟨b,u,q,a1,c9,f5,ha,hB,f⟩;by_cases H:b<(d.length:Int)
   ·obtain⟨f6,k,d0⟩:=bz_ H a1;dsimp only[dX_] at k;refine O_ ha ?_;refine Zq (Zv (u_ rfl rfl) (Ze [(0,_),(1,_),(2,_),(9,_),(24,_),(25,_),(26,_)] (nx (b_ ?_))));refine M_ (Zb (decide_eq_true H)) ?_;refine h_ (nx (b_ (f_ (Zq (Zm rfl (Za rfl (Ze [(0,_),(1,_),(2,_),(9,_),(10,_),(24,_),(25,_)] (Zn (Za rfl (Ze [(0,_),(1,_),(2,_),(9,_),(10,_),(11,_),(24,_),(25,_)] (nx (b_ ?_))))))))))));refine Zq (Zm rfl (Za rfl (Ze [(0,_),(1,_),(2,_),(9,_),(10,_),(11,_),(12,_),(24,_),(25,_)] (nx ?_))));have d1:Ow w.heap.size 3 12 q C (.slice none 0 0) ([]:Yl):=Ow.nil _ _ _ _ _;obtain⟨a2,a3,k⟩:=a_ k;refine A_ (λa v=>∃(x:Yl)(B:Int)(y:Value)(m:Tg),a2=.inl (x,B)∧Fr a 51 [(0,j),(1,ZI i),(2,ZI g),(9,c),(10,ZI b),(11,y),(24,ZI (d.length:Int)),(25,ZI b)]∧Bs oo m w v∧Ow w.heap.size 4 11 m v c u∧Ow w.heap.size 3 12 m v y x) (λ_ _=>False) ?_ ?_ ?_
    ·refine f_ ?_;refine z_ (λ(K:Nat) a v=>∃(x:Yl)(B:Int)(y:Value)(m:Tg),loopF (cO_ i g) K (x,B)=some a2∧Fr a 51 [(0,j),(1,ZI i),(2,ZI g),(9,c),(10,ZI b),(11,y),(12,ZI B),(24,ZI (d.length:Int)),(25,ZI b)]∧Bs oo m w v∧Ow w.heap.size 4 11 m v c u∧Ow w.heap.size 3 12 m v y x) fuel (λa ha=>⟨[],b,.slice none 0 0,q,a3,ha.sb,hB,f,d1⟩) ?_;rintro K53 a v ⟨x,B,y,m,d2,ha,hB,f,D⟩;obtain⟨K57,f7,f8,s,a4⟩:=ad_ d2;dsimp only[cO_] at s;refine O_ ha ?_;refine b_ (Zq (Zm rfl (Zv (bt_ rfl D tY_) (Zm rfl (Zv (u_ rfl rfl) (Ze [(0,_),(1,_),(2,_),(9,_),(10,_),(11,_),(12,_),(24,_),(25,_),(32,_)] (nx ?_)))))));refine p_ rfl (λN=>?_) (λN=>?_)
     ·rw[if_pos N] at s;refine h_ (nx (b_ (f_ (d_ (Zm rfl (Zm rfl (Zm rfl ?_)))))));obtain⟨O,a5,s⟩:=a_ s;refine Zv (ox_ rfl rfl a5) (Zo ?_);refine aB_ (o:=m) (cs:=[ZI O]) (xs:=([O]:Yl)) (vs:=[(0,ZI O)]) ⟨_,_,rfl,rfl,rfl⟩ rfl ⟨rfl,rfl,trivial⟩ tY_ tZ_ uh_ (by decide) (fill1 rfl) (by simp) ?_;intro f9 g0 g1 d3 P g2;replace f:=f.stp P;replace D:=D.stp P;replace hB:=hB.stp P;obtain⟨d4,a6,s⟩:=a_ s;refine Zo ?_;refine bf_ D d3 (ai_ a6) (by decide) hB.keeps.size rfl rfl tY_ hv_ rfl (by decide) ?_;intro d5 g3 I d6 a7;replace f:=f.stp a7;replace hB:=hB.stp a7;refine Za rfl (Ze [(0,_),(1,_),(2,_),(9,_),(10,_),(11,_),(12,_),(24,_),(25,_)] (y_ (nx (d_ (Zm rfl (Zm rfl ?_))))));obtain⟨Q,a8,s⟩:=a_ s;refine Zv (qv_ rfl rfl a8) (Za rfl (Ze [(0,_),(1,_),(2,_),(9,_),(10,_),(11,_),(12,_),(24,_),(25,_)] (x_ ?_)));have d7:=Zj s;subst d7;refine Zk [(0,_),(1,_),(2,_),(9,_),(10,_),(11,_),(12,_),(24,_),(25,_)] ?_;intro a ha;exact⟨K57,by omega,d4,Q,I,d5,a4,ha,hB,f,d6⟩
     ·replace s:=ZF N s;refine w_ ?_;refine m_ (m_ (Q_ ?_));refine s_ ?_;have d8:=Zj s;subst d8;refine Zk [(0,_),(1,_),(2,_),(9,_),(10,_),(11,_),(24,_),(25,_)] ?_;intro a ha;exact⟨x,B,y,m,a4,ha,hB,f,D⟩
    ·rintro a v ⟨x,B,y,m,rfl,ha,hB,f,D⟩;dsimp only at k;refine ap_k ha ?_;refine nx (d_ (Zm rfl (Zm rfl (Zm rfl (Zm rfl ?_)))));obtain⟨a9,b0,k⟩:=a_ k;refine Zo ?_;refine o_ (gs_ fuel v m 13 (by decide) _ x D.z a9 b0) Tryz.call121 ⟨rfl,trivial⟩ ?_;rintro g4 d9 ⟨g5,b1,rfl,R,e0,e1⟩;have b2:=e0.stp' 13 e1;replace R:=R.mono hB.keeps.size;refine⟨_,rfl,?_⟩;replace f:=f.stp b2;replace hB:=hB.stp b2;obtain⟨e2,b3,k⟩:=a_ k;refine Zo ?_;refine o_ (jp_ d9 _ c2 (e9.keep hB.keeps) _ a9 R.z e2 b3) Tryz.call120 ⟨rfl,rfl,trivial⟩ ?_;rintro g6 g7 ⟨rfl,e3⟩;have b4:=e3.stp 999 b1;refine⟨_,rfl,?_⟩;replace f:=f.stp b4;replace hB:=hB.stp b4;obtain⟨g8,b5,k⟩:=a_ k;refine Zo ?_;refine fs_ f b5 rfl rfl us_ uy_ ?_;intro g9 h0 e4 h1 e5;cases e5
     obtain⟨b6,S,k⟩:=a_ k;refine am_ trivial ?_;refine cc_ f e4 S rfl (by decide) rfl rfl rfl uy_ rfl ?_;intro h2 b7 e6;replace hB:=hB.stp e6;refine Ze [(0,j),(1,ZI i),(2,ZI g),(9,c),(24,ZI (d.length:Int)),(25,ZI b)] (y_ (nx (d_ (Zv (C_ rfl rfl (F_ (by omega) (by omega))) (Zm rfl (Ze [(0,_),(1,_),(2,_),(9,_),(24,_),(25,_)] (x_ ?_)))))));have b8:=Zj k;subst b8;refine Zk [(0,_),(1,_),(2,_),(9,_),(24,_),(25,_)] ?_;intro a ha;exact⟨_,(by rw[<-c9];omega),b+1,b6,b1,d0,rfl,by omega,ha,hB,b7⟩
    ·exact λ_ _ h=>h.elim
   ·have b9:=bx_ H a1;refine O_ ha ?_;refine Zq (Zv (u_ rfl rfl) (Ze [(0,_),(1,_),(2,_),(9,_),(24,_),(25,_),(26,_)] (nx (b_ ?_))));refine D_ (Zb (decide_eq_false H)) ?_;refine w_ ?_;refine m_ (m_ (Q_ ?_));refine s_ ?_;refine Zk [(9,_)] ?_;intro a ha;exact⟨u,q,b9,ha,hB,f⟩
  ·rintro a C ⟨u,q,rfl,ha,hB,f⟩;dsimp only at hF;refine ap_k ha ?_;refine Zn (Zm rfl (Za rfl (Ze [(6,_)] (nx (n_ ?_)))));have e8:=f.frzF;replace f:=f.frz;replace hB:=hB.frz 11 (by decide);generalize (frz 11 q)=c0 at*;have c1:=Zj hF;subst c1;refine Zr Tryz.results81 [c] ?_;exact⟨_,rt oo c0 w.heap.size 9 t,rfl,f.rt hB 9 t (by decide),hB.keeps,ac_ _ _ _ _ _⟩
  ·exact λ_ _ h=>h.elim
 ·exact λ_ _ h=>h.elim
def bi_(f:c_)(g:c_):((List Int)×Int)->Option (Lp ((List Int)×Int) ((List Int)×Int) ((List Int)×Bool)):=λ(s:(List Int)×Int)=>
  if decide (s.2<f.Labels) then
    (shl 1 g.Labels)>>=λa=>
    (ck (a-1))>>=λb=>
    (push s.1 b)>>=λc=>
    (ck (s.2+1))>>=λd=>
    some (.go (c,d))
  else
    some (.out (s.1,s.2))
def ci_(fuel:Nat)(j:c_)(a:c_):Option ((List Int)×Bool):=
  (ia_ fuel j a)>>=λk=>
  if !k then
    some ([],false)
  else
    (eS_ fuel a.Nodes a.Labels a.Degree)>>=λd=>
    (eS_ fuel a.Edges a.Labels 2)>>=λf=>
    (loopF (bi_ j a) fuel ([],0))>>=λg=>
    match g with
    | .inl (i,m)=>
      (bC_ fuel (⟨j,a,d,f⟩:B_) i)>>=λb=>
      if !b.2 then
        some ([],false)
      else
        (aP_ fuel (⟨j,a,d,f⟩:B_) [] b.1)>>=λc=>
        some (c.1,c.2)
    | .inr _=>none
def io_(oo:Tg)(t:Nat)(w:World)(r:Yl×Bool):Ending->World->Prop:=λe w'=>∃(a:Value)(o':Tg),e=.returned (.tuple #[a,.bool r.2])∧Of 3 o' w' a r.1∧Keeps w w'∧∀b,b<w.heap.size->o' b=oo b
theorem in_(fuel:Nat)(w:World)(oo:Tg)(t:Nat)(ht:2<=t)(j3:List Value)(C:c_)(i2:Rp.rd oo w j3 C)(j4:List Value)(g:c_)(i3:Rp.rd oo w j4 g)(r:Yl×Bool)(hF:ci_ fuel C g=some r):
    Calls tX_ 54 #[.agg j3.toArray,.agg j4.toArray] w (io_ oo t w r):=by
 unfold ci_ at hF;replace i2:=Rp.col i2;obtain⟨b7,b8,rfl,S,T⟩:=i2;replace i3:=Rp.col i3;obtain⟨b5,b6,rfl,Q,R⟩:=i3;have hB:Bs oo (col oo) w w:=Bs.start _ _;refine j_ (n:=56) (vs:=[.agg #[ZI C.Labels,ZI C.Degree,b7,b8],.agg #[ZI g.Labels,ZI g.Degree,b5,b6]]) Tryz.func54 rfl rfl ?_;generalize col oo=o at*;refine Zq (Zo ?_);refine aD_ (o:=o) w.heap.size 11 hB.keeps.size (cs:=[ZI C.Labels,ZI C.Degree,b7,b8]) rfl rfl ?_;intro m0 m1 O E a8;replace S:=S.stp a8;replace T:=T.stp a8;replace Q:=Q.stp a8;replace R:=R.stp a8;replace hB:=hB.stp a8;refine Zo ?_;refine aD_ (o:=m0) w.heap.size 12 hB.keeps.size (cs:=[ZI g.Labels,ZI g.Degree,b5,b6]) rfl rfl ?_;intro e2 i4 J I a7;replace S:=S.stp a7;replace T:=T.stp a7;replace Q:=Q.stp a7;replace R:=R.stp a7;replace E:=E.stp a7;replace hB:=hB.stp a7;refine Za rfl (Za rfl (Ze [(2,_),(3,_)] (nx (b_ (Zq (Zv (H_ rfl ue_ uc_ rfl E.cells) (Zv (H_ rfl ue_ uc_ rfl I.cells) ?_)))))));obtain⟨e3,e4,hF⟩:=a_ hF;refine Zo ?_;refine o_ (su_ fuel i4 _ C (⟨_,_,rfl,S.z,T.z⟩) _ g (⟨_,_,rfl,Q.z,R.z⟩) e3 e4) Tryz.call80 ⟨rfl,rfl,trivial⟩ ?_;rintro m2 m3 ⟨rfl,i5⟩;have X:=i5.stp 999 e2;refine⟨_,rfl,?_⟩;replace S:=S.stp X;replace T:=T.stp X;replace Q:=Q.stp X;replace R:=R.stp X;replace E:=E.stp X;replace I:=I.stp X;replace hB:=hB.stp X;refine Zv (bo_ rfl) (Ze [(2,_),(3,_),(14,_)] (nx ?_));refine p_ rfl (λd0=>?_) (λd0=>?_)
 ·rw[if_pos d0] at hF;refine Zq (Za rfl (Za rfl (Ze [(4,_),(5,_)] (nx (n_ (I_ ?_))))));have i6:=Zj hF;subst i6;refine Zr vc_ [.slice none 0 0,.bool false] ?_;exact⟨_,rt oo e2 w.heap.size 9 t,rfl,Of.nil _ _ _,hB.keeps,ac_ _ _ _ _ _⟩
 ·replace hF:=ZF d0 hF;refine h_ (nx (b_ ?_));obtain⟨i,e5,hF⟩:=a_ hF;obtain⟨j,e6,hF⟩:=a_ hF;refine ZW (Bf:=λd1 d2=>Bs oo d1 w d2∧Bx w.heap.size 11 d1 d2 O 28 [ZI C.Labels,ZI C.Degree,b7,b8]∧RdL d1 d2 b7 (C.Nodes:Yk)∧RdL d1 d2 b8 (C.Edges:Yk)∧Bx w.heap.size 12 d1 d2 J 28 [ZI g.Labels,ZI g.Degree,b5,b6]∧RdL d1 d2 b5 (g.Nodes:Yk)∧RdL d1 d2 b6 (g.Edges:Yk)) [(2,_),(3,_)] (Zrg 15 15++[6]) [[],[],[],[2],[],[4],[],[6],[3,5,7],[],[9],[],[11],[10,12],[0,1,8,13],[]] (Zcn 16) [999,999,999,999,999,999,999,999,999,999,999,999,999,999,999,16] [0,0,0,0,0,0,0,0,0,0,0,0,0,0,0,16] [16,999] [.inl (.agg #[ZI C.Labels,ZI C.Degree,b7,b8]),.inl (.agg #[ZI g.Labels,ZI g.Degree,b5,b6]),.inl (.pointer (some ⟨J,0+2,none⟩)),.inl b5,.inl (.pointer (some ⟨J,0+0,none⟩)),.inl (ZI g.Labels),.inl (.pointer (some ⟨J,0+1,none⟩)),.inl (ZI g.Degree),.inr (λv o d3=>RdL o d3 v i),.inl (.pointer (some ⟨J,0+3,none⟩)),.inl b6,.inl (.pointer (some ⟨J,0+0,none⟩)),.inl (ZI g.Labels),.inr (λv o d3=>RdL o d3 v j),.inr (λv o d3=>∃(c:List Value),v=.agg c.toArray∧Rp.rd o d3 c (⟨C,g,i,j⟩:B_)),.inr (λv o d3=>∃b:Nat,v=ZP b∧Bx w.heap.size 16 o d3 b 90 [ZI 0,ZI 0,.slice none 0 0,.slice none 0 0,ZI 0,ZI 0,.slice none 0 0,.slice none 0 0,.slice none 0 0,.slice none 0 0])] ⟨hB,E,S,T,I,Q,R⟩ ⟨λ_ _ _ _ _ _ e1 hb h hs=>h.stp hs e1.1,λ_ _ _ _ _ _ e1 hb h hs=>h.stp hs e1.1,λ_ _ _ _ _ _ e1 hb ⟨c,e,h⟩ hs=>⟨c,e,Rp.stp h hs e1.1⟩,λ_ _ _ _ _ _ e1 hb ⟨b,e,h⟩ hs=>⟨b,e,h.stp hs (Ne.symm hb)⟩,trivial⟩ ?_ ?_
  ·refine⟨Dq λh=>H_ rfl ue_ uc_ rfl h.2.1.cells,Dq λh=>H_ rfl ue_ uc_ rfl h.2.2.2.2.1.cells,Dp (r_ rfl ud_ rfl ui_),Dq λh=>e_ rfl uj_ (h.2.2.2.2.1.cell rfl),Dp (r_ rfl ud_ rfl tZ_),Dq λh=>e_ rfl ua_ (h.2.2.2.2.1.cell rfl),Dp (r_ rfl ud_ rfl tZ_),Dq λh=>e_ rfl ua_ (h.2.2.2.2.1.cell rfl),?_,Dp (r_ rfl ud_ rfl ui_),Dq λh=>e_ rfl uj_ (h.2.2.2.2.1.cell rfl),Dp (r_ rfl ud_ rfl tZ_),Dq λh=>e_ rfl ua_ (h.2.2.2.2.1.cell rfl),?_,?_,?_,trivial⟩
   ·rintro i7 i8 m4 ha ⟨hB,E,S,T,I,Q,R⟩-;refine Zs ha ?_;refine o_ (kU_ fuel i8 i7 17 (by decide) _ g.Nodes Q.z g.Labels g.Degree i e5) wk_ ⟨rfl,rfl,rfl,trivial⟩ ?_;rintro m5 m6 ⟨m7,m8,rfl,i9,j0,j1⟩;have j2:=j0.stp' 999 j1;refine⟨_,rfl,?_⟩;exact⟨_,j2,i9⟩
   ·rintro e7 e8 j5 ha ⟨hB,E,S,T,I,Q,R⟩-;refine Zs ha ?_;refine o_ (kU_ fuel e8 e7 18 (by decide) _ g.Edges R.z g.Labels 2 j e6) wk_ ⟨rfl,rfl,rfl,trivial⟩ ?_;rintro j6 j7 ⟨j8,j9,rfl,e9,f0,f1⟩;have f2:=f0.stp' 999 f1;refine⟨_,rfl,?_⟩;exact⟨_,f2,e9⟩
   ·rintro b9 c0 Y ha ⟨hB,E,S,T,I,Q,R⟩ ⟨V,W,-⟩;replace V:RdL b9 c0 (Y.tmps.getD 23 undef) i:=V;generalize f3:Y.tmps.getD 23 undef=c1 at V;have ha:=ha.c f3;replace W:RdL b9 c0 (Y.tmps.getD 28 undef) j:=W;generalize f4:Y.tmps.getD 28 undef=c2 at W;have ha:=ha.c f4;refine Zs ha ?_;refine l_ (bY_ (vs:=[(0,.agg #[ZI C.Labels,ZI C.Degree,b7,b8]),(1,.agg #[ZI g.Labels,ZI g.Degree,b5,b6]),(2,c1),(3,c2)]) (cs:=[ZI C.Labels,ZI C.Degree,b7,b8,ZI g.Labels,ZI g.Degree,b5,b6,c1,c2]) ⟨rfl,rfl,rfl,rfl,rfl,rfl,rfl,rfl,trivial⟩ (by obtain⟨_,_,m9⟩:=V.form;rw[m9];obtain⟨_,_,n0⟩:=W.form;rw[n0];kernel_rfl)) ?_;exact⟨_,Stp.refl _ _ _,⟨_,rfl,⟨_,_,_,_,_,_,rfl,S,T,Q,R,V,W⟩⟩⟩
   ·rintro f5 k0 k1 ha ⟨hB,E,S,T,I,Q,R⟩-;refine Zs ha ?_;refine aY_ (o:=f5) w.heap.size 16 hB.keeps.size (cs:=[ZI 0,ZI 0,.slice none 0 0,.slice none 0 0,ZI 0,ZI 0,.slice none 0 0,.slice none 0 0,.slice none 0 0,.slice none 0 0]) Tryz.zeroValue90 rfl ?_;intro k2 k3 k4 f6 f7;exact⟨_,f7,⟨_,rfl,f6⟩⟩
  rintro _ rfl c3 k5 k6 ha ⟨hB,E,S,T,I,Q,R⟩ ⟨-,-,f8,f9,-⟩;obtain⟨k7,g0,g1⟩:=f8;obtain⟨Z,a0,a1,a2,a3,a4,rfl,k,m,s,u,x,y⟩:=g1;have ha:=ha.c g0;obtain⟨A,g2,g3⟩:=f9;have ha:=ha.c g2;refine aS_ ha ?_;refine am_ trivial ?_;refine ae_ g3 rfl rfl rfl fJ_ (by intro c hc;simp only[List.mem_cons,List.not_mem_nil,or_false] at hc;rcases hc with rfl|rfl|rfl|rfl|rfl|rfl|rfl|rfl|rfl|rfl<;>first|rfl|exact k.one1|exact m.one1|exact s.one1|exact u.one1|exact x.one1|exact y.one1) ?_;intro g4 F G;replace k:=k.stp G;replace m:=m.stp G;replace s:=s.stp G;replace u:=u.stp G;replace x:=x.stp G;replace y:=y.stp G;replace E:=E.stp G;replace S:=S.stp G;replace T:=T.stp G;replace I:=I.stp G;replace Q:=Q.stp G;replace R:=R.stp G;replace hB:=hB.stp G;refine Ze [(2,_),(3,_),(6,_)] (Zn (Za rfl (Ze [(2,_),(3,_),(6,_),(7,_)] (nx (b_ (Zq (Za rfl (Ze [(2,_),(3,_),(6,_),(7,_),(8,_)] (nx ?_)))))))));have g5:Ow w.heap.size 3 19 c3 g4 (.slice none 0 0) ([]:Yl):=Ow.nil _ _ _ _ _;obtain⟨c4,d4,hF⟩:=a_ hF;refine A_ (λa f=>∃(N:Yl)(L:Int)(M:Value)(d:Tg),c4=.inl (N,L)∧Fr a 56 [(6,ZP A),(7,M)]∧Bs oo d w f∧Ow w.heap.size 3 19 d f M N∧Bx w.heap.size 16 d f A 90 [ZI ((⟨C,g,i,j⟩:B_).p.Labels),ZI ((⟨C,g,i,j⟩:B_).p.Degree),Z,a0,ZI ((⟨C,g,i,j⟩:B_).q.Labels),ZI ((⟨C,g,i,j⟩:B_).q.Degree),a1,a2,a3,a4]∧RdL d f Z ((⟨C,g,i,j⟩:B_).p.Nodes:Yk)∧RdL d f a0 ((⟨C,g,i,j⟩:B_).p.Edges:Yk)∧RdL d f a1 ((⟨C,g,i,j⟩:B_).q.Nodes:Yk)∧RdL d f a2 ((⟨C,g,i,j⟩:B_).q.Edges:Yk)∧RdL d f a3 ((⟨C,g,i,j⟩:B_).nodes:List Bool)∧RdL d f a4 ((⟨C,g,i,j⟩:B_).edges:List Bool)) (λ_ _=>False) ?_ ?_ ?_
  ·refine f_ ?_;refine z_ (λ(K:Nat) a f=>∃(N:Yl)(L:Int)(M:Value)(d:Tg),loopF (bi_ C g) K (N,L)=some c4∧Fr a 56 [(2,ZP O),(3,ZP J),(6,ZP A),(7,M),(8,ZI L)]∧Bs oo d w f∧Ow w.heap.size 3 19 d f M N∧Bx w.heap.size 11 d f O 28 [ZI C.Labels,ZI C.Degree,b7,b8]∧RdL d f b7 (C.Nodes:Yk)∧RdL d f b8 (C.Edges:Yk)∧Bx w.heap.size 12 d f J 28 [ZI g.Labels,ZI g.Degree,b5,b6]∧RdL d f b5 (g.Nodes:Yk)∧RdL d f b6 (g.Edges:Yk)∧Bx w.heap.size 16 d f A 90 [ZI ((⟨C,g,i,j⟩:B_).p.Labels),ZI ((⟨C,g,i,j⟩:B_).p.Degree),Z,a0,ZI ((⟨C,g,i,j⟩:B_).q.Labels),ZI ((⟨C,g,i,j⟩:B_).q.Degree),a1,a2,a3,a4]∧RdL d f Z ((⟨C,g,i,j⟩:B_).p.Nodes:Yk)∧RdL d f a0 ((⟨C,g,i,j⟩:B_).p.Edges:Yk)∧RdL d f a1 ((⟨C,g,i,j⟩:B_).q.Nodes:Yk)∧RdL d f a2 ((⟨C,g,i,j⟩:B_).q.Edges:Yk)∧RdL d f a3 ((⟨C,g,i,j⟩:B_).nodes:List Bool)∧RdL d f a4 ((⟨C,g,i,j⟩:B_).edges:List Bool)) fuel (λa ha=>⟨[],0,.slice none 0 0,c3,d4,ha.sb,hB,g5,E,S,T,I,Q,R,F,k,m,s,u,x,y⟩) ?_;rintro K174 a f ⟨N,L,M,d,g6,ha,hB,U,E,S,T,I,Q,R,F,k,m,s,u,x,y⟩;obtain⟨K178,k8,k9,H,c5⟩:=ad_ g6;dsimp only[bi_] at H;refine O_ ha ?_;refine b_ (Zq (Zm rfl (Zv (r_ rfl ud_ rfl tZ_) (Zv (e_ rfl ua_ (E.cell rfl)) (Zv (u_ rfl rfl) (Ze [(2,_),(3,_),(6,_),(7,_),(8,_),(33,_)] (nx ?_)))))));refine p_ rfl (λa9=>?_) (λa9=>?_)
   ·rw[if_pos a9] at H;refine h_ (nx (b_ (f_ (d_ (Zm rfl (Zv (r_ rfl ud_ rfl tZ_) (Zv (e_ rfl ua_ (I.cell rfl)) ?_)))))));obtain⟨l0,d5,H⟩:=a_ H;refine Zv (fI_ rfl rfl d5) ?_;obtain⟨b0,d6,H⟩:=a_ H;refine Zv (bE_ rfl rfl d6) (Zo ?_);refine aB_ (o:=d) (cs:=[ZI b0]) (xs:=([b0]:Yl)) (vs:=[(0,ZI b0)]) ⟨_,_,rfl,rfl,rfl⟩ rfl ⟨rfl,rfl,trivial⟩ tY_ tZ_ uh_ (by decide) (fill1 rfl) (by simp) ?_;intro l1 l2 l3 g7 B l4;replace U:=U.stp B;replace E:=E.stp B;replace S:=S.stp B;replace T:=T.stp B;replace I:=I.stp B;replace Q:=Q.stp B;replace R:=R.stp B;replace F:=F.stp B;replace k:=k.stp B;replace m:=m.stp B;replace s:=s.stp B;replace u:=u.stp B;replace x:=x.stp B;replace y:=y.stp B;replace hB:=hB.stp B;obtain⟨g8,d7,H⟩:=a_ H;refine Zo ?_;refine bf_ U g7 (ai_ d7) (by decide) hB.keeps.size rfl rfl tY_ hv_ rfl (by decide) ?_;intro g9 l5 a5 h0 D;replace E:=E.stp D;replace S:=S.stp D;replace T:=T.stp D;replace I:=I.stp D;replace Q:=Q.stp D;replace R:=R.stp D;replace F:=F.stp D;replace k:=k.stp D;replace m:=m.stp D;replace s:=s.stp D;replace u:=u.stp D;replace x:=x.stp D;replace y:=y.stp D;replace hB:=hB.stp D;refine Za rfl (Ze [(2,_),(3,_),(6,_),(7,_),(8,_)] (y_ (nx (d_ (Zm rfl ?_)))));obtain⟨b1,d8,H⟩:=a_ H;refine Zv (C_ rfl rfl d8) (Za rfl (Ze [(2,_),(3,_),(6,_),(7,_),(8,_)] (x_ ?_)));have h1:=Zj H;subst h1;refine Zk [(2,_),(3,_),(6,_),(7,_),(8,_)] ?_;intro a ha;exact⟨K178,by omega,g8,b1,a5,g9,c5,ha,hB,h0,E,S,T,I,Q,R,F,k,m,s,u,x,y⟩
   ·replace H:=ZF a9 H;refine w_ ?_;refine m_ (m_ (Q_ ?_));refine s_ ?_;have h2:=Zj H;subst h2;refine Zk [(6,_),(7,_)] ?_;intro a ha;exact⟨N,L,M,d,c5,ha,hB,U,F,k,m,s,u,x,y⟩
  ·rintro a f ⟨N,L,M,d,rfl,ha,hB,U,F,k,m,s,u,x,y⟩;dsimp only at hF;refine ap_k ha ?_;refine Zn (Zv (H_ rfl uu_ uv_ rfl F.cells) (Zm rfl ?_));obtain⟨a6,d9,hF⟩:=a_ hF;refine Zo ?_;refine o_ (ft_ fuel f d 20 (by decide) _ (⟨C,g,i,j⟩:B_) (⟨_,_,_,_,_,_,rfl,k,m,s,u,x,y⟩) _ N U.z a6 d9) wi_ ⟨rfl,rfl,trivial⟩ ?_;rintro l6 h3 ⟨c6,c7,rfl,b2,h4,h5⟩;have P:=h4.stp' 20 h5;replace b2:=b2.mono hB.keeps.size;refine⟨_,rfl,?_⟩;replace k:=k.stp P;replace m:=m.stp P;replace s:=s.stp P;replace u:=u.stp P;replace x:=x.stp P;replace y:=y.stp P;replace F:=F.stp P;replace hB:=hB.stp P;refine Zm rfl (Zv (t_ rfl rfl) (Zv (t_ rfl rfl) (Za rfl (Za rfl (Ze [(6,_),(9,_),(10,_)] (nx (b_ (Zq (Zm rfl (Zv (bo_ rfl) (Ze [(6,_),(9,_),(50,_)] (nx ?_))))))))))));refine p_ rfl (λb3=>?_) (λb3=>?_)
   ·rw[if_pos b3] at hF;refine Zq (Za rfl (Za rfl (Ze [(4,_),(5,_)] (nx (n_ (I_ ?_))))));have h6:=Zj hF;subst h6;refine Zr vc_ [.slice none 0 0,.bool false] ?_;exact⟨_,rt oo c7 w.heap.size 9 t,rfl,Of.nil _ _ _,hB.keeps,ac_ _ _ _ _ _⟩
   ·replace hF:=ZF b3 hF;refine h_ (Zn (Zv (H_ rfl uu_ uv_ rfl F.cells) (Zm rfl ?_)));obtain⟨b4,e0,hF⟩:=a_ hF;refine Zo ?_;refine o_ (iZ_ fuel h3 c7 21 (by decide) _ (⟨C,g,i,j⟩:B_) (⟨_,_,_,_,_,_,rfl,k,m,s,u,x,y⟩) _ ([]:Yl) (Of.nil _ _ _) _ a6.1 b2.z b4 e0) wj_ ⟨rfl,rfl,rfl,trivial⟩ ?_;rintro l7 l8 ⟨c8,h7,rfl,c9,h8,h9⟩;have i0:=h8.stp' 21 h9;have l9:=c9.rd;refine⟨_,rfl,?_⟩;replace hB:=hB.stp i0;refine Zv (t_ rfl rfl) (Zv (t_ rfl rfl) (Za rfl (Za rfl (Ze [(4,_),(5,_)] (nx (n_ ?_))))));have i1:=Zj hF;subst i1;refine Zr vc_ [c8,.bool b4.2] ?_;exact⟨_,rt oo h7 w.heap.size 9 t,rfl,c9.rt hB 9 t (by decide),hB.keeps,ac_ _ _ _ _ _⟩
  ·exact λ_ _ h=>h.elim
end
end Go.Proofs.YtdbbeldgdgonfaaGreat
