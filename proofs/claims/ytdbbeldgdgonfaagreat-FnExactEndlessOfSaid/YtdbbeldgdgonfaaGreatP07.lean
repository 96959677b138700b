/- Part 7 of what this claim rests on (GN, Bs, Elc, Ela, Elb), packed by pack.py. -/
import Derived.Test.YtdbbeldgdgonfaaGreatP03
import Derived.Test.YtdbbeldgdgonfaaGreatP04
import Derived.Test.YtdbbeldgdgonfaaGreatP06
namespace Go.Proofs.YtdbbeldgdgonfaaGreat
open Tryz renaming prog→tX_, underlying41→tY_, results70→vH_, sizeOf3→tZ_, underlying3→ux_, underlying146→uG_, isAgg3→ua_, call176→vI_, underlying22→ub_, sizeOf41→uf_, isAgg41→ug_
set_option linter.unusedSimpArgs false
set_option linter.unusedVariables false
section
set_option maxRecDepth 100000
set_option maxHeartbeats 2000000
open Go.RowKit
theorem lM_:Inf tX_ 3 (.int .i64 0) 1 8:=by unfold Inf;kernel_rfl
def bu_(a:Int):Option Bool:=
  some (a !=a)
def hG_(w:World)(r:Bool):Ending->World->Prop:=λe w'=>e=.returned (.bool r)∧Keeps w w'
theorem eW_(w:World)(a:Int)(r:Bool)(hF:bu_ a=some r):
    Calls tX_ 176 #[.int .i64 a] w (hG_ w r):=by
 unfold bu_ at hF;have hB:Bs (λ_=>1) (col (λ_=>1)) w w:=Bs.start _ _;refine j_ (n:=6) (vs:=[ZI a]) Tryz.func176 rfl rfl ?_;refine Zq (Za rfl (Ze [(0,_)] (Zn (Zm rfl (Zm rfl (Zv (dw_ rfl rfl) (Za rfl (Ze [(2,_)] (nx (n_ ?_))))))))));have b:=Zj hF;subst b;refine Zr Tryz.results176 [.bool (a !=a)] ?_;exact⟨rfl,hB.keeps⟩
def aC_(a:List Int):Option (List Int):=
  (cat ([]:List Int) a)>>=λb=>
  some b
def gb_(oo:Tg)(t:Nat)(w:World)(r:Yl):Ending->World->Prop:=λe w'=>∃(a:Value)(o':Tg),e=.returned (a)∧Ow w.heap.size 3 t o' w' a r∧Keeps w w'∧∀b,b<w.heap.size->o' b=oo b
theorem cQ_(w:World)(oo:Tg)(t:Nat)(ht:2<=t)(a:Value)(k:Yl)(c:RdL zt w a k)(r:Yl)(hF:aC_ k=some r):
    Calls tX_ 70 #[a] w (gb_ oo t w r):=by
 unfold aC_ at hF;have hB:Bs oo (col oo) w w:=Bs.start _ _;refine j_ (n:=8) (vs:=[a]) Tryz.func70 rfl rfl ?_;generalize col oo=o at*;refine Zq (Za rfl (Ze [(0,_)] (nx (b_ (Zq (Zm rfl (Zv (ru_ (c.keep hB.keeps) rfl rfl tY_) (Ze [(0,_),(4,_)] (nx ?_)))))))));refine p_ rfl (λm=>?_) (λm=>?_)
 ·have q:=qt_ (c.keep hB.keeps) m;subst q;replace hF:(some []:Option Yl)=some r:=hF;refine Zq (Za rfl (Ze [(2,_)] (nx (n_ (I_ ?_)))));have s:=Zj hF;subst s;refine Zr vH_ [.slice none 0 0] ?_;exact⟨_,rt oo o w.heap.size 9 t,rfl,Ow.nil _ _ _ _ _,hB.keeps,ac_ _ _ _ _ _⟩
 ·refine h_ (Zn (Zo ?_));refine gj_ w.heap.size 11 hB.keeps.size (o:=o) (cs:=[]) (xs:=([]:Yl)) (vs:=[]) rfl rfl trivial tY_ tZ_ Tryz.zeroValue3 (by decide) fill0 (by simp) ?_;intro y z A u v;replace hB:=hB.stp v;refine Zm rfl ?_;obtain⟨B,d,hF⟩:=a_ hF;refine Zo ?_;refine lk_ u (c.keep hB.keeps) d (by decide) hB.keeps.size (λ_ _ h=>h) rfl rfl tY_ lM_ rfl (by decide) ?_;intro f x b g i;replace hB:=hB.stp i;refine Za rfl (Ze [(2,_)] (nx (n_ ?_)));have j:=Zj hF;subst j;refine Zr vH_ [b] ?_;exact⟨_,rt oo f w.heap.size 11 t,rfl,g.rt hB (by decide) t,hB.keeps,ac_ _ _ _ _ _⟩
def ab_(j:List Int)(k:Int):(Int×Int)->Option (Lp (Int×Int) (Int×Int) (Int×Bool)):=λ(s:Int×Int)=>
  if decide (s.1<s.2) then
    (ck (s.1+s.2))>>=λb=>
    (cvU b)>>=λc=>
    (shr c 1)>>=λd=>
    (cvU d)>>=λa=>
    (ix j a)>>=λf=>
    (cz_ f k)>>=λg=>
    if g then
      (ck (a+1))>>=λi=>
      some (.go (i,s.2))
    else
      some (.go (s.1,a))
  else
    some (.out (s.1,s.2))
def aw_(fuel:Nat)(a:List Int)(c:Int):Option (Int×Bool):=
  (loopF (ab_ a c) fuel (0,(a.length:Int)))>>=λk=>
  match k with
  | .inl (b,m)=>
    (
      if decide (b<(a.length:Int)) then
        (ix a b)>>=λd=>
        if d==c then
          some true
        else
          (ix a b)>>=λf=>
          (bu_ f)>>=λg=>
          if g then
            (bu_ c)>>=λi=>
            some i
          else
            some false
      else
        some false)>>=λj=>
    some (b,j)
  | .inr _=>none
def eD_(w:World)(r:Int×Bool):Ending->World->Prop:=λe w'=>e=.returned (.tuple #[.int .i64 r.1,.bool r.2])∧Keeps w w'
theorem eK_(fuel:Nat)(w:World)(q:Value)(k:Yl)(V:RdL zt w q k)(j:Int)(r:Int×Bool)(hF:aw_ fuel k j=some r):
    Calls tX_ 143 #[q,.int .i64 j] w (eD_ w r):=by
 unfold aw_ at hF;have hB:Bs (λ_=>1) (col (λ_=>1)) w w:=Bs.start _ _;refine j_ (n:=54) (vs:=[q,ZI j]) Tryz.func143 rfl rfl ?_;refine Zq (Za rfl (Za rfl (Ze [(0,_),(1,_)] (Zn (Zm rfl (Zv (J_ rfl V tY_) (Za rfl (Ze [(0,_),(1,_),(6,_)] (Zn (Zm rfl (Za rfl (Za rfl ?_))))))))))));refine Ze [(0,_),(1,_),(6,_),(7,_),(8,_)] (nx ?_);obtain⟨b6,W,hF⟩:=a_ hF;refine jm_ (λa x=>∃(i:Int)(s:Int)(u:Tg),b6=.inl (i,s)∧Fr a 54 [(0,q),(1,ZI j),(6,ZI (k.length:Int)),(7,ZI i)]∧Bs (λ_=>1) u w x) (λ_ _=>False) ?_ ?_ ?_
 ·refine f_ ?_;refine z_ (λ(K:Nat) a x=>∃(i:Int)(s:Int)(u:Tg),loopF (ab_ k j) K (i,s)=some b6∧Fr a 54 [(0,q),(1,ZI j),(6,ZI (k.length:Int)),(7,ZI i),(8,ZI s)]∧Bs (λ_=>1) u w x) fuel (λa ha=>⟨0,(k.length:Int),col (λ_=>1),W,ha.sb,hB⟩) ?_;rintro K9 a x ⟨i,s,u,b7,ha,hB⟩;obtain⟨K13,b8,b9,d,y⟩:=ad_ b7;dsimp only[ab_] at d;refine O_ ha ?_;refine b_ (Zq (Zm rfl (Zm rfl (Zv (u_ rfl rfl) (Ze [(0,_),(1,_),(6,_),(7,_),(8,_),(15,_)] (nx ?_))))));refine p_ rfl (λz=>?_) (λz=>?_)
  ·rw[if_pos z] at d;refine h_ (nx (f_ (Zq (Zm rfl (Zm rfl ?_)))));obtain⟨c0,D,d⟩:=a_ d;refine Zv (C_ rfl rfl D) ?_;obtain⟨c1,E,d⟩:=a_ d;refine Zv (ov_ E rfl ux_ uG_) ?_;obtain⟨c2,F,d⟩:=a_ d;refine Zv (qf_ rfl rfl F) ?_;obtain⟨v,G,d⟩:=a_ d;refine Zv (oy_ G rfl uG_ ux_) (Za rfl (Ze [(0,_),(1,_),(6,_),(7,_),(8,_),(9,_)] (Zn (Zm rfl (Zm rfl ?_)))));obtain⟨X,H,d⟩:=a_ d;refine Zo ?_;refine wf_atZ V H hB rfl rfl tY_ tZ_ ?_;intro c3 c4 c5 Y Z;cases Z
   refine Zv (e_ rfl ua_ (i_ Y)) (Zm rfl ?_);obtain⟨I,J,d⟩:=a_ d;refine Zo ?_;refine o_ (gD_ x X j I J) Tryz.call135 ⟨rfl,rfl,trivial⟩ ?_;rintro c6 c7 ⟨rfl,a0⟩;have a1:=a0.stp 999 u;refine⟨_,rfl,?_⟩;replace hB:=hB.stp a1;refine Ze [(0,_),(1,_),(6,_),(7,_),(8,_),(9,_),(27,_)] (nx ?_);refine p_ rfl (λA=>?_) (λA=>?_)
   ·rw[if_pos A] at d;refine d_ (Zm rfl ?_);obtain⟨B,L,d⟩:=a_ d;refine Zv (C_ rfl rfl L) (Za rfl (Ze [(0,_),(1,_),(6,_),(7,_),(8,_)] (y_ (x_ ?_))));have a2:=Zj d;subst a2;refine Zk [(0,_),(1,_),(6,_),(7,_),(8,_)] ?_;intro a ha;exact⟨K13,by omega,B,s,u,y,ha,hB⟩
   ·replace d:=ZF A d;refine d_ (Zm rfl (Za rfl (Ze [(0,_),(1,_),(6,_),(7,_),(8,_)] (y_ (x_ ?_)))));have a3:=Zj d;subst a3;refine Zk [(0,_),(1,_),(6,_),(7,_),(8,_)] ?_;intro a ha;exact⟨K13,by omega,i,v,u,y,ha,hB⟩
  ·replace d:=ZF z d;refine w_ ?_;refine m_ (m_ (Q_ ?_));refine s_ ?_;have a4:=Zj d;subst a4;refine Zk [(0,_),(1,_),(6,_),(7,_)] ?_;intro a ha;exact⟨i,s,u,y,ha,hB⟩
 ·rintro a x ⟨i,s,u,rfl,ha,hB⟩;dsimp only at hF;refine O_ ha ?_;refine Zq (Zm rfl (Zm rfl (Zm rfl (Zv (u_ rfl rfl) (Zm rfl ?_)))));obtain⟨C,b,hF⟩:=a_ hF;refine aF_ 18 (λa5 M=>Fr a5 54 [(31,ZI i),(53,.bool C)]∧Keeps x M) ?_ ?_;all_goals simp only[List.take_succ_cons,List.take_zero,List.drop_succ_cons,List.drop_zero]
  ·have kp:Keeps x x:=Keeps.refl _;rcases Bool.eq_false_or_eq_true (decide (i<(k.length:Int))) with c|c
   ·rw[if_pos c] at b;refine q_ (g_ rfl) (by decide) ⟨_,rfl,Zb c⟩ (q_ (g_ rfl) (by decide) ⟨_,rfl,Zb c⟩ ?_);obtain⟨a6,N,b⟩:=a_ b;refine ct_ (by decide) ⟨_,rfl,Zb c⟩ ?_;refine wf_atZ V N hB rfl rfl tY_ tZ_ ?_;intro c8 c9 d0 a7 a8;cases a8
    refine q_ (e_ rfl ua_ (i_ a7)) (by decide) ⟨_,rfl,Zb c⟩ (q_ (g_ rfl) (by decide) ⟨_,rfl,Zb c⟩ (q_ (cD_ rfl rfl) (by decide) ⟨_,rfl,Zb c⟩ (q_ (g_ rfl) (by decide) ⟨_,rfl,Zb c⟩ ?_)));rcases Bool.eq_false_or_eq_true (a6==j) with f|f
    ·rw[if_pos f] at b;refine v_ rfl rfl (by rw[f];rfl) (by decide) ?_;refine v_ rfl rfl (by rw[f];rfl) (by decide) ?_;refine v_ rfl rfl (by rw[f];rfl) (by decide) ?_;refine v_ rfl rfl (by rw[f];rfl) (by decide) ?_;refine v_ rfl rfl (by rw[f];rfl) (by decide) ?_;refine v_ rfl rfl (by rw[f];rfl) (by decide) ?_;refine ak_ rfl rfl (by decide) ?_;refine ak_ rfl rfl (by decide) ?_;refine v_ rfl rfl (by rw[f];rfl) (by decide) ?_;refine q_ (L_ (Zb f) rfl) (by decide) ⟨_,rfl,Zb c⟩ (Zv (L_ (Zb c) rfl) ?_);have g:=Zj b;refine Ze [(31,_),(53,_)] ?_;subst g;refine s_ (λa ha=>⟨ha,kp⟩)
    ·replace b:=ZF f b;refine q_ (g_ rfl) (by decide) ⟨_,rfl,Zb f⟩ (q_ (g_ rfl) (by decide) ⟨_,rfl,Zb f⟩ ?_);obtain⟨a9,O,b⟩:=a_ b;refine ct_ (by decide) ⟨_,rfl,Zb f⟩ ?_;refine wf_atZ V O hB rfl rfl tY_ tZ_ ?_;intro d1 d2 d3 b0 b1;cases b1
     refine q_ (e_ rfl ua_ (i_ b0)) (by decide) ⟨_,rfl,Zb f⟩ ?_;obtain⟨P,Q,b⟩:=a_ b;refine ct_ (by decide) ⟨_,rfl,Zb f⟩ ?_;refine o_ (eW_ x a9 P Q) vI_ ⟨rfl,trivial⟩ ?_;rintro d4 b2 ⟨rfl,R⟩;have d5:=R.stp 999 u;refine⟨_,rfl,?_⟩;replace kp:=Keeps.trans kp R;refine q_ (g_ rfl) (by decide) ⟨_,rfl,Zb f⟩ ?_;rcases Bool.eq_false_or_eq_true (P) with m|m
     ·rw[if_pos m] at b;refine q_ (g_ rfl) (by decide) ⟨_,rfl,Zb m⟩ ?_;obtain⟨S,T,b⟩:=a_ b;refine ct_ (by decide) ⟨_,rfl,Zb m⟩ ?_;refine o_ (eW_ b2 j S T) vI_ ⟨rfl,trivial⟩ ?_;rintro d6 d7 ⟨rfl,U⟩;have d8:=U.stp 999 u;refine⟨_,rfl,?_⟩;replace kp:=Keeps.trans kp U;refine q_ (L_ (Zb m) rfl) (by decide) ⟨_,rfl,Zb f⟩ (q_ (G_ (Zb f) rfl) (by decide) ⟨_,rfl,Zb c⟩ (Zv (L_ (Zb c) rfl) ?_));have g:=Zj b;refine Ze [(31,_),(53,_)] ?_;subst g;refine s_ (λa ha=>⟨ha,kp⟩)
     ·replace b:=ZF m b;refine v_ rfl rfl (by rw[m];rfl) (by decide) ?_;refine v_ rfl rfl (by rw[m];rfl) (by decide) ?_;refine q_ (G_ (Zb m) rfl) (by decide) ⟨_,rfl,Zb f⟩ (q_ (G_ (Zb f) rfl) (by decide) ⟨_,rfl,Zb c⟩ (Zv (L_ (Zb c) rfl) ?_));have g:=Zj b;refine Ze [(31,_),(53,_)] ?_;subst g;refine s_ (λa ha=>⟨ha,kp⟩)
   ·replace b:=ZF c b;refine v_ rfl rfl (by rw[c];rfl) (by decide) ?_;refine v_ rfl rfl (by rw[c];rfl) (by decide) ?_;refine v_ rfl rfl (by rw[c];rfl) (by decide) ?_;refine v_ rfl rfl (by rw[c];rfl) (by decide) ?_;refine v_ rfl rfl (by rw[c];rfl) (by decide) ?_;refine v_ rfl rfl (by rw[c];rfl) (by decide) ?_;refine v_ rfl rfl (by rw[c];rfl) (by decide) ?_;refine ak_ rfl rfl (by decide) ?_;refine ak_ rfl rfl (by decide) ?_;refine ak_ rfl rfl (by decide) ?_;refine ak_ rfl rfl (by decide) ?_;refine ak_ rfl rfl (by decide) ?_;refine ak_ rfl rfl (by decide) ?_;refine ak_ rfl rfl (by decide) ?_;refine ak_ rfl rfl (by decide) ?_;refine ak_ rfl rfl (by decide) ?_;refine v_ rfl rfl (by rw[c];rfl) (by decide) ?_;refine Zv (G_ (Zb c) rfl) ?_;have g:=Zj b;refine Ze [(31,_),(53,_)] ?_;subst g;refine s_ (λa ha=>⟨ha,kp⟩)
  rintro d9 M ⟨ha,b3⟩;have b4:=b3.stp 999 u;replace hB:=hB.stp b4;refine aS_ ha ?_;refine Za rfl (Za rfl (Ze [(4,_),(5,_)] (nx (n_ ?_))));have b5:=Zj hF;subst b5;refine Zr Tryz.results143 [ZI i,.bool C] ?_;exact⟨rfl,hB.keeps⟩
 ·exact λ_ _ h=>h.elim
def T_(j:List (List Int))(k:List Int)(m:((List Int)×(List Int))->Option Int):(Int×Int)->Option (Lp (Int×Int) (Int×Int) (Int×Bool)):=λ(s:Int×Int)=>
  if decide (s.1<s.2) then
    (ck (s.1+s.2))>>=λb=>
    (cvU b)>>=λc=>
    (shr c 1)>>=λd=>
    (cvU d)>>=λa=>
    (ix j a)>>=λf=>
    (m (f,k))>>=λg=>
    if decide (g<0) then
      (ck (a+1))>>=λi=>
      some (.go (i,s.2))
    else
      some (.go (s.1,a))
  else
    some (.out (s.1,s.2))
def aj_(fuel:Nat)(a:List (List Int))(g:List Int)(i:((List Int)×(List Int))->Option Int):Option (Int×Bool):=
  (loopF (T_ a g i) fuel (0,(a.length:Int)))>>=λj=>
  match j with
  | .inl (b,k)=>
    (
      if decide (b<(a.length:Int)) then
        (ix a b)>>=λc=>
        (i (c,g))>>=λd=>
        some (d==0)
      else
        some false)>>=λf=>
    some (b,f)
  | .inr _=>none
def dd_(w:World)(r:Int×Bool):Ending->World->Prop:=λe w'=>e=.returned (.tuple #[.int .i64 r.1,.bool r.2])∧Keeps w w'
theorem dc_(fuel:Nat)(w:World)(j:Value)(i:Yk)(S:RdL zt w j i)(g:Value)(D:Yl)(b4:RdL zt w g D)(k:Value)(T:(Yl×Yl)->Option Int)(b5:FnV tX_ w k T)(r:Int×Bool)(hF:aj_ fuel i D T=some r):
    Calls tX_ 184 #[j,g,k] w (dd_ w r):=by
 unfold aj_ at hF;have hB:Bs (λ_=>1) (col (λ_=>1)) w w:=Bs.start _ _;refine j_ (n:=49) (vs:=[j,g,k]) Tryz.func184 rfl rfl ?_;refine Zq (Za rfl (Za rfl (Ze [(0,_),(1,_),(2,_)] (Zn (Zm rfl (Zv (J_ rfl S ub_) (Za rfl (Ze [(0,_),(1,_),(2,_),(8,_)] (Zn (Zm rfl (Za rfl (Za rfl ?_))))))))))));refine Ze [(0,_),(1,_),(2,_),(8,_),(9,_),(10,_)] (nx ?_);obtain⟨b6,U,hF⟩:=a_ hF;refine jm_ (λa v=>∃(f:Int)(q:Int)(s:Tg),b6=.inl (f,q)∧Fr a 49 [(0,j),(1,g),(2,k),(8,ZI (i.length:Int)),(9,ZI f)]∧Bs (λ_=>1) s w v) (λ_ _=>False) ?_ ?_ ?_
 ·refine f_ ?_;refine z_ (λ(K:Nat) a v=>∃(f:Int)(q:Int)(s:Tg),loopF (T_ i D T) K (f,q)=some b6∧Fr a 49 [(0,j),(1,g),(2,k),(8,ZI (i.length:Int)),(9,ZI f),(10,ZI q)]∧Bs (λ_=>1) s w v) fuel (λa ha=>⟨0,(i.length:Int),col (λ_=>1),U,ha.sb,hB⟩) ?_;rintro K9 a v ⟨f,q,s,b7,ha,hB⟩;obtain⟨K13,b8,b9,b,y⟩:=ad_ b7;dsimp only[T_] at b;refine O_ ha ?_;refine b_ (Zq (Zm rfl (Zm rfl (Zv (u_ rfl rfl) (Ze [(0,_),(1,_),(2,_),(8,_),(9,_),(10,_),(17,_)] (nx ?_))))));refine p_ rfl (λz=>?_) (λz=>?_)
  ·rw[if_pos z] at b;refine h_ (nx (f_ (Zq (Zm rfl (Zm rfl ?_)))));obtain⟨c0,E,b⟩:=a_ b;refine Zv (C_ rfl rfl E) ?_;obtain⟨c1,F,b⟩:=a_ b;refine Zv (ov_ F rfl ux_ uG_) ?_;obtain⟨c2,G,b⟩:=a_ b;refine Zv (qf_ rfl rfl G) ?_;obtain⟨u,H,b⟩:=a_ b;refine Zv (oy_ H rfl uG_ ux_) (Za rfl (Ze [(0,_),(1,_),(2,_),(8,_),(9,_),(10,_),(11,_)] (Zn (Zm rfl (Zm rfl (Zm rfl ?_))))));obtain⟨V,I,b⟩:=a_ b;refine Zo ?_;refine wf_atZ S I hB rfl rfl ub_ uf_ ?_;intro c3 c4 c5 W X;obtain⟨J,rfl,Y⟩:=X;refine Zv (e_ rfl ug_ (i_ W)) (Zm rfl ?_);obtain⟨Z,L,b⟩:=a_ b;refine Zo ?_;refine gl_ (x:=(V,D)) (vs:=[J,g]) (b5.keep hB.keeps) L ⟨[J],[g],rfl,⟨_,rfl,Y.keep hB.keeps⟩,⟨_,rfl,b4.keep hB.keeps⟩⟩ rfl ⟨rfl,rfl,trivial⟩ ?_;intro c6 a0;have a1:=a0.stp 999 s;replace hB:=hB.stp a1;refine Zv (u_ rfl rfl) (Ze [(0,_),(1,_),(2,_),(8,_),(9,_),(10,_),(11,_),(31,_)] (nx ?_));refine p_ rfl (λA=>?_) (λA=>?_)
   ·rw[if_pos A] at b;refine d_ (Zm rfl ?_);obtain⟨B,M,b⟩:=a_ b;refine Zv (C_ rfl rfl M) (Za rfl (Ze [(0,_),(1,_),(2,_),(8,_),(9,_),(10,_)] (y_ (x_ ?_))));have a2:=Zj b;subst a2;refine Zk [(0,_),(1,_),(2,_),(8,_),(9,_),(10,_)] ?_;intro a ha;exact⟨K13,by omega,B,q,s,y,ha,hB⟩
   ·replace b:=ZF A b;refine d_ (Zm rfl (Za rfl (Ze [(0,_),(1,_),(2,_),(8,_),(9,_),(10,_)] (y_ (x_ ?_)))));have a3:=Zj b;subst a3;refine Zk [(0,_),(1,_),(2,_),(8,_),(9,_),(10,_)] ?_;intro a ha;exact⟨K13,by omega,f,u,s,y,ha,hB⟩
  ·replace b:=ZF z b;refine w_ ?_;refine m_ (m_ (Q_ ?_));refine s_ ?_;have a4:=Zj b;subst a4;refine Zk [(0,_),(1,_),(2,_),(8,_),(9,_)] ?_;intro a ha;exact⟨f,q,s,y,ha,hB⟩
 ·rintro a v ⟨f,q,s,rfl,ha,hB⟩;dsimp only at hF;refine O_ ha ?_;refine Zq (Zm rfl (Zm rfl (Zm rfl (Zv (u_ rfl rfl) (Zm rfl ?_)))));obtain⟨C,d,hF⟩:=a_ hF;refine aF_ 9 (λa5 N=>Fr a5 49 [(35,ZI f),(48,.bool C)]∧Keeps v N) ?_ ?_;all_goals simp only[List.take_succ_cons,List.take_zero,List.drop_succ_cons,List.drop_zero]
  ·have kp:Keeps v v:=Keeps.refl _;rcases Bool.eq_false_or_eq_true (decide (f<(i.length:Int))) with c|c
   ·rw[if_pos c] at d;refine q_ (g_ rfl) (by decide) ⟨_,rfl,Zb c⟩ (q_ (g_ rfl) (by decide) ⟨_,rfl,Zb c⟩ (q_ (g_ rfl) (by decide) ⟨_,rfl,Zb c⟩ ?_));obtain⟨a6,O,d⟩:=a_ d;refine ct_ (by decide) ⟨_,rfl,Zb c⟩ ?_;refine wf_atZ S O hB rfl rfl ub_ uf_ ?_;intro c7 c8 c9 a7 a8;obtain⟨P,rfl,a9⟩:=a8;refine q_ (e_ rfl ug_ (i_ a7)) (by decide) ⟨_,rfl,Zb c⟩ (q_ (g_ rfl) (by decide) ⟨_,rfl,Zb c⟩ ?_);obtain⟨b0,Q,d⟩:=a_ d;refine ct_ (by decide) ⟨_,rfl,Zb c⟩ ?_;refine gl_ (x:=(a6,D)) (vs:=[P,g]) (b5.keep hB.keeps) Q ⟨[P],[g],rfl,⟨_,rfl,a9.keep hB.keeps⟩,⟨_,rfl,b4.keep hB.keeps⟩⟩ rfl ⟨rfl,rfl,trivial⟩ ?_;intro d0 R;have d1:=R.stp 999 s;replace kp:=Keeps.trans kp R;refine q_ (cD_ rfl rfl) (by decide) ⟨_,rfl,Zb c⟩ (Zv (L_ (Zb c) rfl) ?_);have m:=Zj d;refine Ze [(35,_),(48,_)] ?_;subst m;refine s_ (λa ha=>⟨ha,kp⟩)
   ·replace d:=ZF c d;refine v_ rfl rfl (by rw[c];rfl) (by decide) ?_;refine v_ rfl rfl (by rw[c];rfl) (by decide) ?_;refine v_ rfl rfl (by rw[c];rfl) (by decide) ?_;refine v_ rfl rfl (by rw[c];rfl) (by decide) ?_;refine v_ rfl rfl (by rw[c];rfl) (by decide) ?_;refine v_ rfl rfl (by rw[c];rfl) (by decide) ?_;refine v_ rfl rfl (by rw[c];rfl) (by decide) ?_;refine v_ rfl rfl (by rw[c];rfl) (by decide) ?_;refine Zv (G_ (Zb c) rfl) ?_;have m:=Zj d;refine Ze [(35,_),(48,_)] ?_;subst m;refine s_ (λa ha=>⟨ha,kp⟩)
  rintro d2 N ⟨ha,b1⟩;have b2:=b1.stp 999 s;replace hB:=hB.stp b2;refine aS_ ha ?_;refine Za rfl (Za rfl (Ze [(6,_),(7,_)] (nx (n_ ?_))));have b3:=Zj hF;subst b3;refine Zr Tryz.results184 [ZI f,.bool C] ?_;exact⟨rfl,hB.keeps⟩
 ·exact λ_ _ h=>h.elim
def bg_(fuel:Nat)(d:List (List Int))(f:List Int):Option Bool:=
  (srtO f)>>=λb=>
  (aj_ fuel d b (λ(a:(List Int)×(List Int))=>P_ a.1 a.2))>>=λc=>
  some c.2
def hz_(w:World)(r:Bool):Ending->World->Prop:=λe w'=>e=.returned (.bool r)∧Keeps w w'
theorem dE_(fuel:Nat)(w:World)(j:Value)(m:Yk)(H:RdL zt w j m)(d:Value)(k:Yl)(F:RdL zt w d k)(r:Bool)(hF:bg_ fuel m k=some r):
    Calls tX_ 162 #[j,d] w (hz_ w r):=by
 unfold bg_ at hF;have hB:Bs (λ_=>1) (col (λ_=>1)) w w:=Bs.start _ _;refine j_ (n:=16) (vs:=[j,d]) Tryz.func162 rfl rfl ?_;refine Zq (Za rfl (Ze [(0,_),(1,_)] (Zn (Zm rfl (Zm rfl (Zo ?_))))));refine o_ (rE_ w (col (λ_=>1)) d k (F.keep hB.keeps)) Tryz.call186 ⟨rfl,trivial⟩ ?_;rintro X I ⟨J,K,rfl,L,M,N⟩;have O:=M.stp' 999 N;refine⟨_,rfl,?_⟩;replace hB:=hB.stp O;obtain⟨f,g,hF⟩:=a_ hF;refine Zo ?_;refine o_ (pR_ I K 11 J d _ L k (F.keep hB.keeps) f g) Tryz.call185 ⟨rfl,trivial⟩ ?_;rintro P G ⟨Q,q,rfl,c,s,u⟩;have v:=s.stp' 11 u;replace c:=c.mono hB.keeps.size;refine⟨_,rfl,?_⟩;replace hB:=hB.stp v;obtain⟨b,i,hF⟩:=a_ hF;refine Zo ?_;refine o_ (dc_ fuel G _ m (H.keep hB.keeps) _ f c.z _ (λ(a:Yl×Yl)=>P_ a.1 a.2) (show FnV tX_ G (.func (.func 95) #[] #[]) (λ(a:Yl×Yl)=>P_ a.1 a.2) from ⟨_,_,rfl,Tryz.call95,λww vs xx rr kk hok hG=>by(obtain⟨R,S,rfl,x,y⟩:=hok;obtain⟨T,rfl,A⟩:=x;obtain⟨U,rfl,B⟩:=y;exact cX_slices_Compare_int_int ww _ xx.1 A _ xx.2 B rr hG)⟩) b i) Tryz.call184 ⟨rfl,rfl,rfl,trivial⟩ ?_;rintro V W ⟨rfl,C⟩;have D:=C.stp 999 q;refine⟨_,rfl,?_⟩;replace hB:=hB.stp D;refine Zm rfl (Zv (t_ rfl rfl) (Zv (t_ rfl rfl) (Za rfl (Za rfl (Ze [(6,_)] (Zn (Zm rfl (Za rfl (Ze [(4,_)] (nx (n_ ?_)))))))))));have E:=Zj hF;subst E;refine Zr Tryz.results162 [.bool b.2] ?_;exact⟨rfl,hB.keeps⟩
end
section
theorem mv_{σ τ ρ:Type}{f:σ->Option (Lp σ τ ρ)}{s s':σ}(h:f s=some (.go s'))(fuel:Nat):loopF f (fuel+1) s=loopF f fuel s':=by simp only[loopF,h]
theorem ix_{σ τ ρ:Type}{f:σ->Option (Lp σ τ ρ)}{s:σ}{t:τ}(h:f s=some (.out t))(fuel:Nat):loopF f (fuel+1) s=some (.inl t):=by simp only[loopF,h]
theorem bT_{σ ρ:Type}{f:σ->Option (Lp σ σ ρ)}(R:Nat->σ)(n:Nat)(hgo:∀j,j<n->f (R j)=some (.go (R (j+1))))(hout:f (R n)=some (.out (R n))):∀(fuel j:Nat),j<=n->n<fuel+j->loopF f fuel (R j)=some (.inl (R n)):=by
 intro fuel
 induction fuel with
 |zero=>intro j h1 h2;omega
 |succ fuel ih=>
  intro j h1 h2;by_cases e:j=n
  ·subst e;exact ix_ hout fuel
  ·rw[mv_ (hgo j (by omega)) fuel];exact ih (j+1) (by omega) (by omega)
theorem qh_{ρ:Type}{f:Int×Int->Option (Lp (Int×Int) (Int×Int) ρ)}(P:Nat->Bool)(n c:Nat)(hc:c<=n)
  (hf:∀lo hi:Nat,lo<hi->hi<=n->f ((lo:Int),(hi:Int))=some (.go (if P ((lo+hi)/2) then((((lo+hi)/2+1:Nat):Int),(hi:Int)) else((lo:Int),(((lo+hi)/2:Nat):Int)))))
  (ho:∀lo:Nat,lo<=n->f ((lo:Int),(lo:Int))=some (.out ((lo:Int),(lo:Int)))) (h1:∀j,j<c->P j=true) (h2:∀j,c<=j->j<n->P j=false):
  ∀(fuel lo hi:Nat),lo<=c->c<=hi->hi<=n->hi<fuel+lo->loopF f fuel ((lo:Int),(hi:Int))=some (.inl ((c:Int),(c:Int))):=by
 intro fuel
 induction fuel with
 |zero=>intro lo hi a b d e;omega
 | succ fuel ih=>
  intro lo hi a b d e;by_cases hlt:lo<hi
  ·rw[mv_ (hf lo hi hlt d) fuel];by_cases hm:(lo+hi)/2<c
   ·rw[if_pos (h1 _ hm)];exact ih _ _ (by omega) b d (by omega)
   ·rw[if_neg (by rw[h2 _ (by omega) (by omega)];simp)];exact ih _ _ a (by omega) (by omega) (by omega)
  ·have:lo=c:=by omega
   have:hi=c:=by omega
   subst_vars;exact ix_ (ho _ hc) fuel
theorem sN_{lo hi:Nat}(h:lo+hi<=4000000000):(ck ((lo:Int)+hi)>>=λx=>cvU x>>=λy=>shr y 1>>=λz=>cvU z)=some ((((lo+hi)/2:Nat)):Int):=by
 rw[F_ (by omega) (by omega),sb];unfold cvU shr;rw[if_pos (by omega),sb,if_neg (by omega),sb];have:((lo:Int)+(hi:Int)).fdiv (2^min (Int.toNat 1) 64)=(((lo+hi)/2:Nat):Int):=by
  rw[show min (Int.toNat 1) 64=1 from rfl,Int.fdiv_eq_ediv_of_nonneg _ (by decide)];omega
 rw[this,if_pos (by omega)]
theorem gC_{α:Type}(p:α->Bool):∀(l:List α),l.Pairwise (λa b=>p b=true->p a=true)->(∀(j:Nat) x,l[j]? =some x->j<l.countP p->p x=true)∧∀(j:Nat) x,l[j]? =some x->l.countP p<=j->p x=false
 |[],_=>⟨λj x h=>by simp at h,λj x h=>by simp at h⟩
 | a::l,h=>by
  rw[List.pairwise_cons] at h;obtain⟨h1,h2⟩:=gC_ p l h.2;cases hp:p a with
  | true=>
   rw[List.countP_cons_of_pos hp];refine⟨λj x hj hlt=>?_,λj x hj hle=>?_⟩
   ·cases j with
    |zero=>simp at hj;subst hj;exact hp
    |succ j=>exact h1 j x (by simpa using hj) (by omega)
   ·cases j with
    |zero=>omega
    |succ j=>exact h2 j x (by simpa using hj) (by omega)
  | false=>
   have hall:∀x,x∈l->p x=false:=λx hx=>by
    cases hx2:p x with
    |false=>rfl
    |true=>rw[h.1 x hx hx2] at hp;cases hp
   have hz:l.countP p=0:=List.countP_eq_zero.2 λx hx=>by rw[hall x hx];simp
   rw[List.countP_cons_of_neg (by rw[hp];simp),hz];refine⟨λj x hj hlt=>by omega,λj x hj hle=>?_⟩;cases j with
   |zero=>simp at hj;subst hj;exact hp
   |succ j=>exact hall x (List.mem_of_getElem? (by simpa using hj))
theorem tj_(a:Int):bu_ a=some false:=by unfold bu_;simp
theorem ks_(fuel:Nat)(xs:List Int)(t:Int)(hs:xs.Pairwise (·<=·))(hl:xs.length<=1000000000)(hf:xs.length<fuel):
  aw_ fuel xs t=some (((xs.countP λx=>decide (x<t):Nat):Int),decide (t∈xs)):=by
 obtain⟨c1,c2⟩:=gC_ (λx=>decide (x<t)) xs (hs.imp λh hb=>by simp only[decide_eq_true_eq] at hb ⊢;omega);have hc:xs.countP (λx=>decide (x<t))<=xs.length:=List.countP_le_length;unfold aw_;have:=qh_ (f:=ab_ xs t) (λj=>decide (xs.getD j 0<t)) xs.length (xs.countP λx=>decide (x<t)) hc (λlo hi h1 h2=>by
   have hm:(lo+hi)/2<xs.length:=by omega
   unfold ab_;simp only
   rw[if_pos (by simpa using h1)];have e:=sN_ (lo:=lo) (hi:=hi) (by omega);rw[F_ (by omega) (by omega),sb] at e ⊢;unfold cvU at e ⊢;rw[if_pos (by omega),sb] at e ⊢;cases hsh:shr ((lo:Int)+hi) 1 with
   |none=>rw[hsh] at e;cases e
   |some z=>
    rw[hsh,sb] at e;rw[sb];rw[e,sb,gf_ _ _ hm,sb,sK_,sb];rw[show xs.getD ((lo+hi)/2) 0=xs[(lo+hi)/2] by simp[List.getElem?_eq_getElem hm]];by_cases hlt:xs[(lo+hi)/2]<t
    ·simp only[decide_eq_true hlt,if_true];rw[F_ (by omega) (by omega),sb];rfl
    ·simp only[decide_eq_false hlt];rfl)
  (λlo h=>by
   unfold ab_;simp only
   rw[if_neg (by simp)]) (λj hj=>by
   have hjl:j<xs.length:=by omega
   have:=c1 j _ (List.getElem?_eq_getElem hjl) hj;simpa [List.getElem?_eq_getElem hjl] using this) (λj hj hjl=>by
   have:=c2 j _ (List.getElem?_eq_getElem hjl) hj;simpa [List.getElem?_eq_getElem hjl] using this) fuel 0 xs.length (Nat.zero_le _) hc (Nat.le_refl _) (by omega)
 rw[show((0:Nat):Int)=0 from rfl] at this;rw[this,sb];simp only
 generalize hcc:xs.countP (λx=>decide (x<t))=c at c1 c2 hc;by_cases hlt:c<xs.length
 ·rw[if_pos (by simpa using hlt),gf_ _ _ hlt,sb];have hle:t<=xs[c]:=by
   have:=c2 c _ (List.getElem?_eq_getElem hlt) (Nat.le_refl _);simpa using this
  by_cases e:xs[c]=t
  ·rw[if_pos (by simpa using e),sb];have:t∈xs:=by rw[<-e];exact List.getElem_mem hlt
   simp[this]
  ·rw[if_neg (by simpa using e),sb,tj_,sb];have:t ∉ xs:=by
    intro hm;obtain⟨j,hj,hj2⟩:=List.mem_iff_getElem.1 hm;have h3:=c1 j _ (List.getElem?_eq_getElem hj);by_cases hjc:j<c
    ·have:=h3 hjc;rw[hj2] at this;simp at this
    ·rw[List.pairwise_iff_getElem] at hs;by_cases hjc2:j=c
     ·subst hjc2;exact e hj2
     ·have:=hs c j hlt hj (by omega);omega
   simp[this,sb]
 ·rw[if_neg (by simpa using hlt),sb];have:t ∉ xs:=by
   intro hm;obtain⟨j,hj,hj2⟩:=List.mem_iff_getElem.1 hm;have:=c1 j _ (List.getElem?_eq_getElem hj) (by omega);rw[hj2] at this;simp at this
  simp[this]
theorem kE_(xs:List Int):(srt xs).Pairwise (·<=·):=by
 have:=List.pairwise_mergeSort (le:=λx y:Int=>decide (x<=y)) (λa b c h1 h2=>by simp only[decide_eq_true_eq] at*;omega) (λa b=>by simp only[Bool.or_eq_true,decide_eq_true_eq];omega) xs;exact this.imp λh=>by simpa using h
theorem op_(xs:List Int):(srt xs).Perm xs:=List.mergeSort_perm xs _
theorem fp_(xs:List Int):srt xs=ssort xs:=
 List.Perm.eq_of_pairwise (le:=λa b=>a<=b) (λa b _ _ h1 h2=>Int.le_antisymm h1 h2) (kE_ xs) (mb_ xs) ((op_ xs).trans (pP_ xs).symm)
end
section
theorem fi_{α β ρ:Type}{body:Int->α->List β->Option (Lp (List β) (List β) ρ)}(g:α->List β)(N:Nat):∀(xs:List α)(k:Int)(acc:List β),
  acc.length+(xs.flatMap g).length<=N->(∀x∈xs,∀(j:Int)(ac:List β),ac.length+(g x).length<=N->body j x ac=some (.go (ac++g x)))->
  forI body xs k acc=some (.inl (acc++xs.flatMap g))
 |[],k,acc,_,_=>by simp[forI]
 |x::xs,k,acc,h,hb=>by
  rw[List.flatMap_cons,List.length_append] at h;have h0:=hb x (by simp) k acc (by omega);simp only[forI,h0];rw[fi_ g N xs (k+1) (acc++g x) (by rw[List.length_append];omega) (λy hy=>hb y (by simp[hy])),List.flatMap_cons,List.append_assoc]
theorem eo_{α ρ:Type}{body:Int->α->Unit->Option (Lp Unit Unit ρ)}(Q:α->Prop)(R:ρ->Prop):∀(xs:List α)(k:Int),
  (∀x∈xs,∀j:Int,∃z,body j x ()=some z∧((z=.go ()∧¬Q x)∨∃r,z=.ret r∧R r∧Q x))->
  ∃z,forI body xs k ()=some z∧((z=.inl ()∧∀x∈xs,¬Q x)∨∃r,z=.inr r∧R r∧∃x∈xs,Q x)
 |[],k,_=>⟨_,rfl,.inl ⟨rfl,by simp⟩⟩
 | x::xs,k,h=>by
  obtain⟨z,h1,h2⟩:=h x (by simp) k;rcases h2 with⟨rfl,hn⟩|⟨r,rfl,hr,hq⟩
  ·obtain⟨z,g1,g2⟩:=eo_ Q R xs (k+1) (λy hy=>h y (by simp[hy]));refine⟨z,by simp only[forI,h1];exact g1,?_⟩;rcases g2 with⟨rfl,g2⟩|⟨r,rfl,hr,y,hy,hq⟩
   ·refine .inl ⟨rfl,λy hy=>?_⟩;rcases List.mem_cons.1 hy with rfl|hy
    ·exact hn
    ·exact g2 y hy
   ·exact .inr ⟨r,rfl,hr,y,by simp[hy],hq⟩
  ·exact⟨.inr r,by simp only[forI,h1],.inr ⟨r,rfl,hr,x,by simp,hq⟩⟩
theorem hB_{α:Type}(p:α->Bool):∀xs:List α,(xs.flatMap λx=>if p x then [x] else [])=xs.filter p
 |[]=>rfl
 |x::xs=>by
  rw[List.flatMap_cons,hB_ p xs,List.filter_cons];split<;>simp
def extD(n:Nat)(x:List Int):List (List Int):=(List.range' (x.getLastD 0).toNat (n-(x.getLastD 0).toNat)).map λa:Nat=>x++[(a:Int)]
def msD(n:Nat):Nat->List (List Int)
  |0=>[[]]
  |d+1=>(msD n d).flatMap (extD n)
theorem sm_(n:Nat)(x:List Int):(extD n x).length<=n:=by
 unfold extD;rw[List.length_map,List.length_range'];omega
theorem hi_{α β:Type}{g:α->List β}{m:Nat}:∀xs:List α,(∀x∈xs,(g x).length<=m)->(xs.flatMap g).length<=xs.length*m
 |[],_=>by simp
 |x::xs,h=>by
  have h1:=h x (by simp);have h2:=hi_ xs (λy hy=>h y (by simp[hy]));rw[List.flatMap_cons,List.length_append,List.length_cons,Nat.succ_mul];omega
theorem gx_(n:Nat):∀d,(msD n d).length<=n^d
 |0=>by simp[msD]
 |d+1=>by
  have h1:=gx_ n d;have h2:=hi_ (g:=extD n) (m:=n) (msD n d) λx _=>sm_ n x;have h3:(msD n d).length*n<=n^d*n:=Nat.mul_le_mul_right n h1;rw[Nat.pow_succ];unfold msD;omega
theorem qQ_{x:List Int}(hs:x.Pairwise (·<=·)):∀y∈x,y<=x.getLastD 0:=by
 intro y hy;rcases List.eq_nil_or_concat x with rfl|⟨u,a,rfl⟩
 ·simp at hy
 ·rw[List.concat_eq_append] at hs hy ⊢;rw[List.getLastD_concat];rcases List.mem_append.1 hy with hy|hy
  ·exact(List.pairwise_append.1 hs).2.2 y hy a (by simp)
  ·rw[List.mem_singleton.1 hy];exact Int.le_refl _
def ndP(n d:Nat)(x:List Int):Prop:=x.length=d∧x.Pairwise (·<=·)∧∀y∈x,0<=y∧y<(n:Int)
theorem qS_{n d:Nat}{x:List Int}(h:ndP n d x):0<=x.getLastD 0:=by
 rcases List.eq_nil_or_concat x with rfl|⟨u,a,rfl⟩
 ·simp
 ·have:=h.2.2 a (by simp);rw[List.concat_eq_append,List.getLastD_concat];exact this.1
theorem jo_{n:Nat}{x z:List Int}:z∈extD n x<->∃a:Nat,z=x++[(a:Int)]∧(x.getLastD 0).toNat<=a∧a<n:=by
 unfold extD;rw[List.mem_map];constructor
 ·rintro⟨a,h1,rfl⟩;rw[List.mem_range'_1] at h1;exact⟨a,rfl,h1.1,by omega⟩
 ·rintro⟨a,rfl,h1,h2⟩;exact⟨a,by rw[List.mem_range'_1];omega,rfl⟩
theorem ej_(n:Nat):∀(d:Nat)(z:List Int),z∈msD n d<->ndP n d z
 |0,z=>by
  unfold msD ndP;rw[List.mem_singleton,List.length_eq_zero_iff];constructor
  ·rintro rfl;simp
  ·exact λh=>h.1
 | d+1,z=>by
  unfold msD;rw[List.mem_flatMap];constructor
  ·rintro⟨x,hx,hz⟩;have h:=(ej_ n d x).1 hx;obtain⟨a,rfl,h1,h2⟩:=jo_.1 hz;refine⟨by rw[List.length_append,h.1];rfl,?_,λy hy=>?_⟩
   ·rw[List.pairwise_append];refine⟨h.2.1,by simp,λy hy b hb=>?_⟩;rw[List.mem_singleton.1 hb];have:=qQ_ h.2.1 y hy;omega
   ·rcases List.mem_append.1 hy with hy|hy
    ·exact h.2.2 y hy
    ·rw[List.mem_singleton.1 hy];omega
  ·rintro⟨h1,h2,h3⟩;rcases List.eq_nil_or_concat z with rfl|⟨u,a,rfl⟩
   ·simp at h1
   ·rw[List.concat_eq_append] at h1 h2 h3 ⊢;rw[List.pairwise_append] at h2;have ha:=h3 a (by simp);have hu:ndP n d u:=⟨by rw[List.length_append] at h1;simp at h1;exact h1,h2.1,λy hy=>h3 y (by simp[hy])⟩;refine⟨u,(ej_ n d u).2 hu,jo_.2 ⟨a.toNat,by rw[Int.toNat_of_nonneg ha.1],?_,by omega⟩⟩;rcases List.eq_nil_or_concat u with rfl|⟨t,b,rfl⟩
    ·simp
    ·rw[List.concat_eq_append,List.getLastD_concat];have:=h2.2.2 b (by simp) a (by simp);omega
theorem mS_:∀(x:List Int)(a b:Int),a<b->ordL (x++[a]) (x++[b])<0
 |[],a,b,h=>by simp[ordL,h]
 |y::x,a,b,h=>by
  have:=mS_ x a b h;simp only[List.cons_append,ordL];rw[if_neg (by omega),if_neg (by omega)];exact this
theorem oQ_:∀{x y:List Int}(s t:List Int),x.length=y.length->ordL x y<0->ordL (x++s) (y++t)<0
 |[],[],s,t,_,h=>by simp[ordL] at h
 |[],_::_,s,t,h,_=>by simp at h
 |_::_,[],s,t,h,_=>by simp at h
 | a::x,b::y,s,t,hl,h=>by
  have ih:=oQ_ (x:=x) (y:=y) s t (by simpa using hl);simp only[List.cons_append,ordL] at h ⊢;by_cases e:a<b
  ·rw[if_pos e];omega
  ·rw[if_neg e] at h ⊢;by_cases e2:a>b
   ·rw[if_pos e2] at h;omega
   ·rw[if_neg e2] at h ⊢;exact ih h
theorem qp_(n:Nat):∀d,sorS (msD n d)
 |0=>by simp[msD,sorS]
 |d+1=>by
  unfold msD sorS;rw[List.pairwise_flatMap];constructor
  ·intro x _;unfold extD;rw[List.pairwise_map];exact List.Pairwise.imp (λ{a b:Nat}(h:a<b)=>mS_ x (a:Int) (b:Int) (by omega)) (List.pairwise_lt_range' (step:=1) (by decide))
  ·have ih:=qp_ n d;unfold sorS at ih;refine (List.Pairwise.and_mem.1 ih).imp λ{x y} h u hu v hv=>?_;obtain⟨a,rfl,-,-⟩:=jo_.1 hu;obtain⟨b,rfl,-,-⟩:=jo_.1 hv;exact oQ_ _ _ (by rw[((ej_ n d x).1 h.1).1,((ej_ n d y).1 h.2.1).1]) h.2.2
theorem lp_{ρ:Type}{f:List (List Int)×Int->Option (Lp (List (List Int)×Int) (List (List Int)×Int) ρ)}{n:Nat}{x:List Int}
  (hgo:∀(acc:List (List Int))(k:Nat),k<n->acc.length<1000000000->f (acc,(k:Int))=some (.go (acc++[x++[(k:Int)]],((k+1:Nat):Int))))
  (hout:∀acc:List (List Int),f (acc,(n:Int))=some (.out (acc,(n:Int)))):∀(d k fuel:Nat)(acc:List (List Int)),k+d=n->d<fuel->acc.length+d<=1000000000->
  loopF f fuel (acc,(k:Int))=some (.inl (acc++(List.range' k d).map (λa:Nat=>x++[(a:Int)]),(n:Int)))
 |0,k,fuel,acc,hk,hf,_=>by
  obtain⟨fuel,rfl⟩:∃m,fuel=m+1:=⟨fuel-1,by omega⟩;have:k=n:=by omega
  subst this;rw[ix_ (hout acc)];simp
 |d+1,k,fuel,acc,hk,hf,hl=>by
  obtain⟨fuel,rfl⟩:∃m,fuel=m+1:=⟨fuel-1,by omega⟩;rw[mv_ (hgo acc k (by omega) (by omega)),lp_ hgo hout d (k+1) fuel _ (by omega) (by omega) (by simp;omega),List.range'_succ];simp
theorem nQ_{x:List Int}{d:Nat}(h:x.length=d+1):ix x (d:Int)=some (x.getLastD 0):=by
 rcases List.eq_nil_or_concat x with rfl|⟨u,a,rfl⟩
 ·simp at h
 ·rw[List.concat_eq_append] at h ⊢;rw[List.getLastD_concat];have:u.length=d:=by simpa using h
  subst this;exact kQ_ u a []
end
section
open Classical in
noncomputable def bitsP(P:Nat->Prop):Nat->Nat
  |0=>0
  |a+1=>if P a then bitsP P a|||2^a else bitsP P a
theorem dm_{P Q:Nat->Prop}:∀n,(∀b,b<n->(P b<->Q b))->bitsP P n=bitsP Q n
 |0,_=>rfl
 |n+1,h=>by
  have h1:=dm_ n λb hb=>h b (by omega);have h2:=h n (by omega);unfold bitsP;by_cases hp:P n
  ·rw[if_pos hp,if_pos (h2.1 hp),h1]
  ·rw[if_neg hp,if_neg (λe=>hp (h2.2 e)),h1]
theorem et_(P:Nat->Prop):∀n,bitsP P n<2^n
 |0=>by simp[bitsP]
 |a+1=>by
  have ih:=et_ P a;have h2:2^(a+1)=2^a+2^a:=by rw[Nat.pow_succ];omega
  unfold bitsP;split
  ·exact Nat.or_lt_two_pow (by omega) (Nat.pow_lt_pow_right (by decide) (by omega))
  ·omega
theorem eT_(P:Nat->Prop):∀(n b:Nat),(bitsP P n).testBit b=true<->b<n∧P b
 |0,b=>by simp[bitsP]
 | a+1,b=>by
  have ih:=eT_ P a b;unfold bitsP;by_cases hp:P a
  ·rw[if_pos hp,Nat.testBit_or,Nat.testBit_two_pow,Bool.or_eq_true,ih,decide_eq_true_eq];constructor
   ·rintro(⟨h1,h2⟩|rfl)
    ·exact⟨by omega,h2⟩
    ·exact⟨by omega,hp⟩
   ·rintro⟨h1,h2⟩;by_cases e:a=b
    ·exact .inr e
    ·exact .inl ⟨by omega,h2⟩
  ·rw[if_neg hp,ih];constructor
   ·rintro⟨h1,h2⟩;exact⟨by omega,h2⟩
   ·rintro⟨h1,h2⟩;by_cases e:b=a
    ·subst e;exact absurd h2 hp
    ·exact⟨by omega,h2⟩
theorem ii_{P:Nat->Prop}{a:Nat}(h:P a):bitsP P (a+1)=bitsP P a|||2^a:=by
 conv=>lhs;unfold bitsP
 rw[if_pos h]
theorem jr_{P:Nat->Prop}{a:Nat}(h:¬P a):bitsP P (a+1)=bitsP P a:=by
 conv=>lhs;unfold bitsP
 rw[if_neg h]
def cho:List Nat->List Int->Prop
  |[],[]=>True
  |S::SS,a::c=>(0<=a∧S.testBit a.toNat=true)∧cho SS c
  |_,_=>False
theorem sh_{SS TT:List Nat}(h:SS.Perm TT):∀c,cho SS c->∃c',c'.Perm c∧cho TT c':=by
 induction h with
 |nil=>exact λc hc=>⟨c,.refl _,hc⟩
 | cons x _ ih=>
  intro c hc;cases c with
  |nil=>exact hc.elim
  |cons a c=>
   obtain⟨c',h1,h2⟩:=ih c hc.2;exact⟨a::c',h1.cons a,hc.1,h2⟩
 |swap x y l=>
  intro c hc
  match c,hc with
  |[],hc=>exact hc.elim
  |[a],hc=>exact hc.2.elim
  |a::b::c,hc=>exact⟨b::a::c,.swap _ _ _,hc.2.1,hc.1,hc.2.2⟩
 |trans _ _ ih1 ih2=>
  intro c hc;obtain⟨c',h1,h2⟩:=ih1 c hc;obtain⟨c'',h3,h4⟩:=ih2 c' h2;exact⟨c'',h3.trans h1,h4⟩
noncomputable def cmpl(L:Nat)(G:List Int->Prop)(SS:List Nat):Nat:=bitsP (λb=>∀c,cho SS c->G (c++[(b:Int)])) L
theorem rs_{L:Nat}{G:List Int->Prop}(hG:∀c c':List Int,c.Perm c'->G c->G c'){SS TT:List Nat}(h:SS.Perm TT):cmpl L G SS=cmpl L G TT:=by
 have key:∀{SS TT:List Nat},SS.Perm TT->∀b:Nat,(∀c,cho SS c->G (c++[(b:Int)]))->∀c,cho TT c->G (c++[(b:Int)]):=λh b q c hc=>by
  obtain⟨c',h1,h2⟩:=sh_ h.symm c hc;exact hG _ _ (h1.append_right _) (q c' h2)
 exact dm_ L λb _=>⟨key h b,key h.symm b⟩
theorem oc_{α:Type}{l:List α}{i:Nat}(hi:i<l.length):l.Perm (l[i]::l.eraseIdx i):=by
 have h3:l=l.take i++l[i]::l.drop (i+1):=by rw[List.getElem_cons_drop,List.take_append_drop]
 have h4:=(List.perm_middle (a:=l[i]) (l₁:=l.take i) (l₂:=l.drop (i+1)));rw[<-h3] at h4;rw[List.eraseIdx_eq_take_drop_succ];exact h4
end
section
theorem hJ_(xs:List Int):(srt xs).Pairwise (·<=·):=by
 have:=List.pairwise_mergeSort (le:=λx y:Int=>decide (x<=y)) (λa b c h1 h2=>by simp at h1 h2 ⊢;omega) (λa b=>by simp;omega) xs;exact this.imp λ{a b} h=>by simpa using h
theorem fZ_(xs:List Int):(srt xs).Perm xs:=List.mergeSort_perm xs _
theorem ow_{m l:List Int}(hl:l.Pairwise (·<=·)):srt m=l<->m.Perm l:=
 ⟨λh=>by rw[<-h];exact(fZ_ m).symm,λh=>List.Perm.eq_of_pairwise (le:=λx y:Int=>x<=y) (λx y _ _ a b=>by omega) (hJ_ m) hl ((fZ_ m).trans h)⟩
theorem hf_{m l:List Int}(h:m.Perm l):srt m=srt l:=(ow_ (hJ_ l)).2 (h.trans (fZ_ l).symm)
theorem sX_{l:List Int}(h:l.Pairwise (·<=·)):srt l=l:=(ow_ h).2 (.refl _)
def inG(N:List (List Int))(l:List Int):Prop:=srt l∈N
theorem sc_{N:List (List Int)}(c c':List Int)(h:c.Perm c')(hc:inG N c):inG N c':=by
 unfold inG at hc ⊢;rw[<-hf_ h];exact hc
noncomputable def cmI(L:Nat)(N:List (List Int))(l:List Int):Int:=(cmpl L (inG N) (l.map Int.toNat):Int)
theorem sb_{L:Nat}{N:List (List Int)}{l m:List Int}(h:l.Perm m):cmI L N l=cmI L N m:=by
 unfold cmI;rw[rs_ sc_ (h.map Int.toNat)]
theorem oi_(L:Nat)(N:List (List Int))(l:List Int):0<=cmI L N l∧cmI L N l<2^L:=by
 have:=et_ (λb=>∀c,cho (l.map Int.toNat) c->inG N (c++[(b:Int)])) L;unfold cmI cmpl;have h2:((2^L:Nat):Int)=(2:Int)^L:=by simp
 omega
def fullI(L:Nat)(N:List (List Int))(l:List Int):Prop:=∀(i:Nat) x,l[i]? =some x->cmI L N (l.eraseIdx i)=x
theorem jt_{l:List Int}{i:Nat}{x:Int}(h:l[i]? =some x):l.Perm (x::l.eraseIdx i):=by
 obtain⟨hi,hx⟩:=List.getElem?_eq_some_iff.1 h;rw[<-hx];exact oc_ hi
theorem pb_{L:Nat}{N:List (List Int)}{l:List Int}:fullI L N l<->∀(x:Int)(m:List Int),l.Perm (x::m)->cmI L N m=x:=by
 constructor
 ·intro h x m hp;have hx:x∈l:=hp.symm.subset (by simp);obtain⟨i,hi,e⟩:=List.mem_iff_getElem.1 hx;have h0:l[i]? =some x:=by rw[List.getElem?_eq_getElem hi,e]
  have h2:=(List.perm_cons x).1 ((jt_ h0).symm.trans hp);rw[<-sb_ h2,h i x h0]
 ·intro h i x hi;exact h _ _ (jt_ hi)
theorem pI_{L:Nat}{N:List (List Int)}{l m:List Int}(h:l.Perm m)(hf:fullI L N l):fullI L N m:=by
 rw[pb_] at hf ⊢;exact λx u hp=>hf x u (h.trans hp)
def firstI(M:Int)(d:Nat)(l:List Int):Prop:=l.length=d∧l.Pairwise (·<=·)∧∀y∈l,1<=y∧y<=M
theorem qN_(L d:Nat)(N:List (List Int))(z:List Int):
  (∃l,firstI (2^L-1) d l∧cmI L N l≠0∧fullI L N (l++[cmI L N l])∧z=srt (l++[cmI L N l]))<->
  (∃l,firstI (2^L-1) d l∧cmI L N l≠0∧(∀y∈l,y<=cmI L N l)∧fullI L N (l++[cmI L N l])∧z=l++[cmI L N l]):=by
 constructor
 ·rintro⟨l,⟨h1,h2,h3⟩,h4,h5,rfl⟩;have hp:=fZ_ (l++[cmI L N l]);have hs:=hJ_ (l++[cmI L N l]);have hf:=pI_ hp.symm h5;have hmem:∀y∈srt (l++[cmI L N l]),1<=y∧y<=2^L-1:=λy hy=>by
   rcases List.mem_append.1 (hp.subset hy) with hy|hy
   ·exact h3 y hy
   ·rw[List.mem_singleton.1 hy];have:=oi_ L N l;omega
  have hlen:(srt (l++[cmI L N l])).length=d+1:=by rw[hp.length_eq];simp[h1]
  generalize srt (l++[cmI L N l])=z at*
  have hne:z≠ []:=λe=>by rw[e] at hlen;simp at hlen
  have hz:=List.dropLast_concat_getLast hne;have hlp:z.Perm (z.getLast hne::z.dropLast):=by
   conv=>lhs;rw[<-hz]
   exact List.perm_append_comm
  have hc:=pb_.1 hf _ _ hlp;have hlm:z.getLast hne∈z:=List.getLast_mem hne;refine⟨z.dropLast,⟨by rw[List.length_dropLast];omega,hs.sublist (List.dropLast_sublist z),λy hy=>hmem y ((List.dropLast_sublist z).subset hy)⟩,?_,?_,?_,?_⟩
  ·rw[hc];have:=hmem _ hlm;omega
  ·intro y hy;rw[hc];rw[<-hz,List.pairwise_append] at hs;exact hs.2.2 y hy _ (by simp)
  ·rw[hc,hz];exact hf
  ·rw[hc,hz]
 ·rintro⟨l,⟨h1,h2,h3⟩,h4,h5,h6,rfl⟩;refine⟨l,⟨h1,h2,h3⟩,h4,h6,(sX_ ?_).symm⟩;rw[List.pairwise_append];exact⟨h2,by simp,λa ha b hb=>by rw[List.mem_singleton.1 hb];exact h5 a ha⟩
end
end Go.Proofs.YtdbbeldgdgonfaaGreat
