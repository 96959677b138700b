/- Part 9 of what this claim rests on (pack.py). -/
import Derived.Test.YtdbbeldgdgonfaaGreatP08
namespace Go.Proofs.YtdbbeldgdgonfaaGreat
open Tryz renaming prog→wQ_, underlying32→xc_, sizeOf28→wU_, isAgg28→wX_, results127→zd_, call43→xE_, underlying28→wW_, sizeOf3→wS_, isAgg3→wT_, isAgg32→xq_, results60→ze_, zeroValue28→xf_, call47→xz_, results58→zf_, underlying22→wV_, sizeOf41→wY_, isAgg41→xa_, zeroValue41→xe_, sizeOf22→wZ_, isAgg22→xb_, call126→zg_, results158→zh_
set_option linter.unusedSimpArgs false
set_option linter.unusedVariables false
section
set_option maxRecDepth 100000
set_option maxHeartbeats 2000000
open Go.RowKit
theorem lx_:Inf wQ_ 41 (.slice none 0 0) 1 24:=by unfold Inf;kernel_rfl
theorem ew_:(wQ_.info? 28).map (·.size)=some 4:=by kernel_rfl
def K_(d:List b_)(f:b_->Option Bool):Int->Unit->Option (Lp Unit Unit Int):=λ(c:Int)(s:Unit)=>
  (ix d c)>>=λa=>
  (f a)>>=λb=>
  if b then
    some (.ret c)
  else
    some (.go ())
def ab_(a:List b_)(b:b_->Option Bool):Option Int:=
  ck (a.length:Int)>>=λ_=>
  (forN (K_ a b) ((a.length:Int)).toNat 0 ())>>=λc=>
  match c with
  | .inl _=>
    some (-1)
  | .inr r'=>some r'
def bo_(w:World)(r:Int):Ending->World->Prop:=λe w'=>e=.returned (.int .i64 r)∧Keeps w w'
theorem cQ_(w:World)(f:Value)(d:List b_)(S:RdL zt w f d)(g:Value)(y:b_->Option Bool)(U:FnV wQ_ w g y)(r:Int)(hF:ab_ d y=some r):
    Calls wQ_ 127 #[f,g] w (bo_ w r):=by
 unfold ab_ at hF;have hB:Bs (λ_=>1) (col (λ_=>1)) w w:=Bs.start _ _;refine i_ (n:=19) (vs:=[f,g]) Tryz.func127 rfl rfl ?_;refine Zq (Za rfl (Ze [(0,_),(1,_)] (nx (c_ (Zq (Zm rfl (Zv (B_ rfl S xc_) (Zm rfl (Ze [(0,_),(1,_),(7,_),(8,_)] (nx ?_))))))))));obtain⟨a2,V,hF⟩:=a_ hF;obtain⟨-,h5a,h5b⟩:=bV_ V;obtain⟨z,A,hF⟩:=a_ hF;refine v_ (λa q=>∃(j:Tg),z=.inl ()∧Fr a 19 []∧Bs (λ_=>1) j w q) (λa w'=>∃r',z=.inr r'∧bodyPost wQ_ Tryz.f127 (bo_ w r') .ret a w') ?_ ?_ ?_
 ·refine f_ ?_;refine w_ (λ(K:Nat) a q=>∃(b:Int),∃(j:Tg),forN (K_ d y) ((d.length:Int)-b).toNat b ()=some z∧((d.length:Int)-b).toNat=K∧0<=b∧Fr a 19 [(0,f),(1,g),(7,ZI (d.length:Int)),(8,ZI b)]∧Bs (λ_=>1) j w q) _ (λa ha=>⟨0,col (λ_=>1),(by rw[Int.sub_zero];exact A),rfl,Int.le_refl 0,ha.sb,hB⟩) ?_;rintro K10 a q ⟨b,j,T,W,a3,ha,hB⟩;by_cases i:b<(d.length:Int)
  ·obtain⟨X,c,s⟩:=bv_ i T;dsimp only[K_] at c;refine J_ ha ?_;refine Zq (Zv (r_ rfl rfl) (Ze [(0,_),(1,_),(7,_),(8,_),(9,_)] (nx (c_ ?_))));refine L_ (Zb (decide_eq_true i)) ?_;refine g_ (nx (c_ (f_ (Zq (Zm rfl (Za rfl (Ze [(0,_),(1,_),(5,_),(7,_),(8,_)] (Zn (Zm rfl (Zm rfl (Zm rfl ?_)))))))))));obtain⟨k,u,c⟩:=a_ c;refine Zo ?_;refine wf_atZ S u hB rfl rfl xc_ wU_ ?_;intro Y Z a0 B C;obtain⟨D,E,rfl,F,G⟩:=C;refine Zv (E_ rfl wX_ wU_ rfl B) ?_;obtain⟨H,v,c⟩:=a_ c;refine Zo ?_;refine ge_ (x:=k) (vs:=[.agg #[ZI k.Labels,ZI k.Degree,D,E]]) (U.keep hB.keeps) v ⟨_,rfl,⟨_,_,rfl,F.keep hB.keeps,G.keep hB.keeps⟩⟩ rfl ⟨rfl,trivial⟩ ?_;intro a1 I;have J:=I.stp 999 j;replace hB:=hB.stp J;refine Ze [(0,_),(1,_),(5,_),(7,_),(8,_),(16,_)] (nx ?_);refine l_ rfl (λm=>?_) (λm=>?_)
   ·rw[if_pos m] at c;refine Zq (Zm rfl (Za rfl (Ze [(4,_)] (nx (j_ (W_ (y_ (y_ (W_ ?_)))))))));refine bg_ ?_;have L:=Zj c;subst L;refine λa ha=>⟨_,s,?_⟩;refine D_ (P:=wQ_) (vs:=[ZI b]) zd_ ⟨rfl,trivial⟩ ?_ a ha;exact⟨rfl,hB.keeps⟩
   ·replace c:=ZF m c;refine g_ (x_ (nx (d_ (Zv (C_ rfl rfl (F_ (by omega) (by omega))) (Zm rfl (Ze [(0,_),(1,_),(7,_),(8,_)] (u_ ?_)))))));have M:=Zj c;subst M;refine Zk [(0,_),(1,_),(7,_),(8,_)] ?_;intro a ha;exact⟨_,(by rw[<-W];omega),b+1,j,s,rfl,by omega,ha,hB⟩
  ·have N:=bu_ i T;refine J_ ha ?_;refine Zq (Zv (r_ rfl rfl) (Ze [(0,_),(1,_),(7,_),(8,_),(9,_)] (nx (c_ ?_))));refine G_ (Zb (decide_eq_false i)) ?_;refine s_ ?_;refine n_ (n_ (N_ ?_));refine p_ ?_;refine Zk [] ?_;intro a ha;exact⟨j,N,ha,hB⟩
 ·rintro a q ⟨j,rfl,ha,hB⟩;dsimp only at hF;refine ap_k ha ?_;refine Zn (Za rfl (Ze [(4,_)] (nx (j_ ?_))));have O:=Zj hF;subst O;refine Zr zd_ [ZI (-1)] ?_;exact⟨rfl,hB.keeps⟩
 ·rintro a q ⟨r',rfl,Q⟩;dsimp only at hF;have R:=Zj hF;subst R;exact Q
def af_(a:List b_)(b:b_->Option Bool):Option Bool:=
  (ab_ a b)>>=λc=>
  some (decide (c>=0))
def cA_(w:World)(r:Bool):Ending->World->Prop:=λe w'=>e=.returned (.bool r)∧Keeps w w'
theorem cB_(w:World)(a:Value)(c:List b_)(i:RdL zt w a c)(b:Value)(d:b_->Option Bool)(j:FnV wQ_ w b d)(r:Bool)(hF:af_ c d=some r):
    Calls wQ_ 89 #[a,b] w (cA_ w r):=by
 unfold af_ at hF;have hB:Bs (λ_=>1) (col (λ_=>1)) w w:=Bs.start _ _;refine i_ (n:=9) (vs:=[a,b]) Tryz.func89 rfl rfl ?_;refine Zq (Za rfl (Ze [(0,_),(1,_)] (Zn (Zm rfl (Zm rfl ?_)))));obtain⟨f,g,hF⟩:=a_ hF;refine Zo ?_;refine o_ (cQ_ w _ c (i.keep hB.keeps) _ d (j.keep hB.keeps) f g) Tryz.call127 ⟨rfl,rfl,trivial⟩ ?_;rintro s u ⟨rfl,k⟩;have m:=k.stp 999 (col (λ_=>1));refine⟨_,rfl,?_⟩;replace hB:=hB.stp m;refine Zv (lF_ rfl rfl) (Za rfl (Ze [(4,_)] (nx (j_ ?_))));have q:=Zj hF;subst q;refine Zr Tryz.results89 [.bool (decide (f>=0))] ?_;exact⟨rfl,hB.keeps⟩
def aN_(fuel:Nat)(d:b_)(f:List b_):Option Bool:=
  (
    (db_ fuel d)>>=λa=>
    if !a then
      some true
    else
      (ix f 0)>>=λb=>
      some (d.Degree !=b.Degree))>>=λc=>
  some c
def lD_(w:World)(r:Bool):Ending->World->Prop:=λe w'=>e=.returned (.bool r)∧Keeps w w'
theorem kE_(fuel:Nat)(w:World)(a5:List Value)(g:b_)(d4:Rp.rd zt w a5 g)(R:Nat)(a6:List Value)(y:List b_)(d5:Cells w R 0 a6)(a7:Rp.rd zt w a6 y)(r:Bool)(hF:aN_ fuel g y=some r):
    Calls wQ_ 90 #[.agg a5.toArray,.pointer (some ⟨R,0,none⟩)] w (lD_ w r):=by
 unfold aN_ at hF;obtain⟨z,A,rfl,a8,a9⟩:=d4;have g1k:=a7;obtain⟨e5,rfl,d6⟩:=a7;have hB:Bs (λ_=>1) (col (λ_=>1)) w w:=Bs.start _ _;refine i_ (n:=16) (vs:=[.agg #[ZI g.Labels,ZI g.Degree,z,A],ZP R]) Tryz.func90 rfl rfl ?_;refine Zq (Zo ?_);refine as_ (o:=(col (λ_=>1))) w.heap.size 11 hB.keeps.size (cs:=[ZI g.Labels,ZI g.Degree,z,A]) rfl rfl ?_;intro e6 B S j T;replace hB:=hB.stp T;refine Za rfl (Ze [(1,_),(2,_)] (nx (c_ ?_)));obtain⟨C,d,hF⟩:=a_ hF;refine v_ (λU D=>∃E:Tg,Fr U 16 [(3,.bool C)]∧Bs (λ_=>1) E w D) (λ_ _=>False) ?_ ?_ (λ_ _ h=>h.elim)
 ·obtain⟨f,q,d⟩:=a_ d;rcases Bool.eq_false_or_eq_true (!f) with b|b
  ·rw[if_pos b] at d;refine ZW (Bf:=λF B=>Bs (λ_=>1) F w B∧Bz w 11 F B S 28 [ZI g.Labels,ZI g.Degree,z,A]) [(1,_),(2,_)] (Zrg 4 10) [[],[0],[1],[2],[3],[3],[3],[3],[3],[3]] (Zcn 10) (Zt9 10) (Zt0 10) [999] [.inl (.agg #[ZI g.Labels,ZI g.Degree,z,A]),.inl (.bool f),.inl (.bool (!f)),.inl (.bool (!f)),.inl undef,.inl undef,.inl undef,.inl undef,.inl undef,.inl undef] ⟨hB,j⟩ trivial ?_ ?_
   ·refine⟨Dq λh=>E_ rfl wX_ wU_ rfl h.2.cells,?_,Dp (aI_ rfl),Dp (h_ rfl),Dn rfl rfl rfl (by rw[b];rfl),Dn rfl rfl rfl (by rw[b];rfl),Dn rfl rfl rfl (by rw[b];rfl),Dn rfl rfl rfl (by rw[b];rfl),Dn rfl rfl rfl (by rw[b];rfl),Dn rfl rfl rfl (by rw[b];rfl),trivial⟩
    ·rintro V W d7 ha ⟨hB,j⟩-;refine Zs ha ?_;refine o_ (fn_ fuel W _ g (⟨_,_,rfl,a8.keep hB.keeps,a9.keep hB.keeps⟩) f q) xE_ ⟨rfl,trivial⟩ ?_;rintro d8 d9 ⟨rfl,X⟩;have Y:=X.stp 999 V;refine⟨_,rfl,?_⟩;exact⟨_,Y,rfl⟩
   rintro _ rfl Z e0 e1 ha ⟨hB,j⟩-;refine aH_ ha ?_;refine A_ rfl rfl (by rw[b];rfl) (by decide) ?_;refine Zv (P_ (Zb b) rfl) (Za rfl ?_);have a0:=Zj d;subst a0;refine Ze [(3,_)] ?_;refine p_ (λa ha=>⟨Z,ha,hB⟩)
  ·replace d:=ZF b d;obtain⟨x,k,d⟩:=a_ d;refine ZW (Bf:=λF B=>Bs (λ_=>1) F w B∧Bz w 11 F B S 28 [ZI g.Labels,ZI g.Degree,z,A]) [(1,_),(2,_)] (Zrg 4 10) [[],[0],[1],[2],[3],[3,4],[3],[3,6],[3,7],[3,8]] (Zcn 10) (Zt9 10) (Zt0 10) [999] [.inl (.agg #[ZI g.Labels,ZI g.Degree,z,A]),.inl (.bool f),.inl (.bool (!f)),.inl (.bool (!f)),.inl (.pointer (some ⟨S,0+1,none⟩)),.inl (ZI g.Degree),.inr (λv o b0=>RdL zt w v y),.inr (λv o b0=>∃vl,v=adr vl ((0:Int).toNat*Rp.sz b_)∧RdL zt w vl y),.inr (λv o b0=>∃vl,v=adr vl ((0:Int).toNat*Rp.sz b_+1)∧RdL zt w vl y),.inl (ZI x.Degree)] ⟨hB,j⟩ ⟨λ_ _ _ _ _ _ b1 hb h hs=>h,λ_ _ _ _ _ _ b1 hb ⟨vl,e,h⟩ hs=>⟨vl,e,h⟩,λ_ _ _ _ _ _ b1 hb ⟨vl,e,h⟩ hs=>⟨vl,e,h⟩,trivial⟩ ?_ ?_
   ·refine⟨Dq λh=>E_ rfl wX_ wU_ rfl h.2.cells,?_,Dp (aI_ rfl),Dp (h_ rfl),Dp (m_ rfl wW_ rfl wS_) (⟨_,rfl,Zb b⟩),Dq (λh=>e_ rfl wT_ (h.2.cell rfl)) (⟨_,rfl,Zb b⟩),?_,?_,?_,?_,trivial⟩
    ·rintro a1 a2 e2 ha ⟨hB,j⟩-;refine Zs ha ?_;refine o_ (fn_ fuel a2 _ g (⟨_,_,rfl,a8.keep hB.keeps,a9.keep hB.keeps⟩) f q) xE_ ⟨rfl,trivial⟩ ?_;rintro e3 e4 ⟨rfl,a3⟩;have a4:=a3.stp 999 a1;refine⟨_,rfl,?_⟩;exact⟨_,a4,rfl⟩
    ·rintro b2 b3 b4 ha ⟨hB,-⟩-;refine ds_ ha (⟨_,rfl,Zb b⟩) ?_;refine M_ (e_ rfl xq_ (k_ (d5.keep hB.keeps))) ?_;exact⟨_,Stp.refl _ _ _,d6⟩
    ·rintro b5 b6 s ha- ⟨i,-⟩;replace i:RdL zt w (s.tmps.getD 10 undef) y:=i;generalize G:s.tmps.getD 10 undef=b7 at i;have ha:=ha.c G;refine ds_ ha (⟨_,rfl,Zb b⟩) ?_;refine ae_ i k rfl rfl xc_ wU_ ?_;exact⟨_,Stp.refl _ _ _,⟨_,rfl,i⟩⟩
    ·rintro b8 b9 c0 ha- ⟨H,-⟩;obtain⟨c1,I,u⟩:=H;have ha:=ha.c I;refine ds_ ha (⟨_,rfl,Zb b⟩) ?_;refine qF_ (RdL.plc u k) rfl wW_ rfl wS_ ?_;exact⟨_,Stp.refl _ _ _,⟨_,rfl,u⟩⟩
    ·rintro c2 c3 c4 ha ⟨hB,-⟩ ⟨J,-⟩;obtain⟨c5,K,L⟩:=J;have ha:=ha.c K;refine ds_ ha (⟨_,rfl,Zb b⟩) ?_;refine qW_ (L.keep hB.keeps) k (of_decide_eq_true rfl) rfl wT_ ?_;intro c6 M N m;obtain⟨c7,c8,rfl,c9,d0⟩:=N;replace m:some (ZI x.Degree)=some M:=m;cases m
     exact Zx rfl
   rintro _ rfl O d1 d2 ha ⟨hB,j⟩-;refine aH_ ha ?_;refine q_ (bR_ rfl rfl) (by decide) ⟨_,rfl,Zb b⟩ (Zv (I_ (Zb b) rfl) (Za rfl ?_));have P:=Zj d;subst P;refine Ze [(3,_)] ?_;refine p_ (λa ha=>⟨O,ha,hB⟩)
 rintro d3 D ⟨E,ha,hB⟩;refine ap_k ha ?_;refine nx (j_ ?_);have Q:=Zj hF;subst Q;refine Zr Tryz.results90 [.bool C] ?_;exact⟨rfl,hB.keeps⟩
def eD_(fuel:Nat)(a:List b_):Option Bool:=
  (dT_ (a.length:Int) 1 7)>>=λd=>
  if !d then
    some false
  else
    (af_ a (λb=>aN_ fuel b a))>>=λc=>
    some (!c)
def nG_(w:World)(r:Bool):Ending->World->Prop:=λe w'=>e=.returned (.bool r)∧Keeps w w'
theorem mR_(fuel:Nat)(w:World)(f:Value)(a:List b_)(k:RdL zt w f a)(r:Bool)(hF:eD_ fuel a=some r):
    Calls wQ_ 60 #[f] w (nG_ w r):=by
 unfold eD_ at hF;have hB:Bs (λ_=>1) (col (λ_=>1)) w w:=Bs.start _ _;refine i_ (n:=11) (vs:=[f]) Tryz.func60 rfl rfl ?_;refine Zq (Zo ?_);refine as_ (o:=(col (λ_=>1))) w.heap.size 11 hB.keeps.size (cs:=[f]) k.cells1 rfl ?_;intro A C g i D;replace hB:=hB.stp D;refine Za rfl (Ze [(1,_)] (nx (c_ (Zq (Zv (e_ rfl xq_ (i.cell rfl)) (Zv (B_ rfl k xc_) ?_))))));obtain⟨B,m,hF⟩:=a_ hF;refine Zo ?_;refine o_ (gy_ C (a.length:Int) 1 7 B m) Tryz.call62 ⟨rfl,rfl,rfl,trivial⟩ ?_;rintro E q ⟨rfl,F⟩;have s:=F.stp 999 A;refine⟨_,rfl,?_⟩;obtain⟨i,hB⟩:=ZS s (A2 i hB);refine Zv (aI_ rfl) (Ze [(1,_),(6,_)] (nx ?_));refine l_ rfl (λb=>?_) (λb=>?_)
 ·rw[if_pos b] at hF;refine Zq (Za rfl (Ze [(2,_)] (nx (j_ (y_ ?_)))));have u:=Zj hF;subst u;refine Zr ze_ [.bool false] ?_;exact⟨rfl,hB.keeps⟩
 ·replace hF:=ZF b hF;refine g_ (Zn (Zv (e_ rfl xq_ (i.cell rfl)) (Zv (gU_ (vs:=[ZP g]) ⟨rfl,trivial⟩) ?_)));obtain⟨c,j,hF⟩:=a_ hF;refine Zo ?_;refine o_ (cB_ q _ a (k.keep hB.keeps) _ (λd=>aN_ fuel d a) (show FnV wQ_ q (.func (.func 90) #[] #[ZP g]) (λd=>aN_ fuel d a) from ⟨_,_,rfl,Tryz.call90,λww vs xx rr kk hok hG=>by(obtain⟨G,rfl,v⟩:=hok;exact kE_ fuel ww _ xx v g _ a ((i.cells).keep kk) (Rp.keep ((show Rp.rd zt q [f] (a:List b_) from iH_ (k.keep hB.keeps))) kk) rr hG)⟩) c j) Tryz.call89 ⟨rfl,rfl,trivial⟩ ?_;rintro H I ⟨rfl,x⟩;have y:=x.stp 999 A;refine⟨_,rfl,?_⟩;replace hB:=hB.stp y;refine Zv (aI_ rfl) (Za rfl (Ze [(2,_)] (nx (j_ ?_))));have z:=Zj hF;subst z;refine Zr ze_ [.bool (!c)] ?_;exact⟨rfl,hB.keeps⟩
def eV_(fuel:Nat)(f:List b_):Int->b_->Unit->Option (Lp Unit Unit Bool):=λ(g:Int)(a:b_)(s:Unit)=>
  (
    (eC_ fuel a)>>=λb=>
    if !b then
      some true
    else
      (ix f 0)>>=λc=>
      some (a.Degree !=c.Degree))>>=λd=>
  if d then
    some (.ret false)
  else
    some (.go ())
def jf_(fuel:Nat)(b:List b_):Option Bool:=
  (forI (eV_ fuel b) b 0 ())>>=λc=>
  match c with
  | .inl _=>
    (hl_ (b.length:Int) 1 7)>>=λa=>
    some a
  | .inr r'=>some r'
def ri_(w:World)(r:Bool):Ending->World->Prop:=λe w'=>e=.returned (.bool r)∧Keeps w w'
theorem uv_(fuel:Nat)(w:World)(d:Value)(i:List b_)(N:RdL zt w d i)(r:Bool)(hF:jf_ fuel i=some r):
    Calls wQ_ 58 #[d] w (ri_ w r):=by
 unfold jf_ at hF;have hB:Bs (λ_=>1) (col (λ_=>1)) w w:=Bs.start _ _;refine i_ (n:=27) (vs:=[d]) Tryz.func58 rfl rfl ?_;refine Zq (Za rfl (Ze [(0,_)] (nx (c_ (Zq (Zm rfl (Zv (B_ rfl N xc_) (Zm rfl (Ze [(0,_),(5,_),(6,_),(7,_)] (nx ?_))))))))));obtain⟨b5,b6,hF⟩:=a_ hF;refine v_ (λa G=>∃(D:Tg),b5=.inl ()∧Fr a 27 [(0,d)]∧Bs (λ_=>1) D w G) (λa w'=>∃r',b5=.inr r'∧bodyPost wQ_ Tryz.f58 (ri_ w r') .ret a w') ?_ ?_ ?_
 ·refine f_ ?_;refine w_ (λ(K:Nat) a G=>∃(k:Int),∃(D:Tg),forI (eV_ fuel i) (i.drop k.toNat) k ()=some b5∧(i.drop k.toNat).length=K∧0<=k∧Fr a 27 [(0,d),(5,d),(6,ZI (i.length:Int)),(7,ZI k)]∧Bs (λ_=>1) D w G) _ (λa ha=>⟨0,col (λ_=>1),b6,rfl,Int.le_refl 0,ha.sb,hB⟩) ?_;rintro K8 a G ⟨k,D,d0,f5,f6,ha,hB⟩;by_cases z:k<(i.length:Int)
  ·obtain⟨g,h0,O,m,Q⟩:=R_ f6 z d0;have hle:=N.len_le;dsimp only[eV_] at m;refine J_ ha ?_;refine Zq (Zv (r_ rfl rfl) (Ze [(0,_),(5,_),(6,_),(7,_),(8,_)] (nx (c_ ?_))));refine L_ (Zb (decide_eq_true z)) ?_;refine g_ (nx (c_ (f_ (Zq (Zo ?_)))));refine wf_atZ N O hB rfl rfl xc_ wU_ ?_;intro f7 f8 f9 b7 b8;obtain⟨A,B,rfl,H,I⟩:=b8;refine Zv (E_ rfl wX_ wU_ rfl b7) (Zo ?_);refine av_ (o:=D) w.heap.size 11 hB.keeps.size (cs:=[ZI 0,ZI 0,.slice none 0 0,.slice none 0 0]) xf_ rfl ?_;intro g0 g1 C b9 c0;replace hB:=hB.stp c0;refine Z_ trivial ?_;refine T_ b9 rfl rfl rfl ew_ (by intro c hc;simp only[List.mem_cons,List.not_mem_nil,or_false] at hc;rcases hc with rfl|rfl|rfl|rfl<;>first|rfl|exact H.one1|exact I.one1) ?_;intro g2 q c1;replace hB:=hB.stp c1;refine Ze [(0,_),(4,_),(5,_),(6,_),(7,_)] (nx (c_ ?_));obtain⟨c2,f,m⟩:=a_ m;refine v_ (λc3 R=>∃J:Tg,Fr c3 27 [(0,d),(5,d),(6,ZI (i.length:Int)),(7,ZI k),(22,.bool c2)]∧Bs (λ_=>1) J w R) (λ_ _=>False) ?_ ?_ (λ_ _ h=>h.elim)
   ·obtain⟨j,E,f⟩:=a_ f;rcases Bool.eq_false_or_eq_true (!j) with b|b
    ·rw[if_pos b] at f;refine ZW (Bf:=λS T=>Bs (λ_=>1) S w T∧Bz w 11 S T C 28 [ZI g.Labels,ZI g.Degree,A,B]) [(0,_),(4,_),(5,_),(6,_),(7,_)] (Zrg 11 10) [[],[0],[1],[2],[3],[3],[3],[3],[3],[3]] (Zcn 10) (Zt9 10) (Zt0 10) [999] [.inl (.agg #[ZI g.Labels,ZI g.Degree,A,B]),.inl (.bool j),.inl (.bool (!j)),.inl (.bool (!j)),.inl undef,.inl undef,.inl undef,.inl undef,.inl undef,.inl undef] ⟨hB,q⟩ trivial ?_ ?_
     ·refine⟨Dq λh=>E_ rfl wX_ wU_ rfl h.2.cells,?_,Dp (aI_ rfl),Dp (h_ rfl),Dn rfl rfl rfl (by rw[b];rfl),Dn rfl rfl rfl (by rw[b];rfl),Dn rfl rfl rfl (by rw[b];rfl),Dn rfl rfl rfl (by rw[b];rfl),Dn rfl rfl rfl (by rw[b];rfl),Dn rfl rfl rfl (by rw[b];rfl),trivial⟩
      ·rintro c4 c5 g3 ha ⟨hB,q⟩-;refine Zs ha ?_;refine o_ (gu_ fuel c5 _ g (⟨_,_,rfl,H.keep hB.keeps,I.keep hB.keeps⟩) j E) xz_ ⟨rfl,trivial⟩ ?_;rintro g4 g5 ⟨rfl,c6⟩;have c7:=c6.stp 999 c4;refine⟨_,rfl,?_⟩;exact⟨_,c7,rfl⟩
     rintro _ rfl c8 g6 g7 ha ⟨hB,q⟩-;refine aH_ ha ?_;refine A_ rfl rfl (by rw[b];rfl) (by decide) ?_;refine Zv (P_ (Zb b) rfl) ?_;have c9:=Zj f;subst c9;refine Ze [(0,_),(5,_),(6,_),(7,_),(22,_)] ?_;refine p_ (λa ha=>⟨c8,ha,hB⟩)
    ·replace f:=ZF b f;obtain⟨L,s,f⟩:=a_ f;refine ZW (Bf:=λS T=>Bs (λ_=>1) S w T∧Bz w 11 S T C 28 [ZI g.Labels,ZI g.Degree,A,B]) [(0,_),(4,_),(5,_),(6,_),(7,_)] (Zrg 11 10) [[],[0],[1],[2],[3],[3,4],[3],[3,6],[3,7],[3,8]] (Zcn 10) (Zt9 10) (Zt0 10) [999] [.inl (.agg #[ZI g.Labels,ZI g.Degree,A,B]),.inl (.bool j),.inl (.bool (!j)),.inl (.bool (!j)),.inl (.pointer (some ⟨C,0+1,none⟩)),.inl (ZI g.Degree),.inl d,.inr (λv o g8=>∃vl,v=adr vl ((0:Int).toNat*Rp.sz b_)∧RdL zt w vl i),.inr (λv o g8=>∃vl,v=adr vl ((0:Int).toNat*Rp.sz b_+1)∧RdL zt w vl i),.inl (ZI L.Degree)] ⟨hB,q⟩ ⟨λ_ _ _ _ _ _ g9 hb ⟨vl,e,h⟩ hs=>⟨vl,e,h⟩,λ_ _ _ _ _ _ g9 hb ⟨vl,e,h⟩ hs=>⟨vl,e,h⟩,trivial⟩ ?_ ?_
     ·refine⟨Dq λh=>E_ rfl wX_ wU_ rfl h.2.cells,?_,Dp (aI_ rfl),Dp (h_ rfl),Dp (m_ rfl wW_ rfl wS_) (⟨_,rfl,Zb b⟩),Dq (λh=>e_ rfl wT_ (h.2.cell rfl)) (⟨_,rfl,Zb b⟩),Dp (h_ rfl) (⟨_,rfl,Zb b⟩),?_,?_,?_,trivial⟩
      ·rintro U V d1 ha ⟨hB,q⟩-;refine Zs ha ?_;refine o_ (gu_ fuel V _ g (⟨_,_,rfl,H.keep hB.keeps,I.keep hB.keeps⟩) j E) xz_ ⟨rfl,trivial⟩ ?_;rintro d2 d3 ⟨rfl,W⟩;have X:=W.stp 999 U;refine⟨_,rfl,?_⟩;exact⟨_,X,rfl⟩
      ·rintro d4 d5 d6 ha- -;refine ds_ ha (⟨_,rfl,Zb b⟩) ?_;refine ae_ N s rfl rfl xc_ wU_ ?_;exact⟨_,Stp.refl _ _ _,⟨_,rfl,N⟩⟩
      ·rintro d7 d8 d9 ha- ⟨Y,-⟩;obtain⟨e0,Z,F⟩:=Y;have ha:=ha.c Z;refine ds_ ha (⟨_,rfl,Zb b⟩) ?_;refine qF_ (RdL.plc F s) rfl wW_ rfl wS_ ?_;exact⟨_,Stp.refl _ _ _,⟨_,rfl,F⟩⟩
      ·rintro e1 e2 e3 ha ⟨hB,-⟩ ⟨a0,-⟩;obtain⟨e4,a1,a2⟩:=a0;have ha:=ha.c a1;refine ds_ ha (⟨_,rfl,Zb b⟩) ?_;refine qW_ (a2.keep hB.keeps) s (of_decide_eq_true rfl) rfl wT_ ?_;intro e5 a3 a4 u;obtain⟨e6,e7,rfl,e8,e9⟩:=a4;replace u:some (ZI L.Degree)=some a3:=u;cases u
       exact Zx rfl
     rintro _ rfl a5 f0 f1 ha ⟨hB,q⟩-;refine aH_ ha ?_;refine q_ (bR_ rfl rfl) (by decide) ⟨_,rfl,Zb b⟩ (Zv (I_ (Zb b) rfl) ?_);have a6:=Zj f;subst a6;refine Ze [(0,_),(5,_),(6,_),(7,_),(22,_)] ?_;refine p_ (λa ha=>⟨a5,ha,hB⟩)
   rintro f2 R ⟨J,ha,hB⟩;refine ap_k ha ?_;refine nx ?_;refine l_ rfl (λx=>?_) (λx=>?_)
   ·rw[if_pos x] at m;refine Zq (Za rfl (Ze [(2,_)] (nx (j_ (W_ (y_ (y_ (W_ ?_))))))));refine bg_ ?_;have a7:=Zj m;subst a7;refine λa ha=>⟨_,Q,?_⟩;refine D_ (P:=wQ_) (vs:=[.bool false]) zf_ ⟨rfl,trivial⟩ ?_ a ha;exact⟨rfl,hB.keeps⟩
   ·replace m:=ZF x m;refine g_ (x_ (nx (d_ (Zv (C_ rfl rfl (F_ (by omega) (by omega))) (Zm rfl (Ze [(0,_),(5,_),(6,_),(7,_)] (u_ ?_)))))));have a8:=Zj m;subst a8;refine Zk [(0,_),(5,_),(6,_),(7,_)] ?_;intro a ha;exact⟨_,(by rw[<-f5];simp only[List.length_drop];omega),k+1,J,Q,rfl,by omega,ha,hB⟩
  ·have a9:=S_ z d0;refine J_ ha ?_;refine Zq (Zv (r_ rfl rfl) (Ze [(0,_),(5,_),(6,_),(7,_),(8,_)] (nx (c_ ?_))));refine G_ (Zb (decide_eq_false z)) ?_;refine s_ ?_;refine n_ (n_ (N_ ?_));refine p_ ?_;refine Zk [(0,_)] ?_;intro a ha;exact⟨D,a9,ha,hB⟩
 ·rintro a G ⟨D,rfl,ha,hB⟩;dsimp only at hF;refine ap_k ha ?_;refine Zn (Zm rfl (Zv (B_ rfl N xc_) ?_));obtain⟨y,M,hF⟩:=a_ hF;refine Zo ?_;refine o_ (lC_ G (i.length:Int) 1 7 y M) Tryz.call40 ⟨rfl,rfl,rfl,trivial⟩ ?_;rintro f3 f4 ⟨rfl,b0⟩;have b1:=b0.stp 999 D;refine⟨_,rfl,?_⟩;replace hB:=hB.stp b1;refine Za rfl (Ze [(2,_)] (nx (j_ ?_)));have b2:=Zj hF;subst b2;refine Zr zf_ [.bool y] ?_;exact⟨rfl,hB.keeps⟩
 ·rintro a G ⟨r',rfl,b3⟩;dsimp only at hF;have b4:=Zj hF;subst b4;exact b3
def fu_:Int->(List Int)->(List (List Int))->Option (Lp (List (List Int)) (List (List Int)) (List (List Int))):=λ(d:Int)(a:List Int)(s:List (List Int))=>
  (dd_ a)>>=λb=>
  (push s b)>>=λc=>
  some (.go c)
def gx_(b:List (List Int)):Option (List (List Int)):=
  (forI (fu_) b 0 [])>>=λa=>
  match a with
  | .inl c=>
    some c
  | .inr _=>none
def tP_(oo:Tg)(t:Nat)(w:World)(r:Yk):Ending->World->Prop:=λe w'=>∃(a:Value)(c:List Hv)(o':Tg),e=.returned (a)∧Ow w.heap.size 41 t o' w' a c∧Rws w.heap.size 3 (t+1) o' w' c r∧Keeps w w'∧∀b,b<w.heap.size->o' b=oo b
theorem nK_(w:World)(oo:Tg)(t:Nat)(ht:2<=t)(f:Value)(d:Yk)(J:RdL zt w f d)(r:Yk)(hF:gx_ d=some r):
    Calls wQ_ 126 #[f] w (tP_ oo t w r):=by
 unfold gx_ at hF;have hB:Bs oo (col oo) w w:=Bs.start _ _;refine i_ (n:=19) (vs:=[f]) Tryz.func126 rfl rfl ?_;generalize col oo=o at*;refine Zq (Za rfl (Ze [(0,_)] (Zn (Za rfl (Ze [(0,_),(3,_)] (nx (c_ (Zq (Zm rfl (Zv (B_ rfl J wV_) (Zm rfl (Ze [(3,_),(6,_),(7,_),(8,_)] ?_))))))))))));refine nx ?_;have a8:Oz w 41 11 o w (.slice none 0 0) ([]:List Hv):=Ow.nil _ _ _ _ _;have a9:Rq w 3 12 o w [] ([]:Yk):=Rws.nil _ _ _ _ _;obtain⟨A,B,hF⟩:=a_ hF;refine v_ (λa q=>∃x g s j,A=.inl x∧Fr a 19 [(3,g)]∧Bs oo j w q∧Oz w 41 11 j q g s∧Rq w 3 12 j q s x) (λ_ _=>False) ?_ ?_ ?_
 ·refine f_ ?_;refine w_ (λ(K:Nat) a q=>∃(b:Int),∃x g s j,forI (fu_) (d.drop b.toNat) b x=some A∧(d.drop b.toNat).length=K∧0<=b∧Fr a 19 [(3,g),(6,f),(7,ZI (d.length:Int)),(8,ZI b)]∧Bs oo j w q∧Oz w 41 11 j q g s∧Rq w 3 12 j q s x) _ (λa ha=>⟨0,[],.slice none 0 0,[],o,B,rfl,Int.le_refl 0,ha.sb,hB,a8,a9⟩) ?_;rintro K15 a q ⟨b,x,g,s,j,C,L,M,ha,hB,y,k⟩;by_cases u:b<(d.length:Int)
  ·obtain⟨N,b0,D,i,O⟩:=R_ M u C;have hle:=J.len_le;dsimp only[fu_] at i;refine J_ ha ?_;refine Zq (Zv (r_ rfl rfl) (Ze [(3,_),(6,_),(7,_),(8,_),(9,_)] (nx (c_ ?_))));refine L_ (Zb (decide_eq_true u)) ?_;refine g_ (nx (c_ (f_ (Zq (Zo ?_)))));refine wf_atZ J D hB rfl rfl wV_ wY_ ?_;intro b1 b2 b3 P Q;obtain⟨R,rfl,S⟩:=Q;refine Zv (e_ rfl xa_ (k_ P)) (Za rfl (Ze [(3,_),(5,_),(6,_),(7,_),(8,_)] (nx (d_ (Zm rfl (Zm rfl ?_))))));obtain⟨T,E,i⟩:=a_ i;refine Zo ?_;refine o_ (eB_ q j 13 (by decide) _ N (S.keep hB.keeps) T E) Tryz.call66 ⟨rfl,trivial⟩ ?_;rintro b4 b5 ⟨m,U,rfl,c,V,W⟩;have X:=V.stp' 13 W;replace c:=c.mono hB.keeps.size;refine⟨_,rfl,?_⟩;obtain⟨y,k,hB⟩:=ZS X (A3 y k hB);refine Zo ?_;refine au_ (o:=U) (cs:=[m]) (xs:=([⟨m⟩]:List Hv)) (vs:=[(0,m)]) ⟨_,_,rfl,iG_ c,rfl⟩ rfl ⟨rfl,rfl,trivial⟩ wV_ wY_ xe_ (by decide) (fill1 c.cells1) (by simp) ?_;intro b6 b7 b8 Y Z b9;obtain⟨y,k,c,hB⟩:=ZS Z (A4 y k c hB);obtain⟨a0,F,i⟩:=a_ i;obtain⟨a1,a2⟩:=k.pushV F m;refine Zo ?_;refine aT_ y Y (ai_ a1) (by decide) hB.keeps.size rfl rfl wV_ lx_ rfl (by decide) ?_;intro G c0 v z a3;obtain⟨k,c,hB⟩:=ZS a3 (A3 k c hB);have H:=k.push c (by decide) (by decide);rw[<-a2] at H;clear k c;have I:=eO_ 13 12 G;replace z:=z.rc I (by decide) (by decide);replace hB:=hB.rc I (by decide);generalize mrg 13 12 G=a4 at*;refine Za rfl (Ze [(3,v),(6,f),(7,ZI (d.length:Int)),(8,ZI b)] (x_ (nx (d_ (Zv (C_ rfl rfl (F_ (by omega) (by omega))) (Zm rfl (Ze [(3,_),(6,_),(7,_),(8,_)] (u_ ?_))))))));have a5:=Zj i;subst a5;refine Zk [(3,_),(6,_),(7,_),(8,_)] ?_;intro a ha;exact⟨_,(by rw[<-L];simp only[List.length_drop];omega),b+1,a0,v,s++[⟨m⟩],a4,O,rfl,by omega,ha,hB,z,H⟩
  ·have a6:=S_ u C;refine J_ ha ?_;refine Zq (Zv (r_ rfl rfl) (Ze [(3,_),(6,_),(7,_),(8,_),(9,_)] (nx (c_ ?_))));refine G_ (Zb (decide_eq_false u)) ?_;refine s_ ?_;refine n_ (n_ (N_ ?_));refine p_ ?_;refine Zk [(3,_)] ?_;intro a ha;exact⟨x,g,s,j,a6,ha,hB,y,k⟩
 ·rintro a q ⟨x,g,s,j,rfl,ha,hB,y,k⟩;dsimp only at hF;refine ap_k ha ?_;refine Zn (Zm rfl (Za rfl (Ze [(2,_)] (nx (j_ ?_)))));have a7:=Zj hF;subst a7;refine Zr Tryz.results126 [g] ?_;exact⟨_,s,rt2 oo j w.heap.size 11 12 t,rfl,y.rt2 hB (by decide) (by decide) t,k.rt2 hB (by decide) (by decide) (by decide) t,hB.keeps,fA_ _ _ _ _ _ _⟩
 ·exact λ_ _ h=>h.elim
def iW_(a:b_):Option b_:=
  (gx_ a.Nodes)>>=λb=>
  (gx_ a.Edges)>>=λc=>
  some (⟨a.Labels,a.Degree,b,c⟩:b_)
def uV_(oo:Tg)(t:Nat)(w:World)(r:b_):Ending->World->Prop:=λe w'=>∃(a:List Value)(o':Tg),e=.returned (.agg a.toArray)∧Rp.rd o' w' a r∧Dz 41 3 o' w' (a.getD 2 undef) r.Nodes∧Dz 41 3 o' w' (a.getD 3 undef) r.Edges∧Keeps w w'∧∀b,b<w.heap.size->o' b=oo b
theorem uZ_(w:World)(oo:Tg)(t:Nat)(ht:2<=t)(b8:List Value)(b:b_)(c2:Rp.rd zt w b8 b)(r:b_)(hF:iW_ b=some r):
    Calls wQ_ 88 #[.agg b8.toArray] w (uV_ oo t w r):=by
 unfold iW_ at hF;obtain⟨a3,a4,rfl,T,c3⟩:=c2;have hB:Bs oo (col oo) w w:=Bs.start _ _;refine i_ (n:=14) (vs:=[.agg #[ZI b.Labels,ZI b.Degree,a3,a4]]) Tryz.func88 rfl rfl ?_;generalize col oo=o at*;refine Zq (Zo ?_);refine as_ (o:=o) w.heap.size 11 hB.keeps.size (cs:=[ZI b.Labels,ZI b.Degree,a3,a4]) rfl rfl ?_;intro c4 e2 R S c5;replace hB:=hB.stp c5;refine Zo ?_;refine av_ (o:=c4) w.heap.size 12 hB.keeps.size (cs:=[ZI 0,ZI 0,.slice none 0 0,.slice none 0 0]) xf_ rfl ?_;intro c6 c7 J z a5;obtain⟨S,hB⟩:=ZS a5 (A2 S hB);refine Ze [(1,_),(2,_)] (nx (c_ ?_));obtain⟨K,U,hF⟩:=a_ hF;obtain⟨L,V,hF⟩:=a_ hF;refine ZW (Bf:=λa6 a7=>Bs oo a6 w a7∧Bz w 11 a6 a7 R 28 [ZI b.Labels,ZI b.Degree,a3,a4]∧Bz w 12 a6 a7 J 28 [ZI 0,ZI 0,.slice none 0 0,.slice none 0 0]) [(1,_),(2,_)] (Zrg 3 10) [[],[0],[],[2],[],[4],[5],[],[7],[8]] (Zcn 10) (Zt9 10) (Zt0 10) [999] [.inl (.pointer (some ⟨R,0+0,none⟩)),.inl (ZI b.Labels),.inl (.pointer (some ⟨R,0+1,none⟩)),.inl (ZI b.Degree),.inl (.pointer (some ⟨R,0+2,none⟩)),.inl a3,.inr (λv o W=>∃g:List Hv,Oz w 41 2026 o W v g∧Rq w 3 2027 o W g K),.inl (.pointer (some ⟨R,0+3,none⟩)),.inl a4,.inr (λv o W=>∃g:List Hv,Oz w 41 2030 o W v g∧Rq w 3 2031 o W g L)] ⟨hB,S,z⟩ ⟨λ_ _ _ _ _ _ D hb ⟨g,h,T⟩ hs=>⟨g,h.stp hs D.1 (Nat.ne_of_gt (Nat.lt_of_le_of_lt D.2 (by decide))),T.stp hs D.1 (Nat.ne_of_gt (Nat.lt_of_le_of_lt D.2 (by decide)))⟩,λ_ _ _ _ _ _ D hb ⟨g,h,T⟩ hs=>⟨g,h.stp hs D.1 (Nat.ne_of_gt (Nat.lt_of_le_of_lt D.2 (by decide))),T.stp hs D.1 (Nat.ne_of_gt (Nat.lt_of_le_of_lt D.2 (by decide)))⟩,trivial⟩ ?_ ?_
 ·refine⟨Dp (m_ rfl wW_ rfl wS_),Dq λh=>e_ rfl wT_ (h.2.1.cell rfl),Dp (m_ rfl wW_ rfl wS_),Dq λh=>e_ rfl wT_ (h.2.1.cell rfl),Dp (m_ rfl wW_ rfl wZ_),Dq λh=>e_ rfl xb_ (h.2.1.cell rfl),?_,Dp (m_ rfl wW_ rfl wZ_),Dq λh=>e_ rfl xb_ (h.2.1.cell rfl),?_,trivial⟩
  ·rintro a8 a9 c8 ha ⟨hB,S,z⟩-;refine Zs ha ?_;refine o_ (nK_ a9 a8 2026 (by decide) _ b.Nodes (T.keep hB.keeps) K U) zg_ ⟨rfl,trivial⟩ ?_;rintro c9 d0 ⟨d1,d2,d3,rfl,M,N,b0,b1⟩;have b2:=b0.stp' 999 b1;replace M:=M.mono hB.keeps.size;replace N:=N.mono hB.keeps.size;refine⟨_,rfl,?_⟩;exact⟨_,b2,⟨_,M,N⟩⟩
  ·rintro b3 b4 d4 ha ⟨hB,S,z⟩-;refine Zs ha ?_;refine o_ (nK_ b4 b3 2030 (by decide) _ b.Edges (c3.keep hB.keeps) L V) zg_ ⟨rfl,trivial⟩ ?_;rintro d5 d6 ⟨d7,d8,d9,rfl,O,Q,b5,b6⟩;have b7:=b5.stp' 999 b6;replace O:=O.mono hB.keeps.size;replace Q:=Q.mono hB.keeps.size;refine⟨_,rfl,?_⟩;exact⟨_,b7,⟨_,O,Q⟩⟩
 rintro _ rfl s E F ha ⟨hB,S,z⟩ ⟨G,H,-⟩;replace G:∃g:List Hv,Oz w 41 2026 s E (F.tmps.getD 9 undef) g∧Rq w 3 2027 s E g K:=G;generalize X:F.tmps.getD 9 undef=u at G;obtain⟨b9,d,A⟩:=G;have ha:=ha.c X;replace H:∃g:List Hv,Oz w 41 2030 s E (F.tmps.getD 12 undef) g∧Rq w 3 2031 s E g L:=H;generalize Y:F.tmps.getD 12 undef=x at H;obtain⟨c0,a,f⟩:=H;have ha:=ha.c Y;refine aH_ ha ?_;refine Zv (ba_ (vs:=[(0,ZI b.Labels),(1,ZI b.Degree),(2,u),(3,x)]) (cs:=[ZI b.Labels,ZI b.Degree,u,x]) ⟨rfl,rfl,rfl,rfl,rfl,rfl,rfl,rfl,trivial⟩ (by obtain⟨_,_,e0⟩:=d.form;rw[e0];obtain⟨_,_,e1⟩:=a.form;rw[e1];kernel_rfl)) ?_;refine Z_ trivial ?_;refine T_ z rfl rfl rfl ew_ (by intro c hc;simp only[List.mem_cons,List.not_mem_nil,or_false] at hc;rcases hc with rfl|rfl|rfl|rfl<;>first|rfl|exact d.one1|exact a.one1) ?_;intro c1 i Z;obtain⟨d,A,a,f,hB⟩:=ZS Z (A5 d A a f hB);refine Ze [(2,_)] (nx (j_ ?_));have y:=Dz.of d A (by decide) (by decide) (by decide);have j:=eM_ 2026 s;have k:=eM_ 2027 (frz 2026 s);replace i:=(i.rc j (by decide)).rc k (by decide);replace a:=(a.rc j (by decide) (by decide)).rc k (by decide) (by decide);replace f:=(f.rc j (by decide) (by decide)).rc k (by decide) (by decide);replace hB:=(hB.rc j (by decide)).rc k (by decide);clear j k;generalize frz 2027 (frz 2026 s)=B at*;have C:=y.rd;have I:=Dz.of a f (by decide) (by decide) (by decide);have m:=eM_ 2030 B;have q:=eM_ 2031 (frz 2030 B);replace i:=(i.rc m (by decide)).rc q (by decide);replace C:=(C.rc m (by decide)).rc q (by decide);replace y:=(y.rc m (by decide)).rc q (by decide);replace hB:=(hB.rc m (by decide)).rc q (by decide);clear m q;generalize frz 2031 (frz 2030 B)=a0 at*;have a1:=I.rd;have a2:=Zj hF;subst a2;refine D_ (P:=wQ_) (vs:=[.agg #[ZI b.Labels,ZI b.Degree,u,x]]) Tryz.results88 ⟨⟨_,rfl,al_ wX_ wU_ rfl i.cells⟩,trivial⟩ ?_;exact⟨[ZI b.Labels,ZI b.Degree,u,x],rt oo a0 w.heap.size 9 t,rfl,⟨_,_,rfl,C.rt hB 9 t (by decide),a1.rt hB 9 t (by decide)⟩,y.rt hB 9 t (by decide),I.rt hB 9 t (by decide),hB.keeps,am_ _ _ _ _ _⟩
end
section
set_option maxRecDepth 100000
set_option maxHeartbeats 2000000
open Go.RowKit
theorem fz_:Inf wQ_ 41 (.slice none 0 0) 1 24:=by unfold Inf;kernel_rfl
def bW_(f:List (List Int))(g:List Int):Int->Option (Lp Int Int (List (List Int))):=λ(s:Int)=>
  (
    if decide (s<(f.length:Int)) then
      (ix f s)>>=λa=>
      (eY_ a g)>>=λb=>
      some (decide (b<0))
    else
      some false)>>=λc=>
  if c then
    (ck (s+1))>>=λd=>
    some (.go d)
  else
    some (.out s)
def fS_(fuel:Nat)(a:List (List Int))(c:List Int):Option (List (List Int)):=
  (loopF (bW_ a c) fuel 0)>>=λq=>
  match q with
  | .inl b=>
    (
      if decide (b<(a.length:Int)) then
        (ix a b)>>=λd=>
        (gw_ d c)>>=λf=>
        some f
      else
        some false)>>=λg=>
    if g then
      some a
    else
      (cut a 0 b)>>=λi=>
      (cat ([]:List (List Int)) i)>>=λj=>
      (push j c)>>=λk=>
      (cut a b a.length)>>=λm=>
      (cat k m)>>=λn=>
      some n
  | .inr _=>none
def pE_(oo:Tg)(t:Nat)(w:World)(r:Yk):Ending->World->Prop:=λe w'=>∃(a:Value)(o':Tg),e=.returned (a)∧RdL o' w' a r∧Keeps w w'∧∀b,b<w.heap.size->o' b=oo b
theorem qa_(fuel:Nat)(w:World)(oo:Tg)(t:Nat)(ht:2<=t)(j:Value)(B:Yk)(d:RdL oo w j B)(k:Value)(A:Yl)(f:RdL oo w k A)(r:Yk)(hF:fS_ fuel B A=some r):
    Calls wQ_ 158 #[j,k] w (pE_ oo t w r):=by
 unfold fS_ at hF;replace d:=RdL.col d;replace f:=RdL.col f;have hB:Bs oo (col oo) w w:=Bs.start _ _;refine i_ (n:=49) (vs:=[j,k]) Tryz.func158 rfl rfl ?_;generalize col oo=o at*;refine Zq (Za rfl (Ze [(0,_),(1,_)] (Zn (Za rfl (Ze [(0,_),(1,_),(5,_)] (nx ?_))))));obtain⟨d7,a1,hF⟩:=a_ hF;refine kA_ (λa s=>∃(m:Int),∃(u:Tg),d7=.inl m∧Fr a 49 [(0,j),(1,k),(5,ZI m)]∧Bs oo u w s∧RdL u s j B∧RdL u s k A) (λ_ _=>False) ?_ ?_ ?_
 ·refine f_ ?_;refine w_ (λ(K:Nat) a s=>∃(m:Int),∃(u:Tg),loopF (bW_ B A) K m=some d7∧Fr a 49 [(0,j),(1,k),(5,ZI m)]∧Bs oo u w s∧RdL u s j B∧RdL u s k A) fuel (λa ha=>⟨0,o,a1,ha.sb,hB,d,f⟩) ?_;rintro K8 a s ⟨m,u,d8,ha,hB,d,f⟩;obtain⟨K12,h3,d9,q,G⟩:=X_ d8;dsimp only[bW_] at q;refine J_ ha ?_;refine c_ (Zq (Zm rfl (Zm rfl (Zv (B_ rfl d wV_) (Zv (r_ rfl rfl) (Zm rfl ?_))))));obtain⟨H,g,q⟩:=a_ q;refine bc_ 8 (λa2 I=>Fr a2 49 [(0,j),(1,k),(5,ZI m),(19,.bool H)]∧Keeps s I) ?_ ?_;all_goals simp only[List.take_succ_cons,List.take_zero,List.drop_succ_cons,List.drop_zero]
  ·have kp:Keeps s s:=Keeps.refl _;rcases Bool.eq_false_or_eq_true (decide (m<(B.length:Int))) with b|b
   ·rw[if_pos b] at g;refine q_ (h_ rfl) (by decide) ⟨_,rfl,Zb b⟩ (q_ (h_ rfl) (by decide) ⟨_,rfl,Zb b⟩ ?_);obtain⟨a3,J,g⟩:=a_ g;refine cJ_ (by decide) ⟨_,rfl,Zb b⟩ ?_;refine fo_ d J rfl rfl wV_ wY_ ?_;intro e0 e1 e2 a4 a5;obtain⟨e3,rfl,a6⟩:=a5;refine q_ (e_ rfl xa_ (k_ a4)) (by decide) ⟨_,rfl,Zb b⟩ (q_ (h_ rfl) (by decide) ⟨_,rfl,Zb b⟩ ?_);obtain⟨L,M,g⟩:=a_ g;refine cJ_ (by decide) ⟨_,rfl,Zb b⟩ ?_;refine o_ (mi_ s _ a3 a6.z _ A f.z L M) Tryz.call107 ⟨rfl,rfl,trivial⟩ ?_;rintro e4 e5 ⟨rfl,N⟩;have a7:=N.stp 999 u;refine⟨_,rfl,?_⟩;obtain⟨d,f⟩:=ZS a7 (A2 d f);replace kp:=Keeps.trans kp N;refine q_ (r_ rfl rfl) (by decide) ⟨_,rfl,Zb b⟩ (Zv (P_ (Zb b) rfl) ?_);have v:=Zj g;refine Ze [(0,_),(1,_),(5,_),(19,_)] ?_;subst v;refine p_ (λa ha=>⟨ha,kp⟩)
   ·replace g:=ZF b g;refine A_ rfl rfl (by rw[b];rfl) (by decide) ?_;refine A_ rfl rfl (by rw[b];rfl) (by decide) ?_;refine A_ rfl rfl (by rw[b];rfl) (by decide) ?_;refine A_ rfl rfl (by rw[b];rfl) (by decide) ?_;refine A_ rfl rfl (by rw[b];rfl) (by decide) ?_;refine A_ rfl rfl (by rw[b];rfl) (by decide) ?_;refine A_ rfl rfl (by rw[b];rfl) (by decide) ?_;refine Zv (I_ (Zb b) rfl) ?_;have v:=Zj g;refine Ze [(0,_),(1,_),(5,_),(19,_)] ?_;subst v;refine p_ (λa ha=>⟨ha,kp⟩)
  rintro e6 I ⟨ha,a8⟩;have a9:=a8.stp 999 u;obtain⟨d,f,hB⟩:=ZS a9 (A3 d f hB);refine aH_ ha ?_;refine Ze [(0,_),(1,_),(5,_),(19,_)] (nx ?_);refine l_ rfl (λC=>?_) (λC=>?_)
  ·rw[if_pos C] at q;refine g_ (nx (f_ (d_ (Zm rfl ?_))));obtain⟨D,O,q⟩:=a_ q;refine Zv (C_ rfl rfl O) (Za rfl (Ze [(0,_),(1,_),(5,_)] (x_ (u_ ?_))));have b0:=Zj q;subst b0;refine Zk [(0,_),(1,_),(5,_)] ?_;intro a ha;exact⟨K12,by omega,D,u,G,ha,hB,d,f⟩
  ·replace q:=ZF C q;refine s_ ?_;refine n_ (n_ (N_ ?_));refine p_ ?_;have b1:=Zj q;subst b1;refine Zk [(0,_),(1,_),(5,_)] ?_;intro a ha;exact⟨m,u,G,ha,hB,d,f⟩
 ·rintro a s ⟨m,u,rfl,ha,hB,d,f⟩;dsimp only at hF;refine J_ ha ?_;refine c_ (Zq (Zm rfl (Zm rfl (Zv (B_ rfl d wV_) (Zv (r_ rfl rfl) (Zm rfl ?_))))));obtain⟨P,i,hF⟩:=a_ hF;refine bc_ 7 (λb2 Q=>Fr b2 49 [(0,j),(1,k),(5,ZI m),(33,.bool P)]∧Keeps s Q) ?_ ?_;all_goals simp only[List.take_succ_cons,List.take_zero,List.drop_succ_cons,List.drop_zero]
  ·have kp:Keeps s s:=Keeps.refl _;rcases Bool.eq_false_or_eq_true (decide (m<(B.length:Int))) with c|c
   ·rw[if_pos c] at i;refine q_ (h_ rfl) (by decide) ⟨_,rfl,Zb c⟩ (q_ (h_ rfl) (by decide) ⟨_,rfl,Zb c⟩ ?_);obtain⟨b3,R,i⟩:=a_ i;refine cJ_ (by decide) ⟨_,rfl,Zb c⟩ ?_;refine fo_ d R rfl rfl wV_ wY_ ?_;intro e7 e8 e9 b4 b5;obtain⟨f0,rfl,b6⟩:=b5;refine q_ (e_ rfl xa_ (k_ b4)) (by decide) ⟨_,rfl,Zb c⟩ (q_ (h_ rfl) (by decide) ⟨_,rfl,Zb c⟩ ?_);obtain⟨S,T,i⟩:=a_ i;refine cJ_ (by decide) ⟨_,rfl,Zb c⟩ ?_;refine o_ (nR_ s _ b3 b6.z _ A f.z S T) Tryz.call115 ⟨rfl,rfl,trivial⟩ ?_;rintro f1 f2 ⟨rfl,U⟩;have b7:=U.stp 999 u;refine⟨_,rfl,?_⟩;obtain⟨d,f⟩:=ZS b7 (A2 d f);replace kp:=Keeps.trans kp U;refine Zv (P_ (Zb c) rfl) ?_;have x:=Zj i;refine Ze [(0,_),(1,_),(5,_),(33,_)] ?_;subst x;refine p_ (λa ha=>⟨ha,kp⟩)
   ·replace i:=ZF c i;refine A_ rfl rfl (by rw[c];rfl) (by decide) ?_;refine A_ rfl rfl (by rw[c];rfl) (by decide) ?_;refine A_ rfl rfl (by rw[c];rfl) (by decide) ?_;refine A_ rfl rfl (by rw[c];rfl) (by decide) ?_;refine A_ rfl rfl (by rw[c];rfl) (by decide) ?_;refine A_ rfl rfl (by rw[c];rfl) (by decide) ?_;refine Zv (I_ (Zb c) rfl) ?_;have x:=Zj i;refine Ze [(0,_),(1,_),(5,_),(33,_)] ?_;subst x;refine p_ (λa ha=>⟨ha,kp⟩)
  rintro f3 Q ⟨ha,b8⟩;have b9:=b8.stp 999 u;obtain⟨d,f,hB⟩:=ZS b9 (A3 d f hB);refine aH_ ha ?_;refine Ze [(0,_),(1,_),(5,_),(33,_)] (nx ?_);refine l_ rfl (λE=>?_) (λE=>?_)
  ·rw[if_pos E] at hF;refine Zq (Zm rfl (Za rfl (Ze [(4,_)] (nx (j_ (y_ ?_))))));have c0:=Zj hF;subst c0;refine Zr zh_ [j] ?_;exact⟨_,rt oo u w.heap.size 9 t,rfl,d.rt hB 9 t (by decide),hB.keeps,am_ _ _ _ _ _⟩
  ·replace hF:=ZF E hF;refine g_ (Zn (Zo ?_));refine hu_ w.heap.size 13 hB.keeps.size (o:=u) (cs:=[]) (xs:=([]:Yk)) (vs:=[]) rfl rfl trivial wV_ wY_ xe_ (by decide) fill0 (by simp) ?_;intro f4 f5 f6 c1 c2;obtain⟨d,f,hB⟩:=ZS c2 (A3 d f hB);refine Zm rfl (Zm rfl ?_);obtain⟨f7,V,hF⟩:=a_ hF;refine Zo ?_;refine nx_ d V rfl rfl rfl wV_ wY_ ?_;intro f8 c3;obtain⟨f9,W,hF⟩:=a_ hF;refine Zo ?_;refine aT_ c1 c3 W (by decide) hB.keeps.size rfl rfl wV_ fz_ rfl (by decide) ?_;intro c4 g0 c5 F c6;obtain⟨d,f,hB⟩:=ZS c6 (A3 d f hB);refine Za rfl (Ze [(0,_),(1,_),(5,_),(6,_)] (Zn (Zm rfl (Zm rfl (Zo ?_)))));refine au_ (o:=c4) (cs:=[k]) (xs:=([A]:Yk)) (vs:=[(0,k)]) ⟨_,_,rfl,iH_ f,rfl⟩ rfl ⟨rfl,rfl,trivial⟩ wV_ wY_ xe_ (by decide) (fill1 f.cells1) (by simp) ?_;intro g1 g2 g3 c7 c8 g4;obtain⟨d,f,F,hB⟩:=ZS c8 (A4 d f F hB);obtain⟨g5,X,hF⟩:=a_ hF;refine Zo ?_;refine aT_ F c7 (ai_ X) (by decide) hB.keeps.size rfl rfl wV_ fz_ rfl (by decide) ?_;intro g6 g7 c9 d0 d1;obtain⟨d,f,hB⟩:=ZS d1 (A3 d f hB);refine Za rfl (Ze [(0,_),(5,_),(6,_)] (Zn (Zm rfl (Zm rfl (Zm rfl ?_)))));obtain⟨g8,Y,hF⟩:=a_ hF;refine Zo ?_;refine nx_ d Y rfl rfl rfl wV_ wY_ ?_;intro g9 d2;obtain⟨h0,Z,hF⟩:=a_ hF;refine Zo ?_;refine aT_ d0 d2 Z (by decide) hB.keeps.size rfl rfl wV_ fz_ rfl (by decide) ?_;intro d3 h1 a0 y d4;obtain⟨d,hB⟩:=ZS d4 (A2 d hB);refine Za rfl (Ze [(4,_)] (nx (j_ ?_)));have h2:=y.frzF;replace y:=y.frz;replace hB:=hB.frz 13 (by decide);generalize (frz 13 d3)=d5 at*;have d6:=Zj hF;subst d6;refine Zr zh_ [a0] ?_;exact⟨_,rt oo d5 w.heap.size 9 t,rfl,y.rt hB 9 t (by decide),hB.keeps,am_ _ _ _ _ _⟩
 ·exact λ_ _ h=>h.elim
end
end Go.Proofs.YtdbbeldgdgonfaaGreat
