/- Part 23 of what this claim rests on (GEs), packed by pack.py. -/
import Derived.Test.YtdbbeldgdgonfaaGreatP03
import Derived.Test.YtdbbeldgdgonfaaGreatP04
import Derived.Test.YtdbbeldgdgonfaaGreatP10
import Derived.Test.YtdbbeldgdgonfaaGreatP14
import Derived.Test.YtdbbeldgdgonfaaGreatP21
import Derived.Test.YtdbbeldgdgonfaaGreatP22
namespace Go.Proofs.YtdbbeldgdgonfaaGreat
open Tryz renaming prog→tX_, underlying22→ub_, sizeOf41→uf_, isAgg41→ug_, underlying41→tY_, isAgg28→ue_, sizeOf28→uc_, call148→ws_, sizeOf3→tZ_, isAgg3→ua_, call125→wt_, zeroValue3→uh_, results87→wu_, call139→ww_
set_option linter.unusedSimpArgs false
set_option linter.unusedVariables false
section
set_option maxRecDepth 100000
set_option maxHeartbeats 2000000
open Go.RowKit
theorem kB_:Inf tX_ 3 (.int .i64 0) 1 8:=by unfold Inf;kernel_rfl
theorem jR_:Inf tX_ 41 (.slice none 0 0) 1 24:=by unfold Inf;kernel_rfl
def bL_(a:List Int)(b:(List Int)->Option Bool):Option Bool:=
  (b a)>>=λc=>
  some (!c)
def kD_(w:World)(r:Bool):Ending->World->Prop:=λe w'=>e=.returned (.bool r)∧Keeps w w'
theorem kv_(w:World)(a:Value)(c:Yl)(j:RdL zt w a c)(b:Nat)(f:Value)(g:Yl->Option Bool)(k:Cells w b 0 [f])(m:FnV tX_ w f g)(r:Bool)(hF:bL_ c g=some r):
    Calls tX_ 147 #[a,.pointer (some ⟨b,0,none⟩)] w (kD_ w r):=by
 unfold bL_ at hF;have hB:Bs (λ_=>1) (col (λ_=>1)) w w:=Bs.start _ _;refine j_ (n:=8) (vs:=[a,ZP b]) Tryz.func147 rfl rfl ?_;refine Zq (Za rfl (Ze [(0,_),(1,_)] (Zn (Zv (e_ rfl Tryz.isAgg97 (i_ (k.keep hB.keeps))) (Zm rfl ?_)))));obtain⟨i,d,hF⟩:=a_ hF;refine Zo ?_;refine gl_ (x:=c) (vs:=[a]) (m.keep hB.keeps) d ⟨_,rfl,j.keep hB.keeps⟩ rfl ⟨rfl,trivial⟩ ?_;intro v q;have s:=q.stp 999 (col (λ_=>1));replace hB:=hB.stp s;refine Zv (bo_ rfl) (Za rfl (Ze [(3,_)] (nx (n_ ?_))));have u:=Zj hF;subst u;refine Zr Tryz.results147 [.bool (!i)] ?_;exact⟨rfl,hB.keeps⟩
def dQ_(fuel:Nat)(c:Int)(d:Int)(f:(List Int)->Option Bool):Option (List (List Int)):=
  (dI_ fuel c d)>>=λa=>
  (delL (λg=>bL_ g f) a)>>=λb=>
  some b
def mo_(oo:Tg)(t:Nat)(w:World)(r:Yk):Ending->World->Prop:=λe w'=>∃(a:Value)(c:List Hv)(o':Tg),e=.returned (a)∧Ow w.heap.size 41 t o' w' a c∧Rws w.heap.size 3 (t+1) o' w' c r∧Keeps w w'∧∀b,b<w.heap.size->o' b=oo b
theorem iO_(fuel:Nat)(w:World)(oo:Tg)(t:Nat)(ht:2<=t)(c:Int)(d:Int)(m:Value)(q:Yl->Option Bool)(G:FnV tX_ w m q)(r:Yk)(hF:dQ_ fuel c d q=some r):
    Calls tX_ 98 #[.int .i64 c,.int .i64 d,m] w (mo_ oo t w r):=by
 unfold dQ_ at hF;have hB:Bs oo (col oo) w w:=Bs.start _ _;refine j_ (n:=12) (vs:=[ZI c,ZI d,m]) Tryz.func98 rfl rfl ?_;generalize col oo=o at*;refine Zq (Zo ?_);refine aD_ (o:=o) w.heap.size 11 hB.keeps.size (cs:=[m]) G.cells1 rfl ?_;intro I H s J K;replace hB:=hB.stp K;refine Za rfl (Ze [(0,_),(1,_),(5,_)] (Zn (Zm rfl (Zm rfl ?_))));have L:=(show FnV tX_ H (.func (.func 147) #[] #[ZP s]) (λM=>bL_ M q) from ⟨_,_,rfl,Tryz.call147,λww vs xx rr kk hok hG=>by(obtain⟨W,rfl,N⟩:=hok;exact kv_ ww _ xx N s _ q ((J.cells).keep kk) ((G.keep hB.keeps).keep kk) rr hG)⟩);have f:=hB.keeps.size;obtain⟨u,g,hF⟩:=a_ hF;refine Zo ?_;refine o_ (iN_ fuel H I 12 (by decide) c d u g) Tryz.call146 ⟨rfl,rfl,trivial⟩ ?_;rintro O P ⟨Q,R,S,rfl,v,x,i,y⟩;have z:=i.stp' 12 y;have A:=v;have B:=x;refine⟨_,rfl,?_⟩;replace hB:=hB.stp z;refine Zv (gI_ (vs:=[ZP s]) ⟨rfl,trivial⟩) ?_;obtain⟨T,j,hF⟩:=a_ hF;refine Zo ?_;refine o_ (so_ A B i L (by decide) (by decide) (by decide) j) Tryz.call145 ⟨rfl,rfl,trivial⟩ ?_;rintro U V ⟨k,C,D,rfl,a,b,E⟩;refine⟨_,rfl,?_⟩;replace a:=a.mono f;replace b:=b.mono f;replace hB:=hB.stp E;refine Za rfl (Ze [(6,_)] (nx (n_ ?_)));have F:=Zj hF;subst F;refine Zr Tryz.results98 [k] ?_;exact⟨_,C,rt2 oo D w.heap.size 12 13 t,rfl,a.rt2 hB (by decide) (by decide) t,b.rt2 hB (by decide) (by decide) (by decide) t,hB.keeps,fA_ _ _ _ _ _ _⟩
def au_:Int->(List Int)->Int->Option (Lp Int Int (List Int)):=λ(c:Int)(b:List Int)(s:Int)=>
  (ck (s+(b.length:Int)))>>=λa=>
  if decide (a<0) then
    none
  else
    some (.go a)
def at_:Int->(List Int)->(List Int)->Option (Lp (List Int) (List Int) (List Int)):=λ(c:Int)(a:List Int)(s:List Int)=>
  (cat s a)>>=λb=>
  some (.go b)
def bj_(d:List (List Int)):Option (List Int):=
  (forI (au_) d 0 0)>>=λf=>
  match f with
  | .inl g=>
    (growO g)>>=λa=>
    (forI (at_) d 0 a)>>=λb=>
    match b with
    | .inl c=>
      some c
    | .inr _=>none
  | .inr _=>none
def fH_(oo:Tg)(t:Nat)(w:World)(r:Yl):Ending->World->Prop:=λe w'=>∃(a:Value)(o':Tg),e=.returned (a)∧Ow w.heap.size 3 t o' w' a r∧Keeps w w'∧∀b,b<w.heap.size->o' b=oo b
theorem fU_(w:World)(oo:Tg)(t:Nat)(ht:2<=t)(b:Value)(d:Yk)(E:RdL zt w b d)(r:Yl)(hF:bj_ d=some r):
    Calls tX_ 140 #[b] w (fH_ oo t w r):=by
 unfold bj_ at hF;have hB:Bs oo (col oo) w w:=Bs.start _ _;refine j_ (n:=36) (vs:=[b]) Tryz.func140 rfl rfl ?_;generalize col oo=o at*;refine Zq (Za rfl (Ze [(0,_)] (Zn (Za rfl (Ze [(0,_),(3,_)] (nx (b_ (Zq (Zm rfl (Zv (J_ rfl E ub_) (Zm rfl (Ze [(0,_),(3,_),(9,_),(10,_),(11,_)] ?_))))))))))));refine nx ?_;obtain⟨b6,Q,hF⟩:=a_ hF;refine A_ (λa F=>∃(q:Int)(B:Tg),b6=.inl q∧Fr a 36 [(0,b),(3,ZI q)]∧Bs oo B w F) (λ_ _=>False) ?_ ?_ ?_
 ·refine f_ ?_;refine z_ (λ(K:Nat) a F=>∃(i:Int)(q:Int)(B:Tg),forI (au_) (d.drop i.toNat) i q=some b6∧(d.drop i.toNat).length=K∧0<=i∧Fr a 36 [(0,b),(3,ZI q),(9,b),(10,ZI (d.length:Int)),(11,ZI i)]∧Bs oo B w F) _ (λa ha=>⟨0,0,o,Q,rfl,Int.le_refl 0,ha.sb,hB⟩) ?_;rintro K9 a F ⟨i,q,B,b7,b8,b9,ha,hB⟩;by_cases u:i<(d.length:Int)
  ·obtain⟨c0,c1,G,k,R⟩:=R_ b9 u b7;have hle:=E.len_le;dsimp only[au_] at k;refine O_ ha ?_;refine Zq (Zv (u_ rfl rfl) (Ze [(0,_),(3,_),(9,_),(10,_),(11,_),(12,_)] (nx (b_ ?_))));refine M_ (Zb (decide_eq_true u)) ?_;refine h_ (nx (b_ (f_ (Zq (Zo ?_)))));refine wf_atZ E G hB rfl rfl ub_ uf_ ?_;intro c2 c3 c4 S T;obtain⟨U,rfl,V⟩:=T;refine Zv (e_ rfl ug_ (i_ S)) (Za rfl (Ze [(0,_),(3,_),(5,_),(9,_),(10,_),(11,_)] (Zn (Zm rfl (Zm rfl (Zv (J_ rfl V tY_) ?_))))));obtain⟨s,H,k⟩:=a_ k;refine Zv (C_ rfl rfl H) (Za rfl (Ze [(0,_),(3,_),(9,_),(10,_),(11,_)] (Zn (Zm rfl (Zv (u_ rfl rfl) (Ze [(0,_),(3,_),(9,_),(10,_),(11,_),(20,_)] (nx ?_)))))));refine p_ rfl (λC=>?_) (λC=>?_)
   ·rw[if_pos C] at k;cases k
   ·replace k:=ZF C k;refine h_ (y_ (nx (d_ (Zv (C_ rfl rfl (F_ (by omega) (by omega))) (Zm rfl (Ze [(0,_),(3,_),(9,_),(10,_),(11,_)] (x_ ?_)))))));have W:=Zj k;subst W;refine Zk [(0,_),(3,_),(9,_),(10,_),(11,_)] ?_;intro a ha;exact⟨_,(by rw[<-b8];simp only[List.length_drop];omega),i+1,s,B,R,rfl,by omega,ha,hB⟩
  ·have X:=S_ u b7;refine O_ ha ?_;refine Zq (Zv (u_ rfl rfl) (Ze [(0,_),(3,_),(9,_),(10,_),(11,_),(12,_)] (nx (b_ ?_))));refine D_ (Zb (decide_eq_false u)) ?_;refine w_ ?_;refine m_ (m_ (Q_ ?_));refine s_ ?_;refine Zk [(0,_),(3,_)] ?_;intro a ha;exact⟨q,B,X,ha,hB⟩
 ·rintro a F ⟨q,B,rfl,ha,hB⟩;dsimp only at hF;refine ap_k ha ?_;refine Zn (Zm rfl ?_);obtain⟨I,J,hF⟩:=a_ hF;refine Zo ?_;refine o_ (pr_ F B 11 q I J) Tryz.call173 ⟨rfl,rfl,trivial⟩ ?_;rintro c5 c6 ⟨v,Y,rfl,D,Z,a0⟩;have a1:=Z.stp' 11 a0;replace D:=D.mono hB.keeps.size;refine⟨_,rfl,?_⟩;replace hB:=hB.stp a1;refine Za rfl (Ze [(0,_),(6,_)] (nx (b_ (Zq (Zm rfl (Zv (J_ rfl E ub_) (Zm rfl (Ze [(6,_),(25,_),(26,_),(27,_)] (nx ?_)))))))));obtain⟨L,M,hF⟩:=a_ hF;refine A_ (λa m=>∃(j:Yl)(f:Value)(g:Tg),L=.inl j∧Fr a 36 [(6,f)]∧Bs oo g w m∧Ow w.heap.size 3 11 g m f j) (λ_ _=>False) ?_ ?_ ?_
  ·refine f_ ?_;refine z_ (λ(K:Nat) a m=>∃(c:Int)(j:Yl)(f:Value)(g:Tg),forI (at_) (d.drop c.toNat) c j=some L∧(d.drop c.toNat).length=K∧0<=c∧Fr a 36 [(6,f),(25,b),(26,ZI (d.length:Int)),(27,ZI c)]∧Bs oo g w m∧Ow w.heap.size 3 11 g m f j) _ (λa ha=>⟨0,I,v,Y,M,rfl,Int.le_refl 0,ha.sb,hB,D⟩) ?_;rintro K45 a m ⟨c,j,f,g,N,a2,a3,ha,hB,x⟩;by_cases y:c<(d.length:Int)
   ·obtain⟨c7,c8,O,z,a4⟩:=R_ a3 y N;have hle:=E.len_le;dsimp only[at_] at z;refine O_ ha ?_;refine Zq (Zv (u_ rfl rfl) (Ze [(6,_),(25,_),(26,_),(27,_),(28,_)] (nx (b_ ?_))));refine M_ (Zb (decide_eq_true y)) ?_;refine h_ (nx (b_ (f_ (Zq (Zo ?_)))));refine wf_atZ E O hB rfl rfl ub_ uf_ ?_;intro c9 d0 d1 a5 a6;obtain⟨a7,rfl,a8⟩:=a6;refine Zv (e_ rfl ug_ (i_ a5)) (Za rfl (Ze [(6,_),(8,_),(25,_),(26,_),(27,_)] (nx (d_ (Zm rfl (Zm rfl ?_))))));obtain⟨a9,P,z⟩:=a_ z;refine Zo ?_;refine lk_ x (a8.keep hB.keeps) P (by decide) hB.keeps.size (λ_ _ h=>h) rfl rfl tY_ kB_ rfl (by decide) ?_;intro b0 d2 A b1 b2;replace hB:=hB.stp b2;refine Za rfl (Ze [(6,A),(25,b),(26,ZI (d.length:Int)),(27,ZI c)] (y_ (nx (d_ (Zv (C_ rfl rfl (F_ (by omega) (by omega))) (Zm rfl (Ze [(6,_),(25,_),(26,_),(27,_)] (x_ ?_))))))));have b3:=Zj z;subst b3;refine Zk [(6,_),(25,_),(26,_),(27,_)] ?_;intro a ha;exact⟨_,(by rw[<-a2];simp only[List.length_drop];omega),c+1,a9,A,b0,a4,rfl,by omega,ha,hB,b1⟩
   ·have b4:=S_ y N;refine O_ ha ?_;refine Zq (Zv (u_ rfl rfl) (Ze [(6,_),(25,_),(26,_),(27,_),(28,_)] (nx (b_ ?_))));refine D_ (Zb (decide_eq_false y)) ?_;refine w_ ?_;refine m_ (m_ (Q_ ?_));refine s_ ?_;refine Zk [(6,_)] ?_;intro a ha;exact⟨j,f,g,b4,ha,hB,x⟩
  ·rintro a m ⟨j,f,g,rfl,ha,hB,x⟩;dsimp only at hF;refine ap_k ha ?_;refine Zn (Zm rfl (Za rfl (Ze [(2,_)] (nx (n_ ?_)))));have b5:=Zj hF;subst b5;refine Zr Tryz.results140 [f] ?_;exact⟨_,rt oo g w.heap.size 11 t,rfl,x.rt hB (by decide) t,hB.keeps,ac_ _ _ _ _ _⟩
  ·exact λ_ _ h=>h.elim
 ·exact λ_ _ h=>h.elim
def az_(fuel:Nat)(a:List Int)(b:c_):Option Bool:=
  (cJ_ fuel b a)>>=λc=>
  some c
def gp_(w:World)(r:Bool):Ending->World->Prop:=λe w'=>e=.returned (.bool r)∧Keeps w w'
theorem gd_(fuel:Nat)(w:World)(a:Value)(c:Yl)(m:RdL zt w a c)(b:Nat)(j:List Value)(d:c_)(q:Cells w b 0 j)(k:Rp.rd zt w j d)(r:Bool)(hF:az_ fuel c d=some r):
    Calls tX_ 149 #[a,.pointer (some ⟨b,0,none⟩)] w (gp_ w r):=by
 unfold az_ at hF;have g1k:=k;obtain⟨z,A,rfl,s,u⟩:=k;have hB:Bs (λ_=>1) (col (λ_=>1)) w w:=Bs.start _ _;refine j_ (n:=7) (vs:=[a,ZP b]) Tryz.func149 rfl rfl ?_;refine Zq (Za rfl (Ze [(0,_),(1,_)] (Zn (Zv (H_ rfl ue_ uc_ rfl (q.keep hB.keeps)) (Zm rfl ?_)))));obtain⟨f,g,hF⟩:=a_ hF;refine Zo ?_;refine o_ (hb_ fuel w _ d (⟨_,_,rfl,s.keep hB.keeps,u.keep hB.keeps⟩) _ c (m.keep hB.keeps) f g) Tryz.call150 ⟨rfl,rfl,trivial⟩ ?_;rintro v B ⟨rfl,x⟩;have y:=x.stp 999 (col (λ_=>1));refine⟨_,rfl,?_⟩;replace hB:=hB.stp y;refine Za rfl (Ze [(3,_)] (nx (n_ ?_)));have i:=Zj hF;subst i;refine Zr Tryz.results149 [.bool f] ?_;exact⟨rfl,hB.keeps⟩
def cf_(fuel:Nat)(c:c_)(d:List (List Int)):Option ((List Int)×Bool):=
  (cX_ fuel d (λb=>az_ fuel b c))>>=λa=>
  some (a.1,a.2)
def gQ_(oo:Tg)(t:Nat)(w:World)(r:Yl×Bool):Ending->World->Prop:=λe w'=>∃(a:Value)(o':Tg),e=.returned (.tuple #[a,.bool r.2])∧Ow w.heap.size 3 t o' w' a r.1∧Keeps w w'∧∀b,b<w.heap.size->o' b=oo b
theorem gZ_(fuel:Nat)(w:World)(oo:Tg)(t:Nat)(ht:2<=t)(B:List Value)(a:c_)(C:Rp.rd zt w B a)(i:Value)(k:Yk)(D:RdL zt w i k)(r:Yl×Bool)(hF:cf_ fuel a k=some r):
    Calls tX_ 100 #[.agg B.toArray,i] w (gQ_ oo t w r):=by
 unfold cf_ at hF;obtain⟨m,q,rfl,E,F⟩:=C;have hB:Bs oo (col oo) w w:=Bs.start _ _;refine j_ (n:=11) (vs:=[.agg #[ZI a.Labels,ZI a.Degree,m,q],i]) Tryz.func100 rfl rfl ?_;generalize col oo=o at*;refine Zq (Zo ?_);refine aD_ (o:=o) w.heap.size 11 hB.keeps.size (cs:=[ZI a.Labels,ZI a.Degree,m,q]) rfl rfl ?_;intro G s j H I;replace hB:=hB.stp I;refine Za rfl (Za rfl (Ze [(1,_),(2,_)] (Zn (Zm rfl (Zv (gI_ (vs:=[ZP j]) ⟨rfl,trivial⟩) ?_)))));obtain⟨b,f,hF⟩:=a_ hF;refine Zo ?_;refine o_ (hy_ fuel s G 12 (by decide) _ k (D.keep hB.keeps) _ (λc=>az_ fuel c a) (show FnV tX_ s (.func (.func 149) #[] #[ZP j]) (λc=>az_ fuel c a) from ⟨_,_,rfl,Tryz.call149,λww vs xx rr kk hok hG=>by(obtain⟨J,rfl,u⟩:=hok;exact gd_ fuel ww _ xx u j _ a ((H.cells).keep kk) (Rp.keep ((show Rp.rd zt s [ZI a.Labels,ZI a.Degree,m,q] (a:c_) from ⟨_,_,rfl,E.keep hB.keeps,F.keep hB.keeps⟩)) kk) rr hG)⟩) b f) ws_ ⟨rfl,rfl,trivial⟩ ?_;rintro K L ⟨g,v,rfl,d,x,y⟩;have z:=x.stp' 12 y;replace d:=d.mono hB.keeps.size;refine⟨_,rfl,?_⟩;replace hB:=hB.stp z;refine Zv (t_ rfl rfl) (Zv (t_ rfl rfl) (Za rfl (Za rfl (Ze [(4,_),(5,_)] (nx (n_ ?_))))));have A:=Zj hF;subst A;refine Zr Tryz.results100 [g,.bool b.2] ?_;exact⟨_,rt oo v w.heap.size 12 t,rfl,d.rt hB (by decide) t,hB.keeps,ac_ _ _ _ _ _⟩
def aA_(fuel:Nat)(b:List Int)(c:c_):Option Bool:=
  (ix b 0)>>=λd=>
  (ix b 1)>>=λf=>
  (cI_ fuel c d f)>>=λa=>
  some a
def gt_(w:World)(r:Bool):Ending->World->Prop:=λe w'=>e=.returned (.bool r)∧Keeps w w'
theorem gu_(fuel:Nat)(w:World)(a:Value)(k:Yl)(m:RdL zt w a k)(f:Nat)(S:List Value)(q:c_)(Y:Cells w f 0 S)(T:Rp.rd zt w S q)(r:Bool)(hF:aA_ fuel k q=some r):
    Calls tX_ 153 #[a,.pointer (some ⟨f,0,none⟩)] w (gt_ w r):=by
 unfold aA_ at hF;have g1k:=T;obtain⟨d5,d6,rfl,Z,a0⟩:=T;have hB:Bs (λ_=>1) (col (λ_=>1)) w w:=Bs.start _ _;refine j_ (n:=12) (vs:=[a,ZP f]) Tryz.func153 rfl rfl ?_;refine Zq (Za rfl (Ze [(0,_),(1,_)] (nx (b_ ?_))));obtain⟨U,g,hF⟩:=a_ hF;obtain⟨V,i,hF⟩:=a_ hF;refine cw_ (o:=(col (λ_=>1))) [(0,a),(1,ZP f)] [0,1] [4,5,6,7,8,9,10] [[],[],[1],[2],[],[4],[5]] [none,none,none,none,none,none,none] [999,999,999,999,999,999,999] [0,0,0,0,0,0,0] [999] [λv o W=>∃(c:List Value),v=.agg c.toArray∧Rp.rd zt w c q,λv _ _=>v=a,λv o W=>∃vl,v=adr vl ((0:Int).toNat*Rp.sz Int)∧RdL zt w vl k,λv _ _=>v=(ZI U),λv _ _=>v=a,λv o W=>∃vl,v=adr vl ((1:Int).toNat*Rp.sz Int)∧RdL zt w vl k,λv _ _=>v=(ZI V)] (λa1 a2=>Bs (λ_=>1) a1 w a2) ao_ (by kernel_rfl) rfl ⟨rfl,rfl,trivial⟩ hB ?_ ⟨λ_ _ _ _ _ _ X hb ⟨c,e,h⟩ hs=>⟨c,e,h⟩,E_ _,λ_ _ _ _ _ _ X hb ⟨vl,e,h⟩ hs=>⟨vl,e,h⟩,E_ _,E_ _,λ_ _ _ _ _ _ X hb ⟨vl,e,h⟩ hs=>⟨vl,e,h⟩,E_ _,trivial⟩ ?_ ?_
 ·rintro a3 d7 d8 d9 e0 b hB s;have b:a3=999:=by simpa using b
  subst b;all_goals exact hB.stp s (by decide)
 ·refine⟨?_,?_,?_,?_,?_,?_,?_,trivial⟩
  ·rintro a4 a5 a6 ha hB-;refine Zs ha ?_;refine l_ (H_ rfl ue_ uc_ rfl (Y.keep hB.keeps)) ?_;exact⟨_,Stp.refl _ _ _,⟨_,rfl,⟨_,_,rfl,Z,a0⟩⟩⟩
  ·rintro a7 a8 a9 ha hB-;refine Zs ha ?_;refine l_ (g_ rfl) ?_;exact Zx rfl
  ·rintro b0 b1 b2 ha hB ⟨u,-⟩;have ha:=ha.c u;refine Zs ha ?_;refine an_ m g rfl rfl tY_ tZ_ ?_;exact⟨_,Stp.refl _ _ _,⟨_,rfl,m⟩⟩
  ·rintro b3 b4 b5 ha hB ⟨x,-⟩;obtain⟨b6,y,z⟩:=x;have ha:=ha.c y;refine Zs ha ?_;refine cm_ z g hB rfl rfl ua_ ?_;intro b7 A;cases A
   exact Zx rfl
  ·rintro b8 b9 c0 ha hB-;refine Zs ha ?_;refine l_ (g_ rfl) ?_;exact Zx rfl
  ·rintro c1 c2 c3 ha hB ⟨B,-⟩;have ha:=ha.c B;refine Zs ha ?_;refine an_ m i rfl rfl tY_ tZ_ ?_;exact⟨_,Stp.refl _ _ _,⟨_,rfl,m⟩⟩
  ·rintro c4 c5 c6 ha hB ⟨C,-⟩;obtain⟨c7,D,E⟩:=C;have ha:=ha.c D;refine Zs ha ?_;refine cm_ E i hB rfl rfl ua_ ?_;intro c8 F;cases F
   exact Zx rfl
 rintro G H c9 ha hB ⟨I,-,-,J,-,-,K,-⟩;obtain⟨d0,L,M⟩:=I;obtain⟨d1,d2,rfl,N,O⟩:=M;have ha:=ha.c L;have ha:=ha.c J;have ha:=ha.c K;refine aS_ ha ?_;simp only[List.length_cons,List.length_nil,Nat.zero_add,Nat.reduceAdd,List.drop_succ_cons,List.drop_zero];obtain⟨d,j,hF⟩:=a_ hF;refine Zo ?_;refine o_ (gS_ fuel H _ q (⟨_,_,rfl,N.keep hB.keeps,O.keep hB.keeps⟩) U V d j) wt_ ⟨rfl,rfl,rfl,trivial⟩ ?_;rintro d3 d4 ⟨rfl,P⟩;have Q:=P.stp 999 G;refine⟨_,rfl,?_⟩;replace hB:=hB.stp Q;refine Za rfl (Ze [(3,_)] (nx (n_ ?_)));have R:=Zj hF;subst R;refine Zr Tryz.results153 [.bool d] ?_;exact⟨rfl,hB.keeps⟩
def cg_(fuel:Nat)(c:c_)(d:List (List Int)):Option ((List Int)×Bool):=
  (cX_ fuel d (λb=>aA_ fuel b c))>>=λa=>
  some (a.1,a.2)
def gJ_(oo:Tg)(t:Nat)(w:World)(r:Yl×Bool):Ending->World->Prop:=λe w'=>∃(a:Value)(o':Tg),e=.returned (.tuple #[a,.bool r.2])∧Ow w.heap.size 3 t o' w' a r.1∧Keeps w w'∧∀b,b<w.heap.size->o' b=oo b
theorem hg_(fuel:Nat)(w:World)(oo:Tg)(t:Nat)(ht:2<=t)(B:List Value)(a:c_)(C:Rp.rd zt w B a)(i:Value)(k:Yk)(D:RdL zt w i k)(r:Yl×Bool)(hF:cg_ fuel a k=some r):
    Calls tX_ 105 #[.agg B.toArray,i] w (gJ_ oo t w r):=by
 unfold cg_ at hF;obtain⟨m,q,rfl,E,F⟩:=C;have hB:Bs oo (col oo) w w:=Bs.start _ _;refine j_ (n:=11) (vs:=[.agg #[ZI a.Labels,ZI a.Degree,m,q],i]) Tryz.func105 rfl rfl ?_;generalize col oo=o at*;refine Zq (Zo ?_);refine aD_ (o:=o) w.heap.size 11 hB.keeps.size (cs:=[ZI a.Labels,ZI a.Degree,m,q]) rfl rfl ?_;intro G s j H I;replace hB:=hB.stp I;refine Za rfl (Za rfl (Ze [(1,_),(2,_)] (Zn (Zm rfl (Zv (gI_ (vs:=[ZP j]) ⟨rfl,trivial⟩) ?_)))));obtain⟨b,f,hF⟩:=a_ hF;refine Zo ?_;refine o_ (hy_ fuel s G 12 (by decide) _ k (D.keep hB.keeps) _ (λc=>aA_ fuel c a) (show FnV tX_ s (.func (.func 153) #[] #[ZP j]) (λc=>aA_ fuel c a) from ⟨_,_,rfl,Tryz.call153,λww vs xx rr kk hok hG=>by(obtain⟨J,rfl,u⟩:=hok;exact gu_ fuel ww _ xx u j _ a ((H.cells).keep kk) (Rp.keep ((show Rp.rd zt s [ZI a.Labels,ZI a.Degree,m,q] (a:c_) from ⟨_,_,rfl,E.keep hB.keeps,F.keep hB.keeps⟩)) kk) rr hG)⟩) b f) ws_ ⟨rfl,rfl,trivial⟩ ?_;rintro K L ⟨g,v,rfl,d,x,y⟩;have z:=x.stp' 12 y;replace d:=d.mono hB.keeps.size;refine⟨_,rfl,?_⟩;replace hB:=hB.stp z;refine Zv (t_ rfl rfl) (Zv (t_ rfl rfl) (Za rfl (Za rfl (Ze [(4,_),(5,_)] (nx (n_ ?_))))));have A:=Zj hF;subst A;refine Zr Tryz.results105 [g,.bool b.2] ?_;exact⟨_,rt oo v w.heap.size 12 t,rfl,d.rt hB (by decide) t,hB.keeps,ac_ _ _ _ _ _⟩
def cl_(fuel:Nat)(d:c_)(a:Int):Int->Int->Unit->Option (Lp Unit Unit ((List Int)×Bool)):=λ(f:Int)(b:Int)(s:Unit)=>
  (cI_ fuel d a b)>>=λc=>
  if !c then
    some (.ret (([a,b]:List Int),true))
  else
    some (.go ())
def cP_(fuel:Nat)(c:c_)(d:List Int):Int->Int->Unit->Option (Lp Unit Unit ((List Int)×Bool)):=λ(f:Int)(a:Int)(s:Unit)=>
  (forI (cl_ fuel c a) d 0 ())>>=λb=>
  match b with
  | .inl _=>
    some (.go ())
  | .inr r'=>some (.ret r')
def dL_(fuel:Nat)(b:c_)(c:List Int)(d:List Int):Option ((List Int)×Bool):=
  (forI (cP_ fuel b d) c 0 ())>>=λa=>
  match a with
  | .inl _=>
    some ([],false)
  | .inr r'=>some r'
def iB_(oo:Tg)(t:Nat)(w:World)(r:Yl×Bool):Ending->World->Prop:=λe w'=>∃(a:Value)(o':Tg),e=.returned (.tuple #[a,.bool r.2])∧Ow w.heap.size 3 t o' w' a r.1∧Keeps w w'∧∀b,b<w.heap.size->o' b=oo b
theorem kM_(fuel:Nat)(w:World)(oo:Tg)(t:Nat)(ht:2<=t)(c0:List Value)(u:c_)(c1:Rp.rd zt w c0 u)(j:Value)(g:Yl)(W:RdL zt w j g)(d:Value)(s:Yl)(X:RdL zt w d s)(r:Yl×Bool)(hF:dL_ fuel u g s=some r):
    Calls tX_ 87 #[.agg c0.toArray,j,d] w (iB_ oo t w r):=by
 unfold dL_ at hF;obtain⟨G,H,rfl,c2,c3⟩:=c1;have hB:Bs oo (col oo) w w:=Bs.start _ _;refine j_ (n:=34) (vs:=[.agg #[ZI u.Labels,ZI u.Degree,G,H],j,d]) Tryz.func87 rfl rfl ?_;generalize col oo=o at*;refine Zq (Zo ?_);refine aD_ (o:=o) w.heap.size 11 hB.keeps.size (cs:=[ZI u.Labels,ZI u.Degree,G,H]) rfl rfl ?_;intro c4 d7 k A c5;replace hB:=hB.stp c5;refine Za rfl (Za rfl (Ze [(1,_),(2,_),(3,_)] (nx (b_ (Zq (Zm rfl (Zv (J_ rfl W tY_) (Zm rfl (Ze [(2,_),(3,_),(12,_),(13,_),(14,_)] (nx ?_))))))))));obtain⟨D,I,hF⟩:=a_ hF;refine A_ (λa v=>∃(m:Tg),D=.inl ()∧Fr a 34 []∧Bs oo m w v) (λa w'=>∃r',D=.inr r'∧bodyPost tX_ Tryz.f87 (iB_ oo t w r') .ret a w') ?_ ?_ ?_
 ·refine f_ ?_;refine z_ (λ(K:Nat) a v=>∃(b:Int)(m:Tg),forI (cP_ fuel u s) (g.drop b.toNat) b ()=some D∧(g.drop b.toNat).length=K∧0<=b∧Fr a 34 [(2,d),(3,ZP k),(12,j),(13,ZI (g.length:Int)),(14,ZI b)]∧Bs oo m w v∧Bx w.heap.size 11 m v k 28 [ZI u.Labels,ZI u.Degree,G,H]) _ (λa ha=>⟨0,c4,I,rfl,Int.le_refl 0,ha.sb,hB,A⟩) ?_;rintro K17 a v ⟨b,m,J,Y,Z,ha,hB,A⟩;by_cases B:b<(g.length:Int)
  ·obtain⟨f,c6,L,x,M⟩:=R_ Z B J;have hle:=W.len_le;dsimp only[cP_] at x;refine O_ ha ?_;refine Zq (Zv (u_ rfl rfl) (Ze [(2,_),(3,_),(12,_),(13,_),(14,_),(15,_)] (nx (b_ ?_))));refine M_ (Zb (decide_eq_true B)) ?_;refine h_ (nx (b_ (f_ (Zq (Zo ?_)))));refine wf_atZ W L hB rfl rfl tY_ tZ_ ?_;intro c7 c8 c9 a0 a1;cases a1
   refine Zv (e_ rfl ua_ (i_ a0)) (Za rfl (Ze [(2,_),(3,_),(9,_),(12,_),(13,_),(14,_)] (Zn (Zm rfl (Zv (J_ rfl X tY_) (Zm rfl (Ze [(2,_),(3,_),(9,_),(12,_),(13,_),(14,_),(18,_),(19,_),(20,_)] (nx ?_))))))));obtain⟨E,N,x⟩:=a_ x;refine A_ (λa q=>∃(i:Tg),E=.inl ()∧Fr a 34 [(2,d),(3,ZP k),(12,j),(13,ZI (g.length:Int)),(14,ZI b)]∧Bs oo i w q∧Bx w.heap.size 11 i q k 28 [ZI u.Labels,ZI u.Degree,G,H]) (λa w'=>∃r',E=.inr r'∧bodyPost tX_ Tryz.f87 (iB_ oo t w r') .ret a w') ?_ ?_ ?_
   ·refine f_ ?_;refine z_ (λ(K:Nat) a q=>∃(c:Int)(i:Tg),forI (cl_ fuel u f) (s.drop c.toNat) c ()=some E∧(s.drop c.toNat).length=K∧0<=c∧Fr a 34 [(2,d),(3,ZP k),(9,ZI f),(12,j),(13,ZI (g.length:Int)),(14,ZI b),(18,d),(19,ZI (s.length:Int)),(20,ZI c)]∧Bs oo i w q∧Bx w.heap.size 11 i q k 28 [ZI u.Labels,ZI u.Degree,G,H]) _ (λa ha=>⟨0,m,N,rfl,Int.le_refl 0,ha.sb,hB,A⟩) ?_;rintro K35 a q ⟨c,i,O,a2,a3,ha,hB,A⟩;by_cases C:c<(s.length:Int)
    ·obtain⟨z,d0,Q,y,R⟩:=R_ a3 C O;have hle:=X.len_le;dsimp only[cl_] at y;refine O_ ha ?_;refine Zq (Zv (u_ rfl rfl) (Ze [(2,_),(3,_),(9,_),(12,_),(13,_),(14,_),(18,_),(19,_),(20,_),(21,_)] (nx (b_ ?_))));refine M_ (Zb (decide_eq_true C)) ?_;refine h_ (nx (b_ (f_ (Zq (Zo ?_)))));refine wf_atZ X Q hB rfl rfl tY_ tZ_ ?_;intro d1 d2 d3 a4 a5;cases a5
     refine Zv (e_ rfl ua_ (i_ a4)) (Za rfl (Ze [(2,_),(3,_),(9,_),(11,_),(12,_),(13,_),(14,_),(18,_),(19,_),(20,_)] (Zn (Zv (H_ rfl ue_ uc_ rfl A.cells) (Zm rfl (Zm rfl ?_))))));obtain⟨S,T,y⟩:=a_ y;refine Zo ?_;refine o_ (gS_ fuel q _ u (⟨_,_,rfl,c2.keep hB.keeps,c3.keep hB.keeps⟩) f z S T) wt_ ⟨rfl,rfl,rfl,trivial⟩ ?_;rintro d4 d5 ⟨rfl,a6⟩;have U:=a6.stp 999 i;refine⟨_,rfl,?_⟩;replace A:=A.stp U;replace hB:=hB.stp U;refine Zv (bo_ rfl) (Ze [(2,_),(3,_),(9,_),(11,_),(12,_),(13,_),(14,_),(18,_),(19,_),(20,_),(28,_)] (nx ?_));refine p_ rfl (λF=>?_) (λF=>?_)
     ·rw[if_pos F] at y;refine Zq (Zm rfl (Zm rfl (Zo ?_)));refine gj_ w.heap.size 13 hB.keeps.size (o:=i) (cs:=[ZI f,ZI z]) (xs:=([f,z]:Yl)) (vs:=[(0,ZI f),(1,ZI z)]) ⟨_,_,rfl,rfl,⟨_,_,rfl,rfl,rfl⟩⟩ rfl ⟨rfl,rfl,rfl,rfl,trivial⟩ tY_ tZ_ uh_ (by decide) (fill2 rfl rfl) (by simp) ?_;intro a7 d6 V a8 a9;replace hB:=hB.stp a9;refine Za rfl (Za rfl (Ze [(6,_),(7,_)] (nx (n_ (aq_ (I_ (I_ (aq_ ?_))))))));refine cK_ ?_;have b0:=Zj y;subst b0;refine λa ha=>⟨_,R,?_⟩;refine N_ (P:=tX_) (vs:=[V,.bool true]) wu_ ⟨rfl,rfl,trivial⟩ ?_ a ha;exact⟨_,rt oo a7 w.heap.size 13 t,rfl,a8.rt hB (by decide) t,hB.keeps,ac_ _ _ _ _ _⟩
     ·replace y:=ZF F y;refine h_ (y_ (nx (d_ (Zv (C_ rfl rfl (F_ (by omega) (by omega))) (Zm rfl (Ze [(2,_),(3,_),(9,_),(12,_),(13,_),(14,_),(18,_),(19,_),(20,_)] (x_ ?_)))))));have b1:=Zj y;subst b1;refine Zk [(2,_),(3,_),(9,_),(12,_),(13,_),(14,_),(18,_),(19,_),(20,_)] ?_;intro a ha;exact⟨_,(by rw[<-a2];simp only[List.length_drop];omega),c+1,i,R,rfl,by omega,ha,hB,A⟩
    ·have b2:=S_ C O;refine O_ ha ?_;refine Zq (Zv (u_ rfl rfl) (Ze [(2,_),(3,_),(9,_),(12,_),(13,_),(14,_),(18,_),(19,_),(20,_),(21,_)] (nx (b_ ?_))));refine D_ (Zb (decide_eq_false C)) ?_;refine w_ ?_;refine m_ (m_ (Q_ ?_));refine s_ ?_;refine Zk [(2,_),(3,_),(12,_),(13,_),(14,_)] ?_;intro a ha;exact⟨i,b2,ha,hB,A⟩
   ·rintro a q ⟨i,rfl,ha,hB,A⟩;dsimp only at x;refine ap_k ha ?_;refine y_ (nx (d_ (Zv (C_ rfl rfl (F_ (by omega) (by omega))) (Zm rfl (Ze [(2,_),(3,_),(12,_),(13,_),(14,_)] (x_ ?_))))));have b3:=Zj x;subst b3;refine Zk [(2,_),(3,_),(12,_),(13,_),(14,_)] ?_;intro a ha;exact⟨_,(by rw[<-Y];simp only[List.length_drop];omega),b+1,i,M,rfl,by omega,ha,hB,A⟩
   ·rintro a q ⟨r',rfl,b4⟩;dsimp only at x;have b5:=Zj x;subst b5;exact⟨_,M,b4⟩
  ·have b6:=S_ B J;refine O_ ha ?_;refine Zq (Zv (u_ rfl rfl) (Ze [(2,_),(3,_),(12,_),(13,_),(14,_),(15,_)] (nx (b_ ?_))));refine D_ (Zb (decide_eq_false B)) ?_;refine w_ ?_;refine m_ (m_ (Q_ ?_));refine s_ ?_;refine Zk [] ?_;intro a ha;exact⟨m,b6,ha,hB⟩
 ·rintro a v ⟨m,rfl,ha,hB⟩;dsimp only at hF;refine ap_k ha ?_;refine Zn (Za rfl (Za rfl (Ze [(6,_),(7,_)] (nx (n_ ?_)))));have b7:=Zj hF;subst b7;refine Zr wu_ [.slice none 0 0,.bool false] ?_;exact⟨_,rt oo m w.heap.size 9 t,rfl,Ow.nil _ _ _ _ _,hB.keeps,ac_ _ _ _ _ _⟩
 ·rintro a v ⟨r',rfl,b8⟩;dsimp only at hF;have b9:=Zj hF;subst b9;exact b8
def ec_(fuel:Nat)(b:c_)(c:List Int)(d:List Int):Option Bool:=
  (dL_ fuel b c d)>>=λa=>
  some (!a.2)
def lB_(w:World)(r:Bool):Ending->World->Prop:=λe w'=>e=.returned (.bool r)∧Keeps w w'
theorem li_(fuel:Nat)(w:World)(s:List Value)(b:c_)(x:Rp.rd zt w s b)(d:Value)(g:Yl)(y:RdL zt w d g)(f:Value)(i:Yl)(z:RdL zt w f i)(r:Bool)(hF:ec_ fuel b g i=some r):
    Calls tX_ 69 #[.agg s.toArray,d,f] w (lB_ w r):=by
 unfold ec_ at hF;obtain⟨u,v,rfl,A,B⟩:=x;have hB:Bs (λ_=>1) (col (λ_=>1)) w w:=Bs.start _ _;refine j_ (n:=18) (vs:=[.agg #[ZI b.Labels,ZI b.Degree,u,v],d,f]) Tryz.func69 rfl rfl ?_;refine Zq (Zo ?_);refine aD_ (o:=(col (λ_=>1))) w.heap.size 11 hB.keeps.size (cs:=[ZI b.Labels,ZI b.Degree,u,v]) rfl rfl ?_;intro C D E F G;replace hB:=hB.stp G;refine Za rfl (Ze [(1,_),(2,_),(3,_)] (Zn (Zv (H_ rfl ue_ uc_ rfl F.cells) (Zm rfl (Zm rfl ?_)))));obtain⟨a,c,hF⟩:=a_ hF;refine Zo ?_;refine o_ (kM_ fuel D C 12 (by decide) _ b (⟨_,_,rfl,A.keep hB.keeps,B.keep hB.keeps⟩) _ g (y.keep hB.keeps) _ i (z.keep hB.keeps) a c) Tryz.call87 ⟨rfl,rfl,rfl,trivial⟩ ?_;rintro H I ⟨J,K,rfl,L,j,k⟩;have m:=j.stp' 12 k;refine⟨_,rfl,?_⟩;replace hB:=hB.stp m;refine Zm rfl (Zv (t_ rfl rfl) (Zv (t_ rfl rfl) (Za rfl (Za rfl (Ze [(8,_)] (Zn (Zm rfl (Zv (bo_ rfl) (Za rfl (Ze [(6,_)] (nx (n_ ?_))))))))))));have q:=Zj hF;subst q;refine Zr Tryz.results69 [.bool (!a.2)] ?_;exact⟨rfl,hB.keeps⟩
def eF_(fuel:Nat)(f:c_)(g:Int):Int->Int->Option (Lp Int Int Int):=λ(a:Int)(s:Int)=>
  (dF_ fuel g)>>=λb=>
  (ec_ fuel f b ([a]:List Int))>>=λc=>
  if c then
    (shl 1 a)>>=λd=>
    some (.go (bor s d))
  else
    some (.go s)
def fM_(fuel:Nat)(a:c_)(d:Int):Option Int:=
  ck a.Labels>>=λ_=>
  (forN (eF_ fuel a d) (a.Labels).toNat 0 0)>>=λb=>
  match b with
  | .inl c=>
    some c
  | .inr _=>none
def ro_(w:World)(r:Int):Ending->World->Prop:=λe w'=>e=.returned (.int .i64 r)∧Keeps w w'
theorem mw_(fuel:Nat)(w:World)(b1:List Value)(f:c_)(b4:Rp.rd zt w b1 f)(i:Int)(r:Int)(hF:fM_ fuel f i=some r):
    Calls tX_ 96 #[.agg b1.toArray,.int .i64 i] w (ro_ w r):=by
 unfold fM_ at hF;obtain⟨H,I,rfl,b5,b6⟩:=b4;have hB:Bs (λ_=>1) (col (λ_=>1)) w w:=Bs.start _ _;refine j_ (n:=24) (vs:=[.agg #[ZI f.Labels,ZI f.Degree,H,I],ZI i]) Tryz.func96 rfl rfl ?_;refine Zq (Zo ?_);refine aD_ (o:=(col (λ_=>1))) w.heap.size 11 hB.keeps.size (cs:=[ZI f.Labels,ZI f.Degree,H,I]) rfl rfl ?_;intro b7 d7 j u b8;replace hB:=hB.stp b8;refine Za rfl (Ze [(1,_),(2,_)] (Zn (Za rfl (Ze [(1,_),(2,_),(5,_)] (nx (b_ (Zq (Zv (r_ rfl Tryz.underlying28 rfl tZ_) (Zv (e_ rfl ua_ (u.cell rfl)) (Zm rfl (Ze [(1,_),(2,_),(5,_),(8,_),(9,_)] (nx ?_))))))))))));obtain⟨b9,T,hF⟩:=a_ hF;obtain⟨-,h15a,h15b⟩:=cr_ T;obtain⟨J,L,hF⟩:=a_ hF;refine A_ (λa m=>∃(d:Int)(k:Tg),J=.inl d∧Fr a 24 [(5,ZI d)]∧Bs (λ_=>1) k w m) (λ_ _=>False) ?_ ?_ ?_
 ·refine f_ ?_;refine z_ (λ(K:Nat) a m=>∃(b:Int)(d:Int)(k:Tg),forN (eF_ fuel f i) (f.Labels-b).toNat b d=some J∧(f.Labels-b).toNat=K∧0<=b∧Fr a 24 [(1,ZI i),(2,ZP j),(5,ZI d),(8,ZI f.Labels),(9,ZI b)]∧Bs (λ_=>1) k w m∧Bx w.heap.size 11 k m j 28 [ZI f.Labels,ZI f.Degree,H,I]) _ (λa ha=>⟨0,0,b7,(by rw[Int.sub_zero];exact L),rfl,Int.le_refl 0,ha.sb,hB,u⟩) ?_;rintro K20 a m ⟨b,d,k,M,N,c0,ha,hB,u⟩;by_cases y:b<f.Labels
  ·obtain⟨c1,g,O⟩:=bz_ y M;dsimp only[eF_] at g;refine O_ ha ?_;refine Zq (Zv (u_ rfl rfl) (Ze [(1,_),(2,_),(5,_),(8,_),(9,_),(10,_)] (nx (b_ ?_))));refine M_ (Zb (decide_eq_true y)) ?_;refine h_ (nx (b_ (f_ (Zq (Zm rfl (Za rfl (Ze [(1,_),(2,_),(5,_),(6,_),(8,_),(9,_)] (nx (b_ ?_)))))))));obtain⟨A,P,g⟩:=a_ g;refine ZW (Bf:=λb2 b3=>Bs (λ_=>1) b2 w b3∧Bx w.heap.size 11 b2 b3 j 28 [ZI f.Labels,ZI f.Degree,H,I]) [(1,_),(2,_),(5,_),(6,_),(8,_),(9,_)] (Zrg 12 5) [[],[],[1],[],[3]] (Zcn 5) (Zt9 5) [0,0,12,0,0] [999] [.inl (.agg #[ZI f.Labels,ZI f.Degree,H,I]),.inl (ZI i),.inr (λv o U=>Ow w.heap.size 3 12 o U v A),.inl (ZI b),.inr (λv o U=>RdL o U v (([b]:Yl):Yl))] ⟨hB,u⟩ ⟨λ_ _ _ _ _ _ V hb h hs=>h.stp hs V.1 (Ne.symm hb),λ_ _ _ _ _ _ V hb h hs=>h.stp hs V.1,trivial⟩ ?_ ?_
   ·refine⟨Dq λh=>H_ rfl ue_ uc_ rfl h.2.cells,Dp (g_ rfl),?_,Dp (g_ rfl),?_,trivial⟩
    ·rintro W X c2 ha ⟨hB,u⟩-;refine Zs ha ?_;refine o_ (kc_ fuel X W 12 (by decide) i A P) ww_ ⟨rfl,trivial⟩ ?_;rintro c3 c4 ⟨c5,c6,rfl,E,Y,Z⟩;have a0:=Y.stp' 999 Z;replace E:=E.mono hB.keeps.size;refine⟨_,rfl,?_⟩;exact⟨_,a0,E⟩
    ·rintro a1 c7 c8 ha ⟨hB,u⟩-;refine Zs ha ?_;refine aB_ (o:=a1) (cs:=[ZI b]) (xs:=([b]:Yl)) (vs:=[(0,ZI b)]) ⟨_,_,rfl,rfl,rfl⟩ rfl ⟨rfl,rfl,trivial⟩ tY_ tZ_ uh_ (by decide) (fill1 rfl) (by simp) ?_;intro c9 d0 d1 a2 a3 d2;exact⟨_,a3,a2⟩
   rintro _ rfl x F B ha ⟨hB,u⟩ ⟨q,s,-⟩;replace q:Ow w.heap.size 3 12 x F (B.tmps.getD 14 undef) A:=q;generalize a4:B.tmps.getD 14 undef=d3 at q;have ha:=ha.c a4;replace s:RdL x F (B.tmps.getD 16 undef) (([b]:Yl):Yl):=s;generalize a5:B.tmps.getD 16 undef=d4 at s;have ha:=ha.c a5;refine aS_ ha ?_;obtain⟨Q,R,g⟩:=a_ g;refine Zo ?_;refine o_ (li_ fuel F _ f (⟨_,_,rfl,b5.keep hB.keeps,b6.keep hB.keeps⟩) _ A q.z _ ([b]:Yl) s.z Q R) Tryz.call69 ⟨rfl,rfl,rfl,trivial⟩ ?_;rintro d5 d6 ⟨rfl,a6⟩;have C:=a6.stp 999 x;refine⟨_,rfl,?_⟩;replace q:=q.stp C;replace s:=s.stp C;replace u:=u.stp C;replace hB:=hB.stp C;refine Ze [(1,_),(2,_),(5,_),(6,_),(8,_),(9,_),(17,_)] (nx ?_);refine p_ rfl (λG=>?_) (λG=>?_)
   ·rw[if_pos G] at g;refine d_ (Zm rfl (Zm rfl ?_));obtain⟨D,S,g⟩:=a_ g;refine Zv (fI_ rfl rfl S) (Zv (tf_ rfl rfl) (Za rfl (Ze [(1,ZI i),(2,ZP j),(5,ZI (bor d D)),(8,ZI f.Labels),(9,ZI b)] (y_ (nx (d_ (Zv (C_ rfl rfl (F_ (by omega) (by omega))) (Zm rfl (Ze [(1,_),(2,_),(5,_),(8,_),(9,_)] (x_ ?_))))))))));have a7:=Zj g;subst a7;refine Zk [(1,_),(2,_),(5,_),(8,_),(9,_)] ?_;intro a ha;exact⟨_,(by rw[<-N];omega),b+1,bor d D,x,O,rfl,by omega,ha,hB,u⟩
   ·replace g:=ZF G g;refine h_ (y_ (nx (d_ (Zv (C_ rfl rfl (F_ (by omega) (by omega))) (Zm rfl (Ze [(1,_),(2,_),(5,_),(8,_),(9,_)] (x_ ?_)))))));have a8:=Zj g;subst a8;refine Zk [(1,_),(2,_),(5,_),(8,_),(9,_)] ?_;intro a ha;exact⟨_,(by rw[<-N];omega),b+1,d,x,O,rfl,by omega,ha,hB,u⟩
  ·have a9:=bx_ y M;refine O_ ha ?_;refine Zq (Zv (u_ rfl rfl) (Ze [(1,_),(2,_),(5,_),(8,_),(9,_),(10,_)] (nx (b_ ?_))));refine D_ (Zb (decide_eq_false y)) ?_;refine w_ ?_;refine m_ (m_ (Q_ ?_));refine s_ ?_;refine Zk [(5,_)] ?_;intro a ha;exact⟨d,k,a9,ha,hB⟩
 ·rintro a m ⟨d,k,rfl,ha,hB⟩;dsimp only at hF;refine ap_k ha ?_;refine Zn (Zm rfl (Za rfl (Ze [(4,_)] (nx (n_ ?_)))));have b0:=Zj hF;subst b0;refine Zr Tryz.results96 [ZI d] ?_;exact⟨rfl,hB.keeps⟩
 ·exact λ_ _ h=>h.elim
def ds_(fuel:Nat)(f:List Int):Int->Int->(List (List Int))->Option (Lp (List (List Int)) (List (List Int)) (List (List Int))):=λ(g:Int)(a:Int)(s:List (List Int))=>
  (ix f a)>>=λb=>
  (dF_ fuel b)>>=λc=>
  (push s c)>>=λd=>
  some (.go d)
def eR_(fuel:Nat)(b:List Int)(c:List Int):Option (List (List Int)):=
  (forI (ds_ fuel b) c 0 [])>>=λa=>
  match a with
  | .inl d=>
    some d
  | .inr _=>none
def po_(oo:Tg)(t:Nat)(w:World)(r:Yk):Ending->World->Prop:=λe w'=>∃(a:Value)(c:List Hv)(o':Tg),e=.returned (a)∧Ow w.heap.size 41 t o' w' a c∧Rws w.heap.size 3 (t+1) o' w' c r∧Keeps w w'∧∀b,b<w.heap.size->o' b=oo b
theorem la_(fuel:Nat)(w:World)(oo:Tg)(t:Nat)(ht:2<=t)(g:Value)(P:Yl)(b2:RdL zt w g P)(i:Value)(f:Yl)(Q:RdL zt w i f)(r:Yk)(hF:eR_ fuel P f=some r):
    Calls tX_ 101 #[g,i] w (po_ oo t w r):=by
 unfold eR_ at hF;have hB:Bs oo (col oo) w w:=Bs.start _ _;refine j_ (n:=24) (vs:=[g,i]) Tryz.func101 rfl rfl ?_;generalize col oo=o at*;refine Zq (Za rfl (Ze [(0,_),(1,_)] (Zn (Za rfl (Ze [(0,_),(1,_),(5,_)] (nx (b_ (Zq (Zm rfl (Zv (J_ rfl Q tY_) (Zm rfl (Ze [(0,_),(5,_),(8,_),(9,_),(10,_)] ?_))))))))))));refine nx ?_;have b3:Ow w.heap.size 41 11 o w (.slice none 0 0) ([]:List Hv):=Ow.nil _ _ _ _ _;have b4:Rws w.heap.size 3 12 o w [] ([]:Yk):=Rws.nil _ _ _ _ _;obtain⟨E,F,hF⟩:=a_ hF;refine A_ (λa s=>∃(z:Yk)(j:Value)(u:List Hv)(k:Tg),E=.inl z∧Fr a 24 [(5,j)]∧Bs oo k w s∧Ow w.heap.size 41 11 k s j u∧Rws w.heap.size 3 12 k s u z) (λ_ _=>False) ?_ ?_ ?_
 ·refine f_ ?_;refine z_ (λ(K:Nat) a s=>∃(b:Int)(z:Yk)(j:Value)(u:List Hv)(k:Tg),forI (ds_ fuel P) (f.drop b.toNat) b z=some E∧(f.drop b.toNat).length=K∧0<=b∧Fr a 24 [(0,g),(5,j),(8,i),(9,ZI (f.length:Int)),(10,ZI b)]∧Bs oo k w s∧Ow w.heap.size 41 11 k s j u∧Rws w.heap.size 3 12 k s u z) _ (λa ha=>⟨0,[],.slice none 0 0,[],o,F,rfl,Int.le_refl 0,ha.sb,hB,b3,b4⟩) ?_;rintro K15 a s ⟨b,z,j,u,k,G,R,S,ha,hB,A,m⟩;by_cases v:b<(f.length:Int)
  ·obtain⟨T,b5,H,d,U⟩:=R_ S v G;have hle:=Q.len_le;dsimp only[ds_] at d;refine O_ ha ?_;refine Zq (Zv (u_ rfl rfl) (Ze [(0,_),(5,_),(8,_),(9,_),(10,_),(11,_)] (nx (b_ ?_))));refine M_ (Zb (decide_eq_true v)) ?_;refine h_ (nx (b_ (f_ (Zq (Zo ?_)))));refine wf_atZ Q H hB rfl rfl tY_ tZ_ ?_;intro b6 b7 b8 V W;cases W
   refine Zv (e_ rfl ua_ (i_ V)) (Za rfl (Ze [(0,_),(5,_),(7,_),(8,_),(9,_),(10,_)] (nx (d_ (Zm rfl (Zm rfl (Zm rfl ?_)))))));obtain⟨X,I,d⟩:=a_ d;refine Zo ?_;refine wf_atZ b2 I hB rfl rfl tY_ tZ_ ?_;intro b9 c0 c1 Y Z;cases Z
   refine Zv (e_ rfl ua_ (i_ Y)) ?_;obtain⟨a0,J,d⟩:=a_ d;refine Zo ?_;refine o_ (kc_ fuel s k 13 (by decide) X a0 J) ww_ ⟨rfl,trivial⟩ ?_;rintro c2 c3 ⟨q,a1,rfl,c,a2,a3⟩;have B:=a2.stp' 13 a3;replace c:=c.mono hB.keeps.size;refine⟨_,rfl,?_⟩;replace A:=A.stp B;replace m:=m.stp B;replace hB:=hB.stp B;refine Zo ?_;refine aB_ (o:=a1) (cs:=[q]) (xs:=([⟨q⟩]:List Hv)) (vs:=[(0,q)]) ⟨_,_,rfl,jb_ c,rfl⟩ rfl ⟨rfl,rfl,trivial⟩ ub_ uf_ Tryz.zeroValue41 (by decide) (fill1 c.cells1) (by simp) ?_;intro c4 c5 c6 a4 x c7;replace A:=A.stp x;replace m:=m.stp x;replace c:=c.stp x;replace hB:=hB.stp x;obtain⟨a5,L,d⟩:=a_ d;obtain⟨a6,a7⟩:=m.pushV L q;refine Zo ?_;refine bf_ A a4 (ai_ a6) (by decide) hB.keeps.size rfl rfl ub_ jR_ rfl (by decide) ?_;intro M c8 y C D;replace m:=m.stp D;replace c:=c.stp D;replace hB:=hB.stp D;have N:=m.push c (by decide) (by decide);rw[<-a7] at N;clear m c;have O:=fe_ 13 12 M;replace C:=C.rc O (by decide) (by decide);replace hB:=hB.rc O (by decide);generalize mrg 13 12 M=a8 at*;refine Za rfl (Ze [(0,g),(5,y),(8,i),(9,ZI (f.length:Int)),(10,ZI b)] (y_ (nx (d_ (Zv (C_ rfl rfl (F_ (by omega) (by omega))) (Zm rfl (Ze [(0,_),(5,_),(8,_),(9,_),(10,_)] (x_ ?_))))))));have a9:=Zj d;subst a9;refine Zk [(0,_),(5,_),(8,_),(9,_),(10,_)] ?_;intro a ha;exact⟨_,(by rw[<-R];simp only[List.length_drop];omega),b+1,a5,y,u++[⟨q⟩],a8,U,rfl,by omega,ha,hB,C,N⟩
  ·have b0:=S_ v G;refine O_ ha ?_;refine Zq (Zv (u_ rfl rfl) (Ze [(0,_),(5,_),(8,_),(9,_),(10,_),(11,_)] (nx (b_ ?_))));refine D_ (Zb (decide_eq_false v)) ?_;refine w_ ?_;refine m_ (m_ (Q_ ?_));refine s_ ?_;refine Zk [(5,_)] ?_;intro a ha;exact⟨z,j,u,k,b0,ha,hB,A,m⟩
 ·rintro a s ⟨z,j,u,k,rfl,ha,hB,A,m⟩;dsimp only at hF;refine ap_k ha ?_;refine Zn (Zm rfl (Za rfl (Ze [(4,_)] (nx (n_ ?_)))));have b1:=Zj hF;subst b1;refine Zr Tryz.results101 [j] ?_;exact⟨_,u,rt2 oo k w.heap.size 11 12 t,rfl,A.rt2 hB (by decide) (by decide) t,m.rt2 hB (by decide) (by decide) (by decide) t,hB.keeps,fA_ _ _ _ _ _ _⟩
 ·exact λ_ _ h=>h.elim
def ck_(fuel:Nat)(b:List Int)(c:c_)(d:List Int):Option Bool:=
  (eR_ fuel d b)>>=λf=>
  (cf_ fuel c f)>>=λa=>
  some a.2
def lK_(w:World)(r:Bool):Ending->World->Prop:=λe w'=>e=.returned (.bool r)∧Keeps w w'
theorem lw_(fuel:Nat)(w:World)(C:Value)(P:Yl)(c8:RdL zt w C P)(D:Nat)(c0:List Value)(N:c_)(c9:Cells w D 0 c0)(c1:Rp.rd zt w c0 N)(E:Nat)(c2:List Value)(F:Yl)(d0:Cells w E 0 c2)(c3:Rp.rd zt w c2 F)(r:Bool)(hF:ck_ fuel P N F=some r):
    Calls tX_ 99 #[C,.pointer (some ⟨D,0,none⟩),.pointer (some ⟨E,0,none⟩)] w (lK_ w r):=by
 unfold ck_ at hF;have g1k:=c1;obtain⟨h3,h4,rfl,Q,d1⟩:=c1;have g2k:=c3;obtain⟨h5,rfl,d2⟩:=c3;have hB:Bs (λ_=>1) (col (λ_=>1)) w w:=Bs.start _ _;refine j_ (n:=16) (vs:=[C,ZP D,ZP E]) Tryz.func99 rfl rfl ?_;refine Zq (Za rfl (Ze [(0,_),(1,_),(2,_)] (nx (b_ ?_))));obtain⟨O,R,hF⟩:=a_ hF;obtain⟨a,G,hF⟩:=a_ hF;refine cw_ (o:=(col (λ_=>1))) [(0,C),(1,ZP D),(2,ZP E)] [0,1,2] [8,9,10,11,12,7,13,14,5] [[],[],[],[1,2],[0,3],[4],[5],[5],[6]] [none,none,none,none,none,none,none,none,none] [999,999,999,999,999,999,999,999,999] [0,0,0,0,13,13,13,0,13] [999] [λv o f=>∃(c:List Value),v=.agg c.toArray∧Rp.rd zt w c N,λv o f=>RdL zt w v F,λv _ _=>v=C,λv o f=>∃g:List Hv,Ow w.heap.size 41 2022 o f v g∧Rws w.heap.size 3 2023 o f g O,λv o f=>∃i,v=.tuple #[i,.bool a.2]∧Ow w.heap.size 3 13 o f i (a.1:Yl),λv o f=>∃i,v=.tuple #[i,.bool a.2]∧Ow w.heap.size 3 13 o f i (a.1:Yl),λv o f=>Ow w.heap.size 3 13 o f v (a.1:Yl),λv _ _=>v=(.bool a.2),λv o f=>Ow w.heap.size 3 13 o f v (a.1:Yl)] (λd3 d4=>Bs (λ_=>1) d3 w d4) ao_ (by kernel_rfl) rfl ⟨rfl,rfl,rfl,trivial⟩ hB ?_ ⟨λ_ _ _ _ _ _ b hb ⟨c,e,h⟩ hs=>⟨c,e,h⟩,λ_ _ _ _ _ _ b hb h hs=>h,E_ _,λ_ _ _ _ _ _ b hb ⟨g,h,Q⟩ hs=>⟨g,h.stp hs b.1 (Nat.ne_of_gt (Nat.lt_of_le_of_lt b.2 (by decide))),Q.stp hs b.1 (Nat.ne_of_gt (Nat.lt_of_le_of_lt b.2 (by decide)))⟩,λ_ _ _ _ _ _ b hb ⟨i,e,q⟩ hs=>⟨i,e,q.stp hs b.1 (Ne.symm hb)⟩,λ_ _ _ _ _ _ b hb ⟨i,e,q⟩ hs=>⟨i,e,q.stp hs b.1 (Ne.symm hb)⟩,λ_ _ _ _ _ _ b hb h hs=>h.stp hs b.1 (Ne.symm hb),E_ _,λ_ _ _ _ _ _ b hb h hs=>h.stp hs b.1 (Ne.symm hb),trivial⟩ ?_ ?_
 ·rintro d5 h6 h7 h8 h9 s hB S;have s:d5=999:=by simpa using s
  subst s;all_goals exact hB.stp S (by decide)
 ·refine⟨?_,?_,?_,?_,?_,?_,?_,?_,?_,trivial⟩
  ·rintro d6 d7 d8 ha hB-;refine Zs ha ?_;refine l_ (H_ rfl ue_ uc_ rfl (c9.keep hB.keeps)) ?_;exact⟨_,Stp.refl _ _ _,⟨_,rfl,⟨_,_,rfl,Q,d1⟩⟩⟩
  ·rintro d9 e0 e1 ha hB-;refine Zs ha ?_;refine l_ (e_ rfl ug_ (i_ (d0.keep hB.keeps))) ?_;exact⟨_,Stp.refl _ _ _,d2⟩
  ·rintro e2 e3 e4 ha hB-;refine Zs ha ?_;refine l_ (g_ rfl) ?_;exact Zx rfl
  ·rintro T U H ha hB ⟨j,V,-⟩;replace j:RdL zt w (H.tmps.getD 9 undef) F:=j;generalize W:H.tmps.getD 9 undef=e5 at j;have ha:=ha.c W;have ha:=ha.c V;refine Zs ha ?_;refine o_ (la_ fuel U T 2022 (by decide) _ F (j.keep hB.keeps) _ P (c8.keep hB.keeps) O R) Tryz.call101 ⟨rfl,rfl,trivial⟩ ?_;rintro e6 e7 ⟨e8,e9,f0,rfl,u,x,X,Y⟩;have Z:=X.stp' 999 Y;replace u:=u.mono hB.keeps.size;replace x:=x.mono hB.keeps.size;refine⟨_,rfl,?_⟩;exact⟨_,Z,⟨_,u,x⟩⟩
  ·rintro y A I ha hB ⟨a0,k,-⟩;obtain⟨f1,a1,a2⟩:=a0;obtain⟨f2,f3,rfl,a3,a4⟩:=a2;have ha:=ha.c a1;replace k:∃g:List Hv,Ow w.heap.size 41 2022 y A (I.tmps.getD 11 undef) g∧Rws w.heap.size 3 2023 y A g O:=k;generalize a5:I.tmps.getD 11 undef=f4 at k;obtain⟨f5,a6,a7⟩:=k;have ha:=ha.c a5;refine Zs ha ?_;refine o_ (gZ_ fuel A y 13 (by decide) _ N (⟨_,_,rfl,a3.keep hB.keeps,a4.keep hB.keeps⟩) _ O (a7.z a6) a G) Tryz.call100 ⟨rfl,rfl,trivial⟩ ?_;rintro f6 f7 ⟨f8,f9,rfl,B,a8,a9⟩;have b0:=a8.stp' 999 a9;replace B:=B.mono hB.keeps.size;refine⟨_,rfl,?_⟩;exact⟨_,b0,⟨_,rfl,B⟩⟩
  ·rintro g0 g1 g2 ha hB ⟨b1,-⟩;obtain⟨g3,b2,b3⟩:=b1;have ha:=ha.c b2;refine Zs ha ?_;refine l_ (g_ rfl) ?_;exact⟨_,Stp.refl _ _ _,⟨_,rfl,b3⟩⟩
  ·rintro g4 g5 g6 ha hB ⟨b4,-⟩;obtain⟨g7,b5,b6⟩:=b4;have ha:=ha.c b5;refine Zs ha ?_;refine l_ (t_ rfl rfl) ?_;exact⟨_,Stp.refl _ _ _,b6⟩
  ·rintro g8 g9 h0 ha hB ⟨b7,-⟩;obtain⟨h1,b8,h2⟩:=b7;have ha:=ha.c b8;refine Zs ha ?_;refine l_ (t_ rfl rfl) ?_;exact Zx rfl
  ·rintro b9 J m ha hB ⟨d,-⟩;replace d:Ow w.heap.size 3 13 b9 J (m.tmps.getD 13 undef) (a.1:Yl):=d;generalize K:m.tmps.getD 13 undef=c4 at d;have ha:=ha.c K;refine Zs ha ?_;refine l_ (ah_ rfl) ?_;exact⟨_,Stp.refl _ _ _,d⟩
 rintro c5 c6 c7 ha hB ⟨-,-,-,-,-,-,-,L,-,-⟩;have ha:=ha.c L;refine aS_ ha ?_;simp only[List.length_cons,List.length_nil,Nat.zero_add,Nat.reduceAdd,List.drop_succ_cons,List.drop_zero];refine Za rfl (Ze [(6,_)] (Zn (Zm rfl (Za rfl (Ze [(4,_)] (nx (n_ ?_)))))));have M:=Zj hF;subst M;refine Zr Tryz.results99 [.bool a.2] ?_;exact⟨rfl,hB.keeps⟩
end
end Go.Proofs.YtdbbeldgdgonfaaGreat
