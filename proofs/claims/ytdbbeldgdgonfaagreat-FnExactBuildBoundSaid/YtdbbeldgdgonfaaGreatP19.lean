/- Part 19 of what this claim rests on (pack.py). -/
import Derived.Test.YtdbbeldgdgonfaaGreatP18
namespace Go.Proofs.YtdbbeldgdgonfaaGreat
open Tryz renaming prog→wQ_, underlying22→wV_, sizeOf41→wY_, isAgg41→xa_, underlying41→wR_, isAgg28→wX_, sizeOf28→wU_, call148→zN_, sizeOf3→wS_, isAgg3→wT_, call125→zO_, zeroValue3→xd_, results87→zP_, call139→zR_
set_option linter.unusedSimpArgs false
set_option linter.unusedVariables false
section
set_option maxRecDepth 100000
set_option maxHeartbeats 2000000
open Go.RowKit
theorem md_:Inf wQ_ 3 (.int .i64 0) 1 8:=by unfold Inf;kernel_rfl
theorem lG_:Inf wQ_ 41 (.slice none 0 0) 1 24:=by unfold Inf;kernel_rfl
def bY_(a:List Int)(b:(List Int)->Option Bool):Option Bool:=
  (b a)>>=λc=>
  some (!c)
def lI_(w:World)(r:Bool):Ending->World->Prop:=λe w'=>e=.returned (.bool r)∧Keeps w w'
theorem lS_(w:World)(a:Value)(c:Yl)(j:RdL zt w a c)(b:Nat)(f:Value)(g:Yl->Option Bool)(k:Cells w b 0 [f])(m:FnV wQ_ w f g)(r:Bool)(hF:bY_ c g=some r):
    Calls wQ_ 147 #[a,.pointer (some ⟨b,0,none⟩)] w (lI_ w r):=by
 unfold bY_ at hF;have hB:Bs (λ_=>1) (col (λ_=>1)) w w:=Bs.start _ _;refine i_ (n:=8) (vs:=[a,ZP b]) Tryz.func147 rfl rfl ?_;refine Zq (Za rfl (Ze [(0,_),(1,_)] (Zn (Zv (e_ rfl Tryz.isAgg97 (k_ (k.keep hB.keeps))) (Zm rfl ?_)))));obtain⟨i,d,hF⟩:=a_ hF;refine Zo ?_;refine ge_ (x:=c) (vs:=[a]) (m.keep hB.keeps) d ⟨_,rfl,j.keep hB.keeps⟩ rfl ⟨rfl,trivial⟩ ?_;intro v q;have s:=q.stp 999 (col (λ_=>1));replace hB:=hB.stp s;refine Zv (aI_ rfl) (Za rfl (Ze [(3,_)] (nx (j_ ?_))));have u:=Zj hF;subst u;refine Zr Tryz.results147 [.bool (!i)] ?_;exact⟨rfl,hB.keeps⟩
def eo_(fuel:Nat)(c:Int)(d:Int)(f:(List Int)->Option Bool):Option (List (List Int)):=
  (eq_ fuel c d)>>=λa=>
  (delL (λg=>bY_ g f) a)>>=λb=>
  some b
def nY_(oo:Tg)(t:Nat)(w:World)(r:Yk):Ending->World->Prop:=λe w'=>∃(a:Value)(c:List Hv)(o':Tg),e=.returned (a)∧Ow w.heap.size 41 t o' w' a c∧Rws w.heap.size 3 (t+1) o' w' c r∧Keeps w w'∧∀b,b<w.heap.size->o' b=oo b
theorem jV_(fuel:Nat)(w:World)(oo:Tg)(t:Nat)(ht:2<=t)(c:Int)(d:Int)(m:Value)(q:Yl->Option Bool)(G:FnV wQ_ w m q)(r:Yk)(hF:eo_ fuel c d q=some r):
    Calls wQ_ 98 #[.int .i64 c,.int .i64 d,m] w (nY_ oo t w r):=by
 unfold eo_ at hF;have hB:Bs oo (col oo) w w:=Bs.start _ _;refine i_ (n:=12) (vs:=[ZI c,ZI d,m]) Tryz.func98 rfl rfl ?_;generalize col oo=o at*;refine Zq (Zo ?_);refine as_ (o:=o) w.heap.size 11 hB.keeps.size (cs:=[m]) G.cells1 rfl ?_;intro I H s J K;replace hB:=hB.stp K;refine Za rfl (Ze [(0,_),(1,_),(5,_)] (Zn (Zm rfl (Zm rfl ?_))));have L:=(show FnV wQ_ H (.func (.func 147) #[] #[ZP s]) (λM=>bY_ M q) from ⟨_,_,rfl,Tryz.call147,λww vs xx rr kk hok hG=>by(obtain⟨W,rfl,N⟩:=hok;exact lS_ ww _ xx N s _ q ((J.cells).keep kk) ((G.keep hB.keeps).keep kk) rr hG)⟩);have f:=hB.keeps.size;obtain⟨u,g,hF⟩:=a_ hF;refine Zo ?_;refine o_ (kc_ fuel H I 12 (by decide) c d u g) Tryz.call146 ⟨rfl,rfl,trivial⟩ ?_;rintro O P ⟨Q,R,S,rfl,v,x,i,y⟩;have z:=i.stp' 12 y;have A:=v;have B:=x;refine⟨_,rfl,?_⟩;replace hB:=hB.stp z;refine Zv (gU_ (vs:=[ZP s]) ⟨rfl,trivial⟩) ?_;obtain⟨T,j,hF⟩:=a_ hF;refine Zo ?_;refine o_ (vl_ A B i L (by decide) (by decide) (by decide) j) Tryz.call145 ⟨rfl,rfl,trivial⟩ ?_;rintro U V ⟨k,C,D,rfl,a,b,E⟩;refine⟨_,rfl,?_⟩;replace a:=a.mono f;replace b:=b.mono f;replace hB:=hB.stp E;refine Za rfl (Ze [(6,_)] (nx (j_ ?_)));have F:=Zj hF;subst F;refine Zr Tryz.results98 [k] ?_;exact⟨_,C,rt2 oo D w.heap.size 12 13 t,rfl,a.rt2 hB (by decide) (by decide) t,b.rt2 hB (by decide) (by decide) (by decide) t,hB.keeps,fA_ _ _ _ _ _ _⟩
def aB_:Int->(List Int)->Int->Option (Lp Int Int (List Int)):=λ(c:Int)(b:List Int)(s:Int)=>
  (ck (s+(b.length:Int)))>>=λa=>
  if decide (a<0) then
    none
  else
    some (.go a)
def ax_:Int->(List Int)->(List Int)->Option (Lp (List Int) (List Int) (List Int)):=λ(c:Int)(a:List Int)(s:List Int)=>
  (cat s a)>>=λb=>
  some (.go b)
def bq_(d:List (List Int)):Option (List Int):=
  (forI (aB_) d 0 0)>>=λf=>
  match f with
  | .inl g=>
    (growO g)>>=λa=>
    (forI (ax_) d 0 a)>>=λb=>
    match b with
    | .inl c=>
      some c
    | .inr _=>none
  | .inr _=>none
def gB_(oo:Tg)(t:Nat)(w:World)(r:Yl):Ending->World->Prop:=λe w'=>∃(a:Value)(o':Tg),e=.returned (a)∧Ow w.heap.size 3 t o' w' a r∧Keeps w w'∧∀b,b<w.heap.size->o' b=oo b
theorem gK_(w:World)(oo:Tg)(t:Nat)(ht:2<=t)(b:Value)(d:Yk)(E:RdL zt w b d)(r:Yl)(hF:bq_ d=some r):
    Calls wQ_ 140 #[b] w (gB_ oo t w r):=by
 unfold bq_ at hF;have hB:Bs oo (col oo) w w:=Bs.start _ _;refine i_ (n:=36) (vs:=[b]) Tryz.func140 rfl rfl ?_;generalize col oo=o at*;refine Zq (Za rfl (Ze [(0,_)] (Zn (Za rfl (Ze [(0,_),(3,_)] (nx (c_ (Zq (Zm rfl (Zv (B_ rfl E wV_) (Zm rfl (Ze [(0,_),(3,_),(9,_),(10,_),(11,_)] ?_))))))))))));refine nx ?_;obtain⟨b6,Q,hF⟩:=a_ hF;refine v_ (λa F=>∃(q:Int),∃(B:Tg),b6=.inl q∧Fr a 36 [(0,b),(3,ZI q)]∧Bs oo B w F) (λ_ _=>False) ?_ ?_ ?_
 ·refine f_ ?_;refine w_ (λ(K:Nat) a F=>∃(i:Int)(q:Int),∃(B:Tg),forI (aB_) (d.drop i.toNat) i q=some b6∧(d.drop i.toNat).length=K∧0<=i∧Fr a 36 [(0,b),(3,ZI q),(9,b),(10,ZI (d.length:Int)),(11,ZI i)]∧Bs oo B w F) _ (λa ha=>⟨0,0,o,Q,rfl,Int.le_refl 0,ha.sb,hB⟩) ?_;rintro K9 a F ⟨i,q,B,b7,b8,b9,ha,hB⟩;by_cases u:i<(d.length:Int)
  ·obtain⟨c0,c1,G,k,R⟩:=R_ b9 u b7;have hle:=E.len_le;dsimp only[aB_] at k;refine J_ ha ?_;refine Zq (Zv (r_ rfl rfl) (Ze [(0,_),(3,_),(9,_),(10,_),(11,_),(12,_)] (nx (c_ ?_))));refine L_ (Zb (decide_eq_true u)) ?_;refine g_ (nx (c_ (f_ (Zq (Zo ?_)))));refine wf_atZ E G hB rfl rfl wV_ wY_ ?_;intro c2 c3 c4 S T;obtain⟨U,rfl,V⟩:=T;refine Zv (e_ rfl xa_ (k_ S)) (Za rfl (Ze [(0,_),(3,_),(5,_),(9,_),(10,_),(11,_)] (Zn (Zm rfl (Zm rfl (Zv (B_ rfl V wR_) ?_))))));obtain⟨s,H,k⟩:=a_ k;refine Zv (C_ rfl rfl H) (Za rfl (Ze [(0,_),(3,_),(9,_),(10,_),(11,_)] (Zn (Zm rfl (Zv (r_ rfl rfl) (Ze [(0,_),(3,_),(9,_),(10,_),(11,_),(20,_)] (nx ?_)))))));refine l_ rfl (λC=>?_) (λC=>?_)
   ·rw[if_pos C] at k;cases k
   ·replace k:=ZF C k;refine g_ (x_ (nx (d_ (Zv (C_ rfl rfl (F_ (by omega) (by omega))) (Zm rfl (Ze [(0,_),(3,_),(9,_),(10,_),(11,_)] (u_ ?_)))))));have W:=Zj k;subst W;refine Zk [(0,_),(3,_),(9,_),(10,_),(11,_)] ?_;intro a ha;exact⟨_,(by rw[<-b8];simp only[List.length_drop];omega),i+1,s,B,R,rfl,by omega,ha,hB⟩
  ·have X:=S_ u b7;refine J_ ha ?_;refine Zq (Zv (r_ rfl rfl) (Ze [(0,_),(3,_),(9,_),(10,_),(11,_),(12,_)] (nx (c_ ?_))));refine G_ (Zb (decide_eq_false u)) ?_;refine s_ ?_;refine n_ (n_ (N_ ?_));refine p_ ?_;refine Zk [(0,_),(3,_)] ?_;intro a ha;exact⟨q,B,X,ha,hB⟩
 ·rintro a F ⟨q,B,rfl,ha,hB⟩;dsimp only at hF;refine ap_k ha ?_;refine Zn (Zm rfl ?_);obtain⟨I,J,hF⟩:=a_ hF;refine Zo ?_;refine o_ (rO_ F B 11 q I J) Tryz.call173 ⟨rfl,rfl,trivial⟩ ?_;rintro c5 c6 ⟨v,Y,rfl,D,Z,a0⟩;have a1:=Z.stp' 11 a0;replace D:=D.mono hB.keeps.size;refine⟨_,rfl,?_⟩;replace hB:=hB.stp a1;refine Za rfl (Ze [(0,_),(6,_)] (nx (c_ (Zq (Zm rfl (Zv (B_ rfl E wV_) (Zm rfl (Ze [(6,_),(25,_),(26,_),(27,_)] (nx ?_)))))))));obtain⟨L,M,hF⟩:=a_ hF;refine v_ (λa m=>∃j f g,L=.inl j∧Fr a 36 [(6,f)]∧Bs oo g w m∧Oz w 3 11 g m f j) (λ_ _=>False) ?_ ?_ ?_
  ·refine f_ ?_;refine w_ (λ(K:Nat) a m=>∃(c:Int),∃j f g,forI (ax_) (d.drop c.toNat) c j=some L∧(d.drop c.toNat).length=K∧0<=c∧Fr a 36 [(6,f),(25,b),(26,ZI (d.length:Int)),(27,ZI c)]∧Bs oo g w m∧Oz w 3 11 g m f j) _ (λa ha=>⟨0,I,v,Y,M,rfl,Int.le_refl 0,ha.sb,hB,D⟩) ?_;rintro K45 a m ⟨c,j,f,g,N,a2,a3,ha,hB,x⟩;by_cases y:c<(d.length:Int)
   ·obtain⟨c7,c8,O,z,a4⟩:=R_ a3 y N;have hle:=E.len_le;dsimp only[ax_] at z;refine J_ ha ?_;refine Zq (Zv (r_ rfl rfl) (Ze [(6,_),(25,_),(26,_),(27,_),(28,_)] (nx (c_ ?_))));refine L_ (Zb (decide_eq_true y)) ?_;refine g_ (nx (c_ (f_ (Zq (Zo ?_)))));refine wf_atZ E O hB rfl rfl wV_ wY_ ?_;intro c9 d0 d1 a5 a6;obtain⟨a7,rfl,a8⟩:=a6;refine Zv (e_ rfl xa_ (k_ a5)) (Za rfl (Ze [(6,_),(8,_),(25,_),(26,_),(27,_)] (nx (d_ (Zm rfl (Zm rfl ?_))))));obtain⟨a9,P,z⟩:=a_ z;refine Zo ?_;refine nH_ x (a8.keep hB.keeps) P (by decide) hB.keeps.size (λ_ _ h=>h) rfl rfl wR_ md_ rfl (by decide) ?_;intro b0 d2 A b1 b2;replace hB:=hB.stp b2;refine Za rfl (Ze [(6,A),(25,b),(26,ZI (d.length:Int)),(27,ZI c)] (x_ (nx (d_ (Zv (C_ rfl rfl (F_ (by omega) (by omega))) (Zm rfl (Ze [(6,_),(25,_),(26,_),(27,_)] (u_ ?_))))))));have b3:=Zj z;subst b3;refine Zk [(6,_),(25,_),(26,_),(27,_)] ?_;intro a ha;exact⟨_,(by rw[<-a2];simp only[List.length_drop];omega),c+1,a9,A,b0,a4,rfl,by omega,ha,hB,b1⟩
   ·have b4:=S_ y N;refine J_ ha ?_;refine Zq (Zv (r_ rfl rfl) (Ze [(6,_),(25,_),(26,_),(27,_),(28,_)] (nx (c_ ?_))));refine G_ (Zb (decide_eq_false y)) ?_;refine s_ ?_;refine n_ (n_ (N_ ?_));refine p_ ?_;refine Zk [(6,_)] ?_;intro a ha;exact⟨j,f,g,b4,ha,hB,x⟩
  ·rintro a m ⟨j,f,g,rfl,ha,hB,x⟩;dsimp only at hF;refine ap_k ha ?_;refine Zn (Zm rfl (Za rfl (Ze [(2,_)] (nx (j_ ?_)))));have b5:=Zj hF;subst b5;refine Zr Tryz.results140 [f] ?_;exact⟨_,rt oo g w.heap.size 11 t,rfl,x.rt hB (by decide) t,hB.keeps,am_ _ _ _ _ _⟩
  ·exact λ_ _ h=>h.elim
 ·exact λ_ _ h=>h.elim
def aF_(fuel:Nat)(a:List Int)(b:b_):Option Bool:=
  (cW_ fuel b a)>>=λc=>
  some c
def gV_(w:World)(r:Bool):Ending->World->Prop:=λe w'=>e=.returned (.bool r)∧Keeps w w'
theorem hs_(fuel:Nat)(w:World)(a:Value)(c:Yl)(m:RdL zt w a c)(b:Nat)(j:List Value)(d:b_)(q:Cells w b 0 j)(k:Rp.rd zt w j d)(r:Bool)(hF:aF_ fuel c d=some r):
    Calls wQ_ 149 #[a,.pointer (some ⟨b,0,none⟩)] w (gV_ w r):=by
 unfold aF_ at hF;have g1k:=k;obtain⟨z,A,rfl,s,u⟩:=k;have hB:Bs (λ_=>1) (col (λ_=>1)) w w:=Bs.start _ _;refine i_ (n:=7) (vs:=[a,ZP b]) Tryz.func149 rfl rfl ?_;refine Zq (Za rfl (Ze [(0,_),(1,_)] (Zn (Zv (E_ rfl wX_ wU_ rfl (q.keep hB.keeps)) (Zm rfl ?_)))));obtain⟨f,g,hF⟩:=a_ hF;refine Zo ?_;refine o_ (hT_ fuel w _ d (⟨_,_,rfl,s.keep hB.keeps,u.keep hB.keeps⟩) _ c (m.keep hB.keeps) f g) Tryz.call150 ⟨rfl,rfl,trivial⟩ ?_;rintro v B ⟨rfl,x⟩;have y:=x.stp 999 (col (λ_=>1));refine⟨_,rfl,?_⟩;replace hB:=hB.stp y;refine Za rfl (Ze [(3,_)] (nx (j_ ?_)));have i:=Zj hF;subst i;refine Zr Tryz.results149 [.bool f] ?_;exact⟨rfl,hB.keeps⟩
def cz_(fuel:Nat)(c:b_)(d:List (List Int)):Option ((List Int)×Bool):=
  (dl_ fuel d (λb=>aF_ fuel b c))>>=λa=>
  some (a.1,a.2)
def hW_(oo:Tg)(t:Nat)(w:World)(r:Yl×Bool):Ending->World->Prop:=λe w'=>∃(a:Value)(o':Tg),e=.returned (.tuple #[a,.bool r.2])∧Ow w.heap.size 3 t o' w' a r.1∧Keeps w w'∧∀b,b<w.heap.size->o' b=oo b
theorem hK_(fuel:Nat)(w:World)(oo:Tg)(t:Nat)(ht:2<=t)(B:List Value)(a:b_)(C:Rp.rd zt w B a)(i:Value)(k:Yk)(D:RdL zt w i k)(r:Yl×Bool)(hF:cz_ fuel a k=some r):
    Calls wQ_ 100 #[.agg B.toArray,i] w (hW_ oo t w r):=by
 unfold cz_ at hF;obtain⟨m,q,rfl,E,F⟩:=C;have hB:Bs oo (col oo) w w:=Bs.start _ _;refine i_ (n:=11) (vs:=[.agg #[ZI a.Labels,ZI a.Degree,m,q],i]) Tryz.func100 rfl rfl ?_;generalize col oo=o at*;refine Zq (Zo ?_);refine as_ (o:=o) w.heap.size 11 hB.keeps.size (cs:=[ZI a.Labels,ZI a.Degree,m,q]) rfl rfl ?_;intro G s j H I;replace hB:=hB.stp I;refine Za rfl (Za rfl (Ze [(1,_),(2,_)] (Zn (Zm rfl (Zv (gU_ (vs:=[ZP j]) ⟨rfl,trivial⟩) ?_)))));obtain⟨b,f,hF⟩:=a_ hF;refine Zo ?_;refine o_ (iz_ fuel s G 12 (by decide) _ k (D.keep hB.keeps) _ (λc=>aF_ fuel c a) (show FnV wQ_ s (.func (.func 149) #[] #[ZP j]) (λc=>aF_ fuel c a) from ⟨_,_,rfl,Tryz.call149,λww vs xx rr kk hok hG=>by(obtain⟨J,rfl,u⟩:=hok;exact hs_ fuel ww _ xx u j _ a ((H.cells).keep kk) (Rp.keep ((show Rp.rd zt s [ZI a.Labels,ZI a.Degree,m,q] (a:b_) from ⟨_,_,rfl,E.keep hB.keeps,F.keep hB.keeps⟩)) kk) rr hG)⟩) b f) zN_ ⟨rfl,rfl,trivial⟩ ?_;rintro K L ⟨g,v,rfl,d,x,y⟩;have z:=x.stp' 12 y;replace d:=d.mono hB.keeps.size;refine⟨_,rfl,?_⟩;replace hB:=hB.stp z;refine Zv (t_ rfl rfl) (Zv (t_ rfl rfl) (Za rfl (Za rfl (Ze [(4,_),(5,_)] (nx (j_ ?_))))));have A:=Zj hF;subst A;refine Zr Tryz.results100 [g,.bool b.2] ?_;exact⟨_,rt oo v w.heap.size 12 t,rfl,d.rt hB (by decide) t,hB.keeps,am_ _ _ _ _ _⟩
def aG_(fuel:Nat)(b:List Int)(c:b_):Option Bool:=
  (ix b 0)>>=λd=>
  (ix b 1)>>=λf=>
  (cU_ fuel c d f)>>=λa=>
  some a
def ha_(w:World)(r:Bool):Ending->World->Prop:=λe w'=>e=.returned (.bool r)∧Keeps w w'
theorem gZ_(fuel:Nat)(w:World)(a:Value)(k:Yl)(m:RdL zt w a k)(f:Nat)(S:List Value)(q:b_)(Y:Cells w f 0 S)(T:Rp.rd zt w S q)(r:Bool)(hF:aG_ fuel k q=some r):
    Calls wQ_ 153 #[a,.pointer (some ⟨f,0,none⟩)] w (ha_ w r):=by
 unfold aG_ at hF;have g1k:=T;obtain⟨d5,d6,rfl,Z,a0⟩:=T;have hB:Bs (λ_=>1) (col (λ_=>1)) w w:=Bs.start _ _;refine i_ (n:=12) (vs:=[a,ZP f]) Tryz.func153 rfl rfl ?_;refine Zq (Za rfl (Ze [(0,_),(1,_)] (nx (c_ ?_))));obtain⟨U,g,hF⟩:=a_ hF;obtain⟨V,i,hF⟩:=a_ hF;refine gv_ (o:=(col (λ_=>1))) [(0,a),(1,ZP f)] [0,1] [4,5,6,7,8,9,10] [[],[],[1],[2],[],[4],[5]] [none,none,none,none,none,none,none] [999,999,999,999,999,999,999] [0,0,0,0,0,0,0] [999] [λv o W=>∃(c:List Value),v=.agg c.toArray∧Rp.rd zt w c q,λv _ _=>v=a,λv o W=>∃vl,v=adr vl ((0:Int).toNat*Rp.sz Int)∧RdL zt w vl k,λv _ _=>v=(ZI U),λv _ _=>v=a,λv o W=>∃vl,v=adr vl ((1:Int).toNat*Rp.sz Int)∧RdL zt w vl k,λv _ _=>v=(ZI V)] (λa1 a2=>Bs (λ_=>1) a1 w a2) cu_ (by kernel_rfl) rfl ⟨rfl,rfl,trivial⟩ hB ?_ ⟨λ_ _ _ _ _ _ X hb ⟨c,e,h⟩ hs=>⟨c,e,h⟩,dQ_ _,λ_ _ _ _ _ _ X hb ⟨vl,e,h⟩ hs=>⟨vl,e,h⟩,dQ_ _,dQ_ _,λ_ _ _ _ _ _ X hb ⟨vl,e,h⟩ hs=>⟨vl,e,h⟩,dQ_ _,trivial⟩ ?_ ?_
 ·rintro a3 d7 d8 d9 e0 b hB s;have b:a3=999:=by simpa using b
  subst b;all_goals exact hB.stp s (by decide)
 ·refine⟨?_,?_,?_,?_,?_,?_,?_,trivial⟩
  ·rintro a4 a5 a6 ha hB-;refine Zs ha ?_;refine M_ (E_ rfl wX_ wU_ rfl (Y.keep hB.keeps)) ?_;exact⟨_,Stp.refl _ _ _,⟨_,rfl,⟨_,_,rfl,Z,a0⟩⟩⟩
  ·rintro a7 a8 a9 ha hB-;refine Zs ha ?_;refine M_ (h_ rfl) ?_;exact Zx rfl
  ·rintro b0 b1 b2 ha hB ⟨u,-⟩;have ha:=ha.c u;refine Zs ha ?_;refine ae_ m g rfl rfl wR_ wS_ ?_;exact⟨_,Stp.refl _ _ _,⟨_,rfl,m⟩⟩
  ·rintro b3 b4 b5 ha hB ⟨x,-⟩;obtain⟨b6,y,z⟩:=x;have ha:=ha.c y;refine Zs ha ?_;refine bB_ z g hB rfl rfl wT_ ?_;intro b7 A;cases A
   exact Zx rfl
  ·rintro b8 b9 c0 ha hB-;refine Zs ha ?_;refine M_ (h_ rfl) ?_;exact Zx rfl
  ·rintro c1 c2 c3 ha hB ⟨B,-⟩;have ha:=ha.c B;refine Zs ha ?_;refine ae_ m i rfl rfl wR_ wS_ ?_;exact⟨_,Stp.refl _ _ _,⟨_,rfl,m⟩⟩
  ·rintro c4 c5 c6 ha hB ⟨C,-⟩;obtain⟨c7,D,E⟩:=C;have ha:=ha.c D;refine Zs ha ?_;refine bB_ E i hB rfl rfl wT_ ?_;intro c8 F;cases F
   exact Zx rfl
 rintro G H c9 ha hB ⟨I,-,-,J,-,-,K,-⟩;obtain⟨d0,L,M⟩:=I;obtain⟨d1,d2,rfl,N,O⟩:=M;have ha:=ha.c L;have ha:=ha.c J;have ha:=ha.c K;refine aH_ ha ?_;simp only[List.length_cons,List.length_nil,Nat.zero_add,Nat.reduceAdd,List.drop_succ_cons,List.drop_zero];obtain⟨d,j,hF⟩:=a_ hF;refine Zo ?_;refine o_ (hM_ fuel H _ q (⟨_,_,rfl,N.keep hB.keeps,O.keep hB.keeps⟩) U V d j) zO_ ⟨rfl,rfl,rfl,trivial⟩ ?_;rintro d3 d4 ⟨rfl,P⟩;have Q:=P.stp 999 G;refine⟨_,rfl,?_⟩;replace hB:=hB.stp Q;refine Za rfl (Ze [(3,_)] (nx (j_ ?_)));have R:=Zj hF;subst R;refine Zr Tryz.results153 [.bool d] ?_;exact⟨rfl,hB.keeps⟩
def cs_(fuel:Nat)(c:b_)(d:List (List Int)):Option ((List Int)×Bool):=
  (dl_ fuel d (λb=>aG_ fuel b c))>>=λa=>
  some (a.1,a.2)
def hB_(oo:Tg)(t:Nat)(w:World)(r:Yl×Bool):Ending->World->Prop:=λe w'=>∃(a:Value)(o':Tg),e=.returned (.tuple #[a,.bool r.2])∧Ow w.heap.size 3 t o' w' a r.1∧Keeps w w'∧∀b,b<w.heap.size->o' b=oo b
theorem hE_(fuel:Nat)(w:World)(oo:Tg)(t:Nat)(ht:2<=t)(B:List Value)(a:b_)(C:Rp.rd zt w B a)(i:Value)(k:Yk)(D:RdL zt w i k)(r:Yl×Bool)(hF:cs_ fuel a k=some r):
    Calls wQ_ 105 #[.agg B.toArray,i] w (hB_ oo t w r):=by
 unfold cs_ at hF;obtain⟨m,q,rfl,E,F⟩:=C;have hB:Bs oo (col oo) w w:=Bs.start _ _;refine i_ (n:=11) (vs:=[.agg #[ZI a.Labels,ZI a.Degree,m,q],i]) Tryz.func105 rfl rfl ?_;generalize col oo=o at*;refine Zq (Zo ?_);refine as_ (o:=o) w.heap.size 11 hB.keeps.size (cs:=[ZI a.Labels,ZI a.Degree,m,q]) rfl rfl ?_;intro G s j H I;replace hB:=hB.stp I;refine Za rfl (Za rfl (Ze [(1,_),(2,_)] (Zn (Zm rfl (Zv (gU_ (vs:=[ZP j]) ⟨rfl,trivial⟩) ?_)))));obtain⟨b,f,hF⟩:=a_ hF;refine Zo ?_;refine o_ (iz_ fuel s G 12 (by decide) _ k (D.keep hB.keeps) _ (λc=>aG_ fuel c a) (show FnV wQ_ s (.func (.func 153) #[] #[ZP j]) (λc=>aG_ fuel c a) from ⟨_,_,rfl,Tryz.call153,λww vs xx rr kk hok hG=>by(obtain⟨J,rfl,u⟩:=hok;exact gZ_ fuel ww _ xx u j _ a ((H.cells).keep kk) (Rp.keep ((show Rp.rd zt s [ZI a.Labels,ZI a.Degree,m,q] (a:b_) from ⟨_,_,rfl,E.keep hB.keeps,F.keep hB.keeps⟩)) kk) rr hG)⟩) b f) zN_ ⟨rfl,rfl,trivial⟩ ?_;rintro K L ⟨g,v,rfl,d,x,y⟩;have z:=x.stp' 12 y;replace d:=d.mono hB.keeps.size;refine⟨_,rfl,?_⟩;replace hB:=hB.stp z;refine Zv (t_ rfl rfl) (Zv (t_ rfl rfl) (Za rfl (Za rfl (Ze [(4,_),(5,_)] (nx (j_ ?_))))));have A:=Zj hF;subst A;refine Zr Tryz.results105 [g,.bool b.2] ?_;exact⟨_,rt oo v w.heap.size 12 t,rfl,d.rt hB (by decide) t,hB.keeps,am_ _ _ _ _ _⟩
def cv_(fuel:Nat)(d:b_)(a:Int):Int->Int->Unit->Option (Lp Unit Unit ((List Int)×Bool)):=λ(f:Int)(b:Int)(s:Unit)=>
  (cU_ fuel d a b)>>=λc=>
  if !c then
    some (.ret (([a,b]:List Int),true))
  else
    some (.go ())
def de_(fuel:Nat)(c:b_)(d:List Int):Int->Int->Unit->Option (Lp Unit Unit ((List Int)×Bool)):=λ(f:Int)(a:Int)(s:Unit)=>
  (forI (cv_ fuel c a) d 0 ())>>=λb=>
  match b with
  | .inl _=>
    some (.go ())
  | .inr r'=>some (.ret r')
def ej_(fuel:Nat)(b:b_)(c:List Int)(d:List Int):Option ((List Int)×Bool):=
  (forI (de_ fuel b d) c 0 ())>>=λa=>
  match a with
  | .inl _=>
    some ([],false)
  | .inr r'=>some r'
def jB_(oo:Tg)(t:Nat)(w:World)(r:Yl×Bool):Ending->World->Prop:=λe w'=>∃(a:Value)(o':Tg),e=.returned (.tuple #[a,.bool r.2])∧Ow w.heap.size 3 t o' w' a r.1∧Keeps w w'∧∀b,b<w.heap.size->o' b=oo b
theorem mw_(fuel:Nat)(w:World)(oo:Tg)(t:Nat)(ht:2<=t)(c0:List Value)(u:b_)(c1:Rp.rd zt w c0 u)(j:Value)(g:Yl)(V:RdL zt w j g)(d:Value)(s:Yl)(W:RdL zt w d s)(r:Yl×Bool)(hF:ej_ fuel u g s=some r):
    Calls wQ_ 87 #[.agg c0.toArray,j,d] w (jB_ oo t w r):=by
 unfold ej_ at hF;obtain⟨G,H,rfl,c2,c3⟩:=c1;have hB:Bs oo (col oo) w w:=Bs.start _ _;refine i_ (n:=34) (vs:=[.agg #[ZI u.Labels,ZI u.Degree,G,H],j,d]) Tryz.func87 rfl rfl ?_;generalize col oo=o at*;refine Zq (Zo ?_);refine as_ (o:=o) w.heap.size 11 hB.keeps.size (cs:=[ZI u.Labels,ZI u.Degree,G,H]) rfl rfl ?_;intro c4 d7 k A c5;replace hB:=hB.stp c5;refine Za rfl (Za rfl (Ze [(1,_),(2,_),(3,_)] (nx (c_ (Zq (Zm rfl (Zv (B_ rfl V wR_) (Zm rfl (Ze [(2,_),(3,_),(12,_),(13,_),(14,_)] (nx ?_))))))))));obtain⟨D,I,hF⟩:=a_ hF;refine v_ (λa v=>∃(m:Tg),D=.inl ()∧Fr a 34 []∧Bs oo m w v) (λa w'=>∃r',D=.inr r'∧bodyPost wQ_ Tryz.f87 (jB_ oo t w r') .ret a w') ?_ ?_ ?_
 ·refine f_ ?_;refine w_ (λ(K:Nat) a v=>∃(b:Int),∃(m:Tg),forI (de_ fuel u s) (g.drop b.toNat) b ()=some D∧(g.drop b.toNat).length=K∧0<=b∧Fr a 34 [(2,d),(3,ZP k),(12,j),(13,ZI (g.length:Int)),(14,ZI b)]∧Bs oo m w v∧Bz w 11 m v k 28 [ZI u.Labels,ZI u.Degree,G,H]) _ (λa ha=>⟨0,c4,I,rfl,Int.le_refl 0,ha.sb,hB,A⟩) ?_;rintro K17 a v ⟨b,m,J,X,Y,ha,hB,A⟩;by_cases B:b<(g.length:Int)
  ·obtain⟨f,c6,L,x,M⟩:=R_ Y B J;have hle:=V.len_le;dsimp only[de_] at x;refine J_ ha ?_;refine Zq (Zv (r_ rfl rfl) (Ze [(2,_),(3,_),(12,_),(13,_),(14,_),(15,_)] (nx (c_ ?_))));refine L_ (Zb (decide_eq_true B)) ?_;refine g_ (nx (c_ (f_ (Zq (Zo ?_)))));refine wf_atZ V L hB rfl rfl wR_ wS_ ?_;intro c7 c8 c9 Z a0;cases a0
   refine Zv (e_ rfl wT_ (k_ Z)) (Za rfl (Ze [(2,_),(3,_),(9,_),(12,_),(13,_),(14,_)] (Zn (Zm rfl (Zv (B_ rfl W wR_) (Zm rfl (Ze [(2,_),(3,_),(9,_),(12,_),(13,_),(14,_),(18,_),(19,_),(20,_)] (nx ?_))))))));obtain⟨E,N,x⟩:=a_ x;refine v_ (λa q=>∃(i:Tg),E=.inl ()∧Fr a 34 [(2,d),(3,ZP k),(12,j),(13,ZI (g.length:Int)),(14,ZI b)]∧Bs oo i w q∧Bz w 11 i q k 28 [ZI u.Labels,ZI u.Degree,G,H]) (λa w'=>∃r',E=.inr r'∧bodyPost wQ_ Tryz.f87 (jB_ oo t w r') .ret a w') ?_ ?_ ?_
   ·refine f_ ?_;refine w_ (λ(K:Nat) a q=>∃(c:Int),∃(i:Tg),forI (cv_ fuel u f) (s.drop c.toNat) c ()=some E∧(s.drop c.toNat).length=K∧0<=c∧Fr a 34 [(2,d),(3,ZP k),(9,ZI f),(12,j),(13,ZI (g.length:Int)),(14,ZI b),(18,d),(19,ZI (s.length:Int)),(20,ZI c)]∧Bs oo i w q∧Bz w 11 i q k 28 [ZI u.Labels,ZI u.Degree,G,H]) _ (λa ha=>⟨0,m,N,rfl,Int.le_refl 0,ha.sb,hB,A⟩) ?_;rintro K35 a q ⟨c,i,O,a1,a2,ha,hB,A⟩;by_cases C:c<(s.length:Int)
    ·obtain⟨z,d0,Q,y,R⟩:=R_ a2 C O;have hle:=W.len_le;dsimp only[cv_] at y;refine J_ ha ?_;refine Zq (Zv (r_ rfl rfl) (Ze [(2,_),(3,_),(9,_),(12,_),(13,_),(14,_),(18,_),(19,_),(20,_),(21,_)] (nx (c_ ?_))));refine L_ (Zb (decide_eq_true C)) ?_;refine g_ (nx (c_ (f_ (Zq (Zo ?_)))));refine wf_atZ W Q hB rfl rfl wR_ wS_ ?_;intro d1 d2 d3 a3 a4;cases a4
     refine Zv (e_ rfl wT_ (k_ a3)) (Za rfl (Ze [(2,_),(3,_),(9,_),(11,_),(12,_),(13,_),(14,_),(18,_),(19,_),(20,_)] (Zn (Zv (E_ rfl wX_ wU_ rfl A.cells) (Zm rfl (Zm rfl ?_))))));obtain⟨S,T,y⟩:=a_ y;refine Zo ?_;refine o_ (hM_ fuel q _ u (⟨_,_,rfl,c2.keep hB.keeps,c3.keep hB.keeps⟩) f z S T) zO_ ⟨rfl,rfl,rfl,trivial⟩ ?_;rintro d4 d5 ⟨rfl,a5⟩;have a6:=a5.stp 999 i;refine⟨_,rfl,?_⟩;obtain⟨A,hB⟩:=ZS a6 (A2 A hB);refine Zv (aI_ rfl) (Ze [(2,_),(3,_),(9,_),(11,_),(12,_),(13,_),(14,_),(18,_),(19,_),(20,_),(28,_)] (nx ?_));refine l_ rfl (λF=>?_) (λF=>?_)
     ·rw[if_pos F] at y;refine Zq (Zm rfl (Zm rfl (Zo ?_)));refine hu_ w.heap.size 13 hB.keeps.size (o:=i) (cs:=[ZI f,ZI z]) (xs:=([f,z]:Yl)) (vs:=[(0,ZI f),(1,ZI z)]) ⟨_,_,rfl,rfl,⟨_,_,rfl,rfl,rfl⟩⟩ rfl ⟨rfl,rfl,rfl,rfl,trivial⟩ wR_ wS_ xd_ (by decide) (fill2 rfl rfl) (by simp) ?_;intro a7 d6 U a8 a9;replace hB:=hB.stp a9;refine Za rfl (Za rfl (Ze [(6,_),(7,_)] (nx (j_ (W_ (y_ (y_ (W_ ?_))))))));refine bg_ ?_;have b0:=Zj y;subst b0;refine λa ha=>⟨_,R,?_⟩;refine D_ (P:=wQ_) (vs:=[U,.bool true]) zP_ ⟨rfl,rfl,trivial⟩ ?_ a ha;exact⟨_,rt oo a7 w.heap.size 13 t,rfl,a8.rt hB (by decide) t,hB.keeps,am_ _ _ _ _ _⟩
     ·replace y:=ZF F y;refine g_ (x_ (nx (d_ (Zv (C_ rfl rfl (F_ (by omega) (by omega))) (Zm rfl (Ze [(2,_),(3,_),(9,_),(12,_),(13,_),(14,_),(18,_),(19,_),(20,_)] (u_ ?_)))))));have b1:=Zj y;subst b1;refine Zk [(2,_),(3,_),(9,_),(12,_),(13,_),(14,_),(18,_),(19,_),(20,_)] ?_;intro a ha;exact⟨_,(by rw[<-a1];simp only[List.length_drop];omega),c+1,i,R,rfl,by omega,ha,hB,A⟩
    ·have b2:=S_ C O;refine J_ ha ?_;refine Zq (Zv (r_ rfl rfl) (Ze [(2,_),(3,_),(9,_),(12,_),(13,_),(14,_),(18,_),(19,_),(20,_),(21,_)] (nx (c_ ?_))));refine G_ (Zb (decide_eq_false C)) ?_;refine s_ ?_;refine n_ (n_ (N_ ?_));refine p_ ?_;refine Zk [(2,_),(3,_),(12,_),(13,_),(14,_)] ?_;intro a ha;exact⟨i,b2,ha,hB,A⟩
   ·rintro a q ⟨i,rfl,ha,hB,A⟩;dsimp only at x;refine ap_k ha ?_;refine x_ (nx (d_ (Zv (C_ rfl rfl (F_ (by omega) (by omega))) (Zm rfl (Ze [(2,_),(3,_),(12,_),(13,_),(14,_)] (u_ ?_))))));have b3:=Zj x;subst b3;refine Zk [(2,_),(3,_),(12,_),(13,_),(14,_)] ?_;intro a ha;exact⟨_,(by rw[<-X];simp only[List.length_drop];omega),b+1,i,M,rfl,by omega,ha,hB,A⟩
   ·rintro a q ⟨r',rfl,b4⟩;dsimp only at x;have b5:=Zj x;subst b5;exact⟨_,M,b4⟩
  ·have b6:=S_ B J;refine J_ ha ?_;refine Zq (Zv (r_ rfl rfl) (Ze [(2,_),(3,_),(12,_),(13,_),(14,_),(15,_)] (nx (c_ ?_))));refine G_ (Zb (decide_eq_false B)) ?_;refine s_ ?_;refine n_ (n_ (N_ ?_));refine p_ ?_;refine Zk [] ?_;intro a ha;exact⟨m,b6,ha,hB⟩
 ·rintro a v ⟨m,rfl,ha,hB⟩;dsimp only at hF;refine ap_k ha ?_;refine Zn (Za rfl (Za rfl (Ze [(6,_),(7,_)] (nx (j_ ?_)))));have b7:=Zj hF;subst b7;refine Zr zP_ [.slice none 0 0,.bool false] ?_;exact⟨_,rt oo m w.heap.size 9 t,rfl,Ow.nil _ _ _ _ _,hB.keeps,am_ _ _ _ _ _⟩
 ·rintro a v ⟨r',rfl,b8⟩;dsimp only at hF;have b9:=Zj hF;subst b9;exact b8
def ey_(fuel:Nat)(b:b_)(c:List Int)(d:List Int):Option Bool:=
  (ej_ fuel b c d)>>=λa=>
  some (!a.2)
def np_(w:World)(r:Bool):Ending->World->Prop:=λe w'=>e=.returned (.bool r)∧Keeps w w'
theorem mK_(fuel:Nat)(w:World)(s:List Value)(b:b_)(x:Rp.rd zt w s b)(d:Value)(g:Yl)(y:RdL zt w d g)(f:Value)(i:Yl)(z:RdL zt w f i)(r:Bool)(hF:ey_ fuel b g i=some r):
    Calls wQ_ 69 #[.agg s.toArray,d,f] w (np_ w r):=by
 unfold ey_ at hF;obtain⟨u,v,rfl,A,B⟩:=x;have hB:Bs (λ_=>1) (col (λ_=>1)) w w:=Bs.start _ _;refine i_ (n:=18) (vs:=[.agg #[ZI b.Labels,ZI b.Degree,u,v],d,f]) Tryz.func69 rfl rfl ?_;refine Zq (Zo ?_);refine as_ (o:=(col (λ_=>1))) w.heap.size 11 hB.keeps.size (cs:=[ZI b.Labels,ZI b.Degree,u,v]) rfl rfl ?_;intro C D E F G;replace hB:=hB.stp G;refine Za rfl (Ze [(1,_),(2,_),(3,_)] (Zn (Zv (E_ rfl wX_ wU_ rfl F.cells) (Zm rfl (Zm rfl ?_)))));obtain⟨a,c,hF⟩:=a_ hF;refine Zo ?_;refine o_ (mw_ fuel D C 12 (by decide) _ b (⟨_,_,rfl,A.keep hB.keeps,B.keep hB.keeps⟩) _ g (y.keep hB.keeps) _ i (z.keep hB.keeps) a c) Tryz.call87 ⟨rfl,rfl,rfl,trivial⟩ ?_;rintro H I ⟨J,K,rfl,L,j,k⟩;have m:=j.stp' 12 k;refine⟨_,rfl,?_⟩;replace hB:=hB.stp m;refine Zm rfl (Zv (t_ rfl rfl) (Zv (t_ rfl rfl) (Za rfl (Za rfl (Ze [(8,_)] (Zn (Zm rfl (Zv (aI_ rfl) (Za rfl (Ze [(6,_)] (nx (j_ ?_))))))))))));have q:=Zj hF;subst q;refine Zr Tryz.results69 [.bool (!a.2)] ?_;exact⟨rfl,hB.keeps⟩
def fw_(fuel:Nat)(f:b_)(g:Int):Int->Int->Option (Lp Int Int Int):=λ(a:Int)(s:Int)=>
  (ec_ fuel g)>>=λb=>
  (ey_ fuel f b ([a]:List Int))>>=λc=>
  if c then
    (shl 1 a)>>=λd=>
    some (.go (bor s d))
  else
    some (.go s)
def gC_(fuel:Nat)(a:b_)(d:Int):Option Int:=
  ck a.Labels>>=λ_=>
  (forN (fw_ fuel a d) (a.Labels).toNat 0 0)>>=λb=>
  match b with
  | .inl c=>
    some c
  | .inr _=>none
def tA_(w:World)(r:Int):Ending->World->Prop:=λe w'=>e=.returned (.int .i64 r)∧Keeps w w'
theorem pv_(fuel:Nat)(w:World)(b1:List Value)(f:b_)(b4:Rp.rd zt w b1 f)(i:Int)(r:Int)(hF:gC_ fuel f i=some r):
    Calls wQ_ 96 #[.agg b1.toArray,.int .i64 i] w (tA_ w r):=by
 unfold gC_ at hF;obtain⟨G,H,rfl,b5,b6⟩:=b4;have hB:Bs (λ_=>1) (col (λ_=>1)) w w:=Bs.start _ _;refine i_ (n:=24) (vs:=[.agg #[ZI f.Labels,ZI f.Degree,G,H],ZI i]) Tryz.func96 rfl rfl ?_;refine Zq (Zo ?_);refine as_ (o:=(col (λ_=>1))) w.heap.size 11 hB.keeps.size (cs:=[ZI f.Labels,ZI f.Degree,G,H]) rfl rfl ?_;intro b7 d7 j u b8;replace hB:=hB.stp b8;refine Za rfl (Ze [(1,_),(2,_)] (Zn (Za rfl (Ze [(1,_),(2,_),(5,_)] (nx (c_ (Zq (Zv (m_ rfl Tryz.underlying28 rfl wS_) (Zv (e_ rfl wT_ (u.cell rfl)) (Zm rfl (Ze [(1,_),(2,_),(5,_),(8,_),(9,_)] (nx ?_))))))))))));obtain⟨b9,S,hF⟩:=a_ hF;obtain⟨-,h15a,h15b⟩:=bV_ S;obtain⟨I,J,hF⟩:=a_ hF;refine v_ (λa m=>∃(d:Int),∃(k:Tg),I=.inl d∧Fr a 24 [(5,ZI d)]∧Bs (λ_=>1) k w m) (λ_ _=>False) ?_ ?_ ?_
 ·refine f_ ?_;refine w_ (λ(K:Nat) a m=>∃(b:Int)(d:Int),∃(k:Tg),forN (fw_ fuel f i) (f.Labels-b).toNat b d=some I∧(f.Labels-b).toNat=K∧0<=b∧Fr a 24 [(1,ZI i),(2,ZP j),(5,ZI d),(8,ZI f.Labels),(9,ZI b)]∧Bs (λ_=>1) k w m∧Bz w 11 k m j 28 [ZI f.Labels,ZI f.Degree,G,H]) _ (λa ha=>⟨0,0,b7,(by rw[Int.sub_zero];exact J),rfl,Int.le_refl 0,ha.sb,hB,u⟩) ?_;rintro K20 a m ⟨b,d,k,L,M,c0,ha,hB,u⟩;by_cases y:b<f.Labels
  ·obtain⟨c1,g,N⟩:=bv_ y L;dsimp only[fw_] at g;refine J_ ha ?_;refine Zq (Zv (r_ rfl rfl) (Ze [(1,_),(2,_),(5,_),(8,_),(9,_),(10,_)] (nx (c_ ?_))));refine L_ (Zb (decide_eq_true y)) ?_;refine g_ (nx (c_ (f_ (Zq (Zm rfl (Za rfl (Ze [(1,_),(2,_),(5,_),(6,_),(8,_),(9,_)] (nx (c_ ?_)))))))));obtain⟨A,O,g⟩:=a_ g;refine ZW (Bf:=λb2 b3=>Bs (λ_=>1) b2 w b3∧Bz w 11 b2 b3 j 28 [ZI f.Labels,ZI f.Degree,G,H]) [(1,_),(2,_),(5,_),(6,_),(8,_),(9,_)] (Zrg 12 5) [[],[],[1],[],[3]] (Zcn 5) (Zt9 5) [0,0,12,0,0] [999] [.inl (.agg #[ZI f.Labels,ZI f.Degree,G,H]),.inl (ZI i),.inr (λv o T=>Oz w 3 12 o T v A),.inl (ZI b),.inr (λv o T=>RdL o T v (([b]:Yl):Yl))] ⟨hB,u⟩ ⟨λ_ _ _ _ _ _ U hb h hs=>h.stp hs U.1 (Ne.symm hb),λ_ _ _ _ _ _ U hb h hs=>h.stp hs U.1,trivial⟩ ?_ ?_
   ·refine⟨Dq λh=>E_ rfl wX_ wU_ rfl h.2.cells,Dp (h_ rfl),?_,Dp (h_ rfl),?_,trivial⟩
    ·rintro V W c2 ha ⟨hB,u⟩-;refine Zs ha ?_;refine o_ (kS_ fuel W V 12 (by decide) i A O) zR_ ⟨rfl,trivial⟩ ?_;rintro c3 c4 ⟨c5,c6,rfl,D,X,Y⟩;have Z:=X.stp' 999 Y;replace D:=D.mono hB.keeps.size;refine⟨_,rfl,?_⟩;exact⟨_,Z,D⟩
    ·rintro a0 c7 c8 ha ⟨hB,u⟩-;refine Zs ha ?_;refine au_ (o:=a0) (cs:=[ZI b]) (xs:=([b]:Yl)) (vs:=[(0,ZI b)]) ⟨_,_,rfl,rfl,rfl⟩ rfl ⟨rfl,rfl,trivial⟩ wR_ wS_ xd_ (by decide) (fill1 rfl) (by simp) ?_;intro c9 d0 d1 a1 a2 d2;exact⟨_,a2,a1⟩
   rintro _ rfl x E B ha ⟨hB,u⟩ ⟨q,s,-⟩;replace q:Oz w 3 12 x E (B.tmps.getD 14 undef) A:=q;generalize a3:B.tmps.getD 14 undef=d3 at q;have ha:=ha.c a3;replace s:RdL x E (B.tmps.getD 16 undef) (([b]:Yl):Yl):=s;generalize a4:B.tmps.getD 16 undef=d4 at s;have ha:=ha.c a4;refine aH_ ha ?_;obtain⟨P,Q,g⟩:=a_ g;refine Zo ?_;refine o_ (mK_ fuel E _ f (⟨_,_,rfl,b5.keep hB.keeps,b6.keep hB.keeps⟩) _ A q.z _ ([b]:Yl) s.z P Q) Tryz.call69 ⟨rfl,rfl,rfl,trivial⟩ ?_;rintro d5 d6 ⟨rfl,a5⟩;have a6:=a5.stp 999 x;refine⟨_,rfl,?_⟩;obtain⟨q,s,u,hB⟩:=ZS a6 (A4 q s u hB);refine Ze [(1,_),(2,_),(5,_),(6,_),(8,_),(9,_),(17,_)] (nx ?_);refine l_ rfl (λF=>?_) (λF=>?_)
   ·rw[if_pos F] at g;refine d_ (Zm rfl (Zm rfl ?_));obtain⟨C,R,g⟩:=a_ g;refine Zv (gL_ rfl rfl R) (Zv (wk_ rfl rfl) (Za rfl (Ze [(1,ZI i),(2,ZP j),(5,ZI (bor d C)),(8,ZI f.Labels),(9,ZI b)] (x_ (nx (d_ (Zv (C_ rfl rfl (F_ (by omega) (by omega))) (Zm rfl (Ze [(1,_),(2,_),(5,_),(8,_),(9,_)] (u_ ?_))))))))));have a7:=Zj g;subst a7;refine Zk [(1,_),(2,_),(5,_),(8,_),(9,_)] ?_;intro a ha;exact⟨_,(by rw[<-M];omega),b+1,bor d C,x,N,rfl,by omega,ha,hB,u⟩
   ·replace g:=ZF F g;refine g_ (x_ (nx (d_ (Zv (C_ rfl rfl (F_ (by omega) (by omega))) (Zm rfl (Ze [(1,_),(2,_),(5,_),(8,_),(9,_)] (u_ ?_)))))));have a8:=Zj g;subst a8;refine Zk [(1,_),(2,_),(5,_),(8,_),(9,_)] ?_;intro a ha;exact⟨_,(by rw[<-M];omega),b+1,d,x,N,rfl,by omega,ha,hB,u⟩
  ·have a9:=bu_ y L;refine J_ ha ?_;refine Zq (Zv (r_ rfl rfl) (Ze [(1,_),(2,_),(5,_),(8,_),(9,_),(10,_)] (nx (c_ ?_))));refine G_ (Zb (decide_eq_false y)) ?_;refine s_ ?_;refine n_ (n_ (N_ ?_));refine p_ ?_;refine Zk [(5,_)] ?_;intro a ha;exact⟨d,k,a9,ha,hB⟩
 ·rintro a m ⟨d,k,rfl,ha,hB⟩;dsimp only at hF;refine ap_k ha ?_;refine Zn (Zm rfl (Za rfl (Ze [(4,_)] (nx (j_ ?_)))));have b0:=Zj hF;subst b0;refine Zr Tryz.results96 [ZI d] ?_;exact⟨rfl,hB.keeps⟩
 ·exact λ_ _ h=>h.elim
def dK_(fuel:Nat)(f:List Int):Int->Int->(List (List Int))->Option (Lp (List (List Int)) (List (List Int)) (List (List Int))):=λ(g:Int)(a:Int)(s:List (List Int))=>
  (ix f a)>>=λb=>
  (ec_ fuel b)>>=λc=>
  (push s c)>>=λd=>
  some (.go d)
def fJ_(fuel:Nat)(b:List Int)(c:List Int):Option (List (List Int)):=
  (forI (dK_ fuel b) c 0 [])>>=λa=>
  match a with
  | .inl d=>
    some d
  | .inr _=>none
def rR_(oo:Tg)(t:Nat)(w:World)(r:Yk):Ending->World->Prop:=λe w'=>∃(a:Value)(c:List Hv)(o':Tg),e=.returned (a)∧Ow w.heap.size 41 t o' w' a c∧Rws w.heap.size 3 (t+1) o' w' c r∧Keeps w w'∧∀b,b<w.heap.size->o' b=oo b
theorem mB_(fuel:Nat)(w:World)(oo:Tg)(t:Nat)(ht:2<=t)(g:Value)(M:Yl)(b2:RdL zt w g M)(i:Value)(f:Yl)(N:RdL zt w i f)(r:Yk)(hF:fJ_ fuel M f=some r):
    Calls wQ_ 101 #[g,i] w (rR_ oo t w r):=by
 unfold fJ_ at hF;have hB:Bs oo (col oo) w w:=Bs.start _ _;refine i_ (n:=24) (vs:=[g,i]) Tryz.func101 rfl rfl ?_;generalize col oo=o at*;refine Zq (Za rfl (Ze [(0,_),(1,_)] (Zn (Za rfl (Ze [(0,_),(1,_),(5,_)] (nx (c_ (Zq (Zm rfl (Zv (B_ rfl N wR_) (Zm rfl (Ze [(0,_),(5,_),(8,_),(9,_),(10,_)] ?_))))))))))));refine nx ?_;have b3:Oz w 41 11 o w (.slice none 0 0) ([]:List Hv):=Ow.nil _ _ _ _ _;have b4:Rq w 3 12 o w [] ([]:Yk):=Rws.nil _ _ _ _ _;obtain⟨B,C,hF⟩:=a_ hF;refine v_ (λa s=>∃y j u k,B=.inl y∧Fr a 24 [(5,j)]∧Bs oo k w s∧Oz w 41 11 k s j u∧Rq w 3 12 k s u y) (λ_ _=>False) ?_ ?_ ?_
 ·refine f_ ?_;refine w_ (λ(K:Nat) a s=>∃(b:Int),∃y j u k,forI (dK_ fuel M) (f.drop b.toNat) b y=some B∧(f.drop b.toNat).length=K∧0<=b∧Fr a 24 [(0,g),(5,j),(8,i),(9,ZI (f.length:Int)),(10,ZI b)]∧Bs oo k w s∧Oz w 41 11 k s j u∧Rq w 3 12 k s u y) _ (λa ha=>⟨0,[],.slice none 0 0,[],o,C,rfl,Int.le_refl 0,ha.sb,hB,b3,b4⟩) ?_;rintro K15 a s ⟨b,y,j,u,k,D,O,P,ha,hB,z,m⟩;by_cases v:b<(f.length:Int)
  ·obtain⟨Q,b5,E,d,R⟩:=R_ P v D;have hle:=N.len_le;dsimp only[dK_] at d;refine J_ ha ?_;refine Zq (Zv (r_ rfl rfl) (Ze [(0,_),(5,_),(8,_),(9,_),(10,_),(11,_)] (nx (c_ ?_))));refine L_ (Zb (decide_eq_true v)) ?_;refine g_ (nx (c_ (f_ (Zq (Zo ?_)))));refine wf_atZ N E hB rfl rfl wR_ wS_ ?_;intro b6 b7 b8 S T;cases T
   refine Zv (e_ rfl wT_ (k_ S)) (Za rfl (Ze [(0,_),(5,_),(7,_),(8,_),(9,_),(10,_)] (nx (d_ (Zm rfl (Zm rfl (Zm rfl ?_)))))));obtain⟨U,F,d⟩:=a_ d;refine Zo ?_;refine wf_atZ b2 F hB rfl rfl wR_ wS_ ?_;intro b9 c0 c1 V W;cases W
   refine Zv (e_ rfl wT_ (k_ V)) ?_;obtain⟨X,G,d⟩:=a_ d;refine Zo ?_;refine o_ (kS_ fuel s k 13 (by decide) U X G) zR_ ⟨rfl,trivial⟩ ?_;rintro c2 c3 ⟨q,Y,rfl,c,Z,a0⟩;have a1:=Z.stp' 13 a0;replace c:=c.mono hB.keeps.size;refine⟨_,rfl,?_⟩;obtain⟨z,m,hB⟩:=ZS a1 (A3 z m hB);refine Zo ?_;refine au_ (o:=Y) (cs:=[q]) (xs:=([⟨q⟩]:List Hv)) (vs:=[(0,q)]) ⟨_,_,rfl,iG_ c,rfl⟩ rfl ⟨rfl,rfl,trivial⟩ wV_ wY_ Tryz.zeroValue41 (by decide) (fill1 c.cells1) (by simp) ?_;intro c4 c5 c6 a2 a3 c7;obtain⟨z,m,c,hB⟩:=ZS a3 (A4 z m c hB);obtain⟨a4,H,d⟩:=a_ d;obtain⟨a5,a6⟩:=m.pushV H q;refine Zo ?_;refine aT_ z a2 (ai_ a5) (by decide) hB.keeps.size rfl rfl wV_ lG_ rfl (by decide) ?_;intro I c8 x A a7;obtain⟨m,c,hB⟩:=ZS a7 (A3 m c hB);have J:=m.push c (by decide) (by decide);rw[<-a6] at J;clear m c;have L:=eO_ 13 12 I;replace A:=A.rc L (by decide) (by decide);replace hB:=hB.rc L (by decide);generalize mrg 13 12 I=a8 at*;refine Za rfl (Ze [(0,g),(5,x),(8,i),(9,ZI (f.length:Int)),(10,ZI b)] (x_ (nx (d_ (Zv (C_ rfl rfl (F_ (by omega) (by omega))) (Zm rfl (Ze [(0,_),(5,_),(8,_),(9,_),(10,_)] (u_ ?_))))))));have a9:=Zj d;subst a9;refine Zk [(0,_),(5,_),(8,_),(9,_),(10,_)] ?_;intro a ha;exact⟨_,(by rw[<-O];simp only[List.length_drop];omega),b+1,a4,x,u++[⟨q⟩],a8,R,rfl,by omega,ha,hB,A,J⟩
  ·have b0:=S_ v D;refine J_ ha ?_;refine Zq (Zv (r_ rfl rfl) (Ze [(0,_),(5,_),(8,_),(9,_),(10,_),(11,_)] (nx (c_ ?_))));refine G_ (Zb (decide_eq_false v)) ?_;refine s_ ?_;refine n_ (n_ (N_ ?_));refine p_ ?_;refine Zk [(5,_)] ?_;intro a ha;exact⟨y,j,u,k,b0,ha,hB,z,m⟩
 ·rintro a s ⟨y,j,u,k,rfl,ha,hB,z,m⟩;dsimp only at hF;refine ap_k ha ?_;refine Zn (Zm rfl (Za rfl (Ze [(4,_)] (nx (j_ ?_)))));have b1:=Zj hF;subst b1;refine Zr Tryz.results101 [j] ?_;exact⟨_,u,rt2 oo k w.heap.size 11 12 t,rfl,z.rt2 hB (by decide) (by decide) t,m.rt2 hB (by decide) (by decide) (by decide) t,hB.keeps,fA_ _ _ _ _ _ _⟩
 ·exact λ_ _ h=>h.elim
def ct_(fuel:Nat)(b:List Int)(c:b_)(d:List Int):Option Bool:=
  (fJ_ fuel d b)>>=λf=>
  (cz_ fuel c f)>>=λa=>
  some a.2
def mO_(w:World)(r:Bool):Ending->World->Prop:=λe w'=>e=.returned (.bool r)∧Keeps w w'
theorem mP_(fuel:Nat)(w:World)(C:Value)(P:Yl)(c8:RdL zt w C P)(D:Nat)(c0:List Value)(N:b_)(c9:Cells w D 0 c0)(c1:Rp.rd zt w c0 N)(E:Nat)(c2:List Value)(F:Yl)(d0:Cells w E 0 c2)(c3:Rp.rd zt w c2 F)(r:Bool)(hF:ct_ fuel P N F=some r):
    Calls wQ_ 99 #[C,.pointer (some ⟨D,0,none⟩),.pointer (some ⟨E,0,none⟩)] w (mO_ w r):=by
 unfold ct_ at hF;have g1k:=c1;obtain⟨h3,h4,rfl,Q,d1⟩:=c1;have g2k:=c3;obtain⟨h5,rfl,d2⟩:=c3;have hB:Bs (λ_=>1) (col (λ_=>1)) w w:=Bs.start _ _;refine i_ (n:=16) (vs:=[C,ZP D,ZP E]) Tryz.func99 rfl rfl ?_;refine Zq (Za rfl (Ze [(0,_),(1,_),(2,_)] (nx (c_ ?_))));obtain⟨O,R,hF⟩:=a_ hF;obtain⟨a,G,hF⟩:=a_ hF;refine gv_ (o:=(col (λ_=>1))) [(0,C),(1,ZP D),(2,ZP E)] [0,1,2] [8,9,10,11,12,7,13,14,5] [[],[],[],[1,2],[0,3],[4],[5],[5],[6]] [none,none,none,none,none,none,none,none,none] [999,999,999,999,999,999,999,999,999] [0,0,0,0,13,13,13,0,13] [999] [λv o f=>∃(c:List Value),v=.agg c.toArray∧Rp.rd zt w c N,λv o f=>RdL zt w v F,λv _ _=>v=C,λv o f=>∃g:List Hv,Oz w 41 2022 o f v g∧Rq w 3 2023 o f g O,λv o f=>∃i,v=.tuple #[i,.bool a.2]∧Oz w 3 13 o f i (a.1:Yl),λv o f=>∃i,v=.tuple #[i,.bool a.2]∧Oz w 3 13 o f i (a.1:Yl),λv o f=>Oz w 3 13 o f v (a.1:Yl),λv _ _=>v=(.bool a.2),λv o f=>Oz w 3 13 o f v (a.1:Yl)] (λd3 d4=>Bs (λ_=>1) d3 w d4) cu_ (by kernel_rfl) rfl ⟨rfl,rfl,rfl,trivial⟩ hB ?_ ⟨λ_ _ _ _ _ _ b hb ⟨c,e,h⟩ hs=>⟨c,e,h⟩,λ_ _ _ _ _ _ b hb h hs=>h,dQ_ _,λ_ _ _ _ _ _ b hb ⟨g,h,Q⟩ hs=>⟨g,h.stp hs b.1 (Nat.ne_of_gt (Nat.lt_of_le_of_lt b.2 (by decide))),Q.stp hs b.1 (Nat.ne_of_gt (Nat.lt_of_le_of_lt b.2 (by decide)))⟩,λ_ _ _ _ _ _ b hb ⟨i,e,q⟩ hs=>⟨i,e,q.stp hs b.1 (Ne.symm hb)⟩,λ_ _ _ _ _ _ b hb ⟨i,e,q⟩ hs=>⟨i,e,q.stp hs b.1 (Ne.symm hb)⟩,λ_ _ _ _ _ _ b hb h hs=>h.stp hs b.1 (Ne.symm hb),dQ_ _,λ_ _ _ _ _ _ b hb h hs=>h.stp hs b.1 (Ne.symm hb),trivial⟩ ?_ ?_
 ·rintro d5 h6 h7 h8 h9 s hB S;have s:d5=999:=by simpa using s
  subst s;all_goals exact hB.stp S (by decide)
 ·refine⟨?_,?_,?_,?_,?_,?_,?_,?_,?_,trivial⟩
  ·rintro d6 d7 d8 ha hB-;refine Zs ha ?_;refine M_ (E_ rfl wX_ wU_ rfl (c9.keep hB.keeps)) ?_;exact⟨_,Stp.refl _ _ _,⟨_,rfl,⟨_,_,rfl,Q,d1⟩⟩⟩
  ·rintro d9 e0 e1 ha hB-;refine Zs ha ?_;refine M_ (e_ rfl xa_ (k_ (d0.keep hB.keeps))) ?_;exact⟨_,Stp.refl _ _ _,d2⟩
  ·rintro e2 e3 e4 ha hB-;refine Zs ha ?_;refine M_ (h_ rfl) ?_;exact Zx rfl
  ·rintro T U H ha hB ⟨j,V,-⟩;replace j:RdL zt w (H.tmps.getD 9 undef) F:=j;generalize W:H.tmps.getD 9 undef=e5 at j;have ha:=ha.c W;have ha:=ha.c V;refine Zs ha ?_;refine o_ (mB_ fuel U T 2022 (by decide) _ F (j.keep hB.keeps) _ P (c8.keep hB.keeps) O R) Tryz.call101 ⟨rfl,rfl,trivial⟩ ?_;rintro e6 e7 ⟨e8,e9,f0,rfl,u,x,X,Y⟩;have Z:=X.stp' 999 Y;replace u:=u.mono hB.keeps.size;replace x:=x.mono hB.keeps.size;refine⟨_,rfl,?_⟩;exact⟨_,Z,⟨_,u,x⟩⟩
  ·rintro y A I ha hB ⟨a0,k,-⟩;obtain⟨f1,a1,a2⟩:=a0;obtain⟨f2,f3,rfl,a3,a4⟩:=a2;have ha:=ha.c a1;replace k:∃g:List Hv,Oz w 41 2022 y A (I.tmps.getD 11 undef) g∧Rq w 3 2023 y A g O:=k;generalize a5:I.tmps.getD 11 undef=f4 at k;obtain⟨f5,a6,a7⟩:=k;have ha:=ha.c a5;refine Zs ha ?_;refine o_ (hK_ fuel A y 13 (by decide) _ N (⟨_,_,rfl,a3.keep hB.keeps,a4.keep hB.keeps⟩) _ O (a7.z a6) a G) Tryz.call100 ⟨rfl,rfl,trivial⟩ ?_;rintro f6 f7 ⟨f8,f9,rfl,B,a8,a9⟩;have b0:=a8.stp' 999 a9;replace B:=B.mono hB.keeps.size;refine⟨_,rfl,?_⟩;exact⟨_,b0,⟨_,rfl,B⟩⟩
  ·rintro g0 g1 g2 ha hB ⟨b1,-⟩;obtain⟨g3,b2,b3⟩:=b1;have ha:=ha.c b2;refine Zs ha ?_;refine M_ (h_ rfl) ?_;exact⟨_,Stp.refl _ _ _,⟨_,rfl,b3⟩⟩
  ·rintro g4 g5 g6 ha hB ⟨b4,-⟩;obtain⟨g7,b5,b6⟩:=b4;have ha:=ha.c b5;refine Zs ha ?_;refine M_ (t_ rfl rfl) ?_;exact⟨_,Stp.refl _ _ _,b6⟩
  ·rintro g8 g9 h0 ha hB ⟨b7,-⟩;obtain⟨h1,b8,h2⟩:=b7;have ha:=ha.c b8;refine Zs ha ?_;refine M_ (t_ rfl rfl) ?_;exact Zx rfl
  ·rintro b9 J m ha hB ⟨d,-⟩;replace d:Oz w 3 13 b9 J (m.tmps.getD 13 undef) (a.1:Yl):=d;generalize K:m.tmps.getD 13 undef=c4 at d;have ha:=ha.c K;refine Zs ha ?_;refine M_ (ao_ rfl) ?_;exact⟨_,Stp.refl _ _ _,d⟩
 rintro c5 c6 c7 ha hB ⟨-,-,-,-,-,-,-,L,-,-⟩;have ha:=ha.c L;refine aH_ ha ?_;simp only[List.length_cons,List.length_nil,Nat.zero_add,Nat.reduceAdd,List.drop_succ_cons,List.drop_zero];refine Za rfl (Ze [(6,_)] (Zn (Zm rfl (Za rfl (Ze [(4,_)] (nx (j_ ?_)))))));have M:=Zj hF;subst M;refine Zr Tryz.results99 [.bool a.2] ?_;exact⟨rfl,hB.keeps⟩
end
end Go.Proofs.YtdbbeldgdgonfaaGreat
