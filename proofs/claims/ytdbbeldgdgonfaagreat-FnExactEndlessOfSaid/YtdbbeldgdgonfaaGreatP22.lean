/- Part 22 of what this claim rests on (Gro, GIx, Kpw, GDef, Ifl, Del), packed by pack.py. -/
import Derived.Test.YtdbbeldgdgonfaaGreatP03
import Derived.Test.YtdbbeldgdgonfaaGreatP04
import Derived.Test.YtdbbeldgdgonfaaGreatP05
import Derived.Test.YtdbbeldgdgonfaaGreatP06
import Derived.Test.YtdbbeldgdgonfaaGreatP12
import Derived.Test.YtdbbeldgdgonfaaGreatP13
namespace Go.Proofs.YtdbbeldgdgonfaaGreat
open Tryz renaming prog→tX_, underlying22→ub_, sizeOf41→uf_, isAgg41→ug_, results180→wp_, results145→wq_
set_option linter.unusedSimpArgs false
set_option linter.unusedVariables false
section
set_option maxRecDepth 100000
set_option maxHeartbeats 2000000
open Go.RowKit Go.Sort Go.Shelf
def growO(n:Int):Option (List Int):=if 0<=n∧n<=1000000000 then some [] else none
theorem pr_(w:World)(oo:Tg)(t:Nat)(n:Int)(r:Yl)(hF:growO n=some r):
    Calls tX_ 173 #[.slice none 0 0,.int .i64 n] w (λe w'=>∃v o',e=.returned v∧Ow w.heap.size 3 t o' w' v r∧Keeps w w'∧∀b,b<w.heap.size->o' b=oo b):=by
 unfold growO at hF;split at hF;rotate_left
 ·cases hF
 rename_i hl;cases hF
 obtain⟨n,rfl⟩:∃m:Nat,n=m:=⟨n.toNat,by omega⟩;by_cases j:n=0
 ·subst j;refine (Any8.slices_Grow_room Tryz.laysGrow none 0 0 0 w (by omega) (by omega) (by omega) (by omega)).mono ?_;rintro e w' ⟨rfl,rfl⟩;exact⟨_,oo,rfl,⟨[],rfl,World.ownsRow_nil _ _ _ _,λg' hg=>by simp[Value.ownBlock] at hg,by simp⟩,Keeps.refl _,λ_ _=>rfl⟩
 ·obtain⟨c,d,f,g,i⟩:=info_parts (show Inf tX_ 3 (ZI 0) 1 8 by unfold Inf;kernel_rfl);have hsz:c.size=1:=g;have hby:c.bytes=8:=i;refine (Any8.slices_Grow_grow Tryz.laysGrow c (ZI 0) d f (by omega) none 0 0 n [] w (by omega) (by omega) (by rw[hby];omega) (by omega) (by simp) (λ_=>rfl) (by intro a h;cases h)).mono ?_;rintro e w' ⟨rfl,rfl⟩;have hG:=grownCap_ge w (0+n) 0 3;have hM:=grownCap_le_maxLen w (0+n) 0 3 (by unfold maxLen;omega);have hs:Stp t oo w (ext oo w.heap.size t) (w.drew.alloc (.cells (([]:List Value).toArray++Builtin.zeroCells (Value.int .i64 0).cells (0+n-0)++Builtin.zeroCells (Value.int .i64 0).cells (grownCap w (0+n) 0 3-(0+n))) 3)):=(il_ oo w t).trans (gn_ oo w.drew _ _ t);refine⟨_,ext oo w.heap.size t,rfl,⟨[],rfl,World.ownsRow_made w.drew _ _ (Nat.le_refl _) hM ?_,λg' hg=>?_,by simp⟩,?_,λb hb=>?_⟩
  ·simp only[Nat.zero_add] at hG;have k:(Value.int IntKind.i64 0).cells.size=1:=rfl;rw[Array.size_append,Array.size_append,size_zeroCells,size_zeroCells,k];simp only[Nat.zero_add,List.size_toArray,List.length_nil,Nat.mul_one,Nat.sub_zero,Rp.sz];exact Nat.add_sub_cancel' hG
  ·simp[Value.ownBlock] at hg;subst hg;exact iA_ _ _ _ _ (Nat.le_refl _)
  ·exact(Keeps.refl w).drew.alloc _
  ·exact jQ_ _ _ _ _ hb
end
section
set_option maxRecDepth 100000
set_option maxHeartbeats 2000000
open Go.RowKit
def aG_(d:List (List Int))(f:(List Int)->Option Bool):Int->Unit->Option (Lp Unit Unit Int):=λ(c:Int)(s:Unit)=>
  (ix d c)>>=λa=>
  (f a)>>=λb=>
  if b then
    some (.ret c)
  else
    some (.go ())
def aE_(a:List (List Int))(b:(List Int)->Option Bool):Option Int:=
  ck (a.length:Int)>>=λ_=>
  (forN (aG_ a b) ((a.length:Int)).toNat 0 ())>>=λc=>
  match c with
  | .inl _=>
    some (-1)
  | .inr r'=>some r'
def cU_(w:World)(r:Int):Ending->World->Prop:=λe w'=>e=.returned (.int .i64 r)∧Keeps w w'
theorem eL_(w:World)(f:Value)(d:Yk)(Q:RdL zt w f d)(g:Value)(v:Yl->Option Bool)(S:FnV tX_ w g v)(r:Int)(hF:aE_ d v=some r):
    Calls tX_ 180 #[f,g] w (cU_ w r):=by
 unfold aE_ at hF;have hB:Bs (λ_=>1) (col (λ_=>1)) w w:=Bs.start _ _;refine j_ (n:=19) (vs:=[f,g]) Tryz.func180 rfl rfl ?_;refine Zq (Za rfl (Ze [(0,_),(1,_)] (nx (b_ (Zq (Zm rfl (Zv (J_ rfl Q ub_) (Zm rfl (Ze [(0,_),(1,_),(7,_),(8,_)] (nx ?_))))))))));obtain⟨a0,T,hF⟩:=a_ hF;obtain⟨-,h5a,h5b⟩:=cr_ T;obtain⟨y,z,hF⟩:=a_ hF;refine A_ (λa m=>∃(j:Tg),y=.inl ()∧Fr a 19 []∧Bs (λ_=>1) j w m) (λa w'=>∃r',y=.inr r'∧bodyPost tX_ Tryz.f180 (cU_ w r') .ret a w') ?_ ?_ ?_
 ·refine f_ ?_;refine z_ (λ(K:Nat) a m=>∃(b:Int)(j:Tg),forN (aG_ d v) ((d.length:Int)-b).toNat b ()=some y∧((d.length:Int)-b).toNat=K∧0<=b∧Fr a 19 [(0,f),(1,g),(7,ZI (d.length:Int)),(8,ZI b)]∧Bs (λ_=>1) j w m) _ (λa ha=>⟨0,col (λ_=>1),(by rw[Int.sub_zero];exact z),rfl,Int.le_refl 0,ha.sb,hB⟩) ?_;rintro K10 a m ⟨b,j,R,U,a1,ha,hB⟩;by_cases i:b<(d.length:Int)
  ·obtain⟨V,c,q⟩:=bz_ i R;dsimp only[aG_] at c;refine O_ ha ?_;refine Zq (Zv (u_ rfl rfl) (Ze [(0,_),(1,_),(7,_),(8,_),(9,_)] (nx (b_ ?_))));refine M_ (Zb (decide_eq_true i)) ?_;refine h_ (nx (b_ (f_ (Zq (Zm rfl (Za rfl (Ze [(0,_),(1,_),(5,_),(7,_),(8,_)] (Zn (Zm rfl (Zm rfl (Zm rfl ?_)))))))))));obtain⟨A,s,c⟩:=a_ c;refine Zo ?_;refine wf_atZ Q s hB rfl rfl ub_ uf_ ?_;intro W X Y B C;obtain⟨D,rfl,E⟩:=C;refine Zv (e_ rfl ug_ (i_ B)) ?_;obtain⟨F,u,c⟩:=a_ c;refine Zo ?_;refine gl_ (x:=A) (vs:=[D]) (S.keep hB.keeps) u ⟨_,rfl,E.keep hB.keeps⟩ rfl ⟨rfl,trivial⟩ ?_;intro Z G;have H:=G.stp 999 j;replace hB:=hB.stp H;refine Ze [(0,_),(1,_),(5,_),(7,_),(8,_),(16,_)] (nx ?_);refine p_ rfl (λk=>?_) (λk=>?_)
   ·rw[if_pos k] at c;refine Zq (Zm rfl (Za rfl (Ze [(4,_)] (nx (n_ (aq_ (I_ (I_ (aq_ ?_)))))))));refine cK_ ?_;have I:=Zj c;subst I;refine λa ha=>⟨_,q,?_⟩;refine N_ (P:=tX_) (vs:=[ZI b]) wp_ ⟨rfl,trivial⟩ ?_ a ha;exact⟨rfl,hB.keeps⟩
   ·replace c:=ZF k c;refine h_ (y_ (nx (d_ (Zv (C_ rfl rfl (F_ (by omega) (by omega))) (Zm rfl (Ze [(0,_),(1,_),(7,_),(8,_)] (x_ ?_)))))));have J:=Zj c;subst J;refine Zk [(0,_),(1,_),(7,_),(8,_)] ?_;intro a ha;exact⟨_,(by rw[<-U];omega),b+1,j,q,rfl,by omega,ha,hB⟩
  ·have L:=bx_ i R;refine O_ ha ?_;refine Zq (Zv (u_ rfl rfl) (Ze [(0,_),(1,_),(7,_),(8,_),(9,_)] (nx (b_ ?_))));refine D_ (Zb (decide_eq_false i)) ?_;refine w_ ?_;refine m_ (m_ (Q_ ?_));refine s_ ?_;refine Zk [] ?_;intro a ha;exact⟨j,L,ha,hB⟩
 ·rintro a m ⟨j,rfl,ha,hB⟩;dsimp only at hF;refine ap_k ha ?_;refine Zn (Za rfl (Ze [(4,_)] (nx (n_ ?_))));have M:=Zj hF;subst M;refine Zr wp_ [ZI (-1)] ?_;exact⟨rfl,hB.keeps⟩
 ·rintro a m ⟨r',rfl,N⟩;dsimp only at hF;have O:=Zj hF;subst O;exact N
end
section
open Go.RowKit
theorem RdL.mapx{o:Tg}{w:World}{v:Value}{xs:List Pv}(h:RdL o w v xs):RdL o w v (xs.map λq=>q.x):=by
 obtain⟨a,c,e,h1,h2,h4⟩:=h;refine⟨a,c,by rw[e,List.length_map],by rw[List.length_map];exact h1,h2,λi x hi=>?_⟩;rw[List.getElem?_map] at hi;obtain⟨q,hq,rfl⟩:=Option.map_eq_some_iff.1 hi;obtain⟨b,off,cs,r1,r2,r3,r4,r5⟩:=h4 i q hq;obtain⟨rfl,s1,s2⟩:=r5;exact⟨b,off,[q.v],r1,r2,r3,r4,_,rfl,s2⟩
theorem tP_{B k:Nat}{e:TypeId}{o:Tg}{w:World}{v:Value}{xs:List Pv}(h:Ow B e k o w v xs):RdL zt w v (xs.map λq=>q.x):=RdL.mapx h.z
end
section
set_option maxRecDepth 100000
set_option maxHeartbeats 2000000
open Go.RowKit
def K_(i:(List Int)->Option Bool):((List Pv)×Int×Int)->Option (Lp ((List Pv)×Int×Int) ((List Pv)×Int×Int) (List Pv)):=λ(s:(List Pv)×Int×Int)=>
  if decide (s.2.2<(s.1.length:Int)) then
    (ix s.1 s.2.2)>>=λa=>
    (i a.x)>>=λb=>
    if !b then
      (ix s.1 s.2.1)>>=λj=>
      (st s.1 s.2.1 a)>>=λc=>
      (ck (s.2.1+1))>>=λd=>
      (ck (s.2.2+1))>>=λf=>
      some (.go (c,d,f))
    else
      (ck (s.2.2+1))>>=λg=>
      some (.go (s.1,s.2.1,g))
  else
    some (.out (s.1,s.2.1,s.2.2))
def aX_(fuel:Nat)(c:List Pv)(i:(List Int)->Option Bool):Option (List Pv):=
  (aE_ (c.map λq=>q.x) i)>>=λd=>
  if d==(-1) then
    some c
  else
    (ck (d+1))>>=λj=>
    (loopF (K_ i) fuel (c,d,j))>>=λf=>
    match f with
    | .inl (a,b,k)=>
      (cut a b a.length)>>=λm=>
      (cut a b a.length)>>=λn=>
      (cut a 0 b)>>=λg=>
      some g
    | .inr _=>none
def eC_(oo o:Tg)(w b:World)(r:List Pv):Ending->World->Prop:=λe w'=>∃(a:Value)(o':Tg),e=.returned a∧Ow w.heap.size 41 10 o' w' a r∧Bs oo o' w w'∧Stp 10 o b o' w'
theorem ev_(fuel:Nat)(w y:World)(oo o:Tg)(hB:Bs oo o w y)(hO:∀b,b<y.heap.size->o b≠999)(g:Value)(a0:List Pv)(L:Ow w.heap.size 41 10 o y g a0)(s:Value)(a1:Yl->Option Bool)(c1:FnV tX_ w s a1)(r:List Pv)(hF:aX_ fuel a0 a1=some r):
    Calls tX_ 145 #[g,s] y (eC_ oo o w y r):=by
 unfold aX_ at hF;have hS:Stp 10 o y o y:=Stp.refl _ _ _;refine j_ (n:=42) (vs:=[g,s]) Tryz.func145 rfl rfl ?_;refine Zq (Za rfl (Ze [(0,_),(1,_)] (Zn (Zm rfl (Zm rfl ?_)))));obtain⟨D,a2,hF⟩:=a_ hF;refine Zo ?_;refine o_ (eL_ y _ (a0.map λq=>q.x) (tP_ L) _ a1 (c1.keep hB.keeps) D a2) Tryz.call180 ⟨rfl,rfl,trivial⟩ ?_;rintro e1 e2 ⟨rfl,c2⟩;have a3:=c2.stp 999 o;refine⟨_,rfl,?_⟩;replace hS:=hS.tr9 hO a3;replace L:=L.stp a3;replace hB:=hB.stp a3;refine Za rfl (Ze [(0,_),(1,_),(5,_)] (nx (b_ (Zq (Zm rfl (Zv (cD_ rfl rfl) (Ze [(0,_),(1,_),(5,_),(12,_)] (nx ?_))))))));refine p_ rfl (λa4=>?_) (λa4=>?_)
 ·rw[if_pos a4] at hF;refine Zq (Zm rfl (Za rfl (Ze [(4,_)] (nx (n_ (I_ ?_))))));have c3:=Zj hF;subst c3;refine Zr wq_ [g] ?_;exact⟨_,o,rfl,L,hB,hS⟩
 ·replace hF:=ZF a4 hF;refine h_ (nx (b_ (Zq (Zm rfl ?_))));obtain⟨a5,a6,hF⟩:=a_ hF;refine Zv (C_ rfl rfl a6) (Za rfl (Ze [(0,_),(1,_),(5,_),(6,_)] (nx ?_)));obtain⟨M,N,hF⟩:=a_ hF;refine A_ (λa m=>∃(k:List Pv)(d:Int)(i:Int)(f:Tg),M=.inl (k,d,i)∧Fr a 42 [(0,g),(5,ZI d)]∧Bs oo f w m∧Stp 10 o y f m∧Ow w.heap.size 41 10 f m g k) (λ_ _=>False) ?_ ?_ ?_
  ·refine f_ ?_;refine z_ (λ(K:Nat) a m=>∃(k:List Pv)(d:Int)(i:Int)(f:Tg),loopF (K_ a1) K (k,d,i)=some M∧Fr a 42 [(0,g),(1,s),(5,ZI d),(6,ZI i)]∧Bs oo f w m∧Stp 10 o y f m∧Ow w.heap.size 41 10 f m g k) fuel (λa ha=>⟨a0,D,a5,o,N,ha.sb,hB,hS,L⟩) ?_;rintro K20 a m ⟨k,d,i,f,a7,ha,hB,hS,j⟩;obtain⟨K24,c4,c5,c,E⟩:=ad_ a7;dsimp only[K_] at c;refine O_ ha ?_;refine b_ (Zq (Zm rfl (Zm rfl (Zv (bt_ rfl j ub_) (Zv (u_ rfl rfl) (Ze [(0,_),(1,_),(5,_),(6,_),(19,_)] (nx ?_)))))));refine p_ rfl (λF=>?_) (λF=>?_)
   ·rw[if_pos F] at c;refine h_ (nx (b_ (f_ (Zq (Zm rfl (Zm rfl ?_))))));obtain⟨A,O,c⟩:=a_ c;refine Zo ?_;refine fS_ j O rfl rfl ub_ uf_ ?_;intro c6 c7 c8 a8 a9;obtain⟨rfl,-,u⟩:=a9;refine Zv (e_ rfl ug_ (i_ a8)) (Za rfl (Ze [(0,_),(1,_),(5,_),(6,_),(7,_)] (Zn (Zm rfl (Zm rfl ?_)))));obtain⟨b0,P,c⟩:=a_ c;refine Zo ?_;refine gl_ (x:=A.x) (vs:=[A.v]) (c1.keep hB.keeps) P ⟨_,rfl,u.z⟩ rfl ⟨rfl,trivial⟩ ?_;intro c9 Q;have G:=Q.stp 999 f;replace hS:=hS.trans (Q.stp 10 f);replace j:=j.stp G;replace u:=u.stp G;replace hB:=hB.stp G;refine Zv (bo_ rfl) (Ze [(0,_),(1,_),(5,_),(6,_),(7,_),(29,_)] (nx ?_));refine p_ rfl (λH=>?_) (λH=>?_)
    ·rw[if_pos H] at c;refine Zq (Zm rfl (Zm rfl (Zm rfl ?_)));obtain⟨d0,R,c⟩:=a_ c;refine Zo ?_;refine fs_ j R rfl rfl ub_ uf_ ?_;intro d1 d2 b1 d3 b2;obtain⟨rfl,-,d4⟩:=b2;obtain⟨b3,S,c⟩:=a_ c;refine am_ trivial ?_;refine cc_ j b1 S (sg_ u) (by decide) rfl rfl rfl uf_ u.cells1 ?_;intro d5 b4 T;replace hS:=hS.trans T;replace hB:=hB.stp T;refine Ze [(0,_),(1,_),(5,_),(6,_)] (nx (d_ (Zm rfl ?_)));obtain⟨B,U,c⟩:=a_ c;refine Zv (C_ rfl rfl U) (Za rfl (Ze [(0,_),(1,_),(5,_),(6,_)] (y_ (nx (d_ (Zm rfl ?_))))));obtain⟨I,V,c⟩:=a_ c;refine Zv (C_ rfl rfl V) (Za rfl (Ze [(0,_),(1,_),(5,_),(6,_)] (x_ ?_)));have b5:=Zj c;subst b5;refine Zk [(0,_),(1,_),(5,_),(6,_)] ?_;intro a ha;exact⟨K24,by omega,b3,B,I,f,E,ha,hB,hS,b4⟩
    ·replace c:=ZF H c;refine h_ (y_ (nx (d_ (Zm rfl ?_))));obtain⟨J,W,c⟩:=a_ c;refine Zv (C_ rfl rfl W) (Za rfl (Ze [(0,_),(1,_),(5,_),(6,_)] (x_ ?_)));have b6:=Zj c;subst b6;refine Zk [(0,_),(1,_),(5,_),(6,_)] ?_;intro a ha;exact⟨K24,by omega,k,d,J,f,E,ha,hB,hS,j⟩
   ·replace c:=ZF F c;refine w_ ?_;refine m_ (m_ (Q_ ?_));refine s_ ?_;have b7:=Zj c;subst b7;refine Zk [(0,_),(5,_)] ?_;intro a ha;exact⟨k,d,i,f,E,ha,hB,hS,j⟩
  ·rintro a m ⟨k,d,i,f,rfl,ha,hB,hS,j⟩;dsimp only at hF;refine ap_k ha ?_;refine Zn (Zm rfl (Zm rfl ?_));obtain⟨d6,X,hF⟩:=a_ hF;refine Zo ?_;refine ke_ j X rfl rfl ub_ uf_ ?_;obtain⟨d7,Y,hF⟩:=a_ hF;obtain⟨d8,C,hF⟩:=a_ hF;have b8:=og_ j C;refine am_ trivial ?_;refine jY_ j Y C (by decide) rfl ub_ Tryz.zeroValue41 ?_;intro d9 e0 b9 Z;replace hS:=hS.trans Z;replace hB:=hB.stp Z;refine Ze [(0,_),(5,_)] (Zn (Zm rfl (Zm rfl (Zv (lR_ b8 rfl rfl ub_ uf_) (Za rfl (Ze [(4,_)] (nx (n_ ?_))))))));have c0:=Zj hF;subst c0;refine Zr wq_ [prev g d.toNat] ?_;exact⟨_,f,rfl,b9,hB,hS⟩
  ·exact λ_ _ h=>h.elim
end
section
theorem mG_(xs:List (List Int))(f:List Int->Option Bool)(g:List Int->Bool)(hf:∀x,x∈xs->f x=some (g x))(hl:xs.length<=1000000000):
  aE_ xs f=some ((firstP (λk x=>if g x then some (k:Int) else none) xs 0).getD (-1)):=by
 unfold aE_;rw[F_ (by omega) (by omega),sb];simp only[Int.toNat_natCast];rw[gw_ (λk x=>if g x then some (k:Int) else none) xs (λj x hj _=>by
  unfold aG_;rw[ca_,hj,sb,hf x (List.mem_of_getElem? hj),sb];cases h:g x<;>simp[h,lpP]),sb]
 cases firstP (λk x=>if g x then some (k:Int) else none) xs 0<;>rfl
end
section
open Go.RowKit
theorem lG_(ps:List Pv)(G:List Int->Option Bool)(g:List Int->Bool)(hG:∀p∈ps,G p.x=some (g p.x))(hl:ps.length<=1000000000):∀(d j i fuel:Nat)(L:List Pv),j+d=ps.length->d<fuel->L.length=ps.length->i<=j->
  L.take i=(ps.take j).filter (λp=> !g p.x)->L.drop j=ps.drop j->
  ∃(L':List Pv)(i':Nat),loopF (K_ G) fuel (L,(i:Int),(j:Int))=some (.inl (L',(i':Int),(ps.length:Int)))∧L'.length=ps.length∧i'<=ps.length∧L'.take i'=ps.filter (λp=> !g p.x)
 | 0,j,i,fuel,L,hj,hf,hL,hi,ht,hd=>by
  obtain⟨fuel,rfl⟩:∃q,fuel=q+1:=⟨fuel-1,by omega⟩;have e1:K_ G (L,(i:Int),(j:Int))=some (.out (L,(i:Int),(j:Int))):=by
   unfold K_;simp only
   rw[if_neg (by simp;omega)]
  refine⟨L,i,?_,hL,by omega,?_⟩
  ·simp only[loopF,e1];rw[show j=ps.length by omega]
  ·rw[ht,List.take_of_length_le (by omega)]
 | d+1,j,i,fuel,L,hj,hf,hL,hi,ht,hd=>by
  obtain⟨fuel,rfl⟩:∃q,fuel=q+1:=⟨fuel-1,by omega⟩;have hjl:j<ps.length:=by omega
  have hx:L[j]? =some ps[j]:=by
   have h1:=congrArg (λl=>l[0]?) hd;simp only[List.getElem?_drop,Nat.add_zero] at h1;rw[h1,List.getElem?_eq_getElem hjl]
  have hdr:L.drop (j+1)=ps.drop (j+1):=by
   have h1:=congrArg (List.drop 1) hd;rw[List.drop_drop,List.drop_drop] at h1;exact h1
  have htk:(ps.take (j+1)).filter (λp=> !g p.x)=(ps.take j).filter (λp=> !g p.x)++(if g ps[j].x then [] else [ps[j]]):=by
   rw[List.take_add_one,List.filter_append,List.getElem?_eq_getElem hjl];cases h:g ps[j].x<;>simp[h]
  have hix:ix L (j:Int)=some ps[j]:=by unfold ix;rw[if_pos (by omega),Int.toNat_natCast,hx]
  cases hg:g ps[j].x
  ·have e1:K_ G (L,(i:Int),(j:Int))=some (.go (L.set i ps[j],((i+1:Nat):Int),((j+1:Nat):Int))):=by
    unfold K_;simp only
    rw[if_pos (by simp;omega),hix,sb,hG _ (List.getElem_mem hjl),sb,hg,if_pos (by simp)];have h1:ix L (i:Int)=some (L[i]'(by omega)):=by unfold ix;rw[if_pos (by omega),Int.toNat_natCast,List.getElem?_eq_getElem]
    have h2:st L (i:Int) ps[j]=some (L.set i ps[j]):=by unfold st;rw[if_pos (by omega),Int.toNat_natCast]
    rw[h1,sb,h2,sb,F_ (by omega) (by omega),sb,F_ (by omega) (by omega),sb];rfl
   have:=lG_ ps G g hG hl d (j+1) (i+1) fuel (L.set i ps[j]) (by omega) (by omega) (by rw[List.length_set];exact hL) (by omega) (by
    rw[htk,hg,<-ht,List.take_set,List.take_add_one,List.getElem?_eq_getElem (show i<L.length by omega)];refine List.ext_getElem? λq=>?_;rw[List.getElem?_set];by_cases hq:i=q
    ·subst hq;have:(L.take i).length=i:=by rw[List.length_take];omega
     rw[if_pos rfl,if_pos (by simp;omega),List.getElem?_append_right (by omega),this];simp
    ·rw[if_neg hq];by_cases hq2:q<i
     ·rw[List.getElem?_append_left (by rw[List.length_take];omega),List.getElem?_append_left (by rw[List.length_take];omega)]
     ·rw[List.getElem?_eq_none (by simp;omega),List.getElem?_eq_none (by simp;omega)]) (by
    rw[List.drop_set_of_lt (by omega)];exact hdr)
   obtain⟨L',i',g1,g2⟩:=this;exact⟨L',i',by simp only[loopF,e1];exact g1,g2⟩
  ·have e1:K_ G (L,(i:Int),(j:Int))=some (.go (L,(i:Int),((j+1:Nat):Int))):=by
    unfold K_;simp only
    rw[if_pos (by simp;omega),hix,sb,hG _ (List.getElem_mem hjl),sb,hg,if_neg (by simp),F_ (by omega) (by omega),sb];rfl
   have:=lG_ ps G g hG hl d (j+1) i fuel L (by omega) (by omega) hL (by omega) (by rw[htk,hg,ht];simp) hdr;obtain⟨L',i',g1,g2⟩:=this;exact⟨L',i',by simp only[loopF,e1];exact g1,g2⟩
theorem tV_(fuel:Nat)(ps:List Pv)(G:List Int->Option Bool)(g:List Int->Bool)(hG:∀p∈ps,G p.x=some (g p.x))(hl:ps.length<=1000000000)(hf:ps.length<fuel):aX_ fuel ps G=some (ps.filter λp=> !g p.x):=by
 unfold aX_;rw[mG_ (ps.map λq=>q.x) G g (λx hx=>by
  obtain⟨p,hp,rfl⟩:=List.mem_map.1 hx;exact hG p hp) (by rw[List.length_map];exact hl),sb]
 cases hc:firstP (λk x=>if g x then some (k:Int) else none) (ps.map λq=>q.x) 0 with
 |none=>
  have hall:=cN_.1 hc;rw[Option.getD_none,if_pos (by rfl)];congr 1;refine (List.filter_eq_self.2 λp hp=>?_).symm;obtain⟨j,hj⟩:=List.getElem?_of_mem hp;have:=hall j p.x (by rw[List.getElem?_map,hj];rfl);cases h:g p.x
  ·rfl
  ·rw[h] at this;simp at this
 | some r=>
  have hmin:∃k:Nat,r=(k:Int)∧k<ps.length∧∀(i:Nat) p,i<k->ps[i]? =some p->g p.x=false:=by
   clear hG hl hf;have key:∀(xs:List Pv)(k:Nat)(r:Int),firstP (λk x=>if g x then some (k:Int) else none) (xs.map λq=>q.x) k=some r->∃m:Nat,r=((k+m:Nat):Int)∧m<xs.length∧∀(i:Nat) p,i<m->xs[i]? =some p->g p.x=false:=by
    intro xs
    induction xs with
    |nil=>intro k r h;cases h
    | cons x xs ih=>
     intro k r h;simp only[List.map_cons,firstP] at h;cases hg:g x.x
     ·rw[hg] at h;simp only[Bool.false_eq_true,if_false] at h;obtain⟨m,h1,h2,h3⟩:=ih (k+1) r h;refine⟨m+1,by rw[h1];congr 1;omega,by rw[List.length_cons];omega,λi p hi hp=>?_⟩;cases i with
      |zero=>simp at hp;subst hp;exact hg
      |succ i=>exact h3 i p (by omega) (by simpa using hp)
     ·rw[hg] at h;simp only[if_true,Option.some.injEq] at h;exact⟨0,by rw[<-h];rfl,by simp,λi p hi=>absurd hi (by omega)⟩
   obtain⟨m,h1,h2,h3⟩:=key ps 0 r hc;exact⟨m,by rw[h1,Nat.zero_add],h2,h3⟩
  obtain⟨k,rfl,hk,hno⟩:=hmin;have hgk:g ps[k].x=true:=by
   obtain⟨j,x,h1,h2⟩:=dp_ hc;rw[Nat.zero_add] at h2;split at h2
   ·rename_i hg;cases h2
    rw[List.getElem?_map,List.getElem?_eq_getElem hk] at h1;cases h1
    exact hg
   ·cases h2
  have hpre:(ps.take k).filter (λp=> !g p.x)=ps.take k:=List.filter_eq_self.2 λp hp=>by
   obtain⟨i,hi⟩:=List.getElem?_of_mem hp;rw[List.getElem?_take] at hi;split at hi
   ·rename_i hik;rw[hno i p hik hi];rfl
   ·cases hi
  have hpre2:(ps.take (k+1)).filter (λp=> !g p.x)=ps.take k:=by
   rw[List.take_add_one,List.filter_append,hpre,List.getElem?_eq_getElem hk];simp[hgk]
  obtain⟨L',i',g1,g2,g3,g4⟩:=lG_ ps G g hG hl (ps.length-(k+1)) (k+1) k fuel ps (by omega) (by omega) rfl (by omega) hpre2.symm rfl;rw[Option.getD_some,if_neg (by simp),F_ (by omega) (by omega),sb,show((k:Int)+1)=((k+1:Nat):Int) by omega,g1,sb];have c1:cut L' (i':Int) L'.length=some (L'.drop i'):=by
   unfold cut;rw[if_pos (by omega)];simp
  have c2:cut L' 0 (i':Int)=some (L'.take i'):=by
   unfold cut;rw[if_pos (by omega)];simp
  simp only
  rw[c1,sb,sb,c2,sb,g4]
def delL(G:List Int->Option Bool)(xs:List (List Int)):Option (List (List Int)):=if(decide (xs.length<=1000000000)&&xs.all λx=>(G x).isSome)=true then some (xs.filter λx=>(G x).getD true==false) else none
def apD(a b:Pv):Prop:=∀g,a.v.ownBlock=some g->b.v.ownBlock≠some g
def sl3(w:World)(G:Nat):World:={w with heap:=w.heap.extract 0 G}
set_option maxRecDepth 100000 in
set_option maxHeartbeats 2000000 in
theorem so_{k kr:Nat}{o:Tg}{wB w:World}{v u:Value}{vs:List Hv}{xs ys:List (List Int)}{G:List Int->Option Bool}(h:Ow wB.heap.size 41 k o w v vs)(hr:Rws wB.heap.size 3 kr o w vs xs)(hKp:Keeps wB w)(hfn:FnV tX_ wB u G)(hk:k≠0)(hkr:kr≠0)(hne:kr≠k)(hF:delL G xs=some ys):
  Calls tX_ 145 #[v,u] w λe w'=>∃v' vs' o',e=.returned v'∧Ow wB.heap.size 41 k o' w' v' vs'∧Rws wB.heap.size 3 kr o' w' vs' ys∧Stp k o w o' w':=by
 unfold delL at hF;split at hF
 rotate_left
 ·cases hF
 rename_i hcond;rw[Bool.and_eq_true,decide_eq_true_eq,List.all_eq_true] at hcond;obtain⟨hl,hsome⟩:=hcond;cases hF
 have hB:wB.heap.size<=w.heap.size:=hKp.size
 -- the rows under their values
 obtain⟨r1,r2,r3⟩:=hr;let ps:List Pv:=List.zipWith (λu x=>(⟨u.v,x⟩:Pv)) vs xs
 have hpl:ps.length=xs.length:=by show(List.zipWith _ vs xs).length=_;rw[List.length_zipWith,r1,Nat.min_self]
 have hpi:∀(i:Nat)(u:Hv)(x:List Int),vs[i]? =some u->xs[i]? =some x->ps[i]? =some (⟨u.v,x⟩:Pv):=λi u x a b=>by
  show(List.zipWith _ vs xs)[i]? =_;rw[List.getElem?_zipWith,a,b]
 have hpx:ps.map (·.x)=xs:=by
  apply List.ext_getElem?;intro i;by_cases hi:i<xs.length
  ·rw[List.getElem?_map,hpi i (vs[i]'(by omega)) xs[i] (List.getElem?_eq_getElem (by omega)) (List.getElem?_eq_getElem hi),List.getElem?_eq_getElem hi];rfl
  ·rw[List.getElem?_eq_none (by rw[List.length_map,hpl];omega),List.getElem?_eq_none (by omega)]
 have hpe:∀(i:Nat)(p:Pv),ps[i]? =some p->vs[i]? =some (⟨p.v⟩:Hv)∧xs[i]? =some p.x:=λi p hp=>by
  have hi:i<xs.length:=by have:=(List.getElem?_eq_some_iff.1 hp).1;omega
  have:=hpi i (vs[i]'(by omega)) xs[i] (List.getElem?_eq_getElem (by omega)) (List.getElem?_eq_getElem hi);rw[hp] at this;cases this
  exact⟨List.getElem?_eq_getElem (by omega),List.getElem?_eq_getElem hi⟩
 have hrow:∀p∈ps,Ow wB.heap.size 3 kr o w p.v p.x:=λp hp=>by
  obtain⟨i,hi⟩:=List.getElem?_of_mem hp;obtain⟨a,b⟩:=hpe i p hi;exact r2 i ⟨p.v⟩ p.x a b
 have hpin:∀p∈ps,p.x∈xs:=λp hp=>by rw[<-hpx];exact List.mem_map.2 ⟨p,hp,rfl⟩
 have hG:∀p∈ps,G p.x=some ((G p.x).getD true):=λp hp=>by
  have:=hsome p.x (hpin p hp);cases hg:G p.x with
  |none=>rw[hg] at this;cases this
  |some b=>rfl
 have hap:ps.Pairwise apD:=by
  rw[List.pairwise_iff_getElem];intro i j hi hj hij g h1 h2;obtain⟨a1,b1⟩:=hpe i _ (List.getElem?_eq_getElem hi);obtain⟨a2,b2⟩:=hpe j _ (List.getElem?_eq_getElem hj);have:=r3 i j _ _ g a1 a2 h1 h2;omega
 let o2:Tg:=frz kr o
 have ho2:∀b,o b=k->o2 b=k:=λb hb=>by show(if o b=kr then 0 else o b)=k;rw[hb,if_neg (Ne.symm hne)]
 have ho2':∀b,o2 b=k->o b=k:=λb hb=>by
  have hb:(if o b=kr then 0 else o b)=k:=hb;split at hb
  ·exact absurd hb.symm hk
  ·exact hb
 have hrd2:∀p∈ps,RdL o2 w p.v p.x:=λp hp=>(hrow p hp).frz;have hsp1:Ow wB.heap.size 41 k o2 w v ps:=by
  obtain⟨css,c1,c2,c3,c4⟩:=h;refine⟨css,by rw[c1,r1,hpl],?_,λg hg=>ho2 g (c3 g hg),λi cs p hc hp=>?_⟩
  ·rw[hpl,<-r1];exact c2
  ·obtain⟨a,b⟩:=hpe i p hp;obtain⟨q1,q2⟩:=c4 i cs _ hc a;exact⟨q1,q2,hrd2 p (List.mem_of_getElem? hp)⟩
 clear h r2 r3
 -- as the call sees it
 let Gb:Nat:=match v.ownBlock with|some g=>g|none=>w.heap.size
 let wb:World:=sl3 w Gb
 let oo:Tg:=λb=>if o2 b=0 then 0 else 1
 let o10:Tg:=λb=>if v.ownBlock=some b then 10 else if o2 b=0 then 0 else 1
 have hGw:Gb<=w.heap.size:=by
  show(match v.ownBlock with|some g=>g|none=>w.heap.size)<=_;cases hv:v.ownBlock with
  |none=>exact Nat.le_refl _
  |some g=>exact Nat.le_of_lt (hsp1.ltw g hv).2
 have hBG:wB.heap.size<=Gb:=by
  show wB.heap.size<=(match v.ownBlock with|some g=>g|none=>w.heap.size);cases hv:v.ownBlock with
  |none=>exact hB
  |some g=>exact(hsp1.ltw g hv).1
 have hwb:wb.heap.size=Gb:=by show(w.heap.extract 0 Gb).size=Gb;simp;omega
 have hog:∀g,v.ownBlock=some g->o2 g=k:=hsp1.tagged;have hKb:Keeps wB wb:=by
  refine⟨hKp.os,hKp.tape,hKp.output,by rw[hwb];exact hBG,λb hb=>?_⟩;show(w.heap.extract 0 Gb)[b]? =wB.heap[b]?;rw[Array.getElem?_extract,if_pos (by omega),Nat.zero_add];exact hKp.block b hb
 have hBs:Bs oo o10 wb w:=by
  refine⟨⟨rfl,rfl,rfl,by rw[hwb];exact hGw,λb hb=>?_⟩,λb hb=>?_⟩
  ·show w.heap[b]? =(w.heap.extract 0 Gb)[b]?;rw[Array.getElem?_extract];rw[hwb] at hb;rw[if_pos (by omega)];simp
  ·rw[hwb] at hb;show(if v.ownBlock=some b then 10 else if o2 b=0 then 0 else 1)=if(if o2 b=0 then 0 else 1)=0 then 0 else 1;rw[if_neg (λe=>by
    have:Gb=b:=by show(match v.ownBlock with|some g=>g|none=>w.heap.size)=b;rw[e]
    omega)]
   split<;>simp
 have hO:∀b,b<w.heap.size->o10 b≠999:=λb _=>by
  show(if v.ownBlock=some b then 10 else if o2 b=0 then 0 else 1)≠999;split
  ·decide
  ·split<;>decide
 have h10:∀b,o2 b=0->o10 b=0:=λb hb=>by
  show(if v.ownBlock=some b then 10 else if o2 b=0 then 0 else 1)=0;rw[if_neg (λe=>by have:=hog b e;rw[hb] at this;exact hk this.symm),if_pos hb]
 have hsp2:Ow wb.heap.size 41 10 o10 w v ps:=by
  obtain⟨css,c1,c2,c3,c4⟩:=hsp1;refine⟨css,c1,⟨c2.1,?_⟩,λg hg=>if_pos hg,λi cs p hc hp=>?_⟩
  ·rcases c2.2 with q|⟨g,cap,cur,rfl,q⟩
   ·exact .inl q
   ·refine .inr ⟨g,cap,cur,rfl,?_,q.2⟩;rw[hwb];exact Nat.le_refl _
  ·obtain⟨q1,q2,q3⟩:=c4 i cs p hc hp;exact⟨q1,q2,q3.mv (Nat.le_refl _) λb _ hb=>⟨rfl,h10 b hb⟩⟩
 refine (ev_ 1000000001 wb w oo o10 hBs hO v ps hsp2 u G (hfn.keep hKb) _ (tV_ 1000000001 ps G (λx=>(G x).getD true) hG (by omega) (by omega))).mono ?_;rintro e2 w2 ⟨v2,o3,rfl,hsp3,hBs3,hst2⟩
 -- what is left
 have hxs:(ps.filter λp=> !(G p.x).getD true).map (·.x)=xs.filter λx=>(G x).getD true==false:=by
  rw[<-hpx,List.filter_map];congr 1;refine List.filter_congr λp _=>?_;show(!(G p.x).getD true)=((G p.x).getD true==false);cases (G p.x).getD true<;>rfl
 have hsub:(ps.filter λp=> !(G p.x).getD true).Sublist ps:=List.filter_sublist;generalize (ps.filter λp=> !(G p.x).getD true)=r at hsp3 hxs hsub;have hmem:∀p∈r,p∈ps:=λp hp=>hsub.subset hp;let o':Tg:=λb=>if b<w.heap.size then o b else if o3 b=10 then k else 0
 have hstep:Stp k o w o' w2:=by
  refine⟨hst2.os,hst2.tape,hst2.output,hst2.size,λb hb hnk=>?_,λb hb=>if_pos hb⟩;exact hst2.block b hb (λe=>by
   have e:(if v.ownBlock=some b then 10 else if o2 b=0 then 0 else 1)=10:=e;split at e
   ·rename_i hv;exact hnk (ho2' b (hog b hv))
   ·split at e<;>cases e)
 have hrow2:∀p∈r,Ow wB.heap.size 3 kr o' w2 p.v p.x:=λp hp=>(hrow p (hmem p hp)).stp hstep hk hne;have hapr:r.Pairwise apD:=hap.sublist hsub;refine⟨v2,r.map λp=>⟨p.v⟩,o',rfl,?_,⟨?_,?_,?_⟩,hstep⟩
 ·obtain⟨css,c1,c2,c3,c4⟩:=hsp3;refine⟨css,by simpa using c1,?_,λg hg=>?_,λi cs u hc hu=>?_⟩
  ·rw[List.length_map];obtain⟨q1,q2⟩:=c2;refine⟨q1,?_⟩;rcases q2 with q2|⟨g,cap,cur,e,q3,q4⟩
   ·exact .inl q2
   ·rw[hwb] at q3;exact .inr ⟨g,cap,cur,e,Nat.le_trans hBG q3,q4⟩
  ·have e3:=c3 g hg;show(if g<w.heap.size then o g else if o3 g=10 then k else 0)=k;split
   ·rename_i hgl;have e4:=hst2.own g hgl;rw[e3] at e4;have e5:(if v.ownBlock=some g then 10 else if o2 g=0 then 0 else 1)=10:=e4.symm;split at e5
    ·rename_i hv;exact ho2' g (hog g hv)
    ·split at e5<;>cases e5
   ·simp
  ·rw[List.getElem?_map] at hu;cases hp:r[i]? with
   |none=>rw[hp] at hu;cases hu
   |some p=>
    rw[hp] at hu;cases hu
    obtain⟨q1,q2,_⟩:=c4 i cs p hc hp;exact⟨q1,q2⟩
 ·rw[List.length_map,<-hxs,List.length_map]
 ·intro i u x hu hx;rw[List.getElem?_map] at hu;rw[<-hxs,List.getElem?_map] at hx;cases hp:r[i]? with
  |none=>rw[hp] at hu;cases hu
  |some p=>
   rw[hp] at hu hx;cases hu;cases hx
   exact hrow2 p (List.mem_of_getElem? hp)
 ·intro i j u u' g hu hu' h1 h2;rw[List.getElem?_map] at hu hu';cases hp:r[i]? with
  |none=>rw[hp] at hu;cases hu
  | some p=>
   cases hq:r[j]? with
   |none=>rw[hq] at hu';cases hu'
   |some q=>
    rw[hp] at hu;rw[hq] at hu';cases hu;cases hu'
    obtain⟨hi,ei⟩:=List.getElem?_eq_some_iff.1 hp;obtain⟨hj,ej⟩:=List.getElem?_eq_some_iff.1 hq;have hpw:=List.pairwise_iff_getElem.1 hapr;rcases Nat.lt_trichotomy i j with hlt|heq|hgt
    ·have:=hpw i j hi hj hlt g;rw[ei,ej] at this;exact absurd h2 (this h1)
    ·exact heq
    ·have:=hpw j i hj hi hgt g;rw[ei,ej] at this;exact absurd h1 (this h2)
end
end Go.Proofs.YtdbbeldgdgonfaaGreat
