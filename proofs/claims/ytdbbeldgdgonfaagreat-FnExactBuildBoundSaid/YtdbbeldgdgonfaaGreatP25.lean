/- Part 25 of what this claim rests on (pack.py). -/
import Derived.Test.YtdbbeldgdgonfaaGreatP23
import Derived.Test.YtdbbeldgdgonfaaGreatP24
namespace Go.Proofs.YtdbbeldgdgonfaaGreat
open Tryz renaming prog→wQ_, zeroValue51→xI_, results33→xJ_, isAgg51→xi_, sizeOf51→xj_, underlying32→xc_, sizeOf28→wU_, isAgg28→wX_, zeroValue28→xf_, underlying51→xg_, sizeOf32→xn_, sizeOf22→wZ_, underlying22→wV_
set_option linter.unusedSimpArgs false
set_option linter.unusedVariables false
section
open Go.RowKit
def PrsN(N B:Nat)(o:Tg)(w:World)(gs:List Qv)(ps:List b_):Prop:=
  (N<=w.heap.size∧B<=N)∧gs.length=ps.length∧∃lo hi:Nat->Nat,(∀(i:Nat) g p,gs[i]? =some g->ps[i]? =some p->Pc (lo i) (hi i) o w g.cs p)∧
    (∀i,i<ps.length->B<=lo i∧hi i<=N)∧∀i j,i<j->j<ps.length->hi i<=lo j
def PcA(N:Nat)(p:b_):Pr:=λv o w=>∃(c:List Value)(n m:Nat),v=.agg c.toArray∧Pc n m o w c p∧N<=n∧m<=w.heap.size
def PcB(N:Nat)(p:b_):Pr:=λv o w=>∃(c:List Value)(n m:Nat),RdL o w v ([⟨c⟩]:List Qv)∧Pc n m o w c p∧N<=n∧m<=w.heap.size
section
variable {o o':Tg} {w w':World} {v:Value} {t:Nat} {N N' B n m:Nat} {gs:List Qv} {ps:List b_} {p:b_} {cs:List Value}
theorem PcA.stp(h:PcA N p v o w)(s:Stp t o w o' w')(b:t≠0:=by decide):PcA N p v o' w':=by
 obtain⟨c,n,m,e,d,a,f⟩:=h;exact⟨c,n,m,e,d.stp s b,a,Nat.le_trans f s.size⟩
theorem PcB.stp(h:PcB N p v o w)(s:Stp t o w o' w')(a:t≠0:=by decide):PcB N p v o' w':=by
 obtain⟨c,n,m,e,d,b,f⟩:=h;exact⟨c,n,m,e.stp s a,d.stp s a,b,Nat.le_trans f s.size⟩
theorem PrsN.nil(N B:Nat)(o:Tg)(a:B<=N)(h:N<=w.heap.size):PrsN N B o w [] []:=⟨⟨h,a⟩,rfl,λ_=>0,λ_=>0,λi g p h=>by simp at h,λi h=>by simp at h,λi j _ h=>by simp at h⟩
theorem PrsN.size(h:PrsN N B o w gs ps):N<=w.heap.size:=h.1.1
theorem PrsN.low(h:PrsN N B o w gs ps):B<=N:=h.1.2
theorem PrsN.stp(h:PrsN N B o w gs ps)(s:Stp t o w o' w')(f:t≠0:=by decide):PrsN N B o' w' gs ps:=by
 obtain⟨d,j,lo,hi,e,k⟩:=h;exact⟨⟨Nat.le_trans d.1 s.size,d.2⟩,j,lo,hi,λi g p a b=>(e i g p a b).stp s f,k⟩
theorem PrsN.rc(h:PrsN N B o w gs ps)(r:Rtc t o o')(j:t≠0):PrsN N B o' w gs ps:=by
 obtain⟨f,k,lo,hi,d,q⟩:=h;exact⟨f,k,lo,hi,λi g p a b=>(d i g p a b).mv0 λb e=>r.zero j e,q⟩
theorem PrsN.grow(h:PrsN N B o w gs ps)(b:N<=N')(k:N'<=w.heap.size):PrsN N' B o w gs ps:=by
 obtain⟨g,j,lo,hi,f,d,e⟩:=h;exact⟨⟨k,Nat.le_trans g.2 b⟩,j,lo,hi,f,λi a=>⟨(d i a).1,Nat.le_trans (d i a).2 b⟩,e⟩
theorem PrsN.pushV(h:PrsN N B o w gs ps){a:List b_}(b:Go.Proofs.YtdbbeldgdgonfaaGreat.push ps p=some a)(g:Qv):Go.Proofs.YtdbbeldgdgonfaaGreat.push gs g=some (gs++[g])∧a=ps++[p]:=by
 obtain⟨d,rfl⟩:=kD_ b;exact⟨by unfold Go.Proofs.YtdbbeldgdgonfaaGreat.push;rw[if_pos (by rw[h.2.1];exact d)],rfl⟩
theorem PrsN.push(h:PrsN N B o w gs ps)(G:Pc n m o w cs p)(C:N<=n)(A:m<=w.heap.size)(D:B<=n):PrsN w.heap.size B o w (gs++[⟨cs⟩]) (ps++[p]):=by
 obtain⟨f,x,lo,hi,y,k,E⟩:=h;refine⟨⟨Nat.le_refl _,Nat.le_trans f.2 f.1⟩,by simp[x],λi=>if i<ps.length then lo i else n,λi=>if i<ps.length then hi i else m,λi g q a b=>?_,λi hi'=>?_,λi j u F=>?_⟩
 ·by_cases d:i<ps.length
  ·rw[List.getElem?_append_left (by omega)] at a;rw[List.getElem?_append_left d] at b;simp only[if_pos d];exact y i g q a b
  ·have s:i=ps.length:=by have:=(List.getElem?_eq_some_iff.1 b).1;simp at this;omega
   subst s;rw[<-x,List.getElem?_append_right (by omega)] at a;rw[List.getElem?_append_right (by omega)] at b;simp at a b;subst a;subst b;simp only[if_neg d];exact G
 ·by_cases d:i<ps.length
  ·simp only[if_pos d];exact⟨(k i d).1,Nat.le_trans (k i d).2 f.1⟩
  ·simp only[if_neg d];exact⟨D,A⟩
 ·simp only[List.length_append,List.length_singleton] at F;have d:i<ps.length:=by omega
  simp only[if_pos d];by_cases e:j<ps.length
  ·simp only[if_pos e];exact E i j u e
  ·simp only[if_neg e];exact Nat.le_trans (k i d).2 C
end
def OwS(S:Nat->Prop)(w:World)(v:Value)(LL:List (List Int)):Prop:=
  ∃vs,MatIn 0 w v vs LL∧(∀k,v.ownBlock=some k->S k)∧∀i,i<LL.length->∀k,(vs.getD i undef).ownBlock=some k->S k
def OwQT(T:Nat->Nat)(w:World)(v:Value)(ps:List b_):Prop:=
  ∃css:List (List Value),css.length=ps.length∧w.ownsRow 0 28 4 v ps.length css.flatten∧(∀k,v.ownBlock=some k->T k=1)∧
    ∀(i:Nat) cs p,css[i]? =some cs->ps[i]? =some p->∃v2 v3,cs=[.int .i64 p.Labels,.int .i64 p.Degree,v2,v3]∧OwS (λb=>T b=4+2*i) w v2 p.Nodes∧OwS (λb=>T b=5+2*i) w v3 p.Edges
def OwB(lo hi:Nat)(w:World)(v:Value)(x:ak_):Prop:=
  ∃(T:Nat->Nat)(v1 v2 v3:Value),v=.agg #[v1,v2,v3]∧OwQT T w v1 x.Problems∧OwS (λb=>T b=2) w v2 x.Maps∧OwS (λb=>T b=3) w v3 x.Refusal∧∀b,T b≠0->lo<=b∧b<hi
theorem MatIn.zero{B:Nat}{w:World}{v:Value}{vs:List Value}{LL:List (List Int)}(h:MatIn B w v vs LL):MatIn 0 w v vs LL:=
 ⟨World.ownsRow.mono h.row (Nat.zero_le _),λi hi=>(h.own i hi).mono (Nat.zero_le _),h.apart⟩
theorem OwS.mono{S d:Nat->Prop}{w:World}{v:Value}{LL:List (List Int)}(h:OwS S w v LL)(e:∀b,S b->d b):OwS d w v LL:=by
 obtain⟨vs,g,f,j⟩:=h;exact⟨vs,g,λk a=>e k (f k a),λi hi k a=>e k (j i hi k a)⟩
theorem OwS.nil(S:Nat->Prop)(w:World):OwS S w (.slice none 0 0) []:=
 ⟨[],⟨World.ownsRow_nil w 0 _ _,λi hi=>by simp at hi,λi j hi=>by simp at hi⟩,λk a=>by simp[Value.ownBlock] at a,λi hi=>by simp at hi⟩
theorem OwQT.nil(T:Nat->Nat)(w:World):OwQT T w (.slice none 0 0) []:=⟨[],rfl,World.ownsRow_nil w 0 _ _,λk a=>by simp[Value.ownBlock] at a,λi cs p h=>by simp at h⟩
theorem OwB.nil(lo hi:Nat)(w:World):OwB lo hi w (.agg ([.slice none 0 0,.slice none 0 0,.slice none 0 0]:List Value).toArray) ⟨[],[],[]⟩:=⟨λ_=>0,_,_,_,rfl,OwQT.nil _ _,OwS.nil _ _,OwS.nil _ _,λb h=>absurd rfl h⟩
theorem Rws.owS{B k J:Nat}{o:Tg}{w:World}{v:Value}{vs:List Hv}{LL:List (List Int)}{S:Nat->Prop}(I:Ow B 41 k o w v vs)(q:Rws B 3 J o w vs LL)
  (F:∀g,v.ownBlock=some g->S g) (O:∀(i:Nat)(u:Hv) g,vs[i]? =some u->u.v.ownBlock=some g->S g):OwS S w v LL:=by
 obtain⟨css,M,A,T,Q⟩:=I;rw[vK_ M (λi cs x a b=>Q i cs x a b)] at A;have E:=q.1;have d:∀i,i<LL.length->∃u,vs[i]? =some u∧(vs.map Hv.v).getD i undef=u.v:=λi hi=>by
  have D:vs[i]? =some vs[i]:=List.getElem?_eq_getElem (by omega);exact⟨_,D,by rw[List.getD_eq_getElem?_getD,List.getElem?_map,D];rfl⟩
 refine⟨vs.map Hv.v,MatIn.zero (B:=B) ⟨by rw[<-E];exact A,λi hi=>?_,λi j hi L h=>?_⟩,F,λi hi k C=>?_⟩
 ·obtain⟨u,f,e⟩:=d i hi;have y:LL[i]? =some LL[i]:=List.getElem?_eq_getElem hi;rw[e,List.getD_eq_getElem?_getD,y];exact(q.2.1 i u LL[i] f y).own_ints
 ·obtain⟨u,f,e⟩:=d i hi;obtain⟨R,s,H⟩:=d j L;rw[e,H];unfold Apart;cases K:u.v.ownBlock with
  |none=>exact .inl rfl
  |some g=>exact .inr λG=>h (q.2.2 i j u R g f s K G.symm)
 ·obtain⟨u,f,e⟩:=d i hi;rw[e] at C;exact O i u k f C
theorem Dw.owS{lo hi:Nat}{o:Tg}{w:World}{v:Value}{LL:List (List Int)}(h:Dw lo hi 41 3 o w v LL):OwS (λg=>o g=0∧lo<=g∧g<hi) w v LL:=by
 obtain⟨vs,e,d,j,k⟩:=h;exact Rws.owS e d (λg f=>⟨e.tagged g f,(e.ltw g f).1,j g f⟩) λi u g a b=>⟨d.tg i u g a b,(d.lt i u g a b).1,k i u g a b⟩
theorem PrsN.colour{N B:Nat}{o:Tg}{w:World}{gs:List Qv}{ps:List b_}(h:PrsN N B o w gs ps)(U:Nat->Nat):
  ∃T:Nat->Nat,(∀b,o b≠0->T b=U b)∧(∀b,o b=0->T b≠0->B<=b∧b<w.heap.size)∧
   ∀(i:Nat) g p,gs[i]? =some g->ps[i]? =some p->∃x y,g.cs=[.int .i64 p.Labels,.int .i64 p.Degree,x,y]∧OwS (λb=>T b=4+2*i) w x p.Nodes∧OwS (λb=>T b=5+2*i) w y p.Edges:=by
 obtain⟨h0,h1,lo,hi,h2,Y,h4⟩:=h;have ha:∀i:Nat,∃q:Nat×Nat×Nat×Nat,∀g p,gs[i]? =some g->ps[i]? =some p->lo i<=q.1∧q.2.1<=hi i∧lo i<=q.2.2.1∧q.2.2.2<=hi i∧(q.2.1<=q.2.2.1∨q.2.2.2<=q.1)∧
   ∃x y,g.cs=[.int .i64 p.Labels,.int .i64 p.Degree,x,y]∧Dw q.1 q.2.1 41 3 o w x p.Nodes∧Dw q.2.2.1 q.2.2.2 41 3 o w y p.Edges:=λi=>by
  by_cases hx:∃g p,gs[i]? =some g∧ps[i]? =some p
  ·obtain⟨g,p,D,C⟩:=hx;obtain⟨x,y,e,a,b,c,d,q1,q2,q3,q4,q5,V,R⟩:=h2 i g p D C;refine⟨(a,b,c,d),λg' p' J H=>?_⟩;rw[D] at J;rw[C] at H;cases J;cases H
   exact⟨q1,q2,q3,q4,q5,x,y,e,V,R⟩
  ·exact⟨(0,0,0,0),λg p D C=>absurd ⟨g,p,D,C⟩ hx⟩
 obtain⟨q,hq⟩:=Classical.axiomOfChoice ha;have E:∀i,i<ps.length->lo i<=(q i).1∧(q i).2.1<=hi i∧lo i<=(q i).2.2.1∧(q i).2.2.2<=hi i∧((q i).2.1<=(q i).2.2.1∨(q i).2.2.2<=(q i).1):=λi hi'=>by
  have:=hq i gs[i] ps[i] (List.getElem?_eq_getElem (by omega)) (List.getElem?_eq_getElem hi');exact⟨this.1,this.2.1,this.2.2.1,this.2.2.2.1,this.2.2.2.2.1⟩
 have k:∀i j b,i<ps.length->j<ps.length->lo i<=b->b<hi i->lo j<=b->b<hi j->i=j:=λi j b hi' X a1 a2 K I=>by
  rcases Nat.lt_trichotomy i j with F|F|F
  ·have:=h4 i j F X;omega
  ·exact F
  ·have:=h4 j i F hi';omega
 let A:Nat->Nat->Prop:=λb i=>i<ps.length∧(q i).1<=b∧b<(q i).2.1
 let G:Nat->Nat->Prop:=λb i=>i<ps.length∧(q i).2.2.1<=b∧b<(q i).2.2.2
 have Q:∀b i j,A b i->G b j->False:=λb i j f u=>by
  obtain⟨s,L,O⟩:=f;obtain⟨Z,e2,e3⟩:=u;have r1:=E i s;have r2:=E j Z;have:=k i j b s Z (by omega) (by omega) (by omega) (by omega);subst this;omega
 classical
 refine⟨λb=>if o b≠0 then U b else if f:∃i,A b i then 4+2*Classical.choose f else if u:∃i,G b i then 5+2*Classical.choose u else 0,λb W=>if_pos W,λb W M=>?_,λi g p D C=>?_⟩
 ·simp only[W,ne_eq,not_true_eq_false,if_false] at M;by_cases f:∃i,A b i
  ·obtain⟨i,s,L,O⟩:=f;have:=E i s;have:=Y i s;omega
  ·rw[dif_neg f] at M;by_cases u:∃i,G b i
   ·obtain⟨i,s,L,O⟩:=u;have:=E i s;have:=Y i s;omega
   ·rw[dif_neg u] at M;exact absurd rfl M
 ·have hi':i<ps.length:=(List.getElem?_eq_some_iff.1 C).1;obtain⟨r1,r2,r3,r4,r5,x,y,e,V,R⟩:=hq i g p D C;refine⟨x,y,e,V.owS.mono λb ⟨S,K,I⟩=>?_,R.owS.mono λb ⟨S,K,I⟩=>?_⟩
  ·have f:∃i,A b i:=⟨i,hi',K,I⟩;show(if o b≠0 then U b else if f:∃i,A b i then 4+2*Classical.choose f else _)=_;rw[if_neg (by simp[S]),dif_pos f];obtain⟨s,L,O⟩:=Classical.choose_spec f;have r':=E _ s;rw[k i (Classical.choose f) b hi' s (by omega) (by omega) (by omega) (by omega)]
  ·have u:∃i,G b i:=⟨i,hi',K,I⟩;have f:¬∃i,A b i:=λ⟨j,X⟩=>Q b j i X ⟨hi',K,I⟩;show(if o b≠0 then U b else if f:∃i,A b i then 4+2*Classical.choose f else if u:∃i,G b i then 5+2*Classical.choose u else 0)=_;rw[if_neg (by simp[S]),dif_neg f,dif_pos u];obtain⟨s,L,O⟩:=Classical.choose_spec u;have r':=E _ s;rw[k i (Classical.choose u) b hi' s (by omega) (by omega) (by omega) (by omega)]
theorem OwB.mk{N B:Nat}{o:Tg}{w:World}{gs:List Qv}{ps:List b_}{C D E:Value}{H G:List Hv}{M R:List (List Int)}(h:Ow B 28 14 o w C gs)(K:PrsN N B o w gs ps)
  (x:Ow B 41 15 o w D H) (y:Rws B 3 16 o w H M) (q:Ow B 41 28 o w E G) (s:Rws B 3 29 o w G R):
  OwB B w.heap.size w (.agg ([C,D,E]:List Value).toArray) ⟨ps,M,R⟩:=by
 have f:=K.2.1;obtain⟨T,J,S,Q⟩:=K.colour λb=>if w.heap.size<=b∨b<B then 0 else if o b=14 then 1 else if o b=15∨o b=16 then 2 else if o b=28∨o b=29 then 3 else 0;have col:∀b k c,B<=b->b<w.heap.size->o b=k->k≠0->(if k=14 then 1 else if k=15∨k=16 then 2 else if k=28∨k=29 then 3 else 0)=c->T b=c:=λb k c W X e j O=>by
  subst e;rw[J b j,if_neg (by omega)];exact O
 refine⟨T,C,D,E,rfl,?_,?_,?_,λb A=>?_⟩
 ·obtain⟨css,U,F,L,V⟩:=h;refine⟨css,U.trans f,by rw[<-f];exact World.ownsRow.mono F (Nat.zero_le _),λk e=>col k 14 1 (World.ownsRow.lt F k e).1 (World.ownsRow.lt F k e).2 (L k e) (by decide) rfl,λi cs p a b=>?_⟩;have I:ps[i]? =some p:=b;have hi':i<gs.length:=by have:=(List.getElem?_eq_some_iff.1 I).1;omega
  have d:gs[i]? =some gs[i]:=List.getElem?_eq_getElem hi';have:=(V i cs gs[i] a d).1;rw[this];exact Q i _ p d I
 ·exact Rws.owS x y (λg d=>col g 15 2 (x.ltw g d).1 (x.ltw g d).2 (x.tagged g d) (by decide) rfl) λi u g a b=>col g 16 2 (y.lt i u g a b).1 (y.lt i u g a b).2 (y.tg i u g a b) (by decide) rfl
 ·exact Rws.owS q s (λg d=>col g 28 3 (q.ltw g d).1 (q.ltw g d).2 (q.tagged g d) (by decide) rfl) λi u g a b=>col g 29 3 (s.lt i u g a b).1 (s.lt i u g a b).2 (s.tg i u g a b) (by decide) rfl
 ·by_cases j:o b=0
  ·exact S b j A
  ·rw[J b j] at A;by_cases f:w.heap.size<=b∨b<B
   ·rw[if_pos f] at A;exact absurd rfl A
   ·omega
end
section
open Go.RowKit
instance {o o':Tg} {w w':World} {t M B:Nat} {gs:List Qv} {ps:List b_}:Stq t o w o' w' (PrsN M B o w gs ps) (PrsN M B o' w' gs ps) (t !=0):=⟨λc h s=>h.stp s (neb c)⟩
end
section
set_option maxRecDepth 100000
set_option maxHeartbeats 2000000
open Go.RowKit
theorem bI_:(wQ_.info? 51).map (·.size)=some 3:=by kernel_rfl
theorem eE_:(wQ_.info? 28).map (·.size)=some 4:=by kernel_rfl
theorem lr_:Inf wQ_ 41 (.slice none 0 0) 1 24:=by unfold Inf;kernel_rfl
theorem ho_:Inf wQ_ 28 (.agg #[.int .i64 0,.int .i64 0,.slice none 0 0,.slice none 0 0]) 4 64:=by unfold Inf;kernel_rfl
def cm_(fuel:Nat)(m:List b_):Int->b_->((List b_)×(List (List Int)))->Option (Lp ((List b_)×(List (List Int))) ((List b_)×(List (List Int))) (ak_×Bool)):=λ(d:Int)(f:b_)(s:(List b_)×(List (List Int)))=>
  (dp_ f)>>=λk=>
  (push s.1 k)>>=λa=>
  if d==0 then
    some (.go (a,s.2))
  else
    (ck (d-1))>>=λg=>
    (ix m g)>>=λi=>
    (fl_ fuel i)>>=λb=>
    if !b.2.2.2 then
      some (.ret ((⟨[],[],[]⟩:ak_),false))
    else
      (cq_ fuel b.1 f)>>=λc=>
      if !c.2 then
        some (.ret ((⟨[],[],[]⟩:ak_),false))
      else
        (push s.2 c.1)>>=λj=>
        some (.go (a,j))
def fF_(fuel:Nat)(b:List b_):Option (ak_×Bool):=
  (eD_ fuel b)>>=λj=>
  if !j then
    some ((⟨[],[],[]⟩:ak_),false)
  else
    (forI (cm_ fuel b) b 0 ([],[]))>>=λf=>
    match f with
    | .inl (g,i)=>
      (ck ((b.length:Int)-1))>>=λc=>
      (ix b c)>>=λd=>
      (dg_ fuel d)>>=λa=>
      if !a.2 then
        some ((⟨[],[],[]⟩:ak_),false)
      else
        some ((⟨g,i,a.1⟩:ak_),true)
    | .inr r'=>some r'
def jb_(w:World)(r:ak_×Bool):Ending->World->Prop:=λe w'=>∃(a:List Value),e=.returned (.tuple #[.agg a.toArray,.bool r.2])∧OwB w.heap.size w'.heap.size w' (.agg a.toArray) r.1∧Keeps w w'
theorem mS_(fuel:Nat)(w:World)(u:Value)(G:List b_)(c9:RdL zt w u G)(r:ak_×Bool)(hF:fF_ fuel G=some r):
    Calls wQ_ 33 #[u] w (jb_ w r):=by
 unfold fF_ at hF;have hB:Bs (λ_=>1) (col (λ_=>1)) w w:=Bs.start _ _;refine i_ (n:=80) (vs:=[u]) Tryz.func33 rfl rfl ?_;generalize col (λ_=>1)=o at*;refine Zq (Zo ?_);refine av_ (o:=o) w.heap.size 11 hB.keeps.size (cs:=[.slice none 0 0,.slice none 0 0,.slice none 0 0]) xI_ rfl ?_;intro n3 p1 B k v2;replace hB:=hB.stp v2;refine Za rfl (Ze [(0,_),(2,_)] (nx (c_ (Zq (Zm rfl ?_)))));obtain⟨p2,n4,hF⟩:=a_ hF;refine Zo ?_;refine o_ (mR_ fuel p1 _ G (c9.keep hB.keeps) p2 n4) Tryz.call60 ⟨rfl,trivial⟩ ?_;rintro v3 w2 ⟨rfl,v4⟩;have n5:=v4.stp 999 n3;refine⟨_,rfl,?_⟩;obtain⟨k,hB⟩:=ZS n5 (A2 k hB);refine Zv (aI_ rfl) (Ze [(0,_),(2,_),(16,_)] (nx ?_));refine l_ rfl (λd0=>?_) (λd0=>?_)
 ·rw[if_pos d0] at hF;refine Zq (Zv (ba_ (vs:=[]) (cs:=[.slice none 0 0,.slice none 0 0,.slice none 0 0]) trivial (by kernel_rfl)) ?_);refine Z_ trivial ?_;refine T_ k rfl rfl rfl bI_ (by intro c hc;simp only[List.mem_cons,List.not_mem_nil,or_false] at hc;rcases hc with rfl|rfl|rfl<;>first|rfl) ?_;intro v5 n6 n7;replace hB:=hB.stp n7;refine Za rfl (Ze [(2,_),(3,_)] (nx (j_ (y_ ?_))));have n8:=Zj hF;subst n8;refine D_ (P:=wQ_) (vs:=[.agg #[.slice none 0 0,.slice none 0 0,.slice none 0 0],.bool false]) xJ_ ⟨⟨_,rfl,al_ xi_ xj_ rfl n6.cells⟩,rfl,trivial⟩ ?_;exact⟨[.slice none 0 0,.slice none 0 0,.slice none 0 0],rfl,OwB.nil _ _ _,hB.keeps⟩
 ·replace hF:=ZF d0 hF;refine g_ (Zn (Zo ?_));refine av_ (o:=n3) w.heap.size 13 hB.keeps.size (cs:=[.slice none 0 0,.slice none 0 0,.slice none 0 0]) xI_ rfl ?_;intro b5 d1 g q n9;obtain⟨k,hB⟩:=ZS n9 (A2 k hB);refine Ze [(0,_),(2,_),(4,_)] (nx (c_ (Zq (Zm rfl (Zv (B_ rfl c9 xc_) (Zm rfl (Ze [(0,_),(2,_),(4,_),(18,_),(19,_),(20,_)] (nx ?_))))))));have o0:Oz w 28 14 b5 d1 (.slice none 0 0) ([]:List Qv):=Ow.nil _ _ _ _ _;have o1:Oz w 41 15 b5 d1 (.slice none 0 0) ([]:List Hv):=Ow.nil _ _ _ _ _;have o2:Rq w 3 16 b5 d1 [] ([]:Yk):=Rws.nil _ _ _ _ _;obtain⟨d2,e6,hF⟩:=a_ hF;refine v_ (λa x=>∃V O F E Q I A,d2=.inl (V,O)∧Fr a 80 [(0,u),(2,ZP B),(4,ZP g)]∧Bs (λ_=>1) A w x∧Bz w 11 A x B 51 [.slice none 0 0,.slice none 0 0,.slice none 0 0]∧Bz w 13 A x g 51 [F,E,.slice none 0 0]∧Oz w 28 14 A x F Q∧Oz w 41 15 A x E I∧Rq w 3 16 A x I O∧PrsN x.heap.size w.heap.size A x Q V) (λa w'=>∃r',d2=.inr r'∧bodyPost wQ_ Tryz.f33 (jb_ w r') .ret a w') ?_ ?_ ?_
  ·refine f_ ?_;refine w_ (λ(K:Nat) a x=>∃(i:Int),∃V O F E Q I A,forI (cm_ fuel G) (G.drop i.toNat) i (V,O)=some d2∧(G.drop i.toNat).length=K∧0<=i∧Fr a 80 [(0,u),(2,ZP B),(4,ZP g),(18,u),(19,ZI (G.length:Int)),(20,ZI i)]∧Bs (λ_=>1) A w x∧Bz w 11 A x B 51 [.slice none 0 0,.slice none 0 0,.slice none 0 0]∧Bz w 13 A x g 51 [F,E,.slice none 0 0]∧Oz w 28 14 A x F Q∧Oz w 41 15 A x E I∧Rq w 3 16 A x I O∧PrsN x.heap.size w.heap.size A x Q V) _ (λa ha=>⟨0,[],[],.slice none 0 0,.slice none 0 0,[],[],b5,e6,rfl,Int.le_refl 0,ha.sb,hB,k,q,o0,o1,o2,PrsN.nil _ _ _ hB.keeps.size (Nat.le_refl _)⟩) ?_;rintro K58 a x ⟨i,V,O,F,E,Q,I,A,e7,e8,o3,ha,hB,k,q,s,d,b,hq⟩;by_cases b6:i<(G.length:Int)
   ·obtain⟨a3,v6,e9,m,b7⟩:=R_ o3 b6 e7;have hle:=c9.len_le;dsimp only[cm_] at m;refine J_ ha ?_;refine Zq (Zv (r_ rfl rfl) (Ze [(0,_),(2,_),(4,_),(18,_),(19,_),(20,_),(21,_)] (nx (c_ ?_))));refine L_ (Zb (decide_eq_true b6)) ?_;refine g_ (nx (c_ (f_ (Zq (Zm rfl (Zo ?_))))));refine wf_atZ c9 e9 hB rfl rfl xc_ wU_ ?_;intro v7 v8 v9 o4 o5;obtain⟨f0,f1,rfl,d3,d4⟩:=o5;refine Zv (E_ rfl wX_ wU_ rfl o4) (Zo ?_);refine av_ (o:=A) w.heap.size 22 hB.keeps.size (cs:=[ZI 0,ZI 0,.slice none 0 0,.slice none 0 0]) xf_ rfl ?_;intro o6 w0 Y o7 f2;obtain⟨k,q,s,hq,d,b,hB⟩:=ZS f2 (A7 k q s hq d b hB);refine Za rfl ?_;refine Z_ trivial ?_;refine T_ o7 rfl rfl rfl eE_ (by intro c hc;simp only[List.mem_cons,List.not_mem_nil,or_false] at hc;rcases hc with rfl|rfl|rfl|rfl<;>first|rfl|exact d3.one1|exact d4.one1) ?_;intro d5 y f3;obtain⟨k,q,s,hq,d,b,hB⟩:=ZS f3 (A7 k q s hq d b hB);refine Ze [(0,_),(2,_),(4,_),(5,_),(6,_),(18,_),(19,_),(20,_)] (nx (c_ ?_));replace hq:=hq.grow (Nat.le_trans f2.size f3.size) (Nat.le_refl _);obtain⟨J,f4,m⟩:=a_ m;refine gv_ (o:=o6) [(0,u),(2,ZP B),(4,ZP g),(5,ZI i),(6,ZP Y),(18,u),(19,ZI (G.length:Int)),(20,ZI i)] [0,2,4,5,6,18,19,20] [25,26,27,28,29] [[],[0],[],[2],[3]] [none,none,none,none,none] [999,999,999,999,999] [0,0,0,0,0] [999] [λv _ _=>v=(.pointer (some ⟨g,0+0,none⟩)),λv _ _=>v=F,λv _ _=>v=(.agg #[ZI a3.Labels,ZI a3.Degree,f0,f1]),PcA d5.heap.size J,PcB d5.heap.size J] (λb8 b9=>Bs (λ_=>1) b8 w b9∧Bz w 11 b8 b9 B 51 [.slice none 0 0,.slice none 0 0,.slice none 0 0]∧Bz w 13 b8 b9 g 51 [F,E,.slice none 0 0]∧Oz w 28 14 b8 b9 F Q∧Oz w 41 15 b8 b9 E I∧Rq w 3 16 b8 b9 I O∧PrsN d5.heap.size w.heap.size b8 b9 Q V∧Bz w 22 b8 b9 Y 28 [ZI a3.Labels,ZI a3.Degree,f0,f1]) cu_ (by kernel_rfl) rfl ⟨rfl,rfl,rfl,rfl,rfl,rfl,rfl,rfl,trivial⟩ ⟨hB,k,q,s,d,b,hq,y⟩ ?_ ⟨dQ_ _,dQ_ _,dQ_ _,λ_ _ _ _ _ _ o8 hb h hs=>PcA.stp h hs o8.1,λ_ _ _ _ _ _ o8 hb h hs=>PcB.stp h hs o8.1,trivial⟩ ?_ ?_
    ·rintro w1 n3 w3 w4 p1 d6 ⟨hB,k,q,s,d,b,hq,y⟩ W;have d6:w1=999:=by simpa using d6
     subst d6;all_goals exact⟨hB.stp W (by decide),k.stp W (by decide),q.stp W (by decide),s.stp W (by decide) (by decide),d.stp W (by decide) (by decide),b.stp W (by decide) (by decide),hq.stp W (by decide),y.stp W (by decide)⟩
    ·refine⟨?_,?_,?_,?_,?_,trivial⟩
     ·rintro p3 p4 p5 ha ⟨hB,k,q,s,d,b,hq,y⟩-;refine Zs ha ?_;refine M_ (m_ rfl xg_ rfl xn_) ?_;exact Zx rfl
     ·rintro p6 p7 p8 ha ⟨hB,k,q,s,d,b,hq,y⟩ ⟨f5,-⟩;have ha:=ha.c f5;refine Zs ha ?_;refine M_ (e_ rfl Tryz.isAgg32 (q.cell rfl)) ?_;exact Zx rfl
     ·rintro p9 q0 q1 ha ⟨hB,k,q,s,d,b,hq,y⟩-;refine Zs ha ?_;refine M_ (E_ rfl wX_ wU_ rfl y.cells) ?_;exact Zx rfl
     ·rintro f6 f7 q2 ha ⟨hB,k,q,s,d,b,hq,y⟩ ⟨f8,-⟩;have ha:=ha.c f8;refine Zs ha ?_;refine o_ (lL_ f7 f6 24 (by decide) _ a3 (⟨_,_,rfl,d3.keep hB.keeps,d4.keep hB.keeps⟩) J f4) Tryz.call50 ⟨rfl,trivial⟩ ?_;rintro q3 q4 ⟨f9,q5,rfl,hp,g0,g1,-⟩;have g2:=g0.stp' 999 g1;exact⟨_,rfl,_,g2,f9,_,_,rfl,hp,hq.size,Nat.le_refl _⟩
     ·rintro g3 q6 q7 ha ⟨hB,k,q,s,d,b,hq,y⟩ ⟨g4,-⟩;obtain⟨q8,q9,r0,g5,hp,n2,o9⟩:=g4;obtain⟨Z,a0,rfl,hpq⟩:=hp;have g6:=hpq.rdN;have g7:=hpq.rdE;have ha:=ha.c g5;refine Zs ha ?_;refine au_ (α:=Qv) (o:=g3) (cs:=[ZI J.Labels,ZI J.Degree,Z,a0]) (xs:=([⟨[ZI J.Labels,ZI J.Degree,Z,a0]⟩]:List Qv)) (vs:=[(0,.agg #[ZI J.Labels,ZI J.Degree,Z,a0])]) ⟨[ZI J.Labels,ZI J.Degree,Z,a0],_,rfl,Qv.ok g6.one1 g7.one1,rfl⟩ rfl ⟨rfl,rfl,trivial⟩ xc_ wU_ xf_ (by decide) (fillS 4 rfl rfl (by decide)) (by simp) ?_;intro r1 r2 r3 g8 a4 r4;exact⟨_,a4,_,q9,r0,g8,Pc.stp ⟨_,_,rfl,hpq⟩ a4 (by decide),n2,Nat.le_trans o9 a4.size⟩
    rintro r5 r6 g9 ha ⟨hB,k,q,s,d,b,hq,y⟩ ⟨-,h0,-,-,H,-⟩;have ha:=ha.c h0;obtain⟨p0,q9,r0,H,hp,n2,o9⟩:=H;generalize h1:g9.tmps.getD 29 undef=r7 at H;have ha:=ha.c h1;refine aH_ ha ?_;simp only[List.length_cons,List.length_nil,Nat.zero_add,Nat.reduceAdd,List.drop_succ_cons,List.drop_zero];obtain⟨c0,d7,m⟩:=a_ m;obtain⟨hpg,hpx⟩:=hq.pushV d7 ⟨p0⟩;replace hq:=hq.push hp n2 o9 (Nat.le_trans hq.low n2);rw[<-hpx] at hq;refine Zo ?_;refine aT_ s H (ai_ hpg) (by decide) hB.keeps.size rfl rfl xc_ ho_ rfl (by decide) ?_;intro a5 r8 a1 f h2;obtain⟨hq,H,k,q,d,b,y,hB⟩:=ZS h2 (A8 hq H k q d b y hB);refine Zv (m_ rfl xg_ rfl xn_) ?_;refine Z_ trivial ?_;refine bl_ q rfl rfl (of_decide_eq_true rfl) xn_ f.cells1 f.one1 ?_;intro c1 j h3;obtain⟨H,f,hq,k,d,b,y,hB⟩:=ZS h3 (A8 H f hq k d b y hB);replace j:Bz w 13 a5 c1 g 51 [a1,E,.slice none 0 0]:=j;refine Ze [(0,_),(2,_),(4,_),(5,_),(6,_),(18,_),(19,_),(20,_)] (nx (c_ (Zq (Zm rfl (Zv (cD_ rfl rfl) (Ze [(0,_),(2,_),(4,_),(5,_),(6,_),(18,_),(19,_),(20,_),(33,_)] (nx ?_)))))));refine l_ rfl (λa6=>?_) (λa6=>?_)
    ·rw[if_pos a6] at m;refine s_ ?_;refine n_ (N_ (nx (d_ (Zv (C_ rfl rfl (F_ (by omega) (by omega))) (Zm rfl (Ze [(0,_),(2,_),(4,_),(18,_),(19,_),(20,_)] (u_ ?_)))))));have h4:=Zj m;subst h4;refine Zk [(0,_),(2,_),(4,_),(18,_),(19,_),(20,_)] ?_;intro a ha;exact⟨_,(by rw[<-e8];simp only[List.length_drop];omega),i+1,c0,O,a1,E,_,I,a5,b7,rfl,by omega,ha,hB,k,j,f,d,b,hq.grow hq.size (Nat.le_refl _)⟩
    ·replace m:=ZF a6 m;refine g_ (Zn (Zm rfl (Zm rfl ?_)));obtain⟨r9,d8,m⟩:=a_ m;refine Zv (bs_ rfl rfl d8) ?_;obtain⟨h5,d9,m⟩:=a_ m;refine Zo ?_;refine wf_atZ c9 d9 hB rfl rfl xc_ wU_ ?_;intro s0 s1 s2 h6 h7;obtain⟨s3,s4,rfl,h8,h9⟩:=h7;refine Zv (E_ rfl wX_ wU_ rfl h6) ?_;obtain⟨R,e0,m⟩:=a_ m;refine Zo ?_;refine o_ (nU_ fuel c1 a5 25 (by decide) _ h5 (⟨_,_,rfl,h8.keep hB.keeps,h9.keep hB.keeps⟩) R e0) Tryz.call46 ⟨rfl,trivial⟩ ?_;rintro s5 c2 ⟨s6,s7,s8,a7,rfl,i0,c3,c4,s9,i1,i2,i3⟩;have i4:=i2.stp' 25 i3;have t0:=i1.rd;refine⟨_,rfl,?_⟩;obtain⟨i5,i6,rfl,S,T⟩:=i0;replace c3:Dz 41 3 a7 c2 i5 R.1.Nodes:=c3;replace c4:Dz 41 3 a7 c2 i6 R.1.Edges:=c4;obtain⟨k,j,f,hq,d,b,y,hB⟩:=ZS i4 (A8 k j f hq d b y hB);refine Zm rfl (Zv (t_ rfl rfl) (Zv (t_ rfl rfl) (Zv (t_ rfl rfl) (Zv (t_ rfl rfl) (Zo ?_)))));refine av_ (o:=a7) w.heap.size 26 hB.keeps.size (cs:=[ZI 0,ZI 0,.slice none 0 0,.slice none 0 0]) xf_ rfl ?_;intro i7 t1 c5 i8 i9;obtain⟨S,T,k,j,f,hq,d,b,y,hB⟩:=ZS i9 (A8 S T k j f hq d (A3 b y hB));refine Z_ trivial ?_;refine T_ i8 rfl rfl rfl eE_ (by intro c hc;simp only[List.mem_cons,List.not_mem_nil,or_false] at hc;rcases hc with rfl|rfl|rfl|rfl<;>first|rfl|exact S.one1|exact T.one1) ?_;intro j0 j1 j2;obtain⟨S,T,k,j,f,hq,d,b,y,hB⟩:=ZS j2 (A8 S T k j f hq d (A3 b y hB));refine Za rfl (Za rfl (Za rfl (Ze [(0,_),(2,_),(4,_),(6,_),(7,_),(10,_),(18,_),(19,_),(20,_)] (nx (c_ (Zq (Zm rfl (Zv (aI_ rfl) (Ze [(0,_),(2,_),(4,_),(6,_),(7,_),(18,_),(19,_),(20,_),(46,_)] (nx ?_))))))))));refine l_ rfl (λa8=>?_) (λa8=>?_)
     ·rw[if_pos a8] at m;refine Zq (Zv (ba_ (vs:=[]) (cs:=[.slice none 0 0,.slice none 0 0,.slice none 0 0]) trivial (by kernel_rfl)) ?_);refine Z_ trivial ?_;refine T_ k rfl rfl rfl bI_ (by intro c hc;simp only[List.mem_cons,List.not_mem_nil,or_false] at hc;rcases hc with rfl|rfl|rfl<;>first|rfl) ?_;intro t2 j3 j4;replace hB:=hB.stp j4;refine Za rfl (Ze [(2,_),(3,_)] (nx (j_ (y_ (W_ (y_ (y_ (W_ ?_))))))));refine bg_ ?_;have j5:=Zj m;subst j5;refine λa ha=>⟨_,b7,?_⟩;refine D_ (P:=wQ_) (vs:=[.agg #[.slice none 0 0,.slice none 0 0,.slice none 0 0],.bool false]) xJ_ ⟨⟨_,rfl,al_ xi_ xj_ rfl j3.cells⟩,rfl,trivial⟩ ?_ a ha;exact⟨[.slice none 0 0,.slice none 0 0,.slice none 0 0],rfl,OwB.nil _ _ _,hB.keeps⟩
     ·replace m:=ZF a8 m;refine g_ (Zn (Zv (E_ rfl wX_ wU_ rfl j1.cells) (Zv (E_ rfl wX_ wU_ rfl y.cells) ?_)));obtain⟨a9,e1,m⟩:=a_ m;refine Zo ?_;refine o_ (jg_ fuel j0 i7 27 (by decide) _ R.1 (⟨_,_,rfl,S.z,T.z⟩) _ a3 (⟨_,_,rfl,d3.keep hB.keeps,d4.keep hB.keeps⟩) a9 e1) Tryz.call56 ⟨rfl,rfl,trivial⟩ ?_;rintro t3 t4 ⟨L,j6,rfl,C,j7,j8⟩;have j9:=j7.stp' 27 j8;replace C:=C.mono hB.keeps.size;refine⟨_,rfl,?_⟩;obtain⟨k,j,f,hq,d,b,hB⟩:=ZS j9 (A7 k j f hq d b hB);refine Zm rfl (Zv (t_ rfl rfl) (Zv (t_ rfl rfl) (Za rfl (Za rfl (Ze [(0,_),(2,_),(4,_),(10,_),(11,_),(18,_),(19,_),(20,_)] (nx (c_ (Zq (Zm rfl (Zv (aI_ rfl) (Ze [(0,_),(2,_),(4,_),(11,_),(18,_),(19,_),(20,_),(55,_)] (nx ?_))))))))))));refine l_ rfl (λb0=>?_) (λb0=>?_)
      ·rw[if_pos b0] at m;refine Zq (Zv (ba_ (vs:=[]) (cs:=[.slice none 0 0,.slice none 0 0,.slice none 0 0]) trivial (by kernel_rfl)) ?_);refine Z_ trivial ?_;refine T_ k rfl rfl rfl bI_ (by intro c hc;simp only[List.mem_cons,List.not_mem_nil,or_false] at hc;rcases hc with rfl|rfl|rfl<;>first|rfl) ?_;intro t5 k0 k1;replace hB:=hB.stp k1;refine Za rfl (Ze [(2,_),(3,_)] (nx (j_ (y_ (W_ (y_ (y_ (W_ ?_))))))));refine bg_ ?_;have k2:=Zj m;subst k2;refine λa ha=>⟨_,b7,?_⟩;refine D_ (P:=wQ_) (vs:=[.agg #[.slice none 0 0,.slice none 0 0,.slice none 0 0],.bool false]) xJ_ ⟨⟨_,rfl,al_ xi_ xj_ rfl k0.cells⟩,rfl,trivial⟩ ?_ a ha;exact⟨[.slice none 0 0,.slice none 0 0,.slice none 0 0],rfl,OwB.nil _ _ _,hB.keeps⟩
      ·replace m:=ZF b0 m;refine g_ (nx (d_ (Zv (m_ rfl xg_ rfl wZ_) (Zv (e_ rfl Tryz.isAgg22 (j.cell rfl)) (Zm rfl (Zo ?_))))));refine au_ (o:=j6) (cs:=[L]) (xs:=([⟨L⟩]:List Hv)) (vs:=[(0,L)]) ⟨_,_,rfl,iG_ C,rfl⟩ rfl ⟨rfl,rfl,trivial⟩ wV_ Tryz.sizeOf41 Tryz.zeroValue41 (by decide) (fill1 C.cells1) (by simp) ?_;intro t6 t7 t8 k3 k4 t9;obtain⟨C,d,b,k,j,f,hq,hB⟩:=ZS k4 (A8 C d b k j f hq hB);obtain⟨k5,e2,m⟩:=a_ m;obtain⟨k6,k7⟩:=b.pushV e2 L;refine Zo ?_;refine aT_ d k3 (ai_ k6) (by decide) hB.keeps.size rfl rfl wV_ lr_ rfl (by decide) ?_;intro c6 u0 c7 M k8;obtain⟨C,b,k,j,f,hq,hB⟩:=ZS k8 (A7 C b k j f hq hB);have a2:=b.push C (by decide) (by decide);rw[<-k7] at a2;clear b C;have U:=eO_ 27 16 c6;replace M:=M.rc U (by decide) (by decide);replace k:=k.rc U (by decide);replace j:=j.rc U (by decide);replace f:=f.rc U (by decide) (by decide);replace hq:=hq.rc U (by decide);replace hB:=hB.rc U (by decide);generalize mrg 27 16 c6=c8 at*;refine Zv (m_ rfl xg_ rfl wZ_) ?_;refine Z_ trivial ?_;refine bl_ j rfl rfl (of_decide_eq_true rfl) wZ_ M.cells1 M.one1 ?_;intro k9 b1 l0;obtain⟨M,a2,k,f,hq,hB⟩:=ZS l0 (A6 M a2 k f hq hB);replace b1:Bz w 13 c8 k9 g 51 [a1,c7,.slice none 0 0]:=b1;refine Ze [(0,u),(2,ZP B),(4,ZP g),(18,u),(19,ZI (G.length:Int)),(20,ZI i)] (x_ (nx (d_ (Zv (C_ rfl rfl (F_ (by omega) (by omega))) (Zm rfl (Ze [(0,_),(2,_),(4,_),(18,_),(19,_),(20,_)] (u_ ?_)))))));have l1:=Zj m;subst l1;refine Zk [(0,_),(2,_),(4,_),(18,_),(19,_),(20,_)] ?_;intro a ha;exact⟨_,(by rw[<-e8];simp only[List.length_drop];omega),i+1,c0,k5,a1,c7,_,I++[⟨L⟩],c8,b7,rfl,by omega,ha,hB,k,b1,f,M,a2,hq.grow hq.size (Nat.le_refl _)⟩
   ·have l2:=S_ b6 e7;refine J_ ha ?_;refine Zq (Zv (r_ rfl rfl) (Ze [(0,_),(2,_),(4,_),(18,_),(19,_),(20,_),(21,_)] (nx (c_ ?_))));refine G_ (Zb (decide_eq_false b6)) ?_;refine s_ ?_;refine n_ (n_ (N_ ?_));refine p_ ?_;refine Zk [(0,_),(2,_),(4,_)] ?_;intro a ha;exact⟨V,O,F,E,Q,I,A,l2,ha,hB,k,q,s,d,b,hq⟩
  ·rintro a x ⟨V,O,F,E,Q,I,A,rfl,ha,hB,k,q,s,d,b,hq⟩;dsimp only at hF;refine ap_k ha ?_;refine Zn (Zm rfl (Zm rfl (Zv (B_ rfl c9 xc_) ?_)));obtain⟨u1,e3,hF⟩:=a_ hF;refine Zv (bs_ rfl rfl e3) ?_;obtain⟨l3,e4,hF⟩:=a_ hF;refine Zo ?_;refine wf_atZ c9 e4 hB rfl rfl xc_ wU_ ?_;intro u2 u3 u4 l4 l5;obtain⟨u5,u6,rfl,l6,l7⟩:=l5;refine Zv (E_ rfl wX_ wU_ rfl l4) ?_;obtain⟨b2,e5,hF⟩:=a_ hF;refine Zo ?_;refine o_ (kj_ fuel x A 28 (by decide) _ l3 (⟨_,_,rfl,l6.keep hB.keeps,l7.keep hB.keeps⟩) b2 e5) Tryz.call57 ⟨rfl,trivial⟩ ?_;rintro u7 u8 ⟨X,u9,l8,rfl,D,N,l9,m0⟩;have m1:=l9.stp' 28 m0;replace D:=D.mono hB.keeps.size;replace N:=N.mono hB.keeps.size;refine⟨_,rfl,?_⟩;obtain⟨k,q,s,hq,d,b,hB⟩:=ZS m1 (A7 k q s hq d b hB);refine Zm rfl (Zv (t_ rfl rfl) (Zv (t_ rfl rfl) (Za rfl (Za rfl (Ze [(2,_),(4,_),(12,_),(13,_)] (nx (c_ (Zq (Zm rfl (Zv (aI_ rfl) (Ze [(2,_),(4,_),(12,_),(75,_)] (nx ?_))))))))))));refine l_ rfl (λb3=>?_) (λb3=>?_)
   ·rw[if_pos b3] at hF;refine Zq (Zv (ba_ (vs:=[]) (cs:=[.slice none 0 0,.slice none 0 0,.slice none 0 0]) trivial (by kernel_rfl)) ?_);refine Z_ trivial ?_;refine T_ k rfl rfl rfl bI_ (by intro c hc;simp only[List.mem_cons,List.not_mem_nil,or_false] at hc;rcases hc with rfl|rfl|rfl<;>first|rfl) ?_;intro v0 m2 m3;replace hB:=hB.stp m3;refine Za rfl (Ze [(2,_),(3,_)] (nx (j_ (y_ ?_))));have m4:=Zj hF;subst m4;refine D_ (P:=wQ_) (vs:=[.agg #[.slice none 0 0,.slice none 0 0,.slice none 0 0],.bool false]) xJ_ ⟨⟨_,rfl,al_ xi_ xj_ rfl m2.cells⟩,rfl,trivial⟩ ?_;exact⟨[.slice none 0 0,.slice none 0 0,.slice none 0 0],rfl,OwB.nil _ _ _,hB.keeps⟩
   ·replace hF:=ZF b3 hF;refine g_ (Zn (Zm rfl (Zv (m_ rfl xg_ rfl wZ_) ?_)));refine Z_ trivial ?_;refine bl_ q rfl rfl (of_decide_eq_true rfl) wZ_ D.cells1 D.one1 ?_;intro m5 b4 m6;obtain⟨D,N,k,s,hq,d,b,hB⟩:=ZS m6 (A8 D N k s hq d b hB);replace b4:Bz w 13 l8 m5 g 51 [F,E,X]:=b4;refine Ze [(2,_),(4,_)] (Zn (Zv (E_ rfl xi_ xj_ rfl b4.cells) ?_));refine Z_ trivial ?_;refine T_ k rfl rfl rfl bI_ (by intro c hc;simp only[List.mem_cons,List.not_mem_nil,or_false] at hc;rcases hc with rfl|rfl|rfl<;>first|rfl|exact s.one1|exact d.one1|exact D.one1) ?_;intro v1 m7 m8;obtain⟨s,hq,d,b,D,N,hB⟩:=ZS m8 (A7 s hq d b D N hB);refine Za rfl (Ze [(2,_),(3,_)] (nx (j_ ?_)));have m9:=Zj hF;subst m9;refine D_ (P:=wQ_) (vs:=[.agg #[F,E,X],.bool true]) xJ_ ⟨⟨_,rfl,al_ xi_ xj_ rfl m7.cells⟩,rfl,trivial⟩ ?_;exact⟨[F,E,X],rfl,OwB.mk s hq d b D N,hB.keeps⟩
  ·rintro a x ⟨r',rfl,n0⟩;dsimp only at hF;have n1:=Zj hF;subst n1;exact n0
end
section
theorem nO_{σ τ ρ:Type}{f:σ->Option (Lp σ τ ρ)}{s b:σ}(h:f s=some (.go b))(a:Nat):loopF f (a+1) s=loopF f a b:=by simp only[loopF,h]
theorem jG_{σ τ ρ:Type}{f:σ->Option (Lp σ τ ρ)}{s:σ}{t:τ}(h:f s=some (.out t))(a:Nat):loopF f (a+1) s=some (.inl t):=by simp only[loopF,h]
theorem ce_{σ ρ:Type}{f:σ->Option (Lp σ σ ρ)}(R:Nat->σ)(n:Nat)(d:∀j,j<n->f (R j)=some (.go (R (j+1))))(b:f (R n)=some (.out (R n))):∀(a j:Nat),j<=n->n<a+j->loopF f a (R j)=some (.inl (R n)):=by
 intro a
 induction a with
 |zero=>intro j h g;omega
 |succ a ih=>
  intro j h g;by_cases e:j=n
  ·subst e;exact jG_ b a
  ·rw[nO_ (d j (by omega)) a];exact ih (j+1) (by omega) (by omega)
theorem sY_{ρ:Type}{f:Int×Int->Option (Lp (Int×Int) (Int×Int) ρ)}(P:Nat->Bool)(n c:Nat)(k:c<=n)
  (q:∀lo hi:Nat,lo<hi->hi<=n->f ((lo:Int),(hi:Int))=some (.go (if P ((lo+hi)/2) then((((lo+hi)/2+1:Nat):Int),(hi:Int)) else((lo:Int),(((lo+hi)/2:Nat):Int)))))
  (i:∀lo:Nat,lo<=n->f ((lo:Int),(lo:Int))=some (.out ((lo:Int),(lo:Int)))) (p:∀j,j<c->P j=true) (m:∀j,c<=j->j<n->P j=false):
  ∀(g lo hi:Nat),lo<=c->c<=hi->hi<=n->hi<g+lo->loopF f g ((lo:Int),(hi:Int))=some (.inl ((c:Int),(c:Int))):=by
 intro g
 induction g with
 |zero=>intro lo hi a b d e;omega
 | succ g ih=>
  intro lo hi a b d e;by_cases h:lo<hi
  ·rw[nO_ (q lo hi h d) g];by_cases o:(lo+hi)/2<c
   ·rw[if_pos (p _ o)];exact ih _ _ (by omega) b d (by omega)
   ·rw[if_neg (by rw[m _ (by omega) (by omega)];simp)];exact ih _ _ a (by omega) (by omega) (by omega)
  ·have:lo=c:=by omega
   have:hi=c:=by omega
   subst_vars;exact jG_ (i _ k) g
theorem vH_{lo hi:Nat}(h:lo+hi<=4000000000):(ck ((lo:Int)+hi)>>=λx=>cvU x>>=λy=>shr y 1>>=λz=>cvU z)=some ((((lo+hi)/2:Nat)):Int):=by
 rw[F_ (by omega) (by omega),sb];unfold cvU shr;rw[if_pos (by omega),sb,if_neg (by omega),sb];have:((lo:Int)+(hi:Int)).fdiv (2^min (Int.toNat 1) 64)=(((lo+hi)/2:Nat):Int):=by
  rw[show min (Int.toNat 1) 64=1 from rfl,Int.fdiv_eq_ediv_of_nonneg _ (by decide)];omega
 rw[this,if_pos (by omega)]
theorem hR_{α:Type}(p:α->Bool):∀(l:List α),l.Pairwise (λa b=>p b=true->p a=true)->(∀(j:Nat) x,l[j]? =some x->j<l.countP p->p x=true)∧∀(j:Nat) x,l[j]? =some x->l.countP p<=j->p x=false
 |[],_=>⟨λj x h=>by simp at h,λj x h=>by simp at h⟩
 | a::l,h=>by
  rw[List.pairwise_cons] at h;obtain⟨o,n⟩:=hR_ p l h.2;cases f:p a with
  | true=>
   rw[List.countP_cons_of_pos f];refine⟨λj x d g=>?_,λj x d k=>?_⟩
   ·cases j with
    |zero=>simp at d;subst d;exact f
    |succ j=>exact o j x (by simpa using d) (by omega)
   ·cases j with
    |zero=>omega
    |succ j=>exact n j x (by simpa using d) (by omega)
  | false=>
   have e:∀x,x∈l->p x=false:=λx m=>by
    cases i:p x with
    |false=>rfl
    |true=>rw[h.1 x m i] at f;cases f
   have q:l.countP p=0:=List.countP_eq_zero.2 λx m=>by rw[e x m];simp
   rw[List.countP_cons_of_neg (by rw[f];simp),q];refine⟨λj x d g=>by omega,λj x d k=>?_⟩;cases j with
   |zero=>simp at d;subst d;exact f
   |succ j=>exact e x (List.mem_of_getElem? (by simpa using d))
theorem vL_(a:Int):bD_ a=some false:=by unfold bD_;simp
theorem mb_(d:Nat)(xs:List Int)(t:Int)(s:xs.Pairwise (·<=·))(C:xs.length<=1000000000)(E:xs.length<d):
  aE_ d xs t=some (((xs.countP λx=>decide (x<t):Nat):Int),decide (t∈xs)):=by
 obtain⟨o,u⟩:=hR_ (λx=>decide (x<t)) xs (s.imp λh B=>by simp only[decide_eq_true_eq] at B ⊢;omega);have p:xs.countP (λx=>decide (x<t))<=xs.length:=List.countP_le_length;unfold aE_;have:=sY_ (f:=aj_ xs t) (λj=>decide (xs.getD j 0<t)) xs.length (xs.countP λx=>decide (x<t)) p (λlo hi w D=>by
   have k:(lo+hi)/2<xs.length:=by omega
   unfold aj_;simp only
   rw[if_pos (by simpa using w)];have e:=vH_ (lo:=lo) (hi:=hi) (by omega);rw[F_ (by omega) (by omega),sb] at e ⊢;unfold cvU at e ⊢;rw[if_pos (by omega),sb] at e ⊢;cases n:shr ((lo:Int)+hi) 1 with
   |none=>rw[n] at e;cases e
   |some z=>
    rw[n,sb] at e;rw[sb];rw[e,sb,hg_ _ _ k,sb,vu_,sb];rw[show xs.getD ((lo+hi)/2) 0=xs[(lo+hi)/2] by simp[List.getElem?_eq_getElem k]];by_cases a:xs[(lo+hi)/2]<t
    ·simp only[decide_eq_true a,if_true];rw[F_ (by omega) (by omega),sb];rfl
    ·simp only[decide_eq_false a];rfl)
  (λlo h=>by
   unfold aj_;simp only
   rw[if_neg (by simp)]) (λj i=>by
   have b:j<xs.length:=by omega
   have:=o j _ (List.getElem?_eq_getElem b) i;simpa [List.getElem?_eq_getElem b] using this) (λj i b=>by
   have:=u j _ (List.getElem?_eq_getElem b) i;simpa [List.getElem?_eq_getElem b] using this) d 0 xs.length (Nat.zero_le _) p (Nat.le_refl _) (by omega)
 rw[show((0:Nat):Int)=0 from rfl] at this;rw[this,sb];simp only
 generalize A:xs.countP (λx=>decide (x<t))=c at o u p;by_cases a:c<xs.length
 ·rw[if_pos (by simpa using a),hg_ _ _ a,sb];have y:t<=xs[c]:=by
   have:=u c _ (List.getElem?_eq_getElem a) (Nat.le_refl _);simpa using this
  by_cases e:xs[c]=t
  ·rw[if_pos (by simpa using e),sb];have:t∈xs:=by rw[<-e];exact List.getElem_mem a
   simp[this]
  ·rw[if_neg (by simpa using e),sb,vL_,sb];have:t ∉ xs:=by
    intro k;obtain⟨j,i,g⟩:=List.mem_iff_getElem.1 k;have v:=o j _ (List.getElem?_eq_getElem i);by_cases q:j<c
    ·have:=v q;rw[g] at this;simp at this
    ·rw[List.pairwise_iff_getElem] at s;by_cases m:j=c
     ·subst m;exact e g
     ·have:=s c j a i (by omega);omega
   simp[this,sb]
 ·rw[if_neg (by simpa using a),sb];have:t ∉ xs:=by
   intro k;obtain⟨j,i,g⟩:=List.mem_iff_getElem.1 k;have:=o j _ (List.getElem?_eq_getElem i) (by omega);rw[g] at this;simp at this
  simp[this]
theorem mg_(xs:List Int):(srt xs).Pairwise (·<=·):=by
 have:=List.pairwise_mergeSort (le:=λx y:Int=>decide (x<=y)) (λa b c e d=>by simp only[decide_eq_true_eq] at*;omega) (λa b=>by simp only[Bool.or_eq_true,decide_eq_true_eq];omega) xs;exact this.imp λh=>by simpa using h
theorem qx_(xs:List Int):(srt xs).Perm xs:=List.mergeSort_perm xs _
theorem gn_(xs:List Int):srt xs=ssort xs:=
 List.Perm.eq_of_pairwise (le:=λa b=>a<=b) (λa b _ _ e d=>Int.le_antisymm e d) (mg_ xs) (oC_ xs) ((qx_ xs).trans (sj_ xs).symm)
end
section
theorem fY_{α β ρ:Type}{body:Int->α->List β->Option (Lp (List β) (List β) ρ)}(g:α->List β)(N:Nat):∀(xs:List α)(k:Int)(a:List β),
  a.length+(xs.flatMap g).length<=N->(∀x∈xs,∀(j:Int)(b:List β),b.length+(g x).length<=N->body j x b=some (.go (b++g x)))->
  forI body xs k a=some (.inl (a++xs.flatMap g))
 |[],k,a,_,_=>by simp[forI]
 |x::xs,k,a,h,d=>by
  rw[List.flatMap_cons,List.length_append] at h;have f:=d x (by simp) k a (by omega);simp only[forI,f];rw[fY_ g N xs (k+1) (a++g x) (by rw[List.length_append];omega) (λy e=>d y (by simp[e])),List.flatMap_cons,List.append_assoc]
theorem eT_{α ρ:Type}{body:Int->α->Unit->Option (Lp Unit Unit ρ)}(Q:α->Prop)(R:ρ->Prop):∀(xs:List α)(k:Int),
  (∀x∈xs,∀j:Int,∃z,body j x ()=some z∧((z=.go ()∧¬Q x)∨∃r,z=.ret r∧R r∧Q x))->
  ∃z,forI body xs k ()=some z∧((z=.inl ()∧∀x∈xs,¬Q x)∨∃r,z=.inr r∧R r∧∃x∈xs,Q x)
 |[],k,_=>⟨_,rfl,.inl ⟨rfl,by simp⟩⟩
 | x::xs,k,h=>by
  obtain⟨z,f,i⟩:=h x (by simp) k;rcases i with⟨rfl,m⟩|⟨r,rfl,e,d⟩
  ·obtain⟨z,g,b⟩:=eT_ Q R xs (k+1) (λy a=>h y (by simp[a]));refine⟨z,by simp only[forI,f];exact g,?_⟩;rcases b with⟨rfl,b⟩|⟨r,rfl,e,y,a,d⟩
   ·refine .inl ⟨rfl,λy a=>?_⟩;rcases List.mem_cons.1 a with rfl|a
    ·exact m
    ·exact b y a
   ·exact .inr ⟨r,rfl,e,y,by simp[a],d⟩
  ·exact⟨.inr r,by simp only[forI,f],.inr ⟨r,rfl,e,x,by simp,d⟩⟩
theorem iE_{α:Type}(p:α->Bool):∀xs:List α,(xs.flatMap λx=>if p x then [x] else [])=xs.filter p
 |[]=>rfl
 |x::xs=>by
  rw[List.flatMap_cons,iE_ p xs,List.filter_cons];split<;>simp
def extD(n:Nat)(x:List Int):List (List Int):=(List.range' (x.getLastD 0).toNat (n-(x.getLastD 0).toNat)).map λa:Nat=>x++[(a:Int)]
def msD(n:Nat):Nat->List (List Int)
  |0=>[[]]
  |d+1=>(msD n d).flatMap (extD n)
theorem vd_(n:Nat)(x:List Int):(extD n x).length<=n:=by
 unfold extD;rw[List.length_map,List.length_range'];omega
theorem ij_{α β:Type}{g:α->List β}{m:Nat}:∀xs:List α,(∀x∈xs,(g x).length<=m)->(xs.flatMap g).length<=xs.length*m
 |[],_=>by simp
 |x::xs,h=>by
  have d:=h x (by simp);have b:=ij_ xs (λy a=>h y (by simp[a]));rw[List.flatMap_cons,List.length_append,List.length_cons,Nat.succ_mul];omega
theorem hp_(n:Nat):∀d,(msD n d).length<=n^d
 |0=>by simp[msD]
 |d+1=>by
  have a:=hp_ n d;have b:=ij_ (g:=extD n) (m:=n) (msD n d) λx _=>vd_ n x;have e:(msD n d).length*n<=n^d*n:=Nat.mul_le_mul_right n a;rw[Nat.pow_succ];unfold msD;omega
theorem sK_{x:List Int}(d:x.Pairwise (·<=·)):∀y∈x,y<=x.getLastD 0:=by
 intro y b;rcases List.eq_nil_or_concat x with rfl|⟨u,a,rfl⟩
 ·simp at b
 ·rw[List.concat_eq_append] at d b ⊢;rw[List.getLastD_concat];rcases List.mem_append.1 b with b|b
  ·exact(List.pairwise_append.1 d).2.2 y b a (by simp)
  ·rw[List.mem_singleton.1 b];exact Int.le_refl _
def ndP(n d:Nat)(x:List Int):Prop:=x.length=d∧x.Pairwise (·<=·)∧∀y∈x,0<=y∧y<(n:Int)
theorem tr_{n d:Nat}{x:List Int}(h:ndP n d x):0<=x.getLastD 0:=by
 rcases List.eq_nil_or_concat x with rfl|⟨u,a,rfl⟩
 ·simp
 ·have:=h.2.2 a (by simp);rw[List.concat_eq_append,List.getLastD_concat];exact this.1
theorem kx_{n:Nat}{x z:List Int}:z∈extD n x<->∃a:Nat,z=x++[(a:Int)]∧(x.getLastD 0).toNat<=a∧a<n:=by
 unfold extD;rw[List.mem_map];constructor
 ·rintro⟨a,b,rfl⟩;rw[List.mem_range'_1] at b;exact⟨a,rfl,b.1,by omega⟩
 ·rintro⟨a,rfl,b,d⟩;exact⟨a,by rw[List.mem_range'_1];omega,rfl⟩
theorem eQ_(n:Nat):∀(d:Nat)(z:List Int),z∈msD n d<->ndP n d z
 |0,z=>by
  unfold msD ndP;rw[List.mem_singleton,List.length_eq_zero_iff];constructor
  ·rintro rfl;simp
  ·exact λh=>h.1
 | d+1,z=>by
  unfold msD;rw[List.mem_flatMap];constructor
  ·rintro⟨x,o,j⟩;have h:=(eQ_ n d x).1 o;obtain⟨a,rfl,f,g⟩:=kx_.1 j;refine⟨by rw[List.length_append,h.1];rfl,?_,λy e=>?_⟩
   ·rw[List.pairwise_append];refine⟨h.2.1,by simp,λy e b p=>?_⟩;rw[List.mem_singleton.1 p];have:=sK_ h.2.1 y e;omega
   ·rcases List.mem_append.1 e with e|e
    ·exact h.2.2 y e
    ·rw[List.mem_singleton.1 e];omega
  ·rintro⟨f,g,i⟩;rcases List.eq_nil_or_concat z with rfl|⟨u,a,rfl⟩
   ·simp at f
   ·rw[List.concat_eq_append] at f g i ⊢;rw[List.pairwise_append] at g;have m:=i a (by simp);have k:ndP n d u:=⟨by rw[List.length_append] at f;simp at f;exact f,g.1,λy e=>i y (by simp[e])⟩;refine⟨u,(eQ_ n d u).2 k,kx_.2 ⟨a.toNat,by rw[Int.toNat_of_nonneg m.1],?_,by omega⟩⟩;rcases List.eq_nil_or_concat u with rfl|⟨t,b,rfl⟩
    ·simp
    ·rw[List.concat_eq_append,List.getLastD_concat];have:=g.2.2 b (by simp) a (by simp);omega
theorem pc_:∀(x:List Int)(a b:Int),a<b->ordL (x++[a]) (x++[b])<0
 |[],a,b,h=>by simp[ordL,h]
 |y::x,a,b,h=>by
  have:=pc_ x a b h;simp only[List.cons_append,ordL];rw[if_neg (by omega),if_neg (by omega)];exact this
theorem ra_:∀{x y:List Int}(s t:List Int),x.length=y.length->ordL x y<0->ordL (x++s) (y++t)<0
 |[],[],s,t,_,h=>by simp[ordL] at h
 |[],_::_,s,t,h,_=>by simp at h
 |_::_,[],s,t,h,_=>by simp at h
 | a::x,b::y,s,t,f,h=>by
  have ih:=ra_ (x:=x) (y:=y) s t (by simpa using f);simp only[List.cons_append,ordL] at h ⊢;by_cases e:a<b
  ·rw[if_pos e];omega
  ·rw[if_neg e] at h ⊢;by_cases d:a>b
   ·rw[if_pos d] at h;omega
   ·rw[if_neg d] at h ⊢;exact ih h
theorem sq_(n:Nat):∀d,sorS (msD n d)
 |0=>by simp[msD,sorS]
 |d+1=>by
  unfold msD sorS;rw[List.pairwise_flatMap];constructor
  ·intro x _;unfold extD;rw[List.pairwise_map];exact List.Pairwise.imp (λ{a b:Nat}(h:a<b)=>pc_ x (a:Int) (b:Int) (by omega)) (List.pairwise_lt_range' (step:=1) (by decide))
  ·have ih:=sq_ n d;unfold sorS at ih;refine (List.Pairwise.and_mem.1 ih).imp λ{x y} h u e v f=>?_;obtain⟨a,rfl,-,-⟩:=kx_.1 e;obtain⟨b,rfl,-,-⟩:=kx_.1 f;exact ra_ _ _ (by rw[((eQ_ n d x).1 h.1).1,((eQ_ n d y).1 h.2.1).1]) h.2.2
theorem mV_{ρ:Type}{f:List (List Int)×Int->Option (Lp (List (List Int)×Int) (List (List Int)×Int) ρ)}{n:Nat}{x:List Int}
  (h:∀(e:List (List Int))(k:Nat),k<n->e.length<1000000000->f (e,(k:Int))=some (.go (e++[x++[(k:Int)]],((k+1:Nat):Int))))
  (g:∀e:List (List Int),f (e,(n:Int))=some (.out (e,(n:Int)))):∀(d k b:Nat)(e:List (List Int)),k+d=n->d<b->e.length+d<=1000000000->
  loopF f b (e,(k:Int))=some (.inl (e++(List.range' k d).map (λa:Nat=>x++[(a:Int)]),(n:Int)))
 |0,k,b,e,j,i,_=>by
  obtain⟨b,rfl⟩:∃m,b=m+1:=⟨b-1,by omega⟩;have:k=n:=by omega
  subst this;rw[jG_ (g e)];simp
 |d+1,k,b,e,j,i,o=>by
  obtain⟨b,rfl⟩:∃m,b=m+1:=⟨b-1,by omega⟩;rw[nO_ (h e k (by omega) (by omega)),mV_ h g d (k+1) b _ (by omega) (by omega) (by simp;omega),List.range'_succ];simp
theorem pJ_{x:List Int}{d:Nat}(h:x.length=d+1):ix x (d:Int)=some (x.getLastD 0):=by
 rcases List.eq_nil_or_concat x with rfl|⟨u,a,rfl⟩
 ·simp at h
 ·rw[List.concat_eq_append] at h ⊢;rw[List.getLastD_concat];have:u.length=d:=by simpa using h
  subst this;exact mH_ u a []
end
section
open Classical in
noncomputable def bitsP(P:Nat->Prop):Nat->Nat
  |0=>0
  |a+1=>if P a then bitsP P a|||2^a else bitsP P a
theorem dy_{P Q:Nat->Prop}:∀n,(∀b,b<n->(P b<->Q b))->bitsP P n=bitsP Q n
 |0,_=>rfl
 |n+1,h=>by
  have f:=dy_ n λb g=>h b (by omega);have d:=h n (by omega);unfold bitsP;by_cases a:P n
  ·rw[if_pos a,if_pos (d.1 a),f]
  ·rw[if_neg a,if_neg (λe=>a (d.2 e)),f]
theorem fd_(P:Nat->Prop):∀n,bitsP P n<2^n
 |0=>by simp[bitsP]
 |a+1=>by
  have ih:=fd_ P a;have b:2^(a+1)=2^a+2^a:=by rw[Nat.pow_succ];omega
  unfold bitsP;split
  ·exact Nat.or_lt_two_pow (by omega) (Nat.pow_lt_pow_right (by decide) (by omega))
  ·omega
theorem fN_(P:Nat->Prop):∀(n b:Nat),(bitsP P n).testBit b=true<->b<n∧P b
 |0,b=>by simp[bitsP]
 | a+1,b=>by
  have ih:=fN_ P a b;unfold bitsP;by_cases f:P a
  ·rw[if_pos f,Nat.testBit_or,Nat.testBit_two_pow,Bool.or_eq_true,ih,decide_eq_true_eq];constructor
   ·rintro(⟨g,d⟩|rfl)
    ·exact⟨by omega,d⟩
    ·exact⟨by omega,f⟩
   ·rintro⟨g,d⟩;by_cases e:a=b
    ·exact .inr e
    ·exact .inl ⟨by omega,d⟩
  ·rw[if_neg f,ih];constructor
   ·rintro⟨g,d⟩;exact⟨by omega,d⟩
   ·rintro⟨g,d⟩;by_cases e:b=a
    ·subst e;exact absurd d f
    ·exact⟨by omega,d⟩
theorem iP_{P:Nat->Prop}{a:Nat}(h:P a):bitsP P (a+1)=bitsP P a|||2^a:=by
 conv=>lhs;unfold bitsP
 rw[if_pos h]
theorem kz_{P:Nat->Prop}{a:Nat}(h:¬P a):bitsP P (a+1)=bitsP P a:=by
 conv=>lhs;unfold bitsP
 rw[if_neg h]
def cho:List Nat->List Int->Prop
  |[],[]=>True
  |S::SS,a::c=>(0<=a∧S.testBit a.toNat=true)∧cho SS c
  |_,_=>False
theorem vi_{m n:List Nat}(h:m.Perm n):∀c,cho m c->∃e,e.Perm c∧cho n e:=by
 induction h with
 |nil=>exact λc d=>⟨c,.refl _,d⟩
 | cons x _ ih=>
  intro c d;cases c with
  |nil=>exact d.elim
  |cons a c=>
   obtain⟨e,g,f⟩:=ih c d.2;exact⟨a::e,g.cons a,d.1,f⟩
 |swap x y l=>
  intro c d
  match c,d with
  |[],d=>exact d.elim
  |[a],d=>exact d.2.elim
  |a::b::c,d=>exact⟨b::a::c,.swap _ _ _,d.2.1,d.1,d.2.2⟩
 |trans _ _ k j=>
  intro c d;obtain⟨e,g,f⟩:=k c d;obtain⟨i,o,p⟩:=j e f;exact⟨i,o.trans g,p⟩
noncomputable def cmpl(L:Nat)(G:List Int->Prop)(SS:List Nat):Nat:=bitsP (λb=>∀c,cho SS c->G (c++[(b:Int)])) L
theorem tq_{L:Nat}{G:List Int->Prop}(i:∀c f:List Int,c.Perm f->G c->G f){a d:List Nat}(h:a.Perm d):cmpl L G a=cmpl L G d:=by
 have e:∀{a d:List Nat},a.Perm d->∀b:Nat,(∀c,cho a c->G (c++[(b:Int)]))->∀c,cho d c->G (c++[(b:Int)]):=λh b q c g=>by
  obtain⟨f,k,j⟩:=vi_ h.symm c g;exact i _ _ (k.append_right _) (q f j)
 exact dy_ L λb _=>⟨e h b,e h.symm b⟩
theorem qt_{α:Type}{l:List α}{i:Nat}(hi:i<l.length):l.Perm (l[i]::l.eraseIdx i):=by
 have d:l=l.take i++l[i]::l.drop (i+1):=by rw[List.getElem_cons_drop,List.take_append_drop]
 have b:=(List.perm_middle (a:=l[i]) (l₁:=l.take i) (l₂:=l.drop (i+1)));rw[<-d] at b;rw[List.eraseIdx_eq_take_drop_succ];exact b
end
end Go.Proofs.YtdbbeldgdgonfaaGreat
