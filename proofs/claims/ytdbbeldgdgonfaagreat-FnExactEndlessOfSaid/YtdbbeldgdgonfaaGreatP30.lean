/- Part 30 of what this claim rests on (Lmd, Help, Mat, Rng, Rk), packed by pack.py. -/
import Derived.BigQuiet
import Derived.Outline
import Derived.Test.YtdbbeldgdgonfaaGreatP01
import Derived.Test.YtdbbeldgdgonfaaGreatP28
import Derived.Test.YtdbbeldgdgonfaaGreatP29
namespace Go.Proofs.YtdbbeldgdgonfaaGreat
open Tryz renaming prog→tX_, func24→wK_, ntmps24→wL_, func64→wM_, ntmps64→wN_, func39→wO_, ntmps39→wP_, func25→wQ_, ntmps25→wR_
set_option linter.unusedSimpArgs false
set_option linter.unusedVariables false
section
theorem jM_{α ρ:Type}{body:Int->α->Unit->Option (Lp Unit Unit ρ)}(Q:α->Prop)(R:Nat->α->ρ->Prop)(xs:List α)(h:∀(k:Nat) x,xs[k]? =some x->∃z,body (k:Int) x ()=some z∧((z=.go ()∧¬Q x)∨∃r,z=.ret r∧Q x∧R k x r)):
  ∀(d k:Nat),k+d=xs.length->∃z,forI body (xs.drop k) (k:Int) ()=some z∧((z=.inl ()∧∀(i:Nat) y,k<=i->xs[i]? =some y->¬Q y)∨∃r,∃j:Nat,∃x,z=.inr r∧xs[j]? =some x∧Q x∧R j x r∧∀(i:Nat) y,k<=i->i<j->xs[i]? =some y->¬Q y)
 |0,k,hk=>⟨_,by rw[List.drop_of_length_le (by omega)];rfl,.inl ⟨rfl,λi y h1 h2=>by have:=(List.getElem?_eq_some_iff.1 h2).1;omega⟩⟩
 | d+1,k,hk=>by
  have hx:xs[k]? =some xs[k]:=List.getElem?_eq_getElem (by omega);obtain⟨z,h1,h2⟩:=h k _ hx;rw[List.drop_eq_getElem_cons (by omega)];rcases h2 with⟨rfl,hn⟩|⟨r,rfl,hq,hr⟩
  ·obtain⟨z,g1,g2⟩:=jM_ Q R xs h d (k+1) (by omega);refine⟨z,by simp only[forI,h1];exact g1,?_⟩;have hstep:∀(i:Nat) y,k<=i->xs[i]? =some y->i=k->¬Q y:=λi y _ hy e=>by
    subst e;rw[hx] at hy;cases hy
    exact hn
   rcases g2 with⟨rfl,g2⟩|⟨r,j,x,rfl,g3,g4,g5,g6⟩
   ·refine .inl ⟨rfl,λi y hi hy=>?_⟩;by_cases e:i=k
    ·exact hstep i y hi hy e
    ·exact g2 i y (by omega) hy
   ·refine .inr ⟨r,j,x,rfl,g3,g4,g5,λi y hi hj hy=>?_⟩;by_cases e:i=k
    ·exact hstep i y hi hy e
    ·exact g6 i y (by omega) hj hy
  ·exact⟨_,by simp only[forI,h1],.inr ⟨r,k,_,rfl,hx,hq,hr,λi y h1 h2=>by omega⟩⟩
theorem hc_{α ρ:Type}{body:Int->α->Unit->Option (Lp Unit Unit ρ)}(Q:α->Prop)(R:Nat->α->ρ->Prop)(xs:List α)(h:∀(k:Nat) x,xs[k]? =some x->∃z,body (k:Int) x ()=some z∧((z=.go ()∧¬Q x)∨∃r,z=.ret r∧Q x∧R k x r)):
  ∃z,forI body xs 0 ()=some z∧((z=.inl ()∧∀(i:Nat) y,xs[i]? =some y->¬Q y)∨∃r,∃j:Nat,∃x,z=.inr r∧xs[j]? =some x∧Q x∧R j x r∧∀(i:Nat) y,i<j->xs[i]? =some y->¬Q y):=by
 obtain⟨z,h1,h2⟩:=jM_ Q R xs h xs.length 0 (by omega);rw[List.drop_zero] at h1;exact⟨z,h1,h2.imp (λ⟨a,b⟩=>⟨a,λi y hy=>b i y (Nat.zero_le _) hy⟩) (λ⟨r,j,x,a,b,c,d,e⟩=>⟨r,j,x,a,b,c,d,λi y hi hy=>e i y (Nat.zero_le _) hi hy⟩)⟩
theorem jZ_{σ ρ:Type}{body:Int->σ->Option (Lp σ σ ρ)}(s:σ)(Q:Nat->Prop)(R:Nat->σ->Prop)(n:Nat)(h:∀k:Nat,k<n->∃z,body (k:Int) s=some z∧((z=.go s∧¬Q k)∨∃s',z=.out s'∧Q k∧R k s')):
  ∀(d k:Nat),k+d=n->∃s',forN body d (k:Int) s=some (.inl s')∧((s'=s∧∀i,k<=i->i<n->¬Q i)∨∃j,j<n∧Q j∧R j s'∧∀i,k<=i->i<j->¬Q i)
 |0,k,hk=>⟨s,rfl,.inl ⟨rfl,λi h1 h2=>by omega⟩⟩
 | d+1,k,hk=>by
  obtain⟨z,h1,h2⟩:=h k (by omega);rcases h2 with⟨rfl,hn⟩|⟨s',rfl,hq,hr⟩
  ·obtain⟨s',g1,g2⟩:=jZ_ s Q R n h d (k+1) (by omega);refine⟨s',by simp only[forN,h1];exact g1,?_⟩;rcases g2 with⟨e,g2⟩|⟨j,g3,g4,g5,g6⟩
   ·refine .inl ⟨e,λi i1 i2=>?_⟩;by_cases q:i=k
    ·subst q;exact hn
    ·exact g2 i (by omega) i2
   ·refine .inr ⟨j,g3,g4,g5,λi i1 i2=>?_⟩;by_cases q:i=k
    ·subst q;exact hn
    ·exact g6 i (by omega) i2
  ·exact⟨s',by simp only[forN,h1],.inr ⟨k,by omega,hq,hr,λi i1 i2=>by omega⟩⟩
def badE(E:List (List Int))(a b:Int):Prop:=srt [a,b] ∉ E
theorem hV_{E:List (List Int)}{a b:Int}(h:badE E a b):badE E b a:=by
 unfold badE at h ⊢;rwa [hf_ (List.Perm.swap a b [])]
structure FB (E:List (List Int)) (x:List Int) (k m:Nat) (a b:Int):Prop where
  hk:x[k]? =some a
  hm:x[m]? =some b
  le:k<=m
  bad:badE E a b
  fst:∀(i:Nat) y(j:Nat) z,i<k->x[i]? =some y->x[j]? =some z->¬badE E y z
  snd:∀(j:Nat) z,j<m->x[j]? =some z->¬badE E a z
def PB(E:List (List Int))(x l:List Int):Prop:=∃k m a b,FB E x k m a b∧l=[a,b]
theorem PB.uniq{E:List (List Int)}{x l l':List Int}(h:PB E x l)(h':PB E x l'):l=l':=by
 obtain⟨k,m,a,b,h,rfl⟩:=h;obtain⟨k',m',a',b',h',rfl⟩:=h';have hk:k=k':=by
  rcases Nat.lt_trichotomy k k' with q|q|q
  ·exact absurd h.bad (h'.fst k a m b q h.hk h.hm)
  ·exact q
  ·exact absurd h'.bad (h.fst k' a' m' b' q h'.hk h'.hm)
 subst hk;have ha:a=a':=Option.some.inj (h.hk.symm.trans h'.hk);subst ha;have hm:m=m':=by
  rcases Nat.lt_trichotomy m m' with q|q|q
  ·exact absurd h.bad (h'.snd m b q h.hm)
  ·exact q
  ·exact absurd h'.bad (h.snd m' b' q h'.hm)
 subst hm;have hb:b=b':=Option.some.inj (h.hm.symm.trans h'.hm);rw[hb]
open Classical in
noncomputable def bpr(E:List (List Int))(x:List Int):Option (List Int):=if h:∃l,PB E x l then some h.choose else none
theorem lz_{E:List (List Int)}{x l:List Int}(h:PB E x l):bpr E x=some l:=by
 unfold bpr;rw[dif_pos ⟨l,h⟩];exact congrArg some (PB.uniq (Exists.choose_spec (⟨l,h⟩:∃l,PB E x l)) h)
theorem pc_{E:List (List Int)}{x:List Int}(h:∀a∈x,∀b∈x,¬badE E a b):bpr E x=none:=by
 unfold bpr;refine dif_neg λ⟨l,k,m,a,b,hf,_⟩=>h a (List.mem_of_getElem? hf.hk) b (List.mem_of_getElem? hf.hm) hf.bad
theorem nC_(p:c_)(x:List Int):∃i j b,hl_ p x x=some (i,j,b)∧((b=false∧∀a∈x,∀c∈x,¬badE p.Edges a c)∨(b=true∧∃a c,ix x i=some a∧ix x j=some c∧PB p.Edges x [a,c])):=by
 have hin:∀(i:Nat) a,∃z,forI (ei_ p (i:Int) a) x 0 ()=some z∧((z=.inl ()∧∀(k:Nat) y,x[k]? =some y->¬badE p.Edges a y)∨∃r,∃k:Nat,∃y,z=.inr r∧x[k]? =some y∧badE p.Edges a y∧r=((i:Int),(k:Int),true)∧∀(j:Nat) z,j<k->x[j]? =some z->¬badE p.Edges a z):=λi a=>
  hc_ (body:=ei_ p (i:Int) a) (λc=>badE p.Edges a c) (λk c(r:Int×Int×Bool)=>r=((i:Int),(k:Int),true)) x (λk c _=>by
   unfold ei_;rw[os_,sb];by_cases hc:srt [a,c]∈p.Edges
   ·exact⟨_,by rw[if_neg (by simpa using hc)],.inl ⟨rfl,λhn=>hn hc⟩⟩
   ·exact⟨_,by rw[if_pos (by simpa using hc)],.inr ⟨_,rfl,hc,rfl⟩⟩)
 obtain⟨z,h1,h2⟩:=hc_ (body:=fk_ p x) (λa=>∃k:Nat,∃y,x[k]? =some y∧badE p.Edges a y) (λi a(r:Int×Int×Bool)=>∃k:Nat,∃y,x[k]? =some y∧badE p.Edges a y∧r=((i:Int),(k:Int),true)∧∀(j:Nat) z,j<k->x[j]? =some z->¬badE p.Edges a z) x (λi a _=>by
  obtain⟨z,h1,h2⟩:=hin i a;unfold fk_;rw[h1,sb];rcases h2 with⟨rfl,hno⟩|⟨r,k,y,rfl,g1,g2,g3,g4⟩
  ·exact⟨_,rfl,.inl ⟨rfl,λ⟨k,y,hk,hb⟩=>hno k y hk hb⟩⟩
  ·exact⟨_,rfl,.inr ⟨r,rfl,⟨k,y,g1,g2⟩,k,y,g1,g2,g3,g4⟩⟩)
 unfold hl_;rw[h1,sb];rcases h2 with⟨rfl,hno⟩|⟨r,k,a,rfl,hk,-,⟨m,y,hm,hb,rfl,hsnd⟩,hfst⟩
 ·refine⟨0,0,false,rfl,.inl ⟨rfl,λa ha c hc hb=>?_⟩⟩;obtain⟨i,hi⟩:=List.mem_iff_getElem?.1 ha;obtain⟨j,hj⟩:=List.mem_iff_getElem?.1 hc;exact hno i a hi ⟨j,c,hj,hb⟩
 ·refine⟨k,m,true,rfl,.inr ⟨rfl,a,y,by rw[ca_,hk],by rw[ca_,hm],k,m,a,y,⟨hk,hm,?_,hb,λi u j v hi hu hv hbad=>hfst i u hi hu ⟨j,v,hv,hbad⟩,hsnd⟩,rfl⟩⟩;refine Nat.le_of_not_lt λhlt=>hfst m y hlt hm ⟨k,a,hk,hV_ hb⟩
theorem pX_(fuel:Nat)(p:c_)(h:probB p=true)(hJ:p.Edges.length<=1000000000)(hf:p.Edges.length<fuel)(a:Int)(ys:List Int):
  ∃l b,dL_ fuel p [a] ys=some (l,b)∧((b=false∧∀(j:Nat) c,ys[j]? =some c->¬badE p.Edges a c)∨(b=true∧∃j:Nat,∃c,ys[j]? =some c∧badE p.Edges a c∧l=[a,c]∧∀(i:Nat) z,i<j->ys[i]? =some z->¬badE p.Edges a z)):=by
 obtain⟨z,h1,h2⟩:=hc_ (body:=cl_ fuel p a) (λc=>badE p.Edges a c) (λk c(r:List Int×Bool)=>r=([a,c],true)) ys (λk c _=>by
  unfold cl_;rw[qn_ fuel p h a c hJ hf,sb];by_cases hc:srt [a,c]∈p.Edges
  ·exact⟨_,by rw[if_neg (by simpa using hc)],.inl ⟨rfl,λhn=>hn hc⟩⟩
  ·exact⟨_,by rw[if_pos (by simpa using hc)],.inr ⟨_,rfl,hc,rfl⟩⟩)
 unfold dL_;rcases h2 with⟨rfl,hno⟩|⟨r,j,c,rfl,hj,hb,rfl,hfst⟩
 ·exact⟨[],false,by simp only[forI,cP_,h1,sb],.inl ⟨rfl,hno⟩⟩
 ·exact⟨[a,c],true,by simp only[forI,cP_,h1,sb],.inr ⟨rfl,j,c,hj,hb,rfl,hfst⟩⟩
def zgB(p:c_):Prop:=∃x∈p.Nodes,∀a∈x,∀c∈x,¬badE p.Edges a c
open Classical in
noncomputable def refV(p:c_):List (List Int)×Bool:=if probB p=true∧¬zgB p then(p.Nodes.map λx=>(bpr p.Edges x).getD [],true) else([],false)
theorem rJ_(p:c_)(hl:∀x∈p.Nodes,x.length<=1000000000):∃l b,gY_ p=some (l,b)∧(b=true<->zgB p):=by
 obtain⟨z,h1,h2⟩:=eo_ (body:=eI_ p) (λx=>∀a∈x,∀c∈x,¬badE p.Edges a c) (λr:List Int×Bool=>r.2=true) p.Nodes 0 (λx hx j=>by
  obtain⟨i,j,b,e1,e2⟩:=nC_ p x;unfold eI_ hn_;rw[e1,sb,sb];rcases e2 with⟨rfl,hall⟩|⟨rfl,a,c,-,-,k,m,_,_,hF,-⟩
  ·exact⟨_,by rw[if_pos (by rfl),fY_ x (hl x hx),sb],.inr ⟨_,rfl,rfl,hall⟩⟩
  ·exact⟨_,by rw[if_neg (by simp)],.inl ⟨rfl,λhh=>hh _ (List.mem_of_getElem? hF.hk) _ (List.mem_of_getElem? hF.hm) hF.bad⟩⟩)
 unfold gY_;rw[h1,sb];rcases h2 with⟨rfl,hno⟩|⟨⟨l,b⟩,rfl,hr,hq⟩
 ·exact⟨[],false,rfl,by simp,λ⟨x,hx,hh⟩=>absurd hh (hno x hx)⟩
 ·exact⟨l,b,rfl,λ_=>hq,λ_=>hr⟩
theorem tL_(fuel:Nat)(hf:1000000000<=fuel)(p:c_)(hN:p.Nodes.length<=100000000)(hE:p.Edges.length<=100000000):cS_ fuel p=some (refV p):=by
 unfold cS_ refV;rw[hZ_ fuel (by omega) p (by omega) (by omega),sb];cases hp:probB p
 ·rw[if_pos (by rfl),if_neg (by simp)]
 ·obtain⟨g1,g2,g3,g4,g5,-⟩:=aH_ hp;obtain⟨l,b,h1,h2⟩:=rJ_ p (λx hx=>by have:=((fW_ g5).1 x hx).1;omega);rw[if_neg (by simp),h1,sb];cases b
  ·have hz:¬zgB p:=λhz=>by simpa using h2.2 hz
   have hloop:=ij_ (body:=bW_ p) (λj=>(p.Nodes.take j).map λx=>(bpr p.Edges x).getD []) p.Nodes (λj x hj=>by
    obtain⟨i,k,b,e1,e2⟩:=nC_ p x;have hi:=(List.getElem?_eq_some_iff.1 hj).1;unfold bW_;rw[e1,sb];rcases e2 with⟨rfl,hall⟩|⟨rfl,a,c,ha,hc,hP⟩
    ·exact absurd ⟨x,List.mem_of_getElem? hj,hall⟩ hz
    ·simp only
     rw[ha,sb,hc,sb];unfold push;rw[if_pos (by simp;omega),sb,fR_ hj,List.map_append,List.map_singleton,lz_ hP];rfl)
   rw[if_neg (by simp),if_pos ⟨rfl,hz⟩];rw[show(p.Nodes.take 0).map (λx=>(bpr p.Edges x).getD [])=[] by simp] at hloop;rw[hloop,sb];simp only
   rw[List.take_length]
  ·rw[if_pos (by rfl),if_neg (λh=>h.2 (h2.1 rfl))]
theorem qF_(fuel:Nat)(hf:1000000000<=fuel)(p:c_)(hp:probB p=true)(hE:p.Edges.length<=100000000)(x:List Int)(hx:x.length<=100)(s:List (List Int))(hs:s.length<1000000000):∃s',forN (bs_ fuel p x) x.length 0 s=some (.inl s')∧((s'=s∧(∀a∈x,∀c∈x,¬badE p.Edges a c))∨∃l,s'=s++[l]∧PB p.Edges x l):=by
 obtain⟨s',h1,h2⟩:=jZ_ (body:=bs_ fuel p x) s (λk=>∃a,x[k]? =some a∧∃m:Nat,∃c,k<=m∧x[m]? =some c∧badE p.Edges a c) (λk s'=>∃a,∃m:Nat,∃c,x[k]? =some a∧k<=m∧x[m]? =some c∧badE p.Edges a c∧s'=s++[[a,c]]∧∀(j:Nat) z,k<=j->j<m->x[j]? =some z->¬badE p.Edges a z) x.length (λk hk=>by
  have hxk:x[k]? =some x[k]:=List.getElem?_eq_getElem hk;obtain⟨l,b,e1,e2⟩:=pX_ fuel p hp (by omega) (by omega) x[k] (x.drop k);have c1:cut x (k:Int) ((k:Int)+1)=some [x[k]]:=by
   unfold cut;rw[if_pos ⟨by omega,by omega,by omega⟩,show((k:Int)+1).toNat=k+1 by omega,Int.toNat_natCast];congr 1;rw[List.drop_take,show k+1-k=1 by omega,List.drop_eq_getElem_cons hk];rfl
  have c2:cut x (k:Int) (x.length:Int)=some (x.drop k):=by
   unfold cut;rw[if_pos ⟨by omega,by omega,by omega⟩,Int.toNat_natCast,Int.toNat_natCast,List.take_length]
  unfold bs_;rw[F_ (by omega) (by omega),sb,c1,sb,c2,sb,e1,sb];rcases e2 with⟨rfl,hno⟩|⟨rfl,j,c,hj,hb,rfl,hfst⟩
  ·refine⟨_,by rw[if_neg (by simp)],.inl ⟨rfl,λ⟨a,ha,m,c,hm,hc,hb⟩=>?_⟩⟩;have:a=x[k]:=Option.some.inj (ha.symm.trans hxk);subst this;exact hno (m-k) c (by rw[List.getElem?_drop,show k+(m-k)=m by omega];exact hc) hb
  ·rw[List.getElem?_drop] at hj;refine⟨_,by rw[if_pos rfl];unfold push;rw[if_pos hs,sb],.inr ⟨_,rfl,⟨_,hxk,k+j,c,by omega,hj,hb⟩,⟨x[k],k+j,c,hxk,by omega,hj,hb,rfl,λi z i1 i2 hz=>hfst (i-k) z (by omega) (by rw[List.getElem?_drop,show k+(i-k)=i by omega];exact hz)⟩⟩⟩) x.length 0 (by omega)
 refine⟨s',h1,?_⟩;rcases h2 with⟨e,hno⟩|⟨k,hk,-,⟨a,m,c,ha,hkm,hc,hb,rfl,hsnd⟩,hfst⟩
 ·refine .inl ⟨e,λa ha c hc hb=>?_⟩;obtain⟨i,hi⟩:=List.mem_iff_getElem?.1 ha;obtain⟨j,hj⟩:=List.mem_iff_getElem?.1 hc;have il:=(List.getElem?_eq_some_iff.1 hi).1;have jl:=(List.getElem?_eq_some_iff.1 hj).1;rcases Nat.le_total i j with q|q
  ·exact hno i (Nat.zero_le _) il ⟨a,hi,j,c,q,hj,hb⟩
  ·exact hno j (Nat.zero_le _) jl ⟨c,hj,i,a,q,hi,hV_ hb⟩
 ·have hall:∀(i:Nat) y(j:Nat) z,i<k->x[i]? =some y->x[j]? =some z->¬badE p.Edges y z:=λi y j z hi hy hz hbad=>by
   rcases Nat.le_total i j with q|q
   ·exact hfst i (Nat.zero_le _) hi ⟨y,hy,j,z,q,hz,hbad⟩
   ·exact hfst j (Nat.zero_le _) (by omega) ⟨z,hz,i,y,q,hy,hV_ hbad⟩
  refine .inr ⟨[a,c],rfl,k,m,a,c,⟨ha,hc,hkm,hb,hall,λj z hj hz hbad=>?_⟩,rfl⟩;by_cases q:k<=j
  ·exact hsnd j z q hj hz hbad
  ·exact hall j z k a (by omega) hz ha (hV_ hbad)
theorem tz_(fuel:Nat)(hf:1000000000<=fuel)(p:c_)(hN:p.Nodes.length<=100000000)(hE:p.Edges.length<=100000000):cT_ fuel p=some (refV p):=by
 unfold cT_ refV;rw[gk_ fuel (by omega) p (by omega) (by omega),sb];cases hp:probB p
 ·rw[if_pos (by rfl),if_neg (by simp)]
 ·obtain⟨g1,g2,g3,g4,g5,-⟩:=aH_ hp;have hloop:=ij_ (body:=bU_ fuel p) (λj=>(p.Nodes.take j).filterMap (bpr p.Edges)) p.Nodes (λj x hj=>by
   have hi:=(List.getElem?_eq_some_iff.1 hj).1;have h4:=((fW_ g5).1 x (List.mem_of_getElem? hj)).1;have hlen:=List.length_filterMap_le (bpr p.Edges) (p.Nodes.take j);rw[List.length_take] at hlen;obtain⟨s',e1,e2⟩:=qF_ fuel hf p hp hE x (by omega) ((p.Nodes.take j).filterMap (bpr p.Edges)) (by omega);unfold bU_;rw[F_ (by omega) (by omega),sb,Int.toNat_natCast,e1,sb,fR_ hj,List.filterMap_append];rcases e2 with⟨rfl,hall⟩|⟨l,rfl,hP⟩
   ·rw[show List.filterMap (bpr p.Edges) [x]=[] by simp[pc_ hall],List.append_nil]
   ·rw[show List.filterMap (bpr p.Edges) [x]=[l] by simp[lz_ hP]])
  rw[if_neg (by simp)];rw[show(p.Nodes.take 0).filterMap (bpr p.Edges)=[] by simp,List.take_length] at hloop;rw[hloop,sb];simp only
  by_cases hz:zgB p
  ·have hz':=hz;obtain⟨x,hx,hall⟩:=hz;have:(p.Nodes.filterMap (bpr p.Edges)).length<p.Nodes.length:=by
    refine Nat.lt_of_le_of_ne (List.length_filterMap_le _ _) λe=>?_;have:=List.filterMap_length_eq_length.1 e x hx;rw[pc_ hall] at this;cases this
   rw[if_pos (decide_eq_true (by omega)),if_neg (λh=>h.2 hz')]
  ·skip
   have hall:∀x∈p.Nodes,∃l,bpr p.Edges x=some l:=λx hx=>by
    have:¬∀a∈x,∀c∈x,¬badE p.Edges a c:=λh=>hz ⟨x,hx,h⟩;obtain⟨i,j,b,e1,e2⟩:=nC_ p x;rcases e2 with⟨rfl,h⟩|⟨rfl,a,c,-,-,hP⟩
    ·exact absurd h this
    ·exact⟨_,lz_ hP⟩
   have he:∀xs:List (List Int),(∀x∈xs,∃l,bpr p.Edges x=some l)->xs.filterMap (bpr p.Edges)=xs.map λx=>(bpr p.Edges x).getD []:=by
    intro xs
    induction xs with
    |nil=>exact λ_=>rfl
    |cons x xs ih=>
     intro h;obtain⟨l,hl⟩:=h x (by simp);rw[List.filterMap_cons,hl,List.map_cons,hl,ih λy hy=>h y (by simp[hy])];rfl
   rw[he _ hall,if_neg (by simp),if_pos ⟨rfl,hz⟩]
noncomputable def endV(p:c_):List Int×List (List Int)×Bool:=
  if probB p=true∧(roundV p).2.2.2=true∧(lmapV (roundV p).1 p).2=true∧(refV p).2=true then((lmapV (roundV p).1 p).1,(refV p).1,true) else([],[],false)
theorem jH_(fuel:Nat)(hf:1000000000<=fuel)(p:c_)(hN:p.Nodes.length<=100000000)(hE:p.Edges.length<=100000000):fv_ fuel p=some (endV p)∧fw_ fuel p=some (endV p):=by
 unfold fv_ fw_ du_ endV;rw[gk_ fuel (by omega) p (by omega) (by omega),sb];cases hp:probB p
 ·have hS:br_ fuel p=some ((⟨0,0,[],[]⟩:c_),[],[],false):=by
   unfold br_ en_;rw[hZ_ fuel (by omega) p (by omega) (by omega),sb,hp,if_pos (by rfl),sb];rfl
  have hR:∀x:List Int×List (List Int)×Bool,(if false=true∧(roundV p).2.2.2=true∧(lmapV (roundV p).1 p).2=true∧(refV p).2=true then x else([],[],false))=([],[],false):=λx=>if_neg (by simp);exact⟨by rw[hS,sb,hR];rfl,by rw[if_pos (by rfl),sb,hR];rfl⟩
 ·simp only[jh_ fuel hf p hp hN hE,of_ fuel hf p hp hN hE,sb,Bool.not_true,Bool.false_eq_true,if_false];cases hv:(roundV p).2.2.2
  ·exact⟨by rw[if_pos (by rfl),if_neg (by simp)],by rw[if_pos (by rfl),if_neg (by simp)]⟩
  ·obtain⟨a1,a2,a3,-⟩:=nv_ p hp hv;obtain⟨m1,m2⟩:=px_ fuel hf (roundV p).1 p a2 a3 hN hE;simp only[m1,m2,tL_ fuel hf p hN hE,tz_ fuel hf p hN hE,sb,Bool.not_true,Bool.false_eq_true,if_false];cases h1:(lmapV (roundV p).1 p).2
   ·exact⟨by simp[sb],by simp[sb]⟩
   ·cases h2:(refV p).2
    ·exact⟨by simp[sb],by simp[sb]⟩
    ·exact⟨by simp[sb],by simp[sb]⟩
end
section
open Go.RowKit
def iota(k:Int)(n:Nat):List Int:=(List.range n).map λi:Nat=>k+(i:Int)
theorem gg_(k:Int)(n:Nat):(iota k n).length=n:=by simp[iota]
theorem qO_(k:Int)(n:Nat):iota k (n+1)=iota k n++[k+n]:=by simp[iota,List.range_succ]
theorem rI_(p q:List Int)(x y:Int):((p++x::q).map (Value.int .i64)).set p.length (.int .i64 y)=(p++y::q).map (Value.int .i64):=by
 simp[List.set_append]
theorem Own.form{B:Nat}{w:World}{v:Value}{l:List Int}(h:Own B w v l)(hn:0<l.length):
  ∃g cap,v=.slice (some ⟨g,0,none⟩) l.length cap∧∀i,i<l.length->w.cell? ⟨g,i,none⟩=some (.int .i64 (l.getD i 0))∧w.frozen? ⟨g,i,none⟩=false:=by
 obtain⟨g,cap,rfl,_,_⟩:=World.ownsRow.form h hn;refine⟨g,cap,rfl,λi hi=>⟨?_,World.ownsRow.frozenAt h i⟩⟩;rw[World.ownsRow.cellAt h i (by omega)];simp[hi]
theorem Own.cellAt{B:Nat}{w:World}{g c:Nat}{l:List Int}(h:Own B w (.slice (some ⟨g,0,none⟩) l.length c) l)(i:Nat)(hi:i<l.length):w.cell? ⟨g,i,none⟩=some (.int .i64 (l.getD i 0)):=by
 rw[World.ownsRow.cellAt h i (by omega)];simp[hi]
theorem Own.set{B:Nat}{w:World}{g cap n:Nat}{p q:List Int}{x y:Int}(h:Own B w (.slice (some ⟨g,0,none⟩) n cap) (p++x::q))(j:Nat)(hj:j=p.length):
  Own B (w.setCell ⟨g,j,none⟩ (.int .i64 y)) (.slice (some ⟨g,0,none⟩) n cap) (p++y::q)∧w.grownBy (w.setCell ⟨g,j,none⟩ (.int .i64 y)) (some g):=by
 subst hj;have hn:n=(p++x::q).length:=by
  obtain⟨a,c,h1,_⟩:=h.len;simp at h1;simp[h1]
 subst hn;obtain⟨h1,h2⟩:=World.ownsRow.stored h p.length (.int .i64 y);rw[rI_] at h1;refine⟨?_,h2⟩;unfold Own;simpa using h1
theorem my_(l:List Int)(j:Nat)(h:j<l.length):l.drop j=l.getD j 0::l.drop (j+1):=by
 rw[List.drop_eq_getElem_cons h];simp[h]
theorem lT_{la lb:List Int}{k:Nat}(h:la.take k=lb.take k)(hl:la.length=lb.length)(hk:k<la.length)(he:la.getD k 0=lb.getD k 0):la.take (k+1)=lb.take (k+1):=by
 have hk':k<lb.length:=by omega
 rw[List.take_succ_eq_append_getElem hk,List.take_succ_eq_append_getElem hk',h];simp[List.getD_eq_getElem?_getD,hk,hk'] at he;rw[he]
theorem ku_{l:List Int}{k:Nat}(h:k<l.length):l.take (k+1)=l.take k++[l.getD k 0]:=by
 rw[List.take_succ_eq_append_getElem h];simp[h]
set_option maxHeartbeats 400000 in
theorem hp_(va vb:Value)(la lb:List Int)(w:World)(ha:Ints w va la)(hb:Ints w vb lb):
  Calls tX_ 24 #[va,vb] w λe w'=>e=.returned (.bool (decide (la=lb)))∧Dr w w':=by
 obtain⟨a,ca,rfl,ma,fa⟩:=ha.form;obtain⟨b,cb,rfl,mb,fb⟩:=hb.form;have Fa:=Lib.hid fa;have Fb:=Lib.hid fb;clear fa fb ha hb;by_cases hl:la.length=lb.length
 ·have Hl:=Lib.hid hl;have hl':((la.length:Int) !=(lb.length:Int))=false:=by simp[hl]
  clear hl;go_enter wK_,wL_;go_wp2;go_loopw [5] (λi wr=>∃k:Nat,k<=la.length∧i=.int .i64 k∧la.take k=lb.take k∧Dr w wr) (λi _=>la.length-(intOf i).toNat);case atStart=>exact⟨0,Nat.zero_le _,rfl,rfl,Dr.refl w⟩
  case round=>
   obtain⟨k,hk,rfl,ht,n,rfl⟩:=hrel;have Ht:=Lib.hid ht;clear ht;by_cases hlt:k<la.length
   ·obtain⟨ba,oa,rfl,hca⟩:=Fa.out k hlt;obtain⟨bb,ob,rfl,hcb⟩:=Fb.out k (by have:=Hl.out;omega);have hlt2:k<lb.length:=by have:=Hl.out;omega
    generalize hx:la.getD k 0=x at hca;generalize hy:lb.getD k 0=y at hcb;have Hx:=Lib.hid hx;have Hy:=Lib.hid hy;clear hx hy;go_wp2;go_quiet (fail);go_wp2
    ·go_ret;refine⟨?_,(Dr.refl w).more _|>.more _⟩;have hne:la≠lb:=by
      intro h;have:=Hx.out;have:=Hy.out;have:(x !=y)=true:=by assumption
      simp_all
     simp[hne]
    ·go_roundw;case rel=>exact⟨k+1,by omega,by go_num,lT_ Ht.out Hl.out hlt (by rw[Hx.out,Hy.out];simpa using ‹(x !=y)=false›),(Dr.refl w).more _⟩
     case measure=>simp[intOf];omega
   ·go_wp2;go_ret;refine⟨?_,(Dr.refl w).more _⟩;have he:la=lb:=by
     have h1:=Ht.out;rw[List.take_of_length_le (by omega),List.take_of_length_le (by have:=Hl.out;omega)] at h1;exact h1
    simp[he]
 ·have hl':((la.length:Int) !=(lb.length:Int))=true:=by simp;omega
  have hne:Hid (decide (la=lb)=false):=by
   have:la≠lb:=λh=>hl (by rw[h]);show decide (la=lb)=false;simp[this]
  clear hl;go_enter wK_,wL_;go_wp2;go_ret;exact⟨by rw[hne.out];rfl,Dr.refl w⟩
set_option maxHeartbeats 400000 in
theorem gL_(B:Nat)(v:Value)(l:List Int)(k:Int)(w:World)(h:Own B w v l)(hk:0<=k)(hk2:k+l.length<=4611686018427387904):
  Calls tX_ 26 #[v,.int .i64 k] w λe w'=>e=.returned (.int .i64 (k+l.length))∧Own B w' v (iota k l.length)∧w.grownBy w' v.ownBlock:=by
 obtain⟨a,c,rfl,hm⟩:=h.len;have H:=Lib.hid h;clear h;go_enter Tryz.func26,Tryz.ntmps26;go_wp2;go_loopw [1,5] (λx i wr=>∃j:Nat,j<=l.length∧i=.int .i64 j∧x=.int .i64 (k+j)∧Own B wr (.slice a l.length c) (iota k j++l.drop j)∧w.grownBy wr (Value.slice a l.length c).ownBlock) (λ_ i _=>l.length-(intOf i).toNat);case atStart=>exact⟨0,Nat.zero_le _,rfl,by simp,by simpa [iota] using H.out,pt_ _ _⟩
 case round=>
  obtain⟨j,hj,rfl,rfl,hown,hgr⟩:=hrel;have HO:=Lib.hid hown;have HG:=Lib.hid hgr;clear hown hgr;by_cases hlt:j<l.length
  ·obtain⟨g,cap,hv,hc⟩:=HO.out.form (by simp;omega);simp only[Value.slice.injEq] at hv;obtain⟨rfl,-,rfl⟩:=hv;obtain⟨hc1,hc2⟩:=hc j (by simp[gg_];omega);have hc1':∃u,wr.cell? ⟨g,j,none⟩=some u:=⟨_,hc1⟩;clear hc hc1;obtain⟨u,hc1⟩:=hc1';go_wp2;go_roundw;case rel=>
    have h5:=HO.out;rw[my_ l j hlt] at h5;obtain⟨h6,h7⟩:=Own.set (y:=k+j) h5 j (by simp[gg_]);exact⟨j+1,by omega,by go_num,by congr 1;omega,by simpa [qO_] using h6,ob_ HG.out h7⟩
   case measure=>simp[intOf];omega
  ·go_wp2;go_ret;have he:j=l.length:=by omega
   subst he;refine⟨rfl,?_,HG.out⟩;simpa using HO.out
set_option maxHeartbeats 400000 in
theorem gW_(v:Value)(l:List Int)(k:Int)(w:World)(h:Ints w v (iota k l.length))(hk:0<=k)(hk2:k+l.length<=4611686018427387904):
  Calls tX_ 28 #[v,.int .i64 k] w λe w'=>e=.returned (.int .i64 (k+l.length))∧w=w':=by
 obtain⟨a,c,rfl,hm,hf⟩:=h.form;have HF:=Lib.hid hf;clear h hf;simp only[gg_] at hm ⊢;go_enter Tryz.func28,Tryz.ntmps28;go_wp2;go_loop [1,5] (λx i=>∃j:Nat,j<=l.length∧i=.int .i64 j∧x=.int .i64 (k+j)) (λ_ i=>l.length-(intOf i).toNat);case atStart=>exact⟨0,Nat.zero_le _,rfl,by simp⟩
 case round=>
  obtain⟨j,hj,rfl,rfl⟩:=hrel;by_cases hlt:j<l.length
  ·obtain⟨b,o,rfl,hc⟩:=HF.out j (by rw[gg_];exact hlt);have e:(iota k l.length).getD j 0=k+j:=by simp[iota,hlt]
   rw[e] at hc;clear e;have ht:((k+(j:Int)) !=(k+(j:Int)))=false:=by simp
   go_wp2;go_round;case rel=>exact⟨j+1,by omega,by go_num,by congr 1;omega⟩
   case measure=>simp[intOf];omega
  ·go_wp2;go_ret;have he:j=l.length:=by omega
   subst he;exact⟨rfl,rfl⟩
theorem lm_(n:Nat):(madeCells (Value.int .i64 0).cells (n*1)).toList=(List.replicate n (0:Int)).map (Value.int .i64):=by
 simp[Value.cells,toList_madeCells_one]
set_option maxHeartbeats 400000 in
theorem pH_(v:Value)(l:List Int)(w:World)(h:Ints w v l)(hl:l.length<=1048576):
  Calls tX_ 67 #[v] w λe w'=>∃r,e=.returned r∧Own w.heap.size w' r l∧Keeps w w':=by
 obtain⟨a,c,rfl,hm,hf⟩:=h.form;have HF:=Lib.hid hf;clear h hf;obtain⟨i0,hi,hz0,hz1,hz2⟩:=info_parts rY_;have HI:=Lib.hid hi;have HZ0:=Lib.hid hz0;have HZ1:=Lib.hid hz1;have HZ2:=Lib.hid hz2;clear hi hz0 hz1 hz2;go_enter Tryz.func67,Tryz.ntmps67;go_wp2_with (at_make;refine wpList_make_full _ rfl _ _ 41 rfl w.heap.size 3 i0 (.int .i64 0) 1 Tryz.underlying41 HI.out HZ0.out HZ1.out .i64 .i64 _ _ l.length rfl rfl rfl rfl (by rw[HZ2.out];omega) (by unfold maxLen;omega) (Nat.le_refl _) ?_;intro w1 hown hgr);rw[lm_] at hown;have H1:Hid (Own w.heap.size w1 (.slice (some ⟨w.heap.size,0,none⟩) l.length l.length) (List.replicate l.length 0)):=by show Own _ _ _ _;unfold Own;simpa using hown
 have H2:Hid (Below w.heap.size w w1):=(Below.refl _ _).grown hgr (Nat.le_refl _) (by simp);clear hown hgr;go_wp2;go_loopw [4] (λi wr=>∃j:Nat,j<=l.length∧i=.int .i64 j∧Own w.heap.size wr (.slice (some ⟨w.heap.size,0,none⟩) l.length l.length) (l.take j++List.replicate (l.length-j) 0)∧Keeps w wr) (λi _=>l.length-(intOf i).toNat);case atStart=>exact⟨0,Nat.zero_le _,rfl,by simpa using H1.out,H2.out⟩
 case round=>
  obtain⟨j,hj,rfl,hown,hgr⟩:=hrel;have HO:=Lib.hid hown;have HG:=Lib.hid hgr;clear hown hgr H1 H2;by_cases hlt:j<l.length
  ·obtain⟨b,o,rfl,hc⟩:=HF.out j hlt;have hcr:wr.cell? ⟨b,o+j,none⟩=some (.int .i64 (l.getD j 0)):=by rw[Below.cell HG.out (World.block_lt_of_cell? w _ hc)];exact hc
   obtain⟨g,cap,hv,hc2⟩:=HO.out.form (by simp;omega);simp only[Value.slice.injEq,Option.some.injEq,Addr.mk.injEq] at hv;obtain⟨⟨rfl,-⟩,-,rfl⟩:=hv;obtain⟨hc3,hc4⟩:=hc2 j (by simp;omega);have hc3':∃u,wr.cell? ⟨w.heap.size,j,none⟩=some u:=⟨_,hc3⟩;clear hc2 hc3 hc;obtain⟨u,hc3⟩:=hc3';generalize hx:l.getD j 0=x at hcr;have Hx:=Lib.hid hx;clear hx;go_wp2;go_roundw;case rel=>
    have h5:=HO.out;obtain⟨q,hq⟩:∃q,l.length-j=q+1:=⟨l.length-j-1,by omega⟩;rw[hq,List.replicate_succ] at h5;obtain⟨h6,h7⟩:=Own.set (y:=x) h5 j (by simp;omega);refine⟨j+1,by omega,by go_num,?_,HG.out.setCell (Nat.le_refl _) _⟩;rw[ku_ hlt,Hx.out,show l.length-(j+1)=q by omega];simpa using h6
   case measure=>simp[intOf];omega
  ·go_wp2;go_ret;have he:j=l.length:=by omega
   subst he;refine⟨_,rfl,by simpa using HO.out,HG.out⟩
end
section
open Go.RowKit
def IntRows(w:World)(v:Value)(LL:List (List Int)):Prop:=∃vs:List Value,Sl w v vs∧vs.length=LL.length∧∀i,i<vs.length->Ints w (vs.getD i undef) (LL.getD i [])
theorem IntRows.keep{w w':World}{v:Value}{LL:List (List Int)}(h:IntRows w v LL)(k:Keeps w w'):IntRows w' v LL:=by
 obtain⟨vs,h1,h2,h3⟩:=h;exact⟨vs,h1.keep k,h2,λi hi=>(h3 i hi).keep k⟩
theorem IntRows.form{w:World}{v:Value}{LL:List (List Int)}(h:IntRows w v LL):
  ∃a c,v=.slice a LL.length c∧LL.length<=9223372036854775807∧
   ∀i,i<LL.length->∃b o u,a=some ⟨b,o,none⟩∧w.cell? ⟨b,o+i,none⟩=some u∧Ints w u (LL.getD i []):=by
 obtain⟨vs,h1,h2,h3⟩:=h;obtain⟨a,c,rfl,h4,h5⟩:=h1.form;rw[h2] at h4;refine⟨a,c,by rw[h2],h4,λi hi=>?_⟩;obtain⟨b,o,rfl,hc⟩:=h5 i (by omega);exact⟨b,o,_,rfl,hc,h3 i (by omega)⟩
theorem rj_:(tX_.info? 41).map (λi=>(i.zero,i.size,i.bytes))=some (some (.slice none 0 0),1,24):=by kernel_rfl
theorem gm_{e e':TypeId}{B C s s' n m:Nat}{w:World}{v u:Value}{xs ys:List Value}(hne:e≠e')(h:w.ownsRow B e s v n xs)(k:w.ownsRow C e' s' u m ys):Apart v u:=by
 unfold Apart;rcases h.2 with⟨rfl,_⟩|⟨g,cap,cur,rfl,_,hg,_⟩
 ·exact .inl rfl
 ·rcases k.2 with⟨rfl,_⟩|⟨g',cap',cur',rfl,_,hg',_⟩
  ·exact .inr (by simp[Value.ownBlock])
  ·refine .inr λe=>?_;have:g=g':=by simpa [Value.ownBlock] using e
   subst this;rw[hg] at hg';simp at hg';exact hne hg'.2
theorem Own.sl{B:Nat}{w:World}{v:Value}{l:List Int}(h:Own B w v l):∃a n c,v=.slice a n c:=by
 obtain⟨a,c,h1,_⟩:=h.len;exact⟨a,_,c,h1⟩
structure MatIn (B:Nat) (w:World) (v:Value) (vs:List Value) (LL:List (List Int)):Prop where
  row:w.ownsRow B 41 1 v LL.length vs
  own:∀i,i<LL.length->Own B w (vs.getD i undef) (LL.getD i [])
  apart:∀i j,i<LL.length->j<LL.length->i≠j->Apart (vs.getD i undef) (vs.getD j undef)
section
variable {B:Nat} {w w':World} {v:Value} {vs:List Value} {LL:List (List Int)}
theorem MatIn.len(h:MatIn B w v vs LL):vs.length=LL.length:=by simpa using h.row.1
theorem MatIn.keep(h:MatIn B w v vs LL)(k:Keeps w w'):MatIn B w' v vs LL:=⟨jS_ h.row k,λi hi=>(h.own i hi).keep k,h.apart⟩
theorem MatIn.kept{r:Option Nat}(h:MatIn B w v vs LL)(hg:w.grownBy w' r)(hv:v.ownBlock=none∨v.ownBlock≠r)(hvs:∀i,i<LL.length->(vs.getD i undef).ownBlock=none∨(vs.getD i undef).ownBlock≠r):MatIn B w' v vs LL:=
 ⟨World.ownsRow.kept h.row hg hv,λi hi=>World.ownsRow.kept (h.own i hi) hg (hvs i hi),h.apart⟩
theorem MatIn.rows(h:MatIn B w v vs LL):IntRows w v LL:=by
 have hl:=h.len;refine⟨vs,qB_ (B:=B) (e:=41) (by rw[hl];exact h.row),hl,λi hi=>(h.own i (by omega)).ints⟩
theorem MatIn.form(h:MatIn B w v vs LL)(hn:0<LL.length):
  ∃g cap,v=.slice (some ⟨g,0,none⟩) LL.length cap∧∀i,i<LL.length->w.cell? ⟨g,i,none⟩=some (vs.getD i undef)∧w.frozen? ⟨g,i,none⟩=false:=by
 obtain⟨g,cap,rfl,_,_⟩:=World.ownsRow.form h.row hn;refine⟨g,cap,rfl,λi hi=>⟨?_,World.ownsRow.frozenAt h.row i⟩⟩;rw[World.ownsRow.cellAt h.row i (by omega)];have:=h.len;simp[show i<vs.length by omega]
end
theorem eb_{α:Type}(l:List α)(i:Nat)(x d:α)(h:i<l.length):(l.set i x).getD i d=x:=by simp[h]
theorem getD_set_ne{α:Type}(l:List α)(i j:Nat)(x d:α)(h:j≠i):(l.set i x).getD j d=l.getD j d:=by
 simp[List.getElem?_set,Ne.symm h]
theorem MatIn.made{B:Nat}{w:World}{v:Value}{n:Nat}(h:w.ownsRow B 41 1 v n (List.replicate n (.slice none 0 0))):MatIn B w v (List.replicate n (.slice none 0 0)) (List.replicate n []):=by
 refine⟨by simpa using h,λi hi=>?_,λi j hi hj _=>?_⟩
 ·simp only[List.length_replicate] at hi;simp[List.getD_eq_getElem?_getD,List.getElem?_replicate,hi];exact Own.nil _ _
 ·simp only[List.length_replicate] at hi;left;simp[List.getD_eq_getElem?_getD,List.getElem?_replicate,hi,Value.ownBlock]
theorem jj_(n:Nat):(madeCells (Value.slice none 0 0).cells (n*1)).toList=List.replicate n (.slice none 0 0):=by
 simp[Value.cells,toList_madeCells_one]
end
section
open Go.RowKit
structure Chg (B C:Nat) (w w':World):Prop where
  os:w'.os=w.os
  tape:w'.tape=w.tape
  output:w'.output=w.output
  size:w.heap.size<=w'.heap.size
  block:∀k,k<w.heap.size->¬(B<=k∧k<C)->w'.heap[k]? =w.heap[k]?
section
variable {B C B' C':Nat} {w w' w'':World}
theorem Chg.refl(B C:Nat)(w:World):Chg B C w w:=⟨rfl,rfl,rfl,Nat.le_refl _,λ_ _ _=>rfl⟩
theorem Chg.trans(h:Chg B C w w')(k:Chg B C w' w''):Chg B C w w'':=
 ⟨k.os.trans h.os,k.tape.trans h.tape,k.output.trans h.output,Nat.le_trans h.size k.size,λi hi hr=>(k.block i (Nat.lt_of_lt_of_le hi h.size) hr).trans (h.block i hi hr)⟩
theorem Keeps.chg(h:Keeps w w')(B C:Nat):Chg B C w w':=⟨h.os,h.tape,h.output,h.size,λk hk _=>h.block k hk⟩
theorem Chg.of_grown{r:Option Nat}(h:w.grownBy w' r)(hr:∀k,r=some k->B<=k∧k<C):Chg B C w w':=
 ⟨h.os,h.tape,h.output,h.size,λk hk hn=>h.block k hk λe=>hn (hr k e.symm)⟩
theorem Chg.keeps{w0:World}(h:Chg B C w w')(k:Keeps w0 w)(hB:w0.heap.size<=B):Keeps w0 w':=
 ⟨h.os.trans k.os,h.tape.trans k.tape,h.output.trans k.output,Nat.le_trans k.size h.size,λi hi=>(h.block i (Nat.lt_of_lt_of_le hi k.size) (by omega)).trans (k.block i hi)⟩
theorem Chg.mono(h:Chg B C w w')(hB:B'<=B)(hC:C<=C'):Chg B' C' w w':=
 ⟨h.os,h.tape,h.output,h.size,λk hk hn=>h.block k hk (by omega)⟩
theorem hK_{D:Nat}{e:TypeId}{size:Nat}{v:Value}{n:Nat}{xs:List Value}(h:w.ownsRow D e size v n xs)(c:Chg B C w w')(hv:∀k,v.ownBlock=some k->¬(B<=k∧k<C)):w'.ownsRow D e size v n xs:=by
 obtain⟨h1,h2⟩:=h;refine⟨h1,?_⟩;rcases h2 with h2|⟨g,cap,cur,rfl,hg,hh,r⟩
 ·exact .inl h2
 ·exact .inr ⟨g,cap,cur,rfl,hg,by rw[c.block g (Array.getElem?_eq_some_iff.1 hh).1 (hv g rfl)];exact hh,r⟩
end
structure OwI (B C:Nat) (w:World) (v:Value) (l:List Int):Prop where
  own:Own B w v l
  hi:∀k,v.ownBlock=some k->k<C
def OwM(B C:Nat)(w:World)(v:Value)(LL:List (List Int)):Prop:=
  ∃vs,MatIn B w v vs LL∧(∀k,v.ownBlock=some k->k<C)∧∀i,i<LL.length->∀k,(vs.getD i undef).ownBlock=some k->k<C
section
variable {B C B' C':Nat} {w w' w'':World} {v:Value} {l:List Int} {LL:List (List Int)} {vs:List Value}
theorem OwI.ints(h:OwI B C w v l):Ints w v l:=h.own.ints
theorem OwI.keep(h:OwI B C w v l)(k:Keeps w w'):OwI B C w' v l:=⟨h.own.keep k,h.hi⟩
theorem OwI.chg(h:OwI B C w v l)(c:Chg B' C' w w')(hd:C<=B'∨C'<=B):OwI B C w' v l:=
 ⟨hK_ h.own c λk hk=>by have:=h.hi k hk;have:=(h.own.lt k hk).1;omega,h.hi⟩
theorem MatIn.owM(h:MatIn B w v vs LL):OwM B w.heap.size w v LL:=
 ⟨vs,h,λk hk=>(World.ownsRow.lt h.row k hk).2,λi hi k hk=>((h.own i hi).lt k hk).2⟩
theorem OwM.rows(h:OwM B C w v LL):IntRows w v LL:=by obtain⟨vs,h,_⟩:=h;exact h.rows
theorem OwM.keep(h:OwM B C w v LL)(k:Keeps w w'):OwM B C w' v LL:=by obtain⟨vs,h,h1,h2⟩:=h;exact⟨vs,h.keep k,h1,h2⟩
theorem OwM.mono(h:OwM B C w v LL)(hB:B'<=B)(hC:C<=C'):OwM B' C' w v LL:=by
 obtain⟨vs,h,h1,h2⟩:=h;exact⟨vs,⟨World.ownsRow.mono h.row hB,λi hi=>(h.own i hi).mono hB,h.apart⟩,λk hk=>Nat.lt_of_lt_of_le (h1 k hk) hC,λi hi k hk=>Nat.lt_of_lt_of_le (h2 i hi k hk) hC⟩
theorem OwM.chg(h:OwM B C w v LL)(c:Chg B' C' w w')(hd:C<=B'∨C'<=B):OwM B C w' v LL:=by
 obtain⟨vs,h,h1,h2⟩:=h;refine⟨vs,⟨hK_ h.row c λk hk=>?_,λi hi=>hK_ (h.own i hi) c λk hk=>?_,h.apart⟩,h1,h2⟩
 ·have:=h1 k hk;have:=(World.ownsRow.lt h.row k hk).1;omega
 ·have:=h2 i hi k hk;have:=((h.own i hi).lt k hk).1;omega
end
theorem MatIn.set_{B:Nat}{w:World}{g n cap:Nat}{vs:List Value}{LL:List (List Int)}{i:Nat}{l:List Int}{r:Value}(h:MatIn B w (.slice (some ⟨g,0,none⟩) n cap) vs LL)(hi:i<LL.length)
  (hr:Own B w r l) (ap:∀j,j<LL.length->j≠i->Apart r (vs.getD j undef)):
  MatIn B (w.setCell ⟨g,i,none⟩ r) (.slice (some ⟨g,0,none⟩) n cap) (vs.set i r) (LL.set i l):=by
 have hl:=h.len;have n1:(41:TypeId)≠3:=by decide
 have hr1:=h.row;obtain⟨gg,cc,he,_⟩:=World.ownsRow.form hr1 (by omega);simp only[Value.slice.injEq,Option.some.injEq,Addr.mk.injEq,and_true,true_and] at he;obtain⟨rfl,hn,rfl⟩:=he;subst hn;obtain⟨h1,h2⟩:=World.ownsRow.stored hr1 i r;have far:∀{u:Value}{l:List Int},Own B w u l->Own B (w.setCell ⟨g,i,none⟩ r) u l:=λ{u l} hu=>
  World.ownsRow.kept hu h2 (gm_ n1.symm hu hr1)
 refine⟨by simpa using h1,λj hj=>?_,λj k' hj hk hne=>?_⟩
 ·simp only[List.length_set] at hj;by_cases hji:j=i
  ·subst hji;rw[eb_ _ _ _ _ (by omega),eb_ _ _ _ _ hi];exact far hr
  ·rw[getD_set_ne _ _ _ _ _ hji,getD_set_ne _ _ _ _ _ hji];exact far (h.own j hj)
 ·simp only[List.length_set] at hj hk;by_cases hji:j=i
  ·subst hji;rw[eb_ _ _ _ _ (by omega),getD_set_ne _ _ _ _ _ (Ne.symm hne)];exact ap k' hk (Ne.symm hne)
  ·rw[getD_set_ne _ _ _ _ _ hji];by_cases hki:k'=i
   ·subst hki;rw[eb_ _ _ _ _ (by omega)];exact(ap j hj hji).symm
   ·rw[getD_set_ne _ _ _ _ _ hki];exact h.apart j k' hj hk hne
theorem MatIn.wrote{B:Nat}{w w':World}{v:Value}{vs:List Value}{LL:List (List Int)}{i:Nat}{l:List Int}(h:MatIn B w v vs LL)(hi:i<LL.length)(hg:w.grownBy w' (vs.getD i undef).ownBlock)(hr:Own B w' (vs.getD i undef) l):
  MatIn B w' v vs (LL.set i l):=by
 have n1:(41:TypeId)≠3:=by decide
 refine⟨by rw[List.length_set];exact World.ownsRow.kept h.row hg (gm_ n1 h.row (h.own i hi)),λj hj=>?_,λj k hj hk hne=>h.apart j k (by simpa using hj) (by simpa using hk) hne⟩;simp only[List.length_set] at hj;by_cases hji:j=i
 ·subst hji;rw[eb_ _ _ _ _ hi];exact hr
 ·rw[getD_set_ne _ _ _ _ _ hji];exact(h.own j hj).kept hg (h.apart j i hj hi hji)
theorem nf_{α:Type}(LL:List α)(d:α)(j:Nat)(hlt:j<LL.length):(LL.take j++List.replicate (LL.length-j) d).set j (LL.getD j d)=LL.take (j+1)++List.replicate (LL.length-(j+1)) d:=by
 have hl:(LL.take j).length=j:=by simp;omega
 obtain⟨q,hq⟩:∃q,LL.length-j=q+1:=⟨LL.length-j-1,by omega⟩;rw[hq,List.replicate_succ,List.set_append_right _ _ (by omega),hl,Nat.sub_self,List.set_cons_zero,show LL.length-(j+1)=q by omega,List.take_succ_eq_append_getElem hlt,List.append_assoc,List.getD_eq_getElem?_getD,List.getElem?_eq_getElem hlt];rfl
def off(LL:List (List Int))(i:Nat):Nat:=((LL.take i).map List.length).sum
def tot(LL:List (List Int)):Nat:=LL.length+off LL LL.length
theorem hj_(LL:List (List Int))(i:Nat)(h:i<LL.length):off LL (i+1)=off LL i+(LL.getD i []).length:=by
 unfold off;rw[List.take_succ_eq_append_getElem h,List.getD_eq_getElem?_getD,List.getElem?_eq_getElem h];simp only[List.map_append,List.sum_append,List.map_cons,List.map_nil,List.sum_cons,List.sum_nil,Option.getD_some,Nat.add_zero]
theorem lt_(LL:List (List Int)):∀(j i:Nat),i<=j->j<=LL.length->off LL i<=off LL j
 |0,i,h,_=>by rw[show i=0 by omega];exact Nat.le_refl _
 |j+1,i,h,hj=>by
  by_cases e:i=j+1
  ·rw[e];exact Nat.le_refl _
  ·have:=lt_ LL j i (by omega) (by omega);rw[hj_ LL j (by omega)];omega
theorem oh_(LL:List (List Int))(i:Nat)(h:i<=LL.length):off LL i<=tot LL:=by
 have:=lt_ LL LL.length i h (Nat.le_refl _);unfold tot;omega
theorem tT_(LL:List (List Int))(i:Nat)(h:i<LL.length):(LL.getD i []).length<=tot LL:=by
 have:=oh_ LL (i+1) (by omega);rw[hj_ LL i h] at this;omega
def szL(left:Int)(n:Nat):Int:=if(n:Int)<=left then left-n else -1
theorem gh_{k:IntKind}{a b:Int}(h:a=b):Ending.returned (.int k a)=.returned (.int k b):=by rw[h]
theorem pL_(v:Value)(l:List Int)(left:Int)(w:World)(h:Ints w v l)(h0:0<=left)(h1:left<=1048576):
  Calls tX_ 64 #[v,.int .i64 left] w λe w'=>e=.returned (.int .i64 (szL left l.length))∧w=w':=by
 obtain⟨a,c,rfl,hm,hf⟩:=h.form;clear h hf;have HS:Hid (szL left l.length=if(l.length:Int)<=left then left-l.length else -1):=rfl;by_cases hc:(l.length:Int)<=left
 ·have hc':¬left-(l.length:Int)<0:=by omega
  go_enter wM_,wN_;go_wp2;go_ret;exact⟨gh_ (by rw[HS.out,if_pos hc]),rfl⟩
 ·have hc':left-(l.length:Int)<0:=by omega
  go_enter wM_,wN_;go_wp2;go_ret;exact⟨gh_ (by rw[HS.out,if_neg (by omega)]),rfl⟩
set_option maxHeartbeats 800000 in
theorem fg_(v:Value)(LL:List (List Int))(left:Int)(w:World)(h:IntRows w v LL)(h0:0<=left)(h1:left<=1048576):
  Calls tX_ 39 #[v,.int .i64 left] w λe w'=>e=.returned (.int .i64 (szL left (tot LL)))∧w=w':=by
 obtain⟨a,c,rfl,hm,hf⟩:=h.form;have HF:=Lib.hid hf;clear h hf;have HS:Hid (szL left (tot LL)=if(tot LL:Int)<=left then left-tot LL else -1):=rfl;have HT:Hid (tot LL=LL.length+off LL LL.length):=rfl;by_cases hc:(LL.length:Int)<=left
 ·have hc':¬left-(LL.length:Int)<0:=by omega
  go_enter wO_,wP_;go_wp2;go_loop [1,5] (λx i=>∃j:Nat,j<=LL.length∧i=.int .i64 j∧x=.int .i64 (left-LL.length-off LL j)∧(off LL j:Int)<=left-LL.length) (λ_ i=>LL.length-(intOf i).toNat);case atStart=>exact⟨0,Nat.zero_le _,rfl,by simp[off],by simp[off];omega⟩
  case round=>
   obtain⟨j,hj,rfl,rfl,ho⟩:=hrel;by_cases hlt:j<LL.length
   ·obtain⟨b,o,u,rfl,hcell,hu⟩:=HF.out j hlt;have HU:=Lib.hid hu;have HO:=Lib.hid (hj_ LL j hlt);have HOM:=Lib.hid (lt_ LL LL.length (j+1) (by omega) (Nat.le_refl _));have HZ:Hid (szL (left-LL.length-off LL j) (LL.getD j []).length=if((LL.getD j []).length:Int)<=left-LL.length-off LL j then left-LL.length-off LL j-(LL.getD j []).length else -1):=rfl;clear hu;go_wp2_with fail;refine (pL_ _ _ _ _ HU.out (by omega) (by omega)).mono ?_;rintro e w' ⟨rfl,rfl⟩;by_cases hd:((LL.getD j []).length:Int)<=left-LL.length-off LL j
    ·rw[HZ.out,if_pos hd];have hd':¬left-(LL.length:Int)-(off LL j:Int)-((LL.getD j []).length:Int)<0:=by omega
     generalize hr:(LL.getD j []).length=r at*
     go_wp2;go_round;case rel=>exact⟨j+1,by omega,by go_num,by rw[HO.out];congr 1;omega,by rw[HO.out];omega⟩
     case measure=>simp[intOf];omega
    ·rw[HZ.out,if_neg hd];go_wp2;go_ret;refine⟨gh_ ?_,rfl⟩;have:=HT.out;have:=HO.out;have:=HOM.out;rw[HS.out,if_neg (by omega)]
   ·go_wp2;go_ret;have he:j=LL.length:=by omega
    subst he;refine⟨gh_ ?_,rfl⟩;have:=HT.out;rw[HS.out,if_pos (by omega)];omega
 ·have hc':left-(LL.length:Int)<0:=by omega
  go_enter wO_,wP_;go_wp2;go_ret;refine⟨gh_ ?_,rfl⟩;have:=HT.out;rw[HS.out,if_neg (by omega)]
set_option maxHeartbeats 800000 in
theorem kk_(v:Value)(LL:List (List Int))(w:World)(h:IntRows w v LL)(hl:tot LL<=1048576):
  Calls tX_ 42 #[v] w λe w'=>∃r,e=.returned r∧OwM w.heap.size w'.heap.size w' r LL∧Keeps w w':=by
 obtain⟨a,c,rfl,hm,hf⟩:=h.form;have HF:=Lib.hid hf;clear h hf;have hlen:LL.length<=1048576:=by unfold tot at hl;omega
 have HR:=Lib.hid (tT_ LL);obtain⟨i0,hi,hz0,hz1,hz2⟩:=info_parts rj_;have HI:=Lib.hid hi;have HZ0:=Lib.hid hz0;have HZ1:=Lib.hid hz1;have HZ2:=Lib.hid hz2;clear hi hz0 hz1 hz2;go_enter Tryz.func42,Tryz.ntmps42;go_wp2_with (at_make;refine wpList_make_full _ rfl _ _ 22 rfl w.heap.size 41 i0 (.slice none 0 0) 1 Tryz.underlying22 HI.out HZ0.out HZ1.out .i64 .i64 _ _ LL.length rfl rfl rfl rfl (by rw[HZ2.out];omega) (by unfold maxLen;omega) (Nat.le_refl _) ?_;intro w1 hown hgr);rw[jj_] at hown;have H1:Hid (MatIn w.heap.size w1 (.slice (some ⟨w.heap.size,0,none⟩) LL.length LL.length) (List.replicate LL.length (.slice none 0 0)) (List.replicate LL.length [])):=MatIn.made hown;have H2:Hid (Below w.heap.size w w1):=(Below.refl _ _).grown hgr (Nat.le_refl _) (by simp);clear hown hgr HI HZ0 HZ1 HZ2;go_wp2;go_loopw [4] (λi wr=>∃(j:Nat)(vs:List Value),j<=LL.length∧i=.int .i64 j∧MatIn w.heap.size wr (.slice (some ⟨w.heap.size,0,none⟩) LL.length LL.length) vs (LL.take j++List.replicate (LL.length-j) [])∧Keeps w wr) (λi _=>LL.length-(intOf i).toNat);case atStart=>exact⟨0,_,Nat.zero_le _,rfl,by simpa using H1.out,H2.out⟩
 case round=>
  obtain⟨j,vs,hj,rfl,hM,hK⟩:=hrel;have HM:=Lib.hid hM;have HK:=Lib.hid hK;clear hM hK H1 H2;by_cases hlt:j<LL.length
  ·obtain⟨b,o,u,rfl,hc0,hu0⟩:=HF.out j hlt;have hc:=k_ HK.out hc0;have HU:=Lib.hid (hu0.keep HK.out);have hrl:=HR.out j hlt;clear hc0 hu0;go_wp2_with fail;refine (pH_ _ _ _ HU.out (by omega)).mono ?_;rintro e w2 ⟨r,rfl,hO,hK2⟩;have hM2:=HM.out.keep hK2;have hjl:j<(LL.take j++List.replicate (LL.length-j) ([]:List Int)).length:=by simp;omega
   obtain⟨g,cap,hv,hcell⟩:=hM2.form (by omega);simp only[Value.slice.injEq,Option.some.injEq,Addr.mk.injEq] at hv;obtain⟨⟨rfl,-⟩,-,rfl⟩:=hv;obtain⟨c1,c2⟩:=hcell j hjl;have c1':∃u,w2.cell? ⟨w.heap.size,j,none⟩=some u:=⟨_,c1⟩;clear c1 hcell;obtain⟨u',c1⟩:=c1';have HN:=Lib.hid (hM2.set_ hjl (hO.mono HK.out.size) (λi hi _=>(Own.apart_old (HM.out.own i hi) hO (Nat.le_refl _)).symm));have HKN:Hid (Keeps w (w2.setCell ⟨w.heap.size,j,none⟩ r)):=(Keeps.trans HK.out hK2).setCell (Nat.le_refl _) _;obtain⟨ra,rn,rc,rfl⟩:=hO.sl;clear hM2 hO hK2 HU;go_wp2;go_roundw;case rel=>
    refine⟨j+1,vs.set j (.slice ra rn rc),by omega,by go_num,?_,HKN.out⟩;have h5:=HN.out;have e1:=nf_ LL [] j hlt;rw[e1] at h5;exact h5
   case measure=>simp[intOf];omega
  ·go_wp2;go_ret;have he:j=LL.length:=by omega
   subst he;have h5:=HM.out;rw[Nat.sub_self,List.replicate_zero,List.append_nil,List.take_length] at h5;exact⟨_,rfl,h5.owM,HK.out⟩
theorem lL_{la lb:List (List Int)}{k:Nat}(h:la.take k=lb.take k)(hl:la.length=lb.length)(hk:k<la.length)(he:la.getD k []=lb.getD k []):la.take (k+1)=lb.take (k+1):=by
 have hk':k<lb.length:=by omega
 rw[List.take_succ_eq_append_getElem hk,List.take_succ_eq_append_getElem hk',h];simp[List.getD_eq_getElem?_getD,hk,hk'] at he;rw[he]
set_option maxHeartbeats 800000 in
theorem eY_(va vb:Value)(la lb:List (List Int))(w:World)(ha:IntRows w va la)(hb:IntRows w vb lb):
  Calls tX_ 25 #[va,vb] w λe w'=>e=.returned (.bool (decide (la=lb)))∧Dr w w':=by
 have HAA:=Lib.hid ha;have HBB:=Lib.hid hb;obtain⟨a,ca,rfl,ma,fa⟩:=ha.form;obtain⟨b,cb,rfl,mb,fb⟩:=hb.form;clear fa fb ha hb;by_cases hl:la.length=lb.length
 ·have Hl:=Lib.hid hl;have hl':((la.length:Int) !=(lb.length:Int))=false:=by simp[hl]
  clear hl;go_enter wQ_,wR_;go_wp2;go_loopw [5] (λi wr=>∃k:Nat,k<=la.length∧i=.int .i64 k∧la.take k=lb.take k∧Dr w wr) (λi _=>la.length-(intOf i).toNat);case atStart=>exact⟨0,Nat.zero_le _,rfl,rfl,Dr.refl w⟩
  case round=>
   obtain⟨k,hk,rfl,ht,hD⟩:=hrel;have Ht:=Lib.hid ht;have HD:=Lib.hid hD;clear ht hD;by_cases hlt:k<la.length
   ·obtain⟨_,_,e1,_,fa⟩:=(HAA.out.keep HD.out.keeps).form;cases e1
    obtain⟨_,_,e2,_,fb⟩:=(HBB.out.keep HD.out.keeps).form;cases e2
    obtain⟨ba,oa,ua,rfl,hca,hua⟩:=fa k hlt;have hlt2:k<lb.length:=by have:=Hl.out;omega
    obtain⟨bb,ob,ub,rfl,hcb,hub⟩:=fb k hlt2;have HUA:=Lib.hid hua;have HUB:=Lib.hid hub;clear fa fb hua hub;generalize hx:la.getD k []=x at HUA;generalize hy:lb.getD k []=y at HUB;have Hx:=Lib.hid hx;have Hy:=Lib.hid hy;clear hx hy;have HC:∀n,Hid (Calls tX_ 24 #[ua,ub] (wr.drewN n) λe w'=>e=.returned (.bool (decide (x=y)))∧∃m,w'=(wr.drewN n).drewN m):=λn=>hp_ ua ub x y _ (HUA.out.keep ((Keeps.refl _).drewN n)) (HUB.out.keep ((Keeps.refl _).drewN n));cases hd:decide (x=y)
    ·have Hd:=Lib.hid hd;clear hd;go_wp2;go_quiet ((go_at_call 24;exact Calls.quiet_of (HC _).out));rw[Hd.out];go_wp2;go_ret;refine⟨?_,HD.out.more _⟩;have hne:la≠lb:=by
      intro h;have h1:=Hx.out;have h2:=Hy.out;have h3:=Hd.out;rw[h,h2] at h1;simp[h1] at h3
     simp[hne]
    ·have Hd:=Lib.hid hd;clear hd;go_wp2;go_quiet ((go_at_call 24;exact Calls.quiet_of (HC _).out));rw[Hd.out];go_wp2;go_roundw;case rel=>exact⟨k+1,by omega,by go_num,lL_ Ht.out Hl.out hlt (by rw[Hx.out,Hy.out];simpa using Hd.out),HD.out.more _⟩
     case measure=>simp[intOf];omega
   ·go_wp2;go_ret;refine⟨?_,HD.out⟩;have he:la=lb:=by
     have h1:=Ht.out;rw[List.take_of_length_le (by omega),List.take_of_length_le (by have:=Hl.out;omega)] at h1;exact h1
    simp[he]
 ·have hl':((la.length:Int) !=(lb.length:Int))=true:=by simp;omega
  have hne:Hid (decide (la=lb)=false):=by
   have:la≠lb:=λh=>hl (by rw[h]);show decide (la=lb)=false;simp[this]
  clear hl;go_enter wQ_,wR_;go_wp2;go_ret;exact⟨by rw[hne.out];rfl,Dr.refl w⟩
def numbered(k:Int)(LL:List (List Int))(j:Nat):List (List Int):=(List.range LL.length).map λi=>if i<j then iota (k+off LL i) (LL.getD i []).length else LL.getD i []
theorem bA_(k:Int)(LL:List (List Int))(j:Nat):(numbered k LL j).length=LL.length:=by simp[numbered]
theorem gv_(k:Int)(LL:List (List Int))(j i:Nat)(h:i<LL.length):(numbered k LL j).getD i []=if i<j then iota (k+off LL i) (LL.getD i []).length else LL.getD i []:=by
 simp[numbered,h]
theorem hM_(k:Int)(LL:List (List Int)):numbered k LL 0=LL:=by
 apply List.ext_getElem
 ·simp[numbered]
 ·intro i h1 h2;simp[numbered,h2]
theorem ie_(k:Int)(LL:List (List Int))(j:Nat)(h:j<LL.length):numbered k LL (j+1)=(numbered k LL j).set j (iota (k+off LL j) (LL.getD j []).length):=by
 apply List.ext_getElem
 ·simp[numbered]
 ·intro i h1 h2;rw[List.getElem_set];by_cases e:j=i
  ·subst e;simp[numbered]
  ·simp only[numbered,List.getElem_map,List.getElem_range,if_neg e];by_cases h3:i<j
   ·rw[if_pos h3,if_pos (by omega)]
   ·rw[if_neg h3,if_neg (by omega)]
set_option maxHeartbeats 800000 in
theorem hU_(B C:Nat)(v:Value)(LL:List (List Int))(k:Int)(w:World)(h:OwM B C w v LL)(hk:0<=k)(hk2:k+tot LL<=4611686018427387904):
  Calls tX_ 27 #[v,.int .i64 k] w λe w'=>e=.returned (.int .i64 (k+off LL LL.length))∧OwM B C w' v (numbered k LL LL.length)∧Chg B C w w':=by
 obtain⟨vs,hM0,hC1,hC2⟩:=h;have HM0:=Lib.hid hM0;have HC1:=Lib.hid hC1;have HC2:=Lib.hid hC2;obtain⟨a,c,rfl,hm,_⟩:=hM0.rows.form;clear hM0 hC1 hC2;have HO:=Lib.hid (oh_ LL);have HOS:=Lib.hid (hj_ LL);go_enter Tryz.func27,Tryz.ntmps27;go_wp2;go_loopw [1,5] (λx i wr=>∃j:Nat,j<=LL.length∧i=.int .i64 j∧x=.int .i64 (k+off LL j)∧MatIn B wr (.slice a LL.length c) vs (numbered k LL j)∧Chg B C w wr) (λ_ i _=>LL.length-(intOf i).toNat);case atStart=>exact⟨0,Nat.zero_le _,rfl,by simp[off],by rw[hM_];exact HM0.out,Chg.refl _ _ _⟩
 case round=>
  obtain⟨j,hj,rfl,rfl,hM,hG⟩:=hrel;have HM:=Lib.hid hM;have HG:=Lib.hid hG;clear hM hG;by_cases hlt:j<LL.length
  ·have hjl:j<(numbered k LL j).length:=by rw[bA_];exact hlt
   obtain⟨g,cap,hv,hcell⟩:=HM.out.form (by omega);simp only[Value.slice.injEq] at hv;obtain⟨rfl,-,rfl⟩:=hv;obtain⟨c1,c2⟩:=hcell j hjl;clear hcell;have hO:=HM.out.own j hjl;rw[gv_ k LL j j hlt,if_neg (Nat.lt_irrefl _)] at hO;have HOW:=Lib.hid hO;have b1:=HO.out (j+1) (by omega);have b2:=HOS.out j hlt;have HX:=Lib.hid (HC2.out j hlt);have HW:Hid (∀w' l,wr.grownBy w' (vs.getD j undef).ownBlock->Own B w' (vs.getD j undef) l->MatIn B w' (.slice (some ⟨g,0,none⟩) LL.length c) vs ((numbered k LL j).set j l)):=λw' l hg ho=>HM.out.wrote hjl hg ho;clear hO;generalize vs.getD j undef=u at c1 HOW HX HW;have hb:k+(off LL j:Int)+((LL.getD j []).length:Int)<=4611686018427387904:=by omega
   have B2:=Lib.hid b2;clear b2;have HNS:=Lib.hid (ie_ k LL j hlt);generalize LL.getD j []=r at HOW B2 hb HNS;go_wp2_with fail;refine (gL_ B _ _ _ _ HOW.out (by omega) hb).mono ?_;rintro e w2 ⟨rfl,hO2,hG2⟩;have HN:=Lib.hid (HW.out w2 _ hG2 hO2);have HGN:Hid (Chg B C w w2):=HG.out.trans (Chg.of_grown hG2 λq hq=>⟨(HOW.out.lt q hq).1,HX.out q hq⟩);clear hO2 hG2;go_wp2;go_roundw;case rel=>exact⟨j+1,by omega,by go_num,by rw[B2.out];congr 1;omega,by rw[HNS.out];exact HN.out,HGN.out⟩
   case measure=>simp[intOf];omega
  ·go_wp2;go_ret;have he:j=LL.length:=by omega
   subst he;exact⟨rfl,⟨vs,HM.out,HC1.out,λi hi=>HC2.out i (by rw[bA_] at hi;exact hi)⟩,HG.out⟩
set_option maxHeartbeats 800000 in
theorem lg_(v:Value)(LL:List (List Int))(k:Int)(w:World)(h:IntRows w v (numbered k LL LL.length))(hk:0<=k)(hk2:k+tot LL<=4611686018427387904):
  Calls tX_ 29 #[v,.int .i64 k] w λe w'=>e=.returned (.int .i64 (k+off LL LL.length))∧w=w':=by
 obtain⟨a,c,rfl,hm,hf⟩:=h.form;have HF:=Lib.hid hf;clear h hf;rw[bA_] at hm;simp only[bA_];have HO:=Lib.hid (oh_ LL);have HOS:=Lib.hid (hj_ LL);go_enter Tryz.func29,Tryz.ntmps29;go_wp2;go_loop [1,5] (λx i=>∃j:Nat,j<=LL.length∧i=.int .i64 j∧x=.int .i64 (k+off LL j)) (λ_ i=>LL.length-(intOf i).toNat);case atStart=>exact⟨0,Nat.zero_le _,rfl,by simp[off]⟩
 case round=>
  obtain⟨j,hj,rfl,rfl⟩:=hrel;by_cases hlt:j<LL.length
  ·obtain⟨b,o,u,rfl,hc,hu⟩:=HF.out j (by rw[bA_];exact hlt);rw[gv_ k LL _ j hlt,if_pos hlt] at hu;have HU:=Lib.hid hu;clear hu;have b1:=HO.out (j+1) (by omega);have b2:=HOS.out j hlt;have hb:k+(off LL j:Int)+((LL.getD j []).length:Int)<=4611686018427387904:=by omega
   have B2:=Lib.hid b2;clear b2;generalize hr:LL.getD j []=r at*
   clear hr;have hb':¬k+(off LL j:Int)+(r.length:Int)<0:=by omega
   go_wp2_with fail;refine (gW_ _ r _ _ HU.out (by omega) hb).mono ?_;rintro e w2 ⟨rfl,rfl⟩;go_wp2;go_round;case rel=>exact⟨j+1,by omega,by go_num,by rw[B2.out];congr 1;omega⟩
   case measure=>simp[intOf];omega
  ·go_wp2;go_ret;have he:j=LL.length:=by omega
   subst he;exact⟨rfl,rfl⟩
end
section
open Go.RowKit
theorem iV_(v:Value)(LL:List (List Int))(k:Int)(w:World)(h:IntRows w v (numbered k LL LL.length))(hk:0<=k)(hk2:k+tot LL<=4611686018427387904):
  Calls tX_ 29 #[v,.int .i64 k] w λe w'=>e=.returned (.int .i64 (k+off LL LL.length))∧Keeps w w':=
 (lg_ v LL k w h hk hk2).mono λe w' ⟨he,hw⟩=>⟨he,hw▸Keeps.refl _⟩
theorem tm_(LL:List (List Int)):off LL LL.length<=tot LL:=by unfold tot;omega
end
end Go.Proofs.YtdbbeldgdgonfaaGreat
