/- Part 30 of what this claim rests on (pack.py). -/
import Derived.Test.YtpefhaamcihneaaGreatP15
import Derived.Test.YtpefhaamcihneaaGreatP29
namespace Go.Proofs.YtpefhaamcihneaaGreat
set_option linter.unusedSimpArgs false
set_option linter.unusedVariables false
set_option maxRecDepth 100000
set_option maxHeartbeats 2000000
open Go.RowKit
section
theorem tb{α ρ:Type}{body:Int->α->Unit->Option (Lp Unit Unit ρ)}(Q:α->Prop)(R:Nat->α->ρ->Prop)(xs:List α)(h:∀(k:Nat) x,xs[k]? =some x->∃z,body (k:Int) x ()=some z∧((z=.go ()∧¬Q x)∨∃r,z=.ret r∧Q x∧R k x r)):
  ∀(d k:Nat),k+d=xs.length->∃z,forI body (xs.drop k) (k:Int) ()=some z∧((z=.inl ()∧∀(i:Nat) y,k<=i->xs[i]? =some y->¬Q y)∨∃r,∃j:Nat,∃x,z=.inr r∧xs[j]? =some x∧Q x∧R j x r∧∀(i:Nat) y,k<=i->i<j->xs[i]? =some y->¬Q y)
 |0,k,q=>⟨_,by rw[Fp (by omega)];rfl,.inl ⟨rfl,λi y f g=>by have:=(Y_.1 g).1;omega⟩⟩
 | d+1,k,q=>by
  have n:xs[k]? =some xs[k]:=x_ om;obtain⟨z,f,g⟩:=h k _ n;rw[dt om];rcases g with⟨rfl,w⟩|⟨r,rfl,t,u⟩
  ·obtain⟨z,A,m⟩:=tb Q R xs h d (k+1) om;refine⟨z,by simp only[forI,f];exact A,?_⟩;have a:∀(i:Nat) y,k<=i->xs[i]? =some y->i=k->¬Q y:=λi y _ b e=>by
    subst e;rw[n] at b;cases b
    exact w
   rcases m with⟨rfl,m⟩|⟨r,j,x,rfl,s,p,v,B⟩
   ·refine .inl ⟨rfl,λi y hi b=>?_⟩;by_cases e:i=k
    ·exact a i y hi b e
    ·exact m i y om b
   ·refine .inr ⟨r,j,x,rfl,s,p,v,λi y hi o b=>?_⟩;by_cases e:i=k
    ·exact a i y hi b e
    ·exact B i y om o b
  ·exact⟨_,by simp only[forI,f],.inr ⟨r,k,_,rfl,n,t,u,λi y f g=>om⟩⟩
theorem pk{α ρ:Type}{body:Int->α->Unit->Option (Lp Unit Unit ρ)}(Q:α->Prop)(R:Nat->α->ρ->Prop)(xs:List α)(h:∀(k:Nat) x,xs[k]? =some x->∃z,body (k:Int) x ()=some z∧((z=.go ()∧¬Q x)∨∃r,z=.ret r∧Q x∧R k x r)):
  ∃z,forI body xs 0 ()=some z∧((z=.inl ()∧∀(i:Nat) y,xs[i]? =some y->¬Q y)∨∃r,∃j:Nat,∃x,z=.inr r∧xs[j]? =some x∧Q x∧R j x r∧∀(i:Nat) y,i<j->xs[i]? =some y->¬Q y):=by
 obtain⟨z,g,m⟩:=tb Q R xs h xs.length 0 om;rw[aG] at g;exact⟨z,g,m.imp (λ⟨a,b⟩=>⟨a,λi y f=>b i y (bj _) f⟩) (λ⟨r,j,x,a,b,c,d,e⟩=>⟨r,j,x,a,b,c,d,λi y hi f=>e i y (bj _) hi f⟩)⟩
theorem sM{σ ρ:Type}{body:Int->σ->Option (Lp σ σ ρ)}(s:σ)(Q:Nat->Prop)(R:Nat->σ->Prop)(n:Nat)(h:∀k:Nat,k<n->∃z,body (k:Int) s=some z∧((z=.go s∧¬Q k)∨∃s',z=.out s'∧Q k∧R k s')):
  ∀(d k:Nat),k+d=n->∃s',forN body d (k:Int) s=some (.inl s')∧((s'=s∧∀i,k<=i->i<n->¬Q i)∨∃j,j<n∧Q j∧R j s'∧∀i,k<=i->i<j->¬Q i)
 |0,k,t=>⟨s,rfl,.inl ⟨rfl,λi b g=>by omega⟩⟩
 | d+1,k,t=>by
  obtain⟨z,b,g⟩:=h k om;rcases g with⟨rfl,o⟩|⟨s',rfl,v,x⟩
  ·obtain⟨s',w,f⟩:=sM s Q R n h d (k+1) om;refine⟨s',by simp only[forN,b];exact w,?_⟩;rcases f with⟨e,f⟩|⟨j,u,p,y,A⟩
   ·refine .inl ⟨e,λi m a=>?_⟩;by_cases q:i=k
    ·subst q;exact o
    ·exact f i om a
   ·refine .inr ⟨j,u,p,y,λi m a=>?_⟩;by_cases q:i=k
    ·subst q;exact o
    ·exact A i om a
  ·exact⟨s',by simp only[forN,b],.inr ⟨k,om,v,x,λi m a=>om⟩⟩
def badE(E:List (List Int))(a b:Int):Prop:=srt [a,b] ∉ E
theorem nO{E:List (List Int)}{a b:Int}(h:badE E a b):badE E b a:=by
 unfold badE at h ⊢;rwa [fN (List.Perm.swap a b [])]
structure FB (E:List (List Int)) (x:List Int) (k m:Nat) (a b:Int):Prop where
  hk:x[k]? =some a
  hm:x[m]? =some b
  le:k<=m
  bad:badE E a b
  fst:∀(i:Nat) y(j:Nat) z,i<k->x[i]? =some y->x[j]? =some z->¬badE E y z
  snd:∀(j:Nat) z,j<m->x[j]? =some z->¬badE E a z
def PB(E:List (List Int))(x l:List Int):Prop:=∃k m a b,FB E x k m a b∧l=[a,b]
theorem PB.uniq{E:List (List Int)}{x l i:List Int}(h:PB E x l)(d:PB E x i):l=i:=by
 obtain⟨k,m,a,b,h,rfl⟩:=h;obtain⟨k',e,g,f,d,rfl⟩:=d;have j:k=k':=by
  rcases oW k k' with q|q|q
  ·exact absurd h.bad (d.fst k a m b q h.hk h.hm)
  ·exact q
  ·exact absurd d.bad (h.fst k' g e f q d.hk d.hm)
 subst j;have n:a=g:=Option.some.inj (h.hk.symm.trans d.hk);subst n;have o:m=e:=by
  rcases oW m e with q|q|q
  ·exact absurd h.bad (d.snd m b q h.hm)
  ·exact q
  ·exact absurd d.bad (h.snd e f q d.hm)
 subst o;have p:b=f:=Option.some.inj (h.hm.symm.trans d.hm);rw[p]
open Classical in
noncomputable def bpr(E:List (List Int))(x:List Int):Option (List Int):=if h:∃l,PB E x l then some h.choose else none
theorem pX{E:List (List Int)}{x l:List Int}(h:PB E x l):bpr E x=some l:=by
 unfold bpr;rw[dif_pos ⟨l,h⟩];exact congrArg some (PB.uniq (Exists.choose_spec (⟨l,h⟩:∃l,PB E x l)) h)
theorem vw{E:List (List Int)}{x:List Int}(h:∀a∈x,∀b∈x,¬badE E a b):bpr E x=none:=by
 unfold bpr;refine dif_neg λ⟨l,k,m,a,b,d,_⟩=>h a (aE d.hk) b (aE d.hm) d.bad
theorem qs(p:c_)(x:List Int):∃i j b,jw p x x=some (i,j,b)∧((b=false∧∀a∈x,∀c∈x,¬badE p.Edges a c)∨(b=true∧∃a c,ix x i=some a∧ix x j=some c∧PB p.Edges x [a,c])):=by
 have A:∀(i:Nat) a,∃z,forI (iZ p (i:Int) a) x 0 ()=some z∧((z=.inl ()∧∀(k:Nat) y,x[k]? =some y->¬badE p.Edges a y)∨∃r,∃k:Nat,∃y,z=.inr r∧x[k]? =some y∧badE p.Edges a y∧r=((i:Int),(k:Int),true)∧∀(j:Nat) z,j<k->x[j]? =some z->¬badE p.Edges a z):=λi a=>
  pk (body:=iZ p (i:Int) a) (λc=>badE p.Edges a c) (λk c(r:Int×Int×Bool)=>r=((i:Int),(k:Int),true)) x (λk c _=>by
   unfold iZ;rw[vA,sb];by_cases f:srt [a,c]∈p.Edges
   ·exact⟨_,by rw[if_neg (su f)],.inl ⟨rfl,λJ=>J f⟩⟩
   ·exact⟨_,by rw[if_pos (su f)],.inr ⟨_,rfl,f,rfl⟩⟩)
 obtain⟨z,q,t⟩:=pk (body:=lv p x) (λa=>∃k:Nat,∃y,x[k]? =some y∧badE p.Edges a y) (λi a(r:Int×Int×Bool)=>∃k:Nat,∃y,x[k]? =some y∧badE p.Edges a y∧r=((i:Int),(k:Int),true)∧∀(j:Nat) z,j<k->x[j]? =some z->¬badE p.Edges a z) x (λi a _=>by
  obtain⟨z,q,t⟩:=A i a;unfold lv;rw[q,sb];rcases t with⟨rfl,e⟩|⟨r,k,y,rfl,C,B,H,F⟩
  ·exact⟨_,rfl,.inl ⟨rfl,λ⟨k,y,n,g⟩=>e k y n g⟩⟩
  ·exact⟨_,rfl,.inr ⟨r,rfl,⟨k,y,C,B⟩,k,y,C,B,H,F⟩⟩)
 unfold jw;rw[q,sb];rcases t with⟨rfl,e⟩|⟨r,k,a,rfl,n,-,⟨m,y,w,g,rfl,o⟩,d⟩
 ·refine⟨0,0,false,rfl,.inl ⟨rfl,λa G c f g=>?_⟩⟩;obtain⟨i,hi⟩:=bS.1 G;obtain⟨j,D⟩:=bS.1 f;exact e i a hi ⟨j,c,D,g⟩
 ·refine⟨k,m,true,rfl,.inr ⟨rfl,a,y,by rw[aq,n],by rw[aq,w],k,m,a,y,⟨n,w,?_,g,λi u j v hi I E h=>d i u hi I ⟨j,v,E,h⟩,o⟩,rfl⟩⟩;refine FC λs=>d m y s w ⟨k,a,n,nO g⟩
theorem Cl(d:Nat)(p:c_)(h:probB p=true)(q:p.Edges.length<=1000000000)(u:p.Edges.length<d)(a:Int)(f:List Int):
  ∃l b,eU d p [a] f=some (l,b)∧((b=false∧∀(j:Nat) c,f[j]? =some c->¬badE p.Edges a c)∨(b=true∧∃j:Nat,∃c,f[j]? =some c∧badE p.Edges a c∧l=[a,c]∧∀(i:Nat) z,i<j->f[i]? =some z->¬badE p.Edges a z)):=by
 obtain⟨z,n,s⟩:=pk (body:=eO d p a) (λc=>badE p.Edges a c) (λk c(r:List Int×Bool)=>r=([a,c],true)) f (λk c _=>by
  unfold eO;rw[qF d p h a c q u,sb];by_cases g:srt [a,c]∈p.Edges
  ·exact⟨_,by rw[if_neg (su g)],.inl ⟨rfl,λt=>t g⟩⟩
  ·exact⟨_,by rw[if_pos (su g)],.inr ⟨_,rfl,g,rfl⟩⟩)
 unfold eU;rcases s with⟨rfl,m⟩|⟨r,j,c,rfl,o,v,rfl,e⟩
 ·exact⟨[],false,by simp only[forI,fD,n,sb],.inl ⟨rfl,m⟩⟩
 ·exact⟨[a,c],true,by simp only[forI,fD,n,sb],.inr ⟨rfl,j,c,o,v,rfl,e⟩⟩
def zgB(p:c_):Prop:=∃x∈p.Nodes,∀a∈x,∀c∈x,¬badE p.Edges a c
open Classical in
noncomputable def refV(p:c_):List (List Int)×Bool:=if probB p=true∧¬zgB p then(p.Nodes.map λx=>(bpr p.Edges x).getD [],true) else([],false)
theorem DG(p:c_)(q:∀x∈p.Nodes,x.length<=1000000000):∃l b,lL p=some (l,b)∧(b=true<->zgB p):=by
 obtain⟨z,o,s⟩:=iW (body:=lc p) (λx=>∀a∈x,∀c∈x,¬badE p.Edges a c) (λr:List Int×Bool=>r.2=true) p.Nodes 0 (λx h j=>by
  obtain⟨i,j,b,n,v⟩:=qs p x;unfold lc nw;rw[n,sb,sb];rcases v with⟨rfl,d⟩|⟨rfl,a,c,-,-,k,m,_,_,f,-⟩
  ·exact⟨_,by rw[if_pos (by rfl),dm x (q x h),sb],.inr ⟨_,rfl,rfl,d⟩⟩
  ·exact⟨_,by rw[if_neg sy],.inl ⟨rfl,λg=>g _ (aE f.hk) _ (aE f.hm) f.bad⟩⟩)
 unfold lL;rw[o,sb];rcases s with⟨rfl,e⟩|⟨⟨l,b⟩,rfl,u,t⟩
 ·exact⟨[],false,rfl,sy,λ⟨x,h,g⟩=>absurd g (e x h)⟩
 ·exact⟨l,b,rfl,λ_=>t,λ_=>u⟩
theorem xo(e:Nat)(F:1000000000<=e)(p:c_)(H:p.Nodes.length<=100000000)(G:p.Edges.length<=100000000):gZ e p=some (refV p):=by
 unfold gZ refV;rw[jC e om p om om,sb];cases v:probB p
 ·rw[if_pos (by rfl),if_neg sy]
 ·obtain⟨E,B,D,C,y,-⟩:=aO v;obtain⟨l,b,q,n⟩:=DG p (λx A=>by have:=((cx y).1 x A).1;omega);rw[if_neg sy,q,sb];cases b
  ·have g:¬zgB p:=λg=>by simpa using n.2 g
   have d:=lD (body:=ku p) (λj=>(p.Nodes.take j).map λx=>(bpr p.Edges x).getD []) p.Nodes (λj x m=>by
    obtain⟨i,k,b,o,w⟩:=qs p x;have hi:=(Y_.1 m).1;unfold ku;rw[o,sb];rcases w with⟨rfl,f⟩|⟨rfl,a,c,u,s,t⟩
    ·exact absurd ⟨x,aE m,f⟩ g
    ·simp only
     rw[u,sb,s,sb];unfold push;rw[if_pos (by simp;omega),sb,dM m,ew,List.map_singleton,pX t];rfl)
   rw[if_neg sy,if_pos ⟨rfl,g⟩];rw[show(p.Nodes.take 0).map (λx=>(bpr p.Edges x).getD [])=[] by simp] at d;rw[d,sb];simp only
   rw[cc]
  ·rw[if_pos (by rfl),if_neg (λh=>h.2 (n.1 rfl))]
theorem Ct(g:Nat)(T:1000000000<=g)(p:c_)(L:probB p=true)(U:p.Edges.length<=100000000)(x:List Int)(V:x.length<=100)(s:List (List Int))(J:s.length<1000000000):∃s',forN (gH g p x) x.length 0 s=some (.inl s')∧((s'=s∧(∀a∈x,∀c∈x,¬badE p.Edges a c))∨∃l,s'=s++[l]∧PB p.Edges x l):=by
 obtain⟨s',H,K⟩:=sM (body:=gH g p x) s (λk=>∃a,x[k]? =some a∧∃m:Nat,∃c,k<=m∧x[m]? =some c∧badE p.Edges a c) (λk s'=>∃a,∃m:Nat,∃c,x[k]? =some a∧k<=m∧x[m]? =some c∧badE p.Edges a c∧s'=s++[[a,c]]∧∀(j:Nat) z,k<=j->j<m->x[j]? =some z->¬badE p.Edges a z) x.length (λk D=>by
  have v:x[k]? =some x[k]:=x_ D;obtain⟨l,b,G,M⟩:=Cl g p L om om x[k] (x.drop k);have O:cut x (k:Int) ((k:Int)+1)=some [x[k]]:=by
   unfold cut;rw[if_pos ⟨om,om,om⟩,show((k:Int)+1).toNat=k+1 by omega,U_];congr 1;rw[List.drop_take,show k+1-k=1 by omega,dt D];rfl
  have F:cut x (k:Int) (x.length:Int)=some (x.drop k):=by
   unfold cut;rw[if_pos ⟨om,om,om⟩,U_,U_,cc]
  unfold gH;rw[n_ om om,sb,O,sb,F,sb,G,sb];rcases M with⟨rfl,n⟩|⟨rfl,j,c,h,o,rfl,f⟩
  ·refine⟨_,by rw[if_neg sy],.inl ⟨rfl,λ⟨a,w,m,c,R,A,o⟩=>?_⟩⟩;have:a=x[k]:=Option.some.inj (w.symm.trans v);subst this;exact n (m-k) c (by rw[dV,show k+(m-k)=m by omega];exact A) o
  ·rw[dV] at h;refine⟨_,by rw[if_pos rfl];unfold push;rw[if_pos J,sb],.inr ⟨_,rfl,⟨_,v,k+j,c,om,h,o⟩,⟨x[k],k+j,c,v,om,h,o,rfl,λi z Q S u=>f (i-k) z om (by rw[dV,show k+(i-k)=i by omega];exact u)⟩⟩⟩) x.length 0 om
 refine⟨s',H,?_⟩;rcases K with⟨e,n⟩|⟨k,D,-,⟨a,m,c,w,C,A,o,rfl,B⟩,f⟩
 ·refine .inl ⟨e,λa w c A o=>?_⟩;obtain⟨i,hi⟩:=bS.1 w;obtain⟨j,h⟩:=bS.1 A;have N:=(Y_.1 hi).1;have I:=(Y_.1 h).1;rcases Nat.le_total i j with q|q
  ·exact n i (bj _) N ⟨a,hi,j,c,q,h,o⟩
  ·exact n j (bj _) I ⟨c,h,i,a,q,hi,nO o⟩
 ·have t:∀(i:Nat) y(j:Nat) z,i<k->x[i]? =some y->x[j]? =some z->¬badE p.Edges y z:=λi y j z hi E u d=>by
   rcases Nat.le_total i j with q|q
   ·exact f i (bj _) hi ⟨y,E,j,z,q,u,d⟩
   ·exact f j (bj _) om ⟨z,u,i,y,q,E,nO d⟩
  refine .inr ⟨[a,c],rfl,k,m,a,c,⟨w,A,C,o,t,λj z h u d=>?_⟩,rfl⟩;by_cases q:k<=j
  ·exact B j z q h u d
  ·exact t j z k a om u w (nO d)
theorem xm(d:Nat)(C:1000000000<=d)(p:c_)(K:p.Nodes.length<=100000000)(D:p.Edges.length<=100000000):hX d p=some (refV p):=by
 unfold hX refV;rw[iX d om p om om,sb];cases w:probB p
 ·rw[if_pos (by rfl),if_neg sy]
 ·obtain⟨I,F,H,G,B,-⟩:=aO w;have g:=lD (body:=kw d p) (λj=>(p.Nodes.take j).filterMap (bpr p.Edges)) p.Nodes (λj x q=>by
   have hi:=(Y_.1 q).1;have J:=((cx B).1 x (aE q)).1;have k:=Gv (bpr p.Edges) (p.Nodes.take j);rw[aX] at k;obtain⟨s',u,s⟩:=Ct d C p w D x om ((p.Nodes.take j).filterMap (bpr p.Edges)) om;unfold kw;rw[n_ om om,sb,U_,u,sb,dM q,List.filterMap_append];rcases s with⟨rfl,f⟩|⟨l,rfl,o⟩
   ·rw[show List.filterMap (bpr p.Edges) [x]=[] by simp[vw f],bm]
   ·rw[show List.filterMap (bpr p.Edges) [x]=[l] by simp[pX o]])
  rw[if_neg sy];rw[show(p.Nodes.take 0).filterMap (bpr p.Edges)=[] by simp,cc] at g;rw[g,sb];simp only
  by_cases m:zgB p
  ·have n:=m;obtain⟨x,t,f⟩:=m;have:(p.Nodes.filterMap (bpr p.Edges)).length<p.Nodes.length:=by
    refine yn (Gv _ _) λe=>?_;have:=List.filterMap_length_eq_length.1 e x t;rw[vw f] at this;cases this
   rw[if_pos (decide_eq_true om),if_neg (λh=>h.2 n)]
  ·skip
   have f:∀x∈p.Nodes,∃l,bpr p.Edges x=some l:=λx t=>by
    have:¬∀a∈x,∀c∈x,¬badE p.Edges a c:=λh=>m ⟨x,t,h⟩;obtain⟨i,j,b,u,s⟩:=qs p x;rcases s with⟨rfl,h⟩|⟨rfl,a,c,-,-,o⟩
    ·exact absurd h this
    ·exact⟨_,pX o⟩
   have A:∀xs:List (List Int),(∀x∈xs,∃l,bpr p.Edges x=some l)->xs.filterMap (bpr p.Edges)=xs.map λx=>(bpr p.Edges x).getD []:=by
    intro xs
    induction xs with
    |nil=>exact λ_=>rfl
    |cons x xs ih=>
     intro h;obtain⟨l,v⟩:=h x sy;rw[List.filterMap_cons,v,bd,v,ih λy E=>h y (sh E)];rfl
   rw[A _ f,if_neg sy,if_pos ⟨rfl,m⟩]
end
def okT(p:c_):Prop:=probB p=true∧p.Nodes.length<=100000000∧p.Edges.length<=100000000
theorem okT.next{p:c_}(h:okT p)(e:(roundV p).2.2.2=true):okT (roundV p).1:=by
 obtain⟨a,d,b,-⟩:=sV p h.1 e;exact⟨a,d,b⟩
theorem wF(x:List Int)(b:∀y∈x,0<=y∧y<=1000):∀(c:List Int)(k:Int)(a:List Int),a++c=x->x.length<=1000000000->forI (ik 0) c k a=some (.inl x)
 |[],k,a,e,_=>by simp only[forI];rw[<-e,bm]
 | y::c,k,a,e,h=>by
  have f:=b y (by rw[<-e];simp);have g:a.length+c.length+1=x.length:=by rw[<-e];simp;omega
  have d:ik 0 k y a=some (.go (a++[y])):=by
   unfold ik;rw[n_ om om,sb];unfold push;rw[if_pos om,sb,oT]
  simp only[forI,d];exact wF x b c (k+1) _ (by rw[<-e];simp) h
theorem vr(X:List (List Int))(b:∀x∈X,x.length<=1000∧∀y∈x,0<=y∧y<=1000):∀(c:List (List Int))(k:Int)(a:List (List Int)),a++c=X->X.length<=1000000000->forI (ia 0) c k a=some (.inl X)
 |[],k,a,e,_=>by simp only[forI];rw[<-e,bm]
 | x::c,k,a,e,h=>by
  have f:=b x (by rw[<-e];simp);have g:a.length+c.length+1=X.length:=by rw[<-e];simp;omega
  have d:ia 0 k x a=some (.go (a++[x])):=by
   unfold ia;rw[wF x f.2 x 0 [] rfl om,sb];simp only
   unfold push;rw[if_pos om,sb]
  simp only[forI,d];exact vr X b c (k+1) _ (by rw[<-e];simp) h
theorem wd(X:List (List Int))(a:∀x∈X,x.length<=1000∧∀y∈x,0<=y∧y<=1000)(h:X.length<=1000000000):ju X=some X:=by
 unfold ju nf;rw[vr X a X 0 [] rfl h,sb,sb]
theorem jr{X:List (List Int)}{m n:Int}(h:confsB X m n=true)(f:m<=4)(g:n<=8):∀x∈X,x.length<=1000∧∀y∈x,0<=y∧y<=1000:=λx d=>by
 obtain⟨a,-,b⟩:=(cx h).1 x d;exact⟨om,λy e=>by have:=b y e;omega⟩
theorem te(X:List (List Int))(e:∀x∈X,x.length<=1000∧∀y∈x,0<=y∧y<=1000)(h:X.length<1000000000):fG X=some X:=by
 have:=dj (ρ:=List (List Int)) (body:=kz X) (λj=>X.take j++List.replicate (X.length-j) []) X.length (λj a=>by
  have b:X[j]? =some X[j]:=x_ a;have f:(X.take j++List.replicate (X.length-j) ([]:List Int)).length=X.length:=by simp;omega
  have d:=sC X [] j a;rw[ax,b] at d;unfold kz;rw[aq,b,sb,lO _ (by have:=(e _ (aV a)).1;omega),sb,aq,x_ om,sb,cC _ _ _ om,sb];exact congrArg (λz=>some (Lp.go z)) d)
 rw[bk,du,bz,cc,fh,mA,bm] at this;unfold fG mk;rw[if_pos om,sb,n_ om om,sb,U_,this,sb]
theorem se(p:c_)(a:okT p):eJ p=some p:=by
 obtain⟨j,b,h,f,e,d⟩:=aO a.1;have i:=a.2.1;have g:=a.2.2;unfold eJ;rw[te _ (jr e f b) om,sb,te _ (jr d om b) om,sb]
theorem qb{LL:List (List Int)}(h:∀x∈LL,x.length<=1000):∀j,off LL j<=1000*j
 |0=>by simp[off]
 | j+1=>by
  have ih:=qb h j;by_cases a:j<LL.length
  ·have:=h LL[j] (aV a);rw[fR LL j a,ax,x_ a];simp only[dT];omega
  ·have:off LL (j+1)=off LL j:=by unfold off;rw[cu om,cu om]
   omega
theorem okT.sz{p:c_}(h:okT p):szT p<=300000000000:=by
 obtain⟨n,b,k,f,e,d⟩:=aO h.1;have m:=h.2.1;have i:=h.2.2;have j:=qb (λx a=>(jr e f b x a).1) p.Nodes.length;have g:=qb (λx a=>(jr d om b x a).1) p.Edges.length;unfold szT tot;omega
theorem vy{α σ ρ:Type}{body:Int->α->σ->Option (Lp σ σ ρ)}(R:Nat->Option σ)(r:ρ)(xs:List α)(i:∀j,R j=none->R (j+1)=none)
  (h:∀(j:Nat) x s,xs[j]? =some x->R j=some s->body (j:Int) x s=some (match R (j+1) with|some s'=> .go s'|none=> .ret r)):
  ∀(d j:Nat) s,j+d=xs.length->R j=some s->forI body (xs.drop j) j s=some (match R xs.length with|some s'=> .inl s'|none=> .inr r):=by
 intro d
 induction d with
 |zero=>
  intro j s g b;have:j=xs.length:=om;subst this;rw[Gp,b];rfl
 | succ d ih=>
  intro j s g b;have k:xs[j]? =some (xs[j]'om):=x_ om;rw[dt om];have n:=h j _ s k b;simp only[forI,n];cases f:R (j+1) with
  | none=>
   have a:∀m,R (j+1+m)=none:=λm=>by
    induction m with
    |zero=>exact f
    |succ m e=>exact i _ e
   have:=a (xs.length-(j+1));rw[show j+1+(xs.length-(j+1))=xs.length by omega] at this;rw[this]
  |some s'=>
   have:=ih (j+1) s' om f;simp only
   rw[show((j:Int)+1)=((j+1:Nat):Int) by omega];exact this
noncomputable def bokB(ps:List c_):Bool:=(ps.all λp=>probB p&&p.Degree==(ps.getD 0 ⟨0,0,[],[]⟩).Degree)&&(decide (1<=ps.length)&&decide (ps.length<=7))
theorem wk{ps:List c_}(h:bokB ps=true):(∀p∈ps,probB p=true∧p.Degree=(ps.getD 0 ⟨0,0,[],[]⟩).Degree)∧1<=ps.length∧ps.length<=7:=by
 unfold bokB at h;simp only[aW,bE,beq_iff_eq,decide_eq_true_eq] at h;exact⟨h.1,h.2⟩
noncomputable def bmp(ps:List c_):Nat->Option (List (List Int))
  |0=>some []
  |j+1=>(bmp ps j).bind λM=>if j=0 then some M else
      let q:=ps.getD (j-1) ⟨0,0,[],[]⟩
      let p:=ps.getD j ⟨0,0,[],[]⟩
      if(roundV q).2.2.2=true∧(lmapV (roundV q).1 p).2=true then some (M++[(lmapV (roundV q).1 p).1]) else none
noncomputable def bndV(ps:List c_):ae×Bool:=
  if bokB ps=true then
    match bmp ps ps.length with
    |none=>(⟨[],[],[]⟩,false)
    |some M=>if(refV (ps.getD (ps.length-1) ⟨0,0,[],[]⟩)).2=true then(⟨ps,M,(refV (ps.getD (ps.length-1) ⟨0,0,[],[]⟩)).1⟩,true) else(⟨[],[],[]⟩,false)
  else(⟨[],[],[]⟩,false)
def smT(ps:List c_):Prop:=ps.length<=100000000∧∀p∈ps,p.Nodes.length<=100000000∧p.Edges.length<=100000000
theorem oq(ps:List c_):∀(j:Nat) M,bmp ps j=some M->M.length<=j
 |0,M,h=>by cases h;simp
 | j+1,M,h=>by
  unfold bmp at h;cases a:bmp ps j with
  |none=>rw[a] at h;cases h
  | some b=>
   have:=oq ps j b a;rw[a,jN] at h;simp only at h;split at h
   ·cases h;omega
   ·split at h
    ·cases h;simp;omega
    ·cases h
theorem getP{ps:List c_}{j:Nat}{p:c_}(h:ps[j]? =some p):ps.getD j ⟨0,0,[],[]⟩=p:=by rw[ax,h];rfl
theorem Aq(a:Nat)(C:1000000000<=a)(ps:List c_)(h:smT ps):kQ a ps=some (bokB ps):=by
 unfold kQ bokB;rw[fQ,sb];by_cases w:1<=ps.length∧ps.length<=7
 ·have m:(decide ((1:Int)<=(ps.length:Int))&&decide ((ps.length:Int)<=7))=true:=by simp;omega
  have i:(decide (1<=ps.length)&&decide (ps.length<=7))=true:=by simp;omega
  rw[m,i,if_neg sy,Bool.and_true];have v:∀x∈ps,dh a x ps=some (!(probB x&&x.Degree==(ps.getD 0 ⟨0,0,[],[]⟩).Degree)):=λx k=>by
   obtain⟨n,A⟩:=h.2 x k;have t:ps[0]? =some (ps.getD 0 ⟨0,0,[],[]⟩):=by rw[ax,x_ (show 0<ps.length by omega)];rfl
   unfold dh;rw[iX a om x om om,sb];cases B:probB x
   ·rw[if_pos (by rfl),sb];rfl
   ·rw[if_neg sy];have:ix ps 0=some (ps.getD 0 ⟨0,0,[],[]⟩):=by unfold ix;rw[if_pos om];exact t
    rw[this,sb,sb];generalize ps.getD 0 ⟨0,0,[],[]⟩=z;rfl
  have hi:∀(d j:Nat),j+d=ps.length->∃q:Unit ⊕ Int,forN (fm ps λz=>dh a z ps) d j ()=some q∧
    (match q with| .inl _=>(ps.drop j).all (λp=>probB p&&p.Degree==(ps.getD 0 ⟨0,0,[],[]⟩).Degree)=true| .inr r=>0<=r∧(ps.drop j).all (λp=>probB p&&p.Degree==(ps.getD 0 ⟨0,0,[],[]⟩).Degree)=false):=by
   intro d
   induction d with
   |zero=>
    intro j o;have:j=ps.length:=om;subst this;exact⟨.inl (),rfl,sy⟩
   | succ d ih=>
    intro j o;have e:j<ps.length:=om;have k:ps[j]? =some ps[j]:=x_ e;have n:fm ps (λz=>dh a z ps) j ()=some (if(probB ps[j]&&ps[j].Degree==(ps.getD 0 ⟨0,0,[],[]⟩).Degree)=true then .go () else .ret (j:Int)):=by
     unfold fm;rw[aq,k,sb];dsimp only
     rw[v _ (aV e),sb];cases probB ps[j]&&ps[j].Degree==(ps.getD 0 ⟨0,0,[],[]⟩).Degree<;>rfl
    rw[dt e];simp only[forN,n,qY];cases y:probB ps[j]&&ps[j].Degree==(ps.getD 0 ⟨0,0,[],[]⟩).Degree
    ·exact⟨.inr (j:Int),rfl,om,sy⟩
    ·obtain⟨q,f,b⟩:=ih (j+1) om;refine⟨q,?_,?_⟩
     ·simp only[if_true];rw[show((j:Int)+1)=((j+1:Nat):Int) by omega];exact f
     ·simpa using b
  obtain⟨q,f,b⟩:=hi ps.length 0 om;have s:jZ ps (λz=>dh a z ps)=some (q.elim (λ_=> -1) id):=by
   unfold jZ;have g:forN (fm ps λz=>dh a z ps) ps.length 0 ()=some q:=f;rw[n_ om om,sb,U_,g,sb];cases q<;>rfl
  unfold mF;rw[s,sb,sb];rw[aG] at b;cases q with
  |inl u=>
   simp only at b;rw[b];rfl
  |inr r=>
   simp only at b;rw[b.2];simp[b.1]
 ·have m:(decide ((1:Int)<=(ps.length:Int))&&decide ((ps.length:Int)<=7))=false:=by
   rw[Gw,decide_eq_false_iff_not,decide_eq_false_iff_not];omega
  have i:(decide (1<=ps.length)&&decide (ps.length<=7))=false:=by
   rw[Gw,decide_eq_false_iff_not,decide_eq_false_iff_not];omega
  rw[m,i,if_pos (by rfl),yl]
theorem ve(X:List (List Int))(d:∀x∈X,x.length<=1000)(h:X.length<=1000000000):jl X=some X:=by
 have b:=lD (body:=lg) (λj=>X.take j) X (λj x a=>by
  have hi:=(Y_.1 a).1;unfold lg;rw[dm x (by have:=d x (aE a);omega),sb];unfold push;rw[if_pos (by simp;omega),sb,dM a])
 rw[bk,cc] at b;unfold jl;rw[b,sb]
theorem okT.rows{p:c_}(h:okT p):(∀x∈p.Nodes,x.length<=1000)∧∀x∈p.Edges,x.length<=1000:=by
 obtain⟨i,f,e,g,d,b⟩:=aO h.1;exact⟨λx a=>by have:=((cx d).1 x a).1;omega,λx a=>by have:=((cx b).1 x a).1;omega⟩
theorem Ea(p:c_)(h:okT p):mc p=some p:=by
 unfold mc;rw[ve _ h.rows.1 (by have:=h.2.1;omega),sb,ve _ h.rows.2 (by have:=h.2.2;omega),sb]
theorem wP(ps:List c_)(j:Nat)(p:c_)(b:ps[j]? =some p)(M:List (List Int))(a:bmp ps j=some M):
  bmp ps (j+1)=if j=0 then some M else if(roundV (ps.getD (j-1) ⟨0,0,[],[]⟩)).2.2.2=true∧(lmapV (roundV (ps.getD (j-1) ⟨0,0,[],[]⟩)).1 p).2=true then some (M++[(lmapV (roundV (ps.getD (j-1) ⟨0,0,[],[]⟩)).1 p).1]) else none:=by
 unfold bmp;rw[a,jN,getP b]
theorem prevP{ps:List c_}{j:Nat}(b:j≠0)(d:j<ps.length):ix ps ((j:Int)-1)=some (ps.getD (j-1) ⟨0,0,[],[]⟩)∧ps.getD (j-1) ⟨0,0,[],[]⟩∈ps:=by
 have a:ps[j-1]? =some (ps[j-1]'om):=x_ om;rw[getP a,show((j:Int)-1)=((j-1:Nat):Int) by omega,aq,a];exact⟨rfl,aV _⟩
theorem vV(ps:List c_)(j:Nat)(h:bmp ps j=none):bmp ps (j+1)=none:=by unfold bmp;rw[h];rfl
theorem Ak(a:Nat)(i:1000000000<=a)(ps:List c_)(w:ps.length<=1000000)(b:∀p∈ps,okT p)(j:Nat)(p:c_)(e:ps[j]? =some p)(M:List (List Int))(h:bmp ps j=some M):
  iD a ps j p ([],[],[],ps.take j,M)=some (match bmp ps (j+1) with|some m=> .go ([],[],[],ps.take (j+1),m)|none=> .ret (⟨[],[],[]⟩,false)):=by
 have f:=b p (aE e);have o:=(Y_.1 e).1;have u:=oq ps j M h;rw[wP ps j p e M h];unfold iD;rw[Ea p f,sb];simp only
 unfold push;rw[if_pos (by simp;omega),sb,dM e];by_cases g:j=0
 ·subst g;rw[if_pos sy,if_pos rfl]
 ·obtain⟨s,t⟩:=prevP g o;have d:=b _ t;rw[if_neg (by simp;omega),if_neg g,n_ om om,sb,s,sb];generalize ps.getD (j-1) ⟨0,0,[],[]⟩=q at d;rw[rK a i q d.1 d.2.1 d.2.2,sb];cases n:(roundV q).2.2.2
  ·rw[if_pos (by rfl),if_neg sy]
  ·obtain⟨x,k,v⟩:=d.next n;rw[if_neg sy,(pC a i (roundV q).1 p k v f.2.1 f.2.2).1,sb];cases y:(lmapV (roundV q).1 p).2
   ·rw[if_pos (by rfl),if_neg sy]
   ·rw[if_neg sy,if_pos (show M.length<1000000000 by omega),sb,if_pos ⟨rfl,rfl⟩]
theorem zg(a:Nat)(i:1000000000<=a)(ps:List c_)(w:ps.length<=1000000)(b:∀p∈ps,okT p)(j:Nat)(p:c_)(e:ps[j]? =some p)(M:List (List Int))(h:bmp ps j=some M):
  hU a ps j p (ps.take j,M)=some (match bmp ps (j+1) with|some m=> .go (ps.take (j+1),m)|none=> .ret (⟨[],[],[]⟩,false)):=by
 have f:=b p (aE e);have o:=(Y_.1 e).1;have u:=oq ps j M h;rw[wP ps j p e M h];unfold hU;rw[se p f,sb];simp only
 unfold push;rw[if_pos (by simp;omega),sb,dM e];by_cases g:j=0
 ·subst g;rw[if_pos sy,if_pos rfl]
 ·obtain⟨s,t⟩:=prevP g o;have d:=b _ t;rw[if_neg (by simp;omega),if_neg g,n_ om om,sb,s,sb];generalize ps.getD (j-1) ⟨0,0,[],[]⟩=q at d;rw[sL a i q d.1 d.2.1 d.2.2,sb];cases n:(roundV q).2.2.2
  ·rw[if_pos (by rfl),if_neg sy]
  ·obtain⟨x,k,v⟩:=d.next n;rw[if_neg sy,(pC a i (roundV q).1 p k v f.2.1 f.2.2).2,sb];cases y:(lmapV (roundV q).1 p).2
   ·rw[if_pos (by rfl),if_neg sy]
   ·rw[if_neg sy,if_pos (show M.length<1000000000 by omega),sb,if_pos ⟨rfl,rfl⟩]
noncomputable def bnd1(ps:List c_):ae×Bool:=
  match bmp ps ps.length with
  |none=>(⟨[],[],[]⟩,false)
  |some M=>if(refV (ps.getD (ps.length-1) ⟨0,0,[],[]⟩)).2=true then(⟨ps,M,(refV (ps.getD (ps.length-1) ⟨0,0,[],[]⟩)).1⟩,true) else(⟨[],[],[]⟩,false)
theorem og{ps:List c_}(h:bokB ps=true):bndV ps=bnd1 ps:=by unfold bndV bnd1;rw[if_pos h]
theorem qn{ps:List c_}(h:bokB ps=false):bndV ps=(⟨[],[],[]⟩,false):=by unfold bndV;rw[if_neg (sh h)]
theorem CO(a:Nat)(g:1000000000<=a)(ps:List c_)(n:1<=ps.length)(m:ps.length<=1000000)(b:∀p∈ps,okT p):lA a ps=some (bnd1 ps):=by
 have e:=vy (body:=iD a ps) (λj=>(bmp ps j).map λM=>([],[],[],ps.take j,M)) (⟨[],[],[]⟩,false) ps (λj d=>by
   have:bmp ps j=none:=by simpa using d
   rw[vV ps j this];rfl)
  (λj x s d i=>by
   obtain⟨M,k,rfl⟩:=jQ.1 i;rw[Ak a g ps m b j x d M k];cases bmp ps (j+1)<;>rfl) ps.length 0 ([],[],[],[],[]) om rfl
 have h:ps[ps.length-1]? =some (ps[ps.length-1]'om):=x_ om;have f:=b _ (aV (show ps.length-1<ps.length by omega));unfold lA bnd1;rw[aG,show((0:Nat):Int)=0 from rfl] at e;rw[e,sb,getP h];cases o:bmp ps ps.length with
 |none=>rfl
 |some M=>
  simp only[cn];rw[n_ om om,sb,show((ps.length:Int)-1)=((ps.length-1:Nat):Int) by omega,aq,h,sb,xo a g _ f.2.1 f.2.2,sb,cc];cases (refV (ps[ps.length-1]'om)).2<;>rfl
theorem DP(a:Nat)(f:1000000000<=a)(ps:List c_)(h:smT ps):kT a ps=some (bndV ps):=by
 unfold kT;rw[Aq a f ps h,sb];cases d:bokB ps
 ·rw[if_pos (by rfl),qn d]
 ·obtain⟨n,t,u⟩:=wk d;have b:∀p∈ps,okT p:=λp i=>⟨(n p i).1,h.2 p i⟩;have g:=vy (body:=hU a ps) (λj=>(bmp ps j).map λM=>(ps.take j,M)) (⟨[],[],[]⟩,false) ps (λj e=>by
    have:bmp ps j=none:=by simpa using e
    rw[vV ps j this];rfl)
   (λj x s e o=>by
    obtain⟨M,q,rfl⟩:=jQ.1 o;rw[zg a f ps om b j x e M q];cases bmp ps (j+1)<;>rfl) ps.length 0 ([],[]) om rfl
  have m:ps[ps.length-1]? =some (ps[ps.length-1]'om):=x_ om;have k:=b _ (aV (show ps.length-1<ps.length by omega));rw[og d];unfold bnd1;rw[aG,show((0:Nat):Int)=0 from rfl] at g;rw[if_neg sy,g,sb,getP m];cases d:bmp ps ps.length with
  |none=>rfl
  |some M=>
   simp only[cn];rw[n_ om om,sb,show((ps.length:Int)-1)=((ps.length-1:Nat):Int) by omega,aq,m,sb,xm a f _ k.2.1 k.2.2,sb,cc];cases (refV (ps[ps.length-1]'om)).2<;>rfl
def BS(d:Tg)(t:Nat)(w:World)(r:List (List Int)):Ending->World->Prop:=λe w'=>∃(a:Value)(c:Tg),e=.returned (a)∧RdL c w' a r∧Keeps w w'∧∀b,b<w.heap.size->c b=d b
theorem uP(w:World)(b:Tg)(t:Nat)(d:2<=t)(d:Value)(f:Yk)(k:RdL zt w d f)(r:Yk)(c:ju f=some r):
    Calls Tryz.prog 54 #[d] w (BS b t w r):=by
 unfold ju at c;have a:Bs b (col b) w w:=Bs.start _ _;refine y_ (n:=5) (vs:=[d]) Tryz.func54 rfl rfl ?_;generalize col b=o at*;refine Zq (Za rfl (Ze [(0,_)] (Zn (Zm rfl ?_))));obtain⟨m,q,c⟩:=a_ c;refine Zo ?_;refine j_ (Ag w o 11 dc _ f (k.keep a.keeps) 0 m q) Tryz.call88 ⟨rfl,rfl,trivial⟩ ?_;rintro h l ⟨s,p,g,rfl,i,j,u,v⟩;have x:=u.stp' 11 v;replace i:=i.mono a.keeps.size;replace j:=j.mono a.keeps.size;refine⟨_,rfl,?_⟩;replace a:=a.stp x;refine Za rfl (Zy (i_ ?_));have y:=Dz.of i j dc dc dc;have d:=bw 11 g;have f:=bw 12 (frz 11 g);replace a:=(a.rc d dc).rc f dc;clear d f;generalize frz 12 (frz 11 g)=z at*;have e:=y.rd;obtain rfl:=Zj c;refine Zr Tryz.results54 [s] ?_;exact⟨_,rt b z w.heap.size 9 t,rfl,e.rt a 9 t dc,a.keeps,S_ _ _ _ _ _⟩
end Go.Proofs.YtpefhaamcihneaaGreat
