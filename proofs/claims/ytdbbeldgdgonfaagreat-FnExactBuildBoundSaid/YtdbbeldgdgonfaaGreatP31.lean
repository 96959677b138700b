/- Part 31 of what this claim rests on (pack.py). -/
import Derived.Test.YtdbbeldgdgonfaaGreatP16
import Derived.Test.YtdbbeldgdgonfaaGreatP30
namespace Go.Proofs.YtdbbeldgdgonfaaGreat
set_option linter.unusedSimpArgs false
set_option linter.unusedVariables false
section
theorem le_{α ρ:Type}{body:Int->α->Unit->Option (Lp Unit Unit ρ)}(Q:α->Prop)(R:Nat->α->ρ->Prop)(xs:List α)(h:∀(k:Nat) x,xs[k]? =some x->∃z,body (k:Int) x ()=some z∧((z=.go ()∧¬Q x)∨∃r,z=.ret r∧Q x∧R k x r)):
  ∀(d k:Nat),k+d=xs.length->∃z,forI body (xs.drop k) (k:Int) ()=some z∧((z=.inl ()∧∀(i:Nat) y,k<=i->xs[i]? =some y->¬Q y)∨∃r,∃j:Nat,∃x,z=.inr r∧xs[j]? =some x∧Q x∧R j x r∧∀(i:Nat) y,k<=i->i<j->xs[i]? =some y->¬Q y)
 |0,k,B=>⟨_,by rw[List.drop_of_length_le (by omega)];rfl,.inl ⟨rfl,λi y g f=>by have:=(List.getElem?_eq_some_iff.1 f).1;omega⟩⟩
 | d+1,k,B=>by
  have n:xs[k]? =some xs[k]:=List.getElem?_eq_getElem (by omega);obtain⟨z,g,f⟩:=h k _ n;rw[List.drop_eq_getElem_cons (by omega)];rcases f with⟨rfl,w⟩|⟨r,rfl,t,u⟩
  ·obtain⟨z,o,m⟩:=le_ Q R xs h d (k+1) (by omega);refine⟨z,by simp only[forI,g];exact o,?_⟩;have a:∀(i:Nat) y,k<=i->xs[i]? =some y->i=k->¬Q y:=λi y _ b e=>by
    subst e;rw[n] at b;cases b
    exact w
   rcases m with⟨rfl,m⟩|⟨r,j,x,rfl,p,q,s,v⟩
   ·refine .inl ⟨rfl,λi y hi b=>?_⟩;by_cases e:i=k
    ·exact a i y hi b e
    ·exact m i y (by omega) b
   ·refine .inr ⟨r,j,x,rfl,p,q,s,λi y hi A b=>?_⟩;by_cases e:i=k
    ·exact a i y hi b e
    ·exact v i y (by omega) A b
  ·exact⟨_,by simp only[forI,g],.inr ⟨r,k,_,rfl,n,t,u,λi y g f=>by omega⟩⟩
theorem hL_{α ρ:Type}{body:Int->α->Unit->Option (Lp Unit Unit ρ)}(Q:α->Prop)(R:Nat->α->ρ->Prop)(xs:List α)(h:∀(k:Nat) x,xs[k]? =some x->∃z,body (k:Int) x ()=some z∧((z=.go ()∧¬Q x)∨∃r,z=.ret r∧Q x∧R k x r)):
  ∃z,forI body xs 0 ()=some z∧((z=.inl ()∧∀(i:Nat) y,xs[i]? =some y->¬Q y)∨∃r,∃j:Nat,∃x,z=.inr r∧xs[j]? =some x∧Q x∧R j x r∧∀(i:Nat) y,i<j->xs[i]? =some y->¬Q y):=by
 obtain⟨z,g,m⟩:=le_ Q R xs h xs.length 0 (by omega);rw[List.drop_zero] at g;exact⟨z,g,m.imp (λ⟨a,b⟩=>⟨a,λi y f=>b i y (Nat.zero_le _) f⟩) (λ⟨r,j,x,a,b,c,d,e⟩=>⟨r,j,x,a,b,c,d,λi y hi f=>e i y (Nat.zero_le _) hi f⟩)⟩
theorem kV_{σ ρ:Type}{body:Int->σ->Option (Lp σ σ ρ)}(s:σ)(Q:Nat->Prop)(R:Nat->σ->Prop)(n:Nat)(h:∀k:Nat,k<n->∃z,body (k:Int) s=some z∧((z=.go s∧¬Q k)∨∃a,z=.out a∧Q k∧R k a)):
  ∀(d k:Nat),k+d=n->∃a,forN body d (k:Int) s=some (.inl a)∧((a=s∧∀i,k<=i->i<n->¬Q i)∨∃j,j<n∧Q j∧R j a∧∀i,k<=i->i<j->¬Q i)
 |0,k,B=>⟨s,rfl,.inl ⟨rfl,λi g m=>by omega⟩⟩
 | d+1,k,B=>by
  obtain⟨z,g,m⟩:=h k (by omega);rcases m with⟨rfl,p⟩|⟨a,rfl,y,w⟩
  ·obtain⟨a,t,f⟩:=kV_ s Q R n h d (k+1) (by omega);refine⟨a,by simp only[forN,g];exact t,?_⟩;rcases f with⟨e,f⟩|⟨j,u,v,x,A⟩
   ·refine .inl ⟨e,λi o b=>?_⟩;by_cases q:i=k
    ·subst q;exact p
    ·exact f i (by omega) b
   ·refine .inr ⟨j,u,v,x,λi o b=>?_⟩;by_cases q:i=k
    ·subst q;exact p
    ·exact A i (by omega) b
  ·exact⟨a,by simp only[forN,g],.inr ⟨k,by omega,y,w,λi o b=>by omega⟩⟩
def badE(E:List (List Int))(a b:Int):Prop:=srt [a,b] ∉ E
theorem iQ_{E:List (List Int)}{a b:Int}(h:badE E a b):badE E b a:=by
 unfold badE at h ⊢;rwa [ib_ (List.Perm.swap a b [])]
structure FB (E:List (List Int)) (x:List Int) (k m:Nat) (a b:Int):Prop where
  hk:x[k]? =some a
  hm:x[m]? =some b
  le:k<=m
  bad:badE E a b
  fst:∀(i:Nat) y(j:Nat) z,i<k->x[i]? =some y->x[j]? =some z->¬badE E y z
  snd:∀(j:Nat) z,j<m->x[j]? =some z->¬badE E a z
def PB(E:List (List Int))(x l:List Int):Prop:=∃k m a b,FB E x k m a b∧l=[a,b]
theorem PB.uniq{E:List (List Int)}{x l g:List Int}(h:PB E x l)(d:PB E x g):l=g:=by
 obtain⟨k,m,a,b,h,rfl⟩:=h;obtain⟨k',e,i,f,d,rfl⟩:=d;have p:k=k':=by
  rcases Nat.lt_trichotomy k k' with q|q|q
  ·exact absurd h.bad (d.fst k a m b q h.hk h.hm)
  ·exact q
  ·exact absurd d.bad (h.fst k' i e f q d.hk d.hm)
 subst p;have n:a=i:=Option.some.inj (h.hk.symm.trans d.hk);subst n;have j:m=e:=by
  rcases Nat.lt_trichotomy m e with q|q|q
  ·exact absurd h.bad (d.snd m b q h.hm)
  ·exact q
  ·exact absurd d.bad (h.snd e f q d.hm)
 subst j;have o:b=f:=Option.some.inj (h.hm.symm.trans d.hm);rw[o]
open Classical in
noncomputable def bpr(E:List (List Int))(x:List Int):Option (List Int):=if h:∃l,PB E x l then some h.choose else none
theorem mW_{E:List (List Int)}{x l:List Int}(h:PB E x l):bpr E x=some l:=by
 unfold bpr;rw[dif_pos ⟨l,h⟩];exact congrArg some (PB.uniq (Exists.choose_spec (⟨l,h⟩:∃l,PB E x l)) h)
theorem qH_{E:List (List Int)}{x:List Int}(h:∀a∈x,∀b∈x,¬badE E a b):bpr E x=none:=by
 unfold bpr;refine dif_neg λ⟨l,k,m,a,b,d,_⟩=>h a (List.mem_of_getElem? d.hk) b (List.mem_of_getElem? d.hm) d.bad
theorem qu_(p:b_)(x:List Int):∃i j b,im_ p x x=some (i,j,b)∧((b=false∧∀a∈x,∀c∈x,¬badE p.Edges a c)∨(b=true∧∃a c,ix x i=some a∧ix x j=some c∧PB p.Edges x [a,c])):=by
 have A:∀(i:Nat) a,∃z,forI (eS_ p (i:Int) a) x 0 ()=some z∧((z=.inl ()∧∀(k:Nat) y,x[k]? =some y->¬badE p.Edges a y)∨∃r,∃k:Nat,∃y,z=.inr r∧x[k]? =some y∧badE p.Edges a y∧r=((i:Int),(k:Int),true)∧∀(j:Nat) z,j<k->x[j]? =some z->¬badE p.Edges a z):=λi a=>
  hL_ (body:=eS_ p (i:Int) a) (λc=>badE p.Edges a c) (λk c(r:Int×Int×Bool)=>r=((i:Int),(k:Int),true)) x (λk c _=>by
   unfold eS_;rw[rj_,sb];by_cases f:srt [a,c]∈p.Edges
   ·exact⟨_,by rw[if_neg (by simpa using f)],.inl ⟨rfl,λH=>H f⟩⟩
   ·exact⟨_,by rw[if_pos (by simpa using f)],.inr ⟨_,rfl,f,rfl⟩⟩)
 obtain⟨z,w,s⟩:=hL_ (body:=fO_ p x) (λa=>∃k:Nat,∃y,x[k]? =some y∧badE p.Edges a y) (λi a(r:Int×Int×Bool)=>∃k:Nat,∃y,x[k]? =some y∧badE p.Edges a y∧r=((i:Int),(k:Int),true)∧∀(j:Nat) z,j<k->x[j]? =some z->¬badE p.Edges a z) x (λi a _=>by
  obtain⟨z,w,s⟩:=A i a;unfold fO_;rw[w,sb];rcases s with⟨rfl,e⟩|⟨r,k,y,rfl,B,C,D,E⟩
  ·exact⟨_,rfl,.inl ⟨rfl,λ⟨k,y,o,g⟩=>e k y o g⟩⟩
  ·exact⟨_,rfl,.inr ⟨r,rfl,⟨k,y,B,C⟩,k,y,B,C,D,E⟩⟩)
 unfold im_;rw[w,sb];rcases s with⟨rfl,e⟩|⟨r,k,a,rfl,o,-,⟨m,y,t,g,rfl,h⟩,d⟩
 ·refine⟨0,0,false,rfl,.inl ⟨rfl,λa G c f g=>?_⟩⟩;obtain⟨i,hi⟩:=List.mem_iff_getElem?.1 G;obtain⟨j,I⟩:=List.mem_iff_getElem?.1 f;exact e i a hi ⟨j,c,I,g⟩
 ·refine⟨k,m,true,rfl,.inr ⟨rfl,a,y,by rw[aY_,o],by rw[aY_,t],k,m,a,y,⟨o,t,?_,g,λi u j v hi F J n=>d i u hi F ⟨j,v,J,n⟩,h⟩,rfl⟩⟩;refine Nat.le_of_not_lt λq=>d m y q t ⟨k,a,o,iQ_ g⟩
theorem tJ_(d:Nat)(p:b_)(h:probB p=true)(o:p.Edges.length<=1000000000)(t:p.Edges.length<d)(a:Int)(e:List Int):
  ∃l b,ej_ d p [a] e=some (l,b)∧((b=false∧∀(j:Nat) c,e[j]? =some c->¬badE p.Edges a c)∨(b=true∧∃j:Nat,∃c,e[j]? =some c∧badE p.Edges a c∧l=[a,c]∧∀(i:Nat) z,i<j->e[i]? =some z->¬badE p.Edges a z)):=by
 obtain⟨z,n,q⟩:=hL_ (body:=cv_ d p a) (λc=>badE p.Edges a c) (λk c(r:List Int×Bool)=>r=([a,c],true)) e (λk c _=>by
  unfold cv_;rw[ul_ d p h a c o t,sb];by_cases g:srt [a,c]∈p.Edges
  ·exact⟨_,by rw[if_neg (by simpa using g)],.inl ⟨rfl,λs=>s g⟩⟩
  ·exact⟨_,by rw[if_pos (by simpa using g)],.inr ⟨_,rfl,g,rfl⟩⟩)
 unfold ej_;rcases q with⟨rfl,m⟩|⟨r,j,c,rfl,v,u,rfl,f⟩
 ·exact⟨[],false,by simp only[forI,de_,n,sb],.inl ⟨rfl,m⟩⟩
 ·exact⟨[a,c],true,by simp only[forI,de_,n,sb],.inr ⟨rfl,j,c,v,u,rfl,f⟩⟩
def zgB(p:b_):Prop:=∃x∈p.Nodes,∀a∈x,∀c∈x,¬badE p.Edges a c
open Classical in
noncomputable def refV(p:b_):List (List Int)×Bool:=if probB p=true∧¬zgB p then(p.Nodes.map λx=>(bpr p.Edges x).getD [],true) else([],false)
theorem uS_(p:b_)(n:∀x∈p.Nodes,x.length<=1000000000):∃l b,ie_ p=some (l,b)∧(b=true<->zgB p):=by
 obtain⟨z,u,s⟩:=eT_ (body:=fh_ p) (λx=>∀a∈x,∀c∈x,¬badE p.Edges a c) (λr:List Int×Bool=>r.2=true) p.Nodes 0 (λx g j=>by
  obtain⟨i,j,b,o,q⟩:=qu_ p x;unfold fh_ iq_;rw[o,sb,sb];rcases q with⟨rfl,d⟩|⟨rfl,a,c,-,-,k,m,_,_,e,-⟩
  ·exact⟨_,by rw[if_pos (by rfl),gs_ x (n x g),sb],.inr ⟨_,rfl,rfl,d⟩⟩
  ·exact⟨_,by rw[if_neg (by simp)],.inl ⟨rfl,λh=>h _ (List.mem_of_getElem? e.hk) _ (List.mem_of_getElem? e.hm) e.bad⟩⟩)
 unfold ie_;rw[u,sb];rcases s with⟨rfl,f⟩|⟨⟨l,b⟩,rfl,v,t⟩
 ·exact⟨[],false,rfl,by simp,λ⟨x,g,h⟩=>absurd h (f x g)⟩
 ·exact⟨l,b,rfl,λ_=>t,λ_=>v⟩
theorem wF_(e:Nat)(H:1000000000<=e)(p:b_)(G:p.Nodes.length<=100000000)(F:p.Edges.length<=100000000):dj_ e p=some (refV p):=by
 unfold dj_ refV;rw[jr_ e (by omega) p (by omega) (by omega),sb];cases w:probB p
 ·rw[if_pos (by rfl),if_neg (by simp)]
 ·obtain⟨B,E,C,D,t,-⟩:=aK_ w;obtain⟨l,b,u,n⟩:=uS_ p (λx y=>by have:=((et_ t).1 x y).1;omega);rw[if_neg (by simp),u,sb];cases b
  ·have g:¬zgB p:=λg=>by simpa using n.2 g
   have d:=if_ (body:=ci_ p) (λj=>(p.Nodes.take j).map λx=>(bpr p.Edges x).getD []) p.Nodes (λj x m=>by
    obtain⟨i,k,b,o,s⟩:=qu_ p x;have hi:=(List.getElem?_eq_some_iff.1 m).1;unfold ci_;rw[o,sb];rcases s with⟨rfl,f⟩|⟨rfl,a,c,v,q,A⟩
    ·exact absurd ⟨x,List.mem_of_getElem? m,f⟩ g
    ·simp only
     rw[v,sb,q,sb];unfold push;rw[if_pos (by simp;omega),sb,ev_ m,List.map_append,List.map_singleton,mW_ A];rfl)
   rw[if_neg (by simp),if_pos ⟨rfl,g⟩];rw[show(p.Nodes.take 0).map (λx=>(bpr p.Edges x).getD [])=[] by simp] at d;rw[d,sb];simp only
   rw[List.take_length]
  ·rw[if_pos (by rfl),if_neg (λh=>h.2 (n.1 rfl))]
theorem so_(f:Nat)(W:1000000000<=f)(p:b_)(O:probB p=true)(R:p.Edges.length<=100000000)(x:List Int)(V:x.length<=100)(s:List (List Int))(M:s.length<1000000000):∃v,forN (bE_ f p x) x.length 0 s=some (.inl v)∧((v=s∧(∀a∈x,∀c∈x,¬badE p.Edges a c))∨∃l,v=s++[l]∧PB p.Edges x l):=by
 obtain⟨v,K,J⟩:=kV_ (body:=bE_ f p x) s (λk=>∃a,x[k]? =some a∧∃m:Nat,∃c,k<=m∧x[m]? =some c∧badE p.Edges a c) (λk v=>∃a,∃m:Nat,∃c,x[k]? =some a∧k<=m∧x[m]? =some c∧badE p.Edges a c∧v=s++[[a,c]]∧∀(j:Nat) z,k<=j->j<m->x[j]? =some z->¬badE p.Edges a z) x.length (λk E=>by
  have w:x[k]? =some x[k]:=List.getElem?_eq_getElem E;obtain⟨l,b,H,I⟩:=tJ_ f p O (by omega) (by omega) x[k] (x.drop k);have N:cut x (k:Int) ((k:Int)+1)=some [x[k]]:=by
   unfold cut;rw[if_pos ⟨by omega,by omega,by omega⟩,show((k:Int)+1).toNat=k+1 by omega,Int.toNat_natCast];congr 1;rw[List.drop_take,show k+1-k=1 by omega,List.drop_eq_getElem_cons E];rfl
  have Q:cut x (k:Int) (x.length:Int)=some (x.drop k):=by
   unfold cut;rw[if_pos ⟨by omega,by omega,by omega⟩,Int.toNat_natCast,Int.toNat_natCast,List.take_length]
  unfold bE_;rw[F_ (by omega) (by omega),sb,N,sb,Q,sb,H,sb];rcases I with⟨rfl,h⟩|⟨rfl,j,c,o,n,rfl,g⟩
  ·refine⟨_,by rw[if_neg (by simp)],.inl ⟨rfl,λ⟨a,A,m,c,T,B,n⟩=>?_⟩⟩;have:a=x[k]:=Option.some.inj (A.symm.trans w);subst this;exact h (m-k) c (by rw[List.getElem?_drop,show k+(m-k)=m by omega];exact B) n
  ·rw[List.getElem?_drop] at o;refine⟨_,by rw[if_pos rfl];unfold push;rw[if_pos M,sb],.inr ⟨_,rfl,⟨_,w,k+j,c,by omega,o,n⟩,⟨x[k],k+j,c,w,by omega,o,n,rfl,λi z U S u=>g (i-k) z (by omega) (by rw[List.getElem?_drop,show k+(i-k)=i by omega];exact u)⟩⟩⟩) x.length 0 (by omega)
 refine⟨v,K,?_⟩;rcases J with⟨e,h⟩|⟨k,E,-,⟨a,m,c,A,D,B,n,rfl,C⟩,g⟩
 ·refine .inl ⟨e,λa A c B n=>?_⟩;obtain⟨i,hi⟩:=List.mem_iff_getElem?.1 A;obtain⟨j,o⟩:=List.mem_iff_getElem?.1 B;have G:=(List.getElem?_eq_some_iff.1 hi).1;have L:=(List.getElem?_eq_some_iff.1 o).1;rcases Nat.le_total i j with q|q
  ·exact h i (Nat.zero_le _) G ⟨a,hi,j,c,q,o,n⟩
  ·exact h j (Nat.zero_le _) L ⟨c,o,i,a,q,hi,iQ_ n⟩
 ·have t:∀(i:Nat) y(j:Nat) z,i<k->x[i]? =some y->x[j]? =some z->¬badE p.Edges y z:=λi y j z hi F u d=>by
   rcases Nat.le_total i j with q|q
   ·exact g i (Nat.zero_le _) hi ⟨y,F,j,z,q,u,d⟩
   ·exact g j (Nat.zero_le _) (by omega) ⟨z,u,i,y,q,F,iQ_ d⟩
  refine .inr ⟨[a,c],rfl,k,m,a,c,⟨A,B,D,n,t,λj z o u d=>?_⟩,rfl⟩;by_cases q:k<=j
  ·exact C j z q o u d
  ·exact t j z k a (by omega) u A (iQ_ d)
theorem wJ_(f:Nat)(E:1000000000<=f)(p:b_)(J:p.Nodes.length<=100000000)(B:p.Edges.length<=100000000):dg_ f p=some (refV p):=by
 unfold dg_ refV;rw[hh_ f (by omega) p (by omega) (by omega),sb];cases w:probB p
 ·rw[if_pos (by rfl),if_neg (by simp)]
 ·obtain⟨F,I,G,H,C,-⟩:=aK_ w;have g:=if_ (body:=cj_ f p) (λj=>(p.Nodes.take j).filterMap (bpr p.Edges)) p.Nodes (λj x q=>by
   have hi:=(List.getElem?_eq_some_iff.1 q).1;have L:=((et_ C).1 x (List.mem_of_getElem? q)).1;have k:=List.length_filterMap_le (bpr p.Edges) (p.Nodes.take j);rw[List.length_take] at k;obtain⟨K,v,n⟩:=so_ f E p w B x (by omega) ((p.Nodes.take j).filterMap (bpr p.Edges)) (by omega);unfold cj_;rw[F_ (by omega) (by omega),sb,Int.toNat_natCast,v,sb,ev_ q,List.filterMap_append];rcases n with⟨rfl,d⟩|⟨l,rfl,t⟩
   ·rw[show List.filterMap (bpr p.Edges) [x]=[] by simp[qH_ d],List.append_nil]
   ·rw[show List.filterMap (bpr p.Edges) [x]=[l] by simp[mW_ t]])
  rw[if_neg (by simp)];rw[show(p.Nodes.take 0).filterMap (bpr p.Edges)=[] by simp,List.take_length] at g;rw[g,sb];simp only
  by_cases m:zgB p
  ·have s:=m;obtain⟨x,o,d⟩:=m;have:(p.Nodes.filterMap (bpr p.Edges)).length<p.Nodes.length:=by
    refine Nat.lt_of_le_of_ne (List.length_filterMap_le _ _) λe=>?_;have:=List.filterMap_length_eq_length.1 e x o;rw[qH_ d] at this;cases this
   rw[if_pos (decide_eq_true (by omega)),if_neg (λh=>h.2 s)]
  ·skip
   have d:∀x∈p.Nodes,∃l,bpr p.Edges x=some l:=λx o=>by
    have:¬∀a∈x,∀c∈x,¬badE p.Edges a c:=λh=>m ⟨x,o,h⟩;obtain⟨i,j,b,v,n⟩:=qu_ p x;rcases n with⟨rfl,h⟩|⟨rfl,a,c,-,-,t⟩
    ·exact absurd h this
    ·exact⟨_,mW_ t⟩
   have A:∀xs:List (List Int),(∀x∈xs,∃l,bpr p.Edges x=some l)->xs.filterMap (bpr p.Edges)=xs.map λx=>(bpr p.Edges x).getD []:=by
    intro xs
    induction xs with
    |nil=>exact λ_=>rfl
    |cons x xs ih=>
     intro h;obtain⟨l,u⟩:=h x (by simp);rw[List.filterMap_cons,u,List.map_cons,u,ih λy D=>h y (by simp[D])];rfl
   rw[A _ d,if_neg (by simp),if_pos ⟨rfl,m⟩]
end
section
def okT(p:b_):Prop:=probB p=true∧p.Nodes.length<=100000000∧p.Edges.length<=100000000
theorem okT.next{p:b_}(h:okT p)(e:(roundV p).2.2.2=true):okT (roundV p).1:=by
 obtain⟨a,b,d,-⟩:=pP_ p h.1 e;exact⟨a,b,d⟩
theorem oT_{X:List (List Int)}{m n:Int}(h:confsB X m n=true)(f:m<=4)(g:n<=8):∀x∈X,x.length<=1000∧∀y∈x,0<=y∧y<=1000:=λx e=>by
 obtain⟨a,-,b⟩:=(et_ h).1 x e;exact⟨by omega,λy d=>by have:=b y d;omega⟩
theorem kL_(X:List (List Int))(e:∀x∈X,x.length<=1000∧∀y∈x,0<=y∧y<=1000)(h:X.length<1000000000):dD_ X=some X:=by
 have:=dX_ (ρ:=List (List Int)) (body:=dv_ X) (λj=>X.take j++List.replicate (X.length-j) []) X.length (λj a=>by
  have b:X[j]? =some X[j]:=List.getElem?_eq_getElem a;have f:(X.take j++List.replicate (X.length-j) ([]:List Int)).length=X.length:=by simp;omega
  have d:=hQ_ X [] j a;rw[List.getD_eq_getElem?_getD,b] at d;unfold dv_;rw[aY_,b,sb,kr_ _ (by have:=(e _ (List.getElem_mem a)).1;omega),sb,aY_,List.getElem?_eq_getElem (by omega),sb,iM_ _ _ _ (by omega),sb];exact congrArg (λz=>some (Lp.go z)) d)
 rw[List.take_zero,Nat.sub_zero,List.nil_append,List.take_length,Nat.sub_self,List.replicate_zero,List.append_nil] at this;unfold dD_ mk;rw[if_pos (by omega),sb,F_ (by omega) (by omega),sb,Int.toNat_natCast,this,sb]
theorem nf_(p:b_)(a:okT p):dp_ p=some p:=by
 obtain⟨g,b,i,f,e,d⟩:=aK_ a.1;have h:=a.2.1;have j:=a.2.2;unfold dp_;rw[kL_ _ (oT_ e f b) (by omega),sb,kL_ _ (oT_ d (by omega) b) (by omega),sb]
end
section
theorem mX_{α σ ρ:Type}{body:Int->α->σ->Option (Lp σ σ ρ)}(R:Nat->Option σ)(r:ρ)(xs:List α)(k:∀j,R j=none->R (j+1)=none)
  (h:∀(j:Nat) x s,xs[j]? =some x->R j=some s->body (j:Int) x s=some (match R (j+1) with|some b=> .go b|none=> .ret r)):
  ∀(d j:Nat) s,j+d=xs.length->R j=some s->forI body (xs.drop j) j s=some (match R xs.length with|some b=> .inl b|none=> .inr r):=by
 intro d
 induction d with
 |zero=>
  intro j s o f;have:j=xs.length:=by omega
  subst this;rw[List.drop_length,f];rfl
 | succ d ih=>
  intro j s o f;have i:xs[j]? =some (xs[j]'(by omega)):=List.getElem?_eq_getElem (by omega);rw[List.drop_eq_getElem_cons (by omega)];have n:=h j _ s i f;simp only[forI,n];cases g:R (j+1) with
  | none=>
   have a:∀m,R (j+1+m)=none:=λm=>by
    induction m with
    |zero=>exact g
    |succ m e=>exact k _ e
   have:=a (xs.length-(j+1));rw[show j+1+(xs.length-(j+1))=xs.length by omega] at this;rw[this]
  |some b=>
   have:=ih (j+1) b (by omega) g;simp only
   rw[show((j:Int)+1)=((j+1:Nat):Int) by omega];exact this
noncomputable def bokB(ps:List b_):Bool:=(ps.all λp=>probB p&&p.Degree==(ps.getD 0 ⟨0,0,[],[]⟩).Degree)&&(decide (1<=ps.length)&&decide (ps.length<=7))
theorem nq_{ps:List b_}(h:bokB ps=true):(∀p∈ps,probB p=true∧p.Degree=(ps.getD 0 ⟨0,0,[],[]⟩).Degree)∧1<=ps.length∧ps.length<=7:=by
 unfold bokB at h;simp only[Bool.and_eq_true,List.all_eq_true,beq_iff_eq,decide_eq_true_eq] at h;exact⟨h.1,h.2⟩
noncomputable def bmp(ps:List b_):Nat->Option (List (List Int))
  |0=>some []
  |j+1=>(bmp ps j).bind λM=>if j=0 then some M else
      let q:=ps.getD (j-1) ⟨0,0,[],[]⟩
      let p:=ps.getD j ⟨0,0,[],[]⟩
      if(roundV q).2.2.2=true∧(lmapV (roundV q).1 p).2=true then some (M++[(lmapV (roundV q).1 p).1]) else none
noncomputable def bndV(ps:List b_):ak_×Bool:=
  if bokB ps=true then
    match bmp ps ps.length with
    |none=>(⟨[],[],[]⟩,false)
    |some M=>if(refV (ps.getD (ps.length-1) ⟨0,0,[],[]⟩)).2=true then(⟨ps,M,(refV (ps.getD (ps.length-1) ⟨0,0,[],[]⟩)).1⟩,true) else(⟨[],[],[]⟩,false)
  else(⟨[],[],[]⟩,false)
def smT(ps:List b_):Prop:=ps.length<=100000000∧∀p∈ps,p.Nodes.length<=100000000∧p.Edges.length<=100000000
theorem na_(ps:List b_):∀(j:Nat) M,bmp ps j=some M->M.length<=j
 |0,M,h=>by cases h;simp
 | j+1,M,h=>by
  unfold bmp at h;cases a:bmp ps j with
  |none=>rw[a] at h;cases h
  | some b=>
   have:=na_ ps j b a;rw[a,Option.bind_some] at h;simp only at h;split at h
   ·cases h;omega
   ·split at h
    ·cases h;simp;omega
    ·cases h
theorem getP{ps:List b_}{j:Nat}{p:b_}(h:ps[j]? =some p):ps.getD j ⟨0,0,[],[]⟩=p:=by rw[List.getD_eq_getElem?_getD,h];rfl
theorem vS_(a:Nat)(u:1000000000<=a)(ps:List b_)(h:smT ps):jf_ a ps=some (bokB ps):=by
 have o:∀(j:Nat) x,ps[j]? =some x->eV_ a ps j x ()=some (if(probB x&&x.Degree==(ps.getD 0 ⟨0,0,[],[]⟩).Degree)=true then .go () else .ret false):=λj x b=>by
  obtain⟨t,q⟩:=h.2 x (List.mem_of_getElem? b);have d:=(List.getElem?_eq_some_iff.1 b).1;have i:ps[0]? =some (ps.getD 0 ⟨0,0,[],[]⟩):=by rw[List.getD_eq_getElem?_getD,List.getElem?_eq_getElem (show 0<ps.length by omega)];rfl
  unfold eV_;rw[jr_ a (by omega) x (by omega) (by omega),sb];cases v:probB x
  ·rw[if_pos (by rfl),sb];rfl
  ·rw[if_neg (by simp)];have:ix ps 0=some (ps.getD 0 ⟨0,0,[],[]⟩):=by unfold ix;rw[if_pos (by omega)];exact i
   rw[this,sb,sb];generalize ps.getD 0 ⟨0,0,[],[]⟩=z;by_cases g:x.Degree=z.Degree
   ·simp[g]
   ·simp[g]
 have d:=mX_ (body:=eV_ a ps) (λj=>if((ps.take j).all λp=>probB p&&p.Degree==(ps.getD 0 ⟨0,0,[],[]⟩).Degree)=true then some () else none) false ps (λj b=>by
   split at b
   ·cases b
   ·rename_i n;rw[if_neg];intro e;refine n (List.all_eq_true.2 λx m=>List.all_eq_true.1 e x ?_);rw[List.take_add_one];exact List.mem_append_left _ m)
  (λj x s b f=>by
   rw[o j x b];have k:((ps.take j).all λp=>probB p&&p.Degree==(ps.getD 0 ⟨0,0,[],[]⟩).Degree)=true:=by
    split at f
    ·assumption
    ·cases f
   rw[List.take_add_one,b];simp only[List.all_append,k,Bool.true_and,Option.toList_some,List.all_cons,List.all_nil,Bool.and_true];split<;>rfl) ps.length 0 () (by omega) (by simp)
 unfold jf_ bokB;rw[List.drop_zero] at d;rw[show((0:Nat):Int)=0 from rfl] at d;rw[d,sb,List.take_length];cases e:ps.all λp=>probB p&&p.Degree==(ps.getD 0 ⟨0,0,[],[]⟩).Degree
 ·rfl
 ·simp only[if_true];rw[oG_,sb,Bool.true_and];congr 2
  ·exact decide_eq_decide.2 (by omega)
  ·exact decide_eq_decide.2 (by omega)
theorem ox_(a:Nat)(B:1000000000<=a)(ps:List b_)(h:smT ps):eD_ a ps=some (bokB ps):=by
 unfold eD_ bokB;rw[ii_,sb];by_cases y:1<=ps.length∧ps.length<=7
 ·have g:(decide ((1:Int)<=(ps.length:Int))&&decide ((ps.length:Int)<=7))=true:=by simp;omega
  have m:(decide (1<=ps.length)&&decide (ps.length<=7))=true:=by simp;omega
  rw[g,m,if_neg (by simp),Bool.and_true];have t:∀x∈ps,aN_ a x ps=some (!(probB x&&x.Degree==(ps.getD 0 ⟨0,0,[],[]⟩).Degree)):=λx k=>by
   obtain⟨n,A⟩:=h.2 x k;have s:ps[0]? =some (ps.getD 0 ⟨0,0,[],[]⟩):=by rw[List.getD_eq_getElem?_getD,List.getElem?_eq_getElem (show 0<ps.length by omega)];rfl
   unfold aN_;rw[hh_ a (by omega) x (by omega) (by omega),sb];cases C:probB x
   ·rw[if_pos (by rfl),sb];rfl
   ·rw[if_neg (by simp)];have:ix ps 0=some (ps.getD 0 ⟨0,0,[],[]⟩):=by unfold ix;rw[if_pos (by omega)];exact s
    rw[this,sb,sb];generalize ps.getD 0 ⟨0,0,[],[]⟩=z;rfl
  have hi:∀(d j:Nat),j+d=ps.length->∃q:Unit ⊕ Int,forN (K_ ps λz=>aN_ a z ps) d j ()=some q∧
    (match q with| .inl _=>(ps.drop j).all (λp=>probB p&&p.Degree==(ps.getD 0 ⟨0,0,[],[]⟩).Degree)=true| .inr r=>0<=r∧(ps.drop j).all (λp=>probB p&&p.Degree==(ps.getD 0 ⟨0,0,[],[]⟩).Degree)=false):=by
   intro d
   induction d with
   |zero=>
    intro j v;have:j=ps.length:=by omega
    subst this;exact⟨.inl (),rfl,by simp⟩
   | succ d ih=>
    intro j v;have e:j<ps.length:=by omega
    have k:ps[j]? =some ps[j]:=List.getElem?_eq_getElem e;have n:K_ ps (λz=>aN_ a z ps) j ()=some (if(probB ps[j]&&ps[j].Degree==(ps.getD 0 ⟨0,0,[],[]⟩).Degree)=true then .go () else .ret (j:Int)):=by
     unfold K_;rw[aY_,k,sb];dsimp only
     rw[t _ (List.getElem_mem e),sb];cases probB ps[j]&&ps[j].Degree==(ps.getD 0 ⟨0,0,[],[]⟩).Degree<;>rfl
    rw[List.drop_eq_getElem_cons e];simp only[forN,n,List.all_cons];cases w:probB ps[j]&&ps[j].Degree==(ps.getD 0 ⟨0,0,[],[]⟩).Degree
    ·exact⟨.inr (j:Int),rfl,by omega,by simp⟩
    ·obtain⟨q,f,b⟩:=ih (j+1) (by omega);refine⟨q,?_,?_⟩
     ·simp only[if_true];rw[show((j:Int)+1)=((j+1:Nat):Int) by omega];exact f
     ·simpa using b
  obtain⟨q,f,b⟩:=hi ps.length 0 (by omega);have o:ab_ ps (λz=>aN_ a z ps)=some (q.elim (λ_=> -1) id):=by
   unfold ab_;have i:forN (K_ ps λz=>aN_ a z ps) ps.length 0 ()=some q:=f;rw[F_ (by omega) (by omega),sb,Int.toNat_natCast,i,sb];cases q<;>rfl
  unfold af_;rw[o,sb,sb];rw[List.drop_zero] at b;cases q with
  |inl u=>
   simp only at b;rw[b];rfl
  |inr r=>
   simp only at b;rw[b.2];simp[b.1]
 ·have g:(decide ((1:Int)<=(ps.length:Int))&&decide ((ps.length:Int)<=7))=false:=by
   rw[Bool.and_eq_false_iff,decide_eq_false_iff_not,decide_eq_false_iff_not];omega
  have m:(decide (1<=ps.length)&&decide (ps.length<=7))=false:=by
   rw[Bool.and_eq_false_iff,decide_eq_false_iff_not,decide_eq_false_iff_not];omega
  rw[g,m,if_pos (by rfl),Bool.and_false]
theorem re_(X:List (List Int))(d:∀x∈X,x.length<=1000)(h:X.length<=1000000000):gx_ X=some X:=by
 have b:=if_ (body:=fu_) (λj=>X.take j) X (λj x a=>by
  have hi:=(List.getElem?_eq_some_iff.1 a).1;unfold fu_;rw[gs_ x (by have:=d x (List.mem_of_getElem? a);omega),sb];unfold push;rw[if_pos (by simp;omega),sb,ev_ a])
 rw[List.take_zero,List.take_length] at b;unfold gx_;rw[b,sb]
theorem okT.rows{p:b_}(h:okT p):(∀x∈p.Nodes,x.length<=1000)∧∀x∈p.Edges,x.length<=1000:=by
 obtain⟨e,i,f,g,d,b⟩:=aK_ h.1;exact⟨λx a=>by have:=((et_ d).1 x a).1;omega,λx a=>by have:=((et_ b).1 x a).1;omega⟩
theorem vQ_(p:b_)(h:okT p):iW_ p=some p:=by
 unfold iW_;rw[re_ _ h.rows.1 (by have:=h.2.1;omega),sb,re_ _ h.rows.2 (by have:=h.2.2;omega),sb]
theorem tt_(ps:List b_)(j:Nat)(p:b_)(a:ps[j]? =some p)(M:List (List Int))(b:bmp ps j=some M):
  bmp ps (j+1)=if j=0 then some M else if(roundV (ps.getD (j-1) ⟨0,0,[],[]⟩)).2.2.2=true∧(lmapV (roundV (ps.getD (j-1) ⟨0,0,[],[]⟩)).1 p).2=true then some (M++[(lmapV (roundV (ps.getD (j-1) ⟨0,0,[],[]⟩)).1 p).1]) else none:=by
 unfold bmp;rw[b,Option.bind_some,getP a]
theorem prevP{ps:List b_}{j:Nat}(d:j≠0)(b:j<ps.length):ix ps ((j:Int)-1)=some (ps.getD (j-1) ⟨0,0,[],[]⟩)∧ps.getD (j-1) ⟨0,0,[],[]⟩∈ps:=by
 have a:ps[j-1]? =some (ps[j-1]'(by omega)):=List.getElem?_eq_getElem (by omega);rw[getP a,show((j:Int)-1)=((j-1:Nat):Int) by omega,aY_,a];exact⟨rfl,List.getElem_mem _⟩
theorem rz_(ps:List b_)(j:Nat)(h:bmp ps j=none):bmp ps (j+1)=none:=by unfold bmp;rw[h];rfl
theorem pj_(a:Nat)(i:1000000000<=a)(ps:List b_)(y:ps.length<=1000000)(d:∀p∈ps,okT p)(j:Nat)(p:b_)(e:ps[j]? =some p)(M:List (List Int))(h:bmp ps j=some M):
  dM_ a ps j p ([],[],[],ps.take j,M)=some (match bmp ps (j+1) with|some o=> .go ([],[],[],ps.take (j+1),o)|none=> .ret (⟨[],[],[]⟩,false)):=by
 have g:=d p (List.mem_of_getElem? e);have m:=(List.getElem?_eq_some_iff.1 e).1;have n:=na_ ps j M h;rw[tt_ ps j p e M h];unfold dM_;rw[vQ_ p g,sb];simp only
 unfold push;rw[if_pos (by simp;omega),sb,ev_ e];by_cases f:j=0
 ·subst f;rw[if_pos (by simp),if_pos rfl]
 ·obtain⟨k,u⟩:=prevP f m;have b:=d _ u;rw[if_neg (by simp;omega),if_neg f,F_ (by omega) (by omega),sb,k,sb];generalize ps.getD (j-1) ⟨0,0,[],[]⟩=q at b;rw[kf_ a i q b.1 b.2.1 b.2.2,sb];cases v:(roundV q).2.2.2
  ·rw[if_pos (by rfl),if_neg (by simp)]
  ·obtain⟨w,s,t⟩:=b.next v;rw[if_neg (by simp),(mG_ a i (roundV q).1 p s t g.2.1 g.2.2).1,sb];cases x:(lmapV (roundV q).1 p).2
   ·rw[if_pos (by rfl),if_neg (by simp)]
   ·rw[if_neg (by simp),if_pos (show M.length<1000000000 by omega),sb,if_pos ⟨rfl,rfl⟩]
theorem kX_(a:Nat)(i:1000000000<=a)(ps:List b_)(y:ps.length<=1000000)(d:∀p∈ps,okT p)(j:Nat)(p:b_)(e:ps[j]? =some p)(M:List (List Int))(h:bmp ps j=some M):
  cm_ a ps j p (ps.take j,M)=some (match bmp ps (j+1) with|some o=> .go (ps.take (j+1),o)|none=> .ret (⟨[],[],[]⟩,false)):=by
 have g:=d p (List.mem_of_getElem? e);have m:=(List.getElem?_eq_some_iff.1 e).1;have n:=na_ ps j M h;rw[tt_ ps j p e M h];unfold cm_;rw[nf_ p g,sb];simp only
 unfold push;rw[if_pos (by simp;omega),sb,ev_ e];by_cases f:j=0
 ·subst f;rw[if_pos (by simp),if_pos rfl]
 ·obtain⟨k,u⟩:=prevP f m;have b:=d _ u;rw[if_neg (by simp;omega),if_neg f,F_ (by omega) (by omega),sb,k,sb];generalize ps.getD (j-1) ⟨0,0,[],[]⟩=q at b;rw[pF_ a i q b.1 b.2.1 b.2.2,sb];cases v:(roundV q).2.2.2
  ·rw[if_pos (by rfl),if_neg (by simp)]
  ·obtain⟨w,s,t⟩:=b.next v;rw[if_neg (by simp),(mG_ a i (roundV q).1 p s t g.2.1 g.2.2).2,sb];cases x:(lmapV (roundV q).1 p).2
   ·rw[if_pos (by rfl),if_neg (by simp)]
   ·rw[if_neg (by simp),if_pos (show M.length<1000000000 by omega),sb,if_pos ⟨rfl,rfl⟩]
noncomputable def bnd1(ps:List b_):ak_×Bool:=
  match bmp ps ps.length with
  |none=>(⟨[],[],[]⟩,false)
  |some M=>if(refV (ps.getD (ps.length-1) ⟨0,0,[],[]⟩)).2=true then(⟨ps,M,(refV (ps.getD (ps.length-1) ⟨0,0,[],[]⟩)).1⟩,true) else(⟨[],[],[]⟩,false)
theorem nz_{ps:List b_}(h:bokB ps=true):bndV ps=bnd1 ps:=by unfold bndV bnd1;rw[if_pos h]
theorem mM_{ps:List b_}(h:bokB ps=false):bndV ps=(⟨[],[],[]⟩,false):=by unfold bndV;rw[if_neg (by simp[h])]
theorem tV_(a:Nat)(h:1000000000<=a)(ps:List b_)(n:1<=ps.length)(k:ps.length<=1000000)(b:∀p∈ps,okT p):gG_ a ps=some (bnd1 ps):=by
 have e:=mX_ (body:=dM_ a ps) (λj=>(bmp ps j).map λM=>([],[],[],ps.take j,M)) (⟨[],[],[]⟩,false) ps (λj d=>by
   have:bmp ps j=none:=by simpa using d
   rw[rz_ ps j this];rfl)
  (λj x s d m=>by
   obtain⟨M,i,rfl⟩:=Option.map_eq_some_iff.1 m;rw[pj_ a h ps k b j x d M i];cases bmp ps (j+1)<;>rfl) ps.length 0 ([],[],[],[],[]) (by omega) rfl
 have g:ps[ps.length-1]? =some (ps[ps.length-1]'(by omega)):=List.getElem?_eq_getElem (by omega);have f:=b _ (List.getElem_mem (show ps.length-1<ps.length by omega));unfold gG_ bnd1;rw[List.drop_zero,show((0:Nat):Int)=0 from rfl] at e;rw[e,sb,getP g];cases o:bmp ps ps.length with
 |none=>rfl
 |some M=>
  simp only[Option.map_some];rw[F_ (by omega) (by omega),sb,show((ps.length:Int)-1)=((ps.length-1:Nat):Int) by omega,aY_,g,sb,wF_ a h _ f.2.1 f.2.2,sb,List.take_length];cases (refV (ps[ps.length-1]'(by omega))).2<;>rfl
theorem va_(a:Nat)(d:1000000000<=a)(ps:List b_)(h:smT ps):fH_ a ps=some (bndV ps):=by
 unfold fH_;rw[vS_ a d ps h,sb];cases b:bokB ps
 ·rw[if_pos (by rfl),mM_ b]
 ·obtain⟨g,f,i⟩:=nq_ b;rw[if_neg (by simp),tV_ a d ps f (by omega) (λp e=>⟨(g p e).1,h.2 p e⟩),sb,nz_ b]
theorem uA_(a:Nat)(e:1000000000<=a)(ps:List b_)(h:smT ps):fF_ a ps=some (bndV ps):=by
 unfold fF_;rw[ox_ a e ps h,sb];cases d:bokB ps
 ·rw[if_pos (by rfl),mM_ d]
 ·obtain⟨o,u,t⟩:=nq_ d;have b:∀p∈ps,okT p:=λp m=>⟨(o p m).1,h.2 p m⟩;have g:=mX_ (body:=cm_ a ps) (λj=>(bmp ps j).map λM=>(ps.take j,M)) (⟨[],[],[]⟩,false) ps (λj f=>by
    have:bmp ps j=none:=by simpa using f
    rw[rz_ ps j this];rfl)
   (λj x s f q=>by
    obtain⟨M,n,rfl⟩:=Option.map_eq_some_iff.1 q;rw[kX_ a e ps (by omega) b j x f M n];cases bmp ps (j+1)<;>rfl) ps.length 0 ([],[]) (by omega) rfl
  have k:ps[ps.length-1]? =some (ps[ps.length-1]'(by omega)):=List.getElem?_eq_getElem (by omega);have i:=b _ (List.getElem_mem (show ps.length-1<ps.length by omega));rw[nz_ d];unfold bnd1;rw[List.drop_zero,show((0:Nat):Int)=0 from rfl] at g;rw[if_neg (by simp),g,sb,getP k];cases d:bmp ps ps.length with
  |none=>rfl
  |some M=>
   simp only[Option.map_some];rw[F_ (by omega) (by omega),sb,show((ps.length:Int)-1)=((ps.length-1:Nat):Int) by omega,aY_,k,sb,wJ_ a e _ i.2.1 i.2.2,sb,List.take_length];cases (refV (ps[ps.length-1]'(by omega))).2<;>rfl
end
section
open Go.RowKit
theorem RdL.ints{w:World}{v:Value}{l:List Int}(h:RdL zt w v l):Ints w v l:=by
 obtain⟨a,c,rfl,p,o,k⟩:=h;refine⟨a,c,by simp,by simpa using p,o,?_⟩;cases l with
 |nil=>exact .inl rfl
 |cons y l=>
  obtain⟨b,off,cs,rfl,-⟩:=k 0 y rfl;refine .inr ⟨b,off,rfl,λi x j=>?_⟩;rw[List.getElem?_map,Option.map_eq_some_iff] at j;obtain⟨z,m,rfl⟩:=j;obtain⟨s,g,d,e,-,-,n,q⟩:=k i z m;cases e
  have f:d=[.int .i64 z]:=q;subst f;have:=n 0 _ rfl;simpa [Rp.sz] using this
theorem RdL.rows{w:World}{v:Value}{LL:List (List Int)}(h:RdL zt w v LL):IntRows w v LL:=by
 obtain⟨a,c,rfl,t,o,p⟩:=h;cases LL with
 |nil=>exact⟨[],⟨a,c,rfl,Nat.zero_le _,o,.inl rfl⟩,rfl,λi hi=>by simp at hi⟩
 | cons y LL=>
  obtain⟨b,off,cs,rfl,-⟩:=p 0 y rfl;have g:∀i,i<(y::LL).length->∃u,w.cell? ⟨b,off+i,none⟩=some u∧Ints w u ((y::LL).getD i []):=λi hi=>by
   have f:(y::LL)[i]? =some (y::LL)[i]:=List.getElem?_eq_getElem hi;obtain⟨A,n,q,e,-,-,s,k⟩:=p i _ f;cases e
   obtain⟨u,rfl,d⟩:=k;refine⟨u,by have:=s 0 _ rfl;simpa [Rp.sz] using this,?_⟩;rw[List.getD_eq_getElem?_getD,f];exact RdL.ints d
  refine⟨(List.range (y::LL).length).map λi=>(w.cell? ⟨b,off+i,none⟩).getD undef,⟨some ⟨b,off,none⟩,c,by simp,by simpa using t,o,.inr ⟨b,off,rfl,λi x f=>?_⟩⟩,by simp,λi hi=>?_⟩
  ·rw[List.getElem?_map,Option.map_eq_some_iff] at f;obtain⟨j,m,rfl⟩:=f;have hi:i<(y::LL).length:=by
    have:=(List.getElem?_eq_some_iff.1 m).1;simpa using this
   have:i=j:=by
    rw[List.getElem?_range hi] at m;simpa using m
   subst this;obtain⟨u,d,-⟩:=g i hi;rw[d];rfl
  ·have hi':i<(y::LL).length:=by simpa using hi
   obtain⟨u,d,k⟩:=g i hi';rw[List.getD_eq_getElem?_getD,List.getElem?_map,List.getElem?_range hi',Option.map_some,Option.getD_some,d];exact k
theorem flat1{α β:Type}(f:α->β):∀l:List α,(l.map λx=>[f x]).flatten=l.map f
 |[]=>rfl
 |x::l=>by rw[List.map_cons,List.flatten_cons,flat1 f l];rfl
theorem Own.ow0{B:Nat}{o:Tg}{w:World}{v:Value}{l:List Int}(h:Own B w v l)(d:∀g,v.ownBlock=some g->o g=0):Ow B 3 0 o w v l:=by
 refine⟨l.map λx=>[.int .i64 x],by simp,?_,d,λi cs x a b=>?_⟩
 ·rw[flat1];exact h
 ·rw[List.getElem?_map,b] at a;cases a
  rfl
theorem OwM.dw{lo hi:Nat}{o:Tg}{w:World}{v:Value}{LL:List (List Int)}(h:OwM lo hi w v LL)(A:∀b,lo<=b->b<hi->o b=0):Dw lo hi 41 3 o w v LL:=by
 obtain⟨vs,k,D,B⟩:=h;have y:=k.len;have f:∀(i:Nat)(u:Hv),(vs.map λv=>(⟨v⟩:Hv))[i]? =some u->i<LL.length∧vs.getD i undef=u.v:=λi u C=>by
  rw[List.getElem?_map,Option.map_eq_some_iff] at C;obtain⟨a,q,rfl⟩:=C;have:=(List.getElem?_eq_some_iff.1 q).1;exact⟨by omega,by rw[List.getD_eq_getElem?_getD,q];rfl⟩
 have t:∀g,v.ownBlock=some g->o g=0:=λg m=>A g (World.ownsRow.lt k.row g m).1 (D g m);refine⟨vs.map λv=>⟨v⟩,⟨vs.map λv=>[v],by simp,?_,t,λi cs x a b=>?_⟩,⟨by simp[y],λi u x a b=>?_,λi j u G g a b c d=>?_⟩,D,λi u g a b=>?_⟩
 ·rw[flat1 (λv=>v),List.map_id',List.length_map,y];exact k.row
 ·obtain⟨hi',e⟩:=f i x b;rw[List.getElem?_map,Option.map_eq_some_iff] at a b;obtain⟨F,q,rfl⟩:=a;obtain⟨H,E,rfl⟩:=b;rw[q] at E;cases E
  refine⟨rfl,?_⟩;have:=k.own i hi';rw[e] at this;obtain⟨I,J,p,-⟩:=this.ints;have p:F=_:=p;rw[p];rfl
 ·obtain⟨hi',e⟩:=f i u a;have:=k.own i hi';rw[e,List.getD_eq_getElem?_getD,b] at this;exact this.ow0 λg m=>A g (this.lt g m).1 (B i hi' g (by rw[e];exact m))
 ·obtain⟨hi',e⟩:=f i u a;obtain⟨s,p⟩:=f j G b;by_cases n:i=j
  ·exact n
  ·have:=k.apart i j hi' s n;rw[e,p] at this;rcases this with h|h
   ·rw[c] at h;cases h
   ·exact absurd (c.trans d.symm) h
 ·obtain⟨hi',e⟩:=f i u a;exact B i hi' g (by rw[e];exact b)
theorem pk_(w:World)(i:Tg)(p:List Value)(f:b_)(x:Rp.rd zt w p f)(h:szP (prOf f)<=1048576):
  Calls Tryz.prog 11 #[.agg p.toArray] w (λe w'=>∃(k:List Value)(q:Tg),e=.returned (.agg k.toArray)∧Pc w.heap.size w'.heap.size q w' k f∧Keeps w w'∧∀b,b<w.heap.size->q b=i b):=by
 obtain⟨y,F,rfl,A,u⟩:=x;refine (mT_ _ (prOf f) w ⟨y,F,rfl,A.rows,u.rows⟩ h).mono ?_;rintro e w' ⟨r,rfl,⟨j,o,rfl,a,b,c,d,t,D,B,E,G,C,v⟩,H⟩;have m:∀g,w.heap.size<=g->(λb=>if b<w.heap.size then i b else 0) g=0:=λg n=>if_neg (by omega);exact⟨[.int .i64 f.Labels,.int .i64 f.Degree,j,o],λb=>if b<w.heap.size then i b else 0,rfl,⟨j,o,rfl,a,b,c,d,t,D,B,E,G,C.dw λg s _=>m g (by omega),v.dw λg s _=>m g (by omega)⟩,H,λg n=>if_pos n⟩
instance:Rz Qv:=⟨⟨[.int .i64 0,.int .i64 0,.slice none 0 0,.slice none 0 0]⟩,[.int .i64 0,.int .i64 0,.slice none 0 0,.slice none 0 0],λo w=>Qv.ok (o:=o) (w:=w) rfl rfl⟩
theorem mkQ{n:Nat}{a:List b_}(h:mk (Rz.z:b_) (n:Int)=some a):mk (Rz.z:Qv) (n:Int)=some (List.replicate n Rz.z)∧(List.replicate n (Rz.z:Qv)).length=a.length∧a.length=n:=by
 obtain⟨d,b,rfl⟩:=pD_ h;exact⟨by unfold mk;rw[if_pos ⟨d,b⟩,Int.toNat_natCast],by simp,by simp⟩
theorem ixQ{b:List b_}{a:List Qv}{i:Int}{x:b_}(h:ix b i=some x)(e:a.length=b.length):∃z,ix a i=some z:=by
 obtain⟨d,f,g⟩:=fx_ h;exact⟨a[i.toNat]'(by omega),by unfold ix;rw[if_pos d,List.getElem?_eq_getElem (by omega)]⟩
theorem stQ(z:Qv){a zs:List b_}{b:List Qv}{i:Int}{p:b_}(h:st a i p=some zs)(f:b.length=a.length):
  ∃d,st b i z=some d∧d.length=zs.length∧d.take (i.toNat+1)=b.take i.toNat++[z]∧zs.length=a.length∧zs.take (i.toNat+1)=a.take i.toNat++[p]:=by
 obtain⟨g,k,rfl⟩:=nk_ h;have e:∀{α:Type}(xs:List α)(x:α),i.toNat<xs.length->(xs.set i.toNat x).take (i.toNat+1)=xs.take i.toNat++[x]:=λxs x j=>by
  rw[List.take_add_one,List.getElem?_set,if_pos rfl,if_pos j,List.take_set,List.set_eq_of_length_le (by simp;omega)];rfl
 exact⟨b.set i.toNat z,by unfold st;rw[if_pos ⟨g,by omega⟩],by simp[f],e b z (by omega),by simp,e a p (by omega)⟩
def OwL(lo hi:Nat)(w:World)(v:Value)(ps:List b_):Prop:=∃T:Nat->Nat,OwQT T w v ps∧∀b,T b≠0->lo<=b∧b<hi
theorem OwL.mk{N B k:Nat}{o:Tg}{w:World}{f:List Qv}{ps:List b_}{v:Value}(h:Ow B 28 k o w v f)(A:k≠0)(s:PrsN N B o w f ps):OwL B w.heap.size w v ps:=by
 have d:=s.2.1;obtain⟨T,q,x,u⟩:=s.colour λb=>if B<=b∧b<w.heap.size∧o b=k then 1 else 0;refine⟨T,?_,λb j=>?_⟩
 ·obtain⟨css,y,t,m,C⟩:=h;refine⟨css,y.trans d,by rw[<-d];exact World.ownsRow.mono t (Nat.zero_le _),λg e=>?_,λi cs p a b=>?_⟩
  ·have:=World.ownsRow.lt t g e;rw[q g (by rw[m g e];exact A),if_pos ⟨this.1,this.2,m g e⟩]
  ·have hi':i<f.length:=by have:=(List.getElem?_eq_some_iff.1 b).1;omega
   have e:f[i]? =some f[i]:=List.getElem?_eq_getElem hi';have:=(C i cs f[i] a e).1;rw[this];exact u i _ p e b
 ·by_cases n:o b=0
  ·exact x b n j
  ·rw[q b n] at j;by_cases d:B<=b∧b<w.heap.size∧o b=k
   ·exact⟨d.1,d.2.1⟩
   ·rw[if_neg d] at j;exact absurd rfl j
end
end Go.Proofs.YtdbbeldgdgonfaaGreat
