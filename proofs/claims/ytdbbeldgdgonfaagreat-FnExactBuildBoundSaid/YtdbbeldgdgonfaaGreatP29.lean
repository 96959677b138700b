/- Part 29 of what this claim rests on (pack.py). -/
import Derived.Test.YtdbbeldgdgonfaaGreatP28
namespace Go.Proofs.YtdbbeldgdgonfaaGreat
set_option linter.unusedSimpArgs false
set_option linter.unusedVariables false
section
theorem pp_{σ ρ:Type}{f:σ×Int->Option (Lp (σ×Int) (σ×Int) ρ)}(P:Nat->σ->Prop)(n:Nat)(h:∀(j:Nat) s,j<n->P j s->∃e,f (s,(j:Int))=some (.go (e,((j+1:Nat):Int)))∧P (j+1) e)
  (b:∀s,f (s,(n:Int))=some (.out (s,(n:Int)))):∀(d j a:Nat) s,j+d=n->d<a->P j s->∃e,loopF f a (s,(j:Int))=some (.inl (e,(n:Int)))∧P n e
 |0,j,a,s,u,t,g=>by
  obtain⟨m,rfl⟩:∃m,a=m+1:=⟨a-1,by omega⟩;have:j=n:=by omega
  subst this;exact⟨s,by simp only[loopF,b],g⟩
 |d+1,j,a,s,u,t,g=>by
  obtain⟨m,rfl⟩:∃m,a=m+1:=⟨a-1,by omega⟩;obtain⟨k,q,p⟩:=h j s (by omega) g;obtain⟨e,i,o⟩:=pp_ P n h b d (j+1) m k (by omega) (by omega) p;exact⟨e,by simp only[loopF,q];exact i,o⟩
theorem rw_{α σ ρ:Type}{body:Int->α->σ->Option (Lp σ σ ρ)}(P:Nat->σ->Prop)(xs:List α)(h:∀(j:Nat) x s,xs[j]? =some x->P j s->∃a,body (j:Int) x s=some (.go a)∧P (j+1) a):
  ∀(d j:Nat) s,j+d=xs.length->P j s->∃a,forI body (xs.drop j) (j:Int) s=some (.inl a)∧P xs.length a
 |0,j,s,i,b=>by
  have:j=xs.length:=by omega
  subst this;exact⟨s,by rw[List.drop_length];rfl,b⟩
 |d+1,j,s,i,b=>by
  obtain⟨g,k,f⟩:=h j xs[j] s (List.getElem?_eq_getElem (by omega)) b;obtain⟨a,e,m⟩:=rw_ P xs h d (j+1) g (by omega) f;refine⟨a,?_,m⟩;rw[List.drop_eq_getElem_cons (by omega)];simp only[forI,k];exact e
theorem kR_{α σ ρ:Type}{body:Int->α->σ->Option (Lp σ σ ρ)}(P:Nat->σ->Prop)(xs:List α)(s:σ)(b:P 0 s)(h:∀(j:Nat) x s,xs[j]? =some x->P j s->∃a,body (j:Int) x s=some (.go a)∧P (j+1) a):
  ∃a,forI body xs 0 s=some (.inl a)∧P xs.length a:=by
 have:=rw_ P xs h xs.length 0 s (by omega) b;rwa [List.drop_zero] at this
def retV(N:List (List Int))(L D:Nat):List Bool:=(List.range (L^D)).map λn=>decide (srt (digs L D n)∈N)
theorem rF_(L D n a:Nat)(m:1<=L)(o:L<=8)(b:D<=4)(g:n<=1000000)(i:10<=a):loopF (dc_ (L:Int) (D:Int)) a ([],(n:Int))=some (.inl (digs L D n,((n/L^D:Nat):Int))):=by
 have h:=ce_ (f:=dc_ (L:Int) (D:Int)) (λj=>(digs L j n,((n/L^j:Nat):Int))) D (λj k=>by
  have e:n/L^j/L<=n:=Nat.le_trans (Nat.div_le_self _ _) (Nat.div_le_self _ _);have d:=dO_ L j n;unfold dc_;simp only
  unfold rem quo push;rw[if_pos (by simp;omega),if_neg (by omega),sb,if_pos (by omega),sb,if_neg (by omega),show((n/L^j:Nat):Int).tdiv (L:Int)=((n/L^j/L:Nat):Int) from rfl,kW_ (by omega),sb,
   show((n/L^j:Nat):Int).tmod (L:Int)=((n/L^j%L:Nat):Int) from rfl,iN_,Nat.pow_succ,Nat.div_div_eq_div_mul]) (by
  unfold dc_;simp only
  rw[if_neg (by simp[dO_])]) a 0 (by omega) (by omega)
 simpa [digs] using h
theorem oz_(a:Nat)(u:100<=a)(N:List (List Int))(L D:Nat)(g:1<=L)(o:L<=8)(n:D<=4):fM_ a N (L:Int) (D:Int)=some (retV N L D):=by
 have h:=cT_ (L:=L) (k:=D) (by omega) (by omega);have e:=ce_ (f:=dR_ (L:Int) (D:Int)) (λj=>(((L^j:Nat):Int),(j:Int))) D (λj s=>by
  have v:=cT_ (L:=L) (k:=j+1) (by omega) (by omega);unfold dR_;simp only
  rw[if_pos (by simpa using s),show((L^j:Nat):Int)*(L:Int)=((L^(j+1):Nat):Int) by rw[Nat.pow_succ];exact(Int.natCast_mul _ _).symm,F_ (by omega) (by omega),sb,F_ (by omega) (by omega),sb];rfl) (by
  unfold dR_;simp only
  rw[if_neg (by simp)]) a 0 (by omega) (by omega)
 have b:=dX_ (body:=eJ_ a N (L:Int) (D:Int)) (λK=>(List.range (L^D)).map λk=>if k<K then decide (srt (digs L D k)∈N) else false) (L^D) (λK d=>by
  have p:=dO_ L D K;unfold eJ_;rw[rF_ L D K a g o n (by omega) (by omega),sb];simp only
  rw[iv_ _ a (by omega) (by omega),sb,<-gn_,jJ_ _ _ (by rw[ei_];omega),sb,hg_ _ _ (by simp;exact d),sb,iM_ _ _ _ (by simp;exact d),sb,lw_ false _ _ _ (λk=>decide (srt (digs L D k)∈N)) rfl d])
 unfold fM_ mk;rw[show((1:Int),(0:Int))=(((L^0:Nat):Int),((0:Nat):Int)) by simp,e,sb];simp only
 rw[if_pos (by omega),sb,List.length_replicate,Int.toNat_natCast,F_ (by omega) (by omega),sb,Int.toNat_natCast];have q:List.replicate (L^D) (Rz.z:Bool)=(List.range (L^D)).map λk=>if k<0 then decide (srt (digs L D k)∈N) else false:=by
  refine List.ext_getElem (by simp) λi g e=>?_;simp;rfl
 rw[q,b,sb];unfold retV;have m:((List.range (L^D)).map λk=>if k<L^D then decide (srt (digs L D k)∈N) else false)=(List.range (L^D)).map λk=>decide (srt (digs L D k)∈N):=by
  refine List.map_congr_left λk t=>?_;rw[if_pos (List.mem_range.1 t)]
 rw[m]
theorem vF_(N:List (List Int))(L D:Nat)(c:List Int)(h:∀a∈c,0<=a∧a<(L:Int))(e:c.length=D):∃g,ix (retV N L D) ((valN L c.reverse:Nat):Int)=some g∧(g=true<->srt c∈N):=by
 have b:∀a∈c.reverse,0<=a∧a<(L:Int):=λa i=>h a (List.mem_reverse.1 i);have f:=gr_ c.reverse b;rw[List.length_reverse,e] at f;have d:=kq_ c.reverse b;rw[List.length_reverse,e] at d;refine⟨decide (srt c∈N),?_,by simp⟩;unfold retV;rw[aY_,List.getElem?_map,List.getElem?_range f,Option.map_some,d,ib_ (List.reverse_perm c)]
def msk(n:Nat)(M:List Int):Prop:=M.length=n∧∀v∈M,0<=v∧v<256
def bo(M:List Int)(a b:Nat):Prop:=(M.getD a 0).toNat.testBit b=true
theorem msk.at{n:Nat}{M:List Int}(h:msk n M){a:Nat}(f:a<n):∃m:Nat,m<256∧M[a]? =some (m:Int)∧M.getD a 0=(m:Int):=by
 have d:=h.1;have b:=h.2 M[a] (List.getElem_mem _);have e:((M[a].toNat:Nat):Int)=M[a]:=Int.toNat_of_nonneg b.1;refine⟨M[a].toNat,by omega,?_,?_⟩
 ·rw[e];exact List.getElem?_eq_getElem (by omega)
 ·rw[e,List.getD_eq_getElem?_getD,List.getElem?_eq_getElem (by omega)];rfl
theorem msk.set{n:Nat}{M:List Int}(h:msk n M)(a:Nat){m:Nat}(d:m<256):msk n (M.set a (m:Int)):=
 ⟨by rw[List.length_set];exact h.1,λv b=>by
  rcases List.mem_or_eq_of_mem_set b with b|rfl
  ·exact h.2 v b
  ·omega⟩
theorem tW_{M:List Int}{a:Nat}(d:a<M.length)(v c b:Nat):bo (M.set a (v:Int)) c b<->if c=a then v.testBit b=true else bo M c b:=by
 unfold bo;rw[List.getD_eq_getElem?_getD,List.getElem?_set];by_cases e:c=a
 ·subst e;rw[if_pos rfl,if_pos d,if_pos rfl];simp
 ·rw[if_neg (λh=>e h.symm),if_neg e,<-List.getD_eq_getElem?_getD]
theorem getD_some{α:Type}{xs:List α}{i:Nat}{x z:α}(h:xs[i]? =some x):xs.getD i z=x:=by rw[List.getD_eq_getElem?_getD,h];rfl
theorem jS_{n:Nat}{x:List Int}(d:∀y∈x,0<=y∧y<(n:Int)){i:Nat}(hi:i<x.length):∃a:Nat,a<n∧x[i]? =some (a:Int)∧x.getD i 0=(a:Int):=by
 have f:=d x[i] (List.getElem_mem _);have e:((x[i].toNat:Nat):Int)=x[i]:=Int.toNat_of_nonneg f.1;have b:x[i]? =some ((x[i].toNat:Nat):Int):=by rw[e];exact List.getElem?_eq_getElem hi
 exact⟨x[i].toNat,by omega,b,getD_some b⟩
def cnd(x S c:List Int)(b:Nat):Prop:=bo S (x.getD c.length 0).toNat b∧(c.length=0∨x.getD (c.length-1) 0≠x.getD c.length 0∨c.getD (c.length-1) 0=(b:Int))
def chR(L:Nat)(x S:List Int):Nat->List Int->List Int->Prop
  |0,c,y=>y=c
  |d+1,c,y=>∃b:Nat,b<L∧cnd x S c b∧chR L x S d (c++[(b:Int)]) y
def marked(x y:List Int)(a b:Nat):Prop:=∃i,i<x.length∧x.getD i 0=(a:Int)∧y.getD i 0=(b:Int)
theorem uP_(X:H_)(L:Nat)(g:X.q.Labels=(L:Int))(e:L<=8)(c:List Int)(d:∀a∈c,0<=a∧a<(L:Int))(o:c.length<=4):forI (bh_ X) c 0 0=some (.inl ((valN L c.reverse:Nat):Int)):=by
 have:=if_ (ρ:=List Int) (body:=bh_ X) (λj=>((valN L (c.take j).reverse:Nat):Int)) c (λj v b=>by
  have hi:=(List.getElem?_eq_some_iff.1 b).1;have n:=d v (List.mem_of_getElem? b);have f:=gr_ (L:=L) (c.take j).reverse (λa h=>d a (List.mem_of_mem_take (List.mem_reverse.1 h)));have m:=cT_ (L:=L) (k:=(c.take j).reverse.length) e (by rw[List.length_reverse,List.length_take];omega);have i:valN L (c.take j).reverse*L<=4096*8:=Nat.mul_le_mul (by omega) e;unfold bh_;rw[g,<-Int.natCast_mul,F_ (by omega) (by omega),sb,F_ (by omega) (by omega),sb,ev_ b,List.reverse_append];congr 2;show _=(((v.toNat+L*valN L (c.take j).reverse:Nat)):Int);rw[Nat.mul_comm L];omega)
 rw[List.take_length] at this;exact this
theorem up_(x c M:List Int)(n:Nat)(O:∀y∈x,0<=y∧y<(n:Int))(G:c.length=x.length)(L:Nat)(S:L<=8)(I:∀a∈c,0<=a∧a<(L:Int))(J:msk n M):
  ∃o,forI (bi_ x) c 0 M=some (.inl o)∧msk n o∧∀a b,bo o a b<->bo M a b∨marked x c a b:=by
 obtain⟨o,f,d,H⟩:=kR_ (ρ:=List Int) (body:=bi_ x) (λj K=>msk n K∧∀a b,bo K a b<->bo M a b∨∃i,i<j∧x.getD i 0=(a:Int)∧c.getD i 0=(b:Int)) c M ⟨J,λa b=>⟨.inl,λh=>h.elim id λ⟨i,hi,_⟩=>by omega⟩⟩ (λj v K C p=>by
  obtain⟨p,F⟩:=p;have hi:=(List.getElem?_eq_some_iff.1 C).1;obtain⟨E,u,B,s⟩:=jS_ O (i:=j) (by omega);obtain⟨m,N,D,w⟩:=p.at u;have R:=I v (List.mem_of_getElem? C);obtain⟨k,rfl⟩:∃k:Nat,v=(k:Int):=⟨v.toNat,(Int.toNat_of_nonneg R.1).symm⟩;have d:2^k<256:=by
   have:=Nat.pow_le_pow_right (n:=2) (by decide) (show k<=7 by omega);omega
  have A:m|||2^k<256:=Nat.or_lt_two_pow (n:=8) N d;have Q:=p.1;refine⟨K.set E ((m|||2^k:Nat):Int),?_,p.set _ A,λa b=>?_⟩
  ·unfold bi_;rw[aY_,B,sb,aY_,D,sb,eZ_ (by omega),sb,sb,py_ (by omega) (by omega),iM_ _ _ _ (by omega),sb]
  ·rw[tW_ (by omega)];have t:=getD_some (z:=0) C;by_cases e:a=E
   ·subst e;rw[if_pos rfl,Nat.testBit_or,Bool.or_eq_true,Nat.testBit_two_pow];have g:=F a b;unfold bo at g;rw[w,Int.toNat_natCast] at g;rw[g];unfold bo;constructor
    ·rintro((h|⟨i,hi,f,d⟩)|h)
     ·exact .inl h
     ·exact .inr ⟨i,by omega,f,d⟩
     ·exact .inr ⟨j,by omega,s,by rw[t,of_decide_eq_true h]⟩
    ·rintro(h|⟨i,hi,f,d⟩)
     ·exact .inl (.inl h)
     ·by_cases q:i=j
      ·subst q;rw[t] at d;exact .inr (decide_eq_true (by omega))
      ·exact .inl (.inr ⟨i,by omega,f,d⟩)
   ·rw[if_neg e,F];constructor
    ·rintro(h|⟨i,hi,f,d⟩)
     ·exact .inl h
     ·exact .inr ⟨i,by omega,f,d⟩
    ·rintro(h|⟨i,hi,f,d⟩)
     ·exact .inl h
     ·by_cases q:i=j
      ·subst q;rw[s] at f;omega
      ·exact .inr ⟨i,by omega,f,d⟩)
 refine⟨o,f,d,λa b=>?_⟩;rw[H,G];rfl
theorem uK_(X:H_)(n L:Nat)(x S c:List Int)(F:∀y∈x,0<=y∧y<(n:Int))(O:msk n S)(J:c.length<x.length)(T:x.length<=4)(b:Nat)(Q:b<=62):∃t,((ix x (c.length:Int))>>=λE=>
   (ix S E)>>=λB=>
   (ht_ B (b:Int))>>=λA=>
   if A then
    if(c.length:Int)==0 then
     some true
    else
     (ck ((c.length:Int)-1))>>=λg=>
     (ix x g)>>=λp=>
     (ix x (c.length:Int))>>=λk=>
     if p !=k then
      some true
     else
      (ck ((c.length:Int)-1))>>=λo=>
      (ix c o)>>=λj=>
      some (j==(b:Int))
   else
    some false)=some t∧(t=true<->cnd x S c b):=by
 obtain⟨N,u,D,e⟩:=jS_ F J;obtain⟨m,R,C,w⟩:=O.at u;rw[aY_,D,sb,aY_,C,sb,sN_ m b Q,sb];have a:bo S (x.getD c.length 0).toNat b<->m.testBit b=true:=by unfold bo;rw[e,Int.toNat_natCast,w,Int.toNat_natCast]
 cases s:m.testBit b
 ·exact⟨false,by rw[if_neg (by simp)],by simp,λh=>by have G:=a.1 h.1;rw[s] at G;cases G⟩
 ·rw[if_pos rfl];by_cases q:c.length=0
  ·exact⟨true,by rw[if_pos (by simpa using q)],λ_=>⟨a.2 s,.inl q⟩,λ_=>rfl⟩
  ·have I:(c.length:Int)-1=((c.length-1:Nat):Int):=by omega
   obtain⟨H,M,f,d⟩:=jS_ F (i:=c.length-1) (by omega);rw[if_neg (by simpa using q),F_ (by omega) (by omega),sb,I,aY_,f,sb,sb];by_cases K:H=N
   ·subst K;have v:c[c.length-1]? =some (c.getD (c.length-1) 0):=by rw[List.getD_eq_getElem?_getD,List.getElem?_eq_getElem (by omega)];rfl
    rw[if_neg (by simp),sb,aY_,v,sb];refine⟨_,rfl,?_⟩;rw[beq_iff_eq];constructor
    ·exact λh=>⟨a.2 s,.inr (.inr h)⟩
    ·rintro⟨_,h|h|h⟩
     ·exact absurd h q
     ·rw[d,e] at h;exact absurd rfl h
     ·exact h
   ·refine⟨true,by rw[if_pos (by simp;omega)],λ_=>⟨a.2 s,.inr (.inl ?_)⟩,λ_=>rfl⟩;rw[d,e];omega
theorem lz_(X:H_)(k:List Bool)(G:List Int->Prop)(n L:Nat)(D:X.q.Labels=(L:Int))(I:L<=8)(x S:List Int)(J:∀y∈x,0<=y∧y<(n:Int))(O:msk n S)(Q:x.length<=4)
  (u:∀c:List Int,c.length=x.length->(∀a∈c,0<=a∧a<(L:Int))->∃g,ix k ((valN L c.reverse:Nat):Int)=some g∧(g=true<->G c)):
  ∀(d i:Nat)(c M:List Int),c.length+d=x.length->20+d<i->(∀a∈c,0<=a∧a<(L:Int))->msk n M->
  ∃v,ag_ i X k x S c M=some v∧msk n v∧∀a b,bo v a b<->bo M a b∨∃y,chR L x S d c y∧G y∧marked x y a b
 |0,i,c,M,hd,hf,B,E=>by
  obtain⟨m,rfl⟩:∃m,i=m+1:=⟨i-1,by omega⟩;obtain⟨g,p,o⟩:=u c (by omega) B;unfold ag_;rw[if_neg (by simp;omega),uP_ X L D I c B (by omega),sb];simp only
  rw[p,sb];cases g
  ·exact⟨M,by rw[if_neg (by simp)],E,λa b=>⟨.inl,λh=>h.elim id λ⟨y,e,U,_⟩=>by
    have e:y=c:=e;subst e;exact absurd (o.2 U) (by simp)⟩⟩
  ·obtain⟨v,T,W,V⟩:=up_ x c M n J (by omega) L I B E;refine⟨v,by rw[if_pos rfl,T,sb],W,λa b=>?_⟩;rw[V];exact⟨λh=>h.imp id λh=>⟨c,rfl,o.1 rfl,h⟩,λh=>h.imp id λ⟨y,e,_,A⟩=>by
    have e:y=c:=e;rw[e] at A;exact A⟩
 | d+1,i,c,M,hd,hf,B,E=>by
  obtain⟨m,rfl⟩:∃m,i=m+1:=⟨i-1,by omega⟩;obtain⟨v,p,o,Y⟩:=pp_ (f:=bj_ X k x S c (ag_ m)) (λj K=>msk n K∧∀a b,bo K a b<->bo M a b∨∃t:Nat,t<j∧cnd x S c t∧∃y,chR L x S d (c++[(t:Int)]) y∧G y∧marked x y a b) L (λj K hj F=>by
   obtain⟨F,R⟩:=F;obtain⟨t,Z,N⟩:=uK_ X n L x S c J O (by omega) Q j (by omega);unfold bj_;simp only
   rw[D,if_pos (by simpa using hj),Z,sb];cases t
   ·refine⟨K,by rw[if_neg (by simp),F_ (by omega) (by omega),sb];rfl,F,λa b=>?_⟩;rw[R];refine⟨λh=>h.imp id λ⟨t,s,h⟩=>⟨t,by omega,h⟩,λh=>h.imp id λ⟨t,s,g,g'⟩=>⟨t,?_,g,g'⟩⟩;have:t≠j:=λe=>by rw[e] at g;exact absurd (N.2 g) (by simp)
    omega
   ·have H:∀a∈c++[(j:Int)],0<=a∧a<(L:Int):=λa C=>by
     rcases List.mem_append.1 C with C|C
     ·exact B a C
     ·rw[List.mem_singleton.1 C];omega
    obtain⟨K',k1,k2,k3⟩:=lz_ X k G n L D I x S J O Q u d m (c++[(j:Int)]) K (by simp;omega) (by omega) H F;have w:push c (j:Int)=some (c++[(j:Int)]):=by unfold push;rw[if_pos (by omega)]
    refine⟨K',by rw[if_pos rfl,gs_ _ (by omega),sb,w,sb,k1,sb,F_ (by omega) (by omega),sb];rfl,k2,λa b=>?_⟩;rw[k3,R];constructor
    ·rintro((h|⟨t,s,h,A⟩)|h)
     ·exact .inl h
     ·exact .inr ⟨t,by omega,h,A⟩
     ·exact .inr ⟨j,by omega,N.1 rfl,h⟩
    ·rintro(h|⟨t,s,h,A⟩)
     ·exact .inl (.inl h)
     ·by_cases q:t=j
      ·subst q;exact .inr A
      ·exact .inl (.inr ⟨t,by omega,h,A⟩)) (λK=>by
   unfold bj_;simp only
   rw[D,if_neg (by simp)]) L 0 m M (by omega) (by omega) ⟨E,λa b=>⟨.inl,λh=>h.elim id λ⟨t,s,_⟩=>by omega⟩⟩
  refine⟨v,?_,o,λa b=>?_⟩
  ·unfold ag_;rw[if_pos (by simp;omega)];rw[show((0:Nat):Int)=0 from rfl] at p;rw[p,sb]
  ·rw[Y];exact⟨λh=>h.imp id λ⟨t,s,h,y,p,o⟩=>⟨y,⟨t,s,h,p⟩,o⟩,λh=>h.imp id λ⟨y,⟨t,s,h,p⟩,o⟩=>⟨t,s,h,y,p,o⟩⟩
end
section
theorem oL_{L:Nat}{x S:List Int}:∀{d:Nat}{c y:List Int},chR L x S d c y->y.length=c.length+d∧(∃z,y=c++z)∧∀i,c.length<=i->i<c.length+d->∃b:Nat,b<L∧y.getD i 0=(b:Int)∧bo S (x.getD i 0).toNat b
 |0,c,y,h=>by
  have h:y=c:=h;subst h;exact⟨by omega,⟨[],by simp⟩,λi f a=>by omega⟩
 |d+1,c,y,⟨b,k,j,h⟩=>by
  obtain⟨f,⟨z,a⟩,g⟩:=oL_ h;rw[List.length_append,List.length_singleton] at f g;refine⟨by omega,⟨(b:Int)::z,by rw[a];simp⟩,λi m n=>?_⟩;by_cases e:i=c.length
  ·subst e;refine⟨b,k,?_,j.1⟩;rw[a,List.append_assoc,List.getD_eq_getElem?_getD,List.getElem?_append_right (Nat.le_refl _)];simp
  ·exact g i (by omega) (by omega)
def inS(n L:Nat)(f S:List Int):Prop:=f.length=n∧∀a,a<n->∃b:Nat,b<L∧f.getD a 0=(b:Int)∧bo S a b
theorem qp_{f x:List Int}{i a:Nat}(h:x[i]? =some (a:Int)):(imgL f x)[i]? =some (f.getD a 0):=by
 unfold imgL;rw[List.getElem?_map,h];rfl
theorem sP_{n L:Nat}{x S f:List Int}(q:∀y∈x,0<=y∧y<(n:Int))(u:inS n L f S):∀(d k:Nat),k+d=x.length->chR L x S d (imgL f (x.take k)) (imgL f x)
 |0,k,C=>by
  have:x.take k=x:=List.take_of_length_le (by omega);show imgL f x=imgL f (x.take k);rw[this]
 | d+1,k,C=>by
  obtain⟨a,A,s,o⟩:=jS_ q (i:=k) (by omega);obtain⟨b,B,h,p⟩:=u.2 a A;have g:(imgL f (x.take k)).length=k:=by rw[gd_,List.length_take];omega
  refine⟨b,B,⟨by rw[g,o,Int.toNat_natCast];exact p,?_⟩,?_⟩
  ·rw[g];by_cases v:k=0
   ·exact .inl v
   ·obtain⟨t,w,j,m⟩:=jS_ q (i:=k-1) (by omega);by_cases e:t=a
    ·refine .inr (.inr ?_);subst e;rw[getD_some (qp_ (x:=x.take k) (i:=k-1) (a:=t) (by rw[List.getElem?_take,if_pos (by omega)];exact j))];exact h
    ·exact .inr (.inl (by rw[m,o];omega))
  ·have:=sP_ q u d (k+1) (by omega);have e:imgL f (x.take (k+1))=imgL f (x.take k)++[(b:Int)]:=by
    rw[ev_ s];unfold imgL;rw[List.map_append];simp only[List.map_cons,List.map_nil,Int.toNat_natCast,h]
   rwa [e] at this
def supp(L:Nat)(x S:List Int)(G:List Int->Prop)(a b:Nat):Prop:=∃y,chR L x S x.length [] y∧G y∧marked x y a b
theorem uX_{n L:Nat}{x S f:List Int}{G:List Int->Prop}(e:∀y∈x,0<=y∧y<(n:Int))(g:inS n L f S)(d:G (imgL f x)){a b:Nat}(j:(a:Int)∈x)(h:f.getD a 0=(b:Int)):supp L x S G a b:=by
 refine⟨imgL f x,?_,d,?_⟩
 ·have:=sP_ e g x.length 0 (by omega);simpa [imgL] using this
 ·obtain⟨i,hi⟩:=List.mem_iff_getElem?.1 j;exact⟨i,(List.getElem?_eq_some_iff.1 hi).1,getD_some hi,by rw[getD_some (qp_ hi)];exact h⟩
def wt(S:List Int):Nat:=(S.map Int.toNat).sum
theorem vv_(v:Nat):∀(S:List Int)(a:Nat),a<S.length->wt (S.set a (v:Int))+(S.getD a 0).toNat=wt S+v
 |[],a,h=>by simp at h
 |s::S,0,h=>by
  simp only[List.set_cons_zero,List.getD_cons_zero,wt,List.map_cons,List.sum_cons,Int.toNat_natCast];omega
 |s::S,a+1,h=>by
  have:=vv_ v S a (by simpa using h);simp only[List.set_cons_succ,List.getD_cons_succ,wt,List.map_cons,List.sum_cons] at this ⊢;omega
theorem wC_{n:Nat}:∀{S:List Int},(∀v∈S,0<=v∧v<256)->wt S<=S.length*255
 |[],_=>by simp[wt]
 |s::S,h=>by
  have d:=h s (by simp);have a:=wC_ (n:=n) (S:=S) λv b=>h v (by simp[b]);simp only[wt,List.map_cons,List.sum_cons,List.length_cons,Nat.add_mul] at a ⊢;omega
theorem wu_(M x S:List Int)(F:Bool)(n:Nat)(R:∀y∈x,0<=y∧y<(n:Int))(Q:msk n M)(U:msk n S):
  ∃p f,forI (aM_ M) x 0 (S,F)=some (.inl (p,f))∧msk n p∧(∀a b,bo p a b<->bo S a b∧((a:Int)∈x->bo M a b))∧((p=S∧f=F)∨(f=true∧wt p<wt S)):=by
 obtain⟨⟨p,f⟩,B,t,G,T⟩:=kR_ (ρ:=List Int×Bool) (body:=aM_ M) (λj K=>msk n K.1∧(∀a b,bo K.1 a b<->bo S a b∧((∃i,i<j∧x[i]? =some (a:Int))->bo M a b))∧((K.1=S∧K.2=F)∨(K.2=true∧wt K.1<wt S))) x (S,F)
  ⟨U,λa b=>⟨λh=>⟨h,λ⟨i,hi,_⟩=>by omega⟩,λh=>h.1⟩,.inl ⟨rfl,rfl⟩⟩ (λj v K I s=>by
  obtain⟨K,W⟩:=K;obtain⟨s,N,o⟩:=s;simp only at s N o;have X:=R v (List.mem_of_getElem? I);obtain⟨g,rfl⟩:∃g:Nat,v=(g:Int):=⟨v.toNat,(Int.toNat_of_nonneg X.1).symm⟩;obtain⟨k,Y,J,q⟩:=s.at (a:=g) (by omega);obtain⟨m,L,H,E⟩:=Q.at (a:=g) (by omega);have V:=s.1;have D:k&&&m<=k:=Nat.and_le_left;have C:∀a b,(bo K a b∧(a=g->bo M a b))<->bo S a b∧((∃i,i<j+1∧x[i]? =some (a:Int))->bo M a b):=λa b=>by
   rw[N];constructor
   ·rintro⟨⟨B,t⟩,G⟩;refine⟨B,λ⟨i,hi,d⟩=>?_⟩;by_cases e:i=j
    ·subst e;rw[I] at d;have:=Option.some.inj d;exact G (by omega)
    ·exact t ⟨i,by omega,d⟩
   ·rintro⟨B,t⟩;exact⟨⟨B,λ⟨i,hi,d⟩=>t ⟨i,by omega,d⟩⟩,λe=>by subst e;exact t ⟨j,by omega,I⟩⟩
  unfold aM_;simp only
  rw[aY_,aY_,J,sb,H,sb,sb,jp_ (by omega) (by omega)];by_cases e:k&&&m=k
  ·refine⟨(K,W),by rw[if_neg (by simp[e])],s,λa b=>?_,o⟩;rw[<-C];refine⟨λh=>⟨h,λA=>?_⟩,λh=>h.1⟩;subst A;have u:bo K a b:=h;unfold bo at u ⊢;rw[q,Int.toNat_natCast] at u;rw[E,Int.toNat_natCast];rw[<-e,Nat.testBit_and,Bool.and_eq_true] at u;exact u.2
  ·have O:k&&&m<k:=Nat.lt_of_le_of_ne D e;have w:=vv_ (k&&&m) K g (by omega);rw[q,Int.toNat_natCast] at w;refine⟨(K.set g ((k&&&m:Nat):Int),true),?_,s.set _ (by omega),λa b=>?_,.inr ⟨rfl,?_⟩⟩
   ·rw[if_pos (by simp;omega),sb,sb,sb,jp_ (by omega) (by omega),iM_ _ _ _ (by omega),sb]
   ·show bo (K.set g ((k&&&m:Nat):Int)) a b<->_;rw[<-C,tW_ (by omega)];by_cases A:a=g
    ·subst A;rw[if_pos rfl,Nat.testBit_and,Bool.and_eq_true];unfold bo;rw[q,E,Int.toNat_natCast,Int.toNat_natCast];exact⟨λh=>⟨h.1,λ_=>h.2⟩,λh=>⟨h.1,h.2 rfl⟩⟩
    ·rw[if_neg A];exact⟨λh=>⟨h,λu=>absurd u A⟩,λh=>h.1⟩
   ·show wt (K.set g ((k&&&m:Nat):Int))<wt S;rcases o with⟨o,_⟩|⟨_,o⟩
    ·rw[o] at w;rw[o];omega
    ·omega)
 refine⟨p,f,B,t,λa b=>?_,T⟩;rw[G];refine and_congr_right λ_=>⟨λh L=>?_,λh ⟨i,hi,d⟩=>h (List.mem_of_getElem? d)⟩;obtain⟨i,hi⟩:=List.mem_iff_getElem?.1 L;exact h ⟨i,(List.getElem?_eq_some_iff.1 hi).1,hi⟩
structure Fnd (X:H_) (n L D:Nat):Prop where
  hn:X.p.Labels=(n:Int)
  hL:X.q.Labels=(L:Int)
  n8:n<=8
  L1:1<=L
  L8:L<=8
  D4:D<=4
  cN:∀x∈X.p.Nodes,x.length=D∧∀y∈x,0<=y∧y<(n:Int)
  cE:∀x∈X.p.Edges,x.length=2∧∀y∈x,0<=y∧y<(n:Int)
  sN:X.p.Nodes.length<=100000000
  sE:X.p.Edges.length<=100000000
  tN:X.nodes=retV X.q.Nodes L D
  tE:X.edges=retV X.q.Edges L 2
def vmap(p q:b_)(f:List Int):Prop:=(∀x∈p.Nodes,srt (imgL f x)∈q.Nodes)∧∀x∈p.Edges,srt (imgL f x)∈q.Edges
def stab(X:H_)(L:Nat)(S:List Int):Prop:=(∀x∈X.p.Edges,∀a b:Nat,(a:Int)∈x->bo S a b->supp L x S (λy=>srt y∈X.q.Edges) a b)∧∀x∈X.p.Nodes,∀a b:Nat,(a:Int)∈x->bo S a b->supp L x S (λy=>srt y∈X.q.Nodes) a b
def goodK(X:H_)(k:Nat)(y:List Int):Prop:=if k<X.p.Edges.length then srt y∈X.q.Edges else srt y∈X.q.Nodes
theorem qJ_(n:Nat):msk n (List.replicate n 0):=⟨List.length_replicate,λv a=>by rw[(List.mem_replicate.1 a).2];decide⟩
theorem us_(n a b:Nat):¬bo (List.replicate n 0) a b:=by
 unfold bo;rw[List.getD_eq_getElem?_getD,List.getElem?_replicate];split<;>simp
theorem wB_(X:H_){n L D:Nat}(h:Fnd X n L D)(e:Nat)(K:100<=e)(k:Nat)(x:List Int)(s:(X.p.Edges++X.p.Nodes)[k]? =some x)(S:List Int)(o:Bool)(t:msk n S):
  ∃f d,aC_ e X (k:Int) x (S,o)=some (.go (f,d))∧msk n f∧(∀a b,bo f a b<->bo S a b∧((a:Int)∈x->supp L x S (goodK X k) a b))∧((f=S∧d=o)∨(d=true∧wt f<wt S)):=by
 have j:mk (Rz.z:Int) X.p.Labels=some (List.replicate n 0):=by
  have:=h.n8;unfold mk;rw[h.hn,if_pos (by omega),Int.toNat_natCast];rfl
 by_cases m:k<X.p.Edges.length
 ·rw[List.getElem?_append_left m] at s;obtain⟨H,i⟩:=h.cE x (List.mem_of_getElem? s);obtain⟨M,C,v,w⟩:=lz_ X X.edges (λy=>srt y∈X.q.Edges) n L h.hL h.L8 x S i t (by omega) (λc I g=>by rw[h.tE];exact vF_ _ _ _ c g (by omega)) x.length e [] (List.replicate n 0) (by simp) (by omega) (by simp) (qJ_ n);obtain⟨f,d,E,B,u,G⟩:=wu_ M x S o n i v t;refine⟨f,d,?_,B,λa b=>?_,G⟩
  ·unfold aC_;rw[if_pos (by simpa using m),j,sb,C,sb,E,sb]
  ·rw[u];refine and_congr_right λ_=>imp_congr_right λ_=>?_;rw[w];have:goodK X k=λy=>srt y∈X.q.Edges:=by funext y;unfold goodK;rw[if_pos m]
   rw[this];exact⟨λF=>F.elim (λA=>absurd A (us_ n a b)) id,.inr⟩
 ·rw[List.getElem?_append_right (by omega)] at s;obtain⟨H,i⟩:=h.cN x (List.mem_of_getElem? s);have J:=h.D4;obtain⟨M,C,v,w⟩:=lz_ X X.nodes (λy=>srt y∈X.q.Nodes) n L h.hL h.L8 x S i t (by omega) (λc I g=>by rw[h.tN];exact vF_ _ _ _ c g (by omega)) x.length e [] (List.replicate n 0) (by simp) (by omega) (by simp) (qJ_ n);obtain⟨f,d,E,B,u,G⟩:=wu_ M x S o n i v t;refine⟨f,d,?_,B,λa b=>?_,G⟩
  ·unfold aC_;rw[if_neg (by simpa using m),j,sb,C,sb,show cC_ M=aM_ M from rfl,E,sb]
  ·rw[u];refine and_congr_right λ_=>imp_congr_right λ_=>?_;rw[w];have:goodK X k=λy=>srt y∈X.q.Nodes:=by funext y;unfold goodK;rw[if_neg m]
   rw[this];exact⟨λF=>F.elim (λA=>absurd A (us_ n a b)) id,.inr⟩
theorem vD_{n L:Nat}{f S d:List Int}(h:inS n L f S)(i:∀a b:Nat,a<n->f.getD a 0=(b:Int)->bo S a b->bo d a b):inS n L f d:=
 ⟨h.1,λa g=>by obtain⟨b,j,e,k⟩:=h.2 a g;exact⟨b,j,e,i a b g e k⟩⟩
theorem to_{X:H_}{f:List Int}(d:vmap X.p X.q f){k:Nat}{x:List Int}(a:(X.p.Edges++X.p.Nodes)[k]? =some x):goodK X k (imgL f x):=by
 unfold goodK;split
 ·rename_i b;rw[List.getElem?_append_left b] at a;exact d.2 x (List.mem_of_getElem? a)
 ·rename_i b;rw[List.getElem?_append_right (by omega)] at a;exact d.1 x (List.mem_of_getElem? a)
theorem wn_{X:H_}{n L D:Nat}(h:Fnd X n L D){k:Nat}{x:List Int}(b:(X.p.Edges++X.p.Nodes)[k]? =some x):∀y∈x,0<=y∧y<(n:Int):=by
 rcases List.mem_append.1 (List.mem_of_getElem? b) with a|a
 ·exact(h.cE x a).2
 ·exact(h.cN x a).2
structure Rnd (X:H_) (n L:Nat) (S S1:List Int):Prop where
  m:msk n S1
  sub:∀a b,bo S1 a b->bo S a b
  keep:∀f,vmap X.p X.q f->inS n L f S->inS n L f S1
theorem tz_(X:H_){n L D:Nat}(h:Fnd X n L D)(g:Nat)(V:100<=g)(S:List Int)(U:msk n S):
  ∃m d,forI (aC_ g X) (X.p.Edges++X.p.Nodes) 0 (S,false)=some (.inl (m,d))∧Rnd X n L S m∧((m=S∧d=false∧stab X L S)∨(d=true∧wt m<wt S)):=by
 obtain⟨⟨m,d⟩,R,O,N⟩:=kR_ (ρ:=List Int×Bool) (body:=aC_ g X) (λj K=>Rnd X n L S K.1∧((K.1=S∧K.2=false∧∀i x,i<j->(X.p.Edges++X.p.Nodes)[i]? =some x->∀a b:Nat,(a:Int)∈x->bo S a b->supp L x S (goodK X i) a b)∨(K.2=true∧wt K.1<wt S))) (X.p.Edges++X.p.Nodes) (S,false)
  ⟨⟨U,λa b h=>h,λf _ h=>h⟩,.inl ⟨rfl,rfl,λi x hi=>by omega⟩⟩ (λj x K B Q=>by
  obtain⟨K,Y⟩:=K;obtain⟨⟨A,I,J⟩,o⟩:=Q;simp only at A I J o;obtain⟨m,d,W,Z,C,T⟩:=wB_ X h g V j x B K Y A;refine⟨(m,d),W,⟨Z,λa b k=>I a b ((C a b).1 k).1,λf M hi=>?_⟩,?_⟩
  ·have hi':=J f M hi;exact vD_ hi' λa b v E k=>(C a b).2 ⟨k,λA=>uX_ (wn_ h B) hi' (to_ M B) A E⟩
  ·simp only
   rcases T with⟨t,u⟩|⟨t,u⟩
   ·subst t;subst u;rcases o with⟨t,u,w⟩|o
    ·subst t;refine .inl ⟨rfl,u,λi y hi H a b v k=>?_⟩;by_cases e:i=j
     ·subst e;rw[B] at H;cases H
      exact((C a b).1 k).2 v
     ·exact w i y (by omega) H a b v k
    ·exact .inr o
   ·refine .inr ⟨t,?_⟩;rcases o with⟨o,_⟩|⟨_,o⟩
    ·rwa [o] at u
    ·omega)
 refine⟨m,d,R,O,N.imp (λ⟨t,u,w⟩=>⟨t,u,⟨λx G a b v k=>?_,λx G a b v k=>?_⟩⟩) id⟩
 ·obtain⟨i,hi⟩:=List.mem_iff_getElem?.1 G;have s:=(List.getElem?_eq_some_iff.1 hi).1;have:=w i x (by simp;omega) (by rw[List.getElem?_append_left s];exact hi) a b v k;have F:goodK X i=λy=>srt y∈X.q.Edges:=by funext y;unfold goodK;rw[if_pos s]
  rwa [F] at this
 ·obtain⟨i,hi⟩:=List.mem_iff_getElem?.1 G;have s:=(List.getElem?_eq_some_iff.1 hi).1;have:=w (X.p.Edges.length+i) x (by simp;omega) (by rw[List.getElem?_append_right (by omega),Nat.add_sub_cancel_left];exact hi) a b v k;have F:goodK X (X.p.Edges.length+i)=λy=>srt y∈X.q.Nodes:=by funext y;unfold goodK;rw[if_neg (by omega)]
  rwa [F] at this
theorem vg_(X:H_){n L D:Nat}(h:Fnd X n L D)(g:Nat)(o:100<=g):∀(w:Nat)(S:List Int)(d:Nat),msk n S->wt S<=w->w+2<d->
  ∃e,loopF (ad_ g X) d (S,true)=some (.inl (e,false))∧Rnd X n L S e∧stab X L e:=by
 intro w
 induction w with
 | zero=>
  intro S d y I K;obtain⟨m,rfl⟩:∃m,d=m+2:=⟨d-2,by omega⟩;obtain⟨e,q,x,j,v⟩:=tz_ X h g o S y;rcases v with⟨i,k,t⟩|⟨i,k⟩
  ·subst i;subst k;have H:=h.sN;have N:=h.sE;refine⟨e,?_,j,t⟩;have A:cat ([]:List (List Int)) X.p.Edges=some X.p.Edges:=iJ_ _ (by omega);have C:cat X.p.Edges X.p.Nodes=some (X.p.Edges++X.p.Nodes):=by unfold cat;rw[if_pos (by omega)]
   have s:ad_ g X (e,true)=some (.go (e,false)):=by
    unfold ad_;simp only[if_true];rw[A,sb,C,sb,x,sb]
   have B:ad_ g X (e,false)=some (.out (e,false)):=by
    unfold ad_;simp
   simp only[loopF,s,B]
  ·omega
 | succ w ih=>
  intro S d y I K;obtain⟨m,rfl⟩:∃m,d=m+2:=⟨d-2,by omega⟩;obtain⟨e,q,x,j,v⟩:=tz_ X h g o S y;have H:=h.sN;have N:=h.sE;have A:cat ([]:List (List Int)) X.p.Edges=some X.p.Edges:=iJ_ _ (by omega);have C:cat X.p.Edges X.p.Nodes=some (X.p.Edges++X.p.Nodes):=by unfold cat;rw[if_pos (by omega)]
  have s:ad_ g X (S,true)=some (.go (e,q)):=by
   unfold ad_;simp only[if_true];rw[A,sb,C,sb,x,sb]
  have B:ad_ g X (e,false)=some (.out (e,false)):=by
   unfold ad_;simp
  rcases v with⟨i,k,t⟩|⟨i,k⟩
  ·subst i;subst k;exact⟨e,by simp only[loopF,s,B],j,t⟩
  ·subst i;obtain⟨J,E,u,G⟩:=ih e (m+1) j.m (by omega) (by omega);exact⟨J,by simp only[loopF,s] at E ⊢;exact E,⟨u.m,λa b M=>j.sub a b (u.sub a b M),λf F hi=>u.keep f F (j.keep f F hi)⟩,G⟩
theorem qP_(X:H_){n L D:Nat}(h:Fnd X n L D)(a:Nat)(k:3000<=a)(S:List Int)(d:msk n S):
  ∃b,bO_ a X S=some (b, !decide ((0:Int)∈b))∧Rnd X n L S b∧stab X L b:=by
 have j:=d.1;have m:=h.n8;have o:=wC_ (n:=0) d.2;have e:S.length*255<=8*255:=Nat.mul_le_mul_right _ (by omega);obtain⟨b,g,f,i⟩:=vg_ X h a (by omega) (wt S) S a d (Nat.le_refl _) (by omega);refine⟨b,?_,f,i⟩;unfold bO_;rw[gs_ _ (by omega),sb,g,sb];simp only
 rw[vI_,sb]
end
section
def keptP(l m:List (List Int))(f:List Int):Prop:=∀x∈l,x.getD (x.length-1) 0=(f.length:Int)-1->srt (imgL f x)∈m
theorem rE_{x:List Int}(b:x.Pairwise (·<=·)):∀y∈x,y<=x.getD (x.length-1) 0:=λy a=>by
 obtain⟨i,hi,rfl⟩:=List.getElem_of_mem a;rw[List.getD_eq_getElem?_getD,List.getElem?_eq_getElem (by omega)];simp only[Option.getD_some];by_cases e:i=x.length-1
 ·subst e;exact Int.le_refl _
 ·exact(List.pairwise_iff_getElem.1 b) i (x.length-1) hi (by omega) (by omega)
theorem uY_{x:List Int}(h:x≠ []):x.getD (x.length-1) 0∈x:=by
 have a:0<x.length:=List.length_pos_iff.2 h;rw[List.getD_eq_getElem?_getD,List.getElem?_eq_getElem (by omega)];exact List.getElem_mem _
theorem sI_{P Q:List (List Int)}{g:List Int}{n:Nat}(t:g.length=n)(s:∀x∈P,x≠ []∧x.Pairwise (·<=·)∧∀y∈x,0<=y∧y<n)(q:∀k,k<n->keptP P Q (g.take (k+1))):∀x∈P,srt (imgL g x)∈Q:=λx h=>by
 obtain⟨o,m,d⟩:=s x h;have p:=d _ (uY_ o);have f:=rE_ m;generalize j:x.getD (x.length-1) 0=a at p f;have b:(g.take (a.toNat+1)).length=a.toNat+1:=by rw[List.length_take];omega
 have:=q a.toNat (by omega) x h (by rw[j,b];omega);have e:imgL (g.take (a.toNat+1)) x=imgL g x:=by
  unfold imgL;refine List.map_congr_left λy i=>?_;have u:=f y i;have v:=d y i;rw[List.getD_eq_getElem?_getD,List.getElem?_take,if_pos (by omega),List.getD_eq_getElem?_getD]
 rwa [e] at this
end
section
def chP(lists:List (List Int))(g:List Int->Bool)(k:Nat)(lab:List Int):Prop:=∃m,m.length=lists.length∧m.take k=lab.take k∧(∀(i:Nat) L a,k<=i->lists[i]? =some L->m[i]? =some a->a∈L)∧g m=true
theorem vw_(f:List (List Int))(G:List Int->Option Bool)(g:List Int->Bool)(hG:∀m,m.length=f.length->G m=some (g m))(hl:f.length<=1000):∀(d k n:Nat)(j:List Int),k+d=f.length->d<n->j.length=f.length->
  ∃b u,an_ n (k:Int) f G j=some (b,u)∧u.length=f.length∧u.take k=j.take k∧(b=true<->chP f g k j)
 | 0,k,n,j,hd,hf,o=>by
  obtain⟨q,rfl⟩:∃q,n=q+1:=⟨n-1,by omega⟩;refine⟨g j,j,?_,o,rfl,?_⟩
  ·unfold an_;rw[if_pos (by simp;omega),hG j o,sb]
  ·constructor
   ·intro h;exact⟨j,o,rfl,λi L a hi I _=>by have:=(List.getElem?_eq_some_iff.1 I).1;omega,h⟩
   ·rintro⟨m,A,t,v,y⟩;rw[List.take_of_length_le (by omega),List.take_of_length_le (by omega)] at t;rw[<-t];exact y
 | d+1,k,n,j,hd,hf,o=>by
  obtain⟨q,rfl⟩:∃q,n=q+1:=⟨n-1,by omega⟩;have hk:k<f.length:=by omega
  obtain⟨L,I⟩:∃L,f[k]? =some L:=⟨_,List.getElem?_eq_getElem hk⟩;have one:∀(a:Int)(s:List Int),s.length=f.length->s.take k=j.take k->∃b p,aU_ (k:Int) f G (an_ q) 0 a s=some (if b then .ret (true,p) else .go p)∧p.length=f.length∧p.take k=j.take k∧(b=true<->chP f g (k+1) (s.set k a)):=λa s N C=>by
   obtain⟨b,p,Y,Q,O,W⟩:=vw_ f G g hG hl d (k+1) q (s.set k a) (by omega) (by omega) (by simpa using N);refine⟨b,p,?_,Q,?_,W⟩
   ·unfold aU_;rw[aY_,List.getElem?_eq_getElem (show k<s.length by omega),sb,iM_ _ _ _ (show k<s.length by omega),sb,F_ (by omega) (by omega),sb,show((k:Int)+1)=((k+1:Nat):Int) by omega,Y,sb];cases b<;>rfl
   ·have:=congrArg (List.take k) O;rw[List.take_take,List.take_take,Nat.min_eq_left (by omega),List.take_set_of_le (Nat.le_refl _)] at this;rw[this,C]
  have w:∀(a:Int)(s:List Int),s.length=f.length->s.take k=j.take k->(chP f g (k+1) (s.set k a)<->∃m,m.length=f.length∧m.take k=j.take k∧m[k]? =some a∧(∀(i:Nat) L a,k+1<=i->f[i]? =some L->m[i]? =some a->a∈L)∧g m=true):=λa s N C=>by
   have ht:(s.set k a).take (k+1)=j.take k++[a]:=by
    rw[List.take_add_one,List.take_set_of_le (Nat.le_refl _),C,List.getElem?_set_self (by omega)];rfl
   constructor
   ·rintro⟨m,A,t,v,y⟩;rw[ht,List.take_add_one] at t;have J:m[k]? =some m[k]:=List.getElem?_eq_getElem (by omega);rw[J] at t;obtain⟨u1,u2⟩:=List.append_inj t (by rw[List.length_take,List.length_take];omega);exact⟨m,A,u1,by rw[J];simpa using u2,v,y⟩
   ·rintro⟨m,A,t,v,y,m5⟩;exact⟨m,A,by rw[ht,List.take_add_one,t,v];rfl,y,m5⟩
  have K:∀(xs pre:List Int)(i:Int)(s:List Int),pre++xs=L->s.length=f.length->s.take k=j.take k->(¬∃a∈pre,chP f g (k+1) (j.set k a))->
    ∃z,forI (aU_ (k:Int) f G (an_ q)) xs i s=some z∧((∃p,z=.inl p∧p.length=f.length∧p.take k=j.take k∧¬∃a∈L,chP f g (k+1) (j.set k a))∨(∃p,z=.inr (true,p)∧p.length=f.length∧p.take k=j.take k∧∃a∈L,chP f g (k+1) (j.set k a))):=by
   intro xs
   induction xs with
   |nil=>
    intro pre i s M S R X;rw[List.append_nil] at M;subst M;exact⟨_,rfl,.inl ⟨s,rfl,S,R,X⟩⟩
   | cons x xs ih=>
    intro pre i s M S R X;obtain⟨b,p,Y,Q,O,W⟩:=one x s S R;have Z:aU_ (k:Int) f G (an_ q) i x s=some (if b then .ret (true,p) else .go p):=Y;have hxL:x∈L:=by rw[<-M];simp
    have e5:b=true<->chP f g (k+1) (j.set k x):=by rw[W,w x s S R,w x j o rfl]
    simp only[forI,Z];cases b with
    |true=>exact⟨_,rfl,.inr ⟨p,rfl,Q,O,x,hxL,e5.1 rfl⟩⟩
    |false=>
     refine ih (pre++[x]) (i+1) p (by rw[<-M];simp) Q O ?_;rintro⟨a,D,B⟩;rcases List.mem_append.1 D with D|D
     ·exact X ⟨a,D,B⟩
     ·rw[List.mem_singleton.1 D] at B;exact absurd (e5.2 B) (by simp)
  obtain⟨z,z1,z2⟩:=K L [] 0 j (by simp) o rfl (by simp);have H:chP f g k j<->∃a∈L,chP f g (k+1) (j.set k a):=by
   constructor
   ·rintro⟨m,A,t,v,y⟩;have J:m[k]? =some m[k]:=List.getElem?_eq_getElem (by omega);exact⟨m[k],v k L _ (Nat.le_refl _) I J,(w _ j o rfl).2 ⟨m,A,t,J,λi L a hi=>v i L a (by omega),y⟩⟩
   ·rintro⟨a,D,hc⟩;obtain⟨m,A,t,v,y,m5⟩:=(w a j o rfl).1 hc;refine⟨m,A,t,λi L' b hi E hb=>?_,m5⟩;by_cases e:i=k
    ·subst e;rw[I] at E;cases E;rw[v] at hb;cases hb;exact D
    ·exact y i L' b (by omega) E hb
  have F:an_ (q+1) (k:Int) f G j=((forI (aU_ (k:Int) f G (an_ q)) L 0 j)>>=λV=>match V with| .inl U=>some (false,U)| .inr r'=>some r'):=by
   conv=>lhs;unfold an_
   rw[if_neg (by simp;omega),aY_,I,sb];all_goals rfl
  rw[F,z1,sb,H];rcases z2 with⟨p,rfl,T,a2,a3⟩|⟨p,rfl,T,a2,a3⟩
  ·exact⟨false,p,rfl,T,a2,by simpa using a3⟩
  ·exact⟨true,p,rfl,T,a2,by simpa using a3⟩
theorem jv_(e:Nat)(d:List (List Int))(G:List Int->Option Bool)(g:List Int->Bool)(p:∀m,m.length=d.length->G m=some (g m))(q:d.length<=1000)(u:d.length<e):
  ∃l b,dl_ e d G=some (l,b)∧(b=true<->∃m,m.length=d.length∧(∀(i:Nat) L a,d[i]? =some L->m[i]? =some a->a∈L)∧g m=true):=by
 obtain⟨b,f,o,x,v,k⟩:=vw_ d G g p q d.length 0 e (List.replicate d.length 0) (by omega) u (by simp);rw[show((0:Nat):Int)=0 from rfl] at o;have t:mk (Rz.z:Int) (d.length:Int)=some (List.replicate d.length 0):=by
  unfold mk;rw[if_pos (by omega)];rfl
 have s:chP d g 0 (List.replicate d.length 0)<->∃m,m.length=d.length∧(∀(i:Nat) L a,d[i]? =some L->m[i]? =some a->a∈L)∧g m=true:=
  ⟨λ⟨m,n,_,h,j⟩=>⟨m,n,λi L a=>h i L a (Nat.zero_le _),j⟩,λ⟨m,n,h,j⟩=>⟨m,n,by simp,λi L a _=>h i L a,j⟩⟩
 rw[s] at k;unfold dl_;rw[t,sb,o,sb];cases b with
 |true=>exact⟨f,true,by rfl,k⟩
 |false=>exact⟨[],false,by rfl,k⟩
end
end Go.Proofs.YtdbbeldgdgonfaaGreat
