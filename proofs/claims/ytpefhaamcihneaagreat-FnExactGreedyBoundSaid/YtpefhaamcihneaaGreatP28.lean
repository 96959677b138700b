/- Part 28 of what this claim rests on (pack.py). -/
import Derived.Test.YtpefhaamcihneaaGreatP27
namespace Go.Proofs.YtpefhaamcihneaaGreat
set_option linter.unusedSimpArgs false
set_option linter.unusedVariables false
theorem uu{σ ρ:Type}{f:σ×Int->Option (Lp (σ×Int) (σ×Int) ρ)}(P:Nat->σ->Prop)(n:Nat)(h:∀(j:Nat) s,j<n->P j s->∃s',f (s,(j:Int))=some (.go (s',((j+1:Nat):Int)))∧P (j+1) s')
  (b:∀s,f (s,(n:Int))=some (.out (s,(n:Int)))):∀(d j a:Nat) s,j+d=n->d<a->P j s->∃s',loopF f a (s,(j:Int))=some (.inl (s',(n:Int)))∧P n s'
 |0,j,a,s,k,q,e=>by
  obtain⟨m,rfl⟩:∃m,a=m+1:=⟨a-1,om⟩;have:j=n:=om;subst this;exact⟨s,by simp only[loopF,b],e⟩
 |d+1,j,a,s,k,q,e=>by
  obtain⟨m,rfl⟩:∃m,a=m+1:=⟨a-1,om⟩;obtain⟨p,g,o⟩:=h j s om e;obtain⟨s',t,i⟩:=uu P n h b d (j+1) m p om om o;exact⟨s',by simp only[loopF,g];exact t,i⟩
theorem vJ{α σ ρ:Type}{body:Int->α->σ->Option (Lp σ σ ρ)}(P:Nat->σ->Prop)(xs:List α)(h:∀(j:Nat) x s,xs[j]? =some x->P j s->∃s',body (j:Int) x s=some (.go s')∧P (j+1) s'):
  ∀(d j:Nat) s,j+d=xs.length->P j s->∃s',forI body (xs.drop j) (j:Int) s=some (.inl s')∧P xs.length s'
 |0,j,s,i,a=>by
  have:j=xs.length:=om;subst this;exact⟨s,by rw[Gp];rfl,a⟩
 |d+1,j,s,i,a=>by
  obtain⟨g,e,b⟩:=h j xs[j] s (x_ om) a;obtain⟨s',k,f⟩:=vJ P xs h d (j+1) g om b;refine⟨s',?_,f⟩;rw[dt om];simp only[forI,e];exact k
theorem lH{α σ ρ:Type}{body:Int->α->σ->Option (Lp σ σ ρ)}(P:Nat->σ->Prop)(xs:List α)(s:σ)(a:P 0 s)(h:∀(j:Nat) x s,xs[j]? =some x->P j s->∃s',body (j:Int) x s=some (.go s')∧P (j+1) s'):
  ∃s',forI body xs 0 s=some (.inl s')∧P xs.length s':=by
 have:=vJ P xs h xs.length 0 s om a;rwa [aG] at this
def retV(N:List (List Int))(L D:Nat):List Bool:=(List.range (L^D)).map λn=>decide (srt (digs L D n)∈N)
theorem BI(L D n a:Nat)(g:1<=L)(m:L<=8)(d:D<=4)(i:n<=1000000)(o:10<=a):loopF (fE (L:Int) (D:Int)) a ([],(n:Int))=some (.inl (digs L D n,((n/L^D:Nat):Int))):=by
 have h:=di (f:=fE (L:Int) (D:Int)) (λj=>(digs L j n,((n/L^j:Nat):Int))) D (λj k=>by
  have e:n/L^j/L<=n:=aH (jU _ _) (jU _ _);have b:=cO L j n;unfold fE;simp only
  unfold rem quo push;rw[if_pos (by simp;omega),if_neg om,sb,if_pos om,sb,if_neg om,show((n/L^j:Nat):Int).tdiv (L:Int)=((n/L^j/L:Nat):Int) from rfl,fY om,sb,
   show((n/L^j:Nat):Int).tmod (L:Int)=((n/L^j%L:Nat):Int) from rfl,nF,dx,rh]) (by
  unfold fE;simp only
  rw[if_neg (by simp[cO])]) a 0 om om
 simpa [digs] using h
theorem uT(a:Nat)(u:100<=a)(N:List (List Int))(L D:Nat)(e:1<=L)(t:L<=8)(s:D<=4):jc a N (L:Int) (D:Int)=some (retV N L D):=by
 have m:=cM (L:=L) (k:=D) om om;have g:=di (f:=iF (L:Int) (D:Int)) (λj=>(((L^j:Nat):Int),(j:Int))) D (λj h=>by
  have v:=cM (L:=L) (k:=j+1) om om;unfold iF;simp only
  rw[if_pos (su h),show((L^j:Nat):Int)*(L:Int)=((L^(j+1):Nat):Int) by rw[dx];exact(dX _ _).symm,n_ om om,sb,n_ om om,sb];rfl) (by
  unfold iF;simp only
  rw[if_neg sy]) a 0 om om
 have b:=dj (body:=kR a N (L:Int) (D:Int)) (λK=>(List.range (L^D)).map λk=>if k<K then decide (srt (digs L D k)∈N) else false) (L^D) (λK d=>by
  have p:=cO L D K;unfold kR;rw[BI L D K a e t s om om,sb];simp only
  rw[jd _ a om om,sb,<-iM,fU _ _ (by rw[eV];omega),sb,bM _ _ (by simp;exact d),sb,cC _ _ _ (by simp;exact d),sb,sI false _ _ _ (λk=>decide (srt (digs L D k)∈N)) rfl d])
 unfold jc mk;rw[show((1:Int),(0:Int))=(((L^0:Nat):Int),((0:Nat):Int)) by simp,g,sb];simp only
 rw[if_pos om,sb,cd,U_,n_ om om,sb,U_];have q:List.replicate (L^D) (Rz.z:Bool)=(List.range (L^D)).map λk=>if k<0 then decide (srt (digs L D k)∈N) else false:=by
  refine dr sy λi e g=>?_;simp;rfl
 rw[q,b,sb];unfold retV;have o:((List.range (L^D)).map λk=>if k<L^D then decide (srt (digs L D k)∈N) else false)=(List.range (L^D)).map λk=>decide (srt (digs L D k)∈N):=by
  refine jX λk n=>?_;rw[if_pos (aS.1 n)]
 rw[o]
theorem xh(N:List (List Int))(L D:Nat)(c:List Int)(h:∀a∈c,0<=a∧a<(L:Int))(e:c.length=D):∃g,ix (retV N L D) ((valN L c.reverse:Nat):Int)=some g∧(g=true<->srt c∈N):=by
 have b:∀a∈c.reverse,0<=a∧a<(L:Int):=λa i=>h a (rj.1 i);have f:=dP c.reverse b;rw[fj,e] at f;have d:=oe c.reverse b;rw[fj,e] at d;refine⟨decide (srt c∈N),?_,sy⟩;unfold retV;rw[aq,aZ,gl f,cn,d,fN (Gm c)]
def msk(n:Nat)(M:List Int):Prop:=M.length=n∧∀v∈M,0<=v∧v<256
def bo(M:List Int)(a b:Nat):Prop:=(M.getD a 0).toNat.testBit b=true
theorem msk.at{n:Nat}{M:List Int}(h:msk n M){a:Nat}(f:a<n):∃m:Nat,m<256∧M[a]? =some (m:Int)∧M.getD a 0=(m:Int):=by
 have d:=h.1;have b:=h.2 M[a] (aV _);have e:((M[a].toNat:Nat):Int)=M[a]:=co b.1;refine⟨M[a].toNat,om,?_,?_⟩
 ·rw[e];exact x_ om
 ·rw[e,ax,x_ om];rfl
theorem msk.set{n:Nat}{M:List Int}(h:msk n M)(a:Nat){m:Nat}(d:m<256):msk n (M.set a (m:Int)):=
 ⟨by rw[cG];exact h.1,λv b=>by
  rcases yr b with b|rfl
  ·exact h.2 v b
  ·omega⟩
theorem qy{M:List Int}{a:Nat}(d:a<M.length)(v c b:Nat):bo (M.set a (v:Int)) c b<->if c=a then v.testBit b=true else bo M c b:=by
 unfold bo;rw[ax,db];by_cases e:c=a
 ·subst e;rw[if_pos rfl,if_pos d,if_pos rfl];simp
 ·rw[if_neg (λh=>e h.symm),if_neg e,<-ax]
theorem getD_some{α:Type}{xs:List α}{i:Nat}{x z:α}(h:xs[i]? =some x):xs.getD i z=x:=by rw[ax,h];rfl
theorem fd{n:Nat}{x:List Int}(d:∀y∈x,0<=y∧y<(n:Int)){i:Nat}(hi:i<x.length):∃a:Nat,a<n∧x[i]? =some (a:Int)∧x.getD i 0=(a:Int):=by
 have f:=d x[i] (aV _);have e:((x[i].toNat:Nat):Int)=x[i]:=co f.1;have b:x[i]? =some ((x[i].toNat:Nat):Int):=by rw[e];exact x_ hi
 exact⟨x[i].toNat,om,b,getD_some b⟩
def cnd(x S c:List Int)(b:Nat):Prop:=bo S (x.getD c.length 0).toNat b∧(c.length=0∨x.getD (c.length-1) 0≠x.getD c.length 0∨c.getD (c.length-1) 0=(b:Int))
def chR(L:Nat)(x S:List Int):Nat->List Int->List Int->Prop
  |0,c,y=>y=c
  |d+1,c,y=>∃b:Nat,b<L∧cnd x S c b∧chR L x S d (c++[(b:Int)]) y
def marked(x y:List Int)(a b:Nat):Prop:=∃i,i<x.length∧x.getD i 0=(a:Int)∧y.getD i 0=(b:Int)
theorem Di(X:al)(L:Nat)(g:X.q.Labels=(L:Int))(e:L<=8)(c:List Int)(d:∀a∈c,0<=a∧a<(L:Int))(n:c.length<=4):forI (gz X) c 0 0=some (.inl ((valN L c.reverse:Nat):Int)):=by
 have:=lD (ρ:=List Int) (body:=gz X) (λj=>((valN L (c.take j).reverse:Nat):Int)) c (λj v b=>by
  have hi:=(Y_.1 b).1;have o:=d v (aE b);have f:=dP (L:=L) (c.take j).reverse (λa h=>d a (jP (rj.1 h)));have i:=cM (L:=L) (k:=(c.take j).reverse.length) e (by rw[fj,aX];omega);have m:valN L (c.take j).reverse*L<=4096*8:=mw om e;unfold gz;rw[g,<-dX,n_ om om,sb,n_ om om,sb,dM b,Gn];congr 2;show _=(((v.toNat+L*valN L (c.take j).reverse:Nat)):Int);rw[oY L];omega)
 rw[cc] at this;exact this
theorem Cx(x c M:List Int)(n:Nat)(R:∀y∈x,0<=y∧y<(n:Int))(I:c.length=x.length)(L:Nat)(S:L<=8)(G:∀a∈c,0<=a∧a<(L:Int))(N:msk n M):
  ∃o,forI (gy x) c 0 M=some (.inl o)∧msk n o∧∀a b,bo o a b<->bo M a b∨marked x c a b:=by
 obtain⟨o,f,d,Q⟩:=lH (ρ:=List Int) (body:=gy x) (λj K=>msk n K∧∀a b,bo K a b<->bo M a b∨∃i,i<j∧x.getD i 0=(a:Int)∧c.getD i 0=(b:Int)) c M ⟨N,λa b=>⟨.inl,λh=>h.elim id λ⟨i,hi,_⟩=>om⟩⟩ (λj v K A p=>by
  obtain⟨p,E⟩:=p;have hi:=(Y_.1 A).1;obtain⟨F,D,B,t⟩:=fd R (i:=j) om;obtain⟨m,O,w,u⟩:=p.at D;have H:=G v (aE A);obtain⟨k,rfl⟩:∃k:Nat,v=(k:Int):=⟨v.toNat,(co H.1).symm⟩;have d:2^k<256:=by
   have:=bF (n:=2) dc (show k<=7 by omega);omega
  have C:m|||2^k<256:=yh (n:=8) O d;have J:=p.1;refine⟨K.set F ((m|||2^k:Nat):Int),?_,p.set _ C,λa b=>?_⟩
  ·unfold gy;rw[aq,B,sb,aq,w,sb,cP om,sb,sb,qq om om,cC _ _ _ om,sb]
  ·rw[qy om];have s:=getD_some (z:=0) A;by_cases e:a=F
   ·subst e;rw[if_pos rfl,Nat.testBit_or,bT,yi];have g:=E a b;unfold bo at g;rw[u,U_] at g;rw[g];unfold bo;constructor
    ·rintro((h|⟨i,hi,f,d⟩)|h)
     ·exact .inl h
     ·exact .inr ⟨i,om,f,d⟩
     ·exact .inr ⟨j,om,t,by rw[s,of_decide_eq_true h]⟩
    ·rintro(h|⟨i,hi,f,d⟩)
     ·exact .inl (.inl h)
     ·by_cases q:i=j
      ·subst q;rw[s] at d;exact .inr (decide_eq_true om)
      ·exact .inl (.inr ⟨i,om,f,d⟩)
   ·rw[if_neg e,E];constructor
    ·rintro(h|⟨i,hi,f,d⟩)
     ·exact .inl h
     ·exact .inr ⟨i,om,f,d⟩
    ·rintro(h|⟨i,hi,f,d⟩)
     ·exact .inl h
     ·by_cases q:i=j
      ·subst q;rw[t] at f;omega
      ·exact .inr ⟨i,om,f,d⟩)
 refine⟨o,f,d,λa b=>?_⟩;rw[Q,I];rfl
theorem Do(X:al)(n L:Nat)(x S c:List Int)(G:∀y∈x,0<=y∧y<(n:Int))(K:msk n S)(J:c.length<x.length)(T:x.length<=4)(b:Nat)(O:b<=62):∃t,((ix x (c.length:Int))>>=λB=>
   (ix S B)>>=λu=>
   (fO u (b:Int))>>=λD=>
   if D then
    if(c.length:Int)==0 then
     some true
    else
     (ck ((c.length:Int)-1))>>=λo=>
     (ix x o)>>=λg=>
     (ix x (c.length:Int))>>=λk=>
     if g !=k then
      some true
     else
      (ck ((c.length:Int)-1))>>=λf=>
      (ix c f)>>=λj=>
      some (j==(b:Int))
   else
    some false)=some t∧(t=true<->cnd x S c b):=by
 obtain⟨Q,E,w,e⟩:=fd G J;obtain⟨m,R,C,v⟩:=K.at E;rw[aq,w,sb,aq,C,sb,xd m b O,sb];have a:bo S (x.getD c.length 0).toNat b<->m.testBit b=true:=by unfold bo;rw[e,U_,v,U_]
 cases q:m.testBit b
 ·exact⟨false,by rw[if_neg sy],sy,λh=>by have F:=a.1 h.1;rw[q] at F;cases F⟩
 ·rw[if_pos rfl];by_cases s:c.length=0
  ·exact⟨true,by rw[if_pos (su s)],λ_=>⟨a.2 q,.inl s⟩,λ_=>rfl⟩
  ·have H:(c.length:Int)-1=((c.length-1:Nat):Int):=om;obtain⟨N,I,p,d⟩:=fd G (i:=c.length-1) om;rw[if_neg (su s),n_ om om,sb,H,aq,p,sb,sb];by_cases M:N=Q
   ·subst M;have A:c[c.length-1]? =some (c.getD (c.length-1) 0):=by rw[ax,x_ om];rfl
    rw[if_neg sy,sb,aq,A,sb];refine⟨_,rfl,?_⟩;rw[beq_iff_eq];constructor
    ·exact λh=>⟨a.2 q,.inr (.inr h)⟩
    ·rintro⟨_,h|h|h⟩
     ·exact absurd h s
     ·rw[d,e] at h;exact absurd rfl h
     ·exact h
   ·refine⟨true,by rw[if_pos (by simp;omega)],λ_=>⟨a.2 q,.inr (.inl ?_)⟩,λ_=>rfl⟩;rw[d,e];omega
theorem pF(X:al)(k:List Bool)(G:List Int->Prop)(n L:Nat)(F:X.q.Labels=(L:Int))(I:L<=8)(x S:List Int)(J:∀y∈x,0<=y∧y<(n:Int))(N:msk n S)(Q:x.length<=4)
  (p:∀c:List Int,c.length=x.length->(∀a∈c,0<=a∧a<(L:Int))->∃g,ix k ((valN L c.reverse:Nat):Int)=some g∧(g=true<->G c)):
  ∀(d i:Nat)(c M:List Int),c.length+d=x.length->20+d<i->(∀a∈c,0<=a∧a<(L:Int))->msk n M->
  ∃v,cJ i X k x S c M=some v∧msk n v∧∀a b,bo v a b<->bo M a b∨∃y,chR L x S d c y∧G y∧marked x y a b
 |0,i,c,M,Z,hf,B,E=>by
  obtain⟨m,rfl⟩:∃m,i=m+1:=⟨i-1,om⟩;obtain⟨g,o,s⟩:=p c om B;unfold cJ;rw[if_neg (by simp;omega),Di X L F I c B om,sb];simp only
  rw[o,sb];cases g
  ·exact⟨M,by rw[if_neg sy],E,λa b=>⟨.inl,λh=>h.elim id λ⟨y,e,hG,_⟩=>by
    have e:y=c:=e;subst e;exact absurd (s.2 hG) sy⟩⟩
  ·obtain⟨v,g1,V,g3⟩:=Cx x c M n J om L I B E;refine⟨v,by rw[if_pos rfl,g1,sb],V,λa b=>?_⟩;rw[g3];exact⟨λh=>h.imp id λh=>⟨c,rfl,s.1 rfl,h⟩,λh=>h.imp id λ⟨y,e,_,w⟩=>by
    have e:y=c:=e;rw[e] at w;exact w⟩
 | d+1,i,c,M,Z,hf,B,E=>by
  obtain⟨m,rfl⟩:∃m,i=m+1:=⟨i-1,om⟩;obtain⟨v,o,s,h3⟩:=uu (f:=gA X k x S c (cJ m)) (λj K=>msk n K∧∀a b,bo K a b<->bo M a b∨∃t:Nat,t<j∧cnd x S c t∧∃y,chR L x S d (c++[(t:Int)]) y∧G y∧marked x y a b) L (λj K Y D=>by
   obtain⟨D,R⟩:=D;obtain⟨t,T,O⟩:=Do X n L x S c J N om Q j om;unfold gA;simp only
   rw[F,if_pos (su Y),T,sb];cases t
   ·refine⟨K,by rw[if_neg sy,n_ om om,sb];rfl,D,λa b=>?_⟩;rw[R];refine⟨λh=>h.imp id λ⟨t,u,h⟩=>⟨t,om,h⟩,λh=>h.imp id λ⟨t,u,g,W⟩=>⟨t,?_,g,W⟩⟩;have:t≠j:=λe=>by rw[e] at g;exact absurd (O.2 g) sy
    omega
   ·have H:∀a∈c++[(j:Int)],0<=a∧a<(L:Int):=λa C=>by
     rcases bX.1 C with C|C
     ·exact B a C
     ·rw[be.1 C];omega
    obtain⟨K',k1,k2,U⟩:=pF X k G n L F I x S J N Q p d m (c++[(j:Int)]) K (by simp;omega) om H D;have A:push c (j:Int)=some (c++[(j:Int)]):=by unfold push;rw[if_pos om]
    refine⟨K',by rw[if_pos rfl,dm _ om,sb,A,sb,k1,sb,n_ om om,sb];rfl,k2,λa b=>?_⟩;rw[U,R];constructor
    ·rintro((h|⟨t,u,h,w⟩)|h)
     ·exact .inl h
     ·exact .inr ⟨t,om,h,w⟩
     ·exact .inr ⟨j,om,O.1 rfl,h⟩
    ·rintro(h|⟨t,u,h,w⟩)
     ·exact .inl (.inl h)
     ·by_cases q:t=j
      ·subst q;exact .inr w
      ·exact .inl (.inr ⟨t,om,h,w⟩)) (λK=>by
   unfold gA;simp only
   rw[F,if_neg sy]) L 0 m M om om ⟨E,λa b=>⟨.inl,λh=>h.elim id λ⟨t,u,_⟩=>om⟩⟩
  refine⟨v,?_,s,λa b=>?_⟩
  ·unfold cJ;rw[if_pos (by simp;omega)];rw[show((0:Nat):Int)=0 from rfl] at o;rw[o,sb]
  ·rw[h3];exact⟨λh=>h.imp id λ⟨t,u,h,y,o,s⟩=>⟨y,⟨t,u,h,o⟩,s⟩,λh=>h.imp id λ⟨y,⟨t,u,h,o⟩,s⟩=>⟨t,u,h,y,o,s⟩⟩
theorem uN{L:Nat}{x S:List Int}:∀{d:Nat}{c y:List Int},chR L x S d c y->y.length=c.length+d∧(∃z,y=c++z)∧∀i,c.length<=i->i<c.length+d->∃b:Nat,b<L∧y.getD i 0=(b:Int)∧bo S (x.getD i 0).toNat b
 |0,c,y,h=>by
  have h:y=c:=h;subst h;exact⟨om,⟨[],sy⟩,λi f a=>om⟩
 |d+1,c,y,⟨b,k,j,h⟩=>by
  obtain⟨f,⟨z,a⟩,g⟩:=uN h;rw[ar,bn] at f g;refine⟨om,⟨(b:Int)::z,by rw[a];simp⟩,λi m n=>?_⟩;by_cases e:i=c.length
  ·subst e;refine⟨b,k,?_,j.1⟩;rw[a,bC,ax,cj (K_ _)];simp
  ·exact g i om om
def inS(n L:Nat)(f S:List Int):Prop:=f.length=n∧∀a,a<n->∃b:Nat,b<L∧f.getD a 0=(b:Int)∧bo S a b
theorem qm{f x:List Int}{i a:Nat}(h:x[i]? =some (a:Int)):(imgL f x)[i]? =some (f.getD a 0):=by
 unfold imgL;rw[aZ,h];rfl
theorem wY{n L:Nat}{x S f:List Int}(s:∀y∈x,0<=y∧y<(n:Int))(u:inS n L f S):∀(d k:Nat),k+d=x.length->chR L x S d (imgL f (x.take k)) (imgL f x)
 |0,k,A=>by
  have:x.take k=x:=cu om;show imgL f x=imgL f (x.take k);rw[this]
 | d+1,k,A=>by
  obtain⟨a,w,p,m⟩:=fd s (i:=k) om;obtain⟨b,C,j,q⟩:=u.2 a w;have g:(imgL f (x.take k)).length=k:=by rw[eY,aX];omega
  refine⟨b,C,⟨by rw[g,m,U_];exact q,?_⟩,?_⟩
  ·rw[g];by_cases B:k=0
   ·exact .inl B
   ·obtain⟨t,v,o,h⟩:=fd s (i:=k-1) om;by_cases e:t=a
    ·refine .inr (.inr ?_);subst e;rw[getD_some (qm (x:=x.take k) (i:=k-1) (a:=t) (by rw[bO,if_pos om];exact o))];exact j
    ·exact .inr (.inl (by rw[h,m];omega))
  ·have:=wY s u d (k+1) om;have e:imgL f (x.take (k+1))=imgL f (x.take k)++[(b:Int)]:=by
    rw[dM p];unfold imgL;rw[ew];simp only[bd,eu,U_,j]
   rwa [e] at this
def supp(L:Nat)(x S:List Int)(G:List Int->Prop)(a b:Nat):Prop:=∃y,chR L x S x.length [] y∧G y∧marked x y a b
theorem CQ{n L:Nat}{x S f:List Int}{G:List Int->Prop}(g:∀y∈x,0<=y∧y<(n:Int))(d:inS n L f S)(e:G (imgL f x)){a b:Nat}(j:(a:Int)∈x)(h:f.getD a 0=(b:Int)):supp L x S G a b:=by
 refine⟨imgL f x,?_,e,?_⟩
 ·have:=wY g d x.length 0 om;simpa [imgL] using this
 ·obtain⟨i,hi⟩:=bS.1 j;exact⟨i,(Y_.1 hi).1,getD_some hi,by rw[getD_some (qm hi)];exact h⟩
def wt(S:List Int):Nat:=(S.map Int.toNat).sum
theorem xA(v:Nat):∀(S:List Int)(a:Nat),a<S.length->wt (S.set a (v:Int))+(S.getD a 0).toNat=wt S+v
 |[],a,h=>by simp at h
 |s::S,0,h=>by
  simp only[rb,List.getD_cons_zero,wt,bd,fk,U_];omega
 |s::S,a+1,h=>by
  have:=xA v S a (su h);simp only[FQ,List.getD_cons_succ,wt,bd,fk] at this ⊢;omega
theorem xI{n:Nat}:∀{S:List Int},(∀v∈S,0<=v∧v<256)->wt S<=S.length*255
 |[],_=>by simp[wt]
 |s::S,h=>by
  have d:=h s sy;have a:=xI (n:=n) (S:=S) λv b=>h v (sh b);simp only[wt,bd,fk,ao,oL] at a ⊢;omega
theorem xH(M x S:List Int)(F:Bool)(n:Nat)(X:∀y∈x,0<=y∧y<(n:Int))(U:msk n M)(R:msk n S):
  ∃s f,forI (fs M) x 0 (S,F)=some (.inl (s,f))∧msk n s∧(∀a b,bo s a b<->bo S a b∧((a:Int)∈x->bo M a b))∧((s=S∧f=F)∨(f=true∧wt s<wt S)):=by
 obtain⟨⟨s,f⟩,w,u,I,W⟩:=lH (ρ:=List Int×Bool) (body:=fs M) (λj K=>msk n K.1∧(∀a b,bo K.1 a b<->bo S a b∧((∃i,i<j∧x[i]? =some (a:Int))->bo M a b))∧((K.1=S∧K.2=F)∨(K.2=true∧wt K.1<wt S))) x (S,F)
  ⟨R,λa b=>⟨λh=>⟨h,λ⟨i,hi,_⟩=>om⟩,λh=>h.1⟩,.inl ⟨rfl,rfl⟩⟩ (λj v K G p=>by
  obtain⟨K,V⟩:=K;obtain⟨p,N,q⟩:=p;simp only at p N q;have Q:=X v (aE G);obtain⟨g,rfl⟩:∃g:Nat,v=(g:Int):=⟨v.toNat,(co Q.1).symm⟩;obtain⟨k,Y,H,o⟩:=p.at (a:=g) om;obtain⟨m,L,J,A⟩:=U.at (a:=g) om;have T:=p.1;have B:k&&&m<=k:=yo;have C:∀a b,(bo K a b∧(a=g->bo M a b))<->bo S a b∧((∃i,i<j+1∧x[i]? =some (a:Int))->bo M a b):=λa b=>by
   rw[N];constructor
   ·rintro⟨⟨w,u⟩,I⟩;refine⟨w,λ⟨i,hi,d⟩=>?_⟩;by_cases e:i=j
    ·subst e;rw[G] at d;have:=Option.some.inj d;exact I om
    ·exact u ⟨i,om,d⟩
   ·rintro⟨w,u⟩;exact⟨⟨w,λ⟨i,hi,d⟩=>u ⟨i,om,d⟩⟩,λe=>by subst e;exact u ⟨j,om,G⟩⟩
  unfold fs;simp only
  rw[aq,aq,H,sb,J,sb,sb,lP om om];by_cases e:k&&&m=k
  ·refine⟨(K,V),by rw[if_neg (sh e)],p,λa b=>?_,q⟩;rw[<-C];refine⟨λh=>⟨h,λE=>?_⟩,λh=>h.1⟩;subst E;have t:bo K a b:=h;unfold bo at t ⊢;rw[o,U_] at t;rw[A,U_];rw[<-e,mE,aW] at t;exact t.2
  ·have O:k&&&m<k:=yn B e;have D:=xA (k&&&m) K g om;rw[o,U_] at D;refine⟨(K.set g ((k&&&m:Nat):Int),true),?_,p.set _ om,λa b=>?_,.inr ⟨rfl,?_⟩⟩
   ·rw[if_pos (by simp;omega),sb,sb,sb,lP om om,cC _ _ _ om,sb]
   ·show bo (K.set g ((k&&&m:Nat):Int)) a b<->_;rw[<-C,qy om];by_cases E:a=g
    ·subst E;rw[if_pos rfl,mE,aW];unfold bo;rw[o,A,U_,U_];exact⟨λh=>⟨h.1,λ_=>h.2⟩,λh=>⟨h.1,h.2 rfl⟩⟩
    ·rw[if_neg E];exact⟨λh=>⟨h,λt=>absurd t E⟩,λh=>h.1⟩
   ·show wt (K.set g ((k&&&m:Nat):Int))<wt S;rcases q with⟨q,_⟩|⟨_,q⟩
    ·rw[q] at D;rw[q];omega
    ·omega)
 refine⟨s,f,w,u,λa b=>?_,W⟩;rw[I];refine and_congr_right λ_=>⟨λh L=>?_,λh ⟨i,hi,d⟩=>h (aE d)⟩;obtain⟨i,hi⟩:=bS.1 L;exact h ⟨i,(Y_.1 hi).1,hi⟩
structure Fnd (X:al) (n L D:Nat):Prop where
  hn:X.p.Labels=(n:Int)
  hL:X.q.Labels=(L:Int)
  n8:n<=8
  L1:1<=L
  L8:L<=8
  D4:D<=4
  cN:∀x∈X.p.Nodes,x.length=D∧∀y∈x,0<=y∧y<(n:Int)
  cE:∀x∈X.p.Edges,x.length=2∧∀y∈x,0<=y∧y<(n:Int)
  sN:X.p.Nodes.length<=100000000
  sE:X.p.Edges.length<=100000000
  tN:X.nodes=retV X.q.Nodes L D
  tE:X.edges=retV X.q.Edges L 2
def vmap(p q:c_)(f:List Int):Prop:=(∀x∈p.Nodes,srt (imgL f x)∈q.Nodes)∧∀x∈p.Edges,srt (imgL f x)∈q.Edges
def stab(X:al)(L:Nat)(S:List Int):Prop:=(∀x∈X.p.Edges,∀a b:Nat,(a:Int)∈x->bo S a b->supp L x S (λy=>srt y∈X.q.Edges) a b)∧∀x∈X.p.Nodes,∀a b:Nat,(a:Int)∈x->bo S a b->supp L x S (λy=>srt y∈X.q.Nodes) a b
def goodK(X:al)(k:Nat)(y:List Int):Prop:=if k<X.p.Edges.length then srt y∈X.q.Edges else srt y∈X.q.Nodes
theorem vL(n:Nat):msk n (List.replicate n 0):=⟨cd,λv a=>by rw[(yt.1 a).2];decide⟩
theorem wV(n a b:Nat):¬bo (List.replicate n 0) a b:=by
 unfold bo;rw[ax,gh];split<;>simp
theorem EK(X:al){n L D:Nat}(h:Fnd X n L D)(e:Nat)(K:100<=e)(k:Nat)(x:List Int)(t:(X.p.Edges++X.p.Nodes)[k]? =some x)(S:List Int)(s:Bool)(o:msk n S):
  ∃f d,eD e X (k:Int) x (S,s)=some (.go (f,d))∧msk n f∧(∀a b,bo f a b<->bo S a b∧((a:Int)∈x->supp L x S (goodK X k) a b))∧((f=S∧d=s)∨(d=true∧wt f<wt S)):=by
 have m:mk (Rz.z:Int) X.p.Labels=some (List.replicate n 0):=by
  have:=h.n8;unfold mk;rw[h.hn,if_pos om,U_];rfl
 by_cases j:k<X.p.Edges.length
 ·rw[bN j] at t;obtain⟨J,i⟩:=h.cE x (aE t);obtain⟨M,B,A,F⟩:=pF X X.edges (λy=>srt y∈X.q.Edges) n L h.hL h.L8 x S i o om (λc H g=>by rw[h.tE];exact xh _ _ _ c g om) x.length e [] (List.replicate n 0) sy om sy (vL n);obtain⟨f,d,C,G,w,u⟩:=xH M x S s n i A o;refine⟨f,d,?_,G,λa b=>?_,u⟩
  ·unfold eD;rw[if_pos (su j),m,sb,B,sb,C,sb]
  ·rw[w];refine and_congr_right λ_=>imp_congr_right λ_=>?_;rw[F];have:goodK X k=λy=>srt y∈X.q.Edges:=by funext y;unfold goodK;rw[if_pos j]
   rw[this];exact⟨λE=>E.elim (λv=>absurd v (wV n a b)) id,.inr⟩
 ·rw[cj om] at t;obtain⟨J,i⟩:=h.cN x (aE t);have I:=h.D4;obtain⟨M,B,A,F⟩:=pF X X.nodes (λy=>srt y∈X.q.Nodes) n L h.hL h.L8 x S i o om (λc H g=>by rw[h.tN];exact xh _ _ _ c g om) x.length e [] (List.replicate n 0) sy om sy (vL n);obtain⟨f,d,C,G,w,u⟩:=xH M x S s n i A o;refine⟨f,d,?_,G,λa b=>?_,u⟩
  ·unfold eD;rw[if_neg (su j),m,sb,B,sb,show mQ M=fs M from rfl,C,sb]
  ·rw[w];refine and_congr_right λ_=>imp_congr_right λ_=>?_;rw[F];have:goodK X k=λy=>srt y∈X.q.Nodes:=by funext y;unfold goodK;rw[if_neg j]
   rw[this];exact⟨λE=>E.elim (λv=>absurd v (wV n a b)) id,.inr⟩
theorem xy{n L:Nat}{f S e:List Int}(h:inS n L f S)(k:∀a b:Nat,a<n->f.getD a 0=(b:Int)->bo S a b->bo e a b):inS n L f e:=
 ⟨h.1,λa g=>by obtain⟨b,i,d,j⟩:=h.2 a g;exact⟨b,i,d,k a b g d j⟩⟩
theorem CA{X:al}{f:List Int}(b:vmap X.p X.q f){k:Nat}{x:List Int}(a:(X.p.Edges++X.p.Nodes)[k]? =some x):goodK X k (imgL f x):=by
 unfold goodK;split
 ·rename_i d;rw[bN d] at a;exact b.2 x (aE a)
 ·rename_i d;rw[cj om] at a;exact b.1 x (aE a)
theorem DU{X:al}{n L D:Nat}(h:Fnd X n L D){k:Nat}{x:List Int}(b:(X.p.Edges++X.p.Nodes)[k]? =some x):∀y∈x,0<=y∧y<(n:Int):=by
 rcases bX.1 (aE b) with a|a
 ·exact(h.cE x a).2
 ·exact(h.cN x a).2
structure Rnd (X:al) (n L:Nat) (S S1:List Int):Prop where
  m:msk n S1
  sub:∀a b,bo S1 a b->bo S a b
  keep:∀f,vmap X.p X.q f->inS n L f S->inS n L f S1
theorem wH(X:al){n L D:Nat}(h:Fnd X n L D)(g:Nat)(V:100<=g)(S:List Int)(R:msk n S):
  ∃o d,forI (eD g X) (X.p.Edges++X.p.Nodes) 0 (S,false)=some (.inl (o,d))∧Rnd X n L S o∧((o=S∧d=false∧stab X L S)∨(d=true∧wt o<wt S)):=by
 obtain⟨⟨o,d⟩,O,T,U⟩:=lH (ρ:=List Int×Bool) (body:=eD g X) (λj K=>Rnd X n L S K.1∧((K.1=S∧K.2=false∧∀i x,i<j->(X.p.Edges++X.p.Nodes)[i]? =some x->∀a b:Nat,(a:Int)∈x->bo S a b->supp L x S (goodK X i) a b)∨(K.2=true∧wt K.1<wt S))) (X.p.Edges++X.p.Nodes) (S,false)
  ⟨⟨R,λa b h=>h,λf _ h=>h⟩,.inl ⟨rfl,rfl,λi x hi=>om⟩⟩ (λj x K w Q=>by
  obtain⟨K,Y⟩:=K;obtain⟨⟨B,I,M⟩,m⟩:=Q;simp only at B I M m;obtain⟨o,d,W,Z,F,N⟩:=EK X h g V j x w K Y B;refine⟨(o,d),W,⟨Z,λa b k=>I a b ((F a b).1 k).1,λf J hi=>?_⟩,?_⟩
  ·have hi':=M f J hi;exact xy hi' λa b u C k=>(F a b).2 ⟨k,λB=>CQ (DU h w) hi' (CA J w) B C⟩
  ·simp only
   rcases N with⟨s,v⟩|⟨s,v⟩
   ·subst s;subst v;rcases m with⟨s,v,A⟩|m
    ·subst s;refine .inl ⟨rfl,v,λi y hi H a b u k=>?_⟩;by_cases e:i=j
     ·subst e;rw[w] at H;cases H
      exact((F a b).1 k).2 u
     ·exact A i y om H a b u k
    ·exact .inr m
   ·refine .inr ⟨s,?_⟩;rcases m with⟨m,_⟩|⟨_,m⟩
    ·rwa [m] at v
    ·omega)
 refine⟨o,d,O,T,U.imp (λ⟨s,v,A⟩=>⟨s,v,⟨λx G a b u k=>?_,λx G a b u k=>?_⟩⟩) id⟩
 ·obtain⟨i,hi⟩:=bS.1 G;have t:=(Y_.1 hi).1;have:=A i x (by simp;omega) (by rw[bN t];exact hi) a b u k;have E:goodK X i=λy=>srt y∈X.q.Edges:=by funext y;unfold goodK;rw[if_pos t]
  rwa [E] at this
 ·obtain⟨i,hi⟩:=bS.1 G;have t:=(Y_.1 hi).1;have:=A (X.p.Edges.length+i) x (by simp;omega) (by rw[cj om,FA];exact hi) a b u k;have E:goodK X (X.p.Edges.length+i)=λy=>srt y∈X.q.Nodes:=by funext y;unfold goodK;rw[if_neg om]
  rwa [E] at this
theorem Dk(X:al){n L D:Nat}(h:Fnd X n L D)(g:Nat)(o:100<=g):∀(w:Nat)(S:List Int)(d:Nat),msk n S->wt S<=w->w+2<d->
  ∃e,loopF (cV g X) d (S,true)=some (.inl (e,false))∧Rnd X n L S e∧stab X L e:=by
 intro w
 induction w with
 | zero=>
  intro S d v J N;obtain⟨m,rfl⟩:∃m,d=m+2:=⟨d-2,om⟩;obtain⟨e,k,t,j,y⟩:=wH X h g o S v;rcases y with⟨i,q,x⟩|⟨i,q⟩
  ·subst i;subst q;have K:=h.sN;have G:=h.sE;refine⟨e,?_,j,x⟩;have B:cat ([]:List (List Int)) X.p.Edges=some X.p.Edges:=fV _ om;have C:cat X.p.Edges X.p.Nodes=some (X.p.Edges++X.p.Nodes):=by unfold cat;rw[if_pos om]
   have s:cV g X (e,true)=some (.go (e,false)):=by
    unfold cV;simp only[if_true];rw[B,sb,C,sb,t,sb]
   have A:cV g X (e,false)=some (.out (e,false)):=by
    unfold cV;simp
   simp only[loopF,s,A]
  ·omega
 | succ w ih=>
  intro S d v J N;obtain⟨m,rfl⟩:∃m,d=m+2:=⟨d-2,om⟩;obtain⟨e,k,t,j,y⟩:=wH X h g o S v;have K:=h.sN;have G:=h.sE;have B:cat ([]:List (List Int)) X.p.Edges=some X.p.Edges:=fV _ om;have C:cat X.p.Edges X.p.Nodes=some (X.p.Edges++X.p.Nodes):=by unfold cat;rw[if_pos om]
  have s:cV g X (S,true)=some (.go (e,k)):=by
   unfold cV;simp only[if_true];rw[B,sb,C,sb,t,sb]
  have A:cV g X (e,false)=some (.out (e,false)):=by
   unfold cV;simp
  rcases y with⟨i,q,x⟩|⟨i,q⟩
  ·subst i;subst q;exact⟨e,by simp only[loopF,s,A],j,x⟩
  ·subst i;obtain⟨I,F,u,M⟩:=ih e (m+1) j.m om om;exact⟨I,by simp only[loopF,s] at F ⊢;exact F,⟨u.m,λa b H=>j.sub a b (u.sub a b H),λf E hi=>u.keep f E (j.keep f E hi)⟩,M⟩
theorem vo(X:al){n L D:Nat}(h:Fnd X n L D)(a:Nat)(o:3000<=a)(S:List Int)(d:msk n S):
  ∃b,gK a X S=some (b, !decide ((0:Int)∈b))∧Rnd X n L S b∧stab X L b:=by
 have k:=d.1;have m:=h.n8;have j:=xI (n:=0) d.2;have f:S.length*255<=8*255:=qQ _ om;obtain⟨b,g,e,i⟩:=Dk X h a om (wt S) S a d (K_ _) om;refine⟨b,?_,e,i⟩;unfold gK;rw[dm _ om,sb,g,sb];simp only
 rw[Ek,sb]
def keptP(l m:List (List Int))(f:List Int):Prop:=∀x∈l,x.getD (x.length-1) 0=(f.length:Int)-1->srt (imgL f x)∈m
theorem wi{x:List Int}(a:x.Pairwise (·<=·)):∀y∈x,y<=x.getD (x.length-1) 0:=λy b=>by
 obtain⟨i,hi,rfl⟩:=Gq b;rw[ax,x_ om];simp only[dT];by_cases e:i=x.length-1
 ·subst e;exact N_ _
 ·exact(dw.1 a) i (x.length-1) hi om om
theorem CW{x:List Int}(h:x≠ []):x.getD (x.length-1) 0∈x:=by
 have a:0<x.length:=Gr.2 h;rw[ax,x_ om];exact aV _
theorem wZ{P Q:List (List Int)}{g:List Int}{n:Nat}(u:g.length=n)(m:∀x∈P,x≠ []∧x.Pairwise (·<=·)∧∀y∈x,0<=y∧y<n)(p:∀k,k<n->keptP P Q (g.take (k+1))):∀x∈P,srt (imgL g x)∈Q:=λx h=>by
 obtain⟨j,o,f⟩:=m x h;have q:=f _ (CW j);have d:=wi o;generalize s:x.getD (x.length-1) 0=a at q d;have b:(g.take (a.toNat+1)).length=a.toNat+1:=by rw[aX];omega
 have:=p a.toNat om x h (by rw[s,b];omega);have e:imgL (g.take (a.toNat+1)) x=imgL g x:=by
  unfold imgL;refine jX λy i=>?_;have t:=d y i;have v:=f y i;rw[ax,bO,if_pos om,ax]
 rwa [e] at this
def chP(lists:List (List Int))(g:List Int->Bool)(k:Nat)(lab:List Int):Prop:=∃m,m.length=lists.length∧m.take k=lab.take k∧(∀(i:Nat) L a,k<=i->lists[i]? =some L->m[i]? =some a->a∈L)∧g m=true
theorem xD(f:List (List Int))(G:List Int->Option Bool)(g:List Int->Bool)(hG:∀m,m.length=f.length->G m=some (g m))(hl:f.length<=1000):∀(d k o:Nat)(j:List Int),k+d=f.length->d<o->j.length=f.length->
  ∃b t,cw o (k:Int) f G j=some (b,t)∧t.length=f.length∧t.take k=j.take k∧(b=true<->chP f g k j)
 | 0,k,o,j,hd,hf,n=>by
  obtain⟨q,rfl⟩:∃q,o=q+1:=⟨o-1,om⟩;refine⟨g j,j,?_,n,rfl,?_⟩
  ·unfold cw;rw[if_pos (by simp;omega),hG j n,sb]
  ·constructor
   ·intro h;exact⟨j,n,rfl,λi L a hi M _=>by have:=(Y_.1 M).1;omega,h⟩
   ·rintro⟨m,w,p,y,v⟩;rw[cu om,cu om] at p;rw[<-p];exact v
 | d+1,k,o,j,hd,hf,n=>by
  obtain⟨q,rfl⟩:∃q,o=q+1:=⟨o-1,om⟩;have hk:k<f.length:=om;obtain⟨L,M⟩:∃L,f[k]? =some L:=⟨_,x_ hk⟩;have one:∀(a:Int)(s:List Int),s.length=f.length->s.take k=j.take k->∃b s',eF (k:Int) f G (cw q) 0 a s=some (if b then .ret (true,s') else .go s')∧s'.length=f.length∧s'.take k=j.take k∧(b=true<->chP f g (k+1) (s.set k a)):=λa s F B=>by
   obtain⟨b,s',S,R,Q,V⟩:=xD f G g hG hl d (k+1) q (s.set k a) om om (su F);refine⟨b,s',?_,R,?_,V⟩
   ·unfold eF;rw[aq,x_ (show k<s.length by omega),sb,cC _ _ _ (show k<s.length by omega),sb,n_ om om,sb,show((k:Int)+1)=((k+1:Nat):Int) by omega,S,sb];cases b<;>rfl
   ·have:=congrArg (List.take k) Q;rw[fZ,fZ,eq om,yb (K_ _)] at this;rw[this,B]
  have u:∀(a:Int)(s:List Int),s.length=f.length->s.take k=j.take k->(chP f g (k+1) (s.set k a)<->∃m,m.length=f.length∧m.take k=j.take k∧m[k]? =some a∧(∀(i:Nat) L a,k+1<=i->f[i]? =some L->m[i]? =some a->a∈L)∧g m=true):=λa s F B=>by
   have ht:(s.set k a).take (k+1)=j.take k++[a]:=by
    rw[dv,yb (K_ _),B,FK om];rfl
   constructor
   ·rintro⟨m,w,p,y,v⟩;rw[ht,dv] at p;have I:m[k]? =some m[k]:=x_ om;rw[I] at p;obtain⟨u1,u2⟩:=List.append_inj p (by rw[aX,aX];omega);exact⟨m,w,u1,by rw[I];simpa using u2,y,v⟩
   ·rintro⟨m,w,p,y,v,Y⟩;exact⟨m,w,by rw[ht,dv,p,y];rfl,v,Y⟩
  have K:∀(xs pre:List Int)(i:Int)(s:List Int),pre++xs=L->s.length=f.length->s.take k=j.take k->(¬∃a∈pre,chP f g (k+1) (j.set k a))->
    ∃z,forI (eF (k:Int) f G (cw q)) xs i s=some z∧((∃s',z=.inl s'∧s'.length=f.length∧s'.take k=j.take k∧¬∃a∈L,chP f g (k+1) (j.set k a))∨(∃s',z=.inr (true,s')∧s'.length=f.length∧s'.take k=j.take k∧∃a∈L,chP f g (k+1) (j.set k a))):=by
   intro xs
   induction xs with
   |nil=>
    intro pre i s H N O Z;rw[bm] at H;subst H;exact⟨_,rfl,.inl ⟨s,rfl,N,O,Z⟩⟩
   | cons x xs ih=>
    intro pre i s H N O Z;obtain⟨b,s',S,R,Q,V⟩:=one x s N O;have U:eF (k:Int) f G (cw q) i x s=some (if b then .ret (true,s') else .go s'):=S;have hxL:x∈L:=by rw[<-H];simp
    have e5:b=true<->chP f g (k+1) (j.set k x):=by rw[V,u x s N O,u x j n rfl]
    simp only[forI,U];cases b with
    |true=>exact⟨_,rfl,.inr ⟨s',rfl,R,Q,x,hxL,e5.1 rfl⟩⟩
    |false=>
     refine ih (pre++[x]) (i+1) s' (by rw[<-H];simp) R Q ?_;rintro⟨a,D,C⟩;rcases bX.1 D with D|D
     ·exact Z ⟨a,D,C⟩
     ·rw[be.1 D] at C;exact absurd (e5.2 C) sy
  obtain⟨z,z1,z2⟩:=K L [] 0 j sy n rfl sy;have J:chP f g k j<->∃a∈L,chP f g (k+1) (j.set k a):=by
   constructor
   ·rintro⟨m,w,p,y,v⟩;have I:m[k]? =some m[k]:=x_ om;exact⟨m[k],y k L _ (K_ _) M I,(u _ j n rfl).2 ⟨m,w,p,I,λi L a hi=>y i L a om,v⟩⟩
   ·rintro⟨a,D,hc⟩;obtain⟨m,w,p,y,v,Y⟩:=(u a j n rfl).1 hc;refine⟨m,w,p,λi L' b hi E hb=>?_,Y⟩;by_cases e:i=k
    ·subst e;rw[M] at E;cases E;rw[y] at hb;cases hb;exact D
    ·exact v i L' b om E hb
  have A:cw (q+1) (k:Int) f G j=((forI (eF (k:Int) f G (cw q)) L 0 j)>>=λT=>match T with| .inl W=>some (false,W)| .inr r'=>some r'):=by
   conv=>lhs;unfold cw
   rw[if_neg (by simp;omega),aq,M,sb];all_goals rfl
  rw[A,z1,sb,J];rcases z2 with⟨s',rfl,X,a2,a3⟩|⟨s',rfl,X,a2,a3⟩
  ·exact⟨false,s',rfl,X,a2,by simpa using a3⟩
  ·exact⟨true,s',rfl,X,a2,by simpa using a3⟩
theorem sf(e:Nat)(d:List (List Int))(G:List Int->Option Bool)(g:List Int->Bool)(s:∀m,m.length=d.length->G m=some (g m))(q:d.length<=1000)(u:d.length<e):
  ∃l b,ir e d G=some (l,b)∧(b=true<->∃m,m.length=d.length∧(∀(i:Nat) L a,d[i]? =some L->m[i]? =some a->a∈L)∧g m=true):=by
 obtain⟨b,f,o,x,v,h⟩:=xD d G g s q d.length 0 e (List.replicate d.length 0) om u sy;rw[show((0:Nat):Int)=0 from rfl] at o;have t:mk (Rz.z:Int) (d.length:Int)=some (List.replicate d.length 0):=by
  unfold mk;rw[if_pos om];rfl
 have p:chP d g 0 (List.replicate d.length 0)<->∃m,m.length=d.length∧(∀(i:Nat) L a,d[i]? =some L->m[i]? =some a->a∈L)∧g m=true:=
  ⟨λ⟨m,k,_,n,j⟩=>⟨m,k,λi L a=>n i L a (bj _),j⟩,λ⟨m,k,n,j⟩=>⟨m,k,sy,λi L a _=>n i L a,j⟩⟩
 rw[p] at h;unfold ir;rw[t,sb,o,sb];cases b with
 |true=>exact⟨f,true,by rfl,h⟩
 |false=>exact⟨[],false,by rfl,h⟩
end Go.Proofs.YtpefhaamcihneaaGreat
