/- Part 28 of what this claim rests on (pack.py). -/
import Derived.Test.YtpefhaamcihneaaGreatP27
namespace Go.Proofs.YtpefhaamcihneaaGreat
set_option linter.unusedSimpArgs false
set_option linter.unusedVariables false
theorem uy{σ ρ:Type}{f:σ×Int->Option (Lp (σ×Int) (σ×Int) ρ)}(P:Nat->σ->Prop)(n:Nat)(h:∀(j:Nat) s,j<n->P j s->∃s',f (s,(j:Int))=some (.go (s',((j+1:Nat):Int)))∧P (j+1) s')
  (b:∀s,f (s,(n:Int))=some (.out (s,(n:Int)))):∀(d j a:Nat) s,j+d=n->d<a->P j s->∃s',loopF f a (s,(j:Int))=some (.inl (s',(n:Int)))∧P n s'
 |0,j,a,s,g,q,e=>by
  obtain⟨m,rfl⟩:∃m,a=m+1:=⟨a-1,om⟩;have:j=n:=om;subst this;exact⟨s,by simp only[loopF,b],e⟩
 |d+1,j,a,s,g,q,e=>by
  obtain⟨m,rfl⟩:∃m,a=m+1:=⟨a-1,om⟩;obtain⟨k,t,i⟩:=h j s om e;obtain⟨s',o,p⟩:=uy P n h b d (j+1) m k om om i;exact⟨s',by simp only[loopF,t];exact o,p⟩
theorem vG{α σ ρ:Type}{body:Int->α->σ->Option (Lp σ σ ρ)}(P:Nat->σ->Prop)(xs:List α)(h:∀(j:Nat) x s,xs[j]? =some x->P j s->∃s',body (j:Int) x s=some (.go s')∧P (j+1) s'):
  ∀(d j:Nat) s,j+d=xs.length->P j s->∃s',forI body (xs.drop j) (j:Int) s=some (.inl s')∧P xs.length s'
 |0,j,s,f,a=>by
  have:j=xs.length:=om;subst this;exact⟨s,by rw[Gn];rfl,a⟩
 |d+1,j,s,f,a=>by
  obtain⟨b,i,k⟩:=h j xs[j] s (x_ om) a;obtain⟨s',e,g⟩:=vG P xs h d (j+1) b om k;refine⟨s',?_,g⟩;rw[dt om];simp only[forI,i];exact e
theorem lJ{α σ ρ:Type}{body:Int->α->σ->Option (Lp σ σ ρ)}(P:Nat->σ->Prop)(xs:List α)(s:σ)(a:P 0 s)(h:∀(j:Nat) x s,xs[j]? =some x->P j s->∃s',body (j:Int) x s=some (.go s')∧P (j+1) s'):
  ∃s',forI body xs 0 s=some (.inl s')∧P xs.length s':=by
 have:=vG P xs h xs.length 0 s om a;rwa [aG] at this
def retV(N:List (List Int))(L D:Nat):List Bool:=(List.range (L^D)).map λn=>decide (srt (digs L D n)∈N)
theorem Bm(L D n a:Nat)(k:1<=L)(m:L<=8)(e:D<=4)(i:n<=1000000)(o:10<=a):loopF (fE (L:Int) (D:Int)) a ([],(n:Int))=some (.inl (digs L D n,((n/L^D:Nat):Int))):=by
 have h:=di (f:=fE (L:Int) (D:Int)) (λj=>(digs L j n,((n/L^j:Nat):Int))) D (λj g=>by
  have b:n/L^j/L<=n:=aH (jU _ _) (jU _ _);have d:=cO L j n;unfold fE;simp only
  unfold rem quo push;rw[if_pos (by simp;omega),if_neg om,sb,if_pos om,sb,if_neg om,show((n/L^j:Nat):Int).tdiv (L:Int)=((n/L^j/L:Nat):Int) from rfl,fY om,sb,
   show((n/L^j:Nat):Int).tmod (L:Int)=((n/L^j%L:Nat):Int) from rfl,nK,dx,rh]) (by
  unfold fE;simp only
  rw[if_neg (by simp[cO])]) a 0 om om
 simpa [digs] using h
theorem uP(a:Nat)(v:100<=a)(N:List (List Int))(L D:Nat)(g:1<=L)(m:L<=8)(o:D<=4):jd a N (L:Int) (D:Int)=some (retV N L D):=by
 have s:=cM (L:=L) (k:=D) om om;have e:=di (f:=iA (L:Int) (D:Int)) (λj=>(((L^j:Nat):Int),(j:Int))) D (λj h=>by
  have u:=cM (L:=L) (k:=j+1) om om;unfold iA;simp only
  rw[if_pos (su h),show((L^j:Nat):Int)*(L:Int)=((L^(j+1):Nat):Int) by rw[dx];exact(dX _ _).symm,n_ om om,sb,n_ om om,sb];rfl) (by
  unfold iA;simp only
  rw[if_neg sy]) a 0 om om
 have b:=dj (body:=kV a N (L:Int) (D:Int)) (λK=>(List.range (L^D)).map λk=>if k<K then decide (srt (digs L D k)∈N) else false) (L^D) (λK d=>by
  have p:=cO L D K;unfold kV;rw[Bm L D K a g m o om om,sb];simp only
  rw[jf _ a om om,sb,<-iP,fU _ _ (by rw[eV];omega),sb,bM _ _ (by simp;exact d),sb,cC _ _ _ (by simp;exact d),sb,tc false _ _ _ (λk=>decide (srt (digs L D k)∈N)) rfl d])
 unfold jd mk;rw[show((1:Int),(0:Int))=(((L^0:Nat):Int),((0:Nat):Int)) by simp,e,sb];simp only
 rw[if_pos om,sb,cd,U_,n_ om om,sb,U_];have n:List.replicate (L^D) (Rz.z:Bool)=(List.range (L^D)).map λk=>if k<0 then decide (srt (digs L D k)∈N) else false:=by
  refine dr sy λi g e=>?_;simp;rfl
 rw[n,b,sb];unfold retV;have q:((List.range (L^D)).map λk=>if k<L^D then decide (srt (digs L D k)∈N) else false)=(List.range (L^D)).map λk=>decide (srt (digs L D k)∈N):=by
  refine jX λk t=>?_;rw[if_pos (aS.1 t)]
 rw[q]
theorem xl(N:List (List Int))(L D:Nat)(c:List Int)(i:∀a∈c,0<=a∧a<(L:Int))(e:c.length=D):∃g,ix (retV N L D) ((valN L c.reverse:Nat):Int)=some g∧(g=true<->srt c∈N):=by
 have b:∀a∈c.reverse,0<=a∧a<(L:Int):=λa h=>i a (rj.1 h);have d:=dP c.reverse b;rw[fj,e] at d;have f:=oe c.reverse b;rw[fj,e] at f;refine⟨decide (srt c∈N),?_,sy⟩;unfold retV;rw[aq,aZ,gl d,cn,f,fM (Gl c)]
def msk(n:Nat)(M:List Int):Prop:=M.length=n∧∀v∈M,0<=v∧v<256
def bo(M:List Int)(a b:Nat):Prop:=(M.getD a 0).toNat.testBit b=true
theorem msk.at{n:Nat}{M:List Int}(h:msk n M){a:Nat}(d:a<n):∃m:Nat,m<256∧M[a]? =some (m:Int)∧M.getD a 0=(m:Int):=by
 have f:=h.1;have b:=h.2 M[a] (aV _);have e:((M[a].toNat:Nat):Int)=M[a]:=co b.1;refine⟨M[a].toNat,om,?_,?_⟩
 ·rw[e];exact x_ om
 ·rw[e,ax,x_ om];rfl
theorem msk.set{n:Nat}{M:List Int}(h:msk n M)(a:Nat){m:Nat}(d:m<256):msk n (M.set a (m:Int)):=
 ⟨by rw[cG];exact h.1,λv b=>by
  rcases yr b with b|rfl
  ·exact h.2 v b
  ·omega⟩
theorem qB{M:List Int}{a:Nat}(d:a<M.length)(v c b:Nat):bo (M.set a (v:Int)) c b<->if c=a then v.testBit b=true else bo M c b:=by
 unfold bo;rw[ax,db];by_cases e:c=a
 ·subst e;rw[if_pos rfl,if_pos d,if_pos rfl];simp
 ·rw[if_neg (λh=>e h.symm),if_neg e,<-ax]
theorem getD_some{α:Type}{xs:List α}{i:Nat}{x z:α}(h:xs[i]? =some x):xs.getD i z=x:=by rw[ax,h];rfl
theorem fe{n:Nat}{x:List Int}(f:∀y∈x,0<=y∧y<(n:Int)){i:Nat}(hi:i<x.length):∃a:Nat,a<n∧x[i]? =some (a:Int)∧x.getD i 0=(a:Int):=by
 have d:=f x[i] (aV _);have e:((x[i].toNat:Nat):Int)=x[i]:=co d.1;have b:x[i]? =some ((x[i].toNat:Nat):Int):=by rw[e];exact x_ hi
 exact⟨x[i].toNat,om,b,getD_some b⟩
def cnd(x S c:List Int)(b:Nat):Prop:=bo S (x.getD c.length 0).toNat b∧(c.length=0∨x.getD (c.length-1) 0≠x.getD c.length 0∨c.getD (c.length-1) 0=(b:Int))
def chR(L:Nat)(x S:List Int):Nat->List Int->List Int->Prop
  |0,c,y=>y=c
  |d+1,c,y=>∃b:Nat,b<L∧cnd x S c b∧chR L x S d (c++[(b:Int)]) y
def marked(x y:List Int)(a b:Nat):Prop:=∃i,i<x.length∧x.getD i 0=(a:Int)∧y.getD i 0=(b:Int)
theorem DO(X:al)(L:Nat)(h:X.q.Labels=(L:Int))(d:L<=8)(c:List Int)(e:∀a∈c,0<=a∧a<(L:Int))(o:c.length<=4):forI (gz X) c 0 0=some (.inl ((valN L c.reverse:Nat):Int)):=by
 have:=lI (ρ:=List Int) (body:=gz X) (λj=>((valN L (c.take j).reverse:Nat):Int)) c (λj v b=>by
  have hi:=(Y_.1 b).1;have n:=e v (aE b);have g:=dP (L:=L) (c.take j).reverse (λa f=>e a (jP (rj.1 f)));have m:=cM (L:=L) (k:=(c.take j).reverse.length) d (by rw[fj,aX];omega);have i:valN L (c.take j).reverse*L<=4096*8:=mw om d;unfold gz;rw[h,<-dX,n_ om om,sb,n_ om om,sb,dK b,Gm];congr 2;show _=(((v.toNat+L*valN L (c.take j).reverse:Nat)):Int);rw[oY L];omega)
 rw[cc] at this;exact this
theorem Cz(x c M:List Int)(n:Nat)(Q:∀y∈x,0<=y∧y<(n:Int))(J:c.length=x.length)(L:Nat)(S:L<=8)(O:∀a∈c,0<=a∧a<(L:Int))(H:msk n M):
  ∃o,forI (gA x) c 0 M=some (.inl o)∧msk n o∧∀a b,bo o a b<->bo M a b∨marked x c a b:=by
 obtain⟨o,f,d,R⟩:=lJ (ρ:=List Int) (body:=gA x) (λj K=>msk n K∧∀a b,bo K a b<->bo M a b∨∃i,i<j∧x.getD i 0=(a:Int)∧c.getD i 0=(b:Int)) c M ⟨H,λa b=>⟨.inl,λh=>h.elim id λ⟨i,hi,_⟩=>om⟩⟩ (λj v K w t=>by
  obtain⟨t,E⟩:=t;have hi:=(Y_.1 w).1;obtain⟨F,D,C,p⟩:=fe Q (i:=j) om;obtain⟨m,G,B,u⟩:=t.at D;have I:=O v (aE w);obtain⟨k,rfl⟩:∃k:Nat,v=(k:Int):=⟨v.toNat,(co I.1).symm⟩;have d:2^k<256:=by
   have:=bF (n:=2) dc (show k<=7 by omega);omega
  have A:m|||2^k<256:=yh (n:=8) G d;have N:=t.1;refine⟨K.set F ((m|||2^k:Nat):Int),?_,t.set _ A,λa b=>?_⟩
  ·unfold gA;rw[aq,C,sb,aq,B,sb,cR om,sb,sb,qt om om,cC _ _ _ om,sb]
  ·rw[qB om];have s:=getD_some (z:=0) w;by_cases e:a=F
   ·subst e;rw[if_pos rfl,Nat.testBit_or,bT,yi];have g:=E a b;unfold bo at g;rw[u,U_] at g;rw[g];unfold bo;constructor
    ·rintro((h|⟨i,hi,f,d⟩)|h)
     ·exact .inl h
     ·exact .inr ⟨i,om,f,d⟩
     ·exact .inr ⟨j,om,p,by rw[s,of_decide_eq_true h]⟩
    ·rintro(h|⟨i,hi,f,d⟩)
     ·exact .inl (.inl h)
     ·by_cases q:i=j
      ·subst q;rw[s] at d;exact .inr (decide_eq_true om)
      ·exact .inl (.inr ⟨i,om,f,d⟩)
   ·rw[if_neg e,E];constructor
    ·rintro(h|⟨i,hi,f,d⟩)
     ·exact .inl h
     ·exact .inr ⟨i,om,f,d⟩
    ·rintro(h|⟨i,hi,f,d⟩)
     ·exact .inl h
     ·by_cases q:i=j
      ·subst q;rw[p] at f;omega
      ·exact .inr ⟨i,om,f,d⟩)
 refine⟨o,f,d,λa b=>?_⟩;rw[R,J];rfl
theorem CR(X:al)(n L:Nat)(x S c:List Int)(G:∀y∈x,0<=y∧y<(n:Int))(H:msk n S)(O:c.length<x.length)(T:x.length<=4)(b:Nat)(M:b<=62):∃t,((ix x (c.length:Int))>>=λw=>
   (ix S w)>>=λu=>
   (fR u (b:Int))>>=λv=>
   if v then
    if(c.length:Int)==0 then
     some true
    else
     (ck ((c.length:Int)-1))>>=λk=>
     (ix x k)>>=λj=>
     (ix x (c.length:Int))>>=λo=>
     if j !=o then
      some true
     else
      (ck ((c.length:Int)-1))>>=λf=>
      (ix c f)>>=λp=>
      some (p==(b:Int))
   else
    some false)=some t∧(t=true<->cnd x S c b):=by
 obtain⟨N,C,A,e⟩:=fe G O;obtain⟨m,R,E,D⟩:=H.at C;rw[aq,A,sb,aq,E,sb,wZ m b M,sb];have a:bo S (x.getD c.length 0).toNat b<->m.testBit b=true:=by unfold bo;rw[e,U_,D,U_]
 cases q:m.testBit b
 ·exact⟨false,by rw[if_neg sy],sy,λh=>by have F:=a.1 h.1;rw[q] at F;cases F⟩
 ·rw[if_pos rfl];by_cases s:c.length=0
  ·exact⟨true,by rw[if_pos (su s)],λ_=>⟨a.2 q,.inl s⟩,λ_=>rfl⟩
  ·have Q:(c.length:Int)-1=((c.length-1:Nat):Int):=om;obtain⟨K,J,g,d⟩:=fe G (i:=c.length-1) om;rw[if_neg (su s),n_ om om,sb,Q,aq,g,sb,sb];by_cases I:K=N
   ·subst I;have B:c[c.length-1]? =some (c.getD (c.length-1) 0):=by rw[ax,x_ om];rfl
    rw[if_neg sy,sb,aq,B,sb];refine⟨_,rfl,?_⟩;rw[beq_iff_eq];constructor
    ·exact λh=>⟨a.2 q,.inr (.inr h)⟩
    ·rintro⟨_,h|h|h⟩
     ·exact absurd h s
     ·rw[d,e] at h;exact absurd rfl h
     ·exact h
   ·refine⟨true,by rw[if_pos (by simp;omega)],λ_=>⟨a.2 q,.inr (.inl ?_)⟩,λ_=>rfl⟩;rw[d,e];omega
theorem pQ(X:al)(k:List Bool)(G:List Int->Prop)(n L:Nat)(E:X.q.Labels=(L:Int))(I:L<=8)(x S:List Int)(J:∀y∈x,0<=y∧y<(n:Int))(N:msk n S)(O:x.length<=4)
  (u:∀c:List Int,c.length=x.length->(∀a∈c,0<=a∧a<(L:Int))->∃g,ix k ((valN L c.reverse:Nat):Int)=some g∧(g=true<->G c)):
  ∀(d i:Nat)(c M:List Int),c.length+d=x.length->20+d<i->(∀a∈c,0<=a∧a<(L:Int))->msk n M->
  ∃v,cJ i X k x S c M=some v∧msk n v∧∀a b,bo v a b<->bo M a b∨∃y,chR L x S d c y∧G y∧marked x y a b
 |0,i,c,M,hd,hf,C,D=>by
  obtain⟨m,rfl⟩:∃m,i=m+1:=⟨i-1,om⟩;obtain⟨g,s,p⟩:=u c om C;unfold cJ;rw[if_neg (by simp;omega),DO X L E I c C om,sb];simp only
  rw[s,sb];cases g
  ·exact⟨M,by rw[if_neg sy],D,λa b=>⟨.inl,λh=>h.elim id λ⟨y,e,Y,_⟩=>by
    have e:y=c:=e;subst e;exact absurd (p.2 Y) sy⟩⟩
  ·obtain⟨v,g1,g2,V⟩:=Cz x c M n J om L I C D;refine⟨v,by rw[if_pos rfl,g1,sb],g2,λa b=>?_⟩;rw[V];exact⟨λh=>h.imp id λh=>⟨c,rfl,p.1 rfl,h⟩,λh=>h.imp id λ⟨y,e,_,w⟩=>by
    have e:y=c:=e;rw[e] at w;exact w⟩
 | d+1,i,c,M,hd,hf,C,D=>by
  obtain⟨m,rfl⟩:∃m,i=m+1:=⟨i-1,om⟩;obtain⟨v,s,p,h3⟩:=uy (f:=gy X k x S c (cJ m)) (λj K=>msk n K∧∀a b,bo K a b<->bo M a b∨∃t:Nat,t<j∧cnd x S c t∧∃y,chR L x S d (c++[(t:Int)]) y∧G y∧marked x y a b) L (λj K T F=>by
   obtain⟨F,Q⟩:=F;obtain⟨t,e1,R⟩:=CR X n L x S c J N om O j om;unfold gy;simp only
   rw[E,if_pos (su T),e1,sb];cases t
   ·refine⟨K,by rw[if_neg sy,n_ om om,sb];rfl,F,λa b=>?_⟩;rw[Q];refine⟨λh=>h.imp id λ⟨t,o,h⟩=>⟨t,om,h⟩,λh=>h.imp id λ⟨t,o,g,g'⟩=>⟨t,?_,g,g'⟩⟩;have:t≠j:=λe=>by rw[e] at g;exact absurd (R.2 g) sy
    omega
   ·have H:∀a∈c++[(j:Int)],0<=a∧a<(L:Int):=λa B=>by
     rcases bX.1 B with B|B
     ·exact C a B
     ·rw[be.1 B];omega
    obtain⟨K',W,Z,U⟩:=pQ X k G n L E I x S J N O u d m (c++[(j:Int)]) K (by simp;omega) om H F;have A:push c (j:Int)=some (c++[(j:Int)]):=by unfold push;rw[if_pos om]
    refine⟨K',by rw[if_pos rfl,dm _ om,sb,A,sb,W,sb,n_ om om,sb];rfl,Z,λa b=>?_⟩;rw[U,Q];constructor
    ·rintro((h|⟨t,o,h,w⟩)|h)
     ·exact .inl h
     ·exact .inr ⟨t,om,h,w⟩
     ·exact .inr ⟨j,om,R.1 rfl,h⟩
    ·rintro(h|⟨t,o,h,w⟩)
     ·exact .inl (.inl h)
     ·by_cases q:t=j
      ·subst q;exact .inr w
      ·exact .inl (.inr ⟨t,om,h,w⟩)) (λK=>by
   unfold gy;simp only
   rw[E,if_neg sy]) L 0 m M om om ⟨D,λa b=>⟨.inl,λh=>h.elim id λ⟨t,o,_⟩=>om⟩⟩
  refine⟨v,?_,p,λa b=>?_⟩
  ·unfold cJ;rw[if_pos (by simp;omega)];rw[show((0:Nat):Int)=0 from rfl] at s;rw[s,sb]
  ·rw[h3];exact⟨λh=>h.imp id λ⟨t,o,h,y,s,p⟩=>⟨y,⟨t,o,h,s⟩,p⟩,λh=>h.imp id λ⟨y,⟨t,o,h,s⟩,p⟩=>⟨t,o,h,y,s,p⟩⟩
theorem uk{L:Nat}{x S:List Int}:∀{d:Nat}{c y:List Int},chR L x S d c y->y.length=c.length+d∧(∃z,y=c++z)∧∀i,c.length<=i->i<c.length+d->∃b:Nat,b<L∧y.getD i 0=(b:Int)∧bo S (x.getD i 0).toNat b
 |0,c,y,h=>by
  have h:y=c:=h;subst h;exact⟨om,⟨[],sy⟩,λi f a=>om⟩
 |d+1,c,y,⟨b,j,k,h⟩=>by
  obtain⟨f,⟨z,a⟩,g⟩:=uk h;rw[ar,bn] at f g;refine⟨om,⟨(b:Int)::z,by rw[a];simp⟩,λi m n=>?_⟩;by_cases e:i=c.length
  ·subst e;refine⟨b,j,?_,k.1⟩;rw[a,bC,ax,cj (K_ _)];simp
  ·exact g i om om
def inS(n L:Nat)(f S:List Int):Prop:=f.length=n∧∀a,a<n->∃b:Nat,b<L∧f.getD a 0=(b:Int)∧bo S a b
theorem qm{f x:List Int}{i a:Nat}(h:x[i]? =some (a:Int)):(imgL f x)[i]? =some (f.getD a 0):=by
 unfold imgL;rw[aZ,h];rfl
theorem wO{n L:Nat}{x S f:List Int}(s:∀y∈x,0<=y∧y<(n:Int))(u:inS n L f S):∀(d k:Nat),k+d=x.length->chR L x S d (imgL f (x.take k)) (imgL f x)
 |0,k,B=>by
  have:x.take k=x:=cu om;show imgL f x=imgL f (x.take k);rw[this]
 | d+1,k,B=>by
  obtain⟨a,v,q,j⟩:=fe s (i:=k) om;obtain⟨b,A,o,p⟩:=u.2 a v;have g:(imgL f (x.take k)).length=k:=by rw[eZ,aX];omega
  refine⟨b,A,⟨by rw[g,j,U_];exact p,?_⟩,?_⟩
  ·rw[g];by_cases C:k=0
   ·exact .inl C
   ·obtain⟨t,w,m,h⟩:=fe s (i:=k-1) om;by_cases e:t=a
    ·refine .inr (.inr ?_);subst e;rw[getD_some (qm (x:=x.take k) (i:=k-1) (a:=t) (by rw[bO,if_pos om];exact m))];exact o
    ·exact .inr (.inl (by rw[h,j];omega))
  ·have:=wO s u d (k+1) om;have e:imgL f (x.take (k+1))=imgL f (x.take k)++[(b:Int)]:=by
    rw[dK q];unfold imgL;rw[ew];simp only[bd,eu,U_,o]
   rwa [e] at this
def supp(L:Nat)(x S:List Int)(G:List Int->Prop)(a b:Nat):Prop:=∃y,chR L x S x.length [] y∧G y∧marked x y a b
theorem Dc{n L:Nat}{x S f:List Int}{G:List Int->Prop}(g:∀y∈x,0<=y∧y<(n:Int))(j:inS n L f S)(e:G (imgL f x)){a b:Nat}(d:(a:Int)∈x)(h:f.getD a 0=(b:Int)):supp L x S G a b:=by
 refine⟨imgL f x,?_,e,?_⟩
 ·have:=wO g j x.length 0 om;simpa [imgL] using this
 ·obtain⟨i,hi⟩:=bS.1 d;exact⟨i,(Y_.1 hi).1,getD_some hi,by rw[getD_some (qm hi)];exact h⟩
def wt(S:List Int):Nat:=(S.map Int.toNat).sum
theorem xh(v:Nat):∀(S:List Int)(a:Nat),a<S.length->wt (S.set a (v:Int))+(S.getD a 0).toNat=wt S+v
 |[],a,h=>by simp at h
 |s::S,0,h=>by
  simp only[rb,List.getD_cons_zero,wt,bd,fk,U_];omega
 |s::S,a+1,h=>by
  have:=xh v S a (su h);simp only[FQ,List.getD_cons_succ,wt,bd,fk] at this ⊢;omega
theorem xJ{n:Nat}:∀{S:List Int},(∀v∈S,0<=v∧v<256)->wt S<=S.length*255
 |[],_=>by simp[wt]
 |s::S,h=>by
  have d:=h s sy;have b:=xJ (n:=n) (S:=S) λv a=>h v (sh a);simp only[wt,bd,fk,ao,oL] at b ⊢;omega
theorem xI(M x S:List Int)(F:Bool)(n:Nat)(V:∀y∈x,0<=y∧y<(n:Int))(R:msk n M)(O:msk n S):
  ∃p f,forI (fs M) x 0 (S,F)=some (.inl (p,f))∧msk n p∧(∀a b,bo p a b<->bo S a b∧((a:Int)∈x->bo M a b))∧((p=S∧f=F)∨(f=true∧wt p<wt S)):=by
 obtain⟨⟨p,f⟩,C,t,J,Q⟩:=lJ (ρ:=List Int×Bool) (body:=fs M) (λj K=>msk n K.1∧(∀a b,bo K.1 a b<->bo S a b∧((∃i,i<j∧x[i]? =some (a:Int))->bo M a b))∧((K.1=S∧K.2=F)∨(K.2=true∧wt K.1<wt S))) x (S,F)
  ⟨O,λa b=>⟨λh=>⟨h,λ⟨i,hi,_⟩=>om⟩,λh=>h.1⟩,.inl ⟨rfl,rfl⟩⟩ (λj v K G q=>by
  obtain⟨K,W⟩:=K;obtain⟨q,N,s⟩:=q;simp only at q N s;have T:=V v (aE G);obtain⟨g,rfl⟩:∃g:Nat,v=(g:Int):=⟨v.toNat,(co T.1).symm⟩;obtain⟨k,Y,H,o⟩:=q.at (a:=g) om;obtain⟨m,L,I,A⟩:=R.at (a:=g) om;have U:=q.1;have D:k&&&m<=k:=yo;have w:∀a b,(bo K a b∧(a=g->bo M a b))<->bo S a b∧((∃i,i<j+1∧x[i]? =some (a:Int))->bo M a b):=λa b=>by
   rw[N];constructor
   ·rintro⟨⟨C,t⟩,J⟩;refine⟨C,λ⟨i,hi,d⟩=>?_⟩;by_cases e:i=j
    ·subst e;rw[G] at d;have:=Option.some.inj d;exact J om
    ·exact t ⟨i,om,d⟩
   ·rintro⟨C,t⟩;exact⟨⟨C,λ⟨i,hi,d⟩=>t ⟨i,om,d⟩⟩,λe=>by subst e;exact t ⟨j,om,G⟩⟩
  unfold fs;simp only
  rw[aq,aq,H,sb,I,sb,sb,lQ om om];by_cases e:k&&&m=k
  ·refine⟨(K,W),by rw[if_neg (sh e)],q,λa b=>?_,s⟩;rw[<-w];refine⟨λh=>⟨h,λB=>?_⟩,λh=>h.1⟩;subst B;have u:bo K a b:=h;unfold bo at u ⊢;rw[o,U_] at u;rw[A,U_];rw[<-e,mE,aW] at u;exact u.2
  ·have X:k&&&m<k:=yn D e;have E:=xh (k&&&m) K g om;rw[o,U_] at E;refine⟨(K.set g ((k&&&m:Nat):Int),true),?_,q.set _ om,λa b=>?_,.inr ⟨rfl,?_⟩⟩
   ·rw[if_pos (by simp;omega),sb,sb,sb,lQ om om,cC _ _ _ om,sb]
   ·show bo (K.set g ((k&&&m:Nat):Int)) a b<->_;rw[<-w,qB om];by_cases B:a=g
    ·subst B;rw[if_pos rfl,mE,aW];unfold bo;rw[o,A,U_,U_];exact⟨λh=>⟨h.1,λ_=>h.2⟩,λh=>⟨h.1,h.2 rfl⟩⟩
    ·rw[if_neg B];exact⟨λh=>⟨h,λu=>absurd u B⟩,λh=>h.1⟩
   ·show wt (K.set g ((k&&&m:Nat):Int))<wt S;rcases s with⟨s,_⟩|⟨_,s⟩
    ·rw[s] at E;rw[s];omega
    ·omega)
 refine⟨p,f,C,t,λa b=>?_,Q⟩;rw[J];refine and_congr_right λ_=>⟨λh L=>?_,λh ⟨i,hi,d⟩=>h (aE d)⟩;obtain⟨i,hi⟩:=bS.1 L;exact h ⟨i,(Y_.1 hi).1,hi⟩
structure Fnd (X:al) (n L D:Nat):Prop where
  hn:X.p.Labels=(n:Int)
  hL:X.q.Labels=(L:Int)
  n8:n<=8
  L1:1<=L
  L8:L<=8
  D4:D<=4
  cN:∀x∈X.p.Nodes,x.length=D∧∀y∈x,0<=y∧y<(n:Int)
  cE:∀x∈X.p.Edges,x.length=2∧∀y∈x,0<=y∧y<(n:Int)
  sN:X.p.Nodes.length<=100000000
  sE:X.p.Edges.length<=100000000
  tN:X.nodes=retV X.q.Nodes L D
  tE:X.edges=retV X.q.Edges L 2
def vmap(p q:c_)(f:List Int):Prop:=(∀x∈p.Nodes,srt (imgL f x)∈q.Nodes)∧∀x∈p.Edges,srt (imgL f x)∈q.Edges
def stab(X:al)(L:Nat)(S:List Int):Prop:=(∀x∈X.p.Edges,∀a b:Nat,(a:Int)∈x->bo S a b->supp L x S (λy=>srt y∈X.q.Edges) a b)∧∀x∈X.p.Nodes,∀a b:Nat,(a:Int)∈x->bo S a b->supp L x S (λy=>srt y∈X.q.Nodes) a b
def goodK(X:al)(k:Nat)(y:List Int):Prop:=if k<X.p.Edges.length then srt y∈X.q.Edges else srt y∈X.q.Nodes
theorem vz(n:Nat):msk n (List.replicate n 0):=⟨cd,λv a=>by rw[(yt.1 a).2];decide⟩
theorem wy(n a b:Nat):¬bo (List.replicate n 0) a b:=by
 unfold bo;rw[ax,gh];split<;>simp
theorem Fc(X:al){n L D:Nat}(h:Fnd X n L D)(e:Nat)(K:100<=e)(k:Nat)(x:List Int)(t:(X.p.Edges++X.p.Nodes)[k]? =some x)(S:List Int)(s:Bool)(o:msk n S):
  ∃f d,eC e X (k:Int) x (S,s)=some (.go (f,d))∧msk n f∧(∀a b,bo f a b<->bo S a b∧((a:Int)∈x->supp L x S (goodK X k) a b))∧((f=S∧d=s)∨(d=true∧wt f<wt S)):=by
 have j:mk (Rz.z:Int) X.p.Labels=some (List.replicate n 0):=by
  have:=h.n8;unfold mk;rw[h.hn,if_pos om,U_];rfl
 by_cases m:k<X.p.Edges.length
 ·rw[bN m] at t;obtain⟨H,i⟩:=h.cE x (aE t);obtain⟨M,B,A,C⟩:=pQ X X.edges (λy=>srt y∈X.q.Edges) n L h.hL h.L8 x S i o om (λc I g=>by rw[h.tE];exact xl _ _ _ c g om) x.length e [] (List.replicate n 0) sy om sy (vz n);obtain⟨f,d,u,v,E,w⟩:=xI M x S s n i A o;refine⟨f,d,?_,v,λa b=>?_,w⟩
  ·unfold eC;rw[if_pos (su m),j,sb,B,sb,u,sb]
  ·rw[E];refine and_congr_right λ_=>imp_congr_right λ_=>?_;rw[C];have:goodK X k=λy=>srt y∈X.q.Edges:=by funext y;unfold goodK;rw[if_pos m]
   rw[this];exact⟨λF=>F.elim (λG=>absurd G (wy n a b)) id,.inr⟩
 ·rw[cj om] at t;obtain⟨H,i⟩:=h.cN x (aE t);have J:=h.D4;obtain⟨M,B,A,C⟩:=pQ X X.nodes (λy=>srt y∈X.q.Nodes) n L h.hL h.L8 x S i o om (λc I g=>by rw[h.tN];exact xl _ _ _ c g om) x.length e [] (List.replicate n 0) sy om sy (vz n);obtain⟨f,d,u,v,E,w⟩:=xI M x S s n i A o;refine⟨f,d,?_,v,λa b=>?_,w⟩
  ·unfold eC;rw[if_neg (su m),j,sb,B,sb,show mR M=fs M from rfl,u,sb]
  ·rw[E];refine and_congr_right λ_=>imp_congr_right λ_=>?_;rw[C];have:goodK X k=λy=>srt y∈X.q.Nodes:=by funext y;unfold goodK;rw[if_neg m]
   rw[this];exact⟨λF=>F.elim (λG=>absurd G (wy n a b)) id,.inr⟩
theorem xE{n L:Nat}{f S g:List Int}(h:inS n L f S)(i:∀a b:Nat,a<n->f.getD a 0=(b:Int)->bo S a b->bo g a b):inS n L f g:=
 ⟨h.1,λa d=>by obtain⟨b,j,e,k⟩:=h.2 a d;exact⟨b,j,e,i a b d e k⟩⟩
theorem BQ{X:al}{f:List Int}(b:vmap X.p X.q f){k:Nat}{x:List Int}(a:(X.p.Edges++X.p.Nodes)[k]? =some x):goodK X k (imgL f x):=by
 unfold goodK;split
 ·rename_i d;rw[bN d] at a;exact b.2 x (aE a)
 ·rename_i d;rw[cj om] at a;exact b.1 x (aE a)
theorem EH{X:al}{n L D:Nat}(h:Fnd X n L D){k:Nat}{x:List Int}(b:(X.p.Edges++X.p.Nodes)[k]? =some x):∀y∈x,0<=y∧y<(n:Int):=by
 rcases bX.1 (aE b) with a|a
 ·exact(h.cE x a).2
 ·exact(h.cN x a).2
structure Rnd (X:al) (n L:Nat) (S S1:List Int):Prop where
  m:msk n S1
  sub:∀a b,bo S1 a b->bo S a b
  keep:∀f,vmap X.p X.q f->inS n L f S->inS n L f S1
theorem wu(X:al){n L D:Nat}(h:Fnd X n L D)(g:Nat)(U:100<=g)(S:List Int)(N:msk n S):
  ∃m d,forI (eC g X) (X.p.Edges++X.p.Nodes) 0 (S,false)=some (.inl (m,d))∧Rnd X n L S m∧((m=S∧d=false∧stab X L S)∨(d=true∧wt m<wt S)):=by
 obtain⟨⟨m,d⟩,W,R,V⟩:=lJ (ρ:=List Int×Bool) (body:=eC g X) (λj K=>Rnd X n L S K.1∧((K.1=S∧K.2=false∧∀i x,i<j->(X.p.Edges++X.p.Nodes)[i]? =some x->∀a b:Nat,(a:Int)∈x->bo S a b->supp L x S (goodK X i) a b)∨(K.2=true∧wt K.1<wt S))) (X.p.Edges++X.p.Nodes) (S,false)
  ⟨⟨N,λa b h=>h,λf _ h=>h⟩,.inl ⟨rfl,rfl,λi x hi=>om⟩⟩ (λj x K A Y=>by
  obtain⟨K,Z⟩:=K;obtain⟨⟨w,I,M⟩,o⟩:=Y;simp only at w I M o;obtain⟨m,d,O,Q,G,T⟩:=Fc X h g U j x A K Z w;refine⟨(m,d),O,⟨Q,λa b k=>I a b ((G a b).1 k).1,λf J hi=>?_⟩,?_⟩
  ·have hi':=M f J hi;exact xE hi' λa b s H k=>(G a b).2 ⟨k,λw=>Dc (EH h A) hi' (BQ J A) w H⟩
  ·simp only
   rcases T with⟨v,t⟩|⟨v,t⟩
   ·subst v;subst t;rcases o with⟨v,t,B⟩|o
    ·subst v;refine .inl ⟨rfl,t,λi y hi C a b s k=>?_⟩;by_cases e:i=j
     ·subst e;rw[A] at C;cases C
      exact((G a b).1 k).2 s
     ·exact B i y om C a b s k
    ·exact .inr o
   ·refine .inr ⟨v,?_⟩;rcases o with⟨o,_⟩|⟨_,o⟩
    ·rwa [o] at t
    ·omega)
 refine⟨m,d,W,R,V.imp (λ⟨v,t,B⟩=>⟨v,t,⟨λx E a b s k=>?_,λx E a b s k=>?_⟩⟩) id⟩
 ·obtain⟨i,hi⟩:=bS.1 E;have u:=(Y_.1 hi).1;have:=B i x (by simp;omega) (by rw[bN u];exact hi) a b s k;have F:goodK X i=λy=>srt y∈X.q.Edges:=by funext y;unfold goodK;rw[if_pos u]
  rwa [F] at this
 ·obtain⟨i,hi⟩:=bS.1 E;have u:=(Y_.1 hi).1;have:=B (X.p.Edges.length+i) x (by simp;omega) (by rw[cj om,FA];exact hi) a b s k;have F:goodK X (X.p.Edges.length+i)=λy=>srt y∈X.q.Nodes:=by funext y;unfold goodK;rw[if_neg om]
  rwa [F] at this
theorem Da(X:al){n L D:Nat}(h:Fnd X n L D)(g:Nat)(k:100<=g):∀(w:Nat)(S:List Int)(d:Nat),msk n S->wt S<=w->w+2<d->
  ∃e,loopF (cV g X) d (S,true)=some (.inl (e,false))∧Rnd X n L S e∧stab X L e:=by
 intro w
 induction w with
 | zero=>
  intro S d u M J;obtain⟨m,rfl⟩:∃m,d=m+2:=⟨d-2,om⟩;obtain⟨e,q,C,i,B⟩:=wu X h g k S u;rcases B with⟨j,o,A⟩|⟨j,o⟩
  ·subst j;subst o;have H:=h.sN;have G:=h.sE;refine⟨e,?_,i,A⟩;have v:cat ([]:List (List Int)) X.p.Edges=some X.p.Edges:=fV _ om;have x:cat X.p.Edges X.p.Nodes=some (X.p.Edges++X.p.Nodes):=by unfold cat;rw[if_pos om]
   have s:cV g X (e,true)=some (.go (e,false)):=by
    unfold cV;simp only[if_true];rw[v,sb,x,sb,C,sb]
   have t:cV g X (e,false)=some (.out (e,false)):=by
    unfold cV;simp
   simp only[loopF,s,t]
  ·omega
 | succ w ih=>
  intro S d u M J;obtain⟨m,rfl⟩:∃m,d=m+2:=⟨d-2,om⟩;obtain⟨e,q,C,i,B⟩:=wu X h g k S u;have H:=h.sN;have G:=h.sE;have v:cat ([]:List (List Int)) X.p.Edges=some X.p.Edges:=fV _ om;have x:cat X.p.Edges X.p.Nodes=some (X.p.Edges++X.p.Nodes):=by unfold cat;rw[if_pos om]
  have s:cV g X (S,true)=some (.go (e,q)):=by
   unfold cV;simp only[if_true];rw[v,sb,x,sb,C,sb]
  have t:cV g X (e,false)=some (.out (e,false)):=by
   unfold cV;simp
  rcases B with⟨j,o,A⟩|⟨j,o⟩
  ·subst j;subst o;exact⟨e,by simp only[loopF,s,t],i,A⟩
  ·subst j;obtain⟨K,E,y,N⟩:=ih e (m+1) i.m om om;exact⟨K,by simp only[loopF,s] at E ⊢;exact E,⟨y.m,λa b I=>i.sub a b (y.sub a b I),λf F hi=>y.keep f F (i.keep f F hi)⟩,N⟩
theorem vj(X:al){n L D:Nat}(h:Fnd X n L D)(a:Nat)(o:3000<=a)(S:List Int)(d:msk n S):
  ∃b,gP a X S=some (b, !decide ((0:Int)∈b))∧Rnd X n L S b∧stab X L b:=by
 have m:=d.1;have k:=h.n8;have j:=xJ (n:=0) d.2;have e:S.length*255<=8*255:=qQ _ om;obtain⟨b,f,g,i⟩:=Da X h a om (wt S) S a d (K_ _) om;refine⟨b,?_,g,i⟩;unfold gP;rw[dm _ om,sb,f,sb];simp only
 rw[EA,sb]
def keptP(l m:List (List Int))(f:List Int):Prop:=∀x∈l,x.getD (x.length-1) 0=(f.length:Int)-1->srt (imgL f x)∈m
theorem uX{x:List Int}(a:x.Pairwise (·<=·)):∀y∈x,y<=x.getD (x.length-1) 0:=λy b=>by
 obtain⟨i,hi,rfl⟩:=Gp b;rw[ax,x_ om];simp only[dT];by_cases e:i=x.length-1
 ·subst e;exact N_ _
 ·exact(dw.1 a) i (x.length-1) hi om om
theorem DB{x:List Int}(h:x≠ []):x.getD (x.length-1) 0∈x:=by
 have a:0<x.length:=Gq.2 h;rw[ax,x_ om];exact aV _
theorem wV{P Q:List (List Int)}{g:List Int}{n:Nat}(u:g.length=n)(s:∀x∈P,x≠ []∧x.Pairwise (·<=·)∧∀y∈x,0<=y∧y<n)(o:∀k,k<n->keptP P Q (g.take (k+1))):∀x∈P,srt (imgL g x)∈Q:=λx h=>by
 obtain⟨q,m,i⟩:=s x h;have j:=i _ (DB q);have d:=uX m;generalize p:x.getD (x.length-1) 0=a at j d;have b:(g.take (a.toNat+1)).length=a.toNat+1:=by rw[aX];omega
 have:=o a.toNat om x h (by rw[p,b];omega);have e:imgL (g.take (a.toNat+1)) x=imgL g x:=by
  unfold imgL;refine jX λy f=>?_;have v:=d y f;have t:=i y f;rw[ax,bO,if_pos om,ax]
 rwa [e] at this
def chP(lists:List (List Int))(g:List Int->Bool)(k:Nat)(lab:List Int):Prop:=∃m,m.length=lists.length∧m.take k=lab.take k∧(∀(i:Nat) L a,k<=i->lists[i]? =some L->m[i]? =some a->a∈L)∧g m=true
theorem xA(f:List (List Int))(G:List Int->Option Bool)(g:List Int->Bool)(hG:∀m,m.length=f.length->G m=some (g m))(hl:f.length<=1000):∀(d k n:Nat)(j:List Int),k+d=f.length->d<n->j.length=f.length->
  ∃b t,cw n (k:Int) f G j=some (b,t)∧t.length=f.length∧t.take k=j.take k∧(b=true<->chP f g k j)
 | 0,k,n,j,hd,hf,o=>by
  obtain⟨q,rfl⟩:∃q,n=q+1:=⟨n-1,om⟩;refine⟨g j,j,?_,o,rfl,?_⟩
  ·unfold cw;rw[if_pos (by simp;omega),hG j o,sb]
  ·constructor
   ·intro h;exact⟨j,o,rfl,λi L a hi I _=>by have:=(Y_.1 I).1;omega,h⟩
   ·rintro⟨m,w,p,y,u⟩;rw[cu om,cu om] at p;rw[<-p];exact u
 | d+1,k,n,j,hd,hf,o=>by
  obtain⟨q,rfl⟩:∃q,n=q+1:=⟨n-1,om⟩;have hk:k<f.length:=om;obtain⟨L,I⟩:∃L,f[k]? =some L:=⟨_,x_ hk⟩;have one:∀(a:Int)(s:List Int),s.length=f.length->s.take k=j.take k->∃b s',eF (k:Int) f G (cw q) 0 a s=some (if b then .ret (true,s') else .go s')∧s'.length=f.length∧s'.take k=j.take k∧(b=true<->chP f g (k+1) (s.set k a)):=λa s H D=>by
   obtain⟨b,s',e1,Q,O,U⟩:=xA f G g hG hl d (k+1) q (s.set k a) om om (su H);refine⟨b,s',?_,Q,?_,U⟩
   ·unfold eF;rw[aq,x_ (show k<s.length by omega),sb,cC _ _ _ (show k<s.length by omega),sb,n_ om om,sb,show((k:Int)+1)=((k+1:Nat):Int) by omega,e1,sb];cases b<;>rfl
   ·have:=congrArg (List.take k) O;rw[fZ,fZ,eq om,yb (K_ _)] at this;rw[this,D]
  have v:∀(a:Int)(s:List Int),s.length=f.length->s.take k=j.take k->(chP f g (k+1) (s.set k a)<->∃m,m.length=f.length∧m.take k=j.take k∧m[k]? =some a∧(∀(i:Nat) L a,k+1<=i->f[i]? =some L->m[i]? =some a->a∈L)∧g m=true):=λa s H D=>by
   have ht:(s.set k a).take (k+1)=j.take k++[a]:=by
    rw[dv,yb (K_ _),D,FK om];rfl
   constructor
   ·rintro⟨m,w,p,y,u⟩;rw[ht,dv] at p;have F:m[k]? =some m[k]:=x_ om;rw[F] at p;obtain⟨u1,u2⟩:=List.append_inj p (by rw[aX,aX];omega);exact⟨m,w,u1,by rw[F];simpa using u2,y,u⟩
   ·rintro⟨m,w,p,y,u,T⟩;exact⟨m,w,by rw[ht,dv,p,y];rfl,u,T⟩
  have J:∀(xs pre:List Int)(i:Int)(s:List Int),pre++xs=L->s.length=f.length->s.take k=j.take k->(¬∃a∈pre,chP f g (k+1) (j.set k a))->
    ∃z,forI (eF (k:Int) f G (cw q)) xs i s=some z∧((∃s',z=.inl s'∧s'.length=f.length∧s'.take k=j.take k∧¬∃a∈L,chP f g (k+1) (j.set k a))∨(∃s',z=.inr (true,s')∧s'.length=f.length∧s'.take k=j.take k∧∃a∈L,chP f g (k+1) (j.set k a))):=by
   intro xs
   induction xs with
   |nil=>
    intro pre i s K R N h3;rw[bm] at K;subst K;exact⟨_,rfl,.inl ⟨s,rfl,R,N,h3⟩⟩
   | cons x xs ih=>
    intro pre i s K R N h3;obtain⟨b,s',e1,Q,O,U⟩:=one x s R N;have e1':eF (k:Int) f G (cw q) i x s=some (if b then .ret (true,s') else .go s'):=e1;have V:x∈L:=by rw[<-K];simp
    have e5:b=true<->chP f g (k+1) (j.set k x):=by rw[U,v x s R N,v x j o rfl]
    simp only[forI,e1'];cases b with
    |true=>exact⟨_,rfl,.inr ⟨s',rfl,Q,O,x,V,e5.1 rfl⟩⟩
    |false=>
     refine ih (pre++[x]) (i+1) s' (by rw[<-K];simp) Q O ?_;rintro⟨a,A,E⟩;rcases bX.1 A with A|A
     ·exact h3 ⟨a,A,E⟩
     ·rw[be.1 A] at E;exact absurd (e5.2 E) sy
  obtain⟨z,z1,z2⟩:=J L [] 0 j sy o rfl sy;have M:chP f g k j<->∃a∈L,chP f g (k+1) (j.set k a):=by
   constructor
   ·rintro⟨m,w,p,y,u⟩;have F:m[k]? =some m[k]:=x_ om;exact⟨m[k],y k L _ (K_ _) I F,(v _ j o rfl).2 ⟨m,w,p,F,λi L a hi=>y i L a om,u⟩⟩
   ·rintro⟨a,A,hc⟩;obtain⟨m,w,p,y,u,T⟩:=(v a j o rfl).1 hc;refine⟨m,w,p,λi L' b hi C Y=>?_,T⟩;by_cases e:i=k
    ·subst e;rw[I] at C;cases C;rw[y] at Y;cases Y;exact A
    ·exact u i L' b om C Y
  have B:cw (q+1) (k:Int) f G j=((forI (eF (k:Int) f G (cw q)) L 0 j)>>=λX=>match X with| .inl y15=>some (false,y15)| .inr r'=>some r'):=by
   conv=>lhs;unfold cw
   rw[if_neg (by simp;omega),aq,I,sb];all_goals rfl
  rw[B,z1,sb,M];rcases z2 with⟨s',rfl,W,S,Z⟩|⟨s',rfl,W,S,Z⟩
  ·exact⟨false,s',rfl,W,S,by simpa using Z⟩
  ·exact⟨true,s',rfl,W,S,by simpa using Z⟩
theorem so(e:Nat)(d:List (List Int))(G:List Int->Option Bool)(g:List Int->Bool)(q:∀m,m.length=d.length->G m=some (g m))(s:d.length<=1000)(t:d.length<e):
  ∃l b,iu e d G=some (l,b)∧(b=true<->∃m,m.length=d.length∧(∀(i:Nat) L a,d[i]? =some L->m[i]? =some a->a∈L)∧g m=true):=by
 obtain⟨b,f,o,x,v,j⟩:=xA d G g q s d.length 0 e (List.replicate d.length 0) om t sy;rw[show((0:Nat):Int)=0 from rfl] at o;have p:mk (Rz.z:Int) (d.length:Int)=some (List.replicate d.length 0):=by
  unfold mk;rw[if_pos om];rfl
 have u:chP d g 0 (List.replicate d.length 0)<->∃m,m.length=d.length∧(∀(i:Nat) L a,d[i]? =some L->m[i]? =some a->a∈L)∧g m=true:=
  ⟨λ⟨m,k,_,n,h⟩=>⟨m,k,λi L a=>n i L a (bj _),h⟩,λ⟨m,k,n,h⟩=>⟨m,k,sy,λi L a _=>n i L a,h⟩⟩
 rw[u] at j;unfold iu;rw[p,sb,o,sb];cases b with
 |true=>exact⟨f,true,by rfl,j⟩
 |false=>exact⟨[],false,by rfl,j⟩
end Go.Proofs.YtpefhaamcihneaaGreat
