/- Part 27 of what this claim rests on (pack.py). -/
import Derived.Test.YtpefhaamcihneaaGreatP14
import Derived.Test.YtpefhaamcihneaaGreatP26
namespace Go.Proofs.YtpefhaamcihneaaGreat
set_option linter.unusedSimpArgs false
set_option linter.unusedVariables false
section
theorem fY{n:Nat}(h:n<=9223372036854775807):ck (n:Int)=some (n:Int):=n_ om om
def digs(L:Nat):Nat->Nat->List Int
  |0,_=>[]
  |n+1,k=>((k%L:Nat):Int)::digs L n (k/L)
def valN(L:Nat):List Int->Nat
  |[]=>0
  |a::c=>a.toNat+L*valN L c
theorem cO(L:Nat):∀n k,(digs L n k).length=n
 |0,_=>rfl
 |n+1,k=>by unfold digs;rw[ao,cO L n]
theorem nF(L:Nat):∀n k,digs L (n+1) k=digs L n k++[((k/L^n%L:Nat):Int)]
 |0,k=>by simp[digs]
 |n+1,k=>by
  have ih:=nF L n (k/L);rw[rh] at ih;rw[show L^(n+1)=L*L^n by rw[dx,oY]];show((k%L:Nat):Int)::digs L (n+1) (k/L)=(((k%L:Nat):Int)::digs L n (k/L))++_;rw[ih];rfl
theorem oe{L:Nat}:∀c:List Int,(∀a∈c,0<=a∧a<(L:Int))->digs L c.length (valN L c)=c
 |[],_=>rfl
 |a::c,h=>by
  have e:=h a sy;have ih:=oe c λx d=>h x (sh d);have b:a.toNat<L:=om;rw[ao];unfold digs valN;rw[Nat.add_mul_mod_self_left,xP b,Nat.add_mul_div_left _ _ om,Gc b,an,ih,co e.1]
theorem uM(L:Nat):∀(c:List Int)(a:Int),valN L (c++[a])=valN L c+a.toNat*L^c.length
 |[],a=>by simp[valN]
 |x::c,a=>by
  rw[gi,ao];unfold valN;rw[uM L c a,Nat.mul_add,dx,qX];congr 2;rw[oY (L^c.length) L,<-Nat.mul_assoc,<-Nat.mul_assoc,oY L]
theorem dP{L:Nat}:∀c:List Int,(∀a∈c,0<=a∧a<(L:Int))->valN L c<L^c.length
 |[],_=>by simp[valN]
 |a::c,h=>by
  have f:=h a sy;have ih:=dP c λx e=>h x (sh e);have d:a.toNat<L:=om;rw[ao,dx];unfold valN;have b:L*(valN L c+1)<=L*L^c.length:=Gj L ih;rw[Nat.mul_add,cm] at b;rw[oY (L^c.length) L];omega
theorem cM{L k:Nat}(a:L<=8)(b:k<=4):L^k<=4096:=by
 have e:L^k<=8^k:=jV a k;have d:8^k<=8^4:=bF dc b;omega
theorem cY{L:Nat}(a:L<=8):2^L<=256:=by
 have:2^L<=2^8:=bF dc a;omega
noncomputable def aftN(p:c_)(key:Nat):Nat:=bitsP (λb=>inG p.Nodes (digs p.Labels.toNat (p.Degree.toNat-1) key++[(b:Int)])) p.Labels.toNat
noncomputable def nsV(p:c_):bv:=⟨p,(List.range (p.Labels.toNat^(p.Degree.toNat-1))).map λk=>((aftN p k:Nat):Int)⟩
theorem Da(p:c_)(L e:Nat)(a:p.Labels=(L:Int))(b:L<=8)(g:e<=3):forN (gU p) e 0 1=some (.inl ((L^e:Nat):Int)):=by
 have:=dj (body:=gU p) (λj=>((L^j:Nat):Int)) e (λj d=>by
  have f:=cM (k:=j+1) b om;unfold gU;rw[a,show((L^j:Nat):Int)*(L:Int)=((L^(j+1):Nat):Int) by rw[dx];exact(dX _ _).symm,n_ om om,sb])
 simpa using this
theorem Ce(p:c_)(L e a:Nat)(d:p.Labels=(L:Int))(g:1<=L)(h:a<=1000000):forN (gQ p) e 0 (List.replicate (e+1) 0,(a:Int))=some (.inl (digs L e a++[0],((a/L^e:Nat):Int))):=by
 have:=dj (body:=gQ p) (λj=>(digs L j a++List.replicate (e+1-j) 0,((a/L^j:Nat):Int))) e (λj i=>by
  have f:a/L^j/L<=a:=aH (jU _ _) (jU _ _);have b:List.replicate (e+1-j) (0:Int)=0::List.replicate (e+1-(j+1)) 0:=by
   rw[show e+1-j=(e+1-(j+1))+1 by omega,mu]
  unfold gQ;simp only
  unfold rem quo;rw[d,if_neg om,sb,b,mq _ _ _ _ (by rw[cO]),sb,oH _ _ _ _ _ (by rw[cO]),sb,if_neg om,
   show((a/L^j:Nat):Int).tdiv (L:Int)=((a/L^j/L:Nat):Int) from rfl,fY om,sb,
   show((a/L^j:Nat):Int).tmod (L:Int)=((a/L^j%L:Nat):Int) from rfl,nF,bC,dW,dx,rh])
 simpa [digs,fh] using this
theorem DV(d:Nat)(p:c_)(h:probB p=true)(t:p.Nodes.length<=1000000000)(u:p.Nodes.length<d)(L e a:Nat)(C:p.Labels=(L:Int))(q:p.Degree=((e+1:Nat):Int))(B:L<=8)(A:List Int)(m:a<A.length)(v:A[a]? =some 0):
  ∃y,forN (gW d p (a:Int)) L 0 (digs L e a++[0],A)=some (.inl (y,A.set a ((bitsP (λb=>inG p.Nodes (digs L e a++[(b:Int)])) L:Nat):Int))):=by
 have n:A.set a 0=A:=by
  refine fi λi=>?_;rw[db];by_cases e:a=i
  ·subst e;rw[if_pos rfl,if_pos m,v]
  ·rw[if_neg e]
 generalize o:(λb:Nat=>inG p.Nodes (digs L e a++[(b:Int)]))=P;have:=dj (body:=gW d p (a:Int)) (λj=>(digs L e a++[((j-1:Nat):Int)],A.set a ((bitsP P j:Nat):Int))) L (λj x=>by
  have s:=dO P j;have w:2^j<=256:=cY om;unfold gW;simp only
  rw[q,show(((e+1:Nat):Int)-1)=(e:Int) by omega,n_ (by have:=cO L e a;omega) (by
   have:=aO h;omega),sb,mq _ _ _ _ (by rw[cO]),sb,oH _ _ _ _ _ (by rw[cO]),sb,
   xk d p h _ (by rw[ar,cO,q];rfl) t u,sb]
  by_cases g:srt (digs L e a++[(j:Int)])∈p.Nodes
  ·have f:P j:=by rw[<-o];exact g
   have k:ix (A.set a ((bitsP P j:Nat):Int)) (a:Int)=some ((bitsP P j:Nat):Int):=by
    rw[aq,db,if_pos rfl,if_pos m]
   rw[if_pos (decide_eq_true g),k,sb,cP om,sb,sb,qq om om,cC _ _ _ (by rw[cG];exact m),sb,List.set_set,nN f,jW]
  ·have f:¬P j:=by rw[<-o];exact g
   rw[if_neg (su g),nV f,jW])
 refine⟨digs L e a++[((L-1:Nat):Int)],?_⟩;rw[<-this];simp[bitsP,n]
theorem Bh(n a K:Nat)(f:Nat->Int)(d:a=K)(g:K<n):((List.range n).map λk=>if k<K then f k else 0).set a (f a)=(List.range n).map λk=>if k<K+1 then f k else 0:=by
 subst d;refine fi λi=>?_;rw[db];by_cases e:a=i
 ·subst e;simp[g]
 ·rw[if_neg e];by_cases hi:i<n
  ·simp only[aZ,gl hi,cn];congr 1;by_cases b:i<a
   ·rw[if_pos b,if_pos om]
   ·rw[if_neg b,if_neg om]
  ·simp only[aZ];rw[cT (by simp;omega)];rfl
theorem zJ(a:Nat)(p:c_)(h:probB p=true)(o:p.Nodes.length<=1000000000)(x:p.Nodes.length<a):kM a p=some (nsV p):=by
 obtain⟨F,B,E,D,-,-⟩:=aO h;obtain⟨L,g⟩:∃L:Nat,p.Labels=(L:Int):=⟨p.Labels.toNat,om⟩;obtain⟨e,f⟩:∃e:Nat,p.Degree=((e+1:Nat):Int):=⟨p.Degree.toNat-1,om⟩;have q:=cM (L:=L) (k:=e) om om;have t:nsV p=⟨p,(List.range (L^e)).map λk=>((aftN p k:Nat):Int)⟩:=by
  unfold nsV;rw[g,f,U_,U_,jW]
 have j:∀k,aftN p k=bitsP (λb=>inG p.Nodes (digs L e k++[(b:Int)])) L:=λk=>by
  unfold aftN;rw[g,f,U_,U_,jW]
 have d:=dj (body:=ky a p) (λK=>(List.range (L^e)).map λk=>if k<K then((aftN p k:Nat):Int) else 0) (L^e) (λK m=>by
  obtain⟨y,w⟩:=DV a p h o x L e K g f om ((List.range (L^e)).map λk=>if k<K then((aftN p k:Nat):Int) else 0) (by simp;exact m) (sh m);unfold ky mk;rw[f,if_pos om,sb,show(((e+1:Nat):Int)-1)=(e:Int) by omega,n_ om om,sb,U_,U_];have n:=Ce p L e K g om om;rw[show(Rz.z:Int)=0 from rfl,show(ck (e:Int))=some (e:Int) from n_ om om,sb,n,sb];simp only
  rw[g,n_ om om,sb,U_,w,sb];simp only
  rw[<-j,Bh _ _ _ (λk=>((aftN p k:Nat):Int)) rfl m])
 unfold kM mk;rw[f,show(((e+1:Nat):Int)-1)=(e:Int) by omega,n_ om om,sb,show(ck (e:Int))=some (e:Int) from n_ om om,sb,U_,Da p L e g om om,sb];simp only
 rw[if_pos om,sb,cd,U_,n_ om om,sb,U_];have v:List.replicate (L^e) (Rz.z:Int)=(List.range (L^e)).map λk=>if k<0 then((aftN p k:Nat):Int) else 0:=by
  refine dr sy λi A C=>?_;simp;rfl
 rw[v,d,sb,t];have u:((List.range (L^e)).map λk=>if k<L^e then((aftN p k:Nat):Int) else 0)=(List.range (L^e)).map λk=>((aftN p k:Nat):Int):=by
  refine jX λk s=>?_;rw[if_pos (aS.1 s)]
 rw[u,<-f]
theorem uR{P Q:Nat->Prop}(n:Nat):bitsP P n&&&bitsP Q n=bitsP (λb=>P b∧Q b) n:=by
 refine ri λb=>?_;rw[mE,oV,aW,jh,jh,jh];exact⟨λ⟨a,d⟩=>⟨a.1,a.2,d.2⟩,λ⟨a,d,e⟩=>⟨⟨a,d⟩,a,e⟩⟩
theorem qr{P:Nat->Prop}{n o:Nat}(f:o<2^n)(h:∀b,b<n->P b):o&&&bitsP P n=o:=by
 refine ri λb=>?_;rw[mE];cases e:o.testBit b
 ·rfl
 ·have a:b<n:=by
   refine oK λd=>?_;have:=rg (bh f (bF dc d));rw[this] at e;cases e
  rw[oU];exact(jh P n b).2 ⟨a,h b a⟩
noncomputable def cmP(L:Nat)(N:List (List Int))(c0:List Int)(SS:List Nat):Nat:=bitsP (λb=>∀c,cho SS c->inG N (c0++c++[(b:Int)])) L
theorem wQ(L:Nat)(N:List (List Int))(a:List Nat):cmP L N [] a=cmpl L (inG N) a:=rfl
theorem qv{S a L:Nat}(d:S<2^L)(h:S.testBit a=true):a<L:=by
 refine oK λb=>?_;have:=rg (bh d (bF dc b));rw[this] at h;cases h
theorem wD(p:c_)(L e:Nat)(H:p.Labels=(L:Int))(V:p.Degree=((e+1:Nat):Int))(F:L<=8)(he:e<=3)(sets:List Int)(M:∀s∈sets,0<=s∧s.toNat<2^L)(G:sets.length=e):
  ∀(d k f:Nat)(g:List Int)(o:Nat),k+d=e->d<f->g.length=k->(∀a∈g,0<=a∧a<(L:Int))->o<2^L->
  de f (k:Int) ((valN L g:Nat):Int) ((L^k:Nat):Int) sets (o:Int) (nsV p)=some (((o&&&cmP L p.Nodes g ((sets.drop k).map Int.toNat):Nat)):Int)
 | 0,k,f,g,o,hk,hf,y,m,X=>by
  obtain⟨f,rfl⟩:∃q,f=q+1:=⟨f-1,om⟩;have I:=cY F;have J:=dP g m;rw[y,show k=e by omega] at J;have t:ix (nsV p).after ((valN L g:Nat):Int)=some ((cmP L p.Nodes g []:Nat):Int):=by
   unfold nsV;simp only
   rw[H,V,U_,U_,jW,aq,aZ,gl J,cn];unfold aftN cmP;rw[H,V,U_,U_,jW];congr 2;refine eS L λb _=>?_;have Y:=oe g m;rw[y,show k=e by omega] at Y;rw[Y];constructor
   ·intro h c v;cases c with
    |nil=>rwa [bm]
    |cons a c=>exact v.elim
   ·intro h;have:=h [] trivial;rwa [bm] at this
  have hb:=dO (λb=>∀c,cho [] c->inG p.Nodes (g++c++[(b:Int)])) L;unfold de;rw[if_pos (by simp;omega),t,sb,show sets.drop k=[] from Gi.2 om,eu,lP om (by unfold cmP;omega)]
 | d+1,k,f,g,o,hk,hf,y,m,X=>by
  obtain⟨f,rfl⟩:∃q,f=q+1:=⟨f-1,om⟩;have I:=cY F;have u:k<sets.length:=om;obtain⟨S,N⟩:∃S:Nat,sets[k]=(S:Int):=⟨sets[k].toNat,by have:=M _ (aV u);omega⟩;have R:S<2^L:=by have:=(M _ (aV u)).2;rw[N,U_] at this;exact this
  have n:(sets.drop k).map Int.toNat=S::(sets.drop (k+1)).map Int.toNat:=by
   rw[dt u,bd,N,U_]
  generalize W:(sets.drop (k+1)).map Int.toNat=E at n;have J:=dP g m;rw[y] at J;have Q:=cM (L:=L) (k:=k) F om;have hpk1:=cM (L:=L) (k:=k+1) F om;have i:=dj (body:=kf (k:Int) ((valN L g:Nat):Int) ((L^k:Nat):Int) sets (nsV p) (de f)) (λj=>((o&&&bitsP (λb=>∀a:Nat,a<j->S.testBit a=true->∀c,cho E c->inG p.Nodes (g++[(a:Int)]++c++[(b:Int)])) L:Nat):Int)) L (λj hj=>by
   have A:(bitsP (λb=>∀a:Nat,a<j+1->S.testBit a=true->∀c,cho E c->inG p.Nodes (g++[(a:Int)]++c++[(b:Int)])) L)=bitsP (λb=>∀a:Nat,a<j->S.testBit a=true->∀c,cho E c->inG p.Nodes (g++[(a:Int)]++c++[(b:Int)])) L&&&bitsP (λb=>S.testBit j=true->∀c,cho E c->inG p.Nodes (g++[(j:Int)]++c++[(b:Int)])) L:=by
    rw[uR];refine eS L λb _=>?_;constructor
    ·exact λh=>⟨λa t=>h a om,h j om⟩
    ·rintro⟨K,D⟩ a t;by_cases e:a=j
     ·subst e;exact D
     ·exact K a om
   rw[A,<-Nat.and_assoc];have w:o&&&bitsP (λb=>∀a:Nat,a<j->S.testBit a=true->∀c,cho E c->inG p.Nodes (g++[(a:Int)]++c++[(b:Int)])) L<2^L:=bP yo X;generalize (o&&&bitsP (λb=>∀a:Nat,a<j->S.testBit a=true->∀c,cho E c->inG p.Nodes (g++[(a:Int)]++c++[(b:Int)])) L)=Z at w ⊢;unfold kf;rw[bM _ _ u,sb,N,oi om,sb,vC om];cases hb:S.testBit j
   ·rw[if_neg sy,sb,if_neg sy,qr w sy]
   ·rw[if_pos rfl,sb];by_cases h0:Z=0
    ·subst h0;rw[if_neg sy,Nat.zero_and]
    ·have hjk:j*L^k<=8*4096:=mw om Q;have C:((valN L g:Nat):Int)+(j:Int)*((L^k:Nat):Int)=((valN L (g++[(j:Int)]):Nat):Int):=by
      rw[uM,y,U_,yp,dX]
     have B:((L^k:Nat):Int)*(L:Int)=((L^(k+1):Nat):Int):=by rw[dx];exact(dX _ _).symm
     have U:(j:Int)*((L^k:Nat):Int)=((j*L^k:Nat):Int):=(dX _ _).symm;have x:∀a∈g++[(j:Int)],0<=a∧a<(L:Int):=λa t=>by
      rcases bX.1 t with t|t
      ·exact m a t
      ·rw[be.1 t];omega
     have O:=dP _ x;rw[ar,y,bn] at O;rw[if_pos (su h0),n_ om om,sb,show ck ((j:Int)*((L^k:Nat):Int))=some ((j:Int)*((L^k:Nat):Int)) from n_ om om,sb,C,n_ om om,sb,
      show(nsV p).p.Labels=(L:Int) from H,B,n_ om om,sb,show((k:Int)+1)=((k+1:Nat):Int) by omega,
      wD p L e H V F he sets M G d (k+1) f (g++[(j:Int)]) Z om om (by rw[ar,y];rfl) x w,sb,W]
     congr 4;unfold cmP;exact eS L λb _=>⟨λh _=>h,λh=>h rfl⟩)
  unfold de;rw[if_neg (by simp;omega),show(nsV p).p.Labels=(L:Int) from H,n_ om om,sb,U_];rw[qr X sy] at i;rw[i,sb,n];simp only
  congr 3;unfold cmP;refine eS L λb _=>?_;constructor
  ·intro h c v;cases c with
   |nil=>exact v.elim
   |cons a c=>
    obtain⟨⟨K,D⟩,T⟩:=v;have:=h a.toNat (qv R D) D c T;rw[co K,bC g] at this;exact this
  ·intro h a t D c T;have:=h ((a:Int)::c) ⟨⟨om,by rw[U_];exact D⟩,T⟩;rw[bC g [(a:Int)] c];exact this
theorem sw(a:Nat)(p:c_)(h:probB p=true)(t:10<=a)(sets:List Int)(f:∀s∈sets,0<=s∧s.toNat<2^p.Labels.toNat)(g:(sets.length:Int)+1=p.Degree):gB a (nsV p) sets=some (cmI p.Labels.toNat p.Nodes sets):=by
 obtain⟨u,n,q,o,-,-⟩:=aO h;obtain⟨L,d⟩:∃L:Nat,p.Labels=(L:Int):=⟨p.Labels.toNat,om⟩;obtain⟨e,j⟩:∃e:Nat,p.Degree=((e+1:Nat):Int):=⟨p.Degree.toNat-1,om⟩;rw[d,U_] at f ⊢;have m:1<=2^L:=gp;have i:=cY (L:=L) om;have:=wD p L e d j om om sets f om e 0 a [] (2^L-1) om om rfl sy om;unfold gB;rw[show(nsV p).p.Labels=(L:Int) from d,cP om,sb,show(((2^L:Nat):Int)-1)=((2^L-1:Nat):Int) by omega,n_ om om,sb];rw[show((valN L []:Nat):Int)=0 from rfl,show((L^0:Nat):Int)=1 by simp,show((0:Nat):Int)=0 from rfl] at this;rw[this,sb,wQ,aG];unfold cmI;congr 2;refine ri λb=>?_;rw[mE,yq];cases k:(cmpl L (inG p.Nodes) (sets.map Int.toNat)).testBit b
 ·simp
 ·have:=((jh _ L b).1 k).1;simp[this]
theorem lO(xs:List Int)(h:xs.length<=1000000000):dZ xs=some xs:=by
 unfold dZ;rw[fV _ h,sb]
theorem uD{body:Int->Unit->Option (Lp Unit Unit Bool)}(B:Nat->Prop):∀(n k:Nat),(∀j,j<n->(B (k+j)∧body ((k+j:Nat):Int) ()=some (.go ()))∨(¬B (k+j)∧body ((k+j:Nat):Int) ()=some (.ret false)))->
  (forN body n (k:Int) ()=some (.inl ())∧∀j,j<n->B (k+j))∨(forN body n (k:Int) ()=some (.inr false)∧∃j,j<n∧¬B (k+j))
 |0,k,h=> .inl ⟨rfl,by simp⟩
 | n+1,k,h=>by
  rcases h 0 (by omega) with⟨b,a⟩|⟨b,a⟩
  ·simp only[dd] at b a;have ih:=uD (body:=body) B n (k+1) (λj f=>by have:=h (j+1) om;rw[show k+(j+1)=k+1+j by omega] at this;exact this);simp only[forN,a];rw[show((k:Int)+1)=((k+1:Nat):Int) by omega];rcases ih with⟨d,e⟩|⟨d,j,e,g⟩
   ·refine .inl ⟨d,λj f=>?_⟩;cases j with
    |zero=>exact b
    |succ j=>have:=e j om;rwa [show k+1+j=k+(j+1) by omega] at this
   ·exact .inr ⟨d,j+1,om,by rwa [show k+(j+1)=k+1+j by omega]⟩
  ·simp only[dd] at b a;refine .inr ⟨?_,0,om,b⟩;simp only[forN,a]
open Classical in
theorem DE(fuel:Nat)(p:c_)(h:probB p=true)(hf:10<=fuel)(l:List Int)(hl:∀s∈l,0<=s∧s.toNat<2^p.Labels.toNat)(hlen:(l.length:Int)=p.Degree):kx fuel (nsV p) l=some (decide (fullI p.Labels.toNat p.Nodes l)):=by
  obtain⟨g1,g2,g3,g4,-,-⟩:=aO h
  have key:=uD (body:=gD fuel (nsV p) l) (λi=>∀x,l[i]? =some x->cmI p.Labels.toNat p.Nodes (l.eraseIdx i)=x) l.length 0 (λj hj=>by
    have hb:gD fuel (nsV p) l ((0+j:Nat):Int) ()=if cmI p.Labels.toNat p.Nodes (l.eraseIdx j) !=l[j] then some (.ret false) else some (.go ()):=by
      unfold gD
      rw[an,lO _ om,sb,n_ om om,sb]
      unfold delO
      rw[if_pos om,sb,U_,show((j:Int)+1).toNat=j+1 by omega,<-yk,sw fuel p h hf (l.eraseIdx j) (λs hs=>hl s (Gk hs)) (by rw[Gl,if_pos hj];omega),sb,bM _ _ hj,sb]
    rw[hb,an,x_ hj]
    by_cases e:cmI p.Labels.toNat p.Nodes (l.eraseIdx j)=l[j]
    · exact .inl ⟨λx hx=>by cases hx;exact e,by rw[if_neg (su e)]⟩
    · exact .inr ⟨λhh=>e (hh _ rfl),by rw[if_pos (su e)]⟩)
  simp only[an] at key
  rw[show((0:Nat):Int)=0 from rfl] at key
  unfold kx
  rw[n_ om om,sb,U_]
  rcases key with⟨h1,h2⟩|⟨h1,j,h2,h3⟩
  · rw[h1,sb]
    have:fullI p.Labels.toNat p.Nodes l:=λi x hx=>h2 i (Y_.1 hx).1 x hx
    simp[this]
  · rw[h1,sb]
    have:¬fullI p.Labels.toNat p.Nodes l:=λhh=>h3 (hh j)
    simp[this]
theorem sK(n d b:Nat)(M:n<=1000000)(L:d<=1000)(D:∀k,k<=d->n^k<=1000000000)(N:n+d<b):iR b (n:Int) (d:Int)=some (msD n d):=by
 have y:∀j,j<d->ij b (n:Int) (j:Int) (msD n j)=some (.go (msD n (j+1))):=λj J=>by
  have o:(msD n (j+1)).length<=1000000000:=aH (ep n (j+1)) (D (j+1) om);have s:=eh (body:=kE b (n:Int)) (extD n) 1000000000 (msD n j) 0 [] (by simpa [msD] using o) (λx H k v g=>by
   have e:=(cR n j x).1 H;have C:(x.getLastD 0).toNat<=n->∀(f:List (List Int)×Int->Option (Lp (List (List Int)×Int) (List (List Int)×Int) (List (List Int)))),(f=il (n:Int) x∨f=fy (n:Int) x)->
     loopF f b (v,(((x.getLastD 0).toNat:Nat):Int))=some (.inl (v++extD n x,(n:Int))):=λI f m=>by
    unfold extD at g ⊢;rw[aA,yg] at g;refine pY (x:=x) (n:=n) (λw k A B=>?_) (λw=>?_) _ _ b v om om g
    ·rcases m with rfl|rfl
     ·unfold il;simp only
      rw[if_pos (su A),lO x (by rw[e.1];omega),sb];unfold push;rw[if_pos (by rw[e.1];omega),sb,if_pos B,sb,n_ om om,sb];rfl
     ·unfold fy;simp only
      rw[if_pos (su A),lO x (by rw[e.1];omega),sb];unfold push;rw[if_pos (by rw[e.1];omega),sb,if_pos B,sb,n_ om om,sb];rfl
    ·rcases m with rfl|rfl
     ·unfold il;simp only
      rw[if_neg sy]
     ·unfold fy;simp only
      rw[if_neg sy]
   have G:=wM e;unfold kE;by_cases F:0<j
   ·obtain⟨i,rfl⟩:∃i,j=i+1:=⟨j-1,om⟩;have K:x.getLastD 0<(n:Int):=by
     rcases gm x with rfl|⟨u,a,rfl⟩
     ·have:=e.1;simp at this
     ·have:=e.2.2 a sy;rw[gn,jT];exact this.2
    have E:=e.1;rw[if_pos (decide_eq_true om),n_ om om,sb,show((x.length:Int)-1)=(i:Int) by omega,qk e.1,sb];have p:=C om _ (.inl rfl);rw[co G] at p;rw[p,sb]
   ·have t:j=0:=om;subst t;have q:x=[]:=cD e.1;subst q;rw[if_neg sy];have p:=C sy (fy (n:Int) []) (.inr rfl);simp only[Gh,xZ,ym] at p;rw[p,sb])
  unfold ij;rw[s,sb];rfl
 have h:=dj (body:=ij b (n:Int)) (λj=>msD n j) d y;unfold iR;rw[n_ om om,sb,U_,show([[]]:List (List Int))=msD n 0 from rfl,h,sb]
end
section
def tabV(p:c_):bQ:=⟨p,(List.range (p.Labels.toNat^p.Degree.toNat)).map λn=>decide (srt (digs p.Labels.toNat p.Degree.toNat n)∈p.Nodes)⟩
theorem sI{α:Type}(z:α)(n a K:Nat)(f:Nat->α)(d:a=K)(g:K<n):((List.range n).map λk=>if k<K then f k else z).set a (f a)=(List.range n).map λk=>if k<K+1 then f k else z:=by
 subst d;refine fi λi=>?_;rw[db];by_cases e:a=i
 ·subst e;simp[g]
 ·rw[if_neg e];by_cases hi:i<n
  ·simp only[aZ,gl hi,cn];congr 1;by_cases b:i<a
   ·rw[if_pos b,if_pos om]
   ·rw[if_neg b,if_neg om]
  ·simp only[aZ];rw[cT (by simp;omega)];rfl
theorem Bt(p:c_)(L D n a:Nat)(e:p.Labels=(L:Int))(k:1<=L)(b:p.Degree=(D:Int))(g:D<=4)(m:n<=1000000)(q:10<=a):loopF (fA p) a ([],(n:Int))=some (.inl (digs L D n,((n/L^D:Nat):Int))):=by
 have h:=di (f:=fA p) (λj=>(digs L j n,((n/L^j:Nat):Int))) D (λj o=>by
  have i:n/L^j/L<=n:=aH (jU _ _) (jU _ _);have d:=cO L j n;unfold fA;simp only
  unfold rem quo push;rw[b,e,if_pos (by simp;omega),if_neg om,sb,if_pos om,sb,if_neg om,show((n/L^j:Nat):Int).tdiv (L:Int)=((n/L^j/L:Nat):Int) from rfl,fY om,sb,
   show((n/L^j:Nat):Int).tmod (L:Int)=((n/L^j%L:Nat):Int) from rfl,nF,dx,rh]) (by
  unfold fA;simp only
  rw[b,if_neg (by simp[cO])]) a 0 om om
 simpa [digs] using h
theorem Bm(a:Nat)(y:100<=a)(p:c_)(o:1<=p.Labels∧p.Labels<=8)(v:0<=p.Degree∧p.Degree<=4):ll a p=some (tabV p):=by
 obtain⟨L,e⟩:∃L:Nat,p.Labels=(L:Int):=⟨p.Labels.toNat,om⟩;obtain⟨D,d⟩:∃D:Nat,p.Degree=(D:Int):=⟨p.Degree.toNat,om⟩;have n:=cM (L:=L) (k:=D) om om;have h:=di (f:=iz p) (λj=>(((L^j:Nat):Int),(j:Int))) D (λj m=>by
  have w:=cM (L:=L) (k:=j+1) om om;unfold iz;simp only
  rw[d,e,if_pos (su m),show((L^j:Nat):Int)*(L:Int)=((L^(j+1):Nat):Int) by rw[dx];exact(dX _ _).symm,n_ om om,sb,n_ om om,sb];rfl) (by
  unfold iz;simp only
  rw[d,if_neg sy]) a 0 om om
 have b:=dj (body:=kI a p) (λK=>(List.range (L^D)).map λk=>if k<K then decide (srt (digs L D k)∈p.Nodes) else false) (L^D) (λK g=>by
  have t:=cO L D K;unfold kI;rw[Bt p L D K a e om d om om om,sb];simp only
  rw[CZ a p _ om om,sb,bM _ _ (by simp;exact g),sb,cC _ _ _ (by simp;exact g),sb,sI false _ _ _ (λk=>decide (srt (digs L D k)∈p.Nodes)) rfl g])
 unfold ll mk;rw[show((1:Int),(0:Int))=(((L^0:Nat):Int),((0:Nat):Int)) by simp,h,sb];simp only
 rw[if_pos om,sb,cd,U_,n_ om om,sb,U_];have u:List.replicate (L^D) (Rz.z:Bool)=(List.range (L^D)).map λk=>if k<0 then decide (srt (digs L D k)∈p.Nodes) else false:=by
  refine dr sy λi h x=>?_;simp;rfl
 rw[u,b,sb];unfold tabV;have s:((List.range (L^D)).map λk=>if k<L^D then decide (srt (digs L D k)∈p.Nodes) else false)=(List.range (L^D)).map λk=>decide (srt (digs L D k)∈p.Nodes):=by
  refine jX λk q=>?_;rw[if_pos (aS.1 q)]
 rw[s];simp only[e,d,U_];rw[<-e,<-d]
theorem EP(p:c_)(L D:Nat)(g:p.Labels=(L:Int))(h:p.Degree=(D:Int))(c:List Int)(b:∀a∈c,0<=a∧a<(L:Int))(e:c.length=D):ix (tabV p).good ((valN L c:Nat):Int)=some (decide (srt c∈p.Nodes)):=by
 have f:=dP c b;rw[e] at f;have d:=oe c b;rw[e] at d;unfold tabV;simp only
 rw[g,h,U_,U_,aq,aZ,gl f,cn,d]
theorem CB(p:c_)(L e i:Nat)(C:p.Labels=(L:Int))(J:p.Degree=((e+1:Nat):Int))(B:L<=8)(N:e<=3)(O:10<=i)(d:List Int)(v:d.length=e)(A:∀a∈d,0<=a∧a<(L:Int)):
  loopF (fu (tabV p) ((valN L d.reverse:Nat):Int)) i (0,0)=some (.inl (((cmP L p.Nodes d []:Nat):Int),(L:Int))):=by
 have t:∀a∈d.reverse,0<=a∧a<(L:Int):=λa s=>A a (rj.1 s);have H:=dP _ t;rw[fj,v] at H;have I:=cM (L:=L) (k:=e) B om;have F:=cM (L:=L) (k:=e+1) B om;generalize E:(λb:Nat=>∀c,cho [] c->inG p.Nodes (d++c++[(b:Int)]))=P;have q:∀b:Nat,P b<->srt ((b:Int)::d.reverse)∈p.Nodes:=λb=>by
  rw[<-E];have g:(d++[]++[(b:Int)]).Perm ((b:Int)::d.reverse):=by
   rw[bm];exact FZ.trans ((Gm d).symm.cons (b:Int))
  constructor
  ·intro h;have:=h [] trivial;unfold inG at this;rwa [fN g] at this
  ·intro h c w;cases c with
   |nil=>unfold inG;rwa [fN g]
   |cons a c=>exact w.elim
 have h:=di (f:=fu (tabV p) ((valN L d.reverse:Nat):Int)) (λj=>(((bitsP P j:Nat):Int),(j:Int))) L (λj G=>by
  have x:=dO P j;have M:2^j<=256:=cY om;have m:∀a∈(j:Int)::d.reverse,0<=a∧a<(L:Int):=λa s=>by
   rcases I_.1 s with rfl|s
   ·omega
   ·exact t a s
  have y:=dP _ m;rw[ao,fj,v] at y;have o:((valN L d.reverse:Nat):Int)*(L:Int)+(j:Int)=((valN L ((j:Int)::d.reverse):Nat):Int):=by
   rw[show valN L ((j:Int)::d.reverse)=(j:Int).toNat+L*valN L d.reverse from rfl,U_,yp,dX,Int.mul_comm,Int.add_comm]
  have D:valN L d.reverse*L<=4096*8:=mw om B;have n:((valN L d.reverse:Nat):Int)*(L:Int)=((valN L d.reverse*L:Nat):Int):=(dX _ _).symm;unfold fu;simp only
  rw[show(tabV p).p.Labels=(L:Int) from C,if_pos (su G),show ck (((valN L d.reverse:Nat):Int)*(L:Int))=some (((valN L d.reverse:Nat):Int)*(L:Int)) by rw[n];exact fY om,sb,o,fY om,sb,
   EP p L (e+1) C J _ m (by rw[ao,fj,v]),sb]
  by_cases u:P j
  ·rw[if_pos (decide_eq_true ((q j).1 u)),cP om,sb,n_ om om,sb,n_ om om,sb,nN u,<-wX x];rfl
  ·rw[if_neg (by simpa using λK=>u ((q j).2 K)),n_ om om,sb,nV u];rfl) (by
  unfold fu;simp only
  rw[show(tabV p).p.Labels=(L:Int) from C,if_neg sy]) i 0 om om
 rw[show((0:Int),(0:Int))=(((bitsP P 0:Nat):Int),((0:Nat):Int)) from rfl,h];unfold cmP;rw[E]
theorem xG(p:c_)(L e:Nat)(G:p.Labels=(L:Int))(V:p.Degree=((e+1:Nat):Int))(F:L<=8)(U:e<=3):∀(sets:List Int)(d:Nat)(f:List Int),(∀s∈sets,0<=s∧s.toNat<2^L)->sets.length+20<d->f.length+sets.length=e->(∀a∈f,0<=a∧a<(L:Int))->
  cK d (tabV p) sets ((valN L f.reverse:Nat):Int)=some ((cmP L p.Nodes f (sets.map Int.toNat):Nat):Int)
 |[],d,f,J,M,I,n=>by
  obtain⟨d,rfl⟩:∃q,d=q+1:=⟨d-1,om⟩;unfold cK;rw[if_pos (by rfl),CB p L e d G V F U (by simp at M;omega) f (su I) n,sb];rfl
 | S::sets,d,f,J,M,I,n=>by
  rw[ao] at M I;obtain⟨d,rfl⟩:∃q,d=q+1:=⟨d-1,om⟩;have X:=cY F;have h1:1<=2^L:=gp;have T:=J S sy;have A:dG d S=some (lbs 8 S.toNat):=by
   have:=ny S.toNat d om;rwa [co T.1] at this
  have O:∀a∈f.reverse,0<=a∧a<(L:Int):=λa g=>n a (rj.1 g);have Z:=dP _ O;rw[fj] at Z;have hpk:=cM (L:=L) (k:=f.length) F om;have R:valN L f.reverse*L<=4096*8:=mw om F;have m:((valN L f.reverse:Nat):Int)*(L:Int)=((valN L f.reverse*L:Nat):Int):=(dX _ _).symm;generalize D:sets.map Int.toNat=w;have v:∀(xs:List Int)(k:Int)(o:Nat),(∀a∈xs,a∈lbs 8 S.toNat)->o<2^L->forI (gO (tabV p) (S::sets) ((valN L f.reverse:Nat):Int) (cK d)) xs k (o:Int)=some (.inl ((o&&&bitsP (λb=>∀a∈xs,∀c,cho w c->inG p.Nodes (f++[a]++c++[(b:Int)])) L:Nat):Int)):=by
   intro xs
   induction xs with
   |nil=>
    intro k o _ K;rw[qr K sy];rfl
   | cons a xs ih=>
    intro k o W K;obtain⟨i,rfl,hi8,B⟩:=ou.1 (W a sy);have hiL:i<L:=qv T.2 B;have C:∀x∈f++[(i:Int)],0<=x∧x<(L:Int):=λx j=>by
     rcases bX.1 j with j|j
     ·exact n x j
     ·rw[be.1 j];omega
    have u:bitsP (λb=>∀a∈(i:Int)::xs,∀c,cho w c->inG p.Nodes (f++[a]++c++[(b:Int)])) L=cmP L p.Nodes (f++[(i:Int)]) w&&&bitsP (λb=>∀a∈xs,∀c,cho w c->inG p.Nodes (f++[a]++c++[(b:Int)])) L:=by
     unfold cmP;rw[uR];refine eS L λb _=>?_;constructor
     ·exact λh=>⟨h _ sy,λa g=>h a (sh g)⟩
     ·rintro⟨Y,q2⟩ a g;rcases I_.1 g with rfl|g
      ·exact Y
      ·exact q2 a g
    have h0:gO (tabV p) (S::sets) ((valN L f.reverse:Nat):Int) (cK d) k (i:Int) (o:Int)=some (.go ((o&&&cmP L p.Nodes (f++[(i:Int)]) w:Nat):Int)):=by
     unfold gO;by_cases H:o=0
     ·subst H;rw[if_neg sy,Nat.zero_and]
     ·have t:((valN L f.reverse:Nat):Int)*(L:Int)+(i:Int)=((valN L (f++[(i:Int)]).reverse:Nat):Int):=by
       rw[Gn,List.reverse_singleton,dW];rw[show valN L ((i:Int)::f.reverse)=(i:Int).toNat+L*valN L f.reverse from rfl,U_,yp,dX,Int.mul_comm,Int.add_comm]
      have hnn:valN L (f++[(i:Int)]).reverse<=4096*8+8:=by
       have:((valN L (f++[(i:Int)]).reverse:Nat):Int)=((valN L f.reverse*L:Nat):Int)+(i:Int):=by rw[<-t,m]
       omega
      have hcl:=dO (λb=>∀c,cho w c->inG p.Nodes (f++[(i:Int)]++c++[(b:Int)])) L;rw[if_pos (by simp;omega),DH _ sy,sb,List.tail_cons,show(tabV p).p.Labels=(L:Int) from G,show ck (((valN L f.reverse:Nat):Int)*(L:Int))=some (((valN L f.reverse:Nat):Int)*(L:Int)) by rw[m];exact fY om,sb,t,fY om,sb,
       xG p L e G V F U sets d (f++[(i:Int)]) (λs Q=>J s (sh Q)) om (by rw[ar,bn];omega) C,sb,D,lP om (by unfold cmP;omega)]
    simp only[forI,h0];rw[ih (k+1) _ (λa g=>W a (sh g)) (bP yo K),u,Nat.and_assoc]
  unfold cK;rw[if_neg (by simp;omega),show(tabV p).p.Labels=(L:Int) from G,cP om,sb,show(((2^L:Nat):Int)-1)=((2^L-1:Nat):Int) by omega,n_ om om,sb,show ix (S::sets) 0=some S from rfl,sb,A,sb,v _ 0 _ (λa g=>g) om,sb];simp only
  congr 2;rw[bd,D];have E:∀z,z<2^L->(2^L-1)&&&z=z:=λz hz=>by
   refine ri λb=>?_;rw[mE,yq];cases hb:z.testBit b
   ·simp
   ·have:=qv hz hb;simp[this]
  rw[E _ (dO _ L)];unfold cmP;refine eS L λb _=>?_;constructor
  ·intro h c y;obtain⟨a,c',rfl,g,N⟩:=(lY om).1 y;have:=h a g c' N;rw[bC f] at this;exact this
  ·intro h a g c y;have:=h (a::c) ((lY om).2 ⟨a,c,rfl,g,y⟩);rw[bC f [a] c];exact this
theorem wR(a:Nat)(p:c_)(g:1<=p.Labels∧p.Labels<=8)(h:1<=p.Degree∧p.Degree<=4)(j:100<=a)(sets:List Int)(f:∀s∈sets,0<=s∧s.toNat<2^p.Labels.toNat)(b:(sets.length:Int)+1=p.Degree):cK a (tabV p) sets 0=some (cmI p.Labels.toNat p.Nodes sets):=by
 obtain⟨L,d⟩:∃L:Nat,p.Labels=(L:Int):=⟨p.Labels.toNat,om⟩;obtain⟨e,i⟩:∃e:Nat,p.Degree=((e+1:Nat):Int):=⟨p.Degree.toNat-1,om⟩;rw[d,U_] at f ⊢;have:=xG p L e d i om om sets a [] f om (by simp;omega) sy;rw[show((valN L ([]:List Int).reverse:Nat):Int)=0 from rfl] at this;rw[this,wQ];rfl
open Classical in
theorem EW(fuel:Nat)(p:c_)(hL8:1<=p.Labels∧p.Labels<=8)(hD4:1<=p.Degree∧p.Degree<=4)(hf:100<=fuel)(l:List Int)(hl:∀s∈l,0<=s∧s.toNat<2^p.Labels.toNat)(hlen:(l.length:Int)=p.Degree):kD fuel (tabV p) l=some (decide (fullI p.Labels.toNat p.Nodes l)):=by
  have hstep:∀(j:Nat) x,l[j]? =some x->gL fuel (tabV p) l (j:Int) x ()=if cmI p.Labels.toNat p.Nodes (l.eraseIdx j) !=x then some (.ret false) else some (.go ()):=λj x hx=>by
    have hj:=(Y_.1 hx).1
    have c1:cut l 0 (j:Int)=some (l.take j):=by
      unfold cut
      rw[if_pos om];simp
    have c2:cut l ((j+1:Nat):Int) l.length=some (l.drop (j+1)):=by
      unfold cut
      rw[if_pos om];simp
    unfold gL
    rw[c1,sb,dm _ (by rw[aX];omega),sb,n_ om om,sb,show((j:Int)+1)=((j+1:Nat):Int) by omega,c2,sb]
    unfold cat
    rw[if_pos (by simp;omega),sb,<-yk,wR fuel p hL8 hD4 hf (l.eraseIdx j) (λs hs=>hl s (Gk hs)) (by rw[Gl,if_pos hj];omega),sb]
  have key:=eg (body:=gL fuel (tabV p) l) (λk x=>if cmI p.Labels.toNat p.Nodes (l.eraseIdx k)=x then none else some false) l (λj x hx _=>by
    rw[hstep j x hx]
    by_cases e:cmI p.Labels.toNat p.Nodes (l.eraseIdx j)=x
    · simp[e,lpP]
    · simp[e,lpP])
  unfold kD
  rw[key,sb]
  cases hc:firstP (λk x=>if cmI p.Labels.toNat p.Nodes (l.eraseIdx k)=x then none else some false) l 0 with
  | none=>
    have:fullI p.Labels.toNat p.Nodes l:=λi x hx=>by
      have:=cL.1 hc i x hx
      rw[an] at this
      split at this
      · assumption
      · cases this
    simp[outP,this]
  | some r=>
    obtain⟨j,x,h1,h2⟩:=dJ hc
    rw[an] at h2
    split at h2
    · cases h2
    · rename_i hne
      cases h2
      have:¬fullI p.Labels.toNat p.Nodes l:=λhh=>hne (hh j x h1)
      simp[outP,this]
theorem tl{ρ:Type}{f:Int->Int->List Int->Option (Lp (List Int) (List Int) ρ)}(b:∀k x s,f k x s=((ck (x+1))>>=λy=>(push s y)>>=λz=>some (.go z))):∀(c:List Int)(k:Int)(a:List Int),(∀y∈c,0<=y∧y<=1000)->a.length+c.length<=1000000000->forI f c k a=some (.inl (a++c.map (·+1)))
 |[],k,a,_,_=>by simp[forI]
 | y::c,k,a,d,h=>by
  rw[ao] at h;have i:=d y sy;have e:f k y a=some (.go (a++[y+1])):=by
   rw[b,n_ om om,sb];unfold push;rw[if_pos om,sb]
  simp only[forI,e];rw[tl b c (k+1) _ (λz g=>d z (sh g)) (by rw[ar,bn];omega),bd,bC,dW]
theorem tZ{α β γ:Type}(f:α->β)(g:β->List γ):∀xs:List α,(xs.map f).flatMap g=xs.flatMap λx=>g (f x)
 |[]=>rfl
 |x::xs=>by rw[bd,eA,eA,tZ f g xs]
open Classical in
noncomputable def stepS(L:Nat)(N:List (List Int))(c:List Int):List (List Int):=if cmI L N (c.map (·+1))≠0∧(∀y∈c.map (·+1),y<=cmI L N (c.map (·+1)))∧fullI L N (c.map (·+1)++[cmI L N (c.map (·+1))]) then [c.map (·+1)++[cmI L N (c.map (·+1))]] else []
open Classical in
theorem DI(fuel:Nat)(hf:1000000000<=fuel)(p:c_)(hL8:1<=p.Labels∧p.Labels<=8)(hD4:1<=p.Degree∧p.Degree<=4):lE fuel p=some (nodeV p):=by
  obtain⟨L,hL⟩:∃L:Nat,p.Labels=(L:Int):=⟨p.Labels.toNat,om⟩
  obtain⟨e,hD⟩:∃e:Nat,p.Degree=((e+1:Nat):Int):=⟨p.Degree.toNat-1,om⟩
  have hLt:p.Labels.toNat=L:=om
  have hDt:p.Degree.toNat-1=e:=om
  have h256:=cY (L:=L) om
  have h1:1<=2^L:=gp
  have hpw:∀k,k<=e->(2^L-1)^k<=16777216:=λk hk=>by
    have q1:(2^L-1)^k<=256^k:=jV om k
    have q2:256^k<=256^3:=bF dc om
    omega
  have hJ:fullS p=(msD (2^L-1) e).flatMap (stepS L p.Nodes):=by
    unfold fullS
    rw[hLt,hDt,tZ]
    congr 1
    funext c
    unfold stepS
    by_cases hh:cmI L p.Nodes (c.map (·+1))≠0∧(∀y∈c.map (·+1),y<=cmI L p.Nodes (c.map (·+1)))∧fullI L p.Nodes (c.map (·+1)++[cmI L p.Nodes (c.map (·+1))])
    · rw[if_pos hh,if_pos hh]
    · rw[if_neg hh,if_neg hh]
  have hSl:=ur p hL8.2 hD4.2
  have hok:=nZ p ⟨om,hL8.2⟩ hD4.1
  unfold lE nodeV
  by_cases hc:p.Degree=4∧6<p.Labels
  · rw[if_pos (su hc.1),sb,if_pos (su hc.2),if_pos hc]
  · rw[if_neg hc]
    have hq:(if(p.Degree==4)=true then some (decide (p.Labels>6)) else some false)=some false:=by
      by_cases h4:p.Degree=4
      · rw[if_pos (su h4)]
        have:¬p.Labels>6:=λh6=>hc ⟨h4,h6⟩
        simp[this]
      · rw[if_neg (su h4)]
    have hloop:=eh (body:=lj fuel (tabV p)) (stepS L p.Nodes) 1000000000 (msD (2^L-1) e) 0 [] (by rw[<-hJ];simp;omega) (λc hcm j ac hac=>by
      obtain⟨m1,m2,m3⟩:=(cR _ _ _).1 hcm
      have hlin:∀s∈c.map (·+1),0<=s∧s.toNat<2^L:=λs hs=>by
        obtain⟨y,hy,rfl⟩:=aM.1 hs
        have:=m3 y hy
        omega
      have hsor:(c.map (·+1)).Pairwise (·<=·):=by
        rw[jR]
        exact m2.imp λ{a b} h=>by omega
      have hcmp:=wR fuel p hL8 hD4 om (c.map (·+1)) (by rw[hLt];exact hlin) (by rw[aA,m1,hD];omega)
      rw[hLt] at hcmp
      have hcin:=oB L p.Nodes (c.map (·+1))
      have hcin2:(cmI L p.Nodes (c.map (·+1))).toNat<2^L:=by
        have h2:((2^L:Nat):Int)=(2:Int)^L:=sy
        omega
      have hif:=EW fuel p hL8 hD4 om (c.map (·+1)++[cmI L p.Nodes (c.map (·+1))]) (by
        rw[hLt]
        intro s hs
        rcases bX.1 hs with hs|hs
        · exact hlin s hs
        · rw[be.1 hs];exact⟨hcin.1,hcin2⟩) (by rw[ar,aA,m1,hD];rfl)
      rw[hLt] at hif
      have hpl:=tl (f:=ng) (λk x s=>rfl) c 0 [] (λy hy=>by have:=m3 y hy;omega) (by simp;omega)
      rw[bz] at hpl
      have hml:(c.map (·+1)).length=e:=by rw[aA,m1]
      unfold stepS at hac ⊢
      unfold lj
      rw[hpl,sb]
      simp only
      rw[hcmp,sb]
      generalize cmI L p.Nodes (c.map (·+1))=z at hif hac ⊢
      generalize c.map (·+1)=l at hif hac hml hsor ⊢
      by_cases hz:z=0
      · rw[if_pos (su hz),sb,if_pos rfl,if_neg (λhh=>hh.1 hz),bm]
      · rw[if_neg (su hz)]
        have hlast:(if decide ((l.length:Int)>0)=true then(ck ((l.length:Int)-1))>>=λx193=>(ix l x193)>>=λx194=>some (decide (z<x194)) else some false)=some (decide (¬∀y∈l,y<=z)):=by
          cases e with
          | zero=>
            have:l=[]:=cD hml
            subst this
            simp
          | succ e=>
            rw[if_pos (by simp;omega),n_ om om,sb,show((l.length:Int)-1)=(e:Int) by omega,qk hml,sb]
            congr 1
            have hge:=xf hsor
            have hmem:l.getLastD 0∈l:=by
              rcases gm l with rfl|⟨u,a,rfl⟩
              · simp at hml
              · rw[gn,jT];simp
            by_cases hlt:z<l.getLastD 0
            · have:¬∀y∈l,y<=z:=λhh=>by have:=hh _ hmem;omega
              rw[decide_eq_true hlt,decide_eq_true this]
            · have:∀y∈l,y<=z:=λy hy=>by have:=hge y hy;omega
              rw[decide_eq_false hlt,decide_eq_false (λhh=>hh this)]
        rw[hlast,sb]
        by_cases hle:∀y∈l,y<=z
        · rw[if_neg (su hle)]
          unfold push
          rw[if_pos om,sb,hif,sb]
          by_cases hfl:fullI L p.Nodes (l++[z])
          · rw[if_pos ⟨hz,hle,hfl⟩,bn] at hac
            rw[if_pos (decide_eq_true hfl),if_pos om,sb,if_pos ⟨hz,hle,hfl⟩]
          · rw[if_neg (su hfl),if_neg (λhh=>hfl hh.2.2),bm]
        · rw[if_pos (decide_eq_true hle),if_neg (λhh=>hle hh.2.1),bm])
    rw[<-hJ,bz] at hloop
    rw[hq,sb,if_neg sy,Bm fuel om p hL8 ⟨om,hD4.2⟩,sb,hL,cP om,sb,show(((2^L:Nat):Int)-1)=((2^L-1:Nat):Int) by omega,n_ om om,sb,hD,show(((e+1:Nat):Int)-1)=(e:Int) by omega,n_ om om,sb,
      sJ (2^L-1) e fuel om om (λk hk=>by have:=hpw k hk;omega) om,sb,hloop,sb]
    simp only
    rw[uY (d:=p.Degree.toNat) om fuel hf p (fullS p) false ⟨om,hD4.2⟩ hok om,sb]
theorem rK(a:Nat)(d:1000000000<=a)(p:c_)(h:probB p=true)(q:p.Nodes.length<=100000000)(y:p.Edges.length<=100000000):gS a p=some (roundV p):=by
 obtain⟨x,g,t,j,-,-⟩:=aO h;have b:lk a p=some (edgeV p):=by
  unfold lk;rw[jC a om p om om,sb,h,if_neg sy,DF a d p ⟨om,g⟩ ⟨om,j⟩,sb]
 unfold gS roundV;rw[b,sb];cases e:(edgeV p).2.2
 ·rw[if_pos (by rfl),if_neg sy]
 ·obtain⟨k,u,v,o⟩:=pB p h e;obtain⟨i,f,n,m,-,-⟩:=aO k;rw[if_neg sy,if_pos rfl,DI a d _ ⟨i,f⟩ ⟨n,m⟩,sb];cases s:(nodeV (edgeV p).1).2.2
  ·rw[if_pos (by rfl),if_neg sy]
  ·rw[if_neg sy,if_pos rfl]
end
end Go.Proofs.YtpefhaamcihneaaGreat
