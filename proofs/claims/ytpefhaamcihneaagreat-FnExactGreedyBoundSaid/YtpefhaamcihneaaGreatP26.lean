/- Part 26 of what this claim rests on (pack.py). -/
import Derived.Test.YtpefhaamcihneaaGreatP25
namespace Go.Proofs.YtpefhaamcihneaaGreat
set_option linter.unusedSimpArgs false
set_option linter.unusedVariables false
section
def posD(l:List (List Int))(x:List Int):Nat:=(l.takeWhile λy=>decide (ordL y x<0)).length
theorem EE(l:List (List Int))(x:List Int):posD l x<=l.length:=(Ge _).length_le
theorem vt{y x:List Int}{l:List (List Int)}(h:ordL y x<0):posD (y::l) x=posD l x+1:=by
 unfold posD;rw[mD,if_pos (su h),ao]
theorem wU{y x:List Int}{l:List (List Int)}(h:¬ordL y x<0):posD (y::l) x=0:=by
 unfold posD;rw[mD,if_neg (su h)];rfl
theorem wv(x:List Int):∀(l:List (List Int)),insS l x=if l[posD l x]? =some x then l else l.take (posD l x)++[x]++l.drop (posD l x)
 |[]=>by simp[insS,posD]
 | y::l=>by
  by_cases h:ordL y x<0
  ·rw[vt h];simp only[insS,if_pos h,wv x l,Fq,bi,aR];split<;>rfl
  ·rw[wU h];simp only[insS,if_neg h];by_cases e:y=x
   ·simp[e]
   ·simp[e]
def smallD(d:Nat)(x:List Int):Prop:=x.length=d∧∀y,y∈x->0<=y∧y<=1000000000
theorem tp{d:Nat}{l:List (List Int)}{x:List Int}(e:∀z∈l,smallD d z)(b:smallD d x):∀z∈insS l x,smallD d z:=λz a=>by
 rcases lQ.1 a with rfl|a
 ·exact b
 ·exact e z a
theorem oc(x:List Int):∀(l:List (List Int)),(insS l x).length<=l.length+1
 |[]=>by simp[insS]
 |y::l=>by
  have:=oc x l;unfold insS;split
  ·simp;omega
  ·split<;>simp
theorem oh:∀(xs l:List (List Int)),(xs.foldl insS l).length<=l.length+xs.length
 |[],l=>by simp
 |x::xs,l=>by
  have b:=oc x l;have a:=oh xs (insS l x);rw[jO,ao];omega
theorem ue{d:Nat}(x:List Int)(g:smallD d x):∀(b pre:List (List Int))(a:Nat),b.length<a->pre.length+b.length<=1000000000->(∀z∈b,smallD d z)->
  loopF (eK (pre++b) x) a (pre.length:Int)=some (.inl ((pre.length+posD b x:Nat):Int))
 |[],pre,a,k,i,f=>by
  obtain⟨a,rfl⟩:∃q,a=q+1:=⟨a-1,om⟩;refine jJ ?_ a;unfold eK;rw[if_neg sy,sb];simp[posD]
 | y::b,pre,a,k,i,f=>by
  simp only[ao] at k i;obtain⟨a,rfl⟩:∃q,a=q+1:=⟨a-1,om⟩;have m:=f y sy;have j:=uB y x (by rw[m.1,g.1]) m.2 g.2;by_cases h:ordL y x<0
  ·have n:eK (pre++y::b) x (pre.length:Int)=some (.go ((pre.length:Int)+1)):=by
    unfold eK;rw[if_pos (by simp;omega),jM,sb,j,sb,sb,if_pos (su h),n_ om om,sb]
   rw[mn n];have:=ue x g b (pre++[y]) a om (by simp;omega) λz e=>f z (sh e);rw[bC,dW,ar,bn] at this;rw[show((pre.length:Int)+1)=((pre.length+1:Nat):Int) by omega,this,vt h];congr 3;omega
  ·refine jJ ?_ a;unfold eK;rw[if_pos (by simp;omega),jM,sb,j,sb,sb,if_neg (su h),wU h];simp
theorem sX{d:Nat}(v:d<=1000)(b:Nat)(l:List (List Int))(x:List Int)(t:l.length<b)(y:l.length<1000000000)(q:∀z∈l,smallD d z)(u:smallD d x):iV b l x=some (insS l x):=by
 unfold iV;have p:=ue x u l [] b t (by simp;omega) q;rw[bz,bD,an,show((0:Nat):Int)=0 from rfl] at p;rw[p,sb,wv];have s:=EE l x;simp only
 generalize posD l x=k at s ⊢;have f:cut l 0 (k:Int)=some (l.take k):=by
  unfold cut;rw[if_pos om];simp
 have g:cut l (k:Int) l.length=some (l.drop k):=by
  unfold cut;rw[if_pos om];simp
 have a:((cut l 0 (k:Int))>>=λo=>(cat ([]:List (List Int)) o)>>=λh=>(push h x)>>=λm=>(cut l (k:Int) l.length)>>=λj=>(cat m j)>>=λi=>some i)=some (l.take k++[x]++l.drop k):=by
  rw[f,sb,fV _ (by rw[aX];omega),sb];unfold push;rw[if_pos (by rw[aX];omega),sb,g,sb];unfold cat
  rw[if_pos (by simp;omega),sb]
 by_cases n:k<l.length
 ·rw[if_pos (by simp;omega),bM _ _ n,sb,vp _ _ (by have:=(q _ (aV n)).1;omega),sb,sb,x_ n];by_cases e:l[k]=x
  ·simp[e]
  ·rw[if_neg (su e),if_neg (su e)];exact a
 ·rw[if_neg (by simp;omega),sb,if_neg sy,cT om,if_neg sy];exact a
theorem lY{S:Nat}{f:List Nat}{m:List Int}(k:S<256):cho (S::f) m<->∃a e,m=a::e∧a∈lbs 8 S∧cho f e:=by
 constructor
 ·intro h;cases m with
  |nil=>exact h.elim
  | cons a m=>
   refine⟨a,m,rfl,ou.2 ⟨a.toNat,by have:=h.1.1;omega,?_,h.1.2⟩,h.2⟩;have b:=h.1.2;by_cases d:a.toNat<8
   ·exact d
   ·have:S.testBit a.toNat=false:=rg (bh k (by
     have:2^8<=2^a.toNat:=bF dc om;omega))
    rw[this] at b;cases b
 ·rintro⟨a,e,rfl,j,g⟩;obtain⟨i,rfl,n,b⟩:=ou.1 j;exact⟨⟨om,by simpa using b⟩,g⟩
theorem tu(f:List (List Int))(sets:List Int)(A:∀s∈sets,0<=s∧s<256)(D:sets.length<=1000):∀(d e:Nat)(c:List Int),c.length+d=sets.length->sets.length+9+d<e->
  ∃l b,dI e f sets c=some (l,b)∧(b=true<->∃m,cho ((sets.drop c.length).map Int.toNat) m∧srt (c++m)∈f)
 | 0,e,c,C,I=>by
  obtain⟨e,rfl⟩:∃q,e=q+1:=⟨e-1,om⟩;unfold dI;rw[if_pos (by simp;omega),jd _ _ om om,sb,<-iM,fU _ _ (by rw[eV];omega),sb];refine⟨_,_,rfl,?_⟩;rw[show sets.drop c.length=[] from Gi.2 om,eu,decide_eq_true_eq];constructor
  ·exact λh=>⟨[],trivial,by rw[bm];exact h⟩
  ·rintro⟨m,w,h⟩;cases m with
   |nil=>rwa [bm] at h
   |cons a m=>exact w.elim
 | d+1,e,c,C,I=>by
  obtain⟨e,rfl⟩:∃q,e=q+1:=⟨e-1,om⟩;have x:c.length<sets.length:=om;have o:sets[c.length]∈sets:=aV x;have E:=A _ o;have n:sets.drop c.length=sets[c.length]::sets.drop (c.length+1):=dt x;unfold dI;rw[if_neg (by simp;omega),bM _ _ x,sb];have p:dG e sets[c.length]=some (lbs 8 sets[c.length].toNat):=by
   have:=ny sets[c.length].toNat e om;rwa [co E.1] at this
  rw[p,sb];obtain⟨z,B,F⟩:=iW (body:=kH f sets c (dI e)) (λa=>∃m,cho ((sets.drop (c.length+1)).map Int.toNat) m∧srt (c++(a::m))∈f) (λr=>r.2=true) (lbs 8 sets[c.length].toNat) 0 (λa g j=>by
   obtain⟨l,b,H,t⟩:=tu f sets A D d e (c++[a]) (by simp;omega) om;rw[ar,bn] at t;simp only[bC,dW] at t;unfold kH;rw[dm c om,sb];unfold push;rw[if_pos om,sb,H,sb];cases b
   ·exact⟨_,rfl,.inl ⟨rfl,λh=>by simpa using t.2 h⟩⟩
   ·exact⟨_,rfl,.inr ⟨_,rfl,rfl,t.1 rfl⟩⟩)
  rw[B,sb,n,bd];have i:(∃m,cho (sets[c.length].toNat::(sets.drop (c.length+1)).map Int.toNat) m∧srt (c++m)∈f)<->∃a∈lbs 8 sets[c.length].toNat,∃m,cho ((sets.drop (c.length+1)).map Int.toNat) m∧srt (c++(a::m))∈f:=by
   constructor
   ·rintro⟨m,w,h⟩;obtain⟨a,u,rfl,g,k⟩:=(lY om).1 w;exact⟨a,g,u,k,h⟩
   ·rintro⟨a,g,u,k,h⟩;exact⟨a::u,(lY om).2 ⟨a,u,rfl,g,k⟩,h⟩
  rcases F with⟨rfl,v⟩|⟨r,rfl,G,a,g,y⟩
  ·refine⟨_,_,rfl,?_⟩;rw[i];constructor
   ·intro h;cases h
   ·rintro⟨a,g,y⟩;exact absurd y (v a g)
  ·obtain⟨l,b⟩:=r;refine⟨l,b,rfl,?_⟩;rw[i];exact⟨λ_=>⟨a,g,y⟩,λ_=>G⟩
def chS(good:List (List Int))(sets x:List Int):Prop:=∃m,cho ((imgL sets x).map Int.toNat) m∧srt m∈good
open Classical in
noncomputable def someP(good:List (List Int))(sets:List Int)(d:Nat):List (List Int):=(msD sets.length d).filter λx=>decide (chS good sets x)
theorem eY(t x:List Int):(imgL t x).length=x.length:=by simp[imgL]
theorem vD{t x:List Int}(h:∀y∈x,0<=y∧y<t.length){z:Int}(a:z∈imgL t x):z∈t:=by
 unfold imgL at a;obtain⟨y,b,rfl⟩:=aM.1 a;have:=h y b;rw[ax,x_ om];exact aV _
open Classical in
theorem wg(fuel:Nat)(good:List (List Int))(sets:List Int)(d:Nat)(hs:∀s∈sets,0<=s∧s<256)(hl:sets.length<=8)(hd:d<=4)(hf:1000<=fuel):jo fuel good sets (d:Int)=some (someP good sets d):=by
  have hb:∀k,k<=d->sets.length^k<=1000000000:=λk hk=>by
    have h1:sets.length^k<=8^k:=jV hl k
    have h2:8^k<=8^4:=bF dc om
    omega
  have hlen:=aH (ep sets.length d) (hb d (K_ d))
  have h1:((msD sets.length d).flatMap λx=>if decide (chS good sets x) then [x] else []).length<=1000000000:=by
    rw[pn]
    exact aH (gj _ _) hlen
  have key:=eh (body:=lh fuel good sets) (λx=>if decide (chS good sets x) then [x] else []) 1000000000 (msD sets.length d) 0 [] (su h1) (λx hx j ac hac=>by
    have hnd:=(cR _ _ _).1 hx
    unfold lh
    rw[(pt sets x om hnd.2.2 (by rw[hnd.1];omega)).1,sb]
    have hil:=eY sets x
    rw[hnd.1] at hil
    obtain⟨l,b,g1,g2⟩:=tu good (imgL sets x) (λs hs'=>hs s (vD hnd.2.2 hs')) om d fuel [] (sh hil) om
    simp only[bD,aG,bz] at g2
    rw[g1,sb]
    cases b
    · have hno:¬chS good sets x:=λh=>by simpa using g2.2 h
      simp[hno]
    · have hyes:chS good sets x:=g2.1 rfl
      simp only[hyes,decide_true,if_true,bn] at hac ⊢
      unfold push
      rw[if_pos om,sb])
  unfold jo someP
  rw[sJ sets.length d fuel om om hb om,sb,key,sb]
  simp only[bz]
  rw[pn]
def sdI(xs:List Int):List Int:=((List.range 256).map λi:Nat=>(i:Int)).filter λi=>decide (i∈xs)
theorem mg{xs:List Int}(h:∀x∈xs,0<=x∧x<256){y:Int}:y∈sdI xs<->y∈xs:=by
 unfold sdI;rw[cF,decide_eq_true_eq,aM];constructor
 ·exact λh=>h.2
 ·intro a;have:=h y a;exact⟨⟨y.toNat,by rw[aS];omega,om⟩,a⟩
theorem qB{xs:List Int}{y:Int}(h:y∈sdI xs):(0<=y∧y<256)∧y∈xs:=by
 unfold sdI at h;rw[cF,decide_eq_true_eq,aM] at h;obtain⟨⟨i,hi,rfl⟩,a⟩:=h;rw[aS] at hi;exact⟨om,a⟩
theorem lX(xs:List Int):(sdI xs).Pairwise (·<·):=by
 unfold sdI;refine List.Pairwise.filter _ ?_;rw[jR];exact FL.imp λ{a b} h=>by omega
theorem ql(xs:List Int):(sdI xs).length<=256:=by
 unfold sdI;exact aH (gj _ _) sy
theorem BV{xs a:List Int}(h:∀y,y∈xs<->y∈a):sdI xs=sdI a:=by
 unfold sdI;refine oR λy _=>?_;simp[h y]
theorem ER(a:Nat)(m:1000<=a)(A:List Int)(s:Int)(e:∀x∈A,0<=x∧x<256)(i:0<=s∧s<256):jD a (sdI A) s=some (sdI (A++[s])):=by
 have k:=ql A;obtain⟨j,g,f,h⟩:=Ep (sdI A) s a om om (lX A);rw[g];congr 1;refine vK f (lX _) λb=>?_;rw[h,mg e,mg (λx d=>by
  rcases bX.1 d with d|d
  ·exact e x d
  ·rw[be.1 d];exact i),bX,be]
theorem wN(a:Nat)(f:1000<=a):∀(xs:List Int)(k:Int)(A:List Int),(∀x∈A,0<=x∧x<256)->(∀x∈xs,0<=x∧x<256)->forI (iN a) xs k (sdI A)=some (.inl (sdI (A++xs)))
 |[],k,A,_,_=>by simp[forI]
 | x::xs,k,A,e,d=>by
  have g:iN a k x (sdI A)=some (.go (sdI (A++[x]))):=by
   unfold iN;rw[ER a f A x e (d x sy),sb]
  simp only[forI,g];rw[wN a f xs (k+1) (A++[x]) (λy b=>by
   rcases bX.1 b with b|b
   ·exact e y b
   ·rw[be.1 b];exact d x sy) (λy b=>d y (sh b)),bC,dW]
theorem vW(a:Nat)(f:1000<=a):∀(full:List (List Int))(k:Int)(A:List Int),(∀x∈A,0<=x∧x<256)->(∀x∈full,∀y∈x,0<=y∧y<256)->forI (iS a) full k (sdI A)=some (.inl (sdI (A++full.flatten)))
 |[],k,A,_,_=>by simp[forI]
 | x::full,k,A,e,d=>by
  have g:iS a k x (sdI A)=some (.go (sdI (A++x))):=by
   unfold iS;rw[wN a f x 0 A e (d x sy),sb]
  simp only[forI,g];rw[vW a f full (k+1) (A++x) (λy b=>by
   rcases bX.1 b with b|b
   ·exact e y b
   ·exact d x sy y b) (λy b=>d y (sh b)),br,bC]
def nmb(sets x:List Int):List Int:=srt (x.map (idxI sets))
theorem jK(sets x:List Int):(nmb sets x).length=x.length:=by unfold nmb;rw[eV,aA]
theorem En(sets:List Int)(s:Int):0<=idxI sets s∧idxI sets s<=sets.length:=by
 have:sets.countP (λx=>decide (x<s))<=sets.length:=re;unfold idxI;omega
theorem Ci{sets x:List Int}{d:Nat}(b:x.length=d)(f:sets.length<=1000000):smallD d (nmb sets x):=by
 refine⟨by rw[jK,b],λy e=>?_⟩;have a:=(cA _).subset e;obtain⟨s,-,rfl⟩:=aM.1 a;have:=En sets s;omega
theorem wJ{d:Nat}(g:d<=1000)(b:Nat)(o:1000000000<=b)(sets:List Int)(f:sets.Pairwise (·<·))(j:sets.length<=1000):∀(full:List (List Int))(k:Int)(a:List (List Int)),(∀x∈full,x.length=d∧∀y∈x,y∈sets)->
  a.length+full.length<1000000000->(∀z∈a,smallD d z)->forI (iJ b sets) full k a=some (.inl ((full.map (nmb sets)).foldl insS a))
 |[],k,a,_,_,_=>by simp[forI]
 | x::full,k,a,i,n,h=>by
  rw[ao] at n;obtain⟨m,s⟩:=i x sy;have e:=Ci (sets:=sets) m om;have p:iJ b sets k x a=some (.go (insS a (nmb sets x))):=by
   unfold iJ;rw[AL b sets x f s om om,sb];rw[show srt (x.map (idxI sets))=nmb sets x from rfl,sX g b a _ om om h e,sb]
  simp only[forI,p];have:=oc (nmb sets x) a;rw[wJ g b o sets f j full (k+1) _ (λy q=>i y (sh q)) om (tp h e),bd,jO]
noncomputable def madeV(p:c_)(full:List (List Int))(b:Bool):c_×List Int×Bool:=
  if 1<=(sdI full.flatten).length∧(sdI full.flatten).length<=8 then
    (if b then ⟨((sdI full.flatten).length:Int),p.Degree,someP p.Nodes (sdI full.flatten) p.Degree.toNat,sxd (full.map (nmb (sdI full.flatten)))⟩
     else ⟨((sdI full.flatten).length:Int),p.Degree,sxd (full.map (nmb (sdI full.flatten))),someP p.Edges (sdI full.flatten) 2⟩,sdI full.flatten,true)
  else(⟨0,0,[],[]⟩,[],false)
theorem uY{d:Nat}(o:d<=1000)(a:Nat)(u:1000000000<=a)(p:c_)(full:List (List Int))(b:Bool)(t:0<=p.Degree∧p.Degree<=4)(n:∀x∈full,x.length=d∧∀y∈x,0<=y∧y<256)(q:full.length<1000000000):
  jj a p full b=some (madeV p full b):=by
 have m:∀x∈full,∀y∈x,0<=y∧y<256:=λx h=>(n x h).2;have j:∀y∈full.flatten,0<=y∧y<256:=λy k=>by
  obtain⟨x,f,i⟩:=ga.1 k;exact m x f y i
 have f:=vW a om full 0 [] sy m;rw[bz] at f;have i:=wJ o a u (sdI full.flatten) (lX _) (by have:=ql full.flatten;omega) full 0 [] (λx h=>⟨(n x h).1,λy k=>(mg j).2 (ga.2 ⟨x,h,k⟩)⟩) (su q) sy;have e:∀s∈sdI full.flatten,0<=s∧s<256:=λs h=>(qB h).1;unfold jj madeV;rw[show([]:List Int)=sdI [] from by simp[sdI],f,sb];simp only
 rw[mm,sb];by_cases g:1<=(sdI full.flatten).length∧(sdI full.flatten).length<=8
 ·rw[if_neg (by simp;omega),if_pos g,i,sb];simp only
  cases b
  ·simp only[cl,if_false];have:=wg a p.Edges (sdI full.flatten) 2 e g.2 om om;rw[show((2:Nat):Int)=2 from rfl] at this;rw[this,sb];rfl
  ·simp only[if_true];have:=wg a p.Nodes (sdI full.flatten) p.Degree.toNat e g.2 om om;rw[co t.1] at this;rw[this,sb];rfl
 ·rw[if_pos (by simp;omega),if_neg g]
open Classical in
noncomputable def fullTo(p:c_)(n:Nat):List (List Int):=((List.range' 1 n).filter λS=>decide (0<nearN p S∧nearN p (nearN p S)=S)).map λS:Nat=>[(S:Int),(nearN p S:Int)]
noncomputable def fullE(p:c_):List (List Int):=fullTo p (2^p.Labels.toNat-1)
theorem qc(p:c_)(S:Nat)(f:p.Labels<=8):nearN p S<256:=by
 have e:=dO (λb:Nat=>∀a∈lbs 8 S,srt [a,(b:Int)]∈p.Edges) p.Labels.toNat
 have d:2^p.Labels.toNat<=2^8:=bF dc om;unfold nearN;omega
open Classical in
theorem sO(p:c_)(n:Nat):fullTo p (n+1)=if 0<nearN p (n+1)∧nearN p (nearN p (n+1))=n+1 then fullTo p n++[[((n+1:Nat):Int),(nearN p (n+1):Int)]] else fullTo p n:=by
  unfold fullTo
  rw[List.range'_1_concat,ey,ew,qV 1 n]
  by_cases h:0<nearN p (n+1)∧nearN p (nearN p (n+1))=n+1
  · rw[if_pos h,List.filter_cons_of_pos (su h)]
    rfl
  · rw[if_neg h,List.filter_cons_of_neg (su h)]
    simp
theorem lz(p:c_)(n:Nat):(fullTo p n).length<=n:=by
 unfold fullTo;rw[aA];exact aH (gj _ _) sy
theorem pU(p:c_)(e:p.Labels<=8):∀x∈fullE p,x.length=2∧∀y∈x,0<=y∧y<256:=λx b=>by
 unfold fullE fullTo at b;obtain⟨S,f,rfl⟩:=aM.1 b;have d:=(cF.1 f).1;rw[rf] at d;have g:2^p.Labels.toNat<=2^8:=bF dc om;have h:=qc p S e;refine⟨rfl,λy a=>?_⟩;rcases I_.1 a with rfl|a
 ·omega
 ·rw[be.1 a];omega
noncomputable def edgeV(p:c_):c_×List Int×Bool:=madeV p (fullE p) true
theorem DF(b:Nat)(t:1000000000<=b)(p:c_)(i:0<=p.Labels∧p.Labels<=8)(s:0<=p.Degree∧p.Degree<=4):lG b p=some (edgeV p):=by
 have m:2^p.Labels.toNat<=2^8:=bF dc om;have q:1<=2^p.Labels.toNat:=gp;have e:shl 1 p.Labels=some ((2^p.Labels.toNat:Nat):Int):=by
  have:=cP (a:=p.Labels.toNat) om;rwa [co i.1] at this
 have n:edgeV p=madeV p (fullTo p (2^p.Labels.toNat-1)) true:=rfl;have o:∀x∈fullTo p (2^p.Labels.toNat-1),x.length=2∧∀y∈x,0<=y∧y<256:=pU p i.2;obtain⟨N,v⟩:∃N:Nat,2^p.Labels.toNat=N:=⟨_,rfl⟩;rw[v] at q m e n o;rw[show(2:Nat)^8=256 from rfl] at m;have h:=di (f:=iI b p) (λj=>(fullTo p j,((j+1:Nat):Int))) (N-1) (λj w=>by
  have u:=lz p j;unfold iI;simp only
  rw[e,sb,if_pos (by simp;omega),uV p (j+1) b i om,sb,sO];have A:=qc p (j+1) i.2;by_cases k:0<nearN p (j+1)
  ·rw[if_pos (su k),uV p _ b i om,sb,sb];by_cases g:nearN p (nearN p (j+1))=j+1
   ·rw[if_pos (by simp;omega),if_pos ⟨k,g⟩];unfold push;rw[if_pos om,sb,n_ om om,sb];rfl
   ·rw[if_neg (by simp;omega),if_neg (λh=>g h.2),n_ om om,sb];rfl
  ·rw[if_neg (su k),sb,if_neg sy,if_neg (λh=>k h.1),n_ om om,sb];rfl) (by
  unfold iI;simp only
  rw[e,sb,if_neg (by simp;omega)]) b 0 om om
 unfold lG;rw[show(([]:List (List Int)),(1:Int))=(fullTo p 0,((0+1:Nat):Int)) from by simp[fullTo],h,sb];simp only
 rw[uY (d:=2) om b t p (fullTo p (N-1)) true s o (by have:=lz p (N-1);omega),sb,n]
end
section
theorem pT{LL:List (List Int)}{m n:Int}(g:∀x∈LL,(x.length:Int)=m∧x.Pairwise (·<=·)∧∀y∈x,0<=y∧y<=n-1)(f:sorS LL):confsB LL m n=true:=by
 unfold confsB;rw[Gg,cL];intro j x e;rw[an];have d:=g x (bS.2 ⟨j,e⟩);unfold confP;rw[if_pos];unfold confB;simp only[aW,decide_eq_true_eq,bT];refine⟨⟨⟨d.1,nC.2 d.2.1⟩,bE.2 λy h=>cr.2 (d.2.2 y h)⟩,?_⟩;cases j with
 |zero=>exact .inl rfl
 |succ j=>
  refine .inr ?_;obtain⟨b,a⟩:=Y_.1 e;have:=dw.1 f j (j+1) om b om;rw[jW,ax,x_ om,dT,<-a];exact this
theorem mo{d:Nat}{xs:List (List Int)}(h:∀z∈xs,z.length=d):sorS (sxd xs)∧∀z,z∈sxd xs<->z∈xs:=by
 obtain⟨b,a⟩:=pW xs [] h sy (by simp[sorS]);exact⟨b,λz=>by have:=a z;simpa [sxd] using this⟩
theorem BR{d:Nat}{xs a:List (List Int)}(b:∀z∈xs,z.length=d)(k:∀z∈a,z.length=d)(h:∀z,z∈xs<->z∈a):sxd xs=sxd a:=by
 obtain⟨f,e⟩:=mo b;obtain⟨j,i⟩:=mo k;exact vm (λz g=>b z ((e z).1 g)) f j λz=>by rw[e,i,h]
theorem Ev{sets:List Int}{s:Int}(h:s∈sets):0<=idxI sets s∧idxI sets s<sets.length:=by
 have a:sets.countP (λx=>decide (x<s))<sets.length:=by
  refine yn re λe=>?_;have:=(List.countP_eq_length.1 e) s h;simp at this
 unfold idxI;omega
theorem Fm{full:List (List Int)}(h:∀x∈full,∀y∈x,0<=y∧y<256){y:Int}:y∈sdI full.flatten<->∃x∈full,y∈x:=by
 rw[mg (λy d=>by
  obtain⟨x,b,a⟩:=ga.1 d;exact h x b y a),ga]
theorem AP(p:c_)(b:Bool)(d:Nat){A B:List (List Int)}(g:∀x∈A,x.length=d∧∀y∈x,0<=y∧y<256)(h:∀z,z∈A<->z∈B):madeV p A b=madeV p B b:=by
 have i:∀x∈B,x.length=d∧∀y∈x,0<=y∧y<256:=λx m=>g x ((h x).2 m);have k:sdI A.flatten=sdI B.flatten:=BV λy=>by
  rw[ga,ga];exact⟨λ⟨x,a,e⟩=>⟨x,(h x).1 a,e⟩,λ⟨x,a,e⟩=>⟨x,(h x).2 a,e⟩⟩
 have j:sxd (A.map (nmb (sdI B.flatten)))=sxd (B.map (nmb (sdI B.flatten))):=BR (d:=d) (λz f=>by
   obtain⟨x,a,rfl⟩:=aM.1 f;rw[jK];exact(g x a).1) (λz f=>by
   obtain⟨x,a,rfl⟩:=aM.1 f;rw[jK];exact(i x a).1) λz=>by
  rw[aM,aM];exact⟨λ⟨x,a,e⟩=>⟨x,(h x).1 a,e⟩,λ⟨x,a,e⟩=>⟨x,(h x).2 a,e⟩⟩
 unfold madeV;rw[k,j]
theorem uE(a:List (List Int))(sets:List Int)(d:Nat):confsB (someP a sets d) (d:Int) (sets.length:Int)=true:=by
 refine pT (λx b=>?_) ?_
 ·have:=(cR _ _ _).1 (cF.1 b).1;exact⟨by rw[this.1],this.2.1,λy e=>by have:=this.2.2 y e;omega⟩
 ·exact List.Pairwise.filter _ (wy _ _)
theorem wl(a:List (List Int))(sets:List Int)(d:Nat)(e:sets.length<=8)(b:d<=4):(someP a sets d).length<=4096:=by
 have g:sets.length^d<=8^d:=jV e d;have f:8^d<=8^4:=bF dc b;have i:=ep sets.length d;have h:(someP a sets d).length<=(msD sets.length d).length:=gj _ _;omega
theorem CX{d:Nat}{full:List (List Int)}(e:∀x∈full,x.length=d∧∀y∈x,0<=y∧y<256):confsB (sxd (full.map (nmb (sdI full.flatten)))) (d:Int) ((sdI full.flatten).length:Int)=true:=by
 obtain⟨b,g⟩:=mo (d:=d) (xs:=full.map (nmb (sdI full.flatten))) (λz a=>by
  obtain⟨x,b,rfl⟩:=aM.1 a;rw[jK];exact(e x b).1)
 refine pT (λz a=>?_) b;obtain⟨x,f,rfl⟩:=aM.1 ((g z).1 a);refine⟨by rw[jK,(e x f).1],fP _,λy j=>?_⟩;obtain⟨s,i,rfl⟩:=aM.1 ((cA _).subset j);have:=Ev ((Fm (full:=full) λx h=>(e x h).2).2 ⟨x,f,i⟩);omega
theorem tv(p:c_)(full:List (List Int))(b:Bool)(d:Nat)(n:1<=p.Degree∧p.Degree<=4)(f:(d:Int)=if b then 2 else p.Degree)(j:∀x∈full,x.length=d∧∀y∈x,0<=y∧y<256)(h:(madeV p full b).2.2=true):
  probB (madeV p full b).1=true∧(madeV p full b).1.Nodes.length<=4096+full.length∧(madeV p full b).1.Edges.length<=4096+full.length∧(madeV p full b).1.Degree=p.Degree:=by
 have i:(sxd (full.map (nmb (sdI full.flatten)))).length<=full.length:=by
  have:=oh (full.map (nmb (sdI full.flatten))) [];simpa [sxd] using this
 have a:=CX j;have m:((p.Degree.toNat:Nat):Int)=p.Degree:=co om;unfold madeV at h ⊢;by_cases g:1<=(sdI full.flatten).length∧(sdI full.flatten).length<=8
 ·rw[if_pos g] at h ⊢;cases b
  ·simp only[cl,if_false] at f ⊢;have e:=uE p.Edges (sdI full.flatten) 2;have k:=wl p.Edges (sdI full.flatten) 2 g.2 om;refine⟨?_,om,om,by trivial⟩;unfold probB;simp only
   rw[f] at a;rw[a,show(2:Int)=((2:Nat):Int) from rfl,e,cr.2 om,cr.2 om];rfl
  ·simp only[if_true] at f ⊢;have e:=uE p.Nodes (sdI full.flatten) p.Degree.toNat
   have k:=wl p.Nodes (sdI full.flatten) p.Degree.toNat g.2 om;refine⟨?_,om,om,by trivial⟩;unfold probB;simp only
   rw[f] at a;rw[m] at e;rw[a,e,cr.2 om,cr.2 om];rfl
 ·rw[if_neg g] at h;cases h
open Classical in
noncomputable def fullS(p:c_):List (List Int):=((msD (2^p.Labels.toNat-1) (p.Degree.toNat-1)).map λc=>c.map (·+1)).flatMap λl=>
  if cmI p.Labels.toNat p.Nodes l≠0∧(∀y∈l,y<=cmI p.Labels.toNat p.Nodes l)∧fullI p.Labels.toNat p.Nodes (l++[cmI p.Labels.toNat p.Nodes l]) then [l++[cmI p.Labels.toNat p.Nodes l]] else []
open Classical in
noncomputable def fullJ(p:c_):List (List Int):=((msD (2^p.Labels.toNat-1) (p.Degree.toNat-1)).map λc=>c.map (·+1)).flatMap λl=>
  if cmI p.Labels.toNat p.Nodes l≠0∧fullI p.Labels.toNat p.Nodes (l++[cmI p.Labels.toNat p.Nodes l]) then [srt (l++[cmI p.Labels.toNat p.Nodes l])] else []
theorem nW(L d:Nat)(l:List Int):(∃c∈msD (2^L-1) d,c.map (·+1)=l)<->firstI (2^L-1) d l:=by
 have m:((2^L-1:Nat):Int)=(2:Int)^L-1:=by
  have e:1<=2^L:=gp;rw[Int.natCast_sub e];simp
 constructor
 ·rintro⟨c,k,rfl⟩;obtain⟨e,f,g⟩:=(cR _ _ _).1 k;refine⟨by rw[aA,e],?_,λy j=>?_⟩
  ·rw[jR];exact f.imp λ{a b} h=>by omega
  ·obtain⟨x,i,rfl⟩:=aM.1 j;have:=g x i;omega
 ·rintro⟨e,f,g⟩;refine⟨l.map (·-1),(cR _ _ _).2 ⟨by rw[aA,e],?_,λy j=>?_⟩,?_⟩
  ·rw[jR];exact f.imp λ{a b} h=>by omega
  ·obtain⟨x,i,rfl⟩:=aM.1 j;have:=g x i;omega
  ·rw[xO]
   conv=>rhs;rw[<-List.map_id l]
   refine jX λx _=>?_;simp
theorem un(p:c_)(z:List Int):z∈fullS p<->∃l,firstI (2^p.Labels.toNat-1) (p.Degree.toNat-1) l∧cmI p.Labels.toNat p.Nodes l≠0∧(∀y∈l,y<=cmI p.Labels.toNat p.Nodes l)∧fullI p.Labels.toNat p.Nodes (l++[cmI p.Labels.toNat p.Nodes l])∧z=l++[cmI p.Labels.toNat p.Nodes l]:=by
 unfold fullS;rw[oX];constructor
 ·rintro⟨l,h,b⟩;by_cases a:cmI p.Labels.toNat p.Nodes l≠0∧(∀y∈l,y<=cmI p.Labels.toNat p.Nodes l)∧fullI p.Labels.toNat p.Nodes (l++[cmI p.Labels.toNat p.Nodes l])
  ·rw[if_pos a] at b;exact⟨l,(nW _ _ _).1 (su h),a.1,a.2.1,a.2.2,be.1 b⟩
  ·rw[if_neg a] at b;cases b
 ·rintro⟨l,e,d,g,f,rfl⟩;refine⟨l,by simpa using (nW _ _ _).2 e,?_⟩;rw[if_pos ⟨d,g,f⟩];exact be.2 rfl
theorem Cb(p:c_)(z:List Int):z∈fullJ p<->∃l,firstI (2^p.Labels.toNat-1) (p.Degree.toNat-1) l∧cmI p.Labels.toNat p.Nodes l≠0∧fullI p.Labels.toNat p.Nodes (l++[cmI p.Labels.toNat p.Nodes l])∧z=srt (l++[cmI p.Labels.toNat p.Nodes l]):=by
 unfold fullJ;rw[oX];constructor
 ·rintro⟨l,g,a⟩;by_cases b:cmI p.Labels.toNat p.Nodes l≠0∧fullI p.Labels.toNat p.Nodes (l++[cmI p.Labels.toNat p.Nodes l])
  ·rw[if_pos b] at a;exact⟨l,(nW _ _ _).1 (su g),b.1,b.2,be.1 a⟩
  ·rw[if_neg b] at a;cases a
 ·rintro⟨l,e,d,f,rfl⟩;refine⟨l,by simpa using (nW _ _ _).2 e,?_⟩;rw[if_pos ⟨d,f⟩];exact be.2 rfl
theorem qo(p:c_)(z:List Int):z∈fullJ p<->z∈fullS p:=by
 rw[Cb,un];exact CM _ _ _ _
theorem nZ(p:c_)(h:0<=p.Labels∧p.Labels<=8)(i:1<=p.Degree):∀x∈fullS p,x.length=p.Degree.toNat∧∀y∈x,0<=y∧y<256:=λx f=>by
 obtain⟨l,b,-,-,-,rfl⟩:=(un p x).1 f;have d:(2:Int)^p.Labels.toNat<=256:=by
  have e:2^p.Labels.toNat<=2^8:=bF dc (show p.Labels.toNat<=8 by omega);have:((2^p.Labels.toNat:Nat):Int)<=((256:Nat):Int):=Int.ofNat_le.2 e;simpa using this
 have g:=oB p.Labels.toNat p.Nodes l;refine⟨by rw[ar,b.1,bn];omega,λy a=>?_⟩;rcases bX.1 a with a|a
 ·have:=b.2.2 y a;omega
 ·rw[be.1 a];omega
open Classical in
theorem ur(p:c_)(hL:p.Labels<=8)(hD:p.Degree<=4):(fullS p).length<=16777216:=by
  have h1:2^p.Labels.toNat<=2^8:=bF dc (show p.Labels.toNat<=8 by omega)
  have h2:(2^p.Labels.toNat-1)^(p.Degree.toNat-1)<=256^(p.Degree.toNat-1):=jV om _
  have h3:256^(p.Degree.toNat-1)<=256^3:=bF dc om
  have h4:=ep (2^p.Labels.toNat-1) (p.Degree.toNat-1)
  have h5:=jz (m:=1) (g:=λl=>if cmI p.Labels.toNat p.Nodes l≠0∧(∀y∈l,y<=cmI p.Labels.toNat p.Nodes l)∧fullI p.Labels.toNat p.Nodes (l++[cmI p.Labels.toNat p.Nodes l]) then [l++[cmI p.Labels.toNat p.Nodes l]] else []) ((msD (2^p.Labels.toNat-1) (p.Degree.toNat-1)).map λc=>c.map (·+1)) (λx _=>by
    by_cases hc:cmI p.Labels.toNat p.Nodes x≠0∧(∀y∈x,y<=cmI p.Labels.toNat p.Nodes x)∧fullI p.Labels.toNat p.Nodes (x++[cmI p.Labels.toNat p.Nodes x])
    · rw[if_pos hc];simp
    · rw[if_neg hc];simp)
  rw[aA] at h5
  unfold fullS
  omega
open Classical in
noncomputable def nodeV(p:c_):c_×List Int×Bool:=if p.Degree=4∧6<p.Labels then(⟨0,0,[],[]⟩,[],false) else madeV p (fullS p) false
theorem Bg(p:c_)(h:probB p=true)(a:(nodeV p).2.2=true):probB (nodeV p).1=true∧(nodeV p).1.Nodes.length<=100000000∧(nodeV p).1.Edges.length<=100000000∧(nodeV p).1.Degree=p.Degree:=by
 obtain⟨i,e,b,f,-,-⟩:=aO h;unfold nodeV at a ⊢;by_cases d:p.Degree=4∧6<p.Labels
 ·rw[if_pos d] at a;cases a
 ·rw[if_neg d] at a ⊢;have:=tv p (fullS p) false p.Degree.toNat ⟨b,f⟩ (by simp;omega) (nZ p ⟨om,e⟩ b) a;have g:=ur p e f;exact⟨this.1,om,om,this.2.2.2⟩
theorem pB(p:c_)(h:probB p=true)(a:(edgeV p).2.2=true):probB (edgeV p).1=true∧(edgeV p).1.Nodes.length<=100000000∧(edgeV p).1.Edges.length<=100000000∧(edgeV p).1.Degree=p.Degree:=by
 obtain⟨j,d,b,e,-,-⟩:=aO h;unfold edgeV at a ⊢;have:=tv p (fullE p) true 2 ⟨b,e⟩ rfl (pU p d) a;have i:(fullE p).length<=256:=by
  have g:=lz p (2^p.Labels.toNat-1);have f:2^p.Labels.toNat<=2^8:=bF dc (show p.Labels.toNat<=8 by omega);unfold fullE;omega
 exact⟨this.1,om,om,this.2.2.2⟩
noncomputable def roundV(p:c_):c_×List Int×List Int×Bool:=
  if(edgeV p).2.2 then(if(nodeV (edgeV p).1).2.2 then((nodeV (edgeV p).1).1,(edgeV p).2.1,(nodeV (edgeV p).1).2.1,true) else(⟨0,0,[],[]⟩,[],[],false)) else(⟨0,0,[],[]⟩,[],[],false)
theorem sV(p:c_)(h:probB p=true)(a:(roundV p).2.2.2=true):probB (roundV p).1=true∧(roundV p).1.Nodes.length<=100000000∧(roundV p).1.Edges.length<=100000000∧(roundV p).1.Degree=p.Degree:=by
 unfold roundV at a ⊢;cases b:(edgeV p).2.2
 ·rw[b,if_neg sy] at a;cases a
 ·rw[b,if_pos rfl] at a;rw[if_pos rfl];obtain⟨e,n,m,j⟩:=pB p h b;cases d:(nodeV (edgeV p).1).2.2
  ·rw[d,if_neg sy] at a;cases a
  ·rw[if_pos rfl];obtain⟨k,i,f,g⟩:=Bg _ e d;exact⟨k,i,f,g.trans j⟩
end
theorem jB{σ τ ρ:Type}{f:σ->Option (Lp σ τ ρ)}{s s':σ}(h:f s=some (.go s'))(a:Nat):loopF f (a+1) s=loopF f a s':=by simp only[loopF,h]
theorem dK{σ τ ρ:Type}{f:σ->Option (Lp σ τ ρ)}{s:σ}{t:τ}(h:f s=some (.out t))(a:Nat):loopF f (a+1) s=some (.inl t):=by simp only[loopF,h]
theorem uj{σ τ ρ:Type}{f:σ->Option (Lp σ τ ρ)}{s:σ}{r:ρ}(h:f s=some (.ret r))(a:Nat):loopF f (a+1) s=some (.inr r):=by simp only[loopF,h]
theorem uW{α σ ρ:Type}{body:Int->α->σ->Option (Lp σ σ ρ)}(R:Nat->σ):∀(xs:List α)(k:Nat),(∀(j:Nat) x,xs[j]? =some x->body ((k+j:Nat):Int) x (R (k+j))=some (.go (R (k+j+1))))->
  forI body xs (k:Int) (R k)=some (.inl (R (k+xs.length)))
 |[],k,h=>rfl
 |x::xs,k,h=>by
  have a:=h 0 x rfl;simp only[dd] at a;simp only[forI,a];rw[show((k:Int)+1)=((k+1:Nat):Int) by omega];rw[uW R xs (k+1) (λj y b=>by have:=h (j+1) y (su b);rw[show k+(j+1)=k+1+j by omega] at this;exact this)];rw[ao,show k+1+xs.length=k+(xs.length+1) by omega]
theorem vB{σ ρ:Type}{body:Int->σ->Option (Lp σ σ ρ)}(R:Nat->σ):∀(n k:Nat),(∀(j:Nat),j<n->body ((k+j:Nat):Int) (R (k+j))=some (.go (R (k+j+1))))->
  forN body n (k:Int) (R k)=some (.inl (R (k+n)))
 |0,k,h=>rfl
 |n+1,k,h=>by
  have a:=h 0 om;simp only[dd] at a;simp only[forN,a];rw[show((k:Int)+1)=((k+1:Nat):Int) by omega];rw[vB R n (k+1) (λj b=>by have:=h (j+1) om;rw[show k+(j+1)=k+1+j by omega] at this;exact this)];rw[show k+1+n=k+(n+1) by omega]
theorem lD{α σ ρ:Type}{body:Int->α->σ->Option (Lp σ σ ρ)}(R:Nat->σ)(xs:List α)(h:∀(j:Nat) x,xs[j]? =some x->body (j:Int) x (R j)=some (.go (R (j+1)))):
  forI body xs 0 (R 0)=some (.inl (R xs.length)):=by
 have:=uW R xs 0 (λj x a=>by rw[an];exact h j x a);rw[an] at this;exact this
theorem dj{σ ρ:Type}{body:Int->σ->Option (Lp σ σ ρ)}(R:Nat->σ)(n:Nat)(h:∀(j:Nat),j<n->body (j:Int) (R j)=some (.go (R (j+1)))):
  forN body n 0 (R 0)=some (.inl (R n)):=by
 have:=vB R n 0 (λj a=>by rw[an];exact h j a);rw[an] at this;exact this
end Go.Proofs.YtpefhaamcihneaaGreat
