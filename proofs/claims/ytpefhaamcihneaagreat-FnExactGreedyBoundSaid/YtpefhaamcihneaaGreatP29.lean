/- Part 29 of what this claim rests on (pack.py). -/
import Derived.Test.YtpefhaamcihneaaGreatP28
namespace Go.Proofs.YtpefhaamcihneaaGreat
set_option linter.unusedSimpArgs false
set_option linter.unusedVariables false
section
open Go.Lib
theorem Cn(d:Nat)(p:c_)(h:probB p=true)(t:p.Edges.length<=1000000000)(u:p.Edges.length<d)(xs f:List Int):
  ∃l b,eU d p xs f=some (l,b)∧(b=true<->∃a∈xs,∃c∈f,srt [a,c] ∉ p.Edges):=by
 have o:∀a,∃z,forI (eP d p a) f 0 ()=some z∧((z=.inl ()∧∀c∈f,¬srt [a,c] ∉ p.Edges)∨∃r,z=.inr r∧r.2=true∧∃c∈f,srt [a,c] ∉ p.Edges):=λa=>
  iW (body:=eP d p a) (λc=>srt [a,c] ∉ p.Edges) (λr:List Int×Bool=>r.2=true) f 0 (λc _ j=>by
   unfold eP;rw[qI d p h a c t u,sb];by_cases e:srt [a,c]∈p.Edges
   ·exact⟨_,by rw[if_neg (su e)],.inl ⟨rfl,λq=>q e⟩⟩
   ·exact⟨_,by rw[if_pos (su e)],.inr ⟨_,rfl,rfl,e⟩⟩)
 obtain⟨z,n,k⟩:=iW (body:=fD d p f) (λa=>∃c∈f,srt [a,c] ∉ p.Edges) (λr:List Int×Bool=>r.2=true) xs 0 (λa _ j=>by
  obtain⟨z,n,k⟩:=o a;unfold fD;rw[n,sb];rcases k with⟨rfl,g⟩|⟨r,rfl,m,i⟩
  ·exact⟨_,rfl,.inl ⟨rfl,λ⟨c,e,q⟩=>g c e q⟩⟩
  ·exact⟨_,rfl,.inr ⟨r,rfl,m,i⟩⟩)
 unfold eU;rw[n,sb];rcases k with⟨rfl,g⟩|⟨⟨l,b⟩,rfl,m,i⟩
 ·refine⟨[],false,rfl,sy,λ⟨a,s,e⟩=>absurd e (g a s)⟩
 ·exact⟨l,b,rfl,λ_=>i,λ_=>m⟩
open Classical in
theorem Ae(fuel:Nat)(p:c_)(h:probB p=true)(hJ:p.Edges.length<=1000000000)(hf:p.Edges.length<fuel)(xs ys:List Int):
    kT fuel p xs ys=some (decide (∀a∈xs,∀c∈ys,srt [a,c]∈p.Edges)):=by
  obtain⟨l,b,h1,h2⟩:=Cn fuel p h hJ hf xs ys
  unfold kT
  rw[h1,sb]
  congr 1
  cases b
  · have:∀a∈xs,∀c∈ys,srt [a,c]∈p.Edges:=λa ha c hc=>ge λhn=>by simpa using h2.2 ⟨a,ha,c,hc,hn⟩
    rw[decide_eq_true this];rfl
  · obtain⟨a,ha,c,hc,hn⟩:=h2.1 rfl
    have:¬∀a∈xs,∀c∈ys,srt [a,c]∈p.Edges:=λhh=>hn (hh a ha c hc)
    rw[decide_eq_false this];rfl
theorem vc(d:Nat)(p:c_)(h:probB p=true)(m:p.Edges.length<=1000000000)(o:p.Edges.length<d)(q:10<=d)(S:Nat)(v:S<256):jt d p (S:Int)=some ((nearN p S:Nat):Int):=by
 obtain⟨y,w,B,A,-,-⟩:=aN h;obtain⟨L,n⟩:∃L:Nat,p.Labels=(L:Int):=⟨p.Labels.toNat,om⟩;have e:=dj (body:=lg d p (S:Int)) (λj=>((bitsP (λb=>∀a∈lbs 8 S,srt [a,(b:Int)]∈p.Edges) j:Nat):Int)) L (λj u=>by
  have t:=dO (λb:Nat=>∀a∈lbs 8 S,srt [a,(b:Int)]∈p.Edges) j;have x:2^j<=256:=cY om;unfold lg;rw[tJ 8 S d om om om,sb,Ae d p h m o,sb];by_cases g:∀a∈lbs 8 S,srt [a,(j:Int)]∈p.Edges
  ·have f:∀a∈lbs 8 S,∀c∈ [(j:Int)],srt [a,c]∈p.Edges:=λa i c k=>by rw[be.1 k];exact g a i
   rw[if_pos (decide_eq_true f),cR om,sb,qt om om,nM g]
  ·have f:¬∀a∈lbs 8 S,∀c∈ [(j:Int)],srt [a,c]∈p.Edges:=λs=>g λa i=>s a i _ sy;rw[if_neg (su f),nR g])
 unfold jt nearN;rw[n,n_ om om,sb,U_];simp only[bitsP,ym] at e;rw[e,sb]
theorem cc1:∀(full:List (List Int))(k:Int)(s:Nat),s+full.flatten.length<=1000000000->forI gu full k (s:Int)=some (.inl ((s+full.flatten.length:Nat):Int))
 |[],k,s,_=>by simp[forI]
 | x::full,k,s,h=>by
  rw[br,ar] at h;have a:gu k x (s:Int)=some (.go ((s+x.length:Nat):Int)):=by
   unfold gu;rw[n_ om om,sb,if_neg (by simp;omega)];rfl
  simp only[forI,a];rw[cc1 full (k+1) (s+x.length) om,br,ar,qX]
theorem cc2:∀(full:List (List Int))(k:Int)(a:List Int),a.length+full.flatten.length<=1000000000->forI gv full k a=some (.inl (a++full.flatten))
 |[],k,a,_=>by simp[forI]
 | x::full,k,a,h=>by
  rw[br,ar] at h;have b:gv k x a=some (.go (a++x)):=by
   unfold gv cat
   rw[if_pos om,sb]
  simp only[forI,b];rw[cc2 full (k+1) (a++x) (by rw[ar];omega),br,bC]
theorem DH(full:List (List Int))(h:full.flatten.length<=1000000000):kj full=some full.flatten:=by
 have b:=cc1 full 0 0 om;have a:=cc2 full 0 [] (su h);rw[an,show((0:Nat):Int)=0 from rfl] at b;rw[bz] at a;unfold kj growO;rw[b,sb];simp only
 rw[if_pos om,sb,a,sb]
theorem xH{zs:List Int}(b:zs.Pairwise (·<=·)){i j:Nat}(d:i<=j)(a:j<zs.length):zs.toArray[i]! <=zs.toArray[j]! :=by
 have f:zs.toArray[i]! =zs[i]'om:=by simp[show i<zs.length by omega]
 have g:zs.toArray[j]! =zs[j]:=by simp[a]
 rw[f,g];by_cases e:i=j
 ·subst e;exact N_ _
 ·exact dw.1 b i j om a om
theorem sM{zs:List Int}(h:zs.Pairwise (·<=·)):∀m,m<=zs.length->(∀y,y∈compactUpTo zs.toArray m<->∃j,j<m∧zs.toArray[j]! =y)∧(compactUpTo zs.toArray m).Pairwise (·<·)
 |0,_=>by simp[compactUpTo]
 | m+1,u=>by
  obtain⟨k,o⟩:=sM h m om;rw[compactUpTo_succ];by_cases f:m=0∨zs.toArray[m]! ≠zs.toArray[m-1]!
  ·have n:keeps zs.toArray m=true:=by
    rcases f with rfl|f
    ·exact keeps_lt_one _ 0 om
    ·exact keeps_pos f
   rw[if_pos n];constructor
   ·intro y;rw[bX,k,be];constructor
    ·rintro(⟨j,g,e⟩|rfl)
     ·exact⟨j,om,e⟩
     ·exact⟨m,om,rfl⟩
    ·rintro⟨j,g,e⟩;by_cases d:j=m
     ·subst d;exact .inr e.symm
     ·exact .inl ⟨j,om,e⟩
   ·rw[ez];refine⟨o,sy,λa q b s=>?_⟩;rw[be.1 s];obtain⟨j,g,rfl⟩:=(k a).1 q;rcases f with rfl|f
    ·omega
    ·have v:=xH h (i:=j) (j:=m-1) om om;have x:=xH h (i:=m-1) (j:=m) om om;omega
  ·have t:0<m:=Nat.pos_of_ne_zero λe=>f (.inl e);have p:zs.toArray[m]! =zs.toArray[m-1]! :=ge λe=>f (.inr e);rw[if_neg (by rw[keeps_neg t p];simp),bm];refine⟨λy=>?_,o⟩;rw[k];constructor
   ·rintro⟨j,g,e⟩;exact⟨j,om,e⟩
   ·rintro⟨j,g,e⟩;by_cases d:j=m
    ·subst d;exact⟨j-1,om,by rw[<-p,e]⟩
    ·exact⟨j,om,e⟩
theorem AR{zs:List Int}(b:zs.Pairwise (·<=·)):(compact zs).Pairwise (·<·)∧∀y,y∈compact zs<->y∈zs:=by
 obtain⟨d,e⟩:=sM b zs.length (K_ _);refine⟨e,λy=>?_⟩;show y∈compactUpTo zs.toArray zs.length<->_;rw[d,mB];constructor
 ·rintro⟨j,a,rfl⟩;exact⟨j,a,by simp[a]⟩
 ·rintro⟨j,a,rfl⟩;exact⟨j,a,by simp[a]⟩
theorem Eo{xs:List Int}(h:∀x∈xs,0<=x∧x<256):compact (srt xs)=sdI xs:=by
 obtain⟨b,d⟩:=AR (fO xs);refine vk b (lN xs) λa=>?_;rw[d,mg h,(cA xs).mem_iff]
theorem uO(d:Nat)(sets:List Int)(f:sets.Pairwise (·<·))(g:sets.length<=1000)(j:1000<d):∀(x:List Int)(k:Int)(e:List Int),e.length+x.length<=1000000000->forI (ie d sets) x k e=some (.inl (e++x.map (idxI sets)))
 |[],k,e,_=>by simp[forI]
 | y::x,k,e,h=>by
  rw[ao] at h;have i:ie d sets k y e=some (.go (e++[idxI sets y])):=by
   unfold ie;rw[zz d sets y (f.imp λ{a b} h=>om) om om,sb];unfold push;rw[if_pos om,sb];rfl
  simp only[forI,i];rw[uO d sets f g j x (k+1) _ (by rw[ar,bn];omega),bd,bC,dW]
theorem uR(a:Nat)(sets:List Int)(d:sets.Pairwise (·<·))(f:sets.length<=1000)(g:1000<a):∀(full:List (List Int))(k:Int)(b:List (List Int)),(∀x∈full,x.length<=1000)->b.length+full.length<=1000000000->forI (ip a sets) full k b=some (.inl (b++full.map (nmb sets)))
 |[],k,b,_,_=>by simp[forI]
 | x::full,k,b,e,h=>by
  rw[ao] at h;have i:=e x sy;have m:ip a sets k x b=some (.go (b++[nmb sets x])):=by
   unfold ip;rw[uO a sets d f g x 0 [] (by simp;omega),sb];simp only[bz];unfold srtO push;rw[if_pos (by rw[aA];omega),sb,if_pos om,sb];rfl
  simp only[forI,m];rw[uR a sets d f g full (k+1) _ (λy j=>e y (sh j)) (by rw[ar,bn];omega),bd,bC,dW]
theorem uL{d:Nat}:∀{full:List (List Int)},(∀x∈full,x.length=d)->full.flatten.length=full.length*d
 |[],_=>by simp
 |x::full,h=>by
  rw[br,ar,uL λy a=>h y (by simp[a]),h x (by simp),ao,dU,qV]
theorem sY(a:Nat)(o:1000<a){d:Nat}(p:d<=4)(full:List (List Int))(e:∀x∈full,x.length=d∧∀y∈x,0<=y∧y<256)(m:full.length<=100000000):
  iT a full=some (sdI full.flatten,sxd (full.map (nmb (sdI full.flatten)))):=by
 have g:=uL (full:=full) λx h=>(e x h).1;have b:full.flatten.length<=1000000000:=by
  rw[g];have:full.length*d<=100000000*4:=mw m p;omega
 have i:∀y∈full.flatten,0<=y∧y<256:=λy j=>by
  obtain⟨x,f,k⟩:=ga.1 j;exact(e x f).2 y k
 have n:=qo full.flatten;have q:=uR a (sdI full.flatten) (lN _) om o full 0 [] (λx h=>by rw[(e x h).1];omega) (by simp;omega);unfold iT;rw[DH full b,sb];unfold srtO cmpO;rw[if_pos b,sb,if_pos (by rw[eV];exact b),sb,Eo i,q,sb];simp only[bz];rw[qr (L:=d) (by rw[aA];omega) om (λz s=>by
  obtain⟨x,f,rfl⟩:=aM.1 s;rw[jH,(e x f).1]),sb]
theorem tH(a:Nat)(n:10<=a)(sets:List Int)(g:∀s∈sets,0<=s∧s<256):∀(c:List Int)(k:Int)(b:List (List Int)),(∀y∈c,0<=y∧y<sets.length)->b.length+c.length<=1000000000->forI (iG a sets) c k b=some (.inl (b++(imgL sets c).map λs=>lbs 8 s.toNat))
 |[],k,b,_,_=>by simp[forI,imgL]
 | y::c,k,b,i,h=>by
  rw[ao] at h;have m:=i y sy;have d:y.toNat<sets.length:=om;have j:=g _ (aV d);have q:iG a sets k y b=some (.go (b++[lbs 8 sets[y.toNat].toNat])):=by
   unfold iG;have f:ix sets y=some sets[y.toNat]:=by
    have:=bM sets y.toNat d;rwa [co m.1] at this
   have e:fK a sets[y.toNat]=some (lbs 8 sets[y.toNat].toNat):=by
    have:=tJ 8 sets[y.toNat].toNat a om om om;rwa [co j.1] at this
   rw[f,sb,e,sb];unfold push;rw[if_pos om,sb]
  have o:sets.getD y.toNat 0=sets[y.toNat]:=by rw[ax,x_ d];rfl
  simp only[forI,q];rw[tH a n sets g c (k+1) _ (λz p=>i z (sh p)) (by rw[ar,bn];omega)];simp only[imgL,bd,o,bC,dW]
theorem uJ(a:Nat)(e:10<=a)(sets:List Int)(b:∀s∈sets,0<=s∧s<256)(c:List Int)(d:∀y∈c,0<=y∧y<sets.length)(f:c.length<=1000):jg a sets c=some ((imgL sets c).map λs=>lbs 8 s.toNat):=by
 unfold jg;rw[tH a e sets b c 0 [] d (by simp;omega),sb];rfl
theorem jI:∀{xs:List Int}{m:List Int},(∀s∈xs,0<=s∧s<256)->(cho (xs.map Int.toNat) m<->m.length=xs.length∧∀(i:Nat) L a,(xs.map λs=>lbs 8 s.toNat)[i]? =some L->m[i]? =some a->a∈L)
 |[],m,_=>by
  cases m with
  |nil=>simp[cho]
  |cons a m=>simp[cho]
 | s::xs,m,h=>by
  have o:=h s sy;rw[bd,mc om];constructor
  ·rintro⟨a,p,rfl,n,k⟩;obtain⟨g,f⟩:=(jI λz j=>h z (sh j)).1 k;refine⟨by simp[g],λi L b e d=>?_⟩;cases i with
   |zero=>simp at e d;subst e d;exact n
   |succ i=>exact f i L b (su e) (su d)
  ·rintro⟨g,f⟩;cases m with
   |nil=>simp at g
   |cons a m=>
    refine⟨a,m,rfl,f 0 _ a sy sy,(jI λz j=>h z (sh j)).2 ⟨by simpa using g,λi L b e d=>f (i+1) L b (su e) (su d)⟩⟩
theorem oG{sets c:List Int}(a:∀s∈sets,0<=s∧s<256)(b:∀y∈c,0<=y∧y<sets.length):∀s∈imgL sets c,0<=s∧s<256:=λs h=>a s (vS b h)
open Classical in
theorem Ao(fuel:Nat)(p:c_)(h:probB p=true)(hJ:p.Nodes.length<=1000000000)(hf:p.Nodes.length<fuel)(hf9:10<=fuel)(sets:List Int)(hs:∀s∈sets,0<=s∧s<256)(c:List Int)(hc:∀y∈c,0<=y∧y<sets.length)(hl:(c.length:Int)=p.Degree):
    eN fuel c p sets=some (decide (chS p.Nodes sets c)):=by
  obtain⟨g1,g2,g3,g4,-,-⟩:=aN h
  have hil:=eZ sets c
  obtain⟨l,b,e1,e2⟩:=so fuel ((imgL sets c).map λs=>lbs 8 s.toNat) (λz=>fp fuel z p) (λm=>decide (srt m∈p.Nodes)) (λm hm=>by
    rw[aA,hil] at hm
    unfold fp
    rw[xt fuel p h m (by rw[hm];exact hl) hJ hf,sb]) (by rw[aA,hil];omega) (by rw[aA,hil];omega)
  unfold eN mP
  rw[uJ fuel hf9 sets hs c hc om,sb,e1,sb,sb]
  have hiff:chS p.Nodes sets c<->b=true:=by
    rw[e2]
    unfold chS
    constructor
    · rintro⟨m,hm,hg⟩
      obtain⟨q1,q2⟩:=(jI (oG hs hc)).1 hm
      exact⟨m,by rw[aA];exact q1,q2,by simpa using hg⟩
    · rintro⟨m,q1,q2,hg⟩
      exact⟨m,(jI (oG hs hc)).2 ⟨by rw[aA] at q1;exact q1,q2⟩,by simpa using hg⟩
  cases b<;>simp[hiff]
open Classical in
theorem Ag(fuel:Nat)(p:c_)(h:probB p=true)(hJ:p.Edges.length<=1000000000)(hf:p.Edges.length<fuel)(hf9:10<=fuel)(sets:List Int)(hs:∀s∈sets,0<=s∧s<256)(c:List Int)(hc:∀y∈c,0<=y∧y<sets.length)(hl:c.length=2):
    eO fuel c p sets=some (decide (chS p.Edges sets c)):=by
  have hil:=eZ sets c
  obtain⟨l,b,e1,e2⟩:=so fuel ((imgL sets c).map λs=>lbs 8 s.toNat) (λz=>fq fuel z p) (λm=>decide (srt m∈p.Edges)) (λm hm=>by
    rw[aA,hil,hl] at hm
    match m,hm with
    | [a,b],_=>
      unfold fq
      rw[show ix [a,b] 0=some a from rfl,sb,show ix [a,b] 1=some b from rfl,sb,qI fuel p h a b hJ hf,sb]) (by rw[aA,hil];omega) (by rw[aA,hil];omega)
  unfold eO mQ
  rw[uJ fuel hf9 sets hs c hc om,sb,e1,sb,sb]
  have hiff:chS p.Edges sets c<->b=true:=by
    rw[e2]
    unfold chS
    constructor
    · rintro⟨m,hm,hg⟩
      obtain⟨q1,q2⟩:=(jI (oG hs hc)).1 hm
      exact⟨m,by rw[aA];exact q1,q2,by simpa using hg⟩
    · rintro⟨m,q1,q2,hg⟩
      exact⟨m,(jI (oG hs hc)).2 ⟨by rw[aA] at q1;exact q1,q2⟩,by simpa using hg⟩
  cases b<;>simp[hiff]
theorem sR(a n d:Nat)(G:List Int->Option Bool)(g:List Int->Bool)(j:∀c,ndP n d c->G c=some (g c))(i:n<=8)(o:d<=4)(p:100<=a):iR a (n:Int) (d:Int) G=some ((msD n d).filter g):=by
 have h:∀k,k<=d->n^k<=1000000000:=λk m=>by have:=cM (L:=n) (k:=k) i om;omega
 have e:=aH (en n d) (h d (K_ d));have b:∀c∈msD n d,eM c G=some (!g c):=λc f=>by
  unfold eM;rw[j c ((cP n d c).1 f),sb]
 unfold iR delL;rw[sU n d a om om h om,sb,if_pos,sb]
 ·congr 1;refine oR λc f=>?_;show((eM c G).getD true==false)=g c;rw[b c f];cases g c<;>rfl
 ·rw[aW,decide_eq_true_eq,bE];exact⟨e,λc f=>by
   show(eM c G).isSome=true;rw[b c f];rfl⟩
theorem Bc(b:Nat)(H:1000000000<=b)(p:c_)(h:probB p=true)(E:p.Nodes.length<=100000000)(G:p.Edges.length<=100000000):ly b p=some (edgeV p):=by
 obtain⟨F,u,J,I,-,-⟩:=aN h;have A:2^p.Labels.toNat<=256:=cY om;have B:1<=2^p.Labels.toNat:=gp;have g:shl 1 p.Labels=some ((2^p.Labels.toNat:Nat):Int):=by
  have:=cR (a:=p.Labels.toNat) om;rwa [co om] at this
 have v:edgeV p=madeV p (fullTo p (2^p.Labels.toNat-1)) true:=rfl;have n:∀x∈fullTo p (2^p.Labels.toNat-1),x.length=2∧∀y∈x,0<=y∧y<256:=qa p u;obtain⟨N,w⟩:∃N:Nat,2^p.Labels.toNat=N:=⟨_,rfl⟩;rw[w] at B A g v n;have i:=di (f:=iv b p) (λj=>(fullTo p j,((j+1:Nat):Int))) (N-1) (λj D=>by
  have m:=lB p j;unfold iv;simp only
  rw[g,sb,if_pos (by simp;omega),vc b p h om om om (j+1) om,sb,sZ];have C:=pV p (j+1) u;by_cases e:0<nearN p (j+1)
  ·rw[if_pos (by simp;omega),vc b p h om om om _ C,sb,sb];by_cases k:nearN p (nearN p (j+1))=j+1
   ·rw[if_pos (by simp;omega),if_pos ⟨e,k⟩];unfold push;rw[if_pos om,sb,n_ om om,sb];rfl
   ·rw[if_neg (by simp;omega),if_neg (λh=>k h.2),n_ om om,sb];rfl
  ·rw[if_neg (by simp;omega),sb,if_neg sy,if_neg (λh=>e h.1),n_ om om,sb];rfl) (by
  unfold iv;simp only
  rw[g,sb,if_neg (by simp;omega)]) b 0 om om
 unfold ly;rw[show(([]:List (List Int)),(1:Int))=(fullTo p 0,((0+1:Nat):Int)) from by simp[fullTo],i,sb];simp only
 have m:=lB p (N-1);rw[sY b om (d:=2) om _ n om,sb,v];generalize fullTo p (N-1)=full at n m;have o:∀s∈sdI full.flatten,0<=s∧s<256:=λs h=>(qu h).1;simp only
 rw[fQ,sb];unfold madeV;by_cases e:1<=(sdI full.flatten).length∧(sdI full.flatten).length<=8
 ·rw[if_neg (by simp;omega),if_pos e];have t:p.Degree=((p.Degree.toNat:Nat):Int):=om;have q:=sR b (sdI full.flatten).length p.Degree.toNat (λz=>eN b z p (sdI full.flatten)) (λc=> @decide (chS p.Nodes (sdI full.flatten) c) (Classical.propDecidable _)) (λc e=>Ao b p h om om om _ o c e.2.2 (by rw[e.1];exact t.symm)) e.2 om om;rw[<-t] at q;rw[q,sb];simp only[if_true];rfl
 ·rw[if_pos (by simp;omega),if_neg e]
theorem uz{ρ:Type}{f:Int->Int->List Int->Option (Lp (List Int) (List Int) ρ)}(b:∀k x s,f k x s=((ck (x+1))>>=λy=>(push s y)>>=λz=>some (.go z))):∀(c:List Int)(k:Int)(a:List Int),(∀y∈c,0<=y∧y<=1000)->a.length+c.length<=1000000000->forI f c k a=some (.inl (a++c.map (·+1)))
 |[],k,a,_,_=>by simp[forI]
 | y::c,k,a,d,h=>by
  rw[ao] at h;have i:=d y sy;have g:f k y a=some (.go (a++[y+1])):=by
   rw[b,n_ om om,sb];unfold push;rw[if_pos om,sb]
  simp only[forI,g];rw[uz b c (k+1) _ (λz e=>d z (sh e)) (by rw[ar,bn];omega),bd,bC,dW]
theorem uS{α β γ:Type}(f:α->β)(g:β->List γ):∀xs:List α,(xs.map f).flatMap g=xs.flatMap λx=>g (f x)
 |[]=>rfl
 |x::xs=>by rw[bd,eA,eA,uS f g xs]
open Classical in
theorem Ax(fuel:Nat)(hf:1000000000<=fuel)(p:c_)(h:probB p=true):ko fuel (nsV p)=some (sxd (fullJ p)):=by
  obtain⟨g1,g2,g3,g4,-,-⟩:=aN h
  obtain⟨L,hL⟩:∃L:Nat,p.Labels=(L:Int):=⟨p.Labels.toNat,om⟩
  obtain⟨e,hD⟩:∃e:Nat,p.Degree=((e+1:Nat):Int):=⟨p.Degree.toNat-1,om⟩
  have hLt:p.Labels.toNat=L:=om
  have hDt:p.Degree.toNat-1=e:=om
  have h256:=cY (L:=L) om
  have h1:1<=2^L:=gp
  have hpw:∀k,k<=e->(2^L-1)^k<=16777216:=λk hk=>by
    have q1:(2^L-1)^k<=256^k:=jV om k
    have q2:256^k<=256^3:=bF dc om
    omega
  have hJ:fullJ p=(msD (2^L-1) e).flatMap λc=>if cmI L p.Nodes (c.map (·+1))≠0∧fullI L p.Nodes (c.map (·+1)++[cmI L p.Nodes (c.map (·+1))]) then [srt (c.map (·+1)++[cmI L p.Nodes (c.map (·+1))])] else []:=by
    unfold fullJ
    rw[hLt,hDt,uS]
  have hJl:(fullJ p).length<=16777216:=by
    rw[hJ]
    have q1:=en (2^L-1) e
    have q2:=hpw e (K_ e)
    have q3:=ju (m:=1) (g:=λc=>if cmI L p.Nodes (c.map (·+1))≠0∧fullI L p.Nodes (c.map (·+1)++[cmI L p.Nodes (c.map (·+1))]) then [srt (c.map (·+1)++[cmI L p.Nodes (c.map (·+1))])] else []) (msD (2^L-1) e) (λx _=>by
      split<;>simp)
    omega
  have hJd:∀z∈fullJ p,z.length=e+1:=λz hz=>by
    have:=(nX p ⟨om,g2⟩ g3 z ((ql p z).1 hz)).1
    omega
  have hloop:=eh (body:=ki fuel (nsV p)) (λc=>if cmI L p.Nodes (c.map (·+1))≠0∧fullI L p.Nodes (c.map (·+1)++[cmI L p.Nodes (c.map (·+1))]) then [srt (c.map (·+1)++[cmI L p.Nodes (c.map (·+1))])] else []) 1000000000 (msD (2^L-1) e) 0 [] (by rw[<-hJ];simp;omega) (λc hc j ac hac=>by
    obtain⟨m1,m2,m3⟩:=(cP _ _ _).1 hc
    have hlin:∀s∈c.map (·+1),0<=s∧s.toNat<2^L:=λs hs=>by
      obtain⟨y,hy,rfl⟩:=aM.1 hs
      have:=m3 y hy
      omega
    have hcm:=sD fuel p h om (c.map (·+1)) (by rw[hLt];exact hlin) (by rw[aA,m1,hD];omega)
    rw[hLt] at hcm
    have hcin:=oC L p.Nodes (c.map (·+1))
    have hcin2:(cmI L p.Nodes (c.map (·+1))).toNat<2^L:=by
      have h2:((2^L:Nat):Int)=(2:Int)^L:=sy
      omega
    have hif:=Dy fuel p h om (c.map (·+1)++[cmI L p.Nodes (c.map (·+1))]) (by
      rw[hLt]
      intro s hs
      rcases bX.1 hs with hs|hs
      · exact hlin s hs
      · rw[be.1 hs];exact⟨hcin.1,hcin2⟩) (by rw[ar,aA,m1,hD];rfl)
    rw[hLt] at hif
    have hpl:=uz (f:=mN) (λk x s=>rfl) c 0 [] (λy hy=>by have:=m3 y hy;omega) (by simp;omega)
    rw[bz] at hpl
    have hml:(c.map (·+1)).length=e:=by rw[aA,m1]
    unfold ki mkc
    rw[show(nsV p).p.Degree=p.Degree from rfl,if_pos om,sb,hpl,sb]
    simp only
    rw[hcm,sb]
    generalize cmI L p.Nodes (c.map (·+1))=z at hif hac ⊢
    generalize c.map (·+1)=l at hif hac hml ⊢
    by_cases hz:z=0
    · rw[if_pos (su hz),if_neg (λhh=>hh.1 hz),bm]
    · rw[if_neg (su hz)]
      unfold push
      rw[if_pos om,sb,hif,sb]
      by_cases hfl:fullI L p.Nodes (l++[z])
      · rw[if_pos ⟨hz,hfl⟩,bn] at hac
        rw[if_pos (decide_eq_true hfl),if_pos ⟨hz,hfl⟩]
        unfold srtO
        rw[if_pos (by rw[ar,bn];omega),sb,if_pos om,sb]
      · rw[if_neg (su hfl),if_neg (λhh=>hfl hh.2),bm])
  rw[<-hJ,bz] at hloop
  unfold ko
  rw[show(nsV p).p.Labels=p.Labels from rfl,hL,cR om,sb,show(((2^L:Nat):Int)-1)=((2^L-1:Nat):Int) by omega,n_ om om,sb,show(nsV p).p.Degree=p.Degree from rfl,hD,show(((e+1:Nat):Int)-1)=(e:Int) by omega,n_ om om,sb,
    sU (2^L-1) e fuel om om (λk hk=>by have:=hpw k hk;omega) om,sb,hloop,sb]
  simp only
  rw[qr (L:=e+1) om om hJd,sb]
theorem BG(a:Nat)(A:1000000000<=a)(p:c_)(h:probB p=true)(H:p.Nodes.length<=100000000)(K:p.Edges.length<=100000000):ln a p=some (nodeV p):=by
 obtain⟨I,v,D,M,-,-⟩:=aN h;have g:=nX p ⟨om,v⟩ D;have j:∀z∈fullJ p,z.length=p.Degree.toNat:=λz E=>(g z ((ql p z).1 E)).1;have b:∀z,z∈sxd (fullJ p)<->z∈fullS p:=λz=>by rw[(mn j).2,ql]
 have m:∀x∈sxd (fullJ p),x.length=p.Degree.toNat∧∀y∈x,0<=y∧y<256:=λx C=>g x ((b x).1 C);have B:=AI p false p.Degree.toNat m b;have i:(sxd (fullJ p)).length<=100000000:=by
  have q:=og (fullJ p) [];have F:(fullJ p).length<=16777216:=by
   have q:=en (2^p.Labels.toNat-1) (p.Degree.toNat-1);have J:2^p.Labels.toNat<=256:=cY om;have G:(2^p.Labels.toNat-1)^(p.Degree.toNat-1)<=256^(p.Degree.toNat-1):=jV om _;have L:256^(p.Degree.toNat-1)<=256^3:=bF dc om;have w:(fullJ p).length<=((msD (2^p.Labels.toNat-1) (p.Degree.toNat-1)).map λc=>c.map (·+1)).length*1:=by
    unfold fullJ;exact ju _ λx _=>by split<;>simp
   rw[aA] at w;omega
  simp only[bD,an] at q;show(sxd (fullJ p)).length<=_;unfold sxd;omega
 unfold ln nodeV;by_cases e:p.Degree=4∧6<p.Labels
 ·rw[if_pos (su e.1),sb,if_pos (su e.2),if_pos e]
 ·rw[if_neg e];have u:(if(p.Degree==4)=true then some (decide (p.Labels>6)) else some false)=some false:=by
   by_cases k:p.Degree=4
   ·rw[if_pos (su k)];have:¬p.Labels>6:=λt=>e ⟨k,t⟩;simp[this]
   ·rw[if_neg (su k)]
  rw[u,sb,if_neg sy,zJ a p h om om,sb,Ax a A p h,sb,sY a om (d:=p.Degree.toNat) om _ m i,sb,<-B];generalize sxd (fullJ p)=full at m;have n:∀s∈sdI full.flatten,0<=s∧s<256:=λs h=>(qu h).1;simp only
  rw[fQ,sb];unfold madeV;by_cases f:1<=(sdI full.flatten).length∧(sdI full.flatten).length<=8
  ·rw[if_neg (by simp;omega),if_pos f];have o:=sR a (sdI full.flatten).length 2 (λz=>eO a z p (sdI full.flatten)) (λc=> @decide (chS p.Edges (sdI full.flatten) c) (Classical.propDecidable _)) (λc e=>Ag a p h om om om _ n c e.2.2 e.1) f.2 om om;rw[show((2:Nat):Int)=2 from rfl] at o;rw[o,sb];simp only[cl,if_false];rfl
  ·rw[if_pos (by simp;omega),if_neg f]
theorem ta(a:Nat)(b:1000000000<=a)(p:c_)(h:probB p=true)(e:p.Nodes.length<=100000000)(i:p.Edges.length<=100000000):iU a p=some (roundV p):=by
 unfold iU roundV;rw[Bc a b p h e i,sb];cases g:(edgeV p).2.2
 ·rw[if_pos (by rfl),if_neg sy]
 ·obtain⟨f,d,j,m⟩:=pA p h g;rw[if_neg sy,if_pos rfl,BG a b _ f d j,sb];cases k:(nodeV (edgeV p).1).2.2
  ·rw[if_pos (by rfl),if_neg sy]
  ·rw[if_neg sy,if_pos rfl]
end
def rowP(x:List Int):Prop:=x≠ []∧x.Pairwise (·<=·)∧(∀y∈x,0<=y)∧x.length<=4
theorem EG{x:List Int}(h:x≠ [])(b:x.length<=4):(ck ((x.length:Int)-1))=some ((x.length:Int)-1)∧ix x ((x.length:Int)-1)=some (x.getD (x.length-1) 0):=by
 have a:0<x.length:=Gq.2 h;refine⟨n_ om om,?_⟩;rw[show(x.length:Int)-1=((x.length-1:Nat):Int) by omega,aq,ax,x_ om];rfl
theorem xq{x f:List Int}(b:rowP x)(e:x.getD (x.length-1) 0=(f.length:Int)-1):∀y∈x,0<=y∧y<f.length:=λy a=>by
 have:=uX b.2.1 y a;have:=b.2.2.1 y a;omega
theorem vx(a:Nat)(l m:List (List Int))(r:cy)(n nn:Int)(t:confsB m n nn=true)(B:m.length<=1000000000)(o:m.length<a)(C:∀x∈l,rowP x∧(x.length:Int)=n)(H:r.perm.length<=1000):
  ∃b,gS a r l m=some b∧(b=true<->keptP l m r.perm):=by
 obtain⟨z,D,A⟩:=iW (body:=ks a r m ((r.perm.length:Int)-1)) (λx=>x.getD (x.length-1) 0=(r.perm.length:Int)-1∧srt (imgL r.perm x) ∉ m) (λb:Bool=>b=false) l 0 (λx g j=>by
  obtain⟨k,q⟩:=C x g;obtain⟨v,w⟩:=EG k.1 k.2.2.2;unfold ks;rw[v,sb,w,sb];by_cases e:x.getD (x.length-1) 0=(r.perm.length:Int)-1
  ·have i:=eZ r.perm x;have G:=k.2.2.2;have p:=xq k e;have f:=lI (ρ:=Bool) (body:=kq r) (λj=>imgL r.perm (x.take j)) x (λj y s=>by
    have u:=p y (aE s);have hi:ix r.perm y=some (r.perm.getD y.toNat 0):=by
     unfold ix;rw[if_pos u.1,ax,x_ om];rfl
    unfold kq;rw[hi,sb];unfold push;rw[if_pos (by rw[eZ,aX];omega),sb,dv,s];simp[imgL])
   rw[cc] at f;rw[if_neg (su e)];rw[show imgL r.perm (x.take 0)=([]:List Int) from rfl] at f;rw[f,sb];simp only
   rw[nQ a m n nn t _ (by rw[i];exact q) B om o,sb];by_cases d:srt (imgL r.perm x)∈m
   ·exact⟨_,by rw[decide_eq_true d,if_neg sy],.inl ⟨rfl,λh=>h.2 d⟩⟩
   ·exact⟨_,by rw[decide_eq_false d,if_pos sy],.inr ⟨_,rfl,rfl,e,d⟩⟩
  ·exact⟨_,by rw[if_pos (su e)],.inl ⟨rfl,λh=>e h.1⟩⟩)
 unfold gS;rw[n_ om om,sb,D,sb];rcases A with⟨rfl,E⟩|⟨b,rfl,rfl,x,g,e,d⟩
 ·exact⟨_,rfl,λ_ x g e=>ge λd=>E x g ⟨e,d⟩,λ_=>rfl⟩
 ·exact⟨_,rfl,sy,λF=>absurd (F x g e) d⟩
theorem nN{X:List (List Int)}{m n:Int}(h:confsB X m n=true)(i:1<=m)(g:m<=4):∀x∈X,rowP x∧(x.length:Int)=m:=λx f=>by
 obtain⟨a,b,c⟩:=(cx h).1 x f;exact⟨⟨λe=>by subst e;simp at a;omega,nC.1 b,λy d=>(c y d).1,om⟩,a⟩
theorem nW{X:List (List Int)}{m n:Int}(h:confsB X m n=true)(i:1<=m)(g:0<=n):∀x∈X,x≠ []∧x.Pairwise (·<=·)∧∀y∈x,0<=y∧y<(n.toNat:Int):=λx f=>by
 obtain⟨a,b,c⟩:=(cx h).1 x f;exact⟨λe=>by subst e;simp at a;omega,nC.1 b,λy d=>by have:=c y d;omega⟩
def okI(p q:c_)(f:List Int):Prop:=keptP p.Nodes q.Nodes f∧keptP p.Edges q.Edges f
section
open Classical in
noncomputable def lme(p q:c_)(L:Nat):Nat->List Int->Option (List Int)
  |0,f=>if vmap p q f then some f else none
  |d+1,f=>(List.range L).findSome? λb:Nat=>lme p q L d (f++[(b:Int)])
theorem jE{p q:c_}{L:Nat}:∀{d:Nat}{f:List Int},(∀g:List Int,g.length=d->(∀y∈g,0<=y∧y<(L:Int))->¬vmap p q (f++g))->lme p q L d f=none
 |0,f,h=>by
  have:=h [] rfl sy;rw[bm] at this;unfold lme;exact if_neg this
 | d+1,f,h=>by
  unfold lme;rw[Gr];intro b e;have e:=aS.1 e;refine jE λg j i=>?_;have:=h ((b:Int)::g) (sh j) (λy a=>by
   rcases I_.1 a with rfl|a
   ·omega
   ·exact i y a)
  simpa using this
theorem po{α β:Type}(p:α->Bool)(F:α->Option β)(a:∀x,p x=false->F x=none):∀xs:List α,(xs.filter p).findSome? F=xs.findSome? F
 |[]=>rfl
 |x::xs=>by
  rw[gd];cases h:p x
  ·rw[if_neg (by simp),po p F a xs,cH,a x h]
  ·rw[if_pos rfl,cH,cH,po p F a xs]
theorem pC{α β:Type}{F G:α->Option β}:∀{xs:List α},(∀x∈xs,F x=G x)->xs.findSome? F=xs.findSome? G
 |[],_=>rfl
 |x::xs,h=>by
  rw[cH,cH,h x (by simp),pC λy a=>h y (by simp[a])]
theorem AY{β:Type}{L N:Nat}(e:L<=N)(F:Nat->Option β)(a:∀b,L<=b->F b=none):(List.range N).findSome? F=(List.range L).findSome? F:=by
 obtain⟨k,rfl⟩:∃k,N=L+k:=⟨N-L,om⟩;have d:(List.range k).findSome? (F ∘ λx=>L+x)=none:=Gr.2 λb _=>a _ (Fz L b);rw[List.range_add,List.findSome?_append,Gt,d];simp
theorem CZ{β:Type}{L m:Nat}(h:L<=8)(d:∀b,m.testBit b=true->b<L)(F:Int->Option β)(f:∀b:Nat,b<L->m.testBit b=false->F b=none):(lbs 8 m).findSome? F=(List.range L).findSome? λb:Nat=>F b:=by
 unfold lbs;rw[Gt];have g:((List.range 8).filter λi=>m.testBit i).findSome? (F ∘ λi:Nat=>(i:Int))=((List.range 8).filter λi=>m.testBit i).findSome? λb:Nat=>if b<L then F b else none:=by
  refine pC λb a=>?_;rw[if_pos (d b (cF.1 a).2)];rfl
 rw[g,po (λi=>m.testBit i) _ (λb a=>by
  by_cases e:b<L
  ·rw[if_pos e];exact f b e a
  ·rw[if_neg e]),AY h _ (λb a=>if_neg om)]
 exact pC λb a=>if_pos (aS.1 a)
theorem nH{α ρ:Type}{body:Int->α->Unit->Option (Lp Unit Unit ρ)}(F:α->Option ρ):∀(xs:List α)(k:Int),(∀x∈xs,∀j,body j x ()=some (match F x with|none=> .go ()|some r=> .ret r))->
  forI body xs k ()=some (match xs.findSome? F with|none=> .inl ()|some r=> .inr r)
 |[],k,_=>rfl
 | x::xs,k,h=>by
  have a:=h x sy k;have ih:=nH F xs (k+1) λy d=>h y (sh d);rw[cH];cases b:F x with
  |none=>
   rw[b] at a;simp only[forI,a];exact ih
  |some r=>
   rw[b] at a;simp only[forI,a]
theorem nG{σ ρ:Type}{body:Int->σ->Option (Lp σ σ ρ)}(s:σ)(F:Nat->Option ρ)(n:Nat)(h:∀j:Nat,j<n->body (j:Int) s=some (match F j with|none=> .go s|some r=> .ret r)):
  ∀(d j:Nat),j+d=n->forN body d (j:Int) s=some (match (List.range' j d).findSome? F with|none=> .inl s|some r=> .inr r)
 |0,j,e=>rfl
 | d+1,j,e=>by
  have a:=h j om;have ih:=nG s F n h d (j+1) om;rw[mC,cH];cases b:F j with
  |none=>
   rw[b] at a;simp only[forN,a];exact ih
  |some r=>
   rw[b] at a;simp only[forN,a]
theorem EQ{m:Nat}(h:m≠0):∃b,m.testBit b=true:=Nat.exists_testBit_of_ne_zero h
theorem ER{n:Nat}{S:List Int}(f:msk n S)(k:(0:Int) ∉ S){a:Nat}(h:a<n):∃b,bo S a b:=by
 obtain⟨m,o,i,j⟩:=f.at h;have d:m≠0:=λe=>by subst e;exact k (aE i)
 obtain⟨b,g⟩:=EQ d;exact⟨b,by unfold bo;rw[j,U_];exact g⟩
theorem xe{n L:Nat}{x S f:List Int}{G:List Int->Prop}(p:∀y∈x,0<=y∧y<(n:Int))(E:1<=x.length)(s:msk n S)(H:(0:Int) ∉ S)(I:f.length=n)(C:∀a,a<n->∀b,bo S a b->f.getD a 0=(b:Int))
  (q:∀a b:Nat,(a:Int)∈x->bo S a b->supp L x S G a b):G (imgL f x):=by
 obtain⟨a,t,h,_⟩:=fe p (i:=0) E;obtain⟨b,B⟩:=ER s H t;obtain⟨y,v,u,_⟩:=q a b (aE h) B;obtain⟨F,_,A⟩:=uk v;have:y=imgL f x:=by
  refine dr (by rw[eZ];simpa using F) λi w o=>?_;have hi:i<x.length:=by simpa [eZ] using o
  obtain⟨c,D,j,g⟩:=fe p hi;obtain⟨e,J,k,d⟩:=A i sy (su hi);rw[g,U_] at d;have m:=qm (f:=f) j;rw[x_ o] at m;rw[Option.some.inj m,C c D e d,<-k,ax,x_ w];rfl
 rwa [this] at u
theorem wq{n L:Nat}{g S:List Int}(h:inS n L g S)(i:msk n S):(0:Int) ∉ S:=λj=>by
 obtain⟨a,f⟩:=bS.1 j;have d:=(Y_.1 f).1;obtain⟨b,_,_,e⟩:=h.2 a (by rw[<-i.1];exact d);unfold bo at e;rw[getD_some f] at e;simp at e
structure Gs (X:al) (n L:Nat) (f S:List Int):Prop where
  m:msk n S
  st:stab X L S
  nz:(0:Int) ∉ S
  lt:∀a b,bo S a b->b<L
  one:∀a,a<f.length->∀b,bo S a b->f.getD a 0=(b:Int)
  all:∀g:List Int,f.length+g.length=n->(∀y∈g,0<=y∧y<(L:Int))->vmap X.p X.q (f++g)->inS n L (f++g) S
theorem ws(X:al){n L D:Nat}(h:Fnd X n L D)(N:1<=D):∀(d:Nat)(f S:List Int)(i:Nat),f.length+d=n->4000+d<i->Gs X n L f S->
  dD i X f S=some ((lme X.p X.q L d f).getD [],(lme X.p X.q L d f).isSome)
 |0,f,S,i,hd,hf,k=>by
  obtain⟨m,rfl⟩:∃m,i=m+1:=⟨i-1,om⟩;have v:vmap X.p X.q f:=⟨λx u=>xe (h.cN x u).2 (by rw[(h.cN x u).1];exact N) k.m k.nz om (λa O=>k.one a om) (k.st.2 x u),λx u=>xe (h.cE x u).2 (by rw[(h.cE x u).1];decide) k.m k.nz om (λa O=>k.one a om) (k.st.1 x u)⟩;have W:lme X.p X.q L 0 f=some f:=by unfold lme;exact if_pos v
  unfold dD;rw[if_pos (by rw[h.hn];simp;omega),W];rfl
 | d+1,f,S,i,hd,hf,k=>by
  obtain⟨m,rfl⟩:∃m,i=m+1:=⟨i-1,om⟩;obtain⟨s,hs,M,K⟩:=k.m.at (a:=f.length) om;have h8:=h.L8;have n8:=h.n8;have hSl:=k.m.1;have J:∀b,s.testBit b=true->b<L:=λb R=>k.lt f.length b (by unfold bo;rw[K,U_];exact R);have E:∀b:Nat,b<L->s.testBit b=false->lme X.p X.q L d (f++[(b:Int)])=none:=λb R V=>jE λg Z G v=>by
   have:=k.all ((b:Int)::g) (by simp;omega) (λy B=>by
    rcases I_.1 B with rfl|B
    ·omega
    ·exact G y B) (su v)
   obtain⟨c,_,t,o⟩:=this.2 f.length om;rw[ax,cj (K_ _)] at t;simp at t;have:c=b:=om;subst this;unfold bo at o;rw[K,U_,V] at o;cases o
  have C:=nH (body:=kw m X f S (dD m)) (λx:Int=>(lme X.p X.q L d (f++[x])).map λg=>(g,true)) (lbs 8 s) 0 (λx u j=>by
   obtain⟨b,rfl,hb8,hbt⟩:=ou.1 u;have hbL:=J b hbt;have h2:2^b<256:=by
    have:=bF (n:=2) dc (show b<=7 by omega);omega
   have hN:=k.m.set f.length h2;obtain⟨Q,e1,I,e3⟩:=vj X h m om (S.set f.length ((2^b:Nat):Int)) hN;have A:∀c e,bo (S.set f.length ((2^b:Nat):Int)) c e<->if c=f.length then e=b else bo S c e:=λc e=>by
    rw[qB om,yi];by_cases q:c=f.length
    ·rw[if_pos q,if_pos q];simp[eq_comm]
    ·rw[if_neg q,if_neg q]
   have w:∀g:List Int,(f++[(b:Int)]).length+g.length=n->(∀y∈g,0<=y∧y<(L:Int))->vmap X.p X.q (f++[(b:Int)]++g)->inS n L (f++[(b:Int)]++g) Q:=λg Z G v=>by
    rw[ar,bn] at Z;have hi:=k.all ((b:Int)::g) (by simp;omega) (λy B=>by
     rcases I_.1 B with rfl|B
     ·omega
     ·exact G y B) (su v)
    rw[show f++(b:Int)::g=f++[(b:Int)]++g by simp] at hi;refine I.keep _ v (xE hi λa c O t o=>(A a c).2 ?_);by_cases q:a=f.length
    ·rw[if_pos q];subst q;rw[bC,ax,cj (K_ _)] at t;simp at t;omega
    ·rw[if_neg q];exact o
   unfold kw;rw[dm _ om,sb,cR om,sb,aq,M,sb,cC _ _ _ om,sb,e1,sb];by_cases T:(0:Int)∈Q
   ·have U:lme X.p X.q L d (f++[(b:Int)])=none:=jE λg Z G v=>wq (w g (by simp;omega) G v) I.m T;rw[if_neg (sh T),U];rfl
   ·have Y:Gs X n L (f++[(b:Int)]) Q:=⟨I.m,e3,T,λa c t=>by
     have:=(A a c).1 (I.sub a c t);by_cases q:a=f.length
     ·rw[if_pos q] at this;omega
     ·rw[if_neg q] at this;exact k.lt a c this,λa O c t=>by
     rw[ar,bn] at O;have:=(A a c).1 (I.sub a c t);by_cases q:a=f.length
     ·rw[if_pos q] at this;subst q;rw[ax,cj (K_ _)];simp;omega
     ·rw[if_neg q] at this;have:=k.one a om c this;rw[ax,bN om,<-ax];exact this,w⟩
    have ih:=ws X h N d (f++[(b:Int)]) Q m (by simp;omega) om Y;have F:push f (b:Int)=some (f++[(b:Int)]):=by unfold push;rw[if_pos om]
    rw[if_pos (sh T),dm _ om,sb,F,sb,ih,sb];cases lme X.p X.q L d (f++[(b:Int)]) with
    |none=>rfl
    |some g=>rfl)
  unfold dD;rw[if_neg (by rw[h.hn];simp;omega),aq,M,sb,nt s m om,sb,C,sb];rw[CZ h8 J _ (λb R V=>by rw[E b R V];rfl)];have W:lme X.p X.q L (d+1) f=(List.range L).findSome? λb:Nat=>lme X.p X.q L d (f++[(b:Int)]):=rfl;rw[W];have H:∀xs:List Nat,(xs.findSome? λb:Nat=>(lme X.p X.q L d (f++[(b:Int)])).map λg=>(g,true))=(xs.findSome? λb:Nat=>lme X.p X.q L d (f++[(b:Int)])).map λg=>(g,true):=by
   intro xs
   induction xs with
   |nil=>rfl
   |cons x xs ih=>
    rw[cH,cH];cases lme X.p X.q L d (f++[(x:Int)]) with
    |none=>exact ih
    |some g=>rfl
  rw[H];cases (List.range L).findSome? λb:Nat=>lme X.p X.q L d (f++[(b:Int)]) with
  |none=>rfl
  |some g=>rfl
theorem wU{l m:List (List Int)}{g h:List Int}(j:∀x∈l,rowP x)(f:∃z,g=h++z)(i:∀x∈l,srt (imgL g x)∈m):keptP l m h:=λx a e=>by
 have:=i x a;obtain⟨z,rfl⟩:=f;have b:imgL (h++z) x=imgL h x:=by
  unfold imgL;refine jX λy d=>?_;have:=xq (j x a) e y d;rw[ax,bN om,ax]
 rwa [b] at this
structure Tw (p q:c_):Prop where
  pG:probB p=true
  qG:probB q=true
  pN:p.Nodes.length<=100000000
  pE:p.Edges.length<=100000000
  qN:q.Nodes.length<=100000000
  qE:q.Edges.length<=100000000
  D:p.Degree=q.Degree
theorem xg(p q:c_)(h:Tw p q):∀(d:Nat)(f:List Int)(a:Nat),(f.length:Int)+d=p.Labels->200000000+d<a->(∀k,k<f.length->okI p q (f.take (k+1)))->
  dB a p q f=some (match lme p q q.Labels.toNat d f with|some g=>(true,g)|none=>(false,f))
 |0,f,a,Z,W,B=>by
  obtain⟨m,rfl⟩:∃m,a=m+1:=⟨a-1,om⟩;obtain⟨Q,S,I,K,E,H⟩:=aN h.pG;have w:vmap p q f:=⟨wV (n:=f.length) rfl (λx o=>by have:=nW E I om x o;rwa [show(p.Labels.toNat:Int)=f.length by omega] at this) (λk s=>(B k s).1),wV (n:=f.length) rfl (λx o=>by have:=nW H om om x o;rwa [show(p.Labels.toNat:Int)=f.length by omega] at this) (λk s=>(B k s).2)⟩;have G:lme p q q.Labels.toNat 0 f=some f:=by unfold lme;exact if_pos w
  unfold dB;rw[if_pos (by simp;omega),G]
 | d+1,f,a,Z,W,B=>by
  obtain⟨m,rfl⟩:∃m,a=m+1:=⟨a-1,om⟩;obtain⟨Q,S,I,K,E,H⟩:=aN h.pG;obtain⟨k1,k2,k3,k4,T,k6⟩:=aN h.qG;have N:=h.qN;have bqE:=h.qE;have R:=h.D;have F:=nN E I K;have L:=nN H om om;have t:=nG (body:=kv m p q (dB m)) f (λb:Nat=>(lme p q q.Labels.toNat d (f++[(b:Int)])).map λg=>(true,g)) q.Labels.toNat (λj hj=>by
   have i:(ck (((f++[(j:Int)]).length:Int)-1))=some (f.length:Int)∧cut (f++[(j:Int)]) 0 (f.length:Int)=some f:=by
    refine⟨by rw[n_ (by simp<;>omega) (by simp<;>omega),ar,bn];(try (congr 1;omega)),?_⟩;unfold cut;rw[if_pos ⟨N_ 0,om,by simp;omega⟩];simp
   have y:push f (j:Int)=some (f++[(j:Int)]):=by unfold push;rw[if_pos om]
   have u:(f++[(j:Int)]).length<=1000:=by simp;omega
   unfold kv;rw[y,sb];obtain⟨X,U,J⟩:=vx m p.Nodes q.Nodes (⟨⟨p.Labels,p.Degree,p.Nodes,p.Edges⟩,⟨q.Labels,q.Degree,q.Nodes,q.Edges⟩,f++[(j:Int)]⟩:cy) q.Degree q.Labels T om om (λx o=>⟨(F x o).1,by rw[(F x o).2,R]⟩) u;rw[U,sb];cases X
   ·have v:lme p q q.Labels.toNat d (f++[(j:Int)])=none:=jE λg Y O w=>by
     have:=J.2 (wU (λx o=>(F x o).1) ⟨g,rfl⟩ w.1);cases this
    rw[if_neg sy,sb,if_neg sy,i.1,sb,i.2,sb,v];rfl
   ·obtain⟨b2,V,M⟩:=vx m p.Edges q.Edges (⟨⟨p.Labels,p.Degree,p.Nodes,p.Edges⟩,⟨q.Labels,q.Degree,q.Nodes,q.Edges⟩,f++[(j:Int)]⟩:cy) 2 q.Labels k6 om om (λx o=>L x o) u;rw[if_pos rfl,V,sb];cases b2
    ·have v:lme p q q.Labels.toNat d (f++[(j:Int)])=none:=jE λg Y O w=>by
      have:=M.2 (wU (λx o=>(L x o).1) ⟨g,rfl⟩ w.2);cases this
     rw[if_neg sy,sb,if_neg sy,i.1,sb,i.2,sb,v];rfl
    ·have C:∀k,k<(f++[(j:Int)]).length->okI p q ((f++[(j:Int)]).take (k+1)):=λk s=>by
      by_cases e:k<f.length
      ·rw[xX om];exact B k e
      ·rw[ar,bn] at s;rw[cu (by simp;omega)];exact⟨J.1 rfl,M.1 rfl⟩
     have ih:=xg p q h d (f++[(j:Int)]) m (by simp;omega) om C;rw[if_pos rfl,ih,sb,sb];cases o:lme p q q.Labels.toNat d (f++[(j:Int)]) with
     |none=>
      simp only[oO,cl,if_false];rw[i.1,sb,i.2,sb]
     |some g=>rfl) q.Labels.toNat 0 om
  unfold dB;rw[if_neg (by simp;omega),n_ om om,sb];rw[show((0:Nat):Int)=0 from rfl] at t;rw[t,sb];have G:lme p q q.Labels.toNat (d+1) f=(List.range q.Labels.toNat).findSome? λb:Nat=>lme p q q.Labels.toNat d (f++[(b:Int)]):=rfl;rw[G,jY];have A:∀xs:List Nat,(xs.findSome? λb:Nat=>(lme p q q.Labels.toNat d (f++[(b:Int)])).map λg=>(true,g))=(xs.findSome? λb:Nat=>lme p q q.Labels.toNat d (f++[(b:Int)])).map λg=>(true,g):=by
   intro xs
   induction xs with
   |nil=>rfl
   |cons x xs ih=>
    rw[cH,cH];cases lme p q q.Labels.toNat d (f++[(x:Int)]) with
    |none=>exact ih
    |some g=>rfl
  rw[A];cases (List.range' 0 q.Labels.toNat).findSome? λb:Nat=>lme p q q.Labels.toNat d (f++[(b:Int)]) with
  |none=>rfl
  |some g=>rfl
noncomputable def lmapV(p q:c_):List Int×Bool:=if probB p&&probB q&&p.Degree==q.Degree then((lme p q q.Labels.toNat p.Labels.toNat []).getD [],(lme p q q.Labels.toNat p.Labels.toNat []).isSome) else([],false)
theorem EI(a:Nat)(g:200000000<=a)(p q:c_)(d:p.Nodes.length<=100000000)(e:p.Edges.length<=100000000)(f:q.Nodes.length<=100000000)(b:q.Edges.length<=100000000):
  lX a p q=some (probB p&&probB q&&p.Degree==q.Degree)∧kL a p q=some (probB p&&probB q&&p.Degree==q.Degree):=by
 unfold lX kL;simp only[jD a om p om om,jD a om q om om,ja a om p om om,ja a om q om om,sb];cases probB p<;>cases probB q<;>exact⟨rfl,rfl⟩
theorem pz(d:Nat)(hf:1000000000<=d)(p q:c_)(G:p.Nodes.length<=100000000)(M:p.Edges.length<=100000000)(W:q.Nodes.length<=100000000)(X:q.Edges.length<=100000000):
  gL d p q=some (lmapV p q)∧gO d p q=some (lmapV p q):=by
 obtain⟨t1,t2⟩:=EI d om p q G M W X;unfold gL gO lmapV;rw[t1,t2,sb,sb];cases hc:(probB p&&probB q&&p.Degree==q.Degree)
 ·exact⟨rfl,rfl⟩
 ·rw[aW,aW,beq_iff_eq] at hc;obtain⟨⟨Z,U⟩,hD⟩:=hc;have h:Tw p q:=⟨Z,U,G,M,W,X,hD⟩;obtain⟨g1,g2,g3,g4,V,Y⟩:=aN Z;obtain⟨k1,k2,k3,k4,k5,k6⟩:=aN U;obtain⟨n,T⟩:∃n:Nat,p.Labels=(n:Int):=⟨p.Labels.toNat,om⟩;obtain⟨L,Q⟩:∃L:Nat,q.Labels=(L:Int):=⟨q.Labels.toNat,om⟩;obtain⟨D,S⟩:∃D:Nat,q.Degree=(D:Int):=⟨q.Degree.toNat,om⟩;simp only[Bool.not_true,cl,if_false,if_true];constructor
  ·have hF:Fnd ⟨p,q,retV q.Nodes L D,retV q.Edges L 2⟩ n L D:=⟨T,Q,om,om,om,om,λx A=>by
    have N:=nW V g3 om x A;have a2:=(nN V g3 g4 x A).2;exact⟨om,λy H=>by have:=N.2.2 y H;omega⟩,λx A=>by
    have N:=nW Y om om x A;have a2:=(nN Y om om x A).2;exact⟨om,λy H=>by have:=N.2.2 y H;omega⟩,G,M,rfl,rfl⟩
   have h2L:2^L<=256:=cY om;have h2p:1<=2^L:=gp;have t:=di (f:=gD p q) (λj=>(List.replicate j (((2^L-1:Nat)):Int),(j:Int))) n (λj hj=>by
    unfold gD;simp only
    unfold push;rw[T,Q,if_pos (su hj),cR om,sb,n_ om om,sb,if_pos (by simp;omega),sb,n_ om om,sb,xN,show((2^L:Nat):Int)-1=((2^L-1:Nat):Int) by omega];rfl) (by
    unfold gD;simp only
    rw[T,if_neg sy]) d 0 om om
   have hS:msk n (List.replicate n (((2^L-1:Nat)):Int)):=⟨cd,λv w=>by rw[(yt.1 w).2];omega⟩;have u:∀a b,a<n->(bo (List.replicate n (((2^L-1:Nat)):Int)) a b<->b<L):=λa b o=>by
    unfold bo;rw[ax,gh,if_pos o,dT,U_,yq];simp
   have R:∀a b,bo (List.replicate n (((2^L-1:Nat)):Int)) a b->b<L:=λa b e=>by
    by_cases o:a<n
    ·exact(u a b o).1 e
    ·unfold bo at e;rw[ax,gh,if_neg o] at e;simp at e
   obtain⟨J,e1,B,e3⟩:=vj _ hF d om _ hS;have s:∀g:List Int,([]:List Int).length+g.length=n->(∀y∈g,0<=y∧y<(L:Int))->vmap p q ([]++g)->inS n L ([]++g) J:=λg E K w=>by
    refine B.keep _ w ⟨by simpa using E,λa o=>?_⟩;obtain⟨b,e,_,I⟩:=fe K (i:=a) (by simp only[bD] at E;omega);refine⟨b,e,by simpa using I,(u a b o).2 e⟩
   have hq1:q.Labels.toNat=L:=om;have O:p.Labels.toNat=n:=om;rw[S,Q,uP d om q.Nodes L D om om om,sb,show(2:Int)=((2:Nat):Int) from rfl,uP d om q.Edges L 2 om om om,sb];rw[show(([]:List Int),(0:Int))=(List.replicate 0 (((2^L-1:Nat)):Int),((0:Nat):Int)) from rfl,t,sb];simp only
   rw[e1,sb,O];rw[show((L:Nat):Int).toNat=L from rfl];by_cases C:(0:Int)∈J
   ·have F:lme p q L n []=none:=jE λg E K w=>wq (s g (su E) K w) B.m C;rw[if_pos (sh C),F];rfl
   ·rw[if_neg (sh C),ws _ hF om n [] J d sy om ⟨B.m,e3,C,λa b e=>R a b (B.sub a b e),λa o=>by simp at o,s⟩,sb]
  ·rw[xg p q h p.Labels.toNat [] d (by simp;omega) om (λk hk=>by simp at hk),sb];cases lme p q q.Labels.toNat p.Labels.toNat [] with
   |none=>rfl
   |some g=>rfl
end
end Go.Proofs.YtpefhaamcihneaaGreat
