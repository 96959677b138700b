/- Part 29 of what this claim rests on (pack.py). -/
import Derived.Test.YtpefhaamcihneaaGreatP28
namespace Go.Proofs.YtpefhaamcihneaaGreat
set_option linter.unusedSimpArgs false
set_option linter.unusedVariables false
section
open Go.Lib
theorem CF(d:Nat)(p:c_)(h:probB p=true)(s:p.Edges.length<=1000000000)(u:p.Edges.length<d)(xs f:List Int):
  ∃l b,eU d p xs f=some (l,b)∧(b=true<->∃a∈xs,∃c∈f,srt [a,c] ∉ p.Edges):=by
 have o:∀a,∃z,forI (eO d p a) f 0 ()=some z∧((z=.inl ()∧∀c∈f,¬srt [a,c] ∉ p.Edges)∨∃r,z=.inr r∧r.2=true∧∃c∈f,srt [a,c] ∉ p.Edges):=λa=>
  iW (body:=eO d p a) (λc=>srt [a,c] ∉ p.Edges) (λr:List Int×Bool=>r.2=true) f 0 (λc _ j=>by
   unfold eO;rw[qF d p h a c s u,sb];by_cases e:srt [a,c]∈p.Edges
   ·exact⟨_,by rw[if_neg (su e)],.inl ⟨rfl,λq=>q e⟩⟩
   ·exact⟨_,by rw[if_pos (su e)],.inr ⟨_,rfl,rfl,e⟩⟩)
 obtain⟨z,i,k⟩:=iW (body:=fD d p f) (λa=>∃c∈f,srt [a,c] ∉ p.Edges) (λr:List Int×Bool=>r.2=true) xs 0 (λa _ j=>by
  obtain⟨z,i,k⟩:=o a;unfold fD;rw[i,sb];rcases k with⟨rfl,g⟩|⟨r,rfl,n,m⟩
  ·exact⟨_,rfl,.inl ⟨rfl,λ⟨c,e,q⟩=>g c e q⟩⟩
  ·exact⟨_,rfl,.inr ⟨r,rfl,n,m⟩⟩)
 unfold eU;rw[i,sb];rcases k with⟨rfl,g⟩|⟨⟨l,b⟩,rfl,n,m⟩
 ·refine⟨[],false,rfl,sy,λ⟨a,t,e⟩=>absurd e (g a t)⟩
 ·exact⟨l,b,rfl,λ_=>m,λ_=>n⟩
open Classical in
theorem Ac(fuel:Nat)(p:c_)(h:probB p=true)(hJ:p.Edges.length<=1000000000)(hf:p.Edges.length<fuel)(xs ys:List Int):
    kS fuel p xs ys=some (decide (∀a∈xs,∀c∈ys,srt [a,c]∈p.Edges)):=by
  obtain⟨l,b,h1,h2⟩:=CF fuel p h hJ hf xs ys
  unfold kS
  rw[h1,sb]
  congr 1
  cases b
  · have:∀a∈xs,∀c∈ys,srt [a,c]∈p.Edges:=λa ha c hc=>ge λhn=>by simpa using h2.2 ⟨a,ha,c,hc,hn⟩
    rw[decide_eq_true this];rfl
  · obtain⟨a,ha,c,hc,hn⟩:=h2.1 rfl
    have:¬∀a∈xs,∀c∈ys,srt [a,c]∈p.Edges:=λhh=>hn (hh a ha c hc)
    rw[decide_eq_false this];rfl
theorem vv(d:Nat)(p:c_)(h:probB p=true)(n:p.Edges.length<=1000000000)(q:p.Edges.length<d)(o:10<=d)(S:Nat)(x:S<256):jp d p (S:Int)=some ((nearN p S:Nat):Int):=by
 obtain⟨B,u,A,w,-,-⟩:=aO h;obtain⟨L,t⟩:∃L:Nat,p.Labels=(L:Int):=⟨p.Labels.toNat,om⟩;have e:=dj (body:=kX d p (S:Int)) (λj=>((bitsP (λb=>∀a∈lbs 8 S,srt [a,(b:Int)]∈p.Edges) j:Nat):Int)) L (λj v=>by
  have m:=dO (λb:Nat=>∀a∈lbs 8 S,srt [a,(b:Int)]∈p.Edges) j;have y:2^j<=256:=cY om;unfold kX;rw[tC 8 S d om om om,sb,Ac d p h n q,sb];by_cases g:∀a∈lbs 8 S,srt [a,(j:Int)]∈p.Edges
  ·have f:∀a∈lbs 8 S,∀c∈ [(j:Int)],srt [a,c]∈p.Edges:=λa i c k=>by rw[be.1 k];exact g a i
   rw[if_pos (decide_eq_true f),cP om,sb,qq om om,nN g]
  ·have f:¬∀a∈lbs 8 S,∀c∈ [(j:Int)],srt [a,c]∈p.Edges:=λs=>g λa i=>s a i _ sy;rw[if_neg (su f),nV g])
 unfold jp nearN;rw[t,n_ om om,sb,U_];simp only[bitsP,ym] at e;rw[e,sb]
theorem cc1:∀(full:List (List Int))(k:Int)(s:Nat),s+full.flatten.length<=1000000000->forI gu full k (s:Int)=some (.inl ((s+full.flatten.length:Nat):Int))
 |[],k,s,_=>by simp[forI]
 | x::full,k,s,h=>by
  rw[br,ar] at h;have a:gu k x (s:Int)=some (.go ((s+x.length:Nat):Int)):=by
   unfold gu;rw[n_ om om,sb,if_neg (by simp;omega)];rfl
  simp only[forI,a];rw[cc1 full (k+1) (s+x.length) om,br,ar,qX]
theorem cc2:∀(full:List (List Int))(k:Int)(a:List Int),a.length+full.flatten.length<=1000000000->forI gv full k a=some (.inl (a++full.flatten))
 |[],k,a,_=>by simp[forI]
 | x::full,k,a,h=>by
  rw[br,ar] at h;have b:gv k x a=some (.go (a++x)):=by
   unfold gv cat
   rw[if_pos om,sb]
  simp only[forI,b];rw[cc2 full (k+1) (a++x) (by rw[ar];omega),br,bC]
theorem Dh(full:List (List Int))(h:full.flatten.length<=1000000000):ki full=some full.flatten:=by
 have b:=cc1 full 0 0 om;have a:=cc2 full 0 [] (su h);rw[an,show((0:Nat):Int)=0 from rfl] at b;rw[bz] at a;unfold ki growO;rw[b,sb];simp only
 rw[if_pos om,sb,a,sb]
theorem xK{zs:List Int}(f:zs.Pairwise (·<=·)){i j:Nat}(g:i<=j)(a:j<zs.length):zs.toArray[i]! <=zs.toArray[j]! :=by
 have d:zs.toArray[i]! =zs[i]'om:=by simp[show i<zs.length by omega]
 have b:zs.toArray[j]! =zs[j]:=by simp[a]
 rw[d,b];by_cases e:i=j
 ·subst e;exact N_ _
 ·exact dw.1 f i j om a om
theorem sR{zs:List Int}(n:zs.Pairwise (·<=·)):∀m,m<=zs.length->(∀y,y∈compactUpTo zs.toArray m<->∃j,j<m∧zs.toArray[j]! =y)∧(compactUpTo zs.toArray m).Pairwise (·<·)
 |0,_=>by simp[compactUpTo]
 | m+1,v=>by
  obtain⟨h,o⟩:=sR n m om;rw[compactUpTo_succ];by_cases d:m=0∨zs.toArray[m]! ≠zs.toArray[m-1]!
  ·have k:keeps zs.toArray m=true:=by
    rcases d with rfl|d
    ·exact keeps_lt_one _ 0 om
    ·exact keeps_pos d
   rw[if_pos k];constructor
   ·intro y;rw[bX,h,be];constructor
    ·rintro(⟨j,g,e⟩|rfl)
     ·exact⟨j,om,e⟩
     ·exact⟨m,om,rfl⟩
    ·rintro⟨j,g,e⟩;by_cases f:j=m
     ·subst f;exact .inr e.symm
     ·exact .inl ⟨j,om,e⟩
   ·rw[ez];refine⟨o,sy,λa q b t=>?_⟩;rw[be.1 t];obtain⟨j,g,rfl⟩:=(h a).1 q;rcases d with rfl|d
    ·omega
    ·have x:=xK n (i:=j) (j:=m-1) om om;have u:=xK n (i:=m-1) (j:=m) om om;omega
  ·have s:0<m:=Nat.pos_of_ne_zero λe=>d (.inl e);have p:zs.toArray[m]! =zs.toArray[m-1]! :=ge λe=>d (.inr e);rw[if_neg (by rw[keeps_neg s p];simp),bm];refine⟨λy=>?_,o⟩;rw[h];constructor
   ·rintro⟨j,g,e⟩;exact⟨j,om,e⟩
   ·rintro⟨j,g,e⟩;by_cases f:j=m
    ·subst f;exact⟨j-1,om,by rw[<-p,e]⟩
    ·exact⟨j,om,e⟩
theorem AD{zs:List Int}(e:zs.Pairwise (·<=·)):(compact zs).Pairwise (·<·)∧∀y,y∈compact zs<->y∈zs:=by
 obtain⟨d,b⟩:=sR e zs.length (K_ _);refine⟨b,λy=>?_⟩;show y∈compactUpTo zs.toArray zs.length<->_;rw[d,mB];constructor
 ·rintro⟨j,a,rfl⟩;exact⟨j,a,by simp[a]⟩
 ·rintro⟨j,a,rfl⟩;exact⟨j,a,by simp[a]⟩
theorem DW{xs:List Int}(h:∀x∈xs,0<=x∧x<256):compact (srt xs)=sdI xs:=by
 obtain⟨d,b⟩:=AD (fP xs);refine vK d (lX xs) λa=>?_;rw[b,mg h,(cA xs).mem_iff]
theorem uw(d:Nat)(sets:List Int)(f:sets.Pairwise (·<·))(i:sets.length<=1000)(j:1000<d):∀(x:List Int)(k:Int)(e:List Int),e.length+x.length<=1000000000->forI (ic d sets) x k e=some (.inl (e++x.map (idxI sets)))
 |[],k,e,_=>by simp[forI]
 | y::x,k,e,h=>by
  rw[ao] at h;have g:ic d sets k y e=some (.go (e++[idxI sets y])):=by
   unfold ic;rw[zA d sets y (f.imp λ{a b} h=>om) om om,sb];unfold push;rw[if_pos om,sb];rfl
  simp only[forI,g];rw[uw d sets f i j x (k+1) _ (by rw[ar,bn];omega),bd,bC,dW]
theorem uf(a:Nat)(sets:List Int)(e:sets.Pairwise (·<·))(f:sets.length<=1000)(g:1000<a):∀(full:List (List Int))(k:Int)(b:List (List Int)),(∀x∈full,x.length<=1000)->b.length+full.length<=1000000000->forI (hZ a sets) full k b=some (.inl (b++full.map (nmb sets)))
 |[],k,b,_,_=>by simp[forI]
 | x::full,k,b,d,h=>by
  rw[ao] at h;have j:=d x sy;have i:hZ a sets k x b=some (.go (b++[nmb sets x])):=by
   unfold hZ;rw[uw a sets e f g x 0 [] (by simp;omega),sb];simp only[bz];unfold srtO push;rw[if_pos (by rw[aA];omega),sb,if_pos om,sb];rfl
  simp only[forI,i];rw[uf a sets e f g full (k+1) _ (λy m=>d y (sh m)) (by rw[ar,bn];omega),bd,bC,dW]
theorem tU{d:Nat}:∀{full:List (List Int)},(∀x∈full,x.length=d)->full.flatten.length=full.length*d
 |[],_=>by simp
 |x::full,h=>by
  rw[br,ar,tU λy a=>h y (by simp[a]),h x (by simp),ao,dU,qV]
theorem sQ(a:Nat)(q:1000<a){d:Nat}(j:d<=4)(full:List (List Int))(e:∀x∈full,x.length=d∧∀y∈x,0<=y∧y<256)(k:full.length<=100000000):
  iT a full=some (sdI full.flatten,sxd (full.map (nmb (sdI full.flatten)))):=by
 have i:=tU (full:=full) λx h=>(e x h).1;have b:full.flatten.length<=1000000000:=by
  rw[i];have:full.length*d<=100000000*4:=mw k j;omega
 have g:∀y∈full.flatten,0<=y∧y<256:=λy s=>by
  obtain⟨x,f,m⟩:=ga.1 s;exact(e x f).2 y m
 have o:=ql full.flatten;have p:=uf a (sdI full.flatten) (lX _) om q full 0 [] (λx h=>by rw[(e x h).1];omega) (by simp;omega);unfold iT;rw[Dh full b,sb];unfold srtO cmpO;rw[if_pos b,sb,if_pos (by rw[eV];exact b),sb,DW g,p,sb];simp only[bz];rw[qp (L:=d) (by rw[aA];omega) om (λz n=>by
  obtain⟨x,f,rfl⟩:=aM.1 n;rw[jK,(e x f).1]),sb]
theorem tD(a:Nat)(o:10<=a)(sets:List Int)(i:∀s∈sets,0<=s∧s<256):∀(c:List Int)(k:Int)(b:List (List Int)),(∀y∈c,0<=y∧y<sets.length)->b.length+c.length<=1000000000->forI (iC a sets) c k b=some (.inl (b++(imgL sets c).map λs=>lbs 8 s.toNat))
 |[],k,b,_,_=>by simp[forI,imgL]
 | y::c,k,b,g,h=>by
  rw[ao] at h;have q:=g y sy;have d:y.toNat<sets.length:=om;have j:=i _ (aV d);have p:iC a sets k y b=some (.go (b++[lbs 8 sets[y.toNat].toNat])):=by
   unfold iC;have f:ix sets y=some sets[y.toNat]:=by
    have:=bM sets y.toNat d;rwa [co q.1] at this
   have e:fK a sets[y.toNat]=some (lbs 8 sets[y.toNat].toNat):=by
    have:=tC 8 sets[y.toNat].toNat a om om om;rwa [co j.1] at this
   rw[f,sb,e,sb];unfold push;rw[if_pos om,sb]
  have n:sets.getD y.toNat 0=sets[y.toNat]:=by rw[ax,x_ d];rfl
  simp only[forI,p];rw[tD a o sets i c (k+1) _ (λz m=>g z (sh m)) (by rw[ar,bn];omega)];simp only[imgL,bd,n,bC,dW]
theorem tV(a:Nat)(e:10<=a)(sets:List Int)(d:∀s∈sets,0<=s∧s<256)(c:List Int)(b:∀y∈c,0<=y∧y<sets.length)(f:c.length<=1000):jf a sets c=some ((imgL sets c).map λs=>lbs 8 s.toNat):=by
 unfold jf;rw[tD a e sets d c 0 [] b (by simp;omega),sb];rfl
theorem jH:∀{xs:List Int}{m:List Int},(∀s∈xs,0<=s∧s<256)->(cho (xs.map Int.toNat) m<->m.length=xs.length∧∀(i:Nat) L a,(xs.map λs=>lbs 8 s.toNat)[i]? =some L->m[i]? =some a->a∈L)
 |[],m,_=>by
  cases m with
  |nil=>simp[cho]
  |cons a m=>simp[cho]
 | s::xs,m,h=>by
  have o:=h s sy;rw[bd,lY om];constructor
  ·rintro⟨a,p,rfl,k,n⟩;obtain⟨f,g⟩:=(jH λz j=>h z (sh j)).1 n;refine⟨by simp[f],λi L b d e=>?_⟩;cases i with
   |zero=>simp at d e;subst d e;exact k
   |succ i=>exact g i L b (su d) (su e)
  ·rintro⟨f,g⟩;cases m with
   |nil=>simp at f
   |cons a m=>
    refine⟨a,m,rfl,g 0 _ a sy sy,(jH λz j=>h z (sh j)).2 ⟨by simpa using f,λi L b d e=>g (i+1) L b (su d) (su e)⟩⟩
theorem oD{sets c:List Int}(b:∀s∈sets,0<=s∧s<256)(a:∀y∈c,0<=y∧y<sets.length):∀s∈imgL sets c,0<=s∧s<256:=λs h=>b s (vD a h)
open Classical in
theorem zZ(fuel:Nat)(p:c_)(h:probB p=true)(hJ:p.Nodes.length<=1000000000)(hf:p.Nodes.length<fuel)(hf9:10<=fuel)(sets:List Int)(hs:∀s∈sets,0<=s∧s<256)(c:List Int)(hc:∀y∈c,0<=y∧y<sets.length)(hl:(c.length:Int)=p.Degree):
    eP fuel c p sets=some (decide (chS p.Nodes sets c)):=by
  obtain⟨g1,g2,g3,g4,-,-⟩:=aO h
  have hil:=eY sets c
  obtain⟨l,b,e1,e2⟩:=sf fuel ((imgL sets c).map λs=>lbs 8 s.toNat) (λz=>fp fuel z p) (λm=>decide (srt m∈p.Nodes)) (λm hm=>by
    rw[aA,hil] at hm
    unfold fp
    rw[xk fuel p h m (by rw[hm];exact hl) hJ hf,sb]) (by rw[aA,hil];omega) (by rw[aA,hil];omega)
  unfold eP mP
  rw[tV fuel hf9 sets hs c hc om,sb,e1,sb,sb]
  have hiff:chS p.Nodes sets c<->b=true:=by
    rw[e2]
    unfold chS
    constructor
    · rintro⟨m,hm,hg⟩
      obtain⟨q1,q2⟩:=(jH (oD hs hc)).1 hm
      exact⟨m,by rw[aA];exact q1,q2,by simpa using hg⟩
    · rintro⟨m,q1,q2,hg⟩
      exact⟨m,(jH (oD hs hc)).2 ⟨by rw[aA] at q1;exact q1,q2⟩,by simpa using hg⟩
  cases b<;>simp[hiff]
open Classical in
theorem Av(fuel:Nat)(p:c_)(h:probB p=true)(hJ:p.Edges.length<=1000000000)(hf:p.Edges.length<fuel)(hf9:10<=fuel)(sets:List Int)(hs:∀s∈sets,0<=s∧s<256)(c:List Int)(hc:∀y∈c,0<=y∧y<sets.length)(hl:c.length=2):
    eN fuel c p sets=some (decide (chS p.Edges sets c)):=by
  have hil:=eY sets c
  obtain⟨l,b,e1,e2⟩:=sf fuel ((imgL sets c).map λs=>lbs 8 s.toNat) (λz=>fq fuel z p) (λm=>decide (srt m∈p.Edges)) (λm hm=>by
    rw[aA,hil,hl] at hm
    match m,hm with
    | [a,b],_=>
      unfold fq
      rw[show ix [a,b] 0=some a from rfl,sb,show ix [a,b] 1=some b from rfl,sb,qF fuel p h a b hJ hf,sb]) (by rw[aA,hil];omega) (by rw[aA,hil];omega)
  unfold eN mR
  rw[tV fuel hf9 sets hs c hc om,sb,e1,sb,sb]
  have hiff:chS p.Edges sets c<->b=true:=by
    rw[e2]
    unfold chS
    constructor
    · rintro⟨m,hm,hg⟩
      obtain⟨q1,q2⟩:=(jH (oD hs hc)).1 hm
      exact⟨m,by rw[aA];exact q1,q2,by simpa using hg⟩
    · rintro⟨m,q1,q2,hg⟩
      exact⟨m,(jH (oD hs hc)).2 ⟨by rw[aA] at q1;exact q1,q2⟩,by simpa using hg⟩
  cases b<;>simp[hiff]
theorem sW(a n d:Nat)(G:List Int->Option Bool)(g:List Int->Bool)(i:∀c,ndP n d c->G c=some (g c))(j:n<=8)(o:d<=4)(m:100<=a):iK a (n:Int) (d:Int) G=some ((msD n d).filter g):=by
 have h:∀k,k<=d->n^k<=1000000000:=λk p=>by have:=cM (L:=n) (k:=k) j om;omega
 have e:=aH (ep n d) (h d (K_ d));have b:∀c∈msD n d,eL c G=some (!g c):=λc f=>by
  unfold eL;rw[i c ((cR n d c).1 f),sb]
 unfold iK delL;rw[sK n d a om om h om,sb,if_pos,sb]
 ·congr 1;refine oR λc f=>?_;show((eL c G).getD true==false)=g c;rw[b c f];cases g c<;>rfl
 ·rw[aW,decide_eq_true_eq,bE];exact⟨e,λc f=>by
   show(eL c G).isSome=true;rw[b c f];rfl⟩
theorem Bd(b:Nat)(I:1000000000<=b)(p:c_)(h:probB p=true)(E:p.Nodes.length<=100000000)(J:p.Edges.length<=100000000):ly b p=some (edgeV p):=by
 obtain⟨H,q,G,F,-,-⟩:=aO h;have A:2^p.Labels.toNat<=256:=cY om;have w:1<=2^p.Labels.toNat:=gp;have g:shl 1 p.Labels=some ((2^p.Labels.toNat:Nat):Int):=by
  have:=cP (a:=p.Labels.toNat) om;rwa [co om] at this
 have v:edgeV p=madeV p (fullTo p (2^p.Labels.toNat-1)) true:=rfl;have o:∀x∈fullTo p (2^p.Labels.toNat-1),x.length=2∧∀y∈x,0<=y∧y<256:=pU p q;obtain⟨N,C⟩:∃N:Nat,2^p.Labels.toNat=N:=⟨_,rfl⟩;rw[C] at w A g v o;have i:=di (f:=iw b p) (λj=>(fullTo p j,((j+1:Nat):Int))) (N-1) (λj D=>by
  have m:=lz p j;unfold iw;simp only
  rw[g,sb,if_pos (by simp;omega),vv b p h om om om (j+1) om,sb,sO];have B:=qc p (j+1) q;by_cases e:0<nearN p (j+1)
  ·rw[if_pos (by simp;omega),vv b p h om om om _ B,sb,sb];by_cases k:nearN p (nearN p (j+1))=j+1
   ·rw[if_pos (by simp;omega),if_pos ⟨e,k⟩];unfold push;rw[if_pos om,sb,n_ om om,sb];rfl
   ·rw[if_neg (by simp;omega),if_neg (λh=>k h.2),n_ om om,sb];rfl
  ·rw[if_neg (by simp;omega),sb,if_neg sy,if_neg (λh=>e h.1),n_ om om,sb];rfl) (by
  unfold iw;simp only
  rw[g,sb,if_neg (by simp;omega)]) b 0 om om
 unfold ly;rw[show(([]:List (List Int)),(1:Int))=(fullTo p 0,((0+1:Nat):Int)) from by simp[fullTo],i,sb];simp only
 have m:=lz p (N-1);rw[sQ b om (d:=2) om _ o om,sb,v];generalize fullTo p (N-1)=full at o m;have n:∀s∈sdI full.flatten,0<=s∧s<256:=λs h=>(qB h).1;simp only
 rw[fQ,sb];unfold madeV;by_cases e:1<=(sdI full.flatten).length∧(sdI full.flatten).length<=8
 ·rw[if_neg (by simp;omega),if_pos e];have u:p.Degree=((p.Degree.toNat:Nat):Int):=om;have t:=sW b (sdI full.flatten).length p.Degree.toNat (λz=>eP b z p (sdI full.flatten)) (λc=> @decide (chS p.Nodes (sdI full.flatten) c) (Classical.propDecidable _)) (λc e=>zZ b p h om om om _ n c e.2.2 (by rw[e.1];exact u.symm)) e.2 om om;rw[<-u] at t;rw[t,sb];simp only[if_true];rfl
 ·rw[if_pos (by simp;omega),if_neg e]
theorem uo{ρ:Type}{f:Int->Int->List Int->Option (Lp (List Int) (List Int) ρ)}(b:∀k x s,f k x s=((ck (x+1))>>=λy=>(push s y)>>=λz=>some (.go z))):∀(c:List Int)(k:Int)(a:List Int),(∀y∈c,0<=y∧y<=1000)->a.length+c.length<=1000000000->forI f c k a=some (.inl (a++c.map (·+1)))
 |[],k,a,_,_=>by simp[forI]
 | y::c,k,a,d,h=>by
  rw[ao] at h;have i:=d y sy;have e:f k y a=some (.go (a++[y+1])):=by
   rw[b,n_ om om,sb];unfold push;rw[if_pos om,sb]
  simp only[forI,e];rw[uo b c (k+1) _ (λz g=>d z (sh g)) (by rw[ar,bn];omega),bd,bC,dW]
theorem ud{α β γ:Type}(f:α->β)(g:β->List γ):∀xs:List α,(xs.map f).flatMap g=xs.flatMap λx=>g (f x)
 |[]=>rfl
 |x::xs=>by rw[bd,eA,eA,ud f g xs]
open Classical in
theorem AV(fuel:Nat)(hf:1000000000<=fuel)(p:c_)(h:probB p=true):ko fuel (nsV p)=some (sxd (fullJ p)):=by
  obtain⟨g1,g2,g3,g4,-,-⟩:=aO h
  obtain⟨L,hL⟩:∃L:Nat,p.Labels=(L:Int):=⟨p.Labels.toNat,om⟩
  obtain⟨e,hD⟩:∃e:Nat,p.Degree=((e+1:Nat):Int):=⟨p.Degree.toNat-1,om⟩
  have hLt:p.Labels.toNat=L:=om
  have hDt:p.Degree.toNat-1=e:=om
  have h256:=cY (L:=L) om
  have h1:1<=2^L:=gp
  have hpw:∀k,k<=e->(2^L-1)^k<=16777216:=λk hk=>by
    have q1:(2^L-1)^k<=256^k:=jV om k
    have q2:256^k<=256^3:=bF dc om
    omega
  have hJ:fullJ p=(msD (2^L-1) e).flatMap λc=>if cmI L p.Nodes (c.map (·+1))≠0∧fullI L p.Nodes (c.map (·+1)++[cmI L p.Nodes (c.map (·+1))]) then [srt (c.map (·+1)++[cmI L p.Nodes (c.map (·+1))])] else []:=by
    unfold fullJ
    rw[hLt,hDt,ud]
  have hJl:(fullJ p).length<=16777216:=by
    rw[hJ]
    have q1:=ep (2^L-1) e
    have q2:=hpw e (K_ e)
    have q3:=jz (m:=1) (g:=λc=>if cmI L p.Nodes (c.map (·+1))≠0∧fullI L p.Nodes (c.map (·+1)++[cmI L p.Nodes (c.map (·+1))]) then [srt (c.map (·+1)++[cmI L p.Nodes (c.map (·+1))])] else []) (msD (2^L-1) e) (λx _=>by
      split<;>simp)
    omega
  have hJd:∀z∈fullJ p,z.length=e+1:=λz hz=>by
    have:=(nZ p ⟨om,g2⟩ g3 z ((qo p z).1 hz)).1
    omega
  have hloop:=eh (body:=kj fuel (nsV p)) (λc=>if cmI L p.Nodes (c.map (·+1))≠0∧fullI L p.Nodes (c.map (·+1)++[cmI L p.Nodes (c.map (·+1))]) then [srt (c.map (·+1)++[cmI L p.Nodes (c.map (·+1))])] else []) 1000000000 (msD (2^L-1) e) 0 [] (by rw[<-hJ];simp;omega) (λc hc j ac hac=>by
    obtain⟨m1,m2,m3⟩:=(cR _ _ _).1 hc
    have hlin:∀s∈c.map (·+1),0<=s∧s.toNat<2^L:=λs hs=>by
      obtain⟨y,hy,rfl⟩:=aM.1 hs
      have:=m3 y hy
      omega
    have hcm:=sw fuel p h om (c.map (·+1)) (by rw[hLt];exact hlin) (by rw[aA,m1,hD];omega)
    rw[hLt] at hcm
    have hcin:=oB L p.Nodes (c.map (·+1))
    have hcin2:(cmI L p.Nodes (c.map (·+1))).toNat<2^L:=by
      have h2:((2^L:Nat):Int)=(2:Int)^L:=sy
      omega
    have hif:=DE fuel p h om (c.map (·+1)++[cmI L p.Nodes (c.map (·+1))]) (by
      rw[hLt]
      intro s hs
      rcases bX.1 hs with hs|hs
      · exact hlin s hs
      · rw[be.1 hs];exact⟨hcin.1,hcin2⟩) (by rw[ar,aA,m1,hD];rfl)
    rw[hLt] at hif
    have hpl:=uo (f:=mN) (λk x s=>rfl) c 0 [] (λy hy=>by have:=m3 y hy;omega) (by simp;omega)
    rw[bz] at hpl
    have hml:(c.map (·+1)).length=e:=by rw[aA,m1]
    unfold kj mkc
    rw[show(nsV p).p.Degree=p.Degree from rfl,if_pos om,sb,hpl,sb]
    simp only
    rw[hcm,sb]
    generalize cmI L p.Nodes (c.map (·+1))=z at hif hac ⊢
    generalize c.map (·+1)=l at hif hac hml ⊢
    by_cases hz:z=0
    · rw[if_pos (su hz),if_neg (λhh=>hh.1 hz),bm]
    · rw[if_neg (su hz)]
      unfold push
      rw[if_pos om,sb,hif,sb]
      by_cases hfl:fullI L p.Nodes (l++[z])
      · rw[if_pos ⟨hz,hfl⟩,bn] at hac
        rw[if_pos (decide_eq_true hfl),if_pos ⟨hz,hfl⟩]
        unfold srtO
        rw[if_pos (by rw[ar,bn];omega),sb,if_pos om,sb]
      · rw[if_neg (su hfl),if_neg (λhh=>hfl hh.2),bm])
  rw[<-hJ,bz] at hloop
  unfold ko
  rw[show(nsV p).p.Labels=p.Labels from rfl,hL,cP om,sb,show(((2^L:Nat):Int)-1)=((2^L-1:Nat):Int) by omega,n_ om om,sb,show(nsV p).p.Degree=p.Degree from rfl,hD,show(((e+1:Nat):Int)-1)=(e:Int) by omega,n_ om om,sb,
    sK (2^L-1) e fuel om om (λk hk=>by have:=hpw k hk;omega) om,sb,hloop,sb]
  simp only
  rw[qp (L:=e+1) om om hJd,sb]
theorem BB(a:Nat)(B:1000000000<=a)(p:c_)(h:probB p=true)(F:p.Nodes.length<=100000000)(L:p.Edges.length<=100000000):lw a p=some (nodeV p):=by
 obtain⟨K,t,w,I,-,-⟩:=aO h;have g:=nZ p ⟨om,t⟩ w;have j:∀z∈fullJ p,z.length=p.Degree.toNat:=λz u=>(g z ((qo p z).1 u)).1;have b:∀z,z∈sxd (fullJ p)<->z∈fullS p:=λz=>by rw[(mo j).2,qo]
 have m:∀x∈sxd (fullJ p),x.length=p.Degree.toNat∧∀y∈x,0<=y∧y<256:=λx D=>g x ((b x).1 D);have C:=AP p false p.Degree.toNat m b;have i:(sxd (fullJ p)).length<=100000000:=by
  have o:=oh (fullJ p) [];have H:(fullJ p).length<=16777216:=by
   have o:=ep (2^p.Labels.toNat-1) (p.Degree.toNat-1);have M:2^p.Labels.toNat<=256:=cY om;have J:(2^p.Labels.toNat-1)^(p.Degree.toNat-1)<=256^(p.Degree.toNat-1):=jV om _;have G:256^(p.Degree.toNat-1)<=256^3:=bF dc om;have E:(fullJ p).length<=((msD (2^p.Labels.toNat-1) (p.Degree.toNat-1)).map λc=>c.map (·+1)).length*1:=by
    unfold fullJ;exact jz _ λx _=>by split<;>simp
   rw[aA] at E;omega
  simp only[bD,an] at o;show(sxd (fullJ p)).length<=_;unfold sxd;omega
 unfold lw nodeV;by_cases e:p.Degree=4∧6<p.Labels
 ·rw[if_pos (su e.1),sb,if_pos (su e.2),if_pos e]
 ·rw[if_neg e];have A:(if(p.Degree==4)=true then some (decide (p.Labels>6)) else some false)=some false:=by
   by_cases n:p.Degree=4
   ·rw[if_pos (su n)];have:¬p.Labels>6:=λv=>e ⟨n,v⟩;simp[this]
   ·rw[if_neg (su n)]
  rw[A,sb,if_neg sy,zJ a p h om om,sb,AV a B p h,sb,sQ a om (d:=p.Degree.toNat) om _ m i,sb,<-C];generalize sxd (fullJ p)=full at m;have k:∀s∈sdI full.flatten,0<=s∧s<256:=λs h=>(qB h).1;simp only
  rw[fQ,sb];unfold madeV;by_cases f:1<=(sdI full.flatten).length∧(sdI full.flatten).length<=8
  ·rw[if_neg (by simp;omega),if_pos f];have q:=sW a (sdI full.flatten).length 2 (λz=>eN a z p (sdI full.flatten)) (λc=> @decide (chS p.Edges (sdI full.flatten) c) (Classical.propDecidable _)) (λc e=>Av a p h om om om _ k c e.2.2 e.1) f.2 om om;rw[show((2:Nat):Int)=2 from rfl] at q;rw[q,sb];simp only[cl,if_false];rfl
  ·rw[if_pos (by simp;omega),if_neg f]
theorem sL(a:Nat)(b:1000000000<=a)(p:c_)(h:probB p=true)(e:p.Nodes.length<=100000000)(f:p.Edges.length<=100000000):iL a p=some (roundV p):=by
 unfold iL roundV;rw[Bd a b p h e f,sb];cases g:(edgeV p).2.2
 ·rw[if_pos (by rfl),if_neg sy]
 ·obtain⟨d,j,i,m⟩:=pB p h g;rw[if_neg sy,if_pos rfl,BB a b _ d j i,sb];cases k:(nodeV (edgeV p).1).2.2
  ·rw[if_pos (by rfl),if_neg sy]
  ·rw[if_neg sy,if_pos rfl]
end
def rowP(x:List Int):Prop:=x≠ []∧x.Pairwise (·<=·)∧(∀y∈x,0<=y)∧x.length<=4
theorem Eh{x:List Int}(h:x≠ [])(b:x.length<=4):(ck ((x.length:Int)-1))=some ((x.length:Int)-1)∧ix x ((x.length:Int)-1)=some (x.getD (x.length-1) 0):=by
 have a:0<x.length:=Gr.2 h;refine⟨n_ om om,?_⟩;rw[show(x.length:Int)-1=((x.length-1:Nat):Int) by omega,aq,ax,x_ om];rfl
theorem xC{x f:List Int}(a:rowP x)(e:x.getD (x.length-1) 0=(f.length:Int)-1):∀y∈x,0<=y∧y<f.length:=λy b=>by
 have:=wi a.2.1 y b;have:=a.2.2.1 y b;omega
theorem vi(a:Nat)(l m:List (List Int))(r:cy)(q nn:Int)(C:confsB m q nn=true)(v:m.length<=1000000000)(o:m.length<a)(u:∀x∈l,rowP x∧(x.length:Int)=q)(G:r.perm.length<=1000):
  ∃b,gT a r l m=some b∧(b=true<->keptP l m r.perm):=by
 obtain⟨z,t,w⟩:=iW (body:=ks a r m ((r.perm.length:Int)-1)) (λx=>x.getD (x.length-1) 0=(r.perm.length:Int)-1∧srt (imgL r.perm x) ∉ m) (λb:Bool=>b=false) l 0 (λx i j=>by
  obtain⟨k,n⟩:=u x i;obtain⟨B,D⟩:=Eh k.1 k.2.2.2;unfold ks;rw[B,sb,D,sb];by_cases e:x.getD (x.length-1) 0=(r.perm.length:Int)-1
  ·have g:=eY r.perm x;have H:=k.2.2.2;have p:=xC k e;have f:=lD (ρ:=Bool) (body:=kq r) (λj=>imgL r.perm (x.take j)) x (λj y s=>by
    have F:=p y (aE s);have hi:ix r.perm y=some (r.perm.getD y.toNat 0):=by
     unfold ix;rw[if_pos F.1,ax,x_ om];rfl
    unfold kq;rw[hi,sb];unfold push;rw[if_pos (by rw[eY,aX];omega),sb,dv,s];simp[imgL])
   rw[cc] at f;rw[if_neg (su e)];rw[show imgL r.perm (x.take 0)=([]:List Int) from rfl] at f;rw[f,sb];simp only
   rw[nJ a m q nn C _ (by rw[g];exact n) v om o,sb];by_cases d:srt (imgL r.perm x)∈m
   ·exact⟨_,by rw[decide_eq_true d,if_neg sy],.inl ⟨rfl,λh=>h.2 d⟩⟩
   ·exact⟨_,by rw[decide_eq_false d,if_pos sy],.inr ⟨_,rfl,rfl,e,d⟩⟩
  ·exact⟨_,by rw[if_pos (su e)],.inl ⟨rfl,λh=>e h.1⟩⟩)
 unfold gT;rw[n_ om om,sb,t,sb];rcases w with⟨rfl,E⟩|⟨b,rfl,rfl,x,i,e,d⟩
 ·exact⟨_,rfl,λ_ x i e=>ge λd=>E x i ⟨e,d⟩,λ_=>rfl⟩
 ·exact⟨_,rfl,sy,λA=>absurd (A x i e) d⟩
theorem nK{X:List (List Int)}{m n:Int}(h:confsB X m n=true)(g:1<=m)(i:m<=4):∀x∈X,rowP x∧(x.length:Int)=m:=λx d=>by
 obtain⟨a,b,c⟩:=(cx h).1 x d;exact⟨⟨λe=>by subst e;simp at a;omega,nC.1 b,λy f=>(c y f).1,om⟩,a⟩
theorem nU{X:List (List Int)}{m n:Int}(h:confsB X m n=true)(g:1<=m)(i:0<=n):∀x∈X,x≠ []∧x.Pairwise (·<=·)∧∀y∈x,0<=y∧y<(n.toNat:Int):=λx d=>by
 obtain⟨a,b,c⟩:=(cx h).1 x d;exact⟨λe=>by subst e;simp at a;omega,nC.1 b,λy f=>by have:=c y f;omega⟩
def okI(p q:c_)(f:List Int):Prop:=keptP p.Nodes q.Nodes f∧keptP p.Edges q.Edges f
section
open Classical in
noncomputable def lme(p q:c_)(L:Nat):Nat->List Int->Option (List Int)
  |0,f=>if vmap p q f then some f else none
  |d+1,f=>(List.range L).findSome? λb:Nat=>lme p q L d (f++[(b:Int)])
theorem jx{p q:c_}{L:Nat}:∀{d:Nat}{f:List Int},(∀g:List Int,g.length=d->(∀y∈g,0<=y∧y<(L:Int))->¬vmap p q (f++g))->lme p q L d f=none
 |0,f,h=>by
  have:=h [] rfl sy;rw[bm] at this;unfold lme;exact if_neg this
 | d+1,f,h=>by
  unfold lme;rw[Gt];intro b e;have e:=aS.1 e;refine jx λg j i=>?_;have:=h ((b:Int)::g) (sh j) (λy a=>by
   rcases I_.1 a with rfl|a
   ·omega
   ·exact i y a)
  simpa using this
theorem pr{α β:Type}(p:α->Bool)(F:α->Option β)(a:∀x,p x=false->F x=none):∀xs:List α,(xs.filter p).findSome? F=xs.findSome? F
 |[]=>rfl
 |x::xs=>by
  rw[gd];cases h:p x
  ·rw[if_neg (by simp),pr p F a xs,cH,a x h]
  ·rw[if_pos rfl,cH,cH,pr p F a xs]
theorem pA{α β:Type}{F G:α->Option β}:∀{xs:List α},(∀x∈xs,F x=G x)->xs.findSome? F=xs.findSome? G
 |[],_=>rfl
 |x::xs,h=>by
  rw[cH,cH,h x (by simp),pA λy a=>h y (by simp[a])]
theorem AZ{β:Type}{L N:Nat}(e:L<=N)(F:Nat->Option β)(d:∀b,L<=b->F b=none):(List.range N).findSome? F=(List.range L).findSome? F:=by
 obtain⟨k,rfl⟩:∃k,N=L+k:=⟨N-L,om⟩;have a:(List.range k).findSome? (F ∘ λx=>L+x)=none:=Gt.2 λb _=>d _ (Fz L b);rw[List.range_add,List.findSome?_append,Gu,a];simp
theorem DQ{β:Type}{L m:Nat}(h:L<=8)(f:∀b,m.testBit b=true->b<L)(F:Int->Option β)(g:∀b:Nat,b<L->m.testBit b=false->F b=none):(lbs 8 m).findSome? F=(List.range L).findSome? λb:Nat=>F b:=by
 unfold lbs;rw[Gu];have d:((List.range 8).filter λi=>m.testBit i).findSome? (F ∘ λi:Nat=>(i:Int))=((List.range 8).filter λi=>m.testBit i).findSome? λb:Nat=>if b<L then F b else none:=by
  refine pA λb a=>?_;rw[if_pos (f b (cF.1 a).2)];rfl
 rw[d,pr (λi=>m.testBit i) _ (λb a=>by
  by_cases e:b<L
  ·rw[if_pos e];exact g b e a
  ·rw[if_neg e]),AZ h _ (λb a=>if_neg om)]
 exact pA λb a=>if_pos (aS.1 a)
theorem nM{α ρ:Type}{body:Int->α->Unit->Option (Lp Unit Unit ρ)}(F:α->Option ρ):∀(xs:List α)(k:Int),(∀x∈xs,∀j,body j x ()=some (match F x with|none=> .go ()|some r=> .ret r))->
  forI body xs k ()=some (match xs.findSome? F with|none=> .inl ()|some r=> .inr r)
 |[],k,_=>rfl
 | x::xs,k,h=>by
  have a:=h x sy k;have ih:=nM F xs (k+1) λy d=>h y (sh d);rw[cH];cases b:F x with
  |none=>
   rw[b] at a;simp only[forI,a];exact ih
  |some r=>
   rw[b] at a;simp only[forI,a]
theorem nG{σ ρ:Type}{body:Int->σ->Option (Lp σ σ ρ)}(s:σ)(F:Nat->Option ρ)(n:Nat)(h:∀j:Nat,j<n->body (j:Int) s=some (match F j with|none=> .go s|some r=> .ret r)):
  ∀(d j:Nat),j+d=n->forN body d (j:Int) s=some (match (List.range' j d).findSome? F with|none=> .inl s|some r=> .inr r)
 |0,j,e=>rfl
 | d+1,j,e=>by
  have a:=h j om;have ih:=nG s F n h d (j+1) om;rw[mC,cH];cases b:F j with
  |none=>
   rw[b] at a;simp only[forN,a];exact ih
  |some r=>
   rw[b] at a;simp only[forN,a]
theorem EM{m:Nat}(h:m≠0):∃b,m.testBit b=true:=Nat.exists_testBit_of_ne_zero h
theorem ES{n:Nat}{S:List Int}(j:msk n S)(f:(0:Int) ∉ S){a:Nat}(k:a<n):∃b,bo S a b:=by
 obtain⟨m,o,d,h⟩:=j.at k;have g:m≠0:=λe=>by subst e;exact f (aE d)
 obtain⟨b,i⟩:=EM g;exact⟨b,by unfold bo;rw[h,U_];exact i⟩
theorem ws{n L:Nat}{x S f:List Int}{G:List Int->Prop}(p:∀y∈x,0<=y∧y<(n:Int))(C:1<=x.length)(v:msk n S)(D:(0:Int) ∉ S)(J:f.length=n)(s:∀a,a<n->∀b,bo S a b->f.getD a 0=(b:Int))
  (u:∀a b:Nat,(a:Int)∈x->bo S a b->supp L x S G a b):G (imgL f x):=by
 obtain⟨a,w,h,_⟩:=fd p (i:=0) C;obtain⟨b,F⟩:=ES v D w;obtain⟨y,E,B,_⟩:=u a b (aE h) F;obtain⟨H,_,q⟩:=uN E;have:y=imgL f x:=by
  refine dr (by rw[eY];simpa using H) λi A o=>?_;have hi:i<x.length:=by simpa [eY] using o
  obtain⟨c,t,j,g⟩:=fd p hi;obtain⟨e,I,k,d⟩:=q i sy (su hi);rw[g,U_] at d;have m:=qm (f:=f) j;rw[x_ o] at m;rw[Option.some.inj m,s c t e d,<-k,ax,x_ A];rfl
 rwa [this] at B
theorem xa{n L:Nat}{g S:List Int}(h:inS n L g S)(j:msk n S):(0:Int) ∉ S:=λi=>by
 obtain⟨a,f⟩:=bS.1 i;have d:=(Y_.1 f).1;obtain⟨b,_,_,e⟩:=h.2 a (by rw[<-j.1];exact d);unfold bo at e;rw[getD_some f] at e;simp at e
structure Gs (X:al) (n L:Nat) (f S:List Int):Prop where
  m:msk n S
  st:stab X L S
  nz:(0:Int) ∉ S
  lt:∀a b,bo S a b->b<L
  one:∀a,a<f.length->∀b,bo S a b->f.getD a 0=(b:Int)
  all:∀g:List Int,f.length+g.length=n->(∀y∈g,0<=y∧y<(L:Int))->vmap X.p X.q (f++g)->inS n L (f++g) S
theorem wE(X:al){n L D:Nat}(h:Fnd X n L D)(G:1<=D):∀(d:Nat)(f S:List Int)(i:Nat),f.length+d=n->4000+d<i->Gs X n L f S->
  dC i X f S=some ((lme X.p X.q L d f).getD [],(lme X.p X.q L d f).isSome)
 |0,f,S,i,hd,hf,k=>by
  obtain⟨m,rfl⟩:∃m,i=m+1:=⟨i-1,om⟩;have v:vmap X.p X.q f:=⟨λx u=>ws (h.cN x u).2 (by rw[(h.cN x u).1];exact G) k.m k.nz om (λa O=>k.one a om) (k.st.2 x u),λx u=>ws (h.cE x u).2 (by rw[(h.cE x u).1];decide) k.m k.nz om (λa O=>k.one a om) (k.st.1 x u)⟩;have Y:lme X.p X.q L 0 f=some f:=by unfold lme;exact if_pos v
  unfold dC;rw[if_pos (by rw[h.hn];simp;omega),Y];rfl
 | d+1,f,S,i,hd,hf,k=>by
  obtain⟨m,rfl⟩:∃m,i=m+1:=⟨i-1,om⟩;obtain⟨s,hs,J,H⟩:=k.m.at (a:=f.length) om;have h8:=h.L8;have n8:=h.n8;have hSl:=k.m.1;have K:∀b,s.testBit b=true->b<L:=λb R=>k.lt f.length b (by unfold bo;rw[H,U_];exact R);have E:∀b:Nat,b<L->s.testBit b=false->lme X.p X.q L d (f++[(b:Int)])=none:=λb R ht=>jx λg W I v=>by
   have:=k.all ((b:Int)::g) (by simp;omega) (λy F=>by
    rcases I_.1 F with rfl|F
    ·omega
    ·exact I y F) (su v)
   obtain⟨c,_,t,o⟩:=this.2 f.length om;rw[ax,cj (K_ _)] at t;simp at t;have:c=b:=om;subst this;unfold bo at o;rw[H,U_,ht] at o;cases o
  have B:=nM (body:=kv m X f S (dC m)) (λx:Int=>(lme X.p X.q L d (f++[x])).map λg=>(g,true)) (lbs 8 s) 0 (λx u j=>by
   obtain⟨b,rfl,hb8,U⟩:=ou.1 u;have hbL:=K b U;have h2:2^b<256:=by
    have:=bF (n:=2) dc (show b<=7 by omega);omega
   have hN:=k.m.set f.length h2;obtain⟨T,e1,M,e3⟩:=vo X h m om (S.set f.length ((2^b:Nat):Int)) hN;have A:∀c e,bo (S.set f.length ((2^b:Nat):Int)) c e<->if c=f.length then e=b else bo S c e:=λc e=>by
    rw[qy om,yi];by_cases q:c=f.length
    ·rw[if_pos q,if_pos q];simp[eq_comm]
    ·rw[if_neg q,if_neg q]
   have w:∀g:List Int,(f++[(b:Int)]).length+g.length=n->(∀y∈g,0<=y∧y<(L:Int))->vmap X.p X.q (f++[(b:Int)]++g)->inS n L (f++[(b:Int)]++g) T:=λg W I v=>by
    rw[ar,bn] at W;have hi:=k.all ((b:Int)::g) (by simp;omega) (λy F=>by
     rcases I_.1 F with rfl|F
     ·omega
     ·exact I y F) (su v)
    rw[show f++(b:Int)::g=f++[(b:Int)]++g by simp] at hi;refine M.keep _ v (xy hi λa c O t o=>(A a c).2 ?_);by_cases q:a=f.length
    ·rw[if_pos q];subst q;rw[bC,ax,cj (K_ _)] at t;simp at t;omega
    ·rw[if_neg q];exact o
   unfold kv;rw[dm _ om,sb,cP om,sb,aq,J,sb,cC _ _ _ om,sb,e1,sb];by_cases Q:(0:Int)∈T
   ·have V:lme X.p X.q L d (f++[(b:Int)])=none:=jx λg W I v=>xa (w g (by simp;omega) I v) M.m Q;rw[if_neg (sh Q),V];rfl
   ·have Z:Gs X n L (f++[(b:Int)]) T:=⟨M.m,e3,Q,λa c t=>by
     have:=(A a c).1 (M.sub a c t);by_cases q:a=f.length
     ·rw[if_pos q] at this;omega
     ·rw[if_neg q] at this;exact k.lt a c this,λa O c t=>by
     rw[ar,bn] at O;have:=(A a c).1 (M.sub a c t);by_cases q:a=f.length
     ·rw[if_pos q] at this;subst q;rw[ax,cj (K_ _)];simp;omega
     ·rw[if_neg q] at this;have:=k.one a om c this;rw[ax,bN om,<-ax];exact this,w⟩
    have ih:=wE X h G d (f++[(b:Int)]) T m (by simp;omega) om Z;have C:push f (b:Int)=some (f++[(b:Int)]):=by unfold push;rw[if_pos om]
    rw[if_pos (sh Q),dm _ om,sb,C,sb,ih,sb];cases lme X.p X.q L d (f++[(b:Int)]) with
    |none=>rfl
    |some g=>rfl)
  unfold dC;rw[if_neg (by rw[h.hn];simp;omega),aq,J,sb,ny s m om,sb,B,sb];rw[DQ h8 K _ (λb R ht=>by rw[E b R ht];rfl)];have Y:lme X.p X.q L (d+1) f=(List.range L).findSome? λb:Nat=>lme X.p X.q L d (f++[(b:Int)]):=rfl;rw[Y];have N:∀xs:List Nat,(xs.findSome? λb:Nat=>(lme X.p X.q L d (f++[(b:Int)])).map λg=>(g,true))=(xs.findSome? λb:Nat=>lme X.p X.q L d (f++[(b:Int)])).map λg=>(g,true):=by
   intro xs
   induction xs with
   |nil=>rfl
   |cons x xs ih=>
    rw[cH,cH];cases lme X.p X.q L d (f++[(x:Int)]) with
    |none=>exact ih
    |some g=>rfl
  rw[N];cases (List.range L).findSome? λb:Nat=>lme X.p X.q L d (f++[(b:Int)]) with
  |none=>rfl
  |some g=>rfl
theorem wL{l m:List (List Int)}{g h:List Int}(f:∀x∈l,rowP x)(d:∃z,g=h++z)(b:∀x∈l,srt (imgL g x)∈m):keptP l m h:=λx a e=>by
 have:=b x a;obtain⟨z,rfl⟩:=d;have j:imgL (h++z) x=imgL h x:=by
  unfold imgL;refine jX λy i=>?_;have:=xC (f x a) e y i;rw[ax,bN om,ax]
 rwa [j] at this
structure Tw (p q:c_):Prop where
  pG:probB p=true
  qG:probB q=true
  pN:p.Nodes.length<=100000000
  pE:p.Edges.length<=100000000
  qN:q.Nodes.length<=100000000
  qE:q.Edges.length<=100000000
  D:p.Degree=q.Degree
theorem wS(p q:c_)(h:Tw p q):∀(d:Nat)(f:List Int)(a:Nat),(f.length:Int)+d=p.Labels->200000000+d<a->(∀k,k<f.length->okI p q (f.take (k+1)))->
  dD a p q f=some (match lme p q q.Labels.toNat d f with|some g=>(true,g)|none=>(false,f))
 |0,f,a,R,hf,B=>by
  obtain⟨m,rfl⟩:∃m,a=m+1:=⟨a-1,om⟩;obtain⟨g1,O,G,K,H,I⟩:=aO h.pG;have w:vmap p q f:=⟨wZ (n:=f.length) rfl (λx o=>by have:=nU H G om x o;rwa [show(p.Labels.toNat:Int)=f.length by omega] at this) (λk t=>(B k t).1),wZ (n:=f.length) rfl (λx o=>by have:=nU I om om x o;rwa [show(p.Labels.toNat:Int)=f.length by omega] at this) (λk t=>(B k t).2)⟩;have F:lme p q q.Labels.toNat 0 f=some f:=by unfold lme;exact if_pos w
  unfold dD;rw[if_pos (by simp;omega),F]
 | d+1,f,a,R,hf,B=>by
  obtain⟨m,rfl⟩:∃m,a=m+1:=⟨a-1,om⟩;obtain⟨g1,O,G,K,H,I⟩:=aO h.pG;obtain⟨k1,k2,k3,k4,X,S⟩:=aO h.qG;have T:=h.qN;have U:=h.qE;have hD:=h.D;have E:=nK H G K;have M:=nK I om om;have s:=nG (body:=kt m p q (dD m)) f (λb:Nat=>(lme p q q.Labels.toNat d (f++[(b:Int)])).map λg=>(true,g)) q.Labels.toNat (λj hj=>by
   have i:(ck (((f++[(j:Int)]).length:Int)-1))=some (f.length:Int)∧cut (f++[(j:Int)]) 0 (f.length:Int)=some f:=by
    refine⟨by rw[n_ (by simp<;>omega) (by simp<;>omega),ar,bn];(try (congr 1;omega)),?_⟩;unfold cut;rw[if_pos ⟨N_ 0,om,by simp;omega⟩];simp
   have y:push f (j:Int)=some (f++[(j:Int)]):=by unfold push;rw[if_pos om]
   have u:(f++[(j:Int)]).length<=1000:=by simp;omega
   unfold kt;rw[y,sb];obtain⟨Q,W,L⟩:=vi m p.Nodes q.Nodes (⟨⟨p.Labels,p.Degree,p.Nodes,p.Edges⟩,⟨q.Labels,q.Degree,q.Nodes,q.Edges⟩,f++[(j:Int)]⟩:cy) q.Degree q.Labels X om om (λx o=>⟨(E x o).1,by rw[(E x o).2,hD]⟩) u;rw[W,sb];cases Q
   ·have v:lme p q q.Labels.toNat d (f++[(j:Int)])=none:=jx λg V Y w=>by
     have:=L.2 (wL (λx o=>(E x o).1) ⟨g,rfl⟩ w.1);cases this
    rw[if_neg sy,sb,if_neg sy,i.1,sb,i.2,sb,v];rfl
   ·obtain⟨N,Z,J⟩:=vi m p.Edges q.Edges (⟨⟨p.Labels,p.Degree,p.Nodes,p.Edges⟩,⟨q.Labels,q.Degree,q.Nodes,q.Edges⟩,f++[(j:Int)]⟩:cy) 2 q.Labels S om om (λx o=>M x o) u;rw[if_pos rfl,Z,sb];cases N
    ·have v:lme p q q.Labels.toNat d (f++[(j:Int)])=none:=jx λg V Y w=>by
      have:=J.2 (wL (λx o=>(M x o).1) ⟨g,rfl⟩ w.2);cases this
     rw[if_neg sy,sb,if_neg sy,i.1,sb,i.2,sb,v];rfl
    ·have C:∀k,k<(f++[(j:Int)]).length->okI p q ((f++[(j:Int)]).take (k+1)):=λk t=>by
      by_cases e:k<f.length
      ·rw[xX om];exact B k e
      ·rw[ar,bn] at t;rw[cu (by simp;omega)];exact⟨L.1 rfl,J.1 rfl⟩
     have ih:=wS p q h d (f++[(j:Int)]) m (by simp;omega) om C;rw[if_pos rfl,ih,sb,sb];cases o:lme p q q.Labels.toNat d (f++[(j:Int)]) with
     |none=>
      simp only[oO,cl,if_false];rw[i.1,sb,i.2,sb]
     |some g=>rfl) q.Labels.toNat 0 om
  unfold dD;rw[if_neg (by simp;omega),n_ om om,sb];rw[show((0:Nat):Int)=0 from rfl] at s;rw[s,sb];have F:lme p q q.Labels.toNat (d+1) f=(List.range q.Labels.toNat).findSome? λb:Nat=>lme p q q.Labels.toNat d (f++[(b:Int)]):=rfl;rw[F,jY];have A:∀xs:List Nat,(xs.findSome? λb:Nat=>(lme p q q.Labels.toNat d (f++[(b:Int)])).map λg=>(true,g))=(xs.findSome? λb:Nat=>lme p q q.Labels.toNat d (f++[(b:Int)])).map λg=>(true,g):=by
   intro xs
   induction xs with
   |nil=>rfl
   |cons x xs ih=>
    rw[cH,cH];cases lme p q q.Labels.toNat d (f++[(x:Int)]) with
    |none=>exact ih
    |some g=>rfl
  rw[A];cases (List.range' 0 q.Labels.toNat).findSome? λb:Nat=>lme p q q.Labels.toNat d (f++[(b:Int)]) with
  |none=>rfl
  |some g=>rfl
noncomputable def lmapV(p q:c_):List Int×Bool:=if probB p&&probB q&&p.Degree==q.Degree then((lme p q q.Labels.toNat p.Labels.toNat []).getD [],(lme p q q.Labels.toNat p.Labels.toNat []).isSome) else([],false)
theorem DY(a:Nat)(g:200000000<=a)(p q:c_)(b:p.Nodes.length<=100000000)(f:p.Edges.length<=100000000)(d:q.Nodes.length<=100000000)(e:q.Edges.length<=100000000):
  lN a p q=some (probB p&&probB q&&p.Degree==q.Degree)∧kK a p q=some (probB p&&probB q&&p.Degree==q.Degree):=by
 unfold lN kK;simp only[jC a om p om om,jC a om q om om,iX a om p om om,iX a om q om om,sb];cases probB p<;>cases probB q<;>exact⟨rfl,rfl⟩
theorem pC(d:Nat)(hf:1000000000<=d)(p q:c_)(F:p.Nodes.length<=100000000)(I:p.Edges.length<=100000000)(qN:q.Nodes.length<=100000000)(Y:q.Edges.length<=100000000):
  gM d p q=some (lmapV p q)∧gJ d p q=some (lmapV p q):=by
 obtain⟨t1,t2⟩:=DY d om p q F I qN Y;unfold gM gJ lmapV;rw[t1,t2,sb,sb];cases U:(probB p&&probB q&&p.Degree==q.Degree)
 ·exact⟨rfl,rfl⟩
 ·rw[aW,aW,beq_iff_eq] at U;obtain⟨⟨V,X⟩,hD⟩:=U;have h:Tw p q:=⟨V,X,F,I,qN,Y,hD⟩;obtain⟨g1,g2,W,g4,Z,g6⟩:=aO V;obtain⟨k1,k2,k3,k4,k5,k6⟩:=aO X;obtain⟨n,N⟩:∃n:Nat,p.Labels=(n:Int):=⟨p.Labels.toNat,om⟩;obtain⟨L,R⟩:∃L:Nat,q.Labels=(L:Int):=⟨q.Labels.toNat,om⟩;obtain⟨D,Q⟩:∃D:Nat,q.Degree=(D:Int):=⟨q.Degree.toNat,om⟩;simp only[Bool.not_true,cl,if_false,if_true];constructor
  ·have hF:Fnd ⟨p,q,retV q.Nodes L D,retV q.Edges L 2⟩ n L D:=⟨N,R,om,om,om,om,λx A=>by
    have K:=nU Z W om x A;have a2:=(nK Z W g4 x A).2;exact⟨om,λy S=>by have:=K.2.2 y S;omega⟩,λx A=>by
    have K:=nU g6 om om x A;have a2:=(nK g6 om om x A).2;exact⟨om,λy S=>by have:=K.2.2 y S;omega⟩,F,I,rfl,rfl⟩
   have h2L:2^L<=256:=cY om;have h2p:1<=2^L:=gp;have t:=di (f:=gC p q) (λj=>(List.replicate j (((2^L-1:Nat)):Int),(j:Int))) n (λj hj=>by
    unfold gC;simp only
    unfold push;rw[N,R,if_pos (su hj),cP om,sb,n_ om om,sb,if_pos (by simp;omega),sb,n_ om om,sb,xN,show((2^L:Nat):Int)-1=((2^L-1:Nat):Int) by omega];rfl) (by
    unfold gC;simp only
    rw[N,if_neg sy]) d 0 om om
   have hS:msk n (List.replicate n (((2^L-1:Nat)):Int)):=⟨cd,λv u=>by rw[(yt.1 u).2];omega⟩;have w:∀a b,a<n->(bo (List.replicate n (((2^L-1:Nat)):Int)) a b<->b<L):=λa b o=>by
    unfold bo;rw[ax,gh,if_pos o,dT,U_,yq];simp
   have G:∀a b,bo (List.replicate n (((2^L-1:Nat)):Int)) a b->b<L:=λa b e=>by
    by_cases o:a<n
    ·exact(w a b o).1 e
    ·unfold bo at e;rw[ax,gh,if_neg o] at e;simp at e
   obtain⟨T,e1,C,e3⟩:=vo _ hF d om _ hS;have s:∀g:List Int,([]:List Int).length+g.length=n->(∀y∈g,0<=y∧y<(L:Int))->vmap p q ([]++g)->inS n L ([]++g) T:=λg B M u=>by
    refine C.keep _ u ⟨by simpa using B,λa o=>?_⟩;obtain⟨b,e,_,J⟩:=fd M (i:=a) (by simp only[bD] at B;omega);refine⟨b,e,by simpa using J,(w a b o).2 e⟩
   have hq1:q.Labels.toNat=L:=om;have O:p.Labels.toNat=n:=om;rw[Q,R,uT d om q.Nodes L D om om om,sb,show(2:Int)=((2:Nat):Int) from rfl,uT d om q.Edges L 2 om om om,sb];rw[show(([]:List Int),(0:Int))=(List.replicate 0 (((2^L-1:Nat)):Int),((0:Nat):Int)) from rfl,t,sb];simp only
   rw[e1,sb,O];rw[show((L:Nat):Int).toNat=L from rfl];by_cases E:(0:Int)∈T
   ·have H:lme p q L n []=none:=jx λg B M u=>xa (s g (su B) M u) C.m E;rw[if_pos (sh E),H];rfl
   ·rw[if_neg (sh E),wE _ hF om n [] T d sy om ⟨C.m,e3,E,λa b e=>G a b (C.sub a b e),λa o=>by simp at o,s⟩,sb]
  ·rw[wS p q h p.Labels.toNat [] d (by simp;omega) om (λk hk=>by simp at hk),sb];cases lme p q q.Labels.toNat p.Labels.toNat [] with
   |none=>rfl
   |some g=>rfl
end
end Go.Proofs.YtpefhaamcihneaaGreat
