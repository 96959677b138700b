/- Part 30 of what this claim rests on (pack.py). -/
import Derived.Test.YtdbbeldgdgonfaaGreatP29
namespace Go.Proofs.YtdbbeldgdgonfaaGreat
set_option linter.unusedSimpArgs false
set_option linter.unusedVariables false
section
open Go.Lib
theorem sn_(d:Nat)(p:b_)(h:probB p=true)(s:p.Edges.length<=1000000000)(u:p.Edges.length<d)(xs f:List Int):
  ∃l b,ej_ d p xs f=some (l,b)∧(b=true<->∃a∈xs,∃c∈f,srt [a,c] ∉ p.Edges):=by
 have q:∀a,∃z,forI (cv_ d p a) f 0 ()=some z∧((z=.inl ()∧∀c∈f,¬srt [a,c] ∉ p.Edges)∨∃r,z=.inr r∧r.2=true∧∃c∈f,srt [a,c] ∉ p.Edges):=λa=>
  eT_ (body:=cv_ d p a) (λc=>srt [a,c] ∉ p.Edges) (λr:List Int×Bool=>r.2=true) f 0 (λc _ j=>by
   unfold cv_;rw[ul_ d p h a c s u,sb];by_cases e:srt [a,c]∈p.Edges
   ·exact⟨_,by rw[if_neg (by simpa using e)],.inl ⟨rfl,λo=>o e⟩⟩
   ·exact⟨_,by rw[if_pos (by simpa using e)],.inr ⟨_,rfl,rfl,e⟩⟩)
 obtain⟨z,m,i⟩:=eT_ (body:=de_ d p f) (λa=>∃c∈f,srt [a,c] ∉ p.Edges) (λr:List Int×Bool=>r.2=true) xs 0 (λa _ j=>by
  obtain⟨z,m,i⟩:=q a;unfold de_;rw[m,sb];rcases i with⟨rfl,g⟩|⟨r,rfl,n,k⟩
  ·exact⟨_,rfl,.inl ⟨rfl,λ⟨c,e,o⟩=>g c e o⟩⟩
  ·exact⟨_,rfl,.inr ⟨r,rfl,n,k⟩⟩)
 unfold ej_;rw[m,sb];rcases i with⟨rfl,g⟩|⟨⟨l,b⟩,rfl,n,k⟩
 ·refine⟨[],false,rfl,by simp,λ⟨a,t,e⟩=>absurd e (g a t)⟩
 ·exact⟨l,b,rfl,λ_=>k,λ_=>n⟩
open Classical in
theorem pl_(fuel:Nat)(p:b_)(h:probB p=true)(hJ:p.Edges.length<=1000000000)(hf:p.Edges.length<fuel)(xs ys:List Int):
    ey_ fuel p xs ys=some (decide (∀a∈xs,∀c∈ys,srt [a,c]∈p.Edges)):=by
  obtain⟨l,b,h1,h2⟩:=sn_ fuel p h hJ hf xs ys
  unfold ey_
  rw[h1,sb]
  congr 1
  cases b
  · have:∀a∈xs,∀c∈ys,srt [a,c]∈p.Edges:=λa ha c hc=>Classical.byContradiction λhn=>by simpa using h2.2 ⟨a,ha,c,hc,hn⟩
    rw[decide_eq_true this];rfl
  · obtain⟨a,ha,c,hc,hn⟩:=h2.1 rfl
    have:¬∀a∈xs,∀c∈ys,srt [a,c]∈p.Edges:=λhh=>hn (hh a ha c hc)
    rw[decide_eq_false this];rfl
theorem rb_(d:Nat)(p:b_)(h:probB p=true)(n:p.Edges.length<=1000000000)(s:p.Edges.length<d)(q:10<=d)(S:Nat)(A:S<256):gC_ d p (S:Int)=some ((nearN p S:Nat):Int):=by
 obtain⟨u,y,v,x,-,-⟩:=aK_ h;obtain⟨L,o⟩:∃L:Nat,p.Labels=(L:Int):=⟨p.Labels.toNat,by omega⟩;have e:=dX_ (body:=fw_ d p (S:Int)) (λj=>((bitsP (λb=>∀a∈lbs 8 S,srt [a,(b:Int)]∈p.Edges) j:Nat):Int)) L (λj B=>by
  have m:=fd_ (λb:Nat=>∀a∈lbs 8 S,srt [a,(b:Int)]∈p.Edges) j;have w:2^j<=256:=di_ (by omega);unfold fw_;rw[mF_ 8 S d (by omega) (by omega) (by omega),sb,pl_ d p h n s,sb];by_cases g:∀a∈lbs 8 S,srt [a,(j:Int)]∈p.Edges
  ·have f:∀a∈lbs 8 S,∀c∈ [(j:Int)],srt [a,c]∈p.Edges:=λa i c k=>by rw[List.mem_singleton.1 k];exact g a i
   rw[if_pos (decide_eq_true f),eZ_ (by omega),sb,py_ (by omega) (by omega),iP_ g]
  ·have f:¬∀a∈lbs 8 S,∀c∈ [(j:Int)],srt [a,c]∈p.Edges:=λt=>g λa i=>t a i _ (by simp);rw[if_neg (by simpa using f),kz_ g])
 unfold gC_ nearN;rw[o,F_ (by omega) (by omega),sb,Int.toNat_natCast];simp only[bitsP,Int.natCast_zero] at e;rw[e,sb]
theorem cc1:∀(full:List (List Int))(k:Int)(s:Nat),s+full.flatten.length<=1000000000->forI aB_ full k (s:Int)=some (.inl ((s+full.flatten.length:Nat):Int))
 |[],k,s,_=>by simp[forI]
 | x::full,k,s,h=>by
  rw[List.flatten_cons,List.length_append] at h;have a:aB_ k x (s:Int)=some (.go ((s+x.length:Nat):Int)):=by
   unfold aB_;rw[F_ (by omega) (by omega),sb,if_neg (by simp;omega)];rfl
  simp only[forI,a];rw[cc1 full (k+1) (s+x.length) (by omega),List.flatten_cons,List.length_append,Nat.add_assoc]
theorem cc2:∀(full:List (List Int))(k:Int)(a:List Int),a.length+full.flatten.length<=1000000000->forI ax_ full k a=some (.inl (a++full.flatten))
 |[],k,a,_=>by simp[forI]
 | x::full,k,a,h=>by
  rw[List.flatten_cons,List.length_append] at h;have b:ax_ k x a=some (.go (a++x)):=by
   unfold ax_ cat
   rw[if_pos (by omega),sb]
  simp only[forI,b];rw[cc2 full (k+1) (a++x) (by rw[List.length_append];omega),List.flatten_cons,List.append_assoc]
theorem uH_(full:List (List Int))(h:full.flatten.length<=1000000000):bq_ full=some full.flatten:=by
 have a:=cc1 full 0 0 (by omega);have b:=cc2 full 0 [] (by simpa using h);rw[Nat.zero_add,show((0:Nat):Int)=0 from rfl] at a;rw[List.nil_append] at b;unfold bq_ growO;rw[a,sb];simp only
 rw[if_pos (by omega),sb,b,sb]
theorem wv_{zs:List Int}(g:zs.Pairwise (·<=·)){i j:Nat}(f:i<=j)(a:j<zs.length):zs.toArray[i]! <=zs.toArray[j]! :=by
 have d:zs.toArray[i]! =zs[i]'(by omega):=by simp[show i<zs.length by omega]
 have b:zs.toArray[j]! =zs[j]:=by simp[a]
 rw[d,b];by_cases e:i=j
 ·subst e;exact Int.le_refl _
 ·exact List.pairwise_iff_getElem.1 g i j (by omega) a (by omega)
theorem kY_{zs:List Int}(n:zs.Pairwise (·<=·)):∀m,m<=zs.length->(∀y,y∈compactUpTo zs.toArray m<->∃j,j<m∧zs.toArray[j]! =y)∧(compactUpTo zs.toArray m).Pairwise (·<·)
 |0,_=>by simp[compactUpTo]
 | m+1,x=>by
  obtain⟨h,p⟩:=kY_ n m (by omega);rw[compactUpTo_succ];by_cases f:m=0∨zs.toArray[m]! ≠zs.toArray[m-1]!
  ·have k:keeps zs.toArray m=true:=by
    rcases f with rfl|f
    ·exact keeps_lt_one _ 0 (by omega)
    ·exact keeps_pos f
   rw[if_pos k];constructor
   ·intro y;rw[List.mem_append,h,List.mem_singleton];constructor
    ·rintro(⟨j,g,e⟩|rfl)
     ·exact⟨j,by omega,e⟩
     ·exact⟨m,by omega,rfl⟩
    ·rintro⟨j,g,e⟩;by_cases d:j=m
     ·subst d;exact .inr e.symm
     ·exact .inl ⟨j,by omega,e⟩
   ·rw[List.pairwise_append];refine⟨p,by simp,λa s b t=>?_⟩;rw[List.mem_singleton.1 t];obtain⟨j,g,rfl⟩:=(h a).1 s;rcases f with rfl|f
    ·omega
    ·have u:=wv_ n (i:=j) (j:=m-1) (by omega) (by omega);have v:=wv_ n (i:=m-1) (j:=m) (by omega) (by omega);omega
  ·have q:0<m:=Nat.pos_of_ne_zero λe=>f (.inl e);have o:zs.toArray[m]! =zs.toArray[m-1]! :=Classical.byContradiction λe=>f (.inr e);rw[if_neg (by rw[keeps_neg q o];simp),List.append_nil];refine⟨λy=>?_,p⟩;rw[h];constructor
   ·rintro⟨j,g,e⟩;exact⟨j,by omega,e⟩
   ·rintro⟨j,g,e⟩;by_cases d:j=m
    ·subst d;exact⟨j-1,by omega,by rw[<-o,e]⟩
    ·exact⟨j,by omega,e⟩
theorem ql_{zs:List Int}(e:zs.Pairwise (·<=·)):(compact zs).Pairwise (·<·)∧∀y,y∈compact zs<->y∈zs:=by
 obtain⟨d,b⟩:=kY_ e zs.length (Nat.le_refl _);refine⟨b,λy=>?_⟩;show y∈compactUpTo zs.toArray zs.length<->_;rw[d,List.mem_iff_getElem];constructor
 ·rintro⟨j,a,rfl⟩;exact⟨j,a,by simp[a]⟩
 ·rintro⟨j,a,rfl⟩;exact⟨j,a,by simp[a]⟩
theorem vW_{xs:List Int}(h:∀x∈xs,0<=x∧x<256):compact (srt xs)=sdI xs:=by
 obtain⟨d,b⟩:=ql_ (iV_ xs);refine qz_ d (ja_ xs) λa=>?_;rw[b,ln_ h,(hc_ xs).mem_iff]
theorem nS_(d:Nat)(sets:List Int)(f:sets.Pairwise (·<·))(g:sets.length<=1000)(i:1000<d):∀(x:List Int)(k:Int)(e:List Int),e.length+x.length<=1000000000->forI (cN_ d sets) x k e=some (.inl (e++x.map (idxI sets)))
 |[],k,e,_=>by simp[forI]
 | y::x,k,e,h=>by
  rw[List.length_cons] at h;have j:cN_ d sets k y e=some (.go (e++[idxI sets y])):=by
   unfold cN_;rw[mb_ d sets y (f.imp λ{a b} h=>by omega) (by omega) (by omega),sb];unfold push;rw[if_pos (by omega),sb];rfl
  simp only[forI,j];rw[nS_ d sets f g i x (k+1) _ (by rw[List.length_append,List.length_singleton];omega),List.map_cons,List.append_assoc,List.singleton_append]
theorem pr_(a:Nat)(sets:List Int)(f:sets.Pairwise (·<·))(d:sets.length<=1000)(e:1000<a):∀(full:List (List Int))(k:Int)(b:List (List Int)),(∀x∈full,x.length<=1000)->b.length+full.length<=1000000000->forI (cL_ a sets) full k b=some (.inl (b++full.map (nmb sets)))
 |[],k,b,_,_=>by simp[forI]
 | x::full,k,b,g,h=>by
  rw[List.length_cons] at h;have m:=g x (by simp);have j:cL_ a sets k x b=some (.go (b++[nmb sets x])):=by
   unfold cL_;rw[nS_ a sets f d e x 0 [] (by simp;omega),sb];simp only[List.nil_append];unfold srtO push;rw[if_pos (by rw[List.length_map];omega),sb,if_pos (by omega),sb];rfl
  simp only[forI,j];rw[pr_ a sets f d e full (k+1) _ (λy i=>g y (by simp[i])) (by rw[List.length_append,List.length_singleton];omega),List.map_cons,List.append_assoc,List.singleton_append]
theorem pq_{d:Nat}:∀{full:List (List Int)},(∀x∈full,x.length=d)->full.flatten.length=full.length*d
 |[],_=>by simp
 |x::full,h=>by
  rw[List.flatten_cons,List.length_append,pq_ λy a=>h y (by simp[a]),h x (by simp),List.length_cons,Nat.succ_mul,Nat.add_comm]
theorem lH_(a:Nat)(s:1000<a){d:Nat}(q:d<=4)(full:List (List Int))(e:∀x∈full,x.length=d∧∀y∈x,0<=y∧y<256)(j:full.length<=100000000):
  eg_ a full=some (sdI full.flatten,sxd (full.map (nmb (sdI full.flatten)))):=by
 have f:=pq_ (full:=full) λx h=>(e x h).1;have b:full.flatten.length<=1000000000:=by
  rw[f];have:full.length*d<=100000000*4:=Nat.mul_le_mul j q;omega
 have i:∀y∈full.flatten,0<=y∧y<256:=λy p=>by
  obtain⟨x,g,n⟩:=List.mem_flatten.1 p;exact(e x g).2 y n
 have o:=pX_ full.flatten;have m:=pr_ a (sdI full.flatten) (ja_ _) (by omega) s full 0 [] (λx h=>by rw[(e x h).1];omega) (by simp;omega);unfold eg_;rw[uH_ full b,sb];unfold srtO cmpO;rw[if_pos b,sb,if_pos (by rw[ei_];exact b),sb,vW_ i,m,sb];simp only[List.nil_append];rw[tc_ (L:=d) (by rw[List.length_map];omega) (by omega) (λz k=>by
  obtain⟨x,g,rfl⟩:=List.mem_map.1 k;rw[jL_,(e x g).1]),sb]
theorem mA_(a:Nat)(q:10<=a)(sets:List Int)(i:∀s∈sets,0<=s∧s<256):∀(c:List Int)(k:Int)(b:List (List Int)),(∀y∈c,0<=y∧y<sets.length)->b.length+c.length<=1000000000->forI (dK_ a sets) c k b=some (.inl (b++(imgL sets c).map λs=>lbs 8 s.toNat))
 |[],k,b,_,_=>by simp[forI,imgL]
 | y::c,k,b,g,h=>by
  rw[List.length_cons] at h;have p:=g y (by simp);have d:y.toNat<sets.length:=by omega
  have o:=i _ (List.getElem_mem d);have j:dK_ a sets k y b=some (.go (b++[lbs 8 sets[y.toNat].toNat])):=by
   unfold dK_;have f:ix sets y=some sets[y.toNat]:=by
    have:=hg_ sets y.toNat d;rwa [Int.toNat_of_nonneg p.1] at this
   have e:ec_ a sets[y.toNat]=some (lbs 8 sets[y.toNat].toNat):=by
    have:=mF_ 8 sets[y.toNat].toNat a (by omega) (by omega) (by omega);rwa [Int.toNat_of_nonneg o.1] at this
   rw[f,sb,e,sb];unfold push;rw[if_pos (by omega),sb]
  have n:sets.getD y.toNat 0=sets[y.toNat]:=by rw[List.getD_eq_getElem?_getD,List.getElem?_eq_getElem d];rfl
  simp only[forI,j];rw[mA_ a q sets i c (k+1) _ (λz m=>g z (by simp[m])) (by rw[List.length_append,List.length_singleton];omega)];simp only[imgL,List.map_cons,n,List.append_assoc,List.singleton_append]
theorem ov_(a:Nat)(d:10<=a)(sets:List Int)(e:∀s∈sets,0<=s∧s<256)(c:List Int)(b:∀y∈c,0<=y∧y<sets.length)(f:c.length<=1000):fJ_ a sets c=some ((imgL sets c).map λs=>lbs 8 s.toNat):=by
 unfold fJ_;rw[mA_ a d sets e c 0 [] b (by simp;omega),sb];rfl
theorem jP_:∀{xs:List Int}{m:List Int},(∀s∈xs,0<=s∧s<256)->(cho (xs.map Int.toNat) m<->m.length=xs.length∧∀(i:Nat) L a,(xs.map λs=>lbs 8 s.toNat)[i]? =some L->m[i]? =some a->a∈L)
 |[],m,_=>by
  cases m with
  |nil=>simp[cho]
  |cons a m=>simp[cho]
 | s::xs,m,h=>by
  have p:=h s (by simp);rw[List.map_cons,jx_ (by omega)];constructor
  ·rintro⟨a,o,rfl,n,k⟩;obtain⟨g,f⟩:=(jP_ λz j=>h z (by simp[j])).1 k;refine⟨by simp[g],λi L b d e=>?_⟩;cases i with
   |zero=>simp at d e;subst d e;exact n
   |succ i=>exact f i L b (by simpa using d) (by simpa using e)
  ·rintro⟨g,f⟩;cases m with
   |nil=>simp at g
   |cons a m=>
    refine⟨a,m,rfl,f 0 _ a (by simp) (by simp),(jP_ λz j=>h z (by simp[j])).2 ⟨by simpa using g,λi L b d e=>f (i+1) L b (by simpa using d) (by simpa using e)⟩⟩
theorem qM_{sets c:List Int}(b:∀s∈sets,0<=s∧s<256)(a:∀y∈c,0<=y∧y<sets.length):∀s∈imgL sets c,0<=s∧s<256:=λs h=>b s (rk_ a h)
open Classical in
theorem oA_(fuel:Nat)(p:b_)(h:probB p=true)(hJ:p.Nodes.length<=1000000000)(hf:p.Nodes.length<fuel)(hf9:10<=fuel)(sets:List Int)(hs:∀s∈sets,0<=s∧s<256)(c:List Int)(hc:∀y∈c,0<=y∧y<sets.length)(hl:(c.length:Int)=p.Degree):
    ct_ fuel c p sets=some (decide (chS p.Nodes sets c)):=by
  obtain⟨g1,g2,g3,g4,-,-⟩:=aK_ h
  have hil:=gd_ sets c
  obtain⟨l,b,e1,e2⟩:=jv_ fuel ((imgL sets c).map λs=>lbs 8 s.toNat) (λz=>aF_ fuel z p) (λm=>decide (srt m∈p.Nodes)) (λm hm=>by
    rw[List.length_map,hil] at hm
    unfold aF_
    rw[vy_ fuel p h m (by rw[hm];exact hl) hJ hf,sb]) (by rw[List.length_map,hil];omega) (by rw[List.length_map,hil];omega)
  unfold ct_ cz_
  rw[ov_ fuel hf9 sets hs c hc (by omega),sb,e1,sb,sb]
  have hiff:chS p.Nodes sets c<->b=true:=by
    rw[e2]
    unfold chS
    constructor
    · rintro⟨m,hm,hg⟩
      obtain⟨q1,q2⟩:=(jP_ (qM_ hs hc)).1 hm
      exact⟨m,by rw[List.length_map];exact q1,q2,by simpa using hg⟩
    · rintro⟨m,q1,q2,hg⟩
      exact⟨m,(jP_ (qM_ hs hc)).2 ⟨by rw[List.length_map] at q1;exact q1,q2⟩,by simpa using hg⟩
  cases b<;>simp[hiff]
open Classical in
theorem pi_(fuel:Nat)(p:b_)(h:probB p=true)(hJ:p.Edges.length<=1000000000)(hf:p.Edges.length<fuel)(hf9:10<=fuel)(sets:List Int)(hs:∀s∈sets,0<=s∧s<256)(c:List Int)(hc:∀y∈c,0<=y∧y<sets.length)(hl:c.length=2):
    cx_ fuel c p sets=some (decide (chS p.Edges sets c)):=by
  have hil:=gd_ sets c
  obtain⟨l,b,e1,e2⟩:=jv_ fuel ((imgL sets c).map λs=>lbs 8 s.toNat) (λz=>aG_ fuel z p) (λm=>decide (srt m∈p.Edges)) (λm hm=>by
    rw[List.length_map,hil,hl] at hm
    match m,hm with
    | [a,b],_=>
      unfold aG_
      rw[show ix [a,b] 0=some a from rfl,sb,show ix [a,b] 1=some b from rfl,sb,ul_ fuel p h a b hJ hf,sb]) (by rw[List.length_map,hil];omega) (by rw[List.length_map,hil];omega)
  unfold cx_ cs_
  rw[ov_ fuel hf9 sets hs c hc (by omega),sb,e1,sb,sb]
  have hiff:chS p.Edges sets c<->b=true:=by
    rw[e2]
    unfold chS
    constructor
    · rintro⟨m,hm,hg⟩
      obtain⟨q1,q2⟩:=(jP_ (qM_ hs hc)).1 hm
      exact⟨m,by rw[List.length_map];exact q1,q2,by simpa using hg⟩
    · rintro⟨m,q1,q2,hg⟩
      exact⟨m,(jP_ (qM_ hs hc)).2 ⟨by rw[List.length_map] at q1;exact q1,q2⟩,by simpa using hg⟩
  cases b<;>simp[hiff]
theorem lf_(a n d:Nat)(G:List Int->Option Bool)(g:List Int->Bool)(i:∀c,ndP n d c->G c=some (g c))(j:n<=8)(m:d<=4)(o:100<=a):eo_ a (n:Int) (d:Int) G=some ((msD n d).filter g):=by
 have h:∀k,k<=d->n^k<=1000000000:=λk p=>by have:=cT_ (L:=n) (k:=k) j (by omega);omega
 have e:=Nat.le_trans (hp_ n d) (h d (Nat.le_refl d));have b:∀c∈msD n d,bY_ c G=some (!g c):=λc f=>by
  unfold bY_;rw[i c ((eQ_ n d c).1 f),sb]
 unfold eo_ delL;rw[kU_ n d a (by omega) (by omega) h (by omega),sb,if_pos,sb]
 ·congr 1;refine List.filter_congr λc f=>?_;show((bY_ c G).getD true==false)=g c;rw[b c f];cases g c<;>rfl
 ·rw[Bool.and_eq_true,decide_eq_true_eq,List.all_eq_true];exact⟨e,λc f=>by
   show(bY_ c G).isSome=true;rw[b c f];rfl⟩
theorem sl_(b:Nat)(I:1000000000<=b)(p:b_)(h:probB p=true)(G:p.Nodes.length<=100000000)(H:p.Edges.length<=100000000):fP_ b p=some (edgeV p):=by
 obtain⟨D,q,E,F,-,-⟩:=aK_ h;have w:2^p.Labels.toNat<=256:=di_ (by omega);have B:1<=2^p.Labels.toNat:=Nat.one_le_two_pow;have i:shl 1 p.Labels=some ((2^p.Labels.toNat:Nat):Int):=by
  have:=eZ_ (a:=p.Labels.toNat) (by omega);rwa [Int.toNat_of_nonneg (by omega)] at this
 have v:edgeV p=madeV p (fullTo p (2^p.Labels.toNat-1)) true:=rfl;have n:∀x∈fullTo p (2^p.Labels.toNat-1),x.length=2∧∀y∈x,0<=y∧y<256:=mN_ p q;obtain⟨N,A⟩:∃N:Nat,2^p.Labels.toNat=N:=⟨_,rfl⟩;rw[A] at B w i v n;have g:=ce_ (f:=do_ b p) (λj=>(fullTo p j,((j+1:Nat):Int))) (N-1) (λj J=>by
  have k:=gP_ p j;unfold do_;simp only
  rw[i,sb,if_pos (by simp;omega),rb_ b p h (by omega) (by omega) (by omega) (j+1) (by omega),sb,kZ_];have C:=nd_ p (j+1) q;by_cases e:0<nearN p (j+1)
  ·rw[if_pos (by simp;omega),rb_ b p h (by omega) (by omega) (by omega) _ C,sb,sb];by_cases m:nearN p (nearN p (j+1))=j+1
   ·rw[if_pos (by simp;omega),if_pos ⟨e,m⟩];unfold push;rw[if_pos (by omega),sb,F_ (by omega) (by omega),sb];rfl
   ·rw[if_neg (by simp;omega),if_neg (λh=>m h.2),F_ (by omega) (by omega),sb];rfl
  ·rw[if_neg (by simp;omega),sb,if_neg (by simp),if_neg (λh=>e h.1),F_ (by omega) (by omega),sb];rfl) (by
  unfold do_;simp only
  rw[i,sb,if_neg (by simp;omega)]) b 0 (by omega) (by omega)
 unfold fP_;rw[show(([]:List (List Int)),(1:Int))=(fullTo p 0,((0+1:Nat):Int)) from by simp[fullTo],g,sb];simp only
 have k:=gP_ p (N-1);rw[lH_ b (by omega) (d:=2) (by omega) _ n (by omega),sb,v];generalize fullTo p (N-1)=full at n k;have o:∀s∈sdI full.flatten,0<=s∧s<256:=λs h=>(tK_ h).1;simp only
 rw[ii_,sb];unfold madeV;by_cases e:1<=(sdI full.flatten).length∧(sdI full.flatten).length<=8
 ·rw[if_neg (by simp;omega),if_pos e];have t:p.Degree=((p.Degree.toNat:Nat):Int):=by omega
  have u:=lf_ b (sdI full.flatten).length p.Degree.toNat (λz=>ct_ b z p (sdI full.flatten)) (λc=> @decide (chS p.Nodes (sdI full.flatten) c) (Classical.propDecidable _)) (λc e=>oA_ b p h (by omega) (by omega) (by omega) _ o c e.2.2 (by rw[e.1];exact t.symm)) e.2 (by omega) (by omega);rw[<-t] at u;rw[u,sb];simp only[if_true];rfl
 ·rw[if_pos (by simp;omega),if_neg e]
theorem om_{ρ:Type}{f:Int->Int->List Int->Option (Lp (List Int) (List Int) ρ)}(b:∀k x s,f k x s=((ck (x+1))>>=λy=>(push s y)>>=λz=>some (.go z))):∀(c:List Int)(k:Int)(a:List Int),(∀y∈c,0<=y∧y<=1000)->a.length+c.length<=1000000000->forI f c k a=some (.inl (a++c.map (·+1)))
 |[],k,a,_,_=>by simp[forI]
 | y::c,k,a,d,h=>by
  rw[List.length_cons] at h;have i:=d y (by simp);have e:f k y a=some (.go (a++[y+1])):=by
   rw[b,F_ (by omega) (by omega),sb];unfold push;rw[if_pos (by omega),sb]
  simp only[forI,e];rw[om_ b c (k+1) _ (λz g=>d z (by simp[g])) (by rw[List.length_append,List.length_singleton];omega),List.map_cons,List.append_assoc,List.singleton_append]
theorem oI_{α β γ:Type}(f:α->β)(g:β->List γ):∀xs:List α,(xs.map f).flatMap g=xs.flatMap λx=>g (f x)
 |[]=>rfl
 |x::xs=>by rw[List.map_cons,List.flatMap_cons,List.flatMap_cons,oI_ f g xs]
open Classical in
theorem qm_(fuel:Nat)(hf:1000000000<=fuel)(p:b_)(h:probB p=true):bJ_ fuel (nsV p)=some (sxd (fullJ p)):=by
  obtain⟨g1,g2,g3,g4,-,-⟩:=aK_ h
  obtain⟨L,hL⟩:∃L:Nat,p.Labels=(L:Int):=⟨p.Labels.toNat,by omega⟩
  obtain⟨e,hD⟩:∃e:Nat,p.Degree=((e+1:Nat):Int):=⟨p.Degree.toNat-1,by omega⟩
  have hLt:p.Labels.toNat=L:=by omega
  have hDt:p.Degree.toNat-1=e:=by omega
  have h256:=di_ (L:=L) (by omega)
  have h1:1<=2^L:=Nat.one_le_two_pow
  have hpw:∀k,k<=e->(2^L-1)^k<=16777216:=λk hk=>by
    have q1:(2^L-1)^k<=256^k:=Nat.pow_le_pow_left (by omega) k
    have q2:256^k<=256^3:=Nat.pow_le_pow_right (by decide) (by omega)
    omega
  have hJ:fullJ p=(msD (2^L-1) e).flatMap λc=>if cmI L p.Nodes (c.map (·+1))≠0∧fullI L p.Nodes (c.map (·+1)++[cmI L p.Nodes (c.map (·+1))]) then [srt (c.map (·+1)++[cmI L p.Nodes (c.map (·+1))])] else []:=by
    unfold fullJ
    rw[hLt,hDt,oI_]
  have hJl:(fullJ p).length<=16777216:=by
    rw[hJ]
    have q1:=hp_ (2^L-1) e
    have q2:=hpw e (Nat.le_refl e)
    have q3:=ij_ (m:=1) (g:=λc=>if cmI L p.Nodes (c.map (·+1))≠0∧fullI L p.Nodes (c.map (·+1)++[cmI L p.Nodes (c.map (·+1))]) then [srt (c.map (·+1)++[cmI L p.Nodes (c.map (·+1))])] else []) (msD (2^L-1) e) (λx _=>by
      split<;>simp)
    omega
  have hJd:∀z∈fullJ p,z.length=e+1:=λz hz=>by
    have:=(kt_ p ⟨by omega,g2⟩ g3 z ((pB_ p z).1 hz)).1
    omega
  have hloop:=fY_ (body:=br_ fuel (nsV p)) (λc=>if cmI L p.Nodes (c.map (·+1))≠0∧fullI L p.Nodes (c.map (·+1)++[cmI L p.Nodes (c.map (·+1))]) then [srt (c.map (·+1)++[cmI L p.Nodes (c.map (·+1))])] else []) 1000000000 (msD (2^L-1) e) 0 [] (by rw[<-hJ];simp;omega) (λc hc j ac hac=>by
    obtain⟨m1,m2,m3⟩:=(eQ_ _ _ _).1 hc
    have hlin:∀s∈c.map (·+1),0<=s∧s.toNat<2^L:=λs hs=>by
      obtain⟨y,hy,rfl⟩:=List.mem_map.1 hs
      have:=m3 y hy
      omega
    have hcm:=ka_ fuel p h (by omega) (c.map (·+1)) (by rw[hLt];exact hlin) (by rw[List.length_map,m1,hD];omega)
    rw[hLt] at hcm
    have hcin:=ru_ L p.Nodes (c.map (·+1))
    have hcin2:(cmI L p.Nodes (c.map (·+1))).toNat<2^L:=by
      have h2:((2^L:Nat):Int)=(2:Int)^L:=by simp
      omega
    have hif:=vp_ fuel p h (by omega) (c.map (·+1)++[cmI L p.Nodes (c.map (·+1))]) (by
      rw[hLt]
      intro s hs
      rcases List.mem_append.1 hs with hs|hs
      · exact hlin s hs
      · rw[List.mem_singleton.1 hs];exact⟨hcin.1,hcin2⟩) (by rw[List.length_append,List.length_map,m1,hD];rfl)
    rw[hLt] at hif
    have hpl:=om_ (f:=bM_) (λk x s=>rfl) c 0 [] (λy hy=>by have:=m3 y hy;omega) (by simp;omega)
    rw[List.nil_append] at hpl
    have hml:(c.map (·+1)).length=e:=by rw[List.length_map,m1]
    unfold br_ mkc
    rw[show(nsV p).p.Degree=p.Degree from rfl,if_pos (by omega),sb,hpl,sb]
    simp only
    rw[hcm,sb]
    generalize cmI L p.Nodes (c.map (·+1))=z at hif hac ⊢
    generalize c.map (·+1)=l at hif hac hml ⊢
    by_cases hz:z=0
    · rw[if_pos (by simpa using hz),if_neg (λhh=>hh.1 hz),List.append_nil]
    · rw[if_neg (by simpa using hz)]
      unfold push
      rw[if_pos (by omega),sb,hif,sb]
      by_cases hfl:fullI L p.Nodes (l++[z])
      · rw[if_pos ⟨hz,hfl⟩,List.length_singleton] at hac
        rw[if_pos (decide_eq_true hfl),if_pos ⟨hz,hfl⟩]
        unfold srtO
        rw[if_pos (by rw[List.length_append,List.length_singleton];omega),sb,if_pos (by omega),sb]
      · rw[if_neg (by simpa using hfl),if_neg (λhh=>hfl hh.2),List.append_nil])
  rw[<-hJ,List.nil_append] at hloop
  unfold bJ_
  rw[show(nsV p).p.Labels=p.Labels from rfl,hL,eZ_ (by omega),sb,show(((2^L:Nat):Int)-1)=((2^L-1:Nat):Int) by omega,F_ (by omega) (by omega),sb,show(nsV p).p.Degree=p.Degree from rfl,hD,show(((e+1:Nat):Int)-1)=(e:Int) by omega,F_ (by omega) (by omega),sb,
    kU_ (2^L-1) e fuel (by omega) (by omega) (λk hk=>by have:=hpw k hk;omega) (by omega),sb,hloop,sb]
  simp only
  rw[tc_ (L:=e+1) (by omega) (by omega) hJd,sb]
theorem rV_(a:Nat)(D:1000000000<=a)(p:b_)(h:probB p=true)(H:p.Nodes.length<=100000000)(I:p.Edges.length<=100000000):fU_ a p=some (nodeV p):=by
 obtain⟨F,v,t,G,-,-⟩:=aK_ h;have g:=kt_ p ⟨by omega,v⟩ t;have j:∀z∈fullJ p,z.length=p.Degree.toNat:=λz w=>(g z ((pB_ p z).1 w)).1;have e:∀z,z∈sxd (fullJ p)<->z∈fullS p:=λz=>by rw[(rA_ j).2,pB_]
 have k:∀x∈sxd (fullJ p),x.length=p.Degree.toNat∧∀y∈x,0<=y∧y<256:=λx B=>g x ((e x).1 B);have E:=pL_ p false p.Degree.toNat k e;have i:(sxd (fullJ p)).length<=100000000:=by
  have o:=pA_ (fullJ p) [];have L:(fullJ p).length<=16777216:=by
   have o:=hp_ (2^p.Labels.toNat-1) (p.Degree.toNat-1);have J:2^p.Labels.toNat<=256:=di_ (by omega);have K:(2^p.Labels.toNat-1)^(p.Degree.toNat-1)<=256^(p.Degree.toNat-1):=Nat.pow_le_pow_left (by omega) _;have M:256^(p.Degree.toNat-1)<=256^3:=Nat.pow_le_pow_right (by decide) (by omega);have C:(fullJ p).length<=((msD (2^p.Labels.toNat-1) (p.Degree.toNat-1)).map λc=>c.map (·+1)).length*1:=by
    unfold fullJ;exact ij_ _ λx _=>by split<;>simp
   rw[List.length_map] at C;omega
  simp only[List.length_nil,Nat.zero_add] at o;show(sxd (fullJ p)).length<=_;unfold sxd;omega
 unfold fU_ nodeV;by_cases b:p.Degree=4∧6<p.Labels
 ·rw[if_pos (by simpa using b.1),sb,if_pos (by simpa using b.2),if_pos b]
 ·rw[if_neg b];have A:(if(p.Degree==4)=true then some (decide (p.Labels>6)) else some false)=some false:=by
   by_cases m:p.Degree=4
   ·rw[if_pos (by simpa using m)];have:¬p.Labels>6:=λu=>b ⟨m,u⟩;simp[this]
   ·rw[if_neg (by simpa using m)]
  rw[A,sb,if_neg (by simp),nF_ a p h (by omega) (by omega),sb,qm_ a D p h,sb,lH_ a (by omega) (d:=p.Degree.toNat) (by omega) _ k i,sb,<-E];generalize sxd (fullJ p)=full at k;have n:∀s∈sdI full.flatten,0<=s∧s<256:=λs h=>(tK_ h).1;simp only
  rw[ii_,sb];unfold madeV;by_cases f:1<=(sdI full.flatten).length∧(sdI full.flatten).length<=8
  ·rw[if_neg (by simp;omega),if_pos f];have q:=lf_ a (sdI full.flatten).length 2 (λz=>cx_ a z p (sdI full.flatten)) (λc=> @decide (chS p.Edges (sdI full.flatten) c) (Classical.propDecidable _)) (λc b=>pi_ a p h (by omega) (by omega) (by omega) _ n c b.2.2 b.1) f.2 (by omega) (by omega);rw[show((2:Nat):Int)=2 from rfl] at q;rw[q,sb];simp only[Bool.false_eq_true,if_false];rfl
  ·rw[if_pos (by simp;omega),if_neg f]
theorem pF_(a:Nat)(b:1000000000<=a)(p:b_)(h:probB p=true)(i:p.Nodes.length<=100000000)(j:p.Edges.length<=100000000):fl_ a p=some (roundV p):=by
 unfold fl_ roundV;rw[sl_ a b p h i j,sb];cases f:(edgeV p).2.2
 ·rw[if_pos (by rfl),if_neg (by simp)]
 ·obtain⟨d,e,g,m⟩:=jO_ p h f;rw[if_neg (by simp),if_pos rfl,rV_ a b _ d e g,sb];cases k:(nodeV (edgeV p).1).2.2
  ·rw[if_pos (by rfl),if_neg (by simp)]
  ·rw[if_neg (by simp),if_pos rfl]
end
section
def rowP(x:List Int):Prop:=x≠ []∧x.Pairwise (·<=·)∧(∀y∈x,0<=y)∧x.length<=4
theorem vT_{x:List Int}(h:x≠ [])(b:x.length<=4):(ck ((x.length:Int)-1))=some ((x.length:Int)-1)∧ix x ((x.length:Int)-1)=some (x.getD (x.length-1) 0):=by
 have a:0<x.length:=List.length_pos_iff.2 h;refine⟨F_ (by omega) (by omega),?_⟩;rw[show(x.length:Int)-1=((x.length-1:Nat):Int) by omega,aY_,List.getD_eq_getElem?_getD,List.getElem?_eq_getElem (by omega)];rfl
theorem vB_{x f:List Int}(b:rowP x)(e:x.getD (x.length-1) 0=(f.length:Int)-1):∀y∈x,0<=y∧y<f.length:=λy a=>by
 have:=rE_ b.2.1 y a;have:=b.2.2.1 y a;omega
theorem rn_(a:Nat)(l m:List (List Int))(r:cr_)(q nn:Int)(A:confsB m q nn=true)(u:m.length<=1000000000)(o:m.length<a)(t:∀x∈l,rowP x∧(x.length:Int)=q)(H:r.perm.length<=1000):
  ∃b,cc_ a r l m=some b∧(b=true<->keptP l m r.perm):=by
 obtain⟨z,C,v⟩:=eT_ (body:=bQ_ a r m ((r.perm.length:Int)-1)) (λx=>x.getD (x.length-1) 0=(r.perm.length:Int)-1∧srt (imgL r.perm x) ∉ m) (λb:Bool=>b=false) l 0 (λx g j=>by
  obtain⟨k,n⟩:=t x g;obtain⟨B,w⟩:=vT_ k.1 k.2.2.2;unfold bQ_;rw[B,sb,w,sb];by_cases e:x.getD (x.length-1) 0=(r.perm.length:Int)-1
  ·have i:=gd_ r.perm x;have G:=k.2.2.2;have p:=vB_ k e;have f:=if_ (ρ:=Bool) (body:=bS_ r) (λj=>imgL r.perm (x.take j)) x (λj y s=>by
    have D:=p y (List.mem_of_getElem? s);have hi:ix r.perm y=some (r.perm.getD y.toNat 0):=by
     unfold ix;rw[if_pos D.1,List.getD_eq_getElem?_getD,List.getElem?_eq_getElem (by omega)];rfl
    unfold bS_;rw[hi,sb];unfold push;rw[if_pos (by rw[gd_,List.length_take];omega),sb,List.take_add_one,s];simp[imgL])
   rw[List.take_length] at f;rw[if_neg (by simpa using e)];rw[show imgL r.perm (x.take 0)=([]:List Int) from rfl] at f;rw[f,sb];simp only
   rw[lb_ a m q nn A _ (by rw[i];exact n) u (by omega) o,sb];by_cases d:srt (imgL r.perm x)∈m
   ·exact⟨_,by rw[decide_eq_true d,if_neg (by simp)],.inl ⟨rfl,λh=>h.2 d⟩⟩
   ·exact⟨_,by rw[decide_eq_false d,if_pos (by simp)],.inr ⟨_,rfl,rfl,e,d⟩⟩
  ·exact⟨_,by rw[if_pos (by simpa using e)],.inl ⟨rfl,λh=>e h.1⟩⟩)
 unfold cc_;rw[F_ (by omega) (by omega),sb,C,sb];rcases v with⟨rfl,E⟩|⟨b,rfl,rfl,x,g,e,d⟩
 ·exact⟨_,rfl,λ_ x g e=>Classical.byContradiction λd=>E x g ⟨e,d⟩,λ_=>rfl⟩
 ·exact⟨_,rfl,by simp,λF=>absurd (F x g e) d⟩
theorem jn_{X:List (List Int)}{m n:Int}(h:confsB X m n=true)(i:1<=m)(g:m<=4):∀x∈X,rowP x∧(x.length:Int)=m:=λx f=>by
 obtain⟨a,b,c⟩:=(et_ h).1 x f;exact⟨⟨λe=>by subst e;simp at a;omega,in_.1 b,λy d=>(c y d).1,by omega⟩,a⟩
theorem ku_{X:List (List Int)}{m n:Int}(h:confsB X m n=true)(i:1<=m)(g:0<=n):∀x∈X,x≠ []∧x.Pairwise (·<=·)∧∀y∈x,0<=y∧y<(n.toNat:Int):=λx f=>by
 obtain⟨a,b,c⟩:=(et_ h).1 x f;exact⟨λe=>by subst e;simp at a;omega,in_.1 b,λy d=>by have:=c y d;omega⟩
def okI(p q:b_)(f:List Int):Prop:=keptP p.Nodes q.Nodes f∧keptP p.Edges q.Edges f
end
section
open Classical in
noncomputable def lme(p q:b_)(L:Nat):Nat->List Int->Option (List Int)
  |0,f=>if vmap p q f then some f else none
  |d+1,f=>(List.range L).findSome? λb:Nat=>lme p q L d (f++[(b:Int)])
theorem io_{p q:b_}{L:Nat}:∀{d:Nat}{f:List Int},(∀g:List Int,g.length=d->(∀y∈g,0<=y∧y<(L:Int))->¬vmap p q (f++g))->lme p q L d f=none
 |0,f,h=>by
  have:=h [] rfl (by simp);rw[List.append_nil] at this;unfold lme;exact if_neg this
 | d+1,f,h=>by
  unfold lme;rw[List.findSome?_eq_none_iff];intro b e;have e:=List.mem_range.1 e;refine io_ λg i j=>?_;have:=h ((b:Int)::g) (by simp[i]) (λy a=>by
   rcases List.mem_cons.1 a with rfl|a
   ·omega
   ·exact j y a)
  simpa using this
theorem iF_{α β:Type}(p:α->Bool)(F:α->Option β)(a:∀x,p x=false->F x=none):∀xs:List α,(xs.filter p).findSome? F=xs.findSome? F
 |[]=>rfl
 |x::xs=>by
  rw[List.filter_cons];cases h:p x
  ·rw[if_neg (by simp),iF_ p F a xs,List.findSome?_cons,a x h]
  ·rw[if_pos rfl,List.findSome?_cons,List.findSome?_cons,iF_ p F a xs]
theorem jH_{α β:Type}{F G:α->Option β}:∀{xs:List α},(∀x∈xs,F x=G x)->xs.findSome? F=xs.findSome? G
 |[],_=>rfl
 |x::xs,h=>by
  rw[List.findSome?_cons,List.findSome?_cons,h x (by simp),jH_ λy a=>h y (by simp[a])]
theorem rH_{β:Type}{L N:Nat}(e:L<=N)(F:Nat->Option β)(a:∀b,L<=b->F b=none):(List.range N).findSome? F=(List.range L).findSome? F:=by
 obtain⟨k,rfl⟩:∃k,N=L+k:=⟨N-L,by omega⟩;have d:(List.range k).findSome? (F ∘ λx=>L+x)=none:=List.findSome?_eq_none_iff.2 λb _=>a _ (Nat.le_add_right L b);rw[List.range_add,List.findSome?_append,List.findSome?_map,d];simp
theorem vf_{β:Type}{L m:Nat}(h:L<=8)(d:∀b,m.testBit b=true->b<L)(F:Int->Option β)(f:∀b:Nat,b<L->m.testBit b=false->F b=none):(lbs 8 m).findSome? F=(List.range L).findSome? λb:Nat=>F b:=by
 unfold lbs;rw[List.findSome?_map];have g:((List.range 8).filter λi=>m.testBit i).findSome? (F ∘ λi:Nat=>(i:Int))=((List.range 8).filter λi=>m.testBit i).findSome? λb:Nat=>if b<L then F b else none:=by
  refine jH_ λb a=>?_;rw[if_pos (d b (List.mem_filter.1 a).2)];rfl
 rw[g,iF_ (λi=>m.testBit i) _ (λb a=>by
  by_cases e:b<L
  ·rw[if_pos e];exact f b e a
  ·rw[if_neg e]),rH_ h _ (λb a=>if_neg (by omega))]
 exact jH_ λb a=>if_pos (List.mem_range.1 a)
theorem oW_{α ρ:Type}{body:Int->α->Unit->Option (Lp Unit Unit ρ)}(F:α->Option ρ):∀(xs:List α)(k:Int),(∀x∈xs,∀j,body j x ()=some (match F x with|none=> .go ()|some r=> .ret r))->
  forI body xs k ()=some (match xs.findSome? F with|none=> .inl ()|some r=> .inr r)
 |[],k,_=>rfl
 | x::xs,k,h=>by
  have a:=h x (by simp) k;have ih:=oW_ F xs (k+1) λy d=>h y (by simp[d]);rw[List.findSome?_cons];cases b:F x with
  |none=>
   rw[b] at a;simp only[forI,a];exact ih
  |some r=>
   rw[b] at a;simp only[forI,a]
theorem nW_{σ ρ:Type}{body:Int->σ->Option (Lp σ σ ρ)}(s:σ)(F:Nat->Option ρ)(n:Nat)(h:∀j:Nat,j<n->body (j:Int) s=some (match F j with|none=> .go s|some r=> .ret r)):
  ∀(d j:Nat),j+d=n->forN body d (j:Int) s=some (match (List.range' j d).findSome? F with|none=> .inl s|some r=> .inr r)
 |0,j,e=>rfl
 | d+1,j,e=>by
  have a:=h j (by omega);have ih:=nW_ s F n h d (j+1) (by omega);rw[List.range'_succ,List.findSome?_cons];cases b:F j with
  |none=>
   rw[b] at a;simp only[forN,a];exact ih
  |some r=>
   rw[b] at a;simp only[forN,a]
theorem wG_{m:Nat}(h:m≠0):∃b,m.testBit b=true:=Nat.exists_testBit_of_ne_zero h
theorem wt_{n:Nat}{S:List Int}(k:msk n S)(h:(0:Int) ∉ S){a:Nat}(i:a<n):∃b,bo S a b:=by
 obtain⟨m,o,f,j⟩:=k.at i;have d:m≠0:=λe=>by subst e;exact h (List.mem_of_getElem? f)
 obtain⟨b,g⟩:=wG_ d;exact⟨b,by unfold bo;rw[j,Int.toNat_natCast];exact g⟩
theorem sT_{n L:Nat}{x S f:List Int}{G:List Int->Prop}(p:∀y∈x,0<=y∧y<(n:Int))(H:1<=x.length)(D:msk n S)(t:(0:Int) ∉ S)(J:f.length=n)(A:∀a,a<n->∀b,bo S a b->f.getD a 0=(b:Int))
  (C:∀a b:Nat,(a:Int)∈x->bo S a b->supp L x S G a b):G (imgL f x):=by
 obtain⟨a,B,k,_⟩:=jS_ p (i:=0) H;obtain⟨b,F⟩:=wt_ D t B;obtain⟨y,E,s,_⟩:=C a b (List.mem_of_getElem? k) F;obtain⟨q,_,v⟩:=oL_ E;have:y=imgL f x:=by
  refine List.ext_getElem (by rw[gd_];simpa using q) λi w o=>?_;have hi:i<x.length:=by simpa [gd_] using o
  obtain⟨c,u,g,j⟩:=jS_ p hi;obtain⟨e,I,h,d⟩:=v i (by simp) (by simpa using hi);rw[j,Int.toNat_natCast] at d;have m:=qp_ (f:=f) g;rw[List.getElem?_eq_getElem o] at m;rw[Option.some.inj m,A c u e d,<-h,List.getD_eq_getElem?_getD,List.getElem?_eq_getElem w];rfl
 rwa [this] at s
theorem tk_{n L:Nat}{g S:List Int}(h:inS n L g S)(j:msk n S):(0:Int) ∉ S:=λi=>by
 obtain⟨a,f⟩:=List.mem_iff_getElem?.1 i;have d:=(List.getElem?_eq_some_iff.1 f).1;obtain⟨b,_,_,e⟩:=h.2 a (by rw[<-j.1];exact d);unfold bo at e;rw[getD_some f] at e;simp at e
structure Gs (X:H_) (n L:Nat) (f S:List Int):Prop where
  m:msk n S
  st:stab X L S
  nz:(0:Int) ∉ S
  lt:∀a b,bo S a b->b<L
  one:∀a,a<f.length->∀b,bo S a b->f.getD a 0=(b:Int)
  all:∀g:List Int,f.length+g.length=n->(∀y∈g,0<=y∧y<(L:Int))->vmap X.p X.q (f++g)->inS n L (f++g) S
theorem ss_(X:H_){n L D:Nat}(h:Fnd X n L D)(H:1<=D):∀(d:Nat)(f S:List Int)(i:Nat),f.length+d=n->4000+d<i->Gs X n L f S->
  aW_ i X f S=some ((lme X.p X.q L d f).getD [],(lme X.p X.q L d f).isSome)
 |0,f,S,i,hd,hf,k=>by
  obtain⟨m,rfl⟩:∃m,i=m+1:=⟨i-1,by omega⟩;have w:vmap X.p X.q f:=⟨λx u=>sT_ (h.cN x u).2 (by rw[(h.cN x u).1];exact H) k.m k.nz (by omega) (λa R=>k.one a (by omega)) (k.st.2 x u),λx u=>sT_ (h.cE x u).2 (by rw[(h.cE x u).1];decide) k.m k.nz (by omega) (λa R=>k.one a (by omega)) (k.st.1 x u)⟩;have V:lme X.p X.q L 0 f=some f:=by unfold lme;exact if_pos w
  unfold aW_;rw[if_pos (by rw[h.hn];simp;omega),V];rfl
 | d+1,f,S,i,hd,hf,k=>by
  obtain⟨m,rfl⟩:∃m,i=m+1:=⟨i-1,by omega⟩;obtain⟨s,hs,K,J⟩:=k.m.at (a:=f.length) (by omega);have h8:=h.L8;have n8:=h.n8;have hSl:=k.m.1;have G:∀b,s.testBit b=true->b<L:=λb T=>k.lt f.length b (by unfold bo;rw[J,Int.toNat_natCast];exact T);have A:∀b:Nat,b<L->s.testBit b=false->lme X.p X.q L d (f++[(b:Int)])=none:=λb T ht=>io_ λg W M w=>by
   have:=k.all ((b:Int)::g) (by simp;omega) (λy F=>by
    rcases List.mem_cons.1 F with rfl|F
    ·omega
    ·exact M y F) (by simpa using w)
   obtain⟨c,_,t,o⟩:=this.2 f.length (by omega);rw[List.getD_eq_getElem?_getD,List.getElem?_append_right (Nat.le_refl _)] at t;simp at t;have:c=b:=by omega
   subst this;unfold bo at o;rw[J,Int.toNat_natCast,ht] at o;cases o
  have C:=oW_ (body:=ch_ m X f S (aW_ m)) (λx:Int=>(lme X.p X.q L d (f++[x])).map λg=>(g,true)) (lbs 8 s) 0 (λx u j=>by
   obtain⟨b,rfl,hb8,U⟩:=nn_.1 u;have hbL:=G b U;have h2:2^b<256:=by
    have:=Nat.pow_le_pow_right (n:=2) (by decide) (show b<=7 by omega);omega
   have hN:=k.m.set f.length h2;obtain⟨Q,e1,I,e3⟩:=qP_ X h m (by omega) (S.set f.length ((2^b:Nat):Int)) hN;have B:∀c e,bo (S.set f.length ((2^b:Nat):Int)) c e<->if c=f.length then e=b else bo S c e:=λc e=>by
    rw[tW_ (by omega),Nat.testBit_two_pow];by_cases q:c=f.length
    ·rw[if_pos q,if_pos q];simp[eq_comm]
    ·rw[if_neg q,if_neg q]
   have v:∀g:List Int,(f++[(b:Int)]).length+g.length=n->(∀y∈g,0<=y∧y<(L:Int))->vmap X.p X.q (f++[(b:Int)]++g)->inS n L (f++[(b:Int)]++g) Q:=λg W M w=>by
    rw[List.length_append,List.length_singleton] at W;have hi:=k.all ((b:Int)::g) (by simp;omega) (λy F=>by
     rcases List.mem_cons.1 F with rfl|F
     ·omega
     ·exact M y F) (by simpa using w)
    rw[show f++(b:Int)::g=f++[(b:Int)]++g by simp] at hi;refine I.keep _ w (vD_ hi λa c R t o=>(B a c).2 ?_);by_cases q:a=f.length
    ·rw[if_pos q];subst q;rw[List.append_assoc,List.getD_eq_getElem?_getD,List.getElem?_append_right (Nat.le_refl _)] at t;simp at t;omega
    ·rw[if_neg q];exact o
   unfold ch_;rw[gs_ _ (by omega),sb,eZ_ (by omega),sb,aY_,K,sb,iM_ _ _ _ (by omega),sb,e1,sb];by_cases O:(0:Int)∈Q
   ·have Y:lme X.p X.q L d (f++[(b:Int)])=none:=io_ λg W M w=>tk_ (v g (by simp;omega) M w) I.m O;rw[if_neg (by simp[O]),Y];rfl
   ·have Z:Gs X n L (f++[(b:Int)]) Q:=⟨I.m,e3,O,λa c t=>by
     have:=(B a c).1 (I.sub a c t);by_cases q:a=f.length
     ·rw[if_pos q] at this;omega
     ·rw[if_neg q] at this;exact k.lt a c this,λa R c t=>by
     rw[List.length_append,List.length_singleton] at R;have:=(B a c).1 (I.sub a c t);by_cases q:a=f.length
     ·rw[if_pos q] at this;subst q;rw[List.getD_eq_getElem?_getD,List.getElem?_append_right (Nat.le_refl _)];simp;omega
     ·rw[if_neg q] at this;have:=k.one a (by omega) c this;rw[List.getD_eq_getElem?_getD,List.getElem?_append_left (by omega),<-List.getD_eq_getElem?_getD];exact this,v⟩
    have ih:=ss_ X h H d (f++[(b:Int)]) Q m (by simp;omega) (by omega) Z;have E:push f (b:Int)=some (f++[(b:Int)]):=by unfold push;rw[if_pos (by omega)]
    rw[if_pos (by simp[O]),gs_ _ (by omega),sb,E,sb,ih,sb];cases lme X.p X.q L d (f++[(b:Int)]) with
    |none=>rfl
    |some g=>rfl)
  unfold aW_;rw[if_neg (by rw[h.hn];simp;omega),aY_,K,sb,ip_ s m (by omega),sb,C,sb];rw[vf_ h8 G _ (λb T ht=>by rw[A b T ht];rfl)];have V:lme X.p X.q L (d+1) f=(List.range L).findSome? λb:Nat=>lme X.p X.q L d (f++[(b:Int)]):=rfl;rw[V];have N:∀xs:List Nat,(xs.findSome? λb:Nat=>(lme X.p X.q L d (f++[(b:Int)])).map λg=>(g,true))=(xs.findSome? λb:Nat=>lme X.p X.q L d (f++[(b:Int)])).map λg=>(g,true):=by
   intro xs
   induction xs with
   |nil=>rfl
   |cons x xs ih=>
    rw[List.findSome?_cons,List.findSome?_cons];cases lme X.p X.q L d (f++[(x:Int)]) with
    |none=>exact ih
    |some g=>rfl
  rw[N];cases (List.range L).findSome? λb:Nat=>lme X.p X.q L d (f++[(b:Int)]) with
  |none=>rfl
  |some g=>rfl
theorem tl_{l m:List (List Int)}{g h:List Int}(i:∀x∈l,rowP x)(j:∃z,g=h++z)(f:∀x∈l,srt (imgL g x)∈m):keptP l m h:=λx a e=>by
 have:=f x a;obtain⟨z,rfl⟩:=j;have b:imgL (h++z) x=imgL h x:=by
  unfold imgL;refine List.map_congr_left λy d=>?_;have:=vB_ (i x a) e y d;rw[List.getD_eq_getElem?_getD,List.getElem?_append_left (by omega),List.getD_eq_getElem?_getD]
 rwa [b] at this
structure Tw (p q:b_):Prop where
  pG:probB p=true
  qG:probB q=true
  pN:p.Nodes.length<=100000000
  pE:p.Edges.length<=100000000
  qN:q.Nodes.length<=100000000
  qE:q.Edges.length<=100000000
  D:p.Degree=q.Degree
theorem tv_(p q:b_)(h:Tw p q):∀(d:Nat)(f:List Int)(a:Nat),(f.length:Int)+d=p.Labels->200000000+d<a->(∀k,k<f.length->okI p q (f.take (k+1)))->
  aV_ a p q f=some (match lme p q q.Labels.toNat d f with|some g=>(true,g)|none=>(false,f))
 |0,f,a,Y,hf,B=>by
  obtain⟨m,rfl⟩:∃m,a=m+1:=⟨a-1,by omega⟩;obtain⟨N,R,E,K,G,I⟩:=aK_ h.pG;have A:vmap p q f:=⟨sI_ (n:=f.length) rfl (λx o=>by have:=ku_ G E (by omega) x o;rwa [show(p.Labels.toNat:Int)=f.length by omega] at this) (λk s=>(B k s).1),sI_ (n:=f.length) rfl (λx o=>by have:=ku_ I (by omega) (by omega) x o;rwa [show(p.Labels.toNat:Int)=f.length by omega] at this) (λk s=>(B k s).2)⟩;have F:lme p q q.Labels.toNat 0 f=some f:=by unfold lme;exact if_pos A
  unfold aV_;rw[if_pos (by simp;omega),F]
 | d+1,f,a,Y,hf,B=>by
  obtain⟨m,rfl⟩:∃m,a=m+1:=⟨a-1,by omega⟩;obtain⟨N,R,E,K,G,I⟩:=aK_ h.pG;obtain⟨k1,k2,k3,k4,Z,X⟩:=aK_ h.qG;have U:=h.qN;have Q:=h.qE;have T:=h.D;have C:=jn_ G E K;have L:=jn_ I (by omega) (by omega);have t:=nW_ (body:=cg_ m p q (aV_ m)) f (λb:Nat=>(lme p q q.Labels.toNat d (f++[(b:Int)])).map λg=>(true,g)) q.Labels.toNat (λj hj=>by
   have i:(ck (((f++[(j:Int)]).length:Int)-1))=some (f.length:Int)∧cut (f++[(j:Int)]) 0 (f.length:Int)=some f:=by
    refine⟨by rw[F_ (by simp<;>omega) (by simp<;>omega),List.length_append,List.length_singleton];(try (congr 1;omega)),?_⟩;unfold cut;rw[if_pos ⟨Int.le_refl 0,by omega,by simp;omega⟩];simp
   have y:push f (j:Int)=some (f++[(j:Int)]):=by unfold push;rw[if_pos (by omega)]
   have u:(f++[(j:Int)]).length<=1000:=by simp;omega
   unfold cg_;rw[y,sb];obtain⟨b1,O,M⟩:=rn_ m p.Nodes q.Nodes (⟨⟨p.Labels,p.Degree,p.Nodes,p.Edges⟩,⟨q.Labels,q.Degree,q.Nodes,q.Edges⟩,f++[(j:Int)]⟩:cr_) q.Degree q.Labels Z (by omega) (by omega) (λx o=>⟨(C x o).1,by rw[(C x o).2,T]⟩) u;rw[O,sb];cases b1
   ·have v:lme p q q.Labels.toNat d (f++[(j:Int)])=none:=io_ λg S W A=>by
     have:=M.2 (tl_ (λx o=>(C x o).1) ⟨g,rfl⟩ A.1);cases this
    rw[if_neg (by simp),sb,if_neg (by simp),i.1,sb,i.2,sb,v];rfl
   ·obtain⟨V,a3,J⟩:=rn_ m p.Edges q.Edges (⟨⟨p.Labels,p.Degree,p.Nodes,p.Edges⟩,⟨q.Labels,q.Degree,q.Nodes,q.Edges⟩,f++[(j:Int)]⟩:cr_) 2 q.Labels X (by omega) (by omega) (λx o=>L x o) u;rw[if_pos rfl,a3,sb];cases V
    ·have v:lme p q q.Labels.toNat d (f++[(j:Int)])=none:=io_ λg S W A=>by
      have:=J.2 (tl_ (λx o=>(L x o).1) ⟨g,rfl⟩ A.2);cases this
     rw[if_neg (by simp),sb,if_neg (by simp),i.1,sb,i.2,sb,v];rfl
    ·have H:∀k,k<(f++[(j:Int)]).length->okI p q ((f++[(j:Int)]).take (k+1)):=λk s=>by
      by_cases e:k<f.length
      ·rw[List.take_append_of_le_length (by omega)];exact B k e
      ·rw[List.length_append,List.length_singleton] at s;rw[List.take_of_length_le (by simp;omega)];exact⟨M.1 rfl,J.1 rfl⟩
     have ih:=tv_ p q h d (f++[(j:Int)]) m (by simp;omega) (by omega) H;rw[if_pos rfl,ih,sb,sb];cases o:lme p q q.Labels.toNat d (f++[(j:Int)]) with
     |none=>
      simp only[Option.map_none,Bool.false_eq_true,if_false];rw[i.1,sb,i.2,sb]
     |some g=>rfl) q.Labels.toNat 0 (by omega)
  unfold aV_;rw[if_neg (by simp;omega),F_ (by omega) (by omega),sb];rw[show((0:Nat):Int)=0 from rfl] at t;rw[t,sb];have F:lme p q q.Labels.toNat (d+1) f=(List.range q.Labels.toNat).findSome? λb:Nat=>lme p q q.Labels.toNat d (f++[(b:Int)]):=rfl;rw[F,List.range_eq_range'];have w:∀xs:List Nat,(xs.findSome? λb:Nat=>(lme p q q.Labels.toNat d (f++[(b:Int)])).map λg=>(true,g))=(xs.findSome? λb:Nat=>lme p q q.Labels.toNat d (f++[(b:Int)])).map λg=>(true,g):=by
   intro xs
   induction xs with
   |nil=>rfl
   |cons x xs ih=>
    rw[List.findSome?_cons,List.findSome?_cons];cases lme p q q.Labels.toNat d (f++[(x:Int)]) with
    |none=>exact ih
    |some g=>rfl
  rw[w];cases (List.range' 0 q.Labels.toNat).findSome? λb:Nat=>lme p q q.Labels.toNat d (f++[(b:Int)]) with
  |none=>rfl
  |some g=>rfl
noncomputable def lmapV(p q:b_):List Int×Bool:=if probB p&&probB q&&p.Degree==q.Degree then((lme p q q.Labels.toNat p.Labels.toNat []).getD [],(lme p q q.Labels.toNat p.Labels.toNat []).isSome) else([],false)
theorem vP_(a:Nat)(b:200000000<=a)(p q:b_)(e:p.Nodes.length<=100000000)(d:p.Edges.length<=100000000)(g:q.Nodes.length<=100000000)(f:q.Edges.length<=100000000):
  ju_ a p q=some (probB p&&probB q&&p.Degree==q.Degree)∧dV_ a p q=some (probB p&&probB q&&p.Degree==q.Degree):=by
 unfold ju_ dV_;simp only[jr_ a (by omega) p (by omega) (by omega),jr_ a (by omega) q (by omega) (by omega),hh_ a (by omega) p (by omega) (by omega),hh_ a (by omega) q (by omega) (by omega),sb];cases probB p<;>cases probB q<;>exact⟨rfl,rfl⟩
theorem mG_(d:Nat)(hf:1000000000<=d)(p q:b_)(N:p.Nodes.length<=100000000)(M:p.Edges.length<=100000000)(qN:q.Nodes.length<=100000000)(W:q.Edges.length<=100000000):
  cy_ d p q=some (lmapV p q)∧cq_ d p q=some (lmapV p q):=by
 obtain⟨t1,t2⟩:=vP_ d (by omega) p q N M qN W;unfold cy_ cq_ lmapV;rw[t1,t2,sb,sb];cases X:(probB p&&probB q&&p.Degree==q.Degree)
 ·exact⟨rfl,rfl⟩
 ·rw[Bool.and_eq_true,Bool.and_eq_true,beq_iff_eq] at X;obtain⟨⟨hp,Z⟩,hD⟩:=X;have h:Tw p q:=⟨hp,Z,N,M,qN,W,hD⟩;obtain⟨g1,g2,V,g4,Y,g6⟩:=aK_ hp;obtain⟨k1,k2,k3,k4,k5,k6⟩:=aK_ Z;obtain⟨n,S⟩:∃n:Nat,p.Labels=(n:Int):=⟨p.Labels.toNat,by omega⟩;obtain⟨L,H⟩:∃L:Nat,q.Labels=(L:Int):=⟨q.Labels.toNat,by omega⟩;obtain⟨D,I⟩:∃D:Nat,q.Degree=(D:Int):=⟨q.Degree.toNat,by omega⟩;simp only[Bool.not_true,Bool.false_eq_true,if_false,if_true];constructor
  ·have U:Fnd ⟨p,q,retV q.Nodes L D,retV q.Edges L 2⟩ n L D:=⟨S,H,by omega,by omega,by omega,by omega,λx w=>by
    have F:=ku_ Y V (by omega) x w;have a2:=(jn_ Y V g4 x w).2;exact⟨by omega,λy R=>by have:=F.2.2 y R;omega⟩,λx w=>by
    have F:=ku_ g6 (by omega) (by omega) x w;have a2:=(jn_ g6 (by omega) (by omega) x w).2;exact⟨by omega,λy R=>by have:=F.2.2 y R;omega⟩,N,M,rfl,rfl⟩
   have h2L:2^L<=256:=di_ (by omega);have h2p:1<=2^L:=Nat.one_le_two_pow;have t:=ce_ (f:=bp_ p q) (λj=>(List.replicate j (((2^L-1:Nat)):Int),(j:Int))) n (λj hj=>by
    unfold bp_;simp only
    unfold push;rw[S,H,if_pos (by simpa using hj),eZ_ (by omega),sb,F_ (by omega) (by omega),sb,if_pos (by simp;omega),sb,F_ (by omega) (by omega),sb,List.replicate_succ',show((2^L:Nat):Int)-1=((2^L-1:Nat):Int) by omega];rfl) (by
    unfold bp_;simp only
    rw[S,if_neg (by simp)]) d 0 (by omega) (by omega)
   have hS:msk n (List.replicate n (((2^L-1:Nat)):Int)):=⟨List.length_replicate,λv A=>by rw[(List.mem_replicate.1 A).2];omega⟩;have u:∀a b,a<n->(bo (List.replicate n (((2^L-1:Nat)):Int)) a b<->b<L):=λa b s=>by
    unfold bo;rw[List.getD_eq_getElem?_getD,List.getElem?_replicate,if_pos s,Option.getD_some,Int.toNat_natCast,Nat.testBit_two_pow_sub_one];simp
   have O:∀a b,bo (List.replicate n (((2^L-1:Nat)):Int)) a b->b<L:=λa b e=>by
    by_cases s:a<n
    ·exact(u a b s).1 e
    ·unfold bo at e;rw[List.getD_eq_getElem?_getD,List.getElem?_replicate,if_neg s] at e;simp at e
   obtain⟨G,e1,E,e3⟩:=qP_ _ U d (by omega) _ hS;have o:∀g:List Int,([]:List Int).length+g.length=n->(∀y∈g,0<=y∧y<(L:Int))->vmap p q ([]++g)->inS n L ([]++g) G:=λg C Q A=>by
    refine E.keep _ A ⟨by simpa using C,λa s=>?_⟩;obtain⟨b,e,_,T⟩:=jS_ Q (i:=a) (by simp only[List.length_nil] at C;omega);refine⟨b,e,by simpa using T,(u a b s).2 e⟩
   have hq1:q.Labels.toNat=L:=by omega
   have K:p.Labels.toNat=n:=by omega
   rw[I,H,oz_ d (by omega) q.Nodes L D (by omega) (by omega) (by omega),sb,show(2:Int)=((2:Nat):Int) from rfl,oz_ d (by omega) q.Edges L 2 (by omega) (by omega) (by omega),sb];rw[show(([]:List Int),(0:Int))=(List.replicate 0 (((2^L-1:Nat)):Int),((0:Nat):Int)) from rfl,t,sb];simp only
   rw[e1,sb,K];rw[show((L:Nat):Int).toNat=L from rfl];by_cases B:(0:Int)∈G
   ·have J:lme p q L n []=none:=io_ λg C Q A=>tk_ (o g (by simpa using C) Q A) E.m B;rw[if_pos (by simp[B]),J];rfl
   ·rw[if_neg (by simp[B]),ss_ _ U (by omega) n [] G d (by simp) (by omega) ⟨E.m,e3,B,λa b e=>O a b (E.sub a b e),λa s=>by simp at s,o⟩,sb]
  ·rw[tv_ p q h p.Labels.toNat [] d (by simp;omega) (by omega) (λk hk=>by simp at hk),sb];cases lme p q q.Labels.toNat p.Labels.toNat [] with
   |none=>rfl
   |some g=>rfl
end
end Go.Proofs.YtdbbeldgdgonfaaGreat
