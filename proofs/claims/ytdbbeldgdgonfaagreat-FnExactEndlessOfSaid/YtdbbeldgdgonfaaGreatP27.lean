/- Part 27 of what this claim rests on (Elh, GRo), packed by pack.py. -/
import Derived.Test.YtdbbeldgdgonfaaGreatP03
import Derived.Test.YtdbbeldgdgonfaaGreatP04
import Derived.Test.YtdbbeldgdgonfaaGreatP07
import Derived.Test.YtdbbeldgdgonfaaGreatP09
import Derived.Test.YtdbbeldgdgonfaaGreatP12
import Derived.Test.YtdbbeldgdgonfaaGreatP15
import Derived.Test.YtdbbeldgdgonfaaGreatP17
import Derived.Test.YtdbbeldgdgonfaaGreatP21
import Derived.Test.YtdbbeldgdgonfaaGreatP26
namespace Go.Proofs.YtdbbeldgdgonfaaGreat
open Tryz renaming prog→tX_, underlying85→ul_, sizeOf41→uf_, isAgg41→ug_, underlying41→tY_, underlying22→ub_, sizeOf3→tZ_, isAgg3→ua_, results119→wF_
set_option linter.unusedSimpArgs false
set_option linter.unusedVariables false
section
open Go.Lib
theorem qo_(fuel:Nat)(p:c_)(h:probB p=true)(hJ:p.Edges.length<=1000000000)(hf:p.Edges.length<fuel)(xs ys:List Int):
  ∃l b,dL_ fuel p xs ys=some (l,b)∧(b=true<->∃a∈xs,∃c∈ys,srt [a,c] ∉ p.Edges):=by
 have hin:∀a,∃z,forI (cl_ fuel p a) ys 0 ()=some z∧((z=.inl ()∧∀c∈ys,¬srt [a,c] ∉ p.Edges)∨∃r,z=.inr r∧r.2=true∧∃c∈ys,srt [a,c] ∉ p.Edges):=λa=>
  eo_ (body:=cl_ fuel p a) (λc=>srt [a,c] ∉ p.Edges) (λr:List Int×Bool=>r.2=true) ys 0 (λc _ j=>by
   unfold cl_;rw[qn_ fuel p h a c hJ hf,sb];by_cases hc:srt [a,c]∈p.Edges
   ·exact⟨_,by rw[if_neg (by simpa using hc)],.inl ⟨rfl,λhn=>hn hc⟩⟩
   ·exact⟨_,by rw[if_pos (by simpa using hc)],.inr ⟨_,rfl,rfl,hc⟩⟩)
 obtain⟨z,h1,h2⟩:=eo_ (body:=cP_ fuel p ys) (λa=>∃c∈ys,srt [a,c] ∉ p.Edges) (λr:List Int×Bool=>r.2=true) xs 0 (λa _ j=>by
  obtain⟨z,h1,h2⟩:=hin a;unfold cP_;rw[h1,sb];rcases h2 with⟨rfl,hno⟩|⟨r,rfl,hr,hq⟩
  ·exact⟨_,rfl,.inl ⟨rfl,λ⟨c,hc,hn⟩=>hno c hc hn⟩⟩
  ·exact⟨_,rfl,.inr ⟨r,rfl,hr,hq⟩⟩)
 unfold dL_;rw[h1,sb];rcases h2 with⟨rfl,hno⟩|⟨⟨l,b⟩,rfl,hr,hq⟩
 ·refine⟨[],false,rfl,by simp,λ⟨a,ha,hc⟩=>absurd hc (hno a ha)⟩
 ·exact⟨l,b,rfl,λ_=>hq,λ_=>hr⟩
open Classical in
theorem ni_(fuel:Nat)(p:c_)(h:probB p=true)(hJ:p.Edges.length<=1000000000)(hf:p.Edges.length<fuel)(xs ys:List Int):
    ec_ fuel p xs ys=some (decide (∀a∈xs,∀c∈ys,srt [a,c]∈p.Edges)):=by
  obtain⟨l,b,h1,h2⟩:=qo_ fuel p h hJ hf xs ys
  unfold ec_
  rw[h1,sb]
  congr 1
  cases b
  · have:∀a∈xs,∀c∈ys,srt [a,c]∈p.Edges:=λa ha c hc=>Classical.byContradiction λhn=>by simpa using h2.2 ⟨a,ha,c,hc,hn⟩
    rw[decide_eq_true this];rfl
  · obtain⟨a,ha,c,hc,hn⟩:=h2.1 rfl
    have:¬∀a∈xs,∀c∈ys,srt [a,c]∈p.Edges:=λhh=>hn (hh a ha c hc)
    rw[decide_eq_false this];rfl
theorem om_(fuel:Nat)(p:c_)(h:probB p=true)(hJ:p.Edges.length<=1000000000)(hf:p.Edges.length<fuel)(hf8:10<=fuel)(S:Nat)(hS:S<256):fM_ fuel p (S:Int)=some ((nearN p S:Nat):Int):=by
 obtain⟨g1,g2,g3,g4,-,-⟩:=aH_ h;obtain⟨L,hL⟩:∃L:Nat,p.Labels=(L:Int):=⟨p.Labels.toNat,by omega⟩;have hloop:=dW_ (body:=eF_ fuel p (S:Int)) (λj=>((bitsP (λb=>∀a∈lbs 8 S,srt [a,(b:Int)]∈p.Edges) j:Nat):Int)) L (λj hj=>by
  have hlt:=et_ (λb:Nat=>∀a∈lbs 8 S,srt [a,(b:Int)]∈p.Edges) j;have h2:2^j<=256:=cR_ (by omega);unfold eF_;rw[kK_ 8 S fuel (by omega) (by omega) (by omega),sb,ni_ fuel p h hJ hf,sb];by_cases hc:∀a∈lbs 8 S,srt [a,(j:Int)]∈p.Edges
  ·have hc2:∀a∈lbs 8 S,∀c∈ [(j:Int)],srt [a,c]∈p.Edges:=λa ha c hcc=>by rw[List.mem_singleton.1 hcc];exact hc a ha
   rw[if_pos (decide_eq_true hc2),eq_ (by omega),sb,ny_ (by omega) (by omega),ii_ hc]
  ·have hc2:¬∀a∈lbs 8 S,∀c∈ [(j:Int)],srt [a,c]∈p.Edges:=λhh=>hc λa ha=>hh a ha _ (by simp);rw[if_neg (by simpa using hc2),jr_ hc])
 unfold fM_ nearN;rw[hL,F_ (by omega) (by omega),sb,Int.toNat_natCast];simp only[bitsP,Int.natCast_zero] at hloop;rw[hloop,sb]
theorem cc1:∀(full:List (List Int))(k:Int)(s:Nat),s+full.flatten.length<=1000000000->forI au_ full k (s:Int)=some (.inl ((s+full.flatten.length:Nat):Int))
 |[],k,s,_=>by simp[forI]
 | x::full,k,s,h=>by
  rw[List.flatten_cons,List.length_append] at h;have h0:au_ k x (s:Int)=some (.go ((s+x.length:Nat):Int)):=by
   unfold au_;rw[F_ (by omega) (by omega),sb,if_neg (by simp;omega)];rfl
  simp only[forI,h0];rw[cc1 full (k+1) (s+x.length) (by omega),List.flatten_cons,List.length_append,Nat.add_assoc]
theorem cc2:∀(full:List (List Int))(k:Int)(acc:List Int),acc.length+full.flatten.length<=1000000000->forI at_ full k acc=some (.inl (acc++full.flatten))
 |[],k,acc,_=>by simp[forI]
 | x::full,k,acc,h=>by
  rw[List.flatten_cons,List.length_append] at h;have h0:at_ k x acc=some (.go (acc++x)):=by
   unfold at_ cat
   rw[if_pos (by omega),sb]
  simp only[forI,h0];rw[cc2 full (k+1) (acc++x) (by rw[List.length_append];omega),List.flatten_cons,List.append_assoc]
theorem sv_(full:List (List Int))(h:full.flatten.length<=1000000000):bj_ full=some full.flatten:=by
 have h1:=cc1 full 0 0 (by omega);have h2:=cc2 full 0 [] (by simpa using h);rw[Nat.zero_add,show((0:Nat):Int)=0 from rfl] at h1;rw[List.nil_append] at h2;unfold bj_ growO;rw[h1,sb];simp only
 rw[if_pos (by omega),sb,h2,sb]
theorem tI_{zs:List Int}(hs:zs.Pairwise (·<=·)){i j:Nat}(hij:i<=j)(hj:j<zs.length):zs.toArray[i]! <=zs.toArray[j]! :=by
 have h1:zs.toArray[i]! =zs[i]'(by omega):=by simp[show i<zs.length by omega]
 have h2:zs.toArray[j]! =zs[j]:=by simp[hj]
 rw[h1,h2];by_cases e:i=j
 ·subst e;exact Int.le_refl _
 ·exact List.pairwise_iff_getElem.1 hs i j (by omega) hj (by omega)
theorem jA_{zs:List Int}(hs:zs.Pairwise (·<=·)):∀m,m<=zs.length->(∀y,y∈compactUpTo zs.toArray m<->∃j,j<m∧zs.toArray[j]! =y)∧(compactUpTo zs.toArray m).Pairwise (·<·)
 |0,_=>by simp[compactUpTo]
 | m+1,hm=>by
  obtain⟨h1,h2⟩:=jA_ hs m (by omega);rw[compactUpTo_succ];by_cases hk:m=0∨zs.toArray[m]! ≠zs.toArray[m-1]!
  ·have hkp:keeps zs.toArray m=true:=by
    rcases hk with rfl|hk
    ·exact keeps_lt_one _ 0 (by omega)
    ·exact keeps_pos hk
   rw[if_pos hkp];constructor
   ·intro y;rw[List.mem_append,h1,List.mem_singleton];constructor
    ·rintro(⟨j,hj,e⟩|rfl)
     ·exact⟨j,by omega,e⟩
     ·exact⟨m,by omega,rfl⟩
    ·rintro⟨j,hj,e⟩;by_cases hjm:j=m
     ·subst hjm;exact .inr e.symm
     ·exact .inl ⟨j,by omega,e⟩
   ·rw[List.pairwise_append];refine⟨h2,by simp,λa ha b hb=>?_⟩;rw[List.mem_singleton.1 hb];obtain⟨j,hj,rfl⟩:=(h1 a).1 ha;rcases hk with rfl|hk
    ·omega
    ·have g1:=tI_ hs (i:=j) (j:=m-1) (by omega) (by omega);have g2:=tI_ hs (i:=m-1) (j:=m) (by omega) (by omega);omega
  ·have h0:0<m:=Nat.pos_of_ne_zero λe=>hk (.inl e);have he:zs.toArray[m]! =zs.toArray[m-1]! :=Classical.byContradiction λe=>hk (.inr e);rw[if_neg (by rw[keeps_neg h0 he];simp),List.append_nil];refine⟨λy=>?_,h2⟩;rw[h1];constructor
   ·rintro⟨j,hj,e⟩;exact⟨j,by omega,e⟩
   ·rintro⟨j,hj,e⟩;by_cases hjm:j=m
    ·subst hjm;exact⟨j-1,by omega,by rw[<-he,e]⟩
    ·exact⟨j,by omega,e⟩
theorem nP_{zs:List Int}(hs:zs.Pairwise (·<=·)):(compact zs).Pairwise (·<·)∧∀y,y∈compact zs<->y∈zs:=by
 obtain⟨h1,h2⟩:=jA_ hs zs.length (Nat.le_refl _);refine⟨h2,λy=>?_⟩;show y∈compactUpTo zs.toArray zs.length<->_;rw[h1,List.mem_iff_getElem];constructor
 ·rintro⟨j,hj,rfl⟩;exact⟨j,hj,by simp[hj]⟩
 ·rintro⟨j,hj,rfl⟩;exact⟨j,hj,by simp[hj]⟩
theorem tg_{xs:List Int}(h:∀x∈xs,0<=x∧x<256):compact (srt xs)=sdI xs:=by
 obtain⟨h1,h2⟩:=nP_ (hJ_ xs);refine oJ_ h1 (hN_ xs) λa=>?_;rw[h2,jv_ h,(fZ_ xs).mem_iff]
theorem mO_(fuel:Nat)(sets:List Int)(hs:sets.Pairwise (·<·))(hl:sets.length<=1000)(hf:1000<fuel):∀(x:List Int)(k:Int)(acc:List Int),acc.length+x.length<=1000000000->forI (cA_ fuel sets) x k acc=some (.inl (acc++x.map (idxI sets)))
 |[],k,acc,_=>by simp[forI]
 | y::x,k,acc,h=>by
  rw[List.length_cons] at h;have h0:cA_ fuel sets k y acc=some (.go (acc++[idxI sets y])):=by
   unfold cA_;rw[ks_ fuel sets y (hs.imp λ{a b} h=>by omega) (by omega) (by omega),sb];unfold push;rw[if_pos (by omega),sb];rfl
  simp only[forI,h0];rw[mO_ fuel sets hs hl hf x (k+1) _ (by rw[List.length_append,List.length_singleton];omega),List.map_cons,List.append_assoc,List.singleton_append]
theorem mA_(fuel:Nat)(sets:List Int)(hs:sets.Pairwise (·<·))(hl:sets.length<=1000)(hf:1000<fuel):∀(full:List (List Int))(k:Int)(acc:List (List Int)),(∀x∈full,x.length<=1000)->acc.length+full.length<=1000000000->forI (cG_ fuel sets) full k acc=some (.inl (acc++full.map (nmb sets)))
 |[],k,acc,_,_=>by simp[forI]
 | x::full,k,acc,hx,h=>by
  rw[List.length_cons] at h;have hxl:=hx x (by simp);have h0:cG_ fuel sets k x acc=some (.go (acc++[nmb sets x])):=by
   unfold cG_;rw[mO_ fuel sets hs hl hf x 0 [] (by simp;omega),sb];simp only[List.nil_append];unfold srtO push;rw[if_pos (by rw[List.length_map];omega),sb,if_pos (by omega),sb];rfl
  simp only[forI,h0];rw[mA_ fuel sets hs hl hf full (k+1) _ (λy hy=>hx y (by simp[hy])) (by rw[List.length_append,List.length_singleton];omega),List.map_cons,List.append_assoc,List.singleton_append]
theorem mR_{d:Nat}:∀{full:List (List Int)},(∀x∈full,x.length=d)->full.flatten.length=full.length*d
 |[],_=>by simp
 |x::full,h=>by
  rw[List.flatten_cons,List.length_append,mR_ λy hy=>h y (by simp[hy]),h x (by simp),List.length_cons,Nat.succ_mul,Nat.add_comm]
theorem kd_(fuel:Nat)(hf:1000<fuel){d:Nat}(hd:d<=4)(full:List (List Int))(hx:∀x∈full,x.length=d∧∀y∈x,0<=y∧y<256)(hl:full.length<=100000000):
  dN_ fuel full=some (sdI full.flatten,sxd (full.map (nmb (sdI full.flatten)))):=by
 have hfl:=mR_ (full:=full) λx h=>(hx x h).1;have hle:full.flatten.length<=1000000000:=by
  rw[hfl];have:full.length*d<=100000000*4:=Nat.mul_le_mul hl hd;omega
 have hin:∀y∈full.flatten,0<=y∧y<256:=λy hy=>by
  obtain⟨x,h1,h2⟩:=List.mem_flatten.1 hy;exact(hx x h1).2 y h2
 have hsl:=nS_ full.flatten;have h3:=mA_ fuel (sdI full.flatten) (hN_ _) (by omega) hf full 0 [] (λx h=>by rw[(hx x h).1];omega) (by simp;omega);unfold dN_;rw[sv_ full hle,sb];unfold srtO cmpO;rw[if_pos hle,sb,if_pos (by rw[dK_];exact hle),sb,tg_ hin,h3,sb];simp only[List.nil_append];rw[rm_ (L:=d) (by rw[List.length_map];omega) (by omega) (λz hz=>by
  obtain⟨x,h1,rfl⟩:=List.mem_map.1 hz;rw[iy_,(hx x h1).1]),sb]
theorem kP_(fuel:Nat)(hf:10<=fuel)(sets:List Int)(hs:∀s∈sets,0<=s∧s<256):∀(c:List Int)(k:Int)(acc:List (List Int)),(∀y∈c,0<=y∧y<sets.length)->acc.length+c.length<=1000000000->forI (ds_ fuel sets) c k acc=some (.inl (acc++(imgL sets c).map λs=>lbs 8 s.toNat))
 |[],k,acc,_,_=>by simp[forI,imgL]
 | y::c,k,acc,hc,h=>by
  rw[List.length_cons] at h;have hy:=hc y (by simp);have hyl:y.toNat<sets.length:=by omega
  have hS:=hs _ (List.getElem_mem hyl);have h0:ds_ fuel sets k y acc=some (.go (acc++[lbs 8 sets[y.toNat].toNat])):=by
   unfold ds_;have hix:ix sets y=some sets[y.toNat]:=by
    have:=gf_ sets y.toNat hyl;rwa [Int.toNat_of_nonneg hy.1] at this
   have hlab:dF_ fuel sets[y.toNat]=some (lbs 8 sets[y.toNat].toNat):=by
    have:=kK_ 8 sets[y.toNat].toNat fuel (by omega) (by omega) (by omega);rwa [Int.toNat_of_nonneg hS.1] at this
   rw[hix,sb,hlab,sb];unfold push;rw[if_pos (by omega),sb]
  have hg:sets.getD y.toNat 0=sets[y.toNat]:=by rw[List.getD_eq_getElem?_getD,List.getElem?_eq_getElem hyl];rfl
  simp only[forI,h0];rw[kP_ fuel hf sets hs c (k+1) _ (λz hz=>hc z (by simp[hz])) (by rw[List.length_append,List.length_singleton];omega)];simp only[imgL,List.map_cons,hg,List.append_assoc,List.singleton_append]
theorem lY_(fuel:Nat)(hf:10<=fuel)(sets:List Int)(hs:∀s∈sets,0<=s∧s<256)(c:List Int)(hc:∀y∈c,0<=y∧y<sets.length)(hl:c.length<=1000):eR_ fuel sets c=some ((imgL sets c).map λs=>lbs 8 s.toNat):=by
 unfold eR_;rw[kP_ fuel hf sets hs c 0 [] hc (by simp;omega),sb];rfl
theorem iF_:∀{xs:List Int}{m:List Int},(∀s∈xs,0<=s∧s<256)->(cho (xs.map Int.toNat) m<->m.length=xs.length∧∀(i:Nat) L a,(xs.map λs=>lbs 8 s.toNat)[i]? =some L->m[i]? =some a->a∈L)
 |[],m,_=>by
  cases m with
  |nil=>simp[cho]
  |cons a m=>simp[cho]
 | s::xs,m,h=>by
  have hs:=h s (by simp);rw[List.map_cons,ik_ (by omega)];constructor
  ·rintro⟨a,m',rfl,ha,hm⟩;obtain⟨h1,h2⟩:=(iF_ λz hz=>h z (by simp[hz])).1 hm;refine⟨by simp[h1],λi L b hL hb=>?_⟩;cases i with
   |zero=>simp at hL hb;subst hL hb;exact ha
   |succ i=>exact h2 i L b (by simpa using hL) (by simpa using hb)
  ·rintro⟨h1,h2⟩;cases m with
   |nil=>simp at h1
   |cons a m=>
    refine⟨a,m,rfl,h2 0 _ a (by simp) (by simp),(iF_ λz hz=>h z (by simp[hz])).2 ⟨by simpa using h1,λi L b hL hb=>h2 (i+1) L b (by simpa using hL) (by simpa using hb)⟩⟩
theorem oS_{sets c:List Int}(hs:∀s∈sets,0<=s∧s<256)(hc:∀y∈c,0<=y∧y<sets.length):∀s∈imgL sets c,0<=s∧s<256:=λs h=>hs s (oP_ hc h)
open Classical in
theorem mu_(fuel:Nat)(p:c_)(h:probB p=true)(hJ:p.Nodes.length<=1000000000)(hf:p.Nodes.length<fuel)(hf9:10<=fuel)(sets:List Int)(hs:∀s∈sets,0<=s∧s<256)(c:List Int)(hc:∀y∈c,0<=y∧y<sets.length)(hl:(c.length:Int)=p.Degree):
    ck_ fuel c p sets=some (decide (chS p.Nodes sets c)):=by
  obtain⟨g1,g2,g3,g4,-,-⟩:=aH_ h
  have hil:=fy_ sets c
  obtain⟨l,b,e1,e2⟩:=hO_ fuel ((imgL sets c).map λs=>lbs 8 s.toNat) (λz=>az_ fuel z p) (λm=>decide (srt m∈p.Nodes)) (λm hm=>by
    rw[List.length_map,hil] at hm
    unfold az_
    rw[sL_ fuel p h m (by rw[hm];exact hl) hJ hf,sb]) (by rw[List.length_map,hil];omega) (by rw[List.length_map,hil];omega)
  unfold ck_ cf_
  rw[lY_ fuel hf9 sets hs c hc (by omega),sb,e1,sb,sb]
  have hiff:chS p.Nodes sets c<->b=true:=by
    rw[e2]
    unfold chS
    constructor
    · rintro⟨m,hm,hg⟩
      obtain⟨q1,q2⟩:=(iF_ (oS_ hs hc)).1 hm
      exact⟨m,by rw[List.length_map];exact q1,q2,by simpa using hg⟩
    · rintro⟨m,q1,q2,hg⟩
      exact⟨m,(iF_ (oS_ hs hc)).2 ⟨by rw[List.length_map] at q1;exact q1,q2⟩,by simpa using hg⟩
  cases b<;>simp[hiff]
open Classical in
theorem mM_(fuel:Nat)(p:c_)(h:probB p=true)(hJ:p.Edges.length<=1000000000)(hf:p.Edges.length<fuel)(hf9:10<=fuel)(sets:List Int)(hs:∀s∈sets,0<=s∧s<256)(c:List Int)(hc:∀y∈c,0<=y∧y<sets.length)(hl:c.length=2):
    ce_ fuel c p sets=some (decide (chS p.Edges sets c)):=by
  have hil:=fy_ sets c
  obtain⟨l,b,e1,e2⟩:=hO_ fuel ((imgL sets c).map λs=>lbs 8 s.toNat) (λz=>aA_ fuel z p) (λm=>decide (srt m∈p.Edges)) (λm hm=>by
    rw[List.length_map,hil,hl] at hm
    match m,hm with
    | [a,b],_=>
      unfold aA_
      rw[show ix [a,b] 0=some a from rfl,sb,show ix [a,b] 1=some b from rfl,sb,qn_ fuel p h a b hJ hf,sb]) (by rw[List.length_map,hil];omega) (by rw[List.length_map,hil];omega)
  unfold ce_ cg_
  rw[lY_ fuel hf9 sets hs c hc (by omega),sb,e1,sb,sb]
  have hiff:chS p.Edges sets c<->b=true:=by
    rw[e2]
    unfold chS
    constructor
    · rintro⟨m,hm,hg⟩
      obtain⟨q1,q2⟩:=(iF_ (oS_ hs hc)).1 hm
      exact⟨m,by rw[List.length_map];exact q1,q2,by simpa using hg⟩
    · rintro⟨m,q1,q2,hg⟩
      exact⟨m,(iF_ (oS_ hs hc)).2 ⟨by rw[List.length_map] at q1;exact q1,q2⟩,by simpa using hg⟩
  cases b<;>simp[hiff]
theorem ka_(fuel n d:Nat)(G:List Int->Option Bool)(g:List Int->Bool)(hG:∀c,ndP n d c->G c=some (g c))(hn:n<=8)(hd:d<=4)(hf:100<=fuel):dQ_ fuel (n:Int) (d:Int) G=some ((msD n d).filter g):=by
 have hb:∀k,k<=d->n^k<=1000000000:=λk hk=>by have:=cF_ (L:=n) (k:=k) hn (by omega);omega
 have hlen:=Nat.le_trans (gx_ n d) (hb d (Nat.le_refl d));have hone:∀c∈msD n d,bL_ c G=some (!g c):=λc hc=>by
  unfold bL_;rw[hG c ((ej_ n d c).1 hc),sb]
 unfold dQ_ delL;rw[jT_ n d fuel (by omega) (by omega) hb (by omega),sb,if_pos,sb]
 ·congr 1;refine List.filter_congr λc hc=>?_;show((bL_ c G).getD true==false)=g c;rw[hone c hc];cases g c<;>rfl
 ·rw[Bool.and_eq_true,decide_eq_true_eq,List.all_eq_true];exact⟨hlen,λc hc=>by
   show(bL_ c G).isSome=true;rw[hone c hc];rfl⟩
theorem pn_(fuel:Nat)(hf:1000000000<=fuel)(p:c_)(h:probB p=true)(hJ:p.Nodes.length<=100000000)(hE:p.Edges.length<=100000000):fj_ fuel p=some (edgeV p):=by
 obtain⟨g1,g2,g3,g4,-,-⟩:=aH_ h;have h2:2^p.Labels.toNat<=256:=cR_ (by omega);have h1:1<=2^p.Labels.toNat:=Nat.one_le_two_pow;have hsh:shl 1 p.Labels=some ((2^p.Labels.toNat:Nat):Int):=by
  have:=eq_ (a:=p.Labels.toNat) (by omega);rwa [Int.toNat_of_nonneg (by omega)] at this
 have hV:edgeV p=madeV p (fullTo p (2^p.Labels.toNat-1)) true:=rfl;have hX:∀x∈fullTo p (2^p.Labels.toNat-1),x.length=2∧∀y∈x,0<=y∧y<256:=ls_ p g2;obtain⟨N,hN⟩:∃N:Nat,2^p.Labels.toNat=N:=⟨_,rfl⟩;rw[hN] at h1 h2 hsh hV hX;have hloop:=bT_ (f:=cW_ fuel p) (λj=>(fullTo p j,((j+1:Nat):Int))) (N-1) (λj hj=>by
  have hfl:=fT_ p j;unfold cW_;simp only
  rw[hsh,sb,if_pos (by simp;omega),om_ fuel p h (by omega) (by omega) (by omega) (j+1) (by omega),sb,jX_];have hn:=lE_ p (j+1) g2;by_cases hc:0<nearN p (j+1)
  ·rw[if_pos (by simp;omega),om_ fuel p h (by omega) (by omega) (by omega) _ hn,sb,sb];by_cases hc2:nearN p (nearN p (j+1))=j+1
   ·rw[if_pos (by simp;omega),if_pos ⟨hc,hc2⟩];unfold push;rw[if_pos (by omega),sb,F_ (by omega) (by omega),sb];rfl
   ·rw[if_neg (by simp;omega),if_neg (λh=>hc2 h.2),F_ (by omega) (by omega),sb];rfl
  ·rw[if_neg (by simp;omega),sb,if_neg (by simp),if_neg (λh=>hc h.1),F_ (by omega) (by omega),sb];rfl) (by
  unfold cW_;simp only
  rw[hsh,sb,if_neg (by simp;omega)]) fuel 0 (by omega) (by omega)
 unfold fj_;rw[show(([]:List (List Int)),(1:Int))=(fullTo p 0,((0+1:Nat):Int)) from by simp[fullTo],hloop,sb];simp only
 have hfl:=fT_ p (N-1);rw[kd_ fuel (by omega) (d:=2) (by omega) _ hX (by omega),sb,hV];generalize fullTo p (N-1)=full at hX hfl;have hin:∀s∈sdI full.flatten,0<=s∧s<256:=λs h=>(pS_ h).1;simp only
 rw[ih_,sb];unfold madeV;by_cases hc:1<=(sdI full.flatten).length∧(sdI full.flatten).length<=8
 ·rw[if_neg (by simp;omega),if_pos hc];have hD:p.Degree=((p.Degree.toNat:Nat):Int):=by omega
  have ha:=ka_ fuel (sdI full.flatten).length p.Degree.toNat (λz=>ck_ fuel z p (sdI full.flatten)) (λc=> @decide (chS p.Nodes (sdI full.flatten) c) (Classical.propDecidable _)) (λc hc=>mu_ fuel p h (by omega) (by omega) (by omega) _ hin c hc.2.2 (by rw[hc.1];exact hD.symm)) hc.2 (by omega) (by omega);rw[<-hD] at ha;rw[ha,sb];simp only[if_true];rfl
 ·rw[if_pos (by simp;omega),if_neg hc]
theorem mC_{ρ:Type}{f:Int->Int->List Int->Option (Lp (List Int) (List Int) ρ)}(hfx:∀k x s,f k x s=((ck (x+1))>>=λy=>(push s y)>>=λz=>some (.go z))):∀(c:List Int)(k:Int)(acc:List Int),(∀y∈c,0<=y∧y<=1000)->acc.length+c.length<=1000000000->forI f c k acc=some (.inl (acc++c.map (·+1)))
 |[],k,acc,_,_=>by simp[forI]
 | y::c,k,acc,hc,h=>by
  rw[List.length_cons] at h;have hy:=hc y (by simp);have h0:f k y acc=some (.go (acc++[y+1])):=by
   rw[hfx,F_ (by omega) (by omega),sb];unfold push;rw[if_pos (by omega),sb]
  simp only[forI,h0];rw[mC_ hfx c (k+1) _ (λz hz=>hc z (by simp[hz])) (by rw[List.length_append,List.length_singleton];omega),List.map_cons,List.append_assoc,List.singleton_append]
theorem mD_{α β γ:Type}(f:α->β)(g:β->List γ):∀xs:List α,(xs.map f).flatMap g=xs.flatMap λx=>g (f x)
 |[]=>rfl
 |x::xs=>by rw[List.map_cons,List.flatMap_cons,List.flatMap_cons,mD_ f g xs]
open Classical in
theorem nT_(fuel:Nat)(hf:1000000000<=fuel)(p:c_)(h:probB p=true):bB_ fuel (nsV p)=some (sxd (fullJ p)):=by
  obtain⟨g1,g2,g3,g4,-,-⟩:=aH_ h
  obtain⟨L,hL⟩:∃L:Nat,p.Labels=(L:Int):=⟨p.Labels.toNat,by omega⟩
  obtain⟨e,hD⟩:∃e:Nat,p.Degree=((e+1:Nat):Int):=⟨p.Degree.toNat-1,by omega⟩
  have hLt:p.Labels.toNat=L:=by omega
  have hDt:p.Degree.toNat-1=e:=by omega
  have h256:=cR_ (L:=L) (by omega)
  have h1:1<=2^L:=Nat.one_le_two_pow
  have hpw:∀k,k<=e->(2^L-1)^k<=16777216:=λk hk=>by
    have q1:(2^L-1)^k<=256^k:=Nat.pow_le_pow_left (by omega) k
    have q2:256^k<=256^3:=Nat.pow_le_pow_right (by decide) (by omega)
    omega
  have hJ:fullJ p=(msD (2^L-1) e).flatMap λc=>if cmI L p.Nodes (c.map (·+1))≠0∧fullI L p.Nodes (c.map (·+1)++[cmI L p.Nodes (c.map (·+1))]) then [srt (c.map (·+1)++[cmI L p.Nodes (c.map (·+1))])] else []:=by
    unfold fullJ
    rw[hLt,hDt,mD_]
  have hJl:(fullJ p).length<=16777216:=by
    rw[hJ]
    have q1:=gx_ (2^L-1) e
    have q2:=hpw e (Nat.le_refl e)
    have q3:=hi_ (m:=1) (g:=λc=>if cmI L p.Nodes (c.map (·+1))≠0∧fullI L p.Nodes (c.map (·+1)++[cmI L p.Nodes (c.map (·+1))]) then [srt (c.map (·+1)++[cmI L p.Nodes (c.map (·+1))])] else []) (msD (2^L-1) e) (λx _=>by
      split<;>simp)
    omega
  have hJd:∀z∈fullJ p,z.length=e+1:=λz hz=>by
    have:=(js_ p ⟨by omega,g2⟩ g3 z ((nL_ p z).1 hz)).1
    omega
  have hloop:=fi_ (body:=bk_ fuel (nsV p)) (λc=>if cmI L p.Nodes (c.map (·+1))≠0∧fullI L p.Nodes (c.map (·+1)++[cmI L p.Nodes (c.map (·+1))]) then [srt (c.map (·+1)++[cmI L p.Nodes (c.map (·+1))])] else []) 1000000000 (msD (2^L-1) e) 0 [] (by rw[<-hJ];simp;omega) (λc hc j ac hac=>by
    obtain⟨m1,m2,m3⟩:=(ej_ _ _ _).1 hc
    have hlin:∀s∈c.map (·+1),0<=s∧s.toNat<2^L:=λs hs=>by
      obtain⟨y,hy,rfl⟩:=List.mem_map.1 hs
      have:=m3 y hy
      omega
    have hcm:=iQ_ fuel p h (by omega) (c.map (·+1)) (by rw[hLt];exact hlin) (by rw[List.length_map,m1,hD];omega)
    rw[hLt] at hcm
    have hcin:=oi_ L p.Nodes (c.map (·+1))
    have hcin2:(cmI L p.Nodes (c.map (·+1))).toNat<2^L:=by
      have h2:((2^L:Nat):Int)=(2:Int)^L:=by simp
      omega
    have hif:=rS_ fuel p h (by omega) (c.map (·+1)++[cmI L p.Nodes (c.map (·+1))]) (by
      rw[hLt]
      intro s hs
      rcases List.mem_append.1 hs with hs|hs
      · exact hlin s hs
      · rw[List.mem_singleton.1 hs];exact⟨hcin.1,hcin2⟩) (by rw[List.length_append,List.length_map,m1,hD];rfl)
    rw[hLt] at hif
    have hpl:=mC_ (f:=bF_) (λk x s=>rfl) c 0 [] (λy hy=>by have:=m3 y hy;omega) (by simp;omega)
    rw[List.nil_append] at hpl
    have hml:(c.map (·+1)).length=e:=by rw[List.length_map,m1]
    unfold bk_ mkc
    rw[show(nsV p).p.Degree=p.Degree from rfl,if_pos (by omega),sb,hpl,sb]
    simp only
    rw[hcm,sb]
    generalize cmI L p.Nodes (c.map (·+1))=z at hif hac ⊢
    generalize c.map (·+1)=l at hif hac hml ⊢
    by_cases hz:z=0
    · rw[if_pos (by simpa using hz),if_neg (λhh=>hh.1 hz),List.append_nil]
    · rw[if_neg (by simpa using hz)]
      unfold push
      rw[if_pos (by omega),sb,hif,sb]
      by_cases hfl:fullI L p.Nodes (l++[z])
      · rw[if_pos ⟨hz,hfl⟩,List.length_singleton] at hac
        rw[if_pos (decide_eq_true hfl),if_pos ⟨hz,hfl⟩]
        unfold srtO
        rw[if_pos (by rw[List.length_append,List.length_singleton];omega),sb,if_pos (by omega),sb]
      · rw[if_neg (by simpa using hfl),if_neg (λhh=>hfl hh.2),List.append_nil])
  rw[<-hJ,List.nil_append] at hloop
  unfold bB_
  rw[show(nsV p).p.Labels=p.Labels from rfl,hL,eq_ (by omega),sb,show(((2^L:Nat):Int)-1)=((2^L-1:Nat):Int) by omega,F_ (by omega) (by omega),sb,show(nsV p).p.Degree=p.Degree from rfl,hD,show(((e+1:Nat):Int)-1)=(e:Int) by omega,F_ (by omega) (by omega),sb,
    jT_ (2^L-1) e fuel (by omega) (by omega) (λk hk=>by have:=hpw k hk;omega) (by omega),sb,hloop,sb]
  simp only
  rw[rm_ (L:=e+1) (by omega) (by omega) hJd,sb]
theorem pl_(fuel:Nat)(hf:1000000000<=fuel)(p:c_)(h:probB p=true)(hJ:p.Nodes.length<=100000000)(hE:p.Edges.length<=100000000):eZ_ fuel p=some (nodeV p):=by
 obtain⟨g1,g2,g3,g4,-,-⟩:=aH_ h;have hok:=js_ p ⟨by omega,g2⟩ g3;have hJd:∀z∈fullJ p,z.length=p.Degree.toNat:=λz hz=>(hok z ((nL_ p z).1 hz)).1;have hmem:∀z,z∈sxd (fullJ p)<->z∈fullS p:=λz=>by rw[(oz_ hJd).2,nL_]
 have hX:∀x∈sxd (fullJ p),x.length=p.Degree.toNat∧∀y∈x,0<=y∧y<256:=λx hx=>hok x ((hmem x).1 hx);have hV:=nZ_ p false p.Degree.toNat hX hmem;have hlen:(sxd (fullJ p)).length<=100000000:=by
  have q1:=nG_ (fullJ p) [];have q2:(fullJ p).length<=16777216:=by
   have q1:=gx_ (2^p.Labels.toNat-1) (p.Degree.toNat-1);have q0:2^p.Labels.toNat<=256:=cR_ (by omega);have q3:(2^p.Labels.toNat-1)^(p.Degree.toNat-1)<=256^(p.Degree.toNat-1):=Nat.pow_le_pow_left (by omega) _;have q4:256^(p.Degree.toNat-1)<=256^3:=Nat.pow_le_pow_right (by decide) (by omega);have q5:(fullJ p).length<=((msD (2^p.Labels.toNat-1) (p.Degree.toNat-1)).map λc=>c.map (·+1)).length*1:=by
    unfold fullJ;exact hi_ _ λx _=>by split<;>simp
   rw[List.length_map] at q5;omega
  simp only[List.length_nil,Nat.zero_add] at q1;show(sxd (fullJ p)).length<=_;unfold sxd;omega
 unfold eZ_ nodeV;by_cases hc:p.Degree=4∧6<p.Labels
 ·rw[if_pos (by simpa using hc.1),sb,if_pos (by simpa using hc.2),if_pos hc]
 ·rw[if_neg hc];have hq:(if(p.Degree==4)=true then some (decide (p.Labels>6)) else some false)=some false:=by
   by_cases h4:p.Degree=4
   ·rw[if_pos (by simpa using h4)];have:¬p.Labels>6:=λh6=>hc ⟨h4,h6⟩;simp[this]
   ·rw[if_neg (by simpa using h4)]
  rw[hq,sb,if_neg (by simp),le_ fuel p h (by omega) (by omega),sb,nT_ fuel hf p h,sb,kd_ fuel (by omega) (d:=p.Degree.toNat) (by omega) _ hX hlen,sb,<-hV];generalize sxd (fullJ p)=full at hX;have hin:∀s∈sdI full.flatten,0<=s∧s<256:=λs h=>(pS_ h).1;simp only
  rw[ih_,sb];unfold madeV;by_cases hcc:1<=(sdI full.flatten).length∧(sdI full.flatten).length<=8
  ·rw[if_neg (by simp;omega),if_pos hcc];have ha:=ka_ fuel (sdI full.flatten).length 2 (λz=>ce_ fuel z p (sdI full.flatten)) (λc=> @decide (chS p.Edges (sdI full.flatten) c) (Classical.propDecidable _)) (λc hc=>mM_ fuel p h (by omega) (by omega) (by omega) _ hin c hc.2.2 hc.1) hcc.2 (by omega) (by omega);rw[show((2:Nat):Int)=2 from rfl] at ha;rw[ha,sb];simp only[Bool.false_eq_true,if_false];rfl
  ·rw[if_pos (by simp;omega),if_neg hcc]
theorem of_(fuel:Nat)(hf:1000000000<=fuel)(p:c_)(h:probB p=true)(hJ:p.Nodes.length<=100000000)(hE:p.Edges.length<=100000000):eG_ fuel p=some (roundV p):=by
 unfold eG_ roundV;rw[pn_ fuel hf p h hJ hE,sb];cases h1:(edgeV p).2.2
 ·rw[if_pos (by rfl),if_neg (by simp)]
 ·obtain⟨a1,a2,a3,a4⟩:=iK_ p h h1;rw[if_neg (by simp),if_pos rfl,pl_ fuel hf _ a1 a2 a3,sb];cases h2:(nodeV (edgeV p).1).2.2
  ·rw[if_pos (by rfl),if_neg (by simp)]
  ·rw[if_neg (by simp),if_pos rfl]
end
section
set_option maxRecDepth 100000
set_option maxHeartbeats 2000000
open Go.RowKit
theorem kt_:Inf tX_ 3 (.int .i64 0) 1 8:=by unfold Inf;kernel_rfl
def bK_(d:ch_):Int->Int->(List Int)->Option (Lp (List Int) (List Int) Bool):=λ(f:Int)(a:Int)(s:List Int)=>
  (ix d.perm a)>>=λb=>
  (push s b)>>=λc=>
  some (.go c)
def bJ_(fuel:Nat)(j:ch_)(k:List (List Int))(b:Int):Int->(List Int)->Unit->Option (Lp Unit Unit Bool):=λ(m:Int)(a:List Int)(s:Unit)=>
  (ck ((a.length:Int)-1))>>=λc=>
  (ix a c)>>=λd=>
  if d !=b then
    some (.go ())
  else
    (forI (bK_ j) a 0 [])>>=λf=>
    match f with
    | .inl g=>
      (bg_ fuel k g)>>=λi=>
      if !i then
        some (.ret false)
      else
        some (.go ())
    | .inr _=>none
def bP_(fuel:Nat)(c:ch_)(d:List (List Int))(f:List (List Int)):Option Bool:=
  (ck ((c.perm.length:Int)-1))>>=λa=>
  (forI (bJ_ fuel c f a) d 0 ())>>=λb=>
  match b with
  | .inl _=>
    some true
  | .inr r'=>some r'
def fV_(w:World)(r:Bool):Ending->World->Prop:=λe w'=>e=.returned (.bool r)∧Keeps w w'
theorem el_(fuel:Nat)(w:World)(i:Nat)(d9:List Value)(a5:ch_)(e0:Cells w i 0 d9)(e1:Rp.rd zt w d9 a5)(j:Value)(g:Yk)(a7:RdL zt w j g)(k:Value)(a6:Yk)(e2:RdL zt w k a6)(r:Bool)(hF:bP_ fuel a5 g a6=some r):
    Calls tX_ 119 #[.pointer (some ⟨i,0,none⟩),j,k] w (fV_ w r):=by
 unfold bP_ at hF;have g0k:=e1;obtain⟨g5,g6,g7,g8,g9,rfl,h0,h1,h2,h3,N⟩:=e1;have hB:Bs (λ_=>1) (col (λ_=>1)) w w:=Bs.start _ _;refine j_ (n:=55) (vs:=[ZP i,j,k]) Tryz.func119 rfl rfl ?_;refine Zq (Za rfl (Ze [(0,_),(1,_),(2,_)] (Zn (Zm rfl (Zv (by_ rfl) (Zv (r_ rfl ul_ rfl uf_) (Zv (e_ rfl ug_ ((e0.keep hB.keeps) 8 _ rfl)) (Zv (J_ rfl N tY_) ?_))))))));obtain⟨c,O,hF⟩:=a_ hF;refine Zv (bE_ rfl rfl O) (Za rfl (Ze [(0,_),(1,_),(2,_),(7,_)] (nx (b_ (Zq (Zm rfl (Zv (J_ rfl a7 ub_) (Zm rfl (Ze [(0,_),(2,_),(7,_),(19,_),(20,_),(21,_)] (nx ?_))))))))));obtain⟨H,Q,hF⟩:=a_ hF;refine A_ (λa A=>∃(v:Tg),H=.inl ()∧Fr a 55 []∧Bs (λ_=>1) v w A) (λa w'=>∃r',H=.inr r'∧bodyPost tX_ Tryz.f119 (fV_ w r') .ret a w') ?_ ?_ ?_
 ·refine f_ ?_;refine z_ (λ(K:Nat) a A=>∃(b:Int)(v:Tg),forI (bJ_ fuel a5 a6 c) (g.drop b.toNat) b ()=some H∧(g.drop b.toNat).length=K∧0<=b∧Fr a 55 [(0,ZP i),(2,k),(7,ZI c),(19,j),(20,ZI (g.length:Int)),(21,ZI b)]∧Bs (λ_=>1) v w A) _ (λa ha=>⟨0,col (λ_=>1),Q,rfl,Int.le_refl 0,ha.sb,hB⟩) ?_;rintro K19 a A ⟨b,v,R,S,a8,ha,hB⟩;by_cases E:b<(g.length:Int)
  ·obtain⟨m,e3,T,d,I⟩:=R_ a8 E R;have hle:=a7.len_le;dsimp only[bJ_] at d;refine O_ ha ?_;refine Zq (Zv (u_ rfl rfl) (Ze [(0,_),(2,_),(7,_),(19,_),(20,_),(21,_),(22,_)] (nx (b_ ?_))));refine M_ (Zb (decide_eq_true E)) ?_;refine h_ (nx (b_ (f_ (Zq (Zo ?_)))));refine wf_atZ a7 T hB rfl rfl ub_ uf_ ?_;intro e4 e5 e6 a9 b0;obtain⟨q,rfl,D⟩:=b0;refine Zv (e_ rfl ug_ (i_ a9)) (Za rfl (Ze [(0,_),(2,_),(7,_),(9,_),(19,_),(20,_),(21,_)] (nx (b_ (Zq (Zm rfl (Zm rfl (Zv (J_ rfl D tY_) ?_))))))));obtain⟨e7,U,d⟩:=a_ d;refine Zv (bE_ rfl rfl U) ?_;obtain⟨b1,V,d⟩:=a_ d;refine Zo ?_;refine wf_atZ D V hB rfl rfl tY_ tZ_ ?_;intro e8 e9 f0 b2 b3;cases b3
   refine Zv (e_ rfl ua_ (i_ b2)) (Zm rfl (Zv (dw_ rfl rfl) (Ze [(0,_),(2,_),(7,_),(9,_),(19,_),(20,_),(21,_),(32,_)] (nx ?_))));refine p_ rfl (λJ=>?_) (λJ=>?_)
   ·rw[if_pos J] at d;refine w_ ?_;refine m_ (Q_ (nx (d_ (Zv (C_ rfl rfl (F_ (by omega) (by omega))) (Zm rfl (Ze [(0,_),(2,_),(7,_),(19,_),(20,_),(21,_)] (x_ ?_)))))));have b4:=Zj d;subst b4;refine Zk [(0,_),(2,_),(7,_),(19,_),(20,_),(21,_)] ?_;intro a ha;exact⟨_,(by rw[<-S];simp only[List.length_drop];omega),b+1,v,I,rfl,by omega,ha,hB⟩
   ·replace d:=ZF J d;refine h_ (Zn (Za rfl (Ze [(0,_),(2,_),(7,_),(9,_),(10,_),(19,_),(20,_),(21,_)] (nx (b_ (Zq (Zm rfl (Zv (J_ rfl D tY_) (Zm rfl (Ze [(0,_),(2,_),(7,_),(10,_),(19,_),(20,_),(21,_),(33,_),(34,_),(35,_)] (nx ?_)))))))))));have b5:Ow w.heap.size 3 11 v A (.slice none 0 0) ([]:Yl):=Ow.nil _ _ _ _ _;obtain⟨W,X,d⟩:=a_ d;refine A_ (λa y=>∃(x:Yl)(s:Value)(u:Tg),W=.inl x∧Fr a 55 [(0,ZP i),(2,k),(7,ZI c),(10,s),(19,j),(20,ZI (g.length:Int)),(21,ZI b)]∧Bs (λ_=>1) u w y∧Ow w.heap.size 3 11 u y s x) (λ_ _=>False) ?_ ?_ ?_
    ·refine f_ ?_;refine z_ (λ(K:Nat) a y=>∃(f:Int)(x:Yl)(s:Value)(u:Tg),forI (bK_ a5) (m.drop f.toNat) f x=some W∧(m.drop f.toNat).length=K∧0<=f∧Fr a 55 [(0,ZP i),(2,k),(7,ZI c),(10,s),(19,j),(20,ZI (g.length:Int)),(21,ZI b),(33,q),(34,ZI (m.length:Int)),(35,ZI f)]∧Bs (λ_=>1) u w y∧Ow w.heap.size 3 11 u y s x) _ (λa ha=>⟨0,[],.slice none 0 0,v,X,rfl,Int.le_refl 0,ha.sb,hB,b5⟩) ?_;rintro K52 a y ⟨f,x,s,u,Y,b6,b7,ha,hB,B⟩;by_cases F:f<(m.length:Int)
     ·obtain⟨b8,f1,Z,C,b9⟩:=R_ b7 F Y;have hle:=D.len_le;dsimp only[bK_] at C;refine O_ ha ?_;refine Zq (Zv (u_ rfl rfl) (Ze [(0,_),(2,_),(7,_),(10,_),(19,_),(20,_),(21,_),(33,_),(34,_),(35,_),(36,_)] (nx (b_ ?_))));refine M_ (Zb (decide_eq_true F)) ?_;refine h_ (nx (b_ (f_ (Zq (Zo ?_)))));refine wf_atZ D Z hB rfl rfl tY_ tZ_ ?_;intro f2 f3 f4 c0 c1;cases c1
      refine Zv (e_ rfl ua_ (i_ c0)) (Za rfl (Ze [(0,_),(2,_),(7,_),(10,_),(12,_),(19,_),(20,_),(21,_),(33,_),(34,_),(35,_)] (nx (d_ (Zm rfl (Zm rfl (Zv (by_ rfl) (Zv (r_ rfl ul_ rfl uf_) (Zv (e_ rfl ug_ ((e0.keep hB.keeps) 8 _ rfl)) (Zm rfl ?_))))))))));obtain⟨L,a0,C⟩:=a_ C;refine Zo ?_;refine wf_atZ N a0 hB rfl rfl tY_ tZ_ ?_;intro f5 f6 f7 c2 c3;cases c3
      refine Zv (e_ rfl ua_ (i_ c2)) (Zo ?_);refine aB_ (o:=u) (cs:=[ZI L]) (xs:=([L]:Yl)) (vs:=[(0,ZI L)]) ⟨_,_,rfl,rfl,rfl⟩ rfl ⟨rfl,rfl,trivial⟩ tY_ tZ_ Tryz.zeroValue3 (by decide) (fill1 rfl) (by simp) ?_;intro f8 f9 g0 c4 a1 g1;replace B:=B.stp a1;replace hB:=hB.stp a1;obtain⟨c5,a2,C⟩:=a_ C;refine Zo ?_;refine bf_ B c4 (ai_ a2) (by decide) hB.keeps.size rfl rfl tY_ kt_ rfl (by decide) ?_;intro c6 g2 G c7 c8;replace hB:=hB.stp c8;refine Za rfl (Ze [(0,ZP i),(2,k),(7,ZI c),(10,G),(19,j),(20,ZI (g.length:Int)),(21,ZI b),(33,q),(34,ZI (m.length:Int)),(35,ZI f)] (y_ (nx (d_ (Zv (C_ rfl rfl (F_ (by omega) (by omega))) (Zm rfl (Ze [(0,_),(2,_),(7,_),(10,_),(19,_),(20,_),(21,_),(33,_),(34,_),(35,_)] (x_ ?_))))))));have c9:=Zj C;subst c9;refine Zk [(0,_),(2,_),(7,_),(10,_),(19,_),(20,_),(21,_),(33,_),(34,_),(35,_)] ?_;intro a ha;exact⟨_,(by rw[<-b6];simp only[List.length_drop];omega),f+1,c5,G,c6,b9,rfl,by omega,ha,hB,c7⟩
     ·have d0:=S_ F Y;refine O_ ha ?_;refine Zq (Zv (u_ rfl rfl) (Ze [(0,_),(2,_),(7,_),(10,_),(19,_),(20,_),(21,_),(33,_),(34,_),(35,_),(36,_)] (nx (b_ ?_))));refine D_ (Zb (decide_eq_false F)) ?_;refine w_ ?_;refine m_ (m_ (Q_ ?_));refine s_ ?_;refine Zk [(0,_),(2,_),(7,_),(10,_),(19,_),(20,_),(21,_)] ?_;intro a ha;exact⟨x,s,u,d0,ha,hB,B⟩
    ·rintro a y ⟨x,s,u,rfl,ha,hB,B⟩;dsimp only at d;refine ap_k ha ?_;refine Zn (Zm rfl (Zm rfl ?_));obtain⟨a3,a4,d⟩:=a_ d;refine Zo ?_;refine o_ (dE_ fuel y _ a6 (e2.keep hB.keeps) _ x B.z a3 a4) Tryz.call162 ⟨rfl,rfl,trivial⟩ ?_;rintro g3 g4 ⟨rfl,d1⟩;have d2:=d1.stp 999 u;refine⟨_,rfl,?_⟩;replace hB:=hB.stp d2;refine Zv (bo_ rfl) (Ze [(0,_),(2,_),(7,_),(19,_),(20,_),(21,_),(53,_)] (nx ?_));refine p_ rfl (λM=>?_) (λM=>?_)
     ·rw[if_pos M] at d;refine Zq (Za rfl (Ze [(6,_)] (nx (n_ (aq_ (I_ (I_ (aq_ ?_))))))));refine cK_ ?_;have d3:=Zj d;subst d3;refine λa ha=>⟨_,I,?_⟩;refine N_ (P:=tX_) (vs:=[.bool false]) wF_ ⟨rfl,trivial⟩ ?_ a ha;exact⟨rfl,hB.keeps⟩
     ·replace d:=ZF M d;refine h_ (y_ (nx (d_ (Zv (C_ rfl rfl (F_ (by omega) (by omega))) (Zm rfl (Ze [(0,_),(2,_),(7,_),(19,_),(20,_),(21,_)] (x_ ?_)))))));have d4:=Zj d;subst d4;refine Zk [(0,_),(2,_),(7,_),(19,_),(20,_),(21,_)] ?_;intro a ha;exact⟨_,(by rw[<-S];simp only[List.length_drop];omega),b+1,u,I,rfl,by omega,ha,hB⟩
    ·exact λ_ _ h=>h.elim
  ·have d5:=S_ E R;refine O_ ha ?_;refine Zq (Zv (u_ rfl rfl) (Ze [(0,_),(2,_),(7,_),(19,_),(20,_),(21,_),(22,_)] (nx (b_ ?_))));refine D_ (Zb (decide_eq_false E)) ?_;refine w_ ?_;refine m_ (m_ (Q_ ?_));refine s_ ?_;refine Zk [] ?_;intro a ha;exact⟨v,d5,ha,hB⟩
 ·rintro a A ⟨v,rfl,ha,hB⟩;dsimp only at hF;refine ap_k ha ?_;refine Zn (Za rfl (Ze [(6,_)] (nx (n_ ?_))));have d6:=Zj hF;subst d6;refine Zr wF_ [.bool true] ?_;exact⟨rfl,hB.keeps⟩
 ·rintro a A ⟨r',rfl,d7⟩;dsimp only at hF;have d8:=Zj hF;subst d8;exact d7
end
end Go.Proofs.YtdbbeldgdgonfaaGreat
