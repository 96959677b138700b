/- Part 21 of what this claim rests on (Lma, Lmb, Rna, GFch, Efc), packed by pack.py. -/
import Derived.Test.YtdbbeldgdgonfaaGreatP03
import Derived.Test.YtdbbeldgdgonfaaGreatP04
import Derived.Test.YtdbbeldgdgonfaaGreatP07
import Derived.Test.YtdbbeldgdgonfaaGreatP10
import Derived.Test.YtdbbeldgdgonfaaGreatP13
import Derived.Test.YtdbbeldgdgonfaaGreatP17
import Derived.Test.YtdbbeldgdgonfaaGreatP20
namespace Go.Proofs.YtdbbeldgdgonfaaGreat
open Tryz renaming prog→tX_, isAgg22→uj_, underlying22→ub_, isAgg41→ug_, results181→vd_, sizeOf41→uf_, underlying41→tY_, sizeOf3→tZ_, isAgg64→wm_, call181→wn_, results148→wo_
set_option linter.unusedSimpArgs false
set_option linter.unusedVariables false
section
theorem lP_{σ ρ:Type}{f:σ×Int->Option (Lp (σ×Int) (σ×Int) ρ)}(P:Nat->σ->Prop)(n:Nat)(h:∀(j:Nat) s,j<n->P j s->∃s',f (s,(j:Int))=some (.go (s',((j+1:Nat):Int)))∧P (j+1) s')
  (hout:∀s,f (s,(n:Int))=some (.out (s,(n:Int)))):∀(d j fuel:Nat) s,j+d=n->d<fuel->P j s->∃s',loopF f fuel (s,(j:Int))=some (.inl (s',(n:Int)))∧P n s'
 |0,j,fuel,s,hj,hf,hp=>by
  obtain⟨m,rfl⟩:∃m,fuel=m+1:=⟨fuel-1,by omega⟩;have:j=n:=by omega
  subst this;exact⟨s,by simp only[loopF,hout],hp⟩
 |d+1,j,fuel,s,hj,hf,hp=>by
  obtain⟨m,rfl⟩:∃m,fuel=m+1:=⟨fuel-1,by omega⟩;obtain⟨s1,h1,h2⟩:=h j s (by omega) hp;obtain⟨s',g1,g2⟩:=lP_ P n h hout d (j+1) m s1 (by omega) (by omega) h2;exact⟨s',by simp only[loopF,h1];exact g1,g2⟩
theorem or_{α σ ρ:Type}{body:Int->α->σ->Option (Lp σ σ ρ)}(P:Nat->σ->Prop)(xs:List α)(h:∀(j:Nat) x s,xs[j]? =some x->P j s->∃s',body (j:Int) x s=some (.go s')∧P (j+1) s'):
  ∀(d j:Nat) s,j+d=xs.length->P j s->∃s',forI body (xs.drop j) (j:Int) s=some (.inl s')∧P xs.length s'
 |0,j,s,hj,hp=>by
  have:j=xs.length:=by omega
  subst this;exact⟨s,by rw[List.drop_length];rfl,hp⟩
 |d+1,j,s,hj,hp=>by
  obtain⟨s1,h1,h2⟩:=h j xs[j] s (List.getElem?_eq_getElem (by omega)) hp;obtain⟨s',g1,g2⟩:=or_ P xs h d (j+1) s1 (by omega) h2;refine⟨s',?_,g2⟩;rw[List.drop_eq_getElem_cons (by omega)];simp only[forI,h1];exact g1
theorem kf_{α σ ρ:Type}{body:Int->α->σ->Option (Lp σ σ ρ)}(P:Nat->σ->Prop)(xs:List α)(s:σ)(h0:P 0 s)(h:∀(j:Nat) x s,xs[j]? =some x->P j s->∃s',body (j:Int) x s=some (.go s')∧P (j+1) s'):
  ∃s',forI body xs 0 s=some (.inl s')∧P xs.length s':=by
 have:=or_ P xs h xs.length 0 s (by omega) h0;rwa [List.drop_zero] at this
def retV(N:List (List Int))(L D:Nat):List Bool:=(List.range (L^D)).map λn=>decide (srt (digs L D n)∈N)
theorem pN_(L D n fuel:Nat)(h1:1<=L)(h8:L<=8)(hD4:D<=4)(hn:n<=1000000)(hf:10<=fuel):loopF (cO_ (L:Int) (D:Int)) fuel ([],(n:Int))=some (.inl (digs L D n,((n/L^D:Nat):Int))):=by
 have h:=bT_ (f:=cO_ (L:Int) (D:Int)) (λj=>(digs L j n,((n/L^j:Nat):Int))) D (λj hj=>by
  have hle:n/L^j/L<=n:=Nat.le_trans (Nat.div_le_self _ _) (Nat.div_le_self _ _);have hdl:=dr_ L j n;unfold cO_;simp only
  unfold rem quo push;rw[if_pos (by simp;omega),if_neg (by omega),sb,if_pos (by omega),sb,if_neg (by omega),show((n/L^j:Nat):Int).tdiv (L:Int)=((n/L^j/L:Nat):Int) from rfl,jF_ (by omega),sb,
   show((n/L^j:Nat):Int).tmod (L:Int)=((n/L^j%L:Nat):Int) from rfl,ir_,Nat.pow_succ,Nat.div_div_eq_div_mul]) (by
  unfold cO_;simp only
  rw[if_neg (by simp[dr_])]) fuel 0 (by omega) (by omega)
 simpa [digs] using h
theorem mQ_(fuel:Nat)(hf:100<=fuel)(N:List (List Int))(L D:Nat)(h1:1<=L)(h8:L<=8)(hD:D<=4):eS_ fuel N (L:Int) (D:Int)=some (retV N L D):=by
 have hpw:=cF_ (L:=L) (k:=D) (by omega) (by omega);have h2:=bT_ (f:=dq_ (L:Int) (D:Int)) (λj=>(((L^j:Nat):Int),(j:Int))) D (λj hj=>by
  have hb:=cF_ (L:=L) (k:=j+1) (by omega) (by omega);unfold dq_;simp only
  rw[if_pos (by simpa using hj),show((L^j:Nat):Int)*(L:Int)=((L^(j+1):Nat):Int) by rw[Nat.pow_succ];exact(Int.natCast_mul _ _).symm,F_ (by omega) (by omega),sb,F_ (by omega) (by omega),sb];rfl) (by
  unfold dq_;simp only
  rw[if_neg (by simp)]) fuel 0 (by omega) (by omega)
 have hloop:=dW_ (body:=dX_ fuel N (L:Int) (D:Int)) (λK=>(List.range (L^D)).map λk=>if k<K then decide (srt (digs L D k)∈N) else false) (L^D) (λK hK=>by
  have hdl:=dr_ L D K;unfold dX_;rw[pN_ L D K fuel h1 h8 hD (by omega) (by omega),sb];simp only
  rw[hs_ _ fuel (by omega) (by omega),sb,<-fp_,iu_ _ _ (by rw[dK_];omega),sb,gf_ _ _ (by simp;exact hK),sb,iW_ _ _ _ (by simp;exact hK),sb,kg_ false _ _ _ (λk=>decide (srt (digs L D k)∈N)) rfl hK])
 unfold eS_ mk;rw[show((1:Int),(0:Int))=(((L^0:Nat):Int),((0:Nat):Int)) by simp,h2,sb];simp only
 rw[if_pos (by omega),sb,List.length_replicate,Int.toNat_natCast,F_ (by omega) (by omega),sb,Int.toNat_natCast];have hr:List.replicate (L^D) (Rz.z:Bool)=(List.range (L^D)).map λk=>if k<0 then decide (srt (digs L D k)∈N) else false:=by
  refine List.ext_getElem (by simp) λi h1 h2=>?_;simp;rfl
 rw[hr,hloop,sb];unfold retV;have he:((List.range (L^D)).map λk=>if k<L^D then decide (srt (digs L D k)∈N) else false)=(List.range (L^D)).map λk=>decide (srt (digs L D k)∈N):=by
  refine List.map_congr_left λk hk=>?_;rw[if_pos (List.mem_range.1 hk)]
 rw[he]
theorem sJ_(N:List (List Int))(L D:Nat)(c:List Int)(hc:∀a∈c,0<=a∧a<(L:Int))(hl:c.length=D):∃g,ix (retV N L D) ((valN L c.reverse:Nat):Int)=some g∧(g=true<->srt c∈N):=by
 have hc':∀a∈c.reverse,0<=a∧a<(L:Int):=λa ha=>hc a (List.mem_reverse.1 ha);have hv:=fB_ c.reverse hc';rw[List.length_reverse,hl] at hv;have hd:=jk_ c.reverse hc';rw[List.length_reverse,hl] at hd;refine⟨decide (srt c∈N),?_,by simp⟩;unfold retV;rw[ca_,List.getElem?_map,List.getElem?_range hv,Option.map_some,hd,hf_ (List.reverse_perm c)]
def msk(n:Nat)(M:List Int):Prop:=M.length=n∧∀v∈M,0<=v∧v<256
def bo(M:List Int)(a b:Nat):Prop:=(M.getD a 0).toNat.testBit b=true
theorem msk.at{n:Nat}{M:List Int}(h:msk n M){a:Nat}(ha:a<n):∃m:Nat,m<256∧M[a]? =some (m:Int)∧M.getD a 0=(m:Int):=by
 have hl:=h.1;have hv:=h.2 M[a] (List.getElem_mem _);have e:((M[a].toNat:Nat):Int)=M[a]:=Int.toNat_of_nonneg hv.1;refine⟨M[a].toNat,by omega,?_,?_⟩
 ·rw[e];exact List.getElem?_eq_getElem (by omega)
 ·rw[e,List.getD_eq_getElem?_getD,List.getElem?_eq_getElem (by omega)];rfl
theorem msk.set{n:Nat}{M:List Int}(h:msk n M)(a:Nat){m:Nat}(hm:m<256):msk n (M.set a (m:Int)):=
 ⟨by rw[List.length_set];exact h.1,λv hv=>by
  rcases List.mem_or_eq_of_mem_set hv with hv|rfl
  ·exact h.2 v hv
  ·omega⟩
theorem rr_{M:List Int}{a:Nat}(ha:a<M.length)(v c b:Nat):bo (M.set a (v:Int)) c b<->if c=a then v.testBit b=true else bo M c b:=by
 unfold bo;rw[List.getD_eq_getElem?_getD,List.getElem?_set];by_cases e:c=a
 ·subst e;rw[if_pos rfl,if_pos ha,if_pos rfl];simp
 ·rw[if_neg (λh=>e h.symm),if_neg e,<-List.getD_eq_getElem?_getD]
theorem getD_some{α:Type}{xs:List α}{i:Nat}{x z:α}(h:xs[i]? =some x):xs.getD i z=x:=by rw[List.getD_eq_getElem?_getD,h];rfl
theorem iR_{n:Nat}{x:List Int}(hx:∀y∈x,0<=y∧y<(n:Int)){i:Nat}(hi:i<x.length):∃a:Nat,a<n∧x[i]? =some (a:Int)∧x.getD i 0=(a:Int):=by
 have hv:=hx x[i] (List.getElem_mem _);have e:((x[i].toNat:Nat):Int)=x[i]:=Int.toNat_of_nonneg hv.1;have h1:x[i]? =some ((x[i].toNat:Nat):Int):=by rw[e];exact List.getElem?_eq_getElem hi
 exact⟨x[i].toNat,by omega,h1,getD_some h1⟩
def cnd(x S c:List Int)(b:Nat):Prop:=bo S (x.getD c.length 0).toNat b∧(c.length=0∨x.getD (c.length-1) 0≠x.getD c.length 0∨c.getD (c.length-1) 0=(b:Int))
def chR(L:Nat)(x S:List Int):Nat->List Int->List Int->Prop
  |0,c,y=>y=c
  |d+1,c,y=>∃b:Nat,b<L∧cnd x S c b∧chR L x S d (c++[(b:Int)]) y
def marked(x y:List Int)(a b:Nat):Prop:=∃i,i<x.length∧x.getD i 0=(a:Int)∧y.getD i 0=(b:Int)
theorem rW_(X:B_)(L:Nat)(hL:X.q.Labels=(L:Int))(h8:L<=8)(c:List Int)(hc:∀a∈c,0<=a∧a<(L:Int))(h4:c.length<=4):forI (ba_ X) c 0 0=some (.inl ((valN L c.reverse:Nat):Int)):=by
 have:=ij_ (ρ:=List Int) (body:=ba_ X) (λj=>((valN L (c.take j).reverse:Nat):Int)) c (λj v hj=>by
  have hi:=(List.getElem?_eq_some_iff.1 hj).1;have hv:=hc v (List.mem_of_getElem? hj);have hlt:=fB_ (L:=L) (c.take j).reverse (λa ha=>hc a (List.mem_of_mem_take (List.mem_reverse.1 ha)));have hp:=cF_ (L:=L) (k:=(c.take j).reverse.length) h8 (by rw[List.length_reverse,List.length_take];omega);have hm:valN L (c.take j).reverse*L<=4096*8:=Nat.mul_le_mul (by omega) h8;unfold ba_;rw[hL,<-Int.natCast_mul,F_ (by omega) (by omega),sb,F_ (by omega) (by omega),sb,fR_ hj,List.reverse_append];congr 2;show _=(((v.toNat+L*valN L (c.take j).reverse:Nat)):Int);rw[Nat.mul_comm L];omega)
 rw[List.take_length] at this;exact this
theorem rc_(x c M:List Int)(n:Nat)(hx:∀y∈x,0<=y∧y<(n:Int))(hl:c.length=x.length)(L:Nat)(h8:L<=8)(hc:∀a∈c,0<=a∧a<(L:Int))(hM:msk n M):
  ∃M',forI (bd_ x) c 0 M=some (.inl M')∧msk n M'∧∀a b,bo M' a b<->bo M a b∨marked x c a b:=by
 obtain⟨M',h1,h2,h3⟩:=kf_ (ρ:=List Int) (body:=bd_ x) (λj K=>msk n K∧∀a b,bo K a b<->bo M a b∨∃i,i<j∧x.getD i 0=(a:Int)∧c.getD i 0=(b:Int)) c M ⟨hM,λa b=>⟨.inl,λh=>h.elim id λ⟨i,hi,_⟩=>by omega⟩⟩ (λj v K hj hK=>by
  obtain⟨hK,hb⟩:=hK;have hi:=(List.getElem?_eq_some_iff.1 hj).1;obtain⟨a0,ha0,hxa,hxg⟩:=iR_ hx (i:=j) (by omega);obtain⟨m,hm,hKa,hKg⟩:=hK.at ha0;have hv:=hc v (List.mem_of_getElem? hj);obtain⟨b0,rfl⟩:∃b0:Nat,v=(b0:Int):=⟨v.toNat,(Int.toNat_of_nonneg hv.1).symm⟩;have h2:2^b0<256:=by
   have:=Nat.pow_le_pow_right (n:=2) (by decide) (show b0<=7 by omega);omega
  have hor:m|||2^b0<256:=Nat.or_lt_two_pow (n:=8) hm h2;have hK0:=hK.1;refine⟨K.set a0 ((m|||2^b0:Nat):Int),?_,hK.set _ hor,λa b=>?_⟩
  ·unfold bd_;rw[ca_,hxa,sb,ca_,hKa,sb,eq_ (by omega),sb,sb,ny_ (by omega) (by omega),iW_ _ _ _ (by omega),sb]
  ·rw[rr_ (by omega)];have hcg:=getD_some (z:=0) hj;by_cases e:a=a0
   ·subst e;rw[if_pos rfl,Nat.testBit_or,Bool.or_eq_true,Nat.testBit_two_pow];have hb':=hb a b;unfold bo at hb';rw[hKg,Int.toNat_natCast] at hb';rw[hb'];unfold bo;constructor
    ·rintro((h|⟨i,hi,h1,h2⟩)|h)
     ·exact .inl h
     ·exact .inr ⟨i,by omega,h1,h2⟩
     ·exact .inr ⟨j,by omega,hxg,by rw[hcg,of_decide_eq_true h]⟩
    ·rintro(h|⟨i,hi,h1,h2⟩)
     ·exact .inl (.inl h)
     ·by_cases q:i=j
      ·subst q;rw[hcg] at h2;exact .inr (decide_eq_true (by omega))
      ·exact .inl (.inr ⟨i,by omega,h1,h2⟩)
   ·rw[if_neg e,hb];constructor
    ·rintro(h|⟨i,hi,h1,h2⟩)
     ·exact .inl h
     ·exact .inr ⟨i,by omega,h1,h2⟩
    ·rintro(h|⟨i,hi,h1,h2⟩)
     ·exact .inl h
     ·by_cases q:i=j
      ·subst q;rw[hxg] at h1;omega
      ·exact .inr ⟨i,by omega,h1,h2⟩)
 refine⟨M',h1,h2,λa b=>?_⟩;rw[h3,hl];rfl
theorem se_(X:B_)(n L:Nat)(x S c:List Int)(hx:∀y∈x,0<=y∧y<(n:Int))(hS:msk n S)(hc:c.length<x.length)(h4:x.length<=4)(b:Nat)(hb:b<=62):∃t,((ix x (c.length:Int))>>=λx39=>
   (ix S x39)>>=λx42=>
   (ga_ x42 (b:Int))>>=λx45=>
   if x45 then
    if(c.length:Int)==0 then
     some true
    else
     (ck ((c.length:Int)-1))>>=λx204=>
     (ix x x204)>>=λx205=>
     (ix x (c.length:Int))>>=λx208=>
     if x205 !=x208 then
      some true
     else
      (ck ((c.length:Int)-1))>>=λx382=>
      (ix c x382)>>=λx383=>
      some (x383==(b:Int))
   else
    some false)=some t∧(t=true<->cnd x S c b):=by
 obtain⟨a0,ha0,hxa,hxg⟩:=iR_ hx hc;obtain⟨m,hm,hSa,hSg⟩:=hS.at ha0;rw[ca_,hxa,sb,ca_,hSa,sb,ri_ m b hb,sb];have hbo:bo S (x.getD c.length 0).toNat b<->m.testBit b=true:=by unfold bo;rw[hxg,Int.toNat_natCast,hSg,Int.toNat_natCast]
 cases h1:m.testBit b
 ·exact⟨false,by rw[if_neg (by simp)],by simp,λh=>by have h':=hbo.1 h.1;rw[h1] at h';cases h'⟩
 ·rw[if_pos rfl];by_cases h0:c.length=0
  ·exact⟨true,by rw[if_pos (by simpa using h0)],λ_=>⟨hbo.2 h1,.inl h0⟩,λ_=>rfl⟩
  ·have e1:(c.length:Int)-1=((c.length-1:Nat):Int):=by omega
   obtain⟨a1,ha1,hxa1,hxg1⟩:=iR_ hx (i:=c.length-1) (by omega);rw[if_neg (by simpa using h0),F_ (by omega) (by omega),sb,e1,ca_,hxa1,sb,sb];by_cases h2:a1=a0
   ·subst h2;have hci:c[c.length-1]? =some (c.getD (c.length-1) 0):=by rw[List.getD_eq_getElem?_getD,List.getElem?_eq_getElem (by omega)];rfl
    rw[if_neg (by simp),sb,ca_,hci,sb];refine⟨_,rfl,?_⟩;rw[beq_iff_eq];constructor
    ·exact λh=>⟨hbo.2 h1,.inr (.inr h)⟩
    ·rintro⟨_,h|h|h⟩
     ·exact absurd h h0
     ·rw[hxg1,hxg] at h;exact absurd rfl h
     ·exact h
   ·refine⟨true,by rw[if_pos (by simp;omega)],λ_=>⟨hbo.2 h1,.inr (.inl ?_)⟩,λ_=>rfl⟩;rw[hxg1,hxg];omega
theorem kl_(X:B_)(tab:List Bool)(G:List Int->Prop)(n L:Nat)(hL:X.q.Labels=(L:Int))(h8:L<=8)(x S:List Int)(hx:∀y∈x,0<=y∧y<(n:Int))(hS:msk n S)(h4:x.length<=4)
  (htab:∀c:List Int,c.length=x.length->(∀a∈c,0<=a∧a<(L:Int))->∃g,ix tab ((valN L c.reverse:Nat):Int)=some g∧(g=true<->G c)):
  ∀(d fuel:Nat)(c M:List Int),c.length+d=x.length->20+d<fuel->(∀a∈c,0<=a∧a<(L:Int))->msk n M->
  ∃M',aa_ fuel X tab x S c M=some M'∧msk n M'∧∀a b,bo M' a b<->bo M a b∨∃y,chR L x S d c y∧G y∧marked x y a b
 |0,fuel,c,M,hd,hf,hc,hM=>by
  obtain⟨m,rfl⟩:∃m,fuel=m+1:=⟨fuel-1,by omega⟩;obtain⟨g,h1,h2⟩:=htab c (by omega) hc;unfold aa_;rw[if_neg (by simp;omega),rW_ X L hL h8 c hc (by omega),sb];simp only
  rw[h1,sb];cases g
  ·exact⟨M,by rw[if_neg (by simp)],hM,λa b=>⟨.inl,λh=>h.elim id λ⟨y,e,hG,_⟩=>by
    have e:y=c:=e;subst e;exact absurd (h2.2 hG) (by simp)⟩⟩
  ·obtain⟨M',g1,g2,g3⟩:=rc_ x c M n hx (by omega) L h8 hc hM;refine⟨M',by rw[if_pos rfl,g1,sb],g2,λa b=>?_⟩;rw[g3];exact⟨λh=>h.imp id λh=>⟨c,rfl,h2.1 rfl,h⟩,λh=>h.imp id λ⟨y,e,_,h'⟩=>by
    have e:y=c:=e;rw[e] at h';exact h'⟩
 | d+1,fuel,c,M,hd,hf,hc,hM=>by
  obtain⟨m,rfl⟩:∃m,fuel=m+1:=⟨fuel-1,by omega⟩;obtain⟨M',h1,h2,h3⟩:=lP_ (f:=bb_ X tab x S c (aa_ m)) (λj K=>msk n K∧∀a b,bo K a b<->bo M a b∨∃t:Nat,t<j∧cnd x S c t∧∃y,chR L x S d (c++[(t:Int)]) y∧G y∧marked x y a b) L (λj K hj hK=>by
   obtain⟨hK,hb⟩:=hK;obtain⟨t,e1,e2⟩:=se_ X n L x S c hx hS (by omega) h4 j (by omega);unfold bb_;simp only
   rw[hL,if_pos (by simpa using hj),e1,sb];cases t
   ·refine⟨K,by rw[if_neg (by simp),F_ (by omega) (by omega),sb];rfl,hK,λa b=>?_⟩;rw[hb];refine⟨λh=>h.imp id λ⟨t,ht,h⟩=>⟨t,by omega,h⟩,λh=>h.imp id λ⟨t,ht,g,g'⟩=>⟨t,?_,g,g'⟩⟩;have:t≠j:=λe=>by rw[e] at g;exact absurd (e2.2 g) (by simp)
    omega
   ·have hcj:∀a∈c++[(j:Int)],0<=a∧a<(L:Int):=λa ha=>by
     rcases List.mem_append.1 ha with ha|ha
     ·exact hc a ha
     ·rw[List.mem_singleton.1 ha];omega
    obtain⟨K',k1,k2,k3⟩:=kl_ X tab G n L hL h8 x S hx hS h4 htab d m (c++[(j:Int)]) K (by simp;omega) (by omega) hcj hK;have hpush:push c (j:Int)=some (c++[(j:Int)]):=by unfold push;rw[if_pos (by omega)]
    refine⟨K',by rw[if_pos rfl,fY_ _ (by omega),sb,hpush,sb,k1,sb,F_ (by omega) (by omega),sb];rfl,k2,λa b=>?_⟩;rw[k3,hb];constructor
    ·rintro((h|⟨t,ht,h,h'⟩)|h)
     ·exact .inl h
     ·exact .inr ⟨t,by omega,h,h'⟩
     ·exact .inr ⟨j,by omega,e2.1 rfl,h⟩
    ·rintro(h|⟨t,ht,h,h'⟩)
     ·exact .inl (.inl h)
     ·by_cases q:t=j
      ·subst q;exact .inr h'
      ·exact .inl (.inr ⟨t,by omega,h,h'⟩)) (λK=>by
   unfold bb_;simp only
   rw[hL,if_neg (by simp)]) L 0 m M (by omega) (by omega) ⟨hM,λa b=>⟨.inl,λh=>h.elim id λ⟨t,ht,_⟩=>by omega⟩⟩
  refine⟨M',?_,h2,λa b=>?_⟩
  ·unfold aa_;rw[if_pos (by simp;omega)];rw[show((0:Nat):Int)=0 from rfl] at h1;rw[h1,sb]
  ·rw[h3];exact⟨λh=>h.imp id λ⟨t,ht,h,y,h1,h2⟩=>⟨y,⟨t,ht,h,h1⟩,h2⟩,λh=>h.imp id λ⟨y,⟨t,ht,h,h1⟩,h2⟩=>⟨t,ht,h,y,h1,h2⟩⟩
end
section
theorem mz_{L:Nat}{x S:List Int}:∀{d:Nat}{c y:List Int},chR L x S d c y->y.length=c.length+d∧(∃z,y=c++z)∧∀i,c.length<=i->i<c.length+d->∃b:Nat,b<L∧y.getD i 0=(b:Int)∧bo S (x.getD i 0).toNat b
 |0,c,y,h=>by
  have h:y=c:=h;subst h;exact⟨by omega,⟨[],by simp⟩,λi h1 h2=>by omega⟩
 |d+1,c,y,⟨b,hb,hc,h⟩=>by
  obtain⟨h1,⟨z,h2⟩,h3⟩:=mz_ h;rw[List.length_append,List.length_singleton] at h1 h3;refine⟨by omega,⟨(b:Int)::z,by rw[h2];simp⟩,λi i1 i2=>?_⟩;by_cases e:i=c.length
  ·subst e;refine⟨b,hb,?_,hc.1⟩;rw[h2,List.append_assoc,List.getD_eq_getElem?_getD,List.getElem?_append_right (Nat.le_refl _)];simp
  ·exact h3 i (by omega) (by omega)
def inS(n L:Nat)(f S:List Int):Prop:=f.length=n∧∀a,a<n->∃b:Nat,b<L∧f.getD a 0=(b:Int)∧bo S a b
theorem nW_{f x:List Int}{i a:Nat}(h:x[i]? =some (a:Int)):(imgL f x)[i]? =some (f.getD a 0):=by
 unfold imgL;rw[List.getElem?_map,h];rfl
theorem qK_{n L:Nat}{x S f:List Int}(hx:∀y∈x,0<=y∧y<(n:Int))(hf:inS n L f S):∀(d k:Nat),k+d=x.length->chR L x S d (imgL f (x.take k)) (imgL f x)
 |0,k,hk=>by
  have:x.take k=x:=List.take_of_length_le (by omega);show imgL f x=imgL f (x.take k);rw[this]
 | d+1,k,hk=>by
  obtain⟨a,ha,hxa,hxg⟩:=iR_ hx (i:=k) (by omega);obtain⟨b,hb,hfb,hbo⟩:=hf.2 a ha;have hlen:(imgL f (x.take k)).length=k:=by rw[fy_,List.length_take];omega
  refine⟨b,hb,⟨by rw[hlen,hxg,Int.toNat_natCast];exact hbo,?_⟩,?_⟩
  ·rw[hlen];by_cases h0:k=0
   ·exact .inl h0
   ·obtain⟨a1,ha1,hxa1,hxg1⟩:=iR_ hx (i:=k-1) (by omega);by_cases e:a1=a
    ·refine .inr (.inr ?_);subst e;rw[getD_some (nW_ (x:=x.take k) (i:=k-1) (a:=a1) (by rw[List.getElem?_take,if_pos (by omega)];exact hxa1))];exact hfb
    ·exact .inr (.inl (by rw[hxg1,hxg];omega))
  ·have:=qK_ hx hf d (k+1) (by omega);have e:imgL f (x.take (k+1))=imgL f (x.take k)++[(b:Int)]:=by
    rw[fR_ hxa];unfold imgL;rw[List.map_append];simp only[List.map_cons,List.map_nil,Int.toNat_natCast,hfb]
   rwa [e] at this
def supp(L:Nat)(x S:List Int)(G:List Int->Prop)(a b:Nat):Prop:=∃y,chR L x S x.length [] y∧G y∧marked x y a b
theorem sB_{n L:Nat}{x S f:List Int}{G:List Int->Prop}(hx:∀y∈x,0<=y∧y<(n:Int))(hf:inS n L f S)(hG:G (imgL f x)){a b:Nat}(ha:(a:Int)∈x)(hb:f.getD a 0=(b:Int)):supp L x S G a b:=by
 refine⟨imgL f x,?_,hG,?_⟩
 ·have:=qK_ hx hf x.length 0 (by omega);simpa [imgL] using this
 ·obtain⟨i,hi⟩:=List.mem_iff_getElem?.1 ha;exact⟨i,(List.getElem?_eq_some_iff.1 hi).1,getD_some hi,by rw[getD_some (nW_ hi)];exact hb⟩
def wt(S:List Int):Nat:=(S.map Int.toNat).sum
theorem sI_(v:Nat):∀(S:List Int)(a:Nat),a<S.length->wt (S.set a (v:Int))+(S.getD a 0).toNat=wt S+v
 |[],a,h=>by simp at h
 |s::S,0,h=>by
  simp only[List.set_cons_zero,List.getD_cons_zero,wt,List.map_cons,List.sum_cons,Int.toNat_natCast];omega
 |s::S,a+1,h=>by
  have:=sI_ v S a (by simpa using h);simp only[List.set_cons_succ,List.getD_cons_succ,wt,List.map_cons,List.sum_cons] at this ⊢;omega
theorem tN_{n:Nat}:∀{S:List Int},(∀v∈S,0<=v∧v<256)->wt S<=S.length*255
 |[],_=>by simp[wt]
 |s::S,h=>by
  have h1:=h s (by simp);have h2:=tN_ (n:=n) (S:=S) λv hv=>h v (by simp[hv]);simp only[wt,List.map_cons,List.sum_cons,List.length_cons,Nat.add_mul] at h2 ⊢;omega
theorem tQ_(M x S:List Int)(ag:Bool)(n:Nat)(hx:∀y∈x,0<=y∧y<(n:Int))(hM:msk n M)(hS:msk n S):
  ∃S1 ag1,forI (aN_ M) x 0 (S,ag)=some (.inl (S1,ag1))∧msk n S1∧(∀a b,bo S1 a b<->bo S a b∧((a:Int)∈x->bo M a b))∧((S1=S∧ag1=ag)∨(ag1=true∧wt S1<wt S)):=by
 obtain⟨⟨S1,ag1⟩,h1,h2,h3,h4⟩:=kf_ (ρ:=List Int×Bool) (body:=aN_ M) (λj K=>msk n K.1∧(∀a b,bo K.1 a b<->bo S a b∧((∃i,i<j∧x[i]? =some (a:Int))->bo M a b))∧((K.1=S∧K.2=ag)∨(K.2=true∧wt K.1<wt S))) x (S,ag)
  ⟨hS,λa b=>⟨λh=>⟨h,λ⟨i,hi,_⟩=>by omega⟩,λh=>h.1⟩,.inl ⟨rfl,rfl⟩⟩ (λj v K hj hK=>by
  obtain⟨K,ak⟩:=K;obtain⟨hK,hb,hw⟩:=hK;simp only at hK hb hw;have hv:=hx v (List.mem_of_getElem? hj);obtain⟨a0,rfl⟩:∃a0:Nat,v=(a0:Int):=⟨v.toNat,(Int.toNat_of_nonneg hv.1).symm⟩;obtain⟨k,hk,hKa,hKg⟩:=hK.at (a:=a0) (by omega);obtain⟨m,hm,hMa,hMg⟩:=hM.at (a:=a0) (by omega);have hK0:=hK.1;have hand:k&&&m<=k:=Nat.and_le_left;have hup:∀a b,(bo K a b∧(a=a0->bo M a b))<->bo S a b∧((∃i,i<j+1∧x[i]? =some (a:Int))->bo M a b):=λa b=>by
   rw[hb];constructor
   ·rintro⟨⟨h1,h2⟩,h3⟩;refine⟨h1,λ⟨i,hi,hxi⟩=>?_⟩;by_cases e:i=j
    ·subst e;rw[hj] at hxi;have:=Option.some.inj hxi;exact h3 (by omega)
    ·exact h2 ⟨i,by omega,hxi⟩
   ·rintro⟨h1,h2⟩;exact⟨⟨h1,λ⟨i,hi,hxi⟩=>h2 ⟨i,by omega,hxi⟩⟩,λe=>by subst e;exact h2 ⟨j,by omega,hj⟩⟩
  unfold aN_;simp only
  rw[ca_,ca_,hKa,sb,hMa,sb,sb,hW_ (by omega) (by omega)];by_cases e:k&&&m=k
  ·refine⟨(K,ak),by rw[if_neg (by simp[e])],hK,λa b=>?_,hw⟩;rw[<-hup];refine⟨λh=>⟨h,λe'=>?_⟩,λh=>h.1⟩;subst e';have h':bo K a b:=h;unfold bo at h' ⊢;rw[hKg,Int.toNat_natCast] at h';rw[hMg,Int.toNat_natCast];rw[<-e,Nat.testBit_and,Bool.and_eq_true] at h';exact h'.2
  ·have hlt:k&&&m<k:=Nat.lt_of_le_of_ne hand e;have hws:=sI_ (k&&&m) K a0 (by omega);rw[hKg,Int.toNat_natCast] at hws;refine⟨(K.set a0 ((k&&&m:Nat):Int),true),?_,hK.set _ (by omega),λa b=>?_,.inr ⟨rfl,?_⟩⟩
   ·rw[if_pos (by simp;omega),sb,sb,sb,hW_ (by omega) (by omega),iW_ _ _ _ (by omega),sb]
   ·show bo (K.set a0 ((k&&&m:Nat):Int)) a b<->_;rw[<-hup,rr_ (by omega)];by_cases e':a=a0
    ·subst e';rw[if_pos rfl,Nat.testBit_and,Bool.and_eq_true];unfold bo;rw[hKg,hMg,Int.toNat_natCast,Int.toNat_natCast];exact⟨λh=>⟨h.1,λ_=>h.2⟩,λh=>⟨h.1,h.2 rfl⟩⟩
    ·rw[if_neg e'];exact⟨λh=>⟨h,λh'=>absurd h' e'⟩,λh=>h.1⟩
   ·show wt (K.set a0 ((k&&&m:Nat):Int))<wt S;rcases hw with⟨hw,_⟩|⟨_,hw⟩
    ·rw[hw] at hws;rw[hw];omega
    ·omega)
 refine⟨S1,ag1,h1,h2,λa b=>?_,h4⟩;rw[h3];refine and_congr_right λ_=>⟨λh hm=>?_,λh ⟨i,hi,hxi⟩=>h (List.mem_of_getElem? hxi)⟩;obtain⟨i,hi⟩:=List.mem_iff_getElem?.1 hm;exact h ⟨i,(List.getElem?_eq_some_iff.1 hi).1,hi⟩
structure Fnd (X:B_) (n L D:Nat):Prop where
  hn:X.p.Labels=(n:Int)
  hL:X.q.Labels=(L:Int)
  n8:n<=8
  L1:1<=L
  L8:L<=8
  D4:D<=4
  cN:∀x∈X.p.Nodes,x.length=D∧∀y∈x,0<=y∧y<(n:Int)
  cE:∀x∈X.p.Edges,x.length=2∧∀y∈x,0<=y∧y<(n:Int)
  sN:X.p.Nodes.length<=100000000
  sE:X.p.Edges.length<=100000000
  tN:X.nodes=retV X.q.Nodes L D
  tE:X.edges=retV X.q.Edges L 2
def vmap(p q:c_)(f:List Int):Prop:=(∀x∈p.Nodes,srt (imgL f x)∈q.Nodes)∧∀x∈p.Edges,srt (imgL f x)∈q.Edges
def stab(X:B_)(L:Nat)(S:List Int):Prop:=(∀x∈X.p.Edges,∀a b:Nat,(a:Int)∈x->bo S a b->supp L x S (λy=>srt y∈X.q.Edges) a b)∧∀x∈X.p.Nodes,∀a b:Nat,(a:Int)∈x->bo S a b->supp L x S (λy=>srt y∈X.q.Nodes) a b
def goodK(X:B_)(k:Nat)(y:List Int):Prop:=if k<X.p.Edges.length then srt y∈X.q.Edges else srt y∈X.q.Nodes
theorem oC_(n:Nat):msk n (List.replicate n 0):=⟨List.length_replicate,λv hv=>by rw[(List.mem_replicate.1 hv).2];decide⟩
theorem rq_(n a b:Nat):¬bo (List.replicate n 0) a b:=by
 unfold bo;rw[List.getD_eq_getElem?_getD,List.getElem?_replicate];split<;>simp
theorem ty_(X:B_){n L D:Nat}(h:Fnd X n L D)(fuel:Nat)(hf:100<=fuel)(k:Nat)(x:List Int)(hx:(X.p.Edges++X.p.Nodes)[k]? =some x)(S:List Int)(ag:Bool)(hS:msk n S):
  ∃S1 ag1,ax_ fuel X (k:Int) x (S,ag)=some (.go (S1,ag1))∧msk n S1∧(∀a b,bo S1 a b<->bo S a b∧((a:Int)∈x->supp L x S (goodK X k) a b))∧((S1=S∧ag1=ag)∨(ag1=true∧wt S1<wt S)):=by
 have hmk:mk (Rz.z:Int) X.p.Labels=some (List.replicate n 0):=by
  have:=h.n8;unfold mk;rw[h.hn,if_pos (by omega),Int.toNat_natCast];rfl
 by_cases hk:k<X.p.Edges.length
 ·rw[List.getElem?_append_left hk] at hx;obtain⟨x2,xr⟩:=h.cE x (List.mem_of_getElem? hx);obtain⟨M,m1,m2,m3⟩:=kl_ X X.edges (λy=>srt y∈X.q.Edges) n L h.hL h.L8 x S xr hS (by omega) (λc hc hc'=>by rw[h.tE];exact sJ_ _ _ _ c hc' (by omega)) x.length fuel [] (List.replicate n 0) (by simp) (by omega) (by simp) (oC_ n);obtain⟨S1,ag1,c1,c2,c3,c4⟩:=tQ_ M x S ag n xr m2 hS;refine⟨S1,ag1,?_,c2,λa b=>?_,c4⟩
  ·unfold ax_;rw[if_pos (by simpa using hk),hmk,sb,m1,sb,c1,sb]
  ·rw[c3];refine and_congr_right λ_=>imp_congr_right λ_=>?_;rw[m3];have:goodK X k=λy=>srt y∈X.q.Edges:=by funext y;unfold goodK;rw[if_pos hk]
   rw[this];exact⟨λhh=>hh.elim (λhz=>absurd hz (rq_ n a b)) id,.inr⟩
 ·rw[List.getElem?_append_right (by omega)] at hx;obtain⟨x2,xr⟩:=h.cN x (List.mem_of_getElem? hx);have hD4:=h.D4;obtain⟨M,m1,m2,m3⟩:=kl_ X X.nodes (λy=>srt y∈X.q.Nodes) n L h.hL h.L8 x S xr hS (by omega) (λc hc hc'=>by rw[h.tN];exact sJ_ _ _ _ c hc' (by omega)) x.length fuel [] (List.replicate n 0) (by simp) (by omega) (by simp) (oC_ n);obtain⟨S1,ag1,c1,c2,c3,c4⟩:=tQ_ M x S ag n xr m2 hS;refine⟨S1,ag1,?_,c2,λa b=>?_,c4⟩
  ·unfold ax_;rw[if_neg (by simpa using hk),hmk,sb,m1,sb,show cj_ M=aN_ M from rfl,c1,sb]
  ·rw[c3];refine and_congr_right λ_=>imp_congr_right λ_=>?_;rw[m3];have:goodK X k=λy=>srt y∈X.q.Nodes:=by funext y;unfold goodK;rw[if_neg hk]
   rw[this];exact⟨λhh=>hh.elim (λhz=>absurd hz (rq_ n a b)) id,.inr⟩
theorem sM_{n L:Nat}{f S S1:List Int}(h:inS n L f S)(hb:∀a b:Nat,a<n->f.getD a 0=(b:Int)->bo S a b->bo S1 a b):inS n L f S1:=
 ⟨h.1,λa ha=>by obtain⟨b,h1,h2,h3⟩:=h.2 a ha;exact⟨b,h1,h2,hb a b ha h2 h3⟩⟩
theorem qA_{X:B_}{f:List Int}(hv:vmap X.p X.q f){k:Nat}{x:List Int}(hx:(X.p.Edges++X.p.Nodes)[k]? =some x):goodK X k (imgL f x):=by
 unfold goodK;split
 ·rename_i hk;rw[List.getElem?_append_left hk] at hx;exact hv.2 x (List.mem_of_getElem? hx)
 ·rename_i hk;rw[List.getElem?_append_right (by omega)] at hx;exact hv.1 x (List.mem_of_getElem? hx)
theorem tl_{X:B_}{n L D:Nat}(h:Fnd X n L D){k:Nat}{x:List Int}(hx:(X.p.Edges++X.p.Nodes)[k]? =some x):∀y∈x,0<=y∧y<(n:Int):=by
 rcases List.mem_append.1 (List.mem_of_getElem? hx) with h'|h'
 ·exact(h.cE x h').2
 ·exact(h.cN x h').2
structure Rnd (X:B_) (n L:Nat) (S S1:List Int):Prop where
  m:msk n S1
  sub:∀a b,bo S1 a b->bo S a b
  keep:∀f,vmap X.p X.q f->inS n L f S->inS n L f S1
theorem rB_(X:B_){n L D:Nat}(h:Fnd X n L D)(fuel:Nat)(hf:100<=fuel)(S:List Int)(hS:msk n S):
  ∃S1 ag1,forI (ax_ fuel X) (X.p.Edges++X.p.Nodes) 0 (S,false)=some (.inl (S1,ag1))∧Rnd X n L S S1∧((S1=S∧ag1=false∧stab X L S)∨(ag1=true∧wt S1<wt S)):=by
 obtain⟨⟨S1,ag1⟩,h1,h2,h3⟩:=kf_ (ρ:=List Int×Bool) (body:=ax_ fuel X) (λj K=>Rnd X n L S K.1∧((K.1=S∧K.2=false∧∀i x,i<j->(X.p.Edges++X.p.Nodes)[i]? =some x->∀a b:Nat,(a:Int)∈x->bo S a b->supp L x S (goodK X i) a b)∨(K.2=true∧wt K.1<wt S))) (X.p.Edges++X.p.Nodes) (S,false)
  ⟨⟨hS,λa b h=>h,λf _ h=>h⟩,.inl ⟨rfl,rfl,λi x hi=>by omega⟩⟩ (λj x K hj hK=>by
  obtain⟨K,ak⟩:=K;obtain⟨⟨hm,hs,hk⟩,hw⟩:=hK;simp only at hm hs hk hw;obtain⟨S1,ag1,c1,c2,c3,c4⟩:=ty_ X h fuel hf j x hj K ak hm;refine⟨(S1,ag1),c1,⟨c2,λa b hb=>hs a b ((c3 a b).1 hb).1,λf hv hi=>?_⟩,?_⟩
  ·have hi':=hk f hv hi;exact sM_ hi' λa b ha hfb hb=>(c3 a b).2 ⟨hb,λhm=>sB_ (tl_ h hj) hi' (qA_ hv hj) hm hfb⟩
  ·simp only
   rcases c4 with⟨e1,e2⟩|⟨e1,e2⟩
   ·subst e1;subst e2;rcases hw with⟨e1,e2,e3⟩|hw
    ·subst e1;refine .inl ⟨rfl,e2,λi y hi hy a b ha hb=>?_⟩;by_cases e:i=j
     ·subst e;rw[hj] at hy;cases hy
      exact((c3 a b).1 hb).2 ha
     ·exact e3 i y (by omega) hy a b ha hb
    ·exact .inr hw
   ·refine .inr ⟨e1,?_⟩;rcases hw with⟨hw,_⟩|⟨_,hw⟩
    ·rwa [hw] at e2
    ·omega)
 refine⟨S1,ag1,h1,h2,h3.imp (λ⟨e1,e2,e3⟩=>⟨e1,e2,⟨λx hx a b ha hb=>?_,λx hx a b ha hb=>?_⟩⟩) id⟩
 ·obtain⟨i,hi⟩:=List.mem_iff_getElem?.1 hx;have hlt:=(List.getElem?_eq_some_iff.1 hi).1;have:=e3 i x (by simp;omega) (by rw[List.getElem?_append_left hlt];exact hi) a b ha hb;have hg:goodK X i=λy=>srt y∈X.q.Edges:=by funext y;unfold goodK;rw[if_pos hlt]
  rwa [hg] at this
 ·obtain⟨i,hi⟩:=List.mem_iff_getElem?.1 hx;have hlt:=(List.getElem?_eq_some_iff.1 hi).1;have:=e3 (X.p.Edges.length+i) x (by simp;omega) (by rw[List.getElem?_append_right (by omega),Nat.add_sub_cancel_left];exact hi) a b ha hb;have hg:goodK X (X.p.Edges.length+i)=λy=>srt y∈X.q.Nodes:=by funext y;unfold goodK;rw[if_neg (by omega)]
  rwa [hg] at this
theorem rZ_(X:B_){n L D:Nat}(h:Fnd X n L D)(fu:Nat)(hfu:100<=fu):∀(w:Nat)(S:List Int)(fuel:Nat),msk n S->wt S<=w->w+2<fuel->
  ∃S1,loopF (Z_ fu X) fuel (S,true)=some (.inl (S1,false))∧Rnd X n L S S1∧stab X L S1:=by
 intro w
 induction w with
 | zero=>
  intro S fuel hS hw hf;obtain⟨m,rfl⟩:∃m,fuel=m+2:=⟨fuel-2,by omega⟩;obtain⟨S1,ag1,h1,h2,h3⟩:=rB_ X h fu hfu S hS;rcases h3 with⟨e1,e2,e3⟩|⟨e1,e2⟩
  ·subst e1;subst e2;have s1:=h.sN;have s2:=h.sE;refine⟨S1,?_,h2,e3⟩;have c1:cat ([]:List (List Int)) X.p.Edges=some X.p.Edges:=hH_ _ (by omega);have c2:cat X.p.Edges X.p.Nodes=some (X.p.Edges++X.p.Nodes):=by unfold cat;rw[if_pos (by omega)]
   have a1:Z_ fu X (S1,true)=some (.go (S1,false)):=by
    unfold Z_;simp only[if_true];rw[c1,sb,c2,sb,h1,sb]
   have a2:Z_ fu X (S1,false)=some (.out (S1,false)):=by
    unfold Z_;simp
   simp only[loopF,a1,a2]
  ·omega
 | succ w ih=>
  intro S fuel hS hw hf;obtain⟨m,rfl⟩:∃m,fuel=m+2:=⟨fuel-2,by omega⟩;obtain⟨S1,ag1,h1,h2,h3⟩:=rB_ X h fu hfu S hS;have s1:=h.sN;have s2:=h.sE;have c1:cat ([]:List (List Int)) X.p.Edges=some X.p.Edges:=hH_ _ (by omega);have c2:cat X.p.Edges X.p.Nodes=some (X.p.Edges++X.p.Nodes):=by unfold cat;rw[if_pos (by omega)]
  have a1:Z_ fu X (S,true)=some (.go (S1,ag1)):=by
   unfold Z_;simp only[if_true];rw[c1,sb,c2,sb,h1,sb]
  have a2:Z_ fu X (S1,false)=some (.out (S1,false)):=by
   unfold Z_;simp
  rcases h3 with⟨e1,e2,e3⟩|⟨e1,e2⟩
  ·subst e1;subst e2;exact⟨S1,by simp only[loopF,a1,a2],h2,e3⟩
  ·subst e1;obtain⟨S2,g1,g2,g3⟩:=ih S1 (m+1) h2.m (by omega) (by omega);exact⟨S2,by simp only[loopF,a1] at g1 ⊢;exact g1,⟨g2.m,λa b hb=>h2.sub a b (g2.sub a b hb),λf hv hi=>g2.keep f hv (h2.keep f hv hi)⟩,g3⟩
theorem oI_(X:B_){n L D:Nat}(h:Fnd X n L D)(fuel:Nat)(hf:3000<=fuel)(S:List Int)(hS:msk n S):
  ∃S1,bC_ fuel X S=some (S1, !decide ((0:Int)∈S1))∧Rnd X n L S S1∧stab X L S1:=by
 have hl:=hS.1;have h8:=h.n8;have hw:=tN_ (n:=0) hS.2;have hw2:S.length*255<=8*255:=Nat.mul_le_mul_right _ (by omega);obtain⟨S1,h1,h2,h3⟩:=rZ_ X h fuel (by omega) (wt S) S fuel hS (Nat.le_refl _) (by omega);refine⟨S1,?_,h2,h3⟩;unfold bC_;rw[fY_ _ (by omega),sb,h1,sb];simp only
 rw[tw_,sb]
end
section
def Cpl(ok:List Int->Prop)(n:Nat):Nat->List Int->Prop
  |0,_=>True
  |d+1,f=>∃b:Nat,b<n∧(b:Int) ∉ f∧ok (f++[(b:Int)])∧Cpl ok n d (f++[(b:Int)])
theorem Cpl.full{ok:List Int->Prop}{n:Nat}:∀{d:Nat}{f:List Int},Cpl ok n d f->f.Nodup->(∀y∈f,0<=y∧y<n)->∃g:List Int,g.length=d∧(f++g).Nodup∧(∀y∈f++g,0<=y∧y<n)∧∀k,k<d->ok (f++g.take (k+1))
 |0,f,_,hn,hr=>⟨[],rfl,by simpa using hn,by simpa using hr,λk hk=>by omega⟩
 | d+1,f,⟨b,hb,hnb,hok,hx⟩,hn,hr=>by
  obtain⟨g,g1,g2,g3,g4⟩:=Cpl.full hx (List.pairwise_append.2 ⟨hn,by simp,λy hy z hz e=>hnb (by simp at hz;rw[<-hz,<-e];exact hy)⟩) (λy hy=>by
   rcases List.mem_append.1 hy with hy|hy
   ·exact hr y hy
   ·simp at hy;subst hy;omega)
  refine⟨(b:Int)::g,by simp[g1],by simpa using g2,by simpa using g3,λk hk=>?_⟩;rw[List.take_succ_cons];cases k with
  |zero=>simpa using hok
  |succ k=>have:=g4 k (by omega);simpa using this
theorem Cpl.mono{ok ok':List Int->Prop}{n:Nat}(h:∀f,ok f->ok' f):∀{d:Nat}{f:List Int},Cpl ok n d f->Cpl ok' n d f
 |0,_,_=>trivial
 |d+1,f,⟨b,hb,hn,hok,hx⟩=>⟨b,hb,hn,h _ hok,Cpl.mono h hx⟩
def keptP(l m:List (List Int))(f:List Int):Prop:=∀x∈l,x.getD (x.length-1) 0=(f.length:Int)-1->srt (imgL f x)∈m
theorem oL_{x:List Int}(hs:x.Pairwise (·<=·)):∀y∈x,y<=x.getD (x.length-1) 0:=λy hy=>by
 obtain⟨i,hi,rfl⟩:=List.getElem_of_mem hy;rw[List.getD_eq_getElem?_getD,List.getElem?_eq_getElem (by omega)];simp only[Option.getD_some];by_cases e:i=x.length-1
 ·subst e;exact Int.le_refl _
 ·exact(List.pairwise_iff_getElem.1 hs) i (x.length-1) hi (by omega) (by omega)
theorem sn_{x:List Int}(h:x≠ []):x.getD (x.length-1) 0∈x:=by
 have hp:0<x.length:=List.length_pos_iff.2 h;rw[List.getD_eq_getElem?_getD,List.getElem?_eq_getElem (by omega)];exact List.getElem_mem _
theorem qG_{P Q:List (List Int)}{g:List Int}{n:Nat}(hl:g.length=n)(hP:∀x∈P,x≠ []∧x.Pairwise (·<=·)∧∀y∈x,0<=y∧y<n)(hk:∀k,k<n->keptP P Q (g.take (k+1))):∀x∈P,srt (imgL g x)∈Q:=λx hx=>by
 obtain⟨h1,h2,h3⟩:=hP x hx;have ha:=h3 _ (sn_ h1);have hm:=oL_ h2;generalize hL:x.getD (x.length-1) 0=a at ha hm;have hlen:(g.take (a.toNat+1)).length=a.toNat+1:=by rw[List.length_take];omega
 have:=hk a.toNat (by omega) x hx (by rw[hL,hlen];omega);have e:imgL (g.take (a.toNat+1)) x=imgL g x:=by
  unfold imgL;refine List.map_congr_left λy hy=>?_;have q1:=hm y hy;have q2:=h3 y hy;rw[List.getD_eq_getElem?_getD,List.getElem?_take,if_pos (by omega),List.getD_eq_getElem?_getD]
 rwa [e] at this
end
section
set_option maxRecDepth 100000
set_option maxHeartbeats 2000000
open Go.RowKit
theorem jE_:Inf tX_ 3 (.int .i64 0) 1 8:=by unfold Inf;kernel_rfl
def aK_(b:Int)(g:List (List Int))(i:(List Int)->Option Bool)(self:Int->(List (List Int))->((List Int)->Option Bool)->(List Int)->Option (Bool×List Int)):Int->Int->(List Int)->Option (Lp (List Int) (List Int) (Bool×List Int)):=λ(j:Int)(c:Int)(s:List Int)=>
  (ix s b)>>=λk=>
  (st s b c)>>=λd=>
  (ck (b+1))>>=λf=>
  (self f g i d)>>=λa=>
  if a.1 then
    some (.ret (true,a.2))
  else
    some (.go a.2)
def ag_:Nat->Int->(List (List Int))->((List Int)->Option Bool)->(List Int)->Option (Bool×List Int)
  |0=>λ_ _ _ _=>none
  | fuel+1=>λa b g c=>
    if a==(b.length:Int) then
      (g c)>>=λi=>
      some (i,c)
    else
      (ix b a)>>=λj=>
      (forI (aK_ a b g (ag_ fuel)) j 0 c)>>=λd=>
      match d with
      | .inl f=>
        some (false,f)
      | .inr r'=>some r'
def gy_(oo o:Tg)(w a:World)(u:Value)(r:Bool×Yl):Ending->World->Prop:=λe w'=>∃(o':Tg),e=.returned (.bool r.1)∧Ow w.heap.size 3 13 o' w' u r.2∧Bs oo o' w w'∧Stp 13 o a o' w'
theorem jg_(fuel:Nat):∀(w:World)(y:World)(oo o:Tg)(hB:Bs oo o w y)(u:Int)(B:Nat)(I:Value)(J:Yk)(f:Bx w.heap.size 11 o y B 22 [I])(V:RdL zt w I J)(C:Nat)(L:Value)(S:Yl->Option Bool)(i:Bx w.heap.size 12 o y C 97 [L])(a7:FnV tX_ w L S)(m:Nat)(F:Value)(T:Yl)(g:Bx w.heap.size 14 o y m 41 [F])(M:Ow w.heap.size 3 13 o y F T)(q:Nat)(j:Bx w.heap.size 15 o y q 64 [.func (.func 181) #[] #[.pointer (some ⟨B,0,none⟩),.pointer (some ⟨C,0,none⟩),.pointer (some ⟨m,0,none⟩),.pointer (some ⟨q,0,none⟩)]])(r:Bool×Yl)(hF:ag_ fuel u J S T=some r),Calls tX_ 181 #[.int .i64 u,.pointer (some ⟨B,0,none⟩),.pointer (some ⟨C,0,none⟩),.pointer (some ⟨m,0,none⟩),.pointer (some ⟨q,0,none⟩)] y (gy_ oo o w y F r):=by
 induction fuel with
 |zero=>
  intro w y oo o hB u B I J f V C L S i a7 m F T g M q j r hF;unfold ag_ at hF;cases hF
 | succ fuel ih=>
  intro w y oo o hB u B I J f V C L S i a7 m F T g M q j r hF;unfold ag_ at hF;have hS:Stp 13 o y o y:=Stp.refl _ _ _;refine j_ (n:=34) (vs:=[ZI u,ZP B,ZP C,ZP m,ZP q]) Tryz.func181 rfl rfl ?_;refine Zq (Za rfl (Ze [(0,_),(1,_),(2,_),(3,_),(4,_)] (nx (b_ (Zq (Zm rfl (Zv (e_ rfl uj_ (f.cell rfl)) (Zv (J_ rfl V ub_) (Zv (cD_ rfl rfl) (Ze [(0,_),(1,_),(2,_),(3,_),(4,_),(12,_)] (nx ?_)))))))))));refine p_ rfl (λa8=>?_) (λa8=>?_)
  ·rw[if_pos a8] at hF;refine Zq (Zv (e_ rfl Tryz.isAgg97 (i.cell rfl)) (Zv (e_ rfl ug_ (g.cell rfl)) ?_));obtain⟨c9,a9,hF⟩:=a_ hF;refine Zo ?_;refine gl_ (x:=T) (vs:=[F]) (a7.keep hB.keeps) a9 ⟨_,rfl,M.z⟩ rfl ⟨rfl,trivial⟩ ?_;intro e3 d0;have U:=d0.stp 999 o;replace hS:=hS.trans (d0.stp 13 o);replace M:=M.stp U;replace f:=f.stp U;replace i:=i.stp U;replace g:=g.stp U;replace j:=j.stp U;replace hB:=hB.stp U;refine Za rfl (Ze [(6,_)] (nx (n_ (I_ ?_))));have d1:=Zj hF;subst d1;refine Zr vd_ [.bool c9] ?_;exact⟨o,rfl,M,hB,hS⟩
  ·replace hF:=ZF a8 hF;refine h_ (nx (b_ (Zq (Zv (e_ rfl uj_ (f.cell rfl)) (Zm rfl ?_)))));obtain⟨A,b0,hF⟩:=a_ hF;refine Zo ?_;refine wf_atZ V b0 hB rfl rfl ub_ uf_ ?_;intro e4 e5 d2 b1 b2;obtain⟨s,rfl,N⟩:=b2;refine Zv (e_ rfl ug_ (i_ b1)) (Zv (J_ rfl N tY_) (Zm rfl (Ze [(0,_),(3,_),(4,_),(19,_),(20,_),(21,_)] (nx ?_))));obtain⟨O,W,hF⟩:=a_ hF;refine A_ (λa c=>∃(v:Yl)(b:Tg),O=.inl v∧Fr a 34 []∧Bs oo b w c∧Stp 13 o y b c∧Bx w.heap.size 15 b c q 64 [.func (.func 181) #[] #[ZP B,ZP C,ZP m,ZP q]]∧Bx w.heap.size 14 b c m 41 [F]∧Ow w.heap.size 3 13 b c F v∧Bx w.heap.size 12 b c C 97 [L]∧Bx w.heap.size 11 b c B 22 [I]) (λa w'=>∃r',O=.inr r'∧bodyPost tX_ Tryz.f181 (gy_ oo o w y F r') .ret a w') ?_ ?_ ?_
   ·refine f_ ?_;refine z_ (λ(K:Nat) a c=>∃(d:Int)(v:Yl)(b:Tg),forI (aK_ u J S (ag_ fuel)) (A.drop d.toNat) d v=some O∧(A.drop d.toNat).length=K∧0<=d∧Fr a 34 [(0,ZI u),(3,ZP m),(4,ZP q),(19,s),(20,ZI (A.length:Int)),(21,ZI d)]∧Bs oo b w c∧Stp 13 o y b c∧Bx w.heap.size 15 b c q 64 [.func (.func 181) #[] #[ZP B,ZP C,ZP m,ZP q]]∧Bx w.heap.size 14 b c m 41 [F]∧Ow w.heap.size 3 13 b c F v∧Bx w.heap.size 12 b c C 97 [L]∧Bx w.heap.size 11 b c B 22 [I]) _ (λa ha=>⟨0,T,o,W,rfl,Int.le_refl 0,ha.sb,hB,hS,j,g,M,i,f⟩) ?_;rintro K24 a c ⟨d,v,b,X,b3,b4,ha,hB,hS,j,g,G,i,f⟩;by_cases H:d<(A.length:Int)
    ·obtain⟨b5,d3,Y,k,Z⟩:=R_ b4 H X;have hle:=N.len_le;dsimp only[aK_] at k;refine O_ ha ?_;refine Zq (Zv (u_ rfl rfl) (Ze [(0,_),(3,_),(4,_),(19,_),(20,_),(21,_),(22,_)] (nx (b_ ?_))));refine M_ (Zb (decide_eq_true H)) ?_;refine h_ (nx (b_ (f_ (Zq (Zo ?_)))));refine wf_atZ N Y hB rfl rfl tY_ tZ_ ?_;intro d4 d5 d6 b6 b7;cases b7
     refine Zv (e_ rfl Tryz.isAgg3 (i_ b6)) (Za rfl (Ze [(0,_),(3,_),(4,_),(8,_),(19,_),(20,_),(21,_)] (Zn (Zv (e_ rfl ug_ (g.cell rfl)) (Zm rfl (Zm rfl ?_))))));obtain⟨d7,a0,k⟩:=a_ k;refine Zo ?_;refine fs_ G a0 rfl rfl tY_ tZ_ ?_;intro d8 d9 b8 e0 b9;cases b9
     obtain⟨c0,a1,k⟩:=a_ k;refine am_ trivial ?_;refine cc_ G b8 a1 rfl (by decide) rfl rfl rfl tZ_ rfl ?_;intro c1 c2 D;replace hS:=hS.trans D;replace f:=f.stp D;replace i:=i.stp D;replace g:=g.stp D;replace j:=j.stp D;replace hB:=hB.stp D;refine Ze [(0,_),(3,_),(4,_),(19,_),(20,_),(21,_)] (Zn (Zv (e_ rfl wm_ (j.cell rfl)) (Zm rfl ?_)));obtain⟨a2,a3,k⟩:=a_ k;refine Zv (C_ rfl rfl a3) ?_;obtain⟨Q,a4,k⟩:=a_ k;refine Zo ?_;refine jn_ (vs:=[ZI a2]) (cap:=[ZP B,ZP C,ZP m,ZP q]) (ih w c1 oo b hB a2 B I J f V C L S i a7 m F c0 g c2 q j Q a4) wn_ rfl ⟨rfl,trivial⟩ ?_;rintro e1 e2 ⟨a5,rfl,a6,-,E⟩;refine⟨_,rfl,?_⟩;replace hS:=hS.trans E;replace f:=f.stp E;replace i:=i.stp E;replace g:=g.stp E;replace j:=j.stp E;replace hB:=hB.stp E;refine Ze [(0,_),(3,_),(4,_),(19,_),(20,_),(21,_),(32,_)] (nx ?_);refine p_ rfl (λR=>?_) (λR=>?_)
     ·rw[if_pos R] at k;refine Zq (Za rfl (Ze [(6,_)] (nx (n_ (aq_ (I_ (I_ (aq_ ?_))))))));refine cK_ ?_;have c3:=Zj k;subst c3;refine λa ha=>⟨_,Z,?_⟩;refine N_ (P:=tX_) (vs:=[.bool true]) vd_ ⟨rfl,trivial⟩ ?_ a ha;exact⟨a5,rfl,a6,hB,hS⟩
     ·replace k:=ZF R k;refine h_ (y_ (nx (d_ (Zv (C_ rfl rfl (F_ (by omega) (by omega))) (Zm rfl (Ze [(0,_),(3,_),(4,_),(19,_),(20,_),(21,_)] (x_ ?_)))))));have c4:=Zj k;subst c4;refine Zk [(0,_),(3,_),(4,_),(19,_),(20,_),(21,_)] ?_;intro a ha;exact⟨_,(by rw[<-b3];simp only[List.length_drop];omega),d+1,Q.2,a5,Z,rfl,by omega,ha,hB,hS,j,g,a6,i,f⟩
    ·have c5:=S_ H X;refine O_ ha ?_;refine Zq (Zv (u_ rfl rfl) (Ze [(0,_),(3,_),(4,_),(19,_),(20,_),(21,_),(22,_)] (nx (b_ ?_))));refine D_ (Zb (decide_eq_false H)) ?_;refine w_ ?_;refine m_ (m_ (Q_ ?_));refine s_ ?_;refine Zk [] ?_;intro a ha;exact⟨v,b,c5,ha,hB,hS,j,g,G,i,f⟩
   ·rintro a c ⟨v,b,rfl,ha,hB,hS,j,g,G,i,f⟩;dsimp only at hF;refine ap_k ha ?_;refine Zn (Za rfl (Ze [(6,_)] (nx (n_ ?_))));have c6:=Zj hF;subst c6;refine Zr vd_ [.bool false] ?_;exact⟨b,rfl,G,hB,hS⟩
   ·rintro a c ⟨r',rfl,c7⟩;dsimp only at hF;have c8:=Zj hF;subst c8;exact c7
def cX_(fuel:Nat)(c:List (List Int))(d:(List Int)->Option Bool):Option ((List Int)×Bool):=
  (mk (Rz.z:Int) (c.length:Int))>>=λb=>
  (ag_ fuel 0 c d b)>>=λa=>
  if !a.1 then
    some ([],false)
  else
    some (a.2,true)
def kn_(oo:Tg)(t:Nat)(w:World)(r:Yl×Bool):Ending->World->Prop:=λe w'=>∃(a:Value)(o':Tg),e=.returned (.tuple #[a,.bool r.2])∧Ow w.heap.size 3 t o' w' a r.1∧Keeps w w'∧∀b,b<w.heap.size->o' b=oo b
theorem hy_(fuel:Nat)(w:World)(oo:Tg)(t:Nat)(ht:2<=t)(z:Value)(K:Yk)(L:RdL zt w z K)(A:Value)(M:Yl->Option Bool)(V:FnV tX_ w A M)(r:Yl×Bool)(hF:cX_ fuel K M=some r):
    Calls tX_ 148 #[z,A] w (kn_ oo t w r):=by
 unfold cX_ at hF;have hB:Bs oo (col oo) w w:=Bs.start _ _;refine j_ (n:=16) (vs:=[z,A]) Tryz.func148 rfl rfl ?_;generalize col oo=o at*;refine Zq (Zo ?_);refine aD_ (o:=o) w.heap.size 11 hB.keeps.size (cs:=[z]) L.cells1 rfl ?_;intro W a4 u f X;replace hB:=hB.stp X;refine Zo ?_;refine aD_ (o:=W) w.heap.size 12 hB.keeps.size (cs:=[A]) V.cells1 rfl ?_;intro Y a5 v g B;replace f:=f.stp B;replace hB:=hB.stp B;refine Za rfl (Za rfl (Ze [(2,_),(3,_)] (Zn (Zv (e_ rfl uj_ (f.cell rfl)) (Zv (J_ rfl L ub_) ?_)))));obtain⟨N,C,hF⟩:=a_ hF;refine Zo ?_;refine hD_ (o:=Y) w.heap.size 13 hB.keeps.size C rfl rfl tY_ jE_ rfl (by decide) ?_;intro O Z k a x;replace f:=f.stp x;replace g:=g.stp x;replace hB:=hB.stp x;refine Zo ?_;refine aY_ (o:=O) w.heap.size 14 hB.keeps.size (cs:=[.slice none 0 0]) Tryz.zeroValue41 rfl ?_;intro D a0 c P m;replace a:=a.stp m;replace f:=f.stp m;replace g:=g.stp m;replace hB:=hB.stp m;refine am_ trivial ?_;refine cu_ P rfl rfl (of_decide_eq_true rfl) uf_ a.cells1 a.one1 ?_;intro Q b q;replace a:=a.stp q;replace f:=f.stp q;replace g:=g.stp q;replace hB:=hB.stp q;replace b:Bx w.heap.size 14 D Q c 41 [k]:=b;refine Ze [(2,_),(3,_),(6,_)] (Zn (Zo ?_));refine aY_ (o:=D) w.heap.size 15 hB.keeps.size (cs:=[.nilFunc]) Tryz.zeroValue64 rfl ?_;intro E a1 d R i;replace f:=f.stp i;replace g:=g.stp i;replace b:=b.stp i;replace a:=a.stp i;replace hB:=hB.stp i;refine Ze [(2,_),(3,_),(6,_),(7,_)] (Zn (Zv (gI_ (vs:=[ZP u,ZP v,ZP c,ZP d]) ⟨rfl,rfl,rfl,rfl,trivial⟩) ?_));refine am_ trivial ?_;refine cu_ R rfl rfl (of_decide_eq_true rfl) Tryz.sizeOf64 rfl rfl ?_;intro F s j;replace f:=f.stp j;replace g:=g.stp j;replace b:=b.stp j;replace a:=a.stp j;replace hB:=hB.stp j;replace s:Bx w.heap.size 15 E F d 64 [.func (.func 181) #[] #[ZP u,ZP v,ZP c,ZP d]]:=s;refine Ze [(6,_),(7,_)] (nx (b_ (Zq (Zv (e_ rfl wm_ (s.cell rfl)) ?_))));obtain⟨G,H,hF⟩:=a_ hF;refine Zo ?_;refine jn_ (vs:=[ZI 0]) (cap:=[ZP u,ZP v,ZP c,ZP d]) (jg_ fuel w F oo E hB 0 u z K f L v A M g V c k N b a d s G H) wn_ rfl ⟨rfl,trivial⟩ ?_;rintro a2 a3 ⟨I,rfl,S,-,J⟩;refine⟨_,rfl,?_⟩;replace b:=b.stp J;replace hB:=hB.stp J;refine Zv (bo_ rfl) (Ze [(6,_),(14,_)] (nx ?_));refine p_ rfl (λy=>?_) (λy=>?_)
 ·rw[if_pos y] at hF;refine Zq (Za rfl (Za rfl (Ze [(4,_),(5,_)] (nx (n_ (I_ ?_))))));have T:=Zj hF;subst T;refine Zr wo_ [.slice none 0 0,.bool false] ?_;exact⟨_,rt oo I w.heap.size 9 t,rfl,Ow.nil _ _ _ _ _,hB.keeps,ac_ _ _ _ _ _⟩
 ·replace hF:=ZF y hF;refine h_ (Zn (Zv (e_ rfl ug_ (b.cell rfl)) (Za rfl (Za rfl (Ze [(4,_),(5,_)] (nx (n_ ?_)))))));have U:=Zj hF;subst U;refine Zr wo_ [k,.bool true] ?_;exact⟨_,rt oo I w.heap.size 13 t,rfl,S.rt hB (by decide) t,hB.keeps,ac_ _ _ _ _ _⟩
end
section
def chP(lists:List (List Int))(g:List Int->Bool)(k:Nat)(lab:List Int):Prop:=∃m,m.length=lists.length∧m.take k=lab.take k∧(∀(i:Nat) L a,k<=i->lists[i]? =some L->m[i]? =some a->a∈L)∧g m=true
theorem sD_(lists:List (List Int))(G:List Int->Option Bool)(g:List Int->Bool)(hG:∀m,m.length=lists.length->G m=some (g m))(hl:lists.length<=1000):∀(d k fuel:Nat)(lab:List Int),k+d=lists.length->d<fuel->lab.length=lists.length->
  ∃b lab',ag_ fuel (k:Int) lists G lab=some (b,lab')∧lab'.length=lists.length∧lab'.take k=lab.take k∧(b=true<->chP lists g k lab)
 | 0,k,fuel,lab,hd,hf,hlab=>by
  obtain⟨q,rfl⟩:∃q,fuel=q+1:=⟨fuel-1,by omega⟩;refine⟨g lab,lab,?_,hlab,rfl,?_⟩
  ·unfold ag_;rw[if_pos (by simp;omega),hG lab hlab,sb]
  ·constructor
   ·intro h;exact⟨lab,hlab,rfl,λi L a hi hL _=>by have:=(List.getElem?_eq_some_iff.1 hL).1;omega,h⟩
   ·rintro⟨m,m1,m2,m3,m4⟩;rw[List.take_of_length_le (by omega),List.take_of_length_le (by omega)] at m2;rw[<-m2];exact m4
 | d+1,k,fuel,lab,hd,hf,hlab=>by
  obtain⟨q,rfl⟩:∃q,fuel=q+1:=⟨fuel-1,by omega⟩;have hk:k<lists.length:=by omega
  obtain⟨L,hL⟩:∃L,lists[k]? =some L:=⟨_,List.getElem?_eq_getElem hk⟩;have one:∀(a:Int)(s:List Int),s.length=lists.length->s.take k=lab.take k->∃b s',aK_ (k:Int) lists G (ag_ q) 0 a s=some (if b then .ret (true,s') else .go s')∧s'.length=lists.length∧s'.take k=lab.take k∧(b=true<->chP lists g (k+1) (s.set k a)):=λa s hs1 hs2=>by
   obtain⟨b,s',e1,e2,e3,e4⟩:=sD_ lists G g hG hl d (k+1) q (s.set k a) (by omega) (by omega) (by simpa using hs1);refine⟨b,s',?_,e2,?_,e4⟩
   ·unfold aK_;rw[ca_,List.getElem?_eq_getElem (show k<s.length by omega),sb,iW_ _ _ _ (show k<s.length by omega),sb,F_ (by omega) (by omega),sb,show((k:Int)+1)=((k+1:Nat):Int) by omega,e1,sb];cases b<;>rfl
   ·have:=congrArg (List.take k) e3;rw[List.take_take,List.take_take,Nat.min_eq_left (by omega),List.take_set_of_le (Nat.le_refl _)] at this;rw[this,hs2]
  have chs:∀(a:Int)(s:List Int),s.length=lists.length->s.take k=lab.take k->(chP lists g (k+1) (s.set k a)<->∃m,m.length=lists.length∧m.take k=lab.take k∧m[k]? =some a∧(∀(i:Nat) L a,k+1<=i->lists[i]? =some L->m[i]? =some a->a∈L)∧g m=true):=λa s hs1 hs2=>by
   have ht:(s.set k a).take (k+1)=lab.take k++[a]:=by
    rw[List.take_add_one,List.take_set_of_le (Nat.le_refl _),hs2,List.getElem?_set_self (by omega)];rfl
   constructor
   ·rintro⟨m,m1,m2,m3,m4⟩;rw[ht,List.take_add_one] at m2;have hm:m[k]? =some m[k]:=List.getElem?_eq_getElem (by omega);rw[hm] at m2;obtain⟨u1,u2⟩:=List.append_inj m2 (by rw[List.length_take,List.length_take];omega);exact⟨m,m1,u1,by rw[hm];simpa using u2,m3,m4⟩
   ·rintro⟨m,m1,m2,m3,m4,m5⟩;exact⟨m,m1,by rw[ht,List.take_add_one,m2,m3];rfl,m4,m5⟩
  have loop:∀(xs pre:List Int)(i:Int)(s:List Int),pre++xs=L->s.length=lists.length->s.take k=lab.take k->(¬∃a∈pre,chP lists g (k+1) (lab.set k a))->
    ∃z,forI (aK_ (k:Int) lists G (ag_ q)) xs i s=some z∧((∃s',z=.inl s'∧s'.length=lists.length∧s'.take k=lab.take k∧¬∃a∈L,chP lists g (k+1) (lab.set k a))∨(∃s',z=.inr (true,s')∧s'.length=lists.length∧s'.take k=lab.take k∧∃a∈L,chP lists g (k+1) (lab.set k a))):=by
   intro xs
   induction xs with
   |nil=>
    intro pre i s hp h1 h2 h3;rw[List.append_nil] at hp;subst hp;exact⟨_,rfl,.inl ⟨s,rfl,h1,h2,h3⟩⟩
   | cons x xs ih=>
    intro pre i s hp h1 h2 h3;obtain⟨b,s',e1,e2,e3,e4⟩:=one x s h1 h2;have e1':aK_ (k:Int) lists G (ag_ q) i x s=some (if b then .ret (true,s') else .go s'):=e1;have hxL:x∈L:=by rw[<-hp];simp
    have e5:b=true<->chP lists g (k+1) (lab.set k x):=by rw[e4,chs x s h1 h2,chs x lab hlab rfl]
    simp only[forI,e1'];cases b with
    |true=>exact⟨_,rfl,.inr ⟨s',rfl,e2,e3,x,hxL,e5.1 rfl⟩⟩
    |false=>
     refine ih (pre++[x]) (i+1) s' (by rw[<-hp];simp) e2 e3 ?_;rintro⟨a,ha,hca⟩;rcases List.mem_append.1 ha with ha|ha
     ·exact h3 ⟨a,ha,hca⟩
     ·rw[List.mem_singleton.1 ha] at hca;exact absurd (e5.2 hca) (by simp)
  obtain⟨z,z1,z2⟩:=loop L [] 0 lab (by simp) hlab rfl (by simp);have hall:chP lists g k lab<->∃a∈L,chP lists g (k+1) (lab.set k a):=by
   constructor
   ·rintro⟨m,m1,m2,m3,m4⟩;have hm:m[k]? =some m[k]:=List.getElem?_eq_getElem (by omega);exact⟨m[k],m3 k L _ (Nat.le_refl _) hL hm,(chs _ lab hlab rfl).2 ⟨m,m1,m2,hm,λi L a hi=>m3 i L a (by omega),m4⟩⟩
   ·rintro⟨a,ha,hc⟩;obtain⟨m,m1,m2,m3,m4,m5⟩:=(chs a lab hlab rfl).1 hc;refine⟨m,m1,m2,λi L' b hi hL' hb=>?_,m5⟩;by_cases e:i=k
    ·subst e;rw[hL] at hL';cases hL';rw[m3] at hb;cases hb;exact ha
    ·exact m4 i L' b (by omega) hL' hb
  have hhead:ag_ (q+1) (k:Int) lists G lab=((forI (aK_ (k:Int) lists G (ag_ q)) L 0 lab)>>=λq20=>match q20 with| .inl y15=>some (false,y15)| .inr r'=>some r'):=by
   conv=>lhs;unfold ag_
   rw[if_neg (by simp;omega),ca_,hL,sb];all_goals rfl
  rw[hhead,z1,sb,hall];rcases z2 with⟨s',rfl,a1,a2,a3⟩|⟨s',rfl,a1,a2,a3⟩
  ·exact⟨false,s',rfl,a1,a2,by simpa using a3⟩
  ·exact⟨true,s',rfl,a1,a2,by simpa using a3⟩
theorem hO_(fuel:Nat)(lists:List (List Int))(G:List Int->Option Bool)(g:List Int->Bool)(hG:∀m,m.length=lists.length->G m=some (g m))(hl:lists.length<=1000)(hf:lists.length<fuel):
  ∃l b,cX_ fuel lists G=some (l,b)∧(b=true<->∃m,m.length=lists.length∧(∀(i:Nat) L a,lists[i]? =some L->m[i]? =some a->a∈L)∧g m=true):=by
 obtain⟨b,lab',e1,e2,e3,e4⟩:=sD_ lists G g hG hl lists.length 0 fuel (List.replicate lists.length 0) (by omega) hf (by simp);rw[show((0:Nat):Int)=0 from rfl] at e1;have hm:mk (Rz.z:Int) (lists.length:Int)=some (List.replicate lists.length 0):=by
  unfold mk;rw[if_pos (by omega)];rfl
 have hc:chP lists g 0 (List.replicate lists.length 0)<->∃m,m.length=lists.length∧(∀(i:Nat) L a,lists[i]? =some L->m[i]? =some a->a∈L)∧g m=true:=
  ⟨λ⟨m,m1,_,m3,m4⟩=>⟨m,m1,λi L a=>m3 i L a (Nat.zero_le _),m4⟩,λ⟨m,m1,m3,m4⟩=>⟨m,m1,by simp,λi L a _=>m3 i L a,m4⟩⟩
 rw[hc] at e4;unfold cX_;rw[hm,sb,e1,sb];cases b with
 |true=>exact⟨lab',true,by rfl,e4⟩
 |false=>exact⟨[],false,by rfl,e4⟩
end
end Go.Proofs.YtdbbeldgdgonfaaGreat
