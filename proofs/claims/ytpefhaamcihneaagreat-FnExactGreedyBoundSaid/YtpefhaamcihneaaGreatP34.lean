/- Part 34 of what this claim rests on (pack.py). -/
import Derived.Test.YtpefhaamcihneaaGreatP31
import Derived.Test.YtpefhaamcihneaaGreatP33
namespace Go.Proofs.YtpefhaamcihneaaGreat
open Tryz renaming prog→Gz, underlying51→GA, results47→IT, sizeOf3→GB, isAgg3→GC, underlying22→GE, results26→IU, sizeOf51→GH, isAgg51→GJ, underlying31→GF, results9→HB, sizeOf22→GI, isAgg22→GK, call26→Ie, underlying26→GL, results25→IV, sizeOf31→GD, isAgg31→GG, results49→La, results30→Lb, results29→HH, call30→If
set_option linter.unusedSimpArgs false
set_option linter.unusedVariables false
set_option maxRecDepth 100000
set_option maxHeartbeats 2000000
open Go.RowKit
theorem vI{x:List Int}{i:Nat}{a b:Int}(h:x[i]? =some a):(x.set i b).Perm (b::x.erase a):=by
 obtain⟨hi,d⟩:=Y_.1 h;have f:x.set i b=x.take i++b::x.drop (i+1):=by rw[List.set_eq_take_append_cons_drop,if_pos hi]
 have e:x=x.take i++a::x.drop (i+1):=by rw[<-d,<-dt hi,mx]
 have g:(a::x.erase a).Perm (a::(x.take i++x.drop (i+1))):=by
  refine (List.perm_cons_erase (by rw[<-d];exact aV hi)).symm.trans ?_
  conv=>lhs;rw[e]
  exact yj
 rw[f];exact yj.trans ((List.Perm.cons_inv g).symm.cons b)
theorem vR{α:Type}{l:List α}(p:α->Bool):l.findSome? (λx=>if p x=true then none else some false)=if l.all p=true then none else some false:=by
 induction l with
 |nil=>rfl
 |cons x l ih=>
  rw[cH,qY];cases p x<;>simp[ih]
theorem EI(x:List Int)(a b:Int):(srt (b::x.erase a)).length<=x.length+1:=by
 rw[(cA _).length_eq,ao];have:=List.length_erase_le (a:=a) (l:=x);omega
def mayB(l:List (List Int))(a b:Int):Bool:=l.all λx=>if a∈x then decide (srt (b::x.erase a)∈l) else true
theorem wC(d:Nat)(A:1000000000<=d)(l:List (List Int))(m n:Int)(q:confsB l m n=true)(f:m<=4)(w:l.length<=100000000)(a b:Int):jy d l a b=some (mayB l a b):=by
 have s:∀x∈l,∀j,lu d l a b j x ()=some (if(if a∈x then decide (srt (b::x.erase a)∈l) else true)=true then .go () else .ret false):=λx p j=>by
  have t:=((cx q).1 x p).1;unfold lu;rw[eg (λ_ y=>if y=a∧¬srt (b::x.erase a)∈l then some false else none) x (λi y k _=>by
   unfold nr;by_cases e:y=a
   ·subst e;have hi:=(Y_.1 k).1;rw[if_neg sy,dm x om,sb,aq,k,sb,cC x i b hi,sb,jd _ d (by rw[cG];omega) (by rw[cG];omega),sb,<-iM,fN (vI k),fU l _ (by have:=EI x y b;omega),sb];by_cases f:srt (b::x.erase y)∈l
    ·rw[if_neg (sh f),if_neg (sh f)];rfl
    ·rw[if_pos (sh f),if_pos ⟨rfl,f⟩];rfl
   ·rw[if_pos (su e),if_neg (sh e)];rfl),sb]
  by_cases h:a∈x
  ·by_cases f:srt (b::x.erase a)∈l
   ·have g:firstP (λ_ y=>if y=a∧¬srt (b::x.erase a)∈l then some false else none) x 0=none:=cL.2 λi y _=>by rw[if_neg (sh f)]
    rw[g,if_pos h,decide_eq_true f];rfl
   ·cases g:firstP (λ_ y=>if y=a∧¬srt (b::x.erase a)∈l then some false else none) x 0 with
    |none=>
     obtain⟨i,hi⟩:=bS.1 h;have:=cL.1 g i a hi;rw[if_pos ⟨rfl,f⟩] at this;cases this
    | some r=>
     obtain⟨i,y,v,o⟩:=dJ g;split at o
     ·cases o
      rw[if_pos h,decide_eq_false f];rfl
     ·cases o
  ·have g:firstP (λ_ y=>if y=a∧¬srt (b::x.erase a)∈l then some false else none) x 0=none:=cL.2 λi y k=>by
    rw[if_neg λ⟨e,_⟩=>h (by rw[<-e];exact aE k)]
   rw[g,if_neg h];rfl
 unfold jy;rw[nM (λx=>if(if a∈x then decide (srt (b::x.erase a)∈l) else true)=true then none else some false) l 0 (λx p j=>by rw[s x p j];cases (if a∈x then decide (srt (b::x.erase a)∈l) else true)<;>rfl),sb];have u:=vR (l:=l) (λx=>if a∈x then decide (srt (b::x.erase a)∈l) else true);unfold mayB;rw[u];cases l.all λx=>if a∈x then decide (srt (b::x.erase a)∈l) else true<;>rfl
theorem uZ(x:List Int)(a:Int)(m:x.length<=1000000):∃r,gx x a=some r∧((a ∉ x∧r= -1)∨∃i:Nat,r=i∧x[i]? =some a):=by
 unfold gx;rw[n_ om om,sb,U_];rw[lq (λk y=>if a=y then some (k:Int) else none) x (λj y d _=>by
  unfold mM;rw[aq,d,sb];by_cases e:a=y
  ·rw[if_pos (sh e),if_pos e];rfl
  ·rw[if_neg (su e),if_neg e];rfl),sb]
 cases h:firstP (λk y=>if a=y then some (k:Int) else none) x 0 with
 |none=>
  refine⟨-1,rfl,.inl ⟨λg=>?_,rfl⟩⟩;obtain⟨j,d⟩:=bS.1 g;have:=cL.1 h j a d;simp at this
 | some r=>
  obtain⟨j,y,f,b⟩:=dJ h;split at b
  ·rename_i e;cases b
   subst e;exact⟨_,rfl,.inr ⟨0+j,rfl,by rw[an];exact f⟩⟩
  ·cases b
theorem tM(d:Nat)(u:1000000000<=d)(l:List (List Int))(m n:Int)(o:confsB l m n=true)(f:m<=4)(t:l.length<=100000000)(a b:Int):iY d l a b=some (mayB l a b):=by
 have p:∀x∈l,∀j,kJ d l a b j x ()=some (if(if a∈x then decide (srt (b::x.erase a)∈l) else true)=true then .go () else .ret false):=λx k j=>by
  have g:=((cx o).1 x k).1;unfold kJ;obtain⟨r,q,h⟩:=uZ x a om;rw[q,sb];rcases h with⟨e,rfl⟩|⟨i,rfl,e⟩
  ·rw[if_neg sy,if_neg e];rfl
  ·have hi:=(Y_.1 e).1;rw[if_pos sy,lO x om,sb,aq,e,sb,cC x i b hi,sb,nJ d l m n o _ (by rw[cG];exact g) om (by rw[cG];omega) om,sb,fN (vI e),if_pos (aE e)];by_cases f:srt (b::x.erase a)∈l
   ·rw[if_neg (sh f),decide_eq_true f];rfl
   ·rw[if_pos (sh f),decide_eq_false f];rfl
 unfold iY;rw[nM (λx=>if(if a∈x then decide (srt (b::x.erase a)∈l) else true)=true then none else some false) l 0 (λx k j=>by rw[p x k j];cases (if a∈x then decide (srt (b::x.erase a)∈l) else true)<;>rfl),sb];have s:=vR (l:=l) (λx=>if a∈x then decide (srt (b::x.erase a)∈l) else true);unfold mayB;rw[s];cases l.all λx=>if a∈x then decide (srt (b::x.erase a)∈l) else true<;>rfl
def weakAt(p:c_)(a b:Nat):Bool:=a !=b&&mayB p.Nodes a b&&mayB p.Edges a b
def weakO(p:c_):Option Nat:=(List.range p.Labels.toNat).find? λa=>(List.range p.Labels.toNat).any λb=>weakAt p a b
def weakV(p:c_):Int:=match weakO p with|none=> -1|some a=>a
theorem findR{n:Nat}{P:Nat->Bool}{r:Int}:∀(d j:Nat),(List.range' j d).findSome? (λb=>if P b=true then some r else none)=if(List.range' j d).any P=true then some r else none
 |0,j=>rfl
 |d+1,j=>by
  rw[mC,cH,List.any_cons];have:=findR (n:=n) (P:=P) (r:=r) d (j+1);cases h:P j
  ·rw[if_neg sy,Bool.false_or];exact this
  ·rw[if_pos rfl,Bool.true_or,if_pos rfl]
theorem findW{P:Nat->Bool}:∀(d j:Nat),(List.range' j d).findSome? (λa=>if P a=true then some (a:Int) else none)=((List.range' j d).find? P).map λa=>(a:Int)
 |0,j=>rfl
 |d+1,j=>by
  rw[mC,cH,List.find?_cons];have:=findW (P:=P) d (j+1);cases h:P j
  ·rw[if_neg sy];exact this
  ·rw[if_pos rfl];rfl
theorem tY(d:Nat)(j:1000000000<=d)(p:c_)(f:okT p):jb d p=some (weakV p):=by
 obtain⟨v,q,t,s,m,o⟩:=aO f.1;have k:∀a b:Nat,iG d p a b ()=some (if weakAt p a b=true then .ret (a:Int) else .go ()):=λa b=>by
  unfold iG weakAt;rw[tM d j p.Nodes _ _ m om f.2.1,tM d j p.Edges _ _ o om f.2.2];by_cases e:a=b
  ·subst e;rw[if_neg sy,sb,if_neg sy,if_neg sy]
  ·rw[if_pos (by simpa using (λh=>e om:¬((a:Int)=b))),sb];cases g:mayB p.Nodes a b
   ·rw[if_neg sy,sb,if_neg sy,if_neg sy]
   ·rw[if_pos rfl,sb,sb];cases u:mayB p.Edges a b
    ·rw[if_neg sy,if_neg sy]
    ·rw[if_pos rfl,if_pos (su e)]
 have g:∀a:Nat,a<p.Labels.toNat->iA d p a ()=some (if((List.range p.Labels.toNat).any λb=>weakAt p a b)=true then .ret (a:Int) else .go ()):=λa i=>by
  unfold iA;rw[n_ om om,sb];have:=nG () (λb=>if weakAt p a b=true then some (a:Int) else none) p.Labels.toNat (body:=iG d p a) (λb _=>by rw[k];cases weakAt p a b<;>rfl) p.Labels.toNat 0 om;rw[show((0:Nat):Int)=0 from rfl,findR (n:=0),<-jY] at this;rw[this,sb];cases (List.range p.Labels.toNat).any λb=>weakAt p a b<;>rfl
 unfold jb;rw[n_ om om,sb];have:=nG () (λa=>if((List.range p.Labels.toNat).any λb=>weakAt p a b)=true then some (a:Int) else none) p.Labels.toNat (body:=iA d p) (λa i=>by rw[g a i];cases (List.range p.Labels.toNat).any λb=>weakAt p a b<;>rfl) p.Labels.toNat 0 om;rw[show((0:Nat):Int)=0 from rfl,findW (P:=λa=>(List.range p.Labels.toNat).any λb=>weakAt p a b),<-jY] at this;rw[this,sb];unfold weakV weakO;cases (List.range p.Labels.toNat).find? λa=>(List.range p.Labels.toNat).any λb=>weakAt p a b<;>rfl
theorem pu{ρ:Type}{f:Int->Option (Lp Int Int ρ)}(F:Nat->Option ρ)(n:Nat)(h:∀j:Nat,j<n->f j=some (match F j with|none=> .go ((j+1:Nat):Int)|some r=> .ret r))(b:f n=some (.out (n:Int))):
  ∀(d j a:Nat),j+d=n->d<a->loopF f a (j:Int)=some (match (List.range' j d).findSome? F with|none=> .inl (n:Int)|some r=> .inr r)
 |0,j,a,i,k=>by
  obtain⟨m,rfl⟩:∃m,a=m+1:=⟨a-1,om⟩;obtain rfl:j=n:=om;rw[dK b];rfl
 | d+1,j,a,i,k=>by
  obtain⟨m,rfl⟩:∃m,a=m+1:=⟨a-1,om⟩;have e:=h j om;rw[mC,cH];cases g:F j with
  |none=>
   rw[g] at e;rw[jB e];exact pu F n h b d (j+1) m om om
  |some r=>
   rw[g] at e;rw[uj e]
theorem vT(d:Nat)(k:1000000000<=d)(p:c_)(g:okT p):jt d p=some (weakV p):=by
 obtain⟨y,t,v,u,q,s⟩:=aO g.1;have o:∀a b:Nat,b<p.Labels.toNat->fI d p a b=some (if weakAt p a b=true then .ret (a:Int) else .go ((b+1:Nat):Int)):=λa b m=>by
  unfold fI weakAt;rw[if_pos (by simp;omega),wC d k p.Nodes _ _ q om g.2.1,wC d k p.Edges _ _ s om g.2.2,n_ om om];by_cases e:a=b
  ·subst e;rw[if_neg sy,sb,if_neg sy,if_neg sy];rfl
  ·rw[if_pos (by simpa using (λh=>e om:¬((a:Int)=b))),sb];cases i:mayB p.Nodes a b
   ·rw[if_neg sy,sb,if_neg sy,if_neg sy];rfl
   ·rw[if_pos rfl,sb,sb];cases x:mayB p.Edges a b
    ·rw[if_neg sy,if_neg sy];rfl
    ·rw[if_pos rfl,if_pos (su e)]
 have i:∀a:Nat,a<p.Labels.toNat->fJ d p a=some (if((List.range p.Labels.toNat).any λb=>weakAt p a b)=true then .ret (a:Int) else .go ((a+1:Nat):Int)):=λa j=>by
  unfold fJ
  have:=pu (λb=>if weakAt p a b=true then some (a:Int) else none) p.Labels.toNat (f:=fI d p a) (λb m=>by rw[o a b m];cases weakAt p a b<;>rfl)
   (by unfold fI;rw[if_neg (by simp;omega)]) p.Labels.toNat 0 d om om
  rw[show((0:Nat):Int)=0 from rfl,findR (n:=0),<-jY] at this;rw[if_pos (by simp;omega),this,sb];cases (List.range p.Labels.toNat).any λb=>weakAt p a b
  ·rw[if_neg sy,if_neg sy];simp only
   rw[n_ om om,sb];rfl
  ·rfl
 unfold jt
 have:=pu (λa=>if((List.range p.Labels.toNat).any λb=>weakAt p a b)=true then some (a:Int) else none) p.Labels.toNat (f:=fJ d p) (λa j=>by rw[i a j];cases (List.range p.Labels.toNat).any λb=>weakAt p a b<;>rfl)
  (by unfold fJ;rw[if_neg (by simp;omega)]) p.Labels.toNat 0 d om om
 rw[show((0:Nat):Int)=0 from rfl,findW (P:=λa=>(List.range p.Labels.toNat).any λb=>weakAt p a b),<-jY] at this;rw[this,sb];unfold weakV weakO;cases (List.range p.Labels.toNat).find? λa=>(List.range p.Labels.toNat).any λb=>weakAt p a b<;>rfl
section
theorem AS(x:List Int)(a:Int)(d:x.length<=1000000):kg x a=some (decide (a∈x)):=by
 obtain⟨r,b,h⟩:=uZ x a d;unfold kg;rw[b,sb];rcases h with⟨h,rfl⟩|⟨i,rfl,h⟩
 ·rw[decide_eq_false h];rfl
 ·rw[decide_eq_true (aE h)];exact congrArg some (decide_eq_true om)
def toK(n:Nat)(K:List Int):List Int:=match forI eG K 0 (List.replicate n (-1)) with|some (.inl t)=>t|_=>[]
theorem qM(n:Nat)(K:List Int)(i:∀a∈K,0<=a∧a<n):
  forI eG K 0 (List.replicate n (-1))=some (.inl (toK n K))∧(toK n K).length=n∧∀y∈toK n K,-1<=y∧y<K.length:=by
 obtain⟨t,d,o,q⟩:=lH (body:=eG) (λj t=>t.length=n∧∀y∈t,-1<=y∧y<(K.length:Int)) K (List.replicate n (-1)) ⟨sy,λy b=>by
   have:=(yt.1 b).2;omega⟩ (λj a t f ⟨g,p⟩=>by
  have u:=i a (aE f);have s:=(Y_.1 f).1;obtain⟨m,rfl⟩:∃m:Nat,a=m:=⟨a.toNat,om⟩;refine⟨t.set m j,?_,by rw[cG];exact g,λy b=>?_⟩
  ·unfold eG;rw[aq,x_ om,sb,cC t m _ om,sb]
  ·rcases yr b with h|h
   ·exact p y h
   ·omega)
 have e:toK n K=t:=by unfold toK;rw[d]
 rw[e];exact⟨d,o,q⟩
def keepG(t x:List Int):List (List Int):=if(-1:Int)∈imgL t x then [] else [srt (imgL t x)]
def keepR(t:List Int)(l:List (List Int)):List (List Int):=sxd (l.flatMap (keepG t))
theorem Cy(t x:List Int):(keepG t x).length<=1:=by unfold keepG;split<;>simp
theorem nI(t:List Int):∀l:List (List Int),(l.flatMap (keepG t)).length<=l.length
 |[]=>by simp
 |x::l=>by
  have b:=Cy t x;have a:=nI t l;rw[eA,ar,ao];omega
theorem vF{t x:List Int}(b:∀y∈x,0<=y∧y<t.length){z:Int}(a:z∈imgL t x):z∈t:=by
 obtain⟨y,d,rfl⟩:=aM.1 a;have:=b y d;rw[ax,x_ om,dT];exact aV _
theorem lT(t x:List Int):(imgL t x).length=x.length:=by unfold imgL;simp
section
variable {l:List (List Int)} {m:Int} {n:Nat} {t:List Int} {k:Int}
theorem vk(h:confsB l m n=true)(p:t.length=n)(j:∀y∈t,-1<=y∧y<k){x z:List Int}(i:x∈l)(f:z∈keepG t x):(z.length:Int)=m∧z.Pairwise (·<=·)∧∀y∈z,0<=y∧y<=k-1:=by
 obtain⟨a,-,b⟩:=(cx h).1 x i;unfold keepG at f;split at f
 ·cases f
 ·rename_i o;rw[be] at f;subst f;refine⟨by rw[(cA _).length_eq,lT];exact a,fP _,λy d=>?_⟩;have d:=(cA _).mem_iff.1 d;have:=j y (vF (λy d=>by have:=b y d;omega) d);have g:y≠-1:=λe=>o (by rw[<-e];exact d);omega
theorem uq(g:confsB l m n=true)(f:t.length=n)(i:∀y∈t,-1<=y∧y<k):confsB (keepR t l) m k=true:=by
 have b:∀z∈l.flatMap (keepG t),(z.length:Int)=m∧z.Pairwise (·<=·)∧∀y∈z,0<=y∧y<=k-1:=λz a=>by
  obtain⟨x,h,a⟩:=oX.1 a;exact vk g f i h a
 obtain⟨j,e⟩:=mo (d:=m.toNat) (xs:=l.flatMap (keepG t)) λz a=>by have:=(b z a).1;omega
 exact pT (λz a=>b z ((e z).1 a)) j
theorem vc(t:List Int)(l:List (List Int)):(keepR t l).length<=l.length:=by
 have a:=oh (l.flatMap (keepG t)) [];have b:=nI t l;unfold keepR sxd;rw[bD] at a;omega
theorem uO(g:confsB l m n=true)(v:m<=4)(w:n<=8)(u:t.length=n)(s:l.length<=100000000):je l t=some (keepR t l):=by
 unfold je;rw[eh (keepG t) 100000000 l 0 [] (by have:=nI t l;rw[bD];omega) (λx f j o e=>by
  obtain⟨a,-,b⟩:=(cx g).1 x f;have hi:forI (iB t) x 0 []=some (.inl (imgL t x)):=by
   have:=eh (body:=iB t) (λy=>[t.getD y.toNat 0]) 100 x 0 [] (by rw[<-Gx,aA,bD];omega) (λy p j o e=>by
    have:=b y p;unfold iB;obtain⟨q,rfl⟩:∃q:Nat,y=q:=⟨y.toNat,om⟩;rw[aq,x_ om,sb];unfold push;rw[if_pos (by simp at e;omega),sb,U_,ax,x_ om,dT])
   rw[this,bz];congr 2;unfold imgL;rw[Gx]
  unfold mX;rw[hi,sb];simp only
  have i:=lT t x;rw[AS _ _ om,sb];unfold keepG;by_cases h:(-1:Int)∈imgL t x
  ·rw[decide_eq_true h,if_neg sy,if_pos h,bm]
  ·rw[decide_eq_false h,if_pos (by rfl),if_neg h];unfold srtO push;unfold keepG at e;rw[if_neg h,bn] at e;rw[if_pos om,sb,if_pos om,sb]),sb]
 simp only
 rw[bz,qp (L:=m.toNat) (by have:=nI t l;omega) om (λz d=>by
  obtain⟨x,f,d⟩:=oX.1 d;unfold keepG at d;split at d
  ·cases d
  ·rw[be] at d;subst d;have:=((cx g).1 x f).1;rw[(cA _).length_eq,lT];omega),sb]
 rfl
theorem DZ{z:List Int}(d:z.Pairwise (·<=·))(b:1<=z.length)(f:∀y∈z,-1<=y):∃c,ix z 0=some c∧(0<=c<->(-1:Int) ∉ z):=by
 cases z with
 |nil=>simp at b
 | cons c z=>
  refine⟨c,by rw[show(0:Int)=((0:Nat):Int) from rfl,aq];rfl,λh a=>?_,λh=>?_⟩
  ·rcases I_.1 a with e|a
   ·omega
   ·have:=(cU.1 d).1 _ a;omega
  ·have:=f c sy;have:c≠-1:=λe=>h (by rw[e];simp);omega
theorem wW(e:Nat)(T:1000000000<=e)(w:confsB l m n=true)(L:1<=m)(R:m<=4)(S:n<=8)(I:t.length=n)(B:∀y∈t,-1<=y∧y<k)(D:k<=8)(N:l.length<=100000000):jA e l t=some (keepR t l):=by
 have p:∀x∈l,∀z∈keepG t x,smallD m.toNat z:=λx i z p=>by
  obtain⟨M,Q,J⟩:=vk w I B i p;exact⟨om,λy g=>by have:=J y g;omega⟩
 obtain⟨s',E,K,-,-⟩:=lH (body:=lr e t) (λj s=>s=((l.take j).flatMap (keepG t)).foldl insS []∧s.length<=j∧∀z∈s,smallD m.toNat z) l [] ⟨sy,sy,sy⟩ (λj x s o ⟨G,O,v⟩=>by
  have i:=aE o;have H:=(Y_.1 o).1;obtain⟨a,-,b⟩:=(cx w).1 x i;have F:=lT t x;have C:∀y∈x,0<=y∧y<t.length:=λy g=>by have:=b y g;omega
  obtain⟨c,u,f⟩:=DZ (fP (imgL t x)) (by rw[(cA _).length_eq];omega) (λy g=>(B y (vF C ((cA _).mem_iff.1 g))).1);rw[(cA _).mem_iff] at f;unfold lr;rw[(pt t x om C om).1,sb,jd _ e om om,sb,<-iM,u,sb,dM o,List.flatMap_append,List.foldl_append,<-G,List.flatMap_singleton];unfold keepG;by_cases h:(-1:Int)∈imgL t x
  ·rw[if_neg (by simpa using λq=>(f.1 q) h),if_pos h];exact⟨_,rfl,rfl,om,v⟩
  ·have A:smallD m.toNat (srt (imgL t x)):=p x i _ (by unfold keepG;rw[if_neg h];simp);rw[if_pos (by simpa using f.2 h),if_neg h,sX (d:=m.toNat) om e s _ om om v A,sb];exact⟨_,rfl,rfl,by have:=oc (srt (imgL t x)) s;omega,tp v A⟩)
 unfold jA;rw[E,sb];simp only
 rw[K,cc];rfl
end
def keepP(p:c_)(K:List Int):c_:=⟨K.length,p.Degree,keepR (toK p.Labels.toNat K) p.Nodes,keepR (toK p.Labels.toNat K) p.Edges⟩
theorem Dt{p:c_}(b:okT p){K:List Int}(g:∀a∈K,0<=a∧a<p.Labels)(s:1<=K.length)(B:K.length<=8):okT (keepP p K):=by
 obtain⟨C,u,A,y,i,j⟩:=aO b.1;obtain⟨-,d,f⟩:=qM p.Labels.toNat K λa h=>by have:=g a h;omega
 have v:=b.2.1;have x:=b.2.2;have w:=vc (toK p.Labels.toNat K) p.Nodes;have D:=vc (toK p.Labels.toNat K) p.Edges;refine⟨?_,by unfold keepP;simp only;omega,by unfold keepP;simp only;omega⟩;have e:p.Labels=(p.Labels.toNat:Int):=om;have o:=uq (n:=p.Labels.toNat) (k:=K.length) (by rw[<-e];exact i) d f;have q:=uq (n:=p.Labels.toNat) (k:=K.length) (by rw[<-e];exact j) d f;unfold probB keepP;simp only
 rw[o,q,cr.2 om,cr.2 om];rfl
theorem Ap(p:c_)(b:okT p)(K:List Int)(i:∀a∈K,0<=a∧a<p.Labels):kP p K=some (keepP p K):=by
 obtain⟨v,s,q,u,h,f⟩:=aO b.1;obtain⟨g,d,o⟩:=qM p.Labels.toNat K λa j=>by have:=i a j;omega
 have e:p.Labels=(p.Labels.toNat:Int):=om;unfold kP repO;simp only
 rw[if_pos om,sb,g,sb];simp only
 rw[uO (n:=p.Labels.toNat) (by rw[<-e];exact h) om om d b.2.1,sb,uO (n:=p.Labels.toNat) (by rw[<-e];exact f) om om d b.2.2,sb];rfl
theorem CS(b:Nat)(h:1000000000<=b)(p:c_)(d:okT p)(K:List Int)(s:∀a∈K,0<=a∧a<p.Labels)(C:K.length<=8):lJ b p K=some (keepP p K):=by
 obtain⟨D,y,B,A,v,x⟩:=aO d.1;obtain⟨q,f,o⟩:=qM p.Labels.toNat K λa u=>by have:=s a u;omega
 have e:p.Labels=(p.Labels.toNat:Int):=om;have g:=dj (ρ:=c_) (body:=ld) (λj=>List.replicate j (-1:Int)++List.replicate (p.Labels.toNat-j) (0:Int)) p.Labels.toNat (λj w=>by
  unfold ld;have i:(List.replicate j (-1:Int)++List.replicate (p.Labels.toNat-j) (0:Int)).length=p.Labels.toNat:=by simp;omega
  rw[aq,x_ om,sb,cC _ j _ om,sb];congr 2;rw[show p.Labels.toNat-j=(p.Labels.toNat-(j+1))+1 by omega,mu,yc _ _ sy,cd,fh,rb,xN,bC];rfl)
 unfold lJ mk;rw[if_pos om,sb];simp only[cd];rw[n_ om om,sb,U_];simp only[du,mA,bz,fh,bm] at g;rw[show(Rz.z:Int)=0 from rfl,g,sb];simp only
 rw[show ne=eG from rfl,q,sb];simp only
 rw[wW (n:=p.Labels.toNat) (k:=K.length) b h (by rw[<-e];exact v) om om om f o om d.2.1,sb,wW (n:=p.Labels.toNat) (k:=K.length) b h (by rw[<-e];exact x) om om om f o om d.2.2,sb];rfl
end
def iO(a:Yl)(b:Yl):Int->Option (Lp Int Int Bool):=λs=>if decide (s<(a.length:Int)) then(ix a s)>>=λc=>(ix b s)>>=λd=>if c !=d then some (.ret false) else(ck (s+1))>>=λf=>some (.go f) else some (.out s)
def lM(c:Nat)(a:Yl)(b:Yl):Option Bool:=if(a.length:Int) !=(b.length:Int) then some false else(loopF (iO a b) c 0)>>=λd=>match d with| .inl g=>some true| .inr f=>some f
theorem BO(d:Nat)(w:World)(m:Value)(s:Yl)(u:RdL zt w m s)(q:Value)(x:Yl)(y:RdL zt w q x)(r:Bool)(g:lM d s x=some r):
    Calls Gz 47 #[m,q] w (ab w r):=by
 unfold lM at g;have f:Bs (λ_=>1) (col (λ_=>1)) w w:=Bs.start _ _;refine y_ (n:=26) (vs:=[m,q]) Tryz.func47 rfl rfl ?_;refine Zq (Za rfl (Zy (b_ (Zq (Zm rfl (Zv (C_ rfl u GA) (Zm rfl (Zv (C_ rfl y GA) (Zv (aP rfl rfl) (Zy ?_))))))))));refine Zi rfl g (λb g=>?_) (λb g=>?_)
 ·refine Zq (Za rfl (Zy (i_ (t_ ?_))));obtain rfl:=Zj g;refine Zr IT [.bool false] ?_;exact⟨rfl,f.keeps⟩
 ·refine f_ (nx (b_ (Zq (Za rfl (Zy ?_)))));obtain⟨b,l,g⟩:=a_ g;refine D_ (λa j=>∃(i:Int),∃(k:Tg),b=.inl i∧Fr a 26 []∧Bs (λ_=>1) k w j) (λa w'=>∃z,b=.inr z∧bodyPost Gz Tryz.f47 (ab w z) .ret a w') ?_ ?_ ?_
  ·refine k_ ?_;refine B_ (λ(K:Nat) a j=>∃(i:Int),∃(k:Tg),loopF (iO s x) K i=some b∧Fr a 26 [(0,m),(1,q),(5,ZI i)]∧Bs (λ_=>1) k w j) d (λa b=>⟨0,col (λ_=>1),l,b.sb,f⟩) ?_;rintro d a j ⟨i,k,p,b,f⟩;obtain⟨A,d,d,d,l⟩:=aC p;dsimp only[iO] at d;refine q_ b ?_;refine b_ (Zq (Zm rfl (Zm rfl (Zv (C_ rfl u GA) (Zv (o_ rfl rfl) (Zy ?_))))));refine Zi rfl d (λp d=>?_) (λp d=>?_)
   ·refine f_ (nx (b_ (k_ (b_ ?_))));obtain⟨B,p,d⟩:=a_ d;obtain⟨C,t,d⟩:=a_ d;refine ZW (Bf:=λD E=>Bs (λ_=>1) D w E) [(0,_),(1,_),(5,_)] (Zrg 17 8) [[],[],[0,1],[2],[],[],[4,5],[6]] (Zcn 8) (Zt9 8) (Zt0 8) [999] [.inl m,.inl (ZI i),.inr (λv o m=>∃vl,v=adr vl (i.toNat*Rp.sz Int)∧RdL zt w vl s),.inl (ZI B),.inl q,.inl (ZI i),.inr (λv o m=>∃vl,v=adr vl (i.toNat*Rp.sz Int)∧RdL zt w vl x),.inl (ZI C)] f ⟨λ_ _ _ _ _ _ m hb ⟨vl,e,h⟩ hs=>⟨vl,e,h⟩,λ_ _ _ _ _ _ m hb ⟨vl,e,h⟩ hs=>⟨vl,e,h⟩,trivial⟩ ?_ ?_
    ·refine⟨Dp (d_ rfl),Dp (d_ rfl),?_,?_,Dp (d_ rfl),Dp (d_ rfl),?_,?_,trivial⟩
     ·rintro m m m b- -;refine Zs b ?_;refine aN u p rfl rfl GA GB ?_;exact⟨_,Stp.refl _ _ _,⟨_,rfl,u⟩⟩
     ·rintro m m m b f ⟨m,-⟩;obtain⟨q,q,s⟩:=m;have b:=b.c q;refine Zs b ?_;refine bV s p f rfl rfl GC ?_;intro m m;cases m
      exact Zx rfl
     ·rintro m m m b- -;refine Zs b ?_;refine aN y t rfl rfl GA GB ?_;exact⟨_,Stp.refl _ _ _,⟨_,rfl,y⟩⟩
     ·rintro m m m b f ⟨m,-⟩;obtain⟨q,q,s⟩:=m;have b:=b.c q;refine Zs b ?_;refine bV s t f rfl rfl GC ?_;intro m m;cases m
      exact Zx rfl
    rintro _ rfl m q q b f-;refine O_ b ?_;refine Zv (aP rfl rfl) (Zy ?_);refine Zi rfl d (λq d=>?_) (λq d=>?_)
    ·refine Zq (Za rfl (Zy (i_ (L_ (t_ (t_ (L_ ?_)))))));refine aB ?_;obtain rfl:=Zj d;refine λa b=>⟨_,l,?_⟩;refine J_ (P:=Gz) (vs:=[.bool false]) IT ⟨rfl,trivial⟩ ?_ a b;exact⟨rfl,f.keeps⟩
    ·refine f_ (w_ (nx (h_ (Zm rfl ?_))));obtain⟨q,s,d⟩:=a_ d;refine Zv (u_ rfl rfl s) (Za rfl (Zf (v_ ?_)));obtain rfl:=Zj d;refine Zk [(0,_),(1,_),(5,_)] ?_;intro a b;exact⟨A,om,q,m,l,b,f⟩
   ·refine z_ ?_;refine g_ (g_ (A_ ?_));refine r_ ?_;obtain rfl:=Zj d;refine Zk [] ?_;intro a b;exact⟨i,k,l,b,f⟩
  ·rintro a j ⟨i,k,rfl,b,f⟩;dsimp only at g;refine ap_k b ?_;refine Zn (Za rfl (Zy (i_ ?_)));obtain rfl:=Zj g;refine Zr IT [.bool true] ?_;exact⟨rfl,f.keeps⟩
  ·rintro a j ⟨z,rfl,b⟩;dsimp only at g;obtain rfl:=Zj g;exact b
def iE(b:Nat)(a:Yk)(c:Yk):Int->Option (Lp Int Int Bool):=λs=>if decide (s<(a.length:Int)) then(ix a s)>>=λd=>(ix c s)>>=λf=>(lM b d f)>>=λg=>if !g then some (.ret false) else(ck (s+1))>>=λi=>some (.go i) else some (.out s)
def eT(a:Nat)(b:Yk)(c:Yk):Option Bool:=if(b.length:Int) !=(c.length:Int) then some false else(loopF (iE a b c) a 0)>>=λd=>match d with| .inl g=>some true| .inr f=>some f
theorem nu(s:Nat)(w:World)(m:Value)(u:Yk)(x:RdL zt w m u)(q:Value)(y:Yk)(z:RdL zt w q y)(r:Bool)(g:eT s u y=some r):
    Calls Gz 26 #[m,q] w (ab w r):=by
 unfold eT at g;have d:Bs (λ_=>1) (col (λ_=>1)) w w:=Bs.start _ _;refine y_ (n:=27) (vs:=[m,q]) Tryz.func26 rfl rfl ?_;refine Zq (Za rfl (Zy (b_ (Zq (Zm rfl (Zv (C_ rfl x GE) (Zm rfl (Zv (C_ rfl z GE) (Zv (aP rfl rfl) (Zy ?_))))))))));refine Zi rfl g (λb g=>?_) (λb g=>?_)
 ·refine Zq (Za rfl (Zy (i_ (t_ ?_))));obtain rfl:=Zj g;refine Zr IU [.bool false] ?_;exact⟨rfl,d.keeps⟩
 ·refine f_ (nx (b_ (Zq (Za rfl (Zy ?_)))));obtain⟨b,f,g⟩:=a_ g;refine D_ (λa j=>∃(i:Int),∃(k:Tg),b=.inl i∧Fr a 27 []∧Bs (λ_=>1) k w j) (λa w'=>∃l,b=.inr l∧bodyPost Gz Tryz.f26 (ab w l) .ret a w') ?_ ?_ ?_
  ·refine k_ ?_;refine B_ (λ(K:Nat) a j=>∃(i:Int),∃(k:Tg),loopF (iE s u y) K i=some b∧Fr a 27 [(0,m),(1,q),(5,ZI i)]∧Bs (λ_=>1) k w j) s (λa b=>⟨0,col (λ_=>1),f,b.sb,d⟩) ?_;rintro f a j ⟨i,k,t,b,d⟩;obtain⟨D,f,f,f,p⟩:=aC t;dsimp only[iE] at f;refine q_ b ?_;refine b_ (Zq (Zm rfl (Zm rfl (Zv (C_ rfl x GE) (Zv (o_ rfl rfl) (Zy ?_))))));refine Zi rfl f (λt f=>?_) (λt f=>?_)
   ·refine f_ (nx (b_ (k_ (b_ ?_))));obtain⟨t,B,f⟩:=a_ f;obtain⟨A,C,f⟩:=a_ f;refine ZW (Bf:=λE F=>Bs (λ_=>1) E w F) [(0,_),(1,_),(5,_)] (Zrg 17 8) [[],[],[0,1],[2],[],[],[4,5],[6]] (Zcn 8) (Zt9 8) (Zt0 8) [999] [.inl m,.inl (ZI i),.inr (λv o m=>∃vl,v=adr vl (i.toNat*Rp.sz Yl)∧RdL zt w vl u),.inr (λv o m=>RdL zt w v t),.inl q,.inl (ZI i),.inr (λv o m=>∃vl,v=adr vl (i.toNat*Rp.sz Yl)∧RdL zt w vl y),.inr (λv o m=>RdL zt w v A)] d ⟨λ_ _ _ _ _ _ m hb ⟨vl,e,h⟩ hs=>⟨vl,e,h⟩,λ_ _ _ _ _ _ m hb h hs=>h,λ_ _ _ _ _ _ m hb ⟨vl,e,h⟩ hs=>⟨vl,e,h⟩,λ_ _ _ _ _ _ m hb h hs=>h,trivial⟩ ?_ ?_
    ·refine⟨Dp (d_ rfl),Dp (d_ rfl),?_,?_,Dp (d_ rfl),Dp (d_ rfl),?_,?_,trivial⟩
     ·rintro m m m b- -;refine Zs b ?_;refine aN x B rfl rfl GE GH ?_;exact⟨_,Stp.refl _ _ _,⟨_,rfl,x⟩⟩
     ·rintro m m m b d ⟨m,-⟩;obtain⟨q,q,u⟩:=m;have b:=b.c q;refine Zs b ?_;refine bV u B d rfl rfl GJ ?_;intro m m;obtain⟨q,q,u⟩:=m;cases q
      exact⟨_,Stp.refl _ _ _,u⟩
     ·rintro m m m b- -;refine Zs b ?_;refine aN z C rfl rfl GE GH ?_;exact⟨_,Stp.refl _ _ _,⟨_,rfl,z⟩⟩
     ·rintro m m m b d ⟨m,-⟩;obtain⟨q,q,u⟩:=m;have b:=b.c q;refine Zs b ?_;refine bV u C d rfl rfl GJ ?_;intro m m;obtain⟨q,q,u⟩:=m;cases q
      exact⟨_,Stp.refl _ _ _,u⟩
    rintro _ rfl x y m b d ⟨-,q,-,u,-⟩;replace q:RdL zt w (m.tmps.getD 20 undef) t:=q;generalize z:m.tmps.getD 20 undef=B at q;have b:=b.c z;replace u:RdL zt w (m.tmps.getD 24 undef) A:=u;generalize z:m.tmps.getD 24 undef=m at u;have b:=b.c z;refine O_ b ?_;obtain⟨m,z,f⟩:=a_ f;refine Zo ?_;refine j_ (BO s y _ t (q.keep d.keeps) _ A (u.keep d.keeps) m z) Tryz.call47 ⟨rfl,rfl,trivial⟩ ?_;rintro m m ⟨rfl,m⟩;have q:=m.stp 999 x;refine⟨_,rfl,?_⟩;replace d:=d.stp q;refine Zv (ag rfl) (Zy ?_);refine Zi rfl f (λm f=>?_) (λm f=>?_)
    ·refine Zq (Za rfl (Zy (i_ (L_ (t_ (t_ (L_ ?_)))))));refine aB ?_;obtain rfl:=Zj f;refine λa b=>⟨_,p,?_⟩;refine J_ (P:=Gz) (vs:=[.bool false]) IU ⟨rfl,trivial⟩ ?_ a b;exact⟨rfl,d.keeps⟩
    ·refine f_ (w_ (nx (h_ (Zm rfl ?_))));obtain⟨m,q,f⟩:=a_ f;refine Zv (u_ rfl rfl q) (Za rfl (Zf (v_ ?_)));obtain rfl:=Zj f;refine Zk [(0,_),(1,_),(5,_)] ?_;intro a b;exact⟨D,om,m,x,p,b,d⟩
   ·refine z_ ?_;refine g_ (g_ (A_ ?_));refine r_ ?_;obtain rfl:=Zj f;refine Zk [] ?_;intro a b;exact⟨i,k,p,b,d⟩
  ·rintro a j ⟨i,k,rfl,b,d⟩;dsimp only at g;refine ap_k b ?_;refine Zn (Za rfl (Zy (i_ ?_)));obtain rfl:=Zj g;refine Zr IU [.bool true] ?_;exact⟨rfl,d.keeps⟩
  ·rintro a j ⟨l,rfl,b⟩;dsimp only at g;obtain rfl:=Zj g;exact b
def kW(c:Nat)(a:c_)(b:c_):Option Bool:=if a.Labels !=b.Labels then some false else if a.Degree !=b.Degree then some false else(eT c a.Nodes b.Nodes)>>=λd=>if !d then some false else(eT c a.Edges b.Edges)>>=λf=>if !f then some false else some true
theorem Ad(i:Nat)(w:World)(b:List Value)(c:c_)(j:Rp.rd zt w b c)(f:List Value)(d:c_)(m:Rp.rd zt w f d)(r:Bool)(a:kW i c d=some r):
    Calls Gz 9 #[.agg b.toArray,.agg f.toArray] w (ab w r):=by
 unfold kW at a;obtain⟨f,g,rfl,q,s⟩:=j;obtain⟨j,k,rfl,u,v⟩:=m;have b:Bs (λ_=>1) (col (λ_=>1)) w w:=Bs.start _ _;refine y_ (n:=27) (vs:=[.agg #[ZI c.Labels,ZI c.Degree,f,g],.agg #[ZI d.Labels,ZI d.Degree,j,k]]) Tryz.func9 rfl rfl ?_;refine Zq (Zo ?_);refine Z_ (o:=(col (λ_=>1))) w.heap.size 11 b.keeps.size (cs:=[ZI c.Labels,ZI c.Degree,f,g]) rfl rfl ?_;intro g f f f m;replace b:=b.stp m;refine Zo ?_;refine Z_ (o:=g) w.heap.size 12 b.keeps.size (cs:=[ZI d.Labels,ZI d.Degree,j,k]) rfl rfl ?_;intro j k g g m;obtain⟨f,b⟩:=ZS m (A2 f b);refine Za rfl (Zy (b_ (Zq (Zv (s_ rfl GF rfl GB) (Zv (e_ rfl GC (f.cell rfl)) (Zv (s_ rfl GF rfl GB) (Zv (e_ rfl GC (g.cell rfl)) (Zv (aP rfl rfl) (Zy ?_)))))))));refine Zi rfl a (λm a=>?_) (λm a=>?_)
 ·refine Zq (Za rfl (Zy (i_ (t_ ?_))));obtain rfl:=Zj a;refine Zr HB [.bool false] ?_;exact⟨rfl,b.keeps⟩
 ·refine f_ (nx (b_ (Zq (Zv (s_ rfl GF rfl GB) (Zv (e_ rfl GC (f.cell rfl)) (Zv (s_ rfl GF rfl GB) (Zv (e_ rfl GC (g.cell rfl)) (Zv (aP rfl rfl) (Zy ?_)))))))));refine Zi rfl a (λm a=>?_) (λm a=>?_)
  ·refine Zq (Za rfl (Zy (i_ (t_ ?_))));obtain rfl:=Zj a;refine Zr HB [.bool false] ?_;exact⟨rfl,b.keeps⟩
  ·refine f_ (nx (b_ (Zq (Zv (s_ rfl GF rfl GI) (Zv (e_ rfl GK (f.cell rfl)) (Zv (s_ rfl GF rfl GI) (Zv (e_ rfl GK (g.cell rfl)) ?_)))))));obtain⟨m,x,a⟩:=a_ a;refine Zo ?_;refine j_ (nu i k _ c.Nodes (q.keep b.keeps) _ d.Nodes (u.keep b.keeps) m x) Ie ⟨rfl,rfl,trivial⟩ ?_;rintro k k ⟨rfl,m⟩;have q:=m.stp 999 j;refine⟨_,rfl,?_⟩;obtain⟨f,g,b⟩:=ZS q (A3 f g b);refine Zv (ag rfl) (Zy ?_);refine Zi rfl a (λm a=>?_) (λm a=>?_)
   ·refine Zq (Za rfl (Zy (i_ (t_ ?_))));obtain rfl:=Zj a;refine Zr HB [.bool false] ?_;exact⟨rfl,b.keeps⟩
   ·refine f_ (nx (b_ (Zq (Zv (s_ rfl GF rfl GI) (Zv (e_ rfl GK (f.cell rfl)) (Zv (s_ rfl GF rfl GI) (Zv (e_ rfl GK (g.cell rfl)) ?_)))))));obtain⟨f,g,a⟩:=a_ a;refine Zo ?_;refine j_ (nu i k _ c.Edges (s.keep b.keeps) _ d.Edges (v.keep b.keeps) f g) Ie ⟨rfl,rfl,trivial⟩ ?_;rintro c c ⟨rfl,c⟩;have d:=c.stp 999 j;refine⟨_,rfl,?_⟩;replace b:=b.stp d;refine Zv (ag rfl) (Zy ?_);refine Zi rfl a (λc a=>?_) (λc a=>?_)
    ·refine Zq (Za rfl (Zy (i_ (t_ ?_))));obtain rfl:=Zj a;refine Zr HB [.bool false] ?_;exact⟨rfl,b.keeps⟩
    ·refine f_ (Zn (Za rfl (Zy (i_ ?_))));obtain rfl:=Zj a;refine Zr HB [.bool true] ?_;exact⟨rfl,b.keeps⟩
def hQ(b:Nat)(a:List c_)(c:List c_):Int->Option (Lp Int Int Bool):=λs=>if decide (s<(a.length:Int)) then(ix a s)>>=λd=>(ix c s)>>=λf=>(kW b d f)>>=λg=>if !g then some (.ret false) else(ck (s+1))>>=λi=>some (.go i) else some (.out s)
def kV(a:Nat)(b:List c_)(c:List c_):Option Bool:=if(b.length:Int) !=(c.length:Int) then some false else(loopF (hQ a b c) a 0)>>=λd=>match d with| .inl g=>some true| .inr f=>some f
theorem zK(s:Nat)(w:World)(m:Value)(u:List c_)(x:RdL zt w m u)(q:Value)(y:List c_)(z:RdL zt w q y)(r:Bool)(g:kV s u y=some r):
    Calls Gz 25 #[m,q] w (ab w r):=by
 unfold kV at g;have d:Bs (λ_=>1) (col (λ_=>1)) w w:=Bs.start _ _;refine y_ (n:=27) (vs:=[m,q]) Tryz.func25 rfl rfl ?_;refine Zq (Za rfl (Zy (b_ (Zq (Zm rfl (Zv (C_ rfl x GL) (Zm rfl (Zv (C_ rfl z GL) (Zv (aP rfl rfl) (Zy ?_))))))))));refine Zi rfl g (λb g=>?_) (λb g=>?_)
 ·refine Zq (Za rfl (Zy (i_ (t_ ?_))));obtain rfl:=Zj g;refine Zr IV [.bool false] ?_;exact⟨rfl,d.keeps⟩
 ·refine f_ (nx (b_ (Zq (Za rfl (Zy ?_)))));obtain⟨b,f,g⟩:=a_ g;refine D_ (λa j=>∃(i:Int),∃(k:Tg),b=.inl i∧Fr a 27 []∧Bs (λ_=>1) k w j) (λa w'=>∃l,b=.inr l∧bodyPost Gz Tryz.f25 (ab w l) .ret a w') ?_ ?_ ?_
  ·refine k_ ?_;refine B_ (λ(K:Nat) a j=>∃(i:Int),∃(k:Tg),loopF (hQ s u y) K i=some b∧Fr a 27 [(0,m),(1,q),(5,ZI i)]∧Bs (λ_=>1) k w j) s (λa b=>⟨0,col (λ_=>1),f,b.sb,d⟩) ?_;rintro f a j ⟨i,k,t,b,d⟩;obtain⟨D,f,f,f,p⟩:=aC t;dsimp only[hQ] at f;refine q_ b ?_;refine b_ (Zq (Zm rfl (Zm rfl (Zv (C_ rfl x GL) (Zv (o_ rfl rfl) (Zy ?_))))));refine Zi rfl f (λt f=>?_) (λt f=>?_)
   ·refine f_ (nx (b_ (k_ (b_ ?_))));obtain⟨t,A,f⟩:=a_ f;obtain⟨B,C,f⟩:=a_ f;refine ZW (Bf:=λE F=>Bs (λ_=>1) E w F) [(0,_),(1,_),(5,_)] (Zrg 17 8) [[],[],[0,1],[2],[],[],[4,5],[6]] (Zcn 8) (Zt9 8) (Zt0 8) [999] [.inl m,.inl (ZI i),.inr (λv o m=>∃vl,v=adr vl (i.toNat*Rp.sz c_)∧RdL zt w vl u),.inr (λv o m=>∃(c:List Value),v=.agg c.toArray∧Rp.rd zt w c t),.inl q,.inl (ZI i),.inr (λv o m=>∃vl,v=adr vl (i.toNat*Rp.sz c_)∧RdL zt w vl y),.inr (λv o m=>∃(c:List Value),v=.agg c.toArray∧Rp.rd zt w c B)] d ⟨λ_ _ _ _ _ _ m hb ⟨vl,e,h⟩ hs=>⟨vl,e,h⟩,λ_ _ _ _ _ _ m hb ⟨c,e,h⟩ hs=>⟨c,e,h⟩,λ_ _ _ _ _ _ m hb ⟨vl,e,h⟩ hs=>⟨vl,e,h⟩,λ_ _ _ _ _ _ m hb ⟨c,e,h⟩ hs=>⟨c,e,h⟩,trivial⟩ ?_ ?_
    ·refine⟨Dp (d_ rfl),Dp (d_ rfl),?_,?_,Dp (d_ rfl),Dp (d_ rfl),?_,?_,trivial⟩
     ·rintro m m m b- -;refine Zs b ?_;refine aN x A rfl rfl GL GD ?_;exact⟨_,Stp.refl _ _ _,⟨_,rfl,x⟩⟩
     ·rintro m m m b d ⟨m,-⟩;obtain⟨q,q,u⟩:=m;have b:=b.c q;refine Zs b ?_;refine ui u A d rfl GG GD ?_;intro m m;obtain⟨q,q,rfl,q,u⟩:=m;exact⟨_,Stp.refl _ _ _,⟨_,rfl,⟨_,_,rfl,q,u⟩⟩⟩
     ·rintro m m m b- -;refine Zs b ?_;refine aN z C rfl rfl GL GD ?_;exact⟨_,Stp.refl _ _ _,⟨_,rfl,z⟩⟩
     ·rintro m m m b d ⟨m,-⟩;obtain⟨q,q,u⟩:=m;have b:=b.c q;refine Zs b ?_;refine ui u C d rfl GG GD ?_;intro m m;obtain⟨q,q,rfl,q,u⟩:=m;exact⟨_,Stp.refl _ _ _,⟨_,rfl,⟨_,_,rfl,q,u⟩⟩⟩
    rintro _ rfl m q u b d ⟨-,u,-,x,-⟩;obtain⟨y,y,z⟩:=u;obtain⟨u,u,rfl,u,A⟩:=z;have b:=b.c y;obtain⟨y,y,z⟩:=x;obtain⟨x,x,rfl,x,C⟩:=z;have b:=b.c y;refine O_ b ?_;obtain⟨y,z,f⟩:=a_ f;refine Zo ?_;refine j_ (Ad s q _ t (⟨_,_,rfl,u.keep d.keeps,A.keep d.keeps⟩) _ B (⟨_,_,rfl,x.keep d.keeps,C.keep d.keeps⟩) y z) Tryz.call9 ⟨rfl,rfl,trivial⟩ ?_;rintro q q ⟨rfl,q⟩;have s:=q.stp 999 m;refine⟨_,rfl,?_⟩;replace d:=d.stp s;refine Zv (ag rfl) (Zy ?_);refine Zi rfl f (λq f=>?_) (λq f=>?_)
    ·refine Zq (Za rfl (Zy (i_ (L_ (t_ (t_ (L_ ?_)))))));refine aB ?_;obtain rfl:=Zj f;refine λa b=>⟨_,p,?_⟩;refine J_ (P:=Gz) (vs:=[.bool false]) IV ⟨rfl,trivial⟩ ?_ a b;exact⟨rfl,d.keeps⟩
    ·refine f_ (w_ (nx (h_ (Zm rfl ?_))));obtain⟨q,s,f⟩:=a_ f;refine Zv (u_ rfl rfl s) (Za rfl (Zf (v_ ?_)));obtain rfl:=Zj f;refine Zk [(0,_),(1,_),(5,_)] ?_;intro a b;exact⟨D,om,q,m,p,b,d⟩
   ·refine z_ ?_;refine g_ (g_ (A_ ?_));refine r_ ?_;obtain rfl:=Zj f;refine Zk [] ?_;intro a b;exact⟨i,k,p,b,d⟩
  ·rintro a j ⟨i,k,rfl,b,d⟩;dsimp only at g;refine ap_k b ?_;refine Zn (Za rfl (Zy (i_ ?_)));obtain rfl:=Zj g;refine Zr IV [.bool true] ?_;exact⟨rfl,d.keeps⟩
  ·rintro a j ⟨l,rfl,b⟩;dsimp only at g;obtain rfl:=Zj g;exact b
def iv(a:Yl):(Int×Int)->Option (Lo (Int×Int) Int):=λs=>if decide (s.2<(a.length:Int)) then(ix a s.2)>>=λb=>if b !=s.1 then some (.ret (-1)) else(ck (s.1+1))>>=λc=>(ck (s.2+1))>>=λd=>some (.go (c,d)) else some (.out (s.1,s.2))
def lm(a:Nat)(b:Yl)(c:Int):Option Int:=(loopF (iv b) a (c,0))>>=λd=>match d with| .inl (f,i)=>some f| .inr g=>some g
theorem Ax(u:Nat)(w:World)(b:Value)(c:Yl)(v:RdL zt w b c)(m:Int)(r:Int)(g:lm u c m=some r):
    Calls Gz 49 #[b,.int .i64 m] w (aT w r):=by
 unfold lm at g;have f:Bs (λ_=>1) (col (λ_=>1)) w w:=Bs.start _ _;refine y_ (n:=21) (vs:=[b,ZI m]) Tryz.func49 rfl rfl ?_;refine Zq (Za rfl (Zy (b_ (Zq (Za rfl (Zy ?_))))));obtain⟨q,x,g⟩:=a_ g;refine D_ (λa k=>∃(d:Int)(i:Int),∃(j:Tg),q=.inl (d,i)∧Fr a 21 [(1,ZI d)]∧Bs (λ_=>1) j w k) (λa w'=>∃s,q=.inr s∧bodyPost Gz Tryz.f49 (aT w s) .ret a w') ?_ ?_ ?_
 ·refine k_ ?_;refine B_ (λ(K:Nat) a k=>∃(d:Int)(i:Int),∃(j:Tg),loopF (iv c) K (d,i)=some q∧Fr a 21 [(0,b),(1,ZI d),(5,ZI i)]∧Bs (λ_=>1) j w k) u (λa c=>⟨m,0,col (λ_=>1),x,c.sb,f⟩) ?_;rintro b a k ⟨d,i,j,q,c,f⟩;obtain⟨u,b,b,b,m⟩:=aC q;dsimp only[iv] at b;refine q_ c ?_;refine b_ (Zq (Zm rfl (Zm rfl (Zv (C_ rfl v GA) (Zv (o_ rfl rfl) (Zy ?_))))));refine Zi rfl b (λq b=>?_) (λq b=>?_)
  ·refine f_ (nx (b_ (k_ (b_ (Zq (Zm rfl (Zm rfl ?_)))))));obtain⟨q,q,b⟩:=a_ b;refine Zo ?_;refine wf_atZ v q f rfl rfl GA GB ?_;intro q q q q v;cases v
   refine Zv (e_ rfl GC (G_ q)) (Zm rfl (Zv (aP rfl rfl) (Zy ?_)));refine Zi rfl b (λq b=>?_) (λq b=>?_)
   ·refine Zq (Za rfl (Zy (i_ (t_ (L_ (t_ (t_ (L_ ?_))))))));refine aB ?_;obtain rfl:=Zj b;refine λa c=>⟨_,m,?_⟩;refine J_ (P:=Gz) (vs:=[ZI (-1)]) La ⟨rfl,trivial⟩ ?_ a c;exact⟨rfl,f.keeps⟩
   ·refine f_ (nx (h_ (Zm rfl ?_)));obtain⟨q,v,b⟩:=a_ b;refine Zv (u_ rfl rfl v) (Za rfl (Ze [(0,_),(1,_),(5,_)] (w_ (nx (h_ (Zm rfl ?_))))));obtain⟨v,x,b⟩:=a_ b;refine Zv (u_ rfl rfl x) (Za rfl (Zf (v_ ?_)));obtain rfl:=Zj b;refine Zk [(0,_),(1,_),(5,_)] ?_;intro a c;exact⟨u,om,q,v,j,m,c,f⟩
  ·refine z_ ?_;refine g_ (g_ (A_ ?_));refine r_ ?_;obtain rfl:=Zj b;refine Zk [(1,_)] ?_;intro a c;exact⟨d,i,j,m,c,f⟩
 ·rintro a k ⟨d,i,j,rfl,c,f⟩;dsimp only at g;refine ap_k c ?_;refine Zn (Zm rfl (Za rfl (Zy (i_ ?_))));obtain rfl:=Zj g;refine Zr La [ZI d] ?_;exact⟨rfl,f.keeps⟩
 ·rintro a k ⟨s,rfl,b⟩;dsimp only at g;obtain rfl:=Zj g;exact b
def ie(c:Nat)(a:Yk):(Int×Int)->Option (Lo (Int×Int) Int):=λs=>if decide (s.2<(a.length:Int)) then(ix a s.2)>>=λd=>(lm c d s.1)>>=λb=>if decide (b<0) then some (.ret (-1)) else(ck (s.2+1))>>=λf=>some (.go (b,f)) else some (.out (s.1,s.2))
def eQ(a:Nat)(b:Yk)(c:Int):Option Int:=(loopF (ie a b) a (c,0))>>=λd=>match d with| .inl (f,i)=>some f| .inr g=>some g
theorem nh(m:Nat)(w:World)(b:Value)(d:Yk)(v:RdL zt w b d)(q:Int)(r:Int)(i:eQ m d q=some r):
    Calls Gz 30 #[b,.int .i64 q] w (aT w r):=by
 unfold eQ at i;have c:Bs (λ_=>1) (col (λ_=>1)) w w:=Bs.start _ _;refine y_ (n:=21) (vs:=[b,ZI q]) Tryz.func30 rfl rfl ?_;refine Zq (Za rfl (Zy (b_ (Zq (Za rfl (Zy ?_))))));obtain⟨s,x,i⟩:=a_ i;refine D_ (λa j=>∃(f:Int)(k:Int),∃(g:Tg),s=.inl (f,k)∧Fr a 21 [(1,ZI f)]∧Bs (λ_=>1) g w j) (λa w'=>∃u,s=.inr u∧bodyPost Gz Tryz.f30 (aT w u) .ret a w') ?_ ?_ ?_
 ·refine k_ ?_;refine B_ (λ(K:Nat) a j=>∃(f:Int)(k:Int),∃(g:Tg),loopF (ie m d) K (f,k)=some s∧Fr a 21 [(0,b),(1,ZI f),(5,ZI k)]∧Bs (λ_=>1) g w j) m (λa d=>⟨q,0,col (λ_=>1),x,d.sb,c⟩) ?_;rintro b a j ⟨f,k,g,s,d,c⟩;obtain⟨x,b,b,b,q⟩:=aC s;dsimp only[ie] at b;refine q_ d ?_;refine b_ (Zq (Zm rfl (Zm rfl (Zv (C_ rfl v GE) (Zv (o_ rfl rfl) (Zy ?_))))));refine Zi rfl b (λs b=>?_) (λs b=>?_)
  ·refine f_ (nx (b_ (k_ (Zq (Zm rfl (Zm rfl ?_))))));obtain⟨y,s,b⟩:=a_ b;refine Zo ?_;refine wf_atZ v s c rfl rfl GE GH ?_;intro s s s s v;obtain⟨z,rfl,z⟩:=v;refine Zv (e_ rfl GJ (G_ s)) (Zm rfl ?_);obtain⟨s,v,b⟩:=a_ b;refine Zo ?_;refine j_ (Ax m j _ y (z.keep c.keeps) f s v) Tryz.call49 ⟨rfl,rfl,trivial⟩ ?_;rintro m m ⟨rfl,m⟩;have v:=m.stp 999 g;refine⟨_,rfl,?_⟩;replace c:=c.stp v;refine Za rfl (Ze [(0,_),(1,_),(5,_)] (Zn (Zm rfl (Zv (o_ rfl rfl) (Zy ?_)))));refine Zi rfl b (λm b=>?_) (λm b=>?_)
   ·refine Zq (Za rfl (Zy (i_ (L_ (t_ (t_ (L_ ?_)))))));refine aB ?_;obtain rfl:=Zj b;refine λa d=>⟨_,q,?_⟩;refine J_ (P:=Gz) (vs:=[ZI (-1)]) Lb ⟨rfl,trivial⟩ ?_ a d;exact⟨rfl,c.keeps⟩
   ·refine f_ (w_ (nx (h_ (Zm rfl ?_))));obtain⟨m,v,b⟩:=a_ b;refine Zv (u_ rfl rfl v) (Za rfl (Zf (v_ ?_)));obtain rfl:=Zj b;refine Zk [(0,_),(1,_),(5,_)] ?_;intro a d;exact⟨x,om,s,m,g,q,d,c⟩
  ·refine z_ ?_;refine g_ (g_ (A_ ?_));refine r_ ?_;obtain rfl:=Zj b;refine Zk [(1,_)] ?_;intro a d;exact⟨f,k,g,q,d,c⟩
 ·rintro a j ⟨f,k,g,rfl,d,c⟩;dsimp only at i;refine ap_k d ?_;refine Zn (Zm rfl (Za rfl (Zy (i_ ?_))));obtain rfl:=Zj i;refine Zr Lb [ZI f] ?_;exact⟨rfl,c.keeps⟩
 ·rintro a j ⟨u,rfl,b⟩;dsimp only at i;obtain rfl:=Zj i;exact b
def gP(b:Nat)(a:List c_):(Int×Int)->Option (Lo (Int×Int) Int):=λs=>if decide (s.2<(a.length:Int)) then(ix a s.2)>>=λg=>if g.Labels !=s.1 then some (.ret (-1)) else(ck (s.1+1))>>=λc=>(ix a s.2)>>=λi=>if i.Degree !=c then some (.ret (-1)) else(ck (c+1))>>=λj=>(ix a s.2)>>=λk=>(eQ b k.Nodes j)>>=λd=>if decide (d<0) then some (.ret (-1)) else(ix a s.2)>>=λm=>(eQ b m.Edges d)>>=λf=>if decide (f<0) then some (.ret (-1)) else(ck (s.2+1))>>=λn=>some (.go (f,n)) else some (.out (s.1,s.2))
def kF(a:Nat)(b:List c_)(c:Int):Option Int:=(loopF (gP a b) a (c,0))>>=λd=>match d with| .inl (f,i)=>some f| .inr g=>some g
theorem ze(q:Nat)(w:World)(b:Value)(d:List c_)(s:RdL zt w b d)(m:Int)(r:Int)(i:kF q d m=some r):
    Calls Gz 29 #[b,.int .i64 m] w (aT w r):=by
 unfold kF at i;have c:Bs (λ_=>1) (col (λ_=>1)) w w:=Bs.start _ _;refine y_ (n:=49) (vs:=[b,ZI m]) Tryz.func29 rfl rfl ?_;refine Zq (Za rfl (Zy (b_ (Zq (Za rfl (Zy ?_))))));obtain⟨u,x,i⟩:=a_ i;refine D_ (λa j=>∃(f:Int)(k:Int),∃(g:Tg),u=.inl (f,k)∧Fr a 49 [(1,ZI f)]∧Bs (λ_=>1) g w j) (λa w'=>∃v,u=.inr v∧bodyPost Gz Tryz.f29 (aT w v) .ret a w') ?_ ?_ ?_
 ·refine k_ ?_;refine B_ (λ(K:Nat) a j=>∃(f:Int)(k:Int),∃(g:Tg),loopF (gP q d) K (f,k)=some u∧Fr a 49 [(0,b),(1,ZI f),(5,ZI k)]∧Bs (λ_=>1) g w j) q (λa d=>⟨m,0,col (λ_=>1),x,d.sb,c⟩) ?_;rintro b a j ⟨f,k,g,u,d,c⟩;obtain⟨x,b,b,b,m⟩:=aC u;dsimp only[gP] at b;refine q_ d ?_;refine b_ (Zq (Zm rfl (Zm rfl (Zv (C_ rfl s GL) (Zv (o_ rfl rfl) (Zy ?_))))));refine Zi rfl b (λu b=>?_) (λu b=>?_)
  ·refine f_ (nx (b_ (k_ (b_ (Zq (Zm rfl (Zm rfl ?_)))))));obtain⟨u,u,b⟩:=a_ b;refine Zo ?_;refine wf_atZ s u c rfl rfl GL GD ?_;intro u u u u y;obtain⟨z,z,rfl,z,z⟩:=y;refine Zv (s_ rfl GF rfl GB) (Zv (e_ rfl GC (u 0 _ rfl)) (Zm rfl (Zv (aP rfl rfl) (Zy ?_))));refine Zi rfl b (λu b=>?_) (λu b=>?_)
   ·refine Zq (Za rfl (Zy (i_ (t_ (L_ (t_ (t_ (L_ ?_))))))));refine aB ?_;obtain rfl:=Zj b;refine λa d=>⟨_,m,?_⟩;refine J_ (P:=Gz) (vs:=[ZI (-1)]) HH ⟨rfl,trivial⟩ ?_ a d;exact⟨rfl,c.keeps⟩
   ·refine f_ (Zn (Zm rfl ?_));obtain⟨u,u,b⟩:=a_ b;refine Zv (u_ rfl rfl u) (Za rfl (Zy (b_ (Zq (Zm rfl (Zm rfl ?_))))));obtain⟨u,u,b⟩:=a_ b;refine Zo ?_;refine wf_atZ s u c rfl rfl GL GD ?_;intro u u u u y;obtain⟨z,z,rfl,z,z⟩:=y;refine Zv (s_ rfl GF rfl GB) (Zv (e_ rfl GC (u 1 _ rfl)) (Zm rfl (Zv (aP rfl rfl) (Zy ?_))));refine Zi rfl b (λu b=>?_) (λu b=>?_)
    ·refine Zq (Za rfl (Zy (i_ (t_ (L_ (t_ (t_ (L_ ?_))))))));refine aB ?_;obtain rfl:=Zj b;refine λa d=>⟨_,m,?_⟩;refine J_ (P:=Gz) (vs:=[ZI (-1)]) HH ⟨rfl,trivial⟩ ?_ a d;exact⟨rfl,c.keeps⟩
    ·refine f_ (Zn (Zm rfl ?_));obtain⟨y,u,b⟩:=a_ b;refine Zv (u_ rfl rfl u) (Za rfl (Ze [(0,_),(1,_),(5,_)] (Zn (Zm rfl (Zm rfl ?_)))));obtain⟨z,u,b⟩:=a_ b;refine Zo ?_;refine wf_atZ s u c rfl rfl GL GD ?_;intro u u u u e;obtain⟨h,h,rfl,h,l⟩:=e;refine Zv (s_ rfl GF rfl GI) (Zv (e_ rfl GK (u 2 _ rfl)) (Zm rfl ?_));obtain⟨u,e,b⟩:=a_ b;refine Zo ?_;refine j_ (nh q j _ z.Nodes (h.keep c.keeps) y u e) If ⟨rfl,rfl,trivial⟩ ?_;rintro y y ⟨rfl,z⟩;have e:=z.stp 999 g;refine⟨_,rfl,?_⟩;replace c:=c.stp e;refine Za rfl (Zy (b_ (Zq (Zm rfl (Zv (o_ rfl rfl) (Zy ?_))))));refine Zi rfl b (λz b=>?_) (λz b=>?_)
     ·refine Zq (Za rfl (Zy (i_ (t_ (L_ (t_ (t_ (L_ ?_))))))));refine aB ?_;obtain rfl:=Zj b;refine λa d=>⟨_,m,?_⟩;refine J_ (P:=Gz) (vs:=[ZI (-1)]) HH ⟨rfl,trivial⟩ ?_ a d;exact⟨rfl,c.keeps⟩
     ·refine f_ (Zn (Zm rfl (Zm rfl ?_)));obtain⟨z,e,b⟩:=a_ b;refine Zo ?_;refine wf_atZ s e c rfl rfl GL GD ?_;intro s s s s e;obtain⟨h,h,rfl,h,h⟩:=e;refine Zv (s_ rfl GF rfl GI) (Zv (e_ rfl GK (s 3 _ rfl)) (Zm rfl ?_));obtain⟨s,e,b⟩:=a_ b;refine Zo ?_;refine j_ (nh q y _ z.Edges (h.keep c.keeps) u s e) If ⟨rfl,rfl,trivial⟩ ?_;rintro q q ⟨rfl,q⟩;have u:=q.stp 999 g;refine⟨_,rfl,?_⟩;replace c:=c.stp u;refine Za rfl (Ze [(0,_),(1,_),(5,_)] (Zn (Zm rfl (Zv (o_ rfl rfl) (Zy ?_)))));refine Zi rfl b (λq b=>?_) (λq b=>?_)
      ·refine Zq (Za rfl (Zy (i_ (L_ (t_ (t_ (L_ ?_)))))));refine aB ?_;obtain rfl:=Zj b;refine λa d=>⟨_,m,?_⟩;refine J_ (P:=Gz) (vs:=[ZI (-1)]) HH ⟨rfl,trivial⟩ ?_ a d;exact⟨rfl,c.keeps⟩
      ·refine f_ (w_ (nx (h_ (Zm rfl ?_))));obtain⟨q,u,b⟩:=a_ b;refine Zv (u_ rfl rfl u) (Za rfl (Zf (v_ ?_)));obtain rfl:=Zj b;refine Zk [(0,_),(1,_),(5,_)] ?_;intro a d;exact⟨x,om,s,q,g,m,d,c⟩
  ·refine z_ ?_;refine g_ (g_ (A_ ?_));refine r_ ?_;obtain rfl:=Zj b;refine Zk [(1,_)] ?_;intro a d;exact⟨f,k,g,m,d,c⟩
 ·rintro a j ⟨f,k,g,rfl,d,c⟩;dsimp only at i;refine ap_k d ?_;refine Zn (Zm rfl (Za rfl (Zy (i_ ?_))));obtain rfl:=Zj i;refine Zr HH [ZI f] ?_;exact⟨rfl,c.keeps⟩
 ·rintro a j ⟨v,rfl,b⟩;dsimp only at i;obtain rfl:=Zj i;exact b
end Go.Proofs.YtpefhaamcihneaaGreat
