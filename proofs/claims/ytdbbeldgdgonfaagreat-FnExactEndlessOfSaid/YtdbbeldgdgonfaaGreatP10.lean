/- Part 10 of what this claim rests on (Pp, GIm, Im, GC, Kh, GPpa), packed by pack.py. -/
import Derived.Test.YtdbbeldgdgonfaaGreatP03
import Derived.Test.YtdbbeldgdgonfaaGreatP04
import Derived.Test.YtdbbeldgdgonfaaGreatP05
import Derived.Test.YtdbbeldgdgonfaaGreatP06
import Derived.Test.YtdbbeldgdgonfaaGreatP07
import Derived.Test.YtdbbeldgdgonfaaGreatP08
import Derived.Test.YtdbbeldgdgonfaaGreatP09
namespace Go.Proofs.YtdbbeldgdgonfaaGreat
open Tryz renaming prog→tX_, underlying22→ub_, sizeOf41→uf_, isAgg41→ug_, results158→vQ_, zeroValue41→uk_
set_option linter.unusedSimpArgs false
set_option linter.unusedVariables false
section
theorem kj_:∀{a b:List Int},a.length=b.length->(ordL a b=0<->a=b)
 |[],[],_=>by simp[ordL]
 |[],_::_,h=>by simp at h
 |_::_,[],h=>by simp at h
 | x::a,y::b,h=>by
  have ih:=kj_ (a:=a) (b:=b) (by simpa using h);simp only[ordL];by_cases e:x<y
  ·rw[if_pos e];simp;omega
  ·rw[if_neg e];by_cases e2:x>y
   ·rw[if_pos e2];simp;omega
   ·rw[if_neg e2,ih];have:x=y:=by omega
    simp[this]
theorem iv_:∀{a b c:List Int},a.length=b.length->b.length=c.length->ordL a b<0->ordL b c<0->ordL a c<0
 |[],[],[],_,_,h,_=>by simp[ordL] at h
 |[],[],_::_,_,h,_,_=>by simp at h
 |[],_::_,_,h,_,_,_=>by simp at h
 |_::_,[],_,h,_,_,_=>by simp at h
 |_::_,_::_,[],_,h,_,_=>by simp at h
 | x::a,y::b,z::c,h1,h2,h3,h4=>by
  have ih:=iv_ (a:=a) (b:=b) (c:=c) (by simpa using h1) (by simpa using h2);simp only[ordL] at h3 h4 ⊢;by_cases e:x<y
  ·by_cases e2:y<z
   ·rw[if_pos (by omega)];omega
   ·rw[if_neg e2] at h4;by_cases e3:y>z
    ·rw[if_pos e3] at h4;omega
    ·rw[if_pos (by omega)];omega
  ·rw[if_neg e] at h3;by_cases e2:x>y
   ·rw[if_pos e2] at h3;omega
   ·rw[if_neg e2] at h3;have:x=y:=by omega
    subst this;by_cases e3:x<z
    ·rw[if_pos e3];omega
    ·rw[if_neg e3] at h4 ⊢;by_cases e4:x>z
     ·rw[if_pos e4] at h4;omega
     ·rw[if_neg e4] at h4 ⊢;exact ih h3 h4
def confB(LL:List (List Int))(m n:Int)(k:Nat)(x:List Int):Bool:=
  decide ((x.length:Int)=m)&&sortB x&&x.all (inB 0 (n-1))&&(decide (k=0)||decide (ordL (LL.getD (k-1) []) x<0))
def confP(LL:List (List Int))(m n:Int)(k:Nat)(x:List Int):Option Bool:=if confB LL m n k x then none else some false
def confsB(LL:List (List Int))(m n:Int):Bool:=(firstP (confP LL m n) LL 0).isNone
theorem mr_{LL xs:List (List Int)}{m n:Int}{k:Nat}{r:Bool}(h:firstP (confP LL m n) xs k=some r):r=false:=by
 obtain⟨j,x,_,h2⟩:=dp_ h;unfold confP at h2;split at h2<;>cases h2;rfl
theorem iL_{LL:List (List Int)}{m n:Int}{k:Nat}{x:List Int}(h:confP LL m n k x=none):(x.length:Int)=m∧sortB x=true∧(∀y,y∈x->0<=y∧y<=n-1)∧(k=0∨ordL (LL.getD (k-1) []) x<0):=by
 unfold confP at h;split at h
 ·rename_i hb;simp only[confB,Bool.and_eq_true,decide_eq_true_eq,Bool.or_eq_true] at hb;exact⟨hb.1.1.1,hb.1.1.2,λy hy=>ek_.1 (List.all_eq_true.1 hb.1.2 y hy),hb.2⟩
 ·cases h
theorem fq_{LL:List (List Int)}{m n:Int}{k:Nat}{x:List Int}(h:confB LL m n k x=false):lpP (confP LL m n k x)=.ret false:=by simp[confP,h,lpP]
theorem mj_{LL:List (List Int)}{m n:Int}{k:Nat}{x:List Int}(h:confB LL m n k x=true):lpP (confP LL m n k x)=.go ():=by simp[confP,h,lpP]
theorem nH_(m:Nat)(x:List Int)(hx:x.length=m)(hm:m<=1000):∀(fuel j:Nat),1<=j->(∀(k:Nat) a b,k+1<j->x[k]? =some a->x[k+1]? =some b->a<=b)->m<fuel+j∧j<=m->
  (∃y,loopF (bw_ (m:Int) x) fuel (j:Int)=some (.inl y)∧sortB x=true)∨(loopF (bw_ (m:Int) x) fuel (j:Int)=some (.inr false)∧sortB x=false):=by
 intro fuel
 induction fuel with
 |zero=>
  intro j h1 h2 h3;omega
 | succ fuel ih=>
  intro j h1 h2 h3;by_cases hj:j<m
  ·have e1:x[j-1]? =some (x[j-1]'(by omega)):=List.getElem?_eq_getElem (by omega);have e2:x[j]? =some (x[j]'(by omega)):=List.getElem?_eq_getElem (by omega);by_cases hle:x[j-1]'(by omega)<=x[j]'(by omega)
   ·have hs:bw_ (m:Int) x (j:Int)=some (.go ((j+1:Nat):Int)):=by
     unfold bw_;rw[if_pos (by simp;omega),F_ (by omega) (by omega),sb,show(j:Int)-1=((j-1:Nat):Int) by omega,ca_,e1,sb,ca_,e2,sb,if_neg (by simp;omega),F_ (by omega) (by omega),sb];rfl
    rw[mv_ hs fuel];refine ih (j+1) (by omega) (λk a b hk ha hb=>?_) (by omega);by_cases e:k+1=j
    ·have:k=j-1:=by omega
     subst this;rw[e] at hb;rw[e1] at ha;rw[e2] at hb;cases ha;cases hb;exact hle
    ·exact h2 k a b (by omega) ha hb
   ·right;constructor
    ·have hs:bw_ (m:Int) x (j:Int)=some (.ret false):=by
      unfold bw_;rw[if_pos (by simp;omega),F_ (by omega) (by omega),sb,show(j:Int)-1=((j-1:Nat):Int) by omega,ca_,e1,sb,ca_,e2,sb,if_pos (by simp;omega)]
     simp only[loopF,hs]
    ·cases hb:sortB x with
     |false=>rfl
     |true=>
      exfalso;apply hle;exact fX_.1 hb (j-1) _ _ e1 (by rw[show j-1+1=j by omega];exact e2)
  ·left;refine⟨(j:Int),?_,?_⟩
   ·refine ix_ ?_ fuel;unfold bw_;rw[if_neg (by simp;omega)]
   ·refine fX_.2 λk a b ha hb=>h2 k a b ?_ ha hb;have:=(List.getElem?_eq_some_iff.1 hb).1;omega
theorem mq_(fuel:Nat)(LL:List (List Int))(m:Nat)(n:Int)(hm0:1<=m)(hm:m<=4)(hn:1<=n∧n<=8)(hf:10<=fuel)(hJ:LL.length<=1000000000):eU_ fuel LL (m:Int) n=some (confsB LL m n):=by
 unfold eU_ confsB;rw[do_ (confP LL m n) LL (λj x hj hall=>by
  have hjl:=(List.getElem?_eq_some_iff.1 hj).1;unfold eO_;by_cases h1:(x.length:Int)=m
  ·rw[if_neg (by simp[h1]),F_ (by omega) (by omega),sb,tb_,sb];by_cases h2:x.all (inB 0 (n-1))=true
   ·rw[if_neg (by simp[h2])];have hlast:(if decide ((j:Int)>0) then(ck ((j:Int)-1)>>=λx34=>ix LL x34>>=λx35=>em_ x35 x>>=λx43=>some (decide (x43>=0))) else some false)=some (!(decide (j=0)||decide (ordL (LL.getD (j-1) []) x<0))):=by
     cases j with
     |zero=>simp
     | succ j=>
      have hp:=iL_ (hall j LL[j] (by omega) (List.getElem?_eq_getElem (by omega)));rw[if_pos (by simp),F_ (by omega) (by omega),sb,show(((j+1:Nat):Int)-1)=(j:Int) by omega,gf_ _ _ (by omega),sb,
       mF_ _ _ (by omega) (λy hy=>by have:=hp.2.2.1 y hy;omega) (λy hy=>by have:=ek_.1 (List.all_eq_true.1 h2 y hy);omega),sb]
      have:LL.getD (j+1-1) []=LL[j]:=by simp[List.getElem?_eq_getElem (show j<LL.length by omega)]
      rw[this];by_cases h4:ordL LL[j] x<0
      ·simp[h4]
      ·simp[h4];omega
    rw[hlast,sb];cases h4:(decide (j=0)||decide (ordL (LL.getD (j-1) []) x<0))
    ·rw[if_pos (by simp),fq_ (by simp only[confB,h4,Bool.and_false])]
    ·rw[if_neg (by simp)];rcases nH_ m x (by omega) (by omega) fuel 1 (Nat.le_refl _) (λk a b hk=>by omega) ⟨by omega,by omega⟩ with⟨y,e1,e2⟩|⟨e1,e2⟩
     ·rw[show((1:Nat):Int)=1 from rfl] at e1;rw[e1,sb,mj_ (by simp only[confB,h1,h2,e2,h4,decide_true,Bool.and_self])]
     ·rw[show((1:Nat):Int)=1 from rfl] at e1;rw[e1,sb,fq_ (by simp[confB,e2])]
   ·rw[if_pos (by simp[h2]),sb,if_pos rfl,fq_ (by simp[confB,h2])]
  ·rw[if_pos (by simp;omega),sb,if_pos rfl,fq_ (by simp[confB,h1])]),sb]
 cases hc:firstP (confP LL m n) LL 0 with
 |none=>rfl
 |some r=>have:=mr_ hc;subst this;rfl
theorem fm_(fuel:Nat)(LL:List (List Int))(m:Nat)(n:Int)(hm:m<=4)(hn:1<=n∧n<=8)(hf:10<=fuel)(hJ:LL.length<=1000000000):bv_ fuel LL (m:Int) n=some (confsB LL m n):=by
 unfold bv_ confsB;rw[do_ (confP LL m n) LL (λj x hj hall=>by
  have hjl:=(List.getElem?_eq_some_iff.1 hj).1;unfold bZ_;by_cases h1:(x.length:Int)=m
  ·rw[if_neg (by simp[h1]),pJ_ _ _ (by omega) (by omega),sb];by_cases h3:sortB x=true
   ·rw[if_neg (by simp[h3]),F_ (by omega) (by omega),sb,nr_ _ _ _ (by omega),sb];by_cases h2:x.all (inB 0 (n-1))=true
    ·rw[if_neg (by simp[h2])];have hlast:(if decide ((j:Int)>0) then(ck ((j:Int)-1)>>=λx34=>ix LL x34>>=λx35=>P_ x35 x>>=λx43=>some (decide (x43>=0))) else some false)=some (!(decide (j=0)||decide (ordL (LL.getD (j-1) []) x<0))):=by
      cases j with
      |zero=>simp
      |succ j=>
       have hp:=iL_ (hall j LL[j] (by omega) (List.getElem?_eq_getElem (by omega)));rw[if_pos (by simp),F_ (by omega) (by omega),sb,show(((j+1:Nat):Int)-1)=(j:Int) by omega,gf_ _ _ (by omega),sb,jU_ _ _ (by omega),sb];have:LL.getD (j+1-1) []=LL[j]:=by simp[List.getElem?_eq_getElem (show j<LL.length by omega)]
       rw[this];by_cases h4:ordL LL[j] x<0
       ·simp[h4]
       ·simp[h4];omega
     rw[hlast,sb];cases h4:(decide (j=0)||decide (ordL (LL.getD (j-1) []) x<0))
     ·rw[if_pos (by simp),fq_ (by simp only[confB,h4,Bool.and_false])]
     ·rw[if_neg (by simp),mj_ (by simp only[confB,h1,h2,h3,h4,decide_true,Bool.and_self])]
    ·rw[if_pos (by simp[h2]),sb,if_pos rfl,fq_ (by simp[confB,h2])]
   ·rw[if_pos (by simp[h3]),sb,if_pos rfl,fq_ (by simp[confB,h3])]
  ·rw[if_pos (by simp;omega),sb,if_pos rfl,fq_ (by simp[confB,h1])]),sb]
 cases hc:firstP (confP LL m n) LL 0 with
 |none=>rfl
 |some r=>have:=mr_ hc;subst this;rfl
def probB(p:c_):Bool:=inB 1 8 p.Labels&&inB 1 4 p.Degree&&confsB p.Nodes p.Degree p.Labels&&confsB p.Edges 2 p.Labels
theorem hZ_(fuel:Nat)(hf:10<=fuel)(p:c_)(hJ:p.Nodes.length<=1000000000)(hE:p.Edges.length<=1000000000):ey_ fuel p=some (probB p):=by
 unfold ey_ probB;rw[oV_,sb];rw[show(decide (1<=p.Labels)&&decide (p.Labels<=8))=inB 1 8 p.Labels from rfl];cases h1:inB 1 8 p.Labels
 ·simp[sb]
 ·rw[if_pos rfl,oV_,sb];rw[show(decide (1<=p.Degree)&&decide (p.Degree<=4))=inB 1 4 p.Degree from rfl];cases h2:inB 1 4 p.Degree
  ·simp[sb]
  ·have h1':=ek_.1 h1;have h2':=ek_.1 h2;obtain⟨m,hm⟩:∃m:Nat,p.Degree=m:=⟨p.Degree.toNat,by omega⟩;rw[if_pos rfl,hm,mq_ fuel p.Nodes m p.Labels (by omega) (by omega) h1' hf hJ,sb];cases h3:confsB p.Nodes m p.Labels
   ·simp[sb]
   ·rw[if_pos rfl];have:=mq_ fuel p.Edges 2 p.Labels (by omega) (by omega) h1' hf hE;rw[show((2:Nat):Int)=2 from rfl] at this;rw[this,sb,sb];simp
theorem gk_(fuel:Nat)(hf:10<=fuel)(p:c_)(hJ:p.Nodes.length<=1000000000)(hE:p.Edges.length<=1000000000):cL_ fuel p=some (probB p):=by
 unfold cL_ probB;rw[ih_,sb];rw[show(decide (1<=p.Labels)&&decide (p.Labels<=8))=inB 1 8 p.Labels from rfl];cases h1:inB 1 8 p.Labels
 ·simp[sb]
 ·rw[if_pos rfl,ih_,sb];rw[show(decide (1<=p.Degree)&&decide (p.Degree<=4))=inB 1 4 p.Degree from rfl];cases h2:inB 1 4 p.Degree
  ·simp[sb]
  ·have h1':=ek_.1 h1;have h2':=ek_.1 h2;obtain⟨m,hm⟩:∃m:Nat,p.Degree=m:=⟨p.Degree.toNat,by omega⟩;rw[if_pos rfl,hm,fm_ fuel p.Nodes m p.Labels (by omega) h1' hf hJ,sb];cases h3:confsB p.Nodes m p.Labels
   ·simp[sb]
   ·rw[if_pos rfl];have:=fm_ fuel p.Edges 2 p.Labels (by omega) h1' hf hE;rw[show((2:Nat):Int)=2 from rfl] at this;rw[this,sb,sb];simp
theorem fW_{LL:List (List Int)}{m n:Int}(h:confsB LL m n=true):(∀x,x∈LL->(x.length:Int)=m∧sortB x=true∧∀y,y∈x->0<=y∧y<=n-1)∧LL.Pairwise (λa b=>ordL a b<0):=by
 unfold confsB at h;rw[Option.isNone_iff_eq_none] at h;have hp:=cN_.1 h;have hm:∀(j:Nat) x,LL[j]? =some x->(x.length:Int)=m∧sortB x=true∧(∀y,y∈x->0<=y∧y<=n-1)∧(j=0∨ordL (LL.getD (j-1) []) x<0):=λj x hj=>by
  have:=hp j x hj;rw[Nat.zero_add] at this;exact iL_ this
 refine⟨λx hx=>?_,?_⟩
 ·obtain⟨j,hj⟩:=List.mem_iff_getElem?.1 hx;have:=hm j x hj;exact⟨this.1,this.2.1,this.2.2.1⟩
 ·have key:∀(d i:Nat)(hi:i+d+1<LL.length),ordL (LL[i]'(by omega)) LL[i+d+1]<0:=by
   intro d
   induction d with
   |zero=>
    intro i hi;have:=(hm (i+1) _ (List.getElem?_eq_getElem hi)).2.2.2;simpa [List.getElem?_eq_getElem (show i<LL.length by omega)] using this
   |succ d ih=>
    intro i hi;have h1:=ih i (by omega);have:=(hm (i+d+1+1) _ (List.getElem?_eq_getElem hi)).2.2.2;have h2:ordL (LL[i+d+1]'(by omega)) LL[i+(d+1)+1]<0:=by simpa [List.getElem?_eq_getElem (show i+d+1<LL.length by omega)] using this
    have l1:=(hm i _ (List.getElem?_eq_getElem (by omega))).1;have l2:=(hm (i+d+1) _ (List.getElem?_eq_getElem (by omega))).1;have l3:=(hm (i+(d+1)+1) _ (List.getElem?_eq_getElem hi)).1;exact iv_ (by omega) (by omega) h1 h2
  rw[List.pairwise_iff_getElem];intro i j hi hj hij;have:=key (j-i-1) i (by omega);simpa [show i+(j-i-1)+1=j by omega] using this
theorem jz_(fuel:Nat)(LL:List (List Int))(m n:Int)(hc:confsB LL m n=true)(t:List Int)(ht:(t.length:Int)=m)(hJ:LL.length<=1000000000)(hl:t.length<=1000000000)(hf:LL.length<fuel):bg_ fuel LL t=some (decide (srt t∈LL)):=by
 obtain⟨hm,hp⟩:=fW_ hc;have hs:=dK_ t;generalize hst:srt t=s at hs;unfold bg_ srtO;rw[if_pos hl,sb,hst];have hcmp:∀x,x∈LL->P_ x s=some (ordL x s):=λx hx=>jU_ x s (by have:=(hm x hx).1;omega);obtain⟨c1,c2⟩:=gC_ (λx=>decide (x.length=s.length)&&decide (ordL x s<0)) LL (hp.imp_of_mem λ{a b} ha hb hab h=>by
  simp only[Bool.and_eq_true,decide_eq_true_eq] at h ⊢;have l1:=(hm a ha).1;exact⟨by omega,iv_ (by omega) h.1 hab h.2⟩)
 have hcl:LL.countP (λx=>decide (x.length=s.length)&&decide (ordL x s<0))<=LL.length:=List.countP_le_length;generalize LL.countP (λx=>decide (x.length=s.length)&&decide (ordL x s<0))=c at c1 c2 hcl;have hat:∀(j:Nat)(hj:j<LL.length),(decide (LL[j].length=s.length)&&decide (ordL LL[j] s<0))=decide (ordL LL[j] s<0):=λj hj=>by
  have:=(hm _ (List.getElem_mem hj)).1;rw[show decide (LL[j].length=s.length)=true by rw[decide_eq_true_eq];omega,Bool.true_and]
 unfold aj_;have:=qh_ (f:=T_ LL s (λz18:(List Int)×(List Int)=>P_ z18.1 z18.2)) (λj=>decide (ordL (LL.getD j []) s<0)) LL.length c hcl (λlo hi h1 h2=>by
   have hmid:(lo+hi)/2<LL.length:=by omega
   unfold T_;simp only
   rw[if_pos (by simpa using h1)];have e:=sN_ (lo:=lo) (hi:=hi) (by omega);rw[F_ (by omega) (by omega),sb] at e ⊢;unfold cvU at e ⊢;rw[if_pos (by omega),sb] at e ⊢;cases hsh:shr ((lo:Int)+hi) 1 with
   |none=>rw[hsh] at e;cases e
   |some z=>
    rw[hsh,sb] at e;rw[sb];rw[e,sb,gf_ _ _ hmid,sb,hcmp _ (List.getElem_mem hmid),sb];rw[show LL.getD ((lo+hi)/2) []=LL[(lo+hi)/2] by simp[List.getElem?_eq_getElem hmid]];by_cases hlt:ordL LL[(lo+hi)/2] s<0
    ·simp only[decide_eq_true hlt,if_true];rw[F_ (by omega) (by omega),sb];rfl
    ·simp only[decide_eq_false hlt];rfl)
  (λlo h=>by
   unfold T_;simp only
   rw[if_neg (by simp)]) (λj hj=>by
   have hjl:j<LL.length:=by omega
   have:=c1 j _ (List.getElem?_eq_getElem hjl) hj;rw[hat j hjl] at this;simpa [List.getElem?_eq_getElem hjl] using this) (λj hj hjl=>by
   have:=c2 j _ (List.getElem?_eq_getElem hjl) hj;rw[hat j hjl] at this;simpa [List.getElem?_eq_getElem hjl] using this) fuel 0 LL.length (Nat.zero_le _) hcl (Nat.le_refl _) (by omega)
 rw[show((0:Nat):Int)=0 from rfl] at this;rw[this,sb];simp only
 have hnot:∀(j:Nat)(hj:j<LL.length),LL[j]=s->c<=j:=λj hj e=>by
  rcases Nat.lt_or_ge j c with h|h
  ·have:=c1 j _ (List.getElem?_eq_getElem hj) h;rw[hat j hj,e,decide_eq_true_eq,(kj_ rfl).2 rfl] at this;omega
  ·exact h
 by_cases hlt:c<LL.length
 ·rw[if_pos (by simpa using hlt),gf_ _ _ hlt,sb,hcmp _ (List.getElem_mem hlt),sb,sb,sb];simp only
  congr 1;rw[Bool.eq_iff_iff,beq_iff_eq,decide_eq_true_eq,kj_ (by have:=(hm _ (List.getElem_mem hlt)).1;omega)];constructor
  ·intro e;rw[<-e];exact List.getElem_mem hlt
  ·intro e;obtain⟨j,hj,hj2⟩:=List.mem_iff_getElem.1 e;have h1:=hnot j hj hj2;by_cases hjc:c=j
   ·subst hjc;exact hj2
   ·exfalso;rw[List.pairwise_iff_getElem] at hp;have h2:=hp c j hlt hj (by omega);rw[hj2] at h2;have:=c2 c _ (List.getElem?_eq_getElem hlt) (Nat.le_refl _);rw[hat c hlt,decide_eq_false_iff_not] at this;exact this h2
 ·rw[if_neg (by simpa using hlt),sb,sb];have:s ∉ LL:=by
   intro e;obtain⟨j,hj,hj2⟩:=List.mem_iff_getElem.1 e;have:=hnot j hj hj2;omega
  simp[this]
theorem iu_(LL:List (List Int))(x:List Int)(hl:x.length<=1000000000):fz_ LL x=some (decide (x∈LL)):=by
 unfold fz_;rw[do_ (λ_ y=>if decide (x=y) then some true else none) LL (λj y hj _=>by
  unfold ge_;rw[oB_ _ _ hl,sb];by_cases h:x=y<;>simp[h,lpP]),sb]
 cases hc:firstP (λ_ y=>if decide (x=y) then some true else none) LL 0 with
 | none=>
  have:x ∉ LL:=λhm=>by
   obtain⟨j,hj⟩:=List.mem_iff_getElem?.1 hm;have:=cN_.1 hc j x hj;simp at this
  simp[outP,this]
 |some r=>
  obtain⟨j,y,h1,h2⟩:=dp_ hc;by_cases e:x=y
  ·subst e;simp at h2;subst h2;simp[outP,List.mem_of_getElem? h1]
  ·simp[e] at h2
theorem st_(fuel:Nat)(p:c_)(t:List Int)(hl:t.length<=1000000)(hf:t.length<fuel):gN_ fuel p t=some (decide (srt t∈p.Nodes)):=by
 unfold gN_;rw[hs_ _ _ hf (by omega),sb,<-fp_,iu_ _ _ (by rw[dK_];omega),sb]
theorem tx_(a b:Int):srt [a,b]=if a<=b then [a,b] else [b,a]:=by
 refine List.Perm.eq_of_pairwise (le:=λa b=>a<=b) (λa b _ _ h1 h2=>Int.le_antisymm h1 h2) (kE_ _) ?_ ((op_ _).trans ?_)
 ·split<;>simp<;>omega
 ·split
  ·exact List.Perm.refl _
  ·exact List.Perm.swap _ _ _
theorem os_(p:c_)(a b:Int):fK_ p a b=some (decide (srt [a,b]∈p.Edges)):=by
 unfold fK_ ht_ hQ_;have:srt [a,b]=[if a<b then a else b,if a>b then a else b]:=by
  rw[tx_];by_cases h:a<b
  ·rw[if_pos (by omega),if_pos h,if_neg (by omega)]
  ·by_cases h2:a>b
   ·rw[if_neg (by omega),if_neg h,if_pos h2]
   ·have:a=b:=by omega
    subst this;simp
 rw[this];by_cases h:a<b
 ·have h2:¬a>b:=by omega
  rw[if_pos (by simpa using h),sb,if_neg (by simpa using h2),sb,if_pos h,if_neg h2,iu_ _ _ (by simp),sb]
 ·by_cases h2:a>b
  ·rw[if_neg (by simpa using h),sb,if_pos (by simpa using h2),sb,if_neg h,if_pos h2,iu_ _ _ (by simp),sb]
  ·rw[if_neg (by simpa using h),sb,if_neg (by simpa using h2),sb,if_neg h,if_neg h2,iu_ _ _ (by simp),sb]
theorem aH_{p:c_}(h:probB p=true):1<=p.Labels∧p.Labels<=8∧1<=p.Degree∧p.Degree<=4∧confsB p.Nodes p.Degree p.Labels=true∧confsB p.Edges 2 p.Labels=true:=by
 simp only[probB,Bool.and_eq_true] at h;have h1:=ek_.1 h.1.1.1;have h2:=ek_.1 h.1.1.2;exact⟨h1.1,h1.2,h2.1,h2.2,h.1.2,h.2⟩
theorem sL_(fuel:Nat)(p:c_)(h:probB p=true)(t:List Int)(ht:(t.length:Int)=p.Degree)(hJ:p.Nodes.length<=1000000000)(hf:p.Nodes.length<fuel):cJ_ fuel p t=some (decide (srt t∈p.Nodes)):=by
 obtain⟨h1,h2,h3,h4,h5,h6⟩:=aH_ h;unfold cJ_;rw[jz_ fuel _ _ _ h5 t ht hJ (by omega) hf,sb]
theorem qn_(fuel:Nat)(p:c_)(h:probB p=true)(a b:Int)(hJ:p.Edges.length<=1000000000)(hf:p.Edges.length<fuel):cI_ fuel p a b=some (decide (srt [a,b]∈p.Edges)):=by
 obtain⟨h1,h2,h3,h4,h5,h6⟩:=aH_ h;unfold cI_;rw[jz_ fuel _ _ _ h6 [a,b] (by simp) hJ (by simp) hf,sb]
end
section
set_option maxRecDepth 100000
set_option maxHeartbeats 2000000
open Go.RowKit
def gV_(d:List Int):Int->Int->(List Int)->Option (Lp (List Int) (List Int) (List Int)):=λ(f:Int)(a:Int)(s:List Int)=>
  (ix d a)>>=λb=>
  (push s b)>>=λc=>
  some (.go c)
def lU_(a:List Int)(b:List Int):Option (List Int):=
  (forI (gV_ b) a 0 [])>>=λc=>
  match c with
  | .inl d=>
    some d
  | .inr _=>none
end
section
theorem nb_{α σ ρ:Type}{body:Int->α->σ->Option (Lp σ σ ρ)}(R:Nat->σ):∀(xs:List α)(k:Nat),(∀(j:Nat) x,xs[j]? =some x->body ((k+j:Nat):Int) x (R (k+j))=some (.go (R (k+j+1))))->
  forI body xs (k:Int) (R k)=some (.inl (R (k+xs.length)))
 |[],k,h=>rfl
 |x::xs,k,h=>by
  have h0:=h 0 x rfl;simp only[Nat.add_zero] at h0;simp only[forI,h0];rw[show((k:Int)+1)=((k+1:Nat):Int) by omega];rw[nb_ R xs (k+1) (λj y hj=>by have:=h (j+1) y (by simpa using hj);rw[show k+(j+1)=k+1+j by omega] at this;exact this)];rw[List.length_cons,show k+1+xs.length=k+(xs.length+1) by omega]
theorem kW_{α σ ρ:Type}{body:Int->α->σ->Option (Lp σ σ ρ)}(R:Nat->σ)(xs:List α)(h:∀(j:Nat) x,xs[j]? =some x->body (j:Int) x (R j)=some (.go (R (j+1)))):
  forI body xs 0 (R 0)=some (.inl (R xs.length)):=by
 have:=nb_ R xs 0 (λj x hj=>by rw[Nat.zero_add];exact h j x hj);rw[Nat.zero_add] at this;exact this
def imgL(t x:List Int):List Int:=x.map λy=>t.getD y.toNat 0
theorem fR_{α:Type}{xs:List α}{j:Nat}{x:α}(h:xs[j]? =some x):xs.take (j+1)=xs.take j++[x]:=by
 rw[List.take_add_one,h];rfl
theorem nU_(t x:List Int)(ht:t.length<=1000000)(h:∀y,y∈x->0<=y∧y<t.length)(hx:x.length<=1000):eJ_ t x=some (imgL t x)∧lU_ x t=some (imgL t x):=by
 have step:∀(j:Nat)(y:Int),x[j]? =some y->ix t y=some (t.getD y.toNat 0):=λj y hj=>by
  have:=h y (List.mem_of_getElem? hj);unfold ix;rw[if_pos this.1,List.getD_eq_getElem?_getD,List.getElem?_eq_getElem (by omega)];rfl
 constructor
 ·unfold eJ_;have:=kW_ (body:=df_ t) (λj=>imgL t (x.take j)) x (λj y hj=>by
   unfold df_ push;rw[step j y hj,sb,if_pos (by simp[imgL];omega),sb,fR_ hj];simp[imgL])
  rw[List.take_length] at this;rw[show([]:List Int)=imgL t (x.take 0) from rfl,this,sb]
 ·unfold lU_;have:=kW_ (body:=gV_ t) (λj=>imgL t (x.take j)) x (λj y hj=>by
   unfold gV_ push;rw[step j y hj,sb,if_pos (by simp[imgL];omega),sb,fR_ hj];simp[imgL])
  rw[List.take_length] at this;rw[show([]:List Int)=imgL t (x.take 0) from rfl,this,sb]
end
section
section
variable {α β:Type} [Rp α] [Rp β] {e er:TypeId} {o oo:Tg} {w w0:World} {v:Value}
theorem Of.rt2{xs:List α}(h:Of e o w v xs)(hB:Bs oo o w0 w)(k kr t:Nat)(hk:2<=k)(hkr:2<=kr):Of e (Go.Proofs.YtdbbeldgdgonfaaGreat.rt2 oo o w0.heap.size k kr t) w v xs:=by
 obtain⟨css,h1,h2,h3,h4⟩:=h;exact⟨css,h1,h2,λg hg=>ib_ hB k kr t g hk hkr (h3 g hg),λi cs x a b=>Rp.mv (h4 i cs x a b) (Nat.le_refl _) λb _ hb=>⟨rfl,ib_ hB k kr t b hk hkr hb⟩⟩
theorem Dz.rt2{xs:List (List α)}(h:Dz e er o w v xs)(hB:Bs oo o w0 w)(k kr t:Nat)(hk:2<=k)(hkr:2<=kr):Dz e er (Go.Proofs.YtdbbeldgdgonfaaGreat.rt2 oo o w0.heap.size k kr t) w v xs:=by
 obtain⟨vs,h1,h2⟩:=h;exact⟨vs,Of.rt2 h1 hB k kr t hk hkr,h2.1,λi u x a b=>Of.rt2 (h2.2.1 i u x a b) hB k kr t hk hkr,h2.2.2⟩
theorem RdL.rt2{xs:List β}(h:RdL o w v xs)(hB:Bs oo o w0 w)(k kr t:Nat)(hk:2<=k)(hkr:2<=kr):RdL (Go.Proofs.YtdbbeldgdgonfaaGreat.rt2 oo o w0.heap.size k kr t) w v xs:=h.mv (Nat.le_refl _) λb _ hb=>⟨rfl,ib_ hB k kr t b hk hkr hb⟩
end
end
section
set_option maxRecDepth 100000
set_option maxHeartbeats 2000000
open Go.RowKit
theorem eN_:Inf tX_ 41 (.slice none 0 0) 1 24:=by unfold Inf;kernel_rfl
def bN_(f:List (List Int))(g:List Int):Int->Option (Lp Int Int (List (List Int))):=λ(s:Int)=>
  (
    if decide (s<(f.length:Int)) then
      (ix f s)>>=λa=>
      (em_ a g)>>=λb=>
      some (decide (b<0))
    else
      some false)>>=λc=>
  if c then
    (ck (s+1))>>=λd=>
    some (.go d)
  else
    some (.out s)
def fb_(fuel:Nat)(a:List (List Int))(c:List Int):Option (List (List Int)):=
  (loopF (bN_ a c) fuel 0)>>=λq=>
  match q with
  | .inl b=>
    (
      if decide (b<(a.length:Int)) then
        (ix a b)>>=λd=>
        (fN_ d c)>>=λf=>
        some f
      else
        some false)>>=λg=>
    if g then
      some a
    else
      (cut a 0 b)>>=λi=>
      (cat ([]:List (List Int)) i)>>=λj=>
      (push j c)>>=λk=>
      (cut a b a.length)>>=λm=>
      (cat k m)>>=λn=>
      some n
  | .inr _=>none
def nF_(oo:Tg)(t:Nat)(w:World)(r:Yk):Ending->World->Prop:=λe w'=>∃(a:Value)(o':Tg),e=.returned (a)∧RdL o' w' a r∧Keeps w w'∧∀b,b<w.heap.size->o' b=oo b
theorem oa_(fuel:Nat)(w:World)(oo:Tg)(t:Nat)(ht:2<=t)(j:Value)(C:Yk)(d:RdL oo w j C)(k:Value)(B:Yl)(f:RdL oo w k B)(r:Yk)(hF:fb_ fuel C B=some r):
    Calls tX_ 158 #[j,k] w (nF_ oo t w r):=by
 unfold fb_ at hF;replace d:=RdL.col d;replace f:=RdL.col f;have hB:Bs oo (col oo) w w:=Bs.start _ _;refine j_ (n:=49) (vs:=[j,k]) Tryz.func158 rfl rfl ?_;generalize col oo=o at*;refine Zq (Za rfl (Ze [(0,_),(1,_)] (Zn (Za rfl (Ze [(0,_),(1,_),(5,_)] (nx ?_))))));obtain⟨d7,b0,hF⟩:=a_ hF;refine jm_ (λa s=>∃(m:Int)(u:Tg),d7=.inl m∧Fr a 49 [(0,j),(1,k),(5,ZI m)]∧Bs oo u w s∧RdL u s j C∧RdL u s k B) (λ_ _=>False) ?_ ?_ ?_
 ·refine f_ ?_;refine z_ (λ(K:Nat) a s=>∃(m:Int)(u:Tg),loopF (bN_ C B) K m=some d7∧Fr a 49 [(0,j),(1,k),(5,ZI m)]∧Bs oo u w s∧RdL u s j C∧RdL u s k B) fuel (λa ha=>⟨0,o,b0,ha.sb,hB,d,f⟩) ?_;rintro K8 a s ⟨m,u,d8,ha,hB,d,f⟩;obtain⟨K12,h3,d9,q,N⟩:=ad_ d8;dsimp only[bN_] at q;refine O_ ha ?_;refine b_ (Zq (Zm rfl (Zm rfl (Zv (J_ rfl d ub_) (Zv (u_ rfl rfl) (Zm rfl ?_))))));obtain⟨O,g,q⟩:=a_ q;refine aF_ 8 (λb1 P=>Fr b1 49 [(0,j),(1,k),(5,ZI m),(19,.bool O)]∧Keeps s P) ?_ ?_;all_goals simp only[List.take_succ_cons,List.take_zero,List.drop_succ_cons,List.drop_zero]
  ·have kp:Keeps s s:=Keeps.refl _;rcases Bool.eq_false_or_eq_true (decide (m<(C.length:Int))) with b|b
   ·rw[if_pos b] at g;refine q_ (g_ rfl) (by decide) ⟨_,rfl,Zb b⟩ (q_ (g_ rfl) (by decide) ⟨_,rfl,Zb b⟩ ?_);obtain⟨b2,Q,g⟩:=a_ g;refine ct_ (by decide) ⟨_,rfl,Zb b⟩ ?_;refine fn_ d Q rfl rfl ub_ uf_ ?_;intro e0 e1 e2 b3 b4;obtain⟨e3,rfl,b5⟩:=b4;refine q_ (e_ rfl ug_ (i_ b3)) (by decide) ⟨_,rfl,Zb b⟩ (q_ (g_ rfl) (by decide) ⟨_,rfl,Zb b⟩ ?_);obtain⟨R,S,g⟩:=a_ g;refine ct_ (by decide) ⟨_,rfl,Zb b⟩ ?_;refine o_ (kS_ s _ b2 b5.z _ B f.z R S) Tryz.call107 ⟨rfl,rfl,trivial⟩ ?_;rintro e4 e5 ⟨rfl,T⟩;have U:=T.stp 999 u;refine⟨_,rfl,?_⟩;replace d:=d.stp U;replace f:=f.stp U;replace kp:=Keeps.trans kp T;refine q_ (u_ rfl rfl) (by decide) ⟨_,rfl,Zb b⟩ (Zv (L_ (Zb b) rfl) ?_);have v:=Zj g;refine Ze [(0,_),(1,_),(5,_),(19,_)] ?_;subst v;refine s_ (λa ha=>⟨ha,kp⟩)
   ·replace g:=ZF b g;refine v_ rfl rfl (by rw[b];rfl) (by decide) ?_;refine v_ rfl rfl (by rw[b];rfl) (by decide) ?_;refine v_ rfl rfl (by rw[b];rfl) (by decide) ?_;refine v_ rfl rfl (by rw[b];rfl) (by decide) ?_;refine v_ rfl rfl (by rw[b];rfl) (by decide) ?_;refine v_ rfl rfl (by rw[b];rfl) (by decide) ?_;refine v_ rfl rfl (by rw[b];rfl) (by decide) ?_;refine Zv (G_ (Zb b) rfl) ?_;have v:=Zj g;refine Ze [(0,_),(1,_),(5,_),(19,_)] ?_;subst v;refine s_ (λa ha=>⟨ha,kp⟩)
  rintro e6 P ⟨ha,b6⟩;have D:=b6.stp 999 u;replace d:=d.stp D;replace f:=f.stp D;replace hB:=hB.stp D;refine aS_ ha ?_;refine Ze [(0,_),(1,_),(5,_),(19,_)] (nx ?_);refine p_ rfl (λE=>?_) (λE=>?_)
  ·rw[if_pos E] at q;refine h_ (nx (f_ (d_ (Zm rfl ?_))));obtain⟨F,V,q⟩:=a_ q;refine Zv (C_ rfl rfl V) (Za rfl (Ze [(0,_),(1,_),(5,_)] (y_ (x_ ?_))));have b7:=Zj q;subst b7;refine Zk [(0,_),(1,_),(5,_)] ?_;intro a ha;exact⟨K12,by omega,F,u,N,ha,hB,d,f⟩
  ·replace q:=ZF E q;refine w_ ?_;refine m_ (m_ (Q_ ?_));refine s_ ?_;have b8:=Zj q;subst b8;refine Zk [(0,_),(1,_),(5,_)] ?_;intro a ha;exact⟨m,u,N,ha,hB,d,f⟩
 ·rintro a s ⟨m,u,rfl,ha,hB,d,f⟩;dsimp only at hF;refine O_ ha ?_;refine b_ (Zq (Zm rfl (Zm rfl (Zv (J_ rfl d ub_) (Zv (u_ rfl rfl) (Zm rfl ?_))))));obtain⟨W,i,hF⟩:=a_ hF;refine aF_ 7 (λb9 X=>Fr b9 49 [(0,j),(1,k),(5,ZI m),(33,.bool W)]∧Keeps s X) ?_ ?_;all_goals simp only[List.take_succ_cons,List.take_zero,List.drop_succ_cons,List.drop_zero]
  ·have kp:Keeps s s:=Keeps.refl _;rcases Bool.eq_false_or_eq_true (decide (m<(C.length:Int))) with c|c
   ·rw[if_pos c] at i;refine q_ (g_ rfl) (by decide) ⟨_,rfl,Zb c⟩ (q_ (g_ rfl) (by decide) ⟨_,rfl,Zb c⟩ ?_);obtain⟨c0,Y,i⟩:=a_ i;refine ct_ (by decide) ⟨_,rfl,Zb c⟩ ?_;refine fn_ d Y rfl rfl ub_ uf_ ?_;intro e7 e8 e9 c1 c2;obtain⟨f0,rfl,c3⟩:=c2;refine q_ (e_ rfl ug_ (i_ c1)) (by decide) ⟨_,rfl,Zb c⟩ (q_ (g_ rfl) (by decide) ⟨_,rfl,Zb c⟩ ?_);obtain⟨Z,a0,i⟩:=a_ i;refine ct_ (by decide) ⟨_,rfl,Zb c⟩ ?_;refine o_ (nd_ s _ c0 c3.z _ B f.z Z a0) Tryz.call115 ⟨rfl,rfl,trivial⟩ ?_;rintro f1 f2 ⟨rfl,a1⟩;have a2:=a1.stp 999 u;refine⟨_,rfl,?_⟩;replace d:=d.stp a2;replace f:=f.stp a2;replace kp:=Keeps.trans kp a1;refine Zv (L_ (Zb c) rfl) ?_;have x:=Zj i;refine Ze [(0,_),(1,_),(5,_),(33,_)] ?_;subst x;refine s_ (λa ha=>⟨ha,kp⟩)
   ·replace i:=ZF c i;refine v_ rfl rfl (by rw[c];rfl) (by decide) ?_;refine v_ rfl rfl (by rw[c];rfl) (by decide) ?_;refine v_ rfl rfl (by rw[c];rfl) (by decide) ?_;refine v_ rfl rfl (by rw[c];rfl) (by decide) ?_;refine v_ rfl rfl (by rw[c];rfl) (by decide) ?_;refine v_ rfl rfl (by rw[c];rfl) (by decide) ?_;refine Zv (G_ (Zb c) rfl) ?_;have x:=Zj i;refine Ze [(0,_),(1,_),(5,_),(33,_)] ?_;subst x;refine s_ (λa ha=>⟨ha,kp⟩)
  rintro f3 X ⟨ha,c4⟩;have G:=c4.stp 999 u;replace d:=d.stp G;replace f:=f.stp G;replace hB:=hB.stp G;refine aS_ ha ?_;refine Ze [(0,_),(1,_),(5,_),(33,_)] (nx ?_);refine p_ rfl (λH=>?_) (λH=>?_)
  ·rw[if_pos H] at hF;refine Zq (Zm rfl (Za rfl (Ze [(4,_)] (nx (n_ (I_ ?_))))));have c5:=Zj hF;subst c5;refine Zr vQ_ [j] ?_;exact⟨_,rt oo u w.heap.size 9 t,rfl,d.rt hB 9 t (by decide),hB.keeps,ac_ _ _ _ _ _⟩
  ·replace hF:=ZF H hF;refine h_ (Zn (Zo ?_));refine gj_ w.heap.size 13 hB.keeps.size (o:=u) (cs:=[]) (xs:=([]:Yk)) (vs:=[]) rfl rfl trivial ub_ uf_ uk_ (by decide) fill0 (by simp) ?_;intro f4 f5 f6 c6 I;replace d:=d.stp I;replace f:=f.stp I;replace hB:=hB.stp I;refine Zm rfl (Zm rfl ?_);obtain⟨f7,a3,hF⟩:=a_ hF;refine Zo ?_;refine lv_ d a3 rfl rfl rfl ub_ uf_ ?_;intro f8 c7;obtain⟨f9,a4,hF⟩:=a_ hF;refine Zo ?_;refine bf_ c6 c7 a4 (by decide) hB.keeps.size rfl rfl ub_ eN_ rfl (by decide) ?_;intro c8 g0 c9 J L;replace d:=d.stp L;replace f:=f.stp L;replace hB:=hB.stp L;refine Za rfl (Ze [(0,_),(1,_),(5,_),(6,_)] (Zn (Zm rfl (Zm rfl (Zo ?_)))));refine aB_ (o:=c8) (cs:=[k]) (xs:=([B]:Yk)) (vs:=[(0,k)]) ⟨_,_,rfl,jL_ f,rfl⟩ rfl ⟨rfl,rfl,trivial⟩ ub_ uf_ uk_ (by decide) (fill1 f.cells1) (by simp) ?_;intro g1 g2 g3 d0 y g4;replace d:=d.stp y;replace f:=f.stp y;replace J:=J.stp y;replace hB:=hB.stp y;obtain⟨g5,a5,hF⟩:=a_ hF;refine Zo ?_;refine bf_ J d0 (ai_ a5) (by decide) hB.keeps.size rfl rfl ub_ eN_ rfl (by decide) ?_;intro g6 g7 d1 d2 M;replace d:=d.stp M;replace f:=f.stp M;replace hB:=hB.stp M;refine Za rfl (Ze [(0,_),(5,_),(6,_)] (Zn (Zm rfl (Zm rfl (Zm rfl ?_)))));obtain⟨g8,a6,hF⟩:=a_ hF;refine Zo ?_;refine lv_ d a6 rfl rfl rfl ub_ uf_ ?_;intro g9 d3;obtain⟨h0,a7,hF⟩:=a_ hF;refine Zo ?_;refine bf_ d2 d3 a7 (by decide) hB.keeps.size rfl rfl ub_ eN_ rfl (by decide) ?_;intro d4 h1 a8 A a9;replace d:=d.stp a9;replace hB:=hB.stp a9;refine Za rfl (Ze [(4,_)] (nx (n_ ?_)));have h2:=A.frzF;replace A:=A.frz;replace hB:=hB.frz 13 (by decide);generalize (frz 13 d4)=d5 at*;have d6:=Zj hF;subst d6;refine Zr vQ_ [a8] ?_;exact⟨_,rt oo d5 w.heap.size 9 t,rfl,A.rt hB 9 t (by decide),hB.keeps,ac_ _ _ _ _ _⟩
 ·exact λ_ _ h=>h.elim
end
end Go.Proofs.YtdbbeldgdgonfaaGreat
