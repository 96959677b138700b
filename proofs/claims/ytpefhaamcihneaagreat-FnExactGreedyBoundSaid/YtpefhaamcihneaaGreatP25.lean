/- Part 25 of what this claim rests on (pack.py). -/
import Derived.Test.YtpefhaamcihneaaGreatP24
namespace Go.Proofs.YtpefhaamcihneaaGreat
set_option linter.unusedSimpArgs false
set_option linter.unusedVariables false
set_option maxRecDepth 100000
set_option maxHeartbeats 2000000
open Go.RowKit
theorem eh{α β ρ:Type}{body:Int->α->List β->Option (Lp (List β) (List β) ρ)}(g:α->List β)(N:Nat):∀(xs:List α)(k:Int)(a:List β),
  a.length+(xs.flatMap g).length<=N->(∀x∈xs,∀(j:Int)(b:List β),b.length+(g x).length<=N->body j x b=some (.go (b++g x)))->
  forI body xs k a=some (.inl (a++xs.flatMap g))
 |[],k,a,_,_=>by simp[forI]
 |x::xs,k,a,h,d=>by
  rw[eA,ar] at h;have e:=d x sy k a om;simp only[forI,e];rw[eh g N xs (k+1) (a++g x) (by rw[ar];omega) (λy f=>d y (sh f)),eA,bC]
theorem iW{α ρ:Type}{body:Int->α->Unit->Option (Lp Unit Unit ρ)}(Q:α->Prop)(R:ρ->Prop):∀(xs:List α)(k:Int),
  (∀x∈xs,∀j:Int,∃z,body j x ()=some z∧((z=.go ()∧¬Q x)∨∃r,z=.ret r∧R r∧Q x))->
  ∃z,forI body xs k ()=some z∧((z=.inl ()∧∀x∈xs,¬Q x)∨∃r,z=.inr r∧R r∧∃x∈xs,Q x)
 |[],k,_=>⟨_,rfl,.inl ⟨rfl,by simp⟩⟩
 | x::xs,k,h=>by
  obtain⟨z,f,g⟩:=h x sy k;rcases g with⟨rfl,i⟩|⟨r,rfl,e,d⟩
  ·obtain⟨z,m,b⟩:=iW Q R xs (k+1) (λy a=>h y (sh a));refine⟨z,by simp only[forI,f];exact m,?_⟩;rcases b with⟨rfl,b⟩|⟨r,rfl,e,y,a,d⟩
   ·refine .inl ⟨rfl,λy a=>?_⟩;rcases I_.1 a with rfl|a
    ·exact i
    ·exact b y a
   ·exact .inr ⟨r,rfl,e,y,by simp[a],d⟩
  ·exact⟨.inr r,by simp only[forI,f],.inr ⟨r,rfl,e,x,sy,d⟩⟩
theorem pn{α:Type}(p:α->Bool):∀xs:List α,(xs.flatMap λx=>if p x then [x] else [])=xs.filter p
 |[]=>rfl
 |x::xs=>by
  rw[eA,pn p xs,gd];split<;>simp
def extD(n:Nat)(x:List Int):List (List Int):=(List.range' (x.getLastD 0).toNat (n-(x.getLastD 0).toNat)).map λa:Nat=>x++[(a:Int)]
def msD(n:Nat):Nat->List (List Int)
  |0=>[[]]
  |d+1=>(msD n d).flatMap (extD n)
theorem CV(n:Nat)(x:List Int):(extD n x).length<=n:=by
 unfold extD;rw[aA,yg];omega
theorem jz{α β:Type}{g:α->List β}{m:Nat}:∀xs:List α,(∀x∈xs,(g x).length<=m)->(xs.flatMap g).length<=xs.length*m
 |[],_=>by simp
 |x::xs,h=>by
  have d:=h x sy;have b:=jz xs (λy a=>h y (sh a));rw[eA,ar,ao,dU];omega
theorem ep(n:Nat):∀d,(msD n d).length<=n^d
 |0=>by simp[msD]
 |d+1=>by
  have a:=ep n d;have b:=jz (g:=extD n) (m:=n) (msD n d) λx _=>CV n x;have e:(msD n d).length*n<=n^d*n:=qQ n a;rw[dx];unfold msD;omega
theorem xf{x:List Int}(d:x.Pairwise (·<=·)):∀y∈x,y<=x.getLastD 0:=by
 intro y b;rcases gm x with rfl|⟨u,a,rfl⟩
 ·simp at b
 ·rw[gn] at d b ⊢;rw[jT];rcases bX.1 b with b|b
  ·exact(ez.1 d).2.2 y b a sy
  ·rw[be.1 b];exact N_ _
def ndP(n d:Nat)(x:List Int):Prop:=x.length=d∧x.Pairwise (·<=·)∧∀y∈x,0<=y∧y<(n:Int)
theorem wM{n d:Nat}{x:List Int}(h:ndP n d x):0<=x.getLastD 0:=by
 rcases gm x with rfl|⟨u,a,rfl⟩
 ·simp
 ·have:=h.2.2 a sy;rw[gn,jT];exact this.1
theorem nR{n:Nat}{x z:List Int}:z∈extD n x<->∃a:Nat,z=x++[(a:Int)]∧(x.getLastD 0).toNat<=a∧a<n:=by
 unfold extD;rw[aM];constructor
 ·rintro⟨a,b,rfl⟩;rw[rf] at b;exact⟨a,rfl,b.1,om⟩
 ·rintro⟨a,rfl,b,d⟩;exact⟨a,by rw[rf];omega,rfl⟩
theorem cR(n:Nat):∀(d:Nat)(z:List Int),z∈msD n d<->ndP n d z
 |0,z=>by
  unfold msD ndP;rw[be,List.length_eq_zero_iff];constructor
  ·rintro rfl;simp
  ·exact λh=>h.1
 | d+1,z=>by
  unfold msD;rw[oX];constructor
  ·rintro⟨x,o,j⟩;have h:=(cR n d x).1 o;obtain⟨a,rfl,f,g⟩:=nR.1 j;refine⟨by rw[ar,h.1];rfl,?_,λy e=>?_⟩
   ·rw[ez];refine⟨h.2.1,sy,λy e b p=>?_⟩;rw[be.1 p];have:=xf h.2.1 y e;omega
   ·rcases bX.1 e with e|e
    ·exact h.2.2 y e
    ·rw[be.1 e];omega
  ·rintro⟨f,g,i⟩;rcases gm z with rfl|⟨u,a,rfl⟩
   ·simp at f
   ·rw[gn] at f g i ⊢;rw[ez] at g;have k:=i a sy;have m:ndP n d u:=⟨by rw[ar] at f;simp at f;exact f,g.1,λy e=>i y (sh e)⟩;refine⟨u,(cR n d u).2 m,nR.2 ⟨a.toNat,by rw[co k.1],?_,om⟩⟩;rcases gm u with rfl|⟨t,b,rfl⟩
    ·simp
    ·rw[gn,jT];have:=g.2.2 b sy a sy;omega
theorem uU:∀(x:List Int)(a b:Int),a<b->ordL (x++[a]) (x++[b])<0
 |[],a,b,h=>by simp[ordL,h]
 |y::x,a,b,h=>by
  have:=uU x a b h;simp only[gi,ordL];rw[if_neg om,if_neg om];exact this
theorem vg:∀{x y:List Int}(s t:List Int),x.length=y.length->ordL x y<0->ordL (x++s) (y++t)<0
 |[],[],s,t,_,h=>by simp[ordL] at h
 |[],_::_,s,t,h,_=>by simp at h
 |_::_,[],s,t,h,_=>by simp at h
 | a::x,b::y,s,t,f,h=>by
  have ih:=vg (x:=x) (y:=y) s t (su f);simp only[gi,ordL] at h ⊢;by_cases e:a<b
  ·rw[if_pos e];omega
  ·rw[if_neg e] at h ⊢;by_cases d:a>b
   ·rw[if_pos d] at h;omega
   ·rw[if_neg d] at h ⊢;exact ih h
theorem wy(n:Nat):∀d,sorS (msD n d)
 |0=>by simp[msD,sorS]
 |d+1=>by
  unfold msD sorS;rw[List.pairwise_flatMap];constructor
  ·intro x _;unfold extD;rw[jR];exact List.Pairwise.imp (λ{a b:Nat}(h:a<b)=>uU x (a:Int) (b:Int) (by omega)) (List.pairwise_lt_range' (step:=1) dc)
  ·have ih:=wy n d;unfold sorS at ih;refine (List.Pairwise.and_mem.1 ih).imp λ{x y} h u e v f=>?_;obtain⟨a,rfl,-,-⟩:=nR.1 e;obtain⟨b,rfl,-,-⟩:=nR.1 f;exact vg _ _ (by rw[((cR n d x).1 h.1).1,((cR n d y).1 h.2.1).1]) h.2.2
theorem pY{ρ:Type}{f:List (List Int)×Int->Option (Lp (List (List Int)×Int) (List (List Int)×Int) ρ)}{n:Nat}{x:List Int}
  (h:∀(e:List (List Int))(k:Nat),k<n->e.length<1000000000->f (e,(k:Int))=some (.go (e++[x++[(k:Int)]],((k+1:Nat):Int))))
  (g:∀e:List (List Int),f (e,(n:Int))=some (.out (e,(n:Int)))):∀(d k b:Nat)(e:List (List Int)),k+d=n->d<b->e.length+d<=1000000000->
  loopF f b (e,(k:Int))=some (.inl (e++(List.range' k d).map (λa:Nat=>x++[(a:Int)]),(n:Int)))
 |0,k,b,e,i,j,_=>by
  obtain⟨b,rfl⟩:∃m,b=m+1:=⟨b-1,om⟩;have:k=n:=om;subst this;rw[jJ (g e)];simp
 |d+1,k,b,e,i,j,o=>by
  obtain⟨b,rfl⟩:∃m,b=m+1:=⟨b-1,om⟩;rw[mn (h e k om om),pY h g d (k+1) b _ om om (by simp;omega),mC];simp
theorem qk{x:List Int}{d:Nat}(h:x.length=d+1):ix x (d:Int)=some (x.getLastD 0):=by
 rcases gm x with rfl|⟨u,a,rfl⟩
 ·simp at h
 ·rw[gn] at h ⊢;rw[jT];have:u.length=d:=by simpa using h
  subst this;exact jM u a []
section
open Classical in
noncomputable def bitsP(P:Nat->Prop):Nat->Nat
  |0=>0
  |a+1=>if P a then bitsP P a|||2^a else bitsP P a
theorem eS{P Q:Nat->Prop}:∀n,(∀b,b<n->(P b<->Q b))->bitsP P n=bitsP Q n
 |0,_=>rfl
 |n+1,h=>by
  have f:=eS n λb g=>h b om;have d:=h n om;unfold bitsP;by_cases a:P n
  ·rw[if_pos a,if_pos (d.1 a),f]
  ·rw[if_neg a,if_neg (λe=>a (d.2 e)),f]
theorem dO(P:Nat->Prop):∀n,bitsP P n<2^n
 |0=>by simp[bitsP]
 |a+1=>by
  have ih:=dO P a;have b:2^(a+1)=2^a+2^a:=by rw[dx];omega
  unfold bitsP;split
  ·exact yh om (Nat.pow_lt_pow_right dc om)
  ·omega
theorem jh(P:Nat->Prop):∀(n b:Nat),(bitsP P n).testBit b=true<->b<n∧P b
 |0,b=>by simp[bitsP]
 | a+1,b=>by
  have ih:=jh P a b;unfold bitsP;by_cases f:P a
  ·rw[if_pos f,Nat.testBit_or,yi,bT,ih,decide_eq_true_eq];constructor
   ·rintro(⟨g,d⟩|rfl)
    ·exact⟨om,d⟩
    ·exact⟨om,f⟩
   ·rintro⟨g,d⟩;by_cases e:a=b
    ·exact .inr e
    ·exact .inl ⟨om,d⟩
  ·rw[if_neg f,ih];constructor
   ·rintro⟨g,d⟩;exact⟨om,d⟩
   ·rintro⟨g,d⟩;by_cases e:b=a
    ·subst e;exact absurd d f
    ·exact⟨om,d⟩
theorem nN{P:Nat->Prop}{a:Nat}(h:P a):bitsP P (a+1)=bitsP P a|||2^a:=by
 conv=>lhs;unfold bitsP
 rw[if_pos h]
theorem nV{P:Nat->Prop}{a:Nat}(h:¬P a):bitsP P (a+1)=bitsP P a:=by
 conv=>lhs;unfold bitsP
 rw[if_neg h]
def cho:List Nat->List Int->Prop
  |[],[]=>True
  |S::SS,a::c=>(0<=a∧S.testBit a.toNat=true)∧cho SS c
  |_,_=>False
theorem Ds{n m:List Nat}(h:n.Perm m):∀c,cho n c->∃e,e.Perm c∧cho m e:=by
 induction h with
 |nil=>exact λc d=>⟨c,.refl _,d⟩
 | cons x _ ih=>
  intro c d;cases c with
  |nil=>exact d.elim
  |cons a c=>
   obtain⟨e,f,i⟩:=ih c d.2;exact⟨a::e,f.cons a,d.1,i⟩
 |swap x y l=>
  intro c d
  match c,d with
  |[],d=>exact d.elim
  |[a],d=>exact d.2.elim
  |a::b::c,d=>exact⟨b::a::c,.swap _ _ _,d.2.1,d.1,d.2.2⟩
 |trans _ _ j g=>
  intro c d;obtain⟨e,f,i⟩:=j c d;obtain⟨k,o,p⟩:=g e i;exact⟨k,o.trans f,p⟩
noncomputable def cmpl(L:Nat)(G:List Int->Prop)(SS:List Nat):Nat:=bitsP (λb=>∀c,cho SS c->G (c++[(b:Int)])) L
theorem BJ{L:Nat}{G:List Int->Prop}(j:∀c f:List Int,c.Perm f->G c->G f){e d:List Nat}(h:e.Perm d):cmpl L G e=cmpl L G d:=by
 have a:∀{e d:List Nat},e.Perm d->∀b:Nat,(∀c,cho e c->G (c++[(b:Int)]))->∀c,cho d c->G (c++[(b:Int)]):=λh b q c k=>by
  obtain⟨f,i,g⟩:=Ds h.symm c k;exact j _ _ (i.append_right _) (q f g)
 exact eS L λb _=>⟨a h b,a h.symm b⟩
theorem AF{α:Type}{l:List α}{i:Nat}(hi:i<l.length):l.Perm (l[i]::l.eraseIdx i):=by
 have d:l=l.take i++l[i]::l.drop (i+1):=by rw[List.getElem_cons_drop,mx]
 have b:=(yj (a:=l[i]) (l₁:=l.take i) (l₂:=l.drop (i+1)));rw[<-d] at b;rw[yk];exact b
end
theorem fP(xs:List Int):(srt xs).Pairwise (·<=·):=by
 have:=FX (le:=λx y:Int=>decide (x<=y)) (λa b c e d=>by simp at e d ⊢;omega) (λa b=>by simp;omega) xs;exact this.imp λ{a b} h=>by simpa using h
theorem cA(xs:List Int):(srt xs).Perm xs:=FY xs _
theorem vx{m l:List Int}(d:l.Pairwise (·<=·)):srt m=l<->m.Perm l:=
 ⟨λh=>by rw[<-h];exact(cA m).symm,λh=>List.Perm.eq_of_pairwise (le:=λx y:Int=>x<=y) (λx y _ _ a b=>om) (fP m) d ((cA m).trans h)⟩
theorem fN{m l:List Int}(h:m.Perm l):srt m=srt l:=(vx (fP l)).2 (h.trans (cA l).symm)
theorem EA{l:List Int}(h:l.Pairwise (·<=·)):srt l=l:=(vx h).2 (.refl _)
def inG(N:List (List Int))(l:List Int):Prop:=srt l∈N
theorem CY{N:List (List Int)}(c b:List Int)(h:c.Perm b)(a:inG N c):inG N b:=by
 unfold inG at a ⊢;rw[<-fN h];exact a
noncomputable def cmI(L:Nat)(N:List (List Int))(l:List Int):Int:=(cmpl L (inG N) (l.map Int.toNat):Int)
theorem DB{L:Nat}{N:List (List Int)}{l m:List Int}(h:l.Perm m):cmI L N l=cmI L N m:=by
 unfold cmI;rw[BJ CY (h.map Int.toNat)]
theorem oB(L:Nat)(N:List (List Int))(l:List Int):0<=cmI L N l∧cmI L N l<2^L:=by
 have:=dO (λb=>∀c,cho (l.map Int.toNat) c->inG N (c++[(b:Int)])) L;unfold cmI cmpl;have a:((2^L:Nat):Int)=(2:Int)^L:=sy;omega
def fullI(L:Nat)(N:List (List Int))(l:List Int):Prop:=∀(i:Nat) x,l[i]? =some x->cmI L N (l.eraseIdx i)=x
theorem ta{l:List Int}{i:Nat}{x:Int}(h:l[i]? =some x):l.Perm (x::l.eraseIdx i):=by
 obtain⟨hi,a⟩:=Y_.1 h;rw[<-a];exact AF hi
theorem vz{L:Nat}{N:List (List Int)}{l:List Int}:fullI L N l<->∀(x:Int)(m:List Int),l.Perm (x::m)->cmI L N m=x:=by
 constructor
 ·intro h x m b;have f:x∈l:=b.symm.subset sy;obtain⟨i,hi,e⟩:=mB.1 f;have a:l[i]? =some x:=by rw[x_ hi,e]
  have d:=(List.perm_cons x).1 ((ta a).symm.trans b);rw[<-DB d,h i x a]
 ·intro h i x hi;exact h _ _ (ta hi)
theorem Bo{L:Nat}{N:List (List Int)}{l m:List Int}(h:l.Perm m)(a:fullI L N l):fullI L N m:=by
 rw[vz] at a ⊢;exact λx u b=>a x u (h.trans b)
def firstI(M:Int)(d:Nat)(l:List Int):Prop:=l.length=d∧l.Pairwise (·<=·)∧∀y∈l,1<=y∧y<=M
theorem CM(L d:Nat)(N:List (List Int))(z:List Int):
  (∃l,firstI (2^L-1) d l∧cmI L N l≠0∧fullI L N (l++[cmI L N l])∧z=srt (l++[cmI L N l]))<->
  (∃l,firstI (2^L-1) d l∧cmI L N l≠0∧(∀y∈l,y<=cmI L N l)∧fullI L N (l++[cmI L N l])∧z=l++[cmI L N l]):=by
 constructor
 ·rintro⟨l,⟨m,p,u⟩,x,q,rfl⟩;have t:=cA (l++[cmI L N l]);have n:=fP (l++[cmI L N l]);have v:=Bo t.symm q;have h:∀y∈srt (l++[cmI L N l]),1<=y∧y<=2^L-1:=λy g=>by
   rcases bX.1 (t.subset g) with g|g
   ·exact u y g
   ·rw[be.1 g];have:=oB L N l;omega
  have i:(srt (l++[cmI L N l])).length=d+1:=by rw[t.length_eq];simp[m]
  generalize srt (l++[cmI L N l])=z at*
  have f:z≠ []:=λe=>by rw[e] at i;simp at i
  have k:=List.dropLast_concat_getLast f;have o:z.Perm (z.getLast f::z.dropLast):=by
   conv=>lhs;rw[<-k]
   exact FZ
  have j:=vz.1 v _ _ o;have s:z.getLast f∈z:=List.getLast_mem f;refine⟨z.dropLast,⟨by rw[List.length_dropLast];omega,n.sublist (Ga z),λy g=>h y ((Ga z).subset g)⟩,?_,?_,?_,?_⟩
  ·rw[j];have:=h _ s;omega
  ·intro y g;rw[j];rw[<-k,ez] at n;exact n.2.2 y g _ sy
  ·rw[j,k];exact v
  ·rw[j,k]
 ·rintro⟨l,⟨m,p,u⟩,x,q,A,rfl⟩;refine⟨l,⟨m,p,u⟩,x,A,(EA ?_).symm⟩;rw[ez];exact⟨p,sy,λa w b B=>by rw[be.1 B];exact q a w⟩
theorem cr{a b c:Int}:inB b c a=true<->b<=a∧a<=c:=by simp[inB]
theorem px(n:Int)(b:0<=n)(a:n<2^63):IntKind.i64.wrap n=n:=by rw[xV];omega
theorem oE{a:Nat}(b:a<2^62):(BitVec.ofInt 64 (a:Int)).toNat=a:=by
 rw[BitVec.ofInt_natCast,BitVec.toNat_ofNat,xP om]
theorem qq{a b:Nat}(d:a<2^62)(e:b<2^62):bor a b=((a|||b:Nat):Int):=by
 unfold bor;rw[BitVec.toNat_or,oE d,oE e];have:=yh d e;exact px _ om om
theorem lP{a b:Nat}(e:a<2^62)(d:b<2^62):band a b=((a&&&b:Nat):Int):=by
 unfold band;rw[BitVec.toNat_and,oE e,oE d];have:a&&&b<2^62:=Nat.and_lt_two_pow a d;exact px _ om om
theorem oi{S a:Nat}(h:a<=62):shr S a=some ((S/2^a:Nat):Int):=by
 unfold shr;rw[if_neg om,U_,eq om,FT _ (Int.le_of_lt (Int.pow_pos dc))];simp
theorem cP{a:Nat}(h:a<=61):shl 1 a=some ((2^a:Nat):Int):=by
 unfold shl;rw[if_neg om,U_,eq om,Int.one_mul];have d:(2:Int)^a=((2^a:Nat):Int):=sy;have b:2^a<=2^61:=bF dc h;rw[d];generalize 2^a=P at b ⊢;rw[px _ om om]
theorem vC{S a:Nat}(b:S<2^62):(band ((S/2^a:Nat):Int) 1==1)=S.testBit a:=by
 have d:S/2^a<2^62:=bP (jU _ _) b;rw[show(1:Int)=((1:Nat):Int) from rfl,lP d dc,Nat.and_one_is_mod,Gb];rw[oV,beq_iff_eq,decide_eq_true_eq];omega
def lbs(n S:Nat):List Int:=((List.range n).filter λi=>S.testBit i).map λi:Nat=>(i:Int)
theorem ou{n S:Nat}{y:Int}:y∈lbs n S<->∃i:Nat,y=i∧i<n∧S.testBit i=true:=by
 simp only[lbs,aM,cF,aS];constructor
 ·rintro⟨i,⟨b,a⟩,rfl⟩;exact⟨i,rfl,b,a⟩
 ·rintro⟨i,rfl,b,a⟩;exact⟨i,⟨b,a⟩,rfl⟩
theorem qg(n S:Nat):lbs (n+1) S=if S.testBit n then lbs n S++[(n:Int)] else lbs n S:=by
 simp only[lbs,gc,ey,ew];cases h:S.testBit n<;>simp[List.filter,h]
theorem tk(n S:Nat):(lbs n S).length<=n:=by
 simp only[lbs,aA];exact aH (gj _ _) sy
theorem wA{a S:Nat}(h:S<2^a):∀d,lbs (a+d) S=lbs a S
 |0=>rfl
 |d+1=>by
  rw[show a+(d+1)=(a+d)+1 by omega,qg,wA h d];rw[rg (bh h (bF (by decide) (by omega)))];simp
theorem vK{xs d:List Int}(e:xs.Pairwise (·<·))(f:d.Pairwise (·<·))(h:∀a,a∈xs<->a∈d):xs=d:=by
 have nx:xs.Nodup:=e.imp λh=>by omega
 have g:d.Nodup:=f.imp λh=>by omega
 exact List.Perm.eq_of_pairwise (le:=λa b=>a<=b) (λa b _ _ j i=>yf j i) (e.imp λh=>om) (f.imp λh=>om) ((FI nx g).2 h)
theorem Ek(xs:List Int)(a:Int):lU xs a=some (decide (a∈xs)):=by
 unfold lU;rw[eg (λ_ x=>if x==a then some true else none) xs (λj x f _=>by
  unfold nq;cases h:(x==a)<;>simp[lpP]),sb]
 cases d:firstP (λ_ x=>if x==a then some true else none) xs 0 with
 | none=>
  have:a ∉ xs:=λi=>by
   obtain⟨j,f⟩:=bS.1 i;have:=cL.1 d j a f;simp at this
  simp[outP,this]
 | some r=>
  obtain⟨j,x,g,b⟩:=dJ d;by_cases e:(x==a)=true
  ·rw[if_pos e] at b;cases b
   have:a∈xs:=by rw[<-beq_iff_eq.1 e];exact aE g
   simp[outP,this]
  ·rw[if_neg e] at b;cases b
theorem Ae(S k:Nat)(b:k<=61)(a:S/2^k=0)(xs:List Int):eM (S:Int) (xs,(k:Int))=some (.out (xs,(k:Int))):=by
 unfold eM;simp only
 rw[oi om,sb,a,if_neg sy]
theorem AW(S k:Nat)(b:S<2^62)(f:k<61)(a:S/2^k≠0)(xs:List Int)(e:xs.length<=61):
  eM (S:Int) (xs,(k:Int))=some (.go (if S.testBit k then xs++[(k:Int)] else xs,((k+1:Nat):Int))):=by
 unfold eM;simp only
 rw[oi om,sb,sb,vC b];generalize S/2^k=Q at a;rw[if_pos (by simp only[bne_iff_ne,ne_eq];omega)];cases d:S.testBit k
 ·rw[if_neg sy,n_ om om,sb];simp
 ·rw[if_pos rfl];unfold push;rw[if_pos om,sb,n_ om om,sb];simp
theorem zL(n S:Nat)(g:S<2^n)(s:n<=61):∀(a k:Nat),k<=n->n-k<a->
  ∃j,loopF (eM (S:Int)) a (lbs k S,(k:Int))=some (.inl (lbs n S,j)):=by
 have f:S<2^62:=bh g (bF dc om);intro a
 induction a with
 |zero=>intro k _ o;omega
 | succ a ih=>
  intro k q o;have p:=tk k S;by_cases b:S/2^k=0
  ·have d:S<2^k:=by
    rcases Nat.div_eq_zero_iff.1 b with h|h
    ·have:=Nat.two_pow_pos k;omega
    ·exact h
   have e:lbs n S=lbs k S:=by
    have:=wA d (n-k);rwa [show k+(n-k)=n by omega] at this
   exact⟨k,by simp only[loopF,Ae S k om b,e]⟩
  ·have i:k<n:=by
    rcases Nat.lt_or_ge k n with h|h
    ·exact h
    ·exact absurd (Gc (bh g (bF dc h))) b
   obtain⟨j,m⟩:=ih (k+1) om om;refine⟨j,?_⟩;simp only[loopF,AW S k f om b (lbs k S) om];rw[<-qg];exact m
theorem tC(n S a:Nat)(f:S<2^n)(e:n<=61)(g:n<a):fK a (S:Int)=some (lbs n S):=by
 unfold fK;obtain⟨j,b⟩:=zL n S f e a 0 om om;have d:lbs 0 S=[]:=rfl;rw[d] at b;rw[show((0:Nat):Int)=0 from rfl] at b;rw[b,sb]
def posL(xs:List Int)(a:Int):Nat:=(xs.takeWhile λx=>decide (x<a)).length
theorem tQ(a:Int):∀(d pre:List Int)(b:Nat),d.length<b->pre.length+d.length<=1000000000->
  loopF (eR (pre++d) a) b (pre.length:Int)=some (.inl ((pre.length+posL d a:Nat):Int))
 | [],pre,b,f,g=>by
  cases b with
  |zero=>simp at f
  | succ b=>
   have e:eR (pre++[]) a (pre.length:Int)=some (.out (pre.length:Int)):=by
    unfold eR;rw[if_neg sy,sb,if_neg sy]
   rw[bm] at e ⊢;simp[loopF,e,posL]
 | y::d,pre,b,f,g=>by
  cases b with
  |zero=>simp at f
  | succ b=>
   simp only[ao] at f g;have e:eR (pre++y::d) a (pre.length:Int)=some (if y<a then .go ((pre.length+1:Nat):Int) else .out (pre.length:Int)):=by
    unfold eR;rw[if_pos (by simp;omega),jM,sb,sb];by_cases h:y<a
    ·simp only[h,decide_true,if_true];rw[n_ om om,sb];simp
    ·simp only[h,decide_false,if_false,cl]
   by_cases h:y<a
   ·simp only[loopF,e,h,if_true];have:=tQ a d (pre++[y]) b om (by simp;omega);rw[bC] at this;simp only[ar,ao,bD,gi,bz,an] at this;rw[this];simp[posL,mD,h];omega
   ·simp only[loopF,e,h,if_false];simp[posL,mD,h]
theorem Es(xs:List Int)(a:Int):posL xs a<=xs.length:=by
 unfold posL;exact(Ge _).length_le
theorem CE(xs:List Int)(a:Int):xs.take (posL xs a)=xs.takeWhile λx=>decide (x<a):=by
 induction xs with
 |nil=>rfl
 |cons x xs ih=>
  unfold posL at ih ⊢;rw[mD];split
  ·rw[ao,bi,ih]
  ·rfl
theorem pH(xs:List Int)(a:Int):xs.drop (posL xs a)=xs.dropWhile λx=>decide (x<a):=by
 induction xs with
 |nil=>rfl
 |cons x xs ih=>
  unfold posL at ih ⊢;rw[mD,Gf];split
  ·rw[ao,aR,ih]
  ·rfl
theorem AO{xs:List Int}{a:Int}(d:xs.Pairwise (·<·)):∀y,y∈xs.dropWhile (λx=>decide (x<a))->a<=y:=by
 induction xs with
 |nil=>simp
 | cons x xs ih=>
  rw[cU] at d;intro y b;rw[Gf] at b;split at b
  ·exact ih d.2 y b
  ·rename_i h;simp at h;rcases I_.1 b with rfl|b
   ·exact h
   ·have:=d.1 y b;omega
theorem Ep(xs:List Int)(a:Int)(e:Nat)(E:xs.length<e)(G:xs.length<=1000000)(g:xs.Pairwise (·<·)):
  ∃C,jD e xs a=some C∧C.Pairwise (·<·)∧∀b,b∈C<->b∈xs∨b=a:=by
 unfold jD;have B:=tQ a xs [] e E (by simp;omega);simp only[bz,bD,an] at B;rw[show((0:Nat):Int)=0 from rfl] at B;rw[B,sb];have H:=Es xs a;have d:xs.takeWhile (λx=>decide (x<a))++xs.dropWhile (λx=>decide (x<a))=xs:=List.takeWhile_append_dropWhile;have m:∀y,y∈xs.takeWhile (λx=>decide (x<a))->y<a:=λy k=>by
  have:=bE.1 List.all_takeWhile y k;simpa using this
 by_cases f:posL xs a<xs.length
 ·simp only
  rw[if_pos (by simp;omega),bM _ _ f,sb,sb];by_cases A:xs[posL xs a]=a
  ·rw[if_pos (sh A)];exact⟨xs,rfl,g,λb=>⟨.inl,λh=>by
    rcases h with h|h
    ·exact h
    ·rw[h,<-A];exact aV f⟩⟩
  ·rw[if_neg (sh A)];have p:xs.dropWhile (λx=>decide (x<a))=xs[posL xs a]::xs.drop (posL xs a+1):=by
    rw[<-pH,dt f]
   have q:∀y,y∈xs.dropWhile (λx=>decide (x<a))->a<y:=λy k=>by
    rw[p] at k;have F:=AO g xs[posL xs a] (by rw[p];exact List.mem_cons_self);have D:(xs.drop (posL xs a)).Pairwise (·<·):=g.sublist (List.drop_sublist _ _);rw[dt f,cU] at D;rcases I_.1 k with rfl|k
    ·omega
    ·have:=D.1 y k;omega
   have t:cut xs 0 ((posL xs a:Nat):Int)=some (xs.takeWhile λx=>decide (x<a)):=by
    unfold cut;rw[if_pos ⟨om,om,om⟩];simp[CE]
   have i:cut xs ((posL xs a:Nat):Int) xs.length=some (xs.dropWhile λx=>decide (x<a)):=by
    unfold cut;rw[if_pos ⟨om,om,om⟩];simp[pH]
   have o:=congrArg List.length d;rw[ar] at o;refine⟨xs.takeWhile (λx=>decide (x<a))++[a]++xs.dropWhile (λx=>decide (x<a)),?_,?_,?_⟩
   ·rw[t,sb,fV _ om,sb];unfold push;rw[if_pos om,sb,i,sb];unfold cat
    rw[if_pos (by simp;omega),sb]
   ·rw[<-d] at g;rw[ez] at g;rw[bC,dW,ez,cU];refine⟨g.1,⟨q,g.2.1⟩,λu n v j=>?_⟩;rcases I_.1 j with rfl|j
    ·exact m u n
    ·exact g.2.2 u n v j
   ·intro b
    conv=>rhs;rw[<-d]
    simp only[bX,I_,P_,or_false];constructor
    ·rintro((h|h)|h)
     ·exact .inl (.inl h)
     ·exact .inr h
     ·exact .inl (.inr h)
    ·rintro((h|h)|h)
     ·exact .inl (.inl h)
     ·exact .inr h
     ·exact .inl (.inr h)
 ·have p:xs.dropWhile (λx=>decide (x<a))=[]:=by rw[<-pH,List.drop_eq_nil_of_le om]
  have s:xs.takeWhile (λx=>decide (x<a))=xs:=by rw[p,bm] at d;exact d
  simp only
  rw[if_neg (by simp;omega),sb,if_neg sy];have w:posL xs a=xs.length:=om;rw[w,Ey,sb,fV _ om,sb];unfold push;rw[if_pos om,sb];have i:cut xs ((xs.length:Nat):Int) xs.length=some []:=by
   unfold cut;rw[if_pos ⟨om,om,om⟩];simp
  rw[i,sb];unfold cat
  refine⟨xs++[a],?_,?_,?_⟩
  ·rw[if_pos (by simp;omega),sb];simp
  ·rw[ez];refine⟨g,sy,λu n v j=>?_⟩;simp at j;subst j;rw[<-s] at n;exact m u n
  ·intro b;simp
theorem pS:∀{a b:List Int},a.length=b.length->(ordL a b=0<->a=b)
 |[],[],_=>by simp[ordL]
 |[],_::_,h=>by simp at h
 |_::_,[],h=>by simp at h
 | x::a,y::b,h=>by
  have ih:=pS (a:=a) (b:=b) (su h);simp only[ordL];by_cases e:x<y
  ·rw[if_pos e];simp;omega
  ·rw[if_neg e];by_cases d:x>y
   ·rw[if_pos d];simp;omega
   ·rw[if_neg d,ih];have:x=y:=om;simp[this]
theorem pD:∀{a b c:List Int},a.length=b.length->b.length=c.length->ordL a b<0->ordL b c<0->ordL a c<0
 |[],[],[],_,_,h,_=>by simp[ordL] at h
 |[],[],_::_,_,h,_,_=>by simp at h
 |[],_::_,_,h,_,_,_=>by simp at h
 |_::_,[],_,h,_,_,_=>by simp at h
 |_::_,_::_,[],_,h,_,_=>by simp at h
 | x::a,y::b,z::c,m,k,f,d=>by
  have ih:=pD (a:=a) (b:=b) (c:=c) (su m) (su k);simp only[ordL] at f d ⊢;by_cases e:x<y
  ·by_cases i:y<z
   ·rw[if_pos om];omega
   ·rw[if_neg i] at d;by_cases g:y>z
    ·rw[if_pos g] at d;omega
    ·rw[if_pos om];omega
  ·rw[if_neg e] at f;by_cases i:x>y
   ·rw[if_pos i] at f;omega
   ·rw[if_neg i] at f;have:x=y:=om;subst this;by_cases g:x<z
    ·rw[if_pos g];omega
    ·rw[if_neg g] at d ⊢;by_cases j:x>z
     ·rw[if_pos j] at d;omega
     ·rw[if_neg j] at d ⊢;exact ih f d
def confB(LL:List (List Int))(m n:Int)(k:Nat)(x:List Int):Bool:=
  decide ((x.length:Int)=m)&&sortB x&&x.all (inB 0 (n-1))&&(decide (k=0)||decide (ordL (LL.getD (k-1) []) x<0))
def confP(LL:List (List Int))(m n:Int)(k:Nat)(x:List Int):Option Bool:=if confB LL m n k x then none else some false
def confsB(LL:List (List Int))(m n:Int):Bool:=(firstP (confP LL m n) LL 0).isNone
theorem uQ{LL xs:List (List Int)}{m n:Int}{k:Nat}{r:Bool}(h:firstP (confP LL m n) xs k=some r):r=false:=by
 obtain⟨j,x,_,a⟩:=dJ h;unfold confP at a;split at a<;>cases a;rfl
theorem pw{LL:List (List Int)}{m n:Int}{k:Nat}{x:List Int}(h:confP LL m n k x=none):(x.length:Int)=m∧sortB x=true∧(∀y,y∈x->0<=y∧y<=n-1)∧(k=0∨ordL (LL.getD (k-1) []) x<0):=by
 unfold confP at h;split at h
 ·rename_i a;simp only[confB,aW,decide_eq_true_eq,bT] at a;exact⟨a.1.1.1,a.1.1.2,λy b=>cr.1 (bE.1 a.1.2 y b),a.2⟩
 ·cases h
theorem eW{LL:List (List Int)}{m n:Int}{k:Nat}{x:List Int}(h:confB LL m n k x=false):lpP (confP LL m n k x)=.ret false:=by simp[confP,h,lpP]
theorem ug{LL:List (List Int)}{m n:Int}{k:Nat}{x:List Int}(h:confB LL m n k x=true):lpP (confP LL m n k x)=.go ():=by simp[confP,h,lpP]
theorem Az(m:Nat)(x:List Int)(w:x.length=m)(v:m<=1000):∀(d j:Nat),1<=j->(∀(k:Nat) a b,k+1<j->x[k]? =some a->x[k+1]? =some b->a<=b)->m<d+j∧j<=m->
  (∃y,loopF (dE (m:Int) x) d (j:Int)=some (.inl y)∧sortB x=true)∨(loopF (dE (m:Int) x) d (j:Int)=some (.inr false)∧sortB x=false):=by
 intro d
 induction d with
 |zero=>
  intro j q p s;omega
 | succ d ih=>
  intro j q p s;by_cases t:j<m
  ·have i:x[j-1]? =some (x[j-1]'om):=x_ om;have n:x[j]? =some (x[j]'om):=x_ om;by_cases h:x[j-1]'om<=x[j]'om
   ·have o:dE (m:Int) x (j:Int)=some (.go ((j+1:Nat):Int)):=by
     unfold dE;rw[if_pos (by simp;omega),n_ om om,sb,show(j:Int)-1=((j-1:Nat):Int) by omega,aq,i,sb,aq,n,sb,if_neg (by simp;omega),n_ om om,sb];rfl
    rw[mn o d];refine ih (j+1) om (λk a b u g f=>?_) om;by_cases e:k+1=j
    ·have:k=j-1:=om;subst this;rw[e] at f;rw[i] at g;rw[n] at f;cases g;cases f;exact h
    ·exact p k a b om g f
   ·right;constructor
    ·have o:dE (m:Int) x (j:Int)=some (.ret false):=by
      unfold dE;rw[if_pos (by simp;omega),n_ om om,sb,show(j:Int)-1=((j-1:Nat):Int) by omega,aq,i,sb,aq,n,sb,if_pos (by simp;omega)]
     simp only[loopF,o]
    ·cases f:sortB x with
     |false=>rfl
     |true=>
      exfalso;apply h;exact jq.1 f (j-1) _ _ i (by rw[show j-1+1=j by omega];exact n)
  ·left;refine⟨(j:Int),?_,?_⟩
   ·refine jJ ?_ d;unfold dE;rw[if_neg (by simp;omega)]
   ·refine jq.2 λk a b g f=>p k a b ?_ g f;have:=(Y_.1 f).1;omega
theorem uk(d:Nat)(LL:List (List Int))(m:Nat)(n:Int)(C:1<=m)(F:m<=4)(G:1<=n∧n<=8)(H:10<=d)(D:LL.length<=1000000000):jg d LL (m:Int) n=some (confsB LL m n):=by
 unfold jg confsB;rw[eg (confP LL m n) LL (λj x w h=>by
  have A:=(Y_.1 w).1;unfold mY;by_cases o:(x.length:Int)=m
  ·rw[if_neg (sh o),n_ om om,sb,Ee,sb];by_cases g:x.all (inB 0 (n-1))=true
   ·rw[if_neg (sh g)];have e:(if decide ((j:Int)>0) then(ck ((j:Int)-1)>>=λt=>ix LL t>>=λq=>fL q x>>=λp=>some (decide (p>=0))) else some false)=some (!(decide (j=0)||decide (ordL (LL.getD (j-1) []) x<0))):=by
     cases j with
     |zero=>simp
     | succ j=>
      have B:=pw (h j LL[j] om (x_ om));rw[if_pos sy,n_ om om,sb,show(((j+1:Nat):Int)-1)=(j:Int) by omega,bM _ _ om,sb,
       uB _ _ om (λy u=>by have:=B.2.2.1 y u;omega) (λy u=>by have:=cr.1 (bE.1 g y u);omega),sb]
      have:LL.getD (j+1-1) []=LL[j]:=by simp[x_ (show j<LL.length by omega)]
      rw[this];by_cases i:ordL LL[j] x<0
      ·simp[i]
      ·simp[i];omega
    rw[e,sb];cases i:(decide (j=0)||decide (ordL (LL.getD (j-1) []) x<0))
    ·rw[if_pos sy,eW (by simp only[confB,i,yl])]
    ·rw[if_neg sy];rcases Az m x om om d 1 (K_ _) (λk a b E=>om) ⟨om,om⟩ with⟨y,f,s⟩|⟨f,s⟩
     ·rw[show((1:Nat):Int)=1 from rfl] at f;rw[f,sb,ug (by simp only[confB,o,g,s,i,decide_true,Bool.and_self])]
     ·rw[show((1:Nat):Int)=1 from rfl] at f;rw[f,sb,eW (by simp[confB,s])]
   ·rw[if_pos (sh g),sb,if_pos rfl,eW (by simp[confB,g])]
  ·rw[if_pos (by simp;omega),sb,if_pos rfl,eW (by simp[confB,o])]),sb]
 cases v:firstP (confP LL m n) LL 0 with
 |none=>rfl
 |some r=>have:=uQ v;subst this;rfl
theorem rF(a:Nat)(LL:List (List Int))(m:Nat)(n:Int)(v:m<=4)(y:1<=n∧n<=8)(w:10<=a)(t:LL.length<=1000000000):gG a LL (m:Int) n=some (confsB LL m n):=by
 unfold gG confsB;rw[eg (confP LL m n) LL (λj x q d=>by
  have s:=(Y_.1 q).1;unfold mO;by_cases h:(x.length:Int)=m
  ·rw[if_neg (sh h),BA _ _ om om,sb];by_cases g:sortB x=true
   ·rw[if_neg (sh g),n_ om om,sb,AB _ _ _ om,sb];by_cases f:x.all (inB 0 (n-1))=true
    ·rw[if_neg (sh f)];have b:(if decide ((j:Int)>0) then(ck ((j:Int)-1)>>=λo=>ix LL o>>=λk=>cI k x>>=λi=>some (decide (i>=0))) else some false)=some (!(decide (j=0)||decide (ordL (LL.getD (j-1) []) x<0))):=by
      cases j with
      |zero=>simp
      |succ j=>
       have u:=pw (d j LL[j] om (x_ om));rw[if_pos sy,n_ om om,sb,show(((j+1:Nat):Int)-1)=(j:Int) by omega,bM _ _ om,sb,pM _ _ om,sb];have:LL.getD (j+1-1) []=LL[j]:=by simp[x_ (show j<LL.length by omega)]
       rw[this];by_cases e:ordL LL[j] x<0
       ·simp[e]
       ·simp[e];omega
     rw[b,sb];cases e:(decide (j=0)||decide (ordL (LL.getD (j-1) []) x<0))
     ·rw[if_pos sy,eW (by simp only[confB,e,yl])]
     ·rw[if_neg sy,ug (by simp only[confB,h,f,g,e,decide_true,Bool.and_self])]
    ·rw[if_pos (sh f),sb,if_pos rfl,eW (by simp[confB,f])]
   ·rw[if_pos (sh g),sb,if_pos rfl,eW (by simp[confB,g])]
  ·rw[if_pos (by simp;omega),sb,if_pos rfl,eW (by simp[confB,h])]),sb]
 cases p:firstP (confP LL m n) LL 0 with
 |none=>rfl
 |some r=>have:=uQ p;subst this;rfl
def probB(p:c_):Bool:=inB 1 8 p.Labels&&inB 1 4 p.Degree&&confsB p.Nodes p.Degree p.Labels&&confsB p.Edges 2 p.Labels
theorem jC(a:Nat)(d:10<=a)(p:c_)(f:p.Nodes.length<=1000000000)(g:p.Edges.length<=1000000000):dL a p=some (probB p):=by
 unfold dL probB;rw[mm,sb];rw[show(decide (1<=p.Labels)&&decide (p.Labels<=8))=inB 1 8 p.Labels from rfl];cases h:inB 1 8 p.Labels
 ·simp[sb]
 ·rw[if_pos rfl,mm,sb];rw[show(decide (1<=p.Degree)&&decide (p.Degree<=4))=inB 1 4 p.Degree from rfl];cases e:inB 1 4 p.Degree
  ·simp[sb]
  ·have b:=cr.1 h;have i:=cr.1 e;obtain⟨m,j⟩:∃m:Nat,p.Degree=m:=⟨p.Degree.toNat,om⟩;rw[if_pos rfl,j,uk a p.Nodes m p.Labels om om b d f,sb];cases k:confsB p.Nodes m p.Labels
   ·simp[sb]
   ·rw[if_pos rfl];have:=uk a p.Edges 2 p.Labels om om b d g;rw[show((2:Nat):Int)=2 from rfl] at this;rw[this,sb,sb];simp
theorem iX(a:Nat)(d:10<=a)(p:c_)(f:p.Nodes.length<=1000000000)(g:p.Edges.length<=1000000000):dF a p=some (probB p):=by
 unfold dF probB;rw[fQ,sb];rw[show(decide (1<=p.Labels)&&decide (p.Labels<=8))=inB 1 8 p.Labels from rfl];cases h:inB 1 8 p.Labels
 ·simp[sb]
 ·rw[if_pos rfl,fQ,sb];rw[show(decide (1<=p.Degree)&&decide (p.Degree<=4))=inB 1 4 p.Degree from rfl];cases e:inB 1 4 p.Degree
  ·simp[sb]
  ·have b:=cr.1 h;have i:=cr.1 e;obtain⟨m,j⟩:∃m:Nat,p.Degree=m:=⟨p.Degree.toNat,om⟩;rw[if_pos rfl,j,rF a p.Nodes m p.Labels om b d f,sb];cases k:confsB p.Nodes m p.Labels
   ·simp[sb]
   ·rw[if_pos rfl];have:=rF a p.Edges 2 p.Labels om b d g;rw[show((2:Nat):Int)=2 from rfl] at this;rw[this,sb,sb];simp
theorem cx{LL:List (List Int)}{m n:Int}(h:confsB LL m n=true):(∀x,x∈LL->(x.length:Int)=m∧sortB x=true∧∀y,y∈x->0<=y∧y<=n-1)∧LL.Pairwise (λa b=>ordL a b<0):=by
 unfold confsB at h;rw[Gg] at h;have p:=cL.1 h;have e:∀(j:Nat) x,LL[j]? =some x->(x.length:Int)=m∧sortB x=true∧(∀y,y∈x->0<=y∧y<=n-1)∧(j=0∨ordL (LL.getD (j-1) []) x<0):=λj x f=>by
  have:=p j x f;rw[an] at this;exact pw this
 refine⟨λx s=>?_,?_⟩
 ·obtain⟨j,f⟩:=bS.1 s;have:=e j x f;exact⟨this.1,this.2.1,this.2.2.1⟩
 ·have g:∀(d i:Nat)(hi:i+d+1<LL.length),ordL (LL[i]'om) LL[i+d+1]<0:=by
   intro d
   induction d with
   |zero=>
    intro i hi;have:=(e (i+1) _ (x_ hi)).2.2.2;simpa [x_ (show i<LL.length by omega)] using this
   |succ d ih=>
    intro i hi;have k:=ih i om;have:=(e (i+d+1+1) _ (x_ hi)).2.2.2;have o:ordL (LL[i+d+1]'om) LL[i+(d+1)+1]<0:=by simpa [x_ (show i+d+1<LL.length by omega)] using this
    have v:=(e i _ (x_ om)).1;have u:=(e (i+d+1) _ (x_ om)).1;have t:=(e (i+(d+1)+1) _ (x_ hi)).1;exact pD om om k o
  rw[dw];intro i j hi f q;have:=g (j-i-1) i om;simpa [show i+(j-i-1)+1=j by omega] using this
theorem nJ(p:Nat)(LL:List (List Int))(m n:Int)(K:confsB LL m n=true)(t:List Int)(S:(t.length:Int)=m)(R:LL.length<=1000000000)(M:t.length<=1000000000)(T:LL.length<p):eE p LL t=some (decide (srt t∈LL)):=by
 obtain⟨B,E⟩:=cx K;have L:=eV t;generalize F:srt t=s at L;unfold eE srtO;rw[if_pos M,sb,F];have u:∀x,x∈LL->cI x s=some (ordL x s):=λx O=>pM x s (by have:=(B x O).1;omega);obtain⟨G,I⟩:=pj (λx=>decide (x.length=s.length)&&decide (ordL x s<0)) LL (E.imp_of_mem λ{a b} N Q D h=>by
  simp only[aW,decide_eq_true_eq] at h ⊢;have U:=(B a N).1;exact⟨om,pD om h.1 D h.2⟩)
 have y:LL.countP (λx=>decide (x.length=s.length)&&decide (ordL x s<0))<=LL.length:=re;generalize LL.countP (λx=>decide (x.length=s.length)&&decide (ordL x s<0))=c at G I y;have q:∀(j:Nat)(g:j<LL.length),(decide (LL[j].length=s.length)&&decide (ordL LL[j] s<0))=decide (ordL LL[j] s<0):=λj g=>by
  have:=(B _ (aV g)).1;rw[show decide (LL[j].length=s.length)=true by rw[decide_eq_true_eq];omega,oU]
 unfold mG;have:=xc (f:=gq LL s (λA:(List Int)×(List Int)=>cI A.1 A.2)) (λj=>decide (ordL (LL.getD j []) s<0)) LL.length c y (λlo hi J C=>by
   have k:(lo+hi)/2<LL.length:=om;unfold gq;simp only
   rw[if_pos (su J)];have e:=xB (lo:=lo) (hi:=hi) om;rw[n_ om om,sb] at e ⊢;unfold cvU at e ⊢;rw[if_pos om,sb] at e ⊢;cases w:shr ((lo:Int)+hi) 1 with
   |none=>rw[w] at e;cases e
   |some z=>
    rw[w,sb] at e;rw[sb];rw[e,sb,bM _ _ k,sb,u _ (aV k),sb];rw[show LL.getD ((lo+hi)/2) []=LL[(lo+hi)/2] by simp[x_ k]];by_cases d:ordL LL[(lo+hi)/2] s<0
    ·simp only[decide_eq_true d,if_true];rw[n_ om om,sb];rfl
    ·simp only[decide_eq_false d];rfl)
  (λlo h=>by
   unfold gq;simp only
   rw[if_neg sy]) (λj g=>by
   have i:j<LL.length:=om;have:=G j _ (x_ i) g;rw[q j i] at this;simpa [x_ i] using this) (λj g i=>by
   have:=I j _ (x_ i) g;rw[q j i] at this;simpa [x_ i] using this) p 0 LL.length (bj _) y (K_ _) om
 rw[show((0:Nat):Int)=0 from rfl] at this;rw[this,sb];simp only
 have v:∀(j:Nat)(g:j<LL.length),LL[j]=s->c<=j:=λj g e=>by
  rcases Nat.lt_or_ge j c with h|h
  ·have:=G j _ (x_ g) h;rw[q j g,e,decide_eq_true_eq,(pS rfl).2 rfl] at this;omega
  ·exact h
 by_cases d:c<LL.length
 ·rw[if_pos (su d),bM _ _ d,sb,u _ (aV d),sb,sb,sb];simp only
  congr 1;rw[oV,beq_iff_eq,decide_eq_true_eq,pS (by have:=(B _ (aV d)).1;omega)];constructor
  ·intro e;rw[<-e];exact aV d
  ·intro e;obtain⟨j,g,o⟩:=mB.1 e;have J:=v j g o;by_cases H:c=j
   ·subst H;exact o
   ·exfalso;rw[dw] at E;have C:=E c j d g om;rw[o] at C;have:=I c _ (x_ d) (K_ _);rw[q c d,decide_eq_false_iff_not] at this;exact this C
 ·rw[if_neg (su d),sb,sb];have:s ∉ LL:=by
   intro e;obtain⟨j,g,o⟩:=mB.1 e;have:=v j g o;omega
  simp[this]
theorem fU(LL:List (List Int))(x:List Int)(i:x.length<=1000000000):ek LL x=some (decide (x∈LL)):=by
 unfold ek;rw[eg (λ_ y=>if decide (x=y) then some true else none) LL (λj y d _=>by
  unfold nj;rw[vp _ _ i,sb];by_cases h:x=y<;>simp[h,lpP]),sb]
 cases b:firstP (λ_ y=>if decide (x=y) then some true else none) LL 0 with
 | none=>
  have:x ∉ LL:=λg=>by
   obtain⟨j,d⟩:=bS.1 g;have:=cL.1 b j x d;simp at this
  simp[outP,this]
 |some r=>
  obtain⟨j,y,f,a⟩:=dJ b;by_cases e:x=y
  ·subst e;simp at a;subst a;simp[outP,aE f]
  ·simp[e] at a
theorem CZ(a:Nat)(p:c_)(t:List Int)(d:t.length<=1000000)(b:t.length<a):lI a p t=some (decide (srt t∈p.Nodes)):=by
 unfold lI;rw[jd _ _ b om,sb,<-iM,fU _ _ (by rw[eV];omega),sb]
theorem Ew(a b:Int):srt [a,b]=if a<=b then [a,b] else [b,a]:=by
 refine List.Perm.eq_of_pairwise (le:=λa b=>a<=b) (λa b _ _ e d=>yf e d) (tx _) ?_ ((vY _).trans ?_)
 ·split<;>simp<;>omega
 ·split
  ·exact List.Perm.refl _
  ·exact List.Perm.swap _ _ _
theorem vA(p:c_)(a b:Int):ji p a b=some (decide (srt [a,b]∈p.Edges)):=by
 unfold ji nt nE;have:srt [a,b]=[if a<b then a else b,if a>b then a else b]:=by
  rw[Ew];by_cases h:a<b
  ·rw[if_pos om,if_pos h,if_neg om]
  ·by_cases d:a>b
   ·rw[if_neg om,if_neg h,if_pos d]
   ·have:a=b:=om;subst this;simp
 rw[this];by_cases h:a<b
 ·have d:¬a>b:=om;rw[if_pos (su h),sb,if_neg (su d),sb,if_pos h,if_neg d,fU _ _ sy,sb]
 ·by_cases d:a>b
  ·rw[if_neg (su h),sb,if_pos (su d),sb,if_neg h,if_pos d,fU _ _ sy,sb]
  ·rw[if_neg (su h),sb,if_neg (su d),sb,if_neg h,if_neg d,fU _ _ sy,sb]
theorem aO{p:c_}(h:probB p=true):1<=p.Labels∧p.Labels<=8∧1<=p.Degree∧p.Degree<=4∧confsB p.Nodes p.Degree p.Labels=true∧confsB p.Edges 2 p.Labels=true:=by
 simp only[probB,aW] at h;have b:=cr.1 h.1.1.1;have a:=cr.1 h.1.1.2;exact⟨b.1,b.2,a.1,a.2,h.1.2,h.2⟩
theorem xk(a:Nat)(p:c_)(h:probB p=true)(t:List Int)(e:(t.length:Int)=p.Degree)(b:p.Nodes.length<=1000000000)(f:p.Nodes.length<a):ib a p t=some (decide (srt t∈p.Nodes)):=by
 obtain⟨i,g,m,k,d,j⟩:=aO h;unfold ib;rw[nJ a _ _ _ d t e b om f,sb]
theorem qF(d:Nat)(p:c_)(h:probB p=true)(a b:Int)(e:p.Edges.length<=1000000000)(g:p.Edges.length<d):im d p a b=some (decide (srt [a,b]∈p.Edges)):=by
 obtain⟨k,i,n,m,j,f⟩:=aO h;unfold im;rw[nJ d _ _ _ f [a,b] sy e sy g,sb]
def pl(a:Yl):Int->Int->Yl->Option (Lp Yl Yl Yl):=λf b s=>(ix a b)>>=λc=>(push s c)>>=λd=>some (.go d)
def uy(a:Yl)(b:Yl):Option Yl:=(forI (pl b) a 0 [])>>=λc=>match c with| .inl d=>some d| .inr _=>none
theorem uS{α σ ρ:Type}{body:Int->α->σ->Option (Lp σ σ ρ)}(R:Nat->σ):∀(xs:List α)(k:Nat),(∀(j:Nat) x,xs[j]? =some x->body ((k+j:Nat):Int) x (R (k+j))=some (.go (R (k+j+1))))->
  forI body xs (k:Int) (R k)=some (.inl (R (k+xs.length)))
 |[],k,h=>rfl
 |x::xs,k,h=>by
  have a:=h 0 x rfl;simp only[dd] at a;simp only[forI,a];rw[show((k:Int)+1)=((k+1:Nat):Int) by omega];rw[uS R xs (k+1) (λj y b=>by have:=h (j+1) y (su b);rw[show k+(j+1)=k+1+j by omega] at this;exact this)];rw[ao,show k+1+xs.length=k+(xs.length+1) by omega]
theorem tL{α σ ρ:Type}{body:Int->α->σ->Option (Lp σ σ ρ)}(R:Nat->σ)(xs:List α)(h:∀(j:Nat) x,xs[j]? =some x->body (j:Int) x (R j)=some (.go (R (j+1)))):
  forI body xs 0 (R 0)=some (.inl (R xs.length)):=by
 have:=uS R xs 0 (λj x a=>by rw[an];exact h j x a);rw[an] at this;exact this
def imgL(t x:List Int):List Int:=x.map λy=>t.getD y.toNat 0
theorem dM{α:Type}{xs:List α}{j:Nat}{x:α}(h:xs[j]? =some x):xs.take (j+1)=xs.take j++[x]:=by
 rw[dv,h];rfl
theorem pt(t x:List Int)(b:t.length<=1000000)(h:∀y,y∈x->0<=y∧y<t.length)(d:x.length<=1000):fF t x=some (imgL t x)∧uy x t=some (imgL t x):=by
 have step:∀(j:Nat)(y:Int),x[j]? =some y->ix t y=some (t.getD y.toNat 0):=λj y a=>by
  have:=h y (aE a);unfold ix;rw[if_pos this.1,ax,x_ om];rfl
 constructor
 ·unfold fF;have:=tL (body:=kA t) (λj=>imgL t (x.take j)) x (λj y a=>by
   unfold kA push;rw[step j y a,sb,if_pos (by simp[imgL];omega),sb,dM a];simp[imgL])
  rw[cc] at this;rw[show([]:List Int)=imgL t (x.take 0) from rfl,this,sb]
 ·unfold uy;have:=tL (body:=pl t) (λj=>imgL t (x.take j)) x (λj y a=>by
   unfold pl push;rw[step j y a,sb,if_pos (by simp[imgL];omega),sb,dM a];simp[imgL])
  rw[cc] at this;rw[show([]:List Int)=imgL t (x.take 0) from rfl,this,sb]
theorem sJ(n d b:Nat)(L:n<=1000000)(K:d<=1000)(B:∀k,k<=d->n^k<=1000000000)(M:n+d<b):iU b (n:Int) (d:Int)=some (msD n d):=by
 have y:∀j,j<d->ip b (n:Int) (d:Int) (msD n j,(j:Int))=some (.go (msD n (j+1),((j+1:Nat):Int))):=λj C=>by
  have m:(msD n (j+1)).length<=1000000000:=aH (ep n (j+1)) (B (j+1) om);have q:=eh (body:=kG b (n:Int) (j:Int)) (extD n) 1000000000 (msD n j) 0 [] (by simpa [msD] using m) (λx H k v g=>by
   have e:=(cR n j x).1 H;have A:∀(f:List (List Int)×Int->Option (Lp (List (List Int)×Int) (List (List Int)×Int) (List (List Int)))),f=ig (n:Int) x->(x.getLastD 0).toNat<=n->
     loopF f b (v,(((x.getLastD 0).toNat:Nat):Int))=some (.inl (v++extD n x,(n:Int))):=λf t I=>by
    subst t;unfold extD at g ⊢;rw[aA,yg] at g;refine pY (x:=x) (n:=n) (λw k D E=>?_) (λw=>?_) _ _ b v om om g
    ·unfold ig;simp only
     rw[if_pos (su D),dm x (by rw[e.1];omega),sb];unfold push;rw[if_pos (by rw[e.1];omega),sb,if_pos E,sb,n_ om om,sb];rfl
    ·unfold ig;simp only
     rw[if_neg sy]
   have G:=wM e;unfold kG;by_cases F:0<j
   ·obtain⟨i,rfl⟩:∃i,j=i+1:=⟨j-1,om⟩;have J:x.getLastD 0<(n:Int):=by
     rcases gm x with rfl|⟨u,a,rfl⟩
     ·have:=e.1;simp at this
     ·have:=e.2.2 a sy;rw[gn,jT];exact this.2
    rw[if_pos (decide_eq_true om),n_ om om,sb,show(((i+1:Nat):Int)-1)=(i:Int) by omega,qk e.1,sb];have o:=A _ rfl om;rw[co G] at o;rw[o,sb]
   ·have s:j=0:=om;subst s;have p:x=[]:=cD e.1;subst p;rw[if_neg sy];have o:=A (mT (n:Int) []) rfl sy;simp only[Gh,xZ,ym] at o;rw[o,sb])
  unfold ip;simp only
  rw[if_pos (su C),q,sb];simp only[bz];rw[n_ om om,sb];rfl
 have h:=di (λj=>(msD n j,(j:Int))) d y (by
  unfold ip;simp only
  rw[if_neg sy]) b 0 om om
 unfold iU;rw[show(([[]]:List (List Int)),(0:Int))=(msD n 0,((0:Nat):Int)) from rfl,h,sb]
theorem xd(S a:Nat)(b:a<=62):fO (S:Int) (a:Int)=some (S.testBit a):=by
 unfold fO;rw[oi b,sb];unfold rem;rw[if_neg dc,sb,Gb];congr 1;rw[oV];simp only[beq_iff_eq,decide_eq_true_eq];rw[show((S/2^a:Nat):Int).tmod 2=((S/2^a%2:Nat):Int) from rfl];omega
theorem ny(S a:Nat)(g:8<a):dG a (S:Int)=some (lbs 8 S):=by
 have h:=di (f:=iu (S:Int)) (λj=>(lbs j S,(j:Int))) 8 (λj b=>by
  have e:=tk j S;unfold iu;simp only
  rw[if_pos (by simp;omega),xd S j om,sb,qg];cases d:S.testBit j
  ·simp only[cl,if_false];rw[n_ om om,sb];rfl
  ·simp only[if_true];unfold push;rw[if_pos om,sb,n_ om om,sb];rfl) (by
  unfold iu;simp only
  rw[if_neg sy]) a 0 om om
 unfold dG;rw[show(([]:List Int),(0:Int))=(lbs 0 S,((0:Nat):Int)) from rfl,h,sb]
noncomputable def nearN(p:c_)(S:Nat):Nat:=bitsP (λb=>∀a∈lbs 8 S,srt [a,(b:Int)]∈p.Edges) p.Labels.toNat
theorem vQ(p:c_)(b:Int):∀(xs:List Int)(k:Int)(s:Bool),forI (iH p b) xs k s=some (.inl (s&&xs.all λa=>decide (srt [a,b]∈p.Edges)))
 |[],k,s=>by simp[forI]
 | x::xs,k,s=>by
  have d:iH p b k x s=some (.go (s&&decide (srt [x,b]∈p.Edges))):=by
   unfold iH;cases s
   ·simp only[cl,if_false,Bool.false_and];rw[sb]
   ·simp only[if_true,oU];rw[vA,sb,sb]
  simp only[forI,d];rw[vQ p b xs (k+1) _,qY,Bool.and_assoc]
theorem wX{m b:Nat}(h:m<2^b):m+2^b=m|||2^b:=by
 have:=Nat.two_pow_add_eq_or_of_lt h 1;rw[cm] at this;rw[qV,this,Nat.or_comm]
theorem uV(p:c_)(S d:Nat)(t:0<=p.Labels∧p.Labels<=8)(o:8<d):jk d p (S:Int)=some ((nearN p S:Nat):Int):=by
 generalize m:(λb:Nat=>∀a∈lbs 8 S,srt [a,(b:Int)]∈p.Edges)=P;have s:p.Labels=((p.Labels.toNat:Nat):Int):=om;have h:=di (f:=iP d p (S:Int)) (λj=>(((bitsP P j:Nat):Int),(j:Int))) p.Labels.toNat (λj q=>by
  have k:=dO P j;have n:2^j<=2^8:=bF dc om;unfold iP;simp only
  rw[if_pos (by simp;omega),ny S d o,sb,vQ,sb];simp only[oU];have i:((lbs 8 S).all λa=>decide (srt [a,(j:Int)]∈p.Edges))=true<->P j:=by
   rw[<-m,bE];simp
  by_cases g:P j
  ·rw[if_pos (i.2 g),cP om,sb,n_ om om,sb,n_ om om,sb,nN g,<-wX k];simp
  ·rw[if_neg (λe=>g (i.1 e)),n_ om om,sb,nV g];simp) (by
  unfold iP;simp only
  rw[if_neg (by simp;omega)]) d 0 om om
 unfold jk nearN;rw[show((0:Int),(0:Int))=(((bitsP P 0:Nat):Int),((0:Nat):Int)) from rfl,h,sb,m]
theorem uL{α β:Type}(g:α->β):∀xs:List α,(xs.flatMap λy=>[g y])=xs.map g
 |[]=>rfl
 |x::xs=>by rw[eA,uL g xs];rfl
def idxI(sets:List Int)(s:Int):Int:=((sets.countP (λx=>decide (x<s)):Nat):Int)
theorem xr(x:Int):∀(b:List Int)(k:Nat)(a:List Int),b.Pairwise (·<·)->a.length<1000000000->
  forI (dg x) b (k:Int) a=some (.inl (if x∈b then a++[((k+b.countP (λy=>decide (y<x)):Nat):Int)] else a))
 |[],k,a,_,_=>by simp[forI]
 | y::b,k,a,u,p=>by
  obtain⟨n,t⟩:=cU.1 u;have q:((k:Int)+1)=((k+1:Nat):Int):=om;by_cases e:x=y
  ·subst e;have o:dg x (k:Int) x a=some (.go (a++[(k:Int)])):=by
    unfold dg push;rw[if_pos sy,if_pos p,sb]
   have m:∀(zs:List Int)(j:Nat)(d:List Int),(∀z∈zs,x<z)->forI (dg x) zs (j:Int) d=some (.inl d):=by
    intro zs
    induction zs with
    |nil=>intro j d _;rfl
    | cons z zs ih=>
     intro j d g;have v:=g z sy;have s:dg x (j:Int) z d=some (.go d):=by
      unfold dg;rw[if_neg (by simp;omega)]
     simp only[forI,s];rw[show((j:Int)+1)=((j+1:Nat):Int) by omega];exact ih (j+1) d λz h=>g z (sh h)
   simp only[forI,o];rw[q,m b (k+1) _ n,if_pos sy,FW sy];have:b.countP (λy=>decide (y<x))=0:=by
    rw[FV];intro z g;have:=n z g;simp;omega
   rw[this];simp
  ·have o:dg x (k:Int) y a=some (.go a):=by
    unfold dg;rw[if_neg (by simp;omega)]
   simp only[forI,o];rw[q,xr x b (k+1) a t p];by_cases f:x∈b
   ·have i:=n x f;rw[if_pos f,if_pos (sh f),FU (su i)];congr 4;omega
   ·rw[if_neg f,if_neg (by simp[e,f])]
theorem AL(a:Nat)(sets x:List Int)(h:sets.Pairwise (·<·))(i:∀y∈x,y∈sets)(o:x.length<=1000000)(n:x.length<a):kY a sets x=some (srt (x.map (idxI sets))):=by
 have b:=eh (body:=kC sets) (λy=>[idxI sets y]) 1000000 x 0 [] (by
  have:=jz (g:=λy=>[idxI sets y]) (m:=1) x (λ_ _=>sy);simp only[bD];omega) (λy k j e d=>by
  simp only[bn] at d;unfold kC;rw[show(0:Int)=((0:Nat):Int) from rfl,xr y sets 0 e h om,sb,if_pos (i y k)];simp[idxI])
 unfold kY;rw[b,sb];have f:(x.flatMap λy=>[idxI sets y])=x.map (idxI sets):=uL _ x;simp only[bz];rw[f,jd _ _ (su n) (by rw[aA];omega),sb,iM]
end Go.Proofs.YtpefhaamcihneaaGreat
