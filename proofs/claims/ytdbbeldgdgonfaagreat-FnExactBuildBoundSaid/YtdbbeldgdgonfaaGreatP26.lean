/- Part 26 of what this claim rests on (pack.py). -/
import Derived.Test.YtdbbeldgdgonfaaGreatP25
namespace Go.Proofs.YtdbbeldgdgonfaaGreat
set_option linter.unusedSimpArgs false
set_option linter.unusedVariables false
section
theorem iV_(xs:List Int):(srt xs).Pairwise (·<=·):=by
 have:=List.pairwise_mergeSort (le:=λx y:Int=>decide (x<=y)) (λa b c e d=>by simp at e d ⊢;omega) (λa b=>by simp;omega) xs;exact this.imp λ{a b} h=>by simpa using h
theorem hc_(xs:List Int):(srt xs).Perm xs:=List.mergeSort_perm xs _
theorem rD_{m l:List Int}(d:l.Pairwise (·<=·)):srt m=l<->m.Perm l:=
 ⟨λh=>by rw[<-h];exact(hc_ m).symm,λh=>List.Perm.eq_of_pairwise (le:=λx y:Int=>x<=y) (λx y _ _ a b=>by omega) (iV_ m) d ((hc_ m).trans h)⟩
theorem ib_{m l:List Int}(h:m.Perm l):srt m=srt l:=(rD_ (iV_ l)).2 (h.trans (hc_ l).symm)
theorem wh_{l:List Int}(h:l.Pairwise (·<=·)):srt l=l:=(rD_ h).2 (.refl _)
def inG(N:List (List Int))(l:List Int):Prop:=srt l∈N
theorem uN_{N:List (List Int)}(c b:List Int)(h:c.Perm b)(a:inG N c):inG N b:=by
 unfold inG at a ⊢;rw[<-ib_ h];exact a
noncomputable def cmI(L:Nat)(N:List (List Int))(l:List Int):Int:=(cmpl L (inG N) (l.map Int.toNat):Int)
theorem uw_{L:Nat}{N:List (List Int)}{l m:List Int}(h:l.Perm m):cmI L N l=cmI L N m:=by
 unfold cmI;rw[tq_ uN_ (h.map Int.toNat)]
theorem ru_(L:Nat)(N:List (List Int))(l:List Int):0<=cmI L N l∧cmI L N l<2^L:=by
 have:=fd_ (λb=>∀c,cho (l.map Int.toNat) c->inG N (c++[(b:Int)])) L;unfold cmI cmpl;have a:((2^L:Nat):Int)=(2:Int)^L:=by simp
 omega
def fullI(L:Nat)(N:List (List Int))(l:List Int):Prop:=∀(i:Nat) x,l[i]? =some x->cmI L N (l.eraseIdx i)=x
theorem lo_{l:List Int}{i:Nat}{x:Int}(h:l[i]? =some x):l.Perm (x::l.eraseIdx i):=by
 obtain⟨hi,a⟩:=List.getElem?_eq_some_iff.1 h;rw[<-a];exact qt_ hi
theorem qI_{L:Nat}{N:List (List Int)}{l:List Int}:fullI L N l<->∀(x:Int)(m:List Int),l.Perm (x::m)->cmI L N m=x:=by
 constructor
 ·intro h x m a;have d:x∈l:=a.symm.subset (by simp);obtain⟨i,hi,e⟩:=List.mem_iff_getElem.1 d;have b:l[i]? =some x:=by rw[List.getElem?_eq_getElem hi,e]
  have f:=(List.perm_cons x).1 ((lo_ b).symm.trans a);rw[<-uw_ f,h i x b]
 ·intro h i x hi;exact h _ _ (lo_ hi)
theorem sm_{L:Nat}{N:List (List Int)}{l m:List Int}(h:l.Perm m)(a:fullI L N l):fullI L N m:=by
 rw[qI_] at a ⊢;exact λx u b=>a x u (h.trans b)
def firstI(M:Int)(d:Nat)(l:List Int):Prop:=l.length=d∧l.Pairwise (·<=·)∧∀y∈l,1<=y∧y<=M
theorem tO_(L d:Nat)(N:List (List Int))(z:List Int):
  (∃l,firstI (2^L-1) d l∧cmI L N l≠0∧fullI L N (l++[cmI L N l])∧z=srt (l++[cmI L N l]))<->
  (∃l,firstI (2^L-1) d l∧cmI L N l≠0∧(∀y∈l,y<=cmI L N l)∧fullI L N (l++[cmI L N l])∧z=l++[cmI L N l]):=by
 constructor
 ·rintro⟨l,⟨q,o,n⟩,v,p,rfl⟩;have t:=hc_ (l++[cmI L N l]);have s:=iV_ (l++[cmI L N l]);have x:=sm_ t.symm p;have i:∀y∈srt (l++[cmI L N l]),1<=y∧y<=2^L-1:=λy g=>by
   rcases List.mem_append.1 (t.subset g) with g|g
   ·exact n y g
   ·rw[List.mem_singleton.1 g];have:=ru_ L N l;omega
  have h:(srt (l++[cmI L N l])).length=d+1:=by rw[t.length_eq];simp[q]
  generalize srt (l++[cmI L N l])=z at*
  have f:z≠ []:=λe=>by rw[e] at h;simp at h
  have j:=List.dropLast_concat_getLast f;have m:z.Perm (z.getLast f::z.dropLast):=by
   conv=>lhs;rw[<-j]
   exact List.perm_append_comm
  have k:=qI_.1 x _ _ m;have u:z.getLast f∈z:=List.getLast_mem f;refine⟨z.dropLast,⟨by rw[List.length_dropLast];omega,s.sublist (List.dropLast_sublist z),λy g=>i y ((List.dropLast_sublist z).subset g)⟩,?_,?_,?_,?_⟩
  ·rw[k];have:=i _ u;omega
  ·intro y g;rw[k];rw[<-j,List.pairwise_append] at s;exact s.2.2 y g _ (by simp)
  ·rw[k,j];exact x
  ·rw[k,j]
 ·rintro⟨l,⟨q,o,n⟩,v,p,w,rfl⟩;refine⟨l,⟨q,o,n⟩,v,w,(wh_ ?_).symm⟩;rw[List.pairwise_append];exact⟨o,by simp,λa A b B=>by rw[List.mem_singleton.1 B];exact p a A⟩
end
section
theorem eU_{a b c:Int}:inB b c a=true<->b<=a∧a<=c:=by simp[inB]
theorem jC_(n:Int)(b:0<=n)(a:n<2^63):IntKind.i64.wrap n=n:=by rw[IntKind.wrap_i64];omega
theorem rm_{a:Nat}(b:a<2^62):(BitVec.ofInt 64 (a:Int)).toNat=a:=by
 rw[BitVec.ofInt_natCast,BitVec.toNat_ofNat,Nat.mod_eq_of_lt (by omega)]
theorem py_{a b:Nat}(d:a<2^62)(e:b<2^62):bor a b=((a|||b:Nat):Int):=by
 unfold bor;rw[BitVec.toNat_or,rm_ d,rm_ e];have:=Nat.or_lt_two_pow d e;exact jC_ _ (by omega) (by omega)
theorem jp_{a b:Nat}(e:a<2^62)(d:b<2^62):band a b=((a&&&b:Nat):Int):=by
 unfold band;rw[BitVec.toNat_and,rm_ e,rm_ d];have:a&&&b<2^62:=Nat.and_lt_two_pow a d;exact jC_ _ (by omega) (by omega)
theorem mU_{S a:Nat}(h:a<=62):shr S a=some ((S/2^a:Nat):Int):=by
 unfold shr;rw[if_neg (by omega),Int.toNat_natCast,Nat.min_eq_left (by omega),Int.fdiv_eq_ediv_of_nonneg _ (Int.le_of_lt (Int.pow_pos (by decide)))];simp
theorem eZ_{a:Nat}(h:a<=61):shl 1 a=some ((2^a:Nat):Int):=by
 unfold shl;rw[if_neg (by omega),Int.toNat_natCast,Nat.min_eq_left (by omega),Int.one_mul];have d:(2:Int)^a=((2^a:Nat):Int):=by simp
 have b:2^a<=2^61:=Nat.pow_le_pow_right (by decide) h;rw[d];generalize 2^a=P at b ⊢;rw[jC_ _ (by omega) (by omega)]
theorem qL_{S a:Nat}(d:S<2^62):(band ((S/2^a:Nat):Int) 1==1)=S.testBit a:=by
 have b:S/2^a<2^62:=Nat.lt_of_le_of_lt (Nat.div_le_self _ _) d;rw[show(1:Int)=((1:Nat):Int) from rfl,jp_ b (by decide),Nat.and_one_is_mod,Nat.testBit_eq_decide_div_mod_eq];rw[Bool.eq_iff_iff,beq_iff_eq,decide_eq_true_eq];omega
def lbs(n S:Nat):List Int:=((List.range n).filter λi=>S.testBit i).map λi:Nat=>(i:Int)
theorem nn_{n S:Nat}{y:Int}:y∈lbs n S<->∃i:Nat,y=i∧i<n∧S.testBit i=true:=by
 simp only[lbs,List.mem_map,List.mem_filter,List.mem_range];constructor
 ·rintro⟨i,⟨b,a⟩,rfl⟩;exact⟨i,rfl,b,a⟩
 ·rintro⟨i,rfl,b,a⟩;exact⟨i,⟨b,a⟩,rfl⟩
theorem ny_(n S:Nat):lbs (n+1) S=if S.testBit n then lbs n S++[(n:Int)] else lbs n S:=by
 simp only[lbs,List.range_succ,List.filter_append,List.map_append];cases h:S.testBit n<;>simp[List.filter,h]
theorem my_(n S:Nat):(lbs n S).length<=n:=by
 simp only[lbs,List.length_map];exact Nat.le_trans (List.length_filter_le _ _) (by simp)
theorem ug_{a S:Nat}(h:S<2^a):∀d,lbs (a+d) S=lbs a S
 |0=>rfl
 |d+1=>by
  rw[show a+(d+1)=(a+d)+1 by omega,ny_,ug_ h d];rw[Nat.testBit_lt_two_pow (Nat.lt_of_lt_of_le h (Nat.pow_le_pow_right (by decide) (by omega)))];simp
theorem qz_{xs d:List Int}(f:xs.Pairwise (·<·))(e:d.Pairwise (·<·))(h:∀a,a∈xs<->a∈d):xs=d:=by
 have nx:xs.Nodup:=f.imp λh=>by omega
 have j:d.Nodup:=e.imp λh=>by omega
 exact List.Perm.eq_of_pairwise (le:=λa b=>a<=b) (λa b _ _ i g=>Int.le_antisymm i g) (f.imp λh=>by omega) (e.imp λh=>by omega) ((List.perm_ext_iff_of_nodup nx j).2 h)
theorem vI_(xs:List Int)(a:Int):jy_ xs a=some (decide (a∈xs)):=by
 unfold jy_;rw[dF_ (λ_ x=>if x==a then some true else none) xs (λj x f _=>by
  unfold hd_;cases h:(x==a)<;>simp[lpP]),sb]
 cases d:firstP (λ_ x=>if x==a then some true else none) xs 0 with
 | none=>
  have:a ∉ xs:=λg=>by
   obtain⟨j,f⟩:=List.mem_iff_getElem?.1 g;have:=df_.1 d j a f;simp at this
  simp[outP,this]
 | some r=>
  obtain⟨j,x,i,b⟩:=dI_ d;by_cases e:(x==a)=true
  ·rw[if_pos e] at b;cases b
   have:a∈xs:=by rw[<-beq_iff_eq.1 e];exact List.mem_of_getElem? i
   simp[outP,this]
  ·rw[if_neg e] at b;cases b
theorem oc_(S k:Nat)(b:k<=61)(a:S/2^k=0)(xs:List Int):bX_ (S:Int) (xs,(k:Int))=some (.out (xs,(k:Int))):=by
 unfold bX_;simp only
 rw[mU_ (by omega),sb,a,if_neg (by simp)]
theorem qn_(S k:Nat)(b:S<2^62)(d:k<61)(a:S/2^k≠0)(xs:List Int)(f:xs.length<=61):
  bX_ (S:Int) (xs,(k:Int))=some (.go (if S.testBit k then xs++[(k:Int)] else xs,((k+1:Nat):Int))):=by
 unfold bX_;simp only
 rw[mU_ (by omega),sb,sb,qL_ b];generalize S/2^k=Q at a;rw[if_pos (by simp only[bne_iff_ne,ne_eq];omega)];cases e:S.testBit k
 ·rw[if_neg (by simp),F_ (by omega) (by omega),sb];simp
 ·rw[if_pos rfl];unfold push;rw[if_pos (by omega),sb,F_ (by omega) (by omega),sb];simp
theorem nu_(n S:Nat)(g:S<2^n)(q:n<=61):∀(a k:Nat),k<=n->n-k<a->
  ∃j,loopF (bX_ (S:Int)) a (lbs k S,(k:Int))=some (.inl (lbs n S,j)):=by
 have f:S<2^62:=Nat.lt_of_lt_of_le g (Nat.pow_le_pow_right (by decide) (by omega));intro a
 induction a with
 |zero=>intro k _ m;omega
 | succ a ih=>
  intro k s m;have p:=my_ k S;by_cases b:S/2^k=0
  ·have d:S<2^k:=by
    rcases Nat.div_eq_zero_iff.1 b with h|h
    ·have:=Nat.two_pow_pos k;omega
    ·exact h
   have e:lbs n S=lbs k S:=by
    have:=ug_ d (n-k);rwa [show k+(n-k)=n by omega] at this
   exact⟨k,by simp only[loopF,oc_ S k (by omega) b,e]⟩
  ·have i:k<n:=by
    rcases Nat.lt_or_ge k n with h|h
    ·exact h
    ·exact absurd (Nat.div_eq_of_lt (Nat.lt_of_lt_of_le g (Nat.pow_le_pow_right (by decide) h))) b
   obtain⟨j,o⟩:=ih (k+1) (by omega) (by omega);refine⟨j,?_⟩;simp only[loopF,qn_ S k f (by omega) b (lbs k S) (by omega)];rw[<-ny_];exact o
theorem mF_(n S a:Nat)(f:S<2^n)(d:n<=61)(g:n<a):ec_ a (S:Int)=some (lbs n S):=by
 unfold ec_;obtain⟨j,b⟩:=nu_ n S f d a 0 (by omega) (by omega);have e:lbs 0 S=[]:=rfl;rw[e] at b;rw[show((0:Nat):Int)=0 from rfl] at b;rw[b,sb]
def posL(xs:List Int)(a:Int):Nat:=(xs.takeWhile λx=>decide (x<a)).length
theorem mz_(a:Int):∀(d pre:List Int)(b:Nat),d.length<b->pre.length+d.length<=1000000000->
  loopF (dz_ (pre++d) a) b (pre.length:Int)=some (.inl ((pre.length+posL d a:Nat):Int))
 | [],pre,b,f,g=>by
  cases b with
  |zero=>simp at f
  | succ b=>
   have e:dz_ (pre++[]) a (pre.length:Int)=some (.out (pre.length:Int)):=by
    unfold dz_;rw[if_neg (by simp),sb,if_neg (by simp)]
   rw[List.append_nil] at e ⊢;simp[loopF,e,posL]
 | y::d,pre,b,f,g=>by
  cases b with
  |zero=>simp at f
  | succ b=>
   simp only[List.length_cons] at f g;have e:dz_ (pre++y::d) a (pre.length:Int)=some (if y<a then .go ((pre.length+1:Nat):Int) else .out (pre.length:Int)):=by
    unfold dz_;rw[if_pos (by simp;omega),mH_,sb,sb];by_cases h:y<a
    ·simp only[h,decide_true,if_true];rw[F_ (by omega) (by omega),sb];simp
    ·simp only[h,decide_false,if_false,Bool.false_eq_true]
   by_cases h:y<a
   ·simp only[loopF,e,h,if_true];have:=mz_ a d (pre++[y]) b (by omega) (by simp;omega);rw[List.append_assoc] at this;simp only[List.length_append,List.length_cons,List.length_nil,List.cons_append,List.nil_append,Nat.zero_add] at this;rw[this];simp[posL,List.takeWhile_cons,h];omega
   ·simp only[loopF,e,h,if_false];simp[posL,List.takeWhile_cons,h]
theorem wp_(xs:List Int)(a:Int):posL xs a<=xs.length:=by
 unfold posL;exact(List.takeWhile_sublist _).length_le
theorem tZ_(xs:List Int)(a:Int):xs.take (posL xs a)=xs.takeWhile λx=>decide (x<a):=by
 induction xs with
 |nil=>rfl
 |cons x xs ih=>
  unfold posL at ih ⊢;rw[List.takeWhile_cons];split
  ·rw[List.length_cons,List.take_succ_cons,ih]
  ·rfl
theorem kH_(xs:List Int)(a:Int):xs.drop (posL xs a)=xs.dropWhile λx=>decide (x<a):=by
 induction xs with
 |nil=>rfl
 |cons x xs ih=>
  unfold posL at ih ⊢;rw[List.takeWhile_cons,List.dropWhile_cons];split
  ·rw[List.length_cons,List.drop_succ_cons,ih]
  ·rfl
theorem pK_{xs:List Int}{a:Int}(d:xs.Pairwise (·<·)):∀y,y∈xs.dropWhile (λx=>decide (x<a))->a<=y:=by
 induction xs with
 |nil=>simp
 | cons x xs ih=>
  rw[List.pairwise_cons] at d;intro y b;rw[List.dropWhile_cons] at b;split at b
  ·exact ih d.2 y b
  ·rename_i h;simp at h;rcases List.mem_cons.1 b with rfl|b
   ·exact h
   ·have:=d.1 y b;omega
theorem wg_(xs:List Int)(a:Int)(e:Nat)(E:xs.length<e)(F:xs.length<=1000000)(g:xs.Pairwise (·<·)):
  ∃B,il_ e xs a=some B∧B.Pairwise (·<·)∧∀b,b∈B<->b∈xs∨b=a:=by
 unfold il_;have t:=mz_ a xs [] e E (by simp;omega);simp only[List.nil_append,List.length_nil,Nat.zero_add] at t;rw[show((0:Nat):Int)=0 from rfl] at t;rw[t,sb];have H:=wp_ xs a;have d:xs.takeWhile (λx=>decide (x<a))++xs.dropWhile (λx=>decide (x<a))=xs:=List.takeWhile_append_dropWhile;have o:∀y,y∈xs.takeWhile (λx=>decide (x<a))->y<a:=λy j=>by
  have:=List.all_eq_true.1 List.all_takeWhile y j;simpa using this
 by_cases f:posL xs a<xs.length
 ·simp only
  rw[if_pos (by simp;omega),hg_ _ _ f,sb,sb];by_cases w:xs[posL xs a]=a
  ·rw[if_pos (by simp[w])];exact⟨xs,rfl,g,λb=>⟨.inl,λh=>by
    rcases h with h|h
    ·exact h
    ·rw[h,<-w];exact List.getElem_mem f⟩⟩
  ·rw[if_neg (by simp[w])];have p:xs.dropWhile (λx=>decide (x<a))=xs[posL xs a]::xs.drop (posL xs a+1):=by
    rw[<-kH_,List.drop_eq_getElem_cons f]
   have q:∀y,y∈xs.dropWhile (λx=>decide (x<a))->a<y:=λy j=>by
    rw[p] at j;have G:=pK_ g xs[posL xs a] (by rw[p];exact List.mem_cons_self);have D:(xs.drop (posL xs a)).Pairwise (·<·):=g.sublist (List.drop_sublist _ _);rw[List.drop_eq_getElem_cons f,List.pairwise_cons] at D;rcases List.mem_cons.1 j with rfl|j
    ·omega
    ·have:=D.1 y j;omega
   have s:cut xs 0 ((posL xs a:Nat):Int)=some (xs.takeWhile λx=>decide (x<a)):=by
    unfold cut;rw[if_pos ⟨by omega,by omega,by omega⟩];simp[tZ_]
   have i:cut xs ((posL xs a:Nat):Int) xs.length=some (xs.dropWhile λx=>decide (x<a)):=by
    unfold cut;rw[if_pos ⟨by omega,by omega,by omega⟩];simp[kH_]
   have n:=congrArg List.length d;rw[List.length_append] at n;refine⟨xs.takeWhile (λx=>decide (x<a))++[a]++xs.dropWhile (λx=>decide (x<a)),?_,?_,?_⟩
   ·rw[s,sb,iJ_ _ (by omega),sb];unfold push;rw[if_pos (by omega),sb,i,sb];unfold cat
    rw[if_pos (by simp;omega),sb]
   ·rw[<-d] at g;rw[List.pairwise_append] at g;rw[List.append_assoc,List.singleton_append,List.pairwise_append,List.pairwise_cons];refine⟨g.1,⟨q,g.2.1⟩,λu m v k=>?_⟩;rcases List.mem_cons.1 k with rfl|k
    ·exact o u m
    ·exact g.2.2 u m v k
   ·intro b
    conv=>rhs;rw[<-d]
    simp only[List.mem_append,List.mem_cons,List.not_mem_nil,or_false];constructor
    ·rintro((h|h)|h)
     ·exact .inl (.inl h)
     ·exact .inr h
     ·exact .inl (.inr h)
    ·rintro((h|h)|h)
     ·exact .inl (.inl h)
     ·exact .inr h
     ·exact .inl (.inr h)
 ·have p:xs.dropWhile (λx=>decide (x<a))=[]:=by rw[<-kH_,List.drop_eq_nil_of_le (by omega)]
  have C:xs.takeWhile (λx=>decide (x<a))=xs:=by rw[p,List.append_nil] at d;exact d
  simp only
  rw[if_neg (by simp;omega),sb,if_neg (by simp)];have A:posL xs a=xs.length:=by omega
  rw[A,wo_,sb,iJ_ _ (by omega),sb];unfold push;rw[if_pos (by omega),sb];have i:cut xs ((xs.length:Nat):Int) xs.length=some []:=by
   unfold cut;rw[if_pos ⟨by omega,by omega,by omega⟩];simp
  rw[i,sb];unfold cat
  refine⟨xs++[a],?_,?_,?_⟩
  ·rw[if_pos (by simp;omega),sb];simp
  ·rw[List.pairwise_append];refine⟨g,by simp,λu m v k=>?_⟩;simp at k;subst k;rw[<-C] at m;exact o u m
  ·intro b;simp
end
section
theorem kI_:∀{a b:List Int},a.length=b.length->(ordL a b=0<->a=b)
 |[],[],_=>by simp[ordL]
 |[],_::_,h=>by simp at h
 |_::_,[],h=>by simp at h
 | x::a,y::b,h=>by
  have ih:=kI_ (a:=a) (b:=b) (by simpa using h);simp only[ordL];by_cases e:x<y
  ·rw[if_pos e];simp;omega
  ·rw[if_neg e];by_cases d:x>y
   ·rw[if_pos d];simp;omega
   ·rw[if_neg d,ih];have:x=y:=by omega
    simp[this]
theorem jE_:∀{a b c:List Int},a.length=b.length->b.length=c.length->ordL a b<0->ordL b c<0->ordL a c<0
 |[],[],[],_,_,h,_=>by simp[ordL] at h
 |[],[],_::_,_,h,_,_=>by simp at h
 |[],_::_,_,h,_,_,_=>by simp at h
 |_::_,[],_,h,_,_,_=>by simp at h
 |_::_,_::_,[],_,h,_,_=>by simp at h
 | x::a,y::b,z::c,m,k,f,d=>by
  have ih:=jE_ (a:=a) (b:=b) (c:=c) (by simpa using m) (by simpa using k);simp only[ordL] at f d ⊢;by_cases e:x<y
  ·by_cases i:y<z
   ·rw[if_pos (by omega)];omega
   ·rw[if_neg i] at d;by_cases g:y>z
    ·rw[if_pos g] at d;omega
    ·rw[if_pos (by omega)];omega
  ·rw[if_neg e] at f;by_cases i:x>y
   ·rw[if_pos i] at f;omega
   ·rw[if_neg i] at f;have:x=y:=by omega
    subst this;by_cases g:x<z
    ·rw[if_pos g];omega
    ·rw[if_neg g] at d ⊢;by_cases j:x>z
     ·rw[if_pos j] at d;omega
     ·rw[if_neg j] at d ⊢;exact ih f d
def confB(LL:List (List Int))(m n:Int)(k:Nat)(x:List Int):Bool:=
  decide ((x.length:Int)=m)&&sortB x&&x.all (inB 0 (n-1))&&(decide (k=0)||decide (ordL (LL.getD (k-1) []) x<0))
def confP(LL:List (List Int))(m n:Int)(k:Nat)(x:List Int):Option Bool:=if confB LL m n k x then none else some false
def confsB(LL:List (List Int))(m n:Int):Bool:=(firstP (confP LL m n) LL 0).isNone
theorem ob_{LL xs:List (List Int)}{m n:Int}{k:Nat}{r:Bool}(h:firstP (confP LL m n) xs k=some r):r=false:=by
 obtain⟨j,x,_,a⟩:=dI_ h;unfold confP at a;split at a<;>cases a;rfl
theorem jK_{LL:List (List Int)}{m n:Int}{k:Nat}{x:List Int}(h:confP LL m n k x=none):(x.length:Int)=m∧sortB x=true∧(∀y,y∈x->0<=y∧y<=n-1)∧(k=0∨ordL (LL.getD (k-1) []) x<0):=by
 unfold confP at h;split at h
 ·rename_i a;simp only[confB,Bool.and_eq_true,decide_eq_true_eq,Bool.or_eq_true] at a;exact⟨a.1.1.1,a.1.1.2,λy b=>eU_.1 (List.all_eq_true.1 a.1.2 y b),a.2⟩
 ·cases h
theorem go_{LL:List (List Int)}{m n:Int}{k:Nat}{x:List Int}(h:confB LL m n k x=false):lpP (confP LL m n k x)=.ret false:=by simp[confP,h,lpP]
theorem nV_{LL:List (List Int)}{m n:Int}{k:Nat}{x:List Int}(h:confB LL m n k x=true):lpP (confP LL m n k x)=.go ():=by simp[confP,h,lpP]
theorem pN_(m:Nat)(x:List Int)(u:x.length=m)(t:m<=1000):∀(d j:Nat),1<=j->(∀(k:Nat) a b,k+1<j->x[k]? =some a->x[k+1]? =some b->a<=b)->m<d+j∧j<=m->
  (∃y,loopF (bG_ (m:Int) x) d (j:Int)=some (.inl y)∧sortB x=true)∨(loopF (bG_ (m:Int) x) d (j:Int)=some (.inr false)∧sortB x=false):=by
 intro d
 induction d with
 |zero=>
  intro j s o q;omega
 | succ d ih=>
  intro j s o q;by_cases v:j<m
  ·have i:x[j-1]? =some (x[j-1]'(by omega)):=List.getElem?_eq_getElem (by omega);have n:x[j]? =some (x[j]'(by omega)):=List.getElem?_eq_getElem (by omega);by_cases g:x[j-1]'(by omega)<=x[j]'(by omega)
   ·have p:bG_ (m:Int) x (j:Int)=some (.go ((j+1:Nat):Int)):=by
     unfold bG_;rw[if_pos (by simp;omega),F_ (by omega) (by omega),sb,show(j:Int)-1=((j-1:Nat):Int) by omega,aY_,i,sb,aY_,n,sb,if_neg (by simp;omega),F_ (by omega) (by omega),sb];rfl
    rw[nO_ p d];refine ih (j+1) (by omega) (λk a b w h f=>?_) (by omega);by_cases e:k+1=j
    ·have:k=j-1:=by omega
     subst this;rw[e] at f;rw[i] at h;rw[n] at f;cases h;cases f;exact g
    ·exact o k a b (by omega) h f
   ·right;constructor
    ·have p:bG_ (m:Int) x (j:Int)=some (.ret false):=by
      unfold bG_;rw[if_pos (by simp;omega),F_ (by omega) (by omega),sb,show(j:Int)-1=((j-1:Nat):Int) by omega,aY_,i,sb,aY_,n,sb,if_pos (by simp;omega)]
     simp only[loopF,p]
    ·cases f:sortB x with
     |false=>rfl
     |true=>
      exfalso;apply g;exact gH_.1 f (j-1) _ _ i (by rw[show j-1+1=j by omega];exact n)
  ·left;refine⟨(j:Int),?_,?_⟩
   ·refine jG_ ?_ d;unfold bG_;rw[if_neg (by simp;omega)]
   ·refine gH_.2 λk a b h f=>o k a b ?_ h f;have:=(List.getElem?_eq_some_iff.1 f).1;omega
theorem of_(d:Nat)(LL:List (List Int))(m:Nat)(n:Int)(v:1<=m)(E:m<=4)(F:1<=n∧n<=8)(G:10<=d)(D:LL.length<=1000000000):fL_ d LL (m:Int) n=some (confsB LL m n):=by
 unfold fL_ confsB;rw[dF_ (confP LL m n) LL (λj x B f=>by
  have w:=(List.getElem?_eq_some_iff.1 B).1;unfold fI_;by_cases q:(x.length:Int)=m
  ·rw[if_neg (by simp[q]),F_ (by omega) (by omega),sb,vN_,sb];by_cases h:x.all (inB 0 (n-1))=true
   ·rw[if_neg (by simp[h])];have e:(if decide ((j:Int)>0) then(ck ((j:Int)-1)>>=λs=>ix LL s>>=λo=>eY_ o x>>=λu=>some (decide (u>=0))) else some false)=some (!(decide (j=0)||decide (ordL (LL.getD (j-1) []) x<0))):=by
     cases j with
     |zero=>simp
     | succ j=>
      have C:=jK_ (f j LL[j] (by omega) (List.getElem?_eq_getElem (by omega)));rw[if_pos (by simp),F_ (by omega) (by omega),sb,show(((j+1:Nat):Int)-1)=(j:Int) by omega,hg_ _ _ (by omega),sb,
       oq_ _ _ (by omega) (λy t=>by have:=C.2.2.1 y t;omega) (λy t=>by have:=eU_.1 (List.all_eq_true.1 h y t);omega),sb]
      have:LL.getD (j+1-1) []=LL[j]:=by simp[List.getElem?_eq_getElem (show j<LL.length by omega)]
      rw[this];by_cases i:ordL LL[j] x<0
      ·simp[i]
      ·simp[i];omega
    rw[e,sb];cases i:(decide (j=0)||decide (ordL (LL.getD (j-1) []) x<0))
    ·rw[if_pos (by simp),go_ (by simp only[confB,i,Bool.and_false])]
    ·rw[if_neg (by simp)];rcases pN_ m x (by omega) (by omega) d 1 (Nat.le_refl _) (λk a b H=>by omega) ⟨by omega,by omega⟩ with⟨y,g,p⟩|⟨g,p⟩
     ·rw[show((1:Nat):Int)=1 from rfl] at g;rw[g,sb,nV_ (by simp only[confB,q,h,p,i,decide_true,Bool.and_self])]
     ·rw[show((1:Nat):Int)=1 from rfl] at g;rw[g,sb,go_ (by simp[confB,p])]
   ·rw[if_pos (by simp[h]),sb,if_pos rfl,go_ (by simp[confB,h])]
  ·rw[if_pos (by simp;omega),sb,if_pos rfl,go_ (by simp[confB,q])]),sb]
 cases A:firstP (confP LL m n) LL 0 with
 |none=>rfl
 |some r=>have:=ob_ A;subst this;rfl
theorem gk_(a:Nat)(LL:List (List Int))(m:Nat)(n:Int)(u:m<=4)(v:1<=n∧n<=8)(y:10<=a)(t:LL.length<=1000000000):bF_ a LL (m:Int) n=some (confsB LL m n):=by
 unfold bF_ confsB;rw[dF_ (confP LL m n) LL (λj x s d=>by
  have p:=(List.getElem?_eq_some_iff.1 s).1;unfold ck_;by_cases i:(x.length:Int)=m
  ·rw[if_neg (by simp[i]),rU_ _ _ (by omega) (by omega),sb];by_cases f:sortB x=true
   ·rw[if_neg (by simp[f]),F_ (by omega) (by omega),sb,pO_ _ _ _ (by omega),sb];by_cases g:x.all (inB 0 (n-1))=true
    ·rw[if_neg (by simp[g])];have b:(if decide ((j:Int)>0) then(ck ((j:Int)-1)>>=λk=>ix LL k>>=λh=>Q_ h x>>=λo=>some (decide (o>=0))) else some false)=some (!(decide (j=0)||decide (ordL (LL.getD (j-1) []) x<0))):=by
      cases j with
      |zero=>simp
      |succ j=>
       have w:=jK_ (d j LL[j] (by omega) (List.getElem?_eq_getElem (by omega)));rw[if_pos (by simp),F_ (by omega) (by omega),sb,show(((j+1:Nat):Int)-1)=(j:Int) by omega,hg_ _ _ (by omega),sb,lu_ _ _ (by omega),sb];have:LL.getD (j+1-1) []=LL[j]:=by simp[List.getElem?_eq_getElem (show j<LL.length by omega)]
       rw[this];by_cases e:ordL LL[j] x<0
       ·simp[e]
       ·simp[e];omega
     rw[b,sb];cases e:(decide (j=0)||decide (ordL (LL.getD (j-1) []) x<0))
     ·rw[if_pos (by simp),go_ (by simp only[confB,e,Bool.and_false])]
     ·rw[if_neg (by simp),nV_ (by simp only[confB,i,g,f,e,decide_true,Bool.and_self])]
    ·rw[if_pos (by simp[g]),sb,if_pos rfl,go_ (by simp[confB,g])]
   ·rw[if_pos (by simp[f]),sb,if_pos rfl,go_ (by simp[confB,f])]
  ·rw[if_pos (by simp;omega),sb,if_pos rfl,go_ (by simp[confB,i])]),sb]
 cases q:firstP (confP LL m n) LL 0 with
 |none=>rfl
 |some r=>have:=ob_ q;subst this;rfl
def probB(p:b_):Bool:=inB 1 8 p.Labels&&inB 1 4 p.Degree&&confsB p.Nodes p.Degree p.Labels&&confsB p.Edges 2 p.Labels
theorem jr_(a:Nat)(d:10<=a)(p:b_)(f:p.Nodes.length<=1000000000)(j:p.Edges.length<=1000000000):eC_ a p=some (probB p):=by
 unfold eC_ probB;rw[oG_,sb];rw[show(decide (1<=p.Labels)&&decide (p.Labels<=8))=inB 1 8 p.Labels from rfl];cases i:inB 1 8 p.Labels
 ·simp[sb]
 ·rw[if_pos rfl,oG_,sb];rw[show(decide (1<=p.Degree)&&decide (p.Degree<=4))=inB 1 4 p.Degree from rfl];cases h:inB 1 4 p.Degree
  ·simp[sb]
  ·have b:=eU_.1 i;have g:=eU_.1 h;obtain⟨m,e⟩:∃m:Nat,p.Degree=m:=⟨p.Degree.toNat,by omega⟩;rw[if_pos rfl,e,of_ a p.Nodes m p.Labels (by omega) (by omega) b d f,sb];cases k:confsB p.Nodes m p.Labels
   ·simp[sb]
   ·rw[if_pos rfl];have:=of_ a p.Edges 2 p.Labels (by omega) (by omega) b d j;rw[show((2:Nat):Int)=2 from rfl] at this;rw[this,sb,sb];simp
theorem hh_(a:Nat)(d:10<=a)(p:b_)(f:p.Nodes.length<=1000000000)(j:p.Edges.length<=1000000000):db_ a p=some (probB p):=by
 unfold db_ probB;rw[ii_,sb];rw[show(decide (1<=p.Labels)&&decide (p.Labels<=8))=inB 1 8 p.Labels from rfl];cases i:inB 1 8 p.Labels
 ·simp[sb]
 ·rw[if_pos rfl,ii_,sb];rw[show(decide (1<=p.Degree)&&decide (p.Degree<=4))=inB 1 4 p.Degree from rfl];cases h:inB 1 4 p.Degree
  ·simp[sb]
  ·have b:=eU_.1 i;have g:=eU_.1 h;obtain⟨m,e⟩:∃m:Nat,p.Degree=m:=⟨p.Degree.toNat,by omega⟩;rw[if_pos rfl,e,gk_ a p.Nodes m p.Labels (by omega) b d f,sb];cases k:confsB p.Nodes m p.Labels
   ·simp[sb]
   ·rw[if_pos rfl];have:=gk_ a p.Edges 2 p.Labels (by omega) b d j;rw[show((2:Nat):Int)=2 from rfl] at this;rw[this,sb,sb];simp
theorem et_{LL:List (List Int)}{m n:Int}(h:confsB LL m n=true):(∀x,x∈LL->(x.length:Int)=m∧sortB x=true∧∀y,y∈x->0<=y∧y<=n-1)∧LL.Pairwise (λa b=>ordL a b<0):=by
 unfold confsB at h;rw[Option.isNone_iff_eq_none] at h;have s:=df_.1 h;have e:∀(j:Nat) x,LL[j]? =some x->(x.length:Int)=m∧sortB x=true∧(∀y,y∈x->0<=y∧y<=n-1)∧(j=0∨ordL (LL.getD (j-1) []) x<0):=λj x f=>by
  have:=s j x f;rw[Nat.zero_add] at this;exact jK_ this
 refine⟨λx q=>?_,?_⟩
 ·obtain⟨j,f⟩:=List.mem_iff_getElem?.1 q;have:=e j x f;exact⟨this.1,this.2.1,this.2.2.1⟩
 ·have g:∀(d i:Nat)(hi:i+d+1<LL.length),ordL (LL[i]'(by omega)) LL[i+d+1]<0:=by
   intro d
   induction d with
   |zero=>
    intro i hi;have:=(e (i+1) _ (List.getElem?_eq_getElem hi)).2.2.2;simpa [List.getElem?_eq_getElem (show i<LL.length by omega)] using this
   |succ d ih=>
    intro i hi;have p:=ih i (by omega);have:=(e (i+d+1+1) _ (List.getElem?_eq_getElem hi)).2.2.2;have k:ordL (LL[i+d+1]'(by omega)) LL[i+(d+1)+1]<0:=by simpa [List.getElem?_eq_getElem (show i+d+1<LL.length by omega)] using this
    have t:=(e i _ (List.getElem?_eq_getElem (by omega))).1;have u:=(e (i+d+1) _ (List.getElem?_eq_getElem (by omega))).1;have v:=(e (i+(d+1)+1) _ (List.getElem?_eq_getElem hi)).1;exact jE_ (by omega) (by omega) p k
  rw[List.pairwise_iff_getElem];intro i j hi f o;have:=g (j-i-1) i (by omega);simpa [show i+(j-i-1)+1=j by omega] using this
theorem lb_(o:Nat)(LL:List (List Int))(m n:Int)(L:confsB LL m n=true)(t:List Int)(U:(t.length:Int)=m)(R:LL.length<=1000000000)(K:t.length<=1000000000)(S:LL.length<o):bn_ o LL t=some (decide (srt t∈LL)):=by
 obtain⟨B,G⟩:=et_ L;have N:=ei_ t;generalize D:srt t=s at N;unfold bn_ srtO;rw[if_pos K,sb,D];have v:∀x,x∈LL->Q_ x s=some (ordL x s):=λx O=>lu_ x s (by have:=(B x O).1;omega);obtain⟨H,I⟩:=hR_ (λx=>decide (x.length=s.length)&&decide (ordL x s<0)) LL (G.imp_of_mem λ{a b} M T C h=>by
  simp only[Bool.and_eq_true,decide_eq_true_eq] at h ⊢;have Q:=(B a M).1;exact⟨by omega,jE_ (by omega) h.1 C h.2⟩)
 have y:LL.countP (λx=>decide (x.length=s.length)&&decide (ordL x s<0))<=LL.length:=List.countP_le_length;generalize LL.countP (λx=>decide (x.length=s.length)&&decide (ordL x s<0))=c at H I y;have q:∀(j:Nat)(i:j<LL.length),(decide (LL[j].length=s.length)&&decide (ordL LL[j] s<0))=decide (ordL LL[j] s<0):=λj i=>by
  have:=(B _ (List.getElem_mem i)).1;rw[show decide (LL[j].length=s.length)=true by rw[decide_eq_true_eq];omega,Bool.true_and]
 unfold ap_;have:=sY_ (f:=U_ LL s (λA:(List Int)×(List Int)=>Q_ A.1 A.2)) (λj=>decide (ordL (LL.getD j []) s<0)) LL.length c y (λlo hi J E=>by
   have k:(lo+hi)/2<LL.length:=by omega
   unfold U_;simp only
   rw[if_pos (by simpa using J)];have e:=vH_ (lo:=lo) (hi:=hi) (by omega);rw[F_ (by omega) (by omega),sb] at e ⊢;unfold cvU at e ⊢;rw[if_pos (by omega),sb] at e ⊢;cases w:shr ((lo:Int)+hi) 1 with
   |none=>rw[w] at e;cases e
   |some z=>
    rw[w,sb] at e;rw[sb];rw[e,sb,hg_ _ _ k,sb,v _ (List.getElem_mem k),sb];rw[show LL.getD ((lo+hi)/2) []=LL[(lo+hi)/2] by simp[List.getElem?_eq_getElem k]];by_cases d:ordL LL[(lo+hi)/2] s<0
    ·simp only[decide_eq_true d,if_true];rw[F_ (by omega) (by omega),sb];rfl
    ·simp only[decide_eq_false d];rfl)
  (λlo h=>by
   unfold U_;simp only
   rw[if_neg (by simp)]) (λj i=>by
   have g:j<LL.length:=by omega
   have:=H j _ (List.getElem?_eq_getElem g) i;rw[q j g] at this;simpa [List.getElem?_eq_getElem g] using this) (λj i g=>by
   have:=I j _ (List.getElem?_eq_getElem g) i;rw[q j g] at this;simpa [List.getElem?_eq_getElem g] using this) o 0 LL.length (Nat.zero_le _) y (Nat.le_refl _) (by omega)
 rw[show((0:Nat):Int)=0 from rfl] at this;rw[this,sb];simp only
 have u:∀(j:Nat)(i:j<LL.length),LL[j]=s->c<=j:=λj i e=>by
  rcases Nat.lt_or_ge j c with h|h
  ·have:=H j _ (List.getElem?_eq_getElem i) h;rw[q j i,e,decide_eq_true_eq,(kI_ rfl).2 rfl] at this;omega
  ·exact h
 by_cases d:c<LL.length
 ·rw[if_pos (by simpa using d),hg_ _ _ d,sb,v _ (List.getElem_mem d),sb,sb,sb];simp only
  congr 1;rw[Bool.eq_iff_iff,beq_iff_eq,decide_eq_true_eq,kI_ (by have:=(B _ (List.getElem_mem d)).1;omega)];constructor
  ·intro e;rw[<-e];exact List.getElem_mem d
  ·intro e;obtain⟨j,i,p⟩:=List.mem_iff_getElem.1 e;have J:=u j i p;by_cases F:c=j
   ·subst F;exact p
   ·exfalso;rw[List.pairwise_iff_getElem] at G;have E:=G c j d i (by omega);rw[p] at E;have:=I c _ (List.getElem?_eq_getElem d) (Nat.le_refl _);rw[q c d,decide_eq_false_iff_not] at this;exact this E
 ·rw[if_neg (by simpa using d),sb,sb];have:s ∉ LL:=by
   intro e;obtain⟨j,i,p⟩:=List.mem_iff_getElem.1 e;have:=u j i p;omega
  simp[this]
theorem jJ_(LL:List (List Int))(x:List Int)(g:x.length<=1000000000):gg_ LL x=some (decide (x∈LL)):=by
 unfold gg_;rw[dF_ (λ_ y=>if decide (x=y) then some true else none) LL (λj y d _=>by
  unfold gW_;rw[rq_ _ _ g,sb];by_cases h:x=y<;>simp[h,lpP]),sb]
 cases b:firstP (λ_ y=>if decide (x=y) then some true else none) LL 0 with
 | none=>
  have:x ∉ LL:=λf=>by
   obtain⟨j,d⟩:=List.mem_iff_getElem?.1 f;have:=df_.1 b j x d;simp at this
  simp[outP,this]
 |some r=>
  obtain⟨j,y,i,a⟩:=dI_ b;by_cases e:x=y
  ·subst e;simp at a;subst a;simp[outP,List.mem_of_getElem? i]
  ·simp[e] at a
theorem uT_(a:Nat)(p:b_)(t:List Int)(d:t.length<=1000000)(b:t.length<a):hF_ a p t=some (decide (srt t∈p.Nodes)):=by
 unfold hF_;rw[iv_ _ _ b (by omega),sb,<-gn_,jJ_ _ _ (by rw[ei_];omega),sb]
theorem wb_(a b:Int):srt [a,b]=if a<=b then [a,b] else [b,a]:=by
 refine List.Perm.eq_of_pairwise (le:=λa b=>a<=b) (λa b _ _ e d=>Int.le_antisymm e d) (mg_ _) ?_ ((qx_ _).trans ?_)
 ·split<;>simp<;>omega
 ·split
  ·exact List.Perm.refl _
  ·exact List.Perm.swap _ _ _
theorem rj_(p:b_)(a b:Int):gF_ p a b=some (decide (srt [a,b]∈p.Edges)):=by
 unfold gF_ ik_ jd_;have:srt [a,b]=[if a<b then a else b,if a>b then a else b]:=by
  rw[wb_];by_cases h:a<b
  ·rw[if_pos (by omega),if_pos h,if_neg (by omega)]
  ·by_cases d:a>b
   ·rw[if_neg (by omega),if_neg h,if_pos d]
   ·have:a=b:=by omega
    subst this;simp
 rw[this];by_cases h:a<b
 ·have d:¬a>b:=by omega
  rw[if_pos (by simpa using h),sb,if_neg (by simpa using d),sb,if_pos h,if_neg d,jJ_ _ _ (by simp),sb]
 ·by_cases d:a>b
  ·rw[if_neg (by simpa using h),sb,if_pos (by simpa using d),sb,if_neg h,if_pos d,jJ_ _ _ (by simp),sb]
  ·rw[if_neg (by simpa using h),sb,if_neg (by simpa using d),sb,if_neg h,if_neg d,jJ_ _ _ (by simp),sb]
theorem aK_{p:b_}(h:probB p=true):1<=p.Labels∧p.Labels<=8∧1<=p.Degree∧p.Degree<=4∧confsB p.Nodes p.Degree p.Labels=true∧confsB p.Edges 2 p.Labels=true:=by
 simp only[probB,Bool.and_eq_true] at h;have a:=eU_.1 h.1.1.1;have b:=eU_.1 h.1.1.2;exact⟨a.1,a.2,b.1,b.2,h.1.2,h.2⟩
theorem vy_(a:Nat)(p:b_)(h:probB p=true)(t:List Int)(e:(t.length:Int)=p.Degree)(b:p.Nodes.length<=1000000000)(d:p.Nodes.length<a):cW_ a p t=some (decide (srt t∈p.Nodes)):=by
 obtain⟨j,g,k,m,f,i⟩:=aK_ h;unfold cW_;rw[lb_ a _ _ _ f t e b (by omega) d,sb]
theorem ul_(d:Nat)(p:b_)(h:probB p=true)(a b:Int)(e:p.Edges.length<=1000000000)(f:p.Edges.length<d):cU_ d p a b=some (decide (srt [a,b]∈p.Edges)):=by
 obtain⟨j,i,k,n,m,g⟩:=aK_ h;unfold cU_;rw[lb_ d _ _ _ g [a,b] (by simp) e (by simp) f,sb]
end
section
set_option maxRecDepth 100000
set_option maxHeartbeats 2000000
open Go.RowKit
def hz_(d:List Int):Int->Int->(List Int)->Option (Lp (List Int) (List Int) (List Int)):=λ(f:Int)(a:Int)(s:List Int)=>
  (ix d a)>>=λb=>
  (push s b)>>=λc=>
  some (.go c)
def or_(a:List Int)(b:List Int):Option (List Int):=
  (forI (hz_ b) a 0 [])>>=λc=>
  match c with
  | .inl d=>
    some d
  | .inr _=>none
end
section
theorem ow_{α σ ρ:Type}{body:Int->α->σ->Option (Lp σ σ ρ)}(R:Nat->σ):∀(xs:List α)(k:Nat),(∀(j:Nat) x,xs[j]? =some x->body ((k+j:Nat):Int) x (R (k+j))=some (.go (R (k+j+1))))->
  forI body xs (k:Int) (R k)=some (.inl (R (k+xs.length)))
 |[],k,h=>rfl
 |x::xs,k,h=>by
  have a:=h 0 x rfl;simp only[Nat.add_zero] at a;simp only[forI,a];rw[show((k:Int)+1)=((k+1:Nat):Int) by omega];rw[ow_ R xs (k+1) (λj y b=>by have:=h (j+1) y (by simpa using b);rw[show k+(j+1)=k+1+j by omega] at this;exact this)];rw[List.length_cons,show k+1+xs.length=k+(xs.length+1) by omega]
theorem mp_{α σ ρ:Type}{body:Int->α->σ->Option (Lp σ σ ρ)}(R:Nat->σ)(xs:List α)(h:∀(j:Nat) x,xs[j]? =some x->body (j:Int) x (R j)=some (.go (R (j+1)))):
  forI body xs 0 (R 0)=some (.inl (R xs.length)):=by
 have:=ow_ R xs 0 (λj x a=>by rw[Nat.zero_add];exact h j x a);rw[Nat.zero_add] at this;exact this
def imgL(t x:List Int):List Int:=x.map λy=>t.getD y.toNat 0
theorem ev_{α:Type}{xs:List α}{j:Nat}{x:α}(h:xs[j]? =some x):xs.take (j+1)=xs.take j++[x]:=by
 rw[List.take_add_one,h];rfl
theorem pW_(t x:List Int)(b:t.length<=1000000)(h:∀y,y∈x->0<=y∧y<t.length)(d:x.length<=1000):fk_ t x=some (imgL t x)∧or_ x t=some (imgL t x):=by
 have step:∀(j:Nat)(y:Int),x[j]? =some y->ix t y=some (t.getD y.toNat 0):=λj y a=>by
  have:=h y (List.mem_of_getElem? a);unfold ix;rw[if_pos this.1,List.getD_eq_getElem?_getD,List.getElem?_eq_getElem (by omega)];rfl
 constructor
 ·unfold fk_;have:=mp_ (body:=dx_ t) (λj=>imgL t (x.take j)) x (λj y a=>by
   unfold dx_ push;rw[step j y a,sb,if_pos (by simp[imgL];omega),sb,ev_ a];simp[imgL])
  rw[List.take_length] at this;rw[show([]:List Int)=imgL t (x.take 0) from rfl,this,sb]
 ·unfold or_;have:=mp_ (body:=hz_ t) (λj=>imgL t (x.take j)) x (λj y a=>by
   unfold hz_ push;rw[step j y a,sb,if_pos (by simp[imgL];omega),sb,ev_ a];simp[imgL])
  rw[List.take_length] at this;rw[show([]:List Int)=imgL t (x.take 0) from rfl,this,sb]
end
section
theorem lh_(n d b:Nat)(L:n<=1000000)(K:d<=1000)(G:∀k,k<=d->n^k<=1000000000)(M:n+d<b):en_ b (n:Int) (d:Int)=some (msD n d):=by
 have t:∀j,j<d->cO_ b (n:Int) (d:Int) (msD n j,(j:Int))=some (.go (msD n (j+1),((j+1:Nat):Int))):=λj H=>by
  have o:(msD n (j+1)).length<=1000000000:=Nat.le_trans (hp_ n (j+1)) (G (j+1) (by omega));have s:=fY_ (body:=dH_ b (n:Int) (j:Int)) (extD n) 1000000000 (msD n j) 0 [] (by simpa [msD] using o) (λx F k y g=>by
   have e:=(eQ_ n j x).1 F;have A:∀(f:List (List Int)×Int->Option (Lp (List (List Int)×Int) (List (List Int)×Int) (List (List Int)))),f=cK_ (n:Int) x->(x.getLastD 0).toNat<=n->
     loopF f b (y,(((x.getLastD 0).toNat:Nat):Int))=some (.inl (y++extD n x,(n:Int))):=λf q D=>by
    subst q;unfold extD at g ⊢;rw[List.length_map,List.length_range'] at g;refine mV_ (x:=x) (n:=n) (λp k I E=>?_) (λp=>?_) _ _ b y (by omega) (by omega) g
    ·unfold cK_;simp only
     rw[if_pos (by simpa using I),gs_ x (by rw[e.1];omega),sb];unfold push;rw[if_pos (by rw[e.1];omega),sb,if_pos E,sb,F_ (by omega) (by omega),sb];rfl
    ·unfold cK_;simp only
     rw[if_neg (by simp)]
   have B:=tr_ e;unfold dH_;by_cases C:0<j
   ·obtain⟨i,rfl⟩:∃i,j=i+1:=⟨j-1,by omega⟩;have J:x.getLastD 0<(n:Int):=by
     rcases List.eq_nil_or_concat x with rfl|⟨u,a,rfl⟩
     ·have:=e.1;simp at this
     ·have:=e.2.2 a (by simp);rw[List.concat_eq_append,List.getLastD_concat];exact this.2
    rw[if_pos (decide_eq_true (by omega)),F_ (by omega) (by omega),sb,show(((i+1:Nat):Int)-1)=(i:Int) by omega,pJ_ e.1,sb];have m:=A _ rfl (by omega);rw[Int.toNat_of_nonneg B] at m;rw[m,sb]
   ·have w:j=0:=by omega
    subst w;have v:x=[]:=List.eq_nil_of_length_eq_zero e.1;subst v;rw[if_neg (by simp)];have m:=A (eF_ (n:Int) []) rfl (by simp);simp only[List.getLastD_nil,Int.toNat_zero,Int.natCast_zero] at m;rw[m,sb])
  unfold cO_;simp only
  rw[if_pos (by simpa using H),s,sb];simp only[List.nil_append];rw[F_ (by omega) (by omega),sb];rfl
 have h:=ce_ (λj=>(msD n j,(j:Int))) d t (by
  unfold cO_;simp only
  rw[if_neg (by simp)]) b 0 (by omega) (by omega)
 unfold en_;rw[show(([[]]:List (List Int)),(0:Int))=(msD n 0,((0:Nat):Int)) from rfl,h,sb]
theorem sN_(S a:Nat)(b:a<=62):ht_ (S:Int) (a:Int)=some (S.testBit a):=by
 unfold ht_;rw[mU_ b,sb];unfold rem;rw[if_neg (by decide),sb,Nat.testBit_eq_decide_div_mod_eq];congr 1;rw[Bool.eq_iff_iff];simp only[beq_iff_eq,decide_eq_true_eq];rw[show((S/2^a:Nat):Int).tmod 2=((S/2^a%2:Nat):Int) from rfl];omega
theorem ip_(S a:Nat)(d:8<a):cF_ a (S:Int)=some (lbs 8 S):=by
 have h:=ce_ (f:=dm_ (S:Int)) (λj=>(lbs j S,(j:Int))) 8 (λj g=>by
  have b:=my_ j S;unfold dm_;simp only
  rw[if_pos (by simp;omega),sN_ S j (by omega),sb,ny_];cases e:S.testBit j
  ·simp only[Bool.false_eq_true,if_false];rw[F_ (by omega) (by omega),sb];rfl
  ·simp only[if_true];unfold push;rw[if_pos (by omega),sb,F_ (by omega) (by omega),sb];rfl) (by
  unfold dm_;simp only
  rw[if_neg (by simp)]) a 0 (by omega) (by omega)
 unfold cF_;rw[show(([]:List Int),(0:Int))=(lbs 0 S,((0:Nat):Int)) from rfl,h,sb]
noncomputable def nearN(p:b_)(S:Nat):Nat:=bitsP (λb=>∀a∈lbs 8 S,srt [a,(b:Int)]∈p.Edges) p.Labels.toNat
theorem qN_(p:b_)(b:Int):∀(xs:List Int)(k:Int)(s:Bool),forI (eh_ p b) xs k s=some (.inl (s&&xs.all λa=>decide (srt [a,b]∈p.Edges)))
 |[],k,s=>by simp[forI]
 | x::xs,k,s=>by
  have d:eh_ p b k x s=some (.go (s&&decide (srt [x,b]∈p.Edges))):=by
   unfold eh_;cases s
   ·simp only[Bool.false_eq_true,if_false,Bool.false_and];rw[sb]
   ·simp only[if_true,Bool.true_and];rw[rj_,sb,sb]
  simp only[forI,d];rw[qN_ p b xs (k+1) _,List.all_cons,Bool.and_assoc]
theorem sO_{m b:Nat}(h:m<2^b):m+2^b=m|||2^b:=by
 have:=Nat.two_pow_add_eq_or_of_lt h 1;rw[Nat.mul_one] at this;rw[Nat.add_comm,this,Nat.or_comm]
theorem rr_(p:b_)(S d:Nat)(q:0<=p.Labels∧p.Labels<=8)(o:8<d):gN_ d p (S:Int)=some ((nearN p S:Nat):Int):=by
 generalize m:(λb:Nat=>∀a∈lbs 8 S,srt [a,(b:Int)]∈p.Edges)=P;have s:p.Labels=((p.Labels.toNat:Nat):Int):=by omega
 have h:=ce_ (f:=ek_ d p (S:Int)) (λj=>(((bitsP P j:Nat):Int),(j:Int))) p.Labels.toNat (λj t=>by
  have k:=fd_ P j;have n:2^j<=2^8:=Nat.pow_le_pow_right (by decide) (by omega);unfold ek_;simp only
  rw[if_pos (by simp;omega),ip_ S d o,sb,qN_,sb];simp only[Bool.true_and];have i:((lbs 8 S).all λa=>decide (srt [a,(j:Int)]∈p.Edges))=true<->P j:=by
   rw[<-m,List.all_eq_true];simp
  by_cases g:P j
  ·rw[if_pos (i.2 g),eZ_ (by omega),sb,F_ (by omega) (by omega),sb,F_ (by omega) (by omega),sb,iP_ g,<-sO_ k];simp
  ·rw[if_neg (λe=>g (i.1 e)),F_ (by omega) (by omega),sb,kz_ g];simp) (by
  unfold ek_;simp only
  rw[if_neg (by simp;omega)]) d 0 (by omega) (by omega)
 unfold gN_ nearN;rw[show((0:Int),(0:Int))=(((bitsP P 0:Nat):Int),((0:Nat):Int)) from rfl,h,sb,m]
theorem pn_{α β:Type}(g:α->β):∀xs:List α,(xs.flatMap λy=>[g y])=xs.map g
 |[]=>rfl
 |x::xs=>by rw[List.flatMap_cons,pn_ g xs];rfl
def idxI(sets:List Int)(s:Int):Int:=((sets.countP (λx=>decide (x<s)):Nat):Int)
theorem vx_(x:Int):∀(b:List Int)(k:Nat)(a:List Int),b.Pairwise (·<·)->a.length<1000000000->
  forI (aO_ x) b (k:Int) a=some (.inl (if x∈b then a++[((k+b.countP (λy=>decide (y<x)):Nat):Int)] else a))
 |[],k,a,_,_=>by simp[forI]
 | y::b,k,a,v,p=>by
  obtain⟨n,s⟩:=List.pairwise_cons.1 v;have q:((k:Int)+1)=((k+1:Nat):Int):=by omega
  by_cases e:x=y
  ·subst e;have i:aO_ x (k:Int) x a=some (.go (a++[(k:Int)])):=by
    unfold aO_ push;rw[if_pos (by simp),if_pos p,sb]
   have m:∀(zs:List Int)(j:Nat)(d:List Int),(∀z∈zs,x<z)->forI (aO_ x) zs (j:Int) d=some (.inl d):=by
    intro zs
    induction zs with
    |nil=>intro j d _;rfl
    | cons z zs ih=>
     intro j d g;have t:=g z (by simp);have u:aO_ x (j:Int) z d=some (.go d):=by
      unfold aO_;rw[if_neg (by simp;omega)]
     simp only[forI,u];rw[show((j:Int)+1)=((j+1:Nat):Int) by omega];exact ih (j+1) d λz o=>g z (by simp[o])
   simp only[forI,i];rw[q,m b (k+1) _ n,if_pos (by simp),List.countP_cons_of_neg (by simp)];have:b.countP (λy=>decide (y<x))=0:=by
    rw[List.countP_eq_zero];intro z g;have:=n z g;simp;omega
   rw[this];simp
  ·have i:aO_ x (k:Int) y a=some (.go a):=by
    unfold aO_;rw[if_neg (by simp;omega)]
   simp only[forI,i];rw[q,vx_ x b (k+1) a s p];by_cases f:x∈b
   ·have h:=n x f;rw[if_pos f,if_pos (by simp[f]),List.countP_cons_of_pos (by simpa using h)];congr 4;omega
   ·rw[if_neg f,if_neg (by simp[e,f])]
theorem pY_(a:Nat)(sets x:List Int)(k:sets.Pairwise (·<·))(n:∀y∈x,y∈sets)(o:x.length<=1000000)(h:x.length<a):fq_ a sets x=some (srt (x.map (idxI sets))):=by
 have d:=fY_ (body:=dJ_ sets) (λy=>[idxI sets y]) 1000000 x 0 [] (by
  have:=ij_ (g:=λy=>[idxI sets y]) (m:=1) x (λ_ _=>by simp);simp only[List.length_nil];omega) (λy f j i b=>by
  simp only[List.length_singleton] at b;unfold dJ_;rw[show(0:Int)=((0:Nat):Int) from rfl,vx_ y sets 0 i k (by omega),sb,if_pos (n y f)];simp[idxI])
 unfold fq_;rw[d,sb];have e:(x.flatMap λy=>[idxI sets y])=x.map (idxI sets):=pn_ _ x;simp only[List.nil_append];rw[e,iv_ _ _ (by simpa using h) (by rw[List.length_map];omega),sb,gn_]
end
end Go.Proofs.YtdbbeldgdgonfaaGreat
