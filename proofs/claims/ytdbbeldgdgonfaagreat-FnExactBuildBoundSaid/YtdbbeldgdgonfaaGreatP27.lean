/- Part 27 of what this claim rests on (pack.py). -/
import Derived.Test.YtdbbeldgdgonfaaGreatP26
namespace Go.Proofs.YtdbbeldgdgonfaaGreat
set_option linter.unusedSimpArgs false
set_option linter.unusedVariables false
section
def posD(l:List (List Int))(x:List Int):Nat:=(l.takeWhile λy=>decide (ordL y x<0)).length
theorem vZ_(l:List (List Int))(x:List Int):posD l x<=l.length:=(List.takeWhile_sublist _).length_le
theorem qE_{y x:List Int}{l:List (List Int)}(h:ordL y x<0):posD (y::l) x=posD l x+1:=by
 unfold posD;rw[List.takeWhile_cons,if_pos (by simpa using h),List.length_cons]
theorem sF_{y x:List Int}{l:List (List Int)}(h:¬ordL y x<0):posD (y::l) x=0:=by
 unfold posD;rw[List.takeWhile_cons,if_neg (by simpa using h)];rfl
theorem sy_(x:List Int):∀(l:List (List Int)),insS l x=if l[posD l x]? =some x then l else l.take (posD l x)++[x]++l.drop (posD l x)
 |[]=>by simp[insS,posD]
 | y::l=>by
  by_cases h:ordL y x<0
  ·rw[qE_ h];simp only[insS,if_pos h,sy_ x l,List.getElem?_cons_succ,List.take_succ_cons,List.drop_succ_cons];split<;>rfl
  ·rw[sF_ h];simp only[insS,if_neg h];by_cases e:y=x
   ·simp[e]
   ·simp[e]
def smallD(d:Nat)(x:List Int):Prop:=x.length=d∧∀y,y∈x->0<=y∧y<=1000000000
theorem rL_{d:Nat}{l:List (List Int)}{x:List Int}(b:∀z∈l,smallD d z)(e:smallD d x):∀z∈insS l x,smallD d z:=λz a=>by
 rcases jj_.1 a with rfl|a
 ·exact e
 ·exact b z a
theorem mZ_(x:List Int):∀(l:List (List Int)),(insS l x).length<=l.length+1
 |[]=>by simp[insS]
 |y::l=>by
  have:=mZ_ x l;unfold insS;split
  ·simp;omega
  ·split<;>simp
theorem pA_:∀(xs l:List (List Int)),(xs.foldl insS l).length<=l.length+xs.length
 |[],l=>by simp
 |x::xs,l=>by
  have b:=mZ_ x l;have a:=pA_ xs (insS l x);rw[List.foldl_cons,List.length_cons];omega
theorem pa_{d:Nat}(x:List Int)(f:smallD d x):∀(b pre:List (List Int))(a:Nat),b.length<a->pre.length+b.length<=1000000000->(∀z∈b,smallD d z)->
  loopF (bW_ (pre++b) x) a (pre.length:Int)=some (.inl ((pre.length+posD b x:Nat):Int))
 |[],pre,a,m,i,e=>by
  obtain⟨a,rfl⟩:∃q,a=q+1:=⟨a-1,by omega⟩;refine jG_ ?_ a;unfold bW_;rw[if_neg (by simp),sb];simp[posD]
 | y::b,pre,a,m,i,e=>by
  simp only[List.length_cons] at m i;obtain⟨a,rfl⟩:∃q,a=q+1:=⟨a-1,by omega⟩;have k:=e y (by simp);have j:=oq_ y x (by rw[k.1,f.1]) k.2 f.2;by_cases h:ordL y x<0
  ·have n:bW_ (pre++y::b) x (pre.length:Int)=some (.go ((pre.length:Int)+1)):=by
    unfold bW_;rw[if_pos (by simp;omega),mH_,sb,j,sb,sb,if_pos (by simpa using h),F_ (by omega) (by omega),sb]
   rw[nO_ n];have:=pa_ x f b (pre++[y]) a (by omega) (by simp;omega) λz g=>e z (by simp[g]);rw[List.append_assoc,List.singleton_append,List.length_append,List.length_singleton] at this;rw[show((pre.length:Int)+1)=((pre.length+1:Nat):Int) by omega,this,qE_ h];congr 3;omega
  ·refine jG_ ?_ a;unfold bW_;rw[if_pos (by simp;omega),mH_,sb,j,sb,sb,if_neg (by simpa using h),sF_ h];simp
theorem pz_{d:Nat}(y:d<=1000)(a:Nat)(l:List (List Int))(x:List Int)(t:l.length<a)(v:l.length<1000000000)(p:∀z∈l,smallD d z)(s:smallD d x):fS_ a l x=some (insS l x):=by
 unfold fS_;have q:=pa_ x s l [] a t (by simp;omega) p;rw[List.nil_append,List.length_nil,Nat.zero_add,show((0:Nat):Int)=0 from rfl] at q;rw[q,sb,sy_];have u:=vZ_ l x;simp only
 generalize posD l x=k at u ⊢;have f:cut l 0 (k:Int)=some (l.take k):=by
  unfold cut;rw[if_pos (by omega)];simp
 have g:cut l (k:Int) l.length=some (l.drop k):=by
  unfold cut;rw[if_pos (by omega)];simp
 have b:((cut l 0 (k:Int))>>=λo=>(cat ([]:List (List Int)) o)>>=λm=>(push m x)>>=λi=>(cut l (k:Int) l.length)>>=λh=>(cat i h)>>=λj=>some j)=some (l.take k++[x]++l.drop k):=by
  rw[f,sb,iJ_ _ (by rw[List.length_take];omega),sb];unfold push;rw[if_pos (by rw[List.length_take];omega),sb,g,sb];unfold cat
  rw[if_pos (by simp;omega),sb]
 by_cases n:k<l.length
 ·rw[if_pos (by simp;omega),hg_ _ _ n,sb,rq_ _ _ (by have:=(p _ (List.getElem_mem n)).1;omega),sb,sb,List.getElem?_eq_getElem n];by_cases e:l[k]=x
  ·simp[e]
  ·rw[if_neg (by simpa using e),if_neg (by simpa using e)];exact b
 ·rw[if_neg (by simp;omega),sb,if_neg (by simp),List.getElem?_eq_none (by omega),if_neg (by simp)];exact b
theorem jx_{S:Nat}{f:List Nat}{m:List Int}(k:S<256):cho (S::f) m<->∃a e,m=a::e∧a∈lbs 8 S∧cho f e:=by
 constructor
 ·intro h;cases m with
  |nil=>exact h.elim
  | cons a m=>
   refine⟨a,m,rfl,nn_.2 ⟨a.toNat,by have:=h.1.1;omega,?_,h.1.2⟩,h.2⟩;have b:=h.1.2;by_cases d:a.toNat<8
   ·exact d
   ·have:S.testBit a.toNat=false:=Nat.testBit_lt_two_pow (Nat.lt_of_lt_of_le k (by
     have:2^8<=2^a.toNat:=Nat.pow_le_pow_right (by decide) (by omega);omega))
    rw[this] at b;cases b
 ·rintro⟨a,e,rfl,j,g⟩;obtain⟨i,rfl,n,b⟩:=nn_.1 j;exact⟨⟨by omega,by simpa using b⟩,g⟩
theorem mC_(f:List (List Int))(sets:List Int)(A:∀s∈sets,0<=s∧s<256)(C:sets.length<=1000):∀(d e:Nat)(c:List Int),c.length+d=sets.length->sets.length+9+d<e->
  ∃l b,cG_ e f sets c=some (l,b)∧(b=true<->∃m,cho ((sets.drop c.length).map Int.toNat) m∧srt (c++m)∈f)
 | 0,e,c,D,I=>by
  obtain⟨e,rfl⟩:∃q,e=q+1:=⟨e-1,by omega⟩;unfold cG_;rw[if_pos (by simp;omega),iv_ _ _ (by omega) (by omega),sb,<-gn_,jJ_ _ _ (by rw[ei_];omega),sb];refine⟨_,_,rfl,?_⟩;rw[show sets.drop c.length=[] from List.drop_eq_nil_iff.2 (by omega),List.map_nil,decide_eq_true_eq];constructor
  ·exact λh=>⟨[],trivial,by rw[List.append_nil];exact h⟩
  ·rintro⟨m,x,h⟩;cases m with
   |nil=>rwa [List.append_nil] at h
   |cons a m=>exact x.elim
 | d+1,e,c,D,I=>by
  obtain⟨e,rfl⟩:∃q,e=q+1:=⟨e-1,by omega⟩;have w:c.length<sets.length:=by omega
  have p:sets[c.length]∈sets:=List.getElem_mem w;have H:=A _ p;have n:sets.drop c.length=sets[c.length]::sets.drop (c.length+1):=List.drop_eq_getElem_cons w;unfold cG_;rw[if_neg (by simp;omega),hg_ _ _ w,sb];have o:cF_ e sets[c.length]=some (lbs 8 sets[c.length].toNat):=by
   have:=ip_ sets[c.length].toNat e (by omega);rwa [Int.toNat_of_nonneg H.1] at this
  rw[o,sb];obtain⟨z,F,E⟩:=eT_ (body:=dU_ f sets c (cG_ e)) (λa=>∃m,cho ((sets.drop (c.length+1)).map Int.toNat) m∧srt (c++(a::m))∈f) (λr=>r.2=true) (lbs 8 sets[c.length].toNat) 0 (λa i j=>by
   obtain⟨l,b,B,t⟩:=mC_ f sets A C d e (c++[a]) (by simp;omega) (by omega);rw[List.length_append,List.length_singleton] at t;simp only[List.append_assoc,List.singleton_append] at t;unfold dU_;rw[gs_ c (by omega),sb];unfold push;rw[if_pos (by omega),sb,B,sb];cases b
   ·exact⟨_,rfl,.inl ⟨rfl,λh=>by simpa using t.2 h⟩⟩
   ·exact⟨_,rfl,.inr ⟨_,rfl,rfl,t.1 rfl⟩⟩)
  rw[F,sb,n,List.map_cons];have g:(∃m,cho (sets[c.length].toNat::(sets.drop (c.length+1)).map Int.toNat) m∧srt (c++m)∈f)<->∃a∈lbs 8 sets[c.length].toNat,∃m,cho ((sets.drop (c.length+1)).map Int.toNat) m∧srt (c++(a::m))∈f:=by
   constructor
   ·rintro⟨m,x,h⟩;obtain⟨a,u,rfl,i,k⟩:=(jx_ (by omega)).1 x;exact⟨a,i,u,k,h⟩
   ·rintro⟨a,i,u,k,h⟩;exact⟨a::u,(jx_ (by omega)).2 ⟨a,u,rfl,i,k⟩,h⟩
  rcases E with⟨rfl,v⟩|⟨r,rfl,G,a,i,y⟩
  ·refine⟨_,_,rfl,?_⟩;rw[g];constructor
   ·intro h;cases h
   ·rintro⟨a,i,y⟩;exact absurd y (v a i)
  ·obtain⟨l,b⟩:=r;refine⟨l,b,rfl,?_⟩;rw[g];exact⟨λ_=>⟨a,i,y⟩,λ_=>G⟩
def chS(good:List (List Int))(sets x:List Int):Prop:=∃m,cho ((imgL sets x).map Int.toNat) m∧srt m∈good
open Classical in
noncomputable def someP(good:List (List Int))(sets:List Int)(d:Nat):List (List Int):=(msD sets.length d).filter λx=>decide (chS good sets x)
theorem gd_(t x:List Int):(imgL t x).length=x.length:=by simp[imgL]
theorem rk_{t x:List Int}(h:∀y∈x,0<=y∧y<t.length){z:Int}(a:z∈imgL t x):z∈t:=by
 unfold imgL at a;obtain⟨y,b,rfl⟩:=List.mem_map.1 a;have:=h y b;rw[List.getD_eq_getElem?_getD,List.getElem?_eq_getElem (by omega)];exact List.getElem_mem _
open Classical in
theorem qv_(fuel:Nat)(good:List (List Int))(sets:List Int)(d:Nat)(hs:∀s∈sets,0<=s∧s<256)(hl:sets.length<=8)(hd:d<=4)(hf:1000<=fuel):gM_ fuel good sets (d:Int)=some (someP good sets d):=by
  have hb:∀k,k<=d->sets.length^k<=1000000000:=λk hk=>by
    have h1:sets.length^k<=8^k:=Nat.pow_le_pow_left hl k
    have h2:8^k<=8^4:=Nat.pow_le_pow_right (by decide) (by omega)
    omega
  have hlen:=Nat.le_trans (hp_ sets.length d) (hb d (Nat.le_refl d))
  have h1:((msD sets.length d).flatMap λx=>if decide (chS good sets x) then [x] else []).length<=1000000000:=by
    rw[iE_]
    exact Nat.le_trans (List.length_filter_le _ _) hlen
  have key:=fY_ (body:=fi_ fuel good sets) (λx=>if decide (chS good sets x) then [x] else []) 1000000000 (msD sets.length d) 0 [] (by simpa using h1) (λx hx j ac hac=>by
    have hnd:=(eQ_ _ _ _).1 hx
    unfold fi_
    rw[(pW_ sets x (by omega) hnd.2.2 (by rw[hnd.1];omega)).1,sb]
    have hil:=gd_ sets x
    rw[hnd.1] at hil
    obtain⟨l,b,g1,g2⟩:=mC_ good (imgL sets x) (λs hs'=>hs s (rk_ hnd.2.2 hs')) (by omega) d fuel [] (by simp[hil]) (by omega)
    simp only[List.length_nil,List.drop_zero,List.nil_append] at g2
    rw[g1,sb]
    cases b
    · have hno:¬chS good sets x:=λh=>by simpa using g2.2 h
      simp[hno]
    · have hyes:chS good sets x:=g2.1 rfl
      simp only[hyes,decide_true,if_true,List.length_singleton] at hac ⊢
      unfold push
      rw[if_pos (by omega),sb])
  unfold gM_ someP
  rw[lh_ sets.length d fuel (by omega) (by omega) hb (by omega),sb,key,sb]
  simp only[List.nil_append]
  rw[iE_]
def sdI(xs:List Int):List Int:=((List.range 256).map λi:Nat=>(i:Int)).filter λi=>decide (i∈xs)
theorem ln_{xs:List Int}(h:∀x∈xs,0<=x∧x<256){y:Int}:y∈sdI xs<->y∈xs:=by
 unfold sdI;rw[List.mem_filter,decide_eq_true_eq,List.mem_map];constructor
 ·exact λh=>h.2
 ·intro a;have:=h y a;exact⟨⟨y.toNat,by rw[List.mem_range];omega,by omega⟩,a⟩
theorem tK_{xs:List Int}{y:Int}(h:y∈sdI xs):(0<=y∧y<256)∧y∈xs:=by
 unfold sdI at h;rw[List.mem_filter,decide_eq_true_eq,List.mem_map] at h;obtain⟨⟨i,hi,rfl⟩,a⟩:=h;rw[List.mem_range] at hi;exact⟨by omega,a⟩
theorem ja_(xs:List Int):(sdI xs).Pairwise (·<·):=by
 unfold sdI;refine List.Pairwise.filter _ ?_;rw[List.pairwise_map];exact List.pairwise_lt_range.imp λ{a b} h=>by omega
theorem pX_(xs:List Int):(sdI xs).length<=256:=by
 unfold sdI;exact Nat.le_trans (List.length_filter_le _ _) (by simp)
theorem tS_{xs a:List Int}(h:∀y,y∈xs<->y∈a):sdI xs=sdI a:=by
 unfold sdI;refine List.filter_congr λy _=>?_;simp[h y]
theorem wz_(a:Nat)(k:1000<=a)(A:List Int)(s:Int)(e:∀x∈A,0<=x∧x<256)(h:0<=s∧s<256):il_ a (sdI A) s=some (sdI (A++[s])):=by
 have j:=pX_ A;obtain⟨m,g,f,i⟩:=wg_ (sdI A) s a (by omega) (by omega) (ja_ A);rw[g];congr 1;refine qz_ f (ja_ _) λb=>?_;rw[i,ln_ e,ln_ (λx d=>by
  rcases List.mem_append.1 d with d|d
  ·exact e x d
  ·rw[List.mem_singleton.1 d];exact h),List.mem_append,List.mem_singleton]
theorem td_(a:Nat)(f:1000<=a):∀(xs:List Int)(k:Int)(A:List Int),(∀x∈A,0<=x∧x<256)->(∀x∈xs,0<=x∧x<256)->forI (ef_ a) xs k (sdI A)=some (.inl (sdI (A++xs)))
 |[],k,A,_,_=>by simp[forI]
 | x::xs,k,A,e,d=>by
  have g:ef_ a k x (sdI A)=some (.go (sdI (A++[x]))):=by
   unfold ef_;rw[wz_ a f A x e (d x (by simp)),sb]
  simp only[forI,g];rw[td_ a f xs (k+1) (A++[x]) (λy b=>by
   rcases List.mem_append.1 b with b|b
   ·exact e y b
   ·rw[List.mem_singleton.1 b];exact d x (by simp)) (λy b=>d y (by simp[b])),List.append_assoc,List.singleton_append]
theorem qV_(a:Nat)(f:1000<=a):∀(full:List (List Int))(k:Int)(A:List Int),(∀x∈A,0<=x∧x<256)->(∀x∈full,∀y∈x,0<=y∧y<256)->forI (er_ a) full k (sdI A)=some (.inl (sdI (A++full.flatten)))
 |[],k,A,_,_=>by simp[forI]
 | x::full,k,A,e,d=>by
  have g:er_ a k x (sdI A)=some (.go (sdI (A++x))):=by
   unfold er_;rw[td_ a f x 0 A e (d x (by simp)),sb]
  simp only[forI,g];rw[qV_ a f full (k+1) (A++x) (λy b=>by
   rcases List.mem_append.1 b with b|b
   ·exact e y b
   ·exact d x (by simp) y b) (λy b=>d y (by simp[b])),List.flatten_cons,List.append_assoc]
def nmb(sets x:List Int):List Int:=srt (x.map (idxI sets))
theorem jL_(sets x:List Int):(nmb sets x).length=x.length:=by unfold nmb;rw[ei_,List.length_map]
theorem vV_(sets:List Int)(s:Int):0<=idxI sets s∧idxI sets s<=sets.length:=by
 have:sets.countP (λx=>decide (x<s))<=sets.length:=List.countP_le_length;unfold idxI;omega
theorem uj_{sets x:List Int}{d:Nat}(e:x.length=d)(f:sets.length<=1000000):smallD d (nmb sets x):=by
 refine⟨by rw[jL_,e],λy b=>?_⟩;have a:=(hc_ _).subset b;obtain⟨s,-,rfl⟩:=List.mem_map.1 a;have:=vV_ sets s;omega
theorem sJ_{d:Nat}(i:d<=1000)(b:Nat)(s:1000000000<=b)(sets:List Int)(g:sets.Pairwise (·<·))(m:sets.length<=1000):∀(full:List (List Int))(k:Int)(a:List (List Int)),(∀x∈full,x.length=d∧∀y∈x,y∈sets)->
  a.length+full.length<1000000000->(∀z∈a,smallD d z)->forI (el_ b sets) full k a=some (.inl ((full.map (nmb sets)).foldl insS a))
 |[],k,a,_,_,_=>by simp[forI]
 | x::full,k,a,h,p,f=>by
  rw[List.length_cons] at p;obtain⟨j,o⟩:=h x (by simp);have e:=uj_ (sets:=sets) j (by omega);have n:el_ b sets k x a=some (.go (insS a (nmb sets x))):=by
   unfold el_;rw[pY_ b sets x g o (by omega) (by omega),sb];rw[show srt (x.map (idxI sets))=nmb sets x from rfl,pz_ i b a _ (by omega) (by omega) f e,sb]
  simp only[forI,n];have:=mZ_ (nmb sets x) a;rw[sJ_ i b s sets g m full (k+1) _ (λy q=>h y (by simp[q])) (by omega) (rL_ f e),List.map_cons,List.foldl_cons]
noncomputable def madeV(p:b_)(full:List (List Int))(b:Bool):b_×List Int×Bool:=
  if 1<=(sdI full.flatten).length∧(sdI full.flatten).length<=8 then
    (if b then ⟨((sdI full.flatten).length:Int),p.Degree,someP p.Nodes (sdI full.flatten) p.Degree.toNat,sxd (full.map (nmb (sdI full.flatten)))⟩
     else ⟨((sdI full.flatten).length:Int),p.Degree,sxd (full.map (nmb (sdI full.flatten))),someP p.Edges (sdI full.flatten) 2⟩,sdI full.flatten,true)
  else(⟨0,0,[],[]⟩,[],false)
theorem rl_{d:Nat}(t:d<=1000)(a:Nat)(u:1000000000<=a)(p:b_)(full:List (List Int))(b:Bool)(q:0<=p.Degree∧p.Degree<=4)(n:∀x∈full,x.length=d∧∀y∈x,0<=y∧y<256)(o:full.length<1000000000):
  gI_ a p full b=some (madeV p full b):=by
 have m:∀x∈full,∀y∈x,0<=y∧y<256:=λx h=>(n x h).2;have i:∀y∈full.flatten,0<=y∧y<256:=λy k=>by
  obtain⟨x,g,j⟩:=List.mem_flatten.1 k;exact m x g y j
 have g:=qV_ a (by omega) full 0 [] (by simp) m;rw[List.nil_append] at g;have j:=sJ_ t a u (sdI full.flatten) (ja_ _) (by have:=pX_ full.flatten;omega) full 0 [] (λx h=>⟨(n x h).1,λy k=>(ln_ i).2 (List.mem_flatten.2 ⟨x,h,k⟩)⟩) (by simpa using o) (by simp);have e:∀s∈sdI full.flatten,0<=s∧s<256:=λs h=>(tK_ h).1;unfold gI_ madeV;rw[show([]:List Int)=sdI [] from by simp[sdI],g,sb];simp only
 rw[oG_,sb];by_cases f:1<=(sdI full.flatten).length∧(sdI full.flatten).length<=8
 ·rw[if_neg (by simp;omega),if_pos f,j,sb];simp only
  cases b
  ·simp only[Bool.false_eq_true,if_false];have:=qv_ a p.Edges (sdI full.flatten) 2 e f.2 (by omega) (by omega);rw[show((2:Nat):Int)=2 from rfl] at this;rw[this,sb];rfl
  ·simp only[if_true];have:=qv_ a p.Nodes (sdI full.flatten) p.Degree.toNat e f.2 (by omega) (by omega);rw[Int.toNat_of_nonneg q.1] at this;rw[this,sb];rfl
 ·rw[if_pos (by simp;omega),if_neg f]
open Classical in
noncomputable def fullTo(p:b_)(n:Nat):List (List Int):=((List.range' 1 n).filter λS=>decide (0<nearN p S∧nearN p (nearN p S)=S)).map λS:Nat=>[(S:Int),(nearN p S:Int)]
noncomputable def fullE(p:b_):List (List Int):=fullTo p (2^p.Labels.toNat-1)
theorem nd_(p:b_)(S:Nat)(f:p.Labels<=8):nearN p S<256:=by
 have e:=fd_ (λb:Nat=>∀a∈lbs 8 S,srt [a,(b:Int)]∈p.Edges) p.Labels.toNat
 have d:2^p.Labels.toNat<=2^8:=Nat.pow_le_pow_right (by decide) (by omega);unfold nearN;omega
open Classical in
theorem kZ_(p:b_)(n:Nat):fullTo p (n+1)=if 0<nearN p (n+1)∧nearN p (nearN p (n+1))=n+1 then fullTo p n++[[((n+1:Nat):Int),(nearN p (n+1):Int)]] else fullTo p n:=by
  unfold fullTo
  rw[List.range'_1_concat,List.filter_append,List.map_append,Nat.add_comm 1 n]
  by_cases h:0<nearN p (n+1)∧nearN p (nearN p (n+1))=n+1
  · rw[if_pos h,List.filter_cons_of_pos (by simpa using h)]
    rfl
  · rw[if_neg h,List.filter_cons_of_neg (by simpa using h)]
    simp
theorem gP_(p:b_)(n:Nat):(fullTo p n).length<=n:=by
 unfold fullTo;rw[List.length_map];exact Nat.le_trans (List.length_filter_le _ _) (by simp)
theorem mN_(p:b_)(d:p.Labels<=8):∀x∈fullE p,x.length=2∧∀y∈x,0<=y∧y<256:=λx b=>by
 unfold fullE fullTo at b;obtain⟨S,f,rfl⟩:=List.mem_map.1 b;have e:=(List.mem_filter.1 f).1;rw[List.mem_range'_1] at e;have g:2^p.Labels.toNat<=2^8:=Nat.pow_le_pow_right (by decide) (by omega);have h:=nd_ p S d;refine⟨rfl,λy a=>?_⟩;rcases List.mem_cons.1 a with rfl|a
 ·omega
 ·rw[List.mem_singleton.1 a];omega
noncomputable def edgeV(p:b_):b_×List Int×Bool:=madeV p (fullE p) true
theorem uI_(b:Nat)(v:1000000000<=b)(p:b_)(g:0<=p.Labels∧p.Labels<=8)(s:0<=p.Degree∧p.Degree<=4):hO_ b p=some (edgeV p):=by
 have n:2^p.Labels.toNat<=2^8:=Nat.pow_le_pow_right (by decide) (by omega);have u:1<=2^p.Labels.toNat:=Nat.one_le_two_pow;have e:shl 1 p.Labels=some ((2^p.Labels.toNat:Nat):Int):=by
  have:=eZ_ (a:=p.Labels.toNat) (by omega);rwa [Int.toNat_of_nonneg g.1] at this
 have o:edgeV p=madeV p (fullTo p (2^p.Labels.toNat-1)) true:=rfl;have m:∀x∈fullTo p (2^p.Labels.toNat-1),x.length=2∧∀y∈x,0<=y∧y<256:=mN_ p g.2;obtain⟨N,t⟩:∃N:Nat,2^p.Labels.toNat=N:=⟨_,rfl⟩;rw[t] at u n e o m;rw[show(2:Nat)^8=256 from rfl] at n;have h:=ce_ (f:=ep_ b p) (λj=>(fullTo p j,((j+1:Nat):Int))) (N-1) (λj A=>by
  have q:=gP_ p j;unfold ep_;simp only
  rw[e,sb,if_pos (by simp;omega),rr_ p (j+1) b g (by omega),sb,kZ_];have w:=nd_ p (j+1) g.2;by_cases k:0<nearN p (j+1)
  ·rw[if_pos (by simpa using k),rr_ p _ b g (by omega),sb,sb];by_cases i:nearN p (nearN p (j+1))=j+1
   ·rw[if_pos (by simp;omega),if_pos ⟨k,i⟩];unfold push;rw[if_pos (by omega),sb,F_ (by omega) (by omega),sb];rfl
   ·rw[if_neg (by simp;omega),if_neg (λh=>i h.2),F_ (by omega) (by omega),sb];rfl
  ·rw[if_neg (by simpa using k),sb,if_neg (by simp),if_neg (λh=>k h.1),F_ (by omega) (by omega),sb];rfl) (by
  unfold ep_;simp only
  rw[e,sb,if_neg (by simp;omega)]) b 0 (by omega) (by omega)
 unfold hO_;rw[show(([]:List (List Int)),(1:Int))=(fullTo p 0,((0+1:Nat):Int)) from by simp[fullTo],h,sb];simp only
 rw[rl_ (d:=2) (by omega) b v p (fullTo p (N-1)) true s m (by have:=gP_ p (N-1);omega),sb,o]
end
section
theorem ro_{LL:List (List Int)}{m n:Int}(h:∀x∈LL,(x.length:Int)=m∧x.Pairwise (·<=·)∧∀y∈x,0<=y∧y<=n-1)(g:sorS LL):confsB LL m n=true:=by
 unfold confsB;rw[Option.isNone_iff_eq_none,df_];intro j x e;rw[Nat.zero_add];have d:=h x (List.mem_iff_getElem?.2 ⟨j,e⟩);unfold confP;rw[if_pos];unfold confB;simp only[Bool.and_eq_true,decide_eq_true_eq,Bool.or_eq_true];refine⟨⟨⟨d.1,in_.2 d.2.1⟩,List.all_eq_true.2 λy f=>eU_.2 (d.2.2 y f)⟩,?_⟩;cases j with
 |zero=>exact .inl rfl
 |succ j=>
  refine .inr ?_;obtain⟨a,b⟩:=List.getElem?_eq_some_iff.1 e;have:=List.pairwise_iff_getElem.1 g j (j+1) (by omega) a (by omega);rw[Nat.add_sub_cancel,List.getD_eq_getElem?_getD,List.getElem?_eq_getElem (by omega),Option.getD_some,<-b];exact this
theorem rA_{d:Nat}{xs:List (List Int)}(h:∀z∈xs,z.length=d):sorS (sxd xs)∧∀z,z∈sxd xs<->z∈xs:=by
 obtain⟨b,a⟩:=ns_ xs [] h (by simp) (by simp[sorS]);exact⟨b,λz=>by have:=a z;simpa [sxd] using this⟩
theorem sX_{d:Nat}{xs a:List (List Int)}(e:∀z∈xs,z.length=d)(f:∀z∈a,z.length=d)(h:∀z,z∈xs<->z∈a):sxd xs=sxd a:=by
 obtain⟨g,b⟩:=rA_ e;obtain⟨k,i⟩:=rA_ f;exact rB_ (λz j=>e z ((b z).1 j)) g k λz=>by rw[b,i,h]
theorem we_{sets:List Int}{s:Int}(h:s∈sets):0<=idxI sets s∧idxI sets s<sets.length:=by
 have a:sets.countP (λx=>decide (x<s))<sets.length:=by
  refine Nat.lt_of_le_of_ne List.countP_le_length λe=>?_;have:=(List.countP_eq_length.1 e) s h;simp at this
 unfold idxI;omega
theorem wN_{full:List (List Int)}(h:∀x∈full,∀y∈x,0<=y∧y<256){y:Int}:y∈sdI full.flatten<->∃x∈full,y∈x:=by
 rw[ln_ (λy a=>by
  obtain⟨x,d,b⟩:=List.mem_flatten.1 a;exact h x d y b),List.mem_flatten]
theorem pL_(p:b_)(b:Bool)(d:Nat){A B:List (List Int)}(g:∀x∈A,x.length=d∧∀y∈x,0<=y∧y<256)(h:∀z,z∈A<->z∈B):madeV p A b=madeV p B b:=by
 have j:∀x∈B,x.length=d∧∀y∈x,0<=y∧y<256:=λx m=>g x ((h x).2 m);have k:sdI A.flatten=sdI B.flatten:=tS_ λy=>by
  rw[List.mem_flatten,List.mem_flatten];exact⟨λ⟨x,a,e⟩=>⟨x,(h x).1 a,e⟩,λ⟨x,a,e⟩=>⟨x,(h x).2 a,e⟩⟩
 have i:sxd (A.map (nmb (sdI B.flatten)))=sxd (B.map (nmb (sdI B.flatten))):=sX_ (d:=d) (λz f=>by
   obtain⟨x,a,rfl⟩:=List.mem_map.1 f;rw[jL_];exact(g x a).1) (λz f=>by
   obtain⟨x,a,rfl⟩:=List.mem_map.1 f;rw[jL_];exact(j x a).1) λz=>by
  rw[List.mem_map,List.mem_map];exact⟨λ⟨x,a,e⟩=>⟨x,(h x).1 a,e⟩,λ⟨x,a,e⟩=>⟨x,(h x).2 a,e⟩⟩
 unfold madeV;rw[k,i]
theorem oj_(a:List (List Int))(sets:List Int)(d:Nat):confsB (someP a sets d) (d:Int) (sets.length:Int)=true:=by
 refine ro_ (λx e=>?_) ?_
 ·have:=(eQ_ _ _ _).1 (List.mem_filter.1 e).1;exact⟨by rw[this.1],this.2.1,λy b=>by have:=this.2.2 y b;omega⟩
 ·exact List.Pairwise.filter _ (sq_ _ _)
theorem rv_(a:List (List Int))(sets:List Int)(d:Nat)(e:sets.length<=8)(b:d<=4):(someP a sets d).length<=4096:=by
 have g:sets.length^d<=8^d:=Nat.pow_le_pow_left e d;have f:8^d<=8^4:=Nat.pow_le_pow_right (by decide) b;have h:=hp_ sets.length d;have i:(someP a sets d).length<=(msD sets.length d).length:=List.length_filter_le _ _;omega
theorem vk_{d:Nat}{full:List (List Int)}(e:∀x∈full,x.length=d∧∀y∈x,0<=y∧y<256):confsB (sxd (full.map (nmb (sdI full.flatten)))) (d:Int) ((sdI full.flatten).length:Int)=true:=by
 obtain⟨a,i⟩:=rA_ (d:=d) (xs:=full.map (nmb (sdI full.flatten))) (λz b=>by
  obtain⟨x,a,rfl⟩:=List.mem_map.1 b;rw[jL_];exact(e x a).1)
 refine ro_ (λz b=>?_) a;obtain⟨x,f,rfl⟩:=List.mem_map.1 ((i z).1 b);refine⟨by rw[jL_,(e x f).1],iV_ _,λy g=>?_⟩;obtain⟨s,j,rfl⟩:=List.mem_map.1 ((hc_ _).subset g);have:=we_ ((wN_ (full:=full) λx h=>(e x h).2).2 ⟨x,f,j⟩);omega
theorem mt_(p:b_)(full:List (List Int))(b:Bool)(d:Nat)(n:1<=p.Degree∧p.Degree<=4)(f:(d:Int)=if b then 2 else p.Degree)(m:∀x∈full,x.length=d∧∀y∈x,0<=y∧y<256)(h:(madeV p full b).2.2=true):
  probB (madeV p full b).1=true∧(madeV p full b).1.Nodes.length<=4096+full.length∧(madeV p full b).1.Edges.length<=4096+full.length∧(madeV p full b).1.Degree=p.Degree:=by
 have i:(sxd (full.map (nmb (sdI full.flatten)))).length<=full.length:=by
  have:=pA_ (full.map (nmb (sdI full.flatten))) [];simpa [sxd] using this
 have a:=vk_ m;have j:((p.Degree.toNat:Nat):Int)=p.Degree:=Int.toNat_of_nonneg (by omega);unfold madeV at h ⊢;by_cases e:1<=(sdI full.flatten).length∧(sdI full.flatten).length<=8
 ·rw[if_pos e] at h ⊢;cases b
  ·simp only[Bool.false_eq_true,if_false] at f ⊢;have g:=oj_ p.Edges (sdI full.flatten) 2;have k:=rv_ p.Edges (sdI full.flatten) 2 e.2 (by omega);refine⟨?_,by omega,by omega,by trivial⟩;unfold probB;simp only
   rw[f] at a;rw[a,show(2:Int)=((2:Nat):Int) from rfl,g,eU_.2 (by omega),eU_.2 (by omega)];rfl
  ·simp only[if_true] at f ⊢;have g:=oj_ p.Nodes (sdI full.flatten) p.Degree.toNat
   have k:=rv_ p.Nodes (sdI full.flatten) p.Degree.toNat e.2 (by omega);refine⟨?_,by omega,by omega,by trivial⟩;unfold probB;simp only
   rw[f] at a;rw[j] at g;rw[a,g,eU_.2 (by omega),eU_.2 (by omega)];rfl
 ·rw[if_neg e] at h;cases h
open Classical in
noncomputable def fullS(p:b_):List (List Int):=((msD (2^p.Labels.toNat-1) (p.Degree.toNat-1)).map λc=>c.map (·+1)).flatMap λl=>
  if cmI p.Labels.toNat p.Nodes l≠0∧(∀y∈l,y<=cmI p.Labels.toNat p.Nodes l)∧fullI p.Labels.toNat p.Nodes (l++[cmI p.Labels.toNat p.Nodes l]) then [l++[cmI p.Labels.toNat p.Nodes l]] else []
open Classical in
noncomputable def fullJ(p:b_):List (List Int):=((msD (2^p.Labels.toNat-1) (p.Degree.toNat-1)).map λc=>c.map (·+1)).flatMap λl=>
  if cmI p.Labels.toNat p.Nodes l≠0∧fullI p.Labels.toNat p.Nodes (l++[cmI p.Labels.toNat p.Nodes l]) then [srt (l++[cmI p.Labels.toNat p.Nodes l])] else []
theorem kp_(L d:Nat)(l:List Int):(∃c∈msD (2^L-1) d,c.map (·+1)=l)<->firstI (2^L-1) d l:=by
 have m:((2^L-1:Nat):Int)=(2:Int)^L-1:=by
  have e:1<=2^L:=Nat.one_le_two_pow;rw[Int.natCast_sub e];simp
 constructor
 ·rintro⟨c,k,rfl⟩;obtain⟨e,g,f⟩:=(eQ_ _ _ _).1 k;refine⟨by rw[List.length_map,e],?_,λy j=>?_⟩
  ·rw[List.pairwise_map];exact g.imp λ{a b} h=>by omega
  ·obtain⟨x,i,rfl⟩:=List.mem_map.1 j;have:=f x i;omega
 ·rintro⟨e,g,f⟩;refine⟨l.map (·-1),(eQ_ _ _ _).2 ⟨by rw[List.length_map,e],?_,λy j=>?_⟩,?_⟩
  ·rw[List.pairwise_map];exact g.imp λ{a b} h=>by omega
  ·obtain⟨x,i,rfl⟩:=List.mem_map.1 j;have:=f x i;omega
  ·rw[List.map_map]
   conv=>rhs;rw[<-List.map_id l]
   refine List.map_congr_left λx _=>?_;simp
theorem oJ_(p:b_)(z:List Int):z∈fullS p<->∃l,firstI (2^p.Labels.toNat-1) (p.Degree.toNat-1) l∧cmI p.Labels.toNat p.Nodes l≠0∧(∀y∈l,y<=cmI p.Labels.toNat p.Nodes l)∧fullI p.Labels.toNat p.Nodes (l++[cmI p.Labels.toNat p.Nodes l])∧z=l++[cmI p.Labels.toNat p.Nodes l]:=by
 unfold fullS;rw[List.mem_flatMap];constructor
 ·rintro⟨l,d,b⟩;by_cases a:cmI p.Labels.toNat p.Nodes l≠0∧(∀y∈l,y<=cmI p.Labels.toNat p.Nodes l)∧fullI p.Labels.toNat p.Nodes (l++[cmI p.Labels.toNat p.Nodes l])
  ·rw[if_pos a] at b;exact⟨l,(kp_ _ _ _).1 (by simpa using d),a.1,a.2.1,a.2.2,List.mem_singleton.1 b⟩
  ·rw[if_neg a] at b;cases b
 ·rintro⟨l,f,e,g,h,rfl⟩;refine⟨l,by simpa using (kp_ _ _ _).2 f,?_⟩;rw[if_pos ⟨e,g,h⟩];exact List.mem_singleton.2 rfl
theorem sD_(p:b_)(z:List Int):z∈fullJ p<->∃l,firstI (2^p.Labels.toNat-1) (p.Degree.toNat-1) l∧cmI p.Labels.toNat p.Nodes l≠0∧fullI p.Labels.toNat p.Nodes (l++[cmI p.Labels.toNat p.Nodes l])∧z=srt (l++[cmI p.Labels.toNat p.Nodes l]):=by
 unfold fullJ;rw[List.mem_flatMap];constructor
 ·rintro⟨l,d,b⟩;by_cases a:cmI p.Labels.toNat p.Nodes l≠0∧fullI p.Labels.toNat p.Nodes (l++[cmI p.Labels.toNat p.Nodes l])
  ·rw[if_pos a] at b;exact⟨l,(kp_ _ _ _).1 (by simpa using d),a.1,a.2,List.mem_singleton.1 b⟩
  ·rw[if_neg a] at b;cases b
 ·rintro⟨l,f,e,g,rfl⟩;refine⟨l,by simpa using (kp_ _ _ _).2 f,?_⟩;rw[if_pos ⟨e,g⟩];exact List.mem_singleton.2 rfl
theorem pB_(p:b_)(z:List Int):z∈fullJ p<->z∈fullS p:=by
 rw[sD_,oJ_];exact tO_ _ _ _ _
theorem kt_(p:b_)(h:0<=p.Labels∧p.Labels<=8)(i:1<=p.Degree):∀x∈fullS p,x.length=p.Degree.toNat∧∀y∈x,0<=y∧y<256:=λx f=>by
 obtain⟨l,d,-,-,-,rfl⟩:=(oJ_ p x).1 f;have b:(2:Int)^p.Labels.toNat<=256:=by
  have e:2^p.Labels.toNat<=2^8:=Nat.pow_le_pow_right (by decide) (show p.Labels.toNat<=8 by omega);have:((2^p.Labels.toNat:Nat):Int)<=((256:Nat):Int):=Int.ofNat_le.2 e;simpa using this
 have g:=ru_ p.Labels.toNat p.Nodes l;refine⟨by rw[List.length_append,d.1,List.length_singleton];omega,λy a=>?_⟩;rcases List.mem_append.1 a with a|a
 ·have:=d.2.2 y a;omega
 ·rw[List.mem_singleton.1 a];omega
open Classical in
theorem nP_(p:b_)(hL:p.Labels<=8)(hD:p.Degree<=4):(fullS p).length<=16777216:=by
  have h1:2^p.Labels.toNat<=2^8:=Nat.pow_le_pow_right (by decide) (show p.Labels.toNat<=8 by omega)
  have h2:(2^p.Labels.toNat-1)^(p.Degree.toNat-1)<=256^(p.Degree.toNat-1):=Nat.pow_le_pow_left (by omega) _
  have h3:256^(p.Degree.toNat-1)<=256^3:=Nat.pow_le_pow_right (by decide) (by omega)
  have h4:=hp_ (2^p.Labels.toNat-1) (p.Degree.toNat-1)
  have h5:=ij_ (m:=1) (g:=λl=>if cmI p.Labels.toNat p.Nodes l≠0∧(∀y∈l,y<=cmI p.Labels.toNat p.Nodes l)∧fullI p.Labels.toNat p.Nodes (l++[cmI p.Labels.toNat p.Nodes l]) then [l++[cmI p.Labels.toNat p.Nodes l]] else []) ((msD (2^p.Labels.toNat-1) (p.Degree.toNat-1)).map λc=>c.map (·+1)) (λx _=>by
    by_cases hc:cmI p.Labels.toNat p.Nodes x≠0∧(∀y∈x,y<=cmI p.Labels.toNat p.Nodes x)∧fullI p.Labels.toNat p.Nodes (x++[cmI p.Labels.toNat p.Nodes x])
    · rw[if_pos hc];simp
    · rw[if_neg hc];simp)
  rw[List.length_map] at h5
  unfold fullS
  omega
open Classical in
noncomputable def nodeV(p:b_):b_×List Int×Bool:=if p.Degree=4∧6<p.Labels then(⟨0,0,[],[]⟩,[],false) else madeV p (fullS p) false
theorem rW_(p:b_)(h:probB p=true)(a:(nodeV p).2.2=true):probB (nodeV p).1=true∧(nodeV p).1.Nodes.length<=100000000∧(nodeV p).1.Edges.length<=100000000∧(nodeV p).1.Degree=p.Degree:=by
 obtain⟨g,f,d,e,-,-⟩:=aK_ h;unfold nodeV at a ⊢;by_cases b:p.Degree=4∧6<p.Labels
 ·rw[if_pos b] at a;cases a
 ·rw[if_neg b] at a ⊢;have:=mt_ p (fullS p) false p.Degree.toNat ⟨d,e⟩ (by simp;omega) (kt_ p ⟨by omega,f⟩ d) a;have i:=nP_ p f e;exact⟨this.1,by omega,by omega,this.2.2.2⟩
theorem jO_(p:b_)(h:probB p=true)(a:(edgeV p).2.2=true):probB (edgeV p).1=true∧(edgeV p).1.Nodes.length<=100000000∧(edgeV p).1.Edges.length<=100000000∧(edgeV p).1.Degree=p.Degree:=by
 obtain⟨f,e,b,d,-,-⟩:=aK_ h;unfold edgeV at a ⊢;have:=mt_ p (fullE p) true 2 ⟨b,d⟩ rfl (mN_ p e) a;have g:(fullE p).length<=256:=by
  have j:=gP_ p (2^p.Labels.toNat-1);have i:2^p.Labels.toNat<=2^8:=Nat.pow_le_pow_right (by decide) (show p.Labels.toNat<=8 by omega);unfold fullE;omega
 exact⟨this.1,by omega,by omega,this.2.2.2⟩
noncomputable def roundV(p:b_):b_×List Int×List Int×Bool:=
  if(edgeV p).2.2 then(if(nodeV (edgeV p).1).2.2 then((nodeV (edgeV p).1).1,(edgeV p).2.1,(nodeV (edgeV p).1).2.1,true) else(⟨0,0,[],[]⟩,[],[],false)) else(⟨0,0,[],[]⟩,[],[],false)
theorem pP_(p:b_)(h:probB p=true)(a:(roundV p).2.2.2=true):probB (roundV p).1=true∧(roundV p).1.Nodes.length<=100000000∧(roundV p).1.Edges.length<=100000000∧(roundV p).1.Degree=p.Degree:=by
 unfold roundV at a ⊢;cases b:(edgeV p).2.2
 ·rw[b,if_neg (by simp)] at a;cases a
 ·rw[b,if_pos rfl] at a;rw[if_pos rfl];obtain⟨f,m,n,i⟩:=jO_ p h b;cases d:(nodeV (edgeV p).1).2.2
  ·rw[d,if_neg (by simp)] at a;cases a
  ·rw[if_pos rfl];obtain⟨j,g,k,e⟩:=rW_ _ f d;exact⟨j,g,k,e.trans i⟩
end
section
theorem qG_{α σ ρ:Type}{body:Int->α->σ->Option (Lp σ σ ρ)}(R:Nat->σ):∀(xs:List α)(k:Nat),(∀(j:Nat) x,xs[j]? =some x->body ((k+j:Nat):Int) x (R (k+j))=some (.go (R (k+j+1))))->
  forI body xs (k:Int) (R k)=some (.inl (R (k+xs.length)))
 |[],k,h=>rfl
 |x::xs,k,h=>by
  have a:=h 0 x rfl;simp only[Nat.add_zero] at a;simp only[forI,a];rw[show((k:Int)+1)=((k+1:Nat):Int) by omega];rw[qG_ R xs (k+1) (λj y b=>by have:=h (j+1) y (by simpa using b);rw[show k+(j+1)=k+1+j by omega] at this;exact this)];rw[List.length_cons,show k+1+xs.length=k+(xs.length+1) by omega]
theorem rC_{σ ρ:Type}{body:Int->σ->Option (Lp σ σ ρ)}(R:Nat->σ):∀(n k:Nat),(∀(j:Nat),j<n->body ((k+j:Nat):Int) (R (k+j))=some (.go (R (k+j+1))))->
  forN body n (k:Int) (R k)=some (.inl (R (k+n)))
 |0,k,h=>rfl
 |n+1,k,h=>by
  have a:=h 0 (by omega);simp only[Nat.add_zero] at a;simp only[forN,a];rw[show((k:Int)+1)=((k+1:Nat):Int) by omega];rw[rC_ R n (k+1) (λj b=>by have:=h (j+1) (by omega);rw[show k+(j+1)=k+1+j by omega] at this;exact this)];rw[show k+1+n=k+(n+1) by omega]
theorem if_{α σ ρ:Type}{body:Int->α->σ->Option (Lp σ σ ρ)}(R:Nat->σ)(xs:List α)(h:∀(j:Nat) x,xs[j]? =some x->body (j:Int) x (R j)=some (.go (R (j+1)))):
  forI body xs 0 (R 0)=some (.inl (R xs.length)):=by
 have:=qG_ R xs 0 (λj x a=>by rw[Nat.zero_add];exact h j x a);rw[Nat.zero_add] at this;exact this
theorem dX_{σ ρ:Type}{body:Int->σ->Option (Lp σ σ ρ)}(R:Nat->σ)(n:Nat)(h:∀(j:Nat),j<n->body (j:Int) (R j)=some (.go (R (j+1)))):
  forN body n 0 (R 0)=some (.inl (R n)):=by
 have:=rC_ R n 0 (λj a=>by rw[Nat.zero_add];exact h j a);rw[Nat.zero_add] at this;exact this
end
end Go.Proofs.YtdbbeldgdgonfaaGreat
