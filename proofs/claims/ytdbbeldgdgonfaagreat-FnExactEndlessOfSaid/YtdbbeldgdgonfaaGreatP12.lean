/- Part 12 of what this claim rests on (Eld, Ele, Elg, Lpp, Tyz, Knp, Ks), packed by pack.py. -/
import Derived.Test.YtdbbeldgdgonfaaGreatP04
import Derived.Test.YtdbbeldgdgonfaaGreatP07
import Derived.Test.YtdbbeldgdgonfaaGreatP08
import Derived.Test.YtdbbeldgdgonfaaGreatP10
import Derived.Test.YtdbbeldgdgonfaaGreatP11
namespace Go.Proofs.YtdbbeldgdgonfaaGreat
set_option linter.unusedSimpArgs false
set_option linter.unusedVariables false
section
theorem kb_(n d fuel:Nat)(hn:n<=1000000)(hd:d<=1000)(hb:∀k,k<=d->n^k<=1000000000)(hf:n+d<fuel):dJ_ fuel (n:Int) (d:Int)=some (msD n d):=by
 have hgo:∀j,j<d->cy_ fuel (n:Int) (d:Int) (msD n j,(j:Int))=some (.go (msD n (j+1),((j+1:Nat):Int))):=λj hj=>by
  have hlen:(msD n (j+1)).length<=1000000000:=Nat.le_trans (gx_ n (j+1)) (hb (j+1) (by omega));have key:=fi_ (body:=dj_ fuel (n:Int) (j:Int)) (extD n) 1000000000 (msD n j) 0 [] (by simpa [msD] using hlen) (λx hx k ac hac=>by
   have hnd:=(ej_ n j x).1 hx;have h3:∀(f:List (List Int)×Int->Option (Lp (List (List Int)×Int) (List (List Int)×Int) (List (List Int)))),f=cE_ (n:Int) x->(x.getLastD 0).toNat<=n->
     loopF f fuel (ac,(((x.getLastD 0).toNat:Nat):Int))=some (.inl (ac++extD n x,(n:Int))):=λf hf' hle=>by
    subst hf';unfold extD at hac ⊢;rw[List.length_map,List.length_range'] at hac;refine lp_ (x:=x) (n:=n) (λacc k hk ha=>?_) (λacc=>?_) _ _ fuel ac (by omega) (by omega) hac
    ·unfold cE_;simp only
     rw[if_pos (by simpa using hk),fY_ x (by rw[hnd.1];omega),sb];unfold push;rw[if_pos (by rw[hnd.1];omega),sb,if_pos ha,sb,F_ (by omega) (by omega),sb];rfl
    ·unfold cE_;simp only
     rw[if_neg (by simp)]
   have h0:=qS_ hnd;unfold dj_;by_cases hj0:0<j
   ·obtain⟨i,rfl⟩:∃i,j=i+1:=⟨j-1,by omega⟩;have hl:x.getLastD 0<(n:Int):=by
     rcases List.eq_nil_or_concat x with rfl|⟨u,a,rfl⟩
     ·have:=hnd.1;simp at this
     ·have:=hnd.2.2 a (by simp);rw[List.concat_eq_append,List.getLastD_concat];exact this.2
    rw[if_pos (decide_eq_true (by omega)),F_ (by omega) (by omega),sb,show(((i+1:Nat):Int)-1)=(i:Int) by omega,nQ_ hnd.1,sb];have h4:=h3 _ rfl (by omega);rw[Int.toNat_of_nonneg h0] at h4;rw[h4,sb]
   ·have hj1:j=0:=by omega
    subst hj1;have hx0:x=[]:=List.eq_nil_of_length_eq_zero hnd.1;subst hx0;rw[if_neg (by simp)];have h4:=h3 (ee_ (n:Int) []) rfl (by simp);simp only[List.getLastD_nil,Int.toNat_zero,Int.natCast_zero] at h4;rw[h4,sb])
  unfold cy_;simp only
  rw[if_pos (by simpa using hj),key,sb];simp only[List.nil_append];rw[F_ (by omega) (by omega),sb];rfl
 have h:=bT_ (λj=>(msD n j,(j:Int))) d hgo (by
  unfold cy_;simp only
  rw[if_neg (by simp)]) fuel 0 (by omega) (by omega)
 unfold dJ_;rw[show(([[]]:List (List Int)),(0:Int))=(msD n 0,((0:Nat):Int)) from rfl,h,sb]
theorem ri_(S a:Nat)(ha:a<=62):ga_ (S:Int) (a:Int)=some (S.testBit a):=by
 unfold ga_;rw[lN_ ha,sb];unfold rem;rw[if_neg (by decide),sb,Nat.testBit_eq_decide_div_mod_eq];congr 1;rw[Bool.eq_iff_iff];simp only[beq_iff_eq,decide_eq_true_eq];rw[show((S/2^a:Nat):Int).tmod 2=((S/2^a%2:Nat):Int) from rfl];omega
theorem hh_(S fuel:Nat)(hf:8<fuel):cn_ fuel (S:Int)=some (lbs 8 S):=by
 have h:=bT_ (f:=cV_ (S:Int)) (λj=>(lbs j S,(j:Int))) 8 (λj hj=>by
  have hl:=kO_ j S;unfold cV_;simp only
  rw[if_pos (by simp;omega),ri_ S j (by omega),sb,lF_];cases hb:S.testBit j
  ·simp only[Bool.false_eq_true,if_false];rw[F_ (by omega) (by omega),sb];rfl
  ·simp only[if_true];unfold push;rw[if_pos (by omega),sb,F_ (by omega) (by omega),sb];rfl) (by
  unfold cV_;simp only
  rw[if_neg (by simp)]) fuel 0 (by omega) (by omega)
 unfold cn_;rw[show(([]:List Int),(0:Int))=(lbs 0 S,((0:Nat):Int)) from rfl,h,sb]
noncomputable def nearN(p:c_)(S:Nat):Nat:=bitsP (λb=>∀a∈lbs 8 S,srt [a,(b:Int)]∈p.Edges) p.Labels.toNat
theorem oA_(p:c_)(b:Int):∀(xs:List Int)(k:Int)(s:Bool),forI (dM_ p b) xs k s=some (.inl (s&&xs.all λa=>decide (srt [a,b]∈p.Edges)))
 |[],k,s=>by simp[forI]
 | x::xs,k,s=>by
  have h0:dM_ p b k x s=some (.go (s&&decide (srt [x,b]∈p.Edges))):=by
   unfold dM_;cases s
   ·simp only[Bool.false_eq_true,if_false,Bool.false_and];rw[sb]
   ·simp only[if_true,Bool.true_and];rw[os_,sb,sb]
  simp only[forI,h0];rw[oA_ p b xs (k+1) _,List.all_cons,Bool.and_assoc]
theorem rw_{m b:Nat}(h:m<2^b):m+2^b=m|||2^b:=by
 have:=Nat.two_pow_add_eq_or_of_lt h 1;rw[Nat.mul_one] at this;rw[Nat.add_comm,this,Nat.or_comm]
theorem oH_(p:c_)(S fuel:Nat)(hL:0<=p.Labels∧p.Labels<=8)(hf:8<fuel):fP_ fuel p (S:Int)=some ((nearN p S:Nat):Int):=by
 generalize hP:(λb:Nat=>∀a∈lbs 8 S,srt [a,(b:Int)]∈p.Edges)=P;have hn:p.Labels=((p.Labels.toNat:Nat):Int):=by omega
 have h:=bT_ (f:=dT_ fuel p (S:Int)) (λj=>(((bitsP P j:Nat):Int),(j:Int))) p.Labels.toNat (λj hj=>by
  have hlt:=et_ P j;have h28:2^j<=2^8:=Nat.pow_le_pow_right (by decide) (by omega);unfold dT_;simp only
  rw[if_pos (by simp;omega),hh_ S fuel hf,sb,oA_,sb];simp only[Bool.true_and];have hiff:((lbs 8 S).all λa=>decide (srt [a,(j:Int)]∈p.Edges))=true<->P j:=by
   rw[<-hP,List.all_eq_true];simp
  by_cases hj2:P j
  ·rw[if_pos (hiff.2 hj2),eq_ (by omega),sb,F_ (by omega) (by omega),sb,F_ (by omega) (by omega),sb,ii_ hj2,<-rw_ hlt];simp
  ·rw[if_neg (λe=>hj2 (hiff.1 e)),F_ (by omega) (by omega),sb,jr_ hj2];simp) (by
  unfold dT_;simp only
  rw[if_neg (by simp;omega)]) fuel 0 (by omega) (by omega)
 unfold fP_ nearN;rw[show((0:Int),(0:Int))=(((bitsP P 0:Nat):Int),((0:Nat):Int)) from rfl,h,sb,hP]
theorem mP_{α β:Type}(g:α->β):∀xs:List α,(xs.flatMap λy=>[g y])=xs.map g
 |[]=>rfl
 |x::xs=>by rw[List.flatMap_cons,mP_ g xs];rfl
def idxI(sets:List Int)(s:Int):Int:=((sets.countP (λx=>decide (x<s)):Nat):Int)
theorem sF_(x:Int):∀(ys:List Int)(k:Nat)(acc:List Int),ys.Pairwise (·<·)->acc.length<1000000000->
  forI (aL_ x) ys (k:Int) acc=some (.inl (if x∈ys then acc++[((k+ys.countP (λy=>decide (y<x)):Nat):Int)] else acc))
 |[],k,acc,_,_=>by simp[forI]
 | y::ys,k,acc,hp,hl=>by
  obtain⟨p1,p2⟩:=List.pairwise_cons.1 hp;have hk:((k:Int)+1)=((k+1:Nat):Int):=by omega
  by_cases e:x=y
  ·subst e;have h0:aL_ x (k:Int) x acc=some (.go (acc++[(k:Int)])):=by
    unfold aL_ push;rw[if_pos (by simp),if_pos hl,sb]
   have hno:∀(zs:List Int)(j:Nat)(ac:List Int),(∀z∈zs,x<z)->forI (aL_ x) zs (j:Int) ac=some (.inl ac):=by
    intro zs
    induction zs with
    |nil=>intro j ac _;rfl
    | cons z zs ih=>
     intro j ac hz;have hzx:=hz z (by simp);have h1:aL_ x (j:Int) z ac=some (.go ac):=by
      unfold aL_;rw[if_neg (by simp;omega)]
     simp only[forI,h1];rw[show((j:Int)+1)=((j+1:Nat):Int) by omega];exact ih (j+1) ac λz hz'=>hz z (by simp[hz'])
   simp only[forI,h0];rw[hk,hno ys (k+1) _ p1,if_pos (by simp),List.countP_cons_of_neg (by simp)];have:ys.countP (λy=>decide (y<x))=0:=by
    rw[List.countP_eq_zero];intro z hz;have:=p1 z hz;simp;omega
   rw[this];simp
  ·have h0:aL_ x (k:Int) y acc=some (.go acc):=by
    unfold aL_;rw[if_neg (by simp;omega)]
   simp only[forI,h0];rw[hk,sF_ x ys (k+1) acc p2 hl];by_cases hm:x∈ys
   ·have hlt:=p1 x hm;rw[if_pos hm,if_pos (by simp[hm]),List.countP_cons_of_pos (by simpa using hlt)];congr 4;omega
   ·rw[if_neg hm,if_neg (by simp[e,hm])]
theorem nz_(fuel:Nat)(sets x:List Int)(hs:sets.Pairwise (·<·))(hx:∀y∈x,y∈sets)(hl:x.length<=1000000)(hf:x.length<fuel):ez_ fuel sets x=some (srt (x.map (idxI sets))):=by
 have key:=fi_ (body:=de_ sets) (λy=>[idxI sets y]) 1000000 x 0 [] (by
  have:=hi_ (g:=λy=>[idxI sets y]) (m:=1) x (λ_ _=>by simp);simp only[List.length_nil];omega) (λy hy j ac hac=>by
  simp only[List.length_singleton] at hac;unfold de_;rw[show(0:Int)=((0:Nat):Int) from rfl,sF_ y sets 0 ac hs (by omega),sb,if_pos (hx y hy)];simp[idxI])
 unfold ez_;rw[key,sb];have hm:(x.flatMap λy=>[idxI sets y])=x.map (idxI sets):=mP_ _ x;simp only[List.nil_append];rw[hm,hs_ _ _ (by simpa using hf) (by rw[List.length_map];omega),sb,fp_]
end
section
def posD(l:List (List Int))(x:List Int):Nat:=(l.takeWhile λy=>decide (ordL y x<0)).length
theorem sY_(l:List (List Int))(x:List Int):posD l x<=l.length:=(List.takeWhile_sublist _).length_le
theorem oT_{y x:List Int}{l:List (List Int)}(h:ordL y x<0):posD (y::l) x=posD l x+1:=by
 unfold posD;rw[List.takeWhile_cons,if_pos (by simpa using h),List.length_cons]
theorem rt_{y x:List Int}{l:List (List Int)}(h:¬ordL y x<0):posD (y::l) x=0:=by
 unfold posD;rw[List.takeWhile_cons,if_neg (by simpa using h)];rfl
theorem qD_(x:List Int):∀(l:List (List Int)),insS l x=if l[posD l x]? =some x then l else l.take (posD l x)++[x]++l.drop (posD l x)
 |[]=>by simp[insS,posD]
 | y::l=>by
  by_cases h:ordL y x<0
  ·rw[oT_ h];simp only[insS,if_pos h,qD_ x l,List.getElem?_cons_succ,List.take_succ_cons,List.drop_succ_cons];split<;>rfl
  ·rw[rt_ h];simp only[insS,if_neg h];by_cases e:y=x
   ·simp[e]
   ·simp[e]
def smallD(d:Nat)(x:List Int):Prop:=x.length=d∧∀y,y∈x->0<=y∧y<=1000000000
theorem pC_{d:Nat}{l:List (List Int)}{x:List Int}(hl:∀z∈l,smallD d z)(hx:smallD d x):∀z∈insS l x,smallD d z:=λz hz=>by
 rcases hP_.1 hz with rfl|hz
 ·exact hx
 ·exact hl z hz
theorem lJ_(x:List Int):∀(l:List (List Int)),(insS l x).length<=l.length+1
 |[]=>by simp[insS]
 |y::l=>by
  have:=lJ_ x l;unfold insS;split
  ·simp;omega
  ·split<;>simp
theorem nG_:∀(xs l:List (List Int)),(xs.foldl insS l).length<=l.length+xs.length
 |[],l=>by simp
 |x::xs,l=>by
  have h1:=lJ_ x l;have h2:=nG_ xs (insS l x);rw[List.foldl_cons,List.length_cons];omega
theorem lZ_{d:Nat}(x:List Int)(hx:smallD d x):∀(ys pre:List (List Int))(fuel:Nat),ys.length<fuel->pre.length+ys.length<=1000000000->(∀z∈ys,smallD d z)->
  loopF (bN_ (pre++ys) x) fuel (pre.length:Int)=some (.inl ((pre.length+posD ys x:Nat):Int))
 |[],pre,fuel,hf,hl,hz=>by
  obtain⟨fuel,rfl⟩:∃q,fuel=q+1:=⟨fuel-1,by omega⟩;refine ix_ ?_ fuel;unfold bN_;rw[if_neg (by simp),sb];simp[posD]
 | y::ys,pre,fuel,hf,hl,hz=>by
  simp only[List.length_cons] at hf hl;obtain⟨fuel,rfl⟩:∃q,fuel=q+1:=⟨fuel-1,by omega⟩;have hy:=hz y (by simp);have ho:=mF_ y x (by rw[hy.1,hx.1]) hy.2 hx.2;by_cases h:ordL y x<0
  ·have e1:bN_ (pre++y::ys) x (pre.length:Int)=some (.go ((pre.length:Int)+1)):=by
    unfold bN_;rw[if_pos (by simp;omega),kQ_,sb,ho,sb,sb,if_pos (by simpa using h),F_ (by omega) (by omega),sb]
   rw[mv_ e1];have:=lZ_ x hx ys (pre++[y]) fuel (by omega) (by simp;omega) λz hz'=>hz z (by simp[hz']);rw[List.append_assoc,List.singleton_append,List.length_append,List.length_singleton] at this;rw[show((pre.length:Int)+1)=((pre.length+1:Nat):Int) by omega,this,oT_ h];congr 3;omega
  ·refine ix_ ?_ fuel;unfold bN_;rw[if_pos (by simp;omega),kQ_,sb,ho,sb,sb,if_neg (by simpa using h),rt_ h];simp
theorem nN_{d:Nat}(hd:d<=1000)(fuel:Nat)(l:List (List Int))(x:List Int)(hf:l.length<fuel)(hl:l.length<1000000000)(hz:∀z∈l,smallD d z)(hx:smallD d x):fb_ fuel l x=some (insS l x):=by
 unfold fb_;have h1:=lZ_ x hx l [] fuel hf (by simp;omega) hz;rw[List.nil_append,List.length_nil,Nat.zero_add,show((0:Nat):Int)=0 from rfl] at h1;rw[h1,sb,qD_];have hp:=sY_ l x;simp only
 generalize posD l x=k at hp ⊢;have hcut1:cut l 0 (k:Int)=some (l.take k):=by
  unfold cut;rw[if_pos (by omega)];simp
 have hcut2:cut l (k:Int) l.length=some (l.drop k):=by
  unfold cut;rw[if_pos (by omega)];simp
 have hrest:((cut l 0 (k:Int))>>=λx67=>(cat ([]:List (List Int)) x67)>>=λx70=>(push x70 x)>>=λx82=>(cut l (k:Int) l.length)>>=λx88=>(cat x82 x88)>>=λx91=>some x91)=some (l.take k++[x]++l.drop k):=by
  rw[hcut1,sb,hH_ _ (by rw[List.length_take];omega),sb];unfold push;rw[if_pos (by rw[List.length_take];omega),sb,hcut2,sb];unfold cat
  rw[if_pos (by simp;omega),sb]
 by_cases hk:k<l.length
 ·rw[if_pos (by simp;omega),gf_ _ _ hk,sb,oB_ _ _ (by have:=(hz _ (List.getElem_mem hk)).1;omega),sb,sb,List.getElem?_eq_getElem hk];by_cases e:l[k]=x
  ·simp[e]
  ·rw[if_neg (by simpa using e),if_neg (by simpa using e)];exact hrest
 ·rw[if_neg (by simp;omega),sb,if_neg (by simp),List.getElem?_eq_none (by omega),if_neg (by simp)];exact hrest
theorem ik_{S:Nat}{SS:List Nat}{m:List Int}(hS:S<256):cho (S::SS) m<->∃a m',m=a::m'∧a∈lbs 8 S∧cho SS m':=by
 constructor
 ·intro h;cases m with
  |nil=>exact h.elim
  | cons a m=>
   refine⟨a,m,rfl,lx_.2 ⟨a.toNat,by have:=h.1.1;omega,?_,h.1.2⟩,h.2⟩;have h2:=h.1.2;by_cases hlt:a.toNat<8
   ·exact hlt
   ·have:S.testBit a.toNat=false:=Nat.testBit_lt_two_pow (Nat.lt_of_lt_of_le hS (by
     have:2^8<=2^a.toNat:=Nat.pow_le_pow_right (by decide) (by omega);omega))
    rw[this] at h2;cases h2
 ·rintro⟨a,m',rfl,ha,hm⟩;obtain⟨i,rfl,h1,h2⟩:=lx_.1 ha;exact⟨⟨by omega,by simpa using h2⟩,hm⟩
theorem kL_(good:List (List Int))(sets:List Int)(hs:∀s∈sets,0<=s∧s<256)(hl:sets.length<=1000):∀(d fuel:Nat)(c:List Int),c.length+d=sets.length->sets.length+9+d<fuel->
  ∃l b,co_ fuel good sets c=some (l,b)∧(b=true<->∃m,cho ((sets.drop c.length).map Int.toNat) m∧srt (c++m)∈good)
 | 0,fuel,c,hc,hf=>by
  obtain⟨fuel,rfl⟩:∃q,fuel=q+1:=⟨fuel-1,by omega⟩;unfold co_;rw[if_pos (by simp;omega),hs_ _ _ (by omega) (by omega),sb,<-fp_,iu_ _ _ (by rw[dK_];omega),sb];refine⟨_,_,rfl,?_⟩;rw[show sets.drop c.length=[] from List.drop_eq_nil_iff.2 (by omega),List.map_nil,decide_eq_true_eq];constructor
  ·exact λh=>⟨[],trivial,by rw[List.append_nil];exact h⟩
  ·rintro⟨m,hm,h⟩;cases m with
   |nil=>rwa [List.append_nil] at h
   |cons a m=>exact hm.elim
 | d+1,fuel,c,hc,hf=>by
  obtain⟨fuel,rfl⟩:∃q,fuel=q+1:=⟨fuel-1,by omega⟩;have hk:c.length<sets.length:=by omega
  have hmem:sets[c.length]∈sets:=List.getElem_mem hk;have hS:=hs _ hmem;have hdrop:sets.drop c.length=sets[c.length]::sets.drop (c.length+1):=List.drop_eq_getElem_cons hk;unfold co_;rw[if_neg (by simp;omega),gf_ _ _ hk,sb];have hlab:cn_ fuel sets[c.length]=some (lbs 8 sets[c.length].toNat):=by
   have:=hh_ sets[c.length].toNat fuel (by omega);rwa [Int.toNat_of_nonneg hS.1] at this
  rw[hlab,sb];obtain⟨z,h1,h2⟩:=eo_ (body:=dz_ good sets c (co_ fuel)) (λa=>∃m,cho ((sets.drop (c.length+1)).map Int.toNat) m∧srt (c++(a::m))∈good) (λr=>r.2=true) (lbs 8 sets[c.length].toNat) 0 (λa ha j=>by
   obtain⟨l,b,g1,g2⟩:=kL_ good sets hs hl d fuel (c++[a]) (by simp;omega) (by omega);rw[List.length_append,List.length_singleton] at g2;simp only[List.append_assoc,List.singleton_append] at g2;unfold dz_;rw[fY_ c (by omega),sb];unfold push;rw[if_pos (by omega),sb,g1,sb];cases b
   ·exact⟨_,rfl,.inl ⟨rfl,λh=>by simpa using g2.2 h⟩⟩
   ·exact⟨_,rfl,.inr ⟨_,rfl,rfl,g2.1 rfl⟩⟩)
  rw[h1,sb,hdrop,List.map_cons];have hiff:(∃m,cho (sets[c.length].toNat::(sets.drop (c.length+1)).map Int.toNat) m∧srt (c++m)∈good)<->∃a∈lbs 8 sets[c.length].toNat,∃m,cho ((sets.drop (c.length+1)).map Int.toNat) m∧srt (c++(a::m))∈good:=by
   constructor
   ·rintro⟨m,hm,h⟩;obtain⟨a,m',rfl,ha,hm'⟩:=(ik_ (by omega)).1 hm;exact⟨a,ha,m',hm',h⟩
   ·rintro⟨a,ha,m',hm',h⟩;exact⟨a::m',(ik_ (by omega)).2 ⟨a,m',rfl,ha,hm'⟩,h⟩
  rcases h2 with⟨rfl,hno⟩|⟨r,rfl,hr,a,ha,hq⟩
  ·refine⟨_,_,rfl,?_⟩;rw[hiff];constructor
   ·intro h;cases h
   ·rintro⟨a,ha,hq⟩;exact absurd hq (hno a ha)
  ·obtain⟨l,b⟩:=r;refine⟨l,b,rfl,?_⟩;rw[hiff];exact⟨λ_=>⟨a,ha,hq⟩,λ_=>hr⟩
def chS(good:List (List Int))(sets x:List Int):Prop:=∃m,cho ((imgL sets x).map Int.toNat) m∧srt m∈good
open Classical in
noncomputable def someP(good:List (List Int))(sets:List Int)(d:Nat):List (List Int):=(msD sets.length d).filter λx=>decide (chS good sets x)
theorem fy_(t x:List Int):(imgL t x).length=x.length:=by simp[imgL]
theorem oP_{t x:List Int}(h:∀y∈x,0<=y∧y<t.length){z:Int}(hz:z∈imgL t x):z∈t:=by
 unfold imgL at hz;obtain⟨y,hy,rfl⟩:=List.mem_map.1 hz;have:=h y hy;rw[List.getD_eq_getElem?_getD,List.getElem?_eq_getElem (by omega)];exact List.getElem_mem _
open Classical in
theorem ot_(fuel:Nat)(good:List (List Int))(sets:List Int)(d:Nat)(hs:∀s∈sets,0<=s∧s<256)(hl:sets.length<=8)(hd:d<=4)(hf:1000<=fuel):fQ_ fuel good sets (d:Int)=some (someP good sets d):=by
  have hb:∀k,k<=d->sets.length^k<=1000000000:=λk hk=>by
    have h1:sets.length^k<=8^k:=Nat.pow_le_pow_left hl k
    have h2:8^k<=8^4:=Nat.pow_le_pow_right (by decide) (by omega)
    omega
  have hlen:=Nat.le_trans (gx_ sets.length d) (hb d (Nat.le_refl d))
  have h1:((msD sets.length d).flatMap λx=>if decide (chS good sets x) then [x] else []).length<=1000000000:=by
    rw[hB_]
    exact Nat.le_trans (List.length_filter_le _ _) hlen
  have key:=fi_ (body:=ex_ fuel good sets) (λx=>if decide (chS good sets x) then [x] else []) 1000000000 (msD sets.length d) 0 [] (by simpa using h1) (λx hx j ac hac=>by
    have hnd:=(ej_ _ _ _).1 hx
    unfold ex_
    rw[(nU_ sets x (by omega) hnd.2.2 (by rw[hnd.1];omega)).1,sb]
    have hil:=fy_ sets x
    rw[hnd.1] at hil
    obtain⟨l,b,g1,g2⟩:=kL_ good (imgL sets x) (λs hs'=>hs s (oP_ hnd.2.2 hs')) (by omega) d fuel [] (by simp[hil]) (by omega)
    simp only[List.length_nil,List.drop_zero,List.nil_append] at g2
    rw[g1,sb]
    cases b
    · have hno:¬chS good sets x:=λh=>by simpa using g2.2 h
      simp[hno]
    · have hyes:chS good sets x:=g2.1 rfl
      simp only[hyes,decide_true,if_true,List.length_singleton] at hac ⊢
      unfold push
      rw[if_pos (by omega),sb])
  unfold fQ_ someP
  rw[kb_ sets.length d fuel (by omega) (by omega) hb (by omega),sb,key,sb]
  simp only[List.nil_append]
  rw[hB_]
def sdI(xs:List Int):List Int:=((List.range 256).map λi:Nat=>(i:Int)).filter λi=>decide (i∈xs)
theorem jv_{xs:List Int}(h:∀x∈xs,0<=x∧x<256){y:Int}:y∈sdI xs<->y∈xs:=by
 unfold sdI;rw[List.mem_filter,decide_eq_true_eq,List.mem_map];constructor
 ·exact λh=>h.2
 ·intro hy;have:=h y hy;exact⟨⟨y.toNat,by rw[List.mem_range];omega,by omega⟩,hy⟩
theorem pS_{xs:List Int}{y:Int}(h:y∈sdI xs):(0<=y∧y<256)∧y∈xs:=by
 unfold sdI at h;rw[List.mem_filter,decide_eq_true_eq,List.mem_map] at h;obtain⟨⟨i,hi,rfl⟩,h2⟩:=h;rw[List.mem_range] at hi;exact⟨by omega,h2⟩
theorem hN_(xs:List Int):(sdI xs).Pairwise (·<·):=by
 unfold sdI;refine List.Pairwise.filter _ ?_;rw[List.pairwise_map];exact List.pairwise_lt_range.imp λ{a b} h=>by omega
theorem nS_(xs:List Int):(sdI xs).length<=256:=by
 unfold sdI;exact Nat.le_trans (List.length_filter_le _ _) (by simp)
theorem rk_{xs ys:List Int}(h:∀y,y∈xs<->y∈ys):sdI xs=sdI ys:=by
 unfold sdI;refine List.filter_congr λy _=>?_;simp[h y]
theorem tC_(fuel:Nat)(hf:1000<=fuel)(A:List Int)(s:Int)(hA:∀x∈A,0<=x∧x<256)(hs:0<=s∧s<256):hk_ fuel (sdI A) s=some (sdI (A++[s])):=by
 have hl:=nS_ A;obtain⟨ys,h1,h2,h3⟩:=td_ (sdI A) s fuel (by omega) (by omega) (hN_ A);rw[h1];congr 1;refine oJ_ h2 (hN_ _) λb=>?_;rw[h3,jv_ hA,jv_ (λx hx=>by
  rcases List.mem_append.1 hx with hx|hx
  ·exact hA x hx
  ·rw[List.mem_singleton.1 hx];exact hs),List.mem_append,List.mem_singleton]
theorem qT_(fuel:Nat)(hf:1000<=fuel):∀(xs:List Int)(k:Int)(A:List Int),(∀x∈A,0<=x∧x<256)->(∀x∈xs,0<=x∧x<256)->forI (dH_ fuel) xs k (sdI A)=some (.inl (sdI (A++xs)))
 |[],k,A,_,_=>by simp[forI]
 | x::xs,k,A,hA,hx=>by
  have h0:dH_ fuel k x (sdI A)=some (.go (sdI (A++[x]))):=by
   unfold dH_;rw[tC_ fuel hf A x hA (hx x (by simp)),sb]
  simp only[forI,h0];rw[qT_ fuel hf xs (k+1) (A++[x]) (λy hy=>by
   rcases List.mem_append.1 hy with hy|hy
   ·exact hA y hy
   ·rw[List.mem_singleton.1 hy];exact hx x (by simp)) (λy hy=>hx y (by simp[hy])),List.append_assoc,List.singleton_append]
theorem pg_(fuel:Nat)(hf:1000<=fuel):∀(full:List (List Int))(k:Int)(A:List Int),(∀x∈A,0<=x∧x<256)->(∀x∈full,∀y∈x,0<=y∧y<256)->forI (dO_ fuel) full k (sdI A)=some (.inl (sdI (A++full.flatten)))
 |[],k,A,_,_=>by simp[forI]
 | x::full,k,A,hA,hx=>by
  have h0:dO_ fuel k x (sdI A)=some (.go (sdI (A++x))):=by
   unfold dO_;rw[qT_ fuel hf x 0 A hA (hx x (by simp)),sb]
  simp only[forI,h0];rw[pg_ fuel hf full (k+1) (A++x) (λy hy=>by
   rcases List.mem_append.1 hy with hy|hy
   ·exact hA y hy
   ·exact hx x (by simp) y hy) (λy hy=>hx y (by simp[hy])),List.flatten_cons,List.append_assoc]
def nmb(sets x:List Int):List Int:=srt (x.map (idxI sets))
theorem iy_(sets x:List Int):(nmb sets x).length=x.length:=by unfold nmb;rw[dK_,List.length_map]
theorem tc_(sets:List Int)(s:Int):0<=idxI sets s∧idxI sets s<=sets.length:=by
 have:sets.countP (λx=>decide (x<s))<=sets.length:=List.countP_le_length;unfold idxI;omega
theorem rz_{sets x:List Int}{d:Nat}(hx:x.length=d)(hl:sets.length<=1000000):smallD d (nmb sets x):=by
 refine⟨by rw[iy_,hx],λy hy=>?_⟩;have hy2:=(fZ_ _).subset hy;obtain⟨s,-,rfl⟩:=List.mem_map.1 hy2;have:=tc_ sets s;omega
theorem qU_{d:Nat}(hd:d<=1000)(fuel:Nat)(hf:1000000000<=fuel)(sets:List Int)(hs:sets.Pairwise (·<·))(hl:sets.length<=1000):∀(full:List (List Int))(k:Int)(acc:List (List Int)),(∀x∈full,x.length=d∧∀y∈x,y∈sets)->
  acc.length+full.length<1000000000->(∀z∈acc,smallD d z)->forI (dR_ fuel sets) full k acc=some (.inl ((full.map (nmb sets)).foldl insS acc))
 |[],k,acc,_,_,_=>by simp[forI]
 | x::full,k,acc,hx,ha,hz=>by
  rw[List.length_cons] at ha;obtain⟨x1,x2⟩:=hx x (by simp);have hsm:=rz_ (sets:=sets) x1 (by omega);have h0:dR_ fuel sets k x acc=some (.go (insS acc (nmb sets x))):=by
   unfold dR_;rw[nz_ fuel sets x hs x2 (by omega) (by omega),sb];rw[show srt (x.map (idxI sets))=nmb sets x from rfl,nN_ hd fuel acc _ (by omega) (by omega) hz hsm,sb]
  simp only[forI,h0];have:=lJ_ (nmb sets x) acc;rw[qU_ hd fuel hf sets hs hl full (k+1) _ (λy hy=>hx y (by simp[hy])) (by omega) (pC_ hz hsm),List.map_cons,List.foldl_cons]
noncomputable def madeV(p:c_)(full:List (List Int))(b:Bool):c_×List Int×Bool:=
  if 1<=(sdI full.flatten).length∧(sdI full.flatten).length<=8 then
    (if b then ⟨((sdI full.flatten).length:Int),p.Degree,someP p.Nodes (sdI full.flatten) p.Degree.toNat,sxd (full.map (nmb (sdI full.flatten)))⟩
     else ⟨((sdI full.flatten).length:Int),p.Degree,sxd (full.map (nmb (sdI full.flatten))),someP p.Edges (sdI full.flatten) 2⟩,sdI full.flatten,true)
  else(⟨0,0,[],[]⟩,[],false)
theorem oq_{d:Nat}(hd:d<=1000)(fuel:Nat)(hf:1000000000<=fuel)(p:c_)(full:List (List Int))(b:Bool)(hD:0<=p.Degree∧p.Degree<=4)(hx:∀x∈full,x.length=d∧∀y∈x,0<=y∧y<256)(hl:full.length<1000000000):
  fO_ fuel p full b=some (madeV p full b):=by
 have hr:∀x∈full,∀y∈x,0<=y∧y<256:=λx h=>(hx x h).2;have hfl:∀y∈full.flatten,0<=y∧y<256:=λy hy=>by
  obtain⟨x,h1,h2⟩:=List.mem_flatten.1 hy;exact hr x h1 y h2
 have h1:=pg_ fuel (by omega) full 0 [] (by simp) hr;rw[List.nil_append] at h1;have h2:=qU_ hd fuel hf (sdI full.flatten) (hN_ _) (by have:=nS_ full.flatten;omega) full 0 [] (λx h=>⟨(hx x h).1,λy hy=>(jv_ hfl).2 (List.mem_flatten.2 ⟨x,h,hy⟩)⟩) (by simpa using hl) (by simp);have hin:∀s∈sdI full.flatten,0<=s∧s<256:=λs h=>(pS_ h).1;unfold fO_ madeV;rw[show([]:List Int)=sdI [] from by simp[sdI],h1,sb];simp only
 rw[oV_,sb];by_cases hc:1<=(sdI full.flatten).length∧(sdI full.flatten).length<=8
 ·rw[if_neg (by simp;omega),if_pos hc,h2,sb];simp only
  cases b
  ·simp only[Bool.false_eq_true,if_false];have:=ot_ fuel p.Edges (sdI full.flatten) 2 hin hc.2 (by omega) (by omega);rw[show((2:Nat):Int)=2 from rfl] at this;rw[this,sb];rfl
  ·simp only[if_true];have:=ot_ fuel p.Nodes (sdI full.flatten) p.Degree.toNat hin hc.2 (by omega) (by omega);rw[Int.toNat_of_nonneg hD.1] at this;rw[this,sb];rfl
 ·rw[if_pos (by simp;omega),if_neg hc]
open Classical in
noncomputable def fullTo(p:c_)(n:Nat):List (List Int):=((List.range' 1 n).filter λS=>decide (0<nearN p S∧nearN p (nearN p S)=S)).map λS:Nat=>[(S:Int),(nearN p S:Int)]
noncomputable def fullE(p:c_):List (List Int):=fullTo p (2^p.Labels.toNat-1)
theorem lE_(p:c_)(S:Nat)(hL:p.Labels<=8):nearN p S<256:=by
 have h1:=et_ (λb:Nat=>∀a∈lbs 8 S,srt [a,(b:Int)]∈p.Edges) p.Labels.toNat
 have h2:2^p.Labels.toNat<=2^8:=Nat.pow_le_pow_right (by decide) (by omega);unfold nearN;omega
open Classical in
theorem jX_(p:c_)(n:Nat):fullTo p (n+1)=if 0<nearN p (n+1)∧nearN p (nearN p (n+1))=n+1 then fullTo p n++[[((n+1:Nat):Int),(nearN p (n+1):Int)]] else fullTo p n:=by
  unfold fullTo
  rw[List.range'_1_concat,List.filter_append,List.map_append,Nat.add_comm 1 n]
  by_cases h:0<nearN p (n+1)∧nearN p (nearN p (n+1))=n+1
  · rw[if_pos h,List.filter_cons_of_pos (by simpa using h)]
    rfl
  · rw[if_neg h,List.filter_cons_of_neg (by simpa using h)]
    simp
theorem fT_(p:c_)(n:Nat):(fullTo p n).length<=n:=by
 unfold fullTo;rw[List.length_map];exact Nat.le_trans (List.length_filter_le _ _) (by simp)
theorem ls_(p:c_)(hL:p.Labels<=8):∀x∈fullE p,x.length=2∧∀y∈x,0<=y∧y<256:=λx hx=>by
 unfold fullE fullTo at hx;obtain⟨S,hS,rfl⟩:=List.mem_map.1 hx;have h1:=(List.mem_filter.1 hS).1;rw[List.mem_range'_1] at h1;have h2:2^p.Labels.toNat<=2^8:=Nat.pow_le_pow_right (by decide) (by omega);have h3:=lE_ p S hL;refine⟨rfl,λy hy=>?_⟩;rcases List.mem_cons.1 hy with rfl|hy
 ·omega
 ·rw[List.mem_singleton.1 hy];omega
noncomputable def edgeV(p:c_):c_×List Int×Bool:=madeV p (fullE p) true
theorem rX_(fuel:Nat)(hf:1000000000<=fuel)(p:c_)(hL:0<=p.Labels∧p.Labels<=8)(hD:0<=p.Degree∧p.Degree<=4):gO_ fuel p=some (edgeV p):=by
 have h2:2^p.Labels.toNat<=2^8:=Nat.pow_le_pow_right (by decide) (by omega);have h1:1<=2^p.Labels.toNat:=Nat.one_le_two_pow;have hsh:shl 1 p.Labels=some ((2^p.Labels.toNat:Nat):Int):=by
  have:=eq_ (a:=p.Labels.toNat) (by omega);rwa [Int.toNat_of_nonneg hL.1] at this
 have hV:edgeV p=madeV p (fullTo p (2^p.Labels.toNat-1)) true:=rfl;have hE:∀x∈fullTo p (2^p.Labels.toNat-1),x.length=2∧∀y∈x,0<=y∧y<256:=ls_ p hL.2;obtain⟨N,hN⟩:∃N:Nat,2^p.Labels.toNat=N:=⟨_,rfl⟩;rw[hN] at h1 h2 hsh hV hE;rw[show(2:Nat)^8=256 from rfl] at h2;have h:=bT_ (f:=dP_ fuel p) (λj=>(fullTo p j,((j+1:Nat):Int))) (N-1) (λj hj=>by
  have hfl:=fT_ p j;unfold dP_;simp only
  rw[hsh,sb,if_pos (by simp;omega),oH_ p (j+1) fuel hL (by omega),sb,jX_];have hn:=lE_ p (j+1) hL.2;by_cases hc:0<nearN p (j+1)
  ·rw[if_pos (by simpa using hc),oH_ p _ fuel hL (by omega),sb,sb];by_cases hc2:nearN p (nearN p (j+1))=j+1
   ·rw[if_pos (by simp;omega),if_pos ⟨hc,hc2⟩];unfold push;rw[if_pos (by omega),sb,F_ (by omega) (by omega),sb];rfl
   ·rw[if_neg (by simp;omega),if_neg (λh=>hc2 h.2),F_ (by omega) (by omega),sb];rfl
  ·rw[if_neg (by simpa using hc),sb,if_neg (by simp),if_neg (λh=>hc h.1),F_ (by omega) (by omega),sb];rfl) (by
  unfold dP_;simp only
  rw[hsh,sb,if_neg (by simp;omega)]) fuel 0 (by omega) (by omega)
 unfold gO_;rw[show(([]:List (List Int)),(1:Int))=(fullTo p 0,((0+1:Nat):Int)) from by simp[fullTo],h,sb];simp only
 rw[oq_ (d:=2) (by omega) fuel hf p (fullTo p (N-1)) true hD hE (by have:=fT_ p (N-1);omega),sb,hV]
end
section
theorem oO_{LL:List (List Int)}{m n:Int}(h1:∀x∈LL,(x.length:Int)=m∧x.Pairwise (·<=·)∧∀y∈x,0<=y∧y<=n-1)(h2:sorS LL):confsB LL m n=true:=by
 unfold confsB;rw[Option.isNone_iff_eq_none,cN_];intro j x hj;rw[Nat.zero_add];have hx:=h1 x (List.mem_iff_getElem?.2 ⟨j,hj⟩);unfold confP;rw[if_pos];unfold confB;simp only[Bool.and_eq_true,decide_eq_true_eq,Bool.or_eq_true];refine⟨⟨⟨hx.1,hm_.2 hx.2.1⟩,List.all_eq_true.2 λy hy=>ek_.2 (hx.2.2 y hy)⟩,?_⟩;cases j with
 |zero=>exact .inl rfl
 |succ j=>
  refine .inr ?_;obtain⟨hlt,hxe⟩:=List.getElem?_eq_some_iff.1 hj;have:=List.pairwise_iff_getElem.1 h2 j (j+1) (by omega) hlt (by omega);rw[Nat.add_sub_cancel,List.getD_eq_getElem?_getD,List.getElem?_eq_getElem (by omega),Option.getD_some,<-hxe];exact this
theorem oz_{d:Nat}{xs:List (List Int)}(h:∀z∈xs,z.length=d):sorS (sxd xs)∧∀z,z∈sxd xs<->z∈xs:=by
 obtain⟨h1,h2⟩:=lC_ xs [] h (by simp) (by simp[sorS]);exact⟨h1,λz=>by have:=h2 z;simpa [sxd] using this⟩
theorem rf_{d:Nat}{xs ys:List (List Int)}(hx:∀z∈xs,z.length=d)(hy:∀z∈ys,z.length=d)(h:∀z,z∈xs<->z∈ys):sxd xs=sxd ys:=by
 obtain⟨a1,a2⟩:=oz_ hx;obtain⟨b1,b2⟩:=oz_ hy;exact pd_ (λz hz=>hx z ((a2 z).1 hz)) a1 b1 λz=>by rw[a2,b2,h]
theorem sV_{sets:List Int}{s:Int}(h:s∈sets):0<=idxI sets s∧idxI sets s<sets.length:=by
 have h1:sets.countP (λx=>decide (x<s))<sets.length:=by
  refine Nat.lt_of_le_of_ne List.countP_le_length λe=>?_;have:=(List.countP_eq_length.1 e) s h;simp at this
 unfold idxI;omega
theorem tU_{full:List (List Int)}(h:∀x∈full,∀y∈x,0<=y∧y<256){y:Int}:y∈sdI full.flatten<->∃x∈full,y∈x:=by
 rw[jv_ (λy hy=>by
  obtain⟨x,h1,h2⟩:=List.mem_flatten.1 hy;exact h x h1 y h2),List.mem_flatten]
theorem nZ_(p:c_)(b:Bool)(d:Nat){A B:List (List Int)}(hA:∀x∈A,x.length=d∧∀y∈x,0<=y∧y<256)(h:∀z,z∈A<->z∈B):madeV p A b=madeV p B b:=by
 have hB:∀x∈B,x.length=d∧∀y∈x,0<=y∧y<256:=λx hx=>hA x ((h x).2 hx);have hs:sdI A.flatten=sdI B.flatten:=rk_ λy=>by
  rw[List.mem_flatten,List.mem_flatten];exact⟨λ⟨x,h1,h2⟩=>⟨x,(h x).1 h1,h2⟩,λ⟨x,h1,h2⟩=>⟨x,(h x).2 h1,h2⟩⟩
 have hm:sxd (A.map (nmb (sdI B.flatten)))=sxd (B.map (nmb (sdI B.flatten))):=rf_ (d:=d) (λz hz=>by
   obtain⟨x,h1,rfl⟩:=List.mem_map.1 hz;rw[iy_];exact(hA x h1).1) (λz hz=>by
   obtain⟨x,h1,rfl⟩:=List.mem_map.1 hz;rw[iy_];exact(hB x h1).1) λz=>by
  rw[List.mem_map,List.mem_map];exact⟨λ⟨x,h1,h2⟩=>⟨x,(h x).1 h1,h2⟩,λ⟨x,h1,h2⟩=>⟨x,(h x).2 h1,h2⟩⟩
 unfold madeV;rw[hs,hm]
theorem mE_(good:List (List Int))(sets:List Int)(d:Nat):confsB (someP good sets d) (d:Int) (sets.length:Int)=true:=by
 refine oO_ (λx hx=>?_) ?_
 ·have:=(ej_ _ _ _).1 (List.mem_filter.1 hx).1;exact⟨by rw[this.1],this.2.1,λy hy=>by have:=this.2.2 y hy;omega⟩
 ·exact List.Pairwise.filter _ (qp_ _ _)
theorem oR_(good:List (List Int))(sets:List Int)(d:Nat)(hl:sets.length<=8)(hd:d<=4):(someP good sets d).length<=4096:=by
 have h1:sets.length^d<=8^d:=Nat.pow_le_pow_left hl d;have h2:8^d<=8^4:=Nat.pow_le_pow_right (by decide) hd;have h3:=gx_ sets.length d;have h4:(someP good sets d).length<=(msD sets.length d).length:=List.length_filter_le _ _;omega
theorem sp_{d:Nat}{full:List (List Int)}(hx:∀x∈full,x.length=d∧∀y∈x,0<=y∧y<256):confsB (sxd (full.map (nmb (sdI full.flatten)))) (d:Int) ((sdI full.flatten).length:Int)=true:=by
 obtain⟨h1,h2⟩:=oz_ (d:=d) (xs:=full.map (nmb (sdI full.flatten))) (λz hz=>by
  obtain⟨x,h1,rfl⟩:=List.mem_map.1 hz;rw[iy_];exact(hx x h1).1)
 refine oO_ (λz hz=>?_) h1;obtain⟨x,h3,rfl⟩:=List.mem_map.1 ((h2 z).1 hz);refine⟨by rw[iy_,(hx x h3).1],hJ_ _,λy hy=>?_⟩;obtain⟨s,hs,rfl⟩:=List.mem_map.1 ((fZ_ _).subset hy);have:=sV_ ((tU_ (full:=full) λx h=>(hx x h).2).2 ⟨x,h3,hs⟩);omega
theorem kH_(p:c_)(full:List (List Int))(b:Bool)(d:Nat)(hD:1<=p.Degree∧p.Degree<=4)(hb:(d:Int)=if b then 2 else p.Degree)(hx:∀x∈full,x.length=d∧∀y∈x,0<=y∧y<256)(h:(madeV p full b).2.2=true):
  probB (madeV p full b).1=true∧(madeV p full b).1.Nodes.length<=4096+full.length∧(madeV p full b).1.Edges.length<=4096+full.length∧(madeV p full b).1.Degree=p.Degree:=by
 have hlen:(sxd (full.map (nmb (sdI full.flatten)))).length<=full.length:=by
  have:=nG_ (full.map (nmb (sdI full.flatten))) [];simpa [sxd] using this
 have hc:=sp_ hx;have hd:((p.Degree.toNat:Nat):Int)=p.Degree:=Int.toNat_of_nonneg (by omega);unfold madeV at h ⊢;by_cases hn:1<=(sdI full.flatten).length∧(sdI full.flatten).length<=8
 ·rw[if_pos hn] at h ⊢;cases b
  ·simp only[Bool.false_eq_true,if_false] at hb ⊢;have hs:=mE_ p.Edges (sdI full.flatten) 2;have hl:=oR_ p.Edges (sdI full.flatten) 2 hn.2 (by omega);refine⟨?_,by omega,by omega,by trivial⟩;unfold probB;simp only
   rw[hb] at hc;rw[hc,show(2:Int)=((2:Nat):Int) from rfl,hs,ek_.2 (by omega),ek_.2 (by omega)];rfl
  ·simp only[if_true] at hb ⊢;have hs:=mE_ p.Nodes (sdI full.flatten) p.Degree.toNat
   have hl:=oR_ p.Nodes (sdI full.flatten) p.Degree.toNat hn.2 (by omega);refine⟨?_,by omega,by omega,by trivial⟩;unfold probB;simp only
   rw[hb] at hc;rw[hd] at hs;rw[hc,hs,ek_.2 (by omega),ek_.2 (by omega)];rfl
 ·rw[if_neg hn] at h;cases h
open Classical in
noncomputable def fullS(p:c_):List (List Int):=((msD (2^p.Labels.toNat-1) (p.Degree.toNat-1)).map λc=>c.map (·+1)).flatMap λl=>
  if cmI p.Labels.toNat p.Nodes l≠0∧(∀y∈l,y<=cmI p.Labels.toNat p.Nodes l)∧fullI p.Labels.toNat p.Nodes (l++[cmI p.Labels.toNat p.Nodes l]) then [l++[cmI p.Labels.toNat p.Nodes l]] else []
open Classical in
noncomputable def fullJ(p:c_):List (List Int):=((msD (2^p.Labels.toNat-1) (p.Degree.toNat-1)).map λc=>c.map (·+1)).flatMap λl=>
  if cmI p.Labels.toNat p.Nodes l≠0∧fullI p.Labels.toNat p.Nodes (l++[cmI p.Labels.toNat p.Nodes l]) then [srt (l++[cmI p.Labels.toNat p.Nodes l])] else []
theorem jq_(L d:Nat)(l:List Int):(∃c∈msD (2^L-1) d,c.map (·+1)=l)<->firstI (2^L-1) d l:=by
 have hN:((2^L-1:Nat):Int)=(2:Int)^L-1:=by
  have h1:1<=2^L:=Nat.one_le_two_pow;rw[Int.natCast_sub h1];simp
 constructor
 ·rintro⟨c,hc,rfl⟩;obtain⟨h1,h2,h3⟩:=(ej_ _ _ _).1 hc;refine⟨by rw[List.length_map,h1],?_,λy hy=>?_⟩
  ·rw[List.pairwise_map];exact h2.imp λ{a b} h=>by omega
  ·obtain⟨x,hx,rfl⟩:=List.mem_map.1 hy;have:=h3 x hx;omega
 ·rintro⟨h1,h2,h3⟩;refine⟨l.map (·-1),(ej_ _ _ _).2 ⟨by rw[List.length_map,h1],?_,λy hy=>?_⟩,?_⟩
  ·rw[List.pairwise_map];exact h2.imp λ{a b} h=>by omega
  ·obtain⟨x,hx,rfl⟩:=List.mem_map.1 hy;have:=h3 x hx;omega
  ·rw[List.map_map]
   conv=>rhs;rw[<-List.map_id l]
   refine List.map_congr_left λx _=>?_;simp
theorem nj_(p:c_)(z:List Int):z∈fullS p<->∃l,firstI (2^p.Labels.toNat-1) (p.Degree.toNat-1) l∧cmI p.Labels.toNat p.Nodes l≠0∧(∀y∈l,y<=cmI p.Labels.toNat p.Nodes l)∧fullI p.Labels.toNat p.Nodes (l++[cmI p.Labels.toNat p.Nodes l])∧z=l++[cmI p.Labels.toNat p.Nodes l]:=by
 unfold fullS;rw[List.mem_flatMap];constructor
 ·rintro⟨l,hl,hz⟩;by_cases hc:cmI p.Labels.toNat p.Nodes l≠0∧(∀y∈l,y<=cmI p.Labels.toNat p.Nodes l)∧fullI p.Labels.toNat p.Nodes (l++[cmI p.Labels.toNat p.Nodes l])
  ·rw[if_pos hc] at hz;exact⟨l,(jq_ _ _ _).1 (by simpa using hl),hc.1,hc.2.1,hc.2.2,List.mem_singleton.1 hz⟩
  ·rw[if_neg hc] at hz;cases hz
 ·rintro⟨l,h1,h2,h3,h4,rfl⟩;refine⟨l,by simpa using (jq_ _ _ _).2 h1,?_⟩;rw[if_pos ⟨h2,h3,h4⟩];exact List.mem_singleton.2 rfl
theorem qc_(p:c_)(z:List Int):z∈fullJ p<->∃l,firstI (2^p.Labels.toNat-1) (p.Degree.toNat-1) l∧cmI p.Labels.toNat p.Nodes l≠0∧fullI p.Labels.toNat p.Nodes (l++[cmI p.Labels.toNat p.Nodes l])∧z=srt (l++[cmI p.Labels.toNat p.Nodes l]):=by
 unfold fullJ;rw[List.mem_flatMap];constructor
 ·rintro⟨l,hl,hz⟩;by_cases hc:cmI p.Labels.toNat p.Nodes l≠0∧fullI p.Labels.toNat p.Nodes (l++[cmI p.Labels.toNat p.Nodes l])
  ·rw[if_pos hc] at hz;exact⟨l,(jq_ _ _ _).1 (by simpa using hl),hc.1,hc.2,List.mem_singleton.1 hz⟩
  ·rw[if_neg hc] at hz;cases hz
 ·rintro⟨l,h1,h2,h4,rfl⟩;refine⟨l,by simpa using (jq_ _ _ _).2 h1,?_⟩;rw[if_pos ⟨h2,h4⟩];exact List.mem_singleton.2 rfl
theorem nL_(p:c_)(z:List Int):z∈fullJ p<->z∈fullS p:=by
 rw[qc_,nj_];exact qN_ _ _ _ _
theorem js_(p:c_)(hL:0<=p.Labels∧p.Labels<=8)(hD:1<=p.Degree):∀x∈fullS p,x.length=p.Degree.toNat∧∀y∈x,0<=y∧y<256:=λx hx=>by
 obtain⟨l,h1,-,-,-,rfl⟩:=(nj_ p x).1 hx;have h256:(2:Int)^p.Labels.toNat<=256:=by
  have h2:2^p.Labels.toNat<=2^8:=Nat.pow_le_pow_right (by decide) (show p.Labels.toNat<=8 by omega);have:((2^p.Labels.toNat:Nat):Int)<=((256:Nat):Int):=Int.ofNat_le.2 h2;simpa using this
 have hc:=oi_ p.Labels.toNat p.Nodes l;refine⟨by rw[List.length_append,h1.1,List.length_singleton];omega,λy hy=>?_⟩;rcases List.mem_append.1 hy with hy|hy
 ·have:=h1.2.2 y hy;omega
 ·rw[List.mem_singleton.1 hy];omega
open Classical in
theorem mJ_(p:c_)(hL:p.Labels<=8)(hD:p.Degree<=4):(fullS p).length<=16777216:=by
  have h1:2^p.Labels.toNat<=2^8:=Nat.pow_le_pow_right (by decide) (show p.Labels.toNat<=8 by omega)
  have h2:(2^p.Labels.toNat-1)^(p.Degree.toNat-1)<=256^(p.Degree.toNat-1):=Nat.pow_le_pow_left (by omega) _
  have h3:256^(p.Degree.toNat-1)<=256^3:=Nat.pow_le_pow_right (by decide) (by omega)
  have h4:=gx_ (2^p.Labels.toNat-1) (p.Degree.toNat-1)
  have h5:=hi_ (m:=1) (g:=λl=>if cmI p.Labels.toNat p.Nodes l≠0∧(∀y∈l,y<=cmI p.Labels.toNat p.Nodes l)∧fullI p.Labels.toNat p.Nodes (l++[cmI p.Labels.toNat p.Nodes l]) then [l++[cmI p.Labels.toNat p.Nodes l]] else []) ((msD (2^p.Labels.toNat-1) (p.Degree.toNat-1)).map λc=>c.map (·+1)) (λx _=>by
    by_cases hc:cmI p.Labels.toNat p.Nodes x≠0∧(∀y∈x,y<=cmI p.Labels.toNat p.Nodes x)∧fullI p.Labels.toNat p.Nodes (x++[cmI p.Labels.toNat p.Nodes x])
    · rw[if_pos hc];simp
    · rw[if_neg hc];simp)
  rw[List.length_map] at h5
  unfold fullS
  omega
open Classical in
noncomputable def nodeV(p:c_):c_×List Int×Bool:=if p.Degree=4∧6<p.Labels then(⟨0,0,[],[]⟩,[],false) else madeV p (fullS p) false
theorem pQ_(p:c_)(h:probB p=true)(hv:(nodeV p).2.2=true):probB (nodeV p).1=true∧(nodeV p).1.Nodes.length<=100000000∧(nodeV p).1.Edges.length<=100000000∧(nodeV p).1.Degree=p.Degree:=by
 obtain⟨g1,g2,g3,g4,-,-⟩:=aH_ h;unfold nodeV at hv ⊢;by_cases hc:p.Degree=4∧6<p.Labels
 ·rw[if_pos hc] at hv;cases hv
 ·rw[if_neg hc] at hv ⊢;have:=kH_ p (fullS p) false p.Degree.toNat ⟨g3,g4⟩ (by simp;omega) (js_ p ⟨by omega,g2⟩ g3) hv;have hl:=mJ_ p g2 g4;exact⟨this.1,by omega,by omega,this.2.2.2⟩
theorem iK_(p:c_)(h:probB p=true)(hv:(edgeV p).2.2=true):probB (edgeV p).1=true∧(edgeV p).1.Nodes.length<=100000000∧(edgeV p).1.Edges.length<=100000000∧(edgeV p).1.Degree=p.Degree:=by
 obtain⟨g1,g2,g3,g4,-,-⟩:=aH_ h;unfold edgeV at hv ⊢;have:=kH_ p (fullE p) true 2 ⟨g3,g4⟩ rfl (ls_ p g2) hv;have hl:(fullE p).length<=256:=by
  have h1:=fT_ p (2^p.Labels.toNat-1);have h2:2^p.Labels.toNat<=2^8:=Nat.pow_le_pow_right (by decide) (show p.Labels.toNat<=8 by omega);unfold fullE;omega
 exact⟨this.1,by omega,by omega,this.2.2.2⟩
noncomputable def roundV(p:c_):c_×List Int×List Int×Bool:=
  if(edgeV p).2.2 then(if(nodeV (edgeV p).1).2.2 then((nodeV (edgeV p).1).1,(edgeV p).2.1,(nodeV (edgeV p).1).2.1,true) else(⟨0,0,[],[]⟩,[],[],false)) else(⟨0,0,[],[]⟩,[],[],false)
theorem nv_(p:c_)(h:probB p=true)(hv:(roundV p).2.2.2=true):probB (roundV p).1=true∧(roundV p).1.Nodes.length<=100000000∧(roundV p).1.Edges.length<=100000000∧(roundV p).1.Degree=p.Degree:=by
 unfold roundV at hv ⊢;cases h1:(edgeV p).2.2
 ·rw[h1,if_neg (by simp)] at hv;cases hv
 ·rw[h1,if_pos rfl] at hv;rw[if_pos rfl];obtain⟨a1,a2,a3,a4⟩:=iK_ p h h1;cases h2:(nodeV (edgeV p).1).2.2
  ·rw[h2,if_neg (by simp)] at hv;cases hv
  ·rw[if_pos rfl];obtain⟨b1,b2,b3,b4⟩:=pQ_ _ a1 h2;exact⟨b1,b2,b3,b4.trans a4⟩
end
section
theorem oZ_{α σ ρ:Type}{body:Int->α->σ->Option (Lp σ σ ρ)}(R:Nat->σ):∀(xs:List α)(k:Nat),(∀(j:Nat) x,xs[j]? =some x->body ((k+j:Nat):Int) x (R (k+j))=some (.go (R (k+j+1))))->
  forI body xs (k:Int) (R k)=some (.inl (R (k+xs.length)))
 |[],k,h=>rfl
 |x::xs,k,h=>by
  have h0:=h 0 x rfl;simp only[Nat.add_zero] at h0;simp only[forI,h0];rw[show((k:Int)+1)=((k+1:Nat):Int) by omega];rw[oZ_ R xs (k+1) (λj y hj=>by have:=h (j+1) y (by simpa using hj);rw[show k+(j+1)=k+1+j by omega] at this;exact this)];rw[List.length_cons,show k+1+xs.length=k+(xs.length+1) by omega]
theorem oo_{σ ρ:Type}{body:Int->σ->Option (Lp σ σ ρ)}(R:Nat->σ):∀(n k:Nat),(∀(j:Nat),j<n->body ((k+j:Nat):Int) (R (k+j))=some (.go (R (k+j+1))))->
  forN body n (k:Int) (R k)=some (.inl (R (k+n)))
 |0,k,h=>rfl
 |n+1,k,h=>by
  have h0:=h 0 (by omega);simp only[Nat.add_zero] at h0;simp only[forN,h0];rw[show((k:Int)+1)=((k+1:Nat):Int) by omega];rw[oo_ R n (k+1) (λj hj=>by have:=h (j+1) (by omega);rw[show k+(j+1)=k+1+j by omega] at this;exact this)];rw[show k+1+n=k+(n+1) by omega]
theorem ij_{α σ ρ:Type}{body:Int->α->σ->Option (Lp σ σ ρ)}(R:Nat->σ)(xs:List α)(h:∀(j:Nat) x,xs[j]? =some x->body (j:Int) x (R j)=some (.go (R (j+1)))):
  forI body xs 0 (R 0)=some (.inl (R xs.length)):=by
 have:=oZ_ R xs 0 (λj x hj=>by rw[Nat.zero_add];exact h j x hj);rw[Nat.zero_add] at this;exact this
theorem dW_{σ ρ:Type}{body:Int->σ->Option (Lp σ σ ρ)}(R:Nat->σ)(n:Nat)(h:∀(j:Nat),j<n->body (j:Int) (R j)=some (.go (R (j+1)))):
  forN body n 0 (R 0)=some (.inl (R n)):=by
 have:=oo_ R n 0 (λj hj=>by rw[Nat.zero_add];exact h j hj);rw[Nat.zero_add] at this;exact this
end
section
open Go.RowKit
structure bl_ where
  p:c_
  good:List Bool
  deriving DecidableEq
instance:Rp bl_ where
  sz:=5
  pos:=by decide
  rd o w cs x:=∃v1 v2 v3,cs=[.int .i64 x.p.Labels,.int .i64 x.p.Degree,v1,v2,v3]∧RdL o w v1 x.p.Nodes∧RdL o w v2 x.p.Edges∧RdL o w v3 x.good
  len h:=by obtain⟨v1,v2,v3,rfl,h1,h2,h3⟩:=h;rfl
  one h:=by
    obtain⟨v1,v2,v3,rfl,h1,h2,h3⟩:=h
    intro c hc
    simp only[List.mem_cons,List.not_mem_nil,or_false] at hc
    rcases hc with rfl|rfl|rfl|rfl|rfl<;>first|rfl|exact h1.one1|exact h2.one1|exact h3.one1
  mv h hs hb:=by obtain⟨v1,v2,v3,rfl,h1,h2,h3⟩:=h;exact⟨v1,v2,v3,rfl,h1.mv hs hb,h2.mv hs hb,h3.mv hs hb⟩
instance:Rz bl_:=⟨⟨⟨0,0,[],[]⟩,[]⟩,[.int .i64 0,.int .i64 0,.slice none 0 0,.slice none 0 0,.slice none 0 0],λo w=>⟨_,_,_,rfl,RdL.nil o w,RdL.nil o w,RdL.nil o w⟩⟩
structure al_ where
  p:c_
  after:List Int
  deriving DecidableEq
instance:Rp al_ where
  sz:=5
  pos:=by decide
  rd o w cs x:=∃v1 v2 v3,cs=[.int .i64 x.p.Labels,.int .i64 x.p.Degree,v1,v2,v3]∧RdL o w v1 x.p.Nodes∧RdL o w v2 x.p.Edges∧RdL o w v3 x.after
  len h:=by obtain⟨v1,v2,v3,rfl,h1,h2,h3⟩:=h;rfl
  one h:=by
    obtain⟨v1,v2,v3,rfl,h1,h2,h3⟩:=h
    intro c hc
    simp only[List.mem_cons,List.not_mem_nil,or_false] at hc
    rcases hc with rfl|rfl|rfl|rfl|rfl<;>first|rfl|exact h1.one1|exact h2.one1|exact h3.one1
  mv h hs hb:=by obtain⟨v1,v2,v3,rfl,h1,h2,h3⟩:=h;exact⟨v1,v2,v3,rfl,h1.mv hs hb,h2.mv hs hb,h3.mv hs hb⟩
instance:Rz al_:=⟨⟨⟨0,0,[],[]⟩,[]⟩,[.int .i64 0,.int .i64 0,.slice none 0 0,.slice none 0 0,.slice none 0 0],λo w=>⟨_,_,_,rfl,RdL.nil o w,RdL.nil o w,RdL.nil o w⟩⟩
end
section
open Go.RowKit
section
variable {P:Program} {n:Nat} {l:List (Nat×Value)} {w w0:World} {o oo:Tg} {d:Nat} {ty:TypeId} {ps:String} {af:Array Edge} {g:Option (Nat×Bool)} {R:Value->World->Prop} {B k:Nat} {e:TypeId}
theorem by_{d:Option Nat}{x:Operand}{a:Addr}(hx:ev l x=some (.pointer (some a))):
  ∀ρ,Agr ρ l->(execOp ρ ⟨d,.nilCheck x,ty,ps,af,g⟩).run P w=.ok (.value (.pointer (some a))) w:=by
 intro ρ hρ;simp only[execOp,hρ x _ hx,Sem.run_pure]
def mkc(c:Int):Option Unit:=if 0<=c∧c<=1000000000 then some () else none
theorem rT_{c:Int}{u:Unit}(h:mkc c=some u):0<=c∧c<=1000000000:=by
 unfold mkc at h;split at h
 ·assumption
 ·cases h
theorem rU_{α:Type}[Rp α]{t:TypeId}{z:Value}{bytes:Nat}{x y:Operand}{c:Int}{u:Unit}(B k:Nat)(hB:B<=w.heap.size)(hc:mkc c=some u)(hx:ev l x=some (.int .i64 0))(hy:ev l y=some (.int .i64 c))
  (ht:P.underlying t=some (.slice e)) (hi:Inf P e z (Rp.sz α) bytes) (hb:bytes<=1000)
  (h:∀o' w' v',Ow B e k o' w' v' ([]:List α)->Stp k o w o' w'->R v' w'):op1 P ⟨some d,.makeSlice t x y,ty,ps,af,g⟩ n l w R:=by
 obtain⟨h0,h1⟩:=rT_ hc;obtain⟨i0,hi0,hz0,hz1,hz2⟩:=info_parts hi;obtain⟨c,rfl⟩:∃m:Nat,c=m:=⟨c.toNat,by omega⟩;have hr:=run_make (P:=P) w t e i0 z ht hi0 hz0 .i64 .i64 0 (c:Int) (Int.le_refl _) h0 (by
  rw[hz2];have:=Int.mul_le_mul (show(bytes:Int)<=1000 by omega) h1 h0 (by omega);omega) (by omega)
 simp only[Int.toNat_zero,Int.toNat_natCast] at hr;rw[hz1] at hr;refine l_ (λρ hρ=>by simp only[execOp,hρ x _ hx,hρ y _ hy,Sem.run_bind,hr,Result.andThen_ok];rfl) (h (ext o w.heap.size k) _ _ ⟨[],rfl,?_,λg' hg=>?_,by simp⟩ (gn_ _ _ _ _ _))
 ·exact World.ownsRow_made w _ c hB (by unfold maxLen;omega) (size_madeCells _ _)
 ·simp[Value.ownBlock] at hg;subst hg;exact iA_ _ _ _ _ (Nat.le_refl _)
theorem Bx.frzP{α:Type}[Rp α]{b:Nat}{cs:List Value}{x:α}(h:Bx B k o w b e cs)(hr:Rp.rd o w cs x):RdL (Go.Proofs.YtdbbeldgdgonfaaGreat.frz k o) w (.slice (some ⟨b,0,none⟩) 1 1) [x]:=
 ⟨some ⟨b,0,none⟩,1,rfl,Nat.le_refl _,by decide,λi y hy=>by
  cases i with
  |zero=>
   simp at hy;subst hy;refine⟨b,0,cs,rfl,?_,(Array.getElem?_eq_some_iff.1 h.blk).1,?_,Rp.frz hr k⟩
   ·unfold Go.Proofs.YtdbbeldgdgonfaaGreat.frz;rw[h.tag,if_pos rfl]
   ·rw[Nat.zero_mul,Nat.add_zero];exact h.cells
  |succ i=>simp at hy⟩
theorem rV_{α:Type}[Rp α]{b:Nat}{x:α}(h:RdL o w (.slice (some ⟨b,0,none⟩) 1 1) [x]):∃cs,Cells w b 0 cs∧Rp.rd o w cs x:=by
 obtain⟨a,c,e,h1,h2,h4⟩:=h;obtain⟨b',off,cs,ha,ho,hl,hc,hr⟩:=h4 0 x rfl;cases e
 cases ha
 rw[Nat.zero_mul,Nat.add_zero] at hc;exact⟨cs,hc,hr⟩
end
end
section
open Go.RowKit
def putMany(zs:List Value)(j:Nat):List Value->List Value
  |[]=>zs
  |u::us=>putMany (zs.set j u) (j+1) us
theorem jC_:∀(us A M C:List Value),M.length=us.length->putMany (A++M++C) A.length us=A++us++C
 |[],A,M,C,h=>by
  have:M=[]:=List.eq_nil_of_length_eq_zero h;subst this;rfl
 | u::us,A,M,C,h=>by
  cases M with
  |nil=>simp at h
  |cons m M=>
   have h2:=jC_ us (A++[u]) M C (by simpa using h);simp only[putMany];have e:(A++m::M++C).set A.length u=A++[u]++M++C:=by simp
   rw[e];simpa using h2
section
variable {P:Program} {n:Nat} {l:List (Nat×Value)} {w w0:World} {o oo:Tg} {α:Type} [Rp α] {B k:Nat} {e:TypeId}
theorem hu_{g cap m sz:Nat}(hk:o g=k):∀(us:List Value)(i off:Nat)(w:World)(zs:List Value),w.ownsRow B e sz (.slice (some ⟨g,0,none⟩) m cap) m zs->off+i+us.length<=zs.length->
  (∀u∈us,u.oneCell'=true)->∃w',(storeCells ⟨g,off,none⟩ us i).run P w=.ok () w'∧w'.ownsRow B e sz (.slice (some ⟨g,0,none⟩) m cap) m (putMany zs (off+i) us)∧Stp k o w o w'
 |[],i,off,w,zs,h,_,_=>⟨w,by simp[storeCells],h,Stp.refl _ _ _⟩
 |u::us,i,off,w,zs,h,hl,h1=>by
  simp only[List.length_cons] at hl;have hcell:=h.cellAt (off+i) (by have:=h.1;omega);have hf:=h.frozenAt (off+i);obtain⟨g1,g2⟩:=h.stored (off+i) u;have hst:Stp k o w o (w.setCell ⟨g,off+i,none⟩ u):=nD_ hk;obtain⟨w',r1,r2,r3⟩:=hu_ hk us (i+1) off _ _ g1 (by simp;omega) (λx hx=>h1 x (by simp[hx]));have hs:=run_store P w ⟨g,off+i,none⟩ u .plain (h1 u (by simp));refine⟨w',?_,by simp only[putMany];rw[show off+i+1=off+(i+1) by omega];exact r2,hst.trans r3⟩;have ha:(⟨g,off,none⟩:Addr).add i=⟨g,off+i,none⟩:=by simp[Addr.add]
  have hz:zs[off+i]? =some (zs[off+i]'(by omega)):=List.getElem?_eq_getElem (by omega);simp only[storeCells,ha,Sem.run_bind,hs,hcell,hf,hz];simpa using r1
variable {d:Nat} {ty:TypeId} {ps:String} {af:Array Edge} {g:Option (Nat×Bool)} {R:Value->World->Prop}
end
end
end Go.Proofs.YtdbbeldgdgonfaaGreat
