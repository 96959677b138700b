/- Part 28 of what this claim rests on (pack.py). -/
import Derived.Test.YtdbbeldgdgonfaaGreatP15
import Derived.Test.YtdbbeldgdgonfaaGreatP27
namespace Go.Proofs.YtdbbeldgdgonfaaGreat
set_option linter.unusedSimpArgs false
set_option linter.unusedVariables false
section
theorem kW_{n:Nat}(h:n<=9223372036854775807):ck (n:Int)=some (n:Int):=F_ (by omega) (by omega)
def digs(L:Nat):Nat->Nat->List Int
  |0,_=>[]
  |n+1,k=>((k%L:Nat):Int)::digs L n (k/L)
def valN(L:Nat):List Int->Nat
  |[]=>0
  |a::c=>a.toNat+L*valN L c
theorem dO_(L:Nat):∀n k,(digs L n k).length=n
 |0,_=>rfl
 |n+1,k=>by unfold digs;rw[List.length_cons,dO_ L n]
theorem iN_(L:Nat):∀n k,digs L (n+1) k=digs L n k++[((k/L^n%L:Nat):Int)]
 |0,k=>by simp[digs]
 |n+1,k=>by
  have ih:=iN_ L n (k/L);rw[Nat.div_div_eq_div_mul] at ih;rw[show L^(n+1)=L*L^n by rw[Nat.pow_succ,Nat.mul_comm]];show((k%L:Nat):Int)::digs L (n+1) (k/L)=(((k%L:Nat):Int)::digs L n (k/L))++_;rw[ih];rfl
theorem kq_{L:Nat}:∀c:List Int,(∀a∈c,0<=a∧a<(L:Int))->digs L c.length (valN L c)=c
 |[],_=>rfl
 |a::c,h=>by
  have d:=h a (by simp);have ih:=kq_ c λx e=>h x (by simp[e]);have b:a.toNat<L:=by omega
  rw[List.length_cons];unfold digs valN;rw[Nat.add_mul_mod_self_left,Nat.mod_eq_of_lt b,Nat.add_mul_div_left _ _ (by omega),Nat.div_eq_of_lt b,Nat.zero_add,ih,Int.toNat_of_nonneg d.1]
theorem oZ_(L:Nat):∀(c:List Int)(a:Int),valN L (c++[a])=valN L c+a.toNat*L^c.length
 |[],a=>by simp[valN]
 |x::c,a=>by
  rw[List.cons_append,List.length_cons];unfold valN;rw[oZ_ L c a,Nat.mul_add,Nat.pow_succ,Nat.add_assoc];congr 2;rw[Nat.mul_comm (L^c.length) L,<-Nat.mul_assoc,<-Nat.mul_assoc,Nat.mul_comm L]
theorem gr_{L:Nat}:∀c:List Int,(∀a∈c,0<=a∧a<(L:Int))->valN L c<L^c.length
 |[],_=>by simp[valN]
 |a::c,h=>by
  have f:=h a (by simp);have ih:=gr_ c λx e=>h x (by simp[e]);have b:a.toNat<L:=by omega
  rw[List.length_cons,Nat.pow_succ];unfold valN;have d:L*(valN L c+1)<=L*L^c.length:=Nat.mul_le_mul_left L ih;rw[Nat.mul_add,Nat.mul_one] at d;rw[Nat.mul_comm (L^c.length) L];omega
theorem cT_{L k:Nat}(b:L<=8)(a:k<=4):L^k<=4096:=by
 have e:L^k<=8^k:=Nat.pow_le_pow_left b k;have d:8^k<=8^4:=Nat.pow_le_pow_right (by decide) a;omega
theorem di_{L:Nat}(a:L<=8):2^L<=256:=by
 have:2^L<=2^8:=Nat.pow_le_pow_right (by decide) a;omega
noncomputable def aftN(p:b_)(key:Nat):Nat:=bitsP (λb=>inG p.Nodes (digs p.Labels.toNat (p.Degree.toNat-1) key++[(b:Int)])) p.Labels.toNat
noncomputable def nsV(p:b_):ar_:=⟨p,(List.range (p.Labels.toNat^(p.Degree.toNat-1))).map λk=>((aftN p k:Nat):Int)⟩
theorem uF_(p:b_)(L e:Nat)(b:p.Labels=(L:Int))(a:L<=8)(g:e<=3):forN (ca_ p) e 0 1=some (.inl ((L^e:Nat):Int)):=by
 have:=dX_ (body:=ca_ p) (λj=>((L^j:Nat):Int)) e (λj f=>by
  have d:=cT_ (k:=j+1) a (by omega);unfold ca_;rw[b,show((L^j:Nat):Int)*(L:Int)=((L^(j+1):Nat):Int) by rw[Nat.pow_succ];exact(Int.natCast_mul _ _).symm,F_ (by omega) (by omega),sb])
 simpa using this
theorem sp_(p:b_)(L e a:Nat)(b:p.Labels=(L:Int))(i:1<=L)(h:a<=1000000):forN (bZ_ p) e 0 (List.replicate (e+1) 0,(a:Int))=some (.inl (digs L e a++[0],((a/L^e:Nat):Int))):=by
 have:=dX_ (body:=bZ_ p) (λj=>(digs L j a++List.replicate (e+1-j) 0,((a/L^j:Nat):Int))) e (λj g=>by
  have d:a/L^j/L<=a:=Nat.le_trans (Nat.div_le_self _ _) (Nat.div_le_self _ _);have f:List.replicate (e+1-j) (0:Int)=0::List.replicate (e+1-(j+1)) 0:=by
   rw[show e+1-j=(e+1-(j+1))+1 by omega,List.replicate_succ]
  unfold bZ_;simp only
  unfold rem quo;rw[b,if_neg (by omega),sb,f,ui_ _ _ _ _ (by rw[dO_]),sb,uU_ _ _ _ _ _ (by rw[dO_]),sb,if_neg (by omega),
   show((a/L^j:Nat):Int).tdiv (L:Int)=((a/L^j/L:Nat):Int) from rfl,kW_ (by omega),sb,
   show((a/L^j:Nat):Int).tmod (L:Int)=((a/L^j%L:Nat):Int) from rfl,iN_,List.append_assoc,List.singleton_append,Nat.pow_succ,Nat.div_div_eq_div_mul])
 simpa [digs,Nat.sub_self] using this
theorem vO_(d:Nat)(p:b_)(h:probB p=true)(u:p.Nodes.length<=1000000000)(v:p.Nodes.length<d)(L e a:Nat)(x:p.Labels=(L:Int))(o:p.Degree=((e+1:Nat):Int))(B:L<=8)(A:List Int)(n:a<A.length)(t:A[a]? =some 0):
  ∃y,forN (cb_ d p (a:Int)) L 0 (digs L e a++[0],A)=some (.inl (y,A.set a ((bitsP (λb=>inG p.Nodes (digs L e a++[(b:Int)])) L:Nat):Int))):=by
 have k:A.set a 0=A:=by
  refine List.ext_getElem? λi=>?_;rw[List.getElem?_set];by_cases e:a=i
  ·subst e;rw[if_pos rfl,if_pos n,t]
  ·rw[if_neg e]
 generalize q:(λb:Nat=>inG p.Nodes (digs L e a++[(b:Int)]))=P;have:=dX_ (body:=cb_ d p (a:Int)) (λj=>(digs L e a++[((j-1:Nat):Int)],A.set a ((bitsP P j:Nat):Int))) L (λj C=>by
  have s:=fd_ P j;have w:2^j<=256:=di_ (by omega);unfold cb_;simp only
  rw[o,show(((e+1:Nat):Int)-1)=(e:Int) by omega,F_ (by have:=dO_ L e a;omega) (by
   have:=aK_ h;omega),sb,ui_ _ _ _ _ (by rw[dO_]),sb,uU_ _ _ _ _ _ (by rw[dO_]),sb,
   vy_ d p h _ (by rw[List.length_append,dO_,o];rfl) u v,sb]
  by_cases g:srt (digs L e a++[(j:Int)])∈p.Nodes
  ·have f:P j:=by rw[<-q];exact g
   have m:ix (A.set a ((bitsP P j:Nat):Int)) (a:Int)=some ((bitsP P j:Nat):Int):=by
    rw[aY_,List.getElem?_set,if_pos rfl,if_pos n]
   rw[if_pos (decide_eq_true g),m,sb,eZ_ (by omega),sb,sb,py_ (by omega) (by omega),iM_ _ _ _ (by rw[List.length_set];exact n),sb,List.set_set,iP_ f,Nat.add_sub_cancel]
  ·have f:¬P j:=by rw[<-q];exact g
   rw[if_neg (by simpa using g),kz_ f,Nat.add_sub_cancel])
 refine⟨digs L e a++[((L-1:Nat):Int)],?_⟩;rw[<-this];simp[bitsP,k]
theorem se_(n a K:Nat)(f:Nat->Int)(g:a=K)(d:K<n):((List.range n).map λk=>if k<K then f k else 0).set a (f a)=(List.range n).map λk=>if k<K+1 then f k else 0:=by
 subst g;refine List.ext_getElem? λi=>?_;rw[List.getElem?_set];by_cases e:a=i
 ·subst e;simp[d]
 ·rw[if_neg e];by_cases hi:i<n
  ·simp only[List.getElem?_map,List.getElem?_range hi,Option.map_some];congr 1;by_cases b:i<a
   ·rw[if_pos b,if_pos (by omega)]
   ·rw[if_neg b,if_neg (by omega)]
  ·simp only[List.getElem?_map];rw[List.getElem?_eq_none (by simp;omega)];rfl
theorem nF_(a:Nat)(p:b_)(h:probB p=true)(q:p.Nodes.length<=1000000000)(x:p.Nodes.length<a):dW_ a p=some (nsV p):=by
 obtain⟨A,D,B,C,-,-⟩:=aK_ h;obtain⟨L,f⟩:∃L:Nat,p.Labels=(L:Int):=⟨p.Labels.toNat,by omega⟩;obtain⟨e,g⟩:∃e:Nat,p.Degree=((e+1:Nat):Int):=⟨p.Degree.toNat-1,by omega⟩;have n:=cT_ (L:=L) (k:=e) (by omega) (by omega);have s:nsV p=⟨p,(List.range (L^e)).map λk=>((aftN p k:Nat):Int)⟩:=by
  unfold nsV;rw[f,g,Int.toNat_natCast,Int.toNat_natCast,Nat.add_sub_cancel]
 have m:∀k,aftN p k=bitsP (λb=>inG p.Nodes (digs L e k++[(b:Int)])) L:=λk=>by
  unfold aftN;rw[f,g,Int.toNat_natCast,Int.toNat_natCast,Nat.add_sub_cancel]
 have d:=dX_ (body:=cZ_ a p) (λK=>(List.range (L^e)).map λk=>if k<K then((aftN p k:Nat):Int) else 0) (L^e) (λK j=>by
  obtain⟨y,u⟩:=vO_ a p h q x L e K f g (by omega) ((List.range (L^e)).map λk=>if k<K then((aftN p k:Nat):Int) else 0) (by simp;exact j) (by simp[j]);unfold cZ_ mk;rw[g,if_pos (by omega),sb,show(((e+1:Nat):Int)-1)=(e:Int) by omega,F_ (by omega) (by omega),sb,Int.toNat_natCast,Int.toNat_natCast];have v:=sp_ p L e K f (by omega) (by omega);rw[show(Rz.z:Int)=0 from rfl,show(ck (e:Int))=some (e:Int) from F_ (by omega) (by omega),sb,v,sb];simp only
  rw[f,F_ (by omega) (by omega),sb,Int.toNat_natCast,u,sb];simp only
  rw[<-m,se_ _ _ _ (λk=>((aftN p k:Nat):Int)) rfl j])
 unfold dW_ mk;rw[g,show(((e+1:Nat):Int)-1)=(e:Int) by omega,F_ (by omega) (by omega),sb,show(ck (e:Int))=some (e:Int) from F_ (by omega) (by omega),sb,Int.toNat_natCast,uF_ p L e f (by omega) (by omega),sb];simp only
 rw[if_pos (by omega),sb,List.length_replicate,Int.toNat_natCast,F_ (by omega) (by omega),sb,Int.toNat_natCast];have t:List.replicate (L^e) (Rz.z:Int)=(List.range (L^e)).map λk=>if k<0 then((aftN p k:Nat):Int) else 0:=by
  refine List.ext_getElem (by simp) λi F E=>?_;simp;rfl
 rw[t,d,sb,s];have o:((List.range (L^e)).map λk=>if k<L^e then((aftN p k:Nat):Int) else 0)=(List.range (L^e)).map λk=>((aftN p k:Nat):Int):=by
  refine List.map_congr_left λk w=>?_;rw[if_pos (List.mem_range.1 w)]
 rw[o,<-g]
theorem nQ_{P Q:Nat->Prop}(n:Nat):bitsP P n&&&bitsP Q n=bitsP (λb=>P b∧Q b) n:=by
 refine Nat.eq_of_testBit_eq λb=>?_;rw[Nat.testBit_and,Bool.eq_iff_iff,Bool.and_eq_true,fN_,fN_,fN_];exact⟨λ⟨a,d⟩=>⟨a.1,a.2,d.2⟩,λ⟨a,d,e⟩=>⟨⟨a,d⟩,a,e⟩⟩
theorem qc_{P:Nat->Prop}{n o:Nat}(f:o<2^n)(h:∀b,b<n->P b):o&&&bitsP P n=o:=by
 refine Nat.eq_of_testBit_eq λb=>?_;rw[Nat.testBit_and];cases e:o.testBit b
 ·rfl
 ·have a:b<n:=by
   refine Nat.lt_of_not_le λd=>?_;have:=Nat.testBit_lt_two_pow (Nat.lt_of_lt_of_le f (Nat.pow_le_pow_right (by decide) d));rw[this] at e;cases e
  rw[Bool.true_and];exact(fN_ P n b).2 ⟨a,h b a⟩
noncomputable def cmP(L:Nat)(N:List (List Int))(c0:List Int)(SS:List Nat):Nat:=bitsP (λb=>∀c,cho SS c->inG N (c0++c++[(b:Int)])) L
theorem tF_(L:Nat)(N:List (List Int))(a:List Nat):cmP L N [] a=cmpl L (inG N) a:=rfl
theorem tM_{S a L:Nat}(d:S<2^L)(h:S.testBit a=true):a<L:=by
 refine Nat.lt_of_not_le λb=>?_;have:=Nat.testBit_lt_two_pow (Nat.lt_of_lt_of_le d (Nat.pow_le_pow_right (by decide) b));rw[this] at h;cases h
theorem uk_(p:b_)(L e:Nat)(F:p.Labels=(L:Int))(R:p.Degree=((e+1:Nat):Int))(G:L<=8)(he:e<=3)(sets:List Int)(W:∀s∈sets,0<=s∧s.toNat<2^L)(H:sets.length=e):
  ∀(d k f:Nat)(g:List Int)(o:Nat),k+d=e->d<f->g.length=k->(∀a∈g,0<=a∧a<(L:Int))->o<2^L->
  aa_ f (k:Int) ((valN L g:Nat):Int) ((L^k:Nat):Int) sets (o:Int) (nsV p)=some (((o&&&cmP L p.Nodes g ((sets.drop k).map Int.toNat):Nat)):Int)
 | 0,k,f,g,o,hk,hf,A,n,O=>by
  obtain⟨f,rfl⟩:∃q,f=q+1:=⟨f-1,by omega⟩;have I:=di_ G;have J:=gr_ g n;rw[A,show k=e by omega] at J;have t:ix (nsV p).after ((valN L g:Nat):Int)=some ((cmP L p.Nodes g []:Nat):Int):=by
   unfold nsV;simp only
   rw[F,R,Int.toNat_natCast,Int.toNat_natCast,Nat.add_sub_cancel,aY_,List.getElem?_map,List.getElem?_range J,Option.map_some];unfold aftN cmP;rw[F,R,Int.toNat_natCast,Int.toNat_natCast,Nat.add_sub_cancel];congr 2;refine dy_ L λb _=>?_;have hd:=kq_ g n;rw[A,show k=e by omega] at hd;rw[hd];constructor
   ·intro h c v;cases c with
    |nil=>rwa [List.append_nil]
    |cons a c=>exact v.elim
   ·intro h;have:=h [] trivial;rwa [List.append_nil] at this
  have hb:=fd_ (λb=>∀c,cho [] c->inG p.Nodes (g++c++[(b:Int)])) L;unfold aa_;rw[if_pos (by simp;omega),t,sb,show sets.drop k=[] from List.drop_eq_nil_iff.2 (by omega),List.map_nil,jp_ (by omega) (by unfold cmP;omega)]
 | d+1,k,f,g,o,hk,hf,A,n,O=>by
  obtain⟨f,rfl⟩:∃q,f=q+1:=⟨f-1,by omega⟩;have I:=di_ G;have u:k<sets.length:=by omega
  obtain⟨S,X⟩:∃S:Nat,sets[k]=(S:Int):=⟨sets[k].toNat,by have:=W _ (List.getElem_mem u);omega⟩;have T:S<2^L:=by have:=(W _ (List.getElem_mem u)).2;rw[X,Int.toNat_natCast] at this;exact this
  have m:(sets.drop k).map Int.toNat=S::(sets.drop (k+1)).map Int.toNat:=by
   rw[List.drop_eq_getElem_cons u,List.map_cons,X,Int.toNat_natCast]
  generalize K:(sets.drop (k+1)).map Int.toNat=D at m;have J:=gr_ g n;rw[A] at J;have Q:=cT_ (L:=L) (k:=k) G (by omega);have Z:=cT_ (L:=L) (k:=k+1) G (by omega);have i:=dX_ (body:=aQ_ (k:Int) ((valN L g:Nat):Int) ((L^k:Nat):Int) sets (nsV p) (aa_ f)) (λj=>((o&&&bitsP (λb=>∀a:Nat,a<j->S.testBit a=true->∀c,cho D c->inG p.Nodes (g++[(a:Int)]++c++[(b:Int)])) L:Nat):Int)) L (λj hj=>by
   have y:(bitsP (λb=>∀a:Nat,a<j+1->S.testBit a=true->∀c,cho D c->inG p.Nodes (g++[(a:Int)]++c++[(b:Int)])) L)=bitsP (λb=>∀a:Nat,a<j->S.testBit a=true->∀c,cho D c->inG p.Nodes (g++[(a:Int)]++c++[(b:Int)])) L&&&bitsP (λb=>S.testBit j=true->∀c,cho D c->inG p.Nodes (g++[(j:Int)]++c++[(b:Int)])) L:=by
    rw[nQ_];refine dy_ L λb _=>?_;constructor
    ·exact λh=>⟨λa t=>h a (by omega),h j (by omega)⟩
    ·rintro⟨V,E⟩ a t;by_cases e:a=j
     ·subst e;exact E
     ·exact V a (by omega)
   rw[y,<-Nat.and_assoc];have w:o&&&bitsP (λb=>∀a:Nat,a<j->S.testBit a=true->∀c,cho D c->inG p.Nodes (g++[(a:Int)]++c++[(b:Int)])) L<2^L:=Nat.lt_of_le_of_lt Nat.and_le_left O;generalize (o&&&bitsP (λb=>∀a:Nat,a<j->S.testBit a=true->∀c,cho D c->inG p.Nodes (g++[(a:Int)]++c++[(b:Int)])) L)=o' at w ⊢;unfold aQ_;rw[hg_ _ _ u,sb,X,mU_ (by omega),sb,qL_ (by omega)];cases hb:S.testBit j
   ·rw[if_neg (by simp),sb,if_neg (by simp),qc_ w (by simp)]
   ·rw[if_pos rfl,sb];by_cases Y:o'=0
    ·subst Y;rw[if_neg (by simp),Nat.zero_and]
    ·have hjk:j*L^k<=8*4096:=Nat.mul_le_mul (by omega) Q;have C:((valN L g:Nat):Int)+(j:Int)*((L^k:Nat):Int)=((valN L (g++[(j:Int)]):Nat):Int):=by
      rw[oZ_,A,Int.toNat_natCast,Int.natCast_add,Int.natCast_mul]
     have B:((L^k:Nat):Int)*(L:Int)=((L^(k+1):Nat):Int):=by rw[Nat.pow_succ];exact(Int.natCast_mul _ _).symm
     have N:(j:Int)*((L^k:Nat):Int)=((j*L^k:Nat):Int):=(Int.natCast_mul _ _).symm;have x:∀a∈g++[(j:Int)],0<=a∧a<(L:Int):=λa t=>by
      rcases List.mem_append.1 t with t|t
      ·exact n a t
      ·rw[List.mem_singleton.1 t];omega
     have U:=gr_ _ x;rw[List.length_append,A,List.length_singleton] at U;rw[if_pos (by simpa using Y),F_ (by omega) (by omega),sb,show ck ((j:Int)*((L^k:Nat):Int))=some ((j:Int)*((L^k:Nat):Int)) from F_ (by omega) (by omega),sb,C,F_ (by omega) (by omega),sb,
      show(nsV p).p.Labels=(L:Int) from F,B,F_ (by omega) (by omega),sb,show((k:Int)+1)=((k+1:Nat):Int) by omega,
      uk_ p L e F R G he sets W H d (k+1) f (g++[(j:Int)]) o' (by omega) (by omega) (by rw[List.length_append,A];rfl) x w,sb,K]
     congr 4;unfold cmP;exact dy_ L λb _=>⟨λh _=>h,λh=>h rfl⟩)
  unfold aa_;rw[if_neg (by simp;omega),show(nsV p).p.Labels=(L:Int) from F,F_ (by omega) (by omega),sb,Int.toNat_natCast];rw[qc_ O (by simp)] at i;rw[i,sb,m];simp only
  congr 3;unfold cmP;refine dy_ L λb _=>?_;constructor
  ·intro h c v;cases c with
   |nil=>exact v.elim
   |cons a c=>
    obtain⟨⟨V,E⟩,M⟩:=v;have:=h a.toNat (tM_ T E) E c M;rw[Int.toNat_of_nonneg V,List.append_assoc g] at this;exact this
  ·intro h a t E c M;have:=h ((a:Int)::c) ⟨⟨by omega,by rw[Int.toNat_natCast];exact E⟩,M⟩;rw[List.append_assoc g [(a:Int)] c];exact this
theorem ka_(a:Nat)(p:b_)(h:probB p=true)(u:10<=a)(sets:List Int)(f:∀s∈sets,0<=s∧s.toNat<2^p.Labels.toNat)(g:(sets.length:Int)+1=p.Degree):bk_ a (nsV p) sets=some (cmI p.Labels.toNat p.Nodes sets):=by
 obtain⟨m,q,n,o,-,-⟩:=aK_ h;obtain⟨L,d⟩:∃L:Nat,p.Labels=(L:Int):=⟨p.Labels.toNat,by omega⟩;obtain⟨e,j⟩:∃e:Nat,p.Degree=((e+1:Nat):Int):=⟨p.Degree.toNat-1,by omega⟩;rw[d,Int.toNat_natCast] at f ⊢;have t:1<=2^L:=Nat.one_le_two_pow;have i:=di_ (L:=L) (by omega);have:=uk_ p L e d j (by omega) (by omega) sets f (by omega) e 0 a [] (2^L-1) (by omega) (by omega) rfl (by simp) (by omega);unfold bk_;rw[show(nsV p).p.Labels=(L:Int) from d,eZ_ (by omega),sb,show(((2^L:Nat):Int)-1)=((2^L-1:Nat):Int) by omega,F_ (by omega) (by omega),sb];rw[show((valN L []:Nat):Int)=0 from rfl,show((L^0:Nat):Int)=1 by simp,show((0:Nat):Int)=0 from rfl] at this;rw[this,sb,tF_,List.drop_zero];unfold cmI;congr 2;refine Nat.eq_of_testBit_eq λb=>?_;rw[Nat.testBit_and,Nat.testBit_two_pow_sub_one];cases k:(cmpl L (inG p.Nodes) (sets.map Int.toNat)).testBit b
 ·simp
 ·have:=((fN_ _ L b).1 k).1;simp[this]
theorem kr_(xs:List Int)(h:xs.length<=1000000000):at_ xs=some xs:=by
 unfold at_;rw[iJ_ _ h,sb]
theorem oy_{body:Int->Unit->Option (Lp Unit Unit Bool)}(B:Nat->Prop):∀(n k:Nat),(∀j,j<n->(B (k+j)∧body ((k+j:Nat):Int) ()=some (.go ()))∨(¬B (k+j)∧body ((k+j:Nat):Int) ()=some (.ret false)))->
  (forN body n (k:Int) ()=some (.inl ())∧∀j,j<n->B (k+j))∨(forN body n (k:Int) ()=some (.inr false)∧∃j,j<n∧¬B (k+j))
 |0,k,h=> .inl ⟨rfl,by simp⟩
 | n+1,k,h=>by
  rcases h 0 (by omega) with⟨b,a⟩|⟨b,a⟩
  ·simp only[Nat.add_zero] at b a;have ih:=oy_ (body:=body) B n (k+1) (λj f=>by have:=h (j+1) (by omega);rw[show k+(j+1)=k+1+j by omega] at this;exact this);simp only[forN,a];rw[show((k:Int)+1)=((k+1:Nat):Int) by omega];rcases ih with⟨d,e⟩|⟨d,j,e,g⟩
   ·refine .inl ⟨d,λj f=>?_⟩;cases j with
    |zero=>exact b
    |succ j=>have:=e j (by omega);rwa [show k+1+j=k+(j+1) by omega] at this
   ·exact .inr ⟨d,j+1,by omega,by rwa [show k+(j+1)=k+1+j by omega]⟩
  ·simp only[Nat.add_zero] at b a;refine .inr ⟨?_,0,by omega,b⟩;simp only[forN,a]
open Classical in
theorem vp_(fuel:Nat)(p:b_)(h:probB p=true)(hf:10<=fuel)(l:List Int)(hl:∀s∈l,0<=s∧s.toNat<2^p.Labels.toNat)(hlen:(l.length:Int)=p.Degree):cp_ fuel (nsV p) l=some (decide (fullI p.Labels.toNat p.Nodes l)):=by
  obtain⟨g1,g2,g3,g4,-,-⟩:=aK_ h
  have key:=oy_ (body:=bt_ fuel (nsV p) l) (λi=>∀x,l[i]? =some x->cmI p.Labels.toNat p.Nodes (l.eraseIdx i)=x) l.length 0 (λj hj=>by
    have hb:bt_ fuel (nsV p) l ((0+j:Nat):Int) ()=if cmI p.Labels.toNat p.Nodes (l.eraseIdx j) !=l[j] then some (.ret false) else some (.go ()):=by
      unfold bt_
      rw[Nat.zero_add,kr_ _ (by omega),sb,F_ (by omega) (by omega),sb]
      unfold delO
      rw[if_pos (by omega),sb,Int.toNat_natCast,show((j:Int)+1).toNat=j+1 by omega,<-List.eraseIdx_eq_take_drop_succ,ka_ fuel p h hf (l.eraseIdx j) (λs hs=>hl s (List.mem_of_mem_eraseIdx hs)) (by rw[List.length_eraseIdx,if_pos hj];omega),sb,hg_ _ _ hj,sb]
    rw[hb,Nat.zero_add,List.getElem?_eq_getElem hj]
    by_cases e:cmI p.Labels.toNat p.Nodes (l.eraseIdx j)=l[j]
    · exact .inl ⟨λx hx=>by cases hx;exact e,by rw[if_neg (by simpa using e)]⟩
    · exact .inr ⟨λhh=>e (hh _ rfl),by rw[if_pos (by simpa using e)]⟩)
  simp only[Nat.zero_add] at key
  rw[show((0:Nat):Int)=0 from rfl] at key
  unfold cp_
  rw[F_ (by omega) (by omega),sb,Int.toNat_natCast]
  rcases key with⟨h1,h2⟩|⟨h1,j,h2,h3⟩
  · rw[h1,sb]
    have:fullI p.Labels.toNat p.Nodes l:=λi x hx=>h2 i (List.getElem?_eq_some_iff.1 hx).1 x hx
    simp[this]
  · rw[h1,sb]
    have:¬fullI p.Labels.toNat p.Nodes l:=λhh=>h3 (hh j)
    simp[this]
theorem kU_(n d b:Nat)(L:n<=1000000)(K:d<=1000)(I:∀k,k<=d->n^k<=1000000000)(M:n+d<b):eq_ b (n:Int) (d:Int)=some (msD n d):=by
 have t:∀j,j<d->cP_ b (n:Int) (j:Int) (msD n j)=some (.go (msD n (j+1))):=λj N=>by
  have p:(msD n (j+1)).length<=1000000000:=Nat.le_trans (hp_ n (j+1)) (I (j+1) (by omega));have s:=fY_ (body:=dA_ b (n:Int)) (extD n) 1000000000 (msD n j) 0 [] (by simpa [msD] using p) (λx H k y g=>by
   have e:=(eQ_ n j x).1 H;have A:(x.getLastD 0).toNat<=n->∀(f:List (List Int)×Int->Option (Lp (List (List Int)×Int) (List (List Int)×Int) (List (List Int)))),(f=cY_ (n:Int) x∨f=cd_ (n:Int) x)->
     loopF f b (y,(((x.getLastD 0).toNat:Nat):Int))=some (.inl (y++extD n x,(n:Int))):=λG f m=>by
    unfold extD at g ⊢;rw[List.length_map,List.length_range'] at g;refine mV_ (x:=x) (n:=n) (λq k C B=>?_) (λq=>?_) _ _ b y (by omega) (by omega) g
    ·rcases m with rfl|rfl
     ·unfold cY_;simp only
      rw[if_pos (by simpa using C),kr_ x (by rw[e.1];omega),sb];unfold push;rw[if_pos (by rw[e.1];omega),sb,if_pos B,sb,F_ (by omega) (by omega),sb];rfl
     ·unfold cd_;simp only
      rw[if_pos (by simpa using C),kr_ x (by rw[e.1];omega),sb];unfold push;rw[if_pos (by rw[e.1];omega),sb,if_pos B,sb,F_ (by omega) (by omega),sb];rfl
    ·rcases m with rfl|rfl
     ·unfold cY_;simp only
      rw[if_neg (by simp)]
     ·unfold cd_;simp only
      rw[if_neg (by simp)]
   have D:=tr_ e;unfold dA_;by_cases F:0<j
   ·obtain⟨i,rfl⟩:∃i,j=i+1:=⟨j-1,by omega⟩;have J:x.getLastD 0<(n:Int):=by
     rcases List.eq_nil_or_concat x with rfl|⟨u,a,rfl⟩
     ·have:=e.1;simp at this
     ·have:=e.2.2 a (by simp);rw[List.concat_eq_append,List.getLastD_concat];exact this.2
    have E:=e.1;rw[if_pos (decide_eq_true (by omega)),F_ (by omega) (by omega),sb,show((x.length:Int)-1)=(i:Int) by omega,pJ_ e.1,sb];have o:=A (by omega) _ (.inl rfl);rw[Int.toNat_of_nonneg D] at o;rw[o,sb]
   ·have w:j=0:=by omega
    subst w;have v:x=[]:=List.eq_nil_of_length_eq_zero e.1;subst v;rw[if_neg (by simp)];have o:=A (by simp) (cd_ (n:Int) []) (.inr rfl);simp only[List.getLastD_nil,Int.toNat_zero,Int.natCast_zero] at o;rw[o,sb])
  unfold cP_;rw[s,sb];rfl
 have h:=dX_ (body:=cP_ b (n:Int)) (λj=>msD n j) d t;unfold eq_;rw[F_ (by omega) (by omega),sb,Int.toNat_natCast,show([[]]:List (List Int))=msD n 0 from rfl,h,sb]
end
section
def tabV(p:b_):bw_:=⟨p,(List.range (p.Labels.toNat^p.Degree.toNat)).map λn=>decide (srt (digs p.Labels.toNat p.Degree.toNat n)∈p.Nodes)⟩
theorem lw_{α:Type}(z:α)(n a K:Nat)(f:Nat->α)(g:a=K)(d:K<n):((List.range n).map λk=>if k<K then f k else z).set a (f a)=(List.range n).map λk=>if k<K+1 then f k else z:=by
 subst g;refine List.ext_getElem? λi=>?_;rw[List.getElem?_set];by_cases e:a=i
 ·subst e;simp[d]
 ·rw[if_neg e];by_cases hi:i<n
  ·simp only[List.getElem?_map,List.getElem?_range hi,Option.map_some];congr 1;by_cases b:i<a
   ·rw[if_pos b,if_pos (by omega)]
   ·rw[if_neg b,if_neg (by omega)]
  ·simp only[List.getElem?_map];rw[List.getElem?_eq_none (by simp;omega)];rfl
theorem rK_(p:b_)(L D n a:Nat)(i:p.Labels=(L:Int))(q:1<=L)(b:p.Degree=(D:Int))(d:D<=4)(k:n<=1000000)(m:10<=a):loopF (cH_ p) a ([],(n:Int))=some (.inl (digs L D n,((n/L^D:Nat):Int))):=by
 have h:=ce_ (f:=cH_ p) (λj=>(digs L j n,((n/L^j:Nat):Int))) D (λj o=>by
  have g:n/L^j/L<=n:=Nat.le_trans (Nat.div_le_self _ _) (Nat.div_le_self _ _);have e:=dO_ L j n;unfold cH_;simp only
  unfold rem quo push;rw[b,i,if_pos (by simp;omega),if_neg (by omega),sb,if_pos (by omega),sb,if_neg (by omega),show((n/L^j:Nat):Int).tdiv (L:Int)=((n/L^j/L:Nat):Int) from rfl,kW_ (by omega),sb,
   show((n/L^j:Nat):Int).tmod (L:Int)=((n/L^j%L:Nat):Int) from rfl,iN_,Nat.pow_succ,Nat.div_div_eq_div_mul]) (by
  unfold cH_;simp only
  rw[b,if_neg (by simp[dO_])]) a 0 (by omega) (by omega)
 simpa [digs] using h
theorem rT_(a:Nat)(y:100<=a)(p:b_)(s:1<=p.Labels∧p.Labels<=8)(t:0<=p.Degree∧p.Degree<=4):fV_ a p=some (tabV p):=by
 obtain⟨L,e⟩:∃L:Nat,p.Labels=(L:Int):=⟨p.Labels.toNat,by omega⟩;obtain⟨D,d⟩:∃D:Nat,p.Degree=(D:Int):=⟨p.Degree.toNat,by omega⟩;have m:=cT_ (L:=L) (k:=D) (by omega) (by omega);have h:=ce_ (f:=dk_ p) (λj=>(((L^j:Nat):Int),(j:Int))) D (λj u=>by
  have w:=cT_ (L:=L) (k:=j+1) (by omega) (by omega);unfold dk_;simp only
  rw[d,e,if_pos (by simpa using u),show((L^j:Nat):Int)*(L:Int)=((L^(j+1):Nat):Int) by rw[Nat.pow_succ];exact(Int.natCast_mul _ _).symm,F_ (by omega) (by omega),sb,F_ (by omega) (by omega),sb];rfl) (by
  unfold dk_;simp only
  rw[d,if_neg (by simp)]) a 0 (by omega) (by omega)
 have b:=dX_ (body:=dY_ a p) (λK=>(List.range (L^D)).map λk=>if k<K then decide (srt (digs L D k)∈p.Nodes) else false) (L^D) (λK g=>by
  have o:=dO_ L D K;unfold dY_;rw[rK_ p L D K a e (by omega) d (by omega) (by omega) (by omega),sb];simp only
  rw[uT_ a p _ (by omega) (by omega),sb,hg_ _ _ (by simp;exact g),sb,iM_ _ _ _ (by simp;exact g),sb,lw_ false _ _ _ (λk=>decide (srt (digs L D k)∈p.Nodes)) rfl g])
 unfold fV_ mk;rw[show((1:Int),(0:Int))=(((L^0:Nat):Int),((0:Nat):Int)) by simp,h,sb];simp only
 rw[if_pos (by omega),sb,List.length_replicate,Int.toNat_natCast,F_ (by omega) (by omega),sb,Int.toNat_natCast];have q:List.replicate (L^D) (Rz.z:Bool)=(List.range (L^D)).map λk=>if k<0 then decide (srt (digs L D k)∈p.Nodes) else false:=by
  refine List.ext_getElem (by simp) λi h x=>?_;simp;rfl
 rw[q,b,sb];unfold tabV;have n:((List.range (L^D)).map λk=>if k<L^D then decide (srt (digs L D k)∈p.Nodes) else false)=(List.range (L^D)).map λk=>decide (srt (digs L D k)∈p.Nodes):=by
  refine List.map_congr_left λk v=>?_;rw[if_pos (List.mem_range.1 v)]
 rw[n];simp only[e,d,Int.toNat_natCast];rw[<-e,<-d]
theorem ww_(p:b_)(L D:Nat)(g:p.Labels=(L:Int))(h:p.Degree=(D:Int))(c:List Int)(b:∀a∈c,0<=a∧a<(L:Int))(e:c.length=D):ix (tabV p).good ((valN L c:Nat):Int)=some (decide (srt c∈p.Nodes)):=by
 have f:=gr_ c b;rw[e] at f;have d:=kq_ c b;rw[e] at d;unfold tabV;simp only
 rw[g,h,Int.toNat_natCast,Int.toNat_natCast,aY_,List.getElem?_map,List.getElem?_range f,Option.map_some,d]
theorem tE_(p:b_)(L e i:Nat)(x:p.Labels=(L:Int))(G:p.Degree=((e+1:Nat):Int))(w:L<=8)(M:e<=3)(O:10<=i)(d:List Int)(y:d.length=e)(C:∀a∈d,0<=a∧a<(L:Int)):
  loopF (by_ (tabV p) ((valN L d.reverse:Nat):Int)) i (0,0)=some (.inl (((cmP L p.Nodes d []:Nat):Int),(L:Int))):=by
 have o:∀a∈d.reverse,0<=a∧a<(L:Int):=λa s=>C a (List.mem_reverse.1 s);have K:=gr_ _ o;rw[List.length_reverse,y] at K;have H:=cT_ (L:=L) (k:=e) w (by omega);have F:=cT_ (L:=L) (k:=e+1) w (by omega);generalize E:(λb:Nat=>∀c,cho [] c->inG p.Nodes (d++c++[(b:Int)]))=P;have q:∀b:Nat,P b<->srt ((b:Int)::d.reverse)∈p.Nodes:=λb=>by
  rw[<-E];have g:(d++[]++[(b:Int)]).Perm ((b:Int)::d.reverse):=by
   rw[List.append_nil];exact List.perm_append_comm.trans ((List.reverse_perm d).symm.cons (b:Int))
  constructor
  ·intro h;have:=h [] trivial;unfold inG at this;rwa [ib_ g] at this
  ·intro h c B;cases c with
   |nil=>unfold inG;rwa [ib_ g]
   |cons a c=>exact B.elim
 have h:=ce_ (f:=by_ (tabV p) ((valN L d.reverse:Nat):Int)) (λj=>(((bitsP P j:Nat):Int),(j:Int))) L (λj I=>by
  have v:=fd_ P j;have N:2^j<=256:=di_ (by omega);have m:∀a∈(j:Int)::d.reverse,0<=a∧a<(L:Int):=λa s=>by
   rcases List.mem_cons.1 s with rfl|s
   ·omega
   ·exact o a s
  have A:=gr_ _ m;rw[List.length_cons,List.length_reverse,y] at A;have t:((valN L d.reverse:Nat):Int)*(L:Int)+(j:Int)=((valN L ((j:Int)::d.reverse):Nat):Int):=by
   rw[show valN L ((j:Int)::d.reverse)=(j:Int).toNat+L*valN L d.reverse from rfl,Int.toNat_natCast,Int.natCast_add,Int.natCast_mul,Int.mul_comm,Int.add_comm]
  have D:valN L d.reverse*L<=4096*8:=Nat.mul_le_mul (by omega) w;have n:((valN L d.reverse:Nat):Int)*(L:Int)=((valN L d.reverse*L:Nat):Int):=(Int.natCast_mul _ _).symm;unfold by_;simp only
  rw[show(tabV p).p.Labels=(L:Int) from x,if_pos (by simpa using I),show ck (((valN L d.reverse:Nat):Int)*(L:Int))=some (((valN L d.reverse:Nat):Int)*(L:Int)) by rw[n];exact kW_ (by omega),sb,t,kW_ (by omega),sb,
   ww_ p L (e+1) x G _ m (by rw[List.length_cons,List.length_reverse,y]),sb]
  by_cases u:P j
  ·rw[if_pos (decide_eq_true ((q j).1 u)),eZ_ (by omega),sb,F_ (by omega) (by omega),sb,F_ (by omega) (by omega),sb,iP_ u,<-sO_ v];rfl
  ·rw[if_neg (by simpa using λJ=>u ((q j).2 J)),F_ (by omega) (by omega),sb,kz_ u];rfl) (by
  unfold by_;simp only
  rw[show(tabV p).p.Labels=(L:Int) from x,if_neg (by simp)]) i 0 (by omega) (by omega)
 rw[show((0:Int),(0:Int))=(((bitsP P 0:Nat):Int),((0:Nat):Int)) from rfl,h];unfold cmP;rw[E]
theorem vC_(p:b_)(L e:Nat)(G:p.Labels=(L:Int))(U:p.Degree=((e+1:Nat):Int))(D:L<=8)(T:e<=3):∀(sets:List Int)(d:Nat)(f:List Int),(∀s∈sets,0<=s∧s.toNat<2^L)->sets.length+20<d->f.length+sets.length=e->(∀a∈f,0<=a∧a<(L:Int))->
  aA_ d (tabV p) sets ((valN L f.reverse:Nat):Int)=some ((cmP L p.Nodes f (sets.map Int.toNat):Nat):Int)
 |[],d,f,N,O,J,n=>by
  obtain⟨d,rfl⟩:∃q,d=q+1:=⟨d-1,by omega⟩;unfold aA_;rw[if_pos (by rfl),tE_ p L e d G U D T (by simp at O;omega) f (by simpa using J) n,sb];rfl
 | S::sets,d,f,N,O,J,n=>by
  rw[List.length_cons] at O J;obtain⟨d,rfl⟩:∃q,d=q+1:=⟨d-1,by omega⟩;have X:=di_ D;have h1:1<=2^L:=Nat.one_le_two_pow;have W:=N S (by simp);have F:cF_ d S=some (lbs 8 S.toNat):=by
   have:=ip_ S.toNat d (by omega);rwa [Int.toNat_of_nonneg W.1] at this
  have Q:∀a∈f.reverse,0<=a∧a<(L:Int):=λa g=>n a (List.mem_reverse.1 g);have hv:=gr_ _ Q;rw[List.length_reverse] at hv;have hpk:=cT_ (L:=L) (k:=f.length) D (by omega);have R:valN L f.reverse*L<=4096*8:=Nat.mul_le_mul (by omega) D;have j:((valN L f.reverse:Nat):Int)*(L:Int)=((valN L f.reverse*L:Nat):Int):=(Int.natCast_mul _ _).symm;generalize A:sets.map Int.toNat=w;have v:∀(xs:List Int)(k:Int)(o:Nat),(∀a∈xs,a∈lbs 8 S.toNat)->o<2^L->forI (bL_ (tabV p) (S::sets) ((valN L f.reverse:Nat):Int) (aA_ d)) xs k (o:Int)=some (.inl ((o&&&bitsP (λb=>∀a∈xs,∀c,cho w c->inG p.Nodes (f++[a]++c++[(b:Int)])) L:Nat):Int)):=by
   intro xs
   induction xs with
   |nil=>
    intro k o _ I;rw[qc_ I (by simp)];rfl
   | cons a xs ih=>
    intro k o V I;obtain⟨i,rfl,hi8,B⟩:=nn_.1 (V a (by simp));have Y:i<L:=tM_ W.2 B;have E:∀x∈f++[(i:Int)],0<=x∧x<(L:Int):=λx m=>by
     rcases List.mem_append.1 m with m|m
     ·exact n x m
     ·rw[List.mem_singleton.1 m];omega
    have u:bitsP (λb=>∀a∈(i:Int)::xs,∀c,cho w c->inG p.Nodes (f++[a]++c++[(b:Int)])) L=cmP L p.Nodes (f++[(i:Int)]) w&&&bitsP (λb=>∀a∈xs,∀c,cho w c->inG p.Nodes (f++[a]++c++[(b:Int)])) L:=by
     unfold cmP;rw[nQ_];refine dy_ L λb _=>?_;constructor
     ·exact λh=>⟨h _ (by simp),λa g=>h a (by simp[g])⟩
     ·rintro⟨q1,q2⟩ a g;rcases List.mem_cons.1 g with rfl|g
      ·exact q1
      ·exact q2 a g
    have Z:bL_ (tabV p) (S::sets) ((valN L f.reverse:Nat):Int) (aA_ d) k (i:Int) (o:Int)=some (.go ((o&&&cmP L p.Nodes (f++[(i:Int)]) w:Nat):Int)):=by
     unfold bL_;by_cases M:o=0
     ·subst M;rw[if_neg (by simp),Nat.zero_and]
     ·have t:((valN L f.reverse:Nat):Int)*(L:Int)+(i:Int)=((valN L (f++[(i:Int)]).reverse:Nat):Int):=by
       rw[List.reverse_append,List.reverse_singleton,List.singleton_append];rw[show valN L ((i:Int)::f.reverse)=(i:Int).toNat+L*valN L f.reverse from rfl,Int.toNat_natCast,Int.natCast_add,Int.natCast_mul,Int.mul_comm,Int.add_comm]
      have hnn:valN L (f++[(i:Int)]).reverse<=4096*8+8:=by
       have:((valN L (f++[(i:Int)]).reverse:Nat):Int)=((valN L f.reverse*L:Nat):Int)+(i:Int):=by rw[<-t,j]
       omega
      have hcl:=fd_ (λb=>∀c,cho w c->inG p.Nodes (f++[(i:Int)]++c++[(b:Int)])) L;rw[if_pos (by simp;omega),uz_ _ (by simp),sb,List.tail_cons,show(tabV p).p.Labels=(L:Int) from G,show ck (((valN L f.reverse:Nat):Int)*(L:Int))=some (((valN L f.reverse:Nat):Int)*(L:Int)) by rw[j];exact kW_ (by omega),sb,t,kW_ (by omega),sb,
       vC_ p L e G U D T sets d (f++[(i:Int)]) (λs H=>N s (by simp[H])) (by omega) (by rw[List.length_append,List.length_singleton];omega) E,sb,A,jp_ (by omega) (by unfold cmP;omega)]
    simp only[forI,Z];rw[ih (k+1) _ (λa g=>V a (by simp[g])) (Nat.lt_of_le_of_lt Nat.and_le_left I),u,Nat.and_assoc]
  unfold aA_;rw[if_neg (by simp;omega),show(tabV p).p.Labels=(L:Int) from G,eZ_ (by omega),sb,show(((2^L:Nat):Int)-1)=((2^L-1:Nat):Int) by omega,F_ (by omega) (by omega),sb,show ix (S::sets) 0=some S from rfl,sb,F,sb,v _ 0 _ (λa g=>g) (by omega),sb];simp only
  congr 2;rw[List.map_cons,A];have C:∀z,z<2^L->(2^L-1)&&&z=z:=λz hz=>by
   refine Nat.eq_of_testBit_eq λb=>?_;rw[Nat.testBit_and,Nat.testBit_two_pow_sub_one];cases hb:z.testBit b
   ·simp
   ·have:=tM_ hz hb;simp[this]
  rw[C _ (fd_ _ L)];unfold cmP;refine dy_ L λb _=>?_;constructor
  ·intro h c y;obtain⟨a,c',rfl,g,K⟩:=(jx_ (by omega)).1 y;have:=h a g c' K;rw[List.append_assoc f] at this;exact this
  ·intro h a g c y;have:=h (a::c) ((jx_ (by omega)).2 ⟨a,c,rfl,g,y⟩);rw[List.append_assoc f [a] c];exact this
theorem ue_(a:Nat)(p:b_)(g:1<=p.Labels∧p.Labels<=8)(h:1<=p.Degree∧p.Degree<=4)(j:100<=a)(sets:List Int)(d:∀s∈sets,0<=s∧s.toNat<2^p.Labels.toNat)(b:(sets.length:Int)+1=p.Degree):aA_ a (tabV p) sets 0=some (cmI p.Labels.toNat p.Nodes sets):=by
 obtain⟨L,f⟩:∃L:Nat,p.Labels=(L:Int):=⟨p.Labels.toNat,by omega⟩;obtain⟨e,i⟩:∃e:Nat,p.Degree=((e+1:Nat):Int):=⟨p.Degree.toNat-1,by omega⟩;rw[f,Int.toNat_natCast] at d ⊢;have:=vC_ p L e f i (by omega) (by omega) sets a [] d (by omega) (by simp;omega) (by simp);rw[show((valN L ([]:List Int).reverse:Nat):Int)=0 from rfl] at this;rw[this,tF_];rfl
open Classical in
theorem wL_(fuel:Nat)(p:b_)(hL8:1<=p.Labels∧p.Labels<=8)(hD4:1<=p.Degree∧p.Degree<=4)(hf:100<=fuel)(l:List Int)(hl:∀s∈l,0<=s∧s.toNat<2^p.Labels.toNat)(hlen:(l.length:Int)=p.Degree):dw_ fuel (tabV p) l=some (decide (fullI p.Labels.toNat p.Nodes l)):=by
  have hstep:∀(j:Nat) x,l[j]? =some x->bK_ fuel (tabV p) l (j:Int) x ()=if cmI p.Labels.toNat p.Nodes (l.eraseIdx j) !=x then some (.ret false) else some (.go ()):=λj x hx=>by
    have hj:=(List.getElem?_eq_some_iff.1 hx).1
    have c1:cut l 0 (j:Int)=some (l.take j):=by
      unfold cut
      rw[if_pos (by omega)];simp
    have c2:cut l ((j+1:Nat):Int) l.length=some (l.drop (j+1)):=by
      unfold cut
      rw[if_pos (by omega)];simp
    unfold bK_
    rw[c1,sb,gs_ _ (by rw[List.length_take];omega),sb,F_ (by omega) (by omega),sb,show((j:Int)+1)=((j+1:Nat):Int) by omega,c2,sb]
    unfold cat
    rw[if_pos (by simp;omega),sb,<-List.eraseIdx_eq_take_drop_succ,ue_ fuel p hL8 hD4 hf (l.eraseIdx j) (λs hs=>hl s (List.mem_of_mem_eraseIdx hs)) (by rw[List.length_eraseIdx,if_pos hj];omega),sb]
  have key:=dF_ (body:=bK_ fuel (tabV p) l) (λk x=>if cmI p.Labels.toNat p.Nodes (l.eraseIdx k)=x then none else some false) l (λj x hx _=>by
    rw[hstep j x hx]
    by_cases e:cmI p.Labels.toNat p.Nodes (l.eraseIdx j)=x
    · simp[e,lpP]
    · simp[e,lpP])
  unfold dw_
  rw[key,sb]
  cases hc:firstP (λk x=>if cmI p.Labels.toNat p.Nodes (l.eraseIdx k)=x then none else some false) l 0 with
  | none=>
    have:fullI p.Labels.toNat p.Nodes l:=λi x hx=>by
      have:=df_.1 hc i x hx
      rw[Nat.zero_add] at this
      split at this
      · assumption
      · cases this
    simp[outP,this]
  | some r=>
    obtain⟨j,x,h1,h2⟩:=dI_ hc
    rw[Nat.zero_add] at h2
    split at h2
    · cases h2
    · rename_i hne
      cases h2
      have:¬fullI p.Labels.toNat p.Nodes l:=λhh=>hne (hh j x h1)
      simp[outP,this]
theorem mm_{ρ:Type}{f:Int->Int->List Int->Option (Lp (List Int) (List Int) ρ)}(b:∀k x s,f k x s=((ck (x+1))>>=λy=>(push s y)>>=λz=>some (.go z))):∀(c:List Int)(k:Int)(a:List Int),(∀y∈c,0<=y∧y<=1000)->a.length+c.length<=1000000000->forI f c k a=some (.inl (a++c.map (·+1)))
 |[],k,a,_,_=>by simp[forI]
 | y::c,k,a,d,h=>by
  rw[List.length_cons] at h;have i:=d y (by simp);have e:f k y a=some (.go (a++[y+1])):=by
   rw[b,F_ (by omega) (by omega),sb];unfold push;rw[if_pos (by omega),sb]
  simp only[forI,e];rw[mm_ b c (k+1) _ (λz g=>d z (by simp[g])) (by rw[List.length_append,List.length_singleton];omega),List.map_cons,List.append_assoc,List.singleton_append]
theorem ot_{α β γ:Type}(f:α->β)(g:β->List γ):∀xs:List α,(xs.map f).flatMap g=xs.flatMap λx=>g (f x)
 |[]=>rfl
 |x::xs=>by rw[List.map_cons,List.flatMap_cons,List.flatMap_cons,ot_ f g xs]
open Classical in
noncomputable def stepS(L:Nat)(N:List (List Int))(c:List Int):List (List Int):=if cmI L N (c.map (·+1))≠0∧(∀y∈c.map (·+1),y<=cmI L N (c.map (·+1)))∧fullI L N (c.map (·+1)++[cmI L N (c.map (·+1))]) then [c.map (·+1)++[cmI L N (c.map (·+1))]] else []
open Classical in
theorem vh_(fuel:Nat)(hf:1000000000<=fuel)(p:b_)(hL8:1<=p.Labels∧p.Labels<=8)(hD4:1<=p.Degree∧p.Degree<=4):hC_ fuel p=some (nodeV p):=by
  obtain⟨L,hL⟩:∃L:Nat,p.Labels=(L:Int):=⟨p.Labels.toNat,by omega⟩
  obtain⟨e,hD⟩:∃e:Nat,p.Degree=((e+1:Nat):Int):=⟨p.Degree.toNat-1,by omega⟩
  have hLt:p.Labels.toNat=L:=by omega
  have hDt:p.Degree.toNat-1=e:=by omega
  have h256:=di_ (L:=L) (by omega)
  have h1:1<=2^L:=Nat.one_le_two_pow
  have hpw:∀k,k<=e->(2^L-1)^k<=16777216:=λk hk=>by
    have q1:(2^L-1)^k<=256^k:=Nat.pow_le_pow_left (by omega) k
    have q2:256^k<=256^3:=Nat.pow_le_pow_right (by decide) (by omega)
    omega
  have hJ:fullS p=(msD (2^L-1) e).flatMap (stepS L p.Nodes):=by
    unfold fullS
    rw[hLt,hDt,ot_]
    congr 1
    funext c
    unfold stepS
    by_cases hh:cmI L p.Nodes (c.map (·+1))≠0∧(∀y∈c.map (·+1),y<=cmI L p.Nodes (c.map (·+1)))∧fullI L p.Nodes (c.map (·+1)++[cmI L p.Nodes (c.map (·+1))])
    · rw[if_pos hh,if_pos hh]
    · rw[if_neg hh,if_neg hh]
  have hSl:=nP_ p hL8.2 hD4.2
  have hok:=kt_ p ⟨by omega,hL8.2⟩ hD4.1
  unfold hC_ nodeV
  by_cases hc:p.Degree=4∧6<p.Labels
  · rw[if_pos (by simpa using hc.1),sb,if_pos (by simpa using hc.2),if_pos hc]
  · rw[if_neg hc]
    have hq:(if(p.Degree==4)=true then some (decide (p.Labels>6)) else some false)=some false:=by
      by_cases h4:p.Degree=4
      · rw[if_pos (by simpa using h4)]
        have:¬p.Labels>6:=λh6=>hc ⟨h4,h6⟩
        simp[this]
      · rw[if_neg (by simpa using h4)]
    have hloop:=fY_ (body:=fs_ fuel (tabV p)) (stepS L p.Nodes) 1000000000 (msD (2^L-1) e) 0 [] (by rw[<-hJ];simp;omega) (λc hcm j ac hac=>by
      obtain⟨m1,m2,m3⟩:=(eQ_ _ _ _).1 hcm
      have hlin:∀s∈c.map (·+1),0<=s∧s.toNat<2^L:=λs hs=>by
        obtain⟨y,hy,rfl⟩:=List.mem_map.1 hs
        have:=m3 y hy
        omega
      have hsor:(c.map (·+1)).Pairwise (·<=·):=by
        rw[List.pairwise_map]
        exact m2.imp λ{a b} h=>by omega
      have hcmp:=ue_ fuel p hL8 hD4 (by omega) (c.map (·+1)) (by rw[hLt];exact hlin) (by rw[List.length_map,m1,hD];omega)
      rw[hLt] at hcmp
      have hcin:=ru_ L p.Nodes (c.map (·+1))
      have hcin2:(cmI L p.Nodes (c.map (·+1))).toNat<2^L:=by
        have h2:((2^L:Nat):Int)=(2:Int)^L:=by simp
        omega
      have hif:=wL_ fuel p hL8 hD4 (by omega) (c.map (·+1)++[cmI L p.Nodes (c.map (·+1))]) (by
        rw[hLt]
        intro s hs
        rcases List.mem_append.1 hs with hs|hs
        · exact hlin s hs
        · rw[List.mem_singleton.1 hs];exact⟨hcin.1,hcin2⟩) (by rw[List.length_append,List.length_map,m1,hD];rfl)
      rw[hLt] at hif
      have hpl:=mm_ (f:=gh_) (λk x s=>rfl) c 0 [] (λy hy=>by have:=m3 y hy;omega) (by simp;omega)
      rw[List.nil_append] at hpl
      have hml:(c.map (·+1)).length=e:=by rw[List.length_map,m1]
      unfold stepS at hac ⊢
      unfold fs_
      rw[hpl,sb]
      simp only
      rw[hcmp,sb]
      generalize cmI L p.Nodes (c.map (·+1))=z at hif hac ⊢
      generalize c.map (·+1)=l at hif hac hml hsor ⊢
      by_cases hz:z=0
      · rw[if_pos (by simpa using hz),sb,if_pos rfl,if_neg (λhh=>hh.1 hz),List.append_nil]
      · rw[if_neg (by simpa using hz)]
        have hlast:(if decide ((l.length:Int)>0)=true then(ck ((l.length:Int)-1))>>=λx193=>(ix l x193)>>=λx194=>some (decide (z<x194)) else some false)=some (decide (¬∀y∈l,y<=z)):=by
          cases e with
          | zero=>
            have:l=[]:=List.eq_nil_of_length_eq_zero hml
            subst this
            simp
          | succ e=>
            rw[if_pos (by simp;omega),F_ (by omega) (by omega),sb,show((l.length:Int)-1)=(e:Int) by omega,pJ_ hml,sb]
            congr 1
            have hge:=sK_ hsor
            have hmem:l.getLastD 0∈l:=by
              rcases List.eq_nil_or_concat l with rfl|⟨u,a,rfl⟩
              · simp at hml
              · rw[List.concat_eq_append,List.getLastD_concat];simp
            by_cases hlt:z<l.getLastD 0
            · have:¬∀y∈l,y<=z:=λhh=>by have:=hh _ hmem;omega
              rw[decide_eq_true hlt,decide_eq_true this]
            · have:∀y∈l,y<=z:=λy hy=>by have:=hge y hy;omega
              rw[decide_eq_false hlt,decide_eq_false (λhh=>hh this)]
        rw[hlast,sb]
        by_cases hle:∀y∈l,y<=z
        · rw[if_neg (by simpa using hle)]
          unfold push
          rw[if_pos (by omega),sb,hif,sb]
          by_cases hfl:fullI L p.Nodes (l++[z])
          · rw[if_pos ⟨hz,hle,hfl⟩,List.length_singleton] at hac
            rw[if_pos (decide_eq_true hfl),if_pos (by omega),sb,if_pos ⟨hz,hle,hfl⟩]
          · rw[if_neg (by simpa using hfl),if_neg (λhh=>hfl hh.2.2),List.append_nil]
        · rw[if_pos (decide_eq_true hle),if_neg (λhh=>hle hh.2.1),List.append_nil])
    rw[<-hJ,List.nil_append] at hloop
    rw[hq,sb,if_neg (by simp),rT_ fuel (by omega) p hL8 ⟨by omega,hD4.2⟩,sb,hL,eZ_ (by omega),sb,show(((2^L:Nat):Int)-1)=((2^L-1:Nat):Int) by omega,F_ (by omega) (by omega),sb,hD,show(((e+1:Nat):Int)-1)=(e:Int) by omega,F_ (by omega) (by omega),sb,
      lh_ (2^L-1) e fuel (by omega) (by omega) (λk hk=>by have:=hpw k hk;omega) (by omega),sb,hloop,sb]
    simp only
    rw[rl_ (d:=p.Degree.toNat) (by omega) fuel hf p (fullS p) false ⟨by omega,hD4.2⟩ hok (by omega),sb]
theorem kf_(a:Nat)(d:1000000000<=a)(p:b_)(h:probB p=true)(t:p.Nodes.length<=100000000)(u:p.Edges.length<=100000000):cS_ a p=some (roundV p):=by
 obtain⟨o,i,q,g,-,-⟩:=aK_ h;have b:fT_ a p=some (edgeV p):=by
  unfold fT_;rw[jr_ a (by omega) p (by omega) (by omega),sb,h,if_neg (by simp),uI_ a d p ⟨by omega,i⟩ ⟨by omega,g⟩,sb]
 unfold cS_ roundV;rw[b,sb];cases k:(edgeV p).2.2
 ·rw[if_pos (by rfl),if_neg (by simp)]
 ·obtain⟨f,x,y,s⟩:=jO_ p h k;obtain⟨n,j,m,e,-,-⟩:=aK_ f;rw[if_neg (by simp),if_pos rfl,vh_ a d _ ⟨n,j⟩ ⟨m,e⟩,sb];cases v:(nodeV (edgeV p).1).2.2
  ·rw[if_pos (by rfl),if_neg (by simp)]
  ·rw[if_neg (by simp),if_pos rfl]
end
end Go.Proofs.YtdbbeldgdgonfaaGreat
