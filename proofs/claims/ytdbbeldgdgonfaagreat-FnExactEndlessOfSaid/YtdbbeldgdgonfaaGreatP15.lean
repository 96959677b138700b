/- Part 15 of what this claim rests on (Elf, Kds), packed by pack.py. -/
import Derived.Test.YtdbbeldgdgonfaaGreatP03
import Derived.Test.YtdbbeldgdgonfaaGreatP07
import Derived.Test.YtdbbeldgdgonfaaGreatP10
import Derived.Test.YtdbbeldgdgonfaaGreatP12
import Derived.Test.YtdbbeldgdgonfaaGreatP14
namespace Go.Proofs.YtdbbeldgdgonfaaGreat
set_option linter.unusedSimpArgs false
set_option linter.unusedVariables false
section
theorem jF_{n:Nat}(h:n<=9223372036854775807):ck (n:Int)=some (n:Int):=F_ (by omega) (by omega)
def digs(L:Nat):Nat->Nat->List Int
  |0,_=>[]
  |n+1,k=>((k%L:Nat):Int)::digs L n (k/L)
def valN(L:Nat):List Int->Nat
  |[]=>0
  |a::c=>a.toNat+L*valN L c
theorem dr_(L:Nat):∀n k,(digs L n k).length=n
 |0,_=>rfl
 |n+1,k=>by unfold digs;rw[List.length_cons,dr_ L n]
theorem ir_(L:Nat):∀n k,digs L (n+1) k=digs L n k++[((k/L^n%L:Nat):Int)]
 |0,k=>by simp[digs]
 |n+1,k=>by
  have ih:=ir_ L n (k/L);rw[Nat.div_div_eq_div_mul] at ih;rw[show L^(n+1)=L*L^n by rw[Nat.pow_succ,Nat.mul_comm]];show((k%L:Nat):Int)::digs L (n+1) (k/L)=(((k%L:Nat):Int)::digs L n (k/L))++_;rw[ih];rfl
theorem jk_{L:Nat}:∀c:List Int,(∀a∈c,0<=a∧a<(L:Int))->digs L c.length (valN L c)=c
 |[],_=>rfl
 |a::c,h=>by
  have ha:=h a (by simp);have ih:=jk_ c λx hx=>h x (by simp[hx]);have hlt:a.toNat<L:=by omega
  rw[List.length_cons];unfold digs valN;rw[Nat.add_mul_mod_self_left,Nat.mod_eq_of_lt hlt,Nat.add_mul_div_left _ _ (by omega),Nat.div_eq_of_lt hlt,Nat.zero_add,ih,Int.toNat_of_nonneg ha.1]
theorem nl_(L:Nat):∀(c:List Int)(a:Int),valN L (c++[a])=valN L c+a.toNat*L^c.length
 |[],a=>by simp[valN]
 |x::c,a=>by
  rw[List.cons_append,List.length_cons];unfold valN;rw[nl_ L c a,Nat.mul_add,Nat.pow_succ,Nat.add_assoc];congr 2;rw[Nat.mul_comm (L^c.length) L,<-Nat.mul_assoc,<-Nat.mul_assoc,Nat.mul_comm L]
theorem fB_{L:Nat}:∀c:List Int,(∀a∈c,0<=a∧a<(L:Int))->valN L c<L^c.length
 |[],_=>by simp[valN]
 |a::c,h=>by
  have ha:=h a (by simp);have ih:=fB_ c λx hx=>h x (by simp[hx]);have hlt:a.toNat<L:=by omega
  rw[List.length_cons,Nat.pow_succ];unfold valN;have h1:L*(valN L c+1)<=L*L^c.length:=Nat.mul_le_mul_left L ih;rw[Nat.mul_add,Nat.mul_one] at h1;rw[Nat.mul_comm (L^c.length) L];omega
theorem cF_{L k:Nat}(hL:L<=8)(hk:k<=4):L^k<=4096:=by
 have h1:L^k<=8^k:=Nat.pow_le_pow_left hL k;have h2:8^k<=8^4:=Nat.pow_le_pow_right (by decide) hk;omega
theorem cR_{L:Nat}(hL:L<=8):2^L<=256:=by
 have:2^L<=2^8:=Nat.pow_le_pow_right (by decide) hL;omega
noncomputable def aftN(p:c_)(key:Nat):Nat:=bitsP (λb=>inG p.Nodes (digs p.Labels.toNat (p.Degree.toNat-1) key++[(b:Int)])) p.Labels.toNat
noncomputable def nsV(p:c_):al_:=⟨p,(List.range (p.Labels.toNat^(p.Degree.toNat-1))).map λk=>((aftN p k:Nat):Int)⟩
theorem rK_(p:c_)(L e:Nat)(hL:p.Labels=(L:Int))(h8:L<=8)(he:e<=3):forN (bR_ p) e 0 1=some (.inl ((L^e:Nat):Int)):=by
 have:=dW_ (body:=bR_ p) (λj=>((L^j:Nat):Int)) e (λj hj=>by
  have hb:=cF_ (k:=j+1) h8 (by omega);unfold bR_;rw[hL,show((L^j:Nat):Int)*(L:Int)=((L^(j+1):Nat):Int) by rw[Nat.pow_succ];exact(Int.natCast_mul _ _).symm,F_ (by omega) (by omega),sb])
 simpa using this
theorem ry_(p:c_)(L e key:Nat)(hL:p.Labels=(L:Int))(h1:1<=L)(hk:key<=1000000):forN (bO_ p) e 0 (List.replicate (e+1) 0,(key:Int))=some (.inl (digs L e key++[0],((key/L^e:Nat):Int))):=by
 have:=dW_ (body:=bO_ p) (λj=>(digs L j key++List.replicate (e+1-j) 0,((key/L^j:Nat):Int))) e (λj hj=>by
  have hle:key/L^j/L<=key:=Nat.le_trans (Nat.div_le_self _ _) (Nat.div_le_self _ _);have hr:List.replicate (e+1-j) (0:Int)=0::List.replicate (e+1-(j+1)) 0:=by
   rw[show e+1-j=(e+1-(j+1))+1 by omega,List.replicate_succ]
  unfold bO_;simp only
  unfold rem quo;rw[hL,if_neg (by omega),sb,hr,qx_ _ _ _ _ (by rw[dr_]),sb,rR_ _ _ _ _ _ (by rw[dr_]),sb,if_neg (by omega),
   show((key/L^j:Nat):Int).tdiv (L:Int)=((key/L^j/L:Nat):Int) from rfl,jF_ (by omega),sb,
   show((key/L^j:Nat):Int).tmod (L:Int)=((key/L^j%L:Nat):Int) from rfl,ir_,List.append_assoc,List.singleton_append,Nat.pow_succ,Nat.div_div_eq_div_mul])
 simpa [digs,Nat.sub_self] using this
theorem tr_(fuel:Nat)(p:c_)(h:probB p=true)(hJ:p.Nodes.length<=1000000000)(hf:p.Nodes.length<fuel)(L e key:Nat)(hL:p.Labels=(L:Int))(hD:p.Degree=((e+1:Nat):Int))(h8:L<=8)(A:List Int)(hk:key<A.length)(h0:A[key]? =some 0):
  ∃y,forN (bQ_ fuel p (key:Int)) L 0 (digs L e key++[0],A)=some (.inl (y,A.set key ((bitsP (λb=>inG p.Nodes (digs L e key++[(b:Int)])) L:Nat):Int))):=by
 have hA0:A.set key 0=A:=by
  refine List.ext_getElem? λi=>?_;rw[List.getElem?_set];by_cases e:key=i
  ·subst e;rw[if_pos rfl,if_pos hk,h0]
  ·rw[if_neg e]
 generalize hP:(λb:Nat=>inG p.Nodes (digs L e key++[(b:Int)]))=P;have:=dW_ (body:=bQ_ fuel p (key:Int)) (λj=>(digs L e key++[((j-1:Nat):Int)],A.set key ((bitsP P j:Nat):Int))) L (λj hj=>by
  have hlt:=et_ P j;have h2:2^j<=256:=cR_ (by omega);unfold bQ_;simp only
  rw[hD,show(((e+1:Nat):Int)-1)=(e:Int) by omega,F_ (by have:=dr_ L e key;omega) (by
   have:=aH_ h;omega),sb,qx_ _ _ _ _ (by rw[dr_]),sb,rR_ _ _ _ _ _ (by rw[dr_]),sb,
   sL_ fuel p h _ (by rw[List.length_append,dr_,hD];rfl) hJ hf,sb]
  by_cases hn:srt (digs L e key++[(j:Int)])∈p.Nodes
  ·have hPj:P j:=by rw[<-hP];exact hn
   have hix:ix (A.set key ((bitsP P j:Nat):Int)) (key:Int)=some ((bitsP P j:Nat):Int):=by
    rw[ca_,List.getElem?_set,if_pos rfl,if_pos hk]
   rw[if_pos (decide_eq_true hn),hix,sb,eq_ (by omega),sb,sb,ny_ (by omega) (by omega),iW_ _ _ _ (by rw[List.length_set];exact hk),sb,List.set_set,ii_ hPj,Nat.add_sub_cancel]
  ·have hPj:¬P j:=by rw[<-hP];exact hn
   rw[if_neg (by simpa using hn),jr_ hPj,Nat.add_sub_cancel])
 refine⟨digs L e key++[((L-1:Nat):Int)],?_⟩;rw[<-this];simp[bitsP,hA0]
theorem pz_(n key K:Nat)(f:Nat->Int)(hk:key=K)(hn:K<n):((List.range n).map λk=>if k<K then f k else 0).set key (f key)=(List.range n).map λk=>if k<K+1 then f k else 0:=by
 subst hk;refine List.ext_getElem? λi=>?_;rw[List.getElem?_set];by_cases e:key=i
 ·subst e;simp[hn]
 ·rw[if_neg e];by_cases hi:i<n
  ·simp only[List.getElem?_map,List.getElem?_range hi,Option.map_some];congr 1;by_cases h1:i<key
   ·rw[if_pos h1,if_pos (by omega)]
   ·rw[if_neg h1,if_neg (by omega)]
  ·simp only[List.getElem?_map];rw[List.getElem?_eq_none (by simp;omega)];rfl
theorem le_(fuel:Nat)(p:c_)(h:probB p=true)(hJ:p.Nodes.length<=1000000000)(hf:p.Nodes.length<fuel):dB_ fuel p=some (nsV p):=by
 obtain⟨g1,g2,g3,g4,-,-⟩:=aH_ h;obtain⟨L,hL⟩:∃L:Nat,p.Labels=(L:Int):=⟨p.Labels.toNat,by omega⟩;obtain⟨e,hD⟩:∃e:Nat,p.Degree=((e+1:Nat):Int):=⟨p.Degree.toNat-1,by omega⟩;have hpw:=cF_ (L:=L) (k:=e) (by omega) (by omega);have ha:nsV p=⟨p,(List.range (L^e)).map λk=>((aftN p k:Nat):Int)⟩:=by
  unfold nsV;rw[hL,hD,Int.toNat_natCast,Int.toNat_natCast,Nat.add_sub_cancel]
 have haf:∀k,aftN p k=bitsP (λb=>inG p.Nodes (digs L e k++[(b:Int)])) L:=λk=>by
  unfold aftN;rw[hL,hD,Int.toNat_natCast,Int.toNat_natCast,Nat.add_sub_cancel]
 have hloop:=dW_ (body:=cH_ fuel p) (λK=>(List.range (L^e)).map λk=>if k<K then((aftN p k:Nat):Int) else 0) (L^e) (λK hK=>by
  obtain⟨y,hy⟩:=tr_ fuel p h hJ hf L e K hL hD (by omega) ((List.range (L^e)).map λk=>if k<K then((aftN p k:Nat):Int) else 0) (by simp;exact hK) (by simp[hK]);unfold cH_ mk;rw[hD,if_pos (by omega),sb,show(((e+1:Nat):Int)-1)=(e:Int) by omega,F_ (by omega) (by omega),sb,Int.toNat_natCast,Int.toNat_natCast];have hd:=ry_ p L e K hL (by omega) (by omega);rw[show(Rz.z:Int)=0 from rfl,show(ck (e:Int))=some (e:Int) from F_ (by omega) (by omega),sb,hd,sb];simp only
  rw[hL,F_ (by omega) (by omega),sb,Int.toNat_natCast,hy,sb];simp only
  rw[<-haf,pz_ _ _ _ (λk=>((aftN p k:Nat):Int)) rfl hK])
 unfold dB_ mk;rw[hD,show(((e+1:Nat):Int)-1)=(e:Int) by omega,F_ (by omega) (by omega),sb,show(ck (e:Int))=some (e:Int) from F_ (by omega) (by omega),sb,Int.toNat_natCast,rK_ p L e hL (by omega) (by omega),sb];simp only
 rw[if_pos (by omega),sb,List.length_replicate,Int.toNat_natCast,F_ (by omega) (by omega),sb,Int.toNat_natCast];have hr:List.replicate (L^e) (Rz.z:Int)=(List.range (L^e)).map λk=>if k<0 then((aftN p k:Nat):Int) else 0:=by
  refine List.ext_getElem (by simp) λi h1 h2=>?_;simp;rfl
 rw[hr,hloop,sb,ha];have he:((List.range (L^e)).map λk=>if k<L^e then((aftN p k:Nat):Int) else 0)=(List.range (L^e)).map λk=>((aftN p k:Nat):Int):=by
  refine List.map_congr_left λk hk=>?_;rw[if_pos (List.mem_range.1 hk)]
 rw[he,<-hD]
theorem mL_{P Q:Nat->Prop}(n:Nat):bitsP P n&&&bitsP Q n=bitsP (λb=>P b∧Q b) n:=by
 refine Nat.eq_of_testBit_eq λb=>?_;rw[Nat.testBit_and,Bool.eq_iff_iff,Bool.and_eq_true,eT_,eT_,eT_];exact⟨λ⟨h1,h2⟩=>⟨h1.1,h1.2,h2.2⟩,λ⟨h1,h2,h3⟩=>⟨⟨h1,h2⟩,h1,h3⟩⟩
theorem nI_{P:Nat->Prop}{n o:Nat}(ho:o<2^n)(h:∀b,b<n->P b):o&&&bitsP P n=o:=by
 refine Nat.eq_of_testBit_eq λb=>?_;rw[Nat.testBit_and];cases hb:o.testBit b
 ·rfl
 ·have hlt:b<n:=by
   refine Nat.lt_of_not_le λhle=>?_;have:=Nat.testBit_lt_two_pow (Nat.lt_of_lt_of_le ho (Nat.pow_le_pow_right (by decide) hle));rw[this] at hb;cases hb
  rw[Bool.true_and];exact(eT_ P n b).2 ⟨hlt,h b hlt⟩
noncomputable def cmP(L:Nat)(N:List (List Int))(c0:List Int)(SS:List Nat):Nat:=bitsP (λb=>∀c,cho SS c->inG N (c0++c++[(b:Int)])) L
theorem qz_(L:Nat)(N:List (List Int))(SS:List Nat):cmP L N [] SS=cmpl L (inG N) SS:=rfl
theorem rn_{S a L:Nat}(hS:S<2^L)(h:S.testBit a=true):a<L:=by
 refine Nat.lt_of_not_le λhle=>?_;have:=Nat.testBit_lt_two_pow (Nat.lt_of_lt_of_le hS (Nat.pow_le_pow_right (by decide) hle));rw[this] at h;cases h
theorem pW_(p:c_)(L e:Nat)(hL:p.Labels=(L:Int))(hD:p.Degree=((e+1:Nat):Int))(h8:L<=8)(he:e<=3)(sets:List Int)(hs:∀s∈sets,0<=s∧s.toNat<2^L)(hlen:sets.length=e):
  ∀(d k fuel:Nat)(c0:List Int)(o:Nat),k+d=e->d<fuel->c0.length=k->(∀a∈c0,0<=a∧a<(L:Int))->o<2^L->
  X_ fuel (k:Int) ((valN L c0:Nat):Int) ((L^k:Nat):Int) sets (o:Int) (nsV p)=some (((o&&&cmP L p.Nodes c0 ((sets.drop k).map Int.toNat):Nat)):Int)
 | 0,k,fuel,c0,o,hk,hf,hc,hin,ho=>by
  obtain⟨fuel,rfl⟩:∃q,fuel=q+1:=⟨fuel-1,by omega⟩;have h256:=cR_ h8;have hv:=fB_ c0 hin;rw[hc,show k=e by omega] at hv;have ha:ix (nsV p).after ((valN L c0:Nat):Int)=some ((cmP L p.Nodes c0 []:Nat):Int):=by
   unfold nsV;simp only
   rw[hL,hD,Int.toNat_natCast,Int.toNat_natCast,Nat.add_sub_cancel,ca_,List.getElem?_map,List.getElem?_range hv,Option.map_some];unfold aftN cmP;rw[hL,hD,Int.toNat_natCast,Int.toNat_natCast,Nat.add_sub_cancel];congr 2;refine dm_ L λb _=>?_;have hd:=jk_ c0 hin;rw[hc,show k=e by omega] at hd;rw[hd];constructor
   ·intro h c hcc;cases c with
    |nil=>rwa [List.append_nil]
    |cons a c=>exact hcc.elim
   ·intro h;have:=h [] trivial;rwa [List.append_nil] at this
  have hb:=et_ (λb=>∀c,cho [] c->inG p.Nodes (c0++c++[(b:Int)])) L;unfold X_;rw[if_pos (by simp;omega),ha,sb,show sets.drop k=[] from List.drop_eq_nil_iff.2 (by omega),List.map_nil,hW_ (by omega) (by unfold cmP;omega)]
 | d+1,k,fuel,c0,o,hk,hf,hc,hin,ho=>by
  obtain⟨fuel,rfl⟩:∃q,fuel=q+1:=⟨fuel-1,by omega⟩;have h256:=cR_ h8;have hkl:k<sets.length:=by omega
  obtain⟨S,hS⟩:∃S:Nat,sets[k]=(S:Int):=⟨sets[k].toNat,by have:=hs _ (List.getElem_mem hkl);omega⟩;have hS2:S<2^L:=by have:=(hs _ (List.getElem_mem hkl)).2;rw[hS,Int.toNat_natCast] at this;exact this
  have hdrop:(sets.drop k).map Int.toNat=S::(sets.drop (k+1)).map Int.toNat:=by
   rw[List.drop_eq_getElem_cons hkl,List.map_cons,hS,Int.toNat_natCast]
  generalize hSS:(sets.drop (k+1)).map Int.toNat=SS at hdrop;have hv:=fB_ c0 hin;rw[hc] at hv;have hpk:=cF_ (L:=L) (k:=k) h8 (by omega);have hpk1:=cF_ (L:=L) (k:=k+1) h8 (by omega);have hloop:=dW_ (body:=aO_ (k:Int) ((valN L c0:Nat):Int) ((L^k:Nat):Int) sets (nsV p) (X_ fuel)) (λj=>((o&&&bitsP (λb=>∀a:Nat,a<j->S.testBit a=true->∀c,cho SS c->inG p.Nodes (c0++[(a:Int)]++c++[(b:Int)])) L:Nat):Int)) L (λj hj=>by
   have hstep:(bitsP (λb=>∀a:Nat,a<j+1->S.testBit a=true->∀c,cho SS c->inG p.Nodes (c0++[(a:Int)]++c++[(b:Int)])) L)=bitsP (λb=>∀a:Nat,a<j->S.testBit a=true->∀c,cho SS c->inG p.Nodes (c0++[(a:Int)]++c++[(b:Int)])) L&&&bitsP (λb=>S.testBit j=true->∀c,cho SS c->inG p.Nodes (c0++[(j:Int)]++c++[(b:Int)])) L:=by
    rw[mL_];refine dm_ L λb _=>?_;constructor
    ·exact λh=>⟨λa ha=>h a (by omega),h j (by omega)⟩
    ·rintro⟨h1,h2⟩ a ha;by_cases e:a=j
     ·subst e;exact h2
     ·exact h1 a (by omega)
   rw[hstep,<-Nat.and_assoc];have hlt:o&&&bitsP (λb=>∀a:Nat,a<j->S.testBit a=true->∀c,cho SS c->inG p.Nodes (c0++[(a:Int)]++c++[(b:Int)])) L<2^L:=Nat.lt_of_le_of_lt Nat.and_le_left ho;generalize (o&&&bitsP (λb=>∀a:Nat,a<j->S.testBit a=true->∀c,cho SS c->inG p.Nodes (c0++[(a:Int)]++c++[(b:Int)])) L)=o' at hlt ⊢;unfold aO_;rw[gf_ _ _ hkl,sb,hS,lN_ (by omega),sb,oM_ (by omega)];cases hb:S.testBit j
   ·rw[if_neg (by simp),sb,if_neg (by simp),nI_ hlt (by simp)]
   ·rw[if_pos rfl,sb];by_cases h0:o'=0
    ·subst h0;rw[if_neg (by simp),Nat.zero_and]
    ·have hjk:j*L^k<=8*4096:=Nat.mul_le_mul (by omega) hpk;have hnat1:((valN L c0:Nat):Int)+(j:Int)*((L^k:Nat):Int)=((valN L (c0++[(j:Int)]):Nat):Int):=by
      rw[nl_,hc,Int.toNat_natCast,Int.natCast_add,Int.natCast_mul]
     have hnat2:((L^k:Nat):Int)*(L:Int)=((L^(k+1):Nat):Int):=by rw[Nat.pow_succ];exact(Int.natCast_mul _ _).symm
     have hnat3:(j:Int)*((L^k:Nat):Int)=((j*L^k:Nat):Int):=(Int.natCast_mul _ _).symm;have hin2:∀a∈c0++[(j:Int)],0<=a∧a<(L:Int):=λa ha=>by
      rcases List.mem_append.1 ha with ha|ha
      ·exact hin a ha
      ·rw[List.mem_singleton.1 ha];omega
     have hv2:=fB_ _ hin2;rw[List.length_append,hc,List.length_singleton] at hv2;rw[if_pos (by simpa using h0),F_ (by omega) (by omega),sb,show ck ((j:Int)*((L^k:Nat):Int))=some ((j:Int)*((L^k:Nat):Int)) from F_ (by omega) (by omega),sb,hnat1,F_ (by omega) (by omega),sb,
      show(nsV p).p.Labels=(L:Int) from hL,hnat2,F_ (by omega) (by omega),sb,show((k:Int)+1)=((k+1:Nat):Int) by omega,
      pW_ p L e hL hD h8 he sets hs hlen d (k+1) fuel (c0++[(j:Int)]) o' (by omega) (by omega) (by rw[List.length_append,hc];rfl) hin2 hlt,sb,hSS]
     congr 4;unfold cmP;exact dm_ L λb _=>⟨λh _=>h,λh=>h rfl⟩)
  unfold X_;rw[if_neg (by simp;omega),show(nsV p).p.Labels=(L:Int) from hL,F_ (by omega) (by omega),sb,Int.toNat_natCast];rw[nI_ ho (by simp)] at hloop;rw[hloop,sb,hdrop];simp only
  congr 3;unfold cmP;refine dm_ L λb _=>?_;constructor
  ·intro h c hcc;cases c with
   |nil=>exact hcc.elim
   |cons a c=>
    obtain⟨⟨h1,h2⟩,h3⟩:=hcc;have:=h a.toNat (rn_ hS2 h2) h2 c h3;rw[Int.toNat_of_nonneg h1,List.append_assoc c0] at this;exact this
  ·intro h a ha h2 c h3;have:=h ((a:Int)::c) ⟨⟨by omega,by rw[Int.toNat_natCast];exact h2⟩,h3⟩;rw[List.append_assoc c0 [(a:Int)] c];exact this
theorem iQ_(fuel:Nat)(p:c_)(h:probB p=true)(hf:10<=fuel)(sets:List Int)(hs:∀s∈sets,0<=s∧s.toNat<2^p.Labels.toNat)(hlen:(sets.length:Int)+1=p.Degree):bc_ fuel (nsV p) sets=some (cmI p.Labels.toNat p.Nodes sets):=by
 obtain⟨g1,g2,g3,g4,-,-⟩:=aH_ h;obtain⟨L,hL⟩:∃L:Nat,p.Labels=(L:Int):=⟨p.Labels.toNat,by omega⟩;obtain⟨e,hD⟩:∃e:Nat,p.Degree=((e+1:Nat):Int):=⟨p.Degree.toNat-1,by omega⟩;rw[hL,Int.toNat_natCast] at hs ⊢;have h1:1<=2^L:=Nat.one_le_two_pow;have h256:=cR_ (L:=L) (by omega);have:=pW_ p L e hL hD (by omega) (by omega) sets hs (by omega) e 0 fuel [] (2^L-1) (by omega) (by omega) rfl (by simp) (by omega);unfold bc_;rw[show(nsV p).p.Labels=(L:Int) from hL,eq_ (by omega),sb,show(((2^L:Nat):Int)-1)=((2^L-1:Nat):Int) by omega,F_ (by omega) (by omega),sb];rw[show((valN L []:Nat):Int)=0 from rfl,show((L^0:Nat):Int)=1 by simp,show((0:Nat):Int)=0 from rfl] at this;rw[this,sb,qz_,List.drop_zero];unfold cmI;congr 2;refine Nat.eq_of_testBit_eq λb=>?_;rw[Nat.testBit_and,Nat.testBit_two_pow_sub_one];cases hb:(cmpl L (inG p.Nodes) (sets.map Int.toNat)).testBit b
 ·simp
 ·have:=((eT_ _ L b).1 hb).1;simp[this]
theorem ly_(xs:List Int)(h:xs.length<=1000000000):aC_ xs=some xs:=by
 unfold aC_;rw[hH_ _ h,sb]
theorem lX_{body:Int->Unit->Option (Lp Unit Unit Bool)}(B:Nat->Prop):∀(n k:Nat),(∀j,j<n->(B (k+j)∧body ((k+j:Nat):Int) ()=some (.go ()))∨(¬B (k+j)∧body ((k+j:Nat):Int) ()=some (.ret false)))->
  (forN body n (k:Int) ()=some (.inl ())∧∀j,j<n->B (k+j))∨(forN body n (k:Int) ()=some (.inr false)∧∃j,j<n∧¬B (k+j))
 |0,k,h=> .inl ⟨rfl,by simp⟩
 | n+1,k,h=>by
  rcases h 0 (by omega) with⟨h1,h2⟩|⟨h1,h2⟩
  ·simp only[Nat.add_zero] at h1 h2;have ih:=lX_ (body:=body) B n (k+1) (λj hj=>by have:=h (j+1) (by omega);rw[show k+(j+1)=k+1+j by omega] at this;exact this);simp only[forN,h2];rw[show((k:Int)+1)=((k+1:Nat):Int) by omega];rcases ih with⟨i1,i2⟩|⟨i1,j,i2,i3⟩
   ·refine .inl ⟨i1,λj hj=>?_⟩;cases j with
    |zero=>exact h1
    |succ j=>have:=i2 j (by omega);rwa [show k+1+j=k+(j+1) by omega] at this
   ·exact .inr ⟨i1,j+1,by omega,by rwa [show k+(j+1)=k+1+j by omega]⟩
  ·simp only[Nat.add_zero] at h1 h2;refine .inr ⟨?_,0,by omega,h1⟩;simp only[forN,h2]
open Classical in
theorem rS_(fuel:Nat)(p:c_)(h:probB p=true)(hf:10<=fuel)(l:List Int)(hl:∀s∈l,0<=s∧s.toNat<2^p.Labels.toNat)(hlen:(l.length:Int)=p.Degree):cb_ fuel (nsV p) l=some (decide (fullI p.Labels.toNat p.Nodes l)):=by
  obtain⟨g1,g2,g3,g4,-,-⟩:=aH_ h
  have key:=lX_ (body:=bh_ fuel (nsV p) l) (λi=>∀x,l[i]? =some x->cmI p.Labels.toNat p.Nodes (l.eraseIdx i)=x) l.length 0 (λj hj=>by
    have hb:bh_ fuel (nsV p) l ((0+j:Nat):Int) ()=if cmI p.Labels.toNat p.Nodes (l.eraseIdx j) !=l[j] then some (.ret false) else some (.go ()):=by
      unfold bh_
      rw[Nat.zero_add,ly_ _ (by omega),sb,F_ (by omega) (by omega),sb]
      unfold delO
      rw[if_pos (by omega),sb,Int.toNat_natCast,show((j:Int)+1).toNat=j+1 by omega,<-List.eraseIdx_eq_take_drop_succ,iQ_ fuel p h hf (l.eraseIdx j) (λs hs=>hl s (List.mem_of_mem_eraseIdx hs)) (by rw[List.length_eraseIdx,if_pos hj];omega),sb,gf_ _ _ hj,sb]
    rw[hb,Nat.zero_add,List.getElem?_eq_getElem hj]
    by_cases e:cmI p.Labels.toNat p.Nodes (l.eraseIdx j)=l[j]
    · exact .inl ⟨λx hx=>by cases hx;exact e,by rw[if_neg (by simpa using e)]⟩
    · exact .inr ⟨λhh=>e (hh _ rfl),by rw[if_pos (by simpa using e)]⟩)
  simp only[Nat.zero_add] at key
  rw[show((0:Nat):Int)=0 from rfl] at key
  unfold cb_
  rw[F_ (by omega) (by omega),sb,Int.toNat_natCast]
  rcases key with⟨h1,h2⟩|⟨h1,j,h2,h3⟩
  · rw[h1,sb]
    have:fullI p.Labels.toNat p.Nodes l:=λi x hx=>h2 i (List.getElem?_eq_some_iff.1 hx).1 x hx
    simp[this]
  · rw[h1,sb]
    have:¬fullI p.Labels.toNat p.Nodes l:=λhh=>h3 (hh j)
    simp[this]
theorem jT_(n d fuel:Nat)(hn:n<=1000000)(hd:d<=1000)(hb:∀k,k<=d->n^k<=1000000000)(hf:n+d<fuel):dI_ fuel (n:Int) (d:Int)=some (msD n d):=by
 have hgo:∀j,j<d->cv_ fuel (n:Int) (j:Int) (msD n j)=some (.go (msD n (j+1))):=λj hj=>by
  have hlen:(msD n (j+1)).length<=1000000000:=Nat.le_trans (gx_ n (j+1)) (hb (j+1) (by omega));have key:=fi_ (body:=di_ fuel (n:Int)) (extD n) 1000000000 (msD n j) 0 [] (by simpa [msD] using hlen) (λx hx k ac hac=>by
   have hnd:=(ej_ n j x).1 hx;have h3:(x.getLastD 0).toNat<=n->∀(f:List (List Int)×Int->Option (Lp (List (List Int)×Int) (List (List Int)×Int) (List (List Int)))),(f=cC_ (n:Int) x∨f=bV_ (n:Int) x)->
     loopF f fuel (ac,(((x.getLastD 0).toNat:Nat):Int))=some (.inl (ac++extD n x,(n:Int))):=λhle f hf'=>by
    unfold extD at hac ⊢;rw[List.length_map,List.length_range'] at hac;refine lp_ (x:=x) (n:=n) (λacc k hk ha=>?_) (λacc=>?_) _ _ fuel ac (by omega) (by omega) hac
    ·rcases hf' with rfl|rfl
     ·unfold cC_;simp only
      rw[if_pos (by simpa using hk),ly_ x (by rw[hnd.1];omega),sb];unfold push;rw[if_pos (by rw[hnd.1];omega),sb,if_pos ha,sb,F_ (by omega) (by omega),sb];rfl
     ·unfold bV_;simp only
      rw[if_pos (by simpa using hk),ly_ x (by rw[hnd.1];omega),sb];unfold push;rw[if_pos (by rw[hnd.1];omega),sb,if_pos ha,sb,F_ (by omega) (by omega),sb];rfl
    ·rcases hf' with rfl|rfl
     ·unfold cC_;simp only
      rw[if_neg (by simp)]
     ·unfold bV_;simp only
      rw[if_neg (by simp)]
   have h0:=qS_ hnd;unfold di_;by_cases hj0:0<j
   ·obtain⟨i,rfl⟩:∃i,j=i+1:=⟨j-1,by omega⟩;have hl:x.getLastD 0<(n:Int):=by
     rcases List.eq_nil_or_concat x with rfl|⟨u,a,rfl⟩
     ·have:=hnd.1;simp at this
     ·have:=hnd.2.2 a (by simp);rw[List.concat_eq_append,List.getLastD_concat];exact this.2
    have hxl:=hnd.1;rw[if_pos (decide_eq_true (by omega)),F_ (by omega) (by omega),sb,show((x.length:Int)-1)=(i:Int) by omega,nQ_ hnd.1,sb];have h4:=h3 (by omega) _ (.inl rfl);rw[Int.toNat_of_nonneg h0] at h4;rw[h4,sb]
   ·have hj1:j=0:=by omega
    subst hj1;have hx0:x=[]:=List.eq_nil_of_length_eq_zero hnd.1;subst hx0;rw[if_neg (by simp)];have h4:=h3 (by simp) (bV_ (n:Int) []) (.inr rfl);simp only[List.getLastD_nil,Int.toNat_zero,Int.natCast_zero] at h4;rw[h4,sb])
  unfold cv_;rw[key,sb];rfl
 have h:=dW_ (body:=cv_ fuel (n:Int)) (λj=>msD n j) d hgo;unfold dI_;rw[F_ (by omega) (by omega),sb,Int.toNat_natCast,show([[]]:List (List Int))=msD n 0 from rfl,h,sb]
end
section
open Go.RowKit
structure DrawnS (n h m:Nat) (l0:List (Nat×Value)) (D:Nat->Nat) (cs:Nat->Option Nat) (R:Nat->Value->Tg->World->Prop) (Bf:Tg->World->Prop) (E:Nat->Value->Tg->World->Prop) (ec:Nat->Nat) (listed:Array Bool) (a:Act) (w:World) (o:Tg):Prop where
  fr:Fr a n l0
  base:Bf o w
  done:∀i,i<h->listed.getD i false=true->(∀k,cs i=some k->listed.getD k false=false)->R i (a.tmps.getD (D i) undef) o w
  res:∀e,e<m->listed.getD (ec e) false=false->E e undef o w
theorem pD_{listed:Array Bool}{h i:Nat}(hsz:i<listed.size)(hi:i<h)(hil:listed.getD i true=false):
  ((List.range h).filter λj=> !(listed.setIfInBounds i true).getD j true).length+1=((List.range h).filter λj=> !listed.getD j true).length:=by
 have e1:∀(m:Nat),i<m->((List.range m).filter λj=> !(listed.setIfInBounds i true).getD j true).length+1=((List.range m).filter λj=> !listed.getD j true).length:=by
  intro m
  induction m with
  |zero=>intro h;omega
  | succ m ihm=>
   intro him;rw[List.range_succ,List.filter_append,List.filter_append,List.length_append,List.length_append];by_cases e:i=m
   ·subst e;have e2:((List.range i).filter λj=> !(listed.setIfInBounds i true).getD j true)=(List.range i).filter λj=> !listed.getD j true:=by
     apply List.filter_congr;intro j hj;have:=List.mem_range.1 hj;rw[getD_set_ne true (by omega)]
    rw[e2];have e3:(listed.setIfInBounds i true).getD i true=true:=by simp
    simp only[List.filter_cons,List.filter_nil,e3,hil];simp
   ·have:=ihm (by omega);have e4:(listed.setIfInBounds i true).getD m true=listed.getD m true:=getD_set_ne true (by omega);simp only[List.filter_cons,List.filter_nil,e4];omega
 exact e1 h hi
section
variable {P:Program} {Q:Exit->Act->World->Prop} {n h m:Nat} {l0:List (Nat×Value)} {ops:List Oper} {D:Nat->Nat} {ds es:Nat->List Nat} {cs:Nat->Option Nat}
  {R E:Nat->Value->Tg->World->Prop} {Bf:Tg->World->Prop} {tg ec:Nat->Nat}
theorem pB_(hds:∀i,i<h->∀o w a,Fr a n l0->Bf o w->(∀e,e∈es i->E e undef o w)->(∀j,j∈ds i->R j (a.tmps.getD (D j) undef) o w)->∀op,ops[i]? =some op->opS P ops.toArray op a w λv w'=>∃o',Stp (tg i) o w o' w'∧R i v o' w')
  (hsB:∀k o w o' w',k<h->Bf o w->Stp (tg k) o w o' w'->Bf o' w')
  (hsE:∀e k o w o' w',e<m->k<h->ec e≠k->E e undef o w->Stp (tg k) o w o' w'->E e undef o' w')
  (hsR:∀i k v o w o' w',i<h->k<h->i≠k->cs i≠some k->(∀op,ops[i]? =some op->∀e∈op.after,Region.binds .any e=true->e.on≠k)->R i v o w->Stp (tg k) o w o' w'->R i v o' w')
  (hN:∀i,i<h->n<=D i->∀v v' o w,R i v o w->R i v' o w)
  (hD:∀i,i<h->∃op,ops[i]? =some op∧((op.dst=some (D i)∧D i<n∧(l0.map (·.1)).contains (D i)=false)∨(op.dst=none∧n<=D i))∧(∀j,j<h->j≠i->D j≠D i)∧
   (∀j,j∈ds i->j<h∧(∃e∈op.after,Region.binds .any e=true∧e.on=j)∧(cs j=none∨cs j=some i))∧
   (∀e,e∈es i->e<m∧(ec e=i∨∃ok,ops[ec e]? =some ok∧∃e'∈ok.after,Region.binds .any e'=true∧e'.on=i)))
  (hlow:∀i op,ops[i]? =some op->∀e∈op.after,Region.binds .any e=true->e.on<i)
  (hh:h<=ops.length)
  (htl:∀listed,HeadInv .any ops.toArray h listed->∀i,i<h->listed.getD i true=false->∀t,h<=t->t ∉ Region.ready .any ops.toArray listed)
  (hsq:Region.seqB .any ops.toArray (ops.length-h) h ((Array.range ops.length).map λi=>decide (i<h))=true)
  (hfin:∀a o w,Fr a n l0->Bf o w->(∀i,i<h->cs i=none->R i (a.tmps.getD (D i) undef) o w)->wpList P ops.toArray Q (ops.drop h) a w):
  ∀(d:Nat)(listed:Array Bool)(a:Act)(w:World)(o:Tg),DrawnS n h m l0 D cs R Bf E ec listed a w o->HeadInv .any ops.toArray h listed->
   ((List.range h).filter λi=> !listed.getD i true).length=d->wpAny P .any ops.toArray Q (d+(ops.length-h)) listed a w:=by
 intro fuel
 induction fuel with
 | zero=>
  intro listed a w o hJ hI heq;have h0:(List.range h).filter (λi=> !listed.getD i true)=[]:=List.eq_nil_of_length_eq_zero heq;have hall:∀i,i<h->listed.getD i true=true:=by
   intro i hi;have:=List.filter_eq_nil_iff.1 h0 i (List.mem_range.2 hi);simpa using this
  have hlist:listed=(Array.range ops.length).map λi=>decide (i<h):=by
   apply Array.ext (by simp[hI.size]);intro i h1 h2;have h3:i<ops.length:=by simpa [hI.size] using h1
   simp only[Array.getElem_map,Array.getElem_range];by_cases hi:i<h
   ·have:=hall i hi;simp[h1] at this;simp[this,hi]
   ·have:=hI.tail i (by omega) (by simpa using h3);simp[h1] at this;simp[this,hi]
  have:=wpAny_of_seq (P:=P) (md:=.any) (ops:=ops.toArray) (Q':=Q) (ops.drop h) h listed a w (λj=>by simp[List.getElem?_drop]) (by rw[hlist];simpa using hsq)
   (hfin a o w hJ.fr hJ.base λi hi hc=>hJ.done i hi (by
    have h1:=hall i hi;have h2:i<listed.size:=by rw[hI.size];simp;omega
    simp[h2] at h1 ⊢;exact h1) (λk hk=>by rw[hc] at hk;cases hk))
  have hl:(ops.drop h).length=0+(ops.length-h):=by simp
  rw[hl] at this;exact this
 | succ fuel ih=>
  intro listed a w o hJ hI heq;rw[show fuel+1+(ops.length-h)=(fuel+(ops.length-h))+1 by omega];have hne:(List.range h).filter (λi=> !listed.getD i true)≠ []:=λe=>by rw[e] at heq;simp at heq
  obtain⟨i0,hi0⟩:=List.exists_mem_of_ne_nil _ hne;have hi0h:=List.mem_range.1 (List.mem_filter.1 hi0).1;have hi0l:listed.getD i0 true=false:=by simpa using (List.mem_filter.1 hi0).2
  refine⟨λhr=>?_,λi hi=>?_⟩
  ·exfalso;have key:∀(d i:Nat),i=d->i<h->listed.getD i true=false->∃j,j∈Region.ready .any ops.toArray listed:=by
    intro d
    induction d using Nat.strongRecOn with
    | _ d ihd=>
     intro i hid hih hil;obtain⟨op,hop,_⟩:=hD i hih;by_cases hall:∀e∈op.after,Region.binds .any e=true->listed.getD e.on false=true
     ·exact⟨i,mem_ready.2 ⟨hil,op,by simpa using hop,hall⟩⟩
     ·have:∃e,e∈op.after∧Region.binds .any e=true∧listed.getD e.on false=false:=by
       apply Classical.byContradiction;intro hno;apply hall;intro e he hb;cases hc:listed.getD e.on false with
       |true=>rfl
       |false=>exact absurd ⟨e,he,hb,hc⟩ hno
      obtain⟨e,he,hb,hc⟩:=this;have hlt:=hlow i op hop e he hb;have hsz:e.on<listed.size:=by rw[hI.size];simp;omega
      exact ihd e.on (by omega) e.on rfl (by omega) (getD_in hsz hc)
   obtain⟨j,hj⟩:=key i0 i0 rfl hi0h hi0l;rw[hr] at hj;cases hj
  ·have hih:i<h:=by
    apply Nat.lt_of_not_le;intro hle;exact htl listed hI i0 hi0h hi0l i hle hi
   obtain⟨op,hop,hdst,hdist,hdeps,hres⟩:=hD i hih;obtain⟨hil,op',hop',hafter⟩:=mem_ready.1 hi;have e:op'=op:=by
    have:ops.toArray[i]? =ops[i]? :=by simp
    rw[this,hop] at hop';exact(Option.some.inj hop').symm
   subst e;have hsz:i<listed.size:=by rw[hI.size];simp;omega
   unfold wpOp;rw[hop'];have hob:=hds i hih o w a hJ.fr hJ.base (λe he=>by
    obtain⟨hem,hc⟩:=hres e he;refine hJ.res e hem ?_;rcases hc with hc|⟨ok,hok,e',he',hb',hon⟩
    ·rw[hc];exact getD_both hil
    ·cases hl:listed.getD (ec e) false with
     |false=>rfl
     |true=>
      have:=hI.closed (ec e) ok (by simpa using hok) hl e' he' hb';rw[hon,getD_both hil] at this;cases this) (λj hj=>by
    obtain⟨hjh,⟨ed,hed1,hed2,hed3⟩,hc⟩:=hdeps j hj;refine hJ.done j hjh (by rw[<-hed3];exact hafter ed hed1 hed2) (λk hk=>?_);rcases hc with hc|hc
    ·rw[hc] at hk;cases hk
    ·rw[hc] at hk;cases hk
     exact getD_both hil) op' hop
   have hnext:∀(v:Value)(w':World)(o':Tg),Stp (tg i) o w o' w'->R i v o' w'->wpAny P .any ops.toArray Q (fuel+(ops.length-h)) (listed.setIfInBounds i true) (a.put op'.dst v) w':=by
    intro v w' o' hst hR;have hc:=pD_ hsz hih hil;have hres':∀e,e<m->(listed.setIfInBounds i true).getD (ec e) false=false->E e undef o' w':=λe he hl=>by
     have hne:ec e≠i:=λh=>by rw[h] at hl;simp[hsz] at hl
     rw[getD_set_ne false (λh=>hne h.symm)] at hl;exact hsE e i o w o' w' he hih hne (hJ.res e he hl) hst
    have hold:∀j,j<h->j≠i->(listed.setIfInBounds i true).getD j false=true->(∀k,cs j=some k->(listed.setIfInBounds i true).getD k false=false)->R j (a.tmps.getD (D j) undef) o' w':=λj hj hji hlj hcj=>by
     rw[getD_set_ne false (λe=>hji e.symm)] at hlj;have hcs:cs j≠some i:=by
      intro e;have:=hcj i e;simp[hsz] at this
     refine hsR j i _ o w o' w' hj hih hji hcs (λoj hoj e he hb hon=>?_) (hJ.done j hj hlj λk hk=>?_) hst
     ·have:=hI.closed j oj (by simpa using hoj) hlj e he hb;rw[hon,getD_both hil] at this;cases this
     have:=hcj k hk;by_cases hki:k=i
     ·subst hki;exact absurd hk hcs
     ·rw[getD_set_ne false (λe=>hki e.symm)] at this;exact this
    rcases hdst with⟨hdst,hDn,hbase⟩|⟨hdst,hDn⟩
    ·rw[hdst];refine ih _ _ _ o' ⟨hJ.fr.put_ne hbase v,hsB i o w o' w' hih hJ.base hst,λj hj hlj hcj=>?_,hres'⟩ (hI.set hi hih) (by omega);by_cases hji:j=i
     ·subst hji;have:((a.put (some (D j)) v).tmps.getD (D j) undef)=v:=by
       have hlt:D j<a.tmps.size:=by rw[hJ.fr.size];exact hDn
       simp[Act.put,Array.getD_eq_getD_getElem?,hlt]
      rw[this];exact hR
     ·have hne:=hdist j hj hji;have:((a.put (some (D i)) v).tmps.getD (D j) undef)=a.tmps.getD (D j) undef:=by
       simp only[Act.put,Array.getD_eq_getD_getElem?];rw[Array.getElem?_setIfInBounds_ne (Ne.symm hne)]
      rw[this];exact hold j hj hji hlj hcj
    ·rw[hdst];refine ih _ _ _ o' ⟨hJ.fr,hsB i o w o' w' hih hJ.base hst,λj hj hlj hcj=>?_,hres'⟩ (hI.set hi hih) (by omega);by_cases hji:j=i
     ·subst hji;exact hN j hih hDn _ _ _ _ hR
     ·exact hold j hj hji hlj hcj
   unfold opS at hob;simp only[hop',];by_cases hw:Region.wanted op' (yielded ops.toArray a.tmps)=true
   ·rw[if_pos hw] at hob ⊢;refine .inl (eH_ ?_ ?_ hob)
    ·rintro a' w' ⟨v,rfl,o',hst,hR⟩;exact hnext v w' o' hst hR
    ·intro _ _ _ h;exact h.elim
   ·rw[if_neg hw] at hob ⊢;obtain⟨o',hst,hR⟩:=hob;have:=hnext undef w o' hst hR;rcases hdst with⟨hdst,_⟩|⟨hdst,_⟩
    ·exact this
    ·exact this
end
def Res(El:List Pr)(o:Tg)(w:World):List Nat->Prop
  |[]=>True
  |e::es=>(El.getD e prT) undef o w∧Res El o w es
theorem Res.of{El:List Pr}{o:Tg}{w:World}:∀{es:List Nat},(∀e,e∈es->(El.getD e prT) undef o w)->Res El o w es
 |[],_=>trivial
 |e::es,h=>⟨h e (by simp),Res.of λi hi=>h i (by simp[hi])⟩
def AllE(o:Tg)(w:World):List Pr->Prop
  |[]=>True
  |p::ps=>p undef o w∧AllE o w ps
theorem AllE.get{o:Tg}{w:World}:∀{ps:List Pr},AllE o w ps->∀e,(ps.getD e prT) undef o w
 |[],_,_=>trivial
 |p::ps,h,0=>h.1
 |p::ps,h,e+1=>by simpa using AllE.get h.2 e
def AllN:List Bool->List Pr->Prop
  |true::bs,p::ps=>(∀v v' o w,p v o w->p v' o w)∧AllN bs ps
  |false::bs,_::ps=>True∧AllN bs ps
  |_,_=>True
theorem AllN.get:∀{bs:List Bool}{ps:List Pr},AllN bs ps->∀i,bs.getD i false=true->∀v v' o w,(ps.getD i prT) v o w->(ps.getD i prT) v' o w
 |[],ps,_,i,hb=>by simp at hb
 |true::bs,[],_,i,hb=>λ_ _ _ _ _=>trivial
 |false::bs,[],_,i,hb=>λ_ _ _ _ _=>trivial
 |true::bs,p::ps,h,0,_=>h.1
 |false::bs,p::ps,h,0,hb=>by simp at hb
 |true::bs,p::ps,h,i+1,hb=>by simpa using AllN.get h.2 i (by simpa using hb)
 |false::bs,p::ps,h,i+1,hb=>by simpa using AllN.get h.2 i (by simpa using hb)
def ObsS(P:Program)(all:List Oper)(n:Nat)(l0:List (Nat×Value))(Bf:Tg->World->Prop)(El:List Pr)(Dl:List Nat)(Rl:List Pr)(tgl:List Nat)(dsl esl:List (List Nat)):Nat->List Oper->Prop
  |_,[]=>True
  |i,op::ops=>(∀o w a,Fr a n l0->Bf o w->Res El o w (esl.getD i [])->Deps Dl Rl a o w (dsl.getD i [])->opS P all.toArray op a w λv w'=>∃o',Stp (tgl.getD i 999) o w o' w'∧(Rl.getD i prT) v o' w')∧ObsS P all n l0 Bf El Dl Rl tgl dsl esl (i+1) ops
theorem ObsS.get{P:Program}{all:List Oper}{n:Nat}{l0:List (Nat×Value)}{Bf:Tg->World->Prop}{El:List Pr}{Dl:List Nat}{Rl:List Pr}{tgl:List Nat}{dsl esl:List (List Nat)}:
  ∀{ops:List Oper}{k:Nat},ObsS P all n l0 Bf El Dl Rl tgl dsl esl k ops->∀i op,ops[i]? =some op->∀o w a,Fr a n l0->Bf o w->Res El o w (esl.getD (k+i) [])->Deps Dl Rl a o w (dsl.getD (k+i) [])->
   opS P all.toArray op a w λv w'=>∃o',Stp (tgl.getD (k+i) 999) o w o' w'∧(Rl.getD (k+i) prT) v o' w'
 |[],k,_,i,op,h=>by simp at h
 |o::ops,k,hO,0,op,h=>by simp at h;subst h;exact hO.1
 |o::ops,k,hO,i+1,op,h=>by
  have:=ObsS.get hO.2 i op (by simpa using h);rw[show k+1+i=k+(i+1) by omega] at this;exact this
def drawnSB(ops:Array Oper)(n:Nat)(base Dl:List Nat)(dsl:List (List Nat))(csl:List (Option Nat))(tgl bdl tags ecl ebl:List Nat)(esl:List (List Nat))(sts:List Bool):Bool:=
  decide (Dl.length<=ops.size)&&tags.contains 999&&tags.all (λt=>decide (t≠0∧t<=999))&&
  ((List.range Dl.length).all λi=>
    (match ops[i]? with
      |some o=>(o.dst==some (Dl.getD i 0)&&decide (Dl.getD i 0<n)&& !base.contains (Dl.getD i 0))||(o.dst==none&&decide (n<=Dl.getD i 0)&&sts.getD i false)
      |none=>false)&&
    ((List.range Dl.length).all λj=>decide (j=i)||(decide (Dl.getD j 0≠Dl.getD i 0)&&(csl.getD i none==some j||decide (tgl.getD j 999≠bdl.getD i 0)||Region.waitsFor .any ops i j)))&&
    ((dsl.getD i []).all λj=>decide (j<Dl.length)&&Region.waitsFor .any ops i j&&(csl.getD j none==none||csl.getD j none==some i))&&
    ((esl.getD i []).all λe=>decide (e<ecl.length)&&(ecl.getD e 0==i||Region.waitsFor .any ops (ecl.getD e 0) i))&&
    tags.contains (tgl.getD i 999))&&
  ((List.range ops.size).all λi=>match ops[i]? with|some o=>o.after.all (λe=> !Region.binds .any e||decide (e.on<i))|none=>true)&&
  ((List.range ecl.length).all λe=>decide (ebl.getD e 0≠999)&&(List.range Dl.length).all λk=>ecl.getD e 0==k||decide (tgl.getD k 999≠ebl.getD e 0))&&
  (decide (Dl.length=ops.size)||(Region.sinkB .any ops Dl.length&&Region.chainB .any ops Dl.length))&&
  Region.seqB .any ops (ops.size-Dl.length) Dl.length ((Array.range ops.size).map λi=>decide (i<Dl.length))
theorem it_{P:Program}{Q:Exit->Act->World->Prop}{n id:Nat}{l:List (Nat×Value)}{ops:List Oper}{w:World}{o:Tg}
  (l0:List (Nat×Value)) (base Dl:List Nat) (dsl:List (List Nat)) (csl:List (Option Nat)) (tgl bdl tags ecl ebl:List Nat) (esl:List (List Nat)) (sts:List Bool) (Rl El:List Pr) (Bf:Tg->World->Prop)
  (hm:P.follows .mixedOrders=true) (hchk:drawnSB ops.toArray n base Dl dsl csl tgl bdl tags ecl ebl esl sts=true) (hbase:l0.map (·.1)=base) (hsub:Sub l0 l) (hB0:Bf o w) (hE0:AllE o w El)
  (hSB:∀t o w o' w',t∈tags->Bf o w->Stp t o w o' w'->Bf o' w') (hSR:AllSt bdl Rl) (hSE:AllSt ebl El) (hNN:AllN sts Rl) (hob:ObsS P ops n l0 Bf El Dl Rl tgl dsl esl 0 (ops.take Dl.length))
  (hfin:∀o w a,Fr a n l0->Bf o w->Fin a o w Dl csl Rl->wpList P ops.toArray Q (ops.drop Dl.length) a w):wpC P (.region id ops.toArray true) Q n l w:=by
 intro a ha;simp only[drawnSB,Bool.and_eq_true] at hchk;obtain⟨⟨⟨⟨⟨⟨⟨c1,c2⟩,c3⟩,c4⟩,c5⟩,c6⟩,c7⟩,c8⟩:=hchk;have hh:Dl.length<=ops.length:=by simpa using c1
 have h999:999∈tags:=by simpa using c2
 have htags:∀t,t∈tags->t≠0∧t<=999:=λt ht=>by simpa using List.all_eq_true.1 c3 t ht
 have c4':∀i,i<Dl.length->_:=λi hi=>List.all_eq_true.1 c4 i (List.mem_range.2 hi);simp only[Bool.and_eq_true] at c4';have c6':∀e,e<ecl.length->_:=λe he=>List.all_eq_true.1 c6 e (List.mem_range.2 he);simp only[Bool.and_eq_true] at c6';refine wp_region_any hm ?_;have hinv:HeadInv .any ops.toArray Dl.length (Array.replicate ops.toArray.size false):=
  ⟨by simp,λj oj _ hl=>(by rw[getD_replicate_false] at hl;cases hl),λt _ ht=>getD_in (by simpa using ht) (getD_replicate_false _ _)⟩
 have hcnt:((List.range Dl.length).filter λi=> !(Array.replicate ops.toArray.size false).getD i true).length=Dl.length:=by
  rw[List.filter_eq_self.2]
  ·simp
  ·intro i hi;have hi':=List.mem_range.1 hi;have:(Array.replicate ops.toArray.size false).getD i true=false:=getD_in (by simp;omega) (getD_replicate_false _ _);rw[this];rfl
 have:=pB_ (P:=P) (Q:=Q) (n:=n) (h:=Dl.length) (m:=ecl.length) (l0:=l0) (ops:=ops) (D:=λi=>Dl.getD i 0) (ds:=λi=>dsl.getD i []) (es:=λi=>esl.getD i []) (cs:=λi=>csl.getD i none)
  (R:=λi=>Rl.getD i prT) (E:=λe=>El.getD e prT) (Bf:=Bf) (tg:=λi=>tgl.getD i 999) (ec:=λe=>ecl.getD e 0)
  (λi hi o w a hf hb he hd op hop=>by
   have:=ObsS.get hob i op (by rw[List.getElem?_take,if_pos hi];exact hop) o w a hf hb (by rw[Nat.zero_add];exact Res.of he) (by rw[Nat.zero_add];exact Deps.of hd);rw[Nat.zero_add] at this;exact this)
  (λk o w o' w' hk hb hs=>hSB _ o w o' w' (by have:=(c4' k hk).2;simpa using this) hb hs)
  (λe k o w o' w' he hk hne hE hs=>by
   have h1:=(c4' k hk).2;have h2:=List.all_eq_true.1 (c6' e he).2 k (List.mem_range.2 hk);simp only[Bool.or_eq_true,beq_iff_eq,decide_eq_true_eq] at h2;rcases h2 with h2|h2
   ·exact absurd h2 hne
   ·exact hSE.get e _ undef o w o' w' (htags _ (by simpa using h1)) h2 hE hs)
  (λi k v o w o' w' hi hk hik hcs hno hR hs=>by
   have h1:=(c4' k hk).2;have h2:=List.all_eq_true.1 (c4' i hi).1.1.1.2 k (List.mem_range.2 hk);simp only[Bool.or_eq_true,Bool.and_eq_true,decide_eq_true_eq,beq_iff_eq] at h2;rcases h2 with h2|⟨_,h2⟩
   ·exact absurd h2.symm hik
   ·rcases h2 with (h2|h2)|h2
    ·exact absurd h2 hcs
    rotate_left
    ·obtain⟨oj,hoj,e,he,hb,hon⟩:=Region.waitsFor_spec h2;exact absurd hon (hno oj (by simpa using hoj) e he hb)
    ·exact hSR.get i _ v o w o' w' (htags _ (by simpa using h1)) h2 hR hs)
  (λi hi hDn v v' o w hR=>by
   have h1:=(c4' i hi).1.1.1.1;have hlt:i<ops.length:=by omega
   have hop:ops[i]? =some (ops[i]'hlt):=List.getElem?_eq_getElem hlt;simp only[List.getElem?_toArray,hop,Bool.or_eq_true,Bool.and_eq_true,decide_eq_true_eq] at h1;rcases h1 with⟨⟨_,h1⟩,_⟩|⟨_,h1⟩
   ·omega
   ·exact hNN.get i h1 v v' o w hR)
  (λi hi=>by
   obtain⟨⟨⟨⟨g1,g4⟩,g5⟩,g6⟩,g7⟩:=c4' i hi;have hlt:i<ops.length:=by omega
   have hop:ops[i]? =some (ops[i]'hlt):=List.getElem?_eq_getElem hlt;refine⟨_,hop,?_,λj hj hji=>?_,λj hj=>?_,λe he=>?_⟩
   ·simp only[List.getElem?_toArray,hop,Bool.or_eq_true,Bool.and_eq_true,decide_eq_true_eq,beq_iff_eq] at g1;rcases g1 with⟨⟨q1,q2⟩,q3⟩|⟨⟨q1,q2⟩,_⟩
    ·exact .inl ⟨q1,q2,by rw[hbase];simpa using q3⟩
    ·exact .inr ⟨q1,q2⟩
   ·have:=List.all_eq_true.1 g4 j (List.mem_range.2 hj);simp only[Bool.or_eq_true,Bool.and_eq_true,decide_eq_true_eq] at this;rcases this with h|h
    ·exact absurd h hji
    ·exact h.1
   ·have:=List.all_eq_true.1 g5 j hj;simp only[Bool.and_eq_true,decide_eq_true_eq,Bool.or_eq_true,beq_iff_eq] at this;obtain⟨⟨k1,k2⟩,k3⟩:=this;obtain⟨oj,hoj,e,he,hb,hon⟩:=Region.waitsFor_spec k2;have:oj=ops[i]'hlt:=by
     simp only[List.getElem?_toArray,hop] at hoj;exact(Option.some.inj hoj).symm
    subst this;exact⟨k1,⟨e,he,hb,hon⟩,k3⟩
   ·have:=List.all_eq_true.1 g6 e he;simp only[Bool.and_eq_true,decide_eq_true_eq,Bool.or_eq_true,beq_iff_eq] at this;refine⟨this.1,this.2.imp (λh=>h) λh=>?_⟩;obtain⟨ok,hok,e',he',hb,hon⟩:=Region.waitsFor_spec h;exact⟨ok,by simpa using hok,e',he',hb,hon⟩)
  (λi op hop e he hb=>by
   have hlt:i<ops.length:=(List.getElem?_eq_some_iff.1 hop).1;have:=List.all_eq_true.1 c5 i (List.mem_range.2 (by simpa using hlt));simp only[List.getElem?_toArray,hop] at this;have h2:=Array.all_eq_true_iff_forall_mem.1 this e he;simp only[Bool.or_eq_true,Bool.not_eq_true',decide_eq_true_eq] at h2;rcases h2 with h2|h2
   ·rw[hb] at h2;cases h2
   ·exact h2)
  hh
  (λlisted hI i hi hil t ht hr=>by
   simp only[Bool.or_eq_true,Bool.and_eq_true,decide_eq_true_eq] at c7;rcases c7 with c7|⟨c7,c7'⟩
   ·obtain⟨_,ot,hot,_⟩:=mem_ready.1 hr;have:=(Array.getElem?_eq_some_iff.1 hot).1;omega
   ·by_cases hn:Dl.length<ops.toArray.size
    ·exact tail_waits c7 c7' hn hI _ i rfl hi hil t ht hr
    ·obtain⟨_,ot,hot,_⟩:=mem_ready.1 hr;have:=(Array.getElem?_eq_some_iff.1 hot).1;omega)
  (by simpa using c8)
  (λa o w hf hb hd=>hfin o w a hf hb (Fin.of hd))
  Dl.length (Array.replicate ops.toArray.size false) a {w with drawn:=w.drawn+1} o
  ⟨ha.sub hsub,hSB 999 o w o _ h999 hB0 (il_ o w 999),λi hi hl=>(by rw[getD_replicate_false] at hl;cases hl),λe he _=>by
   have h1:=(c6' e he).1;simp only[decide_eq_true_eq] at h1;exact hSE.get e 999 undef o w o _ (htags 999 h999) (λh=>h1 h.symm) (hE0.get e) (il_ o w 999)⟩ hinv hcnt
 rw[show Dl.length+(ops.length-Dl.length)=ops.toArray.size by simp;omega] at this;exact this
end
end Go.Proofs.YtdbbeldgdgonfaaGreat
