/- Part 17 of what this claim rests on (Eli, Kwp, Tyw), packed by pack.py. -/
import Derived.Test.YtdbbeldgdgonfaaGreatP04
import Derived.Test.YtdbbeldgdgonfaaGreatP12
import Derived.Test.YtdbbeldgdgonfaaGreatP13
import Derived.Test.YtdbbeldgdgonfaaGreatP15
import Derived.Test.YtdbbeldgdgonfaaGreatP16
namespace Go.Proofs.YtdbbeldgdgonfaaGreat
set_option linter.unusedSimpArgs false
set_option linter.unusedVariables false
section
def tabV(p:c_):bl_:=⟨p,(List.range (p.Labels.toNat^p.Degree.toNat)).map λn=>decide (srt (digs p.Labels.toNat p.Degree.toNat n)∈p.Nodes)⟩
theorem kg_{α:Type}(z:α)(n key K:Nat)(f:Nat->α)(hk:key=K)(hn:K<n):((List.range n).map λk=>if k<K then f k else z).set key (f key)=(List.range n).map λk=>if k<K+1 then f k else z:=by
 subst hk;refine List.ext_getElem? λi=>?_;rw[List.getElem?_set];by_cases e:key=i
 ·subst e;simp[hn]
 ·rw[if_neg e];by_cases hi:i<n
  ·simp only[List.getElem?_map,List.getElem?_range hi,Option.map_some];congr 1;by_cases h1:i<key
   ·rw[if_pos h1,if_pos (by omega)]
   ·rw[if_neg h1,if_neg (by omega)]
  ·simp only[List.getElem?_map];rw[List.getElem?_eq_none (by simp;omega)];rfl
theorem pM_(p:c_)(L D n fuel:Nat)(hL:p.Labels=(L:Int))(h1:1<=L)(hD:p.Degree=(D:Int))(hD4:D<=4)(hn:n<=1000000)(hf:10<=fuel):loopF (cs_ p) fuel ([],(n:Int))=some (.inl (digs L D n,((n/L^D:Nat):Int))):=by
 have h:=bT_ (f:=cs_ p) (λj=>(digs L j n,((n/L^j:Nat):Int))) D (λj hj=>by
  have hle:n/L^j/L<=n:=Nat.le_trans (Nat.div_le_self _ _) (Nat.div_le_self _ _);have hdl:=dr_ L j n;unfold cs_;simp only
  unfold rem quo push;rw[hD,hL,if_pos (by simp;omega),if_neg (by omega),sb,if_pos (by omega),sb,if_neg (by omega),show((n/L^j:Nat):Int).tdiv (L:Int)=((n/L^j/L:Nat):Int) from rfl,jF_ (by omega),sb,
   show((n/L^j:Nat):Int).tmod (L:Int)=((n/L^j%L:Nat):Int) from rfl,ir_,Nat.pow_succ,Nat.div_div_eq_div_mul]) (by
  unfold cs_;simp only
  rw[hD,if_neg (by simp[dr_])]) fuel 0 (by omega) (by omega)
 simpa [digs] using h
theorem pq_(fuel:Nat)(hf:100<=fuel)(p:c_)(hL8:1<=p.Labels∧p.Labels<=8)(hD4:0<=p.Degree∧p.Degree<=4):fc_ fuel p=some (tabV p):=by
 obtain⟨L,hL⟩:∃L:Nat,p.Labels=(L:Int):=⟨p.Labels.toNat,by omega⟩;obtain⟨D,hD⟩:∃D:Nat,p.Degree=(D:Int):=⟨p.Degree.toNat,by omega⟩;have hpw:=cF_ (L:=L) (k:=D) (by omega) (by omega);have h1:=bT_ (f:=cY_ p) (λj=>(((L^j:Nat):Int),(j:Int))) D (λj hj=>by
  have hb:=cF_ (L:=L) (k:=j+1) (by omega) (by omega);unfold cY_;simp only
  rw[hD,hL,if_pos (by simpa using hj),show((L^j:Nat):Int)*(L:Int)=((L^(j+1):Nat):Int) by rw[Nat.pow_succ];exact(Int.natCast_mul _ _).symm,F_ (by omega) (by omega),sb,F_ (by omega) (by omega),sb];rfl) (by
  unfold cY_;simp only
  rw[hD,if_neg (by simp)]) fuel 0 (by omega) (by omega)
 have hloop:=dW_ (body:=dA_ fuel p) (λK=>(List.range (L^D)).map λk=>if k<K then decide (srt (digs L D k)∈p.Nodes) else false) (L^D) (λK hK=>by
  have hdl:=dr_ L D K;unfold dA_;rw[pM_ p L D K fuel hL (by omega) hD (by omega) (by omega) (by omega),sb];simp only
  rw[st_ fuel p _ (by omega) (by omega),sb,gf_ _ _ (by simp;exact hK),sb,iW_ _ _ _ (by simp;exact hK),sb,kg_ false _ _ _ (λk=>decide (srt (digs L D k)∈p.Nodes)) rfl hK])
 unfold fc_ mk;rw[show((1:Int),(0:Int))=(((L^0:Nat):Int),((0:Nat):Int)) by simp,h1,sb];simp only
 rw[if_pos (by omega),sb,List.length_replicate,Int.toNat_natCast,F_ (by omega) (by omega),sb,Int.toNat_natCast];have hr:List.replicate (L^D) (Rz.z:Bool)=(List.range (L^D)).map λk=>if k<0 then decide (srt (digs L D k)∈p.Nodes) else false:=by
  refine List.ext_getElem (by simp) λi h1 h2=>?_;simp;rfl
 rw[hr,hloop,sb];unfold tabV;have he:((List.range (L^D)).map λk=>if k<L^D then decide (srt (digs L D k)∈p.Nodes) else false)=(List.range (L^D)).map λk=>decide (srt (digs L D k)∈p.Nodes):=by
  refine List.map_congr_left λk hk=>?_;rw[if_pos (List.mem_range.1 hk)]
 rw[he];simp only[hL,hD,Int.toNat_natCast];rw[<-hL,<-hD]
theorem tK_(p:c_)(L D:Nat)(hL:p.Labels=(L:Int))(hD:p.Degree=(D:Int))(c:List Int)(hc:∀a∈c,0<=a∧a<(L:Int))(hl:c.length=D):ix (tabV p).good ((valN L c:Nat):Int)=some (decide (srt c∈p.Nodes)):=by
 have hv:=fB_ c hc;rw[hl] at hv;have hd:=jk_ c hc;rw[hl] at hd;unfold tabV;simp only
 rw[hL,hD,Int.toNat_natCast,Int.toNat_natCast,ca_,List.getElem?_map,List.getElem?_range hv,Option.map_some,hd]
theorem qY_(p:c_)(L e fuel:Nat)(hL:p.Labels=(L:Int))(hD:p.Degree=((e+1:Nat):Int))(h8:L<=8)(he:e<=3)(hf:10<=fuel)(c0:List Int)(hc:c0.length=e)(hin:∀a∈c0,0<=a∧a<(L:Int)):
  loopF (bm_ (tabV p) ((valN L c0.reverse:Nat):Int)) fuel (0,0)=some (.inl (((cmP L p.Nodes c0 []:Nat):Int),(L:Int))):=by
 have hrv:∀a∈c0.reverse,0<=a∧a<(L:Int):=λa ha=>hin a (List.mem_reverse.1 ha);have hv:=fB_ _ hrv;rw[List.length_reverse,hc] at hv;have hpe:=cF_ (L:=L) (k:=e) h8 (by omega);have hpe1:=cF_ (L:=L) (k:=e+1) h8 (by omega);generalize hP:(λb:Nat=>∀c,cho [] c->inG p.Nodes (c0++c++[(b:Int)]))=P;have hPb:∀b:Nat,P b<->srt ((b:Int)::c0.reverse)∈p.Nodes:=λb=>by
  rw[<-hP];have hperm:(c0++[]++[(b:Int)]).Perm ((b:Int)::c0.reverse):=by
   rw[List.append_nil];exact List.perm_append_comm.trans ((List.reverse_perm c0).symm.cons (b:Int))
  constructor
  ·intro h;have:=h [] trivial;unfold inG at this;rwa [hf_ hperm] at this
  ·intro h c hcc;cases c with
   |nil=>unfold inG;rwa [hf_ hperm]
   |cons a c=>exact hcc.elim
 have h:=bT_ (f:=bm_ (tabV p) ((valN L c0.reverse:Nat):Int)) (λj=>(((bitsP P j:Nat):Int),(j:Int))) L (λj hj=>by
  have hlt:=et_ P j;have h2:2^j<=256:=cR_ (by omega);have hin2:∀a∈(j:Int)::c0.reverse,0<=a∧a<(L:Int):=λa ha=>by
   rcases List.mem_cons.1 ha with rfl|ha
   ·omega
   ·exact hrv a ha
  have hv2:=fB_ _ hin2;rw[List.length_cons,List.length_reverse,hc] at hv2;have hnum:((valN L c0.reverse:Nat):Int)*(L:Int)+(j:Int)=((valN L ((j:Int)::c0.reverse):Nat):Int):=by
   rw[show valN L ((j:Int)::c0.reverse)=(j:Int).toNat+L*valN L c0.reverse from rfl,Int.toNat_natCast,Int.natCast_add,Int.natCast_mul,Int.mul_comm,Int.add_comm]
  have hmul:valN L c0.reverse*L<=4096*8:=Nat.mul_le_mul (by omega) h8;have hmul2:((valN L c0.reverse:Nat):Int)*(L:Int)=((valN L c0.reverse*L:Nat):Int):=(Int.natCast_mul _ _).symm;unfold bm_;simp only
  rw[show(tabV p).p.Labels=(L:Int) from hL,if_pos (by simpa using hj),show ck (((valN L c0.reverse:Nat):Int)*(L:Int))=some (((valN L c0.reverse:Nat):Int)*(L:Int)) by rw[hmul2];exact jF_ (by omega),sb,hnum,jF_ (by omega),sb,
   tK_ p L (e+1) hL hD _ hin2 (by rw[List.length_cons,List.length_reverse,hc]),sb]
  by_cases hb:P j
  ·rw[if_pos (decide_eq_true ((hPb j).1 hb)),eq_ (by omega),sb,F_ (by omega) (by omega),sb,F_ (by omega) (by omega),sb,ii_ hb,<-rw_ hlt];rfl
  ·rw[if_neg (by simpa using λhh=>hb ((hPb j).2 hh)),F_ (by omega) (by omega),sb,jr_ hb];rfl) (by
  unfold bm_;simp only
  rw[show(tabV p).p.Labels=(L:Int) from hL,if_neg (by simp)]) fuel 0 (by omega) (by omega)
 rw[show((0:Int),(0:Int))=(((bitsP P 0:Nat):Int),((0:Nat):Int)) from rfl,h];unfold cmP;rw[hP]
theorem sS_(p:c_)(L e:Nat)(hL:p.Labels=(L:Int))(hD:p.Degree=((e+1:Nat):Int))(h8:L<=8)(he:e<=3):∀(sets:List Int)(fuel:Nat)(c0:List Int),(∀s∈sets,0<=s∧s.toNat<2^L)->sets.length+20<fuel->c0.length+sets.length=e->(∀a∈c0,0<=a∧a<(L:Int))->
  as_ fuel (tabV p) sets ((valN L c0.reverse:Nat):Int)=some ((cmP L p.Nodes c0 (sets.map Int.toNat):Nat):Int)
 |[],fuel,c0,hs,hf,hc,hin=>by
  obtain⟨fuel,rfl⟩:∃q,fuel=q+1:=⟨fuel-1,by omega⟩;unfold as_;rw[if_pos (by rfl),qY_ p L e fuel hL hD h8 he (by simp at hf;omega) c0 (by simpa using hc) hin,sb];rfl
 | S::sets,fuel,c0,hs,hf,hc,hin=>by
  rw[List.length_cons] at hf hc;obtain⟨fuel,rfl⟩:∃q,fuel=q+1:=⟨fuel-1,by omega⟩;have h256:=cR_ h8;have h1:1<=2^L:=Nat.one_le_two_pow;have hS:=hs S (by simp);have hlab:cn_ fuel S=some (lbs 8 S.toNat):=by
   have:=hh_ S.toNat fuel (by omega);rwa [Int.toNat_of_nonneg hS.1] at this
  have hrv:∀a∈c0.reverse,0<=a∧a<(L:Int):=λa ha=>hin a (List.mem_reverse.1 ha);have hv:=fB_ _ hrv;rw[List.length_reverse] at hv;have hpk:=cF_ (L:=L) (k:=c0.length) h8 (by omega);have hmul:valN L c0.reverse*L<=4096*8:=Nat.mul_le_mul (by omega) h8;have hmul2:((valN L c0.reverse:Nat):Int)*(L:Int)=((valN L c0.reverse*L:Nat):Int):=(Int.natCast_mul _ _).symm;generalize hSS:sets.map Int.toNat=SS;have hloop:∀(xs:List Int)(k:Int)(o:Nat),(∀a∈xs,a∈lbs 8 S.toNat)->o<2^L->forI (bD_ (tabV p) (S::sets) ((valN L c0.reverse:Nat):Int) (as_ fuel)) xs k (o:Int)=some (.inl ((o&&&bitsP (λb=>∀a∈xs,∀c,cho SS c->inG p.Nodes (c0++[a]++c++[(b:Int)])) L:Nat):Int)):=by
   intro xs
   induction xs with
   |nil=>
    intro k o _ ho;rw[nI_ ho (by simp)];rfl
   | cons a xs ih=>
    intro k o hx ho;obtain⟨i,rfl,hi8,hbit⟩:=lx_.1 (hx a (by simp));have hiL:i<L:=rn_ hS.2 hbit;have hin2:∀x∈c0++[(i:Int)],0<=x∧x<(L:Int):=λx hxx=>by
     rcases List.mem_append.1 hxx with hxx|hxx
     ·exact hin x hxx
     ·rw[List.mem_singleton.1 hxx];omega
    have hstep:bitsP (λb=>∀a∈(i:Int)::xs,∀c,cho SS c->inG p.Nodes (c0++[a]++c++[(b:Int)])) L=cmP L p.Nodes (c0++[(i:Int)]) SS&&&bitsP (λb=>∀a∈xs,∀c,cho SS c->inG p.Nodes (c0++[a]++c++[(b:Int)])) L:=by
     unfold cmP;rw[mL_];refine dm_ L λb _=>?_;constructor
     ·exact λh=>⟨h _ (by simp),λa ha=>h a (by simp[ha])⟩
     ·rintro⟨q1,q2⟩ a ha;rcases List.mem_cons.1 ha with rfl|ha
      ·exact q1
      ·exact q2 a ha
    have h0:bD_ (tabV p) (S::sets) ((valN L c0.reverse:Nat):Int) (as_ fuel) k (i:Int) (o:Int)=some (.go ((o&&&cmP L p.Nodes (c0++[(i:Int)]) SS:Nat):Int)):=by
     unfold bD_;by_cases ho0:o=0
     ·subst ho0;rw[if_neg (by simp),Nat.zero_and]
     ·have hnum:((valN L c0.reverse:Nat):Int)*(L:Int)+(i:Int)=((valN L (c0++[(i:Int)]).reverse:Nat):Int):=by
       rw[List.reverse_append,List.reverse_singleton,List.singleton_append];rw[show valN L ((i:Int)::c0.reverse)=(i:Int).toNat+L*valN L c0.reverse from rfl,Int.toNat_natCast,Int.natCast_add,Int.natCast_mul,Int.mul_comm,Int.add_comm]
      have hnn:valN L (c0++[(i:Int)]).reverse<=4096*8+8:=by
       have:((valN L (c0++[(i:Int)]).reverse:Nat):Int)=((valN L c0.reverse*L:Nat):Int)+(i:Int):=by rw[<-hnum,hmul2]
       omega
      have hcl:=et_ (λb=>∀c,cho SS c->inG p.Nodes (c0++[(i:Int)]++c++[(b:Int)])) L;rw[if_pos (by simp;omega),sk_ _ (by simp),sb,List.tail_cons,show(tabV p).p.Labels=(L:Int) from hL,show ck (((valN L c0.reverse:Nat):Int)*(L:Int))=some (((valN L c0.reverse:Nat):Int)*(L:Int)) by rw[hmul2];exact jF_ (by omega),sb,hnum,jF_ (by omega),sb,
       sS_ p L e hL hD h8 he sets fuel (c0++[(i:Int)]) (λs hs'=>hs s (by simp[hs'])) (by omega) (by rw[List.length_append,List.length_singleton];omega) hin2,sb,hSS,hW_ (by omega) (by unfold cmP;omega)]
    simp only[forI,h0];rw[ih (k+1) _ (λa ha=>hx a (by simp[ha])) (Nat.lt_of_le_of_lt Nat.and_le_left ho),hstep,Nat.and_assoc]
  unfold as_;rw[if_neg (by simp;omega),show(tabV p).p.Labels=(L:Int) from hL,eq_ (by omega),sb,show(((2^L:Nat):Int)-1)=((2^L-1:Nat):Int) by omega,F_ (by omega) (by omega),sb,show ix (S::sets) 0=some S from rfl,sb,hlab,sb,hloop _ 0 _ (λa ha=>ha) (by omega),sb];simp only
  congr 2;rw[List.map_cons,hSS];have hall:∀z,z<2^L->(2^L-1)&&&z=z:=λz hz=>by
   refine Nat.eq_of_testBit_eq λb=>?_;rw[Nat.testBit_and,Nat.testBit_two_pow_sub_one];cases hb:z.testBit b
   ·simp
   ·have:=rn_ hz hb;simp[this]
  rw[hall _ (et_ _ L)];unfold cmP;refine dm_ L λb _=>?_;constructor
  ·intro h c hcc;obtain⟨a,c',rfl,ha,hc'⟩:=(ik_ (by omega)).1 hcc;have:=h a ha c' hc';rw[List.append_assoc c0] at this;exact this
  ·intro h a ha c hcc;have:=h (a::c) ((ik_ (by omega)).2 ⟨a,c,rfl,ha,hcc⟩);rw[List.append_assoc c0 [a] c];exact this
theorem re_(fuel:Nat)(p:c_)(hL8:1<=p.Labels∧p.Labels<=8)(hD4:1<=p.Degree∧p.Degree<=4)(hf:100<=fuel)(sets:List Int)(hs:∀s∈sets,0<=s∧s.toNat<2^p.Labels.toNat)(hlen:(sets.length:Int)+1=p.Degree):as_ fuel (tabV p) sets 0=some (cmI p.Labels.toNat p.Nodes sets):=by
 obtain⟨L,hL⟩:∃L:Nat,p.Labels=(L:Int):=⟨p.Labels.toNat,by omega⟩;obtain⟨e,hD⟩:∃e:Nat,p.Degree=((e+1:Nat):Int):=⟨p.Degree.toNat-1,by omega⟩;rw[hL,Int.toNat_natCast] at hs ⊢;have:=sS_ p L e hL hD (by omega) (by omega) sets fuel [] hs (by omega) (by simp;omega) (by simp);rw[show((valN L ([]:List Int).reverse:Nat):Int)=0 from rfl] at this;rw[this,qz_];rfl
open Classical in
theorem tF_(fuel:Nat)(p:c_)(hL8:1<=p.Labels∧p.Labels<=8)(hD4:1<=p.Degree∧p.Degree<=4)(hf:100<=fuel)(l:List Int)(hl:∀s∈l,0<=s∧s.toNat<2^p.Labels.toNat)(hlen:(l.length:Int)=p.Degree):dh_ fuel (tabV p) l=some (decide (fullI p.Labels.toNat p.Nodes l)):=by
  have hstep:∀(j:Nat) x,l[j]? =some x->bG_ fuel (tabV p) l (j:Int) x ()=if cmI p.Labels.toNat p.Nodes (l.eraseIdx j) !=x then some (.ret false) else some (.go ()):=λj x hx=>by
    have hj:=(List.getElem?_eq_some_iff.1 hx).1
    have c1:cut l 0 (j:Int)=some (l.take j):=by
      unfold cut
      rw[if_pos (by omega)];simp
    have c2:cut l ((j+1:Nat):Int) l.length=some (l.drop (j+1)):=by
      unfold cut
      rw[if_pos (by omega)];simp
    unfold bG_
    rw[c1,sb,fY_ _ (by rw[List.length_take];omega),sb,F_ (by omega) (by omega),sb,show((j:Int)+1)=((j+1:Nat):Int) by omega,c2,sb]
    unfold cat
    rw[if_pos (by simp;omega),sb,<-List.eraseIdx_eq_take_drop_succ,re_ fuel p hL8 hD4 hf (l.eraseIdx j) (λs hs=>hl s (List.mem_of_mem_eraseIdx hs)) (by rw[List.length_eraseIdx,if_pos hj];omega),sb]
  have key:=do_ (body:=bG_ fuel (tabV p) l) (λk x=>if cmI p.Labels.toNat p.Nodes (l.eraseIdx k)=x then none else some false) l (λj x hx _=>by
    rw[hstep j x hx]
    by_cases e:cmI p.Labels.toNat p.Nodes (l.eraseIdx j)=x
    · simp[e,lpP]
    · simp[e,lpP])
  unfold dh_
  rw[key,sb]
  cases hc:firstP (λk x=>if cmI p.Labels.toNat p.Nodes (l.eraseIdx k)=x then none else some false) l 0 with
  | none=>
    have:fullI p.Labels.toNat p.Nodes l:=λi x hx=>by
      have:=cN_.1 hc i x hx
      rw[Nat.zero_add] at this
      split at this
      · assumption
      · cases this
    simp[outP,this]
  | some r=>
    obtain⟨j,x,h1,h2⟩:=dp_ hc
    rw[Nat.zero_add] at h2
    split at h2
    · cases h2
    · rename_i hne
      cases h2
      have:¬fullI p.Labels.toNat p.Nodes l:=λhh=>hne (hh j x h1)
      simp[outP,this]
theorem kX_{ρ:Type}{f:Int->Int->List Int->Option (Lp (List Int) (List Int) ρ)}(hfx:∀k x s,f k x s=((ck (x+1))>>=λy=>(push s y)>>=λz=>some (.go z))):∀(c:List Int)(k:Int)(acc:List Int),(∀y∈c,0<=y∧y<=1000)->acc.length+c.length<=1000000000->forI f c k acc=some (.inl (acc++c.map (·+1)))
 |[],k,acc,_,_=>by simp[forI]
 | y::c,k,acc,hc,h=>by
  rw[List.length_cons] at h;have hy:=hc y (by simp);have h0:f k y acc=some (.go (acc++[y+1])):=by
   rw[hfx,F_ (by omega) (by omega),sb];unfold push;rw[if_pos (by omega),sb]
  simp only[forI,h0];rw[kX_ hfx c (k+1) _ (λz hz=>hc z (by simp[hz])) (by rw[List.length_append,List.length_singleton];omega),List.map_cons,List.append_assoc,List.singleton_append]
theorem mc_{α β γ:Type}(f:α->β)(g:β->List γ):∀xs:List α,(xs.map f).flatMap g=xs.flatMap λx=>g (f x)
 |[]=>rfl
 |x::xs=>by rw[List.map_cons,List.flatMap_cons,List.flatMap_cons,mc_ f g xs]
open Classical in
noncomputable def stepS(L:Nat)(N:List (List Int))(c:List Int):List (List Int):=if cmI L N (c.map (·+1))≠0∧(∀y∈c.map (·+1),y<=cmI L N (c.map (·+1)))∧fullI L N (c.map (·+1)++[cmI L N (c.map (·+1))]) then [c.map (·+1)++[cmI L N (c.map (·+1))]] else []
open Classical in
theorem rL_(fuel:Nat)(hf:1000000000<=fuel)(p:c_)(hL8:1<=p.Labels∧p.Labels<=8)(hD4:1<=p.Degree∧p.Degree<=4):gH_ fuel p=some (nodeV p):=by
  obtain⟨L,hL⟩:∃L:Nat,p.Labels=(L:Int):=⟨p.Labels.toNat,by omega⟩
  obtain⟨e,hD⟩:∃e:Nat,p.Degree=((e+1:Nat):Int):=⟨p.Degree.toNat-1,by omega⟩
  have hLt:p.Labels.toNat=L:=by omega
  have hDt:p.Degree.toNat-1=e:=by omega
  have h256:=cR_ (L:=L) (by omega)
  have h1:1<=2^L:=Nat.one_le_two_pow
  have hpw:∀k,k<=e->(2^L-1)^k<=16777216:=λk hk=>by
    have q1:(2^L-1)^k<=256^k:=Nat.pow_le_pow_left (by omega) k
    have q2:256^k<=256^3:=Nat.pow_le_pow_right (by decide) (by omega)
    omega
  have hJ:fullS p=(msD (2^L-1) e).flatMap (stepS L p.Nodes):=by
    unfold fullS
    rw[hLt,hDt,mc_]
    congr 1
    funext c
    unfold stepS
    by_cases hh:cmI L p.Nodes (c.map (·+1))≠0∧(∀y∈c.map (·+1),y<=cmI L p.Nodes (c.map (·+1)))∧fullI L p.Nodes (c.map (·+1)++[cmI L p.Nodes (c.map (·+1))])
    · rw[if_pos hh,if_pos hh]
    · rw[if_neg hh,if_neg hh]
  have hSl:=mJ_ p hL8.2 hD4.2
  have hok:=js_ p ⟨by omega,hL8.2⟩ hD4.1
  unfold gH_ nodeV
  by_cases hc:p.Degree=4∧6<p.Labels
  · rw[if_pos (by simpa using hc.1),sb,if_pos (by simpa using hc.2),if_pos hc]
  · rw[if_neg hc]
    have hq:(if(p.Degree==4)=true then some (decide (p.Labels>6)) else some false)=some false:=by
      by_cases h4:p.Degree=4
      · rw[if_pos (by simpa using h4)]
        have:¬p.Labels>6:=λh6=>hc ⟨h4,h6⟩
        simp[this]
      · rw[if_neg (by simpa using h4)]
    have hloop:=fi_ (body:=ew_ fuel (tabV p)) (stepS L p.Nodes) 1000000000 (msD (2^L-1) e) 0 [] (by rw[<-hJ];simp;omega) (λc hcm j ac hac=>by
      obtain⟨m1,m2,m3⟩:=(ej_ _ _ _).1 hcm
      have hlin:∀s∈c.map (·+1),0<=s∧s.toNat<2^L:=λs hs=>by
        obtain⟨y,hy,rfl⟩:=List.mem_map.1 hs
        have:=m3 y hy
        omega
      have hsor:(c.map (·+1)).Pairwise (·<=·):=by
        rw[List.pairwise_map]
        exact m2.imp λ{a b} h=>by omega
      have hcmp:=re_ fuel p hL8 hD4 (by omega) (c.map (·+1)) (by rw[hLt];exact hlin) (by rw[List.length_map,m1,hD];omega)
      rw[hLt] at hcmp
      have hcin:=oi_ L p.Nodes (c.map (·+1))
      have hcin2:(cmI L p.Nodes (c.map (·+1))).toNat<2^L:=by
        have h2:((2^L:Nat):Int)=(2:Int)^L:=by simp
        omega
      have hif:=tF_ fuel p hL8 hD4 (by omega) (c.map (·+1)++[cmI L p.Nodes (c.map (·+1))]) (by
        rw[hLt]
        intro s hs
        rcases List.mem_append.1 hs with hs|hs
        · exact hlin s hs
        · rw[List.mem_singleton.1 hs];exact⟨hcin.1,hcin2⟩) (by rw[List.length_append,List.length_map,m1,hD];rfl)
      rw[hLt] at hif
      have hpl:=kX_ (f:=fx_) (λk x s=>rfl) c 0 [] (λy hy=>by have:=m3 y hy;omega) (by simp;omega)
      rw[List.nil_append] at hpl
      have hml:(c.map (·+1)).length=e:=by rw[List.length_map,m1]
      unfold stepS at hac ⊢
      unfold ew_
      rw[hpl,sb]
      simp only
      rw[hcmp,sb]
      generalize cmI L p.Nodes (c.map (·+1))=z at hif hac ⊢
      generalize c.map (·+1)=l at hif hac hml hsor ⊢
      by_cases hz:z=0
      · rw[if_pos (by simpa using hz),sb,if_pos rfl,if_neg (λhh=>hh.1 hz),List.append_nil]
      · rw[if_neg (by simpa using hz)]
        have hlast:(if decide ((l.length:Int)>0)=true then(ck ((l.length:Int)-1))>>=λx193=>(ix l x193)>>=λx194=>some (decide (z<x194)) else some false)=some (decide (¬∀y∈l,y<=z)):=by
          cases e with
          | zero=>
            have:l=[]:=List.eq_nil_of_length_eq_zero hml
            subst this
            simp
          | succ e=>
            rw[if_pos (by simp;omega),F_ (by omega) (by omega),sb,show((l.length:Int)-1)=(e:Int) by omega,nQ_ hml,sb]
            congr 1
            have hge:=qQ_ hsor
            have hmem:l.getLastD 0∈l:=by
              rcases List.eq_nil_or_concat l with rfl|⟨u,a,rfl⟩
              · simp at hml
              · rw[List.concat_eq_append,List.getLastD_concat];simp
            by_cases hlt:z<l.getLastD 0
            · have:¬∀y∈l,y<=z:=λhh=>by have:=hh _ hmem;omega
              rw[decide_eq_true hlt,decide_eq_true this]
            · have:∀y∈l,y<=z:=λy hy=>by have:=hge y hy;omega
              rw[decide_eq_false hlt,decide_eq_false (λhh=>hh this)]
        rw[hlast,sb]
        by_cases hle:∀y∈l,y<=z
        · rw[if_neg (by simpa using hle)]
          unfold push
          rw[if_pos (by omega),sb,hif,sb]
          by_cases hfl:fullI L p.Nodes (l++[z])
          · rw[if_pos ⟨hz,hle,hfl⟩,List.length_singleton] at hac
            rw[if_pos (decide_eq_true hfl),if_pos (by omega),sb,if_pos ⟨hz,hle,hfl⟩]
          · rw[if_neg (by simpa using hfl),if_neg (λhh=>hfl hh.2.2),List.append_nil]
        · rw[if_pos (decide_eq_true hle),if_neg (λhh=>hle hh.2.1),List.append_nil])
    rw[<-hJ,List.nil_append] at hloop
    rw[hq,sb,if_neg (by simp),pq_ fuel (by omega) p hL8 ⟨by omega,hD4.2⟩,sb,hL,eq_ (by omega),sb,show(((2^L:Nat):Int)-1)=((2^L-1:Nat):Int) by omega,F_ (by omega) (by omega),sb,hD,show(((e+1:Nat):Int)-1)=(e:Int) by omega,F_ (by omega) (by omega),sb,
      kb_ (2^L-1) e fuel (by omega) (by omega) (λk hk=>by have:=hpw k hk;omega) (by omega),sb,hloop,sb]
    simp only
    rw[oq_ (d:=p.Degree.toNat) (by omega) fuel hf p (fullS p) false ⟨by omega,hD4.2⟩ hok (by omega),sb]
theorem jh_(fuel:Nat)(hf:1000000000<=fuel)(p:c_)(h:probB p=true)(hJ:p.Nodes.length<=100000000)(hE:p.Edges.length<=100000000):br_ fuel p=some (roundV p):=by
 obtain⟨g1,g2,g3,g4,-,-⟩:=aH_ h;have hes:en_ fuel p=some (edgeV p):=by
  unfold en_;rw[hZ_ fuel (by omega) p (by omega) (by omega),sb,h,if_neg (by simp),rX_ fuel hf p ⟨by omega,g2⟩ ⟨by omega,g4⟩,sb]
 unfold br_ roundV;rw[hes,sb];cases h1:(edgeV p).2.2
 ·rw[if_pos (by rfl),if_neg (by simp)]
 ·obtain⟨a1,a2,a3,a4⟩:=iK_ p h h1;obtain⟨b1,b2,b3,b4,-,-⟩:=aH_ a1;rw[if_neg (by simp),if_pos rfl,rL_ fuel hf _ ⟨b1,b2⟩ ⟨b3,b4⟩,sb];cases h2:(nodeV (edgeV p).1).2.2
  ·rw[if_pos (by rfl),if_neg (by simp)]
  ·rw[if_neg (by simp),if_pos rfl]
end
section
open Go.RowKit
section
variable {o0 o o':Tg} {w0 w w':World} {t:Nat}
theorem Stp.trW(h:Stp 13 o0 w0 o w)(hO:∀b,b<w0.heap.size->o0 b<14∨1000<=o0 b)(s:Stp t o w o' w')(h1:14<=t)(h2:t<=999):Stp 13 o0 w0 o' w':=
 ⟨s.os.trans h.os,s.tape.trans h.tape,s.output.trans h.output,Nat.le_trans h.size s.size,
  λb hb hn=>(s.block b (Nat.lt_of_lt_of_le hb h.size) (by rw[h.own b hb];have:=hO b hb;omega)).trans (h.block b hb hn),
  λb hb=>(s.own b (Nat.lt_of_lt_of_le hb h.size)).trans (h.own b hb)⟩
theorem Stp.frzW(h:Stp 13 o0 w0 o w)(hO:∀b,b<w0.heap.size->o0 b<14∨1000<=o0 b)(j:Nat)(h1:14<=j)(h2:j<=999):Stp 13 o0 w0 (frz j o) w:=
 ⟨h.os,h.tape,h.output,h.size,h.block,λb hb=>by
  unfold frz;rw[if_neg (by rw[h.own b hb];have:=hO b hb;omega)];exact h.own b hb⟩
end
end
section
open Go.RowKit
structure kT_ where
  p:c_
  q:c_
  deriving DecidableEq
instance:Rp kT_ where
  sz:=8
  pos:=by decide
  rd o w cs x:=∃v1 v2 v3 v4,cs=[.int .i64 x.p.Labels,.int .i64 x.p.Degree,v1,v2,.int .i64 x.q.Labels,.int .i64 x.q.Degree,v3,v4]∧RdL o w v1 x.p.Nodes∧RdL o w v2 x.p.Edges∧RdL o w v3 x.q.Nodes∧RdL o w v4 x.q.Edges
  len h:=by obtain⟨v1,v2,v3,v4,rfl,h1,h2,h3,h4⟩:=h;rfl
  one h:=by
    obtain⟨v1,v2,v3,v4,rfl,h1,h2,h3,h4⟩:=h
    intro c hc
    simp only[List.mem_cons,List.not_mem_nil,or_false] at hc
    rcases hc with rfl|rfl|rfl|rfl|rfl|rfl|rfl|rfl<;>first|rfl|exact h1.one1|exact h2.one1|exact h3.one1|exact h4.one1
  mv h hs hb:=by obtain⟨v1,v2,v3,v4,rfl,h1,h2,h3,h4⟩:=h;exact⟨v1,v2,v3,v4,rfl,h1.mv hs hb,h2.mv hs hb,h3.mv hs hb,h4.mv hs hb⟩
instance:Rz kT_:=⟨⟨⟨0,0,[],[]⟩,⟨0,0,[],[]⟩⟩,[.int .i64 0,.int .i64 0,.slice none 0 0,.slice none 0 0,.int .i64 0,.int .i64 0,.slice none 0 0,.slice none 0 0],λo w=>⟨_,_,_,_,rfl,RdL.nil o w,RdL.nil o w,RdL.nil o w,RdL.nil o w⟩⟩
structure ch_ where
  p:c_
  q:c_
  perm:List Int
  deriving DecidableEq
instance:Rp ch_ where
  sz:=9
  pos:=by decide
  rd o w cs x:=∃v1 v2 v3 v4 v5,cs=[.int .i64 x.p.Labels,.int .i64 x.p.Degree,v1,v2,.int .i64 x.q.Labels,.int .i64 x.q.Degree,v3,v4,v5]∧RdL o w v1 x.p.Nodes∧RdL o w v2 x.p.Edges∧RdL o w v3 x.q.Nodes∧RdL o w v4 x.q.Edges∧RdL o w v5 x.perm
  len h:=by obtain⟨v1,v2,v3,v4,v5,rfl,h1,h2,h3,h4,h5⟩:=h;rfl
  one h:=by
    obtain⟨v1,v2,v3,v4,v5,rfl,h1,h2,h3,h4,h5⟩:=h
    intro c hc
    simp only[List.mem_cons,List.not_mem_nil,or_false] at hc
    rcases hc with rfl|rfl|rfl|rfl|rfl|rfl|rfl|rfl|rfl<;>first|rfl|exact h1.one1|exact h2.one1|exact h3.one1|exact h4.one1|exact h5.one1
  mv h hs hb:=by obtain⟨v1,v2,v3,v4,v5,rfl,h1,h2,h3,h4,h5⟩:=h;exact⟨v1,v2,v3,v4,v5,rfl,h1.mv hs hb,h2.mv hs hb,h3.mv hs hb,h4.mv hs hb,h5.mv hs hb⟩
instance:Rz ch_:=⟨⟨⟨0,0,[],[]⟩,⟨0,0,[],[]⟩,[]⟩,[.int .i64 0,.int .i64 0,.slice none 0 0,.slice none 0 0,.int .i64 0,.int .i64 0,.slice none 0 0,.slice none 0 0,.slice none 0 0],λo w=>⟨_,_,_,_,_,rfl,RdL.nil o w,RdL.nil o w,RdL.nil o w,RdL.nil o w,RdL.nil o w⟩⟩
structure B_ where
  p:c_
  q:c_
  nodes:List Bool
  edges:List Bool
  deriving DecidableEq
instance:Rp B_ where
  sz:=10
  pos:=by decide
  rd o w cs x:=∃v1 v2 v3 v4 v5 v6,cs=[.int .i64 x.p.Labels,.int .i64 x.p.Degree,v1,v2,.int .i64 x.q.Labels,.int .i64 x.q.Degree,v3,v4,v5,v6]∧RdL o w v1 x.p.Nodes∧RdL o w v2 x.p.Edges∧RdL o w v3 x.q.Nodes∧RdL o w v4 x.q.Edges∧RdL o w v5 x.nodes∧RdL o w v6 x.edges
  len h:=by obtain⟨v1,v2,v3,v4,v5,v6,rfl,h1,h2,h3,h4,h5,h6⟩:=h;rfl
  one h:=by
    obtain⟨v1,v2,v3,v4,v5,v6,rfl,h1,h2,h3,h4,h5,h6⟩:=h
    intro c hc
    simp only[List.mem_cons,List.not_mem_nil,or_false] at hc
    rcases hc with rfl|rfl|rfl|rfl|rfl|rfl|rfl|rfl|rfl|rfl<;>first|rfl|exact h1.one1|exact h2.one1|exact h3.one1|exact h4.one1|exact h5.one1|exact h6.one1
  mv h hs hb:=by obtain⟨v1,v2,v3,v4,v5,v6,rfl,h1,h2,h3,h4,h5,h6⟩:=h;exact⟨v1,v2,v3,v4,v5,v6,rfl,h1.mv hs hb,h2.mv hs hb,h3.mv hs hb,h4.mv hs hb,h5.mv hs hb,h6.mv hs hb⟩
instance:Rz B_:=⟨⟨⟨0,0,[],[]⟩,⟨0,0,[],[]⟩,[],[]⟩,[.int .i64 0,.int .i64 0,.slice none 0 0,.slice none 0 0,.int .i64 0,.int .i64 0,.slice none 0 0,.slice none 0 0,.slice none 0 0,.slice none 0 0],λo w=>⟨_,_,_,_,_,_,rfl,RdL.nil o w,RdL.nil o w,RdL.nil o w,RdL.nil o w,RdL.nil o w,RdL.nil o w⟩⟩
end
end Go.Proofs.YtdbbeldgdgonfaaGreat
