/- Part 25 of what this claim rests on (Sld, Sle), packed by pack.py. -/
import Derived.Test.YtdbbeldgdgonfaaGreatP24
namespace Go.Proofs.YtdbbeldgdgonfaaGreat
open Tryz renaming prog→tX_
set_option linter.unusedSimpArgs false
set_option linter.unusedVariables false
section
open Go.RowKit
theorem goF{σ τ ρ:Type}{f:σ->Option (Lp σ τ ρ)}{s s':σ}(h:f s=some (.go s'))(fuel:Nat):loopF f (fuel+1) s=loopF f fuel s':=by simp only[loopF,h]
theorem outF{σ τ ρ:Type}{f:σ->Option (Lp σ τ ρ)}{s:σ}{t:τ}(h:f s=some (.out t))(fuel:Nat):loopF f (fuel+1) s=some (.inl t):=by simp only[loopF,h]
theorem retF{σ τ ρ:Type}{f:σ->Option (Lp σ τ ρ)}{s:σ}{r:ρ}(h:f s=some (.ret r))(fuel:Nat):loopF f (fuel+1) s=some (.inr r):=by simp only[loopF,h]
theorem ti_(xs ys:List Int)(hl:xs.length<=1000000000)(hy:ys.length<=1000000000):aU_ xs ys=some (decide (xs=ys)):=by
 unfold aU_;by_cases h:xs.length=ys.length
 ·rw[if_neg (by simp[h]),F_ (by omega) (by omega),sb];simp only[Int.toNat_natCast];rw[gw_ (λk x=>if x=ys.getD k 0 then none else some false) xs (λj x hj _=>by
   have hjl:=(List.getElem?_eq_some_iff.1 hj).1;unfold bp_;rw[ca_,hj,sb,gf_ _ _ (show j<ys.length by omega),sb];have:ys.getD j 0=ys[j]'(by omega):=by simp[List.getElem?_eq_getElem (show j<ys.length by omega)]
   simp only[this];by_cases e:x=ys[j]'(by omega)
   ·simp[e,lpP]
   ·simp[e,lpP]),sb]
  cases hc:firstP (λk x=>if x=ys.getD k 0 then none else some false) xs 0 with
  | none=>
   have:xs=ys:=by
    refine List.ext_getElem h λj h1 h2=>?_;have:=cN_.1 hc j _ (List.getElem?_eq_getElem h1);rw[Nat.zero_add] at this;split at this
    ·rename_i e;rw[e];simp[List.getElem?_eq_getElem h2]
    ·cases this
   simp[outP,this]
  | some r=>
   obtain⟨j,x,h1,h2⟩:=dp_ hc;rw[Nat.zero_add] at h2;split at h2
   ·cases h2
   ·rename_i hne;cases h2
    have:xs≠ys:=λe=>hne (by rw[<-e];simp[h1]);simp[outP,this]
 ·rw[if_pos (by simp;omega)];have:xs≠ys:=λe=>h (by rw[e]);simp[this]
def at'(ps:List Pv)(j:Nat):Pv:=ps.getD j default
def kc(ps:List Pv)(j:Nat):Bool:=decide (j=0∨(at' ps j).x≠(at' ps (j-1)).x)
def kp(ps:List Pv)(n:Nat):List Pv:=((List.range n).filter (kc ps)).map (at' ps)
theorem sG_{ps:List Pv}{n:Nat}(h:kc ps n=true):kp ps (n+1)=kp ps n++[at' ps n]:=by simp[kp,List.range_succ,h]
theorem tG_{ps:List Pv}{n:Nat}(h:kc ps n=false):kp ps (n+1)=kp ps n:=by simp[kp,List.range_succ,h]
theorem tE_(ps:List Pv)(n:Nat):(kp ps n).length<=n:=by
 have:=List.length_filter_le (kc ps) (List.range n);simpa [kp] using this
theorem gE_{ps:List Pv}{j:Nat}(h:j<ps.length):ps[j]? =some (at' ps j):=by
 unfold at';rw[List.getD_eq_getElem?_getD,List.getElem?_eq_getElem h];rfl
theorem ixa{ps:List Pv}{j:Nat}{i:Int}(hi:i=(j:Int))(h:j<ps.length):ix ps i=some (at' ps j):=by
 subst hi;unfold ix;rw[if_pos (by omega),Int.toNat_natCast];exact gE_ h
theorem qE_(ps:List Pv):(kp ps ps.length).Sublist ps:=by
 have h1:(kp ps ps.length).Sublist ((List.range ps.length).map (at' ps)):=(List.filter_sublist).map _;have h2:(List.range ps.length).map (at' ps)=ps:=by
  apply List.ext_getElem?;intro j;by_cases hj:j<ps.length
  ·rw[List.getElem?_map,List.getElem?_range hj,gE_ hj];rfl
  ·rw[List.getElem?_eq_none (by simp;omega),List.getElem?_eq_none (by omega)]
 rwa [h2] at h1
theorem cutF(ps:List Pv)(lo:Nat):cut ps (lo:Int) ps.length=if lo<=ps.length then some (ps.drop lo) else none:=by
 unfold cut;by_cases h:lo<=ps.length
 ·rw[if_pos (by omega),if_pos h];simp
 ·rw[if_neg (by omega),if_neg h]
theorem pi_(ps:List Pv)(hl:ps.length<=1000000000)(hx:∀p∈ps,p.x.length<=1000000000)(k0:Nat)(h0:1<=k0):∀(d m fuel:Nat)(s:List Pv),m+d=ps.length->d<fuel->k0+1<=m->s.length=ps.length->
    (kp ps m).length+1<=m->s.take (kp ps m).length=kp ps m->s.drop (m-1)=ps.drop (m-1)->k0<=(kp ps m).length->
    ∃s' c,loopF (Y_ (k0:Int)) fuel (s,((kp ps m).length:Int),((m-k0:Nat):Int))=some (.inl (s',((kp ps ps.length).length:Int),c))∧s'.take (kp ps ps.length).length=kp ps ps.length∧s'.length=ps.length∧k0<=(kp ps ps.length).length
  | 0,m,fuel,s,hd,hf,h1,h2,h3,h4,h5,h6=>by
    obtain⟨fuel,rfl⟩:∃q,fuel=q+1:=⟨fuel-1,by omega⟩;have hm:m=ps.length:=by omega
    subst hm;refine⟨s,((ps.length-k0:Nat):Int),?_,h4,h2,h6⟩;refine outF ?_ fuel;unfold Y_;simp only
    rw[cutF,if_pos (by omega),sb,if_neg (by simp;omega)]
  | d+1,m,fuel,s,hd,hf,h1,h2,h3,h4,h5,h6=>by
    obtain⟨fuel,rfl⟩:∃q,fuel=q+1:=⟨fuel-1,by omega⟩;have hat:∀j,m-1<=j->at' s j=at' ps j:=λj hj=>by
      unfold at';rw[List.getD_eq_getElem?_getD,List.getD_eq_getElem?_getD];have e:=congrArg (λl=>l[j-(m-1)]?) h5;simp only[List.getElem?_drop] at e;rw[show m-1+(j-(m-1))=j by omega] at e;rw[e]
    have e1:=hat m (by omega);have e2:=hat (m-1) (by omega);have hm1:=hx _ (List.mem_of_getElem? (gE_ (ps:=ps) (j:=m) (by omega)));have hm2:=hx _ (List.mem_of_getElem? (gE_ (ps:=ps) (j:=m-1) (by omega)));have step:∃s',Y_ (k0:Int) (s,((kp ps m).length:Int),((m-k0:Nat):Int))=some (.go (s',((kp ps (m+1)).length:Int),((m+1-k0:Nat):Int)))∧s'.length=ps.length∧(kp ps (m+1)).length+1<=m+1∧
        s'.take (kp ps (m+1)).length=kp ps (m+1)∧s'.drop m=ps.drop m∧k0<=(kp ps (m+1)).length:=by
      unfold Y_ nn;simp only
      rw[cutF,if_pos (by omega),sb,if_pos (by simp;omega),ixa (j:=m) (by omega) (by omega),sb,if_pos (by omega),sb,sb,F_ (by omega) (by omega),sb,ixa (j:=m-1) (by omega) (by omega),sb,if_pos (by omega),sb,sb,e1,e2,ti_ _ _ hm1 hm2,sb];by_cases hc:(at' ps m).x=(at' ps (m-1)).x
      · have hk : kc ps m = false := by unfold kc;rw[decide_eq_false_iff_not];intro h;rcases h with h|h;· omega
                                        · exact h hc
        rw[if_neg (by simp[hc]),F_ (by omega) (by omega),sb,tG_ hk];refine⟨s,?_,h2,by omega,h4,?_,h6⟩
        · rw[show((m-k0:Nat):Int)+1=((m+1-k0:Nat):Int) by omega]
        · have:=congrArg (List.drop 1) h5
          rw[List.drop_drop,List.drop_drop,show m-1+1=m by omega] at this;exact this
      · have hk:kc ps m=true:=by unfold kc;rw[decide_eq_true_eq];exact .inr hc
        have hlt:(kp ps m).length<s.length:=by omega
        rw[if_pos (by simp[hc]),sb,sb,sb,ixa (i:=((kp ps m).length:Int)) (j:=(kp ps m).length) rfl hlt,sb];unfold Go.Proofs.YtdbbeldgdgonfaaGreat.st;rw[if_pos (by omega),sb,F_ (by omega) (by omega),sb,F_ (by omega) (by omega),sb,sG_ hk];refine⟨s.set (kp ps m).length (at' ps m),?_,by simp[h2],by simp;omega,?_,?_,by simp;omega⟩
        · rw[show((m-k0:Nat):Int)+1=((m+1-k0:Nat):Int) by omega,Int.toNat_natCast]
          simp
        · rw[List.length_append,List.length_cons,List.length_nil,List.take_add_one,List.take_set_of_le (Nat.le_refl _),h4,List.getElem?_set_self hlt]
          rfl
        · rw[List.drop_set_of_lt (by omega)]
          have:=congrArg (List.drop 1) h5;rw[List.drop_drop,List.drop_drop,show m-1+1=m by omega] at this;exact this
    obtain⟨s',g1,g2,g3,g4,g5,g6⟩:=step;rw[goF g1];exact pi_ ps hl hx k0 h0 d (m+1) fuel s' (by omega) (by omega) (by omega) g2 g3 g4 (by simpa using g5) g6
theorem oj_(ps:List Pv)(hl:ps.length<=1000000000)(hx:∀p∈ps,p.x.length<=1000000000)(fuel0:Nat)(hf0:ps.length<fuel0):∀(d k fuel:Nat),k+d=ps.length->d<fuel->1<=k->kp ps k=ps.take k->
    ∃q,loopF (U_ fuel0) fuel (ps,(k:Int))=some q∧(q=.inr (kp ps ps.length)∨∃c,q=.inl (kp ps ps.length,c))
  | 0,k,fuel,hd,hf,h1,h2=>by
    obtain⟨fuel,rfl⟩:∃q,fuel=q+1:=⟨fuel-1,by omega⟩;have hk:k=ps.length:=by omega
    subst hk;rw[List.take_length] at h2;refine⟨_,outF (t:=(ps,(ps.length:Int))) ?_ fuel,.inr ⟨_,by rw[h2]⟩⟩;unfold U_;simp only
    rw[if_neg (by simp)]
  | d + 1, k, fuel, hd, hf, h1, h2 => by
    obtain⟨fuel,rfl⟩:∃q,fuel=q+1:=⟨fuel-1,by omega⟩;have hm1:=hx _ (List.mem_of_getElem? (gE_ (ps:=ps) (j:=k) (by omega)));have hm2:=hx _ (List.mem_of_getElem? (gE_ (ps:=ps) (j:=k-1) (by omega)));by_cases hc:(at' ps k).x=(at' ps (k-1)).x
    · have hk : kc ps k = false := by unfold kc;rw[decide_eq_false_iff_not];intro h;rcases h with h|h;· omega
                                      · exact h hc
      have hkp:kp ps (k+1)=ps.take k:=by rw[tG_ hk,h2]
      have hkl:(kp ps (k+1)).length=k:=by rw[hkp,List.length_take];omega
      obtain⟨s',c,g1,g2,g3,g4⟩:=pi_ ps hl hx k h1 d (k+1) fuel0 ps (by omega) (by omega) (by omega) rfl (by omega) (by rw[hkl,hkp]) rfl (by omega);rw[hkl,show((k+1-k:Nat):Int)=1 by omega] at g1;have hkle:=tE_ ps ps.length;refine⟨_,retF (r:=kp ps ps.length) ?_ fuel,.inl rfl⟩;unfold U_;simp only
      rw[if_pos (by simp;omega),ixa (j:=k) rfl (by omega),sb,F_ (by omega) (by omega),sb,ixa (j:=k-1) (by omega) (by omega),sb,ti_ _ _ hm1 hm2,sb,if_pos (by simp[hc]),cutF,if_pos (by omega),sb,g1,sb];simp only
      rw[cutF,if_pos (by omega),sb,sb];unfold cut;rw[if_pos (by omega),sb];simp only[Int.toNat_natCast,show(0:Int).toNat=0 from rfl,List.drop_zero,g2]
    · have hk:kc ps k=true:=by unfold kc;rw[decide_eq_true_eq];exact .inr hc
      have hkp:kp ps (k+1)=ps.take (k+1):=by
        rw[sG_ hk,h2,List.take_add_one,gE_ (by omega)];rfl
      have g1:U_ fuel0 (ps,(k:Int))=some (.go (ps,((k+1:Nat):Int))):=by
        unfold U_;simp only
        rw[if_pos (by simp;omega),ixa (j:=k) rfl (by omega),sb,F_ (by omega) (by omega),sb,ixa (j:=k-1) (by omega) (by omega),sb,ti_ _ _ hm1 hm2,sb,if_neg (by simp[hc]),F_ (by omega) (by omega),sb];simp
      rw[goF g1];exact oj_ ps hl hx fuel0 hf0 d (k+1) fuel (by omega) (by omega) (by omega) hkp
theorem rC_(ps:List Pv)(hl:ps.length<=1000000000)(hx:∀p∈ps,p.x.length<=1000000000)(fuel:Nat)(hf:ps.length<fuel):aT_ fuel ps=some (kp ps ps.length):=by
 unfold aT_;by_cases h2:ps.length<2
 ·rw[if_pos (by simp;omega)]
  match ps,h2 with
  |[],_=>rfl
  |[p],_=>rfl
  |_::_::_,h=>exfalso;simp only[List.length_cons] at h;omega
 ·rw[if_neg (by simp;omega)];have h1:kp ps 1=ps.take 1:=by
   match ps,h2 with
   |p::_,_=>rfl
   |[],h=>simp at h
  obtain⟨q,e,hq⟩:=oj_ ps hl hx fuel hf (ps.length-1) 1 fuel (by omega) (by omega) (by omega) h1;rw[show((1:Nat):Int)=1 from rfl] at e;rw[e,sb];rcases hq with rfl|⟨c,rfl⟩<;>rfl
end
section
open Go.RowKit
theorem tJ_{L:Nat}(ps:List Pv)(hL:∀p∈ps,p.x.length=L)(hs:ps.Pairwise λa b=>¬ordL b.x a.x<0):sorS ((kp ps ps.length).map (·.x))∧∀z,z∈(kp ps ps.length).map (·.x)<->z∈ps.map (·.x):=by
  have hat:∀i,i<ps.length->at' ps i∈ps:=λi hi=>List.mem_of_getElem? (gE_ hi);have hpw:∀i j,i<j->j<ps.length->¬ordL (at' ps j).x (at' ps i).x<0:=λi j hij hj=>by
    have:=List.pairwise_iff_getElem.1 hs i j (by omega) hj hij;have e1:ps[i]'(by omega)=at' ps i:=by have:=gE_ (ps:=ps) (j:=i) (by omega);rw[List.getElem?_eq_getElem (by omega)] at this;exact Option.some.inj this
    have e2:ps[j]=at' ps j:=by have:=gE_ (ps:=ps) (j:=j) hj;rw[List.getElem?_eq_getElem hj] at this;exact Option.some.inj this
    rw[e1,e2] at this;exact this
  have hle:∀i j,i<=j->j<ps.length->(at' ps i).x=(at' ps j).x∨ordL (at' ps i).x (at' ps j).x<0:=λi j hij hj=>by
    by_cases e:i=j
    · subst e;exact .inl rfl
    · have h1:=hpw i j (by omega) hj
      have h2:=hF_ (at' ps i).x (at' ps j).x;by_cases h0:ordL (at' ps i).x (at' ps j).x=0
      · exact .inl ((hA_ (by rw[hL _ (hat i (by omega)),hL _ (hat j hj)])).1 h0)
      · exact .inr (by omega)
  constructor
  · unfold sorS kp
    rw[List.map_map,List.pairwise_map];have hr:(List.range ps.length).Pairwise (·<·):=List.pairwise_lt_range;refine List.Pairwise.imp_of_mem (λ{i j} hi hj hij=>?_) (hr.filter (kc ps));have hj1:=List.mem_range.1 (List.mem_filter.1 hj).1;have hj2:=(List.mem_filter.1 hj).2;unfold kc at hj2;rw[decide_eq_true_eq] at hj2
    have hne : (at' ps j).x ≠ (at' ps (j - 1)).x := by rcases hj2 with h|h;· omega
                                                       · exact h
    have hlt:ordL (at' ps (j-1)).x (at' ps j).x<0:=by
      rcases hle (j-1) j (by omega) hj1 with h|h
      · exact absurd h.symm hne
      · exact h
    show ordL (at' ps i).x (at' ps j).x<0;rcases hle i (j-1) (by omega) (by omega) with h|h
    · rw[h];exact hlt
    · exact if_ (by rw[hL _ (hat i (by omega)),hL _ (hat (j-1) (by omega))]) (by rw[hL _ (hat j hj1),hL _ (hat (j-1) (by omega))]) h hlt
  · intro z
    constructor
    · intro hz
      obtain⟨p,hp,rfl⟩:=List.mem_map.1 hz;exact List.mem_map.2 ⟨p,(qE_ ps).subset hp,rfl⟩
    · intro hz
      obtain⟨p,hp,rfl⟩:=List.mem_map.1 hz;obtain⟨i,hi⟩:=List.getElem?_of_mem hp;have hil:=(List.getElem?_eq_some_iff.1 hi).1;have:∀i,i<ps.length->(at' ps i).x∈(kp ps ps.length).map (·.x):=by
        intro i
        induction i with
        | zero=>
          intro h;refine List.mem_map.2 ⟨_,List.mem_map.2 ⟨0,List.mem_filter.2 ⟨List.mem_range.2 h,by simp[kc]⟩,rfl⟩,rfl⟩
        | succ i ih=>
          intro h;by_cases hc:kc ps (i+1)=true
          · exact List.mem_map.2 ⟨_,List.mem_map.2 ⟨i+1,List.mem_filter.2 ⟨List.mem_range.2 h,hc⟩,rfl⟩,rfl⟩
          · have:(at' ps (i+1)).x=(at' ps i).x:=by
              unfold kc at hc;rw[decide_eq_true_eq] at hc;exact Classical.byContradiction λh=>hc (.inr (by simpa using h))
            rw[this];exact ih (by omega)
      have e1:=gE_ hil;rw[hi] at e1;cases e1
      exact this i hil
theorem sj_(ps ps1:List Pv){L:Nat}(hL:∀p∈ps,p.x.length=L)(hp:ps1.Perm ps)(hs:ps1.Pairwise λa b=>¬ordL b.x a.x<0):(kp ps1 ps1.length).map (·.x)=sxd (ps.map (·.x)):=by
 have hL1:∀p∈ps1,p.x.length=L:=λp hp1=>hL p (hp.subset hp1);obtain⟨h1,h2⟩:=tJ_ ps1 hL1 hs;obtain⟨h3,h4⟩:=lC_ (L:=L) (ps.map (·.x)) [] (λz hz=>by obtain⟨p,hp,rfl⟩:=List.mem_map.1 hz;exact hL p hp) (by simp) List.Pairwise.nil;refine pd_ (L:=L) (λz hz=>?_) h1 h3 λz=>?_
 ·obtain⟨p,hp1,rfl⟩:=List.mem_map.1 hz;exact hL1 p ((qE_ ps1).subset hp1)
 ·unfold sxd;rw[h2,h4];constructor
  ·intro h;obtain⟨p,hp1,rfl⟩:=List.mem_map.1 h;exact .inr (List.mem_map.2 ⟨p,hp.subset hp1,rfl⟩)
  ·rintro(h|h)
   ·cases h
   ·obtain⟨p,hp1,rfl⟩:=List.mem_map.1 h;exact List.mem_map.2 ⟨p,hp.symm.subset hp1,rfl⟩
def apV(a b:Pv):Prop:=∀g,a.v.ownBlock=some g->b.v.ownBlock≠some g
def sl2(w:World)(G:Nat):World:={w with heap:=w.heap.extract 0 G}
set_option maxRecDepth 100000 in
set_option maxHeartbeats 2000000 in
theorem hw_{B k kr:Nat}{o:Tg}{w:World}{v:Value}{vs:List Hv}{xs ys:List (List Int)}(h:Ow B 41 k o w v vs)(hr:Rws B 3 kr o w vs xs)(hk:k≠0)(hkr:kr≠0)(hne:kr≠k)(hB:B<=w.heap.size)(hF:srtL xs=some ys):
  Calls tX_ 144 #[v] w λe w'=>∃v' vs' o',e=.returned v'∧Ow B 41 k o' w' v' vs'∧Rws B 3 kr o' w' vs' ys∧Stp k o w o' w':=by
 unfold srtL at hF;split at hF
 rotate_left
 ·cases hF
 rename_i hcond;obtain⟨hl,hL1,hL⟩:=hcond;cases hF
 generalize (xs.headD []).length=L at hL1 hL
 -- the rows under their values
 obtain⟨r1,r2,r3⟩:=hr;let ps:List Pv:=List.zipWith (λu x=>(⟨u.v,x⟩:Pv)) vs xs
 have hpl:ps.length=xs.length:=by show(List.zipWith _ vs xs).length=_;rw[List.length_zipWith,r1,Nat.min_self]
 have hpi:∀(i:Nat)(u:Hv)(x:List Int),vs[i]? =some u->xs[i]? =some x->ps[i]? =some (⟨u.v,x⟩:Pv):=λi u x a b=>by
  show(List.zipWith _ vs xs)[i]? =_;rw[List.getElem?_zipWith,a,b]
 have hpx:ps.map (·.x)=xs:=by
  apply List.ext_getElem?;intro i;by_cases hi:i<xs.length
  ·rw[List.getElem?_map,hpi i (vs[i]'(by omega)) xs[i] (List.getElem?_eq_getElem (by omega)) (List.getElem?_eq_getElem hi),List.getElem?_eq_getElem hi];rfl
  ·rw[List.getElem?_eq_none (by rw[List.length_map,hpl];omega),List.getElem?_eq_none (by omega)]
 have hpe:∀(i:Nat)(p:Pv),ps[i]? =some p->vs[i]? =some (⟨p.v⟩:Hv)∧xs[i]? =some p.x:=λi p hp=>by
  have hi:i<xs.length:=by have:=(List.getElem?_eq_some_iff.1 hp).1;omega
  have:=hpi i (vs[i]'(by omega)) xs[i] (List.getElem?_eq_getElem (by omega)) (List.getElem?_eq_getElem hi);rw[hp] at this;cases this
  exact⟨List.getElem?_eq_getElem (by omega),List.getElem?_eq_getElem hi⟩
 have hrow:∀p∈ps,Ow B 3 kr o w p.v p.x:=λp hp=>by
  obtain⟨i,hi⟩:=List.getElem?_of_mem hp;obtain⟨a,b⟩:=hpe i p hi;exact r2 i ⟨p.v⟩ p.x a b
 have hpL:∀p∈ps,p.x.length=L:=λp hp=>hL p.x (by rw[<-hpx];exact List.mem_map.2 ⟨p,hp,rfl⟩);have hap:ps.Pairwise apV:=by
  rw[List.pairwise_iff_getElem];intro i j hi hj hij g h1 h2;obtain⟨a1,b1⟩:=hpe i _ (List.getElem?_eq_getElem hi);obtain⟨a2,b2⟩:=hpe j _ (List.getElem?_eq_getElem hj);have:=r3 i j _ _ g a1 a2 h1 h2;omega
 let o2:Tg:=frz kr o
 have ho2:∀b,o b=k->o2 b=k:=λb hb=>by show(if o b=kr then 0 else o b)=k;rw[hb,if_neg (Ne.symm hne)]
 have ho2':∀b,o2 b=k->o b=k:=λb hb=>by
  have hb:(if o b=kr then 0 else o b)=k:=hb;split at hb
  ·exact absurd hb.symm hk
  ·exact hb
 have hrd2:∀p∈ps,RdL o2 w p.v p.x:=λp hp=>(hrow p hp).frz;have hsp:Ow B 41 k o2 w v ps:=by
  obtain⟨css,c1,c2,c3,c4⟩:=h;refine⟨css,by rw[c1,r1,hpl],?_,λg hg=>ho2 g (c3 g hg),λi cs p hc hp=>?_⟩
  ·rw[hpl,<-r1];exact c2
  ·obtain⟨a,b⟩:=hpe i p hp;obtain⟨q1,q2⟩:=c4 i cs _ hc a;exact⟨q1,q2,hrd2 p (List.mem_of_getElem? hp)⟩
 clear h r2 r3;refine j_ (n:=7) (vs:=[v]) Tryz.func144 rfl rfl ?_;refine b_ ?_;refine d_ ?_;refine q_ (ah_ rfl) (by decide) trivial ?_;refine aI_ (r:=[(0,v)]) ⟨rfl,trivial⟩ ?_;refine nx ?_;refine b_ ?_;refine d_ ?_;refine q_ (g_ rfl) (by decide) trivial ?_;refine ct_ (by decide) trivial ?_;refine o_ (no_ hsp hk hpL (by omega)) Tryz.call177 ⟨rfl,rfl,trivial⟩ ?_;rintro e1 w1 ⟨rfl,ps1,hperm,hsor,hsp1,hst1⟩;refine⟨_,rfl,?_⟩;refine aI_ (r:=[(0,v)]) ⟨rfl,trivial⟩ ?_;refine nx ?_
 -- as the second call sees it
 let G:Nat:=match v.ownBlock with|some g=>g|none=>w1.heap.size
 let wb:World:=sl2 w1 G
 let oo:Tg:=λb=>if o2 b=0 then 0 else 1
 let o10:Tg:=λb=>if v.ownBlock=some b then 10 else if o2 b=0 then 0 else 1
 have hGw:G<=w1.heap.size:=by
  show(match v.ownBlock with|some g=>g|none=>w1.heap.size)<=_;cases hv:v.ownBlock with
  |none=>exact Nat.le_refl _
  |some g=>exact Nat.le_of_lt (hsp1.ltw g hv).2
 have hBG:B<=G:=by
  show B<=(match v.ownBlock with|some g=>g|none=>w1.heap.size);cases hv:v.ownBlock with
  |none=>exact Nat.le_trans hB hst1.size
  |some g=>exact(hsp1.ltw g hv).1
 have hwb:wb.heap.size=G:=by show(w1.heap.extract 0 G).size=G;simp;omega
 have hog:∀g,v.ownBlock=some g->o2 g=k:=hsp1.tagged;have hBs:Bs oo o10 wb w1:=by
  refine⟨⟨rfl,rfl,rfl,by rw[hwb];exact hGw,λb hb=>?_⟩,λb hb=>?_⟩
  ·show w1.heap[b]? =(w1.heap.extract 0 G)[b]?;rw[Array.getElem?_extract];rw[hwb] at hb;rw[if_pos (by omega)];simp
  ·rw[hwb] at hb;show(if v.ownBlock=some b then 10 else if o2 b=0 then 0 else 1)=if(if o2 b=0 then 0 else 1)=0 then 0 else 1;rw[if_neg (λe=>by
    have:G=b:=by show(match v.ownBlock with|some g=>g|none=>w1.heap.size)=b;rw[e]
    omega)]
   split<;>simp
 have hO:∀b,b<w1.heap.size->o10 b≠999:=λb _=>by
  show(if v.ownBlock=some b then 10 else if o2 b=0 then 0 else 1)≠999;split
  ·decide
  ·split<;>decide
 have h10:∀b,o2 b=0->o10 b=0:=λb hb=>by
  show(if v.ownBlock=some b then 10 else if o2 b=0 then 0 else 1)=0;rw[if_neg (λe=>by have:=hog b e;rw[hb] at this;exact hk this.symm),if_pos hb]
 have hsp2:Ow wb.heap.size 41 10 o10 w1 v ps1:=by
  obtain⟨css,c1,c2,c3,c4⟩:=hsp1;refine⟨css,c1,⟨c2.1,?_⟩,λg hg=>if_pos hg,λi cs p hc hp=>?_⟩
  ·rcases c2.2 with q|⟨g,cap,cur,rfl,q⟩
   ·exact .inl q
   ·refine .inr ⟨g,cap,cur,rfl,?_,q.2⟩;rw[hwb];exact Nat.le_refl _
  ·obtain⟨q1,q2,q3⟩:=c4 i cs p hc hp;exact⟨q1,q2,q3.mv (Nat.le_refl _) λb _ hb=>⟨rfl,h10 b hb⟩⟩
 have hl1:ps1.length<=1000000000:=by rw[hperm.length_eq];omega
 refine b_ ?_;refine d_ ?_;refine q_ (g_ rfl) (by decide) trivial ?_;refine ct_ (by decide) trivial ?_;refine o_ (eh_ 1000000001 wb w1 oo o10 hBs hO v ps1 hsp2 _ (rC_ ps1 hl1 (λp hp=>by have:=hpL p (hperm.subset hp);omega) 1000000001 (by omega))) Tryz.call178 ⟨rfl,rfl,trivial⟩ ?_;rintro e2 w2 ⟨v2,o3,rfl,hsp3,hBs3,hst2⟩;refine⟨_,rfl,?_⟩;refine q_ (ah_ rfl) (by decide) trivial ?_;refine aI_ (r:=[(2,v2)]) ⟨rfl,trivial⟩ ?_;refine nx ?_;refine n_ ?_;refine N_ (P:=tX_) (vs:=[v2]) Tryz.results144 ⟨rfl,trivial⟩ ?_
 -- what is left
 have hxs:=sj_ ps ps1 hpL hperm hsor;rw[hpx] at hxs;have hsub:(kp ps1 ps1.length).Sublist ps1:=qE_ ps1;generalize kp ps1 ps1.length=r at hsp3 hxs hsub;have hmem:∀p∈r,p∈ps:=λp hp=>hperm.subset (hsub.subset hp);let o':Tg:=λb=>if b<w.heap.size then o b else if o3 b=10 then k else 0
 have hstep:Stp k o w o' w2:=by
  refine⟨hst2.os.trans hst1.os,hst2.tape.trans hst1.tape,hst2.output.trans hst1.output,Nat.le_trans hst1.size hst2.size,λb hb hnk=>?_,λb hb=>if_pos hb⟩;have e1:=hst1.block b hb (λe=>hnk (ho2' b e));have e2:=hst2.block b (Nat.lt_of_lt_of_le hb hst1.size) (λe=>by
   have e:(if v.ownBlock=some b then 10 else if o2 b=0 then 0 else 1)=10:=e;split at e
   ·rename_i hv;exact hnk (ho2' b (hog b hv))
   ·split at e<;>cases e)
  exact e2.trans e1
 have hrow2:∀p∈r,Ow B 3 kr o' w2 p.v p.x:=λp hp=>(hrow p (hmem p hp)).stp hstep hk hne;have hapr:r.Pairwise apV:=(hperm.symm.pairwise hap (λ{a b} hab g h1 h2=>hab g h2 h1)).sublist hsub;refine⟨v2,r.map λp=>⟨p.v⟩,o',rfl,?_,⟨?_,?_,?_⟩,hstep⟩
 ·obtain⟨css,c1,c2,c3,c4⟩:=hsp3;refine⟨css,by simpa using c1,?_,λg hg=>?_,λi cs u hc hu=>?_⟩
  ·rw[List.length_map];obtain⟨q1,q2⟩:=c2;refine⟨q1,?_⟩;rcases q2 with q2|⟨g,cap,cur,e,q3,q4⟩
   ·exact .inl q2
   ·rw[hwb] at q3;exact .inr ⟨g,cap,cur,e,Nat.le_trans hBG q3,q4⟩
  ·have e3:=c3 g hg;show(if g<w.heap.size then o g else if o3 g=10 then k else 0)=k;split
   ·rename_i hgl;have hgl1:g<w1.heap.size:=Nat.lt_of_lt_of_le hgl hst1.size;have e4:=hst2.own g hgl1;rw[e3] at e4;have e5:(if v.ownBlock=some g then 10 else if o2 g=0 then 0 else 1)=10:=e4.symm;split at e5
    ·rename_i hv;exact ho2' g (hog g hv)
    ·split at e5<;>cases e5
   ·simp
  ·rw[List.getElem?_map] at hu;cases hp:r[i]? with
   |none=>rw[hp] at hu;cases hu
   |some p=>
    rw[hp] at hu;cases hu
    obtain⟨q1,q2,_⟩:=c4 i cs p hc hp;exact⟨q1,q2⟩
 ·rw[List.length_map,<-hxs,List.length_map]
 ·intro i u x hu hx;rw[List.getElem?_map] at hu;rw[<-hxs,List.getElem?_map] at hx;cases hp:r[i]? with
  |none=>rw[hp] at hu;cases hu
  |some p=>
   rw[hp] at hu hx;cases hu;cases hx
   exact hrow2 p (List.mem_of_getElem? hp)
 ·intro i j u u' g hu hu' h1 h2;rw[List.getElem?_map] at hu hu';cases hp:r[i]? with
  |none=>rw[hp] at hu;cases hu
  | some p=>
   cases hq:r[j]? with
   |none=>rw[hq] at hu';cases hu'
   |some q=>
    rw[hp] at hu;rw[hq] at hu';cases hu;cases hu'
    obtain⟨hi,ei⟩:=List.getElem?_eq_some_iff.1 hp;obtain⟨hj,ej⟩:=List.getElem?_eq_some_iff.1 hq;have hpw:=List.pairwise_iff_getElem.1 hapr;rcases Nat.lt_trichotomy i j with hlt|heq|hgt
    ·have:=hpw i j hi hj hlt g;rw[ei,ej] at this;exact absurd h2 (this h1)
    ·exact heq
    ·have:=hpw j i hj hi hgt g;rw[ei,ej] at this;exact absurd h1 (this h2)
end
end Go.Proofs.YtdbbeldgdgonfaaGreat
