/- Part 3 of what this claim rests on (Pl, Kd, Kz, Kdc, Ke), packed by pack.py. -/
import Derived.StillTail
import Derived.Test.YtdbbeldgdgonfaaGreatP02
namespace Go.Proofs.YtdbbeldgdgonfaaGreat
set_option linter.unusedSimpArgs false
set_option linter.unusedVariables false
section
theorem sb{α β:Type}(x:α)(f:α->Option β):(some x>>=f)=f x:=rfl
def firstP{α ρ:Type}(p:Nat->α->Option ρ):List α->Nat->Option ρ
  |[],_=>none
  | x::xs,k=>match p k x with
    |some r=>some r
    |none=>firstP p xs (k+1)
def outP{ρ:Type}:Option ρ->Unit ⊕ ρ
  |some r=> .inr r
  |none=> .inl ()
def lpP{ρ:Type}:Option ρ->Lp Unit Unit ρ
  |some r=> .ret r
  |none=> .go ()
theorem ld_{α ρ:Type}{body:Int->α->Unit->Option (Lp Unit Unit ρ)}(p:Nat->α->Option ρ):∀(xs:List α)(k:Nat),
  (∀(j:Nat) x,xs[j]? =some x->(∀(i:Nat) y,i<j->xs[i]? =some y->p (k+i) y=none)->body ((k+j:Nat):Int) x ()=some (lpP (p (k+j) x)))->
  forI body xs (k:Int) ()=some (outP (firstP p xs k))
 |[],k,_=>rfl
 | x::xs,k,h=>by
  have h0:=h 0 x rfl (λi y hi=>by omega);simp only[Nat.add_zero] at h0;simp only[forI,h0,firstP];cases hp:p k x with
  |some r=>rfl
  | none=>
   simp only[lpP];have:=ld_ p xs (k+1) (λj y hj hall=>by
    have:=h (j+1) y (by simpa using hj) (λi z hi hz=>by
     cases i with
     |zero=>simp at hz;subst hz;simpa using hp
     |succ i=>rw[show k+(i+1)=k+1+i by omega];exact hall i z (by omega) (by simpa using hz))
    rw[show k+1+j=k+(j+1) by omega];exact this)
   rw[show((k:Int)+1)=((k+1:Nat):Int) by omega];exact this
theorem do_{α ρ:Type}{body:Int->α->Unit->Option (Lp Unit Unit ρ)}(p:Nat->α->Option ρ)(xs:List α)
  (h:∀(j:Nat) x,xs[j]? =some x->(∀(i:Nat) y,i<j->xs[i]? =some y->p i y=none)->body (j:Int) x ()=some (lpP (p j x))):forI body xs 0 ()=some (outP (firstP p xs 0)):=by
 have:=ld_ p xs 0 (λj x hj hall=>by simp only[Nat.zero_add] at hall ⊢;exact h j x hj hall);exact this
theorem gw_{α ρ:Type}{body:Int->Unit->Option (Lp Unit Unit ρ)}(p:Nat->α->Option ρ)(xs:List α)
  (h:∀(j:Nat) x,xs[j]? =some x->(∀(i:Nat) y,i<j->xs[i]? =some y->p i y=none)->body (j:Int) ()=some (lpP (p j x))):forN body xs.length 0 ()=some (outP (firstP p xs 0)):=by
 have key:∀(ys:List α)(k:Nat),ys=xs.drop k->(∀(i:Nat) y,i<k->xs[i]? =some y->p i y=none)->forN body ys.length (k:Int) ()=some (outP (firstP p ys k)):=by
  intro ys
  induction ys with
  |nil=>intro k _ _;rfl
  | cons y ys ih=>
   intro k hk hall;have hy:xs[k]? =some y:=by
    have h1:(xs.drop k)[0]? =some y:=by rw[<-hk];rfl
    rw[List.getElem?_drop] at h1;simpa using h1
   have htl:ys=xs.drop (k+1):=by rw[<-List.drop_drop,<-hk];rfl
   have h0:=h k y hy hall;simp only[List.length_cons,forN,h0,firstP];cases hp:p k y with
   |some r=>rfl
   |none=>
    simp only[lpP];rw[show((k:Int)+1)=((k+1:Nat):Int) by omega];refine ih (k+1) htl λi z hi hz=>?_;by_cases e:i=k
    ·subst e;rw[hy] at hz;cases hz;exact hp
    ·exact hall i z (by omega) hz
 exact key xs 0 (by simp) (λi y hi=>by omega)
theorem cN_{α ρ:Type}{p:Nat->α->Option ρ}:∀{xs:List α}{k:Nat},firstP p xs k=none<->∀(j:Nat) x,xs[j]? =some x->p (k+j) x=none
 |[],k=>by simp[firstP]
 | x::xs,k=>by
  simp only[firstP];cases hp:p k x with
  |some r=>
   simp only[reduceCtorEq,false_iff];intro h;have:=h 0 x rfl;rw[Nat.add_zero,hp] at this;cases this
  | none=>
   simp only
   rw[cN_];constructor
   ·intro h j y hj;cases j with
    |zero=>simp at hj;subst hj;simpa using hp
    |succ j=>rw[show k+(j+1)=k+1+j by omega];exact h j y (by simpa using hj)
   ·intro h j y hj;rw[show k+1+j=k+(j+1) by omega];exact h (j+1) y (by simpa using hj)
theorem kN_{α:Type}{p:α->Bool}{b:Bool}:∀{xs:List α}{k:Nat},firstP (λ_ x=>if p x then none else some b) xs k=if xs.all p then none else some b
 |[],k=>rfl
 |x::xs,k=>by
  simp only[firstP,List.all_cons];by_cases hp:p x=true
  ·rw[if_pos hp];simp only[hp,Bool.true_and];exact kN_
  ·rw[if_neg hp];simp[hp]
theorem dp_{α ρ:Type}{p:Nat->α->Option ρ}{r:ρ}:∀{xs:List α}{k:Nat},firstP p xs k=some r->∃(j:Nat)(x:α),xs[j]? =some x∧p (k+j) x=some r
 |[],k,h=>by simp[firstP] at h
 | x::xs,k,h=>by
  simp only[firstP] at h;cases hp:p k x with
  |some r'=>rw[hp] at h;cases h;exact⟨0,x,rfl,by simpa using hp⟩
  |none=>
   rw[hp] at h;obtain⟨j,y,h1,h2⟩:=dp_ h;exact⟨j+1,y,by simpa using h1,by rw[show k+(j+1)=k+1+j by omega];exact h2⟩
theorem ca_{α:Type}(xs:List α)(k:Nat):ix xs (k:Int)=xs[k]? :=by
 unfold ix;rw[if_pos (by omega)];simp
theorem gf_{α:Type}[Inhabited α](xs:List α)(k:Nat)(h:k<xs.length):ix xs (k:Int)=some xs[k]:=by rw[ca_,List.getElem?_eq_getElem h]
theorem sk_{α:Type}(xs:List α)(h:1<=xs.length):cut xs 1 xs.length=some xs.tail:=by
 unfold cut;rw[if_pos ⟨by omega,by omega,by omega⟩];simp
theorem tt_{α:Type}(xs:List α):cut xs 0 xs.length=some xs:=by
 unfold cut;rw[if_pos ⟨by omega,by omega,by omega⟩];simp
theorem hH_{α:Type}(xs:List α)(h:xs.length<=1000000000):cat [] xs=some xs:=by
 unfold cat
 rw[if_pos (by simpa using h)];simp
theorem iW_{α:Type}(xs:List α)(k:Nat)(x:α)(h:k<xs.length):st xs (k:Int) x=some (xs.set k x):=by
 unfold st;rw[if_pos ⟨by omega,by omega⟩];simp
end
section
open Go.RowKit
theorem Fr.cons{a:Act}{n:Nat}{l:List (Nat×Value)}(h:Fr a n l){d:Nat}{v:Value}(hv:a.tmps.getD d undef=v):Fr a n ((d,v)::l):=
 ⟨h.size,h.defers,λt u ht=>by
  simp only[Kn] at ht;split at ht
  ·rename_i e;subst e;cases ht;exact hv
  ·exact h.get t u ht⟩
def opS(P:Program)(ops:Array Oper)(o:Oper)(a:Act)(w:World)(G:Value->World->Prop):Prop:=
  if Region.wanted o (yielded ops a.tmps)=true then o.wp P a w (λa' w'=>∃v,a'=a.put o.dst v∧G v w') (λ_ _ _=>False) else G undef w
theorem af_{P:Program}{ops:Array Oper}{o:Oper}{a:Act}{w:World}{G:Value->World->Prop}{n:Nat}{l:List (Nat×Value)}(ha:Fr a n l)(hg:Gd ops l o.guard)(h:op1 P o n l w G):opS P ops o a w G:=by
 unfold opS;rw[if_pos (mX_ ha hg)];exact h a ha
theorem aJ_{P:Program}{ops:Array Oper}{o:Oper}{a:Act}{w:World}{G:Value->World->Prop}{n:Nat}{l:List (Nat×Value)}(ha:Fr a n l){j:Nat}{want:Bool}(hg:o.guard=some (j,want))
  {s:Nat} {b:Bool} (h1:((ops[j]?).bind (·.dst))=some s) (h2:Kn l s=some (.bool b)) (hb:(b==want)=false) (h:G undef w):opS P ops o a w G:=by
 unfold opS;rw[if_neg (by rw[sR_ ha hg h1 h2 hb];decide)];exact h
theorem dx_{P:Program}{ops:Array Oper}{o:Oper}{a:Act}{w:World}{G:Value->World->Prop}{n:Nat}{l:List (Nat×Value)}(ha:Fr a n l){j:Nat}{want:Bool}(hg:o.guard=some (j,want))
  {s:Nat} (h1:((ops[j]?).bind (·.dst))=some s) (h2:Kn l s=some undef) (h:G undef w):opS P ops o a w G:=by
 unfold opS;have hw:Region.wanted o (yielded ops a.tmps)=false:=by
  have h3:=ha.get s _ h2;simp only[Region.wanted,hg,yielded,h1,Option.bind_some];cases hq:a.tmps[s]? with
  |none=>rfl
  |some u=>
   simp only[Array.getD_eq_getD_getElem?,hq,Option.getD_some] at h3;subst h3;rfl
 rw[if_neg (by rw[hw];decide)];exact h
structure DrawnI (n h:Nat) (l0:List (Nat×Value)) (D:Nat->Nat) (cs:Nat->Option Nat) (R:Nat->Value->Tg->World->Prop) (Bf:Tg->World->Prop) (listed:Array Bool) (a:Act) (w:World) (o:Tg):Prop where
  fr:Fr a n l0
  base:Bf o w
  done:∀i,i<h->listed.getD i false=true->(∀k,cs i=some k->listed.getD k false=false)->R i (a.tmps.getD (D i) undef) o w
section
variable {P:Program} {Q:Exit->Act->World->Prop} {n h:Nat} {l0:List (Nat×Value)} {ops:List Oper} {D:Nat->Nat} {ds:Nat->List Nat} {cs:Nat->Option Nat}
  {R:Nat->Value->Tg->World->Prop} {Bf:Tg->World->Prop} {tg:Nat->Nat}
theorem Fr.put_ne{a:Act}{l:List (Nat×Value)}(ha:Fr a n l){d:Nat}(hd:(l.map (·.1)).contains d=false)(v:Value):Fr (a.put (some d) v) n l:=by
 refine⟨by simp[Act.put,ha.size],by simp[Act.put,ha.defers],λt u ht=>?_⟩;have hne:d≠t:=by
  intro e;subst e;have:d∈l.map (·.1):=by
   clear ha hd
   induction l with
   |nil=>simp[Kn] at ht
   |cons p l ih=>
    obtain⟨s,x⟩:=p;simp only[Kn] at ht;split at ht
    ·rename_i e;subst e;simp
    ·simp[ih ht]
  rw[List.contains_iff_mem.2 this] at hd;cases hd
 have:=ha.get t u ht;simp only[Act.put,Array.getD_eq_getD_getElem?] at this ⊢;rw[Array.getElem?_setIfInBounds_ne hne];exact this
theorem rF_(hds:∀i,i<h->∀o w a,Fr a n l0->Bf o w->(∀j,j∈ds i->R j (a.tmps.getD (D j) undef) o w)->∀op,ops[i]? =some op->opS P ops.toArray op a w λv w'=>∃o',Stp (tg i) o w o' w'∧R i v o' w')
  (hsB:∀k o w o' w',k<h->Bf o w->Stp (tg k) o w o' w'->Bf o' w')
  (hsR:∀i k v o w o' w',i<h->k<h->i≠k->cs i≠some k->R i v o w->Stp (tg k) o w o' w'->R i v o' w')
  (hD:∀i,i<h->∃op,ops[i]? =some op∧op.dst=some (D i)∧D i<n∧(l0.map (·.1)).contains (D i)=false∧(∀j,j<h->j≠i->D j≠D i)∧
   (∀j,j∈ds i->j<h∧(∃e∈op.after,Region.binds .any e=true∧e.on=j)∧(cs j=none∨cs j=some i)))
  (hlow:∀i op,ops[i]? =some op->∀e∈op.after,Region.binds .any e=true->e.on<i)
  (hh:h<=ops.length)
  (htl:∀listed,HeadInv .any ops.toArray h listed->∀i,i<h->listed.getD i true=false->∀t,h<=t->t ∉ Region.ready .any ops.toArray listed)
  (hsq:Region.seqB .any ops.toArray (ops.length-h) h ((Array.range ops.length).map λi=>decide (i<h))=true)
  (hfin:∀a o w,Fr a n l0->Bf o w->(∀i,i<h->cs i=none->R i (a.tmps.getD (D i) undef) o w)->wpList P ops.toArray Q (ops.drop h) a w):
  ∀(fuel:Nat)(listed:Array Bool)(a:Act)(w:World)(o:Tg),DrawnI n h l0 D cs R Bf listed a w o->HeadInv .any ops.toArray h listed->
   ((List.range h).filter λi=> !listed.getD i true).length+(ops.length-h)<=fuel->((List.range h).filter λi=> !listed.getD i true).length+(ops.length-h)=fuel->wpAny P .any ops.toArray Q fuel listed a w:=by
 intro fuel
 induction fuel with
 | zero=>
  intro listed a w o hJ hI hle heq;have h0:(List.range h).filter (λi=> !listed.getD i true)=[]:=List.eq_nil_of_length_eq_zero (by omega);have hall:∀i,i<h->listed.getD i true=true:=by
   intro i hi;have:=List.filter_eq_nil_iff.1 h0 i (List.mem_range.2 hi);simpa using this
  have hlist:listed=(Array.range ops.length).map λi=>decide (i<h):=by
   apply Array.ext (by simp[hI.size]);intro i h1 h2;have h3:i<ops.length:=by simpa [hI.size] using h1
   simp only[Array.getElem_map,Array.getElem_range];by_cases hi:i<h
   ·have:=hall i hi;simp[h1] at this;simp[this,hi]
   ·have:=hI.tail i (by omega) (by simpa using h3);simp[h1] at this;simp[this,hi]
  have:=wpAny_of_seq (P:=P) (md:=.any) (ops:=ops.toArray) (Q':=Q) (ops.drop h) h listed a w (λj=>by simp[List.getElem?_drop]) (by rw[hlist];simpa using hsq)
   (hfin a o w hJ.fr hJ.base λi hi hc=>hJ.done i hi (by
    have h1:=hall i hi;have h2:i<listed.size:=by rw[hI.size];simp;omega
    simp[h2] at h1 ⊢;exact h1) (λk hk=>by rw[hc] at hk;cases hk))
  have hl:(ops.drop h).length=0:=by simp;omega
  rw[hl] at this;exact this
 | succ fuel ih=>
  intro listed a w o hJ hI hle heq;by_cases h0:(List.range h).filter (λi=> !listed.getD i true)=[]
  ·-- the head is done
   have hall:∀i,i<h->listed.getD i true=true:=by
    intro i hi;have:=List.filter_eq_nil_iff.1 h0 i (List.mem_range.2 hi);simpa using this
   have hlist:listed=(Array.range ops.length).map λi=>decide (i<h):=by
    apply Array.ext (by simp[hI.size]);intro i h1 h2;have h3:i<ops.length:=by simpa [hI.size] using h1
    simp only[Array.getElem_map,Array.getElem_range];by_cases hi:i<h
    ·have:=hall i hi;simp[h1] at this;simp[this,hi]
    ·have:=hI.tail i (by omega) (by simpa using h3);simp[h1] at this;simp[this,hi]
   have:=wpAny_of_seq (P:=P) (md:=.any) (ops:=ops.toArray) (Q':=Q) (ops.drop h) h listed a w (λj=>by simp[List.getElem?_drop]) (by rw[hlist];simpa using hsq)
    (hfin a o w hJ.fr hJ.base λi hi hc=>hJ.done i hi (by
     have h1:=hall i hi;have h2:i<listed.size:=by rw[hI.size];simp;omega
     simp[h2] at h1 ⊢;exact h1) (λk hk=>by rw[hc] at hk;cases hk))
   have hl:(ops.drop h).length=fuel+1:=by rw[h0] at heq;simp at heq ⊢;omega
   rw[hl] at this;exact this
  ·obtain⟨i0,hi0⟩:=List.exists_mem_of_ne_nil _ h0;have hi0h:=List.mem_range.1 (List.mem_filter.1 hi0).1;have hi0l:listed.getD i0 true=false:=by simpa using (List.mem_filter.1 hi0).2
   have hready:∀i,i∈Region.ready .any ops.toArray listed->i<h:=by
    intro i hi;apply Nat.lt_of_not_le;intro hle;exact htl listed hI i0 hi0h hi0l i hle hi
   have hcount:∀i,i<h->listed.getD i true=false->
     ((List.range h).filter λj=> !(listed.setIfInBounds i true).getD j true).length+1=((List.range h).filter λj=> !listed.getD j true).length:=by
    intro i hi hil;have hsz:i<listed.size:=by rw[hI.size];simp;omega
    have e1:∀(m:Nat),i<m->((List.range m).filter λj=> !(listed.setIfInBounds i true).getD j true).length+1=((List.range m).filter λj=> !listed.getD j true).length:=by
     intro m
     induction m with
     |zero=>intro h;omega
     | succ m ihm=>
      intro him;rw[List.range_succ,List.filter_append,List.filter_append,List.length_append,List.length_append];by_cases e:i=m
      ·subst e;have e2:((List.range i).filter λj=> !(listed.setIfInBounds i true).getD j true)=(List.range i).filter λj=> !listed.getD j true:=by
        apply List.filter_congr;intro j hj;have:=List.mem_range.1 hj;rw[getD_set_ne true (by omega)]
       rw[e2];have e3:(listed.setIfInBounds i true).getD i true=true:=by simp
       simp only[List.filter_cons,List.filter_nil,e3,hil];simp
      ·have:=ihm (by omega);have e4:(listed.setIfInBounds i true).getD m true=listed.getD m true:=getD_set_ne true (by omega);simp only[List.filter_cons,List.filter_nil,e4];omega
    exact e1 h hi
   refine⟨λhr=>?_,λi hi=>?_⟩
   ·-- something is always ready: not needed, what follows is asked of nothing
    exfalso;have key:∀(d i:Nat),i=d->i<h->listed.getD i true=false->∃j,j∈Region.ready .any ops.toArray listed:=by
     intro d
     induction d using Nat.strongRecOn with
     | _ d ihd=>
      intro i hid hih hil;obtain⟨op,hop,_⟩:=hD i hih;by_cases hall:∀e∈op.after,Region.binds .any e=true->listed.getD e.on false=true
      ·exact⟨i,mem_ready.2 ⟨hil,op,by simpa using hop,hall⟩⟩
      ·have:∃e,e∈op.after∧Region.binds .any e=true∧listed.getD e.on false=false:=by
        apply Classical.byContradiction;intro hno;apply hall;intro e he hb;cases hc:listed.getD e.on false with
        |true=>rfl
        |false=>exact absurd ⟨e,he,hb,hc⟩ hno
       obtain⟨e,he,hb,hc⟩:=this;have hlt:=hlow i op hop e he hb;have hsz:e.on<listed.size:=by rw[hI.size];simp;omega
       exact ihd e.on (by omega) e.on rfl (by omega) (getD_in hsz hc)
    obtain⟨j,hj⟩:=key i0 i0 rfl hi0h hi0l;rw[hr] at hj;cases hj
   ·have hih:=hready i hi;obtain⟨op,hop,hdst,hDn,hbase,hdist,hdeps⟩:=hD i hih;obtain⟨hil,op',hop',hafter⟩:=mem_ready.1 hi;have e:op'=op:=by
     have:ops.toArray[i]? =ops[i]? :=by simp
     rw[this,hop] at hop';exact(Option.some.inj hop').symm
    subst e;unfold wpOp;rw[hop'];have hob:=hds i hih o w a hJ.fr hJ.base (λj hj=>by
     obtain⟨hjh,⟨ed,hed1,hed2,hed3⟩,hc⟩:=hdeps j hj;refine hJ.done j hjh (by rw[<-hed3];exact hafter ed hed1 hed2) (λk hk=>?_);rcases hc with hc|hc
     ·rw[hc] at hk;cases hk
     ·rw[hc] at hk;cases hk
      exact getD_both hil) op' hop
    have hnext:∀(v:Value)(w':World)(o':Tg),Stp (tg i) o w o' w'->R i v o' w'->wpAny P .any ops.toArray Q fuel (listed.setIfInBounds i true) (a.put op'.dst v) w':=by
     intro v w' o' hst hR;rw[hdst];have hc:=hcount i hih hil;refine ih _ _ _ o' ⟨hJ.fr.put_ne hbase v,hsB i o w o' w' hih hJ.base hst,λj hj hlj hcj=>?_⟩ (hI.set hi hih) (by omega) (by omega);by_cases hji:j=i
     ·subst hji;have:((a.put (some (D j)) v).tmps.getD (D j) undef)=v:=by
       have hlt:D j<a.tmps.size:=by rw[hJ.fr.size];exact hDn
       simp[Act.put,Array.getD_eq_getD_getElem?,hlt]
      rw[this];exact hR
     ·have hne:=hdist j hj hji;have:((a.put (some (D i)) v).tmps.getD (D j) undef)=a.tmps.getD (D j) undef:=by
       simp only[Act.put,Array.getD_eq_getD_getElem?];rw[Array.getElem?_setIfInBounds_ne (Ne.symm hne)]
      rw[this];rw[getD_set_ne false (λe=>hji e.symm)] at hlj;have hcs:cs j≠some i:=by
       intro e;have:=hcj i e;have hsz:i<listed.size:=by rw[hI.size];simp;omega
       simp[hsz] at this
      refine hsR j i _ o w o' w' hj hih hji hcs (hJ.done j hj hlj λk hk=>?_) hst;have:=hcj k hk;by_cases hki:k=i
      ·subst hki;exact absurd hk hcs
      ·rw[getD_set_ne false (λe=>hki e.symm)] at this;exact this
    unfold opS at hob;simp only[hop',];by_cases hw:Region.wanted op' (yielded ops.toArray a.tmps)=true
    ·rw[if_pos hw] at hob ⊢;refine .inl (eH_ ?_ ?_ hob)
     ·rintro a' w' ⟨v,rfl,o',hst,hR⟩;exact hnext v w' o' hst hR
     ·intro _ _ _ h;exact h.elim
    ·rw[if_neg hw] at hob ⊢;obtain⟨o',hst,hR⟩:=hob;exact hnext undef w o' hst hR
end
abbrev Pr:=Value->Tg->World->Prop
def prT:Pr:=λ_ _ _=>True
def St(b:Nat)(p:Pr):Prop:=∀t v o w o' w',t≠0∧t<=999->t≠b->p v o w->Stp t o w o' w'->p v o' w'
theorem E_(c:Value):St 0 (λv _ _=>v=c):=λ_ _ _ _ _ _ _ _ h _=>h
def AllSt:List Nat->List Pr->Prop
  |b::bs,p::ps=>St b p∧AllSt bs ps
  |[],[]=>True
  |_,_=>False
theorem AllSt.get:∀{bs:List Nat}{ps:List Pr},AllSt bs ps->∀i,St (bs.getD i 0) (ps.getD i prT)
 |[],[],_,i=>λ_ _ _ _ _ _ _ _ _ _=>trivial
 |b::bs,p::ps,h,0=>h.1
 |b::bs,p::ps,h,i+1=>by simpa using AllSt.get h.2 i
 |[],_::_,h,_=>h.elim
 |_::_,[],h,_=>h.elim
def Deps(Dl:List Nat)(Rl:List Pr)(a:Act)(o:Tg)(w:World):List Nat->Prop
  |[]=>True
  |j::js=>(Rl.getD j prT) (a.tmps.getD (Dl.getD j 0) undef) o w∧Deps Dl Rl a o w js
theorem Deps.of{Dl:List Nat}{Rl:List Pr}{a:Act}{o:Tg}{w:World}:∀{js:List Nat},(∀j,j∈js->(Rl.getD j prT) (a.tmps.getD (Dl.getD j 0) undef) o w)->Deps Dl Rl a o w js
 |[],_=>trivial
 |j::js,h=>⟨h j (by simp),Deps.of λi hi=>h i (by simp[hi])⟩
def Obs(P:Program)(all:List Oper)(n:Nat)(l0:List (Nat×Value))(Bf:Tg->World->Prop)(Dl:List Nat)(Rl:List Pr)(tgl:List Nat)(dsl:List (List Nat)):Nat->List Oper->Prop
  |_,[]=>True
  |i,op::ops=>(∀o w a,Fr a n l0->Bf o w->Deps Dl Rl a o w (dsl.getD i [])->opS P all.toArray op a w λv w'=>∃o',Stp (tgl.getD i 999) o w o' w'∧(Rl.getD i prT) v o' w')∧Obs P all n l0 Bf Dl Rl tgl dsl (i+1) ops
theorem Obs.get{P:Program}{all:List Oper}{n:Nat}{l0:List (Nat×Value)}{Bf:Tg->World->Prop}{Dl:List Nat}{Rl:List Pr}{tgl:List Nat}{dsl:List (List Nat)}:
  ∀{ops:List Oper}{k:Nat},Obs P all n l0 Bf Dl Rl tgl dsl k ops->∀i op,ops[i]? =some op->∀o w a,Fr a n l0->Bf o w->Deps Dl Rl a o w (dsl.getD (k+i) [])->
   opS P all.toArray op a w λv w'=>∃o',Stp (tgl.getD (k+i) 999) o w o' w'∧(Rl.getD (k+i) prT) v o' w'
 |[],k,_,i,op,h=>by simp at h
 |o::ops,k,hO,0,op,h=>by simp at h;subst h;exact hO.1
 |o::ops,k,hO,i+1,op,h=>by
  have:=Obs.get hO.2 i op (by simpa using h);rw[show k+1+i=k+(i+1) by omega] at this;exact this
def Fin(a:Act)(o:Tg)(w:World):List Nat->List (Option Nat)->List Pr->Prop
  |d::ds,none::cs,p::ps=>p (a.tmps.getD d undef) o w∧Fin a o w ds cs ps
  |_::ds,some _::cs,_::ps=>True∧Fin a o w ds cs ps
  |_,_,_=>True
theorem Fin.of{a:Act}{o:Tg}{w:World}:∀{Dl:List Nat}{cs:List (Option Nat)}{ps:List Pr},(∀i,i<Dl.length->cs.getD i none=none->(ps.getD i prT) (a.tmps.getD (Dl.getD i 0) undef) o w)->Fin a o w Dl cs ps
 |[],_,_,_=>trivial
 |d::ds,[],_,_=>trivial
 |d::ds,none::cs,[],_=>trivial
 |d::ds,some _::cs,[],_=>trivial
 |d::ds,none::cs,p::ps,h=>⟨by simpa using h 0 (by simp) rfl,Fin.of λi hi hc=>by simpa using h (i+1) (by simp;omega) (by simpa using hc)⟩
 |d::ds,some k::cs,p::ps,h=>⟨trivial,Fin.of λi hi hc=>by simpa using h (i+1) (by simp;omega) (by simpa using hc)⟩
def drawnB(ops:Array Oper)(n:Nat)(base Dl:List Nat)(dsl:List (List Nat))(csl:List (Option Nat))(tgl bdl tags:List Nat):Bool:=
  decide (Dl.length<=ops.size)&&tags.contains 999&&tags.all (λt=>decide (t≠0∧t<=999))&&
  ((List.range Dl.length).all λi=>(match ops[i]? with|some o=>o.dst==some (Dl.getD i 0)|none=>false)&&decide (Dl.getD i 0<n)&& !base.contains (Dl.getD i 0)&&
    ((List.range Dl.length).all λj=>decide (j=i)||(decide (Dl.getD j 0≠Dl.getD i 0)&&(csl.getD i none==some j||decide (tgl.getD j 999≠bdl.getD i 0))))&&
    ((dsl.getD i []).all λj=>decide (j<Dl.length)&&Region.waitsFor .any ops i j&&(csl.getD j none==none||csl.getD j none==some i))&&
    tags.contains (tgl.getD i 999))&&
  ((List.range ops.size).all λi=>match ops[i]? with|some o=>o.after.all (λe=> !Region.binds .any e||decide (e.on<i))|none=>true)&&
  (decide (Dl.length=ops.size)||(Region.sinkB .any ops Dl.length&&Region.chainB .any ops Dl.length))&&
  Region.seqB .any ops (ops.size-Dl.length) Dl.length ((Array.range ops.size).map λi=>decide (i<Dl.length))
theorem cw_{P:Program}{Q:Exit->Act->World->Prop}{n id:Nat}{l:List (Nat×Value)}{ops:List Oper}{w:World}{o:Tg}
  (l0:List (Nat×Value)) (base Dl:List Nat) (dsl:List (List Nat)) (csl:List (Option Nat)) (tgl bdl tags:List Nat) (Rl:List Pr) (Bf:Tg->World->Prop)
  (hm:P.follows .mixedOrders=true) (hchk:drawnB ops.toArray n base Dl dsl csl tgl bdl tags=true) (hbase:l0.map (·.1)=base) (hsub:Sub l0 l) (hB0:Bf o w)
  (hSB:∀t o w o' w',t∈tags->Bf o w->Stp t o w o' w'->Bf o' w') (hSR:AllSt bdl Rl) (hob:Obs P ops n l0 Bf Dl Rl tgl dsl 0 (ops.take Dl.length))
  (hfin:∀o w a,Fr a n l0->Bf o w->Fin a o w Dl csl Rl->wpList P ops.toArray Q (ops.drop Dl.length) a w):wpC P (.region id ops.toArray true) Q n l w:=by
 intro a ha;simp only[drawnB,Bool.and_eq_true] at hchk;obtain⟨⟨⟨⟨⟨⟨c1,c2⟩,c3⟩,c4⟩,c5⟩,c6⟩,c7⟩:=hchk;have hh:Dl.length<=ops.length:=by simpa using c1
 have h999:999∈tags:=by simpa using c2
 have htags:∀t,t∈tags->t≠0∧t<=999:=λt ht=>by simpa using List.all_eq_true.1 c3 t ht
 have c4':∀i,i<Dl.length->_:=λi hi=>List.all_eq_true.1 c4 i (List.mem_range.2 hi);simp only[Bool.and_eq_true] at c4';refine wp_region_any hm ?_;have hinv:HeadInv .any ops.toArray Dl.length (Array.replicate ops.toArray.size false):=
  ⟨by simp,λj oj _ hl=>(by rw[getD_replicate_false] at hl;cases hl),λt _ ht=>getD_in (by simpa using ht) (getD_replicate_false _ _)⟩
 have hcnt:((List.range Dl.length).filter λi=> !(Array.replicate ops.toArray.size false).getD i true).length=Dl.length:=by
  rw[List.filter_eq_self.2]
  ·simp
  ·intro i hi;have hi':=List.mem_range.1 hi;have:(Array.replicate ops.toArray.size false).getD i true=false:=getD_in (by simp;omega) (getD_replicate_false _ _);rw[this];rfl
 have:=rF_ (P:=P) (Q:=Q) (n:=n) (h:=Dl.length) (l0:=l0) (ops:=ops) (D:=λi=>Dl.getD i 0) (ds:=λi=>dsl.getD i []) (cs:=λi=>csl.getD i none)
  (R:=λi=>Rl.getD i prT) (Bf:=Bf) (tg:=λi=>tgl.getD i 999)
  (λi hi o w a hf hb hd op hop=>by
   have:=Obs.get hob i op (by rw[List.getElem?_take,if_pos hi];exact hop) o w a hf hb (by rw[Nat.zero_add];exact Deps.of hd);rw[Nat.zero_add] at this;exact this)
  (λk o w o' w' hk hb hs=>hSB _ o w o' w' (by have:=(c4' k hk).2;simpa using this) hb hs)
  (λi k v o w o' w' hi hk hik hcs hR hs=>by
   have h1:=(c4' k hk).2;have h2:=List.all_eq_true.1 (c4' i hi).1.1.2 k (List.mem_range.2 hk);simp only[Bool.or_eq_true,Bool.and_eq_true,decide_eq_true_eq,beq_iff_eq] at h2;rcases h2 with h2|⟨_,h2⟩
   ·exact absurd h2.symm hik
   ·rcases h2 with h2|h2
    ·exact absurd h2 hcs
    ·exact hSR.get i _ v o w o' w' (htags _ (by simpa using h1)) h2 hR hs)
  (λi hi=>by
   obtain⟨⟨⟨⟨⟨g1,g2⟩,g3⟩,g4⟩,g5⟩,g6⟩:=c4' i hi;have hlt:i<ops.length:=by omega
   have hop:ops[i]? =some (ops[i]'hlt):=List.getElem?_eq_getElem hlt;refine⟨_,hop,?_,by simpa using g2,by rw[hbase];simpa using g3,λj hj hji=>?_,λj hj=>?_⟩
   ·simp only[List.getElem?_toArray,hop] at g1;simpa using g1
   ·have:=List.all_eq_true.1 g4 j (List.mem_range.2 hj);simp only[Bool.or_eq_true,Bool.and_eq_true,decide_eq_true_eq] at this;rcases this with h|h
    ·exact absurd h hji
    ·exact h.1
   ·have:=List.all_eq_true.1 g5 j hj;simp only[Bool.and_eq_true,decide_eq_true_eq,Bool.or_eq_true,beq_iff_eq] at this;obtain⟨⟨k1,k2⟩,k3⟩:=this;obtain⟨oj,hoj,e,he,hb,hon⟩:=Region.waitsFor_spec k2;have:oj=ops[i]'hlt:=by
     simp only[List.getElem?_toArray,hop] at hoj;exact(Option.some.inj hoj).symm
    subst this;exact⟨k1,⟨e,he,hb,hon⟩,k3⟩)
  (λi op hop e he hb=>by
   have hlt:i<ops.length:=(List.getElem?_eq_some_iff.1 hop).1;have:=List.all_eq_true.1 c5 i (List.mem_range.2 (by simpa using hlt));simp only[List.getElem?_toArray,hop] at this;have h2:=Array.all_eq_true_iff_forall_mem.1 this e he;simp only[Bool.or_eq_true,Bool.not_eq_true',decide_eq_true_eq] at h2;rcases h2 with h2|h2
   ·rw[hb] at h2;cases h2
   ·exact h2)
  hh
  (λlisted hI i hi hil t ht hr=>by
   simp only[Bool.or_eq_true,Bool.and_eq_true,decide_eq_true_eq] at c6;rcases c6 with c6|⟨c6,c6'⟩
   ·obtain⟨_,ot,hot,_⟩:=mem_ready.1 hr;have:=(Array.getElem?_eq_some_iff.1 hot).1;omega
   ·by_cases hn:Dl.length<ops.toArray.size
    ·exact tail_waits c6 c6' hn hI _ i rfl hi hil t ht hr
    ·obtain⟨_,ot,hot,_⟩:=mem_ready.1 hr;have:=(Array.getElem?_eq_some_iff.1 hot).1;omega)
  (by simpa using c7)
  (λa o w hf hb hd=>hfin o w a hf hb (Fin.of hd))
  ops.toArray.size (Array.replicate ops.toArray.size false) a {w with drawn:=w.drawn+1} o
  ⟨ha.sub hsub,hSB 999 o w o _ h999 hB0 (il_ o w 999),λi hi hl=>(by rw[getD_replicate_false] at hl;cases hl)⟩ hinv (by rw[hcnt];simp;omega) (by rw[hcnt];simp;omega)
 exact this
end
section
open Go.RowKit
abbrev Yl:=List Int
abbrev Yk:=List (List Int)
theorem Zb{a b:Bool}(h:a=b):some (Value.bool a)=some (Value.bool b):=congrArg (λb=>some (Value.bool b)) h
theorem Zj{α:Type}{a b:α}(h:some a=some b):a=b:=Option.some.inj h
abbrev ZP(b:Nat):Value:=.pointer (some ⟨b,0,none⟩)
abbrev ZI(x:Int):Value:=.int .i64 x
section
variable {P:Program} {Q Q':Exit->Act->World->Prop} {n d:Nat} {l:List (Nat×Value)} {w w':World} {ops:Array Oper} {rest:List Oper} {v:Value} {op:Op} {ty:TypeId} {ps:String} {af:Array Edge} {g:Option (Nat×Bool)} {x:Operand}
theorem Zm(hx:ev l x=some v)(h:wpF P ops Q rest n ((d,v)::l) w)(hd:d<n:=by decide)(hg:Gd ops l g:=by exact trivial):wpF P ops Q (⟨some d,.move x,ty,ps,af,g⟩::rest) n l w:=q_ (g_ hx) hd hg h
theorem Za(hx:ev l x=some v)(h:wpF P ops Q rest n ((d,v)::l) w)(hd:d<n:=by decide)(hg:Gd ops l g:=by exact trivial):wpF P ops Q (⟨some d,.assign x,ty,ps,af,g⟩::rest) n l w:=q_ (ah_ hx) hd hg h
theorem Zv(hr:∀ρ,Agr ρ l->(execOp ρ ⟨some d,op,ty,ps,af,g⟩).run P w=.ok (.value v) w')(h:wpF P ops Q rest n ((d,v)::l) w')(hd:d<n:=by decide)(hg:Gd ops l g:=by exact trivial):wpF P ops Q (⟨some d,op,ty,ps,af,g⟩::rest) n l w:=q_ hr hd hg h
theorem Zo(h:op1 P ⟨some d,op,ty,ps,af,g⟩ n l w (λv w'=>wpF P ops Q rest n ((d,v)::l) w'))(hd:d<n:=by decide)(hg:Gd ops l g:=by exact trivial):wpF P ops Q (⟨some d,op,ty,ps,af,g⟩::rest) n l w:=ct_ hd hg h
theorem Ze(r:List (Nat×Value))(h:∀a,Fr a n r->Q .normal a w)(hs:Sub r l:=by repeat (first|exact trivial|refine⟨rfl,?_⟩)):wpF P ops Q [] n l w:=aI_ hs h
theorem Zk{K:Act->Prop}(r:List (Nat×Value))(h:∀a,Fr a n r->K a)(hs:Sub r l:=by repeat (first|exact trivial|refine⟨rfl,?_⟩)):∀a,Fr a n l->K a:=to_k hs h
theorem Fr.sb{a:Act}(ha:Fr a n l){r:List (Nat×Value)}(hs:Sub r l:=by repeat (first|exact trivial|refine⟨rfl,?_⟩)):Fr a n r:=ha.sub hs
theorem Fr.c{a:Act}(ha:Fr a n l)(h:a.tmps.getD d undef=v):Fr a n ((d,v)::l):=Fr.cons ha h
theorem ZF{α:Type}{y:Bool}{A B r:α}(s:y=false)(h:(if y=true then A else B)=r):B=r:=by rw[if_neg (by rw[s];decide)] at h;exact h
theorem Zq{id:Nat}{o:List Oper}{y:Code}(h:wpF P o.toArray (Exit.then (y.wp P Q) Q) o n l w):wpC P (.seq (.region id o.toArray false) y) Q n l w:=b_ (d_ h)
theorem Zn{id:Nat}{o:List Oper}{y:Code}(h:wpF P o.toArray (Exit.then (y.wp P Q) Q) o n l w):∀a,Fr a n l->Exit.then (Code.wp P (.seq (.region id o.toArray false) y) Q) Q' .normal a w:=nx (b_ (d_ h))
theorem Zx{t:Nat}{o:Tg}{p:Tg->Prop}(h:p o):∃o',Stp t o w o' w∧p o':=⟨o,Stp.refl _ _ _,h⟩
theorem Zs{ops:Array Oper}{o:Oper}{a:Act}{G:Value->World->Prop}(ha:Fr a n l)(h:op1 P o n l w G)(hg:Gd ops l o.guard:=by exact trivial):opS P ops o a w G:=af_ ha hg h
theorem Zr{fn:Func}{R:Ending->World->Prop}{rs:List ResultVar}(hres:fn.results=rs.toArray)(vs:List Value)(hR:R (.returned (packed vs)) w)(h:RsL P l w rs vs:=by repeat (first|exact trivial|refine⟨rfl,?_⟩)):∀a,Fr a n l->bodyPost P fn R .ret a w:=N_ hres h hR
end
end
section
open Go.RowKit
section
variable {P:Program} {Q:Exit->Act->World->Prop} {n h:Nat} {l0:List (Nat×Value)} {ops:List Oper} {D:Nat->Nat} {ds:Nat->List Nat} {cs:Nat->Option Nat}
  {R:Nat->Value->Tg->World->Prop} {Bf:Tg->World->Prop} {tg:Nat->Nat}
def Anc(ds:Nat->List Nat):Nat->Nat->Nat->Prop
  |0,_,_=>False
  |d+1,i,k=>k∈ds i∨∃m∈ds i,Anc ds d m k
theorem pw_(hds:∀i,i<h->∀o w a,Fr a n l0->Bf o w->(∀j,j∈ds i->R j (a.tmps.getD (D j) undef) o w)->∀op,ops[i]? =some op->opS P ops.toArray op a w λv w'=>∃o',Stp (tg i) o w o' w'∧R i v o' w')
  (hsB:∀k o w o' w',k<h->Bf o w->Stp (tg k) o w o' w'->Bf o' w')
  (hsR:∀i k v o w o' w',i<h->k<h->i≠k->cs i≠some k->(∀c,cs i=some c->c ∉ ds k)->¬Anc ds 8 i k->R i v o w->Stp (tg k) o w o' w'->R i v o' w')
  (hD:∀i,i<h->∃op,ops[i]? =some op∧op.dst=some (D i)∧D i<n∧(l0.map (·.1)).contains (D i)=false∧(∀j,j<h->j≠i->D j≠D i)∧
   (∀j,j∈ds i->j<h∧(∃e∈op.after,Region.binds .any e=true∧e.on=j)∧(cs j=none∨cs j=some i)))
  (hlow:∀i op,ops[i]? =some op->∀e∈op.after,Region.binds .any e=true->e.on<i)
  (hh:h<=ops.length)
  (htl:∀listed,HeadInv .any ops.toArray h listed->∀i,i<h->listed.getD i true=false->∀t,h<=t->t ∉ Region.ready .any ops.toArray listed)
  (hsq:Region.seqB .any ops.toArray (ops.length-h) h ((Array.range ops.length).map λi=>decide (i<h))=true)
  (hfin:∀a o w,Fr a n l0->Bf o w->(∀i,i<h->cs i=none->R i (a.tmps.getD (D i) undef) o w)->wpList P ops.toArray Q (ops.drop h) a w):
  ∀(fuel:Nat)(listed:Array Bool)(a:Act)(w:World)(o:Tg),DrawnI n h l0 D cs R Bf listed a w o->HeadInv .any ops.toArray h listed->
   ((List.range h).filter λi=> !listed.getD i true).length+(ops.length-h)<=fuel->((List.range h).filter λi=> !listed.getD i true).length+(ops.length-h)=fuel->wpAny P .any ops.toArray Q fuel listed a w:=by
 intro fuel
 induction fuel with
 | zero=>
  intro listed a w o hJ hI hle heq;have h0:(List.range h).filter (λi=> !listed.getD i true)=[]:=List.eq_nil_of_length_eq_zero (by omega);have hall:∀i,i<h->listed.getD i true=true:=by
   intro i hi;have:=List.filter_eq_nil_iff.1 h0 i (List.mem_range.2 hi);simpa using this
  have hlist:listed=(Array.range ops.length).map λi=>decide (i<h):=by
   apply Array.ext (by simp[hI.size]);intro i h1 h2;have h3:i<ops.length:=by simpa [hI.size] using h1
   simp only[Array.getElem_map,Array.getElem_range];by_cases hi:i<h
   ·have:=hall i hi;simp[h1] at this;simp[this,hi]
   ·have:=hI.tail i (by omega) (by simpa using h3);simp[h1] at this;simp[this,hi]
  have:=wpAny_of_seq (P:=P) (md:=.any) (ops:=ops.toArray) (Q':=Q) (ops.drop h) h listed a w (λj=>by simp[List.getElem?_drop]) (by rw[hlist];simpa using hsq)
   (hfin a o w hJ.fr hJ.base λi hi hc=>hJ.done i hi (by
    have h1:=hall i hi;have h2:i<listed.size:=by rw[hI.size];simp;omega
    simp[h2] at h1 ⊢;exact h1) (λk hk=>by rw[hc] at hk;cases hk))
  have hl:(ops.drop h).length=0:=by simp;omega
  rw[hl] at this;exact this
 | succ fuel ih=>
  intro listed a w o hJ hI hle heq;by_cases h0:(List.range h).filter (λi=> !listed.getD i true)=[]
  ·-- the head is done
   have hall:∀i,i<h->listed.getD i true=true:=by
    intro i hi;have:=List.filter_eq_nil_iff.1 h0 i (List.mem_range.2 hi);simpa using this
   have hlist:listed=(Array.range ops.length).map λi=>decide (i<h):=by
    apply Array.ext (by simp[hI.size]);intro i h1 h2;have h3:i<ops.length:=by simpa [hI.size] using h1
    simp only[Array.getElem_map,Array.getElem_range];by_cases hi:i<h
    ·have:=hall i hi;simp[h1] at this;simp[this,hi]
    ·have:=hI.tail i (by omega) (by simpa using h3);simp[h1] at this;simp[this,hi]
   have:=wpAny_of_seq (P:=P) (md:=.any) (ops:=ops.toArray) (Q':=Q) (ops.drop h) h listed a w (λj=>by simp[List.getElem?_drop]) (by rw[hlist];simpa using hsq)
    (hfin a o w hJ.fr hJ.base λi hi hc=>hJ.done i hi (by
     have h1:=hall i hi;have h2:i<listed.size:=by rw[hI.size];simp;omega
     simp[h2] at h1 ⊢;exact h1) (λk hk=>by rw[hc] at hk;cases hk))
   have hl:(ops.drop h).length=fuel+1:=by rw[h0] at heq;simp at heq ⊢;omega
   rw[hl] at this;exact this
  ·obtain⟨i0,hi0⟩:=List.exists_mem_of_ne_nil _ h0;have hi0h:=List.mem_range.1 (List.mem_filter.1 hi0).1;have hi0l:listed.getD i0 true=false:=by simpa using (List.mem_filter.1 hi0).2
   have hready:∀i,i∈Region.ready .any ops.toArray listed->i<h:=by
    intro i hi;apply Nat.lt_of_not_le;intro hle;exact htl listed hI i0 hi0h hi0l i hle hi
   have hcount:∀i,i<h->listed.getD i true=false->
     ((List.range h).filter λj=> !(listed.setIfInBounds i true).getD j true).length+1=((List.range h).filter λj=> !listed.getD j true).length:=by
    intro i hi hil;have hsz:i<listed.size:=by rw[hI.size];simp;omega
    have e1:∀(m:Nat),i<m->((List.range m).filter λj=> !(listed.setIfInBounds i true).getD j true).length+1=((List.range m).filter λj=> !listed.getD j true).length:=by
     intro m
     induction m with
     |zero=>intro h;omega
     | succ m ihm=>
      intro him;rw[List.range_succ,List.filter_append,List.filter_append,List.length_append,List.length_append];by_cases e:i=m
      ·subst e;have e2:((List.range i).filter λj=> !(listed.setIfInBounds i true).getD j true)=(List.range i).filter λj=> !listed.getD j true:=by
        apply List.filter_congr;intro j hj;have:=List.mem_range.1 hj;rw[getD_set_ne true (by omega)]
       rw[e2];have e3:(listed.setIfInBounds i true).getD i true=true:=by simp
       simp only[List.filter_cons,List.filter_nil,e3,hil];simp
      ·have:=ihm (by omega);have e4:(listed.setIfInBounds i true).getD m true=listed.getD m true:=getD_set_ne true (by omega);simp only[List.filter_cons,List.filter_nil,e4];omega
    exact e1 h hi
   refine⟨λhr=>?_,λi hi=>?_⟩
   ·-- something is always ready: not needed, what follows is asked of nothing
    exfalso;have key:∀(d i:Nat),i=d->i<h->listed.getD i true=false->∃j,j∈Region.ready .any ops.toArray listed:=by
     intro d
     induction d using Nat.strongRecOn with
     | _ d ihd=>
      intro i hid hih hil;obtain⟨op,hop,_⟩:=hD i hih;by_cases hall:∀e∈op.after,Region.binds .any e=true->listed.getD e.on false=true
      ·exact⟨i,mem_ready.2 ⟨hil,op,by simpa using hop,hall⟩⟩
      ·have:∃e,e∈op.after∧Region.binds .any e=true∧listed.getD e.on false=false:=by
        apply Classical.byContradiction;intro hno;apply hall;intro e he hb;cases hc:listed.getD e.on false with
        |true=>rfl
        |false=>exact absurd ⟨e,he,hb,hc⟩ hno
       obtain⟨e,he,hb,hc⟩:=this;have hlt:=hlow i op hop e he hb;have hsz:e.on<listed.size:=by rw[hI.size];simp;omega
       exact ihd e.on (by omega) e.on rfl (by omega) (getD_in hsz hc)
    obtain⟨j,hj⟩:=key i0 i0 rfl hi0h hi0l;rw[hr] at hj;cases hj
   ·have hih:=hready i hi;obtain⟨op,hop,hdst,hDn,hbase,hdist,hdeps⟩:=hD i hih;obtain⟨hil,op',hop',hafter⟩:=mem_ready.1 hi;have e:op'=op:=by
     have:ops.toArray[i]? =ops[i]? :=by simp
     rw[this,hop] at hop';exact(Option.some.inj hop').symm
    subst e;unfold wpOp;rw[hop'];have hob:=hds i hih o w a hJ.fr hJ.base (λj hj=>by
     obtain⟨hjh,⟨ed,hed1,hed2,hed3⟩,hc⟩:=hdeps j hj;refine hJ.done j hjh (by rw[<-hed3];exact hafter ed hed1 hed2) (λk hk=>?_);rcases hc with hc|hc
     ·rw[hc] at hk;cases hk
     ·rw[hc] at hk;cases hk
      exact getD_both hil) op' hop
    have hnext:∀(v:Value)(w':World)(o':Tg),Stp (tg i) o w o' w'->R i v o' w'->wpAny P .any ops.toArray Q fuel (listed.setIfInBounds i true) (a.put op'.dst v) w':=by
     intro v w' o' hst hR;rw[hdst];have hc:=hcount i hih hil;refine ih _ _ _ o' ⟨hJ.fr.put_ne hbase v,hsB i o w o' w' hih hJ.base hst,λj hj hlj hcj=>?_⟩ (hI.set hi hih) (by omega) (by omega);by_cases hji:j=i
     ·subst hji;have:((a.put (some (D j)) v).tmps.getD (D j) undef)=v:=by
       have hlt:D j<a.tmps.size:=by rw[hJ.fr.size];exact hDn
       simp[Act.put,Array.getD_eq_getD_getElem?,hlt]
      rw[this];exact hR
     ·have hne:=hdist j hj hji;have:((a.put (some (D i)) v).tmps.getD (D j) undef)=a.tmps.getD (D j) undef:=by
       simp only[Act.put,Array.getD_eq_getD_getElem?];rw[Array.getElem?_setIfInBounds_ne (Ne.symm hne)]
      rw[this];rw[getD_set_ne false (λe=>hji e.symm)] at hlj;have hcs:cs j≠some i:=by
       intro e;have:=hcj i e;have hsz:i<listed.size:=by rw[hI.size];simp;omega
       simp[hsz] at this
      refine hsR j i _ o w o' w' hj hih hji hcs (λc hc hm=>by
       obtain⟨hch,⟨ed,hed1,hed2,hed3⟩,-⟩:=hdeps c hm;have hl:listed.getD c false=true:=by rw[<-hed3];exact hafter ed hed1 hed2
       have hx:=hcj c hc;have hci:c≠i:=λe=>hcs (by rw[<-e];exact hc);rw[getD_set_ne false (λe=>hci e.symm),hl] at hx;cases hx) (λhm=>by
       have key:∀(d x:Nat),x<h->listed.getD x false=true->Anc ds d x i->False:=by
        intro d
        induction d with
        |zero=>intro x _ _ hx;exact hx
        | succ d ihd=>
         intro x hx hlx hanc;obtain⟨opx,hopx,-,-,-,-,hdx⟩:=hD x hx;have hcl:∀y,y∈ds x->y<h∧listed.getD y false=true:=λy hy=>by
          obtain⟨hyh,⟨ed,hed1,hed2,hed3⟩,-⟩:=hdx y hy;exact⟨hyh,by rw[<-hed3];exact hI.closed x opx (by simpa using hopx) hlx ed hed1 hed2⟩
         rcases hanc with hm|⟨m,hm,hm2⟩
         ·have:=(hcl i hm).2;rw[getD_both hil] at this;cases this
         ·exact ihd m (hcl m hm).1 (hcl m hm).2 hm2
       exact key 8 j hj hlj hm) (hJ.done j hj hlj λk hk=>?_) hst
      have:=hcj k hk;by_cases hki:k=i
      ·subst hki;exact absurd hk hcs
      ·rw[getD_set_ne false (λe=>hki e.symm)] at this;exact this
    unfold opS at hob;simp only[hop',];by_cases hw:Region.wanted op' (yielded ops.toArray a.tmps)=true
    ·rw[if_pos hw] at hob ⊢;refine .inl (eH_ ?_ ?_ hob)
     ·rintro a' w' ⟨v,rfl,o',hst,hR⟩;exact hnext v w' o' hst hR
     ·intro _ _ _ h;exact h.elim
    ·rw[if_neg hw] at hob ⊢;obtain⟨o',hst,hR⟩:=hob;exact hnext undef w o' hst hR
end
def ancB(dsl:List (List Nat)):Nat->Nat->Nat->Bool
  |0,_,_=>false
  |d+1,i,k=>(dsl.getD i []).contains k||(dsl.getD i []).any λm=>ancB dsl d m k
theorem on_(dsl:List (List Nat)):∀{d i k:Nat},ancB dsl d i k=true->Anc (λi=>dsl.getD i []) d i k
 |0,_,_,h=>by cases h
 |d+1,i,k,h=>by
  simp only[ancB,Bool.or_eq_true,List.any_eq_true] at h;rcases h with h|⟨m,hm,h⟩
  ·exact .inl (by simpa using h)
  ·exact .inr ⟨m,hm,on_ dsl h⟩
def drawnBC(ops:Array Oper)(n:Nat)(base Dl:List Nat)(dsl:List (List Nat))(csl:List (Option Nat))(tgl bdl tags:List Nat):Bool:=
  decide (Dl.length<=ops.size)&&tags.contains 999&&tags.all (λt=>decide (t≠0∧t<=999))&&
  ((List.range Dl.length).all λi=>(match ops[i]? with|some o=>o.dst==some (Dl.getD i 0)|none=>false)&&decide (Dl.getD i 0<n)&& !base.contains (Dl.getD i 0)&&
    ((List.range Dl.length).all λj=>decide (j=i)||(decide (Dl.getD j 0≠Dl.getD i 0)&&(csl.getD i none==some j||(match csl.getD i none with|some c=>(dsl.getD j []).contains c|none=>false)||ancB dsl 8 i j||decide (tgl.getD j 999≠bdl.getD i 0))))&&
    ((dsl.getD i []).all λj=>decide (j<Dl.length)&&Region.waitsFor .any ops i j&&(csl.getD j none==none||csl.getD j none==some i))&&
    tags.contains (tgl.getD i 999))&&
  ((List.range ops.size).all λi=>match ops[i]? with|some o=>o.after.all (λe=> !Region.binds .any e||decide (e.on<i))|none=>true)&&
  (decide (Dl.length=ops.size)||(Region.sinkB .any ops Dl.length&&Region.chainB .any ops Dl.length))&&
  Region.seqB .any ops (ops.size-Dl.length) Dl.length ((Array.range ops.size).map λi=>decide (i<Dl.length))
theorem pF_{P:Program}{Q:Exit->Act->World->Prop}{n id:Nat}{l:List (Nat×Value)}{ops:List Oper}{w:World}{o:Tg}
  (l0:List (Nat×Value)) (base Dl:List Nat) (dsl:List (List Nat)) (csl:List (Option Nat)) (tgl bdl tags:List Nat) (Rl:List Pr) (Bf:Tg->World->Prop)
  (hm:P.follows .mixedOrders=true) (hchk:drawnBC ops.toArray n base Dl dsl csl tgl bdl tags=true) (hbase:l0.map (·.1)=base) (hsub:Sub l0 l) (hB0:Bf o w)
  (hSB:∀t o w o' w',t∈tags->Bf o w->Stp t o w o' w'->Bf o' w') (hSR:AllSt bdl Rl) (hob:Obs P ops n l0 Bf Dl Rl tgl dsl 0 (ops.take Dl.length))
  (hfin:∀o w a,Fr a n l0->Bf o w->Fin a o w Dl csl Rl->wpList P ops.toArray Q (ops.drop Dl.length) a w):wpC P (.region id ops.toArray true) Q n l w:=by
 intro a ha;simp only[drawnBC,Bool.and_eq_true] at hchk;obtain⟨⟨⟨⟨⟨⟨c1,c2⟩,c3⟩,c4⟩,c5⟩,c6⟩,c7⟩:=hchk;have hh:Dl.length<=ops.length:=by simpa using c1
 have h999:999∈tags:=by simpa using c2
 have htags:∀t,t∈tags->t≠0∧t<=999:=λt ht=>by simpa using List.all_eq_true.1 c3 t ht
 have c4':∀i,i<Dl.length->_:=λi hi=>List.all_eq_true.1 c4 i (List.mem_range.2 hi);simp only[Bool.and_eq_true] at c4';refine wp_region_any hm ?_;have hinv:HeadInv .any ops.toArray Dl.length (Array.replicate ops.toArray.size false):=
  ⟨by simp,λj oj _ hl=>(by rw[getD_replicate_false] at hl;cases hl),λt _ ht=>getD_in (by simpa using ht) (getD_replicate_false _ _)⟩
 have hcnt:((List.range Dl.length).filter λi=> !(Array.replicate ops.toArray.size false).getD i true).length=Dl.length:=by
  rw[List.filter_eq_self.2]
  ·simp
  ·intro i hi;have hi':=List.mem_range.1 hi;have:(Array.replicate ops.toArray.size false).getD i true=false:=getD_in (by simp;omega) (getD_replicate_false _ _);rw[this];rfl
 have:=pw_ (P:=P) (Q:=Q) (n:=n) (h:=Dl.length) (l0:=l0) (ops:=ops) (D:=λi=>Dl.getD i 0) (ds:=λi=>dsl.getD i []) (cs:=λi=>csl.getD i none)
  (R:=λi=>Rl.getD i prT) (Bf:=Bf) (tg:=λi=>tgl.getD i 999)
  (λi hi o w a hf hb hd op hop=>by
   have:=Obs.get hob i op (by rw[List.getElem?_take,if_pos hi];exact hop) o w a hf hb (by rw[Nat.zero_add];exact Deps.of hd);rw[Nat.zero_add] at this;exact this)
  (λk o w o' w' hk hb hs=>hSB _ o w o' w' (by have:=(c4' k hk).2;simpa using this) hb hs)
  (λi k v o w o' w' hi hk hik hcs hnc hni hR hs=>by
   have h1:=(c4' k hk).2;have h2:=List.all_eq_true.1 (c4' i hi).1.1.2 k (List.mem_range.2 hk);simp only[Bool.or_eq_true,Bool.and_eq_true,decide_eq_true_eq,beq_iff_eq] at h2;rcases h2 with h2|⟨_,h2⟩
   ·exact absurd h2.symm hik
   ·rcases h2 with ((h2|h2)|h2)|h2
    ·exact absurd h2 hcs
    ·exfalso;cases hq:csl.getD i none with
     |none=>rw[hq] at h2;cases h2
     |some c=>
      rw[hq] at h2;exact hnc c hq (by simpa using h2)
    ·exact absurd (on_ dsl h2) hni
    ·exact hSR.get i _ v o w o' w' (htags _ (by simpa using h1)) h2 hR hs)
  (λi hi=>by
   obtain⟨⟨⟨⟨⟨g1,g2⟩,g3⟩,g4⟩,g5⟩,g6⟩:=c4' i hi;have hlt:i<ops.length:=by omega
   have hop:ops[i]? =some (ops[i]'hlt):=List.getElem?_eq_getElem hlt;refine⟨_,hop,?_,by simpa using g2,by rw[hbase];simpa using g3,λj hj hji=>?_,λj hj=>?_⟩
   ·simp only[List.getElem?_toArray,hop] at g1;simpa using g1
   ·have:=List.all_eq_true.1 g4 j (List.mem_range.2 hj);simp only[Bool.or_eq_true,Bool.and_eq_true,decide_eq_true_eq] at this;rcases this with h|h
    ·exact absurd h hji
    ·exact h.1
   ·have:=List.all_eq_true.1 g5 j hj;simp only[Bool.and_eq_true,decide_eq_true_eq,Bool.or_eq_true,beq_iff_eq] at this;obtain⟨⟨k1,k2⟩,k3⟩:=this;obtain⟨oj,hoj,e,he,hb,hon⟩:=Region.waitsFor_spec k2;have:oj=ops[i]'hlt:=by
     simp only[List.getElem?_toArray,hop] at hoj;exact(Option.some.inj hoj).symm
    subst this;exact⟨k1,⟨e,he,hb,hon⟩,k3⟩)
  (λi op hop e he hb=>by
   have hlt:i<ops.length:=(List.getElem?_eq_some_iff.1 hop).1;have:=List.all_eq_true.1 c5 i (List.mem_range.2 (by simpa using hlt));simp only[List.getElem?_toArray,hop] at this;have h2:=Array.all_eq_true_iff_forall_mem.1 this e he;simp only[Bool.or_eq_true,Bool.not_eq_true',decide_eq_true_eq] at h2;rcases h2 with h2|h2
   ·rw[hb] at h2;cases h2
   ·exact h2)
  hh
  (λlisted hI i hi hil t ht hr=>by
   simp only[Bool.or_eq_true,Bool.and_eq_true,decide_eq_true_eq] at c6;rcases c6 with c6|⟨c6,c6'⟩
   ·obtain⟨_,ot,hot,_⟩:=mem_ready.1 hr;have:=(Array.getElem?_eq_some_iff.1 hot).1;omega
   ·by_cases hn:Dl.length<ops.toArray.size
    ·exact tail_waits c6 c6' hn hI _ i rfl hi hil t ht hr
    ·obtain⟨_,ot,hot,_⟩:=mem_ready.1 hr;have:=(Array.getElem?_eq_some_iff.1 hot).1;omega)
  (by simpa using c7)
  (λa o w hf hb hd=>hfin o w a hf hb (Fin.of hd))
  ops.toArray.size (Array.replicate ops.toArray.size false) a {w with drawn:=w.drawn+1} o
  ⟨ha.sub hsub,hSB 999 o w o _ h999 hB0 (il_ o w 999),λi hi hl=>(by rw[getD_replicate_false] at hl;cases hl)⟩ hinv (by rw[hcnt];simp;omega) (by rw[hcnt];simp;omega)
 exact this
end
section
open Go.RowKit
theorem ao_:Tryz.prog.follows .mixedOrders=true:=by kernel_rfl
def adr(v:Value)(k:Nat):Value:=match v with
  | .slice (some a) _ _=> .pointer (some ⟨a.block,a.off+k,none⟩)
  |_=>undef
section
variable {P:Program} {n:Nat} {l:List (Nat×Value)} {w w0:World} {o oo:Tg} {α:Type} [Rp α] {d:Option Nat} {ty:TypeId} {ps:String} {af:Array Edge} {g:Option (Nat×Bool)} {R:Value->World->Prop}
theorem an_{x y:Operand}{t e:TypeId}{v:Value}{xs:List α}{i:Int}{u:α}{o2:Tg}{w2:World}(h:RdL o2 w2 v xs)(hi:ix xs i=some u)(hx:ev l x=some v)(hy:ev l y=some (.int .i64 i))
  (ht:P.underlying t=some (.slice e)) (hs:∀w,(sizeOf e).run P w=.ok (Rp.sz α) w) (hR:R (adr v (i.toNat*Rp.sz α)) w):op1 P ⟨d,.indexAddr t x y,ty,ps,af,g⟩ n l w R:=by
 obtain⟨a,c,rfl⟩:=h.form;obtain⟨h0,h1,h2⟩:=fC_ hi;obtain⟨b,off,cs,rfl,_⟩:=h.at h2;exact l_ (hq_ hx hy h0 (by omega) ht hs) hR
theorem bI_{x y:Operand}{t e e':TypeId}{B k:Nat}{v:Value}{xs:List α}{i:Int}{u:α}{o2:Tg}{w2:World}(h:Ow B e' k o2 w2 v xs)(hi:ix xs i=some u)(hx:ev l x=some v)(hy:ev l y=some (.int .i64 i))
  (ht:P.underlying t=some (.slice e)) (hs:∀w,(sizeOf e).run P w=.ok (Rp.sz α) w) (hR:R (adr v (i.toNat*Rp.sz α)) w):op1 P ⟨d,.indexAddr t x y,ty,ps,af,g⟩ n l w R:=
 an_ h.z hi hx hy ht hs hR
theorem sE_{v:Value}{xs:List α}{i:Int}{u:α}(h:RdL o w v xs)(hi:ix xs i=some u):∃b off cs,adr v (i.toNat*Rp.sz α)=.pointer (some ⟨b,off,none⟩)∧Cells w b off cs∧Rp.rd o w cs u:=by
 obtain⟨a,c,rfl⟩:=h.form;obtain⟨h0,h1,h2⟩:=fC_ hi;obtain⟨b,off,cs,rfl,hc,hr,_⟩:=h.at h2;exact⟨b,_,cs,rfl,hc,hr⟩
theorem ts_{v:Value}{xs:List α}{i:Int}{u:α}{B k:Nat}{e:TypeId}(h:Ow B e k o w v xs)(hi:ix xs i=some u):∃b off cs,adr v (i.toNat*Rp.sz α)=.pointer (some ⟨b,off,none⟩)∧Cells w b off cs∧Rp.rd o w cs u:=by
 obtain⟨a,c,rfl⟩:=h.form;obtain⟨h0,h1,h2⟩:=fC_ hi;obtain⟨b,cs,rfl,_,hc,hr,_⟩:=h.at h2;exact⟨b,_,cs,by simp only[adr],hc,hr⟩
theorem db_{x:Operand}{t:TypeId}{v:Value}{xs:List α}{i:Int}{u:α}(h:RdL o w v xs)(hi:ix xs i=some u)(h1:Rp.sz α=1)(hx:ev l x=some (adr v (i.toNat*Rp.sz α)))(hag:∀w,(isAgg t).run P w=.ok false w)
  (hR:∀c,Rp.rd o w [c] u->R c w):op1 P ⟨d,.load t x,ty,ps,af,g⟩ n l w R:=by
 obtain⟨b,off,cs,e,hc,hr⟩:=sE_ h hi;have hl:cs.length=1:=by rw[Rp.len hr,h1]
 obtain⟨c,rfl⟩:=List.length_eq_one_iff.1 hl;exact l_ (e_ (by rw[hx,e]) hag (i_ hc)) (hR c hr)
theorem cm_{x:Operand}{t:TypeId}{v:Value}{xs:List α}{i:Int}{u:α}(h:RdL zt w0 v xs)(hi:ix xs i=some u)(hB:Bs oo o w0 w)(h1:Rp.sz α=1)(hx:ev l x=some (adr v (i.toNat*Rp.sz α)))(hag:∀w,(isAgg t).run P w=.ok false w)
  (hR:∀c,Rp.rd zt w0 [c] u->R c w):op1 P ⟨d,.load t x,ty,ps,af,g⟩ n l w R:=by
 obtain⟨b,off,cs,e,hc,hr⟩:=sE_ h hi;have hl:cs.length=1:=by rw[Rp.len hr,h1]
 obtain⟨c,rfl⟩:=List.length_eq_one_iff.1 hl;exact l_ (e_ (by rw[hx,e]) hag (i_ (hc.keep hB.keeps))) (hR c hr)
theorem bq_{x:Operand}{t e':TypeId}{B k:Nat}{v:Value}{xs:List α}{i:Int}{u:α}(h:Ow B e' k o w v xs)(hi:ix xs i=some u)(h1:Rp.sz α=1)(hx:ev l x=some (adr v (i.toNat*Rp.sz α)))(hag:∀w,(isAgg t).run P w=.ok false w)
  (hR:∀c,Rp.rd o w [c] u->R c w):op1 P ⟨d,.load t x,ty,ps,af,g⟩ n l w R:=by
 obtain⟨b,off,cs,e,hc,hr⟩:=ts_ h hi;have hl:cs.length=1:=by rw[Rp.len hr,h1]
 obtain⟨c,rfl⟩:=List.length_eq_one_iff.1 hl;exact l_ (e_ (by rw[hx,e]) hag (i_ hc)) (hR c hr)
end
class Ar (A:Type) where
  ok:World->List Value->A->Prop
instance (priority:=high):Ar Int:=⟨λ_ vs x=>vs=[.int .i64 x]⟩
instance (priority:=high):Ar Bool:=⟨λ_ vs x=>vs=[.bool x]⟩
instance {α:Type} [Rp α]:Ar (List α):=⟨λw vs x=>∃v,vs=[v]∧RdL zt w v x⟩
instance {A B:Type} [Ar A] [Ar B]:Ar (A×B):=⟨λw vs x=>∃us bs,vs=us++bs∧Ar.ok w us x.1∧Ar.ok w bs x.2⟩
class Rs (ρ:Type) where
  val:ρ->Value
instance:Rs Int:=⟨λn=> .int .i64 n⟩
instance:Rs Bool:=⟨λb=> .bool b⟩
def FnV{A ρ:Type}[Ar A][Rs ρ](P:Program)(w:World)(v:Value)(F:A->Option ρ):Prop:=
  ∃(n:Nat)(cap:List Value),v=.func (.func n) #[] cap.toArray∧(∀args w,(callFunc n args).run P w=.ok (.enter n args) w)∧
    ∀w' vs x r,Keeps w w'->Ar.ok w' vs x->F x=some r->Calls P n (vs++cap).toArray w' (λe w''=>e=.returned (Rs.val r)∧Keeps w' w'')
theorem FnV.keep{A ρ:Type}[Ar A][Rs ρ]{P:Program}{w w':World}{v:Value}{F:A->Option ρ}(h:FnV P w v F)(k:Keeps w w'):FnV P w' v F:=by
 obtain⟨n,cap,e,h1,h2⟩:=h;exact⟨n,cap,e,h1,λw2 vs x r k2=>h2 w2 vs x r (Keeps.trans k k2)⟩
section
variable {P:Program} {n:Nat} {l:List (Nat×Value)} {w w0:World} {o oo:Tg} {d:Option Nat} {ty:TypeId} {ps:String} {af:Array Edge} {g:Option (Nat×Bool)} {R:Value->World->Prop}
theorem gl_{A ρ:Type}[Ar A][Rs ρ]{f:Operand}{v:Value}{F:A->Option ρ}{xs:List Operand}{vs:List Value}{x:A}{r:ρ}{ats:Array TypeId}(hf:FnV P w v F)(hr:F x=some r)(hok:Ar.ok w vs x)(hv:ev l f=some v)(he:EvL l xs vs)
  (h:∀w',Keeps w w'->R (Rs.val r) w'):op1 P ⟨d,.call {callee:=.value f,args:=xs.toArray,argTypes:=ats},ty,ps,af,g⟩ n l w R:=by
 obtain⟨m,cap,rfl,hcall,hc⟩:=hf;refine is_ (f:=m) (args:=(vs++cap).toArray) (λρ hρ=>?_) (hc w vs x r (Keeps.refl w) hok hr) ?_
 ·simp only[execOp,resolve,Sem.run_bind,hρ f _ hv,Deferred.ofValue,Sem.run_pure,Result.andThen_ok,invoke,List.map_toArray,EvL.map hρ he];simp[hcall]
 ·rintro e w' ⟨rfl,k⟩;exact⟨_,rfl,h w' k⟩
theorem gI_{fn:Fn}{caps:List Operand}{vs:List Value}(hv:EvL l caps vs):∀ρ,Agr ρ l->(execOp ρ ⟨d,.makeFunc fn #[] caps.toArray,ty,ps,af,g⟩).run P w=.ok (.value (.func fn #[] vs.toArray)) w:=by
 intro ρ hρ;simp only[execOp,Instr.makeFunc,List.map_toArray,EvL.map hρ hv];rfl
end
section
variable {α:Type} [Rp α] {o o':Tg} {w w' w0:World} {v:Value} {xs:List α} {t k:Nat} {e:TypeId}
def Of(e:TypeId)(o:Tg)(w:World)(v:Value)(xs:List α):Prop:=Ow 0 e 0 o w v xs
theorem Of.nil(e:TypeId)(o:Tg)(w:World):Of e o w (.slice none 0 0) ([]:List α):=Ow.nil _ _ _ _ _
theorem Of.rd(h:Of e o w v xs):RdL o w v xs:=Ow.freeze h λb _ hb=>by rcases hb with h|h<;>exact h
theorem Of.stp(h:Of e o w v xs)(s:Stp t o w o' w')(ht:t≠0:=by decide):Of e o' w' v xs:=Ow.stp h s ht (Ne.symm ht)
theorem Of.frz(h:Of e o w v xs)(j:Nat)(hj:0≠j):Of e (Go.Proofs.YtdbbeldgdgonfaaGreat.frz j o) w v xs:=Ow.frz_ne h hj
theorem Of.rtg{k':Nat}(h:Of e o w v xs)(h1:0≠k)(h2:0≠k')(hk:k≠0):Of e (Go.Proofs.YtdbbeldgdgonfaaGreat.rtg k k' o) w v xs:=Ow.rtg_ne h h1 h2 hk
theorem Ow.frzF{B:Nat}(h:Ow B e k o w v xs):Of e (Go.Proofs.YtdbbeldgdgonfaaGreat.frz k o) w v xs:=by
 obtain⟨css,h1,h2,h3,h4⟩:=h;exact⟨css,h1,World.ownsRow.mono h2 (Nat.zero_le _),λg hg=>by unfold Go.Proofs.YtdbbeldgdgonfaaGreat.frz;rw[if_pos (h3 g hg)],λi cs x a b=>Rp.frz (h4 i cs x a b) k⟩
theorem Of.col{oo:Tg}(h:Of e oo w v xs):Of e (Go.Proofs.YtdbbeldgdgonfaaGreat.col oo) w v xs:=by
 obtain⟨css,h1,h2,h3,h4⟩:=h;exact⟨css,h1,h2,λg hg=>by unfold Go.Proofs.YtdbbeldgdgonfaaGreat.col;rw[if_pos (h3 g hg)],λi cs x a b=>Rp.col (h4 i cs x a b)⟩
theorem Of.rt{oo:Tg}(h:Of e o w v xs)(hB:Bs oo o w0 w)(k t:Nat)(hk:2<=k):Of e (Go.Proofs.YtdbbeldgdgonfaaGreat.rt oo o w0.heap.size k t) w v xs:=by
 obtain⟨css,h1,h2,h3,h4⟩:=h;exact⟨css,h1,h2,λg hg=>iD_ hB k t g hk (h3 g hg),λi cs x a b=>Rp.rt (h4 i cs x a b) hB k t hk⟩
theorem Of.fresh{n:Nat}(h:Of e o w v xs)(hn:∀b,b<n->o b≠0):Ow n e 0 o w v xs:=by
 obtain⟨css,h1,⟨h2,h2'⟩,h3,h4⟩:=h;refine⟨css,h1,⟨h2,?_⟩,h3,h4⟩;rcases h2' with h|⟨g,cap,cur,rfl,hb,rest⟩
 ·exact .inl h
 ·refine .inr ⟨g,cap,cur,rfl,?_,rest⟩;have:=h3 g rfl;by_cases hlt:g<n
  ·exact absurd this (hn g hlt)
  ·omega
end
end
end Go.Proofs.YtdbbeldgdgonfaaGreat
