/- Part 10 of what this claim rests on (pack.py). -/
import Derived.Test.YtpefhaamcihneaaGreatP08
namespace Go.Proofs.YtpefhaamcihneaaGreat
set_option linter.unusedSimpArgs false
set_option linter.unusedVariables false
open Go.RowKit
section
structure DrawnS (n h m:Nat) (l0:List (Nat×Value)) (D:Nat->Nat) (cs:Nat->Option Nat) (R:Nat->Value->Tg->World->Prop) (Bf:Tg->World->Prop) (E:Nat->Value->Tg->World->Prop) (ec:Nat->Nat) (listed:Array Bool) (a:Act) (w:World) (o:Tg):Prop where
  fr:Fr a n l0
  base:Bf o w
  done:∀i,i<h->listed.getD i false=true->(∀k,cs i=some k->listed.getD k false=false)->R i (a.tmps.getD (D i) undef) o w
  res:∀e,e<m->listed.getD (ec e) false=false->E e undef o w
theorem Bu{a:Array Bool}{h i:Nat}(o:i<a.size)(hi:i<h)(d:a.getD i true=false):
  ((List.range h).filter λj=> !(a.setIfInBounds i true).getD j true).length+1=((List.range h).filter λj=> !a.getD j true).length:=by
 have g:∀(m:Nat),i<m->((List.range m).filter λj=> !(a.setIfInBounds i true).getD j true).length+1=((List.range m).filter λj=> !a.getD j true).length:=by
  intro m
  induction m with
  |zero=>intro h;omega
  | succ m b=>
   intro f;rw[gc,ey,ey,ar,ar];by_cases e:i=m
   ·subst e;have q:((List.range i).filter λj=> !(a.setIfInBounds i true).getD j true)=(List.range i).filter λj=> !a.getD j true:=by
     apply oR;intro j p;have:=aS.1 p;rw[getD_set_ne true om]
    rw[q];have k:(a.setIfInBounds i true).getD i true=true:=sy;simp only[gd,oS,k,d];simp
   ·have:=b om;have s:(a.setIfInBounds i true).getD m true=a.getD m true:=getD_set_ne true om;simp only[gd,oS,s];omega
 exact g h hi
section
variable {P:Program} {Q:Exit->Act->World->Prop} {n h m:Nat} {l0:List (Nat×Value)} {ops:List Oper} {D:Nat->Nat} {ds es:Nat->List Nat} {cs:Nat->Option Nat}
  {R E:Nat->Value->Tg->World->Prop} {Bf:Tg->World->Prop} {tg ec:Nat->Nat}
theorem BH(hds:∀i,i<h->∀o w a,Fr a n l0->Bf o w->(∀e,e∈es i->E e undef o w)->(∀j,j∈ds i->R j (a.tmps.getD (D j) undef) o w)->∀q,ops[i]? =some q->opS P ops.toArray q a w λv w'=>∃f,Stp (tg i) o w f w'∧R i v f w')
  (hsB:∀k o w f w',k<h->Bf o w->Stp (tg k) o w f w'->Bf f w')
  (hsE:∀e k o w f w',e<m->k<h->ec e≠k->E e undef o w->Stp (tg k) o w f w'->E e undef f w')
  (hsR:∀i k v o w f w',i<h->k<h->i≠k->cs i≠some k->(∀q,ops[i]? =some q->∀e∈q.after,Region.binds .any e=true->e.on≠k)->R i v o w->Stp (tg k) o w f w'->R i v f w')
  (hN:∀i,i<h->n<=D i->∀v v' o w,R i v o w->R i v' o w)
  (hD:∀i,i<h->∃q,ops[i]? =some q∧((q.dst=some (D i)∧D i<n∧(l0.map (·.1)).contains (D i)=false)∨(q.dst=none∧n<=D i))∧(∀j,j<h->j≠i->D j≠D i)∧
   (∀j,j∈ds i->j<h∧(∃e∈q.after,Region.binds .any e=true∧e.on=j)∧(cs j=none∨cs j=some i))∧
   (∀e,e∈es i->e<m∧(ec e=i∨∃ok,ops[ec e]? =some ok∧∃e'∈ok.after,Region.binds .any e'=true∧e'.on=i)))
  (hlow:∀i q,ops[i]? =some q->∀e∈q.after,Region.binds .any e=true->e.on<i)
  (hh:h<=ops.length)
  (htl:∀b,HeadInv .any ops.toArray h b->∀i,i<h->b.getD i true=false->∀t,h<=t->t ∉ Region.ready .any ops.toArray b)
  (hsq:Region.seqB .any ops.toArray (ops.length-h) h ((Array.range ops.length).map λi=>decide (i<h))=true)
  (hfin:∀a o w,Fr a n l0->Bf o w->(∀i,i<h->cs i=none->R i (a.tmps.getD (D i) undef) o w)->wpList P ops.toArray Q (ops.drop h) a w):
  ∀(d:Nat)(b:Array Bool)(a:Act)(w:World)(o:Tg),DrawnS n h m l0 D cs R Bf E ec b a w o->HeadInv .any ops.toArray h b->
   ((List.range h).filter λi=> !b.getD i true).length=d->wpAny P .any ops.toArray Q (d+(ops.length-h)) b a w:=by
 intro u
 induction u with
 | zero=>
  intro b a w o B K X;have h0:(List.range h).filter (λi=> !b.getD i true)=[]:=cD X;have x:∀i,i<h->b.getD i true=true:=by
   intro i hi;have:=xQ.1 h0 i (aS.2 hi);simpa using this
  have hlist:b=(Array.range ops.length).map λi=>decide (i<h):=by
   apply oQ (by simp[K.size]);intro i h1 h2;have h3:i<ops.length:=by simpa [K.size] using h1
   simp only[xR,xS];by_cases hi:i<h
   ·have:=x i hi;simp[h1] at this;simp[this,hi]
   ·have:=K.tail i om (su h3);simp[h1] at this;simp[this,hi]
  have:=wpAny_of_seq (P:=P) (md:=.any) (ops:=ops.toArray) (Q':=Q) (ops.drop h) h b a w (λj=>by simp[dV]) (by rw[hlist];simpa using hsq)
   (hfin a o w B.fr B.base λi hi A=>B.done i hi (by
    have h1:=x i hi;have h2:i<b.size:=by rw[K.size];simp;omega
    simp[h2] at h1 ⊢;exact h1) (λk T=>by rw[A] at T;cases T))
  have hl:(ops.drop h).length=0+(ops.length-h):=sy;rw[hl] at this;exact this
 | succ u ih=>
  intro b a w o B K X;rw[show u+1+(ops.length-h)=(u+(ops.length-h))+1 by omega];have H:(List.range h).filter (λi=> !b.getD i true)≠ []:=λe=>by rw[e] at X;simp at X
  obtain⟨i0,hi0⟩:=Fs _ H;have Y:=aS.1 (cF.1 hi0).1;have Z:b.getD i0 true=false:=by simpa using (cF.1 hi0).2
  refine⟨λhr=>?_,λi hi=>?_⟩
  ·exfalso;have key:∀(d i:Nat),i=d->i<h->b.getD i true=false->∃j,j∈Region.ready .any ops.toArray b:=by
    intro d
    induction d using Nat.strongRecOn with
    | _ d ihd=>
     intro i hid p F;obtain⟨q,S,_⟩:=hD i p;by_cases x:∀e∈q.after,Region.binds .any e=true->b.getD e.on false=true
     ·exact⟨i,mem_ready.2 ⟨F,q,by simpa using S,x⟩⟩
     ·have:∃e,e∈q.after∧Region.binds .any e=true∧b.getD e.on false=false:=by
       apply ge;intro hno;apply x;intro e U hb;cases A:b.getD e.on false with
       |true=>rfl
       |false=>exact absurd ⟨e,U,hb,A⟩ hno
      obtain⟨e,U,hb,A⟩:=this;have hlt:=hlow i q S e U hb;have N:e.on<b.size:=by rw[K.size];simp;omega
      exact ihd e.on om e.on rfl om (getD_in N A)
   obtain⟨j,J⟩:=key i0 i0 rfl Y Z;rw[hr] at J;cases J
  ·have p:i<h:=by
    apply oK;intro hle;exact htl b K i0 Y Z i hle hi
   obtain⟨q,S,g,hdist,hdeps,hres⟩:=hD i p;obtain⟨F,V,G,W⟩:=mem_ready.1 hi;have e:V=q:=by
    have:ops.toArray[i]? =ops[i]? :=sy;rw[this,S] at G;exact(Option.some.inj G).symm
   subst e;have N:i<b.size:=by rw[K.size];simp;omega
   unfold wpOp;rw[G];have L:=hds i p o w a B.fr B.base (λe U=>by
    obtain⟨hem,A⟩:=hres e U;refine B.res e hem ?_;rcases A with A|⟨ok,hok,e',he',hb',hon⟩
    ·rw[A];exact getD_both F
    ·cases hl:b.getD (ec e) false with
     |false=>rfl
     |true=>
      have:=K.closed (ec e) ok (su hok) hl e' he' hb';rw[hon,getD_both F] at this;cases this) (λj J=>by
    obtain⟨hjh,⟨ed,hed1,hed2,hed3⟩,A⟩:=hdeps j J;refine B.done j hjh (by rw[<-hed3];exact W ed hed1 hed2) (λk T=>?_);rcases A with A|A
    ·rw[A] at T;cases T
    ·rw[A] at T;cases T
     exact getD_both F) V S
   have O:∀(v:Value)(w':World)(f:Tg),Stp (tg i) o w f w'->R i v f w'->wpAny P .any ops.toArray Q (u+(ops.length-h)) (b.setIfInBounds i true) (a.put V.dst v) w':=by
    intro v w' f y hR;have A:=Bu N p F;have M:∀e,e<m->(b.setIfInBounds i true).getD (ec e) false=false->E e undef f w':=λe U hl=>by
     have H:ec e≠i:=λh=>by rw[h] at hl;simp[N] at hl
     rw[getD_set_ne false (λh=>H h.symm)] at hl;exact hsE e i o w f w' U p H (B.res e U hl) y
    have hold:∀j,j<h->j≠i->(b.setIfInBounds i true).getD j false=true->(∀k,cs j=some k->(b.setIfInBounds i true).getD k false=false)->R j (a.tmps.getD (D j) undef) f w':=λj J s C I=>by
     rw[getD_set_ne false (λe=>s e.symm)] at C;have hcs:cs j≠some i:=by
      intro e;have:=I i e;simp[N] at this
     refine hsR j i _ o w f w' J p s hcs (λoj hoj e U hb hon=>?_) (B.done j J C λk T=>?_) y
     ·have:=K.closed j oj (su hoj) C e U hb;rw[hon,getD_both F] at this;cases this
     have:=I k T;by_cases hki:k=i
     ·subst hki;exact absurd T hcs
     ·rw[getD_set_ne false (λe=>hki e.symm)] at this;exact this
    rcases g with⟨g,hDn,hbase⟩|⟨g,hDn⟩
    ·rw[g];refine ih _ _ _ f ⟨B.fr.put_ne hbase v,hsB i o w f w' p B.base y,λj J C I=>?_,M⟩ (K.set hi p) om;by_cases s:j=i
     ·subst s;have:((a.put (some (D j)) v).tmps.getD (D j) undef)=v:=by
       have hlt:D j<a.tmps.size:=by rw[B.fr.size];exact hDn
       simp[Act.put,dq,hlt]
      rw[this];exact hR
     ·have H:=hdist j J s;have:((a.put (some (D i)) v).tmps.getD (D j) undef)=a.tmps.getD (D j) undef:=by
       simp only[Act.put,dq];rw[qS (V_ H)]
      rw[this];exact hold j J s C I
    ·rw[g];refine ih _ _ _ f ⟨B.fr,hsB i o w f w' p B.base y,λj J C I=>?_,M⟩ (K.set hi p) om;by_cases s:j=i
     ·subst s;exact hN j p hDn _ _ _ _ hR
     ·exact hold j J s C I
   unfold opS at L;simp only[G,];by_cases hw:Region.wanted V (yielded ops.toArray a.tmps)=true
   ·rw[if_pos hw] at L ⊢;refine .inl (nc ?_ ?_ L)
    ·rintro a' w' ⟨v,rfl,f,y,hR⟩;exact O v w' f y hR
    ·intro _ _ _ h;exact h.elim
   ·rw[if_neg hw] at L ⊢;obtain⟨f,y,hR⟩:=L;have:=O undef w f y hR;rcases g with⟨g,_⟩|⟨g,_⟩
    ·exact this
    ·exact this
end
def Res(El:List Pr)(o:Tg)(w:World):List Nat->Prop
  |[]=>True
  |e::es=>(El.getD e prT) undef o w∧Res El o w es
theorem Res.of{a:List Pr}{o:Tg}{w:World}:∀{es:List Nat},(∀e,e∈es->(a.getD e prT) undef o w)->Res a o w es
 |[],_=>trivial
 |e::es,h=>⟨h e (by simp),Res.of λi hi=>h i (by simp[hi])⟩
def AllE(o:Tg)(w:World):List Pr->Prop
  |[]=>True
  |p::ps=>p undef o w∧AllE o w ps
theorem AllE.get{o:Tg}{w:World}:∀{ps:List Pr},AllE o w ps->∀e,(ps.getD e prT) undef o w
 |[],_,_=>trivial
 |p::ps,h,0=>h.1
 |p::ps,h,e+1=>by simpa using AllE.get h.2 e
def AllN:List Bool->List Pr->Prop
  |true::bs,p::ps=>(∀v v' o w,p v o w->p v' o w)∧AllN bs ps
  |false::bs,_::ps=>True∧AllN bs ps
  |_,_=>True
theorem AllN.get:∀{bs:List Bool}{ps:List Pr},AllN bs ps->∀i,bs.getD i false=true->∀v b o w,(ps.getD i prT) v o w->(ps.getD i prT) b o w
 |[],ps,_,i,a=>by simp at a
 |true::bs,[],_,i,a=>λ_ _ _ _ _=>trivial
 |false::bs,[],_,i,a=>λ_ _ _ _ _=>trivial
 |true::bs,p::ps,h,0,_=>h.1
 |false::bs,p::ps,h,0,a=>by simp at a
 |true::bs,p::ps,h,i+1,a=>by simpa using AllN.get h.2 i (by simpa using a)
 |false::bs,p::ps,h,i+1,a=>by simpa using AllN.get h.2 i (by simpa using a)
def ObsS(P:Program)(all:List Oper)(n:Nat)(l0:List (Nat×Value))(Bf:Tg->World->Prop)(El:List Pr)(Dl:List Nat)(Rl:List Pr)(tgl:List Nat)(dsl esl:List (List Nat)):Nat->List Oper->Prop
  |_,[]=>True
  |i,op::ops=>(∀o w a,Fr a n l0->Bf o w->Res El o w (esl.getD i [])->Deps Dl Rl a o w (dsl.getD i [])->opS P all.toArray op a w λv w'=>∃o',Stp (tgl.getD i 999) o w o' w'∧(Rl.getD i prT) v o' w')∧ObsS P all n l0 Bf El Dl Rl tgl dsl esl (i+1) ops
theorem ObsS.get{P:Program}{all:List Oper}{n:Nat}{l0:List (Nat×Value)}{Bf:Tg->World->Prop}{q:List Pr}{s:List Nat}{j:List Pr}{e:List Nat}{f d:List (List Nat)}:
  ∀{ops:List Oper}{k:Nat},ObsS P all n l0 Bf q s j e f d k ops->∀i b,ops[i]? =some b->∀o w a,Fr a n l0->Bf o w->Res q o w (d.getD (k+i) [])->Deps s j a o w (f.getD (k+i) [])->
   opS P all.toArray b a w λv w'=>∃p,Stp (e.getD (k+i) 999) o w p w'∧(j.getD (k+i) prT) v p w'
 |[],k,_,i,b,h=>by simp at h
 |o::ops,k,g,0,b,h=>by simp at h;subst h;exact g.1
 |o::ops,k,g,i+1,b,h=>by
  have:=ObsS.get g.2 i b (su h);rw[show k+1+i=k+(i+1) by omega] at this;exact this
def drawnSB(ops:Array Oper)(n:Nat)(base Dl:List Nat)(dsl:List (List Nat))(csl:List (Option Nat))(tgl bdl tags ecl ebl:List Nat)(esl:List (List Nat))(sts:List Bool):Bool:=
  decide (Dl.length<=ops.size)&&tags.contains 999&&tags.all (λt=>decide (t≠0∧t<=999))&&
  ((List.range Dl.length).all λi=>
    (match ops[i]? with
      |some o=>(o.dst==some (Dl.getD i 0)&&decide (Dl.getD i 0<n)&& !base.contains (Dl.getD i 0))||(o.dst==none&&decide (n<=Dl.getD i 0)&&sts.getD i false)
      |none=>false)&&
    ((List.range Dl.length).all λj=>decide (j=i)||(decide (Dl.getD j 0≠Dl.getD i 0)&&(csl.getD i none==some j||decide (tgl.getD j 999≠bdl.getD i 0)||Region.waitsFor .any ops i j)))&&
    ((dsl.getD i []).all λj=>decide (j<Dl.length)&&Region.waitsFor .any ops i j&&(csl.getD j none==none||csl.getD j none==some i))&&
    ((esl.getD i []).all λe=>decide (e<ecl.length)&&(ecl.getD e 0==i||Region.waitsFor .any ops (ecl.getD e 0) i))&&
    tags.contains (tgl.getD i 999))&&
  ((List.range ops.size).all λi=>match ops[i]? with|some o=>o.after.all (λe=> !Region.binds .any e||decide (e.on<i))|none=>true)&&
  ((List.range ecl.length).all λe=>decide (ebl.getD e 0≠999)&&(List.range Dl.length).all λk=>ecl.getD e 0==k||decide (tgl.getD k 999≠ebl.getD e 0))&&
  (decide (Dl.length=ops.size)||(Region.sinkB .any ops Dl.length&&Region.chainB .any ops Dl.length))&&
  Region.seqB .any ops (ops.size-Dl.length) Dl.length ((Array.range ops.size).map λi=>decide (i<Dl.length))
theorem nA{P:Program}{Q:Exit->Act->World->Prop}{n id:Nat}{l:List (Nat×Value)}{ops:List Oper}{w:World}{o:Tg}
  (l0:List (Nat×Value)) (base g:List Nat) (S:List (List Nat)) (N:List (Option Nat)) (J W u B Y:List Nat) (K:List (List Nat)) (T:List Bool) (Rl El:List Pr) (Bf:Tg->World->Prop)
  (hm:P.follows .mixedOrders=true) (G:drawnSB ops.toArray n base g S N J W u B Y K T=true) (L:l0.map (·.1)=base) (hsub:Sub l0 l) (hB0:Bf o w) (hE0:AllE o w El)
  (hSB:∀t o w F w',t∈u->Bf o w->Stp t o w F w'->Bf F w') (hSR:AllSt W Rl) (V:AllSt Y El) (hNN:AllN T Rl) (hob:ObsS P ops n l0 Bf El g Rl J S K 0 (ops.take g.length))
  (U:∀o w a,Fr a n l0->Bf o w->Fin a o w g N Rl->wpList P ops.toArray Q (ops.drop g.length) a w):wpC P (.region id ops.toArray true) Q n l w:=by
 intro a ha;simp only[drawnSB,aW] at G;obtain⟨⟨⟨⟨⟨⟨⟨c1,c2⟩,c3⟩,c4⟩,c5⟩,c6⟩,c7⟩,c8⟩:=G;have hh:g.length<=ops.length:=by simpa using c1
 have H:999∈u:=by simpa using c2
 have q:∀t,t∈u->t≠0∧t<=999:=λt X=>by simpa using bE.1 c3 t X
 have p:∀i,i<g.length->_:=λi hi=>bE.1 c4 i (aS.2 hi);simp only[aW] at p;have O:∀e,e<B.length->_:=λe s=>bE.1 c6 e (aS.2 s);simp only[aW] at O;refine wp_region_any hm ?_;have hinv:HeadInv .any ops.toArray g.length (Array.replicate ops.toArray.size false):=
  ⟨sy,λj oj _ hl=>(by rw[getD_replicate_false] at hl;cases hl),λt _ X=>getD_in (su X) (getD_replicate_false _ _)⟩
 have Z:((List.range g.length).filter λi=> !(Array.replicate ops.toArray.size false).getD i true).length=g.length:=by
  rw[my.2]
  ·simp
  ·intro i hi;have hi':=aS.1 hi;have:(Array.replicate ops.toArray.size false).getD i true=false:=getD_in (by simp;omega) (getD_replicate_false _ _);rw[this];rfl
 have:=BH (P:=P) (Q:=Q) (n:=n) (h:=g.length) (m:=B.length) (l0:=l0) (ops:=ops) (D:=λi=>g.getD i 0) (ds:=λi=>S.getD i []) (es:=λi=>K.getD i []) (cs:=λi=>N.getD i none)
  (R:=λi=>Rl.getD i prT) (E:=λe=>El.getD e prT) (Bf:=Bf) (tg:=λi=>J.getD i 999) (ec:=λe=>B.getD e 0)
  (λi hi o w a hf x s hd op d=>by
   have:=ObsS.get hob i op (by rw[bO,if_pos hi];exact d) o w a hf x (by rw[an];exact Res.of s) (by rw[an];exact Deps.of hd);rw[an] at this;exact this)
  (λk o w F w' M x hs=>hSB _ o w F w' (by have:=(p k M).2;simpa using this) x hs)
  (λe k o w F w' s M hne hE hs=>by
   have y:=(p k M).2;have b:=bE.1 (O e s).2 k (aS.2 M);simp only[bT,beq_iff_eq,decide_eq_true_eq] at b;rcases b with b|b
   ·exact absurd b hne
   ·exact V.get e _ undef o w F w' (q _ (su y)) b hE hs)
  (λi k v o w F w' hi M hik hcs hno hR hs=>by
   have y:=(p k M).2;have b:=bE.1 (p i hi).1.1.1.2 k (aS.2 M);simp only[bT,aW,decide_eq_true_eq,beq_iff_eq] at b;rcases b with b|⟨_,b⟩
   ·exact absurd b.symm hik
   ·rcases b with (b|b)|b
    ·exact absurd b hcs
    rotate_left
    ·obtain⟨oj,C,e,s,x,A⟩:=Region.waitsFor_spec b;exact absurd A (hno oj (su C) e s x)
    ·exact hSR.get i _ v o w F w' (q _ (su y)) b hR hs)
  (λi hi hDn v v' o w hR=>by
   have y:=(p i hi).1.1.1.1;have f:i<ops.length:=om;have d:ops[i]? =some (ops[i]'f):=x_ f;simp only[gf,d,bT,aW,decide_eq_true_eq] at y;rcases y with⟨⟨_,y⟩,_⟩|⟨_,y⟩
   ·omega
   ·exact hNN.get i y v v' o w hR)
  (λi hi=>by
   obtain⟨⟨⟨⟨g1,g4⟩,g5⟩,g6⟩,g7⟩:=p i hi;have f:i<ops.length:=om;have d:ops[i]? =some (ops[i]'f):=x_ f;refine⟨_,d,?_,λj hj hji=>?_,λj hj=>?_,λe s=>?_⟩
   ·simp only[gf,d,bT,aW,decide_eq_true_eq,beq_iff_eq] at g1;rcases g1 with⟨⟨q1,q2⟩,q3⟩|⟨⟨q1,q2⟩,_⟩
    ·exact .inl ⟨q1,q2,by rw[L];simpa using q3⟩
    ·exact .inr ⟨q1,q2⟩
   ·have:=bE.1 g4 j (aS.2 hj);simp only[bT,aW,decide_eq_true_eq] at this;rcases this with h|h
    ·exact absurd h hji
    ·exact h.1
   ·have:=bE.1 g5 j hj;simp only[aW,decide_eq_true_eq,bT,beq_iff_eq] at this;obtain⟨⟨k1,k2⟩,k3⟩:=this;obtain⟨oj,C,e,s,x,A⟩:=Region.waitsFor_spec k2;have:oj=ops[i]'f:=by
     simp only[gf,d] at C;exact(Option.some.inj C).symm
    subst this;exact⟨k1,⟨e,s,x,A⟩,k3⟩
   ·have:=bE.1 g6 e s;simp only[aW,decide_eq_true_eq,bT,beq_iff_eq] at this;refine⟨this.1,this.2.imp (λh=>h) λh=>?_⟩;obtain⟨ok,hok,e',he',x,A⟩:=Region.waitsFor_spec h;exact⟨ok,by simpa using hok,e',he',x,A⟩)
  (λi op d e s x=>by
   have f:i<ops.length:=(Y_.1 d).1;have:=bE.1 c5 i (aS.2 (su f));simp only[gf,d] at this;have b:=Ft.1 this e s;simp only[bT,Fu,decide_eq_true_eq] at b;rcases b with b|b
   ·rw[x] at b;cases b
   ·exact b)
  hh
  (λlisted hI i hi hil t X hr=>by
   simp only[bT,aW,decide_eq_true_eq] at c7;rcases c7 with c7|⟨c7,c7'⟩
   ·obtain⟨_,ot,I,_⟩:=mem_ready.1 hr;have:=(ct.1 I).1;omega
   ·by_cases hn:g.length<ops.toArray.size
    ·exact tail_waits c7 c7' hn hI _ i rfl hi hil t X hr
    ·obtain⟨_,ot,I,_⟩:=mem_ready.1 hr;have:=(ct.1 I).1;omega)
  (su c8)
  (λa o w hf x hd=>U o w a hf x (Fin.of hd))
  g.length (Array.replicate ops.toArray.size false) a {w with drawn:=w.drawn+1} o
  ⟨ha.sub hsub,hSB 999 o w o _ H hB0 (nY o w 999),λi hi hl=>(by rw[getD_replicate_false] at hl;cases hl),λe s _=>by
   have y:=(O e s).1;simp only[decide_eq_true_eq] at y;exact V.get e 999 undef o w o _ (q 999 H) (λh=>y h.symm) (hE0.get e) (nY o w 999)⟩ hinv Z
 rw[show g.length+(ops.length-g.length)=ops.toArray.size by simp;omega] at this;exact this
end
section
inductive HRow where
  |rd (xs:List Int)
  |hole (u:Value)
instance:Rp HRow where
  sz:=1
  pos:=dc
  rd o w cs x:=match x with
    | .rd xs=>∃v,cs=[v]∧RdL o w v xs
    | .hole u=>cs=[u]∧u.oneCell'=true
  len {o w cs x} h:=by
    cases x with
    |rd xs=>obtain⟨v,rfl,_⟩:=h;rfl
    |hole u=>obtain⟨rfl,_⟩:=h;rfl
  one {o w cs x} h:=by
    cases x with
    |rd xs=>obtain⟨v,rfl,a,c,rfl,_⟩:=h;simp[Value.oneCell']
    |hole u=>obtain⟨rfl,h1⟩:=h;intro c hc;rw[be.1 hc];exact h1
  mv {o o' w w' cs x} h hs hb:=by
    cases x with
    |rd xs=>obtain⟨v,e,h⟩:=h;exact⟨v,e,h.mv hs hb⟩
    |hole u=>exact h
section
variable {P:Program} {n:Nat} {l:List (Nat×Value)} {w w0:World} {o oo:Tg} {d:Nat} {ty:TypeId} {ps:String} {af:Array Edge} {g:Option (Nat×Bool)} {R:Value->World->Prop}
variable {B k:Nat} {e:TypeId} {v u:Value} {xs ys:List (List Int)} {i:Int} {r:List Int}
theorem FnV.cells1{A ρ:Type}[Ar A][Rs ρ]{F:A->Option ρ}(h:FnV P w v F):v.cells= #[v]:=by obtain⟨m,cap,rfl,_⟩:=h;rfl
theorem od{d:Option Nat}{b:Operand}{f:FuncId}{xs:List Operand}{vs cap:List Value}{j:Array TypeId}{C:Ending->World->Prop}(p:Calls P f (vs++cap).toArray w C)(a:∀args w,(callFunc f args).run P w=.ok (.enter f args) w)(s:ev l b=some (.func (.func f) #[] cap.toArray))(q:EvL l xs vs)
  (h:∀e w',C e w'->∃v,e=.returned v∧R v w'):op1 P ⟨d,.call {callee:=.value b,args:=xs.toArray,argTypes:=j},ty,ps,af,g⟩ n l w R:=by
 refine nQ (f:=f) (args:=(vs++cap).toArray) (λρ m=>?_) p h;simp only[execOp,resolve,aF,m b _ s,Deferred.ofValue,bt,aL,invoke,et,EvL.map m q];simp[a]
end
end
section
structure Mvr (lo:Nat) (o:Tg) (w:World) (o':Tg) (w':World):Prop where
  z:w.heap.size<=w'.heap.size
  blk:∀b,b<w.heap.size->o b<lo->w'.heap[b]? =w.heap[b]? ∧o' b=o b
  os:w'.os=w.os
  tape:w'.tape=w.tape
  output:w'.output=w.output
def prg(lo:Nat)(o:Tg):Tg:=λb=>if lo<=o b∧o b<=999 then 1000 else o b
def bck(o:Tg)(w:World)(o':Tg):Tg:=λb=>if b<w.heap.size then o b else o' b
theorem xg{lo:Nat}(o:Tg)(w:World)(a:lo<=999):Mvr lo o w (prg lo o) w:=⟨K_ _,λb _ h=>⟨rfl,by unfold prg;rw[if_neg om]⟩,rfl,rfl,rfl⟩
theorem wB{lo:Nat}{o o':Tg}{w w':World}(f:lo<=999)(h:∀b,b<w.heap.size->o' b=prg lo o b):Mvr lo o' w' (bck o w o') w':=
 ⟨K_ _,λb _ d=>⟨rfl,by
  unfold bck;split
  ·rename_i a;have:=h b a;unfold prg at this;split at this<;>omega
  ·rfl⟩,rfl,rfl,rfl⟩
theorem EX{lo:Nat}(a:lo<=999)(o:Tg)(b:Nat):prg lo o b≠999:=by unfold prg;split<;>omega
theorem Fg{lo:Nat}(o:Tg)(b:Nat):prg lo o b<lo∨1000<=prg lo o b:=by unfold prg;split<;>omega
theorem Stp.bckS{lo K:Nat}{o o':Tg}{w w':World}(h:Stp K (prg lo o) w o' w')(g:K<lo)(f:lo<=999):Stp K o w (bck o w o') w':=
 ⟨h.os,h.tape,h.output,h.size,λb a d=>h.block b a (by unfold prg;split<;>omega),λb a=>by unfold Go.Proofs.YtpefhaamcihneaaGreat.bck;rw[if_pos a]⟩
section
variable {lo k B b:Nat} {o o':Tg} {w w':World} {e:TypeId} {v:Value} {α:Type} [Rp α] {xs:List α} {cs:List Value} {x:α}
theorem Rp.mvr(h:Rp.rd o w cs x)(m:Mvr lo o w o' w')(f:0<lo):Rp.rd o' w' cs x:=Rp.mv h m.z λb a d=>⟨(m.blk b a om).1,by rw[(m.blk b a om).2];exact d⟩
theorem RdL.mvr(h:RdL o w v xs)(m:Mvr lo o w o' w')(f:0<lo):RdL o' w' v xs:=h.mv m.z λb a d=>⟨(m.blk b a om).1,by rw[(m.blk b a om).2];exact d⟩
theorem Ow.mvr(h:Ow B e k o w v xs)(m:Mvr lo o w o' w')(A:0<lo)(s:k<lo):Ow B e k o' w' v xs:=by
 obtain⟨css,y,j,n,D⟩:=h;refine⟨css,y,⟨j.1,?_⟩,λg d=>?_,λi cs x a b=>Rp.mvr (D i cs x a b) m A⟩
 ·rcases j.2 with C|⟨g,cap,p,q,E,d,r⟩
  ·exact .inl C
  ·refine .inr ⟨g,cap,p,q,E,?_,r⟩;have f:=(ct.1 d).1;rw[(m.blk g f (by rw[n g (by rw[q];rfl)];exact s)).1];exact d
 ·rw[(m.blk g (j.lt g d).2 (by rw[n g d];exact s)).2];exact n g d
omit [Rp α] in
omit [Rp α] in
theorem Bs.mvr{oo:Tg}{w0:World}(h:Bs oo o w0 w)(m:Mvr lo o w o' w')(d:2<=lo):Bs oo o' w0 w':=
  ⟨⟨m.os.trans h.keeps.os,m.tape.trans h.keeps.tape,m.output.trans h.keeps.output,aH h.keeps.size m.z,
    λb a=>((m.blk b (bh a h.keeps.size) (by rw[h.old b a];split<;>omega)).1).trans (h.keeps.block b a)⟩,
   λb a=>by rw[(m.blk b (bh a h.keeps.size) (by rw[h.old b a];split<;>omega)).2];exact h.old b a⟩
omit [Rp α] in
theorem Bx.mvr(h:Bx B k o w b e cs)(m:Mvr lo o w o' w')(g:k<lo):Bx B k o' w' b e cs:=by
 obtain⟨d,a,i⟩:=h;have f:b<w.heap.size:=(ct.1 d).1;exact⟨(m.blk b f (by rw[a];exact g)).1.trans d,(m.blk b f (by rw[a];exact g)).2.trans a,i⟩
end
structure Stp2 (t u:Nat) (o:Tg) (w:World) (o':Tg) (w':World):Prop where
  os:w'.os=w.os
  tape:w'.tape=w.tape
  output:w'.output=w.output
  size:w.heap.size<=w'.heap.size
  block:∀b,b<w.heap.size->o b≠t->o b≠u->w'.heap[b]? =w.heap[b]?
  own:∀b,b<w.heap.size->o' b=o b
section
variable {t u k K B:Nat} {o o' o'' oo:Tg} {w w' w'' w0:World} {e:TypeId} {v:Value} {α:Type} [Rp α] {xs:List α} {cs:List Value} {x:α} {b:Nat}
theorem Stp.trq{T:Nat}(h:Stp t o w o' w')(f:∀b,b<w.heap.size->o b≠T)(s:Stp T o' w' o'' w''):Stp t o w o'' w'':=
 ⟨s.os.trans h.os,s.tape.trans h.tape,s.output.trans h.output,aH h.size s.size,
  λb a d=>(s.block b (bh a h.size) (by rw[h.own b a];exact f b a)).trans (h.block b a d),
  λb a=>(s.own b (bh a h.size)).trans (h.own b a)⟩
end
namespace Ef
structure Kz (w w':World):Prop where
  size:w.heap.size<=w'.heap.size
structure Bs (oo o:Tg) (w0 w:World):Prop where
  keeps:Kz w0 w
theorem Bs.start(oo:Tg)(o:Tg)(w:World):Bs oo o w w:=⟨⟨K_ _⟩⟩
theorem Bs.stp{oo o o':Tg}{w0 w w':World}{t:Nat}(h:Bs oo o w0 w)(s:Stp t o w o' w')(a:2<=t:=by decide):Bs oo o' w0 w':=⟨⟨aH h.keeps.size s.size⟩⟩
end Ef
end
section
section
variable {o0 o o':Tg} {w0 w w':World} {t:Nat}
theorem Stp.trW(h:Stp 13 o0 w0 o w)(d:∀b,b<w0.heap.size->o0 b<14∨1000<=o0 b)(s:Stp t o w o' w')(g:14<=t)(f:t<=999):Stp 13 o0 w0 o' w':=
 ⟨s.os.trans h.os,s.tape.trans h.tape,s.output.trans h.output,aH h.size s.size,
  λb a e=>(s.block b (bh a h.size) (by rw[h.own b a];have:=d b a;omega)).trans (h.block b a e),
  λb a=>(s.own b (bh a h.size)).trans (h.own b a)⟩
theorem Stp.frzW(h:Stp 13 o0 w0 o w)(d:∀b,b<w0.heap.size->o0 b<14∨1000<=o0 b)(j:Nat)(f:14<=j)(e:j<=999):Stp 13 o0 w0 (frz j o) w:=
 ⟨h.os,h.tape,h.output,h.size,h.block,λb a=>by
  unfold frz;rw[if_neg (by rw[h.own b a];have:=d b a;omega)];exact h.own b a⟩
end
end
structure tH where
  p:c_
  q:c_
  deriving DecidableEq
instance:Rp tH where
  sz:=8
  pos:=dc
  rd o w cs x:=∃v1 v2 v3 v4,cs=[.int .i64 x.p.Labels,.int .i64 x.p.Degree,v1,v2,.int .i64 x.q.Labels,.int .i64 x.q.Degree,v3,v4]∧RdL o w v1 x.p.Nodes∧RdL o w v2 x.p.Edges∧RdL o w v3 x.q.Nodes∧RdL o w v4 x.q.Edges
  len h:=by obtain⟨v1,v2,v3,v4,rfl,h1,h2,h3,h4⟩:=h;rfl
  one h:=by
    obtain⟨v1,v2,v3,v4,rfl,h1,h2,h3,h4⟩:=h
    intro c hc
    simp only[I_,P_,or_false] at hc
    rcases hc with rfl|rfl|rfl|rfl|rfl|rfl|rfl|rfl<;>first|rfl|exact h1.one1|exact h2.one1|exact h3.one1|exact h4.one1
  mv h hs hb:=by obtain⟨v1,v2,v3,v4,rfl,h1,h2,h3,h4⟩:=h;exact⟨v1,v2,v3,v4,rfl,h1.mv hs hb,h2.mv hs hb,h3.mv hs hb,h4.mv hs hb⟩
instance:Rz tH:=⟨⟨⟨0,0,[],[]⟩,⟨0,0,[],[]⟩⟩,[.int .i64 0,.int .i64 0,.slice none 0 0,.slice none 0 0,.int .i64 0,.int .i64 0,.slice none 0 0,.slice none 0 0],λo w=>⟨_,_,_,_,rfl,RdL.nil o w,RdL.nil o w,RdL.nil o w,RdL.nil o w⟩⟩
structure cy where
  p:c_
  q:c_
  perm:List Int
  deriving DecidableEq
instance:Rp cy where
  sz:=9
  pos:=dc
  rd o w cs x:=∃v1 v2 v3 v4 v5,cs=[.int .i64 x.p.Labels,.int .i64 x.p.Degree,v1,v2,.int .i64 x.q.Labels,.int .i64 x.q.Degree,v3,v4,v5]∧RdL o w v1 x.p.Nodes∧RdL o w v2 x.p.Edges∧RdL o w v3 x.q.Nodes∧RdL o w v4 x.q.Edges∧RdL o w v5 x.perm
  len h:=by obtain⟨v1,v2,v3,v4,v5,rfl,h1,h2,h3,h4,h5⟩:=h;rfl
  one h:=by
    obtain⟨v1,v2,v3,v4,v5,rfl,h1,h2,h3,h4,h5⟩:=h
    intro c hc
    simp only[I_,P_,or_false] at hc
    rcases hc with rfl|rfl|rfl|rfl|rfl|rfl|rfl|rfl|rfl<;>first|rfl|exact h1.one1|exact h2.one1|exact h3.one1|exact h4.one1|exact h5.one1
  mv h hs hb:=by obtain⟨v1,v2,v3,v4,v5,rfl,h1,h2,h3,h4,h5⟩:=h;exact⟨v1,v2,v3,v4,v5,rfl,h1.mv hs hb,h2.mv hs hb,h3.mv hs hb,h4.mv hs hb,h5.mv hs hb⟩
instance:Rz cy:=⟨⟨⟨0,0,[],[]⟩,⟨0,0,[],[]⟩,[]⟩,[.int .i64 0,.int .i64 0,.slice none 0 0,.slice none 0 0,.int .i64 0,.int .i64 0,.slice none 0 0,.slice none 0 0,.slice none 0 0],λo w=>⟨_,_,_,_,_,rfl,RdL.nil o w,RdL.nil o w,RdL.nil o w,RdL.nil o w,RdL.nil o w⟩⟩
structure al where
  p:c_
  q:c_
  nodes:List Bool
  edges:List Bool
  deriving DecidableEq
instance:Rp al where
  sz:=10
  pos:=dc
  rd o w cs x:=∃v1 v2 v3 v4 v5 v6,cs=[.int .i64 x.p.Labels,.int .i64 x.p.Degree,v1,v2,.int .i64 x.q.Labels,.int .i64 x.q.Degree,v3,v4,v5,v6]∧RdL o w v1 x.p.Nodes∧RdL o w v2 x.p.Edges∧RdL o w v3 x.q.Nodes∧RdL o w v4 x.q.Edges∧RdL o w v5 x.nodes∧RdL o w v6 x.edges
  len h:=by obtain⟨v1,v2,v3,v4,v5,v6,rfl,h1,h2,h3,h4,h5,h6⟩:=h;rfl
  one h:=by
    obtain⟨v1,v2,v3,v4,v5,v6,rfl,h1,h2,h3,h4,h5,h6⟩:=h
    intro c hc
    simp only[I_,P_,or_false] at hc
    rcases hc with rfl|rfl|rfl|rfl|rfl|rfl|rfl|rfl|rfl|rfl<;>first|rfl|exact h1.one1|exact h2.one1|exact h3.one1|exact h4.one1|exact h5.one1|exact h6.one1
  mv h hs hb:=by obtain⟨v1,v2,v3,v4,v5,v6,rfl,h1,h2,h3,h4,h5,h6⟩:=h;exact⟨v1,v2,v3,v4,v5,v6,rfl,h1.mv hs hb,h2.mv hs hb,h3.mv hs hb,h4.mv hs hb,h5.mv hs hb,h6.mv hs hb⟩
instance:Rz al:=⟨⟨⟨0,0,[],[]⟩,⟨0,0,[],[]⟩,[],[]⟩,[.int .i64 0,.int .i64 0,.slice none 0 0,.slice none 0 0,.int .i64 0,.int .i64 0,.slice none 0 0,.slice none 0 0,.slice none 0 0,.slice none 0 0],λo w=>⟨_,_,_,_,_,_,rfl,RdL.nil o w,RdL.nil o w,RdL.nil o w,RdL.nil o w,RdL.nil o w,RdL.nil o w⟩⟩
end Go.Proofs.YtpefhaamcihneaaGreat
