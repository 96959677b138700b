/- Part 10 of what this claim rests on (pack.py). -/
import Derived.Test.YtpefhaamcihneaaGreatP08
namespace Go.Proofs.YtpefhaamcihneaaGreat
set_option linter.unusedSimpArgs false
set_option linter.unusedVariables false
open Go.RowKit
section
structure DrawnS (n h m:Nat) (l0:List (Nat×Value)) (D:Nat->Nat) (cs:Nat->Option Nat) (R:Nat->Value->Tg->World->Prop) (Bf:Tg->World->Prop) (E:Nat->Value->Tg->World->Prop) (ec:Nat->Nat) (listed:Array Bool) (a:Act) (w:World) (o:Tg):Prop where
  fr:Fr a n l0
  base:Bf o w
  done:∀i,i<h->listed.getD i false=true->(∀k,cs i=some k->listed.getD k false=false)->R i (a.tmps.getD (D i) undef) o w
  res:∀e,e<m->listed.getD (ec e) false=false->E e undef o w
theorem Bk{a:Array Bool}{h i:Nat}(o:i<a.size)(hi:i<h)(b:a.getD i true=false):
  ((List.range h).filter λj=> !(a.setIfInBounds i true).getD j true).length+1=((List.range h).filter λj=> !a.getD j true).length:=by
 have q:∀(m:Nat),i<m->((List.range m).filter λj=> !(a.setIfInBounds i true).getD j true).length+1=((List.range m).filter λj=> !a.getD j true).length:=by
  intro m
  induction m with
  |zero=>intro h;omega
  | succ m d=>
   intro p;rw[gc,ey,ey,ar,ar];by_cases e:i=m
   ·subst e;have g:((List.range i).filter λj=> !(a.setIfInBounds i true).getD j true)=(List.range i).filter λj=> !a.getD j true:=by
     apply oR;intro j f;have:=aS.1 f;rw[getD_set_ne true om]
    rw[g];have s:(a.setIfInBounds i true).getD i true=true:=sy;simp only[gd,oS,s,b];simp
   ·have:=d om;have k:(a.setIfInBounds i true).getD m true=a.getD m true:=getD_set_ne true om;simp only[gd,oS,k];omega
 exact q h hi
section
variable {P:Program} {Q:Exit->Act->World->Prop} {n h m:Nat} {l0:List (Nat×Value)} {ops:List Oper} {D:Nat->Nat} {ds es:Nat->List Nat} {cs:Nat->Option Nat}
  {R E:Nat->Value->Tg->World->Prop} {Bf:Tg->World->Prop} {tg ec:Nat->Nat}
theorem By(hds:∀i,i<h->∀o w a,Fr a n l0->Bf o w->(∀e,e∈es i->E e undef o w)->(∀j,j∈ds i->R j (a.tmps.getD (D j) undef) o w)->∀q,ops[i]? =some q->opS P ops.toArray q a w λv w'=>∃f,Stp (tg i) o w f w'∧R i v f w')
  (hsB:∀k o w f w',k<h->Bf o w->Stp (tg k) o w f w'->Bf f w')
  (hsE:∀e k o w f w',e<m->k<h->ec e≠k->E e undef o w->Stp (tg k) o w f w'->E e undef f w')
  (hsR:∀i k v o w f w',i<h->k<h->i≠k->cs i≠some k->(∀q,ops[i]? =some q->∀e∈q.after,Region.binds .any e=true->e.on≠k)->R i v o w->Stp (tg k) o w f w'->R i v f w')
  (hN:∀i,i<h->n<=D i->∀v v' o w,R i v o w->R i v' o w)
  (hD:∀i,i<h->∃q,ops[i]? =some q∧((q.dst=some (D i)∧D i<n∧(l0.map (·.1)).contains (D i)=false)∨(q.dst=none∧n<=D i))∧(∀j,j<h->j≠i->D j≠D i)∧
   (∀j,j∈ds i->j<h∧(∃e∈q.after,Region.binds .any e=true∧e.on=j)∧(cs j=none∨cs j=some i))∧
   (∀e,e∈es i->e<m∧(ec e=i∨∃ok,ops[ec e]? =some ok∧∃e'∈ok.after,Region.binds .any e'=true∧e'.on=i)))
  (hlow:∀i q,ops[i]? =some q->∀e∈q.after,Region.binds .any e=true->e.on<i)
  (hh:h<=ops.length)
  (htl:∀b,HeadInv .any ops.toArray h b->∀i,i<h->b.getD i true=false->∀t,h<=t->t ∉ Region.ready .any ops.toArray b)
  (hsq:Region.seqB .any ops.toArray (ops.length-h) h ((Array.range ops.length).map λi=>decide (i<h))=true)
  (hfin:∀a o w,Fr a n l0->Bf o w->(∀i,i<h->cs i=none->R i (a.tmps.getD (D i) undef) o w)->wpList P ops.toArray Q (ops.drop h) a w):
  ∀(d:Nat)(b:Array Bool)(a:Act)(w:World)(o:Tg),DrawnS n h m l0 D cs R Bf E ec b a w o->HeadInv .any ops.toArray h b->
   ((List.range h).filter λi=> !b.getD i true).length=d->wpAny P .any ops.toArray Q (d+(ops.length-h)) b a w:=by
 intro u
 induction u with
 | zero=>
  intro b a w o F K V;have h0:(List.range h).filter (λi=> !b.getD i true)=[]:=cD V;have x:∀i,i<h->b.getD i true=true:=by
   intro i hi;have:=xQ.1 h0 i (aS.2 hi);simpa using this
  have hlist:b=(Array.range ops.length).map λi=>decide (i<h):=by
   apply oQ (by simp[K.size]);intro i h1 h2;have h3:i<ops.length:=by simpa [K.size] using h1
   simp only[xR,xS];by_cases hi:i<h
   ·have:=x i hi;simp[h1] at this;simp[this,hi]
   ·have:=K.tail i om (su h3);simp[h1] at this;simp[this,hi]
  have:=wpAny_of_seq (P:=P) (md:=.any) (ops:=ops.toArray) (Q':=Q) (ops.drop h) h b a w (λj=>by simp[dV]) (by rw[hlist];simpa using hsq)
   (hfin a o w F.fr F.base λi hi A=>F.done i hi (by
    have h1:=x i hi;have h2:i<b.size:=by rw[K.size];simp;omega
    simp[h2] at h1 ⊢;exact h1) (λk U=>by rw[A] at U;cases U))
  have Y:(ops.drop h).length=0+(ops.length-h):=sy;rw[Y] at this;exact this
 | succ u ih=>
  intro b a w o F K V;rw[show u+1+(ops.length-h)=(u+(ops.length-h))+1 by omega];have H:(List.range h).filter (λi=> !b.getD i true)≠ []:=λe=>by rw[e] at V;simp at V
  obtain⟨i0,hi0⟩:=Fs _ H;have Z:=aS.1 (cF.1 hi0).1;have hi0l:b.getD i0 true=false:=by simpa using (cF.1 hi0).2
  refine⟨λhr=>?_,λi hi=>?_⟩
  ·exfalso;have key:∀(d i:Nat),i=d->i<h->b.getD i true=false->∃j,j∈Region.ready .any ops.toArray b:=by
    intro d
    induction d using Nat.strongRecOn with
    | _ d ihd=>
     intro i hid p B;obtain⟨q,M,_⟩:=hD i p;by_cases x:∀e∈q.after,Region.binds .any e=true->b.getD e.on false=true
     ·exact⟨i,mem_ready.2 ⟨B,q,by simpa using M,x⟩⟩
     ·have:∃e,e∈q.after∧Region.binds .any e=true∧b.getD e.on false=false:=by
       apply ge;intro hno;apply x;intro e T hb;cases A:b.getD e.on false with
       |true=>rfl
       |false=>exact absurd ⟨e,T,hb,A⟩ hno
      obtain⟨e,T,hb,A⟩:=this;have hlt:=hlow i q M e T hb;have S:e.on<b.size:=by rw[K.size];simp;omega
      exact ihd e.on om e.on rfl om (getD_in S A)
   obtain⟨j,J⟩:=key i0 i0 rfl Z hi0l;rw[hr] at J;cases J
  ·have p:i<h:=by
    apply oK;intro hle;exact htl b K i0 Z hi0l i hle hi
   obtain⟨q,M,g,hdist,hdeps,hres⟩:=hD i p;obtain⟨B,X,G,W⟩:=mem_ready.1 hi;have e:X=q:=by
    have:ops.toArray[i]? =ops[i]? :=sy;rw[this,M] at G;exact(Option.some.inj G).symm
   subst e;have S:i<b.size:=by rw[K.size];simp;omega
   unfold wpOp;rw[G];have N:=hds i p o w a F.fr F.base (λe T=>by
    obtain⟨hem,A⟩:=hres e T;refine F.res e hem ?_;rcases A with A|⟨ok,hok,e',he',hb',hon⟩
    ·rw[A];exact getD_both B
    ·cases Y:b.getD (ec e) false with
     |false=>rfl
     |true=>
      have:=K.closed (ec e) ok (su hok) Y e' he' hb';rw[hon,getD_both B] at this;cases this) (λj J=>by
    obtain⟨hjh,⟨ed,hed1,hed2,hed3⟩,A⟩:=hdeps j J;refine F.done j hjh (by rw[<-hed3];exact W ed hed1 hed2) (λk U=>?_);rcases A with A|A
    ·rw[A] at U;cases U
    ·rw[A] at U;cases U
     exact getD_both B) X M
   have O:∀(v:Value)(w':World)(f:Tg),Stp (tg i) o w f w'->R i v f w'->wpAny P .any ops.toArray Q (u+(ops.length-h)) (b.setIfInBounds i true) (a.put X.dst v) w':=by
    intro v w' f y hR;have A:=Bk S p B;have L:∀e,e<m->(b.setIfInBounds i true).getD (ec e) false=false->E e undef f w':=λe T Y=>by
     have H:ec e≠i:=λh=>by rw[h] at Y;simp[S] at Y
     rw[getD_set_ne false (λh=>H h.symm)] at Y;exact hsE e i o w f w' T p H (F.res e T Y) y
    have hold:∀j,j<h->j≠i->(b.setIfInBounds i true).getD j false=true->(∀k,cs j=some k->(b.setIfInBounds i true).getD k false=false)->R j (a.tmps.getD (D j) undef) f w':=λj J s C I=>by
     rw[getD_set_ne false (λe=>s e.symm)] at C;have hcs:cs j≠some i:=by
      intro e;have:=I i e;simp[S] at this
     refine hsR j i _ o w f w' J p s hcs (λoj hoj e T hb hon=>?_) (F.done j J C λk U=>?_) y
     ·have:=K.closed j oj (su hoj) C e T hb;rw[hon,getD_both B] at this;cases this
     have:=I k U;by_cases hki:k=i
     ·subst hki;exact absurd U hcs
     ·rw[getD_set_ne false (λe=>hki e.symm)] at this;exact this
    rcases g with⟨g,hDn,hbase⟩|⟨g,hDn⟩
    ·rw[g];refine ih _ _ _ f ⟨F.fr.put_ne hbase v,hsB i o w f w' p F.base y,λj J C I=>?_,L⟩ (K.set hi p) om;by_cases s:j=i
     ·subst s;have:((a.put (some (D j)) v).tmps.getD (D j) undef)=v:=by
       have hlt:D j<a.tmps.size:=by rw[F.fr.size];exact hDn
       simp[Act.put,dq,hlt]
      rw[this];exact hR
     ·have H:=hdist j J s;have:((a.put (some (D i)) v).tmps.getD (D j) undef)=a.tmps.getD (D j) undef:=by
       simp only[Act.put,dq];rw[qS (V_ H)]
      rw[this];exact hold j J s C I
    ·rw[g];refine ih _ _ _ f ⟨F.fr,hsB i o w f w' p F.base y,λj J C I=>?_,L⟩ (K.set hi p) om;by_cases s:j=i
     ·subst s;exact hN j p hDn _ _ _ _ hR
     ·exact hold j J s C I
   unfold opS at N;simp only[G,];by_cases hw:Region.wanted X (yielded ops.toArray a.tmps)=true
   ·rw[if_pos hw] at N ⊢;refine .inl (nh ?_ ?_ N)
    ·rintro a' w' ⟨v,rfl,f,y,hR⟩;exact O v w' f y hR
    ·intro _ _ _ h;exact h.elim
   ·rw[if_neg hw] at N ⊢;obtain⟨f,y,hR⟩:=N;have:=O undef w f y hR;rcases g with⟨g,_⟩|⟨g,_⟩
    ·exact this
    ·exact this
end
def Res(El:List Pr)(o:Tg)(w:World):List Nat->Prop
  |[]=>True
  |e::es=>(El.getD e prT) undef o w∧Res El o w es
theorem Res.of{a:List Pr}{o:Tg}{w:World}:∀{es:List Nat},(∀e,e∈es->(a.getD e prT) undef o w)->Res a o w es
 |[],_=>trivial
 |e::es,h=>⟨h e (by simp),Res.of λi hi=>h i (by simp[hi])⟩
def AllE(o:Tg)(w:World):List Pr->Prop
  |[]=>True
  |p::ps=>p undef o w∧AllE o w ps
theorem AllE.get{o:Tg}{w:World}:∀{ps:List Pr},AllE o w ps->∀e,(ps.getD e prT) undef o w
 |[],_,_=>trivial
 |p::ps,h,0=>h.1
 |p::ps,h,e+1=>by simpa using AllE.get h.2 e
def AllN:List Bool->List Pr->Prop
  |true::bs,p::ps=>(∀v v' o w,p v o w->p v' o w)∧AllN bs ps
  |false::bs,_::ps=>True∧AllN bs ps
  |_,_=>True
theorem AllN.get:∀{bs:List Bool}{ps:List Pr},AllN bs ps->∀i,bs.getD i false=true->∀v b o w,(ps.getD i prT) v o w->(ps.getD i prT) b o w
 |[],ps,_,i,a=>by simp at a
 |true::bs,[],_,i,a=>λ_ _ _ _ _=>trivial
 |false::bs,[],_,i,a=>λ_ _ _ _ _=>trivial
 |true::bs,p::ps,h,0,_=>h.1
 |false::bs,p::ps,h,0,a=>by simp at a
 |true::bs,p::ps,h,i+1,a=>by simpa using AllN.get h.2 i (by simpa using a)
 |false::bs,p::ps,h,i+1,a=>by simpa using AllN.get h.2 i (by simpa using a)
def ObsS(P:Program)(all:List Oper)(n:Nat)(l0:List (Nat×Value))(Bf:Tg->World->Prop)(El:List Pr)(Dl:List Nat)(Rl:List Pr)(tgl:List Nat)(dsl esl:List (List Nat)):Nat->List Oper->Prop
  |_,[]=>True
  |i,op::ops=>(∀o w a,Fr a n l0->Bf o w->Res El o w (esl.getD i [])->Deps Dl Rl a o w (dsl.getD i [])->opS P all.toArray op a w λv w'=>∃o',Stp (tgl.getD i 999) o w o' w'∧(Rl.getD i prT) v o' w')∧ObsS P all n l0 Bf El Dl Rl tgl dsl esl (i+1) ops
theorem ObsS.get{P:Program}{all:List Oper}{n:Nat}{l0:List (Nat×Value)}{Bf:Tg->World->Prop}{p:List Pr}{q:List Nat}{g:List Pr}{e:List Nat}{f d:List (List Nat)}:
  ∀{ops:List Oper}{k:Nat},ObsS P all n l0 Bf p q g e f d k ops->∀i b,ops[i]? =some b->∀o w a,Fr a n l0->Bf o w->Res p o w (d.getD (k+i) [])->Deps q g a o w (f.getD (k+i) [])->
   opS P all.toArray b a w λv w'=>∃s,Stp (e.getD (k+i) 999) o w s w'∧(g.getD (k+i) prT) v s w'
 |[],k,_,i,b,h=>by simp at h
 |o::ops,k,j,0,b,h=>by simp at h;subst h;exact j.1
 |o::ops,k,j,i+1,b,h=>by
  have:=ObsS.get j.2 i b (su h);rw[show k+1+i=k+(i+1) by omega] at this;exact this
def drawnSB(ops:Array Oper)(n:Nat)(base Dl:List Nat)(dsl:List (List Nat))(csl:List (Option Nat))(tgl bdl tags ecl ebl:List Nat)(esl:List (List Nat))(sts:List Bool):Bool:=
  decide (Dl.length<=ops.size)&&tags.contains 999&&tags.all (λt=>decide (t≠0∧t<=999))&&
  ((List.range Dl.length).all λi=>
    (match ops[i]? with
      |some o=>(o.dst==some (Dl.getD i 0)&&decide (Dl.getD i 0<n)&& !base.contains (Dl.getD i 0))||(o.dst==none&&decide (n<=Dl.getD i 0)&&sts.getD i false)
      |none=>false)&&
    ((List.range Dl.length).all λj=>decide (j=i)||(decide (Dl.getD j 0≠Dl.getD i 0)&&(csl.getD i none==some j||decide (tgl.getD j 999≠bdl.getD i 0)||Region.waitsFor .any ops i j)))&&
    ((dsl.getD i []).all λj=>decide (j<Dl.length)&&Region.waitsFor .any ops i j&&(csl.getD j none==none||csl.getD j none==some i))&&
    ((esl.getD i []).all λe=>decide (e<ecl.length)&&(ecl.getD e 0==i||Region.waitsFor .any ops (ecl.getD e 0) i))&&
    tags.contains (tgl.getD i 999))&&
  ((List.range ops.size).all λi=>match ops[i]? with|some o=>o.after.all (λe=> !Region.binds .any e||decide (e.on<i))|none=>true)&&
  ((List.range ecl.length).all λe=>decide (ebl.getD e 0≠999)&&(List.range Dl.length).all λk=>ecl.getD e 0==k||decide (tgl.getD k 999≠ebl.getD e 0))&&
  (decide (Dl.length=ops.size)||(Region.sinkB .any ops Dl.length&&Region.chainB .any ops Dl.length))&&
  Region.seqB .any ops (ops.size-Dl.length) Dl.length ((Array.range ops.size).map λi=>decide (i<Dl.length))
theorem nB{P:Program}{Q:Exit->Act->World->Prop}{n id:Nat}{l:List (Nat×Value)}{ops:List Oper}{w:World}{o:Tg}
  (l0:List (Nat×Value)) (base g:List Nat) (M:List (List Nat)) (I:List (Option Nat)) (O X u B Z:List Nat) (N:List (List Nat)) (sts:List Bool) (Rl El:List Pr) (Bf:Tg->World->Prop)
  (hm:P.follows .mixedOrders=true) (F:drawnSB ops.toArray n base g M I O X u B Z N sts=true) (J:l0.map (·.1)=base) (T:Sub l0 l) (hB0:Bf o w) (hE0:AllE o w El)
  (U:∀t o w H w',t∈u->Bf o w->Stp t o w H w'->Bf H w') (hSR:AllSt X Rl) (hSE:AllSt Z El) (hNN:AllN sts Rl) (hob:ObsS P ops n l0 Bf El g Rl O M N 0 (ops.take g.length))
  (W:∀o w a,Fr a n l0->Bf o w->Fin a o w g I Rl->wpList P ops.toArray Q (ops.drop g.length) a w):wpC P (.region id ops.toArray true) Q n l w:=by
 intro a ha;simp only[drawnSB,aW] at F;obtain⟨⟨⟨⟨⟨⟨⟨c1,c2⟩,c3⟩,c4⟩,c5⟩,c6⟩,c7⟩,c8⟩:=F;have hh:g.length<=ops.length:=by simpa using c1
 have G:999∈u:=by simpa using c2
 have q:∀t,t∈u->t≠0∧t<=999:=λt ht=>by simpa using bE.1 c3 t ht
 have s:∀i,i<g.length->_:=λi hi=>bE.1 c4 i (aS.2 hi);simp only[aW] at s;have L:∀e,e<B.length->_:=λe p=>bE.1 c6 e (aS.2 p);simp only[aW] at L;refine wp_region_any hm ?_;have V:HeadInv .any ops.toArray g.length (Array.replicate ops.toArray.size false):=
  ⟨sy,λj oj _ hl=>(by rw[getD_replicate_false] at hl;cases hl),λt _ ht=>getD_in (su ht) (getD_replicate_false _ _)⟩
 have hcnt:((List.range g.length).filter λi=> !(Array.replicate ops.toArray.size false).getD i true).length=g.length:=by
  rw[my.2]
  ·simp
  ·intro i hi;have hi':=aS.1 hi;have:(Array.replicate ops.toArray.size false).getD i true=false:=getD_in (by simp;omega) (getD_replicate_false _ _);rw[this];rfl
 have:=By (P:=P) (Q:=Q) (n:=n) (h:=g.length) (m:=B.length) (l0:=l0) (ops:=ops) (D:=λi=>g.getD i 0) (ds:=λi=>M.getD i []) (es:=λi=>N.getD i []) (cs:=λi=>I.getD i none)
  (R:=λi=>Rl.getD i prT) (E:=λe=>El.getD e prT) (Bf:=Bf) (tg:=λi=>O.getD i 999) (ec:=λe=>B.getD e 0)
  (λi hi o w a hf x p hd op d=>by
   have:=ObsS.get hob i op (by rw[bO,if_pos hi];exact d) o w a hf x (by rw[an];exact Res.of p) (by rw[an];exact Deps.of hd);rw[an] at this;exact this)
  (λk o w H w' K x Y=>U _ o w H w' (by have:=(s k K).2;simpa using this) x Y)
  (λe k o w H w' p K hne hE Y=>by
   have y:=(s k K).2;have b:=bE.1 (L e p).2 k (aS.2 K);simp only[bT,beq_iff_eq,decide_eq_true_eq] at b;rcases b with b|b
   ·exact absurd b hne
   ·exact hSE.get e _ undef o w H w' (q _ (su y)) b hE Y)
  (λi k v o w H w' hi K hik hcs hno hR Y=>by
   have y:=(s k K).2;have b:=bE.1 (s i hi).1.1.1.2 k (aS.2 K);simp only[bT,aW,decide_eq_true_eq,beq_iff_eq] at b;rcases b with b|⟨_,b⟩
   ·exact absurd b.symm hik
   ·rcases b with (b|b)|b
    ·exact absurd b hcs
    rotate_left
    ·obtain⟨oj,C,e,p,x,A⟩:=Region.waitsFor_spec b;exact absurd A (hno oj (su C) e p x)
    ·exact hSR.get i _ v o w H w' (q _ (su y)) b hR Y)
  (λi hi hDn v v' o w hR=>by
   have y:=(s i hi).1.1.1.1;have f:i<ops.length:=om;have d:ops[i]? =some (ops[i]'f):=x_ f;simp only[gf,d,bT,aW,decide_eq_true_eq] at y;rcases y with⟨⟨_,y⟩,_⟩|⟨_,y⟩
   ·omega
   ·exact hNN.get i y v v' o w hR)
  (λi hi=>by
   obtain⟨⟨⟨⟨g1,g4⟩,g5⟩,g6⟩,g7⟩:=s i hi;have f:i<ops.length:=om;have d:ops[i]? =some (ops[i]'f):=x_ f;refine⟨_,d,?_,λj hj hji=>?_,λj hj=>?_,λe p=>?_⟩
   ·simp only[gf,d,bT,aW,decide_eq_true_eq,beq_iff_eq] at g1;rcases g1 with⟨⟨q1,q2⟩,q3⟩|⟨⟨q1,q2⟩,_⟩
    ·exact .inl ⟨q1,q2,by rw[J];simpa using q3⟩
    ·exact .inr ⟨q1,q2⟩
   ·have:=bE.1 g4 j (aS.2 hj);simp only[bT,aW,decide_eq_true_eq] at this;rcases this with h|h
    ·exact absurd h hji
    ·exact h.1
   ·have:=bE.1 g5 j hj;simp only[aW,decide_eq_true_eq,bT,beq_iff_eq] at this;obtain⟨⟨k1,k2⟩,k3⟩:=this;obtain⟨oj,C,e,p,x,A⟩:=Region.waitsFor_spec k2;have:oj=ops[i]'f:=by
     simp only[gf,d] at C;exact(Option.some.inj C).symm
    subst this;exact⟨k1,⟨e,p,x,A⟩,k3⟩
   ·have:=bE.1 g6 e p;simp only[aW,decide_eq_true_eq,bT,beq_iff_eq] at this;refine⟨this.1,this.2.imp (λh=>h) λh=>?_⟩;obtain⟨ok,hok,e',he',x,A⟩:=Region.waitsFor_spec h;exact⟨ok,by simpa using hok,e',he',x,A⟩)
  (λi op d e p x=>by
   have f:i<ops.length:=(Y_.1 d).1;have:=bE.1 c5 i (aS.2 (su f));simp only[gf,d] at this;have b:=Ft.1 this e p;simp only[bT,Fu,decide_eq_true_eq] at b;rcases b with b|b
   ·rw[x] at b;cases b
   ·exact b)
  hh
  (λlisted hI i hi hil t ht hr=>by
   simp only[bT,aW,decide_eq_true_eq] at c7;rcases c7 with c7|⟨c7,c7'⟩
   ·obtain⟨_,ot,S,_⟩:=mem_ready.1 hr;have:=(ct.1 S).1;omega
   ·by_cases hn:g.length<ops.toArray.size
    ·exact tail_waits c7 c7' hn hI _ i rfl hi hil t ht hr
    ·obtain⟨_,ot,S,_⟩:=mem_ready.1 hr;have:=(ct.1 S).1;omega)
  (su c8)
  (λa o w hf x hd=>W o w a hf x (Fin.of hd))
  g.length (Array.replicate ops.toArray.size false) a {w with drawn:=w.drawn+1} o
  ⟨ha.sub T,U 999 o w o _ G hB0 (nT o w 999),λi hi hl=>(by rw[getD_replicate_false] at hl;cases hl),λe p _=>by
   have y:=(L e p).1;simp only[decide_eq_true_eq] at y;exact hSE.get e 999 undef o w o _ (q 999 G) (λh=>y h.symm) (hE0.get e) (nT o w 999)⟩ V hcnt
 rw[show g.length+(ops.length-g.length)=ops.toArray.size by simp;omega] at this;exact this
end
section
inductive HRow where
  |rd (xs:List Int)
  |hole (u:Value)
instance:Rp HRow where
  sz:=1
  pos:=dc
  rd o w cs x:=match x with
    | .rd xs=>∃v,cs=[v]∧RdL o w v xs
    | .hole u=>cs=[u]∧u.oneCell'=true
  len {o w cs x} h:=by
    cases x with
    |rd xs=>obtain⟨v,rfl,_⟩:=h;rfl
    |hole u=>obtain⟨rfl,_⟩:=h;rfl
  one {o w cs x} h:=by
    cases x with
    |rd xs=>obtain⟨v,rfl,a,c,rfl,_⟩:=h;simp[Value.oneCell']
    |hole u=>obtain⟨rfl,h1⟩:=h;intro c hc;rw[be.1 hc];exact h1
  mv {o o' w w' cs x} h hs hb:=by
    cases x with
    |rd xs=>obtain⟨v,e,h⟩:=h;exact⟨v,e,h.mv hs hb⟩
    |hole u=>exact h
section
variable {P:Program} {n:Nat} {l:List (Nat×Value)} {w w0:World} {o oo:Tg} {d:Nat} {ty:TypeId} {ps:String} {af:Array Edge} {g:Option (Nat×Bool)} {R:Value->World->Prop}
variable {B k:Nat} {e:TypeId} {v u:Value} {xs ys:List (List Int)} {i:Int} {r:List Int}
theorem FnV.cells1{A ρ:Type}[Ar A][Rs ρ]{F:A->Option ρ}(h:FnV P w v F):v.cells= #[v]:=by obtain⟨m,cap,rfl,_⟩:=h;rfl
theorem nS{d:Option Nat}{b:Operand}{f:FuncId}{xs:List Operand}{vs cap:List Value}{j:Array TypeId}{C:Ending->World->Prop}(s:Calls P f (vs++cap).toArray w C)(a:∀args w,(callFunc f args).run P w=.ok (.enter f args) w)(q:ev l b=some (.func (.func f) #[] cap.toArray))(p:EvL l xs vs)
  (h:∀e w',C e w'->∃v,e=.returned v∧R v w'):op1 P ⟨d,.call {callee:=.value b,args:=xs.toArray,argTypes:=j},ty,ps,af,g⟩ n l w R:=by
 refine nE (f:=f) (args:=(vs++cap).toArray) (λρ m=>?_) s h;simp only[execOp,resolve,aF,m b _ q,Deferred.ofValue,bt,aL,invoke,et,EvL.map m p];simp[a]
end
end
section
structure Mvr (lo:Nat) (o:Tg) (w:World) (o':Tg) (w':World):Prop where
  z:w.heap.size<=w'.heap.size
  blk:∀b,b<w.heap.size->o b<lo->w'.heap[b]? =w.heap[b]? ∧o' b=o b
  os:w'.os=w.os
  tape:w'.tape=w.tape
  output:w'.output=w.output
def prg(lo:Nat)(o:Tg):Tg:=λb=>if lo<=o b∧o b<=999 then 1000 else o b
def bck(o:Tg)(w:World)(o':Tg):Tg:=λb=>if b<w.heap.size then o b else o' b
theorem wH{lo:Nat}(o:Tg)(w:World)(a:lo<=999):Mvr lo o w (prg lo o) w:=⟨K_ _,λb _ h=>⟨rfl,by unfold prg;rw[if_neg om]⟩,rfl,rfl,rfl⟩
theorem wF{lo:Nat}{o o':Tg}{w w':World}(f:lo<=999)(h:∀b,b<w.heap.size->o' b=prg lo o b):Mvr lo o' w' (bck o w o') w':=
 ⟨K_ _,λb _ d=>⟨rfl,by
  unfold bck;split
  ·rename_i a;have:=h b a;unfold prg at this;split at this<;>omega
  ·rfl⟩,rfl,rfl,rfl⟩
theorem EV{lo:Nat}(a:lo<=999)(o:Tg)(b:Nat):prg lo o b≠999:=by unfold prg;split<;>omega
theorem EU{lo:Nat}(o:Tg)(b:Nat):prg lo o b<lo∨1000<=prg lo o b:=by unfold prg;split<;>omega
theorem Stp.bckS{lo K:Nat}{o o':Tg}{w w':World}(h:Stp K (prg lo o) w o' w')(f:K<lo)(g:lo<=999):Stp K o w (bck o w o') w':=
 ⟨h.os,h.tape,h.output,h.size,λb a d=>h.block b a (by unfold prg;split<;>omega),λb a=>by unfold Go.Proofs.YtpefhaamcihneaaGreat.bck;rw[if_pos a]⟩
section
variable {lo k B b:Nat} {o o':Tg} {w w':World} {e:TypeId} {v:Value} {α:Type} [Rp α] {xs:List α} {cs:List Value} {x:α}
theorem Rp.mvr(h:Rp.rd o w cs x)(m:Mvr lo o w o' w')(f:0<lo):Rp.rd o' w' cs x:=Rp.mv h m.z λb a d=>⟨(m.blk b a om).1,by rw[(m.blk b a om).2];exact d⟩
theorem RdL.mvr(h:RdL o w v xs)(m:Mvr lo o w o' w')(f:0<lo):RdL o' w' v xs:=h.mv m.z λb a d=>⟨(m.blk b a om).1,by rw[(m.blk b a om).2];exact d⟩
theorem Ow.mvr(h:Ow B e k o w v xs)(m:Mvr lo o w o' w')(C:0<lo)(s:k<lo):Ow B e k o' w' v xs:=by
 obtain⟨css,D,f,p,y⟩:=h;refine⟨css,D,⟨f.1,?_⟩,λg d=>?_,λi cs x a b=>Rp.mvr (y i cs x a b) m C⟩
 ·rcases f.2 with E|⟨g,cap,j,q,A,d,r⟩
  ·exact .inl E
  ·refine .inr ⟨g,cap,j,q,A,?_,r⟩;have n:=(ct.1 d).1;rw[(m.blk g n (by rw[p g (by rw[q];rfl)];exact s)).1];exact d
 ·rw[(m.blk g (f.lt g d).2 (by rw[p g d];exact s)).2];exact p g d
omit [Rp α] in
omit [Rp α] in
theorem Bs.mvr{oo:Tg}{w0:World}(h:Bs oo o w0 w)(m:Mvr lo o w o' w')(d:2<=lo):Bs oo o' w0 w':=
  ⟨⟨m.os.trans h.keeps.os,m.tape.trans h.keeps.tape,m.output.trans h.keeps.output,aH h.keeps.size m.z,
    λb a=>((m.blk b (bh a h.keeps.size) (by rw[h.old b a];split<;>omega)).1).trans (h.keeps.block b a)⟩,
   λb a=>by rw[(m.blk b (bh a h.keeps.size) (by rw[h.old b a];split<;>omega)).2];exact h.old b a⟩
omit [Rp α] in
theorem Bx.mvr(h:Bx B k o w b e cs)(m:Mvr lo o w o' w')(f:k<lo):Bx B k o' w' b e cs:=by
 obtain⟨d,a,i⟩:=h;have g:b<w.heap.size:=(ct.1 d).1;exact⟨(m.blk b g (by rw[a];exact f)).1.trans d,(m.blk b g (by rw[a];exact f)).2.trans a,i⟩
end
structure Stp2 (t u:Nat) (o:Tg) (w:World) (o':Tg) (w':World):Prop where
  os:w'.os=w.os
  tape:w'.tape=w.tape
  output:w'.output=w.output
  size:w.heap.size<=w'.heap.size
  block:∀b,b<w.heap.size->o b≠t->o b≠u->w'.heap[b]? =w.heap[b]?
  own:∀b,b<w.heap.size->o' b=o b
section
variable {t u k K B:Nat} {o o' o'' oo:Tg} {w w' w'' w0:World} {e:TypeId} {v:Value} {α:Type} [Rp α] {xs:List α} {cs:List Value} {x:α} {b:Nat}
theorem Stp.trq{T:Nat}(h:Stp t o w o' w')(d:∀b,b<w.heap.size->o b≠T)(s:Stp T o' w' o'' w''):Stp t o w o'' w'':=
 ⟨s.os.trans h.os,s.tape.trans h.tape,s.output.trans h.output,aH h.size s.size,
  λb a f=>(s.block b (bh a h.size) (by rw[h.own b a];exact d b a)).trans (h.block b a f),
  λb a=>(s.own b (bh a h.size)).trans (h.own b a)⟩
end
namespace Ef
structure Kz (w w':World):Prop where
  size:w.heap.size<=w'.heap.size
structure Bs (oo o:Tg) (w0 w:World):Prop where
  keeps:Kz w0 w
theorem Bs.start(oo:Tg)(o:Tg)(w:World):Bs oo o w w:=⟨⟨K_ _⟩⟩
theorem Bs.stp{oo o o':Tg}{w0 w w':World}{t:Nat}(h:Bs oo o w0 w)(s:Stp t o w o' w')(a:2<=t:=by decide):Bs oo o' w0 w':=⟨⟨aH h.keeps.size s.size⟩⟩
end Ef
end
section
section
variable {o0 o o':Tg} {w0 w w':World} {t:Nat}
theorem Stp.trW(h:Stp 13 o0 w0 o w)(e:∀b,b<w0.heap.size->o0 b<14∨1000<=o0 b)(s:Stp t o w o' w')(f:14<=t)(g:t<=999):Stp 13 o0 w0 o' w':=
 ⟨s.os.trans h.os,s.tape.trans h.tape,s.output.trans h.output,aH h.size s.size,
  λb a d=>(s.block b (bh a h.size) (by rw[h.own b a];have:=e b a;omega)).trans (h.block b a d),
  λb a=>(s.own b (bh a h.size)).trans (h.own b a)⟩
theorem Stp.frzW(h:Stp 13 o0 w0 o w)(d:∀b,b<w0.heap.size->o0 b<14∨1000<=o0 b)(j:Nat)(e:14<=j)(f:j<=999):Stp 13 o0 w0 (frz j o) w:=
 ⟨h.os,h.tape,h.output,h.size,h.block,λb a=>by
  unfold frz;rw[if_neg (by rw[h.own b a];have:=d b a;omega)];exact h.own b a⟩
end
end
structure tD where
  p:c_
  q:c_
  deriving DecidableEq
instance:Rp tD where
  sz:=8
  pos:=dc
  rd o w cs x:=∃v1 v2 v3 v4,cs=[.int .i64 x.p.Labels,.int .i64 x.p.Degree,v1,v2,.int .i64 x.q.Labels,.int .i64 x.q.Degree,v3,v4]∧RdL o w v1 x.p.Nodes∧RdL o w v2 x.p.Edges∧RdL o w v3 x.q.Nodes∧RdL o w v4 x.q.Edges
  len h:=by obtain⟨v1,v2,v3,v4,rfl,h1,h2,h3,h4⟩:=h;rfl
  one h:=by
    obtain⟨v1,v2,v3,v4,rfl,h1,h2,h3,h4⟩:=h
    intro c hc
    simp only[I_,P_,or_false] at hc
    rcases hc with rfl|rfl|rfl|rfl|rfl|rfl|rfl|rfl<;>first|rfl|exact h1.one1|exact h2.one1|exact h3.one1|exact h4.one1
  mv h hs hb:=by obtain⟨v1,v2,v3,v4,rfl,h1,h2,h3,h4⟩:=h;exact⟨v1,v2,v3,v4,rfl,h1.mv hs hb,h2.mv hs hb,h3.mv hs hb,h4.mv hs hb⟩
instance:Rz tD:=⟨⟨⟨0,0,[],[]⟩,⟨0,0,[],[]⟩⟩,[.int .i64 0,.int .i64 0,.slice none 0 0,.slice none 0 0,.int .i64 0,.int .i64 0,.slice none 0 0,.slice none 0 0],λo w=>⟨_,_,_,_,rfl,RdL.nil o w,RdL.nil o w,RdL.nil o w,RdL.nil o w⟩⟩
structure cy where
  p:c_
  q:c_
  perm:List Int
  deriving DecidableEq
instance:Rp cy where
  sz:=9
  pos:=dc
  rd o w cs x:=∃v1 v2 v3 v4 v5,cs=[.int .i64 x.p.Labels,.int .i64 x.p.Degree,v1,v2,.int .i64 x.q.Labels,.int .i64 x.q.Degree,v3,v4,v5]∧RdL o w v1 x.p.Nodes∧RdL o w v2 x.p.Edges∧RdL o w v3 x.q.Nodes∧RdL o w v4 x.q.Edges∧RdL o w v5 x.perm
  len h:=by obtain⟨v1,v2,v3,v4,v5,rfl,h1,h2,h3,h4,h5⟩:=h;rfl
  one h:=by
    obtain⟨v1,v2,v3,v4,v5,rfl,h1,h2,h3,h4,h5⟩:=h
    intro c hc
    simp only[I_,P_,or_false] at hc
    rcases hc with rfl|rfl|rfl|rfl|rfl|rfl|rfl|rfl|rfl<;>first|rfl|exact h1.one1|exact h2.one1|exact h3.one1|exact h4.one1|exact h5.one1
  mv h hs hb:=by obtain⟨v1,v2,v3,v4,v5,rfl,h1,h2,h3,h4,h5⟩:=h;exact⟨v1,v2,v3,v4,v5,rfl,h1.mv hs hb,h2.mv hs hb,h3.mv hs hb,h4.mv hs hb,h5.mv hs hb⟩
instance:Rz cy:=⟨⟨⟨0,0,[],[]⟩,⟨0,0,[],[]⟩,[]⟩,[.int .i64 0,.int .i64 0,.slice none 0 0,.slice none 0 0,.int .i64 0,.int .i64 0,.slice none 0 0,.slice none 0 0,.slice none 0 0],λo w=>⟨_,_,_,_,_,rfl,RdL.nil o w,RdL.nil o w,RdL.nil o w,RdL.nil o w,RdL.nil o w⟩⟩
structure al where
  p:c_
  q:c_
  nodes:List Bool
  edges:List Bool
  deriving DecidableEq
instance:Rp al where
  sz:=10
  pos:=dc
  rd o w cs x:=∃v1 v2 v3 v4 v5 v6,cs=[.int .i64 x.p.Labels,.int .i64 x.p.Degree,v1,v2,.int .i64 x.q.Labels,.int .i64 x.q.Degree,v3,v4,v5,v6]∧RdL o w v1 x.p.Nodes∧RdL o w v2 x.p.Edges∧RdL o w v3 x.q.Nodes∧RdL o w v4 x.q.Edges∧RdL o w v5 x.nodes∧RdL o w v6 x.edges
  len h:=by obtain⟨v1,v2,v3,v4,v5,v6,rfl,h1,h2,h3,h4,h5,h6⟩:=h;rfl
  one h:=by
    obtain⟨v1,v2,v3,v4,v5,v6,rfl,h1,h2,h3,h4,h5,h6⟩:=h
    intro c hc
    simp only[I_,P_,or_false] at hc
    rcases hc with rfl|rfl|rfl|rfl|rfl|rfl|rfl|rfl|rfl|rfl<;>first|rfl|exact h1.one1|exact h2.one1|exact h3.one1|exact h4.one1|exact h5.one1|exact h6.one1
  mv h hs hb:=by obtain⟨v1,v2,v3,v4,v5,v6,rfl,h1,h2,h3,h4,h5,h6⟩:=h;exact⟨v1,v2,v3,v4,v5,v6,rfl,h1.mv hs hb,h2.mv hs hb,h3.mv hs hb,h4.mv hs hb,h5.mv hs hb,h6.mv hs hb⟩
instance:Rz al:=⟨⟨⟨0,0,[],[]⟩,⟨0,0,[],[]⟩,[],[]⟩,[.int .i64 0,.int .i64 0,.slice none 0 0,.slice none 0 0,.int .i64 0,.int .i64 0,.slice none 0 0,.slice none 0 0,.slice none 0 0,.slice none 0 0],λo w=>⟨_,_,_,_,_,_,rfl,RdL.nil o w,RdL.nil o w,RdL.nil o w,RdL.nil o w,RdL.nil o w,RdL.nil o w⟩⟩
end Go.Proofs.YtpefhaamcihneaaGreat
