/- Part 3 of what this claim rests on (pack.py). -/
import Derived.StillTail
import Derived.Test.YtpefhaamcihneaaGreatP02
namespace Go.Proofs.YtpefhaamcihneaaGreat
set_option linter.unusedSimpArgs false
set_option linter.unusedVariables false
open Go.RowKit
section
theorem Fr.cons{a:Act}{n:Nat}{l:List (Nat×Value)}(h:Fr a n l){d:Nat}{v:Value}(f:a.tmps.getD d undef=v):Fr a n ((d,v)::l):=
 ⟨h.size,h.defers,λt u b=>by
  simp only[Kn] at b;split at b
  ·rename_i e;subst e;cases b;exact f
  ·exact h.get t u b⟩
def opS(P:Program)(ops:Array Oper)(o:Oper)(a:Act)(w:World)(G:Value->World->Prop):Prop:=
  if Region.wanted o (yielded ops a.tmps)=true then o.wp P a w (λa' w'=>∃v,a'=a.put o.dst v∧G v w') (λ_ _ _=>False) else G undef w
theorem bJ{P:Program}{ops:Array Oper}{o:Oper}{a:Act}{w:World}{G:Value->World->Prop}{n:Nat}{l:List (Nat×Value)}(b:Fr a n l)(d:Gd ops l o.guard)(h:op1 P o n l w G):opS P ops o a w G:=by
 unfold opS;rw[if_pos (uc b d)];exact h a b
theorem EY{P:Program}{ops:Array Oper}{o:Oper}{a:Act}{w:World}{G:Value->World->Prop}{n:Nat}{l:List (Nat×Value)}(k:Fr a n l){j:Nat}{d:Bool}(g:o.guard=some (j,d))
  {s:Nat} {b:Bool} (f:((ops[j]?).bind (·.dst))=some s) (e:Kn l s=some (.bool b)) (i:(b==d)=false) (h:G undef w):opS P ops o a w G:=by
 unfold opS;rw[if_neg (by rw[xn k g f e i];decide)];exact h
theorem Ej{P:Program}{ops:Array Oper}{o:Oper}{a:Act}{w:World}{G:Value->World->Prop}{n:Nat}{l:List (Nat×Value)}(k:Fr a n l){j:Nat}{b:Bool}(i:o.guard=some (j,b))
  {s:Nat} (e:((ops[j]?).bind (·.dst))=some s) (g:Kn l s=some undef) (h:G undef w):opS P ops o a w G:=by
 unfold opS;have f:Region.wanted o (yielded ops a.tmps)=false:=by
  have d:=k.get s _ g;simp only[Region.wanted,i,yielded,e,jN];cases m:a.tmps[s]? with
  |none=>rfl
  |some u=>
   simp only[dq,m,dT] at d;subst d;rfl
 rw[if_neg (by rw[f];decide)];exact h
structure DrawnI (n h:Nat) (l0:List (Nat×Value)) (D:Nat->Nat) (cs:Nat->Option Nat) (R:Nat->Value->Tg->World->Prop) (Bf:Tg->World->Prop) (listed:Array Bool) (a:Act) (w:World) (o:Tg):Prop where
  fr:Fr a n l0
  base:Bf o w
  done:∀i,i<h->listed.getD i false=true->(∀k,cs i=some k->listed.getD k false=false)->R i (a.tmps.getD (D i) undef) o w
section
variable {P:Program} {Q:Exit->Act->World->Prop} {n h:Nat} {l0:List (Nat×Value)} {ops:List Oper} {D:Nat->Nat} {ds:Nat->List Nat} {cs:Nat->Option Nat}
  {R:Nat->Value->Tg->World->Prop} {Bf:Tg->World->Prop} {tg:Nat->Nat}
theorem Fr.put_ne{a:Act}{l:List (Nat×Value)}(f:Fr a n l){d:Nat}(i:(l.map (·.1)).contains d=false)(v:Value):Fr (a.put (some d) v) n l:=by
 refine⟨by simp[Act.put,f.size],by simp[Act.put,f.defers],λt u b=>?_⟩;have g:d≠t:=by
  intro e;subst e;have:d∈l.map (·.1):=by
   clear f i
   induction l with
   |nil=>simp[Kn] at b
   |cons p l ih=>
    obtain⟨s,x⟩:=p;simp only[Kn] at b;split at b
    ·rename_i e;subst e;simp
    ·simp[ih b]
  rw[List.contains_iff_mem.2 this] at i;cases i
 have:=f.get t u b;simp only[Act.put,dq] at this ⊢;rw[qS g];exact this
end
abbrev Pr:=Value->Tg->World->Prop
def prT:Pr:=λ_ _ _=>True
def St(b:Nat)(p:Pr):Prop:=∀t v o w o' w',t≠0∧t<=999->t≠b->p v o w->Stp t o w o' w'->p v o' w'
theorem aJ(c:Value):St 0 (λv _ _=>v=c):=λ_ _ _ _ _ _ _ _ h _=>h
def AllSt:List Nat->List Pr->Prop
  |b::bs,p::ps=>St b p∧AllSt bs ps
  |[],[]=>True
  |_,_=>False
theorem AllSt.get:∀{bs:List Nat}{ps:List Pr},AllSt bs ps->∀i,St (bs.getD i 0) (ps.getD i prT)
 |[],[],_,i=>λ_ _ _ _ _ _ _ _ _ _=>trivial
 |b::bs,p::ps,h,0=>h.1
 |b::bs,p::ps,h,i+1=>by simpa using AllSt.get h.2 i
 |[],_::_,h,_=>h.elim
 |_::_,[],h,_=>h.elim
def Deps(Dl:List Nat)(Rl:List Pr)(a:Act)(o:Tg)(w:World):List Nat->Prop
  |[]=>True
  |j::js=>(Rl.getD j prT) (a.tmps.getD (Dl.getD j 0) undef) o w∧Deps Dl Rl a o w js
theorem Deps.of{d:List Nat}{e:List Pr}{a:Act}{o:Tg}{w:World}:∀{b:List Nat},(∀j,j∈b->(e.getD j prT) (a.tmps.getD (d.getD j 0) undef) o w)->Deps d e a o w b
 |[],_=>trivial
 |j::b,h=>⟨h j (by simp),Deps.of λi hi=>h i (by simp[hi])⟩
def Obs(P:Program)(all:List Oper)(n:Nat)(l0:List (Nat×Value))(Bf:Tg->World->Prop)(Dl:List Nat)(Rl:List Pr)(tgl:List Nat)(dsl:List (List Nat)):Nat->List Oper->Prop
  |_,[]=>True
  |i,op::ops=>(∀o w a,Fr a n l0->Bf o w->Deps Dl Rl a o w (dsl.getD i [])->opS P all.toArray op a w λv w'=>∃o',Stp (tgl.getD i 999) o w o' w'∧(Rl.getD i prT) v o' w')∧Obs P all n l0 Bf Dl Rl tgl dsl (i+1) ops
theorem Obs.get{P:Program}{all:List Oper}{n:Nat}{l0:List (Nat×Value)}{Bf:Tg->World->Prop}{m:List Nat}{g:List Pr}{d:List Nat}{e:List (List Nat)}:
  ∀{ops:List Oper}{k:Nat},Obs P all n l0 Bf m g d e k ops->∀i b,ops[i]? =some b->∀o w a,Fr a n l0->Bf o w->Deps m g a o w (e.getD (k+i) [])->
   opS P all.toArray b a w λv w'=>∃j,Stp (d.getD (k+i) 999) o w j w'∧(g.getD (k+i) prT) v j w'
 |[],k,_,i,b,h=>by simp at h
 |o::ops,k,f,0,b,h=>by simp at h;subst h;exact f.1
 |o::ops,k,f,i+1,b,h=>by
  have:=Obs.get f.2 i b (su h);rw[show k+1+i=k+(i+1) by omega] at this;exact this
def Fin(a:Act)(o:Tg)(w:World):List Nat->List (Option Nat)->List Pr->Prop
  |d::ds,none::cs,p::ps=>p (a.tmps.getD d undef) o w∧Fin a o w ds cs ps
  |_::ds,some _::cs,_::ps=>True∧Fin a o w ds cs ps
  |_,_,_=>True
theorem Fin.of{a:Act}{o:Tg}{w:World}:∀{e:List Nat}{cs:List (Option Nat)}{ps:List Pr},(∀i,i<e.length->cs.getD i none=none->(ps.getD i prT) (a.tmps.getD (e.getD i 0) undef) o w)->Fin a o w e cs ps
 |[],_,_,_=>trivial
 |d::ds,[],_,_=>trivial
 |d::ds,none::cs,[],_=>trivial
 |d::ds,some _::cs,[],_=>trivial
 |d::ds,none::cs,p::ps,h=>⟨by simpa using h 0 (by simp) rfl,Fin.of λi hi b=>by simpa using h (i+1) (by simp;omega) (by simpa using b)⟩
 |d::ds,some k::cs,p::ps,h=>⟨trivial,Fin.of λi hi b=>by simpa using h (i+1) (by simp;omega) (by simpa using b)⟩
end
section
abbrev Yl:=List Int
abbrev Yk:=List (List Int)
abbrev Lo(σ ρ:Type):=Lp σ σ ρ
theorem Zb{a b:Bool}(h:a=b):some (Value.bool a)=some (Value.bool b):=congrArg (λb=>some (Value.bool b)) h
theorem Zj{α:Type}{a b:α}(h:some a=some b):a=b:=Option.some.inj h
abbrev ZP(b:Nat):Value:=.pointer (some ⟨b,0,none⟩)
abbrev ZI(x:Int):Value:=.int .i64 x
section
variable {P:Program} {Q Q':Exit->Act->World->Prop} {n d:Nat} {l:List (Nat×Value)} {w w':World} {ops:Array Oper} {rest:List Oper} {v:Value} {op:Op} {ty:TypeId} {ps:String} {af:Array Edge} {g:Option (Nat×Bool)} {x:Operand}
theorem Zm(b:ev l x=some v)(h:wpF P ops Q rest n ((d,v)::l) w)(a:d<n:=by decide)(hg:Gd ops l g:=by exact trivial):wpF P ops Q (⟨some d,.move x,ty,ps,af,g⟩::rest) n l w:=m_ (d_ b) a hg h
theorem Za(b:ev l x=some v)(h:wpF P ops Q rest n ((d,v)::l) w)(a:d<n:=by decide)(hg:Gd ops l g:=by exact trivial):wpF P ops Q (⟨some d,.assign x,ty,ps,af,g⟩::rest) n l w:=m_ (bc b) a hg h
theorem Zv(b:∀ρ,Agr ρ l->(execOp ρ ⟨some d,op,ty,ps,af,g⟩).run P w=.ok (.value v) w')(h:wpF P ops Q rest n ((d,v)::l) w')(a:d<n:=by decide)(hg:Gd ops l g:=by exact trivial):wpF P ops Q (⟨some d,op,ty,ps,af,g⟩::rest) n l w:=m_ b a hg h
theorem Zo(h:op1 P ⟨some d,op,ty,ps,af,g⟩ n l w (λv w'=>wpF P ops Q rest n ((d,v)::l) w'))(a:d<n:=by decide)(hg:Gd ops l g:=by exact trivial):wpF P ops Q (⟨some d,op,ty,ps,af,g⟩::rest) n l w:=az a hg h
theorem Ze(r:List (Nat×Value))(h:∀a,Fr a n r->Q .normal a w)(b:Sub r l:=by repeat (first|exact trivial|refine⟨rfl,?_⟩)):wpF P ops Q [] n l w:=aQ b h
theorem Zy{y:Code}(h:wpC P y Q n l w):wpF P ops (Exit.then (y.wp P Q) Q') [] n l w:=λa b=>wpList_nil (h a b)
theorem Zf(h:∀a,Fr a n l->Q .normal a w):wpF P ops Q [] n l w:=λa b=>wpList_nil (h a b)
theorem ZF{α:Type}{y:Bool}{A B r:α}(s:y=false)(h:(if y=true then A else B)=r):B=r:=by rw[if_neg (by rw[s];decide)] at h;exact h
theorem Zd{j s:Nat}{a c b:Bool}(t:c=b)(h:wpF P ops Q rest n ((d,undef)::l) w)(e:((ops[j]?).bind (·.dst))=some s:=by exact rfl)(h2:Kn l s=some (.bool c):=by exact rfl)(hb:(b==a)=false:=by exact rfl)(hd:d<n:=by decide):wpF P ops Q (⟨some d,op,ty,ps,af,some (j,a)⟩::rest) n l w:=W_ e h2 (by rw[t];exact hb) hd h
theorem Zi{α:Type}{c:Operand}{x y:Code}{t:Bool}{A B r:α}(b:ev l c=some (.bool t))(h:(if t=true then A else B)=r)(a:t=true->A=r->wpC P x Q n l w)(f:t=false->B=r->wpC P y Q n l w):wpC P (.cond c x y) Q n l w:=
 dN b (λe=>a e (by rw[if_pos e] at h;exact h)) (λe=>f e (ZF e h))
theorem Zk{K:Act->Prop}(r:List (Nat×Value))(h:∀a,Fr a n r->K a)(b:Sub r l:=by repeat (first|exact trivial|refine⟨rfl,?_⟩)):∀a,Fr a n l->K a:=to_k b h
theorem Fr.sb{a:Act}(b:Fr a n l){r:List (Nat×Value)}(e:Sub r l:=by repeat (first|exact trivial|refine⟨rfl,?_⟩)):Fr a n r:=b.sub e
theorem Fr.c{a:Act}(b:Fr a n l)(h:a.tmps.getD d undef=v):Fr a n ((d,v)::l):=Fr.cons b h
theorem Zq{id:Nat}{o:List Oper}{y:Code}(h:wpF P o.toArray (Exit.then (y.wp P Q) Q) o n l w):wpC P (.seq (.region id o.toArray false) y) Q n l w:=b_ (h_ h)
theorem Zn{id:Nat}{o:List Oper}{y:Code}(h:wpF P o.toArray (Exit.then (y.wp P Q) Q) o n l w):∀a,Fr a n l->Exit.then (Code.wp P (.seq (.region id o.toArray false) y) Q) Q' .normal a w:=nx (b_ (h_ h))
theorem Zx{t:Nat}{o:Tg}{p:Tg->Prop}(h:p o):∃a,Stp t o w a w∧p a:=⟨o,Stp.refl _ _ _,h⟩
theorem Zs{ops:Array Oper}{o:Oper}{a:Act}{G:Value->World->Prop}(e:Fr a n l)(h:op1 P o n l w G)(b:Gd ops l o.guard:=by exact trivial):opS P ops o a w G:=bJ e b h
theorem Zr{e:Func}{R:Ending->World->Prop}{f:List ResultVar}(b:e.results=f.toArray)(vs:List Value)(i:R (.returned (packed vs)) w)(h:RsL P l w f vs:=by repeat (first|exact trivial|refine⟨rfl,?_⟩)):∀a,Fr a n l->bodyPost P e R .ret a w:=J_ b h i
end
end
section
section
variable {P:Program} {Q:Exit->Act->World->Prop} {n h:Nat} {l0:List (Nat×Value)} {ops:List Oper} {D:Nat->Nat} {ds:Nat->List Nat} {cs:Nat->Option Nat}
  {R:Nat->Value->Tg->World->Prop} {Bf:Tg->World->Prop} {tg:Nat->Nat}
def Anc(ds:Nat->List Nat):Nat->Nat->Nat->Prop
  |0,_,_=>False
  |d+1,i,k=>k∈ds i∨∃m∈ds i,Anc ds d m k
theorem Bc(hds:∀i,i<h->∀o w a,Fr a n l0->Bf o w->(∀j,j∈ds i->R j (a.tmps.getD (D j) undef) o w)->∀C,ops[i]? =some C->opS P ops.toArray C a w λv w'=>∃p,Stp (tg i) o w p w'∧R i v p w')
  (hsB:∀k o w p w',k<h->Bf o w->Stp (tg k) o w p w'->Bf p w')
  (hsR:∀i k v o w p w',i<h->k<h->i≠k->cs i≠some k->(∀c,cs i=some c->c ∉ ds k)->¬Anc ds 8 i k->R i v o w->Stp (tg k) o w p w'->R i v p w')
  (hD:∀i,i<h->∃C,ops[i]? =some C∧C.dst=some (D i)∧D i<n∧(l0.map (·.1)).contains (D i)=false∧(∀j,j<h->j≠i->D j≠D i)∧
   (∀j,j∈ds i->j<h∧(∃e∈C.after,Region.binds .any e=true∧e.on=j)∧(cs j=none∨cs j=some i)))
  (hlow:∀i C,ops[i]? =some C->∀e∈C.after,Region.binds .any e=true->e.on<i)
  (hh:h<=ops.length)
  (htl:∀b,HeadInv .any ops.toArray h b->∀i,i<h->b.getD i true=false->∀t,h<=t->t ∉ Region.ready .any ops.toArray b)
  (hsq:Region.seqB .any ops.toArray (ops.length-h) h ((Array.range ops.length).map λi=>decide (i<h))=true)
  (hfin:∀a o w,Fr a n l0->Bf o w->(∀i,i<h->cs i=none->R i (a.tmps.getD (D i) undef) o w)->wpList P ops.toArray Q (ops.drop h) a w):
  ∀(f:Nat)(b:Array Bool)(a:Act)(w:World)(o:Tg),DrawnI n h l0 D cs R Bf b a w o->HeadInv .any ops.toArray h b->
   ((List.range h).filter λi=> !b.getD i true).length+(ops.length-h)<=f->((List.range h).filter λi=> !b.getD i true).length+(ops.length-h)=f->wpAny P .any ops.toArray Q f b a w:=by
 intro f
 induction f with
 | zero=>
  intro b a w o I F hle heq;have h0:(List.range h).filter (λi=> !b.getD i true)=[]:=cD om;have g:∀i,i<h->b.getD i true=true:=by
   intro i hi;have:=xQ.1 h0 i (aS.2 hi);simpa using this
  have E:b=(Array.range ops.length).map λi=>decide (i<h):=by
   apply oQ (by simp[F.size]);intro i L h2;have h3:i<ops.length:=by simpa [F.size] using L
   simp only[xR,xS];by_cases hi:i<h
   ·have:=g i hi;simp[L] at this;simp[this,hi]
   ·have:=F.tail i om (su h3);simp[L] at this;simp[this,hi]
  have:=wpAny_of_seq (P:=P) (md:=.any) (ops:=ops.toArray) (Q':=Q) (ops.drop h) h b a w (λj=>by simp[dV]) (by rw[E];simpa using hsq)
   (hfin a o w I.fr I.base λi hi q=>I.done i hi (by
    have L:=g i hi;have h2:i<b.size:=by rw[F.size];simp;omega
    simp[h2] at L ⊢;exact L) (λk K=>by rw[q] at K;cases K))
  have hl:(ops.drop h).length=0:=by simp;omega
  rw[hl] at this;exact this
 | succ f ih=>
  intro b a w o I F hle heq;by_cases h0:(List.range h).filter (λi=> !b.getD i true)=[]
  ·-- the head is done
   have g:∀i,i<h->b.getD i true=true:=by
    intro i hi;have:=xQ.1 h0 i (aS.2 hi);simpa using this
   have E:b=(Array.range ops.length).map λi=>decide (i<h):=by
    apply oQ (by simp[F.size]);intro i L h2;have h3:i<ops.length:=by simpa [F.size] using L
    simp only[xR,xS];by_cases hi:i<h
    ·have:=g i hi;simp[L] at this;simp[this,hi]
    ·have:=F.tail i om (su h3);simp[L] at this;simp[this,hi]
   have:=wpAny_of_seq (P:=P) (md:=.any) (ops:=ops.toArray) (Q':=Q) (ops.drop h) h b a w (λj=>by simp[dV]) (by rw[E];simpa using hsq)
    (hfin a o w I.fr I.base λi hi q=>I.done i hi (by
     have L:=g i hi;have h2:i<b.size:=by rw[F.size];simp;omega
     simp[h2] at L ⊢;exact L) (λk K=>by rw[q] at K;cases K))
   have hl:(ops.drop h).length=f+1:=by rw[h0] at heq;simp at heq ⊢;omega
   rw[hl] at this;exact this
  ·obtain⟨i0,hi0⟩:=Fs _ h0;have hi0h:=aS.1 (cF.1 hi0).1;have hi0l:b.getD i0 true=false:=by simpa using (cF.1 hi0).2
   have Z:∀i,i∈Region.ready .any ops.toArray b->i<h:=by
    intro i hi;apply oK;intro hle;exact htl b F i0 hi0h hi0l i hle hi
   have Y:∀i,i<h->b.getD i true=false->
     ((List.range h).filter λj=> !(b.setIfInBounds i true).getD j true).length+1=((List.range h).filter λj=> !b.getD j true).length:=by
    intro i hi G;have X:i<b.size:=by rw[F.size];simp;omega
    have e1:∀(m:Nat),i<m->((List.range m).filter λj=> !(b.setIfInBounds i true).getD j true).length+1=((List.range m).filter λj=> !b.getD j true).length:=by
     intro m
     induction m with
     |zero=>intro h;omega
     | succ m ihm=>
      intro him;rw[gc,ey,ey,ar,ar];by_cases e:i=m
      ·subst e;have e2:((List.range i).filter λj=> !(b.setIfInBounds i true).getD j true)=(List.range i).filter λj=> !b.getD j true:=by
        apply oR;intro j T;have:=aS.1 T;rw[getD_set_ne true om]
       rw[e2];have e3:(b.setIfInBounds i true).getD i true=true:=sy;simp only[gd,oS,e3,G];simp
      ·have:=ihm om;have e4:(b.setIfInBounds i true).getD m true=b.getD m true:=getD_set_ne true om;simp only[gd,oS,e4];omega
    exact e1 h hi
   refine⟨λhr=>?_,λi hi=>?_⟩
   ·-- something is always ready: not needed, what follows is asked of nothing
    exfalso;have key:∀(d i:Nat),i=d->i<h->b.getD i true=false->∃j,j∈Region.ready .any ops.toArray b:=by
     intro d
     induction d using Nat.strongRecOn with
     | _ d ihd=>
      intro i hid s G;obtain⟨C,U,_⟩:=hD i s;by_cases g:∀e∈C.after,Region.binds .any e=true->b.getD e.on false=true
      ·exact⟨i,mem_ready.2 ⟨G,C,by simpa using U,g⟩⟩
      ·have:∃e,e∈C.after∧Region.binds .any e=true∧b.getD e.on false=false:=by
        apply ge;intro hno;apply g;intro e he hb;cases q:b.getD e.on false with
        |true=>rfl
        |false=>exact absurd ⟨e,he,hb,q⟩ hno
       obtain⟨e,he,hb,q⟩:=this;have hlt:=hlow i C U e he hb;have X:e.on<b.size:=by rw[F.size];simp;omega
       exact ihd e.on om e.on rfl om (getD_in X q)
    obtain⟨j,T⟩:=key i0 i0 rfl hi0h hi0l;rw[hr] at T;cases T
   ·have s:=Z i hi;obtain⟨C,U,hdst,hDn,hbase,hdist,N⟩:=hD i s;obtain⟨G,V,H,J⟩:=mem_ready.1 hi;have e:V=C:=by
     have:ops.toArray[i]? =ops[i]? :=sy;rw[this,U] at H;exact(Option.some.inj H).symm
    subst e;unfold wpOp;rw[H];have O:=hds i s o w a I.fr I.base (λj T=>by
     obtain⟨hjh,⟨ed,u,B,A⟩,q⟩:=N j T;refine I.done j hjh (by rw[<-A];exact J ed u B) (λk K=>?_);rcases q with q|q
     ·rw[q] at K;cases K
     ·rw[q] at K;cases K
      exact getD_both G) V U
    have S:∀(v:Value)(w':World)(p:Tg),Stp (tg i) o w p w'->R i v p w'->wpAny P .any ops.toArray Q f (b.setIfInBounds i true) (a.put V.dst v) w':=by
     intro v w' p M hR;rw[hdst];have q:=Y i s G;refine ih _ _ _ p ⟨I.fr.put_ne hbase v,hsB i o w p w' s I.base M,λj T hlj hcj=>?_⟩ (F.set hi s) om om;by_cases W:j=i
     ·subst W;have:((a.put (some (D j)) v).tmps.getD (D j) undef)=v:=by
       have hlt:D j<a.tmps.size:=by rw[I.fr.size];exact hDn
       simp[Act.put,dq,hlt]
      rw[this];exact hR
     ·have hne:=hdist j T W;have:((a.put (some (D i)) v).tmps.getD (D j) undef)=a.tmps.getD (D j) undef:=by
       simp only[Act.put,dq];rw[qS (V_ hne)]
      rw[this];rw[getD_set_ne false (λe=>W e.symm)] at hlj;have hcs:cs j≠some i:=by
       intro e;have:=hcj i e;have X:i<b.size:=by rw[F.size];simp;omega
       simp[X] at this
      refine hsR j i _ o w p w' T s W hcs (λc q hm=>by
       obtain⟨hch,⟨ed,u,B,A⟩,-⟩:=N c hm;have hl:b.getD c false=true:=by rw[<-A];exact J ed u B
       have hx:=hcj c q;have hci:c≠i:=λe=>hcs (by rw[<-e];exact q);rw[getD_set_ne false (λe=>hci e.symm),hl] at hx;cases hx) (λhm=>by
       have key:∀(d x:Nat),x<h->b.getD x false=true->Anc ds d x i->False:=by
        intro d
        induction d with
        |zero=>intro x _ _ hx;exact hx
        | succ d ihd=>
         intro x hx hlx hanc;obtain⟨opx,hopx,-,-,-,-,hdx⟩:=hD x hx;have hcl:∀y,y∈ds x->y<h∧b.getD y false=true:=λy hy=>by
          obtain⟨hyh,⟨ed,u,B,A⟩,-⟩:=hdx y hy;exact⟨hyh,by rw[<-A];exact F.closed x opx (su hopx) hlx ed u B⟩
         rcases hanc with hm|⟨m,hm,hm2⟩
         ·have:=(hcl i hm).2;rw[getD_both G] at this;cases this
         ·exact ihd m (hcl m hm).1 (hcl m hm).2 hm2
       exact key 8 j T hlj hm) (I.done j T hlj λk K=>?_) M
      have:=hcj k K;by_cases hki:k=i
      ·subst hki;exact absurd K hcs
      ·rw[getD_set_ne false (λe=>hki e.symm)] at this;exact this
    unfold opS at O;simp only[H,];by_cases hw:Region.wanted V (yielded ops.toArray a.tmps)=true
    ·rw[if_pos hw] at O ⊢;refine .inl (nc ?_ ?_ O)
     ·rintro a' w' ⟨v,rfl,p,M,hR⟩;exact S v w' p M hR
     ·intro _ _ _ h;exact h.elim
    ·rw[if_neg hw] at O ⊢;obtain⟨p,M,hR⟩:=O;exact S undef w p M hR
end
def ancB(dsl:List (List Nat)):Nat->Nat->Nat->Bool
  |0,_,_=>false
  |d+1,i,k=>(dsl.getD i []).contains k||(dsl.getD i []).any λm=>ancB dsl d m k
theorem vO(a:List (List Nat)):∀{d i k:Nat},ancB a d i k=true->Anc (λi=>a.getD i []) d i k
 |0,_,_,h=>by cases h
 |d+1,i,k,h=>by
  simp only[ancB,bT,xU] at h;rcases h with h|⟨m,b,h⟩
  ·exact .inl (by simpa using h)
  ·exact .inr ⟨m,b,vO a h⟩
def drawnBC(ops:Array Oper)(n:Nat)(base Dl:List Nat)(dsl:List (List Nat))(csl:List (Option Nat))(tgl bdl tags:List Nat):Bool:=
  decide (Dl.length<=ops.size)&&tags.contains 999&&tags.all (λt=>decide (t≠0∧t<=999))&&
  ((List.range Dl.length).all λi=>(match ops[i]? with|some o=>o.dst==some (Dl.getD i 0)|none=>false)&&decide (Dl.getD i 0<n)&& !base.contains (Dl.getD i 0)&&
    ((List.range Dl.length).all λj=>decide (j=i)||(decide (Dl.getD j 0≠Dl.getD i 0)&&(csl.getD i none==some j||(match csl.getD i none with|some c=>(dsl.getD j []).contains c|none=>false)||ancB dsl 8 i j||decide (tgl.getD j 999≠bdl.getD i 0))))&&
    ((dsl.getD i []).all λj=>decide (j<Dl.length)&&Region.waitsFor .any ops i j&&(csl.getD j none==none||csl.getD j none==some i))&&
    tags.contains (tgl.getD i 999))&&
  ((List.range ops.size).all λi=>match ops[i]? with|some o=>o.after.all (λe=> !Region.binds .any e||decide (e.on<i))|none=>true)&&
  (decide (Dl.length=ops.size)||(Region.sinkB .any ops Dl.length&&Region.chainB .any ops Dl.length))&&
  Region.seqB .any ops (ops.size-Dl.length) Dl.length ((Array.range ops.size).map λi=>decide (i<Dl.length))
theorem lC{P:Program}{Q:Exit->Act->World->Prop}{n id:Nat}{l:List (Nat×Value)}{ops:List Oper}{w:World}{o:Tg}
  (l0:List (Nat×Value)) (base g:List Nat) (s:List (List Nat)) (q:List (Option Nat)) (B I f:List Nat) (U:List Pr) (Bf:Tg->World->Prop)
  (hm:P.follows .mixedOrders=true) (x:drawnBC ops.toArray n base g s q B I f=true) (C:l0.map (·.1)=base) (M:Sub l0 l) (hB0:Bf o w)
  (N:∀t o w F w',t∈f->Bf o w->Stp t o w F w'->Bf F w') (hSR:AllSt I U) (Z:Obs P ops n l0 Bf g U B s 0 (ops.take g.length))
  (G:∀o w a,Fr a n l0->Bf o w->Fin a o w g q U->wpList P ops.toArray Q (ops.drop g.length) a w):wpC P (.region id ops.toArray true) Q n l w:=by
 intro a ha;simp only[drawnBC,aW] at x;obtain⟨⟨⟨⟨⟨⟨c1,c2⟩,c3⟩,c4⟩,c5⟩,H⟩,c7⟩:=x;have hh:g.length<=ops.length:=by simpa using c1
 have J:999∈f:=by simpa using c2
 have E:∀t,t∈f->t≠0∧t<=999:=λt K=>by simpa using bE.1 c3 t K
 have p:∀i,i<g.length->_:=λi hi=>bE.1 c4 i (aS.2 hi);simp only[aW] at p;refine wp_region_any hm ?_;have L:HeadInv .any ops.toArray g.length (Array.replicate ops.toArray.size false):=
  ⟨sy,λj oj _ O=>(by rw[getD_replicate_false] at O;cases O),λt _ K=>getD_in (su K) (getD_replicate_false _ _)⟩
 have y:((List.range g.length).filter λi=> !(Array.replicate ops.toArray.size false).getD i true).length=g.length:=by
  rw[my.2]
  ·simp
  ·intro i hi;have hi':=aS.1 hi;have:(Array.replicate ops.toArray.size false).getD i true=false:=getD_in (by simp;omega) (getD_replicate_false _ _);rw[this];rfl
 have:=Bc (P:=P) (Q:=Q) (n:=n) (h:=g.length) (l0:=l0) (ops:=ops) (D:=λi=>g.getD i 0) (ds:=λi=>s.getD i []) (cs:=λi=>q.getD i none)
  (R:=λi=>U.getD i prT) (Bf:=Bf) (tg:=λi=>B.getD i 999)
  (λi hi o w a hf u hd op d=>by
   have:=Obs.get Z i op (by rw[bO,if_pos hi];exact d) o w a hf u (by rw[an];exact Deps.of hd);rw[an] at this;exact this)
  (λk o w F w' V u hs=>N _ o w F w' (by have:=(p k V).2;simpa using this) u hs)
  (λi k v o w F w' hi V W hcs hnc hni hR hs=>by
   have h1:=(p k V).2;have b:=bE.1 (p i hi).1.1.2 k (aS.2 V);simp only[bT,aW,decide_eq_true_eq,beq_iff_eq] at b;rcases b with b|⟨_,b⟩
   ·exact absurd b.symm W
   ·rcases b with ((b|b)|b)|b
    ·exact absurd b hcs
    ·exfalso;cases hq:q.getD i none with
     |none=>rw[hq] at b;cases b
     |some c=>
      rw[hq] at b;exact hnc c hq (su b)
    ·exact absurd (vO s b) hni
    ·exact hSR.get i _ v o w F w' (E _ (su h1)) b hR hs)
  (λi hi=>by
   obtain⟨⟨⟨⟨⟨g1,g2⟩,g3⟩,g4⟩,g5⟩,g6⟩:=p i hi;have m:i<ops.length:=om;have d:ops[i]? =some (ops[i]'m):=x_ m;refine⟨_,d,?_,by simpa using g2,by rw[C];simpa using g3,λj hj Y=>?_,λj hj=>?_⟩
   ·simp only[gf,d] at g1;simpa using g1
   ·have:=bE.1 g4 j (aS.2 hj);simp only[bT,aW,decide_eq_true_eq] at this;rcases this with h|h
    ·exact absurd h Y
    ·exact h.1
   ·have:=bE.1 g5 j hj;simp only[aW,decide_eq_true_eq,bT,beq_iff_eq] at this;obtain⟨⟨k1,k2⟩,k3⟩:=this;obtain⟨oj,S,e,he,u,hon⟩:=Region.waitsFor_spec k2;have:oj=ops[i]'m:=by
     simp only[gf,d] at S;exact(Option.some.inj S).symm
    subst this;exact⟨k1,⟨e,he,u,hon⟩,k3⟩)
  (λi op d e he u=>by
   have m:i<ops.length:=(Y_.1 d).1;have:=bE.1 c5 i (aS.2 (su m));simp only[gf,d] at this;have b:=Ft.1 this e he;simp only[bT,Fu,decide_eq_true_eq] at b;rcases b with b|b
   ·rw[u] at b;cases b
   ·exact b)
  hh
  (λT hI i hi hil t K X=>by
   simp only[bT,aW,decide_eq_true_eq] at H;rcases H with H|⟨H,c6'⟩
   ·obtain⟨_,ot,A,_⟩:=mem_ready.1 X;have:=(ct.1 A).1;omega
   ·by_cases hn:g.length<ops.toArray.size
    ·exact tail_waits H c6' hn hI _ i rfl hi hil t K X
    ·obtain⟨_,ot,A,_⟩:=mem_ready.1 X;have:=(ct.1 A).1;omega)
  (su c7)
  (λa o w hf u hd=>G o w a hf u (Fin.of hd))
  ops.toArray.size (Array.replicate ops.toArray.size false) a {w with drawn:=w.drawn+1} o
  ⟨ha.sub M,N 999 o w o _ J hB0 (nY o w 999),λi hi O=>(by rw[getD_replicate_false] at O;cases O)⟩ L (by rw[y];simp;omega) (by rw[y];simp;omega)
 exact this
end
section
theorem ea:Tryz.prog.follows .mixedOrders=true:=by kernel_rfl
def adr(v:Value)(k:Nat):Value:=match v with
  | .slice (some a) _ _=> .pointer (some ⟨a.block,a.off+k,none⟩)
  |_=>undef
section
variable {P:Program} {n:Nat} {l:List (Nat×Value)} {w w0:World} {o oo:Tg} {α:Type} [Rp α] {d:Option Nat} {ty:TypeId} {ps:String} {af:Array Edge} {g:Option (Nat×Bool)} {R:Value->World->Prop}
theorem aN{x y:Operand}{t e:TypeId}{v:Value}{xs:List α}{i:Int}{u:α}{C:Tg}{m:World}(h:RdL C m v xs)(hi:ix xs i=some u)(A:ev l x=some v)(B:ev l y=some (.int .i64 i))
  (q:P.underlying t=some (.slice e)) (j:∀w,(sizeOf e).run P w=.ok (Rp.sz α) w) (f:R (adr v (i.toNat*Rp.sz α)) w):op1 P ⟨d,.indexAddr t x y,ty,ps,af,g⟩ n l w R:=by
 obtain⟨a,c,rfl⟩:=h.form;obtain⟨s,D,p⟩:=dR hi;obtain⟨b,off,cs,rfl,_⟩:=h.at p;exact M_ (jv A B s om q j) f
theorem cg{x y:Operand}{t e j:TypeId}{B k:Nat}{v:Value}{xs:List α}{i:Int}{u:α}{s:Tg}{f:World}(h:Ow B j k s f v xs)(hi:ix xs i=some u)(p:ev l x=some v)(q:ev l y=some (.int .i64 i))
  (m:P.underlying t=some (.slice e)) (b:∀w,(sizeOf e).run P w=.ok (Rp.sz α) w) (a:R (adr v (i.toNat*Rp.sz α)) w):op1 P ⟨d,.indexAddr t x y,ty,ps,af,g⟩ n l w R:=
 aN h.z hi p q m b a
theorem qC{v:Value}{xs:List α}{i:Int}{u:α}(h:RdL o w v xs)(hi:ix xs i=some u):∃b off cs,adr v (i.toNat*Rp.sz α)=.pointer (some ⟨b,off,none⟩)∧Cells w b off cs∧Rp.rd o w cs u:=by
 obtain⟨a,c,rfl⟩:=h.form;obtain⟨p,q,f⟩:=dR hi;obtain⟨b,off,cs,rfl,m,j,_⟩:=h.at f;exact⟨b,_,cs,rfl,m,j⟩
theorem Et{v:Value}{xs:List α}{i:Int}{u:α}{B k:Nat}{e:TypeId}(h:Ow B e k o w v xs)(hi:ix xs i=some u):∃b off cs,adr v (i.toNat*Rp.sz α)=.pointer (some ⟨b,off,none⟩)∧Cells w b off cs∧Rp.rd o w cs u:=by
 obtain⟨a,c,rfl⟩:=h.form;obtain⟨q,p,j⟩:=dR hi;obtain⟨b,cs,rfl,_,f,m,_⟩:=h.at j;exact⟨b,_,cs,by simp only[adr],f,m⟩
theorem cz{x:Operand}{t:TypeId}{v:Value}{xs:List α}{i:Int}{u:α}(h:RdL o w v xs)(hi:ix xs i=some u)(j:Rp.sz α=1)(s:ev l x=some (adr v (i.toNat*Rp.sz α)))(a:∀w,(isAgg t).run P w=.ok false w)
  (m:∀c,Rp.rd o w [c] u->R c w):op1 P ⟨d,.load t x,ty,ps,af,g⟩ n l w R:=by
 obtain⟨b,off,cs,e,p,f⟩:=qC h hi;have q:cs.length=1:=by rw[Rp.len f,j]
 obtain⟨c,rfl⟩:=oP.1 q;exact M_ (e_ (by rw[s,e]) a (G_ p)) (m c f)
theorem bV{x:Operand}{t:TypeId}{v:Value}{xs:List α}{i:Int}{u:α}(h:RdL zt w0 v xs)(hi:ix xs i=some u)(j:Bs oo o w0 w)(m:Rp.sz α=1)(y:ev l x=some (adr v (i.toNat*Rp.sz α)))(a:∀w,(isAgg t).run P w=.ok false w)
  (p:∀c,Rp.rd zt w0 [c] u->R c w):op1 P ⟨d,.load t x,ty,ps,af,g⟩ n l w R:=by
 obtain⟨b,off,cs,e,q,f⟩:=qC h hi;have s:cs.length=1:=by rw[Rp.len f,m]
 obtain⟨c,rfl⟩:=oP.1 s;exact M_ (e_ (by rw[y,e]) a (G_ (q.keep j.keeps))) (p c f)
theorem bW{x:Operand}{t y:TypeId}{B k:Nat}{v:Value}{xs:List α}{i:Int}{u:α}(h:Ow B y k o w v xs)(hi:ix xs i=some u)(j:Rp.sz α=1)(s:ev l x=some (adr v (i.toNat*Rp.sz α)))(a:∀w,(isAgg t).run P w=.ok false w)
  (m:∀c,Rp.rd o w [c] u->R c w):op1 P ⟨d,.load t x,ty,ps,af,g⟩ n l w R:=by
 obtain⟨b,off,cs,e,p,f⟩:=Et h hi;have q:cs.length=1:=by rw[Rp.len f,j]
 obtain⟨c,rfl⟩:=oP.1 q;exact M_ (e_ (by rw[s,e]) a (G_ p)) (m c f)
theorem ui{x:Operand}{t:TypeId}{v:Value}{xs:List α}{i:Int}{u:α}(h:RdL zt w0 v xs)(hi:ix xs i=some u)(j:Bs oo o w0 w)(s:ev l x=some (adr v (i.toNat*Rp.sz α)))(a:∀w,(isAgg t).run P w=.ok true w)(q:∀w,(sizeOf t).run P w=.ok (Rp.sz α) w)
  (m:∀cs,Rp.rd zt w0 cs u->R (.agg cs.toArray) w):op1 P ⟨d,.load t x,ty,ps,af,g⟩ n l w R:=by
 obtain⟨b,off,cs,e,p,f⟩:=qC h hi;exact M_ (F_ (by rw[s,e]) a q (Rp.len f) (p.keep j.keeps)) (m cs f)
end
class Ar (A:Type) where
  ok:World->List Value->A->Prop
instance (priority:=high):Ar Int:=⟨λ_ vs x=>vs=[.int .i64 x]⟩
instance (priority:=high):Ar Bool:=⟨λ_ vs x=>vs=[.bool x]⟩
instance {α:Type} [Rp α]:Ar (List α):=⟨λw vs x=>∃v,vs=[v]∧RdL zt w v x⟩
instance {A B:Type} [Ar A] [Ar B]:Ar (A×B):=⟨λw vs x=>∃us bs,vs=us++bs∧Ar.ok w us x.1∧Ar.ok w bs x.2⟩
class Rs (ρ:Type) where
  val:ρ->Value
instance:Rs Int:=⟨λn=> .int .i64 n⟩
instance:Rs Bool:=⟨λb=> .bool b⟩
def FnV{A ρ:Type}[Ar A][Rs ρ](P:Program)(w:World)(v:Value)(F:A->Option ρ):Prop:=
  ∃(n:Nat)(cap:List Value),v=.func (.func n) #[] cap.toArray∧(∀args w,(callFunc n args).run P w=.ok (.enter n args) w)∧
    ∀w' vs x r,Keeps w w'->Ar.ok w' vs x->F x=some r->Calls P n (vs++cap).toArray w' (λe w''=>e=.returned (Rs.val r)∧Keeps w' w'')
theorem FnV.keep{A ρ:Type}[Ar A][Rs ρ]{P:Program}{w w':World}{v:Value}{F:A->Option ρ}(h:FnV P w v F)(k:Keeps w w'):FnV P w' v F:=by
 obtain⟨n,cap,e,b,a⟩:=h;exact⟨n,cap,e,b,λf vs x r i=>a f vs x r (Keeps.trans k i)⟩
section
variable {P:Program} {n:Nat} {l:List (Nat×Value)} {w w0:World} {o oo:Tg} {d:Option Nat} {ty:TypeId} {ps:String} {af:Array Edge} {g:Option (Nat×Bool)} {R:Value->World->Prop}
theorem eZ{A ρ:Type}[Ar A][Rs ρ]{f:Operand}{v:Value}{F:A->Option ρ}{xs:List Operand}{vs:List Value}{x:A}{r:ρ}{i:Array TypeId}(y:FnV P w v F)(u:F x=some r)(b:Ar.ok w vs x)(q:ev l f=some v)(s:EvL l xs vs)
  (h:∀w',Keeps w w'->R (Rs.val r) w'):op1 P ⟨d,.call {callee:=.value f,args:=xs.toArray,argTypes:=i},ty,ps,af,g⟩ n l w R:=by
 obtain⟨m,cap,rfl,a,p⟩:=y;refine nQ (f:=m) (args:=(vs++cap).toArray) (λρ j=>?_) (p w vs x r (Keeps.refl w) b u) ?_
 ·simp only[execOp,resolve,aF,j f _ q,Deferred.ofValue,bt,aL,invoke,et,EvL.map j s];simp[a]
 ·rintro e w' ⟨rfl,k⟩;exact⟨_,rfl,h w' k⟩
theorem em{b:Fn}{a:List Operand}{vs:List Value}(h:EvL l a vs):∀ρ,Agr ρ l->(execOp ρ ⟨d,.makeFunc b #[] a.toArray,ty,ps,af,g⟩).run P w=.ok (.value (.func b #[] vs.toArray)) w:=by
 intro ρ f;simp only[execOp,Instr.makeFunc,et,EvL.map f h];rfl
end
section
variable {α:Type} [Rp α] {o o':Tg} {w w' w0:World} {v:Value} {xs:List α} {t k:Nat} {e:TypeId}
def Of(e:TypeId)(o:Tg)(w:World)(v:Value)(xs:List α):Prop:=Ow 0 e 0 o w v xs
theorem Of.nil(e:TypeId)(o:Tg)(w:World):Of e o w (.slice none 0 0) ([]:List α):=Ow.nil _ _ _ _ _
theorem Of.rd(h:Of e o w v xs):RdL o w v xs:=Ow.freeze h λb _ a=>by rcases a with h|h<;>exact h
theorem Of.stp(h:Of e o w v xs)(s:Stp t o w o' w')(a:t≠0:=by decide):Of e o' w' v xs:=Ow.stp h s a (V_ a)
theorem Of.frz(h:Of e o w v xs)(j:Nat)(a:0≠j):Of e (Go.Proofs.YtpefhaamcihneaaGreat.frz j o) w v xs:=Ow.frz_ne h a
theorem Ow.frzF{B:Nat}(h:Ow B e k o w v xs):Of e (Go.Proofs.YtpefhaamcihneaaGreat.frz k o) w v xs:=by
 obtain⟨css,j,f,p,m⟩:=h;exact⟨css,j,World.ownsRow.mono f (bj _),λg q=>by unfold Go.Proofs.YtpefhaamcihneaaGreat.frz;rw[if_pos (p g q)],λi cs x a b=>Rp.frz (m i cs x a b) k⟩
theorem Of.col{oo:Tg}(h:Of e oo w v xs):Of e (Go.Proofs.YtpefhaamcihneaaGreat.col oo) w v xs:=by
 obtain⟨css,j,f,p,m⟩:=h;exact⟨css,j,f,λg q=>by unfold Go.Proofs.YtpefhaamcihneaaGreat.col;rw[if_pos (p g q)],λi cs x a b=>Rp.col (m i cs x a b)⟩
theorem Of.rt{oo:Tg}(h:Of e o w v xs)(f:Bs oo o w0 w)(k t:Nat)(j:2<=k):Of e (Go.Proofs.YtpefhaamcihneaaGreat.rt oo o w0.heap.size k t) w v xs:=by
 obtain⟨css,p,m,s,q⟩:=h;exact⟨css,p,m,λg u=>me f k t g j (s g u),λi cs x a b=>Rp.rt (q i cs x a b) f k t j⟩
end
end
section
section
variable {α:Type} [Rp α] {o o':Tg} {w w' w0:World} {v u:Value} {xs:List α} {x:α} {t k:Nat} {e:TypeId} {B:Nat}
def Rtc(t:Nat)(o o':Tg):Prop:=∀b,o b≠t->o' b=o b
theorem Rtc.zero(r:Rtc t o o')(f:t≠0){b:Nat}(a:o b=0):o' b=0:=by rw[r b (by rw[a];exact f.symm)];exact a
theorem RdL.rc(h:RdL o w v xs)(r:Rtc t o o')(a:t≠0):RdL o' w v xs:=h.mv (K_ _) λb _ f=>⟨rfl,r.zero a f⟩
theorem Rp.rc{cs:List Value}(h:Rp.rd o w cs x)(r:Rtc t o o')(a:t≠0):Rp.rd o' w cs x:=Rp.mv h (K_ _) λb _ f=>⟨rfl,r.zero a f⟩
theorem Ow.rc(h:Ow B e k o w v xs)(r:Rtc t o o')(n:t≠0)(s:k≠t):Ow B e k o' w v xs:=by
 obtain⟨css,p,m,f,q⟩:=h;exact⟨css,p,m,λg j=>by rw[r g (by rw[f g j];exact s)];exact f g j,λi cs x a b=>Rp.rc (q i cs x a b) r n⟩
theorem Of.rc(h:Of e o w v xs)(r:Rtc t o o')(a:t≠0):Of e o' w v xs:=Ow.rc h r a a.symm
omit [Rp α] in
theorem Bx.rc{b:Nat}{cs:List Value}(h:Bx B k o w b e cs)(r:Rtc t o o')(a:k≠t):Bx B k o' w b e cs:=
 ⟨h.blk,by rw[r b (by rw[h.tag];exact a)];exact h.tag,h.lo⟩
omit [Rp α] in
theorem Bs.rc{oo:Tg}(h:Bs oo o w0 w)(r:Rtc t o o')(f:2<=t):Bs oo o' w0 w:=
 ⟨h.keeps,λb a=>by rw[r b (by have:=h.old b a;split at this<;>omega)];exact h.old b a⟩
def mrg(t k:Nat)(o:Tg):Tg:=λb=>if o b=t then k else o b
omit [Rp α] in
theorem bL(t k:Nat)(o:Tg):Rtc t o (mrg t k o):=λb a=>if_neg a
theorem Ow.mrg(h:Ow B e t o w v xs)(k:Nat)(j:t≠0):Ow B e k (Go.Proofs.YtpefhaamcihneaaGreat.mrg t k o) w v xs:=by
 obtain⟨css,m,f,p,n⟩:=h;exact⟨css,m,f,λg q=>if_pos (p g q),λi cs x a b=>Rp.rc (n i cs x a b) (bL t k o) j⟩
def one(u:Value)(k:Nat)(o:Tg):Tg:=λb=>if u.ownBlock=some b then k else o b
omit [Rp α] in
theorem xw(h:∀g,u.ownBlock=some g->o g=t)(k:Nat):Rtc t o (one u k o):=λb f=>by
 unfold one;rw[if_neg λa=>f (h b a)]
theorem Ow.tagged(h:Ow B e k o w v xs):∀g,v.ownBlock=some g->o g=k:=by obtain⟨css,f,b,a,i⟩:=h;exact a
theorem Ow.ltw(h:Ow B e k o w v xs):∀g,v.ownBlock=some g->B<=g∧g<w.heap.size:=by obtain⟨css,f,a,j,i⟩:=h;exact λg b=>a.lt g b
theorem Ow.one(h:Ow B e t o w u xs)(k:Nat)(j:t≠0):Ow B e k (Go.Proofs.YtpefhaamcihneaaGreat.one u k o) w u xs:=by
 have n:=xw h.tagged k;obtain⟨css,m,f,s,p⟩:=h;exact⟨css,m,f,λg q=>if_pos q,λi cs x a b=>Rp.rc (p i cs x a b) n j⟩
end
structure Hv where
  v:Value
instance:Rp Hv where
  sz:=1
  pos:=dc
  rd _ _ cs x:=cs=[x.v]∧x.v.oneCell'=true
  len h:=by obtain⟨rfl,_⟩:=h;rfl
  one h:=by obtain⟨rfl,h⟩:=h;intro c hc;simp at hc;subst hc;exact h
  mv h _ _:=h
instance:Inhabited Hv:=⟨⟨.slice none 0 0⟩⟩
section
variable {α:Type} [Rp α] {o o':Tg} {w w' w0:World} {v u:Value} {vs:List Hv} {xs:List (List α)} {x:List α} {t k kr:Nat} {e er:TypeId} {B:Nat}
def Rws(B:Nat)(er:TypeId)(kr:Nat)(o:Tg)(w:World)(vs:List Hv)(xs:List (List α)):Prop:=
  vs.length=xs.length∧(∀(i:Nat) u x,vs[i]? =some u->xs[i]? =some x->Ow B er kr o w u.v x)∧
    ∀(i j:Nat) u u' g,vs[i]? =some u->vs[j]? =some u'->u.v.ownBlock=some g->u'.v.ownBlock=some g->i=j
theorem Rws.nil(B:Nat)(er:TypeId)(kr:Nat)(o:Tg)(w:World):Rws B er kr o w [] ([]:List (List α)):=⟨rfl,λi u x h=>by simp at h,λi j u a g h=>by simp at h⟩
theorem Rws.stp(h:Rws B er kr o w vs xs)(s:Stp t o w o' w')(f:t≠0:=by decide)(hk:kr≠t:=by decide):Rws B er kr o' w' vs xs:=⟨h.1,λi u x a b=>(h.2.1 i u x a b).stp s f hk,h.2.2⟩
theorem Rws.rc(h:Rws B er kr o w vs xs)(r:Rtc t o o')(f:t≠0)(g:kr≠t):Rws B er kr o' w vs xs:=⟨h.1,λi u x a b=>(h.2.1 i u x a b).rc r f g,h.2.2⟩
theorem Rws.mono{f:Nat}(h:Rws B er kr o w vs xs)(g:f<=B):Rws f er kr o w vs xs:=⟨h.1,λi u x a b=>(h.2.1 i u x a b).mono g,h.2.2⟩
theorem Rws.row(h:Rws B er kr o w vs xs){i:Nat}(a:xs[i]? =some x):∃u,vs[i]? =some ⟨u⟩∧Ow B er kr o w u x:=by
 have hi:i<vs.length:=by have:=(Y_.1 a).1;have:=h.1;omega
 exact⟨vs[i].v,by rw[x_ hi],h.2.1 i vs[i] x (x_ hi) a⟩
theorem Rws.make(B:Nat)(er:TypeId)(kr:Nat)(o:Tg)(w:World)(n:Nat):Rws B er kr o w (List.replicate n ⟨.slice none 0 0⟩) (List.replicate n ([]:List α)):=by
 refine⟨sy,λi u x a b=>?_,λi j u f g a b c d=>?_⟩
 ·rw[gh] at a b;split at a
  ·rename_i hi;rw[if_pos hi] at b;cases a;cases b
   exact Ow.nil _ _ _ _ _
  ·cases a
 ·rw[gh] at a;split at a
  ·cases a;simp[Value.ownBlock] at c
  ·cases a
theorem Rws.push(h:Rws B er kr o w vs xs)(G:Ow B er t o w u x)(H:t≠0)(E:kr≠t):Rws B er kr (mrg t kr o) w (vs++[⟨u⟩]) (xs++[x]):=by
 have I:=h.rc (bL t kr o) H E;have A:=G.mrg kr H;refine⟨by simp[h.1],λi f q a b=>?_,λi j f y g a b c d=>?_⟩
 ·by_cases hi:i<vs.length
  ·rw[bN hi] at a;rw[bN (by rw[<-h.1];exact hi)] at b;exact I.2.1 i f q a b
  ·have n:i=vs.length:=by have:=(Y_.1 a).1;simp at this;omega
   subst n;rw[cj om] at a;rw[cj (by rw[h.1];omega)] at b;simp[h.1] at a b;subst a;subst b;exact A
 ·have s:∀(i:Nat) f,i<vs.length->vs[i]? =some f->f.v.ownBlock=some g->o g=kr:=λi f hi a c=>by
   obtain⟨q,F⟩:∃q,xs[i]? =some q:=⟨xs[i]'(by rw[<-h.1];exact hi),x_ (by rw[<-h.1];exact hi)⟩;exact(h.2.1 i f q a F).tagged g c
  have m:∀(i:Nat)(f:Hv),¬i<vs.length->(vs++[⟨u⟩])[i]? =some f->i=vs.length∧f=⟨u⟩:=λi f hi a=>by
   have n:i=vs.length:=by have:=(Y_.1 a).1;simp at this;omega
   subst n;rw[cj om] at a;simp at a;exact⟨rfl,a.symm⟩
  by_cases hi:i<vs.length<;>by_cases p:j<vs.length
  ·rw[bN hi] at a;rw[bN p] at b;exact h.2.2 i j f y g a b c d
  ·obtain⟨_,rfl⟩:=m j y p b;rw[bN hi] at a;have C:=s i f hi a c;have D:=G.tagged g d;exact absurd (C.symm.trans D) E
  ·obtain⟨_,rfl⟩:=m i f hi a;rw[bN p] at b;have C:=s j y p b d;have D:=G.tagged g c;exact absurd (C.symm.trans D) E
  ·rw[(m i f hi a).1,(m j y p b).1]
def RwH(i:Nat)(B:Nat)(er:TypeId)(kr:Nat)(o:Tg)(w:World)(vs:List Hv)(xs:List (List α)):Prop:=
  vs.length=xs.length∧(∀(j:Nat) u x,j≠i->vs[j]? =some u->xs[j]? =some x->Ow B er kr o w u.v x)∧
    ∀(j j':Nat) u u' g,j≠i->j'≠i->vs[j]? =some u->vs[j']? =some u'->u.v.ownBlock=some g->u'.v.ownBlock=some g->j=j'
theorem RwH.rc{i:Nat}(h:RwH i B er kr o w vs xs)(r:Rtc t o o')(f:t≠0)(g:kr≠t):RwH i B er kr o' w vs xs:=⟨h.1,λj u x n a b=>(h.2.1 j u x n a b).rc r f g,h.2.2⟩
theorem RwH.put{i:Nat}(h:RwH i B er kr o w vs xs)(A:Ow B er t o w u x)(C:t≠0)(y:kr≠t):Rws B er kr (mrg t kr o) w (vs.set i ⟨u⟩) (xs.set i x):=by
 have F:=h.rc (bL t kr o) C y;have q:=A.mrg kr C;have m:∀(j:Nat) f g,j≠i->vs[j]? =some f->f.v.ownBlock=some g->o g=kr:=λj f g n a c=>by
  have E:j<xs.length:=by rw[<-h.1];exact(Y_.1 a).1
  exact(h.2.1 j f _ n a (x_ E)).tagged g c
 refine⟨by simp[h.1],λj f G a b=>?_,λj s f D g a b c d=>?_⟩
 ·rw[db] at a b;by_cases e:i=j
  ·subst e;rw[if_pos rfl] at a b;split at a
   ·split at b
    ·cases a;cases b;exact q
    ·cases b
   ·cases a
  ·rw[if_neg e] at a b;exact F.2.1 j f G (V_ e) a b
 ·rw[db] at a b;by_cases e:i=j<;>by_cases p:i=s
  ·omega
  ·rw[if_pos e] at a;rw[if_neg p] at b;split at a
   ·cases a
    exact absurd ((m s D g (V_ p) b d).symm.trans (A.tagged g c)) y
   ·cases a
  ·rw[if_neg e] at a;rw[if_pos p] at b;split at b
   ·cases b
    exact absurd ((m j f g (V_ e) a c).symm.trans (A.tagged g d)) y
   ·cases b
  ·rw[if_neg e] at a;rw[if_neg p] at b;exact h.2.2 j s f D g (V_ e) (V_ p) a b c d
theorem Rws.hole(h:Rws B er kr o w vs xs)(i:Nat):RwH i B er kr o w vs xs:=⟨h.1,λj u x _ a b=>h.2.1 j u x a b,λj m u f g _ _ a b c d=>h.2.2 j m u f g a b c d⟩
theorem Rws.frz(h:Rws B er kr o w vs xs)(s:kr≠0):Rws B er 0 (frz kr o) w vs xs:=by
 refine⟨h.1,λi u x a b=>?_,h.2.2⟩;have f:=h.2.1 i u x a b;have:=f.frzF;obtain⟨css,m,j,p,n⟩:=f;exact⟨css,m,j,λg q=>by unfold Go.Proofs.YtpefhaamcihneaaGreat.frz;rw[if_pos (p g q)],λi cs x a b=>Rp.frz (n i cs x a b) kr⟩
theorem Rws.frz_ne{j:Nat}(h:Rws B er kr o w vs xs)(f:kr≠j):Rws B er kr (Go.Proofs.YtpefhaamcihneaaGreat.frz j o) w vs xs:=⟨h.1,λi u x a b=>(h.2.1 i u x a b).frz_ne f,h.2.2⟩
def Dz(e er:TypeId)(o:Tg)(w:World)(v:Value)(xs:List (List α)):Prop:=∃vs:List Hv,Ow 0 e 0 o w v vs∧Rws 0 er 0 o w vs xs
theorem Dz.nil(e er:TypeId)(o:Tg)(w:World):Dz e er o w (.slice none 0 0) ([]:List (List α)):=⟨[],Ow.nil _ _ _ _ _,Rws.nil _ _ _ _ _⟩
theorem Dz.of(h:Ow B e k o w v vs)(f:Rws B er kr o w vs xs)(g:k≠0)(a:kr≠0)(b:kr≠k):Dz e er (frz kr (frz k o)) w v xs:=
 ⟨vs,Of.frz (h.frzF) kr a.symm,((f.frz_ne b).frz a).mono (bj _)⟩
theorem Dz.stp(h:Dz e er o w v xs)(s:Stp t o w o' w')(a:t≠0:=by decide):Dz e er o' w' v xs:=by
 obtain⟨vs,f,b⟩:=h;exact⟨vs,f.stp s a a.symm,b.stp s a a.symm⟩
theorem Dz.rc(h:Dz e er o w v xs)(r:Rtc t o o')(a:t≠0):Dz e er o' w v xs:=by
 obtain⟨vs,f,b⟩:=h;exact⟨vs,f.rc r a a.symm,b.rc r a a.symm⟩
theorem bw(k:Nat)(o:Tg):Rtc k o (frz k o):=λb a=>if_neg a
theorem Dz.frz(h:Dz e er o w v xs)(j:Nat)(a:0≠j):Dz e er (Go.Proofs.YtpefhaamcihneaaGreat.frz j o) w v xs:=h.rc (bw j o) a.symm
theorem Dz.rt{oo:Tg}(h:Dz e er o w v xs)(g:Bs oo o w0 w)(k t:Nat)(j:2<=k):Dz e er (Go.Proofs.YtpefhaamcihneaaGreat.rt oo o w0.heap.size k t) w v xs:=by
 obtain⟨vs,m,f⟩:=h;exact⟨vs,Of.rt m g k t j,f.1,λi u x a b=>Of.rt (f.2.1 i u x a b) g k t j,f.2.2⟩
theorem Dz.rd(h:Dz e er o w v xs):RdL o w v xs:=by
 obtain⟨vs,j,g⟩:=h;obtain⟨a,c,rfl,E,s,A⟩:=Of.rd j;refine⟨a,c,by rw[g.1],by rw[<-g.1];exact E,s,λi x C=>?_⟩;obtain⟨u,q,y⟩:=g.row C;obtain⟨b,off,cs,p,D,f,m,n,_⟩:=A i ⟨u⟩ q;subst n;exact⟨b,off,[u],p,D,f,m,⟨u,rfl,Of.rd y⟩⟩
theorem Rws.ix(h:Rws B er kr o w vs xs){i:Int}(g:ix xs i=some x):∃u,Go.Proofs.YtpefhaamcihneaaGreat.ix vs i=some ⟨u⟩∧vs[i.toNat]? =some ⟨u⟩∧xs[i.toNat]? =some x:=by
 obtain⟨f,_,a⟩:=dR g;obtain⟨u,b,_⟩:=h.row a;exact⟨u,by unfold Go.Proofs.YtpefhaamcihneaaGreat.ix;rw[if_pos f];exact b,b,a⟩
theorem Rws.at(h:Rws B er kr o w vs xs){i:Nat}(a:vs[i]? =some ⟨u⟩)(b:xs[i]? =some x):Ow B er kr o w u x:=h.2.1 i ⟨u⟩ x a b
theorem Rws.pushV(h:Rws B er kr o w vs xs){a:List (List α)}(f:Go.Proofs.YtpefhaamcihneaaGreat.push xs x=some a)(u:Value):Go.Proofs.YtpefhaamcihneaaGreat.push vs ⟨u⟩=some (vs++[⟨u⟩])∧a=xs++[x]:=by
 obtain⟨b,rfl⟩:=pJ f;exact⟨by unfold Go.Proofs.YtpefhaamcihneaaGreat.push;rw[if_pos (by rw[h.1];exact b)],rfl⟩
theorem Rws.stV(h:Rws B er kr o w vs xs){a:List (List α)}{i:Int}(g:st xs i x=some a)(u:Value):st vs i ⟨u⟩=some (vs.set i.toNat ⟨u⟩)∧a=xs.set i.toNat x:=by
 obtain⟨b,f,rfl⟩:=wu g;exact⟨by unfold st;rw[if_pos ⟨b,by rw[h.1];exact f⟩],rfl⟩
theorem Rws.rtg(h:Rws B er kr o w vs xs)(k':Nat)(f:kr≠0):Rws B er k' (Go.Proofs.YtpefhaamcihneaaGreat.rtg kr k' o) w vs xs:=⟨h.1,λi u x a b=>(h.2.1 i u x a b).rtg k' f,h.2.2⟩
theorem Rws.rtg_ne{k k':Nat}(h:Rws B er kr o w vs xs)(g:kr≠k)(f:kr≠k')(j:k≠0):Rws B er kr (Go.Proofs.YtpefhaamcihneaaGreat.rtg k k' o) w vs xs:=⟨h.1,λi u x a b=>(h.2.1 i u x a b).rtg_ne g f j,h.2.2⟩
theorem bY{a:List α}(h:Ow B er k o w v a):Rp.rd o w [v] (⟨v⟩:Hv):=⟨rfl,h.one1⟩
end
section
variable {α:Type} [Rp α] {o o' oo:Tg} {w w' w0:World} {v u:Value} {vs:List Hv} {xs:List (List α)} {x:List α} {t k kr:Nat} {e er:TypeId} {B:Nat}
theorem Rws.z(h:Rws B er kr o w vs xs)(j:Ow B e k o w v vs):RdL zt w v xs:=by
 obtain⟨a,c,rfl,D,q,y⟩:=j.z;refine⟨a,c,by rw[h.1],by rw[<-h.1];exact D,q,λi x A=>?_⟩;obtain⟨u,p,s⟩:=h.row A;obtain⟨b,off,cs,n,C,f,g,m,_⟩:=y i ⟨u⟩ p;subst m;exact⟨b,off,[u],n,C,f,g,⟨u,rfl,s.z⟩⟩
def rt2(oo o:Tg)(n k kr t:Nat):Tg:=λb=>if b<n then oo b else if o b=k then t else if o b=kr then t+1 else 0
theorem cB(oo o:Tg)(n k kr t:Nat):∀b,b<n->rt2 oo o n k kr t b=oo b:=λb a=>if_pos a
theorem vG(h:Bs oo o w0 w)(k kr t b:Nat)(i:2<=k)(f:2<=kr)(g:o b=0):rt2 oo o w0.heap.size k kr t b=0:=by
 unfold rt2;split
 ·rename_i a;have:=h.old b a;split at this
  ·assumption
  ·omega
 ·rw[if_neg om,if_neg om]
theorem Ow.rt2{β:Type}[Rp β]{n:List β}(h:Ow w0.heap.size e k o w v n)(p:Bs oo o w0 w)(s:2<=k){kr:Nat}(f:2<=kr)(t:Nat):Ow w0.heap.size e t (Go.Proofs.YtpefhaamcihneaaGreat.rt2 oo o w0.heap.size k kr t) w v n:=by
 obtain⟨css,q,j,y,A⟩:=h;refine⟨css,q,j,λg m=>?_,λi cs x a b=>Rp.mv (A i cs x a b) (K_ _) λb _ C=>⟨rfl,vG p k kr t b s f C⟩⟩;unfold Go.Proofs.YtpefhaamcihneaaGreat.rt2;rw[if_neg (by have:=(j.lt g m).1;omega),if_pos (y g m)]
theorem Rws.rt2(h:Rws w0.heap.size er kr o w vs xs)(q:Bs oo o w0 w){k:Nat}(y:2<=k)(f:2<=kr)(m:kr≠k)(t:Nat):Rws w0.heap.size er (t+1) (Go.Proofs.YtpefhaamcihneaaGreat.rt2 oo o w0.heap.size k kr t) w vs xs:=by
 refine⟨h.1,λi u x a b=>?_,h.2.2⟩;obtain⟨css,s,n,p,A⟩:=h.2.1 i u x a b;refine⟨css,s,n,λg j=>?_,λi cs x a b=>Rp.mv (A i cs x a b) (K_ _) λb _ C=>⟨rfl,vG q k kr t b y f C⟩⟩;unfold Go.Proofs.YtpefhaamcihneaaGreat.rt2;rw[if_neg (by have:=(n.lt g j).1;omega),if_neg (by rw[p g j];exact m),if_pos (p g j)]
end
instance:Rz Hv:=⟨⟨.slice none 0 0⟩,[.slice none 0 0],λo w=>⟨rfl,rfl⟩⟩
section
variable {α:Type} [Rp α] {o o':Tg} {w w':World} {u:Value} {vs:List Hv} {xs:List (List α)} {x:List α} {t k kr:Nat} {e er:TypeId} {B:Nat}
theorem Fj{n:Int}{a:List (List α)}(h:mk ([]:List α) n=some a)(B:Nat)(er:TypeId)(kr:Nat)(o:Tg)(w:World):
  mk (Rz.z:Hv) n=some (List.replicate n.toNat ⟨.slice none 0 0⟩)∧Rws B er kr o w (List.replicate n.toNat ⟨.slice none 0 0⟩) a:=by
 obtain⟨f,b,rfl⟩:=wI h;exact⟨if_pos ⟨f,b⟩,Rws.make B er kr o w n.toNat⟩
end
section
variable {α:Type} [Rp α] {P:Program} {l:List (Nat×Value)} {w:World} {o:Tg} {d:Option Nat} {ty:TypeId}
end
end
end Go.Proofs.YtpefhaamcihneaaGreat
