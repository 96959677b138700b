/- Part 1 of what this claim rests on (pack.py). -/
import Derived.WalkKit
import Derived.ProofKit
import Derived.Below
import Derived.Lib.Hide
import Derived.Deep.Onto
import Derived.Deep.AppendLies
import Derived.Deep.QuietTactic
import Derived.Test.YtdbbeldgdgonfaaGreatProg
import Derived.Deep.LoopGhost
namespace Go.Proofs.YtdbbeldgdgonfaaGreat
set_option linter.unusedSimpArgs false
set_option linter.unusedVariables false
section
open Go.RowKit
abbrev Keeps(w w':World):Prop:=Below w.heap.size w w'
theorem Keeps.refl(w:World):Keeps w w:=Below.refl _ _
theorem Keeps.trans{a b c:World}(h:Keeps a b)(k:Keeps b c):Keeps a c:=Below.trans h (Below.mono k h.size)
theorem Keeps.alloc{a w:World}(h:Keeps a w)(o:Obj):Keeps a (w.alloc o):=Below.alloc h h.size o
theorem Keeps.drew{a w:World}(h:Keeps a w):Keeps a w.drew:=Below.drew h
theorem z_{w w':World}{a:Addr}{v:Value}(k:Keeps w w')(h:w.cell? a=some v):w'.cell? a=some v:=by
 rw[Below.cell k (World.block_lt_of_cell? w _ h)];exact h
def Sl(w:World)(v:Value)(xs:List Value):Prop:=
  ∃a c,v=.slice a xs.length c∧xs.length<=c∧c<=maxLen∧
    (xs=[]∨∃b o,a=some ⟨b,o,none⟩∧∀i x,xs[i]? =some x->w.cell? ⟨b,o+i,none⟩=some x)
def Ints(w:World)(v:Value)(l:List Int):Prop:=Sl w v (l.map (Value.int .i64))
theorem Sl.keep{w w':World}{v:Value}{xs:List Value}(h:Sl w v xs)(k:Keeps w w'):Sl w' v xs:=by
 obtain⟨a,c,rfl,j,f,d⟩:=h;refine⟨a,c,rfl,j,f,?_⟩;rcases d with d|⟨b,o,rfl,d⟩
 ·exact .inl d
 ·refine .inr ⟨b,o,rfl,λi x g=>?_⟩;have e:=d i x g;rw[Below.cell k (World.block_lt_of_cell? w _ e)];exact e
theorem Ints.keep{w w':World}{v:Value}{l:List Int}(h:Ints w v l)(k:Keeps w w'):Ints w' v l:=Sl.keep h k
theorem Sl.form{w:World}{v:Value}{xs:List Value}(h:Sl w v xs):
  ∃a c,v=.slice a xs.length c∧xs.length<=9223372036854775807∧
   ∀i,i<xs.length->∃b o,a=some ⟨b,o,none⟩∧w.cell? ⟨b,o+i,none⟩=some (xs.getD i undef):=by
 obtain⟨a,c,rfl,f,e,d⟩:=h;refine⟨a,c,rfl,by simp only[maxLen] at e;omega,λi hi=>?_⟩;rcases d with d|⟨b,o,rfl,d⟩
 ·subst d;simp at hi
 ·exact⟨b,o,rfl,d i _ (by simp[hi])⟩
theorem Ints.form{w:World}{v:Value}{l:List Int}(h:Ints w v l):
  ∃a c,v=.slice a l.length c∧l.length<=9223372036854775807∧
   ∀i,i<l.length->∃b o,a=some ⟨b,o,none⟩∧w.cell? ⟨b,o+i,none⟩=some (.int .i64 (l.getD i 0)):=by
 obtain⟨a,c,rfl,f,e,d⟩:=h;simp only[List.length_map] at f ⊢;refine⟨a,c,rfl,by simp only[maxLen] at e;omega,λi hi=>?_⟩;rcases d with d|⟨b,o,rfl,d⟩
 ·simp at d;subst d;simp at hi
 ·exact⟨b,o,rfl,d i _ (by simp[hi])⟩
theorem kF_{w w':World}{B:Nat}{e:TypeId}{size:Nat}{v:Value}{n:Nat}{xs:List Value}(h:w.ownsRow B e size v n xs)(k:Keeps w w'):w'.ownsRow B e size v n xs:=by
 obtain⟨i,a⟩:=h;refine⟨i,?_⟩;rcases a with a|⟨g,cap,b,j,f,d,r⟩
 ·exact .inl a
 ·exact .inr ⟨g,cap,b,j,f,by rw[k.block g (Array.getElem?_eq_some_iff.1 d).1];exact d,r⟩
theorem tN_{w:World}{B:Nat}{e:TypeId}{v:Value}{xs:List Value}(h:w.ownsRow B e 1 v xs.length xs):Sl w v xs:=by
 rcases h.2 with⟨rfl,d⟩|⟨g,cap,j,rfl,_,n,m,f,_,o⟩
 ·have:xs=[]:=List.eq_nil_of_length_eq_zero d;subst this;exact⟨none,0,rfl,Nat.le_refl _,by simp[maxLen],.inl rfl⟩
 ·refine⟨_,cap,rfl,m,f,.inr ⟨g,0,rfl,λi x k=>?_⟩⟩;have b:=h.cells (g:=g) rfl i x k;have a:(⟨g,0,none⟩:Addr).add i=⟨g,0+i,none⟩:=by unfold Addr.add;split<;>simp_all
  rw[a] at b;exact b
def Apart(u v:Value):Prop:=u.ownBlock=none∨u.ownBlock≠v.ownBlock
theorem Apart.symm{u v:Value}(h:Apart u v):Apart v u:=by
 unfold Apart at*
 rcases h with h|h
 ·by_cases a:v.ownBlock=none
  ·exact .inl a
  ·exact .inr λe=>a (e.trans h)
 ·exact .inr λe=>h e.symm
theorem rJ_(w:World)(r:Option Nat):w.grownBy w r:=⟨rfl,rfl,rfl,Nat.le_refl _,λ_ _ _=>rfl⟩
theorem qh_{a b c:World}{r:Option Nat}(h:a.grownBy b r)(k:b.grownBy c r):a.grownBy c r:=
 ⟨k.os.trans h.os,k.tape.trans h.tape,k.output.trans h.output,Nat.le_trans h.size k.size,λi hi d=>(k.block i (Nat.lt_of_lt_of_le hi h.size) d).trans (h.block i hi d)⟩
theorem oO_{w w0:World}{B u:Nat}{e:TypeId}{size:Nat}{g cap n m:Nat}{xs k:List Value}(h:w.ownsRow B e size (.slice (some ⟨g,0,none⟩) (n+m) cap) (n+m) (xs++k))
  (f:w0.ownsRow u e size (.slice (some ⟨g,0,none⟩) n cap) n xs):w.ownsRow B e size (.slice (some ⟨g,0,none⟩) n cap) n xs:=by
 rcases h.2 with⟨d,_⟩|⟨v,p,b,d,t,s,q,i,j,a⟩
 ·simp at d
 ·simp only[Value.slice.injEq,Option.some.injEq,Addr.mk.injEq,and_true,true_and] at d;obtain⟨rfl,rfl⟩:=d;refine⟨f.1,.inr ⟨g,cap,b,rfl,t,s,by omega,i,j,?_⟩⟩;have o:(b.toList.take ((n+m)*size)).take (n*size)=(xs++k).take (n*size):=by rw[a]
  rw[List.take_take,Nat.min_eq_left (Nat.mul_le_mul_right _ (by omega)),<-f.1,List.take_left] at o;rw[<-f.1];exact o
section
variable {P:Program} (w:World)
theorem nT_(B:Nat)(t ty e:TypeId)(i:TypeInfo)(z:Value)(size p:Nat)(N:P.underlying t=some (.slice e))(hi:P.info? e=some i)(T:i.zero=some z)
  (o:i.size=size) (I:i.bytes=p) (D:z.cells.size=size) (M:0<size)
  (v:Value) (n:Nat) (xs:List Value) (b:w.ownsRow B e size v n xs)
  (Q:Option Addr) (m c:Nat) (d:List Value) (E:d.length=m*size) (Y:Q=none->m=0∧c=0) (G:∀a,Q=some a->∀j u,d[j]? =some u->w.cell? (a.add j)=some u)
  (V:∀u∈d,u.oneCell'=true)
  (q:(n+m)*p<=140737488355328) (O:n+m<=maxLen) (W:B<=w.heap.size):
  ∃x w',(Builtin.append_ #[t,t] ty #[v,.slice Q m c]).run P w=.ok x w'∧w'.ownsRow B e size x (n+m) (xs++d)∧w.grownBy w' v.ownBlock∧
   (x.ownBlock=v.ownBlock∨w'.ownsRow w.heap.size e size x (n+m) (xs++d))∧w'.ownsRow B e size v n xs:=by
 cases Q with
 |none=>
  obtain⟨rfl,rfl⟩:=Y rfl;have hn:d=[]:=List.eq_nil_of_length_eq_zero (by simpa using E);subst hn;refine⟨v,w,run_append_owned_none w B t ty e i size N hi v n xs b,by simpa using b,⟨rfl,rfl,rfl,Nat.le_refl _,λ_ _ _=>rfl⟩,.inl rfl,b⟩
 | some a=>
  have f:=G a rfl;by_cases s:∃g cap,v=.slice (some ⟨g,0,none⟩) n cap∧n+m<=cap
  ·obtain⟨g,cap,rfl,X⟩:=s;obtain⟨w',L,F,J⟩:=run_append_fits (P:=P) w B t ty e i size N hi o g n cap xs b a m c d E f V X;exact⟨_,w',L,F,J,.inl rfl,oO_ F b⟩
  ·rcases b.2 with⟨rfl,rfl⟩|⟨g,cap,cur,rfl,hbg,hg,hnc,K,hcs,U⟩
   ·by_cases R:m=0
    ·subst R;obtain⟨x,w',L,F,J,h5⟩:=run_append_own (P:=P) w B t ty e i z size p N hi T o I D M _ _ xs b a 0 c d E f V O q W;have:x=.slice none 0 0:=h5.2 ⟨rfl,rfl⟩;subst this;exact⟨_,w',L,F,J,.inl rfl,b.kept J (.inl rfl)⟩
    ·have hx:xs=[]:=List.eq_nil_of_length_eq_zero (by simpa using b.1);subst hx;obtain⟨x,w',L,F,J,_⟩:=run_append_own (P:=P) w w.heap.size t ty e i z size p N hi T o I D M _ _ [] (World.ownsRow_nil w w.heap.size e size) a m c d E f V O q (Nat.le_refl _);exact⟨x,w',L,F.mono W,J,.inr F,b.kept J (.inl rfl)⟩
   ·have C:cap<n+m:=by
     apply Nat.lt_of_not_le;intro h;exact s ⟨g,cap,rfl,h⟩
    subst o;subst I;have H:∀j u,xs[j]? =some u->w.cell? ((⟨g,0,none⟩:Addr).add j)=some u:=b.cells (g:=g) rfl;have X:=run_append_grow (P:=P) w t ty e i z N hi T ⟨g,0,none⟩ n cap xs b.1 H a m c d E f C (by simp only[maxLen] at O;omega) (growslice_fits C q);have A:(xs++d).length=(n+m)*i.size:=by rw[List.length_append,b.1,E,Nat.add_mul]
    have S:=grownCap_ge w (n+m) cap e;have K:grownCap w (n+m) cap e<=maxLen:=grownCap_le_maxLen w (n+m) cap e O
    have y:(w.drew.alloc (.cells (xs.toArray++d.toArray++Builtin.zeroCells z.cells (grownCap w (n+m) cap e-(n+m))) e)).ownsRow w.heap.size e i.size
      (.slice (some ⟨w.heap.size,0,none⟩) (n+m) (grownCap w (n+m) cap e)) (n+m) (xs++d):=by
     refine⟨A,.inr ⟨w.heap.size,_,_,rfl,Nat.le_refl _,heap_alloc_new w.drew _,S,K,?_,?_⟩⟩
     ·simp only[Array.size_append,List.size_toArray,size_zeroCells,D,b.1,E,<-Nat.add_mul];congr 1;omega
     ·simp only[Array.toList_append,List.append_assoc];rw[<-List.append_assoc,<-A];exact List.take_left
    exact⟨_,_,X,y.mono W,⟨rfl,rfl,rfl,by simp,λk Z _=>heap_alloc_old w.drew _ Z⟩,.inr y,kF_ b ⟨rfl,rfl,rfl,by simp,λk Z=>heap_alloc_old w.drew _ Z⟩⟩
end
end
section
open Go.RowKit
theorem vc_:(Tryz.prog.info? 3).map (λi=>(i.zero,i.size,i.bytes))=some (some (.int .i64 0),1,8):=by kernel_rfl
def Own(B:Nat)(w:World)(v:Value)(l:List Int):Prop:=w.ownsRow B 3 1 v l.length (l.map (Value.int .i64))
section
variable {B:Nat} {w w':World} {v:Value} {l:List Int}
theorem Own.keep(h:Own B w v l)(k:Keeps w w'):Own B w' v l:=kF_ h k
theorem Own.mono{b:Nat}(h:Own B w v l)(d:b<=B):Own b w v l:=World.ownsRow.mono h d
theorem Own.ints(h:Own B w v l):Ints w v l:=tN_ (e:=3) (B:=B) (by simpa [Own] using h)
theorem Own.lt(h:Own B w v l):∀k,v.ownBlock=some k->B<=k∧k<w.heap.size:=World.ownsRow.lt h
theorem Own.nil(B:Nat)(w:World):Own B w (.slice none 0 0) []:=World.ownsRow_nil w B 3 1
theorem Own.kept{u:Value}(h:Own B w v l)(d:w.grownBy w' u.ownBlock)(b:Apart v u):Own B w' v l:=World.ownsRow.kept h d b
theorem Own.apart_old{C:Nat}{u:Value}{m:List Int}{w0:World}(h:Own B w0 v l)(k:Own C w u m)(j:w0.heap.size<=C):Apart v u:=by
 unfold Apart;by_cases d:v.ownBlock=none
 ·exact .inl d
 ·obtain⟨g,b⟩:=Option.ne_none_iff_exists'.1 d;refine .inr λe=>?_;have i:=(h.lt g b).2;have f:=(k.lt g (e▸b)).1;omega
theorem Own.len(h:Own B w v l):∃a c,v=.slice a l.length c∧l.length<=9223372036854775807:=by
 obtain⟨a,c,d,b,_⟩:=h.ints.form;exact⟨a,c,d,b⟩
end
structure App (B:Nat) (W:World) (v:Value) (l ys:List Int) (v':Value) (w':World):Prop where
  own:Own B w' v' (l++ys)
  grown:W.grownBy w' v.ownBlock
  lies:v'.ownBlock=v.ownBlock∨Own W.heap.size w' v' (l++ys)
  old:Own B w' v l
section
variable {ops:Array Oper} {rest:List Oper} {o:Oper} {a:Act} {Q:Exit->Act->World->Prop}
end
end
section
open Go.RowKit
def Kn:List (Nat×Value)->Nat->Option Value
  |[],_=>none
  |(s,v)::r,t=>if s=t then some v else Kn r t
structure Fr (a:Act) (n:Nat) (l:List (Nat×Value)):Prop where
  size:a.tmps.size=n
  defers:a.defers=[]
  get:∀t v,Kn l t=some v->a.tmps.getD t undef=v
theorem Fr.put{a:Act}{n:Nat}{l:List (Nat×Value)}(h:Fr a n l){d:Nat}(f:d<n)(v:Value):Fr (a.put (some d) v) n ((d,v)::l):=by
 refine⟨by simp[Act.put,h.size],by simp[Act.put,h.defers],λt u b=>?_⟩;simp only[Kn] at b;simp only[Act.put];by_cases e:d=t
 ·subst e;rw[if_pos rfl] at b;cases b
  have:d<a.tmps.size:=by rw[h.size];exact f
  simp[Array.getD_eq_getD_getElem?,this]
 ·rw[if_neg e] at b;have:=h.get t u b;simp only[Array.getD_eq_getD_getElem?] at this ⊢;rw[Array.getElem?_setIfInBounds_ne e];exact this
def Sub:List (Nat×Value)->List (Nat×Value)->Prop
  |[],_=>True
  |(t,v)::r,l=>Kn l t=some v∧Sub r l
theorem Sub.kn:∀{r l:List (Nat×Value)},Sub r l->∀t v,Kn r t=some v->Kn l t=some v
 |[],_,_,t,v,h=>by simp[Kn] at h
 |(s,u)::r,l,a,t,v,h=>by
  simp only[Kn] at h;split at h
  ·rename_i e;subst e;cases h;exact a.1
  ·exact Sub.kn a.2 t v h
theorem Fr.sub{a:Act}{n:Nat}{l r:List (Nat×Value)}(h:Fr a n l)(e:Sub r l):Fr a n r:=
 ⟨h.size,h.defers,λt v b=>h.get t v (e.kn t v b)⟩
def ev(l:List (Nat×Value)):Operand->Option Value
  | .tmp t=>Kn l t
  | .const v=>some v
  | .global g=>some (.pointer (some ⟨g,0,none⟩))
  | .func f=>some (.func (.func f) #[] #[])
def Agr(ρ:Operand->Value)(l:List (Nat×Value)):Prop:=∀x v,ev l x=some v->ρ x=v
theorem Fr.agr{a:Act}{n:Nat}{l:List (Nat×Value)}(h:Fr a n l):Agr a.eval l:=by
 intro x v b;cases x with
 |tmp t=>exact h.get t v b
 |const u=>simp only[ev] at b;cases b;rfl
 |global g=>simp only[ev] at b;cases b;rfl
 |func f=>simp only[ev] at b;cases b;rfl
def Gd(ops:Array Oper)(l:List (Nat×Value)):Option (Nat×Bool)->Prop
  |none=>True
  |some (j,want)=>∃d,((ops[j]?).bind (·.dst))=some d∧Kn l d=some (.bool want)
theorem oR_{a:Act}{n:Nat}{l:List (Nat×Value)}(h:Fr a n l){ops:Array Oper}{o:Oper}(f:Gd ops l o.guard):Region.wanted o (yielded ops a.tmps)=true:=by
 unfold Region.wanted;cases q:o.guard with
 |none=>rfl
 | some p=>
  obtain⟨j,e⟩:=p;rw[q] at f;obtain⟨d,m,k⟩:=f;have b:=h.get d _ k;simp only[yielded,m,Option.bind_some];have:a.tmps[d]? =some (.bool e):=by
   simp only[Array.getD_eq_getD_getElem?] at b;cases i:a.tmps[d]? with
   |none=>rw[i] at b;simp[undef] at b
   |some u=>rw[i] at b;simp at b;rw[b]
  rw[this];simp
theorem vz_{a:Act}{n:Nat}{l:List (Nat×Value)}(h:Fr a n l){ops:Array Oper}{o:Oper}{j:Nat}{e:Bool}(k:o.guard=some (j,e))
  {d:Nat} {b:Bool} (q:((ops[j]?).bind (·.dst))=some d) (m:Kn l d=some (.bool b)) (p:(b==e)=false):Region.wanted o (yielded ops a.tmps)=false:=by
 unfold Region.wanted;rw[k];have f:=h.get d _ m;simp only[yielded,q,Option.bind_some];have:a.tmps[d]? =some (.bool b):=by
  simp only[Array.getD_eq_getD_getElem?] at f;cases i:a.tmps[d]? with
  |none=>rw[i] at f;simp[undef] at f
  |some u=>rw[i] at f;simp at f;rw[f]
 rw[this];simpa using p
def wpF(P:Program)(ops:Array Oper)(Q:Exit->Act->World->Prop)(rest:List Oper)(n:Nat)(l:List (Nat×Value))(w:World):Prop:=∀a,Fr a n l->wpList P ops Q rest a w
def wpC(P:Program)(c:Code)(Q:Exit->Act->World->Prop)(n:Nat)(l:List (Nat×Value))(w:World):Prop:=∀a,Fr a n l->Code.wp P c Q a w
section
variable {P:Program} {Q:Exit->Act->World->Prop} {n:Nat} {l:List (Nat×Value)} {w:World}
theorem g_(h:∀a,Fr a n l->Q .normal a w):wpC P .skip Q n l w:=λa b=>wp_skip (h a b)
theorem c_{x y:Code}(h:wpC P x (Exit.then (y.wp P Q) Q) n l w):wpC P (.seq x y) Q n l w:=λa b=>wp_seq (h a b)
theorem d_{id:Nat}{ops:List Oper}(h:wpF P ops.toArray Q ops n l w):wpC P (.region id ops.toArray false) Q n l w:=λa b=>wp_region_lit (h a b)
theorem l_{c:Operand}{x y:Code}{t:Bool}(e:ev l c=some (.bool t))(i:t=true->wpC P x Q n l w)(f:t=false->wpC P y Q n l w):wpC P (.cond c x y) Q n l w:=
 λa b=>wp_cond_split (b.agr c _ e) (λh=>i h a b) (λh=>f h a b)
theorem L_{c:Operand}{x y:Code}(e:ev l c=some (.bool true))(f:wpC P x Q n l w):wpC P (.cond c x y) Q n l w:=λa b=>wp_cond_true (b.agr c _ e) (f a b)
theorem G_{c:Operand}{x y:Code}(e:ev l c=some (.bool false))(f:wpC P y Q n l w):wpC P (.cond c x y) Q n l w:=λa b=>wp_cond_false (b.agr c _ e) (f a b)
theorem f_{id:Nat}{c:Code}(h:wpC P c (Exit.inBlock id Q) n l w):wpC P (.block id c) Q n l w:=λa b=>wp_block (h a b)
theorem s_{id:Nat}(h:∀a,Fr a n l->Q (.exit id) a w):wpC P (.exit id) Q n l w:=λa b=>wp_exit (h a b)
theorem j_(h:∀a,Fr a n l->Q .ret a w):wpC P .ret Q n l w:=λa b=>wp_ret (h a b)
theorem rf_{c:Code}{Q':Exit->Act->World->Prop}(h:wpC P c Q n l w)(b:∀e a w,Q e a w->Q' e a w):wpC P c Q' n l w:=λa f=>wp_mono (h a f) b
theorem to_k{K:Act->Prop}{r:List (Nat×Value)}(e:Sub r l)(h:∀a,Fr a n r->K a):∀a,Fr a n l->K a:=λa b=>h a (b.sub e)
theorem w_{c:Code}(I:Nat->Act->World->Prop)(b:Nat)(e:∀a,Fr a n l->I b a w)
  (round:∀k a w,I k a w->Code.wp P c (Exit.then (λh w'=>∃k',k'<k∧I k' h w') Q) a w):wpC P (.loop c) Q n l w:=
 λa f=>wp_loop_ghost I b (e a f) round
theorem uo_{f:FuncId}{a:Func}{c:Code}{args:Array Value}{R:Ending->World->Prop}(e:P.funcs[f]? =some a)(i:a.body=some c)(j:args.size+(a.ntmps-args.size)=n)
  (b:∀t v,Kn l t=some v->(args++Array.replicate (a.ntmps-args.size) undef).getD t undef=v) (h:wpC P c (bodyPost P a R) n l w):Calls P f args w R:=
 calls_of_wp e i (h _ ⟨by simpa using j,rfl,b⟩)
variable {ops:Array Oper} {rest:List Oper} {o:Oper}
theorem aR_{r:List (Nat×Value)}(e:Sub r l)(h:∀a,Fr a n r->Q .normal a w):wpF P ops Q [] n l w:=λa b=>wpList_nil (h a (b.sub e))
theorem uq_(e:Gd ops l o.guard)(h:∀a,Fr a n l->o.wp P a w (wpList P ops Q rest) Q):wpF P ops Q (o::rest) n l w:=by
 intro a b;refine wpList_step λK f=>?_;rw[if_pos (oR_ b e)];exact Oper.wp_mono f (h a b)
theorem q_{d:Nat}{v:Value}{w':World}{b:Op}{ty:TypeId}{ps:String}{af:Array Edge}{g:Option (Nat×Bool)}
  (j:∀ρ,Agr ρ l->(execOp ρ ⟨some d,b,ty,ps,af,g⟩).run P w=.ok (.value v) w')
  (i:d<n) (f:Gd ops l g) (h:wpF P ops Q rest n ((d,v)::l) w'):wpF P ops Q (⟨some d,b,ty,ps,af,g⟩::rest) n l w:=by
 refine uq_ f λa e=>?_;unfold Oper.wp;rw[j _ e.agr];exact h _ (e.put i v)
theorem A_{d:Nat}{p:Op}{ty:TypeId}{ps:String}{af:Array Edge}{j:Nat}{e:Bool}{s:Nat}{b:Bool}
  (q:((ops[j]?).bind (·.dst))=some s) (k:Kn l s=some (.bool b)) (m:(b==e)=false)
  (i:d<n) (h:wpF P ops Q rest n ((d,undef)::l) w):wpF P ops Q (⟨some d,p,ty,ps,af,some (j,e)⟩::rest) n l w:=by
 intro a f;refine wpList_step λK t=>?_;rw[if_neg (by rw[vz_ f rfl q k m];decide)];exact t _ _ (h _ (f.put i undef))
theorem aq_{d:Nat}{f:Op}{ty:TypeId}{ps:String}{af:Array Edge}{j:Nat}{b:Bool}{s:Nat}
  (t:((ops[j]?).bind (·.dst))=some s) (m:Kn l s=some undef)
  (v:d<n) (h:wpF P ops Q rest n ((d,undef)::l) w):wpF P ops Q (⟨some d,f,ty,ps,af,some (j,b)⟩::rest) n l w:=by
 intro a i;refine wpList_step λK p=>?_;have k:Region.wanted (⟨some d,f,ty,ps,af,some (j,b)⟩:Oper) (yielded ops a.tmps)=false:=by
  have e:=i.get s _ m;simp only[Region.wanted,yielded,t,Option.bind_some];cases q:a.tmps[s]? with
  |none=>rfl
  |some u=>
   simp only[Array.getD_eq_getD_getElem?,q,Option.getD_some] at e;subst e;rfl
 rw[if_neg (by rw[k];decide)];exact p _ _ (h _ (i.put v undef))
theorem gj_{a:Act}{next b:Act->World->Prop}{Q':Exit->Act->World->Prop}(j:∀a w,next a w->b a w)(i:∀e a w,Q e a w->Q' e a w)(h:o.wp P a w next Q):o.wp P a w b Q':=by
 unfold Oper.wp at*
 generalize (execOp a.eval o).run P w=r at*
 cases r with
 | ok x w'=>
  cases x<;>simp only[Oper.upon] at h ⊢<;>
   first
    |exact j _ _ h
    | exact Calls.mono h (λe k f=>by
      cases e with
      |returned v=>exact j _ _ f
      |panicked c=>exact i _ _ _ f
      |outgrown=>obtain⟨a,w,m⟩:=f;exact⟨a,w,i _ _ _ m⟩)
    |exact Rows.mono h (λ_ _ f=>j _ _ f)
    |exact h
 |halt x w'=>cases x<;>simp only[Oper.upon] at h ⊢<;>first|exact i _ _ _ h|exact h
def op1(P:Program)(o:Oper)(n:Nat)(l:List (Nat×Value))(w:World)(R:Value->World->Prop):Prop:=
  ∀a,Fr a n l->o.wp P a w (λa' w'=>∃v,a'=a.put o.dst v∧R v w') (λ_ _ _=>False)
theorem M_{R:Value->World->Prop}{v:Value}{w':World}(e:∀ρ,Agr ρ l->(execOp ρ o).run P w=.ok (.value v) w')(h:R v w'):op1 P o n l w R:=by
 intro a b;unfold Oper.wp;rw[e _ b.agr];exact⟨v,rfl,h⟩
theorem mQ_{R:Value->World->Prop}{w':World}(e:∀ρ,Agr ρ l->(execOp ρ o).run P w=.ok .skip w')(h:R undef w'):op1 P o n l w R:=by
 intro a b;unfold Oper.wp;rw[e _ b.agr];exact⟨undef,rfl,h⟩
theorem iY_{R:Value->World->Prop}{f:FuncId}{args:Array Value}{C:Ending->World->Prop}(j:∀ρ,Agr ρ l->(execOp ρ o).run P w=.ok (.enter f args) w)
  (i:Calls P f args w C) (h:∀e w',C e w'->∃v,e=.returned v∧R v w'):op1 P o n l w R:=by
 intro a k;unfold Oper.wp;rw[j _ k.agr];refine i.mono λe w' b=>?_;obtain⟨v,rfl,m⟩:=h e w' b;exact⟨v,rfl,m⟩
theorem cJ_{d:Nat}{e:Op}{ty:TypeId}{ps:String}{af:Array Edge}{g:Option (Nat×Bool)}(j:d<n)(i:Gd ops l g)
  (h:op1 P ⟨some d,e,ty,ps,af,g⟩ n l w (λv w'=>wpF P ops Q rest n ((d,v)::l) w')):wpF P ops Q (⟨some d,e,ty,ps,af,g⟩::rest) n l w:=
 uq_ i λa f=>gj_ (λm w' b=>by obtain⟨v,rfl,k⟩:=b;exact k _ (f.put j v)) (λ_ _ _ b=>b.elim) (h a f)
theorem Z_{e:Op}{ty:TypeId}{ps:String}{af:Array Edge}{g:Option (Nat×Bool)}(i:Gd ops l g)
  (h:op1 P ⟨none,e,ty,ps,af,g⟩ n l w (λ_ w'=>wpF P ops Q rest n l w')):wpF P ops Q (⟨none,e,ty,ps,af,g⟩::rest) n l w:=
 uq_ i λa f=>gj_ (λk w' b=>by obtain⟨v,rfl,j⟩:=b;exact j _ f) (λ_ _ _ b=>b.elim) (h a f)
section
variable {d:Option Nat} {ty:TypeId} {ps:String} {af:Array Edge} {g:Option (Nat×Bool)}
theorem h_{x:Operand}{v:Value}(a:ev l x=some v):∀ρ,Agr ρ l->(execOp ρ ⟨d,.move x,ty,ps,af,g⟩).run P w=.ok (.value v) w:=by
 intro ρ b;rw[<-b x v a];rfl
theorem ao_{x:Operand}{v:Value}(a:ev l x=some v):∀ρ,Agr ρ l->(execOp ρ ⟨d,.assign x,ty,ps,af,g⟩).run P w=.ok (.value v) w:=by
 intro ρ b;rw[<-b x v a];rfl
theorem P_{c x y:Operand}{v:Value}(b:ev l c=some (.bool true))(e:ev l x=some v):∀ρ,Agr ρ l->(execOp ρ ⟨d,.pick c x y,ty,ps,af,g⟩).run P w=.ok (.value v) w:=by
 intro ρ a;simp only[execOp,a c _ b,a x _ e];rfl
theorem I_{c x y:Operand}{v:Value}(b:ev l c=some (.bool false))(e:ev l y=some v):∀ρ,Agr ρ l->(execOp ρ ⟨d,.pick c x y,ty,ps,af,g⟩).run P w=.ok (.value v) w:=by
 intro ρ a;simp only[execOp,a c _ b,a y _ e];rfl
theorem aI_{t:TypeId}{x:Operand}{b:Bool}(e:ev l x=some (.bool b)):∀ρ,Agr ρ l->(execOp ρ ⟨d,.unOp .not t x,ty,ps,af,g⟩).run P w=.ok (.value (.bool (!b))) w:=by
 intro ρ a;simp only[execOp,a x _ e];rfl
theorem t_{x:Operand}{vs:Array Value}{i:Nat}{v:Value}(b:ev l x=some (.tuple vs))(a:vs[i]? =some v):∀ρ,Agr ρ l->(execOp ρ ⟨d,.extract x i,ty,ps,af,g⟩).run P w=.ok (.value v) w:=by
 intro ρ e;simp only[execOp,e x _ b,Instr.extract,a];rfl
end
end
end
section
open Go.RowKit
abbrev Tg:=Nat->Nat
structure Stp (t:Nat) (o:Tg) (w:World) (o':Tg) (w':World):Prop where
  os:w'.os=w.os
  tape:w'.tape=w.tape
  output:w'.output=w.output
  size:w.heap.size<=w'.heap.size
  block:∀b,b<w.heap.size->o b≠t->w'.heap[b]? =w.heap[b]?
  own:∀b,b<w.heap.size->o' b=o b
theorem Stp.refl(t:Nat)(o:Tg)(w:World):Stp t o w o w:=⟨rfl,rfl,rfl,Nat.le_refl _,λ_ _ _=>rfl,λ_ _=>rfl⟩
theorem Stp.trans{t:Nat}{o o' o'':Tg}{w w' d:World}(h:Stp t o w o' w')(k:Stp t o' w' o'' d):Stp t o w o'' d:=
 ⟨k.os.trans h.os,k.tape.trans h.tape,k.output.trans h.output,Nat.le_trans h.size k.size,
  λb a e=>(k.block b (Nat.lt_of_lt_of_le a h.size) (by rw[h.own b a];exact e)).trans (h.block b a e),
  λb a=>(k.own b (Nat.lt_of_lt_of_le a h.size)).trans (h.own b a)⟩
theorem Keeps.stp{w w':World}(k:Keeps w w')(t:Nat)(o:Tg):Stp t o w o w':=⟨k.os,k.tape,k.output,k.size,λb a _=>k.block b a,λ_ _=>rfl⟩
theorem Keeps.stp'{w w':World}(k:Keeps w w')(t:Nat){o o':Tg}(h:∀b,b<w.heap.size->o' b=o b):Stp t o w o' w':=⟨k.os,k.tape,k.output,k.size,λb a _=>k.block b a,h⟩
structure Bs (oo o:Tg) (w0 w:World):Prop where
  keeps:Keeps w0 w
  old:∀b,b<w0.heap.size->o b=if oo b=0 then 0 else 1
theorem Bs.stp{d o o':Tg}{w0 w w':World}{t:Nat}(h:Bs d o w0 w)(s:Stp t o w o' w')(e:2<=t:=by decide):Bs d o' w0 w':=
  ⟨⟨s.os.trans h.keeps.os,s.tape.trans h.keeps.tape,s.output.trans h.keeps.output,Nat.le_trans h.keeps.size s.size,
    λb a=>(s.block b (Nat.lt_of_lt_of_le a h.keeps.size) (by have:=h.old b a;split at this<;>omega)).trans (h.keeps.block b a)⟩,
   λb a=>by rw[s.own b (Nat.lt_of_lt_of_le a h.keeps.size)];exact h.old b a⟩
def col(oo:Tg):Tg:=λb=>if oo b=0 then 0 else 1
theorem Bs.start(a:Tg)(w:World):Bs a (col a) w w:=⟨Keeps.refl w,λ_ _=>rfl⟩
def Cells(w:World)(b off:Nat)(cs:List Value):Prop:=∀j v,cs[j]? =some v->w.cell? ⟨b,off+j,none⟩=some v
theorem Cells.of_block{w w':World}{b off:Nat}{cs:List Value}(h:Cells w b off cs)(a:w'.heap[b]? =w.heap[b]?):Cells w' b off cs:=by
 intro j v d;rw[<-h j v d];simp only[World.cell?,a]
class Rp (α:Type) where
  sz:Nat
  pos:0<sz
  rd:Tg->World->List Value->α->Prop
  len:∀{o w cs x},rd o w cs x->cs.length=sz
  one:∀{o w cs x},rd o w cs x->∀c∈cs,c.oneCell'=true
  mv:∀{o o':Tg}{w w':World}{cs:List Value}{x:α},rd o w cs x->w.heap.size<=w'.heap.size->(∀b,b<w.heap.size->o b=0->w'.heap[b]? =w.heap[b]? ∧o' b=0)->rd o' w' cs x
instance:Rp Int where
  sz:=1
  pos:=by decide
  rd _ _ cs x:=cs=[.int .i64 x]
  len h:=by subst h;rfl
  one h:=by subst h;simp[Value.oneCell']
  mv h _ _:=h
instance:Rp Bool where
  sz:=1
  pos:=by decide
  rd _ _ cs x:=cs=[.bool x]
  len h:=by subst h;rfl
  one h:=by subst h;simp[Value.oneCell']
  mv h _ _:=h
def RdL{α:Type}[Rp α](o:Tg)(w:World)(v:Value)(xs:List α):Prop:=
  ∃a c,v=.slice a xs.length c∧xs.length<=c∧c<=maxLen∧
    ∀(i:Nat) x,xs[i]? =some x->∃b off cs,a=some ⟨b,off,none⟩∧o b=0∧b<w.heap.size∧Cells w b (off+i*Rp.sz α) cs∧Rp.rd o w cs x
theorem RdL.mv{α:Type}[Rp α]{o o':Tg}{w w':World}{v:Value}{xs:List α}(h:RdL o w v xs)(j:w.heap.size<=w'.heap.size)
  (f:∀b,b<w.heap.size->o b=0->w'.heap[b]? =w.heap[b]? ∧o' b=0):RdL o' w' v xs:=by
 obtain⟨a,c,e,p,n,y⟩:=h;refine⟨a,c,e,p,n,λi x s=>?_⟩;obtain⟨b,off,cs,q,g,d,m,u⟩:=y i x s;exact⟨b,off,cs,q,(f b d g).2,Nat.lt_of_lt_of_le d j,m.of_block (f b d g).1,Rp.mv u j f⟩
instance {α:Type} [Rp α]:Rp (List α) where
  sz:=1
  pos:=by decide
  rd o w cs xs:=∃v,cs=[v]∧RdL o w v xs
  len h:=by obtain⟨v,rfl,_⟩:=h;rfl
  one h:=by obtain⟨v,rfl,a,c,rfl,_⟩:=h;simp[Value.oneCell']
  mv h hs hb:=by obtain⟨v,e,h⟩:=h;exact⟨v,e,h.mv hs hb⟩
def zt:Tg:=λ_=>0
section
variable {α:Type} [Rp α] {o o' o'':Tg} {w w' w0:World} {v:Value} {xs:List α} {x:α} {cs:List Value} {t k:Nat}
theorem RdL.stp(h:RdL o w v xs)(s:Stp t o w o' w')(f:t≠0:=by decide):RdL o' w' v xs:=
 h.mv s.size λb a d=>⟨s.block b a (by rw[d];exact λe=>f e.symm),by rw[s.own b a];exact d⟩
theorem RdL.keep(h:RdL zt w v xs)(k:Keeps w w'):RdL zt w' v xs:=h.mv k.size λb a _=>⟨k.block b a,rfl⟩
theorem RdL.z(h:RdL o w v xs):RdL zt w v xs:=h.mv (Nat.le_refl _) λb a _=>⟨rfl,rfl⟩
theorem Rp.stp(h:Rp.rd o w cs x)(s:Stp t o w o' w')(f:t≠0:=by decide):Rp.rd o' w' cs x:=
 Rp.mv h s.size λb a d=>⟨s.block b a (by rw[d];exact λe=>f e.symm),by rw[s.own b a];exact d⟩
theorem Rp.keep(h:Rp.rd zt w cs x)(k:Keeps w w'):Rp.rd zt w' cs x:=Rp.mv h k.size λb a _=>⟨k.block b a,rfl⟩
theorem Rp.z(h:Rp.rd o w cs x):Rp.rd zt w cs x:=Rp.mv h (Nat.le_refl _) λb a _=>⟨rfl,rfl⟩
theorem RdL.form(h:RdL o w v xs):∃a c,v=.slice a xs.length c:=by obtain⟨a,c,e,_⟩:=h;exact⟨a,c,e⟩
theorem RdL.len_le(h:RdL o w v xs):xs.length<=9223372036854775807:=by
 obtain⟨a,c,_,d,b,_⟩:=h;simp only[maxLen] at b;omega
theorem RdL.nil(o:Tg)(w:World):RdL o w (.slice none 0 0) ([]:List α):=⟨none,0,rfl,Nat.le_refl _,by simp[maxLen],λi x a=>by simp at a⟩
theorem RdL.at{a:Option Addr}{n c:Nat}(h:RdL o w (.slice a n c) xs){i:Nat}(hi:xs[i]? =some x):∃b off cs,a=some ⟨b,off,none⟩∧Cells w b (off+i*Rp.sz α) cs∧Rp.rd o w cs x∧n=xs.length:=by
 obtain⟨y,s,e,u,q,j⟩:=h;cases e
 obtain⟨b,off,cs,f,p,m,d,g⟩:=j i x hi;exact⟨b,off,cs,f,d,g,rfl⟩
theorem k_{b off:Nat}{u:Value}(h:Cells w b off [u]):w.cell? ⟨b,off,none⟩=some u:=by simpa using h 0 u rfl
def Ow(B:Nat)(e:TypeId)(k:Nat)(o:Tg)(w:World)(v:Value)(xs:List α):Prop:=
  ∃css:List (List Value),css.length=xs.length∧w.ownsRow B e (Rp.sz α) v xs.length css.flatten∧(∀g,v.ownBlock=some g->o g=k)∧
    ∀(i:Nat) cs x,css[i]? =some cs->xs[i]? =some x->Rp.rd o w cs x
theorem Ow.nil(B:Nat)(e:TypeId)(k:Nat)(o:Tg)(w:World):Ow B e k o w (.slice none 0 0) ([]:List α):=
 ⟨[],rfl,World.ownsRow_nil w B e _,λg a=>by simp[Value.ownBlock] at a,λi cs x h=>by simp at h⟩
theorem Ow.form{B:Nat}{e:TypeId}(h:Ow B e k o w v xs):∃a c,v=.slice a xs.length c:=by
 obtain⟨css,i,b,_⟩:=h;rcases b.2 with⟨rfl,f⟩|⟨g,cap,d,rfl,_⟩
 ·exact⟨none,0,by rw[f]⟩
 ·exact⟨_,cap,rfl⟩
theorem Ow.len_le{B:Nat}{e:TypeId}(h:Ow B e k o w v xs):xs.length<=9223372036854775807:=by
 obtain⟨css,i,a,_⟩:=h;rcases a.2 with⟨_,f⟩|⟨g,cap,b,_,_,_,j,d,_⟩
 ·omega
 ·simp only[maxLen] at d;omega
theorem Ow.stp{B:Nat}{e:TypeId}(h:Ow B e k o w v xs)(s:Stp t o w o' w')(C:t≠0:=by decide)(hk:k≠t:=by decide):Ow B e k o' w' v xs:=by
 obtain⟨css,u,j,n,y⟩:=h;refine⟨css,u,⟨j.1,?_⟩,λg d=>?_,λi cs x a b=>Rp.stp (y i cs x a b) s C⟩
 ·rcases j.2 with q|⟨g,cap,m,p,A,d,r⟩
  ·exact .inl q
  ·refine .inr ⟨g,cap,m,p,A,?_,r⟩;have f:=(Array.getElem?_eq_some_iff.1 d).1;rw[s.block g f (by rw[n g (by rw[p];rfl)];exact hk)];exact d
 ·rw[s.own g (j.lt g d).2];exact n g d
theorem Ow.mono{B a:Nat}{e:TypeId}(h:Ow B e k o w v xs)(f:a<=B):Ow a e k o w v xs:=by
 obtain⟨css,d,b,g,i⟩:=h;exact⟨css,d,b.mono f,g,i⟩
theorem ls_(css:List (List Value))(sz:Nat)(a:∀cs∈css,cs.length=sz){i:Nat}{cs:List Value}(hi:css[i]? =some cs)(j:Nat)(e:j<sz):css.flatten[i*sz+j]? =cs[j]? :=by
 induction css generalizing i with
 |nil=>simp at hi
 | cons c css ih=>
  have d:=a c (by simp);cases i with
  |zero=>
   simp at hi;subst hi;simp only[List.flatten_cons,Nat.zero_mul,Nat.zero_add];rw[List.getElem?_append_left (by omega)]
  |succ i=>
   simp at hi;simp only[List.flatten_cons];rw[List.getElem?_append_right (by rw[Nat.succ_mul];omega),show(i+1)*sz+j-c.length=i*sz+j by rw[Nat.succ_mul];omega];exact ih (λx b=>a x (by simp[b])) hi
theorem Ow.lens{B:Nat}{e:TypeId}{css:List (List Value)}(f:css.length=xs.length)(d:∀(i:Nat) cs x,css[i]? =some cs->xs[i]? =some x->Rp.rd o w cs x):∀cs∈css,cs.length=Rp.sz α:=by
 intro cs a;obtain⟨i,hi⟩:=List.mem_iff_getElem?.1 a;have b:=(List.getElem?_eq_some_iff.1 hi).1;exact Rp.len (d i cs _ hi (List.getElem?_eq_getElem (by omega)))
theorem Ow.at{a:Option Addr}{n c:Nat}{B:Nat}{e:TypeId}(h:Ow B e k o w (.slice a n c) xs){i:Nat}(hi:xs[i]? =some x):
  ∃g cs,a=some ⟨g,0,none⟩∧n=xs.length∧Cells w g (0+i*Rp.sz α) cs∧Rp.rd o w cs x∧w.frozen? ⟨g,0+i*Rp.sz α,none⟩=false:=by
 obtain⟨css,E,C,I,q⟩:=h;have y:=(List.getElem?_eq_some_iff.1 hi).1;have d:css[i]? =some (css[i]'(by omega)):=List.getElem?_eq_getElem (by omega);rcases C.2 with⟨_,H⟩|⟨g,cap,D,A,L,p,K,J,F,G⟩
 ·omega
 ·cases A
  refine⟨g,_,rfl,rfl,λj u s=>?_,q i _ x d hi,?_⟩
  ·have m:=Ow.lens (e:=e) (B:=B) E q;have f:j<Rp.sz α:=by
    have:=(List.getElem?_eq_some_iff.1 s).1;rw[m _ (List.getElem_mem _)] at this;exact this
   have b:=ls_ css (Rp.sz α) m d j f;rw[s,<-G] at b;rw[List.getElem?_take] at b;split at b
   ·simp only[World.cell?,p,Option.isSome_none,Bool.false_eq_true,if_false];rw[Nat.zero_add];rw[<-b];simp
   ·cases b
  ·simp[World.frozen?,p]
theorem Ow.freeze{B:Nat}{e:TypeId}(h:Ow B e k o w v xs)(s:∀b,b<w.heap.size->(o b=0∨o b=k)->o' b=0):RdL o' w v xs:=by
 obtain⟨css,J,G,F,A⟩:=h;have p:=Ow.lens (e:=e) (B:=B) J A;rcases G.2 with⟨rfl,m⟩|⟨g,cap,I,rfl,C,q,K,H,L,M⟩
 ·have:xs=[]:=List.eq_nil_of_length_eq_zero m;subst this;exact RdL.nil _ _
 ·refine⟨_,cap,rfl,K,H,λi x y=>?_⟩;have E:=(List.getElem?_eq_some_iff.1 y).1;have d:css[i]? =some (css[i]'(by omega)):=List.getElem?_eq_getElem (by omega);have f:=(Array.getElem?_eq_some_iff.1 q).1;refine⟨g,0,_,rfl,s g f (.inr (F g rfl)),f,λj u D=>?_,Rp.mv (A i _ x d y) (Nat.le_refl _) λb C m=>⟨rfl,s b C (.inl m)⟩⟩;have n:j<Rp.sz α:=by
   have:=(List.getElem?_eq_some_iff.1 D).1;rw[p _ (List.getElem_mem _)] at this;exact this
  have a:=ls_ css (Rp.sz α) p d j n;rw[D,<-M] at a;rw[List.getElem?_take] at a;split at a
  ·simp only[World.cell?,q,Option.isSome_none,Bool.false_eq_true,if_false];rw[Nat.zero_add,<-a];simp
  ·cases a
theorem Ow.z{B:Nat}{e:TypeId}(h:Ow B e k o w v xs):RdL zt w v xs:=h.freeze λ_ _ _=>rfl
def frz(k:Nat)(o:Tg):Tg:=λb=>if o b=k then 0 else o b
theorem Ow.frz{B:Nat}{e:TypeId}(h:Ow B e k o w v xs):RdL (frz k o) w v xs:=h.freeze λb _ a=>by
 unfold Go.Proofs.YtdbbeldgdgonfaaGreat.frz;rcases a with a|a
 ·rw[a];split<;>rfl
 ·rw[if_pos a]
theorem RdL.frz(h:RdL o w v xs)(j:Nat):RdL (frz j o) w v xs:=h.mv (Nat.le_refl _) λb _ a=>⟨rfl,by unfold Go.Proofs.YtdbbeldgdgonfaaGreat.frz;rw[a];split<;>rfl⟩
theorem Rp.frz(h:Rp.rd o w cs x)(j:Nat):Rp.rd (frz j o) w cs x:=Rp.mv h (Nat.le_refl _) λb _ a=>⟨rfl,by unfold Go.Proofs.YtdbbeldgdgonfaaGreat.frz;rw[a];split<;>rfl⟩
theorem Ow.frz_ne{B:Nat}{e:TypeId}{j:Nat}(h:Ow B e k o w v xs)(m:k≠j):Ow B e k (Go.Proofs.YtdbbeldgdgonfaaGreat.frz j o) w v xs:=by
 obtain⟨css,n,f,p,q⟩:=h;exact⟨css,n,f,λg d=>by unfold Go.Proofs.YtdbbeldgdgonfaaGreat.frz;rw[p g d,if_neg m],λi cs x a b=>Rp.frz (q i cs x a b) j⟩
theorem Bs.frz{a:Tg}(h:Bs a o w0 w)(j:Nat)(e:2<=j):Bs a (Go.Proofs.YtdbbeldgdgonfaaGreat.frz j o) w0 w:=⟨h.keeps,λb d=>by
 unfold Go.Proofs.YtdbbeldgdgonfaaGreat.frz;have:=h.old b d;rw[<-this,if_neg];split at this<;>omega⟩
theorem RdL.col{a:Tg}(h:RdL a w v xs):RdL (col a) w v xs:=h.mv (Nat.le_refl _) λb _ d=>⟨rfl,by unfold Go.Proofs.YtdbbeldgdgonfaaGreat.col;rw[if_pos d]⟩
theorem Rp.col{a:Tg}(h:Rp.rd a w cs x):Rp.rd (Go.Proofs.YtdbbeldgdgonfaaGreat.col a) w cs x:=Rp.mv h (Nat.le_refl _) λb _ d=>⟨rfl,by unfold Go.Proofs.YtdbbeldgdgonfaaGreat.col;rw[if_pos d]⟩
def rt(oo o:Tg)(n k t:Nat):Tg:=λb=>if b<n then oo b else if o b=k then t else 0
theorem ly_{d:Tg}(h:Bs d o w0 w)(k t b:Nat)(f:2<=k)(e:o b=0):rt d o w0.heap.size k t b=0:=by
 unfold rt;split
 ·rename_i a;have:=h.old b a;split at this
  ·assumption
  ·omega
 ·rw[if_neg (by omega)]
theorem Ow.rt{j:Tg}{e:TypeId}(h:Ow w0.heap.size e k o w v xs)(p:Bs j o w0 w)(u:2<=k)(t:Nat):Ow w0.heap.size e t (Go.Proofs.YtdbbeldgdgonfaaGreat.rt j o w0.heap.size k t) w v xs:=by
 obtain⟨css,n,f,m,q⟩:=h;refine⟨css,n,f,λg d=>?_,λi cs x a b=>Rp.mv (q i cs x a b) (Nat.le_refl _) λb _ s=>⟨rfl,ly_ p k t b u s⟩⟩;unfold Go.Proofs.YtdbbeldgdgonfaaGreat.rt;rw[if_neg (by have:=(f.lt g d).1;omega),if_pos (m g d)]
theorem RdL.rt{a:Tg}(h:RdL o w v xs)(f:Bs a o w0 w)(k t:Nat)(e:2<=k):RdL (Go.Proofs.YtdbbeldgdgonfaaGreat.rt a o w0.heap.size k t) w v xs:=h.mv (Nat.le_refl _) λb _ d=>⟨rfl,ly_ f k t b e d⟩
theorem Rp.rt{a:Tg}(h:Rp.rd o w cs x)(f:Bs a o w0 w)(k t:Nat)(e:2<=k):Rp.rd (Go.Proofs.YtdbbeldgdgonfaaGreat.rt a o w0.heap.size k t) w cs x:=Rp.mv h (Nat.le_refl _) λb _ d=>⟨rfl,ly_ f k t b e d⟩
theorem am_(a o:Tg)(n k t:Nat):∀b,b<n->rt a o n k t b=a b:=λb d=>if_pos d
structure Bx (B k:Nat) (o:Tg) (w:World) (b:Nat) (e:TypeId) (cs:List Value):Prop where
  blk:w.heap[b]? =some (.cells cs.toArray e (0,0))
  tag:o b=k
  lo:B<=b
theorem Bx.stp{B b:Nat}{e:TypeId}(h:Bx B k o w b e cs)(s:Stp t o w o' w')(d:k≠t:=by decide):Bx B k o' w' b e cs:=by
 have a:=(Array.getElem?_eq_some_iff.1 h.blk).1;exact⟨by rw[s.block b a (by rw[h.tag];exact d)];exact h.blk,by rw[s.own b a];exact h.tag,h.lo⟩
theorem Bx.frz_ne{B b j:Nat}{e:TypeId}(h:Bx B k o w b e cs)(a:k≠j):Bx B k (Go.Proofs.YtdbbeldgdgonfaaGreat.frz j o) w b e cs:=
 ⟨h.blk,by unfold Go.Proofs.YtdbbeldgdgonfaaGreat.frz;rw[h.tag,if_neg a],h.lo⟩
theorem Bx.cell{B b:Nat}{e:TypeId}(h:Bx B k o w b e cs){i:Nat}{u:Value}(hi:cs[i]? =some u):w.cell? ⟨b,i,none⟩=some u:=by
 simp only[World.cell?,h.blk,Option.isSome_none,Bool.false_eq_true,if_false];simpa using hi
theorem Bx.cells{B b:Nat}{e:TypeId}(h:Bx B k o w b e cs):Cells w b 0 cs:=λj u a=>by rw[Nat.zero_add];exact h.cell a
theorem ks_(o:Tg)(w:World)(t:Nat):Stp t o w o w.drew:=⟨rfl,rfl,rfl,Nat.le_refl _,λ_ _ _=>rfl,λ_ _=>rfl⟩
end
end
section
open Go.RowKit
def ck(n:Int):Option Int:=if -9223372036854775808<=n∧n<=9223372036854775807 then some n else none
theorem bV_{n m:Int}(h:ck n=some m):m=n∧-9223372036854775808<=n∧n<=9223372036854775807:=by
 unfold ck at h;split at h
 ·rename_i e;cases h;exact⟨rfl,e⟩
 ·cases h
theorem F_{n:Int}(f: -9223372036854775808<=n)(e:n<=9223372036854775807):ck n=some n:=if_pos ⟨f,e⟩
def quo(a b:Int):Option Int:=if b=0 then none else ck (a.tdiv b)
def rem(a b:Int):Option Int:=if b=0 then none else some (a.tmod b)
def band(a b:Int):Int:=IntKind.i64.wrap (BitVec.ofInt 64 a&&&BitVec.ofInt 64 b).toNat
def bor(a b:Int):Int:=IntKind.i64.wrap (BitVec.ofInt 64 a|||BitVec.ofInt 64 b).toNat
def shl(a b:Int):Option Int:=if b<0 then none else some (IntKind.i64.wrap (a*2^(min b.toNat 64)))
def shr(a b:Int):Option Int:=if b<0 then none else some (a.fdiv (2^(min b.toNat 64)))
def ix{α:Type}(xs:List α)(i:Int):Option α:=if 0<=i then xs[i.toNat]? else none
theorem fx_{α:Type}{xs:List α}{i:Int}{x:α}(h:ix xs i=some x):0<=i∧i<xs.length∧xs[i.toNat]? =some x:=by
 unfold ix at h;split at h
 ·rename_i e;have:=(List.getElem?_eq_some_iff.1 h).1;exact⟨e,by omega,h⟩
 ·cases h
def st{α:Type}(xs:List α)(i:Int)(x:α):Option (List α):=if 0<=i∧i<xs.length then some (xs.set i.toNat x) else none
theorem nk_{α:Type}{xs e:List α}{i:Int}{x:α}(h:st xs i x=some e):0<=i∧i<xs.length∧e=xs.set i.toNat x:=by
 unfold st at h;split at h
 ·rename_i f;cases h;exact⟨f.1,f.2,rfl⟩
 ·cases h
def push{α:Type}(xs:List α)(x:α):Option (List α):=if xs.length<1000000000 then some (xs++[x]) else none
theorem kD_{α:Type}{xs e:List α}{x:α}(h:push xs x=some e):xs.length<1000000000∧e=xs++[x]:=by
 unfold push at h;split at h
 ·rename_i f;cases h;exact⟨f,rfl⟩
 ·cases h
def cat{α:Type}(xs zs:List α):Option (List α):=if xs.length+zs.length<=1000000000 then some (xs++zs) else none
theorem rt_{α:Type}{xs e zs:List α}(h:cat xs zs=some e):xs.length+zs.length<=1000000000∧e=xs++zs:=by
 unfold cat at h;split at h
 ·rename_i f;cases h;exact⟨f,rfl⟩
 ·cases h
def mk{α:Type}(z:α)(n:Int):Option (List α):=if 0<=n∧n<1000000000 then some (List.replicate n.toNat z) else none
theorem pD_{α:Type}{z:α}{n:Int}{e:List α}(h:mk z n=some e):0<=n∧n<1000000000∧e=List.replicate n.toNat z:=by
 unfold mk at h;split at h
 ·rename_i f;cases h;exact⟨f.1,f.2,rfl⟩
 ·cases h
def cut{α:Type}(xs:List α)(a b:Int):Option (List α):=if 0<=a∧a<=b∧b<=xs.length then some ((xs.take b.toNat).drop a.toNat) else none
theorem ir_{α:Type}{xs f:List α}{a b:Int}(h:cut xs a b=some f):0<=a∧a<=b∧b<=xs.length∧f=(xs.take b.toNat).drop a.toNat:=by
 unfold cut at h;split at h
 ·rename_i e;cases h;exact⟨e.1,e.2.1,e.2.2,rfl⟩
 ·cases h
theorem a_{α β:Type}{m:Option α}{f:α->Option β}{r:β}(h:(m>>=f)=some r):∃x,m=some x∧f x=some r:=by
 cases m with
 |none=>simp at h
 |some x=>exact⟨x,rfl,by simpa using h⟩
inductive Lp (σ τ ρ:Type) where
  |go (s:σ)
  |out (s:τ)
  |ret (r:ρ)
def loopF{σ τ ρ:Type}(step:σ->Option (Lp σ τ ρ)):Nat->σ->Option (τ ⊕ ρ)
  |0,_=>none
  | k+1,s=>match step s with
    |none=>none
    |some (.go s')=>loopF step k s'
    |some (.out t)=>some (.inl t)
    |some (.ret r)=>some (.inr r)
theorem uh_{σ τ ρ:Type}{step:σ->Option (Lp σ τ ρ)}{k:Nat}{s:σ}{r:τ ⊕ ρ}(h:loopF step k s=some r):
  ∃k' x,k=k'+1∧step s=some x∧((∃e,x=.go e∧loopF step k' e=some r)∨(∃t,x=.out t∧r=.inl t)∨(∃q,x=.ret q∧r=.inr q)):=by
 cases k with
 |zero=>simp[loopF] at h
 | succ k=>
  simp only[loopF] at h;cases hx:step s with
  |none=>rw[hx] at h;cases h
  |some x=>
   rw[hx] at h;refine⟨k,x,rfl,rfl,?_⟩;cases x with
   |go e=>exact .inl ⟨e,rfl,h⟩
   |out t=>cases h;exact .inr (.inl ⟨t,rfl,rfl⟩)
   |ret q=>cases h;exact .inr (.inr ⟨q,rfl,rfl⟩)
section
variable {P:Program} {l:List (Nat×Value)} {w:World} {d:Option Nat} {ty:TypeId} {ps:String} {af:Array Edge} {g:Option (Nat×Bool)}
theorem ed_{e:BinOp}{t t':TypeId}{x y:Operand}{a b:Int}{v:Value}(hx:ev l x=some (.int .i64 a))(hy:ev l y=some (.int .i64 b))
  (h:(binOp e t (.int .i64 a) (.int .i64 b)).run P w=.ok v w):∀ρ,Agr ρ l->(execOp ρ ⟨d,.binOp e t x y t',ty,ps,af,g⟩).run P w=.ok (.value v) w:=by
 intro ρ f;have i:(eqGuard e t x y (.int .i64 a) (.int .i64 b)).run P w=.ok () w:=by
  unfold eqGuard;cases e<;>rfl
 simp only[execOp,f x _ hx,f y _ hy,Sem.run_bind,i,Result.andThen_ok,h];rfl
section
variable {t t':TypeId} {x y:Operand} {a b c:Int} (hx:ev l x=some (.int .i64 a)) (hy:ev l y=some (.int .i64 b))
include hx hy
theorem C_(h:ck (a+b)=some c):∀ρ,Agr ρ l->(execOp ρ ⟨d,.binOp .add t x y t',ty,ps,af,g⟩).run P w=.ok (.value (.int .i64 c)) w:=by
 obtain⟨rfl,e,f⟩:=bV_ h;exact ed_ hx hy (by simp only[binOp,ne_eq,not_true_eq_false,if_false,Op.intArith];rw[IntWalk.i64_in _ ⟨e,f⟩];rfl)
theorem bs_(h:ck (a-b)=some c):∀ρ,Agr ρ l->(execOp ρ ⟨d,.binOp .sub t x y t',ty,ps,af,g⟩).run P w=.ok (.value (.int .i64 c)) w:=by
 obtain⟨rfl,e,f⟩:=bV_ h;exact ed_ hx hy (by simp only[binOp,ne_eq,not_true_eq_false,if_false,Op.intArith];rw[IntWalk.i64_in _ ⟨e,f⟩];rfl)
theorem kb_(h:ck (a*b)=some c):∀ρ,Agr ρ l->(execOp ρ ⟨d,.binOp .mul t x y t',ty,ps,af,g⟩).run P w=.ok (.value (.int .i64 c)) w:=by
 obtain⟨rfl,e,f⟩:=bV_ h;exact ed_ hx hy (by simp only[binOp,ne_eq,not_true_eq_false,if_false,Op.intArith];rw[IntWalk.i64_in _ ⟨e,f⟩];rfl)
theorem sE_(h:quo a b=some c):∀ρ,Agr ρ l->(execOp ρ ⟨d,.binOp .quo t x y t',ty,ps,af,g⟩).run P w=.ok (.value (.int .i64 c)) w:=by
 unfold quo at h;split at h
 ·cases h
 ·rename_i f;obtain⟨rfl,i,e⟩:=bV_ h;exact ed_ hx hy (by simp only[binOp,ne_eq,not_true_eq_false,if_false,Op.intDiv,if_neg f];rw[IntWalk.i64_in _ ⟨i,e⟩];rfl)
theorem qK_(h:rem a b=some c):∀ρ,Agr ρ l->(execOp ρ ⟨d,.binOp .rem t x y t',ty,ps,af,g⟩).run P w=.ok (.value (.int .i64 c)) w:=by
 unfold rem at h;split at h
 ·cases h
 ·rename_i e;cases h
  exact ed_ hx hy (by simp only[binOp,ne_eq,not_true_eq_false,if_false,Op.intDiv,if_neg e];rfl)
theorem r_:∀ρ,Agr ρ l->(execOp ρ ⟨d,.binOp .lss t x y t',ty,ps,af,g⟩).run P w=.ok (.value (.bool (decide (a<b)))) w:=ed_ hx hy rfl
theorem tG_:∀ρ,Agr ρ l->(execOp ρ ⟨d,.binOp .leq t x y t',ty,ps,af,g⟩).run P w=.ok (.value (.bool (decide (a<=b)))) w:=ed_ hx hy rfl
theorem eN_:∀ρ,Agr ρ l->(execOp ρ ⟨d,.binOp .gtr t x y t',ty,ps,af,g⟩).run P w=.ok (.value (.bool (decide (a>b)))) w:=ed_ hx hy rfl
theorem lF_:∀ρ,Agr ρ l->(execOp ρ ⟨d,.binOp .geq t x y t',ty,ps,af,g⟩).run P w=.ok (.value (.bool (decide (a>=b)))) w:=ed_ hx hy rfl
theorem cD_:∀ρ,Agr ρ l->(execOp ρ ⟨d,.binOp .eql t x y t',ty,ps,af,g⟩).run P w=.ok (.value (.bool (a==b))) w:=ed_ hx hy rfl
theorem bR_:∀ρ,Agr ρ l->(execOp ρ ⟨d,.binOp .neq t x y t',ty,ps,af,g⟩).run P w=.ok (.value (.bool (a !=b))) w:=ed_ hx hy rfl
theorem jY_:∀ρ,Agr ρ l->(execOp ρ ⟨d,.binOp .and t x y t',ty,ps,af,g⟩).run P w=.ok (.value (.int .i64 (band a b))) w:=ed_ hx hy rfl
theorem wk_:∀ρ,Agr ρ l->(execOp ρ ⟨d,.binOp .or t x y t',ty,ps,af,g⟩).run P w=.ok (.value (.int .i64 (bor a b))) w:=ed_ hx hy rfl
theorem gL_(h:shl a b=some c):∀ρ,Agr ρ l->(execOp ρ ⟨d,.binOp .shl t x y t',ty,ps,af,g⟩).run P w=.ok (.value (.int .i64 c)) w:=by
 unfold shl at h;split at h
 ·cases h
 ·rename_i e;cases h
  exact ed_ hx hy (by simp only[binOp,Op.shift,if_neg e];rfl)
theorem qS_(h:shr a b=some c):∀ρ,Agr ρ l->(execOp ρ ⟨d,.binOp .shr t x y t',ty,ps,af,g⟩).run P w=.ok (.value (.int .i64 c)) w:=by
 unfold shr at h;split at h
 ·cases h
 ·rename_i e;cases h
  exact ed_ hx hy (by simp only[binOp,Op.shift,if_neg e];rfl)
end
theorem tb_{x:Operand}{t:TypeId}{a:Option Addr}{n c:Nat}{e:TypeId}(hx:ev l x=some (.slice a n c))(f:P.underlying t=some (.slice e)):
  ∀ρ,Agr ρ l->(execOp ρ ⟨d,.call {callee:=.builtin .len,args:= #[x],argTypes:= #[t]},ty,ps,af,g⟩).run P w=.ok (.value (.int .i64 n)) w:=by
 intro ρ h;have:=run_len_slice (P:=P) (w:=w) t ty a n c (by rw[f];simp[Program.elem,f]);simp only[execOp,resolve,invoke,builtin,Sem.run_bind,Sem.run_pure,Result.andThen_ok,List.map_toArray,List.map_cons,List.map_nil,h x _ hx,this];rfl
theorem ih_{x y:Operand}{t e:TypeId}{b off n c sz:Nat}{i:Int}(hx:ev l x=some (.slice (some ⟨b,off,none⟩) n c))(hy:ev l y=some (.int .i64 i))
  (m:0<=i) (o:i<n) (j:P.underlying t=some (.slice e)) (q:∀w,(sizeOf e).run P w=.ok sz w):
  ∀ρ,Agr ρ l->(execOp ρ ⟨d,.indexAddr t x y,ty,ps,af,g⟩).run P w=.ok (.value (.pointer (some ⟨b,off+i.toNat*sz,none⟩))) w:=by
 intro ρ k;have f:P.elem t=e:=by simp[Program.elem,j]
 have:=run_indexAt_slice (P:=P) (w:=w) t ⟨b,off,none⟩ n c .i64 i (by rw[f];exact j);rw[if_pos ⟨m,o⟩,f,q] at this;have p:(⟨b,off,none⟩:Addr).add (i.toNat*sz)=⟨b,off+i.toNat*sz,none⟩:=by
  unfold Addr.add;split
  ·rename_i h;rw[h];rfl
  ·rfl
 simp only[execOp,k x _ hx,k y _ hy,Sem.run_bind,this,Result.andThen_ok,p];rfl
theorem m_{x:Operand}{s:TypeId}{f:Nat}{j:Array Field}{e:Field}{b off k:Nat}(hx:ev l x=some (.pointer (some ⟨b,off,none⟩)))(p:P.underlying s=some (.struct j))(m:j[f]? =some e)
  (q:∀w,(sizeOf e.type).run P w=.ok (k+1) w):
  ∀ρ,Agr ρ l->(execOp ρ ⟨d,.fieldAddr s x f,ty,ps,af,g⟩).run P w=.ok (.value (.pointer (some ⟨b,off+e.offset,none⟩))) w:=by
 intro ρ n;have o:(⟨b,off,none⟩:Addr).add e.offset=⟨b,off+e.offset,none⟩:=by
  unfold Addr.add;split
  ·rename_i h;rw[h];rfl
  ·rfl
 have i:(underlying s).run P w=.ok (.struct j) w:=by simp[underlying,p]
 simp only[execOp,n x _ hx,Instr.fieldAt,Instr.sureAddr,Sem.run_bind,i,Result.andThen_ok,m,Sem.run_pure,fieldPlace,q,Nat.add_eq_zero_iff,Nat.one_ne_zero,and_false,if_false,o]
theorem e_{x:Operand}{t:TypeId}{e:Addr}{u:Value}(hx:ev l x=some (.pointer (some e)))(f:∀w,(isAgg t).run P w=.ok false w)(h:w.cell? e=some u):
  ∀ρ,Agr ρ l->(execOp ρ ⟨d,.load t x,ty,ps,af,g⟩).run P w=.ok (.value u) w:=by
 intro ρ i;have:(load e).run P w=.ok u w:=by simp[load,Sem.run,h]
 simp only[execOp,i x _ hx,Instr.loadAt,Instr.sureAddr,Sem.run_bind,Sem.run_pure,Result.andThen_ok,loadVar,f,Bool.false_eq_true,if_false,this]
theorem eX_{b off:Nat}:∀(cs:List Value)(i:Nat)(e:Array Value),Cells w b (off+i) cs->(loadCellsFrom ⟨b,off,none⟩ i cs.length e).run P w=.ok (e++cs.toArray) w
 |[],i,e,_=>by simp[loadCellsFrom]
 | c::cs,i,e,h=>by
  have f:w.cell? ⟨b,off+i,none⟩=some c:=by simpa using h 0 c rfl
  have n:(⟨b,off,none⟩:Addr).add i=⟨b,off+i,none⟩:=by
   unfold Addr.add;split
   ·rename_i h;rw[h];rfl
   ·rfl
  have m:(load ((⟨b,off,none⟩:Addr).add i)).run P w=.ok c w:=by rw[n];simp[load,Sem.run,f]
  have ih:=eX_ cs (i+1) (e.push c) (λj v k=>by have:=h (j+1) v (by simpa using k);rw[show off+(i+1)+j=off+i+(j+1) by omega];exact this);simp only[List.length_cons,loadCellsFrom,Sem.run_bind,m,Result.andThen_ok,ih];simp
theorem E_{x:Operand}{t:TypeId}{b off k:Nat}{cs:List Value}(hx:ev l x=some (.pointer (some ⟨b,off,none⟩)))(e:∀w,(isAgg t).run P w=.ok true w)(j:∀w,(sizeOf t).run P w=.ok k w)
  (h:cs.length=k) (f:Cells w b off cs):
  ∀ρ,Agr ρ l->(execOp ρ ⟨d,.load t x,ty,ps,af,g⟩).run P w=.ok (.value (.agg cs.toArray)) w:=by
 intro ρ i;subst h;have:(loadCells ⟨b,off,none⟩ cs.length).run P w=.ok cs.toArray w:=by
  have:=eX_ (P:=P) (w:=w) (b:=b) (off:=off) cs 0 #[] (by simpa using f);simpa [loadCells] using this
 simp only[execOp,i x _ hx,Instr.loadAt,Instr.sureAddr,Sem.run_bind,Sem.run_pure,Result.andThen_ok,loadVar,e,if_true,j,this]
theorem wx_{x:Operand}{t:TypeId}{v:Value}(hx:ev l x=some v):
  ∀ρ,Agr ρ l->(execOp ρ ⟨d,.box t x,ty,ps,af,g⟩).run P w=.ok (.value (.pointer (some ⟨w.heap.size,0,none⟩))) (w.alloc (.cells v.cells t)):=by
 intro ρ e;simp only[execOp,e x _ hx,Instr.box,newVar,newRow,newObj,Sem.run_bind,Sem.run_pure,Result.andThen_ok];rfl
theorem uD_{t:TypeId}{z:Value}(e:∀w,(zeroValue t).run P w=.ok z w):
  ∀ρ,Agr ρ l->(execOp ρ ⟨d,.alloc t,ty,ps,af,g⟩).run P w=.ok (.value (.pointer (some ⟨w.heap.size,0,none⟩))) (w.alloc (.cells z.cells t)):=by
 intro ρ f;simp only[execOp,Instr.alloc,newVar,newRow,newObj,Sem.run_bind,Sem.run_pure,Result.andThen_ok,e];rfl
end
end
end Go.Proofs.YtdbbeldgdgonfaaGreat
