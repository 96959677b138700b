/- Part 2 of what this claim rests on (pack.py). -/
import Derived.Test.YtpefhaamcihneaaGreatP01
namespace Go.Proofs.YtpefhaamcihneaaGreat
set_option linter.unusedSimpArgs false
set_option linter.unusedVariables false
open Go.RowKit
section
def ext(o:Tg)(n k:Nat):Tg:=λb=>if b<n then o b else k
theorem jI(o:Tg)(n k b:Nat)(h:n<=b):ext o n k b=k:=by unfold ext;rw[if_neg om]
theorem mi(o:Tg)(n k b:Nat)(h:b<n):ext o n k b=o b:=by unfold ext;rw[if_pos h]
theorem en(o:Tg)(w:World)(e:Obj)(k t:Nat):Stp t o w (ext o w.heap.size k) (w.alloc e):=
 ⟨rfl,rfl,rfl,sy,λb a _=>heap_alloc_old w e a,λb a=>mi _ _ _ _ a⟩
theorem Cf{o:Tg}{w w':World}{t:Nat}{r:Option Nat}(h:w.grownBy w' r)(f:∀g,r=some g->o g=t)(k:Nat):Stp t o w (ext o w.heap.size k) w':=
 ⟨h.os,h.tape,h.output,h.size,λb a i=>h.block b a (λe=>i (f b e.symm)),λb a=>mi _ _ _ _ a⟩
class Rz (α:Type) [Rp α] where
  z:α
  zc:List Value
  rdz:∀(o:Tg)(w:World),Rp.rd o w zc z
instance:Rz Int:=⟨0,[.int .i64 0],λ_ _=>rfl⟩
instance:Rz Bool:=⟨false,[.bool false],λ_ _=>rfl⟩
instance {α:Type} [Rp α]:Rz (List α):=⟨[],[.slice none 0 0],λo w=>⟨_,rfl,RdL.nil o w⟩⟩
def EvL(l:List (Nat×Value)):List Operand->List Value->Prop
  |[],[]=>True
  |x::xs,v::vs=>ev l x=some v∧EvL l xs vs
  |_,_=>False
theorem EvL.map{l:List (Nat×Value)}{ρ:Operand->Value}(a:Agr ρ l):∀{xs:List Operand}{vs:List Value},EvL l xs vs->xs.map ρ=vs
 |[],[],_=>rfl
 |x::xs,v::vs,h=>by rw[bd,a x v h.1,EvL.map a h.2]
 |[],_::_,h=>h.elim
 |_::_,[],h=>h.elim
def EvP(l:List (Nat×Value)):List (Nat×Operand)->List (Nat×Value)->Prop
  |[],[]=>True
  |(i,x)::xs,(j,v)::vs=>i=j∧ev l x=some v∧EvP l xs vs
  |_,_=>False
theorem EvP.map{l:List (Nat×Value)}{ρ:Operand->Value}(a:Agr ρ l):∀{xs:List (Nat×Operand)}{vs:List (Nat×Value)},EvP l xs vs->(xs.map λp=>(p.1,ρ p.2))=vs
 |[],[],_=>rfl
 |(i,x)::xs,(j,v)::vs,h=>by
  obtain⟨rfl,e,b⟩:=h;rw[bd,a x v e,EvP.map a b]
 |[],_::_,h=>h.elim
 |_::_,[],h=>h.elim
section
variable {P:Program} {l:List (Nat×Value)} {w w0:World} {d:Option Nat} {ty:TypeId} {ps:String} {af:Array Edge} {g:Option (Nat×Bool)} {o:Tg} {α:Type} [Rp α]
theorem EF{f:FuncId}{xs:List Operand}{vs:List Value}{b:Array TypeId}(a:∀args w,(callFunc f args).run P w=.ok (.enter f args) w)(i:EvL l xs vs):
  ∀ρ,Agr ρ l->(execOp ρ ⟨d,.call {callee:=.value (.func f),args:=xs.toArray,argTypes:=b},ty,ps,af,g⟩).run P w=.ok (.enter f vs.toArray) w:=by
 intro ρ e;have h:ρ (.func f)=.func (.func f) #[] #[]:=e (.func f) _ rfl;simp only[execOp,resolve,aF,h,Deferred.ofValue,bt,aL,invoke,et,EvL.map e i];simp[a]
theorem oC{a:Option Addr}{n c:Nat}{xs q:List α}{lo hi:Int}(h:RdL o w (.slice a n c) xs)(s:cut xs lo hi=some q):
  RdL o w (sliced a lo.toNat hi.toNat c (Rp.sz α)) q∧n=xs.length∧0<=lo∧lo<=hi∧hi<=c∧hi<=n:=by
 obtain⟨H,I,e,F,G,E⟩:=h;cases e
 obtain⟨D,t,A,rfl⟩:=jE s;refine⟨?_,rfl,D,t,om,A⟩;have f:((xs.take hi.toNat).drop lo.toNat).length=hi.toNat-lo.toNat:=by simp;omega
 unfold sliced;refine⟨_,c-lo.toNat,by rw[f],by rw[f];omega,om,λi x p=>?_⟩
 ·have v:i<hi.toNat-lo.toNat:=by rw[<-f];exact(Y_.1 p).1
  rw[dV,bO,if_pos om] at p;obtain⟨b,off,cs,y,C,u,k,B⟩:=E _ x p;have m:¬c=lo.toNat:=om;rw[if_neg m,y];have j:(⟨b,off,none⟩:Addr).add (lo.toNat*Rp.sz α)=⟨b,off+lo.toNat*Rp.sz α,none⟩:=by
   unfold Addr.add;split
   ·rename_i h;rw[h];rfl
   ·rfl
  refine⟨b,off+lo.toNat*Rp.sz α,cs,by simp[j],C,u,?_,B⟩;rw[show off+lo.toNat*Rp.sz α+i*Rp.sz α=off+(lo.toNat+i)*Rp.sz α by rw[oL];omega];exact k
theorem ov{t e:TypeId}{a:Option Addr}{n c sz:Nat}{lo hi:Option Value}{lo' hi':Int}(p:P.underlying t=some (.slice e))(h:∀w,(sizeOf e).run P w=.ok sz w)
  (i:lo=some (.int .i64 lo')∨(lo=none∧lo'=0)) (j:hi=some (.int .i64 hi')∨(hi=none∧hi'=n)) (q:0<=lo') (k:lo'<=hi') (m:hi'<=c):
  (Instr.sliceAt t (.slice a n c) lo hi none).run P w=.ok (sliced a lo'.toNat hi'.toNat c sz) w:=by
 have f:P.elem t=e:=by simp[Program.elem,p]
 have b:P.underlying t=some (.slice (P.elem t)):=by rw[f];exact p
 rw[run_sliceAt_slice (P:=P) (w:=w) t _ _ _ _ b];rcases i with rfl|⟨rfl,rfl⟩<;>rcases j with rfl|⟨rfl,rfl⟩
 ·rw[run_slice_lh (P:=P) (w:=w) t a n c b _ _ _ _ q k m,f,h];rfl
 ·rw[run_slice_l (P:=P) (w:=w) t a n c b _ _ q k,f,h];simp[Result.andThen]
 ·rw[run_slice_h (P:=P) (w:=w) t a n c b _ _ om m,f,h];simp[Result.andThen]
 ·rw[run_slice_all (P:=P) (w:=w) t a n c b,f,h];simp[Result.andThen]
def EvB(l:List (Nat×Value))(x:Option Operand)(dflt i:Int):Prop:=
  match x with
  |none=>i=dflt
  |some x=>ev l x=some (.int .i64 i)
def RdC(o:Tg)(w:World):List Value->List α->Prop
  |cs,[]=>cs=[]
  |cs,x::xs=>∃c r,cs=c++r∧Rp.rd o w c x∧RdC o w r xs
theorem RdC.css{cs:List Value}{xs:List α}(h:RdC o w cs xs):∃css:List (List Value),css.length=xs.length∧css.flatten=cs∧∀(i:Nat) c x,css[i]? =some c->xs[i]? =some x->Rp.rd o w c x:=by
 induction xs generalizing cs with
 |nil=>exact⟨[],rfl,by simp[RdC] at h;simp[h],λi c x h=>by simp at h⟩
 |cons x xs ih=>
  obtain⟨c,r,rfl,f,k⟩:=h;obtain⟨css,e,p,n⟩:=ih k;refine⟨c::css,by simp[e],by simp[p],λi m j a b=>?_⟩;cases i with
  |zero=>simp at a b;subst a;subst b;exact f
  |succ i=>exact n i m j (su a) (su b)
theorem ox{B k:Nat}{e:TypeId}{cs:List Value}{xs:List α}(h:RdC o w cs xs)(t:B<=w.heap.size)(y:xs.length<=maxLen):
  Ow B e k (ext o w.heap.size k) (w.alloc (.cells cs.toArray e)) (.slice (some ⟨w.heap.size,0,none⟩) xs.length xs.length) xs:=by
 obtain⟨css,f,m,j⟩:=h.css;have a:=Ow.lens (e:=e) (B:=B) f j;have n:css.flatten.length=xs.length*Rp.sz α:=by
  rw[<-f];clear f m j
  induction css with
  |nil=>simp
  |cons c css ih=>rw[br,ar,ih (λx p=>a x (sh p)),a c sy,ao,dU];omega
 have v:Stp k o w (ext o w.heap.size k) (w.alloc (.cells cs.toArray e)):=en _ _ _ _ _;refine⟨css,f,?_,λg q=>?_,λi c x u p=>Rp.mv (j i c x u p) v.size λb s A=>⟨heap_alloc_old w _ s,by rw[mi _ _ _ _ s];exact A⟩⟩
 ·have:=World.ownsRow_lit (e:=e) (size:=Rp.sz α) (base:=B) w cs.toArray xs.length t y (by rw[oM,<-m,n]);rw[m];exact this
 ·simp[Value.ownBlock] at q;subst q;exact jI _ _ _ _ (K_ _)
theorem qx{t e:TypeId}{n sz:Nat}{z:Value}{a:List (Nat×Operand)}{vs:List (Nat×Value)}{cs:List Value}(k:P.underlying t=some (.slice e))(h:∀w,(sizeOf e).run P w=.ok sz w)
  (s:∀w,(zeroValue e).run P w=.ok z w) (u:n*sz<=16777216) (p:EvP l a vs)
  (b:Instr.fill (λi=>some (i*sz,sz)) ((Array.range (n*sz)).map ((if n*sz=0 then #[] else z.cells)[·%(if n*sz=0 then #[] else z.cells).size]!)) vs=some cs.toArray):
  ∀ρ,Agr ρ l->(execOp ρ ⟨d,.buildSlice t n a.toArray,ty,ps,af,g⟩).run P w=.ok (.value (.slice (some ⟨w.heap.size,0,none⟩) n n)) (w.alloc (.cells cs.toArray e)):=by
 intro ρ q;have j:(a.toArray.map λ(i,x)=>(i,ρ x)).toList=vs:=by simp[<-EvP.map q p]
 have m:¬n*sz>2^24:=om;by_cases f:n*sz=0
 ·simp only[if_pos f] at b;simp only[execOp,Instr.buildSlice,run_underlying k,aF,aL,h,m,if_false,if_pos f,j,b,bt,newRow,newObj];rfl
 ·simp only[if_neg f] at b;simp only[execOp,Instr.buildSlice,run_underlying k,aF,aL,h,m,if_false,if_neg f,s,j,b,bt,newRow,newObj];rfl
def Inf(P:Program)(e:TypeId)(z:Value)(sz bytes:Nat):Prop:=(P.info? e).map (λi=>(i.zero,i.size,i.bytes))=some (some z,sz,bytes)
theorem Bv(cs:List Value)(n:Nat)(e:0<cs.length):(madeCells cs.toArray (n*cs.length)).toList=(List.replicate n cs).flatten:=by
 induction n with
 |zero=>simp[madeCells]
 |succ n ih=>
  rw[xN,oN,<-ih];simp only[madeCells,Array.toList_map,Array.toList_range,br,List.flatten_nil,bm];rw[dU,List.range_add,ew,xO];congr 1;apply dr sy;intro i a b;simp at a;simp[xP a,a]
theorem Ei[Rz α]{B k:Nat}{t e:TypeId}{z:Value}{b:Nat}{x y:Operand}{n:Int}{h:List α}(I:ev l x=some (.int .i64 n))(J:ev l y=some (.int .i64 n))(G:mk (Rz.z:α) n=some h)
  (F:P.underlying t=some (.slice e)) (hi:Inf P e z (Rp.sz α) b) (E:z.cells=(Rz.zc (α:=α)).toArray) (hb:b<=1000) (hB:B<=w.heap.size):
  ∃w' a c,(∀ρ,Agr ρ l->(execOp ρ ⟨d,.makeSlice t x y,ty,ps,af,g⟩).run P w=.ok (.value (.slice a h.length c)) w')∧
   Ow B e k (ext o w.heap.size k) w' (.slice a h.length c) h∧Stp k o w (ext o w.heap.size k) w':=by
 obtain⟨D,K,rfl⟩:=wI G;obtain⟨H,A,p,v,j⟩:=info_parts hi;have f:(Rz.zc (α:=α)).length=Rp.sz α:=Rp.len (Rz.rdz (α:=α) o w);have s:=run_make (P:=P) w t e H z F A p .i64 .i64 n n D (N_ _) (by
  rw[j];have:=Int.mul_le_mul (show(b:Int)<=1000 by omega) (show n<=1000000000 by omega) D om;omega) om
 rw[v,E] at s;have q:(madeCells (Rz.zc (α:=α)).toArray (n.toNat*Rp.sz α))=((List.replicate n.toNat (Rz.zc (α:=α))).flatten).toArray:=by
  apply Fo.1;rw[<-f,Bv _ _ (by rw[f];exact Rp.pos)]
 rw[q] at s;have u:RdC o w (List.replicate n.toNat (Rz.zc (α:=α))).flatten (List.replicate n.toNat (Rz.z:α)):=by
  generalize n.toNat=m
  induction m with
  |zero=>simp[RdC]
  |succ m ih=>rw[mu,br,mu];exact⟨_,_,rfl,Rz.rdz o w,ih⟩
 have i:(List.replicate n.toNat (Rz.z:α)).length=n.toNat:=sy;refine⟨w.alloc (.cells (List.replicate n.toNat (Rz.zc (α:=α))).flatten.toArray e),some ⟨w.heap.size,0,none⟩,n.toNat,λρ C=>?_,?_,en _ _ _ _ _⟩
 ·simp only[execOp,C x _ I,C y _ J,aF,s,aL,i];rfl
 ·have:=ox (B:=B) (k:=k) (e:=e) u hB (by rw[i];simp only[maxLen];omega);rw[i] at this ⊢;exact this
theorem RdL.css{a:Option Addr}{m c:Nat}{zs:List α}(h:RdL o w (.slice a m c) zs):∃css:List (List Value),css.length=zs.length∧css.flatten.length=zs.length*Rp.sz α∧m=zs.length∧(a=none->m=0)∧
  (∀(i:Nat) cs x,css[i]? =some cs->zs[i]? =some x->Rp.rd o w cs x)∧(∀J,a=some J->∀j u,css.flatten[j]? =some u->w.cell? (J.add j)=some u):=by
 obtain⟨S,T,e,O,R,I⟩:=h;cases e
 have E:∀(q:List α)(k:Nat),(∀(i:Nat) x,q[i]? =some x->zs[k+i]? =some x)->∃css:List (List Value),css.length=q.length∧css.flatten.length=q.length*Rp.sz α∧
   (∀(i:Nat) cs x,css[i]? =some cs->q[i]? =some x->Rp.rd o w cs x)∧(∀b off,a=some ⟨b,off,none⟩->Cells w b (off+k*Rp.sz α) css.flatten):=by
  intro q
  induction q with
  |nil=>exact λk _=>⟨[],rfl,sy,λi cs x h=>by simp at h,λb off _ j u f=>by simp at f⟩
  | cons y q ih=>
   intro k K;obtain⟨css,D,H,G,F⟩:=ih (k+1) (λi x A=>by rw[show k+1+i=k+(i+1) by omega];exact K (i+1) x (su A));obtain⟨b,off,cs,n,U,Q,N,L⟩:=I k y (by have:=K 0 y rfl;simpa using this);have C:cs.length=Rp.sz α:=Rp.len L;refine⟨cs::css,by simp[D],by rw[br,ar,H,C,ao,dU];omega,λi c x p A=>?_,λV M s j u f=>?_⟩
   ·cases i with
    |zero=>simp at p A;subst p;subst A;exact L
    |succ i=>exact G i c x (su p) (su A)
   ·rw[n] at s;cases s;rw[br] at f;by_cases t:j<cs.length
    ·rw[bN t] at f;exact N j u f
    ·rw[cj om] at f;have:=F b off n (j-cs.length) u f;rw[C] at this t;rw[show off+k*Rp.sz α+j=off+(k+1)*Rp.sz α+(j-Rp.sz α) by rw[dU];omega];exact this
 obtain⟨css,D,H,G,F⟩:=E zs 0 (λi x h=>by simpa using h);refine⟨css,D,H,rfl,λe=>?_,G,λJ B j u f=>?_⟩
 ·cases zs with
  |nil=>rfl
  |cons z zs=>
   obtain⟨b,off,cs,n,_⟩:=I 0 z rfl;rw[e] at n;cases n
 cases zs with
 |nil=>
  have:css=[]:=cD (su D);subst this;simp at f
 | cons z zs=>
  obtain⟨b,off,cs,n,_⟩:=I 0 z rfl;rw[n] at B;cases B;have:=F b off n j u f;have v:(⟨b,off,none⟩:Addr).add j=⟨b,off+j,none⟩:=by
   unfold Addr.add;split
   ·rename_i h;rw[h];rfl
   ·rfl
  rw[v];simpa using this
theorem AQ{t a ty:TypeId}{v:Value}{m c:Nat}:Builtin.append_ #[t,a] ty #[v,.slice none m c]=Builtin.append_ #[t,a] ty #[v,.slice none m 0]:=by
 unfold Builtin.append_;simp[Builtin.lenOf,Builtin.firstCells,Builtin.mayShare,asInt,asIntOf]
theorem BQ{B k:Nat}{t e:TypeId}{z:Value}{b:Nat}{x y:Operand}{v:Value}{a:Option Addr}{m c:Nat}{xs zs H:List α}(hx:ev l x=some v)(hy:ev l y=some (.slice a m c))
  (D:Ow B e k o w v xs) {U:Tg} (hr:RdL U w (.slice a m c) zs) (K:∀cs x,Rp.rd U w cs (x:α)->Rp.rd o w cs x) (hc:cat xs zs=some H) (hk:k≠0)
  (ht:P.underlying t=some (.slice e)) (hi:Inf P e z (Rp.sz α) b) (O:z.cells.size=Rp.sz α) (hb:b<=1000) (hB:B<=w.heap.size):
  ∃w' I J,(∀ρ,Agr ρ l->(execOp ρ ⟨d,.call {callee:=.builtin .append,args:= #[x,y],argTypes:= #[t,t]},ty,ps,af,g⟩).run P w=.ok (.value (.slice I H.length J)) w')∧
   Ow B e k (ext o w.heap.size k) w' (.slice I H.length J) H∧Stp k o w (ext o w.heap.size k) w':=by
 obtain⟨h0,rfl⟩:=vH hc;obtain⟨i0,R,L,N,T⟩:=info_parts hi;obtain⟨css,S,e2,Z,V⟩:=D;obtain⟨j,f1,f2,rfl,f4,W,f6⟩:=hr.css;have E:∀u∈j.flatten,u.oneCell'=true:=by
  intro u n;obtain⟨cs,f,Q⟩:=ga.1 n;obtain⟨i,hi'⟩:=bS.1 f;have q:=(Y_.1 hi').1;exact Rp.one (W i cs _ hi' (x_ om)) u Q
 obtain⟨M,w',h,h1,h2,C,h4⟩:=Am (P:=P) w B t ty e i0 z (Rp.sz α) b ht R L N T O Rp.pos v xs.length css.flatten e2 a zs.length (if a=none then 0 else c) j.flatten f2 (λe=>⟨f4 e,if_pos e⟩) f6 E
  (by
   have:=mw h0 hb;omega) (by simp only[maxLen];omega) hB
 have A:(Builtin.append_ #[t,t] ty #[v,.slice a zs.length c]).run P w=.ok M w':=by
  cases a with
  |none=>rw[AQ];exact h
  |some ad=>exact h
 have F:Stp k o w (ext o w.heap.size k) w':=Cf h2 (λg G=>Z g G) k;have s:∀g,M.ownBlock=some g->ext o w.heap.size k g=k:=by
  intro g G;by_cases q:g<w.heap.size
  ·rw[mi _ _ _ _ q];rcases C with C|C
   ·exact Z g (by rw[<-C];exact G)
   ·have:=(C.lt g G).1;omega
  ·exact jI _ _ _ _ om
 have hcl:=Ow.lens (e:=e) (B:=B) S V;have p:Ow B e k (ext o w.heap.size k) w' M (xs++zs):=by
  refine⟨css++j,by simp[S,f1],by rw[oN,ar];exact h1,s,λi cs u f n=>?_⟩;refine Rp.stp ?_ F hk;by_cases hi':i<css.length
  ·rw[bN hi'] at f;rw[bN om] at n;exact V i cs u f n
  ·rw[cj om] at f;rw[cj om,<-S] at n;exact K _ _ (W _ cs u f n)
 obtain⟨I,J,Y⟩:=p.form;refine⟨w',I,J,λρ X=>?_,by rw[<-Y];exact p,F⟩;simp only[execOp,resolve,invoke,builtin,aF,bt,aL,et,bd,eu,X x _ hx,X y _ hy,A,Y]
end
end
section
section
variable {P:Program} {Q:Exit->Act->World->Prop} {n:Nat} {l:List (Nat×Value)} {w w0:World} {d:Option Nat} {ty:TypeId} {ps:String} {af:Array Edge} {g:Option (Nat×Bool)} {o:Tg} {α:Type} [Rp α]
def sub:List Nat->Code->Code
  |[],c=>c
  |0::p,.seq a _=>sub p a
  |_::p,.seq _ b=>sub p b
  |0::p,.cond _ a _=>sub p a
  |_::p,.cond _ _ b=>sub p b
  |_::p,.block _ c=>sub p c
  |_::p,.loop c=>sub p c
  |_::p,.scope c=>sub p c
  |_,c=>c
theorem C_{x:Operand}{t e:TypeId}{v:Value}{xs:List α}{j:Tg}{i:World}(f:ev l x=some v)(h:RdL j i v xs)(b:P.underlying t=some (.slice e)):
  ∀ρ,Agr ρ l->(execOp ρ ⟨d,.call {callee:=.builtin .len,args:= #[x],argTypes:= #[t]},ty,ps,af,g⟩).run P w=.ok (.value (.int .i64 xs.length)) w:=by
 obtain⟨a,c,rfl⟩:=h.form;exact qw f b
theorem aU{x:Operand}{t e i:TypeId}{B k:Nat}{v:Value}{xs:List α}(f:ev l x=some v)(h:Ow B i k o w v xs)(b:P.underlying t=some (.slice e)):
  ∀ρ,Agr ρ l->(execOp ρ ⟨d,.call {callee:=.builtin .len,args:= #[x],argTypes:= #[t]},ty,ps,af,g⟩).run P w=.ok (.value (.int .i64 xs.length)) w:=by
 obtain⟨a,c,rfl⟩:=h.form;exact qw f b
theorem xv{x y:Operand}{t e:TypeId}{v:Value}{xs:List α}{i:Int}{u:α}(A:ev l x=some v)(B:ev l y=some (.int .i64 i))(h:RdL o w v xs)(hi:ix xs i=some u)
  (p:P.underlying t=some (.slice e)) (k:∀w,(sizeOf e).run P w=.ok (Rp.sz α) w):
  ∃b off cs,(∀f ρ,Agr ρ l->(execOp ρ ⟨d,.indexAddr t x y,ty,ps,af,g⟩).run P f=.ok (.value (.pointer (some ⟨b,off,none⟩))) f)∧Cells w b off cs∧Rp.rd o w cs u:=by
 obtain⟨a,c,rfl⟩:=h.form;obtain⟨s,C,m⟩:=dR hi;obtain⟨b,off,cs,rfl,j,q,_⟩:=h.at m;exact⟨b,_,cs,λf=>jv A B s om p k,j,q⟩
theorem Fe{x y:Operand}{t e E:TypeId}{B k:Nat}{v:Value}{xs:List α}{i:Int}{u:α}(C:ev l x=some v)(D:ev l y=some (.int .i64 i))(h:Ow B E k o w v xs)(hi:ix xs i=some u)
  (q:P.underlying t=some (.slice e)) (m:∀w,(sizeOf e).run P w=.ok (Rp.sz α) w):
  ∃b off cs,(∀f ρ,Agr ρ l->(execOp ρ ⟨d,.indexAddr t x y,ty,ps,af,g⟩).run P f=.ok (.value (.pointer (some ⟨b,off,none⟩))) f)∧Cells w b off cs∧Rp.rd o w cs u:=by
 obtain⟨a,c,rfl⟩:=h.form;obtain⟨A,F,p⟩:=dR hi;obtain⟨b,cs,rfl,_,j,s,_⟩:=h.at p;exact⟨b,_,cs,λf=>jv C D A om q m,j,s⟩
theorem wo{t e:TypeId}{x:Operand}{lo hi:Option Operand}{v:Value}{xs m:List α}{lo' hi':Int}(D:ev l x=some v)(h:RdL o w v xs)
  (b:EvB l lo 0 lo') (f:EvB l hi xs.length hi') (q:cut xs lo' hi'=some m) (A:P.underlying t=some (.slice e)) (s:∀w,(sizeOf e).run P w=.ok (Rp.sz α) w):
  ∃k,(∀i ρ,Agr ρ l->(execOp ρ ⟨d,.slice t x lo hi none,ty,ps,af,g⟩).run P i=.ok (.value k) i)∧RdL o w k m:=by
 obtain⟨a,c,rfl⟩:=h.form;obtain⟨p,E,B,C,u,F⟩:=oC h q;refine⟨_,λi ρ j=>?_,p⟩
 have:=ov (P:=P) (w:=i) (a:=a) (n:=xs.length) (c:=c) (lo:=lo.map ρ) (hi:=hi.map ρ) (lo':=lo') (hi':=hi') A s
  (by cases lo with
    |none=>exact .inr ⟨rfl,b⟩
    |some y=>exact .inl (by simp[j y _ b]))
  (by cases hi with
    |none=>exact .inr ⟨rfl,f⟩
    |some y=>exact .inl (by simp[j y _ f])) B C u
 simp only[execOp,j x _ D,aF,this,aL,oO];rfl
theorem tq{B k:Nat}{t e:TypeId}{z:Value}{b:Nat}{x y:Operand}{v u:Value}{xs zs p:List α}(I:ev l x=some v)(J:ev l y=some u)
  (f:Ow B e k o w v xs) {q:Tg} (m:RdL q w u zs) (h:∀cs x,Rp.rd q w cs (x:α)->Rp.rd o w cs x) (C:cat xs zs=some p) (F:k≠0)
  (G:P.underlying t=some (.slice e)) (hi:Inf P e z (Rp.sz α) b) (i:z.cells.size=Rp.sz α) (D:b<=1000) (s:B<=w.heap.size):
  ∃w' j,(∀ρ,Agr ρ l->(execOp ρ ⟨d,.call {callee:=.builtin .append,args:= #[x,y],argTypes:= #[t,t]},ty,ps,af,g⟩).run P w=.ok (.value j) w')∧
   Ow B e k (ext o w.heap.size k) w' j p∧Stp k o w (ext o w.heap.size k) w':=by
 obtain⟨a,c,rfl⟩:=m.form;obtain⟨w',K,L,A,E,H⟩:=BQ (g:=g) (ps:=ps) (ty:=ty) (af:=af) (d:=d) I J f m h C F G hi i D s;exact⟨w',_,A,E,H⟩
omit [Rp α] in
theorem av{xs a:List α}{x:α}(h:push xs x=some a):cat xs [x]=some a:=by
 obtain⟨b,rfl⟩:=pJ h;unfold cat
 rw[if_pos (by simp only[ao,bD];omega)]
theorem EU{e:TypeId}{cs:List Value}{xs:List α}(h:RdC o w cs xs)(f:xs.length<=maxLen):
  RdL (ext o w.heap.size 0) (w.alloc (.cells cs.toArray e)) (.slice (some ⟨w.heap.size,0,none⟩) xs.length xs.length) xs:=by
 refine (ox (B:=0) (k:=0) (e:=e) h (bj _) f).freeze λb _ a=>?_;rcases a with a|a<;>exact a
theorem tj{t:TypeId}{a:Addr}{u:Value}(i:∀w,(sizeOf t).run P w=.ok 1 w)(j:u.cells= #[u])(e:u.oneCell'=true)(f:∃x,w.cell? a=some x)(m:w.frozen? a=false):
  (Instr.storeAt t (.pointer (some a)) u).run P w=.ok () (w.setCell a u):=by
 obtain⟨x,h⟩:=f;have b:=run_store P w a u .plain e;have k:a.add 0=a:=by simp[Addr.add]
 simp only[Instr.storeAt,Instr.sureAddr,storeVar,aF,bt,aL,i,j];simp[storeCells,k,b,h,m]
theorem qt{o:Tg}{w:World}{b i k:Nat}{u:Value}(a:o b=k):Stp k o w o (w.setCell ⟨b,i,none⟩ u):=by
 refine⟨rfl,rfl,rfl,by simp[World.setCell],λc h f=>?_,λ_ _=>rfl⟩;have:c≠b:=λe=>f (by rw[e];exact a);simp only[World.setCell];rw[gb,if_neg (V_ this)]
theorem BP{B k b i:Nat}{t e:TypeId}{x y:Operand}{u:Value}{cs:List Value}(v:ev l x=some (.pointer (some ⟨b,i,none⟩)))(A:ev l y=some u)(a:Bx B k o w b e cs)(hi:i<cs.length)
  (m:∀w,(sizeOf t).run P w=.ok 1 w) (q:u.cells= #[u]) (h:u.oneCell'=true):
  ∃w',(∀ρ,Agr ρ l->(execOp ρ ⟨none,.store t x y,ty,ps,af,g⟩).run P w=.ok .skip w')∧Bx B k o w' b e (cs.set i u)∧Stp k o w o w':=by
 have j:=a.cell (x_ hi);have s:w.frozen? ⟨b,i,none⟩=false:=by simp[World.frozen?,a.blk]
 have p:=tj (P:=P) m q h ⟨_,j⟩ s;refine⟨w.setCell ⟨b,i,none⟩ u,λρ f=>?_,⟨?_,a.tag,a.lo⟩,qt a.tag⟩
 ·simp only[execOp,f x _ v,f y _ A,aF,p,aL];rfl
 ·simp only[World.setCell];rw[gb,if_pos rfl,a.blk];simp
theorem CI{B k b:Nat}{t e:TypeId}{x y:Operand}{cs ds:List Value}(q:ev l x=some (.pointer (some ⟨b,0,none⟩)))(s:ev l y=some (.agg ds.toArray))(a:Bx B k o w b e cs)(j:ds.length=cs.length)
  (i:(P.info? t).map (·.size)=some ds.length) (h:∀u∈ds,u.oneCell'=true):
  ∃w',(∀ρ,Agr ρ l->(execOp ρ ⟨none,.store t x y,ty,ps,af,g⟩).run P w=.ok .skip w')∧Bx B k o w' b e ds∧Stp k o w o w':=by
 have m:=run_storeVar_row (P:=P) w b e t cs.toArray ds.toArray a.blk (su i) (sh j) (su h);refine⟨w.setRow b ds.toArray,λρ f=>?_,⟨?_,a.tag,a.lo⟩,⟨rfl,rfl,rfl,by simp[World.setRow],λc v p=>?_,λ_ _=>rfl⟩⟩
 ·simp only[execOp,f x _ q,f y _ s,Instr.storeAt,Instr.sureAddr,aF,bt,m,aL]
 ·simp only[World.setRow];rw[gb,if_pos rfl,a.blk];rfl
 ·have:c≠b:=λe=>p (by rw[e];exact a.tag);simp only[World.setRow];rw[gb,if_neg (V_ this)]
theorem Dx(css:List (List Value))(a:∀cs∈css,cs.length=1)(i:Nat)(u:Value):(css.set i [u]).flatten=css.flatten.set i u:=by
 induction css generalizing i with
 |nil=>simp
 |cons c css ih=>
  have b:=a c sy;obtain⟨z,rfl⟩:=oP.1 b;cases i with
  |zero=>simp
  |succ i=>simp[ih (λx e=>a x (sh e))]
theorem CK{B k b:Nat}{t e:TypeId}{x y:Operand}{v u:Value}{xs S:List α}{i:Int}{z:α}(m:Rp.sz α=1)(R:ev l x=some (.pointer (some ⟨b,0+i.toNat*Rp.sz α,none⟩)))(hy:ev l y=some u)
  (f:Ow B e k o w v xs) (J:v.ownBlock=some b) (hi:st xs i z=some S) (V:k≠0) (T:∀w,(sizeOf t).run P w=.ok 1 w) (X:u.cells= #[u]) (N:Rp.rd o w [u] z):
  ∃w',(∀ρ,Agr ρ l->(execOp ρ ⟨none,.store t x y,ty,ps,af,g⟩).run P w=.ok .skip w')∧Ow B e k o w' v S∧Stp k o w o w':=by
 obtain⟨h0,h1,rfl⟩:=wu hi;obtain⟨a,c,rfl⟩:=f.form;obtain⟨Z,cs,rfl,_,E,F,D⟩:=f.at (x_ (show i.toNat<xs.length by omega));simp[Value.ownBlock] at J;subst J;have G:cs.length=1:=by rw[Rp.len F,m]
 obtain⟨q,rfl⟩:=oP.1 G;rw[m,cm,an] at R D E;have A:u.oneCell'=true:=Rp.one N u sy;have W:=tj (P:=P) T X A ⟨_,G_ E⟩ D;obtain⟨css,I,Y,O,L⟩:=f;have s:=Ow.lens (e:=e) (B:=B) I L;rw[m] at s;obtain⟨g1,g2⟩:=Y.stored i.toNat u;have C:Stp k o w o (w.setCell ⟨Z,i.toNat,none⟩ u):=qt (O _ rfl);refine⟨_,λρ M=>?_,⟨css.set i.toNat [u],by simp[I],?_,O,λj H U p h=>?_⟩,C⟩
 ·simp only[execOp,M x _ R,M y _ hy,aF,W,aL];rfl
 ·rw[Dx _ s];simpa using g1
 ·rw[db] at p h;refine Rp.stp ?_ C V;by_cases K:i.toNat=j
  ·subst K;rw[if_pos rfl,if_pos om] at p;rw[if_pos rfl,if_pos om] at h;cases p;cases h;exact N
  ·rw[if_neg K] at p h;exact L j H U p h
def RsL(P:Program)(l:List (Nat×Value))(w:World):List ResultVar->List Value->Prop
  |[],[]=>True
  | .tmp t::r,v::vs=>Kn l t=some v∧RsL P l w r vs
  | .cell t T::r,v::vs=>(∃ad,Kn l t=some (.pointer (some ad))∧(loadVar T ad).run P w=.ok v w)∧RsL P l w r vs
  |_,_=>False
def rsv(tmps:Array Value):ResultVar->Sem Value
  | .tmp t=>Pure.pure (tmps.getD t undef)
  | .cell a t=>do loadVar t (<-asAddr (tmps.getD a undef))
theorem RsL.run{a:Act}(b:Fr a n l):∀{e:List ResultVar}{vs:List Value},RsL P l w e vs->(e.mapM (rsv a.tmps)).run P w=.ok vs w
 |[],[],_=>rfl
 | .tmp t::r,v::vs,h=>by
  have:=RsL.run b h.2;rw[List.mapM_cons];simp only[aF,rsv,bt,aL,b.get t v h.1,this]
 | .cell t T::r,v::vs,h=>by
  obtain⟨⟨m,j,f⟩,k⟩:=h;have:=RsL.run b k;have i:asAddr (a.tmps.getD t undef)=Pure.pure m:=by rw[b.get t _ j];rfl
  rw[List.mapM_cons];simp only[aF,rsv,i,bt,aL,f,this]
 |[],_::_,h=>h.elim
 | .tmp _::_,[],h=>h.elim
 | .cell _ _::_,[],h=>h.elim
def packed:List Value->Value
  |[v]=>v
  |vs=> .tuple vs.toArray
theorem AX(b:Func)(a:Array Value):results b a=(do let vs<-b.results.mapM (rsv a);Pure.pure (if h:vs.size=1 then vs[0] else .tuple vs)):=rfl
theorem J_{f:Func}{R:Ending->World->Prop}{e:List ResultVar}{vs:List Value}(b:f.results=e.toArray)(h:RsL P l w e vs)(m:R (.returned (packed vs)) w):∀a,Fr a n l->bodyPost P f R .ret a w:=by
 intro a i;refine⟨i.defers,packed vs,?_,m⟩;have k:=RsL.run i h;have j:(e.toArray.mapM (rsv a.tmps)).run P w=.ok vs.toArray w:=by
  rw[List.mapM_toArray,map_eq_pure_bind,aF,k];rfl
 rw[AX,b];simp only[aF,j,aL,bt]
 match vs with
 |[]=>rfl
 |[v]=>rfl
 |v::u::vs=>simp[packed]
theorem pZ{e:Func}{R:Ending->World->Prop}{f:List ResultVar}{vs:List Value}(b:e.results=f.toArray)(h:RsL P l w f vs)(i:R (.returned (packed vs)) w):∀a,Fr a n l->bodyPost P e R .normal a w:=J_ (P:=P) b h i
end
end
section
def forI{α σ ρ:Type}(body:Int->α->σ->Option (Lp σ σ ρ)):List α->Int->σ->Option (σ ⊕ ρ)
  |[],_,s=>some (.inl s)
  | x::xs,i,s=>match body i x s with
    |none=>none
    |some (.go s')=>forI body xs (i+1) s'
    |some (.out s')=>some (.inl s')
    |some (.ret r)=>some (.inr r)
def forN{σ ρ:Type}(body:Int->σ->Option (Lp σ σ ρ)):Nat->Int->σ->Option (σ ⊕ ρ)
  |0,_,s=>some (.inl s)
  | k+1,i,s=>match body i s with
    |none=>none
    |some (.go s')=>forN body k (i+1) s'
    |some (.out s')=>some (.inl s')
    |some (.ret r)=>some (.inr r)
def Hands{σ ρ:Type}(next:σ->Prop)(res:σ ⊕ ρ):Lp σ σ ρ->Prop
  | .go s=>next s
  | .out s=>res=.inl s
  | .ret r=>res=.inr r
theorem ai{α σ ρ:Type}{body:Int->α->σ->Option (Lp σ σ ρ)}{xs:List α}{i:Int}{s:σ}{a:σ ⊕ ρ}(f:0<=i)(j:i<xs.length)(h:forI body (xs.drop i.toNat) i s=some a):
  ∃x q,ix xs i=some x∧body i x s=some q∧Hands (λs'=>forI body (xs.drop (i+1).toNat) (i+1) s'=some a) a q:=by
 have e:i.toNat<xs.length:=om;rw[dt e] at h;refine⟨xs[i.toNat],?_⟩;simp only[forI] at h;rw[show(i+1).toNat=i.toNat+1 by omega];cases b:body i xs[i.toNat] s with
 |none=>rw[b] at h;cases h
 |some q=>
  rw[b] at h;refine⟨q,by unfold ix;rw[if_pos f,x_ e],rfl,?_⟩;cases q with
  |go s'=>exact h
  |out s'=>cases h;rfl
  |ret r=>cases h;rfl
theorem ak{α σ ρ:Type}{body:Int->α->σ->Option (Lp σ σ ρ)}{xs:List α}{i:Int}{s:σ}{a:σ ⊕ ρ}(b:¬i<xs.length)(h:forI body (xs.drop i.toNat) i s=some a):a=.inl s:=by
 rw[Fp om] at h;cases h;rfl
theorem bB{σ ρ:Type}{body:Int->σ->Option (Lp σ σ ρ)}{n i:Int}{s:σ}{a:σ ⊕ ρ}(e:i<n)(h:forN body (n-i).toNat i s=some a):
  ∃q,body i s=some q∧Hands (λs'=>forN body (n-(i+1)).toNat (i+1) s'=some a) a q:=by
 rw[show(n-i).toNat=(n-(i+1)).toNat+1 by omega] at h;simp only[forN] at h;cases b:body i s with
 |none=>rw[b] at h;cases h
 |some q=>
  rw[b] at h;refine⟨q,rfl,?_⟩;cases q with
  |go s'=>exact h
  |out s'=>cases h;rfl
  |ret r=>cases h;rfl
theorem bA{σ ρ:Type}{body:Int->σ->Option (Lp σ σ ρ)}{n i:Int}{s:σ}{a:σ ⊕ ρ}(b:¬i<n)(h:forN body (n-i).toNat i s=some a):a=.inl s:=by
 rw[show(n-i).toNat=0 by omega] at h;cases h;rfl
theorem aC{σ ρ:Type}{step:σ->Option (Lp σ σ ρ)}{k:Nat}{s:σ}{a:σ ⊕ ρ}(h:loopF step k s=some a):
  ∃k' q,k=k'+1∧step s=some q∧Hands (λs'=>loopF step k' s'=some a) a q:=by
 obtain⟨k',q,e,f,b⟩:=BT h;refine⟨k',q,e,f,?_⟩;rcases b with⟨s',rfl,h⟩|⟨t,rfl,h⟩|⟨r,rfl,h⟩<;>exact h
def Po(M N:Act->World->Prop)(E:Nat->Act->World->Prop):Exit->Act->World->Prop
  | .normal,a,w=>M a w
  | .ret,a,w=>N a w
  | .exit i,a,w=>E i a w
  |_,_,_=>False
def noE:Nat->Act->World->Prop:=λ_ _ _=>False
section
variable {P:Program} {Q Q':Exit->Act->World->Prop} {n:Nat} {l:List (Nat×Value)} {w w0:World} {o oo:Tg} {α:Type}
theorem eX{x y:Code}(M N:Act->World->Prop)(f:wpC P x (Po M N noE) n l w)(b:∀a w,M a w->y.wp P Q a w)(j:∀a w,N a w->Q .ret a w):wpC P (.seq x y) Q n l w:=
 b_ (vu f λe a w h=>by
  cases e with
  |normal=>exact b a w h
  |ret=>exact j a w h
  |exit i=>exact h.elim
  |goto i=>exact h.elim
  |panic c=>exact h.elim
  |outgrown=>exact h.elim)
theorem nx{y:Code}(h:wpC P y Q n l w):∀a,Fr a n l->Exit.then (y.wp P Q) Q' .normal a w:=h
theorem g_{K:Act->World->Prop}{i:Nat}(h:∀a,Fr a n l->Q (.exit i) a w):∀a,Fr a n l->Exit.then K Q (.exit i) a w:=h
theorem t_{K:Act->World->Prop}(h:∀a,Fr a n l->Q .ret a w):∀a,Fr a n l->Exit.then K Q .ret a w:=h
theorem v_{K:Act->World->Prop}(h:∀a,Fr a n l->K a w):∀a,Fr a n l->Exit.then K Q .normal a w:=h
theorem w_{i:Nat}(h:∀a,Fr a n l->Q .normal a w):∀a,Fr a n l->Exit.inBlock i Q .normal a w:=h
theorem L_{i:Nat}(h:∀a,Fr a n l->Q .ret a w):∀a,Fr a n l->Exit.inBlock i Q .ret a w:=h
theorem A_{i:Nat}(h:∀a,Fr a n l->Q .normal a w):∀a,Fr a n l->Exit.inBlock i Q (.exit i) a w:=λa b=>by
 show(if i=i then _ else _);rw[if_pos rfl];exact h a b
theorem oA{i j:Nat}(b:j≠i)(h:∀a,Fr a n l->Q (.exit j) a w):∀a,Fr a n l->Exit.inBlock i Q (.exit j) a w:=λa e=>by
 show(if j=i then _ else _);rw[if_neg b];exact h a e
theorem r_{M N:Act->World->Prop}{E:Nat->Act->World->Prop}(h:∀a,Fr a n l->M a w):∀a,Fr a n l->Po M N E .normal a w:=h
theorem aB{M N:Act->World->Prop}{E:Nat->Act->World->Prop}(h:∀a,Fr a n l->N a w):∀a,Fr a n l->Po M N E .ret a w:=h
variable [Rp α] {ops:Array Oper} {rest:List Oper} {d:Nat} {ty:TypeId} {ps:String} {af:Array Edge} {g:Option (Nat×Bool)} {R:Value->World->Prop}
theorem Cells.keep{b off:Nat}{cs:List Value}(h:Cells w0 b off cs)(k:Keeps w0 w):Cells w b off cs:=λj v a=>l_ k (h j v a)
theorem bR{x y:Operand}{t e:TypeId}{v:Value}{xs:List α}{i:Int}{u:α}(h:RdL o w v xs)(hi:ix xs i=some u)(p:ev l x=some v)(q:ev l y=some (.int .i64 i))
  (k:P.underlying t=some (.slice e)) (j:∀w,(sizeOf e).run P w=.ok (Rp.sz α) w)
  (h:∀b off cs,Cells w b off cs->Rp.rd o w cs u->R (.pointer (some ⟨b,off,none⟩)) w):op1 P ⟨some d,.indexAddr t x y,ty,ps,af,g⟩ n l w R:=by
 obtain⟨b,off,cs,m,f,a⟩:=xv (ps:=ps) (ty:=ty) (af:=af) (d:=some d) (g:=g) p q (by assumption) hi k j;exact M_ (m w) (h b off cs f a)
theorem wf_atZ{x y:Operand}{t e:TypeId}{v:Value}{xs:List α}{i:Int}{u:α}(h:RdL zt w0 v xs)(hi:ix xs i=some u)(f:Bs oo o w0 w)(q:ev l x=some v)(s:ev l y=some (.int .i64 i))
  (m:P.underlying t=some (.slice e)) (k:∀w,(sizeOf e).run P w=.ok (Rp.sz α) w)
  (h:∀b off cs,Cells w b off cs->Rp.rd zt w0 cs u->R (.pointer (some ⟨b,off,none⟩)) w):op1 P ⟨some d,.indexAddr t x y,ty,ps,af,g⟩ n l w R:=by
 obtain⟨b,off,cs,p,j,a⟩:=xv (ps:=ps) (ty:=ty) (af:=af) (d:=some d) (g:=g) q s (by assumption) hi m k;exact M_ (p w) (h b off cs (j.keep f.keeps) a)
theorem ci{x y:Operand}{t e A:TypeId}{B k:Nat}{v:Value}{xs:List α}{i:Int}{u:α}(h:Ow B A k o w v xs)(hi:ix xs i=some u)(q:ev l x=some v)(s:ev l y=some (.int .i64 i))
  (m:P.underlying t=some (.slice e)) (j:∀w,(sizeOf e).run P w=.ok (Rp.sz α) w)
  (h:∀b off cs,Cells w b off cs->Rp.rd o w cs u->R (.pointer (some ⟨b,off,none⟩)) w):op1 P ⟨some d,.indexAddr t x y,ty,ps,af,g⟩ n l w R:=by
 obtain⟨b,off,cs,p,f,a⟩:=Fe (ps:=ps) (ty:=ty) (af:=af) (d:=some d) (g:=g) q s (by assumption) hi m j;exact M_ (p w) (h b off cs f a)
theorem jL{t e:TypeId}{x:Operand}{lo hi:Option Operand}{v:Value}{xs i:List α}{lo' hi':Int}(h:RdL o w v xs)(j:cut xs lo' hi'=some i)(s:ev l x=some v)
  (b:EvB l lo 0 lo') (f:EvB l hi xs.length hi') (p:P.underlying t=some (.slice e)) (k:∀w,(sizeOf e).run P w=.ok (Rp.sz α) w)
  (h:∀a,RdL o w a i->R a w):op1 P ⟨some d,.slice t x lo hi none,ty,ps,af,g⟩ n l w R:=by
 obtain⟨a,q,m⟩:=wo (ps:=ps) (ty:=ty) (af:=af) (d:=some d) (g:=g) s (by assumption) b f j p k;exact M_ (q w) (h a m)
theorem mh{t e:TypeId}{x:Operand}{lo hi:Option Operand}{v:Value}{xs i:List α}{lo' hi':Int}(h:RdL zt w0 v xs)(j:cut xs lo' hi'=some i)(s:ev l x=some v)
  (b:EvB l lo 0 lo') (f:EvB l hi xs.length hi') (p:P.underlying t=some (.slice e)) (k:∀w,(sizeOf e).run P w=.ok (Rp.sz α) w)
  (h:∀a,RdL zt w0 a i->R a w):op1 P ⟨some d,.slice t x lo hi none,ty,ps,af,g⟩ n l w R:=by
 obtain⟨a,q,m⟩:=wo (ps:=ps) (ty:=ty) (af:=af) (d:=some d) (g:=g) s (by assumption) b f j p k;exact M_ (q w) (h a m)
theorem Z_{x:Operand}{t:TypeId}{v:Value}{cs:List Value}(B k:Nat)(e:B<=w.heap.size)(f:v.cells=cs.toArray)(i:ev l x=some v)
  (h:∀a w' b,Bx B k a w' b t cs->Stp k o w a w'->R (.pointer (some ⟨b,0,none⟩)) w'):op1 P ⟨some d,.box t x,ty,ps,af,g⟩ n l w R:=
 M_ (Fh i) (h (ext o w.heap.size k) _ _ (by rw[f];exact⟨heap_alloc_new w _,jI _ _ _ _ (K_ _),e⟩) (en _ _ _ _ _))
theorem au{t:TypeId}{z:Value}{cs:List Value}(B k:Nat)(e:B<=w.heap.size)(f:∀w,(zeroValue t).run P w=.ok z w)(i:z.cells=cs.toArray)
  (h:∀a w' b,Bx B k a w' b t cs->Stp k o w a w'->R (.pointer (some ⟨b,0,none⟩)) w'):op1 P ⟨some d,.alloc t,ty,ps,af,g⟩ n l w R:=
 M_ (DK f) (h (ext o w.heap.size k) _ _ (by rw[i];exact⟨heap_alloc_new w _,jI _ _ _ _ (K_ _),e⟩) (en _ _ _ _ _))
theorem ap{t e:TypeId}{m sz:Nat}{z:Value}{a:List (Nat×Operand)}{vs:List (Nat×Value)}{cs:List Value}{xs:List α}(b:RdC o w cs xs)(v:m=xs.length)(q:EvP l a vs)
  (u:P.underlying t=some (.slice e)) (p:∀w,(sizeOf e).run P w=.ok sz w) (s:∀w,(zeroValue e).run P w=.ok z w) (f:m*sz<=16777216)
  (x:Instr.fill (λi=>some (i*sz,sz)) ((Array.range (m*sz)).map ((if m*sz=0 then #[] else z.cells)[·%(if m*sz=0 then #[] else z.cells).size]!)) vs=some cs.toArray) (y:xs.length<=1000000)
  (h:∀j w' k,RdL j w' k xs->Stp 999 o w j w'->Keeps w w'->R k w'):op1 P ⟨some d,.buildSlice t m a.toArray,ty,ps,af,g⟩ n l w R:=by
 subst v;exact M_ (qx u p s f q x) (h _ _ _ (EU (e:=e) b (by simp only[maxLen];omega)) (en _ _ _ _ _) ((Keeps.refl _).alloc _))
theorem dn{t e:TypeId}{m sz:Nat}{z:Value}{a:List (Nat×Operand)}{vs:List (Nat×Value)}{cs:List Value}{xs:List α}(B k:Nat)(q:B<=w.heap.size)(b:RdC o w cs xs)(y:m=xs.length)(u:EvP l a vs)
  (x:P.underlying t=some (.slice e)) (s:∀w,(sizeOf e).run P w=.ok sz w) (v:∀w,(zeroValue e).run P w=.ok z w) (f:m*sz<=16777216)
  (A:Instr.fill (λi=>some (i*sz,sz)) ((Array.range (m*sz)).map ((if m*sz=0 then #[] else z.cells)[·%(if m*sz=0 then #[] else z.cells).size]!)) vs=some cs.toArray) (C:xs.length<=1000000)
  (h:∀j w' p,Ow B e k j w' p xs->Stp k o w j w'->R p w'):op1 P ⟨some d,.buildSlice t m a.toArray,ty,ps,af,g⟩ n l w R:=by
 subst y;exact M_ (qx x s v f u A) (h _ _ _ (ox (e:=e) b q (by simp only[maxLen];omega)) (en _ _ _ _ _))
theorem dQ[Rz α]{t e:TypeId}{z:Value}{b:Nat}{x y:Operand}{m:Int}{j:List α}(B k:Nat)(p:B<=w.heap.size)(C:mk (Rz.z:α) m=some j)(D:ev l x=some (.int .i64 m))(E:ev l y=some (.int .i64 m))
  (v:P.underlying t=some (.slice e)) (hi:Inf P e z (Rp.sz α) b) (u:z.cells=(Rz.zc (α:=α)).toArray) (hb:b<=1000)
  (h:∀f w' i,Ow B e k f w' i j->Stp k o w f w'->R i w'):op1 P ⟨some d,.makeSlice t x y,ty,ps,af,g⟩ n l w R:=by
 obtain⟨w',a,c,A,q,s⟩:=Ei (o:=o) (ps:=ps) (ty:=ty) (af:=af) (d:=some d) (g:=g) (B:=B) (k:=k) D E C v hi u hb p;exact M_ A (h _ _ _ q s)
theorem am{B k:Nat}{t e:TypeId}{z:Value}{a:Nat}{x y:Operand}{v u:Value}{xs zs p:List α}(b:Ow B e k o w v xs)(j:RdL o w u zs)(A:cat xs zs=some p)(E:k≠0)(q:B<=w.heap.size)(G:ev l x=some v)(H:ev l y=some u)
  (F:P.underlying t=some (.slice e)) (hi:Inf P e z (Rp.sz α) a) (f:z.cells.size=Rp.sz α) (C:a<=1000)
  (h:∀m w' i,Ow B e k m w' i p->Stp k o w m w'->R i w'):op1 P ⟨some d,.call {callee:=.builtin .append,args:= #[x,y],argTypes:= #[t,t]},ty,ps,af,g⟩ n l w R:=by
 obtain⟨w',i,j,s,D⟩:=tq (ps:=ps) (ty:=ty) (af:=af) (d:=some d) (g:=g) G H b j (λ_ _ h=>h) A E F hi f C q;exact M_ j (h _ _ _ s D)
theorem ol{B k:Nat}{t e:TypeId}{z:Value}{a:Nat}{x y:Operand}{v u:Value}{xs zs q:List α}(b:Ow B e k o w v xs)(m:RdL zt w u zs)(C:cat xs zs=some q)(F:k≠0)(s:B<=w.heap.size)
  (f:∀cs x,Rp.rd zt w cs (x:α)->Rp.rd o w cs x) (H:ev l x=some v) (I:ev l y=some u)
  (G:P.underlying t=some (.slice e)) (hi:Inf P e z (Rp.sz α) a) (i:z.cells.size=Rp.sz α) (D:a<=1000)
  (h:∀p w' j,Ow B e k p w' j q->Stp k o w p w'->R j w'):op1 P ⟨some d,.call {callee:=.builtin .append,args:= #[x,y],argTypes:= #[t,t]},ty,ps,af,g⟩ n l w R:=by
 obtain⟨w',j,m,A,E⟩:=tq (ps:=ps) (ty:=ty) (af:=af) (d:=some d) (g:=g) H I b m f C F G hi i D s;exact M_ m (h _ _ _ A E)
theorem bG{B k b i:Nat}{t e:TypeId}{x y:Operand}{u:Value}{cs:List Value}(f:Bx B k o w b e cs)(s:ev l x=some (.pointer (some ⟨b,i,none⟩)))(v:ev l y=some u)(hi:i<cs.length)
  (j:∀w,(sizeOf t).run P w=.ok 1 w) (q:u.cells= #[u]) (a:u.oneCell'=true)
  (h:∀w',Bx B k o w' b e (cs.set i u)->Stp k o w o w'->R undef w'):op1 P ⟨none,.store t x y,ty,ps,af,g⟩ n l w R:=by
 obtain⟨w',p,a,m⟩:=BP (P:=P) (ps:=ps) (ty:=ty) (af:=af) (g:=g) s v f hi j q a;exact qi p (h w' a m)
theorem X_{B k b:Nat}{t e:TypeId}{x y:Operand}{cs ds:List Value}(f:Bx B k o w b e cs)(q:ev l x=some (.pointer (some ⟨b,0,none⟩)))(s:ev l y=some (.agg ds.toArray))(j:ds.length=cs.length)
  (i:(P.info? t).map (·.size)=some ds.length) (a:∀u∈ds,u.oneCell'=true)
  (h:∀w',Bx B k o w' b e ds->Stp k o w o w'->R undef w'):op1 P ⟨none,.store t x y,ty,ps,af,g⟩ n l w R:=by
 obtain⟨w',p,a,m⟩:=CI (P:=P) (ps:=ps) (ty:=ty) (af:=af) (g:=g) q s f j i a;exact qi p (h w' a m)
theorem bH{B k b:Nat}{t e:TypeId}{x y:Operand}{v u:Value}{xs j:List α}{i:Int}{z:α}(a:Ow B e k o w v xs)(q:v.ownBlock=some b)(hi:st xs i z=some j)(A:Rp.rd o w [u] z)(C:k≠0)(f:Rp.sz α=1)
  (F:ev l x=some (.pointer (some ⟨b,0+i.toNat*Rp.sz α,none⟩))) (G:ev l y=some u) (p:∀w,(sizeOf t).run P w=.ok 1 w) (E:u.cells= #[u])
  (h:∀w',Ow B e k o w' v j->Stp k o w o w'->R undef w'):op1 P ⟨none,.store t x y,ty,ps,af,g⟩ n l w R:=by
 obtain⟨w',D,m,s⟩:=CK (P:=P) (ps:=ps) (ty:=ty) (af:=af) (g:=g) f F G a q hi C p E A;exact qi D (h w' m s)
theorem j_{f:FuncId}{xs:List Operand}{vs:List Value}{b:Array TypeId}{C:Ending->World->Prop}(i:Calls P f vs.toArray w C)(a:∀args w,(callFunc f args).run P w=.ok (.enter f args) w)(j:EvL l xs vs)
  (h:∀e w',C e w'->∃v,e=.returned v∧R v w'):op1 P ⟨some d,.call {callee:=.value (.func f),args:=xs.toArray,argTypes:=b},ty,ps,af,g⟩ n l w R:=
 nQ (EF a j) i h
def rtg(k k':Nat)(o:Tg):Tg:=λb=>if o b=k then k' else if o b=k' then 0 else o b
theorem Ow.rtg{B k:Nat}{e:TypeId}{v:Value}{xs:List α}(h:Ow B e k o w v xs)(k':Nat)(p:k≠0):Ow B e k' (Go.Proofs.YtpefhaamcihneaaGreat.rtg k k' o) w v xs:=by
 obtain⟨css,f,j,q,s⟩:=h;refine⟨css,f,j,λg m=>by unfold Go.Proofs.YtpefhaamcihneaaGreat.rtg;rw[if_pos (q g m)],λi cs x a b=>Rp.mv (s i cs x a b) (K_ _) λb _ t=>⟨rfl,?_⟩⟩;unfold Go.Proofs.YtpefhaamcihneaaGreat.rtg;rw[t,if_neg (V_ p)];split<;>rfl
theorem Ow.rtg_ne{B j k k':Nat}{e:TypeId}{v:Value}{xs:List α}(h:Ow B e j o w v xs)(f:j≠k)(p:j≠k')(t:k≠0):Ow B e j (Go.Proofs.YtpefhaamcihneaaGreat.rtg k k' o) w v xs:=by
 obtain⟨css,y,m,u,s⟩:=h;refine⟨css,y,m,λg q=>by unfold Go.Proofs.YtpefhaamcihneaaGreat.rtg;rw[u g q,if_neg f,if_neg p],λi cs x a b=>Rp.mv (s i cs x a b) (K_ _) λb _ A=>⟨rfl,?_⟩⟩;unfold Go.Proofs.YtpefhaamcihneaaGreat.rtg;rw[A,if_neg (V_ t)];split<;>rfl
theorem RdL.rtg{v:Value}{xs:List α}(h:RdL o w v xs)(k k':Nat)(e:k≠0):RdL (Go.Proofs.YtpefhaamcihneaaGreat.rtg k k' o) w v xs:=h.mv (K_ _) λb _ a=>⟨rfl,by
 unfold Go.Proofs.YtpefhaamcihneaaGreat.rtg;rw[a,if_neg (V_ e)];split<;>rfl⟩
omit [Rp α] in
theorem Bx.rtg_ne{B j k k' b:Nat}{e:TypeId}{cs:List Value}(h:Bx B j o w b e cs)(f:j≠k)(a:j≠k'):Bx B j (Go.Proofs.YtpefhaamcihneaaGreat.rtg k k' o) w b e cs:=
 ⟨h.blk,by unfold Go.Proofs.YtpefhaamcihneaaGreat.rtg;rw[h.tag,if_neg f,if_neg a],h.lo⟩
omit [Rp α] in
omit [Rp α] in
theorem Bs.rtg(h:Bs oo o w0 w)(k k':Nat)(f:2<=k)(a:2<=k'):Bs oo (Go.Proofs.YtpefhaamcihneaaGreat.rtg k k' o) w0 w:=⟨h.keeps,λb e=>by
 have:=h.old b e;unfold Go.Proofs.YtpefhaamcihneaaGreat.rtg;rw[<-this,if_neg,if_neg]
 ·split at this<;>omega
 ·split at this<;>omega⟩
theorem bI{x y:Operand}{t e f:TypeId}{B k:Nat}{v:Value}{xs:List α}{i:Int}{u:α}(h:Ow B f k o w v xs)(hi:ix xs i=some u)(D:ev l x=some v)(E:ev l y=some (.int .i64 i))
  (s:P.underlying t=some (.slice e)) (p:∀w,(sizeOf e).run P w=.ok (Rp.sz α) w)
  (h:∀b cs,v.ownBlock=some b->Cells w b (0+i.toNat*Rp.sz α) cs->Rp.rd o w cs u->R (.pointer (some ⟨b,0+i.toNat*Rp.sz α,none⟩)) w):op1 P ⟨some d,.indexAddr t x y,ty,ps,af,g⟩ n l w R:=by
 rename_i j;obtain⟨a,c,rfl⟩:=Ow.form (by assumption:Ow B f k o w v xs);obtain⟨C,F,q⟩:=dR hi;obtain⟨b,cs,rfl,_,m,A,_⟩:=Ow.at (by assumption:Ow B f k o w _ xs) q;exact M_ (jv D E C om s p) (h b cs rfl m A)
theorem fW{v:Value}{xs:List α}(h:RdL o w v xs):Rp.rd o w [v] xs:=⟨v,rfl,h⟩
theorem RdL.cells1{v:Value}{xs:List α}(h:RdL o w v xs):v.cells= #[v]:=by obtain⟨a,c,rfl⟩:=h.form;rfl
theorem Ow.cells1{B k:Nat}{e:TypeId}{v:Value}{xs:List α}(h:Ow B e k o w v xs):v.cells= #[v]:=by obtain⟨a,c,rfl⟩:=h.form;rfl
theorem RdL.one1{v:Value}{xs:List α}(h:RdL o w v xs):v.oneCell'=true:=by obtain⟨a,c,rfl⟩:=h.form;rfl
theorem Ow.one1{B k:Nat}{e:TypeId}{v:Value}{xs:List α}(h:Ow B e k o w v xs):v.oneCell'=true:=by obtain⟨a,c,rfl⟩:=h.form;rfl
omit [Rp α]
theorem lB{M:Act->World->Prop}:∀{xs f:List Oper}{a:Act}{w:World},wpList P ops (Po M (λ_ _=>False) noE) xs a w->(∀a w,M a w->wpList P ops Q f a w)->wpList P ops Q (xs++f) a w
 |[],f,a,w,h,k=>k a w h
 | o::xs,f,a,w,h,k=>by
  unfold wpList at h;show wpList P ops Q (o::(xs++f)) a w;unfold wpList;split
  ·rename_i i;rw[if_pos i] at h;rcases h with h|⟨_,h⟩
   ·refine .inl ?_;unfold Oper.wp at*
    generalize (execOp a.eval o).run P w=r at*
    cases r with
    | ok x w'=>
     cases x<;>simp only[Oper.upon] at h ⊢<;>
      first
       |exact lB h k
       | exact ms h (λe j b=>by
         cases e with
         |returned v=>exact lB b k
         |panicked c=>exact(b:False).elim
         |outgrown=>obtain⟨_,_,m⟩:=b;exact(m:False).elim)
       |exact Rows.mono h (λ_ _ b=>lB b k)
       |exact h
    |halt x w'=>cases x<;>simp only[Oper.upon] at h ⊢<;>first|exact(h:False).elim|exact h
   ·obtain⟨_,_,h⟩:=h;exact(h:False).elim
  ·rename_i i;rw[if_neg i] at h;exact lB h k
theorem bp(m:Nat)(M:Act->World->Prop){xs:List Oper}(e:wpF P ops (Po M (λ_ _=>False) noE) (xs.take m) n l w)(b:∀a w,M a w->wpList P ops Q (xs.drop m) a w):wpF P ops Q xs n l w:=λa f=>by
 have:=lB (e a f) b;rwa [mx] at this
theorem O_{xs:List Oper}{a:Act}(b:Fr a n l)(h:wpF P ops Q xs n l w):wpList P ops Q xs a w:=h a b
theorem q_{c:Code}{a:Act}(b:Fr a n l)(h:wpC P c Q n l w):c.wp P Q a w:=h a b
theorem ap_k{K:Act->World->Prop}{a:Act}(b:Fr a n l)(h:∀a,Fr a n l->K a w):K a w:=h a b
theorem D_{x:Code}(M N:Act->World->Prop)(f:wpC P x (Po M N noE) n l w)(b:∀a w,M a w->Q .normal a w)(j:∀a w,N a w->Q .ret a w):wpC P x Q n l w:=
 vu f λe a w h=>by
  cases e with
  |normal=>exact b a w h
  |ret=>exact j a w h
  |exit i=>exact h.elim
  |goto i=>exact h.elim
  |panic c=>exact h.elim
  |outgrown=>exact h.elim
def enumA:Nat->List Value->List (Nat×Value)
  |_,[]=>[]
  |i,v::vs=>(i,v)::enumA (i+1) vs
theorem tW:∀{vs:List Value}{i t:Nat}{v:Value},Kn (enumA i vs) t=some v->i<=t∧vs[t-i]? =some v
 |[],i,t,v,h=>by simp[enumA,Kn] at h
 |u::vs,i,t,v,h=>by
  simp only[enumA,Kn] at h;split at h
  ·rename_i e;subst e;cases h;exact⟨K_ _,by simp⟩
  ·rename_i e;obtain⟨b,a⟩:=tW h;refine⟨om,?_⟩;rw[show t-i=(t-(i+1))+1 by omega,Fq];exact a
theorem y_{f:FuncId}{a:Func}{c:Code}{vs:List Value}{R:Ending->World->Prop}(m:P.funcs[f]? =some a)(k:a.body=some c)(j:vs.length+(a.ntmps-vs.length)=n)
  (h:wpC P c (bodyPost P a R) n (enumA 0 vs) w):Calls P f vs.toArray w R:=by
 refine BY m k (su j) (λt v i=>?_) h;obtain⟨_,b⟩:=tW i;rw[du] at b;have e:=(Y_.1 b).1;simp only[dq];rw[Array.getElem?_append_left (su e)];simp[b]
theorem ay{t:TypeId}{b k:Nat}{cs:List Value}(a:∀w,(isAgg t).run P w=.ok true w)(h:∀w,(sizeOf t).run P w=.ok k w)(i:cs.length=k)(f:Cells w b 0 cs):(loadVar t ⟨b,0,none⟩).run P w=.ok (.agg cs.toArray) w:=by
 subst i;have:=pd (P:=P) (w:=w) (b:=b) (off:=0) cs 0 #[] (su f);have e:(loadCells ⟨b,0,none⟩ cs.length).run P w=.ok cs.toArray w:=by simpa [loadCells] using this
 simp only[loadVar,aF,a,aL,if_true,h,e,bt]
theorem aK{d:Option Nat}{t:TypeId}{a:List (Nat×Operand)}{vs:List (Nat×Value)}{cs:List Value}(b:EvP l a vs)(h:P.built t vs=some cs.toArray):
  ∀ρ,Agr ρ l->(execOp ρ ⟨d,.build t a.toArray,ty,ps,af,g⟩).run P w=.ok (.value (.agg cs.toArray)) w:=by
 intro ρ e;have f:(a.toArray.map λ(i,x)=>(i,ρ x)).toList=vs:=by simp[<-EvP.map e b]
 have:=run_build (P:=P) w t (a.toArray.map λ(i,x)=>(i,ρ x)) cs.toArray (by rw[f];exact h);simp only[execOp,aF,this,aL];rfl
theorem fill0{z:Value}:Instr.fill (λi=>some (i*1,1)) ((Array.range (0*1)).map ((if 0*1=0 then #[] else z.cells)[·%(if 0*1=0 then #[] else z.cells).size]!)) []=some ([]:List Value).toArray:=by
 simp[Instr.fill]
theorem fill1{z v:Value}(b:v.cells= #[v]):Instr.fill (λi=>some (i*1,1)) ((Array.range (1*1)).map ((if 1*1=0 then #[] else z.cells)[·%(if 1*1=0 then #[] else z.cells).size]!)) [(0,v)]=some [v].toArray:=by
 simp[Instr.fill,b];refine oQ sy λi e a=>?_;have:i=0:=by simp at a;omega
 subst this;simp
theorem fill2{z v u:Value}(e:v.cells= #[v])(b:u.cells= #[u]):Instr.fill (λi=>some (i*1,1)) ((Array.range (2*1)).map ((if 2*1=0 then #[] else z.cells)[·%(if 2*1=0 then #[] else z.cells).size]!)) [(0,v),(1,u)]=some [v,u].toArray:=by
 simp[Instr.fill,e,b];refine oQ sy λi f a=>?_;have:i=0∨i=1:=by simp at a;omega
 rcases this with rfl|rfl<;>simp
end
end
end Go.Proofs.YtpefhaamcihneaaGreat
