/- Part 2 of what this claim rests on (pack.py). -/
import Derived.Test.YtdbbeldgdgonfaaGreatP01
namespace Go.Proofs.YtdbbeldgdgonfaaGreat
set_option linter.unusedSimpArgs false
set_option linter.unusedVariables false
section
open Go.RowKit
def ext(o:Tg)(n k:Nat):Tg:=λb=>if b<n then o b else k
theorem jI_(o:Tg)(n k b:Nat)(h:n<=b):ext o n k b=k:=by unfold ext;rw[if_neg (by omega)]
theorem lg_(o:Tg)(n k b:Nat)(h:b<n):ext o n k b=o b:=by unfold ext;rw[if_pos h]
theorem hk_(o:Tg)(w:World)(e:Obj)(k t:Nat):Stp t o w (ext o w.heap.size k) (w.alloc e):=
 ⟨rfl,rfl,rfl,by simp,λb a _=>heap_alloc_old w e a,λb a=>lg_ _ _ _ _ a⟩
theorem sx_{o:Tg}{w w':World}{t:Nat}{r:Option Nat}(h:w.grownBy w' r)(i:∀g,r=some g->o g=t)(k:Nat):Stp t o w (ext o w.heap.size k) w':=
 ⟨h.os,h.tape,h.output,h.size,λb a f=>h.block b a (λe=>f (i b e.symm)),λb a=>lg_ _ _ _ _ a⟩
class Rz (α:Type) [Rp α] where
  z:α
  zc:List Value
  rdz:∀(o:Tg)(w:World),Rp.rd o w zc z
instance:Rz Int:=⟨0,[.int .i64 0],λ_ _=>rfl⟩
instance:Rz Bool:=⟨false,[.bool false],λ_ _=>rfl⟩
instance {α:Type} [Rp α]:Rz (List α):=⟨[],[.slice none 0 0],λo w=>⟨_,rfl,RdL.nil o w⟩⟩
def EvL(l:List (Nat×Value)):List Operand->List Value->Prop
  |[],[]=>True
  |x::xs,v::vs=>ev l x=some v∧EvL l xs vs
  |_,_=>False
theorem EvL.map{l:List (Nat×Value)}{ρ:Operand->Value}(a:Agr ρ l):∀{xs:List Operand}{vs:List Value},EvL l xs vs->xs.map ρ=vs
 |[],[],_=>rfl
 |x::xs,v::vs,h=>by rw[List.map_cons,a x v h.1,EvL.map a h.2]
 |[],_::_,h=>h.elim
 |_::_,[],h=>h.elim
def EvP(l:List (Nat×Value)):List (Nat×Operand)->List (Nat×Value)->Prop
  |[],[]=>True
  |(i,x)::xs,(j,v)::vs=>i=j∧ev l x=some v∧EvP l xs vs
  |_,_=>False
theorem EvP.map{l:List (Nat×Value)}{ρ:Operand->Value}(a:Agr ρ l):∀{xs:List (Nat×Operand)}{vs:List (Nat×Value)},EvP l xs vs->(xs.map λp=>(p.1,ρ p.2))=vs
 |[],[],_=>rfl
 |(i,x)::xs,(j,v)::vs,h=>by
  obtain⟨rfl,e,b⟩:=h;rw[List.map_cons,a x v e,EvP.map a b]
 |[],_::_,h=>h.elim
 |_::_,[],h=>h.elim
section
variable {P:Program} {l:List (Nat×Value)} {w w0:World} {d:Option Nat} {ty:TypeId} {ps:String} {af:Array Edge} {g:Option (Nat×Bool)} {o:Tg} {α:Type} [Rp α]
theorem wl_{f:FuncId}{xs:List Operand}{vs:List Value}{b:Array TypeId}(a:∀args w,(callFunc f args).run P w=.ok (.enter f args) w)(h:EvL l xs vs):
  ∀ρ,Agr ρ l->(execOp ρ ⟨d,.call {callee:=.value (.func f),args:=xs.toArray,argTypes:=b},ty,ps,af,g⟩).run P w=.ok (.enter f vs.toArray) w:=by
 intro ρ e;have i:ρ (.func f)=.func (.func f) #[] #[]:=e (.func f) _ rfl;simp only[execOp,resolve,Sem.run_bind,i,Deferred.ofValue,Sem.run_pure,Result.andThen_ok,invoke,List.map_toArray,EvL.map e h];simp[a]
theorem rd_{a:Option Addr}{n c:Nat}{xs q:List α}{lo hi:Int}(h:RdL o w (.slice a n c) xs)(A:cut xs lo hi=some q):
  RdL o w (sliced a lo.toNat hi.toNat c (Rp.sz α)) q∧n=xs.length∧0<=lo∧lo<=hi∧hi<=c∧hi<=n:=by
 obtain⟨I,G,e,H,F,E⟩:=h;cases e
 obtain⟨s,v,u,rfl⟩:=ir_ A;refine⟨?_,rfl,s,v,by omega,u⟩;have f:((xs.take hi.toNat).drop lo.toNat).length=hi.toNat-lo.toNat:=by simp;omega
 unfold sliced;refine⟨_,c-lo.toNat,by rw[f],by rw[f];omega,by omega,λi x p=>?_⟩
 ·have B:i<hi.toNat-lo.toNat:=by rw[<-f];exact(List.getElem?_eq_some_iff.1 p).1
  rw[List.getElem?_drop,List.getElem?_take,if_pos (by omega)] at p;obtain⟨b,off,cs,C,y,t,m,D⟩:=E _ x p;have k:¬c=lo.toNat:=by omega
  rw[if_neg k,C];have j:(⟨b,off,none⟩:Addr).add (lo.toNat*Rp.sz α)=⟨b,off+lo.toNat*Rp.sz α,none⟩:=by
   unfold Addr.add;split
   ·rename_i h;rw[h];rfl
   ·rfl
  refine⟨b,off+lo.toNat*Rp.sz α,cs,by simp[j],y,t,?_,D⟩;rw[show off+lo.toNat*Rp.sz α+i*Rp.sz α=off+(lo.toNat+i)*Rp.sz α by rw[Nat.add_mul];omega];exact m
theorem mI_{t e:TypeId}{a:Option Addr}{n c sz:Nat}{lo hi:Option Value}{lo' hi':Int}(q:P.underlying t=some (.slice e))(h:∀w,(sizeOf e).run P w=.ok sz w)
  (j:lo=some (.int .i64 lo')∨(lo=none∧lo'=0)) (i:hi=some (.int .i64 hi')∨(hi=none∧hi'=n)) (k:0<=lo') (p:lo'<=hi') (m:hi'<=c):
  (Instr.sliceAt t (.slice a n c) lo hi none).run P w=.ok (sliced a lo'.toNat hi'.toNat c sz) w:=by
 have f:P.elem t=e:=by simp[Program.elem,q]
 have b:P.underlying t=some (.slice (P.elem t)):=by rw[f];exact q
 rw[run_sliceAt_slice (P:=P) (w:=w) t _ _ _ _ b];rcases j with rfl|⟨rfl,rfl⟩<;>rcases i with rfl|⟨rfl,rfl⟩
 ·rw[run_slice_lh (P:=P) (w:=w) t a n c b _ _ _ _ k p m,f,h];rfl
 ·rw[run_slice_l (P:=P) (w:=w) t a n c b _ _ k p,f,h];simp[Result.andThen]
 ·rw[run_slice_h (P:=P) (w:=w) t a n c b _ _ (by omega) m,f,h];simp[Result.andThen]
 ·rw[run_slice_all (P:=P) (w:=w) t a n c b,f,h];simp[Result.andThen]
def EvB(l:List (Nat×Value))(x:Option Operand)(dflt i:Int):Prop:=
  match x with
  |none=>i=dflt
  |some x=>ev l x=some (.int .i64 i)
def RdC(o:Tg)(w:World):List Value->List α->Prop
  |cs,[]=>cs=[]
  |cs,x::xs=>∃c r,cs=c++r∧Rp.rd o w c x∧RdC o w r xs
theorem RdC.css{cs:List Value}{xs:List α}(h:RdC o w cs xs):∃css:List (List Value),css.length=xs.length∧css.flatten=cs∧∀(i:Nat) c x,css[i]? =some c->xs[i]? =some x->Rp.rd o w c x:=by
 induction xs generalizing cs with
 |nil=>exact⟨[],rfl,by simp[RdC] at h;simp[h],λi c x h=>by simp at h⟩
 |cons x xs ih=>
  obtain⟨c,r,rfl,p,k⟩:=h;obtain⟨css,f,j,e⟩:=ih k;refine⟨c::css,by simp[f],by simp[j],λi m n a b=>?_⟩;cases i with
  |zero=>simp at a b;subst a;subst b;exact p
  |succ i=>exact e i m n (by simpa using a) (by simpa using b)
theorem nj_{B k:Nat}{e:TypeId}{cs:List Value}{xs:List α}(h:RdC o w cs xs)(y:B<=w.heap.size)(t:xs.length<=maxLen):
  Ow B e k (ext o w.heap.size k) (w.alloc (.cells cs.toArray e)) (.slice (some ⟨w.heap.size,0,none⟩) xs.length xs.length) xs:=by
 obtain⟨css,f,m,j⟩:=h.css;have a:=Ow.lens (e:=e) (B:=B) f j;have p:css.flatten.length=xs.length*Rp.sz α:=by
  rw[<-f];clear f m j
  induction css with
  |nil=>simp
  |cons c css ih=>rw[List.flatten_cons,List.length_append,ih (λx n=>a x (by simp[n])),a c (by simp),List.length_cons,Nat.succ_mul];omega
 have A:Stp k o w (ext o w.heap.size k) (w.alloc (.cells cs.toArray e)):=hk_ _ _ _ _ _;refine⟨css,f,?_,λg q=>?_,λi c x v n=>Rp.mv (j i c x v n) A.size λb s u=>⟨heap_alloc_old w _ s,by rw[lg_ _ _ _ _ s];exact u⟩⟩
 ·have:=World.ownsRow_lit (e:=e) (size:=Rp.sz α) (base:=B) w cs.toArray xs.length y t (by rw[List.size_toArray,<-m,p]);rw[m];exact this
 ·simp[Value.ownBlock] at q;subst q;exact jI_ _ _ _ _ (Nat.le_refl _)
theorem ta_{t e:TypeId}{n sz:Nat}{z:Value}{a:List (Nat×Operand)}{vs:List (Nat×Value)}{cs:List Value}(m:P.underlying t=some (.slice e))(h:∀w,(sizeOf e).run P w=.ok sz w)
  (p:∀w,(zeroValue e).run P w=.ok z w) (u:n*sz<=16777216) (q:EvP l a vs)
  (f:Instr.fill (λi=>some (i*sz,sz)) ((Array.range (n*sz)).map ((if n*sz=0 then #[] else z.cells)[·%(if n*sz=0 then #[] else z.cells).size]!)) vs=some cs.toArray):
  ∀ρ,Agr ρ l->(execOp ρ ⟨d,.buildSlice t n a.toArray,ty,ps,af,g⟩).run P w=.ok (.value (.slice (some ⟨w.heap.size,0,none⟩) n n)) (w.alloc (.cells cs.toArray e)):=by
 intro ρ s;have k:(a.toArray.map λ(i,x)=>(i,ρ x)).toList=vs:=by simp[<-EvP.map s q]
 have j:¬n*sz>2^24:=by omega
 by_cases b:n*sz=0
 ·simp only[if_pos b] at f;simp only[execOp,Instr.buildSlice,run_underlying m,Sem.run_bind,Result.andThen_ok,h,j,if_false,if_pos b,k,f,Sem.run_pure,newRow,newObj];rfl
 ·simp only[if_neg b] at f;simp only[execOp,Instr.buildSlice,run_underlying m,Sem.run_bind,Result.andThen_ok,h,j,if_false,if_neg b,p,k,f,Sem.run_pure,newRow,newObj];rfl
def Inf(P:Program)(e:TypeId)(z:Value)(sz bytes:Nat):Prop:=(P.info? e).map (λi=>(i.zero,i.size,i.bytes))=some (some z,sz,bytes)
theorem sf_(cs:List Value)(n:Nat)(b:0<cs.length):(madeCells cs.toArray (n*cs.length)).toList=(List.replicate n cs).flatten:=by
 induction n with
 |zero=>simp[madeCells]
 |succ n ih=>
  rw[List.replicate_succ',List.flatten_append,<-ih];simp only[madeCells,Array.toList_map,Array.toList_range,List.flatten_cons,List.flatten_nil,List.append_nil];rw[Nat.succ_mul,List.range_add,List.map_append,List.map_map];congr 1;apply List.ext_getElem (by simp);intro i a e;simp at a;simp[Nat.mod_eq_of_lt a,a]
theorem vX_[Rz α]{B k:Nat}{t e:TypeId}{z:Value}{b:Nat}{x y:Operand}{n:Int}{h:List α}(H:ev l x=some (.int .i64 n))(I:ev l y=some (.int .i64 n))(G:mk (Rz.z:α) n=some h)
  (J:P.underlying t=some (.slice e)) (hi:Inf P e z (Rp.sz α) b) (E:z.cells=(Rz.zc (α:=α)).toArray) (hb:b<=1000) (hB:B<=w.heap.size):
  ∃w' a c,(∀ρ,Agr ρ l->(execOp ρ ⟨d,.makeSlice t x y,ty,ps,af,g⟩).run P w=.ok (.value (.slice a h.length c)) w')∧
   Ow B e k (ext o w.heap.size k) w' (.slice a h.length c) h∧Stp k o w (ext o w.heap.size k) w':=by
 obtain⟨C,K,rfl⟩:=pD_ G;obtain⟨F,A,q,u,j⟩:=info_parts hi;have f:(Rz.zc (α:=α)).length=Rp.sz α:=Rp.len (Rz.rdz (α:=α) o w);have s:=run_make (P:=P) w t e F z J A q .i64 .i64 n n C (Int.le_refl _) (by
  rw[j];have:=Int.mul_le_mul (show(b:Int)<=1000 by omega) (show n<=1000000000 by omega) C (by omega);omega) (by omega)
 rw[u,E] at s;have p:(madeCells (Rz.zc (α:=α)).toArray (n.toNat*Rp.sz α))=((List.replicate n.toNat (Rz.zc (α:=α))).flatten).toArray:=by
  apply Array.toList_inj.1;rw[<-f,sf_ _ _ (by rw[f];exact Rp.pos)]
 rw[p] at s;have v:RdC o w (List.replicate n.toNat (Rz.zc (α:=α))).flatten (List.replicate n.toNat (Rz.z:α)):=by
  generalize n.toNat=m
  induction m with
  |zero=>simp[RdC]
  |succ m ih=>rw[List.replicate_succ,List.flatten_cons,List.replicate_succ];exact⟨_,_,rfl,Rz.rdz o w,ih⟩
 have i:(List.replicate n.toNat (Rz.z:α)).length=n.toNat:=by simp
 refine⟨w.alloc (.cells (List.replicate n.toNat (Rz.zc (α:=α))).flatten.toArray e),some ⟨w.heap.size,0,none⟩,n.toNat,λρ D=>?_,?_,hk_ _ _ _ _ _⟩
 ·simp only[execOp,D x _ H,D y _ I,Sem.run_bind,s,Result.andThen_ok,i];rfl
 ·have:=nj_ (B:=B) (k:=k) (e:=e) v hB (by rw[i];simp only[maxLen];omega);rw[i] at this ⊢;exact this
theorem RdL.css{a:Option Addr}{m c:Nat}{zs:List α}(h:RdL o w (.slice a m c) zs):∃css:List (List Value),css.length=zs.length∧css.flatten.length=zs.length*Rp.sz α∧m=zs.length∧(a=none->m=0)∧
  (∀(i:Nat) cs x,css[i]? =some cs->zs[i]? =some x->Rp.rd o w cs x)∧(∀I,a=some I->∀j u,css.flatten[j]? =some u->w.cell? (I.add j)=some u):=by
 obtain⟨V,S,e,U,R,J⟩:=h;cases e
 have H:∀(q:List α)(k:Nat),(∀(i:Nat) x,q[i]? =some x->zs[k+i]? =some x)->∃css:List (List Value),css.length=q.length∧css.flatten.length=q.length*Rp.sz α∧
   (∀(i:Nat) cs x,css[i]? =some cs->q[i]? =some x->Rp.rd o w cs x)∧(∀b off,a=some ⟨b,off,none⟩->Cells w b (off+k*Rp.sz α) css.flatten):=by
  intro q
  induction q with
  |nil=>exact λk _=>⟨[],rfl,by simp,λi cs x h=>by simp at h,λb off _ j u f=>by simp at f⟩
  | cons y q ih=>
   intro k M;obtain⟨css,D,G,E,F⟩:=ih (k+1) (λi x C=>by rw[show k+1+i=k+(i+1) by omega];exact M (i+1) x (by simpa using C));obtain⟨b,off,cs,n,Q,O,N,L⟩:=J k y (by have:=M 0 y rfl;simpa using this);have v:cs.length=Rp.sz α:=Rp.len L;refine⟨cs::css,by simp[D],by rw[List.flatten_cons,List.length_append,G,v,List.length_cons,Nat.succ_mul];omega,λi c x p C=>?_,λT K A j u f=>?_⟩
   ·cases i with
    |zero=>simp at p C;subst p;subst C;exact L
    |succ i=>exact E i c x (by simpa using p) (by simpa using C)
   ·rw[n] at A;cases A;rw[List.flatten_cons] at f;by_cases s:j<cs.length
    ·rw[List.getElem?_append_left s] at f;exact N j u f
    ·rw[List.getElem?_append_right (by omega)] at f;have:=F b off n (j-cs.length) u f;rw[v] at this s;rw[show off+k*Rp.sz α+j=off+(k+1)*Rp.sz α+(j-Rp.sz α) by rw[Nat.succ_mul];omega];exact this
 obtain⟨css,D,G,E,F⟩:=H zs 0 (λi x h=>by simpa using h);refine⟨css,D,G,rfl,λe=>?_,E,λI B j u f=>?_⟩
 ·cases zs with
  |nil=>rfl
  |cons z zs=>
   obtain⟨b,off,cs,n,_⟩:=J 0 z rfl;rw[e] at n;cases n
 cases zs with
 |nil=>
  have:css=[]:=List.eq_nil_of_length_eq_zero (by simpa using D);subst this;simp at f
 | cons z zs=>
  obtain⟨b,off,cs,n,_⟩:=J 0 z rfl;rw[n] at B;cases B;have:=F b off n j u f;have t:(⟨b,off,none⟩:Addr).add j=⟨b,off+j,none⟩:=by
   unfold Addr.add;split
   ·rename_i h;rw[h];rfl
   ·rfl
  rw[t];simpa using this
theorem qb_{t a ty:TypeId}{v:Value}{m c:Nat}:Builtin.append_ #[t,a] ty #[v,.slice none m c]=Builtin.append_ #[t,a] ty #[v,.slice none m 0]:=by
 unfold Builtin.append_;simp[Builtin.lenOf,Builtin.firstCells,Builtin.mayShare,asInt,asIntOf]
theorem ut_{B k:Nat}{t e:TypeId}{z:Value}{b:Nat}{x y:Operand}{v:Value}{a:Option Addr}{m c:Nat}{xs zs J:List α}(hx:ev l x=some v)(hy:ev l y=some (.slice a m c))
  (E:Ow B e k o w v xs) {Z:Tg} (hr:RdL Z w (.slice a m c) zs) (K:∀cs x,Rp.rd Z w cs (x:α)->Rp.rd o w cs x) (hc:cat xs zs=some J) (hk:k≠0)
  (ht:P.underlying t=some (.slice e)) (hi:Inf P e z (Rp.sz α) b) (R:z.cells.size=Rp.sz α) (hb:b<=1000) (hB:B<=w.heap.size):
  ∃w' I H,(∀ρ,Agr ρ l->(execOp ρ ⟨d,.call {callee:=.builtin .append,args:= #[x,y],argTypes:= #[t,t]},ty,ps,af,g⟩).run P w=.ok (.value (.slice I J.length H)) w')∧
   Ow B e k (ext o w.heap.size k) w' (.slice I J.length H) J∧Stp k o w (ext o w.heap.size k) w':=by
 obtain⟨h0,rfl⟩:=rt_ hc;obtain⟨i0,L,N,T,Q⟩:=info_parts hi;obtain⟨css,S,e2,Y,U⟩:=E;obtain⟨j,f1,f2,rfl,f4,V,f6⟩:=hr.css;have p:∀u∈j.flatten,u.oneCell'=true:=by
  intro u n;obtain⟨cs,f,O⟩:=List.mem_flatten.1 n;obtain⟨i,hi'⟩:=List.mem_iff_getElem?.1 f;have D:=(List.getElem?_eq_some_iff.1 hi').1;exact Rp.one (V i cs _ hi' (List.getElem?_eq_getElem (by omega))) u O
 obtain⟨M,w',h,h1,h2,A,h4⟩:=nT_ (P:=P) w B t ty e i0 z (Rp.sz α) b ht L N T Q R Rp.pos v xs.length css.flatten e2 a zs.length (if a=none then 0 else c) j.flatten f2 (λe=>⟨f4 e,if_pos e⟩) f6 p
  (by
   have:=Nat.mul_le_mul h0 hb;omega) (by simp only[maxLen];omega) hB
 have F:(Builtin.append_ #[t,t] ty #[v,.slice a zs.length c]).run P w=.ok M w':=by
  cases a with
  |none=>rw[qb_];exact h
  |some ad=>exact h
 have s:Stp k o w (ext o w.heap.size k) w':=sx_ h2 (λg G=>Y g G) k;have C:∀g,M.ownBlock=some g->ext o w.heap.size k g=k:=by
  intro g G;by_cases D:g<w.heap.size
  ·rw[lg_ _ _ _ _ D];rcases A with A|A
   ·exact Y g (by rw[<-A];exact G)
   ·have:=(A.lt g G).1;omega
  ·exact jI_ _ _ _ _ (by omega)
 have hcl:=Ow.lens (e:=e) (B:=B) S U;have q:Ow B e k (ext o w.heap.size k) w' M (xs++zs):=by
  refine⟨css++j,by simp[S,f1],by rw[List.flatten_append,List.length_append];exact h1,C,λi cs u f n=>?_⟩;refine Rp.stp ?_ s hk;by_cases hi':i<css.length
  ·rw[List.getElem?_append_left hi'] at f;rw[List.getElem?_append_left (by omega)] at n;exact U i cs u f n
  ·rw[List.getElem?_append_right (by omega)] at f;rw[List.getElem?_append_right (by omega),<-S] at n;exact K _ _ (V _ cs u f n)
 obtain⟨I,H,W⟩:=q.form;refine⟨w',I,H,λρ X=>?_,by rw[<-W];exact q,s⟩;simp only[execOp,resolve,invoke,builtin,Sem.run_bind,Sem.run_pure,Result.andThen_ok,List.map_toArray,List.map_cons,List.map_nil,X x _ hx,X y _ hy,F,W]
end
end
section
open Go.RowKit
section
variable {P:Program} {Q:Exit->Act->World->Prop} {n:Nat} {l:List (Nat×Value)} {w w0:World} {d:Option Nat} {ty:TypeId} {ps:String} {af:Array Edge} {g:Option (Nat×Bool)} {o:Tg} {α:Type} [Rp α]
def sub:List Nat->Code->Code
  |[],c=>c
  |0::p,.seq a _=>sub p a
  |_::p,.seq _ b=>sub p b
  |0::p,.cond _ a _=>sub p a
  |_::p,.cond _ _ b=>sub p b
  |_::p,.block _ c=>sub p c
  |_::p,.loop c=>sub p c
  |_::p,.scope c=>sub p c
  |_,c=>c
theorem B_{x:Operand}{t e:TypeId}{v:Value}{xs:List α}{i:Tg}{b:World}(j:ev l x=some v)(h:RdL i b v xs)(f:P.underlying t=some (.slice e)):
  ∀ρ,Agr ρ l->(execOp ρ ⟨d,.call {callee:=.builtin .len,args:= #[x],argTypes:= #[t]},ty,ps,af,g⟩).run P w=.ok (.value (.int .i64 xs.length)) w:=by
 obtain⟨a,c,rfl⟩:=h.form;exact tb_ j f
theorem bC_{x:Operand}{t e b:TypeId}{B k:Nat}{v:Value}{xs:List α}(i:ev l x=some v)(h:Ow B b k o w v xs)(f:P.underlying t=some (.slice e)):
  ∀ρ,Agr ρ l->(execOp ρ ⟨d,.call {callee:=.builtin .len,args:= #[x],argTypes:= #[t]},ty,ps,af,g⟩).run P w=.ok (.value (.int .i64 xs.length)) w:=by
 obtain⟨a,c,rfl⟩:=h.form;exact tb_ i f
theorem vs_{x y:Operand}{t e:TypeId}{v:Value}{xs:List α}{i:Int}{u:α}(s:ev l x=some v)(A:ev l y=some (.int .i64 i))(h:RdL o w v xs)(hi:ix xs i=some u)
  (B:P.underlying t=some (.slice e)) (p:∀w,(sizeOf e).run P w=.ok (Rp.sz α) w):
  ∃b off cs,(∀f ρ,Agr ρ l->(execOp ρ ⟨d,.indexAddr t x y,ty,ps,af,g⟩).run P f=.ok (.value (.pointer (some ⟨b,off,none⟩))) f)∧Cells w b off cs∧Rp.rd o w cs u:=by
 obtain⟨a,c,rfl⟩:=h.form;obtain⟨j,C,m⟩:=fx_ hi;obtain⟨b,off,cs,rfl,k,q,_⟩:=h.at m;exact⟨b,_,cs,λf=>ih_ s A j (by omega) B p,k,q⟩
theorem wr_{x y:Operand}{t e q:TypeId}{B k:Nat}{v:Value}{xs:List α}{i:Int}{u:α}(C:ev l x=some v)(D:ev l y=some (.int .i64 i))(h:Ow B q k o w v xs)(hi:ix xs i=some u)
  (E:P.underlying t=some (.slice e)) (s:∀w,(sizeOf e).run P w=.ok (Rp.sz α) w):
  ∃b off cs,(∀f ρ,Agr ρ l->(execOp ρ ⟨d,.indexAddr t x y,ty,ps,af,g⟩).run P f=.ok (.value (.pointer (some ⟨b,off,none⟩))) f)∧Cells w b off cs∧Rp.rd o w cs u:=by
 obtain⟨a,c,rfl⟩:=h.form;obtain⟨j,F,p⟩:=fx_ hi;obtain⟨b,cs,rfl,_,m,A,_⟩:=h.at p;exact⟨b,_,cs,λf=>ih_ C D j (by omega) E s,m,A⟩
theorem um_{t e:TypeId}{x:Operand}{lo hi:Option Operand}{v:Value}{xs m:List α}{lo' hi':Int}(B:ev l x=some v)(h:RdL o w v xs)
  (f:EvB l lo 0 lo') (b:EvB l hi xs.length hi') (q:cut xs lo' hi'=some m) (D:P.underlying t=some (.slice e)) (A:∀w,(sizeOf e).run P w=.ok (Rp.sz α) w):
  ∃k,(∀i ρ,Agr ρ l->(execOp ρ ⟨d,.slice t x lo hi none,ty,ps,af,g⟩).run P i=.ok (.value k) i)∧RdL o w k m:=by
 obtain⟨a,c,rfl⟩:=h.form;obtain⟨u,F,p,C,s,E⟩:=rd_ h q;refine⟨_,λi ρ j=>?_,u⟩
 have:=mI_ (P:=P) (w:=i) (a:=a) (n:=xs.length) (c:=c) (lo:=lo.map ρ) (hi:=hi.map ρ) (lo':=lo') (hi':=hi') D A
  (by cases lo with
    |none=>exact .inr ⟨rfl,f⟩
    |some y=>exact .inl (by simp[j y _ f]))
  (by cases hi with
    |none=>exact .inr ⟨rfl,b⟩
    |some y=>exact .inl (by simp[j y _ b])) p C s
 simp only[execOp,j x _ B,Sem.run_bind,this,Result.andThen_ok,Option.map_none];rfl
theorem ms_{B k:Nat}{t e:TypeId}{z:Value}{b:Nat}{x y:Operand}{v u:Value}{xs zs m:List α}(F:ev l x=some v)(G:ev l y=some u)
  (f:Ow B e k o w v xs) {q:Tg} (p:RdL q w u zs) (i:∀cs x,Rp.rd q w cs (x:α)->Rp.rd o w cs x) (A:cat xs zs=some m) (I:k≠0)
  (J:P.underlying t=some (.slice e)) (hi:Inf P e z (Rp.sz α) b) (h:z.cells.size=Rp.sz α) (H:b<=1000) (E:B<=w.heap.size):
  ∃w' j,(∀ρ,Agr ρ l->(execOp ρ ⟨d,.call {callee:=.builtin .append,args:= #[x,y],argTypes:= #[t,t]},ty,ps,af,g⟩).run P w=.ok (.value j) w')∧
   Ow B e k (ext o w.heap.size k) w' j m∧Stp k o w (ext o w.heap.size k) w':=by
 obtain⟨a,c,rfl⟩:=p.form;obtain⟨w',L,K,D,C,s⟩:=ut_ (g:=g) (ps:=ps) (ty:=ty) (af:=af) (d:=d) F G f p i A I J hi h H E;exact⟨w',_,D,C,s⟩
omit [Rp α] in
theorem ai_{xs a:List α}{x:α}(h:push xs x=some a):cat xs [x]=some a:=by
 obtain⟨b,rfl⟩:=kD_ h;unfold cat
 rw[if_pos (by simp only[List.length_cons,List.length_nil];omega)]
theorem wE_{e:TypeId}{cs:List Value}{xs:List α}(h:RdC o w cs xs)(f:xs.length<=maxLen):
  RdL (ext o w.heap.size 0) (w.alloc (.cells cs.toArray e)) (.slice (some ⟨w.heap.size,0,none⟩) xs.length xs.length) xs:=by
 refine (nj_ (B:=0) (k:=0) (e:=e) h (Nat.zero_le _) f).freeze λb _ a=>?_;rcases a with a|a<;>exact a
theorem mE_{t:TypeId}{a:Addr}{u:Value}(j:∀w,(sizeOf t).run P w=.ok 1 w)(k:u.cells= #[u])(h:u.oneCell'=true)(e:∃x,w.cell? a=some x)(f:w.frozen? a=false):
  (Instr.storeAt t (.pointer (some a)) u).run P w=.ok () (w.setCell a u):=by
 obtain⟨x,m⟩:=e;have b:=run_store P w a u .plain h;have i:a.add 0=a:=by simp[Addr.add]
 simp only[Instr.storeAt,Instr.sureAddr,storeVar,Sem.run_bind,Sem.run_pure,Result.andThen_ok,j,k];simp[storeCells,i,b,m,f]
theorem px_{o:Tg}{w:World}{b i k:Nat}{u:Value}(f:o b=k):Stp k o w o (w.setCell ⟨b,i,none⟩ u):=by
 refine⟨rfl,rfl,rfl,by simp[World.setCell],λc h a=>?_,λ_ _=>rfl⟩;have:c≠b:=λe=>a (by rw[e];exact f);simp only[World.setCell];rw[Array.getElem?_modify,if_neg (Ne.symm this)]
theorem sZ_{B k b i:Nat}{t e:TypeId}{x y:Operand}{u:Value}{cs:List Value}(q:ev l x=some (.pointer (some ⟨b,i,none⟩)))(v:ev l y=some u)(a:Bx B k o w b e cs)(hi:i<cs.length)
  (p:∀w,(sizeOf t).run P w=.ok 1 w) (h:u.cells= #[u]) (m:u.oneCell'=true):
  ∃w',(∀ρ,Agr ρ l->(execOp ρ ⟨none,.store t x y,ty,ps,af,g⟩).run P w=.ok .skip w')∧Bx B k o w' b e (cs.set i u)∧Stp k o w o w':=by
 have j:=a.cell (List.getElem?_eq_getElem hi);have A:w.frozen? ⟨b,i,none⟩=false:=by simp[World.frozen?,a.blk]
 have s:=mE_ (P:=P) p h m ⟨_,j⟩ A;refine⟨w.setCell ⟨b,i,none⟩ u,λρ f=>?_,⟨?_,a.tag,a.lo⟩,px_ a.tag⟩
 ·simp only[execOp,f x _ q,f y _ v,Sem.run_bind,s,Result.andThen_ok];rfl
 ·simp only[World.setCell];rw[Array.getElem?_modify,if_pos rfl,a.blk];simp
theorem sV_{B k b:Nat}{t e:TypeId}{x y:Operand}{cs ds:List Value}(m:ev l x=some (.pointer (some ⟨b,0,none⟩)))(q:ev l y=some (.agg ds.toArray))(a:Bx B k o w b e cs)(h:ds.length=cs.length)
  (j:(P.info? t).map (·.size)=some ds.length) (i:∀u∈ds,u.oneCell'=true):
  ∃w',(∀ρ,Agr ρ l->(execOp ρ ⟨none,.store t x y,ty,ps,af,g⟩).run P w=.ok .skip w')∧Bx B k o w' b e ds∧Stp k o w o w':=by
 have p:=run_storeVar_row (P:=P) w b e t cs.toArray ds.toArray a.blk (by simpa using j) (by simp[h]) (by simpa using i);refine⟨w.setRow b ds.toArray,λρ f=>?_,⟨?_,a.tag,a.lo⟩,⟨rfl,rfl,rfl,by simp[World.setRow],λc v s=>?_,λ_ _=>rfl⟩⟩
 ·simp only[execOp,f x _ m,f y _ q,Instr.storeAt,Instr.sureAddr,Sem.run_bind,Sem.run_pure,p,Result.andThen_ok]
 ·simp only[World.setRow];rw[Array.getElem?_modify,if_pos rfl,a.blk];rfl
 ·have:c≠b:=λe=>s (by rw[e];exact a.tag);simp only[World.setRow];rw[Array.getElem?_modify,if_neg (Ne.symm this)]
theorem vq_(css:List (List Value))(a:∀cs∈css,cs.length=1)(i:Nat)(u:Value):(css.set i [u]).flatten=css.flatten.set i u:=by
 induction css generalizing i with
 |nil=>simp
 |cons c css ih=>
  have b:=a c (by simp);obtain⟨z,rfl⟩:=List.length_eq_one_iff.1 b;cases i with
  |zero=>simp
  |succ i=>simp[ih (λx e=>a x (by simp[e]))]
theorem te_{B k b:Nat}{t e:TypeId}{x y:Operand}{v u:Value}{xs M:List α}{i:Int}{z:α}(m:Rp.sz α=1)(N:ev l x=some (.pointer (some ⟨b,0+i.toNat*Rp.sz α,none⟩)))(hy:ev l y=some u)
  (h:Ow B e k o w v xs) (O:v.ownBlock=some b) (hi:st xs i z=some M) (hk:k≠0) (Y:∀w,(sizeOf t).run P w=.ok 1 w) (U:u.cells= #[u]) (J:Rp.rd o w [u] z):
  ∃w',(∀ρ,Agr ρ l->(execOp ρ ⟨none,.store t x y,ty,ps,af,g⟩).run P w=.ok .skip w')∧Ow B e k o w' v M∧Stp k o w o w':=by
 obtain⟨h0,h1,rfl⟩:=nk_ hi;obtain⟨a,c,rfl⟩:=h.form;obtain⟨W,cs,rfl,_,C,F,D⟩:=h.at (List.getElem?_eq_getElem (show i.toNat<xs.length by omega));simp[Value.ownBlock] at O;subst O;have H:cs.length=1:=by rw[Rp.len F,m]
 obtain⟨q,rfl⟩:=List.length_eq_one_iff.1 H;rw[m,Nat.mul_one,Nat.zero_add] at N D C;have A:u.oneCell'=true:=Rp.one J u (by simp);have Z:=mE_ (P:=P) Y U A ⟨_,k_ C⟩ D;obtain⟨css,L,V,I,K⟩:=h;have E:=Ow.lens (e:=e) (B:=B) L K;rw[m] at E;obtain⟨T,g2⟩:=V.stored i.toNat u;have p:Stp k o w o (w.setCell ⟨W,i.toNat,none⟩ u):=px_ (I _ rfl);refine⟨_,λρ S=>?_,⟨css.set i.toNat [u],by simp[L],?_,I,λj G X s f=>?_⟩,p⟩
 ·simp only[execOp,S x _ N,S y _ hy,Sem.run_bind,Z,Result.andThen_ok];rfl
 ·rw[vq_ _ E];simpa using T
 ·rw[List.getElem?_set] at s f;refine Rp.stp ?_ p hk;by_cases R:i.toNat=j
  ·subst R;rw[if_pos rfl,if_pos (by omega)] at s;rw[if_pos rfl,if_pos (by omega)] at f;cases s;cases f;exact J
  ·rw[if_neg R] at s f;exact K j G X s f
def RsL(P:Program)(l:List (Nat×Value))(w:World):List ResultVar->List Value->Prop
  |[],[]=>True
  | .tmp t::r,v::vs=>Kn l t=some v∧RsL P l w r vs
  | .cell t T::r,v::vs=>(∃ad,Kn l t=some (.pointer (some ad))∧(loadVar T ad).run P w=.ok v w)∧RsL P l w r vs
  |_,_=>False
def rsv(tmps:Array Value):ResultVar->Sem Value
  | .tmp t=>Pure.pure (tmps.getD t undef)
  | .cell a t=>do loadVar t (<-asAddr (tmps.getD a undef))
theorem RsL.run{a:Act}(b:Fr a n l):∀{e:List ResultVar}{vs:List Value},RsL P l w e vs->(e.mapM (rsv a.tmps)).run P w=.ok vs w
 |[],[],_=>rfl
 | .tmp t::r,v::vs,h=>by
  have:=RsL.run b h.2;rw[List.mapM_cons];simp only[Sem.run_bind,rsv,Sem.run_pure,Result.andThen_ok,b.get t v h.1,this]
 | .cell t T::r,v::vs,h=>by
  obtain⟨⟨k,j,f⟩,m⟩:=h;have:=RsL.run b m;have i:asAddr (a.tmps.getD t undef)=Pure.pure k:=by rw[b.get t _ j];rfl
  rw[List.mapM_cons];simp only[Sem.run_bind,rsv,i,Sem.run_pure,Result.andThen_ok,f,this]
 |[],_::_,h=>h.elim
 | .tmp _::_,[],h=>h.elim
 | .cell _ _::_,[],h=>h.elim
def packed:List Value->Value
  |[v]=>v
  |vs=> .tuple vs.toArray
theorem si_(b:Func)(a:Array Value):results b a=(do let vs<-b.results.mapM (rsv a);Pure.pure (if h:vs.size=1 then vs[0] else .tuple vs)):=rfl
theorem D_{f:Func}{R:Ending->World->Prop}{e:List ResultVar}{vs:List Value}(b:f.results=e.toArray)(h:RsL P l w e vs)(j:R (.returned (packed vs)) w):∀a,Fr a n l->bodyPost P f R .ret a w:=by
 intro a i;refine⟨i.defers,packed vs,?_,j⟩;have m:=RsL.run i h;have k:(e.toArray.mapM (rsv a.tmps)).run P w=.ok vs.toArray w:=by
  rw[List.mapM_toArray,map_eq_pure_bind,Sem.run_bind,m];rfl
 rw[si_,b];simp only[Sem.run_bind,k,Result.andThen_ok,Sem.run_pure]
 match vs with
 |[]=>rfl
 |[v]=>rfl
 |v::u::vs=>simp[packed]
theorem nJ_{f:Func}{R:Ending->World->Prop}{e:List ResultVar}{vs:List Value}(b:f.results=e.toArray)(h:RsL P l w e vs)(i:R (.returned (packed vs)) w):∀a,Fr a n l->bodyPost P f R .normal a w:=D_ (P:=P) b h i
end
end
section
open Go.RowKit
def forI{α σ ρ:Type}(body:Int->α->σ->Option (Lp σ σ ρ)):List α->Int->σ->Option (σ ⊕ ρ)
  |[],_,s=>some (.inl s)
  | x::xs,i,s=>match body i x s with
    |none=>none
    |some (.go s')=>forI body xs (i+1) s'
    |some (.out s')=>some (.inl s')
    |some (.ret r)=>some (.inr r)
def forN{σ ρ:Type}(body:Int->σ->Option (Lp σ σ ρ)):Nat->Int->σ->Option (σ ⊕ ρ)
  |0,_,s=>some (.inl s)
  | k+1,i,s=>match body i s with
    |none=>none
    |some (.go s')=>forN body k (i+1) s'
    |some (.out s')=>some (.inl s')
    |some (.ret r)=>some (.inr r)
def Hands{σ ρ:Type}(next:σ->Prop)(res:σ ⊕ ρ):Lp σ σ ρ->Prop
  | .go s=>next s
  | .out s=>res=.inl s
  | .ret r=>res=.inr r
theorem R_{α σ ρ:Type}{body:Int->α->σ->Option (Lp σ σ ρ)}{xs:List α}{i:Int}{s:σ}{a:σ ⊕ ρ}(k:0<=i)(j:i<xs.length)(h:forI body (xs.drop i.toNat) i s=some a):
  ∃x q,ix xs i=some x∧body i x s=some q∧Hands (λb=>forI body (xs.drop (i+1).toNat) (i+1) b=some a) a q:=by
 have e:i.toNat<xs.length:=by omega
 rw[List.drop_eq_getElem_cons e] at h;refine⟨xs[i.toNat],?_⟩;simp only[forI] at h;rw[show(i+1).toNat=i.toNat+1 by omega];cases f:body i xs[i.toNat] s with
 |none=>rw[f] at h;cases h
 |some q=>
  rw[f] at h;refine⟨q,by unfold ix;rw[if_pos k,List.getElem?_eq_getElem e],rfl,?_⟩;cases q with
  |go b=>exact h
  |out b=>cases h;rfl
  |ret r=>cases h;rfl
theorem S_{α σ ρ:Type}{body:Int->α->σ->Option (Lp σ σ ρ)}{xs:List α}{i:Int}{s:σ}{a:σ ⊕ ρ}(b:¬i<xs.length)(h:forI body (xs.drop i.toNat) i s=some a):a=.inl s:=by
 rw[List.drop_of_length_le (by omega)] at h;cases h;rfl
theorem bv_{σ ρ:Type}{body:Int->σ->Option (Lp σ σ ρ)}{n i:Int}{s:σ}{a:σ ⊕ ρ}(f:i<n)(h:forN body (n-i).toNat i s=some a):
  ∃q,body i s=some q∧Hands (λb=>forN body (n-(i+1)).toNat (i+1) b=some a) a q:=by
 rw[show(n-i).toNat=(n-(i+1)).toNat+1 by omega] at h;simp only[forN] at h;cases e:body i s with
 |none=>rw[e] at h;cases h
 |some q=>
  rw[e] at h;refine⟨q,rfl,?_⟩;cases q with
  |go b=>exact h
  |out b=>cases h;rfl
  |ret r=>cases h;rfl
theorem bu_{σ ρ:Type}{body:Int->σ->Option (Lp σ σ ρ)}{n i:Int}{s:σ}{a:σ ⊕ ρ}(b:¬i<n)(h:forN body (n-i).toNat i s=some a):a=.inl s:=by
 rw[show(n-i).toNat=0 by omega] at h;cases h;rfl
theorem X_{σ ρ:Type}{step:σ->Option (Lp σ σ ρ)}{k:Nat}{s:σ}{a:σ ⊕ ρ}(h:loopF step k s=some a):
  ∃k' q,k=k'+1∧step s=some q∧Hands (λb=>loopF step k' b=some a) a q:=by
 obtain⟨k',q,e,i,f⟩:=uh_ h;refine⟨k',q,e,i,?_⟩;rcases f with⟨b,rfl,h⟩|⟨t,rfl,h⟩|⟨r,rfl,h⟩<;>exact h
def Po(M N:Act->World->Prop)(E:Nat->Act->World->Prop):Exit->Act->World->Prop
  | .normal,a,w=>M a w
  | .ret,a,w=>N a w
  | .exit i,a,w=>E i a w
  |_,_,_=>False
def noE:Nat->Act->World->Prop:=λ_ _ _=>False
section
variable {P:Program} {Q Q':Exit->Act->World->Prop} {n:Nat} {l:List (Nat×Value)} {w w0:World} {o oo:Tg} {α:Type}
theorem kA_{x y:Code}(M N:Act->World->Prop)(f:wpC P x (Po M N noE) n l w)(b:∀a w,M a w->y.wp P Q a w)(j:∀a w,N a w->Q .ret a w):wpC P (.seq x y) Q n l w:=
 c_ (rf_ f λe a w h=>by
  cases e with
  |normal=>exact b a w h
  |ret=>exact j a w h
  |exit i=>exact h.elim
  |goto i=>exact h.elim
  |panic c=>exact h.elim
  |outgrown=>exact h.elim)
theorem nx{y:Code}(h:wpC P y Q n l w):∀a,Fr a n l->Exit.then (y.wp P Q) Q' .normal a w:=h
theorem n_{K:Act->World->Prop}{i:Nat}(h:∀a,Fr a n l->Q (.exit i) a w):∀a,Fr a n l->Exit.then K Q (.exit i) a w:=h
theorem y_{K:Act->World->Prop}(h:∀a,Fr a n l->Q .ret a w):∀a,Fr a n l->Exit.then K Q .ret a w:=h
theorem u_{K:Act->World->Prop}(h:∀a,Fr a n l->K a w):∀a,Fr a n l->Exit.then K Q .normal a w:=h
theorem x_{i:Nat}(h:∀a,Fr a n l->Q .normal a w):∀a,Fr a n l->Exit.inBlock i Q .normal a w:=h
theorem W_{i:Nat}(h:∀a,Fr a n l->Q .ret a w):∀a,Fr a n l->Exit.inBlock i Q .ret a w:=h
theorem N_{i:Nat}(h:∀a,Fr a n l->Q .normal a w):∀a,Fr a n l->Exit.inBlock i Q (.exit i) a w:=λa b=>by
 show(if i=i then _ else _);rw[if_pos rfl];exact h a b
theorem wc_{i j:Nat}(b:j≠i)(h:∀a,Fr a n l->Q (.exit j) a w):∀a,Fr a n l->Exit.inBlock i Q (.exit j) a w:=λa e=>by
 show(if j=i then _ else _);rw[if_neg b];exact h a e
theorem p_{M N:Act->World->Prop}{E:Nat->Act->World->Prop}(h:∀a,Fr a n l->M a w):∀a,Fr a n l->Po M N E .normal a w:=h
theorem bg_{M N:Act->World->Prop}{E:Nat->Act->World->Prop}(h:∀a,Fr a n l->N a w):∀a,Fr a n l->Po M N E .ret a w:=h
variable [Rp α] {ops:Array Oper} {rest:List Oper} {d:Nat} {ty:TypeId} {ps:String} {af:Array Edge} {g:Option (Nat×Bool)} {R:Value->World->Prop}
theorem Cells.keep{b off:Nat}{cs:List Value}(h:Cells w0 b off cs)(k:Keeps w0 w):Cells w b off cs:=λj v a=>z_ k (h j v a)
theorem fo_{x y:Operand}{t e:TypeId}{v:Value}{xs:List α}{i:Int}{u:α}(h:RdL o w v xs)(hi:ix xs i=some u)(k:ev l x=some v)(p:ev l y=some (.int .i64 i))
  (q:P.underlying t=some (.slice e)) (j:∀w,(sizeOf e).run P w=.ok (Rp.sz α) w)
  (h:∀b off cs,Cells w b off cs->Rp.rd o w cs u->R (.pointer (some ⟨b,off,none⟩)) w):op1 P ⟨some d,.indexAddr t x y,ty,ps,af,g⟩ n l w R:=by
 obtain⟨b,off,cs,m,f,a⟩:=vs_ (ps:=ps) (ty:=ty) (af:=af) (d:=some d) (g:=g) k p (by assumption) hi q j;exact M_ (m w) (h b off cs f a)
theorem wf_atZ{x y:Operand}{t e:TypeId}{v:Value}{xs:List α}{i:Int}{u:α}(h:RdL zt w0 v xs)(hi:ix xs i=some u)(j:Bs oo o w0 w)(m:ev l x=some v)(q:ev l y=some (.int .i64 i))
  (s:P.underlying t=some (.slice e)) (k:∀w,(sizeOf e).run P w=.ok (Rp.sz α) w)
  (h:∀b off cs,Cells w b off cs->Rp.rd zt w0 cs u->R (.pointer (some ⟨b,off,none⟩)) w):op1 P ⟨some d,.indexAddr t x y,ty,ps,af,g⟩ n l w R:=by
 obtain⟨b,off,cs,p,f,a⟩:=vs_ (ps:=ps) (ty:=ty) (af:=af) (d:=some d) (g:=g) m q (by assumption) hi s k;exact M_ (p w) (h b off cs (f.keep j.keeps) a)
theorem gE_{x y:Operand}{t e j:TypeId}{B k:Nat}{v:Value}{xs:List α}{i:Int}{u:α}(h:Ow B j k o w v xs)(hi:ix xs i=some u)(q:ev l x=some v)(s:ev l y=some (.int .i64 i))
  (A:P.underlying t=some (.slice e)) (m:∀w,(sizeOf e).run P w=.ok (Rp.sz α) w)
  (h:∀b off cs,Cells w b off cs->Rp.rd o w cs u->R (.pointer (some ⟨b,off,none⟩)) w):op1 P ⟨some d,.indexAddr t x y,ty,ps,af,g⟩ n l w R:=by
 obtain⟨b,off,cs,p,f,a⟩:=wr_ (ps:=ps) (ty:=ty) (af:=af) (d:=some d) (g:=g) q s (by assumption) hi A m;exact M_ (p w) (h b off cs f a)
theorem nx_{t e:TypeId}{x:Operand}{lo hi:Option Operand}{v:Value}{xs i:List α}{lo' hi':Int}(h:RdL o w v xs)(j:cut xs lo' hi'=some i)(m:ev l x=some v)
  (f:EvB l lo 0 lo') (b:EvB l hi xs.length hi') (q:P.underlying t=some (.slice e)) (k:∀w,(sizeOf e).run P w=.ok (Rp.sz α) w)
  (h:∀a,RdL o w a i->R a w):op1 P ⟨some d,.slice t x lo hi none,ty,ps,af,g⟩ n l w R:=by
 obtain⟨a,p,s⟩:=um_ (ps:=ps) (ty:=ty) (af:=af) (d:=some d) (g:=g) m (by assumption) f b j q k;exact M_ (p w) (h a s)
theorem kJ_{t e:TypeId}{x:Operand}{lo hi:Option Operand}{v:Value}{xs i:List α}{lo' hi':Int}(h:RdL zt w0 v xs)(j:cut xs lo' hi'=some i)(m:ev l x=some v)
  (f:EvB l lo 0 lo') (b:EvB l hi xs.length hi') (q:P.underlying t=some (.slice e)) (k:∀w,(sizeOf e).run P w=.ok (Rp.sz α) w)
  (h:∀a,RdL zt w0 a i->R a w):op1 P ⟨some d,.slice t x lo hi none,ty,ps,af,g⟩ n l w R:=by
 obtain⟨a,p,s⟩:=um_ (ps:=ps) (ty:=ty) (af:=af) (d:=some d) (g:=g) m (by assumption) f b j q k;exact M_ (p w) (h a s)
theorem as_{x:Operand}{t:TypeId}{v:Value}{cs:List Value}(B k:Nat)(i:B<=w.heap.size)(e:v.cells=cs.toArray)(f:ev l x=some v)
  (h:∀a w' b,Bx B k a w' b t cs->Stp k o w a w'->R (.pointer (some ⟨b,0,none⟩)) w'):op1 P ⟨some d,.box t x,ty,ps,af,g⟩ n l w R:=
 M_ (wx_ f) (h (ext o w.heap.size k) _ _ (by rw[e];exact⟨heap_alloc_new w _,jI_ _ _ _ _ (Nat.le_refl _),i⟩) (hk_ _ _ _ _ _))
theorem av_{t:TypeId}{z:Value}{cs:List Value}(B k:Nat)(f:B<=w.heap.size)(i:∀w,(zeroValue t).run P w=.ok z w)(e:z.cells=cs.toArray)
  (h:∀a w' b,Bx B k a w' b t cs->Stp k o w a w'->R (.pointer (some ⟨b,0,none⟩)) w'):op1 P ⟨some d,.alloc t,ty,ps,af,g⟩ n l w R:=
 M_ (uD_ i) (h (ext o w.heap.size k) _ _ (by rw[e];exact⟨heap_alloc_new w _,jI_ _ _ _ _ (Nat.le_refl _),f⟩) (hk_ _ _ _ _ _))
theorem au_{t e:TypeId}{m sz:Nat}{z:Value}{a:List (Nat×Operand)}{vs:List (Nat×Value)}{cs:List Value}{xs:List α}(f:RdC o w cs xs)(q:m=xs.length)(x:EvP l a vs)
  (v:P.underlying t=some (.slice e)) (s:∀w,(sizeOf e).run P w=.ok sz w) (p:∀w,(zeroValue e).run P w=.ok z w) (b:m*sz<=16777216)
  (u:Instr.fill (λi=>some (i*sz,sz)) ((Array.range (m*sz)).map ((if m*sz=0 then #[] else z.cells)[·%(if m*sz=0 then #[] else z.cells).size]!)) vs=some cs.toArray) (y:xs.length<=1000000)
  (h:∀k w' j,RdL k w' j xs->Stp 999 o w k w'->Keeps w w'->R j w'):op1 P ⟨some d,.buildSlice t m a.toArray,ty,ps,af,g⟩ n l w R:=by
 subst q;exact M_ (ta_ v s p b x u) (h _ _ _ (wE_ (e:=e) f (by simp only[maxLen];omega)) (hk_ _ _ _ _ _) ((Keeps.refl _).alloc _))
theorem hu_{t e:TypeId}{m sz:Nat}{z:Value}{a:List (Nat×Operand)}{vs:List (Nat×Value)}{cs:List Value}{xs:List α}(B k:Nat)(u:B<=w.heap.size)(f:RdC o w cs xs)(s:m=xs.length)(A:EvP l a vs)
  (y:P.underlying t=some (.slice e)) (v:∀w,(sizeOf e).run P w=.ok sz w) (q:∀w,(zeroValue e).run P w=.ok z w) (b:m*sz<=16777216)
  (x:Instr.fill (λi=>some (i*sz,sz)) ((Array.range (m*sz)).map ((if m*sz=0 then #[] else z.cells)[·%(if m*sz=0 then #[] else z.cells).size]!)) vs=some cs.toArray) (C:xs.length<=1000000)
  (h:∀p w' j,Ow B e k p w' j xs->Stp k o w p w'->R j w'):op1 P ⟨some d,.buildSlice t m a.toArray,ty,ps,af,g⟩ n l w R:=by
 subst s;exact M_ (ta_ y v q b A x) (h _ _ _ (nj_ (e:=e) f u (by simp only[maxLen];omega)) (hk_ _ _ _ _ _))
theorem hn_[Rz α]{t e:TypeId}{z:Value}{b:Nat}{x y:Operand}{m:Int}{i:List α}(B k:Nat)(v:B<=w.heap.size)(s:mk (Rz.z:α) m=some i)(C:ev l x=some (.int .i64 m))(D:ev l y=some (.int .i64 m))
  (E:P.underlying t=some (.slice e)) (hi:Inf P e z (Rp.sz α) b) (p:z.cells=(Rz.zc (α:=α)).toArray) (hb:b<=1000)
  (h:∀j w' f,Ow B e k j w' f i->Stp k o w j w'->R f w'):op1 P ⟨some d,.makeSlice t x y,ty,ps,af,g⟩ n l w R:=by
 obtain⟨w',a,c,A,u,q⟩:=vX_ (o:=o) (ps:=ps) (ty:=ty) (af:=af) (d:=some d) (g:=g) (B:=B) (k:=k) C D s E hi p hb v;exact M_ A (h _ _ _ u q)
theorem aT_{B k:Nat}{t e:TypeId}{z:Value}{a:Nat}{x y:Operand}{v u:Value}{xs zs m:List α}(b:Ow B e k o w v xs)(j:RdL o w u zs)(q:cat xs zs=some m)(G:k≠0)(C:B<=w.heap.size)(D:ev l x=some v)(E:ev l y=some u)
  (H:P.underlying t=some (.slice e)) (hi:Inf P e z (Rp.sz α) a) (i:z.cells.size=Rp.sz α) (F:a<=1000)
  (h:∀p w' f,Ow B e k p w' f m->Stp k o w p w'->R f w'):op1 P ⟨some d,.call {callee:=.builtin .append,args:= #[x,y],argTypes:= #[t,t]},ty,ps,af,g⟩ n l w R:=by
 obtain⟨w',f,j,A,s⟩:=ms_ (ps:=ps) (ty:=ty) (af:=af) (d:=some d) (g:=g) D E b j (λ_ _ h=>h) q G H hi i F C;exact M_ j (h _ _ _ A s)
theorem nH_{B k:Nat}{t e:TypeId}{z:Value}{a:Nat}{x y:Operand}{v u:Value}{xs zs p:List α}(b:Ow B e k o w v xs)(j:RdL zt w u zs)(s:cat xs zs=some p)(H:k≠0)(D:B<=w.heap.size)
  (m:∀cs x,Rp.rd zt w cs (x:α)->Rp.rd o w cs x) (E:ev l x=some v) (F:ev l y=some u)
  (I:P.underlying t=some (.slice e)) (hi:Inf P e z (Rp.sz α) a) (i:z.cells.size=Rp.sz α) (G:a<=1000)
  (h:∀q w' f,Ow B e k q w' f p->Stp k o w q w'->R f w'):op1 P ⟨some d,.call {callee:=.builtin .append,args:= #[x,y],argTypes:= #[t,t]},ty,ps,af,g⟩ n l w R:=by
 obtain⟨w',f,j,C,A⟩:=ms_ (ps:=ps) (ty:=ty) (af:=af) (d:=some d) (g:=g) E F b j m s H I hi i G D;exact M_ j (h _ _ _ C A)
theorem bl_{B k b i:Nat}{t e:TypeId}{x y:Operand}{u:Value}{cs:List Value}(a:Bx B k o w b e cs)(q:ev l x=some (.pointer (some ⟨b,i,none⟩)))(v:ev l y=some u)(hi:i<cs.length)
  (p:∀w,(sizeOf t).run P w=.ok 1 w) (j:u.cells= #[u]) (f:u.oneCell'=true)
  (h:∀w',Bx B k o w' b e (cs.set i u)->Stp k o w o w'->R undef w'):op1 P ⟨none,.store t x y,ty,ps,af,g⟩ n l w R:=by
 obtain⟨w',s,f,m⟩:=sZ_ (P:=P) (ps:=ps) (ty:=ty) (af:=af) (g:=g) q v a hi p j f;exact mQ_ s (h w' f m)
theorem T_{B k b:Nat}{t e:TypeId}{x y:Operand}{cs ds:List Value}(a:Bx B k o w b e cs)(p:ev l x=some (.pointer (some ⟨b,0,none⟩)))(s:ev l y=some (.agg ds.toArray))(i:ds.length=cs.length)
  (m:(P.info? t).map (·.size)=some ds.length) (f:∀u∈ds,u.oneCell'=true)
  (h:∀w',Bx B k o w' b e ds->Stp k o w o w'->R undef w'):op1 P ⟨none,.store t x y,ty,ps,af,g⟩ n l w R:=by
 obtain⟨w',q,f,j⟩:=sV_ (P:=P) (ps:=ps) (ty:=ty) (af:=af) (g:=g) p s a i m f;exact mQ_ q (h w' f j)
theorem cf_{B k b:Nat}{t e:TypeId}{x y:Operand}{v u:Value}{xs j:List α}{i:Int}{z:α}(a:Ow B e k o w v xs)(F:v.ownBlock=some b)(hi:st xs i z=some j)(m:Rp.rd o w [u] z)(G:k≠0)(f:Rp.sz α=1)
  (D:ev l x=some (.pointer (some ⟨b,0+i.toNat*Rp.sz α,none⟩))) (E:ev l y=some u) (A:∀w,(sizeOf t).run P w=.ok 1 w) (p:u.cells= #[u])
  (h:∀w',Ow B e k o w' v j->Stp k o w o w'->R undef w'):op1 P ⟨none,.store t x y,ty,ps,af,g⟩ n l w R:=by
 obtain⟨w',C,s,q⟩:=te_ (P:=P) (ps:=ps) (ty:=ty) (af:=af) (g:=g) f D E a F hi G A p m;exact mQ_ C (h w' s q)
theorem o_{f:FuncId}{xs:List Operand}{vs:List Value}{b:Array TypeId}{C:Ending->World->Prop}(i:Calls P f vs.toArray w C)(a:∀args w,(callFunc f args).run P w=.ok (.enter f args) w)(j:EvL l xs vs)
  (h:∀e w',C e w'->∃v,e=.returned v∧R v w'):op1 P ⟨some d,.call {callee:=.value (.func f),args:=xs.toArray,argTypes:=b},ty,ps,af,g⟩ n l w R:=
 iY_ (wl_ a j) i h
def rtg(k k':Nat)(o:Tg):Tg:=λb=>if o b=k then k' else if o b=k' then 0 else o b
theorem Ow.rtg{B k:Nat}{e:TypeId}{v:Value}{xs:List α}(h:Ow B e k o w v xs)(k':Nat)(t:k≠0):Ow B e k' (Go.Proofs.YtdbbeldgdgonfaaGreat.rtg k k' o) w v xs:=by
 obtain⟨css,p,m,j,q⟩:=h;refine⟨css,p,m,λg f=>by unfold Go.Proofs.YtdbbeldgdgonfaaGreat.rtg;rw[if_pos (j g f)],λi cs x a b=>Rp.mv (q i cs x a b) (Nat.le_refl _) λb _ s=>⟨rfl,?_⟩⟩;unfold Go.Proofs.YtdbbeldgdgonfaaGreat.rtg;rw[s,if_neg (Ne.symm t)];split<;>rfl
theorem Ow.rtg_ne{B j k k':Nat}{e:TypeId}{v:Value}{xs:List α}(h:Ow B e j o w v xs)(u:j≠k)(t:j≠k')(A:k≠0):Ow B e j (Go.Proofs.YtdbbeldgdgonfaaGreat.rtg k k' o) w v xs:=by
 obtain⟨css,f,q,m,p⟩:=h;refine⟨css,f,q,λg s=>by unfold Go.Proofs.YtdbbeldgdgonfaaGreat.rtg;rw[m g s,if_neg u,if_neg t],λi cs x a b=>Rp.mv (p i cs x a b) (Nat.le_refl _) λb _ y=>⟨rfl,?_⟩⟩;unfold Go.Proofs.YtdbbeldgdgonfaaGreat.rtg;rw[y,if_neg (Ne.symm A)];split<;>rfl
theorem RdL.rtg{v:Value}{xs:List α}(h:RdL o w v xs)(k k':Nat)(e:k≠0):RdL (Go.Proofs.YtdbbeldgdgonfaaGreat.rtg k k' o) w v xs:=h.mv (Nat.le_refl _) λb _ a=>⟨rfl,by
 unfold Go.Proofs.YtdbbeldgdgonfaaGreat.rtg;rw[a,if_neg (Ne.symm e)];split<;>rfl⟩
omit [Rp α] in
theorem Bx.rtg_ne{B j k k' b:Nat}{e:TypeId}{cs:List Value}(h:Bx B j o w b e cs)(f:j≠k)(a:j≠k'):Bx B j (Go.Proofs.YtdbbeldgdgonfaaGreat.rtg k k' o) w b e cs:=
 ⟨h.blk,by unfold Go.Proofs.YtdbbeldgdgonfaaGreat.rtg;rw[h.tag,if_neg f,if_neg a],h.lo⟩
omit [Rp α] in
omit [Rp α] in
theorem Bs.rtg(h:Bs oo o w0 w)(k k':Nat)(f:2<=k)(a:2<=k'):Bs oo (Go.Proofs.YtdbbeldgdgonfaaGreat.rtg k k' o) w0 w:=⟨h.keeps,λb e=>by
 have:=h.old b e;unfold Go.Proofs.YtdbbeldgdgonfaaGreat.rtg;rw[<-this,if_neg,if_neg]
 ·split at this<;>omega
 ·split at this<;>omega⟩
theorem fC_{x y:Operand}{t e f:TypeId}{B k:Nat}{v:Value}{xs:List α}{i:Int}{u:α}(h:Ow B f k o w v xs)(hi:ix xs i=some u)(C:ev l x=some v)(D:ev l y=some (.int .i64 i))
  (E:P.underlying t=some (.slice e)) (s:∀w,(sizeOf e).run P w=.ok (Rp.sz α) w)
  (h:∀b cs,v.ownBlock=some b->Cells w b (0+i.toNat*Rp.sz α) cs->Rp.rd o w cs u->R (.pointer (some ⟨b,0+i.toNat*Rp.sz α,none⟩)) w):op1 P ⟨some d,.indexAddr t x y,ty,ps,af,g⟩ n l w R:=by
 rename_i j;obtain⟨a,c,rfl⟩:=Ow.form (by assumption:Ow B f k o w v xs);obtain⟨m,F,q⟩:=fx_ hi;obtain⟨b,cs,rfl,_,p,A,_⟩:=Ow.at (by assumption:Ow B f k o w _ xs) q;exact M_ (ih_ C D m (by omega) E s) (h b cs rfl p A)
theorem iH_{v:Value}{xs:List α}(h:RdL o w v xs):Rp.rd o w [v] xs:=⟨v,rfl,h⟩
theorem RdL.cells1{v:Value}{xs:List α}(h:RdL o w v xs):v.cells= #[v]:=by obtain⟨a,c,rfl⟩:=h.form;rfl
theorem Ow.cells1{B k:Nat}{e:TypeId}{v:Value}{xs:List α}(h:Ow B e k o w v xs):v.cells= #[v]:=by obtain⟨a,c,rfl⟩:=h.form;rfl
theorem RdL.one1{v:Value}{xs:List α}(h:RdL o w v xs):v.oneCell'=true:=by obtain⟨a,c,rfl⟩:=h.form;rfl
theorem Ow.one1{B k:Nat}{e:TypeId}{v:Value}{xs:List α}(h:Ow B e k o w v xs):v.oneCell'=true:=by obtain⟨a,c,rfl⟩:=h.form;rfl
omit [Rp α]
theorem gQ_{M:Act->World->Prop}:∀{xs f:List Oper}{a:Act}{w:World},wpList P ops (Po M (λ_ _=>False) noE) xs a w->(∀a w,M a w->wpList P ops Q f a w)->wpList P ops Q (xs++f) a w
 |[],f,a,w,h,k=>k a w h
 | o::xs,f,a,w,h,k=>by
  unfold wpList at h;show wpList P ops Q (o::(xs++f)) a w;unfold wpList;split
  ·rename_i i;rw[if_pos i] at h;rcases h with h|⟨_,h⟩
   ·refine .inl ?_;unfold Oper.wp at*
    generalize (execOp a.eval o).run P w=r at*
    cases r with
    | ok x w'=>
     cases x<;>simp only[Oper.upon] at h ⊢<;>
      first
       |exact gQ_ h k
       | exact Calls.mono h (λe j b=>by
         cases e with
         |returned v=>exact gQ_ b k
         |panicked c=>exact(b:False).elim
         |outgrown=>obtain⟨_,_,m⟩:=b;exact(m:False).elim)
       |exact Rows.mono h (λ_ _ b=>gQ_ b k)
       |exact h
    |halt x w'=>cases x<;>simp only[Oper.upon] at h ⊢<;>first|exact(h:False).elim|exact h
   ·obtain⟨_,_,h⟩:=h;exact(h:False).elim
  ·rename_i i;rw[if_neg i] at h;exact gQ_ h k
theorem bc_(m:Nat)(M:Act->World->Prop){xs:List Oper}(e:wpF P ops (Po M (λ_ _=>False) noE) (xs.take m) n l w)(b:∀a w,M a w->wpList P ops Q (xs.drop m) a w):wpF P ops Q xs n l w:=λa f=>by
 have:=gQ_ (e a f) b;rwa [List.take_append_drop] at this
theorem aH_{xs:List Oper}{a:Act}(b:Fr a n l)(h:wpF P ops Q xs n l w):wpList P ops Q xs a w:=h a b
theorem J_{c:Code}{a:Act}(b:Fr a n l)(h:wpC P c Q n l w):c.wp P Q a w:=h a b
theorem ap_k{K:Act->World->Prop}{a:Act}(b:Fr a n l)(h:∀a,Fr a n l->K a w):K a w:=h a b
theorem v_{x:Code}(M N:Act->World->Prop)(f:wpC P x (Po M N noE) n l w)(b:∀a w,M a w->Q .normal a w)(j:∀a w,N a w->Q .ret a w):wpC P x Q n l w:=
 rf_ f λe a w h=>by
  cases e with
  |normal=>exact b a w h
  |ret=>exact j a w h
  |exit i=>exact h.elim
  |goto i=>exact h.elim
  |panic c=>exact h.elim
  |outgrown=>exact h.elim
def enumA:Nat->List Value->List (Nat×Value)
  |_,[]=>[]
  |i,v::vs=>(i,v)::enumA (i+1) vs
theorem oi_:∀{vs:List Value}{i t:Nat}{v:Value},Kn (enumA i vs) t=some v->i<=t∧vs[t-i]? =some v
 |[],i,t,v,h=>by simp[enumA,Kn] at h
 |u::vs,i,t,v,h=>by
  simp only[enumA,Kn] at h;split at h
  ·rename_i e;subst e;cases h;exact⟨Nat.le_refl _,by simp⟩
  ·rename_i e;obtain⟨b,a⟩:=oi_ h;refine⟨by omega,?_⟩;rw[show t-i=(t-(i+1))+1 by omega,List.getElem?_cons_succ];exact a
theorem i_{f:FuncId}{a:Func}{c:Code}{vs:List Value}{R:Ending->World->Prop}(i:P.funcs[f]? =some a)(j:a.body=some c)(m:vs.length+(a.ntmps-vs.length)=n)
  (h:wpC P c (bodyPost P a R) n (enumA 0 vs) w):Calls P f vs.toArray w R:=by
 refine uo_ i j (by simpa using m) (λt v k=>?_) h;obtain⟨_,e⟩:=oi_ k;rw[Nat.sub_zero] at e;have b:=(List.getElem?_eq_some_iff.1 e).1;simp only[Array.getD_eq_getD_getElem?];rw[Array.getElem?_append_left (by simpa using b)];simp[e]
theorem al_{t:TypeId}{b k:Nat}{cs:List Value}(a:∀w,(isAgg t).run P w=.ok true w)(i:∀w,(sizeOf t).run P w=.ok k w)(h:cs.length=k)(e:Cells w b 0 cs):(loadVar t ⟨b,0,none⟩).run P w=.ok (.agg cs.toArray) w:=by
 subst h;have:=eX_ (P:=P) (w:=w) (b:=b) (off:=0) cs 0 #[] (by simpa using e);have f:(loadCells ⟨b,0,none⟩ cs.length).run P w=.ok cs.toArray w:=by simpa [loadCells] using this
 simp only[loadVar,Sem.run_bind,a,Result.andThen_ok,if_true,i,f,Sem.run_pure]
theorem ba_{d:Option Nat}{t:TypeId}{a:List (Nat×Operand)}{vs:List (Nat×Value)}{cs:List Value}(b:EvP l a vs)(e:P.built t vs=some cs.toArray):
  ∀ρ,Agr ρ l->(execOp ρ ⟨d,.build t a.toArray,ty,ps,af,g⟩).run P w=.ok (.value (.agg cs.toArray)) w:=by
 intro ρ h;have f:(a.toArray.map λ(i,x)=>(i,ρ x)).toList=vs:=by simp[<-EvP.map h b]
 have:=run_build (P:=P) w t (a.toArray.map λ(i,x)=>(i,ρ x)) cs.toArray (by rw[f];exact e);simp only[execOp,Sem.run_bind,this,Result.andThen_ok];rfl
theorem fill0{z:Value}:Instr.fill (λi=>some (i*1,1)) ((Array.range (0*1)).map ((if 0*1=0 then #[] else z.cells)[·%(if 0*1=0 then #[] else z.cells).size]!)) []=some ([]:List Value).toArray:=by
 simp[Instr.fill]
theorem fill1{z v:Value}(a:v.cells= #[v]):Instr.fill (λi=>some (i*1,1)) ((Array.range (1*1)).map ((if 1*1=0 then #[] else z.cells)[·%(if 1*1=0 then #[] else z.cells).size]!)) [(0,v)]=some [v].toArray:=by
 simp[Instr.fill,a];refine Array.ext (by simp) λi e b=>?_;have:i=0:=by simp at b;omega
 subst this;simp
theorem fill2{z v u:Value}(a:v.cells= #[v])(e:u.cells= #[u]):Instr.fill (λi=>some (i*1,1)) ((Array.range (2*1)).map ((if 2*1=0 then #[] else z.cells)[·%(if 2*1=0 then #[] else z.cells).size]!)) [(0,v),(1,u)]=some [v,u].toArray:=by
 simp[Instr.fill,a,e];refine Array.ext (by simp) λi f b=>?_;have:i=0∨i=1:=by simp at b;omega
 rcases this with rfl|rfl<;>simp
end
end
end Go.Proofs.YtdbbeldgdgonfaaGreat
