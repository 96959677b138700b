/- Part 2 of what this claim rests on (pack.py). -/
import Derived.Test.YtpefhaamcihneaaGreatP01
namespace Go.Proofs.YtpefhaamcihneaaGreat
set_option linter.unusedSimpArgs false
set_option linter.unusedVariables false
open Go.RowKit
section
def ext(o:Tg)(n k:Nat):Tg:=λb=>if b<n then o b else k
theorem jK(o:Tg)(n k b:Nat)(h:n<=b):ext o n k b=k:=by unfold ext;rw[if_neg om]
theorem mf(o:Tg)(n k b:Nat)(h:b<n):ext o n k b=o b:=by unfold ext;rw[if_pos h]
theorem eo(o:Tg)(w:World)(e:Obj)(k t:Nat):Stp t o w (ext o w.heap.size k) (w.alloc e):=
 ⟨rfl,rfl,rfl,sy,λb a _=>heap_alloc_old w e a,λb a=>mf _ _ _ _ a⟩
theorem BZ{o:Tg}{w w':World}{t:Nat}{r:Option Nat}(h:w.grownBy w' r)(i:∀g,r=some g->o g=t)(k:Nat):Stp t o w (ext o w.heap.size k) w':=
 ⟨h.os,h.tape,h.output,h.size,λb a f=>h.block b a (λe=>f (i b e.symm)),λb a=>mf _ _ _ _ a⟩
class Rz (α:Type) [Rp α] where
  z:α
  zc:List Value
  rdz:∀(o:Tg)(w:World),Rp.rd o w zc z
instance:Rz Int:=⟨0,[.int .i64 0],λ_ _=>rfl⟩
instance:Rz Bool:=⟨false,[.bool false],λ_ _=>rfl⟩
instance {α:Type} [Rp α]:Rz (List α):=⟨[],[.slice none 0 0],λo w=>⟨_,rfl,RdL.nil o w⟩⟩
def EvL(l:List (Nat×Value)):List Operand->List Value->Prop
  |[],[]=>True
  |x::xs,v::vs=>ev l x=some v∧EvL l xs vs
  |_,_=>False
theorem EvL.map{l:List (Nat×Value)}{ρ:Operand->Value}(a:Agr ρ l):∀{xs:List Operand}{vs:List Value},EvL l xs vs->xs.map ρ=vs
 |[],[],_=>rfl
 |x::xs,v::vs,h=>by rw[bd,a x v h.1,EvL.map a h.2]
 |[],_::_,h=>h.elim
 |_::_,[],h=>h.elim
def EvP(l:List (Nat×Value)):List (Nat×Operand)->List (Nat×Value)->Prop
  |[],[]=>True
  |(i,x)::xs,(j,v)::vs=>i=j∧ev l x=some v∧EvP l xs vs
  |_,_=>False
theorem EvP.map{l:List (Nat×Value)}{ρ:Operand->Value}(a:Agr ρ l):∀{xs:List (Nat×Operand)}{vs:List (Nat×Value)},EvP l xs vs->(xs.map λp=>(p.1,ρ p.2))=vs
 |[],[],_=>rfl
 |(i,x)::xs,(j,v)::vs,h=>by
  obtain⟨rfl,b,e⟩:=h;rw[bd,a x v b,EvP.map a e]
 |[],_::_,h=>h.elim
 |_::_,[],h=>h.elim
section
variable {P:Program} {l:List (Nat×Value)} {w w0:World} {d:Option Nat} {ty:TypeId} {ps:String} {af:Array Edge} {g:Option (Nat×Bool)} {o:Tg} {α:Type} [Rp α]
theorem DV{f:FuncId}{xs:List Operand}{vs:List Value}{b:Array TypeId}(a:∀args w,(callFunc f args).run P w=.ok (.enter f args) w)(i:EvL l xs vs):
  ∀ρ,Agr ρ l->(execOp ρ ⟨d,.call {callee:=.value (.func f),args:=xs.toArray,argTypes:=b},ty,ps,af,g⟩).run P w=.ok (.enter f vs.toArray) w:=by
 intro ρ e;have h:ρ (.func f)=.func (.func f) #[] #[]:=e (.func f) _ rfl;simp only[execOp,resolve,aF,h,Deferred.ofValue,bt,aL,invoke,et,EvL.map e i];simp[a]
theorem oE{a:Option Addr}{n c:Nat}{xs q:List α}{lo hi:Int}(h:RdL o w (.slice a n c) xs)(C:cut xs lo hi=some q):
  RdL o w (sliced a lo.toNat hi.toNat c (Rp.sz α)) q∧n=xs.length∧0<=lo∧lo<=hi∧hi<=c∧hi<=n:=by
 obtain⟨G,I,e,H,F,t⟩:=h;cases e
 obtain⟨v,A,D,rfl⟩:=jB C;refine⟨?_,rfl,v,A,om,D⟩;have f:((xs.take hi.toNat).drop lo.toNat).length=hi.toNat-lo.toNat:=by simp;omega
 unfold sliced;refine⟨_,c-lo.toNat,by rw[f],by rw[f];omega,om,λi x p=>?_⟩
 ·have y:i<hi.toNat-lo.toNat:=by rw[<-f];exact(Y_.1 p).1
  rw[dV,bO,if_pos om] at p;obtain⟨b,off,cs,s,E,B,k,u⟩:=t _ x p;have m:¬c=lo.toNat:=om;rw[if_neg m,s];have j:(⟨b,off,none⟩:Addr).add (lo.toNat*Rp.sz α)=⟨b,off+lo.toNat*Rp.sz α,none⟩:=by
   unfold Addr.add;split
   ·rename_i h;rw[h];rfl
   ·rfl
  refine⟨b,off+lo.toNat*Rp.sz α,cs,by simp[j],E,B,?_,u⟩;rw[show off+lo.toNat*Rp.sz α+i*Rp.sz α=off+(lo.toNat+i)*Rp.sz α by rw[oL];omega];exact k
theorem oh{t e:TypeId}{a:Option Addr}{n c sz:Nat}{lo hi:Option Value}{lo' hi':Int}(k:P.underlying t=some (.slice e))(h:∀w,(sizeOf e).run P w=.ok sz w)
  (i:lo=some (.int .i64 lo')∨(lo=none∧lo'=0)) (j:hi=some (.int .i64 hi')∨(hi=none∧hi'=n)) (q:0<=lo') (p:lo'<=hi') (m:hi'<=c):
  (Instr.sliceAt t (.slice a n c) lo hi none).run P w=.ok (sliced a lo'.toNat hi'.toNat c sz) w:=by
 have f:P.elem t=e:=by simp[Program.elem,k]
 have b:P.underlying t=some (.slice (P.elem t)):=by rw[f];exact k
 rw[run_sliceAt_slice (P:=P) (w:=w) t _ _ _ _ b];rcases i with rfl|⟨rfl,rfl⟩<;>rcases j with rfl|⟨rfl,rfl⟩
 ·rw[run_slice_lh (P:=P) (w:=w) t a n c b _ _ _ _ q p m,f,h];rfl
 ·rw[run_slice_l (P:=P) (w:=w) t a n c b _ _ q p,f,h];simp[Result.andThen]
 ·rw[run_slice_h (P:=P) (w:=w) t a n c b _ _ om m,f,h];simp[Result.andThen]
 ·rw[run_slice_all (P:=P) (w:=w) t a n c b,f,h];simp[Result.andThen]
def EvB(l:List (Nat×Value))(x:Option Operand)(dflt i:Int):Prop:=
  match x with
  |none=>i=dflt
  |some x=>ev l x=some (.int .i64 i)
def RdC(o:Tg)(w:World):List Value->List α->Prop
  |cs,[]=>cs=[]
  |cs,x::xs=>∃c r,cs=c++r∧Rp.rd o w c x∧RdC o w r xs
theorem RdC.css{cs:List Value}{xs:List α}(h:RdC o w cs xs):∃css:List (List Value),css.length=xs.length∧css.flatten=cs∧∀(i:Nat) c x,css[i]? =some c->xs[i]? =some x->Rp.rd o w c x:=by
 induction xs generalizing cs with
 |nil=>exact⟨[],rfl,by simp[RdC] at h;simp[h],λi c x h=>by simp at h⟩
 |cons x xs ih=>
  obtain⟨c,r,rfl,m,e⟩:=h;obtain⟨css,k,j,f⟩:=ih e;refine⟨c::css,by simp[k],by simp[j],λi n p a b=>?_⟩;cases i with
  |zero=>simp at a b;subst a;subst b;exact m
  |succ i=>exact f i n p (su a) (su b)
theorem ol{B k:Nat}{e:TypeId}{cs:List Value}{xs:List α}(h:RdC o w cs xs)(A:B<=w.heap.size)(u:xs.length<=maxLen):
  Ow B e k (ext o w.heap.size k) (w.alloc (.cells cs.toArray e)) (.slice (some ⟨w.heap.size,0,none⟩) xs.length xs.length) xs:=by
 obtain⟨css,f,m,j⟩:=h.css;have a:=Ow.lens (e:=e) (B:=B) f j;have p:css.flatten.length=xs.length*Rp.sz α:=by
  rw[<-f];clear f m j
  induction css with
  |nil=>simp
  |cons c css ih=>rw[br,ar,ih (λx n=>a x (sh n)),a c sy,ao,dU];omega
 have t:Stp k o w (ext o w.heap.size k) (w.alloc (.cells cs.toArray e)):=eo _ _ _ _ _;refine⟨css,f,?_,λg s=>?_,λi c x v n=>Rp.mv (j i c x v n) t.size λb q y=>⟨heap_alloc_old w _ q,by rw[mf _ _ _ _ q];exact y⟩⟩
 ·have:=World.ownsRow_lit (e:=e) (size:=Rp.sz α) (base:=B) w cs.toArray xs.length A u (by rw[oM,<-m,p]);rw[m];exact this
 ·simp[Value.ownBlock] at s;subst s;exact jK _ _ _ _ (K_ _)
theorem qC{t e:TypeId}{n sz:Nat}{z:Value}{a:List (Nat×Operand)}{vs:List (Nat×Value)}{cs:List Value}(j:P.underlying t=some (.slice e))(h:∀w,(sizeOf e).run P w=.ok sz w)
  (u:∀w,(zeroValue e).run P w=.ok z w) (s:n*sz<=16777216) (p:EvP l a vs)
  (b:Instr.fill (λi=>some (i*sz,sz)) ((Array.range (n*sz)).map ((if n*sz=0 then #[] else z.cells)[·%(if n*sz=0 then #[] else z.cells).size]!)) vs=some cs.toArray):
  ∀ρ,Agr ρ l->(execOp ρ ⟨d,.buildSlice t n a.toArray,ty,ps,af,g⟩).run P w=.ok (.value (.slice (some ⟨w.heap.size,0,none⟩) n n)) (w.alloc (.cells cs.toArray e)):=by
 intro ρ q;have k:(a.toArray.map λ(i,x)=>(i,ρ x)).toList=vs:=by simp[<-EvP.map q p]
 have m:¬n*sz>2^24:=om;by_cases f:n*sz=0
 ·simp only[if_pos f] at b;simp only[execOp,Instr.buildSlice,run_underlying j,aF,aL,h,m,if_false,if_pos f,k,b,bt,newRow,newObj];rfl
 ·simp only[if_neg f] at b;simp only[execOp,Instr.buildSlice,run_underlying j,aF,aL,h,m,if_false,if_neg f,u,k,b,bt,newRow,newObj];rfl
def Inf(P:Program)(e:TypeId)(z:Value)(sz bytes:Nat):Prop:=(P.info? e).map (λi=>(i.zero,i.size,i.bytes))=some (some z,sz,bytes)
theorem Bq(cs:List Value)(n:Nat)(b:0<cs.length):(madeCells cs.toArray (n*cs.length)).toList=(List.replicate n cs).flatten:=by
 induction n with
 |zero=>simp[madeCells]
 |succ n ih=>
  rw[xN,oN,<-ih];simp only[madeCells,Array.toList_map,Array.toList_range,br,List.flatten_nil,bm];rw[dU,List.range_add,ew,xO];congr 1;apply dr sy;intro i a e;simp at a;simp[xP a,a]
theorem Et[Rz α]{B k:Nat}{t e:TypeId}{z:Value}{b:Nat}{x y:Operand}{n:Int}{h:List α}(I:ev l x=some (.int .i64 n))(G:ev l y=some (.int .i64 n))(E:mk (Rz.z:α) n=some h)
  (F:P.underlying t=some (.slice e)) (hi:Inf P e z (Rp.sz α) b) (J:z.cells=(Rz.zc (α:=α)).toArray) (hb:b<=1000) (hB:B<=w.heap.size):
  ∃w' a c,(∀ρ,Agr ρ l->(execOp ρ ⟨d,.makeSlice t x y,ty,ps,af,g⟩).run P w=.ok (.value (.slice a h.length c)) w')∧
   Ow B e k (ext o w.heap.size k) w' (.slice a h.length c) h∧Stp k o w (ext o w.heap.size k) w':=by
 obtain⟨D,K,rfl⟩:=xf E;obtain⟨H,i,q,A,u⟩:=info_parts hi;have f:(Rz.zc (α:=α)).length=Rp.sz α:=Rp.len (Rz.rdz (α:=α) o w);have j:=run_make (P:=P) w t e H z F i q .i64 .i64 n n D (N_ _) (by
  rw[u];have:=Int.mul_le_mul (show(b:Int)<=1000 by omega) (show n<=1000000000 by omega) D om;omega) om
 rw[A,J] at j;have p:(madeCells (Rz.zc (α:=α)).toArray (n.toNat*Rp.sz α))=((List.replicate n.toNat (Rz.zc (α:=α))).flatten).toArray:=by
  apply Fo.1;rw[<-f,Bq _ _ (by rw[f];exact Rp.pos)]
 rw[p] at j;have v:RdC o w (List.replicate n.toNat (Rz.zc (α:=α))).flatten (List.replicate n.toNat (Rz.z:α)):=by
  generalize n.toNat=m
  induction m with
  |zero=>simp[RdC]
  |succ m ih=>rw[mu,br,mu];exact⟨_,_,rfl,Rz.rdz o w,ih⟩
 have s:(List.replicate n.toNat (Rz.z:α)).length=n.toNat:=sy;refine⟨w.alloc (.cells (List.replicate n.toNat (Rz.zc (α:=α))).flatten.toArray e),some ⟨w.heap.size,0,none⟩,n.toNat,λρ C=>?_,?_,eo _ _ _ _ _⟩
 ·simp only[execOp,C x _ I,C y _ G,aF,j,aL,s];rfl
 ·have:=ol (B:=B) (k:=k) (e:=e) v hB (by rw[s];simp only[maxLen];omega);rw[s] at this ⊢;exact this
theorem RdL.css{a:Option Addr}{m c:Nat}{zs:List α}(h:RdL o w (.slice a m c) zs):∃css:List (List Value),css.length=zs.length∧css.flatten.length=zs.length*Rp.sz α∧m=zs.length∧(a=none->m=0)∧
  (∀(i:Nat) cs x,css[i]? =some cs->zs[i]? =some x->Rp.rd o w cs x)∧(∀G,a=some G->∀j u,css.flatten[j]? =some u->w.cell? (G.add j)=some u):=by
 obtain⟨Q,U,e,S,O,E⟩:=h;cases e
 have F:∀(q:List α)(k:Nat),(∀(i:Nat) x,q[i]? =some x->zs[k+i]? =some x)->∃css:List (List Value),css.length=q.length∧css.flatten.length=q.length*Rp.sz α∧
   (∀(i:Nat) cs x,css[i]? =some cs->q[i]? =some x->Rp.rd o w cs x)∧(∀b off,a=some ⟨b,off,none⟩->Cells w b (off+k*Rp.sz α) css.flatten):=by
  intro q
  induction q with
  |nil=>exact λk _=>⟨[],rfl,sy,λi cs x h=>by simp at h,λb off _ j u f=>by simp at f⟩
  | cons y q ih=>
   intro k M;obtain⟨css,D,J,I,H⟩:=ih (k+1) (λi x C=>by rw[show k+1+i=k+(i+1) by omega];exact M (i+1) x (su C));obtain⟨b,off,cs,n,V,R,N,K⟩:=E k y (by have:=M 0 y rfl;simpa using this);have s:cs.length=Rp.sz α:=Rp.len K;refine⟨cs::css,by simp[D],by rw[br,ar,J,s,ao,dU];omega,λi c x p C=>?_,λT L A j u f=>?_⟩
   ·cases i with
    |zero=>simp at p C;subst p;subst C;exact K
    |succ i=>exact I i c x (su p) (su C)
   ·rw[n] at A;cases A;rw[br] at f;by_cases v:j<cs.length
    ·rw[bN v] at f;exact N j u f
    ·rw[cj om] at f;have:=H b off n (j-cs.length) u f;rw[s] at this v;rw[show off+k*Rp.sz α+j=off+(k+1)*Rp.sz α+(j-Rp.sz α) by rw[dU];omega];exact this
 obtain⟨css,D,J,I,H⟩:=F zs 0 (λi x h=>by simpa using h);refine⟨css,D,J,rfl,λe=>?_,I,λG B j u f=>?_⟩
 ·cases zs with
  |nil=>rfl
  |cons z zs=>
   obtain⟨b,off,cs,n,_⟩:=E 0 z rfl;rw[e] at n;cases n
 cases zs with
 |nil=>
  have:css=[]:=cD (su D);subst this;simp at f
 | cons z zs=>
  obtain⟨b,off,cs,n,_⟩:=E 0 z rfl;rw[n] at B;cases B;have:=H b off n j u f;have t:(⟨b,off,none⟩:Addr).add j=⟨b,off+j,none⟩:=by
   unfold Addr.add;split
   ·rename_i h;rw[h];rfl
   ·rfl
  rw[t];simpa using this
theorem AW{t a ty:TypeId}{v:Value}{m c:Nat}:Builtin.append_ #[t,a] ty #[v,.slice none m c]=Builtin.append_ #[t,a] ty #[v,.slice none m 0]:=by
 unfold Builtin.append_;simp[Builtin.lenOf,Builtin.firstCells,Builtin.mayShare,asInt,asIntOf]
theorem CC{B k:Nat}{t e:TypeId}{z:Value}{b:Nat}{x y:Operand}{v:Value}{a:Option Addr}{m c:Nat}{xs zs H:List α}(hx:ev l x=some v)(hy:ev l y=some (.slice a m c))
  (A:Ow B e k o w v xs) {U:Tg} (hr:RdL U w (.slice a m c) zs) (M:∀cs x,Rp.rd U w cs (x:α)->Rp.rd o w cs x) (hc:cat xs zs=some H) (hk:k≠0)
  (ht:P.underlying t=some (.slice e)) (hi:Inf P e z (Rp.sz α) b) (K:z.cells.size=Rp.sz α) (hb:b<=1000) (hB:B<=w.heap.size):
  ∃w' J G,(∀ρ,Agr ρ l->(execOp ρ ⟨d,.call {callee:=.builtin .append,args:= #[x,y],argTypes:= #[t,t]},ty,ps,af,g⟩).run P w=.ok (.value (.slice J H.length G)) w')∧
   Ow B e k (ext o w.heap.size k) w' (.slice J H.length G) H∧Stp k o w (ext o w.heap.size k) w':=by
 obtain⟨h0,rfl⟩:=vH hc;obtain⟨i0,T,L,N,R⟩:=info_parts hi;obtain⟨css,O,e2,Y,X⟩:=A;obtain⟨j,f1,f2,rfl,f4,W,f6⟩:=hr.css;have F:∀u∈j.flatten,u.oneCell'=true:=by
  intro u n;obtain⟨cs,f,S⟩:=ga.1 n;obtain⟨i,hi'⟩:=bS.1 f;have s:=(Y_.1 hi').1;exact Rp.one (W i cs _ hi' (x_ om)) u S
 obtain⟨Q,w',h,h1,h2,q,h4⟩:=As (P:=P) w B t ty e i0 z (Rp.sz α) b ht T L N R K Rp.pos v xs.length css.flatten e2 a zs.length (if a=none then 0 else c) j.flatten f2 (λe=>⟨f4 e,if_pos e⟩) f6 F
  (by
   have:=mw h0 hb;omega) (by simp only[maxLen];omega) hB
 have D:(Builtin.append_ #[t,t] ty #[v,.slice a zs.length c]).run P w=.ok Q w':=by
  cases a with
  |none=>rw[AW];exact h
  |some ad=>exact h
 have C:Stp k o w (ext o w.heap.size k) w':=BZ h2 (λg I=>Y g I) k;have p:∀g,Q.ownBlock=some g->ext o w.heap.size k g=k:=by
  intro g I;by_cases s:g<w.heap.size
  ·rw[mf _ _ _ _ s];rcases q with q|q
   ·exact Y g (by rw[<-q];exact I)
   ·have:=(q.lt g I).1;omega
  ·exact jK _ _ _ _ om
 have hcl:=Ow.lens (e:=e) (B:=B) O X;have E:Ow B e k (ext o w.heap.size k) w' Q (xs++zs):=by
  refine⟨css++j,by simp[O,f1],by rw[oN,ar];exact h1,p,λi cs u f n=>?_⟩;refine Rp.stp ?_ C hk;by_cases hi':i<css.length
  ·rw[bN hi'] at f;rw[bN om] at n;exact X i cs u f n
  ·rw[cj om] at f;rw[cj om,<-O] at n;exact M _ _ (W _ cs u f n)
 obtain⟨J,G,Z⟩:=E.form;refine⟨w',J,G,λρ V=>?_,by rw[<-Z];exact E,C⟩;simp only[execOp,resolve,invoke,builtin,aF,bt,aL,et,bd,eu,V x _ hx,V y _ hy,D,Z]
end
end
section
section
variable {P:Program} {Q:Exit->Act->World->Prop} {n:Nat} {l:List (Nat×Value)} {w w0:World} {d:Option Nat} {ty:TypeId} {ps:String} {af:Array Edge} {g:Option (Nat×Bool)} {o:Tg} {α:Type} [Rp α]
def sub:List Nat->Code->Code
  |[],c=>c
  |0::p,.seq a _=>sub p a
  |_::p,.seq _ b=>sub p b
  |0::p,.cond _ a _=>sub p a
  |_::p,.cond _ _ b=>sub p b
  |_::p,.block _ c=>sub p c
  |_::p,.loop c=>sub p c
  |_::p,.scope c=>sub p c
  |_,c=>c
theorem C_{x:Operand}{t e:TypeId}{v:Value}{xs:List α}{b:Tg}{i:World}(j:ev l x=some v)(h:RdL b i v xs)(f:P.underlying t=some (.slice e)):
  ∀ρ,Agr ρ l->(execOp ρ ⟨d,.call {callee:=.builtin .len,args:= #[x],argTypes:= #[t]},ty,ps,af,g⟩).run P w=.ok (.value (.int .i64 xs.length)) w:=by
 obtain⟨a,c,rfl⟩:=h.form;exact qH j f
theorem aU{x:Operand}{t e f:TypeId}{B k:Nat}{v:Value}{xs:List α}(i:ev l x=some v)(h:Ow B f k o w v xs)(b:P.underlying t=some (.slice e)):
  ∀ρ,Agr ρ l->(execOp ρ ⟨d,.call {callee:=.builtin .len,args:= #[x],argTypes:= #[t]},ty,ps,af,g⟩).run P w=.ok (.value (.int .i64 xs.length)) w:=by
 obtain⟨a,c,rfl⟩:=h.form;exact qH i b
theorem xu{x y:Operand}{t e:TypeId}{v:Value}{xs:List α}{i:Int}{u:α}(A:ev l x=some v)(m:ev l y=some (.int .i64 i))(h:RdL o w v xs)(hi:ix xs i=some u)
  (k:P.underlying t=some (.slice e)) (j:∀w,(sizeOf e).run P w=.ok (Rp.sz α) w):
  ∃b off cs,(∀f ρ,Agr ρ l->(execOp ρ ⟨d,.indexAddr t x y,ty,ps,af,g⟩).run P f=.ok (.value (.pointer (some ⟨b,off,none⟩))) f)∧Cells w b off cs∧Rp.rd o w cs u:=by
 obtain⟨a,c,rfl⟩:=h.form;obtain⟨B,C,p⟩:=dQ hi;obtain⟨b,off,cs,rfl,s,q,_⟩:=h.at p;exact⟨b,_,cs,λf=>jx A m B om k j,s,q⟩
theorem EN{x y:Operand}{t e A:TypeId}{B k:Nat}{v:Value}{xs:List α}{i:Int}{u:α}(D:ev l x=some v)(p:ev l y=some (.int .i64 i))(h:Ow B A k o w v xs)(hi:ix xs i=some u)
  (m:P.underlying t=some (.slice e)) (j:∀w,(sizeOf e).run P w=.ok (Rp.sz α) w):
  ∃b off cs,(∀f ρ,Agr ρ l->(execOp ρ ⟨d,.indexAddr t x y,ty,ps,af,g⟩).run P f=.ok (.value (.pointer (some ⟨b,off,none⟩))) f)∧Cells w b off cs∧Rp.rd o w cs u:=by
 obtain⟨a,c,rfl⟩:=h.form;obtain⟨E,F,q⟩:=dQ hi;obtain⟨b,cs,rfl,_,C,s,_⟩:=h.at q;exact⟨b,_,cs,λf=>jx D p E om m j,C,s⟩
theorem wT{t e:TypeId}{x:Operand}{lo hi:Option Operand}{v:Value}{xs m:List α}{lo' hi':Int}(C:ev l x=some v)(h:RdL o w v xs)
  (b:EvB l lo 0 lo') (f:EvB l hi xs.length hi') (B:cut xs lo' hi'=some m) (q:P.underlying t=some (.slice e)) (p:∀w,(sizeOf e).run P w=.ok (Rp.sz α) w):
  ∃k,(∀i ρ,Agr ρ l->(execOp ρ ⟨d,.slice t x lo hi none,ty,ps,af,g⟩).run P i=.ok (.value k) i)∧RdL o w k m:=by
 obtain⟨a,c,rfl⟩:=h.form;obtain⟨u,F,D,s,A,E⟩:=oE h B;refine⟨_,λi ρ j=>?_,u⟩
 have:=oh (P:=P) (w:=i) (a:=a) (n:=xs.length) (c:=c) (lo:=lo.map ρ) (hi:=hi.map ρ) (lo':=lo') (hi':=hi') q p
  (by cases lo with
    |none=>exact .inr ⟨rfl,b⟩
    |some y=>exact .inl (by simp[j y _ b]))
  (by cases hi with
    |none=>exact .inr ⟨rfl,f⟩
    |some y=>exact .inl (by simp[j y _ f])) D s A
 simp only[execOp,j x _ C,aF,this,aL,oO];rfl
theorem tq{B k:Nat}{t e:TypeId}{z:Value}{b:Nat}{x y:Operand}{v u:Value}{xs zs q:List α}(H:ev l x=some v)(A:ev l y=some u)
  (f:Ow B e k o w v xs) {m:Tg} (j:RdL m w u zs) (i:∀cs x,Rp.rd m w cs (x:α)->Rp.rd o w cs x) (G:cat xs zs=some q) (D:k≠0)
  (s:P.underlying t=some (.slice e)) (hi:Inf P e z (Rp.sz α) b) (h:z.cells.size=Rp.sz α) (E:b<=1000) (I:B<=w.heap.size):
  ∃w' p,(∀ρ,Agr ρ l->(execOp ρ ⟨d,.call {callee:=.builtin .append,args:= #[x,y],argTypes:= #[t,t]},ty,ps,af,g⟩).run P w=.ok (.value p) w')∧
   Ow B e k (ext o w.heap.size k) w' p q∧Stp k o w (ext o w.heap.size k) w':=by
 obtain⟨a,c,rfl⟩:=j.form;obtain⟨w',K,L,F,C,J⟩:=CC (g:=g) (ps:=ps) (ty:=ty) (af:=af) (d:=d) H A f j i G D s hi h E I;exact⟨w',_,F,C,J⟩
omit [Rp α] in
theorem au{xs a:List α}{x:α}(h:push xs x=some a):cat xs [x]=some a:=by
 obtain⟨b,rfl⟩:=pP h;unfold cat
 rw[if_pos (by simp only[ao,bD];omega)]
theorem EO{e:TypeId}{cs:List Value}{xs:List α}(h:RdC o w cs xs)(f:xs.length<=maxLen):
  RdL (ext o w.heap.size 0) (w.alloc (.cells cs.toArray e)) (.slice (some ⟨w.heap.size,0,none⟩) xs.length xs.length) xs:=by
 refine (ol (B:=0) (k:=0) (e:=e) h (bj _) f).freeze λb _ a=>?_;rcases a with a|a<;>exact a
theorem tM{t:TypeId}{a:Addr}{u:Value}(e:∀w,(sizeOf t).run P w=.ok 1 w)(f:u.cells= #[u])(i:u.oneCell'=true)(j:∃x,w.cell? a=some x)(m:w.frozen? a=false):
  (Instr.storeAt t (.pointer (some a)) u).run P w=.ok () (w.setCell a u):=by
 obtain⟨x,k⟩:=j;have b:=run_store P w a u .plain i;have h:a.add 0=a:=by simp[Addr.add]
 simp only[Instr.storeAt,Instr.sureAddr,storeVar,aF,bt,aL,e,f];simp[storeCells,h,b,k,m]
theorem qj{o:Tg}{w:World}{b i k:Nat}{u:Value}(f:o b=k):Stp k o w o (w.setCell ⟨b,i,none⟩ u):=by
 refine⟨rfl,rfl,rfl,by simp[World.setCell],λc h a=>?_,λ_ _=>rfl⟩;have:c≠b:=λe=>a (by rw[e];exact f);simp only[World.setCell];rw[gb,if_neg (V_ this)]
theorem Ci{B k b i:Nat}{t e:TypeId}{x y:Operand}{u:Value}{cs:List Value}(v:ev l x=some (.pointer (some ⟨b,i,none⟩)))(j:ev l y=some u)(a:Bx B k o w b e cs)(hi:i<cs.length)
  (h:∀w,(sizeOf t).run P w=.ok 1 w) (A:u.cells= #[u]) (q:u.oneCell'=true):
  ∃w',(∀ρ,Agr ρ l->(execOp ρ ⟨none,.store t x y,ty,ps,af,g⟩).run P w=.ok .skip w')∧Bx B k o w' b e (cs.set i u)∧Stp k o w o w':=by
 have s:=a.cell (x_ hi);have p:w.frozen? ⟨b,i,none⟩=false:=by simp[World.frozen?,a.blk]
 have m:=tM (P:=P) h A q ⟨_,s⟩ p;refine⟨w.setCell ⟨b,i,none⟩ u,λρ f=>?_,⟨?_,a.tag,a.lo⟩,qj a.tag⟩
 ·simp only[execOp,f x _ v,f y _ j,aF,m,aL];rfl
 ·simp only[World.setCell];rw[gb,if_pos rfl,a.blk];simp
theorem BJ{B k b:Nat}{t e:TypeId}{x y:Operand}{cs ds:List Value}(q:ev l x=some (.pointer (some ⟨b,0,none⟩)))(i:ev l y=some (.agg ds.toArray))(a:Bx B k o w b e cs)(m:ds.length=cs.length)
  (h:(P.info? t).map (·.size)=some ds.length) (p:∀u∈ds,u.oneCell'=true):
  ∃w',(∀ρ,Agr ρ l->(execOp ρ ⟨none,.store t x y,ty,ps,af,g⟩).run P w=.ok .skip w')∧Bx B k o w' b e ds∧Stp k o w o w':=by
 have j:=run_storeVar_row (P:=P) w b e t cs.toArray ds.toArray a.blk (su h) (sh m) (su p);refine⟨w.setRow b ds.toArray,λρ f=>?_,⟨?_,a.tag,a.lo⟩,⟨rfl,rfl,rfl,by simp[World.setRow],λc v s=>?_,λ_ _=>rfl⟩⟩
 ·simp only[execOp,f x _ q,f y _ i,Instr.storeAt,Instr.sureAddr,aF,bt,j,aL]
 ·simp only[World.setRow];rw[gb,if_pos rfl,a.blk];rfl
 ·have:c≠b:=λe=>s (by rw[e];exact a.tag);simp only[World.setRow];rw[gb,if_neg (V_ this)]
theorem CX(css:List (List Value))(a:∀cs∈css,cs.length=1)(i:Nat)(u:Value):(css.set i [u]).flatten=css.flatten.set i u:=by
 induction css generalizing i with
 |nil=>simp
 |cons c css ih=>
  have b:=a c sy;obtain⟨z,rfl⟩:=oP.1 b;cases i with
  |zero=>simp
  |succ i=>simp[ih (λx e=>a x (sh e))]
theorem Cu{B k b:Nat}{t e:TypeId}{x y:Operand}{v u:Value}{xs R:List α}{i:Int}{z:α}(m:Rp.sz α=1)(O:ev l x=some (.pointer (some ⟨b,0+i.toNat*Rp.sz α,none⟩)))(U:ev l y=some u)
  (f:Ow B e k o w v xs) (K:v.ownBlock=some b) (hi:st xs i z=some R) (hk:k≠0) (T:∀w,(sizeOf t).run P w=.ok 1 w) (Y:u.cells= #[u]) (S:Rp.rd o w [u] z):
  ∃w',(∀ρ,Agr ρ l->(execOp ρ ⟨none,.store t x y,ty,ps,af,g⟩).run P w=.ok .skip w')∧Ow B e k o w' v R∧Stp k o w o w':=by
 obtain⟨h0,h1,rfl⟩:=wY hi;obtain⟨a,c,rfl⟩:=f.form;obtain⟨Z,cs,rfl,_,p,H,E⟩:=f.at (x_ (show i.toNat<xs.length by omega));simp[Value.ownBlock] at K;subst K;have G:cs.length=1:=by rw[Rp.len H,m]
 obtain⟨q,rfl⟩:=oP.1 G;rw[m,cm,an] at O E p;have s:u.oneCell'=true:=Rp.one S u sy;have V:=tM (P:=P) T Y s ⟨_,G_ p⟩ E;obtain⟨css,N,X,M,J⟩:=f;have D:=Ow.lens (e:=e) (B:=B) N J;rw[m] at D;obtain⟨W,g2⟩:=X.stored i.toNat u;have A:Stp k o w o (w.setCell ⟨Z,i.toNat,none⟩ u):=qj (M _ rfl);refine⟨_,λρ L=>?_,⟨css.set i.toNat [u],by simp[N],?_,M,λj F x' C h=>?_⟩,A⟩
 ·simp only[execOp,L x _ O,L y _ U,aF,V,aL];rfl
 ·rw[CX _ D];simpa using W
 ·rw[db] at C h;refine Rp.stp ?_ A hk;by_cases I:i.toNat=j
  ·subst I;rw[if_pos rfl,if_pos om] at C;rw[if_pos rfl,if_pos om] at h;cases C;cases h;exact S
  ·rw[if_neg I] at C h;exact J j F x' C h
def RsL(P:Program)(l:List (Nat×Value))(w:World):List ResultVar->List Value->Prop
  |[],[]=>True
  | .tmp t::r,v::vs=>Kn l t=some v∧RsL P l w r vs
  | .cell t T::r,v::vs=>(∃ad,Kn l t=some (.pointer (some ad))∧(loadVar T ad).run P w=.ok v w)∧RsL P l w r vs
  |_,_=>False
def rsv(tmps:Array Value):ResultVar->Sem Value
  | .tmp t=>Pure.pure (tmps.getD t undef)
  | .cell a t=>do loadVar t (<-asAddr (tmps.getD a undef))
theorem RsL.run{a:Act}(b:Fr a n l):∀{e:List ResultVar}{vs:List Value},RsL P l w e vs->(e.mapM (rsv a.tmps)).run P w=.ok vs w
 |[],[],_=>rfl
 | .tmp t::r,v::vs,h=>by
  have:=RsL.run b h.2;rw[List.mapM_cons];simp only[aF,rsv,bt,aL,b.get t v h.1,this]
 | .cell t T::r,v::vs,h=>by
  obtain⟨⟨f,i,k⟩,m⟩:=h;have:=RsL.run b m;have j:asAddr (a.tmps.getD t undef)=Pure.pure f:=by rw[b.get t _ i];rfl
  rw[List.mapM_cons];simp only[aF,rsv,j,bt,aL,k,this]
 |[],_::_,h=>h.elim
 | .tmp _::_,[],h=>h.elim
 | .cell _ _::_,[],h=>h.elim
def packed:List Value->Value
  |[v]=>v
  |vs=> .tuple vs.toArray
theorem Bo(b:Func)(a:Array Value):results b a=(do let vs<-b.results.mapM (rsv a);Pure.pure (if h:vs.size=1 then vs[0] else .tuple vs)):=rfl
theorem J_{i:Func}{R:Ending->World->Prop}{e:List ResultVar}{vs:List Value}(b:i.results=e.toArray)(h:RsL P l w e vs)(j:R (.returned (packed vs)) w):∀a,Fr a n l->bodyPost P i R .ret a w:=by
 intro a f;refine⟨f.defers,packed vs,?_,j⟩;have k:=RsL.run f h;have m:(e.toArray.mapM (rsv a.tmps)).run P w=.ok vs.toArray w:=by
  rw[List.mapM_toArray,map_eq_pure_bind,aF,k];rfl
 rw[Bo,b];simp only[aF,m,aL,bt]
 match vs with
 |[]=>rfl
 |[v]=>rfl
 |v::u::vs=>simp[packed]
theorem qh{f:Func}{R:Ending->World->Prop}{e:List ResultVar}{vs:List Value}(b:f.results=e.toArray)(h:RsL P l w e vs)(i:R (.returned (packed vs)) w):∀a,Fr a n l->bodyPost P f R .normal a w:=J_ (P:=P) b h i
end
end
section
def forI{α σ ρ:Type}(body:Int->α->σ->Option (Lp σ σ ρ)):List α->Int->σ->Option (σ ⊕ ρ)
  |[],_,s=>some (.inl s)
  | x::xs,i,s=>match body i x s with
    |none=>none
    |some (.go s')=>forI body xs (i+1) s'
    |some (.out s')=>some (.inl s')
    |some (.ret r)=>some (.inr r)
def forN{σ ρ:Type}(body:Int->σ->Option (Lp σ σ ρ)):Nat->Int->σ->Option (σ ⊕ ρ)
  |0,_,s=>some (.inl s)
  | k+1,i,s=>match body i s with
    |none=>none
    |some (.go s')=>forN body k (i+1) s'
    |some (.out s')=>some (.inl s')
    |some (.ret r)=>some (.inr r)
def Hands{σ ρ:Type}(next:σ->Prop)(res:σ ⊕ ρ):Lp σ σ ρ->Prop
  | .go s=>next s
  | .out s=>res=.inl s
  | .ret r=>res=.inr r
theorem ak{α σ ρ:Type}{body:Int->α->σ->Option (Lp σ σ ρ)}{xs:List α}{i:Int}{s:σ}{a:σ ⊕ ρ}(j:0<=i)(f:i<xs.length)(h:forI body (xs.drop i.toNat) i s=some a):
  ∃x q,ix xs i=some x∧body i x s=some q∧Hands (λs'=>forI body (xs.drop (i+1).toNat) (i+1) s'=some a) a q:=by
 have e:i.toNat<xs.length:=om;rw[dt e] at h;refine⟨xs[i.toNat],?_⟩;simp only[forI] at h;rw[show(i+1).toNat=i.toNat+1 by omega];cases b:body i xs[i.toNat] s with
 |none=>rw[b] at h;cases h
 |some q=>
  rw[b] at h;refine⟨q,by unfold ix;rw[if_pos j,x_ e],rfl,?_⟩;cases q with
  |go s'=>exact h
  |out s'=>cases h;rfl
  |ret r=>cases h;rfl
theorem ai{α σ ρ:Type}{body:Int->α->σ->Option (Lp σ σ ρ)}{xs:List α}{i:Int}{s:σ}{a:σ ⊕ ρ}(b:¬i<xs.length)(h:forI body (xs.drop i.toNat) i s=some a):a=.inl s:=by
 rw[Fp om] at h;cases h;rfl
theorem bB{σ ρ:Type}{body:Int->σ->Option (Lp σ σ ρ)}{n i:Int}{s:σ}{a:σ ⊕ ρ}(e:i<n)(h:forN body (n-i).toNat i s=some a):
  ∃q,body i s=some q∧Hands (λs'=>forN body (n-(i+1)).toNat (i+1) s'=some a) a q:=by
 rw[show(n-i).toNat=(n-(i+1)).toNat+1 by omega] at h;simp only[forN] at h;cases b:body i s with
 |none=>rw[b] at h;cases h
 |some q=>
  rw[b] at h;refine⟨q,rfl,?_⟩;cases q with
  |go s'=>exact h
  |out s'=>cases h;rfl
  |ret r=>cases h;rfl
theorem bA{σ ρ:Type}{body:Int->σ->Option (Lp σ σ ρ)}{n i:Int}{s:σ}{a:σ ⊕ ρ}(b:¬i<n)(h:forN body (n-i).toNat i s=some a):a=.inl s:=by
 rw[show(n-i).toNat=0 by omega] at h;cases h;rfl
theorem aC{σ ρ:Type}{step:σ->Option (Lp σ σ ρ)}{k:Nat}{s:σ}{a:σ ⊕ ρ}(h:loopF step k s=some a):
  ∃k' q,k=k'+1∧step s=some q∧Hands (λs'=>loopF step k' s'=some a) a q:=by
 obtain⟨k',q,e,b,f⟩:=CJ h;refine⟨k',q,e,b,?_⟩;rcases f with⟨s',rfl,h⟩|⟨t,rfl,h⟩|⟨r,rfl,h⟩<;>exact h
def Po(M N:Act->World->Prop)(E:Nat->Act->World->Prop):Exit->Act->World->Prop
  | .normal,a,w=>M a w
  | .ret,a,w=>N a w
  | .exit i,a,w=>E i a w
  |_,_,_=>False
def noE:Nat->Act->World->Prop:=λ_ _ _=>False
section
variable {P:Program} {Q Q':Exit->Act->World->Prop} {n:Nat} {l:List (Nat×Value)} {w w0:World} {o oo:Tg} {α:Type}
theorem eY{x y:Code}(M N:Act->World->Prop)(b:wpC P x (Po M N noE) n l w)(f:∀a w,M a w->y.wp P Q a w)(j:∀a w,N a w->Q .ret a w):wpC P (.seq x y) Q n l w:=
 b_ (vh b λe a w h=>by
  cases e with
  |normal=>exact f a w h
  |ret=>exact j a w h
  |exit i=>exact h.elim
  |goto i=>exact h.elim
  |panic c=>exact h.elim
  |outgrown=>exact h.elim)
theorem nx{y:Code}(h:wpC P y Q n l w):∀a,Fr a n l->Exit.then (y.wp P Q) Q' .normal a w:=h
theorem g_{K:Act->World->Prop}{i:Nat}(h:∀a,Fr a n l->Q (.exit i) a w):∀a,Fr a n l->Exit.then K Q (.exit i) a w:=h
theorem t_{K:Act->World->Prop}(h:∀a,Fr a n l->Q .ret a w):∀a,Fr a n l->Exit.then K Q .ret a w:=h
theorem v_{K:Act->World->Prop}(h:∀a,Fr a n l->K a w):∀a,Fr a n l->Exit.then K Q .normal a w:=h
theorem w_{i:Nat}(h:∀a,Fr a n l->Q .normal a w):∀a,Fr a n l->Exit.inBlock i Q .normal a w:=h
theorem L_{i:Nat}(h:∀a,Fr a n l->Q .ret a w):∀a,Fr a n l->Exit.inBlock i Q .ret a w:=h
theorem A_{i:Nat}(h:∀a,Fr a n l->Q .normal a w):∀a,Fr a n l->Exit.inBlock i Q (.exit i) a w:=λa b=>by
 show(if i=i then _ else _);rw[if_pos rfl];exact h a b
theorem oi{i j:Nat}(b:j≠i)(h:∀a,Fr a n l->Q (.exit j) a w):∀a,Fr a n l->Exit.inBlock i Q (.exit j) a w:=λa e=>by
 show(if j=i then _ else _);rw[if_neg b];exact h a e
theorem r_{M N:Act->World->Prop}{E:Nat->Act->World->Prop}(h:∀a,Fr a n l->M a w):∀a,Fr a n l->Po M N E .normal a w:=h
theorem aB{M N:Act->World->Prop}{E:Nat->Act->World->Prop}(h:∀a,Fr a n l->N a w):∀a,Fr a n l->Po M N E .ret a w:=h
variable [Rp α] {ops:Array Oper} {rest:List Oper} {d:Nat} {ty:TypeId} {ps:String} {af:Array Edge} {g:Option (Nat×Bool)} {R:Value->World->Prop}
theorem Cells.keep{b off:Nat}{cs:List Value}(h:Cells w0 b off cs)(k:Keeps w0 w):Cells w b off cs:=λj v a=>l_ k (h j v a)
theorem bR{x y:Operand}{t e:TypeId}{v:Value}{xs:List α}{i:Int}{u:α}(h:RdL o w v xs)(hi:ix xs i=some u)(q:ev l x=some v)(k:ev l y=some (.int .i64 i))
  (j:P.underlying t=some (.slice e)) (f:∀w,(sizeOf e).run P w=.ok (Rp.sz α) w)
  (h:∀b off cs,Cells w b off cs->Rp.rd o w cs u->R (.pointer (some ⟨b,off,none⟩)) w):op1 P ⟨some d,.indexAddr t x y,ty,ps,af,g⟩ n l w R:=by
 obtain⟨b,off,cs,m,p,a⟩:=xu (ps:=ps) (ty:=ty) (af:=af) (d:=some d) (g:=g) q k (by assumption) hi j f;exact M_ (m w) (h b off cs p a)
theorem wf_atZ{x y:Operand}{t e:TypeId}{v:Value}{xs:List α}{i:Int}{u:α}(h:RdL zt w0 v xs)(hi:ix xs i=some u)(s:Bs oo o w0 w)(q:ev l x=some v)(k:ev l y=some (.int .i64 i))
  (j:P.underlying t=some (.slice e)) (f:∀w,(sizeOf e).run P w=.ok (Rp.sz α) w)
  (h:∀b off cs,Cells w b off cs->Rp.rd zt w0 cs u->R (.pointer (some ⟨b,off,none⟩)) w):op1 P ⟨some d,.indexAddr t x y,ty,ps,af,g⟩ n l w R:=by
 obtain⟨b,off,cs,m,p,a⟩:=xu (ps:=ps) (ty:=ty) (af:=af) (d:=some d) (g:=g) q k (by assumption) hi j f;exact M_ (m w) (h b off cs (p.keep s.keeps) a)
theorem ci{x y:Operand}{t e q:TypeId}{B k:Nat}{v:Value}{xs:List α}{i:Int}{u:α}(h:Ow B q k o w v xs)(hi:ix xs i=some u)(A:ev l x=some v)(m:ev l y=some (.int .i64 i))
  (j:P.underlying t=some (.slice e)) (f:∀w,(sizeOf e).run P w=.ok (Rp.sz α) w)
  (h:∀b off cs,Cells w b off cs->Rp.rd o w cs u->R (.pointer (some ⟨b,off,none⟩)) w):op1 P ⟨some d,.indexAddr t x y,ty,ps,af,g⟩ n l w R:=by
 obtain⟨b,off,cs,p,s,a⟩:=EN (ps:=ps) (ty:=ty) (af:=af) (d:=some d) (g:=g) A m (by assumption) hi j f;exact M_ (p w) (h b off cs s a)
theorem jJ{t e:TypeId}{x:Operand}{lo hi:Option Operand}{v:Value}{xs i:List α}{lo' hi':Int}(h:RdL o w v xs)(q:cut xs lo' hi'=some i)(s:ev l x=some v)
  (b:EvB l lo 0 lo') (f:EvB l hi xs.length hi') (k:P.underlying t=some (.slice e)) (j:∀w,(sizeOf e).run P w=.ok (Rp.sz α) w)
  (h:∀a,RdL o w a i->R a w):op1 P ⟨some d,.slice t x lo hi none,ty,ps,af,g⟩ n l w R:=by
 obtain⟨a,m,p⟩:=wT (ps:=ps) (ty:=ty) (af:=af) (d:=some d) (g:=g) s (by assumption) b f q k j;exact M_ (m w) (h a p)
theorem me{t e:TypeId}{x:Operand}{lo hi:Option Operand}{v:Value}{xs i:List α}{lo' hi':Int}(h:RdL zt w0 v xs)(q:cut xs lo' hi'=some i)(s:ev l x=some v)
  (b:EvB l lo 0 lo') (f:EvB l hi xs.length hi') (k:P.underlying t=some (.slice e)) (j:∀w,(sizeOf e).run P w=.ok (Rp.sz α) w)
  (h:∀a,RdL zt w0 a i->R a w):op1 P ⟨some d,.slice t x lo hi none,ty,ps,af,g⟩ n l w R:=by
 obtain⟨a,m,p⟩:=wT (ps:=ps) (ty:=ty) (af:=af) (d:=some d) (g:=g) s (by assumption) b f q k j;exact M_ (m w) (h a p)
theorem Z_{x:Operand}{t:TypeId}{v:Value}{cs:List Value}(B k:Nat)(f:B<=w.heap.size)(e:v.cells=cs.toArray)(i:ev l x=some v)
  (h:∀a w' b,Bx B k a w' b t cs->Stp k o w a w'->R (.pointer (some ⟨b,0,none⟩)) w'):op1 P ⟨some d,.box t x,ty,ps,af,g⟩ n l w R:=
 M_ (Fe i) (h (ext o w.heap.size k) _ _ (by rw[e];exact⟨heap_alloc_new w _,jK _ _ _ _ (K_ _),f⟩) (eo _ _ _ _ _))
theorem av{t:TypeId}{z:Value}{cs:List Value}(B k:Nat)(f:B<=w.heap.size)(i:∀w,(zeroValue t).run P w=.ok z w)(e:z.cells=cs.toArray)
  (h:∀a w' b,Bx B k a w' b t cs->Stp k o w a w'->R (.pointer (some ⟨b,0,none⟩)) w'):op1 P ⟨some d,.alloc t,ty,ps,af,g⟩ n l w R:=
 M_ (DL i) (h (ext o w.heap.size k) _ _ (by rw[e];exact⟨heap_alloc_new w _,jK _ _ _ _ (K_ _),f⟩) (eo _ _ _ _ _))
theorem ap{t e:TypeId}{m sz:Nat}{z:Value}{a:List (Nat×Operand)}{vs:List (Nat×Value)}{cs:List Value}{xs:List α}(b:RdC o w cs xs)(p:m=xs.length)(u:EvP l a vs)
  (s:P.underlying t=some (.slice e)) (q:∀w,(sizeOf e).run P w=.ok sz w) (x:∀w,(zeroValue e).run P w=.ok z w) (f:m*sz<=16777216)
  (v:Instr.fill (λi=>some (i*sz,sz)) ((Array.range (m*sz)).map ((if m*sz=0 then #[] else z.cells)[·%(if m*sz=0 then #[] else z.cells).size]!)) vs=some cs.toArray) (y:xs.length<=1000000)
  (h:∀k w' j,RdL k w' j xs->Stp 999 o w k w'->Keeps w w'->R j w'):op1 P ⟨some d,.buildSlice t m a.toArray,ty,ps,af,g⟩ n l w R:=by
 subst p;exact M_ (qC s q x f u v) (h _ _ _ (EO (e:=e) b (by simp only[maxLen];omega)) (eo _ _ _ _ _) ((Keeps.refl _).alloc _))
theorem dn{t e:TypeId}{m sz:Nat}{z:Value}{a:List (Nat×Operand)}{vs:List (Nat×Value)}{cs:List Value}{xs:List α}(B k:Nat)(y:B<=w.heap.size)(b:RdC o w cs xs)(q:m=xs.length)(v:EvP l a vs)
  (u:P.underlying t=some (.slice e)) (s:∀w,(sizeOf e).run P w=.ok sz w) (A:∀w,(zeroValue e).run P w=.ok z w) (f:m*sz<=16777216)
  (x:Instr.fill (λi=>some (i*sz,sz)) ((Array.range (m*sz)).map ((if m*sz=0 then #[] else z.cells)[·%(if m*sz=0 then #[] else z.cells).size]!)) vs=some cs.toArray) (C:xs.length<=1000000)
  (h:∀p w' j,Ow B e k p w' j xs->Stp k o w p w'->R j w'):op1 P ⟨some d,.buildSlice t m a.toArray,ty,ps,af,g⟩ n l w R:=by
 subst q;exact M_ (qC u s A f v x) (h _ _ _ (ol (e:=e) b y (by simp only[maxLen];omega)) (eo _ _ _ _ _))
theorem dS[Rz α]{t e:TypeId}{z:Value}{b:Nat}{x y:Operand}{m:Int}{j:List α}(B k:Nat)(D:B<=w.heap.size)(p:mk (Rz.z:α) m=some j)(C:ev l x=some (.int .i64 m))(s:ev l y=some (.int .i64 m))
  (q:P.underlying t=some (.slice e)) (hi:Inf P e z (Rp.sz α) b) (E:z.cells=(Rz.zc (α:=α)).toArray) (hb:b<=1000)
  (h:∀i w' f,Ow B e k i w' f j->Stp k o w i w'->R f w'):op1 P ⟨some d,.makeSlice t x y,ty,ps,af,g⟩ n l w R:=by
 obtain⟨w',a,c,v,A,u⟩:=Et (o:=o) (ps:=ps) (ty:=ty) (af:=af) (d:=some d) (g:=g) (B:=B) (k:=k) C s p q hi E hb D;exact M_ v (h _ _ _ A u)
theorem am{B k:Nat}{t e:TypeId}{z:Value}{a:Nat}{x y:Operand}{v u:Value}{xs zs p:List α}(b:Ow B e k o w v xs)(i:RdL o w u zs)(E:cat xs zs=some p)(H:k≠0)(G:B<=w.heap.size)(F:ev l x=some v)(s:ev l y=some u)
  (q:P.underlying t=some (.slice e)) (hi:Inf P e z (Rp.sz α) a) (f:z.cells.size=Rp.sz α) (C:a<=1000)
  (h:∀m w' j,Ow B e k m w' j p->Stp k o w m w'->R j w'):op1 P ⟨some d,.call {callee:=.builtin .append,args:= #[x,y],argTypes:= #[t,t]},ty,ps,af,g⟩ n l w R:=by
 obtain⟨w',j,i,D,A⟩:=tq (ps:=ps) (ty:=ty) (af:=af) (d:=some d) (g:=g) F s b i (λ_ _ h=>h) E H q hi f C G;exact M_ i (h _ _ _ D A)
theorem oA{B k:Nat}{t e:TypeId}{z:Value}{a:Nat}{x y:Operand}{v u:Value}{xs zs q:List α}(b:Ow B e k o w v xs)(i:RdL zt w u zs)(F:cat xs zs=some q)(I:k≠0)(H:B<=w.heap.size)
  (m:∀cs x,Rp.rd zt w cs (x:α)->Rp.rd o w cs x) (G:ev l x=some v) (A:ev l y=some u)
  (s:P.underlying t=some (.slice e)) (hi:Inf P e z (Rp.sz α) a) (f:z.cells.size=Rp.sz α) (D:a<=1000)
  (h:∀p w' j,Ow B e k p w' j q->Stp k o w p w'->R j w'):op1 P ⟨some d,.call {callee:=.builtin .append,args:= #[x,y],argTypes:= #[t,t]},ty,ps,af,g⟩ n l w R:=by
 obtain⟨w',j,i,E,C⟩:=tq (ps:=ps) (ty:=ty) (af:=af) (d:=some d) (g:=g) G A b i m F I s hi f D H;exact M_ i (h _ _ _ E C)
theorem bH{B k b i:Nat}{t e:TypeId}{x y:Operand}{u:Value}{cs:List Value}(a:Bx B k o w b e cs)(s:ev l x=some (.pointer (some ⟨b,i,none⟩)))(m:ev l y=some u)(hi:i<cs.length)
  (j:∀w,(sizeOf t).run P w=.ok 1 w) (v:u.cells= #[u]) (f:u.oneCell'=true)
  (h:∀w',Bx B k o w' b e (cs.set i u)->Stp k o w o w'->R undef w'):op1 P ⟨none,.store t x y,ty,ps,af,g⟩ n l w R:=by
 obtain⟨w',q,f,p⟩:=Ci (P:=P) (ps:=ps) (ty:=ty) (af:=af) (g:=g) s m a hi j v f;exact qp q (h w' f p)
theorem X_{B k b:Nat}{t e:TypeId}{x y:Operand}{cs ds:List Value}(a:Bx B k o w b e cs)(s:ev l x=some (.pointer (some ⟨b,0,none⟩)))(j:ev l y=some (.agg ds.toArray))(q:ds.length=cs.length)
  (i:(P.info? t).map (·.size)=some ds.length) (f:∀u∈ds,u.oneCell'=true)
  (h:∀w',Bx B k o w' b e ds->Stp k o w o w'->R undef w'):op1 P ⟨none,.store t x y,ty,ps,af,g⟩ n l w R:=by
 obtain⟨w',p,f,m⟩:=BJ (P:=P) (ps:=ps) (ty:=ty) (af:=af) (g:=g) s j a q i f;exact qp p (h w' f m)
theorem bG{B k b:Nat}{t e:TypeId}{x y:Operand}{v u:Value}{xs j:List α}{i:Int}{z:α}(a:Ow B e k o w v xs)(A:v.ownBlock=some b)(hi:st xs i z=some j)(G:Rp.rd o w [u] z)(F:k≠0)(f:Rp.sz α=1)
  (D:ev l x=some (.pointer (some ⟨b,0+i.toNat*Rp.sz α,none⟩))) (p:ev l y=some u) (m:∀w,(sizeOf t).run P w=.ok 1 w) (E:u.cells= #[u])
  (h:∀w',Ow B e k o w' v j->Stp k o w o w'->R undef w'):op1 P ⟨none,.store t x y,ty,ps,af,g⟩ n l w R:=by
 obtain⟨w',s,C,q⟩:=Cu (P:=P) (ps:=ps) (ty:=ty) (af:=af) (g:=g) f D p a A hi F m E G;exact qp s (h w' C q)
theorem j_{f:FuncId}{xs:List Operand}{vs:List Value}{b:Array TypeId}{C:Ending->World->Prop}(i:Calls P f vs.toArray w C)(a:∀args w,(callFunc f args).run P w=.ok (.enter f args) w)(j:EvL l xs vs)
  (h:∀e w',C e w'->∃v,e=.returned v∧R v w'):op1 P ⟨some d,.call {callee:=.value (.func f),args:=xs.toArray,argTypes:=b},ty,ps,af,g⟩ n l w R:=
 nE (DV a j) i h
def rtg(k k':Nat)(o:Tg):Tg:=λb=>if o b=k then k' else if o b=k' then 0 else o b
theorem Ow.rtg{B k:Nat}{e:TypeId}{v:Value}{xs:List α}(h:Ow B e k o w v xs)(k':Nat)(m:k≠0):Ow B e k' (Go.Proofs.YtpefhaamcihneaaGreat.rtg k k' o) w v xs:=by
 obtain⟨css,q,j,t,f⟩:=h;refine⟨css,q,j,λg s=>by unfold Go.Proofs.YtpefhaamcihneaaGreat.rtg;rw[if_pos (t g s)],λi cs x a b=>Rp.mv (f i cs x a b) (K_ _) λb _ p=>⟨rfl,?_⟩⟩;unfold Go.Proofs.YtpefhaamcihneaaGreat.rtg;rw[p,if_neg (V_ m)];split<;>rfl
theorem Ow.rtg_ne{B j k k':Nat}{e:TypeId}{v:Value}{xs:List α}(h:Ow B e j o w v xs)(t:j≠k)(f:j≠k')(q:k≠0):Ow B e j (Go.Proofs.YtpefhaamcihneaaGreat.rtg k k' o) w v xs:=by
 obtain⟨css,m,p,A,u⟩:=h;refine⟨css,m,p,λg y=>by unfold Go.Proofs.YtpefhaamcihneaaGreat.rtg;rw[A g y,if_neg t,if_neg f],λi cs x a b=>Rp.mv (u i cs x a b) (K_ _) λb _ s=>⟨rfl,?_⟩⟩;unfold Go.Proofs.YtpefhaamcihneaaGreat.rtg;rw[s,if_neg (V_ q)];split<;>rfl
theorem RdL.rtg{v:Value}{xs:List α}(h:RdL o w v xs)(k k':Nat)(a:k≠0):RdL (Go.Proofs.YtpefhaamcihneaaGreat.rtg k k' o) w v xs:=h.mv (K_ _) λb _ e=>⟨rfl,by
 unfold Go.Proofs.YtpefhaamcihneaaGreat.rtg;rw[e,if_neg (V_ a)];split<;>rfl⟩
omit [Rp α] in
theorem Bx.rtg_ne{B j k k' b:Nat}{e:TypeId}{cs:List Value}(h:Bx B j o w b e cs)(a:j≠k)(f:j≠k'):Bx B j (Go.Proofs.YtpefhaamcihneaaGreat.rtg k k' o) w b e cs:=
 ⟨h.blk,by unfold Go.Proofs.YtpefhaamcihneaaGreat.rtg;rw[h.tag,if_neg a,if_neg f],h.lo⟩
omit [Rp α] in
omit [Rp α] in
theorem Bs.rtg(h:Bs oo o w0 w)(k k':Nat)(f:2<=k)(a:2<=k'):Bs oo (Go.Proofs.YtpefhaamcihneaaGreat.rtg k k' o) w0 w:=⟨h.keeps,λb e=>by
 have:=h.old b e;unfold Go.Proofs.YtpefhaamcihneaaGreat.rtg;rw[<-this,if_neg,if_neg]
 ·split at this<;>omega
 ·split at this<;>omega⟩
theorem bI{x y:Operand}{t e f:TypeId}{B k:Nat}{v:Value}{xs:List α}{i:Int}{u:α}(h:Ow B f k o w v xs)(hi:ix xs i=some u)(D:ev l x=some v)(q:ev l y=some (.int .i64 i))
  (p:P.underlying t=some (.slice e)) (m:∀w,(sizeOf e).run P w=.ok (Rp.sz α) w)
  (h:∀b cs,v.ownBlock=some b->Cells w b (0+i.toNat*Rp.sz α) cs->Rp.rd o w cs u->R (.pointer (some ⟨b,0+i.toNat*Rp.sz α,none⟩)) w):op1 P ⟨some d,.indexAddr t x y,ty,ps,af,g⟩ n l w R:=by
 rename_i j;obtain⟨a,c,rfl⟩:=Ow.form (by assumption:Ow B f k o w v xs);obtain⟨E,F,s⟩:=dQ hi;obtain⟨b,cs,rfl,_,C,A,_⟩:=Ow.at (by assumption:Ow B f k o w _ xs) s;exact M_ (jx D q E om p m) (h b cs rfl C A)
theorem fS{v:Value}{xs:List α}(h:RdL o w v xs):Rp.rd o w [v] xs:=⟨v,rfl,h⟩
theorem RdL.cells1{v:Value}{xs:List α}(h:RdL o w v xs):v.cells= #[v]:=by obtain⟨a,c,rfl⟩:=h.form;rfl
theorem Ow.cells1{B k:Nat}{e:TypeId}{v:Value}{xs:List α}(h:Ow B e k o w v xs):v.cells= #[v]:=by obtain⟨a,c,rfl⟩:=h.form;rfl
theorem RdL.one1{v:Value}{xs:List α}(h:RdL o w v xs):v.oneCell'=true:=by obtain⟨a,c,rfl⟩:=h.form;rfl
theorem Ow.one1{B k:Nat}{e:TypeId}{v:Value}{xs:List α}(h:Ow B e k o w v xs):v.oneCell'=true:=by obtain⟨a,c,rfl⟩:=h.form;rfl
omit [Rp α]
theorem lC{M:Act->World->Prop}:∀{xs f:List Oper}{a:Act}{w:World},wpList P ops (Po M (λ_ _=>False) noE) xs a w->(∀a w,M a w->wpList P ops Q f a w)->wpList P ops Q (xs++f) a w
 |[],f,a,w,h,k=>k a w h
 | o::xs,f,a,w,h,k=>by
  unfold wpList at h;show wpList P ops Q (o::(xs++f)) a w;unfold wpList;split
  ·rename_i i;rw[if_pos i] at h;rcases h with h|⟨_,h⟩
   ·refine .inl ?_;unfold Oper.wp at*
    generalize (execOp a.eval o).run P w=r at*
    cases r with
    | ok x w'=>
     cases x<;>simp only[Oper.upon] at h ⊢<;>
      first
       |exact lC h k
       | exact ms h (λe m b=>by
         cases e with
         |returned v=>exact lC b k
         |panicked c=>exact(b:False).elim
         |outgrown=>obtain⟨_,_,j⟩:=b;exact(j:False).elim)
       |exact Rows.mono h (λ_ _ b=>lC b k)
       |exact h
    |halt x w'=>cases x<;>simp only[Oper.upon] at h ⊢<;>first|exact(h:False).elim|exact h
   ·obtain⟨_,_,h⟩:=h;exact(h:False).elim
  ·rename_i i;rw[if_neg i] at h;exact lC h k
theorem bp(m:Nat)(M:Act->World->Prop){xs:List Oper}(e:wpF P ops (Po M (λ_ _=>False) noE) (xs.take m) n l w)(f:∀a w,M a w->wpList P ops Q (xs.drop m) a w):wpF P ops Q xs n l w:=λa b=>by
 have:=lC (e a b) f;rwa [mx] at this
theorem O_{xs:List Oper}{a:Act}(b:Fr a n l)(h:wpF P ops Q xs n l w):wpList P ops Q xs a w:=h a b
theorem q_{c:Code}{a:Act}(b:Fr a n l)(h:wpC P c Q n l w):c.wp P Q a w:=h a b
theorem ap_k{K:Act->World->Prop}{a:Act}(b:Fr a n l)(h:∀a,Fr a n l->K a w):K a w:=h a b
theorem D_{x:Code}(M N:Act->World->Prop)(b:wpC P x (Po M N noE) n l w)(f:∀a w,M a w->Q .normal a w)(j:∀a w,N a w->Q .ret a w):wpC P x Q n l w:=
 vh b λe a w h=>by
  cases e with
  |normal=>exact f a w h
  |ret=>exact j a w h
  |exit i=>exact h.elim
  |goto i=>exact h.elim
  |panic c=>exact h.elim
  |outgrown=>exact h.elim
def enumA:Nat->List Value->List (Nat×Value)
  |_,[]=>[]
  |i,v::vs=>(i,v)::enumA (i+1) vs
theorem tU:∀{vs:List Value}{i t:Nat}{v:Value},Kn (enumA i vs) t=some v->i<=t∧vs[t-i]? =some v
 |[],i,t,v,h=>by simp[enumA,Kn] at h
 |u::vs,i,t,v,h=>by
  simp only[enumA,Kn] at h;split at h
  ·rename_i e;subst e;cases h;exact⟨K_ _,by simp⟩
  ·rename_i e;obtain⟨b,a⟩:=tU h;refine⟨om,?_⟩;rw[show t-i=(t-(i+1))+1 by omega,Fq];exact a
theorem y_{f:FuncId}{a:Func}{c:Code}{vs:List Value}{R:Ending->World->Prop}(i:P.funcs[f]? =some a)(m:a.body=some c)(j:vs.length+(a.ntmps-vs.length)=n)
  (h:wpC P c (bodyPost P a R) n (enumA 0 vs) w):Calls P f vs.toArray w R:=by
 refine BT i m (su j) (λt v k=>?_) h;obtain⟨_,e⟩:=tU k;rw[du] at e;have b:=(Y_.1 e).1;simp only[dq];rw[Array.getElem?_append_left (su b)];simp[e]
theorem ay{t:TypeId}{b k:Nat}{cs:List Value}(a:∀w,(isAgg t).run P w=.ok true w)(e:∀w,(sizeOf t).run P w=.ok k w)(i:cs.length=k)(f:Cells w b 0 cs):(loadVar t ⟨b,0,none⟩).run P w=.ok (.agg cs.toArray) w:=by
 subst i;have:=pe (P:=P) (w:=w) (b:=b) (off:=0) cs 0 #[] (su f);have h:(loadCells ⟨b,0,none⟩ cs.length).run P w=.ok cs.toArray w:=by simpa [loadCells] using this
 simp only[loadVar,aF,a,aL,if_true,e,h,bt]
theorem aK{d:Option Nat}{t:TypeId}{a:List (Nat×Operand)}{vs:List (Nat×Value)}{cs:List Value}(e:EvP l a vs)(f:P.built t vs=some cs.toArray):
  ∀ρ,Agr ρ l->(execOp ρ ⟨d,.build t a.toArray,ty,ps,af,g⟩).run P w=.ok (.value (.agg cs.toArray)) w:=by
 intro ρ h;have b:(a.toArray.map λ(i,x)=>(i,ρ x)).toList=vs:=by simp[<-EvP.map h e]
 have:=run_build (P:=P) w t (a.toArray.map λ(i,x)=>(i,ρ x)) cs.toArray (by rw[b];exact f);simp only[execOp,aF,this,aL];rfl
theorem fill0{z:Value}:Instr.fill (λi=>some (i*1,1)) ((Array.range (0*1)).map ((if 0*1=0 then #[] else z.cells)[·%(if 0*1=0 then #[] else z.cells).size]!)) []=some ([]:List Value).toArray:=by
 simp[Instr.fill]
theorem fill1{z v:Value}(a:v.cells= #[v]):Instr.fill (λi=>some (i*1,1)) ((Array.range (1*1)).map ((if 1*1=0 then #[] else z.cells)[·%(if 1*1=0 then #[] else z.cells).size]!)) [(0,v)]=some [v].toArray:=by
 simp[Instr.fill,a];refine oQ sy λi e b=>?_;have:i=0:=by simp at b;omega
 subst this;simp
theorem fill2{z v u:Value}(b:v.cells= #[v])(a:u.cells= #[u]):Instr.fill (λi=>some (i*1,1)) ((Array.range (2*1)).map ((if 2*1=0 then #[] else z.cells)[·%(if 2*1=0 then #[] else z.cells).size]!)) [(0,v),(1,u)]=some [v,u].toArray:=by
 simp[Instr.fill,b,a];refine oQ sy λi f e=>?_;have:i=0∨i=1:=by simp at e;omega
 rcases this with rfl|rfl<;>simp
end
end
end Go.Proofs.YtpefhaamcihneaaGreat
