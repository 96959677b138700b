/- Part 2 of what this claim rests on (Kp, Kq, Kr), packed by pack.py. -/
import Derived.Test.YtdbbeldgdgonfaaGreatP01
namespace Go.Proofs.YtdbbeldgdgonfaaGreat
set_option linter.unusedSimpArgs false
set_option linter.unusedVariables false
section
open Go.RowKit
def ext(o:Tg)(n k:Nat):Tg:=λb=>if b<n then o b else k
theorem iA_(o:Tg)(n k b:Nat)(h:n<=b):ext o n k b=k:=by unfold ext;rw[if_neg (by omega)]
theorem jQ_(o:Tg)(n k b:Nat)(h:b<n):ext o n k b=o b:=by unfold ext;rw[if_pos h]
theorem gn_(o:Tg)(w:World)(ob:Obj)(k t:Nat):Stp t o w (ext o w.heap.size k) (w.alloc ob):=
 ⟨rfl,rfl,rfl,by simp,λb hb _=>heap_alloc_old w ob hb,λb hb=>jQ_ _ _ _ _ hb⟩
theorem pZ_{o:Tg}{w w':World}{t:Nat}{r:Option Nat}(h:w.grownBy w' r)(hr:∀g,r=some g->o g=t)(k:Nat):Stp t o w (ext o w.heap.size k) w':=
 ⟨h.os,h.tape,h.output,h.size,λb hb hn=>h.block b hb (λe=>hn (hr b e.symm)),λb hb=>jQ_ _ _ _ _ hb⟩
class Rz (α:Type) [Rp α] where
  z:α
  zc:List Value
  rdz:∀(o:Tg)(w:World),Rp.rd o w zc z
instance:Rz Int:=⟨0,[.int .i64 0],λ_ _=>rfl⟩
instance:Rz Bool:=⟨false,[.bool false],λ_ _=>rfl⟩
instance {α:Type} [Rp α]:Rz (List α):=⟨[],[.slice none 0 0],λo w=>⟨_,rfl,RdL.nil o w⟩⟩
def EvL(l:List (Nat×Value)):List Operand->List Value->Prop
  |[],[]=>True
  |x::xs,v::vs=>ev l x=some v∧EvL l xs vs
  |_,_=>False
theorem EvL.map{l:List (Nat×Value)}{ρ:Operand->Value}(hρ:Agr ρ l):∀{xs:List Operand}{vs:List Value},EvL l xs vs->xs.map ρ=vs
 |[],[],_=>rfl
 |x::xs,v::vs,h=>by rw[List.map_cons,hρ x v h.1,EvL.map hρ h.2]
 |[],_::_,h=>h.elim
 |_::_,[],h=>h.elim
def EvP(l:List (Nat×Value)):List (Nat×Operand)->List (Nat×Value)->Prop
  |[],[]=>True
  |(i,x)::xs,(j,v)::vs=>i=j∧ev l x=some v∧EvP l xs vs
  |_,_=>False
theorem EvP.map{l:List (Nat×Value)}{ρ:Operand->Value}(hρ:Agr ρ l):∀{xs:List (Nat×Operand)}{vs:List (Nat×Value)},EvP l xs vs->(xs.map λp=>(p.1,ρ p.2))=vs
 |[],[],_=>rfl
 |(i,x)::xs,(j,v)::vs,h=>by
  obtain⟨rfl,h1,h2⟩:=h;rw[List.map_cons,hρ x v h1,EvP.map hρ h2]
 |[],_::_,h=>h.elim
 |_::_,[],h=>h.elim
section
variable {P:Program} {l:List (Nat×Value)} {w w0:World} {d:Option Nat} {ty:TypeId} {ps:String} {af:Array Edge} {g:Option (Nat×Bool)} {o:Tg} {α:Type} [Rp α]
theorem tn_{f:FuncId}{xs:List Operand}{vs:List Value}{ats:Array TypeId}(hcall:∀args w,(callFunc f args).run P w=.ok (.enter f args) w)(hv:EvL l xs vs):
  ∀ρ,Agr ρ l->(execOp ρ ⟨d,.call {callee:=.value (.func f),args:=xs.toArray,argTypes:=ats},ty,ps,af,g⟩).run P w=.ok (.enter f vs.toArray) w:=by
 intro ρ hρ;have h1:ρ (.func f)=.func (.func f) #[] #[]:=hρ (.func f) _ rfl;simp only[execOp,resolve,Sem.run_bind,h1,Deferred.ofValue,Sem.run_pure,Result.andThen_ok,invoke,List.map_toArray,EvL.map hρ hv];simp[hcall]
theorem pf_{a:Option Addr}{n c:Nat}{xs ys:List α}{lo hi:Int}(h:RdL o w (.slice a n c) xs)(hc:cut xs lo hi=some ys):
  RdL o w (sliced a lo.toNat hi.toNat c (Rp.sz α)) ys∧n=xs.length∧0<=lo∧lo<=hi∧hi<=c∧hi<=n:=by
 obtain⟨a',c',e,h1,h2,h4⟩:=h;cases e
 obtain⟨g1,g2,g3,rfl⟩:=hr_ hc;refine⟨?_,rfl,g1,g2,by omega,g3⟩;have hlen:((xs.take hi.toNat).drop lo.toNat).length=hi.toNat-lo.toNat:=by simp;omega
 unfold sliced;refine⟨_,c-lo.toNat,by rw[hlen],by rw[hlen];omega,by omega,λi x hx=>?_⟩
 ·have hil:i<hi.toNat-lo.toNat:=by rw[<-hlen];exact(List.getElem?_eq_some_iff.1 hx).1
  rw[List.getElem?_drop,List.getElem?_take,if_pos (by omega)] at hx;obtain⟨b,off,cs,ha,ho,hl,hcs,hr⟩:=h4 _ x hx;have hne:¬c=lo.toNat:=by omega
  rw[if_neg hne,ha];have hadd:(⟨b,off,none⟩:Addr).add (lo.toNat*Rp.sz α)=⟨b,off+lo.toNat*Rp.sz α,none⟩:=by
   unfold Addr.add;split
   ·rename_i h;rw[h];rfl
   ·rfl
  refine⟨b,off+lo.toNat*Rp.sz α,cs,by simp[hadd],ho,hl,?_,hr⟩;rw[show off+lo.toNat*Rp.sz α+i*Rp.sz α=off+(lo.toNat+i)*Rp.sz α by rw[Nat.add_mul];omega];exact hcs
theorem lA_{t e:TypeId}{a:Option Addr}{n c sz:Nat}{lo hi:Option Value}{lo' hi':Int}(ht:P.underlying t=some (.slice e))(hs:∀w,(sizeOf e).run P w=.ok sz w)
  (hlo:lo=some (.int .i64 lo')∨(lo=none∧lo'=0)) (hhi:hi=some (.int .i64 hi')∨(hi=none∧hi'=n)) (h0:0<=lo') (h1:lo'<=hi') (h2:hi'<=c):
  (Instr.sliceAt t (.slice a n c) lo hi none).run P w=.ok (sliced a lo'.toNat hi'.toNat c sz) w:=by
 have he:P.elem t=e:=by simp[Program.elem,ht]
 have ht':P.underlying t=some (.slice (P.elem t)):=by rw[he];exact ht
 rw[run_sliceAt_slice (P:=P) (w:=w) t _ _ _ _ ht'];rcases hlo with rfl|⟨rfl,rfl⟩<;>rcases hhi with rfl|⟨rfl,rfl⟩
 ·rw[run_slice_lh (P:=P) (w:=w) t a n c ht' _ _ _ _ h0 h1 h2,he,hs];rfl
 ·rw[run_slice_l (P:=P) (w:=w) t a n c ht' _ _ h0 h1,he,hs];simp[Result.andThen]
 ·rw[run_slice_h (P:=P) (w:=w) t a n c ht' _ _ (by omega) h2,he,hs];simp[Result.andThen]
 ·rw[run_slice_all (P:=P) (w:=w) t a n c ht',he,hs];simp[Result.andThen]
def EvB(l:List (Nat×Value))(x:Option Operand)(dflt i:Int):Prop:=
  match x with
  |none=>i=dflt
  |some x=>ev l x=some (.int .i64 i)
def RdC(o:Tg)(w:World):List Value->List α->Prop
  |cs,[]=>cs=[]
  |cs,x::xs=>∃c r,cs=c++r∧Rp.rd o w c x∧RdC o w r xs
theorem RdC.css{cs:List Value}{xs:List α}(h:RdC o w cs xs):∃css:List (List Value),css.length=xs.length∧css.flatten=cs∧∀(i:Nat) c x,css[i]? =some c->xs[i]? =some x->Rp.rd o w c x:=by
 induction xs generalizing cs with
 |nil=>exact⟨[],rfl,by simp[RdC] at h;simp[h],λi c x h=>by simp at h⟩
 |cons x xs ih=>
  obtain⟨c,r,rfl,h1,h2⟩:=h;obtain⟨css,e1,e2,e3⟩:=ih h2;refine⟨c::css,by simp[e1],by simp[e2],λi c' x' hc hx=>?_⟩;cases i with
  |zero=>simp at hc hx;subst hc;subst hx;exact h1
  |succ i=>exact e3 i c' x' (by simpa using hc) (by simpa using hx)
theorem lf_{B k:Nat}{e:TypeId}{cs:List Value}{xs:List α}(h:RdC o w cs xs)(hB:B<=w.heap.size)(hl:xs.length<=maxLen):
  Ow B e k (ext o w.heap.size k) (w.alloc (.cells cs.toArray e)) (.slice (some ⟨w.heap.size,0,none⟩) xs.length xs.length) xs:=by
 obtain⟨css,e1,e2,e3⟩:=h.css;have hls:=Ow.lens (e:=e) (B:=B) e1 e3;have hsz:css.flatten.length=xs.length*Rp.sz α:=by
  rw[<-e1];clear e1 e2 e3
  induction css with
  |nil=>simp
  |cons c css ih=>rw[List.flatten_cons,List.length_append,ih (λx hx=>hls x (by simp[hx])),hls c (by simp),List.length_cons,Nat.succ_mul];omega
 have hs:Stp k o w (ext o w.heap.size k) (w.alloc (.cells cs.toArray e)):=gn_ _ _ _ _ _;refine⟨css,e1,?_,λg hg=>?_,λi c x hc hx=>Rp.mv (e3 i c x hc hx) hs.size λb hb h0=>⟨heap_alloc_old w _ hb,by rw[jQ_ _ _ _ _ hb];exact h0⟩⟩
 ·have:=World.ownsRow_lit (e:=e) (size:=Rp.sz α) (base:=B) w cs.toArray xs.length hB hl (by rw[List.size_toArray,<-e2,hsz]);rw[e2];exact this
 ·simp[Value.ownBlock] at hg;subst hg;exact iA_ _ _ _ _ (Nat.le_refl _)
theorem qM_{t e:TypeId}{n sz:Nat}{z:Value}{parts:List (Nat×Operand)}{vs:List (Nat×Value)}{cs:List Value}(ht:P.underlying t=some (.slice e))(hs:∀w,(sizeOf e).run P w=.ok sz w)
  (hz:∀w,(zeroValue e).run P w=.ok z w) (hsm:n*sz<=16777216) (hv:EvP l parts vs)
  (hf:Instr.fill (λi=>some (i*sz,sz)) ((Array.range (n*sz)).map ((if n*sz=0 then #[] else z.cells)[·%(if n*sz=0 then #[] else z.cells).size]!)) vs=some cs.toArray):
  ∀ρ,Agr ρ l->(execOp ρ ⟨d,.buildSlice t n parts.toArray,ty,ps,af,g⟩).run P w=.ok (.value (.slice (some ⟨w.heap.size,0,none⟩) n n)) (w.alloc (.cells cs.toArray e)):=by
 intro ρ hρ;have hp:(parts.toArray.map λ(i,x)=>(i,ρ x)).toList=vs:=by simp[<-EvP.map hρ hv]
 have hn:¬n*sz>2^24:=by omega
 by_cases h0:n*sz=0
 ·simp only[if_pos h0] at hf;simp only[execOp,Instr.buildSlice,run_underlying ht,Sem.run_bind,Result.andThen_ok,hs,hn,if_false,if_pos h0,hp,hf,Sem.run_pure,newRow,newObj];rfl
 ·simp only[if_neg h0] at hf;simp only[execOp,Instr.buildSlice,run_underlying ht,Sem.run_bind,Result.andThen_ok,hs,hn,if_false,if_neg h0,hz,hp,hf,Sem.run_pure,newRow,newObj];rfl
def Inf(P:Program)(e:TypeId)(z:Value)(sz bytes:Nat):Prop:=(P.info? e).map (λi=>(i.zero,i.size,i.bytes))=some (some z,sz,bytes)
theorem py_(cs:List Value)(n:Nat)(hc:0<cs.length):(madeCells cs.toArray (n*cs.length)).toList=(List.replicate n cs).flatten:=by
 induction n with
 |zero=>simp[madeCells]
 |succ n ih=>
  rw[List.replicate_succ',List.flatten_append,<-ih];simp only[madeCells,Array.toList_map,Array.toList_range,List.flatten_cons,List.flatten_nil,List.append_nil];rw[Nat.succ_mul,List.range_add,List.map_append,List.map_map];congr 1;apply List.ext_getElem (by simp);intro i h1 h2;simp at h1;simp[Nat.mod_eq_of_lt h1,h1]
theorem sT_[Rz α]{B k:Nat}{t e:TypeId}{z:Value}{bytes:Nat}{x y:Operand}{n:Int}{ys:List α}(hx:ev l x=some (.int .i64 n))(hy:ev l y=some (.int .i64 n))(hm:mk (Rz.z:α) n=some ys)
  (ht:P.underlying t=some (.slice e)) (hi:Inf P e z (Rp.sz α) bytes) (hz:z.cells=(Rz.zc (α:=α)).toArray) (hb:bytes<=1000) (hB:B<=w.heap.size):
  ∃w' a c,(∀ρ,Agr ρ l->(execOp ρ ⟨d,.makeSlice t x y,ty,ps,af,g⟩).run P w=.ok (.value (.slice a ys.length c)) w')∧
   Ow B e k (ext o w.heap.size k) w' (.slice a ys.length c) ys∧Stp k o w (ext o w.heap.size k) w':=by
 obtain⟨h0,h1,rfl⟩:=te_ hm;obtain⟨i0,hi0,hz0,hz1,hz2⟩:=info_parts hi;have hzl:(Rz.zc (α:=α)).length=Rp.sz α:=Rp.len (Rz.rdz (α:=α) o w);have hr:=run_make (P:=P) w t e i0 z ht hi0 hz0 .i64 .i64 n n h0 (Int.le_refl _) (by
  rw[hz2];have:=Int.mul_le_mul (show(bytes:Int)<=1000 by omega) (show n<=1000000000 by omega) h0 (by omega);omega) (by omega)
 rw[hz1,hz] at hr;have hcs:(madeCells (Rz.zc (α:=α)).toArray (n.toNat*Rp.sz α))=((List.replicate n.toNat (Rz.zc (α:=α))).flatten).toArray:=by
  apply Array.toList_inj.1;rw[<-hzl,py_ _ _ (by rw[hzl];exact Rp.pos)]
 rw[hcs] at hr;have hrc:RdC o w (List.replicate n.toNat (Rz.zc (α:=α))).flatten (List.replicate n.toNat (Rz.z:α)):=by
  generalize n.toNat=m
  induction m with
  |zero=>simp[RdC]
  |succ m ih=>rw[List.replicate_succ,List.flatten_cons,List.replicate_succ];exact⟨_,_,rfl,Rz.rdz o w,ih⟩
 have hl:(List.replicate n.toNat (Rz.z:α)).length=n.toNat:=by simp
 refine⟨w.alloc (.cells (List.replicate n.toNat (Rz.zc (α:=α))).flatten.toArray e),some ⟨w.heap.size,0,none⟩,n.toNat,λρ hρ=>?_,?_,gn_ _ _ _ _ _⟩
 ·simp only[execOp,hρ x _ hx,hρ y _ hy,Sem.run_bind,hr,Result.andThen_ok,hl];rfl
 ·have:=lf_ (B:=B) (k:=k) (e:=e) hrc hB (by rw[hl];simp only[maxLen];omega);rw[hl] at this ⊢;exact this
theorem RdL.css{a:Option Addr}{m c:Nat}{zs:List α}(h:RdL o w (.slice a m c) zs):∃css:List (List Value),css.length=zs.length∧css.flatten.length=zs.length*Rp.sz α∧m=zs.length∧(a=none->m=0)∧
  (∀(i:Nat) cs x,css[i]? =some cs->zs[i]? =some x->Rp.rd o w cs x)∧(∀ad,a=some ad->∀j u,css.flatten[j]? =some u->w.cell? (ad.add j)=some u):=by
 obtain⟨a',c',e,h1,h2,h4⟩:=h;cases e
 have key:∀(ys:List α)(k:Nat),(∀(i:Nat) x,ys[i]? =some x->zs[k+i]? =some x)->∃css:List (List Value),css.length=ys.length∧css.flatten.length=ys.length*Rp.sz α∧
   (∀(i:Nat) cs x,css[i]? =some cs->ys[i]? =some x->Rp.rd o w cs x)∧(∀b off,a=some ⟨b,off,none⟩->Cells w b (off+k*Rp.sz α) css.flatten):=by
  intro ys
  induction ys with
  |nil=>exact λk _=>⟨[],rfl,by simp,λi cs x h=>by simp at h,λb off _ j u hj=>by simp at hj⟩
  | cons y ys ih=>
   intro k hk;obtain⟨css,e1,e2,e3,e4⟩:=ih (k+1) (λi x hx=>by rw[show k+1+i=k+(i+1) by omega];exact hk (i+1) x (by simpa using hx));obtain⟨b,off,cs,ha,ho,hl,hc,hr⟩:=h4 k y (by have:=hk 0 y rfl;simpa using this);have hcl:cs.length=Rp.sz α:=Rp.len hr;refine⟨cs::css,by simp[e1],by rw[List.flatten_cons,List.length_append,e2,hcl,List.length_cons,Nat.succ_mul];omega,λi c x hc' hx=>?_,λb' off' ha' j u hj=>?_⟩
   ·cases i with
    |zero=>simp at hc' hx;subst hc';subst hx;exact hr
    |succ i=>exact e3 i c x (by simpa using hc') (by simpa using hx)
   ·rw[ha] at ha';cases ha';rw[List.flatten_cons] at hj;by_cases hjl:j<cs.length
    ·rw[List.getElem?_append_left hjl] at hj;exact hc j u hj
    ·rw[List.getElem?_append_right (by omega)] at hj;have:=e4 b off ha (j-cs.length) u hj;rw[hcl] at this hjl;rw[show off+k*Rp.sz α+j=off+(k+1)*Rp.sz α+(j-Rp.sz α) by rw[Nat.succ_mul];omega];exact this
 obtain⟨css,e1,e2,e3,e4⟩:=key zs 0 (λi x h=>by simpa using h);refine⟨css,e1,e2,rfl,λe=>?_,e3,λad had j u hj=>?_⟩
 ·cases zs with
  |nil=>rfl
  |cons z zs=>
   obtain⟨b,off,cs,ha,_⟩:=h4 0 z rfl;rw[e] at ha;cases ha
 cases zs with
 |nil=>
  have:css=[]:=List.eq_nil_of_length_eq_zero (by simpa using e1);subst this;simp at hj
 | cons z zs=>
  obtain⟨b,off,cs,ha,_⟩:=h4 0 z rfl;rw[ha] at had;cases had;have:=e4 b off ha j u hj;have hadd:(⟨b,off,none⟩:Addr).add j=⟨b,off+j,none⟩:=by
   unfold Addr.add;split
   ·rename_i h;rw[h];rfl
   ·rfl
  rw[hadd];simpa using this
theorem nu_{t t' ty:TypeId}{v:Value}{m c:Nat}:Builtin.append_ #[t,t'] ty #[v,.slice none m c]=Builtin.append_ #[t,t'] ty #[v,.slice none m 0]:=by
 unfold Builtin.append_;simp[Builtin.lenOf,Builtin.firstCells,Builtin.mayShare,asInt,asIntOf]
theorem qr_{B k:Nat}{t e:TypeId}{z:Value}{bytes:Nat}{x y:Operand}{v:Value}{a:Option Addr}{m c:Nat}{xs zs ys:List α}(hx:ev l x=some v)(hy:ev l y=some (.slice a m c))
  (hown:Ow B e k o w v xs) {o2:Tg} (hr:RdL o2 w (.slice a m c) zs) (hel:∀cs x,Rp.rd o2 w cs (x:α)->Rp.rd o w cs x) (hc:cat xs zs=some ys) (hk:k≠0)
  (ht:P.underlying t=some (.slice e)) (hi:Inf P e z (Rp.sz α) bytes) (hzs:z.cells.size=Rp.sz α) (hb:bytes<=1000) (hB:B<=w.heap.size):
  ∃w' a' c',(∀ρ,Agr ρ l->(execOp ρ ⟨d,.call {callee:=.builtin .append,args:= #[x,y],argTypes:= #[t,t]},ty,ps,af,g⟩).run P w=.ok (.value (.slice a' ys.length c')) w')∧
   Ow B e k (ext o w.heap.size k) w' (.slice a' ys.length c') ys∧Stp k o w (ext o w.heap.size k) w':=by
 obtain⟨h0,rfl⟩:=oK_ hc;obtain⟨i0,hi0,hz0,hz1,hz2⟩:=info_parts hi;obtain⟨css,e1,e2,e3,e4⟩:=hown;obtain⟨dss,f1,f2,rfl,f4,f5,f6⟩:=hr.css;have hone:∀u∈dss.flatten,u.oneCell'=true:=by
  intro u hu;obtain⟨cs,hcs,hu'⟩:=List.mem_flatten.1 hu;obtain⟨i,hi'⟩:=List.mem_iff_getElem?.1 hcs;have hlt:=(List.getElem?_eq_some_iff.1 hi').1;exact Rp.one (f5 i cs _ hi' (List.getElem?_eq_getElem (by omega))) u hu'
 obtain⟨v',w',hrun0,h1,h2,h3,h4⟩:=lV_ (P:=P) w B t ty e i0 z (Rp.sz α) bytes ht hi0 hz0 hz1 hz2 hzs Rp.pos v xs.length css.flatten e2 a zs.length (if a=none then 0 else c) dss.flatten f2 (λe=>⟨f4 e,if_pos e⟩) f6 hone
  (by
   have:=Nat.mul_le_mul h0 hb;omega) (by simp only[maxLen];omega) hB
 have hrun:(Builtin.append_ #[t,t] ty #[v,.slice a zs.length c]).run P w=.ok v' w':=by
  cases a with
  |none=>rw[nu_];exact hrun0
  |some ad=>exact hrun0
 have hst:Stp k o w (ext o w.heap.size k) w':=pZ_ h2 (λg hg=>e3 g hg) k;have htag:∀g,v'.ownBlock=some g->ext o w.heap.size k g=k:=by
  intro g hg;by_cases hlt:g<w.heap.size
  ·rw[jQ_ _ _ _ _ hlt];rcases h3 with h3|h3
   ·exact e3 g (by rw[<-h3];exact hg)
   ·have:=(h3.lt g hg).1;omega
  ·exact iA_ _ _ _ _ (by omega)
 have hcl:=Ow.lens (e:=e) (B:=B) e1 e4;have hOw:Ow B e k (ext o w.heap.size k) w' v' (xs++zs):=by
  refine⟨css++dss,by simp[e1,f1],by rw[List.flatten_append,List.length_append];exact h1,htag,λi cs u hcs hu=>?_⟩;refine Rp.stp ?_ hst hk;by_cases hi':i<css.length
  ·rw[List.getElem?_append_left hi'] at hcs;rw[List.getElem?_append_left (by omega)] at hu;exact e4 i cs u hcs hu
  ·rw[List.getElem?_append_right (by omega)] at hcs;rw[List.getElem?_append_right (by omega),<-e1] at hu;exact hel _ _ (f5 _ cs u hcs hu)
 obtain⟨a',c',e5⟩:=hOw.form;refine⟨w',a',c',λρ hρ=>?_,by rw[<-e5];exact hOw,hst⟩;simp only[execOp,resolve,invoke,builtin,Sem.run_bind,Sem.run_pure,Result.andThen_ok,List.map_toArray,List.map_cons,List.map_nil,hρ x _ hx,hρ y _ hy,hrun,e5]
end
end
section
open Go.RowKit
section
variable {P:Program} {Q:Exit->Act->World->Prop} {n:Nat} {l:List (Nat×Value)} {w w0:World} {d:Option Nat} {ty:TypeId} {ps:String} {af:Array Edge} {g:Option (Nat×Bool)} {o:Tg} {α:Type} [Rp α]
def sub:List Nat->Code->Code
  |[],c=>c
  |0::p,.seq a _=>sub p a
  |_::p,.seq _ b=>sub p b
  |0::p,.cond _ a _=>sub p a
  |_::p,.cond _ _ b=>sub p b
  |_::p,.block _ c=>sub p c
  |_::p,.loop c=>sub p c
  |_::p,.scope c=>sub p c
  |_,c=>c
theorem J_{x:Operand}{t e:TypeId}{v:Value}{xs:List α}{o2:Tg}{w2:World}(hx:ev l x=some v)(h:RdL o2 w2 v xs)(ht:P.underlying t=some (.slice e)):
  ∀ρ,Agr ρ l->(execOp ρ ⟨d,.call {callee:=.builtin .len,args:= #[x],argTypes:= #[t]},ty,ps,af,g⟩).run P w=.ok (.value (.int .i64 xs.length)) w:=by
 obtain⟨a,c,rfl⟩:=h.form;exact qH_ hx ht
theorem bt_{x:Operand}{t e e':TypeId}{B k:Nat}{v:Value}{xs:List α}(hx:ev l x=some v)(h:Ow B e' k o w v xs)(ht:P.underlying t=some (.slice e)):
  ∀ρ,Agr ρ l->(execOp ρ ⟨d,.call {callee:=.builtin .len,args:= #[x],argTypes:= #[t]},ty,ps,af,g⟩).run P w=.ok (.value (.int .i64 xs.length)) w:=by
 obtain⟨a,c,rfl⟩:=h.form;exact qH_ hx ht
theorem sO_{x y:Operand}{t e:TypeId}{v:Value}{xs:List α}{i:Int}{u:α}(hx:ev l x=some v)(hy:ev l y=some (.int .i64 i))(h:RdL o w v xs)(hi:ix xs i=some u)
  (ht:P.underlying t=some (.slice e)) (hs:∀w,(sizeOf e).run P w=.ok (Rp.sz α) w):
  ∃b off cs,(∀w1 ρ,Agr ρ l->(execOp ρ ⟨d,.indexAddr t x y,ty,ps,af,g⟩).run P w1=.ok (.value (.pointer (some ⟨b,off,none⟩))) w1)∧Cells w b off cs∧Rp.rd o w cs u:=by
 obtain⟨a,c,rfl⟩:=h.form;obtain⟨h0,h1,h2⟩:=fC_ hi;obtain⟨b,off,cs,rfl,hc,hr,_⟩:=h.at h2;exact⟨b,_,cs,λw1=>hq_ hx hy h0 (by omega) ht hs,hc,hr⟩
theorem tB_{x y:Operand}{t e e':TypeId}{B k:Nat}{v:Value}{xs:List α}{i:Int}{u:α}(hx:ev l x=some v)(hy:ev l y=some (.int .i64 i))(h:Ow B e' k o w v xs)(hi:ix xs i=some u)
  (ht:P.underlying t=some (.slice e)) (hs:∀w,(sizeOf e).run P w=.ok (Rp.sz α) w):
  ∃b off cs,(∀w1 ρ,Agr ρ l->(execOp ρ ⟨d,.indexAddr t x y,ty,ps,af,g⟩).run P w1=.ok (.value (.pointer (some ⟨b,off,none⟩))) w1)∧Cells w b off cs∧Rp.rd o w cs u:=by
 obtain⟨a,c,rfl⟩:=h.form;obtain⟨h0,h1,h2⟩:=fC_ hi;obtain⟨b,cs,rfl,_,hc,hr,_⟩:=h.at h2;exact⟨b,_,cs,λw1=>hq_ hx hy h0 (by omega) ht hs,hc,hr⟩
theorem qR_{t e:TypeId}{x:Operand}{lo hi:Option Operand}{v:Value}{xs ys:List α}{lo' hi':Int}(hx:ev l x=some v)(h:RdL o w v xs)
  (hlo:EvB l lo 0 lo') (hhi:EvB l hi xs.length hi') (hc:cut xs lo' hi'=some ys) (ht:P.underlying t=some (.slice e)) (hs:∀w,(sizeOf e).run P w=.ok (Rp.sz α) w):
  ∃v',(∀w1 ρ,Agr ρ l->(execOp ρ ⟨d,.slice t x lo hi none,ty,ps,af,g⟩).run P w1=.ok (.value v') w1)∧RdL o w v' ys:=by
 obtain⟨a,c,rfl⟩:=h.form;obtain⟨h1,h2,h3,h4,h5,h6⟩:=pf_ h hc;refine⟨_,λw1 ρ hρ=>?_,h1⟩
 have:=lA_ (P:=P) (w:=w1) (a:=a) (n:=xs.length) (c:=c) (lo:=lo.map ρ) (hi:=hi.map ρ) (lo':=lo') (hi':=hi') ht hs
  (by cases lo with
    |none=>exact .inr ⟨rfl,hlo⟩
    |some y=>exact .inl (by simp[hρ y _ hlo]))
  (by cases hi with
    |none=>exact .inr ⟨rfl,hhi⟩
    |some y=>exact .inl (by simp[hρ y _ hhi])) h3 h4 h5
 simp only[execOp,hρ x _ hx,Sem.run_bind,this,Result.andThen_ok,Option.map_none];rfl
theorem lb_{B k:Nat}{t e:TypeId}{z:Value}{bytes:Nat}{x y:Operand}{v u:Value}{xs zs ys:List α}(hx:ev l x=some v)(hy:ev l y=some u)
  (hown:Ow B e k o w v xs) {o2:Tg} (hr:RdL o2 w u zs) (hel:∀cs x,Rp.rd o2 w cs (x:α)->Rp.rd o w cs x) (hc:cat xs zs=some ys) (hk:k≠0)
  (ht:P.underlying t=some (.slice e)) (hi:Inf P e z (Rp.sz α) bytes) (hzs:z.cells.size=Rp.sz α) (hb:bytes<=1000) (hB:B<=w.heap.size):
  ∃w' v',(∀ρ,Agr ρ l->(execOp ρ ⟨d,.call {callee:=.builtin .append,args:= #[x,y],argTypes:= #[t,t]},ty,ps,af,g⟩).run P w=.ok (.value v') w')∧
   Ow B e k (ext o w.heap.size k) w' v' ys∧Stp k o w (ext o w.heap.size k) w':=by
 obtain⟨a,c,rfl⟩:=hr.form;obtain⟨w',a',c',h1,h2,h3⟩:=qr_ (g:=g) (ps:=ps) (ty:=ty) (af:=af) (d:=d) hx hy hown hr hel hc hk ht hi hzs hb hB;exact⟨w',_,h1,h2,h3⟩
omit [Rp α] in
theorem ai_{xs ys:List α}{x:α}(h:push xs x=some ys):cat xs [x]=some ys:=by
 obtain⟨h1,rfl⟩:=jK_ h;unfold cat
 rw[if_pos (by simp only[List.length_cons,List.length_nil];omega)]
theorem tA_{e:TypeId}{cs:List Value}{xs:List α}(h:RdC o w cs xs)(hl:xs.length<=maxLen):
  RdL (ext o w.heap.size 0) (w.alloc (.cells cs.toArray e)) (.slice (some ⟨w.heap.size,0,none⟩) xs.length xs.length) xs:=by
 refine (lf_ (B:=0) (k:=0) (e:=e) h (Nat.zero_le _) hl).freeze λb _ hb=>?_;rcases hb with hb|hb<;>exact hb
theorem kY_{t:TypeId}{ad:Addr}{u:Value}(hs:∀w,(sizeOf t).run P w=.ok 1 w)(hu:u.cells= #[u])(h1:u.oneCell'=true)(hc:∃x,w.cell? ad=some x)(hf:w.frozen? ad=false):
  (Instr.storeAt t (.pointer (some ad)) u).run P w=.ok () (w.setCell ad u):=by
 obtain⟨x,hx⟩:=hc;have hst:=run_store P w ad u .plain h1;have ha:ad.add 0=ad:=by simp[Addr.add]
 simp only[Instr.storeAt,Instr.sureAddr,storeVar,Sem.run_bind,Sem.run_pure,Result.andThen_ok,hs,hu];simp[storeCells,ha,hst,hx,hf]
theorem nD_{o:Tg}{w:World}{b i k:Nat}{u:Value}(hk:o b=k):Stp k o w o (w.setCell ⟨b,i,none⟩ u):=by
 refine⟨rfl,rfl,rfl,by simp[World.setCell],λc hc hn=>?_,λ_ _=>rfl⟩;have:c≠b:=λe=>hn (by rw[e];exact hk);simp only[World.setCell];rw[Array.getElem?_modify,if_neg (Ne.symm this)]
theorem qy_{B k b i:Nat}{t e:TypeId}{x y:Operand}{u:Value}{cs:List Value}(hx:ev l x=some (.pointer (some ⟨b,i,none⟩)))(hy:ev l y=some u)(hbx:Bx B k o w b e cs)(hi:i<cs.length)
  (hs:∀w,(sizeOf t).run P w=.ok 1 w) (hu:u.cells= #[u]) (h1:u.oneCell'=true):
  ∃w',(∀ρ,Agr ρ l->(execOp ρ ⟨none,.store t x y,ty,ps,af,g⟩).run P w=.ok .skip w')∧Bx B k o w' b e (cs.set i u)∧Stp k o w o w':=by
 have hc:=hbx.cell (List.getElem?_eq_getElem hi);have hf:w.frozen? ⟨b,i,none⟩=false:=by simp[World.frozen?,hbx.blk]
 have hr:=kY_ (P:=P) hs hu h1 ⟨_,hc⟩ hf;refine⟨w.setCell ⟨b,i,none⟩ u,λρ hρ=>?_,⟨?_,hbx.tag,hbx.lo⟩,nD_ hbx.tag⟩
 ·simp only[execOp,hρ x _ hx,hρ y _ hy,Sem.run_bind,hr,Result.andThen_ok];rfl
 ·simp only[World.setCell];rw[Array.getElem?_modify,if_pos rfl,hbx.blk];simp
theorem qC_{B k b:Nat}{t e:TypeId}{x y:Operand}{cs ds:List Value}(hx:ev l x=some (.pointer (some ⟨b,0,none⟩)))(hy:ev l y=some (.agg ds.toArray))(hbx:Bx B k o w b e cs)(hl:ds.length=cs.length)
  (hs:(P.info? t).map (·.size)=some ds.length) (h1:∀u∈ds,u.oneCell'=true):
  ∃w',(∀ρ,Agr ρ l->(execOp ρ ⟨none,.store t x y,ty,ps,af,g⟩).run P w=.ok .skip w')∧Bx B k o w' b e ds∧Stp k o w o w':=by
 have hr:=run_storeVar_row (P:=P) w b e t cs.toArray ds.toArray hbx.blk (by simpa using hs) (by simp[hl]) (by simpa using h1);refine⟨w.setRow b ds.toArray,λρ hρ=>?_,⟨?_,hbx.tag,hbx.lo⟩,⟨rfl,rfl,rfl,by simp[World.setRow],λc hc hn=>?_,λ_ _=>rfl⟩⟩
 ·simp only[execOp,hρ x _ hx,hρ y _ hy,Instr.storeAt,Instr.sureAddr,Sem.run_bind,Sem.run_pure,hr,Result.andThen_ok]
 ·simp only[World.setRow];rw[Array.getElem?_modify,if_pos rfl,hbx.blk];rfl
 ·have:c≠b:=λe=>hn (by rw[e];exact hbx.tag);simp only[World.setRow];rw[Array.getElem?_modify,if_neg (Ne.symm this)]
theorem sf_(css:List (List Value))(hl:∀cs∈css,cs.length=1)(i:Nat)(u:Value):(css.set i [u]).flatten=css.flatten.set i u:=by
 induction css generalizing i with
 |nil=>simp
 |cons c css ih=>
  have hc:=hl c (by simp);obtain⟨z,rfl⟩:=List.length_eq_one_iff.1 hc;cases i with
  |zero=>simp
  |succ i=>simp[ih (λx hx=>hl x (by simp[hx]))]
theorem qJ_{B k b:Nat}{t e:TypeId}{x y:Operand}{v u:Value}{xs ys:List α}{i:Int}{z:α}(h1s:Rp.sz α=1)(hx:ev l x=some (.pointer (some ⟨b,0+i.toNat*Rp.sz α,none⟩)))(hy:ev l y=some u)
  (hown:Ow B e k o w v xs) (hb:v.ownBlock=some b) (hi:st xs i z=some ys) (hk:k≠0) (hs:∀w,(sizeOf t).run P w=.ok 1 w) (hu:u.cells= #[u]) (hz:Rp.rd o w [u] z):
  ∃w',(∀ρ,Agr ρ l->(execOp ρ ⟨none,.store t x y,ty,ps,af,g⟩).run P w=.ok .skip w')∧Ow B e k o w' v ys∧Stp k o w o w':=by
 obtain⟨h0,h1,rfl⟩:=tu_ hi;obtain⟨a,c,rfl⟩:=hown.form;obtain⟨b',cs,rfl,_,hcl,hrd,hfz⟩:=hown.at (List.getElem?_eq_getElem (show i.toNat<xs.length by omega));simp[Value.ownBlock] at hb;subst hb;have hcs:cs.length=1:=by rw[Rp.len hrd,h1s]
 obtain⟨q,rfl⟩:=List.length_eq_one_iff.1 hcs;rw[h1s,Nat.mul_one,Nat.zero_add] at hx hfz hcl;have hone:u.oneCell'=true:=Rp.one hz u (by simp);have hr:=kY_ (P:=P) hs hu hone ⟨_,i_ hcl⟩ hfz;obtain⟨css,e1,e2,e3,e4⟩:=hown;have hls:=Ow.lens (e:=e) (B:=B) e1 e4;rw[h1s] at hls;obtain⟨g1,g2⟩:=e2.stored i.toNat u;have hst:Stp k o w o (w.setCell ⟨b',i.toNat,none⟩ u):=nD_ (e3 _ rfl);refine⟨_,λρ hρ=>?_,⟨css.set i.toNat [u],by simp[e1],?_,e3,λj cs' x' hc hx'=>?_⟩,hst⟩
 ·simp only[execOp,hρ x _ hx,hρ y _ hy,Sem.run_bind,hr,Result.andThen_ok];rfl
 ·rw[sf_ _ hls];simpa using g1
 ·rw[List.getElem?_set] at hc hx';refine Rp.stp ?_ hst hk;by_cases hj:i.toNat=j
  ·subst hj;rw[if_pos rfl,if_pos (by omega)] at hc;rw[if_pos rfl,if_pos (by omega)] at hx';cases hc;cases hx';exact hz
  ·rw[if_neg hj] at hc hx';exact e4 j cs' x' hc hx'
def RsL(P:Program)(l:List (Nat×Value))(w:World):List ResultVar->List Value->Prop
  |[],[]=>True
  | .tmp t::r,v::vs=>Kn l t=some v∧RsL P l w r vs
  | .cell t T::r,v::vs=>(∃ad,Kn l t=some (.pointer (some ad))∧(loadVar T ad).run P w=.ok v w)∧RsL P l w r vs
  |_,_=>False
def rsv(tmps:Array Value):ResultVar->Sem Value
  | .tmp t=>Pure.pure (tmps.getD t undef)
  | .cell a t=>do loadVar t (<-asAddr (tmps.getD a undef))
theorem RsL.run{a:Act}(ha:Fr a n l):∀{rs:List ResultVar}{vs:List Value},RsL P l w rs vs->(rs.mapM (rsv a.tmps)).run P w=.ok vs w
 |[],[],_=>rfl
 | .tmp t::r,v::vs,h=>by
  have:=RsL.run ha h.2;rw[List.mapM_cons];simp only[Sem.run_bind,rsv,Sem.run_pure,Result.andThen_ok,ha.get t v h.1,this]
 | .cell t T::r,v::vs,h=>by
  obtain⟨⟨ad,h1,h2⟩,h3⟩:=h;have:=RsL.run ha h3;have hp:asAddr (a.tmps.getD t undef)=Pure.pure ad:=by rw[ha.get t _ h1];rfl
  rw[List.mapM_cons];simp only[Sem.run_bind,rsv,hp,Sem.run_pure,Result.andThen_ok,h2,this]
 |[],_::_,h=>h.elim
 | .tmp _::_,[],h=>h.elim
 | .cell _ _::_,[],h=>h.elim
def packed:List Value->Value
  |[v]=>v
  |vs=> .tuple vs.toArray
theorem pv_(fn:Func)(tmps:Array Value):results fn tmps=(do let vs<-fn.results.mapM (rsv tmps);Pure.pure (if h:vs.size=1 then vs[0] else .tuple vs)):=rfl
theorem N_{fn:Func}{R:Ending->World->Prop}{rs:List ResultVar}{vs:List Value}(hres:fn.results=rs.toArray)(h:RsL P l w rs vs)(hR:R (.returned (packed vs)) w):∀a,Fr a n l->bodyPost P fn R .ret a w:=by
 intro a ha;refine⟨ha.defers,packed vs,?_,hR⟩;have h1:=RsL.run ha h;have h2:(rs.toArray.mapM (rsv a.tmps)).run P w=.ok vs.toArray w:=by
  rw[List.mapM_toArray,map_eq_pure_bind,Sem.run_bind,h1];rfl
 rw[pv_,hres];simp only[Sem.run_bind,h2,Result.andThen_ok,Sem.run_pure]
 match vs with
 |[]=>rfl
 |[v]=>rfl
 |v::u::vs=>simp[packed]
theorem ln_{fn:Func}{R:Ending->World->Prop}{rs:List ResultVar}{vs:List Value}(hres:fn.results=rs.toArray)(h:RsL P l w rs vs)(hR:R (.returned (packed vs)) w):∀a,Fr a n l->bodyPost P fn R .normal a w:=N_ (P:=P) hres h hR
end
end
section
open Go.RowKit
def forI{α σ ρ:Type}(body:Int->α->σ->Option (Lp σ σ ρ)):List α->Int->σ->Option (σ ⊕ ρ)
  |[],_,s=>some (.inl s)
  | x::xs,i,s=>match body i x s with
    |none=>none
    |some (.go s')=>forI body xs (i+1) s'
    |some (.out s')=>some (.inl s')
    |some (.ret r)=>some (.inr r)
def forN{σ ρ:Type}(body:Int->σ->Option (Lp σ σ ρ)):Nat->Int->σ->Option (σ ⊕ ρ)
  |0,_,s=>some (.inl s)
  | k+1,i,s=>match body i s with
    |none=>none
    |some (.go s')=>forN body k (i+1) s'
    |some (.out s')=>some (.inl s')
    |some (.ret r)=>some (.inr r)
def Hands{σ ρ:Type}(next:σ->Prop)(res:σ ⊕ ρ):Lp σ σ ρ->Prop
  | .go s=>next s
  | .out s=>res=.inl s
  | .ret r=>res=.inr r
theorem R_{α σ ρ:Type}{body:Int->α->σ->Option (Lp σ σ ρ)}{xs:List α}{i:Int}{s:σ}{res:σ ⊕ ρ}(h0:0<=i)(hlt:i<xs.length)(h:forI body (xs.drop i.toNat) i s=some res):
  ∃x q,ix xs i=some x∧body i x s=some q∧Hands (λs'=>forI body (xs.drop (i+1).toNat) (i+1) s'=some res) res q:=by
 have hl:i.toNat<xs.length:=by omega
 rw[List.drop_eq_getElem_cons hl] at h;refine⟨xs[i.toNat],?_⟩;simp only[forI] at h;rw[show(i+1).toNat=i.toNat+1 by omega];cases hb:body i xs[i.toNat] s with
 |none=>rw[hb] at h;cases h
 |some q=>
  rw[hb] at h;refine⟨q,by unfold ix;rw[if_pos h0,List.getElem?_eq_getElem hl],rfl,?_⟩;cases q with
  |go s'=>exact h
  |out s'=>cases h;rfl
  |ret r=>cases h;rfl
theorem S_{α σ ρ:Type}{body:Int->α->σ->Option (Lp σ σ ρ)}{xs:List α}{i:Int}{s:σ}{res:σ ⊕ ρ}(hge:¬i<xs.length)(h:forI body (xs.drop i.toNat) i s=some res):res=.inl s:=by
 rw[List.drop_of_length_le (by omega)] at h;cases h;rfl
theorem bz_{σ ρ:Type}{body:Int->σ->Option (Lp σ σ ρ)}{n i:Int}{s:σ}{res:σ ⊕ ρ}(hlt:i<n)(h:forN body (n-i).toNat i s=some res):
  ∃q,body i s=some q∧Hands (λs'=>forN body (n-(i+1)).toNat (i+1) s'=some res) res q:=by
 rw[show(n-i).toNat=(n-(i+1)).toNat+1 by omega] at h;simp only[forN] at h;cases hb:body i s with
 |none=>rw[hb] at h;cases h
 |some q=>
  rw[hb] at h;refine⟨q,rfl,?_⟩;cases q with
  |go s'=>exact h
  |out s'=>cases h;rfl
  |ret r=>cases h;rfl
theorem bx_{σ ρ:Type}{body:Int->σ->Option (Lp σ σ ρ)}{n i:Int}{s:σ}{res:σ ⊕ ρ}(hge:¬i<n)(h:forN body (n-i).toNat i s=some res):res=.inl s:=by
 rw[show(n-i).toNat=0 by omega] at h;cases h;rfl
theorem ad_{σ ρ:Type}{step:σ->Option (Lp σ σ ρ)}{k:Nat}{s:σ}{res:σ ⊕ ρ}(h:loopF step k s=some res):
  ∃k' q,k=k'+1∧step s=some q∧Hands (λs'=>loopF step k' s'=some res) res q:=by
 obtain⟨k',q,e,h1,h2⟩:=rH_ h;refine⟨k',q,e,h1,?_⟩;rcases h2 with⟨s',rfl,h⟩|⟨t,rfl,h⟩|⟨r,rfl,h⟩<;>exact h
def Po(M N:Act->World->Prop)(E:Nat->Act->World->Prop):Exit->Act->World->Prop
  | .normal,a,w=>M a w
  | .ret,a,w=>N a w
  | .exit i,a,w=>E i a w
  |_,_,_=>False
def noE:Nat->Act->World->Prop:=λ_ _ _=>False
section
variable {P:Program} {Q Q':Exit->Act->World->Prop} {n:Nat} {l:List (Nat×Value)} {w w0:World} {o oo:Tg} {α:Type}
theorem jm_{x y:Code}(M N:Act->World->Prop)(h1:wpC P x (Po M N noE) n l w)(h2:∀a w,M a w->y.wp P Q a w)(h3:∀a w,N a w->Q .ret a w):wpC P (.seq x y) Q n l w:=
 b_ (ol_ h1 λe a w h=>by
  cases e with
  |normal=>exact h2 a w h
  |ret=>exact h3 a w h
  |exit i=>exact h.elim
  |goto i=>exact h.elim
  |panic c=>exact h.elim
  |outgrown=>exact h.elim)
theorem nx{y:Code}(h:wpC P y Q n l w):∀a,Fr a n l->Exit.then (y.wp P Q) Q' .normal a w:=h
theorem m_{K:Act->World->Prop}{i:Nat}(h:∀a,Fr a n l->Q (.exit i) a w):∀a,Fr a n l->Exit.then K Q (.exit i) a w:=h
theorem I_{K:Act->World->Prop}(h:∀a,Fr a n l->Q .ret a w):∀a,Fr a n l->Exit.then K Q .ret a w:=h
theorem x_{K:Act->World->Prop}(h:∀a,Fr a n l->K a w):∀a,Fr a n l->Exit.then K Q .normal a w:=h
theorem y_{i:Nat}(h:∀a,Fr a n l->Q .normal a w):∀a,Fr a n l->Exit.inBlock i Q .normal a w:=h
theorem aq_{i:Nat}(h:∀a,Fr a n l->Q .ret a w):∀a,Fr a n l->Exit.inBlock i Q .ret a w:=h
theorem Q_{i:Nat}(h:∀a,Fr a n l->Q .normal a w):∀a,Fr a n l->Exit.inBlock i Q (.exit i) a w:=λa ha=>by
 show(if i=i then _ else _);rw[if_pos rfl];exact h a ha
theorem sW_{i j:Nat}(hij:j≠i)(h:∀a,Fr a n l->Q (.exit j) a w):∀a,Fr a n l->Exit.inBlock i Q (.exit j) a w:=λa ha=>by
 show(if j=i then _ else _);rw[if_neg hij];exact h a ha
theorem s_{M N:Act->World->Prop}{E:Nat->Act->World->Prop}(h:∀a,Fr a n l->M a w):∀a,Fr a n l->Po M N E .normal a w:=h
theorem cK_{M N:Act->World->Prop}{E:Nat->Act->World->Prop}(h:∀a,Fr a n l->N a w):∀a,Fr a n l->Po M N E .ret a w:=h
variable [Rp α] {ops:Array Oper} {rest:List Oper} {d:Nat} {ty:TypeId} {ps:String} {af:Array Edge} {g:Option (Nat×Bool)} {R:Value->World->Prop}
theorem Cells.keep{b off:Nat}{cs:List Value}(h:Cells w0 b off cs)(k:Keeps w0 w):Cells w b off cs:=λj v hj=>k_ k (h j v hj)
theorem fn_{x y:Operand}{t e:TypeId}{v:Value}{xs:List α}{i:Int}{u:α}(h:RdL o w v xs)(hi:ix xs i=some u)(hx:ev l x=some v)(hy:ev l y=some (.int .i64 i))
  (ht:P.underlying t=some (.slice e)) (hs:∀w,(sizeOf e).run P w=.ok (Rp.sz α) w)
  (h:∀b off cs,Cells w b off cs->Rp.rd o w cs u->R (.pointer (some ⟨b,off,none⟩)) w):op1 P ⟨some d,.indexAddr t x y,ty,ps,af,g⟩ n l w R:=by
 obtain⟨b,off,cs,hr,hc,hrd⟩:=sO_ (ps:=ps) (ty:=ty) (af:=af) (d:=some d) (g:=g) hx hy (by assumption) hi ht hs;exact l_ (hr w) (h b off cs hc hrd)
theorem wf_atZ{x y:Operand}{t e:TypeId}{v:Value}{xs:List α}{i:Int}{u:α}(h:RdL zt w0 v xs)(hi:ix xs i=some u)(hB:Bs oo o w0 w)(hx:ev l x=some v)(hy:ev l y=some (.int .i64 i))
  (ht:P.underlying t=some (.slice e)) (hs:∀w,(sizeOf e).run P w=.ok (Rp.sz α) w)
  (h:∀b off cs,Cells w b off cs->Rp.rd zt w0 cs u->R (.pointer (some ⟨b,off,none⟩)) w):op1 P ⟨some d,.indexAddr t x y,ty,ps,af,g⟩ n l w R:=by
 obtain⟨b,off,cs,hr,hc,hrd⟩:=sO_ (ps:=ps) (ty:=ty) (af:=af) (d:=some d) (g:=g) hx hy (by assumption) hi ht hs;exact l_ (hr w) (h b off cs (hc.keep hB.keeps) hrd)
theorem fS_{x y:Operand}{t e e':TypeId}{B k:Nat}{v:Value}{xs:List α}{i:Int}{u:α}(h:Ow B e' k o w v xs)(hi:ix xs i=some u)(hx:ev l x=some v)(hy:ev l y=some (.int .i64 i))
  (ht:P.underlying t=some (.slice e)) (hs:∀w,(sizeOf e).run P w=.ok (Rp.sz α) w)
  (h:∀b off cs,Cells w b off cs->Rp.rd o w cs u->R (.pointer (some ⟨b,off,none⟩)) w):op1 P ⟨some d,.indexAddr t x y,ty,ps,af,g⟩ n l w R:=by
 obtain⟨b,off,cs,hr,hc,hrd⟩:=tB_ (ps:=ps) (ty:=ty) (af:=af) (d:=some d) (g:=g) hx hy (by assumption) hi ht hs;exact l_ (hr w) (h b off cs hc hrd)
theorem lv_{t e:TypeId}{x:Operand}{lo hi:Option Operand}{v:Value}{xs ys:List α}{lo' hi':Int}(h:RdL o w v xs)(hc:cut xs lo' hi'=some ys)(hx:ev l x=some v)
  (hlo:EvB l lo 0 lo') (hhi:EvB l hi xs.length hi') (ht:P.underlying t=some (.slice e)) (hs:∀w,(sizeOf e).run P w=.ok (Rp.sz α) w)
  (h:∀v',RdL o w v' ys->R v' w):op1 P ⟨some d,.slice t x lo hi none,ty,ps,af,g⟩ n l w R:=by
 obtain⟨v',hr,h'⟩:=qR_ (ps:=ps) (ty:=ty) (af:=af) (d:=some d) (g:=g) hx (by assumption) hlo hhi hc ht hs;exact l_ (hr w) (h v' h')
theorem jO_{t e:TypeId}{x:Operand}{lo hi:Option Operand}{v:Value}{xs ys:List α}{lo' hi':Int}(h:RdL zt w0 v xs)(hc:cut xs lo' hi'=some ys)(hx:ev l x=some v)
  (hlo:EvB l lo 0 lo') (hhi:EvB l hi xs.length hi') (ht:P.underlying t=some (.slice e)) (hs:∀w,(sizeOf e).run P w=.ok (Rp.sz α) w)
  (h:∀v',RdL zt w0 v' ys->R v' w):op1 P ⟨some d,.slice t x lo hi none,ty,ps,af,g⟩ n l w R:=by
 obtain⟨v',hr,h'⟩:=qR_ (ps:=ps) (ty:=ty) (af:=af) (d:=some d) (g:=g) hx (by assumption) hlo hhi hc ht hs;exact l_ (hr w) (h v' h')
theorem aD_{x:Operand}{t:TypeId}{v:Value}{cs:List Value}(B k:Nat)(hB:B<=w.heap.size)(hc:v.cells=cs.toArray)(hx:ev l x=some v)
  (h:∀o' w' b,Bx B k o' w' b t cs->Stp k o w o' w'->R (.pointer (some ⟨b,0,none⟩)) w'):op1 P ⟨some d,.box t x,ty,ps,af,g⟩ n l w R:=
 l_ (tR_ hx) (h (ext o w.heap.size k) _ _ (by rw[hc];exact⟨heap_alloc_new w _,iA_ _ _ _ _ (Nat.le_refl _),hB⟩) (gn_ _ _ _ _ _))
theorem aY_{t:TypeId}{z:Value}{cs:List Value}(B k:Nat)(hB:B<=w.heap.size)(hz:∀w,(zeroValue t).run P w=.ok z w)(hc:z.cells=cs.toArray)
  (h:∀o' w' b,Bx B k o' w' b t cs->Stp k o w o' w'->R (.pointer (some ⟨b,0,none⟩)) w'):op1 P ⟨some d,.alloc t,ty,ps,af,g⟩ n l w R:=
 l_ (si_ hz) (h (ext o w.heap.size k) _ _ (by rw[hc];exact⟨heap_alloc_new w _,iA_ _ _ _ _ (Nat.le_refl _),hB⟩) (gn_ _ _ _ _ _))
theorem aB_{t e:TypeId}{m sz:Nat}{z:Value}{parts:List (Nat×Operand)}{vs:List (Nat×Value)}{cs:List Value}{xs:List α}(hrd:RdC o w cs xs)(hm:m=xs.length)(hv:EvP l parts vs)
  (ht:P.underlying t=some (.slice e)) (hs:∀w,(sizeOf e).run P w=.ok sz w) (hz:∀w,(zeroValue e).run P w=.ok z w) (hsm:m*sz<=16777216)
  (hf:Instr.fill (λi=>some (i*sz,sz)) ((Array.range (m*sz)).map ((if m*sz=0 then #[] else z.cells)[·%(if m*sz=0 then #[] else z.cells).size]!)) vs=some cs.toArray) (hl:xs.length<=1000000)
  (h:∀o' w' v',RdL o' w' v' xs->Stp 999 o w o' w'->Keeps w w'->R v' w'):op1 P ⟨some d,.buildSlice t m parts.toArray,ty,ps,af,g⟩ n l w R:=by
 subst hm;exact l_ (qM_ ht hs hz hsm hv hf) (h _ _ _ (tA_ (e:=e) hrd (by simp only[maxLen];omega)) (gn_ _ _ _ _ _) ((Keeps.refl _).alloc _))
theorem gj_{t e:TypeId}{m sz:Nat}{z:Value}{parts:List (Nat×Operand)}{vs:List (Nat×Value)}{cs:List Value}{xs:List α}(B k:Nat)(hB:B<=w.heap.size)(hrd:RdC o w cs xs)(hm:m=xs.length)(hv:EvP l parts vs)
  (ht:P.underlying t=some (.slice e)) (hs:∀w,(sizeOf e).run P w=.ok sz w) (hz:∀w,(zeroValue e).run P w=.ok z w) (hsm:m*sz<=16777216)
  (hf:Instr.fill (λi=>some (i*sz,sz)) ((Array.range (m*sz)).map ((if m*sz=0 then #[] else z.cells)[·%(if m*sz=0 then #[] else z.cells).size]!)) vs=some cs.toArray) (hl:xs.length<=1000000)
  (h:∀o' w' v',Ow B e k o' w' v' xs->Stp k o w o' w'->R v' w'):op1 P ⟨some d,.buildSlice t m parts.toArray,ty,ps,af,g⟩ n l w R:=by
 subst hm;exact l_ (qM_ ht hs hz hsm hv hf) (h _ _ _ (lf_ (e:=e) hrd hB (by simp only[maxLen];omega)) (gn_ _ _ _ _ _))
theorem hD_[Rz α]{t e:TypeId}{z:Value}{bytes:Nat}{x y:Operand}{m:Int}{ys:List α}(B k:Nat)(hB:B<=w.heap.size)(hm:mk (Rz.z:α) m=some ys)(hx:ev l x=some (.int .i64 m))(hy:ev l y=some (.int .i64 m))
  (ht:P.underlying t=some (.slice e)) (hi:Inf P e z (Rp.sz α) bytes) (hz:z.cells=(Rz.zc (α:=α)).toArray) (hb:bytes<=1000)
  (h:∀o' w' v',Ow B e k o' w' v' ys->Stp k o w o' w'->R v' w'):op1 P ⟨some d,.makeSlice t x y,ty,ps,af,g⟩ n l w R:=by
 obtain⟨w',a,c,hr,h1,h2⟩:=sT_ (o:=o) (ps:=ps) (ty:=ty) (af:=af) (d:=some d) (g:=g) (B:=B) (k:=k) hx hy hm ht hi hz hb hB;exact l_ hr (h _ _ _ h1 h2)
theorem bf_{B k:Nat}{t e:TypeId}{z:Value}{bytes:Nat}{x y:Operand}{v u:Value}{xs zs ys:List α}(hown:Ow B e k o w v xs)(hr:RdL o w u zs)(hc:cat xs zs=some ys)(hk:k≠0)(hB:B<=w.heap.size)(hx:ev l x=some v)(hy:ev l y=some u)
  (ht:P.underlying t=some (.slice e)) (hi:Inf P e z (Rp.sz α) bytes) (hzs:z.cells.size=Rp.sz α) (hb:bytes<=1000)
  (h:∀o' w' v',Ow B e k o' w' v' ys->Stp k o w o' w'->R v' w'):op1 P ⟨some d,.call {callee:=.builtin .append,args:= #[x,y],argTypes:= #[t,t]},ty,ps,af,g⟩ n l w R:=by
 obtain⟨w',v',hr,h1,h2⟩:=lb_ (ps:=ps) (ty:=ty) (af:=af) (d:=some d) (g:=g) hx hy hown hr (λ_ _ h=>h) hc hk ht hi hzs hb hB;exact l_ hr (h _ _ _ h1 h2)
theorem lk_{B k:Nat}{t e:TypeId}{z:Value}{bytes:Nat}{x y:Operand}{v u:Value}{xs zs ys:List α}(hown:Ow B e k o w v xs)(hr:RdL zt w u zs)(hc:cat xs zs=some ys)(hk:k≠0)(hB:B<=w.heap.size)
  (hel:∀cs x,Rp.rd zt w cs (x:α)->Rp.rd o w cs x) (hx:ev l x=some v) (hy:ev l y=some u)
  (ht:P.underlying t=some (.slice e)) (hi:Inf P e z (Rp.sz α) bytes) (hzs:z.cells.size=Rp.sz α) (hb:bytes<=1000)
  (h:∀o' w' v',Ow B e k o' w' v' ys->Stp k o w o' w'->R v' w'):op1 P ⟨some d,.call {callee:=.builtin .append,args:= #[x,y],argTypes:= #[t,t]},ty,ps,af,g⟩ n l w R:=by
 obtain⟨w',v',hr,h1,h2⟩:=lb_ (ps:=ps) (ty:=ty) (af:=af) (d:=some d) (g:=g) hx hy hown hr hel hc hk ht hi hzs hb hB;exact l_ hr (h _ _ _ h1 h2)
theorem cu_{B k b i:Nat}{t e:TypeId}{x y:Operand}{u:Value}{cs:List Value}(hbx:Bx B k o w b e cs)(hx:ev l x=some (.pointer (some ⟨b,i,none⟩)))(hy:ev l y=some u)(hi:i<cs.length)
  (hs:∀w,(sizeOf t).run P w=.ok 1 w) (hu:u.cells= #[u]) (h1:u.oneCell'=true)
  (h:∀w',Bx B k o w' b e (cs.set i u)->Stp k o w o w'->R undef w'):op1 P ⟨none,.store t x y,ty,ps,af,g⟩ n l w R:=by
 obtain⟨w',hr,h1,h2⟩:=qy_ (P:=P) (ps:=ps) (ty:=ty) (af:=af) (g:=g) hx hy hbx hi hs hu h1;exact nA_ hr (h w' h1 h2)
theorem ae_{B k b:Nat}{t e:TypeId}{x y:Operand}{cs ds:List Value}(hbx:Bx B k o w b e cs)(hx:ev l x=some (.pointer (some ⟨b,0,none⟩)))(hy:ev l y=some (.agg ds.toArray))(hl:ds.length=cs.length)
  (hs:(P.info? t).map (·.size)=some ds.length) (h1:∀u∈ds,u.oneCell'=true)
  (h:∀w',Bx B k o w' b e ds->Stp k o w o w'->R undef w'):op1 P ⟨none,.store t x y,ty,ps,af,g⟩ n l w R:=by
 obtain⟨w',hr,h1,h2⟩:=qC_ (P:=P) (ps:=ps) (ty:=ty) (af:=af) (g:=g) hx hy hbx hl hs h1;exact nA_ hr (h w' h1 h2)
theorem cc_{B k b:Nat}{t e:TypeId}{x y:Operand}{v u:Value}{xs ys:List α}{i:Int}{z:α}(hown:Ow B e k o w v xs)(hb:v.ownBlock=some b)(hi:st xs i z=some ys)(hz:Rp.rd o w [u] z)(hk:k≠0)(h1s:Rp.sz α=1)
  (hx:ev l x=some (.pointer (some ⟨b,0+i.toNat*Rp.sz α,none⟩))) (hy:ev l y=some u) (hs:∀w,(sizeOf t).run P w=.ok 1 w) (hu:u.cells= #[u])
  (h:∀w',Ow B e k o w' v ys->Stp k o w o w'->R undef w'):op1 P ⟨none,.store t x y,ty,ps,af,g⟩ n l w R:=by
 obtain⟨w',hr,h1,h2⟩:=qJ_ (P:=P) (ps:=ps) (ty:=ty) (af:=af) (g:=g) h1s hx hy hown hb hi hk hs hu hz;exact nA_ hr (h w' h1 h2)
theorem o_{f:FuncId}{xs:List Operand}{vs:List Value}{ats:Array TypeId}{C:Ending->World->Prop}(hc:Calls P f vs.toArray w C)(hcall:∀args w,(callFunc f args).run P w=.ok (.enter f args) w)(hv:EvL l xs vs)
  (h:∀e w',C e w'->∃v,e=.returned v∧R v w'):op1 P ⟨some d,.call {callee:=.value (.func f),args:=xs.toArray,argTypes:=ats},ty,ps,af,g⟩ n l w R:=
 is_ (tn_ hcall hv) hc h
def rtg(k k':Nat)(o:Tg):Tg:=λb=>if o b=k then k' else if o b=k' then 0 else o b
theorem Ow.rtg{B k:Nat}{e:TypeId}{v:Value}{xs:List α}(h:Ow B e k o w v xs)(k':Nat)(hk:k≠0):Ow B e k' (Go.Proofs.YtdbbeldgdgonfaaGreat.rtg k k' o) w v xs:=by
 obtain⟨css,h1,h2,h3,h4⟩:=h;refine⟨css,h1,h2,λg hg=>by unfold Go.Proofs.YtdbbeldgdgonfaaGreat.rtg;rw[if_pos (h3 g hg)],λi cs x a b=>Rp.mv (h4 i cs x a b) (Nat.le_refl _) λb _ hb=>⟨rfl,?_⟩⟩;unfold Go.Proofs.YtdbbeldgdgonfaaGreat.rtg;rw[hb,if_neg (Ne.symm hk)];split<;>rfl
theorem Ow.rtg_ne{B j k k':Nat}{e:TypeId}{v:Value}{xs:List α}(h:Ow B e j o w v xs)(h1:j≠k)(h2:j≠k')(hk:k≠0):Ow B e j (Go.Proofs.YtdbbeldgdgonfaaGreat.rtg k k' o) w v xs:=by
 obtain⟨css,g1,g2,g3,g4⟩:=h;refine⟨css,g1,g2,λg hg=>by unfold Go.Proofs.YtdbbeldgdgonfaaGreat.rtg;rw[g3 g hg,if_neg h1,if_neg h2],λi cs x a b=>Rp.mv (g4 i cs x a b) (Nat.le_refl _) λb _ hb=>⟨rfl,?_⟩⟩;unfold Go.Proofs.YtdbbeldgdgonfaaGreat.rtg;rw[hb,if_neg (Ne.symm hk)];split<;>rfl
theorem RdL.rtg{v:Value}{xs:List α}(h:RdL o w v xs)(k k':Nat)(hk:k≠0):RdL (Go.Proofs.YtdbbeldgdgonfaaGreat.rtg k k' o) w v xs:=h.mv (Nat.le_refl _) λb _ hb=>⟨rfl,by
 unfold Go.Proofs.YtdbbeldgdgonfaaGreat.rtg;rw[hb,if_neg (Ne.symm hk)];split<;>rfl⟩
theorem Rp.rtg{cs:List Value}{x:α}(h:Rp.rd o w cs x)(k k':Nat)(hk:k≠0):Rp.rd (Go.Proofs.YtdbbeldgdgonfaaGreat.rtg k k' o) w cs x:=Rp.mv h (Nat.le_refl _) λb _ hb=>⟨rfl,by
 unfold Go.Proofs.YtdbbeldgdgonfaaGreat.rtg;rw[hb,if_neg (Ne.symm hk)];split<;>rfl⟩
omit [Rp α] in
theorem Bx.rtg_ne{B j k k' b:Nat}{e:TypeId}{cs:List Value}(h:Bx B j o w b e cs)(h1:j≠k)(h2:j≠k'):Bx B j (Go.Proofs.YtdbbeldgdgonfaaGreat.rtg k k' o) w b e cs:=
 ⟨h.blk,by unfold Go.Proofs.YtdbbeldgdgonfaaGreat.rtg;rw[h.tag,if_neg h1,if_neg h2],h.lo⟩
omit [Rp α] in
theorem Bx.rtg{B j k' b:Nat}{e:TypeId}{cs:List Value}(h:Bx B j o w b e cs)(k':Nat):Bx B k' (Go.Proofs.YtdbbeldgdgonfaaGreat.rtg j k' o) w b e cs:=
 ⟨h.blk,by unfold Go.Proofs.YtdbbeldgdgonfaaGreat.rtg;rw[if_pos h.tag],h.lo⟩
omit [Rp α] in
theorem Bs.rtg(h:Bs oo o w0 w)(k k':Nat)(hk:2<=k)(hk':2<=k'):Bs oo (Go.Proofs.YtdbbeldgdgonfaaGreat.rtg k k' o) w0 w:=⟨h.keeps,λb hb=>by
 have:=h.old b hb;unfold Go.Proofs.YtdbbeldgdgonfaaGreat.rtg;rw[<-this,if_neg,if_neg]
 ·split at this<;>omega
 ·split at this<;>omega⟩
theorem fs_{x y:Operand}{t e e':TypeId}{B k:Nat}{v:Value}{xs:List α}{i:Int}{u:α}(h:Ow B e' k o w v xs)(hi:ix xs i=some u)(hx:ev l x=some v)(hy:ev l y=some (.int .i64 i))
  (ht:P.underlying t=some (.slice e)) (hs:∀w,(sizeOf e).run P w=.ok (Rp.sz α) w)
  (h:∀b cs,v.ownBlock=some b->Cells w b (0+i.toNat*Rp.sz α) cs->Rp.rd o w cs u->R (.pointer (some ⟨b,0+i.toNat*Rp.sz α,none⟩)) w):op1 P ⟨some d,.indexAddr t x y,ty,ps,af,g⟩ n l w R:=by
 rename_i hown;obtain⟨a,c,rfl⟩:=Ow.form (by assumption:Ow B e' k o w v xs);obtain⟨h0,h1,h2⟩:=fC_ hi;obtain⟨b,cs,rfl,_,hc,hr,_⟩:=Ow.at (by assumption:Ow B e' k o w _ xs) h2;exact l_ (hq_ hx hy h0 (by omega) ht hs) (h b cs rfl hc hr)
theorem jL_{v:Value}{xs:List α}(h:RdL o w v xs):Rp.rd o w [v] xs:=⟨v,rfl,h⟩
theorem RdL.cells1{v:Value}{xs:List α}(h:RdL o w v xs):v.cells= #[v]:=by obtain⟨a,c,rfl⟩:=h.form;rfl
theorem Ow.cells1{B k:Nat}{e:TypeId}{v:Value}{xs:List α}(h:Ow B e k o w v xs):v.cells= #[v]:=by obtain⟨a,c,rfl⟩:=h.form;rfl
theorem RdL.one1{v:Value}{xs:List α}(h:RdL o w v xs):v.oneCell'=true:=by obtain⟨a,c,rfl⟩:=h.form;rfl
theorem Ow.one1{B k:Nat}{e:TypeId}{v:Value}{xs:List α}(h:Ow B e k o w v xs):v.oneCell'=true:=by obtain⟨a,c,rfl⟩:=h.form;rfl
omit [Rp α]
theorem fE_{M:Act->World->Prop}:∀{xs ys:List Oper}{a:Act}{w:World},wpList P ops (Po M (λ_ _=>False) noE) xs a w->(∀a w,M a w->wpList P ops Q ys a w)->wpList P ops Q (xs++ys) a w
 |[],ys,a,w,h,k=>k a w h
 | o::xs,ys,a,w,h,k=>by
  unfold wpList at h;show wpList P ops Q (o::(xs++ys)) a w;unfold wpList;split
  ·rename_i hw;rw[if_pos hw] at h;rcases h with h|⟨_,h⟩
   ·refine .inl ?_;unfold Oper.wp at*
    generalize (execOp a.eval o).run P w=r at*
    cases r with
    | ok x w'=>
     cases x<;>simp only[Oper.upon] at h ⊢<;>
      first
       |exact fE_ h k
       | exact Calls.mono h (λe w'' he=>by
         cases e with
         |returned v=>exact fE_ he k
         |panicked c=>exact(he:False).elim
         |outgrown=>obtain⟨_,_,hh⟩:=he;exact(hh:False).elim)
       |exact Rows.mono h (λ_ _ he=>fE_ he k)
       |exact h
    |halt x w'=>cases x<;>simp only[Oper.upon] at h ⊢<;>first|exact(h:False).elim|exact h
   ·obtain⟨_,_,h⟩:=h;exact(h:False).elim
  ·rename_i hw;rw[if_neg hw] at h;exact fE_ h k
theorem aF_(m:Nat)(M:Act->World->Prop){xs:List Oper}(h1:wpF P ops (Po M (λ_ _=>False) noE) (xs.take m) n l w)(h2:∀a w,M a w->wpList P ops Q (xs.drop m) a w):wpF P ops Q xs n l w:=λa ha=>by
 have:=fE_ (h1 a ha) h2;rwa [List.take_append_drop] at this
theorem aS_{xs:List Oper}{a:Act}(ha:Fr a n l)(h:wpF P ops Q xs n l w):wpList P ops Q xs a w:=h a ha
theorem O_{c:Code}{a:Act}(ha:Fr a n l)(h:wpC P c Q n l w):c.wp P Q a w:=h a ha
theorem ap_k{K:Act->World->Prop}{a:Act}(ha:Fr a n l)(h:∀a,Fr a n l->K a w):K a w:=h a ha
theorem A_{x:Code}(M N:Act->World->Prop)(h1:wpC P x (Po M N noE) n l w)(h2:∀a w,M a w->Q .normal a w)(h3:∀a w,N a w->Q .ret a w):wpC P x Q n l w:=
 ol_ h1 λe a w h=>by
  cases e with
  |normal=>exact h2 a w h
  |ret=>exact h3 a w h
  |exit i=>exact h.elim
  |goto i=>exact h.elim
  |panic c=>exact h.elim
  |outgrown=>exact h.elim
def enumA:Nat->List Value->List (Nat×Value)
  |_,[]=>[]
  |i,v::vs=>(i,v)::enumA (i+1) vs
theorem nk_:∀{vs:List Value}{i t:Nat}{v:Value},Kn (enumA i vs) t=some v->i<=t∧vs[t-i]? =some v
 |[],i,t,v,h=>by simp[enumA,Kn] at h
 |u::vs,i,t,v,h=>by
  simp only[enumA,Kn] at h;split at h
  ·rename_i e;subst e;cases h;exact⟨Nat.le_refl _,by simp⟩
  ·rename_i e;obtain⟨h1,h2⟩:=nk_ h;refine⟨by omega,?_⟩;rw[show t-i=(t-(i+1))+1 by omega,List.getElem?_cons_succ];exact h2
theorem j_{f:FuncId}{fn:Func}{c:Code}{vs:List Value}{R:Ending->World->Prop}(hf:P.funcs[f]? =some fn)(hb:fn.body=some c)(hs:vs.length+(fn.ntmps-vs.length)=n)
  (h:wpC P c (bodyPost P fn R) n (enumA 0 vs) w):Calls P f vs.toArray w R:=by
 refine qj_ hf hb (by simpa using hs) (λt v ht=>?_) h;obtain⟨_,h2⟩:=nk_ ht;rw[Nat.sub_zero] at h2;have hlt:=(List.getElem?_eq_some_iff.1 h2).1;simp only[Array.getD_eq_getD_getElem?];rw[Array.getElem?_append_left (by simpa using hlt)];simp[h2]
theorem aW_{t:TypeId}{b k:Nat}{cs:List Value}(hag:∀w,(isAgg t).run P w=.ok true w)(hs:∀w,(sizeOf t).run P w=.ok k w)(hk:cs.length=k)(hc:Cells w b 0 cs):(loadVar t ⟨b,0,none⟩).run P w=.ok (.agg cs.toArray) w:=by
 subst hk;have:=ep_ (P:=P) (w:=w) (b:=b) (off:=0) cs 0 #[] (by simpa using hc);have h2:(loadCells ⟨b,0,none⟩ cs.length).run P w=.ok cs.toArray w:=by simpa [loadCells] using this
 simp only[loadVar,Sem.run_bind,hag,Result.andThen_ok,if_true,hs,h2,Sem.run_pure]
theorem bY_{d:Option Nat}{t:TypeId}{parts:List (Nat×Operand)}{vs:List (Nat×Value)}{cs:List Value}(hv:EvP l parts vs)(hb:P.built t vs=some cs.toArray):
  ∀ρ,Agr ρ l->(execOp ρ ⟨d,.build t parts.toArray,ty,ps,af,g⟩).run P w=.ok (.value (.agg cs.toArray)) w:=by
 intro ρ hρ;have hp:(parts.toArray.map λ(i,x)=>(i,ρ x)).toList=vs:=by simp[<-EvP.map hρ hv]
 have:=run_build (P:=P) w t (parts.toArray.map λ(i,x)=>(i,ρ x)) cs.toArray (by rw[hp];exact hb);simp only[execOp,Sem.run_bind,this,Result.andThen_ok];rfl
theorem fill0{z:Value}:Instr.fill (λi=>some (i*1,1)) ((Array.range (0*1)).map ((if 0*1=0 then #[] else z.cells)[·%(if 0*1=0 then #[] else z.cells).size]!)) []=some ([]:List Value).toArray:=by
 simp[Instr.fill]
theorem fill1{z v:Value}(hv:v.cells= #[v]):Instr.fill (λi=>some (i*1,1)) ((Array.range (1*1)).map ((if 1*1=0 then #[] else z.cells)[·%(if 1*1=0 then #[] else z.cells).size]!)) [(0,v)]=some [v].toArray:=by
 simp[Instr.fill,hv];refine Array.ext (by simp) λi h1 h2=>?_;have:i=0:=by simp at h2;omega
 subst this;simp
theorem fill2{z v u:Value}(hv:v.cells= #[v])(hu:u.cells= #[u]):Instr.fill (λi=>some (i*1,1)) ((Array.range (2*1)).map ((if 2*1=0 then #[] else z.cells)[·%(if 2*1=0 then #[] else z.cells).size]!)) [(0,v),(1,u)]=some [v,u].toArray:=by
 simp[Instr.fill,hv,hu];refine Array.ext (by simp) λi h1 h2=>?_;have:i=0∨i=1:=by simp at h2;omega
 rcases this with rfl|rfl<;>simp
end
end
end Go.Proofs.YtdbbeldgdgonfaaGreat
