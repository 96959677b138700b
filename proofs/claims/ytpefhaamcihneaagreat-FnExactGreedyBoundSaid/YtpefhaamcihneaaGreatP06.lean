/- Part 6 of what this claim rests on (pack.py). -/
import Derived.Test.YtpefhaamcihneaaGreatLay
import Derived.Shelf.Slices.In.SortAlone
import Derived.Shelf.Slices.In.SortNone
import Derived.Sort.EveryDepth
import Derived.Lib.SlKeysI
import Derived.Shelf.SlIterI.Collect
import Derived.Shelf.SlIterI.Sorted
import Derived.RangeFuncKeeps
import Derived.OwnWalkIn
import Derived.TacticsInMore
import Derived.LoopNIn
import Derived.LoopIn
import Derived.Test.YtpefhaamcihneaaGreatP05
namespace Go.Proofs.YtpefhaamcihneaaGreat
open Tryz renaming prog→Gz, func165→Jk, underlying51→GA, results118→Jl, sizeOf3→GB, underlying3→Hc, underlying127→HP, isAgg3→GC, call155→Jm, underlying22→GE, sizeOf51→GH, isAgg51→GJ
set_option linter.unusedSimpArgs false
set_option linter.unusedVariables false
set_option maxRecDepth 100000
set_option maxHeartbeats 2000000
open Go.RowKit
section
def cvU(a:Int):Option Int:=if 0<=a∧a<=9223372036854775807 then some a else none
theorem vf{a b:Int}(h:cvU a=some b):b=a∧0<=a∧a<=9223372036854775807:=by
 unfold cvU at h;split at h
 ·rename_i e;cases h;exact⟨rfl,e⟩
 ·cases h
section
variable {P:Program} {l:List (Nat×Value)} {w:World} {d:Option Nat} {ty src dst:TypeId} {ps:String} {af:Array Edge} {g:Option (Nat×Bool)} {x y:Operand} {a b c:Int}
theorem wa(h:cvU a=some b)(i:ev l x=some (.int .i64 a))(j:P.underlying src=some (.int .i64))(k:P.underlying dst=some (.int .u64)):
  ∀ρ,Agr ρ l->(execOp ρ ⟨d,.convert src dst x,ty,ps,af,g⟩).run P w=.ok (.value (.int .u64 b)) w:=by
 obtain⟨rfl,p,m⟩:=vf h;intro ρ f;have e:IntKind.u64.wrap b=b:=by simp[IntKind.wrap,IntKind.bits,IntKind.signed];omega
 simp only[execOp,f x _ i,convert,aF,run_underlying j,run_underlying k,aL,Conv.intToInt,bt,e]
theorem wh(h:cvU a=some b)(i:ev l x=some (.int .u64 a))(j:P.underlying src=some (.int .u64))(k:P.underlying dst=some (.int .i64)):
  ∀ρ,Agr ρ l->(execOp ρ ⟨d,.convert src dst x,ty,ps,af,g⟩).run P w=.ok (.value (.int .i64 b)) w:=by
 obtain⟨rfl,p,m⟩:=vf h;intro ρ f;have e:IntKind.i64.wrap b=b:=by rw[xV];omega
 simp only[execOp,f x _ i,convert,aF,run_underlying j,run_underlying k,aL,Conv.intToInt,bt,e]
theorem wq{t p:TypeId}(j:ev l x=some (.int .u64 a))(k:ev l y=some (.int .u64 b))(h:shr a b=some c):
  ∀ρ,Agr ρ l->(execOp ρ ⟨d,.binOp .shr t x y p,ty,ps,af,g⟩).run P w=.ok (.value (.int .u64 c)) w:=by
 unfold shr at h;split at h
 ·cases h
 ·rename_i f;cases h
  intro ρ e;have i:(eqGuard .shr t x y (.int .u64 a) (.int .u64 b)).run P w=.ok () w:=rfl;have m:(binOp .shr t (.int .u64 a) (.int .u64 b)).run P w=.ok (.int .u64 (a.fdiv (2^(min b.toNat 64)))) w:=by
   simp only[binOp,Op.shift,if_neg f];rfl
  simp only[execOp,e x _ j,e y _ k,aF,i,aL,m];rfl
end
def isnil:Value->Bool
  | .slice none _ _=>true
  |_=>false
theorem BX{α:Type}[Rp α]{w:World}{v:Value}{xs:List α}(h:RdL zt w v xs)(i:isnil v=true):xs=[]:=by
 obtain⟨a,c,rfl,_,_,f⟩:=h;cases a with
 |some a=>simp[isnil] at i
 | none=>
  cases xs with
  |nil=>rfl
  |cons x xs=>
   obtain⟨b,off,cs,e,_⟩:=f 0 x rfl;cases e
section
variable {P:Program} {l:List (Nat×Value)} {w:World} {d:Option Nat} {ty:TypeId} {ps:String} {af:Array Edge} {g:Option (Nat×Bool)} {x y:Operand} {v:Value} {α:Type} [Rp α] {xs:List α}
theorem Cw{t s e:TypeId}(h:RdL zt w v xs)(m:ev l x=some v)(p:ev l y=some (.slice none 0 0))(j:P.underlying t=some (.slice e)):
  ∀ρ,Agr ρ l->(execOp ρ ⟨d,.binOp .eql t x y s,ty,ps,af,g⟩).run P w=.ok (.value (.bool (isnil v))) w:=by
 obtain⟨a,c,rfl,_⟩:=h;intro ρ i;have k:(eqGuard .eql t x y (.slice a xs.length c) (.slice none 0 0)).run P w=.ok () w:=rfl;have q:(binOp .eql t (.slice a xs.length c) (.slice none 0 0)).run P w=.ok (.bool (isnil (.slice a xs.length c))) w:=by
  have f:∀n,(Op.equalIn (n+1) t (.slice a xs.length c) (.slice none 0 0)).run P w=.ok (isnil (.slice a xs.length c)) w:=λn=>by
   cases a<;>simp[Op.equalIn,aF,run_underlying j,isnil]
  have u:=f 9999;have e:binOp .eql t (.slice a xs.length c) (.slice none 0 0)=(Op.equalIn (9999+1) t (.slice a xs.length c) (.slice none 0 0)>>=λb=>pure (Value.bool b)):=rfl;rw[e,aF,u];rfl
 simp only[execOp,i x _ m,i y _ p,aF,k,aL,q];rfl
end
section
variable {P:Program} {n:Nat} {l:List (Nat×Value)} {w:World} {d:Nat} {ty:TypeId} {ps:String} {af:Array Edge} {g:Option (Nat×Bool)} {R:Value->World->Prop} {α:Type} [Rp α] {o:Tg}
theorem we{t e:TypeId}{m sz:Nat}{z:Value}{f:List (Nat×Operand)}{vs:List (Nat×Value)}{cs:List Value}{xs:List α}(B k:Nat)(u:B<=w.heap.size)(j:RdC o w cs xs)(F:m=xs.length)(C:EvP l f vs)
  (E:P.underlying t=some (.slice e)) (A:∀w,(sizeOf e).run P w=.ok sz w) (D:∀w,(zeroValue e).run P w=.ok z w) (p:m*sz<=16777216)
  (G:Instr.fill (λi=>some (i*sz,sz)) ((Array.range (m*sz)).map ((if m*sz=0 then #[] else z.cells)[·%(if m*sz=0 then #[] else z.cells).size]!)) vs=some cs.toArray) (H:xs.length<=1000000)
  (h:∀q w' s,Ow B e k q w' s xs->Stp 999 o w q w'->R s w'):op1 P ⟨some d,.buildSlice t m f.toArray,ty,ps,af,g⟩ n l w R:=by
 subst F;exact M_ (qx E A D p C G) (h _ _ _ (ox (e:=e) j u (by simp only[maxLen];omega)) (en _ _ _ _ _))
end
end
section
open Go.RowKit Go.Sort Go.Shelf
def srt(xs:List Int):List Int:=xs.mergeSort λx y=>decide (x<=y)
theorem eV(xs:List Int):(srt xs).length=xs.length:=by simp[srt]
def srtO(xs:List Int):Option (List Int):=if xs.length<=1000000000 then some (srt xs) else none
theorem tS{xs a:List Int}(h:srtO xs=some a):xs.length<=1000000000∧a=srt xs:=by
 unfold srtO at h;split at h
 ·rename_i b;cases h;exact⟨b,rfl⟩
 ·cases h
theorem mp:∀{css:List (List Value)}{l:List Int},css.length=l.length->(∀(i:Nat) cs x,css[i]? =some cs->l[i]? =some x->cs=[.int .i64 x])->css.flatten=l.map (Value.int .i64)
 |[],[],_,_=>rfl
 |[],_::_,h,_=>by simp at h
 |_::_,[],h,_=>by simp at h
 |c::css,a::l,f,h=>by
  have d:=h 0 c a rfl rfl;subst d;rw[br,mp (su f) (λi cs x e b=>h (i+1) cs x (su e) (su b))];rfl
theorem oz{B k:Nat}{o:Tg}{w:World}{v:Value}{l:List Int}(d:∀g,v.ownBlock=some g->o g=k)(h:w.ownsRow B 3 1 v l.length (l.map (Value.int .i64))):Ow B 3 k o w v l:=by
 refine⟨l.map λx=>[.int .i64 x],sy,?_,d,λi cs x a b=>?_⟩
 ·have:∀l:List Int,(l.map λx=>[Value.int .i64 x]).flatten=l.map (Value.int .i64):=by
   intro l
   induction l with
   |nil=>rfl
   |cons a l ih=>simp[br,ih]
  rw[this];exact h
 ·rw[aZ,b] at a;cases a
  rfl
theorem mj{B k:Nat}{o:Tg}{w:World}{v:Value}{xs A:List Int}(h:Ow B 3 k o w v xs)(H:srtO xs=some A):
  Calls Gz 132 #[v] w (λe w'=>e=.returned (.tuple #[])∧Ow B 3 k o w' v A∧Stp k o w o w'):=by
 obtain⟨M,rfl⟩:=tS H;obtain⟨css,C,u,y,J⟩:=h;rw[mp C (λi cs x a b=>J i cs x a b)] at u;have m:w.ownsRow B 3 1 v xs.length (xs.map (Value.int .i64)):=u;rcases m.2 with⟨rfl,I⟩|⟨g,cap,K,rfl,d,j,G,f,t,p⟩
 ·have L:xs=[]:=cD I;subst L;refine (calls_of_every_depth λD=>AnyS.slices_Sort_int_none_alone Tryz.laysSort D none 0 w).mono ?_;rintro e w' ⟨rfl,rfl⟩;exact⟨rfl,(by simpa [srt] using Ow.nil B 3 k o w'),Stp.refl _ _ _⟩
 ·have E:Holds (Value.int .i64) w g 0 xs.toArray:=holds_of_block_i j (su p);have s:g<w.heap.size:=(ct.1 j).1;refine (calls_of_every_depth λD=>AnyS.slices_Sort_int_alone Tryz.laysSort D g 0 cap xs w E s om).mono ?_;rintro e w' ⟨rfl,n,os,rfl⟩;have F:=ownsRow_sorted_i (n:=n) (os:=os) (ts:=srt xs) (eV xs) d j G f (su t);have N:=grownBy_sorted_i (w:=w) (g:=g) (n:=n) (os:=os) (srt xs).toArray;refine⟨rfl,oz y (by rw[eV];exact F),⟨rfl,rfl,rfl,?_,λb j q=>?_,λ_ _=>rfl⟩⟩
  ·simp[putRow,mapBlock,Sort.ahead]
  ·rw[heap_grow_old _ _ (su j)];have:g≠b:=λe=>q (by rw[<-e];exact y g rfl);simp[putRow,mapBlock,Sort.ahead,gb,this]
end
section
open Go.RowKit Go.Sort Go.Shelf
def Sq(o:Tg)(w:World)(v u:Value):Prop:=
  ∃b,v=.func (.func 165) #[] #[.pointer (some ⟨b,0,none⟩)]∧o b=0∧b<w.heap.size∧w.cell? ⟨b,0,none⟩=some u
section
variable {o o':Tg} {w w':World} {v u:Value} {t k:Nat}
theorem Sq.mv(h:Sq o w v u)(g:w.heap.size<=w'.heap.size)(e:∀b,b<w.heap.size->o b=0->w'.heap[b]? =w.heap[b]? ∧o' b=0):Sq o' w' v u:=by
 obtain⟨b,rfl,d,a,f⟩:=h;refine⟨b,rfl,(e b a d).2,bh a g,?_⟩;rw[<-f];simp only[World.cell?,(e b a d).1]
theorem Sq.stp(h:Sq o w v u)(s:Stp t o w o' w')(f:t≠0:=by decide):Sq o' w' v u:=
 h.mv s.size λb d a=>⟨s.block b d (by rw[a];exact λe=>f e.symm),by rw[s.own b d];exact a⟩
end
theorem BF(a:Option Addr)(m c:Nat)(u:Value)(hu:u=.slice a m c)(w:World):
  Calls Gz 150 #[u] w λe w'=>e=.returned (.func (.func 165) #[] #[.pointer (some ⟨w.heap.size,0,none⟩)])∧w'=w.alloc (.cells #[u] 51):=by
 subst hu;have hmf:∀(fn:Fn)(first cap:Array Value)(w:World),(Instr.makeFunc fn first cap).run Gz w=.ok (.func fn first cap) w:=λ_ _ _ _=>rfl;go_enter Tryz.func150,Tryz.ntmps150;go_wp2;go_ret;exact⟨rfl,rfl⟩
def Cj(oo:Tg)(w:World)(u:Value):Ending->World->Prop:=λe w'=>∃(v:Value)(o':Tg),e=.returned v∧Sq o' w' v u∧Keeps w w'∧∀b,b<w.heap.size->o' b=oo b
theorem CL(w:World)(d:Tg)(u:Value)(xs:List Int)(f:RdL zt w u xs):Calls Gz 150 #[u] w (Cj d w u):=by
 obtain⟨a,c,e,_⟩:=f;refine (BF a _ c u e w).mono ?_;rintro e w' ⟨rfl,rfl⟩;refine⟨_,λb=>if b<w.heap.size then d b else 0,rfl,⟨_,rfl,if_neg om,sy,?_⟩,(Keeps.refl w).alloc _,λb g=>if_pos g⟩;rw[bZ _ _ _ _ rfl];rfl
set_option maxRecDepth 100000 in
set_option maxHeartbeats 2000000 in
theorem Du(l b:Nat)(u:Value)(xs:List Int)(w0:World)(hb:b<w0.heap.size)(hc:w0.cell? ⟨b,0,none⟩=some u)(hu:RdL zt w0 u xs)(n:Nat)(J:List Int->World->Prop)
  (hJ:∀pre W,J pre W->Below w0.heap.size w0 W)
  (hY:∀pre x W,J pre W->pre.length<xs.length->YieldAt Fence.wide (n-1) Gz l #[.int .i64 x] W λe W'=>e=.returned (.bool true)∧J (pre++[x]) W'∧KeepsWalks W W')
  (W:World) (h0:J [] W):
  CallsIn Fence.wide n Gz 165 #[.func (.yield l) #[] #[],.pointer (some ⟨b,0,none⟩)] W λe W'=>(∃v,e=.returned v)∧J xs W':=by
 obtain⟨a,cap,rfl,h1,h2,h4⟩:=hu;have hcell:∀pre W',J pre W'->W'.cell? ⟨b,0,none⟩=some (.slice a xs.length cap):=λpre W' h=>((hJ pre W' h).cell (p:=⟨b,0,none⟩) hb).trans hc;have hat:∀(k:Nat) x,xs[k]? =some x->∃g off,a=some ⟨g,off,none⟩∧∀pre W',J pre W'->W'.cell? ⟨g,off+k,none⟩=some (.int .i64 x):=λk x hx=>by
  obtain⟨g,off,cs,ha,_,hg,hcs,hr⟩:=h4 k x hx;have hr':cs=[.int .i64 x]:=hr;subst hr';refine⟨g,off,ha,λpre W' h=>((hJ pre W' h).cell (p:=⟨g,off+k,none⟩) hg).trans ?_⟩;have:=hcs 0 (.int .i64 x) rfl;simpa [Rp.sz] using this
 have hc0:=hcell [] W h0;have H1:=p_ hcell;have H2:=p_ hat
 have HY:=p_ hY;have HJ:=p_ hJ;clear hcell hat hY hJ h4 hc;refine callsIn_of_wp Jk rfl trivial ?_ rfl;simp only[Tryz.ntmps165,oM,ao,bD,Nat.reduceAdd,Nat.reduceSub,Fv,Fw,Fx,Fy,bz,gi]
 gi_wp2
 gi_loopw [7] (λp wr=>∃k:Nat,p=.int .i64 k∧k<=xs.length∧J (xs.take k) wr) (λp wr=>xs.length-(intOf p).toNat)
 case atStart=>
  exact⟨0,rfl,bj _,h0⟩
 case round=>
  obtain⟨k,rfl,hk,hJs⟩:=hrel;by_cases hlt:k<xs.length
  ·have hw:wrap64 ((k:Int)+1)=(k:Int)+1:=by have:cap<=9223372036854775807:=h2;unfold wrap64;omega
   obtain⟨g,off,rfl,hat'⟩:=H2.out k _ (x_ hlt);have hck:=hat' _ _ hJs;generalize hx:xs[k]=x at hck;obtain⟨fn,tmps,assign,body,hy,hR⟩:=HY.out (xs.take k) x wr hJs (by simp;omega)
   gi_wp2
   refine⟨λh=>(by cases h),hR.mono ?_⟩;rintro e W3 ⟨rfl,hJ3,hk3⟩
   gi_wp2
   go_roundw;case rel=>
    refine⟨k+1,by rw[hw];simp,om,?_⟩;have:xs.take (k+1)=xs.take k++[x]:=by rw[dv,x_ hlt,hx];rfl
    rw[this];exact hJ3
   case measure=>rw[hw];simp only[intOf];omega
  ·have:k=xs.length:=om;subst this
   gi_wp2
   go_end0;rw[cc] at hJs;exact⟨⟨_,rfl⟩,hJs⟩
set_option maxRecDepth 100000 in
set_option maxHeartbeats 2000000 in
theorem appendVals(b:Nat)(u:Value)(xs:List Int)(hl:xs.length<=1000000000)(w:World)(hb:b<w.heap.size)(hc:w.cell? ⟨b,0,none⟩=some u)(hu:RdL zt w u xs):
  Calls Gz 177 #[.slice none 0 0,.func (.func 165) #[] #[.pointer (some ⟨b,0,none⟩)]] w λe w'=>
   ∃v,e=.returned v∧w'.ownsRow w.heap.size 3 1 v xs.length (xs.map (Value.int .i64))∧Below w.heap.size w w':=by
 refine (callsIn_wide (n:=9)).1 ?_;refine callsIn_of_wp_marks Tryz.func177 rfl trivial ?_ rfl;simp only[Tryz.ntmps177,oM,ao,bD,Nat.reduceAdd,Nat.reduceSub,Fv,Fw,Fx,Fy,bz,gi]
 gi_wp2
 refine wpIn_rangeFunc ?_;intro fn hfn;generalize hsv:Value.func (.func 165) #[] #[.pointer (some ⟨b,0,none⟩)]=sv
 -- the box of s, the record of what is put off, the loop's record: three new blocks
 obtain⟨W1,hW1⟩:∃W1,((w.alloc (.cells #[.slice none 0 0] 51)).alloc (.deferred (some []))).alloc (.loop (AnyZI.apRec Tryz.laysAp_ren fn sv w.heap.size (w.heap.size+1) .ready none))=W1:=⟨_,rfl⟩;have n0:W1.heap[w.heap.size]? =some (.cells #[.slice none 0 0] 51 (0,0)):=by
  rw[<-hW1];exact(xW _ _ _ (by simp;omega)).trans ((xW _ _ _ sy).trans (World.alloc_heap_new w _))
 have n1:W1.heap[w.heap.size+1]? =some (.deferred (some [])):=by
  rw[<-hW1];have:=World.alloc_heap_new (w.alloc (.cells #[.slice none 0 0] 51)) (.deferred (some []));rw[fg] at this;exact(xW _ _ _ sy).trans this
 have n2:W1.heap[w.heap.size+2]? =some (.loop (AnyZI.apRec Tryz.laysAp_ren fn sv w.heap.size (w.heap.size+1) .ready none)):=by
  rw[<-hW1];have:=World.alloc_heap_new ((w.alloc (.cells #[.slice none 0 0] 51)).alloc (.deferred (some []))) (.loop (AnyZI.apRec Tryz.laysAp_ren fn sv w.heap.size (w.heap.size+1) .ready none));rw[fg,fg] at this;exact this
 have hb1:Below w.heap.size w W1:=by
  rw[<-hW1];exact(((oJ _ w).alloc (K_ _) _).alloc sy _).alloc (by simp;omega) _
 have hAt:AnyZI.ApAt Tryz.laysAp_ren w fn sv w.heap.size (w.heap.size+2) (w.heap.size+1) [] W1:=⟨⟨_,n0,⟨rfl,.inl ⟨rfl,rfl⟩⟩,sy⟩,n2,n1,hb1⟩;refine⟨w.heap.size+2,[{target:=.collected (w.heap.size+1),args:= #[]}],W1,{target:=.fn (.func 165) #[.pointer (some ⟨b,0,none⟩)],args:= #[.func (.yield (w.heap.size+2)) #[] #[]]},W1,165,
  #[.func (.yield (w.heap.size+2)) #[] #[]]++ #[.pointer (some ⟨b,0,none⟩)],W1,?_,?_,?_,?_,λh=>(by cases h),?_⟩
 ·rw[<-hW1,<-hsv];refine (run_enterLoop_outer _ _ _ _ _).trans ?_;rw[fg];rfl
 ·rw[<-hsv];simp[resolve,go_sem]
 ·intro f' hf';trivial
 ·simp[invoke,go_sem,enters_of Jk kr rfl]
 ·refine (Du (w.heap.size+2) b u xs w hb hc hu _ (AnyZI.ApAt Tryz.laysAp_ren w fn sv w.heap.size (w.heap.size+2) (w.heap.size+1)) (λpre W h=>h.below)
   (λpre x W h hlen=>AnyZI.apYield Tryz.laysAp Fence.wide _ w fn hfn sv w.heap.size (w.heap.size+2) (w.heap.size+1) om om om (K_ _) om 1000000000 dc dc pre x W h om) W1 hAt).mono ?_
  rintro e W2 ⟨⟨v0,rfl⟩,h2⟩;obtain⟨v,hv,hrow,hnil⟩:=h2.box;have hend:=run_endLoop (P:=Gz) h2.L (by simp[AnyZI.apRec]);obtain⟨W3,hW3⟩:∃W3,W2.putObj (w.heap.size+2) (.loop {AnyZI.apRec Tryz.laysAp_ren fn sv w.heap.size (w.heap.size+1) .ready none with state:=.exhausted})=W3:=⟨_,rfl⟩;rw[hW3] at hend;have hg3:W2.grownBy W3 (some (w.heap.size+2)):=by rw[<-hW3];exact grownBy_putObj_a _ _ _
  have hv3:W3.heap[w.heap.size]? =some (.cells #[v] 51 (0,0)):=by rw[<-hW3];exact(World.putObj_heap_other om).trans hv
  have hK3:W3.heap[w.heap.size+1]? =some (.deferred (some [])):=by rw[<-hW3];exact(World.putObj_heap_other om).trans h2.K
  have hrow3:=hrow.kept hg3 (ownsRow_ne_a hrow h2.L (λcur e=>by cases e));have hb3:Below w.heap.size w W3:=h2.below.grown hg3 h2.below.size (λk e=>by cases e;omega);obtain⟨hc3,hf3⟩:=cell_of_box_a hv3;clear hW3;refine⟨none,W3,hend,?_⟩
  gi_wp2
  refine⟨sy,.inl ⟨_,_,rfl,run_takeDeferred hK3,?_⟩⟩;exact⟨_,results_tmp rfl _ _ _,v,rfl,hrow3.kept (grownBy_putObj_a _ _ _) (ownsRow_ne_a hrow3 hK3 (λcur e=>by cases e)),hb3.grown (grownBy_putObj_a _ _ _) hb3.size (λk e=>by cases e;omega)⟩
set_option maxRecDepth 100000 in
theorem collectVals(b:Nat)(u:Value)(xs:List Int)(hl:xs.length<=1000000000)(w:World)(hb:b<w.heap.size)(hc:w.cell? ⟨b,0,none⟩=some u)(hu:RdL zt w u xs):
  Calls Gz 164 #[.func (.func 165) #[] #[.pointer (some ⟨b,0,none⟩)]] w λe w'=>
   ∃v,e=.returned v∧w'.ownsRow w.heap.size 3 1 v xs.length (xs.map (Value.int .i64))∧Below w.heap.size w w':=by
 have hc1:=appendVals b u xs hl w hb hc hu;go_enter Tryz.func164,Tryz.ntmps164;go_wp2_with (go_at_call 177;refine hc1.mono ?_;rintro e w' ⟨v,rfl,hrow,hbl⟩);go_ret;exact⟨v,rfl,hrow,hbl⟩
theorem wc{w w':World}{v:Value}{xs:List Int}(d:Tg)(t:Nat)(h:w'.ownsRow w.heap.size 3 1 v xs.length (xs.map (Value.int .i64)))(a:Below w.heap.size w w'):
  ∃o':Tg,Ow w.heap.size 3 t o' w' v xs∧Keeps w w'∧∀b,b<w.heap.size->o' b=d b:=by
 refine⟨λb=>if b<w.heap.size then d b else t,oz (λg e=>if_neg ?_) h,?_,λb a=>if_pos a⟩
 ·have:=(World.ownsRow.lt h g e).1;omega
 ·exact a
def uI(oo:Tg)(t:Nat)(w:World)(r:List Int):Ending->World->Prop:=λe w'=>∃(v0:Value)(o':Tg),e=.returned v0∧Ow w.heap.size 3 t o' w' v0 r∧Keeps w w'∧∀b,b<w.heap.size->o' b=oo b
theorem Bq(w:World)(f:Tg)(t:Nat)(v u:Value)(o:Tg)(m:Sq o w v u)(xs:List Int)(g:RdL zt w u xs)(r:List Int)(s:cat [] xs=some r):
  Calls Gz 164 #[v] w (uI f t w r):=by
 obtain⟨n,h⟩:=vH s;rw[bz] at h;subst h;obtain⟨b,rfl,_,x,j⟩:=m;refine (collectVals b u r (su n) w x j g).mono ?_;rintro e w' ⟨v,rfl,a,d⟩;obtain⟨o',i,p,q⟩:=wc f t a d;exact⟨v,o',rfl,i,p,q⟩
set_option maxRecDepth 100000 in
theorem Cq(w:World)(oo:Tg)(t:Nat)(v u:Value)(o:Tg)(hs:Sq o w v u)(xs:List Int)(g:RdL zt w u xs)(r:List Int)(hF:srtO xs=some r):
  Calls Gz 149 #[v] w (uI oo t w r):=by
 have hl:=(tS hF).1;have hC:=Bq w (λ_=>1) 2 v u o hs xs g xs (by unfold cat;rw[if_pos (su hl)];rfl);have hC1:Calls Gz 164 #[v] w λe w'=>∃v1,e=.returned v1∧Calls Gz 132 #[v1] w' λe2 w2=>e2=.returned (.tuple #[])∧w2.ownsRow w.heap.size 3 1 v1 r.length (r.map (Value.int .i64))∧Keeps w w2:=by
  refine hC.mono ?_;rintro e w1 ⟨v1,o1,rfl,h1,hk,ho⟩;refine⟨v1,rfl,(mj h1 hF).mono ?_⟩;rintro e2 w2 ⟨rfl,h3,hs⟩;obtain⟨css,c1,c2,c3,c4⟩:=h3;rw[mp c1 (λi cs x a b=>c4 i cs x a b)] at c2;refine⟨rfl,c2,⟨hs.os.trans hk.os,hs.tape.trans hk.tape,hs.output.trans hk.output,aH hk.size hs.size,λb hb=>?_⟩⟩;exact(hs.block b (bh hb hk.size) (by rw[ho b hb];show(1:Nat)≠2;decide)).trans (hk.block b hb)
 have HC:=p_ hC1;clear hC hC1 g hs hF hl;refine ms (R:=λe w'=>∃v0,e=.returned v0∧w'.ownsRow w.heap.size 3 1 v0 r.length (r.map (Value.int .i64))∧Keeps w w') ?_ ?_
 ·go_enter Tryz.func149,Tryz.ntmps149;go_wp2_with (go_at_call 164;refine (HC.out).mono ?_;rintro e w1 ⟨v1,rfl,hS⟩);go_wp2_with (go_at_call 132;refine hS.mono ?_;rintro e w2 ⟨rfl,hrow,hk⟩);go_ret;exact⟨_,rfl,hrow,hk⟩
 ·rintro e w' ⟨v0,rfl,hrow,hk⟩;obtain⟨o',h1,h2,h3⟩:=wc oo t hrow hk;exact⟨v0,o',rfl,h1,h2,h3⟩
end
instance {o o':Tg} {w w':World} {v u:Value} {t:Nat}:Stq t o w o' w' (Sq o w v u) (Sq o' w' v u) (t !=0):=⟨λc h s=>h.stp s (neb c)⟩
def gF(a:Int):Option Bool:=some (a !=a)
theorem rB(w:World)(a:Int)(r:Bool)(b:gF a=some r):
    Calls Gz 155 #[.int .i64 a] w (ab w r):=by
 unfold gF at b;have c:Bs (λ_=>1) (col (λ_=>1)) w w:=Bs.start _ _;refine y_ (n:=6) (vs:=[ZI a]) Tryz.func155 rfl rfl ?_;refine Zq (Za rfl (Ze [(0,_)] (Zn (Zm rfl (Zm rfl (Zv (aP rfl rfl) (Za rfl (Zy (i_ ?_)))))))));obtain rfl:=Zj b;refine Zr Tryz.results155 [.bool (a !=a)] ?_;exact⟨rfl,c.keeps⟩
def dZ(a:Yl):Option Yl:=(cat ([]:Yl) a)>>=λb=>some b
theorem kl(w:World)(c:Tg)(t:Nat)(d:2<=t)(d:Value)(g:Yl)(f:RdL zt w d g)(r:Yl)(b:dZ g=some r):
    Calls Gz 118 #[d] w (el c t w r):=by
 unfold dZ at b;have a:Bs c (col c) w w:=Bs.start _ _;refine y_ (n:=8) (vs:=[d]) Tryz.func118 rfl rfl ?_;generalize col c=o at*;refine Zq (Za rfl (Zy (b_ (Zq (Zm rfl (Zv (Cw (f.keep a.keeps) rfl rfl GA) (Zy ?_)))))));refine dN rfl (λi=>?_) (λi=>?_)
 ·have j:=BX (f.keep a.keeps) i;subst j;replace b:(some []:Option Yl)=some r:=b;refine Zq (Za rfl (Zy (i_ (t_ ?_))));obtain rfl:=Zj b;refine Zr Jl [.slice none 0 0] ?_;exact⟨_,rt c o w.heap.size 9 t,rfl,Ow.nil _ _ _ _ _,a.keeps,S_ _ _ _ _ _⟩
 ·refine f_ (Zn (Zo ?_));refine dn w.heap.size 11 a.keeps.size (o:=o) (cs:=[]) (xs:=([]:Yl)) (vs:=[]) rfl rfl trivial GA GB Tryz.zeroValue3 dc fill0 sy ?_;intro d d d d g;replace a:=a.stp g;refine Zm rfl ?_;obtain⟨g,g,b⟩:=a_ b;refine Zo ?_;refine ol d (f.keep a.keeps) g dc a.keeps.size (λ_ _ h=>h) rfl rfl GA aI rfl dc ?_;intro d f f g i;replace a:=a.stp i;refine Za rfl (Zy (i_ ?_));obtain rfl:=Zj b;refine Zr Jl [f] ?_;exact⟨_,rt c d w.heap.size 11 t,rfl,g.rt a dc t,a.keeps,S_ _ _ _ _ _⟩
def gr(b:Yl)(c:Int):(Int×Int)->Option (Lo (Int×Int) (Int×Bool)):=λs=>if decide (s.1<s.2) then(ck (s.1+s.2))>>=λd=>(cvU d)>>=λf=>(shr f 1)>>=λg=>(cvU g)>>=λa=>(ix b a)>>=λi=>(io i c)>>=λj=>if j then(ck (a+1))>>=λk=>some (.go (k,s.2)) else some (.go (s.1,a)) else some (.out (s.1,s.2))
def ka(d:Nat)(a:Yl)(c:Int):Option (Int×Bool):=(loopF (gr a c) d (0,(a.length:Int)))>>=λf=>match f with| .inl (b,n)=>(if decide (b<(a.length:Int)) then(ix a b)>>=λg=>if g==c then some true else(ix a b)>>=λi=>(gF i)>>=λj=>if j then(gF c)>>=λk=>some k else some false else some false)>>=λm=>some (b,m)| .inr _=>none
def rm(w:World)(r:Int×Bool):Ending->World->Prop:=λe w'=>e=.returned (.tuple #[.int .i64 r.1,.bool r.2])∧Keeps w w'
theorem yz(c:Nat)(w:World)(b:Value)(f:Yl)(u:RdL zt w b f)(m:Int)(r:Int×Bool)(q:ka c f m=some r):
    Calls Gz 134 #[b,.int .i64 m] w (rm w r):=by
 unfold ka at q;have g:Bs (λ_=>1) (col (λ_=>1)) w w:=Bs.start _ _;refine y_ (n:=54) (vs:=[b,ZI m]) Tryz.func134 rfl rfl ?_;refine Zq (Za rfl (Za rfl (Ze [(0,_),(1,_)] (Zn (Zm rfl (Zv (C_ rfl u GA) (Za rfl (Ze [(0,_),(1,_),(6,_)] (Zn (Zm rfl (Za rfl (Za rfl ?_))))))))))));refine Zy ?_;obtain⟨s,v,q⟩:=a_ q;refine eX (λa k=>∃(i:Int)(d:Int),∃(j:Tg),s=.inl (i,d)∧Fr a 54 [(0,b),(1,ZI m),(6,ZI (f.length:Int)),(7,ZI i)]∧Bs (λ_=>1) j w k) (λ_ _=>False) ?_ ?_ ?_
 ·refine k_ ?_;refine B_ (λ(K:Nat) a k=>∃(i:Int)(d:Int),∃(j:Tg),loopF (gr f m) K (i,d)=some s∧Fr a 54 [(0,b),(1,ZI m),(6,ZI (f.length:Int)),(7,ZI i),(8,ZI d)]∧Bs (λ_=>1) j w k) c (λa c=>⟨0,(f.length:Int),col (λ_=>1),v,c.sb,g⟩) ?_;rintro b a k ⟨i,d,j,x,c,g⟩;obtain⟨v,b,b,b,s⟩:=aC x;dsimp only[gr] at b;refine q_ c ?_;refine b_ (Zq (Zm rfl (Zm rfl (Zv (o_ rfl rfl) (Zy ?_)))));refine Zi rfl b (λx b=>?_) (λx b=>?_)
  ·refine f_ (nx (k_ (Zq (Zm rfl (Zm rfl ?_)))));obtain⟨x,x,b⟩:=a_ b;refine Zv (u_ rfl rfl x) ?_;obtain⟨x,x,b⟩:=a_ b;refine Zv (wa x rfl Hc HP) ?_;obtain⟨x,x,b⟩:=a_ b;refine Zv (wq rfl rfl x) ?_;obtain⟨x,y,b⟩:=a_ b;refine Zv (wh y rfl HP Hc) (Za rfl (Ze [(0,_),(1,_),(6,_),(7,_),(8,_),(9,_)] (Zn (Zm rfl (Zm rfl ?_)))));obtain⟨y,z,b⟩:=a_ b;refine Zo ?_;refine wf_atZ u z g rfl rfl GA GB ?_;intro z z z z e;cases e
   refine Zv (e_ rfl GC (G_ z)) (Zm rfl ?_);obtain⟨z,e,b⟩:=a_ b;refine Zo ?_;refine j_ (rV k y m z e) Tryz.call98 ⟨rfl,rfl,trivial⟩ ?_;rintro y y ⟨rfl,y⟩;have z:=y.stp 999 j;refine⟨_,rfl,?_⟩;replace g:=g.stp z;refine Zy ?_;refine Zi rfl b (λy b=>?_) (λy b=>?_)
   ·refine h_ (Zm rfl ?_);obtain⟨y,z,b⟩:=a_ b;refine Zv (u_ rfl rfl z) (Za rfl (Zf (w_ (v_ ?_))));obtain rfl:=Zj b;refine Zk [(0,_),(1,_),(6,_),(7,_),(8,_)] ?_;intro a c;exact⟨v,om,y,d,j,s,c,g⟩
   ·refine h_ (Zm rfl (Za rfl (Zf (w_ (v_ ?_)))));obtain rfl:=Zj b;refine Zk [(0,_),(1,_),(6,_),(7,_),(8,_)] ?_;intro a c;exact⟨v,om,i,x,j,s,c,g⟩
  ·refine z_ ?_;refine g_ (g_ (A_ ?_));refine r_ ?_;obtain rfl:=Zj b;refine Zk [(0,_),(1,_),(6,_),(7,_)] ?_;intro a c;exact⟨i,d,j,s,c,g⟩
 ·rintro a k ⟨i,d,j,rfl,c,g⟩;dsimp only at q;refine q_ c ?_;refine Zq (Zm rfl (Zm rfl (Zm rfl (Zv (o_ rfl rfl) (Zm rfl ?_)))));obtain⟨v,d,q⟩:=a_ q;refine bp 18 (λb x=>Fr b 54 [(31,ZI i),(53,.bool v)]∧Keeps k x) ?_ ?_;all_goals simp only[bi,bk,aR,aG]
  ·have kp:Keeps k k:=Keeps.refl _;rcases aw (decide (i<(f.length:Int))) with b|b
   ·rw[if_pos b] at d;refine m_ (d_ rfl) dc ⟨_,rfl,Zb b⟩ (m_ (d_ rfl) dc ⟨_,rfl,Zb b⟩ ?_);obtain⟨f,s,d⟩:=a_ d;refine az dc ⟨_,rfl,Zb b⟩ ?_;refine wf_atZ u s g rfl rfl GA GB ?_;intro s s s s y;cases y
    refine m_ (e_ rfl GC (G_ s)) dc ⟨_,rfl,Zb b⟩ (m_ (d_ rfl) dc ⟨_,rfl,Zb b⟩ (m_ (bg rfl rfl) dc ⟨_,rfl,Zb b⟩ (m_ (d_ rfl) dc ⟨_,rfl,Zb b⟩ ?_)));rcases aw (f==m) with f|f
    ·rw[if_pos f] at d;refine Zd f (Zd f (Zd f (Zd f (Zd f (Zd f ?_)))));refine ah rfl rfl dc ?_;refine ah rfl rfl dc ?_;refine Zd f ?_;refine m_ (aj (Zb f) rfl) dc ⟨_,rfl,Zb b⟩ (Zv (aj (Zb b) rfl) ?_);have s:=Zj d;refine Ze [(31,_),(53,_)] ?_;subst s;refine r_ (λa c=>⟨c,kp⟩)
    ·replace d:=ZF f d;refine m_ (d_ rfl) dc ⟨_,rfl,Zb f⟩ (m_ (d_ rfl) dc ⟨_,rfl,Zb f⟩ ?_);obtain⟨y,z,d⟩:=a_ d;refine az dc ⟨_,rfl,Zb f⟩ ?_;refine wf_atZ u z g rfl rfl GA GB ?_;intro u u u u z;cases z
     refine m_ (e_ rfl GC (G_ u)) dc ⟨_,rfl,Zb f⟩ ?_;obtain⟨u,z,d⟩:=a_ d;refine az dc ⟨_,rfl,Zb f⟩ ?_;refine j_ (rB k y u z) Jm ⟨rfl,trivial⟩ ?_;rintro k y ⟨rfl,k⟩;have z:=k.stp 999 j;refine⟨_,rfl,?_⟩;replace kp:=Keeps.trans kp k;refine m_ (d_ rfl) dc ⟨_,rfl,Zb f⟩ ?_;rcases aw (u) with k|k
     ·rw[if_pos k] at d;refine m_ (d_ rfl) dc ⟨_,rfl,Zb k⟩ ?_;obtain⟨u,z,d⟩:=a_ d;refine az dc ⟨_,rfl,Zb k⟩ ?_;refine j_ (rB y m u z) Jm ⟨rfl,trivial⟩ ?_;rintro m m ⟨rfl,m⟩;have u:=m.stp 999 j;refine⟨_,rfl,?_⟩;replace kp:=Keeps.trans kp m;refine m_ (aj (Zb k) rfl) dc ⟨_,rfl,Zb f⟩ (m_ (aa (Zb f) rfl) dc ⟨_,rfl,Zb b⟩ (Zv (aj (Zb b) rfl) ?_));have s:=Zj d;refine Ze [(31,_),(53,_)] ?_;subst s;refine r_ (λa c=>⟨c,kp⟩)
     ·replace d:=ZF k d;refine Zd k (Zd k ?_);refine m_ (aa (Zb k) rfl) dc ⟨_,rfl,Zb f⟩ (m_ (aa (Zb f) rfl) dc ⟨_,rfl,Zb b⟩ (Zv (aj (Zb b) rfl) ?_));have s:=Zj d;refine Ze [(31,_),(53,_)] ?_;subst s;refine r_ (λa c=>⟨c,kp⟩)
   ·replace d:=ZF b d;refine Zd b (Zd b (Zd b (Zd b (Zd b (Zd b (Zd b ?_))))));refine ah rfl rfl dc ?_;refine ah rfl rfl dc ?_;refine ah rfl rfl dc ?_;refine ah rfl rfl dc ?_;refine ah rfl rfl dc ?_;refine ah rfl rfl dc ?_;refine ah rfl rfl dc ?_;refine ah rfl rfl dc ?_;refine ah rfl rfl dc ?_;refine Zd b ?_;refine Zv (aa (Zb b) rfl) ?_;have s:=Zj d;refine Ze [(31,_),(53,_)] ?_;subst s;refine r_ (λa c=>⟨c,kp⟩)
  rintro b x ⟨c,b⟩;have d:=b.stp 999 j;replace g:=g.stp d;refine O_ c ?_;refine Za rfl (Za rfl (Zy (i_ ?_)));obtain rfl:=Zj q;refine Zr Tryz.results134 [ZI i,.bool v] ?_;exact⟨rfl,g.keeps⟩
 ·exact λ_ _ h=>h.elim
def gq(b:Yk)(c:Yl)(d:(Yl×Yl)->Option Int):(Int×Int)->Option (Lo (Int×Int) (Int×Bool)):=λs=>if decide (s.1<s.2) then(ck (s.1+s.2))>>=λf=>(cvU f)>>=λg=>(shr g 1)>>=λi=>(cvU i)>>=λa=>(ix b a)>>=λj=>(d (j,c))>>=λk=>if decide (k<0) then(ck (a+1))>>=λm=>some (.go (m,s.2)) else some (.go (s.1,a)) else some (.out (s.1,s.2))
def mG(f:Nat)(a:Yk)(c:Yl)(d:(Yl×Yl)->Option Int):Option (Int×Bool):=(loopF (gq a c d) f (0,(a.length:Int)))>>=λg=>match g with| .inl (b,m)=>(if decide (b<(a.length:Int)) then(ix a b)>>=λi=>(d (i,c))>>=λj=>some (j==0) else some false)>>=λk=>some (b,k)| .inr _=>none
theorem yw(y:Nat)(w:World)(b:Value)(m:Yk)(u:RdL zt w b m)(i:Value)(s:Yl)(z:RdL zt w i s)(d:Value)(v:(Yl×Yl)->Option Int)(e:FnV Gz w d v)(r:Int×Bool)(q:mG y m s v=some r):
    Calls Gz 148 #[b,i,d] w (rm w r):=by
 unfold mG at q;have c:Bs (λ_=>1) (col (λ_=>1)) w w:=Bs.start _ _;refine y_ (n:=49) (vs:=[b,i,d]) Tryz.func148 rfl rfl ?_;refine Zq (Za rfl (Za rfl (Ze [(0,_),(1,_),(2,_)] (Zn (Zm rfl (Zv (C_ rfl u GE) (Za rfl (Ze [(0,_),(1,_),(2,_),(8,_)] (Zn (Zm rfl (Za rfl (Za rfl ?_))))))))))));refine Zy ?_;obtain⟨l,o,q⟩:=a_ q;refine eX (λa k=>∃(f:Int)(j:Int),∃(g:Tg),l=.inl (f,j)∧Fr a 49 [(0,b),(1,i),(2,d),(8,ZI (m.length:Int)),(9,ZI f)]∧Bs (λ_=>1) g w k) (λ_ _=>False) ?_ ?_ ?_
 ·refine k_ ?_;refine B_ (λ(K:Nat) a k=>∃(f:Int)(j:Int),∃(g:Tg),loopF (gq m s v) K (f,j)=some l∧Fr a 49 [(0,b),(1,i),(2,d),(8,ZI (m.length:Int)),(9,ZI f),(10,ZI j)]∧Bs (λ_=>1) g w k) y (λa d=>⟨0,(m.length:Int),col (λ_=>1),o,d.sb,c⟩) ?_;rintro b a k ⟨f,j,g,l,d,c⟩;obtain⟨y,b,b,b,v⟩:=aC l;dsimp only[gq] at b;refine q_ d ?_;refine b_ (Zq (Zm rfl (Zm rfl (Zv (o_ rfl rfl) (Zy ?_)))));refine Zi rfl b (λl b=>?_) (λl b=>?_)
  ·refine f_ (nx (k_ (Zq (Zm rfl (Zm rfl ?_)))));obtain⟨l,l,b⟩:=a_ b;refine Zv (u_ rfl rfl l) ?_;obtain⟨l,l,b⟩:=a_ b;refine Zv (wa l rfl Hc HP) ?_;obtain⟨l,l,b⟩:=a_ b;refine Zv (wq rfl rfl l) ?_;obtain⟨o,l,b⟩:=a_ b;refine Zv (wh l rfl HP Hc) (Za rfl (Ze [(0,_),(1,_),(2,_),(8,_),(9,_),(10,_),(11,_)] (Zn (Zm rfl (Zm rfl (Zm rfl ?_))))));obtain⟨p,l,b⟩:=a_ b;refine Zo ?_;refine wf_atZ u l c rfl rfl GE GH ?_;intro l l l t A;obtain⟨l,rfl,B⟩:=A;refine Zv (e_ rfl GJ (G_ t)) (Zm rfl ?_);obtain⟨t,t,b⟩:=a_ b;refine Zo ?_;refine eZ (x:=(p,s)) (vs:=[l,i]) (e.keep c.keeps) t ⟨[l],[i],rfl,⟨_,rfl,B.keep c.keeps⟩,⟨_,rfl,z.keep c.keeps⟩⟩ rfl ⟨rfl,rfl,trivial⟩ ?_;intro l l;have p:=l.stp 999 g;replace c:=c.stp p;refine Zv (o_ rfl rfl) (Zy ?_);refine Zi rfl b (λl b=>?_) (λl b=>?_)
   ·refine h_ (Zm rfl ?_);obtain⟨l,p,b⟩:=a_ b;refine Zv (u_ rfl rfl p) (Za rfl (Zf (w_ (v_ ?_))));obtain rfl:=Zj b;refine Zk [(0,_),(1,_),(2,_),(8,_),(9,_),(10,_)] ?_;intro a d;exact⟨y,om,l,j,g,v,d,c⟩
   ·refine h_ (Zm rfl (Za rfl (Zf (w_ (v_ ?_)))));obtain rfl:=Zj b;refine Zk [(0,_),(1,_),(2,_),(8,_),(9,_),(10,_)] ?_;intro a d;exact⟨y,om,f,o,g,v,d,c⟩
  ·refine z_ ?_;refine g_ (g_ (A_ ?_));refine r_ ?_;obtain rfl:=Zj b;refine Zk [(0,_),(1,_),(2,_),(8,_),(9,_)] ?_;intro a d;exact⟨f,j,g,v,d,c⟩
 ·rintro a k ⟨f,j,g,rfl,d,c⟩;dsimp only at q;refine q_ d ?_;refine Zq (Zm rfl (Zm rfl (Zm rfl (Zv (o_ rfl rfl) (Zm rfl ?_)))));obtain⟨v,j,q⟩:=a_ q;refine bp 9 (λb y=>Fr b 49 [(35,ZI f),(48,.bool v)]∧Keeps k y) ?_ ?_;all_goals simp only[bi,bk,aR,aG]
  ·have kp:Keeps k k:=Keeps.refl _;rcases aw (decide (f<(m.length:Int))) with b|b
   ·rw[if_pos b] at j;refine m_ (d_ rfl) dc ⟨_,rfl,Zb b⟩ (m_ (d_ rfl) dc ⟨_,rfl,Zb b⟩ (m_ (d_ rfl) dc ⟨_,rfl,Zb b⟩ ?_));obtain⟨m,k,j⟩:=a_ j;refine az dc ⟨_,rfl,Zb b⟩ ?_;refine wf_atZ u k c rfl rfl GE GH ?_;intro k k k u l;obtain⟨k,rfl,o⟩:=l;refine m_ (e_ rfl GJ (G_ u)) dc ⟨_,rfl,Zb b⟩ (m_ (d_ rfl) dc ⟨_,rfl,Zb b⟩ ?_);obtain⟨u,u,j⟩:=a_ j;refine az dc ⟨_,rfl,Zb b⟩ ?_;refine eZ (x:=(m,s)) (vs:=[k,i]) (e.keep c.keeps) u ⟨[k],[i],rfl,⟨_,rfl,o.keep c.keeps⟩,⟨_,rfl,z.keep c.keeps⟩⟩ rfl ⟨rfl,rfl,trivial⟩ ?_;intro i i;have k:=i.stp 999 g;replace kp:=Keeps.trans kp i;refine m_ (bg rfl rfl) dc ⟨_,rfl,Zb b⟩ (Zv (aj (Zb b) rfl) ?_);have i:=Zj j;refine Ze [(35,_),(48,_)] ?_;subst i;refine r_ (λa d=>⟨d,kp⟩)
   ·replace j:=ZF b j;refine Zd b (Zd b (Zd b (Zd b (Zd b (Zd b (Zd b (Zd b ?_)))))));refine Zv (aa (Zb b) rfl) ?_;have i:=Zj j;refine Ze [(35,_),(48,_)] ?_;subst i;refine r_ (λa d=>⟨d,kp⟩)
  rintro b y ⟨d,b⟩;have i:=b.stp 999 g;replace c:=c.stp i;refine O_ d ?_;refine Za rfl (Za rfl (Zy (i_ ?_)));obtain rfl:=Zj q;refine Zr Tryz.results148 [ZI f,.bool v] ?_;exact⟨rfl,c.keeps⟩
 ·exact λ_ _ h=>h.elim
def eE(b:Nat)(c:Yk)(d:Yl):Option Bool:=(srtO d)>>=λf=>(mG b c f (λ(a:Yl×Yl)=>cI a.1 a.2))>>=λg=>some g.2
theorem mS(i:Nat)(w:World)(f:Value)(g:Yk)(k:RdL zt w f g)(c:Value)(d:Yl)(j:RdL zt w c d)(r:Bool)(b:eE i g d=some r):
    Calls Gz 116 #[f,c] w (ab w r):=by
 unfold eE at b;have a:Bs (λ_=>1) (col (λ_=>1)) w w:=Bs.start _ _;refine y_ (n:=16) (vs:=[f,c]) Tryz.func116 rfl rfl ?_;refine Zq (Za rfl (Ze [(0,_),(1,_)] (Zn (Zm rfl (Zm rfl (Zo ?_))))));refine j_ (CL w (col (λ_=>1)) c d (j.keep a.keeps)) Tryz.call150 ⟨rfl,trivial⟩ ?_;rintro f m ⟨q,s,rfl,u,f,v⟩;have x:=f.stp' 999 v;refine⟨_,rfl,?_⟩;replace a:=a.stp x;obtain⟨f,v,b⟩:=a_ b;refine Zo ?_;refine j_ (Cq m s 11 q c _ u d (j.keep a.keeps) f v) Tryz.call149 ⟨rfl,trivial⟩ ?_;rintro c d ⟨c,m,rfl,c,j,q⟩;have s:=j.stp' 11 q;replace c:=c.mono a.keeps.size;refine⟨_,rfl,?_⟩;replace a:=a.stp s;obtain⟨j,q,b⟩:=a_ b;refine Zo ?_;refine j_ (yw i d _ g (k.keep a.keeps) _ f c.z _ (λ(c:Yl×Yl)=>cI c.1 c.2) (show FnV Gz d (.func (.func 68) #[] #[]) (λ(c:Yl×Yl)=>cI c.1 c.2) from ⟨_,_,rfl,Tryz.call68,λww vs xx rr kk hok hG=>by(obtain⟨c,c,rfl,c,d⟩:=hok;obtain⟨f,rfl,f⟩:=c;obtain⟨c,rfl,c⟩:=d;exact cX_slices_Compare_int_int ww _ xx.1 f _ xx.2 c rr hG)⟩) j q) Tryz.call148 ⟨rfl,rfl,rfl,trivial⟩ ?_;rintro c c ⟨rfl,c⟩;have d:=c.stp 999 m;refine⟨_,rfl,?_⟩;replace a:=a.stp d;refine Zm rfl (Zv (H_ rfl rfl) (Zv (H_ rfl rfl) (Za rfl (Za rfl (Ze [(6,_)] (Zn (Zm rfl (Za rfl (Zy (i_ ?_))))))))));obtain rfl:=Zj b;refine Zr Tryz.results116 [.bool j.2] ?_;exact⟨rfl,a.keeps⟩
end Go.Proofs.YtpefhaamcihneaaGreat
