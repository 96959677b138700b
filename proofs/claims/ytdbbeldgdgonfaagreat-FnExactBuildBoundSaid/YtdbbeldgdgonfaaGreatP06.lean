/- Part 6 of what this claim rests on (pack.py). -/
import Derived.Test.YtdbbeldgdgonfaaGreatLay
import Derived.Shelf.Slices.In.SortAlone
import Derived.Shelf.Slices.In.SortNone
import Derived.Sort.EveryDepth
import Derived.Lib.SlKeysI
import Derived.Shelf.SlIterI.Collect
import Derived.Shelf.SlIterI.Sorted
import Derived.RangeFuncKeeps
import Derived.OwnWalkIn
import Derived.TacticsInMore
import Derived.LoopNIn
import Derived.LoopIn
import Derived.Test.YtdbbeldgdgonfaaGreatP05
namespace Go.Proofs.YtdbbeldgdgonfaaGreat
open Tryz renaming prog→wQ_, func200→yT_, underlying41→wR_, results70→yU_, sizeOf3→wS_, underlying3→xy_, underlying146→xM_, isAgg3→wT_, call176→yV_, underlying22→wV_, sizeOf41→wY_, isAgg41→xa_
set_option linter.unusedSimpArgs false
set_option linter.unusedVariables false
section
open Go.RowKit
def cvU(a:Int):Option Int:=if 0<=a∧a<=9223372036854775807 then some a else none
theorem ry_{a b:Int}(h:cvU a=some b):b=a∧0<=a∧a<=9223372036854775807:=by
 unfold cvU at h;split at h
 ·rename_i e;cases h;exact⟨rfl,e⟩
 ·cases h
section
variable {P:Program} {l:List (Nat×Value)} {w:World} {d:Option Nat} {ty src dst:TypeId} {ps:String} {af:Array Edge} {g:Option (Nat×Bool)} {x y:Operand} {a b c:Int}
theorem qw_(h:cvU a=some b)(k:ev l x=some (.int .i64 a))(j:P.underlying src=some (.int .i64))(f:P.underlying dst=some (.int .u64)):
  ∀ρ,Agr ρ l->(execOp ρ ⟨d,.convert src dst x,ty,ps,af,g⟩).run P w=.ok (.value (.int .u64 b)) w:=by
 obtain⟨rfl,p,m⟩:=ry_ h;intro ρ i;have e:IntKind.u64.wrap b=b:=by simp[IntKind.wrap,IntKind.bits,IntKind.signed];omega
 simp only[execOp,i x _ k,convert,Sem.run_bind,run_underlying j,run_underlying f,Result.andThen_ok,Conv.intToInt,Sem.run_pure,e]
theorem qy_(h:cvU a=some b)(k:ev l x=some (.int .u64 a))(j:P.underlying src=some (.int .u64))(f:P.underlying dst=some (.int .i64)):
  ∀ρ,Agr ρ l->(execOp ρ ⟨d,.convert src dst x,ty,ps,af,g⟩).run P w=.ok (.value (.int .i64 b)) w:=by
 obtain⟨rfl,p,m⟩:=ry_ h;intro ρ i;have e:IntKind.i64.wrap b=b:=by rw[IntKind.wrap_i64];omega
 simp only[execOp,i x _ k,convert,Sem.run_bind,run_underlying j,run_underlying f,Result.andThen_ok,Conv.intToInt,Sem.run_pure,e]
theorem tY_{t i:TypeId}(j:ev l x=some (.int .u64 a))(f:ev l y=some (.int .u64 b))(h:shr a b=some c):
  ∀ρ,Agr ρ l->(execOp ρ ⟨d,.binOp .shr t x y i,ty,ps,af,g⟩).run P w=.ok (.value (.int .u64 c)) w:=by
 unfold shr at h;split at h
 ·cases h
 ·rename_i k;cases h
  intro ρ e;have m:(eqGuard .shr t x y (.int .u64 a) (.int .u64 b)).run P w=.ok () w:=rfl;have p:(binOp .shr t (.int .u64 a) (.int .u64 b)).run P w=.ok (.int .u64 (a.fdiv (2^(min b.toNat 64)))) w:=by
   simp only[binOp,Op.shift,if_neg k];rfl
  simp only[execOp,e x _ j,e y _ f,Sem.run_bind,m,Result.andThen_ok,p];rfl
end
def isnil:Value->Bool
  | .slice none _ _=>true
  |_=>false
theorem ud_{α:Type}[Rp α]{w:World}{v:Value}{xs:List α}(h:RdL zt w v xs)(f:isnil v=true):xs=[]:=by
 obtain⟨a,c,rfl,_,_,i⟩:=h;cases a with
 |some a=>simp[isnil] at f
 | none=>
  cases xs with
  |nil=>rfl
  |cons x xs=>
   obtain⟨b,off,cs,e,_⟩:=i 0 x rfl;cases e
section
variable {P:Program} {l:List (Nat×Value)} {w:World} {d:Option Nat} {ty:TypeId} {ps:String} {af:Array Edge} {g:Option (Nat×Bool)} {x y:Operand} {v:Value} {α:Type} [Rp α] {xs:List α}
theorem sL_{t k e:TypeId}(h:RdL zt w v xs)(m:ev l x=some v)(j:ev l y=some (.slice none 0 0))(q:P.underlying t=some (.slice e)):
  ∀ρ,Agr ρ l->(execOp ρ ⟨d,.binOp .eql t x y k,ty,ps,af,g⟩).run P w=.ok (.value (.bool (isnil v))) w:=by
 obtain⟨a,c,rfl,_⟩:=h;intro ρ i;have s:(eqGuard .eql t x y (.slice a xs.length c) (.slice none 0 0)).run P w=.ok () w:=rfl;have u:(binOp .eql t (.slice a xs.length c) (.slice none 0 0)).run P w=.ok (.bool (isnil (.slice a xs.length c))) w:=by
  have f:∀n,(Op.equalIn (n+1) t (.slice a xs.length c) (.slice none 0 0)).run P w=.ok (isnil (.slice a xs.length c)) w:=λn=>by
   cases a<;>simp[Op.equalIn,Sem.run_bind,run_underlying q,isnil]
  have p:=f 9999;have e:binOp .eql t (.slice a xs.length c) (.slice none 0 0)=(Op.equalIn (9999+1) t (.slice a xs.length c) (.slice none 0 0)>>=λb=>pure (Value.bool b)):=rfl;rw[e,Sem.run_bind,p];rfl
 simp only[execOp,i x _ m,i y _ j,Sem.run_bind,s,Result.andThen_ok,u];rfl
end
section
variable {P:Program} {n:Nat} {l:List (Nat×Value)} {w:World} {d:Nat} {ty:TypeId} {ps:String} {af:Array Edge} {g:Option (Nat×Bool)} {R:Value->World->Prop} {α:Type} [Rp α] {o:Tg}
theorem qB_{t e:TypeId}{m sz:Nat}{z:Value}{f:List (Nat×Operand)}{vs:List (Nat×Value)}{cs:List Value}{xs:List α}(B k:Nat)(C:B<=w.heap.size)(p:RdC o w cs xs)(A:m=xs.length)(G:EvP l f vs)
  (F:P.underlying t=some (.slice e)) (D:∀w,(sizeOf e).run P w=.ok sz w) (u:∀w,(zeroValue e).run P w=.ok z w) (j:m*sz<=16777216)
  (E:Instr.fill (λi=>some (i*sz,sz)) ((Array.range (m*sz)).map ((if m*sz=0 then #[] else z.cells)[·%(if m*sz=0 then #[] else z.cells).size]!)) vs=some cs.toArray) (H:xs.length<=1000000)
  (h:∀s w' q,Ow B e k s w' q xs->Stp 999 o w s w'->R q w'):op1 P ⟨some d,.buildSlice t m f.toArray,ty,ps,af,g⟩ n l w R:=by
 subst A;exact M_ (ta_ F D u j G E) (h _ _ _ (nj_ (e:=e) p C (by simp only[maxLen];omega)) (hk_ _ _ _ _ _))
end
end
section
open Go.RowKit Go.Sort Go.Shelf
def srt(xs:List Int):List Int:=xs.mergeSort λx y=>decide (x<=y)
theorem ei_(xs:List Int):(srt xs).length=xs.length:=by simp[srt]
def srtO(xs:List Int):Option (List Int):=if xs.length<=1000000000 then some (srt xs) else none
theorem og_{xs a:List Int}(h:srtO xs=some a):xs.length<=1000000000∧a=srt xs:=by
 unfold srtO at h;split at h
 ·rename_i b;cases h;exact⟨b,rfl⟩
 ·cases h
theorem ol_:∀{css:List (List Value)}{l:List Int},css.length=l.length->(∀(i:Nat) cs x,css[i]? =some cs->l[i]? =some x->cs=[.int .i64 x])->css.flatten=l.map (Value.int .i64)
 |[],[],_,_=>rfl
 |[],_::_,h,_=>by simp at h
 |_::_,[],h,_=>by simp at h
 |c::css,a::l,b,h=>by
  have e:=h 0 c a rfl rfl;subst e;rw[List.flatten_cons,ol_ (by simpa using b) (λi cs x f d=>h (i+1) cs x (by simpa using f) (by simpa using d))];rfl
theorem qf_{B k:Nat}{o:Tg}{w:World}{v:Value}{l:List Int}(d:∀g,v.ownBlock=some g->o g=k)(h:w.ownsRow B 3 1 v l.length (l.map (Value.int .i64))):Ow B 3 k o w v l:=by
 refine⟨l.map λx=>[.int .i64 x],by simp,?_,d,λi cs x a b=>?_⟩
 ·have:∀l:List Int,(l.map λx=>[Value.int .i64 x]).flatten=l.map (Value.int .i64):=by
   intro l
   induction l with
   |nil=>rfl
   |cons a l ih=>simp[List.flatten_cons,ih]
  rw[this];exact h
 ·rw[List.getElem?_map,b] at a;cases a
  rfl
theorem nt_{B k:Nat}{o:Tg}{w:World}{v:Value}{xs A:List Int}(h:Ow B 3 k o w v xs)(C:srtO xs=some A):
  Calls wQ_ 141 #[v] w (λe w'=>e=.returned (.tuple #[])∧Ow B 3 k o w' v A∧Stp k o w o w'):=by
 obtain⟨M,rfl⟩:=og_ C;obtain⟨css,H,y,u,K⟩:=h;rw[ol_ H (λi cs x a b=>K i cs x a b)] at y;have p:w.ownsRow B 3 1 v xs.length (xs.map (Value.int .i64)):=y;rcases p.2 with⟨rfl,E⟩|⟨g,cap,G,rfl,d,j,L,f,s,t⟩
 ·have I:xs=[]:=List.eq_nil_of_length_eq_zero E;subst I;refine (calls_of_every_depth λD=>AnyS.slices_Sort_int_none_alone Tryz.laysSort D none 0 w).mono ?_;rintro e w' ⟨rfl,rfl⟩;exact⟨rfl,(by simpa [srt] using Ow.nil B 3 k o w'),Stp.refl _ _ _⟩
 ·have F:Holds (Value.int .i64) w g 0 xs.toArray:=holds_of_block_i j (by simpa using t);have q:g<w.heap.size:=(Array.getElem?_eq_some_iff.1 j).1;refine (calls_of_every_depth λD=>AnyS.slices_Sort_int_alone Tryz.laysSort D g 0 cap xs w F q (by omega)).mono ?_;rintro e w' ⟨rfl,n,os,rfl⟩;have J:=ownsRow_sorted_i (n:=n) (os:=os) (ts:=srt xs) (ei_ xs) d j L f (by simpa using s);have N:=grownBy_sorted_i (w:=w) (g:=g) (n:=n) (os:=os) (srt xs).toArray;refine⟨rfl,qf_ u (by rw[ei_];exact J),⟨rfl,rfl,rfl,?_,λb j m=>?_,λ_ _=>rfl⟩⟩
  ·simp[putRow,mapBlock,Sort.ahead]
  ·rw[heap_grow_old _ _ (by simpa using j)];have:g≠b:=λe=>m (by rw[<-e];exact u g rfl);simp[putRow,mapBlock,Sort.ahead,Array.getElem?_modify,this]
end
section
open Go.RowKit Go.Sort Go.Shelf
def Sq(o:Tg)(w:World)(v u:Value):Prop:=
  ∃b,v=.func (.func 200) #[] #[.pointer (some ⟨b,0,none⟩)]∧o b=0∧b<w.heap.size∧w.cell? ⟨b,0,none⟩=some u
section
variable {o o':Tg} {w w':World} {v u:Value} {t k:Nat}
end
theorem sk_(a:Option Addr)(m c:Nat)(u:Value)(hu:u=.slice a m c)(w:World):
  Calls wQ_ 186 #[u] w λe w'=>e=.returned (.func (.func 200) #[] #[.pointer (some ⟨w.heap.size,0,none⟩)])∧w'=w.alloc (.cells #[u] 41):=by
 subst hu;have hmf:∀(fn:Fn)(first cap:Array Value)(w:World),(Instr.makeFunc fn first cap).run wQ_ w=.ok (.func fn first cap) w:=λ_ _ _ _=>rfl;go_enter Tryz.func186,Tryz.ntmps186;go_wp2;go_ret;exact⟨rfl,rfl⟩
def sS_(oo:Tg)(w:World)(u:Value):Ending->World->Prop:=λe w'=>∃(v:Value)(o':Tg),e=.returned v∧Sq o' w' v u∧Keeps w w'∧∀b,b<w.heap.size->o' b=oo b
theorem sv_(w:World)(d:Tg)(u:Value)(xs:List Int)(f:RdL zt w u xs):Calls wQ_ 186 #[u] w (sS_ d w u):=by
 obtain⟨a,c,e,_⟩:=f;refine (sk_ a _ c u e w).mono ?_;rintro e w' ⟨rfl,rfl⟩;refine⟨_,λb=>if b<w.heap.size then d b else 0,rfl,⟨_,rfl,if_neg (by omega),by simp,?_⟩,(Keeps.refl w).alloc _,λb g=>if_pos g⟩;rw[World.cell?_alloc_at _ _ _ _ rfl];rfl
set_option maxRecDepth 100000 in
set_option maxHeartbeats 2000000 in
theorem vm_(l b:Nat)(u:Value)(xs:List Int)(w0:World)(hb:b<w0.heap.size)(hc:w0.cell? ⟨b,0,none⟩=some u)(hu:RdL zt w0 u xs)(n:Nat)(J:List Int->World->Prop)
  (hJ:∀pre W,J pre W->Below w0.heap.size w0 W)
  (hY:∀pre x W,J pre W->pre.length<xs.length->YieldAt Fence.wide (n-1) wQ_ l #[.int .i64 x] W λe W'=>e=.returned (.bool true)∧J (pre++[x]) W'∧KeepsWalks W W')
  (W:World) (h0:J [] W):
  CallsIn Fence.wide n wQ_ 200 #[.func (.yield l) #[] #[],.pointer (some ⟨b,0,none⟩)] W λe W'=>(∃v,e=.returned v)∧J xs W':=by
 obtain⟨a,cap,rfl,h1,h2,h4⟩:=hu;have hcell:∀pre W',J pre W'->W'.cell? ⟨b,0,none⟩=some (.slice a xs.length cap):=λpre W' h=>((hJ pre W' h).cell (p:=⟨b,0,none⟩) hb).trans hc;have hat:∀(k:Nat) x,xs[k]? =some x->∃g off,a=some ⟨g,off,none⟩∧∀pre W',J pre W'->W'.cell? ⟨g,off+k,none⟩=some (.int .i64 x):=λk x hx=>by
  obtain⟨g,off,cs,ha,_,hg,hcs,hr⟩:=h4 k x hx;have hr':cs=[.int .i64 x]:=hr;subst hr';refine⟨g,off,ha,λpre W' h=>((hJ pre W' h).cell (p:=⟨g,off+k,none⟩) hg).trans ?_⟩;have:=hcs 0 (.int .i64 x) rfl;simpa [Rp.sz] using this
 have hc0:=hcell [] W h0;have H1:=Lib.hid hcell;have H2:=Lib.hid hat
 have HY:=Lib.hid hY;have HJ:=Lib.hid hJ;clear hcell hat hY hJ h4 hc;refine callsIn_of_wp yT_ rfl trivial ?_ rfl;simp only[Tryz.ntmps200,List.size_toArray,List.length_cons,List.length_nil,Nat.reduceAdd,Nat.reduceSub,Array.replicate_succ,Array.replicate_zero,List.push_toArray,List.append_toArray,List.nil_append,List.cons_append]
 gi_wp2
 gi_loopw [7] (λp wr=>∃k:Nat,p=.int .i64 k∧k<=xs.length∧J (xs.take k) wr) (λp wr=>xs.length-(intOf p).toNat)
 case atStart=>
  exact⟨0,rfl,Nat.zero_le _,h0⟩
 case round=>
  obtain⟨k,rfl,hk,hJs⟩:=hrel;by_cases hlt:k<xs.length
  ·have hw:wrap64 ((k:Int)+1)=(k:Int)+1:=by have:cap<=9223372036854775807:=h2;unfold wrap64;omega
   obtain⟨g,off,rfl,hat'⟩:=H2.out k _ (List.getElem?_eq_getElem hlt);have hck:=hat' _ _ hJs;generalize hx:xs[k]=x at hck;obtain⟨fn,tmps,assign,body,hy,hR⟩:=HY.out (xs.take k) x wr hJs (by simp;omega)
   gi_wp2
   refine⟨λh=>(by cases h),hR.mono ?_⟩;rintro e W3 ⟨rfl,hJ3,hk3⟩
   gi_wp2
   go_roundw;case rel=>
    refine⟨k+1,by rw[hw];simp,by omega,?_⟩;have:xs.take (k+1)=xs.take k++[x]:=by rw[List.take_add_one,List.getElem?_eq_getElem hlt,hx];rfl
    rw[this];exact hJ3
   case measure=>rw[hw];simp only[intOf];omega
  ·have:k=xs.length:=by omega
   subst this
   gi_wp2
   go_end0;rw[List.take_length] at hJs;exact⟨⟨_,rfl⟩,hJs⟩
set_option maxRecDepth 100000 in
set_option maxHeartbeats 2000000 in
theorem appendVals(b:Nat)(u:Value)(xs:List Int)(hl:xs.length<=1000000000)(w:World)(hb:b<w.heap.size)(hc:w.cell? ⟨b,0,none⟩=some u)(hu:RdL zt w u xs):
  Calls wQ_ 216 #[.slice none 0 0,.func (.func 200) #[] #[.pointer (some ⟨b,0,none⟩)]] w λe w'=>
   ∃v,e=.returned v∧w'.ownsRow w.heap.size 3 1 v xs.length (xs.map (Value.int .i64))∧Below w.heap.size w w':=by
 refine (callsIn_wide (n:=9)).1 ?_;refine callsIn_of_wp_marks Tryz.func216 rfl trivial ?_ rfl;simp only[Tryz.ntmps216,List.size_toArray,List.length_cons,List.length_nil,Nat.reduceAdd,Nat.reduceSub,Array.replicate_succ,Array.replicate_zero,List.push_toArray,List.append_toArray,List.nil_append,List.cons_append]
 gi_wp2
 refine wpIn_rangeFunc ?_;intro fn hfn;generalize hsv:Value.func (.func 200) #[] #[.pointer (some ⟨b,0,none⟩)]=sv
 -- the box of s, the record of what is put off, the loop's record: three new blocks
 obtain⟨W1,hW1⟩:∃W1,((w.alloc (.cells #[.slice none 0 0] 41)).alloc (.deferred (some []))).alloc (.loop (AnyZI.apRec Tryz.laysAp_ren fn sv w.heap.size (w.heap.size+1) .ready none))=W1:=⟨_,rfl⟩;have n0:W1.heap[w.heap.size]? =some (.cells #[.slice none 0 0] 41 (0,0)):=by
  rw[<-hW1];exact(Below.heap_alloc _ _ _ (by simp;omega)).trans ((Below.heap_alloc _ _ _ (by simp)).trans (World.alloc_heap_new w _))
 have n1:W1.heap[w.heap.size+1]? =some (.deferred (some [])):=by
  rw[<-hW1];have:=World.alloc_heap_new (w.alloc (.cells #[.slice none 0 0] 41)) (.deferred (some []));rw[World.size_alloc] at this;exact(Below.heap_alloc _ _ _ (by simp)).trans this
 have n2:W1.heap[w.heap.size+2]? =some (.loop (AnyZI.apRec Tryz.laysAp_ren fn sv w.heap.size (w.heap.size+1) .ready none)):=by
  rw[<-hW1];have:=World.alloc_heap_new ((w.alloc (.cells #[.slice none 0 0] 41)).alloc (.deferred (some []))) (.loop (AnyZI.apRec Tryz.laysAp_ren fn sv w.heap.size (w.heap.size+1) .ready none));rw[World.size_alloc,World.size_alloc] at this;exact this
 have hb1:Below w.heap.size w W1:=by
  rw[<-hW1];exact(((Below.refl _ w).alloc (Nat.le_refl _) _).alloc (by simp) _).alloc (by simp;omega) _
 have hAt:AnyZI.ApAt Tryz.laysAp_ren w fn sv w.heap.size (w.heap.size+2) (w.heap.size+1) [] W1:=⟨⟨_,n0,⟨rfl,.inl ⟨rfl,rfl⟩⟩,by simp⟩,n2,n1,hb1⟩;refine⟨w.heap.size+2,[{target:=.collected (w.heap.size+1),args:= #[]}],W1,{target:=.fn (.func 200) #[.pointer (some ⟨b,0,none⟩)],args:= #[.func (.yield (w.heap.size+2)) #[] #[]]},W1,200,
  #[.func (.yield (w.heap.size+2)) #[] #[]]++ #[.pointer (some ⟨b,0,none⟩)],W1,?_,?_,?_,?_,λh=>(by cases h),?_⟩
 ·rw[<-hW1,<-hsv];refine (run_enterLoop_outer _ _ _ _ _).trans ?_;rw[World.size_alloc];rfl
 ·rw[<-hsv];simp[resolve,go_sem]
 ·intro f' hf';trivial
 ·simp[invoke,go_sem,enters_of yT_ (by kernel_rfl) rfl]
 ·refine (vm_ (w.heap.size+2) b u xs w hb hc hu _ (AnyZI.ApAt Tryz.laysAp_ren w fn sv w.heap.size (w.heap.size+2) (w.heap.size+1)) (λpre W h=>h.below)
   (λpre x W h hlen=>AnyZI.apYield Tryz.laysAp Fence.wide _ w fn hfn sv w.heap.size (w.heap.size+2) (w.heap.size+1) (by omega) (by omega) (by omega) (Nat.le_refl _) (by omega) 1000000000 (by decide) (by decide) pre x W h (by omega)) W1 hAt).mono ?_
  rintro e W2 ⟨⟨v0,rfl⟩,h2⟩;obtain⟨v,hv,hrow,hnil⟩:=h2.box;have hend:=run_endLoop (P:=wQ_) h2.L (by simp[AnyZI.apRec]);obtain⟨W3,hW3⟩:∃W3,W2.putObj (w.heap.size+2) (.loop {AnyZI.apRec Tryz.laysAp_ren fn sv w.heap.size (w.heap.size+1) .ready none with state:=.exhausted})=W3:=⟨_,rfl⟩;rw[hW3] at hend;have hg3:W2.grownBy W3 (some (w.heap.size+2)):=by rw[<-hW3];exact grownBy_putObj_a _ _ _
  have hv3:W3.heap[w.heap.size]? =some (.cells #[v] 41 (0,0)):=by rw[<-hW3];exact(World.putObj_heap_other (by omega)).trans hv
  have hK3:W3.heap[w.heap.size+1]? =some (.deferred (some [])):=by rw[<-hW3];exact(World.putObj_heap_other (by omega)).trans h2.K
  have hrow3:=hrow.kept hg3 (ownsRow_ne_a hrow h2.L (λcur e=>by cases e));have hb3:Below w.heap.size w W3:=h2.below.grown hg3 h2.below.size (λk e=>by cases e;omega);obtain⟨hc3,hf3⟩:=cell_of_box_a hv3;clear hW3;refine⟨none,W3,hend,?_⟩
  gi_wp2
  refine⟨by simp,.inl ⟨_,_,rfl,run_takeDeferred hK3,?_⟩⟩;exact⟨_,results_tmp rfl _ _ _,v,rfl,hrow3.kept (grownBy_putObj_a _ _ _) (ownsRow_ne_a hrow3 hK3 (λcur e=>by cases e)),hb3.grown (grownBy_putObj_a _ _ _) hb3.size (λk e=>by cases e;omega)⟩
set_option maxRecDepth 100000 in
theorem collectVals(b:Nat)(u:Value)(xs:List Int)(hl:xs.length<=1000000000)(w:World)(hb:b<w.heap.size)(hc:w.cell? ⟨b,0,none⟩=some u)(hu:RdL zt w u xs):
  Calls wQ_ 199 #[.func (.func 200) #[] #[.pointer (some ⟨b,0,none⟩)]] w λe w'=>
   ∃v,e=.returned v∧w'.ownsRow w.heap.size 3 1 v xs.length (xs.map (Value.int .i64))∧Below w.heap.size w w':=by
 have hc1:=appendVals b u xs hl w hb hc hu;go_enter Tryz.func199,Tryz.ntmps199;go_wp2_with (go_at_call 216;refine hc1.mono ?_;rintro e w' ⟨v,rfl,hrow,hbl⟩);go_ret;exact⟨v,rfl,hrow,hbl⟩
theorem rp_{w w':World}{v:Value}{xs:List Int}(d:Tg)(t:Nat)(h:w'.ownsRow w.heap.size 3 1 v xs.length (xs.map (Value.int .i64)))(a:Below w.heap.size w w'):
  ∃o':Tg,Ow w.heap.size 3 t o' w' v xs∧Keeps w w'∧∀b,b<w.heap.size->o' b=d b:=by
 refine⟨λb=>if b<w.heap.size then d b else t,qf_ (λg e=>if_neg ?_) h,?_,λb a=>if_pos a⟩
 ·have:=(World.ownsRow.lt h g e).1;omega
 ·exact a
def nZ_(oo:Tg)(t:Nat)(w:World)(r:List Int):Ending->World->Prop:=λe w'=>∃(v0:Value)(o':Tg),e=.returned v0∧Ow w.heap.size 3 t o' w' v0 r∧Keeps w w'∧∀b,b<w.heap.size->o' b=oo b
theorem rZ_(w:World)(h:Tg)(t:Nat)(v u:Value)(o:Tg)(s:Sq o w v u)(xs:List Int)(g:RdL zt w u xs)(r:List Int)(j:cat [] xs=some r):
  Calls wQ_ 199 #[v] w (nZ_ h t w r):=by
 obtain⟨i,f⟩:=rt_ j;rw[List.nil_append] at f;subst f;obtain⟨b,rfl,_,x,n⟩:=s;refine (collectVals b u r (by simpa using i) w x n g).mono ?_;rintro e w' ⟨v,rfl,a,d⟩;obtain⟨o',q,p,m⟩:=rp_ h t a d;exact⟨v,o',rfl,q,p,m⟩
set_option maxRecDepth 100000 in
theorem tf_(w:World)(oo:Tg)(t:Nat)(v u:Value)(o:Tg)(hs:Sq o w v u)(xs:List Int)(g:RdL zt w u xs)(r:List Int)(hF:srtO xs=some r):
  Calls wQ_ 185 #[v] w (nZ_ oo t w r):=by
 have hl:=(og_ hF).1;have hC:=rZ_ w (λ_=>1) 2 v u o hs xs g xs (by unfold cat;rw[if_pos (by simpa using hl)];rfl);have hC1:Calls wQ_ 199 #[v] w λe w'=>∃v1,e=.returned v1∧Calls wQ_ 141 #[v1] w' λe2 w2=>e2=.returned (.tuple #[])∧w2.ownsRow w.heap.size 3 1 v1 r.length (r.map (Value.int .i64))∧Keeps w w2:=by
  refine hC.mono ?_;rintro e w1 ⟨v1,o1,rfl,h1,hk,ho⟩;refine⟨v1,rfl,(nt_ h1 hF).mono ?_⟩;rintro e2 w2 ⟨rfl,h3,hs⟩;obtain⟨css,c1,c2,c3,c4⟩:=h3;rw[ol_ c1 (λi cs x a b=>c4 i cs x a b)] at c2;refine⟨rfl,c2,⟨hs.os.trans hk.os,hs.tape.trans hk.tape,hs.output.trans hk.output,Nat.le_trans hk.size hs.size,λb hb=>?_⟩⟩;exact(hs.block b (Nat.lt_of_lt_of_le hb hk.size) (by rw[ho b hb];show(1:Nat)≠2;decide)).trans (hk.block b hb)
 have HC:=Lib.hid hC1;clear hC hC1 g hs hF hl;refine Calls.mono (R:=λe w'=>∃v0,e=.returned v0∧w'.ownsRow w.heap.size 3 1 v0 r.length (r.map (Value.int .i64))∧Keeps w w') ?_ ?_
 ·go_enter Tryz.func185,Tryz.ntmps185;go_wp2_with (go_at_call 199;refine (HC.out).mono ?_;rintro e w1 ⟨v1,rfl,hS⟩);go_wp2_with (go_at_call 141;refine hS.mono ?_;rintro e w2 ⟨rfl,hrow,hk⟩);go_ret;exact⟨_,rfl,hrow,hk⟩
 ·rintro e w' ⟨v0,rfl,hrow,hk⟩;obtain⟨o',h1,h2,h3⟩:=rp_ oo t hrow hk;exact⟨v0,o',rfl,h1,h2,h3⟩
end
section
set_option maxRecDepth 100000
set_option maxHeartbeats 2000000
open Go.RowKit
theorem nE_:Inf wQ_ 3 (.int .i64 0) 1 8:=by unfold Inf;kernel_rfl
def bD_(a:Int):Option Bool:=
  some (a !=a)
def iK_(w:World)(r:Bool):Ending->World->Prop:=λe w'=>e=.returned (.bool r)∧Keeps w w'
theorem fX_(w:World)(a:Int)(r:Bool)(hF:bD_ a=some r):
    Calls wQ_ 176 #[.int .i64 a] w (iK_ w r):=by
 unfold bD_ at hF;have hB:Bs (λ_=>1) (col (λ_=>1)) w w:=Bs.start _ _;refine i_ (n:=6) (vs:=[ZI a]) Tryz.func176 rfl rfl ?_;refine Zq (Za rfl (Ze [(0,_)] (Zn (Zm rfl (Zm rfl (Zv (bR_ rfl rfl) (Za rfl (Ze [(2,_)] (nx (j_ ?_))))))))));have b:=Zj hF;subst b;refine Zr Tryz.results176 [.bool (a !=a)] ?_;exact⟨rfl,hB.keeps⟩
def at_(a:List Int):Option (List Int):=
  (cat ([]:List Int) a)>>=λb=>
  some b
def gR_(oo:Tg)(t:Nat)(w:World)(r:Yl):Ending->World->Prop:=λe w'=>∃(a:Value)(o':Tg),e=.returned (a)∧Ow w.heap.size 3 t o' w' a r∧Keeps w w'∧∀b,b<w.heap.size->o' b=oo b
theorem bU_(w:World)(oo:Tg)(t:Nat)(ht:2<=t)(a:Value)(k:Yl)(c:RdL zt w a k)(r:Yl)(hF:at_ k=some r):
    Calls wQ_ 70 #[a] w (gR_ oo t w r):=by
 unfold at_ at hF;have hB:Bs oo (col oo) w w:=Bs.start _ _;refine i_ (n:=8) (vs:=[a]) Tryz.func70 rfl rfl ?_;generalize col oo=o at*;refine Zq (Za rfl (Ze [(0,_)] (nx (c_ (Zq (Zm rfl (Zv (sL_ (c.keep hB.keeps) rfl rfl wR_) (Ze [(0,_),(4,_)] (nx ?_)))))))));refine l_ rfl (λm=>?_) (λm=>?_)
 ·have q:=ud_ (c.keep hB.keeps) m;subst q;replace hF:(some []:Option Yl)=some r:=hF;refine Zq (Za rfl (Ze [(2,_)] (nx (j_ (y_ ?_)))));have s:=Zj hF;subst s;refine Zr yU_ [.slice none 0 0] ?_;exact⟨_,rt oo o w.heap.size 9 t,rfl,Ow.nil _ _ _ _ _,hB.keeps,am_ _ _ _ _ _⟩
 ·refine g_ (Zn (Zo ?_));refine hu_ w.heap.size 11 hB.keeps.size (o:=o) (cs:=[]) (xs:=([]:Yl)) (vs:=[]) rfl rfl trivial wR_ wS_ Tryz.zeroValue3 (by decide) fill0 (by simp) ?_;intro y z A u v;replace hB:=hB.stp v;refine Zm rfl ?_;obtain⟨B,d,hF⟩:=a_ hF;refine Zo ?_;refine nH_ u (c.keep hB.keeps) d (by decide) hB.keeps.size (λ_ _ h=>h) rfl rfl wR_ nE_ rfl (by decide) ?_;intro f x b g i;replace hB:=hB.stp i;refine Za rfl (Ze [(2,_)] (nx (j_ ?_)));have j:=Zj hF;subst j;refine Zr yU_ [b] ?_;exact⟨_,rt oo f w.heap.size 11 t,rfl,g.rt hB (by decide) t,hB.keeps,am_ _ _ _ _ _⟩
def aj_(j:List Int)(k:Int):(Int×Int)->Option (Lp (Int×Int) (Int×Int) (Int×Bool)):=λ(s:Int×Int)=>
  if decide (s.1<s.2) then
    (ck (s.1+s.2))>>=λb=>
    (cvU b)>>=λc=>
    (shr c 1)>>=λd=>
    (cvU d)>>=λa=>
    (ix j a)>>=λf=>
    (cM_ f k)>>=λg=>
    if g then
      (ck (a+1))>>=λi=>
      some (.go (i,s.2))
    else
      some (.go (s.1,a))
  else
    some (.out (s.1,s.2))
def aE_(fuel:Nat)(a:List Int)(c:Int):Option (Int×Bool):=
  (loopF (aj_ a c) fuel (0,(a.length:Int)))>>=λk=>
  match k with
  | .inl (b,m)=>
    (
      if decide (b<(a.length:Int)) then
        (ix a b)>>=λd=>
        if d==c then
          some true
        else
          (ix a b)>>=λf=>
          (bD_ f)>>=λg=>
          if g then
            (bD_ c)>>=λi=>
            some i
          else
            some false
      else
        some false)>>=λj=>
    some (b,j)
  | .inr _=>none
def fr_(w:World)(r:Int×Bool):Ending->World->Prop:=λe w'=>e=.returned (.tuple #[.int .i64 r.1,.bool r.2])∧Keeps w w'
theorem fg_(fuel:Nat)(w:World)(q:Value)(k:Yl)(V:RdL zt w q k)(j:Int)(r:Int×Bool)(hF:aE_ fuel k j=some r):
    Calls wQ_ 143 #[q,.int .i64 j] w (fr_ w r):=by
 unfold aE_ at hF;have hB:Bs (λ_=>1) (col (λ_=>1)) w w:=Bs.start _ _;refine i_ (n:=54) (vs:=[q,ZI j]) Tryz.func143 rfl rfl ?_;refine Zq (Za rfl (Za rfl (Ze [(0,_),(1,_)] (Zn (Zm rfl (Zv (B_ rfl V wR_) (Za rfl (Ze [(0,_),(1,_),(6,_)] (Zn (Zm rfl (Za rfl (Za rfl ?_))))))))))));refine Ze [(0,_),(1,_),(6,_),(7,_),(8,_)] (nx ?_);obtain⟨b6,W,hF⟩:=a_ hF;refine kA_ (λa x=>∃(i:Int)(s:Int),∃(u:Tg),b6=.inl (i,s)∧Fr a 54 [(0,q),(1,ZI j),(6,ZI (k.length:Int)),(7,ZI i)]∧Bs (λ_=>1) u w x) (λ_ _=>False) ?_ ?_ ?_
 ·refine f_ ?_;refine w_ (λ(K:Nat) a x=>∃(i:Int)(s:Int),∃(u:Tg),loopF (aj_ k j) K (i,s)=some b6∧Fr a 54 [(0,q),(1,ZI j),(6,ZI (k.length:Int)),(7,ZI i),(8,ZI s)]∧Bs (λ_=>1) u w x) fuel (λa ha=>⟨0,(k.length:Int),col (λ_=>1),W,ha.sb,hB⟩) ?_;rintro K9 a x ⟨i,s,u,b7,ha,hB⟩;obtain⟨K13,b8,b9,d,y⟩:=X_ b7;dsimp only[aj_] at d;refine J_ ha ?_;refine c_ (Zq (Zm rfl (Zm rfl (Zv (r_ rfl rfl) (Ze [(0,_),(1,_),(6,_),(7,_),(8,_),(15,_)] (nx ?_))))));refine l_ rfl (λz=>?_) (λz=>?_)
  ·rw[if_pos z] at d;refine g_ (nx (f_ (Zq (Zm rfl (Zm rfl ?_)))));obtain⟨c0,D,d⟩:=a_ d;refine Zv (C_ rfl rfl D) ?_;obtain⟨c1,E,d⟩:=a_ d;refine Zv (qw_ E rfl xy_ xM_) ?_;obtain⟨c2,F,d⟩:=a_ d;refine Zv (tY_ rfl rfl F) ?_;obtain⟨v,G,d⟩:=a_ d;refine Zv (qy_ G rfl xM_ xy_) (Za rfl (Ze [(0,_),(1,_),(6,_),(7,_),(8,_),(9,_)] (Zn (Zm rfl (Zm rfl ?_)))));obtain⟨X,H,d⟩:=a_ d;refine Zo ?_;refine wf_atZ V H hB rfl rfl wR_ wS_ ?_;intro c3 c4 c5 Y Z;cases Z
   refine Zv (e_ rfl wT_ (k_ Y)) (Zm rfl ?_);obtain⟨I,J,d⟩:=a_ d;refine Zo ?_;refine o_ (hI_ x X j I J) Tryz.call135 ⟨rfl,rfl,trivial⟩ ?_;rintro c6 c7 ⟨rfl,a0⟩;have a1:=a0.stp 999 u;refine⟨_,rfl,?_⟩;replace hB:=hB.stp a1;refine Ze [(0,_),(1,_),(6,_),(7,_),(8,_),(9,_),(27,_)] (nx ?_);refine l_ rfl (λA=>?_) (λA=>?_)
   ·rw[if_pos A] at d;refine d_ (Zm rfl ?_);obtain⟨B,L,d⟩:=a_ d;refine Zv (C_ rfl rfl L) (Za rfl (Ze [(0,_),(1,_),(6,_),(7,_),(8,_)] (x_ (u_ ?_))));have a2:=Zj d;subst a2;refine Zk [(0,_),(1,_),(6,_),(7,_),(8,_)] ?_;intro a ha;exact⟨K13,by omega,B,s,u,y,ha,hB⟩
   ·replace d:=ZF A d;refine d_ (Zm rfl (Za rfl (Ze [(0,_),(1,_),(6,_),(7,_),(8,_)] (x_ (u_ ?_)))));have a3:=Zj d;subst a3;refine Zk [(0,_),(1,_),(6,_),(7,_),(8,_)] ?_;intro a ha;exact⟨K13,by omega,i,v,u,y,ha,hB⟩
  ·replace d:=ZF z d;refine s_ ?_;refine n_ (n_ (N_ ?_));refine p_ ?_;have a4:=Zj d;subst a4;refine Zk [(0,_),(1,_),(6,_),(7,_)] ?_;intro a ha;exact⟨i,s,u,y,ha,hB⟩
 ·rintro a x ⟨i,s,u,rfl,ha,hB⟩;dsimp only at hF;refine J_ ha ?_;refine Zq (Zm rfl (Zm rfl (Zm rfl (Zv (r_ rfl rfl) (Zm rfl ?_)))));obtain⟨C,b,hF⟩:=a_ hF;refine bc_ 18 (λa5 M=>Fr a5 54 [(31,ZI i),(53,.bool C)]∧Keeps x M) ?_ ?_;all_goals simp only[List.take_succ_cons,List.take_zero,List.drop_succ_cons,List.drop_zero]
  ·have kp:Keeps x x:=Keeps.refl _;rcases Bool.eq_false_or_eq_true (decide (i<(k.length:Int))) with c|c
   ·rw[if_pos c] at b;refine q_ (h_ rfl) (by decide) ⟨_,rfl,Zb c⟩ (q_ (h_ rfl) (by decide) ⟨_,rfl,Zb c⟩ ?_);obtain⟨a6,N,b⟩:=a_ b;refine cJ_ (by decide) ⟨_,rfl,Zb c⟩ ?_;refine wf_atZ V N hB rfl rfl wR_ wS_ ?_;intro c8 c9 d0 a7 a8;cases a8
    refine q_ (e_ rfl wT_ (k_ a7)) (by decide) ⟨_,rfl,Zb c⟩ (q_ (h_ rfl) (by decide) ⟨_,rfl,Zb c⟩ (q_ (cD_ rfl rfl) (by decide) ⟨_,rfl,Zb c⟩ (q_ (h_ rfl) (by decide) ⟨_,rfl,Zb c⟩ ?_)));rcases Bool.eq_false_or_eq_true (a6==j) with f|f
    ·rw[if_pos f] at b;refine A_ rfl rfl (by rw[f];rfl) (by decide) ?_;refine A_ rfl rfl (by rw[f];rfl) (by decide) ?_;refine A_ rfl rfl (by rw[f];rfl) (by decide) ?_;refine A_ rfl rfl (by rw[f];rfl) (by decide) ?_;refine A_ rfl rfl (by rw[f];rfl) (by decide) ?_;refine A_ rfl rfl (by rw[f];rfl) (by decide) ?_;refine aq_ rfl rfl (by decide) ?_;refine aq_ rfl rfl (by decide) ?_;refine A_ rfl rfl (by rw[f];rfl) (by decide) ?_;refine q_ (P_ (Zb f) rfl) (by decide) ⟨_,rfl,Zb c⟩ (Zv (P_ (Zb c) rfl) ?_);have g:=Zj b;refine Ze [(31,_),(53,_)] ?_;subst g;refine p_ (λa ha=>⟨ha,kp⟩)
    ·replace b:=ZF f b;refine q_ (h_ rfl) (by decide) ⟨_,rfl,Zb f⟩ (q_ (h_ rfl) (by decide) ⟨_,rfl,Zb f⟩ ?_);obtain⟨a9,O,b⟩:=a_ b;refine cJ_ (by decide) ⟨_,rfl,Zb f⟩ ?_;refine wf_atZ V O hB rfl rfl wR_ wS_ ?_;intro d1 d2 d3 b0 b1;cases b1
     refine q_ (e_ rfl wT_ (k_ b0)) (by decide) ⟨_,rfl,Zb f⟩ ?_;obtain⟨P,Q,b⟩:=a_ b;refine cJ_ (by decide) ⟨_,rfl,Zb f⟩ ?_;refine o_ (fX_ x a9 P Q) yV_ ⟨rfl,trivial⟩ ?_;rintro d4 b2 ⟨rfl,R⟩;have d5:=R.stp 999 u;refine⟨_,rfl,?_⟩;replace kp:=Keeps.trans kp R;refine q_ (h_ rfl) (by decide) ⟨_,rfl,Zb f⟩ ?_;rcases Bool.eq_false_or_eq_true (P) with m|m
     ·rw[if_pos m] at b;refine q_ (h_ rfl) (by decide) ⟨_,rfl,Zb m⟩ ?_;obtain⟨S,T,b⟩:=a_ b;refine cJ_ (by decide) ⟨_,rfl,Zb m⟩ ?_;refine o_ (fX_ b2 j S T) yV_ ⟨rfl,trivial⟩ ?_;rintro d6 d7 ⟨rfl,U⟩;have d8:=U.stp 999 u;refine⟨_,rfl,?_⟩;replace kp:=Keeps.trans kp U;refine q_ (P_ (Zb m) rfl) (by decide) ⟨_,rfl,Zb f⟩ (q_ (I_ (Zb f) rfl) (by decide) ⟨_,rfl,Zb c⟩ (Zv (P_ (Zb c) rfl) ?_));have g:=Zj b;refine Ze [(31,_),(53,_)] ?_;subst g;refine p_ (λa ha=>⟨ha,kp⟩)
     ·replace b:=ZF m b;refine A_ rfl rfl (by rw[m];rfl) (by decide) ?_;refine A_ rfl rfl (by rw[m];rfl) (by decide) ?_;refine q_ (I_ (Zb m) rfl) (by decide) ⟨_,rfl,Zb f⟩ (q_ (I_ (Zb f) rfl) (by decide) ⟨_,rfl,Zb c⟩ (Zv (P_ (Zb c) rfl) ?_));have g:=Zj b;refine Ze [(31,_),(53,_)] ?_;subst g;refine p_ (λa ha=>⟨ha,kp⟩)
   ·replace b:=ZF c b;refine A_ rfl rfl (by rw[c];rfl) (by decide) ?_;refine A_ rfl rfl (by rw[c];rfl) (by decide) ?_;refine A_ rfl rfl (by rw[c];rfl) (by decide) ?_;refine A_ rfl rfl (by rw[c];rfl) (by decide) ?_;refine A_ rfl rfl (by rw[c];rfl) (by decide) ?_;refine A_ rfl rfl (by rw[c];rfl) (by decide) ?_;refine A_ rfl rfl (by rw[c];rfl) (by decide) ?_;refine aq_ rfl rfl (by decide) ?_;refine aq_ rfl rfl (by decide) ?_;refine aq_ rfl rfl (by decide) ?_;refine aq_ rfl rfl (by decide) ?_;refine aq_ rfl rfl (by decide) ?_;refine aq_ rfl rfl (by decide) ?_;refine aq_ rfl rfl (by decide) ?_;refine aq_ rfl rfl (by decide) ?_;refine aq_ rfl rfl (by decide) ?_;refine A_ rfl rfl (by rw[c];rfl) (by decide) ?_;refine Zv (I_ (Zb c) rfl) ?_;have g:=Zj b;refine Ze [(31,_),(53,_)] ?_;subst g;refine p_ (λa ha=>⟨ha,kp⟩)
  rintro d9 M ⟨ha,b3⟩;have b4:=b3.stp 999 u;replace hB:=hB.stp b4;refine aH_ ha ?_;refine Za rfl (Za rfl (Ze [(4,_),(5,_)] (nx (j_ ?_))));have b5:=Zj hF;subst b5;refine Zr Tryz.results143 [ZI i,.bool C] ?_;exact⟨rfl,hB.keeps⟩
 ·exact λ_ _ h=>h.elim
def U_(j:List (List Int))(k:List Int)(m:((List Int)×(List Int))->Option Int):(Int×Int)->Option (Lp (Int×Int) (Int×Int) (Int×Bool)):=λ(s:Int×Int)=>
  if decide (s.1<s.2) then
    (ck (s.1+s.2))>>=λb=>
    (cvU b)>>=λc=>
    (shr c 1)>>=λd=>
    (cvU d)>>=λa=>
    (ix j a)>>=λf=>
    (m (f,k))>>=λg=>
    if decide (g<0) then
      (ck (a+1))>>=λi=>
      some (.go (i,s.2))
    else
      some (.go (s.1,a))
  else
    some (.out (s.1,s.2))
def ap_(fuel:Nat)(a:List (List Int))(g:List Int)(i:((List Int)×(List Int))->Option Int):Option (Int×Bool):=
  (loopF (U_ a g i) fuel (0,(a.length:Int)))>>=λj=>
  match j with
  | .inl (b,k)=>
    (
      if decide (b<(a.length:Int)) then
        (ix a b)>>=λc=>
        (i (c,g))>>=λd=>
        some (d==0)
      else
        some false)>>=λf=>
    some (b,f)
  | .inr _=>none
def du_(w:World)(r:Int×Bool):Ending->World->Prop:=λe w'=>e=.returned (.tuple #[.int .i64 r.1,.bool r.2])∧Keeps w w'
theorem dt_(fuel:Nat)(w:World)(j:Value)(i:Yk)(S:RdL zt w j i)(g:Value)(D:Yl)(b4:RdL zt w g D)(k:Value)(T:(Yl×Yl)->Option Int)(b5:FnV wQ_ w k T)(r:Int×Bool)(hF:ap_ fuel i D T=some r):
    Calls wQ_ 184 #[j,g,k] w (du_ w r):=by
 unfold ap_ at hF;have hB:Bs (λ_=>1) (col (λ_=>1)) w w:=Bs.start _ _;refine i_ (n:=49) (vs:=[j,g,k]) Tryz.func184 rfl rfl ?_;refine Zq (Za rfl (Za rfl (Ze [(0,_),(1,_),(2,_)] (Zn (Zm rfl (Zv (B_ rfl S wV_) (Za rfl (Ze [(0,_),(1,_),(2,_),(8,_)] (Zn (Zm rfl (Za rfl (Za rfl ?_))))))))))));refine Ze [(0,_),(1,_),(2,_),(8,_),(9,_),(10,_)] (nx ?_);obtain⟨b6,U,hF⟩:=a_ hF;refine kA_ (λa v=>∃(f:Int)(q:Int),∃(s:Tg),b6=.inl (f,q)∧Fr a 49 [(0,j),(1,g),(2,k),(8,ZI (i.length:Int)),(9,ZI f)]∧Bs (λ_=>1) s w v) (λ_ _=>False) ?_ ?_ ?_
 ·refine f_ ?_;refine w_ (λ(K:Nat) a v=>∃(f:Int)(q:Int),∃(s:Tg),loopF (U_ i D T) K (f,q)=some b6∧Fr a 49 [(0,j),(1,g),(2,k),(8,ZI (i.length:Int)),(9,ZI f),(10,ZI q)]∧Bs (λ_=>1) s w v) fuel (λa ha=>⟨0,(i.length:Int),col (λ_=>1),U,ha.sb,hB⟩) ?_;rintro K9 a v ⟨f,q,s,b7,ha,hB⟩;obtain⟨K13,b8,b9,b,y⟩:=X_ b7;dsimp only[U_] at b;refine J_ ha ?_;refine c_ (Zq (Zm rfl (Zm rfl (Zv (r_ rfl rfl) (Ze [(0,_),(1,_),(2,_),(8,_),(9,_),(10,_),(17,_)] (nx ?_))))));refine l_ rfl (λz=>?_) (λz=>?_)
  ·rw[if_pos z] at b;refine g_ (nx (f_ (Zq (Zm rfl (Zm rfl ?_)))));obtain⟨c0,E,b⟩:=a_ b;refine Zv (C_ rfl rfl E) ?_;obtain⟨c1,F,b⟩:=a_ b;refine Zv (qw_ F rfl xy_ xM_) ?_;obtain⟨c2,G,b⟩:=a_ b;refine Zv (tY_ rfl rfl G) ?_;obtain⟨u,H,b⟩:=a_ b;refine Zv (qy_ H rfl xM_ xy_) (Za rfl (Ze [(0,_),(1,_),(2,_),(8,_),(9,_),(10,_),(11,_)] (Zn (Zm rfl (Zm rfl (Zm rfl ?_))))));obtain⟨V,I,b⟩:=a_ b;refine Zo ?_;refine wf_atZ S I hB rfl rfl wV_ wY_ ?_;intro c3 c4 c5 W X;obtain⟨J,rfl,Y⟩:=X;refine Zv (e_ rfl xa_ (k_ W)) (Zm rfl ?_);obtain⟨Z,L,b⟩:=a_ b;refine Zo ?_;refine ge_ (x:=(V,D)) (vs:=[J,g]) (b5.keep hB.keeps) L ⟨[J],[g],rfl,⟨_,rfl,Y.keep hB.keeps⟩,⟨_,rfl,b4.keep hB.keeps⟩⟩ rfl ⟨rfl,rfl,trivial⟩ ?_;intro c6 a0;have a1:=a0.stp 999 s;replace hB:=hB.stp a1;refine Zv (r_ rfl rfl) (Ze [(0,_),(1,_),(2,_),(8,_),(9,_),(10,_),(11,_),(31,_)] (nx ?_));refine l_ rfl (λA=>?_) (λA=>?_)
   ·rw[if_pos A] at b;refine d_ (Zm rfl ?_);obtain⟨B,M,b⟩:=a_ b;refine Zv (C_ rfl rfl M) (Za rfl (Ze [(0,_),(1,_),(2,_),(8,_),(9,_),(10,_)] (x_ (u_ ?_))));have a2:=Zj b;subst a2;refine Zk [(0,_),(1,_),(2,_),(8,_),(9,_),(10,_)] ?_;intro a ha;exact⟨K13,by omega,B,q,s,y,ha,hB⟩
   ·replace b:=ZF A b;refine d_ (Zm rfl (Za rfl (Ze [(0,_),(1,_),(2,_),(8,_),(9,_),(10,_)] (x_ (u_ ?_)))));have a3:=Zj b;subst a3;refine Zk [(0,_),(1,_),(2,_),(8,_),(9,_),(10,_)] ?_;intro a ha;exact⟨K13,by omega,f,u,s,y,ha,hB⟩
  ·replace b:=ZF z b;refine s_ ?_;refine n_ (n_ (N_ ?_));refine p_ ?_;have a4:=Zj b;subst a4;refine Zk [(0,_),(1,_),(2,_),(8,_),(9,_)] ?_;intro a ha;exact⟨f,q,s,y,ha,hB⟩
 ·rintro a v ⟨f,q,s,rfl,ha,hB⟩;dsimp only at hF;refine J_ ha ?_;refine Zq (Zm rfl (Zm rfl (Zm rfl (Zv (r_ rfl rfl) (Zm rfl ?_)))));obtain⟨C,d,hF⟩:=a_ hF;refine bc_ 9 (λa5 N=>Fr a5 49 [(35,ZI f),(48,.bool C)]∧Keeps v N) ?_ ?_;all_goals simp only[List.take_succ_cons,List.take_zero,List.drop_succ_cons,List.drop_zero]
  ·have kp:Keeps v v:=Keeps.refl _;rcases Bool.eq_false_or_eq_true (decide (f<(i.length:Int))) with c|c
   ·rw[if_pos c] at d;refine q_ (h_ rfl) (by decide) ⟨_,rfl,Zb c⟩ (q_ (h_ rfl) (by decide) ⟨_,rfl,Zb c⟩ (q_ (h_ rfl) (by decide) ⟨_,rfl,Zb c⟩ ?_));obtain⟨a6,O,d⟩:=a_ d;refine cJ_ (by decide) ⟨_,rfl,Zb c⟩ ?_;refine wf_atZ S O hB rfl rfl wV_ wY_ ?_;intro c7 c8 c9 a7 a8;obtain⟨P,rfl,a9⟩:=a8;refine q_ (e_ rfl xa_ (k_ a7)) (by decide) ⟨_,rfl,Zb c⟩ (q_ (h_ rfl) (by decide) ⟨_,rfl,Zb c⟩ ?_);obtain⟨b0,Q,d⟩:=a_ d;refine cJ_ (by decide) ⟨_,rfl,Zb c⟩ ?_;refine ge_ (x:=(a6,D)) (vs:=[P,g]) (b5.keep hB.keeps) Q ⟨[P],[g],rfl,⟨_,rfl,a9.keep hB.keeps⟩,⟨_,rfl,b4.keep hB.keeps⟩⟩ rfl ⟨rfl,rfl,trivial⟩ ?_;intro d0 R;have d1:=R.stp 999 s;replace kp:=Keeps.trans kp R;refine q_ (cD_ rfl rfl) (by decide) ⟨_,rfl,Zb c⟩ (Zv (P_ (Zb c) rfl) ?_);have m:=Zj d;refine Ze [(35,_),(48,_)] ?_;subst m;refine p_ (λa ha=>⟨ha,kp⟩)
   ·replace d:=ZF c d;refine A_ rfl rfl (by rw[c];rfl) (by decide) ?_;refine A_ rfl rfl (by rw[c];rfl) (by decide) ?_;refine A_ rfl rfl (by rw[c];rfl) (by decide) ?_;refine A_ rfl rfl (by rw[c];rfl) (by decide) ?_;refine A_ rfl rfl (by rw[c];rfl) (by decide) ?_;refine A_ rfl rfl (by rw[c];rfl) (by decide) ?_;refine A_ rfl rfl (by rw[c];rfl) (by decide) ?_;refine A_ rfl rfl (by rw[c];rfl) (by decide) ?_;refine Zv (I_ (Zb c) rfl) ?_;have m:=Zj d;refine Ze [(35,_),(48,_)] ?_;subst m;refine p_ (λa ha=>⟨ha,kp⟩)
  rintro d2 N ⟨ha,b1⟩;have b2:=b1.stp 999 s;replace hB:=hB.stp b2;refine aH_ ha ?_;refine Za rfl (Za rfl (Ze [(6,_),(7,_)] (nx (j_ ?_))));have b3:=Zj hF;subst b3;refine Zr Tryz.results184 [ZI f,.bool C] ?_;exact⟨rfl,hB.keeps⟩
 ·exact λ_ _ h=>h.elim
def bn_(fuel:Nat)(d:List (List Int))(f:List Int):Option Bool:=
  (srtO f)>>=λb=>
  (ap_ fuel d b (λ(a:(List Int)×(List Int))=>Q_ a.1 a.2))>>=λc=>
  some c.2
def iL_(w:World)(r:Bool):Ending->World->Prop:=λe w'=>e=.returned (.bool r)∧Keeps w w'
theorem ea_(fuel:Nat)(w:World)(j:Value)(m:Yk)(H:RdL zt w j m)(d:Value)(k:Yl)(F:RdL zt w d k)(r:Bool)(hF:bn_ fuel m k=some r):
    Calls wQ_ 162 #[j,d] w (iL_ w r):=by
 unfold bn_ at hF;have hB:Bs (λ_=>1) (col (λ_=>1)) w w:=Bs.start _ _;refine i_ (n:=16) (vs:=[j,d]) Tryz.func162 rfl rfl ?_;refine Zq (Za rfl (Ze [(0,_),(1,_)] (Zn (Zm rfl (Zm rfl (Zo ?_))))));refine o_ (sv_ w (col (λ_=>1)) d k (F.keep hB.keeps)) Tryz.call186 ⟨rfl,trivial⟩ ?_;rintro X I ⟨J,K,rfl,L,M,N⟩;have O:=M.stp' 999 N;refine⟨_,rfl,?_⟩;replace hB:=hB.stp O;obtain⟨f,g,hF⟩:=a_ hF;refine Zo ?_;refine o_ (tf_ I K 11 J d _ L k (F.keep hB.keeps) f g) Tryz.call185 ⟨rfl,trivial⟩ ?_;rintro P G ⟨Q,q,rfl,c,s,u⟩;have v:=s.stp' 11 u;replace c:=c.mono hB.keeps.size;refine⟨_,rfl,?_⟩;replace hB:=hB.stp v;obtain⟨b,i,hF⟩:=a_ hF;refine Zo ?_;refine o_ (dt_ fuel G _ m (H.keep hB.keeps) _ f c.z _ (λ(a:Yl×Yl)=>Q_ a.1 a.2) (show FnV wQ_ G (.func (.func 95) #[] #[]) (λ(a:Yl×Yl)=>Q_ a.1 a.2) from ⟨_,_,rfl,Tryz.call95,λww vs xx rr kk hok hG=>by(obtain⟨R,S,rfl,x,y⟩:=hok;obtain⟨T,rfl,A⟩:=x;obtain⟨U,rfl,B⟩:=y;exact cX_slices_Compare_int_int ww _ xx.1 A _ xx.2 B rr hG)⟩) b i) Tryz.call184 ⟨rfl,rfl,rfl,trivial⟩ ?_;rintro V W ⟨rfl,C⟩;have D:=C.stp 999 q;refine⟨_,rfl,?_⟩;replace hB:=hB.stp D;refine Zm rfl (Zv (t_ rfl rfl) (Zv (t_ rfl rfl) (Za rfl (Za rfl (Ze [(6,_)] (Zn (Zm rfl (Za rfl (Ze [(4,_)] (nx (j_ ?_)))))))))));have E:=Zj hF;subst E;refine Zr Tryz.results162 [.bool b.2] ?_;exact⟨rfl,hB.keeps⟩
end
end Go.Proofs.YtdbbeldgdgonfaaGreat
