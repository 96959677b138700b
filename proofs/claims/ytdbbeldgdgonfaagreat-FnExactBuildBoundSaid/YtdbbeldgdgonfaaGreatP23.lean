/- Part 23 of what this claim rests on (pack.py). -/
import Derived.BigQuiet
import Derived.Outline
import Derived.OpenShut
import Derived.ShutString
import Derived.ChangeOld
import Derived.Test.YtdbbeldgdgonfaaGreatP22
namespace Go.Proofs.YtdbbeldgdgonfaaGreat
open Tryz renaming prog→wQ_, underlying22→wV_, sizeOf41→wY_, underlying28→wW_, sizeOf22→wZ_, isAgg22→xb_, call77→zZ_, isAgg28→wX_, sizeOf28→wU_
set_option linter.unusedSimpArgs false
set_option linter.unusedVariables false
section
open Go.RowKit
def iota(k:Int)(n:Nat):List Int:=(List.range n).map λi:Nat=>k+(i:Int)
theorem hf_(k:Int)(n:Nat):(iota k n).length=n:=by simp[iota]
theorem ua_(k:Int)(n:Nat):iota k (n+1)=iota k n++[k+n]:=by simp[iota,List.range_succ]
theorem uu_(p q:List Int)(x y:Int):((p++x::q).map (Value.int .i64)).set p.length (.int .i64 y)=(p++y::q).map (Value.int .i64):=by
 simp[List.set_append]
theorem Own.form{B:Nat}{w:World}{v:Value}{l:List Int}(h:Own B w v l)(a:0<l.length):
  ∃g cap,v=.slice (some ⟨g,0,none⟩) l.length cap∧∀i,i<l.length->w.cell? ⟨g,i,none⟩=some (.int .i64 (l.getD i 0))∧w.frozen? ⟨g,i,none⟩=false:=by
 obtain⟨g,cap,rfl,_,_⟩:=World.ownsRow.form h a;refine⟨g,cap,rfl,λi hi=>⟨?_,World.ownsRow.frozenAt h i⟩⟩;rw[World.ownsRow.cellAt h i (by omega)];simp[hi]
theorem Own.set{B:Nat}{w:World}{g cap n:Nat}{p q:List Int}{x y:Int}(h:Own B w (.slice (some ⟨g,0,none⟩) n cap) (p++x::q))(j:Nat)(f:j=p.length):
  Own B (w.setCell ⟨g,j,none⟩ (.int .i64 y)) (.slice (some ⟨g,0,none⟩) n cap) (p++y::q)∧w.grownBy (w.setCell ⟨g,j,none⟩ (.int .i64 y)) (some g):=by
 subst f;have d:n=(p++x::q).length:=by
  obtain⟨a,c,b,_⟩:=h.len;simp at b;simp[b]
 subst d;obtain⟨b,e⟩:=World.ownsRow.stored h p.length (.int .i64 y);rw[uu_] at b;refine⟨?_,e⟩;unfold Own;simpa using b
theorem oH_(l:List Int)(j:Nat)(h:j<l.length):l.drop j=l.getD j 0::l.drop (j+1):=by
 rw[List.drop_eq_getElem_cons h];simp[h]
theorem lZ_{l:List Int}{k:Nat}(h:k<l.length):l.take (k+1)=l.take k++[l.getD k 0]:=by
 rw[List.take_succ_eq_append_getElem h];simp[h]
set_option maxHeartbeats 400000 in
theorem oV_(B:Nat)(v:Value)(l:List Int)(k:Int)(w:World)(h:Own B w v l)(hk:0<=k)(hk2:k+l.length<=4611686018427387904):
  Calls wQ_ 26 #[v,.int .i64 k] w λe w'=>e=.returned (.int .i64 (k+l.length))∧Own B w' v (iota k l.length)∧w.grownBy w' v.ownBlock:=by
 obtain⟨a,c,rfl,hm⟩:=h.len;have H:=Lib.hid h;clear h;go_enter Tryz.func26,Tryz.ntmps26;go_wp2;go_loopw [1,5] (λx i wr=>∃j:Nat,j<=l.length∧i=.int .i64 j∧x=.int .i64 (k+j)∧Own B wr (.slice a l.length c) (iota k j++l.drop j)∧w.grownBy wr (Value.slice a l.length c).ownBlock) (λ_ i _=>l.length-(intOf i).toNat);case atStart=>exact⟨0,Nat.zero_le _,rfl,by simp,by simpa [iota] using H.out,rJ_ _ _⟩
 case round=>
  obtain⟨j,hj,rfl,rfl,hown,hgr⟩:=hrel;have HO:=Lib.hid hown;have HG:=Lib.hid hgr;clear hown hgr;by_cases hlt:j<l.length
  ·obtain⟨g,cap,hv,hc⟩:=HO.out.form (by simp;omega);simp only[Value.slice.injEq] at hv;obtain⟨rfl,-,rfl⟩:=hv;obtain⟨hc1,hc2⟩:=hc j (by simp[hf_];omega);have hc1':∃u,wr.cell? ⟨g,j,none⟩=some u:=⟨_,hc1⟩;clear hc hc1;obtain⟨u,hc1⟩:=hc1';go_wp2;go_roundw;case rel=>
    have h5:=HO.out;rw[oH_ l j hlt] at h5;obtain⟨h6,h7⟩:=Own.set (y:=k+j) h5 j (by simp[hf_]);exact⟨j+1,by omega,by go_num,by congr 1;omega,by simpa [ua_] using h6,qh_ HG.out h7⟩
   case measure=>simp[intOf];omega
  ·go_wp2;go_ret;have he:j=l.length:=by omega
   subst he;refine⟨rfl,?_,HG.out⟩;simpa using HO.out
theorem mJ_(n:Nat):(madeCells (Value.int .i64 0).cells (n*1)).toList=(List.replicate n (0:Int)).map (Value.int .i64):=by
 simp[Value.cells,toList_madeCells_one]
set_option maxHeartbeats 400000 in
theorem rG_(v:Value)(l:List Int)(w:World)(h:Ints w v l)(hl:l.length<=1048576):
  Calls wQ_ 67 #[v] w λe w'=>∃r,e=.returned r∧Own w.heap.size w' r l∧Keeps w w':=by
 obtain⟨a,c,rfl,hm,hf⟩:=h.form;have HF:=Lib.hid hf;clear h hf;obtain⟨i0,hi,hz0,hz1,hz2⟩:=info_parts vc_;have HI:=Lib.hid hi;have HZ0:=Lib.hid hz0;have HZ1:=Lib.hid hz1;have HZ2:=Lib.hid hz2;clear hi hz0 hz1 hz2;go_enter Tryz.func67,Tryz.ntmps67;go_wp2_with (at_make;refine wpList_make_full _ rfl _ _ 41 rfl w.heap.size 3 i0 (.int .i64 0) 1 Tryz.underlying41 HI.out HZ0.out HZ1.out .i64 .i64 _ _ l.length rfl rfl rfl rfl (by rw[HZ2.out];omega) (by unfold maxLen;omega) (Nat.le_refl _) ?_;intro w1 hown hgr);rw[mJ_] at hown;have H1:Hid (Own w.heap.size w1 (.slice (some ⟨w.heap.size,0,none⟩) l.length l.length) (List.replicate l.length 0)):=by show Own _ _ _ _;unfold Own;simpa using hown
 have H2:Hid (Below w.heap.size w w1):=(Below.refl _ _).grown hgr (Nat.le_refl _) (by simp);clear hown hgr;go_wp2;go_loopw [4] (λi wr=>∃j:Nat,j<=l.length∧i=.int .i64 j∧Own w.heap.size wr (.slice (some ⟨w.heap.size,0,none⟩) l.length l.length) (l.take j++List.replicate (l.length-j) 0)∧Keeps w wr) (λi _=>l.length-(intOf i).toNat);case atStart=>exact⟨0,Nat.zero_le _,rfl,by simpa using H1.out,H2.out⟩
 case round=>
  obtain⟨j,hj,rfl,hown,hgr⟩:=hrel;have HO:=Lib.hid hown;have HG:=Lib.hid hgr;clear hown hgr H1 H2;by_cases hlt:j<l.length
  ·obtain⟨b,o,rfl,hc⟩:=HF.out j hlt;have hcr:wr.cell? ⟨b,o+j,none⟩=some (.int .i64 (l.getD j 0)):=by rw[Below.cell HG.out (World.block_lt_of_cell? w _ hc)];exact hc
   obtain⟨g,cap,hv,hc2⟩:=HO.out.form (by simp;omega);simp only[Value.slice.injEq,Option.some.injEq,Addr.mk.injEq] at hv;obtain⟨⟨rfl,-⟩,-,rfl⟩:=hv;obtain⟨hc3,hc4⟩:=hc2 j (by simp;omega);have hc3':∃u,wr.cell? ⟨w.heap.size,j,none⟩=some u:=⟨_,hc3⟩;clear hc2 hc3 hc;obtain⟨u,hc3⟩:=hc3';generalize hx:l.getD j 0=x at hcr;have Hx:=Lib.hid hx;clear hx;go_wp2;go_roundw;case rel=>
    have h5:=HO.out;obtain⟨q,hq⟩:∃q,l.length-j=q+1:=⟨l.length-j-1,by omega⟩;rw[hq,List.replicate_succ] at h5;obtain⟨h6,h7⟩:=Own.set (y:=x) h5 j (by simp;omega);refine⟨j+1,by omega,by go_num,?_,HG.out.setCell (Nat.le_refl _) _⟩;rw[lZ_ hlt,Hx.out,show l.length-(j+1)=q by omega];simpa using h6
   case measure=>simp[intOf];omega
  ·go_wp2;go_ret;have he:j=l.length:=by omega
   subst he;refine⟨_,rfl,by simpa using HO.out,HG.out⟩
end
section
open Go.RowKit
def IntRows(w:World)(v:Value)(LL:List (List Int)):Prop:=∃vs:List Value,Sl w v vs∧vs.length=LL.length∧∀i,i<vs.length->Ints w (vs.getD i undef) (LL.getD i [])
theorem IntRows.keep{w w':World}{v:Value}{LL:List (List Int)}(h:IntRows w v LL)(k:Keeps w w'):IntRows w' v LL:=by
 obtain⟨vs,b,a,d⟩:=h;exact⟨vs,b.keep k,a,λi hi=>(d i hi).keep k⟩
theorem IntRows.form{w:World}{v:Value}{LL:List (List Int)}(h:IntRows w v LL):
  ∃a c,v=.slice a LL.length c∧LL.length<=9223372036854775807∧
   ∀i,i<LL.length->∃b o u,a=some ⟨b,o,none⟩∧w.cell? ⟨b,o+i,none⟩=some u∧Ints w u (LL.getD i []):=by
 obtain⟨vs,k,d,f⟩:=h;obtain⟨a,c,rfl,e,j⟩:=k.form;rw[d] at e;refine⟨a,c,by rw[d],e,λi hi=>?_⟩;obtain⟨b,o,rfl,g⟩:=j i (by omega);exact⟨b,o,_,rfl,g,f i (by omega)⟩
theorem sB_:(wQ_.info? 41).map (λi=>(i.zero,i.size,i.bytes))=some (some (.slice none 0 0),1,24):=by kernel_rfl
theorem jq_{e f:TypeId}{B C s q n m:Nat}{w:World}{v u:Value}{xs o:List Value}(b:e≠f)(h:w.ownsRow B e s v n xs)(k:w.ownsRow C f q u m o):Apart v u:=by
 unfold Apart;rcases h.2 with⟨rfl,_⟩|⟨g,cap,p,rfl,_,j,_⟩
 ·exact .inl rfl
 ·rcases k.2 with⟨rfl,_⟩|⟨t,i,d,rfl,_,a,_⟩
  ·exact .inr (by simp[Value.ownBlock])
  ·refine .inr λe=>?_;have:g=t:=by simpa [Value.ownBlock] using e
   subst this;rw[j] at a;simp at a;exact b a.2
theorem Own.sl{B:Nat}{w:World}{v:Value}{l:List Int}(h:Own B w v l):∃a n c,v=.slice a n c:=by
 obtain⟨a,c,b,_⟩:=h.len;exact⟨a,_,c,b⟩
structure MatIn (B:Nat) (w:World) (v:Value) (vs:List Value) (LL:List (List Int)):Prop where
  row:w.ownsRow B 41 1 v LL.length vs
  own:∀i,i<LL.length->Own B w (vs.getD i undef) (LL.getD i [])
  apart:∀i j,i<LL.length->j<LL.length->i≠j->Apart (vs.getD i undef) (vs.getD j undef)
section
variable {B:Nat} {w w':World} {v:Value} {vs:List Value} {LL:List (List Int)}
theorem MatIn.len(h:MatIn B w v vs LL):vs.length=LL.length:=by simpa using h.row.1
theorem MatIn.keep(h:MatIn B w v vs LL)(k:Keeps w w'):MatIn B w' v vs LL:=⟨kF_ h.row k,λi hi=>(h.own i hi).keep k,h.apart⟩
theorem MatIn.rows(h:MatIn B w v vs LL):IntRows w v LL:=by
 have a:=h.len;refine⟨vs,tN_ (B:=B) (e:=41) (by rw[a];exact h.row),a,λi hi=>(h.own i (by omega)).ints⟩
theorem MatIn.form(h:MatIn B w v vs LL)(a:0<LL.length):
  ∃g cap,v=.slice (some ⟨g,0,none⟩) LL.length cap∧∀i,i<LL.length->w.cell? ⟨g,i,none⟩=some (vs.getD i undef)∧w.frozen? ⟨g,i,none⟩=false:=by
 obtain⟨g,cap,rfl,_,_⟩:=World.ownsRow.form h.row a;refine⟨g,cap,rfl,λi hi=>⟨?_,World.ownsRow.frozenAt h.row i⟩⟩;rw[World.ownsRow.cellAt h.row i (by omega)];have:=h.len;simp[show i<vs.length by omega]
end
theorem eL_{α:Type}(l:List α)(i:Nat)(x d:α)(h:i<l.length):(l.set i x).getD i d=x:=by simp[h]
theorem getD_set_ne{α:Type}(l:List α)(i j:Nat)(x d:α)(h:j≠i):(l.set i x).getD j d=l.getD j d:=by
 simp[List.getElem?_set,Ne.symm h]
theorem MatIn.made{B:Nat}{w:World}{v:Value}{n:Nat}(h:w.ownsRow B 41 1 v n (List.replicate n (.slice none 0 0))):MatIn B w v (List.replicate n (.slice none 0 0)) (List.replicate n []):=by
 refine⟨by simpa using h,λi hi=>?_,λi j hi a _=>?_⟩
 ·simp only[List.length_replicate] at hi;simp[List.getD_eq_getElem?_getD,List.getElem?_replicate,hi];exact Own.nil _ _
 ·simp only[List.length_replicate] at hi;left;simp[List.getD_eq_getElem?_getD,List.getElem?_replicate,hi,Value.ownBlock]
theorem kd_(n:Nat):(madeCells (Value.slice none 0 0).cells (n*1)).toList=List.replicate n (.slice none 0 0):=by
 simp[Value.cells,toList_madeCells_one]
end
section
open Go.RowKit
structure Chg (B C:Nat) (w w':World):Prop where
  os:w'.os=w.os
  tape:w'.tape=w.tape
  output:w'.output=w.output
  size:w.heap.size<=w'.heap.size
  block:∀k,k<w.heap.size->¬(B<=k∧k<C)->w'.heap[k]? =w.heap[k]?
section
variable {B C B' C':Nat} {w w' w'':World}
theorem Chg.trans(h:Chg B C w w')(k:Chg B C w' w''):Chg B C w w'':=
 ⟨k.os.trans h.os,k.tape.trans h.tape,k.output.trans h.output,Nat.le_trans h.size k.size,λi hi a=>(k.block i (Nat.lt_of_lt_of_le hi h.size) a).trans (h.block i hi a)⟩
theorem Chg.keeps{w0:World}(h:Chg B C w w')(k:Keeps w0 w)(a:w0.heap.size<=B):Keeps w0 w':=
 ⟨h.os.trans k.os,h.tape.trans k.tape,h.output.trans k.output,Nat.le_trans k.size h.size,λi hi=>(h.block i (Nat.lt_of_lt_of_le hi k.size) (by omega)).trans (k.block i hi)⟩
theorem mL_{D:Nat}{e:TypeId}{size:Nat}{v:Value}{n:Nat}{xs:List Value}(h:w.ownsRow D e size v n xs)(c:Chg B C w w')(j:∀k,v.ownBlock=some k->¬(B<=k∧k<C)):w'.ownsRow D e size v n xs:=by
 obtain⟨i,a⟩:=h;refine⟨i,?_⟩;rcases a with a|⟨g,cap,b,rfl,f,d,r⟩
 ·exact .inl a
 ·exact .inr ⟨g,cap,b,rfl,f,by rw[c.block g (Array.getElem?_eq_some_iff.1 d).1 (j g rfl)];exact d,r⟩
end
structure OwI (B C:Nat) (w:World) (v:Value) (l:List Int):Prop where
  own:Own B w v l
  hi:∀k,v.ownBlock=some k->k<C
def OwM(B C:Nat)(w:World)(v:Value)(LL:List (List Int)):Prop:=
  ∃vs,MatIn B w v vs LL∧(∀k,v.ownBlock=some k->k<C)∧∀i,i<LL.length->∀k,(vs.getD i undef).ownBlock=some k->k<C
section
variable {B C B' C':Nat} {w w' w'':World} {v:Value} {l:List Int} {LL:List (List Int)} {vs:List Value}
theorem OwI.chg(h:OwI B C w v l)(c:Chg B' C' w w')(b:C<=B'∨C'<=B):OwI B C w' v l:=
 ⟨mL_ h.own c λk a=>by have:=h.hi k a;have:=(h.own.lt k a).1;omega,h.hi⟩
theorem MatIn.owM(h:MatIn B w v vs LL):OwM B w.heap.size w v LL:=
 ⟨vs,h,λk a=>(World.ownsRow.lt h.row k a).2,λi hi k a=>((h.own i hi).lt k a).2⟩
theorem OwM.rows(h:OwM B C w v LL):IntRows w v LL:=by obtain⟨vs,h,_⟩:=h;exact h.rows
theorem OwM.keep(h:OwM B C w v LL)(k:Keeps w w'):OwM B C w' v LL:=by obtain⟨vs,h,b,a⟩:=h;exact⟨vs,h.keep k,b,a⟩
theorem OwM.mono(h:OwM B C w v LL)(b:B'<=B)(d:C<=C'):OwM B' C' w v LL:=by
 obtain⟨vs,h,f,e⟩:=h;exact⟨vs,⟨World.ownsRow.mono h.row b,λi hi=>(h.own i hi).mono b,h.apart⟩,λk a=>Nat.lt_of_lt_of_le (f k a) d,λi hi k a=>Nat.lt_of_lt_of_le (e i hi k a) d⟩
theorem OwM.chg(h:OwM B C w v LL)(c:Chg B' C' w w')(e:C<=B'∨C'<=B):OwM B C w' v LL:=by
 obtain⟨vs,h,d,b⟩:=h;refine⟨vs,⟨mL_ h.row c λk a=>?_,λi hi=>mL_ (h.own i hi) c λk a=>?_,h.apart⟩,d,b⟩
 ·have:=d k a;have:=(World.ownsRow.lt h.row k a).1;omega
 ·have:=b i hi k a;have:=((h.own i hi).lt k a).1;omega
end
theorem MatIn.set_{B:Nat}{w:World}{g n cap:Nat}{vs:List Value}{LL:List (List Int)}{i:Nat}{l:List Int}{r:Value}(h:MatIn B w (.slice (some ⟨g,0,none⟩) n cap) vs LL)(hi:i<LL.length)
  (y:Own B w r l) (q:∀j,j<LL.length->j≠i->Apart r (vs.getD j undef)):
  MatIn B (w.setCell ⟨g,i,none⟩ r) (.slice (some ⟨g,0,none⟩) n cap) (vs.set i r) (LL.set i l):=by
 have D:=h.len;have t:(41:TypeId)≠3:=by decide
 have d:=h.row;obtain⟨E,F,o,_⟩:=World.ownsRow.form d (by omega);simp only[Value.slice.injEq,Option.some.injEq,Addr.mk.injEq,and_true,true_and] at o;obtain⟨rfl,A,rfl⟩:=o;subst A;obtain⟨x,s⟩:=World.ownsRow.stored d i r;have k:∀{u:Value}{l:List Int},Own B w u l->Own B (w.setCell ⟨g,i,none⟩ r) u l:=λ{u l} p=>
  World.ownsRow.kept p s (jq_ t.symm p d)
 refine⟨by simpa using x,λj e=>?_,λj k' e m b=>?_⟩
 ·simp only[List.length_set] at e;by_cases a:j=i
  ·subst a;rw[eL_ _ _ _ _ (by omega),eL_ _ _ _ _ hi];exact k y
  ·rw[getD_set_ne _ _ _ _ _ a,getD_set_ne _ _ _ _ _ a];exact k (h.own j e)
 ·simp only[List.length_set] at e m;by_cases a:j=i
  ·subst a;rw[eL_ _ _ _ _ (by omega),getD_set_ne _ _ _ _ _ (Ne.symm b)];exact q k' m (Ne.symm b)
  ·rw[getD_set_ne _ _ _ _ _ a];by_cases f:k'=i
   ·subst f;rw[eL_ _ _ _ _ (by omega)];exact(q j e a).symm
   ·rw[getD_set_ne _ _ _ _ _ f];exact h.apart j k' e m b
theorem MatIn.wrote{B:Nat}{w w':World}{v:Value}{vs:List Value}{LL:List (List Int)}{i:Nat}{l:List Int}(h:MatIn B w v vs LL)(hi:i<LL.length)(e:w.grownBy w' (vs.getD i undef).ownBlock)(g:Own B w' (vs.getD i undef) l):
  MatIn B w' v vs (LL.set i l):=by
 have f:(41:TypeId)≠3:=by decide
 refine⟨by rw[List.length_set];exact World.ownsRow.kept h.row e (jq_ f h.row (h.own i hi)),λj b=>?_,λj k b m d=>h.apart j k (by simpa using b) (by simpa using m) d⟩;simp only[List.length_set] at b;by_cases a:j=i
 ·subst a;rw[eL_ _ _ _ _ hi];exact g
 ·rw[getD_set_ne _ _ _ _ _ a];exact(h.own j b).kept e (h.apart j i b hi a)
theorem hQ_{α:Type}(LL:List α)(d:α)(j:Nat)(a:j<LL.length):(LL.take j++List.replicate (LL.length-j) d).set j (LL.getD j d)=LL.take (j+1)++List.replicate (LL.length-(j+1)) d:=by
 have e:(LL.take j).length=j:=by simp;omega
 obtain⟨q,b⟩:∃q,LL.length-j=q+1:=⟨LL.length-j-1,by omega⟩;rw[b,List.replicate_succ,List.set_append_right _ _ (by omega),e,Nat.sub_self,List.set_cons_zero,show LL.length-(j+1)=q by omega,List.take_succ_eq_append_getElem a,List.append_assoc,List.getD_eq_getElem?_getD,List.getElem?_eq_getElem a];rfl
def off(LL:List (List Int))(i:Nat):Nat:=((LL.take i).map List.length).sum
def tot(LL:List (List Int)):Nat:=LL.length+off LL LL.length
theorem iu_(LL:List (List Int))(i:Nat)(h:i<LL.length):off LL (i+1)=off LL i+(LL.getD i []).length:=by
 unfold off;rw[List.take_succ_eq_append_getElem h,List.getD_eq_getElem?_getD,List.getElem?_eq_getElem h];simp only[List.map_append,List.sum_append,List.map_cons,List.map_nil,List.sum_cons,List.sum_nil,Option.getD_some,Nat.add_zero]
theorem qR_(LL:List (List Int)):∀(j i:Nat),i<=j->j<=LL.length->off LL i<=off LL j
 |0,i,h,_=>by rw[show i=0 by omega];exact Nat.le_refl _
 |j+1,i,h,a=>by
  by_cases e:i=j+1
  ·rw[e];exact Nat.le_refl _
  ·have:=qR_ LL j i (by omega) (by omega);rw[iu_ LL j (by omega)];omega
theorem mk_(LL:List (List Int))(i:Nat)(h:i<=LL.length):off LL i<=tot LL:=by
 have:=qR_ LL LL.length i h (Nat.le_refl _);unfold tot;omega
theorem sM_(LL:List (List Int))(i:Nat)(h:i<LL.length):(LL.getD i []).length<=tot LL:=by
 have:=mk_ LL (i+1) (by omega);rw[iu_ LL i h] at this;omega
def szL(left:Int)(n:Nat):Int:=if(n:Int)<=left then left-n else -1
theorem wi_{k:IntKind}{a b:Int}(h:a=b):Ending.returned (.int k a)=.returned (.int k b):=by rw[h]
set_option maxHeartbeats 800000 in
theorem kQ_(v:Value)(LL:List (List Int))(w:World)(h:IntRows w v LL)(hl:tot LL<=1048576):
  Calls wQ_ 42 #[v] w λe w'=>∃r,e=.returned r∧OwM w.heap.size w'.heap.size w' r LL∧Keeps w w':=by
 obtain⟨a,c,rfl,hm,hf⟩:=h.form;have HF:=Lib.hid hf;clear h hf;have hlen:LL.length<=1048576:=by unfold tot at hl;omega
 have HR:=Lib.hid (sM_ LL);obtain⟨i0,hi,hz0,hz1,hz2⟩:=info_parts sB_;have HI:=Lib.hid hi;have HZ0:=Lib.hid hz0;have HZ1:=Lib.hid hz1;have HZ2:=Lib.hid hz2;clear hi hz0 hz1 hz2;go_enter Tryz.func42,Tryz.ntmps42;go_wp2_with (at_make;refine wpList_make_full _ rfl _ _ 22 rfl w.heap.size 41 i0 (.slice none 0 0) 1 wV_ HI.out HZ0.out HZ1.out .i64 .i64 _ _ LL.length rfl rfl rfl rfl (by rw[HZ2.out];omega) (by unfold maxLen;omega) (Nat.le_refl _) ?_;intro w1 hown hgr);rw[kd_] at hown;have H1:Hid (MatIn w.heap.size w1 (.slice (some ⟨w.heap.size,0,none⟩) LL.length LL.length) (List.replicate LL.length (.slice none 0 0)) (List.replicate LL.length [])):=MatIn.made hown;have H2:Hid (Below w.heap.size w w1):=(Below.refl _ _).grown hgr (Nat.le_refl _) (by simp);clear hown hgr HI HZ0 HZ1 HZ2;go_wp2;go_loopw [4] (λi wr=>∃(j:Nat)(vs:List Value),j<=LL.length∧i=.int .i64 j∧MatIn w.heap.size wr (.slice (some ⟨w.heap.size,0,none⟩) LL.length LL.length) vs (LL.take j++List.replicate (LL.length-j) [])∧Keeps w wr) (λi _=>LL.length-(intOf i).toNat);case atStart=>exact⟨0,_,Nat.zero_le _,rfl,by simpa using H1.out,H2.out⟩
 case round=>
  obtain⟨j,vs,hj,rfl,hM,hK⟩:=hrel;have HM:=Lib.hid hM;have HK:=Lib.hid hK;clear hM hK H1 H2;by_cases hlt:j<LL.length
  ·obtain⟨b,o,u,rfl,hc0,hu0⟩:=HF.out j hlt;have hc:=z_ HK.out hc0;have HU:=Lib.hid (hu0.keep HK.out);have hrl:=HR.out j hlt;clear hc0 hu0;go_wp2_with fail;refine (rG_ _ _ _ HU.out (by omega)).mono ?_;rintro e w2 ⟨r,rfl,hO,hK2⟩;have hM2:=HM.out.keep hK2;have hjl:j<(LL.take j++List.replicate (LL.length-j) ([]:List Int)).length:=by simp;omega
   obtain⟨g,cap,hv,hcell⟩:=hM2.form (by omega);simp only[Value.slice.injEq,Option.some.injEq,Addr.mk.injEq] at hv;obtain⟨⟨rfl,-⟩,-,rfl⟩:=hv;obtain⟨c1,c2⟩:=hcell j hjl;have c1':∃u,w2.cell? ⟨w.heap.size,j,none⟩=some u:=⟨_,c1⟩;clear c1 hcell;obtain⟨u',c1⟩:=c1';have HN:=Lib.hid (hM2.set_ hjl (hO.mono HK.out.size) (λi hi _=>(Own.apart_old (HM.out.own i hi) hO (Nat.le_refl _)).symm));have HKN:Hid (Keeps w (w2.setCell ⟨w.heap.size,j,none⟩ r)):=(Keeps.trans HK.out hK2).setCell (Nat.le_refl _) _;obtain⟨ra,rn,rc,rfl⟩:=hO.sl;clear hM2 hO hK2 HU;go_wp2;go_roundw;case rel=>
    refine⟨j+1,vs.set j (.slice ra rn rc),by omega,by go_num,?_,HKN.out⟩;have h5:=HN.out;have e1:=hQ_ LL [] j hlt;rw[e1] at h5;exact h5
   case measure=>simp[intOf];omega
  ·go_wp2;go_ret;have he:j=LL.length:=by omega
   subst he;have h5:=HM.out;rw[Nat.sub_self,List.replicate_zero,List.append_nil,List.take_length] at h5;exact⟨_,rfl,h5.owM,HK.out⟩
def numbered(k:Int)(LL:List (List Int))(j:Nat):List (List Int):=(List.range LL.length).map λi=>if i<j then iota (k+off LL i) (LL.getD i []).length else LL.getD i []
theorem eG_(k:Int)(LL:List (List Int))(j:Nat):(numbered k LL j).length=LL.length:=by simp[numbered]
theorem nr_(k:Int)(LL:List (List Int))(j i:Nat)(h:i<LL.length):(numbered k LL j).getD i []=if i<j then iota (k+off LL i) (LL.getD i []).length else LL.getD i []:=by
 simp[numbered,h]
theorem nh_(k:Int)(LL:List (List Int)):numbered k LL 0=LL:=by
 apply List.ext_getElem
 ·simp[numbered]
 ·intro i b a;simp[numbered,a]
theorem nm_(k:Int)(LL:List (List Int))(j:Nat)(h:j<LL.length):numbered k LL (j+1)=(numbered k LL j).set j (iota (k+off LL j) (LL.getD j []).length):=by
 apply List.ext_getElem
 ·simp[numbered]
 ·intro i d b;rw[List.getElem_set];by_cases e:j=i
  ·subst e;simp[numbered]
  ·simp only[numbered,List.getElem_map,List.getElem_range,if_neg e];by_cases a:i<j
   ·rw[if_pos a,if_pos (by omega)]
   ·rw[if_neg a,if_neg (by omega)]
end
section
open Go.RowKit
theorem Chg.setCell1(w:World)(g i:Nat)(u:Value):Chg g (g+1) w (w.setCell ⟨g,i,none⟩ u):=
 ⟨rfl,rfl,rfl,by simp[World.setCell],λk b a=>Below.heap_setCell w ⟨g,i,none⟩ u k (by simp;omega)⟩
theorem cw_(w:World)(p:Addr)(u:Value):(w.setCell p u).heap.size=w.heap.size:=by simp[World.setCell]
theorem OwM.setC{B C:Nat}{w:World}{v:Value}{LL:List (List Int)}(h:OwM B C w v LL){g:Nat}(a:g<B)(i:Nat)(u:Value):OwM B C (w.setCell ⟨g,i,none⟩ u) v LL:=
 h.chg (Chg.setCell1 w g i u) (.inr a)
theorem bcell{W a:World}(d:Keeps W a):(∀b o,b<W.heap.size->a.cell? ⟨b,o,none⟩=W.cell? ⟨b,o,none⟩)∧(∀b o,b<W.heap.size->a.frozen? ⟨b,o,none⟩=W.frozen? ⟨b,o,none⟩):=
 ⟨λb o h=>Below.cell (p:=⟨b,o,none⟩) d h,λb o h=>Below.frozen (p:=⟨b,o,none⟩) d h⟩
end
section
open Go.ChangeShapes Go.WideShapes Go.ChangeAt Go.RowKit
set_option maxRecDepth 100000
def I64(n:Int):Prop:= -9223372036854775808<=n∧n<=9223372036854775807
theorem on_{n:Int}(h:(Lit.int .i64 n).wf=true):I64 n:=by
 have:=bounds_i64 h;exact this
variable {H:Type} {enc:TypeId×Value->H} {W:World}
end
section
open Go.RowKit
structure RP where
  labels:Int
  children:Int
  lines:List (List Int)
section
variable {B C B' C':Nat} {w w':World} {v:Value} {x:RP}
end
end
section
open Go.RowKit
theorem jD_{w:World}{b o:Nat}{v:Value}(h:w.cell? ⟨b,o,none⟩=some v):b<w.heap.size:=by
 simp only[World.cell?] at h;cases a:w.heap[b]? with
 |none=>rw[a] at h;simp at h
 |some x=>exact(Array.getElem?_eq_some_iff.1 a).1
theorem Ints.rdl{w:World}{v:Value}{l:List Int}(h:Ints w v l):RdL zt w v l:=by
 obtain⟨a,c,rfl,m,k,d⟩:=h;refine⟨a,c,by simp,by simpa using m,k,λi x g=>?_⟩;rcases d with d|⟨b,off,rfl,d⟩
 ·simp at d;subst d;simp at g
 ·have f:=d i (.int .i64 x) (by rw[List.getElem?_map,g];rfl);refine⟨b,off,[.int .i64 x],rfl,rfl,jD_ f,λj u e=>?_,rfl⟩;cases j with
  |zero=>simp at e;subst e;simpa [Rp.sz] using f
  |succ j=>simp at e
theorem IntRows.rdl{w:World}{v:Value}{LL:List (List Int)}(h:IntRows w v LL):RdL zt w v LL:=by
 obtain⟨vs,⟨a,c,rfl,q,n,d⟩,g,o⟩:=h;refine⟨a,c,by rw[g],by omega,n,λi x m=>?_⟩;have hi:i<LL.length:=(List.getElem?_eq_some_iff.1 m).1;rcases d with d|⟨b,off,rfl,d⟩
 ·subst d;simp at g;omega
 ·have p:vs[i]? =some (vs.getD i undef):=by rw[List.getD_eq_getElem?_getD,List.getElem?_eq_getElem (by omega)];rfl
  have k:=d i _ p;have e:=o i (by omega);rw[List.getD_eq_getElem?_getD (l:=LL),m] at e;refine⟨b,off,[vs.getD i undef],rfl,rfl,jD_ k,λj u f=>?_,⟨_,rfl,e.rdl⟩⟩;cases j with
  |zero=>simp at f;subst f;simpa [Rp.sz] using k
  |succ j=>simp at f
theorem uB_{css:List (List Value)}{l:List Int}(b:css.length=l.length)(h:∀(i:Nat) cs x,css[i]? =some cs->l[i]? =some x->cs=[.int .i64 x]):css.flatten=l.map (Value.int .i64):=by
 induction css generalizing l with
 |nil=>cases l with
  |nil=>rfl
  |cons a l=>simp at b
 | cons c css ih=>cases l with
  |nil=>simp at b
  |cons a l=>
   have e:=h 0 c a rfl rfl;subst e;rw[List.flatten_cons,ih (by simpa using b) (λi cs x f d=>h (i+1) cs x (by simpa using f) (by simpa using d))];rfl
theorem Ow.own_ints{B k:Nat}{o:Tg}{w:World}{v:Value}{l:List Int}(h:Ow B 3 k o w v l):Own B w v l:=by
 obtain⟨css,e,d,g,f⟩:=h;rw[uB_ e (λi cs x a b=>f i cs x a b)] at d;exact d
def ot:Tg:=λ_=>1
theorem vK_{css:List (List Value)}{vs:List Hv}(b:css.length=vs.length)(h:∀(i:Nat) cs x,css[i]? =some cs->vs[i]? =some x->cs=[x.v]∧x.v.oneCell'=true):css.flatten=vs.map Hv.v:=by
 induction css generalizing vs with
 |nil=>cases vs with
  |nil=>rfl
  |cons a l=>simp at b
 | cons c css ih=>cases vs with
  |nil=>simp at b
  |cons a l=>
   have e:=(h 0 c a rfl rfl).1;subst e;rw[List.flatten_cons,ih (by simpa using b) (λi cs x f d=>h (i+1) cs x (by simpa using f) (by simpa using d))];rfl
end
section
open Go.RowKit
structure PR where
  labels:Int
  degree:Int
  nodes:List (List Int)
  edges:List (List Int)
def RdP(w:World)(v:Value)(x:PR):Prop:=∃v2 v3,v=.agg #[.int .i64 x.labels,.int .i64 x.degree,v2,v3]∧IntRows w v2 x.nodes∧IntRows w v3 x.edges
def OwP(B C:Nat)(w:World)(v:Value)(x:PR):Prop:=∃v2 v3,v=.agg #[.int .i64 x.labels,.int .i64 x.degree,v2,v3]∧∃a b c d,B<=a∧b<=C∧B<=c∧d<=C∧(b<=c∨d<=a)∧OwM a b w v2 x.nodes∧OwM c d w v3 x.edges
def szP(x:PR):Nat:=tot x.nodes+tot x.edges
section
variable {B C B' C':Nat} {w w':World} {v:Value} {x:PR}
end
set_option maxHeartbeats 800000 in
theorem mT_(v:Value)(x:PR)(w:World)(h:RdP w v x)(hs:szP x<=1048576):
  Calls wQ_ 11 #[v] w λe w'=>∃r,e=.returned r∧OwP w.heap.size w'.heap.size w' r x∧Keeps w w':=by
 obtain⟨v2,v3,rfl,r2,r3⟩:=h;have R2:=Lib.hid r2;have R3:=Lib.hid r3;obtain⟨a2,c2,rfl,_⟩:=r2.form;obtain⟨a3,c3,rfl,_⟩:=r3.form;unfold szP at hs;clear r2 r3;go_enter Tryz.func11,Tryz.ntmps11;go_wp2_with fail;refine (kQ_ _ x.nodes _ (R2.out.keep (by repeat (first|exact Keeps.refl _|with_reducible refine Keeps.alloc ?_ _))) (by omega)).mono ?_;rintro e W0 ⟨t0,rfl,hO,hK⟩;have HO0:=Lib.hid (OwM.mono hO (show w.heap.size+3<=_ by simp[cw_]) (Nat.le_refl _));have HK0:Hid (Keeps w W0):=Keeps.trans (by repeat (first|exact Keeps.refl _|with_reducible refine Keeps.alloc ?_ _)) hK;have hz0:w.heap.size+3<=W0.heap.size:=by have:=hK.size;simp[cw_] at this;omega
 obtain⟨hc0,hf0⟩:=bcell hK;obtain⟨ta0,tc0,rfl,_⟩:=hO.rows.form;have e0:W0.cell? ⟨w.heap.size+1+1,0,none⟩=some (.int .i64 x.labels):=by rw[hc0 _ _ (by simp)];simp[go_sem]
 have e1:W0.cell? ⟨w.heap.size+1+1,1,none⟩=some (.int .i64 x.degree):=by rw[hc0 _ _ (by simp)];simp[go_sem]
 have e3:W0.cell? ⟨w.heap.size+1+1,3,none⟩=some (.slice none 0 0):=by rw[hc0 _ _ (by simp)];simp[go_sem]
 have ef:∀o,W0.frozen? ⟨w.heap.size+1+1,o,none⟩=false:=λo=>by rw[hf0 _ _ (by simp)];simp[go_sem]
 clear hO hK;go_wp2_with fail;refine (kQ_ _ x.edges _ (R3.out.keep (by repeat (first|exact HK0.out|with_reducible refine Below.setCell ?_ (by simp;omega) _))) (by omega)).mono ?_;rintro e W1 ⟨t1,rfl,hO,hK⟩;have HO1:=Lib.hid (OwM.mono hO (show W0.heap.size<=_ by simp[cw_]) (Nat.le_refl _));have HK1:Hid (Keeps w W1):=Keeps.trans (by repeat (first|exact HK0.out|with_reducible refine Below.setCell ?_ (by simp;omega) _)) hK;have HO0':=Lib.hid (OwM.keep (OwM.setC HO0.out (by omega) _ _) hK);clear HO0;have HO0:=HO0';clear HO0';have hz1:W0.heap.size<=W1.heap.size:=by have:=hK.size;simp[cw_] at this;omega
 obtain⟨hc,hf⟩:=bcell hK;have hlt:w.heap.size+1+1<(W0.setCell ⟨w.heap.size+1+1,2,none⟩ (.slice ta0 x.nodes.length tc0)).heap.size:=by simp only[cw_];omega
 have d2':W0.cell? ⟨w.heap.size+1+1,2,none⟩=some (.slice none 0 0):=by rw[hc0 _ _ (by simp)];simp[go_sem]
 have d0:W1.cell? ⟨w.heap.size+1+1,0,none⟩=some (.int .i64 x.labels):=by rw[hc _ _ hlt,World.cell?_setCell_other _ _ _ _ (by intro h;injection h with h1 h2;cases h2),e0]
 have d1:W1.cell? ⟨w.heap.size+1+1,1,none⟩=some (.int .i64 x.degree):=by rw[hc _ _ hlt,World.cell?_setCell_other _ _ _ _ (by intro h;injection h with h1 h2;cases h2),e1]
 have d2:W1.cell? ⟨w.heap.size+1+1,2,none⟩=some (.slice ta0 x.nodes.length tc0):=by rw[hc _ _ hlt,World.cell?_setCell_same _ _ _ d2']
 have d3:W1.cell? ⟨w.heap.size+1+1,3,none⟩=some (.slice none 0 0):=by rw[hc _ _ hlt,World.cell?_setCell_other _ _ _ _ (by intro h;injection h with h1 h2;cases h2),e3]
 have df:∀o,W1.frozen? ⟨w.heap.size+1+1,o,none⟩=false:=λo=>by rw[hf _ _ hlt,World.frozen?_setCell,ef]
 have hlt1:w.heap.size+1<(W0.setCell ⟨w.heap.size+1+1,2,none⟩ (.slice ta0 x.nodes.length tc0)).heap.size:=by simp only[cw_];omega
 have b0:W1.cell? ⟨w.heap.size+1,0,none⟩=some (.int .i64 0):=by rw[hc _ _ hlt1,World.cell?_setCell_other _ _ _ _ (by intro h;injection h with h1 h2;omega),hc0 _ _ (by first|(simp;done)|(simp;omega))];simp[go_sem]
 have b1:W1.cell? ⟨w.heap.size+1,1,none⟩=some (.int .i64 0):=by rw[hc _ _ hlt1,World.cell?_setCell_other _ _ _ _ (by intro h;injection h with h1 h2;omega),hc0 _ _ (by first|(simp;done)|(simp;omega))];simp[go_sem]
 have b2:W1.cell? ⟨w.heap.size+1,2,none⟩=some (.slice none 0 0):=by rw[hc _ _ hlt1,World.cell?_setCell_other _ _ _ _ (by intro h;injection h with h1 h2;omega),hc0 _ _ (by first|(simp;done)|(simp;omega))];simp[go_sem]
 have b3:W1.cell? ⟨w.heap.size+1,3,none⟩=some (.slice none 0 0):=by rw[hc _ _ hlt1,World.cell?_setCell_other _ _ _ _ (by intro h;injection h with h1 h2;omega),hc0 _ _ (by first|(simp;done)|(simp;omega))];simp[go_sem]
 have bf:∀o,W1.frozen? ⟨w.heap.size+1,o,none⟩=false:=λo=>by rw[hf _ _ hlt1,World.frozen?_setCell,hf0 _ _ (by first|(simp;done)|(simp;omega))];simp[go_sem]
 clear hc hf hc0 hf0 e0 e1 e3 ef d2';obtain⟨ta1,tc1,rfl,_⟩:=hO.rows.form;clear hO hK;go_wp2;refine bodyPost_ret (v:=.agg #[.int .i64 x.labels,.int .i64 x.degree,.slice ta0 x.nodes.length tc0,.slice ta1 x.edges.length tc1]) (by simp[results,Tryz.results11,go_sem,d0,d1,d2,d3,df,b0,b1,b2,b3,bf]) rfl ⟨_,rfl,⟨_,_,rfl,w.heap.size+3,W0.heap.size,W0.heap.size,W1.heap.size,by omega,by simp only[cw_];omega,by omega,by simp only[cw_];omega,.inl (Nat.le_refl _),?_,?_⟩,?_⟩
 ·repeat (first|exact HO0.out|with_reducible refine OwM.setC ?_ (by omega) _ _)
 ·repeat (first|exact HO1.out|with_reducible refine OwM.setC ?_ (by omega) _ _)
 ·repeat (first|exact HK1.out|with_reducible refine Below.setCell ?_ (by simp;try omega) _)
end
section
open Go.RowKit
def prOf(p:b_):PR:=⟨p.Labels,p.Degree,p.Nodes,p.Edges⟩
section
variable {B C B' C':Nat} {w w':World} {v:Value} {ps:List b_}
end
def nP(k:Int)(p:b_):b_:=⟨k,k+1,numbered (k+1+1) p.Nodes p.Nodes.length,numbered (k+1+1+(off p.Nodes p.Nodes.length:Nat)) p.Edges p.Edges.length⟩
def cQ(p:b_):Nat:=2+(off p.Nodes p.Nodes.length+off p.Edges p.Edges.length)
def offQ(ps:List b_)(i:Nat):Nat:=((ps.take i).map cQ).sum
theorem nN_(ps:List b_)(i:Nat)(p:b_)(h:ps[i]? =some p):offQ ps (i+1)=offQ ps i+cQ p:=by
 unfold offQ;rw[List.take_add_one,h];simp
def szT(p:b_):Nat:=2+(tot p.Nodes+tot p.Edges)
theorem wd_(p:b_):cQ p<=szT p:=by unfold cQ szT tot;omega
def szQ(ps:List b_):Nat:=ps.length+(ps.map szT).sum
theorem wf_{ps:List b_}{p:b_}(h:p∈ps):szT p<=szQ ps:=by
 unfold szQ
 induction ps with
 |nil=>cases h
 |cons q ps ih=>
  simp only[List.map_cons,List.sum_cons,List.length_cons];rcases List.mem_cons.1 h with h|h
  ·subst h;omega
  ·have:=ih h;omega
theorem lq_(ps:List b_)(i:Nat):offQ ps i<=szQ ps:=by
 unfold offQ szQ
 induction ps generalizing i with
 |nil=>simp
 | cons q ps ih=>
  cases i with
  |zero=>simp
  |succ i=>
   simp only[List.take_succ_cons,List.map_cons,List.sum_cons,List.length_cons];have:=ih i;have:cQ q<=szT q:=wd_ _;omega
theorem tR_(ps:List b_)(i:Nat)(p:b_)(h:ps[i]? =some p):offQ ps i+szT p<=szQ ps:=by
 unfold offQ szQ
 induction ps generalizing i with
 |nil=>simp at h
 | cons q ps ih=>
  cases i with
  |zero=>
   simp at h;subst h;simp only[List.take_zero,List.map_nil,List.sum_nil,List.map_cons,List.sum_cons,List.length_cons];omega
  |succ i=>
   simp only[List.take_succ_cons,List.map_cons,List.sum_cons,List.length_cons];have:=ih i (by simpa using h);have:cQ q<=szT q:=wd_ _;omega
theorem Chg.set{w:World}{g i:Nat}{u:Value}:Chg g (g+1) w (w.setCell ⟨g,i,none⟩ u):=
 ⟨rfl,rfl,rfl,by simp,λk _ a=>heap_setCell_other w ⟨g,i,none⟩ k u (λe=>a (by simp at e;omega))⟩
def numU(k:Int)(ps:List b_)(j:Nat):List b_:=(List.range ps.length).map λi=>if i<j then nP (k+offQ ps i) (ps.getD i ⟨0,0,[],[]⟩) else ps.getD i ⟨0,0,[],[]⟩
theorem ga_(k:Int)(ps:List b_)(j:Nat):(numU k ps j).length=ps.length:=by simp[numU]
theorem un_(k:Int)(ps:List b_):numU k ps 0=ps:=by
 apply List.ext_getElem
 ·simp[numU]
 ·intro i b a;simp[numU,a]
theorem kB_(k:Int)(ps:List b_)(j i:Nat)(p:b_)(h:ps[i]? =some p):(numU k ps j)[i]? =some (if i<j then nP (k+offQ ps i) p else p):=by
 have hi:=(List.getElem?_eq_some_iff.1 h).1;unfold numU;rw[List.getElem?_map,List.getElem?_range hi];simp only[Option.map_some,List.getD_eq_getElem?_getD,h,Option.getD_some]
theorem ts_(k:Int)(ps:List b_)(j:Nat)(p:b_)(h:ps[j]? =some p):numU k ps (j+1)=(numU k ps j).set j (nP (k+offQ ps j) p):=by
 have d:=(List.getElem?_eq_some_iff.1 h).1;apply List.ext_getElem?;intro i;rw[List.getElem?_set];by_cases hi:i<ps.length
 ·have a:ps[i]? =some ps[i]:=List.getElem?_eq_getElem hi;rw[kB_ k ps (j+1) i _ a];by_cases e:j=i
  ·subst e;rw[if_pos (Nat.lt_succ_self j),if_pos rfl,if_pos (by rw[ga_];exact hi)];rw[h] at a;cases a
   rfl
  ·rw[if_neg e,kB_ k ps j i _ a];by_cases b:i<j
   ·rw[if_pos b,if_pos (by omega)]
   ·rw[if_neg b,if_neg (by omega)]
 ·rw[List.getElem?_eq_none (by rw[ga_];omega),if_neg (by omega),List.getElem?_eq_none (by rw[ga_];omega)]
theorem oY_(css:List (List Value))(b:∀cs∈css,cs.length=4){j:Nat}{cs:List Value}(a:css[j]? =some cs)(i:Nat)(hi:i<4)(u:Value):css.flatten.set (j*4+i) u=(css.set j (cs.set i u)).flatten:=by
 induction css generalizing j with
 |nil=>simp at a
 | cons c css ih=>
  have e:=b c (by simp);cases j with
  |zero=>
   simp at a;subst a;rw[List.flatten_cons,Nat.zero_mul,Nat.zero_add,List.set_append_left _ _ (by omega),List.set_cons_zero,List.flatten_cons]
  |succ j=>
   simp at a;rw[List.flatten_cons,List.set_append_right _ _ (by rw[Nat.succ_mul];omega),List.set_cons_succ,List.flatten_cons,show(j+1)*4+i-c.length=j*4+i by rw[Nat.succ_mul];omega];rw[ih (λx d=>b x (by simp[d])) a]
end
section
set_option maxRecDepth 100000
set_option maxHeartbeats 2000000
open Go.RowKit
theorem he_:(wQ_.info? 28).map (·.size)=some 4:=by kernel_rfl
theorem kM_:Inf wQ_ 41 (.slice none 0 0) 1 24:=by unfold Inf;kernel_rfl
def dv_(f:List (List Int)):Int->(List (List Int))->Option (Lp (List (List Int)) (List (List Int)) (List (List Int))):=λ(a:Int)(s:List (List Int))=>
  (ix f a)>>=λb=>
  (at_ b)>>=λc=>
  (ix s a)>>=λg=>
  (st s a c)>>=λd=>
  some (.go d)
def dD_(a:List (List Int)):Option (List (List Int)):=
  (mk ([]:List Int) (a.length:Int))>>=λc=>
  ck (a.length:Int)>>=λ_=>
  (forN (dv_ a) ((a.length:Int)).toNat 0 c)>>=λb=>
  match b with
  | .inl d=>
    some d
  | .inr _=>none
def nM_(oo:Tg)(t:Nat)(w:World)(r:Yk):Ending->World->Prop:=λe w'=>∃(a:Value)(c:List Hv)(o':Tg),e=.returned (a)∧Ow w.heap.size 41 t o' w' a c∧Rws w.heap.size 3 (t+1) o' w' c r∧Keeps w w'∧∀b,b<w.heap.size->o' b=oo b
theorem pg_(w:World)(oo:Tg)(t:Nat)(ht:2<=t)(u:Value)(k:Yk)(L:RdL zt w u k)(r:Yk)(hF:dD_ k=some r):
    Calls wQ_ 77 #[u] w (nM_ oo t w r):=by
 unfold dD_ at hF;have hB:Bs oo (col oo) w w:=Bs.start _ _;refine i_ (n:=23) (vs:=[u]) Tryz.func77 rfl rfl ?_;generalize col oo=o at*;refine Zq (Za rfl (Ze [(0,_)] (Zn (Zm rfl (Zv (B_ rfl L wV_) ?_)))));obtain⟨b0,M,hF⟩:=a_ hF;obtain⟨b1,N⟩:=wP_ M w.heap.size 3 12 o w;refine Zo ?_;refine hn_ (o:=o) w.heap.size 11 hB.keeps.size b1 rfl rfl wV_ kM_ rfl (by decide) ?_;intro b2 d2 q b3 b4;obtain⟨N,hB⟩:=ZS b4 (A2 N hB);refine Za rfl (Ze [(0,_),(3,_)] (nx (c_ (Zq (Zm rfl (Zv (B_ rfl L wV_) (Zm rfl (Ze [(0,_),(3,_),(9,_),(10,_)] (nx ?_)))))))));obtain⟨b5,O,hF⟩:=a_ hF;obtain⟨-,h17a,h17b⟩:=bV_ O;obtain⟨z,A,hF⟩:=a_ hF;refine v_ (λa f=>∃x g c,z=.inl x∧Fr a 23 [(3,q)]∧Bs oo c w f∧Oz w 41 11 c f q g∧Rq w 3 12 c f g x) (λ_ _=>False) ?_ ?_ ?_
 ·refine f_ ?_;refine w_ (λ(K:Nat) a f=>∃(b:Int),∃x g c,forN (dv_ k) ((k.length:Int)-b).toNat b x=some z∧((k.length:Int)-b).toNat=K∧0<=b∧Fr a 23 [(0,u),(3,q),(9,ZI (k.length:Int)),(10,ZI b)]∧Bs oo c w f∧Oz w 41 11 c f q g∧Rq w 3 12 c f g x) _ (λa ha=>⟨0,b0,List.replicate (k.length:Int).toNat ⟨.slice none 0 0⟩,b2,(by rw[Int.sub_zero];exact A),rfl,Int.le_refl 0,ha.sb,hB,b3,N⟩) ?_;rintro K22 a f ⟨b,x,g,c,B,P,b6,ha,hB,s,d⟩;by_cases v:b<(k.length:Int)
  ·obtain⟨b7,j,Q⟩:=bv_ v B;dsimp only[dv_] at j;refine J_ ha ?_;refine Zq (Zv (r_ rfl rfl) (Ze [(0,_),(3,_),(9,_),(10,_),(11,_)] (nx (c_ ?_))));refine L_ (Zb (decide_eq_true v)) ?_;refine g_ (nx (c_ (f_ (Zq (Zm rfl (Za rfl (Ze [(0,_),(3,_),(4,_),(9,_),(10,_)] (nx (d_ (Zm rfl (Zm rfl (Zm rfl ?_))))))))))));refine Zm rfl ?_;obtain⟨R,C,j⟩:=a_ j;refine Zo ?_;refine wf_atZ L C hB rfl rfl wV_ wY_ ?_;intro b8 b9 c0 S T;obtain⟨c1,rfl,U⟩:=T;refine Zv (e_ rfl Tryz.isAgg41 (k_ S)) ?_;obtain⟨V,D,j⟩:=a_ j;refine Zo ?_;refine o_ (bU_ f c 13 (by decide) _ R (U.keep hB.keeps) V D) Tryz.call70 ⟨rfl,trivial⟩ ?_;rintro c2 c3 ⟨E,F,rfl,m,W,X⟩;have Y:=W.stp' 13 X;replace m:=m.mono hB.keeps.size;refine⟨_,rfl,?_⟩;obtain⟨s,d,hB⟩:=ZS Y (A3 s d hB);obtain⟨c4,G,j⟩:=a_ j;obtain⟨c5,Z,c6,c7⟩:=d.ix G;refine Zo ?_;refine fC_ s Z rfl rfl wV_ wY_ ?_;intro c8 c9 a0 d0 a1;obtain⟨rfl,-⟩:=a1;obtain⟨a2,H,j⟩:=a_ j;obtain⟨a3,a4⟩:=d.stV H E;refine Z_ trivial ?_;refine cf_ s a0 a3 (iG_ m) (by decide) rfl rfl rfl wY_ m.cells1 ?_;intro d1 y a5;obtain⟨d,m,hB⟩:=ZS a5 (A3 d m hB);have I:=RwH.put (i:=b.toNat) (d.hole b.toNat) m (by decide) (by decide);rw[<-a4] at I;have J:=eO_ 13 12 F;clear d m;replace y:=y.rc J (by decide) (by decide);replace hB:=hB.rc J (by decide);generalize mrg 13 12 F=a6 at*;refine Ze [(0,u),(3,q),(9,ZI (k.length:Int)),(10,ZI b)] (x_ (nx (d_ (Zv (C_ rfl rfl (F_ (by omega) (by omega))) (Zm rfl (Ze [(0,_),(3,_),(9,_),(10,_)] (u_ ?_)))))));have a7:=Zj j;subst a7;refine Zk [(0,_),(3,_),(9,_),(10,_)] ?_;intro a ha;exact⟨_,(by rw[<-P];omega),b+1,a2,g.set b.toNat ⟨E⟩,a6,Q,rfl,by omega,ha,hB,y,I⟩
  ·have a8:=bu_ v B;refine J_ ha ?_;refine Zq (Zv (r_ rfl rfl) (Ze [(0,_),(3,_),(9,_),(10,_),(11,_)] (nx (c_ ?_))));refine G_ (Zb (decide_eq_false v)) ?_;refine s_ ?_;refine n_ (n_ (N_ ?_));refine p_ ?_;refine Zk [(3,_)] ?_;intro a ha;exact⟨x,g,c,a8,ha,hB,s,d⟩
 ·rintro a f ⟨x,g,c,rfl,ha,hB,s,d⟩;dsimp only at hF;refine ap_k ha ?_;refine Zn (Zm rfl (Za rfl (Ze [(2,_)] (nx (j_ ?_)))));have a9:=Zj hF;subst a9;refine Zr Tryz.results77 [q] ?_;exact⟨_,g,rt2 oo c w.heap.size 11 12 t,rfl,s.rt2 hB (by decide) (by decide) t,d.rt2 hB (by decide) (by decide) (by decide) t,hB.keeps,fA_ _ _ _ _ _ _⟩
 ·exact λ_ _ h=>h.elim
theorem jW_(w:World)(oo:Tg)(t:Nat)(ht:2<=t)(n:Value)(q:Yk)(k:RdL zt w n q)(r:Yk)(hF:dD_ q=some r):
    Calls wQ_ 77 #[n] w (λe w'=>∃(f:Value)(o':Tg),e=.returned f∧Iv w.heap.size t (t+1) 41 3 o' w' f r∧Keeps w w'∧∀b,b<w.heap.size->o' b=oo b):=by
 refine (pg_ w (λ_=>1) t ht n q k r hF).mono ?_;rintro e w' ⟨f,k,d,rfl,B,m,hk,ho⟩;replace ho:∀b,b<w.heap.size->d b=1:=ho;have g:∀c,f.ownBlock=some c->w.heap.size<=c∧c<w'.heap.size:=λc hc=>B.ltw c hc;have j:∀(i:Nat)(u:Hv) c,k[i]? =some u->u.v.ownBlock=some c->w.heap.size<=c∧c<w'.heap.size:=λi u c a b=>m.lt i u c a b;refine⟨f,λb=>if b<w.heap.size then oo b else if d b=t+1 then t+1 else t,rfl,⟨k,w.heap.size,w'.heap.size,Nat.le_refl _,Nat.le_refl _,?_,⟨m.1,λi u x a b=>?_,m.2.2⟩,λc hc=>(g c hc).2,λi u c a b=>(j i u c a b).2,λc hc _=>?_⟩,hk,λb hb=>if_pos hb⟩
 ·obtain⟨css,s,y,z,A⟩:=B;refine⟨css,s,y,λc hc=>?_,A⟩;show(if c<w.heap.size then oo c else if d c=t+1 then t+1 else t)=t;rw[if_neg (by have:=(g c hc).1;omega),if_neg (by rw[z c hc];omega)]
 ·have hg:=m.2.1 i u x a b;obtain⟨css,s,y,z,A⟩:=hg;refine⟨css,s,y,λc hc=>?_,A⟩;show(if c<w.heap.size then oo c else if d c=t+1 then t+1 else t)=t+1;rw[if_neg (by have:=(j i u c a hc).1;omega),if_pos (z c hc)]
 ·show(if c<w.heap.size then oo c else if d c=t+1 then t+1 else t)=t∨(if c<w.heap.size then oo c else if d c=t+1 then t+1 else t)=t+1;rw[if_neg (by omega)];split
  ·exact .inr rfl
  ·exact .inl rfl
def dp_(a:b_):Option b_:=
  (dD_ a.Nodes)>>=λb=>
  (dD_ a.Edges)>>=λc=>
  some (⟨a.Labels,a.Degree,b,c⟩:b_)
def lO_(oo:Tg)(t:Nat)(w:World)(r:b_):Ending->World->Prop:=λe w'=>∃(a:List Value)(o':Tg),e=.returned (.agg a.toArray)∧Rp.rd o' w' a r∧D2 41 3 o' w' (a.getD 2 undef) (a.getD 3 undef) r.Nodes r.Edges∧Keeps w w'∧∀b,b<w.heap.size->o' b=oo b
theorem lR_(w:World)(oo:Tg)(t:Nat)(ht:2<=t)(c2:List Value)(i:b_)(c4:Rp.rd zt w c2 i)(r:b_)(hF:dp_ i=some r):
    Calls wQ_ 50 #[.agg c2.toArray] w (lO_ oo t w r):=by
 unfold dp_ at hF;obtain⟨a3,T,rfl,c5,c6⟩:=c4;have hB:Bs oo (col oo) w w:=Bs.start _ _;refine i_ (n:=12) (vs:=[.agg #[ZI i.Labels,ZI i.Degree,a3,T]]) Tryz.func50 rfl rfl ?_;generalize col oo=o at*;refine Zq (Zo ?_);refine as_ (o:=o) w.heap.size 11 hB.keeps.size (cs:=[ZI i.Labels,ZI i.Degree,a3,T]) rfl rfl ?_;intro c7 f3 J L c8;replace hB:=hB.stp c8;refine Zo ?_;refine av_ (o:=c7) w.heap.size 12 hB.keeps.size (cs:=[ZI 0,ZI 0,.slice none 0 0,.slice none 0 0]) Tryz.zeroValue28 rfl ?_;intro c9 d0 E d a4;obtain⟨L,hB⟩:=ZS a4 (A2 L hB);refine Ze [(1,_),(2,_)] (nx (c_ ?_));obtain⟨M,U,hF⟩:=a_ hF;obtain⟨N,V,hF⟩:=a_ hF;refine ZW (Bf:=λa5 a6=>Bs oo a5 w a6∧Bz w 11 a5 a6 J 28 [ZI i.Labels,ZI i.Degree,a3,T]∧Bz w 12 a5 a6 E 28 [ZI 0,ZI 0,.slice none 0 0,.slice none 0 0]) [(1,_),(2,_)] (Zrg 3 7) [[],[0],[1],[],[3],[4],[]] (Zcn 7) (Zt9 7) (Zt0 7) [999] [.inl (.pointer (some ⟨J,0+2,none⟩)),.inl a3,.inr (λv o a7=>Iv w.heap.size 2026 2027 41 3 o a7 v M),.inl (.pointer (some ⟨J,0+3,none⟩)),.inl T,.inr (λv o a7=>Iv w.heap.size 2030 2031 41 3 o a7 v N),.inl (.pointer (some ⟨J,0+2,none⟩))] ⟨hB,L,d⟩ ⟨λ_ _ _ _ _ _ O hb h hs=>h.stp hs O.1 (Nat.ne_of_gt (Nat.lt_of_le_of_lt O.2 (by decide))) (Nat.ne_of_gt (Nat.lt_of_le_of_lt O.2 (by decide))),λ_ _ _ _ _ _ O hb h hs=>h.stp hs O.1 (Nat.ne_of_gt (Nat.lt_of_le_of_lt O.2 (by decide))) (Nat.ne_of_gt (Nat.lt_of_le_of_lt O.2 (by decide))),trivial⟩ ?_ ?_
 ·refine⟨Dp (m_ rfl wW_ rfl wZ_),Dq λh=>e_ rfl xb_ (h.2.1.cell rfl),?_,Dp (m_ rfl wW_ rfl wZ_),Dq λh=>e_ rfl xb_ (h.2.1.cell rfl),?_,Dp (m_ rfl wW_ rfl wZ_),trivial⟩
  ·rintro a8 a9 d1 ha ⟨hB,L,d⟩-;refine Zs ha ?_;refine o_ (jW_ a9 a8 2026 (by decide) _ i.Nodes (c5.keep hB.keeps) M U) zZ_ ⟨rfl,trivial⟩ ?_;rintro d2 d3 ⟨d4,d5,rfl,Q,b0,b1⟩;have b2:=b0.stp' 999 b1;replace Q:=Q.mono hB.keeps.size;refine⟨_,rfl,?_⟩;exact⟨_,b2,Q⟩
  ·rintro b3 b4 d6 ha ⟨hB,L,d⟩-;refine Zs ha ?_;refine o_ (jW_ b4 b3 2030 (by decide) _ i.Edges (c6.keep hB.keeps) N V) zZ_ ⟨rfl,trivial⟩ ?_;rintro d7 d8 ⟨d9,e0,rfl,R,b5,b6⟩;have b7:=b5.stp' 999 b6;replace R:=R.mono hB.keeps.size;refine⟨_,rfl,?_⟩;exact⟨_,b7,R⟩
 rintro _ rfl x W F ha ⟨hB,L,d⟩ ⟨G,H,-⟩;replace G:Iv w.heap.size 2026 2027 41 3 x W (F.tmps.getD 5 undef) M:=G;generalize b8:F.tmps.getD 5 undef=I at G;obtain⟨e1,na,nb,f4,f5,b,y,e2,e3,e4⟩:=G;have ha:=ha.c b8;replace H:Iv w.heap.size 2030 2031 41 3 x W (F.tmps.getD 8 undef) N:=H;generalize b9:F.tmps.getD 8 undef=S at H;obtain⟨e5,ma,mb,f6,f7,a,f,e6,e7,e8⟩:=H;have ha:=ha.c b9;have hdis:∀g,na<=g->g<nb->ma<=g->g<mb->False:=λg e9 f0 f1 f2=>by
  rcases e4 g e9 f0 with q|q<;>rcases e8 g f1 f2 with q'|q'<;>exact absurd (q.symm.trans q') (by decide)
 refine aH_ ha ?_;refine Z_ trivial ?_;refine bl_ L rfl rfl (of_decide_eq_true rfl) wZ_ b.cells1 b.one1 ?_;intro c0 A c1;obtain⟨b,y,a,f,d,hB⟩:=ZS c1 (A6 b y a f d hB);replace A:Bz w 11 x c0 J 28 [ZI i.Labels,ZI i.Degree,I,T]:=A;refine Zv (m_ rfl wW_ rfl wZ_) ?_;refine Z_ trivial ?_;refine bl_ A rfl rfl (of_decide_eq_true rfl) wZ_ a.cells1 a.one1 ?_;intro X B Y;obtain⟨b,y,a,f,d,hB⟩:=ZS Y (A6 b y a f d hB);replace B:Bz w 11 x X J 28 [ZI i.Labels,ZI i.Degree,I,S]:=B;refine Ze [(1,_),(2,_)] (Zn (Zv (E_ rfl wX_ wU_ rfl B.cells) ?_));refine Z_ trivial ?_;refine T_ d rfl rfl rfl he_ (by intro c hc;simp only[List.mem_cons,List.not_mem_nil,or_false] at hc;rcases hc with rfl|rfl|rfl|rfl<;>first|rfl|exact b.one1|exact a.one1) ?_;intro c3 j Z;obtain⟨b,y,a,f,hB⟩:=ZS Z (A5 b y a f hB);refine Ze [(2,_)] (nx (j_ ?_));have z:=Dw.ofI b y (by decide) (by decide) (by decide) e2 e3;have k:=eM_ 2026 x;have m:=eM_ 2027 (frz 2026 x);replace a:=(a.rc k (by decide) (by decide)).rc m (by decide) (by decide);replace f:=(f.rc k (by decide) (by decide)).rc m (by decide) (by decide);replace j:=(j.rc k (by decide)).rc m (by decide);replace hB:=(hB.rc k (by decide)).rc m (by decide);clear k m;generalize frz 2027 (frz 2026 x)=C at*;have D:=z.rd;have K:=Dw.ofI a f (by decide) (by decide) (by decide) e6 e7;have s:=eM_ 2030 C;have u:=eM_ 2031 (frz 2030 C);replace D:=(D.rc s (by decide)).rc u (by decide);replace z:=(z.rc s (by decide)).rc u (by decide);replace j:=(j.rc s (by decide)).rc u (by decide);replace hB:=(hB.rc s (by decide)).rc u (by decide);clear s u;generalize frz 2031 (frz 2030 C)=a0 at*;have a1:=K.rd;have a2:=Zj hF;subst a2;refine D_ (P:=wQ_) (vs:=[.agg #[ZI i.Labels,ZI i.Degree,I,S]]) Tryz.results50 ⟨⟨_,rfl,al_ wX_ wU_ rfl j.cells⟩,trivial⟩ ?_;exact⟨[ZI i.Labels,ZI i.Degree,I,S],rt oo a0 w.heap.size 9 t,rfl,⟨_,_,rfl,D.rt hB 9 t (by decide),a1.rt hB 9 t (by decide)⟩,D2.rt ⟨_,_,_,_,hdis,z,K⟩ hB 9 t (by decide),hB.keeps,am_ _ _ _ _ _⟩
def lM_(oo:Tg)(t:Nat)(w:World)(r:b_):Ending->World->Prop:=λe w'=>∃(a:List Value)(o':Tg),e=.returned (.agg a.toArray)∧Pc w.heap.size w'.heap.size o' w' a r∧Keeps w w'∧(∀b,b<w.heap.size->o' b=oo b)∧∀b,w.heap.size<=b->o' b=0∨o' b=t
theorem lL_(w:World)(oo:Tg)(t:Nat)(ht:2<=t)(c:List Value)(d:b_)(f:Rp.rd zt w c d)(r:b_)(hF:dp_ d=some r):
    Calls wQ_ 50 #[.agg c.toArray] w (lM_ oo t w r):=by
 refine (lR_ w (λ_=>1) t ht c d f r hF).mono ?_;rintro e w' ⟨g,a,rfl,hr,hD,hk,ho⟩;replace ho:∀b,b<w.heap.size->a b=1:=ho;obtain⟨vN,vE,rfl,-,-⟩:=hr;have hD':D2 41 3 a w' vN vE r.Nodes r.Edges:=hD;exact⟨_,λb=>if b<w.heap.size then oo b else if a b=0 then 0 else t,rfl,⟨vN,vE,rfl,(hD'.pq (λb hb=>by rw[ho b hb];decide) hk.size).mv0 (newT ho)⟩,hk,λb hb=>if_pos hb,λb hb=>by
  show(if b<w.heap.size then oo b else if a b=0 then 0 else t)=0∨(if b<w.heap.size then oo b else if a b=0 then 0 else t)=t;rw[if_neg (by omega)];split
  ·exact .inl rfl
  ·exact .inr rfl⟩
end
end Go.Proofs.YtdbbeldgdgonfaaGreat
