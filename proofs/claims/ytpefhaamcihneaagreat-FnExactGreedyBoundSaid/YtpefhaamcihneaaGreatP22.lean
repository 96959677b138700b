/- Part 22 of what this claim rests on (pack.py). -/
import Derived.BigQuiet
import Derived.Outline
import Derived.OpenShut
import Derived.ShutString
import Derived.ChangeOld
import Derived.Test.YtpefhaamcihneaaGreatP21
namespace Go.Proofs.YtpefhaamcihneaaGreat
open Tryz renaming prog→Gz, func47→IH, ntmps47→Ks, func31→Kt, ntmps31→Ku, func13→Kv, ntmps13→Kw, func26→II, ntmps26→Kx, func4→IJ, ntmps4→IK
set_option linter.unusedSimpArgs false
set_option linter.unusedVariables false
set_option maxRecDepth 100000
set_option maxHeartbeats 2000000
open Go.RowKit
def iota(k:Int)(n:Nat):List Int:=(List.range n).map λi:Nat=>k+(i:Int)
theorem np(k:Int)(n:Nat):(iota k n).length=n:=by simp[iota]
theorem Cn(k:Int)(n:Nat):iota k (n+1)=iota k n++[k+n]:=by simp[iota,gc]
theorem DO(p q:List Int)(x y:Int):((p++x::q).map (Value.int .i64)).set p.length (.int .i64 y)=(p++y::q).map (Value.int .i64):=by
 simp[List.set_append]
theorem Own.form{B:Nat}{w:World}{v:Value}{l:List Int}(h:Own B w v l)(a:0<l.length):
  ∃g cap,v=.slice (some ⟨g,0,none⟩) l.length cap∧∀i,i<l.length->w.cell? ⟨g,i,none⟩=some (.int .i64 (l.getD i 0))∧w.frozen? ⟨g,i,none⟩=false:=by
 obtain⟨g,cap,rfl,_,_⟩:=World.ownsRow.form h a;refine⟨g,cap,rfl,λi hi=>⟨?_,World.ownsRow.frozenAt h i⟩⟩;rw[World.ownsRow.cellAt h i om];simp[hi]
theorem Own.set{B:Nat}{w:World}{g cap n:Nat}{p q:List Int}{x y:Int}(h:Own B w (.slice (some ⟨g,0,none⟩) n cap) (p++x::q))(j:Nat)(e:j=p.length):
  Own B (w.setCell ⟨g,j,none⟩ (.int .i64 y)) (.slice (some ⟨g,0,none⟩) n cap) (p++y::q)∧w.grownBy (w.setCell ⟨g,j,none⟩ (.int .i64 y)) (some g):=by
 subst e;have f:n=(p++x::q).length:=by
  obtain⟨a,c,b,_⟩:=h.len;simp at b;simp[b]
 subst f;obtain⟨b,d⟩:=World.ownsRow.stored h p.length (.int .i64 y);rw[DO] at b;refine⟨?_,d⟩;unfold Own;simpa using b
theorem Ab(l:List Int)(j:Nat)(h:j<l.length):l.drop j=l.getD j 0::l.drop (j+1):=by
 rw[dt h];simp[h]
theorem Aw{d b:List Int}{k:Nat}(h:d.take k=b.take k)(g:d.length=b.length)(e:k<d.length)(f:d.getD k 0=b.getD k 0):d.take (k+1)=b.take (k+1):=by
 have a:k<b.length:=om;rw[jS e,jS a,h];simp[ax,e,a] at f;rw[f]
theorem zw{l:List Int}{k:Nat}(h:k<l.length):l.take (k+1)=l.take k++[l.getD k 0]:=by
 rw[jS h];simp[h]
set_option maxHeartbeats 400000 in
theorem Bk(va vb:Value)(la lb:List Int)(w:World)(ha:Ints w va la)(hb:Ints w vb lb):
  Calls Gz 47 #[va,vb] w λe w'=>e=.returned (.bool (decide (la=lb)))∧Dr w w':=by
 obtain⟨a,ca,rfl,ma,fa⟩:=ha.form;obtain⟨b,cb,rfl,mb,fb⟩:=hb.form;have Fa:=p_ fa;have Fb:=p_ fb;clear fa fb ha hb;by_cases hl:la.length=lb.length
 ·have Hl:=p_ hl;have hl':((la.length:Int) !=(lb.length:Int))=false:=by simp[hl]
  clear hl;go_enter IH,Ks;go_wp2;go_loopw [5] (λi wr=>∃k:Nat,k<=la.length∧i=.int .i64 k∧la.take k=lb.take k∧Dr w wr) (λi _=>la.length-(intOf i).toNat);case atStart=>exact⟨0,bj _,rfl,rfl,Dr.refl w⟩
  case round=>
   obtain⟨k,hk,rfl,ht,n,rfl⟩:=hrel;have Ht:=p_ ht;clear ht;by_cases hlt:k<la.length
   ·obtain⟨ba,oa,rfl,hca⟩:=Fa.out k hlt;obtain⟨bb,ob,rfl,hcb⟩:=Fb.out k (by have:=Hl.out;omega);have hlt2:k<lb.length:=by have:=Hl.out;omega
    generalize hx:la.getD k 0=x at hca;generalize hy:lb.getD k 0=y at hcb;have Hx:=p_ hx;have Hy:=p_ hy;clear hx hy;go_wp2;go_quiet (fail);go_wp2
    ·go_ret;refine⟨?_,(Dr.refl w).more _|>.more _⟩;have hne:la≠lb:=by
      intro h;have:=Hx.out;have:=Hy.out;have:(x !=y)=true:=by assumption
      simp_all
     simp[hne]
    ·go_roundw;case rel=>exact⟨k+1,om,by go_num,Aw Ht.out Hl.out hlt (by rw[Hx.out,Hy.out];simpa using ‹(x !=y)=false›),(Dr.refl w).more _⟩
     case measure=>simp[intOf];omega
   ·go_wp2;go_ret;refine⟨?_,(Dr.refl w).more _⟩;have he:la=lb:=by
     have h1:=Ht.out;rw[cu om,cu (by have:=Hl.out;omega)] at h1;exact h1
    simp[he]
 ·have hl':((la.length:Int) !=(lb.length:Int))=true:=by simp;omega
  have hne:Hid (decide (la=lb)=false):=by
   have:la≠lb:=λh=>hl (by rw[h]);show decide (la=lb)=false;simp[this]
  clear hl;go_enter IH,Ks;go_wp2;go_ret;exact⟨by rw[hne.out];rfl,Dr.refl w⟩
set_option maxHeartbeats 400000 in
theorem sB(B:Nat)(v:Value)(l:List Int)(k:Int)(w:World)(h:Own B w v l)(hk:0<=k)(hk2:k+l.length<=4611686018427387904):
  Calls Gz 48 #[v,.int .i64 k] w λe w'=>e=.returned (.int .i64 (k+l.length))∧Own B w' v (iota k l.length)∧w.grownBy w' v.ownBlock:=by
 obtain⟨a,c,rfl,hm⟩:=h.len;have H:=p_ h;clear h;go_enter Tryz.func48,Tryz.ntmps48;go_wp2;go_loopw [1,5] (λx i wr=>∃j:Nat,j<=l.length∧i=.int .i64 j∧x=.int .i64 (k+j)∧Own B wr (.slice a l.length c) (iota k j++l.drop j)∧w.grownBy wr (Value.slice a l.length c).ownBlock) (λ_ i _=>l.length-(intOf i).toNat);case atStart=>exact⟨0,bj _,rfl,sy,by simpa [iota] using H.out,Bb _ _⟩
 case round=>
  obtain⟨j,hj,rfl,rfl,hown,hgr⟩:=hrel;have HO:=p_ hown;have HG:=p_ hgr;clear hown hgr;by_cases hlt:j<l.length
  ·obtain⟨g,cap,hv,hc⟩:=HO.out.form (by simp;omega);simp only[Value.slice.injEq] at hv;obtain⟨rfl,-,rfl⟩:=hv;obtain⟨hc1,hc2⟩:=hc j (by simp[np];omega);have hc1':∃u,wr.cell? ⟨g,j,none⟩=some u:=⟨_,hc1⟩;clear hc hc1;obtain⟨u,hc1⟩:=hc1';go_wp2;go_roundw;case rel=>
    have h5:=HO.out;rw[Ab l j hlt] at h5;obtain⟨h6,h7⟩:=Own.set (y:=k+j) h5 j (by simp[np]);exact⟨j+1,om,by go_num,by congr 1;omega,by simpa [Cn] using h6,AJ HG.out h7⟩
   case measure=>simp[intOf];omega
  ·go_wp2;go_ret;have he:j=l.length:=om;subst he;refine⟨rfl,?_,HG.out⟩;simpa using HO.out
theorem sj(n:Nat):(madeCells (Value.int .i64 0).cells (n*1)).toList=(List.replicate n (0:Int)).map (Value.int .i64):=by
 simp[Value.cells,toList_madeCells_one]
set_option maxHeartbeats 400000 in
theorem BE(v:Value)(l:List Int)(w:World)(h:Ints w v l)(hl:l.length<=1048576):
  Calls Gz 39 #[v] w λe w'=>∃r,e=.returned r∧Own w.heap.size w' r l∧Keeps w w':=by
 obtain⟨a,c,rfl,hm,hf⟩:=h.form;have HF:=p_ hf;clear h hf;obtain⟨i0,hi,hz0,hz1,hz2⟩:=info_parts nT;have HI:=p_ hi;have HZ0:=p_ hz0;have HZ1:=p_ hz1;have HZ2:=p_ hz2;clear hi hz0 hz1 hz2;go_enter Tryz.func39,Tryz.ntmps39;go_wp2_with (at_make;refine wpList_make_full _ rfl _ _ 51 rfl w.heap.size 3 i0 (.int .i64 0) 1 Tryz.underlying51 HI.out HZ0.out HZ1.out .i64 .i64 _ _ l.length rfl rfl rfl rfl (by rw[HZ2.out];omega) (by unfold maxLen;omega) (K_ _) ?_;intro w1 hown hgr);rw[sj] at hown;have H1:Hid (Own w.heap.size w1 (.slice (some ⟨w.heap.size,0,none⟩) l.length l.length) (List.replicate l.length 0)):=by show Own _ _ _ _;unfold Own;simpa using hown
 have H2:Hid (Below w.heap.size w w1):=(oJ _ _).grown hgr (K_ _) sy;clear hown hgr;go_wp2;go_loopw [4] (λi wr=>∃j:Nat,j<=l.length∧i=.int .i64 j∧Own w.heap.size wr (.slice (some ⟨w.heap.size,0,none⟩) l.length l.length) (l.take j++List.replicate (l.length-j) 0)∧Keeps w wr) (λi _=>l.length-(intOf i).toNat);case atStart=>exact⟨0,bj _,rfl,by simpa using H1.out,H2.out⟩
 case round=>
  obtain⟨j,hj,rfl,hown,hgr⟩:=hrel;have HO:=p_ hown;have HG:=p_ hgr;clear hown hgr H1 H2;by_cases hlt:j<l.length
  ·obtain⟨b,o,rfl,hc⟩:=HF.out j hlt;have hcr:wr.cell? ⟨b,o+j,none⟩=some (.int .i64 (l.getD j 0)):=by rw[qP HG.out (xL w _ hc)];exact hc
   obtain⟨g,cap,hv,hc2⟩:=HO.out.form (by simp;omega);simp only[Value.slice.injEq,Option.some.injEq,Addr.mk.injEq] at hv;obtain⟨⟨rfl,-⟩,-,rfl⟩:=hv;obtain⟨hc3,hc4⟩:=hc2 j (by simp;omega);have hc3':∃u,wr.cell? ⟨w.heap.size,j,none⟩=some u:=⟨_,hc3⟩;clear hc2 hc3 hc;obtain⟨u,hc3⟩:=hc3';generalize hx:l.getD j 0=x at hcr;have Hx:=p_ hx;clear hx;go_wp2;go_roundw;case rel=>
    have h5:=HO.out;obtain⟨q,hq⟩:∃q,l.length-j=q+1:=⟨l.length-j-1,om⟩;rw[hq,mu] at h5;obtain⟨h6,h7⟩:=Own.set (y:=x) h5 j (by simp;omega);refine⟨j+1,om,by go_num,?_,HG.out.setCell (K_ _) _⟩;rw[zw hlt,Hx.out,show l.length-(j+1)=q by omega];simpa using h6
   case measure=>simp[intOf];omega
  ·go_wp2;go_ret;have he:j=l.length:=om;subst he;refine⟨_,rfl,by simpa using HO.out,HG.out⟩
section
def IntRows(w:World)(v:Value)(LL:List (List Int)):Prop:=∃vs:List Value,Sl w v vs∧vs.length=LL.length∧∀i,i<vs.length->Ints w (vs.getD i undef) (LL.getD i [])
theorem IntRows.keep{w w':World}{v:Value}{LL:List (List Int)}(h:IntRows w v LL)(k:Keeps w w'):IntRows w' v LL:=by
 obtain⟨vs,b,a,d⟩:=h;exact⟨vs,b.keep k,a,λi hi=>(d i hi).keep k⟩
theorem IntRows.form{w:World}{v:Value}{LL:List (List Int)}(h:IntRows w v LL):
  ∃a c,v=.slice a LL.length c∧LL.length<=9223372036854775807∧
   ∀i,i<LL.length->∃b o u,a=some ⟨b,o,none⟩∧w.cell? ⟨b,o+i,none⟩=some u∧Ints w u (LL.getD i []):=by
 obtain⟨vs,f,d,k⟩:=h;obtain⟨a,c,rfl,e,j⟩:=f.form;rw[d] at e;refine⟨a,c,by rw[d],e,λi hi=>?_⟩;obtain⟨b,o,rfl,g⟩:=j i om;exact⟨b,o,_,rfl,g,k i om⟩
theorem BM:(Gz.info? 51).map (λi=>(i.zero,i.size,i.bytes))=some (some (.slice none 0 0),1,24):=by kernel_rfl
theorem sc{e i:TypeId}{B C s s' n m:Nat}{w:World}{v u:Value}{xs q:List Value}(b:e≠i)(h:w.ownsRow B e s v n xs)(k:w.ownsRow C i s' u m q):Apart v u:=by
 unfold Apart;rcases h.2 with⟨rfl,_⟩|⟨g,cap,p,rfl,_,o,_⟩
 ·exact .inl rfl
 ·rcases k.2 with⟨rfl,_⟩|⟨j,f,d,rfl,_,a,_⟩
  ·exact .inr (by simp[Value.ownBlock])
  ·refine .inr λe=>?_;have:g=j:=by simpa [Value.ownBlock] using e
   subst this;rw[o] at a;simp at a;exact b a.2
theorem Own.sl{B:Nat}{w:World}{v:Value}{l:List Int}(h:Own B w v l):∃a n c,v=.slice a n c:=by
 obtain⟨a,c,b,_⟩:=h.len;exact⟨a,_,c,b⟩
structure MatIn (B:Nat) (w:World) (v:Value) (vs:List Value) (LL:List (List Int)):Prop where
  row:w.ownsRow B 51 1 v LL.length vs
  own:∀i,i<LL.length->Own B w (vs.getD i undef) (LL.getD i [])
  apart:∀i j,i<LL.length->j<LL.length->i≠j->Apart (vs.getD i undef) (vs.getD j undef)
section
variable {B:Nat} {w w':World} {v:Value} {vs:List Value} {LL:List (List Int)}
theorem MatIn.len(h:MatIn B w v vs LL):vs.length=LL.length:=by simpa using h.row.1
theorem MatIn.keep(h:MatIn B w v vs LL)(k:Keeps w w'):MatIn B w' v vs LL:=⟨pQ h.row k,λi hi=>(h.own i hi).keep k,h.apart⟩
theorem MatIn.rows(h:MatIn B w v vs LL):IntRows w v LL:=by
 have a:=h.len;refine⟨vs,xe (B:=B) (e:=51) (by rw[a];exact h.row),a,λi hi=>(h.own i om).ints⟩
theorem MatIn.form(h:MatIn B w v vs LL)(a:0<LL.length):
  ∃g cap,v=.slice (some ⟨g,0,none⟩) LL.length cap∧∀i,i<LL.length->w.cell? ⟨g,i,none⟩=some (vs.getD i undef)∧w.frozen? ⟨g,i,none⟩=false:=by
 obtain⟨g,cap,rfl,_,_⟩:=World.ownsRow.form h.row a;refine⟨g,cap,rfl,λi hi=>⟨?_,World.ownsRow.frozenAt h.row i⟩⟩;rw[World.ownsRow.cellAt h.row i om];have:=h.len;simp[show i<vs.length by omega]
end
theorem kN{α:Type}(l:List α)(i:Nat)(x d:α)(h:i<l.length):(l.set i x).getD i d=x:=by simp[h]
theorem getD_set_ne{α:Type}(l:List α)(i j:Nat)(x d:α)(h:j≠i):(l.set i x).getD j d=l.getD j d:=by
 simp[db,V_ h]
theorem MatIn.made{B:Nat}{w:World}{v:Value}{n:Nat}(h:w.ownsRow B 51 1 v n (List.replicate n (.slice none 0 0))):MatIn B w v (List.replicate n (.slice none 0 0)) (List.replicate n []):=by
 refine⟨by simpa using h,λi hi=>?_,λi j hi a _=>?_⟩
 ·simp only[cd] at hi;simp[ax,gh,hi];exact Own.nil _ _
 ·simp only[cd] at hi;left;simp[ax,gh,hi,Value.ownBlock]
theorem yY(n:Nat):(madeCells (Value.slice none 0 0).cells (n*1)).toList=List.replicate n (.slice none 0 0):=by
 simp[Value.cells,toList_madeCells_one]
end
section
structure Chg (B C:Nat) (w w':World):Prop where
  os:w'.os=w.os
  tape:w'.tape=w.tape
  output:w'.output=w.output
  size:w.heap.size<=w'.heap.size
  block:∀k,k<w.heap.size->¬(B<=k∧k<C)->w'.heap[k]? =w.heap[k]?
section
variable {B C B' C':Nat} {w w' w'':World}
theorem Chg.refl(B C:Nat)(w:World):Chg B C w w:=⟨rfl,rfl,rfl,K_ _,λ_ _ _=>rfl⟩
theorem Chg.trans(h:Chg B C w w')(k:Chg B C w' w''):Chg B C w w'':=
 ⟨k.os.trans h.os,k.tape.trans h.tape,k.output.trans h.output,aH h.size k.size,λi hi a=>(k.block i (bh hi h.size) a).trans (h.block i hi a)⟩
theorem Keeps.chg(h:Keeps w w')(B C:Nat):Chg B C w w':=⟨h.os,h.tape,h.output,h.size,λk a _=>h.block k a⟩
theorem Chg.of_grown{r:Option Nat}(h:w.grownBy w' r)(a:∀k,r=some k->B<=k∧k<C):Chg B C w w':=
 ⟨h.os,h.tape,h.output,h.size,λk b d=>h.block k b λe=>d (a k e.symm)⟩
theorem Chg.keeps{w0:World}(h:Chg B C w w')(k:Keeps w0 w)(a:w0.heap.size<=B):Keeps w0 w':=
 ⟨h.os.trans k.os,h.tape.trans k.tape,h.output.trans k.output,aH k.size h.size,λi hi=>(h.block i (bh hi k.size) om).trans (k.block i hi)⟩
theorem Chg.mono(h:Chg B C w w')(b:B'<=B)(d:C<=C'):Chg B' C' w w':=
 ⟨h.os,h.tape,h.output,h.size,λk a e=>h.block k a om⟩
theorem qd{D:Nat}{e:TypeId}{size:Nat}{v:Value}{n:Nat}{xs:List Value}(h:w.ownsRow D e size v n xs)(c:Chg B C w w')(i:∀k,v.ownBlock=some k->¬(B<=k∧k<C)):w'.ownsRow D e size v n xs:=by
 obtain⟨f,a⟩:=h;refine⟨f,?_⟩;rcases a with a|⟨g,cap,b,rfl,j,d,r⟩
 ·exact .inl a
 ·exact .inr ⟨g,cap,b,rfl,j,by rw[c.block g (ct.1 d).1 (i g rfl)];exact d,r⟩
end
structure OwI (B C:Nat) (w:World) (v:Value) (l:List Int):Prop where
  own:Own B w v l
  hi:∀k,v.ownBlock=some k->k<C
def OwM(B C:Nat)(w:World)(v:Value)(LL:List (List Int)):Prop:=
  ∃vs,MatIn B w v vs LL∧(∀k,v.ownBlock=some k->k<C)∧∀i,i<LL.length->∀k,(vs.getD i undef).ownBlock=some k->k<C
section
variable {B C B' C':Nat} {w w' w'':World} {v:Value} {l:List Int} {LL:List (List Int)} {vs:List Value}
theorem OwI.chg(h:OwI B C w v l)(c:Chg B' C' w w')(b:C<=B'∨C'<=B):OwI B C w' v l:=
 ⟨qd h.own c λk a=>by have:=h.hi k a;have:=(h.own.lt k a).1;omega,h.hi⟩
theorem MatIn.owM(h:MatIn B w v vs LL):OwM B w.heap.size w v LL:=
 ⟨vs,h,λk a=>(World.ownsRow.lt h.row k a).2,λi hi k a=>((h.own i hi).lt k a).2⟩
theorem OwM.rows(h:OwM B C w v LL):IntRows w v LL:=by obtain⟨vs,h,_⟩:=h;exact h.rows
theorem OwM.keep(h:OwM B C w v LL)(k:Keeps w w'):OwM B C w' v LL:=by obtain⟨vs,h,b,a⟩:=h;exact⟨vs,h.keep k,b,a⟩
theorem OwM.mono(h:OwM B C w v LL)(b:B'<=B)(d:C<=C'):OwM B' C' w v LL:=by
 obtain⟨vs,h,f,e⟩:=h;exact⟨vs,⟨World.ownsRow.mono h.row b,λi hi=>(h.own i hi).mono b,h.apart⟩,λk a=>bh (f k a) d,λi hi k a=>bh (e i hi k a) d⟩
theorem OwM.chg(h:OwM B C w v LL)(c:Chg B' C' w w')(e:C<=B'∨C'<=B):OwM B C w' v LL:=by
 obtain⟨vs,h,d,b⟩:=h;refine⟨vs,⟨qd h.row c λk a=>?_,λi hi=>qd (h.own i hi) c λk a=>?_,h.apart⟩,d,b⟩
 ·have:=d k a;have:=(World.ownsRow.lt h.row k a).1;omega
 ·have:=b i hi k a;have:=((h.own i hi).lt k a).1;omega
end
theorem MatIn.set_{B:Nat}{w:World}{g n cap:Nat}{vs:List Value}{LL:List (List Int)}{i:Nat}{l:List Int}{r:Value}(h:MatIn B w (.slice (some ⟨g,0,none⟩) n cap) vs LL)(hi:i<LL.length)
  (x:Own B w r l) (o:∀j,j<LL.length->j≠i->Apart r (vs.getD j undef)):
  MatIn B (w.setCell ⟨g,i,none⟩ r) (.slice (some ⟨g,0,none⟩) n cap) (vs.set i r) (LL.set i l):=by
 have E:=h.len;have A:(51:TypeId)≠3:=dc;have b:=h.row;obtain⟨D,F,p,_⟩:=World.ownsRow.form b om;simp only[Value.slice.injEq,Option.some.injEq,Addr.mk.injEq,and_true,true_and] at p;obtain⟨rfl,y,rfl⟩:=p;subst y;obtain⟨s,t⟩:=World.ownsRow.stored b i r;have f:∀{u:Value}{l:List Int},Own B w u l->Own B (w.setCell ⟨g,i,none⟩ r) u l:=λ{u l} q=>
  World.ownsRow.kept q t (sc A.symm q b)
 refine⟨by simpa using s,λj e=>?_,λj k' e m d=>?_⟩
 ·simp only[cG] at e;by_cases a:j=i
  ·subst a;rw[kN _ _ _ _ om,kN _ _ _ _ hi];exact f x
  ·rw[getD_set_ne _ _ _ _ _ a,getD_set_ne _ _ _ _ _ a];exact f (h.own j e)
 ·simp only[cG] at e m;by_cases a:j=i
  ·subst a;rw[kN _ _ _ _ om,getD_set_ne _ _ _ _ _ (V_ d)];exact o k' m (V_ d)
  ·rw[getD_set_ne _ _ _ _ _ a];by_cases k:k'=i
   ·subst k;rw[kN _ _ _ _ om];exact(o j e a).symm
   ·rw[getD_set_ne _ _ _ _ _ k];exact h.apart j k' e m d
theorem MatIn.wrote{B:Nat}{w w':World}{v:Value}{vs:List Value}{LL:List (List Int)}{i:Nat}{l:List Int}(h:MatIn B w v vs LL)(hi:i<LL.length)(e:w.grownBy w' (vs.getD i undef).ownBlock)(g:Own B w' (vs.getD i undef) l):
  MatIn B w' v vs (LL.set i l):=by
 have m:(51:TypeId)≠3:=dc;refine⟨by rw[cG];exact World.ownsRow.kept h.row e (sc m h.row (h.own i hi)),λj b=>?_,λj k b f d=>h.apart j k (su b) (su f) d⟩;simp only[cG] at b;by_cases a:j=i
 ·subst a;rw[kN _ _ _ _ hi];exact g
 ·rw[getD_set_ne _ _ _ _ _ a];exact(h.own j b).kept e (h.apart j i b hi a)
theorem sC{α:Type}(LL:List α)(d:α)(j:Nat)(a:j<LL.length):(LL.take j++List.replicate (LL.length-j) d).set j (LL.getD j d)=LL.take (j+1)++List.replicate (LL.length-(j+1)) d:=by
 have e:(LL.take j).length=j:=by simp;omega
 obtain⟨q,b⟩:∃q,LL.length-j=q+1:=⟨LL.length-j-1,om⟩;rw[b,mu,yc _ _ om,e,fh,rb,show LL.length-(j+1)=q by omega,jS a,bC,ax,x_ a];rfl
def off(LL:List (List Int))(i:Nat):Nat:=((LL.take i).map List.length).sum
def tot(LL:List (List Int)):Nat:=LL.length+off LL LL.length
theorem fR(LL:List (List Int))(i:Nat)(h:i<LL.length):off LL (i+1)=off LL i+(LL.getD i []).length:=by
 unfold off;rw[jS h,ax,x_ h];simp only[ew,List.sum_append,bd,eu,fk,List.sum_nil,dT,dd]
theorem qa(LL:List (List Int)):∀(j i:Nat),i<=j->j<=LL.length->off LL i<=off LL j
 |0,i,h,_=>by rw[show i=0 by omega];exact K_ _
 |j+1,i,h,a=>by
  by_cases e:i=j+1
  ·rw[e];exact K_ _
  ·have:=qa LL j i om om;rw[fR LL j om];omega
theorem fX(LL:List (List Int))(i:Nat)(h:i<=LL.length):off LL i<=tot LL:=by
 have:=qa LL LL.length i h (K_ _);unfold tot;omega
theorem qD(LL:List (List Int))(i:Nat)(h:i<LL.length):(LL.getD i []).length<=tot LL:=by
 have:=fX LL (i+1) om;rw[fR LL i h] at this;omega
def szL(left:Int)(n:Nat):Int:=if(n:Int)<=left then left-n else -1
theorem dS{k:IntKind}{a b:Int}(h:a=b):Ending.returned (.int k a)=.returned (.int k b):=by rw[h]
theorem Bl(v:Value)(l:List Int)(left:Int)(w:World)(h:Ints w v l)(h0:0<=left)(h1:left<=1048576):
  Calls Gz 31 #[v,.int .i64 left] w λe w'=>e=.returned (.int .i64 (szL left l.length))∧w=w':=by
 obtain⟨a,c,rfl,hm,hf⟩:=h.form;clear h hf;have HS:Hid (szL left l.length=if(l.length:Int)<=left then left-l.length else -1):=rfl;by_cases hc:(l.length:Int)<=left
 ·have hc':¬left-(l.length:Int)<0:=om;go_enter Kt,Ku;go_wp2;go_ret;exact⟨dS (by rw[HS.out,if_pos hc]),rfl⟩
 ·have hc':left-(l.length:Int)<0:=om;go_enter Kt,Ku;go_wp2;go_ret;exact⟨dS (by rw[HS.out,if_neg om]),rfl⟩
set_option maxHeartbeats 800000 in
theorem lp(v:Value)(LL:List (List Int))(left:Int)(w:World)(h:IntRows w v LL)(h0:0<=left)(h1:left<=1048576):
  Calls Gz 13 #[v,.int .i64 left] w λe w'=>e=.returned (.int .i64 (szL left (tot LL)))∧w=w':=by
 obtain⟨a,c,rfl,hm,hf⟩:=h.form;have HF:=p_ hf;clear h hf;have HS:Hid (szL left (tot LL)=if(tot LL:Int)<=left then left-tot LL else -1):=rfl;have HT:Hid (tot LL=LL.length+off LL LL.length):=rfl;by_cases hc:(LL.length:Int)<=left
 ·have hc':¬left-(LL.length:Int)<0:=om;go_enter Kv,Kw;go_wp2;go_loop [1,5] (λx i=>∃j:Nat,j<=LL.length∧i=.int .i64 j∧x=.int .i64 (left-LL.length-off LL j)∧(off LL j:Int)<=left-LL.length) (λ_ i=>LL.length-(intOf i).toNat);case atStart=>exact⟨0,bj _,rfl,by simp[off],by simp[off];omega⟩
  case round=>
   obtain⟨j,hj,rfl,rfl,ho⟩:=hrel;by_cases hlt:j<LL.length
   ·obtain⟨b,o,u,rfl,hcell,hu⟩:=HF.out j hlt;have HU:=p_ hu;have HO:=p_ (fR LL j hlt);have HOM:=p_ (qa LL LL.length (j+1) om (K_ _));have HZ:Hid (szL (left-LL.length-off LL j) (LL.getD j []).length=if((LL.getD j []).length:Int)<=left-LL.length-off LL j then left-LL.length-off LL j-(LL.getD j []).length else -1):=rfl;clear hu;go_wp2_with fail;refine (Bl _ _ _ _ HU.out om om).mono ?_;rintro e w' ⟨rfl,rfl⟩;by_cases hd:((LL.getD j []).length:Int)<=left-LL.length-off LL j
    ·rw[HZ.out,if_pos hd];have hd':¬left-(LL.length:Int)-(off LL j:Int)-((LL.getD j []).length:Int)<0:=om;generalize hr:(LL.getD j []).length=r at*
     go_wp2;go_round;case rel=>exact⟨j+1,om,by go_num,by rw[HO.out];congr 1;omega,by rw[HO.out];omega⟩
     case measure=>simp[intOf];omega
    ·rw[HZ.out,if_neg hd];go_wp2;go_ret;refine⟨dS ?_,rfl⟩;have:=HT.out;have:=HO.out;have:=HOM.out;rw[HS.out,if_neg om]
   ·go_wp2;go_ret;have he:j=LL.length:=om;subst he;refine⟨dS ?_,rfl⟩;have:=HT.out;rw[HS.out,if_pos om];omega
 ·have hc':left-(LL.length:Int)<0:=om;go_enter Kv,Kw;go_wp2;go_ret;refine⟨dS ?_,rfl⟩;have:=HT.out;rw[HS.out,if_neg om]
set_option maxHeartbeats 800000 in
theorem sP(v:Value)(LL:List (List Int))(w:World)(h:IntRows w v LL)(hl:tot LL<=1048576):
  Calls Gz 19 #[v] w λe w'=>∃r,e=.returned r∧OwM w.heap.size w'.heap.size w' r LL∧Keeps w w':=by
 obtain⟨a,c,rfl,hm,hf⟩:=h.form;have HF:=p_ hf;clear h hf;have hlen:LL.length<=1048576:=by unfold tot at hl;omega
 have HR:=p_ (qD LL);obtain⟨i0,hi,hz0,hz1,hz2⟩:=info_parts BM;have HI:=p_ hi;have HZ0:=p_ hz0;have HZ1:=p_ hz1;have HZ2:=p_ hz2;clear hi hz0 hz1 hz2;go_enter Tryz.func19,Tryz.ntmps19;go_wp2_with (at_make;refine wpList_make_full _ rfl _ _ 22 rfl w.heap.size 51 i0 (.slice none 0 0) 1 Tryz.underlying22 HI.out HZ0.out HZ1.out .i64 .i64 _ _ LL.length rfl rfl rfl rfl (by rw[HZ2.out];omega) (by unfold maxLen;omega) (K_ _) ?_;intro w1 hown hgr);rw[yY] at hown;have H1:Hid (MatIn w.heap.size w1 (.slice (some ⟨w.heap.size,0,none⟩) LL.length LL.length) (List.replicate LL.length (.slice none 0 0)) (List.replicate LL.length [])):=MatIn.made hown;have H2:Hid (Below w.heap.size w w1):=(oJ _ _).grown hgr (K_ _) sy;clear hown hgr HI HZ0 HZ1 HZ2;go_wp2;go_loopw [4] (λi wr=>∃(j:Nat)(vs:List Value),j<=LL.length∧i=.int .i64 j∧MatIn w.heap.size wr (.slice (some ⟨w.heap.size,0,none⟩) LL.length LL.length) vs (LL.take j++List.replicate (LL.length-j) [])∧Keeps w wr) (λi _=>LL.length-(intOf i).toNat);case atStart=>exact⟨0,_,bj _,rfl,by simpa using H1.out,H2.out⟩
 case round=>
  obtain⟨j,vs,hj,rfl,hM,hK⟩:=hrel;have HM:=p_ hM;have HK:=p_ hK;clear hM hK H1 H2;by_cases hlt:j<LL.length
  ·obtain⟨b,o,u,rfl,hc0,hu0⟩:=HF.out j hlt;have hc:=l_ HK.out hc0;have HU:=p_ (hu0.keep HK.out);have hrl:=HR.out j hlt;clear hc0 hu0;go_wp2_with fail;refine (BE _ _ _ HU.out om).mono ?_;rintro e w2 ⟨r,rfl,hO,hK2⟩;have hM2:=HM.out.keep hK2;have hjl:j<(LL.take j++List.replicate (LL.length-j) ([]:List Int)).length:=by simp;omega
   obtain⟨g,cap,hv,hcell⟩:=hM2.form om;simp only[Value.slice.injEq,Option.some.injEq,Addr.mk.injEq] at hv;obtain⟨⟨rfl,-⟩,-,rfl⟩:=hv;obtain⟨c1,c2⟩:=hcell j hjl;have c1':∃u,w2.cell? ⟨w.heap.size,j,none⟩=some u:=⟨_,c1⟩;clear c1 hcell;obtain⟨u',c1⟩:=c1';have HN:=p_ (hM2.set_ hjl (hO.mono HK.out.size) (λi hi _=>(Own.apart_old (HM.out.own i hi) hO (K_ _)).symm));have HKN:Hid (Keeps w (w2.setCell ⟨w.heap.size,j,none⟩ r)):=(Keeps.trans HK.out hK2).setCell (K_ _) _;obtain⟨ra,rn,rc,rfl⟩:=hO.sl;clear hM2 hO hK2 HU;go_wp2;go_roundw;case rel=>
    refine⟨j+1,vs.set j (.slice ra rn rc),om,by go_num,?_,HKN.out⟩;have h5:=HN.out;have e1:=sC LL [] j hlt;rw[e1] at h5;exact h5
   case measure=>simp[intOf];omega
  ·go_wp2;go_ret;have he:j=LL.length:=om;subst he;have h5:=HM.out;rw[fh,mA,bm,cc] at h5;exact⟨_,rfl,h5.owM,HK.out⟩
theorem zX{d b:List (List Int)}{k:Nat}(h:d.take k=b.take k)(g:d.length=b.length)(e:k<d.length)(f:d.getD k []=b.getD k []):d.take (k+1)=b.take (k+1):=by
 have a:k<b.length:=om;rw[jS e,jS a,h];simp[ax,e,a] at f;rw[f]
set_option maxHeartbeats 800000 in
theorem ti(va vb:Value)(la lb:List (List Int))(w:World)(ha:IntRows w va la)(hb:IntRows w vb lb):
  Calls Gz 26 #[va,vb] w λe w'=>e=.returned (.bool (decide (la=lb)))∧Dr w w':=by
 have HAA:=p_ ha;have HBB:=p_ hb;obtain⟨a,ca,rfl,ma,fa⟩:=ha.form;obtain⟨b,cb,rfl,mb,fb⟩:=hb.form;clear fa fb ha hb;by_cases hl:la.length=lb.length
 ·have Hl:=p_ hl;have hl':((la.length:Int) !=(lb.length:Int))=false:=by simp[hl]
  clear hl;go_enter II,Kx;go_wp2;go_loopw [5] (λi wr=>∃k:Nat,k<=la.length∧i=.int .i64 k∧la.take k=lb.take k∧Dr w wr) (λi _=>la.length-(intOf i).toNat);case atStart=>exact⟨0,bj _,rfl,rfl,Dr.refl w⟩
  case round=>
   obtain⟨k,hk,rfl,ht,hD⟩:=hrel;have Ht:=p_ ht;have HD:=p_ hD;clear ht hD;by_cases hlt:k<la.length
   ·obtain⟨_,_,e1,_,fa⟩:=(HAA.out.keep HD.out.keeps).form;cases e1
    obtain⟨_,_,e2,_,fb⟩:=(HBB.out.keep HD.out.keeps).form;cases e2
    obtain⟨ba,oa,ua,rfl,hca,hua⟩:=fa k hlt;have hlt2:k<lb.length:=by have:=Hl.out;omega
    obtain⟨bb,ob,ub,rfl,hcb,hub⟩:=fb k hlt2;have HUA:=p_ hua;have HUB:=p_ hub;clear fa fb hua hub;generalize hx:la.getD k []=x at HUA;generalize hy:lb.getD k []=y at HUB;have Hx:=p_ hx;have Hy:=p_ hy;clear hx hy;have HC:∀n,Hid (Calls Gz 47 #[ua,ub] (wr.drewN n) λe w'=>e=.returned (.bool (decide (x=y)))∧∃m,w'=(wr.drewN n).drewN m):=λn=>Bk ua ub x y _ (HUA.out.keep ((Keeps.refl _).drewN n)) (HUB.out.keep ((Keeps.refl _).drewN n));cases hd:decide (x=y)
    ·have Hd:=p_ hd;clear hd;go_wp2;go_quiet ((go_at_call 47;exact Calls.quiet_of (HC _).out));rw[Hd.out];go_wp2;go_ret;refine⟨?_,HD.out.more _⟩;have hne:la≠lb:=by
      intro h;have h1:=Hx.out;have h2:=Hy.out;have h3:=Hd.out;rw[h,h2] at h1;simp[h1] at h3
     simp[hne]
    ·have Hd:=p_ hd;clear hd;go_wp2;go_quiet ((go_at_call 47;exact Calls.quiet_of (HC _).out));rw[Hd.out];go_wp2;go_roundw;case rel=>exact⟨k+1,om,by go_num,zX Ht.out Hl.out hlt (by rw[Hx.out,Hy.out];simpa using Hd.out),HD.out.more _⟩
     case measure=>simp[intOf];omega
   ·go_wp2;go_ret;refine⟨?_,HD.out⟩;have he:la=lb:=by
     have h1:=Ht.out;rw[cu om,cu (by have:=Hl.out;omega)] at h1;exact h1
    simp[he]
 ·have hl':((la.length:Int) !=(lb.length:Int))=true:=by simp;omega
  have hne:Hid (decide (la=lb)=false):=by
   have:la≠lb:=λh=>hl (by rw[h]);show decide (la=lb)=false;simp[this]
  clear hl;go_enter II,Kx;go_wp2;go_ret;exact⟨by rw[hne.out];rfl,Dr.refl w⟩
def numbered(k:Int)(LL:List (List Int))(j:Nat):List (List Int):=(List.range LL.length).map λi=>if i<j then iota (k+off LL i) (LL.getD i []).length else LL.getD i []
theorem ii(k:Int)(LL:List (List Int))(j:Nat):(numbered k LL j).length=LL.length:=by simp[numbered]
theorem sp(k:Int)(LL:List (List Int))(j i:Nat)(h:i<LL.length):(numbered k LL j).getD i []=if i<j then iota (k+off LL i) (LL.getD i []).length else LL.getD i []:=by
 simp[numbered,h]
theorem sd(k:Int)(LL:List (List Int)):numbered k LL 0=LL:=by
 apply dr
 ·simp[numbered]
 ·intro i b a;simp[numbered,a]
theorem sm(k:Int)(LL:List (List Int))(j:Nat)(h:j<LL.length):numbered k LL (j+1)=(numbered k LL j).set j (iota (k+off LL j) (LL.getD j []).length):=by
 apply dr
 ·simp[numbered]
 ·intro i d b;rw[FM];by_cases e:j=i
  ·subst e;simp[numbered]
  ·simp only[numbered,FN,FO,if_neg e];by_cases a:i<j
   ·rw[if_pos a,if_pos om]
   ·rw[if_neg a,if_neg om]
set_option maxHeartbeats 800000 in
theorem sg(B C:Nat)(v:Value)(LL:List (List Int))(k:Int)(w:World)(h:OwM B C w v LL)(hk:0<=k)(hk2:k+tot LL<=4611686018427387904):
  Calls Gz 27 #[v,.int .i64 k] w λe w'=>e=.returned (.int .i64 (k+off LL LL.length))∧OwM B C w' v (numbered k LL LL.length)∧Chg B C w w':=by
 obtain⟨vs,hM0,hC1,hC2⟩:=h;have HM0:=p_ hM0;have HC1:=p_ hC1;have HC2:=p_ hC2;obtain⟨a,c,rfl,hm,_⟩:=hM0.rows.form;clear hM0 hC1 hC2;have HO:=p_ (fX LL);have HOS:=p_ (fR LL);go_enter Tryz.func27,Tryz.ntmps27;go_wp2;go_loopw [1,5] (λx i wr=>∃j:Nat,j<=LL.length∧i=.int .i64 j∧x=.int .i64 (k+off LL j)∧MatIn B wr (.slice a LL.length c) vs (numbered k LL j)∧Chg B C w wr) (λ_ i _=>LL.length-(intOf i).toNat);case atStart=>exact⟨0,bj _,rfl,by simp[off],by rw[sd];exact HM0.out,Chg.refl _ _ _⟩
 case round=>
  obtain⟨j,hj,rfl,rfl,hM,hG⟩:=hrel;have HM:=p_ hM;have HG:=p_ hG;clear hM hG;by_cases hlt:j<LL.length
  ·have hjl:j<(numbered k LL j).length:=by rw[ii];exact hlt
   obtain⟨g,cap,hv,hcell⟩:=HM.out.form om;simp only[Value.slice.injEq] at hv;obtain⟨rfl,-,rfl⟩:=hv;obtain⟨c1,c2⟩:=hcell j hjl;clear hcell;have hO:=HM.out.own j hjl;rw[sp k LL j j hlt,if_neg (yd _)] at hO;have HOW:=p_ hO;have b1:=HO.out (j+1) om;have b2:=HOS.out j hlt;have HX:=p_ (HC2.out j hlt);have HW:Hid (∀w' l,wr.grownBy w' (vs.getD j undef).ownBlock->Own B w' (vs.getD j undef) l->MatIn B w' (.slice (some ⟨g,0,none⟩) LL.length c) vs ((numbered k LL j).set j l)):=λw' l hg ho=>HM.out.wrote hjl hg ho;clear hO;generalize vs.getD j undef=u at c1 HOW HX HW;have hb:k+(off LL j:Int)+((LL.getD j []).length:Int)<=4611686018427387904:=om;have B2:=p_ b2;clear b2;have HNS:=p_ (sm k LL j hlt);generalize LL.getD j []=r at HOW B2 hb HNS;go_wp2_with fail;refine (sB B _ _ _ _ HOW.out om hb).mono ?_;rintro e w2 ⟨rfl,hO2,hG2⟩;have HN:=p_ (HW.out w2 _ hG2 hO2);have HGN:Hid (Chg B C w w2):=HG.out.trans (Chg.of_grown hG2 λq hq=>⟨(HOW.out.lt q hq).1,HX.out q hq⟩);clear hO2 hG2;go_wp2;go_roundw;case rel=>exact⟨j+1,om,by go_num,by rw[B2.out];congr 1;omega,by rw[HNS.out];exact HN.out,HGN.out⟩
   case measure=>simp[intOf];omega
  ·go_wp2;go_ret;have he:j=LL.length:=om;subst he;exact⟨rfl,⟨vs,HM.out,HC1.out,λi hi=>HC2.out i (by rw[ii] at hi;exact hi)⟩,HG.out⟩
end
theorem Chg.setCell1(w:World)(g i:Nat)(u:Value):Chg g (g+1) w (w.setCell ⟨g,i,none⟩ u):=
 ⟨rfl,rfl,rfl,by simp[World.setCell],λk a b=>Below.heap_setCell w ⟨g,i,none⟩ u k (by simp;omega)⟩
theorem eb(w:World)(p:Addr)(u:Value):(w.setCell p u).heap.size=w.heap.size:=by simp[World.setCell]
theorem OwM.setC{B C:Nat}{w:World}{v:Value}{LL:List (List Int)}(h:OwM B C w v LL){g:Nat}(a:g<B)(i:Nat)(u:Value):OwM B C (w.setCell ⟨g,i,none⟩ u) v LL:=
 h.chg (Chg.setCell1 w g i u) (.inr a)
theorem bcell{W a:World}(d:Keeps W a):(∀b o,b<W.heap.size->a.cell? ⟨b,o,none⟩=W.cell? ⟨b,o,none⟩)∧(∀b o,b<W.heap.size->a.frozen? ⟨b,o,none⟩=W.frozen? ⟨b,o,none⟩):=
 ⟨λb o h=>qP (p:=⟨b,o,none⟩) d h,λb o h=>Below.frozen (p:=⟨b,o,none⟩) d h⟩
section
open Go.ChangeShapes Go.WideShapes Go.ChangeAt Go.RowKit
set_option maxRecDepth 100000
def I64(n:Int):Prop:= -9223372036854775808<=n∧n<=9223372036854775807
theorem pK{n:Int}(h:(Lit.int .i64 n).wf=true):I64 n:=by
 have:=bounds_i64 h;exact this
variable {H:Type} {enc:TypeId×Value->H} {W:World}
theorem openInt{base:Nat}{v:Value}{d:DataW H}{p:List MemPlace}(a:Value.okWide Gz W .any base 3 v)
  (h:DataW.Trod enc Gz W 0 (λ_=>true) true 3 v d p):∃n:Int,v=.int .i64 n∧I64 n:=by
 obtain⟨n,b,_,_,e⟩:=open_int Tryz.underlying3 a h;exact⟨n,b,pK e⟩
end
section
structure RP where
  labels:Int
  children:Int
  lines:List (List Int)
section
variable {B C B' C':Nat} {w w':World} {v:Value} {x:RP}
end
end
theorem tw{w:World}{b o:Nat}{v:Value}(h:w.cell? ⟨b,o,none⟩=some v):b<w.heap.size:=by
 simp only[World.cell?] at h;cases a:w.heap[b]? with
 |none=>rw[a] at h;simp at h
 |some x=>exact(ct.1 a).1
theorem Ints.rdl{w:World}{v:Value}{l:List Int}(h:Ints w v l):RdL zt w v l:=by
 obtain⟨a,c,rfl,k,m,d⟩:=h;refine⟨a,c,sy,by simpa using k,m,λi x g=>?_⟩;rcases d with d|⟨b,off,rfl,d⟩
 ·simp at d;subst d;simp at g
 ·have f:=d i (.int .i64 x) (by rw[aZ,g];rfl);refine⟨b,off,[.int .i64 x],rfl,rfl,tw f,λj u e=>?_,rfl⟩;cases j with
  |zero=>simp at e;subst e;simpa [Rp.sz] using f
  |succ j=>simp at e
theorem IntRows.rdl{w:World}{v:Value}{LL:List (List Int)}(h:IntRows w v LL):RdL zt w v LL:=by
 obtain⟨vs,⟨a,c,rfl,q,o,d⟩,k,p⟩:=h;refine⟨a,c,by rw[k],om,o,λi x m=>?_⟩;have hi:i<LL.length:=(Y_.1 m).1;rcases d with d|⟨b,off,rfl,d⟩
 ·subst d;simp at k;omega
 ·have n:vs[i]? =some (vs.getD i undef):=by rw[ax,x_ om];rfl
  have g:=d i _ n;have e:=p i om;rw[ax (l:=LL),m] at e;refine⟨b,off,[vs.getD i undef],rfl,rfl,tw g,λj u f=>?_,⟨_,rfl,e.rdl⟩⟩;cases j with
  |zero=>simp at f;subst f;simpa [Rp.sz] using g
  |succ j=>simp at f
theorem CT{css:List (List Value)}{l:List Int}(b:css.length=l.length)(h:∀(i:Nat) cs x,css[i]? =some cs->l[i]? =some x->cs=[.int .i64 x]):css.flatten=l.map (Value.int .i64):=by
 induction css generalizing l with
 |nil=>cases l with
  |nil=>rfl
  |cons a l=>simp at b
 | cons c css ih=>cases l with
  |nil=>simp at b
  |cons a l=>
   have e:=h 0 c a rfl rfl;subst e;rw[br,ih (su b) (λi cs x f d=>h (i+1) cs x (su f) (su d))];rfl
theorem Ow.own_ints{B k:Nat}{o:Tg}{w:World}{v:Value}{l:List Int}(h:Ow B 3 k o w v l):Own B w v l:=by
 obtain⟨css,e,d,g,f⟩:=h;rw[CT e (λi cs x a b=>f i cs x a b)] at d;exact d
def ot:Tg:=λ_=>1
theorem EB{css:List (List Value)}{vs:List Hv}(b:css.length=vs.length)(h:∀(i:Nat) cs x,css[i]? =some cs->vs[i]? =some x->cs=[x.v]∧x.v.oneCell'=true):css.flatten=vs.map Hv.v:=by
 induction css generalizing vs with
 |nil=>cases vs with
  |nil=>rfl
  |cons a l=>simp at b
 | cons c css ih=>cases vs with
  |nil=>simp at b
  |cons a l=>
   have e:=(h 0 c a rfl rfl).1;subst e;rw[br,ih (su b) (λi cs x f d=>h (i+1) cs x (su f) (su d))];rfl
section
structure PR where
  labels:Int
  degree:Int
  nodes:List (List Int)
  edges:List (List Int)
def RdP(w:World)(v:Value)(x:PR):Prop:=∃v2 v3,v=.agg #[.int .i64 x.labels,.int .i64 x.degree,v2,v3]∧IntRows w v2 x.nodes∧IntRows w v3 x.edges
def OwP(B C:Nat)(w:World)(v:Value)(x:PR):Prop:=∃v2 v3,v=.agg #[.int .i64 x.labels,.int .i64 x.degree,v2,v3]∧∃a b c d,B<=a∧b<=C∧B<=c∧d<=C∧(b<=c∨d<=a)∧OwM a b w v2 x.nodes∧OwM c d w v3 x.edges
def szP(x:PR):Nat:=tot x.nodes+tot x.edges
section
variable {B C B' C':Nat} {w w':World} {v:Value} {x:PR}
theorem RdP.keep(h:RdP w v x)(k:Keeps w w'):RdP w' v x:=by obtain⟨b,d,e,a,f⟩:=h;exact⟨b,d,e,a.keep k,f.keep k⟩
theorem OwP.rd(h:OwP B C w v x):RdP w v x:=by obtain⟨b,d,e,n,j,k,p,l0,o,m,g,i,a,f⟩:=h;exact⟨b,d,e,a.rows,f.rows⟩
theorem OwP.keep(h:OwP B C w v x)(k:Keeps w w'):OwP B C w' v x:=by obtain⟨g,i,e,o,f,m,q,l0,p,n,a,d,b,j⟩:=h;exact⟨g,i,e,o,f,m,q,l0,p,n,a,d,b.keep k,j.keep k⟩
theorem OwP.chg(h:OwP B C w v x)(c:Chg B' C' w w')(q:C<=B'∨C'<=B):OwP B C w' v x:=by obtain⟨g,i,e,n,f,k,p,l0,o,m,a,d,b,j⟩:=h;exact⟨g,i,e,n,f,k,p,l0,o,m,a,d,b.chg c om,j.chg c om⟩
theorem RdP.shape(h:RdP w v x):∃b d e a,v=.agg #[.int .i64 x.labels,.int .i64 x.degree,.slice b x.nodes.length d,.slice e x.edges.length a]:=by
 obtain⟨i,j,rfl,f,g⟩:=h;obtain⟨b,d,rfl,_⟩:=f.form;obtain⟨e,a,rfl,_⟩:=g.form;exact⟨_,_,_,_,rfl⟩
end
set_option maxHeartbeats 800000 in
theorem sk(v:Value)(x:PR)(left:Int)(w:World)(h:RdP w v x)(h0:0<=left)(h1:left<=1048576):
  Calls Gz 4 #[v,.int .i64 left] w λe w'=>e=.returned (.int .i64 (szL left (szP x)))∧Keeps w w':=by
 obtain⟨v2,v3,rfl,r2,r3⟩:=h;have R2:=p_ r2;have R3:=p_ r3;obtain⟨a2,c2,rfl,_⟩:=r2.form;obtain⟨a3,c3,rfl,_⟩:=r3.form;have HX:Hid (szP x=tot x.nodes+tot x.edges):=rfl;clear r2 r3;generalize hs0:tot x.nodes=s0 at HX;have HS0:=p_ hs0;clear hs0;generalize hs1:tot x.edges=s1 at HX;have HS1:=p_ hs1;clear hs1;by_cases hb0:(s0:Int)<=left;case neg=>
  have hb0':left<(s0:Int):=om;go_enter IJ,IK;go_wp2_with fail;refine (lp _ x.nodes left _ (R2.out.keep (by repeat (first|exact Keeps.refl _|with_reducible refine Keeps.alloc ?_ _))) om om).mono ?_;rintro e w' ⟨rfl,rfl⟩;rw[show tot x.nodes=s0 from HS0.out];rw[szL,if_neg (show ¬(s0:Int)<=left by omega)];go_wp2;go_ret;exact⟨dS (by rw[HX.out,szL,if_neg om]),(by repeat (first|exact Keeps.refl _|with_reducible refine Keeps.alloc ?_ _))⟩
 by_cases hb1:(s0:Int)+(s1:Int)<=left;case neg=>
  have hb1':left<(s0:Int)+(s1:Int):=om;have hn0:¬left-(s0:Int)<0:=om;go_enter IJ,IK;go_wp2_with fail;refine (lp _ x.nodes left _ (R2.out.keep (by repeat (first|exact Keeps.refl _|with_reducible refine Keeps.alloc ?_ _))) om om).mono ?_;rintro e w' ⟨rfl,rfl⟩;rw[show tot x.nodes=s0 from HS0.out];rw[szL,if_pos (show(s0:Int)<=left by omega)];go_wp2_with fail;refine (lp _ x.edges (left-(s0:Int)) _ (R3.out.keep (by repeat (first|exact Keeps.refl _|with_reducible refine Keeps.alloc ?_ _))) om om).mono ?_;rintro e w' ⟨rfl,rfl⟩;rw[show tot x.edges=s1 from HS1.out];rw[szL,if_neg (show ¬(s1:Int)<=(left-(s0:Int)) by omega)];go_wp2;go_ret;exact⟨dS (by rw[HX.out,szL,if_neg om]),(by repeat (first|exact Keeps.refl _|with_reducible refine Keeps.alloc ?_ _))⟩
 have hn0:¬left-(s0:Int)<0:=om;have hn1:¬left-(s0:Int)-(s1:Int)<0:=om;go_enter IJ,IK;go_wp2_with fail;refine (lp _ x.nodes left _ (R2.out.keep (by repeat (first|exact Keeps.refl _|with_reducible refine Keeps.alloc ?_ _))) om om).mono ?_;rintro e w' ⟨rfl,rfl⟩;rw[show tot x.nodes=s0 from HS0.out];rw[szL,if_pos (show(s0:Int)<=left by omega)];go_wp2_with fail;refine (lp _ x.edges (left-(s0:Int)) _ (R3.out.keep (by repeat (first|exact Keeps.refl _|with_reducible refine Keeps.alloc ?_ _))) om om).mono ?_;rintro e w' ⟨rfl,rfl⟩;rw[show tot x.edges=s1 from HS1.out];rw[szL,if_pos (show(s1:Int)<=(left-(s0:Int)) by omega)];go_wp2;go_ret;exact⟨dS (by rw[HX.out,szL,if_pos om];(try omega)),(by repeat (first|exact Keeps.refl _|with_reducible refine Keeps.alloc ?_ _))⟩
set_option maxHeartbeats 800000 in
theorem mW(v:Value)(x:PR)(w:World)(h:RdP w v x)(hs:szP x<=1048576):
  Calls Gz 6 #[v] w λe w'=>∃r,e=.returned r∧OwP w.heap.size w'.heap.size w' r x∧Keeps w w':=by
 obtain⟨v2,v3,rfl,r2,r3⟩:=h;have R2:=p_ r2;have R3:=p_ r3;obtain⟨a2,c2,rfl,_⟩:=r2.form;obtain⟨a3,c3,rfl,_⟩:=r3.form;unfold szP at hs;clear r2 r3;go_enter Tryz.func6,Tryz.ntmps6;go_wp2_with fail;refine (sP _ x.nodes _ (R2.out.keep (by repeat (first|exact Keeps.refl _|with_reducible refine Keeps.alloc ?_ _))) om).mono ?_;rintro e W0 ⟨t0,rfl,hO,hK⟩;have HO0:=p_ (OwM.mono hO (show w.heap.size+3<=_ by simp[eb]) (K_ _));have HK0:Hid (Keeps w W0):=Keeps.trans (by repeat (first|exact Keeps.refl _|with_reducible refine Keeps.alloc ?_ _)) hK;have hz0:w.heap.size+3<=W0.heap.size:=by have:=hK.size;simp[eb] at this;omega
 obtain⟨hc0,hf0⟩:=bcell hK;obtain⟨ta0,tc0,rfl,_⟩:=hO.rows.form;have e0:W0.cell? ⟨w.heap.size+1+1,0,none⟩=some (.int .i64 x.labels):=by rw[hc0 _ _ sy];simp[go_sem]
 have e1:W0.cell? ⟨w.heap.size+1+1,1,none⟩=some (.int .i64 x.degree):=by rw[hc0 _ _ sy];simp[go_sem]
 have e3:W0.cell? ⟨w.heap.size+1+1,3,none⟩=some (.slice none 0 0):=by rw[hc0 _ _ sy];simp[go_sem]
 have ef:∀o,W0.frozen? ⟨w.heap.size+1+1,o,none⟩=false:=λo=>by rw[hf0 _ _ sy];simp[go_sem]
 clear hO hK;go_wp2_with fail;refine (sP _ x.edges _ (R3.out.keep (by repeat (first|exact HK0.out|with_reducible refine ye ?_ (by simp;omega) _))) om).mono ?_;rintro e W1 ⟨t1,rfl,hO,hK⟩;have HO1:=p_ (OwM.mono hO (show W0.heap.size<=_ by simp[eb]) (K_ _));have HK1:Hid (Keeps w W1):=Keeps.trans (by repeat (first|exact HK0.out|with_reducible refine ye ?_ (by simp;omega) _)) hK;have HO0':=p_ (OwM.keep (OwM.setC HO0.out om _ _) hK);clear HO0;have HO0:=HO0';clear HO0';have hz1:W0.heap.size<=W1.heap.size:=by have:=hK.size;simp[eb] at this;omega
 obtain⟨hc,hf⟩:=bcell hK;have hlt:w.heap.size+1+1<(W0.setCell ⟨w.heap.size+1+1,2,none⟩ (.slice ta0 x.nodes.length tc0)).heap.size:=by simp only[eb];omega
 have d2':W0.cell? ⟨w.heap.size+1+1,2,none⟩=some (.slice none 0 0):=by rw[hc0 _ _ sy];simp[go_sem]
 have d0:W1.cell? ⟨w.heap.size+1+1,0,none⟩=some (.int .i64 x.labels):=by rw[hc _ _ hlt,fl _ _ _ _ (by intro h;injection h with h1 h2;cases h2),e0]
 have d1:W1.cell? ⟨w.heap.size+1+1,1,none⟩=some (.int .i64 x.degree):=by rw[hc _ _ hlt,fl _ _ _ _ (by intro h;injection h with h1 h2;cases h2),e1]
 have d2:W1.cell? ⟨w.heap.size+1+1,2,none⟩=some (.slice ta0 x.nodes.length tc0):=by rw[hc _ _ hlt,World.cell?_setCell_same _ _ _ d2']
 have d3:W1.cell? ⟨w.heap.size+1+1,3,none⟩=some (.slice none 0 0):=by rw[hc _ _ hlt,fl _ _ _ _ (by intro h;injection h with h1 h2;cases h2),e3]
 have df:∀o,W1.frozen? ⟨w.heap.size+1+1,o,none⟩=false:=λo=>by rw[hf _ _ hlt,FP,ef]
 have hlt1:w.heap.size+1<(W0.setCell ⟨w.heap.size+1+1,2,none⟩ (.slice ta0 x.nodes.length tc0)).heap.size:=by simp only[eb];omega
 have b0:W1.cell? ⟨w.heap.size+1,0,none⟩=some (.int .i64 0):=by rw[hc _ _ hlt1,fl _ _ _ _ (by intro h;injection h with h1 h2;omega),hc0 _ _ (by first|(simp;done)|(simp;omega))];simp[go_sem]
 have b1:W1.cell? ⟨w.heap.size+1,1,none⟩=some (.int .i64 0):=by rw[hc _ _ hlt1,fl _ _ _ _ (by intro h;injection h with h1 h2;omega),hc0 _ _ (by first|(simp;done)|(simp;omega))];simp[go_sem]
 have b2:W1.cell? ⟨w.heap.size+1,2,none⟩=some (.slice none 0 0):=by rw[hc _ _ hlt1,fl _ _ _ _ (by intro h;injection h with h1 h2;omega),hc0 _ _ (by first|(simp;done)|(simp;omega))];simp[go_sem]
 have b3:W1.cell? ⟨w.heap.size+1,3,none⟩=some (.slice none 0 0):=by rw[hc _ _ hlt1,fl _ _ _ _ (by intro h;injection h with h1 h2;omega),hc0 _ _ (by first|(simp;done)|(simp;omega))];simp[go_sem]
 have bf:∀o,W1.frozen? ⟨w.heap.size+1,o,none⟩=false:=λo=>by rw[hf _ _ hlt1,FP,hf0 _ _ (by first|(simp;done)|(simp;omega))];simp[go_sem]
 clear hc hf hc0 hf0 e0 e1 e3 ef d2';obtain⟨ta1,tc1,rfl,_⟩:=hO.rows.form;clear hO hK;go_wp2;refine bodyPost_ret (v:=.agg #[.int .i64 x.labels,.int .i64 x.degree,.slice ta0 x.nodes.length tc0,.slice ta1 x.edges.length tc1]) (by simp[results,Tryz.results6,go_sem,d0,d1,d2,d3,df,b0,b1,b2,b3,bf]) rfl ⟨_,rfl,⟨_,_,rfl,w.heap.size+3,W0.heap.size,W0.heap.size,W1.heap.size,om,by simp only[eb];omega,om,by simp only[eb];omega,.inl (K_ _),?_,?_⟩,?_⟩
 ·repeat (first|exact HO0.out|with_reducible refine OwM.setC ?_ om _ _)
 ·repeat (first|exact HO1.out|with_reducible refine OwM.setC ?_ om _ _)
 ·repeat (first|exact HK1.out|with_reducible refine ye ?_ (by simp;try omega) _)
set_option maxHeartbeats 800000 in
theorem zy(va vb:Value)(x:PR)(w:World)(ha:RdP w va x)(hb:RdP w vb x):
  Calls Gz 9 #[va,vb] w λe w'=>e=.returned (.bool true)∧Keeps w w':=by
 obtain⟨v2,v3,rfl,r2,r3⟩:=ha;obtain⟨u2,u3,rfl,s2,s3⟩:=hb;have R2:=p_ r2;have R3:=p_ r3;have S2:=p_ s2;have S3:=p_ s3;obtain⟨a2,c2,rfl,_⟩:=r2.form;obtain⟨a3,c3,rfl,_⟩:=r3.form;obtain⟨b2,d2,rfl,_⟩:=s2.form;obtain⟨b3,d3,rfl,_⟩:=s3.form;have e0:(x.labels !=x.labels)=false:=sy;have e1:(x.degree !=x.degree)=false:=sy;clear r2 r3 s2 s3;go_enter Tryz.func9,Tryz.ntmps9;go_wp2_with fail;refine (ti _ _ x.nodes x.nodes _ (R2.out.keep (by repeat (first|exact Keeps.refl _|with_reducible refine Keeps.alloc ?_ _))) (S2.out.keep (by repeat (first|exact Keeps.refl _|with_reducible refine Keeps.alloc ?_ _)))).mono ?_;rintro e W0 ⟨rfl,hD⟩;rw[decide_eq_true rfl];have HK0:Hid (Keeps w W0):=Keeps.trans (by repeat (first|exact Keeps.refl _|with_reducible refine Keeps.alloc ?_ _)) hD.keeps;obtain⟨hc0,hf0⟩:=bcell hD.keeps;have hz0:=hD.keeps.size;clear hD;go_wp2_with fail;refine (ti _ _ x.edges x.edges _ (R3.out.keep HK0.out) (S3.out.keep HK0.out)).mono ?_;rintro e W1 ⟨rfl,hD⟩;rw[decide_eq_true rfl];have HK1:Hid (Keeps w W1):=Keeps.trans HK0.out hD.keeps;obtain⟨hc1,hf1⟩:=bcell hD.keeps;have hz1:=hD.keeps.size;clear hD;go_wp2;go_ret;exact⟨rfl,HK1.out⟩
def cntP(x:PR):Nat:=off x.nodes x.nodes.length+off x.edges x.edges.length
def numP(k:Int)(x:PR):PR:=⟨x.labels,x.degree,numbered (k) x.nodes x.nodes.length,numbered (k+(off x.nodes x.nodes.length:Nat)) x.edges x.edges.length⟩
theorem Eu(x:PR):cntP x<=szP x:=by unfold cntP szP tot;omega
set_option maxHeartbeats 800000 in
theorem zf(B C:Nat)(v:Value)(x:PR)(k:Int)(w:World)(h:OwP B C w v x)(hC:C<=w.heap.size)(hk:0<=k)(hk2:k+szP x<=4611686018427387904):
  Calls Gz 10 #[v,.int .i64 k] w λe w'=>e=.returned (.int .i64 (k+cntP x))∧OwP B C w' v (numP k x)∧Chg B C w w':=by
 obtain⟨v2,v3,rfl,M0,M1,M2,M3,l0,l1,l2,l3,l4,o2,o3⟩:=h;have HX:Hid (cntP x=off x.nodes x.nodes.length+off x.edges x.edges.length):=rfl;unfold szP tot at hk2;have O2:=p_ o2;obtain⟨a2,c2,rfl,_⟩:=o2.rows.form;clear o2;have O3:=p_ o3;obtain⟨a3,c3,rfl,_⟩:=o3.rows.form;clear o3;go_enter Tryz.func10,Tryz.ntmps10;go_wp2_with fail;refine (sg M0 M1 _ x.nodes (k) _ (O2.out.keep (by repeat (first|exact Keeps.refl _|with_reducible refine Keeps.alloc ?_ _))) om (by unfold tot;omega)).mono ?_;rintro e W0 ⟨rfl,hO,hG⟩;have N2:=p_ hO;have G0:Hid (Chg B C w W0):=(Keeps.chg (by repeat (first|exact Keeps.refl _|with_reducible refine Keeps.alloc ?_ _)) B C).trans (hG.mono om om);have O3':=p_ ((O3.out.keep (by repeat (first|exact Keeps.refl _|with_reducible refine Keeps.alloc ?_ _))).chg hG om);clear O3;have O3:=O3';clear O3';have hsz0:=hG.size;have hcc:∀i,W0.cell? ⟨w.heap.size,i,none⟩=(w.alloc (.cells #[.int .i64 x.labels,.int .i64 x.degree,.slice a2 x.nodes.length c2,.slice a3 x.edges.length c3] 31)).cell? ⟨w.heap.size,i,none⟩:=λi=>aY (hG.block w.heap.size sy om);clear hO hG;go_wp2_with fail;refine (sg M2 M3 _ x.edges (k+(off x.nodes x.nodes.length:Nat)) _ (O3.out) om (by unfold tot;omega)).mono ?_;rintro e W1 ⟨rfl,hO,hG⟩;have N3:=p_ hO;have G1:Hid (Chg B C w W1):=G0.out.trans (hG.mono om om);have N2':=p_ (N2.out.chg hG om);clear N2;have N2:=N2';clear N2';have hsz1:=hG.size;have hcc1:∀i,W1.cell? ⟨w.heap.size,i,none⟩=W0.cell? ⟨w.heap.size,i,none⟩:=λi=>aY (hG.block w.heap.size (by simp at hsz0;omega) om);clear hO hG;go_wp2;go_ret;exact⟨dS (by rw[HX.out];(try omega)),⟨_,_,rfl,M0,M1,M2,M3,l0,l1,l2,l3,l4,N2.out,N3.out⟩,G1.out⟩
end
def tP(x:PR):c_:=⟨x.labels,x.degree,x.nodes,x.edges⟩
theorem RdP.rdz{w:World}{v:Value}{x:PR}(h:RdP w v x):∃u:List Value,v=.agg u.toArray∧Rp.rd zt w u (tP x):=by
 obtain⟨a,b,rfl,d,e⟩:=h;exact⟨[.int .i64 x.labels,.int .i64 x.degree,a,b],rfl,a,b,rfl,d.rdl,e.rdl⟩
def okP(x:PR):Prop:=I64 x.labels∧I64 x.degree∧(∀r∈x.nodes,∀n∈r,I64 n)∧∀r∈x.edges,∀n∈r,I64 n
theorem wO{x:PR}(h:szP x<=1048576):x.nodes.length<=1048576∧x.edges.length<=1048576:=by
 unfold szP tot at h;omega
section
section
variable {B C B' C':Nat} {w w':World} {v:Value} {ps:List c_}
end
def nP(k:Int)(p:c_):c_:=⟨k,k+1,numbered (k+1+1) p.Nodes p.Nodes.length,numbered (k+1+1+(off p.Nodes p.Nodes.length:Nat)) p.Edges p.Edges.length⟩
def cQ(p:c_):Nat:=2+(off p.Nodes p.Nodes.length+off p.Edges p.Edges.length)
def offQ(ps:List c_)(i:Nat):Nat:=((ps.take i).map cQ).sum
theorem uv(ps:List c_)(i:Nat)(p:c_)(h:ps[i]? =some p):offQ ps (i+1)=offQ ps i+cQ p:=by
 unfold offQ;rw[dv,h];simp
def szT(p:c_):Nat:=2+(tot p.Nodes+tot p.Edges)
theorem qL(p:c_):cQ p<=szT p:=by unfold cQ szT tot;omega
def szQ(ps:List c_):Nat:=ps.length+(ps.map szT).sum
theorem Ec{ps:List c_}{p:c_}(h:p∈ps):szT p<=szQ ps:=by
 unfold szQ
 induction ps with
 |nil=>cases h
 |cons q ps ih=>
  simp only[bd,fk,ao];rcases I_.1 h with h|h
  ·subst h;omega
  ·have:=ih h;omega
theorem oy(ps:List c_)(i:Nat):offQ ps i<=szQ ps:=by
 unfold offQ szQ
 induction ps generalizing i with
 |nil=>simp
 | cons q ps ih=>
  cases i with
  |zero=>simp
  |succ i=>
   simp only[bi,bd,fk,ao];have:=ih i;have:cQ q<=szT q:=qL _;omega
theorem wK(ps:List c_)(i:Nat)(p:c_)(h:ps[i]? =some p):offQ ps i+szT p<=szQ ps:=by
 unfold offQ szQ
 induction ps generalizing i with
 |nil=>simp at h
 | cons q ps ih=>
  cases i with
  |zero=>
   simp at h;subst h;simp only[bk,eu,List.sum_nil,bd,fk,ao];omega
  |succ i=>
   simp only[bi,bd,fk,ao];have:=ih i (su h);have:cQ q<=szT q:=qL _;omega
theorem Chg.set{w:World}{g i:Nat}{u:Value}:Chg g (g+1) w (w.setCell ⟨g,i,none⟩ u):=
 ⟨rfl,rfl,rfl,sy,λk _ a=>heap_setCell_other w ⟨g,i,none⟩ k u (λe=>a (by simp at e;omega))⟩
def numU(k:Int)(ps:List c_)(j:Nat):List c_:=(List.range ps.length).map λi=>if i<j then nP (k+offQ ps i) (ps.getD i ⟨0,0,[],[]⟩) else ps.getD i ⟨0,0,[],[]⟩
theorem lx(k:Int)(ps:List c_)(j:Nat):(numU k ps j).length=ps.length:=by simp[numU]
theorem CG(k:Int)(ps:List c_):numU k ps 0=ps:=by
 apply dr
 ·simp[numU]
 ·intro i b a;simp[numU,a]
theorem nS(k:Int)(ps:List c_)(j i:Nat)(p:c_)(h:ps[i]? =some p):(numU k ps j)[i]? =some (if i<j then nP (k+offQ ps i) p else p):=by
 have hi:=(Y_.1 h).1;unfold numU;rw[aZ,gl hi];simp only[cn,ax,h,dT]
theorem BW(k:Int)(ps:List c_)(j:Nat)(p:c_)(h:ps[j]? =some p):numU k ps (j+1)=(numU k ps j).set j (nP (k+offQ ps j) p):=by
 have d:=(Y_.1 h).1;apply fi;intro i;rw[db];by_cases hi:i<ps.length
 ·have a:ps[i]? =some ps[i]:=x_ hi;rw[nS k ps (j+1) i _ a];by_cases e:j=i
  ·subst e;rw[if_pos (Nat.lt_succ_self j),if_pos rfl,if_pos (by rw[lx];exact hi)];rw[h] at a;cases a
   rfl
  ·rw[if_neg e,nS k ps j i _ a];by_cases b:i<j
   ·rw[if_pos b,if_pos om]
   ·rw[if_neg b,if_neg om]
 ·rw[cT (by rw[lx];omega),if_neg om,cT (by rw[lx];omega)]
theorem tT(css:List (List Value))(b:∀cs∈css,cs.length=4){j:Nat}{cs:List Value}(a:css[j]? =some cs)(i:Nat)(hi:i<4)(u:Value):css.flatten.set (j*4+i) u=(css.set j (cs.set i u)).flatten:=by
 induction css generalizing j with
 |nil=>simp at a
 | cons c css ih=>
  have e:=b c sy;cases j with
  |zero=>
   simp at a;subst a;rw[br,ff,an,List.set_append_left _ _ om,rb,br]
  |succ j=>
   simp at a;rw[br,yc _ _ (by rw[dU];omega),FQ,br,show(j+1)*4+i-c.length=j*4+i by rw[dU];omega];rw[ih (λx d=>b x (sh d)) a]
end
end Go.Proofs.YtpefhaamcihneaaGreat
