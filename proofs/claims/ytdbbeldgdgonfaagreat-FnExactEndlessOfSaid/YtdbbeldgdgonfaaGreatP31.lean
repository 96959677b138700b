/- Part 31 of what this claim rests on (Str, Open, Rp, Ad, Ml, Prb, Adq, Eme), packed by pack.py. -/
import Derived.OpenShut
import Derived.ShutString
import Derived.ChangeOld
import Derived.Test.YtdbbeldgdgonfaaGreatP04
import Derived.Test.YtdbbeldgdgonfaaGreatP30
namespace Go.Proofs.YtdbbeldgdgonfaaGreat
open Tryz renaming prog→tX_, func9→vq_, ntmps9→vr_
set_option linter.unusedSimpArgs false
set_option linter.unusedVariables false
section
open Go.RowKit
theorem Chg.setCell1(w:World)(g i:Nat)(u:Value):Chg g (g+1) w (w.setCell ⟨g,i,none⟩ u):=
 ⟨rfl,rfl,rfl,by simp[World.setCell],λk hk hn=>Below.heap_setCell w ⟨g,i,none⟩ u k (by simp;omega)⟩
theorem cM_(w:World)(p:Addr)(u:Value):(w.setCell p u).heap.size=w.heap.size:=by simp[World.setCell]
theorem OwM.setC{B C:Nat}{w:World}{v:Value}{LL:List (List Int)}(h:OwM B C w v LL){g:Nat}(hg:g<B)(i:Nat)(u:Value):OwM B C (w.setCell ⟨g,i,none⟩ u) v LL:=
 h.chg (Chg.setCell1 w g i u) (.inr hg)
theorem OwI.setC{B C:Nat}{w:World}{v:Value}{l:List Int}(h:OwI B C w v l){g:Nat}(hg:g<B)(i:Nat)(u:Value):OwI B C (w.setCell ⟨g,i,none⟩ u) v l:=
 h.chg (Chg.setCell1 w g i u) (.inr hg)
theorem OwI.mono{B C B' C':Nat}{w:World}{v:Value}{l:List Int}(h:OwI B C w v l)(hB:B'<=B)(hC:C<=C'):OwI B' C' w v l:=
 ⟨h.own.mono hB,λk hk=>Nat.lt_of_lt_of_le (h.hi k hk) hC⟩
theorem OwI.rows{B C:Nat}{w:World}{v:Value}{l:List Int}(h:OwI B C w v l):Ints w v l:=h.ints
theorem bcell{W w1:World}(hb:Keeps W w1):(∀b o,b<W.heap.size->w1.cell? ⟨b,o,none⟩=W.cell? ⟨b,o,none⟩)∧(∀b o,b<W.heap.size->w1.frozen? ⟨b,o,none⟩=W.frozen? ⟨b,o,none⟩):=
 ⟨λb o h=>Below.cell (p:=⟨b,o,none⟩) hb h,λb o h=>Below.frozen (p:=⟨b,o,none⟩) hb h⟩
end
section
open Go.ChangeShapes Go.WideShapes Go.ChangeAt Go.RowKit
set_option maxRecDepth 100000
def I64(n:Int):Prop:= -9223372036854775808<=n∧n<=9223372036854775807
theorem mn_{n:Int}(h:(Lit.int .i64 n).wf=true):I64 n:=by
 have:=bounds_i64 h;exact this
variable {H:Type} {enc:TypeId×Value->H} {W:World}
end
section
open Go.RowKit
structure RP where
  labels:Int
  children:Int
  lines:List (List Int)
def RdR(w:World)(v:Value)(x:RP):Prop:=∃v2,v=.agg #[.int .i64 x.labels,.int .i64 x.children,v2]∧IntRows w v2 x.lines
def OwR(B C:Nat)(w:World)(v:Value)(x:RP):Prop:=∃v2,v=.agg #[.int .i64 x.labels,.int .i64 x.children,v2]∧∃M0 M1,B<=M0∧M0<=M1∧M1<=C∧OwM M0 M1 w v2 x.lines
section
variable {B C B' C':Nat} {w w':World} {v:Value} {x:RP}
theorem RdR.keep(h:RdR w v x)(k:Keeps w w'):RdR w' v x:=by obtain⟨v2,e,h2⟩:=h;exact⟨v2,e,h2.keep k⟩
theorem OwR.rd(h:OwR B C w v x):RdR w v x:=by obtain⟨v2,e,M0,M1,l0,l1,l2,h2⟩:=h;exact⟨v2,e,h2.rows⟩
theorem OwR.keep(h:OwR B C w v x)(k:Keeps w w'):OwR B C w' v x:=by obtain⟨v2,e,M0,M1,l0,l1,l2,h2⟩:=h;exact⟨v2,e,M0,M1,l0,l1,l2,h2.keep k⟩
theorem OwR.chg(h:OwR B C w v x)(c:Chg B' C' w w')(hd:C<=B'∨C'<=B):OwR B C w' v x:=by obtain⟨v2,e,M0,M1,l0,l1,l2,h2⟩:=h;exact⟨v2,e,M0,M1,l0,l1,l2,h2.chg c (by omega)⟩
theorem OwR.mono(h:OwR B C w v x)(hB:B'<=B)(hC:C<=C'):OwR B' C' w v x:=by obtain⟨v2,e,M0,M1,l0,l1,l2,h2⟩:=h;exact⟨v2,e,M0,M1,by omega,by omega,by omega,h2⟩
theorem RdR.shape(h:RdR w v x):∃a2 c2,v=.agg #[.int .i64 x.labels,.int .i64 x.children,.slice a2 x.lines.length c2]:=by
 obtain⟨v2,rfl,h2⟩:=h;obtain⟨a2,c2,rfl,_⟩:=h2.form;exact⟨_,_,rfl⟩
end
end
section
open Go.RowKit
theorem kI_{w:World}{b o:Nat}{v:Value}(h:w.cell? ⟨b,o,none⟩=some v):b<w.heap.size:=by
 simp only[World.cell?] at h;cases hb:w.heap[b]? with
 |none=>rw[hb] at h;simp at h
 |some x=>exact(Array.getElem?_eq_some_iff.1 hb).1
theorem Ints.rdl{w:World}{v:Value}{l:List Int}(h:Ints w v l):RdL zt w v l:=by
 obtain⟨a,c,rfl,h1,h2,h3⟩:=h;refine⟨a,c,by simp,by simpa using h1,h2,λi x hx=>?_⟩;rcases h3 with h3|⟨b,off,rfl,h3⟩
 ·simp at h3;subst h3;simp at hx
 ·have hc:=h3 i (.int .i64 x) (by rw[List.getElem?_map,hx];rfl);refine⟨b,off,[.int .i64 x],rfl,rfl,kI_ hc,λj u hj=>?_,rfl⟩;cases j with
  |zero=>simp at hj;subst hj;simpa [Rp.sz] using hc
  |succ j=>simp at hj
theorem IntRows.rdl{w:World}{v:Value}{LL:List (List Int)}(h:IntRows w v LL):RdL zt w v LL:=by
 obtain⟨vs,⟨a,c,rfl,h1,h2,h3⟩,hl,hr⟩:=h;refine⟨a,c,by rw[hl],by omega,h2,λi x hx=>?_⟩;have hi:i<LL.length:=(List.getElem?_eq_some_iff.1 hx).1;rcases h3 with h3|⟨b,off,rfl,h3⟩
 ·subst h3;simp at hl;omega
 ·have hv:vs[i]? =some (vs.getD i undef):=by rw[List.getD_eq_getElem?_getD,List.getElem?_eq_getElem (by omega)];rfl
  have hc:=h3 i _ hv;have hx':=hr i (by omega);rw[List.getD_eq_getElem?_getD (l:=LL),hx] at hx';refine⟨b,off,[vs.getD i undef],rfl,rfl,kI_ hc,λj u hj=>?_,⟨_,rfl,hx'.rdl⟩⟩;cases j with
  |zero=>simp at hj;subst hj;simpa [Rp.sz] using hc
  |succ j=>simp at hj
def tR(x:RP):ff_:=⟨x.labels,x.children,x.lines⟩
theorem RdR.rdz{w:World}{v:Value}{x:RP}(h:RdR w v x):∃u:List Value,v=.agg u.toArray∧Rp.rd zt w u (tR x):=by
 obtain⟨v2,rfl,h2⟩:=h;exact⟨[.int .i64 x.labels,.int .i64 x.children,v2],rfl,v2,rfl,h2.rdl⟩
theorem sx_{css:List (List Value)}{l:List Int}(hl:css.length=l.length)(h:∀(i:Nat) cs x,css[i]? =some cs->l[i]? =some x->cs=[.int .i64 x]):css.flatten=l.map (Value.int .i64):=by
 induction css generalizing l with
 |nil=>cases l with
  |nil=>rfl
  |cons a l=>simp at hl
 | cons c css ih=>cases l with
  |nil=>simp at hl
  |cons a l=>
   have h0:=h 0 c a rfl rfl;subst h0;rw[List.flatten_cons,ih (by simpa using hl) (λi cs x h1 h2=>h (i+1) cs x (by simpa using h1) (by simpa using h2))];rfl
theorem Ow.own_ints{B k:Nat}{o:Tg}{w:World}{v:Value}{l:List Int}(h:Ow B 3 k o w v l):Own B w v l:=by
 obtain⟨css,h1,h2,h3,h4⟩:=h;rw[sx_ h1 (λi cs x a b=>h4 i cs x a b)] at h2;exact h2
theorem Of.own_ints{w0 w:World}{o':Tg}{v:Value}{l:List Int}(h:Of 3 o' w v l)(ho:∀b,b<w0.heap.size->o' b=1):Own w0.heap.size w v l:=
 (h.fresh λb hb=>by rw[ho b hb];decide).own_ints
def ot:Tg:=λ_=>1
theorem ta_{css:List (List Value)}{vs:List Hv}(hl:css.length=vs.length)(h:∀(i:Nat) cs x,css[i]? =some cs->vs[i]? =some x->cs=[x.v]∧x.v.oneCell'=true):css.flatten=vs.map Hv.v:=by
 induction css generalizing vs with
 |nil=>cases vs with
  |nil=>rfl
  |cons a l=>simp at hl
 | cons c css ih=>cases vs with
  |nil=>simp at hl
  |cons a l=>
   have h0:=(h 0 c a rfl rfl).1;subst h0;rw[List.flatten_cons,ih (by simpa using hl) (λi cs x h1 h2=>h (i+1) cs x (by simpa using h1) (by simpa using h2))];rfl
end
section
open Go.RowKit
structure ChgR (vs:List Value) (w w':World):Prop where
  os:w'.os=w.os
  tape:w'.tape=w.tape
  output:w'.output=w.output
  size:w.heap.size<=w'.heap.size
  block:∀k,k<w.heap.size->(∀i,i<vs.length->(vs.getD i undef).ownBlock≠some k)->w'.heap[k]? =w.heap[k]?
theorem ChgR.refl(vs:List Value)(w:World):ChgR vs w w:=⟨rfl,rfl,rfl,Nat.le_refl _,λ_ _ _=>rfl⟩
theorem ChgR.step{vs:List Value}{w w1 w2:World}(h:ChgR vs w w1){j:Nat}(g:w1.grownBy w2 (vs.getD j undef).ownBlock)(hj:j<vs.length):ChgR vs w w2:=
 ⟨g.os.trans h.os,g.tape.trans h.tape,g.output.trans h.output,Nat.le_trans h.size g.size,λk hk hn=>(g.block k (Nat.lt_of_lt_of_le hk h.size) λe=>hn j hj e.symm).trans (h.block k hk hn)⟩
theorem ChgR.chg{vs:List Value}{w w':World}{B C:Nat}(h:ChgR vs w w')(hv:∀i,i<vs.length->∀k,(vs.getD i undef).ownBlock=some k->B<=k∧k<C):Chg B C w w':=
 ⟨h.os,h.tape,h.output,h.size,λk hk hn=>h.block k hk λi hi e=>hn (hv i hi k e)⟩
theorem qX_{D:Nat}{e:TypeId}{size:Nat}{v:Value}{n:Nat}{xs vs:List Value}{w w':World}(h:w.ownsRow D e size v n xs)(c:ChgR vs w w')(hv:∀i,i<vs.length->Apart v (vs.getD i undef)):w'.ownsRow D e size v n xs:=by
 obtain⟨h1,h2⟩:=h;refine⟨h1,?_⟩;rcases h2 with h2|⟨g,cap,cur,rfl,hg,hh,r⟩
 ·exact .inl h2
 ·refine .inr ⟨g,cap,cur,rfl,hg,?_,r⟩;rw[c.block g (Array.getElem?_eq_some_iff.1 hh).1 λi hi=>?_]
  ·exact hh
  ·rcases hv i hi with h3|h3
   ·cases h3
   ·exact λe=>h3 (by rw[e];rfl)
set_option maxHeartbeats 800000 in
theorem mB_(B:Nat)(v:Value)(vs:List Value)(LL:List (List Int))(k:Int)(w:World)(hM0:MatIn B w v vs LL)(hk:0<=k)(hk2:k+tot LL<=4611686018427387904):
  Calls tX_ 27 #[v,.int .i64 k] w λe w'=>e=.returned (.int .i64 (k+off LL LL.length))∧MatIn B w' v vs (numbered k LL LL.length)∧ChgR vs w w':=by
 have HM0:=Lib.hid hM0;obtain⟨a,c,rfl,hm,_⟩:=hM0.rows.form;clear hM0;have HO:=Lib.hid (oh_ LL);have HOS:=Lib.hid (hj_ LL);go_enter Tryz.func27,Tryz.ntmps27;go_wp2;go_loopw [1,5] (λx i wr=>∃j:Nat,j<=LL.length∧i=.int .i64 j∧x=.int .i64 (k+off LL j)∧MatIn B wr (.slice a LL.length c) vs (numbered k LL j)∧ChgR vs w wr) (λ_ i _=>LL.length-(intOf i).toNat);case atStart=>exact⟨0,Nat.zero_le _,rfl,by simp[off],by rw[hM_];exact HM0.out,ChgR.refl _ _⟩
 case round=>
  obtain⟨j,hj,rfl,rfl,hM,hG⟩:=hrel;have HM:=Lib.hid hM;have HG:=Lib.hid hG;clear hM hG;by_cases hlt:j<LL.length
  ·have hjl:j<(numbered k LL j).length:=by rw[bA_];exact hlt
   obtain⟨g,cap,hv,hcell⟩:=HM.out.form (by omega);simp only[Value.slice.injEq] at hv;obtain⟨rfl,-,rfl⟩:=hv;obtain⟨c1,c2⟩:=hcell j hjl;clear hcell;have hO:=HM.out.own j hjl;rw[gv_ k LL j j hlt,if_neg (Nat.lt_irrefl _)] at hO;have HOW:=Lib.hid hO;have b1:=HO.out (j+1) (by omega);have b2:=HOS.out j hlt;have HX:Hid (∀w2,wr.grownBy w2 (vs.getD j undef).ownBlock->ChgR vs w w2):=λw2 hg=>HG.out.step hg (j:=j) (by rw[HM.out.len];exact hjl);have HW:Hid (∀w' l,wr.grownBy w' (vs.getD j undef).ownBlock->Own B w' (vs.getD j undef) l->MatIn B w' (.slice (some ⟨g,0,none⟩) LL.length c) vs ((numbered k LL j).set j l)):=λw' l hg ho=>HM.out.wrote hjl hg ho;clear hO;generalize vs.getD j undef=u at c1 HOW HX HW;have hb:k+(off LL j:Int)+((LL.getD j []).length:Int)<=4611686018427387904:=by omega
   have B2:=Lib.hid b2;clear b2;have HNS:=Lib.hid (ie_ k LL j hlt);generalize LL.getD j []=r at HOW B2 hb HNS;go_wp2_with fail;refine (gL_ B _ _ _ _ HOW.out (by omega) hb).mono ?_;rintro e w2 ⟨rfl,hO2,hG2⟩;have HN:=Lib.hid (HW.out w2 _ hG2 hO2);have HGN:Hid (ChgR vs w w2):=HX.out w2 hG2;clear hO2 hG2;go_wp2;go_roundw;case rel=>exact⟨j+1,by omega,by go_num,by rw[B2.out];congr 1;omega,by rw[HNS.out];exact HN.out,HGN.out⟩
   case measure=>simp[intOf];omega
  ·go_wp2;go_ret;have he:j=LL.length:=by omega
   subst he;exact⟨rfl,HM.out,HG.out⟩
theorem tS_{w0 w:World}{o':Tg}{v:Value}{LL:List (List Int)}{vs:List Hv}(h1:Ow 0 41 0 o' w v vs)(h2:Rws 0 3 0 o' w vs LL)(ho:∀b,b<w0.heap.size->o' b≠0):MatIn w0.heap.size w v (vs.map Hv.v) LL:=by
 have h3:=Of.fresh h1 ho;obtain⟨css,c1,c2,c3,c4⟩:=h3;rw[ta_ c1 (λi cs x a b=>c4 i cs x a b)] at c2;have hl:=h2.1;have rowAt:∀i,i<LL.length->Own w0.heap.size w ((vs.map Hv.v).getD i undef) (LL.getD i []):=λi hi=>by
  have hv:vs[i]? =some vs[i]:=List.getElem?_eq_getElem (by omega);have hx:LL[i]? =some LL[i]:=List.getElem?_eq_getElem hi;have:=(Of.fresh (h2.2.1 i vs[i] LL[i] hv hx) ho).own_ints;rw[List.getD_eq_getElem?_getD,List.getElem?_map,hv,List.getD_eq_getElem?_getD,hx];exact this
 refine⟨by rw[<-hl];exact c2,rowAt,λi j hi hj hne=>?_⟩;have hv:vs[i]? =some vs[i]:=List.getElem?_eq_getElem (by omega);have hv':vs[j]? =some vs[j]:=List.getElem?_eq_getElem (by omega);rw[List.getD_eq_getElem?_getD,List.getElem?_map,hv,List.getD_eq_getElem?_getD,List.getElem?_map,hv'];simp only[Option.map_some,Option.getD_some];unfold Apart;cases hb:vs[i].v.ownBlock with
 |none=>exact .inl rfl
 |some g=>
  refine .inr λhe=>hne (h2.2.2 i j vs[i] vs[j] g hv hv' hb he.symm)
theorem Rws.tagAt{B:Nat}{er:TypeId}{kr:Nat}{o:Tg}{w:World}{vs:List Hv}{LL:List (List Int)}(h:Rws B er kr o w vs LL):∀i,i<LL.length->∀g,((vs.map Hv.v).getD i undef).ownBlock=some g->o g=kr:=λi hi g hg=>by
 have hl:=h.1;have hv:vs[i]? =some vs[i]:=List.getElem?_eq_getElem (by omega);have hx:LL[i]? =some LL[i]:=List.getElem?_eq_getElem hi;rw[List.getD_eq_getElem?_getD,List.getElem?_map,hv] at hg;obtain⟨css,c1,c2,c3,c4⟩:=h.2.1 i vs[i] LL[i] hv hx;exact c3 g hg
structure OwML (B C:Nat) (w:World) (a:Value) (X:List (List Int)) (v:Value) (l:List Int):Prop where
  ex:∃us,MatIn B w a us X∧(∀k,a.ownBlock=some k->k<C)∧(∀i,i<X.length->∀k,(us.getD i undef).ownBlock=some k->k<C)∧∀i,i<X.length->Apart (us.getD i undef) v
  li:OwI B C w v l
section
variable {B C B' C':Nat} {w w':World} {a v:Value} {X:List (List Int)} {l:List Int}
theorem OwML.rd0(h:OwML B C w a X v l):IntRows w a X:=by obtain⟨us,h1,_⟩:=h.ex;exact h1.rows
theorem OwML.rd1(h:OwML B C w a X v l):Ints w v l:=h.li.ints
theorem OwML.keep(h:OwML B C w a X v l)(k:Keeps w w'):OwML B C w' a X v l:=by
 obtain⟨⟨us,h1,h2⟩,h3⟩:=h;exact⟨⟨us,h1.keep k,h2⟩,h3.keep k⟩
theorem OwML.chg(h:OwML B C w a X v l)(c:Chg B' C' w w')(hd:C<=B'∨C'<=B):OwML B C w' a X v l:=by
 obtain⟨⟨us,h1,h2,h3,h4⟩,h5⟩:=h;refine⟨⟨us,⟨hK_ h1.row c λk hk=>?_,λi hi=>hK_ (h1.own i hi) c λk hk=>?_,h1.apart⟩,h2,h3,h4⟩,h5.chg c hd⟩
 ·have:=h2 k hk;have:=(World.ownsRow.lt h1.row k hk).1;omega
 ·have:=h3 i hi k hk;have:=((h1.own i hi).lt k hk).1;omega
theorem sy_(k:Int)(h:OwML B C w a X v l)(hk:0<=k)(hk2:k+tot X<=4611686018427387904):
  Calls tX_ 27 #[a,.int .i64 k] w λe w'=>e=.returned (.int .i64 (k+off X X.length))∧OwML B C w' a (numbered k X X.length) v l∧Chg B C w w':=by
 obtain⟨⟨us,h1,h2,h3,h4⟩,h5⟩:=h;refine (mB_ B a us X k w h1 hk hk2).mono ?_;rintro e w' ⟨rfl,m1,g1⟩;have hl:=h1.len;refine⟨rfl,⟨⟨us,m1,h2,λi hi=>h3 i (by simpa [bA_] using hi),λi hi=>h4 i (by simpa [bA_] using hi)⟩,⟨qX_ h5.own g1 λi hi=>(h4 i (by omega)).symm,h5.hi⟩⟩,g1.chg λi hi k hk=>?_⟩;exact⟨((h1.own i (by omega)).lt k hk).1,h3 i (by omega) k hk⟩
theorem sC_(k:Int)(h:OwML B C w a X v l)(hk:0<=k)(hk2:k+l.length<=4611686018427387904):
  Calls tX_ 26 #[v,.int .i64 k] w λe w'=>e=.returned (.int .i64 (k+l.length))∧OwML B C w' a X v (iota k l.length)∧Chg B C w w':=by
 obtain⟨⟨us,h1,h2,h3,h4⟩,h5⟩:=h;refine (gL_ B v l k w h5.own hk hk2).mono ?_;rintro e w' ⟨rfl,ho,hg⟩;exact⟨rfl,⟨⟨us,h1.kept hg (gm_ (by decide) h1.row h5.own) h4,h2,h3,h4⟩,⟨ho,h5.hi⟩⟩,Chg.of_grown hg λq hq=>⟨(h5.own.lt q hq).1,h5.hi q hq⟩⟩
end
theorem RdL.intsW{w:World}{v:Value}{l:List Int}(h:RdL zt w v l):Ints w v l:=by
 obtain⟨a,c,rfl,h1,h2,h3⟩:=h;refine⟨a,c,by simp,by simpa using h1,h2,?_⟩;cases l with
 |nil=>exact .inl rfl
 | cons y ys=>
  obtain⟨b,off,cs,rfl,_⟩:=h3 0 y rfl;refine .inr ⟨b,off,rfl,λi x hx=>?_⟩;rw[List.getElem?_map] at hx;cases hy:(y::ys)[i]? with
  |none=>rw[hy] at hx;simp at hx
  |some z=>
   rw[hy] at hx;simp only[Option.map_some,Option.some.injEq] at hx;subst hx;obtain⟨b',off',cs,e,_,_,hc,hr⟩:=h3 i z hy;cases e
   have hr':cs=[.int .i64 z]:=hr;subst hr';have:=hc 0 _ rfl;simpa [Rp.sz] using this
theorem RdL.rowsW{w:World}{v:Value}{LL:List (List Int)}(h:RdL zt w v LL):IntRows w v LL:=by
 obtain⟨a,c,rfl,h1,h2,h3⟩:=h;have hv:∀n,n<=LL.length->∃vs:List Value,vs.length=n∧∀i,i<n->Ints w (vs.getD i undef) (LL.getD i [])∧∃b off,a=some ⟨b,off,none⟩∧w.cell? ⟨b,off+i,none⟩=some (vs.getD i undef):=by
  intro n
  induction n with
  |zero=>exact λ_=>⟨[],rfl,λi hi=>by omega⟩
  | succ n ih=>
   intro hn;obtain⟨vs,e1,e2⟩:=ih (by omega);have hx:LL[n]? =some (LL.getD n []):=by rw[List.getD_eq_getElem?_getD,List.getElem?_eq_getElem (by omega)];rfl
   obtain⟨b,off,cs,rfl,_,_,hc,⟨u,rfl,hr⟩⟩:=h3 n _ hx;refine⟨vs++[u],by simp[e1],λi hi=>?_⟩;by_cases hi':i<n
   ·have:=e2 i hi';rw[List.getD_eq_getElem?_getD,List.getElem?_append_left (by omega),<-List.getD_eq_getElem?_getD];exact this
   ·have:i=n:=by omega
    subst this;rw[List.getD_eq_getElem?_getD,List.getElem?_append_right (by omega),e1];have hc0:=hc 0 _ rfl;refine⟨by simpa using hr.intsW,b,off,rfl,?_⟩;simpa [Rp.sz] using hc0
 obtain⟨vs,e1,e2⟩:=hv LL.length (Nat.le_refl _);refine⟨vs,⟨a,c,by rw[e1],by omega,h2,?_⟩,e1,λi hi=>(e2 i (by omega)).1⟩;by_cases h0:vs=[]
 ·exact .inl h0
 ·have h0':0<vs.length:=List.length_pos_iff.2 h0;obtain⟨_,b,off,rfl,_⟩:=e2 0 (by omega);refine .inr ⟨b,off,rfl,λi x hx=>?_⟩;have hi:=(List.getElem?_eq_some_iff.1 hx).1;obtain⟨_,b',off',e,hc⟩:=e2 i (by omega);cases e
  rw[List.getD_eq_getElem?_getD,hx] at hc;exact hc
def OwLM(B C:Nat)(w:World)(v:Value)(l:List Int)(a:Value)(X:List (List Int)):Prop:=OwML B C w a X v l
def RdLM(C:Nat)(w:World)(v:Value)(l:List Int)(a:Value)(X:List (List Int)):Prop:=RdL (λb=>if b<C then 0 else 1) w v l∧RdL (λb=>if b<C then 0 else 1) w a X
section
variable {B C B' C':Nat} {w w':World} {a v:Value} {X:List (List Int)} {l:List Int}
theorem OwLM.rd0(h:OwLM B C w v l a X):Ints w v l:=OwML.rd1 h
theorem OwLM.rd1(h:OwLM B C w v l a X):IntRows w a X:=OwML.rd0 h
theorem OwLM.keep(h:OwLM B C w v l a X)(k:Keeps w w'):OwLM B C w' v l a X:=OwML.keep h k
theorem OwLM.chg(h:OwLM B C w v l a X)(c:Chg B' C' w w')(hd:C<=B'∨C'<=B):OwLM B C w' v l a X:=OwML.chg h c hd
theorem rQ_(k:Int)(h:OwLM B C w v l a X)(hk:0<=k)(hk2:k+l.length<=4611686018427387904):
  Calls tX_ 26 #[v,.int .i64 k] w λe w'=>e=.returned (.int .i64 (k+l.length))∧OwLM B C w' v (iota k l.length) a X∧Chg B C w w':=sC_ k h hk hk2
theorem rN_(k:Int)(h:OwLM B C w v l a X)(hk:0<=k)(hk2:k+tot X<=4611686018427387904):
  Calls tX_ 27 #[a,.int .i64 k] w λe w'=>e=.returned (.int .i64 (k+off X X.length))∧OwLM B C w' v l a (numbered k X X.length)∧Chg B C w w':=sy_ k h hk hk2
theorem RdLM.rd0(h:RdLM C w v l a X):Ints w v l:=h.1.z.intsW
theorem RdLM.rd1(h:RdLM C w v l a X):IntRows w a X:=h.2.z.rowsW
theorem RdLM.keep(h:RdLM C w v l a X)(k:Keeps w w'):RdLM C w' v l a X:=⟨h.1.mv k.size λb hb ho=>⟨k.block b hb,ho⟩,h.2.mv k.size λb hb ho=>⟨k.block b hb,ho⟩⟩
theorem RdLM.chg(h:RdLM C w v l a X)(c:Chg B' C' w w')(hd:C<=B'):RdLM C w' v l a X:=by
 have hb:∀b,b<w.heap.size->(if b<C then 0 else 1)=0->w'.heap[b]? =w.heap[b]? ∧(if b<C then 0 else 1)=0:=λb hb ho=>by
  refine⟨c.block b hb ?_,ho⟩;have:b<C:=by
   by_cases q:b<C
   ·exact q
   ·rw[if_neg q] at ho;cases ho
  omega
 exact⟨h.1.mv c.size hb,h.2.mv c.size hb⟩
theorem RdLM.of{o:Tg}(h1:RdL o w v l)(h2:RdL o w a X):RdLM w.heap.size w v l a X:=⟨h1.mv (Nat.le_refl _) λb hb _=>⟨rfl,if_pos hb⟩,h2.mv (Nat.le_refl _) λb hb _=>⟨rfl,if_pos hb⟩⟩
theorem OwLM.of{w0:World}{o':Tg}(hz:Dz 41 3 o' w a X)(ho:Ow w0.heap.size 3 2 o' w v l)(hb:∀b,b<w0.heap.size->o' b=ot b):OwLM w0.heap.size w.heap.size w v l a X:=by
 have hl0:=ho.tagged;obtain⟨vs,z1,z2⟩:=hz;have m1:=tS_ (w0:=w0) z1 z2 (λb hb'=>by rw[hb b hb'];unfold ot;decide);refine⟨⟨_,m1,λk hk=>(World.ownsRow.lt m1.row k hk).2,λi hi k hk=>((m1.own i hi).lt k hk).2,λi hi=>?_⟩,⟨ho.own_ints,λk hk=>(ho.own_ints.lt k hk).2⟩⟩;unfold Apart;cases hb':((vs.map Hv.v).getD i undef).ownBlock with
 |none=>exact .inl rfl
 |some k=>
  refine .inr λhe=>?_;have e1:=z2.tagAt i hi k hb';have e2:=hl0 k he.symm;omega
end
end
section
open Go.RowKit
structure PR where
  labels:Int
  degree:Int
  nodes:List (List Int)
  edges:List (List Int)
def RdP(w:World)(v:Value)(x:PR):Prop:=∃v2 v3,v=.agg #[.int .i64 x.labels,.int .i64 x.degree,v2,v3]∧IntRows w v2 x.nodes∧IntRows w v3 x.edges
def OwP(B C:Nat)(w:World)(v:Value)(x:PR):Prop:=∃v2 v3,v=.agg #[.int .i64 x.labels,.int .i64 x.degree,v2,v3]∧∃a b c d,B<=a∧b<=C∧B<=c∧d<=C∧(b<=c∨d<=a)∧OwM a b w v2 x.nodes∧OwM c d w v3 x.edges
def szP(x:PR):Nat:=tot x.nodes+tot x.edges
section
variable {B C B' C':Nat} {w w':World} {v:Value} {x:PR}
theorem RdP.keep(h:RdP w v x)(k:Keeps w w'):RdP w' v x:=by obtain⟨v2,v3,e,h2,h3⟩:=h;exact⟨v2,v3,e,h2.keep k,h3.keep k⟩
theorem OwP.rd(h:OwP B C w v x):RdP w v x:=by obtain⟨v2,v3,e,M0,M1,M2,M3,l0,l1,l2,l3,l4,h2,h3⟩:=h;exact⟨v2,v3,e,h2.rows,h3.rows⟩
theorem OwP.keep(h:OwP B C w v x)(k:Keeps w w'):OwP B C w' v x:=by obtain⟨v2,v3,e,M0,M1,M2,M3,l0,l1,l2,l3,l4,h2,h3⟩:=h;exact⟨v2,v3,e,M0,M1,M2,M3,l0,l1,l2,l3,l4,h2.keep k,h3.keep k⟩
theorem OwP.chg(h:OwP B C w v x)(c:Chg B' C' w w')(hd:C<=B'∨C'<=B):OwP B C w' v x:=by obtain⟨v2,v3,e,M0,M1,M2,M3,l0,l1,l2,l3,l4,h2,h3⟩:=h;exact⟨v2,v3,e,M0,M1,M2,M3,l0,l1,l2,l3,l4,h2.chg c (by omega),h3.chg c (by omega)⟩
theorem OwP.mono(h:OwP B C w v x)(hB:B'<=B)(hC:C<=C'):OwP B' C' w v x:=by obtain⟨v2,v3,e,M0,M1,M2,M3,l0,l1,l2,l3,l4,h2,h3⟩:=h;exact⟨v2,v3,e,M0,M1,M2,M3,by omega,by omega,by omega,by omega,l4,h2,h3⟩
theorem RdP.shape(h:RdP w v x):∃a2 c2 a3 c3,v=.agg #[.int .i64 x.labels,.int .i64 x.degree,.slice a2 x.nodes.length c2,.slice a3 x.edges.length c3]:=by
 obtain⟨v2,v3,rfl,h2,h3⟩:=h;obtain⟨a2,c2,rfl,_⟩:=h2.form;obtain⟨a3,c3,rfl,_⟩:=h3.form;exact⟨_,_,_,_,rfl⟩
end
set_option maxHeartbeats 800000 in
theorem im_(v:Value)(x:PR)(left:Int)(w:World)(h:RdP w v x)(h0:0<=left)(h1:left<=1048576):
  Calls tX_ 9 #[v,.int .i64 left] w λe w'=>e=.returned (.int .i64 (szL left (szP x)))∧Keeps w w':=by
 obtain⟨v2,v3,rfl,r2,r3⟩:=h;have R2:=Lib.hid r2;have R3:=Lib.hid r3;obtain⟨a2,c2,rfl,_⟩:=r2.form;obtain⟨a3,c3,rfl,_⟩:=r3.form;have HX:Hid (szP x=tot x.nodes+tot x.edges):=rfl;clear r2 r3;generalize hs0:tot x.nodes=s0 at HX;have HS0:=Lib.hid hs0;clear hs0;generalize hs1:tot x.edges=s1 at HX;have HS1:=Lib.hid hs1;clear hs1;by_cases hb0:(s0:Int)<=left;case neg=>
  have hb0':left<(s0:Int):=by omega
  go_enter vq_,vr_;go_wp2_with fail;refine (fg_ _ x.nodes left _ (R2.out.keep (by repeat (first|exact Keeps.refl _|with_reducible refine Keeps.alloc ?_ _))) (by omega) (by omega)).mono ?_;rintro e w' ⟨rfl,rfl⟩;rw[show tot x.nodes=s0 from HS0.out];rw[szL,if_neg (show ¬(s0:Int)<=left by omega)];go_wp2;go_ret;exact⟨gh_ (by rw[HX.out,szL,if_neg (by omega)]),(by repeat (first|exact Keeps.refl _|with_reducible refine Keeps.alloc ?_ _))⟩
 by_cases hb1:(s0:Int)+(s1:Int)<=left;case neg=>
  have hb1':left<(s0:Int)+(s1:Int):=by omega
  have hn0:¬left-(s0:Int)<0:=by omega
  go_enter vq_,vr_;go_wp2_with fail;refine (fg_ _ x.nodes left _ (R2.out.keep (by repeat (first|exact Keeps.refl _|with_reducible refine Keeps.alloc ?_ _))) (by omega) (by omega)).mono ?_;rintro e w' ⟨rfl,rfl⟩;rw[show tot x.nodes=s0 from HS0.out];rw[szL,if_pos (show(s0:Int)<=left by omega)];go_wp2_with fail;refine (fg_ _ x.edges (left-(s0:Int)) _ (R3.out.keep (by repeat (first|exact Keeps.refl _|with_reducible refine Keeps.alloc ?_ _))) (by omega) (by omega)).mono ?_;rintro e w' ⟨rfl,rfl⟩;rw[show tot x.edges=s1 from HS1.out];rw[szL,if_neg (show ¬(s1:Int)<=(left-(s0:Int)) by omega)];go_wp2;go_ret;exact⟨gh_ (by rw[HX.out,szL,if_neg (by omega)]),(by repeat (first|exact Keeps.refl _|with_reducible refine Keeps.alloc ?_ _))⟩
 have hn0:¬left-(s0:Int)<0:=by omega
 have hn1:¬left-(s0:Int)-(s1:Int)<0:=by omega
 go_enter vq_,vr_;go_wp2_with fail;refine (fg_ _ x.nodes left _ (R2.out.keep (by repeat (first|exact Keeps.refl _|with_reducible refine Keeps.alloc ?_ _))) (by omega) (by omega)).mono ?_;rintro e w' ⟨rfl,rfl⟩;rw[show tot x.nodes=s0 from HS0.out];rw[szL,if_pos (show(s0:Int)<=left by omega)];go_wp2_with fail;refine (fg_ _ x.edges (left-(s0:Int)) _ (R3.out.keep (by repeat (first|exact Keeps.refl _|with_reducible refine Keeps.alloc ?_ _))) (by omega) (by omega)).mono ?_;rintro e w' ⟨rfl,rfl⟩;rw[show tot x.edges=s1 from HS1.out];rw[szL,if_pos (show(s1:Int)<=(left-(s0:Int)) by omega)];go_wp2;go_ret;exact⟨gh_ (by rw[HX.out,szL,if_pos (by omega)];(try omega)),(by repeat (first|exact Keeps.refl _|with_reducible refine Keeps.alloc ?_ _))⟩
set_option maxHeartbeats 800000 in
theorem eQ_(v:Value)(x:PR)(w:World)(h:RdP w v x)(hs:szP x<=1048576):
  Calls tX_ 11 #[v] w λe w'=>∃r,e=.returned r∧OwP w.heap.size w'.heap.size w' r x∧Keeps w w':=by
 obtain⟨v2,v3,rfl,r2,r3⟩:=h;have R2:=Lib.hid r2;have R3:=Lib.hid r3;obtain⟨a2,c2,rfl,_⟩:=r2.form;obtain⟨a3,c3,rfl,_⟩:=r3.form;unfold szP at hs;clear r2 r3;go_enter Tryz.func11,Tryz.ntmps11;go_wp2_with fail;refine (kk_ _ x.nodes _ (R2.out.keep (by repeat (first|exact Keeps.refl _|with_reducible refine Keeps.alloc ?_ _))) (by omega)).mono ?_;rintro e W0 ⟨t0,rfl,hO,hK⟩;have HO0:=Lib.hid (OwM.mono hO (show w.heap.size+3<=_ by simp[cM_]) (Nat.le_refl _));have HK0:Hid (Keeps w W0):=Keeps.trans (by repeat (first|exact Keeps.refl _|with_reducible refine Keeps.alloc ?_ _)) hK;have hz0:w.heap.size+3<=W0.heap.size:=by have:=hK.size;simp[cM_] at this;omega
 obtain⟨hc0,hf0⟩:=bcell hK;obtain⟨ta0,tc0,rfl,_⟩:=hO.rows.form;have e0:W0.cell? ⟨w.heap.size+1+1,0,none⟩=some (.int .i64 x.labels):=by rw[hc0 _ _ (by simp)];simp[go_sem]
 have e1:W0.cell? ⟨w.heap.size+1+1,1,none⟩=some (.int .i64 x.degree):=by rw[hc0 _ _ (by simp)];simp[go_sem]
 have e3:W0.cell? ⟨w.heap.size+1+1,3,none⟩=some (.slice none 0 0):=by rw[hc0 _ _ (by simp)];simp[go_sem]
 have ef:∀o,W0.frozen? ⟨w.heap.size+1+1,o,none⟩=false:=λo=>by rw[hf0 _ _ (by simp)];simp[go_sem]
 clear hO hK;go_wp2_with fail;refine (kk_ _ x.edges _ (R3.out.keep (by repeat (first|exact HK0.out|with_reducible refine Below.setCell ?_ (by simp;omega) _))) (by omega)).mono ?_;rintro e W1 ⟨t1,rfl,hO,hK⟩;have HO1:=Lib.hid (OwM.mono hO (show W0.heap.size<=_ by simp[cM_]) (Nat.le_refl _));have HK1:Hid (Keeps w W1):=Keeps.trans (by repeat (first|exact HK0.out|with_reducible refine Below.setCell ?_ (by simp;omega) _)) hK;have HO0':=Lib.hid (OwM.keep (OwM.setC HO0.out (by omega) _ _) hK);clear HO0;have HO0:=HO0';clear HO0';have hz1:W0.heap.size<=W1.heap.size:=by have:=hK.size;simp[cM_] at this;omega
 obtain⟨hc,hf⟩:=bcell hK;have hlt:w.heap.size+1+1<(W0.setCell ⟨w.heap.size+1+1,2,none⟩ (.slice ta0 x.nodes.length tc0)).heap.size:=by simp only[cM_];omega
 have d2':W0.cell? ⟨w.heap.size+1+1,2,none⟩=some (.slice none 0 0):=by rw[hc0 _ _ (by simp)];simp[go_sem]
 have d0:W1.cell? ⟨w.heap.size+1+1,0,none⟩=some (.int .i64 x.labels):=by rw[hc _ _ hlt,World.cell?_setCell_other _ _ _ _ (by intro h;injection h with h1 h2;cases h2),e0]
 have d1:W1.cell? ⟨w.heap.size+1+1,1,none⟩=some (.int .i64 x.degree):=by rw[hc _ _ hlt,World.cell?_setCell_other _ _ _ _ (by intro h;injection h with h1 h2;cases h2),e1]
 have d2:W1.cell? ⟨w.heap.size+1+1,2,none⟩=some (.slice ta0 x.nodes.length tc0):=by rw[hc _ _ hlt,World.cell?_setCell_same _ _ _ d2']
 have d3:W1.cell? ⟨w.heap.size+1+1,3,none⟩=some (.slice none 0 0):=by rw[hc _ _ hlt,World.cell?_setCell_other _ _ _ _ (by intro h;injection h with h1 h2;cases h2),e3]
 have df:∀o,W1.frozen? ⟨w.heap.size+1+1,o,none⟩=false:=λo=>by rw[hf _ _ hlt,World.frozen?_setCell,ef]
 have hlt1:w.heap.size+1<(W0.setCell ⟨w.heap.size+1+1,2,none⟩ (.slice ta0 x.nodes.length tc0)).heap.size:=by simp only[cM_];omega
 have b0:W1.cell? ⟨w.heap.size+1,0,none⟩=some (.int .i64 0):=by rw[hc _ _ hlt1,World.cell?_setCell_other _ _ _ _ (by intro h;injection h with h1 h2;omega),hc0 _ _ (by first|(simp;done)|(simp;omega))];simp[go_sem]
 have b1:W1.cell? ⟨w.heap.size+1,1,none⟩=some (.int .i64 0):=by rw[hc _ _ hlt1,World.cell?_setCell_other _ _ _ _ (by intro h;injection h with h1 h2;omega),hc0 _ _ (by first|(simp;done)|(simp;omega))];simp[go_sem]
 have b2:W1.cell? ⟨w.heap.size+1,2,none⟩=some (.slice none 0 0):=by rw[hc _ _ hlt1,World.cell?_setCell_other _ _ _ _ (by intro h;injection h with h1 h2;omega),hc0 _ _ (by first|(simp;done)|(simp;omega))];simp[go_sem]
 have b3:W1.cell? ⟨w.heap.size+1,3,none⟩=some (.slice none 0 0):=by rw[hc _ _ hlt1,World.cell?_setCell_other _ _ _ _ (by intro h;injection h with h1 h2;omega),hc0 _ _ (by first|(simp;done)|(simp;omega))];simp[go_sem]
 have bf:∀o,W1.frozen? ⟨w.heap.size+1,o,none⟩=false:=λo=>by rw[hf _ _ hlt1,World.frozen?_setCell,hf0 _ _ (by first|(simp;done)|(simp;omega))];simp[go_sem]
 clear hc hf hc0 hf0 e0 e1 e3 ef d2';obtain⟨ta1,tc1,rfl,_⟩:=hO.rows.form;clear hO hK;go_wp2;refine bodyPost_ret (v:=.agg #[.int .i64 x.labels,.int .i64 x.degree,.slice ta0 x.nodes.length tc0,.slice ta1 x.edges.length tc1]) (by simp[results,Tryz.results11,go_sem,d0,d1,d2,d3,df,b0,b1,b2,b3,bf]) rfl ⟨_,rfl,⟨_,_,rfl,w.heap.size+3,W0.heap.size,W0.heap.size,W1.heap.size,by omega,by simp only[cM_];omega,by omega,by simp only[cM_];omega,.inl (Nat.le_refl _),?_,?_⟩,?_⟩
 ·repeat (first|exact HO0.out|with_reducible refine OwM.setC ?_ (by omega) _ _)
 ·repeat (first|exact HO1.out|with_reducible refine OwM.setC ?_ (by omega) _ _)
 ·repeat (first|exact HK1.out|with_reducible refine Below.setCell ?_ (by simp;try omega) _)
set_option maxHeartbeats 800000 in
theorem km_(va vb:Value)(x:PR)(w:World)(ha:RdP w va x)(hb:RdP w vb x):
  Calls tX_ 13 #[va,vb] w λe w'=>e=.returned (.bool true)∧Keeps w w':=by
 obtain⟨v2,v3,rfl,r2,r3⟩:=ha;obtain⟨u2,u3,rfl,s2,s3⟩:=hb;have R2:=Lib.hid r2;have R3:=Lib.hid r3;have S2:=Lib.hid s2;have S3:=Lib.hid s3;obtain⟨a2,c2,rfl,_⟩:=r2.form;obtain⟨a3,c3,rfl,_⟩:=r3.form;obtain⟨b2,d2,rfl,_⟩:=s2.form;obtain⟨b3,d3,rfl,_⟩:=s3.form;have e0:(x.labels !=x.labels)=false:=by simp
 have e1:(x.degree !=x.degree)=false:=by simp
 clear r2 r3 s2 s3;go_enter Tryz.func13,Tryz.ntmps13;go_wp2_with fail;refine (eY_ _ _ x.nodes x.nodes _ (R2.out.keep (by repeat (first|exact Keeps.refl _|with_reducible refine Keeps.alloc ?_ _))) (S2.out.keep (by repeat (first|exact Keeps.refl _|with_reducible refine Keeps.alloc ?_ _)))).mono ?_;rintro e W0 ⟨rfl,hD⟩;rw[decide_eq_true rfl];have HK0:Hid (Keeps w W0):=Keeps.trans (by repeat (first|exact Keeps.refl _|with_reducible refine Keeps.alloc ?_ _)) hD.keeps;obtain⟨hc0,hf0⟩:=bcell hD.keeps;have hz0:=hD.keeps.size;clear hD;go_wp2_with fail;refine (eY_ _ _ x.edges x.edges _ (R3.out.keep HK0.out) (S3.out.keep HK0.out)).mono ?_;rintro e W1 ⟨rfl,hD⟩;rw[decide_eq_true rfl];have HK1:Hid (Keeps w W1):=Keeps.trans HK0.out hD.keeps;obtain⟨hc1,hf1⟩:=bcell hD.keeps;have hz1:=hD.keeps.size;clear hD;go_wp2;go_ret;exact⟨rfl,HK1.out⟩
def cntP(x:PR):Nat:=off x.nodes x.nodes.length+off x.edges x.edges.length
def numP(k:Int)(x:PR):PR:=⟨x.labels,x.degree,numbered (k) x.nodes x.nodes.length,numbered (k+(off x.nodes x.nodes.length:Nat)) x.edges x.edges.length⟩
theorem tv_(x:PR):cntP x<=szP x:=by unfold cntP szP tot;omega
set_option maxHeartbeats 800000 in
theorem jy_(B C:Nat)(v:Value)(x:PR)(k:Int)(w:World)(h:OwP B C w v x)(hC:C<=w.heap.size)(hk:0<=k)(hk2:k+szP x<=4611686018427387904):
  Calls tX_ 17 #[v,.int .i64 k] w λe w'=>e=.returned (.int .i64 (k+cntP x))∧OwP B C w' v (numP k x)∧Chg B C w w':=by
 obtain⟨v2,v3,rfl,M0,M1,M2,M3,l0,l1,l2,l3,l4,o2,o3⟩:=h;have HX:Hid (cntP x=off x.nodes x.nodes.length+off x.edges x.edges.length):=rfl;unfold szP tot at hk2;have O2:=Lib.hid o2;obtain⟨a2,c2,rfl,_⟩:=o2.rows.form;clear o2;have O3:=Lib.hid o3;obtain⟨a3,c3,rfl,_⟩:=o3.rows.form;clear o3;go_enter Tryz.func17,Tryz.ntmps17;go_wp2_with fail;refine (hU_ M0 M1 _ x.nodes (k) _ (O2.out.keep (by repeat (first|exact Keeps.refl _|with_reducible refine Keeps.alloc ?_ _))) (by omega) (by unfold tot;omega)).mono ?_;rintro e W0 ⟨rfl,hO,hG⟩;have N2:=Lib.hid hO;have G0:Hid (Chg B C w W0):=(Keeps.chg (by repeat (first|exact Keeps.refl _|with_reducible refine Keeps.alloc ?_ _)) B C).trans (hG.mono (by omega) (by omega));have O3':=Lib.hid ((O3.out.keep (by repeat (first|exact Keeps.refl _|with_reducible refine Keeps.alloc ?_ _))).chg hG (by omega));clear O3;have O3:=O3';clear O3';have hsz0:=hG.size;have hcc:∀i,W0.cell? ⟨w.heap.size,i,none⟩=(w.alloc (.cells #[.int .i64 x.labels,.int .i64 x.degree,.slice a2 x.nodes.length c2,.slice a3 x.edges.length c3] 28)).cell? ⟨w.heap.size,i,none⟩:=λi=>World.cell?_of_block (hG.block w.heap.size (by simp) (by omega));clear hO hG;go_wp2_with fail;refine (hU_ M2 M3 _ x.edges (k+(off x.nodes x.nodes.length:Nat)) _ (O3.out) (by omega) (by unfold tot;omega)).mono ?_;rintro e W1 ⟨rfl,hO,hG⟩;have N3:=Lib.hid hO;have G1:Hid (Chg B C w W1):=G0.out.trans (hG.mono (by omega) (by omega));have N2':=Lib.hid (N2.out.chg hG (by omega));clear N2;have N2:=N2';clear N2';have hsz1:=hG.size;have hcc1:∀i,W1.cell? ⟨w.heap.size,i,none⟩=W0.cell? ⟨w.heap.size,i,none⟩:=λi=>World.cell?_of_block (hG.block w.heap.size (by simp at hsz0;omega) (by omega));clear hO hG;go_wp2;go_ret;exact⟨gh_ (by rw[HX.out];(try omega)),⟨_,_,rfl,M0,M1,M2,M3,l0,l1,l2,l3,l4,N2.out,N3.out⟩,G1.out⟩
end
section
open Go.RowKit
def tP(x:PR):c_:=⟨x.labels,x.degree,x.nodes,x.edges⟩
theorem RdP.rdz{w:World}{v:Value}{x:PR}(h:RdP w v x):∃u:List Value,v=.agg u.toArray∧Rp.rd zt w u (tP x):=by
 obtain⟨v2,v3,rfl,h2,h3⟩:=h;exact⟨[.int .i64 x.labels,.int .i64 x.degree,v2,v3],rfl,v2,v3,rfl,h2.rdl,h3.rdl⟩
def okP(x:PR):Prop:=I64 x.labels∧I64 x.degree∧(∀r∈x.nodes,∀n∈r,I64 n)∧∀r∈x.edges,∀n∈r,I64 n
theorem rg_{x:PR}(h:szP x<=1048576):x.nodes.length<=1048576∧x.edges.length<=1048576:=by
 unfold szP tot at h;omega
end
section
open Go.RowKit
theorem qq_{p q:c_}{L:Nat}:∀{d:Nat}{f g:List Int},lme p q L d f=some g->g.length=f.length+d
 |0,f,g,h=>by
  unfold lme at h;split at h
  ·cases h;omega
  ·cases h
 |d+1,f,g,h=>by
  unfold lme at h;obtain⟨b,-,hb⟩:=List.exists_of_findSome?_eq_some h;have:=qq_ hb;rw[List.length_append,List.length_singleton] at this;omega
theorem rv_(p q:c_):(lmapV p q).1.length<=8:=by
 unfold lmapV;split
 ·rename_i hc;rw[Bool.and_eq_true,Bool.and_eq_true] at hc;obtain⟨g1,g2,-⟩:=aH_ hc.1.1;cases h:lme p q q.Labels.toNat p.Labels.toNat [] with
  |none=>simp
  |some g=>
   have:=qq_ h;simp at this;simp;omega
 ·simp
theorem mi_{n:Nat}:∀{LL:List (List Int)},(∀r∈LL,r.length<=n)->tot LL<=LL.length*(n+1)
 |[],_=>by simp[tot,off]
 |r::LL,h=>by
  have h1:=h r (by simp);have h2:=mi_ (LL:=LL) λx hx=>h x (by simp[hx]);unfold tot off at h2 ⊢;rw[List.take_length] at h2 ⊢;simp only[List.map_cons,List.sum_cons,List.length_cons,Nat.add_mul,Nat.one_mul] at h2 ⊢;omega
theorem tk_(E:List (List Int))(x:List Int):((bpr E x).getD []).length<=2:=by
 unfold bpr;split
 ·rename_i h;obtain⟨k,m,a,b,-,e⟩:=h.choose_spec;rw[e];simp
 ·simp
theorem sq_(p:c_):tot (refV p).1<=p.Nodes.length*3:=by
 unfold refV;split
 ·have:=mi_ (n:=2) (LL:=p.Nodes.map λx=>(bpr p.Edges x).getD []) λr hr=>by
   obtain⟨x,-,rfl⟩:=List.mem_map.1 hr;exact tk_ _ _
  rwa [List.length_map] at this
 ·simp[tot,off]
theorem kV_(p:c_)(h:p.Nodes.length<=1048576):(endV p).1.length+tot (endV p).2.1<=1000000000:=by
 unfold endV;split
 ·have h1:=rv_ (roundV p).1 p;have h2:=sq_ p;show(lmapV (roundV p).1 p).1.length+tot (refV p).1<=_;omega
 ·simp[tot,off]
noncomputable def fEndlessOfSpec(x:PR):Option (List Int×List (List Int)):=if(endV (tP x)).2.2=true then some ((endV (tP x)).1,(endV (tP x)).2.1) else none
noncomputable def fEndlessOfImpl(x:PR):Option (List Int×List (List Int)):=fEndlessOfSpec x
theorem nc_(x:PR)(_:okP x)(_:szP x<=1048576):fEndlessOfImpl x=fEndlessOfSpec x:=rfl
theorem sQ_(x:PR):(fEndlessOfSpec x).isSome=(endV (tP x)).2.2∧(fEndlessOfSpec x).getD ([],[])=((endV (tP x)).1,(endV (tP x)).2.1):=by
 unfold fEndlessOfSpec;cases h:(endV (tP x)).2.2
 ·rw[if_neg (by simp)];refine⟨rfl,?_⟩;unfold endV at h ⊢;split at h
  ·cases h
  ·rename_i hc;rw[if_neg hc];rfl
 ·rw[if_pos rfl];exact⟨rfl,rfl⟩
theorem iG_(v:Value)(x:PR)(w:World)(h:RdP w v x)(_:okP x)(hs:szP x<=1048576):
  Calls tX_ 22 #[v] w λe w'=>∃r s,e=.returned (.tuple #[r,s,.bool (fEndlessOfSpec x).isSome])∧RdLM w'.heap.size w' r ((fEndlessOfSpec x).getD ([],[])).1 s ((fEndlessOfSpec x).getD ([],[])).2∧((fEndlessOfSpec x).getD ([],[])).1.length+tot ((fEndlessOfSpec x).getD ([],[])).2<=1000000000∧Keeps w w':=by
 obtain⟨u,rfl,hu⟩:=h.rdz;obtain⟨l1,l2⟩:=rg_ hs;have l1':(tP x).Nodes.length<=100000000:=by show x.nodes.length<=_;omega
 have l2':(tP x).Edges.length<=100000000:=by show x.edges.length<=_;omega
 obtain⟨q1,q2⟩:=sQ_ x;rw[q1,q2];refine (md_ 1000000000 w zt 2 (by decide) u (tP x) hu _ (jH_ 1000000000 (by omega) (tP x) l1' l2').1).mono ?_;rintro e w' ⟨v0,v1,o',rfl,h0,h1,hk,ho⟩;exact⟨v0,v1,rfl,RdLM.of h0.rd h1.rd,kV_ (tP x) l1,hk⟩
theorem fG_(v:Value)(x:PR)(w:World)(h:RdP w v x)(_:okP x)(hs:szP x<=1048576):
  Calls tX_ 23 #[v] w λe w'=>∃r s,e=.returned (.tuple #[r,s,.bool (fEndlessOfImpl x).isSome])∧OwLM w.heap.size w'.heap.size w' r ((fEndlessOfImpl x).getD ([],[])).1 s ((fEndlessOfImpl x).getD ([],[])).2∧((fEndlessOfImpl x).getD ([],[])).1.length+tot ((fEndlessOfImpl x).getD ([],[])).2<=1000000000∧Keeps w w':=by
 obtain⟨u,rfl,hu⟩:=h.rdz;obtain⟨l1,l2⟩:=rg_ hs;have l1':(tP x).Nodes.length<=100000000:=by show x.nodes.length<=_;omega
 have l2':(tP x).Edges.length<=100000000:=by show x.edges.length<=_;omega
 obtain⟨q1,q2⟩:=sQ_ x;unfold fEndlessOfImpl;rw[q1,q2];refine (mg_ 1000000000 w ot 2 (by decide) u (tP x) hu _ (jH_ 1000000000 (by omega) (tP x) l1' l2').2).mono ?_;rintro e w' ⟨v0,v1,o',rfl,h0,h1,hk,ho⟩;exact⟨v0,v1,rfl,OwLM.of h1 h0 ho,kV_ (tP x) l1,hk⟩
end
end Go.Proofs.YtdbbeldgdgonfaaGreat
