/- Part 32 of what this claim rests on (pack.py). -/
import Derived.Test.YtdbbeldgdgonfaaGreatP31
namespace Go.Proofs.YtdbbeldgdgonfaaGreat
open Tryz renaming prog→wQ_, underlying48→xs_, underlying32→xc_, sizeOf24→xT_, sizeOf28→wU_, underlying41→wR_, results24→yy_, sizeOf3→wS_, isAgg3→wT_, underlying22→wV_, results25→yz_, sizeOf41→wY_, isAgg41→xa_, underlying28→wW_, results13→xK_, sizeOf22→wZ_, isAgg22→xb_, call25→xU_, results16→yA_, isAgg28→wX_, results28→Ad_, results29→Ae_, results19→xL_, call29→xV_
set_option linter.unusedSimpArgs false
set_option linter.unusedVariables false
section
open Go.RowKit
structure ChS (S:Nat->Prop) (w w':World):Prop where
  os:w'.os=w.os
  tape:w'.tape=w.tape
  output:w'.output=w.output
  size:w.heap.size<=w'.heap.size
  block:∀k,k<w.heap.size->¬S k->w'.heap[k]? =w.heap[k]?
section
variable {S S':Nat->Prop} {w w' w'':World} {v:Value} {LL:List (List Int)} {T:Nat->Nat} {ps:List b_} {lo hi B C:Nat} {x:ak_}
theorem ChS.refl(S:Nat->Prop)(w:World):ChS S w w:=⟨rfl,rfl,rfl,Nat.le_refl _,λ_ _ _=>rfl⟩
theorem ChS.trans(h:ChS S w w')(k:ChS S w' w''):ChS S w w'':=
 ⟨k.os.trans h.os,k.tape.trans h.tape,k.output.trans h.output,Nat.le_trans h.size k.size,λi hi a=>(k.block i (Nat.lt_of_lt_of_le hi h.size) a).trans (h.block i hi a)⟩
theorem ChS.mono(h:ChS S w w')(f:∀b,S b->S' b):ChS S' w w':=⟨h.os,h.tape,h.output,h.size,λk d a=>h.block k d λe=>a (f k e)⟩
theorem ChS.of_grown{r:Option Nat}(h:w.grownBy w' r)(d:∀k,r=some k->S k):ChS S w w':=⟨h.os,h.tape,h.output,h.size,λk b a=>h.block k b λe=>a (d k e.symm)⟩
theorem ChS.chg(h:ChS S w w')(f:∀b,S b->B<=b∧b<C):Chg B C w w':=⟨h.os,h.tape,h.output,h.size,λk d a=>h.block k d λe=>a (f k e)⟩
theorem Chg.chS(h:Chg B C w w'):ChS (λb=>B<=b∧b<C) w w':=⟨h.os,h.tape,h.output,h.size,h.block⟩
theorem Keeps.chS(h:Keeps w w')(S:Nat->Prop):ChS S w w':=⟨h.os,h.tape,h.output,h.size,λk a _=>h.block k a⟩
theorem kw_{D:Nat}{e:TypeId}{size:Nat}{n:Nat}{xs:List Value}(h:w.ownsRow D e size v n xs)(c:ChS S w w')(j:∀k,v.ownBlock=some k->¬S k):w'.ownsRow D e size v n xs:=by
 obtain⟨f,a⟩:=h;refine⟨f,?_⟩;rcases a with a|⟨g,cap,b,rfl,i,d,r⟩
 ·exact .inl a
 ·exact .inr ⟨g,cap,b,rfl,i,by rw[c.block g (Array.getElem?_eq_some_iff.1 d).1 (j g rfl)];exact d,r⟩
theorem OwS.chS(h:OwS S w v LL)(c:ChS S' w w')(d:∀b,S b->¬S' b):OwS S w' v LL:=by
 obtain⟨vs,h,f,e⟩:=h;exact⟨vs,⟨kw_ h.row c λk a=>d k (f k a),λi hi=>kw_ (h.own i hi) c λk a=>d k (e i hi k a),h.apart⟩,f,e⟩
theorem OwS.keep(h:OwS S w v LL)(k:Keeps w w'):OwS S w' v LL:=h.chS (k.chS λ_=>False) λ_ _ h=>h
theorem OwS.rows(h:OwS S w v LL):IntRows w v LL:=by obtain⟨vs,h,_⟩:=h;exact h.rows
theorem OwQT.chS(h:OwQT T w v ps)(c:ChS S w w')(d:∀b,T b=1∨4<=T b->¬S b):OwQT T w' v ps:=by
 obtain⟨css,g,q,f,j⟩:=h;refine⟨css,g,kw_ q c λk u=>d k (.inl (f k u)),f,λi cs p a b=>?_⟩;obtain⟨n,s,e,o,m⟩:=j i cs p a b;exact⟨n,s,e,o.chS c λb t=>d b (by omega),m.chS c λb t=>d b (by omega)⟩
theorem OwQT.keep(h:OwQT T w v ps)(k:Keeps w w'):OwQT T w' v ps:=h.chS (k.chS λ_=>False) λ_ _ h=>h
theorem OwQT.ow(h:OwQT T w v ps):Ow 0 28 0 zt w v ps:=by
 obtain⟨css,j,k,q,m⟩:=h;refine⟨css,j,k,λg _=>rfl,λi cs p a b=>?_⟩;obtain⟨f,o,e,d,n⟩:=m i cs p a b;exact⟨f,o,e,d.rows.rdl,n.rows.rdl⟩
theorem OwL.keep(h:OwL lo hi w v ps)(k:Keeps w w'):OwL lo hi w' v ps:=by obtain⟨T,b,a⟩:=h;exact⟨T,b.keep k,a⟩
theorem OwL.chg(h:OwL lo hi w v ps)(c:Chg B C w w')(e:hi<=B∨C<=lo):OwL lo hi w' v ps:=by
 obtain⟨T,d,a⟩:=h;exact⟨T,d.chS c.chS λb f=>by have:=a b (by omega);omega,a⟩
theorem OwL.ow(h:OwL lo hi w v ps):Ow 0 28 0 zt w v ps:=by obtain⟨T,a,b⟩:=h;exact a.ow
theorem OwL.rd(h:OwL lo hi w v ps):RdL zt w v ps:=h.ow.z
theorem OwB.keep(h:OwB lo hi w v x)(k:Keeps w w'):OwB lo hi w' v x:=by
 obtain⟨T,a,d,j,e,g,f,i,b⟩:=h;exact⟨T,a,d,j,e,g.keep k,f.keep k,i.keep k,b⟩
theorem OwB.chg(h:OwB lo hi w v x)(c:Chg B C w w')(n:hi<=B∨C<=lo):OwB lo hi w' v x:=by
 obtain⟨T,f,g,m,e,j,i,k,a⟩:=h;exact⟨T,f,g,m,e,j.chS c.chS λb d=>by have:=a b (by omega);omega,i.chS c.chS λb d=>by have:=a b (by omega);omega,k.chS c.chS λb d=>by have:=a b (by omega);omega,a⟩
end
set_option maxHeartbeats 800000 in
theorem hi_(S:Nat->Prop)(v:Value)(LL:List (List Int))(k:Int)(w:World)(h:OwS S w v LL)(hk:0<=k)(hk2:k+tot LL<=4611686018427387904):
  Calls wQ_ 27 #[v,.int .i64 k] w λe w'=>e=.returned (.int .i64 (k+off LL LL.length))∧OwS S w' v (numbered k LL LL.length)∧ChS S w w':=by
 obtain⟨vs,hM0,hC1,hC2⟩:=h;have HM0:=Lib.hid hM0;have HC1:=Lib.hid hC1;have HC2:=Lib.hid hC2;obtain⟨a,c,rfl,hm,_⟩:=hM0.rows.form;clear hM0 hC1 hC2;have HO:=Lib.hid (mk_ LL);have HOS:=Lib.hid (iu_ LL);go_enter Tryz.func27,Tryz.ntmps27;go_wp2;go_loopw [1,5] (λx i wr=>∃j:Nat,j<=LL.length∧i=.int .i64 j∧x=.int .i64 (k+off LL j)∧MatIn 0 wr (.slice a LL.length c) vs (numbered k LL j)∧ChS S w wr) (λ_ i _=>LL.length-(intOf i).toNat);case atStart=>exact⟨0,Nat.zero_le _,rfl,by simp[off],by rw[nh_];exact HM0.out,ChS.refl _ _⟩
 case round=>
  obtain⟨j,hj,rfl,rfl,hM,hG⟩:=hrel;have HM:=Lib.hid hM;have HG:=Lib.hid hG;clear hM hG;by_cases hlt:j<LL.length
  ·have hjl:j<(numbered k LL j).length:=by rw[eG_];exact hlt
   obtain⟨g,cap,hv,hcell⟩:=HM.out.form (by omega);simp only[Value.slice.injEq] at hv;obtain⟨rfl,-,rfl⟩:=hv;obtain⟨c1,c2⟩:=hcell j hjl;clear hcell;have hO:=HM.out.own j hjl;rw[nr_ k LL j j hlt,if_neg (Nat.lt_irrefl _)] at hO;have HOW:=Lib.hid hO;have b1:=HO.out (j+1) (by omega);have b2:=HOS.out j hlt;have HX:=Lib.hid (HC2.out j hlt);have HW:Hid (∀w' l,wr.grownBy w' (vs.getD j undef).ownBlock->Own 0 w' (vs.getD j undef) l->MatIn 0 w' (.slice (some ⟨g,0,none⟩) LL.length c) vs ((numbered k LL j).set j l)):=λw' l hg ho=>HM.out.wrote hjl hg ho;clear hO;generalize vs.getD j undef=u at c1 HOW HX HW;have hb:k+(off LL j:Int)+((LL.getD j []).length:Int)<=4611686018427387904:=by omega
   have B2:=Lib.hid b2;clear b2;have HNS:=Lib.hid (nm_ k LL j hlt);generalize LL.getD j []=r at HOW B2 hb HNS;go_wp2_with fail;refine (oV_ 0 _ _ _ _ HOW.out (by omega) hb).mono ?_;rintro e w2 ⟨rfl,hO2,hG2⟩;have HN:=Lib.hid (HW.out w2 _ hG2 hO2);have HGN:Hid (ChS S w w2):=HG.out.trans (ChS.of_grown hG2 λq hq=>HX.out q hq);clear hO2 hG2;go_wp2;go_roundw;case rel=>exact⟨j+1,by omega,by go_num,by rw[B2.out];congr 1;omega,by rw[HNS.out];exact HN.out,HGN.out⟩
   case measure=>simp[intOf];omega
  ·go_wp2;go_ret;have he:j=LL.length:=by omega
   subst he;exact⟨rfl,⟨vs,HM.out,HC1.out,λi hi=>HC2.out i (by rw[eG_] at hi;exact hi)⟩,HG.out⟩
theorem OwQT.elem{T:Nat->Nat}{w:World}{Y:Option Addr}{n c0:Nat}{ps:List b_}(h:OwQT T w (.slice Y n c0) ps){j:Nat}{p:b_}(hp:ps[j]? =some p):
  ∃g m s,Y=some ⟨g,0,none⟩∧n=ps.length∧Cells w g (j*4) [.int .i64 p.Labels,.int .i64 p.Degree,m,s]∧(∀i,w.frozen? ⟨g,i,none⟩=false)∧g<w.heap.size∧T g=1∧OwS (λb=>T b=4+2*j) w m p.Nodes∧OwS (λb=>T b=5+2*j) w s p.Edges∧
   ∀L D N E w',ChS (λb=>4<=T b∧(T b=4+2*j∨T b=5+2*j)) ((w.setCell ⟨g,j*4,none⟩ (.int .i64 L)).setCell ⟨g,j*4+1,none⟩ (.int .i64 D)) w'->OwS (λb=>T b=4+2*j) w' m N->OwS (λb=>T b=5+2*j) w' s E->
    OwQT T w' (.slice Y n c0) (ps.set j ⟨L,D,N,E⟩)∧ChS (λb=>T b=1∨4<=T b) w w':=by
 obtain⟨f,cs0,rfl,rfl,hc0,-⟩:=h.ow.at hp;obtain⟨css,h0,K,R,O⟩:=h;have hj:=(List.getElem?_eq_some_iff.1 hp).1;have o:css[j]? =some (css[j]'(by omega)):=List.getElem?_eq_getElem (by omega);obtain⟨m,s,e,hN,hE⟩:=O j _ p o hp;have d:∀cs∈css,cs.length=4:=λcs G=>by
  obtain⟨i,hi'⟩:=List.mem_iff_getElem?.1 G;have hlt:=(List.getElem?_eq_some_iff.1 hi').1;obtain⟨a,b,e,-⟩:=O i cs _ hi' (List.getElem?_eq_getElem (by omega));rw[e];rfl
 rw[e] at o;have hg:=World.ownsRow.lt K f rfl;have J:=R f rfl;refine⟨f,m,s,rfl,rfl,λi u hu=>?_,λi=>World.ownsRow.frozenAt K i,hg.2,J,hN,hE,λL D N E w' M Z U=>?_⟩
 ·have V:i<4:=by have:=(List.getElem?_eq_some_iff.1 hu).1;simpa using this
  have e2:=ls_ css 4 d o i V;rw[hu] at e2;have:=World.ownsRow.cellAt K (j*4+i) (show j*4+i<ps.length*4 by omega);rw[e2] at this;exact this
 ·obtain⟨s1,s2⟩:=World.ownsRow.stored K (j*4) (.int .i64 L);obtain⟨X,s4⟩:=World.ownsRow.stored s1 (j*4+1) (.int .i64 D);have f1:=oY_ css d o 0 (by decide) (.int .i64 L);rw[Nat.add_zero] at f1;rw[f1] at X;have y:∀cs∈css.set j ([Value.int .i64 p.Labels,.int .i64 p.Degree,m,s].set 0 (.int .i64 L)),cs.length=4:=λcs G=>by
   rcases List.mem_or_eq_of_mem_set G with G|rfl
   ·exact d cs G
   ·rfl
  have f2:=oY_ (css.set j ([Value.int .i64 p.Labels,.int .i64 p.Degree,m,s].set 0 (.int .i64 L))) y (j:=j) (cs:=[Value.int .i64 L,.int .i64 p.Degree,m,s]) (by rw[List.getElem?_set,if_pos rfl,if_pos (by omega)];rfl) 1 (by decide) (.int .i64 D);rw[f2,List.set_set] at X;have W:ChS (λb=>b=f) w (w.setCell ⟨f,j*4,none⟩ (.int .i64 L)):=ChS.of_grown s2 λk I=>by cases I;rfl
  have Q:ChS (λb=>b=f) (w.setCell ⟨f,j*4,none⟩ (.int .i64 L)) ((w.setCell ⟨f,j*4,none⟩ (.int .i64 L)).setCell ⟨f,j*4+1,none⟩ (.int .i64 D)):=ChS.of_grown s4 λk I=>by cases I;rfl
  have ch:=W.trans Q;refine⟨⟨_,(List.length_set ..).trans (h0.trans (List.length_set ..).symm),by rw[List.length_set];exact kw_ X M λk I A=>by rw[R k I] at A;omega,R,λi cs q H F=>?_⟩,(ch.mono λb t=>by rw[t];exact .inl J).trans (M.mono λb t=> .inr t.1)⟩;rw[List.getElem?_set] at H F;by_cases ej:j=i
  ·subst ej;rw[if_pos rfl,if_pos hj] at F;rw[if_pos rfl,if_pos (by omega)] at H;cases H;cases F
   exact⟨m,s,rfl,Z,U⟩
  ·rw[if_neg ej] at H F;obtain⟨u2,u3,e',gN,gE⟩:=O i cs q H F;refine⟨u2,u3,e',(gN.chS ch λb t A=>?_).chS M λb t A=>?_,(gE.chS ch λb t A=>?_).chS M λb t A=>?_⟩
   ·rw[A,J] at t;omega
   ·omega
   ·rw[A,J] at t;omega
   ·omega
set_option maxHeartbeats 800000 in
theorem iy_(T:Nat->Nat)(v:Value)(ps:List b_)(k:Int)(w:World)(h:OwQT T w v ps)(hk:0<=k)(hk2:k+szQ ps<=4611686018427387904):
  Calls wQ_ 18 #[v,.int .i64 k] w λe w'=>e=.returned (.int .i64 (k+offQ ps ps.length))∧OwQT T w' v (numU k ps ps.length)∧ChS (λb=>T b=1∨4<=T b) w w':=by
 obtain⟨a0,c0,e0,hm,-⟩:∃a c,v=.slice a ps.length c∧ps.length<=9223372036854775807∧True:=by
  obtain⟨a,c,h1⟩:=h.ow.form;exact⟨a,c,h1,h.ow.len_le,trivial⟩
 subst e0;have HM0:=Lib.hid h;clear h;have HO:=Lib.hid (lq_ ps);have HOS:=Lib.hid (nN_ ps);go_enter Tryz.func18,Tryz.ntmps18;go_wp2;go_loopw [1,5] (λx i wr=>∃j:Nat,j<=ps.length∧i=.int .i64 j∧x=.int .i64 (k+offQ ps j)∧OwQT T wr (.slice a0 ps.length c0) (numU k ps j)∧ChS (λb=>T b=1∨4<=T b) w wr) (λ_ i _=>ps.length-(intOf i).toNat);case atStart=>exact⟨0,Nat.zero_le _,rfl,by simp[offQ],by rw[un_];exact HM0.out,ChS.refl _ _⟩
 case round=>
  obtain⟨j,hj,rfl,rfl,hM,hG⟩:=hrel;have HG:=Lib.hid hG;clear hG;by_cases hlt:j<ps.length
  ·have hp:ps[j]? =some ps[j]:=List.getElem?_eq_getElem hlt;have hp':=kB_ k ps j j ps[j] hp;rw[if_neg (Nat.lt_irrefl _)] at hp';obtain⟨g,v2,v3,rfl,-,hcs,hfr,hgs,hTg,hN,hE,hcl⟩:=hM.elem hp';have b1:=HO.out (j+1);have b2:=HOS.out j _ hp;have HNS:=Lib.hid (ts_ k ps j _ hp);have HCL:=Lib.hid hcl;have HN:=Lib.hid hN;have HE:=Lib.hid hE;have HT:=Lib.hid hTg;obtain⟨x2,y2,rfl,hl2,-⟩:=hN.rows.form;obtain⟨x3,y3,rfl,hl3,-⟩:=hE.rows.form;have c1:wr.cell? ⟨g,j*4,none⟩=some (.int .i64 (ps[j]).Labels):=hcs 0 _ rfl;have c2:wr.cell? ⟨g,j*4+1,none⟩=some (.int .i64 (ps[j]).Degree):=hcs 1 _ rfl;have c3:wr.cell? ⟨g,j*4+2,none⟩=some (.slice x2 (ps[j]).Nodes.length y2):=hcs 2 _ rfl;have c4:wr.cell? ⟨g,j*4+3,none⟩=some (.slice x3 (ps[j]).Edges.length y3):=hcs 3 _ rfl;have B2:=Lib.hid b2;have hcq:Hid (cQ ps[j]=2+(off (ps[j]).Nodes (ps[j]).Nodes.length+off (ps[j]).Edges (ps[j]).Edges.length)):=rfl;have hbd:k+(offQ ps j:Int)+2+(tot (ps[j]).Nodes:Int)+(tot (ps[j]).Edges:Int)<=4611686018427387904:=by
    have:=tR_ ps j _ hp;unfold szT at this;omega
   clear hM hcl hN hE hcs hp hp' b1 b2 hTg;generalize ps[j]=p at*
   obtain⟨L,D,N,E⟩:=p;simp only at*
   go_wp2_with fail;have cW:((wr.setCell ⟨g,j*4,none⟩ (.int .i64 (k+(offQ ps j:Nat)))).setCell ⟨g,j*4+1,none⟩ (.int .i64 (k+(offQ ps j:Nat)+1))).cell? ⟨g,j*4+3,none⟩=some (.slice x3 E.length y3):=by
    rw[World.cell?_setCell_other _ _ _ _ (by intro h;injection h with h1 h2;omega),World.cell?_setCell_other _ _ _ _ (by intro h;injection h with h1 h2;omega),c4]
   have hz:((wr.setCell ⟨g,j*4,none⟩ (.int .i64 (k+(offQ ps j:Nat)))).setCell ⟨g,j*4+1,none⟩ (.int .i64 (k+(offQ ps j:Nat)+1))).heap.size=wr.heap.size:=by simp only[cw_]
   have CS1:=Lib.hid ((Chg.set (w:=wr) (g:=g) (i:=j*4) (u:=.int .i64 (k+(offQ ps j:Nat)))).trans (Chg.set (i:=j*4+1) (u:=.int .i64 (k+(offQ ps j:Nat)+1)))).chS;have HN2:=Lib.hid (HN.out.chS CS1.out λb hb hh=>by rw[show b=g by omega,HT.out] at hb;omega);have HE2:=Lib.hid (HE.out.chS CS1.out λb hb hh=>by rw[show b=g by omega,HT.out] at hb;omega);have HCL2:=Lib.hid (HCL.out (k+(offQ ps j:Nat)) (k+(offQ ps j:Nat)+1));clear HN HE HCL c1 c2 c3 c4 hfr CS1;generalize (wr.setCell ⟨g,j*4,none⟩ (.int .i64 (k+(offQ ps j:Nat)))).setCell ⟨g,j*4+1,none⟩ (.int .i64 (k+(offQ ps j:Nat)+1))=W2 at cW hz HN2 HE2 HCL2 ⊢;have hoN:off N N.length<=tot N:=by unfold tot;omega
   have hoE:off E E.length<=tot E:=by unfold tot;omega
   refine (hi_ _ _ N _ _ HN2.out (by omega) (by omega)).mono ?_;rintro e W3 ⟨rfl,hO,hG3⟩;have HE3:=Lib.hid (HE2.out.chS hG3 λb hb hh=>by omega);have cW3:W3.cell? ⟨g,j*4+3,none⟩=some (.slice x3 E.length y3):=(World.cell?_of_block (a:=⟨g,j*4+3,none⟩) (hG3.block g (by omega) (by rw[HT.out];omega))).trans cW;have HO3:=Lib.hid hO;have HG3:=Lib.hid hG3;clear hO hG3 HN2 HE2 cW;go_wp2_with fail;refine (hi_ _ _ E _ _ HE3.out (by omega) (by omega)).mono ?_;rintro e W4 ⟨rfl,hO,hG4⟩;have HO4:=Lib.hid (HO3.out.chS hG4 λb hb hh=>by omega);have HR:=Lib.hid (HCL2.out _ _ W4 ((HG3.out.mono λb hb=>⟨by omega,.inl hb⟩).trans (hG4.mono λb hb=>⟨by omega,.inr hb⟩)) HO4.out hO);clear hO hG4 HO4 HO3 HE3 HG3 HCL2;go_wp2;go_roundw;case rel=>exact⟨j+1,by omega,by go_num,by rw[B2.out,hcq.out];congr 1;omega,by rw[HNS.out];exact HR.out.1,HG.out.trans HR.out.2⟩
   case measure=>simp[intOf];omega
  ·go_wp2;go_ret;have he:j=ps.length:=by omega
   subst he;exact⟨rfl,hM,HG.out⟩
end
section
set_option maxRecDepth 100000
set_option maxHeartbeats 2000000
open Go.RowKit
theorem hj_:(wQ_.info? 28).map (·.size)=some 4:=by kernel_rfl
theorem gT_:Inf wQ_ 28 (.agg #[.int .i64 0,.int .i64 0,.slice none 0 0,.slice none 0 0]) 4 64:=by unfold Inf;kernel_rfl
def co_(fuel:Nat)(d:List b_):((List b_)×Int)->Option (Lp ((List b_)×Int) ((List b_)×Int) (List b_)):=λ(s:(List b_)×Int)=>
  if decide (s.2<(d.length:Int)) then
    (ix d s.2)>>=λa=>
    (ix s.1 s.2)>>=λf=>
    (st s.1 s.2 a)>>=λb=>
    (ck (s.2+1))>>=λc=>
    some (.go (b,c))
  else
    some (.out (s.1,s.2))
def fG_(fuel:Nat)(b:List b_):Option (List b_):=
  (mk (Rz.z:b_) (b.length:Int))>>=λc=>
  (loopF (co_ fuel b) fuel (c,0))>>=λa=>
  match a with
  | .inl (d,f)=>
    some d
  | .inr _=>none
def nD_(w:World)(r:List b_):Ending->World->Prop:=λe w'=>∃(a:Value),e=.returned a∧OwL w.heap.size w'.heap.size w' a r∧Keeps w w'
theorem nA_(fuel:Nat)(w:World)(j:Value)(v:List b_)(M:RdL zt w j v)(r:List b_)(hF:fG_ fuel v=some r)(hsz:∀p∈v,szP (prOf p)<=1048576):
    Calls wQ_ 32 #[j] w (nD_ w r):=by
 unfold fG_ at hF;have hB:Bs (λ_=>1) (col (λ_=>1)) w w:=Bs.start _ _;refine i_ (n:=23) (vs:=[j]) Tryz.func32 rfl rfl ?_;generalize col (λ_=>1)=o at*;refine Zq (Za rfl (Ze [(0,_)] (Zn (Zm rfl (Zv (B_ rfl M xs_) ?_)))));obtain⟨b1,N,hF⟩:=a_ hF;obtain⟨O,y⟩:=mkQ N;refine Zo ?_;refine hn_ (α:=Qv) (o:=o) w.heap.size 11 hB.keeps.size O rfl rfl xc_ gT_ rfl (by decide) ?_;intro b2 d0 g b3 b4;replace hB:=hB.stp b4;refine Za rfl (Ze [(0,_),(3,_)] (nx (c_ (Zq (Za rfl (Ze [(0,_),(3,_),(4,_)] (nx ?_)))))));obtain⟨z,A,hF⟩:=a_ hF;refine v_ (λa c=>∃k,∃(f:Int),∃(d:Tg),z=.inl (k,f)∧Fr a 23 [(3,g)]∧Bs (λ_=>1) d w c∧∃m:List Qv,Oz w 28 11 d c g m∧PrsN c.heap.size w.heap.size d c m k) (λ_ _=>False) ?_ ?_ ?_
 ·refine f_ ?_;refine w_ (λ(K:Nat) a c=>∃k,∃(f:Int),∃(d:Tg),loopF (co_ fuel v) K (k,f)=some z∧Fr a 23 [(0,j),(3,g),(4,ZI f)]∧Bs (λ_=>1) d w c∧∃m:List Qv,Oz w 28 11 d c g m∧PrsN c.heap.size w.heap.size d c (m.take f.toNat) (k.take f.toNat)∧m.length=k.length∧k.length=v.length∧0<=f) fuel (λa ha=>⟨b1,0,b2,A,ha.sb,hB,_,b3,PrsN.nil _ _ _ hB.keeps.size (Nat.le_refl _),y.1,y.2,Int.le_refl 0⟩) ?_;rintro K16 a c ⟨k,f,d,P,ha,hB,m,x,hq,B,Q,b5⟩;obtain⟨K20,b6,b7,b,C⟩:=X_ P;dsimp only[co_] at b;refine J_ ha ?_;refine c_ (Zq (Zm rfl (Zm rfl (Zv (B_ rfl M xs_) (Zv (r_ rfl rfl) (Ze [(0,_),(3,_),(4,_),(11,_)] (nx ?_)))))));refine l_ rfl (λq=>?_) (λq=>?_)
  ·rw[if_pos q] at b;refine g_ (nx (c_ (f_ (d_ (Zm rfl (Zm rfl (Zm rfl (Zm rfl ?_))))))));obtain⟨i,s,b⟩:=a_ b;refine Zo ?_;refine wf_atZ M s hB rfl rfl xs_ xT_ ?_;intro b8 b9 c0 R S;obtain⟨c1,c2,rfl,T,U⟩:=S;refine Zv (E_ rfl Tryz.isAgg24 xT_ rfl R) (Zo ?_);refine o_ (pk_ c d _ i (⟨_,_,rfl,T.keep hB.keeps,U.keep hB.keeps⟩) (hsz _ (List.mem_of_getElem? (fx_ s).2.2))) Tryz.call11 ⟨rfl,trivial⟩ ?_;rintro c3 V ⟨c4,D,rfl,hp,W,X⟩;have Y:=W.stp' 12 X;refine⟨_,rfl,?_⟩;obtain⟨x,hB,hq⟩:=ZS Y (A3 x hB hq);obtain⟨E,F,rfl,hpq⟩:=hp;have Z:=hpq.rdN;have a0:=hpq.rdE;obtain⟨c5,G,b⟩:=a_ b;obtain⟨c6,H⟩:=ixQ G B;refine Zo ?_;refine fC_ x H rfl rfl xc_ wU_ ?_;intro c7 c8 a1 a2 a3;clear a2 a3;obtain⟨a4,I,b⟩:=a_ b;obtain⟨a5,J,hgl,hgt,hxl,hxt⟩:=stQ (⟨[ZI i.Labels,ZI i.Degree,E,F]⟩:Qv) I B;refine Z_ trivial ?_;refine sU_ (cs:=[ZI i.Labels,ZI i.Degree,E,F]) x a1 J (Qv.ok Z.one1 a0.one1) (by decide) rfl rfl hj_ ?_;intro c9 a6 a7;replace hq:=hq.push (w:=V) (o:=D) (p:=i) ⟨_,_,rfl,hpq⟩ (Nat.le_refl _) (Nat.le_refl _) (Nat.le_trans hq.low (Nat.le_refl _));rw[<-hgt,<-hxt] at hq;obtain⟨hq,hB⟩:=ZS a7 (A2 hq hB);refine Ze [(0,_),(3,_),(4,_)] (x_ (nx (d_ (Zm rfl ?_))));obtain⟨L,u,b⟩:=a_ b;refine Zv (C_ rfl rfl u) (Za rfl (Ze [(0,_),(3,_),(4,_)] (u_ ?_)));have a8:=Zj b;subst a8;refine Zk [(0,_),(3,_),(4,_)] ?_;intro a ha;obtain⟨rfl,-,-⟩:=bV_ u;have hj:(f+1).toNat=f.toNat+1:=by omega
   exact⟨K20,by omega,a4,f+1,D,C,ha,hB,a5,a6,by rw[hj];exact hq.grow hq.size (Nat.le_refl _),hgl,hxl.trans Q,by omega⟩
  ·replace b:=ZF q b;refine s_ ?_;refine n_ (n_ (N_ ?_));refine p_ ?_;have a9:=Zj b;subst a9;refine Zk [(3,_)] ?_;intro a ha;have hy:¬f<(v.length:Int):=of_decide_eq_false q;rw[List.take_of_length_le (by omega),List.take_of_length_le (by omega)] at hq;exact⟨k,f,d,C,ha,hB,m,x,hq⟩
 ·rintro a c ⟨k,f,d,rfl,ha,hB,m,x,hq⟩;dsimp only at hF;refine ap_k ha ?_;refine Zn (Zm rfl (Za rfl (Ze [(2,_)] (nx (j_ ?_)))));have b0:=Zj hF;subst b0;refine Zr Tryz.results32 [g] ?_;exact⟨_,rfl,OwL.mk x (by decide) hq,hB.keeps⟩
 ·exact λ_ _ h=>h.elim
end
section
set_option maxRecDepth 100000
set_option maxHeartbeats 2000000
open Go.RowKit
def es_(d:List Int)(f:List Int):Int->Option (Lp Int Int Bool):=λ(s:Int)=>
  if decide (s<(d.length:Int)) then
    (ix d s)>>=λa=>
    (ix f s)>>=λb=>
    if a !=b then
      some (.ret false)
    else
      (ck (s+1))>>=λc=>
      some (.go c)
  else
    some (.out s)
def hU_(fuel:Nat)(a:List Int)(b:List Int):Option Bool:=
  if(a.length:Int) !=(b.length:Int) then
    some false
  else
    (loopF (es_ a b) fuel 0)>>=λc=>
    match c with
    | .inl d=>
      some true
    | .inr r'=>some r'
def pd_(w:World)(r:Bool):Ending->World->Prop:=λe w'=>e=.returned (.bool r)∧Keeps w w'
theorem tx_(fuel:Nat)(w:World)(f:Value)(u:Yl)(D:RdL zt w f u)(g:Value)(z:Yl)(E:RdL zt w g z)(r:Bool)(hF:hU_ fuel u z=some r):
    Calls wQ_ 24 #[f,g] w (pd_ w r):=by
 unfold hU_ at hF;have hB:Bs (λ_=>1) (col (λ_=>1)) w w:=Bs.start _ _;refine i_ (n:=26) (vs:=[f,g]) Tryz.func24 rfl rfl ?_;refine Zq (Za rfl (Ze [(0,_),(1,_)] (nx (c_ (Zq (Zm rfl (Zv (B_ rfl D wR_) (Zm rfl (Zv (B_ rfl E wR_) (Zv (bR_ rfl rfl) (Ze [(0,_),(1,_),(10,_)] (nx ?_))))))))))));refine l_ rfl (λF=>?_) (λF=>?_)
 ·rw[if_pos F] at hF;refine Zq (Za rfl (Ze [(4,_)] (nx (j_ (y_ ?_)))));have Z:=Zj hF;subst Z;refine Zr yy_ [.bool false] ?_;exact⟨rfl,hB.keeps⟩
 ·replace hF:=ZF F hF;refine g_ (nx (c_ (Zq (Za rfl (Ze [(0,_),(1,_),(5,_)] (nx ?_))))));obtain⟨G,H,hF⟩:=a_ hF;refine v_ (λa x=>∃(d:Int),∃(y:Tg),G=.inl d∧Fr a 26 []∧Bs (λ_=>1) y w x) (λa w'=>∃r',G=.inr r'∧bodyPost wQ_ Tryz.f24 (pd_ w r') .ret a w') ?_ ?_ ?_
  ·refine f_ ?_;refine w_ (λ(K:Nat) a x=>∃(d:Int),∃(y:Tg),loopF (es_ u z) K d=some G∧Fr a 26 [(0,f),(1,g),(5,ZI d)]∧Bs (λ_=>1) y w x) fuel (λa ha=>⟨0,col (λ_=>1),H,ha.sb,hB⟩) ?_;rintro K10 a x ⟨d,y,a0,ha,hB⟩;obtain⟨K14,a1,a2,b,k⟩:=X_ a0;dsimp only[es_] at b;refine J_ ha ?_;refine c_ (Zq (Zm rfl (Zm rfl (Zv (B_ rfl D wR_) (Zv (r_ rfl rfl) (Ze [(0,_),(1,_),(5,_),(14,_)] (nx ?_)))))));refine l_ rfl (λm=>?_) (λm=>?_)
   ·rw[if_pos m] at b;refine g_ (nx (c_ (f_ (c_ ?_))));obtain⟨A,i,b⟩:=a_ b;obtain⟨B,j,b⟩:=a_ b;refine ZW (Bf:=λa3 a4=>Bs (λ_=>1) a3 w a4) [(0,_),(1,_),(5,_)] (Zrg 17 8) [[],[],[0,1],[2],[],[],[4,5],[6]] (Zcn 8) (Zt9 8) (Zt0 8) [999] [.inl f,.inl (ZI d),.inr (λv o a5=>∃vl,v=adr vl (d.toNat*Rp.sz Int)∧RdL zt w vl u),.inl (ZI A),.inl g,.inl (ZI d),.inr (λv o a5=>∃vl,v=adr vl (d.toNat*Rp.sz Int)∧RdL zt w vl z),.inl (ZI B)] hB ⟨λ_ _ _ _ _ _ a6 hb ⟨vl,e,h⟩ hs=>⟨vl,e,h⟩,λ_ _ _ _ _ _ a6 hb ⟨vl,e,h⟩ hs=>⟨vl,e,h⟩,trivial⟩ ?_ ?_
    ·refine⟨Dp (h_ rfl),Dp (h_ rfl),?_,?_,Dp (h_ rfl),Dp (h_ rfl),?_,?_,trivial⟩
     ·rintro a7 a8 a9 ha- -;refine Zs ha ?_;refine ae_ D i rfl rfl wR_ wS_ ?_;exact⟨_,Stp.refl _ _ _,⟨_,rfl,D⟩⟩
     ·rintro b0 b1 b2 ha hB ⟨I,-⟩;obtain⟨b3,J,L⟩:=I;have ha:=ha.c J;refine Zs ha ?_;refine bB_ L i hB rfl rfl wT_ ?_;intro b4 M;cases M
      exact Zx rfl
     ·rintro b5 b6 b7 ha- -;refine Zs ha ?_;refine ae_ E j rfl rfl wR_ wS_ ?_;exact⟨_,Stp.refl _ _ _,⟨_,rfl,E⟩⟩
     ·rintro b8 b9 c0 ha hB ⟨N,-⟩;obtain⟨c1,O,Q⟩:=N;have ha:=ha.c O;refine Zs ha ?_;refine bB_ Q j hB rfl rfl wT_ ?_;intro c2 R;cases R
      exact Zx rfl
    rintro _ rfl S c3 c4 ha hB-;refine aH_ ha ?_;refine Zv (bR_ rfl rfl) (Ze [(0,_),(1,_),(5,_),(25,_)] (nx ?_));refine l_ rfl (λq=>?_) (λq=>?_)
    ·rw[if_pos q] at b;refine Zq (Za rfl (Ze [(4,_)] (nx (j_ (W_ (y_ (y_ (W_ ?_))))))));refine bg_ ?_;have T:=Zj b;subst T;refine λa ha=>⟨_,k,?_⟩;refine D_ (P:=wQ_) (vs:=[.bool false]) yy_ ⟨rfl,trivial⟩ ?_ a ha;exact⟨rfl,hB.keeps⟩
    ·replace b:=ZF q b;refine g_ (x_ (nx (d_ (Zm rfl ?_))));obtain⟨s,C,b⟩:=a_ b;refine Zv (C_ rfl rfl C) (Za rfl (Ze [(0,_),(1,_),(5,_)] (u_ ?_)));have U:=Zj b;subst U;refine Zk [(0,_),(1,_),(5,_)] ?_;intro a ha;exact⟨K14,by omega,s,S,k,ha,hB⟩
   ·replace b:=ZF m b;refine s_ ?_;refine n_ (n_ (N_ ?_));refine p_ ?_;have V:=Zj b;subst V;refine Zk [] ?_;intro a ha;exact⟨d,y,k,ha,hB⟩
  ·rintro a x ⟨d,y,rfl,ha,hB⟩;dsimp only at hF;refine ap_k ha ?_;refine Zn (Za rfl (Ze [(4,_)] (nx (j_ ?_))));have W:=Zj hF;subst W;refine Zr yy_ [.bool true] ?_;exact⟨rfl,hB.keeps⟩
  ·rintro a x ⟨r',rfl,X⟩;dsimp only at hF;have Y:=Zj hF;subst Y;exact X
def dL_(fuel:Nat)(f:List (List Int))(g:List (List Int)):Int->Option (Lp Int Int Bool):=λ(s:Int)=>
  if decide (s<(f.length:Int)) then
    (ix f s)>>=λa=>
    (ix g s)>>=λb=>
    (hU_ fuel a b)>>=λc=>
    if !c then
      some (.ret false)
    else
      (ck (s+1))>>=λd=>
      some (.go d)
  else
    some (.out s)
def ee_(fuel:Nat)(a:List (List Int))(b:List (List Int)):Option Bool:=
  if(a.length:Int) !=(b.length:Int) then
    some false
  else
    (loopF (dL_ fuel a b) fuel 0)>>=λc=>
    match c with
    | .inl d=>
      some true
    | .inr r'=>some r'
def mf_(w:World)(r:Bool):Ending->World->Prop:=λe w'=>e=.returned (.bool r)∧Keeps w w'
theorem is_(fuel:Nat)(w:World)(f:Value)(B:Yk)(J:RdL zt w f B)(g:Value)(E:Yk)(L:RdL zt w g E)(r:Bool)(hF:ee_ fuel B E=some r):
    Calls wQ_ 25 #[f,g] w (mf_ w r):=by
 unfold ee_ at hF;have hB:Bs (λ_=>1) (col (λ_=>1)) w w:=Bs.start _ _;refine i_ (n:=27) (vs:=[f,g]) Tryz.func25 rfl rfl ?_;refine Zq (Za rfl (Ze [(0,_),(1,_)] (nx (c_ (Zq (Zm rfl (Zv (B_ rfl J wV_) (Zm rfl (Zv (B_ rfl L wV_) (Zv (bR_ rfl rfl) (Ze [(0,_),(1,_),(10,_)] (nx ?_))))))))))));refine l_ rfl (λM=>?_) (λM=>?_)
 ·rw[if_pos M] at hF;refine Zq (Za rfl (Ze [(4,_)] (nx (j_ (y_ ?_)))));have b5:=Zj hF;subst b5;refine Zr yz_ [.bool false] ?_;exact⟨rfl,hB.keeps⟩
 ·replace hF:=ZF M hF;refine g_ (nx (c_ (Zq (Za rfl (Ze [(0,_),(1,_),(5,_)] (nx ?_))))));obtain⟨N,O,hF⟩:=a_ hF;refine v_ (λa C=>∃(d:Int),∃(D:Tg),N=.inl d∧Fr a 27 []∧Bs (λ_=>1) D w C) (λa w'=>∃r',N=.inr r'∧bodyPost wQ_ Tryz.f25 (mf_ w r') .ret a w') ?_ ?_ ?_
  ·refine f_ ?_;refine w_ (λ(K:Nat) a C=>∃(d:Int),∃(D:Tg),loopF (dL_ fuel B E) K d=some N∧Fr a 27 [(0,f),(1,g),(5,ZI d)]∧Bs (λ_=>1) D w C) fuel (λa ha=>⟨0,col (λ_=>1),O,ha.sb,hB⟩) ?_;rintro K10 a C ⟨d,D,b6,ha,hB⟩;obtain⟨K14,b7,b8,b,s⟩:=X_ b6;dsimp only[dL_] at b;refine J_ ha ?_;refine c_ (Zq (Zm rfl (Zm rfl (Zv (B_ rfl J wV_) (Zv (r_ rfl rfl) (Ze [(0,_),(1,_),(5,_),(14,_)] (nx ?_)))))));refine l_ rfl (λu=>?_) (λu=>?_)
   ·rw[if_pos u] at b;refine g_ (nx (c_ (f_ (c_ ?_))));obtain⟨x,m,b⟩:=a_ b;obtain⟨y,q,b⟩:=a_ b;refine ZW (Bf:=λb9 c0=>Bs (λ_=>1) b9 w c0) [(0,_),(1,_),(5,_)] (Zrg 17 8) [[],[],[0,1],[2],[],[],[4,5],[6]] (Zcn 8) (Zt9 8) (Zt0 8) [999] [.inl f,.inl (ZI d),.inr (λv o Q=>∃vl,v=adr vl (d.toNat*Rp.sz Yl)∧RdL zt w vl B),.inr (λv o Q=>RdL zt w v x),.inl g,.inl (ZI d),.inr (λv o Q=>∃vl,v=adr vl (d.toNat*Rp.sz Yl)∧RdL zt w vl E),.inr (λv o Q=>RdL zt w v y)] hB ⟨λ_ _ _ _ _ _ R hb ⟨vl,e,h⟩ hs=>⟨vl,e,h⟩,λ_ _ _ _ _ _ R hb h hs=>h,λ_ _ _ _ _ _ R hb ⟨vl,e,h⟩ hs=>⟨vl,e,h⟩,λ_ _ _ _ _ _ R hb h hs=>h,trivial⟩ ?_ ?_
    ·refine⟨Dp (h_ rfl),Dp (h_ rfl),?_,?_,Dp (h_ rfl),Dp (h_ rfl),?_,?_,trivial⟩
     ·rintro c1 c2 c3 ha- -;refine Zs ha ?_;refine ae_ J m rfl rfl wV_ wY_ ?_;exact⟨_,Stp.refl _ _ _,⟨_,rfl,J⟩⟩
     ·rintro c4 c5 c6 ha hB ⟨S,-⟩;obtain⟨c7,T,U⟩:=S;have ha:=ha.c T;refine Zs ha ?_;refine bB_ U m hB rfl rfl xa_ ?_;intro c8 V;obtain⟨c9,W,X⟩:=V;cases W
      exact⟨_,Stp.refl _ _ _,X⟩
     ·rintro d0 d1 d2 ha- -;refine Zs ha ?_;refine ae_ L q rfl rfl wV_ wY_ ?_;exact⟨_,Stp.refl _ _ _,⟨_,rfl,L⟩⟩
     ·rintro d3 d4 d5 ha hB ⟨Y,-⟩;obtain⟨d6,Z,a0⟩:=Y;have ha:=ha.c Z;refine Zs ha ?_;refine bB_ a0 q hB rfl rfl xa_ ?_;intro d7 a1;obtain⟨d8,a2,a3⟩:=a1;cases a2
      exact⟨_,Stp.refl _ _ _,a3⟩
    rintro _ rfl F a4 i ha hB ⟨-,j,-,k,-⟩;replace j:RdL zt w (i.tmps.getD 20 undef) x:=j;generalize a5:i.tmps.getD 20 undef=d9 at j;have ha:=ha.c a5;replace k:RdL zt w (i.tmps.getD 24 undef) y:=k;generalize a6:i.tmps.getD 24 undef=e0 at k;have ha:=ha.c a6;refine aH_ ha ?_;obtain⟨G,H,b⟩:=a_ b;refine Zo ?_;refine o_ (tx_ fuel a4 _ x (j.keep hB.keeps) _ y (k.keep hB.keeps) G H) Tryz.call24 ⟨rfl,rfl,trivial⟩ ?_;rintro e1 e2 ⟨rfl,a7⟩;have a8:=a7.stp 999 F;refine⟨_,rfl,?_⟩;replace hB:=hB.stp a8;refine Zv (aI_ rfl) (Ze [(0,_),(1,_),(5,_),(26,_)] (nx ?_));refine l_ rfl (λz=>?_) (λz=>?_)
    ·rw[if_pos z] at b;refine Zq (Za rfl (Ze [(4,_)] (nx (j_ (W_ (y_ (y_ (W_ ?_))))))));refine bg_ ?_;have a9:=Zj b;subst a9;refine λa ha=>⟨_,s,?_⟩;refine D_ (P:=wQ_) (vs:=[.bool false]) yz_ ⟨rfl,trivial⟩ ?_ a ha;exact⟨rfl,hB.keeps⟩
    ·replace b:=ZF z b;refine g_ (x_ (nx (d_ (Zm rfl ?_))));obtain⟨A,I,b⟩:=a_ b;refine Zv (C_ rfl rfl I) (Za rfl (Ze [(0,_),(1,_),(5,_)] (u_ ?_)));have b0:=Zj b;subst b0;refine Zk [(0,_),(1,_),(5,_)] ?_;intro a ha;exact⟨K14,by omega,A,F,s,ha,hB⟩
   ·replace b:=ZF u b;refine s_ ?_;refine n_ (n_ (N_ ?_));refine p_ ?_;have b1:=Zj b;subst b1;refine Zk [] ?_;intro a ha;exact⟨d,D,s,ha,hB⟩
  ·rintro a C ⟨d,D,rfl,ha,hB⟩;dsimp only at hF;refine ap_k ha ?_;refine Zn (Za rfl (Ze [(4,_)] (nx (j_ ?_))));have b2:=Zj hF;subst b2;refine Zr yz_ [.bool true] ?_;exact⟨rfl,hB.keeps⟩
  ·rintro a C ⟨r',rfl,b3⟩;dsimp only at hF;have b4:=Zj hF;subst b4;exact b3
def ft_(fuel:Nat)(a:b_)(b:b_):Option Bool:=
  if a.Labels !=b.Labels then
    some false
  else
    if a.Degree !=b.Degree then
      some false
    else
      (ee_ fuel a.Nodes b.Nodes)>>=λc=>
      if !c then
        some false
      else
        (ee_ fuel a.Edges b.Edges)>>=λd=>
        if !d then
          some false
        else
          some true
def oe_(w:World)(r:Bool):Ending->World->Prop:=λe w'=>e=.returned (.bool r)∧Keeps w w'
theorem oU_(fuel:Nat)(w:World)(L:List Value)(c:b_)(R:Rp.rd zt w L c)(M:List Value)(d:b_)(S:Rp.rd zt w M d)(r:Bool)(hF:ft_ fuel c d=some r):
    Calls wQ_ 13 #[.agg L.toArray,.agg M.toArray] w (oe_ w r):=by
 unfold ft_ at hF;obtain⟨N,O,rfl,T,U⟩:=R;obtain⟨P,Q,rfl,V,W⟩:=S;have hB:Bs (λ_=>1) (col (λ_=>1)) w w:=Bs.start _ _;refine i_ (n:=27) (vs:=[.agg #[ZI c.Labels,ZI c.Degree,N,O],.agg #[ZI d.Labels,ZI d.Degree,P,Q]]) Tryz.func13 rfl rfl ?_;refine Zq (Zo ?_);refine as_ (o:=(col (λ_=>1))) w.heap.size 11 hB.keeps.size (cs:=[ZI c.Labels,ZI c.Degree,N,O]) rfl rfl ?_;intro X Y f a y;replace hB:=hB.stp y;refine Zo ?_;refine as_ (o:=X) w.heap.size 12 hB.keeps.size (cs:=[ZI d.Labels,ZI d.Degree,P,Q]) rfl rfl ?_;intro q z g b A;obtain⟨a,hB⟩:=ZS A (A2 a hB);refine Za rfl (Ze [(2,_),(3,_)] (nx (c_ (Zq (Zv (m_ rfl wW_ rfl wS_) (Zv (e_ rfl wT_ (a.cell rfl)) (Zv (m_ rfl wW_ rfl wS_) (Zv (e_ rfl wT_ (b.cell rfl)) (Zv (bR_ rfl rfl) (Ze [(2,_),(3,_),(9,_)] (nx ?_)))))))))));refine l_ rfl (λi=>?_) (λi=>?_)
 ·rw[if_pos i] at hF;refine Zq (Za rfl (Ze [(4,_)] (nx (j_ (y_ ?_)))));have B:=Zj hF;subst B;refine Zr xK_ [.bool false] ?_;exact⟨rfl,hB.keeps⟩
 ·replace hF:=ZF i hF;refine g_ (nx (c_ (Zq (Zv (m_ rfl wW_ rfl wS_) (Zv (e_ rfl wT_ (a.cell rfl)) (Zv (m_ rfl wW_ rfl wS_) (Zv (e_ rfl wT_ (b.cell rfl)) (Zv (bR_ rfl rfl) (Ze [(2,_),(3,_),(14,_)] (nx ?_))))))))));refine l_ rfl (λj=>?_) (λj=>?_)
  ·rw[if_pos j] at hF;refine Zq (Za rfl (Ze [(4,_)] (nx (j_ (y_ ?_)))));have C:=Zj hF;subst C;refine Zr xK_ [.bool false] ?_;exact⟨rfl,hB.keeps⟩
  ·replace hF:=ZF j hF;refine g_ (nx (c_ (Zq (Zv (m_ rfl wW_ rfl wZ_) (Zv (e_ rfl xb_ (a.cell rfl)) (Zv (m_ rfl wW_ rfl wZ_) (Zv (e_ rfl xb_ (b.cell rfl)) ?_)))))));obtain⟨s,u,hF⟩:=a_ hF;refine Zo ?_;refine o_ (is_ fuel z _ c.Nodes (T.keep hB.keeps) _ d.Nodes (V.keep hB.keeps) s u) xU_ ⟨rfl,rfl,trivial⟩ ?_;rintro Z D ⟨rfl,E⟩;have F:=E.stp 999 q;refine⟨_,rfl,?_⟩;obtain⟨a,b,hB⟩:=ZS F (A3 a b hB);refine Zv (aI_ rfl) (Ze [(2,_),(3,_),(20,_)] (nx ?_));refine l_ rfl (λk=>?_) (λk=>?_)
   ·rw[if_pos k] at hF;refine Zq (Za rfl (Ze [(4,_)] (nx (j_ (y_ ?_)))));have G:=Zj hF;subst G;refine Zr xK_ [.bool false] ?_;exact⟨rfl,hB.keeps⟩
   ·replace hF:=ZF k hF;refine g_ (nx (c_ (Zq (Zv (m_ rfl wW_ rfl wZ_) (Zv (e_ rfl xb_ (a.cell rfl)) (Zv (m_ rfl wW_ rfl wZ_) (Zv (e_ rfl xb_ (b.cell rfl)) ?_)))))));obtain⟨v,x,hF⟩:=a_ hF;refine Zo ?_;refine o_ (is_ fuel D _ c.Edges (U.keep hB.keeps) _ d.Edges (W.keep hB.keeps) v x) xU_ ⟨rfl,rfl,trivial⟩ ?_;rintro a0 a1 ⟨rfl,H⟩;have I:=H.stp 999 q;refine⟨_,rfl,?_⟩;replace hB:=hB.stp I;refine Zv (aI_ rfl) (Ze [(26,_)] (nx ?_));refine l_ rfl (λm=>?_) (λm=>?_)
    ·rw[if_pos m] at hF;refine Zq (Za rfl (Ze [(4,_)] (nx (j_ (y_ ?_)))));have J:=Zj hF;subst J;refine Zr xK_ [.bool false] ?_;exact⟨rfl,hB.keeps⟩
    ·replace hF:=ZF m hF;refine g_ (Zn (Za rfl (Ze [(4,_)] (nx (j_ ?_)))));have K:=Zj hF;subst K;refine Zr xK_ [.bool true] ?_;exact⟨rfl,hB.keeps⟩
def cn_(fuel:Nat)(f:List b_)(g:List b_):Int->Option (Lp Int Int Bool):=λ(s:Int)=>
  if decide (s<(f.length:Int)) then
    (ix f s)>>=λb=>
    (ix g s)>>=λc=>
    (ft_ fuel b c)>>=λd=>
    if !d then
      some (.ret false)
    else
      (ck (s+1))>>=λa=>
      some (.go a)
  else
    some (.out s)
def eK_(fuel:Nat)(a:List b_)(b:List b_):Option Bool:=
  if(a.length:Int) !=(b.length:Int) then
    some false
  else
    (loopF (cn_ fuel a b) fuel 0)>>=λc=>
    match c with
    | .inl d=>
      some true
    | .inr r'=>some r'
def jl_(w:World)(r:Bool):Ending->World->Prop:=λe w'=>e=.returned (.bool r)∧Keeps w w'
theorem jc_(fuel:Nat)(w:World)(f:Value)(x:List b_)(Q:RdL zt w f x)(g:Value)(A:List b_)(R:RdL zt w g A)(r:Bool)(hF:eK_ fuel x A=some r):
    Calls wQ_ 16 #[f,g] w (jl_ w r):=by
 unfold eK_ at hF;have hB:Bs (λ_=>1) (col (λ_=>1)) w w:=Bs.start _ _;refine i_ (n:=27) (vs:=[f,g]) Tryz.func16 rfl rfl ?_;refine Zq (Za rfl (Ze [(0,_),(1,_)] (nx (c_ (Zq (Zm rfl (Zv (B_ rfl Q xc_) (Zm rfl (Zv (B_ rfl R xc_) (Zv (bR_ rfl rfl) (Ze [(0,_),(1,_),(10,_)] (nx ?_))))))))))));refine l_ rfl (λS=>?_) (λS=>?_)
 ·rw[if_pos S] at hF;refine Zq (Za rfl (Ze [(4,_)] (nx (j_ (y_ ?_)))));have c1:=Zj hF;subst c1;refine Zr yA_ [.bool false] ?_;exact⟨rfl,hB.keeps⟩
 ·replace hF:=ZF S hF;refine g_ (nx (c_ (Zq (Za rfl (Ze [(0,_),(1,_),(5,_)] (nx ?_))))));obtain⟨T,U,hF⟩:=a_ hF;refine v_ (λa y=>∃(d:Int),∃(z:Tg),T=.inl d∧Fr a 27 []∧Bs (λ_=>1) z w y) (λa w'=>∃r',T=.inr r'∧bodyPost wQ_ Tryz.f16 (jl_ w r') .ret a w') ?_ ?_ ?_
  ·refine f_ ?_;refine w_ (λ(K:Nat) a y=>∃(d:Int),∃(z:Tg),loopF (cn_ fuel x A) K d=some T∧Fr a 27 [(0,f),(1,g),(5,ZI d)]∧Bs (λ_=>1) z w y) fuel (λa ha=>⟨0,col (λ_=>1),U,ha.sb,hB⟩) ?_;rintro K10 a y ⟨d,z,c2,ha,hB⟩;obtain⟨K14,c3,c4,b,q⟩:=X_ c2;dsimp only[cn_] at b;refine J_ ha ?_;refine c_ (Zq (Zm rfl (Zm rfl (Zv (B_ rfl Q xc_) (Zv (r_ rfl rfl) (Ze [(0,_),(1,_),(5,_),(14,_)] (nx ?_)))))));refine l_ rfl (λs=>?_) (λs=>?_)
   ·rw[if_pos s] at b;refine g_ (nx (c_ (f_ (c_ ?_))));obtain⟨B,k,b⟩:=a_ b;obtain⟨C,m,b⟩:=a_ b;refine ZW (Bf:=λc5 c6=>Bs (λ_=>1) c5 w c6) [(0,_),(1,_),(5,_)] (Zrg 17 8) [[],[],[0,1],[2],[],[],[4,5],[6]] (Zcn 8) (Zt9 8) (Zt0 8) [999] [.inl f,.inl (ZI d),.inr (λv o V=>∃vl,v=adr vl (d.toNat*Rp.sz b_)∧RdL zt w vl x),.inr (λv o V=>∃(c:List Value),v=.agg c.toArray∧Rp.rd zt w c B),.inl g,.inl (ZI d),.inr (λv o V=>∃vl,v=adr vl (d.toNat*Rp.sz b_)∧RdL zt w vl A),.inr (λv o V=>∃(c:List Value),v=.agg c.toArray∧Rp.rd zt w c C)] hB ⟨λ_ _ _ _ _ _ W hb ⟨vl,e,h⟩ hs=>⟨vl,e,h⟩,λ_ _ _ _ _ _ W hb ⟨c,e,h⟩ hs=>⟨c,e,h⟩,λ_ _ _ _ _ _ W hb ⟨vl,e,h⟩ hs=>⟨vl,e,h⟩,λ_ _ _ _ _ _ W hb ⟨c,e,h⟩ hs=>⟨c,e,h⟩,trivial⟩ ?_ ?_
    ·refine⟨Dp (h_ rfl),Dp (h_ rfl),?_,?_,Dp (h_ rfl),Dp (h_ rfl),?_,?_,trivial⟩
     ·rintro c7 c8 c9 ha- -;refine Zs ha ?_;refine ae_ Q k rfl rfl xc_ wU_ ?_;exact⟨_,Stp.refl _ _ _,⟨_,rfl,Q⟩⟩
     ·rintro d0 d1 d2 ha hB ⟨X,-⟩;obtain⟨d3,Y,Z⟩:=X;have ha:=ha.c Y;refine Zs ha ?_;refine os_ Z k hB rfl wX_ wU_ ?_;intro d4 a0;obtain⟨d5,d6,rfl,a1,a2⟩:=a0;exact⟨_,Stp.refl _ _ _,⟨_,rfl,⟨_,_,rfl,a1,a2⟩⟩⟩
     ·rintro d7 d8 d9 ha- -;refine Zs ha ?_;refine ae_ R m rfl rfl xc_ wU_ ?_;exact⟨_,Stp.refl _ _ _,⟨_,rfl,R⟩⟩
     ·rintro e0 e1 e2 ha hB ⟨a3,-⟩;obtain⟨e3,a4,a5⟩:=a3;have ha:=ha.c a4;refine Zs ha ?_;refine os_ a5 m hB rfl wX_ wU_ ?_;intro e4 a6;obtain⟨e5,e6,rfl,a7,a8⟩:=a6;exact⟨_,Stp.refl _ _ _,⟨_,rfl,⟨_,_,rfl,a7,a8⟩⟩⟩
    rintro _ rfl D a9 e7 ha hB ⟨-,b0,-,b1,-⟩;obtain⟨e8,b2,b3⟩:=b0;obtain⟨e9,f0,rfl,b4,b5⟩:=b3;have ha:=ha.c b2;obtain⟨f1,b6,b7⟩:=b1;obtain⟨f2,f3,rfl,b8,b9⟩:=b7;have ha:=ha.c b6;refine aH_ ha ?_;obtain⟨E,F,b⟩:=a_ b;refine Zo ?_;refine o_ (oU_ fuel a9 _ B (⟨_,_,rfl,b4.keep hB.keeps,b5.keep hB.keeps⟩) _ C (⟨_,_,rfl,b8.keep hB.keeps,b9.keep hB.keeps⟩) E F) Tryz.call13 ⟨rfl,rfl,trivial⟩ ?_;rintro c0 f4 ⟨rfl,G⟩;have H:=G.stp 999 D;refine⟨_,rfl,?_⟩;replace hB:=hB.stp H;refine Zv (aI_ rfl) (Ze [(0,_),(1,_),(5,_),(26,_)] (nx ?_));refine l_ rfl (λi=>?_) (λi=>?_)
    ·rw[if_pos i] at b;refine Zq (Za rfl (Ze [(4,_)] (nx (j_ (W_ (y_ (y_ (W_ ?_))))))));refine bg_ ?_;have I:=Zj b;subst I;refine λa ha=>⟨_,q,?_⟩;refine D_ (P:=wQ_) (vs:=[.bool false]) yA_ ⟨rfl,trivial⟩ ?_ a ha;exact⟨rfl,hB.keeps⟩
    ·replace b:=ZF i b;refine g_ (x_ (nx (d_ (Zm rfl ?_))));obtain⟨j,u,b⟩:=a_ b;refine Zv (C_ rfl rfl u) (Za rfl (Ze [(0,_),(1,_),(5,_)] (u_ ?_)));have J:=Zj b;subst J;refine Zk [(0,_),(1,_),(5,_)] ?_;intro a ha;exact⟨K14,by omega,j,D,q,ha,hB⟩
   ·replace b:=ZF s b;refine s_ ?_;refine n_ (n_ (N_ ?_));refine p_ ?_;have L:=Zj b;subst L;refine Zk [] ?_;intro a ha;exact⟨d,z,q,ha,hB⟩
  ·rintro a y ⟨d,z,rfl,ha,hB⟩;dsimp only at hF;refine ap_k ha ?_;refine Zn (Za rfl (Ze [(4,_)] (nx (j_ ?_))));have M:=Zj hF;subst M;refine Zr yA_ [.bool true] ?_;exact⟨rfl,hB.keeps⟩
  ·rintro a y ⟨r',rfl,N⟩;dsimp only at hF;have O:=Zj hF;subst O;exact N
def dq_(d:List Int):(Int×Int)->Option (Lp (Int×Int) (Int×Int) Int):=λ(s:Int×Int)=>
  if decide (s.2<(d.length:Int)) then
    (ix d s.2)>>=λa=>
    if a !=s.1 then
      some (.ret (-1))
    else
      (ck (s.1+1))>>=λb=>
      (ck (s.2+1))>>=λc=>
      some (.go (b,c))
  else
    some (.out (s.1,s.2))
def fR_(fuel:Nat)(a:List Int)(b:Int):Option Int:=
  (loopF (dq_ a) fuel (b,0))>>=λc=>
  match c with
  | .inl (d,f)=>
    some d
  | .inr r'=>some r'
def lt_(w:World)(r:Int):Ending->World->Prop:=λe w'=>e=.returned (.int .i64 r)∧Keeps w w'
theorem pw_(fuel:Nat)(w:World)(d:Value)(z:Yl)(M:RdL zt w d z)(i:Int)(r:Int)(hF:fR_ fuel z i=some r):
    Calls wQ_ 28 #[d,.int .i64 i] w (lt_ w r):=by
 unfold fR_ at hF;have hB:Bs (λ_=>1) (col (λ_=>1)) w w:=Bs.start _ _;refine i_ (n:=21) (vs:=[d,ZI i]) Tryz.func28 rfl rfl ?_;refine Zq (Za rfl (Ze [(0,_),(1,_)] (nx (c_ (Zq (Za rfl (Ze [(0,_),(1,_),(5,_)] (nx ?_))))))));obtain⟨A,B,hF⟩:=a_ hF;refine v_ (λa u=>∃(c:Int)(f:Int),∃(j:Tg),A=.inl (c,f)∧Fr a 21 [(1,ZI c)]∧Bs (λ_=>1) j w u) (λa w'=>∃r',A=.inr r'∧bodyPost wQ_ Tryz.f28 (lt_ w r') .ret a w') ?_ ?_ ?_
 ·refine f_ ?_;refine w_ (λ(K:Nat) a u=>∃(c:Int)(f:Int),∃(j:Tg),loopF (dq_ z) K (c,f)=some A∧Fr a 21 [(0,d),(1,ZI c),(5,ZI f)]∧Bs (λ_=>1) j w u) fuel (λa ha=>⟨i,0,col (λ_=>1),B,ha.sb,hB⟩) ?_;rintro K9 a u ⟨c,f,j,N,ha,hB⟩;obtain⟨K13,O,Q,b,k⟩:=X_ N;dsimp only[dq_] at b;refine J_ ha ?_;refine c_ (Zq (Zm rfl (Zm rfl (Zv (B_ rfl M wR_) (Zv (r_ rfl rfl) (Ze [(0,_),(1,_),(5,_),(9,_)] (nx ?_)))))));refine l_ rfl (λm=>?_) (λm=>?_)
  ·rw[if_pos m] at b;refine g_ (nx (c_ (f_ (c_ (Zq (Zm rfl (Zm rfl ?_)))))));obtain⟨C,v,b⟩:=a_ b;refine Zo ?_;refine wf_atZ M v hB rfl rfl wR_ wS_ ?_;intro R S T D E;cases E
   refine Zv (e_ rfl wT_ (k_ D)) (Zm rfl (Zv (bR_ rfl rfl) (Ze [(0,_),(1,_),(5,_),(17,_)] (nx ?_))));refine l_ rfl (λq=>?_) (λq=>?_)
   ·rw[if_pos q] at b;refine Zq (Za rfl (Ze [(4,_)] (nx (j_ (y_ (W_ (y_ (y_ (W_ ?_)))))))));refine bg_ ?_;have F:=Zj b;subst F;refine λa ha=>⟨_,k,?_⟩;refine D_ (P:=wQ_) (vs:=[ZI (-1)]) Ad_ ⟨rfl,trivial⟩ ?_ a ha;exact⟨rfl,hB.keeps⟩
   ·replace b:=ZF q b;refine g_ (nx (d_ (Zm rfl ?_)));obtain⟨g,x,b⟩:=a_ b;refine Zv (C_ rfl rfl x) (Za rfl (Ze [(0,_),(1,_),(5,_)] (x_ (nx (d_ (Zm rfl ?_))))));obtain⟨s,y,b⟩:=a_ b;refine Zv (C_ rfl rfl y) (Za rfl (Ze [(0,_),(1,_),(5,_)] (u_ ?_)));have G:=Zj b;subst G;refine Zk [(0,_),(1,_),(5,_)] ?_;intro a ha;exact⟨K13,by omega,g,s,j,k,ha,hB⟩
  ·replace b:=ZF m b;refine s_ ?_;refine n_ (n_ (N_ ?_));refine p_ ?_;have H:=Zj b;subst H;refine Zk [(1,_)] ?_;intro a ha;exact⟨c,f,j,k,ha,hB⟩
 ·rintro a u ⟨c,f,j,rfl,ha,hB⟩;dsimp only at hF;refine ap_k ha ?_;refine Zn (Zm rfl (Za rfl (Ze [(4,_)] (nx (j_ ?_)))));have I:=Zj hF;subst I;refine Zr Ad_ [ZI c] ?_;exact⟨rfl,hB.keeps⟩
 ·rintro a u ⟨r',rfl,J⟩;dsimp only at hF;have L:=Zj hF;subst L;exact J
def cX_(fuel:Nat)(d:List (List Int)):(Int×Int)->Option (Lp (Int×Int) (Int×Int) Int):=λ(s:Int×Int)=>
  if decide (s.2<(d.length:Int)) then
    (ix d s.2)>>=λb=>
    (fR_ fuel b s.1)>>=λa=>
    if decide (a<0) then
      some (.ret (-1))
    else
      (ck (s.2+1))>>=λc=>
      some (.go (a,c))
  else
    some (.out (s.1,s.2))
def da_(fuel:Nat)(a:List (List Int))(b:Int):Option Int:=
  (loopF (cX_ fuel a) fuel (b,0))>>=λc=>
  match c with
  | .inl (d,f)=>
    some d
  | .inr r'=>some r'
def jX_(w:World)(r:Int):Ending->World->Prop:=λe w'=>e=.returned (.int .i64 r)∧Keeps w w'
theorem gl_(fuel:Nat)(w:World)(f:Value)(z:Yk)(Q:RdL zt w f z)(j:Int)(r:Int)(hF:da_ fuel z j=some r):
    Calls wQ_ 29 #[f,.int .i64 j] w (jX_ w r):=by
 unfold da_ at hF;have hB:Bs (λ_=>1) (col (λ_=>1)) w w:=Bs.start _ _;refine i_ (n:=21) (vs:=[f,ZI j]) Tryz.func29 rfl rfl ?_;refine Zq (Za rfl (Ze [(0,_),(1,_)] (nx (c_ (Zq (Za rfl (Ze [(0,_),(1,_),(5,_)] (nx ?_))))))));obtain⟨A,B,hF⟩:=a_ hF;refine v_ (λa k=>∃(d:Int)(g:Int),∃(i:Tg),A=.inl (d,g)∧Fr a 21 [(1,ZI d)]∧Bs (λ_=>1) i w k) (λa w'=>∃r',A=.inr r'∧bodyPost wQ_ Tryz.f29 (jX_ w r') .ret a w') ?_ ?_ ?_
 ·refine f_ ?_;refine w_ (λ(K:Nat) a k=>∃(d:Int)(g:Int),∃(i:Tg),loopF (cX_ fuel z) K (d,g)=some A∧Fr a 21 [(0,f),(1,ZI d),(5,ZI g)]∧Bs (λ_=>1) i w k) fuel (λa ha=>⟨j,0,col (λ_=>1),B,ha.sb,hB⟩) ?_;rintro K9 a k ⟨d,g,i,R,ha,hB⟩;obtain⟨K13,S,T,b,m⟩:=X_ R;dsimp only[cX_] at b;refine J_ ha ?_;refine c_ (Zq (Zm rfl (Zm rfl (Zv (B_ rfl Q wV_) (Zv (r_ rfl rfl) (Ze [(0,_),(1,_),(5,_),(9,_)] (nx ?_)))))));refine l_ rfl (λq=>?_) (λq=>?_)
  ·rw[if_pos q] at b;refine g_ (nx (c_ (f_ (Zq (Zm rfl (Zm rfl ?_))))));obtain⟨C,v,b⟩:=a_ b;refine Zo ?_;refine wf_atZ Q v hB rfl rfl wV_ wY_ ?_;intro U V W D E;obtain⟨X,rfl,F⟩:=E;refine Zv (e_ rfl xa_ (k_ D)) (Zm rfl ?_);obtain⟨c,x,b⟩:=a_ b;refine Zo ?_;refine o_ (pw_ fuel k _ C (F.keep hB.keeps) d c x) Tryz.call28 ⟨rfl,rfl,trivial⟩ ?_;rintro Y Z ⟨rfl,G⟩;have H:=G.stp 999 i;refine⟨_,rfl,?_⟩;replace hB:=hB.stp H;refine Za rfl (Ze [(0,_),(1,_),(5,_)] (Zn (Zm rfl (Zv (r_ rfl rfl) (Ze [(0,_),(1,_),(5,_),(19,_)] (nx ?_))))));refine l_ rfl (λs=>?_) (λs=>?_)
   ·rw[if_pos s] at b;refine Zq (Za rfl (Ze [(4,_)] (nx (j_ (W_ (y_ (y_ (W_ ?_))))))));refine bg_ ?_;have I:=Zj b;subst I;refine λa ha=>⟨_,m,?_⟩;refine D_ (P:=wQ_) (vs:=[ZI (-1)]) Ae_ ⟨rfl,trivial⟩ ?_ a ha;exact⟨rfl,hB.keeps⟩
   ·replace b:=ZF s b;refine g_ (x_ (nx (d_ (Zm rfl ?_))));obtain⟨u,y,b⟩:=a_ b;refine Zv (C_ rfl rfl y) (Za rfl (Ze [(0,_),(1,_),(5,_)] (u_ ?_)));have J:=Zj b;subst J;refine Zk [(0,_),(1,_),(5,_)] ?_;intro a ha;exact⟨K13,by omega,c,u,i,m,ha,hB⟩
  ·replace b:=ZF q b;refine s_ ?_;refine n_ (n_ (N_ ?_));refine p_ ?_;have L:=Zj b;subst L;refine Zk [(1,_)] ?_;intro a ha;exact⟨d,g,i,m,ha,hB⟩
 ·rintro a k ⟨d,g,i,rfl,ha,hB⟩;dsimp only at hF;refine ap_k ha ?_;refine Zn (Zm rfl (Za rfl (Ze [(4,_)] (nx (j_ ?_)))));have M:=Zj hF;subst M;refine Zr Ae_ [ZI d] ?_;exact⟨rfl,hB.keeps⟩
 ·rintro a k ⟨r',rfl,N⟩;dsimp only at hF;have O:=Zj hF;subst O;exact N
def bN_(fuel:Nat)(a:List b_):(Int×Int)->Option (Lp (Int×Int) (Int×Int) Int):=λ(s:Int×Int)=>
  if decide (s.2<(a.length:Int)) then
    (ix a s.2)>>=λf=>
    if f.Labels !=s.1 then
      some (.ret (-1))
    else
      (ck (s.1+1))>>=λb=>
      (ix a s.2)>>=λg=>
      if g.Degree !=b then
        some (.ret (-1))
      else
        (ck (b+1))>>=λi=>
        (ix a s.2)>>=λj=>
        (da_ fuel j.Nodes i)>>=λc=>
        if decide (c<0) then
          some (.ret (-1))
        else
          (ix a s.2)>>=λk=>
          (da_ fuel k.Edges c)>>=λd=>
          if decide (d<0) then
            some (.ret (-1))
          else
            (ck (s.2+1))>>=λm=>
            some (.go (d,m))
  else
    some (.out (s.1,s.2))
def dG_(fuel:Nat)(a:List b_)(b:Int):Option Int:=
  (loopF (bN_ fuel a) fuel (b,0))>>=λc=>
  match c with
  | .inl (d,f)=>
    some d
  | .inr r'=>some r'
def hN_(w:World)(r:Int):Ending->World->Prop:=λe w'=>e=.returned (.int .i64 r)∧Keeps w w'
theorem lc_(fuel:Nat)(w:World)(c:Value)(N:List b_)(B:RdL zt w c N)(m:Int)(r:Int)(hF:dG_ fuel N m=some r):
    Calls wQ_ 19 #[c,.int .i64 m] w (hN_ w r):=by
 unfold dG_ at hF;have hB:Bs (λ_=>1) (col (λ_=>1)) w w:=Bs.start _ _;refine i_ (n:=49) (vs:=[c,ZI m]) Tryz.func19 rfl rfl ?_;refine Zq (Za rfl (Ze [(0,_),(1,_)] (nx (c_ (Zq (Za rfl (Ze [(0,_),(1,_),(5,_)] (nx ?_))))))));obtain⟨O,Q,hF⟩:=a_ hF;refine v_ (λa q=>∃(g:Int)(d:Int),∃(k:Tg),O=.inl (g,d)∧Fr a 49 [(1,ZI g)]∧Bs (λ_=>1) k w q) (λa w'=>∃r',O=.inr r'∧bodyPost wQ_ Tryz.f19 (hN_ w r') .ret a w') ?_ ?_ ?_
 ·refine f_ ?_;refine w_ (λ(K:Nat) a q=>∃(g:Int)(d:Int),∃(k:Tg),loopF (bN_ fuel N) K (g,d)=some O∧Fr a 49 [(0,c),(1,ZI g),(5,ZI d)]∧Bs (λ_=>1) k w q) fuel (λa ha=>⟨m,0,col (λ_=>1),Q,ha.sb,hB⟩) ?_;rintro K9 a q ⟨g,d,k,b9,ha,hB⟩;obtain⟨K13,c0,c1,b,i⟩:=X_ b9;dsimp only[bN_] at b;refine J_ ha ?_;refine c_ (Zq (Zm rfl (Zm rfl (Zv (B_ rfl B xc_) (Zv (r_ rfl rfl) (Ze [(0,_),(1,_),(5,_),(9,_)] (nx ?_)))))));refine l_ rfl (λs=>?_) (λs=>?_)
  ·rw[if_pos s] at b;refine g_ (nx (c_ (f_ (c_ (Zq (Zm rfl (Zm rfl ?_)))))));obtain⟨R,C,b⟩:=a_ b;refine Zo ?_;refine wf_atZ B C hB rfl rfl xc_ wU_ ?_;intro c2 c3 c4 S T;obtain⟨c5,c6,rfl,c7,c8⟩:=T;refine Zv (m_ rfl wW_ rfl wS_) (Zv (e_ rfl wT_ (S 0 _ rfl)) (Zm rfl (Zv (bR_ rfl rfl) (Ze [(0,_),(1,_),(5,_),(18,_)] (nx ?_)))));refine l_ rfl (λu=>?_) (λu=>?_)
   ·rw[if_pos u] at b;refine Zq (Za rfl (Ze [(4,_)] (nx (j_ (y_ (W_ (y_ (y_ (W_ ?_)))))))));refine bg_ ?_;have U:=Zj b;subst U;refine λa ha=>⟨_,i,?_⟩;refine D_ (P:=wQ_) (vs:=[ZI (-1)]) xL_ ⟨rfl,trivial⟩ ?_ a ha;exact⟨rfl,hB.keeps⟩
   ·replace b:=ZF u b;refine g_ (Zn (Zm rfl ?_));obtain⟨v,D,b⟩:=a_ b;refine Zv (C_ rfl rfl D) (Za rfl (Ze [(0,_),(1,_),(5,_)] (nx (c_ (Zq (Zm rfl (Zm rfl ?_)))))));obtain⟨V,E,b⟩:=a_ b;refine Zo ?_;refine wf_atZ B E hB rfl rfl xc_ wU_ ?_;intro c9 d0 d1 W X;obtain⟨d2,d3,rfl,d4,d5⟩:=X;refine Zv (m_ rfl wW_ rfl wS_) (Zv (e_ rfl wT_ (W 1 _ rfl)) (Zm rfl (Zv (bR_ rfl rfl) (Ze [(0,_),(1,_),(5,_),(27,_)] (nx ?_)))));refine l_ rfl (λx=>?_) (λx=>?_)
    ·rw[if_pos x] at b;refine Zq (Za rfl (Ze [(4,_)] (nx (j_ (y_ (W_ (y_ (y_ (W_ ?_)))))))));refine bg_ ?_;have Y:=Zj b;subst Y;refine λa ha=>⟨_,i,?_⟩;refine D_ (P:=wQ_) (vs:=[ZI (-1)]) xL_ ⟨rfl,trivial⟩ ?_ a ha;exact⟨rfl,hB.keeps⟩
    ·replace b:=ZF x b;refine g_ (Zn (Zm rfl ?_));obtain⟨F,G,b⟩:=a_ b;refine Zv (C_ rfl rfl G) (Za rfl (Ze [(0,_),(1,_),(5,_)] (Zn (Zm rfl (Zm rfl ?_)))));obtain⟨Z,H,b⟩:=a_ b;refine Zo ?_;refine wf_atZ B H hB rfl rfl xc_ wU_ ?_;intro d6 d7 d8 a0 a1;obtain⟨d9,e0,rfl,a2,e1⟩:=a1;refine Zv (m_ rfl wW_ rfl wZ_) (Zv (e_ rfl xb_ (a0 2 _ rfl)) (Zm rfl ?_));obtain⟨j,I,b⟩:=a_ b;refine Zo ?_;refine o_ (gl_ fuel q _ Z.Nodes (a2.keep hB.keeps) F j I) xV_ ⟨rfl,rfl,trivial⟩ ?_;rintro e2 a3 ⟨rfl,a4⟩;have a5:=a4.stp 999 k;refine⟨_,rfl,?_⟩;replace hB:=hB.stp a5;refine Za rfl (Ze [(0,_),(1,_),(5,_)] (nx (c_ (Zq (Zm rfl (Zv (r_ rfl rfl) (Ze [(0,_),(1,_),(5,_),(38,_)] (nx ?_))))))));refine l_ rfl (λy=>?_) (λy=>?_)
     ·rw[if_pos y] at b;refine Zq (Za rfl (Ze [(4,_)] (nx (j_ (y_ (W_ (y_ (y_ (W_ ?_)))))))));refine bg_ ?_;have a6:=Zj b;subst a6;refine λa ha=>⟨_,i,?_⟩;refine D_ (P:=wQ_) (vs:=[ZI (-1)]) xL_ ⟨rfl,trivial⟩ ?_ a ha;exact⟨rfl,hB.keeps⟩
     ·replace b:=ZF y b;refine g_ (Zn (Zm rfl (Zm rfl ?_)));obtain⟨a7,J,b⟩:=a_ b;refine Zo ?_;refine wf_atZ B J hB rfl rfl xc_ wU_ ?_;intro e3 e4 e5 a8 a9;obtain⟨e6,e7,rfl,e8,b0⟩:=a9;refine Zv (m_ rfl wW_ rfl wZ_) (Zv (e_ rfl xb_ (a8 3 _ rfl)) (Zm rfl ?_));obtain⟨f,L,b⟩:=a_ b;refine Zo ?_;refine o_ (gl_ fuel a3 _ a7.Edges (b0.keep hB.keeps) j f L) xV_ ⟨rfl,rfl,trivial⟩ ?_;rintro e9 f0 ⟨rfl,b1⟩;have b2:=b1.stp 999 k;refine⟨_,rfl,?_⟩;replace hB:=hB.stp b2;refine Za rfl (Ze [(0,_),(1,_),(5,_)] (Zn (Zm rfl (Zv (r_ rfl rfl) (Ze [(0,_),(1,_),(5,_),(47,_)] (nx ?_))))));refine l_ rfl (λz=>?_) (λz=>?_)
      ·rw[if_pos z] at b;refine Zq (Za rfl (Ze [(4,_)] (nx (j_ (W_ (y_ (y_ (W_ ?_))))))));refine bg_ ?_;have b3:=Zj b;subst b3;refine λa ha=>⟨_,i,?_⟩;refine D_ (P:=wQ_) (vs:=[ZI (-1)]) xL_ ⟨rfl,trivial⟩ ?_ a ha;exact⟨rfl,hB.keeps⟩
      ·replace b:=ZF z b;refine g_ (x_ (nx (d_ (Zm rfl ?_))));obtain⟨A,M,b⟩:=a_ b;refine Zv (C_ rfl rfl M) (Za rfl (Ze [(0,_),(1,_),(5,_)] (u_ ?_)));have b4:=Zj b;subst b4;refine Zk [(0,_),(1,_),(5,_)] ?_;intro a ha;exact⟨K13,by omega,f,A,k,i,ha,hB⟩
  ·replace b:=ZF s b;refine s_ ?_;refine n_ (n_ (N_ ?_));refine p_ ?_;have b5:=Zj b;subst b5;refine Zk [(1,_)] ?_;intro a ha;exact⟨g,d,k,i,ha,hB⟩
 ·rintro a q ⟨g,d,k,rfl,ha,hB⟩;dsimp only at hF;refine ap_k ha ?_;refine Zn (Zm rfl (Za rfl (Ze [(4,_)] (nx (j_ ?_)))));have b6:=Zj hF;subst b6;refine Zr xL_ [ZI g] ?_;exact⟨rfl,hB.keeps⟩
 ·rintro a q ⟨r',rfl,b7⟩;dsimp only at hF;have b8:=Zj hF;subst b8;exact b7
end
end Go.Proofs.YtdbbeldgdgonfaaGreat
