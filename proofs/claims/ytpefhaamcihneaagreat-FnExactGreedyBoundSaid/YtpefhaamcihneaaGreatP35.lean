/- Part 35 of what this claim rests on (pack.py). -/
import Derived.Test.YtpefhaamcihneaaGreatP34
namespace Go.Proofs.YtpefhaamcihneaaGreat
open Tryz renaming prog→Gz, isAgg31→GG, sizeOf31→GD, results7→Lc, isAgg28→GR, sizeOf28→GS, underlying26→GL, zeroValue31→GM
set_option linter.unusedSimpArgs false
set_option linter.unusedVariables false
set_option maxRecDepth 100000
set_option maxHeartbeats 2000000
open Go.RowKit
theorem jG{σ τ ρ:Type}{f:σ->Option (Lp σ τ ρ)}(R:Nat->σ)(n:Nat)(t:τ)(e:∀j,j<n->f (R j)=some (.go (R (j+1))))(b:f (R n)=some (.out t))(a:Nat)(g:n<a):loopF f a (R 0)=some (.inl t):=by
 suffices h:∀(d j a:Nat),j+d=n->d<a->loopF f a (R j)=some (.inl t) by exact h n 0 a om g
 intro d
 induction d with
 |zero=>
  intro j a i g;obtain⟨m,rfl⟩:∃m,a=m+1:=⟨a-1,om⟩;have:j=n:=om;subst this;simp only[loopF,b]
 |succ d ih=>
  intro j a i g;obtain⟨m,rfl⟩:∃m,a=m+1:=⟨a-1,om⟩;simp only[loopF,e j om];exact ih (j+1) m om om
theorem upE{α:Type}(f:Int->Option (Lp Int Int Bool))(xs:List α)(d:∀(j:Nat)(h:j<xs.length),f (j:Int)=some (.go ((j+1:Nat):Int)))(b:f (xs.length:Int)=some (.out (xs.length:Int)))(a:Nat)(e:xs.length<a):
  loopF f a 0=some (.inl (xs.length:Int)):=jG (f:=f) (λj=>(j:Int)) xs.length _ d b a e
theorem DN(a:Nat)(l:List Int)(d:l.length<a)(h:l.length<=1000000000000000000):lM a l l=some true:=by
 unfold lM;rw[if_neg sy,upE (iO l l) l (λj b=>by
  unfold iO;rw[if_pos (by simp;omega),aq,x_ b,sb,sb,if_neg sy,n_ om om,sb];simp)
  (by unfold iO;rw[if_neg sy]) a d,sb]
theorem Ed{LL:List (List Int)}{x:List Int}(h:x∈LL):x.length<=tot LL:=by
 obtain⟨i,hi,rfl⟩:=Gq h;have:=qD LL i hi;rw[ax,x_ hi] at this;exact this
theorem nH(a:Nat)(LL:List (List Int))(e:tot LL<a)(h:tot LL<=1000000000000000000):eT a LL LL=some true:=by
 have d:LL.length<=tot LL:=by unfold tot;omega
 unfold eT;rw[if_neg sy,upE (iE a LL LL) LL (λj b=>by
  have:=Ed (aV b);unfold iE;rw[if_pos (by simp;omega),aq,x_ b,sb,sb,DN a _ om om,sb,if_neg sy,n_ om om,sb];simp)
  (by unfold iE;rw[if_neg sy]) a om,sb]
theorem AM(a:Nat)(p:c_)(b:szT p<a)(h:szT p<=1000000000000000000):kW a p p=some true:=by
 unfold kW;unfold szT at h b;rw[if_neg sy,if_neg sy,nH a _ om om,sb,if_neg sy,nH a _ om om,sb,if_neg sy]
theorem Af(a:Nat)(ps:List c_)(e:szQ ps<a)(h:szQ ps<=1000000000000000000):kV a ps ps=some true:=by
 have d:ps.length<=szQ ps:=by unfold szQ;omega
 unfold kV;rw[if_neg sy,upE (hQ a ps ps) ps (λj b=>by
  have:=Ec (aV b);unfold hQ;rw[if_pos (by simp;omega),aq,x_ b,sb,sb,AM a _ om om,sb,if_neg sy,n_ om om,sb];simp)
  (by unfold hQ;rw[if_neg sy]) a om,sb]
theorem Bj(a:Nat)(n:Nat)(k:Int)(d:n<a)(e:0<=k)(h:k+n<=4611686018427387904):lm a (iota k n) k=some (k+n):=by
 have:=jG (f:=iv (iota k n)) (λj=>(k+(j:Int),(j:Int))) n (k+(n:Int),(n:Int)) (λj b=>by
  unfold iv;simp only
  rw[if_pos (by simp[np];omega),aq,show(iota k n)[j]? =some (k+(j:Int)) by simp[iota,b],sb,if_neg sy,n_ om om,sb,n_ om om,sb];congr 3;omega) (by
  unfold iv;simp only
  rw[if_neg (by simp[np])]) a d
 simp only[oT,show((0:Nat):Int)=0 from rfl] at this;unfold lm;rw[this,sb]
theorem nm(a:Nat)(LL:List (List Int))(k:Int)(p:tot LL<a)(m:0<=k)(h:k+tot LL<=4611686018427387904):eQ a (numbered k LL LL.length) k=some (k+(off LL LL.length:Nat)):=by
 have n:LL.length<=tot LL:=by unfold tot;omega
 have:=jG (f:=ie a (numbered k LL LL.length)) (λj=>(k+((off LL j:Nat):Int),(j:Int))) LL.length (k+((off LL LL.length:Nat):Int),(LL.length:Int)) (λj b=>by
  have i:=fX LL j om;have o:=fX LL (j+1) om;have e:=fR LL j b;have g:=qD LL j b;have d:(numbered k LL LL.length)[j]? =some (iota (k+(off LL j:Nat)) (LL.getD j []).length):=by simp[numbered,b]
  unfold ie;simp only
  rw[if_pos (by simp[ii];omega),aq,d,sb,Bj a _ _ om om om,sb,if_neg (by simp;omega),n_ om om,sb];congr 3;omega) (by
  unfold ie;simp only
  rw[if_neg (by simp[ii])]) a om
 simp only[show off LL 0=0 by simp[off],oT,show((0:Nat):Int)=0 from rfl] at this;unfold eQ;rw[this,sb]
theorem zF(a:Nat)(ps:List c_)(k:Int)(u:szQ ps<a)(q:0<=k)(h:k+szQ ps<=4611686018427387904):kF a (numU k ps ps.length) k=some (k+(offQ ps ps.length:Nat)):=by
 have s:ps.length<=szQ ps:=by unfold szQ;omega
 have:=jG (f:=gP a (numU k ps ps.length)) (λj=>(k+((offQ ps j:Nat):Int),(j:Int))) ps.length (k+((offQ ps ps.length:Nat):Int),(ps.length:Int)) (λj e=>by
  have b:ps[j]? =some ps[j]:=x_ e;have p:=wK ps j _ b;have t:=uv ps j _ b;have o:cQ ps[j]<=szT ps[j]:=qL _;have d:=nS k ps ps.length j _ b;rw[if_pos e] at d;have m:cQ ps[j]=2+(off (ps[j]).Nodes (ps[j]).Nodes.length+off (ps[j]).Edges (ps[j]).Edges.length):=rfl;have n:szT ps[j]=2+(tot (ps[j]).Nodes+tot (ps[j]).Edges):=rfl;have g:=fX (ps[j]).Nodes _ (K_ _);have i:=fX (ps[j]).Edges _ (K_ _);unfold gP;simp only
  rw[if_pos (by simp[lx];omega),aq,d,sb,if_neg (by simp[nP]),n_ om om,sb,sb,if_neg (by simp[nP]),n_ om om,sb,sb];unfold nP;simp only
  rw[nm a _ _ om om om,sb,if_neg (by simp;omega),sb,nm a _ _ om om om,sb,if_neg (by simp;omega),n_ om om,sb];congr 3;omega) (by
  unfold gP;simp only
  rw[if_neg (by simp[lx])]) a om
 simp only[show offQ ps 0=0 by simp[offQ],oT,show((0:Nat):Int)=0 from rfl] at this;unfold kF;rw[this,sb]
theorem up{σ ρ:Type}{body:Int->σ->Option (Lp σ σ ρ)}(R:Nat->σ):∀(n k:Nat),(∀(j:Nat),j<n->body ((k+j:Nat):Int) (R (k+j))=some (.go (R (k+j+1))))->
  forN body n (k:Int) (R k)=some (.inl (R (k+n)))
 |0,k,h=>rfl
 |n+1,k,h=>by
  have a:=h 0 om;simp only[dd] at a;simp only[forN,a];rw[show((k:Int)+1)=((k+1:Nat):Int) by omega];rw[up R n (k+1) (λj b=>by have:=h (j+1) om;rw[show k+(j+1)=k+1+j by omega] at this;exact this)];rw[show k+1+n=k+(n+1) by omega]
theorem BD{σ ρ:Type}{body:Int->σ->Option (Lp σ σ ρ)}(R:Nat->σ)(n:Nat)(h:∀(j:Nat),j<n->body (j:Int) (R j)=some (.go (R (j+1)))):
  forN body n 0 (R 0)=some (.inl (R n)):=by
 have:=up R n 0 (λj a=>by rw[an];exact h j a);rw[an] at this;exact this
theorem sZ(n:Nat)(m:n<=1000000):iQ (n:Int)=some ((List.range n).map λa:Nat=>(a:Int)):=by
 unfold iQ mk;rw[if_pos om,sb,n_ (by simp only[cd,U_];omega) (by simp only[cd,U_];omega),sb];have f:List.replicate ((n:Int)).toNat (Rz.z:Int)=(List.range n).map λa:Nat=>if a<0 then(a:Int) else 0:=by
  refine dr sy λi g d=>?_;simp;rfl
 have:=BD (body:=kB) (λj=>(List.range n).map λa:Nat=>if a<j then(a:Int) else 0) n (λj b=>by
  unfold kB;rw[bM _ _ (su b),sb,cC _ _ _ (su b),sb];congr 2;refine dr sy λi g d=>?_;simp only[FM,FN,FO];by_cases e:j=i
  ·subst e;simp
  ·rw[if_neg e];by_cases h:i<j
   ·rw[if_pos h,if_pos om]
   ·rw[if_neg h,if_neg om])
 rw[f];simp only[aA,Gy,U_];rw[this,sb];simp only
 congr 1;refine jX λa k=>?_;rw[if_pos (aS.1 k)]
instance:Rz Qv:=⟨⟨[.int .i64 0,.int .i64 0,.slice none 0 0,.slice none 0 0]⟩,[.int .i64 0,.int .i64 0,.slice none 0 0,.slice none 0 0],λo w=>Qv.ok (o:=o) (w:=w) rfl rfl⟩
def OwL(lo hi:Nat)(w:World)(v:Value)(ps:List c_):Prop:=∃T:Nat->Nat,OwQT T w v ps∧∀b,T b≠0->lo<=b∧b<hi
section
structure ChS (S:Nat->Prop) (w w':World):Prop where
  os:w'.os=w.os
  tape:w'.tape=w.tape
  output:w'.output=w.output
  size:w.heap.size<=w'.heap.size
  block:∀k,k<w.heap.size->¬S k->w'.heap[k]? =w.heap[k]?
section
variable {S S':Nat->Prop} {w w' w'':World} {v:Value} {LL:List (List Int)} {T:Nat->Nat} {ps:List c_} {lo hi B C:Nat} {x:ae}
theorem ChS.refl(S:Nat->Prop)(w:World):ChS S w w:=⟨rfl,rfl,rfl,K_ _,λ_ _ _=>rfl⟩
theorem ChS.trans(h:ChS S w w')(k:ChS S w' w''):ChS S w w'':=
 ⟨k.os.trans h.os,k.tape.trans h.tape,k.output.trans h.output,aH h.size k.size,λi hi a=>(k.block i (bh hi h.size) a).trans (h.block i hi a)⟩
theorem ChS.mono(h:ChS S w w')(d:∀b,S b->S' b):ChS S' w w':=⟨h.os,h.tape,h.output,h.size,λk e f=>h.block k e λa=>f (d k a)⟩
theorem ChS.of_grown{r:Option Nat}(h:w.grownBy w' r)(a:∀k,r=some k->S k):ChS S w w':=⟨h.os,h.tape,h.output,h.size,λk b d=>h.block k b λe=>d (a k e.symm)⟩
theorem ChS.chg(h:ChS S w w')(d:∀b,S b->B<=b∧b<C):Chg B C w w':=⟨h.os,h.tape,h.output,h.size,λk e f=>h.block k e λa=>f (d k a)⟩
theorem Chg.chS(h:Chg B C w w'):ChS (λb=>B<=b∧b<C) w w':=⟨h.os,h.tape,h.output,h.size,h.block⟩
theorem Keeps.chS(h:Keeps w w')(S:Nat->Prop):ChS S w w':=⟨h.os,h.tape,h.output,h.size,λk a _=>h.block k a⟩
theorem nX{D:Nat}{e:TypeId}{size:Nat}{n:Nat}{xs:List Value}(h:w.ownsRow D e size v n xs)(c:ChS S w w')(j:∀k,v.ownBlock=some k->¬S k):w'.ownsRow D e size v n xs:=by
 obtain⟨f,a⟩:=h;refine⟨f,?_⟩;rcases a with a|⟨g,cap,b,rfl,i,d,r⟩
 ·exact .inl a
 ·exact .inr ⟨g,cap,b,rfl,i,by rw[c.block g (ct.1 d).1 (j g rfl)];exact d,r⟩
theorem OwS.chS(h:OwS S w v LL)(c:ChS S' w w')(f:∀b,S b->¬S' b):OwS S w' v LL:=by
 obtain⟨vs,h,e,d⟩:=h;exact⟨vs,⟨nX h.row c λk a=>f k (e k a),λi hi=>nX (h.own i hi) c λk a=>f k (d i hi k a),h.apart⟩,e,d⟩
theorem OwS.keep(h:OwS S w v LL)(k:Keeps w w'):OwS S w' v LL:=h.chS (k.chS λ_=>False) λ_ _ h=>h
theorem OwS.rows(h:OwS S w v LL):IntRows w v LL:=by obtain⟨vs,h,_⟩:=h;exact h.rows
theorem OwQT.chS(h:OwQT T w v ps)(c:ChS S w w')(d:∀b,T b=1∨4<=T b->¬S b):OwQT T w' v ps:=by
 obtain⟨css,q,g,f,o⟩:=h;refine⟨css,q,nX g c λk m=>d k (.inl (f k m)),f,λi cs p a b=>?_⟩;obtain⟨n,j,e,t,s⟩:=o i cs p a b;exact⟨n,j,e,t.chS c λb u=>d b om,s.chS c λb u=>d b om⟩
theorem OwQT.keep(h:OwQT T w v ps)(k:Keeps w w'):OwQT T w' v ps:=h.chS (k.chS λ_=>False) λ_ _ h=>h
theorem OwQT.ow(h:OwQT T w v ps):Ow 0 31 0 zt w v ps:=by
 obtain⟨css,d,j,q,n⟩:=h;refine⟨css,d,j,λg _=>rfl,λi cs p a b=>?_⟩;obtain⟨k,m,e,o,f⟩:=n i cs p a b;exact⟨k,m,e,o.rows.rdl,f.rows.rdl⟩
theorem OwL.chg(h:OwL lo hi w v ps)(c:Chg B C w w')(f:hi<=B∨C<=lo):OwL lo hi w' v ps:=by
 obtain⟨T,d,a⟩:=h;exact⟨T,d.chS c.chS λb e=>by have:=a b om;omega,a⟩
theorem OwB.keep(h:OwB lo hi w v x)(k:Keeps w w'):OwB lo hi w' v x:=by
 obtain⟨T,b,g,f,e,d,a,j,i⟩:=h;exact⟨T,b,g,f,e,d.keep k,a.keep k,j.keep k,i⟩
theorem OwB.chg(h:OwB lo hi w v x)(c:Chg B C w w')(n:hi<=B∨C<=lo):OwB lo hi w' v x:=by
 obtain⟨T,g,k,j,e,i,f,m,a⟩:=h;exact⟨T,g,k,j,e,i.chS c.chS λb d=>by have:=a b om;omega,f.chS c.chS λb d=>by have:=a b om;omega,m.chS c.chS λb d=>by have:=a b om;omega,a⟩
end
set_option maxHeartbeats 800000 in
theorem nl(S:Nat->Prop)(v:Value)(LL:List (List Int))(k:Int)(w:World)(h:OwS S w v LL)(hk:0<=k)(hk2:k+tot LL<=4611686018427387904):
  Calls Gz 27 #[v,.int .i64 k] w λe w'=>e=.returned (.int .i64 (k+off LL LL.length))∧OwS S w' v (numbered k LL LL.length)∧ChS S w w':=by
 obtain⟨vs,hM0,hC1,hC2⟩:=h;have HM0:=p_ hM0;have HC1:=p_ hC1;have HC2:=p_ hC2;obtain⟨a,c,rfl,hm,_⟩:=hM0.rows.form;clear hM0 hC1 hC2;have HO:=p_ (fX LL);have HOS:=p_ (fR LL);go_enter Tryz.func27,Tryz.ntmps27;go_wp2;go_loopw [1,5] (λx i wr=>∃j:Nat,j<=LL.length∧i=.int .i64 j∧x=.int .i64 (k+off LL j)∧MatIn 0 wr (.slice a LL.length c) vs (numbered k LL j)∧ChS S w wr) (λ_ i _=>LL.length-(intOf i).toNat);case atStart=>exact⟨0,bj _,rfl,by simp[off],by rw[sd];exact HM0.out,ChS.refl _ _⟩
 case round=>
  obtain⟨j,hj,rfl,rfl,hM,hG⟩:=hrel;have HM:=p_ hM;have HG:=p_ hG;clear hM hG;by_cases hlt:j<LL.length
  ·have hjl:j<(numbered k LL j).length:=by rw[ii];exact hlt
   obtain⟨g,cap,hv,hcell⟩:=HM.out.form om;simp only[Value.slice.injEq] at hv;obtain⟨rfl,-,rfl⟩:=hv;obtain⟨c1,c2⟩:=hcell j hjl;clear hcell;have hO:=HM.out.own j hjl;rw[sp k LL j j hlt,if_neg (yd _)] at hO;have HOW:=p_ hO;have b1:=HO.out (j+1) om;have b2:=HOS.out j hlt;have HX:=p_ (HC2.out j hlt);have HW:Hid (∀w' l,wr.grownBy w' (vs.getD j undef).ownBlock->Own 0 w' (vs.getD j undef) l->MatIn 0 w' (.slice (some ⟨g,0,none⟩) LL.length c) vs ((numbered k LL j).set j l)):=λw' l hg ho=>HM.out.wrote hjl hg ho;clear hO;generalize vs.getD j undef=u at c1 HOW HX HW;have hb:k+(off LL j:Int)+((LL.getD j []).length:Int)<=4611686018427387904:=om;have B2:=p_ b2;clear b2;have HNS:=p_ (sm k LL j hlt);generalize LL.getD j []=r at HOW B2 hb HNS;go_wp2_with fail;refine (sB 0 _ _ _ _ HOW.out om hb).mono ?_;rintro e w2 ⟨rfl,hO2,hG2⟩;have HN:=p_ (HW.out w2 _ hG2 hO2);have HGN:Hid (ChS S w w2):=HG.out.trans (ChS.of_grown hG2 λq hq=>HX.out q hq);clear hO2 hG2;go_wp2;go_roundw;case rel=>exact⟨j+1,om,by go_num,by rw[B2.out];congr 1;omega,by rw[HNS.out];exact HN.out,HGN.out⟩
   case measure=>simp[intOf];omega
  ·go_wp2;go_ret;have he:j=LL.length:=om;subst he;exact⟨rfl,⟨vs,HM.out,HC1.out,λi hi=>HC2.out i (by rw[ii] at hi;exact hi)⟩,HG.out⟩
theorem OwQT.elem{T:Nat->Nat}{w:World}{a0:Option Addr}{n c0:Nat}{ps:List c_}(h:OwQT T w (.slice a0 n c0) ps){j:Nat}{p:c_}(X:ps[j]? =some p):
  ∃g s f,a0=some ⟨g,0,none⟩∧n=ps.length∧Cells w g (j*4) [.int .i64 p.Labels,.int .i64 p.Degree,s,f]∧(∀i,w.frozen? ⟨g,i,none⟩=false)∧g<w.heap.size∧T g=1∧OwS (λb=>T b=4+2*j) w s p.Nodes∧OwS (λb=>T b=5+2*j) w f p.Edges∧
   ∀L D N E w',ChS (λb=>4<=T b∧(T b=4+2*j∨T b=5+2*j)) ((w.setCell ⟨g,j*4,none⟩ (.int .i64 L)).setCell ⟨g,j*4+1,none⟩ (.int .i64 D)) w'->OwS (λb=>T b=4+2*j) w' s N->OwS (λb=>T b=5+2*j) w' f E->
    OwQT T w' (.slice a0 n c0) (ps.set j ⟨L,D,N,E⟩)∧ChS (λb=>T b=1∨4<=T b) w w':=by
 obtain⟨m,cs0,rfl,rfl,hc0,-⟩:=h.ow.at X;obtain⟨css,h0,J,U,Y⟩:=h;have hj:=(Y_.1 X).1;have o:css[j]? =some (css[j]'om):=x_ om;obtain⟨s,f,e,hN,hE⟩:=Y j _ p o X;have d:∀cs∈css,cs.length=4:=λcs I=>by
  obtain⟨i,hi'⟩:=bS.1 I;have hlt:=(Y_.1 hi').1;obtain⟨a,b,e,-⟩:=Y i cs _ hi' (x_ om);rw[e];rfl
 rw[e] at o;have hg:=World.ownsRow.lt J m rfl;have K:=U m rfl;refine⟨m,s,f,rfl,rfl,λi u hu=>?_,λi=>World.ownsRow.frozenAt J i,hg.2,K,hN,hE,λL D N E w' M W O=>?_⟩
 ·have Q:i<4:=by have:=(Y_.1 hu).1;simpa using this
  have e2:=pI css 4 d o i Q;rw[hu] at e2;have:=World.ownsRow.cellAt J (j*4+i) (show j*4+i<ps.length*4 by omega);rw[e2] at this;exact this
 ·obtain⟨s1,s2⟩:=World.ownsRow.stored J (j*4) (.int .i64 L);obtain⟨s3,s4⟩:=World.ownsRow.stored s1 (j*4+1) (.int .i64 D);have f1:=tT css d o 0 dc (.int .i64 L);rw[dd] at f1;rw[f1] at s3;have t:∀cs∈css.set j ([Value.int .i64 p.Labels,.int .i64 p.Degree,s,f].set 0 (.int .i64 L)),cs.length=4:=λcs I=>by
   rcases yr I with I|rfl
   ·exact d cs I
   ·rfl
  have f2:=tT (css.set j ([Value.int .i64 p.Labels,.int .i64 p.Degree,s,f].set 0 (.int .i64 L))) t (j:=j) (cs:=[Value.int .i64 L,.int .i64 p.Degree,s,f]) (by rw[db,if_pos rfl,if_pos om];rfl) 1 dc (.int .i64 D);rw[f2,List.set_set] at s3;have Z:ChS (λb=>b=m) w (w.setCell ⟨m,j*4,none⟩ (.int .i64 L)):=ChS.of_grown s2 λk H=>by cases H;rfl
  have V:ChS (λb=>b=m) (w.setCell ⟨m,j*4,none⟩ (.int .i64 L)) ((w.setCell ⟨m,j*4,none⟩ (.int .i64 L)).setCell ⟨m,j*4+1,none⟩ (.int .i64 D)):=ChS.of_grown s4 λk H=>by cases H;rfl
  have R:=Z.trans V;refine⟨⟨_,(cG ..).trans (h0.trans (cG ..).symm),by rw[cG];exact nX s3 M λk H A=>by rw[U k H] at A;omega,U,λi cs q G F=>?_⟩,(R.mono λb y=>by rw[y];exact .inl K).trans (M.mono λb y=> .inr y.1)⟩;rw[db] at G F;by_cases ej:j=i
  ·subst ej;rw[if_pos rfl,if_pos hj] at F;rw[if_pos rfl,if_pos om] at G;cases G;cases F
   exact⟨s,f,rfl,W,O⟩
  ·rw[if_neg ej] at G F;obtain⟨u2,u3,e',gN,gE⟩:=Y i cs q G F;refine⟨u2,u3,e',(gN.chS R λb y A=>?_).chS M λb y A=>?_,(gE.chS R λb y A=>?_).chS M λb y A=>?_⟩
   ·rw[A,K] at y;omega
   ·omega
   ·rw[A,K] at y;omega
   ·omega
set_option maxHeartbeats 800000 in
theorem zH(T:Nat->Nat)(v:Value)(ps:List c_)(k:Int)(w:World)(h:OwQT T w v ps)(hk:0<=k)(hk2:k+szQ ps<=4611686018427387904):
  Calls Gz 28 #[v,.int .i64 k] w λe w'=>e=.returned (.int .i64 (k+offQ ps ps.length))∧OwQT T w' v (numU k ps ps.length)∧ChS (λb=>T b=1∨4<=T b) w w':=by
 obtain⟨a0,c0,e0,hm,-⟩:∃a c,v=.slice a ps.length c∧ps.length<=9223372036854775807∧True:=by
  obtain⟨a,c,h1⟩:=h.ow.form;exact⟨a,c,h1,h.ow.len_le,trivial⟩
 subst e0;have HM0:=p_ h;clear h;have HO:=p_ (oy ps);have HOS:=p_ (uv ps);go_enter Tryz.func28,Tryz.ntmps28;go_wp2;go_loopw [1,5] (λx i wr=>∃j:Nat,j<=ps.length∧i=.int .i64 j∧x=.int .i64 (k+offQ ps j)∧OwQT T wr (.slice a0 ps.length c0) (numU k ps j)∧ChS (λb=>T b=1∨4<=T b) w wr) (λ_ i _=>ps.length-(intOf i).toNat);case atStart=>exact⟨0,bj _,rfl,by simp[offQ],by rw[CG];exact HM0.out,ChS.refl _ _⟩
 case round=>
  obtain⟨j,hj,rfl,rfl,hM,hG⟩:=hrel;have HG:=p_ hG;clear hG;by_cases hlt:j<ps.length
  ·have hp:ps[j]? =some ps[j]:=x_ hlt;have hp':=nS k ps j j ps[j] hp;rw[if_neg (yd _)] at hp';obtain⟨g,v2,v3,rfl,-,hcs,hfr,hgs,hTg,hN,hE,hcl⟩:=hM.elem hp';have b1:=HO.out (j+1);have b2:=HOS.out j _ hp;have HNS:=p_ (BW k ps j _ hp);have HCL:=p_ hcl;have HN:=p_ hN;have HE:=p_ hE;have HT:=p_ hTg;obtain⟨x2,y2,rfl,hl2,-⟩:=hN.rows.form;obtain⟨x3,y3,rfl,hl3,-⟩:=hE.rows.form;have c1:wr.cell? ⟨g,j*4,none⟩=some (.int .i64 (ps[j]).Labels):=hcs 0 _ rfl;have c2:wr.cell? ⟨g,j*4+1,none⟩=some (.int .i64 (ps[j]).Degree):=hcs 1 _ rfl;have c3:wr.cell? ⟨g,j*4+2,none⟩=some (.slice x2 (ps[j]).Nodes.length y2):=hcs 2 _ rfl;have c4:wr.cell? ⟨g,j*4+3,none⟩=some (.slice x3 (ps[j]).Edges.length y3):=hcs 3 _ rfl;have B2:=p_ b2;have hcq:Hid (cQ ps[j]=2+(off (ps[j]).Nodes (ps[j]).Nodes.length+off (ps[j]).Edges (ps[j]).Edges.length)):=rfl;have hbd:k+(offQ ps j:Int)+2+(tot (ps[j]).Nodes:Int)+(tot (ps[j]).Edges:Int)<=4611686018427387904:=by
    have:=wK ps j _ hp;unfold szT at this;omega
   clear hM hcl hN hE hcs hp hp' b1 b2 hTg;generalize ps[j]=p at*
   obtain⟨L,D,N,E⟩:=p;simp only at*
   go_wp2_with fail;have cW:((wr.setCell ⟨g,j*4,none⟩ (.int .i64 (k+(offQ ps j:Nat)))).setCell ⟨g,j*4+1,none⟩ (.int .i64 (k+(offQ ps j:Nat)+1))).cell? ⟨g,j*4+3,none⟩=some (.slice x3 E.length y3):=by
    rw[fl _ _ _ _ (by intro h;injection h with h1 h2;omega),fl _ _ _ _ (by intro h;injection h with h1 h2;omega),c4]
   have hz:((wr.setCell ⟨g,j*4,none⟩ (.int .i64 (k+(offQ ps j:Nat)))).setCell ⟨g,j*4+1,none⟩ (.int .i64 (k+(offQ ps j:Nat)+1))).heap.size=wr.heap.size:=by simp only[eb]
   have CS1:=p_ ((Chg.set (w:=wr) (g:=g) (i:=j*4) (u:=.int .i64 (k+(offQ ps j:Nat)))).trans (Chg.set (i:=j*4+1) (u:=.int .i64 (k+(offQ ps j:Nat)+1)))).chS;have HN2:=p_ (HN.out.chS CS1.out λb hb hh=>by rw[show b=g by omega,HT.out] at hb;omega);have HE2:=p_ (HE.out.chS CS1.out λb hb hh=>by rw[show b=g by omega,HT.out] at hb;omega);have HCL2:=p_ (HCL.out (k+(offQ ps j:Nat)) (k+(offQ ps j:Nat)+1));clear HN HE HCL c1 c2 c3 c4 hfr CS1;generalize (wr.setCell ⟨g,j*4,none⟩ (.int .i64 (k+(offQ ps j:Nat)))).setCell ⟨g,j*4+1,none⟩ (.int .i64 (k+(offQ ps j:Nat)+1))=W2 at cW hz HN2 HE2 HCL2 ⊢;have hoN:off N N.length<=tot N:=by unfold tot;omega
   have hoE:off E E.length<=tot E:=by unfold tot;omega
   refine (nl _ _ N _ _ HN2.out om om).mono ?_;rintro e W3 ⟨rfl,hO,hG3⟩;have HE3:=p_ (HE2.out.chS hG3 λb hb hh=>om);have cW3:W3.cell? ⟨g,j*4+3,none⟩=some (.slice x3 E.length y3):=(aY (a:=⟨g,j*4+3,none⟩) (hG3.block g om (by rw[HT.out];omega))).trans cW;have HO3:=p_ hO;have HG3:=p_ hG3;clear hO hG3 HN2 HE2 cW;go_wp2_with fail;refine (nl _ _ E _ _ HE3.out om om).mono ?_;rintro e W4 ⟨rfl,hO,hG4⟩;have HO4:=p_ (HO3.out.chS hG4 λb hb hh=>om);have HR:=p_ (HCL2.out _ _ W4 ((HG3.out.mono λb hb=>⟨om,.inl hb⟩).trans (hG4.mono λb hb=>⟨om,.inr hb⟩)) HO4.out hO);clear hO hG4 HO4 HO3 HE3 HG3 HCL2;go_wp2;go_roundw;case rel=>exact⟨j+1,om,by go_num,by rw[B2.out,hcq.out];congr 1;omega,by rw[HNS.out];exact HR.out.1,HG.out.trans HR.out.2⟩
   case measure=>simp[intOf];omega
  ·go_wp2;go_ret;have he:j=ps.length:=om;subst he;exact⟨rfl,hM,HG.out⟩
end
theorem OwB.mono{lo hi lo' hi':Nat}{w:World}{v:Value}{x:ae}(h:OwB lo hi w v x)(f:lo'<=lo)(f:hi<=hi'):OwB lo' hi' w v x:=by
 obtain⟨T,f,g,i,e,a,b,c,d⟩:=h;exact⟨T,f,g,i,e,a,b,c,λb hb=>by have:=d b hb;omega⟩
theorem OwB.stp{lo hi t:Nat}{o a:Tg}{w w':World}{v:Value}{x:ae}(h:OwB lo hi w v x)(s:Stp t o w a w')(hd:∀b,lo<=b->b<hi->o b≠t):OwB lo hi w' v x:=by
 obtain⟨T,d,f,i,e,j,k,m,a⟩:=h;have c:ChS (λb=>o b=t) w w':=⟨s.os,s.tape,s.output,s.size,s.block⟩;have g:∀b,T b≠0->¬o b=t:=λb hb=>hd b (a b hb).1 (a b hb).2;exact⟨T,d,f,i,e,j.chS c λb hb=>g b om,k.chS c λb hb=>g b om,m.chS c λb hb=>g b om,a⟩
theorem OwB.form{lo hi:Nat}{w:World}{c:List Value}{x:ae}(h:OwB lo hi w (.agg c.toArray) x):∃b k d f m g i n j,c=[.slice b k d,.slice f m g,.slice i n j]:=by
 obtain⟨T,k,k,k,e,k,m,n,q⟩:=h;obtain⟨b,d,rfl⟩:=k.ow.form;obtain⟨f,g,rfl⟩:=m.rows.rdl.form;obtain⟨i,j,rfl⟩:=n.rows.rdl.form;have e':=congrArg (λv=>match v with| .agg a=>a.toList|_=>[]) e;exact⟨b,_,d,f,_,g,i,_,j,by simpa using e'⟩
theorem ry:(Gz.info? 28).map (·.size)=some 3:=by kernel_rfl
def gR(b:Nat)(c:Int):(List c_)->Option (Lo (List c_) (ae×Bool)):=λs=>if decide ((s.length:Int)<=c) then(ck ((s.length:Int)-1))>>=λd=>(ix s d)>>=λf=>(kL b f)>>=λa=>if !a.2 then some (.out s) else(push s a.1)>>=λg=>some (.go g) else some (.out s)
def fw(a:Nat):(List c_)->Option (Lo (List c_) (ae×Bool)):=λs=>if decide ((s.length:Int)>0) then(ck ((s.length:Int)-1))>>=λb=>(ix s b)>>=λc=>(hX a c)>>=λd=>if d.2 then some (.out s) else(ck ((s.length:Int)-1))>>=λf=>(cut s 0 f)>>=λg=>some (.go g) else some (.out s)
def mU(a:Nat)(b:c_)(c:Int):Option (ae×Bool):=
  (dF a b)>>=λf=>
  (
    if !f then
      some true
    else
      (dl c 0 6)>>=λg=>
      some (!g))>>=λi=>
  if i then
    some ((⟨[],[],[]⟩:ae),false)
  else
    (loopF (gR a c) a ([b]:List c_))>>=λj=>
    match j with
    | .inl k=>
      (loopF (fw a) a k)>>=λm=>
      match m with
      | .inl n=>
        (kT a n)>>=λd=>
        some (d.1,d.2)
      | .inr _=>none
    | .inr _=>none
theorem zG(t:Nat)(w:World)(E:List Value)(m:c_)(v:Rp.rd zt w E m)(D:Int)(r:ae×Bool)(k:mU t m D=some r):
    Calls Gz 7 #[.agg E.toArray,.int .i64 D] w (ph w r):=by
 unfold mU at k;replace v:=Rp.col v;obtain⟨F,G,rfl,x,y⟩:=v;have d:Bs zt (col zt) w w:=Bs.start _ _;refine y_ (n:=65) (vs:=[.agg #[ZI m.Labels,ZI m.Degree,F,G],ZI D]) Tryz.func7 rfl rfl ?_;generalize col zt=o at*;refine Zq (Zo ?_);refine Z_ (o:=o) w.heap.size 11 d.keeps.size (cs:=[ZI m.Labels,ZI m.Degree,F,G]) rfl rfl ?_;intro H L J C I;obtain⟨x,y,d⟩:=ZS I (A3 x y d);refine Zo ?_;refine au (o:=H) w.heap.size 12 d.keeps.size (cs:=[.slice none 0 0,.slice none 0 0,.slice none 0 0]) Tryz.zeroValue28 rfl ?_;intro H E A f v;obtain⟨x,y,C,d⟩:=ZS v (A4 x y C d);refine Za rfl (Zy (b_ (Zq (Zv (F_ rfl GG GD rfl C.cells) ?_))));obtain⟨v,I,k⟩:=a_ k;refine Zo ?_;refine j_ (fH t E _ m (⟨_,_,rfl,x.z,y.z⟩) v I) Tryz.call20 ⟨rfl,trivial⟩ ?_;rintro E I ⟨rfl,E⟩;have L:=E.stp 999 H;refine⟨_,rfl,?_⟩;obtain⟨x,y,C,f,d⟩:=ZS L (A5 x y C f d);refine Zv (ag rfl) (Zm rfl ?_);obtain⟨N,E,k⟩:=a_ k;refine bp 4 (λO L=>Fr O 65 [(1,ZI D),(2,ZP J),(4,ZP A),(18,.bool N)]∧Keeps I L) ?_ ?_;all_goals simp only[bi,bk,aR,aG]
 ·have kp:Keeps I I:=Keeps.refl _;rcases aw (!v) with v|v
  ·rw[if_pos v] at E;refine Zd v (Zd v (Zd v ?_));refine Zv (aj (Zb v) rfl) ?_;have J:=Zj E;refine Ze [(1,_),(2,_),(4,_),(18,_)] ?_;subst J;refine r_ (λa g=>⟨g,kp⟩)
  ·replace E:=ZF v E;refine m_ (d_ rfl) dc ⟨_,rfl,Zb v⟩ ?_;obtain⟨N,O,E⟩:=a_ E;refine az dc ⟨_,rfl,Zb v⟩ ?_;refine j_ (fM I D 0 6 N O) Tryz.call21 ⟨rfl,rfl,rfl,trivial⟩ ?_;rintro I I ⟨rfl,I⟩;have N:=I.stp 999 H;refine⟨_,rfl,?_⟩;replace kp:=Keeps.trans kp I;refine m_ (ag rfl) dc ⟨_,rfl,Zb v⟩ (Zv (aa (Zb v) rfl) ?_);have J:=Zj E;refine Ze [(1,_),(2,_),(4,_),(18,_)] ?_;subst J;refine r_ (λa g=>⟨g,kp⟩)
 rintro v L ⟨g,v⟩;have E:=v.stp 999 H;obtain⟨C,x,y,f,d⟩:=ZS E (A5 C x y f d);refine O_ g ?_;refine Zy ?_;refine Zi rfl k (λv k=>?_) (λv k=>?_)
 ·refine Zq (Zv (aK (vs:=[]) (cs:=[.slice none 0 0,.slice none 0 0,.slice none 0 0]) trivial kr) ?_);refine E_ trivial ?_;refine X_ f rfl rfl rfl ry (by intro c hc;simp only[I_,P_,or_false] at hc;rcases hc with rfl|rfl|rfl<;>first|rfl) ?_;intro v v E;replace d:=d.stp E;refine Za rfl (Zy (i_ (t_ ?_)));obtain rfl:=Zj k;refine J_ (P:=Gz) (vs:=[.agg #[.slice none 0 0,.slice none 0 0,.slice none 0 0],.bool false]) Lc ⟨⟨_,rfl,ay GR GS rfl v.cells⟩,rfl,trivial⟩ ?_;exact⟨[.slice none 0 0,.slice none 0 0,.slice none 0 0],rfl,OwB.nil _ _ _,d.keeps⟩
 ·refine f_ (Zn (Zv (F_ rfl GG GD rfl C.cells) (Zo ?_)));refine dn w.heap.size 15 d.keeps.size (α:=c_) (o:=H) (cs:=[ZI m.Labels,ZI m.Degree,F,G]) (xs:=([m]:List c_)) (vs:=[(0,.agg #[ZI m.Labels,ZI m.Degree,F,G])]) ⟨[ZI m.Labels,ZI m.Degree,F,G],_,rfl,⟨_,_,rfl,x,y⟩,rfl⟩ rfl ⟨rfl,rfl,trivial⟩ GL GD GM dc (fillS 4 rfl rfl dc) sy ?_;intro y v C E v;obtain⟨f,d⟩:=ZS v (A2 f d);refine Za rfl (Zy ?_);obtain⟨x,F,k⟩:=a_ k;refine eX (λa v=>∃e l u,x=.inl e∧Fr a 65 [(4,ZP A),(6,l)]∧Bs zt u w v∧Oz w 31 15 u v l e∧Bz w 12 u v A 28 [.slice none 0 0,.slice none 0 0,.slice none 0 0]) (λ_ _=>False) ?_ ?_ ?_
  ·refine k_ ?_;refine B_ (λ(K:Nat) a v=>∃e l u,loopF (gR t D) K e=some x∧Fr a 65 [(1,ZI D),(4,ZP A),(6,l)]∧Bs zt u w v∧Oz w 31 15 u v l e∧Bz w 12 u v A 28 [.slice none 0 0,.slice none 0 0,.slice none 0 0]) t (λa g=>⟨([m]:List c_),C,y,F,g.sb,d,E,f⟩) ?_;rintro m a v ⟨e,l,u,x,g,d,i,f⟩;obtain⟨H,m,m,m,D⟩:=aC x;dsimp only[gR] at m;refine q_ g ?_;refine b_ (Zq (Zm rfl (Zv (aU rfl i GL) (Zm rfl (Zv (ml rfl rfl) (Zy ?_))))));refine Zi rfl m (λx m=>?_) (λx m=>?_)
   ·refine f_ (nx (k_ (Zq (Zm rfl (Zm rfl (Zv (aU rfl i GL) ?_))))));obtain⟨x,x,m⟩:=a_ m;refine Zv (aD rfl rfl x) ?_;obtain⟨y,x,m⟩:=a_ m;refine Zo ?_;refine ci i x rfl rfl GL GD ?_;intro x x x x C;obtain⟨E,E,rfl,E,F⟩:=C;refine Zv (F_ rfl GG GD rfl x) ?_;obtain⟨x,C,m⟩:=a_ m;refine Zo ?_;refine j_ (zC t v u 16 dc _ y (⟨_,_,rfl,E.z,F.z⟩) x C) Tryz.call22 ⟨rfl,trivial⟩ ?_;rintro y y ⟨y,G,rfl,I,y,C⟩;have J:=y.stp' 16 C;refine⟨_,rfl,?_⟩;obtain⟨E,F,rfl,y,C⟩:=I;obtain⟨i,f,d⟩:=ZS J (A3 i f d);refine Zm rfl (Zv (H_ rfl rfl) (Zv (H_ rfl rfl) (Zo ?_)));refine au (o:=G) w.heap.size 17 d.keeps.size (cs:=[ZI 0,ZI 0,.slice none 0 0,.slice none 0 0]) GM rfl ?_;intro G I I I J;obtain⟨i,y,C,f,d⟩:=ZS J (A5 i y C f d);refine E_ trivial ?_;refine X_ I rfl rfl rfl bu (by intro c hc;simp only[I_,P_,or_false] at hc;rcases hc with rfl|rfl|rfl|rfl<;>first|rfl|exact y.one1|exact C.one1) ?_;intro I I J;obtain⟨i,y,C,f,d⟩:=ZS J (A5 i y C f d);refine Za rfl (Zy (b_ (Zq (Zm rfl (Zv (ag rfl) (Zy ?_))))));refine Zi rfl m (λJ m=>?_) (λJ m=>?_)
    ·refine z_ ?_;refine g_ ?_;refine oA dc ?_;refine g_ (A_ ?_);refine r_ ?_;obtain rfl:=Zj m;refine Zk [(4,_),(6,_)] ?_;intro a g;exact⟨e,l,G,D,g,d,i,f⟩
    ·refine f_ (nx (h_ (Zm rfl (Zv (F_ rfl GG GD rfl I.cells) (Zo ?_)))));refine ap (α:=c_) (o:=G) (cs:=[ZI x.1.Labels,ZI x.1.Degree,E,F]) (xs:=([x.1]:List c_)) (vs:=[(0,.agg #[ZI x.1.Labels,ZI x.1.Degree,E,F])]) ⟨[ZI x.1.Labels,ZI x.1.Degree,E,F],_,rfl,⟨_,_,rfl,y,C⟩,rfl⟩ rfl ⟨rfl,rfl,trivial⟩ GL GD GM dc (fillS 4 rfl rfl dc) sy ?_;intro x x x x y C;obtain⟨i,f,d⟩:=ZS y (A3 i f d);obtain⟨y,C,m⟩:=a_ m;refine Zo ?_;refine am i x (av C) dc d.keeps.size rfl rfl GL ru rfl dc ?_;intro x C C E F;obtain⟨f,d⟩:=ZS F (A2 f d);refine Za rfl (Zf (w_ (v_ ?_)));obtain rfl:=Zj m;refine Zk [(1,_),(4,_),(6,_)] ?_;intro a g;exact⟨H,om,y,C,x,D,g,d,E,f⟩
   ·refine z_ ?_;refine g_ (g_ (A_ ?_));refine r_ ?_;obtain rfl:=Zj m;refine Zk [(4,_),(6,_)] ?_;intro a g;exact⟨e,l,u,D,g,d,i,f⟩
  ·rintro a v ⟨e,l,u,rfl,g,d,i,f⟩;dsimp only at k;refine q_ g ?_;have m:=i.frzF;replace i:=i.frz;replace f:=f.frz_ne (j:=15) dc;replace d:=d.frz 15 dc;generalize (frz 15 u)=Q at*;obtain⟨M,R,k⟩:=a_ k;refine eX (λa q=>∃p B s,M=.inl p∧Fr a 65 [(4,ZP A),(6,B)]∧Bs zt s w q∧RdL s q B p∧Bz w 12 s q A 28 [.slice none 0 0,.slice none 0 0,.slice none 0 0]) (λ_ _=>False) ?_ ?_ ?_
   ·refine k_ ?_;refine B_ (λ(K:Nat) a q=>∃p B s,loopF (fw t) K p=some M∧Fr a 65 [(4,ZP A),(6,B)]∧Bs zt s w q∧RdL s q B p∧Bz w 12 s q A 28 [.slice none 0 0,.slice none 0 0,.slice none 0 0]) t (λa g=>⟨e,l,Q,R,g.sb,d,i,f⟩) ?_;rintro i a q ⟨p,B,s,v,g,d,m,f⟩;obtain⟨x,i,i,i,u⟩:=aC v;dsimp only[fw] at i;refine q_ g ?_;refine b_ (Zq (Zm rfl (Zv (C_ rfl m GL) (Zv (bK rfl rfl) (Zy ?_)))));refine Zi rfl i (λv i=>?_) (λv i=>?_)
    ·refine f_ (nx (k_ (b_ (Zq (Zm rfl (Zm rfl (Zv (C_ rfl m GL) ?_)))))));obtain⟨v,v,i⟩:=a_ i;refine Zv (aD rfl rfl v) ?_;obtain⟨v,y,i⟩:=a_ i;refine Zo ?_;refine bR m y rfl rfl GL GD ?_;intro y y y y e;obtain⟨l,l,rfl,l,A⟩:=e;refine Zv (F_ rfl GG GD rfl y) ?_;obtain⟨y,e,i⟩:=a_ i;refine Zo ?_;refine j_ (rM t q s 18 dc _ v (⟨_,_,rfl,l.z,A.z⟩) y e) Tryz.call23 ⟨rfl,trivial⟩ ?_;rintro v v ⟨v,v,v,rfl,y,y,y,e⟩;have l:=y.stp' 18 e;refine⟨_,rfl,?_⟩;obtain⟨m,f,d⟩:=ZS l (A3 m f d);refine Zm rfl (Zv (H_ rfl rfl) (Zv (H_ rfl rfl) (Za rfl (Za rfl (Ze [(4,_),(6,_),(10,_)] (Zn (Zm rfl (Zy ?_))))))));refine Zi rfl i (λy i=>?_) (λy i=>?_)
     ·refine z_ ?_;refine g_ ?_;refine oA dc ?_;refine g_ (A_ ?_);refine r_ ?_;obtain rfl:=Zj i;refine Zk [(4,_),(6,_)] ?_;intro a g;exact⟨p,B,v,u,g,d,m,f⟩
     ·refine f_ (nx (h_ (Zm rfl (Zm rfl (Zv (C_ rfl m GL) ?_)))));obtain⟨y,y,i⟩:=a_ i;refine Zv (aD rfl rfl y) ?_;obtain⟨y,e,i⟩:=a_ i;refine Zo ?_;refine jL m e rfl rfl rfl GL GD ?_;intro e l;refine Za rfl (Zf (w_ (v_ ?_)));obtain rfl:=Zj i;refine Zk [(4,_),(6,_)] ?_;intro a g;exact⟨x,om,y,e,v,u,g,d,l,f⟩
    ·refine z_ ?_;refine g_ (g_ (A_ ?_));refine r_ ?_;obtain rfl:=Zj i;refine Zk [(4,_),(6,_)] ?_;intro a g;exact⟨p,B,s,u,g,d,m,f⟩
   ·rintro a q ⟨p,B,s,rfl,g,d,m,f⟩;dsimp only at k;refine q_ g ?_;refine Zq (Zm rfl ?_);obtain⟨g,i,k⟩:=a_ k;refine Zo ?_;refine j_ (zT t q _ p m.z g i) Tryz.call24 ⟨rfl,trivial⟩ ?_;have A:=d.keeps.size;rintro i m ⟨i,rfl,hO,u⟩;obtain⟨v,i⟩:∃o,o=λb=>if b<q.heap.size then s b else 0:=⟨_,rfl⟩;have B:Stp 20 s q v m:=u.stp' 20 (λb hb=>by rw[i];exact if_pos hb);refine⟨_,rfl,?_⟩;obtain⟨m,u,v,x,y,e,l,p,t,rfl⟩:=hO.form;obtain⟨f,d⟩:=ZS B (A2 f d);refine Zv (H_ rfl rfl) (Zv (H_ rfl rfl) ?_);refine E_ trivial ?_;refine X_ f rfl rfl rfl ry (by intro c hc;simp only[I_,P_,or_false] at hc;rcases hc with rfl|rfl|rfl<;>rfl) ?_;intro f B f;replace hO:=hO.stp f (λb hb _=>by rw[i];show(if b<q.heap.size then s b else 0)≠12;rw[if_neg om];decide);replace d:=d.stp f;refine Za rfl (Zy (i_ ?_));obtain rfl:=Zj k;refine J_ (P:=Gz) (vs:=[.agg #[.slice m u v,.slice x y e,.slice l p t],.bool g.2]) Lc ⟨⟨_,rfl,ay GR GS rfl B.cells⟩,rfl,trivial⟩ ?_;exact⟨[.slice m u v,.slice x y e,.slice l p t],rfl,hO.mono A (by exact f.size),d.keeps⟩
   ·exact λ_ _ h=>h.elim
  ·exact λ_ _ h=>h.elim
def lsK(n a:Nat):List Int:=((List.range n).filter (· !=a)).map λb:Nat=>(b:Int)
theorem xp{n a:Nat}(h:a<n):List.range n=List.range a++a::List.range' (a+1) (n-1-a):=by
 rw[jY,jY,show n=a+(n-a) by omega,<-List.range'_append_1,an,show a+(n-a)-1-a=n-1-a by omega,show n-a=(n-1-a)+1 by omega,mC]
theorem wG{n a:Nat}(h:a<n):lsK n a=(List.range a++List.range' (a+1) (n-1-a)).map λb:Nat=>(b:Int):=by
 unfold lsK;rw[xp h,ey,gd,if_neg sy,my.2 λb d=>by have:=aS.1 d;simp;omega,my.2 λb d=>by have:=rf.1 d;simp;omega]
theorem Eo{n a:Nat}(h:a<n):(lsK n a).length=n-1:=by rw[wG h];simp;omega
theorem Eb{n a:Nat}{y:Int}(h:y∈lsK n a):0<=y∧y<n:=by
 obtain⟨b,d,rfl⟩:=aM.1 h;have:=aS.1 (cF.1 d).1;omega
theorem Ff(n a:Nat):(lsK n a).length<=n:=by
 unfold lsK;rw[aA];have:=gj (· !=a) (List.range n);rw[Gy] at this;exact this
theorem EN{n a:Nat}(h:a<n):delO ((List.range n).map λb:Nat=>(b:Int)) a ((a:Int)+1)=some (lsK n a):=by
 unfold delO;rw[if_pos (by simp;omega),wG h,xp h,ew,ew,bd,U_,show((a:Int)+1).toNat=a+1 by omega,List.take_left' sy];congr 2;rw[show ∀(A:List Int) c B,A++c::B=(A++[c])++B by simp,List.drop_left' sy]
theorem EC(a:Nat)(g:1000<=a)(p:c_)(n:Nat)(d:p.Labels=n)(f:n<=8):loopF (gX p) a ([],0)=some (.inl ((List.range n).map λb:Nat=>(b:Int),(n:Int))):=
 jG (λj=>((List.range j).map λb:Nat=>(b:Int),(j:Int))) n _ (λj e=>by
  unfold gX push;simp only
  rw[if_pos (by simp;omega),if_pos (by simp;omega),sb,n_ om om,sb,gc,ew];rfl)
  (by unfold gX;simp only;rw[if_neg (by simp;omega)]) a om
theorem Fl(b:Nat)(i:1000<=b)(n a:Nat)(g:n<=8):loopF (gY a n) b ([],0)=some (.inl (lsK n a,(n:Int))):=
 jG (λj=>(lsK j a,(j:Int))) n _ (λj d=>by
  have f:=Ff j a;unfold gY;simp only
  rw[if_pos (by simp;omega),n_ om om];have e:lsK (j+1) a=lsK j a++if j=a then [] else [(j:Int)]:=by
   unfold lsK;rw[gc,ey,ew,gd,oS];by_cases h:j=a<;>simp[h]
  rw[e];by_cases h:j=a
  ·rw[if_neg (sh h),if_pos h,sb,bm];rfl
  ·rw[if_pos (by simp;omega),if_neg h];unfold push;rw[if_pos om,sb,sb];rfl)
  (by unfold gY;simp only;rw[if_neg sy]) b om
def dwN:Nat->c_->c_
  |0,p=>p
  |k+1,p=>match weakO p with|none=>p|some a=>dwN k (keepP p (lsK p.Labels.toNat a))
theorem lR{p:c_}{a:Nat}(h:weakO p=some a):a<p.Labels.toNat∧2<=p.Labels.toNat:=by
 unfold weakO at h;have g:=aS.1 (List.mem_of_find?_eq_some h);have f:=List.find?_some h;obtain⟨b,d,e⟩:=xU.1 f;have d:=aS.1 d;unfold weakAt at e;have:a≠b:=by
  rintro rfl;simp at e
 omega
theorem keep1{p:c_}(b:okT p){a:Nat}(h:weakO p=some a):okT (keepP p (lsK p.Labels.toNat a))∧(keepP p (lsK p.Labels.toNat a)).Labels=((p.Labels.toNat-1:Nat):Int)∧(∀y∈lsK p.Labels.toNat a,0<=y∧y<p.Labels)∧(lsK p.Labels.toNat a).length=p.Labels.toNat-1:=by
 obtain⟨k,j,-⟩:=aO b.1;obtain⟨f,i⟩:=lR h;have e:=Eo f;have d:∀y∈lsK p.Labels.toNat a,0<=y∧y<p.Labels:=λy g=>by have:=Eb g;omega
 exact⟨Dt b d om om,by show((lsK p.Labels.toNat a).length:Int)=_;rw[e],d,e⟩
theorem qz:∀(k:Nat){p:c_},okT p->okT (dwN k p)∧(dwN k p).Degree=p.Degree
 |0,p,h=>⟨h,rfl⟩
 | k+1,p,h=>by
  unfold dwN;cases f:weakO p with
  |none=>exact⟨h,rfl⟩
  |some a=>
   obtain⟨b,-⟩:=keep1 h f;obtain⟨e,d⟩:=qz k b;exact⟨e,d⟩
theorem tI{p:c_}{a:Nat}(h:weakO p=some a):weakV p=a:=by unfold weakV;rw[h]
theorem nB{p:c_}(h:weakO p=none):weakV p= -1:=by unfold weakV;rw[h]
theorem xj(k:Nat){p:c_}(h:weakO p=none):dwN k p=p:=by
 cases k with
 |zero=>rfl
 |succ k=>unfold dwN;rw[h]
theorem Dd(g:Nat)(x:1000000000<=g):∀(k:Nat)(p:c_)(left:List Int)(b:Nat),okT p->p.Labels.toNat<=k+1->left.length=p.Labels.toNat->k<b->
  ∃d,loopF (eI g) b (left,weakV p,p.Labels,p.Degree,p.Nodes,p.Edges)=some (.inl (d,-1,(dwN k p).Labels,(dwN k p).Degree,(dwN k p).Nodes,(dwN k p).Edges)):=by
 intro k
 induction k with
 | zero=>
  intro p left b h s n i;obtain⟨m,rfl⟩:∃m,b=m+1:=⟨b-1,om⟩;cases e:weakO p with
  |some a=>have:=(lR e).2;omega
  |none=>
   refine⟨left,?_⟩;rw[nB e,dK (t:=(left,-1,p.Labels,p.Degree,p.Nodes,p.Edges)) (by unfold eI;rw[if_neg sy])];rfl
 | succ k ih=>
  intro p left b h s n i;obtain⟨m,rfl⟩:∃m,b=m+1:=⟨b-1,om⟩;obtain⟨C,y,-⟩:=aO h.1;cases e:weakO p with
  |none=>
   refine⟨left,?_⟩;rw[nB e,xj _ e,dK (t:=(left,-1,p.Labels,p.Degree,p.Nodes,p.Edges)) (by unfold eI;rw[if_neg sy])]
  | some a=>
   obtain⟨o,B,v,A⟩:=keep1 h e;obtain⟨q,w⟩:=lR e;have j:eI g (left,weakV p,p.Labels,p.Degree,p.Nodes,p.Edges)=some (.go (left.take a++left.drop (a+1),weakV (keepP p (lsK p.Labels.toNat a)),(keepP p (lsK p.Labels.toNat a)).Labels,(keepP p (lsK p.Labels.toNat a)).Degree,(keepP p (lsK p.Labels.toNat a)).Nodes,(keepP p (lsK p.Labels.toNat a)).Edges)):=by
    unfold eI;simp only
    have u:delO left a ((a:Int)+1)=some (left.take a++left.drop (a+1)):=by
     unfold delO;rw[if_pos om,U_,show((a:Int)+1).toNat=a+1 by omega]
    have f:=sZ p.Labels.toNat om;rw[show(p.Labels.toNat:Int)=p.Labels by omega] at f;rw[tI e,if_pos sy,f,sb,n_ om om,sb,EN q,sb];rw[show(⟨p.Labels,p.Degree,p.Nodes,p.Edges⟩:c_)=p from rfl,Ap p h _ v,sb,sb,u,sb,tY g x _ o,sb]
   obtain⟨d,hi⟩:=ih (keepP p (lsK p.Labels.toNat a)) (left.take a++left.drop (a+1)) m o om (by rw[ar,aX,T_];omega) om;refine⟨d,?_⟩;rw[jB j,hi,show dwN (k+1) p=dwN k (keepP p (lsK p.Labels.toNat a)) by rw[dwN,e]]
theorem Dj(f:Nat)(s:1000000000<=f):∀(k:Nat)(p:c_)(left:List Int)(b:Nat),okT p->p.Labels.toNat<=k+1->left.length=p.Labels.toNat->k<b->
  ∃d,loopF (eH f) b (left,weakV p,p.Labels,p.Degree,p.Nodes,p.Edges)=some (.inl (d,-1,(dwN k p).Labels,(dwN k p).Degree,(dwN k p).Nodes,(dwN k p).Edges)):=by
 intro k
 induction k with
 | zero=>
  intro p left b h u n i;obtain⟨m,rfl⟩:∃m,b=m+1:=⟨b-1,om⟩;cases e:weakO p with
  |some a=>have:=(lR e).2;omega
  |none=>
   refine⟨left,?_⟩;rw[nB e,dK (t:=(left,-1,p.Labels,p.Degree,p.Nodes,p.Edges)) (by unfold eH;rw[if_neg sy])];rfl
 | succ k ih=>
  intro p left b h u n i;obtain⟨m,rfl⟩:∃m,b=m+1:=⟨b-1,om⟩;obtain⟨D,w,-⟩:=aO h.1;cases e:weakO p with
  |none=>
   refine⟨left,?_⟩;rw[nB e,xj _ e,dK (t:=(left,-1,p.Labels,p.Degree,p.Nodes,p.Edges)) (by unfold eH;rw[if_neg sy])]
  | some a=>
   obtain⟨o,C,q,B⟩:=keep1 h e;obtain⟨x,A⟩:=lR e;have j:eH f (left,weakV p,p.Labels,p.Degree,p.Nodes,p.Edges)=some (.go (imgL left (lsK p.Labels.toNat a),weakV (keepP p (lsK p.Labels.toNat a)),(keepP p (lsK p.Labels.toNat a)).Labels,(keepP p (lsK p.Labels.toNat a)).Degree,(keepP p (lsK p.Labels.toNat a)).Nodes,(keepP p (lsK p.Labels.toNat a)).Edges)):=by
    unfold eH;simp only
    have g:=Fl f om p.Labels.toNat a om;rw[show(p.Labels.toNat:Int)=p.Labels by omega] at g;rw[tI e,if_pos sy,g,sb];simp only
    rw[show(⟨p.Labels,p.Degree,p.Nodes,p.Edges⟩:c_)=p from rfl,CS f s p h _ q om,sb,(pt left (lsK p.Labels.toNat a) om (λy v=>by have:=q y v;omega) om).1,sb,vT f s _ o,sb]
   obtain⟨d,hi⟩:=ih (keepP p (lsK p.Labels.toNat a)) (imgL left (lsK p.Labels.toNat a)) m o om (by rw[lT];omega) om;refine⟨d,?_⟩;rw[jB j,hi,show dwN (k+1) p=dwN k (keepP p (lsK p.Labels.toNat a)) by rw[dwN,e]]
theorem EG(a:Nat)(f:1000000000<=a)(p:c_)(e:okT p):∃l,kO a p=some (dwN 8 p,l,true):=by
 obtain⟨k,i,-⟩:=aO e.1;have j:=e.2.1;have h:=e.2.2;obtain⟨l,g⟩:=Dd a f 8 p ((List.range p.Labels.toNat).map λb:Nat=>(b:Int)) a e om sy om;refine⟨l,?_⟩;have d:=sZ p.Labels.toNat om;rw[show(p.Labels.toNat:Int)=p.Labels by omega] at d;unfold kO;rw[iX a om p om om,sb,e.1,if_neg sy,se p e,sb,d,sb,tY a f p e,sb,g,sb]
theorem Er(a:Nat)(e:1000000000<=a)(p:c_)(d:okT p):∃l,kU a p=some (dwN 8 p,l,true):=by
 obtain⟨o,k,j,m,g,f⟩:=aO d.1;have n:=d.2.1;have i:=d.2.2;obtain⟨l,h⟩:=Dj a e 8 p ((List.range p.Labels.toNat).map λb:Nat=>(b:Int)) a d om sy om;refine⟨l,?_⟩;unfold kU;rw[jC a om p om om,sb,d.1,if_neg sy,wd _ (jr g om om) om,sb,wd _ (jr f om om) om,sb,EC a om p p.Labels.toNat om om,sb];simp only
 rw[show(⟨p.Labels,p.Degree,p.Nodes,p.Edges⟩:c_)=p from rfl,vT a e p d,sb,h,sb]
noncomputable def nextV(p:c_):c_×Bool:=if(roundV p).2.2.2=true then(dwN 8 (roundV p).1,(lmapV (roundV p).1 (dwN 8 (roundV p).1)).2) else(⟨0,0,[],[]⟩,false)
theorem DJ{p:c_}(d:okT p)(h:(nextV p).2=true):okT (nextV p).1∧(nextV p).1.Degree=p.Degree:=by
 unfold nextV at h ⊢;by_cases a:(roundV p).2.2.2=true
 ·rw[if_pos a] at h ⊢;obtain⟨b,j,g,f⟩:=sV p d.1 a;obtain⟨i,e⟩:=qz 8 (p:=(roundV p).1) ⟨b,j,g⟩;exact⟨i,e.trans f⟩
 ·rw[if_neg a] at h;cases h
theorem xu(a:Nat)(e:1000000000<=a)(p:c_)(b:okT p):lF a p=some (nextV p)∧kL a p=some (nextV p):=by
 unfold lF kL nextV;rw[rK a e p b.1 b.2.1 b.2.2,sb,sL a e p b.1 b.2.1 b.2.2,sb];cases k:(roundV p).2.2.2
 ·exact⟨rfl,rfl⟩
 ·have d:=b.next k;obtain⟨n,j⟩:=Er a e _ d;obtain⟨m,g⟩:=EG a e _ d;have f:=(qz 8 d).1;obtain⟨h,i⟩:=pC a e (roundV p).1 (dwN 8 (roundV p).1) d.2.1 d.2.2 f.2.1 f.2.2;rw[if_neg sy,j,sb,if_neg sy,if_pos rfl,if_neg sy,g,sb,if_neg sy];simp only
  rw[h,i];exact⟨rfl,rfl⟩
end Go.Proofs.YtpefhaamcihneaaGreat
