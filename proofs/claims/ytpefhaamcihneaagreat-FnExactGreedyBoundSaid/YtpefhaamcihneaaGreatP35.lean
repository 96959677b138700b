/- Part 35 of what this claim rests on (pack.py). -/
import Derived.Test.YtpefhaamcihneaaGreatP34
namespace Go.Proofs.YtpefhaamcihneaaGreat
open Tryz renaming prog→Gy, isAgg31→GF, sizeOf31→GC, results7→Lb, isAgg28→GQ, sizeOf28→GR, underlying26→GK, zeroValue31→GL
set_option linter.unusedSimpArgs false
set_option linter.unusedVariables false
set_option maxRecDepth 100000
set_option maxHeartbeats 2000000
open Go.RowKit
theorem jz{σ τ ρ:Type}{f:σ->Option (Lp σ τ ρ)}(R:Nat->σ)(n:Nat)(t:τ)(e:∀j,j<n->f (R j)=some (.go (R (j+1))))(b:f (R n)=some (.out t))(a:Nat)(g:n<a):loopF f a (R 0)=some (.inl t):=by
 suffices h:∀(d j a:Nat),j+d=n->d<a->loopF f a (R j)=some (.inl t) by exact h n 0 a om g
 intro d
 induction d with
 |zero=>
  intro j a i g;obtain⟨m,rfl⟩:∃m,a=m+1:=⟨a-1,om⟩;have:j=n:=om;subst this;simp only[loopF,b]
 |succ d ih=>
  intro j a i g;obtain⟨m,rfl⟩:∃m,a=m+1:=⟨a-1,om⟩;simp only[loopF,e j om];exact ih (j+1) m om om
theorem upE{α:Type}(f:Int->Option (Lp Int Int Bool))(xs:List α)(d:∀(j:Nat)(h:j<xs.length),f (j:Int)=some (.go ((j+1:Nat):Int)))(b:f (xs.length:Int)=some (.out (xs.length:Int)))(a:Nat)(e:xs.length<a):
  loopF f a 0=some (.inl (xs.length:Int)):=jz (f:=f) (λj=>(j:Int)) xs.length _ d b a e
theorem CU(a:Nat)(l:List Int)(d:l.length<a)(h:l.length<=1000000000000000000):lM a l l=some true:=by
 unfold lM;rw[if_neg sy,upE (iH l l) l (λj b=>by
  unfold iH;rw[if_pos (by simp;omega),aq,x_ b,sb,sb,if_neg sy,n_ om om,sb];simp)
  (by unfold iH;rw[if_neg sy]) a d,sb]
theorem Eb{LL:List (List Int)}{x:List Int}(h:x∈LL):x.length<=tot LL:=by
 obtain⟨i,hi,rfl⟩:=Gp h;have:=qv LL i hi;rw[ax,x_ hi] at this;exact this
theorem nL(a:Nat)(LL:List (List Int))(e:tot LL<a)(h:tot LL<=1000000000000000000):eT a LL LL=some true:=by
 have d:LL.length<=tot LL:=by unfold tot;omega
 unfold eT;rw[if_neg sy,upE (iF a LL LL) LL (λj b=>by
  have:=Eb (aV b);unfold iF;rw[if_pos (by simp;omega),aq,x_ b,sb,sb,CU a _ om om,sb,if_neg sy,n_ om om,sb];simp)
  (by unfold iF;rw[if_neg sy]) a om,sb]
theorem AL(a:Nat)(p:c_)(b:szT p<a)(h:szT p<=1000000000000000000):lf a p p=some true:=by
 unfold lf;unfold szT at h b;rw[if_neg sy,if_neg sy,nL a _ om om,sb,if_neg sy,nL a _ om om,sb,if_neg sy]
theorem Ak(a:Nat)(ps:List c_)(e:szQ ps<a)(h:szQ ps<=1000000000000000000):kN a ps ps=some true:=by
 have d:ps.length<=szQ ps:=by unfold szQ;omega
 unfold kN;rw[if_neg sy,upE (gZ a ps ps) ps (λj b=>by
  have:=Ek (aV b);unfold gZ;rw[if_pos (by simp;omega),aq,x_ b,sb,sb,AL a _ om om,sb,if_neg sy,n_ om om,sb];simp)
  (by unfold gZ;rw[if_neg sy]) a om,sb]
theorem BB(a:Nat)(n:Nat)(k:Int)(d:n<a)(e:0<=k)(h:k+n<=4611686018427387904):lw a (iota k n) k=some (k+n):=by
 have:=jz (f:=iy (iota k n)) (λj=>(k+(j:Int),(j:Int))) n (k+(n:Int),(n:Int)) (λj b=>by
  unfold iy;simp only
  rw[if_pos (by simp[ns];omega),aq,show(iota k n)[j]? =some (k+(j:Int)) by simp[iota,b],sb,if_neg sy,n_ om om,sb,n_ om om,sb];congr 3;omega) (by
  unfold iy;simp only
  rw[if_neg (by simp[ns])]) a d
 simp only[oT,show((0:Nat):Int)=0 from rfl] at this;unfold lw;rw[this,sb]
theorem nl(a:Nat)(LL:List (List Int))(k:Int)(p:tot LL<a)(n:0<=k)(h:k+tot LL<=4611686018427387904):eQ a (numbered k LL LL.length) k=some (k+(off LL LL.length:Nat)):=by
 have o:LL.length<=tot LL:=by unfold tot;omega
 have:=jz (f:=ik a (numbered k LL LL.length)) (λj=>(k+((off LL j:Nat):Int),(j:Int))) LL.length (k+((off LL LL.length:Nat):Int),(LL.length:Int)) (λj b=>by
  have e:=fX LL j om;have g:=fX LL (j+1) om;have i:=fP LL j b;have m:=qv LL j b;have d:(numbered k LL LL.length)[j]? =some (iota (k+(off LL j:Nat)) (LL.getD j []).length):=by simp[numbered,b]
  unfold ik;simp only
  rw[if_pos (by simp[ic];omega),aq,d,sb,BB a _ _ om om om,sb,if_neg (by simp;omega),n_ om om,sb];congr 3;omega) (by
  unfold ik;simp only
  rw[if_neg (by simp[ic])]) a om
 simp only[show off LL 0=0 by simp[off],oT,show((0:Nat):Int)=0 from rfl] at this;unfold eQ;rw[this,sb]
theorem zx(a:Nat)(ps:List c_)(k:Int)(u:szQ ps<a)(s:0<=k)(h:k+szQ ps<=4611686018427387904):kF a (numU k ps ps.length) k=some (k+(offQ ps ps.length:Nat)):=by
 have t:ps.length<=szQ ps:=by unfold szQ;omega
 have:=jz (f:=gK a (numU k ps ps.length)) (λj=>(k+((offQ ps j:Nat):Int),(j:Int))) ps.length (k+((offQ ps ps.length:Nat):Int),(ps.length:Int)) (λj d=>by
  have b:ps[j]? =some ps[j]:=x_ d;have o:=wE ps j _ b;have p:=ue ps j _ b;have q:cQ ps[j]<=szT ps[j]:=qM _;have e:=od k ps ps.length j _ b;rw[if_pos d] at e;have i:cQ ps[j]=2+(off (ps[j]).Nodes (ps[j]).Nodes.length+off (ps[j]).Edges (ps[j]).Edges.length):=rfl;have n:szT ps[j]=2+(tot (ps[j]).Nodes+tot (ps[j]).Edges):=rfl;have g:=fX (ps[j]).Nodes _ (K_ _);have m:=fX (ps[j]).Edges _ (K_ _);unfold gK;simp only
  rw[if_pos (by simp[lx];omega),aq,e,sb,if_neg (by simp[nP]),n_ om om,sb,sb,if_neg (by simp[nP]),n_ om om,sb,sb];unfold nP;simp only
  rw[nl a _ _ om om om,sb,if_neg (by simp;omega),sb,nl a _ _ om om om,sb,if_neg (by simp;omega),n_ om om,sb];congr 3;omega) (by
  unfold gK;simp only
  rw[if_neg (by simp[lx])]) a om
 simp only[show offQ ps 0=0 by simp[offQ],oT,show((0:Nat):Int)=0 from rfl] at this;unfold kF;rw[this,sb]
theorem uv{σ ρ:Type}{body:Int->σ->Option (Lp σ σ ρ)}(R:Nat->σ):∀(n k:Nat),(∀(j:Nat),j<n->body ((k+j:Nat):Int) (R (k+j))=some (.go (R (k+j+1))))->
  forN body n (k:Int) (R k)=some (.inl (R (k+n)))
 |0,k,h=>rfl
 |n+1,k,h=>by
  have a:=h 0 om;simp only[dd] at a;simp only[forN,a];rw[show((k:Int)+1)=((k+1:Nat):Int) by omega];rw[uv R n (k+1) (λj b=>by have:=h (j+1) om;rw[show k+(j+1)=k+1+j by omega] at this;exact this)];rw[show k+1+n=k+(n+1) by omega]
theorem Bi{σ ρ:Type}{body:Int->σ->Option (Lp σ σ ρ)}(R:Nat->σ)(n:Nat)(h:∀(j:Nat),j<n->body (j:Int) (R j)=some (.go (R (j+1)))):
  forN body n 0 (R 0)=some (.inl (R n)):=by
 have:=uv R n 0 (λj a=>by rw[an];exact h j a);rw[an] at this;exact this
theorem sO(n:Nat)(m:n<=1000000):iK (n:Int)=some ((List.range n).map λa:Nat=>(a:Int)):=by
 unfold iK mk;rw[if_pos om,sb,n_ (by simp only[cd,U_];omega) (by simp only[cd,U_];omega),sb];have k:List.replicate ((n:Int)).toNat (Rz.z:Int)=(List.range n).map λa:Nat=>if a<0 then(a:Int) else 0:=by
  refine dr sy λi f g=>?_;simp;rfl
 have:=Bi (body:=kD) (λj=>(List.range n).map λa:Nat=>if a<j then(a:Int) else 0) n (λj b=>by
  unfold kD;rw[bM _ _ (su b),sb,cC _ _ _ (su b),sb];congr 2;refine dr sy λi f g=>?_;simp only[FM,FN,FO];by_cases e:j=i
  ·subst e;simp
  ·rw[if_neg e];by_cases h:i<j
   ·rw[if_pos h,if_pos om]
   ·rw[if_neg h,if_neg om])
 rw[k];simp only[aA,Gx,U_];rw[this,sb];simp only
 congr 1;refine jX λa d=>?_;rw[if_pos (aS.1 d)]
instance:Rz Qv:=⟨⟨[.int .i64 0,.int .i64 0,.slice none 0 0,.slice none 0 0]⟩,[.int .i64 0,.int .i64 0,.slice none 0 0,.slice none 0 0],λo w=>Qv.ok (o:=o) (w:=w) rfl rfl⟩
def OwL(lo hi:Nat)(w:World)(v:Value)(ps:List c_):Prop:=∃T:Nat->Nat,OwQT T w v ps∧∀b,T b≠0->lo<=b∧b<hi
section
structure ChS (S:Nat->Prop) (w w':World):Prop where
  os:w'.os=w.os
  tape:w'.tape=w.tape
  output:w'.output=w.output
  size:w.heap.size<=w'.heap.size
  block:∀k,k<w.heap.size->¬S k->w'.heap[k]? =w.heap[k]?
section
variable {S S':Nat->Prop} {w w' w'':World} {v:Value} {LL:List (List Int)} {T:Nat->Nat} {ps:List c_} {lo hi B C:Nat} {x:ae}
theorem ChS.refl(S:Nat->Prop)(w:World):ChS S w w:=⟨rfl,rfl,rfl,K_ _,λ_ _ _=>rfl⟩
theorem ChS.trans(h:ChS S w w')(k:ChS S w' w''):ChS S w w'':=
 ⟨k.os.trans h.os,k.tape.trans h.tape,k.output.trans h.output,aH h.size k.size,λi hi a=>(k.block i (bh hi h.size) a).trans (h.block i hi a)⟩
theorem ChS.mono(h:ChS S w w')(d:∀b,S b->S' b):ChS S' w w':=⟨h.os,h.tape,h.output,h.size,λk f a=>h.block k f λe=>a (d k e)⟩
theorem ChS.of_grown{r:Option Nat}(h:w.grownBy w' r)(b:∀k,r=some k->S k):ChS S w w':=⟨h.os,h.tape,h.output,h.size,λk d a=>h.block k d λe=>a (b k e.symm)⟩
theorem ChS.chg(h:ChS S w w')(d:∀b,S b->B<=b∧b<C):Chg B C w w':=⟨h.os,h.tape,h.output,h.size,λk f a=>h.block k f λe=>a (d k e)⟩
theorem Chg.chS(h:Chg B C w w'):ChS (λb=>B<=b∧b<C) w w':=⟨h.os,h.tape,h.output,h.size,h.block⟩
theorem Keeps.chS(h:Keeps w w')(S:Nat->Prop):ChS S w w':=⟨h.os,h.tape,h.output,h.size,λk a _=>h.block k a⟩
theorem nV{D:Nat}{e:TypeId}{size:Nat}{n:Nat}{xs:List Value}(h:w.ownsRow D e size v n xs)(c:ChS S w w')(i:∀k,v.ownBlock=some k->¬S k):w'.ownsRow D e size v n xs:=by
 obtain⟨f,b⟩:=h;refine⟨f,?_⟩;rcases b with b|⟨g,cap,a,rfl,j,d,r⟩
 ·exact .inl b
 ·exact .inr ⟨g,cap,a,rfl,j,by rw[c.block g (ct.1 d).1 (i g rfl)];exact d,r⟩
theorem OwS.chS(h:OwS S w v LL)(c:ChS S' w w')(f:∀b,S b->¬S' b):OwS S w' v LL:=by
 obtain⟨vs,h,d,e⟩:=h;exact⟨vs,⟨nV h.row c λk a=>f k (d k a),λi hi=>nV (h.own i hi) c λk a=>f k (e i hi k a),h.apart⟩,d,e⟩
theorem OwS.keep(h:OwS S w v LL)(k:Keeps w w'):OwS S w' v LL:=h.chS (k.chS λ_=>False) λ_ _ h=>h
theorem OwS.rows(h:OwS S w v LL):IntRows w v LL:=by obtain⟨vs,h,_⟩:=h;exact h.rows
theorem OwQT.chS(h:OwQT T w v ps)(c:ChS S w w')(d:∀b,T b=1∨4<=T b->¬S b):OwQT T w' v ps:=by
 obtain⟨css,t,s,f,q⟩:=h;refine⟨css,t,nV s c λk u=>d k (.inl (f k u)),f,λi cs p a b=>?_⟩;obtain⟨m,j,e,g,o⟩:=q i cs p a b;exact⟨m,j,e,g.chS c λb n=>d b om,o.chS c λb n=>d b om⟩
theorem OwQT.keep(h:OwQT T w v ps)(k:Keeps w w'):OwQT T w' v ps:=h.chS (k.chS λ_=>False) λ_ _ h=>h
theorem OwQT.ow(h:OwQT T w v ps):Ow 0 31 0 zt w v ps:=by
 obtain⟨css,o,k,q,n⟩:=h;refine⟨css,o,k,λg _=>rfl,λi cs p a b=>?_⟩;obtain⟨d,m,e,f,j⟩:=n i cs p a b;exact⟨d,m,e,f.rows.rdl,j.rows.rdl⟩
theorem OwL.chg(h:OwL lo hi w v ps)(c:Chg B C w w')(f:hi<=B∨C<=lo):OwL lo hi w' v ps:=by
 obtain⟨T,d,a⟩:=h;exact⟨T,d.chS c.chS λb e=>by have:=a b om;omega,a⟩
theorem OwB.keep(h:OwB lo hi w v x)(k:Keeps w w'):OwB lo hi w' v x:=by
 obtain⟨T,d,j,f,e,b,g,i,a⟩:=h;exact⟨T,d,j,f,e,b.keep k,g.keep k,i.keep k,a⟩
theorem OwB.chg(h:OwB lo hi w v x)(c:Chg B C w w')(n:hi<=B∨C<=lo):OwB lo hi w' v x:=by
 obtain⟨T,g,m,i,e,f,j,k,a⟩:=h;exact⟨T,g,m,i,e,f.chS c.chS λb d=>by have:=a b om;omega,j.chS c.chS λb d=>by have:=a b om;omega,k.chS c.chS λb d=>by have:=a b om;omega,a⟩
end
set_option maxHeartbeats 800000 in
theorem nk(S:Nat->Prop)(v:Value)(LL:List (List Int))(k:Int)(w:World)(h:OwS S w v LL)(hk:0<=k)(hk2:k+tot LL<=4611686018427387904):
  Calls Gy 27 #[v,.int .i64 k] w λe w'=>e=.returned (.int .i64 (k+off LL LL.length))∧OwS S w' v (numbered k LL LL.length)∧ChS S w w':=by
 obtain⟨vs,hM0,hC1,hC2⟩:=h;have HM0:=p_ hM0;have HC1:=p_ hC1;have HC2:=p_ hC2;obtain⟨a,c,rfl,hm,_⟩:=hM0.rows.form;clear hM0 hC1 hC2;have HO:=p_ (fX LL);have HOS:=p_ (fP LL);go_enter Tryz.func27,Tryz.ntmps27;go_wp2;go_loopw [1,5] (λx i wr=>∃j:Nat,j<=LL.length∧i=.int .i64 j∧x=.int .i64 (k+off LL j)∧MatIn 0 wr (.slice a LL.length c) vs (numbered k LL j)∧ChS S w wr) (λ_ i _=>LL.length-(intOf i).toNat);case atStart=>exact⟨0,bj _,rfl,by simp[off],by rw[sg];exact HM0.out,ChS.refl _ _⟩
 case round=>
  obtain⟨j,hj,rfl,rfl,hM,hG⟩:=hrel;have HM:=p_ hM;have HG:=p_ hG;clear hM hG;by_cases hlt:j<LL.length
  ·have hjl:j<(numbered k LL j).length:=by rw[ic];exact hlt
   obtain⟨g,cap,hv,hcell⟩:=HM.out.form om;simp only[Value.slice.injEq] at hv;obtain⟨rfl,-,rfl⟩:=hv;obtain⟨c1,c2⟩:=hcell j hjl;clear hcell;have hO:=HM.out.own j hjl;rw[sq k LL j j hlt,if_neg (yd _)] at hO;have HOW:=p_ hO;have b1:=HO.out (j+1) om;have b2:=HOS.out j hlt;have HX:=p_ (HC2.out j hlt);have HW:Hid (∀w' l,wr.grownBy w' (vs.getD j undef).ownBlock->Own 0 w' (vs.getD j undef) l->MatIn 0 w' (.slice (some ⟨g,0,none⟩) LL.length c) vs ((numbered k LL j).set j l)):=λw' l hg ho=>HM.out.wrote hjl hg ho;clear hO;generalize vs.getD j undef=u at c1 HOW HX HW;have hb:k+(off LL j:Int)+((LL.getD j []).length:Int)<=4611686018427387904:=om;have B2:=p_ b2;clear b2;have HNS:=p_ (sn k LL j hlt);generalize LL.getD j []=r at HOW B2 hb HNS;go_wp2_with fail;refine (sH 0 _ _ _ _ HOW.out om hb).mono ?_;rintro e w2 ⟨rfl,hO2,hG2⟩;have HN:=p_ (HW.out w2 _ hG2 hO2);have HGN:Hid (ChS S w w2):=HG.out.trans (ChS.of_grown hG2 λq hq=>HX.out q hq);clear hO2 hG2;go_wp2;go_roundw;case rel=>exact⟨j+1,om,by go_num,by rw[B2.out];congr 1;omega,by rw[HNS.out];exact HN.out,HGN.out⟩
   case measure=>simp[intOf];omega
  ·go_wp2;go_ret;have he:j=LL.length:=om;subst he;exact⟨rfl,⟨vs,HM.out,HC1.out,λi hi=>HC2.out i (by rw[ic] at hi;exact hi)⟩,HG.out⟩
theorem OwQT.elem{T:Nat->Nat}{w:World}{Z:Option Addr}{n c0:Nat}{ps:List c_}(h:OwQT T w (.slice Z n c0) ps){j:Nat}{p:c_}(hp:ps[j]? =some p):
  ∃g o m,Z=some ⟨g,0,none⟩∧n=ps.length∧Cells w g (j*4) [.int .i64 p.Labels,.int .i64 p.Degree,o,m]∧(∀i,w.frozen? ⟨g,i,none⟩=false)∧g<w.heap.size∧T g=1∧OwS (λb=>T b=4+2*j) w o p.Nodes∧OwS (λb=>T b=5+2*j) w m p.Edges∧
   ∀L D N E w',ChS (λb=>4<=T b∧(T b=4+2*j∨T b=5+2*j)) ((w.setCell ⟨g,j*4,none⟩ (.int .i64 L)).setCell ⟨g,j*4+1,none⟩ (.int .i64 D)) w'->OwS (λb=>T b=4+2*j) w' o N->OwS (λb=>T b=5+2*j) w' m E->
    OwQT T w' (.slice Z n c0) (ps.set j ⟨L,D,N,E⟩)∧ChS (λb=>T b=1∨4<=T b) w w':=by
 obtain⟨f,cs0,rfl,rfl,hc0,-⟩:=h.ow.at hp;obtain⟨css,h0,M,Q,h3⟩:=h;have hj:=(Y_.1 hp).1;have s:css[j]? =some (css[j]'om):=x_ om;obtain⟨o,m,e,hN,hE⟩:=h3 j _ p s hp;have d:∀cs∈css,cs.length=4:=λcs F=>by
  obtain⟨i,hi'⟩:=bS.1 F;have hlt:=(Y_.1 hi').1;obtain⟨a,b,e,-⟩:=h3 i cs _ hi' (x_ om);rw[e];rfl
 rw[e] at s;have hg:=World.ownsRow.lt M f rfl;have J:=Q f rfl;refine⟨f,o,m,rfl,rfl,λi u hu=>?_,λi=>World.ownsRow.frozenAt M i,hg.2,J,hN,hE,λL D N E w' K Y W=>?_⟩
 ·have R:i<4:=by have:=(Y_.1 hu).1;simpa using this
  have e2:=pF css 4 d s i R;rw[hu] at e2;have:=World.ownsRow.cellAt M (j*4+i) (show j*4+i<ps.length*4 by omega);rw[e2] at this;exact this
 ·obtain⟨s1,s2⟩:=World.ownsRow.stored M (j*4) (.int .i64 L);obtain⟨V,s4⟩:=World.ownsRow.stored s1 (j*4+1) (.int .i64 D);have f1:=uK css d s 0 dc (.int .i64 L);rw[dd] at f1;rw[f1] at V;have t:∀cs∈css.set j ([Value.int .i64 p.Labels,.int .i64 p.Degree,o,m].set 0 (.int .i64 L)),cs.length=4:=λcs F=>by
   rcases yr F with F|rfl
   ·exact d cs F
   ·rfl
  have f2:=uK (css.set j ([Value.int .i64 p.Labels,.int .i64 p.Degree,o,m].set 0 (.int .i64 L))) t (j:=j) (cs:=[Value.int .i64 L,.int .i64 p.Degree,o,m]) (by rw[db,if_pos rfl,if_pos om];rfl) 1 dc (.int .i64 D);rw[f2,List.set_set] at V;have U:ChS (λb=>b=f) w (w.setCell ⟨f,j*4,none⟩ (.int .i64 L)):=ChS.of_grown s2 λk I=>by cases I;rfl
  have X:ChS (λb=>b=f) (w.setCell ⟨f,j*4,none⟩ (.int .i64 L)) ((w.setCell ⟨f,j*4,none⟩ (.int .i64 L)).setCell ⟨f,j*4+1,none⟩ (.int .i64 D)):=ChS.of_grown s4 λk I=>by cases I;rfl
  have O:=U.trans X;refine⟨⟨_,(cG ..).trans (h0.trans (cG ..).symm),by rw[cG];exact nV V K λk I A=>by rw[Q k I] at A;omega,Q,λi cs q G H=>?_⟩,(O.mono λb y=>by rw[y];exact .inl J).trans (K.mono λb y=> .inr y.1)⟩;rw[db] at G H;by_cases ej:j=i
  ·subst ej;rw[if_pos rfl,if_pos hj] at H;rw[if_pos rfl,if_pos om] at G;cases G;cases H
   exact⟨o,m,rfl,Y,W⟩
  ·rw[if_neg ej] at G H;obtain⟨u2,u3,e',gN,gE⟩:=h3 i cs q G H;refine⟨u2,u3,e',(gN.chS O λb y A=>?_).chS K λb y A=>?_,(gE.chS O λb y A=>?_).chS K λb y A=>?_⟩
   ·rw[A,J] at y;omega
   ·omega
   ·rw[A,J] at y;omega
   ·omega
set_option maxHeartbeats 800000 in
theorem zC(T:Nat->Nat)(v:Value)(ps:List c_)(k:Int)(w:World)(h:OwQT T w v ps)(hk:0<=k)(hk2:k+szQ ps<=4611686018427387904):
  Calls Gy 28 #[v,.int .i64 k] w λe w'=>e=.returned (.int .i64 (k+offQ ps ps.length))∧OwQT T w' v (numU k ps ps.length)∧ChS (λb=>T b=1∨4<=T b) w w':=by
 obtain⟨a0,c0,e0,hm,-⟩:∃a c,v=.slice a ps.length c∧ps.length<=9223372036854775807∧True:=by
  obtain⟨a,c,h1⟩:=h.ow.form;exact⟨a,c,h1,h.ow.len_le,trivial⟩
 subst e0;have HM0:=p_ h;clear h;have HO:=p_ (oq ps);have HOS:=p_ (ue ps);go_enter Tryz.func28,Tryz.ntmps28;go_wp2;go_loopw [1,5] (λx i wr=>∃j:Nat,j<=ps.length∧i=.int .i64 j∧x=.int .i64 (k+offQ ps j)∧OwQT T wr (.slice a0 ps.length c0) (numU k ps j)∧ChS (λb=>T b=1∨4<=T b) w wr) (λ_ i _=>ps.length-(intOf i).toNat);case atStart=>exact⟨0,bj _,rfl,by simp[offQ],by rw[Cg];exact HM0.out,ChS.refl _ _⟩
 case round=>
  obtain⟨j,hj,rfl,rfl,hM,hG⟩:=hrel;have HG:=p_ hG;clear hG;by_cases hlt:j<ps.length
  ·have hp:ps[j]? =some ps[j]:=x_ hlt;have hp':=od k ps j j ps[j] hp;rw[if_neg (yd _)] at hp';obtain⟨g,v2,v3,rfl,-,hcs,hfr,hgs,hTg,hN,hE,hcl⟩:=hM.elem hp';have b1:=HO.out (j+1);have b2:=HOS.out j _ hp;have HNS:=p_ (BO k ps j _ hp);have HCL:=p_ hcl;have HN:=p_ hN;have HE:=p_ hE;have HT:=p_ hTg;obtain⟨x2,y2,rfl,hl2,-⟩:=hN.rows.form;obtain⟨x3,y3,rfl,hl3,-⟩:=hE.rows.form;have c1:wr.cell? ⟨g,j*4,none⟩=some (.int .i64 (ps[j]).Labels):=hcs 0 _ rfl;have c2:wr.cell? ⟨g,j*4+1,none⟩=some (.int .i64 (ps[j]).Degree):=hcs 1 _ rfl;have c3:wr.cell? ⟨g,j*4+2,none⟩=some (.slice x2 (ps[j]).Nodes.length y2):=hcs 2 _ rfl;have c4:wr.cell? ⟨g,j*4+3,none⟩=some (.slice x3 (ps[j]).Edges.length y3):=hcs 3 _ rfl;have B2:=p_ b2;have hcq:Hid (cQ ps[j]=2+(off (ps[j]).Nodes (ps[j]).Nodes.length+off (ps[j]).Edges (ps[j]).Edges.length)):=rfl;have hbd:k+(offQ ps j:Int)+2+(tot (ps[j]).Nodes:Int)+(tot (ps[j]).Edges:Int)<=4611686018427387904:=by
    have:=wE ps j _ hp;unfold szT at this;omega
   clear hM hcl hN hE hcs hp hp' b1 b2 hTg;generalize ps[j]=p at*
   obtain⟨L,D,N,E⟩:=p;simp only at*
   go_wp2_with fail;have cW:((wr.setCell ⟨g,j*4,none⟩ (.int .i64 (k+(offQ ps j:Nat)))).setCell ⟨g,j*4+1,none⟩ (.int .i64 (k+(offQ ps j:Nat)+1))).cell? ⟨g,j*4+3,none⟩=some (.slice x3 E.length y3):=by
    rw[fl _ _ _ _ (by intro h;injection h with h1 h2;omega),fl _ _ _ _ (by intro h;injection h with h1 h2;omega),c4]
   have hz:((wr.setCell ⟨g,j*4,none⟩ (.int .i64 (k+(offQ ps j:Nat)))).setCell ⟨g,j*4+1,none⟩ (.int .i64 (k+(offQ ps j:Nat)+1))).heap.size=wr.heap.size:=by simp only[eb]
   have CS1:=p_ ((Chg.set (w:=wr) (g:=g) (i:=j*4) (u:=.int .i64 (k+(offQ ps j:Nat)))).trans (Chg.set (i:=j*4+1) (u:=.int .i64 (k+(offQ ps j:Nat)+1)))).chS;have HN2:=p_ (HN.out.chS CS1.out λb hb hh=>by rw[show b=g by omega,HT.out] at hb;omega);have HE2:=p_ (HE.out.chS CS1.out λb hb hh=>by rw[show b=g by omega,HT.out] at hb;omega);have HCL2:=p_ (HCL.out (k+(offQ ps j:Nat)) (k+(offQ ps j:Nat)+1));clear HN HE HCL c1 c2 c3 c4 hfr CS1;generalize (wr.setCell ⟨g,j*4,none⟩ (.int .i64 (k+(offQ ps j:Nat)))).setCell ⟨g,j*4+1,none⟩ (.int .i64 (k+(offQ ps j:Nat)+1))=W2 at cW hz HN2 HE2 HCL2 ⊢;have hoN:off N N.length<=tot N:=by unfold tot;omega
   have hoE:off E E.length<=tot E:=by unfold tot;omega
   refine (nk _ _ N _ _ HN2.out om om).mono ?_;rintro e W3 ⟨rfl,hO,hG3⟩;have HE3:=p_ (HE2.out.chS hG3 λb hb hh=>om);have cW3:W3.cell? ⟨g,j*4+3,none⟩=some (.slice x3 E.length y3):=(aY (a:=⟨g,j*4+3,none⟩) (hG3.block g om (by rw[HT.out];omega))).trans cW;have HO3:=p_ hO;have HG3:=p_ hG3;clear hO hG3 HN2 HE2 cW;go_wp2_with fail;refine (nk _ _ E _ _ HE3.out om om).mono ?_;rintro e W4 ⟨rfl,hO,hG4⟩;have HO4:=p_ (HO3.out.chS hG4 λb hb hh=>om);have HR:=p_ (HCL2.out _ _ W4 ((HG3.out.mono λb hb=>⟨om,.inl hb⟩).trans (hG4.mono λb hb=>⟨om,.inr hb⟩)) HO4.out hO);clear hO hG4 HO4 HO3 HE3 HG3 HCL2;go_wp2;go_roundw;case rel=>exact⟨j+1,om,by go_num,by rw[B2.out,hcq.out];congr 1;omega,by rw[HNS.out];exact HR.out.1,HG.out.trans HR.out.2⟩
   case measure=>simp[intOf];omega
  ·go_wp2;go_ret;have he:j=ps.length:=om;subst he;exact⟨rfl,hM,HG.out⟩
end
theorem OwB.mono{lo hi lo' hi':Nat}{w:World}{v:Value}{x:ae}(h:OwB lo hi w v x)(f:lo'<=lo)(f:hi<=hi'):OwB lo' hi' w v x:=by
 obtain⟨T,f,g,i,e,a,b,c,d⟩:=h;exact⟨T,f,g,i,e,a,b,c,λb hb=>by have:=d b hb;omega⟩
theorem OwB.stp{lo hi t:Nat}{o a:Tg}{w w':World}{v:Value}{x:ae}(h:OwB lo hi w v x)(s:Stp t o w a w')(hd:∀b,lo<=b->b<hi->o b≠t):OwB lo hi w' v x:=by
 obtain⟨T,d,f,i,e,j,k,m,a⟩:=h;have c:ChS (λb=>o b=t) w w':=⟨s.os,s.tape,s.output,s.size,s.block⟩;have g:∀b,T b≠0->¬o b=t:=λb hb=>hd b (a b hb).1 (a b hb).2;exact⟨T,d,f,i,e,j.chS c λb hb=>g b om,k.chS c λb hb=>g b om,m.chS c λb hb=>g b om,a⟩
theorem OwB.form{lo hi:Nat}{w:World}{c:List Value}{x:ae}(h:OwB lo hi w (.agg c.toArray) x):∃b k d f m g i n j,c=[.slice b k d,.slice f m g,.slice i n j]:=by
 obtain⟨T,k,k,k,e,k,m,n,q⟩:=h;obtain⟨b,d,rfl⟩:=k.ow.form;obtain⟨f,g,rfl⟩:=m.rows.rdl.form;obtain⟨i,j,rfl⟩:=n.rows.rdl.form;have e':=congrArg (λv=>match v with| .agg a=>a.toList|_=>[]) e;exact⟨b,_,d,f,_,g,i,_,j,by simpa using e'⟩
theorem ry:(Gy.info? 28).map (·.size)=some 3:=by kernel_rfl
def gU(b:Nat)(c:Int):(List c_)->Option (Lo (List c_) (ae×Bool)):=λs=>if decide ((s.length:Int)<=c) then(ck ((s.length:Int)-1))>>=λd=>(ix s d)>>=λf=>(kH b f)>>=λa=>if !a.2 then some (.out s) else(push s a.1)>>=λg=>some (.go g) else some (.out s)
def fw(a:Nat):(List c_)->Option (Lo (List c_) (ae×Bool)):=λs=>if decide ((s.length:Int)>0) then(ck ((s.length:Int)-1))>>=λb=>(ix s b)>>=λc=>(hX a c)>>=λd=>if d.2 then some (.out s) else(ck ((s.length:Int)-1))>>=λf=>(cut s 0 f)>>=λg=>some (.go g) else some (.out s)
def mU(a:Nat)(b:c_)(c:Int):Option (ae×Bool):=
  (dF a b)>>=λf=>
  (
    if !f then
      some true
    else
      (dl c 0 6)>>=λg=>
      some (!g))>>=λi=>
  if i then
    some ((⟨[],[],[]⟩:ae),false)
  else
    (loopF (gU a c) a ([b]:List c_))>>=λj=>
    match j with
    | .inl k=>
      (loopF (fw a) a k)>>=λm=>
      match m with
      | .inl n=>
        (kS a n)>>=λd=>
        some (d.1,d.2)
      | .inr _=>none
    | .inr _=>none
theorem zy(t:Nat)(w:World)(E:List Value)(m:c_)(v:Rp.rd zt w E m)(D:Int)(r:ae×Bool)(k:mU t m D=some r):
    Calls Gy 7 #[.agg E.toArray,.int .i64 D] w (ph w r):=by
 unfold mU at k;replace v:=Rp.col v;obtain⟨F,G,rfl,x,y⟩:=v;have d:Bs zt (col zt) w w:=Bs.start _ _;refine y_ (n:=65) (vs:=[.agg #[ZI m.Labels,ZI m.Degree,F,G],ZI D]) Tryz.func7 rfl rfl ?_;generalize col zt=o at*;refine Zq (Zo ?_);refine Z_ (o:=o) w.heap.size 11 d.keeps.size (cs:=[ZI m.Labels,ZI m.Degree,F,G]) rfl rfl ?_;intro H L J C I;obtain⟨x,y,d⟩:=ZS I (A3 x y d);refine Zo ?_;refine av (o:=H) w.heap.size 12 d.keeps.size (cs:=[.slice none 0 0,.slice none 0 0,.slice none 0 0]) Tryz.zeroValue28 rfl ?_;intro H E A f v;obtain⟨x,y,C,d⟩:=ZS v (A4 x y C d);refine Za rfl (Zy (b_ (Zq (Zv (F_ rfl GF GC rfl C.cells) ?_))));obtain⟨v,I,k⟩:=a_ k;refine Zo ?_;refine j_ (fH t E _ m (⟨_,_,rfl,x.z,y.z⟩) v I) Tryz.call20 ⟨rfl,trivial⟩ ?_;rintro E I ⟨rfl,E⟩;have L:=E.stp 999 H;refine⟨_,rfl,?_⟩;obtain⟨x,y,C,f,d⟩:=ZS L (A5 x y C f d);refine Zv (ag rfl) (Zm rfl ?_);obtain⟨N,E,k⟩:=a_ k;refine bp 4 (λO L=>Fr O 65 [(1,ZI D),(2,ZP J),(4,ZP A),(18,.bool N)]∧Keeps I L) ?_ ?_;all_goals simp only[bi,bk,aR,aG]
 ·have kp:Keeps I I:=Keeps.refl _;rcases aw (!v) with v|v
  ·rw[if_pos v] at E;refine Zd v (Zd v (Zd v ?_));refine Zv (aj (Zb v) rfl) ?_;have J:=Zj E;refine Ze [(1,_),(2,_),(4,_),(18,_)] ?_;subst J;refine r_ (λa g=>⟨g,kp⟩)
  ·replace E:=ZF v E;refine m_ (d_ rfl) dc ⟨_,rfl,Zb v⟩ ?_;obtain⟨N,O,E⟩:=a_ E;refine az dc ⟨_,rfl,Zb v⟩ ?_;refine j_ (fN I D 0 6 N O) Tryz.call21 ⟨rfl,rfl,rfl,trivial⟩ ?_;rintro I I ⟨rfl,I⟩;have N:=I.stp 999 H;refine⟨_,rfl,?_⟩;replace kp:=Keeps.trans kp I;refine m_ (ag rfl) dc ⟨_,rfl,Zb v⟩ (Zv (aa (Zb v) rfl) ?_);have J:=Zj E;refine Ze [(1,_),(2,_),(4,_),(18,_)] ?_;subst J;refine r_ (λa g=>⟨g,kp⟩)
 rintro v L ⟨g,v⟩;have E:=v.stp 999 H;obtain⟨C,x,y,f,d⟩:=ZS E (A5 C x y f d);refine O_ g ?_;refine Zy ?_;refine Zi rfl k (λv k=>?_) (λv k=>?_)
 ·refine Zq (Zv (aK (vs:=[]) (cs:=[.slice none 0 0,.slice none 0 0,.slice none 0 0]) trivial kr) ?_);refine E_ trivial ?_;refine X_ f rfl rfl rfl ry (by intro c hc;simp only[I_,P_,or_false] at hc;rcases hc with rfl|rfl|rfl<;>first|rfl) ?_;intro v v E;replace d:=d.stp E;refine Za rfl (Zy (i_ (t_ ?_)));obtain rfl:=Zj k;refine J_ (P:=Gy) (vs:=[.agg #[.slice none 0 0,.slice none 0 0,.slice none 0 0],.bool false]) Lb ⟨⟨_,rfl,ay GQ GR rfl v.cells⟩,rfl,trivial⟩ ?_;exact⟨[.slice none 0 0,.slice none 0 0,.slice none 0 0],rfl,OwB.nil _ _ _,d.keeps⟩
 ·refine f_ (Zn (Zv (F_ rfl GF GC rfl C.cells) (Zo ?_)));refine dn w.heap.size 15 d.keeps.size (α:=c_) (o:=H) (cs:=[ZI m.Labels,ZI m.Degree,F,G]) (xs:=([m]:List c_)) (vs:=[(0,.agg #[ZI m.Labels,ZI m.Degree,F,G])]) ⟨[ZI m.Labels,ZI m.Degree,F,G],_,rfl,⟨_,_,rfl,x,y⟩,rfl⟩ rfl ⟨rfl,rfl,trivial⟩ GK GC GL dc (fillS 4 rfl rfl dc) sy ?_;intro y v C E v;obtain⟨f,d⟩:=ZS v (A2 f d);refine Za rfl (Zy ?_);obtain⟨x,F,k⟩:=a_ k;refine eY (λa v=>∃e l u,x=.inl e∧Fr a 65 [(4,ZP A),(6,l)]∧Bs zt u w v∧Oz w 31 15 u v l e∧Bz w 12 u v A 28 [.slice none 0 0,.slice none 0 0,.slice none 0 0]) (λ_ _=>False) ?_ ?_ ?_
  ·refine k_ ?_;refine B_ (λ(K:Nat) a v=>∃e l u,loopF (gU t D) K e=some x∧Fr a 65 [(1,ZI D),(4,ZP A),(6,l)]∧Bs zt u w v∧Oz w 31 15 u v l e∧Bz w 12 u v A 28 [.slice none 0 0,.slice none 0 0,.slice none 0 0]) t (λa g=>⟨([m]:List c_),C,y,F,g.sb,d,E,f⟩) ?_;rintro m a v ⟨e,l,u,x,g,d,i,f⟩;obtain⟨H,m,m,m,D⟩:=aC x;dsimp only[gU] at m;refine q_ g ?_;refine b_ (Zq (Zm rfl (Zv (aU rfl i GK) (Zm rfl (Zv (mo rfl rfl) (Zy ?_))))));refine Zi rfl m (λx m=>?_) (λx m=>?_)
   ·refine f_ (nx (k_ (Zq (Zm rfl (Zm rfl (Zv (aU rfl i GK) ?_))))));obtain⟨x,x,m⟩:=a_ m;refine Zv (aD rfl rfl x) ?_;obtain⟨y,x,m⟩:=a_ m;refine Zo ?_;refine ci i x rfl rfl GK GC ?_;intro x x x x C;obtain⟨E,E,rfl,E,F⟩:=C;refine Zv (F_ rfl GF GC rfl x) ?_;obtain⟨x,C,m⟩:=a_ m;refine Zo ?_;refine j_ (zA t v u 16 dc _ y (⟨_,_,rfl,E.z,F.z⟩) x C) Tryz.call22 ⟨rfl,trivial⟩ ?_;rintro y y ⟨y,G,rfl,I,y,C⟩;have J:=y.stp' 16 C;refine⟨_,rfl,?_⟩;obtain⟨E,F,rfl,y,C⟩:=I;obtain⟨i,f,d⟩:=ZS J (A3 i f d);refine Zm rfl (Zv (H_ rfl rfl) (Zv (H_ rfl rfl) (Zo ?_)));refine av (o:=G) w.heap.size 17 d.keeps.size (cs:=[ZI 0,ZI 0,.slice none 0 0,.slice none 0 0]) GL rfl ?_;intro G I I I J;obtain⟨i,y,C,f,d⟩:=ZS J (A5 i y C f d);refine E_ trivial ?_;refine X_ I rfl rfl rfl bu (by intro c hc;simp only[I_,P_,or_false] at hc;rcases hc with rfl|rfl|rfl|rfl<;>first|rfl|exact y.one1|exact C.one1) ?_;intro I I J;obtain⟨i,y,C,f,d⟩:=ZS J (A5 i y C f d);refine Za rfl (Zy (b_ (Zq (Zm rfl (Zv (ag rfl) (Zy ?_))))));refine Zi rfl m (λJ m=>?_) (λJ m=>?_)
    ·refine z_ ?_;refine g_ ?_;refine oi dc ?_;refine g_ (A_ ?_);refine r_ ?_;obtain rfl:=Zj m;refine Zk [(4,_),(6,_)] ?_;intro a g;exact⟨e,l,G,D,g,d,i,f⟩
    ·refine f_ (nx (h_ (Zm rfl (Zv (F_ rfl GF GC rfl I.cells) (Zo ?_)))));refine ap (α:=c_) (o:=G) (cs:=[ZI x.1.Labels,ZI x.1.Degree,E,F]) (xs:=([x.1]:List c_)) (vs:=[(0,.agg #[ZI x.1.Labels,ZI x.1.Degree,E,F])]) ⟨[ZI x.1.Labels,ZI x.1.Degree,E,F],_,rfl,⟨_,_,rfl,y,C⟩,rfl⟩ rfl ⟨rfl,rfl,trivial⟩ GK GC GL dc (fillS 4 rfl rfl dc) sy ?_;intro x x x x y C;obtain⟨i,f,d⟩:=ZS y (A3 i f d);obtain⟨y,C,m⟩:=a_ m;refine Zo ?_;refine am i x (au C) dc d.keeps.size rfl rfl GK rv rfl dc ?_;intro x C C E F;obtain⟨f,d⟩:=ZS F (A2 f d);refine Za rfl (Zf (w_ (v_ ?_)));obtain rfl:=Zj m;refine Zk [(1,_),(4,_),(6,_)] ?_;intro a g;exact⟨H,om,y,C,x,D,g,d,E,f⟩
   ·refine z_ ?_;refine g_ (g_ (A_ ?_));refine r_ ?_;obtain rfl:=Zj m;refine Zk [(4,_),(6,_)] ?_;intro a g;exact⟨e,l,u,D,g,d,i,f⟩
  ·rintro a v ⟨e,l,u,rfl,g,d,i,f⟩;dsimp only at k;refine q_ g ?_;have m:=i.frzF;replace i:=i.frz;replace f:=f.frz_ne (j:=15) dc;replace d:=d.frz 15 dc;generalize (frz 15 u)=Q at*;obtain⟨M,R,k⟩:=a_ k;refine eY (λa q=>∃p B s,M=.inl p∧Fr a 65 [(4,ZP A),(6,B)]∧Bs zt s w q∧RdL s q B p∧Bz w 12 s q A 28 [.slice none 0 0,.slice none 0 0,.slice none 0 0]) (λ_ _=>False) ?_ ?_ ?_
   ·refine k_ ?_;refine B_ (λ(K:Nat) a q=>∃p B s,loopF (fw t) K p=some M∧Fr a 65 [(4,ZP A),(6,B)]∧Bs zt s w q∧RdL s q B p∧Bz w 12 s q A 28 [.slice none 0 0,.slice none 0 0,.slice none 0 0]) t (λa g=>⟨e,l,Q,R,g.sb,d,i,f⟩) ?_;rintro i a q ⟨p,B,s,v,g,d,m,f⟩;obtain⟨x,i,i,i,u⟩:=aC v;dsimp only[fw] at i;refine q_ g ?_;refine b_ (Zq (Zm rfl (Zv (C_ rfl m GK) (Zv (bL rfl rfl) (Zy ?_)))));refine Zi rfl i (λv i=>?_) (λv i=>?_)
    ·refine f_ (nx (k_ (b_ (Zq (Zm rfl (Zm rfl (Zv (C_ rfl m GK) ?_)))))));obtain⟨v,v,i⟩:=a_ i;refine Zv (aD rfl rfl v) ?_;obtain⟨v,y,i⟩:=a_ i;refine Zo ?_;refine bR m y rfl rfl GK GC ?_;intro y y y y e;obtain⟨l,l,rfl,l,A⟩:=e;refine Zv (F_ rfl GF GC rfl y) ?_;obtain⟨y,e,i⟩:=a_ i;refine Zo ?_;refine j_ (rN t q s 18 dc _ v (⟨_,_,rfl,l.z,A.z⟩) y e) Tryz.call23 ⟨rfl,trivial⟩ ?_;rintro v v ⟨v,v,v,rfl,y,y,y,e⟩;have l:=y.stp' 18 e;refine⟨_,rfl,?_⟩;obtain⟨m,f,d⟩:=ZS l (A3 m f d);refine Zm rfl (Zv (H_ rfl rfl) (Zv (H_ rfl rfl) (Za rfl (Za rfl (Ze [(4,_),(6,_),(10,_)] (Zn (Zm rfl (Zy ?_))))))));refine Zi rfl i (λy i=>?_) (λy i=>?_)
     ·refine z_ ?_;refine g_ ?_;refine oi dc ?_;refine g_ (A_ ?_);refine r_ ?_;obtain rfl:=Zj i;refine Zk [(4,_),(6,_)] ?_;intro a g;exact⟨p,B,v,u,g,d,m,f⟩
     ·refine f_ (nx (h_ (Zm rfl (Zm rfl (Zv (C_ rfl m GK) ?_)))));obtain⟨y,y,i⟩:=a_ i;refine Zv (aD rfl rfl y) ?_;obtain⟨y,e,i⟩:=a_ i;refine Zo ?_;refine jJ m e rfl rfl rfl GK GC ?_;intro e l;refine Za rfl (Zf (w_ (v_ ?_)));obtain rfl:=Zj i;refine Zk [(4,_),(6,_)] ?_;intro a g;exact⟨x,om,y,e,v,u,g,d,l,f⟩
    ·refine z_ ?_;refine g_ (g_ (A_ ?_));refine r_ ?_;obtain rfl:=Zj i;refine Zk [(4,_),(6,_)] ?_;intro a g;exact⟨p,B,s,u,g,d,m,f⟩
   ·rintro a q ⟨p,B,s,rfl,g,d,m,f⟩;dsimp only at k;refine q_ g ?_;refine Zq (Zm rfl ?_);obtain⟨g,i,k⟩:=a_ k;refine Zo ?_;refine j_ (zP t q _ p m.z g i) Tryz.call24 ⟨rfl,trivial⟩ ?_;have A:=d.keeps.size;rintro i m ⟨i,rfl,hO,u⟩;obtain⟨v,i⟩:∃o,o=λb=>if b<q.heap.size then s b else 0:=⟨_,rfl⟩;have B:Stp 20 s q v m:=u.stp' 20 (λb hb=>by rw[i];exact if_pos hb);refine⟨_,rfl,?_⟩;obtain⟨m,u,v,x,y,e,l,p,t,rfl⟩:=hO.form;obtain⟨f,d⟩:=ZS B (A2 f d);refine Zv (H_ rfl rfl) (Zv (H_ rfl rfl) ?_);refine E_ trivial ?_;refine X_ f rfl rfl rfl ry (by intro c hc;simp only[I_,P_,or_false] at hc;rcases hc with rfl|rfl|rfl<;>rfl) ?_;intro f B f;replace hO:=hO.stp f (λb hb _=>by rw[i];show(if b<q.heap.size then s b else 0)≠12;rw[if_neg om];decide);replace d:=d.stp f;refine Za rfl (Zy (i_ ?_));obtain rfl:=Zj k;refine J_ (P:=Gy) (vs:=[.agg #[.slice m u v,.slice x y e,.slice l p t],.bool g.2]) Lb ⟨⟨_,rfl,ay GQ GR rfl B.cells⟩,rfl,trivial⟩ ?_;exact⟨[.slice m u v,.slice x y e,.slice l p t],rfl,hO.mono A (by exact f.size),d.keeps⟩
   ·exact λ_ _ h=>h.elim
  ·exact λ_ _ h=>h.elim
def lsK(n a:Nat):List Int:=((List.range n).filter (· !=a)).map λb:Nat=>(b:Int)
theorem xo{n a:Nat}(h:a<n):List.range n=List.range a++a::List.range' (a+1) (n-1-a):=by
 rw[jY,jY,show n=a+(n-a) by omega,<-List.range'_append_1,an,show a+(n-a)-1-a=n-1-a by omega,show n-a=(n-1-a)+1 by omega,mC]
theorem wD{n a:Nat}(h:a<n):lsK n a=(List.range a++List.range' (a+1) (n-1-a)).map λb:Nat=>(b:Int):=by
 unfold lsK;rw[xo h,ey,gd,if_neg sy,my.2 λb d=>by have:=aS.1 d;simp;omega,my.2 λb d=>by have:=rf.1 d;simp;omega]
theorem DZ{n a:Nat}(h:a<n):(lsK n a).length=n-1:=by rw[wD h];simp;omega
theorem Ey{n a:Nat}{y:Int}(h:y∈lsK n a):0<=y∧y<n:=by
 obtain⟨b,d,rfl⟩:=aM.1 h;have:=aS.1 (cF.1 d).1;omega
theorem EX(n a:Nat):(lsK n a).length<=n:=by
 unfold lsK;rw[aA];have:=gj (· !=a) (List.range n);rw[Gx] at this;exact this
theorem Fh{n a:Nat}(h:a<n):delO ((List.range n).map λb:Nat=>(b:Int)) a ((a:Int)+1)=some (lsK n a):=by
 unfold delO;rw[if_pos (by simp;omega),wD h,xo h,ew,ew,bd,U_,show((a:Int)+1).toNat=a+1 by omega,List.take_left' sy];congr 2;rw[show ∀(A:List Int) c B,A++c::B=(A++[c])++B by simp,List.drop_left' sy]
theorem EB(a:Nat)(g:1000<=a)(p:c_)(n:Nat)(d:p.Labels=n)(f:n<=8):loopF (gY p) a ([],0)=some (.inl ((List.range n).map λb:Nat=>(b:Int),(n:Int))):=
 jz (λj=>((List.range j).map λb:Nat=>(b:Int),(j:Int))) n _ (λj e=>by
  unfold gY push;simp only
  rw[if_pos (by simp;omega),if_pos (by simp;omega),sb,n_ om om,sb,gc,ew];rfl)
  (by unfold gY;simp only;rw[if_neg (by simp;omega)]) a om
theorem Fi(b:Nat)(i:1000<=b)(n a:Nat)(f:n<=8):loopF (hU a n) b ([],0)=some (.inl (lsK n a,(n:Int))):=
 jz (λj=>(lsK j a,(j:Int))) n _ (λj d=>by
  have g:=EX j a;unfold hU;simp only
  rw[if_pos (by simp;omega),n_ om om];have e:lsK (j+1) a=lsK j a++if j=a then [] else [(j:Int)]:=by
   unfold lsK;rw[gc,ey,ew,gd,oS];by_cases h:j=a<;>simp[h]
  rw[e];by_cases h:j=a
  ·rw[if_neg (sh h),if_pos h,sb,bm];rfl
  ·rw[if_pos (by simp;omega),if_neg h];unfold push;rw[if_pos om,sb,sb];rfl)
  (by unfold hU;simp only;rw[if_neg sy]) b om
def dwN:Nat->c_->c_
  |0,p=>p
  |k+1,p=>match weakO p with|none=>p|some a=>dwN k (keepP p (lsK p.Labels.toNat a))
theorem lP{p:c_}{a:Nat}(h:weakO p=some a):a<p.Labels.toNat∧2<=p.Labels.toNat:=by
 unfold weakO at h;have g:=aS.1 (List.mem_of_find?_eq_some h);have f:=List.find?_some h;obtain⟨b,e,d⟩:=xU.1 f;have e:=aS.1 e;unfold weakAt at d;have:a≠b:=by
  rintro rfl;simp at d
 omega
theorem keep1{p:c_}(d:okT p){a:Nat}(h:weakO p=some a):okT (keepP p (lsK p.Labels.toNat a))∧(keepP p (lsK p.Labels.toNat a)).Labels=((p.Labels.toNat-1:Nat):Int)∧(∀y∈lsK p.Labels.toNat a,0<=y∧y<p.Labels)∧(lsK p.Labels.toNat a).length=p.Labels.toNat-1:=by
 obtain⟨i,j,-⟩:=aN d.1;obtain⟨f,k⟩:=lP h;have e:=DZ f;have b:∀y∈lsK p.Labels.toNat a,0<=y∧y<p.Labels:=λy g=>by have:=Ey g;omega
 exact⟨CQ d b om om,by show((lsK p.Labels.toNat a).length:Int)=_;rw[e],b,e⟩
theorem qD:∀(k:Nat){p:c_},okT p->okT (dwN k p)∧(dwN k p).Degree=p.Degree
 |0,p,h=>⟨h,rfl⟩
 | k+1,p,h=>by
  unfold dwN;cases f:weakO p with
  |none=>exact⟨h,rfl⟩
  |some a=>
   obtain⟨e,-⟩:=keep1 h f;obtain⟨d,b⟩:=qD k e;exact⟨d,b⟩
theorem tF{p:c_}{a:Nat}(h:weakO p=some a):weakV p=a:=by unfold weakV;rw[h]
theorem nu{p:c_}(h:weakO p=none):weakV p= -1:=by unfold weakV;rw[h]
theorem xk(k:Nat){p:c_}(h:weakO p=none):dwN k p=p:=by
 cases k with
 |zero=>rfl
 |succ k=>unfold dwN;rw[h]
theorem Di(g:Nat)(v:1000000000<=g):∀(k:Nat)(p:c_)(left:List Int)(b:Nat),okT p->p.Labels.toNat<=k+1->left.length=p.Labels.toNat->k<b->
  ∃d,loopF (eI g) b (left,weakV p,p.Labels,p.Degree,p.Nodes,p.Edges)=some (.inl (d,-1,(dwN k p).Labels,(dwN k p).Degree,(dwN k p).Nodes,(dwN k p).Edges)):=by
 intro k
 induction k with
 | zero=>
  intro p left b h u i j;obtain⟨m,rfl⟩:∃m,b=m+1:=⟨b-1,om⟩;cases e:weakO p with
  |some a=>have:=(lP e).2;omega
  |none=>
   refine⟨left,?_⟩;rw[nu e,dL (t:=(left,-1,p.Labels,p.Degree,p.Nodes,p.Edges)) (by unfold eI;rw[if_neg sy])];rfl
 | succ k ih=>
  intro p left b h u i j;obtain⟨m,rfl⟩:∃m,b=m+1:=⟨b-1,om⟩;obtain⟨w,A,-⟩:=aN h.1;cases e:weakO p with
  |none=>
   refine⟨left,?_⟩;rw[nu e,xk _ e,dL (t:=(left,-1,p.Labels,p.Degree,p.Nodes,p.Edges)) (by unfold eI;rw[if_neg sy])]
  | some a=>
   obtain⟨o,y,q,B⟩:=keep1 h e;obtain⟨s,C⟩:=lP e;have n:eI g (left,weakV p,p.Labels,p.Degree,p.Nodes,p.Edges)=some (.go (left.take a++left.drop (a+1),weakV (keepP p (lsK p.Labels.toNat a)),(keepP p (lsK p.Labels.toNat a)).Labels,(keepP p (lsK p.Labels.toNat a)).Degree,(keepP p (lsK p.Labels.toNat a)).Nodes,(keepP p (lsK p.Labels.toNat a)).Edges)):=by
    unfold eI;simp only
    have x:delO left a ((a:Int)+1)=some (left.take a++left.drop (a+1)):=by
     unfold delO;rw[if_pos om,U_,show((a:Int)+1).toNat=a+1 by omega]
    have f:=sO p.Labels.toNat om;rw[show(p.Labels.toNat:Int)=p.Labels by omega] at f;rw[tF e,if_pos sy,f,sb,n_ om om,sb,Fh s,sb];rw[show(⟨p.Labels,p.Degree,p.Nodes,p.Edges⟩:c_)=p from rfl,At p h _ q,sb,sb,x,sb,un g v _ o,sb]
   obtain⟨d,hi⟩:=ih (keepP p (lsK p.Labels.toNat a)) (left.take a++left.drop (a+1)) m o om (by rw[ar,aX,T_];omega) om;refine⟨d,?_⟩;rw[jF n,hi,show dwN (k+1) p=dwN k (keepP p (lsK p.Labels.toNat a)) by rw[dwN,e]]
theorem DF(f:Nat)(q:1000000000<=f):∀(k:Nat)(p:c_)(left:List Int)(b:Nat),okT p->p.Labels.toNat<=k+1->left.length=p.Labels.toNat->k<b->
  ∃d,loopF (eH f) b (left,weakV p,p.Labels,p.Degree,p.Nodes,p.Edges)=some (.inl (d,-1,(dwN k p).Labels,(dwN k p).Degree,(dwN k p).Nodes,(dwN k p).Edges)):=by
 intro k
 induction k with
 | zero=>
  intro p left b h v i j;obtain⟨m,rfl⟩:∃m,b=m+1:=⟨b-1,om⟩;cases e:weakO p with
  |some a=>have:=(lP e).2;omega
  |none=>
   refine⟨left,?_⟩;rw[nu e,dL (t:=(left,-1,p.Labels,p.Degree,p.Nodes,p.Edges)) (by unfold eH;rw[if_neg sy])];rfl
 | succ k ih=>
  intro p left b h v i j;obtain⟨m,rfl⟩:∃m,b=m+1:=⟨b-1,om⟩;obtain⟨A,B,-⟩:=aN h.1;cases e:weakO p with
  |none=>
   refine⟨left,?_⟩;rw[nu e,xk _ e,dL (t:=(left,-1,p.Labels,p.Degree,p.Nodes,p.Edges)) (by unfold eH;rw[if_neg sy])]
  | some a=>
   obtain⟨s,x,o,C⟩:=keep1 h e;obtain⟨w,D⟩:=lP e;have n:eH f (left,weakV p,p.Labels,p.Degree,p.Nodes,p.Edges)=some (.go (imgL left (lsK p.Labels.toNat a),weakV (keepP p (lsK p.Labels.toNat a)),(keepP p (lsK p.Labels.toNat a)).Labels,(keepP p (lsK p.Labels.toNat a)).Degree,(keepP p (lsK p.Labels.toNat a)).Nodes,(keepP p (lsK p.Labels.toNat a)).Edges)):=by
    unfold eH;simp only
    have g:=Fi f om p.Labels.toNat a om;rw[show(p.Labels.toNat:Int)=p.Labels by omega] at g;rw[tF e,if_pos sy,g,sb];simp only
    rw[show(⟨p.Labels,p.Degree,p.Nodes,p.Edges⟩:c_)=p from rfl,DM f q p h _ o om,sb,(pn left (lsK p.Labels.toNat a) om (λy u=>by have:=o y u;omega) om).1,sb,vf f q _ s,sb]
   obtain⟨d,hi⟩:=ih (keepP p (lsK p.Labels.toNat a)) (imgL left (lsK p.Labels.toNat a)) m s om (by rw[lR];omega) om;refine⟨d,?_⟩;rw[jF n,hi,show dwN (k+1) p=dwN k (keepP p (lsK p.Labels.toNat a)) by rw[dwN,e]]
theorem DX(a:Nat)(f:1000000000<=a)(p:c_)(e:okT p):∃l,kO a p=some (dwN 8 p,l,true):=by
 obtain⟨h,k,-⟩:=aN e.1;have j:=e.2.1;have i:=e.2.2;obtain⟨l,g⟩:=Di a f 8 p ((List.range p.Labels.toNat).map λb:Nat=>(b:Int)) a e om sy om;refine⟨l,?_⟩;have d:=sO p.Labels.toNat om;rw[show(p.Labels.toNat:Int)=p.Labels by omega] at d;unfold kO;rw[ja a om p om om,sb,e.1,if_neg sy,sf p e,sb,d,sb,un a f p e,sb,g,sb]
theorem DY(a:Nat)(e:1000000000<=a)(p:c_)(d:okT p):∃l,kU a p=some (dwN 8 p,l,true):=by
 obtain⟨i,m,o,n,f,g⟩:=aN d.1;have k:=d.2.1;have j:=d.2.2;obtain⟨l,h⟩:=DF a e 8 p ((List.range p.Labels.toNat).map λb:Nat=>(b:Int)) a d om sy om;refine⟨l,?_⟩;unfold kU;rw[jD a om p om om,sb,d.1,if_neg sy,wm _ (jp f om om) om,sb,wm _ (jp g om om) om,sb,EB a om p p.Labels.toNat om om,sb];simp only
 rw[show(⟨p.Labels,p.Degree,p.Nodes,p.Edges⟩:c_)=p from rfl,vf a e p d,sb,h,sb]
noncomputable def nextV(p:c_):c_×Bool:=if(roundV p).2.2.2=true then(dwN 8 (roundV p).1,(lmapV (roundV p).1 (dwN 8 (roundV p).1)).2) else(⟨0,0,[],[]⟩,false)
theorem DK{p:c_}(g:okT p)(h:(nextV p).2=true):okT (nextV p).1∧(nextV p).1.Degree=p.Degree:=by
 unfold nextV at h ⊢;by_cases a:(roundV p).2.2.2=true
 ·rw[if_pos a] at h ⊢;obtain⟨f,d,j,i⟩:=sV p g.1 a;obtain⟨e,b⟩:=qD 8 (p:=(roundV p).1) ⟨f,d,j⟩;exact⟨e,b.trans i⟩
 ·rw[if_neg a] at h;cases h
theorem xC(a:Nat)(e:1000000000<=a)(p:c_)(b:okT p):lD a p=some (nextV p)∧kH a p=some (nextV p):=by
 unfold lD kH nextV;rw[rO a e p b.1 b.2.1 b.2.2,sb,ta a e p b.1 b.2.1 b.2.2,sb];cases h:(roundV p).2.2.2
 ·exact⟨rfl,rfl⟩
 ·have d:=b.next h;obtain⟨m,g⟩:=DY a e _ d;obtain⟨n,i⟩:=DX a e _ d;have f:=(qD 8 d).1;obtain⟨j,k⟩:=pz a e (roundV p).1 (dwN 8 (roundV p).1) d.2.1 d.2.2 f.2.1 f.2.2;rw[if_neg sy,g,sb,if_neg sy,if_pos rfl,if_neg sy,i,sb,if_neg sy];simp only
  rw[j,k];exact⟨rfl,rfl⟩
end Go.Proofs.YtpefhaamcihneaaGreat
