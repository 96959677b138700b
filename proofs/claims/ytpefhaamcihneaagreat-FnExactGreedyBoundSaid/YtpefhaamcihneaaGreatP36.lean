/- Part 36 of what this claim rests on (pack.py). -/
import Derived.Test.YtpefhaamcihneaaGreatP35
namespace Go.Proofs.YtpefhaamcihneaaGreat
open Tryz renaming prog→Gz, underlying28→GP, sizeOf26→GW, isAgg26→GZ, results8→Ig, sizeOf22→GI, isAgg22→GK, call26→Ie, results12→Ih, call30→If
set_option linter.unusedSimpArgs false
set_option linter.unusedVariables false
set_option maxRecDepth 100000
set_option maxHeartbeats 2000000
open Go.RowKit
noncomputable def grow:Nat->List c_->List c_
  |0,ps=>ps
  |k+1,ps=>if(nextV (ps.getD (ps.length-1) ⟨0,0,[],[]⟩)).2=true then grow k (ps++[(nextV (ps.getD (ps.length-1) ⟨0,0,[],[]⟩)).1]) else ps
def gI(D:Int)(ps:List c_):Prop:=(∀p∈ps,okT p∧p.Degree=D)∧1<=ps.length
theorem lastP{ps:List c_}(h:1<=ps.length):ix ps ((ps.length:Int)-1)=some (ps.getD (ps.length-1) ⟨0,0,[],[]⟩)∧ps.getD (ps.length-1) ⟨0,0,[],[]⟩∈ps:=by
 have a:ps[ps.length-1]? =some (ps[ps.length-1]'om):=x_ om;rw[getP a];exact⟨by rw[show((ps.length:Int)-1)=((ps.length-1:Nat):Int) by omega,aq,a],aV _⟩
theorem wz{D:Int}{ps:List c_}(h:gI D ps)(g:(nextV (ps.getD (ps.length-1) ⟨0,0,[],[]⟩)).2=true):gI D (ps++[(nextV (ps.getD (ps.length-1) ⟨0,0,[],[]⟩)).1]):=by
 obtain⟨e,b⟩:=h.1 _ (lastP h.2).2;obtain⟨f,d⟩:=DJ e g;refine⟨λp a=>?_,sy⟩;rcases bX.1 a with a|a
 ·exact h.1 p a
 ·rw[be] at a;subst a;exact⟨f,d.trans b⟩
theorem wx{D:Int}:∀(k:Nat)(ps:List c_),gI D ps->gI D (grow k ps)∧(grow k ps).length<=ps.length+k
 |0,ps,h=>⟨h,K_ _⟩
 |k+1,ps,h=>by
  unfold grow;split
  ·rename_i d;obtain⟨b,a⟩:=wx k _ (wz h d);refine⟨b,?_⟩;rw[ar,bn] at a;omega
  ·exact⟨h,om⟩
theorem xz{D:Int}{b:Int}(i:b<=6){body:List c_->Option (Lp (List c_) (List c_) (ae×Bool))}
  (e:∀ps,gI D ps->ps.length<=7->body ps=some (if(ps.length:Int)<=b∧(nextV (ps.getD (ps.length-1) ⟨0,0,[],[]⟩)).2=true then .go (ps++[(nextV (ps.getD (ps.length-1) ⟨0,0,[],[]⟩)).1]) else .out ps)):
  ∀(k:Nat)(ps:List c_)(a:Nat),gI D ps->(ps.length:Int)+k=b+1->k<a->loopF body a ps=some (.inl (grow k ps)):=by
 intro k
 induction k with
 |zero=>
  intro ps a h f g;obtain⟨m,rfl⟩:∃m,a=m+1:=⟨a-1,om⟩;rw[dK (t:=ps) (by rw[e ps h om,if_neg om])];rfl
 |succ k ih=>
  intro ps a h f g;obtain⟨m,rfl⟩:∃m,a=m+1:=⟨a-1,om⟩;by_cases d:(nextV (ps.getD (ps.length-1) ⟨0,0,[],[]⟩)).2=true
  ·rw[jB (s':=ps++[(nextV (ps.getD (ps.length-1) ⟨0,0,[],[]⟩)).1]) (by rw[e ps h om,if_pos ⟨om,d⟩]),ih _ m (wz h d) (by rw[ar,bn];omega) om];rw[show grow (k+1) ps=grow k (ps++[(nextV (ps.getD (ps.length-1) ⟨0,0,[],[]⟩)).1]) by rw[grow,if_pos d]]
  ·rw[dK (t:=ps) (by rw[e ps h om,if_neg λq=>d q.2]),show grow (k+1) ps=ps by rw[grow,if_neg d]]
theorem EZ(a:Nat)(i:1000000000<=a)(D b:Int)(ps:List c_)(h:gI D ps)(j:ps.length<=7):
  gR a b ps=some (if(ps.length:Int)<=b∧(nextV (ps.getD (ps.length-1) ⟨0,0,[],[]⟩)).2=true then .go (ps++[(nextV (ps.getD (ps.length-1) ⟨0,0,[],[]⟩)).1]) else .out ps):=by
 unfold gR;obtain⟨g,f⟩:=lastP h.2;by_cases e:(ps.length:Int)<=b
 ·rw[if_pos (su e),n_ om om,sb,g,sb,(xu a i _ (h.1 _ f).1).2,sb];by_cases d:(nextV (ps.getD (ps.length-1) ⟨0,0,[],[]⟩)).2=true
  ·rw[if_neg (by rw[d];simp),if_pos ⟨e,d⟩];unfold push;rw[if_pos om,sb]
  ·rw[if_pos (su d),if_neg λq=>d q.2]
 ·rw[if_neg (su e),if_neg λq=>e q.1]
theorem EO(a:Nat)(i:1000000000<=a)(D b:Int)(ps:List c_)(h:gI D ps)(j:ps.length<=7):
  gV a b ps=some (if(ps.length:Int)<=b∧(nextV (ps.getD (ps.length-1) ⟨0,0,[],[]⟩)).2=true then .go (ps++[(nextV (ps.getD (ps.length-1) ⟨0,0,[],[]⟩)).1]) else .out ps):=by
 unfold gV;obtain⟨g,f⟩:=lastP h.2;by_cases e:(ps.length:Int)<=b
 ·rw[if_pos (su e),n_ om om,sb,g,sb,(xu a i _ (h.1 _ f).1).1,sb];by_cases d:(nextV (ps.getD (ps.length-1) ⟨0,0,[],[]⟩)).2=true
  ·rw[if_neg (by rw[d];simp),if_pos ⟨e,d⟩];unfold push;rw[if_pos om,sb]
  ·rw[if_pos (su d),if_neg λq=>d q.2]
 ·rw[if_neg (su e),if_neg λq=>e q.1]
noncomputable def trimN(ps:List c_):Nat->Nat
  |0=>0
  |n+1=>if(refV (ps.getD n ⟨0,0,[],[]⟩)).2=true then n+1 else trimN ps n
theorem uX(ps:List c_):∀n,trimN ps n<=n
 |0=>K_ _
 |n+1=>by
  unfold trimN;split
  ·exact K_ _
  ·have:=uX ps n;omega
theorem uG{ps:List c_}{n:Nat}(h:n<ps.length):((ps.take (n+1)).length:Int)=n+1∧ix (ps.take (n+1)) (((ps.take (n+1)).length:Int)-1)=some (ps.getD n ⟨0,0,[],[]⟩)∧cut (ps.take (n+1)) 0 (((ps.take (n+1)).length:Int)-1)=some (ps.take n)∧ps.getD n ⟨0,0,[],[]⟩∈ps:=by
 have b:(ps.take (n+1)).length=n+1:=by rw[aX];omega
 have a:ps[n]? =some (ps[n]'h):=x_ h;rw[getP a,b,show(((n+1:Nat):Int)-1)=((n:Nat):Int) by omega];refine⟨om,by rw[aq,qW om,a],?_,aV _⟩;unfold cut;rw[if_pos (by rw[b];omega),U_,fZ,eq om];rfl
theorem Fc(b:Nat)(k:1000000000<=b)(ps:List c_)(e:∀p∈ps,okT p)(u:ps.length<=7):∀(n a:Nat),n<=ps.length->n<a->loopF (fw b) a (ps.take n)=some (.inl (ps.take (trimN ps n))):=by
 intro n
 induction n with
 |zero=>
  intro a j f;obtain⟨m,rfl⟩:∃m,a=m+1:=⟨a-1,om⟩;rw[dK (t:=ps.take 0) (by unfold fw;rw[if_neg sy])];rfl
 | succ n ih=>
  intro a j f;obtain⟨m,rfl⟩:∃m,a=m+1:=⟨a-1,om⟩;obtain⟨s,o,i,q⟩:=uG (ps:=ps) (n:=n) om;have g:=e _ q;have d:fw b (ps.take (n+1))=some (if(refV (ps.getD n ⟨0,0,[],[]⟩)).2=true then .out (ps.take (n+1)) else .go (ps.take n)):=by
   unfold fw;rw[if_pos (by simp only[decide_eq_true_eq];omega),n_ om om,sb,o,sb,xm b k _ g.2.1 g.2.2,sb];cases (refV (ps.getD n ⟨0,0,[],[]⟩)).2
   ·rw[if_neg sy,if_neg sy,sb,i,sb]
   ·rfl
  unfold trimN;by_cases h:(refV (ps.getD n ⟨0,0,[],[]⟩)).2=true
  ·rw[if_pos h] at d ⊢;rw[dK d]
  ·rw[if_neg h] at d ⊢;rw[jB d];exact ih m om om
theorem EQ(d:Nat)(i:1000000000<=d)(ps:List c_)(b:∀p∈ps,okT p)(v:ps.length<=7):∀(n a:Nat),n<=ps.length->n<a->
  loopF (fv d) a (ps.take n,[],[],[])=some (if trimN ps n=0 then .inl ([],[],[],[]) else .inr (bnd1 (ps.take (trimN ps n)))):=by
 intro n
 induction n with
 |zero=>
  intro a o f;obtain⟨m,rfl⟩:∃m,a=m+1:=⟨a-1,om⟩;rw[dK (t:=(ps.take 0,[],[],[])) (by unfold fv;rw[if_neg sy])];rfl
 | succ n ih=>
  intro a o f;obtain⟨m,rfl⟩:∃m,a=m+1:=⟨a-1,om⟩;obtain⟨u,q,j,s⟩:=uG (ps:=ps) (n:=n) om;have g:=b _ s;have e:fv d (ps.take (n+1),[],[],[])=some (if(refV (ps.getD n ⟨0,0,[],[]⟩)).2=true then .ret (bnd1 (ps.take (n+1))) else .go (ps.take n,[],[],[])):=by
   unfold fv;simp only
   rw[if_pos (by simp only[decide_eq_true_eq];omega),n_ om om,sb,q,sb,xo d i _ g.2.1 g.2.2,sb,CO d i (ps.take (n+1)) om om (λp k=>b p (jP k)),sb];cases (refV (ps.getD n ⟨0,0,[],[]⟩)).2
   ·rw[if_neg sy,if_neg sy,sb,j,sb]
   ·rfl
  unfold trimN;by_cases h:(refV (ps.getD n ⟨0,0,[],[]⟩)).2=true
  ·rw[if_pos h] at e ⊢;rw[uj e,if_neg om]
  ·rw[if_neg h] at e ⊢;rw[jB e];exact ih m om om
theorem Eg{D:Int}{ps:List c_}(h:gI D ps)(f:ps.length<=7):bokB ps=true:=by
 obtain⟨a,d⟩:=h;have e:(ps.getD 0 ⟨0,0,[],[]⟩).Degree=D:=by
  have g:ps[0]? =some (ps[0]'om):=x_ om;rw[getP g];exact(a _ (aV _)).2
 unfold bokB;simp only[aW,bE,beq_iff_eq,decide_eq_true_eq];exact⟨λp b=>⟨(a p b).1.1,(a p b).2.trans e.symm⟩,d,f⟩
noncomputable def grdL(p:c_)(most:Int):List c_:=(grow most.toNat [p]).take (trimN (grow most.toNat [p]) (grow most.toNat [p]).length)
noncomputable def grdV(p:c_)(most:Int):ae×Bool:=if probB p=true∧0<=most∧most<=6 then bndV (grdL p most) else(⟨[],[],[]⟩,false)
theorem qA{p:c_}{a:Int}(d:okT p)(g:0<=a)(h:a<=6):gI p.Degree (grow a.toNat [p])∧(grow a.toNat [p]).length<=7:=by
 obtain⟨e,b⟩:=wx (D:=p.Degree) a.toNat [p] ⟨λq f=>by rw[be.1 f];exact⟨d,rfl⟩,sy⟩;rw[bn] at b;exact⟨e,om⟩
theorem wj(p:c_)(d:Int):(!probB p|| !(decide (0<=d)&&decide (d<=6)))=true<->¬(probB p=true∧0<=d∧d<=6):=by
 by_cases a:probB p=true<;>by_cases b:0<=d<;>by_cases c:d<=6<;>simp[a,b,c]
theorem Ca(b:Nat)(j:1000000000<=b)(p:c_)(a:Int)(v:p.Nodes.length<=100000000)(t:p.Edges.length<=100000000):mU b p a=some (grdV p a):=by
 unfold mU grdV;rw[iX b om p om om,sb,fQ,sb];by_cases g:probB p=true∧0<=a∧a<=6
 ·obtain⟨i,k,f⟩:=g;have e:okT p:=⟨i,v,t⟩;obtain⟨m,o⟩:=qA e k f;have s:=xz (D:=p.Degree) f (body:=gR b a) (λps h u=>EZ b j p.Degree a ps h u) a.toNat [p] b ⟨λq d=>by rw[be.1 d];exact⟨e,rfl⟩,sy⟩ (by rw[bn];omega) om;have n:=Fc b j (grow a.toNat [p]) (λq d=>(m.1 q d).1) o (grow a.toNat [p]).length b (K_ _) om;rw[cc] at n;rw[if_pos (show probB p=true∧0<=a∧a<=6 from ⟨i,k,f⟩),i,if_neg sy,sb,decide_eq_true k,decide_eq_true f,if_neg sy,s,sb];simp only
  rw[n,sb];simp only
  rw[DP b j _ ⟨by rw[aX];omega,λq d=>(m.1 q (jP d)).1.2⟩,sb];rfl
 ·rw[if_neg g];have d:=(wj p a).2 g;cases x:probB p
  ·rfl
  ·rw[x] at d;rw[if_neg sy,sb,if_pos (su d)]
theorem CN(b:Nat)(o:1000000000<=b)(p:c_)(a:Int)(y:p.Nodes.length<=100000000)(v:p.Edges.length<=100000000):mV b p a=some (grdV p a):=by
 unfold mV grdV;rw[jC b om p om om,sb,mm,sb];by_cases g:probB p=true∧0<=a∧a<=6
 ·obtain⟨j,k,f⟩:=g;have e:okT p:=⟨j,y,v⟩;obtain⟨m,s⟩:=qA e k f;have t:=xz (D:=p.Degree) f (body:=gV b a) (λps h x=>EO b o p.Degree a ps h x) a.toNat [p] b ⟨λq d=>by rw[be.1 d];exact⟨e,rfl⟩,sy⟩ (by rw[bn];omega) om;have n:=EQ b o (grow a.toNat [p]) (λq d=>(m.1 q d).1) s (grow a.toNat [p]).length b (K_ _) om;rw[cc] at n;have u:=uX (grow a.toNat [p]) (grow a.toNat [p]).length;rw[if_pos (show probB p=true∧0<=a∧a<=6 from ⟨j,k,f⟩),j,if_neg sy,sb,decide_eq_true k,decide_eq_true f,if_neg sy,t,sb];simp only
  rw[n,sb];unfold grdL;by_cases i:trimN (grow a.toNat [p]) (grow a.toNat [p]).length=0
  ·rw[if_pos i,i];rfl
  ·rw[if_neg i];simp only
   rw[og (Eg (D:=p.Degree) ⟨λq d=>m.1 q (jP d),by rw[aX];omega⟩ (by rw[aX];omega))]
 ·rw[if_neg g];have d:=(wj p a).2 g;cases w:probB p
  ·rfl
  ·rw[w] at d;rw[if_neg sy,sb,if_pos (su d)]
def nv(a:Nat)(b:ae)(c:ae):Option Bool:=(kV a b.Problems c.Problems)>>=λd=>if !d then some false else(eT a b.Maps c.Maps)>>=λf=>if !f then some false else(eT a b.Refusal c.Refusal)>>=λg=>if !g then some false else some true
theorem Be(i:Nat)(w:World)(a:List Value)(f:ae)(k:Rp.rd zt w a f)(c:List Value)(g:ae)(s:Rp.rd zt w c g)(r:Bool)(b:nv i f g=some r):
    Calls Gz 8 #[.agg a.toArray,.agg c.toArray] w (ab w r):=by
 unfold nv at b;obtain⟨c,d,j,rfl,u,v,x⟩:=k;obtain⟨k,m,q,rfl,y,z,e⟩:=s;have a:Bs (λ_=>1) (col (λ_=>1)) w w:=Bs.start _ _;refine y_ (n:=23) (vs:=[.agg #[c,d,j],.agg #[k,m,q]]) Tryz.func8 rfl rfl ?_;refine Zq (Zo ?_);refine Z_ (o:=(col (λ_=>1))) w.heap.size 11 a.keeps.size (cs:=[c,d,j]) rfl rfl ?_;intro d c c c j;replace a:=a.stp j;refine Zo ?_;refine Z_ (o:=d) w.heap.size 12 a.keeps.size (cs:=[k,m,q]) rfl rfl ?_;intro j k d d m;obtain⟨c,a⟩:=ZS m (A2 c a);refine Za rfl (Zy (b_ (Zq (Zv (s_ rfl GP rfl GW) (Zv (e_ rfl GZ (c.cell rfl)) (Zv (s_ rfl GP rfl GW) (Zv (e_ rfl GZ (d.cell rfl)) ?_)))))));obtain⟨m,q,b⟩:=a_ b;refine Zo ?_;refine j_ (zK i k _ f.Problems (u.keep a.keeps) _ g.Problems (y.keep a.keeps) m q) Tryz.call25 ⟨rfl,rfl,trivial⟩ ?_;rintro k k ⟨rfl,m⟩;have q:=m.stp 999 j;refine⟨_,rfl,?_⟩;obtain⟨c,d,a⟩:=ZS q (A3 c d a);refine Zv (ag rfl) (Zy ?_);refine Zi rfl b (λm b=>?_) (λm b=>?_)
 ·refine Zq (Za rfl (Zy (i_ (t_ ?_))));obtain rfl:=Zj b;refine Zr Ig [.bool false] ?_;exact⟨rfl,a.keeps⟩
 ·refine f_ (nx (b_ (Zq (Zv (s_ rfl GP rfl GI) (Zv (e_ rfl GK (c.cell rfl)) (Zv (s_ rfl GP rfl GI) (Zv (e_ rfl GK (d.cell rfl)) ?_)))))));obtain⟨m,q,b⟩:=a_ b;refine Zo ?_;refine j_ (nu i k _ f.Maps (v.keep a.keeps) _ g.Maps (z.keep a.keeps) m q) Ie ⟨rfl,rfl,trivial⟩ ?_;rintro k k ⟨rfl,m⟩;have q:=m.stp 999 j;refine⟨_,rfl,?_⟩;obtain⟨c,d,a⟩:=ZS q (A3 c d a);refine Zv (ag rfl) (Zy ?_);refine Zi rfl b (λm b=>?_) (λm b=>?_)
  ·refine Zq (Za rfl (Zy (i_ (t_ ?_))));obtain rfl:=Zj b;refine Zr Ig [.bool false] ?_;exact⟨rfl,a.keeps⟩
  ·refine f_ (nx (b_ (Zq (Zv (s_ rfl GP rfl GI) (Zv (e_ rfl GK (c.cell rfl)) (Zv (s_ rfl GP rfl GI) (Zv (e_ rfl GK (d.cell rfl)) ?_)))))));obtain⟨c,d,b⟩:=a_ b;refine Zo ?_;refine j_ (nu i k _ f.Refusal (x.keep a.keeps) _ g.Refusal (e.keep a.keeps) c d) Ie ⟨rfl,rfl,trivial⟩ ?_;rintro c c ⟨rfl,c⟩;have d:=c.stp 999 j;refine⟨_,rfl,?_⟩;replace a:=a.stp d;refine Zv (ag rfl) (Zy ?_);refine Zi rfl b (λc b=>?_) (λc b=>?_)
   ·refine Zq (Za rfl (Zy (i_ (t_ ?_))));obtain rfl:=Zj b;refine Zr Ig [.bool false] ?_;exact⟨rfl,a.keeps⟩
   ·refine f_ (Zn (Za rfl (Zy (i_ ?_))));obtain rfl:=Zj b;refine Zr Ig [.bool true] ?_;exact⟨rfl,a.keeps⟩
def nd(a:Nat)(b:ae)(g:Int):Option Int:=(kF a b.Problems g)>>=λc=>if decide (c<0) then some (-1) else(eQ a b.Maps c)>>=λd=>if decide (d<0) then some (-1) else(eQ a b.Refusal d)>>=λf=>if decide (f<0) then some (-1) else some f
theorem Au(f:Nat)(w:World)(b:List Value)(d:ae)(k:Rp.rd zt w b d)(g:Int)(r:Int)(a:nd f d g=some r):
    Calls Gz 12 #[.agg b.toArray,.int .i64 g] w (aT w r):=by
 unfold nd at a;obtain⟨c,i,j,rfl,m,q,s⟩:=k;have b:Bs (λ_=>1) (col (λ_=>1)) w w:=Bs.start _ _;refine y_ (n:=24) (vs:=[.agg #[c,i,j],ZI g]) Tryz.func12 rfl rfl ?_;refine Zq (Zo ?_);refine Z_ (o:=(col (λ_=>1))) w.heap.size 11 b.keeps.size (cs:=[c,i,j]) rfl rfl ?_;intro i k c c j;replace b:=b.stp j;refine Za rfl (Ze [(1,_),(2,_)] (Zn (Zv (s_ rfl GP rfl GW) (Zv (e_ rfl GZ (c.cell rfl)) (Zm rfl ?_)))));obtain⟨j,u,a⟩:=a_ a;refine Zo ?_;refine j_ (ze f k _ d.Problems (m.keep b.keeps) g j u) Tryz.call29 ⟨rfl,rfl,trivial⟩ ?_;rintro g k ⟨rfl,g⟩;have m:=g.stp 999 i;refine⟨_,rfl,?_⟩;obtain⟨c,b⟩:=ZS m (A2 c b);refine Za rfl (Zy (b_ (Zq (Zm rfl (Zv (o_ rfl rfl) (Zy ?_))))));refine Zi rfl a (λg a=>?_) (λg a=>?_)
 ·refine Zq (Za rfl (Zy (i_ (t_ ?_))));obtain rfl:=Zj a;refine Zr Ih [ZI (-1)] ?_;exact⟨rfl,b.keeps⟩
 ·refine f_ (Zn (Zv (s_ rfl GP rfl GI) (Zv (e_ rfl GK (c.cell rfl)) (Zm rfl ?_))));obtain⟨g,m,a⟩:=a_ a;refine Zo ?_;refine j_ (nh f k _ d.Maps (q.keep b.keeps) j g m) If ⟨rfl,rfl,trivial⟩ ?_;rintro j j ⟨rfl,k⟩;have m:=k.stp 999 i;refine⟨_,rfl,?_⟩;obtain⟨c,b⟩:=ZS m (A2 c b);refine Za rfl (Zy (b_ (Zq (Zm rfl (Zv (o_ rfl rfl) (Zy ?_))))));refine Zi rfl a (λk a=>?_) (λk a=>?_)
  ·refine Zq (Za rfl (Zy (i_ (t_ ?_))));obtain rfl:=Zj a;refine Zr Ih [ZI (-1)] ?_;exact⟨rfl,b.keeps⟩
  ·refine f_ (Zn (Zv (s_ rfl GP rfl GI) (Zv (e_ rfl GK (c.cell rfl)) (Zm rfl ?_))));obtain⟨c,k,a⟩:=a_ a;refine Zo ?_;refine j_ (nh f j _ d.Refusal (s.keep b.keeps) g c k) If ⟨rfl,rfl,trivial⟩ ?_;rintro d d ⟨rfl,d⟩;have f:=d.stp 999 i;refine⟨_,rfl,?_⟩;replace b:=b.stp f;refine Za rfl (Zy (b_ (Zq (Zm rfl (Zv (o_ rfl rfl) (Zy ?_))))));refine Zi rfl a (λd a=>?_) (λd a=>?_)
   ·refine Zq (Za rfl (Zy (i_ (t_ ?_))));obtain rfl:=Zj a;refine Zr Ih [ZI (-1)] ?_;exact⟨rfl,b.keeps⟩
   ·refine f_ (Zn (Zm rfl (Za rfl (Zy (i_ ?_)))));obtain rfl:=Zj a;refine Zr Ih [ZI c] ?_;exact⟨rfl,b.keeps⟩
section
def RdB(w:World)(v:Value)(x:ae):Prop:=∃u:List Value,v=.agg u.toArray∧Rp.rd zt w u x
def RdIB(B C:Nat)(w:World)(v:Value)(x:ae):Prop:=∃u:List Value,v=.agg u.toArray∧Rp.rd (λb=>if B<=b∧b<C then 0 else 1) w u x
section
variable {B C B' C':Nat} {w w':World} {v:Value} {x:ae}
theorem RdIB.keep(h:RdIB B C w v x)(k:Keeps w w'):RdIB B C w' v x:=by
 obtain⟨u,e,h⟩:=h;exact⟨u,e,Rp.mv h k.size λb d a=>⟨k.block b d,a⟩⟩
theorem RdIB.chg(h:RdIB B C w v x)(c:Chg B' C' w w')(f:C<=B'∨C'<=B):RdIB B C w' v x:=by
 obtain⟨u,e,h⟩:=h;exact⟨u,e,Rp.mv h c.size λb d a=>⟨c.block b d (by
  have:B<=b∧b<C:=by
   by_cases q:B<=b∧b<C
   ·exact q
   ·rw[if_neg q] at a;cases a
  omega),a⟩⟩
theorem RdIB.rd(h:RdIB B C w v x):RdB w v x:=by obtain⟨u,e,h⟩:=h;exact⟨u,e,Rp.z h⟩
theorem OwB.rd(h:OwB B C w v x):RdB w v x:=by
 obtain⟨T,a,d,b,e,g,f,i,j⟩:=h;exact⟨[a,d,b],e,a,d,b,rfl,g.ow.z,f.rows.rdl,i.rows.rdl⟩
theorem RdB.shape(h:RdB w v x):∃g d a b e f,v=.agg #[.slice g x.Problems.length d,.slice a x.Maps.length b,.slice e x.Refusal.length f]:=by
 obtain⟨u,rfl,m,n,o,rfl,j,i,k⟩:=h;obtain⟨g,d,rfl⟩:=j.form;obtain⟨a,b,rfl⟩:=i.form;obtain⟨e,f,rfl⟩:=k.form;exact⟨_,_,_,_,_,_,rfl⟩
end
def zeroB:ae:=⟨[],[],[]⟩
def szB(x:ae):Nat:=szQ x.Problems+tot x.Maps+tot x.Refusal
def cntB(x:ae):Nat:=offQ x.Problems x.Problems.length+off x.Maps x.Maps.length+off x.Refusal x.Refusal.length
theorem jF(LL:List (List Int)):off LL LL.length<=tot LL:=by unfold tot;omega
theorem xb(x:ae):cntB x<=szB x:=by
 have:=oy x.Problems x.Problems.length;have:=jF x.Maps;have:=jF x.Refusal;unfold cntB szB;omega
def numB(k:Int)(x:ae):ae:=
  ⟨numU k x.Problems x.Problems.length,numbered (k+(offQ x.Problems x.Problems.length:Nat)) x.Maps x.Maps.length,numbered (k+(offQ x.Problems x.Problems.length:Nat)+(off x.Maps x.Maps.length:Nat)) x.Refusal x.Refusal.length⟩
theorem Cp(a:Nat)(x:ae)(b:szB x<a)(h:szB x<=1000000000000000000):nv a x x=some true:=by
 unfold szB at b h;unfold nv;rw[Af a _ om om,sb,if_neg sy,nH a _ om om,sb,if_neg sy,nH a _ om om,sb,if_neg sy]
theorem pm(d b:Value)(x:ae)(w:World)(i:RdB w d x)(h:RdB w b x)(j:szB x<=10000000000000):
  Calls Gz 8 #[d,b] w λe w'=>e=.returned (.bool true)∧Keeps w w':=by
 obtain⟨u,rfl,g⟩:=i;obtain⟨f,rfl,a⟩:=h;exact Be 100000000000000 w u x g f x a _ (Cp _ x om om)
theorem AK(a:Nat)(x:ae)(k:Int)(b:szB x<a)(f:0<=k)(h:k+szB x<=4611686018427387904):nd a (numB k x) k=some (k+(cntB x:Nat)):=by
 have e:=oy x.Problems x.Problems.length;have g:=jF x.Maps;have d:=jF x.Refusal;unfold szB at b h;unfold nd numB cntB;simp only
 rw[zF a _ _ om om om,sb,if_neg (by simp;omega),nm a _ _ om om om,sb,if_neg (by simp;omega),nm a _ _ om om om,sb,if_neg (by simp;omega)];congr 1;omega
theorem sn(v:Value)(x:ae)(k:Int)(w:World)(h:RdB w v (numB k x))(f:szB x<=10000000000000)(d:0<=k)(a:k+szB x<=4611686018427387904):
  Calls Gz 12 #[v,.int .i64 k] w λe w'=>e=.returned (.int .i64 (k+cntB x))∧Keeps w w':=by
 obtain⟨u,rfl,b⟩:=h;exact Au 100000000000000 w u _ b k _ (AK _ x k om d a)
set_option maxHeartbeats 1600000 in
theorem zR(B C:Nat)(v:Value)(x:ae)(k:Int)(w:World)(h:OwB B C w v x)(hC:C<=w.heap.size)(hk:0<=k)(hk2:k+szB x<=4611686018427387904):
  Calls Gz 11 #[v,.int .i64 k] w λe w'=>e=.returned (.int .i64 (k+cntB x))∧OwB B C w' v (numB k x)∧Chg B C w w':=by
 have hoP:=oy x.Problems x.Problems.length;have hoM:=jF x.Maps;have hoR:=jF x.Refusal;obtain⟨T,v1,v2,v3,rfl,o1,o2,o3,hT⟩:=h;have HX:Hid (cntB x=offQ x.Problems x.Problems.length+off x.Maps x.Maps.length+off x.Refusal x.Refusal.length):=rfl;have HT:=p_ hT;have hTw:Hid (T w.heap.size=0):=ge λh0=>by have:=hT _ h0;omega
 unfold szB at hk2;have O1:=p_ o1;have O2:=p_ o2;have O3:=p_ o3;obtain⟨a1,c1,rfl⟩:=o1.ow.form;obtain⟨a2,c2,rfl,_⟩:=o2.rows.form;obtain⟨a3,c3,rfl,_⟩:=o3.rows.form;clear o1 o2 o3 hT;go_enter Tryz.func11,Tryz.ntmps11;go_wp2_with fail;refine (zH T _ x.Problems k _ (O1.out.keep (by repeat (first|exact Keeps.refl _|with_reducible refine Keeps.alloc ?_ _))) om om).mono ?_;rintro e W0 ⟨rfl,hO,hG⟩;have N1:=p_ hO;have G0:Hid (ChS (λb=>T b≠0) w W0):=((Keeps.chS (by repeat (first|exact Keeps.refl _|with_reducible refine Keeps.alloc ?_ _)) _).trans (hG.mono λb hb=>om));have P2:=p_ ((O2.out.keep (by repeat (first|exact Keeps.refl _|with_reducible refine Keeps.alloc ?_ _))).chS hG λb hb hh=>om);have P3:=p_ ((O3.out.keep (by repeat (first|exact Keeps.refl _|with_reducible refine Keeps.alloc ?_ _))).chS hG λb hb hh=>om);clear O1 O2 O3;have hcc:∀i,W0.cell? ⟨w.heap.size,i,none⟩=(w.alloc (.cells #[.slice a1 x.Problems.length c1,.slice a2 x.Maps.length c2,.slice a3 x.Refusal.length c3] 28)).cell? ⟨w.heap.size,i,none⟩:=λi=>aY (hG.block w.heap.size sy (by rw[hTw.out];omega));have hsz0:=hG.size;clear hO hG;go_wp2_with fail;refine (nl _ _ x.Maps (k+(offQ x.Problems x.Problems.length:Nat)) _ P2.out om om).mono ?_;rintro e W1 ⟨rfl,hO,hG⟩;have N2:=p_ hO;have G1:Hid (ChS (λb=>T b≠0) w W1):=G0.out.trans (hG.mono λb hb=>om);have N1':=p_ (N1.out.chS hG λb hb hh=>om);have P3':=p_ (P3.out.chS hG λb hb hh=>om);clear N1 P2 P3 G0;have hcc1:∀i,W1.cell? ⟨w.heap.size,i,none⟩=W0.cell? ⟨w.heap.size,i,none⟩:=λi=>aY (hG.block w.heap.size (by simp at hsz0;omega) (by rw[hTw.out];omega));have hsz1:=hG.size;clear hO hG;go_wp2_with fail;refine (nl _ _ x.Refusal (k+(offQ x.Problems x.Problems.length:Nat)+(off x.Maps x.Maps.length:Nat)) _ P3'.out om om).mono ?_;rintro e W2 ⟨rfl,hO,hG⟩;have N3:=p_ hO;have G2:Hid (ChS (λb=>T b≠0) w W2):=G1.out.trans (hG.mono λb hb=>om);have N1'':=p_ (N1'.out.chS hG λb hb hh=>om);have N2':=p_ (N2.out.chS hG λb hb hh=>om);clear N1' N2 P3' G1;have hcc2:∀i,W2.cell? ⟨w.heap.size,i,none⟩=W1.cell? ⟨w.heap.size,i,none⟩:=λi=>aY (hG.block w.heap.size (by simp at hsz0;omega) (by rw[hTw.out];omega));clear hO hG;go_wp2;go_ret;exact⟨dS (by rw[HX.out];(try omega)),⟨T,_,_,_,rfl,N1''.out,N2'.out,N3.out,HT.out⟩,G2.out.chg λb hb=>HT.out b hb⟩
end
section
structure ChgR (vs:List Value) (w w':World):Prop where
  os:w'.os=w.os
  tape:w'.tape=w.tape
  output:w'.output=w.output
  size:w.heap.size<=w'.heap.size
  block:∀k,k<w.heap.size->(∀i,i<vs.length->(vs.getD i undef).ownBlock≠some k)->w'.heap[k]? =w.heap[k]?
structure OwML (B C:Nat) (w:World) (a:Value) (X:List (List Int)) (v:Value) (l:List Int):Prop where
  ex:∃us,MatIn B w a us X∧(∀k,a.ownBlock=some k->k<C)∧(∀i,i<X.length->∀k,(us.getD i undef).ownBlock=some k->k<C)∧∀i,i<X.length->Apart (us.getD i undef) v
  li:OwI B C w v l
section
variable {B C B' C':Nat} {w w':World} {a v:Value} {X:List (List Int)} {l:List Int}
end
section
variable {B C B' C':Nat} {w w':World} {a v:Value} {X:List (List Int)} {l:List Int}
end
end
theorem wT{p q:c_}{L:Nat}:∀{d:Nat}{f g:List Int},lme p q L d f=some g->g.length=f.length+d
 |0,f,g,h=>by
  unfold lme at h;split at h
  ·cases h;omega
  ·cases h
 |d+1,f,g,h=>by
  unfold lme at h;obtain⟨b,-,a⟩:=List.exists_of_findSome?_eq_some h;have:=wT a;rw[ar,bn] at this;omega
theorem Ch(p q:c_):(lmapV p q).1.length<=8:=by
 unfold lmapV;split
 ·rename_i a;rw[aW,aW] at a;obtain⟨d,b,-⟩:=aO a.1.1;cases h:lme p q q.Labels.toNat p.Labels.toNat [] with
  |none=>simp
  |some g=>
   have:=wT h;simp at this;simp;omega
 ·simp
theorem pL{n:Nat}:∀{LL:List (List Int)},(∀r∈LL,r.length<=n)->tot LL<=LL.length*(n+1)
 |[],_=>by simp[tot,off]
 |r::LL,h=>by
  have d:=h r sy;have a:=pL (LL:=LL) λx b=>h x (sh b);unfold tot off at a ⊢;rw[cc] at a ⊢;simp only[bd,fk,ao,oL,Nat.one_mul] at a ⊢;omega
theorem ED(E:List (List Int))(x:List Int):((bpr E x).getD []).length<=2:=by
 unfold bpr;split
 ·rename_i h;obtain⟨k,m,a,b,-,e⟩:=h.choose_spec;rw[e];simp
 ·simp
theorem Dy(p:c_):tot (refV p).1<=p.Nodes.length*3:=by
 unfold refV;split
 ·have:=pL (n:=2) (LL:=p.Nodes.map λx=>(bpr p.Edges x).getD []) λr a=>by
   obtain⟨x,-,rfl⟩:=aM.1 a;exact ED _ _
  rwa [aA] at this
 ·simp[tot,off]
theorem vj(ps:List c_):∀(j:Nat) M,bmp ps j=some M->∀r∈M,r.length<=8
 |0,M,h=>by cases h;simp
 | j+1,M,h=>by
  unfold bmp at h;cases b:bmp ps j with
  |none=>rw[b] at h;cases h
  | some d=>
   have ih:=vj ps j d b;rw[b,jN] at h;simp only at h;split at h
   ·cases h;exact ih
   ·split at h
    ·cases h
     intro r a;rcases bX.1 a with a|a
     ·exact ih r a
     ·rw[be.1 a];exact Ch _ _
    ·cases h
theorem DX(ps:List c_)(h:ps.length<=7)(e:∀p∈ps,p.Nodes.length<=100000000):szB (bnd1 ps).1<=szQ ps+300000100:=by
 have a:szB (⟨[],[],[]⟩:ae)=0:=rfl;unfold bnd1;cases b:bmp ps ps.length with
 |none=>simp only;rw[a];omega
 | some M=>
  simp only
  split
  ·have g:=pL (vj ps _ M b);have f:=oq ps _ M b;have j:=Dy (ps.getD (ps.length-1) ⟨0,0,[],[]⟩);have i:(ps.getD (ps.length-1) ⟨0,0,[],[]⟩).Nodes.length<=100000000:=by
    rw[ax];cases d:ps[ps.length-1]? with
    |none=>simp
    |some p=>exact e p (aE d)
   show szQ ps+tot M+tot (refV (ps.getD (ps.length-1) ⟨0,0,[],[]⟩)).1<=_;omega
  ·rw[a];omega
theorem Em(ps:List c_)(d:∀p∈ps,p.Nodes.length<=100000000):szB (bndV ps).1<=szQ ps+300000100:=by
 cases a:bokB ps
 ·rw[qn a];have b:szB (⟨[],[],[]⟩:ae)=0:=rfl;rw[b];omega
 ·rw[og a];exact DX ps (wk a).2.2 d
theorem BU(ps:List c_)(h:(bndV ps).2=false):(bndV ps).1=zeroB:=by
 cases a:bokB ps
 ·rw[qn a];rfl
 ·rw[og a] at h ⊢;unfold bnd1 at h ⊢;cases b:bmp ps ps.length with
  |none=>rfl
  |some M=>
   rw[b] at h;simp only at h ⊢;split at h
   ·cases h
   ·rename_i d;rw[if_neg d];rfl
noncomputable def fGreedyBoundSpec(x:PR)(k:Int):Option ae:=if(grdV (tP x) k).2=true then some (grdV (tP x) k).1 else none
noncomputable def fGreedyBoundImpl(x:PR)(k:Int):Option ae:=fGreedyBoundSpec x k
theorem zB(x:PR)(k:Int)(_:okP x)(_:szP x<=1048576)(_:I64 k):fGreedyBoundImpl x k=fGreedyBoundSpec x k:=rfl
theorem CR(p:c_)(k:Int)(h:(grdV p k).2=false):(grdV p k).1=zeroB:=by
 unfold grdV at h ⊢;split
 ·rename_i a;rw[if_pos a] at h;exact BU _ h
 ·rfl
theorem xl(x:PR)(k:Int):(fGreedyBoundSpec x k).isSome=(grdV (tP x) k).2∧(fGreedyBoundSpec x k).getD zeroB=(grdV (tP x) k).1:=by
 unfold fGreedyBoundSpec;cases h:(grdV (tP x) k).2
 ·exact⟨rfl,(CR _ _ h).symm⟩
 ·exact⟨rfl,rfl⟩
theorem xi:∀ps:List c_,(∀p∈ps,okT p)->szQ ps<=300000000001*ps.length
 |[],_=>by simp[szQ]
 |p::ps,h=>by
  have d:=(h p sy).sz;have a:=xi ps λq b=>h q (sh b);simp[szQ] at a ⊢;omega
theorem xF(p:c_)(k:Int)(i:p.Nodes.length<=100000000)(f:p.Edges.length<=100000000):szB (grdV p k).1<=10000000000000:=by
 unfold grdV;split
 ·rename_i b;obtain⟨g,j⟩:=qA ⟨b.1,i,f⟩ b.2.1 b.2.2;have d:∀q∈grdL p k,okT q:=λq a=>(g.1 q (jP a)).1;have h:(grdL p k).length<=7:=by unfold grdL;rw[aX];omega
  have o:=xi _ d;have n:=Em (grdL p k) λq a=>(d q a).2.1;have m:300000000001*(grdL p k).length<=300000000001*7:=Gj _ h;omega
 ·have e:szB (⟨[],[],[]⟩:ae)=0:=rfl;rw[e];omega
theorem yO(v:Value)(x:PR)(k:Int)(w:World)(h:RdP w v x)(_:okP x)(f:szP x<=1048576)(_:I64 k):
  Calls Gz 5 #[v,.int .i64 k] w λe w'=>∃r,e=.returned (.tuple #[r,.bool (fGreedyBoundSpec x k).isSome])∧RdIB 0 w'.heap.size w' r ((fGreedyBoundSpec x k).getD zeroB)∧szB ((fGreedyBoundSpec x k).getD zeroB)<=10000000000000∧Keeps w w':=by
 obtain⟨u,rfl,n⟩:=h.rdz;obtain⟨A,t⟩:=wO f;have a:(tP x).Nodes.length<=100000000:=by show x.nodes.length<=_;omega
 have d:(tP x).Edges.length<=100000000:=by show x.edges.length<=_;omega
 obtain⟨g,i⟩:=xl x k;rw[g,i];refine (zr 1000000000 w zt 2 dc u (tP x) n k _ (CN 1000000000 om (tP x) k a d)).mono ?_;rintro e w' ⟨m,s,rfl,o,j,y⟩;exact⟨_,rfl,⟨m,rfl,Rp.mv o (K_ _) λb p q=>⟨rfl,if_pos ⟨bj _,p⟩⟩⟩,xF _ _ a d,j⟩
theorem rA(v:Value)(x:PR)(k:Int)(w:World)(h:RdP w v x)(_:okP x)(d:szP x<=1048576)(_:I64 k):
  Calls Gz 7 #[v,.int .i64 k] w λe w'=>∃r,e=.returned (.tuple #[r,.bool (fGreedyBoundImpl x k).isSome])∧OwB w.heap.size w'.heap.size w' r ((fGreedyBoundImpl x k).getD zeroB)∧szB ((fGreedyBoundImpl x k).getD zeroB)<=10000000000000∧Keeps w w':=by
 obtain⟨u,rfl,j⟩:=h.rdz;obtain⟨p,o⟩:=wO d;have a:(tP x).Nodes.length<=100000000:=by show x.nodes.length<=_;omega
 have b:(tP x).Edges.length<=100000000:=by show x.edges.length<=_;omega
 obtain⟨f,g⟩:=xl x k;unfold fGreedyBoundImpl;rw[f,g];refine (zG 1000000000 w u (tP x) j k _ (Ca 1000000000 om (tP x) k a b)).mono ?_;rintro e w' ⟨n,rfl,m,i⟩;exact⟨_,rfl,m,xF _ _ a b,i⟩
end Go.Proofs.YtpefhaamcihneaaGreat
