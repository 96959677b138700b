/- Part 8 of what this claim rests on (pack.py). -/
import Derived.Test.YtpefhaamcihneaaGreatP07
namespace Go.Proofs.YtpefhaamcihneaaGreat
open Tryz renaming prog→Gz, underlying26→GL, sizeOf31→GD, isAgg31→GG, results117→Ju, call20→He, underlying31→GF, sizeOf3→GB, isAgg3→GC, isAgg26→GZ, results45→Jv, underlying22→GE, sizeOf51→GH, isAgg51→GJ, zeroValue51→GO, sizeOf22→GI, isAgg22→GK, call65→Jw, results122→Jx
set_option linter.unusedSimpArgs false
set_option linter.unusedVariables false
set_option maxRecDepth 100000
set_option maxHeartbeats 2000000
open Go.RowKit
section
structure Pv where
  v:Value
  x:List Int
instance:Inhabited Pv:=⟨⟨.slice none 0 0,[]⟩⟩
instance:Rp Pv where
  sz:=1
  pos:=dc
  rd o w cs p:=cs=[p.v]∧p.v.oneCell'=true∧RdL o w p.v p.x
  len h:=by rw[h.1];rfl
  one h:=by obtain⟨rfl,h,_⟩:=h;intro c hc;simp at hc;subst hc;exact h
  mv h hs hb:=⟨h.1,h.2.1,h.2.2.mv hs hb⟩
theorem oI{o:Tg}{w:World}{p:Pv}(h:RdL o w p.v p.x):Rp.rd o w [p.v] p:=⟨rfl,h.one1,h⟩
theorem Stp.tr9{o f m:Tg}{w j p:World}(h:Stp 10 o w f j)(q:∀b,b<w.heap.size->o b≠999)(k:Stp 999 f j m p):Stp 10 o w m p:=
 ⟨k.os.trans h.os,k.tape.trans h.tape,k.output.trans h.output,aH h.size k.size,
  λb a s=>(k.block b (bh a h.size) (by rw[h.own b a];exact q b a)).trans (h.block b a s),
  λb a=>(k.own b (bh a h.size)).trans (h.own b a)⟩
def subv(v:Value)(k:Nat):Value:=match v with
  | .slice a n c=>sliced a k n c 1
  |v=>v
def prev(v:Value)(k:Nat):Value:=match v with
  | .slice a n c=>sliced a 0 k c 1
  |v=>v
section
variable {P:Program} {n:Nat} {l:List (Nat×Value)} {w w0:World} {o oo:Tg} {d:Nat} {ty:TypeId} {ps:String} {af:Array Edge} {g:Option (Nat×Bool)} {R:Value->World->Prop} {B k:Nat} {e:TypeId} {v:Value} {xs ys:List Pv} {lo i:Int} {u:Pv}
theorem Addr.add_zero'(g k:Nat):(⟨g,0,none⟩:Addr).add k=⟨g,0+k,none⟩:=by
 unfold Addr.add;split
 ·rename_i h;rw[h]
 ·rfl
theorem pP{t j:TypeId}{x:Operand}{lo':Operand}(h:Ow B e k o w v xs)(p:cut xs lo xs.length=some ys)(D:ev l x=some v)(b:ev l lo'=some (.int .i64 lo))(y:P.underlying t=some (.slice j))(q:∀w,(sizeOf j).run P w=.ok 1 w)
  (m:R (subv v lo.toNat) w):op1 P ⟨some d,.slice t x (some lo') none none,ty,ps,af,g⟩ n l w R:=by
 obtain⟨a,c,rfl⟩:=h.form;obtain⟨E,F,A,C,s,G⟩:=oC h.z p;refine M_ (λρ f=>?_) m;have:=ov (P:=P) (w:=w) (a:=a) (n:=xs.length) (c:=c) (lo:=some (.int .i64 lo)) (hi:=none) (lo':=lo) (hi':=xs.length) y q (.inl rfl) (.inr ⟨rfl,rfl⟩) A C s;simp only[execOp,f x _ D,f lo' _ b,aF,this,aL,oO,cn];rfl
theorem CH{d:Option Nat}{t b:TypeId}{x:Operand}(h:Ow B e k o w v xs)(j:cut xs lo xs.length=some ys)(m:ev l x=some (subv v lo.toNat))(f:P.underlying t=some (.slice b)):
  ∀ρ,Agr ρ l->(execOp ρ ⟨d,.call {callee:=.builtin .len,args:= #[x],argTypes:= #[t]},ty,ps,af,g⟩).run P w=.ok (.value (.int .i64 ((xs.length:Int)-lo))) w:=by
 obtain⟨a,c,rfl⟩:=h.form;obtain⟨s,q,p,rfl⟩:=jE j;have:=qw (P:=P) (w:=w) (l:=l) (d:=d) (ty:=ty) (ps:=ps) (af:=af) (g:=g) (x:=x) (t:=t) (e:=b) m f;rw[show((xs.length:Int)-lo)=((xs.length-lo.toNat:Nat):Int) by omega];exact this
theorem qf(h:Ow B e k o w v xs)(q:cut xs lo xs.length=some ys)(hi:ix xs (lo+i)=some u)(J:0<=i):
  ∃b cap,v=.slice (some ⟨b,0,none⟩) xs.length cap∧subv v lo.toNat=.slice (some ⟨b,0+lo.toNat,none⟩) (xs.length-lo.toNat) (cap-lo.toNat)∧Cells w b (0+(lo+i).toNat) [u.v]∧RdL o w u.v u.x∧(lo+i).toNat=lo.toNat+i.toNat∧i<((xs.length-lo.toNat:Nat):Int):=by
 obtain⟨a,c,rfl⟩:=h.form;obtain⟨H,D,F,rfl⟩:=jE q;obtain⟨I,E,t⟩:=dR hi;obtain⟨b,cs,rfl,_,j,f,_⟩:=h.at t;have m:xs.length<=c:=by
  obtain⟨css,C,s,G,K⟩:=h;rcases s.2 with⟨e,_⟩|⟨g,cap,A,e,_,_,y,_⟩
  ·cases e
  ·cases e;exact y
 refine⟨b,c,rfl,?_,?_,f.2.2,om,om⟩
 ·unfold subv sliced;simp only
  rw[if_neg om,cn,cm,Addr.add_zero']
 ·obtain⟨p,_⟩:=f;subst p;simpa [Rp.sz] using j
theorem DL{x y:Operand}{t j:TypeId}(h:Ow B e k o w v xs)(q:cut xs lo xs.length=some ys)(hi:ix xs (lo+i)=some u)(a:0<=i)(f:ev l x=some (subv v lo.toNat))(F:ev l y=some (.int .i64 i))
  (C:P.underlying t=some (.slice j)) (s:∀w,(sizeOf j).run P w=.ok 1 w)
  (p:∀b off cs,Cells w b off cs->Rp.rd o w cs u->R (.pointer (some ⟨b,off,none⟩)) w):op1 P ⟨some d,.indexAddr t x y,ty,ps,af,g⟩ n l w R:=by
 obtain⟨b,cap,rfl,m,E,D,A,G⟩:=qf h q hi a;rw[m] at f;refine M_ (jv f F a G C s) (p b _ [u.v] ?_ (oI D));rw[cm,an,<-A];simpa using E
theorem sT{x y:Operand}{t j:TypeId}{d:Option Nat}(h:Ow B e k o w v xs)(q:cut xs lo xs.length=some ys)(hi:ix xs (lo+i)=some u)(a:0<=i)(f:ev l x=some (subv v lo.toNat))(E:ev l y=some (.int .i64 i))
  (D:P.underlying t=some (.slice j)) (s:∀w,(sizeOf j).run P w=.ok 1 w) (p:R (adr v ((lo+i).toNat*Rp.sz Pv)) w):op1 P ⟨d,.indexAddr t x y,ty,ps,af,g⟩ n l w R:=by
 obtain⟨b,cap,rfl,m,H,G,A,F⟩:=qf h q hi a;rw[m] at f;have:=jv (P:=P) (w:=w) (d:=d) (ty:=ty) (ps:=ps) (af:=af) (g:=g) f E a F D s;refine M_ this ?_;have C:adr (.slice (some ⟨b,0,none⟩) xs.length cap) ((lo+i).toNat*Rp.sz Pv)=.pointer (some ⟨b,0+lo.toNat+i.toNat*1,none⟩):=by
  simp only[adr,Rp.sz,cm,A,an]
 rw[<-C];exact p
theorem sY{t e':TypeId}{x:Operand}{zs:List Pv}(h:Ow B e k o w v xs)(hc:cut xs lo xs.length=some ys)(hz:cut xs 0 lo=some zs)(hk:k≠0)(A:ev l x=some (subv v lo.toNat))(ht:P.underlying t=some (.slice e'))
  (Y:∀w,(zeroValue e').run P w=.ok (.slice none 0 0) w)
  (hR:∀w' v',Ow B e k o w' (prev v lo.toNat) zs->Stp k o w o w'->R v' w'):op1 P ⟨none,.call {callee:=.builtin .clear,args:= #[x],argTypes:= #[t]},ty,ps,af,g⟩ n l w R:=by
 obtain⟨a,c,rfl⟩:=h.form;obtain⟨g1,g2,g3,-⟩:=jE hc;obtain⟨-,-,-,rfl⟩:=jE hz;have C:∀w',(∃css:List (List Value),css.length=xs.length∧w'.ownsRow B e 1 (.slice a xs.length c) xs.length css.flatten∧∀j cs,j<lo.toNat->css[j]? =some cs->∃u,xs[j]? =some u∧Rp.rd o w' cs u)->
   Ow B e k o w' (prev (.slice a xs.length c) lo.toNat) ((xs.take lo.toNat).drop (0:Int).toNat):=λw' ⟨css,q1,U,W⟩=>by
  have M:=h.tagged;have N:∀cs∈css.take lo.toNat,cs.length=1:=λcs f=>by
   obtain⟨j,I⟩:=bS.1 f;have m:j<lo.toNat:=by
    have:=(Y_.1 I).1;simp at this;omega
   rw[bO,if_pos m] at I;obtain⟨u,_,D⟩:=W j cs m I;exact Rp.len D
  have p:∀{L:List (List Value)},(∀cs∈L,cs.length=1)->L.flatten.length=L.length:=by
   intro L
   induction L with
   |nil=>intro _;rfl
   |cons a L ih=>
    intro O;rw[br,ar,ih λx A=>O x (sh A),O a sy,ao];omega
  have F:css.flatten.take lo.toNat=(css.take lo.toNat).flatten:=by
   have s:css.flatten=(css.take lo.toNat).flatten++(css.drop lo.toNat).flatten:=by rw[<-oN,mx]
   have J:=p N;rw[s,xX (by rw[J,aX];omega),cu (by rw[J,aX];omega)]
  have y:((xs.take lo.toNat).drop (0:Int).toNat).length=lo.toNat:=by simp;omega
  refine⟨css.take lo.toNat,by rw[y,aX];omega,?_,λg H=>?_,λj cs u V h2=>?_⟩
  ·rw[y];obtain⟨p1,p2⟩:=U;refine⟨by rw[p N,aX];show _=lo.toNat*1;omega,?_⟩;rcases p2 with⟨s,J⟩|⟨gg,cap,Q,s,p3,p4,p5,p6,p7,p8⟩
   ·simp only[Value.slice.injEq] at s;obtain⟨rfl,_,rfl⟩:=s;exact .inl ⟨by unfold prev sliced;simp only;rw[show lo.toNat=0 by omega];simp,om⟩
   ·simp only[Value.slice.injEq] at s;obtain⟨rfl,_,rfl⟩:=s;refine .inr ⟨gg,c,Q,?_,p3,p4,om,p6,p7,?_⟩
    ·unfold prev sliced;simp only
     by_cases T:c=0
     ·rw[if_pos T,du,du]
     ·rw[if_neg T,cn,ff,Addr.add_zero',du,du]
    ·show Q.toList.take (lo.toNat*1)=_;rw[<-F,<-p8,fZ];congr 1;show lo.toNat*1=min lo.toNat (xs.length*1);omega
  ·refine M g ?_;cases a with
   |none=>unfold prev sliced at H;simp only at H;split at H<;>simp[Value.ownBlock] at H
   | some ad=>
    have:(prev (.slice (some ad) xs.length c) lo.toNat).ownBlock=some ad.block:=by
     unfold prev sliced;simp only
     split
     ·rfl
     ·simp only[cn,Value.ownBlock,ff];unfold Addr.add;split<;>rfl
    rw[this] at H;exact H
  ·have m:j<lo.toNat:=by
    have:=(Y_.1 V).1;simp at this;omega
   rw[bO,if_pos m] at V;obtain⟨u',hu1,hu2⟩:=W j cs m V;rw[show(0:Int).toNat=0 from rfl,aG,bO,if_pos m,hu1] at h2;cases h2
   exact hu2
 obtain⟨css,q1,U,W,q4⟩:=id h;by_cases E:lo.toNat=xs.length
 ·have D:=run_underlying (w:=w) ht;have Z:∀ρ,Agr ρ l->(execOp ρ ⟨none,.call {callee:=.builtin .clear,args:= #[x],argTypes:= #[t]},ty,ps,af,g⟩).run P w=.ok (.value (.tuple #[])) w:=by
   intro ρ hρ;have:subv (.slice a xs.length c) lo.toNat=.slice (if c=lo.toNat then a else a.map (·.add (lo.toNat*1))) 0 (c-lo.toNat):=by
    unfold subv sliced;simp only
    rw[E,fh]
   rw[this] at A;have G:(Builtin.clear_ #[t] ty #[.slice (if c=lo.toNat then a else a.map (·.add (lo.toNat*1))) 0 (c-lo.toNat)]).run P w=.ok (.tuple #[]) w:=by
    unfold Builtin.clear_;cases hq:(if c=lo.toNat then a else a.map (·.add (lo.toNat*1)))<;>simp[aF,D,bt]
   simp only[execOp,resolve,invoke,builtin,aF,bt,aL,et,bd,eu,hρ x _ A,G]
  refine M_ Z (hR w _ (C w ⟨css,q1,U,λj cs I f=>?_⟩) (Stp.refl _ _ _));exact⟨xs[j]'om,x_ om,q4 j cs _ f (x_ om)⟩
 ·have K:lo.toNat<xs.length:=om;obtain⟨b,cap,ee,s,-,-,-,-⟩:=qf (i:=0) h hc (u:=xs[lo.toNat]'K) (by unfold ix;rw[if_pos om];rw[oT];exact x_ K) om;cases ee
  have hlz:=Ow.lens (e:=e) (B:=B) q1 q4;have p:css.flatten.length=xs.length:=by have:=U.1;rw[this];exact cm _
  obtain⟨w',r1,r2,r3⟩:=rZ (P:=P) (o:=o) (W _ rfl) (List.replicate (xs.length-lo.toNat) (.slice none 0 0)) 0 (0+lo.toNat) w css.flatten U (by rw[p,cd];omega) (λu D=>by rw[List.eq_of_mem_replicate D];rfl);have D:=run_underlying (w:=w) ht;have S:(Builtin.zeroCells (Value.cells (.slice none 0 0)) (xs.length-lo.toNat)).toList=List.replicate (xs.length-lo.toNat) (.slice none 0 0):=by
   unfold Builtin.zeroCells;apply dr
   ·simp[Value.cells]
   ·intro j V h2;simp[Value.cells,Nat.mod_one]
  have Z:∀ρ,Agr ρ l->(execOp ρ ⟨none,.call {callee:=.builtin .clear,args:= #[x],argTypes:= #[t]},ty,ps,af,g⟩).run P w=.ok (.value (.tuple #[])) w':=by
   intro ρ hρ;rw[s] at A;have G:(Builtin.clear_ #[t] ty #[.slice (some ⟨b,0+lo.toNat,none⟩) (xs.length-lo.toNat) (c-lo.toNat)]).run P w=.ok (.tuple #[]) w':=by
    unfold Builtin.clear_;obtain⟨q,hq⟩:∃q,xs.length-lo.toNat=q+1:=⟨xs.length-lo.toNat-1,om⟩;rw[hq] at S r1;simp only[hq,gf,List.getElem?_cons_zero,aF,D,aL,Y,S,r1,bt]
   simp only[execOp,resolve,invoke,builtin,aF,bt,aL,et,bd,eu,hρ x _ A,G]
  refine M_ Z (hR w' _ (C w' ⟨css.take lo.toNat++List.replicate (xs.length-lo.toNat) [.slice none 0 0],by simp;omega,?_,λj cs I f=>?_⟩) r3)
  ·have F:css.flatten.take lo.toNat=(css.take lo.toNat).flatten:=by
    have X:∀{L:List (List Value)},(∀cs∈L,cs.length=1)->L.flatten.length=L.length:=by
     intro L
     induction L with
     |nil=>intro _;rfl
     |cons a L ih=>
      intro O;rw[br,ar,ih λx A=>O x (sh A),O a sy,ao];omega
    have s:css.flatten=(css.take lo.toNat).flatten++(css.drop lo.toNat).flatten:=by rw[<-oN,mx]
    have J:=X (L:=css.take lo.toNat) λcs f=>hlz cs (jP f);rw[s,xX (by rw[J,aX];omega),cu (by rw[J,aX];omega)]
   have hm:=po (List.replicate (xs.length-lo.toNat) (.slice none 0 0)) (css.flatten.take lo.toNat) (css.flatten.drop lo.toNat) [] (by rw[T_,cd,p]);rw[bm,mx,bm,aX,p,eq om] at hm;rw[show 0+lo.toNat+0=lo.toNat by omega,hm,F] at r2;rw[oN,List.flatten_replicate_singleton];exact r2
  ·rw[bN (by rw[aX];omega),bO,if_pos I] at f;exact⟨xs[j]'om,x_ om,Rp.stp (q4 j cs _ f (x_ om)) r3 hk⟩
theorem vh{d:Option Nat}{b:Operand}{f:FuncId}{xs:List Operand}{vs:List Value}{j:Array TypeId}{C:Ending->World->Prop}(s:Calls P f vs.toArray w C)(a:∀args w,(callFunc f args).run P w=.ok (.enter f args) w)(p:ev l b=some (.func (.func f) #[] #[]))(q:EvL l xs vs)
  (h:∀e w',C e w'->∃v,e=.returned v∧R v w'):op1 P ⟨d,.call {callee:=.value b,args:=xs.toArray,argTypes:=j},ty,ps,af,g⟩ n l w R:=by
 refine nQ (f:=f) (args:=vs.toArray) (λρ m=>?_) s h;simp only[execOp,resolve,aF,m b _ p,Deferred.ofValue,bt,aL,invoke,et,EvL.map m q];simp[a]
def nn(i:Int):Option Unit:=if 0<=i then some () else none
theorem qj{i:Int}{x:Unit}(h:nn i=some x):0<=i:=by
 unfold nn at h;split at h
 ·assumption
 ·cases h
def PreF(v:Value)(lo:Int):Prop:=∃a n c,v=.slice a n c∧0<=lo∧lo<=c
theorem wn{zs:List Pv}(h:Ow B e k o w v xs)(f:cut xs 0 lo=some zs):PreF v lo:=by
 obtain⟨a,c,rfl⟩:=h.form;obtain⟨p,m,s,j,b,q⟩:=oC h.z f;exact⟨a,_,c,rfl,j,b⟩
theorem tX{d:Option Nat}{t j:TypeId}{x hi:Operand}(h:PreF v lo)(s:ev l x=some v)(b:ev l hi=some (.int .i64 lo))(p:P.underlying t=some (.slice j))(y:∀w,(sizeOf j).run P w=.ok 1 w):
  ∀ρ,Agr ρ l->(execOp ρ ⟨d,.slice t x none (some hi) none,ty,ps,af,g⟩).run P w=.ok (.value (prev v lo.toNat)) w:=by
 obtain⟨a,n,c,rfl,q,m⟩:=h;intro ρ f;have:=ov (P:=P) (w:=w) (a:=a) (n:=n) (c:=c) (lo:=none) (hi:=some (.int .i64 lo)) (lo':=0) (hi':=lo) p y (.inr ⟨rfl,rfl⟩) (.inl rfl) om q m;simp only[execOp,f x _ s,f hi _ b,aF,this,aL,oO,cn];rfl
end
end
section
structure RawN (n:Nat) where
  cs:List Value
  len:cs.length=n+1
  one:∀c∈cs,c.oneCell'=true
instance (n:Nat):Rp (RawN n) where
  sz:=n+1
  pos:=Nat.succ_pos n
  rd o w cs x:=cs=x.cs
  len h:=by rename_i x;subst h;exact x.len
  one h:=by rename_i x;subst h;exact x.one
  mv h _ _:=h
section
variable {P:Program} {n:Nat} {l:List (Nat×Value)} {w w0:World} {o oo:Tg} {α:Type} [Rp α] {d:Nat} {ty:TypeId} {ps:String} {af:Array Edge} {g:Option (Nat×Bool)} {R:Value->World->Prop}
variable {B k k2:Nat} {e:TypeId} {v v2 u:Value} {xs ys zs:List α} {lo hi i:Int} {x1:α}
theorem Ay(a:Option Addr)(h m s:Nat):sliced a 0 h m s=sliced a 0 h m 1:=by simp[sliced]
theorem AY{t j:TypeId}{x hi':Operand}{y:Option Nat}(h:Ow B e k o w v xs)(m:cut xs 0 hi=some ys)(C:ev l x=some v)(b:ev l hi'=some (.int .i64 hi))(s:P.underlying t=some (.slice j))(p:∀w,(sizeOf j).run P w=.ok (Rp.sz α) w):
  ∀ρ,Agr ρ l->(execOp ρ ⟨y,.slice t x none (some hi') none,ty,ps,af,g⟩).run P w=.ok (.value (prev v hi.toNat)) w:=by
 obtain⟨a,c,rfl⟩:=h.form;obtain⟨D,E,G,A,q,F⟩:=oC h.z m;intro ρ f;have:=ov (P:=P) (w:=w) (a:=a) (n:=xs.length) (c:=c) (lo:=none) (hi:=some (.int .i64 hi)) (lo':=0) (hi':=hi) s p (.inr ⟨rfl,rfl⟩) (.inl rfl) om A q;rw[show((0:Int)).toNat=0 from rfl,Ay] at this;simp only[execOp,f x _ C,f hi' _ b,aF,this,aL,oO,cn];rfl
theorem rU{s:Nat}:∀{css:List (List Value)}(m:Nat),(∀cs∈css,cs.length=s)->m<=css.length->(css.take m).flatten=css.flatten.take (m*s)∧(css.take m).flatten.length=m*s
 |css,0,_,_=>by simp
 |[],m+1,_,h=>by simp at h
 |c::css,m+1,b,q=>by
  obtain⟨p,f⟩:=rU (css:=css) m (λx t=>b x (sh t)) (su q);have a:=b c sy;have j:(m+1)*s=s+m*s:=by rw[dU,qV]
  rw[bi,br,br,ar,f,p,a,j];refine⟨?_,rfl⟩;rw[xY,a,cu (l:=c) (by rw[a];exact Fz _ _),FA]
theorem Ow.pre(h:Ow B e k o w v xs)(G:cut xs 0 hi=some ys):Ow B e k o w (prev v hi.toNat) ys:=by
 have f:=h.tagged;obtain⟨css,A,C,T,E⟩:=h;obtain⟨W,O,S,rfl⟩:=jE G;have y:=Ow.lens (e:=e) (B:=B) A E;have m:((xs.take hi.toNat).drop (0:Int).toNat)=xs.take hi.toNat:=sy;obtain⟨K,L⟩:=rU (css:=css) hi.toNat y om;rw[m];refine⟨css.take hi.toNat,by rw[aX,aX,A],?_,λg a=>?_,λj cs u s D=>?_⟩
 ·have x:(xs.take hi.toNat).length=hi.toNat:=by rw[aX];omega
  rw[x];obtain⟨Q,I⟩:=C;refine⟨L,?_⟩;rcases I with⟨rfl,U⟩|⟨q,cap,p,rfl,N,H,V,F,M,J⟩
  ·exact .inl ⟨by unfold prev sliced;simp only;rw[show hi.toNat=0 by omega];simp,om⟩
  ·refine .inr ⟨q,cap,p,?_,N,H,om,F,M,?_⟩
   ·unfold prev sliced;simp only
    by_cases b:cap=0
    ·rw[if_pos b,du,du]
    ·rw[if_neg b,cn,ff,Addr.add_zero',du,du]
   ·rw[K,<-J,fZ,eq (qQ _ om)]
 ·refine f g ?_;rcases C.2 with⟨rfl,_⟩|⟨q,cap,p,rfl,_⟩
  ·unfold prev sliced at a;simp only at a;split at a<;>simp[Value.ownBlock] at a
  ·have:(prev (.slice (some ⟨q,0,none⟩) xs.length cap) hi.toNat).ownBlock=some q:=by
    unfold prev sliced;simp only
    split
    ·rfl
    ·simp only[cn,Value.ownBlock,ff];unfold Addr.add;split<;>rfl
   rw[this] at a;exact a
 ·have t:j<hi.toNat:=by
   have:=(Y_.1 s).1;rw[aX] at this;omega
  rw[qW t] at s D;exact E j cs u s D
theorem RdL.plc{p:Tg}{j:World}(h:RdL p j v xs)(hi:ix xs i=some x1):∃b off m c,v=.slice (some ⟨b,off,none⟩) m c:=by
 obtain⟨a,c,rfl⟩:=h.form;obtain⟨q,s,f⟩:=dR hi;obtain⟨b,off,cs,rfl,_⟩:=h.at f;exact⟨b,off,_,c,rfl⟩
theorem Dg{s:TypeId}{f k:Nat}{j:Array Field}{a:Field}{x:Operand}{m:Nat}{d:Option Nat}(t:∃b off m c,v=.slice (some ⟨b,off,none⟩) m c)(C:ev l x=some (adr v m))(y:P.underlying s=some (.struct j))(A:j[f]? =some a)
  (q:∀w,(sizeOf a.type).run P w=.ok (k+1) w) (p:R (adr v (m+a.offset)) w):op1 P ⟨d,.fieldAddr s x f,ty,ps,af,g⟩ n l w R:=by
 obtain⟨b,off,D,c,rfl⟩:=t;have h:ev l x=some (.pointer (some ⟨b,off+m,none⟩)):=C;refine M_ (s_ (d:=d) h y A q) ?_;have e:adr (.slice (some ⟨b,off,none⟩) D c) (m+a.offset)=.pointer (some ⟨b,off+m+a.offset,none⟩):=by
  show Value.pointer (some ⟨b,off+(m+a.offset),none⟩)=_;rw[qX]
 rw[<-e];exact p
theorem DD{x:Operand}{t:TypeId}{j:Nat}{d:Option Nat}(h:RdL o w v xs)(hi:ix xs i=some x1)(C:j<Rp.sz α)(D:ev l x=some (adr v (i.toNat*Rp.sz α+j)))(m:∀w,(isAgg t).run P w=.ok false w)
  (s:∀cs c,Rp.rd o w cs x1->cs[j]? =some c->R c w):op1 P ⟨d,.load t x,ty,ps,af,g⟩ n l w R:=by
 obtain⟨a,c,rfl⟩:=h.form;obtain⟨F,E,A⟩:=dR hi;obtain⟨b,off,cs,rfl,y,q,_⟩:=h.at A;have p:j<cs.length:=by rw[Rp.len q];exact C
 have f:w.cell? ⟨b,off+(i.toNat*Rp.sz α+j),none⟩=some cs[j]:=by
  rw[<-qX];exact y j _ (x_ p)
 exact M_ (e_ D m f) (s cs _ q (x_ p))
end
end
structure ae where
  Problems:List c_
  Maps:List (List Int)
  Refusal:List (List Int)
  deriving DecidableEq
instance:Rp ae where
  sz:=3
  pos:=dc
  rd o w cs x:=∃v1 v2 v3,cs=[v1,v2,v3]∧RdL o w v1 x.Problems∧RdL o w v2 x.Maps∧RdL o w v3 x.Refusal
  len h:=by obtain⟨v1,v2,v3,rfl,h1,h2,h3⟩:=h;rfl
  one h:=by
    obtain⟨v1,v2,v3,rfl,h1,h2,h3⟩:=h
    intro c hc
    simp only[I_,P_,or_false] at hc
    rcases hc with rfl|rfl|rfl<;>first|exact h1.one1|exact h2.one1|exact h3.one1
  mv h hs hb:=by obtain⟨v1,v2,v3,rfl,h1,h2,h3⟩:=h;exact⟨v1,v2,v3,rfl,h1.mv hs hb,h2.mv hs hb,h3.mv hs hb⟩
instance:Rz ae:=⟨⟨[],[],[]⟩,[.slice none 0 0,.slice none 0 0,.slice none 0 0],λo w=>⟨_,_,_,rfl,RdL.nil o w,RdL.nil o w,RdL.nil o w⟩⟩
instance:Ar c_:=⟨λw vs x=>∃cs:List Value,vs=[.agg cs.toArray]∧Rp.rd zt w cs x⟩
theorem pf:Inf Gz 51 (.slice none 0 0) 1 24:=by unfold Inf;kernel_rfl
theorem bu:(Gz.info? 31).map (·.size)=some 4:=by kernel_rfl
def fm(b:List c_)(c:c_->Option Bool):Int->Unit->Option (Lo Unit Int):=λa s=>(ix b a)>>=λd=>(c d)>>=λf=>if f then some (.ret a) else some (.go ())
def jZ(a:List c_)(b:c_->Option Bool):Option Int:=ck (a.length:Int)>>=λ_=>(forN (fm a b) ((a.length:Int)).toNat 0 ())>>=λc=>match c with| .inl _=>some (-1)| .inr d=>some d
theorem yv(w:World)(c:Value)(d:List c_)(u:RdL zt w c d)(k:Value)(m:c_->Option Bool)(y:FnV Gz w k m)(r:Int)(f:jZ d m=some r):
    Calls Gz 117 #[c,k] w (aT w r):=by
 unfold jZ at f;have b:Bs (λ_=>1) (col (λ_=>1)) w w:=Bs.start _ _;refine y_ (n:=19) (vs:=[c,k]) Tryz.func117 rfl rfl ?_;refine Zq (Za rfl (Zy (b_ (Zq (Zm rfl (Zv (C_ rfl u GL) (Zm rfl (Zy ?_))))))));obtain⟨g,g,f⟩:=a_ f;obtain⟨-,i,i⟩:=bl g;obtain⟨q,v,f⟩:=a_ f;refine D_ (λa j=>∃(i:Tg),q=.inl ()∧Fr a 19 []∧Bs (λ_=>1) i w j) (λa w'=>∃s,q=.inr s∧bodyPost Gz Tryz.f117 (aT w s) .ret a w') ?_ ?_ ?_
 ·refine k_ ?_;refine B_ (λ(K:Nat) a j=>∃(g:Int),∃(i:Tg),forN (fm d m) ((d.length:Int)-g).toNat g ()=some q∧((d.length:Int)-g).toNat=K∧0<=g∧Fr a 19 [(0,c),(1,k),(7,ZI (d.length:Int)),(8,ZI g)]∧Bs (λ_=>1) i w j) _ (λa c=>⟨0,col (λ_=>1),(by rw[bU];exact v),rfl,N_ 0,c.sb,b⟩) ?_;rintro k a j ⟨g,i,q,z,k,c,b⟩;by_cases k:g<(d.length:Int)
  ·obtain⟨d,d,v⟩:=bB k q;dsimp only[fm] at d;refine q_ c ?_;refine Zq (Zv (o_ rfl rfl) (Zy (b_ ?_)));refine R_ (Zb (decide_eq_true k)) ?_;refine f_ (nx (b_ (k_ (Zq (Zm rfl (Za rfl (Ze [(0,_),(1,_),(5,_),(7,_),(8,_)] (Zn (Zm rfl (Zm rfl (Zm rfl ?_)))))))))));obtain⟨m,e,d⟩:=a_ d;refine Zo ?_;refine wf_atZ u e b rfl rfl GL GD ?_;intro u u u u e;obtain⟨h,l,rfl,o,p⟩:=e;refine Zv (F_ rfl GG GD rfl u) ?_;obtain⟨u,u,d⟩:=a_ d;refine Zo ?_;refine eZ (x:=m) (vs:=[.agg #[ZI m.Labels,ZI m.Degree,h,l]]) (y.keep b.keeps) u ⟨_,rfl,⟨_,_,rfl,o.keep b.keeps,p.keep b.keeps⟩⟩ rfl ⟨rfl,trivial⟩ ?_;intro m m;have u:=m.stp 999 i;replace b:=b.stp u;refine Zy ?_;refine Zi rfl d (λm d=>?_) (λm d=>?_)
   ·refine Zq (Zm rfl (Za rfl (Zy (i_ (L_ (t_ (t_ (L_ ?_))))))));refine aB ?_;obtain rfl:=Zj d;refine λa c=>⟨_,v,?_⟩;refine J_ (P:=Gz) (vs:=[ZI g]) Ju ⟨rfl,trivial⟩ ?_ a c;exact⟨rfl,b.keeps⟩
   ·refine f_ (w_ (nx (h_ (Zv (u_ rfl rfl (n_ om om)) (Zm rfl (Zf (v_ ?_)))))));obtain rfl:=Zj d;refine Zk [(0,_),(1,_),(7,_),(8,_)] ?_;intro a c;exact⟨_,(by rw[<-z];omega),g+1,i,v,rfl,om,c,b⟩
  ·have d:=bA k q;refine q_ c ?_;refine Zq (Zv (o_ rfl rfl) (Zy (b_ ?_)));refine Q_ (Zb (decide_eq_false k)) ?_;refine z_ ?_;refine g_ (g_ (A_ ?_));refine r_ ?_;refine Zk [] ?_;intro a c;exact⟨i,d,c,b⟩
 ·rintro a j ⟨i,rfl,c,b⟩;dsimp only at f;refine ap_k c ?_;refine Zn (Za rfl (Zy (i_ ?_)));obtain rfl:=Zj f;refine Zr Ju [ZI (-1)] ?_;exact⟨rfl,b.keeps⟩
 ·rintro a j ⟨s,rfl,b⟩;dsimp only at f;obtain rfl:=Zj f;exact b
def mF(a:List c_)(b:c_->Option Bool):Option Bool:=(jZ a b)>>=λc=>some (decide (c>=0))
theorem yu(w:World)(c:Value)(d:List c_)(i:RdL zt w c d)(f:Value)(g:c_->Option Bool)(j:FnV Gz w f g)(r:Bool)(b:mF d g=some r):
    Calls Gz 78 #[c,f] w (ab w r):=by
 unfold mF at b;have a:Bs (λ_=>1) (col (λ_=>1)) w w:=Bs.start _ _;refine y_ (n:=9) (vs:=[c,f]) Tryz.func78 rfl rfl ?_;refine Zq (Za rfl (Ze [(0,_),(1,_)] (Zn (Zm rfl (Zm rfl ?_)))));obtain⟨c,f,b⟩:=a_ b;refine Zo ?_;refine j_ (yv w _ d (i.keep a.keeps) _ g (j.keep a.keeps) c f) Tryz.call117 ⟨rfl,rfl,trivial⟩ ?_;rintro d d ⟨rfl,d⟩;have f:=d.stp 999 (col (λ_=>1));refine⟨_,rfl,?_⟩;replace a:=a.stp f;refine Zv (da rfl rfl) (Za rfl (Zy (i_ ?_)));obtain rfl:=Zj b;refine Zr Tryz.results78 [.bool (decide (c>=0))] ?_;exact⟨rfl,a.keeps⟩
def dh(b:Nat)(a:c_)(c:List c_):Option Bool:=((dF b a)>>=λd=>if !d then some true else(ix c 0)>>=λf=>some (a.Degree !=f.Degree))>>=λg=>some g
theorem zk(z:Nat)(w:World)(d:List Value)(g:c_)(j:Rp.rd zt w d g)(b:Nat)(f:List Value)(k:List c_)(G:Cells w b 0 f)(i:Rp.rd zt w f k)(r:Bool)(y:dh z g k=some r):
    Calls Gz 79 #[.agg d.toArray,.pointer (some ⟨b,0,none⟩)] w (ab w r):=by
 unfold dh at y;obtain⟨m,q,rfl,t,A⟩:=j;have d:=i;obtain⟨d,rfl,H⟩:=i;have d:Bs (λ_=>1) (col (λ_=>1)) w w:=Bs.start _ _;refine y_ (n:=16) (vs:=[.agg #[ZI g.Labels,ZI g.Degree,m,q],ZP b]) Tryz.func79 rfl rfl ?_;refine Zq (Zo ?_);refine Z_ (o:=(col (λ_=>1))) w.heap.size 11 d.keeps.size (cs:=[ZI g.Labels,ZI g.Degree,m,q]) rfl rfl ?_;intro b s l u b;replace d:=d.stp b;refine Za rfl (Zy (b_ ?_));obtain⟨B,i,y⟩:=a_ y;refine D_ (λb C=>∃D:Tg,Fr b 16 [(3,.bool B)]∧Bs (λ_=>1) D w C) (λ_ _=>False) ?_ ?_ (λ_ _ h=>h.elim)
 ·obtain⟨j,E,i⟩:=a_ i;rcases aw (!j) with f|f
  ·rw[if_pos f] at i;refine ZW (Bf:=λx s=>Bs (λ_=>1) x w s∧Bz w 11 x s l 31 [ZI g.Labels,ZI g.Degree,m,q]) [(1,_),(2,_)] (Zrg 4 10) [[],[0],[1],[2],[3],[3],[3],[3],[3],[3]] (Zcn 10) (Zt9 10) (Zt0 10) [999] [.inl (.agg #[ZI g.Labels,ZI g.Degree,m,q]),.inl (.bool j),.inl (.bool (!j)),.inl (.bool (!j)),.inl undef,.inl undef,.inl undef,.inl undef,.inl undef,.inl undef] ⟨d,u⟩ trivial ?_ ?_
   ·refine⟨Dq λh=>F_ rfl GG GD rfl h.2.cells,?_,Dp (ag rfl),Dp (d_ rfl),Dn rfl rfl rfl (by rw[f];rfl),Dn rfl rfl rfl (by rw[f];rfl),Dn rfl rfl rfl (by rw[f];rfl),Dn rfl rfl rfl (by rw[f];rfl),Dn rfl rfl rfl (by rw[f];rfl),Dn rfl rfl rfl (by rw[f];rfl),trivial⟩
    ·rintro p F b b ⟨d,u⟩-;refine Zs b ?_;refine j_ (fH z F _ g (⟨_,_,rfl,t.keep d.keeps,A.keep d.keeps⟩) j E) He ⟨rfl,trivial⟩ ?_;rintro F F ⟨rfl,F⟩;have I:=F.stp 999 p;refine⟨_,rfl,?_⟩;exact⟨_,I,rfl⟩
   rintro _ rfl p F F b ⟨d,u⟩-;refine O_ b ?_;refine Zd f ?_;refine Zv (aj (Zb f) rfl) (Za rfl ?_);obtain rfl:=Zj i;refine Ze [(3,_)] ?_;refine r_ (λa b=>⟨p,b,d⟩)
  ·replace i:=ZF f i;obtain⟨F,p,i⟩:=a_ i;refine ZW (Bf:=λx s=>Bs (λ_=>1) x w s∧Bz w 11 x s l 31 [ZI g.Labels,ZI g.Degree,m,q]) [(1,_),(2,_)] (Zrg 4 10) [[],[0],[1],[2],[3],[3,4],[3],[3,6],[3,7],[3,8]] (Zcn 10) (Zt9 10) (Zt0 10) [999] [.inl (.agg #[ZI g.Labels,ZI g.Degree,m,q]),.inl (.bool j),.inl (.bool (!j)),.inl (.bool (!j)),.inl (.pointer (some ⟨l,0+1,none⟩)),.inl (ZI g.Degree),.inr (λv o m=>RdL zt w v k),.inr (λv o m=>∃vl,v=adr vl ((0:Int).toNat*Rp.sz c_)∧RdL zt w vl k),.inr (λv o m=>∃vl,v=adr vl ((0:Int).toNat*Rp.sz c_+1)∧RdL zt w vl k),.inl (ZI F.Degree)] ⟨d,u⟩ ⟨λ_ _ _ _ _ _ m hb h hs=>h,λ_ _ _ _ _ _ m hb ⟨vl,e,h⟩ hs=>⟨vl,e,h⟩,λ_ _ _ _ _ _ m hb ⟨vl,e,h⟩ hs=>⟨vl,e,h⟩,trivial⟩ ?_ ?_
   ·refine⟨Dq λh=>F_ rfl GG GD rfl h.2.cells,?_,Dp (ag rfl),Dp (d_ rfl),Dp (s_ rfl GF rfl GB) (⟨_,rfl,Zb f⟩),Dq (λh=>e_ rfl GC (h.2.cell rfl)) (⟨_,rfl,Zb f⟩),?_,?_,?_,?_,trivial⟩
    ·rintro m q s b ⟨d,u⟩-;refine Zs b ?_;refine j_ (fH z q _ g (⟨_,_,rfl,t.keep d.keeps,A.keep d.keeps⟩) j E) He ⟨rfl,trivial⟩ ?_;rintro g g ⟨rfl,g⟩;have j:=g.stp 999 m;refine⟨_,rfl,?_⟩;exact⟨_,j,rfl⟩
    ·rintro g g g b ⟨d,-⟩-;refine bJ b (⟨_,rfl,Zb f⟩) ?_;refine M_ (e_ rfl GZ (G_ (G.keep d.keeps))) ?_;exact⟨_,Stp.refl _ _ _,H⟩
    ·rintro g g j b- ⟨g,-⟩;replace g:RdL zt w (j.tmps.getD 10 undef) k:=g;generalize k:j.tmps.getD 10 undef=j at g;have b:=b.c k;refine bJ b (⟨_,rfl,Zb f⟩) ?_;refine aN g p rfl rfl GL GD ?_;exact⟨_,Stp.refl _ _ _,⟨_,rfl,g⟩⟩
    ·rintro g g g b- ⟨j,-⟩;obtain⟨g,k,g⟩:=j;have b:=b.c k;refine bJ b (⟨_,rfl,Zb f⟩) ?_;refine Dg (RdL.plc g p) rfl GF rfl GB ?_;exact⟨_,Stp.refl _ _ _,⟨_,rfl,g⟩⟩
    ·rintro g g g b ⟨d,-⟩ ⟨g,-⟩;obtain⟨j,j,k⟩:=g;have b:=b.c j;refine bJ b (⟨_,rfl,Zb f⟩) ?_;refine DD (k.keep d.keeps) p (of_decide_eq_true rfl) rfl GC ?_;intro g j k g;obtain⟨m,m,rfl,m,m⟩:=k;replace g:some (ZI F.Degree)=some j:=g;cases g
     exact Zx rfl
   rintro _ rfl g j j b ⟨d,u⟩-;refine O_ b ?_;refine m_ (aP rfl rfl) dc ⟨_,rfl,Zb f⟩ (Zv (aa (Zb f) rfl) (Za rfl ?_));obtain rfl:=Zj i;refine Ze [(3,_)] ?_;refine r_ (λa b=>⟨g,b,d⟩)
 rintro f C ⟨D,b,d⟩;refine ap_k b ?_;refine nx (i_ ?_);obtain rfl:=Zj y;refine Zr Tryz.results79 [.bool B] ?_;exact⟨rfl,d.keeps⟩
def kQ(b:Nat)(a:List c_):Option Bool:=(dl (a.length:Int) 1 7)>>=λc=>if !c then some false else(mF a (λd=>dh b d a))>>=λf=>some (!f)
theorem zV(g:Nat)(w:World)(d:Value)(c:List c_)(i:RdL zt w d c)(r:Bool)(b:kQ g c=some r):
    Calls Gz 45 #[d] w (ab w r):=by
 unfold kQ at b;have a:Bs (λ_=>1) (col (λ_=>1)) w w:=Bs.start _ _;refine y_ (n:=11) (vs:=[d]) Tryz.func45 rfl rfl ?_;refine Zq (Zo ?_);refine Z_ (o:=(col (λ_=>1))) w.heap.size 11 a.keeps.size (cs:=[d]) i.cells1 rfl ?_;intro q k j f m;replace a:=a.stp m;refine Za rfl (Zy (b_ (Zq (Zv (e_ rfl GZ (f.cell rfl)) (Zv (C_ rfl i GL) ?_)))));obtain⟨m,s,b⟩:=a_ b;refine Zo ?_;refine j_ (fM k (c.length:Int) 1 7 m s) Tryz.call21 ⟨rfl,rfl,rfl,trivial⟩ ?_;rintro k k ⟨rfl,m⟩;have s:=m.stp 999 q;refine⟨_,rfl,?_⟩;obtain⟨f,a⟩:=ZS s (A2 f a);refine Zv (ag rfl) (Zy ?_);refine Zi rfl b (λm b=>?_) (λm b=>?_)
 ·refine Zq (Za rfl (Zy (i_ (t_ ?_))));obtain rfl:=Zj b;refine Zr Jv [.bool false] ?_;exact⟨rfl,a.keeps⟩
 ·refine f_ (Zn (Zv (e_ rfl GZ (f.cell rfl)) (Zv (em (vs:=[ZP j]) ⟨rfl,trivial⟩) ?_)));obtain⟨s,u,b⟩:=a_ b;refine Zo ?_;refine j_ (yu k _ c (i.keep a.keeps) _ (λm=>dh g m c) (show FnV Gz k (.func (.func 79) #[] #[ZP j]) (λm=>dh g m c) from ⟨_,_,rfl,Tryz.call79,λww vs xx rr kk hok hG=>by(obtain⟨m,rfl,m⟩:=hok;exact zk g ww _ xx m j _ c ((f.cells).keep kk) (Rp.keep ((show Rp.rd zt k [d] (c:List c_) from fW (i.keep a.keeps))) kk) rr hG)⟩) s u) Tryz.call78 ⟨rfl,rfl,trivial⟩ ?_;rintro c c ⟨rfl,c⟩;have d:=c.stp 999 q;refine⟨_,rfl,?_⟩;replace a:=a.stp d;refine Zv (ag rfl) (Za rfl (Zy (i_ ?_)));obtain rfl:=Zj b;refine Zr Jv [.bool (!s)] ?_;exact⟨rfl,a.keeps⟩
def lg:Int->Yl->Yk->Option (Lp Yk Yk Yk):=λd a s=>(ch a)>>=λb=>(push s b)>>=λc=>some (.go c)
def jl(a:Yk):Option Yk:=(forI (lg) a 0 [])>>=λb=>match b with| .inl c=>some c| .inr _=>none
def ux(f:Tg)(t:Nat)(w:World)(r:Yk):Ending->World->Prop:=λe w'=>∃(c:Value)(d:List Hv)(a:Tg),e=.returned (c)∧Ow w.heap.size 51 t a w' c d∧Rws w.heap.size 3 (t+1) a w' d r∧Keeps w w'∧∀b,b<w.heap.size->a b=f b
theorem um(w:World)(u:Tg)(t:Nat)(A:2<=t)(y:Value)(v:Yk)(j:RdL zt w y v)(r:Yk)(z:jl v=some r):
    Calls Gz 65 #[y] w (ux u t w r):=by
 unfold jl at z;have b:Bs u (col u) w w:=Bs.start _ _;refine y_ (n:=19) (vs:=[y]) Tryz.func65 rfl rfl ?_;generalize col u=o at*;refine Zq (Za rfl (Ze [(0,_)] (Zn (Za rfl (Zy (b_ (Zq (Zm rfl (Zv (C_ rfl j GE) (Zm rfl (Ze [(3,_),(6,_),(7,_),(8,_)] ?_)))))))))));refine nx ?_;have F:Oz w 51 11 o w (.slice none 0 0) ([]:List Hv):=Ow.nil _ _ _ _ _;have G:Rq w 3 12 o w [] ([]:Yk):=Rws.nil _ _ _ _ _;obtain⟨A,H,z⟩:=a_ z;refine D_ (λa f=>∃q k g c,A=.inl q∧Fr a 19 [(3,k)]∧Bs u c w f∧Oz w 51 11 c f k g∧Rq w 3 12 c f g q) (λ_ _=>False) ?_ ?_ ?_
 ·refine k_ ?_;refine B_ (λ(K:Nat) a f=>∃(m:Int),∃q k g c,forI (lg) (v.drop m.toNat) m q=some A∧(v.drop m.toNat).length=K∧0<=m∧Fr a 19 [(3,k),(6,y),(7,ZI (v.length:Int)),(8,ZI m)]∧Bs u c w f∧Oz w 51 11 c f k g∧Rq w 3 12 c f g q) _ (λa i=>⟨0,[],.slice none 0 0,[],o,H,rfl,N_ 0,i.sb,b,F,G⟩) ?_;rintro A a f ⟨m,q,k,g,c,B,I,A,i,b,s,d⟩;by_cases l:m<(v.length:Int)
  ·obtain⟨F,G,G,x,J⟩:=ai A l B;have A:=j.len_le;dsimp only[lg] at x;refine q_ i ?_;refine Zq (Zv (o_ rfl rfl) (Zy (b_ ?_)));refine R_ (Zb (decide_eq_true l)) ?_;refine f_ (nx (b_ (k_ (Zq (Zo ?_)))));refine wf_atZ j G b rfl rfl GE GH ?_;intro j j j j A;obtain⟨G,rfl,G⟩:=A;refine Zv (e_ rfl GJ (G_ j)) (Za rfl (Zy (h_ (Zm rfl (Zm rfl ?_)))));obtain⟨j,A,x⟩:=a_ x;refine Zo ?_;refine j_ (cZ f c 13 dc _ F (G.keep b.keeps) j A) Tryz.call63 ⟨rfl,trivial⟩ ?_;rintro j j ⟨e,A,rfl,j,F,G⟩;have H:=F.stp' 13 G;replace j:=j.mono b.keeps.size;refine⟨_,rfl,?_⟩;obtain⟨s,d,b⟩:=ZS H (A3 s d b);refine Zo ?_;refine ap (o:=A) (cs:=[e]) (xs:=([⟨e⟩]:List Hv)) (vs:=[(0,e)]) ⟨_,_,rfl,bY j,rfl⟩ rfl ⟨rfl,rfl,trivial⟩ GE GH GO dc (fill1 j.cells1) sy ?_;intro A A A A F G;obtain⟨s,d,j,b⟩:=ZS F (A4 s d j b);obtain⟨L,F,x⟩:=a_ x;obtain⟨G,H⟩:=d.pushV F e;refine Zo ?_;refine am s A (av G) dc b.keeps.size rfl rfl GE pf rfl dc ?_;intro C A D p A;obtain⟨d,j,b⟩:=ZS A (A3 d j b);have E:=d.push j dc dc;rw[<-H] at E;clear d j;have j:=bL 13 12 C;replace p:=p.rc j dc dc;replace b:=b.rc j dc;generalize mrg 13 12 C=M at*;refine Za rfl (Ze [(3,D),(6,y),(7,ZI (v.length:Int)),(8,ZI m)] (w_ (nx (h_ (Zv (u_ rfl rfl (n_ om om)) (Zm rfl (Zf (v_ ?_))))))));obtain rfl:=Zj x;refine Zk [(3,_),(6,_),(7,_),(8,_)] ?_;intro a i;exact⟨_,(by rw[<-I];simp only[T_];omega),m+1,L,D,g++[⟨e⟩],M,J,rfl,om,i,b,p,E⟩
  ·have j:=ak l B;refine q_ i ?_;refine Zq (Zv (o_ rfl rfl) (Zy (b_ ?_)));refine Q_ (Zb (decide_eq_false l)) ?_;refine z_ ?_;refine g_ (g_ (A_ ?_));refine r_ ?_;refine Zk [(3,_)] ?_;intro a i;exact⟨q,k,g,c,j,i,b,s,d⟩
 ·rintro a f ⟨q,k,g,c,rfl,i,b,s,d⟩;dsimp only at z;refine ap_k i ?_;refine Zn (Zm rfl (Za rfl (Zy (i_ ?_))));obtain rfl:=Zj z;refine Zr Tryz.results65 [k] ?_;exact⟨_,g,rt2 u c w.heap.size 11 12 t,rfl,s.rt2 b dc dc t,d.rt2 b dc dc dc t,b.keeps,cB _ _ _ _ _ _⟩
 ·exact λ_ _ h=>h.elim
def mc(a:c_):Option c_:=(jl a.Nodes)>>=λb=>(jl a.Edges)>>=λc=>some (⟨a.Labels,a.Degree,b,c⟩:c_)
def vd(d:Tg)(t:Nat)(w:World)(r:c_):Ending->World->Prop:=λe w'=>∃(a:List Value)(c:Tg),e=.returned (.agg a.toArray)∧Rp.rd c w' a r∧Dz 51 3 c w' (a.getD 2 undef) r.Nodes∧Dz 51 3 c w' (a.getD 3 undef) r.Edges∧Keeps w w'∧∀b,b<w.heap.size->c b=d b
theorem Df(w:World)(j:Tg)(t:Nat)(s:2<=t)(s:List Value)(b:c_)(p:Rp.rd zt w s b)(r:c_)(k:mc b=some r):
    Calls Gz 38 #[.agg s.toArray] w (vd j t w r):=by
 unfold mc at k;obtain⟨u,l,rfl,q,J⟩:=p;have a:Bs j (col j) w w:=Bs.start _ _;refine y_ (n:=14) (vs:=[.agg #[ZI b.Labels,ZI b.Degree,u,l]]) Tryz.func38 rfl rfl ?_;generalize col j=o at*;refine Zq (Zo ?_);refine Z_ (o:=o) w.heap.size 11 a.keeps.size (cs:=[ZI b.Labels,ZI b.Degree,u,l]) rfl rfl ?_;intro D F d m E;replace a:=a.stp E;refine Zo ?_;refine au (o:=D) w.heap.size 12 a.keeps.size (cs:=[ZI 0,ZI 0,.slice none 0 0,.slice none 0 0]) Tryz.zeroValue31 rfl ?_;intro s s K s p;obtain⟨m,a⟩:=ZS p (A2 m a);refine Zy (b_ ?_);obtain⟨D,L,k⟩:=a_ k;obtain⟨E,M,k⟩:=a_ k;refine ZW (Bf:=λp F=>Bs j p w F∧Bz w 11 p F d 31 [ZI b.Labels,ZI b.Degree,u,l]∧Bz w 12 p F K 31 [ZI 0,ZI 0,.slice none 0 0,.slice none 0 0]) [(1,_),(2,_)] (Zrg 3 10) [[],[0],[],[2],[],[4],[5],[],[7],[8]] (Zcn 10) (Zt9 10) (Zt0 10) [999] [.inl (.pointer (some ⟨d,0+0,none⟩)),.inl (ZI b.Labels),.inl (.pointer (some ⟨d,0+1,none⟩)),.inl (ZI b.Degree),.inl (.pointer (some ⟨d,0+2,none⟩)),.inl u,.inr (λv o u=>∃g:List Hv,Oz w 51 2026 o u v g∧Rq w 3 2027 o u g D),.inl (.pointer (some ⟨d,0+3,none⟩)),.inl l,.inr (λv o u=>∃g:List Hv,Oz w 51 2030 o u v g∧Rq w 3 2031 o u g E)] ⟨a,m,s⟩ ⟨λ_ _ _ _ _ _ d hb ⟨g,h,q⟩ hs=>⟨g,h.stp hs d.1 (ce (bP d.2 dc)),q.stp hs d.1 (ce (bP d.2 dc))⟩,λ_ _ _ _ _ _ d hb ⟨g,h,q⟩ hs=>⟨g,h.stp hs d.1 (ce (bP d.2 dc)),q.stp hs d.1 (ce (bP d.2 dc))⟩,trivial⟩ ?_ ?_
 ·refine⟨Dp (s_ rfl GF rfl GB),Dq λh=>e_ rfl GC (h.2.1.cell rfl),Dp (s_ rfl GF rfl GB),Dq λh=>e_ rfl GC (h.2.1.cell rfl),Dp (s_ rfl GF rfl GI),Dq λh=>e_ rfl GK (h.2.1.cell rfl),?_,Dp (s_ rfl GF rfl GI),Dq λh=>e_ rfl GK (h.2.1.cell rfl),?_,trivial⟩
  ·rintro u l d d ⟨a,m,s⟩-;refine Zs d ?_;refine j_ (um l u 2026 dc _ b.Nodes (q.keep a.keeps) D L) Jw ⟨rfl,trivial⟩ ?_;rintro q q ⟨q,q,q,rfl,q,u,l,p⟩;have F:=l.stp' 999 p;replace q:=q.mono a.keeps.size;replace u:=u.mono a.keeps.size;refine⟨_,rfl,?_⟩;exact⟨_,F,⟨_,q,u⟩⟩
  ·rintro q u l d ⟨a,m,s⟩-;refine Zs d ?_;refine j_ (um u q 2030 dc _ b.Edges (J.keep a.keeps) E M) Jw ⟨rfl,trivial⟩ ?_;rintro q q ⟨q,q,q,rfl,q,u,l,p⟩;have F:=l.stp' 999 p;replace q:=q.mono a.keeps.size;replace u:=u.mono a.keeps.size;refine⟨_,rfl,?_⟩;exact⟨_,F,⟨_,q,u⟩⟩
 rintro _ rfl f q u d ⟨a,m,s⟩ ⟨l,p,-⟩;replace l:∃g:List Hv,Oz w 51 2026 f q (u.tmps.getD 9 undef) g∧Rq w 3 2027 f q g D:=l;generalize F:u.tmps.getD 9 undef=A at l;obtain⟨m,m,D⟩:=l;have d:=d.c F;replace p:∃g:List Hv,Oz w 51 2030 f q (u.tmps.getD 12 undef) g∧Rq w 3 2031 f q g E:=p;generalize q:u.tmps.getD 12 undef=B at p;obtain⟨u,i,x⟩:=p;have d:=d.c q;refine O_ d ?_;refine Zv (aK (vs:=[(0,ZI b.Labels),(1,ZI b.Degree),(2,A),(3,B)]) (cs:=[ZI b.Labels,ZI b.Degree,A,B]) ⟨rfl,rfl,rfl,rfl,rfl,rfl,rfl,rfl,trivial⟩ (by obtain⟨_,_,d⟩:=m.form;rw[d];obtain⟨_,_,d⟩:=i.form;rw[d];kernel_rfl)) ?_;refine E_ trivial ?_;refine X_ s rfl rfl rfl bu (by intro c hc;simp only[I_,P_,or_false] at hc;rcases hc with rfl|rfl|rfl|rfl<;>first|rfl|exact m.one1|exact i.one1) ?_;intro d y d;obtain⟨m,D,i,x,a⟩:=ZS d (A5 m D i x a);refine Zy (i_ ?_);have C:=Dz.of m D dc dc dc;have d:=bw 2026 f;have m:=bw 2027 (frz 2026 f);replace y:=(y.rc d dc).rc m dc;replace i:=(i.rc d dc dc).rc m dc dc;replace x:=(x.rc d dc dc).rc m dc dc;replace a:=(a.rc d dc).rc m dc;clear d m;generalize frz 2027 (frz 2026 f)=G at*;have H:=C.rd;have I:=Dz.of i x dc dc dc;have z:=bw 2030 G;have e:=bw 2031 (frz 2030 G);replace y:=(y.rc z dc).rc e dc;replace H:=(H.rc z dc).rc e dc;replace C:=(C.rc z dc).rc e dc;replace a:=(a.rc z dc).rc e dc;clear z e;generalize frz 2031 (frz 2030 G)=N at*;have O:=I.rd;obtain rfl:=Zj k;refine J_ (P:=Gz) (vs:=[.agg #[ZI b.Labels,ZI b.Degree,A,B]]) Tryz.results38 ⟨⟨_,rfl,ay GG GD rfl y.cells⟩,trivial⟩ ?_;exact⟨[ZI b.Labels,ZI b.Degree,A,B],rt j N w.heap.size 9 t,rfl,⟨_,_,rfl,H.rt a 9 t dc,O.rt a 9 t dc⟩,C.rt a 9 t dc,I.rt a 9 t dc,a.keeps,S_ _ _ _ _ _⟩
theorem cX:Inf Gz 51 (.slice none 0 0) 1 24:=by unfold Inf;kernel_rfl
def eK(a:Yk)(b:Yl):Int->Option (Lp Int Int Yk):=λs=>(if decide (s<(a.length:Int)) then(ix a s)>>=λc=>(fL c b)>>=λd=>some (decide (d<0)) else some false)>>=λf=>if f then(ck (s+1))>>=λg=>some (.go g) else some (.out s)
def iV(d:Nat)(a:Yk)(c:Yl):Option Yk:=(loopF (eK a c) d 0)>>=λf=>match f with| .inl b=>(if decide (b<(a.length:Int)) then(ix a b)>>=λg=>(jn g c)>>=λi=>some i else some false)>>=λj=>if j then some a else(cut a 0 b)>>=λk=>(cat ([]:Yk) k)>>=λm=>(push m c)>>=λn=>(cut a b a.length)>>=λq=>(cat n q)>>=λs=>some s| .inr _=>none
def pv(d:Tg)(t:Nat)(w:World)(r:Yk):Ending->World->Prop:=λe w'=>∃(a:Value)(c:Tg),e=.returned (a)∧RdL c w' a r∧Keeps w w'∧∀b,b<w.heap.size->c b=d b
theorem tc(g:Nat)(w:World)(s:Tg)(t:Nat)(x:2<=t)(u:Value)(e:Yk)(b:RdL s w u e)(q:Value)(y:Yl)(d:RdL s w q y)(r:Yk)(f:iV g e y=some r):
    Calls Gz 122 #[u,q] w (pv s t w r):=by
 unfold iV at f;replace b:=RdL.col b;replace d:=RdL.col d;have c:Bs s (col s) w w:=Bs.start _ _;refine y_ (n:=49) (vs:=[u,q]) Tryz.func122 rfl rfl ?_;generalize col s=o at*;refine Zq (Za rfl (Ze [(0,_),(1,_)] (Zn (Za rfl (Zy ?_)))));obtain⟨i,v,f⟩:=a_ f;refine eX (λa j=>∃(m:Int),∃(k:Tg),i=.inl m∧Fr a 49 [(0,u),(1,q),(5,ZI m)]∧Bs s k w j∧RdL k j u e∧RdL k j q y) (λ_ _=>False) ?_ ?_ ?_
 ·refine k_ ?_;refine B_ (λ(K:Nat) a j=>∃(m:Int),∃(k:Tg),loopF (eK e y) K m=some i∧Fr a 49 [(0,u),(1,q),(5,ZI m)]∧Bs s k w j∧RdL k j u e∧RdL k j q y) g (λa g=>⟨0,o,v,g.sb,c,b,d⟩) ?_;rintro i a j ⟨m,k,i,g,c,b,d⟩;obtain⟨C,v,v,v,A⟩:=aC i;dsimp only[eK] at v;refine q_ g ?_;refine b_ (Zq (Zm rfl (Zm rfl (Zv (C_ rfl b GE) (Zv (o_ rfl rfl) (Zm rfl ?_))))));obtain⟨i,x,v⟩:=a_ v;refine bp 8 (λp B=>Fr p 49 [(0,u),(1,q),(5,ZI m),(19,.bool i)]∧Keeps j B) ?_ ?_;all_goals simp only[bi,bk,aR,aG]
  ·have kp:Keeps j j:=Keeps.refl _;rcases aw (decide (m<(e.length:Int))) with i|i
   ·rw[if_pos i] at x;refine m_ (d_ rfl) dc ⟨_,rfl,Zb i⟩ (m_ (d_ rfl) dc ⟨_,rfl,Zb i⟩ ?_);obtain⟨p,D,x⟩:=a_ x;refine az dc ⟨_,rfl,Zb i⟩ ?_;refine bR b D rfl rfl GE GH ?_;intro D D D D E;obtain⟨F,rfl,F⟩:=E;refine m_ (e_ rfl GJ (G_ D)) dc ⟨_,rfl,Zb i⟩ (m_ (d_ rfl) dc ⟨_,rfl,Zb i⟩ ?_);obtain⟨D,E,x⟩:=a_ x;refine az dc ⟨_,rfl,Zb i⟩ ?_;refine j_ (tz j _ p F.z _ y d.z D E) Tryz.call51 ⟨rfl,rfl,trivial⟩ ?_;rintro p p ⟨rfl,p⟩;have D:=p.stp 999 k;refine⟨_,rfl,?_⟩;obtain⟨b,d⟩:=ZS D (A2 b d);replace kp:=Keeps.trans kp p;refine m_ (o_ rfl rfl) dc ⟨_,rfl,Zb i⟩ (Zv (aj (Zb i) rfl) ?_);have p:=Zj x;refine Ze [(0,_),(1,_),(5,_),(19,_)] ?_;subst p;refine r_ (λa g=>⟨g,kp⟩)
   ·replace x:=ZF i x;refine Zd i (Zd i (Zd i (Zd i (Zd i (Zd i (Zd i ?_))))));refine Zv (aa (Zb i) rfl) ?_;have p:=Zj x;refine Ze [(0,_),(1,_),(5,_),(19,_)] ?_;subst p;refine r_ (λa g=>⟨g,kp⟩)
  rintro i B ⟨g,i⟩;have x:=i.stp 999 k;obtain⟨b,d,c⟩:=ZS x (A3 b d c);refine O_ g ?_;refine Zy ?_;refine Zi rfl v (λi v=>?_) (λi v=>?_)
  ·refine f_ (nx (k_ (h_ (Zm rfl ?_))));obtain⟨i,x,v⟩:=a_ v;refine Zv (u_ rfl rfl x) (Za rfl (Zf (w_ (v_ ?_))));obtain rfl:=Zj v;refine Zk [(0,_),(1,_),(5,_)] ?_;intro a g;exact⟨C,om,i,k,A,g,c,b,d⟩
  ·refine z_ ?_;refine g_ (g_ (A_ ?_));refine r_ ?_;obtain rfl:=Zj v;refine Zk [(0,_),(1,_),(5,_)] ?_;intro a g;exact⟨m,k,A,g,c,b,d⟩
 ·rintro a j ⟨m,k,rfl,g,c,b,d⟩;dsimp only at f;refine q_ g ?_;refine b_ (Zq (Zm rfl (Zm rfl (Zv (C_ rfl b GE) (Zv (o_ rfl rfl) (Zm rfl ?_))))));obtain⟨i,v,f⟩:=a_ f;refine bp 7 (λp x=>Fr p 49 [(0,u),(1,q),(5,ZI m),(33,.bool i)]∧Keeps j x) ?_ ?_;all_goals simp only[bi,bk,aR,aG]
  ·have kp:Keeps j j:=Keeps.refl _;rcases aw (decide (m<(e.length:Int))) with i|i
   ·rw[if_pos i] at v;refine m_ (d_ rfl) dc ⟨_,rfl,Zb i⟩ (m_ (d_ rfl) dc ⟨_,rfl,Zb i⟩ ?_);obtain⟨m,e,v⟩:=a_ v;refine az dc ⟨_,rfl,Zb i⟩ ?_;refine bR b e rfl rfl GE GH ?_;intro e e e e p;obtain⟨A,rfl,A⟩:=p;refine m_ (e_ rfl GJ (G_ e)) dc ⟨_,rfl,Zb i⟩ (m_ (d_ rfl) dc ⟨_,rfl,Zb i⟩ ?_);obtain⟨e,p,v⟩:=a_ v;refine az dc ⟨_,rfl,Zb i⟩ ?_;refine j_ (uH j _ m A.z _ y d.z e p) Tryz.call125 ⟨rfl,rfl,trivial⟩ ?_;rintro j j ⟨rfl,j⟩;have m:=j.stp 999 k;refine⟨_,rfl,?_⟩;obtain⟨b,d⟩:=ZS m (A2 b d);replace kp:=Keeps.trans kp j;refine Zv (aj (Zb i) rfl) ?_;have j:=Zj v;refine Ze [(0,_),(1,_),(5,_),(33,_)] ?_;subst j;refine r_ (λa g=>⟨g,kp⟩)
   ·replace v:=ZF i v;refine Zd i (Zd i (Zd i (Zd i (Zd i (Zd i ?_)))));refine Zv (aa (Zb i) rfl) ?_;have j:=Zj v;refine Ze [(0,_),(1,_),(5,_),(33,_)] ?_;subst j;refine r_ (λa g=>⟨g,kp⟩)
  rintro i x ⟨g,i⟩;have j:=i.stp 999 k;obtain⟨b,d,c⟩:=ZS j (A3 b d c);refine O_ g ?_;refine Zy ?_;refine Zi rfl f (λg f=>?_) (λg f=>?_)
  ·refine Zq (Zm rfl (Za rfl (Zy (i_ (t_ ?_)))));obtain rfl:=Zj f;refine Zr Jx [u] ?_;exact⟨_,rt s k w.heap.size 9 t,rfl,b.rt c 9 t dc,c.keeps,S_ _ _ _ _ _⟩
  ·refine f_ (Zn (Zo ?_));refine dn w.heap.size 13 c.keeps.size (o:=k) (cs:=[]) (xs:=([]:Yk)) (vs:=[]) rfl rfl trivial GE GH GO dc fill0 sy ?_;intro g g g g i;obtain⟨b,d,c⟩:=ZS i (A3 b d c);refine Zm rfl (Zm rfl ?_);obtain⟨i,i,f⟩:=a_ f;refine Zo ?_;refine jL b i rfl rfl rfl GE GH ?_;intro i i;obtain⟨j,j,f⟩:=a_ f;refine Zo ?_;refine am g i j dc c.keeps.size rfl rfl GE cX rfl dc ?_;intro i g g g j;obtain⟨b,d,c⟩:=ZS j (A3 b d c);refine Za rfl (Ze [(0,_),(1,_),(5,_),(6,_)] (Zn (Zm rfl (Zm rfl (Zo ?_)))));refine ap (o:=i) (cs:=[q]) (xs:=([y]:Yk)) (vs:=[(0,q)]) ⟨_,_,rfl,fW d,rfl⟩ rfl ⟨rfl,rfl,trivial⟩ GE GH GO dc (fill1 d.cells1) sy ?_;intro i i i i j k;obtain⟨b,d,g,c⟩:=ZS j (A4 b d g c);obtain⟨j,j,f⟩:=a_ f;refine Zo ?_;refine am g i (av j) dc c.keeps.size rfl rfl GE cX rfl dc ?_;intro g g g g i;obtain⟨b,d,c⟩:=ZS i (A3 b d c);refine Za rfl (Ze [(0,_),(5,_),(6,_)] (Zn (Zm rfl (Zm rfl (Zm rfl ?_)))));obtain⟨d,d,f⟩:=a_ f;refine Zo ?_;refine jL b d rfl rfl rfl GE GH ?_;intro d d;obtain⟨i,i,f⟩:=a_ f;refine Zo ?_;refine am g d i dc c.keeps.size rfl rfl GE cX rfl dc ?_;intro G d H l d;obtain⟨b,c⟩:=ZS d (A2 b c);refine Za rfl (Zy (i_ ?_));have b:=l.frzF;replace l:=l.frz;replace c:=c.frz 13 dc;generalize (frz 13 G)=I at*;obtain rfl:=Zj f;refine Zr Jx [H] ?_;exact⟨_,rt s I w.heap.size 9 t,rfl,l.rt c 9 t dc,c.keeps,S_ _ _ _ _ _⟩
 ·exact λ_ _ h=>h.elim
end Go.Proofs.YtpefhaamcihneaaGreat
