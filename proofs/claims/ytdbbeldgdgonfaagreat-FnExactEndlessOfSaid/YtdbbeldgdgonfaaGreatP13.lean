/- Part 13 of what this claim rests on (Kpv, Kpx, Khl, Efx, Slc), packed by pack.py. -/
import Derived.Test.YtdbbeldgdgonfaaGreatLayC
import Derived.Lib.SlKeysI
import Derived.Test.YtdbbeldgdgonfaaGreatP04
import Derived.Test.YtdbbeldgdgonfaaGreatP06
import Derived.Test.YtdbbeldgdgonfaaGreatP10
import Derived.Test.YtdbbeldgdgonfaaGreatP12
namespace Go.Proofs.YtdbbeldgdgonfaaGreat
open Tryz renaming prog→tX_
set_option linter.unusedSimpArgs false
set_option linter.unusedVariables false
section
open Go.RowKit
structure Pv where
  v:Value
  x:List Int
instance:Inhabited Pv:=⟨⟨.slice none 0 0,[]⟩⟩
instance:Rp Pv where
  sz:=1
  pos:=by decide
  rd o w cs p:=cs=[p.v]∧p.v.oneCell'=true∧RdL o w p.v p.x
  len h:=by rw[h.1];rfl
  one h:=by obtain⟨rfl,h,_⟩:=h;intro c hc;simp at hc;subst hc;exact h
  mv h hs hb:=⟨h.1,h.2.1,h.2.2.mv hs hb⟩
theorem sg_{o:Tg}{w:World}{p:Pv}(h:RdL o w p.v p.x):Rp.rd o w [p.v] p:=⟨rfl,h.one1,h⟩
theorem Stp.tr9{o o1 o2:Tg}{w w1 w2:World}(h:Stp 10 o w o1 w1)(hO:∀b,b<w.heap.size->o b≠999)(k:Stp 999 o1 w1 o2 w2):Stp 10 o w o2 w2:=
 ⟨k.os.trans h.os,k.tape.trans h.tape,k.output.trans h.output,Nat.le_trans h.size k.size,
  λb hb hn=>(k.block b (Nat.lt_of_lt_of_le hb h.size) (by rw[h.own b hb];exact hO b hb)).trans (h.block b hb hn),
  λb hb=>(k.own b (Nat.lt_of_lt_of_le hb h.size)).trans (h.own b hb)⟩
def subv(v:Value)(k:Nat):Value:=match v with
  | .slice a n c=>sliced a k n c 1
  |v=>v
def prev(v:Value)(k:Nat):Value:=match v with
  | .slice a n c=>sliced a 0 k c 1
  |v=>v
section
variable {P:Program} {n:Nat} {l:List (Nat×Value)} {w w0:World} {o oo:Tg} {d:Nat} {ty:TypeId} {ps:String} {af:Array Edge} {g:Option (Nat×Bool)} {R:Value->World->Prop} {B k:Nat} {e:TypeId} {v:Value} {xs ys:List Pv} {lo i:Int} {u:Pv}
theorem Addr.add_zero'(g k:Nat):(⟨g,0,none⟩:Addr).add k=⟨g,0+k,none⟩:=by
 unfold Addr.add;split
 ·rename_i h;rw[h]
 ·rfl
theorem ke_{t e':TypeId}{x:Operand}{lo':Operand}(h:Ow B e k o w v xs)(hc:cut xs lo xs.length=some ys)(hx:ev l x=some v)(hlo:ev l lo'=some (.int .i64 lo))(ht:P.underlying t=some (.slice e'))(hs:∀w,(sizeOf e').run P w=.ok 1 w)
  (hR:R (subv v lo.toNat) w):op1 P ⟨some d,.slice t x (some lo') none none,ty,ps,af,g⟩ n l w R:=by
 obtain⟨a,c,rfl⟩:=h.form;obtain⟨h1,h2,h3,h4,h5,h6⟩:=pf_ h.z hc;refine l_ (λρ hρ=>?_) hR;have:=lA_ (P:=P) (w:=w) (a:=a) (n:=xs.length) (c:=c) (lo:=some (.int .i64 lo)) (hi:=none) (lo':=lo) (hi':=xs.length) ht hs (.inl rfl) (.inr ⟨rfl,rfl⟩) h3 h4 h5;simp only[execOp,hρ x _ hx,hρ lo' _ hlo,Sem.run_bind,this,Result.andThen_ok,Option.map_none,Option.map_some];rfl
theorem rp_{d:Option Nat}{t e':TypeId}{x:Operand}(h:Ow B e k o w v xs)(hc:cut xs lo xs.length=some ys)(hx:ev l x=some (subv v lo.toNat))(ht:P.underlying t=some (.slice e')):
  ∀ρ,Agr ρ l->(execOp ρ ⟨d,.call {callee:=.builtin .len,args:= #[x],argTypes:= #[t]},ty,ps,af,g⟩).run P w=.ok (.value (.int .i64 ((xs.length:Int)-lo))) w:=by
 obtain⟨a,c,rfl⟩:=h.form;obtain⟨g1,g2,g3,rfl⟩:=hr_ hc;have:=qH_ (P:=P) (w:=w) (l:=l) (d:=d) (ty:=ty) (ps:=ps) (af:=af) (g:=g) (x:=x) (t:=t) (e:=e') hx ht;rw[show((xs.length:Int)-lo)=((xs.length-lo.toNat:Nat):Int) by omega];exact this
theorem lo_(h:Ow B e k o w v xs)(hc:cut xs lo xs.length=some ys)(hi:ix xs (lo+i)=some u)(h0:0<=i):
  ∃b cap,v=.slice (some ⟨b,0,none⟩) xs.length cap∧subv v lo.toNat=.slice (some ⟨b,0+lo.toNat,none⟩) (xs.length-lo.toNat) (cap-lo.toNat)∧Cells w b (0+(lo+i).toNat) [u.v]∧RdL o w u.v u.x∧(lo+i).toNat=lo.toNat+i.toNat∧i<((xs.length-lo.toNat:Nat):Int):=by
 obtain⟨a,c,rfl⟩:=h.form;obtain⟨g1,g2,g3,rfl⟩:=hr_ hc;obtain⟨i0,i1,i2⟩:=fC_ hi;obtain⟨b,cs,rfl,_,hcl,hrd,_⟩:=h.at i2;have hcap:xs.length<=c:=by
  obtain⟨css,h1,h2,h3,h4⟩:=h;rcases h2.2 with⟨e,_⟩|⟨g,cap,cur,e,_,_,hh,_⟩
  ·cases e
  ·cases e;exact hh
 refine⟨b,c,rfl,?_,?_,hrd.2.2,by omega,by omega⟩
 ·unfold subv sliced;simp only
  rw[if_neg (by omega),Option.map_some,Nat.mul_one,Addr.add_zero']
 ·obtain⟨e1,_⟩:=hrd;subst e1;simpa [Rp.sz] using hcl
theorem sw_{x y:Operand}{t e':TypeId}(h:Ow B e k o w v xs)(hc:cut xs lo xs.length=some ys)(hi:ix xs (lo+i)=some u)(h0:0<=i)(hx:ev l x=some (subv v lo.toNat))(hy:ev l y=some (.int .i64 i))
  (ht:P.underlying t=some (.slice e')) (hs:∀w,(sizeOf e').run P w=.ok 1 w)
  (hR:∀b off cs,Cells w b off cs->Rp.rd o w cs u->R (.pointer (some ⟨b,off,none⟩)) w):op1 P ⟨some d,.indexAddr t x y,ty,ps,af,g⟩ n l w R:=by
 obtain⟨b,cap,rfl,e1,e2,e3,e4,e5⟩:=lo_ h hc hi h0;rw[e1] at hx;refine l_ (hq_ hx hy h0 e5 ht hs) (hR b _ [u.v] ?_ (sg_ e3));rw[Nat.mul_one,Nat.zero_add,<-e4];simpa using e2
theorem jx_{x y:Operand}{t e':TypeId}{d:Option Nat}(h:Ow B e k o w v xs)(hc:cut xs lo xs.length=some ys)(hi:ix xs (lo+i)=some u)(h0:0<=i)(hx:ev l x=some (subv v lo.toNat))(hy:ev l y=some (.int .i64 i))
  (ht:P.underlying t=some (.slice e')) (hs:∀w,(sizeOf e').run P w=.ok 1 w) (hR:R (adr v ((lo+i).toNat*Rp.sz Pv)) w):op1 P ⟨d,.indexAddr t x y,ty,ps,af,g⟩ n l w R:=by
 obtain⟨b,cap,rfl,e1,e2,e3,e4,e5⟩:=lo_ h hc hi h0;rw[e1] at hx;have:=hq_ (P:=P) (w:=w) (d:=d) (ty:=ty) (ps:=ps) (af:=af) (g:=g) hx hy h0 e5 ht hs;refine l_ this ?_;have ee:adr (.slice (some ⟨b,0,none⟩) xs.length cap) ((lo+i).toNat*Rp.sz Pv)=.pointer (some ⟨b,0+lo.toNat+i.toNat*1,none⟩):=by
  simp only[adr,Rp.sz,Nat.mul_one,e4,Nat.zero_add]
 rw[<-ee];exact hR
theorem jY_{t e':TypeId}{x:Operand}{zs:List Pv}(h:Ow B e k o w v xs)(hc:cut xs lo xs.length=some ys)(hz:cut xs 0 lo=some zs)(hk:k≠0)(hx:ev l x=some (subv v lo.toNat))(ht:P.underlying t=some (.slice e'))
  (hzv:∀w,(zeroValue e').run P w=.ok (.slice none 0 0) w)
  (hR:∀w' v',Ow B e k o w' (prev v lo.toNat) zs->Stp k o w o w'->R v' w'):op1 P ⟨none,.call {callee:=.builtin .clear,args:= #[x],argTypes:= #[t]},ty,ps,af,g⟩ n l w R:=by
 obtain⟨a,c,rfl⟩:=h.form;obtain⟨g1,g2,g3,-⟩:=hr_ hc;obtain⟨-,-,-,rfl⟩:=hr_ hz;have hpre:∀w',(∃css:List (List Value),css.length=xs.length∧w'.ownsRow B e 1 (.slice a xs.length c) xs.length css.flatten∧∀j cs,j<lo.toNat->css[j]? =some cs->∃u,xs[j]? =some u∧Rp.rd o w' cs u)->
   Ow B e k o w' (prev (.slice a xs.length c) lo.toNat) ((xs.take lo.toNat).drop (0:Int).toNat):=λw' ⟨css,q1,q2,q3⟩=>by
  have htag:=h.tagged;have hl1:∀cs∈css.take lo.toNat,cs.length=1:=λcs hcs=>by
   obtain⟨j,hj⟩:=List.mem_iff_getElem?.1 hcs;have hjl:j<lo.toNat:=by
    have:=(List.getElem?_eq_some_iff.1 hj).1;simp at this;omega
   rw[List.getElem?_take,if_pos hjl] at hj;obtain⟨u,_,hu⟩:=q3 j cs hjl hj;exact Rp.len hu
  have hfl:∀{L:List (List Value)},(∀cs∈L,cs.length=1)->L.flatten.length=L.length:=by
   intro L
   induction L with
   |nil=>intro _;rfl
   |cons a L ih=>
    intro hh;rw[List.flatten_cons,List.length_append,ih λx hx=>hh x (by simp[hx]),hh a (by simp),List.length_cons];omega
  have hsp:css.flatten.take lo.toNat=(css.take lo.toNat).flatten:=by
   have e1:css.flatten=(css.take lo.toNat).flatten++(css.drop lo.toNat).flatten:=by rw[<-List.flatten_append,List.take_append_drop]
   have e2:=hfl hl1;rw[e1,List.take_append_of_le_length (by rw[e2,List.length_take];omega),List.take_of_length_le (by rw[e2,List.length_take];omega)]
  have hlen:((xs.take lo.toNat).drop (0:Int).toNat).length=lo.toNat:=by simp;omega
  refine⟨css.take lo.toNat,by rw[hlen,List.length_take];omega,?_,λg hg=>?_,λj cs u h1 h2=>?_⟩
  ·rw[hlen];obtain⟨p1,p2⟩:=q2;refine⟨by rw[hfl hl1,List.length_take];show _=lo.toNat*1;omega,?_⟩;rcases p2 with⟨e1,e2⟩|⟨gg,cap,cur,e1,p3,p4,p5,p6,p7,p8⟩
   ·simp only[Value.slice.injEq] at e1;obtain⟨rfl,_,rfl⟩:=e1;exact .inl ⟨by unfold prev sliced;simp only;rw[show lo.toNat=0 by omega];simp,by omega⟩
   ·simp only[Value.slice.injEq] at e1;obtain⟨rfl,_,rfl⟩:=e1;refine .inr ⟨gg,c,cur,?_,p3,p4,by omega,p6,p7,?_⟩
    ·unfold prev sliced;simp only
     by_cases hc0:c=0
     ·rw[if_pos hc0,Nat.sub_zero,Nat.sub_zero]
     ·rw[if_neg hc0,Option.map_some,Nat.zero_mul,Addr.add_zero',Nat.sub_zero,Nat.sub_zero]
    ·show cur.toList.take (lo.toNat*1)=_;rw[<-hsp,<-p8,List.take_take];congr 1;show lo.toNat*1=min lo.toNat (xs.length*1);omega
  ·refine htag g ?_;cases a with
   |none=>unfold prev sliced at hg;simp only at hg;split at hg<;>simp[Value.ownBlock] at hg
   | some ad=>
    have:(prev (.slice (some ad) xs.length c) lo.toNat).ownBlock=some ad.block:=by
     unfold prev sliced;simp only
     split
     ·rfl
     ·simp only[Option.map_some,Value.ownBlock,Nat.zero_mul];unfold Addr.add;split<;>rfl
    rw[this] at hg;exact hg
  ·have hjl:j<lo.toNat:=by
    have:=(List.getElem?_eq_some_iff.1 h1).1;simp at this;omega
   rw[List.getElem?_take,if_pos hjl] at h1;obtain⟨u',hu1,hu2⟩:=q3 j cs hjl h1;rw[show(0:Int).toNat=0 from rfl,List.drop_zero,List.getElem?_take,if_pos hjl,hu1] at h2;cases h2
   exact hu2
 obtain⟨css,q1,q2,q3,q4⟩:=id h;by_cases hfull:lo.toNat=xs.length
 ·have hu:=run_underlying (w:=w) ht;have hr:∀ρ,Agr ρ l->(execOp ρ ⟨none,.call {callee:=.builtin .clear,args:= #[x],argTypes:= #[t]},ty,ps,af,g⟩).run P w=.ok (.value (.tuple #[])) w:=by
   intro ρ hρ;have:subv (.slice a xs.length c) lo.toNat=.slice (if c=lo.toNat then a else a.map (·.add (lo.toNat*1))) 0 (c-lo.toNat):=by
    unfold subv sliced;simp only
    rw[hfull,Nat.sub_self]
   rw[this] at hx;have hcl:(Builtin.clear_ #[t] ty #[.slice (if c=lo.toNat then a else a.map (·.add (lo.toNat*1))) 0 (c-lo.toNat)]).run P w=.ok (.tuple #[]) w:=by
    unfold Builtin.clear_;cases hq:(if c=lo.toNat then a else a.map (·.add (lo.toNat*1)))<;>simp[Sem.run_bind,hu,Sem.run_pure]
   simp only[execOp,resolve,invoke,builtin,Sem.run_bind,Sem.run_pure,Result.andThen_ok,List.map_toArray,List.map_cons,List.map_nil,hρ x _ hx,hcl]
  refine l_ hr (hR w _ (hpre w ⟨css,q1,q2,λj cs hj hcs=>?_⟩) (Stp.refl _ _ _));exact⟨xs[j]'(by omega),List.getElem?_eq_getElem (by omega),q4 j cs _ hcs (List.getElem?_eq_getElem (by omega))⟩
 ·have hlt:lo.toNat<xs.length:=by omega
  obtain⟨b,cap,ee,e1,-,-,-,-⟩:=lo_ (i:=0) h hc (u:=xs[lo.toNat]'hlt) (by unfold ix;rw[if_pos (by omega)];rw[Int.add_zero];exact List.getElem?_eq_getElem hlt) (by omega);cases ee
  have hlz:=Ow.lens (e:=e) (B:=B) q1 q4;have hfl:css.flatten.length=xs.length:=by have:=q2.1;rw[this];exact Nat.mul_one _
  obtain⟨w',r1,r2,r3⟩:=hu_ (P:=P) (o:=o) (q3 _ rfl) (List.replicate (xs.length-lo.toNat) (.slice none 0 0)) 0 (0+lo.toNat) w css.flatten q2 (by rw[hfl,List.length_replicate];omega) (λu hu=>by rw[List.eq_of_mem_replicate hu];rfl);have hu:=run_underlying (w:=w) ht;have hzc:(Builtin.zeroCells (Value.cells (.slice none 0 0)) (xs.length-lo.toNat)).toList=List.replicate (xs.length-lo.toNat) (.slice none 0 0):=by
   unfold Builtin.zeroCells;apply List.ext_getElem
   ·simp[Value.cells]
   ·intro j h1 h2;simp[Value.cells,Nat.mod_one]
  have hr:∀ρ,Agr ρ l->(execOp ρ ⟨none,.call {callee:=.builtin .clear,args:= #[x],argTypes:= #[t]},ty,ps,af,g⟩).run P w=.ok (.value (.tuple #[])) w':=by
   intro ρ hρ;rw[e1] at hx;have hcl:(Builtin.clear_ #[t] ty #[.slice (some ⟨b,0+lo.toNat,none⟩) (xs.length-lo.toNat) (c-lo.toNat)]).run P w=.ok (.tuple #[]) w':=by
    unfold Builtin.clear_;obtain⟨q,hq⟩:∃q,xs.length-lo.toNat=q+1:=⟨xs.length-lo.toNat-1,by omega⟩;rw[hq] at hzc r1;simp only[hq,List.getElem?_toArray,List.getElem?_cons_zero,Sem.run_bind,hu,Result.andThen_ok,hzv,hzc,r1,Sem.run_pure]
   simp only[execOp,resolve,invoke,builtin,Sem.run_bind,Sem.run_pure,Result.andThen_ok,List.map_toArray,List.map_cons,List.map_nil,hρ x _ hx,hcl]
  refine l_ hr (hR w' _ (hpre w' ⟨css.take lo.toNat++List.replicate (xs.length-lo.toNat) [.slice none 0 0],by simp;omega,?_,λj cs hj hcs=>?_⟩) r3)
  ·have hsp:css.flatten.take lo.toNat=(css.take lo.toNat).flatten:=by
    have hf2:∀{L:List (List Value)},(∀cs∈L,cs.length=1)->L.flatten.length=L.length:=by
     intro L
     induction L with
     |nil=>intro _;rfl
     |cons a L ih=>
      intro hh;rw[List.flatten_cons,List.length_append,ih λx hx=>hh x (by simp[hx]),hh a (by simp),List.length_cons];omega
    have e1:css.flatten=(css.take lo.toNat).flatten++(css.drop lo.toNat).flatten:=by rw[<-List.flatten_append,List.take_append_drop]
    have e2:=hf2 (L:=css.take lo.toNat) λcs hcs=>hlz cs (List.mem_of_mem_take hcs);rw[e1,List.take_append_of_le_length (by rw[e2,List.length_take];omega),List.take_of_length_le (by rw[e2,List.length_take];omega)]
   have hm:=jC_ (List.replicate (xs.length-lo.toNat) (.slice none 0 0)) (css.flatten.take lo.toNat) (css.flatten.drop lo.toNat) [] (by rw[List.length_drop,List.length_replicate,hfl]);rw[List.append_nil,List.take_append_drop,List.append_nil,List.length_take,hfl,Nat.min_eq_left (by omega)] at hm;rw[show 0+lo.toNat+0=lo.toNat by omega,hm,hsp] at r2;rw[List.flatten_append,List.flatten_replicate_singleton];exact r2
  ·rw[List.getElem?_append_left (by rw[List.length_take];omega),List.getElem?_take,if_pos hj] at hcs;exact⟨xs[j]'(by omega),List.getElem?_eq_getElem (by omega),Rp.stp (q4 j cs _ hcs (List.getElem?_eq_getElem (by omega))) r3 hk⟩
theorem pj_{d:Option Nat}{ff:Operand}{f:FuncId}{xs:List Operand}{vs:List Value}{ats:Array TypeId}{C:Ending->World->Prop}(hc:Calls P f vs.toArray w C)(hcall:∀args w,(callFunc f args).run P w=.ok (.enter f args) w)(hf:ev l ff=some (.func (.func f) #[] #[]))(hv:EvL l xs vs)
  (h:∀e w',C e w'->∃v,e=.returned v∧R v w'):op1 P ⟨d,.call {callee:=.value ff,args:=xs.toArray,argTypes:=ats},ty,ps,af,g⟩ n l w R:=by
 refine is_ (f:=f) (args:=vs.toArray) (λρ hρ=>?_) hc h;simp only[execOp,resolve,Sem.run_bind,hρ ff _ hf,Deferred.ofValue,Sem.run_pure,Result.andThen_ok,invoke,List.map_toArray,EvL.map hρ hv];simp[hcall]
def nn(i:Int):Option Unit:=if 0<=i then some () else none
theorem nR_{i:Int}{x:Unit}(h:nn i=some x):0<=i:=by
 unfold nn at h;split at h
 ·assumption
 ·cases h
def PreF(v:Value)(lo:Int):Prop:=∃a n c,v=.slice a n c∧0<=lo∧lo<=c
theorem og_{zs:List Pv}(h:Ow B e k o w v xs)(hz:cut xs 0 lo=some zs):PreF v lo:=by
 obtain⟨a,c,rfl⟩:=h.form;obtain⟨h1,h2,h3,h4,h5,h6⟩:=pf_ h.z hz;exact⟨a,_,c,rfl,h4,h5⟩
theorem lR_{d:Option Nat}{t e':TypeId}{x hi:Operand}(h:PreF v lo)(hx:ev l x=some v)(hhi:ev l hi=some (.int .i64 lo))(ht:P.underlying t=some (.slice e'))(hs:∀w,(sizeOf e').run P w=.ok 1 w):
  ∀ρ,Agr ρ l->(execOp ρ ⟨d,.slice t x none (some hi) none,ty,ps,af,g⟩).run P w=.ok (.value (prev v lo.toNat)) w:=by
 obtain⟨a,n,c,rfl,h1,h2⟩:=h;intro ρ hρ;have:=lA_ (P:=P) (w:=w) (a:=a) (n:=n) (c:=c) (lo:=none) (hi:=some (.int .i64 lo)) (lo':=0) (hi':=lo) ht hs (.inr ⟨rfl,rfl⟩) (.inl rfl) (by omega) h1 h2;simp only[execOp,hρ x _ hx,hρ hi _ hhi,Sem.run_bind,this,Result.andThen_ok,Option.map_none,Option.map_some];rfl
end
end
section
open Go.RowKit
structure RawN (n:Nat) where
  cs:List Value
  len:cs.length=n+1
  one:∀c∈cs,c.oneCell'=true
instance (n:Nat):Rp (RawN n) where
  sz:=n+1
  pos:=Nat.succ_pos n
  rd o w cs x:=cs=x.cs
  len h:=by rename_i x;subst h;exact x.len
  one h:=by rename_i x;subst h;exact x.one
  mv h _ _:=h
section
variable {P:Program} {n:Nat} {l:List (Nat×Value)} {w w0:World} {o oo:Tg} {α:Type} [Rp α] {d:Nat} {ty:TypeId} {ps:String} {af:Array Edge} {g:Option (Nat×Bool)} {R:Value->World->Prop}
variable {B k k2:Nat} {e:TypeId} {v v2 u:Value} {xs ys zs:List α} {lo hi i:Int} {x1:α}
theorem nt_(a:Option Addr)(h m s:Nat):sliced a 0 h m s=sliced a 0 h m 1:=by simp[sliced]
theorem pp_{t e':TypeId}{x hi':Operand}{dd:Option Nat}(h:Ow B e k o w v xs)(hc:cut xs 0 hi=some ys)(hx:ev l x=some v)(hhi:ev l hi'=some (.int .i64 hi))(ht:P.underlying t=some (.slice e'))(hs:∀w,(sizeOf e').run P w=.ok (Rp.sz α) w):
  ∀ρ,Agr ρ l->(execOp ρ ⟨dd,.slice t x none (some hi') none,ty,ps,af,g⟩).run P w=.ok (.value (prev v hi.toNat)) w:=by
 obtain⟨a,c,rfl⟩:=h.form;obtain⟨h1,h2,h3,h4,h5,h6⟩:=pf_ h.z hc;intro ρ hρ;have:=lA_ (P:=P) (w:=w) (a:=a) (n:=xs.length) (c:=c) (lo:=none) (hi:=some (.int .i64 hi)) (lo':=0) (hi':=hi) ht hs (.inr ⟨rfl,rfl⟩) (.inl rfl) (by omega) h4 h5;rw[show((0:Int)).toNat=0 from rfl,nt_] at this;simp only[execOp,hρ x _ hx,hρ hi' _ hhi,Sem.run_bind,this,Result.andThen_ok,Option.map_none,Option.map_some];rfl
theorem gU_{s:Nat}:∀{css:List (List Value)}(m:Nat),(∀cs∈css,cs.length=s)->m<=css.length->(css.take m).flatten=css.flatten.take (m*s)∧(css.take m).flatten.length=m*s
 |css,0,_,_=>by simp
 |[],m+1,_,h=>by simp at h
 |c::css,m+1,hh,hm=>by
  obtain⟨h1,h2⟩:=gU_ (css:=css) m (λx hx=>hh x (by simp[hx])) (by simpa using hm);have hc:=hh c (by simp);have e1:(m+1)*s=s+m*s:=by rw[Nat.succ_mul,Nat.add_comm]
  rw[List.take_succ_cons,List.flatten_cons,List.flatten_cons,List.length_append,h2,h1,hc,e1];refine⟨?_,rfl⟩;rw[List.take_append,hc,List.take_of_length_le (l:=c) (by rw[hc];exact Nat.le_add_right _ _),Nat.add_sub_cancel_left]
theorem Ow.pre(h:Ow B e k o w v xs)(hc:cut xs 0 hi=some ys):Ow B e k o w (prev v hi.toNat) ys:=by
 have htag:=h.tagged;obtain⟨css,h1,h2,h3,h4⟩:=h;obtain⟨g1,g2,g3,rfl⟩:=hr_ hc;have hlz:=Ow.lens (e:=e) (B:=B) h1 h4;have hlen:((xs.take hi.toNat).drop (0:Int).toNat)=xs.take hi.toNat:=by simp
 obtain⟨f1,f2⟩:=gU_ (css:=css) hi.toNat hlz (by omega);rw[hlen];refine⟨css.take hi.toNat,by rw[List.length_take,List.length_take,h1],?_,λg hg=>?_,λj cs u hj hu=>?_⟩
 ·have hl2:(xs.take hi.toNat).length=hi.toNat:=by rw[List.length_take];omega
  rw[hl2];obtain⟨p1,p2⟩:=h2;refine⟨f2,?_⟩;rcases p2 with⟨rfl,e2⟩|⟨gg,cap,cur,rfl,p3,p4,p5,p6,p7,p8⟩
  ·exact .inl ⟨by unfold prev sliced;simp only;rw[show hi.toNat=0 by omega];simp,by omega⟩
  ·refine .inr ⟨gg,cap,cur,?_,p3,p4,by omega,p6,p7,?_⟩
   ·unfold prev sliced;simp only
    by_cases hc0:cap=0
    ·rw[if_pos hc0,Nat.sub_zero,Nat.sub_zero]
    ·rw[if_neg hc0,Option.map_some,Nat.zero_mul,Addr.add_zero',Nat.sub_zero,Nat.sub_zero]
   ·rw[f1,<-p8,List.take_take,Nat.min_eq_left (Nat.mul_le_mul_right _ (by omega))]
 ·refine htag g ?_;rcases h2.2 with⟨rfl,_⟩|⟨gg,cap,cur,rfl,_⟩
  ·unfold prev sliced at hg;simp only at hg;split at hg<;>simp[Value.ownBlock] at hg
  ·have:(prev (.slice (some ⟨gg,0,none⟩) xs.length cap) hi.toNat).ownBlock=some gg:=by
    unfold prev sliced;simp only
    split
    ·rfl
    ·simp only[Option.map_some,Value.ownBlock,Nat.zero_mul];unfold Addr.add;split<;>rfl
   rw[this] at hg;exact hg
 ·have hjl:j<hi.toNat:=by
   have:=(List.getElem?_eq_some_iff.1 hj).1;rw[List.length_take] at this;omega
  rw[List.getElem?_take_of_lt hjl] at hj hu;exact h4 j cs u hj hu
end
end
section
open Go.RowKit
inductive HRow where
  |rd (xs:List Int)
  |hole (u:Value)
instance:Rp HRow where
  sz:=1
  pos:=by decide
  rd o w cs x:=match x with
    | .rd xs=>∃v,cs=[v]∧RdL o w v xs
    | .hole u=>cs=[u]∧u.oneCell'=true
  len {o w cs x} h:=by
    cases x with
    |rd xs=>obtain⟨v,rfl,_⟩:=h;rfl
    |hole u=>obtain⟨rfl,_⟩:=h;rfl
  one {o w cs x} h:=by
    cases x with
    |rd xs=>obtain⟨v,rfl,a,c,rfl,_⟩:=h;simp[Value.oneCell']
    |hole u=>obtain⟨rfl,h1⟩:=h;intro c hc;rw[List.mem_singleton.1 hc];exact h1
  mv {o o' w w' cs x} h hs hb:=by
    cases x with
    |rd xs=>obtain⟨v,e,h⟩:=h;exact⟨v,e,h.mv hs hb⟩
    |hole u=>exact h
section
variable {P:Program} {n:Nat} {l:List (Nat×Value)} {w w0:World} {o oo:Tg} {d:Nat} {ty:TypeId} {ps:String} {af:Array Edge} {g:Option (Nat×Bool)} {R:Value->World->Prop}
variable {B k:Nat} {e:TypeId} {v u:Value} {xs ys:List (List Int)} {i:Int} {r:List Int}
theorem FnV.cells1{A ρ:Type}[Ar A][Rs ρ]{F:A->Option ρ}(h:FnV P w v F):v.cells= #[v]:=by obtain⟨m,cap,rfl,_⟩:=h;rfl
theorem jn_{d:Option Nat}{ff:Operand}{f:FuncId}{xs:List Operand}{vs cap:List Value}{ats:Array TypeId}{C:Ending->World->Prop}(hc:Calls P f (vs++cap).toArray w C)(hcall:∀args w,(callFunc f args).run P w=.ok (.enter f args) w)(hf:ev l ff=some (.func (.func f) #[] cap.toArray))(hv:EvL l xs vs)
  (h:∀e w',C e w'->∃v,e=.returned v∧R v w'):op1 P ⟨d,.call {callee:=.value ff,args:=xs.toArray,argTypes:=ats},ty,ps,af,g⟩ n l w R:=by
 refine is_ (f:=f) (args:=(vs++cap).toArray) (λρ hρ=>?_) hc h;simp only[execOp,resolve,Sem.run_bind,hρ ff _ hf,Deferred.ofValue,Sem.run_pure,Result.andThen_ok,invoke,List.map_toArray,EvL.map hρ hv];simp[hcall]
end
end
section
open Go.RowKit
def up(o:Tg):Tg:=λb=>if 200<=o b then 0 else 1
def lay0(o:Tg):Tg:=λb=>if 200<=o b then 0 else o b
def EfV(P:Program)(K:Nat)(Inv:List Int->Tg->World->Prop)(v:Value)(F:List Int->List Int->Option (List Int)):Prop:=
  ∃(n:Nat)(cap:List Value),v=.func (.func n) #[] cap.toArray∧(∀args w,(callFunc n args).run P w=.ok (.enter n args) w)∧
    ∀s s' o w lv ls,Inv s o w->RdL (up o) w lv ls->F ls s=some s'->Calls P n (lv::cap).toArray w (λe w'=>e=.returned (.tuple #[])∧∃o',Inv s' o' w'∧Stp K o w o' w')
theorem EfV.cells1{P:Program}{K:Nat}{Inv:List Int->Tg->World->Prop}{v:Value}{F:List Int->List Int->Option (List Int)}(h:EfV P K Inv v F):v.cells= #[v]:=by obtain⟨m,cap,rfl,_⟩:=h;rfl
structure Mvr (lo:Nat) (o:Tg) (w:World) (o':Tg) (w':World):Prop where
  z:w.heap.size<=w'.heap.size
  blk:∀b,b<w.heap.size->o b<lo->w'.heap[b]? =w.heap[b]? ∧o' b=o b
  os:w'.os=w.os
  tape:w'.tape=w.tape
  output:w'.output=w.output
def InvOk(Inv:List Int->Tg->World->Prop):Prop:=∀s o w o' w',Inv s o w->Mvr 200 o w o' w'->Inv s o' w'
theorem Stp.mvr{t lo:Nat}{o o':Tg}{w w':World}(s:Stp t o w o' w')(h:lo<=t):Mvr lo o w o' w':=⟨s.size,λb hb h1=>⟨s.block b hb (by omega),s.own b hb⟩,s.os,s.tape,s.output⟩
theorem InvOk.st{Inv:List Int->Tg->World->Prop}(h:InvOk Inv){s:List Int}{t:Nat}{o o':Tg}{w w':World}(ht:200<=t)(hI:Inv s o w)(hs:Stp t o w o' w'):Inv s o' w':=h _ _ _ _ _ hI (hs.mvr ht)
def prg(lo:Nat)(o:Tg):Tg:=λb=>if lo<=o b∧o b<=999 then 1000 else o b
def bck(o:Tg)(w:World)(o':Tg):Tg:=λb=>if b<w.heap.size then o b else o' b
theorem qP_{lo:Nat}(o:Tg)(w:World)(hl:lo<=999):Mvr lo o w (prg lo o) w:=⟨Nat.le_refl _,λb _ h=>⟨rfl,by unfold prg;rw[if_neg (by omega)]⟩,rfl,rfl,rfl⟩
theorem qm_{lo:Nat}{o o':Tg}{w w':World}(hl:lo<=999)(h:∀b,b<w.heap.size->o' b=prg lo o b):Mvr lo o' w' (bck o w o') w':=
 ⟨Nat.le_refl _,λb _ h1=>⟨rfl,by
  unfold bck;split
  ·rename_i hb;have:=h b hb;unfold prg at this;split at this<;>omega
  ·rfl⟩,rfl,rfl,rfl⟩
theorem tH_{lo:Nat}(hl:lo<=999)(o:Tg)(b:Nat):prg lo o b≠999:=by unfold prg;split<;>omega
theorem tO_{lo:Nat}(o:Tg)(b:Nat):prg lo o b<lo∨1000<=prg lo o b:=by unfold prg;split<;>omega
theorem Stp.bckS{lo K:Nat}{o o':Tg}{w w':World}(h:Stp K (prg lo o) w o' w')(hK:K<lo)(hl:lo<=999):Stp K o w (bck o w o') w':=
 ⟨h.os,h.tape,h.output,h.size,λb hb h1=>h.block b hb (by unfold prg;split<;>omega),λb hb=>by unfold Go.Proofs.YtdbbeldgdgonfaaGreat.bck;rw[if_pos hb]⟩
theorem Mvr.le{lo lo':Nat}{o o':Tg}{w w':World}(h:Mvr lo o w o' w')(hl:lo'<=lo):Mvr lo' o w o' w':=⟨h.z,λb hb h1=>h.blk b hb (by omega),h.os,h.tape,h.output⟩
theorem Mvr.trans{lo:Nat}{o o' o'':Tg}{w w' w'':World}(h:Mvr lo o w o' w')(k:Mvr lo o' w' o'' w''):Mvr lo o w o'' w'':=
 ⟨Nat.le_trans h.z k.z,λb hb h1=>by
  obtain⟨q1,q2⟩:=h.blk b hb h1;obtain⟨q3,q4⟩:=k.blk b (Nat.lt_of_lt_of_le hb h.z) (by rw[q2];exact h1);exact⟨q3.trans q1,q4.trans q2⟩,k.os.trans h.os,k.tape.trans h.tape,k.output.trans h.output⟩
section
variable {lo k B b:Nat} {o o':Tg} {w w':World} {e:TypeId} {v:Value} {α:Type} [Rp α] {xs:List α} {cs:List Value} {x:α}
theorem Rp.mvr(h:Rp.rd o w cs x)(m:Mvr lo o w o' w')(hl:0<lo):Rp.rd o' w' cs x:=Rp.mv h m.z λb hb h0=>⟨(m.blk b hb (by omega)).1,by rw[(m.blk b hb (by omega)).2];exact h0⟩
theorem RdL.mvr(h:RdL o w v xs)(m:Mvr lo o w o' w')(hl:0<lo):RdL o' w' v xs:=h.mv m.z λb hb h0=>⟨(m.blk b hb (by omega)).1,by rw[(m.blk b hb (by omega)).2];exact h0⟩
theorem Ow.mvr(h:Ow B e k o w v xs)(m:Mvr lo o w o' w')(hl:0<lo)(hk:k<lo):Ow B e k o' w' v xs:=by
 obtain⟨css,h1,h2,h3,h4⟩:=h;refine⟨css,h1,⟨h2.1,?_⟩,λg hg=>?_,λi cs x a b=>Rp.mvr (h4 i cs x a b) m hl⟩
 ·rcases h2.2 with h0|⟨g,cap,cur,hv,hb,hg,r⟩
  ·exact .inl h0
  ·refine .inr ⟨g,cap,cur,hv,hb,?_,r⟩;have hlt:=(Array.getElem?_eq_some_iff.1 hg).1;rw[(m.blk g hlt (by rw[h3 g (by rw[hv];rfl)];exact hk)).1];exact hg
 ·rw[(m.blk g (h2.lt g hg).2 (by rw[h3 g hg];exact hk)).2];exact h3 g hg
omit [Rp α] in
omit [Rp α] in
theorem Bs.mvr{oo:Tg}{w0:World}(h:Bs oo o w0 w)(m:Mvr lo o w o' w')(hl:2<=lo):Bs oo o' w0 w':=
  ⟨⟨m.os.trans h.keeps.os,m.tape.trans h.keeps.tape,m.output.trans h.keeps.output,Nat.le_trans h.keeps.size m.z,
    λb hb=>((m.blk b (Nat.lt_of_lt_of_le hb h.keeps.size) (by rw[h.old b hb];split<;>omega)).1).trans (h.keeps.block b hb)⟩,
   λb hb=>by rw[(m.blk b (Nat.lt_of_lt_of_le hb h.keeps.size) (by rw[h.old b hb];split<;>omega)).2];exact h.old b hb⟩
theorem Ow.bckS{xs:List Int}{w1:World}(h:Ow B e k o' w v xs)(ho:∀b,b<w1.heap.size->o' b=Go.Proofs.YtdbbeldgdgonfaaGreat.lay0 o b)(hk:k≠0)(hk2:k<200):Ow B e k (bck o w1 o') w v xs:=by
 obtain⟨css,h1,h2,h3,h4⟩:=h;refine⟨css,h1,h2,λg hg=>?_,λi cs x a b=>h4 i cs x a b⟩;have:=h3 g hg;unfold Go.Proofs.YtdbbeldgdgonfaaGreat.bck;split
 ·rename_i hb;rw[ho g hb] at this;unfold Go.Proofs.YtdbbeldgdgonfaaGreat.lay0 at this;split at this<;>omega
 ·exact this
omit [Rp α] in
theorem Bx.mvr(h:Bx B k o w b e cs)(m:Mvr lo o w o' w')(hk:k<lo):Bx B k o' w' b e cs:=by
 obtain⟨q1,q2,q3⟩:=h;have hb:b<w.heap.size:=(Array.getElem?_eq_some_iff.1 q1).1;exact⟨(m.blk b hb (by rw[q2];exact hk)).1.trans q1,(m.blk b hb (by rw[q2];exact hk)).2.trans q2,q3⟩
end
structure Stp2 (t u:Nat) (o:Tg) (w:World) (o':Tg) (w':World):Prop where
  os:w'.os=w.os
  tape:w'.tape=w.tape
  output:w'.output=w.output
  size:w.heap.size<=w'.heap.size
  block:∀b,b<w.heap.size->o b≠t->o b≠u->w'.heap[b]? =w.heap[b]?
  own:∀b,b<w.heap.size->o' b=o b
section
variable {t u k K B:Nat} {o o' o'' oo:Tg} {w w' w'' w0:World} {e:TypeId} {v:Value} {α:Type} [Rp α] {xs:List α} {cs:List Value} {x:α} {b:Nat}
theorem Stp2.refl(t u:Nat)(o:Tg)(w:World):Stp2 t u o w o w:=⟨rfl,rfl,rfl,Nat.le_refl _,λ_ _ _ _=>rfl,λ_ _=>rfl⟩
theorem Stp.l(h:Stp t o w o' w')(u:Nat):Stp2 t u o w o' w':=⟨h.os,h.tape,h.output,h.size,λb hb h1 _=>h.block b hb h1,h.own⟩
theorem Stp.r(h:Stp u o w o' w')(t:Nat):Stp2 t u o w o' w':=⟨h.os,h.tape,h.output,h.size,λb hb _ h2=>h.block b hb h2,h.own⟩
theorem Stp2.trans(h:Stp2 t u o w o' w')(k:Stp2 t u o' w' o'' w''):Stp2 t u o w o'' w'':=
 ⟨k.os.trans h.os,k.tape.trans h.tape,k.output.trans h.output,Nat.le_trans h.size k.size,
  λb hb h1 h2=>(k.block b (Nat.lt_of_lt_of_le hb h.size) (by rw[h.own b hb];exact h1) (by rw[h.own b hb];exact h2)).trans (h.block b hb h1 h2),
  λb hb=>(k.own b (Nat.lt_of_lt_of_le hb h.size)).trans (h.own b hb)⟩
theorem Stp2.tr9{T:Nat}(h:Stp2 t u o w o' w')(hO:∀b,b<w.heap.size->o b≠T)(s:Stp T o' w' o'' w''):Stp2 t u o w o'' w'':=
 ⟨s.os.trans h.os,s.tape.trans h.tape,s.output.trans h.output,Nat.le_trans h.size s.size,
  λb hb h1 h2=>(s.block b (Nat.lt_of_lt_of_le hb h.size) (by rw[h.own b hb];exact hO b hb)).trans (h.block b hb h1 h2),
  λb hb=>(s.own b (Nat.lt_of_lt_of_le hb h.size)).trans (h.own b hb)⟩
theorem Stp2.bckS{lo:Nat}(h:Stp2 t u (prg lo o) w o' w')(ht:t<lo)(hu:u<lo)(hl:lo<=999):Stp2 t u o w (bck o w o') w':=
 ⟨h.os,h.tape,h.output,h.size,λb hb h1 h2=>h.block b hb (by unfold prg;split<;>omega) (by unfold prg;split<;>omega),λb hb=>by unfold Go.Proofs.YtdbbeldgdgonfaaGreat.bck;rw[if_pos hb]⟩
theorem Stp.trq{T:Nat}(h:Stp t o w o' w')(hO:∀b,b<w.heap.size->o b≠T)(s:Stp T o' w' o'' w''):Stp t o w o'' w'':=
 ⟨s.os.trans h.os,s.tape.trans h.tape,s.output.trans h.output,Nat.le_trans h.size s.size,
  λb hb h1=>(s.block b (Nat.lt_of_lt_of_le hb h.size) (by rw[h.own b hb];exact hO b hb)).trans (h.block b hb h1),
  λb hb=>(s.own b (Nat.lt_of_lt_of_le hb h.size)).trans (h.own b hb)⟩
end
namespace Ef
structure Kz (w w':World):Prop where
  size:w.heap.size<=w'.heap.size
structure Bs (oo o:Tg) (w0 w:World):Prop where
  keeps:Kz w0 w
theorem Bs.start(oo:Tg)(o:Tg)(w:World):Bs oo o w w:=⟨⟨Nat.le_refl _⟩⟩
theorem Bs.stp{oo o o':Tg}{w0 w w':World}{t:Nat}(h:Bs oo o w0 w)(s:Stp t o w o' w')(ht:2<=t:=by decide):Bs oo o' w0 w':=⟨⟨Nat.le_trans h.keeps.size s.size⟩⟩
end Ef
end
section
open Go.RowKit Go.Sort Go.Shelf
theorem sH_{B k g cap q m:Nat}{o:Tg}{w:World}{xs zs:List Int}{cur:Array Value}(hbase:B<=g)(hb:w.heap[g]? =some (.cells cur 3 (0,0)))(hn:xs.length<=cap)(hcap:cap<=maxLen)(hsz:cur.size=cap*1)(ho:o g=k)(hz:zs.length=xs.length)(hm:m<=zs.length):
  Ow B 3 k o (putRow (Value.int .i64) (Sort.ahead w q) g 0 zs.toArray) (.slice (some ⟨g,0,none⟩) m cap) (zs.take m)∧Stp k o w o (putRow (Value.int .i64) (Sort.ahead w q) g 0 zs.toArray):=by
 have hr:=ownsRow_sorted_i (n:=q) (os:= #[]) hz hbase hb hn hcap hsz;have e0:grow (putRow (Value.int .i64) (Sort.ahead w q) g 0 zs.toArray) #[]=putRow (Value.int .i64) (Sort.ahead w q) g 0 zs.toArray:=by
  unfold grow;rw[Array.append_empty]
 have hr:(putRow (Value.int .i64) (Sort.ahead w q) g 0 zs.toArray).ownsRow B 3 1 (.slice (some ⟨g,0,none⟩) xs.length cap) xs.length (zs.map (Value.int .i64)):=by
  rw[<-e0];exact hr
 refine⟨nX_ (λg' hg=>by cases hg;exact ho) ?_,⟨rfl,rfl,rfl,by simp[putRow,mapBlock,Sort.ahead],λb hb' hne=>?_,λ_ _=>rfl⟩⟩
 ·rw[List.length_take,Nat.min_eq_left hm];refine⟨by simp[hm],.inr ?_⟩;rcases hr.2 with⟨h0,_⟩|⟨g',cap',cur',e,h1,h2,h3,h4,h5,h6⟩
  ·cases h0
  ·cases e
   refine⟨g,cap,cur',rfl,h1,h2,by omega,h4,h5,?_⟩;have:=congrArg (List.take m) h6;rw[List.take_take,Nat.mul_one,Nat.min_eq_left (by omega)] at this;rw[Nat.mul_one,this,List.map_take]
 ·have:g≠b:=λe=>hne (by rw[<-e];exact ho);simp[putRow,mapBlock,Sort.ahead,Array.getElem?_modify,this]
def cmpO(xs:List Int):Option (List Int):=if xs.length<=1000000000 then some (Lib.compact xs) else none
theorem nn_(xs:List Int):(Lib.compact xs).length<=xs.length:=by
 unfold Lib.compact Lib.compactUpTo;rw[List.length_map];exact Nat.le_trans (List.length_filter_le _ _) (by simp)
theorem ps_{B k:Nat}{o:Tg}{w:World}{v:Value}{xs ys:List Int}(h:Ow B 3 k o w v xs)(hF:cmpO xs=some ys):
  Calls tX_ 142 #[v] w (λe w'=>∃v',e=.returned v'∧Ow B 3 k o w' v' ys∧Stp k o w o w'):=by
 unfold cmpO at hF;split at hF
 rotate_left
 ·cases hF
 rename_i hl;cases hF
 obtain⟨css,h1,h2,h3,h4⟩:=h;rw[lO_ h1 (λi cs x a b=>h4 i cs x a b)] at h2;have h2':w.ownsRow B 3 1 v xs.length (xs.map (Value.int .i64)):=h2;rcases h2'.2 with⟨rfl,h0⟩|⟨g,cap,cur,rfl,hbase,hb,hn,hcap,hsz,htk⟩
 ·have hx:xs=[]:=List.eq_nil_of_length_eq_zero h0;subst hx;refine (Any.slices_Compact_int_empty Tryz.laysCompact none 0 w).mono ?_;rintro e w' ⟨rfl,rfl⟩;exact⟨_,rfl,Ow.nil B 3 k o w',Stp.refl _ _ _⟩
 ·have hH:Holds (Value.int .i64) w g 0 xs.toArray:=holds_of_block_i hb (by simpa using htk);refine (Any.slices_Compact_int Tryz.laysCompact g 0 cap xs w hH (by omega) hn).mono ?_;rintro e w' ⟨rfl,q,rfl⟩;have hcl:=nn_ xs;obtain⟨r1,r2⟩:=sH_ (q:=q) (zs:=Lib.compact xs++List.replicate (xs.length-(Lib.compact xs).length) 0) (m:=(Lib.compact xs).length) hbase hb hn hcap hsz (h3 g rfl) (by simp;omega) (by simp);rw[List.take_left] at r1;exact⟨_,rfl,r1,r2⟩
def delO(xs:List Int)(i j:Int):Option (List Int):=if 0<=i∧i<=j∧j<=xs.length∧0<xs.length then some (xs.take i.toNat++xs.drop j.toNat) else none
theorem qk_{B k:Nat}{o:Tg}{w:World}{v:Value}{xs ys:List Int}{i j:Int}(h:Ow B 3 k o w v xs)(hF:delO xs i j=some ys):
  Calls tX_ 134 #[v,.int .i64 i,.int .i64 j] w (λe w'=>∃v',e=.returned v'∧Ow B 3 k o w' v' ys∧Stp k o w o w'):=by
 unfold delO at hF;split at hF
 rotate_left
 ·cases hF
 rename_i hl;cases hF
 obtain⟨l1,l2,l3,l4⟩:=hl;obtain⟨css,h1,h2,h3,h4⟩:=h;rw[lO_ h1 (λi cs x a b=>h4 i cs x a b)] at h2;have h2':w.ownsRow B 3 1 v xs.length (xs.map (Value.int .i64)):=h2;rcases h2'.2 with⟨rfl,h0⟩|⟨g,cap,cur,rfl,hbase,hb,hn,hcap,hsz,htk⟩
 ·omega
 ·have hH:Holds (Value.int .i64) w g 0 xs.toArray:=holds_of_block_i hb (by simpa using htk);obtain⟨i,rfl⟩:∃n:Nat,i=n:=⟨i.toNat,by omega⟩;obtain⟨j,rfl⟩:∃n:Nat,j=n:=⟨j.toNat,by omega⟩;simp only[Int.toNat_natCast];refine (Any.slices_Delete_int Tryz.laysDelete g 0 cap i j xs w hH hn (by simp only[maxLen] at hcap;omega) (by omega) (by omega)).mono ?_;rintro e w' ⟨rfl,q,rfl⟩;have hlen:(xs.take i++xs.drop j).length=xs.length-(j-i):=by
   rw[List.length_append,List.length_take,List.length_drop];omega
  obtain⟨r1,r2⟩:=sH_ (q:=q) (zs:=xs.take i++xs.drop j++List.replicate (j-i) 0) (m:=(xs.take i++xs.drop j).length) hbase hb hn hcap hsz (h3 g rfl) (by rw[List.length_append,hlen,List.length_replicate];omega) (by simp);rw[List.take_left,hlen] at r1;exact⟨_,rfl,r1,r2⟩
end
end Go.Proofs.YtdbbeldgdgonfaaGreat
