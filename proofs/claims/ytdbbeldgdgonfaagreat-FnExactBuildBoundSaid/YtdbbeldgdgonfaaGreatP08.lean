/- Part 8 of what this claim rests on (pack.py). -/
import Derived.Test.YtdbbeldgdgonfaaGreatP07
namespace Go.Proofs.YtdbbeldgdgonfaaGreat
set_option linter.unusedSimpArgs false
set_option linter.unusedVariables false
section
open Go.RowKit
def putMany(zs:List Value)(j:Nat):List Value->List Value
  |[]=>zs
  |u::us=>putMany (zs.set j u) (j+1) us
theorem gX_:∀(a A M C:List Value),M.length=a.length->putMany (A++M++C) A.length a=A++a++C
 |[],A,M,C,h=>by
  have:M=[]:=List.eq_nil_of_length_eq_zero h;subst this;rfl
 | u::a,A,M,C,h=>by
  cases M with
  |nil=>simp at h
  |cons m M=>
   have b:=gX_ a (A++[u]) M C (by simpa using h);simp only[putMany];have e:(A++m::M++C).set A.length u=A++[u]++M++C:=by simp
   rw[e];simpa using b
theorem jN_{sz:Nat}:∀(css:List (List Value)),(∀cs∈css,cs.length=sz)->css.flatten.length=css.length*sz
 |[],_=>by simp
 |c::css,h=>by
  rw[List.flatten_cons,List.length_append,jN_ css (λx a=>h x (by simp[a])),h c (by simp),List.length_cons,Nat.succ_mul,Nat.add_comm]
theorem ve_{sz:Nat}(css:List (List Value))(b:∀cs∈css,cs.length=sz)(i:Nat)(hi:i<css.length)(a:List Value)(q:a.length=sz):
  (css.set i a).flatten=putMany css.flatten (i*sz) a:=by
 have h:css=css.take i++css[i]::css.drop (i+1):=by rw[List.getElem_cons_drop hi,List.take_append_drop]
 have j:css[i].length=a.length:=by rw[b _ (List.getElem_mem hi),q]
 have f:=jN_ (css.take i) (λx s=>b x (List.mem_of_mem_take s));rw[List.length_take,Nat.min_eq_left (by omega)] at f;have p:css.flatten=(css.take i).flatten++css[i]++(css.drop (i+1)).flatten:=(congrArg List.flatten h).trans (by rw[List.flatten_append,List.flatten_cons,List.append_assoc]);have m:css.set i a=css.take i++a::css.drop (i+1):=List.set_eq_take_append_cons_drop.trans (by rw[if_pos hi]);rw[p,<-f,gX_ _ _ _ _ j,m];simp
section
variable {P:Program} {n:Nat} {l:List (Nat×Value)} {w w0:World} {o oo:Tg} {α:Type} [Rp α] {B k:Nat} {e:TypeId}
theorem gt_{g cap m sz:Nat}(p:o g=k):∀(b:List Value)(i off:Nat)(w:World)(zs:List Value),w.ownsRow B e sz (.slice (some ⟨g,0,none⟩) m cap) m zs->off+i+b.length<=zs.length->
  (∀u∈b,u.oneCell'=true)->∃w',(storeCells ⟨g,off,none⟩ b i).run P w=.ok () w'∧w'.ownsRow B e sz (.slice (some ⟨g,0,none⟩) m cap) m (putMany zs (off+i) b)∧Stp k o w o w'
 |[],i,off,w,zs,h,_,_=>⟨w,by simp[storeCells],h,Stp.refl _ _ _⟩
 |u::b,i,off,w,zs,h,s,j=>by
  simp only[List.length_cons] at s;have a:=h.cellAt (off+i) (by have:=h.1;omega);have F:=h.frozenAt (off+i);obtain⟨q,G⟩:=h.stored (off+i) u;have f:Stp k o w o (w.setCell ⟨g,off+i,none⟩ u):=px_ p;obtain⟨w',A,y,v⟩:=gt_ p b (i+1) off _ _ q (by simp;omega) (λx E=>j x (by simp[E]));have D:=run_store P w ⟨g,off+i,none⟩ u .plain (j u (by simp));refine⟨w',?_,by simp only[putMany];rw[show off+i+1=off+(i+1) by omega];exact y,f.trans v⟩;have C:(⟨g,off,none⟩:Addr).add i=⟨g,off+i,none⟩:=by simp[Addr.add]
  have t:zs[off+i]? =some (zs[off+i]'(by omega)):=List.getElem?_eq_getElem (by omega);simp only[storeCells,C,Sem.run_bind,D,a,F,t];simpa using A
variable {d:Nat} {ty:TypeId} {ps:String} {af:Array Edge} {g:Option (Nat×Bool)} {R:Value->World->Prop}
theorem tQ_{b:Nat}{t:TypeId}{x y:Operand}{v:Value}{cs:List Value}{xs L:List α}{i:Int}{z:α}(N:ev l x=some (.pointer (some ⟨b,0+i.toNat*Rp.sz α,none⟩)))(hy:ev l y=some (.agg cs.toArray))
  (h:Ow B e k o w v xs) (O:v.ownBlock=some b) (hi:st xs i z=some L) (hk:k≠0) (M:(P.info? t).map (·.size)=some (Rp.sz α)) (C:Rp.rd o w cs z):
  ∃w',(∀ρ,Agr ρ l->(execOp ρ ⟨none,.store t x y,ty,ps,af,g⟩).run P w=.ok .skip w')∧Ow B e k o w' v L∧Stp k o w o w':=by
 obtain⟨h0,h1,rfl⟩:=nk_ hi;obtain⟨a,c,rfl⟩:=h.form;obtain⟨b',m,rfl,_,X,U,hfz⟩:=h.at (List.getElem?_eq_getElem (show i.toNat<xs.length by omega));simp[Value.ownBlock] at O;subst O;have A:cs.length=Rp.sz α:=Rp.len C;obtain⟨css,J,V,H,I⟩:=h;have s:=Ow.lens (e:=e) (B:=B) J I;have D:=jN_ css s;have F:i.toNat<css.length:=by omega
 have W:i.toNat*Rp.sz α+Rp.sz α<=css.flatten.length:=by
  rw[D];have:=Nat.mul_le_mul_right (Rp.sz α) (show i.toNat+1<=css.length by omega);rw[Nat.succ_mul] at this;exact this
 rw[Nat.zero_add] at N;obtain⟨w',r1,Y,K⟩:=gt_ (P:=P) (o:=o) (H _ rfl) cs 0 (i.toNat*Rp.sz α) w css.flatten V (by omega) (λu T=>Rp.one C u T);refine⟨w',λρ S=>?_,⟨css.set i.toNat cs,by simp[J],?_,H,λj m Z p f=>?_⟩,K⟩
 ·cases E:P.info? t with
  |none=>simp[E] at M
  |some q=>
   have G:cs.length=q.size:=by simp[E] at M;omega
   simp only[execOp,S x _ N,S y _ hy,Instr.storeAt,Instr.sureAddr,Sem.run_bind,Sem.run_pure,Result.andThen_ok];simp[storeVar,sizeOf,typeInfo,E,Value.cells,G,r1]
 ·rw[ve_ css s _ F cs A];simpa using Y
 ·rw[List.getElem?_set] at p f;refine Rp.stp ?_ K hk;by_cases Q:i.toNat=j
  ·subst Q;rw[if_pos rfl,if_pos (by omega)] at p;rw[if_pos rfl,if_pos (by omega)] at f;cases p;cases f;exact C
  ·rw[if_neg Q] at p f;exact I j m Z p f
theorem sU_{b:Nat}{t:TypeId}{x y:Operand}{v:Value}{cs:List Value}{xs f:List α}{i:Int}{z:α}(a:Ow B e k o w v xs)(C:v.ownBlock=some b)(hi:st xs i z=some f)(j:Rp.rd o w cs z)(D:k≠0)
  (u:ev l x=some (.pointer (some ⟨b,0+i.toNat*Rp.sz α,none⟩))) (A:ev l y=some (.agg cs.toArray)) (q:(P.info? t).map (·.size)=some (Rp.sz α))
  (h:∀w',Ow B e k o w' v f->Stp k o w o w'->R undef w'):op1 P ⟨none,.store t x y,ty,ps,af,g⟩ n l w R:=by
 obtain⟨w',s,p,m⟩:=tQ_ (ps:=ps) (ty:=ty) (af:=af) (g:=g) u A a C hi D q j;exact mQ_ s (h w' p m)
end
theorem qX_:∀(a:List Value)(j:Nat)(cs:Array Value),((a.zipIdx j).foldl (λ(cs:Array Value)(q:Value×Nat)=>cs.setIfInBounds q.2 q.1) cs).toList=putMany cs.toList j a
 |[],j,cs=>rfl
 |u::a,j,cs=>by
  rw[List.zipIdx_cons,List.foldl_cons,qX_ a (j+1)];simp[putMany]
theorem fillS{z v:Value}{cs:List Value}(k:Nat)(b:v.cells=cs.toArray)(f:cs.length=k)(p:0<k):
  Instr.fill (λi=>some (i*k,k)) ((Array.range (1*k)).map ((if 1*k=0 then #[] else z.cells)[·%(if 1*k=0 then #[] else z.cells).size]!)) [(0,v)]=some cs.toArray:=by
 have m:v.cells.size=k:=by rw[b];simpa using f
 generalize h:(Array.range (1*k)).map ((if 1*k=0 then #[] else z.cells)[·%(if 1*k=0 then #[] else z.cells).size]!)=A;have a:A.size=k:=by rw[<-h];simp
 simp only[Instr.fill,Nat.zero_mul,Nat.zero_add,m,a];rw[if_neg (by simp)];congr 1;rw[<-Array.toList_inj];rw[b,<-Array.foldl_toList];have:=qX_ cs 0 A;have e:(cs.toArray.zipIdx).toList=cs.zipIdx 0:=by simp
 rw[e,this];have j:=gX_ cs [] A.toList [] (by simp[a,f]);simpa using j
end
section
open Go.RowKit
structure Pv where
  v:Value
  x:List Int
instance:Inhabited Pv:=⟨⟨.slice none 0 0,[]⟩⟩
instance:Rp Pv where
  sz:=1
  pos:=by decide
  rd o w cs p:=cs=[p.v]∧p.v.oneCell'=true∧RdL o w p.v p.x
  len h:=by rw[h.1];rfl
  one h:=by obtain⟨rfl,h,_⟩:=h;intro c hc;simp at hc;subst hc;exact h
  mv h hs hb:=⟨h.1,h.2.1,h.2.2.mv hs hb⟩
theorem uO_{o:Tg}{w:World}{p:Pv}(h:RdL o w p.v p.x):Rp.rd o w [p.v] p:=⟨rfl,h.one1,h⟩
theorem Stp.tr9{o m p:Tg}{w f j:World}(h:Stp 10 o w m f)(q:∀b,b<w.heap.size->o b≠999)(k:Stp 999 m f p j):Stp 10 o w p j:=
 ⟨k.os.trans h.os,k.tape.trans h.tape,k.output.trans h.output,Nat.le_trans h.size k.size,
  λb a s=>(k.block b (Nat.lt_of_lt_of_le a h.size) (by rw[h.own b a];exact q b a)).trans (h.block b a s),
  λb a=>(k.own b (Nat.lt_of_lt_of_le a h.size)).trans (h.own b a)⟩
def subv(v:Value)(k:Nat):Value:=match v with
  | .slice a n c=>sliced a k n c 1
  |v=>v
def prev(v:Value)(k:Nat):Value:=match v with
  | .slice a n c=>sliced a 0 k c 1
  |v=>v
section
variable {P:Program} {n:Nat} {l:List (Nat×Value)} {w w0:World} {o oo:Tg} {d:Nat} {ty:TypeId} {ps:String} {af:Array Edge} {g:Option (Nat×Bool)} {R:Value->World->Prop} {B k:Nat} {e:TypeId} {v:Value} {xs ys:List Pv} {lo i:Int} {u:Pv}
theorem Addr.add_zero'(g k:Nat):(⟨g,0,none⟩:Addr).add k=⟨g,0+k,none⟩:=by
 unfold Addr.add;split
 ·rename_i h;rw[h]
 ·rfl
theorem lp_{t f:TypeId}{x:Operand}{lo':Operand}(h:Ow B e k o w v xs)(q:cut xs lo xs.length=some ys)(A:ev l x=some v)(b:ev l lo'=some (.int .i64 lo))(D:P.underlying t=some (.slice f))(y:∀w,(sizeOf f).run P w=.ok 1 w)
  (m:R (subv v lo.toNat) w):op1 P ⟨some d,.slice t x (some lo') none none,ty,ps,af,g⟩ n l w R:=by
 obtain⟨a,c,rfl⟩:=h.form;obtain⟨G,F,p,C,s,E⟩:=rd_ h.z q;refine M_ (λρ j=>?_) m;have:=mI_ (P:=P) (w:=w) (a:=a) (n:=xs.length) (c:=c) (lo:=some (.int .i64 lo)) (hi:=none) (lo':=lo) (hi':=xs.length) D y (.inl rfl) (.inr ⟨rfl,rfl⟩) p C s;simp only[execOp,j x _ A,j lo' _ b,Sem.run_bind,this,Result.andThen_ok,Option.map_none,Option.map_some];rfl
theorem tu_{d:Option Nat}{t b:TypeId}{x:Operand}(h:Ow B e k o w v xs)(f:cut xs lo xs.length=some ys)(m:ev l x=some (subv v lo.toNat))(j:P.underlying t=some (.slice b)):
  ∀ρ,Agr ρ l->(execOp ρ ⟨d,.call {callee:=.builtin .len,args:= #[x],argTypes:= #[t]},ty,ps,af,g⟩).run P w=.ok (.value (.int .i64 ((xs.length:Int)-lo))) w:=by
 obtain⟨a,c,rfl⟩:=h.form;obtain⟨p,s,q,rfl⟩:=ir_ f;have:=tb_ (P:=P) (w:=w) (l:=l) (d:=d) (ty:=ty) (ps:=ps) (af:=af) (g:=g) (x:=x) (t:=t) (e:=b) m j;rw[show((xs.length:Int)-lo)=((xs.length-lo.toNat:Nat):Int) by omega];exact this
theorem nB_(h:Ow B e k o w v xs)(q:cut xs lo xs.length=some ys)(hi:ix xs (lo+i)=some u)(E:0<=i):
  ∃b cap,v=.slice (some ⟨b,0,none⟩) xs.length cap∧subv v lo.toNat=.slice (some ⟨b,0+lo.toNat,none⟩) (xs.length-lo.toNat) (cap-lo.toNat)∧Cells w b (0+(lo+i).toNat) [u.v]∧RdL o w u.v u.x∧(lo+i).toNat=lo.toNat+i.toNat∧i<((xs.length-lo.toNat:Nat):Int):=by
 obtain⟨a,c,rfl⟩:=h.form;obtain⟨C,F,D,rfl⟩:=ir_ q;obtain⟨H,I,t⟩:=fx_ hi;obtain⟨b,cs,rfl,_,j,f,_⟩:=h.at t;have m:xs.length<=c:=by
  obtain⟨css,J,s,G,K⟩:=h;rcases s.2 with⟨e,_⟩|⟨g,cap,y,e,_,_,A,_⟩
  ·cases e
  ·cases e;exact A
 refine⟨b,c,rfl,?_,?_,f.2.2,by omega,by omega⟩
 ·unfold subv sliced;simp only
  rw[if_neg (by omega),Option.map_some,Nat.mul_one,Addr.add_zero']
 ·obtain⟨p,_⟩:=f;subst p;simpa [Rp.sz] using j
theorem uR_{x y:Operand}{t f:TypeId}(h:Ow B e k o w v xs)(A:cut xs lo xs.length=some ys)(hi:ix xs (lo+i)=some u)(a:0<=i)(j:ev l x=some (subv v lo.toNat))(F:ev l y=some (.int .i64 i))
  (G:P.underlying t=some (.slice f)) (E:∀w,(sizeOf f).run P w=.ok 1 w)
  (m:∀b off cs,Cells w b off cs->Rp.rd o w cs u->R (.pointer (some ⟨b,off,none⟩)) w):op1 P ⟨some d,.indexAddr t x y,ty,ps,af,g⟩ n l w R:=by
 obtain⟨b,cap,rfl,s,C,p,q,D⟩:=nB_ h A hi a;rw[s] at j;refine M_ (ih_ j F a D G E) (m b _ [u.v] ?_ (uO_ p));rw[Nat.mul_one,Nat.zero_add,<-q];simpa using C
theorem ld_{x y:Operand}{t f:TypeId}{d:Option Nat}(h:Ow B e k o w v xs)(s:cut xs lo xs.length=some ys)(hi:ix xs (lo+i)=some u)(a:0<=i)(j:ev l x=some (subv v lo.toNat))(E:ev l y=some (.int .i64 i))
  (F:P.underlying t=some (.slice f)) (D:∀w,(sizeOf f).run P w=.ok 1 w) (m:R (adr v ((lo+i).toNat*Rp.sz Pv)) w):op1 P ⟨d,.indexAddr t x y,ty,ps,af,g⟩ n l w R:=by
 obtain⟨b,cap,rfl,q,H,G,p,C⟩:=nB_ h s hi a;rw[q] at j;have:=ih_ (P:=P) (w:=w) (d:=d) (ty:=ty) (ps:=ps) (af:=af) (g:=g) j E a C F D;refine M_ this ?_;have A:adr (.slice (some ⟨b,0,none⟩) xs.length cap) ((lo+i).toNat*Rp.sz Pv)=.pointer (some ⟨b,0+lo.toNat+i.toNat*1,none⟩):=by
  simp only[adr,Rp.sz,Nat.mul_one,p,Nat.zero_add]
 rw[<-A];exact m
theorem kP_{t e':TypeId}{x:Operand}{zs:List Pv}(h:Ow B e k o w v xs)(hc:cut xs lo xs.length=some ys)(hz:cut xs 0 lo=some zs)(hk:k≠0)(y:ev l x=some (subv v lo.toNat))(ht:P.underlying t=some (.slice e'))
  (Y:∀w,(zeroValue e').run P w=.ok (.slice none 0 0) w)
  (hR:∀w' v',Ow B e k o w' (prev v lo.toNat) zs->Stp k o w o w'->R v' w'):op1 P ⟨none,.call {callee:=.builtin .clear,args:= #[x],argTypes:= #[t]},ty,ps,af,g⟩ n l w R:=by
 obtain⟨a,c,rfl⟩:=h.form;obtain⟨g1,g2,g3,-⟩:=ir_ hc;obtain⟨-,-,-,rfl⟩:=ir_ hz;have A:∀w',(∃css:List (List Value),css.length=xs.length∧w'.ownsRow B e 1 (.slice a xs.length c) xs.length css.flatten∧∀j cs,j<lo.toNat->css[j]? =some cs->∃u,xs[j]? =some u∧Rp.rd o w' cs u)->
   Ow B e k o w' (prev (.slice a xs.length c) lo.toNat) ((xs.take lo.toNat).drop (0:Int).toNat):=λw' ⟨css,X,N,V⟩=>by
  have O:=h.tagged;have M:∀cs∈css.take lo.toNat,cs.length=1:=λcs f=>by
   obtain⟨j,I⟩:=List.mem_iff_getElem?.1 f;have m:j<lo.toNat:=by
    have:=(List.getElem?_eq_some_iff.1 I).1;simp at this;omega
   rw[List.getElem?_take,if_pos m] at I;obtain⟨u,_,D⟩:=V j cs m I;exact Rp.len D
  have p:∀{L:List (List Value)},(∀cs∈L,cs.length=1)->L.flatten.length=L.length:=by
   intro L
   induction L with
   |nil=>intro _;rfl
   |cons a L ih=>
    intro S;rw[List.flatten_cons,List.length_append,ih λx y=>S x (by simp[y]),S a (by simp),List.length_cons];omega
  have F:css.flatten.take lo.toNat=(css.take lo.toNat).flatten:=by
   have s:css.flatten=(css.take lo.toNat).flatten++(css.drop lo.toNat).flatten:=by rw[<-List.flatten_append,List.take_append_drop]
   have J:=p M;rw[s,List.take_append_of_le_length (by rw[J,List.length_take];omega),List.take_of_length_le (by rw[J,List.length_take];omega)]
  have C:((xs.take lo.toNat).drop (0:Int).toNat).length=lo.toNat:=by simp;omega
  refine⟨css.take lo.toNat,by rw[C,List.length_take];omega,?_,λg H=>?_,λj cs u W Z=>?_⟩
  ·rw[C];obtain⟨p1,p2⟩:=N;refine⟨by rw[p M,List.length_take];show _=lo.toNat*1;omega,?_⟩;rcases p2 with⟨s,J⟩|⟨gg,cap,Q,s,p3,p4,p5,p6,p7,p8⟩
   ·simp only[Value.slice.injEq] at s;obtain⟨rfl,_,rfl⟩:=s;exact .inl ⟨by unfold prev sliced;simp only;rw[show lo.toNat=0 by omega];simp,by omega⟩
   ·simp only[Value.slice.injEq] at s;obtain⟨rfl,_,rfl⟩:=s;refine .inr ⟨gg,c,Q,?_,p3,p4,by omega,p6,p7,?_⟩
    ·unfold prev sliced;simp only
     by_cases U:c=0
     ·rw[if_pos U,Nat.sub_zero,Nat.sub_zero]
     ·rw[if_neg U,Option.map_some,Nat.zero_mul,Addr.add_zero',Nat.sub_zero,Nat.sub_zero]
    ·show Q.toList.take (lo.toNat*1)=_;rw[<-F,<-p8,List.take_take];congr 1;show lo.toNat*1=min lo.toNat (xs.length*1);omega
  ·refine O g ?_;cases a with
   |none=>unfold prev sliced at H;simp only at H;split at H<;>simp[Value.ownBlock] at H
   | some ad=>
    have:(prev (.slice (some ad) xs.length c) lo.toNat).ownBlock=some ad.block:=by
     unfold prev sliced;simp only
     split
     ·rfl
     ·simp only[Option.map_some,Value.ownBlock,Nat.zero_mul];unfold Addr.add;split<;>rfl
    rw[this] at H;exact H
  ·have m:j<lo.toNat:=by
    have:=(List.getElem?_eq_some_iff.1 W).1;simp at this;omega
   rw[List.getElem?_take,if_pos m] at W;obtain⟨u',hu1,hu2⟩:=V j cs m W;rw[show(0:Int).toNat=0 from rfl,List.drop_zero,List.getElem?_take,if_pos m,hu1] at Z;cases Z
   exact hu2
 obtain⟨css,X,N,V,q4⟩:=id h;by_cases E:lo.toNat=xs.length
 ·have D:=run_underlying (w:=w) ht;have hr:∀ρ,Agr ρ l->(execOp ρ ⟨none,.call {callee:=.builtin .clear,args:= #[x],argTypes:= #[t]},ty,ps,af,g⟩).run P w=.ok (.value (.tuple #[])) w:=by
   intro ρ hρ;have:subv (.slice a xs.length c) lo.toNat=.slice (if c=lo.toNat then a else a.map (·.add (lo.toNat*1))) 0 (c-lo.toNat):=by
    unfold subv sliced;simp only
    rw[E,Nat.sub_self]
   rw[this] at y;have G:(Builtin.clear_ #[t] ty #[.slice (if c=lo.toNat then a else a.map (·.add (lo.toNat*1))) 0 (c-lo.toNat)]).run P w=.ok (.tuple #[]) w:=by
    unfold Builtin.clear_;cases hq:(if c=lo.toNat then a else a.map (·.add (lo.toNat*1)))<;>simp[Sem.run_bind,D,Sem.run_pure]
   simp only[execOp,resolve,invoke,builtin,Sem.run_bind,Sem.run_pure,Result.andThen_ok,List.map_toArray,List.map_cons,List.map_nil,hρ x _ y,G]
  refine M_ hr (hR w _ (A w ⟨css,X,N,λj cs I f=>?_⟩) (Stp.refl _ _ _));exact⟨xs[j]'(by omega),List.getElem?_eq_getElem (by omega),q4 j cs _ f (List.getElem?_eq_getElem (by omega))⟩
 ·have T:lo.toNat<xs.length:=by omega
  obtain⟨b,cap,ee,s,-,-,-,-⟩:=nB_ (i:=0) h hc (u:=xs[lo.toNat]'T) (by unfold ix;rw[if_pos (by omega)];rw[Int.add_zero];exact List.getElem?_eq_getElem T) (by omega);cases ee
  have hlz:=Ow.lens (e:=e) (B:=B) X q4;have p:css.flatten.length=xs.length:=by have:=N.1;rw[this];exact Nat.mul_one _
  obtain⟨w',r1,r2,r3⟩:=gt_ (P:=P) (o:=o) (V _ rfl) (List.replicate (xs.length-lo.toNat) (.slice none 0 0)) 0 (0+lo.toNat) w css.flatten N (by rw[p,List.length_replicate];omega) (λu D=>by rw[List.eq_of_mem_replicate D];rfl);have D:=run_underlying (w:=w) ht;have K:(Builtin.zeroCells (Value.cells (.slice none 0 0)) (xs.length-lo.toNat)).toList=List.replicate (xs.length-lo.toNat) (.slice none 0 0):=by
   unfold Builtin.zeroCells;apply List.ext_getElem
   ·simp[Value.cells]
   ·intro j W Z;simp[Value.cells,Nat.mod_one]
  have hr:∀ρ,Agr ρ l->(execOp ρ ⟨none,.call {callee:=.builtin .clear,args:= #[x],argTypes:= #[t]},ty,ps,af,g⟩).run P w=.ok (.value (.tuple #[])) w':=by
   intro ρ hρ;rw[s] at y;have G:(Builtin.clear_ #[t] ty #[.slice (some ⟨b,0+lo.toNat,none⟩) (xs.length-lo.toNat) (c-lo.toNat)]).run P w=.ok (.tuple #[]) w':=by
    unfold Builtin.clear_;obtain⟨q,hq⟩:∃q,xs.length-lo.toNat=q+1:=⟨xs.length-lo.toNat-1,by omega⟩;rw[hq] at K r1;simp only[hq,List.getElem?_toArray,List.getElem?_cons_zero,Sem.run_bind,D,Result.andThen_ok,Y,K,r1,Sem.run_pure]
   simp only[execOp,resolve,invoke,builtin,Sem.run_bind,Sem.run_pure,Result.andThen_ok,List.map_toArray,List.map_cons,List.map_nil,hρ x _ y,G]
  refine M_ hr (hR w' _ (A w' ⟨css.take lo.toNat++List.replicate (xs.length-lo.toNat) [.slice none 0 0],by simp;omega,?_,λj cs I f=>?_⟩) r3)
  ·have F:css.flatten.take lo.toNat=(css.take lo.toNat).flatten:=by
    have hf2:∀{L:List (List Value)},(∀cs∈L,cs.length=1)->L.flatten.length=L.length:=by
     intro L
     induction L with
     |nil=>intro _;rfl
     |cons a L ih=>
      intro S;rw[List.flatten_cons,List.length_append,ih λx y=>S x (by simp[y]),S a (by simp),List.length_cons];omega
    have s:css.flatten=(css.take lo.toNat).flatten++(css.drop lo.toNat).flatten:=by rw[<-List.flatten_append,List.take_append_drop]
    have J:=hf2 (L:=css.take lo.toNat) λcs f=>hlz cs (List.mem_of_mem_take f);rw[s,List.take_append_of_le_length (by rw[J,List.length_take];omega),List.take_of_length_le (by rw[J,List.length_take];omega)]
   have hm:=gX_ (List.replicate (xs.length-lo.toNat) (.slice none 0 0)) (css.flatten.take lo.toNat) (css.flatten.drop lo.toNat) [] (by rw[List.length_drop,List.length_replicate,p]);rw[List.append_nil,List.take_append_drop,List.append_nil,List.length_take,p,Nat.min_eq_left (by omega)] at hm;rw[show 0+lo.toNat+0=lo.toNat by omega,hm,F] at r2;rw[List.flatten_append,List.flatten_replicate_singleton];exact r2
  ·rw[List.getElem?_append_left (by rw[List.length_take];omega),List.getElem?_take,if_pos I] at f;exact⟨xs[j]'(by omega),List.getElem?_eq_getElem (by omega),Rp.stp (q4 j cs _ f (List.getElem?_eq_getElem (by omega))) r3 hk⟩
theorem qO_{d:Option Nat}{j:Operand}{f:FuncId}{xs:List Operand}{vs:List Value}{b:Array TypeId}{C:Ending->World->Prop}(p:Calls P f vs.toArray w C)(a:∀args w,(callFunc f args).run P w=.ok (.enter f args) w)(s:ev l j=some (.func (.func f) #[] #[]))(q:EvL l xs vs)
  (h:∀e w',C e w'->∃v,e=.returned v∧R v w'):op1 P ⟨d,.call {callee:=.value j,args:=xs.toArray,argTypes:=b},ty,ps,af,g⟩ n l w R:=by
 refine iY_ (f:=f) (args:=vs.toArray) (λρ m=>?_) p h;simp only[execOp,resolve,Sem.run_bind,m j _ s,Deferred.ofValue,Sem.run_pure,Result.andThen_ok,invoke,List.map_toArray,EvL.map m q];simp[a]
def nn(i:Int):Option Unit:=if 0<=i then some () else none
theorem qg_{i:Int}{x:Unit}(h:nn i=some x):0<=i:=by
 unfold nn at h;split at h
 ·assumption
 ·cases h
def PreF(v:Value)(lo:Int):Prop:=∃a n c,v=.slice a n c∧0<=lo∧lo<=c
theorem rh_{zs:List Pv}(h:Ow B e k o w v xs)(b:cut xs 0 lo=some zs):PreF v lo:=by
 obtain⟨a,c,rfl⟩:=h.form;obtain⟨q,m,s,j,f,p⟩:=rd_ h.z b;exact⟨a,_,c,rfl,j,f⟩
theorem ok_{d:Option Nat}{t f:TypeId}{x hi:Operand}(h:PreF v lo)(y:ev l x=some v)(b:ev l hi=some (.int .i64 lo))(p:P.underlying t=some (.slice f))(s:∀w,(sizeOf f).run P w=.ok 1 w):
  ∀ρ,Agr ρ l->(execOp ρ ⟨d,.slice t x none (some hi) none,ty,ps,af,g⟩).run P w=.ok (.value (prev v lo.toNat)) w:=by
 obtain⟨a,n,c,rfl,q,m⟩:=h;intro ρ j;have:=mI_ (P:=P) (w:=w) (a:=a) (n:=n) (c:=c) (lo:=none) (hi:=some (.int .i64 lo)) (lo':=0) (hi':=lo) p s (.inr ⟨rfl,rfl⟩) (.inl rfl) (by omega) q m;simp only[execOp,j x _ y,j hi _ b,Sem.run_bind,this,Result.andThen_ok,Option.map_none,Option.map_some];rfl
end
end
section
open Go.RowKit
structure RawN (n:Nat) where
  cs:List Value
  len:cs.length=n+1
  one:∀c∈cs,c.oneCell'=true
instance (n:Nat):Rp (RawN n) where
  sz:=n+1
  pos:=Nat.succ_pos n
  rd o w cs x:=cs=x.cs
  len h:=by rename_i x;subst h;exact x.len
  one h:=by rename_i x;subst h;exact x.one
  mv h _ _:=h
section
variable {P:Program} {n:Nat} {l:List (Nat×Value)} {w w0:World} {o oo:Tg} {α:Type} [Rp α] {d:Nat} {ty:TypeId} {ps:String} {af:Array Edge} {g:Option (Nat×Bool)} {R:Value->World->Prop}
variable {B k k2:Nat} {e:TypeId} {v v2 u:Value} {xs ys zs:List α} {lo hi i:Int} {x1:α}
theorem pU_(a:Option Addr)(h m s:Nat):sliced a 0 h m s=sliced a 0 h m 1:=by simp[sliced]
theorem rX_{t f:TypeId}{x hi':Operand}{C:Option Nat}(h:Ow B e k o w v xs)(m:cut xs 0 hi=some ys)(s:ev l x=some v)(b:ev l hi'=some (.int .i64 hi))(A:P.underlying t=some (.slice f))(q:∀w,(sizeOf f).run P w=.ok (Rp.sz α) w):
  ∀ρ,Agr ρ l->(execOp ρ ⟨C,.slice t x none (some hi') none,ty,ps,af,g⟩).run P w=.ok (.value (prev v hi.toNat)) w:=by
 obtain⟨a,c,rfl⟩:=h.form;obtain⟨G,F,E,y,p,D⟩:=rd_ h.z m;intro ρ j;have:=mI_ (P:=P) (w:=w) (a:=a) (n:=xs.length) (c:=c) (lo:=none) (hi:=some (.int .i64 hi)) (lo':=0) (hi':=hi) A q (.inr ⟨rfl,rfl⟩) (.inl rfl) (by omega) y p;rw[show((0:Int)).toNat=0 from rfl,pU_] at this;simp only[execOp,j x _ s,j hi' _ b,Sem.run_bind,this,Result.andThen_ok,Option.map_none,Option.map_some];rfl
theorem hX_{s:Nat}:∀{css:List (List Value)}(m:Nat),(∀cs∈css,cs.length=s)->m<=css.length->(css.take m).flatten=css.flatten.take (m*s)∧(css.take m).flatten.length=m*s
 |css,0,_,_=>by simp
 |[],m+1,_,h=>by simp at h
 |c::css,m+1,b,j=>by
  obtain⟨q,p⟩:=hX_ (css:=css) m (λx t=>b x (by simp[t])) (by simpa using j);have a:=b c (by simp);have f:(m+1)*s=s+m*s:=by rw[Nat.succ_mul,Nat.add_comm]
  rw[List.take_succ_cons,List.flatten_cons,List.flatten_cons,List.length_append,p,q,a,f];refine⟨?_,rfl⟩;rw[List.take_append,a,List.take_of_length_le (l:=c) (by rw[a];exact Nat.le_add_right _ _),Nat.add_sub_cancel_left]
theorem Ow.pre(h:Ow B e k o w v xs)(H:cut xs 0 hi=some ys):Ow B e k o w (prev v hi.toNat) ys:=by
 have b:=h.tagged;obtain⟨css,D,C,T,E⟩:=h;obtain⟨O,S,Q,rfl⟩:=ir_ H;have x:=Ow.lens (e:=e) (B:=B) D E;have p:((xs.take hi.toNat).drop (0:Int).toNat)=xs.take hi.toNat:=by simp
 obtain⟨L,N⟩:=hX_ (css:=css) hi.toNat x (by omega);rw[p];refine⟨css.take hi.toNat,by rw[List.length_take,List.length_take,D],?_,λg a=>?_,λj cs u y A=>?_⟩
 ·have s:(xs.take hi.toNat).length=hi.toNat:=by rw[List.length_take];omega
  rw[s];obtain⟨V,G⟩:=C;refine⟨N,?_⟩;rcases G with⟨rfl,U⟩|⟨q,cap,m,rfl,J,K,W,F,M,I⟩
  ·exact .inl ⟨by unfold prev sliced;simp only;rw[show hi.toNat=0 by omega];simp,by omega⟩
  ·refine .inr ⟨q,cap,m,?_,J,K,by omega,F,M,?_⟩
   ·unfold prev sliced;simp only
    by_cases f:cap=0
    ·rw[if_pos f,Nat.sub_zero,Nat.sub_zero]
    ·rw[if_neg f,Option.map_some,Nat.zero_mul,Addr.add_zero',Nat.sub_zero,Nat.sub_zero]
   ·rw[L,<-I,List.take_take,Nat.min_eq_left (Nat.mul_le_mul_right _ (by omega))]
 ·refine b g ?_;rcases C.2 with⟨rfl,_⟩|⟨q,cap,m,rfl,_⟩
  ·unfold prev sliced at a;simp only at a;split at a<;>simp[Value.ownBlock] at a
  ·have:(prev (.slice (some ⟨q,0,none⟩) xs.length cap) hi.toNat).ownBlock=some q:=by
    unfold prev sliced;simp only
    split
    ·rfl
    ·simp only[Option.map_some,Value.ownBlock,Nat.zero_mul];unfold Addr.add;split<;>rfl
   rw[this] at a;exact a
 ·have t:j<hi.toNat:=by
   have:=(List.getElem?_eq_some_iff.1 y).1;rw[List.length_take] at this;omega
  rw[List.getElem?_take_of_lt t] at y A;exact E j cs u y A
theorem RdL.plc{p:Tg}{f:World}(h:RdL p f v xs)(hi:ix xs i=some x1):∃b off m c,v=.slice (some ⟨b,off,none⟩) m c:=by
 obtain⟨a,c,rfl⟩:=h.form;obtain⟨q,s,j⟩:=fx_ hi;obtain⟨b,off,cs,rfl,_⟩:=h.at j;exact⟨b,off,_,c,rfl⟩
theorem qF_{s:TypeId}{f k:Nat}{j:Array Field}{a:Field}{x:Operand}{m:Nat}{d:Option Nat}(D:∃b off m c,v=.slice (some ⟨b,off,none⟩) m c)(A:ev l x=some (adr v m))(t:P.underlying s=some (.struct j))(C:j[f]? =some a)
  (y:∀w,(sizeOf a.type).run P w=.ok (k+1) w) (p:R (adr v (m+a.offset)) w):op1 P ⟨d,.fieldAddr s x f,ty,ps,af,g⟩ n l w R:=by
 obtain⟨b,off,q,c,rfl⟩:=D;have h:ev l x=some (.pointer (some ⟨b,off+m,none⟩)):=A;refine M_ (m_ (d:=d) h t C y) ?_;have e:adr (.slice (some ⟨b,off,none⟩) q c) (m+a.offset)=.pointer (some ⟨b,off+m+a.offset,none⟩):=by
  show Value.pointer (some ⟨b,off+(m+a.offset),none⟩)=_;rw[Nat.add_assoc]
 rw[<-e];exact p
theorem qW_{x:Operand}{t:TypeId}{f:Nat}{d:Option Nat}(h:RdL o w v xs)(hi:ix xs i=some x1)(D:f<Rp.sz α)(C:ev l x=some (adr v (i.toNat*Rp.sz α+f)))(m:∀w,(isAgg t).run P w=.ok false w)
  (s:∀cs c,Rp.rd o w cs x1->cs[f]? =some c->R c w):op1 P ⟨d,.load t x,ty,ps,af,g⟩ n l w R:=by
 obtain⟨a,c,rfl⟩:=h.form;obtain⟨E,F,A⟩:=fx_ hi;obtain⟨b,off,cs,rfl,y,q,_⟩:=h.at A;have p:f<cs.length:=by rw[Rp.len q];exact D
 have j:w.cell? ⟨b,off+(i.toNat*Rp.sz α+f),none⟩=some cs[f]:=by
  rw[<-Nat.add_assoc];exact y f _ (List.getElem?_eq_getElem p)
 exact M_ (e_ C m j) (s cs _ q (List.getElem?_eq_getElem p))
end
end
section
open Go.RowKit
structure ak_ where
  Problems:List b_
  Maps:List (List Int)
  Refusal:List (List Int)
  deriving DecidableEq
instance:Rp ak_ where
  sz:=3
  pos:=by decide
  rd o w cs x:=∃v1 v2 v3,cs=[v1,v2,v3]∧RdL o w v1 x.Problems∧RdL o w v2 x.Maps∧RdL o w v3 x.Refusal
  len h:=by obtain⟨v1,v2,v3,rfl,h1,h2,h3⟩:=h;rfl
  one h:=by
    obtain⟨v1,v2,v3,rfl,h1,h2,h3⟩:=h
    intro c hc
    simp only[List.mem_cons,List.not_mem_nil,or_false] at hc
    rcases hc with rfl|rfl|rfl<;>first|exact h1.one1|exact h2.one1|exact h3.one1
  mv h hs hb:=by obtain⟨v1,v2,v3,rfl,h1,h2,h3⟩:=h;exact⟨v1,v2,v3,rfl,h1.mv hs hb,h2.mv hs hb,h3.mv hs hb⟩
instance:Rz ak_:=⟨⟨[],[],[]⟩,[.slice none 0 0,.slice none 0 0,.slice none 0 0],λo w=>⟨_,_,_,rfl,RdL.nil o w,RdL.nil o w,RdL.nil o w⟩⟩
def okQs(ps:List b_):Prop:=True
instance:Ar b_:=⟨λw vs x=>∃cs:List Value,vs=[.agg cs.toArray]∧Rp.rd zt w cs x⟩
end
end Go.Proofs.YtdbbeldgdgonfaaGreat
