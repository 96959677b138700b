/- Part 1 of what this claim rests on (Base, Mem, Kf, Km, Ko), packed by pack.py. -/
import Derived.WalkKit
import Derived.ProofKit
import Derived.Below
import Derived.Lib.Hide
import Derived.Deep.Onto
import Derived.Deep.AppendLies
import Derived.Deep.QuietTactic
import Derived.Test.YtdbbeldgdgonfaaGreatProg
import Derived.Deep.LoopGhost
namespace Go.Proofs.YtdbbeldgdgonfaaGreat
set_option linter.unusedSimpArgs false
set_option linter.unusedVariables false
section
open Go.RowKit
abbrev Keeps(w w':World):Prop:=Below w.heap.size w w'
theorem Keeps.refl(w:World):Keeps w w:=Below.refl _ _
theorem Keeps.trans{a b c:World}(h:Keeps a b)(k:Keeps b c):Keeps a c:=Below.trans h (Below.mono k h.size)
theorem Keeps.alloc{a w:World}(h:Keeps a w)(o:Obj):Keeps a (w.alloc o):=Below.alloc h h.size o
theorem Keeps.drew{a w:World}(h:Keeps a w):Keeps a w.drew:=Below.drew h
theorem Keeps.drewN{a w:World}(h:Keeps a w)(n:Nat):Keeps a (w.drewN n):=⟨h.os,h.tape,h.output,h.size,h.block⟩
theorem k_{w w':World}{a:Addr}{v:Value}(k:Keeps w w')(h:w.cell? a=some v):w'.cell? a=some v:=by
 rw[Below.cell k (World.block_lt_of_cell? w _ h)];exact h
def Dr(w w':World):Prop:=∃n,w'=w.drewN n
theorem Dr.refl(w:World):Dr w w:=⟨0,rfl⟩
theorem Dr.more{w w':World}(h:Dr w w')(n:Nat):Dr w (w'.drewN n):=by
 obtain⟨m,rfl⟩:=h;exact⟨m+n,by rw[World.drewN_drewN]⟩
theorem Dr.drew{w w':World}(h:Dr w w'):Dr w w'.drew:=h.more 1
theorem Dr.trans{a b c:World}(h:Dr a b)(k:Dr b c):Dr a c:=by
 obtain⟨n,rfl⟩:=k;exact h.more n
theorem Dr.keeps{w w':World}(h:Dr w w'):Keeps w w':=by
 obtain⟨n,rfl⟩:=h;exact(Keeps.refl w).drewN n
theorem Dr.keep{a w w':World}(h:Dr w w')(k:Keeps a w):Keeps a w':=Keeps.trans k h.keeps
def Sl(w:World)(v:Value)(xs:List Value):Prop:=
  ∃a c,v=.slice a xs.length c∧xs.length<=c∧c<=maxLen∧
    (xs=[]∨∃b o,a=some ⟨b,o,none⟩∧∀i x,xs[i]? =some x->w.cell? ⟨b,o+i,none⟩=some x)
def Ints(w:World)(v:Value)(l:List Int):Prop:=Sl w v (l.map (Value.int .i64))
theorem Sl.keep{w w':World}{v:Value}{xs:List Value}(h:Sl w v xs)(k:Keeps w w'):Sl w' v xs:=by
 obtain⟨a,c,rfl,h1,h2,h3⟩:=h;refine⟨a,c,rfl,h1,h2,?_⟩;rcases h3 with h3|⟨b,o,rfl,h3⟩
 ·exact .inl h3
 ·refine .inr ⟨b,o,rfl,λi x hx=>?_⟩;have hc:=h3 i x hx;rw[Below.cell k (World.block_lt_of_cell? w _ hc)];exact hc
theorem Ints.keep{w w':World}{v:Value}{l:List Int}(h:Ints w v l)(k:Keeps w w'):Ints w' v l:=Sl.keep h k
theorem Sl.form{w:World}{v:Value}{xs:List Value}(h:Sl w v xs):
  ∃a c,v=.slice a xs.length c∧xs.length<=9223372036854775807∧
   ∀i,i<xs.length->∃b o,a=some ⟨b,o,none⟩∧w.cell? ⟨b,o+i,none⟩=some (xs.getD i undef):=by
 obtain⟨a,c,rfl,h1,h2,h3⟩:=h;refine⟨a,c,rfl,by simp only[maxLen] at h2;omega,λi hi=>?_⟩;rcases h3 with h3|⟨b,o,rfl,h3⟩
 ·subst h3;simp at hi
 ·exact⟨b,o,rfl,h3 i _ (by simp[hi])⟩
theorem Ints.form{w:World}{v:Value}{l:List Int}(h:Ints w v l):
  ∃a c,v=.slice a l.length c∧l.length<=9223372036854775807∧
   ∀i,i<l.length->∃b o,a=some ⟨b,o,none⟩∧w.cell? ⟨b,o+i,none⟩=some (.int .i64 (l.getD i 0)):=by
 obtain⟨a,c,rfl,h1,h2,h3⟩:=h;simp only[List.length_map] at h1 ⊢;refine⟨a,c,rfl,by simp only[maxLen] at h2;omega,λi hi=>?_⟩;rcases h3 with h3|⟨b,o,rfl,h3⟩
 ·simp at h3;subst h3;simp at hi
 ·exact⟨b,o,rfl,h3 i _ (by simp[hi])⟩
theorem jS_{w w':World}{B:Nat}{e:TypeId}{size:Nat}{v:Value}{n:Nat}{xs:List Value}(h:w.ownsRow B e size v n xs)(k:Keeps w w'):w'.ownsRow B e size v n xs:=by
 obtain⟨h1,h2⟩:=h;refine⟨h1,?_⟩;rcases h2 with h2|⟨g,cap,cur,hv,hg,hh,r⟩
 ·exact .inl h2
 ·exact .inr ⟨g,cap,cur,hv,hg,by rw[k.block g (Array.getElem?_eq_some_iff.1 hh).1];exact hh,r⟩
theorem qB_{w:World}{B:Nat}{e:TypeId}{v:Value}{xs:List Value}(h:w.ownsRow B e 1 v xs.length xs):Sl w v xs:=by
 rcases h.2 with⟨rfl,h0⟩|⟨g,cap,cur,rfl,_,hg,hn,hc,_,ht⟩
 ·have:xs=[]:=List.eq_nil_of_length_eq_zero h0;subst this;exact⟨none,0,rfl,Nat.le_refl _,by simp[maxLen],.inl rfl⟩
 ·refine⟨_,cap,rfl,hn,hc,.inr ⟨g,0,rfl,λi x hx=>?_⟩⟩;have h5:=h.cells (g:=g) rfl i x hx;have hadd:(⟨g,0,none⟩:Addr).add i=⟨g,0+i,none⟩:=by unfold Addr.add;split<;>simp_all
  rw[hadd] at h5;exact h5
def Apart(u v:Value):Prop:=u.ownBlock=none∨u.ownBlock≠v.ownBlock
theorem Apart.symm{u v:Value}(h:Apart u v):Apart v u:=by
 unfold Apart at*
 rcases h with h|h
 ·by_cases hv:v.ownBlock=none
  ·exact .inl hv
  ·exact .inr λe=>hv (e.trans h)
 ·exact .inr λe=>h e.symm
theorem pt_(w:World)(r:Option Nat):w.grownBy w r:=⟨rfl,rfl,rfl,Nat.le_refl _,λ_ _ _=>rfl⟩
theorem ob_{a b c:World}{r:Option Nat}(h:a.grownBy b r)(k:b.grownBy c r):a.grownBy c r:=
 ⟨k.os.trans h.os,k.tape.trans h.tape,k.output.trans h.output,Nat.le_trans h.size k.size,λi hi hr=>(k.block i (Nat.lt_of_lt_of_le hi h.size) hr).trans (h.block i hi hr)⟩
theorem mx_{w w0:World}{B B0:Nat}{e:TypeId}{size:Nat}{g cap n m:Nat}{xs ys:List Value}(h:w.ownsRow B e size (.slice (some ⟨g,0,none⟩) (n+m) cap) (n+m) (xs++ys))
  (h0:w0.ownsRow B0 e size (.slice (some ⟨g,0,none⟩) n cap) n xs):w.ownsRow B e size (.slice (some ⟨g,0,none⟩) n cap) n xs:=by
 rcases h.2 with⟨h',_⟩|⟨g',cap',cur,h',hb,hg,hnc,hcm,hcs,htake⟩
 ·simp at h'
 ·simp only[Value.slice.injEq,Option.some.injEq,Addr.mk.injEq,and_true,true_and] at h';obtain⟨rfl,rfl⟩:=h';refine⟨h0.1,.inr ⟨g,cap,cur,rfl,hb,hg,by omega,hcm,hcs,?_⟩⟩;have h5:(cur.toList.take ((n+m)*size)).take (n*size)=(xs++ys).take (n*size):=by rw[htake]
  rw[List.take_take,Nat.min_eq_left (Nat.mul_le_mul_right _ (by omega)),<-h0.1,List.take_left] at h5;rw[<-h0.1];exact h5
section
variable {P:Program} (w:World)
theorem lV_(B:Nat)(t ty e:TypeId)(i:TypeInfo)(z:Value)(size bytes:Nat)(ht:P.underlying t=some (.slice e))(hi:P.info? e=some i)(hz:i.zero=some z)
  (hsize:i.size=size) (hby:i.bytes=bytes) (hzs:z.cells.size=size) (hsz:0<size)
  (v:Value) (n:Nat) (xs:List Value) (hown:w.ownsRow B e size v n xs)
  (ao:Option Addr) (m c:Nat) (news:List Value) (hl:news.length=m*size) (hao:ao=none->m=0∧c=0) (hnews:∀a,ao=some a->∀j u,news[j]? =some u->w.cell? (a.add j)=some u)
  (h1:∀u∈news,u.oneCell'=true)
  (hbytes:(n+m)*bytes<=140737488355328) (hm:n+m<=maxLen) (hB:B<=w.heap.size):
  ∃v' w',(Builtin.append_ #[t,t] ty #[v,.slice ao m c]).run P w=.ok v' w'∧w'.ownsRow B e size v' (n+m) (xs++news)∧w.grownBy w' v.ownBlock∧
   (v'.ownBlock=v.ownBlock∨w'.ownsRow w.heap.size e size v' (n+m) (xs++news))∧w'.ownsRow B e size v n xs:=by
 cases ao with
 |none=>
  obtain⟨rfl,rfl⟩:=hao rfl;have hn:news=[]:=List.eq_nil_of_length_eq_zero (by simpa using hl);subst hn;refine⟨v,w,run_append_owned_none w B t ty e i size ht hi v n xs hown,by simpa using hown,⟨rfl,rfl,rfl,Nat.le_refl _,λ_ _ _=>rfl⟩,.inl rfl,hown⟩
 | some a=>
  have hnews':=hnews a rfl;by_cases hroom:∃g cap,v=.slice (some ⟨g,0,none⟩) n cap∧n+m<=cap
  ·obtain⟨g,cap,rfl,hr⟩:=hroom;obtain⟨w',h2,h3,h4⟩:=run_append_fits (P:=P) w B t ty e i size ht hi hsize g n cap xs hown a m c news hl hnews' h1 hr;exact⟨_,w',h2,h3,h4,.inl rfl,mx_ h3 hown⟩
  ·rcases hown.2 with⟨rfl,rfl⟩|⟨g,cap,cur,rfl,hbg,hg,hnc,hcm,hcs,htake⟩
   ·by_cases hm0:m=0
    ·subst hm0;obtain⟨v',w',h2,h3,h4,h5⟩:=run_append_own (P:=P) w B t ty e i z size bytes ht hi hz hsize hby hzs hsz _ _ xs hown a 0 c news hl hnews' h1 hm hbytes hB;have:v'=.slice none 0 0:=h5.2 ⟨rfl,rfl⟩;subst this;exact⟨_,w',h2,h3,h4,.inl rfl,hown.kept h4 (.inl rfl)⟩
    ·have hx:xs=[]:=List.eq_nil_of_length_eq_zero (by simpa using hown.1);subst hx;obtain⟨v',w',h2,h3,h4,_⟩:=run_append_own (P:=P) w w.heap.size t ty e i z size bytes ht hi hz hsize hby hzs hsz _ _ [] (World.ownsRow_nil w w.heap.size e size) a m c news hl hnews' h1 hm hbytes (Nat.le_refl _);exact⟨v',w',h2,h3.mono hB,h4,.inr h3,hown.kept h4 (.inl rfl)⟩
   ·have hcap:cap<n+m:=by
     apply Nat.lt_of_not_le;intro h;exact hroom ⟨g,cap,rfl,h⟩
    subst hsize;subst hby
    have holds:∀j u,xs[j]? =some u->w.cell? ((⟨g,0,none⟩:Addr).add j)=some u:=hown.cells (g:=g) rfl;have hr:=run_append_grow (P:=P) w t ty e i z ht hi hz ⟨g,0,none⟩ n cap xs hown.1 holds a m c news hl hnews' hcap (by simp only[maxLen] at hm;omega) (growslice_fits hcap hbytes);have hlen:(xs++news).length=(n+m)*i.size:=by rw[List.length_append,hown.1,hl,Nat.add_mul]
    have hge:=grownCap_ge w (n+m) cap e;have hcm:grownCap w (n+m) cap e<=maxLen:=grownCap_le_maxLen w (n+m) cap e hm
    have hnew:(w.drew.alloc (.cells (xs.toArray++news.toArray++Builtin.zeroCells z.cells (grownCap w (n+m) cap e-(n+m))) e)).ownsRow w.heap.size e i.size
      (.slice (some ⟨w.heap.size,0,none⟩) (n+m) (grownCap w (n+m) cap e)) (n+m) (xs++news):=by
     refine⟨hlen,.inr ⟨w.heap.size,_,_,rfl,Nat.le_refl _,heap_alloc_new w.drew _,hge,hcm,?_,?_⟩⟩
     ·simp only[Array.size_append,List.size_toArray,size_zeroCells,hzs,hown.1,hl,<-Nat.add_mul];congr 1;omega
     ·simp only[Array.toList_append,List.append_assoc];rw[<-List.append_assoc,<-hlen];exact List.take_left
    exact⟨_,_,hr,hnew.mono hB,⟨rfl,rfl,rfl,by simp,λk hk _=>heap_alloc_old w.drew _ hk⟩,.inr hnew,jS_ hown ⟨rfl,rfl,rfl,by simp,λk hk=>heap_alloc_old w.drew _ hk⟩⟩
end
end
section
open Go.RowKit
theorem rY_:(Tryz.prog.info? 3).map (λi=>(i.zero,i.size,i.bytes))=some (some (.int .i64 0),1,8):=by kernel_rfl
def Own(B:Nat)(w:World)(v:Value)(l:List Int):Prop:=w.ownsRow B 3 1 v l.length (l.map (Value.int .i64))
section
variable {B:Nat} {w w':World} {v:Value} {l:List Int}
theorem Own.keep(h:Own B w v l)(k:Keeps w w'):Own B w' v l:=jS_ h k
theorem Own.mono{B':Nat}(h:Own B w v l)(hB:B'<=B):Own B' w v l:=World.ownsRow.mono h hB
theorem Own.ints(h:Own B w v l):Ints w v l:=qB_ (e:=3) (B:=B) (by simpa [Own] using h)
theorem Own.lt(h:Own B w v l):∀k,v.ownBlock=some k->B<=k∧k<w.heap.size:=World.ownsRow.lt h
theorem Own.nil(B:Nat)(w:World):Own B w (.slice none 0 0) []:=World.ownsRow_nil w B 3 1
theorem Own.alloc(h:Own B w v l)(o:Obj):Own B (w.alloc o) v l:=World.ownsRow.alloc h o
theorem Own.kept{u:Value}(h:Own B w v l)(hg:w.grownBy w' u.ownBlock)(ha:Apart v u):Own B w' v l:=World.ownsRow.kept h hg ha
theorem Own.apart_old{C:Nat}{u:Value}{m:List Int}{w0:World}(h:Own B w0 v l)(k:Own C w u m)(hC:w0.heap.size<=C):Apart v u:=by
 unfold Apart;by_cases hv:v.ownBlock=none
 ·exact .inl hv
 ·obtain⟨g,hg⟩:=Option.ne_none_iff_exists'.1 hv;refine .inr λe=>?_;have h1:=(h.lt g hg).2;have h2:=(k.lt g (e▸hg)).1;omega
theorem Own.one(B:Nat)(w:World)(x:Int)(hB:B<=w.heap.size):Own B (w.alloc (.cells #[.int .i64 x] 3)) (.slice (some ⟨w.heap.size,0,none⟩) 1 1) [x]:=
 World.ownsRow_lit (e:=3) (size:=1) w #[.int .i64 x] 1 hB (by simp[maxLen]) rfl
theorem Own.len(h:Own B w v l):∃a c,v=.slice a l.length c∧l.length<=9223372036854775807:=by
 obtain⟨a,c,h1,h2,_⟩:=h.ints.form;exact⟨a,c,h1,h2⟩
end
structure App (B:Nat) (W:World) (v:Value) (l ys:List Int) (v':Value) (w':World):Prop where
  own:Own B w' v' (l++ys)
  grown:W.grownBy w' v.ownBlock
  lies:v'.ownBlock=v.ownBlock∨Own W.heap.size w' v' (l++ys)
  old:Own B w' v l
theorem App.below{B C:Nat}{W w0 w':World}{v v':Value}{l ys:List Int}(h:App B W v l ys v' w')(k:Below C w0 W)(hC:C<=W.heap.size)(hB:C<=B):Below C w0 w':=
 k.grown h.grown hC λj hj=>Nat.le_trans hB (h.old.lt j hj).1
theorem App.keeps{B:Nat}{W w0 w':World}{v v':Value}{l ys:List Int}(h:App B W v l ys v' w')(k:Keeps w0 W)(hB:w0.heap.size<=B):Keeps w0 w':=h.below k k.size hB
theorem App.keep{B C:Nat}{W w':World}{v v' u:Value}{l ys m:List Int}(h:App B W v l ys v' w')(o:Own C W u m)(ha:Apart u v):Own C w' u m:=o.kept h.grown ha
section
variable {ops:Array Oper} {rest:List Oper} {o:Oper} {a:Act} {Q:Exit->Act->World->Prop}
end
end
section
open Go.RowKit
def Kn:List (Nat×Value)->Nat->Option Value
  |[],_=>none
  |(s,v)::r,t=>if s=t then some v else Kn r t
structure Fr (a:Act) (n:Nat) (l:List (Nat×Value)):Prop where
  size:a.tmps.size=n
  defers:a.defers=[]
  get:∀t v,Kn l t=some v->a.tmps.getD t undef=v
theorem Fr.put{a:Act}{n:Nat}{l:List (Nat×Value)}(h:Fr a n l){d:Nat}(hd:d<n)(v:Value):Fr (a.put (some d) v) n ((d,v)::l):=by
 refine⟨by simp[Act.put,h.size],by simp[Act.put,h.defers],λt u ht=>?_⟩;simp only[Kn] at ht;simp only[Act.put];by_cases e:d=t
 ·subst e;rw[if_pos rfl] at ht;cases ht
  have:d<a.tmps.size:=by rw[h.size];exact hd
  simp[Array.getD_eq_getD_getElem?,this]
 ·rw[if_neg e] at ht;have:=h.get t u ht;simp only[Array.getD_eq_getD_getElem?] at this ⊢;rw[Array.getElem?_setIfInBounds_ne e];exact this
def Sub:List (Nat×Value)->List (Nat×Value)->Prop
  |[],_=>True
  |(t,v)::r,l=>Kn l t=some v∧Sub r l
theorem Sub.kn:∀{r l:List (Nat×Value)},Sub r l->∀t v,Kn r t=some v->Kn l t=some v
 |[],_,_,t,v,h=>by simp[Kn] at h
 |(s,u)::r,l,hs,t,v,h=>by
  simp only[Kn] at h;split at h
  ·rename_i e;subst e;cases h;exact hs.1
  ·exact Sub.kn hs.2 t v h
theorem Fr.sub{a:Act}{n:Nat}{l r:List (Nat×Value)}(h:Fr a n l)(hs:Sub r l):Fr a n r:=
 ⟨h.size,h.defers,λt v ht=>h.get t v (hs.kn t v ht)⟩
def ev(l:List (Nat×Value)):Operand->Option Value
  | .tmp t=>Kn l t
  | .const v=>some v
  | .global g=>some (.pointer (some ⟨g,0,none⟩))
  | .func f=>some (.func (.func f) #[] #[])
def Agr(ρ:Operand->Value)(l:List (Nat×Value)):Prop:=∀x v,ev l x=some v->ρ x=v
theorem Fr.agr{a:Act}{n:Nat}{l:List (Nat×Value)}(h:Fr a n l):Agr a.eval l:=by
 intro x v hx;cases x with
 |tmp t=>exact h.get t v hx
 |const u=>simp only[ev] at hx;cases hx;rfl
 |global g=>simp only[ev] at hx;cases hx;rfl
 |func f=>simp only[ev] at hx;cases hx;rfl
def Gd(ops:Array Oper)(l:List (Nat×Value)):Option (Nat×Bool)->Prop
  |none=>True
  |some (j,want)=>∃d,((ops[j]?).bind (·.dst))=some d∧Kn l d=some (.bool want)
theorem mX_{a:Act}{n:Nat}{l:List (Nat×Value)}(h:Fr a n l){ops:Array Oper}{o:Oper}(hg:Gd ops l o.guard):Region.wanted o (yielded ops a.tmps)=true:=by
 unfold Region.wanted;cases hh:o.guard with
 |none=>rfl
 | some p=>
  obtain⟨j,want⟩:=p;rw[hh] at hg;obtain⟨d,h1,h2⟩:=hg;have h3:=h.get d _ h2;simp only[yielded,h1,Option.bind_some];have:a.tmps[d]? =some (.bool want):=by
   simp only[Array.getD_eq_getD_getElem?] at h3;cases hq:a.tmps[d]? with
   |none=>rw[hq] at h3;simp[undef] at h3
   |some u=>rw[hq] at h3;simp at h3;rw[h3]
  rw[this];simp
theorem sR_{a:Act}{n:Nat}{l:List (Nat×Value)}(h:Fr a n l){ops:Array Oper}{o:Oper}{j:Nat}{want:Bool}(hg:o.guard=some (j,want))
  {d:Nat} {b:Bool} (h1:((ops[j]?).bind (·.dst))=some d) (h2:Kn l d=some (.bool b)) (hb:(b==want)=false):Region.wanted o (yielded ops a.tmps)=false:=by
 unfold Region.wanted;rw[hg];have h3:=h.get d _ h2;simp only[yielded,h1,Option.bind_some];have:a.tmps[d]? =some (.bool b):=by
  simp only[Array.getD_eq_getD_getElem?] at h3;cases hq:a.tmps[d]? with
  |none=>rw[hq] at h3;simp[undef] at h3
  |some u=>rw[hq] at h3;simp at h3;rw[h3]
 rw[this];simpa using hb
def wpF(P:Program)(ops:Array Oper)(Q:Exit->Act->World->Prop)(rest:List Oper)(n:Nat)(l:List (Nat×Value))(w:World):Prop:=∀a,Fr a n l->wpList P ops Q rest a w
def wpC(P:Program)(c:Code)(Q:Exit->Act->World->Prop)(n:Nat)(l:List (Nat×Value))(w:World):Prop:=∀a,Fr a n l->Code.wp P c Q a w
section
variable {P:Program} {Q:Exit->Act->World->Prop} {n:Nat} {l:List (Nat×Value)} {w:World}
theorem h_(h:∀a,Fr a n l->Q .normal a w):wpC P .skip Q n l w:=λa ha=>wp_skip (h a ha)
theorem b_{x y:Code}(h:wpC P x (Exit.then (y.wp P Q) Q) n l w):wpC P (.seq x y) Q n l w:=λa ha=>wp_seq (h a ha)
theorem d_{id:Nat}{ops:List Oper}(h:wpF P ops.toArray Q ops n l w):wpC P (.region id ops.toArray false) Q n l w:=λa ha=>wp_region_lit (h a ha)
theorem p_{c:Operand}{x y:Code}{t:Bool}(hc:ev l c=some (.bool t))(ht:t=true->wpC P x Q n l w)(hf:t=false->wpC P y Q n l w):wpC P (.cond c x y) Q n l w:=
 λa ha=>wp_cond_split (ha.agr c _ hc) (λh=>ht h a ha) (λh=>hf h a ha)
theorem M_{c:Operand}{x y:Code}(hc:ev l c=some (.bool true))(ht:wpC P x Q n l w):wpC P (.cond c x y) Q n l w:=λa ha=>wp_cond_true (ha.agr c _ hc) (ht a ha)
theorem D_{c:Operand}{x y:Code}(hc:ev l c=some (.bool false))(ht:wpC P y Q n l w):wpC P (.cond c x y) Q n l w:=λa ha=>wp_cond_false (ha.agr c _ hc) (ht a ha)
theorem f_{id:Nat}{c:Code}(h:wpC P c (Exit.inBlock id Q) n l w):wpC P (.block id c) Q n l w:=λa ha=>wp_block (h a ha)
theorem w_{id:Nat}(h:∀a,Fr a n l->Q (.exit id) a w):wpC P (.exit id) Q n l w:=λa ha=>wp_exit (h a ha)
theorem n_(h:∀a,Fr a n l->Q .ret a w):wpC P .ret Q n l w:=λa ha=>wp_ret (h a ha)
theorem ol_{c:Code}{Q':Exit->Act->World->Prop}(h:wpC P c Q n l w)(hq:∀e a w,Q e a w->Q' e a w):wpC P c Q' n l w:=λa ha=>wp_mono (h a ha) hq
theorem to_k{K:Act->Prop}{r:List (Nat×Value)}(hs:Sub r l)(h:∀a,Fr a n r->K a):∀a,Fr a n l->K a:=λa ha=>h a (ha.sub hs)
theorem z_{c:Code}(I:Nat->Act->World->Prop)(n₀:Nat)(h₀:∀a,Fr a n l->I n₀ a w)
  (round:∀k a w,I k a w->Code.wp P c (Exit.then (λa' w'=>∃k',k'<k∧I k' a' w') Q) a w):wpC P (.loop c) Q n l w:=
 λa ha=>wp_loop_ghost I n₀ (h₀ a ha) round
theorem qj_{f:FuncId}{fn:Func}{c:Code}{args:Array Value}{R:Ending->World->Prop}(hf:P.funcs[f]? =some fn)(hb:fn.body=some c)(hs:args.size+(fn.ntmps-args.size)=n)
  (hl:∀t v,Kn l t=some v->(args++Array.replicate (fn.ntmps-args.size) undef).getD t undef=v) (h:wpC P c (bodyPost P fn R) n l w):Calls P f args w R:=
 calls_of_wp hf hb (h _ ⟨by simpa using hs,rfl,hl⟩)
variable {ops:Array Oper} {rest:List Oper} {o:Oper}
theorem aI_{r:List (Nat×Value)}(hs:Sub r l)(h:∀a,Fr a n r->Q .normal a w):wpF P ops Q [] n l w:=λa ha=>wpList_nil (h a (ha.sub hs))
theorem qs_(hg:Gd ops l o.guard)(h:∀a,Fr a n l->o.wp P a w (wpList P ops Q rest) Q):wpF P ops Q (o::rest) n l w:=by
 intro a ha;refine wpList_step λK hK=>?_;rw[if_pos (mX_ ha hg)];exact Oper.wp_mono hK (h a ha)
theorem q_{d:Nat}{v:Value}{w':World}{op:Op}{ty:TypeId}{ps:String}{af:Array Edge}{g:Option (Nat×Bool)}
  (hr:∀ρ,Agr ρ l->(execOp ρ ⟨some d,op,ty,ps,af,g⟩).run P w=.ok (.value v) w')
  (hd:d<n) (hg:Gd ops l g) (h:wpF P ops Q rest n ((d,v)::l) w'):wpF P ops Q (⟨some d,op,ty,ps,af,g⟩::rest) n l w:=by
 refine qs_ hg λa ha=>?_;unfold Oper.wp;rw[hr _ ha.agr];exact h _ (ha.put hd v)
theorem v_{d:Nat}{op:Op}{ty:TypeId}{ps:String}{af:Array Edge}{j:Nat}{want:Bool}{s:Nat}{b:Bool}
  (h1:((ops[j]?).bind (·.dst))=some s) (h2:Kn l s=some (.bool b)) (hb:(b==want)=false)
  (hd:d<n) (h:wpF P ops Q rest n ((d,undef)::l) w):wpF P ops Q (⟨some d,op,ty,ps,af,some (j,want)⟩::rest) n l w:=by
 intro a ha;refine wpList_step λK hK=>?_;rw[if_neg (by rw[sR_ ha rfl h1 h2 hb];decide)];exact hK _ _ (h _ (ha.put hd undef))
theorem ak_{d:Nat}{op:Op}{ty:TypeId}{ps:String}{af:Array Edge}{j:Nat}{want:Bool}{s:Nat}
  (h1:((ops[j]?).bind (·.dst))=some s) (h2:Kn l s=some undef)
  (hd:d<n) (h:wpF P ops Q rest n ((d,undef)::l) w):wpF P ops Q (⟨some d,op,ty,ps,af,some (j,want)⟩::rest) n l w:=by
 intro a ha;refine wpList_step λK hK=>?_;have hw:Region.wanted (⟨some d,op,ty,ps,af,some (j,want)⟩:Oper) (yielded ops a.tmps)=false:=by
  have h3:=ha.get s _ h2;simp only[Region.wanted,yielded,h1,Option.bind_some];cases hq:a.tmps[s]? with
  |none=>rfl
  |some u=>
   simp only[Array.getD_eq_getD_getElem?,hq,Option.getD_some] at h3;subst h3;rfl
 rw[if_neg (by rw[hw];decide)];exact hK _ _ (h _ (ha.put hd undef))
theorem eH_{a:Act}{next next':Act->World->Prop}{Q':Exit->Act->World->Prop}(hn:∀a w,next a w->next' a w)(hq:∀e a w,Q e a w->Q' e a w)(h:o.wp P a w next Q):o.wp P a w next' Q':=by
 unfold Oper.wp at*
 generalize (execOp a.eval o).run P w=r at*
 cases r with
 | ok x w'=>
  cases x<;>simp only[Oper.upon] at h ⊢<;>
   first
    |exact hn _ _ h
    | exact Calls.mono h (λe w'' he=>by
      cases e with
      |returned v=>exact hn _ _ he
      |panicked c=>exact hq _ _ _ he
      |outgrown=>obtain⟨a,w,hh⟩:=he;exact⟨a,w,hq _ _ _ hh⟩)
    |exact Rows.mono h (λ_ _ he=>hn _ _ he)
    |exact h
 |halt x w'=>cases x<;>simp only[Oper.upon] at h ⊢<;>first|exact hq _ _ _ h|exact h
def op1(P:Program)(o:Oper)(n:Nat)(l:List (Nat×Value))(w:World)(R:Value->World->Prop):Prop:=
  ∀a,Fr a n l->o.wp P a w (λa' w'=>∃v,a'=a.put o.dst v∧R v w') (λ_ _ _=>False)
theorem l_{R:Value->World->Prop}{v:Value}{w':World}(hr:∀ρ,Agr ρ l->(execOp ρ o).run P w=.ok (.value v) w')(h:R v w'):op1 P o n l w R:=by
 intro a ha;unfold Oper.wp;rw[hr _ ha.agr];exact⟨v,rfl,h⟩
theorem nA_{R:Value->World->Prop}{w':World}(hr:∀ρ,Agr ρ l->(execOp ρ o).run P w=.ok .skip w')(h:R undef w'):op1 P o n l w R:=by
 intro a ha;unfold Oper.wp;rw[hr _ ha.agr];exact⟨undef,rfl,h⟩
theorem is_{R:Value->World->Prop}{f:FuncId}{args:Array Value}{C:Ending->World->Prop}(hr:∀ρ,Agr ρ l->(execOp ρ o).run P w=.ok (.enter f args) w)
  (hc:Calls P f args w C) (h:∀e w',C e w'->∃v,e=.returned v∧R v w'):op1 P o n l w R:=by
 intro a ha;unfold Oper.wp;rw[hr _ ha.agr];refine hc.mono λe w' hR=>?_;obtain⟨v,rfl,hv⟩:=h e w' hR;exact⟨v,rfl,hv⟩
theorem ct_{d:Nat}{op:Op}{ty:TypeId}{ps:String}{af:Array Edge}{g:Option (Nat×Bool)}(hd:d<n)(hg:Gd ops l g)
  (h:op1 P ⟨some d,op,ty,ps,af,g⟩ n l w (λv w'=>wpF P ops Q rest n ((d,v)::l) w')):wpF P ops Q (⟨some d,op,ty,ps,af,g⟩::rest) n l w:=
 qs_ hg λa ha=>eH_ (λa' w' hh=>by obtain⟨v,rfl,hv⟩:=hh;exact hv _ (ha.put hd v)) (λ_ _ _ hh=>hh.elim) (h a ha)
theorem am_{op:Op}{ty:TypeId}{ps:String}{af:Array Edge}{g:Option (Nat×Bool)}(hg:Gd ops l g)
  (h:op1 P ⟨none,op,ty,ps,af,g⟩ n l w (λ_ w'=>wpF P ops Q rest n l w')):wpF P ops Q (⟨none,op,ty,ps,af,g⟩::rest) n l w:=
 qs_ hg λa ha=>eH_ (λa' w' hh=>by obtain⟨v,rfl,hv⟩:=hh;exact hv _ ha) (λ_ _ _ hh=>hh.elim) (h a ha)
section
variable {d:Option Nat} {ty:TypeId} {ps:String} {af:Array Edge} {g:Option (Nat×Bool)}
theorem g_{x:Operand}{v:Value}(hx:ev l x=some v):∀ρ,Agr ρ l->(execOp ρ ⟨d,.move x,ty,ps,af,g⟩).run P w=.ok (.value v) w:=by
 intro ρ hρ;rw[<-hρ x v hx];rfl
theorem ah_{x:Operand}{v:Value}(hx:ev l x=some v):∀ρ,Agr ρ l->(execOp ρ ⟨d,.assign x,ty,ps,af,g⟩).run P w=.ok (.value v) w:=by
 intro ρ hρ;rw[<-hρ x v hx];rfl
theorem L_{c x y:Operand}{v:Value}(hc:ev l c=some (.bool true))(hx:ev l x=some v):∀ρ,Agr ρ l->(execOp ρ ⟨d,.pick c x y,ty,ps,af,g⟩).run P w=.ok (.value v) w:=by
 intro ρ hρ;simp only[execOp,hρ c _ hc,hρ x _ hx];rfl
theorem G_{c x y:Operand}{v:Value}(hc:ev l c=some (.bool false))(hy:ev l y=some v):∀ρ,Agr ρ l->(execOp ρ ⟨d,.pick c x y,ty,ps,af,g⟩).run P w=.ok (.value v) w:=by
 intro ρ hρ;simp only[execOp,hρ c _ hc,hρ y _ hy];rfl
theorem bo_{t:TypeId}{x:Operand}{b:Bool}(hx:ev l x=some (.bool b)):∀ρ,Agr ρ l->(execOp ρ ⟨d,.unOp .not t x,ty,ps,af,g⟩).run P w=.ok (.value (.bool (!b))) w:=by
 intro ρ hρ;simp only[execOp,hρ x _ hx];rfl
theorem t_{x:Operand}{vs:Array Value}{i:Nat}{v:Value}(hx:ev l x=some (.tuple vs))(hv:vs[i]? =some v):∀ρ,Agr ρ l->(execOp ρ ⟨d,.extract x i,ty,ps,af,g⟩).run P w=.ok (.value v) w:=by
 intro ρ hρ;simp only[execOp,hρ x _ hx,Instr.extract,hv];rfl
end
end
end
section
open Go.RowKit
abbrev Tg:=Nat->Nat
structure Stp (t:Nat) (o:Tg) (w:World) (o':Tg) (w':World):Prop where
  os:w'.os=w.os
  tape:w'.tape=w.tape
  output:w'.output=w.output
  size:w.heap.size<=w'.heap.size
  block:∀b,b<w.heap.size->o b≠t->w'.heap[b]? =w.heap[b]?
  own:∀b,b<w.heap.size->o' b=o b
theorem Stp.refl(t:Nat)(o:Tg)(w:World):Stp t o w o w:=⟨rfl,rfl,rfl,Nat.le_refl _,λ_ _ _=>rfl,λ_ _=>rfl⟩
theorem Stp.trans{t:Nat}{o o' o'':Tg}{w w' w'':World}(h:Stp t o w o' w')(k:Stp t o' w' o'' w''):Stp t o w o'' w'':=
 ⟨k.os.trans h.os,k.tape.trans h.tape,k.output.trans h.output,Nat.le_trans h.size k.size,
  λb hb hn=>(k.block b (Nat.lt_of_lt_of_le hb h.size) (by rw[h.own b hb];exact hn)).trans (h.block b hb hn),
  λb hb=>(k.own b (Nat.lt_of_lt_of_le hb h.size)).trans (h.own b hb)⟩
theorem Keeps.stp{w w':World}(k:Keeps w w')(t:Nat)(o:Tg):Stp t o w o w':=⟨k.os,k.tape,k.output,k.size,λb hb _=>k.block b hb,λ_ _=>rfl⟩
theorem Keeps.stp'{w w':World}(k:Keeps w w')(t:Nat){o o':Tg}(h:∀b,b<w.heap.size->o' b=o b):Stp t o w o' w':=⟨k.os,k.tape,k.output,k.size,λb hb _=>k.block b hb,h⟩
structure Bs (oo o:Tg) (w0 w:World):Prop where
  keeps:Keeps w0 w
  old:∀b,b<w0.heap.size->o b=if oo b=0 then 0 else 1
theorem Bs.stp{oo o o':Tg}{w0 w w':World}{t:Nat}(h:Bs oo o w0 w)(s:Stp t o w o' w')(ht:2<=t:=by decide):Bs oo o' w0 w':=
  ⟨⟨s.os.trans h.keeps.os,s.tape.trans h.keeps.tape,s.output.trans h.keeps.output,Nat.le_trans h.keeps.size s.size,
    λb hb=>(s.block b (Nat.lt_of_lt_of_le hb h.keeps.size) (by have:=h.old b hb;split at this<;>omega)).trans (h.keeps.block b hb)⟩,
   λb hb=>by rw[s.own b (Nat.lt_of_lt_of_le hb h.keeps.size)];exact h.old b hb⟩
def col(oo:Tg):Tg:=λb=>if oo b=0 then 0 else 1
theorem Bs.start(oo:Tg)(w:World):Bs oo (col oo) w w:=⟨Keeps.refl w,λ_ _=>rfl⟩
def Cells(w:World)(b off:Nat)(cs:List Value):Prop:=∀j v,cs[j]? =some v->w.cell? ⟨b,off+j,none⟩=some v
theorem Cells.of_block{w w':World}{b off:Nat}{cs:List Value}(h:Cells w b off cs)(hb:w'.heap[b]? =w.heap[b]?):Cells w' b off cs:=by
 intro j v hj;rw[<-h j v hj];simp only[World.cell?,hb]
class Rp (α:Type) where
  sz:Nat
  pos:0<sz
  rd:Tg->World->List Value->α->Prop
  len:∀{o w cs x},rd o w cs x->cs.length=sz
  one:∀{o w cs x},rd o w cs x->∀c∈cs,c.oneCell'=true
  mv:∀{o o':Tg}{w w':World}{cs:List Value}{x:α},rd o w cs x->w.heap.size<=w'.heap.size->(∀b,b<w.heap.size->o b=0->w'.heap[b]? =w.heap[b]? ∧o' b=0)->rd o' w' cs x
instance:Rp Int where
  sz:=1
  pos:=by decide
  rd _ _ cs x:=cs=[.int .i64 x]
  len h:=by subst h;rfl
  one h:=by subst h;simp[Value.oneCell']
  mv h _ _:=h
instance:Rp Bool where
  sz:=1
  pos:=by decide
  rd _ _ cs x:=cs=[.bool x]
  len h:=by subst h;rfl
  one h:=by subst h;simp[Value.oneCell']
  mv h _ _:=h
def RdL{α:Type}[Rp α](o:Tg)(w:World)(v:Value)(xs:List α):Prop:=
  ∃a c,v=.slice a xs.length c∧xs.length<=c∧c<=maxLen∧
    ∀(i:Nat) x,xs[i]? =some x->∃b off cs,a=some ⟨b,off,none⟩∧o b=0∧b<w.heap.size∧Cells w b (off+i*Rp.sz α) cs∧Rp.rd o w cs x
theorem RdL.mv{α:Type}[Rp α]{o o':Tg}{w w':World}{v:Value}{xs:List α}(h:RdL o w v xs)(hs:w.heap.size<=w'.heap.size)
  (hb:∀b,b<w.heap.size->o b=0->w'.heap[b]? =w.heap[b]? ∧o' b=0):RdL o' w' v xs:=by
 obtain⟨a,c,e,h1,h2,h4⟩:=h;refine⟨a,c,e,h1,h2,λi x hx=>?_⟩;obtain⟨b,off,cs,ha,ho,hl,hc,hr⟩:=h4 i x hx;exact⟨b,off,cs,ha,(hb b hl ho).2,Nat.lt_of_lt_of_le hl hs,hc.of_block (hb b hl ho).1,Rp.mv hr hs hb⟩
instance {α:Type} [Rp α]:Rp (List α) where
  sz:=1
  pos:=by decide
  rd o w cs xs:=∃v,cs=[v]∧RdL o w v xs
  len h:=by obtain⟨v,rfl,_⟩:=h;rfl
  one h:=by obtain⟨v,rfl,a,c,rfl,_⟩:=h;simp[Value.oneCell']
  mv h hs hb:=by obtain⟨v,e,h⟩:=h;exact⟨v,e,h.mv hs hb⟩
def zt:Tg:=λ_=>0
section
variable {α:Type} [Rp α] {o o' o'':Tg} {w w' w0:World} {v:Value} {xs:List α} {x:α} {cs:List Value} {t k:Nat}
theorem RdL.stp(h:RdL o w v xs)(s:Stp t o w o' w')(ht:t≠0:=by decide):RdL o' w' v xs:=
 h.mv s.size λb hb h0=>⟨s.block b hb (by rw[h0];exact λe=>ht e.symm),by rw[s.own b hb];exact h0⟩
theorem RdL.keep(h:RdL zt w v xs)(k:Keeps w w'):RdL zt w' v xs:=h.mv k.size λb hb _=>⟨k.block b hb,rfl⟩
theorem RdL.z(h:RdL o w v xs):RdL zt w v xs:=h.mv (Nat.le_refl _) λb hb _=>⟨rfl,rfl⟩
theorem Rp.stp(h:Rp.rd o w cs x)(s:Stp t o w o' w')(ht:t≠0:=by decide):Rp.rd o' w' cs x:=
 Rp.mv h s.size λb hb h0=>⟨s.block b hb (by rw[h0];exact λe=>ht e.symm),by rw[s.own b hb];exact h0⟩
theorem Rp.keep(h:Rp.rd zt w cs x)(k:Keeps w w'):Rp.rd zt w' cs x:=Rp.mv h k.size λb hb _=>⟨k.block b hb,rfl⟩
theorem Rp.z(h:Rp.rd o w cs x):Rp.rd zt w cs x:=Rp.mv h (Nat.le_refl _) λb hb _=>⟨rfl,rfl⟩
theorem RdL.form(h:RdL o w v xs):∃a c,v=.slice a xs.length c:=by obtain⟨a,c,e,_⟩:=h;exact⟨a,c,e⟩
theorem RdL.len_le(h:RdL o w v xs):xs.length<=9223372036854775807:=by
 obtain⟨a,c,_,h1,h2,_⟩:=h;simp only[maxLen] at h2;omega
theorem RdL.nil(o:Tg)(w:World):RdL o w (.slice none 0 0) ([]:List α):=⟨none,0,rfl,Nat.le_refl _,by simp[maxLen],λi x hx=>by simp at hx⟩
theorem RdL.at{a:Option Addr}{n c:Nat}(h:RdL o w (.slice a n c) xs){i:Nat}(hi:xs[i]? =some x):∃b off cs,a=some ⟨b,off,none⟩∧Cells w b (off+i*Rp.sz α) cs∧Rp.rd o w cs x∧n=xs.length:=by
 obtain⟨a',c',e,h1,h2,h4⟩:=h;cases e
 obtain⟨b,off,cs,ha,ho,hl,hc,hr⟩:=h4 i x hi;exact⟨b,off,cs,ha,hc,hr,rfl⟩
theorem i_{b off:Nat}{u:Value}(h:Cells w b off [u]):w.cell? ⟨b,off,none⟩=some u:=by simpa using h 0 u rfl
def Ow(B:Nat)(e:TypeId)(k:Nat)(o:Tg)(w:World)(v:Value)(xs:List α):Prop:=
  ∃css:List (List Value),css.length=xs.length∧w.ownsRow B e (Rp.sz α) v xs.length css.flatten∧(∀g,v.ownBlock=some g->o g=k)∧
    ∀(i:Nat) cs x,css[i]? =some cs->xs[i]? =some x->Rp.rd o w cs x
theorem Ow.nil(B:Nat)(e:TypeId)(k:Nat)(o:Tg)(w:World):Ow B e k o w (.slice none 0 0) ([]:List α):=
 ⟨[],rfl,World.ownsRow_nil w B e _,λg hg=>by simp[Value.ownBlock] at hg,λi cs x h=>by simp at h⟩
theorem Ow.form{B:Nat}{e:TypeId}(h:Ow B e k o w v xs):∃a c,v=.slice a xs.length c:=by
 obtain⟨css,h1,h2,_⟩:=h;rcases h2.2 with⟨rfl,h0⟩|⟨g,cap,cur,rfl,_⟩
 ·exact⟨none,0,by rw[h0]⟩
 ·exact⟨_,cap,rfl⟩
theorem Ow.len_le{B:Nat}{e:TypeId}(h:Ow B e k o w v xs):xs.length<=9223372036854775807:=by
 obtain⟨css,h1,h2,_⟩:=h;rcases h2.2 with⟨_,h0⟩|⟨g,cap,cur,_,_,_,h3,h4,_⟩
 ·omega
 ·simp only[maxLen] at h4;omega
theorem Ow.stp{B:Nat}{e:TypeId}(h:Ow B e k o w v xs)(s:Stp t o w o' w')(ht:t≠0:=by decide)(hk:k≠t:=by decide):Ow B e k o' w' v xs:=by
 obtain⟨css,h1,h2,h3,h4⟩:=h;refine⟨css,h1,⟨h2.1,?_⟩,λg hg=>?_,λi cs x a b=>Rp.stp (h4 i cs x a b) s ht⟩
 ·rcases h2.2 with h0|⟨g,cap,cur,hv,hb,hg,r⟩
  ·exact .inl h0
  ·refine .inr ⟨g,cap,cur,hv,hb,?_,r⟩;have hlt:=(Array.getElem?_eq_some_iff.1 hg).1;rw[s.block g hlt (by rw[h3 g (by rw[hv];rfl)];exact hk)];exact hg
 ·rw[s.own g (h2.lt g hg).2];exact h3 g hg
theorem Ow.mono{B B':Nat}{e:TypeId}(h:Ow B e k o w v xs)(hB:B'<=B):Ow B' e k o w v xs:=by
 obtain⟨css,h1,h2,h3,h4⟩:=h;exact⟨css,h1,h2.mono hB,h3,h4⟩
theorem nh_(css:List (List Value))(sz:Nat)(hl:∀cs∈css,cs.length=sz){i:Nat}{cs:List Value}(hi:css[i]? =some cs)(j:Nat)(hj:j<sz):css.flatten[i*sz+j]? =cs[j]? :=by
 induction css generalizing i with
 |nil=>simp at hi
 | cons c css ih=>
  have hc:=hl c (by simp);cases i with
  |zero=>
   simp at hi;subst hi;simp only[List.flatten_cons,Nat.zero_mul,Nat.zero_add];rw[List.getElem?_append_left (by omega)]
  |succ i=>
   simp at hi;simp only[List.flatten_cons];rw[List.getElem?_append_right (by rw[Nat.succ_mul];omega),show(i+1)*sz+j-c.length=i*sz+j by rw[Nat.succ_mul];omega];exact ih (λx hx=>hl x (by simp[hx])) hi
theorem Ow.lens{B:Nat}{e:TypeId}{css:List (List Value)}(h1:css.length=xs.length)(h4:∀(i:Nat) cs x,css[i]? =some cs->xs[i]? =some x->Rp.rd o w cs x):∀cs∈css,cs.length=Rp.sz α:=by
 intro cs hcs;obtain⟨i,hi⟩:=List.mem_iff_getElem?.1 hcs;have hlt:=(List.getElem?_eq_some_iff.1 hi).1;exact Rp.len (h4 i cs _ hi (List.getElem?_eq_getElem (by omega)))
theorem Ow.at{a:Option Addr}{n c:Nat}{B:Nat}{e:TypeId}(h:Ow B e k o w (.slice a n c) xs){i:Nat}(hi:xs[i]? =some x):
  ∃g cs,a=some ⟨g,0,none⟩∧n=xs.length∧Cells w g (0+i*Rp.sz α) cs∧Rp.rd o w cs x∧w.frozen? ⟨g,0+i*Rp.sz α,none⟩=false:=by
 obtain⟨css,h1,h2,h3,h4⟩:=h;have hlt:=(List.getElem?_eq_some_iff.1 hi).1;have hcs:css[i]? =some (css[i]'(by omega)):=List.getElem?_eq_getElem (by omega);rcases h2.2 with⟨_,h0⟩|⟨g,cap,cur,e1,hb,hg,hn,hm,hsz,ht⟩
 ·omega
 ·cases e1
  refine⟨g,_,rfl,rfl,λj u hj=>?_,h4 i _ x hcs hi,?_⟩
  ·have hl:=Ow.lens (e:=e) (B:=B) h1 h4;have hjl:j<Rp.sz α:=by
    have:=(List.getElem?_eq_some_iff.1 hj).1;rw[hl _ (List.getElem_mem _)] at this;exact this
   have e2:=nh_ css (Rp.sz α) hl hcs j hjl;rw[hj,<-ht] at e2;rw[List.getElem?_take] at e2;split at e2
   ·simp only[World.cell?,hg,Option.isSome_none,Bool.false_eq_true,if_false];rw[Nat.zero_add];rw[<-e2];simp
   ·cases e2
  ·simp[World.frozen?,hg]
theorem Ow.freeze{B:Nat}{e:TypeId}(h:Ow B e k o w v xs)(ho:∀b,b<w.heap.size->(o b=0∨o b=k)->o' b=0):RdL o' w v xs:=by
 obtain⟨css,h1,h2,h3,h4⟩:=h;have hl:=Ow.lens (e:=e) (B:=B) h1 h4;rcases h2.2 with⟨rfl,h0⟩|⟨g,cap,cur,rfl,hb,hg,hn,hm,hsz,ht⟩
 ·have:xs=[]:=List.eq_nil_of_length_eq_zero h0;subst this;exact RdL.nil _ _
 ·refine⟨_,cap,rfl,hn,hm,λi x hx=>?_⟩;have hlt:=(List.getElem?_eq_some_iff.1 hx).1;have hcs:css[i]? =some (css[i]'(by omega)):=List.getElem?_eq_getElem (by omega);have hgl:=(Array.getElem?_eq_some_iff.1 hg).1;refine⟨g,0,_,rfl,ho g hgl (.inr (h3 g rfl)),hgl,λj u hj=>?_,Rp.mv (h4 i _ x hcs hx) (Nat.le_refl _) λb hb h0=>⟨rfl,ho b hb (.inl h0)⟩⟩;have hjl:j<Rp.sz α:=by
   have:=(List.getElem?_eq_some_iff.1 hj).1;rw[hl _ (List.getElem_mem _)] at this;exact this
  have e2:=nh_ css (Rp.sz α) hl hcs j hjl;rw[hj,<-ht] at e2;rw[List.getElem?_take] at e2;split at e2
  ·simp only[World.cell?,hg,Option.isSome_none,Bool.false_eq_true,if_false];rw[Nat.zero_add,<-e2];simp
  ·cases e2
theorem Ow.z{B:Nat}{e:TypeId}(h:Ow B e k o w v xs):RdL zt w v xs:=h.freeze λ_ _ _=>rfl
def frz(k:Nat)(o:Tg):Tg:=λb=>if o b=k then 0 else o b
theorem Ow.frz{B:Nat}{e:TypeId}(h:Ow B e k o w v xs):RdL (frz k o) w v xs:=h.freeze λb _ hb=>by
 unfold Go.Proofs.YtdbbeldgdgonfaaGreat.frz;rcases hb with hb|hb
 ·rw[hb];split<;>rfl
 ·rw[if_pos hb]
theorem RdL.frz(h:RdL o w v xs)(j:Nat):RdL (frz j o) w v xs:=h.mv (Nat.le_refl _) λb _ hb=>⟨rfl,by unfold Go.Proofs.YtdbbeldgdgonfaaGreat.frz;rw[hb];split<;>rfl⟩
theorem Rp.frz(h:Rp.rd o w cs x)(j:Nat):Rp.rd (frz j o) w cs x:=Rp.mv h (Nat.le_refl _) λb _ hb=>⟨rfl,by unfold Go.Proofs.YtdbbeldgdgonfaaGreat.frz;rw[hb];split<;>rfl⟩
theorem Ow.frz_ne{B:Nat}{e:TypeId}{j:Nat}(h:Ow B e k o w v xs)(hj:k≠j):Ow B e k (Go.Proofs.YtdbbeldgdgonfaaGreat.frz j o) w v xs:=by
 obtain⟨css,h1,h2,h3,h4⟩:=h;exact⟨css,h1,h2,λg hg=>by unfold Go.Proofs.YtdbbeldgdgonfaaGreat.frz;rw[h3 g hg,if_neg hj],λi cs x a b=>Rp.frz (h4 i cs x a b) j⟩
theorem Bs.frz{oo:Tg}(h:Bs oo o w0 w)(j:Nat)(hj:2<=j):Bs oo (Go.Proofs.YtdbbeldgdgonfaaGreat.frz j o) w0 w:=⟨h.keeps,λb hb=>by
 unfold Go.Proofs.YtdbbeldgdgonfaaGreat.frz;have:=h.old b hb;rw[<-this,if_neg];split at this<;>omega⟩
theorem RdL.col{oo:Tg}(h:RdL oo w v xs):RdL (col oo) w v xs:=h.mv (Nat.le_refl _) λb _ hb=>⟨rfl,by unfold Go.Proofs.YtdbbeldgdgonfaaGreat.col;rw[if_pos hb]⟩
theorem Rp.col{oo:Tg}(h:Rp.rd oo w cs x):Rp.rd (Go.Proofs.YtdbbeldgdgonfaaGreat.col oo) w cs x:=Rp.mv h (Nat.le_refl _) λb _ hb=>⟨rfl,by unfold Go.Proofs.YtdbbeldgdgonfaaGreat.col;rw[if_pos hb]⟩
def rt(oo o:Tg)(n k t:Nat):Tg:=λb=>if b<n then oo b else if o b=k then t else 0
theorem iD_{oo:Tg}(h:Bs oo o w0 w)(k t b:Nat)(hk:2<=k)(hb:o b=0):rt oo o w0.heap.size k t b=0:=by
 unfold rt;split
 ·rename_i hlt;have:=h.old b hlt;split at this
  ·assumption
  ·omega
 ·rw[if_neg (by omega)]
theorem Ow.rt{oo:Tg}{e:TypeId}(h:Ow w0.heap.size e k o w v xs)(hB:Bs oo o w0 w)(hk:2<=k)(t:Nat):Ow w0.heap.size e t (Go.Proofs.YtdbbeldgdgonfaaGreat.rt oo o w0.heap.size k t) w v xs:=by
 obtain⟨css,h1,h2,h3,h4⟩:=h;refine⟨css,h1,h2,λg hg=>?_,λi cs x a b=>Rp.mv (h4 i cs x a b) (Nat.le_refl _) λb _ hb=>⟨rfl,iD_ hB k t b hk hb⟩⟩;unfold Go.Proofs.YtdbbeldgdgonfaaGreat.rt;rw[if_neg (by have:=(h2.lt g hg).1;omega),if_pos (h3 g hg)]
theorem RdL.rt{oo:Tg}(h:RdL o w v xs)(hB:Bs oo o w0 w)(k t:Nat)(hk:2<=k):RdL (Go.Proofs.YtdbbeldgdgonfaaGreat.rt oo o w0.heap.size k t) w v xs:=h.mv (Nat.le_refl _) λb _ hb=>⟨rfl,iD_ hB k t b hk hb⟩
theorem Rp.rt{oo:Tg}(h:Rp.rd o w cs x)(hB:Bs oo o w0 w)(k t:Nat)(hk:2<=k):Rp.rd (Go.Proofs.YtdbbeldgdgonfaaGreat.rt oo o w0.heap.size k t) w cs x:=Rp.mv h (Nat.le_refl _) λb _ hb=>⟨rfl,iD_ hB k t b hk hb⟩
theorem ac_(oo o:Tg)(n k t:Nat):∀b,b<n->rt oo o n k t b=oo b:=λb hb=>if_pos hb
structure Bx (B k:Nat) (o:Tg) (w:World) (b:Nat) (e:TypeId) (cs:List Value):Prop where
  blk:w.heap[b]? =some (.cells cs.toArray e (0,0))
  tag:o b=k
  lo:B<=b
theorem Bx.stp{B b:Nat}{e:TypeId}(h:Bx B k o w b e cs)(s:Stp t o w o' w')(hk:k≠t:=by decide):Bx B k o' w' b e cs:=by
 have hlt:=(Array.getElem?_eq_some_iff.1 h.blk).1;exact⟨by rw[s.block b hlt (by rw[h.tag];exact hk)];exact h.blk,by rw[s.own b hlt];exact h.tag,h.lo⟩
theorem Bx.frz_ne{B b j:Nat}{e:TypeId}(h:Bx B k o w b e cs)(hj:k≠j):Bx B k (Go.Proofs.YtdbbeldgdgonfaaGreat.frz j o) w b e cs:=
 ⟨h.blk,by unfold Go.Proofs.YtdbbeldgdgonfaaGreat.frz;rw[h.tag,if_neg hj],h.lo⟩
theorem Bx.cell{B b:Nat}{e:TypeId}(h:Bx B k o w b e cs){i:Nat}{u:Value}(hi:cs[i]? =some u):w.cell? ⟨b,i,none⟩=some u:=by
 simp only[World.cell?,h.blk,Option.isSome_none,Bool.false_eq_true,if_false];simpa using hi
theorem Bx.cells{B b:Nat}{e:TypeId}(h:Bx B k o w b e cs):Cells w b 0 cs:=λj u hj=>by rw[Nat.zero_add];exact h.cell hj
def upd(o:Tg)(b k:Nat):Tg:=λc=>if c=b then k else o c
theorem sz_(o:Tg)(b k:Nat):upd o b k b=k:=by simp[upd]
theorem il_(o:Tg)(w:World)(t:Nat):Stp t o w o w.drew:=⟨rfl,rfl,rfl,Nat.le_refl _,λ_ _ _=>rfl,λ_ _=>rfl⟩
theorem Bx.new(o:Tg)(w:World)(B k:Nat)(e:TypeId)(cs:List Value)(hB:B<=w.heap.size):Bx B k (upd o w.heap.size k) (w.alloc (.cells cs.toArray e)) w.heap.size e cs:=
 ⟨heap_alloc_new w _,sz_ _ _ _,hB⟩
end
end
section
open Go.RowKit
def ck(n:Int):Option Int:=if -9223372036854775808<=n∧n<=9223372036854775807 then some n else none
theorem cr_{n m:Int}(h:ck n=some m):m=n∧-9223372036854775808<=n∧n<=9223372036854775807:=by
 unfold ck at h;split at h
 ·rename_i hh;cases h;exact⟨rfl,hh⟩
 ·cases h
theorem F_{n:Int}(h1: -9223372036854775808<=n)(h2:n<=9223372036854775807):ck n=some n:=if_pos ⟨h1,h2⟩
def quo(a b:Int):Option Int:=if b=0 then none else ck (a.tdiv b)
def rem(a b:Int):Option Int:=if b=0 then none else some (a.tmod b)
def band(a b:Int):Int:=IntKind.i64.wrap (BitVec.ofInt 64 a&&&BitVec.ofInt 64 b).toNat
def bor(a b:Int):Int:=IntKind.i64.wrap (BitVec.ofInt 64 a|||BitVec.ofInt 64 b).toNat
def shl(a b:Int):Option Int:=if b<0 then none else some (IntKind.i64.wrap (a*2^(min b.toNat 64)))
def shr(a b:Int):Option Int:=if b<0 then none else some (a.fdiv (2^(min b.toNat 64)))
def ix{α:Type}(xs:List α)(i:Int):Option α:=if 0<=i then xs[i.toNat]? else none
theorem fC_{α:Type}{xs:List α}{i:Int}{x:α}(h:ix xs i=some x):0<=i∧i<xs.length∧xs[i.toNat]? =some x:=by
 unfold ix at h;split at h
 ·rename_i h0;have:=(List.getElem?_eq_some_iff.1 h).1;exact⟨h0,by omega,h⟩
 ·cases h
def st{α:Type}(xs:List α)(i:Int)(x:α):Option (List α):=if 0<=i∧i<xs.length then some (xs.set i.toNat x) else none
theorem tu_{α:Type}{xs ys:List α}{i:Int}{x:α}(h:st xs i x=some ys):0<=i∧i<xs.length∧ys=xs.set i.toNat x:=by
 unfold st at h;split at h
 ·rename_i hh;cases h;exact⟨hh.1,hh.2,rfl⟩
 ·cases h
def push{α:Type}(xs:List α)(x:α):Option (List α):=if xs.length<1000000000 then some (xs++[x]) else none
theorem jK_{α:Type}{xs ys:List α}{x:α}(h:push xs x=some ys):xs.length<1000000000∧ys=xs++[x]:=by
 unfold push at h;split at h
 ·rename_i hh;cases h;exact⟨hh,rfl⟩
 ·cases h
def cat{α:Type}(xs zs:List α):Option (List α):=if xs.length+zs.length<=1000000000 then some (xs++zs) else none
theorem oK_{α:Type}{xs ys zs:List α}(h:cat xs zs=some ys):xs.length+zs.length<=1000000000∧ys=xs++zs:=by
 unfold cat at h;split at h
 ·rename_i hh;cases h;exact⟨hh,rfl⟩
 ·cases h
def mk{α:Type}(z:α)(n:Int):Option (List α):=if 0<=n∧n<1000000000 then some (List.replicate n.toNat z) else none
theorem te_{α:Type}{z:α}{n:Int}{ys:List α}(h:mk z n=some ys):0<=n∧n<1000000000∧ys=List.replicate n.toNat z:=by
 unfold mk at h;split at h
 ·rename_i hh;cases h;exact⟨hh.1,hh.2,rfl⟩
 ·cases h
def cut{α:Type}(xs:List α)(a b:Int):Option (List α):=if 0<=a∧a<=b∧b<=xs.length then some ((xs.take b.toNat).drop a.toNat) else none
theorem hr_{α:Type}{xs ys:List α}{a b:Int}(h:cut xs a b=some ys):0<=a∧a<=b∧b<=xs.length∧ys=(xs.take b.toNat).drop a.toNat:=by
 unfold cut at h;split at h
 ·rename_i hh;cases h;exact⟨hh.1,hh.2.1,hh.2.2,rfl⟩
 ·cases h
theorem a_{α β:Type}{m:Option α}{f:α->Option β}{r:β}(h:(m>>=f)=some r):∃x,m=some x∧f x=some r:=by
 cases m with
 |none=>simp at h
 |some x=>exact⟨x,rfl,by simpa using h⟩
inductive Lp (σ τ ρ:Type) where
  |go (s:σ)
  |out (s:τ)
  |ret (r:ρ)
def loopF{σ τ ρ:Type}(step:σ->Option (Lp σ τ ρ)):Nat->σ->Option (τ ⊕ ρ)
  |0,_=>none
  | k+1,s=>match step s with
    |none=>none
    |some (.go s')=>loopF step k s'
    |some (.out t)=>some (.inl t)
    |some (.ret r)=>some (.inr r)
theorem rH_{σ τ ρ:Type}{step:σ->Option (Lp σ τ ρ)}{k:Nat}{s:σ}{r:τ ⊕ ρ}(h:loopF step k s=some r):
  ∃k' x,k=k'+1∧step s=some x∧((∃s',x=.go s'∧loopF step k' s'=some r)∨(∃t,x=.out t∧r=.inl t)∨(∃q,x=.ret q∧r=.inr q)):=by
 cases k with
 |zero=>simp[loopF] at h
 | succ k=>
  simp only[loopF] at h;cases hx:step s with
  |none=>rw[hx] at h;cases h
  |some x=>
   rw[hx] at h;refine⟨k,x,rfl,rfl,?_⟩;cases x with
   |go s'=>exact .inl ⟨s',rfl,h⟩
   |out t=>cases h;exact .inr (.inl ⟨t,rfl,rfl⟩)
   |ret q=>cases h;exact .inr (.inr ⟨q,rfl,rfl⟩)
section
variable {P:Program} {l:List (Nat×Value)} {w:World} {d:Option Nat} {ty:TypeId} {ps:String} {af:Array Edge} {g:Option (Nat×Bool)}
theorem dG_{op:BinOp}{t t':TypeId}{x y:Operand}{a b:Int}{v:Value}(hx:ev l x=some (.int .i64 a))(hy:ev l y=some (.int .i64 b))
  (hv:(binOp op t (.int .i64 a) (.int .i64 b)).run P w=.ok v w):∀ρ,Agr ρ l->(execOp ρ ⟨d,.binOp op t x y t',ty,ps,af,g⟩).run P w=.ok (.value v) w:=by
 intro ρ hρ;have hg:(eqGuard op t x y (.int .i64 a) (.int .i64 b)).run P w=.ok () w:=by
  unfold eqGuard;cases op<;>rfl
 simp only[execOp,hρ x _ hx,hρ y _ hy,Sem.run_bind,hg,Result.andThen_ok,hv];rfl
section
variable {t t':TypeId} {x y:Operand} {a b c:Int} (hx:ev l x=some (.int .i64 a)) (hy:ev l y=some (.int .i64 b))
include hx hy
theorem C_(h:ck (a+b)=some c):∀ρ,Agr ρ l->(execOp ρ ⟨d,.binOp .add t x y t',ty,ps,af,g⟩).run P w=.ok (.value (.int .i64 c)) w:=by
 obtain⟨rfl,h1,h2⟩:=cr_ h;exact dG_ hx hy (by simp only[binOp,ne_eq,not_true_eq_false,if_false,Op.intArith];rw[IntWalk.i64_in _ ⟨h1,h2⟩];rfl)
theorem bE_(h:ck (a-b)=some c):∀ρ,Agr ρ l->(execOp ρ ⟨d,.binOp .sub t x y t',ty,ps,af,g⟩).run P w=.ok (.value (.int .i64 c)) w:=by
 obtain⟨rfl,h1,h2⟩:=cr_ h;exact dG_ hx hy (by simp only[binOp,ne_eq,not_true_eq_false,if_false,Op.intArith];rw[IntWalk.i64_in _ ⟨h1,h2⟩];rfl)
theorem iS_(h:ck (a*b)=some c):∀ρ,Agr ρ l->(execOp ρ ⟨d,.binOp .mul t x y t',ty,ps,af,g⟩).run P w=.ok (.value (.int .i64 c)) w:=by
 obtain⟨rfl,h1,h2⟩:=cr_ h;exact dG_ hx hy (by simp only[binOp,ne_eq,not_true_eq_false,if_false,Op.intArith];rw[IntWalk.i64_in _ ⟨h1,h2⟩];rfl)
theorem qv_(h:quo a b=some c):∀ρ,Agr ρ l->(execOp ρ ⟨d,.binOp .quo t x y t',ty,ps,af,g⟩).run P w=.ok (.value (.int .i64 c)) w:=by
 unfold quo at h;split at h
 ·cases h
 ·rename_i h0;obtain⟨rfl,h1,h2⟩:=cr_ h;exact dG_ hx hy (by simp only[binOp,ne_eq,not_true_eq_false,if_false,Op.intDiv,if_neg h0];rw[IntWalk.i64_in _ ⟨h1,h2⟩];rfl)
theorem ox_(h:rem a b=some c):∀ρ,Agr ρ l->(execOp ρ ⟨d,.binOp .rem t x y t',ty,ps,af,g⟩).run P w=.ok (.value (.int .i64 c)) w:=by
 unfold rem at h;split at h
 ·cases h
 ·rename_i h0;cases h
  exact dG_ hx hy (by simp only[binOp,ne_eq,not_true_eq_false,if_false,Op.intDiv,if_neg h0];rfl)
theorem u_:∀ρ,Agr ρ l->(execOp ρ ⟨d,.binOp .lss t x y t',ty,ps,af,g⟩).run P w=.ok (.value (.bool (decide (a<b)))) w:=dG_ hx hy rfl
theorem qW_:∀ρ,Agr ρ l->(execOp ρ ⟨d,.binOp .leq t x y t',ty,ps,af,g⟩).run P w=.ok (.value (.bool (decide (a<=b)))) w:=dG_ hx hy rfl
theorem ef_:∀ρ,Agr ρ l->(execOp ρ ⟨d,.binOp .gtr t x y t',ty,ps,af,g⟩).run P w=.ok (.value (.bool (decide (a>b)))) w:=dG_ hx hy rfl
theorem lc_:∀ρ,Agr ρ l->(execOp ρ ⟨d,.binOp .geq t x y t',ty,ps,af,g⟩).run P w=.ok (.value (.bool (decide (a>=b)))) w:=dG_ hx hy rfl
theorem cD_:∀ρ,Agr ρ l->(execOp ρ ⟨d,.binOp .eql t x y t',ty,ps,af,g⟩).run P w=.ok (.value (.bool (a==b))) w:=dG_ hx hy rfl
theorem dw_:∀ρ,Agr ρ l->(execOp ρ ⟨d,.binOp .neq t x y t',ty,ps,af,g⟩).run P w=.ok (.value (.bool (a !=b))) w:=dG_ hx hy rfl
theorem iX_:∀ρ,Agr ρ l->(execOp ρ ⟨d,.binOp .and t x y t',ty,ps,af,g⟩).run P w=.ok (.value (.int .i64 (band a b))) w:=dG_ hx hy rfl
theorem tf_:∀ρ,Agr ρ l->(execOp ρ ⟨d,.binOp .or t x y t',ty,ps,af,g⟩).run P w=.ok (.value (.int .i64 (bor a b))) w:=dG_ hx hy rfl
theorem fI_(h:shl a b=some c):∀ρ,Agr ρ l->(execOp ρ ⟨d,.binOp .shl t x y t',ty,ps,af,g⟩).run P w=.ok (.value (.int .i64 c)) w:=by
 unfold shl at h;split at h
 ·cases h
 ·rename_i h0;cases h
  exact dG_ hx hy (by simp only[binOp,Op.shift,if_neg h0];rfl)
theorem pe_(h:shr a b=some c):∀ρ,Agr ρ l->(execOp ρ ⟨d,.binOp .shr t x y t',ty,ps,af,g⟩).run P w=.ok (.value (.int .i64 c)) w:=by
 unfold shr at h;split at h
 ·cases h
 ·rename_i h0;cases h
  exact dG_ hx hy (by simp only[binOp,Op.shift,if_neg h0];rfl)
end
theorem qH_{x:Operand}{t:TypeId}{a:Option Addr}{n c:Nat}{e:TypeId}(hx:ev l x=some (.slice a n c))(ht:P.underlying t=some (.slice e)):
  ∀ρ,Agr ρ l->(execOp ρ ⟨d,.call {callee:=.builtin .len,args:= #[x],argTypes:= #[t]},ty,ps,af,g⟩).run P w=.ok (.value (.int .i64 n)) w:=by
 intro ρ hρ;have:=run_len_slice (P:=P) (w:=w) t ty a n c (by rw[ht];simp[Program.elem,ht]);simp only[execOp,resolve,invoke,builtin,Sem.run_bind,Sem.run_pure,Result.andThen_ok,List.map_toArray,List.map_cons,List.map_nil,hρ x _ hx,this];rfl
theorem hq_{x y:Operand}{t e:TypeId}{b off n c sz:Nat}{i:Int}(hx:ev l x=some (.slice (some ⟨b,off,none⟩) n c))(hy:ev l y=some (.int .i64 i))
  (h0:0<=i) (h1:i<n) (ht:P.underlying t=some (.slice e)) (hs:∀w,(sizeOf e).run P w=.ok sz w):
  ∀ρ,Agr ρ l->(execOp ρ ⟨d,.indexAddr t x y,ty,ps,af,g⟩).run P w=.ok (.value (.pointer (some ⟨b,off+i.toNat*sz,none⟩))) w:=by
 intro ρ hρ;have he:P.elem t=e:=by simp[Program.elem,ht]
 have:=run_indexAt_slice (P:=P) (w:=w) t ⟨b,off,none⟩ n c .i64 i (by rw[he];exact ht);rw[if_pos ⟨h0,h1⟩,he,hs] at this;have ha:(⟨b,off,none⟩:Addr).add (i.toNat*sz)=⟨b,off+i.toNat*sz,none⟩:=by
  unfold Addr.add;split
  ·rename_i h;rw[h];rfl
  ·rfl
 simp only[execOp,hρ x _ hx,hρ y _ hy,Sem.run_bind,this,Result.andThen_ok,ha];rfl
theorem r_{x:Operand}{s:TypeId}{f:Nat}{fs:Array Field}{fd:Field}{b off k:Nat}(hx:ev l x=some (.pointer (some ⟨b,off,none⟩)))(hu:P.underlying s=some (.struct fs))(hf:fs[f]? =some fd)
  (hs:∀w,(sizeOf fd.type).run P w=.ok (k+1) w):
  ∀ρ,Agr ρ l->(execOp ρ ⟨d,.fieldAddr s x f,ty,ps,af,g⟩).run P w=.ok (.value (.pointer (some ⟨b,off+fd.offset,none⟩))) w:=by
 intro ρ hρ;have ha:(⟨b,off,none⟩:Addr).add fd.offset=⟨b,off+fd.offset,none⟩:=by
  unfold Addr.add;split
  ·rename_i h;rw[h];rfl
  ·rfl
 have hu':(underlying s).run P w=.ok (.struct fs) w:=by simp[underlying,hu]
 simp only[execOp,hρ x _ hx,Instr.fieldAt,Instr.sureAddr,Sem.run_bind,hu',Result.andThen_ok,hf,Sem.run_pure,fieldPlace,hs,Nat.add_eq_zero_iff,Nat.one_ne_zero,and_false,if_false,ha]
theorem e_{x:Operand}{t:TypeId}{ad:Addr}{u:Value}(hx:ev l x=some (.pointer (some ad)))(hag:∀w,(isAgg t).run P w=.ok false w)(hc:w.cell? ad=some u):
  ∀ρ,Agr ρ l->(execOp ρ ⟨d,.load t x,ty,ps,af,g⟩).run P w=.ok (.value u) w:=by
 intro ρ hρ;have:(load ad).run P w=.ok u w:=by simp[load,Sem.run,hc]
 simp only[execOp,hρ x _ hx,Instr.loadAt,Instr.sureAddr,Sem.run_bind,Sem.run_pure,Result.andThen_ok,loadVar,hag,Bool.false_eq_true,if_false,this]
theorem ep_{b off:Nat}:∀(cs:List Value)(i:Nat)(acc:Array Value),Cells w b (off+i) cs->(loadCellsFrom ⟨b,off,none⟩ i cs.length acc).run P w=.ok (acc++cs.toArray) w
 |[],i,acc,_=>by simp[loadCellsFrom]
 | c::cs,i,acc,h=>by
  have hc:w.cell? ⟨b,off+i,none⟩=some c:=by simpa using h 0 c rfl
  have ha:(⟨b,off,none⟩:Addr).add i=⟨b,off+i,none⟩:=by
   unfold Addr.add;split
   ·rename_i h;rw[h];rfl
   ·rfl
  have h1:(load ((⟨b,off,none⟩:Addr).add i)).run P w=.ok c w:=by rw[ha];simp[load,Sem.run,hc]
  have ih:=ep_ cs (i+1) (acc.push c) (λj v hj=>by have:=h (j+1) v (by simpa using hj);rw[show off+(i+1)+j=off+i+(j+1) by omega];exact this);simp only[List.length_cons,loadCellsFrom,Sem.run_bind,h1,Result.andThen_ok,ih];simp
theorem H_{x:Operand}{t:TypeId}{b off k:Nat}{cs:List Value}(hx:ev l x=some (.pointer (some ⟨b,off,none⟩)))(hag:∀w,(isAgg t).run P w=.ok true w)(hs:∀w,(sizeOf t).run P w=.ok k w)
  (hk:cs.length=k) (hc:Cells w b off cs):
  ∀ρ,Agr ρ l->(execOp ρ ⟨d,.load t x,ty,ps,af,g⟩).run P w=.ok (.value (.agg cs.toArray)) w:=by
 intro ρ hρ;subst hk;have:(loadCells ⟨b,off,none⟩ cs.length).run P w=.ok cs.toArray w:=by
  have:=ep_ (P:=P) (w:=w) (b:=b) (off:=off) cs 0 #[] (by simpa using hc);simpa [loadCells] using this
 simp only[execOp,hρ x _ hx,Instr.loadAt,Instr.sureAddr,Sem.run_bind,Sem.run_pure,Result.andThen_ok,loadVar,hag,if_true,hs,this]
theorem tR_{x:Operand}{t:TypeId}{v:Value}(hx:ev l x=some v):
  ∀ρ,Agr ρ l->(execOp ρ ⟨d,.box t x,ty,ps,af,g⟩).run P w=.ok (.value (.pointer (some ⟨w.heap.size,0,none⟩))) (w.alloc (.cells v.cells t)):=by
 intro ρ hρ;simp only[execOp,hρ x _ hx,Instr.box,newVar,newRow,newObj,Sem.run_bind,Sem.run_pure,Result.andThen_ok];rfl
theorem si_{t:TypeId}{z:Value}(hz:∀w,(zeroValue t).run P w=.ok z w):
  ∀ρ,Agr ρ l->(execOp ρ ⟨d,.alloc t,ty,ps,af,g⟩).run P w=.ok (.value (.pointer (some ⟨w.heap.size,0,none⟩))) (w.alloc (.cells z.cells t)):=by
 intro ρ hρ;simp only[execOp,Instr.alloc,newVar,newRow,newObj,Sem.run_bind,Sem.run_pure,Result.andThen_ok,hz];rfl
end
end
end Go.Proofs.YtdbbeldgdgonfaaGreat
