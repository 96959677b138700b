/- Part 4 of what this claim rests on (Kg, Kzw, Ty), packed by pack.py. -/
import Derived.Test.YtdbbeldgdgonfaaGreatP03
namespace Go.Proofs.YtdbbeldgdgonfaaGreat
open Tryz renaming prog→tX_
set_option linter.unusedSimpArgs false
set_option linter.unusedVariables false
section
open Go.RowKit
section
variable {α:Type} [Rp α] {o o':Tg} {w w' w0:World} {v u:Value} {xs:List α} {x:α} {t k:Nat} {e:TypeId} {B:Nat}
def Rtc(t:Nat)(o o':Tg):Prop:=∀b,o b≠t->o' b=o b
theorem Rtc.zero(r:Rtc t o o')(ht:t≠0){b:Nat}(hb:o b=0):o' b=0:=by rw[r b (by rw[hb];exact ht.symm)];exact hb
theorem RdL.rc(h:RdL o w v xs)(r:Rtc t o o')(ht:t≠0):RdL o' w v xs:=h.mv (Nat.le_refl _) λb _ hb=>⟨rfl,r.zero ht hb⟩
theorem Rp.rc{cs:List Value}(h:Rp.rd o w cs x)(r:Rtc t o o')(ht:t≠0):Rp.rd o' w cs x:=Rp.mv h (Nat.le_refl _) λb _ hb=>⟨rfl,r.zero ht hb⟩
theorem Ow.rc(h:Ow B e k o w v xs)(r:Rtc t o o')(ht:t≠0)(hk:k≠t):Ow B e k o' w v xs:=by
 obtain⟨css,h1,h2,h3,h4⟩:=h;exact⟨css,h1,h2,λg hg=>by rw[r g (by rw[h3 g hg];exact hk)];exact h3 g hg,λi cs x a b=>Rp.rc (h4 i cs x a b) r ht⟩
theorem Of.rc(h:Of e o w v xs)(r:Rtc t o o')(ht:t≠0):Of e o' w v xs:=Ow.rc h r ht ht.symm
omit [Rp α] in
theorem Bx.rc{b:Nat}{cs:List Value}(h:Bx B k o w b e cs)(r:Rtc t o o')(hk:k≠t):Bx B k o' w b e cs:=
 ⟨h.blk,by rw[r b (by rw[h.tag];exact hk)];exact h.tag,h.lo⟩
omit [Rp α] in
theorem Bs.rc{oo:Tg}(h:Bs oo o w0 w)(r:Rtc t o o')(ht:2<=t):Bs oo o' w0 w:=
 ⟨h.keeps,λb hb=>by rw[r b (by have:=h.old b hb;split at this<;>omega)];exact h.old b hb⟩
def mrg(t k:Nat)(o:Tg):Tg:=λb=>if o b=t then k else o b
omit [Rp α] in
theorem fe_(t k:Nat)(o:Tg):Rtc t o (mrg t k o):=λb hb=>if_neg hb
theorem Ow.mrg(h:Ow B e t o w v xs)(k:Nat)(ht:t≠0):Ow B e k (Go.Proofs.YtdbbeldgdgonfaaGreat.mrg t k o) w v xs:=by
 obtain⟨css,h1,h2,h3,h4⟩:=h;exact⟨css,h1,h2,λg hg=>if_pos (h3 g hg),λi cs x a b=>Rp.rc (h4 i cs x a b) (fe_ t k o) ht⟩
def one(u:Value)(k:Nat)(o:Tg):Tg:=λb=>if u.ownBlock=some b then k else o b
omit [Rp α] in
theorem pa_(h:∀g,u.ownBlock=some g->o g=t)(k:Nat):Rtc t o (one u k o):=λb hb=>by
 unfold one;rw[if_neg λhu=>hb (h b hu)]
theorem Ow.tagged(h:Ow B e k o w v xs):∀g,v.ownBlock=some g->o g=k:=by obtain⟨css,h1,h2,h3,h4⟩:=h;exact h3
theorem Ow.ltw(h:Ow B e k o w v xs):∀g,v.ownBlock=some g->B<=g∧g<w.heap.size:=by obtain⟨css,h1,h2,h3,h4⟩:=h;exact λg hg=>h2.lt g hg
theorem Ow.one(h:Ow B e t o w u xs)(k:Nat)(ht:t≠0):Ow B e k (Go.Proofs.YtdbbeldgdgonfaaGreat.one u k o) w u xs:=by
 have hr:=pa_ h.tagged k;obtain⟨css,h1,h2,h3,h4⟩:=h;exact⟨css,h1,h2,λg hg=>if_pos hg,λi cs x a b=>Rp.rc (h4 i cs x a b) hr ht⟩
theorem Ow.one_ne(h:Ow B e k o w v xs)(hu:∀g,u.ownBlock=some g->o g=t)(ht:t≠0)(hne:∀g,v.ownBlock=some g->u.ownBlock≠some g)(k':Nat):Ow B e k (Go.Proofs.YtdbbeldgdgonfaaGreat.one u k' o) w v xs:=by
 have hr:=pa_ hu k';obtain⟨css,h1,h2,h3,h4⟩:=h;exact⟨css,h1,h2,λg hg=>by unfold Go.Proofs.YtdbbeldgdgonfaaGreat.one;rw[if_neg (hne g hg)];exact h3 g hg,λi cs x a b=>Rp.rc (h4 i cs x a b) hr ht⟩
end
structure Hv where
  v:Value
instance:Rp Hv where
  sz:=1
  pos:=by decide
  rd _ _ cs x:=cs=[x.v]∧x.v.oneCell'=true
  len h:=by obtain⟨rfl,_⟩:=h;rfl
  one h:=by obtain⟨rfl,h⟩:=h;intro c hc;simp at hc;subst hc;exact h
  mv h _ _:=h
instance:Inhabited Hv:=⟨⟨.slice none 0 0⟩⟩
section
variable {α:Type} [Rp α] {o o':Tg} {w w' w0:World} {v u:Value} {vs:List Hv} {xs:List (List α)} {x:List α} {t k kr:Nat} {e er:TypeId} {B:Nat}
def Rws(B:Nat)(er:TypeId)(kr:Nat)(o:Tg)(w:World)(vs:List Hv)(xs:List (List α)):Prop:=
  vs.length=xs.length∧(∀(i:Nat) u x,vs[i]? =some u->xs[i]? =some x->Ow B er kr o w u.v x)∧
    ∀(i j:Nat) u u' g,vs[i]? =some u->vs[j]? =some u'->u.v.ownBlock=some g->u'.v.ownBlock=some g->i=j
theorem Rws.nil(B:Nat)(er:TypeId)(kr:Nat)(o:Tg)(w:World):Rws B er kr o w [] ([]:List (List α)):=⟨rfl,λi u x h=>by simp at h,λi j u u' g h=>by simp at h⟩
theorem Rws.stp(h:Rws B er kr o w vs xs)(s:Stp t o w o' w')(ht:t≠0:=by decide)(hk:kr≠t:=by decide):Rws B er kr o' w' vs xs:=⟨h.1,λi u x a b=>(h.2.1 i u x a b).stp s ht hk,h.2.2⟩
theorem Rws.rc(h:Rws B er kr o w vs xs)(r:Rtc t o o')(ht:t≠0)(hk:kr≠t):Rws B er kr o' w vs xs:=⟨h.1,λi u x a b=>(h.2.1 i u x a b).rc r ht hk,h.2.2⟩
theorem Rws.mono{B':Nat}(h:Rws B er kr o w vs xs)(hB:B'<=B):Rws B' er kr o w vs xs:=⟨h.1,λi u x a b=>(h.2.1 i u x a b).mono hB,h.2.2⟩
theorem Rws.row(h:Rws B er kr o w vs xs){i:Nat}(hx:xs[i]? =some x):∃u,vs[i]? =some ⟨u⟩∧Ow B er kr o w u x:=by
 have hi:i<vs.length:=by have:=(List.getElem?_eq_some_iff.1 hx).1;have:=h.1;omega
 exact⟨vs[i].v,by rw[List.getElem?_eq_getElem hi],h.2.1 i vs[i] x (List.getElem?_eq_getElem hi) hx⟩
theorem Rws.make(B:Nat)(er:TypeId)(kr:Nat)(o:Tg)(w:World)(n:Nat):Rws B er kr o w (List.replicate n ⟨.slice none 0 0⟩) (List.replicate n ([]:List α)):=by
 refine⟨by simp,λi u x a b=>?_,λi j u u' g a b c d=>?_⟩
 ·rw[List.getElem?_replicate] at a b;split at a
  ·rename_i hi;rw[if_pos hi] at b;cases a;cases b
   exact Ow.nil _ _ _ _ _
  ·cases a
 ·rw[List.getElem?_replicate] at a;split at a
  ·cases a;simp[Value.ownBlock] at c
  ·cases a
theorem Rws.push(h:Rws B er kr o w vs xs)(hu:Ow B er t o w u x)(ht:t≠0)(hk:kr≠t):Rws B er kr (mrg t kr o) w (vs++[⟨u⟩]) (xs++[x]):=by
 have h':=h.rc (fe_ t kr o) ht hk;have hu':=hu.mrg kr ht;refine⟨by simp[h.1],λi u1 x1 a b=>?_,λi j u1 u2 g a b c d=>?_⟩
 ·by_cases hi:i<vs.length
  ·rw[List.getElem?_append_left hi] at a;rw[List.getElem?_append_left (by rw[<-h.1];exact hi)] at b;exact h'.2.1 i u1 x1 a b
  ·have hi2:i=vs.length:=by have:=(List.getElem?_eq_some_iff.1 a).1;simp at this;omega
   subst hi2;rw[List.getElem?_append_right (by omega)] at a;rw[List.getElem?_append_right (by rw[h.1];omega)] at b;simp[h.1] at a b;subst a;subst b;exact hu'
 ·have old:∀(i:Nat) u1,i<vs.length->vs[i]? =some u1->u1.v.ownBlock=some g->o g=kr:=λi u1 hi a c=>by
   obtain⟨x1,hx1⟩:∃x1,xs[i]? =some x1:=⟨xs[i]'(by rw[<-h.1];exact hi),List.getElem?_eq_getElem (by rw[<-h.1];exact hi)⟩;exact(h.2.1 i u1 x1 a hx1).tagged g c
  have lst:∀(i:Nat)(u1:Hv),¬i<vs.length->(vs++[⟨u⟩])[i]? =some u1->i=vs.length∧u1=⟨u⟩:=λi u1 hi a=>by
   have hi2:i=vs.length:=by have:=(List.getElem?_eq_some_iff.1 a).1;simp at this;omega
   subst hi2;rw[List.getElem?_append_right (by omega)] at a;simp at a;exact⟨rfl,a.symm⟩
  by_cases hi:i<vs.length<;>by_cases hj:j<vs.length
  ·rw[List.getElem?_append_left hi] at a;rw[List.getElem?_append_left hj] at b;exact h.2.2 i j u1 u2 g a b c d
  ·obtain⟨_,rfl⟩:=lst j u2 hj b;rw[List.getElem?_append_left hi] at a;have h1:=old i u1 hi a c;have h2:=hu.tagged g d;exact absurd (h1.symm.trans h2) hk
  ·obtain⟨_,rfl⟩:=lst i u1 hi a;rw[List.getElem?_append_left hj] at b;have h1:=old j u2 hj b d;have h2:=hu.tagged g c;exact absurd (h1.symm.trans h2) hk
  ·rw[(lst i u1 hi a).1,(lst j u2 hj b).1]
def RwH(i:Nat)(B:Nat)(er:TypeId)(kr:Nat)(o:Tg)(w:World)(vs:List Hv)(xs:List (List α)):Prop:=
  vs.length=xs.length∧(∀(j:Nat) u x,j≠i->vs[j]? =some u->xs[j]? =some x->Ow B er kr o w u.v x)∧
    ∀(j j':Nat) u u' g,j≠i->j'≠i->vs[j]? =some u->vs[j']? =some u'->u.v.ownBlock=some g->u'.v.ownBlock=some g->j=j'
theorem RwH.stp{i:Nat}(h:RwH i B er kr o w vs xs)(s:Stp t o w o' w')(ht:t≠0:=by decide)(hk:kr≠t:=by decide):RwH i B er kr o' w' vs xs:=⟨h.1,λj u x n a b=>(h.2.1 j u x n a b).stp s ht hk,h.2.2⟩
theorem RwH.rc{i:Nat}(h:RwH i B er kr o w vs xs)(r:Rtc t o o')(ht:t≠0)(hk:kr≠t):RwH i B er kr o' w vs xs:=⟨h.1,λj u x n a b=>(h.2.1 j u x n a b).rc r ht hk,h.2.2⟩
theorem Rws.take(h:Rws B er kr o w vs xs){i:Nat}(hu:vs[i]? =some ⟨u⟩)(hx:xs[i]? =some x)(hkr:kr≠0)(k':Nat):
  Ow B er k' (one u k' o) w u x∧RwH i B er kr (one u k' o) w vs xs∧Rtc kr o (one u k' o):=by
 have h0:=h.2.1 i ⟨u⟩ x hu hx;refine⟨h0.one k' hkr,⟨h.1,λj u1 x1 n a b=>?_,λj j' u1 u2 g _ _ a b c d=>h.2.2 j j' u1 u2 g a b c d⟩,pa_ h0.tagged k'⟩;exact(h.2.1 j u1 x1 a b).one_ne h0.tagged hkr (λg hg he=>n (h.2.2 j i u1 ⟨u⟩ g a hu hg he)) k'
theorem RwH.put{i:Nat}(h:RwH i B er kr o w vs xs)(hu:Ow B er t o w u x)(ht:t≠0)(hk:kr≠t):Rws B er kr (mrg t kr o) w (vs.set i ⟨u⟩) (xs.set i x):=by
 have h':=h.rc (fe_ t kr o) ht hk;have hu':=hu.mrg kr ht;have old:∀(j:Nat) u1 g,j≠i->vs[j]? =some u1->u1.v.ownBlock=some g->o g=kr:=λj u1 g n a c=>by
  have hj:j<xs.length:=by rw[<-h.1];exact(List.getElem?_eq_some_iff.1 a).1
  exact(h.2.1 j u1 _ n a (List.getElem?_eq_getElem hj)).tagged g c
 refine⟨by simp[h.1],λj u1 x1 a b=>?_,λj j' u1 u2 g a b c d=>?_⟩
 ·rw[List.getElem?_set] at a b;by_cases e:i=j
  ·subst e;rw[if_pos rfl] at a b;split at a
   ·split at b
    ·cases a;cases b;exact hu'
    ·cases b
   ·cases a
  ·rw[if_neg e] at a b;exact h'.2.1 j u1 x1 (Ne.symm e) a b
 ·rw[List.getElem?_set] at a b;by_cases e:i=j<;>by_cases e':i=j'
  ·omega
  ·rw[if_pos e] at a;rw[if_neg e'] at b;split at a
   ·cases a
    exact absurd ((old j' u2 g (Ne.symm e') b d).symm.trans (hu.tagged g c)) hk
   ·cases a
  ·rw[if_neg e] at a;rw[if_pos e'] at b;split at b
   ·cases b
    exact absurd ((old j u1 g (Ne.symm e) a c).symm.trans (hu.tagged g d)) hk
   ·cases b
  ·rw[if_neg e] at a;rw[if_neg e'] at b;exact h.2.2 j j' u1 u2 g (Ne.symm e) (Ne.symm e') a b c d
theorem Rws.hole(h:Rws B er kr o w vs xs)(i:Nat):RwH i B er kr o w vs xs:=⟨h.1,λj u x _ a b=>h.2.1 j u x a b,λj j' u u' g _ _ a b c d=>h.2.2 j j' u u' g a b c d⟩
theorem Rws.frz(h:Rws B er kr o w vs xs)(hk:kr≠0):Rws B er 0 (frz kr o) w vs xs:=by
 refine⟨h.1,λi u x a b=>?_,h.2.2⟩;have h0:=h.2.1 i u x a b;have:=h0.frzF;obtain⟨css,h1,h2,h3,h4⟩:=h0;exact⟨css,h1,h2,λg hg=>by unfold Go.Proofs.YtdbbeldgdgonfaaGreat.frz;rw[if_pos (h3 g hg)],λi cs x a b=>Rp.frz (h4 i cs x a b) kr⟩
theorem Rws.frz_ne{j:Nat}(h:Rws B er kr o w vs xs)(hj:kr≠j):Rws B er kr (Go.Proofs.YtdbbeldgdgonfaaGreat.frz j o) w vs xs:=⟨h.1,λi u x a b=>(h.2.1 i u x a b).frz_ne hj,h.2.2⟩
def Dz(e er:TypeId)(o:Tg)(w:World)(v:Value)(xs:List (List α)):Prop:=∃vs:List Hv,Ow 0 e 0 o w v vs∧Rws 0 er 0 o w vs xs
theorem Dz.nil(e er:TypeId)(o:Tg)(w:World):Dz e er o w (.slice none 0 0) ([]:List (List α)):=⟨[],Ow.nil _ _ _ _ _,Rws.nil _ _ _ _ _⟩
theorem Dz.of(h:Ow B e k o w v vs)(hr:Rws B er kr o w vs xs)(hk:k≠0)(hkr:kr≠0)(hne:kr≠k):Dz e er (frz kr (frz k o)) w v xs:=
 ⟨vs,Of.frz (h.frzF) kr hkr.symm,((hr.frz_ne hne).frz hkr).mono (Nat.zero_le _)⟩
theorem Dz.stp(h:Dz e er o w v xs)(s:Stp t o w o' w')(ht:t≠0:=by decide):Dz e er o' w' v xs:=by
 obtain⟨vs,h1,h2⟩:=h;exact⟨vs,h1.stp s ht ht.symm,h2.stp s ht ht.symm⟩
theorem Dz.rc(h:Dz e er o w v xs)(r:Rtc t o o')(ht:t≠0):Dz e er o' w v xs:=by
 obtain⟨vs,h1,h2⟩:=h;exact⟨vs,h1.rc r ht ht.symm,h2.rc r ht ht.symm⟩
theorem fh_(k:Nat)(o:Tg):Rtc k o (frz k o):=λb hb=>if_neg hb
theorem Dz.frz(h:Dz e er o w v xs)(j:Nat)(hj:0≠j):Dz e er (Go.Proofs.YtdbbeldgdgonfaaGreat.frz j o) w v xs:=h.rc (fh_ j o) hj.symm
theorem Dz.rt{oo:Tg}(h:Dz e er o w v xs)(hB:Bs oo o w0 w)(k t:Nat)(hk:2<=k):Dz e er (Go.Proofs.YtdbbeldgdgonfaaGreat.rt oo o w0.heap.size k t) w v xs:=by
 obtain⟨vs,h1,h2⟩:=h;exact⟨vs,Of.rt h1 hB k t hk,h2.1,λi u x a b=>Of.rt (h2.2.1 i u x a b) hB k t hk,h2.2.2⟩
theorem Dz.rd(h:Dz e er o w v xs):RdL o w v xs:=by
 obtain⟨vs,h1,h2⟩:=h;obtain⟨a,c,rfl,l1,l2,h4⟩:=Of.rd h1;refine⟨a,c,by rw[h2.1],by rw[<-h2.1];exact l1,l2,λi x hx=>?_⟩;obtain⟨u,hu,ho⟩:=h2.row hx;obtain⟨b,off,cs,ha,hb,hlt,hc,hd,_⟩:=h4 i ⟨u⟩ hu;subst hd;exact⟨b,off,[u],ha,hb,hlt,hc,⟨u,rfl,Of.rd ho⟩⟩
theorem Rws.ix(h:Rws B er kr o w vs xs){i:Int}(hx:ix xs i=some x):∃u,Go.Proofs.YtdbbeldgdgonfaaGreat.ix vs i=some ⟨u⟩∧vs[i.toNat]? =some ⟨u⟩∧xs[i.toNat]? =some x:=by
 obtain⟨h0,_,h2⟩:=fC_ hx;obtain⟨u,hu,_⟩:=h.row h2;exact⟨u,by unfold Go.Proofs.YtdbbeldgdgonfaaGreat.ix;rw[if_pos h0];exact hu,hu,h2⟩
theorem Rws.at(h:Rws B er kr o w vs xs){i:Nat}(hu:vs[i]? =some ⟨u⟩)(hx:xs[i]? =some x):Ow B er kr o w u x:=h.2.1 i ⟨u⟩ x hu hx
theorem Rws.pushV(h:Rws B er kr o w vs xs){ys:List (List α)}(hy:Go.Proofs.YtdbbeldgdgonfaaGreat.push xs x=some ys)(u:Value):Go.Proofs.YtdbbeldgdgonfaaGreat.push vs ⟨u⟩=some (vs++[⟨u⟩])∧ys=xs++[x]:=by
 obtain⟨h1,rfl⟩:=jK_ hy;exact⟨by unfold Go.Proofs.YtdbbeldgdgonfaaGreat.push;rw[if_pos (by rw[h.1];exact h1)],rfl⟩
theorem Rws.rtg(h:Rws B er kr o w vs xs)(k':Nat)(hk:kr≠0):Rws B er k' (Go.Proofs.YtdbbeldgdgonfaaGreat.rtg kr k' o) w vs xs:=⟨h.1,λi u x a b=>(h.2.1 i u x a b).rtg k' hk,h.2.2⟩
theorem Rws.rtg_ne{k k':Nat}(h:Rws B er kr o w vs xs)(h1:kr≠k)(h2:kr≠k')(hk:k≠0):Rws B er kr (Go.Proofs.YtdbbeldgdgonfaaGreat.rtg k k' o) w vs xs:=⟨h.1,λi u x a b=>(h.2.1 i u x a b).rtg_ne h1 h2 hk,h.2.2⟩
theorem Dz.rtg{k':Nat}(h:Dz e er o w v xs)(h1:0≠k)(h2:0≠k')(hk:k≠0):Dz e er (Go.Proofs.YtdbbeldgdgonfaaGreat.rtg k k' o) w v xs:=by
 obtain⟨vs,g1,g2⟩:=h;exact⟨vs,Ow.rtg_ne g1 h1 h2 hk,g2.rtg_ne h1 h2 hk⟩
theorem jb_{ys:List α}(h:Ow B er k o w v ys):Rp.rd o w [v] (⟨v⟩:Hv):=⟨rfl,h.one1⟩
end
section
variable {α:Type} [Rp α] {o o' oo:Tg} {w w' w0:World} {v u:Value} {vs:List Hv} {xs:List (List α)} {x:List α} {t k kr:Nat} {e er:TypeId} {B:Nat}
theorem Rws.z(h:Rws B er kr o w vs xs)(hs:Ow B e k o w v vs):RdL zt w v xs:=by
 obtain⟨a,c,rfl,l1,l2,h4⟩:=hs.z;refine⟨a,c,by rw[h.1],by rw[<-h.1];exact l1,l2,λi x hx=>?_⟩;obtain⟨u,hu,ho⟩:=h.row hx;obtain⟨b,off,cs,ha,hb,hlt,hc,hd,_⟩:=h4 i ⟨u⟩ hu;subst hd;exact⟨b,off,[u],ha,hb,hlt,hc,⟨u,rfl,ho.z⟩⟩
def rt2(oo o:Tg)(n k kr t:Nat):Tg:=λb=>if b<n then oo b else if o b=k then t else if o b=kr then t+1 else 0
theorem fA_(oo o:Tg)(n k kr t:Nat):∀b,b<n->rt2 oo o n k kr t b=oo b:=λb hb=>if_pos hb
theorem ib_(h:Bs oo o w0 w)(k kr t b:Nat)(hk:2<=k)(hkr:2<=kr)(hb:o b=0):rt2 oo o w0.heap.size k kr t b=0:=by
 unfold rt2;split
 ·rename_i hlt;have:=h.old b hlt;split at this
  ·assumption
  ·omega
 ·rw[if_neg (by omega),if_neg (by omega)]
theorem Ow.rt2{β:Type}[Rp β]{ys:List β}(h:Ow w0.heap.size e k o w v ys)(hB:Bs oo o w0 w)(hk:2<=k){kr:Nat}(hkr:2<=kr)(t:Nat):Ow w0.heap.size e t (Go.Proofs.YtdbbeldgdgonfaaGreat.rt2 oo o w0.heap.size k kr t) w v ys:=by
 obtain⟨css,h1,h2,h3,h4⟩:=h;refine⟨css,h1,h2,λg hg=>?_,λi cs x a b=>Rp.mv (h4 i cs x a b) (Nat.le_refl _) λb _ hb=>⟨rfl,ib_ hB k kr t b hk hkr hb⟩⟩;unfold Go.Proofs.YtdbbeldgdgonfaaGreat.rt2;rw[if_neg (by have:=(h2.lt g hg).1;omega),if_pos (h3 g hg)]
theorem Rws.rt2(h:Rws w0.heap.size er kr o w vs xs)(hB:Bs oo o w0 w){k:Nat}(hk:2<=k)(hkr:2<=kr)(hne:kr≠k)(t:Nat):Rws w0.heap.size er (t+1) (Go.Proofs.YtdbbeldgdgonfaaGreat.rt2 oo o w0.heap.size k kr t) w vs xs:=by
 refine⟨h.1,λi u x a b=>?_,h.2.2⟩;obtain⟨css,h1,h2,h3,h4⟩:=h.2.1 i u x a b;refine⟨css,h1,h2,λg hg=>?_,λi cs x a b=>Rp.mv (h4 i cs x a b) (Nat.le_refl _) λb _ hb=>⟨rfl,ib_ hB k kr t b hk hkr hb⟩⟩;unfold Go.Proofs.YtdbbeldgdgonfaaGreat.rt2;rw[if_neg (by have:=(h2.lt g hg).1;omega),if_neg (by rw[h3 g hg];exact hne),if_pos (h3 g hg)]
end
instance:Rz Hv:=⟨⟨.slice none 0 0⟩,[.slice none 0 0],λo w=>⟨rfl,rfl⟩⟩
section
variable {α:Type} [Rp α] {o o':Tg} {w w':World} {u:Value} {vs:List Hv} {xs:List (List α)} {x:List α} {t k kr:Nat} {e er:TypeId} {B:Nat}
theorem RwH.ix{i0:Nat}(h:RwH i0 B er kr o w vs xs){i:Int}(hx:Go.Proofs.YtdbbeldgdgonfaaGreat.ix xs i=some x):∃u,Go.Proofs.YtdbbeldgdgonfaaGreat.ix vs i=some ⟨u⟩:=by
 obtain⟨h0,h1,h2⟩:=fC_ hx;have hl:i.toNat<vs.length:=by rw[h.1];omega
 exact⟨vs[i.toNat].v,by unfold Go.Proofs.YtdbbeldgdgonfaaGreat.ix;rw[if_pos h0,List.getElem?_eq_getElem hl]⟩
end
section
variable {α:Type} [Rp α] {P:Program} {l:List (Nat×Value)} {w:World} {o:Tg} {d:Option Nat} {ty:TypeId}
end
end
section
open Go.RowKit
abbrev Xr:=Value ⊕ Pr
def toP:Xr->Pr
  | .inl x=>λv _ _=>v=x
  | .inr p=>p
def xT:Xr:=.inr prT
abbrev Zcn(n:Nat):List (Option Nat):=List.replicate n none
abbrev Zt9(n:Nat):List Nat:=List.replicate n 999
abbrev Zt0(n:Nat):List Nat:=List.replicate n 0
abbrev Zrg(a n:Nat):List Nat:=List.range' a n
def FrD(Dl:List Nat)(Xl:List Xr)(l0:List (Nat×Value)):List Nat->List (Nat×Value)
  |[]=>l0
  | j::js=>match Xl.getD j xT with
    | .inl v=>(Dl.getD j 0,v)::FrD Dl Xl l0 js
    | .inr _=>FrD Dl Xl l0 js
def DepZ(Dl:List Nat)(Xl:List Xr)(a:Act)(o:Tg)(w:World):List Nat->Prop
  |[]=>True
  | j::js=>match Xl.getD j xT with
    | .inl _=>DepZ Dl Xl a o w js
    | .inr p=>p (a.tmps.getD (Dl.getD j 0) undef) o w∧DepZ Dl Xl a o w js
theorem lu_:∀(Xl:List Xr)(j:Nat),(Xl.map toP).getD j prT=toP (Xl.getD j xT)
 |[],j=>rfl
 |x::xs,0=>rfl
 |x::xs,j+1=>by simpa using lu_ xs j
theorem Deps.toZ{Dl:List Nat}{Xl:List Xr}{a:Act}{o:Tg}{w:World}{n:Nat}{l0:List (Nat×Value)}(ha:Fr a n l0):∀{js:List Nat},Deps Dl (Xl.map toP) a o w js->Fr a n (FrD Dl Xl l0 js)∧DepZ Dl Xl a o w js
 |[],_=>⟨ha,trivial⟩
 |j::js,h=>by
  obtain⟨h1,h2⟩:=h;obtain⟨g1,g2⟩:=Deps.toZ ha h2;rw[lu_] at h1;unfold FrD DepZ;cases hx:Xl.getD j xT with
  |inl v=>rw[hx] at h1;exact⟨Fr.cons g1 h1,g2⟩
  |inr p=>rw[hx] at h1;exact⟨g1,h1,g2⟩
def ObsZ(P:Program)(all:List Oper)(n:Nat)(l0:List (Nat×Value))(Bf:Tg->World->Prop)(Dl:List Nat)(Xl:List Xr)(tgl:List Nat)(dsl:List (List Nat)):Nat->List Oper->Prop
  |_,[]=>True
  |i,op::ops=>(∀o w a,Fr a n (FrD Dl Xl l0 (dsl.getD i []))->Bf o w->DepZ Dl Xl a o w (dsl.getD i [])->opS P all.toArray op a w λv w'=>∃o',Stp (tgl.getD i 999) o w o' w'∧toP (Xl.getD i xT) v o' w')∧ObsZ P all n l0 Bf Dl Xl tgl dsl (i+1) ops
theorem ObsZ.obs{P:Program}{all:List Oper}{n:Nat}{l0:List (Nat×Value)}{Bf:Tg->World->Prop}{Dl:List Nat}{Xl:List Xr}{tgl:List Nat}{dsl:List (List Nat)}:
  ∀{ops:List Oper}{k:Nat},ObsZ P all n l0 Bf Dl Xl tgl dsl k ops->Obs P all n l0 Bf Dl (Xl.map toP) tgl dsl k ops
 |[],_,_=>trivial
 |op::ops,k,h=>⟨λo w a ha hb hd=>by
  obtain⟨h1,h2⟩:=Deps.toZ ha hd;rw[lu_];exact h.1 o w a h1 hb h2,h.2.obs⟩
def FrZ(l0:List (Nat×Value)):List Nat->List (Option Nat)->List Xr->List (Nat×Value)
  |d::ds,none::cs,.inl v::xs=>(d,v)::FrZ l0 ds cs xs
  |_::ds,_::cs,_::xs=>FrZ l0 ds cs xs
  |_,_,_=>l0
def FinZ(a:Act)(o:Tg)(w:World):List Nat->List (Option Nat)->List Xr->Prop
  |d::ds,none::cs,.inr p::xs=>p (a.tmps.getD d undef) o w∧FinZ a o w ds cs xs
  |_::ds,_::cs,_::xs=>FinZ a o w ds cs xs
  |_,_,_=>True
theorem Fin.toZ{a:Act}{o:Tg}{w:World}{n:Nat}{l0:List (Nat×Value)}(ha:Fr a n l0):∀{Dl:List Nat}{cs:List (Option Nat)}{Xl:List Xr},Fin a o w Dl cs (Xl.map toP)->Fr a n (FrZ l0 Dl cs Xl)∧FinZ a o w Dl cs Xl
 |[],_,_,_=>⟨ha,trivial⟩
 |d::ds,[],_,_=>⟨ha,trivial⟩
 |d::ds,none::cs,[],_=>⟨ha,trivial⟩
 |d::ds,some _::cs,[],_=>⟨ha,trivial⟩
 |d::ds,none::cs,.inl v::xs,h=>by
  obtain⟨g1,g2⟩:=Fin.toZ ha h.2;exact⟨Fr.cons g1 h.1,g2⟩
 |d::ds,none::cs,.inr p::xs,h=>by
  obtain⟨g1,g2⟩:=Fin.toZ ha h.2;exact⟨g1,h.1,g2⟩
 |d::ds,some _::cs,.inl v::xs,h=>Fin.toZ ha (Xl:=xs) h.2
 |d::ds,some _::cs,.inr p::xs,h=>Fin.toZ ha (Xl:=xs) h.2
def Sb(t:Nat)(p:Tg->World->Prop):Prop:=∀o w o' w',p o w->Stp t o w o' w'->p o' w'
def AllB(p:Tg->World->Prop):List Nat->Prop
  |[]=>True
  |t::ts=>Sb t p∧AllB p ts
theorem AllB.get{p:Tg->World->Prop}:∀{ts:List Nat},AllB p ts->∀t o w o' w',t∈ts->p o w->Stp t o w o' w'->p o' w'
 |t::ts,h,t',o,w,o',w',ht,hp,hs=>by
  rcases List.mem_cons.1 ht with rfl|ht
  ·exact h.1 o w o' w' hp hs
  ·exact AllB.get h.2 t' o w o' w' ht hp hs
section
variable {α:Type} [Rp α] {t k B b:Nat} {e:TypeId} {v:Value} {xs:List α} {p q:Tg->World->Prop} {cs:List Value} {oo:Tg} {w0:World} {vs:List Hv} {ys:List (List α)}
theorem Sb.and(h:Sb t p)(g:Sb t q):Sb t (λo w=>p o w∧q o w):=λo w o' w' ⟨a,b⟩ s=>⟨h o w o' w' a s,g o w o' w' b s⟩
theorem Sb.rd(ht:t≠0):Sb t (λo w=>RdL o w v xs):=λ_ _ _ _ h s=>h.stp s ht
theorem Sb.ow(ht:t≠0)(hk:k≠t):Sb t (λo w=>Ow B e k o w v xs):=λ_ _ _ _ h s=>h.stp s ht hk
theorem Sb.bx(hk:k≠t):Sb t (λo w=>Bx B k o w b e cs):=λ_ _ _ _ h s=>h.stp s hk
theorem Sb.bs(ht:2<=t):Sb t (λo w=>Bs oo o w0 w):=λ_ _ _ _ h s=>h.stp s ht
theorem Sb.of(ht:t≠0):Sb t (λo w=>Of e o w v xs):=λ_ _ _ _ h s=>h.stp s ht
theorem Sb.rws{er:TypeId}(ht:t≠0)(hk:k≠t):Sb t (λo w=>Rws B er k o w vs ys):=λ_ _ _ _ h s=>h.stp s ht hk
theorem Sb.dz{er:TypeId}(ht:t≠0):Sb t (λo w=>Dz e er o w v ys):=λ_ _ _ _ h s=>h.stp s ht
end
def AllY:List Nat->List Xr->Prop
  |_::bs,.inl _::xs=>AllY bs xs
  |b::bs,.inr p::xs=>St b p∧AllY bs xs
  |_,_=>True
def zerB:List Nat->List Xr->Bool
  |b::bs,.inl _::xs=>b==0&&zerB bs xs
  |_::bs,.inr _::xs=>zerB bs xs
  |[],[]=>true
  |_,_=>false
theorem AllY.all:∀{bs:List Nat}{xs:List Xr},AllY bs xs->zerB bs xs=true->AllSt bs (xs.map toP)
 |[],[],_,_=>trivial
 |[],_::_,_,h=>by simp[zerB] at h
 |_::_,[],_,h=>by simp[zerB] at h
 |b::bs,.inl v::xs,h,hz=>by
  simp only[zerB,Bool.and_eq_true,beq_iff_eq] at hz;obtain⟨rfl,hz⟩:=hz;exact⟨E_ v,AllY.all (xs:=xs) h hz⟩
 |b::bs,.inr p::xs,h,hz=>⟨h.1,AllY.all (xs:=xs) h.2 hz⟩
theorem drawnZ{P:Program}(hm:P.follows .mixedOrders=true){Q:Exit->Act->World->Prop}{n id:Nat}{l:List (Nat×Value)}{ops:List Oper}{w:World}{o:Tg}{Bf:Tg->World->Prop}
  (l0:List (Nat×Value)) (Dl:List Nat) (dsl:List (List Nat)) (csl:List (Option Nat)) (tgl bdl tags:List Nat) (Xl:List Xr) (hB0:Bf o w) (hSR:AllY bdl Xl)
  (hob:ObsZ P ops n l0 Bf Dl Xl tgl dsl 0 (ops.take Dl.length))
  (hfin:∀rest,ops.drop Dl.length=rest->∀o w a,Fr a n (FrZ l0 Dl csl Xl)->Bf o w->FinZ a o w Dl csl Xl->wpList P ops.toArray Q rest a w)
  (hsub:Sub l0 l) (hchk:drawnBC ops.toArray n (l0.map (·.1)) Dl dsl csl tgl bdl tags=true) (hz:zerB bdl Xl=true) (hSB:AllB Bf tags):wpC P (.region id ops.toArray true) Q n l w:=by
 have h1:=hSR.all hz;have h2:=ObsZ.obs hob;have h3:=AllB.get hSB;generalize hb:l0.map (·.1)=base at hchk;refine pF_ l0 base Dl dsl csl tgl bdl tags (Xl.map toP) Bf hm hchk hb hsub hB0 h3 h1 h2 ?_;intro o w a ha hb hf;obtain⟨g1,g2⟩:=Fin.toZ ha hf;exact hfin _ rfl o w a g1 hb g2
theorem ZW{Q:Exit->Act->World->Prop}{n id:Nat}{l:List (Nat×Value)}{ops:List Oper}{w:World}{o:Tg}{Bf:Tg->World->Prop}
  (l0:List (Nat×Value)) (Dl:List Nat) (dsl:List (List Nat)) (csl:List (Option Nat)) (tgl bdl tags:List Nat) (Xl:List Xr) (hB0:Bf o w) (hSR:AllY bdl Xl)
  (hob:ObsZ tX_ ops n l0 Bf Dl Xl tgl dsl 0 (ops.take Dl.length))
  (hfin:∀rest,ops.drop Dl.length=rest->∀o w a,Fr a n (FrZ l0 Dl csl Xl)->Bf o w->FinZ a o w Dl csl Xl->wpList tX_ ops.toArray Q rest a w)
  (hsub:Sub l0 l:=by repeat (first|exact trivial|refine⟨rfl,?_⟩)) (hchk:drawnBC ops.toArray n (l0.map (·.1)) Dl dsl csl tgl bdl tags=true:=by kernel_rfl) (hz:zerB bdl Xl=true:=by rfl)
  (hSB:AllB Bf tags:=by
   repeat (first|exact trivial|refine And.intro ?_ ?_|exact Sb.rd (by decide)|exact Sb.bs (by decide)|exact Sb.ow (by decide) (by decide)|exact Sb.bx (by decide)|exact Sb.of (by decide)|exact Sb.rws (by decide) (by decide)|exact Sb.dz (by decide)|refine Sb.and ?_ ?_)):wpC tX_ (.region id ops.toArray true) Q n l w:=
 drawnZ ao_ l0 Dl dsl csl tgl bdl tags Xl hB0 hSR hob hfin hsub hchk hz hSB
section
variable {P:Program} {n t d:Nat} {l:List (Nat×Value)} {ops:Array Oper} {op:Op} {ty:TypeId} {ps:String} {af:Array Edge} {g:Option (Nat×Bool)} {Bf:Tg->World->Prop} {D:Act->Tg->World->Prop} {X v:Value} {R:Pr}
theorem Dp(h:∀{w},∀ρ,Agr ρ l->(execOp ρ ⟨some d,op,ty,ps,af,g⟩).run P w=.ok (.value v) w)(hg:Gd ops l g:=by exact trivial)(hv:∀o w,R v o w:=by exact λ_ _=>rfl):
  ∀o w a,Fr a n l->Bf o w->D a o w->opS P ops ⟨some d,op,ty,ps,af,g⟩ a w λv w'=>∃o',Stp t o w o' w'∧R v o' w':=
 λo w a ha _ _=>af_ ha hg (l_ (λρ hρ=>h ρ hρ) ⟨o,Stp.refl _ _ _,hv o w⟩)
theorem Dq(h:∀{o w},Bf o w->∀ρ,Agr ρ l->(execOp ρ ⟨some d,op,ty,ps,af,g⟩).run P w=.ok (.value v) w)(hg:Gd ops l g:=by exact trivial)(hv:∀o w,R v o w:=by exact λ_ _=>rfl):
  ∀o w a,Fr a n l->Bf o w->D a o w->opS P ops ⟨some d,op,ty,ps,af,g⟩ a w λv w'=>∃o',Stp t o w o' w'∧R v o' w':=
 λo w a ha hb _=>af_ ha hg (l_ (λρ hρ=>h hb ρ hρ) ⟨o,Stp.refl _ _ _,hv o w⟩)
end
section
variable {a b c d e f g h i j k m p q:Prop}
end
end
section
open Go.RowKit
structure hX_ where
  Labels:Int
  Arcs:List (List Int)
  deriving DecidableEq
instance:Rp hX_ where
  sz:=2
  pos:=by decide
  rd o w cs x:=∃v1,cs=[.int .i64 x.Labels,v1]∧RdL o w v1 x.Arcs
  len h:=by obtain⟨v1,rfl,h1⟩:=h;rfl
  one h:=by
    obtain⟨v1,rfl,h1⟩:=h
    intro c hc
    simp only[List.mem_cons,List.not_mem_nil,or_false] at hc
    rcases hc with rfl|rfl<;>first|rfl|exact h1.one1
  mv h hs hb:=by obtain⟨v1,rfl,h1⟩:=h;exact⟨v1,rfl,h1.mv hs hb⟩
instance:Rz hX_:=⟨⟨0,[]⟩,[.int .i64 0,.slice none 0 0],λo w=>⟨_,rfl,RdL.nil o w⟩⟩
structure ff_ where
  Labels:Int
  Children:Int
  Lines:List (List Int)
  deriving DecidableEq
instance:Rp ff_ where
  sz:=3
  pos:=by decide
  rd o w cs x:=∃v1,cs=[.int .i64 x.Labels,.int .i64 x.Children,v1]∧RdL o w v1 x.Lines
  len h:=by obtain⟨v1,rfl,h1⟩:=h;rfl
  one h:=by
    obtain⟨v1,rfl,h1⟩:=h
    intro c hc
    simp only[List.mem_cons,List.not_mem_nil,or_false] at hc
    rcases hc with rfl|rfl|rfl<;>first|rfl|exact h1.one1
  mv h hs hb:=by obtain⟨v1,rfl,h1⟩:=h;exact⟨v1,rfl,h1.mv hs hb⟩
instance:Rz ff_:=⟨⟨0,0,[]⟩,[.int .i64 0,.int .i64 0,.slice none 0 0],λo w=>⟨_,rfl,RdL.nil o w⟩⟩
structure fL_ where
  Class:Int
  Label:Int
  First:List Int
  Second:List Int
  Ranks:List (List Int)
  deriving DecidableEq
instance:Rp fL_ where
  sz:=5
  pos:=by decide
  rd o w cs x:=∃v1 v2 v3,cs=[.int .i64 x.Class,.int .i64 x.Label,v1,v2,v3]∧RdL o w v1 x.First∧RdL o w v2 x.Second∧RdL o w v3 x.Ranks
  len h:=by obtain⟨v1,v2,v3,rfl,h1,h2,h3⟩:=h;rfl
  one h:=by
    obtain⟨v1,v2,v3,rfl,h1,h2,h3⟩:=h
    intro c hc
    simp only[List.mem_cons,List.not_mem_nil,or_false] at hc
    rcases hc with rfl|rfl|rfl|rfl|rfl<;>first|rfl|exact h1.one1|exact h2.one1|exact h3.one1
  mv h hs hb:=by obtain⟨v1,v2,v3,rfl,h1,h2,h3⟩:=h;exact⟨v1,v2,v3,rfl,h1.mv hs hb,h2.mv hs hb,h3.mv hs hb⟩
instance:Rz fL_:=⟨⟨0,0,[],[],[]⟩,[.int .i64 0,.int .i64 0,.slice none 0 0,.slice none 0 0,.slice none 0 0],λo w=>⟨_,_,_,rfl,RdL.nil o w,RdL.nil o w,RdL.nil o w⟩⟩
structure c_ where
  Labels:Int
  Degree:Int
  Nodes:List (List Int)
  Edges:List (List Int)
  deriving DecidableEq
instance:Rp c_ where
  sz:=4
  pos:=by decide
  rd o w cs x:=∃v1 v2,cs=[.int .i64 x.Labels,.int .i64 x.Degree,v1,v2]∧RdL o w v1 x.Nodes∧RdL o w v2 x.Edges
  len h:=by obtain⟨v1,v2,rfl,h1,h2⟩:=h;rfl
  one h:=by
    obtain⟨v1,v2,rfl,h1,h2⟩:=h
    intro c hc
    simp only[List.mem_cons,List.not_mem_nil,or_false] at hc
    rcases hc with rfl|rfl|rfl|rfl<;>first|rfl|exact h1.one1|exact h2.one1
  mv h hs hb:=by obtain⟨v1,v2,rfl,h1,h2⟩:=h;exact⟨v1,v2,rfl,h1.mv hs hb,h2.mv hs hb⟩
instance:Rz c_:=⟨⟨0,0,[],[]⟩,[.int .i64 0,.int .i64 0,.slice none 0 0,.slice none 0 0],λo w=>⟨_,_,rfl,RdL.nil o w,RdL.nil o w⟩⟩
structure oF_ where
  labels:List Int
  period:Int
  residue:List Int
  deriving DecidableEq
instance:Rp oF_ where
  sz:=3
  pos:=by decide
  rd o w cs x:=∃v1 v2,cs=[v1,.int .i64 x.period,v2]∧RdL o w v1 x.labels∧RdL o w v2 x.residue
  len h:=by obtain⟨v1,v2,rfl,h1,h2⟩:=h;rfl
  one h:=by
    obtain⟨v1,v2,rfl,h1,h2⟩:=h
    intro c hc
    simp only[List.mem_cons,List.not_mem_nil,or_false] at hc
    rcases hc with rfl|rfl|rfl<;>first|rfl|exact h1.one1|exact h2.one1
  mv h hs hb:=by obtain⟨v1,v2,rfl,h1,h2⟩:=h;exact⟨v1,v2,rfl,h1.mv hs hb,h2.mv hs hb⟩
instance:Rz oF_:=⟨⟨[],0,[]⟩,[.slice none 0 0,.int .i64 0,.slice none 0 0],λo w=>⟨_,_,rfl,RdL.nil o w,RdL.nil o w⟩⟩
structure to_ where
  Node:Int
  Port:Int
  deriving DecidableEq
instance:Rp to_ where
  sz:=2
  pos:=by decide
  rd o w cs x:=cs=[.int .i64 x.Node,.int .i64 x.Port]
  len h:=by subst h;rfl
  one h:=by subst h;simp[Value.oneCell']
  mv h hs hb:=h
instance:Rz to_:=⟨⟨0,0⟩,[.int .i64 0,.int .i64 0],λo w=>rfl⟩
structure lS_ where
  Ends:List (List to_)
  Ids:List Int
  Inputs:List Int
  deriving DecidableEq
instance:Rp lS_ where
  sz:=3
  pos:=by decide
  rd o w cs x:=∃v1 v2 v3,cs=[v1,v2,v3]∧RdL o w v1 x.Ends∧RdL o w v2 x.Ids∧RdL o w v3 x.Inputs
  len h:=by obtain⟨v1,v2,v3,rfl,h1,h2,h3⟩:=h;rfl
  one h:=by
    obtain⟨v1,v2,v3,rfl,h1,h2,h3⟩:=h
    intro c hc
    simp only[List.mem_cons,List.not_mem_nil,or_false] at hc
    rcases hc with rfl|rfl|rfl<;>first|rfl|exact h1.one1|exact h2.one1|exact h3.one1
  mv h hs hb:=by obtain⟨v1,v2,v3,rfl,h1,h2,h3⟩:=h;exact⟨v1,v2,v3,rfl,h1.mv hs hb,h2.mv hs hb,h3.mv hs hb⟩
instance:Rz lS_:=⟨⟨[],[],[]⟩,[.slice none 0 0,.slice none 0 0,.slice none 0 0],λo w=>⟨_,_,_,rfl,RdL.nil o w,RdL.nil o w,RdL.nil o w⟩⟩
end
end Go.Proofs.YtdbbeldgdgonfaaGreat
