/- Part 17 of what this claim rests on (pack.py). -/
import Derived.Test.YtdbbeldgdgonfaaGreatP14
namespace Go.Proofs.YtdbbeldgdgonfaaGreat
open Tryz renaming prog→wQ_, isAgg22→xb_, underlying22→wV_, isAgg41→xa_, results181→yo_, sizeOf41→wY_, underlying41→wR_, sizeOf3→wS_, isAgg64→zB_, call181→zC_, zeroValue41→xe_, results148→zD_, results180→zE_, results145→zF_
set_option linter.unusedSimpArgs false
set_option linter.unusedVariables false
section
set_option maxRecDepth 100000
set_option maxHeartbeats 2000000
open Go.RowKit
theorem lA_:Inf wQ_ 3 (.int .i64 0) 1 8:=by unfold Inf;kernel_rfl
def aU_(b:Int)(g:List (List Int))(i:(List Int)->Option Bool)(self:Int->(List (List Int))->((List Int)->Option Bool)->(List Int)->Option (Bool×List Int)):Int->Int->(List Int)->Option (Lp (List Int) (List Int) (Bool×List Int)):=λ(j:Int)(c:Int)(s:List Int)=>
  (ix s b)>>=λk=>
  (st s b c)>>=λd=>
  (ck (b+1))>>=λf=>
  (self f g i d)>>=λa=>
  if a.1 then
    some (.ret (true,a.2))
  else
    some (.go a.2)
def an_:Nat->Int->(List (List Int))->((List Int)->Option Bool)->(List Int)->Option (Bool×List Int)
  |0=>λ_ _ _ _=>none
  | fuel+1=>λa b g c=>
    if a==(b.length:Int) then
      (g c)>>=λi=>
      some (i,c)
    else
      (ix b a)>>=λj=>
      (forI (aU_ a b g (an_ fuel)) j 0 c)>>=λd=>
      match d with
      | .inl f=>
        some (false,f)
      | .inr r'=>some r'
def hv_(oo o:Tg)(w a:World)(u:Value)(r:Bool×Yl):Ending->World->Prop:=λe w'=>∃(o':Tg),e=.returned (.bool r.1)∧Ow w.heap.size 3 13 o' w' u r.2∧Bs oo o' w w'∧Stp 13 o a o' w'
theorem ko_(fuel:Nat):∀(w:World)(y:World)(oo o:Tg)(hB:Bs oo o w y)(u:Int)(B:Nat)(G:Value)(H:Yk)(f:Bx w.heap.size 11 o y B 22 [G])(S:RdL zt w G H)(C:Nat)(I:Value)(Q:Yl->Option Bool)(i:Bx w.heap.size 12 o y C 97 [I])(a6:FnV wQ_ w I Q)(m:Nat)(D:Value)(R:Yl)(g:Bx w.heap.size 14 o y m 41 [D])(J:Ow w.heap.size 3 13 o y D R)(q:Nat)(j:Bx w.heap.size 15 o y q 64 [.func (.func 181) #[] #[.pointer (some ⟨B,0,none⟩),.pointer (some ⟨C,0,none⟩),.pointer (some ⟨m,0,none⟩),.pointer (some ⟨q,0,none⟩)]])(r:Bool×Yl)(hF:an_ fuel u H Q R=some r),Calls wQ_ 181 #[.int .i64 u,.pointer (some ⟨B,0,none⟩),.pointer (some ⟨C,0,none⟩),.pointer (some ⟨m,0,none⟩),.pointer (some ⟨q,0,none⟩)] y (hv_ oo o w y D r):=by
 induction fuel with
 |zero=>
  intro w y oo o hB u B G H f S C I Q i a6 m D R g J q j r hF;unfold an_ at hF;cases hF
 | succ fuel ih=>
  intro w y oo o hB u B G H f S C I Q i a6 m D R g J q j r hF;unfold an_ at hF;have hS:Stp 13 o y o y:=Stp.refl _ _ _;refine i_ (n:=34) (vs:=[ZI u,ZP B,ZP C,ZP m,ZP q]) Tryz.func181 rfl rfl ?_;refine Zq (Za rfl (Ze [(0,_),(1,_),(2,_),(3,_),(4,_)] (nx (c_ (Zq (Zm rfl (Zv (e_ rfl xb_ (f.cell rfl)) (Zv (B_ rfl S wV_) (Zv (cD_ rfl rfl) (Ze [(0,_),(1,_),(2,_),(3,_),(4,_),(12,_)] (nx ?_)))))))))));refine l_ rfl (λa7=>?_) (λa7=>?_)
  ·rw[if_pos a7] at hF;refine Zq (Zv (e_ rfl Tryz.isAgg97 (i.cell rfl)) (Zv (e_ rfl xa_ (g.cell rfl)) ?_));obtain⟨c8,a8,hF⟩:=a_ hF;refine Zo ?_;refine ge_ (x:=R) (vs:=[D]) (a6.keep hB.keeps) a8 ⟨_,rfl,J.z⟩ rfl ⟨rfl,trivial⟩ ?_;intro e3 c9;have d0:=c9.stp 999 o;replace hS:=hS.trans (c9.stp 13 o);obtain⟨J,f,i,g,j,hB⟩:=ZS d0 (A6 J f i g j hB);refine Za rfl (Ze [(6,_)] (nx (j_ (y_ ?_))));have d1:=Zj hF;subst d1;refine Zr yo_ [.bool c8] ?_;exact⟨o,rfl,J,hB,hS⟩
  ·replace hF:=ZF a7 hF;refine g_ (nx (c_ (Zq (Zv (e_ rfl xb_ (f.cell rfl)) (Zm rfl ?_)))));obtain⟨A,a9,hF⟩:=a_ hF;refine Zo ?_;refine wf_atZ S a9 hB rfl rfl wV_ wY_ ?_;intro e4 e5 d2 b0 b1;obtain⟨s,rfl,L⟩:=b1;refine Zv (e_ rfl xa_ (k_ b0)) (Zv (B_ rfl L wR_) (Zm rfl (Ze [(0,_),(3,_),(4,_),(19,_),(20,_),(21,_)] (nx ?_))));obtain⟨M,T,hF⟩:=a_ hF;refine v_ (λa c=>∃v b,M=.inl v∧Fr a 34 []∧Bs oo b w c∧Stp 13 o y b c∧Bz w 15 b c q 64 [.func (.func 181) #[] #[ZP B,ZP C,ZP m,ZP q]]∧Bz w 14 b c m 41 [D]∧Oz w 3 13 b c D v∧Bz w 12 b c C 97 [I]∧Bz w 11 b c B 22 [G]) (λa w'=>∃r',M=.inr r'∧bodyPost wQ_ Tryz.f181 (hv_ oo o w y D r') .ret a w') ?_ ?_ ?_
   ·refine f_ ?_;refine w_ (λ(K:Nat) a c=>∃(d:Int),∃v b,forI (aU_ u H Q (an_ fuel)) (A.drop d.toNat) d v=some M∧(A.drop d.toNat).length=K∧0<=d∧Fr a 34 [(0,ZI u),(3,ZP m),(4,ZP q),(19,s),(20,ZI (A.length:Int)),(21,ZI d)]∧Bs oo b w c∧Stp 13 o y b c∧Bz w 15 b c q 64 [.func (.func 181) #[] #[ZP B,ZP C,ZP m,ZP q]]∧Bz w 14 b c m 41 [D]∧Oz w 3 13 b c D v∧Bz w 12 b c C 97 [I]∧Bz w 11 b c B 22 [G]) _ (λa ha=>⟨0,R,o,T,rfl,Int.le_refl 0,ha.sb,hB,hS,j,g,J,i,f⟩) ?_;rintro K24 a c ⟨d,v,b,U,b2,b3,ha,hB,hS,j,g,E,i,f⟩;by_cases F:d<(A.length:Int)
    ·obtain⟨b4,d3,V,k,W⟩:=R_ b3 F U;have hle:=L.len_le;dsimp only[aU_] at k;refine J_ ha ?_;refine Zq (Zv (r_ rfl rfl) (Ze [(0,_),(3,_),(4,_),(19,_),(20,_),(21,_),(22,_)] (nx (c_ ?_))));refine L_ (Zb (decide_eq_true F)) ?_;refine g_ (nx (c_ (f_ (Zq (Zo ?_)))));refine wf_atZ L V hB rfl rfl wR_ wS_ ?_;intro d4 d5 d6 b5 b6;cases b6
     refine Zv (e_ rfl Tryz.isAgg3 (k_ b5)) (Za rfl (Ze [(0,_),(3,_),(4,_),(8,_),(19,_),(20,_),(21,_)] (Zn (Zv (e_ rfl xa_ (g.cell rfl)) (Zm rfl (Zm rfl ?_))))));obtain⟨d7,X,k⟩:=a_ k;refine Zo ?_;refine fC_ E X rfl rfl wR_ wS_ ?_;intro d8 d9 b7 e0 b8;cases b8
     obtain⟨b9,Y,k⟩:=a_ k;refine Z_ trivial ?_;refine cf_ E b7 Y rfl (by decide) rfl rfl rfl wS_ rfl ?_;intro c0 c1 Z;replace hS:=hS.trans Z;obtain⟨f,i,g,j,hB⟩:=ZS Z (A5 f i g j hB);refine Ze [(0,_),(3,_),(4,_),(19,_),(20,_),(21,_)] (Zn (Zv (e_ rfl zB_ (j.cell rfl)) (Zm rfl ?_)));obtain⟨a0,a1,k⟩:=a_ k;refine Zv (C_ rfl rfl a1) ?_;obtain⟨N,a2,k⟩:=a_ k;refine Zo ?_;refine kv_ (vs:=[ZI a0]) (cap:=[ZP B,ZP C,ZP m,ZP q]) (ih w c0 oo b hB a0 B G H f S C I Q i a6 m D b9 g c1 q j N a2) zC_ rfl ⟨rfl,trivial⟩ ?_;rintro e1 e2 ⟨a3,rfl,a4,-,a5⟩;refine⟨_,rfl,?_⟩;replace hS:=hS.trans a5;obtain⟨f,i,g,j,hB⟩:=ZS a5 (A5 f i g j hB);refine Ze [(0,_),(3,_),(4,_),(19,_),(20,_),(21,_),(32,_)] (nx ?_);refine l_ rfl (λO=>?_) (λO=>?_)
     ·rw[if_pos O] at k;refine Zq (Za rfl (Ze [(6,_)] (nx (j_ (W_ (y_ (y_ (W_ ?_))))))));refine bg_ ?_;have c2:=Zj k;subst c2;refine λa ha=>⟨_,W,?_⟩;refine D_ (P:=wQ_) (vs:=[.bool true]) yo_ ⟨rfl,trivial⟩ ?_ a ha;exact⟨a3,rfl,a4,hB,hS⟩
     ·replace k:=ZF O k;refine g_ (x_ (nx (d_ (Zv (C_ rfl rfl (F_ (by omega) (by omega))) (Zm rfl (Ze [(0,_),(3,_),(4,_),(19,_),(20,_),(21,_)] (u_ ?_)))))));have c3:=Zj k;subst c3;refine Zk [(0,_),(3,_),(4,_),(19,_),(20,_),(21,_)] ?_;intro a ha;exact⟨_,(by rw[<-b2];simp only[List.length_drop];omega),d+1,N.2,a3,W,rfl,by omega,ha,hB,hS,j,g,a4,i,f⟩
    ·have c4:=S_ F U;refine J_ ha ?_;refine Zq (Zv (r_ rfl rfl) (Ze [(0,_),(3,_),(4,_),(19,_),(20,_),(21,_),(22,_)] (nx (c_ ?_))));refine G_ (Zb (decide_eq_false F)) ?_;refine s_ ?_;refine n_ (n_ (N_ ?_));refine p_ ?_;refine Zk [] ?_;intro a ha;exact⟨v,b,c4,ha,hB,hS,j,g,E,i,f⟩
   ·rintro a c ⟨v,b,rfl,ha,hB,hS,j,g,E,i,f⟩;dsimp only at hF;refine ap_k ha ?_;refine Zn (Za rfl (Ze [(6,_)] (nx (j_ ?_))));have c5:=Zj hF;subst c5;refine Zr yo_ [.bool false] ?_;exact⟨b,rfl,E,hB,hS⟩
   ·rintro a c ⟨r',rfl,c6⟩;dsimp only at hF;have c7:=Zj hF;subst c7;exact c6
def dl_(fuel:Nat)(c:List (List Int))(d:(List Int)->Option Bool):Option ((List Int)×Bool):=
  (mk (Rz.z:Int) (c.length:Int))>>=λb=>
  (an_ fuel 0 c d b)>>=λa=>
  if !a.1 then
    some ([],false)
  else
    some (a.2,true)
def lK_(oo:Tg)(t:Nat)(w:World)(r:Yl×Bool):Ending->World->Prop:=λe w'=>∃(a:Value)(o':Tg),e=.returned (.tuple #[a,.bool r.2])∧Ow w.heap.size 3 t o' w' a r.1∧Keeps w w'∧∀b,b<w.heap.size->o' b=oo b
theorem iz_(fuel:Nat)(w:World)(oo:Tg)(t:Nat)(ht:2<=t)(s:Value)(D:Yk)(E:RdL zt w s D)(u:Value)(F:Yl->Option Bool)(V:FnV wQ_ w u F)(r:Yl×Bool)(hF:dl_ fuel D F=some r):
    Calls wQ_ 148 #[s,u] w (lK_ oo t w r):=by
 unfold dl_ at hF;have hB:Bs oo (col oo) w w:=Bs.start _ _;refine i_ (n:=16) (vs:=[s,u]) Tryz.func148 rfl rfl ?_;generalize col oo=o at*;refine Zq (Zo ?_);refine as_ (o:=o) w.heap.size 11 hB.keeps.size (cs:=[s]) E.cells1 rfl ?_;intro W a4 k f X;replace hB:=hB.stp X;refine Zo ?_;refine as_ (o:=W) w.heap.size 12 hB.keeps.size (cs:=[u]) V.cells1 rfl ?_;intro Y a5 m g G;obtain⟨f,hB⟩:=ZS G (A2 f hB);refine Za rfl (Za rfl (Ze [(2,_),(3,_)] (Zn (Zv (e_ rfl xb_ (f.cell rfl)) (Zv (B_ rfl E wV_) ?_)))));obtain⟨H,v,hF⟩:=a_ hF;refine Zo ?_;refine hn_ (o:=Y) w.heap.size 13 hB.keeps.size v rfl rfl wR_ lA_ rfl (by decide) ?_;intro I Z i a J;obtain⟨f,g,hB⟩:=ZS J (A3 f g hB);refine Zo ?_;refine av_ (o:=I) w.heap.size 14 hB.keeps.size (cs:=[.slice none 0 0]) xe_ rfl ?_;intro x a0 c K L;obtain⟨a,f,g,hB⟩:=ZS L (A4 a f g hB);refine Z_ trivial ?_;refine bl_ K rfl rfl (of_decide_eq_true rfl) wY_ a.cells1 a.one1 ?_;intro M b N;obtain⟨a,f,g,hB⟩:=ZS N (A4 a f g hB);replace b:Bz w 14 x M c 41 [i]:=b;refine Ze [(2,_),(3,_),(6,_)] (Zn (Zo ?_));refine av_ (o:=x) w.heap.size 15 hB.keeps.size (cs:=[.nilFunc]) Tryz.zeroValue64 rfl ?_;intro y a1 d O P;obtain⟨f,g,b,a,hB⟩:=ZS P (A5 f g b a hB);refine Ze [(2,_),(3,_),(6,_),(7,_)] (Zn (Zv (gU_ (vs:=[ZP k,ZP m,ZP c,ZP d]) ⟨rfl,rfl,rfl,rfl,trivial⟩) ?_));refine Z_ trivial ?_;refine bl_ O rfl rfl (of_decide_eq_true rfl) Tryz.sizeOf64 rfl rfl ?_;intro z j Q;obtain⟨f,g,b,a,hB⟩:=ZS Q (A5 f g b a hB);replace j:Bz w 15 y z d 64 [.func (.func 181) #[] #[ZP k,ZP m,ZP c,ZP d]]:=j;refine Ze [(6,_),(7,_)] (nx (c_ (Zq (Zv (e_ rfl zB_ (j.cell rfl)) ?_))));obtain⟨A,B,hF⟩:=a_ hF;refine Zo ?_;refine kv_ (vs:=[ZI 0]) (cap:=[ZP k,ZP m,ZP c,ZP d]) (ko_ fuel w z oo y hB 0 k s D f E m u F g V c i H b a d j A B) zC_ rfl ⟨rfl,trivial⟩ ?_;rintro a2 a3 ⟨C,rfl,R,-,S⟩;refine⟨_,rfl,?_⟩;obtain⟨b,hB⟩:=ZS S (A2 b hB);refine Zv (aI_ rfl) (Ze [(6,_),(14,_)] (nx ?_));refine l_ rfl (λq=>?_) (λq=>?_)
 ·rw[if_pos q] at hF;refine Zq (Za rfl (Za rfl (Ze [(4,_),(5,_)] (nx (j_ (y_ ?_))))));have T:=Zj hF;subst T;refine Zr zD_ [.slice none 0 0,.bool false] ?_;exact⟨_,rt oo C w.heap.size 9 t,rfl,Ow.nil _ _ _ _ _,hB.keeps,am_ _ _ _ _ _⟩
 ·replace hF:=ZF q hF;refine g_ (Zn (Zv (e_ rfl xa_ (b.cell rfl)) (Za rfl (Za rfl (Ze [(4,_),(5,_)] (nx (j_ ?_)))))));have U:=Zj hF;subst U;refine Zr zD_ [i,.bool true] ?_;exact⟨_,rt oo C w.heap.size 13 t,rfl,R.rt hB (by decide) t,hB.keeps,am_ _ _ _ _ _⟩
end
section
open Go.RowKit
section
variable {P:Program} {n:Nat} {l:List (Nat×Value)} {w w0:World} {o oo:Tg} {d:Nat} {ty:TypeId} {ps:String} {af:Array Edge} {g:Option (Nat×Bool)} {R:Value->World->Prop} {B k:Nat} {e:TypeId}
theorem bH_{d:Option Nat}{x:Operand}{a:Addr}(f:ev l x=some (.pointer (some a))):
  ∀ρ,Agr ρ l->(execOp ρ ⟨d,.nilCheck x,ty,ps,af,g⟩).run P w=.ok (.value (.pointer (some a))) w:=by
 intro ρ b;simp only[execOp,b x _ f,Sem.run_pure]
def mkc(c:Int):Option Unit:=if 0<=c∧c<=1000000000 then some () else none
theorem vo_{c:Int}{u:Unit}(h:mkc c=some u):0<=c∧c<=1000000000:=by
 unfold mkc at h;split at h
 ·assumption
 ·cases h
theorem uE_{α:Type}[Rp α]{t:TypeId}{z:Value}{a:Nat}{x y:Operand}{c:Int}{u:Unit}(B k:Nat)(G:B<=w.heap.size)(D:mkc c=some u)(H:ev l x=some (.int .i64 0))(I:ev l y=some (.int .i64 c))
  (J:P.underlying t=some (.slice e)) (hi:Inf P e z (Rp.sz α) a) (L:a<=1000)
  (h:∀C w' q,Ow B e k C w' q ([]:List α)->Stp k o w C w'->R q w'):op1 P ⟨some d,.makeSlice t x y,ty,ps,af,g⟩ n l w R:=by
 obtain⟨s,F⟩:=vo_ D;obtain⟨E,p,f,j,b⟩:=info_parts hi;obtain⟨c,rfl⟩:∃m:Nat,c=m:=⟨c.toNat,by omega⟩;have i:=run_make (P:=P) w t e E z J p f .i64 .i64 0 (c:Int) (Int.le_refl _) s (by
  rw[b];have:=Int.mul_le_mul (show(a:Int)<=1000 by omega) F s (by omega);omega) (by omega)
 simp only[Int.toNat_zero,Int.toNat_natCast] at i;rw[j] at i;refine M_ (λρ A=>by simp only[execOp,A x _ H,A y _ I,Sem.run_bind,i,Result.andThen_ok];rfl) (h (ext o w.heap.size k) _ _ ⟨[],rfl,?_,λK v=>?_,by simp⟩ (hk_ _ _ _ _ _))
 ·exact World.ownsRow_made w _ c G (by unfold maxLen;omega) (size_madeCells _ _)
 ·simp[Value.ownBlock] at v;subst v;exact jI_ _ _ _ _ (Nat.le_refl _)
theorem Bx.frzP{α:Type}[Rp α]{b:Nat}{cs:List Value}{x:α}(h:Bx B k o w b e cs)(f:Rp.rd o w cs x):RdL (Go.Proofs.YtdbbeldgdgonfaaGreat.frz k o) w (.slice (some ⟨b,0,none⟩) 1 1) [x]:=
 ⟨some ⟨b,0,none⟩,1,rfl,Nat.le_refl _,by decide,λi y a=>by
  cases i with
  |zero=>
   simp at a;subst a;refine⟨b,0,cs,rfl,?_,(Array.getElem?_eq_some_iff.1 h.blk).1,?_,Rp.frz f k⟩
   ·unfold Go.Proofs.YtdbbeldgdgonfaaGreat.frz;rw[h.tag,if_pos rfl]
   ·rw[Nat.zero_mul,Nat.add_zero];exact h.cells
  |succ i=>simp at a⟩
theorem uQ_{α:Type}[Rp α]{b:Nat}{x:α}(h:RdL o w (.slice (some ⟨b,0,none⟩) 1 1) [x]):∃cs,Cells w b 0 cs∧Rp.rd o w cs x:=by
 obtain⟨a,c,e,s,q,m⟩:=h;obtain⟨t,off,cs,i,u,p,f,j⟩:=m 0 x rfl;cases e
 cases i
 rw[Nat.zero_mul,Nat.add_zero] at f;exact⟨cs,f,j⟩
end
end
section
set_option maxRecDepth 100000
set_option maxHeartbeats 2000000
open Go.RowKit Go.Sort Go.Shelf
def growO(n:Int):Option (List Int):=if 0<=n∧n<=1000000000 then some [] else none
theorem rO_(w:World)(oo:Tg)(t:Nat)(n:Int)(r:Yl)(hF:growO n=some r):
    Calls wQ_ 173 #[.slice none 0 0,.int .i64 n] w (λe w'=>∃v o',e=.returned v∧Ow w.heap.size 3 t o' w' v r∧Keeps w w'∧∀b,b<w.heap.size->o' b=oo b):=by
 unfold growO at hF;split at hF;rotate_left
 ·cases hF
 rename_i hl;cases hF
 obtain⟨n,rfl⟩:∃m:Nat,n=m:=⟨n.toNat,by omega⟩;by_cases j:n=0
 ·subst j;refine (Any8.slices_Grow_room Tryz.laysGrow none 0 0 0 w (by omega) (by omega) (by omega) (by omega)).mono ?_;rintro e w' ⟨rfl,rfl⟩;exact⟨_,oo,rfl,⟨[],rfl,World.ownsRow_nil _ _ _ _,λg' hg=>by simp[Value.ownBlock] at hg,by simp⟩,Keeps.refl _,λ_ _=>rfl⟩
 ·obtain⟨c,d,f,g,i⟩:=info_parts (show Inf wQ_ 3 (ZI 0) 1 8 by unfold Inf;kernel_rfl);have hsz:c.size=1:=g;have hby:c.bytes=8:=i;refine (Any8.slices_Grow_grow Tryz.laysGrow c (ZI 0) d f (by omega) none 0 0 n [] w (by omega) (by omega) (by rw[hby];omega) (by omega) (by simp) (λ_=>rfl) (by intro a h;cases h)).mono ?_;rintro e w' ⟨rfl,rfl⟩;have hG:=grownCap_ge w (0+n) 0 3;have hM:=grownCap_le_maxLen w (0+n) 0 3 (by unfold maxLen;omega);have hs:Stp t oo w (ext oo w.heap.size t) (w.drew.alloc (.cells (([]:List Value).toArray++Builtin.zeroCells (Value.int .i64 0).cells (0+n-0)++Builtin.zeroCells (Value.int .i64 0).cells (grownCap w (0+n) 0 3-(0+n))) 3)):=(ks_ oo w t).trans (hk_ oo w.drew _ _ t);refine⟨_,ext oo w.heap.size t,rfl,⟨[],rfl,World.ownsRow_made w.drew _ _ (Nat.le_refl _) hM ?_,λg' hg=>?_,by simp⟩,?_,λb hb=>?_⟩
  ·simp only[Nat.zero_add] at hG;have k:(Value.int IntKind.i64 0).cells.size=1:=rfl;rw[Array.size_append,Array.size_append,size_zeroCells,size_zeroCells,k];simp only[Nat.zero_add,List.size_toArray,List.length_nil,Nat.mul_one,Nat.sub_zero,Rp.sz];exact Nat.add_sub_cancel' hG
  ·simp[Value.ownBlock] at hg;subst hg;exact jI_ _ _ _ _ (Nat.le_refl _)
  ·exact(Keeps.refl w).drew.alloc _
  ·exact lg_ _ _ _ _ hb
end
section
set_option maxRecDepth 100000
set_option maxHeartbeats 2000000
open Go.RowKit
def aL_(d:List (List Int))(f:(List Int)->Option Bool):Int->Unit->Option (Lp Unit Unit Int):=λ(c:Int)(s:Unit)=>
  (ix d c)>>=λa=>
  (f a)>>=λb=>
  if b then
    some (.ret c)
  else
    some (.go ())
def aJ_(a:List (List Int))(b:(List Int)->Option Bool):Option Int:=
  ck (a.length:Int)>>=λ_=>
  (forN (aL_ a b) ((a.length:Int)).toNat 0 ())>>=λc=>
  match c with
  | .inl _=>
    some (-1)
  | .inr r'=>some r'
def dh_(w:World)(r:Int):Ending->World->Prop:=λe w'=>e=.returned (.int .i64 r)∧Keeps w w'
theorem fB_(w:World)(f:Value)(d:Yk)(Q:RdL zt w f d)(g:Value)(v:Yl->Option Bool)(S:FnV wQ_ w g v)(r:Int)(hF:aJ_ d v=some r):
    Calls wQ_ 180 #[f,g] w (dh_ w r):=by
 unfold aJ_ at hF;have hB:Bs (λ_=>1) (col (λ_=>1)) w w:=Bs.start _ _;refine i_ (n:=19) (vs:=[f,g]) Tryz.func180 rfl rfl ?_;refine Zq (Za rfl (Ze [(0,_),(1,_)] (nx (c_ (Zq (Zm rfl (Zv (B_ rfl Q wV_) (Zm rfl (Ze [(0,_),(1,_),(7,_),(8,_)] (nx ?_))))))))));obtain⟨a0,T,hF⟩:=a_ hF;obtain⟨-,h5a,h5b⟩:=bV_ T;obtain⟨y,z,hF⟩:=a_ hF;refine v_ (λa m=>∃(j:Tg),y=.inl ()∧Fr a 19 []∧Bs (λ_=>1) j w m) (λa w'=>∃r',y=.inr r'∧bodyPost wQ_ Tryz.f180 (dh_ w r') .ret a w') ?_ ?_ ?_
 ·refine f_ ?_;refine w_ (λ(K:Nat) a m=>∃(b:Int),∃(j:Tg),forN (aL_ d v) ((d.length:Int)-b).toNat b ()=some y∧((d.length:Int)-b).toNat=K∧0<=b∧Fr a 19 [(0,f),(1,g),(7,ZI (d.length:Int)),(8,ZI b)]∧Bs (λ_=>1) j w m) _ (λa ha=>⟨0,col (λ_=>1),(by rw[Int.sub_zero];exact z),rfl,Int.le_refl 0,ha.sb,hB⟩) ?_;rintro K10 a m ⟨b,j,R,U,a1,ha,hB⟩;by_cases i:b<(d.length:Int)
  ·obtain⟨V,c,q⟩:=bv_ i R;dsimp only[aL_] at c;refine J_ ha ?_;refine Zq (Zv (r_ rfl rfl) (Ze [(0,_),(1,_),(7,_),(8,_),(9,_)] (nx (c_ ?_))));refine L_ (Zb (decide_eq_true i)) ?_;refine g_ (nx (c_ (f_ (Zq (Zm rfl (Za rfl (Ze [(0,_),(1,_),(5,_),(7,_),(8,_)] (Zn (Zm rfl (Zm rfl (Zm rfl ?_)))))))))));obtain⟨A,s,c⟩:=a_ c;refine Zo ?_;refine wf_atZ Q s hB rfl rfl wV_ wY_ ?_;intro W X Y B C;obtain⟨D,rfl,E⟩:=C;refine Zv (e_ rfl xa_ (k_ B)) ?_;obtain⟨F,u,c⟩:=a_ c;refine Zo ?_;refine ge_ (x:=A) (vs:=[D]) (S.keep hB.keeps) u ⟨_,rfl,E.keep hB.keeps⟩ rfl ⟨rfl,trivial⟩ ?_;intro Z G;have H:=G.stp 999 j;replace hB:=hB.stp H;refine Ze [(0,_),(1,_),(5,_),(7,_),(8,_),(16,_)] (nx ?_);refine l_ rfl (λk=>?_) (λk=>?_)
   ·rw[if_pos k] at c;refine Zq (Zm rfl (Za rfl (Ze [(4,_)] (nx (j_ (W_ (y_ (y_ (W_ ?_)))))))));refine bg_ ?_;have I:=Zj c;subst I;refine λa ha=>⟨_,q,?_⟩;refine D_ (P:=wQ_) (vs:=[ZI b]) zE_ ⟨rfl,trivial⟩ ?_ a ha;exact⟨rfl,hB.keeps⟩
   ·replace c:=ZF k c;refine g_ (x_ (nx (d_ (Zv (C_ rfl rfl (F_ (by omega) (by omega))) (Zm rfl (Ze [(0,_),(1,_),(7,_),(8,_)] (u_ ?_)))))));have J:=Zj c;subst J;refine Zk [(0,_),(1,_),(7,_),(8,_)] ?_;intro a ha;exact⟨_,(by rw[<-U];omega),b+1,j,q,rfl,by omega,ha,hB⟩
  ·have L:=bu_ i R;refine J_ ha ?_;refine Zq (Zv (r_ rfl rfl) (Ze [(0,_),(1,_),(7,_),(8,_),(9,_)] (nx (c_ ?_))));refine G_ (Zb (decide_eq_false i)) ?_;refine s_ ?_;refine n_ (n_ (N_ ?_));refine p_ ?_;refine Zk [] ?_;intro a ha;exact⟨j,L,ha,hB⟩
 ·rintro a m ⟨j,rfl,ha,hB⟩;dsimp only at hF;refine ap_k ha ?_;refine Zn (Za rfl (Ze [(4,_)] (nx (j_ ?_))));have M:=Zj hF;subst M;refine Zr zE_ [ZI (-1)] ?_;exact⟨rfl,hB.keeps⟩
 ·rintro a m ⟨r',rfl,N⟩;dsimp only at hF;have O:=Zj hF;subst O;exact N
end
section
open Go.RowKit
theorem RdL.mapx{o:Tg}{w:World}{v:Value}{xs:List Pv}(h:RdL o w v xs):RdL o w v (xs.map λq=>q.x):=by
 obtain⟨a,c,e,p,g,s⟩:=h;refine⟨a,c,by rw[e,List.length_map],by rw[List.length_map];exact p,g,λi x hi=>?_⟩;rw[List.getElem?_map] at hi;obtain⟨q,m,rfl⟩:=Option.map_eq_some_iff.1 hi;obtain⟨b,off,cs,n,k,f,d,j⟩:=s i q m;obtain⟨rfl,u,t⟩:=j;exact⟨b,off,[q.v],n,k,f,d,_,rfl,t⟩
theorem wA_{B k:Nat}{e:TypeId}{o:Tg}{w:World}{v:Value}{xs:List Pv}(h:Ow B e k o w v xs):RdL zt w v (xs.map λq=>q.x):=RdL.mapx h.z
end
section
set_option maxRecDepth 100000
set_option maxHeartbeats 2000000
open Go.RowKit
def O_(i:(List Int)->Option Bool):((List Pv)×Int×Int)->Option (Lp ((List Pv)×Int×Int) ((List Pv)×Int×Int) (List Pv)):=λ(s:(List Pv)×Int×Int)=>
  if decide (s.2.2<(s.1.length:Int)) then
    (ix s.1 s.2.2)>>=λa=>
    (i a.x)>>=λb=>
    if !b then
      (ix s.1 s.2.1)>>=λj=>
      (st s.1 s.2.1 a)>>=λc=>
      (ck (s.2.1+1))>>=λd=>
      (ck (s.2.2+1))>>=λf=>
      some (.go (c,d,f))
    else
      (ck (s.2.2+1))>>=λg=>
      some (.go (s.1,s.2.1,g))
  else
    some (.out (s.1,s.2.1,s.2.2))
def bf_(fuel:Nat)(c:List Pv)(i:(List Int)->Option Bool):Option (List Pv):=
  (aJ_ (c.map λq=>q.x) i)>>=λd=>
  if d==(-1) then
    some c
  else
    (ck (d+1))>>=λj=>
    (loopF (O_ i) fuel (c,d,j))>>=λf=>
    match f with
    | .inl (a,b,k)=>
      (cut a b a.length)>>=λm=>
      (cut a b a.length)>>=λn=>
      (cut a 0 b)>>=λg=>
      some g
    | .inr _=>none
def fe_(oo o:Tg)(w b:World)(r:List Pv):Ending->World->Prop:=λe w'=>∃(a:Value)(o':Tg),e=.returned a∧Ow w.heap.size 41 10 o' w' a r∧Bs oo o' w w'∧Stp 10 o b o' w'
theorem fv_(fuel:Nat)(w y:World)(oo o:Tg)(hB:Bs oo o w y)(hO:∀b,b<y.heap.size->o b≠999)(g:Value)(Z:List Pv)(J:Ow w.heap.size 41 10 o y g Z)(s:Value)(a0:Yl->Option Bool)(c0:FnV wQ_ w s a0)(r:List Pv)(hF:bf_ fuel Z a0=some r):
    Calls wQ_ 145 #[g,s] y (fe_ oo o w y r):=by
 unfold bf_ at hF;have hS:Stp 10 o y o y:=Stp.refl _ _ _;refine i_ (n:=42) (vs:=[g,s]) Tryz.func145 rfl rfl ?_;refine Zq (Za rfl (Ze [(0,_),(1,_)] (Zn (Zm rfl (Zm rfl ?_)))));obtain⟨D,a1,hF⟩:=a_ hF;refine Zo ?_;refine o_ (fB_ y _ (Z.map λq=>q.x) (wA_ J) _ a0 (c0.keep hB.keeps) D a1) Tryz.call180 ⟨rfl,rfl,trivial⟩ ?_;rintro e1 e2 ⟨rfl,c2⟩;have c1:=c2.stp 999 o;refine⟨_,rfl,?_⟩;replace hS:=hS.tr9 hO c1;obtain⟨J,hB⟩:=ZS c1 (A2 J hB);refine Za rfl (Ze [(0,_),(1,_),(5,_)] (nx (c_ (Zq (Zm rfl (Zv (cD_ rfl rfl) (Ze [(0,_),(1,_),(5,_),(12,_)] (nx ?_))))))));refine l_ rfl (λa2=>?_) (λa2=>?_)
 ·rw[if_pos a2] at hF;refine Zq (Zm rfl (Za rfl (Ze [(4,_)] (nx (j_ (y_ ?_))))));have c3:=Zj hF;subst c3;refine Zr zF_ [g] ?_;exact⟨_,o,rfl,J,hB,hS⟩
 ·replace hF:=ZF a2 hF;refine g_ (nx (c_ (Zq (Zm rfl ?_))));obtain⟨a3,a4,hF⟩:=a_ hF;refine Zv (C_ rfl rfl a4) (Za rfl (Ze [(0,_),(1,_),(5,_),(6,_)] (nx ?_)));obtain⟨L,M,hF⟩:=a_ hF;refine v_ (λa m=>∃(k:List Pv)(d:Int)(i:Int),∃(f:Tg),L=.inl (k,d,i)∧Fr a 42 [(0,g),(5,ZI d)]∧Bs oo f w m∧Stp 10 o y f m∧Oz w 41 10 f m g k) (λ_ _=>False) ?_ ?_ ?_
  ·refine f_ ?_;refine w_ (λ(K:Nat) a m=>∃(k:List Pv)(d:Int)(i:Int),∃(f:Tg),loopF (O_ a0) K (k,d,i)=some L∧Fr a 42 [(0,g),(1,s),(5,ZI d),(6,ZI i)]∧Bs oo f w m∧Stp 10 o y f m∧Oz w 41 10 f m g k) fuel (λa ha=>⟨Z,D,a3,o,M,ha.sb,hB,hS,J⟩) ?_;rintro K20 a m ⟨k,d,i,f,a5,ha,hB,hS,j⟩;obtain⟨K24,c4,c5,c,E⟩:=X_ a5;dsimp only[O_] at c;refine J_ ha ?_;refine c_ (Zq (Zm rfl (Zm rfl (Zv (bC_ rfl j wV_) (Zv (r_ rfl rfl) (Ze [(0,_),(1,_),(5,_),(6,_),(19,_)] (nx ?_)))))));refine l_ rfl (λF=>?_) (λF=>?_)
   ·rw[if_pos F] at c;refine g_ (nx (c_ (f_ (Zq (Zm rfl (Zm rfl ?_))))));obtain⟨A,N,c⟩:=a_ c;refine Zo ?_;refine gE_ j N rfl rfl wV_ wY_ ?_;intro c6 c7 c8 a6 a7;obtain⟨rfl,-,u⟩:=a7;refine Zv (e_ rfl xa_ (k_ a6)) (Za rfl (Ze [(0,_),(1,_),(5,_),(6,_),(7,_)] (Zn (Zm rfl (Zm rfl ?_)))));obtain⟨a8,O,c⟩:=a_ c;refine Zo ?_;refine ge_ (x:=A.x) (vs:=[A.v]) (c0.keep hB.keeps) O ⟨_,rfl,u.z⟩ rfl ⟨rfl,trivial⟩ ?_;intro c9 P;have a9:=P.stp 999 f;replace hS:=hS.trans (P.stp 10 f);obtain⟨j,u,hB⟩:=ZS a9 (A3 j u hB);refine Zv (aI_ rfl) (Ze [(0,_),(1,_),(5,_),(6,_),(7,_),(29,_)] (nx ?_));refine l_ rfl (λG=>?_) (λG=>?_)
    ·rw[if_pos G] at c;refine Zq (Zm rfl (Zm rfl (Zm rfl ?_)));obtain⟨d0,Q,c⟩:=a_ c;refine Zo ?_;refine fC_ j Q rfl rfl wV_ wY_ ?_;intro d1 d2 b0 d3 b1;obtain⟨rfl,-,d4⟩:=b1;obtain⟨b2,R,c⟩:=a_ c;refine Z_ trivial ?_;refine cf_ j b0 R (uO_ u) (by decide) rfl rfl rfl wY_ u.cells1 ?_;intro d5 b3 S;replace hS:=hS.trans S;replace hB:=hB.stp S;refine Ze [(0,_),(1,_),(5,_),(6,_)] (nx (d_ (Zm rfl ?_)));obtain⟨B,T,c⟩:=a_ c;refine Zv (C_ rfl rfl T) (Za rfl (Ze [(0,_),(1,_),(5,_),(6,_)] (x_ (nx (d_ (Zm rfl ?_))))));obtain⟨H,U,c⟩:=a_ c;refine Zv (C_ rfl rfl U) (Za rfl (Ze [(0,_),(1,_),(5,_),(6,_)] (u_ ?_)));have b4:=Zj c;subst b4;refine Zk [(0,_),(1,_),(5,_),(6,_)] ?_;intro a ha;exact⟨K24,by omega,b2,B,H,f,E,ha,hB,hS,b3⟩
    ·replace c:=ZF G c;refine g_ (x_ (nx (d_ (Zm rfl ?_))));obtain⟨I,V,c⟩:=a_ c;refine Zv (C_ rfl rfl V) (Za rfl (Ze [(0,_),(1,_),(5,_),(6,_)] (u_ ?_)));have b5:=Zj c;subst b5;refine Zk [(0,_),(1,_),(5,_),(6,_)] ?_;intro a ha;exact⟨K24,by omega,k,d,I,f,E,ha,hB,hS,j⟩
   ·replace c:=ZF F c;refine s_ ?_;refine n_ (n_ (N_ ?_));refine p_ ?_;have b6:=Zj c;subst b6;refine Zk [(0,_),(5,_)] ?_;intro a ha;exact⟨k,d,i,f,E,ha,hB,hS,j⟩
  ·rintro a m ⟨k,d,i,f,rfl,ha,hB,hS,j⟩;dsimp only at hF;refine ap_k ha ?_;refine Zn (Zm rfl (Zm rfl ?_));obtain⟨d6,W,hF⟩:=a_ hF;refine Zo ?_;refine lp_ j W rfl rfl wV_ wY_ ?_;obtain⟨d7,X,hF⟩:=a_ hF;obtain⟨d8,C,hF⟩:=a_ hF;have b7:=rh_ j C;refine Z_ trivial ?_;refine kP_ j X C (by decide) rfl wV_ xe_ ?_;intro d9 e0 b8 Y;replace hS:=hS.trans Y;replace hB:=hB.stp Y;refine Ze [(0,_),(5,_)] (Zn (Zm rfl (Zm rfl (Zv (ok_ b7 rfl rfl wV_ wY_) (Za rfl (Ze [(4,_)] (nx (j_ ?_))))))));have b9:=Zj hF;subst b9;refine Zr zF_ [prev g d.toNat] ?_;exact⟨_,f,rfl,b8,hB,hS⟩
  ·exact λ_ _ h=>h.elim
end
section
theorem sb{α β:Type}(x:α)(f:α->Option β):(some x>>=f)=f x:=rfl
def firstP{α ρ:Type}(p:Nat->α->Option ρ):List α->Nat->Option ρ
  |[],_=>none
  | x::xs,k=>match p k x with
    |some r=>some r
    |none=>firstP p xs (k+1)
def outP{ρ:Type}:Option ρ->Unit ⊕ ρ
  |some r=> .inr r
  |none=> .inl ()
def lpP{ρ:Type}:Option ρ->Lp Unit Unit ρ
  |some r=> .ret r
  |none=> .go ()
theorem mu_{α ρ:Type}{body:Int->α->Unit->Option (Lp Unit Unit ρ)}(p:Nat->α->Option ρ):∀(xs:List α)(k:Nat),
  (∀(j:Nat) x,xs[j]? =some x->(∀(i:Nat) y,i<j->xs[i]? =some y->p (k+i) y=none)->body ((k+j:Nat):Int) x ()=some (lpP (p (k+j) x)))->
  forI body xs (k:Int) ()=some (outP (firstP p xs k))
 |[],k,_=>rfl
 | x::xs,k,h=>by
  have d:=h 0 x rfl (λi y hi=>by omega);simp only[Nat.add_zero] at d;simp only[forI,d,firstP];cases f:p k x with
  |some r=>rfl
  | none=>
   simp only[lpP];have:=mu_ p xs (k+1) (λj y e a=>by
    have:=h (j+1) y (by simpa using e) (λi z hi b=>by
     cases i with
     |zero=>simp at b;subst b;simpa using f
     |succ i=>rw[show k+(i+1)=k+1+i by omega];exact a i z (by omega) (by simpa using b))
    rw[show k+1+j=k+(j+1) by omega];exact this)
   rw[show((k:Int)+1)=((k+1:Nat):Int) by omega];exact this
theorem dF_{α ρ:Type}{body:Int->α->Unit->Option (Lp Unit Unit ρ)}(p:Nat->α->Option ρ)(xs:List α)
  (h:∀(j:Nat) x,xs[j]? =some x->(∀(i:Nat) y,i<j->xs[i]? =some y->p i y=none)->body (j:Int) x ()=some (lpP (p j x))):forI body xs 0 ()=some (outP (firstP p xs 0)):=by
 have:=mu_ p xs 0 (λj x b a=>by simp only[Nat.zero_add] at a ⊢;exact h j x b a);exact this
theorem hq_{α ρ:Type}{body:Int->Unit->Option (Lp Unit Unit ρ)}(p:Nat->α->Option ρ)(xs:List α)
  (h:∀(j:Nat) x,xs[j]? =some x->(∀(i:Nat) y,i<j->xs[i]? =some y->p i y=none)->body (j:Int) ()=some (lpP (p j x))):forN body xs.length 0 ()=some (outP (firstP p xs 0)):=by
 have f:∀(b:List α)(k:Nat),b=xs.drop k->(∀(i:Nat) y,i<k->xs[i]? =some y->p i y=none)->forN body b.length (k:Int) ()=some (outP (firstP p b k)):=by
  intro b
  induction b with
  |nil=>intro k _ _;rfl
  | cons y b ih=>
   intro k o a;have n:xs[k]? =some y:=by
    have m:(xs.drop k)[0]? =some y:=by rw[<-o];rfl
    rw[List.getElem?_drop] at m;simpa using m
   have g:b=xs.drop (k+1):=by rw[<-List.drop_drop,<-o];rfl
   have q:=h k y n a;simp only[List.length_cons,forN,q,firstP];cases s:p k y with
   |some r=>rfl
   |none=>
    simp only[lpP];rw[show((k:Int)+1)=((k+1:Nat):Int) by omega];refine ih (k+1) g λi z hi d=>?_;by_cases e:i=k
    ·subst e;rw[n] at d;cases d;exact s
    ·exact a i z (by omega) d
 exact f xs 0 (by simp) (λi y hi=>by omega)
theorem df_{α ρ:Type}{p:Nat->α->Option ρ}:∀{xs:List α}{k:Nat},firstP p xs k=none<->∀(j:Nat) x,xs[j]? =some x->p (k+j) x=none
 |[],k=>by simp[firstP]
 | x::xs,k=>by
  simp only[firstP];cases b:p k x with
  |some r=>
   simp only[reduceCtorEq,false_iff];intro h;have:=h 0 x rfl;rw[Nat.add_zero,b] at this;cases this
  | none=>
   simp only
   rw[df_];constructor
   ·intro h j y a;cases j with
    |zero=>simp at a;subst a;simpa using b
    |succ j=>rw[show k+(j+1)=k+1+j by omega];exact h j y (by simpa using a)
   ·intro h j y a;rw[show k+1+j=k+(j+1) by omega];exact h (j+1) y (by simpa using a)
theorem mh_{α:Type}{p:α->Bool}{b:Bool}:∀{xs:List α}{k:Nat},firstP (λ_ x=>if p x then none else some b) xs k=if xs.all p then none else some b
 |[],k=>rfl
 |x::xs,k=>by
  simp only[firstP,List.all_cons];by_cases a:p x=true
  ·rw[if_pos a];simp only[a,Bool.true_and];exact mh_
  ·rw[if_neg a];simp[a]
theorem dI_{α ρ:Type}{p:Nat->α->Option ρ}{r:ρ}:∀{xs:List α}{k:Nat},firstP p xs k=some r->∃(j:Nat)(x:α),xs[j]? =some x∧p (k+j) x=some r
 |[],k,h=>by simp[firstP] at h
 | x::xs,k,h=>by
  simp only[firstP] at h;cases a:p k x with
  |some e=>rw[a] at h;cases h;exact⟨0,x,rfl,by simpa using a⟩
  |none=>
   rw[a] at h;obtain⟨j,y,d,b⟩:=dI_ h;exact⟨j+1,y,by simpa using d,by rw[show k+(j+1)=k+1+j by omega];exact b⟩
theorem aY_{α:Type}(xs:List α)(k:Nat):ix xs (k:Int)=xs[k]? :=by
 unfold ix;rw[if_pos (by omega)];simp
theorem hg_{α:Type}[Inhabited α](xs:List α)(k:Nat)(h:k<xs.length):ix xs (k:Int)=some xs[k]:=by rw[aY_,List.getElem?_eq_getElem h]
theorem uz_{α:Type}(xs:List α)(h:1<=xs.length):cut xs 1 xs.length=some xs.tail:=by
 unfold cut;rw[if_pos ⟨by omega,by omega,by omega⟩];simp
theorem wo_{α:Type}(xs:List α):cut xs 0 xs.length=some xs:=by
 unfold cut;rw[if_pos ⟨by omega,by omega,by omega⟩];simp
theorem iJ_{α:Type}(xs:List α)(h:xs.length<=1000000000):cat [] xs=some xs:=by
 unfold cat
 rw[if_pos (by simpa using h)];simp
theorem iM_{α:Type}(xs:List α)(k:Nat)(x:α)(h:k<xs.length):st xs (k:Int) x=some (xs.set k x):=by
 unfold st;rw[if_pos ⟨by omega,by omega⟩];simp
end
section
theorem oG_(a b c:Int):hl_ a b c=some (decide (b<=a)&&decide (a<=c)):=by
 unfold hl_;by_cases h:a>=b
 ·simp[h,show b<=a from h]
 ·simp[h,show ¬b<=a from h]
theorem ii_(a b c:Int):dT_ a b c=some (decide (b<=a)&&decide (a<=c)):=by
 unfold dT_;by_cases h:b<=a<;>simp[h]
def inB(b c a:Int):Bool:=decide (b<=a)&&decide (a<=c)
theorem vN_(xs:List Int)(b c:Int):iS_ xs b c=some (xs.all (inB b c)):=by
 unfold iS_;rw[dF_ (λ_ x=>if inB b c x then none else some false) xs (λj x a _=>by
  unfold hr_;rw[oG_,sb];cases h:inB b c x<;>simp only[inB] at h<;>simp[h,lpP,inB]),mh_,sb]
 cases xs.all (inB b c)<;>rfl
theorem pT_(xs:List Int)(f:Int->Option Bool)(g:Int->Bool)(b:∀x,x∈xs->f x=some (g x))(d:xs.length<=1000000000):
  aS_ xs f=some ((firstP (λk x=>if g x then some (k:Int) else none) xs 0).getD (-1)):=by
 unfold aS_;rw[F_ (by omega) (by omega),sb];simp only[Int.toNat_natCast];rw[hq_ (λk x=>if g x then some (k:Int) else none) xs (λj x a _=>by
  unfold be_;rw[aY_,a,sb,b x (List.mem_of_getElem? a),sb];cases h:g x<;>simp[h,lpP]),sb]
 cases firstP (λk x=>if g x then some (k:Int) else none) xs 0<;>rfl
theorem lP_(xs:List Int)(f:Int->Option Bool)(g:Int->Bool)(i:∀x,x∈xs->f x=some (g x))(m:xs.length<=1000000000):
  aD_ xs f=some (xs.any g):=by
 unfold aD_;rw[pT_ xs f g i m,sb];cases h:firstP (λk x=>if g x then some (k:Int) else none) xs 0 with
 | some r=>
  obtain⟨j,x,o,a⟩:=dI_ h;have e:g x=true:=by
   cases b:g x with
   |true=>rfl
   |false=>rw[b] at a;cases a
  have d:xs.any g=true:=List.any_eq_true.2 ⟨x,List.mem_of_getElem? o,e⟩;rw[e,if_pos rfl] at a;cases a
  rw[d];simp
 | none=>
  have d:xs.any g=false:=by
   rw[List.any_eq_false];intro x p b;obtain⟨j,n⟩:=List.mem_iff_getElem?.1 p;have:=df_.1 h j x n;rw[b] at this;simp at this
  rw[d];simp
theorem pO_(xs:List Int)(b c:Int)(a:xs.length<=1000000000):fm_ xs b c=some (xs.all (inB b c)):=by
 unfold fm_;rw[lP_ xs _ (λx=> !inB b c x) (λx _=>by unfold dn_;rw[ii_,sb];rfl) a,sb];congr 1;rw[List.not_any_eq_all_not];simp
theorem wM_(a b:Int):bx_ a b=some (if a<b then -1 else if a>b then 1 else 0):=by
 unfold bx_ aX_;simp only[sb,bne_self_eq_false,Bool.false_eq_true,if_false];by_cases h:a<b
 ·simp[h]
 ·by_cases d:a>b<;>simp[h,d]
theorem vu_(a b:Int):cM_ a b=some (decide (a<b)):=by
 unfold cM_ aX_;simp[sb]
def sortB:List Int->Bool
  |a::b::r=>decide (a<=b)&&sortB (b::r)
  |_=>true
theorem gH_:∀{xs:List Int},sortB xs=true<->∀(k:Nat) a b,xs[k]? =some a->xs[k+1]? =some b->a<=b
 |[]=>by simp[sortB]
 |[a]=>by simp[sortB]
 | a::b::r=>by
  simp only[sortB,Bool.and_eq_true,decide_eq_true_eq];rw[gH_];constructor
  ·rintro⟨g,f⟩ k x y e d;cases k with
   |zero=>simp at e d;subst e;subst d;exact g
   |succ k=>exact f k x y (by simpa using e) (by simpa using d)
  ·intro h;exact⟨h 0 a b rfl rfl,λk x y e d=>h (k+1) x y (by simpa using e) (by simpa using d)⟩
theorem ni_(xs:List Int)(o:xs.length<=1000000000)(e:Nat):∀(k:Nat),k<e->k<xs.length->
  loopF (Y_ xs) e (k:Int)=some (if sortB (xs.take (k+1)) then .inl 0 else .inr false):=by
 induction e with
 |zero=>intro k h;omega
 | succ e ih=>
  intro k p i;cases k with
  | zero=>
   have m:Y_ xs ((0:Nat):Int)=some (.out 0):=by unfold Y_;simp
   have:sortB (xs.take 1)=true:=by
    cases xs with
    |nil=>simp at i
    |cons a r=>simp[sortB]
   simp only[loopF,m,this,Nat.zero_add,if_true]
  | succ k=>
   have m:Y_ xs ((k+1:Nat):Int)=some (if xs[k+1]<xs[k]'(by omega) then .ret false else .go (k:Int)):=by
    unfold Y_;rw[if_pos (by rw[decide_eq_true_eq];omega)];rw[hg_ _ _ i,sb,F_ (by omega) (by omega),sb,show(((k+1:Nat):Int)-1)=(k:Int) by omega,hg_ _ _ (by omega),sb,vu_,sb];by_cases d:xs[k+1]<xs[k]'(by omega)
    ·rw[if_pos (by rw[decide_eq_true_eq];exact d),if_pos d]
    ·rw[if_neg (by rw[decide_eq_true_eq];exact d),if_neg d];first|rfl|(rw[F_ (by omega) (by omega),sb,show(((k+1:Nat):Int)-1)=(k:Int) by omega])
   simp only[loopF,m];by_cases d:xs[k+1]<xs[k]'(by omega)
   ·have:sortB (xs.take (k+1+1))=false:=by
     rw[Bool.eq_false_iff];intro h;have:=gH_.1 h k (xs[k]'(by omega)) xs[k+1] (by simp[List.getElem?_take,show k<k+1+1 by omega]) (by simp[List.getElem?_take]);omega
    simp[d,this]
   ·rw[if_neg d];simp only
    rw[ih k (by omega) (by omega)];have:sortB (xs.take (k+1+1))=sortB (xs.take (k+1)):=by
     rw[Bool.eq_iff_iff,gH_,gH_];constructor
     ·intro h j a b g f;rw[List.getElem?_take] at g f;split at f
      ·rename_i n;refine h j a b ?_ ?_
       ·rw[List.getElem?_take,if_pos (by omega)];rw[if_pos (by omega)] at g;exact g
       ·rw[List.getElem?_take,if_pos (by omega)];exact f
      ·cases f
     ·intro h j a b g f;rw[List.getElem?_take] at g f;by_cases n:j=k
      ·subst n;rw[if_pos (by omega),List.getElem?_eq_getElem (by omega)] at g f;cases g;cases f;omega
      ·split at f
       ·refine h j a b ?_ ?_
        ·rw[List.getElem?_take,if_pos (by omega)];rw[if_pos (by omega)] at g;exact g
        ·rw[List.getElem?_take,if_pos (by omega)];exact f
       ·cases f
    rw[this]
theorem rU_(xs:List Int)(b:Nat)(d:xs.length<b)(e:xs.length<=1000000000):bd_ b xs=some (sortB xs):=by
 unfold bd_;rw[F_ (by omega) (by omega),sb];cases xs with
 |nil=>
  cases b with
  |zero=>simp at d
  |succ b=>simp[loopF,Y_,sortB]
 |cons a r=>
  have:=ni_ (a::r) e b r.length (by simp at d;omega) (by simp);rw[show(((a::r).length:Int)-1)=(r.length:Int) by simp,this,sb];rw[List.take_of_length_le (by simp)];cases sortB (a::r)<;>rfl
end
section
theorem ps_(xs:List (List Int))(f:List Int->Option Bool)(g:List Int->Bool)(b:∀x,x∈xs->f x=some (g x))(d:xs.length<=1000000000):
  aJ_ xs f=some ((firstP (λk x=>if g x then some (k:Int) else none) xs 0).getD (-1)):=by
 unfold aJ_;rw[F_ (by omega) (by omega),sb];simp only[Int.toNat_natCast];rw[hq_ (λk x=>if g x then some (k:Int) else none) xs (λj x a _=>by
  unfold aL_;rw[aY_,a,sb,b x (List.mem_of_getElem? a),sb];cases h:g x<;>simp[h,lpP]),sb]
 cases firstP (λk x=>if g x then some (k:Int) else none) xs 0<;>rfl
end
section
open Go.RowKit
theorem nc_(ps:List Pv)(G:List Int->Option Bool)(g:List Int->Bool)(t:∀p∈ps,G p.x=some (g p.x))(C:ps.length<=1000000000):∀(d j i a:Nat)(L:List Pv),j+d=ps.length->d<a->L.length=ps.length->i<=j->
  L.take i=(ps.take j).filter (λp=> !g p.x)->L.drop j=ps.drop j->
  ∃(k:List Pv)(e:Nat),loopF (O_ G) a (L,(i:Int),(j:Int))=some (.inl (k,(e:Int),(ps.length:Int)))∧k.length=ps.length∧e<=ps.length∧k.take e=ps.filter (λp=> !g p.x)
 | 0,j,i,a,L,J,I,v,hi,y,B=>by
  obtain⟨a,rfl⟩:∃q,a=q+1:=⟨a-1,by omega⟩;have n:O_ G (L,(i:Int),(j:Int))=some (.out (L,(i:Int),(j:Int))):=by
   unfold O_;simp only
   rw[if_neg (by simp;omega)]
  refine⟨L,i,?_,v,by omega,?_⟩
  ·simp only[loopF,n];rw[show j=ps.length by omega]
  ·rw[y,List.take_of_length_le (by omega)]
 | d+1,j,i,a,L,J,I,v,hi,y,B=>by
  obtain⟨a,rfl⟩:∃q,a=q+1:=⟨a-1,by omega⟩;have b:j<ps.length:=by omega
  have H:L[j]? =some ps[j]:=by
   have f:=congrArg (λl=>l[0]?) B;simp only[List.getElem?_drop,Nat.add_zero] at f;rw[f,List.getElem?_eq_getElem b]
  have m:L.drop (j+1)=ps.drop (j+1):=by
   have f:=congrArg (List.drop 1) B;rw[List.drop_drop,List.drop_drop] at f;exact f
  have s:(ps.take (j+1)).filter (λp=> !g p.x)=(ps.take j).filter (λp=> !g p.x)++(if g ps[j].x then [] else [ps[j]]):=by
   rw[List.take_add_one,List.filter_append,List.getElem?_eq_getElem b];cases h:g ps[j].x<;>simp[h]
  have o:ix L (j:Int)=some ps[j]:=by unfold ix;rw[if_pos (by omega),Int.toNat_natCast,H]
  cases u:g ps[j].x
  ·have n:O_ G (L,(i:Int),(j:Int))=some (.go (L.set i ps[j],((i+1:Nat):Int),((j+1:Nat):Int))):=by
    unfold O_;simp only
    rw[if_pos (by simp;omega),o,sb,t _ (List.getElem_mem b),sb,u,if_pos (by simp)];have f:ix L (i:Int)=some (L[i]'(by omega)):=by unfold ix;rw[if_pos (by omega),Int.toNat_natCast,List.getElem?_eq_getElem]
    have E:st L (i:Int) ps[j]=some (L.set i ps[j]):=by unfold st;rw[if_pos (by omega),Int.toNat_natCast]
    rw[f,sb,E,sb,F_ (by omega) (by omega),sb,F_ (by omega) (by omega),sb];rfl
   have:=nc_ ps G g t C d (j+1) (i+1) a (L.set i ps[j]) (by omega) (by omega) (by rw[List.length_set];exact v) (by omega) (by
    rw[s,u,<-y,List.take_set,List.take_add_one,List.getElem?_eq_getElem (show i<L.length by omega)];refine List.ext_getElem? λq=>?_;rw[List.getElem?_set];by_cases D:i=q
    ·subst D;have:(L.take i).length=i:=by rw[List.length_take];omega
     rw[if_pos rfl,if_pos (by simp;omega),List.getElem?_append_right (by omega),this];simp
    ·rw[if_neg D];by_cases F:q<i
     ·rw[List.getElem?_append_left (by rw[List.length_take];omega),List.getElem?_append_left (by rw[List.length_take];omega)]
     ·rw[List.getElem?_eq_none (by simp;omega),List.getElem?_eq_none (by simp;omega)]) (by
    rw[List.drop_set_of_lt (by omega)];exact m)
   obtain⟨k,e,w,A⟩:=this;exact⟨k,e,by simp only[loopF,n];exact w,A⟩
  ·have n:O_ G (L,(i:Int),(j:Int))=some (.go (L,(i:Int),((j+1:Nat):Int))):=by
    unfold O_;simp only
    rw[if_pos (by simp;omega),o,sb,t _ (List.getElem_mem b),sb,u,if_neg (by simp),F_ (by omega) (by omega),sb];rfl
   have:=nc_ ps G g t C d (j+1) i a L (by omega) (by omega) v (by omega) (by rw[s,u,y];simp) m;obtain⟨k,e,w,A⟩:=this;exact⟨k,e,by simp only[loopF,n];exact w,A⟩
theorem wO_(a:Nat)(ps:List Pv)(G:List Int->Option Bool)(g:List Int->Bool)(w:∀p∈ps,G p.x=some (g p.x))(A:ps.length<=1000000000)(L:ps.length<a):bf_ a ps G=some (ps.filter λp=> !g p.x):=by
 unfold bf_;rw[ps_ (ps.map λq=>q.x) G g (λx K=>by
  obtain⟨p,b,rfl⟩:=List.mem_map.1 K;exact w p b) (by rw[List.length_map];exact A),sb]
 cases D:firstP (λk x=>if g x then some (k:Int) else none) (ps.map λq=>q.x) 0 with
 |none=>
  have n:=df_.1 D;rw[Option.getD_none,if_pos (by rfl)];congr 1;refine (List.filter_eq_self.2 λp b=>?_).symm;obtain⟨j,M⟩:=List.getElem?_of_mem b;have:=n j p.x (by rw[List.getElem?_map,M];rfl);cases h:g p.x
  ·rfl
  ·rw[h] at this;simp at this
 | some r=>
  have t:∃k:Nat,r=(k:Int)∧k<ps.length∧∀(i:Nat) p,i<k->ps[i]? =some p->g p.x=false:=by
   clear w A L;have F:∀(xs:List Pv)(k:Nat)(r:Int),firstP (λk x=>if g x then some (k:Int) else none) (xs.map λq=>q.x) k=some r->∃m:Nat,r=((k+m:Nat):Int)∧m<xs.length∧∀(i:Nat) p,i<m->xs[i]? =some p->g p.x=false:=by
    intro xs
    induction xs with
    |nil=>intro k r h;cases h
    | cons x xs ih=>
     intro k r h;simp only[List.map_cons,firstP] at h;cases o:g x.x
     ·rw[o] at h;simp only[Bool.false_eq_true,if_false] at h;obtain⟨m,f,d,B⟩:=ih (k+1) r h;refine⟨m+1,by rw[f];congr 1;omega,by rw[List.length_cons];omega,λi p hi b=>?_⟩;cases i with
      |zero=>simp at b;subst b;exact o
      |succ i=>exact B i p (by omega) (by simpa using b)
     ·rw[o] at h;simp only[if_true,Option.some.injEq] at h;exact⟨0,by rw[<-h];rfl,by simp,λi p hi=>absurd hi (by omega)⟩
   obtain⟨m,f,d,B⟩:=F ps 0 r D;exact⟨m,by rw[f,Nat.zero_add],d,B⟩
  obtain⟨k,rfl,H,E⟩:=t;have C:g ps[k].x=true:=by
   obtain⟨j,x,f,d⟩:=dI_ D;rw[Nat.zero_add] at d;split at d
   ·rename_i o;cases d
    rw[List.getElem?_map,List.getElem?_eq_getElem H] at f;cases f
    exact o
   ·cases d
  have s:(ps.take k).filter (λp=> !g p.x)=ps.take k:=List.filter_eq_self.2 λp b=>by
   obtain⟨i,hi⟩:=List.getElem?_of_mem b;rw[List.getElem?_take] at hi;split at hi
   ·rename_i y;rw[E i p y hi];rfl
   ·cases hi
  have e:(ps.take (k+1)).filter (λp=> !g p.x)=ps.take k:=by
   rw[List.take_add_one,List.filter_append,s,List.getElem?_eq_getElem H];simp[C]
  obtain⟨u,v,I,R,Q,J⟩:=nc_ ps G g w A (ps.length-(k+1)) (k+1) k a ps (by omega) (by omega) rfl (by omega) e.symm rfl;rw[Option.getD_some,if_neg (by simp),F_ (by omega) (by omega),sb,show((k:Int)+1)=((k+1:Nat):Int) by omega,I,sb];have N:cut u (v:Int) u.length=some (u.drop v):=by
   unfold cut;rw[if_pos (by omega)];simp
  have O:cut u 0 (v:Int)=some (u.take v):=by
   unfold cut;rw[if_pos (by omega)];simp
  simp only
  rw[N,sb,sb,O,sb,J]
def delL(G:List Int->Option Bool)(xs:List (List Int)):Option (List (List Int)):=if(decide (xs.length<=1000000000)&&xs.all λx=>(G x).isSome)=true then some (xs.filter λx=>(G x).getD true==false) else none
def apD(a b:Pv):Prop:=∀g,a.v.ownBlock=some g->b.v.ownBlock≠some g
def sl3(w:World)(G:Nat):World:={w with heap:=w.heap.extract 0 G}
set_option maxRecDepth 100000 in
set_option maxHeartbeats 2000000 in
theorem vl_{k L:Nat}{o:Tg}{s w:World}{v u:Value}{vs:List Hv}{xs ys:List (List Int)}{G:List Int->Option Bool}(h:Ow s.heap.size 41 k o w v vs)(hr:Rws s.heap.size 3 L o w vs xs)(C:Keeps s w)(hfn:FnV wQ_ s u G)(hk:k≠0)(hkr:L≠0)(hne:L≠k)(hF:delL G xs=some ys):
  Calls wQ_ 145 #[v,u] w λe w'=>∃v' vs' X,e=.returned v'∧Ow s.heap.size 41 k X w' v' vs'∧Rws s.heap.size 3 L X w' vs' ys∧Stp k o w X w':=by
 unfold delL at hF;split at hF
 rotate_left
 ·cases hF
 rename_i H;rw[Bool.and_eq_true,decide_eq_true_eq,List.all_eq_true] at H;obtain⟨hl,V⟩:=H;cases hF
 have hB:s.heap.size<=w.heap.size:=C.size
 -- the rows under their values
 obtain⟨r1,r2,r3⟩:=hr;let ps:List Pv:=List.zipWith (λu x=>(⟨u.v,x⟩:Pv)) vs xs
 have Z:ps.length=xs.length:=by show(List.zipWith _ vs xs).length=_;rw[List.length_zipWith,r1,Nat.min_self]
 have hpi:∀(i:Nat)(u:Hv)(x:List Int),vs[i]? =some u->xs[i]? =some x->ps[i]? =some (⟨u.v,x⟩:Pv):=λi u x a b=>by
  show(List.zipWith _ vs xs)[i]? =_;rw[List.getElem?_zipWith,a,b]
 have hpx:ps.map (·.x)=xs:=by
  apply List.ext_getElem?;intro i;by_cases hi:i<xs.length
  ·rw[List.getElem?_map,hpi i (vs[i]'(by omega)) xs[i] (List.getElem?_eq_getElem (by omega)) (List.getElem?_eq_getElem hi),List.getElem?_eq_getElem hi];rfl
  ·rw[List.getElem?_eq_none (by rw[List.length_map,Z];omega),List.getElem?_eq_none (by omega)]
 have J:∀(i:Nat)(p:Pv),ps[i]? =some p->vs[i]? =some (⟨p.v⟩:Hv)∧xs[i]? =some p.x:=λi p d=>by
  have hi:i<xs.length:=by have:=(List.getElem?_eq_some_iff.1 d).1;omega
  have:=hpi i (vs[i]'(by omega)) xs[i] (List.getElem?_eq_getElem (by omega)) (List.getElem?_eq_getElem hi);rw[d] at this;cases this
  exact⟨List.getElem?_eq_getElem (by omega),List.getElem?_eq_getElem hi⟩
 have O:∀p∈ps,Ow s.heap.size 3 L o w p.v p.x:=λp d=>by
  obtain⟨i,hi⟩:=List.getElem?_of_mem d;obtain⟨a,b⟩:=J i p hi;exact r2 i ⟨p.v⟩ p.x a b
 have hpin:∀p∈ps,p.x∈xs:=λp d=>by rw[<-hpx];exact List.mem_map.2 ⟨p,d,rfl⟩
 have hG:∀p∈ps,G p.x=some ((G p.x).getD true):=λp d=>by
  have:=V p.x (hpin p d);cases R:G p.x with
  |none=>rw[R] at this;cases this
  |some b=>rfl
 have hap:ps.Pairwise apD:=by
  rw[List.pairwise_iff_getElem];intro i j hi hj hij g h1 h2;obtain⟨a1,b1⟩:=J i _ (List.getElem?_eq_getElem hi);obtain⟨a2,b2⟩:=J j _ (List.getElem?_eq_getElem hj);have:=r3 i j _ _ g a1 a2 h1 h2;omega
 let y:Tg:=frz L o
 have ho2:∀b,o b=k->y b=k:=λb f=>by show(if o b=L then 0 else o b)=k;rw[f,if_neg (Ne.symm hne)]
 have M:∀b,y b=k->o b=k:=λb f=>by
  have f:(if o b=L then 0 else o b)=k:=f;split at f
  ·exact absurd f.symm hk
  ·exact f
 have hrd2:∀p∈ps,RdL y w p.v p.x:=λp d=>(O p d).frz;have t:Ow s.heap.size 41 k y w v ps:=by
  obtain⟨css,c1,c2,c3,c4⟩:=h;refine⟨css,by rw[c1,r1,Z],?_,λg R=>ho2 g (c3 g R),λi cs p hc d=>?_⟩
  ·rw[Z,<-r1];exact c2
  ·obtain⟨a,b⟩:=J i p d;obtain⟨Q,K⟩:=c4 i cs _ hc a;exact⟨Q,K,hrd2 p (List.mem_of_getElem? d)⟩
 clear h r2 r3
 -- as the call sees it
 let I:Nat:=match v.ownBlock with|some g=>g|none=>w.heap.size
 let wb:World:=sl3 w I
 let oo:Tg:=λb=>if y b=0 then 0 else 1
 let E:Tg:=λb=>if v.ownBlock=some b then 10 else if y b=0 then 0 else 1
 have hGw:I<=w.heap.size:=by
  show(match v.ownBlock with|some g=>g|none=>w.heap.size)<=_;cases S:v.ownBlock with
  |none=>exact Nat.le_refl _
  |some g=>exact Nat.le_of_lt (t.ltw g S).2
 have hBG:s.heap.size<=I:=by
  show s.heap.size<=(match v.ownBlock with|some g=>g|none=>w.heap.size);cases S:v.ownBlock with
  |none=>exact hB
  |some g=>exact(t.ltw g S).1
 have A:wb.heap.size=I:=by show(w.heap.extract 0 I).size=I;simp;omega
 have U:∀g,v.ownBlock=some g->y g=k:=t.tagged;have hKb:Keeps s wb:=by
  refine⟨C.os,C.tape,C.output,by rw[A];exact hBG,λb f=>?_⟩;show(w.heap.extract 0 I)[b]? =s.heap[b]?;rw[Array.getElem?_extract,if_pos (by omega),Nat.zero_add];exact C.block b f
 have hBs:Bs oo E wb w:=by
  refine⟨⟨rfl,rfl,rfl,by rw[A];exact hGw,λb f=>?_⟩,λb f=>?_⟩
  ·show w.heap[b]? =(w.heap.extract 0 I)[b]?;rw[Array.getElem?_extract];rw[A] at f;rw[if_pos (by omega)];simp
  ·rw[A] at f;show(if v.ownBlock=some b then 10 else if y b=0 then 0 else 1)=if(if y b=0 then 0 else 1)=0 then 0 else 1;rw[if_neg (λe=>by
    have:I=b:=by show(match v.ownBlock with|some g=>g|none=>w.heap.size)=b;rw[e]
    omega)]
   split<;>simp
 have hO:∀b,b<w.heap.size->E b≠999:=λb _=>by
  show(if v.ownBlock=some b then 10 else if y b=0 then 0 else 1)≠999;split
  ·decide
  ·split<;>decide
 have h10:∀b,y b=0->E b=0:=λb f=>by
  show(if v.ownBlock=some b then 10 else if y b=0 then 0 else 1)=0;rw[if_neg (λe=>by have:=U b e;rw[f] at this;exact hk this.symm),if_pos f]
 have hsp2:Ow wb.heap.size 41 10 E w v ps:=by
  obtain⟨css,c1,c2,c3,c4⟩:=t;refine⟨css,c1,⟨c2.1,?_⟩,λg R=>if_pos R,λi cs p hc d=>?_⟩
  ·rcases c2.2 with q|⟨g,cap,Y,rfl,q⟩
   ·exact .inl q
   ·refine .inr ⟨g,cap,Y,rfl,?_,q.2⟩;rw[A];exact Nat.le_refl _
  ·obtain⟨Q,K,q3⟩:=c4 i cs p hc d;exact⟨Q,K,q3.mv (Nat.le_refl _) λb _ f=>⟨rfl,h10 b f⟩⟩
 refine (fv_ 1000000001 wb w oo E hBs hO v ps hsp2 u G (hfn.keep hKb) _ (wO_ 1000000001 ps G (λx=>(G x).getD true) hG (by omega) (by omega))).mono ?_;rintro e2 w2 ⟨v2,o3,rfl,N,hBs3,m⟩
 -- what is left
 have T:(ps.filter λp=> !(G p.x).getD true).map (·.x)=xs.filter λx=>(G x).getD true==false:=by
  rw[<-hpx,List.filter_map];congr 1;refine List.filter_congr λp _=>?_;show(!(G p.x).getD true)=((G p.x).getD true==false);cases (G p.x).getD true<;>rfl
 have F:(ps.filter λp=> !(G p.x).getD true).Sublist ps:=List.filter_sublist;generalize (ps.filter λp=> !(G p.x).getD true)=r at N T F;have hmem:∀p∈r,p∈ps:=λp d=>F.subset d;let X:Tg:=λb=>if b<w.heap.size then o b else if o3 b=10 then k else 0
 have B:Stp k o w X w2:=by
  refine⟨m.os,m.tape,m.output,m.size,λb f hnk=>?_,λb f=>if_pos f⟩;exact m.block b f (λe=>by
   have e:(if v.ownBlock=some b then 10 else if y b=0 then 0 else 1)=10:=e;split at e
   ·rename_i S;exact hnk (M b (U b S))
   ·split at e<;>cases e)
 have W:∀p∈r,Ow s.heap.size 3 L X w2 p.v p.x:=λp d=>(O p (hmem p d)).stp B hk hne;have hapr:r.Pairwise apD:=hap.sublist F;refine⟨v2,r.map λp=>⟨p.v⟩,X,rfl,?_,⟨?_,?_,?_⟩,B⟩
 ·obtain⟨css,c1,c2,c3,c4⟩:=N;refine⟨css,by simpa using c1,?_,λg R=>?_,λi cs u hc n=>?_⟩
  ·rw[List.length_map];obtain⟨Q,K⟩:=c2;refine⟨Q,?_⟩;rcases K with K|⟨g,cap,Y,e,q3,q4⟩
   ·exact .inl K
   ·rw[A] at q3;exact .inr ⟨g,cap,Y,e,Nat.le_trans hBG q3,q4⟩
  ·have e3:=c3 g R;show(if g<w.heap.size then o g else if o3 g=10 then k else 0)=k;split
   ·rename_i hgl;have e4:=m.own g hgl;rw[e3] at e4;have e5:(if v.ownBlock=some g then 10 else if y g=0 then 0 else 1)=10:=e4.symm;split at e5
    ·rename_i S;exact M g (U g S)
    ·split at e5<;>cases e5
   ·simp
  ·rw[List.getElem?_map] at n;cases d:r[i]? with
   |none=>rw[d] at n;cases n
   |some p=>
    rw[d] at n;cases n
    obtain⟨Q,K,_⟩:=c4 i cs p hc d;exact⟨Q,K⟩
 ·rw[List.length_map,<-T,List.length_map]
 ·intro i u x n hx;rw[List.getElem?_map] at n;rw[<-T,List.getElem?_map] at hx;cases d:r[i]? with
  |none=>rw[d] at n;cases n
  |some p=>
   rw[d] at n hx;cases n;cases hx
   exact W p (List.mem_of_getElem? d)
 ·intro i j u u' g n D h1 h2;rw[List.getElem?_map] at n D;cases d:r[i]? with
  |none=>rw[d] at n;cases n
  | some p=>
   cases hq:r[j]? with
   |none=>rw[hq] at D;cases D
   |some q=>
    rw[d] at n;rw[hq] at D;cases n;cases D
    obtain⟨hi,ei⟩:=List.getElem?_eq_some_iff.1 d;obtain⟨hj,ej⟩:=List.getElem?_eq_some_iff.1 hq;have hpw:=List.pairwise_iff_getElem.1 hapr;rcases Nat.lt_trichotomy i j with hlt|heq|hgt
    ·have:=hpw i j hi hj hlt g;rw[ei,ej] at this;exact absurd h2 (this h1)
    ·exact heq
    ·have:=hpw j i hj hi hgt g;rw[ei,ej] at this;exact absurd h1 (this h2)
end
end Go.Proofs.YtdbbeldgdgonfaaGreat
