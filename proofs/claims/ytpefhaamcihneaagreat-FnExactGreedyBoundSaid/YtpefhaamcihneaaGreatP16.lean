/- Part 16 of what this claim rests on (pack.py). -/
import Derived.Test.YtpefhaamcihneaaGreatP13
namespace Go.Proofs.YtpefhaamcihneaaGreat
open Tryz renaming prog→Gz, isAgg22→GK, underlying22→GE, isAgg51→GJ, results160→IA, sizeOf51→GH, underlying51→GA, sizeOf3→GB, isAgg102→JU, call160→JV, zeroValue51→GO, results139→JW, results159→JX, results136→JY
set_option linter.unusedSimpArgs false
set_option linter.unusedVariables false
set_option maxRecDepth 100000
set_option maxHeartbeats 2000000
open Go.RowKit
theorem zi:Inf Gz 3 (.int .i64 0) 1 8:=by unfold Inf;kernel_rfl
def eF(a:Int)(c:Yk)(d:Yl->Option Bool)(self:Int->Yk->(Yl->Option Bool)->Yl->Option (Bool×Yl)):Int->Int->Yl->Option (Lp Yl Yl (Bool×Yl)):=λj f s=>(ix s a)>>=λk=>(st s a f)>>=λg=>(ck (a+1))>>=λi=>(self i c d g)>>=λb=>if b.1 then some (.ret (true,b.2)) else some (.go b.2)
def cw:Nat->Int->Yk->(Yl->Option Bool)->Yl->Option (Bool×Yl)|0=>λ_ _ _ _=>none|f+1=>λa b d c=>if a==(b.length:Int) then(d c)>>=λg=>some (g,c) else(ix b a)>>=λi=>(forI (eF a b d (cw f)) i 0 c)>>=λj=>match j with| .inl k=>some (false,k)| .inr m=>some m
def rO(b o:Tg)(w c:World)(u:Value)(r:Bool×Yl):Ending->World->Prop:=λe w'=>∃(a:Tg),e=.returned (.bool r.1)∧Ow w.heap.size 3 13 a w' u r.2∧Bs b a w w'∧Stp 13 o c a w'
theorem yX(G:Nat):∀(w:World)(j:World)(h o:Tg)(b:Bs h o w j)(e:Int)(u:Nat)(t:Value)(C:Yk)(g:Bx w.heap.size 11 o j u 22 [t])(F:RdL zt w t C)(v:Nat)(A:Value)(D:Yl->Option Bool)(k:Bx w.heap.size 12 o j v 80 [A])(H:FnV Gz w A D)(q:Nat)(y:Value)(E:Yl)(i:Bx w.heap.size 14 o j q 51 [y])(B:Ow w.heap.size 3 13 o j y E)(s:Nat)(m:Bx w.heap.size 15 o j s 102 [.func (.func 160) #[] #[.pointer (some ⟨u,0,none⟩),.pointer (some ⟨v,0,none⟩),.pointer (some ⟨q,0,none⟩),.pointer (some ⟨s,0,none⟩)]])(r:Bool×Yl)(d:cw G e C D E=some r),Calls Gz 160 #[.int .i64 e,.pointer (some ⟨u,0,none⟩),.pointer (some ⟨v,0,none⟩),.pointer (some ⟨q,0,none⟩),.pointer (some ⟨s,0,none⟩)] j (rO h o w j y r):=by
 induction G with
 |zero=>
  intro w j h o b e u t C g F v A D k H q y E i B s m r d;unfold cw at d;cases d
 | succ G ih=>
  intro w j h o b e u t C g F v A D k H q y E i B s m r d;unfold cw at d;have hS:Stp 13 o j o j:=Stp.refl _ _ _;refine y_ (n:=34) (vs:=[ZI e,ZP u,ZP v,ZP q,ZP s]) Tryz.func160 rfl rfl ?_;refine Zq (Za rfl (Zy (b_ (Zq (Zm rfl (Zv (e_ rfl GK (g.cell rfl)) (Zv (C_ rfl F GE) (Zv (bg rfl rfl) (Zy ?_)))))))));refine Zi rfl d (λc d=>?_) (λc d=>?_)
  ·refine Zq (Zv (e_ rfl Tryz.isAgg80 (k.cell rfl)) (Zv (e_ rfl GJ (i.cell rfl)) ?_));obtain⟨f,c,d⟩:=a_ d;refine Zo ?_;refine eZ (x:=E) (vs:=[y]) (H.keep b.keeps) c ⟨_,rfl,B.z⟩ rfl ⟨rfl,trivial⟩ ?_;intro c c;have l:=c.stp 999 o;replace hS:=hS.trans (c.stp 13 o);obtain⟨B,g,k,i,m,b⟩:=ZS l (A6 B g k i m b);refine Za rfl (Zy (i_ (t_ ?_)));obtain rfl:=Zj d;refine Zr IA [.bool f] ?_;exact⟨o,rfl,B,b,hS⟩
  ·refine f_ (nx (b_ (Zq (Zv (e_ rfl GK (g.cell rfl)) (Zm rfl ?_)))));obtain⟨I,c,d⟩:=a_ d;refine Zo ?_;refine wf_atZ F c b rfl rfl GE GH ?_;intro c c c c f;obtain⟨N,rfl,J⟩:=f;refine Zv (e_ rfl GJ (G_ c)) (Zv (C_ rfl J GA) (Zm rfl (Zy ?_)));obtain⟨L,O,d⟩:=a_ d;refine D_ (λa f=>∃l c,L=.inl l∧Fr a 34 []∧Bs h c w f∧Stp 13 o j c f∧Bz w 15 c f s 102 [.func (.func 160) #[] #[ZP u,ZP v,ZP q,ZP s]]∧Bz w 14 c f q 51 [y]∧Oz w 3 13 c f y l∧Bz w 12 c f v 80 [A]∧Bz w 11 c f u 22 [t]) (λa w'=>∃M,L=.inr M∧bodyPost Gz Tryz.f160 (rO h o w j y M) .ret a w') ?_ ?_ ?_
   ·refine k_ ?_;refine B_ (λ(K:Nat) a f=>∃(p:Int),∃l c,forI (eF e C D (cw G)) (I.drop p.toNat) p l=some L∧(I.drop p.toNat).length=K∧0<=p∧Fr a 34 [(0,ZI e),(3,ZP q),(4,ZP s),(19,N),(20,ZI (I.length:Int)),(21,ZI p)]∧Bs h c w f∧Stp 13 o j c f∧Bz w 15 c f s 102 [.func (.func 160) #[] #[ZP u,ZP v,ZP q,ZP s]]∧Bz w 14 c f q 51 [y]∧Oz w 3 13 c f y l∧Bz w 12 c f v 80 [A]∧Bz w 11 c f u 22 [t]) _ (λa e=>⟨0,E,o,O,rfl,N_ 0,e.sb,b,hS,m,i,B,k,g⟩) ?_;rintro j a f ⟨p,l,c,G,N,L,e,b,hS,m,i,B,k,g⟩;by_cases E:p<(I.length:Int)
    ·obtain⟨j,j,O,j,I⟩:=ai L E G;have L:=J.len_le;dsimp only[eF] at j;refine q_ e ?_;refine Zq (Zv (o_ rfl rfl) (Zy (b_ ?_)));refine R_ (Zb (decide_eq_true E)) ?_;refine f_ (nx (b_ (k_ (Zq (Zo ?_)))));refine wf_atZ J O b rfl rfl GA GB ?_;intro J J J J L;cases L
     refine Zv (e_ rfl Tryz.isAgg3 (G_ J)) (Za rfl (Ze [(0,_),(3,_),(4,_),(8,_),(19,_),(20,_),(21,_)] (Zn (Zv (e_ rfl GJ (i.cell rfl)) (Zm rfl (Zm rfl ?_))))));obtain⟨J,J,j⟩:=a_ j;refine Zo ?_;refine bI B J rfl rfl GA GB ?_;intro J J J L L;cases L
     obtain⟨O,L,j⟩:=a_ j;refine E_ trivial ?_;refine bH B J L rfl dc rfl rfl rfl GB rfl ?_;intro Q R J;replace hS:=hS.trans J;obtain⟨g,k,i,m,b⟩:=ZS J (A5 g k i m b);refine Ze [(0,_),(3,_),(4,_),(19,_),(20,_),(21,_)] (Zn (Zv (e_ rfl JU (m.cell rfl)) (Zm rfl ?_)));obtain⟨J,L,j⟩:=a_ j;refine Zv (u_ rfl rfl L) ?_;obtain⟨L,S,j⟩:=a_ j;refine Zo ?_;refine od (vs:=[ZI J]) (cap:=[ZP u,ZP v,ZP q,ZP s]) (ih w Q h c b J u t C g F v A D k H q y O i R s m L S) JV rfl ⟨rfl,trivial⟩ ?_;rintro q q ⟨q,rfl,s,-,u⟩;refine⟨_,rfl,?_⟩;replace hS:=hS.trans u;obtain⟨g,k,i,m,b⟩:=ZS u (A5 g k i m b);refine Zy ?_;refine Zi rfl j (λu j=>?_) (λu j=>?_)
     ·refine Zq (Za rfl (Zy (i_ (L_ (t_ (t_ (L_ ?_)))))));refine aB ?_;obtain rfl:=Zj j;refine λa e=>⟨_,I,?_⟩;refine J_ (P:=Gz) (vs:=[.bool true]) IA ⟨rfl,trivial⟩ ?_ a e;exact⟨q,rfl,s,b,hS⟩
     ·refine f_ (w_ (nx (h_ (Zv (u_ rfl rfl (n_ om om)) (Zm rfl (Zf (v_ ?_)))))));obtain rfl:=Zj j;refine Zk [(0,_),(3,_),(4,_),(19,_),(20,_),(21,_)] ?_;intro a e;exact⟨_,(by rw[<-N];simp only[T_];omega),p+1,L.2,q,I,rfl,om,e,b,hS,m,i,s,k,g⟩
    ·have j:=ak E G;refine q_ e ?_;refine Zq (Zv (o_ rfl rfl) (Zy (b_ ?_)));refine Q_ (Zb (decide_eq_false E)) ?_;refine z_ ?_;refine g_ (g_ (A_ ?_));refine r_ ?_;refine Zk [] ?_;intro a e;exact⟨l,c,j,e,b,hS,m,i,B,k,g⟩
   ·rintro a f ⟨l,c,rfl,e,b,hS,m,i,B,k,g⟩;dsimp only at d;refine ap_k e ?_;refine Zn (Za rfl (Zy (i_ ?_)));obtain rfl:=Zj d;refine Zr IA [.bool false] ?_;exact⟨c,rfl,B,b,hS⟩
   ·rintro a f ⟨M,rfl,b⟩;dsimp only at d;obtain rfl:=Zj d;exact b
def ir(c:Nat)(a:Yk)(d:Yl->Option Bool):Option (Yl×Bool):=(mk (Rz.z:Int) (a.length:Int))>>=λf=>(cw c 0 a d f)>>=λb=>if !b.1 then some ([],false) else some (b.2,true)
def iy(d:Tg)(t:Nat)(w:World)(r:Yl×Bool):Ending->World->Prop:=λe w'=>∃(a:Value)(c:Tg),e=.returned (.tuple #[a,.bool r.2])∧Ow w.heap.size 3 t c w' a r.1∧Keeps w w'∧∀b,b<w.heap.size->c b=d b
theorem sa(h:Nat)(w:World)(i:Tg)(t:Nat)(v:2<=t)(j:Value)(x:Yk)(y:RdL zt w j x)(k:Value)(z:Yl->Option Bool)(l:FnV Gz w k z)(r:Yl×Bool)(f:ir h x z=some r):
    Calls Gz 139 #[j,k] w (iy i t w r):=by
 unfold ir at f;have a:Bs i (col i) w w:=Bs.start _ _;refine y_ (n:=16) (vs:=[j,k]) Tryz.func139 rfl rfl ?_;generalize col i=o at*;refine Zq (Zo ?_);refine Z_ (o:=o) w.heap.size 11 a.keeps.size (cs:=[j]) y.cells1 rfl ?_;intro d e s b g;replace a:=a.stp g;refine Zo ?_;refine Z_ (o:=d) w.heap.size 12 a.keeps.size (cs:=[k]) l.cells1 rfl ?_;intro m p u c q;obtain⟨b,a⟩:=ZS q (A2 b a);refine Za rfl (Za rfl (Ze [(2,_),(3,_)] (Zn (Zv (e_ rfl GK (b.cell rfl)) (Zv (C_ rfl y GE) ?_)))));obtain⟨B,d,f⟩:=a_ f;refine Zo ?_;refine dQ (o:=m) w.heap.size 13 a.keeps.size d rfl rfl GA zi rfl dc ?_;intro g d e d m;obtain⟨b,c,a⟩:=ZS m (A3 b c a);refine Zo ?_;refine au (o:=g) w.heap.size 14 a.keeps.size (cs:=[.slice none 0 0]) GO rfl ?_;intro q g m g v;obtain⟨d,b,c,a⟩:=ZS v (A4 d b c a);refine E_ trivial ?_;refine bG g rfl rfl (of_decide_eq_true rfl) GH d.cells1 d.one1 ?_;intro v g p;obtain⟨d,b,c,a⟩:=ZS p (A4 d b c a);replace g:Bz w 14 q v m 51 [e]:=g;refine Ze [(2,_),(3,_),(6,_)] (Zn (Zo ?_));refine au (o:=q) w.heap.size 15 a.keeps.size (cs:=[.nilFunc]) Tryz.zeroValue102 rfl ?_;intro p q q v A;obtain⟨b,c,g,d,a⟩:=ZS A (A5 b c g d a);refine Ze [(2,_),(3,_),(6,_),(7,_)] (Zn (Zv (em (vs:=[ZP s,ZP u,ZP m,ZP q]) ⟨rfl,rfl,rfl,rfl,trivial⟩) ?_));refine E_ trivial ?_;refine bG v rfl rfl (of_decide_eq_true rfl) Tryz.sizeOf102 rfl rfl ?_;intro A v C;obtain⟨b,c,g,d,a⟩:=ZS C (A5 b c g d a);replace v:Bz w 15 p A q 102 [.func (.func 160) #[] #[ZP s,ZP u,ZP m,ZP q]]:=v;refine Zy (b_ (Zq (Zv (e_ rfl JU (v.cell rfl)) ?_)));obtain⟨C,D,f⟩:=a_ f;refine Zo ?_;refine od (vs:=[ZI 0]) (cap:=[ZP s,ZP u,ZP m,ZP q]) (yX h w A i p a 0 s j x b y u k z c l m e B g d q v C D) JV rfl ⟨rfl,trivial⟩ ?_;rintro b b ⟨b,rfl,c,-,d⟩;refine⟨_,rfl,?_⟩;obtain⟨g,a⟩:=ZS d (A2 g a);refine Zv (ag rfl) (Zy ?_);refine Zi rfl f (λd f=>?_) (λd f=>?_)
 ·refine Zq (Za rfl (Za rfl (Zy (i_ (t_ ?_)))));obtain rfl:=Zj f;refine Zr JW [.slice none 0 0,.bool false] ?_;exact⟨_,rt i b w.heap.size 9 t,rfl,Ow.nil _ _ _ _ _,a.keeps,S_ _ _ _ _ _⟩
 ·refine f_ (Zn (Zv (e_ rfl GJ (g.cell rfl)) (Za rfl (Za rfl (Zy (i_ ?_))))));obtain rfl:=Zj f;refine Zr JW [e,.bool true] ?_;exact⟨_,rt i b w.heap.size 13 t,rfl,c.rt a dc t,a.keeps,S_ _ _ _ _ _⟩
section
section
variable {P:Program} {n:Nat} {l:List (Nat×Value)} {w w0:World} {o oo:Tg} {d:Nat} {ty:TypeId} {ps:String} {af:Array Edge} {g:Option (Nat×Bool)} {R:Value->World->Prop} {B k:Nat} {e:TypeId}
theorem bq{d:Option Nat}{x:Operand}{a:Addr}(f:ev l x=some (.pointer (some a))):
  ∀ρ,Agr ρ l->(execOp ρ ⟨d,.nilCheck x,ty,ps,af,g⟩).run P w=.ok (.value (.pointer (some a))) w:=by
 intro ρ b;simp only[execOp,b x _ f,bt]
def mkc(c:Int):Option Unit:=if 0<=c∧c<=1000000000 then some () else none
theorem DA{c:Int}{u:Unit}(h:mkc c=some u):0<=c∧c<=1000000000:=by
 unfold mkc at h;split at h
 ·assumption
 ·cases h
theorem DR{α:Type}[Rp α]{t:TypeId}{z:Value}{a:Nat}{x y:Operand}{c:Int}{u:Unit}(B k:Nat)(D:B<=w.heap.size)(F:mkc c=some u)(I:ev l x=some (.int .i64 0))(J:ev l y=some (.int .i64 c))
  (G:P.underlying t=some (.slice e)) (hi:Inf P e z (Rp.sz α) a) (L:a<=1000)
  (h:∀v w' A,Ow B e k v w' A ([]:List α)->Stp k o w v w'->R A w'):op1 P ⟨some d,.makeSlice t x y,ty,ps,af,g⟩ n l w R:=by
 obtain⟨C,E⟩:=DA F;obtain⟨H,p,f,j,b⟩:=info_parts hi;obtain⟨c,rfl⟩:∃m:Nat,c=m:=⟨c.toNat,om⟩;have i:=run_make (P:=P) w t e H z G p f .i64 .i64 0 (c:Int) (N_ _) C (by
  rw[b];have:=Int.mul_le_mul (show(a:Int)<=1000 by omega) E C om;omega) om
 simp only[xZ,U_] at i;rw[j] at i;refine M_ (λρ q=>by simp only[execOp,q x _ I,q y _ J,aF,i,aL];rfl) (h (ext o w.heap.size k) _ _ ⟨[],rfl,?_,λK s=>?_,sy⟩ (en _ _ _ _ _))
 ·exact FD w _ c D (by unfold maxLen;omega) (size_madeCells _ _)
 ·simp[Value.ownBlock] at s;subst s;exact jI _ _ _ _ (K_ _)
theorem Bx.frzP{α:Type}[Rp α]{b:Nat}{cs:List Value}{x:α}(h:Bx B k o w b e cs)(f:Rp.rd o w cs x):RdL (Go.Proofs.YtpefhaamcihneaaGreat.frz k o) w (.slice (some ⟨b,0,none⟩) 1 1) [x]:=
 ⟨some ⟨b,0,none⟩,1,rfl,K_ _,dc,λi y a=>by
  cases i with
  |zero=>
   simp at a;subst a;refine⟨b,0,cs,rfl,?_,(ct.1 h.blk).1,?_,Rp.frz f k⟩
   ·unfold Go.Proofs.YtpefhaamcihneaaGreat.frz;rw[h.tag,if_pos rfl]
   ·rw[ff,dd];exact h.cells
  |succ i=>simp at a⟩
theorem Dv{α:Type}[Rp α]{b:Nat}{x:α}(h:RdL o w (.slice (some ⟨b,0,none⟩) 1 1) [x]):∃cs,Cells w b 0 cs∧Rp.rd o w cs x:=by
 obtain⟨a,c,e,q,p,j⟩:=h;obtain⟨t,off,cs,m,u,s,f,i⟩:=j 0 x rfl;cases e
 cases m
 rw[ff,dd] at f;exact⟨cs,f,i⟩
end
end
section
open Go.RowKit Go.Sort Go.Shelf
def growO(n:Int):Option (List Int):=if 0<=n∧n<=1000000000 then some [] else none
theorem Br(w:World)(c:Tg)(t:Nat)(n:Int)(r:Yl)(d:growO n=some r):
    Calls Gz 152 #[.slice none 0 0,.int .i64 n] w (λe w'=>∃v f,e=.returned v∧Ow w.heap.size 3 t f w' v r∧Keeps w w'∧∀b,b<w.heap.size->f b=c b):=by
 unfold growO at d;split at d;rotate_left
 ·cases d
 rename_i hl;cases d
 obtain⟨n,rfl⟩:∃m:Nat,n=m:=⟨n.toNat,om⟩;by_cases d:n=0
 ·subst d;refine (Any8.slices_Grow_room Tryz.laysGrow none 0 0 0 w om om om om).mono ?_;rintro e w' ⟨rfl,rfl⟩;exact⟨_,c,rfl,⟨[],rfl,mr _ _ _ _,λg' hg=>by simp[Value.ownBlock] at hg,sy⟩,Keeps.refl _,λ_ _=>rfl⟩
 ·obtain⟨d,f,g,i,j⟩:=info_parts (show Inf Gz 3 (ZI 0) 1 8 by unfold Inf;kernel_rfl);have hsz:d.size=1:=i;have hby:d.bytes=8:=j;refine (Any8.slices_Grow_grow Tryz.laysGrow d (ZI 0) f g om none 0 0 n [] w om om (by rw[hby];omega) om sy (λ_=>rfl) (by intro a h;cases h)).mono ?_;rintro e w' ⟨rfl,rfl⟩;have hG:=grownCap_ge w (0+n) 0 3;have hM:=grownCap_le_maxLen w (0+n) 0 3 (by unfold maxLen;omega);have hs:Stp t c w (ext c w.heap.size t) (w.drew.alloc (.cells (([]:List Value).toArray++Builtin.zeroCells (Value.int .i64 0).cells (0+n-0)++Builtin.zeroCells (Value.int .i64 0).cells (grownCap w (0+n) 0 3-(0+n))) 3)):=(nY c w t).trans (en c w.drew _ _ t);refine⟨_,ext c w.heap.size t,rfl,⟨[],rfl,FD w.drew _ _ (K_ _) hM ?_,λg' hg=>?_,sy⟩,?_,λb hb=>?_⟩
  ·simp only[an] at hG;have c:(Value.int IntKind.i64 0).cells.size=1:=rfl;rw[xM,xM,size_zeroCells,size_zeroCells,c];simp only[an,oM,bD,cm,du,Rp.sz];exact Nat.add_sub_cancel' hG
  ·simp[Value.ownBlock] at hg;subst hg;exact jI _ _ _ _ (K_ _)
  ·exact(Keeps.refl w).drew.alloc _
  ·exact mi _ _ _ _ hb
end
def mH(b:Yk)(c:Yl->Option Bool):Int->Unit->Option (Lo Unit Int):=λa s=>(ix b a)>>=λd=>(c d)>>=λf=>if f then some (.ret a) else some (.go ())
def kd(a:Yk)(b:Yl->Option Bool):Option Int:=ck (a.length:Int)>>=λ_=>(forN (mH a b) ((a.length:Int)).toNat 0 ())>>=λc=>match c with| .inl _=>some (-1)| .inr d=>some d
theorem yC(w:World)(c:Value)(d:Yk)(u:RdL zt w c d)(k:Value)(m:Yl->Option Bool)(v:FnV Gz w k m)(r:Int)(f:kd d m=some r):
    Calls Gz 159 #[c,k] w (aT w r):=by
 unfold kd at f;have b:Bs (λ_=>1) (col (λ_=>1)) w w:=Bs.start _ _;refine y_ (n:=19) (vs:=[c,k]) Tryz.func159 rfl rfl ?_;refine Zq (Za rfl (Zy (b_ (Zq (Zm rfl (Zv (C_ rfl u GE) (Zm rfl (Zy ?_))))))));obtain⟨g,g,f⟩:=a_ f;obtain⟨-,i,i⟩:=bl g;obtain⟨q,y,f⟩:=a_ f;refine D_ (λa j=>∃(i:Tg),q=.inl ()∧Fr a 19 []∧Bs (λ_=>1) i w j) (λa w'=>∃s,q=.inr s∧bodyPost Gz Tryz.f159 (aT w s) .ret a w') ?_ ?_ ?_
 ·refine k_ ?_;refine B_ (λ(K:Nat) a j=>∃(g:Int),∃(i:Tg),forN (mH d m) ((d.length:Int)-g).toNat g ()=some q∧((d.length:Int)-g).toNat=K∧0<=g∧Fr a 19 [(0,c),(1,k),(7,ZI (d.length:Int)),(8,ZI g)]∧Bs (λ_=>1) i w j) _ (λa c=>⟨0,col (λ_=>1),(by rw[bU];exact y),rfl,N_ 0,c.sb,b⟩) ?_;rintro k a j ⟨g,i,m,y,k,c,b⟩;by_cases k:g<(d.length:Int)
  ·obtain⟨d,d,q⟩:=bB k m;dsimp only[mH] at d;refine q_ c ?_;refine Zq (Zv (o_ rfl rfl) (Zy (b_ ?_)));refine R_ (Zb (decide_eq_true k)) ?_;refine f_ (nx (b_ (k_ (Zq (Zm rfl (Za rfl (Ze [(0,_),(1,_),(5,_),(7,_),(8,_)] (Zn (Zm rfl (Zm rfl (Zm rfl ?_)))))))))));obtain⟨z,e,d⟩:=a_ d;refine Zo ?_;refine wf_atZ u e b rfl rfl GE GH ?_;intro u u u u e;obtain⟨h,rfl,l⟩:=e;refine Zv (e_ rfl GJ (G_ u)) ?_;obtain⟨u,u,d⟩:=a_ d;refine Zo ?_;refine eZ (x:=z) (vs:=[h]) (v.keep b.keeps) u ⟨_,rfl,l.keep b.keeps⟩ rfl ⟨rfl,trivial⟩ ?_;intro u u;have v:=u.stp 999 i;replace b:=b.stp v;refine Zy ?_;refine Zi rfl d (λu d=>?_) (λu d=>?_)
   ·refine Zq (Zm rfl (Za rfl (Zy (i_ (L_ (t_ (t_ (L_ ?_))))))));refine aB ?_;obtain rfl:=Zj d;refine λa c=>⟨_,q,?_⟩;refine J_ (P:=Gz) (vs:=[ZI g]) JX ⟨rfl,trivial⟩ ?_ a c;exact⟨rfl,b.keeps⟩
   ·refine f_ (w_ (nx (h_ (Zv (u_ rfl rfl (n_ om om)) (Zm rfl (Zf (v_ ?_)))))));obtain rfl:=Zj d;refine Zk [(0,_),(1,_),(7,_),(8,_)] ?_;intro a c;exact⟨_,(by rw[<-y];omega),g+1,i,q,rfl,om,c,b⟩
  ·have d:=bA k m;refine q_ c ?_;refine Zq (Zv (o_ rfl rfl) (Zy (b_ ?_)));refine Q_ (Zb (decide_eq_false k)) ?_;refine z_ ?_;refine g_ (g_ (A_ ?_));refine r_ ?_;refine Zk [] ?_;intro a c;exact⟨i,d,c,b⟩
 ·rintro a j ⟨i,rfl,c,b⟩;dsimp only at f;refine ap_k c ?_;refine Zn (Za rfl (Zy (i_ ?_)));obtain rfl:=Zj f;refine Zr JX [ZI (-1)] ?_;exact⟨rfl,b.keeps⟩
 ·rintro a j ⟨s,rfl,b⟩;dsimp only at f;obtain rfl:=Zj f;exact b
theorem RdL.mapx{o:Tg}{w:World}{v:Value}{xs:List Pv}(h:RdL o w v xs):RdL o w v (xs.map λq=>q.x):=by
 obtain⟨a,c,e,f,k,s⟩:=h;refine⟨a,c,by rw[e,aA],by rw[aA];exact f,k,λi x hi=>?_⟩;rw[aZ] at hi;obtain⟨q,n,rfl⟩:=jQ.1 hi;obtain⟨b,off,cs,t,g,p,j,m⟩:=s i q n;obtain⟨rfl,u,d⟩:=m;exact⟨b,off,[q.v],t,g,p,j,_,rfl,d⟩
theorem EV{B k:Nat}{e:TypeId}{o:Tg}{w:World}{v:Value}{xs:List Pv}(h:Ow B e k o w v xs):RdL zt w v (xs.map λq=>q.x):=RdL.mapx h.z
def dy(b:Yl->Option Bool):((List Pv)×Int×Int)->Option (Lo ((List Pv)×Int×Int) (List Pv)):=λs=>if decide (s.2.2<(s.1.length:Int)) then(ix s.1 s.2.2)>>=λa=>(b a.x)>>=λc=>if !c then(ix s.1 s.2.1)>>=λj=>(st s.1 s.2.1 a)>>=λd=>(ck (s.2.1+1))>>=λf=>(ck (s.2.2+1))>>=λg=>some (.go (d,f,g)) else(ck (s.2.2+1))>>=λi=>some (.go (s.1,s.2.1,i)) else some (.out (s.1,s.2.1,s.2.2))
def mK(g:Nat)(b:List Pv)(f:Yl->Option Bool):Option (List Pv):=(kd (b.map λq=>q.x) f)>>=λc=>if c==(-1) then some b else(ck (c+1))>>=λi=>(loopF (dy f) g (b,c,i))>>=λj=>match j with| .inl (a,d,m)=>(cut a d a.length)>>=λn=>(cut a d a.length)>>=λs=>(cut a 0 d)>>=λk=>some k| .inr _=>none
def yy(c o:Tg)(w d:World)(r:List Pv):Ending->World->Prop:=λe w'=>∃(b:Value)(a:Tg),e=.returned b∧Ow w.heap.size 51 10 a w' b r∧Bs c a w w'∧Stp 10 o d a w'
theorem yA(t:Nat)(w c:World)(j o:Tg)(f:Bs j o w c)(hO:∀b,b<c.heap.size->o b≠999)(m:Value)(e:List Pv)(i:Ow w.heap.size 51 10 o c m e)(l:Value)(p:Yl->Option Bool)(A:FnV Gz w l p)(r:List Pv)(d:mK t e p=some r):
    Calls Gz 136 #[m,l] c (yy j o w c r):=by
 unfold mK at d;have hS:Stp 10 o c o c:=Stp.refl _ _ _;refine y_ (n:=42) (vs:=[m,l]) Tryz.func136 rfl rfl ?_;refine Zq (Za rfl (Ze [(0,_),(1,_)] (Zn (Zm rfl (Zm rfl ?_)))));obtain⟨B,g,d⟩:=a_ d;refine Zo ?_;refine j_ (yC c _ (e.map λq=>q.x) (EV i) _ p (A.keep f.keeps) B g) Tryz.call159 ⟨rfl,rfl,trivial⟩ ?_;rintro g g ⟨rfl,k⟩;have g:=k.stp 999 o;refine⟨_,rfl,?_⟩;replace hS:=hS.tr9 hO g;obtain⟨i,f⟩:=ZS g (A2 i f);refine Za rfl (Zy (b_ (Zq (Zm rfl (Zv (bg rfl rfl) (Zy ?_))))));refine Zi rfl d (λg d=>?_) (λg d=>?_)
 ·refine Zq (Zm rfl (Za rfl (Zy (i_ (t_ ?_)))));obtain rfl:=Zj d;refine Zr JY [m] ?_;exact⟨_,o,rfl,i,f,hS⟩
 ·refine f_ (nx (b_ (Zq (Zm rfl ?_))));obtain⟨D,g,d⟩:=a_ d;refine Zv (u_ rfl rfl g) (Za rfl (Zy ?_));obtain⟨C,E,d⟩:=a_ d;refine D_ (λa s=>∃(u:List Pv)(k:Int)(y:Int),∃(g:Tg),C=.inl (u,k,y)∧Fr a 42 [(0,m),(5,ZI k)]∧Bs j g w s∧Stp 10 o c g s∧Oz w 51 10 g s m u) (λ_ _=>False) ?_ ?_ ?_
  ·refine k_ ?_;refine B_ (λ(K:Nat) a s=>∃(u:List Pv)(k:Int)(y:Int),∃(g:Tg),loopF (dy p) K (u,k,y)=some C∧Fr a 42 [(0,m),(1,l),(5,ZI k),(6,ZI y)]∧Bs j g w s∧Stp 10 o c g s∧Oz w 51 10 g s m u) t (λa j=>⟨e,B,D,o,E,j.sb,f,hS,i⟩) ?_;rintro c a s ⟨u,k,y,g,e,j,f,hS,i⟩;obtain⟨p,c,c,c,l⟩:=aC e;dsimp only[dy] at c;refine q_ j ?_;refine b_ (Zq (Zm rfl (Zm rfl (Zv (aU rfl i GE) (Zv (o_ rfl rfl) (Zy ?_))))));refine Zi rfl c (λe c=>?_) (λe c=>?_)
   ·refine f_ (nx (b_ (k_ (Zq (Zm rfl (Zm rfl ?_))))));obtain⟨t,e,c⟩:=a_ c;refine Zo ?_;refine ci i e rfl rfl GE GH ?_;intro e e e B C;obtain⟨rfl,-,e⟩:=C;refine Zv (e_ rfl GJ (G_ B)) (Za rfl (Ze [(0,_),(1,_),(5,_),(6,_),(7,_)] (Zn (Zm rfl (Zm rfl ?_)))));obtain⟨B,B,c⟩:=a_ c;refine Zo ?_;refine eZ (x:=t.x) (vs:=[t.v]) (A.keep f.keeps) B ⟨_,rfl,e.z⟩ rfl ⟨rfl,trivial⟩ ?_;intro t t;have A:=t.stp 999 g;replace hS:=hS.trans (t.stp 10 g);obtain⟨i,e,f⟩:=ZS A (A3 i e f);refine Zv (ag rfl) (Zy ?_);refine Zi rfl c (λt c=>?_) (λt c=>?_)
    ·refine Zq (Zm rfl (Zm rfl (Zm rfl ?_)));obtain⟨t,t,c⟩:=a_ c;refine Zo ?_;refine bI i t rfl rfl GE GH ?_;intro t t t A A;obtain⟨rfl,-,B⟩:=A;obtain⟨A,B,c⟩:=a_ c;refine E_ trivial ?_;refine bH i t B (oI e) dc rfl rfl rfl GH e.cells1 ?_;intro e t e;replace hS:=hS.trans e;replace f:=f.stp e;refine Zy (h_ (Zm rfl ?_));obtain⟨e,B,c⟩:=a_ c;refine Zv (u_ rfl rfl B) (Za rfl (Ze [(0,_),(1,_),(5,_),(6,_)] (w_ (nx (h_ (Zm rfl ?_))))));obtain⟨B,C,c⟩:=a_ c;refine Zv (u_ rfl rfl C) (Za rfl (Zf (v_ ?_)));obtain rfl:=Zj c;refine Zk [(0,_),(1,_),(5,_),(6,_)] ?_;intro a j;exact⟨p,om,A,e,B,g,l,j,f,hS,t⟩
    ·refine f_ (w_ (nx (h_ (Zm rfl ?_))));obtain⟨e,t,c⟩:=a_ c;refine Zv (u_ rfl rfl t) (Za rfl (Zf (v_ ?_)));obtain rfl:=Zj c;refine Zk [(0,_),(1,_),(5,_),(6,_)] ?_;intro a j;exact⟨p,om,u,k,e,g,l,j,f,hS,i⟩
   ·refine z_ ?_;refine g_ (g_ (A_ ?_));refine r_ ?_;obtain rfl:=Zj c;refine Zk [(0,_),(5,_)] ?_;intro a j;exact⟨u,k,y,g,l,j,f,hS,i⟩
  ·rintro a s ⟨u,k,y,g,rfl,j,f,hS,i⟩;dsimp only at d;refine ap_k j ?_;refine Zn (Zm rfl (Zm rfl ?_));obtain⟨c,c,d⟩:=a_ d;refine Zo ?_;refine pP i c rfl rfl GE GH ?_;obtain⟨c,j,d⟩:=a_ d;obtain⟨c,c,d⟩:=a_ d;have s:=wn i c;refine E_ trivial ?_;refine sY i j c dc rfl GE GO ?_;intro c c i c;replace hS:=hS.trans c;replace f:=f.stp c;refine Ze [(0,_),(5,_)] (Zn (Zm rfl (Zm rfl (Zv (tX s rfl rfl GE GH) (Za rfl (Zy (i_ ?_)))))));obtain rfl:=Zj d;refine Zr JY [prev m k.toNat] ?_;exact⟨_,g,rfl,i,f,hS⟩
  ·exact λ_ _ h=>h.elim
theorem sb{α β:Type}(x:α)(f:α->Option β):(some x>>=f)=f x:=rfl
def firstP{α ρ:Type}(p:Nat->α->Option ρ):List α->Nat->Option ρ
  |[],_=>none
  | x::xs,k=>match p k x with
    |some r=>some r
    |none=>firstP p xs (k+1)
def outP{ρ:Type}:Option ρ->Unit ⊕ ρ
  |some r=> .inr r
  |none=> .inl ()
def lpP{ρ:Type}:Option ρ->Lp Unit Unit ρ
  |some r=> .ret r
  |none=> .go ()
theorem tn{α ρ:Type}{body:Int->α->Unit->Option (Lp Unit Unit ρ)}(p:Nat->α->Option ρ):∀(xs:List α)(k:Nat),
  (∀(j:Nat) x,xs[j]? =some x->(∀(i:Nat) y,i<j->xs[i]? =some y->p (k+i) y=none)->body ((k+j:Nat):Int) x ()=some (lpP (p (k+j) x)))->
  forI body xs (k:Int) ()=some (outP (firstP p xs k))
 |[],k,_=>rfl
 | x::xs,k,h=>by
  have d:=h 0 x rfl (λi y hi=>om);simp only[dd] at d;simp only[forI,d,firstP];cases e:p k x with
  |some r=>rfl
  | none=>
   simp only[lpP];have:=tn p xs (k+1) (λj y f a=>by
    have:=h (j+1) y (su f) (λi z hi b=>by
     cases i with
     |zero=>simp at b;subst b;simpa using e
     |succ i=>rw[show k+(i+1)=k+1+i by omega];exact a i z om (su b))
    rw[show k+1+j=k+(j+1) by omega];exact this)
   rw[show((k:Int)+1)=((k+1:Nat):Int) by omega];exact this
theorem eg{α ρ:Type}{body:Int->α->Unit->Option (Lp Unit Unit ρ)}(p:Nat->α->Option ρ)(xs:List α)
  (h:∀(j:Nat) x,xs[j]? =some x->(∀(i:Nat) y,i<j->xs[i]? =some y->p i y=none)->body (j:Int) x ()=some (lpP (p j x))):forI body xs 0 ()=some (outP (firstP p xs 0)):=by
 have:=tn p xs 0 (λj x b a=>by simp only[an] at a ⊢;exact h j x b a);exact this
theorem lq{α ρ:Type}{body:Int->Unit->Option (Lp Unit Unit ρ)}(p:Nat->α->Option ρ)(xs:List α)
  (h:∀(j:Nat) x,xs[j]? =some x->(∀(i:Nat) y,i<j->xs[i]? =some y->p i y=none)->body (j:Int) ()=some (lpP (p j x))):forN body xs.length 0 ()=some (outP (firstP p xs 0)):=by
 have d:∀(b:List α)(k:Nat),b=xs.drop k->(∀(i:Nat) y,i<k->xs[i]? =some y->p i y=none)->forN body b.length (k:Int) ()=some (outP (firstP p b k)):=by
  intro b
  induction b with
  |nil=>intro k _ _;rfl
  | cons y b ih=>
   intro k n a;have o:xs[k]? =some y:=by
    have m:(xs.drop k)[0]? =some y:=by rw[<-n];rfl
    rw[dV] at m;simpa using m
   have g:b=xs.drop (k+1):=by rw[<-gk,<-n];rfl
   have s:=h k y o a;simp only[ao,forN,s,firstP];cases q:p k y with
   |some r=>rfl
   |none=>
    simp only[lpP];rw[show((k:Int)+1)=((k+1:Nat):Int) by omega];refine ih (k+1) g λi z hi f=>?_;by_cases e:i=k
    ·subst e;rw[o] at f;cases f;exact q
    ·exact a i z om f
 exact d xs 0 sy (λi y hi=>om)
theorem cL{α ρ:Type}{p:Nat->α->Option ρ}:∀{xs:List α}{k:Nat},firstP p xs k=none<->∀(j:Nat) x,xs[j]? =some x->p (k+j) x=none
 |[],k=>by simp[firstP]
 | x::xs,k=>by
  simp only[firstP];cases b:p k x with
  |some r=>
   simp only[reduceCtorEq,false_iff];intro h;have:=h 0 x rfl;rw[dd,b] at this;cases this
  | none=>
   simp only
   rw[cL];constructor
   ·intro h j y a;cases j with
    |zero=>simp at a;subst a;simpa using b
    |succ j=>rw[show k+(j+1)=k+1+j by omega];exact h j y (su a)
   ·intro h j y a;rw[show k+1+j=k+(j+1) by omega];exact h (j+1) y (su a)
theorem tO{α:Type}{p:α->Bool}{b:Bool}:∀{xs:List α}{k:Nat},firstP (λ_ x=>if p x then none else some b) xs k=if xs.all p then none else some b
 |[],k=>rfl
 |x::xs,k=>by
  simp only[firstP,qY];by_cases a:p x=true
  ·rw[if_pos a];simp only[a,oU];exact tO
  ·rw[if_neg a];simp[a]
theorem dJ{α ρ:Type}{p:Nat->α->Option ρ}{r:ρ}:∀{xs:List α}{k:Nat},firstP p xs k=some r->∃(j:Nat)(x:α),xs[j]? =some x∧p (k+j) x=some r
 |[],k,h=>by simp[firstP] at h
 | x::xs,k,h=>by
  simp only[firstP] at h;cases a:p k x with
  |some e=>rw[a] at h;cases h;exact⟨0,x,rfl,by simpa using a⟩
  |none=>
   rw[a] at h;obtain⟨j,y,d,b⟩:=dJ h;exact⟨j+1,y,by simpa using d,by rw[show k+(j+1)=k+1+j by omega];exact b⟩
theorem aq{α:Type}(xs:List α)(k:Nat):ix xs (k:Int)=xs[k]? :=by
 unfold ix;rw[if_pos om];simp
theorem bM{α:Type}[Inhabited α](xs:List α)(k:Nat)(h:k<xs.length):ix xs (k:Int)=some xs[k]:=by rw[aq,x_ h]
theorem DH{α:Type}(xs:List α)(h:1<=xs.length):cut xs 1 xs.length=some xs.tail:=by
 unfold cut;rw[if_pos ⟨om,om,om⟩];simp
theorem Ey{α:Type}(xs:List α):cut xs 0 xs.length=some xs:=by
 unfold cut;rw[if_pos ⟨om,om,om⟩];simp
theorem fV{α:Type}(xs:List α)(h:xs.length<=1000000000):cat [] xs=some xs:=by
 unfold cat
 rw[if_pos (su h)];simp
theorem cC{α:Type}(xs:List α)(k:Nat)(x:α)(h:k<xs.length):st xs (k:Int) x=some (xs.set k x):=by
 unfold st;rw[if_pos ⟨om,om⟩];simp
theorem mm(a b c:Int):eo a b c=some (decide (b<=a)&&decide (a<=c)):=by
 unfold eo;by_cases h:a>=b
 ·simp[h,show b<=a from h]
 ·simp[h,show ¬b<=a from h]
theorem fQ(a b c:Int):dl a b c=some (decide (b<=a)&&decide (a<=c)):=by
 unfold dl;by_cases h:b<=a<;>simp[h]
def inB(b c a:Int):Bool:=decide (b<=a)&&decide (a<=c)
theorem Ee(xs:List Int)(b c:Int):lV xs b c=some (xs.all (inB b c)):=by
 unfold lV;rw[eg (λ_ x=>if inB b c x then none else some false) xs (λj x a _=>by
  unfold ns;rw[mm,sb];cases h:inB b c x<;>simp only[inB] at h<;>simp[h,lpP,inB]),tO,sb]
 cases xs.all (inB b c)<;>rfl
theorem AC(xs:List Int)(f:Int->Option Bool)(g:Int->Bool)(b:∀x,x∈xs->f x=some (g x))(d:xs.length<=1000000000):
  ke xs f=some ((firstP (λk x=>if g x then some (k:Int) else none) xs 0).getD (-1)):=by
 unfold ke;rw[n_ om om,sb];simp only[U_];rw[lq (λk x=>if g x then some (k:Int) else none) xs (λj x a _=>by
  unfold mJ;rw[aq,a,sb,b x (aE a),sb];cases h:g x<;>simp[h,lpP]),sb]
 cases firstP (λk x=>if g x then some (k:Int) else none) xs 0<;>rfl
theorem zE(xs:List Int)(f:Int->Option Bool)(g:Int->Bool)(p:∀x,x∈xs->f x=some (g x))(o:xs.length<=1000000000):
  kb xs f=some (xs.any g):=by
 unfold kb;rw[AC xs f g p o,sb];cases h:firstP (λk x=>if g x then some (k:Int) else none) xs 0 with
 | some r=>
  obtain⟨j,x,i,a⟩:=dJ h;have e:g x=true:=by
   cases d:g x with
   |true=>rfl
   |false=>rw[d] at a;cases a
  have b:xs.any g=true:=xU.2 ⟨x,aE i,e⟩;rw[e,if_pos rfl] at a;cases a
  rw[b];simp
 | none=>
  have b:xs.any g=false:=by
   rw[List.any_eq_false];intro x m d;obtain⟨j,n⟩:=bS.1 m;have:=cL.1 h j x n;rw[d] at this;simp at this
  rw[b];simp
theorem AB(xs:List Int)(b c:Int)(a:xs.length<=1000000000):lf xs b c=some (xs.all (inB b c)):=by
 unfold lf;rw[zE xs _ (λx=> !inB b c x) (λx _=>by unfold iq;rw[fQ,sb];rfl) a,sb];congr 1;rw[List.not_any_eq_all_not];simp
theorem Fi(a b:Int):ft a b=some (if a<b then -1 else if a>b then 1 else 0):=by
 unfold ft dB;simp only[sb,bne_self_eq_false,cl,if_false];by_cases h:a<b
 ·simp[h]
 ·by_cases d:a>b<;>simp[h,d]
theorem xt(a b:Int):io a b=some (decide (a<b)):=by
 unfold io dB;simp[sb]
def sortB:List Int->Bool
  |a::b::r=>decide (a<=b)&&sortB (b::r)
  |_=>true
theorem jq:∀{xs:List Int},sortB xs=true<->∀(k:Nat) a b,xs[k]? =some a->xs[k+1]? =some b->a<=b
 |[]=>by simp[sortB]
 |[a]=>by simp[sortB]
 | a::b::r=>by
  simp only[sortB,aW,decide_eq_true_eq];rw[jq];constructor
  ·rintro⟨g,f⟩ k x y d e;cases k with
   |zero=>simp at d e;subst d;subst e;exact g
   |succ k=>exact f k x y (by simpa using d) (by simpa using e)
  ·intro h;exact⟨h 0 a b rfl rfl,λk x y d e=>h (k+1) x y (by simpa using d) (by simpa using e)⟩
theorem zI(xs:List Int)(p:xs.length<=1000000000)(e:Nat):∀(k:Nat),k<e->k<xs.length->
  loopF (dY xs) e (k:Int)=some (if sortB (xs.take (k+1)) then .inl 0 else .inr false):=by
 induction e with
 |zero=>intro k h;omega
 | succ e ih=>
  intro k o i;cases k with
  | zero=>
   have m:dY xs ((0:Nat):Int)=some (.out 0):=by unfold dY;simp
   have:sortB (xs.take 1)=true:=by
    cases xs with
    |nil=>simp at i
    |cons a r=>simp[sortB]
   simp only[loopF,m,this,an,if_true]
  | succ k=>
   have m:dY xs ((k+1:Nat):Int)=some (if xs[k+1]<xs[k]'om then .ret false else .go (k:Int)):=by
    unfold dY;rw[if_pos (by rw[decide_eq_true_eq];omega)];rw[bM _ _ i,sb,n_ om om,sb,show(((k+1:Nat):Int)-1)=(k:Int) by omega,bM _ _ om,sb,xt,sb];by_cases d:xs[k+1]<xs[k]'om
    ·rw[if_pos (by rw[decide_eq_true_eq];exact d),if_pos d]
    ·rw[if_neg (by rw[decide_eq_true_eq];exact d),if_neg d];first|rfl|(rw[n_ om om,sb,show(((k+1:Nat):Int)-1)=(k:Int) by omega])
   simp only[loopF,m];by_cases d:xs[k+1]<xs[k]'om
   ·have:sortB (xs.take (k+1+1))=false:=by
     rw[Bool.eq_false_iff];intro h;have:=jq.1 h k (xs[k]'om) xs[k+1] (by simp[bO,show k<k+1+1 by omega]) (by simp[bO]);omega
    simp[d,this]
   ·rw[if_neg d];simp only
    rw[ih k om om];have:sortB (xs.take (k+1+1))=sortB (xs.take (k+1)):=by
     rw[oV,jq,jq];constructor
     ·intro h j a b g f;rw[bO] at g f;split at f
      ·rename_i n;refine h j a b ?_ ?_
       ·rw[bO,if_pos om];rw[if_pos om] at g;exact g
       ·rw[bO,if_pos om];exact f
      ·cases f
     ·intro h j a b g f;rw[bO] at g f;by_cases n:j=k
      ·subst n;rw[if_pos om,x_ om] at g f;cases g;cases f;omega
      ·split at f
       ·refine h j a b ?_ ?_
        ·rw[bO,if_pos om];rw[if_pos om] at g;exact g
        ·rw[bO,if_pos om];exact f
       ·cases f
    rw[this]
theorem BA(xs:List Int)(b:Nat)(d:xs.length<b)(e:xs.length<=1000000000):kh b xs=some (sortB xs):=by
 unfold kh;rw[n_ om om,sb];cases xs with
 |nil=>
  cases b with
  |zero=>simp at d
  |succ b=>simp[loopF,dY,sortB]
 |cons a r=>
  have:=zI (a::r) e b r.length (by simp at d;omega) sy;rw[show(((a::r).length:Int)-1)=(r.length:Int) by simp,this,sb];rw[cu sy];cases sortB (a::r)<;>rfl
theorem As(xs:List (List Int))(f:List Int->Option Bool)(g:List Int->Bool)(b:∀x,x∈xs->f x=some (g x))(d:xs.length<=1000000000):
  kd xs f=some ((firstP (λk x=>if g x then some (k:Int) else none) xs 0).getD (-1)):=by
 unfold kd;rw[n_ om om,sb];simp only[U_];rw[lq (λk x=>if g x then some (k:Int) else none) xs (λj x a _=>by
  unfold mH;rw[aq,a,sb,b x (aE a),sb];cases h:g x<;>simp[h,lpP]),sb]
 cases firstP (λk x=>if g x then some (k:Int) else none) xs 0<;>rfl
theorem pV(ps:List Pv)(G:List Int->Option Bool)(g:List Int->Bool)(u:∀p∈ps,G p.x=some (g p.x))(C:ps.length<=1000000000):∀(d j i a:Nat)(L:List Pv),j+d=ps.length->d<a->L.length=ps.length->i<=j->
  L.take i=(ps.take j).filter (λp=> !g p.x)->L.drop j=ps.drop j->
  ∃(k:List Pv)(f:Nat),loopF (dy G) a (L,(i:Int),(j:Int))=some (.inl (k,(f:Int),(ps.length:Int)))∧k.length=ps.length∧f<=ps.length∧k.take f=ps.filter (λp=> !g p.x)
 | 0,j,i,a,L,E,I,y,hi,v,A=>by
  obtain⟨a,rfl⟩:∃q,a=q+1:=⟨a-1,om⟩;have m:dy G (L,(i:Int),(j:Int))=some (.out (L,(i:Int),(j:Int))):=by
   unfold dy;simp only
   rw[if_neg (by simp;omega)]
  refine⟨L,i,?_,y,om,?_⟩
  ·simp only[loopF,m];rw[show j=ps.length by omega]
  ·rw[v,cu om]
 | d+1,j,i,a,L,E,I,y,hi,v,A=>by
  obtain⟨a,rfl⟩:∃q,a=q+1:=⟨a-1,om⟩;have b:j<ps.length:=om;have J:L[j]? =some ps[j]:=by
   have e:=congrArg (λl=>l[0]?) A;simp only[dV,dd] at e;rw[e,x_ b]
  have s:L.drop (j+1)=ps.drop (j+1):=by
   have e:=congrArg (List.drop 1) A;rw[gk,gk] at e;exact e
  have o:(ps.take (j+1)).filter (λp=> !g p.x)=(ps.take j).filter (λp=> !g p.x)++(if g ps[j].x then [] else [ps[j]]):=by
   rw[dv,ey,x_ b];cases h:g ps[j].x<;>simp[h]
  have n:ix L (j:Int)=some ps[j]:=by unfold ix;rw[if_pos om,U_,J]
  cases t:g ps[j].x
  ·have m:dy G (L,(i:Int),(j:Int))=some (.go (L.set i ps[j],((i+1:Nat):Int),((j+1:Nat):Int))):=by
    unfold dy;simp only
    rw[if_pos (by simp;omega),n,sb,u _ (aV b),sb,t,if_pos sy];have e:ix L (i:Int)=some (L[i]'om):=by unfold ix;rw[if_pos om,U_,x_]
    have F:st L (i:Int) ps[j]=some (L.set i ps[j]):=by unfold st;rw[if_pos om,U_]
    rw[e,sb,F,sb,n_ om om,sb,n_ om om,sb];rfl
   have:=pV ps G g u C d (j+1) (i+1) a (L.set i ps[j]) om om (by rw[cG];exact y) om (by
    rw[o,t,<-v,List.take_set,dv,x_ (show i<L.length by omega)];refine fi λq=>?_;rw[db];by_cases D:i=q
    ·subst D;have:(L.take i).length=i:=by rw[aX];omega
     rw[if_pos rfl,if_pos (by simp;omega),cj om,this];simp
    ·rw[if_neg D];by_cases H:q<i
     ·rw[bN (by rw[aX];omega),bN (by rw[aX];omega)]
     ·rw[cT (by simp;omega),cT (by simp;omega)]) (by
    rw[FE om];exact s)
   obtain⟨k,f,B,w⟩:=this;exact⟨k,f,by simp only[loopF,m];exact B,w⟩
  ·have m:dy G (L,(i:Int),(j:Int))=some (.go (L,(i:Int),((j+1:Nat):Int))):=by
    unfold dy;simp only
    rw[if_pos (by simp;omega),n,sb,u _ (aV b),sb,t,if_neg sy,n_ om om,sb];rfl
   have:=pV ps G g u C d (j+1) i a L om om y om (by rw[o,t,v];simp) s;obtain⟨k,f,B,w⟩:=this;exact⟨k,f,by simp only[loopF,m];exact B,w⟩
theorem Fk(a:Nat)(ps:List Pv)(G:List Int->Option Bool)(g:List Int->Bool)(D:∀p∈ps,G p.x=some (g p.x))(B:ps.length<=1000000000)(L:ps.length<a):mK a ps G=some (ps.filter λp=> !g p.x):=by
 unfold mK;rw[As (ps.map λq=>q.x) G g (λx N=>by
  obtain⟨p,b,rfl⟩:=aM.1 N;exact D p b) (by rw[aA];exact B),sb]
 cases A:firstP (λk x=>if g x then some (k:Int) else none) (ps.map λq=>q.x) 0 with
 |none=>
  have t:=cL.1 A;rw[Option.getD_none,if_pos (by rfl)];congr 1;refine (my.2 λp b=>?_).symm;obtain⟨j,I⟩:=mz b;have:=t j p.x (by rw[aZ,I];rfl);cases h:g p.x
  ·rfl
  ·rw[h] at this;simp at this
 | some r=>
  have o:∃k:Nat,r=(k:Int)∧k<ps.length∧∀(i:Nat) p,i<k->ps[i]? =some p->g p.x=false:=by
   clear D B L;have w:∀(xs:List Pv)(k:Nat)(r:Int),firstP (λk x=>if g x then some (k:Int) else none) (xs.map λq=>q.x) k=some r->∃m:Nat,r=((k+m:Nat):Int)∧m<xs.length∧∀(i:Nat) p,i<m->xs[i]? =some p->g p.x=false:=by
    intro xs
    induction xs with
    |nil=>intro k r h;cases h
    | cons x xs ih=>
     intro k r h;simp only[bd,firstP] at h;cases n:g x.x
     ·rw[n] at h;simp only[cl,if_false] at h;obtain⟨m,f,d,E⟩:=ih (k+1) r h;refine⟨m+1,by rw[f];congr 1;omega,by rw[ao];omega,λi p hi b=>?_⟩;cases i with
      |zero=>simp at b;subst b;exact n
      |succ i=>exact E i p om (su b)
     ·rw[n] at h;simp only[if_true,Option.some.injEq] at h;exact⟨0,by rw[<-h];rfl,sy,λi p hi=>absurd hi om⟩
   obtain⟨m,f,d,E⟩:=w ps 0 r A;exact⟨m,by rw[f,an],d,E⟩
  obtain⟨k,rfl,H,C⟩:=o;have F:g ps[k].x=true:=by
   obtain⟨j,x,f,d⟩:=dJ A;rw[an] at d;split at d
   ·rename_i n;cases d
    rw[aZ,x_ H] at f;cases f
    exact n
   ·cases d
  have u:(ps.take k).filter (λp=> !g p.x)=ps.take k:=my.2 λp b=>by
   obtain⟨i,hi⟩:=mz b;rw[bO] at hi;split at hi
   ·rename_i y;rw[C i p y hi];rfl
   ·cases hi
  have e:(ps.take (k+1)).filter (λp=> !g p.x)=ps.take k:=by
   rw[dv,ey,u,x_ H];simp[F]
  obtain⟨s,v,K,Q,R,J⟩:=pV ps G g D B (ps.length-(k+1)) (k+1) k a ps om om rfl om e.symm rfl;rw[dT,if_neg sy,n_ om om,sb,show((k:Int)+1)=((k+1:Nat):Int) by omega,K,sb];have M:cut s (v:Int) s.length=some (s.drop v):=by
   unfold cut;rw[if_pos om];simp
  have O:cut s 0 (v:Int)=some (s.take v):=by
   unfold cut;rw[if_pos om];simp
  simp only
  rw[M,sb,sb,O,sb,J]
def delL(G:List Int->Option Bool)(xs:List (List Int)):Option (List (List Int)):=if(decide (xs.length<=1000000000)&&xs.all λx=>(G x).isSome)=true then some (xs.filter λx=>(G x).getD true==false) else none
def apD(a b:Pv):Prop:=∀g,a.v.ownBlock=some g->b.v.ownBlock≠some g
def sl3(w:World)(G:Nat):World:={w with heap:=w.heap.extract 0 G}
set_option maxRecDepth 100000 in
set_option maxHeartbeats 2000000 in
theorem De{k kr:Nat}{o:Tg}{y w:World}{v u:Value}{vs:List Hv}{xs ys:List (List Int)}{G:List Int->Option Bool}(h:Ow y.heap.size 51 k o w v vs)(hr:Rws y.heap.size 3 kr o w vs xs)(F:Keeps y w)(hfn:FnV Gz y u G)(hk:k≠0)(hkr:kr≠0)(hne:kr≠k)(hF:delL G xs=some ys):
  Calls Gz 136 #[v,u] w λe w'=>∃v' vs' Q,e=.returned v'∧Ow y.heap.size 51 k Q w' v' vs'∧Rws y.heap.size 3 kr Q w' vs' ys∧Stp k o w Q w':=by
 unfold delL at hF;split at hF
 rotate_left
 ·cases hF
 rename_i E;rw[aW,decide_eq_true_eq,bE] at E;obtain⟨hl,W⟩:=E;cases hF
 have hB:y.heap.size<=w.heap.size:=F.size
 -- the rows under their values
 obtain⟨r1,r2,r3⟩:=hr;let ps:List Pv:=List.zipWith (λu x=>(⟨u.v,x⟩:Pv)) vs xs
 have R:ps.length=xs.length:=by show(List.zipWith _ vs xs).length=_;rw[FF,r1,ya]
 have hpi:∀(i:Nat)(u:Hv)(x:List Int),vs[i]? =some u->xs[i]? =some x->ps[i]? =some (⟨u.v,x⟩:Pv):=λi u x a b=>by
  show(List.zipWith _ vs xs)[i]? =_;rw[FG,a,b]
 have hpx:ps.map (·.x)=xs:=by
  apply fi;intro i;by_cases hi:i<xs.length
  ·rw[aZ,hpi i (vs[i]'om) xs[i] (x_ om) (x_ hi),x_ hi];rfl
  ·rw[cT (by rw[aA,R];omega),cT om]
 have K:∀(i:Nat)(p:Pv),ps[i]? =some p->vs[i]? =some (⟨p.v⟩:Hv)∧xs[i]? =some p.x:=λi p d=>by
  have hi:i<xs.length:=by have:=(Y_.1 d).1;omega
  have:=hpi i (vs[i]'om) xs[i] (x_ om) (x_ hi);rw[d] at this;cases this
  exact⟨x_ om,x_ hi⟩
 have M:∀p∈ps,Ow y.heap.size 3 kr o w p.v p.x:=λp d=>by
  obtain⟨i,hi⟩:=mz d;obtain⟨a,b⟩:=K i p hi;exact r2 i ⟨p.v⟩ p.x a b
 have hpin:∀p∈ps,p.x∈xs:=λp d=>by rw[<-hpx];exact aM.2 ⟨p,d,rfl⟩
 have hG:∀p∈ps,G p.x=some ((G p.x).getD true):=λp d=>by
  have:=W p.x (hpin p d);cases T:G p.x with
  |none=>rw[T] at this;cases this
  |some b=>rfl
 have hap:ps.Pairwise apD:=by
  rw[dw];intro i j hi hj hij g h1 h2;obtain⟨a1,b1⟩:=K i _ (x_ hi);obtain⟨a2,b2⟩:=K j _ (x_ hj);have:=r3 i j _ _ g a1 a2 h1 h2;omega
 let s:Tg:=frz kr o
 have ho2:∀b,o b=k->s b=k:=λb f=>by show(if o b=kr then 0 else o b)=k;rw[f,if_neg (V_ hne)]
 have L:∀b,s b=k->o b=k:=λb f=>by
  have f:(if o b=kr then 0 else o b)=k:=f;split at f
  ·exact absurd f.symm hk
  ·exact f
 have hrd2:∀p∈ps,RdL s w p.v p.x:=λp d=>(M p d).frz;have t:Ow y.heap.size 51 k s w v ps:=by
  obtain⟨css,c1,Z,c3,c4⟩:=h;refine⟨css,by rw[c1,r1,R],?_,λg T=>ho2 g (c3 g T),λi cs p hc d=>?_⟩
  ·rw[R,<-r1];exact Z
  ·obtain⟨a,b⟩:=K i p d;obtain⟨Y,J⟩:=c4 i cs _ hc a;exact⟨Y,J,hrd2 p (aE d)⟩
 clear h r2 r3
 -- as the call sees it
 let I:Nat:=match v.ownBlock with|some g=>g|none=>w.heap.size
 let wb:World:=sl3 w I
 let oo:Tg:=λb=>if s b=0 then 0 else 1
 let H:Tg:=λb=>if v.ownBlock=some b then 10 else if s b=0 then 0 else 1
 have hGw:I<=w.heap.size:=by
  show(match v.ownBlock with|some g=>g|none=>w.heap.size)<=_;cases V:v.ownBlock with
  |none=>exact K_ _
  |some g=>exact Nat.le_of_lt (t.ltw g V).2
 have hBG:y.heap.size<=I:=by
  show y.heap.size<=(match v.ownBlock with|some g=>g|none=>w.heap.size);cases V:v.ownBlock with
  |none=>exact hB
  |some g=>exact(t.ltw g V).1
 have A:wb.heap.size=I:=by show(w.heap.extract 0 I).size=I;simp;omega
 have S:∀g,v.ownBlock=some g->s g=k:=t.tagged;have hKb:Keeps y wb:=by
  refine⟨F.os,F.tape,F.output,by rw[A];exact hBG,λb f=>?_⟩;show(w.heap.extract 0 I)[b]? =y.heap[b]?;rw[qZ,if_pos om,an];exact F.block b f
 have hBs:Bs oo H wb w:=by
  refine⟨⟨rfl,rfl,rfl,by rw[A];exact hGw,λb f=>?_⟩,λb f=>?_⟩
  ·show w.heap[b]? =(w.heap.extract 0 I)[b]?;rw[qZ];rw[A] at f;rw[if_pos om];simp
  ·rw[A] at f;show(if v.ownBlock=some b then 10 else if s b=0 then 0 else 1)=if(if s b=0 then 0 else 1)=0 then 0 else 1;rw[if_neg (λe=>by
    have:I=b:=by show(match v.ownBlock with|some g=>g|none=>w.heap.size)=b;rw[e]
    omega)]
   split<;>simp
 have hO:∀b,b<w.heap.size->H b≠999:=λb _=>by
  show(if v.ownBlock=some b then 10 else if s b=0 then 0 else 1)≠999;split
  ·decide
  ·split<;>decide
 have h10:∀b,s b=0->H b=0:=λb f=>by
  show(if v.ownBlock=some b then 10 else if s b=0 then 0 else 1)=0;rw[if_neg (λe=>by have:=S b e;rw[f] at this;exact hk this.symm),if_pos f]
 have hsp2:Ow wb.heap.size 51 10 H w v ps:=by
  obtain⟨css,c1,Z,c3,c4⟩:=t;refine⟨css,c1,⟨Z.1,?_⟩,λg T=>if_pos T,λi cs p hc d=>?_⟩
  ·rcases Z.2 with q|⟨g,cap,U,rfl,q⟩
   ·exact .inl q
   ·refine .inr ⟨g,cap,U,rfl,?_,q.2⟩;rw[A];exact K_ _
  ·obtain⟨Y,J,q3⟩:=c4 i cs p hc d;exact⟨Y,J,q3.mv (K_ _) λb _ f=>⟨rfl,h10 b f⟩⟩
 refine (yA 1000000001 wb w oo H hBs hO v ps hsp2 u G (hfn.keep hKb) _ (Fk 1000000001 ps G (λx=>(G x).getD true) hG om om)).mono ?_;rintro e2 w2 ⟨v2,o3,rfl,N,hBs3,m⟩
 -- what is left
 have O:(ps.filter λp=> !(G p.x).getD true).map (·.x)=xs.filter λx=>(G x).getD true==false:=by
  rw[<-hpx,List.filter_map];congr 1;refine oR λp _=>?_;show(!(G p.x).getD true)=((G p.x).getD true==false);cases (G p.x).getD true<;>rfl
 have D:(ps.filter λp=> !(G p.x).getD true).Sublist ps:=FH;generalize (ps.filter λp=> !(G p.x).getD true)=r at N O D;have hmem:∀p∈r,p∈ps:=λp d=>D.subset d;let Q:Tg:=λb=>if b<w.heap.size then o b else if o3 b=10 then k else 0
 have B:Stp k o w Q w2:=by
  refine⟨m.os,m.tape,m.output,m.size,λb f hnk=>?_,λb f=>if_pos f⟩;exact m.block b f (λe=>by
   have e:(if v.ownBlock=some b then 10 else if s b=0 then 0 else 1)=10:=e;split at e
   ·rename_i V;exact hnk (L b (S b V))
   ·split at e<;>cases e)
 have X:∀p∈r,Ow y.heap.size 3 kr Q w2 p.v p.x:=λp d=>(M p (hmem p d)).stp B hk hne;have hapr:r.Pairwise apD:=hap.sublist D;refine⟨v2,r.map λp=>⟨p.v⟩,Q,rfl,?_,⟨?_,?_,?_⟩,B⟩
 ·obtain⟨css,c1,Z,c3,c4⟩:=N;refine⟨css,by simpa using c1,?_,λg T=>?_,λi cs u hc n=>?_⟩
  ·rw[aA];obtain⟨Y,J⟩:=Z;refine⟨Y,?_⟩;rcases J with J|⟨g,cap,U,e,q3,q4⟩
   ·exact .inl J
   ·rw[A] at q3;exact .inr ⟨g,cap,U,e,aH hBG q3,q4⟩
  ·have e3:=c3 g T;show(if g<w.heap.size then o g else if o3 g=10 then k else 0)=k;split
   ·rename_i hgl;have e4:=m.own g hgl;rw[e3] at e4;have e5:(if v.ownBlock=some g then 10 else if s g=0 then 0 else 1)=10:=e4.symm;split at e5
    ·rename_i V;exact L g (S g V)
    ·split at e5<;>cases e5
   ·simp
  ·rw[aZ] at n;cases d:r[i]? with
   |none=>rw[d] at n;cases n
   |some p=>
    rw[d] at n;cases n
    obtain⟨Y,J,_⟩:=c4 i cs p hc d;exact⟨Y,J⟩
 ·rw[aA,<-O,aA]
 ·intro i u x n hx;rw[aZ] at n;rw[<-O,aZ] at hx;cases d:r[i]? with
  |none=>rw[d] at n;cases n
  |some p=>
   rw[d] at n hx;cases n;cases hx
   exact X p (aE d)
 ·intro i j u u' g n C h1 h2;rw[aZ] at n C;cases d:r[i]? with
  |none=>rw[d] at n;cases n
  | some p=>
   cases hq:r[j]? with
   |none=>rw[hq] at C;cases C
   |some q=>
    rw[d] at n;rw[hq] at C;cases n;cases C
    obtain⟨hi,ei⟩:=Y_.1 d;obtain⟨hj,ej⟩:=Y_.1 hq;have hpw:=dw.1 hapr;rcases oW i j with hlt|heq|hgt
    ·have:=hpw i j hi hj hlt g;rw[ei,ej] at this;exact absurd h2 (this h1)
    ·exact heq
    ·have:=hpw j i hj hi hgt g;rw[ei,ej] at this;exact absurd h1 (this h2)
end Go.Proofs.YtpefhaamcihneaaGreat
