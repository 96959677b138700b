/- Part 24 of what this claim rests on (pack.py). -/
import Derived.Test.YtpefhaamcihneaaGreatP23
namespace Go.Proofs.YtpefhaamcihneaaGreat
open Tryz renaming prog→Gz, isAgg31→GG, sizeOf31→GD, results23→IP, underlying31→GF, sizeOf22→GI, isAgg22→GK, underlying22→GE, sizeOf51→GH, underlying51→GA, sizeOf3→GB, zeroValue51→GO, zeroValue28→Hp, results24→HA, isAgg28→GR, sizeOf28→GS, underlying26→GL, zeroValue31→GM, underlying28→GP, sizeOf26→GW
set_option linter.unusedSimpArgs false
set_option linter.unusedVariables false
set_option maxRecDepth 100000
set_option maxHeartbeats 2000000
open Go.RowKit
def gH(d:Nat)(f:c_)(a:Yl):Int->Yk->Option (Lp Yk Yk (Yk×Bool)):=λb s=>(ck (b+1))>>=λg=>(cut a b g)>>=λi=>(cut a b a.length)>>=λj=>(eU d f i j)>>=λc=>if c.2 then(push s c.1)>>=λk=>some (.out k) else some (.go s)
def kw(b:Nat)(c:c_):Int->Yl->Yk->Option (Lp Yk Yk (Yk×Bool)):=λg a s=>ck (a.length:Int)>>=λ_=>(forN (gH b c a) ((a.length:Int)).toNat 0 s)>>=λd=>match d with| .inl f=>some (.go f)| .inr _=>none
def hX(b:Nat)(a:c_):Option (Yk×Bool):=(dF b a)>>=λd=>if !d then some ([],false) else(forI (kw b a) a.Nodes 0 [])>>=λf=>match f with| .inl c=>if decide ((c.length:Int)<(a.Nodes.length:Int)) then some ([],false) else some (c,true)| .inr _=>none
def yW(f:Tg)(t:Nat)(w:World)(r:Yk×Bool):Ending->World->Prop:=λe w'=>∃(c:Value)(d:List Hv)(a:Tg),e=.returned (.tuple #[c,.bool r.2])∧Ow w.heap.size 51 t a w' c d∧Rws w.heap.size 3 (t+1) a w' d r.1∧Keeps w w'∧∀b,b<w.heap.size->a b=f b
theorem rM(N:Nat)(w:World)(u:Tg)(t:Nat)(T:2<=t)(T:List Value)(f:c_)(U:Rp.rd zt w T f)(r:Yk×Bool)(j:hX N f=some r):
    Calls Gz 23 #[.agg T.toArray] w (yW u t w r):=by
 unfold hX at j;obtain⟨x,J,rfl,M,a1⟩:=U;have d:Bs u (col u) w w:=Bs.start _ _;refine y_ (n:=52) (vs:=[.agg #[ZI f.Labels,ZI f.Degree,x,J]]) Tryz.func23 rfl rfl ?_;generalize col u=o at*;refine Zq (Zo ?_);refine Z_ (o:=o) w.heap.size 11 d.keeps.size (cs:=[ZI f.Labels,ZI f.Degree,x,J]) rfl rfl ?_;intro G V H g W;replace d:=d.stp W;refine Za rfl (Za rfl (Zy (b_ (Zq (Zv (F_ rfl GG GD rfl g.cells) ?_)))));obtain⟨T,U,j⟩:=a_ j;refine Zo ?_;refine j_ (fH N V _ f (⟨_,_,rfl,M.keep d.keeps,a1.keep d.keeps⟩) T U) Tryz.call20 ⟨rfl,trivial⟩ ?_;rintro T T ⟨rfl,U⟩;have V:=U.stp 999 G;refine⟨_,rfl,?_⟩;obtain⟨g,d⟩:=ZS V (A2 g d);refine Zv (ag rfl) (Zy ?_);refine Zi rfl j (λU j=>?_) (λU j=>?_)
 ·refine Zq (Za rfl (Za rfl (Zy (i_ (t_ ?_)))));obtain rfl:=Zj j;refine Zr IP [.slice none 0 0,.bool false] ?_;exact⟨_,[],rt2 u G w.heap.size 9 8 t,rfl,Ow.nil _ _ _ _ _,Rws.nil _ _ _ _ _,d.keeps,cB _ _ _ _ _ _⟩
 ·refine f_ (Zn (Za rfl (Zy (b_ (Zq (Zv (s_ rfl GF rfl GI) (Zv (e_ rfl GK (g.cell rfl)) (Zv (C_ rfl M GE) (Zm rfl (Zy ?_))))))))));have U:Oz w 51 13 G T (.slice none 0 0) ([]:List Hv):=Ow.nil _ _ _ _ _;have V:Rq w 3 14 G T [] ([]:Yk):=Rws.nil _ _ _ _ _;obtain⟨T,W,j⟩:=a_ j;refine D_ (λa y=>∃I C D k,T=.inl I∧Fr a 52 [(1,ZP H),(4,C)]∧Bs u k w y∧Oz w 51 13 k y C D∧Rq w 3 14 k y D I∧Bz w 11 k y H 31 [ZI f.Labels,ZI f.Degree,x,J]) (λ_ _=>False) ?_ ?_ ?_
  ·refine k_ ?_;refine B_ (λ(K:Nat) a y=>∃(E:Int),∃I C D k,forI (kw N f) (f.Nodes.drop E.toNat) E I=some T∧(f.Nodes.drop E.toNat).length=K∧0<=E∧Fr a 52 [(1,ZP H),(4,C),(14,x),(15,ZI (f.Nodes.length:Int)),(16,ZI E)]∧Bs u k w y∧Oz w 51 13 k y C D∧Rq w 3 14 k y D I∧Bz w 11 k y H 31 [ZI f.Labels,ZI f.Degree,x,J]) _ (λa b=>⟨0,[],.slice none 0 0,[],G,W,rfl,N_ 0,b.sb,d,U,V,g⟩) ?_;rintro G a y ⟨E,I,C,D,k,a2,a7,T,b,d,O,P,g⟩;by_cases R:E<(f.Nodes.length:Int)
   ·obtain⟨G,U,U,L,a8⟩:=ai T R a2;have T:=M.len_le;dsimp only[kw] at L;refine q_ b ?_;refine Zq (Zv (o_ rfl rfl) (Zy (b_ ?_)));refine R_ (Zb (decide_eq_true R)) ?_;refine f_ (nx (b_ (k_ (Zq (Zo ?_)))));refine wf_atZ M U d rfl rfl GE GH ?_;intro T T T T U;obtain⟨V,rfl,W⟩:=U;refine Zv (e_ rfl Tryz.isAgg51 (G_ T)) (Za rfl (Ze [(1,_),(4,_),(6,_),(14,_),(15,_),(16,_)] (Zn (Zm rfl (Zv (C_ rfl W GA) (Zm rfl (Zy ?_)))))));obtain⟨T,T,L⟩:=a_ L;obtain⟨-,U,U⟩:=bl T;obtain⟨T,U,L⟩:=a_ L;refine D_ (λa l=>∃p A q s,T=.inl p∧Fr a 52 [(1,ZP H),(4,A),(14,x),(15,ZI (f.Nodes.length:Int)),(16,ZI E)]∧Bs u s w l∧Oz w 51 13 s l A q∧Rq w 3 14 s l q p∧Bz w 11 s l H 31 [ZI f.Labels,ZI f.Degree,x,J]) (λ_ _=>False) ?_ ?_ ?_
    ·refine k_ ?_;refine B_ (λ(K:Nat) a l=>∃(B:Int),∃p A q s,forN (gH N f G) ((G.length:Int)-B).toNat B p=some T∧((G.length:Int)-B).toNat=K∧0<=B∧Fr a 52 [(1,ZP H),(4,A),(6,V),(14,x),(15,ZI (f.Nodes.length:Int)),(16,ZI E),(21,ZI (G.length:Int)),(22,ZI B)]∧Bs u s w l∧Oz w 51 13 s l A q∧Rq w 3 14 s l q p∧Bz w 11 s l H 31 [ZI f.Labels,ZI f.Degree,x,J]) _ (λa b=>⟨0,I,C,D,k,(by rw[bU];exact U),rfl,N_ 0,b.sb,d,O,P,g⟩) ?_;rintro T a l ⟨B,p,A,q,s,a3,a9,T,b,d,F,m,g⟩;by_cases S:B<(G.length:Int)
     ·obtain⟨G,i,a4⟩:=bB S a3;dsimp only[gH] at i;refine q_ b ?_;refine Zq (Zv (o_ rfl rfl) (Zy (b_ ?_)));refine R_ (Zb (decide_eq_true S)) ?_;refine f_ (nx (b_ (k_ (Zq (Zm rfl (Za rfl (Zy (b_ ?_))))))));obtain⟨b0,b1,i⟩:=a_ i;obtain⟨X,b2,i⟩:=a_ i;obtain⟨Y,b3,i⟩:=a_ i;obtain⟨G,b4,i⟩:=a_ i;refine ZW (Bf:=λT U=>Bs u T w U∧Oz w 51 13 T U A q∧Rq w 3 14 T U q p∧Bz w 11 T U H 31 [ZI f.Labels,ZI f.Degree,x,J]) [(1,_),(4,_),(6,_),(7,_),(14,_),(15,_),(16,_),(21,_),(22,_)] (Zrg 26 10++[25,36,37,8]) [[],[],[],[],[3],[1,2,4],[],[],[6,7],[0,5,8],[9],[10],[10],[11]] (Zcn 14) (Zt9 14) [0,0,0,0,0,0,0,0,0,15,15,15,0,15] [999] [.inl (.agg #[ZI f.Labels,ZI f.Degree,x,J]),.inl V,.inl (ZI B),.inl (ZI B),.inl (ZI b0),.inr (λv o x=>RdL zt w v X),.inl V,.inl (ZI B),.inr (λv o x=>RdL zt w v Y),.inr (λv o x=>∃H,v=.tuple #[H,.bool G.2]∧Oz w 3 15 o x H (G.1:Yl)),.inr (λv o x=>∃H,v=.tuple #[H,.bool G.2]∧Oz w 3 15 o x H (G.1:Yl)),.inr (λv o x=>Oz w 3 15 o x v (G.1:Yl)),.inl (.bool G.2),.inr (λv o x=>Oz w 3 15 o x v (G.1:Yl))] ⟨d,F,m,g⟩ ⟨λ_ _ _ _ _ _ x hb h hs=>h,λ_ _ _ _ _ _ x hb h hs=>h,λ_ _ _ _ _ _ x hb ⟨H,e,J⟩ hs=>⟨H,e,J.stp hs x.1 (V_ hb)⟩,λ_ _ _ _ _ _ x hb ⟨H,e,J⟩ hs=>⟨H,e,J.stp hs x.1 (V_ hb)⟩,λ_ _ _ _ _ _ x hb h hs=>h.stp hs x.1 (V_ hb),λ_ _ _ _ _ _ x hb h hs=>h.stp hs x.1 (V_ hb),trivial⟩ ?_ ?_
      ·refine⟨Dq λh=>F_ rfl GG GD rfl h.2.2.2.cells,Dp (d_ rfl),Dp (d_ rfl),Dp (d_ rfl),Dp (u_ rfl rfl b1),?_,Dp (d_ rfl),Dp (d_ rfl),?_,?_,?_,?_,?_,?_,trivial⟩
       ·rintro x x x b- -;refine Zs b ?_;refine mh W b2 rfl rfl rfl GA GB ?_;intro x x;exact⟨_,Stp.refl _ _ _,x⟩
       ·rintro x x x b- -;refine Zs b ?_;refine mh W b3 rfl rfl rfl GA GB ?_;intro x x;exact⟨_,Stp.refl _ _ _,x⟩
       ·rintro T U x b ⟨d,F,m,g⟩ ⟨H,J,-⟩;replace H:RdL zt w (x.tmps.getD 31 undef) X:=H;generalize V:x.tmps.getD 31 undef=W at H;have b:=b.c V;replace J:RdL zt w (x.tmps.getD 34 undef) Y:=J;generalize V:x.tmps.getD 34 undef=x at J;have b:=b.c V;refine Zs b ?_;refine j_ (tK N U T 15 dc _ f (⟨_,_,rfl,M.keep d.keeps,a1.keep d.keeps⟩) _ X (H.keep d.keeps) _ Y (J.keep d.keeps) G b4) Tryz.call44 ⟨rfl,rfl,rfl,trivial⟩ ?_;rintro f f ⟨f,f,rfl,f,x,H⟩;have J:=x.stp' 999 H;replace f:=f.mono d.keeps.size;refine⟨_,rfl,?_⟩;exact⟨_,J,⟨_,rfl,f⟩⟩
       ·rintro f f f b- ⟨f,-⟩;obtain⟨x,x,H⟩:=f;have b:=b.c x;refine Zs b ?_;refine M_ (d_ rfl) ?_;exact⟨_,Stp.refl _ _ _,⟨_,rfl,H⟩⟩
       ·rintro f f f b- ⟨f,-⟩;obtain⟨x,x,H⟩:=f;have b:=b.c x;refine Zs b ?_;refine M_ (H_ rfl rfl) ?_;exact⟨_,Stp.refl _ _ _,H⟩
       ·rintro f f f b- ⟨f,-⟩;obtain⟨x,x,H⟩:=f;have b:=b.c x;refine Zs b ?_;refine M_ (H_ rfl rfl) ?_;exact Zx rfl
       ·rintro H J x b- ⟨f,-⟩;replace f:Oz w 3 15 H J (x.tmps.getD 36 undef) (G.1:Yl):=f;generalize H:x.tmps.getD 36 undef=x at f;have b:=b.c H;refine Zs b ?_;refine M_ (bc rfl) ?_;exact⟨_,Stp.refl _ _ _,f⟩
      rintro _ rfl Z H x b ⟨d,F,m,g⟩ ⟨-,-,-,-,-,f,-⟩;replace f:Oz w 3 15 Z H (x.tmps.getD 8 undef) (G.1:Yl):=f;generalize G:x.tmps.getD 8 undef=Q at f;have b:=b.c G;refine O_ b ?_;refine Za rfl (Ze [(1,_),(4,_),(6,_),(8,_),(9,_),(14,_),(15,_),(16,_),(21,_),(22,_)] (Zn (Zm rfl (Zy ?_))));refine Zi rfl i (λx i=>?_) (λx i=>?_)
      ·refine Zq (Zm rfl (Zm rfl (Zo ?_)));refine ap (o:=Z) (cs:=[Q]) (xs:=([⟨Q⟩]:List Hv)) (vs:=[(0,Q)]) ⟨_,_,rfl,bY f,rfl⟩ rfl ⟨rfl,rfl,trivial⟩ GE GH GO dc (fill1 f.cells1) sy ?_;intro x x x x G H;obtain⟨F,m,f,g,d⟩:=ZS G (A5 F m f g d);obtain⟨b5,G,i⟩:=a_ i;obtain⟨H,J⟩:=m.pushV G Q;refine Zo ?_;refine am F x (av H) dc d.keeps.size rfl rfl GE fz rfl dc ?_;intro a5 x b6 a0 x;obtain⟨m,f,g,d⟩:=ZS x (A4 m f g d);have a6:=m.push f dc dc;rw[<-J] at a6;clear m f;have f:=bL 15 14 a5;replace a0:=a0.rc f dc dc;replace g:=g.rc f dc;replace d:=d.rc f dc;generalize mrg 15 14 a5=b7 at*;refine Za rfl (Zy ?_);refine z_ ?_;refine oA dc ?_;refine g_ (g_ (A_ ?_));refine r_ ?_;obtain rfl:=Zj i;refine Zk [(1,_),(4,_),(14,_),(15,_),(16,_)] ?_;intro a b;exact⟨b5,b6,q++[⟨Q⟩],b7,a4,b,d,a0,a6,g⟩
      ·refine f_ (w_ (nx (h_ (Zv (u_ rfl rfl (n_ om om)) (Zm rfl (Zf (v_ ?_)))))));obtain rfl:=Zj i;refine Zk [(1,_),(4,_),(6,_),(14,_),(15,_),(16,_),(21,_),(22,_)] ?_;intro a b;exact⟨_,(by rw[<-a9];omega),B+1,p,A,q,Z,a4,rfl,om,b,d,F,m,g⟩
     ·have f:=bA S a3;refine q_ b ?_;refine Zq (Zv (o_ rfl rfl) (Zy (b_ ?_)));refine Q_ (Zb (decide_eq_false S)) ?_;refine z_ ?_;refine g_ (g_ (A_ ?_));refine r_ ?_;refine Zk [(1,_),(4,_),(14,_),(15,_),(16,_)] ?_;intro a b;exact⟨p,A,q,s,f,b,d,F,m,g⟩
    ·rintro a l ⟨p,A,q,s,rfl,b,d,F,m,g⟩;dsimp only at L;refine ap_k b ?_;refine w_ (nx (h_ (Zv (u_ rfl rfl (n_ om om)) (Zm rfl (Zf (v_ ?_))))));obtain rfl:=Zj L;refine Zk [(1,_),(4,_),(14,_),(15,_),(16,_)] ?_;intro a b;exact⟨_,(by rw[<-a7];simp only[T_];omega),E+1,p,A,q,s,a8,rfl,om,b,d,F,m,g⟩
    ·exact λ_ _ h=>h.elim
   ·have f:=ak R a2;refine q_ b ?_;refine Zq (Zv (o_ rfl rfl) (Zy (b_ ?_)));refine Q_ (Zb (decide_eq_false R)) ?_;refine z_ ?_;refine g_ (g_ (A_ ?_));refine r_ ?_;refine Zk [(1,_),(4,_)] ?_;intro a b;exact⟨I,C,D,k,f,b,d,O,P,g⟩
  ·rintro a y ⟨I,C,D,k,rfl,b,d,O,P,g⟩;dsimp only at j;refine ap_k b ?_;refine nx (b_ (Zq (Zm rfl (Zv (C_ rfl (P.z O) GE) (Zv (s_ rfl GF rfl GI) (Zv (e_ rfl GK (g.cell rfl)) (Zv (C_ rfl M GE) (Zv (o_ rfl rfl) (Zy ?_)))))))));refine Zi rfl j (λb j=>?_) (λb j=>?_)
   ·refine Zq (Za rfl (Za rfl (Zy (i_ (t_ ?_)))));obtain rfl:=Zj j;refine Zr IP [.slice none 0 0,.bool false] ?_;exact⟨_,[],rt2 u k w.heap.size 9 8 t,rfl,Ow.nil _ _ _ _ _,Rws.nil _ _ _ _ _,d.keeps,cB _ _ _ _ _ _⟩
   ·refine f_ (Zn (Zm rfl (Za rfl (Za rfl (Zy (i_ ?_))))));obtain rfl:=Zj j;refine Zr IP [C,.bool true] ?_;exact⟨_,D,rt2 u k w.heap.size 13 14 t,rfl,O.rt2 d dc dc t,P.rt2 d dc dc dc t,d.keeps,cB _ _ _ _ _ _⟩
  ·exact λ_ _ h=>h.elim
section
def PrsN(N B:Nat)(o:Tg)(w:World)(gs:List Qv)(ps:List c_):Prop:=
  (N<=w.heap.size∧B<=N)∧gs.length=ps.length∧∃lo hi:Nat->Nat,(∀(i:Nat) g p,gs[i]? =some g->ps[i]? =some p->Pc (lo i) (hi i) o w g.cs p)∧
    (∀i,i<ps.length->B<=lo i∧hi i<=N)∧∀i j,i<j->j<ps.length->hi i<=lo j
def PcA(N:Nat)(p:c_):Pr:=λv o w=>∃(c:List Value)(n m:Nat),v=.agg c.toArray∧Pc n m o w c p∧N<=n∧m<=w.heap.size
def PcB(N:Nat)(p:c_):Pr:=λv o w=>∃(c:List Value)(n m:Nat),RdL o w v ([⟨c⟩]:List Qv)∧Pc n m o w c p∧N<=n∧m<=w.heap.size
section
variable {o o':Tg} {w w':World} {v:Value} {t:Nat} {N N' B n m:Nat} {gs:List Qv} {ps:List c_} {p:c_} {cs:List Value}
theorem PcA.stp(h:PcA N p v o w)(s:Stp t o w o' w')(d:t≠0:=by decide):PcA N p v o' w':=by
 obtain⟨c,n,m,e,b,a,f⟩:=h;exact⟨c,n,m,e,b.stp s d,a,aH f s.size⟩
theorem PcB.stp(h:PcB N p v o w)(s:Stp t o w o' w')(a:t≠0:=by decide):PcB N p v o' w':=by
 obtain⟨c,n,m,e,d,b,f⟩:=h;exact⟨c,n,m,e.stp s a,d.stp s a,b,aH f s.size⟩
theorem PrsN.nil(N B:Nat)(o:Tg)(a:B<=N)(h:N<=w.heap.size):PrsN N B o w [] []:=⟨⟨h,a⟩,rfl,λ_=>0,λ_=>0,λi g p h=>by simp at h,λi h=>by simp at h,λi j _ h=>by simp at h⟩
theorem PrsN.size(h:PrsN N B o w gs ps):N<=w.heap.size:=h.1.1
theorem PrsN.low(h:PrsN N B o w gs ps):B<=N:=h.1.2
theorem PrsN.stp(h:PrsN N B o w gs ps)(s:Stp t o w o' w')(f:t≠0:=by decide):PrsN N B o' w' gs ps:=by
 obtain⟨d,j,lo,hi,e,k⟩:=h;exact⟨⟨aH d.1 s.size,d.2⟩,j,lo,hi,λi g p a b=>(e i g p a b).stp s f,k⟩
theorem PrsN.rc(h:PrsN N B o w gs ps)(r:Rtc t o o')(f:t≠0):PrsN N B o' w gs ps:=by
 obtain⟨e,j,lo,hi,d,k⟩:=h;exact⟨e,j,lo,hi,λi g p a b=>(d i g p a b).mv0 λb q=>r.zero f q,k⟩
theorem PrsN.grow(h:PrsN N B o w gs ps)(d:N<=N')(k:N'<=w.heap.size):PrsN N' B o w gs ps:=by
 obtain⟨f,g,lo,hi,e,b,j⟩:=h;exact⟨⟨k,aH f.2 d⟩,g,lo,hi,e,λi a=>⟨(b i a).1,aH (b i a).2 d⟩,j⟩
theorem PrsN.pushV(h:PrsN N B o w gs ps){a:List c_}(d:Go.Proofs.YtpefhaamcihneaaGreat.push ps p=some a)(g:Qv):Go.Proofs.YtpefhaamcihneaaGreat.push gs g=some (gs++[g])∧a=ps++[p]:=by
 obtain⟨b,rfl⟩:=pJ d;exact⟨by unfold Go.Proofs.YtpefhaamcihneaaGreat.push;rw[if_pos (by rw[h.2.1];exact b)],rfl⟩
theorem PrsN.push(h:PrsN N B o w gs ps)(D:Pc n m o w cs p)(G:N<=n)(E:m<=w.heap.size)(y:B<=n):PrsN w.heap.size B o w (gs++[⟨cs⟩]) (ps++[p]):=by
 obtain⟨u,x,lo,hi,C,k,F⟩:=h;refine⟨⟨K_ _,aH u.2 u.1⟩,by simp[x],λi=>if i<ps.length then lo i else n,λi=>if i<ps.length then hi i else m,λi g q a b=>?_,λi hi'=>?_,λi j s A=>?_⟩
 ·by_cases d:i<ps.length
  ·rw[bN om] at a;rw[bN d] at b;simp only[if_pos d];exact C i g q a b
  ·have f:i=ps.length:=by have:=(Y_.1 b).1;simp at this;omega
   subst f;rw[<-x,cj om] at a;rw[cj om] at b;simp at a b;subst a;subst b;simp only[if_neg d];exact D
 ·by_cases d:i<ps.length
  ·simp only[if_pos d];exact⟨(k i d).1,aH (k i d).2 u.1⟩
  ·simp only[if_neg d];exact⟨y,E⟩
 ·simp only[ar,bn] at A;have d:i<ps.length:=om;simp only[if_pos d];by_cases e:j<ps.length
  ·simp only[if_pos e];exact F i j s e
  ·simp only[if_neg e];exact aH (k i d).2 G
end
def OwS(S:Nat->Prop)(w:World)(v:Value)(LL:List (List Int)):Prop:=
  ∃vs,MatIn 0 w v vs LL∧(∀k,v.ownBlock=some k->S k)∧∀i,i<LL.length->∀k,(vs.getD i undef).ownBlock=some k->S k
def OwQT(T:Nat->Nat)(w:World)(v:Value)(ps:List c_):Prop:=
  ∃css:List (List Value),css.length=ps.length∧w.ownsRow 0 31 4 v ps.length css.flatten∧(∀k,v.ownBlock=some k->T k=1)∧
    ∀(i:Nat) cs p,css[i]? =some cs->ps[i]? =some p->∃v2 v3,cs=[.int .i64 p.Labels,.int .i64 p.Degree,v2,v3]∧OwS (λb=>T b=4+2*i) w v2 p.Nodes∧OwS (λb=>T b=5+2*i) w v3 p.Edges
def OwB(lo hi:Nat)(w:World)(v:Value)(x:ae):Prop:=
  ∃(T:Nat->Nat)(v1 v2 v3:Value),v=.agg #[v1,v2,v3]∧OwQT T w v1 x.Problems∧OwS (λb=>T b=2) w v2 x.Maps∧OwS (λb=>T b=3) w v3 x.Refusal∧∀b,T b≠0->lo<=b∧b<hi
theorem MatIn.zero{B:Nat}{w:World}{v:Value}{vs:List Value}{LL:List (List Int)}(h:MatIn B w v vs LL):MatIn 0 w v vs LL:=
 ⟨World.ownsRow.mono h.row (bj _),λi hi=>(h.own i hi).mono (bj _),h.apart⟩
theorem OwS.mono{S e:Nat->Prop}{w:World}{v:Value}{LL:List (List Int)}(h:OwS S w v LL)(d:∀b,S b->e b):OwS e w v LL:=by
 obtain⟨vs,g,f,j⟩:=h;exact⟨vs,g,λk a=>d k (f k a),λi hi k a=>d k (j i hi k a)⟩
theorem OwS.nil(S:Nat->Prop)(w:World):OwS S w (.slice none 0 0) []:=
 ⟨[],⟨mr w 0 _ _,λi hi=>by simp at hi,λi j hi=>by simp at hi⟩,λk a=>by simp[Value.ownBlock] at a,λi hi=>by simp at hi⟩
theorem OwQT.nil(T:Nat->Nat)(w:World):OwQT T w (.slice none 0 0) []:=⟨[],rfl,mr w 0 _ _,λk a=>by simp[Value.ownBlock] at a,λi cs p h=>by simp at h⟩
theorem OwB.nil(lo hi:Nat)(w:World):OwB lo hi w (.agg ([.slice none 0 0,.slice none 0 0,.slice none 0 0]:List Value).toArray) ⟨[],[],[]⟩:=⟨λ_=>0,_,_,_,rfl,OwQT.nil _ _,OwS.nil _ _,OwS.nil _ _,λb h=>absurd rfl h⟩
theorem Rws.owS{B k kr:Nat}{o:Tg}{w:World}{v:Value}{vs:List Hv}{LL:List (List Int)}{S:Nat->Prop}(F:Ow B 51 k o w v vs)(q:Rws B 3 kr o w vs LL)
  (L:∀g,v.ownBlock=some g->S g) (M:∀(i:Nat)(u:Hv) g,vs[i]? =some u->u.v.ownBlock=some g->S g):OwS S w v LL:=by
 obtain⟨css,O,D,R,E⟩:=F;rw[EB O (λi cs x a b=>E i cs x a b)] at D;have I:=q.1;have d:∀i,i<LL.length->∃u,vs[i]? =some u∧(vs.map Hv.v).getD i undef=u.v:=λi hi=>by
  have y:vs[i]? =some vs[i]:=x_ om;exact⟨_,y,by rw[ax,aZ,y];rfl⟩
 refine⟨vs.map Hv.v,MatIn.zero (B:=B) ⟨by rw[<-I];exact D,λi hi=>?_,λi j hi H s=>?_⟩,L,λi hi k A=>?_⟩
 ·obtain⟨u,f,e⟩:=d i hi;have C:LL[i]? =some LL[i]:=x_ hi;rw[e,ax,C];exact(q.2.1 i u LL[i] f C).own_ints
 ·obtain⟨u,f,e⟩:=d i hi;obtain⟨J,h,Q⟩:=d j H;rw[e,Q];unfold Apart;cases G:u.v.ownBlock with
  |none=>exact .inl rfl
  |some g=>exact .inr λK=>s (q.2.2 i j u J g f h G K.symm)
 ·obtain⟨u,f,e⟩:=d i hi;rw[e] at A;exact M i u k f A
theorem Dw.owS{lo hi:Nat}{o:Tg}{w:World}{v:Value}{LL:List (List Int)}(h:Dw lo hi 51 3 o w v LL):OwS (λg=>o g=0∧lo<=g∧g<hi) w v LL:=by
 obtain⟨vs,e,d,j,k⟩:=h;exact Rws.owS e d (λg f=>⟨e.tagged g f,(e.ltw g f).1,j g f⟩) λi u g a b=>⟨d.tg i u g a b,(d.lt i u g a b).1,k i u g a b⟩
theorem PrsN.colour{N B:Nat}{o:Tg}{w:World}{gs:List Qv}{ps:List c_}(h:PrsN N B o w gs ps)(U:Nat->Nat):
  ∃T:Nat->Nat,(∀b,o b≠0->T b=U b)∧(∀b,o b=0->T b≠0->B<=b∧b<w.heap.size)∧
   ∀(i:Nat) g p,gs[i]? =some g->ps[i]? =some p->∃y x,g.cs=[.int .i64 p.Labels,.int .i64 p.Degree,y,x]∧OwS (λb=>T b=4+2*i) w y p.Nodes∧OwS (λb=>T b=5+2*i) w x p.Edges:=by
 obtain⟨h0,h1,lo,hi,h2,h3,h4⟩:=h;have ha:∀i:Nat,∃q:Nat×Nat×Nat×Nat,∀g p,gs[i]? =some g->ps[i]? =some p->lo i<=q.1∧q.2.1<=hi i∧lo i<=q.2.2.1∧q.2.2.2<=hi i∧(q.2.1<=q.2.2.1∨q.2.2.2<=q.1)∧
   ∃y x,g.cs=[.int .i64 p.Labels,.int .i64 p.Degree,y,x]∧Dw q.1 q.2.1 51 3 o w y p.Nodes∧Dw q.2.2.1 q.2.2.2 51 3 o w x p.Edges:=λi=>by
  by_cases hx:∃g p,gs[i]? =some g∧ps[i]? =some p
  ·obtain⟨g,p,D,C⟩:=hx;obtain⟨y,x,e,a,b,c,d,q1,q2,q3,q4,q5,W,V⟩:=h2 i g p D C;refine⟨(a,b,c,d),λg' p' J K=>?_⟩;rw[D] at J;rw[C] at K;cases J;cases K
   exact⟨q1,q2,q3,q4,q5,y,x,e,W,V⟩
  ·exact⟨(0,0,0,0),λg p D C=>absurd ⟨g,p,D,C⟩ hx⟩
 obtain⟨q,Z⟩:=Classical.axiomOfChoice ha;have E:∀i,i<ps.length->lo i<=(q i).1∧(q i).2.1<=hi i∧lo i<=(q i).2.2.1∧(q i).2.2.2<=hi i∧((q i).2.1<=(q i).2.2.1∨(q i).2.2.2<=(q i).1):=λi hi'=>by
  have:=Z i gs[i] ps[i] (x_ om) (x_ hi');exact⟨this.1,this.2.1,this.2.2.1,this.2.2.2.1,this.2.2.2.2.1⟩
 have k:∀i j b,i<ps.length->j<ps.length->lo i<=b->b<hi i->lo j<=b->b<hi j->i=j:=λi j b hi' R a1 a2 G F=>by
  rcases oW i j with H|H|H
  ·have:=h4 i j H R;omega
  ·exact H
  ·have:=h4 j i H hi';omega
 let A:Nat->Nat->Prop:=λb i=>i<ps.length∧(q i).1<=b∧b<(q i).2.1
 let I:Nat->Nat->Prop:=λb i=>i<ps.length∧(q i).2.2.1<=b∧b<(q i).2.2.2
 have S:∀b i j,A b i->I b j->False:=λb i j f u=>by
  obtain⟨s,O,M⟩:=f;obtain⟨Y,e2,e3⟩:=u;have r1:=E i s;have r2:=E j Y;have:=k i j b s Y om om om om;subst this;omega
 classical
 refine⟨λb=>if o b≠0 then U b else if f:∃i,A b i then 4+2*Classical.choose f else if u:∃i,I b i then 5+2*Classical.choose u else 0,λb X=>if_pos X,λb X L=>?_,λi g p D C=>?_⟩
 ·simp only[X,ne_eq,not_true_eq_false,if_false] at L;by_cases f:∃i,A b i
  ·obtain⟨i,s,O,M⟩:=f;have:=E i s;have:=h3 i s;omega
  ·rw[dif_neg f] at L;by_cases u:∃i,I b i
   ·obtain⟨i,s,O,M⟩:=u;have:=E i s;have:=h3 i s;omega
   ·rw[dif_neg u] at L;exact absurd rfl L
 ·have hi':i<ps.length:=(Y_.1 C).1;obtain⟨r1,r2,r3,r4,r5,y,x,e,W,V⟩:=Z i g p D C;refine⟨y,x,e,W.owS.mono λb ⟨Q,G,F⟩=>?_,V.owS.mono λb ⟨Q,G,F⟩=>?_⟩
  ·have f:∃i,A b i:=⟨i,hi',G,F⟩;show(if o b≠0 then U b else if f:∃i,A b i then 4+2*Classical.choose f else _)=_;rw[if_neg (sh Q),dif_pos f];obtain⟨s,O,M⟩:=FR f;have r':=E _ s;rw[k i (Classical.choose f) b hi' s om om om om]
  ·have u:∃i,I b i:=⟨i,hi',G,F⟩;have f:¬∃i,A b i:=λ⟨j,R⟩=>S b j i R ⟨hi',G,F⟩;show(if o b≠0 then U b else if f:∃i,A b i then 4+2*Classical.choose f else if u:∃i,I b i then 5+2*Classical.choose u else 0)=_;rw[if_neg (sh Q),dif_neg f,dif_pos u];obtain⟨s,O,M⟩:=FR u;have r':=E _ s;rw[k i (Classical.choose u) b hi' s om om om om]
theorem OwB.mk{N B:Nat}{o:Tg}{w:World}{gs:List Qv}{ps:List c_}{D E C:Value}{H I:List Hv}{M R:List (List Int)}(h:Ow B 31 14 o w D gs)(J:PrsN N B o w gs ps)
  (s:Ow B 51 15 o w E H) (f:Rws B 3 16 o w H M) (x:Ow B 51 28 o w C I) (A:Rws B 3 29 o w I R):
  OwB B w.heap.size w (.agg ([D,E,C]:List Value).toArray) ⟨ps,M,R⟩:=by
 have q:=J.2.1;obtain⟨T,G,U,Q⟩:=J.colour λb=>if w.heap.size<=b∨b<B then 0 else if o b=14 then 1 else if o b=15∨o b=16 then 2 else if o b=28∨o b=29 then 3 else 0;have col:∀b k c,B<=b->b<w.heap.size->o b=k->k≠0->(if k=14 then 1 else if k=15∨k=16 then 2 else if k=28∨k=29 then 3 else 0)=c->T b=c:=λb k c X W e y O=>by
  subst e;rw[G b y,if_neg om];exact O
 refine⟨T,D,E,C,rfl,?_,?_,?_,λb j=>?_⟩
 ·obtain⟨css,V,F,S,L⟩:=h;refine⟨css,V.trans q,by rw[<-q];exact World.ownsRow.mono F (bj _),λk e=>col k 14 1 (World.ownsRow.lt F k e).1 (World.ownsRow.lt F k e).2 (S k e) dc rfl,λi cs p a b=>?_⟩;have K:ps[i]? =some p:=b;have hi':i<gs.length:=by have:=(Y_.1 K).1;omega
  have d:gs[i]? =some gs[i]:=x_ hi';have:=(L i cs gs[i] a d).1;rw[this];exact Q i _ p d K
 ·exact Rws.owS s f (λg d=>col g 15 2 (s.ltw g d).1 (s.ltw g d).2 (s.tagged g d) dc rfl) λi u g a b=>col g 16 2 (f.lt i u g a b).1 (f.lt i u g a b).2 (f.tg i u g a b) dc rfl
 ·exact Rws.owS x A (λg d=>col g 28 3 (x.ltw g d).1 (x.ltw g d).2 (x.tagged g d) dc rfl) λi u g a b=>col g 29 3 (A.lt i u g a b).1 (A.lt i u g a b).2 (A.tg i u g a b) dc rfl
 ·by_cases y:o b=0
  ·exact U b y j
  ·rw[G b y] at j;by_cases q:w.heap.size<=b∨b<B
   ·rw[if_pos q] at j;exact absurd rfl j
   ·omega
end
instance {o o':Tg} {w w':World} {t M B:Nat} {gs:List Qv} {ps:List c_}:Stq t o w o' w' (PrsN M B o w gs ps) (PrsN M B o' w' gs ps) (t !=0):=⟨λc h s=>h.stp s (neb c)⟩
theorem km:(Gz.info? 28).map (·.size)=some 3:=by kernel_rfl
theorem ru:Inf Gz 31 (.agg #[.int .i64 0,.int .i64 0,.slice none 0 0,.slice none 0 0]) 4 64:=by unfold Inf;kernel_rfl
def hU(a:Nat)(i:List c_):Int->c_->((List c_)×Yk)->Option (Lo ((List c_)×Yk) (ae×Bool)):=λb c s=>(eJ c)>>=λj=>(push s.1 j)>>=λd=>if b==0 then some (.go (d,s.2)) else(ck (b-1))>>=λk=>(ix i k)>>=λm=>(iL a m)>>=λf=>if !f.2.2.2 then some (.ret ((⟨[],[],[]⟩:ae),false)) else(gJ a f.1 c)>>=λg=>if !g.2 then some (.ret ((⟨[],[],[]⟩:ae),false)) else(push s.2 g.1)>>=λn=>some (.go (d,n))
def kT(b:Nat)(a:List c_):Option (ae×Bool):=(kQ b a)>>=λd=>if !d then some ((⟨[],[],[]⟩:ae),false) else(forI (hU b a) a 0 ([],[]))>>=λf=>match f with| .inl (g,i)=>(ck ((a.length:Int)-1))>>=λj=>(ix a j)>>=λk=>(hX b k)>>=λc=>if !c.2 then some ((⟨[],[],[]⟩:ae),false) else some ((⟨g,i,c.1⟩:ae),true)| .inr m=>some m
def ph(w:World)(r:ae×Bool):Ending->World->Prop:=λe w'=>∃(a:List Value),e=.returned (.tuple #[.agg a.toArray,.bool r.2])∧OwB w.heap.size w'.heap.size w' (.agg a.toArray) r.1∧Keeps w w'
theorem zT(O:Nat)(w:World)(D:Value)(E:List c_)(L:RdL zt w D E)(r:ae×Bool)(q:kT O E=some r):
    Calls Gz 24 #[D] w (ph w r):=by
 unfold kT at q;have b:Bs (λ_=>1) (col (λ_=>1)) w w:=Bs.start _ _;refine y_ (n:=80) (vs:=[D]) Tryz.func24 rfl rfl ?_;generalize col (λ_=>1)=o at*;refine Zq (Zo ?_);refine au (o:=o) w.heap.size 11 b.keeps.size (cs:=[.slice none 0 0,.slice none 0 0,.slice none 0 0]) Hp rfl ?_;intro U a2 M d x;replace b:=b.stp x;refine Za rfl (Zy (b_ (Zq (Zm rfl ?_))));obtain⟨x,C,q⟩:=a_ q;refine Zo ?_;refine j_ (zV O a2 _ E (L.keep b.keeps) x C) Tryz.call45 ⟨rfl,trivial⟩ ?_;rintro x x ⟨rfl,x⟩;have C:=x.stp 999 U;refine⟨_,rfl,?_⟩;obtain⟨d,b⟩:=ZS C (A2 d b);refine Zv (ag rfl) (Zy ?_);refine Zi rfl q (λx q=>?_) (λx q=>?_)
 ·refine Zq (Zv (aK (vs:=[]) (cs:=[.slice none 0 0,.slice none 0 0,.slice none 0 0]) trivial kr) ?_);refine E_ trivial ?_;refine X_ d rfl rfl rfl km (by intro c hc;simp only[I_,P_,or_false] at hc;rcases hc with rfl|rfl|rfl<;>first|rfl) ?_;intro x x C;replace b:=b.stp C;refine Za rfl (Zy (i_ (t_ ?_)));obtain rfl:=Zj q;refine J_ (P:=Gz) (vs:=[.agg #[.slice none 0 0,.slice none 0 0,.slice none 0 0],.bool false]) HA ⟨⟨_,rfl,ay GR GS rfl x.cells⟩,rfl,trivial⟩ ?_;exact⟨[.slice none 0 0,.slice none 0 0,.slice none 0 0],rfl,OwB.nil _ _ _,b.keeps⟩
 ·refine f_ (Zn (Zo ?_));refine au (o:=U) w.heap.size 13 b.keeps.size (cs:=[.slice none 0 0,.slice none 0 0,.slice none 0 0]) Hp rfl ?_;intro x C B k I;obtain⟨d,b⟩:=ZS I (A2 d b);refine Zy (b_ (Zq (Zm rfl (Zv (C_ rfl L GL) (Zm rfl (Zy ?_))))));have I:Oz w 31 14 x C (.slice none 0 0) ([]:List Qv):=Ow.nil _ _ _ _ _;have J:Oz w 51 15 x C (.slice none 0 0) ([]:List Hv):=Ow.nil _ _ _ _ _;have Q:Rq w 3 16 x C [] ([]:Yk):=Rws.nil _ _ _ _ _;obtain⟨C,Y,q⟩:=a_ q;refine D_ (λa u=>∃H F p l G t y,C=.inl (H,F)∧Fr a 80 [(0,D),(2,ZP M),(4,ZP B)]∧Bs (λ_=>1) y w u∧Bz w 11 y u M 28 [.slice none 0 0,.slice none 0 0,.slice none 0 0]∧Bz w 13 y u B 28 [p,l,.slice none 0 0]∧Oz w 31 14 y u p G∧Oz w 51 15 y u l t∧Rq w 3 16 y u t F∧PrsN u.heap.size w.heap.size y u G H) (λa w'=>∃X,C=.inr X∧bodyPost Gz Tryz.f24 (ph w X) .ret a w') ?_ ?_ ?_
  ·refine k_ ?_;refine B_ (λ(K:Nat) a u=>∃(A:Int),∃H F p l G t y,forI (hU O E) (E.drop A.toNat) A (H,F)=some C∧(E.drop A.toNat).length=K∧0<=A∧Fr a 80 [(0,D),(2,ZP M),(4,ZP B),(18,D),(19,ZI (E.length:Int)),(20,ZI A)]∧Bs (λ_=>1) y w u∧Bz w 11 y u M 28 [.slice none 0 0,.slice none 0 0,.slice none 0 0]∧Bz w 13 y u B 28 [p,l,.slice none 0 0]∧Oz w 31 14 y u p G∧Oz w 51 15 y u l t∧Rq w 3 16 y u t F∧PrsN u.heap.size w.heap.size y u G H) _ (λa i=>⟨0,[],[],.slice none 0 0,.slice none 0 0,[],[],x,Y,rfl,N_ 0,i.sb,b,d,k,I,J,Q,PrsN.nil _ _ _ b.keeps.size (K_ _)⟩) ?_;rintro x a u ⟨A,H,F,p,l,G,t,y,a3,a4,x,i,b,d,k,m,g,f,hq⟩;by_cases S:A<(E.length:Int)
   ·obtain⟨Q,C,C,j,T⟩:=ai x S a3;have x:=L.len_le;dsimp only[hU] at j;refine q_ i ?_;refine Zq (Zv (o_ rfl rfl) (Zy (b_ ?_)));refine R_ (Zb (decide_eq_true S)) ?_;refine f_ (nx (b_ (k_ (Zq (Zm rfl (Zo ?_))))));refine wf_atZ L C b rfl rfl GL GD ?_;intro x x x x C;obtain⟨a5,a6,rfl,Y,Z⟩:=C;refine Zv (F_ rfl GG GD rfl x) (Zo ?_);refine au (o:=y) w.heap.size 22 b.keeps.size (cs:=[ZI 0,ZI 0,.slice none 0 0,.slice none 0 0]) GM rfl ?_;intro J x a7 x C;obtain⟨d,k,m,hq,g,f,b⟩:=ZS C (A7 d k m hq g f b);refine Za rfl ?_;refine E_ trivial ?_;refine X_ x rfl rfl rfl pa (by intro c hc;simp only[I_,P_,or_false] at hc;rcases hc with rfl|rfl|rfl|rfl<;>first|rfl|exact Y.one1|exact Z.one1) ?_;intro a0 x I;obtain⟨d,k,m,hq,g,f,b⟩:=ZS I (A7 d k m hq g f b);refine Zy (b_ ?_);replace hq:=hq.grow (aH C.size I.size) (K_ _);obtain⟨C,b2,j⟩:=a_ j;refine lC (o:=J) [(0,D),(2,ZP M),(4,ZP B),(5,ZI A),(6,ZP a7),(18,D),(19,ZI (E.length:Int)),(20,ZI A)] [0,2,4,5,6,18,19,20] [25,26,27,28,29] [[],[0],[],[2],[3]] [none,none,none,none,none] [999,999,999,999,999] [0,0,0,0,0] [999] [λv _ _=>v=(.pointer (some ⟨B,0+0,none⟩)),λv _ _=>v=p,λv _ _=>v=(.agg #[ZI Q.Labels,ZI Q.Degree,a5,a6]),PcA a0.heap.size C,PcB a0.heap.size C] (λI J=>Bs (λ_=>1) I w J∧Bz w 11 I J M 28 [.slice none 0 0,.slice none 0 0,.slice none 0 0]∧Bz w 13 I J B 28 [p,l,.slice none 0 0]∧Oz w 31 14 I J p G∧Oz w 51 15 I J l t∧Rq w 3 16 I J t F∧PrsN a0.heap.size w.heap.size I J G H∧Bz w 22 I J a7 31 [ZI Q.Labels,ZI Q.Degree,a5,a6]) ea kr rfl ⟨rfl,rfl,rfl,rfl,rfl,rfl,rfl,rfl,trivial⟩ ⟨b,d,k,m,g,f,hq,x⟩ ?_ ⟨aJ _,aJ _,aJ _,λ_ _ _ _ _ _ I hb h hs=>PcA.stp h hs I.1,λ_ _ _ _ _ _ I hb h hs=>PcB.stp h hs I.1,trivial⟩ ?_ ?_
    ·rintro a0 U I I a2 J ⟨b,d,k,m,g,f,hq,x⟩ I;have J:a0=999:=by simpa using J
     subst J;all_goals exact⟨b.stp I dc,d.stp I dc,k.stp I dc,m.stp I dc dc,g.stp I dc dc,f.stp I dc dc,hq.stp I dc,x.stp I dc⟩
    ·refine⟨?_,?_,?_,?_,?_,trivial⟩
     ·rintro I I I i ⟨b,d,k,m,g,f,hq,x⟩-;refine Zs i ?_;refine M_ (s_ rfl GP rfl GW) ?_;exact Zx rfl
     ·rintro I I I i ⟨b,d,k,m,g,f,hq,x⟩ ⟨I,-⟩;have i:=i.c I;refine Zs i ?_;refine M_ (e_ rfl Tryz.isAgg26 (k.cell rfl)) ?_;exact Zx rfl
     ·rintro I I I i ⟨b,d,k,m,g,f,hq,x⟩-;refine Zs i ?_;refine M_ (F_ rfl GG GD rfl x.cells) ?_;exact Zx rfl
     ·rintro I J U i ⟨b,d,k,m,g,f,hq,x⟩ ⟨U,-⟩;have i:=i.c U;refine Zs i ?_;refine j_ (zu J I 24 dc _ Q (⟨_,_,rfl,Y.keep b.keeps,Z.keep b.keeps⟩) C b2) Tryz.call46 ⟨rfl,trivial⟩ ?_;rintro I I ⟨I,J,rfl,hp,J,U,-⟩;have a0:=J.stp' 999 U;exact⟨_,rfl,_,a0,I,_,_,rfl,hp,hq.size,K_ _⟩
     ·rintro a6 I I i ⟨b,d,k,m,g,f,hq,x⟩ ⟨J,-⟩;obtain⟨I,a2,a5,a7,hp,I,a0⟩:=J;obtain⟨J,U,rfl,hpq⟩:=hp;have b2:=hpq.rdN;have b3:=hpq.rdE;have i:=i.c a7;refine Zs i ?_;refine ap (α:=Qv) (o:=a6) (cs:=[ZI C.Labels,ZI C.Degree,J,U]) (xs:=([⟨[ZI C.Labels,ZI C.Degree,J,U]⟩]:List Qv)) (vs:=[(0,.agg #[ZI C.Labels,ZI C.Degree,J,U])]) ⟨[ZI C.Labels,ZI C.Degree,J,U],_,rfl,Qv.ok b2.one1 b3.one1,rfl⟩ rfl ⟨rfl,rfl,trivial⟩ GL GD GM dc (fillS 4 rfl rfl dc) sy ?_;intro C C C J C U;exact⟨_,C,_,a2,a5,J,Pc.stp ⟨_,_,rfl,hpq⟩ C dc,I,aH a0 C.size⟩
    rintro C C J i ⟨b,d,k,m,g,f,hq,x⟩ ⟨-,U,-,-,C,-⟩;have i:=i.c U;obtain⟨U,a2,a5,C,hp,I,a0⟩:=C;generalize a2:J.tmps.getD 29 undef=J at C;have i:=i.c a2;refine O_ i ?_;simp only[ao,bD,an,Nat.reduceAdd,aR,aG];obtain⟨a8,J,j⟩:=a_ j;obtain⟨hpg,hpx⟩:=hq.pushV J ⟨U⟩;replace hq:=hq.push hp I a0 (aH hq.low I);rw[<-hpx] at hq;refine Zo ?_;refine am m C (av hpg) dc b.keeps.size rfl rfl GL ru rfl dc ?_;intro I J V s J;obtain⟨hq,C,d,k,g,f,x,b⟩:=ZS J (A8 hq C d k g f x b);refine Zv (s_ rfl GP rfl GW) ?_;refine E_ trivial ?_;refine bG k rfl rfl (of_decide_eq_true rfl) GW s.cells1 s.one1 ?_;intro U e J;obtain⟨C,s,hq,d,g,f,x,b⟩:=ZS J (A8 C s hq d g f x b);replace e:Bz w 13 I U B 28 [V,l,.slice none 0 0]:=e;refine Zy (b_ (Zq (Zm rfl (Zv (bg rfl rfl) (Zy ?_)))));refine Zi rfl j (λC j=>?_) (λC j=>?_)
    ·refine z_ ?_;refine g_ (A_ (nx (h_ (Zv (u_ rfl rfl (n_ om om)) (Zm rfl (Zf (v_ ?_)))))));obtain rfl:=Zj j;refine Zk [(0,_),(2,_),(4,_),(18,_),(19,_),(20,_)] ?_;intro a i;exact⟨_,(by rw[<-a4];simp only[T_];omega),A+1,a8,F,V,l,_,t,I,T,rfl,om,i,b,d,e,s,g,f,hq.grow hq.size (K_ _)⟩
    ·refine f_ (Zn (Zm rfl (Zm rfl ?_)));obtain⟨C,C,j⟩:=a_ j;refine Zv (aD rfl rfl C) ?_;obtain⟨C,J,j⟩:=a_ j;refine Zo ?_;refine wf_atZ L J b rfl rfl GL GD ?_;intro J J J J a0;obtain⟨a2,a2,rfl,a2,a5⟩:=a0;refine Zv (F_ rfl GG GD rfl J) ?_;obtain⟨J,a0,j⟩:=a_ j;refine Zo ?_;refine j_ (ss O U I 25 dc _ C (⟨_,_,rfl,a2.keep b.keeps,a5.keep b.keeps⟩) J a0) Tryz.call41 ⟨rfl,trivial⟩ ?_;rintro C a0 ⟨C,C,C,U,rfl,a6,a2,a5,C,C,I,a7⟩;have b2:=I.stp' 25 a7;have I:=C.rd;refine⟨_,rfl,?_⟩;obtain⟨a7,b3,rfl,C,I⟩:=a6;replace a2:Dz 51 3 U a0 a7 J.1.Nodes:=a2;replace a5:Dz 51 3 U a0 b3 J.1.Edges:=a5;obtain⟨d,e,s,hq,g,f,x,b⟩:=ZS b2 (A8 d e s hq g f x b);refine Zm rfl (Zv (H_ rfl rfl) (Zv (H_ rfl rfl) (Zv (H_ rfl rfl) (Zv (H_ rfl rfl) (Zo ?_)))));refine au (o:=U) w.heap.size 26 b.keeps.size (cs:=[ZI 0,ZI 0,.slice none 0 0,.slice none 0 0]) GM rfl ?_;intro U a0 a0 a0 a2;obtain⟨C,I,d,e,s,hq,g,f,x,b⟩:=ZS a2 (A8 C I d e s hq g (A3 f x b));refine E_ trivial ?_;refine X_ a0 rfl rfl rfl pa (by intro c hc;simp only[I_,P_,or_false] at hc;rcases hc with rfl|rfl|rfl|rfl<;>first|rfl|exact C.one1|exact I.one1) ?_;intro a0 a2 a5;obtain⟨C,I,d,e,s,hq,g,f,x,b⟩:=ZS a5 (A8 C I d e s hq g (A3 f x b));refine Za rfl (Za rfl (Za rfl (Zy (b_ (Zq (Zm rfl (Zv (ag rfl) (Zy ?_))))))));refine Zi rfl j (λa5 j=>?_) (λa5 j=>?_)
     ·refine Zq (Zv (aK (vs:=[]) (cs:=[.slice none 0 0,.slice none 0 0,.slice none 0 0]) trivial kr) ?_);refine E_ trivial ?_;refine X_ d rfl rfl rfl km (by intro c hc;simp only[I_,P_,or_false] at hc;rcases hc with rfl|rfl|rfl<;>first|rfl) ?_;intro a5 a5 a6;replace b:=b.stp a6;refine Za rfl (Zy (i_ (t_ (L_ (t_ (t_ (L_ ?_)))))));refine aB ?_;obtain rfl:=Zj j;refine λa i=>⟨_,T,?_⟩;refine J_ (P:=Gz) (vs:=[.agg #[.slice none 0 0,.slice none 0 0,.slice none 0 0],.bool false]) HA ⟨⟨_,rfl,ay GR GS rfl a5.cells⟩,rfl,trivial⟩ ?_ a i;exact⟨[.slice none 0 0,.slice none 0 0,.slice none 0 0],rfl,OwB.nil _ _ _,b.keeps⟩
     ·refine f_ (Zn (Zv (F_ rfl GG GD rfl a2.cells) (Zv (F_ rfl GG GD rfl x.cells) ?_)));obtain⟨x,a2,j⟩:=a_ j;refine Zo ?_;refine j_ (rE O a0 U 27 dc _ J.1 (⟨_,_,rfl,C.z,I.z⟩) _ Q (⟨_,_,rfl,Y.keep b.keeps,Z.keep b.keeps⟩) x a2) Tryz.call43 ⟨rfl,rfl,trivial⟩ ?_;rintro x x ⟨R,C,rfl,x,I,J⟩;have Q:=I.stp' 27 J;replace x:=x.mono b.keeps.size;refine⟨_,rfl,?_⟩;obtain⟨d,e,s,hq,g,f,b⟩:=ZS Q (A7 d e s hq g f b);refine Zm rfl (Zv (H_ rfl rfl) (Zv (H_ rfl rfl) (Za rfl (Za rfl (Zy (b_ (Zq (Zm rfl (Zv (ag rfl) (Zy ?_))))))))));refine Zi rfl j (λI j=>?_) (λI j=>?_)
      ·refine Zq (Zv (aK (vs:=[]) (cs:=[.slice none 0 0,.slice none 0 0,.slice none 0 0]) trivial kr) ?_);refine E_ trivial ?_;refine X_ d rfl rfl rfl km (by intro c hc;simp only[I_,P_,or_false] at hc;rcases hc with rfl|rfl|rfl<;>first|rfl) ?_;intro I I J;replace b:=b.stp J;refine Za rfl (Zy (i_ (t_ (L_ (t_ (t_ (L_ ?_)))))));refine aB ?_;obtain rfl:=Zj j;refine λa i=>⟨_,T,?_⟩;refine J_ (P:=Gz) (vs:=[.agg #[.slice none 0 0,.slice none 0 0,.slice none 0 0],.bool false]) HA ⟨⟨_,rfl,ay GR GS rfl I.cells⟩,rfl,trivial⟩ ?_ a i;exact⟨[.slice none 0 0,.slice none 0 0,.slice none 0 0],rfl,OwB.nil _ _ _,b.keeps⟩
      ·refine f_ (nx (h_ (Zv (s_ rfl GP rfl GI) (Zv (e_ rfl GK (e.cell rfl)) (Zm rfl (Zo ?_))))));refine ap (o:=C) (cs:=[R]) (xs:=([⟨R⟩]:List Hv)) (vs:=[(0,R)]) ⟨_,_,rfl,bY x,rfl⟩ rfl ⟨rfl,rfl,trivial⟩ GE GH GO dc (fill1 x.cells1) sy ?_;intro C C C C I J;obtain⟨x,g,f,d,e,s,hq,b⟩:=ZS I (A8 x g f d e s hq b);obtain⟨b4,I,j⟩:=a_ j;obtain⟨J,Q⟩:=f.pushV I R;refine Zo ?_;refine am g C (av J) dc b.keeps.size rfl rfl GE rP rfl dc ?_;intro a9 C b0 N C;obtain⟨x,f,d,e,s,hq,b⟩:=ZS C (A7 x f d e s hq b);have W:=f.push x dc dc;rw[<-Q] at W;clear f x;have x:=bL 27 16 a9;replace N:=N.rc x dc dc;replace d:=d.rc x dc;replace e:=e.rc x dc;replace s:=s.rc x dc dc;replace hq:=hq.rc x dc;replace b:=b.rc x dc;generalize mrg 27 16 a9=b1 at*;refine Zv (s_ rfl GP rfl GI) ?_;refine E_ trivial ?_;refine bG e rfl rfl (of_decide_eq_true rfl) GI N.cells1 N.one1 ?_;intro b5 a1 b6;obtain⟨N,W,d,s,hq,b⟩:=ZS b6 (A6 N W d s hq b);replace a1:Bz w 13 b1 b5 B 28 [V,b0,.slice none 0 0]:=a1;refine Ze [(0,D),(2,ZP M),(4,ZP B),(18,D),(19,ZI (E.length:Int)),(20,ZI A)] (w_ (nx (h_ (Zv (u_ rfl rfl (n_ om om)) (Zm rfl (Zf (v_ ?_)))))));obtain rfl:=Zj j;refine Zk [(0,_),(2,_),(4,_),(18,_),(19,_),(20,_)] ?_;intro a i;exact⟨_,(by rw[<-a4];simp only[T_];omega),A+1,a8,b4,V,b0,_,t++[⟨R⟩],b1,T,rfl,om,i,b,d,a1,s,N,W,hq.grow hq.size (K_ _)⟩
   ·have j:=ak S a3;refine q_ i ?_;refine Zq (Zv (o_ rfl rfl) (Zy (b_ ?_)));refine Q_ (Zb (decide_eq_false S)) ?_;refine z_ ?_;refine g_ (g_ (A_ ?_));refine r_ ?_;refine Zk [(0,_),(2,_),(4,_)] ?_;intro a i;exact⟨H,F,p,l,G,t,y,j,i,b,d,k,m,g,f,hq⟩
  ·rintro a u ⟨H,F,p,l,G,t,y,rfl,i,b,d,k,m,g,f,hq⟩;dsimp only at q;refine ap_k i ?_;refine Zn (Zm rfl (Zm rfl (Zv (C_ rfl L GL) ?_)));obtain⟨i,i,q⟩:=a_ q;refine Zv (aD rfl rfl i) ?_;obtain⟨i,j,q⟩:=a_ q;refine Zo ?_;refine wf_atZ L j b rfl rfl GL GD ?_;intro j j j j s;obtain⟨x,x,rfl,x,e⟩:=s;refine Zv (F_ rfl GG GD rfl j) ?_;obtain⟨j,s,q⟩:=a_ q;refine Zo ?_;refine j_ (rM O u y 28 dc _ i (⟨_,_,rfl,x.keep b.keeps,e.keep b.keeps⟩) j s) Tryz.call23 ⟨rfl,trivial⟩ ?_;rintro i i ⟨s,i,x,rfl,i,j,y,e⟩;have t:=y.stp' 28 e;replace i:=i.mono b.keeps.size;replace j:=j.mono b.keeps.size;refine⟨_,rfl,?_⟩;obtain⟨d,k,m,hq,g,f,b⟩:=ZS t (A7 d k m hq g f b);refine Zm rfl (Zv (H_ rfl rfl) (Zv (H_ rfl rfl) (Za rfl (Za rfl (Zy (b_ (Zq (Zm rfl (Zv (ag rfl) (Zy ?_))))))))));refine Zi rfl q (λy q=>?_) (λy q=>?_)
   ·refine Zq (Zv (aK (vs:=[]) (cs:=[.slice none 0 0,.slice none 0 0,.slice none 0 0]) trivial kr) ?_);refine E_ trivial ?_;refine X_ d rfl rfl rfl km (by intro c hc;simp only[I_,P_,or_false] at hc;rcases hc with rfl|rfl|rfl<;>first|rfl) ?_;intro y y e;replace b:=b.stp e;refine Za rfl (Zy (i_ (t_ ?_)));obtain rfl:=Zj q;refine J_ (P:=Gz) (vs:=[.agg #[.slice none 0 0,.slice none 0 0,.slice none 0 0],.bool false]) HA ⟨⟨_,rfl,ay GR GS rfl y.cells⟩,rfl,trivial⟩ ?_;exact⟨[.slice none 0 0,.slice none 0 0,.slice none 0 0],rfl,OwB.nil _ _ _,b.keeps⟩
   ·refine f_ (Zn (Zm rfl (Zv (s_ rfl GP rfl GI) ?_)));refine E_ trivial ?_;refine bG k rfl rfl (of_decide_eq_true rfl) GI i.cells1 i.one1 ?_;intro y k e;obtain⟨i,j,d,m,hq,g,f,b⟩:=ZS e (A8 i j d m hq g f b);replace k:Bz w 13 x y B 28 [p,l,s]:=k;refine Ze [(2,_),(4,_)] (Zn (Zv (F_ rfl GR GS rfl k.cells) ?_));refine E_ trivial ?_;refine X_ d rfl rfl rfl km (by intro c hc;simp only[I_,P_,or_false] at hc;rcases hc with rfl|rfl|rfl<;>first|rfl|exact m.one1|exact g.one1|exact i.one1) ?_;intro d d k;obtain⟨m,hq,g,f,i,j,b⟩:=ZS k (A7 m hq g f i j b);refine Za rfl (Zy (i_ ?_));obtain rfl:=Zj q;refine J_ (P:=Gz) (vs:=[.agg #[p,l,s],.bool true]) HA ⟨⟨_,rfl,ay GR GS rfl d.cells⟩,rfl,trivial⟩ ?_;exact⟨[p,l,s],rfl,OwB.mk m hq g f i j,b.keeps⟩
  ·rintro a u ⟨X,rfl,b⟩;dsimp only at q;obtain rfl:=Zj q;exact b
theorem mn{σ τ ρ:Type}{f:σ->Option (Lp σ τ ρ)}{s s':σ}(h:f s=some (.go s'))(a:Nat):loopF f (a+1) s=loopF f a s':=by simp only[loopF,h]
theorem jJ{σ τ ρ:Type}{f:σ->Option (Lp σ τ ρ)}{s:σ}{t:τ}(h:f s=some (.out t))(a:Nat):loopF f (a+1) s=some (.inl t):=by simp only[loopF,h]
theorem di{σ ρ:Type}{f:σ->Option (Lp σ σ ρ)}(R:Nat->σ)(n:Nat)(d:∀j,j<n->f (R j)=some (.go (R (j+1))))(b:f (R n)=some (.out (R n))):∀(a j:Nat),j<=n->n<a+j->loopF f a (R j)=some (.inl (R n)):=by
 intro a
 induction a with
 |zero=>intro j h g;omega
 |succ a ih=>
  intro j h g;by_cases e:j=n
  ·subst e;exact jJ b a
  ·rw[mn (d j om) a];exact ih (j+1) om om
theorem xc{ρ:Type}{f:Int×Int->Option (Lp (Int×Int) (Int×Int) ρ)}(P:Nat->Bool)(n c:Nat)(k:c<=n)
  (q:∀lo hi:Nat,lo<hi->hi<=n->f ((lo:Int),(hi:Int))=some (.go (if P ((lo+hi)/2) then((((lo+hi)/2+1:Nat):Int),(hi:Int)) else((lo:Int),(((lo+hi)/2:Nat):Int)))))
  (p:∀lo:Nat,lo<=n->f ((lo:Int),(lo:Int))=some (.out ((lo:Int),(lo:Int)))) (i:∀j,j<c->P j=true) (m:∀j,c<=j->j<n->P j=false):
  ∀(g lo hi:Nat),lo<=c->c<=hi->hi<=n->hi<g+lo->loopF f g ((lo:Int),(hi:Int))=some (.inl ((c:Int),(c:Int))):=by
 intro g
 induction g with
 |zero=>intro lo hi a b d e;omega
 | succ g ih=>
  intro lo hi a b d e;by_cases h:lo<hi
  ·rw[mn (q lo hi h d) g];by_cases o:(lo+hi)/2<c
   ·rw[if_pos (i _ o)];exact ih _ _ om b d om
   ·rw[if_neg (by rw[m _ om om];simp)];exact ih _ _ a om om om
  ·have:lo=c:=om;have:hi=c:=om;subst_vars;exact jJ (p _ k) g
theorem xB{lo hi:Nat}(h:lo+hi<=4000000000):(ck ((lo:Int)+hi)>>=λx=>cvU x>>=λy=>shr y 1>>=λz=>cvU z)=some ((((lo+hi)/2:Nat)):Int):=by
 rw[n_ om om,sb];unfold cvU shr;rw[if_pos om,sb,if_neg om,sb];have:((lo:Int)+(hi:Int)).fdiv (2^min (Int.toNat 1) 64)=(((lo+hi)/2:Nat):Int):=by
  rw[show min (Int.toNat 1) 64=1 from rfl,FT _ dc];omega
 rw[this,if_pos om]
theorem pj{α:Type}(p:α->Bool):∀(l:List α),l.Pairwise (λa b=>p b=true->p a=true)->(∀(j:Nat) x,l[j]? =some x->j<l.countP p->p x=true)∧∀(j:Nat) x,l[j]? =some x->l.countP p<=j->p x=false
 |[],_=>⟨λj x h=>by simp at h,λj x h=>by simp at h⟩
 | a::l,h=>by
  rw[cU] at h;obtain⟨o,n⟩:=pj p l h.2;cases f:p a with
  | true=>
   rw[FU f];refine⟨λj x d k=>?_,λj x d i=>?_⟩
   ·cases j with
    |zero=>simp at d;subst d;exact f
    |succ j=>exact o j x (su d) om
   ·cases j with
    |zero=>omega
    |succ j=>exact n j x (su d) om
  | false=>
   have e:∀x,x∈l->p x=false:=λx m=>by
    cases g:p x with
    |false=>rfl
    |true=>rw[h.1 x m g] at f;cases f
   have q:l.countP p=0:=FV.2 λx m=>by rw[e x m];simp
   rw[FW (by rw[f];simp),q];refine⟨λj x d k=>om,λj x d i=>?_⟩;cases j with
   |zero=>simp at d;subst d;exact f
   |succ j=>exact e x (aE (su d))
theorem EH(a:Int):gF a=some false:=by unfold gF;simp
theorem zA(d:Nat)(xs:List Int)(t:Int)(s:xs.Pairwise (·<=·))(C:xs.length<=1000000000)(E:xs.length<d):
  ka d xs t=some (((xs.countP λx=>decide (x<t):Nat):Int),decide (t∈xs)):=by
 obtain⟨o,p⟩:=pj (λx=>decide (x<t)) xs (s.imp λh y=>by simp only[decide_eq_true_eq] at y ⊢;omega);have q:xs.countP (λx=>decide (x<t))<=xs.length:=re;unfold ka;have:=xc (f:=gr xs t) (λj=>decide (xs.getD j 0<t)) xs.length (xs.countP λx=>decide (x<t)) q (λlo hi v D=>by
   have k:(lo+hi)/2<xs.length:=om;unfold gr;simp only
   rw[if_pos (su v)];have e:=xB (lo:=lo) (hi:=hi) om;rw[n_ om om,sb] at e ⊢;unfold cvU at e ⊢;rw[if_pos om,sb] at e ⊢;cases n:shr ((lo:Int)+hi) 1 with
   |none=>rw[n] at e;cases e
   |some z=>
    rw[n,sb] at e;rw[sb];rw[e,sb,bM _ _ k,sb,xt,sb];rw[show xs.getD ((lo+hi)/2) 0=xs[(lo+hi)/2] by simp[x_ k]];by_cases a:xs[(lo+hi)/2]<t
    ·simp only[decide_eq_true a,if_true];rw[n_ om om,sb];rfl
    ·simp only[decide_eq_false a];rfl)
  (λlo h=>by
   unfold gr;simp only
   rw[if_neg sy]) (λj i=>by
   have b:j<xs.length:=om;have:=o j _ (x_ b) i;simpa [x_ b] using this) (λj i b=>by
   have:=p j _ (x_ b) i;simpa [x_ b] using this) d 0 xs.length (bj _) q (K_ _) om
 rw[show((0:Nat):Int)=0 from rfl] at this;rw[this,sb];simp only
 generalize w:xs.countP (λx=>decide (x<t))=c at o p q;by_cases a:c<xs.length
 ·rw[if_pos (su a),bM _ _ a,sb];have B:t<=xs[c]:=by
   have:=p c _ (x_ a) (K_ _);simpa using this
  by_cases e:xs[c]=t
  ·rw[if_pos (su e),sb];have:t∈xs:=by rw[<-e];exact aV a
   simp[this]
  ·rw[if_neg (su e),sb,EH,sb];have:t ∉ xs:=by
    intro k;obtain⟨j,i,g⟩:=mB.1 k;have A:=o j _ (x_ i);by_cases u:j<c
    ·have:=A u;rw[g] at this;simp at this
    ·rw[dw] at s;by_cases m:j=c
     ·subst m;exact e g
     ·have:=s c j a i om;omega
   simp[this,sb]
 ·rw[if_neg (su a),sb];have:t ∉ xs:=by
   intro k;obtain⟨j,i,g⟩:=mB.1 k;have:=o j _ (x_ i) om;rw[g] at this;simp at this
  simp[this]
theorem tx(xs:List Int):(srt xs).Pairwise (·<=·):=by
 have:=FX (le:=λx y:Int=>decide (x<=y)) (λa b c e d=>by simp only[decide_eq_true_eq] at*;omega) (λa b=>by simp only[bT,decide_eq_true_eq];omega) xs;exact this.imp λh=>by simpa using h
theorem vY(xs:List Int):(srt xs).Perm xs:=FY xs _
theorem iM(xs:List Int):srt xs=ssort xs:=
 List.Perm.eq_of_pairwise (le:=λa b=>a<=b) (λa b _ _ e d=>yf e d) (tx xs) (Aj xs) ((vY xs).trans (BG xs).symm)
end Go.Proofs.YtpefhaamcihneaaGreat
