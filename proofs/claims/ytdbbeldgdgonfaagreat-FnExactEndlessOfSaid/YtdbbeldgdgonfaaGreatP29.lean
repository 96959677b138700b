/- Part 29 of what this claim rests on (GEl3, GRz, GRy), packed by pack.py. -/
import Derived.Test.YtdbbeldgdgonfaaGreatP03
import Derived.Test.YtdbbeldgdgonfaaGreatP04
import Derived.Test.YtdbbeldgdgonfaaGreatP12
import Derived.Test.YtdbbeldgdgonfaaGreatP16
import Derived.Test.YtdbbeldgdgonfaaGreatP20
import Derived.Test.YtdbbeldgdgonfaaGreatP26
import Derived.Test.YtdbbeldgdgonfaaGreatP28
namespace Go.Proofs.YtdbbeldgdgonfaaGreat
open Tryz renaming prog→tX_, underlying41→tY_, sizeOf3→tZ_, isAgg3→ua_, isAgg28→ue_, sizeOf28→uc_, results84→wH_, call84→wI_, underlying28→ud_, sizeOf22→ui_, isAgg22→uj_, underlying22→ub_, sizeOf41→uf_, isAgg41→ug_, results41→wJ_, results55→vm_, zeroValue41→uk_, zeroValue28→um_, results22→vn_, results57→vo_, results23→vp_
set_option linter.unusedSimpArgs false
set_option linter.unusedVariables false
section
set_option maxRecDepth 100000
set_option maxHeartbeats 2000000
open Go.RowKit
def ei_(g:c_)(a:Int)(b:Int):Int->Int->Unit->Option (Lp Unit Unit (Int×Int×Bool)):=λ(c:Int)(d:Int)(s:Unit)=>
  (fK_ g b d)>>=λf=>
  if !f then
    some (.ret (a,c,true))
  else
    some (.go ())
def fk_(d:c_)(f:List Int):Int->Int->Unit->Option (Lp Unit Unit (Int×Int×Bool)):=λ(a:Int)(b:Int)(s:Unit)=>
  (forI (ei_ d a b) f 0 ())>>=λc=>
  match c with
  | .inl _=>
    some (.go ())
  | .inr r'=>some (.ret r')
def hl_(b:c_)(c:List Int)(d:List Int):Option (Int×Int×Bool):=
  (forI (fk_ b d) c 0 ())>>=λa=>
  match a with
  | .inl _=>
    some (0,0,false)
  | .inr r'=>some r'
def lq_(w:World)(r:Int×Int×Bool):Ending->World->Prop:=λe w'=>e=.returned (.tuple #[.int .i64 r.1,.int .i64 r.2.1,.bool r.2.2])∧Keeps w w'
theorem oU_(w:World)(b6:List Value)(u:c_)(b7:Rp.rd zt w b6 u)(i:Value)(f:Yl)(V:RdL zt w i f)(d:Value)(q:Yl)(W:RdL zt w d q)(r:Int×Int×Bool)(hF:hl_ u f q=some r):
    Calls tX_ 84 #[.agg b6.toArray,i,d] w (lq_ w r):=by
 unfold hl_ at hF;obtain⟨F,G,rfl,b8,b9⟩:=b7;have hB:Bs (λ_=>1) (col (λ_=>1)) w w:=Bs.start _ _;refine j_ (n:=36) (vs:=[.agg #[ZI u.Labels,ZI u.Degree,F,G],i,d]) Tryz.func84 rfl rfl ?_;refine Zq (Zo ?_);refine aD_ (o:=(col (λ_=>1))) w.heap.size 11 hB.keeps.size (cs:=[ZI u.Labels,ZI u.Degree,F,G]) rfl rfl ?_;intro c0 d2 j z c1;replace hB:=hB.stp c1;refine Za rfl (Za rfl (Za rfl (Ze [(1,_),(2,_),(3,_)] (nx (b_ (Zq (Zm rfl (Zv (J_ rfl V tY_) (Zm rfl (Ze [(2,_),(3,_),(13,_),(14,_),(15,_)] (nx ?_)))))))))));obtain⟨C,H,hF⟩:=a_ hF;refine A_ (λa v=>∃(s:Tg),C=.inl ()∧Fr a 36 []∧Bs (λ_=>1) s w v) (λa w'=>∃r',C=.inr r'∧bodyPost tX_ Tryz.f84 (lq_ w r') .ret a w') ?_ ?_ ?_
 ·refine f_ ?_;refine z_ (λ(K:Nat) a v=>∃(b:Int)(s:Tg),forI (fk_ u q) (f.drop b.toNat) b ()=some C∧(f.drop b.toNat).length=K∧0<=b∧Fr a 36 [(2,d),(3,ZP j),(13,i),(14,ZI (f.length:Int)),(15,ZI b)]∧Bs (λ_=>1) s w v∧Bx w.heap.size 11 s v j 28 [ZI u.Labels,ZI u.Degree,F,G]) _ (λa ha=>⟨0,c0,H,rfl,Int.le_refl 0,ha.sb,hB,z⟩) ?_;rintro K17 a v ⟨b,s,I,X,Y,ha,hB,z⟩;by_cases A:b<(f.length:Int)
  ·obtain⟨g,c2,J,x,L⟩:=R_ Y A I;have hle:=V.len_le;dsimp only[fk_] at x;refine O_ ha ?_;refine Zq (Zv (u_ rfl rfl) (Ze [(2,_),(3,_),(13,_),(14,_),(15,_),(16,_)] (nx (b_ ?_))));refine M_ (Zb (decide_eq_true A)) ?_;refine h_ (nx (b_ (f_ (Zq (Zm rfl (Zo ?_))))));refine wf_atZ V J hB rfl rfl tY_ tZ_ ?_;intro c3 c4 c5 Z a0;cases a0
   refine Zv (e_ rfl ua_ (i_ Z)) (Za rfl (Za rfl (Ze [(2,_),(3,_),(9,_),(10,_),(13,_),(14,_),(15,_)] (Zn (Zm rfl (Zv (J_ rfl W tY_) (Zm rfl (Ze [(2,_),(3,_),(9,_),(10,_),(13,_),(14,_),(15,_),(20,_),(21,_),(22,_)] (nx ?_)))))))));obtain⟨D,M,x⟩:=a_ x;refine A_ (λa m=>∃(k:Tg),D=.inl ()∧Fr a 36 [(2,d),(3,ZP j),(13,i),(14,ZI (f.length:Int)),(15,ZI b)]∧Bs (λ_=>1) k w m∧Bx w.heap.size 11 k m j 28 [ZI u.Labels,ZI u.Degree,F,G]) (λa w'=>∃r',D=.inr r'∧bodyPost tX_ Tryz.f84 (lq_ w r') .ret a w') ?_ ?_ ?_
   ·refine f_ ?_;refine z_ (λ(K:Nat) a m=>∃(c:Int)(k:Tg),forI (ei_ u b g) (q.drop c.toNat) c ()=some D∧(q.drop c.toNat).length=K∧0<=c∧Fr a 36 [(2,d),(3,ZP j),(9,ZI b),(10,ZI g),(13,i),(14,ZI (f.length:Int)),(15,ZI b),(20,d),(21,ZI (q.length:Int)),(22,ZI c)]∧Bs (λ_=>1) k w m∧Bx w.heap.size 11 k m j 28 [ZI u.Labels,ZI u.Degree,F,G]) _ (λa ha=>⟨0,s,M,rfl,Int.le_refl 0,ha.sb,hB,z⟩) ?_;rintro K35 a m ⟨c,k,N,a1,a2,ha,hB,z⟩;by_cases B:c<(q.length:Int)
    ·obtain⟨O,c6,Q,y,R⟩:=R_ a2 B N;have hle:=W.len_le;dsimp only[ei_] at y;refine O_ ha ?_;refine Zq (Zv (u_ rfl rfl) (Ze [(2,_),(3,_),(9,_),(10,_),(13,_),(14,_),(15,_),(20,_),(21,_),(22,_),(23,_)] (nx (b_ ?_))));refine M_ (Zb (decide_eq_true B)) ?_;refine h_ (nx (b_ (f_ (Zq (Zm rfl (Zo ?_))))));refine wf_atZ W Q hB rfl rfl tY_ tZ_ ?_;intro c7 c8 c9 a3 a4;cases a4
     refine Zv (e_ rfl ua_ (i_ a3)) (Za rfl (Za rfl (Ze [(2,_),(3,_),(9,_),(10,_),(11,_),(12,_),(13,_),(14,_),(15,_),(20,_),(21,_),(22,_)] (Zn (Zv (H_ rfl ue_ uc_ rfl z.cells) (Zm rfl (Zm rfl ?_)))))));obtain⟨S,T,y⟩:=a_ y;refine Zo ?_;refine o_ (mN_ m _ u (⟨_,_,rfl,b8.keep hB.keeps,b9.keep hB.keeps⟩) g O S T) Tryz.call124 ⟨rfl,rfl,rfl,trivial⟩ ?_;rintro d0 d1 ⟨rfl,a5⟩;have U:=a5.stp 999 k;refine⟨_,rfl,?_⟩;replace z:=z.stp U;replace hB:=hB.stp U;refine Zv (bo_ rfl) (Ze [(2,_),(3,_),(9,_),(10,_),(11,_),(13,_),(14,_),(15,_),(20,_),(21,_),(22,_),(31,_)] (nx ?_));refine p_ rfl (λE=>?_) (λE=>?_)
     ·rw[if_pos E] at y;refine Zq (Zm rfl (Zm rfl (Za rfl (Za rfl (Za rfl (Ze [(6,_),(7,_),(8,_)] (nx (n_ (aq_ (I_ (I_ (aq_ ?_))))))))))));refine cK_ ?_;have a6:=Zj y;subst a6;refine λa ha=>⟨_,R,?_⟩;refine N_ (P:=tX_) (vs:=[ZI b,ZI c,.bool true]) wH_ ⟨rfl,rfl,rfl,trivial⟩ ?_ a ha;exact⟨rfl,hB.keeps⟩
     ·replace y:=ZF E y;refine h_ (y_ (nx (d_ (Zv (C_ rfl rfl (F_ (by omega) (by omega))) (Zm rfl (Ze [(2,_),(3,_),(9,_),(10,_),(13,_),(14,_),(15,_),(20,_),(21,_),(22,_)] (x_ ?_)))))));have a7:=Zj y;subst a7;refine Zk [(2,_),(3,_),(9,_),(10,_),(13,_),(14,_),(15,_),(20,_),(21,_),(22,_)] ?_;intro a ha;exact⟨_,(by rw[<-a1];simp only[List.length_drop];omega),c+1,k,R,rfl,by omega,ha,hB,z⟩
    ·have a8:=S_ B N;refine O_ ha ?_;refine Zq (Zv (u_ rfl rfl) (Ze [(2,_),(3,_),(9,_),(10,_),(13,_),(14,_),(15,_),(20,_),(21,_),(22,_),(23,_)] (nx (b_ ?_))));refine D_ (Zb (decide_eq_false B)) ?_;refine w_ ?_;refine m_ (m_ (Q_ ?_));refine s_ ?_;refine Zk [(2,_),(3,_),(13,_),(14,_),(15,_)] ?_;intro a ha;exact⟨k,a8,ha,hB,z⟩
   ·rintro a m ⟨k,rfl,ha,hB,z⟩;dsimp only at x;refine ap_k ha ?_;refine y_ (nx (d_ (Zv (C_ rfl rfl (F_ (by omega) (by omega))) (Zm rfl (Ze [(2,_),(3,_),(13,_),(14,_),(15,_)] (x_ ?_))))));have a9:=Zj x;subst a9;refine Zk [(2,_),(3,_),(13,_),(14,_),(15,_)] ?_;intro a ha;exact⟨_,(by rw[<-X];simp only[List.length_drop];omega),b+1,k,L,rfl,by omega,ha,hB,z⟩
   ·rintro a m ⟨r',rfl,b0⟩;dsimp only at x;have b1:=Zj x;subst b1;exact⟨_,L,b0⟩
  ·have b2:=S_ A I;refine O_ ha ?_;refine Zq (Zv (u_ rfl rfl) (Ze [(2,_),(3,_),(13,_),(14,_),(15,_),(16,_)] (nx (b_ ?_))));refine D_ (Zb (decide_eq_false A)) ?_;refine w_ ?_;refine m_ (m_ (Q_ ?_));refine s_ ?_;refine Zk [] ?_;intro a ha;exact⟨s,b2,ha,hB⟩
 ·rintro a v ⟨s,rfl,ha,hB⟩;dsimp only at hF;refine ap_k ha ?_;refine Zn (Za rfl (Za rfl (Za rfl (Ze [(6,_),(7,_),(8,_)] (nx (n_ ?_))))));have b3:=Zj hF;subst b3;refine Zr wH_ [ZI 0,ZI 0,.bool false] ?_;exact⟨rfl,hB.keeps⟩
 ·rintro a v ⟨r',rfl,b4⟩;dsimp only at hF;have b5:=Zj hF;subst b5;exact b4
def hn_(b:c_)(c:List Int)(d:List Int):Option Bool:=
  (hl_ b c d)>>=λa=>
  some (!a.2.2)
def pA_(w:World)(r:Bool):Ending->World->Prop:=λe w'=>e=.returned (.bool r)∧Keeps w w'
theorem pu_(w:World)(q:List Value)(b:c_)(v:Rp.rd zt w q b)(d:Value)(g:Yl)(x:RdL zt w d g)(f:Value)(i:Yl)(y:RdL zt w f i)(r:Bool)(hF:hn_ b g i=some r):
    Calls tX_ 65 #[.agg q.toArray,d,f] w (pA_ w r):=by
 unfold hn_ at hF;obtain⟨s,u,rfl,z,A⟩:=v;have hB:Bs (λ_=>1) (col (λ_=>1)) w w:=Bs.start _ _;refine j_ (n:=20) (vs:=[.agg #[ZI b.Labels,ZI b.Degree,s,u],d,f]) Tryz.func65 rfl rfl ?_;refine Zq (Zo ?_);refine aD_ (o:=(col (λ_=>1))) w.heap.size 11 hB.keeps.size (cs:=[ZI b.Labels,ZI b.Degree,s,u]) rfl rfl ?_;intro B C D E F;replace hB:=hB.stp F;refine Za rfl (Ze [(1,_),(2,_),(3,_)] (Zn (Zv (H_ rfl ue_ uc_ rfl E.cells) (Zm rfl (Zm rfl ?_)))));obtain⟨a,c,hF⟩:=a_ hF;refine Zo ?_;refine o_ (oU_ C _ b (⟨_,_,rfl,z.keep hB.keeps,A.keep hB.keeps⟩) _ g (x.keep hB.keeps) _ i (y.keep hB.keeps) a c) wI_ ⟨rfl,rfl,rfl,trivial⟩ ?_;rintro G H ⟨rfl,j⟩;have k:=j.stp 999 B;refine⟨_,rfl,?_⟩;replace hB:=hB.stp k;refine Zm rfl (Zv (t_ rfl rfl) (Zv (t_ rfl rfl) (Zv (t_ rfl rfl) (Za rfl (Za rfl (Za rfl (Ze [(9,_)] (Zn (Zm rfl (Zv (bo_ rfl) (Za rfl (Ze [(6,_)] ?_))))))))))));refine nx (n_ ?_);have m:=Zj hF;subst m;refine Zr Tryz.results65 [.bool (!a.2.2)] ?_;exact⟨rfl,hB.keeps⟩
def eI_(d:c_):Int->(List Int)->Unit->Option (Lp Unit Unit ((List Int)×Bool)):=λ(f:Int)(a:List Int)(s:Unit)=>
  (hn_ d a a)>>=λb=>
  if b then
    (da_ a)>>=λc=>
    some (.ret (c,true))
  else
    some (.go ())
def gY_(b:c_):Option ((List Int)×Bool):=
  (forI (eI_ b) b.Nodes 0 ())>>=λa=>
  match a with
  | .inl _=>
    some ([],false)
  | .inr r'=>some r'
def na_(oo:Tg)(t:Nat)(w:World)(r:Yl×Bool):Ending->World->Prop:=λe w'=>∃(a:Value)(o':Tg),e=.returned (.tuple #[a,.bool r.2])∧Ow w.heap.size 3 t o' w' a r.1∧Keeps w w'∧∀b,b<w.heap.size->o' b=oo b
theorem qi_(w:World)(oo:Tg)(t:Nat)(ht:2<=t)(a3:List Value)(c:c_)(a4:Rp.rd zt w a3 c)(r:Yl×Bool)(hF:gY_ c=some r):
    Calls tX_ 41 #[.agg a3.toArray] w (na_ oo t w r):=by
 unfold gY_ at hF;obtain⟨i,J,rfl,I,a5⟩:=a4;have hB:Bs oo (col oo) w w:=Bs.start _ _;refine j_ (n:=20) (vs:=[.agg #[ZI c.Labels,ZI c.Degree,i,J]]) Tryz.func41 rfl rfl ?_;generalize col oo=o at*;refine Zq (Zo ?_);refine aD_ (o:=o) w.heap.size 11 hB.keeps.size (cs:=[ZI c.Labels,ZI c.Degree,i,J]) rfl rfl ?_;intro a6 b5 j m a7;replace hB:=hB.stp a7;refine Za rfl (Za rfl (Ze [(1,_)] (nx (b_ (Zq (Zv (r_ rfl ud_ rfl ui_) (Zv (e_ rfl uj_ (m.cell rfl)) (Zv (J_ rfl I ub_) (Zm rfl (Ze [(1,_),(7,_),(8,_),(9,_)] (nx ?_)))))))))));obtain⟨q,y,hF⟩:=a_ hF;refine A_ (λa g=>∃(d:Tg),q=.inl ()∧Fr a 20 []∧Bs oo d w g) (λa w'=>∃r',q=.inr r'∧bodyPost tX_ Tryz.f41 (na_ oo t w r') .ret a w') ?_ ?_ ?_
 ·refine f_ ?_;refine z_ (λ(K:Nat) a g=>∃(b:Int)(d:Tg),forI (eI_ c) (c.Nodes.drop b.toNat) b ()=some q∧(c.Nodes.drop b.toNat).length=K∧0<=b∧Fr a 20 [(1,ZP j),(7,i),(8,ZI (c.Nodes.length:Int)),(9,ZI b)]∧Bs oo d w g∧Bx w.heap.size 11 d g j 28 [ZI c.Labels,ZI c.Degree,i,J]) _ (λa ha=>⟨0,a6,y,rfl,Int.le_refl 0,ha.sb,hB,m⟩) ?_;rintro K17 a g ⟨b,d,z,L,M,ha,hB,m⟩;by_cases k:b<(c.Nodes.length:Int)
  ·obtain⟨s,a8,A,f,B⟩:=R_ M k z;have hle:=I.len_le;dsimp only[eI_] at f;refine O_ ha ?_;refine Zq (Zv (u_ rfl rfl) (Ze [(1,_),(7,_),(8,_),(9,_),(10,_)] (nx (b_ ?_))));refine M_ (Zb (decide_eq_true k)) ?_;refine h_ (nx (b_ (f_ (Zq (Zo ?_)))));refine wf_atZ I A hB rfl rfl ub_ uf_ ?_;intro a9 b0 b1 N O;obtain⟨C,rfl,u⟩:=O;refine Zv (e_ rfl ug_ (i_ N)) (Za rfl (Ze [(1,_),(5,_),(7,_),(8,_),(9,_)] (Zn (Zv (H_ rfl ue_ uc_ rfl m.cells) (Zm rfl (Zm rfl ?_))))));obtain⟨D,E,f⟩:=a_ f;refine Zo ?_;refine o_ (pu_ g _ c (⟨_,_,rfl,I.keep hB.keeps,a5.keep hB.keeps⟩) _ s (u.keep hB.keeps) _ s (u.keep hB.keeps) D E) Tryz.call65 ⟨rfl,rfl,rfl,trivial⟩ ?_;rintro b2 Q ⟨rfl,R⟩;have F:=R.stp 999 d;refine⟨_,rfl,?_⟩;replace m:=m.stp F;replace hB:=hB.stp F;refine Ze [(1,_),(5,_),(7,_),(8,_),(9,_),(16,_)] (nx ?_);refine p_ rfl (λv=>?_) (λv=>?_)
   ·rw[if_pos v] at f;refine Zq (Zm rfl ?_);obtain⟨S,G,f⟩:=a_ f;refine Zo ?_;refine o_ (er_ Q d 13 (by decide) _ s (u.keep hB.keeps) S G) Tryz.call66 ⟨rfl,trivial⟩ ?_;rintro b3 b4 ⟨H,T,rfl,x,U,V⟩;have W:=U.stp' 13 V;replace x:=x.mono hB.keeps.size;refine⟨_,rfl,?_⟩;replace hB:=hB.stp W;refine Za rfl (Za rfl (Ze [(2,_),(3,_)] (nx (n_ (aq_ (I_ (I_ (aq_ ?_))))))));refine cK_ ?_;have X:=Zj f;subst X;refine λa ha=>⟨_,B,?_⟩;refine N_ (P:=tX_) (vs:=[H,.bool true]) wJ_ ⟨rfl,rfl,trivial⟩ ?_ a ha;exact⟨_,rt oo T w.heap.size 13 t,rfl,x.rt hB (by decide) t,hB.keeps,ac_ _ _ _ _ _⟩
   ·replace f:=ZF v f;refine h_ (y_ (nx (d_ (Zv (C_ rfl rfl (F_ (by omega) (by omega))) (Zm rfl (Ze [(1,_),(7,_),(8,_),(9,_)] (x_ ?_)))))));have Y:=Zj f;subst Y;refine Zk [(1,_),(7,_),(8,_),(9,_)] ?_;intro a ha;exact⟨_,(by rw[<-L];simp only[List.length_drop];omega),b+1,d,B,rfl,by omega,ha,hB,m⟩
  ·have Z:=S_ k z;refine O_ ha ?_;refine Zq (Zv (u_ rfl rfl) (Ze [(1,_),(7,_),(8,_),(9,_),(10,_)] (nx (b_ ?_))));refine D_ (Zb (decide_eq_false k)) ?_;refine w_ ?_;refine m_ (m_ (Q_ ?_));refine s_ ?_;refine Zk [] ?_;intro a ha;exact⟨d,Z,ha,hB⟩
 ·rintro a g ⟨d,rfl,ha,hB⟩;dsimp only at hF;refine ap_k ha ?_;refine Zn (Za rfl (Za rfl (Ze [(2,_),(3,_)] (nx (n_ ?_)))));have a0:=Zj hF;subst a0;refine Zr wJ_ [.slice none 0 0,.bool false] ?_;exact⟨_,rt oo d w.heap.size 9 t,rfl,Ow.nil _ _ _ _ _,hB.keeps,ac_ _ _ _ _ _⟩
 ·rintro a g ⟨r',rfl,a1⟩;dsimp only at hF;have a2:=Zj hF;subst a2;exact a1
end
section
set_option maxRecDepth 100000
set_option maxHeartbeats 2000000
open Go.RowKit
theorem jV_:Inf tX_ 41 (.slice none 0 0) 1 24:=by unfold Inf;kernel_rfl
theorem gr_:(tX_.info? 28).map (·.size)=some 4:=by kernel_rfl
def bW_(g:c_):Int->(List Int)->(List (List Int))->Option (Lp (List (List Int)) (List (List Int)) ((List (List Int))×Bool)):=λ(i:Int)(a:List Int)(s:List (List Int))=>
  (hl_ g a a)>>=λb=>
  (ix a b.1)>>=λd=>
  (ix a b.2.1)>>=λf=>
  (push s ([d,f]:List Int))>>=λc=>
  some (.go c)
def cS_(fuel:Nat)(a:c_):Option ((List (List Int))×Bool):=
  (ey_ fuel a)>>=λb=>
  if !b then
    some ([],false)
  else
    (gY_ a)>>=λc=>
    if c.2 then
      some ([],false)
    else
      (forI (bW_ a) a.Nodes 0 [])>>=λd=>
      match d with
      | .inl f=>
        some (f,true)
      | .inr _=>none
def je_(oo:Tg)(t:Nat)(w:World)(r:Yk×Bool):Ending->World->Prop:=λe w'=>∃(a:Value)(c:List Hv)(o':Tg),e=.returned (.tuple #[a,.bool r.2])∧Ow w.heap.size 41 t o' w' a c∧Rws w.heap.size 3 (t+1) o' w' c r.1∧Keeps w w'∧∀b,b<w.heap.size->o' b=oo b
theorem jd_(fuel:Nat)(w:World)(oo:Tg)(t:Nat)(ht:2<=t)(g3:List Value)(g:c_)(i4:Rp.rd zt w g3 g)(r:Yk×Bool)(hF:cS_ fuel g=some r):
    Calls tX_ 55 #[.agg g3.toArray] w (je_ oo t w r):=by
 unfold cS_ at hF;obtain⟨E,e1,rfl,T,e4⟩:=i4;have hB:Bs oo (col oo) w w:=Bs.start _ _;refine j_ (n:=50) (vs:=[.agg #[ZI g.Labels,ZI g.Degree,E,e1]]) Tryz.func55 rfl rfl ?_;generalize col oo=o at*;refine Zq (Zo ?_);refine aD_ (o:=o) w.heap.size 11 hB.keeps.size (cs:=[ZI g.Labels,ZI g.Degree,E,e1]) rfl rfl ?_;intro e5 i5 A m i6;replace hB:=hB.stp i6;refine Za rfl (Za rfl (Ze [(1,_)] (nx (b_ (Zq (Zv (H_ rfl ue_ uc_ rfl m.cells) ?_))))));obtain⟨b0,b1,hF⟩:=a_ hF;refine Zo ?_;refine o_ (ic_ fuel i5 _ g (⟨_,_,rfl,T.keep hB.keeps,e4.keep hB.keeps⟩) b0 b1) Tryz.call47 ⟨rfl,trivial⟩ ?_;rintro i7 e6 ⟨rfl,e7⟩;have b2:=e7.stp 999 e5;refine⟨_,rfl,?_⟩;replace m:=m.stp b2;replace hB:=hB.stp b2;refine Zv (bo_ rfl) (Ze [(1,_),(14,_)] (nx ?_));refine p_ rfl (λa4=>?_) (λa4=>?_)
 ·rw[if_pos a4] at hF;refine Zq (Za rfl (Za rfl (Ze [(2,_),(3,_)] (nx (n_ (I_ ?_))))));have e8:=Zj hF;subst e8;refine Zr vm_ [.slice none 0 0,.bool false] ?_;exact⟨_,[],rt2 oo e5 w.heap.size 9 8 t,rfl,Ow.nil _ _ _ _ _,Rws.nil _ _ _ _ _,hB.keeps,fA_ _ _ _ _ _ _⟩
 ·replace hF:=ZF a4 hF;refine h_ (nx (b_ (Zq (Zv (H_ rfl ue_ uc_ rfl m.cells) ?_))));obtain⟨a5,b3,hF⟩:=a_ hF;refine Zo ?_;refine o_ (qi_ e6 e5 13 (by decide) _ g (⟨_,_,rfl,T.keep hB.keeps,e4.keep hB.keeps⟩) a5 b3) Tryz.call41 ⟨rfl,trivial⟩ ?_;rintro i8 b4 ⟨i9,O,rfl,j0,e9,f0⟩;have b5:=e9.stp' 13 f0;refine⟨_,rfl,?_⟩;replace m:=m.stp b5;replace hB:=hB.stp b5;refine Zm rfl (Zv (t_ rfl rfl) (Zv (t_ rfl rfl) (Za rfl (Za rfl (Ze [(1,_),(5,_)] (Zn (Zm rfl (Ze [(1,_),(20,_)] (nx ?_)))))))));refine p_ rfl (λa6=>?_) (λa6=>?_)
  ·rw[if_pos a6] at hF;refine Zq (Za rfl (Za rfl (Ze [(2,_),(3,_)] (nx (n_ (I_ ?_))))));have f1:=Zj hF;subst f1;refine Zr vm_ [.slice none 0 0,.bool false] ?_;exact⟨_,[],rt2 oo O w.heap.size 9 8 t,rfl,Ow.nil _ _ _ _ _,Rws.nil _ _ _ _ _,hB.keeps,fA_ _ _ _ _ _ _⟩
  ·replace hF:=ZF a6 hF;refine h_ (Zn (Za rfl (Ze [(1,_),(6,_)] (nx (b_ (Zq (Zv (r_ rfl ud_ rfl ui_) (Zv (e_ rfl uj_ (m.cell rfl)) (Zv (J_ rfl T ub_) (Zm rfl (Ze [(1,_),(6,_),(22,_),(23,_),(24,_)] (nx ?_))))))))))));have f2:Ow w.heap.size 41 14 O b4 (.slice none 0 0) ([]:List Hv):=Ow.nil _ _ _ _ _;have f3:Rws w.heap.size 3 15 O b4 [] ([]:Yk):=Rws.nil _ _ _ _ _;obtain⟨b6,b7,hF⟩:=a_ hF;refine A_ (λa s=>∃(z:Yk)(d:Value)(q:List Hv)(j:Tg),b6=.inl z∧Fr a 50 [(6,d)]∧Bs oo j w s∧Ow w.heap.size 41 14 j s d q∧Rws w.heap.size 3 15 j s q z) (λ_ _=>False) ?_ ?_ ?_
   ·refine f_ ?_;refine z_ (λ(K:Nat) a s=>∃(f:Int)(z:Yk)(d:Value)(q:List Hv)(j:Tg),forI (bW_ g) (g.Nodes.drop f.toNat) f z=some b6∧(g.Nodes.drop f.toNat).length=K∧0<=f∧Fr a 50 [(1,ZP A),(6,d),(22,E),(23,ZI (g.Nodes.length:Int)),(24,ZI f)]∧Bs oo j w s∧Ow w.heap.size 41 14 j s d q∧Rws w.heap.size 3 15 j s q z∧Bx w.heap.size 11 j s A 28 [ZI g.Labels,ZI g.Degree,E,e1]) _ (λa ha=>⟨0,[],.slice none 0 0,[],O,b7,rfl,Int.le_refl 0,ha.sb,hB,f2,f3,m⟩) ?_;rintro K43 a s ⟨f,z,d,q,j,b8,f4,f5,ha,hB,i,b,m⟩;by_cases P:f<(g.Nodes.length:Int)
    ·obtain⟨Q,j1,b9,x,f6⟩:=R_ f5 P b8;have hle:=T.len_le;dsimp only[bW_] at x;refine O_ ha ?_;refine Zq (Zv (u_ rfl rfl) (Ze [(1,_),(6,_),(22,_),(23,_),(24,_),(25,_)] (nx (b_ ?_))));refine M_ (Zb (decide_eq_true P)) ?_;refine h_ (nx (b_ (f_ (Zq (Zo ?_)))));refine wf_atZ T b9 hB rfl rfl ub_ uf_ ?_;intro j2 j3 j4 f7 f8;obtain⟨R,rfl,J⟩:=f8;refine Zv (e_ rfl ug_ (i_ f7)) (Za rfl (Ze [(1,_),(6,_),(8,_),(22,_),(23,_),(24,_)] (Zn (Zv (H_ rfl ue_ uc_ rfl m.cells) (Zm rfl (Zm rfl ?_))))));obtain⟨D,c0,x⟩:=a_ x;refine Zo ?_;refine o_ (oU_ s _ g (⟨_,_,rfl,T.keep hB.keeps,e4.keep hB.keeps⟩) _ Q (J.keep hB.keeps) _ Q (J.keep hB.keeps) D c0) wI_ ⟨rfl,rfl,rfl,trivial⟩ ?_;rintro j5 j6 ⟨rfl,f9⟩;have S:=f9.stp 999 j;refine⟨_,rfl,?_⟩;replace i:=i.stp S;replace b:=b.stp S;replace m:=m.stp S;replace hB:=hB.stp S;refine Zm rfl (Zv (t_ rfl rfl) (Zv (t_ rfl rfl) (Zv (t_ rfl rfl) (Za rfl (Za rfl (Za rfl (Ze [(1,_),(6,_),(8,_),(9,_),(10,_),(22,_),(23,_),(24,_)] (nx ?_))))))));obtain⟨B,U,x⟩:=a_ x;obtain⟨C,V,x⟩:=a_ x;refine ZW (Bf:=λe2 e3=>Bs oo e2 w e3∧Ow w.heap.size 41 14 e2 e3 d q∧Rws w.heap.size 3 15 e2 e3 q z∧Bx w.heap.size 11 e2 e3 A 28 [ZI g.Labels,ZI g.Degree,E,e1]) [(1,_),(6,_),(8,_),(9,_),(10,_),(22,_),(23,_),(24,_)] (Zrg 36 11) [[],[],[],[1,2],[3],[],[],[5,6],[7],[4,8],[9]] (Zcn 11) (Zt9 11) [0,0,0,0,0,0,0,0,0,17,17] [999] [.inl d,.inl R,.inl (ZI D.1),.inr (λv o a8=>∃vl,v=adr vl (D.1.toNat*Rp.sz Int)∧RdL zt w vl Q),.inl (ZI B),.inl R,.inl (ZI D.2.1),.inr (λv o a8=>∃vl,v=adr vl (D.2.1.toNat*Rp.sz Int)∧RdL zt w vl Q),.inl (ZI C),.inr (λv o a8=>Ow w.heap.size 3 17 o a8 v (([B,C]:Yl):Yl)),.inr (λv o a8=>∃u:Value,RdL o a8 v [(⟨u⟩:Hv)]∧Ow w.heap.size 3 17 o a8 u (([B,C]:Yl):Yl))] ⟨hB,i,b,m⟩ ⟨λ_ _ _ _ _ _ a9 hb ⟨vl,e,h⟩ hs=>⟨vl,e,h⟩,λ_ _ _ _ _ _ a9 hb ⟨vl,e,h⟩ hs=>⟨vl,e,h⟩,λ_ _ _ _ _ _ a9 hb h hs=>h.stp hs a9.1 (Ne.symm hb),λ_ _ _ _ _ _ a9 hb ⟨u,h,T⟩ hs=>⟨u,h.stp hs a9.1,T.stp hs a9.1 (Ne.symm hb)⟩,trivial⟩ ?_ ?_
     ·refine⟨Dp (g_ rfl),Dp (g_ rfl),Dp (g_ rfl),?_,?_,Dp (g_ rfl),Dp (g_ rfl),?_,?_,?_,?_,trivial⟩
      ·rintro j7 j8 j9 ha ⟨hB,i,b,m⟩-;refine Zs ha ?_;refine an_ J U rfl rfl tY_ tZ_ ?_;exact⟨_,Stp.refl _ _ _,⟨_,rfl,J⟩⟩
      ·rintro k0 k1 k2 ha ⟨hB,i,b,m⟩ ⟨g0,-⟩;obtain⟨k3,g1,g2⟩:=g0;have ha:=ha.c g1;refine Zs ha ?_;refine cm_ g2 U hB rfl rfl ua_ ?_;intro g4 c1;cases c1
       exact Zx rfl
      ·rintro g5 g6 g7 ha ⟨hB,i,b,m⟩-;refine Zs ha ?_;refine an_ J V rfl rfl tY_ tZ_ ?_;exact⟨_,Stp.refl _ _ _,⟨_,rfl,J⟩⟩
      ·rintro g8 g9 h0 ha ⟨hB,i,b,m⟩ ⟨c2,-⟩;obtain⟨h1,c3,c4⟩:=c2;have ha:=ha.c c3;refine Zs ha ?_;refine cm_ c4 V hB rfl rfl ua_ ?_;intro h2 c5;cases c5
       exact Zx rfl
      ·rintro c6 h3 h4 ha ⟨hB,i,b,m⟩-;refine Zs ha ?_;refine oY_ w.heap.size 17 hB.keeps.size (o:=c6) (cs:=[ZI B,ZI C]) (xs:=([B,C]:Yl)) (vs:=[(0,ZI B),(1,ZI C)]) ⟨_,_,rfl,rfl,⟨_,_,rfl,rfl,rfl⟩⟩ rfl ⟨rfl,rfl,rfl,rfl,trivial⟩ tY_ tZ_ Tryz.zeroValue3 (by decide) (fill2 rfl rfl) (by simp) ?_;intro h5 h6 h7 c7 c8;exact⟨_,c8,c7⟩
      ·rintro W c9 X ha ⟨hB,i,b,m⟩ ⟨k,-⟩;replace k:Ow w.heap.size 3 17 W c9 (X.tmps.getD 45 undef) (([B,C]:Yl):Yl):=k;generalize d0:X.tmps.getD 45 undef=L at k;have ha:=ha.c d0;refine Zs ha ?_;refine aB_ (o:=W) (cs:=[L]) (xs:=([⟨L⟩]:List Hv)) (vs:=[(0,L)]) ⟨_,_,rfl,jb_ k,rfl⟩ rfl ⟨rfl,rfl,trivial⟩ ub_ uf_ uk_ (by decide) (fill1 k.cells1) (by simp) ?_;intro h8 h9 i0 d1 Y i1;replace k:=k.stp Y;exact⟨_,Y,⟨_,d1,k⟩⟩
     rintro _ rfl Z a0 a1 ha ⟨hB,i,b,m⟩ ⟨-,-,-,d2,-⟩;obtain⟨F,G,y⟩:=d2;replace G:RdL Z a0 (a1.tmps.getD 46 undef) ([⟨F⟩]:List Hv):=G;replace y:Ow w.heap.size 3 17 Z a0 F (([B,C]:Yl):Yl):=y;generalize d3:a1.tmps.getD 46 undef=i2 at G;have ha:=ha.c d3;refine aS_ ha ?_;obtain⟨d4,a7,x⟩:=a_ x;obtain⟨d5,d6⟩:=b.pushV a7 F;refine Zo ?_;refine bf_ i G (ai_ d5) (by decide) hB.keeps.size rfl rfl ub_ jV_ rfl (by decide) ?_;intro a2 i3 H M I;replace b:=b.stp I;replace y:=y.stp I;replace m:=m.stp I;replace hB:=hB.stp I;have a3:=b.push y (by decide) (by decide);rw[<-d6] at a3;clear b y;have N:=fe_ 17 15 a2;replace M:=M.rc N (by decide) (by decide);replace m:=m.rc N (by decide);replace hB:=hB.rc N (by decide);generalize mrg 17 15 a2=d7 at*;refine Za rfl (Ze [(1,ZP A),(6,H),(22,E),(23,ZI (g.Nodes.length:Int)),(24,ZI f)] (y_ (nx (d_ (Zv (C_ rfl rfl (F_ (by omega) (by omega))) (Zm rfl (Ze [(1,_),(6,_),(22,_),(23,_),(24,_)] (x_ ?_))))))));have d8:=Zj x;subst d8;refine Zk [(1,_),(6,_),(22,_),(23,_),(24,_)] ?_;intro a ha;exact⟨_,(by rw[<-f4];simp only[List.length_drop];omega),f+1,d4,H,q++[⟨F⟩],d7,f6,rfl,by omega,ha,hB,M,a3,m⟩
    ·have d9:=S_ P b8;refine O_ ha ?_;refine Zq (Zv (u_ rfl rfl) (Ze [(1,_),(6,_),(22,_),(23,_),(24,_),(25,_)] (nx (b_ ?_))));refine D_ (Zb (decide_eq_false P)) ?_;refine w_ ?_;refine m_ (m_ (Q_ ?_));refine s_ ?_;refine Zk [(6,_)] ?_;intro a ha;exact⟨z,d,q,j,d9,ha,hB,i,b⟩
   ·rintro a s ⟨z,d,q,j,rfl,ha,hB,i,b⟩;dsimp only at hF;refine ap_k ha ?_;refine Zn (Zm rfl (Za rfl (Za rfl (Ze [(2,_),(3,_)] (nx (n_ ?_))))));have e0:=Zj hF;subst e0;refine Zr vm_ [d,.bool true] ?_;exact⟨_,q,rt2 oo j w.heap.size 14 15 t,rfl,i.rt2 hB (by decide) (by decide) t,b.rt2 hB (by decide) (by decide) (by decide) t,hB.keeps,fA_ _ _ _ _ _ _⟩
   ·exact λ_ _ h=>h.elim
def fv_(fuel:Nat)(d:c_):Option ((List Int)×(List (List Int))×Bool):=
  (br_ fuel d)>>=λa=>
  if !a.2.2.2 then
    some ([],[],false)
  else
    (ci_ fuel a.1 d)>>=λb=>
    (cS_ fuel d)>>=λc=>
    (
      if !b.2 then
        some true
      else
        some (!c.2))>>=λf=>
    if f then
      some ([],[],false)
    else
      some (b.1,c.1,true)
def mt_(oo:Tg)(t:Nat)(w:World)(r:Yl×Yk×Bool):Ending->World->Prop:=λe w'=>∃(a:Value)(c:Value)(o':Tg),e=.returned (.tuple #[a,c,.bool r.2.2])∧Of 3 o' w' a r.1∧Dz 41 3 o' w' c r.2.1∧Keeps w w'∧∀b,b<w.heap.size->o' b=oo b
theorem md_(fuel:Nat)(w:World)(oo:Tg)(t:Nat)(ht:2<=t)(b9:List Value)(C:c_)(Y:Rp.rd oo w b9 C)(r:Yl×Yk×Bool)(hF:fv_ fuel C=some r):
    Calls tX_ 22 #[.agg b9.toArray] w (mt_ oo t w r):=by
 unfold fv_ at hF;replace Y:=Rp.col Y;obtain⟨c0,c1,rfl,k,m⟩:=Y;have hB:Bs oo (col oo) w w:=Bs.start _ _;refine j_ (n:=41) (vs:=[.agg #[ZI C.Labels,ZI C.Degree,c0,c1]]) Tryz.func22 rfl rfl ?_;generalize col oo=o at*;refine Zq (Zo ?_);refine aD_ (o:=o) w.heap.size 11 hB.keeps.size (cs:=[ZI C.Labels,ZI C.Degree,c0,c1]) rfl rfl ?_;intro c2 c3 X x Z;replace k:=k.stp Z;replace m:=m.stp Z;replace hB:=hB.stp Z;refine Za rfl (Za rfl (Za rfl (Ze [(1,_)] (Zn (Zv (H_ rfl ue_ uc_ rfl x.cells) ?_)))));obtain⟨D,O,hF⟩:=a_ hF;refine Zo ?_;refine o_ (iE_ fuel c3 c2 12 (by decide) _ C (⟨_,_,rfl,k.z,m.z⟩) D O) Tryz.call49 ⟨rfl,trivial⟩ ?_;rintro c4 c5 ⟨c6,c7,c8,a0,rfl,a1,c9,d0,a2,a3⟩;have E:=a2.stp' 12 a3;refine⟨_,rfl,?_⟩;obtain⟨d1,d2,rfl,q,s⟩:=a1;replace k:=k.stp E;replace m:=m.stp E;replace x:=x.stp E;replace hB:=hB.stp E;refine Zm rfl (Zv (t_ rfl rfl) (Zv (t_ rfl rfl) (Zv (t_ rfl rfl) (Zv (t_ rfl rfl) (Zo ?_)))));refine aY_ (o:=a0) w.heap.size 13 hB.keeps.size (cs:=[ZI 0,ZI 0,.slice none 0 0,.slice none 0 0]) um_ rfl ?_;intro P d3 Q a4 u;replace k:=k.stp u;replace m:=m.stp u;replace q:=q.stp u;replace s:=s.stp u;replace x:=x.stp u;replace hB:=hB.stp u;refine am_ trivial ?_;refine ae_ a4 rfl rfl rfl gr_ (by intro c hc;simp only[List.mem_cons,List.not_mem_nil,or_false] at hc;rcases hc with rfl|rfl|rfl|rfl<;>first|rfl|exact q.one1|exact s.one1) ?_;intro a5 a6 v;replace k:=k.stp v;replace m:=m.stp v;replace q:=q.stp v;replace s:=s.stp v;replace x:=x.stp v;replace hB:=hB.stp v;refine Za rfl (Za rfl (Za rfl (Ze [(1,_),(5,_),(8,_)] (nx (b_ (Zq (Zm rfl (Zv (bo_ rfl) (Ze [(1,_),(5,_),(21,_)] (nx ?_))))))))));refine p_ rfl (λI=>?_) (λI=>?_)
 ·rw[if_pos I] at hF;refine Zq (Za rfl (Za rfl (Za rfl (Ze [(2,_),(3,_),(4,_)] (nx (n_ (I_ ?_)))))));have a7:=Zj hF;subst a7;refine Zr vn_ [.slice none 0 0,.slice none 0 0,.bool false] ?_;exact⟨_,_,rt oo P w.heap.size 9 t,rfl,Of.nil _ _ _,Dz.nil _ _ _ _,hB.keeps,ac_ _ _ _ _ _⟩
 ·replace hF:=ZF I hF;refine h_ (Zn (Zv (H_ rfl ue_ uc_ rfl a6.cells) (Zv (H_ rfl ue_ uc_ rfl x.cells) ?_)));obtain⟨F,R,hF⟩:=a_ hF;refine Zo ?_;refine o_ (in_ fuel a5 P 14 (by decide) _ D.1 (⟨_,_,rfl,q,s⟩) _ C (⟨_,_,rfl,k,m⟩) F R) Tryz.call54 ⟨rfl,rfl,trivial⟩ ?_;rintro d4 a8 ⟨d,a9,rfl,f,b0,b1⟩;have G:=b0.stp' 14 b1;have d5:=f.rd;refine⟨_,rfl,?_⟩;replace k:=k.stp G;replace m:=m.stp G;replace x:=x.stp G;replace hB:=hB.stp G;refine Zm rfl (Zv (t_ rfl rfl) (Zv (t_ rfl rfl) (Za rfl (Za rfl (Ze [(1,_),(9,_),(10,_)] (Zn (Zv (H_ rfl ue_ uc_ rfl x.cells) ?_)))))));obtain⟨J,S,hF⟩:=a_ hF;refine Zo ?_;refine o_ (jd_ fuel a8 a9 15 (by decide) _ C (⟨_,_,rfl,k.z,m.z⟩) J S) Tryz.call55 ⟨rfl,trivial⟩ ?_;rintro d6 K ⟨g,d7,y,rfl,A,B,b2,b3⟩;have T:=b2.stp' 15 b3;replace A:=A.mono hB.keeps.size;replace B:=B.mono hB.keeps.size;refine⟨_,rfl,?_⟩;replace f:=f.stp T;replace hB:=hB.stp T;refine Zm rfl (Zv (t_ rfl rfl) (Zv (t_ rfl rfl) (Za rfl (Za rfl (Ze [(9,_),(10,_),(11,_),(12,_)] (nx (b_ (Zq (Zm rfl (Zv (bo_ rfl) (Zm rfl ?_)))))))))));obtain⟨U,j,hF⟩:=a_ hF;refine aF_ 3 (λb4 V=>Fr b4 41 [(9,d),(11,g),(38,.bool U)]∧Keeps K V) ?_ ?_;all_goals simp only[List.take_succ_cons,List.take_zero,List.drop_succ_cons,List.drop_zero]
  ·have kp:Keeps K K:=Keeps.refl _;rcases Bool.eq_false_or_eq_true (!F.2) with b|b
   ·rw[if_pos b] at j;refine v_ rfl rfl (by rw[b];rfl) (by decide) ?_;refine v_ rfl rfl (by rw[b];rfl) (by decide) ?_;refine Zv (L_ (Zb b) rfl) ?_;have i:=Zj j;refine Ze [(9,_),(11,_),(38,_)] ?_;subst i;refine s_ (λa ha=>⟨ha,kp⟩)
   ·replace j:=ZF b j;refine q_ (g_ rfl) (by decide) ⟨_,rfl,Zb b⟩ (q_ (bo_ rfl) (by decide) ⟨_,rfl,Zb b⟩ (Zv (G_ (Zb b) rfl) ?_));have i:=Zj j;refine Ze [(9,_),(11,_),(38,_)] ?_;subst i;refine s_ (λa ha=>⟨ha,kp⟩)
  rintro d8 V ⟨ha,b5⟩;have H:=b5.stp 999 y;replace f:=f.stp H;replace A:=A.stp H;replace B:=B.stp H;replace hB:=hB.stp H;refine aS_ ha ?_;refine Ze [(9,_),(11,_),(38,_)] (nx ?_);refine p_ rfl (λL=>?_) (λL=>?_)
  ·rw[if_pos L] at hF;refine Zq (Za rfl (Za rfl (Za rfl (Ze [(2,_),(3,_),(4,_)] (nx (n_ (I_ ?_)))))));have b6:=Zj hF;subst b6;refine Zr vn_ [.slice none 0 0,.slice none 0 0,.bool false] ?_;exact⟨_,_,rt oo y w.heap.size 9 t,rfl,Of.nil _ _ _,Dz.nil _ _ _ _,hB.keeps,ac_ _ _ _ _ _⟩
  ·replace hF:=ZF L hF;refine h_ (Zn (Zm rfl (Zm rfl (Za rfl (Za rfl (Za rfl (Ze [(2,_),(3,_),(4,_)] (nx (n_ ?_)))))))));have W:=Dz.of A B (by decide) (by decide) (by decide);have M:=fh_ 15 y;have N:=fh_ 16 (frz 15 y);replace f:=(f.rc M (by decide)).rc N (by decide);replace hB:=(hB.rc M (by decide)).rc N (by decide);clear M N;generalize frz 16 (frz 15 y)=b7 at*;have d9:=W.rd;have b8:=Zj hF;subst b8;refine Zr vn_ [d,g,.bool true] ?_;exact⟨_,_,rt oo b7 w.heap.size 9 t,rfl,f.rt hB 9 t (by decide),W.rt hB 9 t (by decide),hB.keeps,ac_ _ _ _ _ _⟩
end
section
set_option maxRecDepth 100000
set_option maxHeartbeats 2000000
open Go.RowKit
theorem kh_:Inf tX_ 41 (.slice none 0 0) 1 24:=by unfold Inf;kernel_rfl
theorem go_:(tX_.info? 28).map (·.size)=some 4:=by kernel_rfl
def bs_(fuel:Nat)(j:c_)(a:List Int):Int->(List (List Int))->Option (Lp (List (List Int)) (List (List Int)) ((List (List Int))×Bool)):=λ(b:Int)(s:List (List Int))=>
  (ck (b+1))>>=λf=>
  (cut a b f)>>=λg=>
  (cut a b a.length)>>=λi=>
  (dL_ fuel j g i)>>=λc=>
  if c.2 then
    (push s c.1)>>=λd=>
    some (.out d)
  else
    some (.go s)
def bU_(fuel:Nat)(d:c_):Int->(List Int)->(List (List Int))->Option (Lp (List (List Int)) (List (List Int)) ((List (List Int))×Bool)):=λ(f:Int)(a:List Int)(s:List (List Int))=>
  ck (a.length:Int)>>=λ_=>
  (forN (bs_ fuel d a) ((a.length:Int)).toNat 0 s)>>=λb=>
  match b with
  | .inl c=>
    some (.go c)
  | .inr _=>none
def cT_(fuel:Nat)(b:c_):Option ((List (List Int))×Bool):=
  (cL_ fuel b)>>=λc=>
  if !c then
    some ([],false)
  else
    (forI (bU_ fuel b) b.Nodes 0 [])>>=λd=>
    match d with
    | .inl a=>
      if decide ((a.length:Int)<(b.Nodes.length:Int)) then
        some ([],false)
      else
        some (a,true)
    | .inr _=>none
def jf_(oo:Tg)(t:Nat)(w:World)(r:Yk×Bool):Ending->World->Prop:=λe w'=>∃(a:Value)(c:List Hv)(o':Tg),e=.returned (.tuple #[a,.bool r.2])∧Ow w.heap.size 41 t o' w' a c∧Rws w.heap.size 3 (t+1) o' w' c r.1∧Keeps w w'∧∀b,b<w.heap.size->o' b=oo b
theorem ja_(fuel:Nat)(w:World)(oo:Tg)(t:Nat)(ht:2<=t)(i4:List Value)(d:c_)(l6:Rp.rd zt w i4 d)(r:Yk×Bool)(hF:cT_ fuel d=some r):
    Calls tX_ 57 #[.agg i4.toArray] w (jf_ oo t w r):=by
 unfold cT_ at hF;obtain⟨A,a7,rfl,b8,i5⟩:=l6;have hB:Bs oo (col oo) w w:=Bs.start _ _;refine j_ (n:=52) (vs:=[.agg #[ZI d.Labels,ZI d.Degree,A,a7]]) Tryz.func57 rfl rfl ?_;generalize col oo=o at*;refine Zq (Zo ?_);refine aD_ (o:=o) w.heap.size 11 hB.keeps.size (cs:=[ZI d.Labels,ZI d.Degree,A,a7]) rfl rfl ?_;intro b9 l7 s u l8;replace hB:=hB.stp l8;refine Za rfl (Za rfl (Ze [(1,_)] (nx (b_ (Zq (Zv (H_ rfl ue_ uc_ rfl u.cells) ?_))))));obtain⟨c0,c1,hF⟩:=a_ hF;refine Zo ?_;refine o_ (fu_ fuel l7 _ d (⟨_,_,rfl,b8.keep hB.keeps,i5.keep hB.keeps⟩) c0 c1) Tryz.call43 ⟨rfl,trivial⟩ ?_;rintro l9 c2 ⟨rfl,h2⟩;have c3:=h2.stp 999 b9;refine⟨_,rfl,?_⟩;replace u:=u.stp c3;replace hB:=hB.stp c3;refine Zv (bo_ rfl) (Ze [(1,_),(12,_)] (nx ?_));refine p_ rfl (λb2=>?_) (λb2=>?_)
 ·rw[if_pos b2] at hF;refine Zq (Za rfl (Za rfl (Ze [(2,_),(3,_)] (nx (n_ (I_ ?_))))));have h3:=Zj hF;subst h3;refine Zr vo_ [.slice none 0 0,.bool false] ?_;exact⟨_,[],rt2 oo b9 w.heap.size 9 8 t,rfl,Ow.nil _ _ _ _ _,Rws.nil _ _ _ _ _,hB.keeps,fA_ _ _ _ _ _ _⟩
 ·replace hF:=ZF b2 hF;refine h_ (Zn (Za rfl (Ze [(1,_),(4,_)] (nx (b_ (Zq (Zv (r_ rfl ud_ rfl ui_) (Zv (e_ rfl uj_ (u.cell rfl)) (Zv (J_ rfl b8 ub_) (Zm rfl (Ze [(1,_),(4,_),(14,_),(15,_),(16,_)] (nx ?_))))))))))));have h4:Ow w.heap.size 41 13 b9 c2 (.slice none 0 0) ([]:List Hv):=Ow.nil _ _ _ _ _;have h5:Rws w.heap.size 3 14 b9 c2 [] ([]:Yk):=Rws.nil _ _ _ _ _;obtain⟨c4,c5,hF⟩:=a_ hF;refine A_ (λa F=>∃(J:Yk)(j:Value)(L:List Hv)(x:Tg),c4=.inl J∧Fr a 52 [(1,ZP s),(4,j)]∧Bs oo x w F∧Ow w.heap.size 41 13 x F j L∧Rws w.heap.size 3 14 x F L J∧Bx w.heap.size 11 x F s 28 [ZI d.Labels,ZI d.Degree,A,a7]) (λ_ _=>False) ?_ ?_ ?_
  ·refine f_ ?_;refine z_ (λ(K:Nat) a F=>∃(b:Int)(J:Yk)(j:Value)(L:List Hv)(x:Tg),forI (bU_ fuel d) (d.Nodes.drop b.toNat) b J=some c4∧(d.Nodes.drop b.toNat).length=K∧0<=b∧Fr a 52 [(1,ZP s),(4,j),(14,A),(15,ZI (d.Nodes.length:Int)),(16,ZI b)]∧Bs oo x w F∧Ow w.heap.size 41 13 x F j L∧Rws w.heap.size 3 14 x F L J∧Bx w.heap.size 11 x F s 28 [ZI d.Labels,ZI d.Degree,A,a7]) _ (λa ha=>⟨0,[],.slice none 0 0,[],b9,c5,rfl,Int.le_refl 0,ha.sb,hB,h4,h5,u⟩) ?_;rintro K32 a F ⟨b,J,j,L,x,c6,h6,h7,ha,hB,T,U,u⟩;by_cases a2:b<(d.Nodes.length:Int)
   ·obtain⟨m,m0,c7,N,h8⟩:=R_ h7 a2 c6;have hle:=b8.len_le;dsimp only[bU_] at N;refine O_ ha ?_;refine Zq (Zv (u_ rfl rfl) (Ze [(1,_),(4,_),(14,_),(15,_),(16,_),(17,_)] (nx (b_ ?_))));refine M_ (Zb (decide_eq_true a2)) ?_;refine h_ (nx (b_ (f_ (Zq (Zo ?_)))));refine wf_atZ b8 c7 hB rfl rfl ub_ uf_ ?_;intro m1 m2 m3 h9 i0;obtain⟨B,rfl,b3⟩:=i0;refine Zv (e_ rfl ug_ (i_ h9)) (Za rfl (Ze [(1,_),(4,_),(6,_),(14,_),(15,_),(16,_)] (Zn (Zm rfl (Zv (J_ rfl b3 tY_) (Zm rfl (Ze [(1,_),(4,_),(6,_),(14,_),(15,_),(16,_),(21,_),(22,_)] (nx ?_))))))));obtain⟨m4,i1,N⟩:=a_ N;obtain⟨-,h54a,h54b⟩:=cr_ i1;obtain⟨c8,c9,N⟩:=a_ N;refine A_ (λa G=>∃(H:Yk)(f:Value)(C:List Hv)(D:Tg),c8=.inl H∧Fr a 52 [(1,ZP s),(4,f),(14,A),(15,ZI (d.Nodes.length:Int)),(16,ZI b)]∧Bs oo D w G∧Ow w.heap.size 41 13 D G f C∧Rws w.heap.size 3 14 D G C H∧Bx w.heap.size 11 D G s 28 [ZI d.Labels,ZI d.Degree,A,a7]) (λ_ _=>False) ?_ ?_ ?_
    ·refine f_ ?_;refine z_ (λ(K:Nat) a G=>∃(g:Int)(H:Yk)(f:Value)(C:List Hv)(D:Tg),forN (bs_ fuel d m) ((m.length:Int)-g).toNat g H=some c8∧((m.length:Int)-g).toNat=K∧0<=g∧Fr a 52 [(1,ZP s),(4,f),(6,B),(14,A),(15,ZI (d.Nodes.length:Int)),(16,ZI b),(21,ZI (m.length:Int)),(22,ZI g)]∧Bs oo D w G∧Ow w.heap.size 41 13 D G f C∧Rws w.heap.size 3 14 D G C H∧Bx w.heap.size 11 D G s 28 [ZI d.Labels,ZI d.Degree,A,a7]) _ (λa ha=>⟨0,J,j,L,x,(by rw[Int.sub_zero];exact c9),rfl,Int.le_refl 0,ha.sb,hB,T,U,u⟩) ?_;rintro K59 a G ⟨g,H,f,C,D,d0,i2,m5,ha,hB,q,i,u⟩;by_cases a3:g<(m.length:Int)
     ·obtain⟨m6,y,d1⟩:=bz_ a3 d0;dsimp only[bs_] at y;refine O_ ha ?_;refine Zq (Zv (u_ rfl rfl) (Ze [(1,_),(4,_),(6,_),(14,_),(15,_),(16,_),(21,_),(22,_),(23,_)] (nx (b_ ?_))));refine M_ (Zb (decide_eq_true a3)) ?_;refine h_ (nx (b_ (f_ (Zq (Zm rfl (Za rfl (Ze [(1,_),(4,_),(6,_),(7,_),(14,_),(15,_),(16,_),(21,_),(22,_)] (nx (b_ ?_)))))))));obtain⟨i3,d2,y⟩:=a_ y;obtain⟨b4,d3,y⟩:=a_ y;obtain⟨b5,d4,y⟩:=a_ y;obtain⟨E,d5,y⟩:=a_ y;refine ZW (Bf:=λh0 h1=>Bs oo h0 w h1∧Ow w.heap.size 41 13 h0 h1 f C∧Rws w.heap.size 3 14 h0 h1 C H∧Bx w.heap.size 11 h0 h1 s 28 [ZI d.Labels,ZI d.Degree,A,a7]) [(1,_),(4,_),(6,_),(7,_),(14,_),(15,_),(16,_),(21,_),(22,_)] (Zrg 26 10++[25,36,37,8]) [[],[],[],[],[3],[1,2,4],[],[],[6,7],[0,5,8],[9],[10],[10],[11]] (Zcn 14) (Zt9 14) [0,0,0,0,0,0,0,0,0,15,15,15,0,15] [999] [.inl (.agg #[ZI d.Labels,ZI d.Degree,A,a7]),.inl B,.inl (ZI g),.inl (ZI g),.inl (ZI i3),.inr (λv o a4=>RdL zt w v b4),.inl B,.inl (ZI g),.inr (λv o a4=>RdL zt w v b5),.inr (λv o a4=>∃a5,v=.tuple #[a5,.bool E.2]∧Ow w.heap.size 3 15 o a4 a5 (E.1:Yl)),.inr (λv o a4=>∃a5,v=.tuple #[a5,.bool E.2]∧Ow w.heap.size 3 15 o a4 a5 (E.1:Yl)),.inr (λv o a4=>Ow w.heap.size 3 15 o a4 v (E.1:Yl)),.inl (.bool E.2),.inr (λv o a4=>Ow w.heap.size 3 15 o a4 v (E.1:Yl))] ⟨hB,q,i,u⟩ ⟨λ_ _ _ _ _ _ a6 hb h hs=>h,λ_ _ _ _ _ _ a6 hb h hs=>h,λ_ _ _ _ _ _ a6 hb ⟨a5,e,b6⟩ hs=>⟨a5,e,b6.stp hs a6.1 (Ne.symm hb)⟩,λ_ _ _ _ _ _ a6 hb ⟨a5,e,b6⟩ hs=>⟨a5,e,b6.stp hs a6.1 (Ne.symm hb)⟩,λ_ _ _ _ _ _ a6 hb h hs=>h.stp hs a6.1 (Ne.symm hb),λ_ _ _ _ _ _ a6 hb h hs=>h.stp hs a6.1 (Ne.symm hb),trivial⟩ ?_ ?_
      ·refine⟨Dq λh=>H_ rfl ue_ uc_ rfl h.2.2.2.cells,Dp (g_ rfl),Dp (g_ rfl),Dp (g_ rfl),Dp (C_ rfl rfl d2),?_,Dp (g_ rfl),Dp (g_ rfl),?_,?_,?_,?_,?_,?_,trivial⟩
       ·rintro m7 m8 m9 ha ⟨hB,q,i,u⟩-;refine Zs ha ?_;refine jO_ b3 d3 rfl rfl rfl tY_ tZ_ ?_;intro i6 d6;exact⟨_,Stp.refl _ _ _,d6⟩
       ·rintro i7 i8 i9 ha ⟨hB,q,i,u⟩-;refine Zs ha ?_;refine jO_ b3 d4 rfl rfl rfl tY_ tZ_ ?_;intro j0 d7;exact⟨_,Stp.refl _ _ _,d7⟩
       ·rintro d8 d9 O ha ⟨hB,q,i,u⟩ ⟨P,Q,-⟩;replace P:RdL zt w (O.tmps.getD 31 undef) b4:=P;generalize e0:O.tmps.getD 31 undef=j1 at P;have ha:=ha.c e0;replace Q:RdL zt w (O.tmps.getD 34 undef) b5:=Q;generalize e1:O.tmps.getD 34 undef=j2 at Q;have ha:=ha.c e1;refine Zs ha ?_;refine o_ (kM_ fuel d9 d8 15 (by decide) _ d (⟨_,_,rfl,b8.keep hB.keeps,i5.keep hB.keeps⟩) _ b4 (P.keep hB.keeps) _ b5 (Q.keep hB.keeps) E d5) Tryz.call87 ⟨rfl,rfl,rfl,trivial⟩ ?_;rintro j3 j4 ⟨j5,j6,rfl,V,e2,e3⟩;have e4:=e2.stp' 999 e3;replace V:=V.mono hB.keeps.size;refine⟨_,rfl,?_⟩;exact⟨_,e4,⟨_,rfl,V⟩⟩
       ·rintro j7 j8 j9 ha ⟨hB,q,i,u⟩ ⟨e5,-⟩;obtain⟨k0,e6,e7⟩:=e5;have ha:=ha.c e6;refine Zs ha ?_;refine l_ (g_ rfl) ?_;exact⟨_,Stp.refl _ _ _,⟨_,rfl,e7⟩⟩
       ·rintro k1 k2 k3 ha ⟨hB,q,i,u⟩ ⟨e8,-⟩;obtain⟨k4,e9,f0⟩:=e8;have ha:=ha.c e9;refine Zs ha ?_;refine l_ (t_ rfl rfl) ?_;exact⟨_,Stp.refl _ _ _,f0⟩
       ·rintro k5 k6 k7 ha ⟨hB,q,i,u⟩ ⟨f1,-⟩;obtain⟨k8,f2,k9⟩:=f1;have ha:=ha.c f2;refine Zs ha ?_;refine l_ (t_ rfl rfl) ?_;exact Zx rfl
       ·rintro f3 f4 a8 ha ⟨hB,q,i,u⟩ ⟨R,-⟩;replace R:Ow w.heap.size 3 15 f3 f4 (a8.tmps.getD 36 undef) (E.1:Yl):=R;generalize f5:a8.tmps.getD 36 undef=l0 at R;have ha:=ha.c f5;refine Zs ha ?_;refine l_ (ah_ rfl) ?_;exact⟨_,Stp.refl _ _ _,R⟩
      rintro _ rfl W f6 a9 ha ⟨hB,q,i,u⟩ ⟨-,-,-,-,-,k,-⟩;replace k:Ow w.heap.size 3 15 W f6 (a9.tmps.getD 8 undef) (E.1:Yl):=k;generalize f7:a9.tmps.getD 8 undef=I at k;have ha:=ha.c f7;refine aS_ ha ?_;refine Za rfl (Ze [(1,_),(4,_),(6,_),(8,_),(9,_),(14,_),(15,_),(16,_),(21,_),(22,_)] (Zn (Zm rfl (Ze [(1,_),(4,_),(6,_),(8,_),(14,_),(15,_),(16,_),(21,_),(22,_),(38,_)] (nx ?_)))));refine p_ rfl (λX=>?_) (λX=>?_)
      ·rw[if_pos X] at y;refine Zq (Zm rfl (Zm rfl (Zo ?_)));refine aB_ (o:=W) (cs:=[I]) (xs:=([⟨I⟩]:List Hv)) (vs:=[(0,I)]) ⟨_,_,rfl,jb_ k,rfl⟩ rfl ⟨rfl,rfl,trivial⟩ ub_ uf_ uk_ (by decide) (fill1 k.cells1) (by simp) ?_;intro l1 l2 l3 f8 M l4;replace q:=q.stp M;replace i:=i.stp M;replace k:=k.stp M;replace u:=u.stp M;replace hB:=hB.stp M;obtain⟨f9,b7,y⟩:=a_ y;obtain⟨g0,g1⟩:=i.pushV b7 I;refine Zo ?_;refine bf_ q f8 (ai_ g0) (by decide) hB.keeps.size rfl rfl ub_ kh_ rfl (by decide) ?_;intro b0 l5 Y Z S;replace i:=i.stp S;replace k:=k.stp S;replace u:=u.stp S;replace hB:=hB.stp S;have b1:=i.push k (by decide) (by decide);rw[<-g1] at b1;clear i k;have a0:=fe_ 15 14 b0;replace Z:=Z.rc a0 (by decide) (by decide);replace u:=u.rc a0 (by decide);replace hB:=hB.rc a0 (by decide);generalize mrg 15 14 b0=g2 at*;refine Za rfl (Ze [(1,_),(4,_),(14,_),(15,_),(16,_)] (nx ?_));refine w_ ?_;refine sW_ (by decide) ?_;refine m_ (m_ (Q_ ?_));refine s_ ?_;have g3:=Zj y;subst g3;refine Zk [(1,_),(4,_),(14,_),(15,_),(16,_)] ?_;intro a ha;exact⟨f9,Y,C++[⟨I⟩],g2,d1,ha,hB,Z,b1,u⟩
      ·replace y:=ZF X y;refine h_ (y_ (nx (d_ (Zv (C_ rfl rfl (F_ (by omega) (by omega))) (Zm rfl (Ze [(1,_),(4,_),(6,_),(14,_),(15,_),(16,_),(21,_),(22,_)] (x_ ?_)))))));have g4:=Zj y;subst g4;refine Zk [(1,_),(4,_),(6,_),(14,_),(15,_),(16,_),(21,_),(22,_)] ?_;intro a ha;exact⟨_,(by rw[<-i2];omega),g+1,H,f,C,W,d1,rfl,by omega,ha,hB,q,i,u⟩
     ·have g5:=bx_ a3 d0;refine O_ ha ?_;refine Zq (Zv (u_ rfl rfl) (Ze [(1,_),(4,_),(6,_),(14,_),(15,_),(16,_),(21,_),(22,_),(23,_)] (nx (b_ ?_))));refine D_ (Zb (decide_eq_false a3)) ?_;refine w_ ?_;refine m_ (m_ (Q_ ?_));refine s_ ?_;refine Zk [(1,_),(4,_),(14,_),(15,_),(16,_)] ?_;intro a ha;exact⟨H,f,C,D,g5,ha,hB,q,i,u⟩
    ·rintro a G ⟨H,f,C,D,rfl,ha,hB,q,i,u⟩;dsimp only at N;refine ap_k ha ?_;refine y_ (nx (d_ (Zv (C_ rfl rfl (F_ (by omega) (by omega))) (Zm rfl (Ze [(1,_),(4,_),(14,_),(15,_),(16,_)] (x_ ?_))))));have g6:=Zj N;subst g6;refine Zk [(1,_),(4,_),(14,_),(15,_),(16,_)] ?_;intro a ha;exact⟨_,(by rw[<-h6];simp only[List.length_drop];omega),b+1,H,f,C,D,h8,rfl,by omega,ha,hB,q,i,u⟩
    ·exact λ_ _ h=>h.elim
   ·have g7:=S_ a2 c6;refine O_ ha ?_;refine Zq (Zv (u_ rfl rfl) (Ze [(1,_),(4,_),(14,_),(15,_),(16,_),(17,_)] (nx (b_ ?_))));refine D_ (Zb (decide_eq_false a2)) ?_;refine w_ ?_;refine m_ (m_ (Q_ ?_));refine s_ ?_;refine Zk [(1,_),(4,_)] ?_;intro a ha;exact⟨J,j,L,x,g7,ha,hB,T,U,u⟩
  ·rintro a F ⟨J,j,L,x,rfl,ha,hB,T,U,u⟩;dsimp only at hF;refine ap_k ha ?_;refine nx (b_ (Zq (Zm rfl (Zv (J_ rfl (U.z T) ub_) (Zv (r_ rfl ud_ rfl ui_) (Zv (e_ rfl uj_ (u.cell rfl)) (Zv (J_ rfl b8 ub_) (Zv (u_ rfl rfl) (Ze [(4,_),(50,_)] (nx ?_))))))))));refine p_ rfl (λa1=>?_) (λa1=>?_)
   ·rw[if_pos a1] at hF;refine Zq (Za rfl (Za rfl (Ze [(2,_),(3,_)] (nx (n_ (I_ ?_))))));have g8:=Zj hF;subst g8;refine Zr vo_ [.slice none 0 0,.bool false] ?_;exact⟨_,[],rt2 oo x w.heap.size 9 8 t,rfl,Ow.nil _ _ _ _ _,Rws.nil _ _ _ _ _,hB.keeps,fA_ _ _ _ _ _ _⟩
   ·replace hF:=ZF a1 hF;refine h_ (Zn (Zm rfl (Za rfl (Za rfl (Ze [(2,_),(3,_)] (nx (n_ ?_)))))));have g9:=Zj hF;subst g9;refine Zr vo_ [j,.bool true] ?_;exact⟨_,L,rt2 oo x w.heap.size 13 14 t,rfl,T.rt2 hB (by decide) (by decide) t,U.rt2 hB (by decide) (by decide) (by decide) t,hB.keeps,fA_ _ _ _ _ _ _⟩
  ·exact λ_ _ h=>h.elim
def fw_(fuel:Nat)(d:c_):Option ((List Int)×(List (List Int))×Bool):=
  (du_ fuel d)>>=λa=>
  if !a.2.2.2 then
    some ([],[],false)
  else
    (cd_ fuel a.1 d)>>=λb=>
    (cT_ fuel d)>>=λc=>
    (
      if !b.2 then
        some true
      else
        some (!c.2))>>=λf=>
    if f then
      some ([],[],false)
    else
      some (b.1,c.1,true)
def ne_(oo:Tg)(t:Nat)(w:World)(r:Yl×Yk×Bool):Ending->World->Prop:=λe w'=>∃(a:Value)(c:Value)(o':Tg),e=.returned (.tuple #[a,c,.bool r.2.2])∧Ow w.heap.size 3 t o' w' a r.1∧Dz 41 3 o' w' c r.2.1∧Keeps w w'∧∀b,b<w.heap.size->o' b=oo b
theorem mg_(fuel:Nat)(w:World)(oo:Tg)(t:Nat)(ht:2<=t)(c3:List Value)(y:c_)(c6:Rp.rd zt w c3 y)(r:Yl×Yk×Bool)(hF:fw_ fuel y=some r):
    Calls tX_ 23 #[.agg c3.toArray] w (ne_ oo t w r):=by
 unfold fw_ at hF;obtain⟨c4,c5,rfl,a0,a1⟩:=c6;have hB:Bs oo (col oo) w w:=Bs.start _ _;refine j_ (n:=41) (vs:=[.agg #[ZI y.Labels,ZI y.Degree,c4,c5]]) Tryz.func23 rfl rfl ?_;generalize col oo=o at*;refine Zq (Zo ?_);refine aD_ (o:=o) w.heap.size 11 hB.keeps.size (cs:=[ZI y.Labels,ZI y.Degree,c4,c5]) rfl rfl ?_;intro c7 c8 Z s c9;replace hB:=hB.stp c9;refine Za rfl (Za rfl (Za rfl (Ze [(1,_)] (Zn (Zv (H_ rfl ue_ uc_ rfl s.cells) ?_)))));obtain⟨k,L,hF⟩:=a_ hF;refine Zo ?_;refine o_ (iI_ fuel c8 c7 12 (by decide) _ y (⟨_,_,rfl,a0.keep hB.keeps,a1.keep hB.keeps⟩) k L) Tryz.call52 ⟨rfl,trivial⟩ ?_;rintro d0 M ⟨d1,d2,d3,E,rfl,a2,N,O,d4,a3,a4,a5⟩;have P:=a4.stp' 12 a5;have d5:=a3.rd;refine⟨_,rfl,?_⟩;obtain⟨a6,a7,rfl,m,q⟩:=a2;replace N:Dz 41 3 E M a6 k.1.Nodes:=N;replace O:Dz 41 3 E M a7 k.1.Edges:=O;replace s:=s.stp P;replace hB:=hB.stp P;refine Zm rfl (Zv (t_ rfl rfl) (Zv (t_ rfl rfl) (Zv (t_ rfl rfl) (Zv (t_ rfl rfl) (Zo ?_)))));refine aY_ (o:=E) w.heap.size 13 hB.keeps.size (cs:=[ZI 0,ZI 0,.slice none 0 0,.slice none 0 0]) um_ rfl ?_;intro Q d6 R a8 A;replace m:=m.stp A;replace q:=q.stp A;replace s:=s.stp A;replace hB:=hB.stp A;refine am_ trivial ?_;refine ae_ a8 rfl rfl rfl go_ (by intro c hc;simp only[List.mem_cons,List.not_mem_nil,or_false] at hc;rcases hc with rfl|rfl|rfl|rfl<;>first|rfl|exact m.one1|exact q.one1) ?_;intro a9 b0 B;replace m:=m.stp B;replace q:=q.stp B;replace s:=s.stp B;replace hB:=hB.stp B;refine Za rfl (Za rfl (Za rfl (Ze [(1,_),(5,_),(8,_)] (nx (b_ (Zq (Zm rfl (Zv (bo_ rfl) (Ze [(1,_),(5,_),(21,_)] (nx ?_))))))))));refine p_ rfl (λF=>?_) (λF=>?_)
 ·rw[if_pos F] at hF;refine Zq (Za rfl (Za rfl (Za rfl (Ze [(2,_),(3,_),(4,_)] (nx (n_ (I_ ?_)))))));have b1:=Zj hF;subst b1;refine Zr vp_ [.slice none 0 0,.slice none 0 0,.bool false] ?_;exact⟨_,_,rt oo Q w.heap.size 9 t,rfl,Ow.nil _ _ _ _ _,Dz.nil _ _ _ _,hB.keeps,ac_ _ _ _ _ _⟩
 ·replace hF:=ZF F hF;refine h_ (Zn (Zv (H_ rfl ue_ uc_ rfl b0.cells) (Zv (H_ rfl ue_ uc_ rfl s.cells) ?_)));obtain⟨C,S,hF⟩:=a_ hF;refine Zo ?_;refine o_ (hY_ fuel a9 Q 14 (by decide) _ k.1 (⟨_,_,rfl,m.z,q.z⟩) _ y (⟨_,_,rfl,a0.keep hB.keeps,a1.keep hB.keeps⟩) C S) Tryz.call56 ⟨rfl,rfl,trivial⟩ ?_;rintro d7 b2 ⟨f,b3,rfl,b,b4,b5⟩;have T:=b4.stp' 14 b5;replace b:=b.mono hB.keeps.size;refine⟨_,rfl,?_⟩;replace s:=s.stp T;replace hB:=hB.stp T;refine Zm rfl (Zv (t_ rfl rfl) (Zv (t_ rfl rfl) (Za rfl (Za rfl (Ze [(1,_),(9,_),(10,_)] (Zn (Zv (H_ rfl ue_ uc_ rfl s.cells) ?_)))))));obtain⟨G,U,hF⟩:=a_ hF;refine Zo ?_;refine o_ (ja_ fuel b2 b3 15 (by decide) _ y (⟨_,_,rfl,a0.keep hB.keeps,a1.keep hB.keeps⟩) G U) Tryz.call57 ⟨rfl,trivial⟩ ?_;rintro d8 H ⟨g,d9,u,rfl,v,x,b6,b7⟩;have V:=b6.stp' 15 b7;replace v:=v.mono hB.keeps.size;replace x:=x.mono hB.keeps.size;refine⟨_,rfl,?_⟩;replace b:=b.stp V;replace hB:=hB.stp V;refine Zm rfl (Zv (t_ rfl rfl) (Zv (t_ rfl rfl) (Za rfl (Za rfl (Ze [(9,_),(10,_),(11,_),(12,_)] (nx (b_ (Zq (Zm rfl (Zv (bo_ rfl) (Zm rfl ?_)))))))))));obtain⟨W,j,hF⟩:=a_ hF;refine aF_ 3 (λb8 X=>Fr b8 41 [(9,f),(11,g),(38,.bool W)]∧Keeps H X) ?_ ?_;all_goals simp only[List.take_succ_cons,List.take_zero,List.drop_succ_cons,List.drop_zero]
  ·have kp:Keeps H H:=Keeps.refl _;rcases Bool.eq_false_or_eq_true (!C.2) with d|d
   ·rw[if_pos d] at j;refine v_ rfl rfl (by rw[d];rfl) (by decide) ?_;refine v_ rfl rfl (by rw[d];rfl) (by decide) ?_;refine Zv (L_ (Zb d) rfl) ?_;have i:=Zj j;refine Ze [(9,_),(11,_),(38,_)] ?_;subst i;refine s_ (λa ha=>⟨ha,kp⟩)
   ·replace j:=ZF d j;refine q_ (g_ rfl) (by decide) ⟨_,rfl,Zb d⟩ (q_ (bo_ rfl) (by decide) ⟨_,rfl,Zb d⟩ (Zv (G_ (Zb d) rfl) ?_));have i:=Zj j;refine Ze [(9,_),(11,_),(38,_)] ?_;subst i;refine s_ (λa ha=>⟨ha,kp⟩)
  rintro e0 X ⟨ha,b9⟩;have D:=b9.stp 999 u;replace b:=b.stp D;replace v:=v.stp D;replace x:=x.stp D;replace hB:=hB.stp D;refine aS_ ha ?_;refine Ze [(9,_),(11,_),(38,_)] (nx ?_);refine p_ rfl (λI=>?_) (λI=>?_)
  ·rw[if_pos I] at hF;refine Zq (Za rfl (Za rfl (Za rfl (Ze [(2,_),(3,_),(4,_)] (nx (n_ (I_ ?_)))))));have c0:=Zj hF;subst c0;refine Zr vp_ [.slice none 0 0,.slice none 0 0,.bool false] ?_;exact⟨_,_,rt oo u w.heap.size 9 t,rfl,Ow.nil _ _ _ _ _,Dz.nil _ _ _ _,hB.keeps,ac_ _ _ _ _ _⟩
  ·replace hF:=ZF I hF;refine h_ (Zn (Zm rfl (Zm rfl (Za rfl (Za rfl (Za rfl (Ze [(2,_),(3,_),(4,_)] (nx (n_ ?_)))))))));have Y:=Dz.of v x (by decide) (by decide) (by decide);have J:=fh_ 15 u;have K:=fh_ 16 (frz 15 u);replace b:=(b.rc J (by decide) (by decide)).rc K (by decide) (by decide);replace hB:=(hB.rc J (by decide)).rc K (by decide);clear J K;generalize frz 16 (frz 15 u)=c1 at*;have e1:=Y.rd;have c2:=Zj hF;subst c2;refine Zr vp_ [f,g,.bool true] ?_;exact⟨_,_,rt oo c1 w.heap.size 14 t,rfl,b.rt hB (by decide) t,Y.rt hB 14 t (by decide),hB.keeps,ac_ _ _ _ _ _⟩
end
end Go.Proofs.YtdbbeldgdgonfaaGreat
