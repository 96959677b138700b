/- Part 5 of what this claim rests on (pack.py). -/
import Derived.Test.YtdbbeldgdgonfaaGreatP04
namespace Go.Proofs.YtdbbeldgdgonfaaGreat
open Tryz renaming prog→wQ_, results164→yG_, underlying41→wR_, sizeOf3→wS_, isAgg3→wT_, results114→yH_, results106→yI_, results157→yJ_, zeroValue3→xd_, results154→xZ_, results115→ya_, results107→yK_, call171→xw_, results138→xk_, results172→yO_, results95→xp_, results93→yS_
set_option linter.unusedSimpArgs false
set_option linter.unusedVariables false
section
set_option maxRecDepth 100000
set_option maxHeartbeats 2000000
open Go.RowKit
theorem dN_:Inf wQ_ 3 (.int .i64 0) 1 8:=by unfold Inf;kernel_rfl
def hl_(a:Int)(b:Int)(c:Int):Option Bool:=
  (
    if decide (a>=b) then
      some (decide (a<=c))
    else
      some false)>>=λd=>
  some d
def vY_(w:World)(r:Bool):Ending->World->Prop:=λe w'=>e=.returned (.bool r)∧Keeps w w'
theorem lC_(w:World)(f:Int)(g:Int)(i:Int)(r:Bool)(hF:hl_ f g i=some r):
    Calls wQ_ 40 #[.int .i64 f,.int .i64 g,.int .i64 i] w (vY_ w r):=by
 unfold hl_ at hF;have hB:Bs (λ_=>1) (col (λ_=>1)) w w:=Bs.start _ _;refine i_ (n:=15) (vs:=[ZI f,ZI g,ZI i]) Tryz.func40 rfl rfl ?_;refine Zq (Za rfl (Ze [(0,_),(1,_),(2,_)] (Zn (Zm rfl (Zm rfl (Zv (lF_ rfl rfl) (Zm rfl ?_)))))));obtain⟨j,d,hF⟩:=a_ hF;refine bc_ 4 (λm k=>Fr m 15 [(14,.bool j)]∧Keeps w k) ?_ ?_;all_goals simp only[List.take_succ_cons,List.take_zero,List.drop_succ_cons,List.drop_zero]
 ·have kp:Keeps w w:=Keeps.refl _;rcases Bool.eq_false_or_eq_true (decide (f>=g)) with b|b
  ·rw[if_pos b] at d;refine q_ (h_ rfl) (by decide) ⟨_,rfl,Zb b⟩ (q_ (h_ rfl) (by decide) ⟨_,rfl,Zb b⟩ (q_ (tG_ rfl rfl) (by decide) ⟨_,rfl,Zb b⟩ (Zv (P_ (Zb b) rfl) ?_)));have c:=Zj d;refine Ze [(14,_)] ?_;subst c;refine p_ (λa ha=>⟨ha,kp⟩)
  ·replace d:=ZF b d;refine A_ rfl rfl (by rw[b];rfl) (by decide) ?_;refine A_ rfl rfl (by rw[b];rfl) (by decide) ?_;refine A_ rfl rfl (by rw[b];rfl) (by decide) ?_;refine Zv (I_ (Zb b) rfl) ?_;have c:=Zj d;refine Ze [(14,_)] ?_;subst c;refine p_ (λa ha=>⟨ha,kp⟩)
 rintro v k ⟨ha,q⟩;have s:=q.stp 999 (col (λ_=>1));replace hB:=hB.stp s;refine aH_ ha ?_;refine Za rfl (Ze [(6,_)] (nx (j_ ?_)));have u:=Zj hF;subst u;refine Zr Tryz.results40 [.bool j] ?_;exact⟨rfl,hB.keeps⟩
def ik_(a:Int)(b:Int):Option Int:=
  if decide (a<b) then
    some a
  else
    some b
def sb_(w:World)(r:Int):Ending->World->Prop:=λe w'=>e=.returned (.int .i64 r)∧Keeps w w'
theorem sh_(w:World)(a:Int)(b:Int)(r:Int)(hF:ik_ a b=some r):
    Calls wQ_ 164 #[.int .i64 a,.int .i64 b] w (sb_ w r):=by
 unfold ik_ at hF;have hB:Bs (λ_=>1) (col (λ_=>1)) w w:=Bs.start _ _;refine i_ (n:=10) (vs:=[ZI a,ZI b]) Tryz.func164 rfl rfl ?_;refine Zq (Za rfl (Ze [(0,_),(1,_)] (nx (c_ (Zq (Zm rfl (Zm rfl (Zv (r_ rfl rfl) (Ze [(0,_),(1,_),(7,_)] (nx ?_))))))))));refine l_ rfl (λc=>?_) (λc=>?_)
 ·rw[if_pos c] at hF;refine Zq (Zm rfl (Za rfl (Ze [(4,_)] (nx (j_ (y_ ?_))))));have d:=Zj hF;subst d;refine Zr yG_ [ZI a] ?_;exact⟨rfl,hB.keeps⟩
 ·replace hF:=ZF c hF;refine g_ (Zn (Zm rfl (Za rfl (Ze [(4,_)] (nx (j_ ?_))))));have f:=Zj hF;subst f;refine Zr yG_ [ZI b] ?_;exact⟨rfl,hB.keeps⟩
def hd_(b:Int):Int->Int->Unit->Option (Lp Unit Unit Bool):=λ(c:Int)(a:Int)(s:Unit)=>
  if a==b then
    some (.ret true)
  else
    some (.go ())
def jy_(a:List Int)(b:Int):Option Bool:=
  (forI (hd_ b) a 0 ())>>=λc=>
  match c with
  | .inl _=>
    some false
  | .inr r'=>some r'
def qQ_(w:World)(r:Bool):Ending->World->Prop:=λe w'=>e=.returned (.bool r)∧Keeps w w'
theorem uL_(w:World)(f:Value)(b:Yl)(v:RdL zt w f b)(d:Int)(r:Bool)(hF:jy_ b d=some r):
    Calls wQ_ 114 #[f,.int .i64 d] w (qQ_ w r):=by
 unfold jy_ at hF;have hB:Bs (λ_=>1) (col (λ_=>1)) w w:=Bs.start _ _;refine i_ (n:=17) (vs:=[f,ZI d]) Tryz.func114 rfl rfl ?_;refine Zq (Za rfl (Ze [(0,_),(1,_)] (nx (c_ (Zq (Zm rfl (Zv (B_ rfl v wR_) (Zm rfl (Ze [(1,_),(7,_),(8,_),(9,_)] (nx ?_))))))))));obtain⟨x,y,hF⟩:=a_ hF;refine v_ (λa m=>∃(j:Tg),x=.inl ()∧Fr a 17 []∧Bs (λ_=>1) j w m) (λa w'=>∃r',x=.inr r'∧bodyPost wQ_ Tryz.f114 (qQ_ w r') .ret a w') ?_ ?_ ?_
 ·refine f_ ?_;refine w_ (λ(K:Nat) a m=>∃(c:Int),∃(j:Tg),forI (hd_ d) (b.drop c.toNat) c ()=some x∧(b.drop c.toNat).length=K∧0<=c∧Fr a 17 [(1,ZI d),(7,f),(8,ZI (b.length:Int)),(9,ZI c)]∧Bs (λ_=>1) j w m) _ (λa ha=>⟨0,col (λ_=>1),y,rfl,Int.le_refl 0,ha.sb,hB⟩) ?_;rintro K8 a m ⟨c,j,H,I,J,ha,hB⟩;by_cases i:c<(b.length:Int)
  ·obtain⟨q,O,s,g,u⟩:=R_ J i H;have hle:=v.len_le;dsimp only[hd_] at g;refine J_ ha ?_;refine Zq (Zv (r_ rfl rfl) (Ze [(1,_),(7,_),(8,_),(9,_),(10,_)] (nx (c_ ?_))));refine L_ (Zb (decide_eq_true i)) ?_;refine g_ (nx (c_ (f_ (Zq (Zo ?_)))));refine wf_atZ v s hB rfl rfl wR_ wS_ ?_;intro L M N z A;cases A
   refine Zv (e_ rfl wT_ (k_ z)) (Za rfl (Ze [(1,_),(6,_),(7,_),(8,_),(9,_)] (Zn (Zm rfl (Zm rfl (Zv (cD_ rfl rfl) (Ze [(1,_),(7,_),(8,_),(9,_),(15,_)] (nx ?_))))))));refine l_ rfl (λk=>?_) (λk=>?_)
   ·rw[if_pos k] at g;refine Zq (Za rfl (Ze [(4,_)] (nx (j_ (W_ (y_ (y_ (W_ ?_))))))));refine bg_ ?_;have B:=Zj g;subst B;refine λa ha=>⟨_,u,?_⟩;refine D_ (P:=wQ_) (vs:=[.bool true]) yH_ ⟨rfl,trivial⟩ ?_ a ha;exact⟨rfl,hB.keeps⟩
   ·replace g:=ZF k g;refine g_ (x_ (nx (d_ (Zv (C_ rfl rfl (F_ (by omega) (by omega))) (Zm rfl (Ze [(1,_),(7,_),(8,_),(9,_)] (u_ ?_)))))));have C:=Zj g;subst C;refine Zk [(1,_),(7,_),(8,_),(9,_)] ?_;intro a ha;exact⟨_,(by rw[<-I];simp only[List.length_drop];omega),c+1,j,u,rfl,by omega,ha,hB⟩
  ·have D:=S_ i H;refine J_ ha ?_;refine Zq (Zv (r_ rfl rfl) (Ze [(1,_),(7,_),(8,_),(9,_),(10,_)] (nx (c_ ?_))));refine G_ (Zb (decide_eq_false i)) ?_;refine s_ ?_;refine n_ (n_ (N_ ?_));refine p_ ?_;refine Zk [] ?_;intro a ha;exact⟨j,D,ha,hB⟩
 ·rintro a m ⟨j,rfl,ha,hB⟩;dsimp only at hF;refine ap_k ha ?_;refine Zn (Za rfl (Ze [(4,_)] (nx (j_ ?_))));have E:=Zj hF;subst E;refine Zr yH_ [.bool false] ?_;exact⟨rfl,hB.keeps⟩
 ·rintro a m ⟨r',rfl,F⟩;dsimp only at hF;have G:=Zj hF;subst G;exact F
def hr_(c:Int)(d:Int):Int->Int->Unit->Option (Lp Unit Unit Bool):=λ(f:Int)(a:Int)(s:Unit)=>
  (hl_ a c d)>>=λb=>
  if !b then
    some (.ret false)
  else
    some (.go ())
def iS_(a:List Int)(b:Int)(c:Int):Option Bool:=
  (forI (hr_ b c) a 0 ())>>=λd=>
  match d with
  | .inl _=>
    some true
  | .inr r'=>some r'
def rg_(w:World)(r:Bool):Ending->World->Prop:=λe w'=>e=.returned (.bool r)∧Keeps w w'
theorem uW_(w:World)(i:Value)(b:Yl)(z:RdL zt w i b)(d:Int)(f:Int)(r:Bool)(hF:iS_ b d f=some r):
    Calls wQ_ 106 #[i,.int .i64 d,.int .i64 f] w (rg_ w r):=by
 unfold iS_ at hF;have hB:Bs (λ_=>1) (col (λ_=>1)) w w:=Bs.start _ _;refine i_ (n:=21) (vs:=[i,ZI d,ZI f]) Tryz.func106 rfl rfl ?_;refine Zq (Za rfl (Ze [(0,_),(1,_),(2,_)] (nx (c_ (Zq (Zm rfl (Zv (B_ rfl z wR_) (Zm rfl (Ze [(1,_),(2,_),(9,_),(10,_),(11,_)] (nx ?_))))))))));obtain⟨A,B,hF⟩:=a_ hF;refine v_ (λa m=>∃(k:Tg),A=.inl ()∧Fr a 21 []∧Bs (λ_=>1) k w m) (λa w'=>∃r',A=.inr r'∧bodyPost wQ_ Tryz.f106 (rg_ w r') .ret a w') ?_ ?_ ?_
 ·refine f_ ?_;refine w_ (λ(K:Nat) a m=>∃(c:Int),∃(k:Tg),forI (hr_ d f) (b.drop c.toNat) c ()=some A∧(b.drop c.toNat).length=K∧0<=c∧Fr a 21 [(1,ZI d),(2,ZI f),(9,i),(10,ZI (b.length:Int)),(11,ZI c)]∧Bs (λ_=>1) k w m) _ (λa ha=>⟨0,col (λ_=>1),B,rfl,Int.le_refl 0,ha.sb,hB⟩) ?_;rintro K8 a m ⟨c,k,N,O,Q,ha,hB⟩;by_cases j:c<(b.length:Int)
  ·obtain⟨s,W,u,g,v⟩:=R_ Q j N;have hle:=z.len_le;dsimp only[hr_] at g;refine J_ ha ?_;refine Zq (Zv (r_ rfl rfl) (Ze [(1,_),(2,_),(9,_),(10,_),(11,_),(12,_)] (nx (c_ ?_))));refine L_ (Zb (decide_eq_true j)) ?_;refine g_ (nx (c_ (f_ (Zq (Zo ?_)))));refine wf_atZ z u hB rfl rfl wR_ wS_ ?_;intro R S T C D;cases D
   refine Zv (e_ rfl wT_ (k_ C)) (Za rfl (Ze [(1,_),(2,_),(8,_),(9,_),(10,_),(11,_)] (Zn (Zm rfl (Zm rfl (Zm rfl ?_))))));obtain⟨x,y,g⟩:=a_ g;refine Zo ?_;refine o_ (lC_ m s d f x y) Tryz.call40 ⟨rfl,rfl,rfl,trivial⟩ ?_;rintro U V ⟨rfl,E⟩;have F:=E.stp 999 k;refine⟨_,rfl,?_⟩;replace hB:=hB.stp F;refine Zv (aI_ rfl) (Ze [(1,_),(2,_),(9,_),(10,_),(11,_),(19,_)] (nx ?_));refine l_ rfl (λq=>?_) (λq=>?_)
   ·rw[if_pos q] at g;refine Zq (Za rfl (Ze [(6,_)] (nx (j_ (W_ (y_ (y_ (W_ ?_))))))));refine bg_ ?_;have G:=Zj g;subst G;refine λa ha=>⟨_,v,?_⟩;refine D_ (P:=wQ_) (vs:=[.bool false]) yI_ ⟨rfl,trivial⟩ ?_ a ha;exact⟨rfl,hB.keeps⟩
   ·replace g:=ZF q g;refine g_ (x_ (nx (d_ (Zv (C_ rfl rfl (F_ (by omega) (by omega))) (Zm rfl (Ze [(1,_),(2,_),(9,_),(10,_),(11,_)] (u_ ?_)))))));have H:=Zj g;subst H;refine Zk [(1,_),(2,_),(9,_),(10,_),(11,_)] ?_;intro a ha;exact⟨_,(by rw[<-O];simp only[List.length_drop];omega),c+1,k,v,rfl,by omega,ha,hB⟩
  ·have I:=S_ j N;refine J_ ha ?_;refine Zq (Zv (r_ rfl rfl) (Ze [(1,_),(2,_),(9,_),(10,_),(11,_),(12,_)] (nx (c_ ?_))));refine G_ (Zb (decide_eq_false j)) ?_;refine s_ ?_;refine n_ (n_ (N_ ?_));refine p_ ?_;refine Zk [] ?_;intro a ha;exact⟨k,I,ha,hB⟩
 ·rintro a m ⟨k,rfl,ha,hB⟩;dsimp only at hF;refine ap_k ha ?_;refine Zn (Za rfl (Ze [(6,_)] (nx (j_ ?_))));have J:=Zj hF;subst J;refine Zr yI_ [.bool true] ?_;exact⟨rfl,hB.keeps⟩
 ·rintro a m ⟨r',rfl,L⟩;dsimp only at hF;have M:=Zj hF;subst M;exact L
def dz_(d:List Int)(f:Int):Int->Option (Lp Int Int (List Int)):=λ(s:Int)=>
  (
    if decide (s<(d.length:Int)) then
      (ix d s)>>=λa=>
      some (decide (a<f))
    else
      some false)>>=λb=>
  if b then
    (ck (s+1))>>=λc=>
    some (.go c)
  else
    some (.out s)
def il_(fuel:Nat)(a:List Int)(c:Int):Option (List Int):=
  (loopF (dz_ a c) fuel 0)>>=λn=>
  match n with
  | .inl b=>
    (
      if decide (b<(a.length:Int)) then
        (ix a b)>>=λd=>
        some (d==c)
      else
        some false)>>=λf=>
    if f then
      some a
    else
      (cut a 0 b)>>=λg=>
      (cat ([]:List Int) g)>>=λi=>
      (push i c)>>=λj=>
      (cut a b a.length)>>=λk=>
      (cat j k)>>=λm=>
      some m
  | .inr _=>none
def vb_(oo:Tg)(t:Nat)(w:World)(r:Yl):Ending->World->Prop:=λe w'=>∃(a:Value)(o':Tg),e=.returned (a)∧Of 3 o' w' a r∧Keeps w w'∧∀b,b<w.heap.size->o' b=oo b
theorem vr_(fuel:Nat)(w:World)(oo:Tg)(t:Nat)(ht:2<=t)(d:Value)(x:Yl)(g:Of 3 oo w d x)(f:Int)(r:Yl)(hF:il_ fuel x f=some r):
    Calls wQ_ 157 #[d,.int .i64 f] w (vb_ oo t w r):=by
 unfold il_ at hF;replace g:=g.col;have g0r:=g.rd;have hB:Bs oo (col oo) w w:=Bs.start _ _;refine i_ (n:=48) (vs:=[d,ZI f]) Tryz.func157 rfl rfl ?_;generalize col oo=o at*;refine Zq (Za rfl (Ze [(0,_),(1,_)] (Zn (Za rfl (Ze [(0,_),(1,_),(5,_)] (nx ?_))))));obtain⟨c5,R,hF⟩:=a_ hF;refine kA_ (λa q=>∃(i:Int),∃(s:Tg),c5=.inl i∧Fr a 48 [(0,d),(1,ZI f),(5,ZI i)]∧Bs oo s w q∧RdL s q d x∧Of 3 s q d x) (λ_ _=>False) ?_ ?_ ?_
 ·refine f_ ?_;refine w_ (λ(K:Nat) a q=>∃(i:Int),∃(s:Tg),loopF (dz_ x f) K i=some c5∧Fr a 48 [(0,d),(1,ZI f),(5,ZI i)]∧Bs oo s w q∧RdL s q d x∧Of 3 s q d x) fuel (λa ha=>⟨0,o,R,ha.sb,hB,g0r,g⟩) ?_;rintro K8 a q ⟨i,s,c6,ha,hB,g0r,g⟩;obtain⟨K12,f4,c7,m,C⟩:=X_ c6;dsimp only[dz_] at m;refine J_ ha ?_;refine c_ (Zq (Zm rfl (Zm rfl (Zv (B_ rfl g0r wR_) (Zv (r_ rfl rfl) (Zm rfl ?_))))));obtain⟨D,j,m⟩:=a_ m;refine bc_ 7 (λS E=>Fr S 48 [(0,d),(1,ZI f),(5,ZI i),(18,.bool D)]∧Keeps q E) ?_ ?_;all_goals simp only[List.take_succ_cons,List.take_zero,List.drop_succ_cons,List.drop_zero]
  ·have kp:Keeps q q:=Keeps.refl _;rcases Bool.eq_false_or_eq_true (decide (i<(x.length:Int))) with b|b
   ·rw[if_pos b] at j;refine q_ (h_ rfl) (by decide) ⟨_,rfl,Zb b⟩ (q_ (h_ rfl) (by decide) ⟨_,rfl,Zb b⟩ ?_);obtain⟨T,F,j⟩:=a_ j;refine cJ_ (by decide) ⟨_,rfl,Zb b⟩ ?_;refine fo_ g0r F rfl rfl wR_ wS_ ?_;intro c8 c9 d0 U V;cases V
    refine q_ (e_ rfl wT_ (k_ U)) (by decide) ⟨_,rfl,Zb b⟩ (q_ (h_ rfl) (by decide) ⟨_,rfl,Zb b⟩ (q_ (r_ rfl rfl) (by decide) ⟨_,rfl,Zb b⟩ (Zv (P_ (Zb b) rfl) ?_)));have u:=Zj j;refine Ze [(0,_),(1,_),(5,_),(18,_)] ?_;subst u;refine p_ (λa ha=>⟨ha,kp⟩)
   ·replace j:=ZF b j;refine A_ rfl rfl (by rw[b];rfl) (by decide) ?_;refine A_ rfl rfl (by rw[b];rfl) (by decide) ?_;refine A_ rfl rfl (by rw[b];rfl) (by decide) ?_;refine A_ rfl rfl (by rw[b];rfl) (by decide) ?_;refine A_ rfl rfl (by rw[b];rfl) (by decide) ?_;refine A_ rfl rfl (by rw[b];rfl) (by decide) ?_;refine Zv (I_ (Zb b) rfl) ?_;have u:=Zj j;refine Ze [(0,_),(1,_),(5,_),(18,_)] ?_;subst u;refine p_ (λa ha=>⟨ha,kp⟩)
  rintro d1 E ⟨ha,W⟩;have X:=W.stp 999 s;obtain⟨g0r,g,hB⟩:=ZS X (A3 g0r g hB);refine aH_ ha ?_;refine Ze [(0,_),(1,_),(5,_),(18,_)] (nx ?_);refine l_ rfl (λy=>?_) (λy=>?_)
  ·rw[if_pos y] at m;refine g_ (nx (f_ (d_ (Zm rfl ?_))));obtain⟨z,G,m⟩:=a_ m;refine Zv (C_ rfl rfl G) (Za rfl (Ze [(0,_),(1,_),(5,_)] (x_ (u_ ?_))));have Y:=Zj m;subst Y;refine Zk [(0,_),(1,_),(5,_)] ?_;intro a ha;exact⟨K12,by omega,z,s,C,ha,hB,g0r,g⟩
  ·replace m:=ZF y m;refine s_ ?_;refine n_ (n_ (N_ ?_));refine p_ ?_;have Z:=Zj m;subst Z;refine Zk [(0,_),(1,_),(5,_)] ?_;intro a ha;exact⟨i,s,C,ha,hB,g0r,g⟩
 ·rintro a q ⟨i,s,rfl,ha,hB,g0r,g⟩;dsimp only at hF;refine J_ ha ?_;refine c_ (Zq (Zm rfl (Zm rfl (Zv (B_ rfl g0r wR_) (Zv (r_ rfl rfl) (Zm rfl ?_))))));obtain⟨H,k,hF⟩:=a_ hF;refine bc_ 7 (λa0 I=>Fr a0 48 [(0,d),(1,ZI f),(5,ZI i),(32,.bool H)]∧Keeps q I) ?_ ?_;all_goals simp only[List.take_succ_cons,List.take_zero,List.drop_succ_cons,List.drop_zero]
  ·have kp:Keeps q q:=Keeps.refl _;rcases Bool.eq_false_or_eq_true (decide (i<(x.length:Int))) with c|c
   ·rw[if_pos c] at k;refine q_ (h_ rfl) (by decide) ⟨_,rfl,Zb c⟩ (q_ (h_ rfl) (by decide) ⟨_,rfl,Zb c⟩ ?_);obtain⟨a1,J,k⟩:=a_ k;refine cJ_ (by decide) ⟨_,rfl,Zb c⟩ ?_;refine fo_ g0r J rfl rfl wR_ wS_ ?_;intro d2 d3 d4 a2 a3;cases a3
    refine q_ (e_ rfl wT_ (k_ a2)) (by decide) ⟨_,rfl,Zb c⟩ (q_ (h_ rfl) (by decide) ⟨_,rfl,Zb c⟩ (q_ (cD_ rfl rfl) (by decide) ⟨_,rfl,Zb c⟩ (Zv (P_ (Zb c) rfl) ?_)));have v:=Zj k;refine Ze [(0,_),(1,_),(5,_),(32,_)] ?_;subst v;refine p_ (λa ha=>⟨ha,kp⟩)
   ·replace k:=ZF c k;refine A_ rfl rfl (by rw[c];rfl) (by decide) ?_;refine A_ rfl rfl (by rw[c];rfl) (by decide) ?_;refine A_ rfl rfl (by rw[c];rfl) (by decide) ?_;refine A_ rfl rfl (by rw[c];rfl) (by decide) ?_;refine A_ rfl rfl (by rw[c];rfl) (by decide) ?_;refine A_ rfl rfl (by rw[c];rfl) (by decide) ?_;refine Zv (I_ (Zb c) rfl) ?_;have v:=Zj k;refine Ze [(0,_),(1,_),(5,_),(32,_)] ?_;subst v;refine p_ (λa ha=>⟨ha,kp⟩)
  rintro d5 I ⟨ha,a4⟩;have a5:=a4.stp 999 s;obtain⟨g0r,g,hB⟩:=ZS a5 (A3 g0r g hB);refine aH_ ha ?_;refine Ze [(0,_),(1,_),(5,_),(32,_)] (nx ?_);refine l_ rfl (λA=>?_) (λA=>?_)
  ·rw[if_pos A] at hF;refine Zq (Zm rfl (Za rfl (Ze [(4,_)] (nx (j_ (y_ ?_))))));have a6:=Zj hF;subst a6;refine Zr yJ_ [d] ?_;exact⟨_,rt oo s w.heap.size 9 t,rfl,g.rt hB 9 t (by decide),hB.keeps,am_ _ _ _ _ _⟩
  ·replace hF:=ZF A hF;refine g_ (Zn (Zo ?_));refine hu_ w.heap.size 11 hB.keeps.size (o:=s) (cs:=[]) (xs:=([]:Yl)) (vs:=[]) rfl rfl trivial wR_ wS_ xd_ (by decide) fill0 (by simp) ?_;intro d6 d7 d8 a7 a8;obtain⟨g0r,g,hB⟩:=ZS a8 (A3 g0r g hB);refine Zm rfl (Zm rfl ?_);obtain⟨d9,L,hF⟩:=a_ hF;refine Zo ?_;refine nx_ g0r L rfl rfl rfl wR_ wS_ ?_;intro e0 a9;obtain⟨e1,M,hF⟩:=a_ hF;refine Zo ?_;refine aT_ a7 a9 M (by decide) hB.keeps.size rfl rfl wR_ dN_ rfl (by decide) ?_;intro b0 e2 b1 B b2;obtain⟨g0r,g,hB⟩:=ZS b2 (A3 g0r g hB);refine Za rfl (Ze [(0,_),(1,_),(5,_),(6,_)] (Zn (Zm rfl (Zm rfl (Zo ?_)))));refine au_ (o:=b0) (cs:=[ZI f]) (xs:=([f]:Yl)) (vs:=[(0,ZI f)]) ⟨_,_,rfl,rfl,rfl⟩ rfl ⟨rfl,rfl,trivial⟩ wR_ wS_ xd_ (by decide) (fill1 rfl) (by simp) ?_;intro e3 e4 e5 b3 b4 e6;obtain⟨g0r,g,B,hB⟩:=ZS b4 (A4 g0r g B hB);obtain⟨e7,N,hF⟩:=a_ hF;refine Zo ?_;refine aT_ B b3 (ai_ N) (by decide) hB.keeps.size rfl rfl wR_ dN_ rfl (by decide) ?_;intro e8 e9 b5 b6 b7;obtain⟨g0r,g,hB⟩:=ZS b7 (A3 g0r g hB);refine Za rfl (Ze [(0,_),(5,_),(6,_)] (Zn (Zm rfl (Zm rfl (Zm rfl ?_)))));obtain⟨f0,O,hF⟩:=a_ hF;refine Zo ?_;refine nx_ g0r O rfl rfl rfl wR_ wS_ ?_;intro f1 b8;obtain⟨f2,P,hF⟩:=a_ hF;refine Zo ?_;refine aT_ b6 b8 P (by decide) hB.keeps.size rfl rfl wR_ dN_ rfl (by decide) ?_;intro b9 f3 Q c0 c1;obtain⟨g0r,g,hB⟩:=ZS c1 (A3 g0r g hB);refine Za rfl (Ze [(4,_)] (nx (j_ ?_)));have c2:=c0.frzF;replace hB:=hB.frz 11 (by decide);generalize (frz 11 b9)=c3 at*;have c4:=Zj hF;subst c4;refine Zr yJ_ [Q] ?_;exact⟨_,rt oo c3 w.heap.size 9 t,rfl,c2.rt hB 9 t (by decide),hB.keeps,am_ _ _ _ _ _⟩
 ·exact λ_ _ h=>h.elim
def dd_(a:List Int):Option (List Int):=
  (cat ([]:List Int) a)>>=λb=>
  some b
def ux_(oo:Tg)(t:Nat)(w:World)(r:Yl):Ending->World->Prop:=λe w'=>∃(a:Value)(o':Tg),e=.returned (a)∧Ow w.heap.size 3 t o' w' a r∧Keeps w w'∧∀b,b<w.heap.size->o' b=oo b
theorem eB_(w:World)(oo:Tg)(t:Nat)(ht:2<=t)(a:Value)(g:Yl)(j:RdL zt w a g)(r:Yl)(hF:dd_ g=some r):
    Calls wQ_ 66 #[a] w (ux_ oo t w r):=by
 unfold dd_ at hF;have hB:Bs oo (col oo) w w:=Bs.start _ _;refine i_ (n:=6) (vs:=[a]) Tryz.func66 rfl rfl ?_;generalize col oo=o at*;refine Zq (Za rfl (Ze [(0,_)] (Zn (Zo ?_))));refine hu_ w.heap.size 11 hB.keeps.size (o:=o) (cs:=[]) (xs:=([]:Yl)) (vs:=[]) rfl rfl trivial wR_ wS_ xd_ (by decide) fill0 (by simp) ?_;intro s u v k m;replace hB:=hB.stp m;refine Zm rfl ?_;obtain⟨x,b,hF⟩:=a_ hF;refine Zo ?_;refine nH_ k (j.keep hB.keeps) b (by decide) hB.keeps.size (λ_ _ h=>h) rfl rfl wR_ dN_ rfl (by decide) ?_;intro q y i c d;replace hB:=hB.stp d;refine Za rfl (Ze [(2,_)] (nx (j_ ?_)));have f:=Zj hF;subst f;refine Zr Tryz.results66 [i] ?_;exact⟨_,rt oo q w.heap.size 11 t,rfl,c.rt hB (by decide) t,hB.keeps,am_ _ _ _ _ _⟩
def hG_(a:Int):Option Int:=
  if decide (a>0) then
    some 1
  else
    if decide (a<0) then
      some (-1)
    else
      some 0
def sz_(w:World)(r:Int):Ending->World->Prop:=λe w'=>e=.returned (.int .i64 r)∧Keeps w w'
theorem sW_(w:World)(a:Int)(r:Int)(hF:hG_ a=some r):
    Calls wQ_ 154 #[.int .i64 a] w (sz_ w r):=by
 unfold hG_ at hF;have hB:Bs (λ_=>1) (col (λ_=>1)) w w:=Bs.start _ _;refine i_ (n:=9) (vs:=[ZI a]) Tryz.func154 rfl rfl ?_;refine Zq (Za rfl (Ze [(0,_)] (nx (c_ (f_ (Zq (Zm rfl (Zv (eN_ rfl rfl) (Za rfl (Ze [(0,_),(3,_)] (nx ?_)))))))))));refine l_ rfl (λb=>?_) (λb=>?_)
 ·rw[if_pos b] at hF;refine Zq (Za rfl (Ze [(2,_)] (nx (j_ (W_ (y_ ?_))))));have d:=Zj hF;subst d;refine Zr xZ_ [ZI 1] ?_;exact⟨rfl,hB.keeps⟩
 ·replace hF:=ZF b hF;refine Zq (Zm rfl (Zv (r_ rfl rfl) (Za rfl (Ze [(6,_)] (nx ?_)))));refine l_ rfl (λc=>?_) (λc=>?_)
  ·rw[if_pos c] at hF;refine Zq (Za rfl (Ze [(2,_)] (nx (j_ (W_ (y_ ?_))))));have f:=Zj hF;subst f;refine Zr xZ_ [ZI (-1)] ?_;exact⟨rfl,hB.keeps⟩
  ·replace hF:=ZF c hF;refine g_ (x_ (Zn (Za rfl (Ze [(2,_)] (nx (j_ ?_))))));have g:=Zj hF;subst g;refine Zr xZ_ [ZI 0] ?_;exact⟨rfl,hB.keeps⟩
def gq_(d:List Int)(f:List Int):Int->Unit->Option (Lp Unit Unit Bool):=λ(c:Int)(s:Unit)=>
  (ix d c)>>=λa=>
  (ix f c)>>=λb=>
  if a !=b then
    some (.ret false)
  else
    some (.go ())
def gw_(a:List Int)(b:List Int):Option Bool:=
  if(a.length:Int) !=(b.length:Int) then
    some false
  else
    ck (a.length:Int)>>=λ_=>
    (forN (gq_ a b) ((a.length:Int)).toNat 0 ())>>=λc=>
    match c with
    | .inl _=>
      some true
    | .inr r'=>some r'
def oh_(w:World)(r:Bool):Ending->World->Prop:=λe w'=>e=.returned (.bool r)∧Keeps w w'
theorem nR_(w:World)(g:Value)(d:Yl)(B:RdL zt w g d)(i:Value)(x:Yl)(C:RdL zt w i x)(r:Bool)(hF:gw_ d x=some r):
    Calls wQ_ 115 #[g,i] w (oh_ w r):=by
 unfold gw_ at hF;have hB:Bs (λ_=>1) (col (λ_=>1)) w w:=Bs.start _ _;refine i_ (n:=26) (vs:=[g,i]) Tryz.func115 rfl rfl ?_;refine Zq (Za rfl (Ze [(0,_),(1,_)] (nx (c_ (Zq (Zm rfl (Zv (B_ rfl B wR_) (Zm rfl (Zv (B_ rfl C wR_) (Zv (bR_ rfl rfl) (Ze [(0,_),(1,_),(10,_)] (nx ?_))))))))))));refine l_ rfl (λD=>?_) (λD=>?_)
 ·rw[if_pos D] at hF;refine Zq (Za rfl (Ze [(4,_)] (nx (j_ (y_ ?_)))));have Z:=Zj hF;subst Z;refine Zr ya_ [.bool false] ?_;exact⟨rfl,hB.keeps⟩
 ·replace hF:=ZF D hF;refine g_ (nx (c_ (Zq (Zm rfl (Zv (B_ rfl B wR_) (Zm rfl (Ze [(0,_),(1,_),(12,_),(13,_)] (nx ?_))))))));obtain⟨c5,a0,hF⟩:=a_ hF;obtain⟨-,h7a,h7b⟩:=bV_ a0;obtain⟨E,F,hF⟩:=a_ hF;refine v_ (λa s=>∃(u:Tg),E=.inl ()∧Fr a 26 []∧Bs (λ_=>1) u w s) (λa w'=>∃r',E=.inr r'∧bodyPost wQ_ Tryz.f115 (oh_ w r') .ret a w') ?_ ?_ ?_
  ·refine f_ ?_;refine w_ (λ(K:Nat) a s=>∃(b:Int),∃(u:Tg),forN (gq_ d x) ((d.length:Int)-b).toNat b ()=some E∧((d.length:Int)-b).toNat=K∧0<=b∧Fr a 26 [(0,g),(1,i),(12,ZI (d.length:Int)),(13,ZI b)]∧Bs (λ_=>1) u w s) _ (λa ha=>⟨0,col (λ_=>1),F,rfl,Int.le_refl 0,ha.sb,hB⟩) ?_;rintro K12 a s ⟨b,u,Y,G,a1,ha,hB⟩;by_cases j:b<(d.length:Int)
   ·obtain⟨a2,f,y⟩:=bv_ j Y;dsimp only[gq_] at f;refine J_ ha ?_;refine Zq (Zv (r_ rfl rfl) (Ze [(0,_),(1,_),(12,_),(13,_),(14,_)] (nx (c_ ?_))));refine L_ (Zb (decide_eq_true j)) ?_;refine g_ (nx (c_ (f_ (Zq (Zm rfl (Za rfl (Ze [(0,_),(1,_),(5,_),(12,_),(13,_)] (nx (c_ ?_)))))))));obtain⟨z,k,f⟩:=a_ f;obtain⟨A,m,f⟩:=a_ f;refine ZW (Bf:=λa3 a4=>Bs (λ_=>1) a3 w a4) [(0,_),(1,_),(5,_),(12,_),(13,_)] (Zrg 16 8) [[],[],[0,1],[2],[],[],[4,5],[6]] (Zcn 8) (Zt9 8) (Zt0 8) [999] [.inl g,.inl (ZI b),.inr (λv o a5=>∃vl,v=adr vl (b.toNat*Rp.sz Int)∧RdL zt w vl d),.inl (ZI z),.inl i,.inl (ZI b),.inr (λv o a5=>∃vl,v=adr vl (b.toNat*Rp.sz Int)∧RdL zt w vl x),.inl (ZI A)] hB ⟨λ_ _ _ _ _ _ a6 hb ⟨vl,e,h⟩ hs=>⟨vl,e,h⟩,λ_ _ _ _ _ _ a6 hb ⟨vl,e,h⟩ hs=>⟨vl,e,h⟩,trivial⟩ ?_ ?_
    ·refine⟨Dp (h_ rfl),Dp (h_ rfl),?_,?_,Dp (h_ rfl),Dp (h_ rfl),?_,?_,trivial⟩
     ·rintro a7 a8 a9 ha- -;refine Zs ha ?_;refine ae_ B k rfl rfl wR_ wS_ ?_;exact⟨_,Stp.refl _ _ _,⟨_,rfl,B⟩⟩
     ·rintro b0 b1 b2 ha hB ⟨H,-⟩;obtain⟨b3,I,J⟩:=H;have ha:=ha.c I;refine Zs ha ?_;refine bB_ J k hB rfl rfl wT_ ?_;intro b4 L;cases L
      exact Zx rfl
     ·rintro b5 b6 b7 ha- -;refine Zs ha ?_;refine ae_ C m rfl rfl wR_ wS_ ?_;exact⟨_,Stp.refl _ _ _,⟨_,rfl,C⟩⟩
     ·rintro b8 b9 c0 ha hB ⟨M,-⟩;obtain⟨c1,N,O⟩:=M;have ha:=ha.c N;refine Zs ha ?_;refine bB_ O m hB rfl rfl wT_ ?_;intro c2 Q;cases Q
      exact Zx rfl
    rintro _ rfl R c3 c4 ha hB-;refine aH_ ha ?_;refine Zv (bR_ rfl rfl) (Ze [(0,_),(1,_),(12,_),(13,_),(24,_)] (nx ?_));refine l_ rfl (λq=>?_) (λq=>?_)
    ·rw[if_pos q] at f;refine Zq (Za rfl (Ze [(4,_)] (nx (j_ (W_ (y_ (y_ (W_ ?_))))))));refine bg_ ?_;have S:=Zj f;subst S;refine λa ha=>⟨_,y,?_⟩;refine D_ (P:=wQ_) (vs:=[.bool false]) ya_ ⟨rfl,trivial⟩ ?_ a ha;exact⟨rfl,hB.keeps⟩
    ·replace f:=ZF q f;refine g_ (x_ (nx (d_ (Zv (C_ rfl rfl (F_ (by omega) (by omega))) (Zm rfl (Ze [(0,_),(1,_),(12,_),(13,_)] (u_ ?_)))))));have T:=Zj f;subst T;refine Zk [(0,_),(1,_),(12,_),(13,_)] ?_;intro a ha;exact⟨_,(by rw[<-G];omega),b+1,R,y,rfl,by omega,ha,hB⟩
   ·have U:=bu_ j Y;refine J_ ha ?_;refine Zq (Zv (r_ rfl rfl) (Ze [(0,_),(1,_),(12,_),(13,_),(14,_)] (nx (c_ ?_))));refine G_ (Zb (decide_eq_false j)) ?_;refine s_ ?_;refine n_ (n_ (N_ ?_));refine p_ ?_;refine Zk [] ?_;intro a ha;exact⟨u,U,ha,hB⟩
  ·rintro a s ⟨u,rfl,ha,hB⟩;dsimp only at hF;refine ap_k ha ?_;refine Zn (Za rfl (Ze [(4,_)] (nx (j_ ?_))));have V:=Zj hF;subst V;refine Zr ya_ [.bool true] ?_;exact⟨rfl,hB.keeps⟩
  ·rintro a s ⟨r',rfl,W⟩;dsimp only at hF;have X:=Zj hF;subst X;exact W
def dx_(d:List Int):Int->Int->(List Int)->Option (Lp (List Int) (List Int) (List Int)):=λ(f:Int)(a:Int)(s:List Int)=>
  (ix d a)>>=λb=>
  (push s b)>>=λc=>
  some (.go c)
def fk_(a:List Int)(b:List Int):Option (List Int):=
  (forI (dx_ a) b 0 [])>>=λc=>
  match c with
  | .inl d=>
    some d
  | .inr _=>none
def oS_(oo:Tg)(t:Nat)(w:World)(r:Yl):Ending->World->Prop:=λe w'=>∃(a:Value)(o':Tg),e=.returned (a)∧Ow w.heap.size 3 t o' w' a r∧Keeps w w'∧∀b,b<w.heap.size->o' b=oo b
theorem ph_(w:World)(oo:Tg)(t:Nat)(ht:2<=t)(d:Value)(A:Yl)(X:RdL zt w d A)(f:Value)(b:Yl)(B:RdL zt w f b)(r:Yl)(hF:fk_ A b=some r):
    Calls wQ_ 130 #[d,f] w (oS_ oo t w r):=by
 unfold fk_ at hF;have hB:Bs oo (col oo) w w:=Bs.start _ _;refine i_ (n:=23) (vs:=[d,f]) Tryz.func130 rfl rfl ?_;generalize col oo=o at*;refine Zq (Za rfl (Ze [(0,_),(1,_)] (Zn (Za rfl (Ze [(0,_),(1,_),(5,_)] (nx (c_ (Zq (Zm rfl (Zv (B_ rfl B wR_) (Zm rfl (Ze [(0,_),(5,_),(8,_),(9,_),(10,_)] ?_))))))))))));refine nx ?_;have Y:Oz w 3 11 o w (.slice none 0 0) ([]:Yl):=Ow.nil _ _ _ _ _;obtain⟨V,C,hF⟩:=a_ hF;refine v_ (λa s=>∃q g j,V=.inl q∧Fr a 23 [(5,g)]∧Bs oo j w s∧Oz w 3 11 j s g q) (λ_ _=>False) ?_ ?_ ?_
 ·refine f_ ?_;refine w_ (λ(K:Nat) a s=>∃(c:Int),∃q g j,forI (dx_ A) (b.drop c.toNat) c q=some V∧(b.drop c.toNat).length=K∧0<=c∧Fr a 23 [(0,d),(5,g),(8,f),(9,ZI (b.length:Int)),(10,ZI c)]∧Bs oo j w s∧Oz w 3 11 j s g q) _ (λa ha=>⟨0,[],.slice none 0 0,o,C,rfl,Int.le_refl 0,ha.sb,hB,Y⟩) ?_;rintro K12 a s ⟨c,q,g,j,W,D,E,ha,hB,v⟩;by_cases k:c<(b.length:Int)
  ·obtain⟨F,Z,x,i,G⟩:=R_ E k W;have hle:=B.len_le;dsimp only[dx_] at i;refine J_ ha ?_;refine Zq (Zv (r_ rfl rfl) (Ze [(0,_),(5,_),(8,_),(9,_),(10,_),(11,_)] (nx (c_ ?_))));refine L_ (Zb (decide_eq_true k)) ?_;refine g_ (nx (c_ (f_ (Zq (Zo ?_)))));refine wf_atZ B x hB rfl rfl wR_ wS_ ?_;intro a0 a1 a2 H I;cases I
   refine Zv (e_ rfl wT_ (k_ H)) (Za rfl (Ze [(0,_),(5,_),(7,_),(8,_),(9,_),(10,_)] (nx (d_ (Zm rfl (Zm rfl (Zm rfl ?_)))))));obtain⟨u,y,i⟩:=a_ i;refine Zo ?_;refine wf_atZ X y hB rfl rfl wR_ wS_ ?_;intro a3 a4 a5 J L;cases L
   refine Zv (e_ rfl wT_ (k_ J)) (Zo ?_);refine au_ (o:=j) (cs:=[ZI u]) (xs:=([u]:Yl)) (vs:=[(0,ZI u)]) ⟨_,_,rfl,rfl,rfl⟩ rfl ⟨rfl,rfl,trivial⟩ wR_ wS_ xd_ (by decide) (fill1 rfl) (by simp) ?_;intro a6 a7 a8 M N a9;obtain⟨v,hB⟩:=ZS N (A2 v hB);obtain⟨O,z,i⟩:=a_ i;refine Zo ?_;refine aT_ v M (ai_ z) (by decide) hB.keeps.size rfl rfl wR_ dN_ rfl (by decide) ?_;intro P b0 m Q R;replace hB:=hB.stp R;refine Za rfl (Ze [(0,d),(5,m),(8,f),(9,ZI (b.length:Int)),(10,ZI c)] (x_ (nx (d_ (Zv (C_ rfl rfl (F_ (by omega) (by omega))) (Zm rfl (Ze [(0,_),(5,_),(8,_),(9,_),(10,_)] (u_ ?_))))))));have S:=Zj i;subst S;refine Zk [(0,_),(5,_),(8,_),(9,_),(10,_)] ?_;intro a ha;exact⟨_,(by rw[<-D];simp only[List.length_drop];omega),c+1,O,m,P,G,rfl,by omega,ha,hB,Q⟩
  ·have T:=S_ k W;refine J_ ha ?_;refine Zq (Zv (r_ rfl rfl) (Ze [(0,_),(5,_),(8,_),(9,_),(10,_),(11,_)] (nx (c_ ?_))));refine G_ (Zb (decide_eq_false k)) ?_;refine s_ ?_;refine n_ (n_ (N_ ?_));refine p_ ?_;refine Zk [(5,_)] ?_;intro a ha;exact⟨q,g,j,T,ha,hB,v⟩
 ·rintro a s ⟨q,g,j,rfl,ha,hB,v⟩;dsimp only at hF;refine ap_k ha ?_;refine Zn (Zm rfl (Za rfl (Ze [(4,_)] (nx (j_ ?_)))));have U:=Zj hF;subst U;refine Zr Tryz.results130 [g] ?_;exact⟨_,rt oo j w.heap.size 11 t,rfl,v.rt hB (by decide) t,hB.keeps,am_ _ _ _ _ _⟩
 ·exact λ_ _ h=>h.elim
def fD_(g:List Int):Int->Int->Unit->Option (Lp Unit Unit Int):=λ(i:Int)(a:Int)(s:Unit)=>
  (ix g i)>>=λb=>
  if a !=b then
    (ix g i)>>=λc=>
    (ck (a-c))>>=λd=>
    (hG_ d)>>=λf=>
    some (.ret f)
  else
    some (.go ())
def eY_(a:List Int)(b:List Int):Option Int:=
  (forI (fD_ b) a 0 ())>>=λc=>
  match c with
  | .inl _=>
    some 0
  | .inr r'=>some r'
def mj_(w:World)(r:Int):Ending->World->Prop:=λe w'=>e=.returned (.int .i64 r)∧Keeps w w'
theorem mi_(w:World)(f:Value)(d:Yl)(B:RdL zt w f d)(g:Value)(C:Yl)(X:RdL zt w g C)(r:Int)(hF:eY_ d C=some r):
    Calls wQ_ 107 #[f,g] w (mj_ w r):=by
 unfold eY_ at hF;have hB:Bs (λ_=>1) (col (λ_=>1)) w w:=Bs.start _ _;refine i_ (n:=28) (vs:=[f,g]) Tryz.func107 rfl rfl ?_;refine Zq (Za rfl (Ze [(0,_),(1,_)] (nx (c_ (Zq (Zm rfl (Zv (B_ rfl B wR_) (Zm rfl (Ze [(1,_),(7,_),(8,_),(9,_)] (nx ?_))))))))));obtain⟨D,E,hF⟩:=a_ hF;refine v_ (λa k=>∃(j:Tg),D=.inl ()∧Fr a 28 []∧Bs (λ_=>1) j w k) (λa w'=>∃r',D=.inr r'∧bodyPost wQ_ Tryz.f107 (mj_ w r') .ret a w') ?_ ?_ ?_
 ·refine f_ ?_;refine w_ (λ(K:Nat) a k=>∃(c:Int),∃(j:Tg),forI (fD_ C) (d.drop c.toNat) c ()=some D∧(d.drop c.toNat).length=K∧0<=c∧Fr a 28 [(1,g),(7,f),(8,ZI (d.length:Int)),(9,ZI c)]∧Bs (λ_=>1) j w k) _ (λa ha=>⟨0,col (λ_=>1),E,rfl,Int.le_refl 0,ha.sb,hB⟩) ?_;rintro K8 a k ⟨c,j,Y,Z,a0,ha,hB⟩;by_cases i:c<(d.length:Int)
  ·obtain⟨m,b3,u,b,v⟩:=R_ a0 i Y;have hle:=B.len_le;dsimp only[fD_] at b;refine J_ ha ?_;refine Zq (Zv (r_ rfl rfl) (Ze [(1,_),(7,_),(8,_),(9,_),(10,_)] (nx (c_ ?_))));refine L_ (Zb (decide_eq_true i)) ?_;refine g_ (nx (c_ (f_ (Zq (Zm rfl (Zo ?_))))));refine wf_atZ B u hB rfl rfl wR_ wS_ ?_;intro a1 a2 a3 F G;cases G
   refine Zv (e_ rfl wT_ (k_ F)) (Za rfl (Za rfl (Ze [(1,_),(5,_),(6,_),(7,_),(8,_),(9,_)] (Zn (Zm rfl (Zm rfl (Zm rfl ?_)))))));obtain⟨H,x,b⟩:=a_ b;refine Zo ?_;refine wf_atZ X x hB rfl rfl wR_ wS_ ?_;intro a4 a5 a6 I J;cases J
   refine Zv (e_ rfl wT_ (k_ I)) (Zv (bR_ rfl rfl) (Ze [(1,_),(5,_),(6,_),(7,_),(8,_),(9,_),(19,_)] (nx ?_)));refine l_ rfl (λq=>?_) (λq=>?_)
   ·rw[if_pos q] at b;refine Zq (Zm rfl (Zm rfl (Zm rfl ?_)));obtain⟨a7,y,b⟩:=a_ b;refine Zo ?_;refine wf_atZ X y hB rfl rfl wR_ wS_ ?_;intro a8 a9 b0 L M;cases M
    refine Zv (e_ rfl wT_ (k_ L)) ?_;obtain⟨N,z,b⟩:=a_ b;refine Zv (bs_ rfl rfl z) ?_;obtain⟨s,A,b⟩:=a_ b;refine Zo ?_;refine o_ (sW_ k N s A) Tryz.call154 ⟨rfl,trivial⟩ ?_;rintro b1 b2 ⟨rfl,O⟩;have Q:=O.stp 999 j;refine⟨_,rfl,?_⟩;replace hB:=hB.stp Q;refine Za rfl (Ze [(4,_)] (nx (j_ (W_ (y_ (y_ (W_ ?_)))))));refine bg_ ?_;have R:=Zj b;subst R;refine λa ha=>⟨_,v,?_⟩;refine D_ (P:=wQ_) (vs:=[ZI s]) yK_ ⟨rfl,trivial⟩ ?_ a ha;exact⟨rfl,hB.keeps⟩
   ·replace b:=ZF q b;refine g_ (x_ (nx (d_ (Zv (C_ rfl rfl (F_ (by omega) (by omega))) (Zm rfl (Ze [(1,_),(7,_),(8,_),(9,_)] (u_ ?_)))))));have S:=Zj b;subst S;refine Zk [(1,_),(7,_),(8,_),(9,_)] ?_;intro a ha;exact⟨_,(by rw[<-Z];simp only[List.length_drop];omega),c+1,j,v,rfl,by omega,ha,hB⟩
  ·have T:=S_ i Y;refine J_ ha ?_;refine Zq (Zv (r_ rfl rfl) (Ze [(1,_),(7,_),(8,_),(9,_),(10,_)] (nx (c_ ?_))));refine G_ (Zb (decide_eq_false i)) ?_;refine s_ ?_;refine n_ (n_ (N_ ?_));refine p_ ?_;refine Zk [] ?_;intro a ha;exact⟨j,T,ha,hB⟩
 ·rintro a k ⟨j,rfl,ha,hB⟩;dsimp only at hF;refine ap_k ha ?_;refine Zn (Za rfl (Ze [(4,_)] (nx (j_ ?_))));have U:=Zj hF;subst U;refine Zr yK_ [ZI 0] ?_;exact⟨rfl,hB.keeps⟩
 ·rintro a k ⟨r',rfl,V⟩;dsimp only at hF;have W:=Zj hF;subst W;exact V
def cI_:((List Int)×Int)->Option (Lp ((List Int)×Int) ((List Int)×Int) (List Int)):=λ(s:(List Int)×Int)=>
  (
    if decide (s.2>0) then
      (ck (s.2-1))>>=λj=>
      (ix s.1 j)>>=λk=>
      (ix s.1 s.2)>>=λm=>
      some (decide (k>m))
    else
      some false)>>=λn=>
  if n then
    (ix s.1 s.2)>>=λc=>
    (ck (s.2-1))>>=λd=>
    (ix s.1 d)>>=λf=>
    (ix s.1 s.2)>>=λq=>
    (st s.1 s.2 f)>>=λa=>
    (ck (s.2-1))>>=λb=>
    (ix a b)>>=λu=>
    (st a b c)>>=λg=>
    (ck (s.2-1))>>=λi=>
    some (.go (g,i))
  else
    some (.out (s.1,s.2))
def cE_(fuel:Nat):Int->(List Int)->Option (Lp (List Int) (List Int) (List Int)):=λ(a:Int)(s:List Int)=>
  (loopF (cI_) fuel (s,a))>>=λb=>
  match b with
  | .inl (c,d)=>
    some (.go c)
  | .inr _=>none
def dC_(fuel:Nat)(d:List Int):Option (List Int):=
  (dd_ d)>>=λa=>
  ck (a.length:Int)>>=λ_=>
  (forN (cE_ fuel) ((a.length:Int)).toNat 0 a)>>=λb=>
  match b with
  | .inl c=>
    some c
  | .inr _=>none
def qr_(oo:Tg)(t:Nat)(w:World)(r:Yl):Ending->World->Prop:=λe w'=>∃(a:Value)(o':Tg),e=.returned (a)∧Ow w.heap.size 3 t o' w' a r∧Keeps w w'∧∀b,b<w.heap.size->o' b=oo b
theorem gY_(fuel:Nat)(w:World)(oo:Tg)(t:Nat)(ht:2<=t)(d2:Value)(d4:Yl)(i1:RdL zt w d2 d4)(r:Yl)(hF:dC_ fuel d4=some r):
    Calls wQ_ 121 #[d2] w (qr_ oo t w r):=by
 unfold dC_ at hF;have hB:Bs oo (col oo) w w:=Bs.start _ _;refine i_ (n:=50) (vs:=[d2]) Tryz.func121 rfl rfl ?_;generalize col oo=o at*;refine Zq (Za rfl (Ze [(0,_)] (Zn (Zm rfl ?_))));obtain⟨q,d5,hF⟩:=a_ hF;refine Zo ?_;refine o_ (eB_ w o 11 (by decide) _ d4 (i1.keep hB.keeps) q d5) Tryz.call66 ⟨rfl,trivial⟩ ?_;rintro j9 k0 ⟨j,i2,rfl,d3,i3,i4⟩;have i5:=i3.stp' 11 i4;replace d3:=d3.mono hB.keeps.size;refine⟨_,rfl,?_⟩;replace hB:=hB.stp i5;refine Za rfl (Ze [(3,_)] (nx (c_ (Zq (Zm rfl (Zv (bC_ rfl d3 wR_) (Zm rfl (Ze [(3,_),(10,_),(11,_)] (nx ?_)))))))));obtain⟨i6,d6,hF⟩:=a_ hF;obtain⟨-,h16a,h16b⟩:=bV_ d6;obtain⟨V,W,hF⟩:=a_ hF;refine v_ (λa y=>∃u s,V=.inl u∧Fr a 50 [(3,j)]∧Bs oo s w y∧Oz w 3 11 s y j u) (λ_ _=>False) ?_ ?_ ?_
 ·refine f_ ?_;refine w_ (λ(K:Nat) a y=>∃(b:Int),∃u s,forN (cE_ fuel) ((q.length:Int)-b).toNat b u=some V∧((q.length:Int)-b).toNat=K∧0<=b∧Fr a 50 [(3,j),(10,ZI (q.length:Int)),(11,ZI b)]∧Bs oo s w y∧Oz w 3 11 s y j u) _ (λa ha=>⟨0,q,i2,W,rfl,Int.le_refl 0,ha.sb,hB,d3⟩) ?_;rintro K21 a y ⟨b,u,s,X,d7,i7,ha,hB,E⟩;by_cases F:b<(q.length:Int)
  ·obtain⟨i8,A,d8⟩:=bv_ F X;dsimp only[cE_] at A;refine J_ ha ?_;refine Zq (Zv (r_ rfl rfl) (Ze [(3,_),(10,_),(11,_),(12,_)] (nx (c_ ?_))));refine L_ (Zb (decide_eq_true F)) ?_;refine g_ (nx (c_ (f_ (Zq (Zm rfl (Za rfl (Ze [(3,_),(4,_),(10,_),(11,_)] (Zn (Zm rfl (Za rfl (Ze [(3,_),(5,_),(10,_),(11,_)] (nx ?_))))))))))));obtain⟨Y,Z,A⟩:=a_ A;refine v_ (λa z=>∃(m:Yl),∃(g:Int),∃(x:Tg),Y=.inl (m,g)∧Fr a 50 [(3,j),(10,ZI (q.length:Int)),(11,ZI b)]∧Bs oo x w z∧Oz w 3 11 x z j m) (λ_ _=>False) ?_ ?_ ?_
   ·refine f_ ?_;refine w_ (λ(K:Nat) a z=>∃(m:Yl),∃(g:Int),∃(x:Tg),loopF (cI_) K (m,g)=some Y∧Fr a 50 [(3,j),(5,ZI g),(10,ZI (q.length:Int)),(11,ZI b)]∧Bs oo x w z∧Oz w 3 11 x z j m) fuel (λa ha=>⟨u,b,s,Z,ha.sb,hB,E⟩) ?_;rintro K35 a z ⟨m,g,x,d9,ha,hB,i⟩;obtain⟨K39,i9,j0,d,a0⟩:=X_ d9;dsimp only[cI_] at d;refine J_ ha ?_;refine c_ (c_ ?_);obtain⟨e0,k,d⟩:=a_ d;refine v_ (λe1 L=>∃B:Tg,Fr e1 50 [(3,j),(5,ZI g),(10,ZI (q.length:Int)),(11,ZI b),(28,.bool e0)]∧Bs oo B w L∧Oz w 3 11 B L j m) (λ_ _=>False) ?_ ?_ (λ_ _ h=>h.elim)
    ·rcases Bool.eq_false_or_eq_true (decide (g>0)) with f|f
     ·rw[if_pos f] at k;obtain⟨a1,a2,k⟩:=a_ k;obtain⟨a3,G,k⟩:=a_ k;obtain⟨a4,H,k⟩:=a_ k;refine ZW (Bf:=λa5 a6=>Bs oo a5 w a6∧Oz w 3 11 a5 a6 j m) [(3,_),(5,_),(10,_),(11,_)] (Zrg 15 12) [[],[0],[1],[2],[2],[2,4],[2,3,5],[2,6],[2],[2],[2,8,9],[2,10]] (Zcn 12) (Zt9 12) [0,0,0,0,0,0,11,0,0,0,11,0] [999] [.inl (ZI g),.inl (.bool (decide (g>0))),.inl (.bool (decide (g>0))),.inl j,.inl (ZI g),.inl (ZI a1),.inr (λv o e2=>∃vl,v=adr vl (a1.toNat*Rp.sz Int)∧Oz w 3 11 o e2 vl m),.inl (ZI a3),.inl j,.inl (ZI g),.inr (λv o e2=>∃vl,v=adr vl (g.toNat*Rp.sz Int)∧Oz w 3 11 o e2 vl m),.inl (ZI a4)] ⟨hB,i⟩ ⟨λ_ _ _ _ _ _ e3 hb ⟨vl,e,h⟩ hs=>⟨vl,e,h.stp hs e3.1 (Ne.symm hb)⟩,λ_ _ _ _ _ _ e3 hb ⟨vl,e,h⟩ hs=>⟨vl,e,h.stp hs e3.1 (Ne.symm hb)⟩,trivial⟩ ?_ ?_
      ·refine⟨Dp (h_ rfl),Dp (eN_ rfl rfl),Dp (h_ rfl),Dp (h_ rfl) (⟨_,rfl,Zb f⟩),Dp (h_ rfl) (⟨_,rfl,Zb f⟩),Dp (bs_ rfl rfl a2) (⟨_,rfl,Zb f⟩),?_,?_,Dp (h_ rfl) (⟨_,rfl,Zb f⟩),Dp (h_ rfl) (⟨_,rfl,Zb f⟩),?_,?_,trivial⟩
       ·rintro j1 j2 j3 ha ⟨-,i⟩-;refine ds_ ha (⟨_,rfl,Zb f⟩) ?_;refine bT_ i G rfl rfl wR_ wS_ ?_;exact⟨_,Stp.refl _ _ _,⟨_,rfl,i⟩⟩
       ·rintro j4 j5 j6 ha- ⟨e4,-⟩;obtain⟨j7,e5,e6⟩:=e4;have ha:=ha.c e5;refine ds_ ha (⟨_,rfl,Zb f⟩) ?_;refine bA_ e6 G rfl rfl wT_ ?_;intro j8 e7;cases e7
        exact Zx rfl
       ·rintro e8 e9 f0 ha ⟨-,i⟩-;refine ds_ ha (⟨_,rfl,Zb f⟩) ?_;refine bT_ i H rfl rfl wR_ wS_ ?_;exact⟨_,Stp.refl _ _ _,⟨_,rfl,i⟩⟩
       ·rintro f1 f2 f3 ha- ⟨a7,-⟩;obtain⟨f4,a8,a9⟩:=a7;have ha:=ha.c a8;refine ds_ ha (⟨_,rfl,Zb f⟩) ?_;refine bA_ a9 H rfl rfl wT_ ?_;intro f5 b0;cases b0
        exact Zx rfl
      rintro _ rfl b1 f6 f7 ha ⟨hB,i⟩-;refine aH_ ha ?_;refine q_ (eN_ rfl rfl) (by decide) ⟨_,rfl,Zb f⟩ (Zv (P_ (Zb f) rfl) ?_);have b2:=Zj k;subst b2;refine Ze [(3,_),(5,_),(10,_),(11,_),(28,_)] ?_;refine p_ (λa ha=>⟨b1,ha,hB,i⟩)
     ·replace k:=ZF f k;refine ZW (Bf:=λa5 a6=>Bs oo a5 w a6∧Oz w 3 11 a5 a6 j m) [(3,_),(5,_),(10,_),(11,_)] (Zrg 15 12) [[],[0],[1],[2],[2],[2],[2],[2],[2],[2],[2],[2]] (Zcn 12) (Zt9 12) (Zt0 12) [999] [.inl (ZI g),.inl (.bool (decide (g>0))),.inl (.bool (decide (g>0))),.inl undef,.inl undef,.inl undef,.inl undef,.inl undef,.inl undef,.inl undef,.inl undef,.inl undef] ⟨hB,i⟩ trivial ?_ ?_
      ·exact⟨Dp (h_ rfl),Dp (eN_ rfl rfl),Dp (h_ rfl),Dn rfl rfl rfl (by rw[f];rfl),Dn rfl rfl rfl (by rw[f];rfl),Dn rfl rfl rfl (by rw[f];rfl),Dn rfl rfl rfl (by rw[f];rfl),Dn rfl rfl rfl (by rw[f];rfl),Dn rfl rfl rfl (by rw[f];rfl),Dn rfl rfl rfl (by rw[f];rfl),Dn rfl rfl rfl (by rw[f];rfl),Dn rfl rfl rfl (by rw[f];rfl),trivial⟩
      rintro _ rfl b3 f8 f9 ha ⟨hB,i⟩-;refine aH_ ha ?_;refine A_ rfl rfl (by rw[f];rfl) (by decide) ?_;refine Zv (I_ (Zb f) rfl) ?_;have b4:=Zj k;subst b4;refine Ze [(3,_),(5,_),(10,_),(11,_),(28,_)] ?_;refine p_ (λa ha=>⟨b3,ha,hB,i⟩)
    rintro g0 L ⟨B,ha,hB,i⟩;refine ap_k ha ?_;refine nx ?_;refine l_ rfl (λC=>?_) (λC=>?_)
    ·rw[if_pos C] at d;refine g_ (nx (c_ (f_ (Zq (Zm rfl (Zm rfl ?_))))));obtain⟨I,M,d⟩:=a_ d;refine Zo ?_;refine gE_ i M rfl rfl wR_ wS_ ?_;intro g1 g2 g3 b5 b6;cases b6
     refine Zv (e_ rfl wT_ (k_ b5)) (Za rfl (Ze [(3,_),(5,_),(6,_),(10,_),(11,_)] (Zn (Zm rfl (Zm rfl (Zm rfl (Zm rfl ?_)))))));obtain⟨g4,N,d⟩:=a_ d;refine Zv (bs_ rfl rfl N) ?_;obtain⟨g5,O,d⟩:=a_ d;refine Zo ?_;refine gE_ i O rfl rfl wR_ wS_ ?_;intro g6 g7 g8 b7 b8;cases b8
     refine Zv (e_ rfl wT_ (k_ b7)) ?_;obtain⟨g9,P,d⟩:=a_ d;refine Zo ?_;refine fC_ i P rfl rfl wR_ wS_ ?_;intro h0 h1 b9 h2 c0;cases c0
     obtain⟨h3,Q,d⟩:=a_ d;refine Z_ trivial ?_;refine cf_ i b9 Q rfl (by decide) rfl rfl rfl wS_ rfl ?_;intro h4 J c1;replace hB:=hB.stp c1;refine Ze [(3,_),(5,_),(6,_),(10,_),(11,_)] (nx (d_ (Zm rfl (Zm rfl ?_))));obtain⟨h5,R,d⟩:=a_ d;refine Zv (bs_ rfl rfl R) (Zm rfl ?_);obtain⟨h6,S,d⟩:=a_ d;refine Zo ?_;refine fC_ J S rfl rfl wR_ wS_ ?_;intro h7 h8 c2 h9 c3;cases c3
     obtain⟨c4,T,d⟩:=a_ d;refine Z_ trivial ?_;refine cf_ J c2 T rfl (by decide) rfl rfl rfl wS_ rfl ?_;intro i0 c5 c6;replace hB:=hB.stp c6;refine Ze [(3,_),(5,_),(10,_),(11,_)] (x_ (nx (d_ (Zm rfl ?_))));obtain⟨D,U,d⟩:=a_ d;refine Zv (bs_ rfl rfl U) (Za rfl (Ze [(3,_),(5,_),(10,_),(11,_)] (u_ ?_)));have c7:=Zj d;subst c7;refine Zk [(3,_),(5,_),(10,_),(11,_)] ?_;intro a ha;exact⟨K39,by omega,c4,D,B,a0,ha,hB,c5⟩
    ·replace d:=ZF C d;refine s_ ?_;refine n_ (n_ (N_ ?_));refine p_ ?_;have c8:=Zj d;subst c8;refine Zk [(3,_),(10,_),(11,_)] ?_;intro a ha;exact⟨m,g,B,a0,ha,hB,i⟩
   ·rintro a z ⟨m,g,x,rfl,ha,hB,i⟩;dsimp only at A;refine ap_k ha ?_;refine x_ (nx (d_ (Zv (C_ rfl rfl (F_ (by omega) (by omega))) (Zm rfl (Ze [(3,_),(10,_),(11,_)] (u_ ?_))))));have c9:=Zj A;subst c9;refine Zk [(3,_),(10,_),(11,_)] ?_;intro a ha;exact⟨_,(by rw[<-d7];omega),b+1,m,x,d8,rfl,by omega,ha,hB,i⟩
   ·exact λ_ _ h=>h.elim
  ·have d0:=bu_ F X;refine J_ ha ?_;refine Zq (Zv (r_ rfl rfl) (Ze [(3,_),(10,_),(11,_),(12,_)] (nx (c_ ?_))));refine G_ (Zb (decide_eq_false F)) ?_;refine s_ ?_;refine n_ (n_ (N_ ?_));refine p_ ?_;refine Zk [(3,_)] ?_;intro a ha;exact⟨u,s,d0,ha,hB,E⟩
 ·rintro a y ⟨u,s,rfl,ha,hB,E⟩;dsimp only at hF;refine ap_k ha ?_;refine Zn (Zm rfl (Za rfl (Ze [(2,_)] (nx (j_ ?_)))));have d1:=Zj hF;subst d1;refine Zr Tryz.results121 [j] ?_;exact⟨_,rt oo s w.heap.size 11 t,rfl,E.rt hB (by decide) t,hB.keeps,am_ _ _ _ _ _⟩
 ·exact λ_ _ h=>h.elim
def dT_(a:Int)(b:Int)(c:Int):Option Bool:=
  (
    if decide (b<=a) then
      some (decide (a<=c))
    else
      some false)>>=λd=>
  some d
def sG_(w:World)(r:Bool):Ending->World->Prop:=λe w'=>e=.returned (.bool r)∧Keeps w w'
theorem gy_(w:World)(f:Int)(g:Int)(i:Int)(r:Bool)(hF:dT_ f g i=some r):
    Calls wQ_ 62 #[.int .i64 f,.int .i64 g,.int .i64 i] w (sG_ w r):=by
 unfold dT_ at hF;have hB:Bs (λ_=>1) (col (λ_=>1)) w w:=Bs.start _ _;refine i_ (n:=15) (vs:=[ZI f,ZI g,ZI i]) Tryz.func62 rfl rfl ?_;refine Zq (Za rfl (Ze [(0,_),(1,_),(2,_)] (Zn (Zm rfl (Zm rfl (Zv (tG_ rfl rfl) (Zm rfl ?_)))))));obtain⟨j,d,hF⟩:=a_ hF;refine bc_ 4 (λm k=>Fr m 15 [(14,.bool j)]∧Keeps w k) ?_ ?_;all_goals simp only[List.take_succ_cons,List.take_zero,List.drop_succ_cons,List.drop_zero]
 ·have kp:Keeps w w:=Keeps.refl _;rcases Bool.eq_false_or_eq_true (decide (g<=f)) with b|b
  ·rw[if_pos b] at d;refine q_ (h_ rfl) (by decide) ⟨_,rfl,Zb b⟩ (q_ (h_ rfl) (by decide) ⟨_,rfl,Zb b⟩ (q_ (tG_ rfl rfl) (by decide) ⟨_,rfl,Zb b⟩ (Zv (P_ (Zb b) rfl) ?_)));have c:=Zj d;refine Ze [(14,_)] ?_;subst c;refine p_ (λa ha=>⟨ha,kp⟩)
  ·replace d:=ZF b d;refine A_ rfl rfl (by rw[b];rfl) (by decide) ?_;refine A_ rfl rfl (by rw[b];rfl) (by decide) ?_;refine A_ rfl rfl (by rw[b];rfl) (by decide) ?_;refine Zv (I_ (Zb b) rfl) ?_;have c:=Zj d;refine Ze [(14,_)] ?_;subst c;refine p_ (λa ha=>⟨ha,kp⟩)
 rintro v k ⟨ha,q⟩;have s:=q.stp 999 (col (λ_=>1));replace hB:=hB.stp s;refine aH_ ha ?_;refine Za rfl (Ze [(6,_)] (nx (j_ ?_)));have u:=Zj hF;subst u;refine Zr Tryz.results62 [.bool j] ?_;exact⟨rfl,hB.keeps⟩
def bX_(g:Int):((List Int)×Int)->Option (Lp ((List Int)×Int) ((List Int)×Int) (List Int)):=λ(s:(List Int)×Int)=>
  (shr g s.2)>>=λa=>
  if a !=0 then
    (shr g s.2)>>=λb=>
    if(band b 1)==1 then
      (push s.1 s.2)>>=λc=>
      (ck (s.2+1))>>=λd=>
      some (.go (c,d))
    else
      (ck (s.2+1))>>=λf=>
      some (.go (s.1,f))
  else
    some (.out (s.1,s.2))
def ec_(fuel:Nat)(a:Int):Option (List Int):=
  (loopF (bX_ a) fuel ([],0))>>=λb=>
  match b with
  | .inl (c,d)=>
    some c
  | .inr _=>none
def qd_(oo:Tg)(t:Nat)(w:World)(r:Yl):Ending->World->Prop:=λe w'=>∃(a:Value)(o':Tg),e=.returned (a)∧Ow w.heap.size 3 t o' w' a r∧Keeps w w'∧∀b,b<w.heap.size->o' b=oo b
theorem kS_(fuel:Nat)(w:World)(oo:Tg)(t:Nat)(ht:2<=t)(c:Int)(r:Yl)(hF:ec_ fuel c=some r):
    Calls wQ_ 139 #[.int .i64 c] w (qd_ oo t w r):=by
 unfold ec_ at hF;have hB:Bs oo (col oo) w w:=Bs.start _ _;refine i_ (n:=21) (vs:=[ZI c]) Tryz.func139 rfl rfl ?_;generalize col oo=o at*;refine Zq (Za rfl (Ze [(0,_)] (Zn (Za rfl (Ze [(0,_),(3,_)] (nx (c_ (Zq (Za rfl (Ze [(0,_),(3,_),(4,_)] (nx ?_)))))))))));have S:Oz w 3 11 o w (.slice none 0 0) ([]:Yl):=Ow.nil _ _ _ _ _;obtain⟨R,D,hF⟩:=a_ hF;refine v_ (λa k=>∃(i:Yl),∃(f:Int),∃d g,R=.inl (i,f)∧Fr a 21 [(3,d)]∧Bs oo g w k∧Oz w 3 11 g k d i) (λ_ _=>False) ?_ ?_ ?_
 ·refine f_ ?_;refine w_ (λ(K:Nat) a k=>∃(i:Yl),∃(f:Int),∃d g,loopF (bX_ c) K (i,f)=some R∧Fr a 21 [(0,ZI c),(3,d),(4,ZI f)]∧Bs oo g w k∧Oz w 3 11 g k d i) fuel (λa ha=>⟨[],0,.slice none 0 0,o,D,ha.sb,hB,S⟩) ?_;rintro K12 a k ⟨i,f,d,g,T,ha,hB,m⟩;obtain⟨K16,U,V,b,q⟩:=X_ T;dsimp only[bX_] at b;refine J_ ha ?_;refine c_ (Zq (Zm rfl (Zm rfl ?_)));obtain⟨E,y,b⟩:=a_ b;refine Zv (qS_ rfl rfl y) (Zv (bR_ rfl rfl) (Ze [(0,_),(3,_),(4,_),(8,_)] (nx ?_)));refine l_ rfl (λs=>?_) (λs=>?_)
  ·rw[if_pos s] at b;refine g_ (nx (c_ (f_ (Zq (Zm rfl (Zm rfl ?_))))));obtain⟨F,z,b⟩:=a_ b;refine Zv (qS_ rfl rfl z) (Zv (jY_ rfl rfl) (Zv (cD_ rfl rfl) (Ze [(0,_),(3,_),(4,_),(15,_)] (nx ?_))));refine l_ rfl (λu=>?_) (λu=>?_)
   ·rw[if_pos u] at b;refine d_ (Zm rfl (Zm rfl (Zo ?_)));refine au_ (o:=g) (cs:=[ZI f]) (xs:=([f]:Yl)) (vs:=[(0,ZI f)]) ⟨_,_,rfl,rfl,rfl⟩ rfl ⟨rfl,rfl,trivial⟩ wR_ wS_ xd_ (by decide) (fill1 rfl) (by simp) ?_;intro W X Y G H Z;obtain⟨m,hB⟩:=ZS H (A2 m hB);obtain⟨I,A,b⟩:=a_ b;refine Zo ?_;refine aT_ m G (ai_ A) (by decide) hB.keeps.size rfl rfl wR_ dN_ rfl (by decide) ?_;intro J a0 j L M;replace hB:=hB.stp M;refine Za rfl (Ze [(0,_),(3,_),(4,_)] (x_ (nx (d_ (Zm rfl ?_)))));obtain⟨v,B,b⟩:=a_ b;refine Zv (C_ rfl rfl B) (Za rfl (Ze [(0,_),(3,_),(4,_)] (u_ ?_)));have N:=Zj b;subst N;refine Zk [(0,_),(3,_),(4,_)] ?_;intro a ha;exact⟨K16,by omega,I,v,j,J,q,ha,hB,L⟩
   ·replace b:=ZF u b;refine g_ (x_ (nx (d_ (Zm rfl ?_))));obtain⟨x,C,b⟩:=a_ b;refine Zv (C_ rfl rfl C) (Za rfl (Ze [(0,_),(3,_),(4,_)] (u_ ?_)));have O:=Zj b;subst O;refine Zk [(0,_),(3,_),(4,_)] ?_;intro a ha;exact⟨K16,by omega,i,x,d,g,q,ha,hB,m⟩
  ·replace b:=ZF s b;refine s_ ?_;refine n_ (n_ (N_ ?_));refine p_ ?_;have P:=Zj b;subst P;refine Zk [(3,_)] ?_;intro a ha;exact⟨i,f,d,g,q,ha,hB,m⟩
 ·rintro a k ⟨i,f,d,g,rfl,ha,hB,m⟩;dsimp only at hF;refine ap_k ha ?_;refine Zn (Zm rfl (Za rfl (Ze [(2,_)] (nx (j_ ?_)))));have Q:=Zj hF;subst Q;refine Zr Tryz.results139 [d] ?_;exact⟨_,rt oo g w.heap.size 11 t,rfl,m.rt hB (by decide) t,hB.keeps,am_ _ _ _ _ _⟩
 ·exact λ_ _ h=>h.elim
def aX_(a:Int):Option Bool:=
  some (a !=a)
def fy_(w:World)(r:Bool):Ending->World->Prop:=λe w'=>e=.returned (.bool r)∧Keeps w w'
theorem bP_(w:World)(a:Int)(r:Bool)(hF:aX_ a=some r):
    Calls wQ_ 171 #[.int .i64 a] w (fy_ w r):=by
 unfold aX_ at hF;have hB:Bs (λ_=>1) (col (λ_=>1)) w w:=Bs.start _ _;refine i_ (n:=6) (vs:=[ZI a]) Tryz.func171 rfl rfl ?_;refine Zq (Za rfl (Ze [(0,_)] (Zn (Zm rfl (Zm rfl (Zv (bR_ rfl rfl) (Za rfl (Ze [(2,_)] (nx (j_ ?_))))))))));have b:=Zj hF;subst b;refine Zr Tryz.results171 [.bool (a !=a)] ?_;exact⟨rfl,hB.keeps⟩
def bx_(a:Int)(b:Int):Option Int:=
  (aX_ a)>>=λd=>
  (aX_ b)>>=λc=>
  if d then
    if c then
      some 0
    else
      some (-1)
  else
    if c then
      some 1
    else
      if decide (a<b) then
        some (-1)
      else
        if decide (a>b) then
          some 1
        else
          some 0
def ez_(w:World)(r:Int):Ending->World->Prop:=λe w'=>e=.returned (.int .i64 r)∧Keeps w w'
theorem eA_(w:World)(a:Int)(b:Int)(r:Int)(hF:bx_ a b=some r):
    Calls wQ_ 138 #[.int .i64 a,.int .i64 b] w (ez_ w r):=by
 unfold bx_ at hF;have hB:Bs (λ_=>1) (col (λ_=>1)) w w:=Bs.start _ _;refine i_ (n:=20) (vs:=[ZI a,ZI b]) Tryz.func138 rfl rfl ?_;refine Zq (Za rfl (Ze [(0,_),(1,_)] (Zn (Zm rfl ?_))));obtain⟨k,m,hF⟩:=a_ hF;refine Zo ?_;refine o_ (bP_ w a k m) xw_ ⟨rfl,trivial⟩ ?_;rintro G B ⟨rfl,C⟩;have D:=C.stp 999 (col (λ_=>1));refine⟨_,rfl,?_⟩;replace hB:=hB.stp D;refine Za rfl (Ze [(0,_),(1,_),(5,_)] (Zn (Zm rfl ?_)));obtain⟨j,q,hF⟩:=a_ hF;refine Zo ?_;refine o_ (bP_ B b j q) xw_ ⟨rfl,trivial⟩ ?_;rintro E H ⟨rfl,F⟩;have s:=F.stp 999 (col (λ_=>1));refine⟨_,rfl,?_⟩;replace hB:=hB.stp s;refine Za rfl (Ze [(0,_),(1,_),(5,_),(6,_)] (nx (c_ (Zq (Zm rfl (Ze [(0,_),(1,_),(6,_),(11,_)] (nx ?_)))))));refine l_ rfl (λc=>?_) (λc=>?_)
 ·rw[if_pos c] at hF;refine c_ (Zq (Zm rfl (Ze [(12,_)] (nx ?_))));refine l_ rfl (λd=>?_) (λd=>?_)
  ·rw[if_pos d] at hF;refine Zq (Za rfl (Ze [(4,_)] (nx (j_ (y_ (y_ ?_))))));have u:=Zj hF;subst u;refine Zr xk_ [ZI 0] ?_;exact⟨rfl,hB.keeps⟩
  ·replace hF:=ZF d hF;refine g_ (Zn (Za rfl (Ze [(4,_)] (nx (j_ (y_ ?_))))));have v:=Zj hF;subst v;refine Zr xk_ [ZI (-1)] ?_;exact⟨rfl,hB.keeps⟩
 ·replace hF:=ZF c hF;refine g_ (nx (c_ (Zq (Zm rfl (Ze [(0,_),(1,_),(13,_)] (nx ?_))))));refine l_ rfl (λf=>?_) (λf=>?_)
  ·rw[if_pos f] at hF;refine Zq (Za rfl (Ze [(4,_)] (nx (j_ (y_ ?_)))));have x:=Zj hF;subst x;refine Zr xk_ [ZI 1] ?_;exact⟨rfl,hB.keeps⟩
  ·replace hF:=ZF f hF;refine g_ (nx (c_ (Zq (Zm rfl (Zm rfl (Zv (r_ rfl rfl) (Ze [(0,_),(1,_),(16,_)] (nx ?_))))))));refine l_ rfl (λg=>?_) (λg=>?_)
   ·rw[if_pos g] at hF;refine Zq (Za rfl (Ze [(4,_)] (nx (j_ (y_ ?_)))));have y:=Zj hF;subst y;refine Zr xk_ [ZI (-1)] ?_;exact⟨rfl,hB.keeps⟩
   ·replace hF:=ZF g hF;refine g_ (nx (c_ (Zq (Zm rfl (Zm rfl (Zv (eN_ rfl rfl) (Ze [(19,_)] (nx ?_))))))));refine l_ rfl (λi=>?_) (λi=>?_)
    ·rw[if_pos i] at hF;refine Zq (Za rfl (Ze [(4,_)] (nx (j_ (y_ ?_)))));have z:=Zj hF;subst z;refine Zr xk_ [ZI 1] ?_;exact⟨rfl,hB.keeps⟩
    ·replace hF:=ZF i hF;refine g_ (Zn (Za rfl (Ze [(4,_)] (nx (j_ ?_)))));have A:=Zj hF;subst A;refine Zr xk_ [ZI 0] ?_;exact⟨rfl,hB.keeps⟩
def cM_(a:Int)(b:Int):Option Bool:=
  (aX_ a)>>=λd=>
  (
    if d then
      (aX_ b)>>=λc=>
      if !c then
        some true
      else
        some (decide (a<b))
    else
      some (decide (a<b)))>>=λf=>
  some f
def kO_(w:World)(r:Bool):Ending->World->Prop:=λe w'=>e=.returned (.bool r)∧Keeps w w'
theorem hI_(w:World)(g:Int)(i:Int)(r:Bool)(hF:cM_ g i=some r):
    Calls wQ_ 135 #[.int .i64 g,.int .i64 i] w (kO_ w r):=by
 unfold cM_ at hF;have hB:Bs (λ_=>1) (col (λ_=>1)) w w:=Bs.start _ _;refine i_ (n:=17) (vs:=[ZI g,ZI i]) Tryz.func135 rfl rfl ?_;refine Zq (Za rfl (Ze [(0,_),(1,_)] (Zn (Zm rfl ?_))));obtain⟨z,s,hF⟩:=a_ hF;refine Zo ?_;refine o_ (bP_ w g z s) xw_ ⟨rfl,trivial⟩ ?_;rintro I q ⟨rfl,B⟩;have C:=B.stp 999 (col (λ_=>1));refine⟨_,rfl,?_⟩;replace hB:=hB.stp C;refine Zm rfl ?_;obtain⟨u,d,hF⟩:=a_ hF;refine bc_ 9 (λD A=>Fr D 17 [(16,.bool u)]∧Keeps q A) ?_ ?_;all_goals simp only[List.take_succ_cons,List.take_zero,List.drop_succ_cons,List.drop_zero]
 ·have kp:Keeps q q:=Keeps.refl _;rcases Bool.eq_false_or_eq_true (z) with b|b
  ·rw[if_pos b] at d;refine q_ (h_ rfl) (by decide) ⟨_,rfl,Zb b⟩ ?_;obtain⟨j,k,d⟩:=a_ d;refine cJ_ (by decide) ⟨_,rfl,Zb b⟩ ?_;refine o_ (bP_ q i j k) xw_ ⟨rfl,trivial⟩ ?_;rintro E F ⟨rfl,m⟩;have G:=m.stp 999 (col (λ_=>1));refine⟨_,rfl,?_⟩;replace kp:=Keeps.trans kp m;refine q_ (aI_ rfl) (by decide) ⟨_,rfl,Zb b⟩ (Zv (P_ (Zb b) rfl) (Zm rfl ?_));rcases Bool.eq_false_or_eq_true (!j) with c|c
   ·rw[if_pos c] at d;refine A_ rfl rfl (by rw[c];rfl) (by decide) ?_;refine A_ rfl rfl (by rw[c];rfl) (by decide) ?_;refine A_ rfl rfl (by rw[c];rfl) (by decide) ?_;refine Zv (P_ (Zb c) rfl) ?_;have f:=Zj d;refine Ze [(16,_)] ?_;subst f;refine p_ (λa ha=>⟨ha,kp⟩)
   ·replace d:=ZF c d;refine q_ (h_ rfl) (by decide) ⟨_,rfl,Zb c⟩ (q_ (h_ rfl) (by decide) ⟨_,rfl,Zb c⟩ (q_ (r_ rfl rfl) (by decide) ⟨_,rfl,Zb c⟩ (Zv (I_ (Zb c) rfl) ?_)));have f:=Zj d;refine Ze [(16,_)] ?_;subst f;refine p_ (λa ha=>⟨ha,kp⟩)
  ·replace d:=ZF b d;refine A_ rfl rfl (by rw[b];rfl) (by decide) ?_;refine A_ rfl rfl (by rw[b];rfl) (by decide) ?_;refine A_ rfl rfl (by rw[b];rfl) (by decide) ?_;refine Zv (I_ (Zb b) rfl) (Zm rfl (q_ (h_ rfl) (by decide) ⟨_,rfl,rfl⟩ (q_ (h_ rfl) (by decide) ⟨_,rfl,rfl⟩ (q_ (r_ rfl rfl) (by decide) ⟨_,rfl,rfl⟩ (Zv (I_ rfl rfl) ?_)))));have f:=Zj d;refine Ze [(16,_)] ?_;subst f;refine p_ (λa ha=>⟨ha,kp⟩)
 rintro H A ⟨ha,v⟩;have x:=v.stp 999 (col (λ_=>1));replace hB:=hB.stp x;refine aH_ ha ?_;refine Za rfl (Ze [(4,_)] (nx (j_ ?_)));have y:=Zj hF;subst y;refine Zr Tryz.results135 [.bool u] ?_;exact⟨rfl,hB.keeps⟩
def be_(d:List Int)(f:Int->Option Bool):Int->Unit->Option (Lp Unit Unit Int):=λ(c:Int)(s:Unit)=>
  (ix d c)>>=λa=>
  (f a)>>=λb=>
  if b then
    some (.ret c)
  else
    some (.go ())
def aS_(a:List Int)(b:Int->Option Bool):Option Int:=
  ck (a.length:Int)>>=λ_=>
  (forN (be_ a b) ((a.length:Int)).toNat 0 ())>>=λc=>
  match c with
  | .inl _=>
    some (-1)
  | .inr r'=>some r'
def dE_(w:World)(r:Int):Ending->World->Prop:=λe w'=>e=.returned (.int .i64 r)∧Keeps w w'
theorem fZ_(w:World)(f:Value)(d:Yl)(N:RdL zt w f d)(g:Value)(y:Int->Option Bool)(Q:FnV wQ_ w g y)(r:Int)(hF:aS_ d y=some r):
    Calls wQ_ 172 #[f,g] w (dE_ w r):=by
 unfold aS_ at hF;have hB:Bs (λ_=>1) (col (λ_=>1)) w w:=Bs.start _ _;refine i_ (n:=19) (vs:=[f,g]) Tryz.func172 rfl rfl ?_;refine Zq (Za rfl (Ze [(0,_),(1,_)] (nx (c_ (Zq (Zm rfl (Zv (B_ rfl N wR_) (Zm rfl (Ze [(0,_),(1,_),(7,_),(8,_)] (nx ?_))))))))));obtain⟨Y,R,hF⟩:=a_ hF;obtain⟨-,h5a,h5b⟩:=bV_ R;obtain⟨z,A,hF⟩:=a_ hF;refine v_ (λa m=>∃(j:Tg),z=.inl ()∧Fr a 19 []∧Bs (λ_=>1) j w m) (λa w'=>∃r',z=.inr r'∧bodyPost wQ_ Tryz.f172 (dE_ w r') .ret a w') ?_ ?_ ?_
 ·refine f_ ?_;refine w_ (λ(K:Nat) a m=>∃(b:Int),∃(j:Tg),forN (be_ d y) ((d.length:Int)-b).toNat b ()=some z∧((d.length:Int)-b).toNat=K∧0<=b∧Fr a 19 [(0,f),(1,g),(7,ZI (d.length:Int)),(8,ZI b)]∧Bs (λ_=>1) j w m) _ (λa ha=>⟨0,col (λ_=>1),A,rfl,Int.le_refl 0,ha.sb,hB⟩) ?_;rintro K10 a m ⟨b,j,O,S,Z,ha,hB⟩;by_cases i:b<(d.length:Int)
  ·obtain⟨T,c,q⟩:=bv_ i O;dsimp only[be_] at c;refine J_ ha ?_;refine Zq (Zv (r_ rfl rfl) (Ze [(0,_),(1,_),(7,_),(8,_),(9,_)] (nx (c_ ?_))));refine L_ (Zb (decide_eq_true i)) ?_;refine g_ (nx (c_ (f_ (Zq (Zm rfl (Za rfl (Ze [(0,_),(1,_),(5,_),(7,_),(8,_)] (Zn (Zm rfl (Zm rfl (Zm rfl ?_)))))))))));obtain⟨s,u,c⟩:=a_ c;refine Zo ?_;refine wf_atZ N u hB rfl rfl wR_ wS_ ?_;intro U V W B C;cases C
   refine Zv (e_ rfl wT_ (k_ B)) ?_;obtain⟨D,v,c⟩:=a_ c;refine Zo ?_;refine ge_ (x:=s) (vs:=[ZI s]) (Q.keep hB.keeps) v rfl rfl ⟨rfl,trivial⟩ ?_;intro X E;have F:=E.stp 999 j;replace hB:=hB.stp F;refine Ze [(0,_),(1,_),(5,_),(7,_),(8,_),(16,_)] (nx ?_);refine l_ rfl (λk=>?_) (λk=>?_)
   ·rw[if_pos k] at c;refine Zq (Zm rfl (Za rfl (Ze [(4,_)] (nx (j_ (W_ (y_ (y_ (W_ ?_)))))))));refine bg_ ?_;have G:=Zj c;subst G;refine λa ha=>⟨_,q,?_⟩;refine D_ (P:=wQ_) (vs:=[ZI b]) yO_ ⟨rfl,trivial⟩ ?_ a ha;exact⟨rfl,hB.keeps⟩
   ·replace c:=ZF k c;refine g_ (x_ (nx (d_ (Zv (C_ rfl rfl (F_ (by omega) (by omega))) (Zm rfl (Ze [(0,_),(1,_),(7,_),(8,_)] (u_ ?_)))))));have H:=Zj c;subst H;refine Zk [(0,_),(1,_),(7,_),(8,_)] ?_;intro a ha;exact⟨_,(by rw[<-S];omega),b+1,j,q,rfl,by omega,ha,hB⟩
  ·have I:=bu_ i O;refine J_ ha ?_;refine Zq (Zv (r_ rfl rfl) (Ze [(0,_),(1,_),(7,_),(8,_),(9,_)] (nx (c_ ?_))));refine G_ (Zb (decide_eq_false i)) ?_;refine s_ ?_;refine n_ (n_ (N_ ?_));refine p_ ?_;refine Zk [] ?_;intro a ha;exact⟨j,I,ha,hB⟩
 ·rintro a m ⟨j,rfl,ha,hB⟩;dsimp only at hF;refine ap_k ha ?_;refine Zn (Za rfl (Ze [(4,_)] (nx (j_ ?_))));have J:=Zj hF;subst J;refine Zr yO_ [ZI (-1)] ?_;exact⟨rfl,hB.keeps⟩
 ·rintro a m ⟨r',rfl,L⟩;dsimp only at hF;have M:=Zj hF;subst M;exact L
def aD_(a:List Int)(b:Int->Option Bool):Option Bool:=
  (aS_ a b)>>=λc=>
  some (decide (c>=0))
def fp_(w:World)(r:Bool):Ending->World->Prop:=λe w'=>e=.returned (.bool r)∧Keeps w w'
theorem ff_(w:World)(a:Value)(c:Yl)(i:RdL zt w a c)(b:Value)(d:Int->Option Bool)(j:FnV wQ_ w b d)(r:Bool)(hF:aD_ c d=some r):
    Calls wQ_ 136 #[a,b] w (fp_ w r):=by
 unfold aD_ at hF;have hB:Bs (λ_=>1) (col (λ_=>1)) w w:=Bs.start _ _;refine i_ (n:=9) (vs:=[a,b]) Tryz.func136 rfl rfl ?_;refine Zq (Za rfl (Ze [(0,_),(1,_)] (Zn (Zm rfl (Zm rfl ?_)))));obtain⟨f,g,hF⟩:=a_ hF;refine Zo ?_;refine o_ (fZ_ w _ c (i.keep hB.keeps) _ d (j.keep hB.keeps) f g) Tryz.call172 ⟨rfl,rfl,trivial⟩ ?_;rintro s u ⟨rfl,k⟩;have m:=k.stp 999 (col (λ_=>1));refine⟨_,rfl,?_⟩;replace hB:=hB.stp m;refine Zv (lF_ rfl rfl) (Za rfl (Ze [(4,_)] (nx (j_ ?_))));have q:=Zj hF;subst q;refine Zr Tryz.results136 [.bool (decide (f>=0))] ?_;exact⟨rfl,hB.keeps⟩
def dn_(a:Int)(b:Int)(c:Int):Option Bool:=
  (dT_ a b c)>>=λd=>
  some (!d)
def lN_(w:World)(r:Bool):Ending->World->Prop:=λe w'=>e=.returned (.bool r)∧Keeps w w'
theorem lJ_(w:World)(a:Int)(b:Nat)(j:List Value)(d:Int)(s:Cells w b 0 j)(k:Rp.rd zt w j d)(c:Nat)(m:List Value)(f:Int)(u:Cells w c 0 m)(q:Rp.rd zt w m f)(r:Bool)(hF:dn_ a d f=some r):
    Calls wQ_ 137 #[.int .i64 a,.pointer (some ⟨b,0,none⟩),.pointer (some ⟨c,0,none⟩)] w (lN_ w r):=by
 unfold dn_ at hF;have g1k:=k;cases k
 have g2k:=q;cases q
 have hB:Bs (λ_=>1) (col (λ_=>1)) w w:=Bs.start _ _;refine i_ (n:=10) (vs:=[ZI a,ZP b,ZP c]) Tryz.func137 rfl rfl ?_;refine Zq (Za rfl (Ze [(0,_),(1,_),(2,_)] (Zn (Zm rfl (Zv (e_ rfl wT_ (k_ (s.keep hB.keeps))) (Zv (e_ rfl wT_ (k_ (u.keep hB.keeps))) ?_))))));obtain⟨g,i,hF⟩:=a_ hF;refine Zo ?_;refine o_ (gy_ w a d f g i) Tryz.call62 ⟨rfl,rfl,rfl,trivial⟩ ?_;rintro z A ⟨rfl,v⟩;have x:=v.stp 999 (col (λ_=>1));refine⟨_,rfl,?_⟩;replace hB:=hB.stp x;refine Zv (aI_ rfl) (Za rfl (Ze [(4,_)] (nx (j_ ?_))));have y:=Zj hF;subst y;refine Zr Tryz.results137 [.bool (!g)] ?_;exact⟨rfl,hB.keeps⟩
def fm_(c:List Int)(d:Int)(f:Int):Option Bool:=
  (aD_ c (λa=>dn_ a d f))>>=λb=>
  some (!b)
def pb_(w:World)(r:Bool):Ending->World->Prop:=λe w'=>e=.returned (.bool r)∧Keeps w w'
theorem nL_(w:World)(g:Value)(m:Yl)(y:RdL zt w g m)(a:Int)(b:Int)(r:Bool)(hF:fm_ m a b=some r):
    Calls wQ_ 94 #[g,.int .i64 a,.int .i64 b] w (pb_ w r):=by
 unfold fm_ at hF;have hB:Bs (λ_=>1) (col (λ_=>1)) w w:=Bs.start _ _;refine i_ (n:=11) (vs:=[g,ZI a,ZI b]) Tryz.func94 rfl rfl ?_;refine Zq (Zo ?_);refine as_ (o:=(col (λ_=>1))) w.heap.size 11 hB.keeps.size (cs:=[ZI a]) rfl rfl ?_;intro z F i q A;replace hB:=hB.stp A;refine Zo ?_;refine as_ (o:=z) w.heap.size 12 hB.keeps.size (cs:=[ZI b]) rfl rfl ?_;intro B j k C s;obtain⟨q,hB⟩:=ZS s (A2 q hB);refine Za rfl (Ze [(0,_),(4,_),(5,_)] (Zn (Zm rfl (Zv (gU_ (vs:=[ZP i,ZP k]) ⟨rfl,rfl,trivial⟩) ?_))));obtain⟨c,f,hF⟩:=a_ hF;refine Zo ?_;refine o_ (ff_ j _ m (y.keep hB.keeps) _ (λd=>dn_ d a b) (show FnV wQ_ j (.func (.func 137) #[] #[ZP i,ZP k]) (λd=>dn_ d a b) from ⟨_,_,rfl,Tryz.call137,λww vs xx rr kk hok hG=>by(cases hok;exact lJ_ ww xx i _ a ((q.cells).keep kk) (Rp.keep ((show Rp.rd zt j [ZI a] (a:Int) from rfl)) kk) k _ b ((C.cells).keep kk) (Rp.keep ((show Rp.rd zt j [ZI b] (b:Int) from rfl)) kk) rr hG)⟩) c f) Tryz.call136 ⟨rfl,rfl,trivial⟩ ?_;rintro D E ⟨rfl,u⟩;have v:=u.stp 999 B;refine⟨_,rfl,?_⟩;replace hB:=hB.stp v;refine Zv (aI_ rfl) (Za rfl (Ze [(6,_)] (nx (j_ ?_))));have x:=Zj hF;subst x;refine Zr Tryz.results94 [.bool (!c)] ?_;exact⟨rfl,hB.keeps⟩
def aw_(d:List Int):Int->Int->Unit->Option (Lp Unit Unit Int):=λ(f:Int)(b:Int)(s:Unit)=>
  if decide (f>=(d.length:Int)) then
    some (.ret 1)
  else
    (ix d f)>>=λc=>
    (bx_ b c)>>=λa=>
    if a !=0 then
      some (.ret a)
    else
      some (.go ())
def Q_(a:List Int)(b:List Int):Option Int:=
  (forI (aw_ b) a 0 ())>>=λc=>
  match c with
  | .inl _=>
    if decide ((a.length:Int)<(b.length:Int)) then
      some (-1)
    else
      some 0
  | .inr r'=>some r'
def bm_(w:World)(r:Int):Ending->World->Prop:=λe w'=>e=.returned (.int .i64 r)∧Keeps w w'
theorem cX_slices_Compare_int_int(w:World)(b:Value)(f:Yl)(D:RdL zt w b f)(g:Value)(y:Yl)(E:RdL zt w g y)(r:Int)(hF:Q_ f y=some r):
    Calls wQ_ 95 #[b,g] w (bm_ w r):=by
 unfold Q_ at hF;have hB:Bs (λ_=>1) (col (λ_=>1)) w w:=Bs.start _ _;refine i_ (n:=36) (vs:=[b,g]) Tryz.func95 rfl rfl ?_;refine Zq (Za rfl (Ze [(0,_),(1,_)] (nx (c_ (Zq (Zm rfl (Zv (B_ rfl D wR_) (Zm rfl (Ze [(0,_),(1,_),(9,_),(10,_),(11,_)] (nx ?_))))))))));obtain⟨F,G,hF⟩:=a_ hF;refine v_ (λa q=>∃(m:Tg),F=.inl ()∧Fr a 36 [(0,b),(1,g)]∧Bs (λ_=>1) m w q) (λa w'=>∃r',F=.inr r'∧bodyPost wQ_ Tryz.f95 (bm_ w r') .ret a w') ?_ ?_ ?_
 ·refine f_ ?_;refine w_ (λ(K:Nat) a q=>∃(d:Int),∃(m:Tg),forI (aw_ y) (f.drop d.toNat) d ()=some F∧(f.drop d.toNat).length=K∧0<=d∧Fr a 36 [(0,b),(1,g),(9,b),(10,ZI (f.length:Int)),(11,ZI d)]∧Bs (λ_=>1) m w q) _ (λa ha=>⟨0,col (λ_=>1),G,rfl,Int.le_refl 0,ha.sb,hB⟩) ?_;rintro K8 a q ⟨d,m,X,Y,Z,ha,hB⟩;by_cases j:d<(f.length:Int)
  ·obtain⟨k,a8,z,c,s⟩:=R_ Z j X;have hle:=D.len_le;dsimp only[aw_] at c;refine J_ ha ?_;refine Zq (Zv (r_ rfl rfl) (Ze [(0,_),(1,_),(9,_),(10,_),(11,_),(12,_)] (nx (c_ ?_))));refine L_ (Zb (decide_eq_true j)) ?_;refine g_ (nx (c_ (f_ (Zq (Zm rfl (Zo ?_))))));refine wf_atZ D z hB rfl rfl wR_ wS_ ?_;intro a0 a1 a2 H I;cases I
   refine Zv (e_ rfl wT_ (k_ H)) (Za rfl (Za rfl (Ze [(0,_),(1,_),(5,_),(6,_),(9,_),(10,_),(11,_)] (nx (c_ (Zq (Zm rfl (Zm rfl (Zv (B_ rfl E wR_) (Zv (lF_ rfl rfl) (Ze [(0,_),(1,_),(5,_),(6,_),(9,_),(10,_),(11,_),(19,_)] (nx ?_))))))))))));refine l_ rfl (λu=>?_) (λu=>?_)
   ·rw[if_pos u] at c;refine Zq (Za rfl (Ze [(4,_)] (nx (j_ (y_ (W_ (y_ (y_ (W_ ?_)))))))));refine bg_ ?_;have J:=Zj c;subst J;refine λa ha=>⟨_,s,?_⟩;refine D_ (P:=wQ_) (vs:=[ZI 1]) xp_ ⟨rfl,trivial⟩ ?_ a ha;exact⟨rfl,hB.keeps⟩
   ·replace c:=ZF u c;refine g_ (Zn (Zm rfl (Zm rfl ?_)));obtain⟨A,B,c⟩:=a_ c;refine Zo ?_;refine wf_atZ E B hB rfl rfl wR_ wS_ ?_;intro a3 a4 a5 L M;cases M
    refine Zv (e_ rfl wT_ (k_ L)) (Za rfl (Ze [(0,_),(1,_),(6,_),(7,_),(9,_),(10,_),(11,_)] (Zn (Zm rfl (Zm rfl ?_)))));obtain⟨i,C,c⟩:=a_ c;refine Zo ?_;refine o_ (eA_ q k A i C) Tryz.call138 ⟨rfl,rfl,trivial⟩ ?_;rintro a6 a7 ⟨rfl,N⟩;have O:=N.stp 999 m;refine⟨_,rfl,?_⟩;replace hB:=hB.stp O;refine Za rfl (Ze [(0,_),(1,_),(8,_),(9,_),(10,_),(11,_)] (Zn (Zm rfl (Zv (bR_ rfl rfl) (Ze [(0,_),(1,_),(8,_),(9,_),(10,_),(11,_),(28,_)] (nx ?_))))));refine l_ rfl (λv=>?_) (λv=>?_)
    ·rw[if_pos v] at c;refine Zq (Zm rfl (Za rfl (Ze [(4,_)] (nx (j_ (W_ (y_ (y_ (W_ ?_)))))))));refine bg_ ?_;have Q:=Zj c;subst Q;refine λa ha=>⟨_,s,?_⟩;refine D_ (P:=wQ_) (vs:=[ZI i]) xp_ ⟨rfl,trivial⟩ ?_ a ha;exact⟨rfl,hB.keeps⟩
    ·replace c:=ZF v c;refine g_ (x_ (nx (d_ (Zv (C_ rfl rfl (F_ (by omega) (by omega))) (Zm rfl (Ze [(0,_),(1,_),(9,_),(10,_),(11,_)] (u_ ?_)))))));have R:=Zj c;subst R;refine Zk [(0,_),(1,_),(9,_),(10,_),(11,_)] ?_;intro a ha;exact⟨_,(by rw[<-Y];simp only[List.length_drop];omega),d+1,m,s,rfl,by omega,ha,hB⟩
  ·have S:=S_ j X;refine J_ ha ?_;refine Zq (Zv (r_ rfl rfl) (Ze [(0,_),(1,_),(9,_),(10,_),(11,_),(12,_)] (nx (c_ ?_))));refine G_ (Zb (decide_eq_false j)) ?_;refine s_ ?_;refine n_ (n_ (N_ ?_));refine p_ ?_;refine Zk [(0,_),(1,_)] ?_;intro a ha;exact⟨m,S,ha,hB⟩
 ·rintro a q ⟨m,rfl,ha,hB⟩;dsimp only at hF;refine ap_k ha ?_;refine nx (c_ (Zq (Zm rfl (Zv (B_ rfl D wR_) (Zm rfl (Zv (B_ rfl E wR_) (Zv (r_ rfl rfl) (Ze [(35,_)] (nx ?_)))))))));refine l_ rfl (λx=>?_) (λx=>?_)
  ·rw[if_pos x] at hF;refine Zq (Za rfl (Ze [(4,_)] (nx (j_ (y_ ?_)))));have T:=Zj hF;subst T;refine Zr xp_ [ZI (-1)] ?_;exact⟨rfl,hB.keeps⟩
  ·replace hF:=ZF x hF;refine g_ (Zn (Za rfl (Ze [(4,_)] (nx (j_ ?_)))));have U:=Zj hF;subst U;refine Zr xp_ [ZI 0] ?_;exact⟨rfl,hB.keeps⟩
 ·rintro a q ⟨r',rfl,V⟩;dsimp only at hF;have W:=Zj hF;subst W;exact V
def Y_(g:List Int):Int->Option (Lp Int Int Bool):=λ(s:Int)=>
  if decide (s>0) then
    (ix g s)>>=λa=>
    (ck (s-1))>>=λb=>
    (ix g b)>>=λc=>
    (cM_ a c)>>=λd=>
    if d then
      some (.ret false)
    else
      (ck (s-1))>>=λf=>
      some (.go f)
  else
    some (.out s)
def bd_(fuel:Nat)(a:List Int):Option Bool:=
  (ck ((a.length:Int)-1))>>=λb=>
  (loopF (Y_ a) fuel b)>>=λc=>
  match c with
  | .inl d=>
    some true
  | .inr r'=>some r'
def dS_(w:World)(r:Bool):Ending->World->Prop:=λe w'=>e=.returned (.bool r)∧Keeps w w'
theorem gc_(fuel:Nat)(w:World)(d:Value)(x:Yl)(y:RdL zt w d x)(r:Bool)(hF:bd_ fuel x=some r):
    Calls wQ_ 93 #[d] w (dS_ w r):=by
 unfold bd_ at hF;have hB:Bs (λ_=>1) (col (λ_=>1)) w w:=Bs.start _ _;refine i_ (n:=21) (vs:=[d]) Tryz.func93 rfl rfl ?_;refine Zq (Za rfl (Ze [(0,_)] (nx (c_ (Zq (Zm rfl (Zv (B_ rfl y wR_) ?_)))))));obtain⟨H,I,hF⟩:=a_ hF;refine Zv (bs_ rfl rfl I) (Za rfl (Ze [(0,_),(3,_)] (nx ?_)));obtain⟨J,L,hF⟩:=a_ hF;refine v_ (λa s=>∃(f:Int),∃(u:Tg),J=.inl f∧Fr a 21 []∧Bs (λ_=>1) u w s) (λa w'=>∃r',J=.inr r'∧bodyPost wQ_ Tryz.f93 (dS_ w r') .ret a w') ?_ ?_ ?_
 ·refine f_ ?_;refine w_ (λ(K:Nat) a s=>∃(f:Int),∃(u:Tg),loopF (Y_ x) K f=some J∧Fr a 21 [(0,d),(3,ZI f)]∧Bs (λ_=>1) u w s) fuel (λa ha=>⟨H,col (λ_=>1),L,ha.sb,hB⟩) ?_;rintro K9 a s ⟨f,u,a4,ha,hB⟩;obtain⟨K13,a5,a6,b,j⟩:=X_ a4;dsimp only[Y_] at b;refine J_ ha ?_;refine c_ (Zq (Zm rfl (Zv (eN_ rfl rfl) (Ze [(0,_),(3,_),(8,_)] (nx ?_)))));refine l_ rfl (λk=>?_) (λk=>?_)
  ·rw[if_pos k] at b;refine g_ (nx (c_ (f_ (c_ ?_))));obtain⟨z,g,b⟩:=a_ b;obtain⟨A,B,b⟩:=a_ b;obtain⟨C,i,b⟩:=a_ b;refine ZW (Bf:=λa7 a8=>Bs (λ_=>1) a7 w a8) [(0,_),(3,_)] (Zrg 11 9) [[],[],[0,1],[2],[],[],[5],[4,6],[7]] (Zcn 9) (Zt9 9) (Zt0 9) [999] [.inl d,.inl (ZI f),.inr (λv o a9=>∃vl,v=adr vl (f.toNat*Rp.sz Int)∧RdL zt w vl x),.inl (ZI z),.inl d,.inl (ZI f),.inl (ZI A),.inr (λv o a9=>∃vl,v=adr vl (A.toNat*Rp.sz Int)∧RdL zt w vl x),.inl (ZI C)] hB ⟨λ_ _ _ _ _ _ b0 hb ⟨vl,e,h⟩ hs=>⟨vl,e,h⟩,λ_ _ _ _ _ _ b0 hb ⟨vl,e,h⟩ hs=>⟨vl,e,h⟩,trivial⟩ ?_ ?_
   ·refine⟨Dp (h_ rfl),Dp (h_ rfl),?_,?_,Dp (h_ rfl),Dp (h_ rfl),Dp (bs_ rfl rfl B),?_,?_,trivial⟩
    ·rintro b1 b2 b3 ha- -;refine Zs ha ?_;refine ae_ y g rfl rfl wR_ wS_ ?_;exact⟨_,Stp.refl _ _ _,⟨_,rfl,y⟩⟩
    ·rintro b4 b5 b6 ha hB ⟨M,-⟩;obtain⟨b7,N,O⟩:=M;have ha:=ha.c N;refine Zs ha ?_;refine bB_ O g hB rfl rfl wT_ ?_;intro b8 Q;cases Q
     exact Zx rfl
    ·rintro b9 c0 c1 ha- -;refine Zs ha ?_;refine ae_ y i rfl rfl wR_ wS_ ?_;exact⟨_,Stp.refl _ _ _,⟨_,rfl,y⟩⟩
    ·rintro c2 c3 c4 ha hB ⟨R,-⟩;obtain⟨c5,S,T⟩:=R;have ha:=ha.c S;refine Zs ha ?_;refine bB_ T i hB rfl rfl wT_ ?_;intro c6 U;cases U
     exact Zx rfl
   rintro _ rfl D V c7 ha hB-;refine aH_ ha ?_;obtain⟨E,F,b⟩:=a_ b;refine Zo ?_;refine o_ (hI_ V z C E F) Tryz.call135 ⟨rfl,rfl,trivial⟩ ?_;rintro c8 c9 ⟨rfl,W⟩;have X:=W.stp 999 D;refine⟨_,rfl,?_⟩;replace hB:=hB.stp X;refine Ze [(0,_),(3,_),(20,_)] (nx ?_);refine l_ rfl (λm=>?_) (λm=>?_)
   ·rw[if_pos m] at b;refine Zq (Za rfl (Ze [(2,_)] (nx (j_ (W_ (y_ (y_ (W_ ?_))))))));refine bg_ ?_;have Y:=Zj b;subst Y;refine λa ha=>⟨_,j,?_⟩;refine D_ (P:=wQ_) (vs:=[.bool false]) yS_ ⟨rfl,trivial⟩ ?_ a ha;exact⟨rfl,hB.keeps⟩
   ·replace b:=ZF m b;refine g_ (x_ (nx (d_ (Zm rfl ?_))));obtain⟨q,G,b⟩:=a_ b;refine Zv (bs_ rfl rfl G) (Za rfl (Ze [(0,_),(3,_)] (u_ ?_)));have Z:=Zj b;subst Z;refine Zk [(0,_),(3,_)] ?_;intro a ha;exact⟨K13,by omega,q,D,j,ha,hB⟩
  ·replace b:=ZF k b;refine s_ ?_;refine n_ (n_ (N_ ?_));refine p_ ?_;have a0:=Zj b;subst a0;refine Zk [] ?_;intro a ha;exact⟨f,u,j,ha,hB⟩
 ·rintro a s ⟨f,u,rfl,ha,hB⟩;dsimp only at hF;refine ap_k ha ?_;refine Zn (Za rfl (Ze [(2,_)] (nx (j_ ?_))));have a1:=Zj hF;subst a1;refine Zr yS_ [.bool true] ?_;exact⟨rfl,hB.keeps⟩
 ·rintro a s ⟨r',rfl,a2⟩;dsimp only at hF;have a3:=Zj hF;subst a3;exact a2
end
end Go.Proofs.YtdbbeldgdgonfaaGreat
