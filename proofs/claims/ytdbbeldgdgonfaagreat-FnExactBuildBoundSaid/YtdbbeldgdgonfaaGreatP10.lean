/- Part 10 of what this claim rests on (pack.py). -/
import Derived.Test.YtdbbeldgdgonfaaGreatP09
namespace Go.Proofs.YtdbbeldgdgonfaaGreat
open Tryz renaming prog→wQ_, underlying41→wR_, sizeOf3→wS_, zeroValue3→xd_, underlying28→wW_, isAgg3→wT_, call123→xP_, isAgg28→wX_, sizeOf28→wU_, underlying22→wV_, sizeOf41→wY_, zeroValue41→xe_, isAgg41→xa_, call66→xl_, call121→xN_, results183→ye_, call183→zj_, zeroValue28→xf_, results113→yf_, sizeOf22→wZ_, isAgg22→xb_, call160→zl_, call155→zm_, results75→zo_
set_option linter.unusedSimpArgs false
set_option linter.unusedVariables false
section
set_option maxRecDepth 100000
set_option maxHeartbeats 2000000
open Go.RowKit
theorem dB_:Inf wQ_ 3 (.int .i64 0) 1 8:=by unfold Inf;kernel_rfl
theorem dZ_:Inf wQ_ 41 (.slice none 0 0) 1 24:=by unfold Inf;kernel_rfl
theorem ay_:(wQ_.info? 28).map (·.size)=some 4:=by kernel_rfl
def ht_(a:Int)(b:Int):Option Bool:=
  (shr a b)>>=λc=>
  (rem c 2)>>=λd=>
  some (d==1)
def uy_(w:World)(r:Bool):Ending->World->Prop:=λe w'=>e=.returned (.bool r)∧Keeps w w'
theorem je_(w:World)(a:Int)(b:Int)(r:Bool)(hF:ht_ a b=some r):
    Calls wQ_ 163 #[.int .i64 a,.int .i64 b] w (uy_ w r):=by
 unfold ht_ at hF;have hB:Bs (λ_=>1) (col (λ_=>1)) w w:=Bs.start _ _;refine i_ (n:=10) (vs:=[ZI a,ZI b]) Tryz.func163 rfl rfl ?_;refine Zq (Za rfl (Ze [(0,_),(1,_)] (Zn (Zm rfl (Zm rfl ?_)))));obtain⟨i,c,hF⟩:=a_ hF;refine Zv (qS_ rfl rfl c) ?_;obtain⟨f,d,hF⟩:=a_ hF;refine Zv (qK_ rfl rfl d) (Zv (cD_ rfl rfl) (Za rfl (Ze [(4,_)] (nx (j_ ?_)))));have g:=Zj hF;subst g;refine Zr Tryz.results163 [.bool (f==1)] ?_;exact⟨rfl,hB.keeps⟩
def dm_(f:Int):((List Int)×Int)->Option (Lp ((List Int)×Int) ((List Int)×Int) (List Int)):=λ(s:(List Int)×Int)=>
  if decide (s.2<8) then
    (ht_ f s.2)>>=λa=>
    if a then
      (push s.1 s.2)>>=λb=>
      (ck (s.2+1))>>=λc=>
      some (.go (b,c))
    else
      (ck (s.2+1))>>=λd=>
      some (.go (s.1,d))
  else
    some (.out (s.1,s.2))
def cF_(fuel:Nat)(a:Int):Option (List Int):=
  (loopF (dm_ a) fuel ([],0))>>=λb=>
  match b with
  | .inl (c,d)=>
    some c
  | .inr _=>none
def qk_(oo:Tg)(t:Nat)(w:World)(r:Yl):Ending->World->Prop:=λe w'=>∃(a:Value)(o':Tg),e=.returned (a)∧Ow w.heap.size 3 t o' w' a r∧Keeps w w'∧∀b,b<w.heap.size->o' b=oo b
theorem gS_(fuel:Nat)(w:World)(oo:Tg)(t:Nat)(ht:2<=t)(c:Int)(r:Yl)(hF:cF_ fuel c=some r):
    Calls wQ_ 123 #[.int .i64 c] w (qk_ oo t w r):=by
 unfold cF_ at hF;have hB:Bs oo (col oo) w w:=Bs.start _ _;refine i_ (n:=17) (vs:=[ZI c]) Tryz.func123 rfl rfl ?_;generalize col oo=o at*;refine Zq (Za rfl (Ze [(0,_)] (Zn (Za rfl (Ze [(0,_),(3,_)] (nx (c_ (Zq (Za rfl (Ze [(0,_),(3,_),(4,_)] (nx ?_)))))))))));have S:Oz w 3 11 o w (.slice none 0 0) ([]:Yl):=Ow.nil _ _ _ _ _;obtain⟨R,D,hF⟩:=a_ hF;refine v_ (λa m=>∃(i:Yl),∃(f:Int),∃d g,R=.inl (i,f)∧Fr a 17 [(3,d)]∧Bs oo g w m∧Oz w 3 11 g m d i) (λ_ _=>False) ?_ ?_ ?_
 ·refine f_ ?_;refine w_ (λ(K:Nat) a m=>∃(i:Yl),∃(f:Int),∃d g,loopF (dm_ c) K (i,f)=some R∧Fr a 17 [(0,ZI c),(3,d),(4,ZI f)]∧Bs oo g w m∧Oz w 3 11 g m d i) fuel (λa ha=>⟨[],0,.slice none 0 0,o,D,ha.sb,hB,S⟩) ?_;rintro K12 a m ⟨i,f,d,g,T,ha,hB,j⟩;obtain⟨K16,U,V,b,q⟩:=X_ T;dsimp only[dm_] at b;refine J_ ha ?_;refine c_ (Zq (Zm rfl (Zv (r_ rfl rfl) (Ze [(0,_),(3,_),(4,_),(6,_)] (nx ?_)))));refine l_ rfl (λs=>?_) (λs=>?_)
  ·rw[if_pos s] at b;refine g_ (nx (c_ (f_ (Zq (Zm rfl (Zm rfl ?_))))));obtain⟨y,z,b⟩:=a_ b;refine Zo ?_;refine o_ (je_ m c f y z) Tryz.call163 ⟨rfl,rfl,trivial⟩ ?_;rintro W X ⟨rfl,E⟩;have F:=E.stp 999 g;refine⟨_,rfl,?_⟩;obtain⟨j,hB⟩:=ZS F (A2 j hB);refine Ze [(0,_),(3,_),(4,_),(11,_)] (nx ?_);refine l_ rfl (λu=>?_) (λu=>?_)
   ·rw[if_pos u] at b;refine d_ (Zm rfl (Zm rfl (Zo ?_)));refine au_ (o:=g) (cs:=[ZI f]) (xs:=([f]:Yl)) (vs:=[(0,ZI f)]) ⟨_,_,rfl,rfl,rfl⟩ rfl ⟨rfl,rfl,trivial⟩ wR_ wS_ xd_ (by decide) (fill1 rfl) (by simp) ?_;intro Y Z a0 G H a1;obtain⟨j,hB⟩:=ZS H (A2 j hB);obtain⟨I,A,b⟩:=a_ b;refine Zo ?_;refine aT_ j G (ai_ A) (by decide) hB.keeps.size rfl rfl wR_ dB_ rfl (by decide) ?_;intro J a2 k L M;replace hB:=hB.stp M;refine Za rfl (Ze [(0,_),(3,_),(4,_)] (x_ (nx (d_ (Zm rfl ?_)))));obtain⟨v,B,b⟩:=a_ b;refine Zv (C_ rfl rfl B) (Za rfl (Ze [(0,_),(3,_),(4,_)] (u_ ?_)));have N:=Zj b;subst N;refine Zk [(0,_),(3,_),(4,_)] ?_;intro a ha;exact⟨K16,by omega,I,v,k,J,q,ha,hB,L⟩
   ·replace b:=ZF u b;refine g_ (x_ (nx (d_ (Zm rfl ?_))));obtain⟨x,C,b⟩:=a_ b;refine Zv (C_ rfl rfl C) (Za rfl (Ze [(0,_),(3,_),(4,_)] (u_ ?_)));have O:=Zj b;subst O;refine Zk [(0,_),(3,_),(4,_)] ?_;intro a ha;exact⟨K16,by omega,i,x,d,g,q,ha,hB,j⟩
  ·replace b:=ZF s b;refine s_ ?_;refine n_ (n_ (N_ ?_));refine p_ ?_;have P:=Zj b;subst P;refine Zk [(3,_)] ?_;intro a ha;exact⟨i,f,d,g,q,ha,hB,j⟩
 ·rintro a m ⟨i,f,d,g,rfl,ha,hB,j⟩;dsimp only at hF;refine ap_k ha ?_;refine Zn (Zm rfl (Za rfl (Ze [(2,_)] (nx (j_ ?_)))));have Q:=Zj hF;subst Q;refine Zr Tryz.results123 [d] ?_;exact⟨_,rt oo g w.heap.size 11 t,rfl,j.rt hB (by decide) t,hB.keeps,am_ _ _ _ _ _⟩
 ·exact λ_ _ h=>h.elim
def eh_(f:b_)(a:Int):Int->Int->Bool->Option (Lp Bool Bool Int):=λ(g:Int)(b:Int)(s:Bool)=>
  (
    if s then
      (gF_ f b a)>>=λc=>
      some c
    else
      some false)>>=λd=>
  some (.go d)
def ek_(fuel:Nat)(j:b_)(k:Int):(Int×Int)->Option (Lp (Int×Int) (Int×Int) Int):=λ(s:Int×Int)=>
  if decide (s.2<j.Labels) then
    (cF_ fuel k)>>=λa=>
    (forI (eh_ j s.2) a 0 true)>>=λb=>
    match b with
    | .inl c=>
      if c then
        (shl 1 s.2)>>=λd=>
        (ck (s.1+d))>>=λf=>
        (ck (s.2+1))>>=λg=>
        some (.go (f,g))
      else
        (ck (s.2+1))>>=λi=>
        some (.go (s.1,i))
    | .inr _=>none
  else
    some (.out (s.1,s.2))
def gN_(fuel:Nat)(c:b_)(d:Int):Option Int:=
  (loopF (ek_ fuel c d) fuel (0,0))>>=λa=>
  match a with
  | .inl (b,f)=>
    some b
  | .inr _=>none
def sQ_(w:World)(r:Int):Ending->World->Prop:=λe w'=>e=.returned (.int .i64 r)∧Keeps w w'
theorem oE_(fuel:Nat)(w:World)(c4:List Value)(z:b_)(c5:Rp.rd zt w c4 z)(j:Int)(r:Int)(hF:gN_ fuel z j=some r):
    Calls wQ_ 155 #[.agg c4.toArray,.int .i64 j] w (sQ_ w r):=by
 unfold gN_ at hF;obtain⟨N,O,rfl,c6,c7⟩:=c5;have hB:Bs (λ_=>1) (col (λ_=>1)) w w:=Bs.start _ _;refine i_ (n:=37) (vs:=[.agg #[ZI z.Labels,ZI z.Degree,N,O],ZI j]) Tryz.func155 rfl rfl ?_;refine Zq (Zo ?_);refine as_ (o:=(col (λ_=>1))) w.heap.size 11 hB.keeps.size (cs:=[ZI z.Labels,ZI z.Degree,N,O]) rfl rfl ?_;intro c8 e3 k A c9;replace hB:=hB.stp c9;refine Za rfl (Ze [(1,_),(2,_)] (Zn (Za rfl (Ze [(1,_),(2,_),(5,_)] (nx (c_ (Zq (Za rfl (Ze [(1,_),(2,_),(5,_),(6,_)] (nx ?_))))))))));obtain⟨P,Q,hF⟩:=a_ hF;refine v_ (λa B=>∃(b:Int)(c:Int),∃(y:Tg),P=.inl (b,c)∧Fr a 37 [(5,ZI b)]∧Bs (λ_=>1) y w B) (λ_ _=>False) ?_ ?_ ?_
 ·refine f_ ?_;refine w_ (λ(K:Nat) a B=>∃(b:Int)(c:Int),∃(y:Tg),loopF (ek_ fuel z j) K (b,c)=some P∧Fr a 37 [(1,ZI j),(2,ZP k),(5,ZI b),(6,ZI c)]∧Bs (λ_=>1) y w B∧Bz w 11 y B k 28 [ZI z.Labels,ZI z.Degree,N,O]) fuel (λa ha=>⟨0,0,c8,Q,ha.sb,hB,A⟩) ?_;rintro K18 a B ⟨b,c,y,a5,ha,hB,A⟩;obtain⟨K22,d0,d1,d,H⟩:=X_ a5;dsimp only[ek_] at d;refine J_ ha ?_;refine c_ (Zq (Zm rfl (Zv (m_ rfl wW_ rfl wS_) (Zv (e_ rfl wT_ (A.cell rfl)) (Zv (r_ rfl rfl) (Ze [(1,_),(2,_),(5,_),(6,_),(13,_)] (nx ?_)))))));refine l_ rfl (λI=>?_) (λI=>?_)
  ·rw[if_pos I] at d;refine g_ (nx (c_ (f_ (Zq (Za rfl (Ze [(1,_),(2,_),(5,_),(6,_),(7,_)] (nx (c_ (Zq (Zm rfl ?_))))))))));obtain⟨f,R,d⟩:=a_ d;refine Zo ?_;refine o_ (gS_ fuel B y 12 (by decide) j f R) xP_ ⟨rfl,trivial⟩ ?_;rintro d2 d3 ⟨q,a6,rfl,v,a7,a8⟩;have a9:=a7.stp' 12 a8;replace v:=v.mono hB.keeps.size;refine⟨_,rfl,?_⟩;obtain⟨A,hB⟩:=ZS a9 (A2 A hB);refine Zv (bC_ rfl v wR_) (Zm rfl (Ze [(1,_),(2,_),(5,_),(6,_),(7,_),(17,_),(18,_),(19,_)] (nx ?_)));obtain⟨S,T,d⟩:=a_ d;refine v_ (λa u=>∃(i:Bool),∃(m:Tg),S=.inl i∧Fr a 37 [(1,ZI j),(2,ZP k),(5,ZI b),(6,ZI c),(7,.bool i)]∧Bs (λ_=>1) m w u∧Bz w 11 m u k 28 [ZI z.Labels,ZI z.Degree,N,O]) (λ_ _=>False) ?_ ?_ ?_
   ·refine f_ ?_;refine w_ (λ(K:Nat) a u=>∃(g:Int)(i:Bool),∃(m:Tg),forI (eh_ z c) (f.drop g.toNat) g i=some S∧(f.drop g.toNat).length=K∧0<=g∧Fr a 37 [(1,ZI j),(2,ZP k),(5,ZI b),(6,ZI c),(7,.bool i),(17,q),(18,ZI (f.length:Int)),(19,ZI g)]∧Bs (λ_=>1) m w u∧Oz w 3 12 m u q f∧Bz w 11 m u k 28 [ZI z.Labels,ZI z.Degree,N,O]) _ (λa ha=>⟨0,true,a6,T,rfl,Int.le_refl 0,ha.sb,hB,v,A⟩) ?_;rintro K42 a u ⟨g,i,m,U,b0,b1,ha,hB,v,A⟩;by_cases E:g<(f.length:Int)
    ·obtain⟨V,d4,W,F,b2⟩:=R_ b1 E U;have hle:=v.len_le;dsimp only[eh_] at F;refine J_ ha ?_;refine Zq (Zv (r_ rfl rfl) (Ze [(1,_),(2,_),(5,_),(6,_),(7,_),(17,_),(18,_),(19,_),(20,_)] (nx (c_ ?_))));refine L_ (Zb (decide_eq_true E)) ?_;refine g_ (nx (c_ (f_ (Zq (Zo ?_)))));refine gE_ v W rfl rfl wR_ wS_ ?_;intro d5 d6 d7 b3 b4;cases b4
     refine Zv (e_ rfl wT_ (k_ b3)) (Za rfl (Ze [(1,_),(2,_),(5,_),(6,_),(7,_),(9,_),(17,_),(18,_),(19,_)] (nx (d_ (Zm rfl (Zm rfl ?_))))));obtain⟨D,x,F⟩:=a_ F;refine bc_ 5 (λb5 X=>Fr b5 37 [(1,ZI j),(2,ZP k),(5,ZI b),(6,ZI c),(7,.bool i),(17,q),(18,ZI (f.length:Int)),(19,ZI g),(29,.bool D)]∧Keeps u X) ?_ ?_;all_goals simp only[List.take_succ_cons,List.take_zero,List.drop_succ_cons,List.drop_zero]
     ·have kp:Keeps u u:=Keeps.refl _;rcases Bool.eq_false_or_eq_true (i) with s|s
      ·rw[if_pos s] at x;refine q_ (E_ rfl wX_ wU_ rfl A.cells) (by decide) ⟨_,rfl,Zb s⟩ (q_ (h_ rfl) (by decide) ⟨_,rfl,Zb s⟩ (q_ (h_ rfl) (by decide) ⟨_,rfl,Zb s⟩ ?_));obtain⟨Y,Z,x⟩:=a_ x;refine cJ_ (by decide) ⟨_,rfl,Zb s⟩ ?_;refine o_ (oQ_ u _ z (⟨_,_,rfl,c6.keep hB.keeps,c7.keep hB.keeps⟩) V c Y Z) Tryz.call124 ⟨rfl,rfl,rfl,trivial⟩ ?_;rintro d8 d9 ⟨rfl,a0⟩;have e0:=a0.stp 999 m;refine⟨_,rfl,?_⟩;replace kp:=Keeps.trans kp a0;refine Zv (P_ (Zb s) rfl) ?_;have C:=Zj x;refine Ze [(1,_),(2,_),(5,_),(6,_),(7,_),(17,_),(18,_),(19,_),(29,_)] ?_;subst C;refine p_ (λa ha=>⟨ha,kp⟩)
      ·replace x:=ZF s x;refine A_ rfl rfl (by rw[s];rfl) (by decide) ?_;refine A_ rfl rfl (by rw[s];rfl) (by decide) ?_;refine A_ rfl rfl (by rw[s];rfl) (by decide) ?_;refine A_ rfl rfl (by rw[s];rfl) (by decide) ?_;refine Zv (I_ (Zb s) rfl) ?_;have C:=Zj x;refine Ze [(1,_),(2,_),(5,_),(6,_),(7,_),(17,_),(18,_),(19,_),(29,_)] ?_;subst C;refine p_ (λa ha=>⟨ha,kp⟩)
     rintro e1 X ⟨ha,b6⟩;have b7:=b6.stp 999 m;obtain⟨v,A,hB⟩:=ZS b7 (A3 v A hB);refine aH_ ha ?_;refine Za rfl (Ze [(1,ZI j),(2,ZP k),(5,ZI b),(6,ZI c),(7,.bool D),(17,q),(18,ZI (f.length:Int)),(19,ZI g)] (x_ (nx (d_ (Zv (C_ rfl rfl (F_ (by omega) (by omega))) (Zm rfl (Ze [(1,_),(2,_),(5,_),(6,_),(7,_),(17,_),(18,_),(19,_)] (u_ ?_))))))));have b8:=Zj F;subst b8;refine Zk [(1,_),(2,_),(5,_),(6,_),(7,_),(17,_),(18,_),(19,_)] ?_;intro a ha;exact⟨_,(by rw[<-b0];simp only[List.length_drop];omega),g+1,D,m,b2,rfl,by omega,ha,hB,v,A⟩
    ·have b9:=S_ E U;refine J_ ha ?_;refine Zq (Zv (r_ rfl rfl) (Ze [(1,_),(2,_),(5,_),(6,_),(7,_),(17,_),(18,_),(19,_),(20,_)] (nx (c_ ?_))));refine G_ (Zb (decide_eq_false E)) ?_;refine s_ ?_;refine n_ (n_ (N_ ?_));refine p_ ?_;refine Zk [(1,_),(2,_),(5,_),(6,_),(7,_)] ?_;intro a ha;exact⟨i,m,b9,ha,hB,A⟩
   ·rintro a u ⟨i,m,rfl,ha,hB,A⟩;dsimp only at d;refine ap_k ha ?_;refine Zn (Zm rfl (Ze [(1,_),(2,_),(5,_),(6,_),(31,_)] (nx ?_)));refine l_ rfl (λJ=>?_) (λJ=>?_)
    ·rw[if_pos J] at d;refine d_ (Zm rfl (Zm rfl ?_));obtain⟨e2,a1,d⟩:=a_ d;refine Zv (gL_ rfl rfl a1) ?_;obtain⟨G,a2,d⟩:=a_ d;refine Zv (C_ rfl rfl a2) (Za rfl (Ze [(1,_),(2,_),(5,_),(6,_)] (x_ (nx (d_ (Zm rfl ?_))))));obtain⟨L,a3,d⟩:=a_ d;refine Zv (C_ rfl rfl a3) (Za rfl (Ze [(1,_),(2,_),(5,_),(6,_)] (u_ ?_)));have c0:=Zj d;subst c0;refine Zk [(1,_),(2,_),(5,_),(6,_)] ?_;intro a ha;exact⟨K22,by omega,G,L,m,H,ha,hB,A⟩
    ·replace d:=ZF J d;refine g_ (x_ (nx (d_ (Zm rfl ?_))));obtain⟨M,a4,d⟩:=a_ d;refine Zv (C_ rfl rfl a4) (Za rfl (Ze [(1,_),(2,_),(5,_),(6,_)] (u_ ?_)));have c1:=Zj d;subst c1;refine Zk [(1,_),(2,_),(5,_),(6,_)] ?_;intro a ha;exact⟨K22,by omega,b,M,m,H,ha,hB,A⟩
   ·exact λ_ _ h=>h.elim
  ·replace d:=ZF I d;refine s_ ?_;refine n_ (n_ (N_ ?_));refine p_ ?_;have c2:=Zj d;subst c2;refine Zk [(5,_)] ?_;intro a ha;exact⟨b,c,y,H,ha,hB⟩
 ·rintro a B ⟨b,c,y,rfl,ha,hB⟩;dsimp only at hF;refine ap_k ha ?_;refine Zn (Zm rfl (Za rfl (Ze [(4,_)] (nx (j_ ?_)))));have c3:=Zj hF;subst c3;refine Zr Tryz.results155 [ZI b] ?_;exact⟨rfl,hB.keeps⟩
 ·exact λ_ _ h=>h.elim
def cK_(g:Int)(c:List Int):((List (List Int))×Int)->Option (Lp ((List (List Int))×Int) ((List (List Int))×Int) (List (List Int))):=λ(s:(List (List Int))×Int)=>
  if decide (s.2<g) then
    (dd_ c)>>=λd=>
    (push d s.2)>>=λf=>
    (push s.1 f)>>=λa=>
    (ck (s.2+1))>>=λb=>
    some (.go (a,b))
  else
    some (.out (s.1,s.2))
def eF_(g:Int)(f:List Int):((List (List Int))×Int)->Option (Lp ((List (List Int))×Int) ((List (List Int))×Int) (List (List Int))):=λ(s:(List (List Int))×Int)=>
  if decide (s.2<g) then
    (dd_ f)>>=λa=>
    (push a s.2)>>=λb=>
    (push s.1 b)>>=λc=>
    (ck (s.2+1))>>=λd=>
    some (.go (c,d))
  else
    some (.out (s.1,s.2))
def dH_(fuel:Nat)(k:Int)(b:Int):Int->(List Int)->(List (List Int))->Option (Lp (List (List Int)) (List (List Int)) (List (List Int))):=λ(n:Int)(a:List Int)(s:List (List Int))=>
  if decide (b>0) then
    (ck (b-1))>>=λf=>
    (ix a f)>>=λg=>
    (loopF (cK_ k a) fuel (s,g))>>=λi=>
    match i with
    | .inl (j,q)=>
      some (.go j)
    | .inr _=>none
  else
    (loopF (eF_ k a) fuel (s,0))>>=λc=>
    match c with
    | .inl (d,m)=>
      some (.go d)
    | .inr _=>none
def cO_(fuel:Nat)(d:Int)(f:Int):((List (List Int))×Int)->Option (Lp ((List (List Int))×Int) ((List (List Int))×Int) (List (List Int))):=λ(s:(List (List Int))×Int)=>
  if decide (s.2<f) then
    (forI (dH_ fuel d s.2) s.1 0 [])>>=λb=>
    match b with
    | .inl c=>
      (ck (s.2+1))>>=λa=>
      some (.go (c,a))
    | .inr _=>none
  else
    some (.out (s.1,s.2))
def en_(fuel:Nat)(b:Int)(c:Int):Option (List (List Int)):=
  (loopF (cO_ fuel b c) fuel (([[]]:List (List Int)),0))>>=λa=>
  match a with
  | .inl (d,f)=>
    some d
  | .inr _=>none
def oN_(oo:Tg)(t:Nat)(w:World)(r:Yk):Ending->World->Prop:=λe w'=>∃(a:Value)(o':Tg),e=.returned (a)∧RdL o' w' a r∧Keeps w w'∧∀b,b<w.heap.size->o' b=oo b
theorem jT_(fuel:Nat)(w:World)(oo:Tg)(t:Nat)(ht:2<=t)(g:Int)(q:Int)(r:Yk)(hF:en_ fuel g q=some r):
    Calls wQ_ 110 #[.int .i64 g,.int .i64 q] w (oN_ oo t w r):=by
 unfold en_ at hF;have hB:Bs oo (col oo) w w:=Bs.start _ _;refine i_ (n:=48) (vs:=[ZI g,ZI q]) Tryz.func110 rfl rfl ?_;generalize col oo=o at*;refine Zq (Za rfl (Ze [(0,_),(1,_)] (Zn (Zo ?_))));refine hu_ w.heap.size 11 hB.keeps.size (o:=o) (cs:=[.slice none 0 0]) (xs:=([[]]:Yk)) (vs:=[(0,.slice none 0 0)]) ⟨_,_,rfl,iH_ (RdL.nil _ _),rfl⟩ rfl ⟨rfl,rfl,trivial⟩ wV_ wY_ xe_ (by decide) (fill1 rfl) (by simp) ?_;intro n0 p4 i9 j0 n1;replace hB:=hB.stp n1;refine Za rfl (Ze [(0,_),(1,_),(5,_)] (nx (c_ (Zq (Za rfl (Ze [(0,_),(1,_),(5,_),(6,_)] (nx ?_)))))));have p5:=j0.frzF;replace j0:=j0.frz;replace hB:=hB.frz 11 (by decide);generalize (frz 11 n0)=n2 at*;obtain⟨d6,d7,hF⟩:=a_ hF;refine v_ (λa V=>∃(k:Yk),∃(b:Int),∃m O,d6=.inl (k,b)∧Fr a 48 [(5,m)]∧Bs oo O w V∧RdL O V m k) (λ_ _=>False) ?_ ?_ ?_
 ·refine f_ ?_;refine w_ (λ(K:Nat) a V=>∃(k:Yk),∃(b:Int),∃m O,loopF (cO_ fuel g q) K (k,b)=some d6∧Fr a 48 [(0,ZI g),(1,ZI q),(5,m),(6,ZI b)]∧Bs oo O w V∧RdL O V m k) fuel (λa ha=>⟨([[]]:Yk),0,i9,n2,d7,ha.sb,hB,j0⟩) ?_;rintro K18 a V ⟨k,b,m,O,j1,ha,hB,c⟩;obtain⟨K22,n3,n4,R,d8⟩:=X_ j1;dsimp only[cO_] at R;refine J_ ha ?_;refine c_ (Zq (Zm rfl (Zm rfl (Zv (r_ rfl rfl) (Ze [(0,_),(1,_),(5,_),(6,_),(15,_)] (nx ?_))))));refine l_ rfl (λc5=>?_) (λc5=>?_)
  ·rw[if_pos c5] at R;refine g_ (nx (c_ (f_ (Zq (Za rfl (Ze [(0,_),(1,_),(5,_),(6,_),(7,_)] (nx (c_ (Zq (Zm rfl (Zv (B_ rfl c wV_) (Zm rfl ?_))))))))))));refine Ze [(0,_),(1,_),(6,_),(7,_),(18,_),(19,_),(20,_)] (nx ?_);have j2:Oz w 41 12 O V (.slice none 0 0) ([]:List Hv):=Ow.nil _ _ _ _ _;have j3:Rq w 3 13 O V [] ([]:Yk):=Rws.nil _ _ _ _ _;obtain⟨d9,e0,R⟩:=a_ R;refine v_ (λa S=>∃Q i T C,d9=.inl Q∧Fr a 48 [(0,ZI g),(1,ZI q),(6,ZI b),(7,i)]∧Bs oo C w S∧Oz w 41 12 C S i T∧Rq w 3 13 C S T Q) (λ_ _=>False) ?_ ?_ ?_
   ·refine f_ ?_;refine w_ (λ(K:Nat) a S=>∃(d:Int),∃Q i T C,forI (dH_ fuel g b) (k.drop d.toNat) d Q=some d9∧(k.drop d.toNat).length=K∧0<=d∧Fr a 48 [(0,ZI g),(1,ZI q),(6,ZI b),(7,i),(18,m),(19,ZI (k.length:Int)),(20,ZI d)]∧Bs oo C w S∧Oz w 41 12 C S i T∧Rq w 3 13 C S T Q∧RdL C S m k) _ (λa ha=>⟨0,[],.slice none 0 0,[],O,e0,rfl,Int.le_refl 0,ha.sb,hB,j2,j3,c⟩) ?_;rintro K39 a S ⟨d,Q,i,T,C,e1,e2,j4,ha,hB,a5,a6,c⟩;by_cases b5:d<(k.length:Int)
    ·obtain⟨a4,n5,e3,F,e4⟩:=R_ j4 b5 e1;have hle:=c.len_le;dsimp only[dH_] at F;refine J_ ha ?_;refine Zq (Zv (r_ rfl rfl) (Ze [(0,_),(1,_),(6,_),(7,_),(18,_),(19,_),(20,_),(21,_)] (nx (c_ ?_))));refine L_ (Zb (decide_eq_true b5)) ?_;refine g_ (nx (c_ (f_ (Zq (Zo ?_)))));refine fo_ c e3 rfl rfl wV_ wY_ ?_;intro n6 n7 n8 j5 j6;obtain⟨u,rfl,f⟩:=j6;refine Zv (e_ rfl xa_ (k_ j5)) (Za rfl (Ze [(0,_),(1,_),(6,_),(7,_),(9,_),(18,_),(19,_),(20,_)] (Zn (Za rfl (Ze [(0,_),(1,_),(6,_),(7,_),(9,_),(10,_),(18,_),(19,_),(20,_)] (nx (c_ (Zq (Zm rfl (Zv (eN_ rfl rfl) (Ze [(0,_),(1,_),(6,_),(7,_),(9,_),(10,_),(18,_),(19,_),(20,_),(25,_)] (nx ?_))))))))))));refine l_ rfl (λc6=>?_) (λc6=>?_)
     ·rw[if_pos c6] at F;refine d_ (Zm rfl (Zm rfl ?_));obtain⟨n9,e5,F⟩:=a_ F;refine Zv (bs_ rfl rfl e5) ?_;obtain⟨b6,e6,F⟩:=a_ F;refine Zo ?_;refine fo_ f e6 rfl rfl wR_ wS_ ?_;intro o0 o1 o2 j7 j8;cases j8
      refine Zv (e_ rfl wT_ (k_ j7)) (Za rfl (Ze [(0,_),(1,_),(6,_),(7,_),(9,_),(10,_),(18,_),(19,_),(20,_)] (Zn (Zm rfl (Za rfl (Ze [(0,_),(1,_),(6,_),(7,_),(9,_),(11,_),(18,_),(19,_),(20,_)] (nx ?_)))))));obtain⟨e7,e8,F⟩:=a_ F;refine v_ (λa I=>∃(W:Yk),∃(J:Int),∃L U G,e7=.inl (W,J)∧Fr a 48 [(0,ZI g),(1,ZI q),(6,ZI b),(7,L),(18,m),(19,ZI (k.length:Int)),(20,ZI d)]∧Bs oo G w I∧Oz w 41 12 G I L U∧Rq w 3 13 G I U W∧RdL G I m k) (λ_ _=>False) ?_ ?_ ?_
      ·refine f_ ?_;refine w_ (λ(K:Nat) a I=>∃(W:Yk),∃(J:Int),∃L U G,loopF (cK_ g a4) K (W,J)=some e7∧Fr a 48 [(0,ZI g),(1,ZI q),(6,ZI b),(7,L),(9,u),(11,ZI J),(18,m),(19,ZI (k.length:Int)),(20,ZI d)]∧Bs oo G w I∧Oz w 41 12 G I L U∧Rq w 3 13 G I U W∧RdL G I u a4∧RdL G I m k) fuel (λa ha=>⟨Q,b6,i,T,C,e8,ha.sb,hB,a5,a6,f,c⟩) ?_;rintro K72 a I ⟨W,J,L,U,G,j9,ha,hB,P,D,f,c⟩;obtain⟨K76,o3,o4,M,e9⟩:=X_ j9;dsimp only[cK_] at M;refine J_ ha ?_;refine c_ (Zq (Zm rfl (Zm rfl (Zv (r_ rfl rfl) (Ze [(0,_),(1,_),(6,_),(7,_),(9,_),(11,_),(18,_),(19,_),(20,_),(34,_)] (nx ?_))))));refine l_ rfl (λc7=>?_) (λc7=>?_)
       ·rw[if_pos c7] at M;refine g_ (nx (c_ (f_ (d_ (Zm rfl (Zm rfl ?_))))));obtain⟨k0,f0,M⟩:=a_ M;refine Zo ?_;refine o_ (eB_ I G 14 (by decide) _ a4 f.z k0 f0) xl_ ⟨rfl,trivial⟩ ?_;rintro o5 o6 ⟨o7,k1,rfl,a7,k2,k3⟩;have k4:=k2.stp' 14 k3;replace a7:=a7.mono hB.keeps.size;refine⟨_,rfl,?_⟩;obtain⟨P,D,f,c,hB⟩:=ZS k4 (A5 P D f c hB);refine Zm rfl (Zo ?_);refine au_ (o:=k1) (cs:=[ZI J]) (xs:=([J]:Yl)) (vs:=[(0,ZI J)]) ⟨_,_,rfl,rfl,rfl⟩ rfl ⟨rfl,rfl,trivial⟩ wR_ wS_ xd_ (by decide) (fill1 rfl) (by simp) ?_;intro o8 o9 p0 k5 k6 p1;obtain⟨P,D,f,c,a7,hB⟩:=ZS k6 (A6 P D f c a7 hB);obtain⟨p2,f1,M⟩:=a_ M;refine Zo ?_;refine aT_ a7 k5 (ai_ f1) (by decide) hB.keeps.size rfl rfl wR_ dB_ rfl (by decide) ?_;intro k7 p3 a8 X k8;obtain⟨P,D,f,c,hB⟩:=ZS k8 (A5 P D f c hB);refine Zo ?_;refine au_ (o:=k7) (cs:=[a8]) (xs:=([⟨a8⟩]:List Hv)) (vs:=[(0,a8)]) ⟨_,_,rfl,iG_ X,rfl⟩ rfl ⟨rfl,rfl,trivial⟩ wV_ wY_ xe_ (by decide) (fill1 X.cells1) (by simp) ?_;intro k9 l0 l1 f2 f3 l2;obtain⟨P,D,f,c,X,hB⟩:=ZS f3 (A6 P D f c X hB);obtain⟨f4,c8,M⟩:=a_ M;obtain⟨f5,f6⟩:=D.pushV c8 a8;refine Zo ?_;refine aT_ P f2 (ai_ f5) (by decide) hB.keeps.size rfl rfl wV_ dZ_ rfl (by decide) ?_;intro b7 l3 a0 a9 f7;obtain⟨D,f,c,X,hB⟩:=ZS f7 (A5 D f c X hB);have b8:=D.push X (by decide) (by decide);rw[<-f6] at b8;clear D X;have a1:=eO_ 14 13 b7;replace f:=f.rc a1 (by decide);replace c:=c.rc a1 (by decide);replace a9:=a9.rc a1 (by decide) (by decide);replace hB:=hB.rc a1 (by decide);generalize mrg 14 13 b7=f8 at*;refine Za rfl (Ze [(0,_),(1,_),(6,_),(7,_),(9,_),(11,_),(18,_),(19,_),(20,_)] (x_ (nx (d_ (Zm rfl ?_)))));obtain⟨b0,c9,M⟩:=a_ M;refine Zv (C_ rfl rfl c9) (Za rfl (Ze [(0,_),(1,_),(6,_),(7,_),(9,_),(11,_),(18,_),(19,_),(20,_)] (u_ ?_)));have f9:=Zj M;subst f9;refine Zk [(0,_),(1,_),(6,_),(7,_),(9,_),(11,_),(18,_),(19,_),(20,_)] ?_;intro a ha;exact⟨K76,by omega,f4,b0,a0,U++[⟨a8⟩],f8,e9,ha,hB,a9,b8,f,c⟩
       ·replace M:=ZF c7 M;refine s_ ?_;refine n_ (n_ (N_ ?_));refine p_ ?_;have g0:=Zj M;subst g0;refine Zk [(0,_),(1,_),(6,_),(7,_),(18,_),(19,_),(20,_)] ?_;intro a ha;exact⟨W,J,L,U,G,e9,ha,hB,P,D,c⟩
      ·rintro a I ⟨W,J,L,U,G,rfl,ha,hB,P,D,c⟩;dsimp only at F;refine ap_k ha ?_;refine x_ (nx (d_ (Zv (C_ rfl rfl (F_ (by omega) (by omega))) (Zm rfl (Ze [(0,_),(1,_),(6,_),(7,_),(18,_),(19,_),(20,_)] (u_ ?_))))));have g1:=Zj F;subst g1;refine Zk [(0,_),(1,_),(6,_),(7,_),(18,_),(19,_),(20,_)] ?_;intro a ha;exact⟨_,(by rw[<-e2];simp only[List.length_drop];omega),d+1,W,L,U,G,e4,rfl,by omega,ha,hB,P,D,c⟩
      ·exact λ_ _ h=>h.elim
     ·replace F:=ZF c6 F;refine g_ (Zn (Zm rfl (Za rfl (Ze [(0,_),(1,_),(6,_),(7,_),(9,_),(11,_),(18,_),(19,_),(20,_)] (nx ?_)))));obtain⟨b9,d0,F⟩:=a_ F;refine v_ (λa v=>∃(H:Yk),∃(x:Int),∃y E s,b9=.inl (H,x)∧Fr a 48 [(0,ZI g),(1,ZI q),(6,ZI b),(7,y),(18,m),(19,ZI (k.length:Int)),(20,ZI d)]∧Bs oo s w v∧Oz w 41 12 s v y E∧Rq w 3 13 s v E H∧RdL s v m k) (λ_ _=>False) ?_ ?_ ?_
      ·refine f_ ?_;refine w_ (λ(K:Nat) a v=>∃(H:Yk),∃(x:Int),∃y E s,loopF (eF_ g a4) K (H,x)=some b9∧Fr a 48 [(0,ZI g),(1,ZI q),(6,ZI b),(7,y),(9,u),(11,ZI x),(18,m),(19,ZI (k.length:Int)),(20,ZI d)]∧Bs oo s w v∧Oz w 41 12 s v y E∧Rq w 3 13 s v E H∧RdL s v u a4∧RdL s v m k) fuel (λa ha=>⟨Q,0,i,T,C,d0,ha.sb,hB,a5,a6,f,c⟩) ?_;rintro K133 a v ⟨H,x,y,E,s,g2,ha,hB,B,j,f,c⟩;obtain⟨K137,l4,l5,A,c0⟩:=X_ g2;dsimp only[eF_] at A;refine J_ ha ?_;refine c_ (Zq (Zm rfl (Zm rfl (Zv (r_ rfl rfl) (Ze [(0,_),(1,_),(6,_),(7,_),(9,_),(11,_),(18,_),(19,_),(20,_),(34,_)] (nx ?_))))));refine l_ rfl (λb1=>?_) (λb1=>?_)
       ·rw[if_pos b1] at A;refine g_ (nx (c_ (f_ (d_ (Zm rfl (Zm rfl ?_))))));obtain⟨g3,d1,A⟩:=a_ A;refine Zo ?_;refine o_ (eB_ v s 15 (by decide) _ a4 f.z g3 d1) xl_ ⟨rfl,trivial⟩ ?_;rintro l6 l7 ⟨l8,g4,rfl,Y,g5,g6⟩;have g7:=g5.stp' 15 g6;replace Y:=Y.mono hB.keeps.size;refine⟨_,rfl,?_⟩;obtain⟨B,j,f,c,hB⟩:=ZS g7 (A5 B j f c hB);refine Zm rfl (Zo ?_);refine au_ (o:=g4) (cs:=[ZI x]) (xs:=([x]:Yl)) (vs:=[(0,ZI x)]) ⟨_,_,rfl,rfl,rfl⟩ rfl ⟨rfl,rfl,trivial⟩ wR_ wS_ xd_ (by decide) (fill1 rfl) (by simp) ?_;intro l9 m0 m1 g8 g9 m2;obtain⟨B,j,f,c,Y,hB⟩:=ZS g9 (A6 B j f c Y hB);obtain⟨m3,d2,A⟩:=a_ A;refine Zo ?_;refine aT_ Y g8 (ai_ d2) (by decide) hB.keeps.size rfl rfl wR_ dB_ rfl (by decide) ?_;intro h0 m4 Z N h1;obtain⟨B,j,f,c,hB⟩:=ZS h1 (A5 B j f c hB);refine Zo ?_;refine au_ (o:=h0) (cs:=[Z]) (xs:=([⟨Z⟩]:List Hv)) (vs:=[(0,Z)]) ⟨_,_,rfl,iG_ N,rfl⟩ rfl ⟨rfl,rfl,trivial⟩ wV_ wY_ xe_ (by decide) (fill1 N.cells1) (by simp) ?_;intro m5 m6 m7 h2 h3 m8;obtain⟨B,j,f,c,N,hB⟩:=ZS h3 (A6 B j f c N hB);obtain⟨h4,d3,A⟩:=a_ A;obtain⟨h5,h6⟩:=j.pushV d3 Z;refine Zo ?_;refine aT_ B h2 (ai_ h5) (by decide) hB.keeps.size rfl rfl wV_ dZ_ rfl (by decide) ?_;intro c1 m9 a2 b2 h7;obtain⟨j,f,c,N,hB⟩:=ZS h7 (A5 j f c N hB);have c2:=j.push N (by decide) (by decide);rw[<-h6] at c2;clear j N;have a3:=eO_ 15 13 c1;replace f:=f.rc a3 (by decide);replace c:=c.rc a3 (by decide);replace b2:=b2.rc a3 (by decide) (by decide);replace hB:=hB.rc a3 (by decide);generalize mrg 15 13 c1=h8 at*;refine Za rfl (Ze [(0,_),(1,_),(6,_),(7,_),(9,_),(11,_),(18,_),(19,_),(20,_)] (x_ (nx (d_ (Zm rfl ?_)))));obtain⟨b3,d4,A⟩:=a_ A;refine Zv (C_ rfl rfl d4) (Za rfl (Ze [(0,_),(1,_),(6,_),(7,_),(9,_),(11,_),(18,_),(19,_),(20,_)] (u_ ?_)));have h9:=Zj A;subst h9;refine Zk [(0,_),(1,_),(6,_),(7,_),(9,_),(11,_),(18,_),(19,_),(20,_)] ?_;intro a ha;exact⟨K137,by omega,h4,b3,a2,E++[⟨Z⟩],h8,c0,ha,hB,b2,c2,f,c⟩
       ·replace A:=ZF b1 A;refine s_ ?_;refine n_ (n_ (N_ ?_));refine p_ ?_;have i0:=Zj A;subst i0;refine Zk [(0,_),(1,_),(6,_),(7,_),(18,_),(19,_),(20,_)] ?_;intro a ha;exact⟨H,x,y,E,s,c0,ha,hB,B,j,c⟩
      ·rintro a v ⟨H,x,y,E,s,rfl,ha,hB,B,j,c⟩;dsimp only at F;refine ap_k ha ?_;refine x_ (nx (d_ (Zv (C_ rfl rfl (F_ (by omega) (by omega))) (Zm rfl (Ze [(0,_),(1,_),(6,_),(7,_),(18,_),(19,_),(20,_)] (u_ ?_))))));have i1:=Zj F;subst i1;refine Zk [(0,_),(1,_),(6,_),(7,_),(18,_),(19,_),(20,_)] ?_;intro a ha;exact⟨_,(by rw[<-e2];simp only[List.length_drop];omega),d+1,H,y,E,s,e4,rfl,by omega,ha,hB,B,j,c⟩
      ·exact λ_ _ h=>h.elim
    ·have i2:=S_ b5 e1;refine J_ ha ?_;refine Zq (Zv (r_ rfl rfl) (Ze [(0,_),(1,_),(6,_),(7,_),(18,_),(19,_),(20,_),(21,_)] (nx (c_ ?_))));refine G_ (Zb (decide_eq_false b5)) ?_;refine s_ ?_;refine n_ (n_ (N_ ?_));refine p_ ?_;refine Zk [(0,_),(1,_),(6,_),(7,_)] ?_;intro a ha;exact⟨Q,i,T,C,i2,ha,hB,a5,a6⟩
   ·rintro a S ⟨Q,i,T,C,rfl,ha,hB,a5,a6⟩;dsimp only at R;refine ap_k ha ?_;refine nx (d_ (Zm rfl (Za rfl (Ze [(0,_),(1,_),(5,_),(6,_)] (x_ (nx (d_ (Zm rfl ?_))))))));obtain⟨b4,d5,R⟩:=a_ R;refine Zv (C_ rfl rfl d5) (Za rfl (Ze [(0,_),(1,_),(5,_),(6,_)] (u_ ?_)));have i3:=Zj R;subst i3;have i4:=Dz.of a5 a6 (by decide) (by decide) (by decide);have c3:=eM_ 12 C;have c4:=eM_ 13 (frz 12 C);replace hB:=(hB.rc c3 (by decide)).rc c4 (by decide);clear c3 c4;generalize frz 13 (frz 12 C)=i5 at*;have i6:=i4.rd;refine Zk [(0,_),(1,_),(5,_),(6,_)] ?_;intro a ha;exact⟨K22,by omega,Q,b4,i,i5,d8,ha,hB,i6⟩
   ·exact λ_ _ h=>h.elim
  ·replace R:=ZF c5 R;refine s_ ?_;refine n_ (n_ (N_ ?_));refine p_ ?_;have i7:=Zj R;subst i7;refine Zk [(5,_)] ?_;intro a ha;exact⟨k,b,m,O,d8,ha,hB,c⟩
 ·rintro a V ⟨k,b,m,O,rfl,ha,hB,c⟩;dsimp only at hF;refine ap_k ha ?_;refine Zn (Zm rfl (Za rfl (Ze [(4,_)] (nx (j_ ?_)))));have i8:=Zj hF;subst i8;refine Zr Tryz.results110 [m] ?_;exact⟨_,rt oo O w.heap.size 9 t,rfl,c.rt hB 9 t (by decide),hB.keeps,am_ _ _ _ _ _⟩
 ·exact λ_ _ h=>h.elim
def aO_(a:Int):Int->Int->(List Int)->Option (Lp (List Int) (List Int) (List Int)):=λ(b:Int)(c:Int)(s:List Int)=>
  if a==c then
    (push s b)>>=λd=>
    some (.go d)
  else
    some (.go s)
def dJ_(d:List Int):Int->Int->(List Int)->Option (Lp (List Int) (List Int) (List Int)):=λ(f:Int)(a:Int)(s:List Int)=>
  (forI (aO_ a) d 0 s)>>=λb=>
  match b with
  | .inl c=>
    some (.go c)
  | .inr _=>none
def fq_(fuel:Nat)(b:List Int)(c:List Int):Option (List Int):=
  (forI (dJ_ b) c 0 [])>>=λd=>
  match d with
  | .inl f=>
    (dC_ fuel f)>>=λa=>
    some a
  | .inr _=>none
def pt_(oo:Tg)(t:Nat)(w:World)(r:Yl):Ending->World->Prop:=λe w'=>∃(a:Value)(o':Tg),e=.returned (a)∧Ow w.heap.size 3 t o' w' a r∧Keeps w w'∧∀b,b<w.heap.size->o' b=oo b
theorem nX_(fuel:Nat)(w:World)(oo:Tg)(t:Nat)(ht:2<=t)(c:Value)(q:Yl)(V:RdL zt w c q)(j:Value)(g:Yl)(W:RdL zt w j g)(r:Yl)(hF:fq_ fuel q g=some r):
    Calls wQ_ 159 #[c,j] w (pt_ oo t w r):=by
 unfold fq_ at hF;have hB:Bs oo (col oo) w w:=Bs.start _ _;refine i_ (n:=34) (vs:=[c,j]) Tryz.func159 rfl rfl ?_;generalize col oo=o at*;refine Zq (Za rfl (Ze [(0,_),(1,_)] (Zn (Za rfl (Ze [(0,_),(1,_),(5,_)] (nx (c_ (Zq (Zm rfl (Zv (B_ rfl W wR_) (Zm rfl (Ze [(0,_),(5,_),(10,_),(11,_),(12,_)] ?_))))))))))));refine nx ?_;have c5:Oz w 3 11 o w (.slice none 0 0) ([]:Yl):=Ow.nil _ _ _ _ _;obtain⟨c3,X,hF⟩:=a_ hF;refine v_ (λa F=>∃A s B,c3=.inl A∧Fr a 34 [(5,s)]∧Bs oo B w F∧Oz w 3 11 B F s A) (λ_ _=>False) ?_ ?_ ?_
 ·refine f_ ?_;refine w_ (λ(K:Nat) a F=>∃(i:Int),∃A s B,forI (dJ_ q) (g.drop i.toNat) i A=some c3∧(g.drop i.toNat).length=K∧0<=i∧Fr a 34 [(0,c),(5,s),(10,j),(11,ZI (g.length:Int)),(12,ZI i)]∧Bs oo B w F∧Oz w 3 11 B F s A) _ (λa ha=>⟨0,[],.slice none 0 0,o,X,rfl,Int.le_refl 0,ha.sb,hB,c5⟩) ?_;rintro K12 a F ⟨i,A,s,B,c4,Y,Z,ha,hB,U⟩;by_cases C:i<(g.length:Int)
  ·obtain⟨f,c6,I,y,a0⟩:=R_ Z C c4;have hle:=W.len_le;dsimp only[dJ_] at y;refine J_ ha ?_;refine Zq (Zv (r_ rfl rfl) (Ze [(0,_),(5,_),(10,_),(11,_),(12,_),(13,_)] (nx (c_ ?_))));refine L_ (Zb (decide_eq_true C)) ?_;refine g_ (nx (c_ (f_ (Zq (Zo ?_)))));refine wf_atZ W I hB rfl rfl wR_ wS_ ?_;intro c7 c8 c9 a1 a2;cases a2
   refine Zv (e_ rfl wT_ (k_ a1)) (Za rfl (Ze [(0,_),(5,_),(7,_),(10,_),(11,_),(12,_)] (Zn (Zm rfl (Zv (B_ rfl V wR_) (Zm rfl (Ze [(0,_),(5,_),(7,_),(10,_),(11,_),(12,_),(16,_),(17,_),(18,_)] (nx ?_))))))));obtain⟨J,L,y⟩:=a_ y;refine v_ (λa u=>∃m d k,J=.inl m∧Fr a 34 [(0,c),(5,d),(10,j),(11,ZI (g.length:Int)),(12,ZI i)]∧Bs oo k w u∧Oz w 3 11 k u d m) (λ_ _=>False) ?_ ?_ ?_
   ·refine f_ ?_;refine w_ (λ(K:Nat) a u=>∃(b:Int),∃m d k,forI (aO_ f) (q.drop b.toNat) b m=some J∧(q.drop b.toNat).length=K∧0<=b∧Fr a 34 [(0,c),(5,d),(7,ZI f),(10,j),(11,ZI (g.length:Int)),(12,ZI i),(16,c),(17,ZI (q.length:Int)),(18,ZI b)]∧Bs oo k w u∧Oz w 3 11 k u d m) _ (λa ha=>⟨0,A,s,B,L,rfl,Int.le_refl 0,ha.sb,hB,U⟩) ?_;rintro K33 a u ⟨b,m,d,k,M,N,a3,ha,hB,v⟩;by_cases D:b<(q.length:Int)
    ·obtain⟨O,d0,P,x,Q⟩:=R_ a3 D M;have hle:=V.len_le;dsimp only[aO_] at x;refine J_ ha ?_;refine Zq (Zv (r_ rfl rfl) (Ze [(0,_),(5,_),(7,_),(10,_),(11,_),(12,_),(16,_),(17,_),(18,_),(19,_)] (nx (c_ ?_))));refine L_ (Zb (decide_eq_true D)) ?_;refine g_ (nx (c_ (f_ (Zq (Zm rfl (Zo ?_))))));refine wf_atZ V P hB rfl rfl wR_ wS_ ?_;intro d1 d2 d3 a4 a5;cases a5
     refine Zv (e_ rfl wT_ (k_ a4)) (Za rfl (Za rfl (Ze [(0,_),(5,_),(7,_),(8,_),(9,_),(10,_),(11,_),(12,_),(16,_),(17,_),(18,_)] (Zn (Zm rfl (Zm rfl (Zv (cD_ rfl rfl) (Ze [(0,_),(5,_),(7,_),(8,_),(10,_),(11,_),(12,_),(16,_),(17,_),(18,_),(25,_)] (nx ?_)))))))));refine l_ rfl (λG=>?_) (λG=>?_)
     ·rw[if_pos G] at x;refine d_ (Zm rfl (Zm rfl (Zo ?_)));refine au_ (o:=k) (cs:=[ZI b]) (xs:=([b]:Yl)) (vs:=[(0,ZI b)]) ⟨_,_,rfl,rfl,rfl⟩ rfl ⟨rfl,rfl,trivial⟩ wR_ wS_ xd_ (by decide) (fill1 rfl) (by simp) ?_;intro d4 d5 d6 a6 a7 d7;obtain⟨v,hB⟩:=ZS a7 (A2 v hB);obtain⟨a8,R,x⟩:=a_ x;refine Zo ?_;refine aT_ v a6 (ai_ R) (by decide) hB.keeps.size rfl rfl wR_ dB_ rfl (by decide) ?_;intro a9 d8 E b0 b1;replace hB:=hB.stp b1;refine Za rfl (Ze [(0,c),(5,E),(7,ZI f),(10,j),(11,ZI (g.length:Int)),(12,ZI i),(16,c),(17,ZI (q.length:Int)),(18,ZI b)] (x_ (nx (d_ (Zv (C_ rfl rfl (F_ (by omega) (by omega))) (Zm rfl (Ze [(0,_),(5,_),(7,_),(10,_),(11,_),(12,_),(16,_),(17,_),(18,_)] (u_ ?_))))))));have b2:=Zj x;subst b2;refine Zk [(0,_),(5,_),(7,_),(10,_),(11,_),(12,_),(16,_),(17,_),(18,_)] ?_;intro a ha;exact⟨_,(by rw[<-N];simp only[List.length_drop];omega),b+1,a8,E,a9,Q,rfl,by omega,ha,hB,b0⟩
     ·replace x:=ZF G x;refine g_ (x_ (nx (d_ (Zv (C_ rfl rfl (F_ (by omega) (by omega))) (Zm rfl (Ze [(0,_),(5,_),(7,_),(10,_),(11,_),(12,_),(16,_),(17,_),(18,_)] (u_ ?_)))))));have b3:=Zj x;subst b3;refine Zk [(0,_),(5,_),(7,_),(10,_),(11,_),(12,_),(16,_),(17,_),(18,_)] ?_;intro a ha;exact⟨_,(by rw[<-N];simp only[List.length_drop];omega),b+1,m,d,k,Q,rfl,by omega,ha,hB,v⟩
    ·have b4:=S_ D M;refine J_ ha ?_;refine Zq (Zv (r_ rfl rfl) (Ze [(0,_),(5,_),(7,_),(10,_),(11,_),(12,_),(16,_),(17,_),(18,_),(19,_)] (nx (c_ ?_))));refine G_ (Zb (decide_eq_false D)) ?_;refine s_ ?_;refine n_ (n_ (N_ ?_));refine p_ ?_;refine Zk [(0,_),(5,_),(10,_),(11,_),(12,_)] ?_;intro a ha;exact⟨m,d,k,b4,ha,hB,v⟩
   ·rintro a u ⟨m,d,k,rfl,ha,hB,v⟩;dsimp only at y;refine ap_k ha ?_;refine x_ (nx (d_ (Zv (C_ rfl rfl (F_ (by omega) (by omega))) (Zm rfl (Ze [(0,_),(5,_),(10,_),(11,_),(12,_)] (u_ ?_))))));have b5:=Zj y;subst b5;refine Zk [(0,_),(5,_),(10,_),(11,_),(12,_)] ?_;intro a ha;exact⟨_,(by rw[<-Y];simp only[List.length_drop];omega),i+1,m,d,k,a0,rfl,by omega,ha,hB,v⟩
   ·exact λ_ _ h=>h.elim
  ·have b6:=S_ C c4;refine J_ ha ?_;refine Zq (Zv (r_ rfl rfl) (Ze [(0,_),(5,_),(10,_),(11,_),(12,_),(13,_)] (nx (c_ ?_))));refine G_ (Zb (decide_eq_false C)) ?_;refine s_ ?_;refine n_ (n_ (N_ ?_));refine p_ ?_;refine Zk [(5,_)] ?_;intro a ha;exact⟨A,s,B,b6,ha,hB,U⟩
 ·rintro a F ⟨A,s,B,rfl,ha,hB,U⟩;dsimp only at hF;refine ap_k ha ?_;refine Zn (Zm rfl ?_);obtain⟨b7,S,hF⟩:=a_ hF;refine Zo ?_;refine o_ (gY_ fuel F B 12 (by decide) _ A U.z b7 S) xN_ ⟨rfl,trivial⟩ ?_;rintro d9 e0 ⟨T,b8,rfl,H,b9,c0⟩;have c1:=b9.stp' 12 c0;replace H:=H.mono hB.keeps.size;refine⟨_,rfl,?_⟩;replace hB:=hB.stp c1;refine Za rfl (Ze [(4,_)] (nx (j_ ?_)));have c2:=Zj hF;subst c2;refine Zr Tryz.results159 [T] ?_;exact⟨_,rt oo b8 w.heap.size 12 t,rfl,H.rt hB (by decide) t,hB.keeps,am_ _ _ _ _ _⟩
 ·exact λ_ _ h=>h.elim
def dU_(f:List (List Int))(g:List Int)(i:List Int)(self:(List (List Int))->(List Int)->(List Int)->Option ((List Int)×Bool)):Int->Int->Unit->Option (Lp Unit Unit ((List Int)×Bool)):=λ(j:Int)(b:Int)(s:Unit)=>
  (dd_ i)>>=λc=>
  (push c b)>>=λd=>
  (self f g d)>>=λa=>
  if a.2 then
    some (.ret (a.1,true))
  else
    some (.go ())
def cG_:Nat->(List (List Int))->(List Int)->(List Int)->Option ((List Int)×Bool)
  |0=>λ_ _ _=>none
  | fuel+1=>λi b a=>
    if(a.length:Int)==(b.length:Int) then
      (dC_ fuel a)>>=λj=>
      (gg_ i j)>>=λc=>
      some (a,c)
    else
      (ix b (a.length:Int))>>=λd=>
      (cF_ fuel d)>>=λf=>
      (forI (dU_ i b a (cG_ fuel)) f 0 ())>>=λg=>
      match g with
      | .inl _=>
        some ([],false)
      | .inr r'=>some r'
def la_(oo:Tg)(t:Nat)(w:World)(r:Yl×Bool):Ending->World->Prop:=λe w'=>∃(a:Value)(o':Tg),e=.returned (.tuple #[a,.bool r.2])∧Of 3 o' w' a r.1∧Keeps w w'∧∀b,b<w.heap.size->o' b=oo b
theorem pI_(fuel:Nat):∀(w:World)(oo:Tg)(t:Nat)(ht:2<=t)(s:Value)(C:Yk)(Y:RdL zt w s C)(u:Value)(D:Yl)(I:RdL zt w u D)(m:Value)(v:Yl)(f:Of 3 oo w m v)(r:Yl×Bool)(hF:cG_ fuel C D v=some r),Calls wQ_ 183 #[s,u,m] w (la_ oo t w r):=by
 induction fuel with
 |zero=>
  intro w oo t ht s C Y u D I m v f r hF;unfold cG_ at hF;cases hF
 | succ fuel ih=>
  intro w oo t ht s C Y u D I m v f r hF;unfold cG_ at hF;replace f:=f.col;have g2r:=f.rd;have hB:Bs oo (col oo) w w:=Bs.start _ _;refine i_ (n:=48) (vs:=[s,u,m]) Tryz.func183 rfl rfl ?_;generalize col oo=o at*;refine Zq (Za rfl (Za rfl (Ze [(0,_),(1,_),(2,_)] (Zn (Zm rfl (Zv (B_ rfl g2r wR_) (Za rfl (Ze [(0,_),(1,_),(2,_),(8,_)] (nx (c_ (Zq (Zm rfl ?_))))))))))));refine Zm rfl (Zv (B_ rfl I wR_) (Zv (cD_ rfl rfl) (Ze [(0,_),(1,_),(2,_),(8,_),(18,_)] (nx ?_))));refine l_ rfl (λZ=>?_) (λZ=>?_)
  ·rw[if_pos Z] at hF;refine Zq (Zm rfl (Zm rfl (Zm rfl ?_)));obtain⟨d9,a0,hF⟩:=a_ hF;refine Zo ?_;refine o_ (gY_ fuel w o 11 (by decide) _ v g2r.z d9 a0) xN_ ⟨rfl,trivial⟩ ?_;rintro g6 e0 ⟨g7,J,rfl,a1,e1,e2⟩;have e3:=e1.stp' 11 e2;replace a1:=a1.mono hB.keeps.size;refine⟨_,rfl,?_⟩;obtain⟨g2r,f,hB⟩:=ZS e3 (A3 g2r f hB);obtain⟨E,L,hF⟩:=a_ hF;refine Zo ?_;refine o_ (ky_ e0 _ C (Y.keep hB.keeps) _ d9 a1.z E L) Tryz.call120 ⟨rfl,rfl,trivial⟩ ?_;rintro e4 e5 ⟨rfl,a2⟩;have a3:=a2.stp 999 J;refine⟨_,rfl,?_⟩;obtain⟨g2r,f,hB⟩:=ZS a3 (A3 g2r f hB);refine Za rfl (Za rfl (Ze [(6,_),(7,_)] (nx (j_ (y_ ?_)))));have a4:=Zj hF;subst a4;refine Zr ye_ [m,.bool E] ?_;exact⟨_,rt oo J w.heap.size 9 t,rfl,f.rt hB 9 t (by decide),hB.keeps,am_ _ _ _ _ _⟩
  ·replace hF:=ZF Z hF;refine g_ (nx (c_ (Zq (Zm rfl (Zm rfl ?_)))));obtain⟨a5,M,hF⟩:=a_ hF;refine Zo ?_;refine wf_atZ I M hB rfl rfl wR_ wS_ ?_;intro e6 e7 e8 a6 a7;cases a7
   refine Zv (e_ rfl wT_ (k_ a6)) ?_;obtain⟨c,N,hF⟩:=a_ hF;refine Zo ?_;refine o_ (gS_ fuel w o 13 (by decide) a5 c N) xP_ ⟨rfl,trivial⟩ ?_;rintro e9 f0 ⟨g,a8,rfl,b,a9,b0⟩;have b1:=a9.stp' 13 b0;replace b:=b.mono hB.keeps.size;refine⟨_,rfl,?_⟩;obtain⟨g2r,f,hB⟩:=ZS b1 (A3 g2r f hB);refine Zv (bC_ rfl b wR_) (Zm rfl (Ze [(0,_),(1,_),(2,_),(28,_),(29,_),(30,_)] (nx ?_)));obtain⟨F,O,hF⟩:=a_ hF;refine v_ (λa q=>∃(i:Tg),F=.inl ()∧Fr a 48 []∧Bs oo i w q) (λa w'=>∃r',F=.inr r'∧bodyPost wQ_ Tryz.f183 (la_ oo t w r') .ret a w') ?_ ?_ ?_
   ·refine f_ ?_;refine w_ (λ(K:Nat) a q=>∃(d:Int),∃(i:Tg),forI (dU_ C D v (cG_ fuel)) (c.drop d.toNat) d ()=some F∧(c.drop d.toNat).length=K∧0<=d∧Fr a 48 [(0,s),(1,u),(2,m),(28,g),(29,ZI (c.length:Int)),(30,ZI d)]∧Bs oo i w q∧RdL i q m v∧Of 3 i q m v∧Oz w 3 13 i q g c) _ (λa ha=>⟨0,a8,O,rfl,Int.le_refl 0,ha.sb,hB,g2r,f,b⟩) ?_;rintro K40 a q ⟨d,i,Q,b2,b3,ha,hB,g2r,f,b⟩;by_cases y:d<(c.length:Int)
    ·obtain⟨A,f1,R,k,S⟩:=R_ b3 y Q;have hle:=b.len_le;dsimp only[dU_] at k;refine J_ ha ?_;refine Zq (Zv (r_ rfl rfl) (Ze [(0,_),(1,_),(2,_),(28,_),(29,_),(30,_),(31,_)] (nx (c_ ?_))));refine L_ (Zb (decide_eq_true y)) ?_;refine g_ (nx (c_ (f_ (Zq (Zo ?_)))));refine gE_ b R rfl rfl wR_ wS_ ?_;intro f2 f3 f4 b4 b5;cases b5
     refine Zv (e_ rfl wT_ (k_ b4)) (Za rfl (Ze [(0,_),(1,_),(2,_),(10,_),(28,_),(29,_),(30,_)] (Zn (Zm rfl (Zm rfl (Zm rfl ?_))))));obtain⟨b6,T,k⟩:=a_ k;refine Zo ?_;refine o_ (eB_ q i 14 (by decide) _ v g2r.z b6 T) xl_ ⟨rfl,trivial⟩ ?_;rintro f5 f6 ⟨f7,b7,rfl,x,b8,b9⟩;have c0:=b8.stp' 14 b9;replace x:=x.mono hB.keeps.size;refine⟨_,rfl,?_⟩;obtain⟨g2r,f,b,hB⟩:=ZS c0 (A4 g2r f b hB);refine Zm rfl (Zo ?_);refine au_ (o:=b7) (cs:=[ZI A]) (xs:=([A]:Yl)) (vs:=[(0,ZI A)]) ⟨_,_,rfl,rfl,rfl⟩ rfl ⟨rfl,rfl,trivial⟩ wR_ wS_ xd_ (by decide) (fill1 rfl) (by simp) ?_;intro f8 f9 g0 c1 c2 g1;obtain⟨g2r,f,b,x,hB⟩:=ZS c2 (A5 g2r f b x hB);obtain⟨c3,U,k⟩:=a_ k;refine Zo ?_;refine aT_ x c1 (ai_ U) (by decide) hB.keeps.size rfl rfl wR_ dB_ rfl (by decide) ?_;intro c4 c5 g2 c6 c7;obtain⟨g2r,f,b,hB⟩:=ZS c7 (A4 g2r f b hB);replace g2r:=g2r.frz 14;replace f:=f.frz 14 (by decide);replace b:=b.frz_ne (j:=14) (by decide);have c8:=c6.frzF;replace hB:=hB.frz 14 (by decide);generalize (frz 14 c4)=c9 at*;obtain⟨G,V,k⟩:=a_ k;refine Zo ?_;refine o_ (ih c5 c9 15 (by decide) _ C (Y.keep hB.keeps) _ D (I.keep hB.keeps) _ c3 c8 G V) zj_ ⟨rfl,rfl,rfl,trivial⟩ ?_;rintro g3 g4 ⟨B,W,rfl,X,d0,d1⟩;have d2:=d0.stp' 15 d1;have g5:=X.rd;refine⟨_,rfl,?_⟩;obtain⟨g2r,f,b,hB⟩:=ZS d2 (A4 g2r f b hB);refine Zm rfl (Zv (t_ rfl rfl) (Zv (t_ rfl rfl) (Za rfl (Za rfl (Ze [(0,_),(1,_),(2,_),(11,_),(12,_),(28,_),(29,_),(30,_)] (Zn (Zm rfl (Ze [(0,_),(1,_),(2,_),(11,_),(28,_),(29,_),(30,_),(45,_)] (nx ?_)))))))));refine l_ rfl (λH=>?_) (λH=>?_)
     ·rw[if_pos H] at k;refine Zq (Zm rfl (Za rfl (Za rfl (Ze [(6,_),(7,_)] (nx (j_ (W_ (y_ (y_ (W_ ?_))))))))));refine bg_ ?_;have d3:=Zj k;subst d3;refine λa ha=>⟨_,S,?_⟩;refine D_ (P:=wQ_) (vs:=[B,.bool true]) ye_ ⟨rfl,rfl,trivial⟩ ?_ a ha;exact⟨_,rt oo W w.heap.size 9 t,rfl,X.rt hB 9 t (by decide),hB.keeps,am_ _ _ _ _ _⟩
     ·replace k:=ZF H k;refine g_ (x_ (nx (d_ (Zv (C_ rfl rfl (F_ (by omega) (by omega))) (Zm rfl (Ze [(0,_),(1,_),(2,_),(28,_),(29,_),(30,_)] (u_ ?_)))))));have d4:=Zj k;subst d4;refine Zk [(0,_),(1,_),(2,_),(28,_),(29,_),(30,_)] ?_;intro a ha;exact⟨_,(by rw[<-b2];simp only[List.length_drop];omega),d+1,W,S,rfl,by omega,ha,hB,g2r,f,b⟩
    ·have d5:=S_ y Q;refine J_ ha ?_;refine Zq (Zv (r_ rfl rfl) (Ze [(0,_),(1,_),(2,_),(28,_),(29,_),(30,_),(31,_)] (nx (c_ ?_))));refine G_ (Zb (decide_eq_false y)) ?_;refine s_ ?_;refine n_ (n_ (N_ ?_));refine p_ ?_;refine Zk [] ?_;intro a ha;exact⟨i,d5,ha,hB⟩
   ·rintro a q ⟨i,rfl,ha,hB⟩;dsimp only at hF;refine ap_k ha ?_;refine Zn (Za rfl (Za rfl (Ze [(6,_),(7,_)] (nx (j_ ?_)))));have d6:=Zj hF;subst d6;refine Zr ye_ [.slice none 0 0,.bool false] ?_;exact⟨_,rt oo i w.heap.size 9 t,rfl,Of.nil _ _ _,hB.keeps,am_ _ _ _ _ _⟩
   ·rintro a q ⟨r',rfl,d7⟩;dsimp only at hF;have d8:=Zj hF;subst d8;exact d7
def fi_(fuel:Nat)(f:List (List Int))(g:List Int):Int->(List Int)->(List (List Int))->Option (Lp (List (List Int)) (List (List Int)) (List (List Int))):=λ(i:Int)(a:List Int)(s:List (List Int))=>
  (fk_ g a)>>=λb=>
  (cG_ fuel f b [])>>=λc=>
  if c.2 then
    (push s a)>>=λd=>
    some (.go d)
  else
    some (.go s)
def gM_(fuel:Nat)(d:List (List Int))(c:List Int)(f:Int):Option (List (List Int)):=
  (en_ fuel (c.length:Int) f)>>=λg=>
  (forI (fi_ fuel d c) g 0 [])>>=λa=>
  match a with
  | .inl b=>
    some b
  | .inr _=>none
def tU_(oo:Tg)(t:Nat)(w:World)(r:Yk):Ending->World->Prop:=λe w'=>∃(a:Value)(o':Tg),e=.returned (a)∧Ow w.heap.size 41 t o' w' a r∧Keeps w w'∧∀b,b<w.heap.size->o' b=oo b
theorem po_(fuel:Nat)(w:World)(oo:Tg)(t:Nat)(ht:2<=t)(m:Value)(T:Yk)(c0:RdL zt w m T)(q:Value)(F:Yl)(b8:RdL zt w q F)(E:Int)(r:Yk)(hF:gM_ fuel T F E=some r):
    Calls wQ_ 160 #[m,q,.int .i64 E] w (tU_ oo t w r):=by
 unfold gM_ at hF;have hB:Bs oo (col oo) w w:=Bs.start _ _;refine i_ (n:=36) (vs:=[m,q,ZI E]) Tryz.func160 rfl rfl ?_;generalize col oo=o at*;refine Zq (Za rfl (Ze [(0,_),(1,_),(2,_)] (Zn (Za rfl (Ze [(0,_),(1,_),(2,_),(7,_)] (nx (c_ (Zq (Zm rfl (Zv (B_ rfl b8 wR_) (Zm rfl ?_)))))))))));obtain⟨i,U,hF⟩:=a_ hF;refine Zo ?_;refine o_ (jT_ fuel w o 11 (by decide) (F.length:Int) E i U) Tryz.call110 ⟨rfl,rfl,trivial⟩ ?_;rintro e0 c1 ⟨v,b9,rfl,s,c2,c3⟩;have c4:=c2.stp' 11 c3;refine⟨_,rfl,?_⟩;replace hB:=hB.stp c4;refine Zv (B_ rfl s wV_) (Zm rfl (Ze [(0,_),(1,_),(7,_),(15,_),(16,_),(17,_)] (nx ?_)));have V:Oz w 41 12 b9 c1 (.slice none 0 0) ([]:Yk):=Ow.nil _ _ _ _ _;obtain⟨G,H,hF⟩:=a_ hF;refine v_ (λa j=>∃k c d,G=.inl k∧Fr a 36 [(7,c)]∧Bs oo d w j∧Oz w 41 12 d j c k) (λ_ _=>False) ?_ ?_ ?_
 ·refine f_ ?_;refine w_ (λ(K:Nat) a j=>∃(b:Int),∃k c d,forI (fi_ fuel T F) (i.drop b.toNat) b k=some G∧(i.drop b.toNat).length=K∧0<=b∧Fr a 36 [(0,m),(1,q),(7,c),(15,v),(16,ZI (i.length:Int)),(17,ZI b)]∧Bs oo d w j∧Oz w 41 12 d j c k∧RdL d j v i) _ (λa ha=>⟨0,[],.slice none 0 0,b9,H,rfl,Int.le_refl 0,ha.sb,hB,V,s⟩) ?_;rintro K21 a j ⟨b,k,c,d,I,J,W,ha,hB,f,s⟩;by_cases y:b<(i.length:Int)
  ·obtain⟨L,c5,M,g,N⟩:=R_ W y I;have hle:=s.len_le;dsimp only[fi_] at g;refine J_ ha ?_;refine Zq (Zv (r_ rfl rfl) (Ze [(0,_),(1,_),(7,_),(15,_),(16,_),(17,_),(18,_)] (nx (c_ ?_))));refine L_ (Zb (decide_eq_true y)) ?_;refine g_ (nx (c_ (f_ (Zq (Zo ?_)))));refine fo_ s M rfl rfl wV_ wY_ ?_;intro c6 c7 c8 X Y;obtain⟨x,rfl,u⟩:=Y;refine Zv (e_ rfl xa_ (k_ X)) (Za rfl (Ze [(0,_),(1,_),(7,_),(9,_),(15,_),(16,_),(17,_)] (Zn (Zm rfl (Zm rfl (Zm rfl ?_))))));obtain⟨O,P,g⟩:=a_ g;refine Zo ?_;refine o_ (ph_ j d 13 (by decide) _ F (b8.keep hB.keeps) _ L u.z O P) Tryz.call130 ⟨rfl,rfl,trivial⟩ ?_;rintro c9 Z ⟨d0,a0,rfl,B,a1,a2⟩;have a3:=a1.stp' 13 a2;replace B:=B.mono hB.keeps.size;refine⟨_,rfl,?_⟩;obtain⟨f,u,s,hB⟩:=ZS a3 (A4 f u s hB);obtain⟨C,Q,g⟩:=a_ g;refine Zo ?_;refine o_ (pI_ fuel Z a0 14 (by decide) _ T (c0.keep hB.keeps) _ O B.z _ ([]:Yl) (Of.nil _ _ _) C Q) zj_ ⟨rfl,rfl,rfl,trivial⟩ ?_;rintro d1 d2 ⟨d3,R,rfl,a4,a5,a6⟩;have a7:=a5.stp' 14 a6;have d4:=a4.rd;refine⟨_,rfl,?_⟩;obtain⟨f,u,s,hB⟩:=ZS a7 (A4 f u s hB);refine Zm rfl (Zv (t_ rfl rfl) (Zv (t_ rfl rfl) (Za rfl (Za rfl (Ze [(0,_),(1,_),(7,_),(9,_),(11,_),(15,_),(16,_),(17,_)] (Zn (Zm rfl (Ze [(0,_),(1,_),(7,_),(9,_),(15,_),(16,_),(17,_),(29,_)] (nx ?_)))))))));refine l_ rfl (λD=>?_) (λD=>?_)
   ·rw[if_pos D] at g;refine d_ (Zm rfl (Zm rfl (Zo ?_)));refine au_ (o:=R) (cs:=[x]) (xs:=([L]:Yk)) (vs:=[(0,x)]) ⟨_,_,rfl,iH_ u,rfl⟩ rfl ⟨rfl,rfl,trivial⟩ wV_ wY_ xe_ (by decide) (fill1 u.cells1) (by simp) ?_;intro d5 d6 d7 a8 a9 d8;obtain⟨f,s,hB⟩:=ZS a9 (A3 f s hB);obtain⟨b0,S,g⟩:=a_ g;refine Zo ?_;refine aT_ f a8 (ai_ S) (by decide) hB.keeps.size rfl rfl wV_ dZ_ rfl (by decide) ?_;intro b1 d9 A b2 b3;obtain⟨s,hB⟩:=ZS b3 (A2 s hB);refine Za rfl (Ze [(0,m),(1,q),(7,A),(15,v),(16,ZI (i.length:Int)),(17,ZI b)] (x_ (nx (d_ (Zv (C_ rfl rfl (F_ (by omega) (by omega))) (Zm rfl (Ze [(0,_),(1,_),(7,_),(15,_),(16,_),(17,_)] (u_ ?_))))))));have b4:=Zj g;subst b4;refine Zk [(0,_),(1,_),(7,_),(15,_),(16,_),(17,_)] ?_;intro a ha;exact⟨_,(by rw[<-J];simp only[List.length_drop];omega),b+1,b0,A,b1,N,rfl,by omega,ha,hB,b2,s⟩
   ·replace g:=ZF D g;refine g_ (x_ (nx (d_ (Zv (C_ rfl rfl (F_ (by omega) (by omega))) (Zm rfl (Ze [(0,_),(1,_),(7,_),(15,_),(16,_),(17,_)] (u_ ?_)))))));have b5:=Zj g;subst b5;refine Zk [(0,_),(1,_),(7,_),(15,_),(16,_),(17,_)] ?_;intro a ha;exact⟨_,(by rw[<-J];simp only[List.length_drop];omega),b+1,k,c,R,N,rfl,by omega,ha,hB,f,s⟩
  ·have b6:=S_ y I;refine J_ ha ?_;refine Zq (Zv (r_ rfl rfl) (Ze [(0,_),(1,_),(7,_),(15,_),(16,_),(17,_),(18,_)] (nx (c_ ?_))));refine G_ (Zb (decide_eq_false y)) ?_;refine s_ ?_;refine n_ (n_ (N_ ?_));refine p_ ?_;refine Zk [(7,_)] ?_;intro a ha;exact⟨k,c,d,b6,ha,hB,f⟩
 ·rintro a j ⟨k,c,d,rfl,ha,hB,f⟩;dsimp only at hF;refine ap_k ha ?_;refine Zn (Zm rfl (Za rfl (Ze [(6,_)] (nx (j_ ?_)))));have b7:=Zj hF;subst b7;refine Zr Tryz.results160 [c] ?_;exact⟨_,rt oo d w.heap.size 12 t,rfl,f.rt hB (by decide) t,hB.keeps,am_ _ _ _ _ _⟩
 ·exact λ_ _ h=>h.elim
def ef_(fuel:Nat):Int->Int->(List Int)->Option (Lp (List Int) (List Int) (b_×(List Int)×Bool)):=λ(c:Int)(a:Int)(s:List Int)=>
  (il_ fuel s a)>>=λb=>
  some (.go b)
def er_(fuel:Nat):Int->(List Int)->(List Int)->Option (Lp (List Int) (List Int) (b_×(List Int)×Bool)):=λ(d:Int)(a:List Int)(s:List Int)=>
  (forI (ef_ fuel) a 0 s)>>=λb=>
  match b with
  | .inl c=>
    some (.go c)
  | .inr _=>none
def el_(fuel:Nat)(d:List Int):Int->(List Int)->(List (List Int))->Option (Lp (List (List Int)) (List (List Int)) (b_×(List Int)×Bool)):=λ(f:Int)(a:List Int)(s:List (List Int))=>
  (fq_ fuel d a)>>=λb=>
  (fS_ fuel s b)>>=λc=>
  some (.go c)
def gI_(fuel:Nat)(b:b_)(k:List (List Int))(m:Bool):Option (b_×(List Int)×Bool):=
  (forI (er_ fuel) k 0 [])>>=λi=>
  match i with
  | .inl a=>
    (hl_ (a.length:Int) 1 8)>>=λj=>
    if !j then
      some ((⟨0,0,[],[]⟩:b_),[],false)
    else
      (forI (el_ fuel a) k 0 [])>>=λc=>
      match c with
      | .inl d=>
        if m then
          (gM_ fuel b.Nodes a b.Degree)>>=λf=>
          some ((⟨(a.length:Int),b.Degree,f,d⟩:b_),a,true)
        else
          (gM_ fuel b.Edges a 2)>>=λg=>
          some ((⟨(a.length:Int),b.Degree,d,g⟩:b_),a,true)
      | .inr _=>none
  | .inr _=>none
def tD_(oo:Tg)(t:Nat)(w:World)(r:b_×Yl×Bool):Ending->World->Prop:=λe w'=>∃(a:List Value)(c:Value)(o':Tg),e=.returned (.tuple #[.agg a.toArray,c,.bool r.2.2])∧Rp.rd o' w' a r.1∧RdL o' w' c r.2.1∧Keeps w w'∧∀b,b<w.heap.size->o' b=oo b
theorem pe_(fuel:Nat)(w:World)(oo:Tg)(t:Nat)(ht:2<=t)(m4:List Value)(J:b_)(o2:Rp.rd zt w m4 J)(q:Value)(F:Yk)(d4:RdL zt w q F)(B:Bool)(r:b_×Yl×Bool)(hF:gI_ fuel J F B=some r):
    Calls wQ_ 113 #[.agg m4.toArray,q,.bool B] w (tD_ oo t w r):=by
 unfold gI_ at hF;obtain⟨b4,b5,rfl,o3,o4⟩:=o2;have hB:Bs oo (col oo) w w:=Bs.start _ _;refine i_ (n:=76) (vs:=[.agg #[ZI J.Labels,ZI J.Degree,b4,b5],q,.bool B]) Tryz.func113 rfl rfl ?_;generalize col oo=o at*;refine Zq (Zo ?_);refine as_ (o:=o) w.heap.size 11 hB.keeps.size (cs:=[ZI J.Labels,ZI J.Degree,b4,b5]) rfl rfl ?_;intro o5 q1 y G o6;replace hB:=hB.stp o6;refine Zo ?_;refine av_ (o:=o5) w.heap.size 12 hB.keeps.size (cs:=[ZI 0,ZI 0,.slice none 0 0,.slice none 0 0]) xf_ rfl ?_;intro c4 d5 b f j2;obtain⟨G,hB⟩:=ZS j2 (A2 G hB);refine Za rfl (Za rfl (Ze [(1,_),(2,_),(3,_),(6,_)] (Zn (Za rfl (Ze [(1,_),(2,_),(3,_),(6,_),(9,_)] (nx (c_ (Zq (Zm rfl (Zv (B_ rfl d4 wV_) (Zm rfl (Ze [(1,_),(2,_),(3,_),(6,_),(9,_),(18,_),(19,_),(20,_)] ?_))))))))))));refine nx ?_;have j3:RdL c4 d5 (.slice none 0 0) ([]:Yl):=RdL.nil _ _;have j4:Of 3 c4 d5 (.slice none 0 0) ([]:Yl):=Of.nil _ _ _;obtain⟨d6,d7,hF⟩:=a_ hF;refine v_ (λa N=>∃m g H,d6=.inl m∧Fr a 76 [(1,q),(2,.bool B),(3,ZP y),(6,ZP b),(9,g)]∧Bs oo H w N∧RdL H N g m∧Of 3 H N g m∧Bz w 11 H N y 28 [ZI J.Labels,ZI J.Degree,b4,b5]∧Bz w 12 H N b 28 [ZI 0,ZI 0,.slice none 0 0,.slice none 0 0]) (λ_ _=>False) ?_ ?_ ?_
 ·refine f_ ?_;refine w_ (λ(K:Nat) a N=>∃(u:Int),∃m g H,forI (er_ fuel) (F.drop u.toNat) u m=some d6∧(F.drop u.toNat).length=K∧0<=u∧Fr a 76 [(1,q),(2,.bool B),(3,ZP y),(6,ZP b),(9,g),(18,q),(19,ZI (F.length:Int)),(20,ZI u)]∧Bs oo H w N∧RdL H N g m∧Of 3 H N g m∧Bz w 11 H N y 28 [ZI J.Labels,ZI J.Degree,b4,b5]∧Bz w 12 H N b 28 [ZI 0,ZI 0,.slice none 0 0,.slice none 0 0]) _ (λa ha=>⟨0,[],.slice none 0 0,c4,d7,rfl,Int.le_refl 0,ha.sb,hB,j3,j4,G,f⟩) ?_;rintro K28 a N ⟨u,m,g,H,d8,j5,j6,ha,hB,d,C,G,f⟩;by_cases a9:u<(F.length:Int)
  ·obtain⟨O,o7,d9,a1,j7⟩:=R_ j6 a9 d8;have hle:=d4.len_le;dsimp only[er_] at a1;refine J_ ha ?_;refine Zq (Zv (r_ rfl rfl) (Ze [(1,_),(2,_),(3,_),(6,_),(9,_),(18,_),(19,_),(20,_),(21,_)] (nx (c_ ?_))));refine L_ (Zb (decide_eq_true a9)) ?_;refine g_ (nx (c_ (f_ (Zq (Zo ?_)))));refine wf_atZ d4 d9 hB rfl rfl wV_ wY_ ?_;intro o8 o9 p0 j8 j9;obtain⟨T,rfl,c5⟩:=j9;refine Zv (e_ rfl xa_ (k_ j8)) (Za rfl (Ze [(1,_),(2,_),(3,_),(6,_),(9,_),(11,_),(18,_),(19,_),(20,_)] (Zn (Zm rfl (Zv (B_ rfl c5 wR_) (Zm rfl (Ze [(1,_),(2,_),(3,_),(6,_),(9,_),(18,_),(19,_),(20,_),(24,_),(25,_),(26,_)] (nx ?_))))))));obtain⟨e0,e1,a1⟩:=a_ a1;refine v_ (λa Q=>∃S I L,e0=.inl S∧Fr a 76 [(1,q),(2,.bool B),(3,ZP y),(6,ZP b),(9,I),(18,q),(19,ZI (F.length:Int)),(20,ZI u)]∧Bs oo L w Q∧RdL L Q I S∧Of 3 L Q I S∧Bz w 11 L Q y 28 [ZI J.Labels,ZI J.Degree,b4,b5]∧Bz w 12 L Q b 28 [ZI 0,ZI 0,.slice none 0 0,.slice none 0 0]) (λ_ _=>False) ?_ ?_ ?_
   ·refine f_ ?_;refine w_ (λ(K:Nat) a Q=>∃(M:Int),∃S I L,forI (ef_ fuel) (O.drop M.toNat) M S=some e0∧(O.drop M.toNat).length=K∧0<=M∧Fr a 76 [(1,q),(2,.bool B),(3,ZP y),(6,ZP b),(9,I),(18,q),(19,ZI (F.length:Int)),(20,ZI u),(24,T),(25,ZI (O.length:Int)),(26,ZI M)]∧Bs oo L w Q∧RdL L Q I S∧Of 3 L Q I S∧Bz w 11 L Q y 28 [ZI J.Labels,ZI J.Degree,b4,b5]∧Bz w 12 L Q b 28 [ZI 0,ZI 0,.slice none 0 0,.slice none 0 0]) _ (λa ha=>⟨0,m,g,H,e1,rfl,Int.le_refl 0,ha.sb,hB,d,C,G,f⟩) ?_;rintro K52 a Q ⟨M,S,I,L,e2,k0,k1,ha,hB,c6,b0,G,f⟩;by_cases b1:M<(O.length:Int)
    ·obtain⟨e3,p1,e4,b2,k2⟩:=R_ k1 b1 e2;have hle:=c5.len_le;dsimp only[ef_] at b2;refine J_ ha ?_;refine Zq (Zv (r_ rfl rfl) (Ze [(1,_),(2,_),(3,_),(6,_),(9,_),(18,_),(19,_),(20,_),(24,_),(25,_),(26,_),(27,_)] (nx (c_ ?_))));refine L_ (Zb (decide_eq_true b1)) ?_;refine g_ (nx (c_ (f_ (Zq (Zo ?_)))));refine wf_atZ c5 e4 hB rfl rfl wR_ wS_ ?_;intro p2 p3 p4 k3 k4;cases k4
     refine Zv (e_ rfl wT_ (k_ k3)) (Za rfl (Ze [(1,_),(2,_),(3,_),(6,_),(9,_),(13,_),(18,_),(19,_),(20,_),(24,_),(25,_),(26,_)] (nx (d_ (Zm rfl (Zm rfl ?_))))));obtain⟨e5,e6,b2⟩:=a_ b2;refine Zo ?_;refine o_ (vr_ fuel Q L 13 (by decide) _ S b0 e3 e5 e6) Tryz.call157 ⟨rfl,rfl,trivial⟩ ?_;rintro p5 p6 ⟨b3,k5,rfl,e7,k6,k7⟩;have k8:=k6.stp' 13 k7;have k9:=e7.rd;refine⟨_,rfl,?_⟩;obtain⟨G,f,hB⟩:=ZS k8 (A3 G f hB);refine Za rfl (Ze [(1,q),(2,.bool B),(3,ZP y),(6,ZP b),(9,b3),(18,q),(19,ZI (F.length:Int)),(20,ZI u),(24,T),(25,ZI (O.length:Int)),(26,ZI M)] (x_ (nx (d_ (Zv (C_ rfl rfl (F_ (by omega) (by omega))) (Zm rfl (Ze [(1,_),(2,_),(3,_),(6,_),(9,_),(18,_),(19,_),(20,_),(24,_),(25,_),(26,_)] (u_ ?_))))))));have l0:=Zj b2;subst l0;refine Zk [(1,_),(2,_),(3,_),(6,_),(9,_),(18,_),(19,_),(20,_),(24,_),(25,_),(26,_)] ?_;intro a ha;exact⟨_,(by rw[<-k0];simp only[List.length_drop];omega),M+1,e5,b3,k5,k2,rfl,by omega,ha,hB,k9,e7,G,f⟩
    ·have l1:=S_ b1 e2;refine J_ ha ?_;refine Zq (Zv (r_ rfl rfl) (Ze [(1,_),(2,_),(3,_),(6,_),(9,_),(18,_),(19,_),(20,_),(24,_),(25,_),(26,_),(27,_)] (nx (c_ ?_))));refine G_ (Zb (decide_eq_false b1)) ?_;refine s_ ?_;refine n_ (n_ (N_ ?_));refine p_ ?_;refine Zk [(1,_),(2,_),(3,_),(6,_),(9,_),(18,_),(19,_),(20,_)] ?_;intro a ha;exact⟨S,I,L,l1,ha,hB,c6,b0,G,f⟩
   ·rintro a Q ⟨S,I,L,rfl,ha,hB,c6,b0,G,f⟩;dsimp only at a1;refine ap_k ha ?_;refine x_ (nx (d_ (Zv (C_ rfl rfl (F_ (by omega) (by omega))) (Zm rfl (Ze [(1,_),(2,_),(3,_),(6,_),(9,_),(18,_),(19,_),(20,_)] (u_ ?_))))));have l2:=Zj a1;subst l2;refine Zk [(1,_),(2,_),(3,_),(6,_),(9,_),(18,_),(19,_),(20,_)] ?_;intro a ha;exact⟨_,(by rw[<-j5];simp only[List.length_drop];omega),u+1,S,I,L,j7,rfl,by omega,ha,hB,c6,b0,G,f⟩
   ·exact λ_ _ h=>h.elim
  ·have l3:=S_ a9 d8;refine J_ ha ?_;refine Zq (Zv (r_ rfl rfl) (Ze [(1,_),(2,_),(3,_),(6,_),(9,_),(18,_),(19,_),(20,_),(21,_)] (nx (c_ ?_))));refine G_ (Zb (decide_eq_false a9)) ?_;refine s_ ?_;refine n_ (n_ (N_ ?_));refine p_ ?_;refine Zk [(1,_),(2,_),(3,_),(6,_),(9,_)] ?_;intro a ha;exact⟨m,g,H,l3,ha,hB,d,C,G,f⟩
 ·rintro a N ⟨m,g,H,rfl,ha,hB,d,C,G,f⟩;dsimp only at hF;refine ap_k ha ?_;refine nx (c_ (Zq (Zm rfl (Zv (B_ rfl d wR_) ?_))));obtain⟨e8,e9,hF⟩:=a_ hF;refine Zo ?_;refine o_ (lC_ N (m.length:Int) 1 8 e8 e9) Tryz.call40 ⟨rfl,rfl,rfl,trivial⟩ ?_;rintro p7 p8 ⟨rfl,l4⟩;have l5:=l4.stp 999 H;refine⟨_,rfl,?_⟩;obtain⟨d,C,G,f,hB⟩:=ZS l5 (A5 d C G f hB);refine Zv (aI_ rfl) (Ze [(1,_),(2,_),(3,_),(6,_),(9,_),(38,_)] (nx ?_));refine l_ rfl (λc7=>?_) (λc7=>?_)
  ·rw[if_pos c7] at hF;refine Zq (Zv (ba_ (vs:=[]) (cs:=[ZI 0,ZI 0,.slice none 0 0,.slice none 0 0]) trivial (by kernel_rfl)) ?_);refine Z_ trivial ?_;refine T_ f rfl rfl rfl ay_ (by intro c hc;simp only[List.mem_cons,List.not_mem_nil,or_false] at hc;rcases hc with rfl|rfl|rfl|rfl<;>first|rfl) ?_;intro p9 l6 l7;replace hB:=hB.stp l7;refine Za rfl (Za rfl (Ze [(6,_),(7,_),(8,_)] (nx (j_ (y_ ?_)))));have l8:=Zj hF;subst l8;refine D_ (P:=wQ_) (vs:=[.agg #[ZI 0,ZI 0,.slice none 0 0,.slice none 0 0],.slice none 0 0,.bool false]) yf_ ⟨⟨_,rfl,al_ wX_ wU_ rfl l6.cells⟩,rfl,rfl,trivial⟩ ?_;exact⟨[ZI 0,ZI 0,.slice none 0 0,.slice none 0 0],_,rt oo H w.heap.size 9 t,rfl,⟨_,_,rfl,RdL.nil _ _,RdL.nil _ _⟩,RdL.nil _ _,hB.keeps,am_ _ _ _ _ _⟩
  ·replace hF:=ZF c7 hF;refine g_ (Zn (Zm rfl (Zv (B_ rfl d wR_) (Zv (m_ rfl wW_ rfl wS_) (Zv (e_ rfl wT_ (G.cell rfl)) (Zv (ba_ (vs:=[(0,ZI (m.length:Int)),(1,ZI J.Degree)]) (cs:=[ZI (m.length:Int),ZI J.Degree,.slice none 0 0,.slice none 0 0]) ⟨rfl,rfl,rfl,rfl,trivial⟩ (by kernel_rfl)) (Zo ?_)))))));refine av_ (o:=H) w.heap.size 15 hB.keeps.size (cs:=[ZI 0,ZI 0,.slice none 0 0,.slice none 0 0]) xf_ rfl ?_;intro f0 q0 x l9 m0;obtain⟨d,C,G,f,hB⟩:=ZS m0 (A5 d C G f hB);refine Z_ trivial ?_;refine T_ l9 rfl rfl rfl ay_ (by intro c hc;simp only[List.mem_cons,List.not_mem_nil,or_false] at hc;rcases hc with rfl|rfl|rfl|rfl<;>first|rfl) ?_;intro m1 R m2;obtain⟨d,C,G,f,hB⟩:=ZS m2 (A5 d C G f hB);refine Ze [(1,_),(2,_),(3,_),(6,_),(9,_),(14,_)] (Zn (Za rfl (Ze [(1,_),(2,_),(3,_),(6,_),(9,_),(14,_),(15,_)] (nx (c_ (Zq (Zm rfl (Zv (B_ rfl d4 wV_) (Zm rfl (Ze [(2,_),(3,_),(6,_),(9,_),(14,_),(15,_),(45,_),(46,_),(47,_)] (nx ?_)))))))))));have m3:RdL f0 m1 (.slice none 0 0) ([]:Yk):=RdL.nil _ _;obtain⟨b6,c8,hF⟩:=a_ hF;refine v_ (λa s=>∃W A i,b6=.inl W∧Fr a 76 [(2,.bool B),(3,ZP y),(6,ZP b),(9,g),(14,ZP x),(15,A)]∧Bs oo i w s∧RdL i s g m∧Of 3 i s g m∧RdL i s A W∧Bz w 11 i s y 28 [ZI J.Labels,ZI J.Degree,b4,b5]∧Bz w 12 i s b 28 [ZI 0,ZI 0,.slice none 0 0,.slice none 0 0]∧Bz w 15 i s x 28 [ZI (m.length:Int),ZI J.Degree,.slice none 0 0,.slice none 0 0]) (λ_ _=>False) ?_ ?_ ?_
   ·refine f_ ?_;refine w_ (λ(K:Nat) a s=>∃(v:Int),∃W A i,forI (el_ fuel m) (F.drop v.toNat) v W=some b6∧(F.drop v.toNat).length=K∧0<=v∧Fr a 76 [(2,.bool B),(3,ZP y),(6,ZP b),(9,g),(14,ZP x),(15,A),(45,q),(46,ZI (F.length:Int)),(47,ZI v)]∧Bs oo i w s∧RdL i s g m∧Of 3 i s g m∧RdL i s A W∧Bz w 11 i s y 28 [ZI J.Labels,ZI J.Degree,b4,b5]∧Bz w 12 i s b 28 [ZI 0,ZI 0,.slice none 0 0,.slice none 0 0]∧Bz w 15 i s x 28 [ZI (m.length:Int),ZI J.Degree,.slice none 0 0,.slice none 0 0]) _ (λa ha=>⟨0,[],.slice none 0 0,f0,c8,rfl,Int.le_refl 0,ha.sb,hB,d,C,m3,G,f,R⟩) ?_;rintro K107 a s ⟨v,W,A,i,b7,f1,f2,ha,hB,d,C,k,G,f,R⟩;by_cases Z:v<(F.length:Int)
    ·obtain⟨f3,m5,c9,U,f4⟩:=R_ f2 Z b7;have hle:=d4.len_le;dsimp only[el_] at U;refine J_ ha ?_;refine Zq (Zv (r_ rfl rfl) (Ze [(2,_),(3,_),(6,_),(9,_),(14,_),(15,_),(45,_),(46,_),(47,_),(48,_)] (nx (c_ ?_))));refine L_ (Zb (decide_eq_true Z)) ?_;refine g_ (nx (c_ (f_ (Zq (Zo ?_)))));refine wf_atZ d4 c9 hB rfl rfl wV_ wY_ ?_;intro m6 m7 m8 f5 f6;obtain⟨f7,rfl,f8⟩:=f6;refine Zv (e_ rfl xa_ (k_ f5)) (Za rfl (Ze [(2,_),(3,_),(6,_),(9,_),(14,_),(15,_),(17,_),(45,_),(46,_),(47,_)] (nx (d_ (Zm rfl (Zm rfl (Zm rfl ?_)))))));obtain⟨b8,d0,U⟩:=a_ U;refine Zo ?_;refine o_ (nX_ fuel s i 16 (by decide) _ m d.z _ f3 (f8.keep hB.keeps) b8 d0) Tryz.call159 ⟨rfl,rfl,trivial⟩ ?_;rintro m9 f9 ⟨n0,g0,rfl,V,g1,g2⟩;have g3:=g1.stp' 16 g2;replace V:=V.mono hB.keeps.size;refine⟨_,rfl,?_⟩;obtain⟨d,C,k,G,f,R,hB⟩:=ZS g3 (A7 d C k G f R hB);replace d:=d.frz 16;replace C:=C.frz 16 (by decide);replace k:=k.frz 16;have n1:=V.frzF;replace V:=V.frz;replace G:=G.frz_ne (j:=16) (by decide);replace f:=f.frz_ne (j:=16) (by decide);replace R:=R.frz_ne (j:=16) (by decide);replace hB:=hB.frz 16 (by decide);generalize (frz 16 g0)=g4 at*;obtain⟨b9,d1,U⟩:=a_ U;refine Zo ?_;refine o_ (qa_ fuel f9 g4 17 (by decide) _ W k _ b8 V b9 d1) Tryz.call158 ⟨rfl,rfl,trivial⟩ ?_;rintro n2 n3 ⟨a0,g5,rfl,g6,g7,g8⟩;have g9:=g7.stp' 17 g8;refine⟨_,rfl,?_⟩;obtain⟨d,C,G,f,R,hB⟩:=ZS g9 (A6 d C G f R hB);refine Za rfl (Ze [(2,.bool B),(3,ZP y),(6,ZP b),(9,g),(14,ZP x),(15,a0),(45,q),(46,ZI (F.length:Int)),(47,ZI v)] (x_ (nx (d_ (Zv (C_ rfl rfl (F_ (by omega) (by omega))) (Zm rfl (Ze [(2,_),(3,_),(6,_),(9,_),(14,_),(15,_),(45,_),(46,_),(47,_)] (u_ ?_))))))));have h0:=Zj U;subst h0;refine Zk [(2,_),(3,_),(6,_),(9,_),(14,_),(15,_),(45,_),(46,_),(47,_)] ?_;intro a ha;exact⟨_,(by rw[<-f1];simp only[List.length_drop];omega),v+1,b9,a0,g5,f4,rfl,by omega,ha,hB,d,C,g6,G,f,R⟩
    ·have h1:=S_ Z b7;refine J_ ha ?_;refine Zq (Zv (r_ rfl rfl) (Ze [(2,_),(3,_),(6,_),(9,_),(14,_),(15,_),(45,_),(46,_),(47,_),(48,_)] (nx (c_ ?_))));refine G_ (Zb (decide_eq_false Z)) ?_;refine s_ ?_;refine n_ (n_ (N_ ?_));refine p_ ?_;refine Zk [(2,_),(3,_),(6,_),(9,_),(14,_),(15,_)] ?_;intro a ha;exact⟨W,A,i,h1,ha,hB,d,C,k,G,f,R⟩
   ·rintro a s ⟨W,A,i,rfl,ha,hB,d,C,k,G,f,R⟩;dsimp only at hF;refine ap_k ha ?_;refine nx (c_ (Zq (Zm rfl (Ze [(3,_),(6,_),(9,_),(14,_),(15,_),(57,_)] (nx ?_)))));refine l_ rfl (λa2=>?_) (λa2=>?_)
    ·rw[if_pos a2] at hF;refine Zq (Zm rfl (Zv (m_ rfl wW_ rfl wZ_) ?_));refine Z_ trivial ?_;refine bl_ R rfl rfl (of_decide_eq_true rfl) wZ_ k.cells1 k.one1 ?_;intro c0 X h2;obtain⟨d,k,G,f,hB⟩:=ZS h2 (A5 d k G f hB);replace X:Bz w 15 i c0 x 28 [ZI (m.length:Int),ZI J.Degree,.slice none 0 0,A]:=X;refine Ze [(3,_),(6,_),(9,_),(14,_)] (nx (d_ (Zv (m_ rfl wW_ rfl wZ_) (Zv (e_ rfl xb_ (G.cell rfl)) (Zm rfl (Zv (m_ rfl wW_ rfl wS_) (Zv (e_ rfl wT_ (G.cell rfl)) ?_)))))));obtain⟨h3,d2,hF⟩:=a_ hF;refine Zo ?_;refine o_ (po_ fuel c0 i 18 (by decide) _ J.Nodes (o3.keep hB.keeps) _ m d.z J.Degree h3 d2) zl_ ⟨rfl,rfl,rfl,trivial⟩ ?_;rintro n4 n5 ⟨a3,c1,rfl,D,h4,h5⟩;have h6:=h4.stp' 18 h5;replace D:=D.mono hB.keeps.size;refine⟨_,rfl,?_⟩;obtain⟨d,f,X,k,hB⟩:=ZS h6 (A5 d f X k hB);refine Zv (m_ rfl wW_ rfl wZ_) ?_;refine Z_ trivial ?_;refine bl_ X rfl rfl (of_decide_eq_true rfl) wZ_ D.cells1 D.one1 ?_;intro h7 a4 h8;obtain⟨d,D,f,k,hB⟩:=ZS h8 (A5 d D f k hB);replace a4:Bz w 15 c1 h7 x 28 [ZI (m.length:Int),ZI J.Degree,a3,A]:=a4;refine Ze [(6,_),(9,_),(14,_)] (Zn (Zv (E_ rfl wX_ wU_ rfl a4.cells) (Zm rfl ?_)));refine Z_ trivial ?_;refine T_ f rfl rfl rfl ay_ (by intro c hc;simp only[List.mem_cons,List.not_mem_nil,or_false] at hc;rcases hc with rfl|rfl|rfl|rfl<;>first|rfl|exact D.one1|exact k.one1) ?_;intro n6 a5 h9;obtain⟨d,D,k,hB⟩:=ZS h9 (A4 d D k hB);refine Za rfl (Za rfl (Ze [(6,_),(7,_),(8,_)] (nx (j_ ?_))));replace d:=d.frz 18;replace a5:=a5.frz_ne (j:=18) (by decide);have n7:=D.frzF;replace D:=D.frz;replace k:=k.frz 18;replace hB:=hB.frz 18 (by decide);generalize (frz 18 c1)=i0 at*;have i1:=Zj hF;subst i1;refine D_ (P:=wQ_) (vs:=[.agg #[ZI (m.length:Int),ZI J.Degree,a3,A],g,.bool true]) yf_ ⟨⟨_,rfl,al_ wX_ wU_ rfl a5.cells⟩,rfl,rfl,trivial⟩ ?_;exact⟨[ZI (m.length:Int),ZI J.Degree,a3,A],_,rt oo i0 w.heap.size 9 t,rfl,⟨_,_,rfl,D.rt hB 9 t (by decide),k.rt hB 9 t (by decide)⟩,d.rt hB 9 t (by decide),hB.keeps,am_ _ _ _ _ _⟩
    ·replace hF:=ZF a2 hF;refine Zq (Zm rfl (Zv (m_ rfl wW_ rfl wZ_) ?_));refine Z_ trivial ?_;refine bl_ R rfl rfl (of_decide_eq_true rfl) wZ_ k.cells1 k.one1 ?_;intro c2 Y i2;obtain⟨d,k,G,f,hB⟩:=ZS i2 (A5 d k G f hB);replace Y:Bz w 15 i c2 x 28 [ZI (m.length:Int),ZI J.Degree,A,.slice none 0 0]:=Y;refine Ze [(3,_),(6,_),(9,_),(14,_)] (nx (d_ (Zv (m_ rfl wW_ rfl wZ_) (Zv (e_ rfl xb_ (G.cell rfl)) (Zm rfl ?_)))));obtain⟨i3,d3,hF⟩:=a_ hF;refine Zo ?_;refine o_ (po_ fuel c2 i 19 (by decide) _ J.Edges (o4.keep hB.keeps) _ m d.z 2 i3 d3) zl_ ⟨rfl,rfl,rfl,trivial⟩ ?_;rintro n8 n9 ⟨a6,c3,rfl,E,i4,i5⟩;have i6:=i4.stp' 19 i5;replace E:=E.mono hB.keeps.size;refine⟨_,rfl,?_⟩;obtain⟨d,f,Y,k,hB⟩:=ZS i6 (A5 d f Y k hB);refine Zv (m_ rfl wW_ rfl wZ_) ?_;refine Z_ trivial ?_;refine bl_ Y rfl rfl (of_decide_eq_true rfl) wZ_ E.cells1 E.one1 ?_;intro i7 a7 i8;obtain⟨d,E,f,k,hB⟩:=ZS i8 (A5 d E f k hB);replace a7:Bz w 15 c3 i7 x 28 [ZI (m.length:Int),ZI J.Degree,A,a6]:=a7;refine Ze [(6,_),(9,_),(14,_)] (Zn (Zv (E_ rfl wX_ wU_ rfl a7.cells) (Zm rfl ?_)));refine Z_ trivial ?_;refine T_ f rfl rfl rfl ay_ (by intro c hc;simp only[List.mem_cons,List.not_mem_nil,or_false] at hc;rcases hc with rfl|rfl|rfl|rfl<;>first|rfl|exact k.one1|exact E.one1) ?_;intro o0 a8 i9;obtain⟨d,k,E,hB⟩:=ZS i9 (A4 d k E hB);refine Za rfl (Za rfl (Ze [(6,_),(7,_),(8,_)] (nx (j_ ?_))));replace d:=d.frz 19;replace a8:=a8.frz_ne (j:=19) (by decide);replace k:=k.frz 19;have o1:=E.frzF;replace E:=E.frz;replace hB:=hB.frz 19 (by decide);generalize (frz 19 c3)=j0 at*;have j1:=Zj hF;subst j1;refine D_ (P:=wQ_) (vs:=[.agg #[ZI (m.length:Int),ZI J.Degree,A,a6],g,.bool true]) yf_ ⟨⟨_,rfl,al_ wX_ wU_ rfl a8.cells⟩,rfl,rfl,trivial⟩ ?_;exact⟨[ZI (m.length:Int),ZI J.Degree,A,a6],_,rt oo j0 w.heap.size 9 t,rfl,⟨_,_,rfl,k.rt hB 9 t (by decide),E.rt hB 9 t (by decide)⟩,d.rt hB 9 t (by decide),hB.keeps,am_ _ _ _ _ _⟩
   ·exact λ_ _ h=>h.elim
 ·exact λ_ _ h=>h.elim
def ep_(fuel:Nat)(b:b_):((List (List Int))×Int)->Option (Lp ((List (List Int))×Int) ((List (List Int))×Int) (b_×(List Int)×Bool)):=λ(s:(List (List Int))×Int)=>
  (shl 1 b.Labels)>>=λc=>
  if decide (s.2<c) then
    (gN_ fuel b s.2)>>=λa=>
    (
      if decide (a>0) then
        (gN_ fuel b a)>>=λd=>
        some (d==s.2)
      else
        some false)>>=λf=>
    if f then
      (push s.1 ([s.2,a]:List Int))>>=λg=>
      (ck (s.2+1))>>=λi=>
      some (.go (g,i))
    else
      (ck (s.2+1))>>=λj=>
      some (.go (s.1,j))
  else
    some (.out (s.1,s.2))
def hO_(fuel:Nat)(d:b_):Option (b_×(List Int)×Bool):=
  (loopF (ep_ fuel d) fuel ([],1))>>=λb=>
  match b with
  | .inl (c,f)=>
    (gI_ fuel d c true)>>=λa=>
    some (a.1,a.2.1,a.2.2)
  | .inr _=>none
def tj_(oo:Tg)(t:Nat)(w:World)(r:b_×Yl×Bool):Ending->World->Prop:=λe w'=>∃(a:List Value)(c:Value)(o':Tg),e=.returned (.tuple #[.agg a.toArray,c,.bool r.2.2])∧Rp.rd o' w' a r.1∧RdL o' w' c r.2.1∧Keeps w w'∧∀b,b<w.heap.size->o' b=oo b
theorem sR_(fuel:Nat)(w:World)(oo:Tg)(t:Nat)(ht:2<=t)(e9:List Value)(F:b_)(f0:Rp.rd zt w e9 F)(r:b_×Yl×Bool)(hF:hO_ fuel F=some r):
    Calls wQ_ 108 #[.agg e9.toArray] w (tj_ oo t w r):=by
 unfold hO_ at hF;obtain⟨b8,b9,rfl,c0,c1⟩:=f0;have hB:Bs oo (col oo) w w:=Bs.start _ _;refine i_ (n:=39) (vs:=[.agg #[ZI F.Labels,ZI F.Degree,b8,b9]]) Tryz.func108 rfl rfl ?_;generalize col oo=o at*;refine Zq (Zo ?_);refine as_ (o:=o) w.heap.size 11 hB.keeps.size (cs:=[ZI F.Labels,ZI F.Degree,b8,b9]) rfl rfl ?_;intro f1 h0 A u f2;replace hB:=hB.stp f2;refine Zo ?_;refine av_ (o:=f1) w.heap.size 12 hB.keeps.size (cs:=[ZI 0,ZI 0,.slice none 0 0,.slice none 0 0]) xf_ rfl ?_;intro N W b d c2;obtain⟨u,hB⟩:=ZS c2 (A2 u hB);refine Za rfl (Za rfl (Ze [(1,_),(2,_)] (Zn (Za rfl (Ze [(1,_),(2,_),(5,_)] (nx (c_ (Zq (Za rfl (Ze [(1,_),(2,_),(5,_),(6,_)] (nx ?_)))))))))));have c3:Oz w 41 13 N W (.slice none 0 0) ([]:List Hv):=Ow.nil _ _ _ _ _;have c4:Rq w 3 14 N W [] ([]:Yk):=Rws.nil _ _ _ _ _;obtain⟨X,Y,hF⟩:=a_ hF;refine v_ (λa m=>∃(x:Yk),∃(f:Int),∃j y g,X=.inl (x,f)∧Fr a 39 [(1,ZP A),(2,ZP b),(5,j)]∧Bs oo g w m∧Oz w 41 13 g m j y∧Rq w 3 14 g m y x∧Bz w 11 g m A 28 [ZI F.Labels,ZI F.Degree,b8,b9]∧Bz w 12 g m b 28 [ZI 0,ZI 0,.slice none 0 0,.slice none 0 0]) (λ_ _=>False) ?_ ?_ ?_
 ·refine f_ ?_;refine w_ (λ(K:Nat) a m=>∃(x:Yk),∃(f:Int),∃j y g,loopF (ep_ fuel F) K (x,f)=some X∧Fr a 39 [(1,ZP A),(2,ZP b),(5,j),(6,ZI f)]∧Bs oo g w m∧Oz w 41 13 g m j y∧Rq w 3 14 g m y x∧Bz w 11 g m A 28 [ZI F.Labels,ZI F.Degree,b8,b9]∧Bz w 12 g m b 28 [ZI 0,ZI 0,.slice none 0 0,.slice none 0 0]) fuel (λa ha=>⟨[],1,.slice none 0 0,[],N,Y,ha.sb,hB,c3,c4,u,d⟩) ?_;rintro K29 a m ⟨x,f,j,y,g,c5,ha,hB,s,k,u,d⟩;obtain⟨K33,f3,f4,i,O⟩:=X_ c5;dsimp only[ep_] at i;refine J_ ha ?_;refine c_ (Zq (Zm rfl (Zv (m_ rfl wW_ rfl wS_) (Zv (e_ rfl wT_ (u.cell rfl)) ?_))));obtain⟨c6,Z,i⟩:=a_ i;refine Zv (gL_ rfl rfl Z) (Zv (r_ rfl rfl) (Ze [(1,_),(2,_),(5,_),(6,_),(12,_)] (nx ?_)));refine l_ rfl (λQ=>?_) (λQ=>?_)
  ·rw[if_pos Q] at i;refine g_ (nx (c_ (f_ (Zq (Zv (E_ rfl wX_ wU_ rfl u.cells) (Zm rfl ?_))))));obtain⟨v,a0,i⟩:=a_ i;refine Zo ?_;refine o_ (oE_ fuel m _ F (⟨_,_,rfl,c0.keep hB.keeps,c1.keep hB.keeps⟩) f v a0) zm_ ⟨rfl,rfl,trivial⟩ ?_;rintro f5 H ⟨rfl,c7⟩;have c8:=c7.stp 999 g;refine⟨_,rfl,?_⟩;obtain⟨s,k,u,d,hB⟩:=ZS c8 (A5 s k u d hB);refine Za rfl (Ze [(1,_),(2,_),(5,_),(6,_),(7,_)] (Zn (Zm rfl (Zv (eN_ rfl rfl) (Zm rfl ?_)))));obtain⟨a1,B,i⟩:=a_ i;refine bc_ 6 (λc9 a2=>Fr c9 39 [(1,ZP A),(2,ZP b),(5,j),(6,ZI f),(7,ZI v),(26,.bool a1)]∧Keeps H a2) ?_ ?_;all_goals simp only[List.take_succ_cons,List.take_zero,List.drop_succ_cons,List.drop_zero]
   ·have kp:Keeps H H:=Keeps.refl _;rcases Bool.eq_false_or_eq_true (decide (v>0)) with q|q
    ·rw[if_pos q] at B;refine q_ (E_ rfl wX_ wU_ rfl u.cells) (by decide) ⟨_,rfl,Zb q⟩ (q_ (h_ rfl) (by decide) ⟨_,rfl,Zb q⟩ ?_);obtain⟨a3,a4,B⟩:=a_ B;refine cJ_ (by decide) ⟨_,rfl,Zb q⟩ ?_;refine o_ (oE_ fuel H _ F (⟨_,_,rfl,c0.keep hB.keeps,c1.keep hB.keeps⟩) v a3 a4) zm_ ⟨rfl,rfl,trivial⟩ ?_;rintro f6 f7 ⟨rfl,a5⟩;have f8:=a5.stp 999 g;refine⟨_,rfl,?_⟩;replace kp:=Keeps.trans kp a5;refine q_ (h_ rfl) (by decide) ⟨_,rfl,Zb q⟩ (q_ (cD_ rfl rfl) (by decide) ⟨_,rfl,Zb q⟩ (Zv (P_ (Zb q) rfl) ?_));have D:=Zj B;refine Ze [(1,_),(2,_),(5,_),(6,_),(7,_),(26,_)] ?_;subst D;refine p_ (λa ha=>⟨ha,kp⟩)
    ·replace B:=ZF q B;refine A_ rfl rfl (by rw[q];rfl) (by decide) ?_;refine A_ rfl rfl (by rw[q];rfl) (by decide) ?_;refine A_ rfl rfl (by rw[q];rfl) (by decide) ?_;refine A_ rfl rfl (by rw[q];rfl) (by decide) ?_;refine A_ rfl rfl (by rw[q];rfl) (by decide) ?_;refine Zv (I_ (Zb q) rfl) ?_;have D:=Zj B;refine Ze [(1,_),(2,_),(5,_),(6,_),(7,_),(26,_)] ?_;subst D;refine p_ (λa ha=>⟨ha,kp⟩)
   rintro f9 a2 ⟨ha,d0⟩;have d1:=d0.stp 999 g;obtain⟨s,k,u,d,hB⟩:=ZS d1 (A5 s k u d hB);refine aH_ ha ?_;refine Ze [(1,_),(2,_),(5,_),(6,_),(7,_),(26,_)] (nx ?_);refine l_ rfl (λR=>?_) (λR=>?_)
   ·rw[if_pos R] at i;refine d_ (Zm rfl (Zm rfl (Zm rfl (Zo ?_))));refine hu_ w.heap.size 17 hB.keeps.size (o:=g) (cs:=[ZI f,ZI v]) (xs:=([f,v]:Yl)) (vs:=[(0,ZI f),(1,ZI v)]) ⟨_,_,rfl,rfl,⟨_,_,rfl,rfl,rfl⟩⟩ rfl ⟨rfl,rfl,rfl,rfl,trivial⟩ wR_ wS_ xd_ (by decide) (fill2 rfl rfl) (by simp) ?_;intro d2 g0 G C d3;obtain⟨s,k,u,d,hB⟩:=ZS d3 (A5 s k u d hB);refine Zo ?_;refine au_ (o:=d2) (cs:=[G]) (xs:=([⟨G⟩]:List Hv)) (vs:=[(0,G)]) ⟨_,_,rfl,iG_ C,rfl⟩ rfl ⟨rfl,rfl,trivial⟩ wV_ wY_ xe_ (by decide) (fill1 C.cells1) (by simp) ?_;intro g1 g2 g3 d4 d5 g4;obtain⟨s,k,C,u,d,hB⟩:=ZS d5 (A6 s k C u d hB);obtain⟨d6,a6,i⟩:=a_ i;obtain⟨d7,d8⟩:=k.pushV a6 G;refine Zo ?_;refine aT_ s d4 (ai_ d7) (by decide) hB.keeps.size rfl rfl wV_ dZ_ rfl (by decide) ?_;intro a7 g5 I S d9;obtain⟨k,C,u,d,hB⟩:=ZS d9 (A5 k C u d hB);have a8:=k.push C (by decide) (by decide);rw[<-d8] at a8;clear k C;have J:=eO_ 17 14 a7;replace S:=S.rc J (by decide) (by decide);replace u:=u.rc J (by decide);replace d:=d.rc J (by decide);replace hB:=hB.rc J (by decide);generalize mrg 17 14 a7=e0 at*;refine Za rfl (Ze [(1,_),(2,_),(5,_),(6,_)] (x_ (nx (d_ (Zm rfl ?_)))));obtain⟨T,a9,i⟩:=a_ i;refine Zv (C_ rfl rfl a9) (Za rfl (Ze [(1,_),(2,_),(5,_),(6,_)] (u_ ?_)));have e1:=Zj i;subst e1;refine Zk [(1,_),(2,_),(5,_),(6,_)] ?_;intro a ha;exact⟨K33,by omega,d6,T,I,y++[⟨G⟩],e0,O,ha,hB,S,a8,u,d⟩
   ·replace i:=ZF R i;refine g_ (x_ (nx (d_ (Zm rfl ?_))));obtain⟨U,b0,i⟩:=a_ i;refine Zv (C_ rfl rfl b0) (Za rfl (Ze [(1,_),(2,_),(5,_),(6,_)] (u_ ?_)));have e2:=Zj i;subst e2;refine Zk [(1,_),(2,_),(5,_),(6,_)] ?_;intro a ha;exact⟨K33,by omega,x,U,j,y,g,O,ha,hB,s,k,u,d⟩
  ·replace i:=ZF Q i;refine s_ ?_;refine n_ (n_ (N_ ?_));refine p_ ?_;have e3:=Zj i;subst e3;refine Zk [(1,_),(2,_),(5,_)] ?_;intro a ha;exact⟨x,f,j,y,g,O,ha,hB,s,k,u,d⟩
 ·rintro a m ⟨x,f,j,y,g,rfl,ha,hB,s,k,u,d⟩;dsimp only at hF;refine ap_k ha ?_;refine Zn (Zv (E_ rfl wX_ wU_ rfl u.cells) (Zm rfl ?_));obtain⟨E,b1,hF⟩:=a_ hF;refine Zo ?_;refine o_ (pe_ fuel m g 18 (by decide) _ F (⟨_,_,rfl,c0.keep hB.keeps,c1.keep hB.keeps⟩) _ x (k.z s) true E b1) Tryz.call113 ⟨rfl,rfl,rfl,trivial⟩ ?_;rintro g6 g7 ⟨g8,b2,e4,rfl,e5,V,e6,e7⟩;have e8:=e6.stp' 18 e7;refine⟨_,rfl,?_⟩;obtain⟨b3,b4,rfl,L,M⟩:=e5;obtain⟨d,hB⟩:=ZS e8 (A2 d hB);refine Zv (t_ rfl rfl) (Zv (t_ rfl rfl) (Zv (t_ rfl rfl) ?_));refine Z_ trivial ?_;refine T_ d rfl rfl rfl ay_ (by intro c hc;simp only[List.mem_cons,List.not_mem_nil,or_false] at hc;rcases hc with rfl|rfl|rfl|rfl<;>first|rfl|exact L.one1|exact M.one1) ?_;intro g9 b5 b6;obtain⟨L,M,V,hB⟩:=ZS b6 (A4 L M V hB);refine Za rfl (Za rfl (Ze [(2,_),(3,_),(4,_)] (nx (j_ ?_))));have b7:=Zj hF;subst b7;refine D_ (P:=wQ_) (vs:=[.agg #[ZI E.1.Labels,ZI E.1.Degree,b3,b4],b2,.bool E.2.2]) Tryz.results108 ⟨⟨_,rfl,al_ wX_ wU_ rfl b5.cells⟩,rfl,rfl,trivial⟩ ?_;exact⟨[ZI E.1.Labels,ZI E.1.Degree,b3,b4],_,rt oo e4 w.heap.size 9 t,rfl,⟨_,_,rfl,L.rt hB 9 t (by decide),M.rt hB 9 t (by decide)⟩,V.rt hB 9 t (by decide),hB.keeps,am_ _ _ _ _ _⟩
 ·exact λ_ _ h=>h.elim
def fT_(fuel:Nat)(c:b_):Option (b_×(List Int)×Bool):=
  (eC_ fuel c)>>=λb=>
  if !b then
    some ((⟨0,0,[],[]⟩:b_),[],false)
  else
    (hO_ fuel c)>>=λa=>
    some (a.1,a.2.1,a.2.2)
def qo_(oo:Tg)(t:Nat)(w:World)(r:b_×Yl×Bool):Ending->World->Prop:=λe w'=>∃(a:List Value)(c:Value)(o':Tg),e=.returned (.tuple #[.agg a.toArray,c,.bool r.2.2])∧Rp.rd o' w' a r.1∧RdL o' w' c r.2.1∧Keeps w w'∧∀b,b<w.heap.size->o' b=oo b
theorem qe_(fuel:Nat)(w:World)(oo:Tg)(t:Nat)(ht:2<=t)(R:List Value)(i:b_)(X:Rp.rd zt w R i)(r:b_×Yl×Bool)(hF:fT_ fuel i=some r):
    Calls wQ_ 75 #[.agg R.toArray] w (qo_ oo t w r):=by
 unfold fT_ at hF;obtain⟨S,T,rfl,U,V⟩:=X;have hB:Bs oo (col oo) w w:=Bs.start _ _;refine i_ (n:=14) (vs:=[.agg #[ZI i.Labels,ZI i.Degree,S,T]]) Tryz.func75 rfl rfl ?_;generalize col oo=o at*;refine Zq (Zo ?_);refine as_ (o:=o) w.heap.size 11 hB.keeps.size (cs:=[ZI i.Labels,ZI i.Degree,S,T]) rfl rfl ?_;intro Y a6 W q Z;replace hB:=hB.stp Z;refine Zo ?_;refine av_ (o:=Y) w.heap.size 12 hB.keeps.size (cs:=[ZI 0,ZI 0,.slice none 0 0,.slice none 0 0]) xf_ rfl ?_;intro j A d b B;obtain⟨q,hB⟩:=ZS B (A2 q hB);refine Za rfl (Za rfl (Ze [(1,_),(2,_)] (nx (c_ (Zq (Zv (E_ rfl wX_ wU_ rfl q.cells) ?_))))));obtain⟨s,u,hF⟩:=a_ hF;refine Zo ?_;refine o_ (gu_ fuel A _ i (⟨_,_,rfl,U.keep hB.keeps,V.keep hB.keeps⟩) s u) Tryz.call47 ⟨rfl,trivial⟩ ?_;rintro a0 C ⟨rfl,D⟩;have E:=D.stp 999 j;refine⟨_,rfl,?_⟩;obtain⟨q,b,hB⟩:=ZS E (A3 q b hB);refine Zv (aI_ rfl) (Ze [(1,_),(2,_),(7,_)] (nx ?_));refine l_ rfl (λk=>?_) (λk=>?_)
 ·rw[if_pos k] at hF;refine Zq (Zv (ba_ (vs:=[]) (cs:=[ZI 0,ZI 0,.slice none 0 0,.slice none 0 0]) trivial (by kernel_rfl)) ?_);refine Z_ trivial ?_;refine T_ b rfl rfl rfl ay_ (by intro c hc;simp only[List.mem_cons,List.not_mem_nil,or_false] at hc;rcases hc with rfl|rfl|rfl|rfl<;>first|rfl) ?_;intro a1 F G;replace hB:=hB.stp G;refine Za rfl (Za rfl (Ze [(2,_),(3,_),(4,_)] (nx (j_ (y_ ?_)))));have H:=Zj hF;subst H;refine D_ (P:=wQ_) (vs:=[.agg #[ZI 0,ZI 0,.slice none 0 0,.slice none 0 0],.slice none 0 0,.bool false]) zo_ ⟨⟨_,rfl,al_ wX_ wU_ rfl F.cells⟩,rfl,rfl,trivial⟩ ?_;exact⟨[ZI 0,ZI 0,.slice none 0 0,.slice none 0 0],_,rt oo j w.heap.size 9 t,rfl,⟨_,_,rfl,RdL.nil _ _,RdL.nil _ _⟩,RdL.nil _ _,hB.keeps,am_ _ _ _ _ _⟩
 ·replace hF:=ZF k hF;refine g_ (Zn (Zv (E_ rfl wX_ wU_ rfl q.cells) ?_));obtain⟨a,v,hF⟩:=a_ hF;refine Zo ?_;refine o_ (sR_ fuel C j 14 (by decide) _ i (⟨_,_,rfl,U.keep hB.keeps,V.keep hB.keeps⟩) a v) Tryz.call108 ⟨rfl,trivial⟩ ?_;rintro a2 a3 ⟨a4,x,I,rfl,J,m,K,L⟩;have M:=K.stp' 14 L;refine⟨_,rfl,?_⟩;obtain⟨y,z,rfl,f,g⟩:=J;obtain⟨b,hB⟩:=ZS M (A2 b hB);refine Zv (t_ rfl rfl) (Zv (t_ rfl rfl) (Zv (t_ rfl rfl) ?_));refine Z_ trivial ?_;refine T_ b rfl rfl rfl ay_ (by intro c hc;simp only[List.mem_cons,List.not_mem_nil,or_false] at hc;rcases hc with rfl|rfl|rfl|rfl<;>first|rfl|exact f.one1|exact g.one1) ?_;intro a5 N O;obtain⟨f,g,m,hB⟩:=ZS O (A4 f g m hB);refine Za rfl (Za rfl (Ze [(2,_),(3,_),(4,_)] (nx (j_ ?_))));have Q:=Zj hF;subst Q;refine D_ (P:=wQ_) (vs:=[.agg #[ZI a.1.Labels,ZI a.1.Degree,y,z],x,.bool a.2.2]) zo_ ⟨⟨_,rfl,al_ wX_ wU_ rfl N.cells⟩,rfl,rfl,trivial⟩ ?_;exact⟨[ZI a.1.Labels,ZI a.1.Degree,y,z],_,rt oo I w.heap.size 9 t,rfl,⟨_,_,rfl,f.rt hB 9 t (by decide),g.rt hB 9 t (by decide)⟩,m.rt hB 9 t (by decide),hB.keeps,am_ _ _ _ _ _⟩
end
end Go.Proofs.YtdbbeldgdgonfaaGreat
