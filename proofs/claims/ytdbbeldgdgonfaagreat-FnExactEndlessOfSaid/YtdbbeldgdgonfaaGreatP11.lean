/- Part 11 of what this claim rests on (GEl1), packed by pack.py. -/
import Derived.Test.YtdbbeldgdgonfaaGreatP03
import Derived.Test.YtdbbeldgdgonfaaGreatP04
import Derived.Test.YtdbbeldgdgonfaaGreatP09
import Derived.Test.YtdbbeldgdgonfaaGreatP10
namespace Go.Proofs.YtdbbeldgdgonfaaGreat
open Tryz renaming prog→tX_, underlying41→tY_, sizeOf3→tZ_, zeroValue3→uh_, underlying28→ud_, isAgg3→ua_, call123→uJ_, isAgg28→ue_, sizeOf28→uc_, underlying22→ub_, sizeOf41→uf_, zeroValue41→uk_, isAgg41→ug_, call66→uo_, call121→uH_, results183→uT_, call183→vS_, zeroValue28→um_, results113→uU_, sizeOf22→ui_, isAgg22→uj_, call160→vU_, call155→vV_, results75→vX_
set_option linter.unusedSimpArgs false
set_option linter.unusedVariables false
section
set_option maxRecDepth 100000
set_option maxHeartbeats 2000000
open Go.RowKit
theorem dk_:Inf tX_ 3 (.int .i64 0) 1 8:=by unfold Inf;kernel_rfl
theorem dC_:Inf tX_ 41 (.slice none 0 0) 1 24:=by unfold Inf;kernel_rfl
theorem av_:(tX_.info? 28).map (·.size)=some 4:=by kernel_rfl
def ga_(a:Int)(b:Int):Option Bool:=
  (shr a b)>>=λc=>
  (rem c 2)>>=λd=>
  some (d==1)
def sA_(w:World)(r:Bool):Ending->World->Prop:=λe w'=>e=.returned (.bool r)∧Keeps w w'
theorem hI_(w:World)(a:Int)(b:Int)(r:Bool)(hF:ga_ a b=some r):
    Calls tX_ 163 #[.int .i64 a,.int .i64 b] w (sA_ w r):=by
 unfold ga_ at hF;have hB:Bs (λ_=>1) (col (λ_=>1)) w w:=Bs.start _ _;refine j_ (n:=10) (vs:=[ZI a,ZI b]) Tryz.func163 rfl rfl ?_;refine Zq (Za rfl (Ze [(0,_),(1,_)] (Zn (Zm rfl (Zm rfl ?_)))));obtain⟨i,c,hF⟩:=a_ hF;refine Zv (pe_ rfl rfl c) ?_;obtain⟨f,d,hF⟩:=a_ hF;refine Zv (ox_ rfl rfl d) (Zv (cD_ rfl rfl) (Za rfl (Ze [(4,_)] (nx (n_ ?_)))));have g:=Zj hF;subst g;refine Zr Tryz.results163 [.bool (f==1)] ?_;exact⟨rfl,hB.keeps⟩
def cV_(f:Int):((List Int)×Int)->Option (Lp ((List Int)×Int) ((List Int)×Int) (List Int)):=λ(s:(List Int)×Int)=>
  if decide (s.2<8) then
    (ga_ f s.2)>>=λa=>
    if a then
      (push s.1 s.2)>>=λb=>
      (ck (s.2+1))>>=λc=>
      some (.go (b,c))
    else
      (ck (s.2+1))>>=λd=>
      some (.go (s.1,d))
  else
    some (.out (s.1,s.2))
def cn_(fuel:Nat)(a:Int):Option (List Int):=
  (loopF (cV_ a) fuel ([],0))>>=λb=>
  match b with
  | .inl (c,d)=>
    some c
  | .inr _=>none
def nY_(oo:Tg)(t:Nat)(w:World)(r:Yl):Ending->World->Prop:=λe w'=>∃(a:Value)(o':Tg),e=.returned (a)∧Ow w.heap.size 3 t o' w' a r∧Keeps w w'∧∀b,b<w.heap.size->o' b=oo b
theorem gc_(fuel:Nat)(w:World)(oo:Tg)(t:Nat)(ht:2<=t)(c:Int)(r:Yl)(hF:cn_ fuel c=some r):
    Calls tX_ 123 #[.int .i64 c] w (nY_ oo t w r):=by
 unfold cn_ at hF;have hB:Bs oo (col oo) w w:=Bs.start _ _;refine j_ (n:=17) (vs:=[ZI c]) Tryz.func123 rfl rfl ?_;generalize col oo=o at*;refine Zq (Za rfl (Ze [(0,_)] (Zn (Za rfl (Ze [(0,_),(3,_)] (nx (b_ (Zq (Za rfl (Ze [(0,_),(3,_),(4,_)] (nx ?_)))))))))));have S:Ow w.heap.size 3 11 o w (.slice none 0 0) ([]:Yl):=Ow.nil _ _ _ _ _;obtain⟨R,F,hF⟩:=a_ hF;refine A_ (λa m=>∃(i:Yl)(f:Int)(d:Value)(g:Tg),R=.inl (i,f)∧Fr a 17 [(3,d)]∧Bs oo g w m∧Ow w.heap.size 3 11 g m d i) (λ_ _=>False) ?_ ?_ ?_
 ·refine f_ ?_;refine z_ (λ(K:Nat) a m=>∃(i:Yl)(f:Int)(d:Value)(g:Tg),loopF (cV_ c) K (i,f)=some R∧Fr a 17 [(0,ZI c),(3,d),(4,ZI f)]∧Bs oo g w m∧Ow w.heap.size 3 11 g m d i) fuel (λa ha=>⟨[],0,.slice none 0 0,o,F,ha.sb,hB,S⟩) ?_;rintro K12 a m ⟨i,f,d,g,T,ha,hB,j⟩;obtain⟨K16,U,V,b,q⟩:=ad_ T;dsimp only[cV_] at b;refine O_ ha ?_;refine b_ (Zq (Zm rfl (Zv (u_ rfl rfl) (Ze [(0,_),(3,_),(4,_),(6,_)] (nx ?_)))));refine p_ rfl (λs=>?_) (λs=>?_)
  ·rw[if_pos s] at b;refine h_ (nx (b_ (f_ (Zq (Zm rfl (Zm rfl ?_))))));obtain⟨y,z,b⟩:=a_ b;refine Zo ?_;refine o_ (hI_ m c f y z) Tryz.call163 ⟨rfl,rfl,trivial⟩ ?_;rintro W X ⟨rfl,G⟩;have A:=G.stp 999 g;refine⟨_,rfl,?_⟩;replace j:=j.stp A;replace hB:=hB.stp A;refine Ze [(0,_),(3,_),(4,_),(11,_)] (nx ?_);refine p_ rfl (λu=>?_) (λu=>?_)
   ·rw[if_pos u] at b;refine d_ (Zm rfl (Zm rfl (Zo ?_)));refine aB_ (o:=g) (cs:=[ZI f]) (xs:=([f]:Yl)) (vs:=[(0,ZI f)]) ⟨_,_,rfl,rfl,rfl⟩ rfl ⟨rfl,rfl,trivial⟩ tY_ tZ_ uh_ (by decide) (fill1 rfl) (by simp) ?_;intro Y Z a0 H B a1;replace j:=j.stp B;replace hB:=hB.stp B;obtain⟨I,C,b⟩:=a_ b;refine Zo ?_;refine bf_ j H (ai_ C) (by decide) hB.keeps.size rfl rfl tY_ dk_ rfl (by decide) ?_;intro J a2 k L M;replace hB:=hB.stp M;refine Za rfl (Ze [(0,_),(3,_),(4,_)] (y_ (nx (d_ (Zm rfl ?_)))));obtain⟨v,D,b⟩:=a_ b;refine Zv (C_ rfl rfl D) (Za rfl (Ze [(0,_),(3,_),(4,_)] (x_ ?_)));have N:=Zj b;subst N;refine Zk [(0,_),(3,_),(4,_)] ?_;intro a ha;exact⟨K16,by omega,I,v,k,J,q,ha,hB,L⟩
   ·replace b:=ZF u b;refine h_ (y_ (nx (d_ (Zm rfl ?_))));obtain⟨x,E,b⟩:=a_ b;refine Zv (C_ rfl rfl E) (Za rfl (Ze [(0,_),(3,_),(4,_)] (x_ ?_)));have O:=Zj b;subst O;refine Zk [(0,_),(3,_),(4,_)] ?_;intro a ha;exact⟨K16,by omega,i,x,d,g,q,ha,hB,j⟩
  ·replace b:=ZF s b;refine w_ ?_;refine m_ (m_ (Q_ ?_));refine s_ ?_;have P:=Zj b;subst P;refine Zk [(3,_)] ?_;intro a ha;exact⟨i,f,d,g,q,ha,hB,j⟩
 ·rintro a m ⟨i,f,d,g,rfl,ha,hB,j⟩;dsimp only at hF;refine ap_k ha ?_;refine Zn (Zm rfl (Za rfl (Ze [(2,_)] (nx (n_ ?_)))));have Q:=Zj hF;subst Q;refine Zr Tryz.results123 [d] ?_;exact⟨_,rt oo g w.heap.size 11 t,rfl,j.rt hB (by decide) t,hB.keeps,ac_ _ _ _ _ _⟩
 ·exact λ_ _ h=>h.elim
def dM_(f:c_)(a:Int):Int->Int->Bool->Option (Lp Bool Bool Int):=λ(g:Int)(b:Int)(s:Bool)=>
  (
    if s then
      (fK_ f b a)>>=λc=>
      some c
    else
      some false)>>=λd=>
  some (.go d)
def dT_(fuel:Nat)(j:c_)(k:Int):(Int×Int)->Option (Lp (Int×Int) (Int×Int) Int):=λ(s:Int×Int)=>
  if decide (s.2<j.Labels) then
    (cn_ fuel k)>>=λa=>
    (forI (dM_ j s.2) a 0 true)>>=λb=>
    match b with
    | .inl c=>
      if c then
        (shl 1 s.2)>>=λd=>
        (ck (s.1+d))>>=λf=>
        (ck (s.2+1))>>=λg=>
        some (.go (f,g))
      else
        (ck (s.2+1))>>=λi=>
        some (.go (s.1,i))
    | .inr _=>none
  else
    some (.out (s.1,s.2))
def fP_(fuel:Nat)(c:c_)(d:Int):Option Int:=
  (loopF (dT_ fuel c d) fuel (0,0))>>=λa=>
  match a with
  | .inl (b,f)=>
    some b
  | .inr _=>none
def qb_(w:World)(r:Int):Ending->World->Prop:=λe w'=>e=.returned (.int .i64 r)∧Keeps w w'
theorem mH_(fuel:Nat)(w:World)(c4:List Value)(z:c_)(c5:Rp.rd zt w c4 z)(j:Int)(r:Int)(hF:fP_ fuel z j=some r):
    Calls tX_ 155 #[.agg c4.toArray,.int .i64 j] w (qb_ w r):=by
 unfold fP_ at hF;obtain⟨O,P,rfl,c6,c7⟩:=c5;have hB:Bs (λ_=>1) (col (λ_=>1)) w w:=Bs.start _ _;refine j_ (n:=37) (vs:=[.agg #[ZI z.Labels,ZI z.Degree,O,P],ZI j]) Tryz.func155 rfl rfl ?_;refine Zq (Zo ?_);refine aD_ (o:=(col (λ_=>1))) w.heap.size 11 hB.keeps.size (cs:=[ZI z.Labels,ZI z.Degree,O,P]) rfl rfl ?_;intro c8 e3 k A c9;replace hB:=hB.stp c9;refine Za rfl (Ze [(1,_),(2,_)] (Zn (Za rfl (Ze [(1,_),(2,_),(5,_)] (nx (b_ (Zq (Za rfl (Ze [(1,_),(2,_),(5,_),(6,_)] (nx ?_))))))))));obtain⟨Q,R,hF⟩:=a_ hF;refine A_ (λa B=>∃(b:Int)(c:Int)(y:Tg),Q=.inl (b,c)∧Fr a 37 [(5,ZI b)]∧Bs (λ_=>1) y w B) (λ_ _=>False) ?_ ?_ ?_
 ·refine f_ ?_;refine z_ (λ(K:Nat) a B=>∃(b:Int)(c:Int)(y:Tg),loopF (dT_ fuel z j) K (b,c)=some Q∧Fr a 37 [(1,ZI j),(2,ZP k),(5,ZI b),(6,ZI c)]∧Bs (λ_=>1) y w B∧Bx w.heap.size 11 y B k 28 [ZI z.Labels,ZI z.Degree,O,P]) fuel (λa ha=>⟨0,0,c8,R,ha.sb,hB,A⟩) ?_;rintro K18 a B ⟨b,c,y,a7,ha,hB,A⟩;obtain⟨K22,d0,d1,d,H⟩:=ad_ a7;dsimp only[dT_] at d;refine O_ ha ?_;refine b_ (Zq (Zm rfl (Zv (r_ rfl ud_ rfl tZ_) (Zv (e_ rfl ua_ (A.cell rfl)) (Zv (u_ rfl rfl) (Ze [(1,_),(2,_),(5,_),(6,_),(13,_)] (nx ?_)))))));refine p_ rfl (λI=>?_) (λI=>?_)
  ·rw[if_pos I] at d;refine h_ (nx (b_ (f_ (Zq (Za rfl (Ze [(1,_),(2,_),(5,_),(6,_),(7,_)] (nx (b_ (Zq (Zm rfl ?_))))))))));obtain⟨f,S,d⟩:=a_ d;refine Zo ?_;refine o_ (gc_ fuel B y 12 (by decide) j f S) uJ_ ⟨rfl,trivial⟩ ?_;rintro d2 d3 ⟨q,a8,rfl,v,a9,b0⟩;have T:=a9.stp' 12 b0;replace v:=v.mono hB.keeps.size;refine⟨_,rfl,?_⟩;replace A:=A.stp T;replace hB:=hB.stp T;refine Zv (bt_ rfl v tY_) (Zm rfl (Ze [(1,_),(2,_),(5,_),(6,_),(7,_),(17,_),(18,_),(19,_)] (nx ?_)));obtain⟨U,V,d⟩:=a_ d;refine A_ (λa u=>∃(i:Bool)(m:Tg),U=.inl i∧Fr a 37 [(1,ZI j),(2,ZP k),(5,ZI b),(6,ZI c),(7,.bool i)]∧Bs (λ_=>1) m w u∧Bx w.heap.size 11 m u k 28 [ZI z.Labels,ZI z.Degree,O,P]) (λ_ _=>False) ?_ ?_ ?_
   ·refine f_ ?_;refine z_ (λ(K:Nat) a u=>∃(g:Int)(i:Bool)(m:Tg),forI (dM_ z c) (f.drop g.toNat) g i=some U∧(f.drop g.toNat).length=K∧0<=g∧Fr a 37 [(1,ZI j),(2,ZP k),(5,ZI b),(6,ZI c),(7,.bool i),(17,q),(18,ZI (f.length:Int)),(19,ZI g)]∧Bs (λ_=>1) m w u∧Ow w.heap.size 3 12 m u q f∧Bx w.heap.size 11 m u k 28 [ZI z.Labels,ZI z.Degree,O,P]) _ (λa ha=>⟨0,true,a8,V,rfl,Int.le_refl 0,ha.sb,hB,v,A⟩) ?_;rintro K42 a u ⟨g,i,m,W,b1,b2,ha,hB,v,A⟩;by_cases E:g<(f.length:Int)
    ·obtain⟨X,d4,Y,F,b3⟩:=R_ b2 E W;have hle:=v.len_le;dsimp only[dM_] at F;refine O_ ha ?_;refine Zq (Zv (u_ rfl rfl) (Ze [(1,_),(2,_),(5,_),(6,_),(7,_),(17,_),(18,_),(19,_),(20,_)] (nx (b_ ?_))));refine M_ (Zb (decide_eq_true E)) ?_;refine h_ (nx (b_ (f_ (Zq (Zo ?_)))));refine fS_ v Y rfl rfl tY_ tZ_ ?_;intro d5 d6 d7 b4 b5;cases b5
     refine Zv (e_ rfl ua_ (i_ b4)) (Za rfl (Ze [(1,_),(2,_),(5,_),(6,_),(7,_),(9,_),(17,_),(18,_),(19,_)] (nx (d_ (Zm rfl (Zm rfl ?_))))));obtain⟨D,x,F⟩:=a_ F;refine aF_ 5 (λb6 Z=>Fr b6 37 [(1,ZI j),(2,ZP k),(5,ZI b),(6,ZI c),(7,.bool i),(17,q),(18,ZI (f.length:Int)),(19,ZI g),(29,.bool D)]∧Keeps u Z) ?_ ?_;all_goals simp only[List.take_succ_cons,List.take_zero,List.drop_succ_cons,List.drop_zero]
     ·have kp:Keeps u u:=Keeps.refl _;rcases Bool.eq_false_or_eq_true (i) with s|s
      ·rw[if_pos s] at x;refine q_ (H_ rfl ue_ uc_ rfl A.cells) (by decide) ⟨_,rfl,Zb s⟩ (q_ (g_ rfl) (by decide) ⟨_,rfl,Zb s⟩ (q_ (g_ rfl) (by decide) ⟨_,rfl,Zb s⟩ ?_));obtain⟨a0,a1,x⟩:=a_ x;refine ct_ (by decide) ⟨_,rfl,Zb s⟩ ?_;refine o_ (mN_ u _ z (⟨_,_,rfl,c6.keep hB.keeps,c7.keep hB.keeps⟩) X c a0 a1) Tryz.call124 ⟨rfl,rfl,rfl,trivial⟩ ?_;rintro d8 d9 ⟨rfl,a2⟩;have e0:=a2.stp 999 m;refine⟨_,rfl,?_⟩;replace kp:=Keeps.trans kp a2;refine Zv (L_ (Zb s) rfl) ?_;have C:=Zj x;refine Ze [(1,_),(2,_),(5,_),(6,_),(7,_),(17,_),(18,_),(19,_),(29,_)] ?_;subst C;refine s_ (λa ha=>⟨ha,kp⟩)
      ·replace x:=ZF s x;refine v_ rfl rfl (by rw[s];rfl) (by decide) ?_;refine v_ rfl rfl (by rw[s];rfl) (by decide) ?_;refine v_ rfl rfl (by rw[s];rfl) (by decide) ?_;refine v_ rfl rfl (by rw[s];rfl) (by decide) ?_;refine Zv (G_ (Zb s) rfl) ?_;have C:=Zj x;refine Ze [(1,_),(2,_),(5,_),(6,_),(7,_),(17,_),(18,_),(19,_),(29,_)] ?_;subst C;refine s_ (λa ha=>⟨ha,kp⟩)
     rintro e1 Z ⟨ha,b7⟩;have J:=b7.stp 999 m;replace v:=v.stp J;replace A:=A.stp J;replace hB:=hB.stp J;refine aS_ ha ?_;refine Za rfl (Ze [(1,ZI j),(2,ZP k),(5,ZI b),(6,ZI c),(7,.bool D),(17,q),(18,ZI (f.length:Int)),(19,ZI g)] (y_ (nx (d_ (Zv (C_ rfl rfl (F_ (by omega) (by omega))) (Zm rfl (Ze [(1,_),(2,_),(5,_),(6,_),(7,_),(17,_),(18,_),(19,_)] (x_ ?_))))))));have b8:=Zj F;subst b8;refine Zk [(1,_),(2,_),(5,_),(6,_),(7,_),(17,_),(18,_),(19,_)] ?_;intro a ha;exact⟨_,(by rw[<-b1];simp only[List.length_drop];omega),g+1,D,m,b3,rfl,by omega,ha,hB,v,A⟩
    ·have b9:=S_ E W;refine O_ ha ?_;refine Zq (Zv (u_ rfl rfl) (Ze [(1,_),(2,_),(5,_),(6,_),(7,_),(17,_),(18,_),(19,_),(20,_)] (nx (b_ ?_))));refine D_ (Zb (decide_eq_false E)) ?_;refine w_ ?_;refine m_ (m_ (Q_ ?_));refine s_ ?_;refine Zk [(1,_),(2,_),(5,_),(6,_),(7,_)] ?_;intro a ha;exact⟨i,m,b9,ha,hB,A⟩
   ·rintro a u ⟨i,m,rfl,ha,hB,A⟩;dsimp only at d;refine ap_k ha ?_;refine Zn (Zm rfl (Ze [(1,_),(2,_),(5,_),(6,_),(31,_)] (nx ?_)));refine p_ rfl (λL=>?_) (λL=>?_)
    ·rw[if_pos L] at d;refine d_ (Zm rfl (Zm rfl ?_));obtain⟨e2,a3,d⟩:=a_ d;refine Zv (fI_ rfl rfl a3) ?_;obtain⟨G,a4,d⟩:=a_ d;refine Zv (C_ rfl rfl a4) (Za rfl (Ze [(1,_),(2,_),(5,_),(6,_)] (y_ (nx (d_ (Zm rfl ?_))))));obtain⟨M,a5,d⟩:=a_ d;refine Zv (C_ rfl rfl a5) (Za rfl (Ze [(1,_),(2,_),(5,_),(6,_)] (x_ ?_)));have c0:=Zj d;subst c0;refine Zk [(1,_),(2,_),(5,_),(6,_)] ?_;intro a ha;exact⟨K22,by omega,G,M,m,H,ha,hB,A⟩
    ·replace d:=ZF L d;refine h_ (y_ (nx (d_ (Zm rfl ?_))));obtain⟨N,a6,d⟩:=a_ d;refine Zv (C_ rfl rfl a6) (Za rfl (Ze [(1,_),(2,_),(5,_),(6,_)] (x_ ?_)));have c1:=Zj d;subst c1;refine Zk [(1,_),(2,_),(5,_),(6,_)] ?_;intro a ha;exact⟨K22,by omega,b,N,m,H,ha,hB,A⟩
   ·exact λ_ _ h=>h.elim
  ·replace d:=ZF I d;refine w_ ?_;refine m_ (m_ (Q_ ?_));refine s_ ?_;have c2:=Zj d;subst c2;refine Zk [(5,_)] ?_;intro a ha;exact⟨b,c,y,H,ha,hB⟩
 ·rintro a B ⟨b,c,y,rfl,ha,hB⟩;dsimp only at hF;refine ap_k ha ?_;refine Zn (Zm rfl (Za rfl (Ze [(4,_)] (nx (n_ ?_)))));have c3:=Zj hF;subst c3;refine Zr Tryz.results155 [ZI b] ?_;exact⟨rfl,hB.keeps⟩
 ·exact λ_ _ h=>h.elim
def cE_(g:Int)(c:List Int):((List (List Int))×Int)->Option (Lp ((List (List Int))×Int) ((List (List Int))×Int) (List (List Int))):=λ(s:(List (List Int))×Int)=>
  if decide (s.2<g) then
    (da_ c)>>=λd=>
    (push d s.2)>>=λf=>
    (push s.1 f)>>=λa=>
    (ck (s.2+1))>>=λb=>
    some (.go (a,b))
  else
    some (.out (s.1,s.2))
def ee_(g:Int)(f:List Int):((List (List Int))×Int)->Option (Lp ((List (List Int))×Int) ((List (List Int))×Int) (List (List Int))):=λ(s:(List (List Int))×Int)=>
  if decide (s.2<g) then
    (da_ f)>>=λa=>
    (push a s.2)>>=λb=>
    (push s.1 b)>>=λc=>
    (ck (s.2+1))>>=λd=>
    some (.go (c,d))
  else
    some (.out (s.1,s.2))
def dj_(fuel:Nat)(k:Int)(b:Int):Int->(List Int)->(List (List Int))->Option (Lp (List (List Int)) (List (List Int)) (List (List Int))):=λ(n:Int)(a:List Int)(s:List (List Int))=>
  if decide (b>0) then
    (ck (b-1))>>=λf=>
    (ix a f)>>=λg=>
    (loopF (cE_ k a) fuel (s,g))>>=λi=>
    match i with
    | .inl (j,q)=>
      some (.go j)
    | .inr _=>none
  else
    (loopF (ee_ k a) fuel (s,0))>>=λc=>
    match c with
    | .inl (d,m)=>
      some (.go d)
    | .inr _=>none
def cy_(fuel:Nat)(d:Int)(f:Int):((List (List Int))×Int)->Option (Lp ((List (List Int))×Int) ((List (List Int))×Int) (List (List Int))):=λ(s:(List (List Int))×Int)=>
  if decide (s.2<f) then
    (forI (dj_ fuel d s.2) s.1 0 [])>>=λb=>
    match b with
    | .inl c=>
      (ck (s.2+1))>>=λa=>
      some (.go (c,a))
    | .inr _=>none
  else
    some (.out (s.1,s.2))
def dJ_(fuel:Nat)(b:Int)(c:Int):Option (List (List Int)):=
  (loopF (cy_ fuel b c) fuel (([[]]:List (List Int)),0))>>=λa=>
  match a with
  | .inl (d,f)=>
    some d
  | .inr _=>none
def lQ_(oo:Tg)(t:Nat)(w:World)(r:Yk):Ending->World->Prop:=λe w'=>∃(a:Value)(o':Tg),e=.returned (a)∧RdL o' w' a r∧Keeps w w'∧∀b,b<w.heap.size->o' b=oo b
theorem iT_(fuel:Nat)(w:World)(oo:Tg)(t:Nat)(ht:2<=t)(g:Int)(q:Int)(r:Yk)(hF:dJ_ fuel g q=some r):
    Calls tX_ 110 #[.int .i64 g,.int .i64 q] w (lQ_ oo t w r):=by
 unfold dJ_ at hF;have hB:Bs oo (col oo) w w:=Bs.start _ _;refine j_ (n:=48) (vs:=[ZI g,ZI q]) Tryz.func110 rfl rfl ?_;generalize col oo=o at*;refine Zq (Za rfl (Ze [(0,_),(1,_)] (Zn (Zo ?_))));refine gj_ w.heap.size 11 hB.keeps.size (o:=o) (cs:=[.slice none 0 0]) (xs:=([[]]:Yk)) (vs:=[(0,.slice none 0 0)]) ⟨_,_,rfl,jL_ (RdL.nil _ _),rfl⟩ rfl ⟨rfl,rfl,trivial⟩ ub_ uf_ uk_ (by decide) (fill1 rfl) (by simp) ?_;intro n0 p4 j2 j3 n1;replace hB:=hB.stp n1;refine Za rfl (Ze [(0,_),(1,_),(5,_)] (nx (b_ (Zq (Za rfl (Ze [(0,_),(1,_),(5,_),(6,_)] (nx ?_)))))));have p5:=j3.frzF;replace j3:=j3.frz;replace hB:=hB.frz 11 (by decide);generalize (frz 11 n0)=n2 at*;obtain⟨e6,e7,hF⟩:=a_ hF;refine A_ (λa Y=>∃(k:Yk)(b:Int)(m:Value)(O:Tg),e6=.inl (k,b)∧Fr a 48 [(5,m)]∧Bs oo O w Y∧RdL O Y m k) (λ_ _=>False) ?_ ?_ ?_
 ·refine f_ ?_;refine z_ (λ(K:Nat) a Y=>∃(k:Yk)(b:Int)(m:Value)(O:Tg),loopF (cy_ fuel g q) K (k,b)=some e6∧Fr a 48 [(0,ZI g),(1,ZI q),(5,m),(6,ZI b)]∧Bs oo O w Y∧RdL O Y m k) fuel (λa ha=>⟨([[]]:Yk),0,j2,n2,e7,ha.sb,hB,j3⟩) ?_;rintro K18 a Y ⟨k,b,m,O,j4,ha,hB,c⟩;obtain⟨K22,n3,n4,R,e8⟩:=ad_ j4;dsimp only[cy_] at R;refine O_ ha ?_;refine b_ (Zq (Zm rfl (Zm rfl (Zv (u_ rfl rfl) (Ze [(0,_),(1,_),(5,_),(6,_),(15,_)] (nx ?_))))));refine p_ rfl (λd5=>?_) (λd5=>?_)
  ·rw[if_pos d5] at R;refine h_ (nx (b_ (f_ (Zq (Za rfl (Ze [(0,_),(1,_),(5,_),(6,_),(7,_)] (nx (b_ (Zq (Zm rfl (Zv (J_ rfl c ub_) (Zm rfl ?_))))))))))));refine Ze [(0,_),(1,_),(6,_),(7,_),(18,_),(19,_),(20,_)] (nx ?_);have j5:Ow w.heap.size 41 12 O Y (.slice none 0 0) ([]:List Hv):=Ow.nil _ _ _ _ _;have j6:Rws w.heap.size 3 13 O Y [] ([]:Yk):=Rws.nil _ _ _ _ _;obtain⟨e9,f0,R⟩:=a_ R;refine A_ (λa S=>∃(Q:Yk)(i:Value)(T:List Hv)(C:Tg),e9=.inl Q∧Fr a 48 [(0,ZI g),(1,ZI q),(6,ZI b),(7,i)]∧Bs oo C w S∧Ow w.heap.size 41 12 C S i T∧Rws w.heap.size 3 13 C S T Q) (λ_ _=>False) ?_ ?_ ?_
   ·refine f_ ?_;refine z_ (λ(K:Nat) a S=>∃(d:Int)(Q:Yk)(i:Value)(T:List Hv)(C:Tg),forI (dj_ fuel g b) (k.drop d.toNat) d Q=some e9∧(k.drop d.toNat).length=K∧0<=d∧Fr a 48 [(0,ZI g),(1,ZI q),(6,ZI b),(7,i),(18,m),(19,ZI (k.length:Int)),(20,ZI d)]∧Bs oo C w S∧Ow w.heap.size 41 12 C S i T∧Rws w.heap.size 3 13 C S T Q∧RdL C S m k) _ (λa ha=>⟨0,[],.slice none 0 0,[],O,f0,rfl,Int.le_refl 0,ha.sb,hB,j5,j6,c⟩) ?_;rintro K39 a S ⟨d,Q,i,T,C,f1,f2,j7,ha,hB,b3,b4,c⟩;by_cases c5:d<(k.length:Int)
    ·obtain⟨b1,n5,f3,F,f4⟩:=R_ j7 c5 f1;have hle:=c.len_le;dsimp only[dj_] at F;refine O_ ha ?_;refine Zq (Zv (u_ rfl rfl) (Ze [(0,_),(1,_),(6,_),(7,_),(18,_),(19,_),(20,_),(21,_)] (nx (b_ ?_))));refine M_ (Zb (decide_eq_true c5)) ?_;refine h_ (nx (b_ (f_ (Zq (Zo ?_)))));refine fn_ c f3 rfl rfl ub_ uf_ ?_;intro n6 n7 n8 j8 j9;obtain⟨u,rfl,f⟩:=j9;refine Zv (e_ rfl ug_ (i_ j8)) (Za rfl (Ze [(0,_),(1,_),(6,_),(7,_),(9,_),(18,_),(19,_),(20,_)] (Zn (Za rfl (Ze [(0,_),(1,_),(6,_),(7,_),(9,_),(10,_),(18,_),(19,_),(20,_)] (nx (b_ (Zq (Zm rfl (Zv (ef_ rfl rfl) (Ze [(0,_),(1,_),(6,_),(7,_),(9,_),(10,_),(18,_),(19,_),(20,_),(25,_)] (nx ?_))))))))))));refine p_ rfl (λd6=>?_) (λd6=>?_)
     ·rw[if_pos d6] at F;refine d_ (Zm rfl (Zm rfl ?_));obtain⟨n9,f5,F⟩:=a_ F;refine Zv (bE_ rfl rfl f5) ?_;obtain⟨c6,f6,F⟩:=a_ F;refine Zo ?_;refine fn_ f f6 rfl rfl tY_ tZ_ ?_;intro o0 o1 o2 k0 k1;cases k1
      refine Zv (e_ rfl ua_ (i_ k0)) (Za rfl (Ze [(0,_),(1,_),(6,_),(7,_),(9,_),(10,_),(18,_),(19,_),(20,_)] (Zn (Zm rfl (Za rfl (Ze [(0,_),(1,_),(6,_),(7,_),(9,_),(11,_),(18,_),(19,_),(20,_)] (nx ?_)))))));obtain⟨f7,f8,F⟩:=a_ F;refine A_ (λa I=>∃(Z:Yk)(J:Int)(L:Value)(U:List Hv)(G:Tg),f7=.inl (Z,J)∧Fr a 48 [(0,ZI g),(1,ZI q),(6,ZI b),(7,L),(18,m),(19,ZI (k.length:Int)),(20,ZI d)]∧Bs oo G w I∧Ow w.heap.size 41 12 G I L U∧Rws w.heap.size 3 13 G I U Z∧RdL G I m k) (λ_ _=>False) ?_ ?_ ?_
      ·refine f_ ?_;refine z_ (λ(K:Nat) a I=>∃(Z:Yk)(J:Int)(L:Value)(U:List Hv)(G:Tg),loopF (cE_ g b1) K (Z,J)=some f7∧Fr a 48 [(0,ZI g),(1,ZI q),(6,ZI b),(7,L),(9,u),(11,ZI J),(18,m),(19,ZI (k.length:Int)),(20,ZI d)]∧Bs oo G w I∧Ow w.heap.size 41 12 G I L U∧Rws w.heap.size 3 13 G I U Z∧RdL G I u b1∧RdL G I m k) fuel (λa ha=>⟨Q,c6,i,T,C,f8,ha.sb,hB,b3,b4,f,c⟩) ?_;rintro K72 a I ⟨Z,J,L,U,G,k2,ha,hB,P,D,f,c⟩;obtain⟨K76,o3,o4,M,f9⟩:=ad_ k2;dsimp only[cE_] at M;refine O_ ha ?_;refine b_ (Zq (Zm rfl (Zm rfl (Zv (u_ rfl rfl) (Ze [(0,_),(1,_),(6,_),(7,_),(9,_),(11,_),(18,_),(19,_),(20,_),(34,_)] (nx ?_))))));refine p_ rfl (λd7=>?_) (λd7=>?_)
       ·rw[if_pos d7] at M;refine h_ (nx (b_ (f_ (d_ (Zm rfl (Zm rfl ?_))))));obtain⟨k3,g0,M⟩:=a_ M;refine Zo ?_;refine o_ (er_ I G 14 (by decide) _ b1 f.z k3 g0) uo_ ⟨rfl,trivial⟩ ?_;rintro o5 o6 ⟨o7,k4,rfl,b5,k5,k6⟩;have b6:=k5.stp' 14 k6;replace b5:=b5.mono hB.keeps.size;refine⟨_,rfl,?_⟩;replace P:=P.stp b6;replace D:=D.stp b6;replace f:=f.stp b6;replace c:=c.stp b6;replace hB:=hB.stp b6;refine Zm rfl (Zo ?_);refine aB_ (o:=k4) (cs:=[ZI J]) (xs:=([J]:Yl)) (vs:=[(0,ZI J)]) ⟨_,_,rfl,rfl,rfl⟩ rfl ⟨rfl,rfl,trivial⟩ tY_ tZ_ uh_ (by decide) (fill1 rfl) (by simp) ?_;intro o8 o9 p0 k7 b2 p1;replace P:=P.stp b2;replace D:=D.stp b2;replace f:=f.stp b2;replace c:=c.stp b2;replace b5:=b5.stp b2;replace hB:=hB.stp b2;obtain⟨p2,g1,M⟩:=a_ M;refine Zo ?_;refine bf_ b5 k7 (ai_ g1) (by decide) hB.keeps.size rfl rfl tY_ dk_ rfl (by decide) ?_;intro k8 p3 b7 a0 b8;replace P:=P.stp b8;replace D:=D.stp b8;replace f:=f.stp b8;replace c:=c.stp b8;replace hB:=hB.stp b8;refine Zo ?_;refine aB_ (o:=k8) (cs:=[b7]) (xs:=([⟨b7⟩]:List Hv)) (vs:=[(0,b7)]) ⟨_,_,rfl,jb_ a0,rfl⟩ rfl ⟨rfl,rfl,trivial⟩ ub_ uf_ uk_ (by decide) (fill1 a0.cells1) (by simp) ?_;intro k9 l0 l1 g2 V l2;replace P:=P.stp V;replace D:=D.stp V;replace f:=f.stp V;replace c:=c.stp V;replace a0:=a0.stp V;replace hB:=hB.stp V;obtain⟨g3,d8,M⟩:=a_ M;obtain⟨g4,g5⟩:=D.pushV d8 b7;refine Zo ?_;refine bf_ P g2 (ai_ g4) (by decide) hB.keeps.size rfl rfl ub_ dC_ rfl (by decide) ?_;intro c7 l3 a7 b9 a1;replace D:=D.stp a1;replace f:=f.stp a1;replace c:=c.stp a1;replace a0:=a0.stp a1;replace hB:=hB.stp a1;have c8:=D.push a0 (by decide) (by decide);rw[<-g5] at c8;clear D a0;have a8:=fe_ 14 13 c7;replace f:=f.rc a8 (by decide);replace c:=c.rc a8 (by decide);replace b9:=b9.rc a8 (by decide) (by decide);replace hB:=hB.rc a8 (by decide);generalize mrg 14 13 c7=g6 at*;refine Za rfl (Ze [(0,_),(1,_),(6,_),(7,_),(9,_),(11,_),(18,_),(19,_),(20,_)] (y_ (nx (d_ (Zm rfl ?_)))));obtain⟨c0,d9,M⟩:=a_ M;refine Zv (C_ rfl rfl d9) (Za rfl (Ze [(0,_),(1,_),(6,_),(7,_),(9,_),(11,_),(18,_),(19,_),(20,_)] (x_ ?_)));have g7:=Zj M;subst g7;refine Zk [(0,_),(1,_),(6,_),(7,_),(9,_),(11,_),(18,_),(19,_),(20,_)] ?_
        intro a ha;exact⟨K76,by omega,g3,c0,a7,U++[⟨b7⟩],g6,f9,ha,hB,b9,c8,f,c⟩
       ·replace M:=ZF d7 M;refine w_ ?_;refine m_ (m_ (Q_ ?_));refine s_ ?_;have g8:=Zj M;subst g8;refine Zk [(0,_),(1,_),(6,_),(7,_),(18,_),(19,_),(20,_)] ?_;intro a ha;exact⟨Z,J,L,U,G,f9,ha,hB,P,D,c⟩
      ·rintro a I ⟨Z,J,L,U,G,rfl,ha,hB,P,D,c⟩;dsimp only at F;refine ap_k ha ?_;refine y_ (nx (d_ (Zv (C_ rfl rfl (F_ (by omega) (by omega))) (Zm rfl (Ze [(0,_),(1,_),(6,_),(7,_),(18,_),(19,_),(20,_)] (x_ ?_))))));have g9:=Zj F;subst g9;refine Zk [(0,_),(1,_),(6,_),(7,_),(18,_),(19,_),(20,_)] ?_;intro a ha;exact⟨_,(by rw[<-f2];simp only[List.length_drop];omega),d+1,Z,L,U,G,f4,rfl,by omega,ha,hB,P,D,c⟩
      ·exact λ_ _ h=>h.elim
     ·replace F:=ZF d6 F;refine h_ (Zn (Zm rfl (Za rfl (Ze [(0,_),(1,_),(6,_),(7,_),(9,_),(11,_),(18,_),(19,_),(20,_)] (nx ?_)))));obtain⟨c9,e0,F⟩:=a_ F;refine A_ (λa v=>∃(H:Yk)(x:Int)(y:Value)(E:List Hv)(s:Tg),c9=.inl (H,x)∧Fr a 48 [(0,ZI g),(1,ZI q),(6,ZI b),(7,y),(18,m),(19,ZI (k.length:Int)),(20,ZI d)]∧Bs oo s w v∧Ow w.heap.size 41 12 s v y E∧Rws w.heap.size 3 13 s v E H∧RdL s v m k) (λ_ _=>False) ?_ ?_ ?_
      ·refine f_ ?_;refine z_ (λ(K:Nat) a v=>∃(H:Yk)(x:Int)(y:Value)(E:List Hv)(s:Tg),loopF (ee_ g b1) K (H,x)=some c9∧Fr a 48 [(0,ZI g),(1,ZI q),(6,ZI b),(7,y),(9,u),(11,ZI x),(18,m),(19,ZI (k.length:Int)),(20,ZI d)]∧Bs oo s w v∧Ow w.heap.size 41 12 s v y E∧Rws w.heap.size 3 13 s v E H∧RdL s v u b1∧RdL s v m k) fuel (λa ha=>⟨Q,0,i,T,C,e0,ha.sb,hB,b3,b4,f,c⟩) ?_;rintro K133 a v ⟨H,x,y,E,s,h0,ha,hB,B,j,f,c⟩;obtain⟨K137,l4,l5,A,d0⟩:=ad_ h0;dsimp only[ee_] at A;refine O_ ha ?_;refine b_ (Zq (Zm rfl (Zm rfl (Zv (u_ rfl rfl) (Ze [(0,_),(1,_),(6,_),(7,_),(9,_),(11,_),(18,_),(19,_),(20,_),(34,_)] (nx ?_))))));refine p_ rfl (λc1=>?_) (λc1=>?_)
       ·rw[if_pos c1] at A;refine h_ (nx (b_ (f_ (d_ (Zm rfl (Zm rfl ?_))))));obtain⟨h1,e1,A⟩:=a_ A;refine Zo ?_;refine o_ (er_ v s 15 (by decide) _ b1 f.z h1 e1) uo_ ⟨rfl,trivial⟩ ?_;rintro l6 l7 ⟨l8,h2,rfl,a2,h3,h4⟩;have a3:=h3.stp' 15 h4;replace a2:=a2.mono hB.keeps.size;refine⟨_,rfl,?_⟩;replace B:=B.stp a3;replace j:=j.stp a3;replace f:=f.stp a3;replace c:=c.stp a3;replace hB:=hB.stp a3;refine Zm rfl (Zo ?_);refine aB_ (o:=h2) (cs:=[ZI x]) (xs:=([x]:Yl)) (vs:=[(0,ZI x)]) ⟨_,_,rfl,rfl,rfl⟩ rfl ⟨rfl,rfl,trivial⟩ tY_ tZ_ uh_ (by decide) (fill1 rfl) (by simp) ?_;intro l9 m0 m1 h5 W m2;replace B:=B.stp W;replace j:=j.stp W;replace f:=f.stp W;replace c:=c.stp W;replace a2:=a2.stp W;replace hB:=hB.stp W;obtain⟨m3,e2,A⟩:=a_ A;refine Zo ?_;refine bf_ a2 h5 (ai_ e2) (by decide) hB.keeps.size rfl rfl tY_ dk_ rfl (by decide) ?_;intro h6 m4 a4 N a5;replace B:=B.stp a5;replace j:=j.stp a5;replace f:=f.stp a5;replace c:=c.stp a5;replace hB:=hB.stp a5;refine Zo ?_;refine aB_ (o:=h6) (cs:=[a4]) (xs:=([⟨a4⟩]:List Hv)) (vs:=[(0,a4)]) ⟨_,_,rfl,jb_ N,rfl⟩ rfl ⟨rfl,rfl,trivial⟩ ub_ uf_ uk_ (by decide) (fill1 N.cells1) (by simp) ?_;intro m5 m6 m7 h7 X m8;replace B:=B.stp X;replace j:=j.stp X;replace f:=f.stp X;replace c:=c.stp X;replace N:=N.stp X;replace hB:=hB.stp X;obtain⟨h8,e3,A⟩:=a_ A;obtain⟨h9,i0⟩:=j.pushV e3 a4;refine Zo ?_;refine bf_ B h7 (ai_ h9) (by decide) hB.keeps.size rfl rfl ub_ dC_ rfl (by decide) ?_;intro d1 m9 a9 c2 a6;replace j:=j.stp a6;replace f:=f.stp a6;replace c:=c.stp a6;replace N:=N.stp a6;replace hB:=hB.stp a6;have d2:=j.push N (by decide) (by decide);rw[<-i0] at d2;clear j N;have b0:=fe_ 15 13 d1;replace f:=f.rc b0 (by decide);replace c:=c.rc b0 (by decide);replace c2:=c2.rc b0 (by decide) (by decide);replace hB:=hB.rc b0 (by decide);generalize mrg 15 13 d1=i1 at*;refine Za rfl (Ze [(0,_),(1,_),(6,_),(7,_),(9,_),(11,_),(18,_),(19,_),(20,_)] (y_ (nx (d_ (Zm rfl ?_)))));obtain⟨c3,e4,A⟩:=a_ A;refine Zv (C_ rfl rfl e4) (Za rfl (Ze [(0,_),(1,_),(6,_),(7,_),(9,_),(11,_),(18,_),(19,_),(20,_)] (x_ ?_)))
        have i2:=Zj A;subst i2;refine Zk [(0,_),(1,_),(6,_),(7,_),(9,_),(11,_),(18,_),(19,_),(20,_)] ?_;intro a ha;exact⟨K137,by omega,h8,c3,a9,E++[⟨a4⟩],i1,d0,ha,hB,c2,d2,f,c⟩
       ·replace A:=ZF c1 A;refine w_ ?_;refine m_ (m_ (Q_ ?_));refine s_ ?_;have i3:=Zj A;subst i3;refine Zk [(0,_),(1,_),(6,_),(7,_),(18,_),(19,_),(20,_)] ?_;intro a ha;exact⟨H,x,y,E,s,d0,ha,hB,B,j,c⟩
      ·rintro a v ⟨H,x,y,E,s,rfl,ha,hB,B,j,c⟩;dsimp only at F;refine ap_k ha ?_;refine y_ (nx (d_ (Zv (C_ rfl rfl (F_ (by omega) (by omega))) (Zm rfl (Ze [(0,_),(1,_),(6,_),(7,_),(18,_),(19,_),(20,_)] (x_ ?_))))));have i4:=Zj F;subst i4;refine Zk [(0,_),(1,_),(6,_),(7,_),(18,_),(19,_),(20,_)] ?_;intro a ha;exact⟨_,(by rw[<-f2];simp only[List.length_drop];omega),d+1,H,y,E,s,f4,rfl,by omega,ha,hB,B,j,c⟩
      ·exact λ_ _ h=>h.elim
    ·have i5:=S_ c5 f1;refine O_ ha ?_;refine Zq (Zv (u_ rfl rfl) (Ze [(0,_),(1,_),(6,_),(7,_),(18,_),(19,_),(20,_),(21,_)] (nx (b_ ?_))));refine D_ (Zb (decide_eq_false c5)) ?_;refine w_ ?_;refine m_ (m_ (Q_ ?_));refine s_ ?_;refine Zk [(0,_),(1,_),(6,_),(7,_)] ?_;intro a ha;exact⟨Q,i,T,C,i5,ha,hB,b3,b4⟩
   ·rintro a S ⟨Q,i,T,C,rfl,ha,hB,b3,b4⟩;dsimp only at R;refine ap_k ha ?_;refine nx (d_ (Zm rfl (Za rfl (Ze [(0,_),(1,_),(5,_),(6,_)] (y_ (nx (d_ (Zm rfl ?_))))))));obtain⟨c4,e5,R⟩:=a_ R;refine Zv (C_ rfl rfl e5) (Za rfl (Ze [(0,_),(1,_),(5,_),(6,_)] (x_ ?_)));have i6:=Zj R;subst i6;have i7:=Dz.of b3 b4 (by decide) (by decide) (by decide);have d3:=fh_ 12 C;have d4:=fh_ 13 (frz 12 C);replace hB:=(hB.rc d3 (by decide)).rc d4 (by decide);clear d3 d4;generalize frz 13 (frz 12 C)=i8 at*;have i9:=i7.rd;refine Zk [(0,_),(1,_),(5,_),(6,_)] ?_;intro a ha;exact⟨K22,by omega,Q,c4,i,i8,e8,ha,hB,i9⟩
   ·exact λ_ _ h=>h.elim
  ·replace R:=ZF d5 R;refine w_ ?_;refine m_ (m_ (Q_ ?_));refine s_ ?_;have j0:=Zj R;subst j0;refine Zk [(5,_)] ?_;intro a ha;exact⟨k,b,m,O,e8,ha,hB,c⟩
 ·rintro a Y ⟨k,b,m,O,rfl,ha,hB,c⟩;dsimp only at hF;refine ap_k ha ?_;refine Zn (Zm rfl (Za rfl (Ze [(4,_)] (nx (n_ ?_)))));have j1:=Zj hF;subst j1;refine Zr Tryz.results110 [m] ?_;exact⟨_,rt oo O w.heap.size 9 t,rfl,c.rt hB 9 t (by decide),hB.keeps,ac_ _ _ _ _ _⟩
 ·exact λ_ _ h=>h.elim
def aL_(a:Int):Int->Int->(List Int)->Option (Lp (List Int) (List Int) (List Int)):=λ(b:Int)(c:Int)(s:List Int)=>
  if a==c then
    (push s b)>>=λd=>
    some (.go d)
  else
    some (.go s)
def de_(d:List Int):Int->Int->(List Int)->Option (Lp (List Int) (List Int) (List Int)):=λ(f:Int)(a:Int)(s:List Int)=>
  (forI (aL_ a) d 0 s)>>=λb=>
  match b with
  | .inl c=>
    some (.go c)
  | .inr _=>none
def ez_(fuel:Nat)(b:List Int)(c:List Int):Option (List Int):=
  (forI (de_ b) c 0 [])>>=λd=>
  match d with
  | .inl f=>
    (dn_ fuel f)>>=λa=>
    some a
  | .inr _=>none
def ms_(oo:Tg)(t:Nat)(w:World)(r:Yl):Ending->World->Prop:=λe w'=>∃(a:Value)(o':Tg),e=.returned (a)∧Ow w.heap.size 3 t o' w' a r∧Keeps w w'∧∀b,b<w.heap.size->o' b=oo b
theorem mT_(fuel:Nat)(w:World)(oo:Tg)(t:Nat)(ht:2<=t)(c:Value)(q:Yl)(W:RdL zt w c q)(j:Value)(g:Yl)(X:RdL zt w j g)(r:Yl)(hF:ez_ fuel q g=some r):
    Calls tX_ 159 #[c,j] w (ms_ oo t w r):=by
 unfold ez_ at hF;have hB:Bs oo (col oo) w w:=Bs.start _ _;refine j_ (n:=34) (vs:=[c,j]) Tryz.func159 rfl rfl ?_;generalize col oo=o at*;refine Zq (Za rfl (Ze [(0,_),(1,_)] (Zn (Za rfl (Ze [(0,_),(1,_),(5,_)] (nx (b_ (Zq (Zm rfl (Zv (J_ rfl X tY_) (Zm rfl (Ze [(0,_),(5,_),(10,_),(11,_),(12,_)] ?_))))))))))));refine nx ?_;have c5:Ow w.heap.size 3 11 o w (.slice none 0 0) ([]:Yl):=Ow.nil _ _ _ _ _;obtain⟨c3,Y,hF⟩:=a_ hF;refine A_ (λa F=>∃(A:Yl)(s:Value)(B:Tg),c3=.inl A∧Fr a 34 [(5,s)]∧Bs oo B w F∧Ow w.heap.size 3 11 B F s A) (λ_ _=>False) ?_ ?_ ?_
 ·refine f_ ?_;refine z_ (λ(K:Nat) a F=>∃(i:Int)(A:Yl)(s:Value)(B:Tg),forI (de_ q) (g.drop i.toNat) i A=some c3∧(g.drop i.toNat).length=K∧0<=i∧Fr a 34 [(0,c),(5,s),(10,j),(11,ZI (g.length:Int)),(12,ZI i)]∧Bs oo B w F∧Ow w.heap.size 3 11 B F s A) _ (λa ha=>⟨0,[],.slice none 0 0,o,Y,rfl,Int.le_refl 0,ha.sb,hB,c5⟩) ?_;rintro K12 a F ⟨i,A,s,B,c4,Z,a0,ha,hB,V⟩;by_cases C:i<(g.length:Int)
  ·obtain⟨f,c6,I,y,a1⟩:=R_ a0 C c4;have hle:=X.len_le;dsimp only[de_] at y;refine O_ ha ?_;refine Zq (Zv (u_ rfl rfl) (Ze [(0,_),(5,_),(10,_),(11,_),(12,_),(13,_)] (nx (b_ ?_))));refine M_ (Zb (decide_eq_true C)) ?_;refine h_ (nx (b_ (f_ (Zq (Zo ?_)))));refine wf_atZ X I hB rfl rfl tY_ tZ_ ?_;intro c7 c8 c9 a2 a3;cases a3
   refine Zv (e_ rfl ua_ (i_ a2)) (Za rfl (Ze [(0,_),(5,_),(7,_),(10,_),(11,_),(12,_)] (Zn (Zm rfl (Zv (J_ rfl W tY_) (Zm rfl (Ze [(0,_),(5,_),(7,_),(10,_),(11,_),(12,_),(16,_),(17,_),(18,_)] (nx ?_))))))));obtain⟨J,L,y⟩:=a_ y;refine A_ (λa u=>∃(m:Yl)(d:Value)(k:Tg),J=.inl m∧Fr a 34 [(0,c),(5,d),(10,j),(11,ZI (g.length:Int)),(12,ZI i)]∧Bs oo k w u∧Ow w.heap.size 3 11 k u d m) (λ_ _=>False) ?_ ?_ ?_
   ·refine f_ ?_;refine z_ (λ(K:Nat) a u=>∃(b:Int)(m:Yl)(d:Value)(k:Tg),forI (aL_ f) (q.drop b.toNat) b m=some J∧(q.drop b.toNat).length=K∧0<=b∧Fr a 34 [(0,c),(5,d),(7,ZI f),(10,j),(11,ZI (g.length:Int)),(12,ZI i),(16,c),(17,ZI (q.length:Int)),(18,ZI b)]∧Bs oo k w u∧Ow w.heap.size 3 11 k u d m) _ (λa ha=>⟨0,A,s,B,L,rfl,Int.le_refl 0,ha.sb,hB,V⟩) ?_;rintro K33 a u ⟨b,m,d,k,M,N,a4,ha,hB,v⟩;by_cases D:b<(q.length:Int)
    ·obtain⟨O,d0,P,x,Q⟩:=R_ a4 D M;have hle:=W.len_le;dsimp only[aL_] at x;refine O_ ha ?_;refine Zq (Zv (u_ rfl rfl) (Ze [(0,_),(5,_),(7,_),(10,_),(11,_),(12,_),(16,_),(17,_),(18,_),(19,_)] (nx (b_ ?_))));refine M_ (Zb (decide_eq_true D)) ?_;refine h_ (nx (b_ (f_ (Zq (Zm rfl (Zo ?_))))));refine wf_atZ W P hB rfl rfl tY_ tZ_ ?_;intro d1 d2 d3 a5 a6;cases a6
     refine Zv (e_ rfl ua_ (i_ a5)) (Za rfl (Za rfl (Ze [(0,_),(5,_),(7,_),(8,_),(9,_),(10,_),(11,_),(12,_),(16,_),(17,_),(18,_)] (Zn (Zm rfl (Zm rfl (Zv (cD_ rfl rfl) (Ze [(0,_),(5,_),(7,_),(8,_),(10,_),(11,_),(12,_),(16,_),(17,_),(18,_),(25,_)] (nx ?_)))))))));refine p_ rfl (λG=>?_) (λG=>?_)
     ·rw[if_pos G] at x;refine d_ (Zm rfl (Zm rfl (Zo ?_)));refine aB_ (o:=k) (cs:=[ZI b]) (xs:=([b]:Yl)) (vs:=[(0,ZI b)]) ⟨_,_,rfl,rfl,rfl⟩ rfl ⟨rfl,rfl,trivial⟩ tY_ tZ_ uh_ (by decide) (fill1 rfl) (by simp) ?_;intro d4 d5 d6 a7 R d7;replace v:=v.stp R;replace hB:=hB.stp R;obtain⟨a8,S,x⟩:=a_ x;refine Zo ?_;refine bf_ v a7 (ai_ S) (by decide) hB.keeps.size rfl rfl tY_ dk_ rfl (by decide) ?_;intro a9 d8 E b0 b1;replace hB:=hB.stp b1;refine Za rfl (Ze [(0,c),(5,E),(7,ZI f),(10,j),(11,ZI (g.length:Int)),(12,ZI i),(16,c),(17,ZI (q.length:Int)),(18,ZI b)] (y_ (nx (d_ (Zv (C_ rfl rfl (F_ (by omega) (by omega))) (Zm rfl (Ze [(0,_),(5,_),(7,_),(10,_),(11,_),(12,_),(16,_),(17,_),(18,_)] (x_ ?_))))))));have b2:=Zj x;subst b2;refine Zk [(0,_),(5,_),(7,_),(10,_),(11,_),(12,_),(16,_),(17,_),(18,_)] ?_;intro a ha;exact⟨_,(by rw[<-N];simp only[List.length_drop];omega),b+1,a8,E,a9,Q,rfl,by omega,ha,hB,b0⟩
     ·replace x:=ZF G x;refine h_ (y_ (nx (d_ (Zv (C_ rfl rfl (F_ (by omega) (by omega))) (Zm rfl (Ze [(0,_),(5,_),(7,_),(10,_),(11,_),(12,_),(16,_),(17,_),(18,_)] (x_ ?_)))))));have b3:=Zj x;subst b3;refine Zk [(0,_),(5,_),(7,_),(10,_),(11,_),(12,_),(16,_),(17,_),(18,_)] ?_;intro a ha;exact⟨_,(by rw[<-N];simp only[List.length_drop];omega),b+1,m,d,k,Q,rfl,by omega,ha,hB,v⟩
    ·have b4:=S_ D M;refine O_ ha ?_;refine Zq (Zv (u_ rfl rfl) (Ze [(0,_),(5,_),(7,_),(10,_),(11,_),(12,_),(16,_),(17,_),(18,_),(19,_)] (nx (b_ ?_))));refine D_ (Zb (decide_eq_false D)) ?_;refine w_ ?_;refine m_ (m_ (Q_ ?_));refine s_ ?_;refine Zk [(0,_),(5,_),(10,_),(11,_),(12,_)] ?_;intro a ha;exact⟨m,d,k,b4,ha,hB,v⟩
   ·rintro a u ⟨m,d,k,rfl,ha,hB,v⟩;dsimp only at y;refine ap_k ha ?_;refine y_ (nx (d_ (Zv (C_ rfl rfl (F_ (by omega) (by omega))) (Zm rfl (Ze [(0,_),(5,_),(10,_),(11,_),(12,_)] (x_ ?_))))));have b5:=Zj y;subst b5;refine Zk [(0,_),(5,_),(10,_),(11,_),(12,_)] ?_;intro a ha;exact⟨_,(by rw[<-Z];simp only[List.length_drop];omega),i+1,m,d,k,a1,rfl,by omega,ha,hB,v⟩
   ·exact λ_ _ h=>h.elim
  ·have b6:=S_ C c4;refine O_ ha ?_;refine Zq (Zv (u_ rfl rfl) (Ze [(0,_),(5,_),(10,_),(11,_),(12,_),(13,_)] (nx (b_ ?_))));refine D_ (Zb (decide_eq_false C)) ?_;refine w_ ?_;refine m_ (m_ (Q_ ?_));refine s_ ?_;refine Zk [(5,_)] ?_;intro a ha;exact⟨A,s,B,b6,ha,hB,V⟩
 ·rintro a F ⟨A,s,B,rfl,ha,hB,V⟩;dsimp only at hF;refine ap_k ha ?_;refine Zn (Zm rfl ?_);obtain⟨b7,T,hF⟩:=a_ hF;refine Zo ?_;refine o_ (gs_ fuel F B 12 (by decide) _ A V.z b7 T) uH_ ⟨rfl,trivial⟩ ?_;rintro d9 e0 ⟨U,b8,rfl,H,b9,c0⟩;have c1:=b9.stp' 12 c0;replace H:=H.mono hB.keeps.size;refine⟨_,rfl,?_⟩;replace hB:=hB.stp c1;refine Za rfl (Ze [(4,_)] (nx (n_ ?_)));have c2:=Zj hF;subst c2;refine Zr Tryz.results159 [U] ?_;exact⟨_,rt oo b8 w.heap.size 12 t,rfl,H.rt hB (by decide) t,hB.keeps,ac_ _ _ _ _ _⟩
 ·exact λ_ _ h=>h.elim
def dz_(f:List (List Int))(g:List Int)(i:List Int)(self:(List (List Int))->(List Int)->(List Int)->Option ((List Int)×Bool)):Int->Int->Unit->Option (Lp Unit Unit ((List Int)×Bool)):=λ(j:Int)(b:Int)(s:Unit)=>
  (da_ i)>>=λc=>
  (push c b)>>=λd=>
  (self f g d)>>=λa=>
  if a.2 then
    some (.ret (a.1,true))
  else
    some (.go ())
def co_:Nat->(List (List Int))->(List Int)->(List Int)->Option ((List Int)×Bool)
  |0=>λ_ _ _=>none
  | fuel+1=>λi b a=>
    if(a.length:Int)==(b.length:Int) then
      (dn_ fuel a)>>=λj=>
      (fz_ i j)>>=λc=>
      some (a,c)
    else
      (ix b (a.length:Int))>>=λd=>
      (cn_ fuel d)>>=λf=>
      (forI (dz_ i b a (co_ fuel)) f 0 ())>>=λg=>
      match g with
      | .inl _=>
        some ([],false)
      | .inr r'=>some r'
def jI_(oo:Tg)(t:Nat)(w:World)(r:Yl×Bool):Ending->World->Prop:=λe w'=>∃(a:Value)(o':Tg),e=.returned (.tuple #[a,.bool r.2])∧Of 3 o' w' a r.1∧Keeps w w'∧∀b,b<w.heap.size->o' b=oo b
theorem ns_(fuel:Nat):∀(w:World)(oo:Tg)(t:Nat)(ht:2<=t)(s:Value)(G:Yk)(a4:RdL zt w s G)(u:Value)(H:Yl)(Q:RdL zt w u H)(m:Value)(v:Yl)(f:Of 3 oo w m v)(r:Yl×Bool)(hF:co_ fuel G H v=some r),Calls tX_ 183 #[s,u,m] w (jI_ oo t w r):=by
 induction fuel with
 |zero=>
  intro w oo t ht s G a4 u H Q m v f r hF;unfold co_ at hF;cases hF
 | succ fuel ih=>
  intro w oo t ht s G a4 u H Q m v f r hF;unfold co_ at hF;replace f:=f.col;have g2r:=f.rd;have hB:Bs oo (col oo) w w:=Bs.start _ _;refine j_ (n:=48) (vs:=[s,u,m]) Tryz.func183 rfl rfl ?_;generalize col oo=o at*;refine Zq (Za rfl (Za rfl (Ze [(0,_),(1,_),(2,_)] (Zn (Zm rfl (Zv (J_ rfl g2r tY_) (Za rfl (Ze [(0,_),(1,_),(2,_),(8,_)] (nx (b_ (Zq (Zm rfl ?_))))))))))));refine Zm rfl (Zv (J_ rfl Q tY_) (Zv (cD_ rfl rfl) (Ze [(0,_),(1,_),(2,_),(8,_),(18,_)] (nx ?_))));refine p_ rfl (λa5=>?_) (λa5=>?_)
  ·rw[if_pos a5] at hF;refine Zq (Zm rfl (Zm rfl (Zm rfl ?_)));obtain⟨e0,a6,hF⟩:=a_ hF;refine Zo ?_;refine o_ (gs_ fuel w o 11 (by decide) _ v g2r.z e0 a6) uH_ ⟨rfl,trivial⟩ ?_;rintro g6 e1 ⟨g7,R,rfl,a7,e2,e3⟩;have a8:=e2.stp' 11 e3;replace a7:=a7.mono hB.keeps.size;refine⟨_,rfl,?_⟩;replace g2r:=g2r.stp a8;replace f:=f.stp a8;replace hB:=hB.stp a8;obtain⟨I,S,hF⟩:=a_ hF;refine Zo ?_;refine o_ (jp_ e1 _ G (a4.keep hB.keeps) _ e0 a7.z I S) Tryz.call120 ⟨rfl,rfl,trivial⟩ ?_;rintro e4 e5 ⟨rfl,a9⟩;have J:=a9.stp 999 R;refine⟨_,rfl,?_⟩;replace g2r:=g2r.stp J;replace f:=f.stp J;replace hB:=hB.stp J;refine Za rfl (Za rfl (Ze [(6,_),(7,_)] (nx (n_ (I_ ?_)))));have b0:=Zj hF;subst b0;refine Zr uT_ [m,.bool I] ?_;exact⟨_,rt oo R w.heap.size 9 t,rfl,f.rt hB 9 t (by decide),hB.keeps,ac_ _ _ _ _ _⟩
  ·replace hF:=ZF a5 hF;refine h_ (nx (b_ (Zq (Zm rfl (Zm rfl ?_)))));obtain⟨b1,T,hF⟩:=a_ hF;refine Zo ?_;refine wf_atZ Q T hB rfl rfl tY_ tZ_ ?_;intro e6 e7 e8 b2 b3;cases b3
   refine Zv (e_ rfl ua_ (i_ b2)) ?_;obtain⟨c,U,hF⟩:=a_ hF;refine Zo ?_;refine o_ (gc_ fuel w o 13 (by decide) b1 c U) uJ_ ⟨rfl,trivial⟩ ?_;rintro e9 f0 ⟨g,b4,rfl,b,b5,b6⟩;have L:=b5.stp' 13 b6;replace b:=b.mono hB.keeps.size;refine⟨_,rfl,?_⟩;replace g2r:=g2r.stp L;replace f:=f.stp L;replace hB:=hB.stp L;refine Zv (bt_ rfl b tY_) (Zm rfl (Ze [(0,_),(1,_),(2,_),(28,_),(29,_),(30,_)] (nx ?_)));obtain⟨M,V,hF⟩:=a_ hF;refine A_ (λa q=>∃(i:Tg),M=.inl ()∧Fr a 48 []∧Bs oo i w q) (λa w'=>∃r',M=.inr r'∧bodyPost tX_ Tryz.f183 (jI_ oo t w r') .ret a w') ?_ ?_ ?_
   ·refine f_ ?_;refine z_ (λ(K:Nat) a q=>∃(d:Int)(i:Tg),forI (dz_ G H v (co_ fuel)) (c.drop d.toNat) d ()=some M∧(c.drop d.toNat).length=K∧0<=d∧Fr a 48 [(0,s),(1,u),(2,m),(28,g),(29,ZI (c.length:Int)),(30,ZI d)]∧Bs oo i w q∧RdL i q m v∧Of 3 i q m v∧Ow w.heap.size 3 13 i q g c) _ (λa ha=>⟨0,b4,V,rfl,Int.le_refl 0,ha.sb,hB,g2r,f,b⟩) ?_;rintro K40 a q ⟨d,i,W,b7,b8,ha,hB,g2r,f,b⟩;by_cases A:d<(c.length:Int)
    ·obtain⟨B,f1,X,k,Y⟩:=R_ b8 A W;have hle:=b.len_le;dsimp only[dz_] at k;refine O_ ha ?_;refine Zq (Zv (u_ rfl rfl) (Ze [(0,_),(1,_),(2,_),(28,_),(29,_),(30,_),(31,_)] (nx (b_ ?_))));refine M_ (Zb (decide_eq_true A)) ?_;refine h_ (nx (b_ (f_ (Zq (Zo ?_)))));refine fS_ b X rfl rfl tY_ tZ_ ?_;intro f2 f3 f4 b9 c0;cases c0
     refine Zv (e_ rfl ua_ (i_ b9)) (Za rfl (Ze [(0,_),(1,_),(2,_),(10,_),(28,_),(29,_),(30,_)] (Zn (Zm rfl (Zm rfl (Zm rfl ?_))))));obtain⟨c1,Z,k⟩:=a_ k;refine Zo ?_;refine o_ (er_ q i 14 (by decide) _ v g2r.z c1 Z) uo_ ⟨rfl,trivial⟩ ?_;rintro f5 f6 ⟨f7,c2,rfl,x,c3,c4⟩;have C:=c3.stp' 14 c4;replace x:=x.mono hB.keeps.size;refine⟨_,rfl,?_⟩;replace g2r:=g2r.stp C;replace f:=f.stp C;replace b:=b.stp C;replace hB:=hB.stp C;refine Zm rfl (Zo ?_);refine aB_ (o:=c2) (cs:=[ZI B]) (xs:=([B]:Yl)) (vs:=[(0,ZI B)]) ⟨_,_,rfl,rfl,rfl⟩ rfl ⟨rfl,rfl,trivial⟩ tY_ tZ_ uh_ (by decide) (fill1 rfl) (by simp) ?_;intro f8 f9 g0 c5 y g1;replace g2r:=g2r.stp y;replace f:=f.stp y;replace b:=b.stp y;replace x:=x.stp y;replace hB:=hB.stp y;obtain⟨c6,a0,k⟩:=a_ k;refine Zo ?_;refine bf_ x c5 (ai_ a0) (by decide) hB.keeps.size rfl rfl tY_ dk_ rfl (by decide) ?_;intro c7 c8 g2 c9 D;replace g2r:=g2r.stp D;replace f:=f.stp D;replace b:=b.stp D;replace hB:=hB.stp D;replace g2r:=g2r.frz 14;replace f:=f.frz 14 (by decide);replace b:=b.frz_ne (j:=14) (by decide);have d0:=c9.frzF;replace hB:=hB.frz 14 (by decide);generalize (frz 14 c7)=d1 at*;obtain⟨N,a1,k⟩:=a_ k;refine Zo ?_;refine o_ (ih c8 d1 15 (by decide) _ G (a4.keep hB.keeps) _ H (Q.keep hB.keeps) _ c6 d0 N a1) vS_ ⟨rfl,rfl,rfl,trivial⟩ ?_;rintro g3 g4 ⟨E,a2,rfl,a3,d2,d3⟩;have F:=d2.stp' 15 d3;have g5:=a3.rd;refine⟨_,rfl,?_⟩;replace g2r:=g2r.stp F;replace f:=f.stp F;replace b:=b.stp F;replace hB:=hB.stp F;refine Zm rfl (Zv (t_ rfl rfl) (Zv (t_ rfl rfl) (Za rfl (Za rfl (Ze [(0,_),(1,_),(2,_),(11,_),(12,_),(28,_),(29,_),(30,_)] (Zn (Zm rfl (Ze [(0,_),(1,_),(2,_),(11,_),(28,_),(29,_),(30,_),(45,_)] (nx ?_)))))))));refine p_ rfl (λO=>?_) (λO=>?_)
     ·rw[if_pos O] at k;refine Zq (Zm rfl (Za rfl (Za rfl (Ze [(6,_),(7,_)] (nx (n_ (aq_ (I_ (I_ (aq_ ?_))))))))));refine cK_ ?_;have d4:=Zj k;subst d4;refine λa ha=>⟨_,Y,?_⟩;refine N_ (P:=tX_) (vs:=[E,.bool true]) uT_ ⟨rfl,rfl,trivial⟩ ?_ a ha;exact⟨_,rt oo a2 w.heap.size 9 t,rfl,a3.rt hB 9 t (by decide),hB.keeps,ac_ _ _ _ _ _⟩
     ·replace k:=ZF O k;refine h_ (y_ (nx (d_ (Zv (C_ rfl rfl (F_ (by omega) (by omega))) (Zm rfl (Ze [(0,_),(1,_),(2,_),(28,_),(29,_),(30,_)] (x_ ?_)))))));have d5:=Zj k;subst d5;refine Zk [(0,_),(1,_),(2,_),(28,_),(29,_),(30,_)] ?_;intro a ha;exact⟨_,(by rw[<-b7];simp only[List.length_drop];omega),d+1,a2,Y,rfl,by omega,ha,hB,g2r,f,b⟩
    ·have d6:=S_ A W;refine O_ ha ?_;refine Zq (Zv (u_ rfl rfl) (Ze [(0,_),(1,_),(2,_),(28,_),(29,_),(30,_),(31,_)] (nx (b_ ?_))));refine D_ (Zb (decide_eq_false A)) ?_;refine w_ ?_;refine m_ (m_ (Q_ ?_));refine s_ ?_;refine Zk [] ?_;intro a ha;exact⟨i,d6,ha,hB⟩
   ·rintro a q ⟨i,rfl,ha,hB⟩;dsimp only at hF;refine ap_k ha ?_;refine Zn (Za rfl (Za rfl (Ze [(6,_),(7,_)] (nx (n_ ?_)))));have d7:=Zj hF;subst d7;refine Zr uT_ [.slice none 0 0,.bool false] ?_;exact⟨_,rt oo i w.heap.size 9 t,rfl,Of.nil _ _ _,hB.keeps,ac_ _ _ _ _ _⟩
   ·rintro a q ⟨r',rfl,d8⟩;dsimp only at hF;have d9:=Zj hF;subst d9;exact d8
def ex_(fuel:Nat)(f:List (List Int))(g:List Int):Int->(List Int)->(List (List Int))->Option (Lp (List (List Int)) (List (List Int)) (List (List Int))):=λ(i:Int)(a:List Int)(s:List (List Int))=>
  (eJ_ g a)>>=λb=>
  (co_ fuel f b [])>>=λc=>
  if c.2 then
    (push s a)>>=λd=>
    some (.go d)
  else
    some (.go s)
def fQ_(fuel:Nat)(d:List (List Int))(c:List Int)(f:Int):Option (List (List Int)):=
  (dJ_ fuel (c.length:Int) f)>>=λg=>
  (forI (ex_ fuel d c) g 0 [])>>=λa=>
  match a with
  | .inl b=>
    some b
  | .inr _=>none
def rD_(oo:Tg)(t:Nat)(w:World)(r:Yk):Ending->World->Prop:=λe w'=>∃(a:Value)(o':Tg),e=.returned (a)∧Ow w.heap.size 41 t o' w' a r∧Keeps w w'∧∀b,b<w.heap.size->o' b=oo b
theorem me_(fuel:Nat)(w:World)(oo:Tg)(t:Nat)(ht:2<=t)(m:Value)(X:Yk)(c0:RdL zt w m X)(q:Value)(I:Yl)(b8:RdL zt w q I)(H:Int)(r:Yk)(hF:fQ_ fuel X I H=some r):
    Calls tX_ 160 #[m,q,.int .i64 H] w (rD_ oo t w r):=by
 unfold fQ_ at hF;have hB:Bs oo (col oo) w w:=Bs.start _ _;refine j_ (n:=36) (vs:=[m,q,ZI H]) Tryz.func160 rfl rfl ?_;generalize col oo=o at*;refine Zq (Za rfl (Ze [(0,_),(1,_),(2,_)] (Zn (Za rfl (Ze [(0,_),(1,_),(2,_),(7,_)] (nx (b_ (Zq (Zm rfl (Zv (J_ rfl b8 tY_) (Zm rfl ?_)))))))))));obtain⟨i,Y,hF⟩:=a_ hF;refine Zo ?_;refine o_ (iT_ fuel w o 11 (by decide) (I.length:Int) H i Y) Tryz.call110 ⟨rfl,rfl,trivial⟩ ?_;rintro e0 c1 ⟨v,b9,rfl,s,c2,c3⟩;have c4:=c2.stp' 11 c3;refine⟨_,rfl,?_⟩;replace hB:=hB.stp c4;refine Zv (J_ rfl s ub_) (Zm rfl (Ze [(0,_),(1,_),(7,_),(15,_),(16,_),(17,_)] (nx ?_)));have Z:Ow w.heap.size 41 12 b9 c1 (.slice none 0 0) ([]:Yk):=Ow.nil _ _ _ _ _;obtain⟨J,L,hF⟩:=a_ hF;refine A_ (λa j=>∃(k:Yk)(c:Value)(d:Tg),J=.inl k∧Fr a 36 [(7,c)]∧Bs oo d w j∧Ow w.heap.size 41 12 d j c k) (λ_ _=>False) ?_ ?_ ?_
 ·refine f_ ?_;refine z_ (λ(K:Nat) a j=>∃(b:Int)(k:Yk)(c:Value)(d:Tg),forI (ex_ fuel X I) (i.drop b.toNat) b k=some J∧(i.drop b.toNat).length=K∧0<=b∧Fr a 36 [(0,m),(1,q),(7,c),(15,v),(16,ZI (i.length:Int)),(17,ZI b)]∧Bs oo d w j∧Ow w.heap.size 41 12 d j c k∧RdL d j v i) _ (λa ha=>⟨0,[],.slice none 0 0,b9,L,rfl,Int.le_refl 0,ha.sb,hB,Z,s⟩) ?_;rintro K21 a j ⟨b,k,c,d,M,N,a0,ha,hB,f,s⟩;by_cases y:b<(i.length:Int)
  ·obtain⟨O,c5,P,g,Q⟩:=R_ a0 y M;have hle:=s.len_le;dsimp only[ex_] at g;refine O_ ha ?_;refine Zq (Zv (u_ rfl rfl) (Ze [(0,_),(1,_),(7,_),(15,_),(16,_),(17,_),(18,_)] (nx (b_ ?_))));refine M_ (Zb (decide_eq_true y)) ?_;refine h_ (nx (b_ (f_ (Zq (Zo ?_)))));refine fn_ s P rfl rfl ub_ uf_ ?_;intro c6 c7 c8 a1 a2;obtain⟨x,rfl,u⟩:=a2;refine Zv (e_ rfl ug_ (i_ a1)) (Za rfl (Ze [(0,_),(1,_),(7,_),(9,_),(15,_),(16,_),(17,_)] (Zn (Zm rfl (Zm rfl (Zm rfl ?_))))));obtain⟨R,S,g⟩:=a_ g;refine Zo ?_;refine o_ (mf_ j d 13 (by decide) _ I (b8.keep hB.keeps) _ O u.z R S) Tryz.call130 ⟨rfl,rfl,trivial⟩ ?_;rintro c9 a3 ⟨d0,a4,rfl,D,a5,a6⟩;have A:=a5.stp' 13 a6;replace D:=D.mono hB.keeps.size;refine⟨_,rfl,?_⟩;replace f:=f.stp A;replace u:=u.stp A;replace s:=s.stp A;replace hB:=hB.stp A;obtain⟨E,T,g⟩:=a_ g;refine Zo ?_;refine o_ (ns_ fuel a3 a4 14 (by decide) _ X (c0.keep hB.keeps) _ R D.z _ ([]:Yl) (Of.nil _ _ _) E T) vS_ ⟨rfl,rfl,rfl,trivial⟩ ?_;rintro d1 d2 ⟨d3,U,rfl,a7,a8,a9⟩;have B:=a8.stp' 14 a9;have d4:=a7.rd;refine⟨_,rfl,?_⟩;replace f:=f.stp B;replace u:=u.stp B;replace s:=s.stp B;replace hB:=hB.stp B;refine Zm rfl (Zv (t_ rfl rfl) (Zv (t_ rfl rfl) (Za rfl (Za rfl (Ze [(0,_),(1,_),(7,_),(9,_),(11,_),(15,_),(16,_),(17,_)] (Zn (Zm rfl (Ze [(0,_),(1,_),(7,_),(9,_),(15,_),(16,_),(17,_),(29,_)] (nx ?_)))))))));refine p_ rfl (λF=>?_) (λF=>?_)
   ·rw[if_pos F] at g;refine d_ (Zm rfl (Zm rfl (Zo ?_)));refine aB_ (o:=U) (cs:=[x]) (xs:=([O]:Yk)) (vs:=[(0,x)]) ⟨_,_,rfl,jL_ u,rfl⟩ rfl ⟨rfl,rfl,trivial⟩ ub_ uf_ uk_ (by decide) (fill1 u.cells1) (by simp) ?_;intro d5 d6 d7 b0 G d8;replace f:=f.stp G;replace s:=s.stp G;replace hB:=hB.stp G;obtain⟨b1,V,g⟩:=a_ g;refine Zo ?_;refine bf_ f b0 (ai_ V) (by decide) hB.keeps.size rfl rfl ub_ dC_ rfl (by decide) ?_;intro b2 d9 C b3 W;replace s:=s.stp W;replace hB:=hB.stp W;refine Za rfl (Ze [(0,m),(1,q),(7,C),(15,v),(16,ZI (i.length:Int)),(17,ZI b)] (y_ (nx (d_ (Zv (C_ rfl rfl (F_ (by omega) (by omega))) (Zm rfl (Ze [(0,_),(1,_),(7,_),(15,_),(16,_),(17,_)] (x_ ?_))))))));have b4:=Zj g;subst b4;refine Zk [(0,_),(1,_),(7,_),(15,_),(16,_),(17,_)] ?_;intro a ha;exact⟨_,(by rw[<-N];simp only[List.length_drop];omega),b+1,b1,C,b2,Q,rfl,by omega,ha,hB,b3,s⟩
   ·replace g:=ZF F g;refine h_ (y_ (nx (d_ (Zv (C_ rfl rfl (F_ (by omega) (by omega))) (Zm rfl (Ze [(0,_),(1,_),(7,_),(15,_),(16,_),(17,_)] (x_ ?_)))))));have b5:=Zj g;subst b5;refine Zk [(0,_),(1,_),(7,_),(15,_),(16,_),(17,_)] ?_;intro a ha;exact⟨_,(by rw[<-N];simp only[List.length_drop];omega),b+1,k,c,U,Q,rfl,by omega,ha,hB,f,s⟩
  ·have b6:=S_ y M;refine O_ ha ?_;refine Zq (Zv (u_ rfl rfl) (Ze [(0,_),(1,_),(7,_),(15,_),(16,_),(17,_),(18,_)] (nx (b_ ?_))));refine D_ (Zb (decide_eq_false y)) ?_;refine w_ ?_;refine m_ (m_ (Q_ ?_));refine s_ ?_;refine Zk [(7,_)] ?_;intro a ha;exact⟨k,c,d,b6,ha,hB,f⟩
 ·rintro a j ⟨k,c,d,rfl,ha,hB,f⟩;dsimp only at hF;refine ap_k ha ?_;refine Zn (Zm rfl (Za rfl (Ze [(6,_)] (nx (n_ ?_)))));have b7:=Zj hF;subst b7;refine Zr Tryz.results160 [c] ?_;exact⟨_,rt oo d w.heap.size 12 t,rfl,f.rt hB (by decide) t,hB.keeps,ac_ _ _ _ _ _⟩
 ·exact λ_ _ h=>h.elim
def dH_(fuel:Nat):Int->Int->(List Int)->Option (Lp (List Int) (List Int) (c_×(List Int)×Bool)):=λ(c:Int)(a:Int)(s:List Int)=>
  (hk_ fuel s a)>>=λb=>
  some (.go b)
def dO_(fuel:Nat):Int->(List Int)->(List Int)->Option (Lp (List Int) (List Int) (c_×(List Int)×Bool)):=λ(d:Int)(a:List Int)(s:List Int)=>
  (forI (dH_ fuel) a 0 s)>>=λb=>
  match b with
  | .inl c=>
    some (.go c)
  | .inr _=>none
def dR_(fuel:Nat)(d:List Int):Int->(List Int)->(List (List Int))->Option (Lp (List (List Int)) (List (List Int)) (c_×(List Int)×Bool)):=λ(f:Int)(a:List Int)(s:List (List Int))=>
  (ez_ fuel d a)>>=λb=>
  (fb_ fuel s b)>>=λc=>
  some (.go c)
def fO_(fuel:Nat)(b:c_)(k:List (List Int))(m:Bool):Option (c_×(List Int)×Bool):=
  (forI (dO_ fuel) k 0 [])>>=λi=>
  match i with
  | .inl a=>
    (gR_ (a.length:Int) 1 8)>>=λj=>
    if !j then
      some ((⟨0,0,[],[]⟩:c_),[],false)
    else
      (forI (dR_ fuel a) k 0 [])>>=λc=>
      match c with
      | .inl d=>
        if m then
          (fQ_ fuel b.Nodes a b.Degree)>>=λf=>
          some ((⟨(a.length:Int),b.Degree,f,d⟩:c_),a,true)
        else
          (fQ_ fuel b.Edges a 2)>>=λg=>
          some ((⟨(a.length:Int),b.Degree,d,g⟩:c_),a,true)
      | .inr _=>none
  | .inr _=>none
def rh_(oo:Tg)(t:Nat)(w:World)(r:c_×Yl×Bool):Ending->World->Prop:=λe w'=>∃(a:List Value)(c:Value)(o':Tg),e=.returned (.tuple #[.agg a.toArray,c,.bool r.2.2])∧Rp.rd o' w' a r.1∧RdL o' w' c r.2.1∧Keeps w w'∧∀b,b<w.heap.size->o' b=oo b
theorem mU_(fuel:Nat)(w:World)(oo:Tg)(t:Nat)(ht:2<=t)(m4:List Value)(J:c_)(o2:Rp.rd zt w m4 J)(q:Value)(F:Yk)(e8:RdL zt w q F)(B:Bool)(r:c_×Yl×Bool)(hF:fO_ fuel J F B=some r):
    Calls tX_ 113 #[.agg m4.toArray,q,.bool B] w (rh_ oo t w r):=by
 unfold fO_ at hF;obtain⟨c7,c8,rfl,o3,o4⟩:=o2;have hB:Bs oo (col oo) w w:=Bs.start _ _;refine j_ (n:=76) (vs:=[.agg #[ZI J.Labels,ZI J.Degree,c7,c8],q,.bool B]) Tryz.func113 rfl rfl ?_;generalize col oo=o at*;refine Zq (Zo ?_);refine aD_ (o:=o) w.heap.size 11 hB.keeps.size (cs:=[ZI J.Labels,ZI J.Degree,c7,c8]) rfl rfl ?_;intro o5 q1 y G o6;replace hB:=hB.stp o6;refine Zo ?_;refine aY_ (o:=o5) w.heap.size 12 hB.keeps.size (cs:=[ZI 0,ZI 0,.slice none 0 0,.slice none 0 0]) um_ rfl ?_;intro d7 e9 b f f0;replace G:=G.stp f0;replace hB:=hB.stp f0;refine Za rfl (Za rfl (Ze [(1,_),(2,_),(3,_),(6,_)] (Zn (Za rfl (Ze [(1,_),(2,_),(3,_),(6,_),(9,_)] (nx (b_ (Zq (Zm rfl (Zv (J_ rfl e8 ub_) (Zm rfl (Ze [(1,_),(2,_),(3,_),(6,_),(9,_),(18,_),(19,_),(20,_)] ?_))))))))))));refine nx ?_;have j7:RdL d7 e9 (.slice none 0 0) ([]:Yl):=RdL.nil _ _;have j8:Of 3 d7 e9 (.slice none 0 0) ([]:Yl):=Of.nil _ _ _;obtain⟨f1,f2,hF⟩:=a_ hF;refine A_ (λa N=>∃(m:Yl)(g:Value)(H:Tg),f1=.inl m∧Fr a 76 [(1,q),(2,.bool B),(3,ZP y),(6,ZP b),(9,g)]∧Bs oo H w N∧RdL H N g m∧Of 3 H N g m∧Bx w.heap.size 11 H N y 28 [ZI J.Labels,ZI J.Degree,c7,c8]∧Bx w.heap.size 12 H N b 28 [ZI 0,ZI 0,.slice none 0 0,.slice none 0 0]) (λ_ _=>False) ?_ ?_ ?_
 ·refine f_ ?_;refine z_ (λ(K:Nat) a N=>∃(u:Int)(m:Yl)(g:Value)(H:Tg),forI (dO_ fuel) (F.drop u.toNat) u m=some f1∧(F.drop u.toNat).length=K∧0<=u∧Fr a 76 [(1,q),(2,.bool B),(3,ZP y),(6,ZP b),(9,g),(18,q),(19,ZI (F.length:Int)),(20,ZI u)]∧Bs oo H w N∧RdL H N g m∧Of 3 H N g m∧Bx w.heap.size 11 H N y 28 [ZI J.Labels,ZI J.Degree,c7,c8]∧Bx w.heap.size 12 H N b 28 [ZI 0,ZI 0,.slice none 0 0,.slice none 0 0]) _ (λa ha=>⟨0,[],.slice none 0 0,d7,f2,rfl,Int.le_refl 0,ha.sb,hB,j7,j8,G,f⟩) ?_;rintro K28 a N ⟨u,m,g,H,f3,j9,k0,ha,hB,d,C,G,f⟩;by_cases c2:u<(F.length:Int)
  ·obtain⟨O,o7,f4,b1,k1⟩:=R_ k0 c2 f3;have hle:=e8.len_le;dsimp only[dO_] at b1;refine O_ ha ?_;refine Zq (Zv (u_ rfl rfl) (Ze [(1,_),(2,_),(3,_),(6,_),(9,_),(18,_),(19,_),(20,_),(21,_)] (nx (b_ ?_))));refine M_ (Zb (decide_eq_true c2)) ?_;refine h_ (nx (b_ (f_ (Zq (Zo ?_)))));refine wf_atZ e8 f4 hB rfl rfl ub_ uf_ ?_;intro o8 o9 p0 k2 k3;obtain⟨U,rfl,d8⟩:=k3;refine Zv (e_ rfl ug_ (i_ k2)) (Za rfl (Ze [(1,_),(2,_),(3,_),(6,_),(9,_),(11,_),(18,_),(19,_),(20,_)] (Zn (Zm rfl (Zv (J_ rfl d8 tY_) (Zm rfl (Ze [(1,_),(2,_),(3,_),(6,_),(9,_),(18,_),(19,_),(20,_),(24,_),(25,_),(26,_)] (nx ?_))))))));obtain⟨f5,f6,b1⟩:=a_ b1;refine A_ (λa Q=>∃(S:Yl)(I:Value)(L:Tg),f5=.inl S∧Fr a 76 [(1,q),(2,.bool B),(3,ZP y),(6,ZP b),(9,I),(18,q),(19,ZI (F.length:Int)),(20,ZI u)]∧Bs oo L w Q∧RdL L Q I S∧Of 3 L Q I S∧Bx w.heap.size 11 L Q y 28 [ZI J.Labels,ZI J.Degree,c7,c8]∧Bx w.heap.size 12 L Q b 28 [ZI 0,ZI 0,.slice none 0 0,.slice none 0 0]) (λ_ _=>False) ?_ ?_ ?_
   ·refine f_ ?_;refine z_ (λ(K:Nat) a Q=>∃(M:Int)(S:Yl)(I:Value)(L:Tg),forI (dH_ fuel) (O.drop M.toNat) M S=some f5∧(O.drop M.toNat).length=K∧0<=M∧Fr a 76 [(1,q),(2,.bool B),(3,ZP y),(6,ZP b),(9,I),(18,q),(19,ZI (F.length:Int)),(20,ZI u),(24,U),(25,ZI (O.length:Int)),(26,ZI M)]∧Bs oo L w Q∧RdL L Q I S∧Of 3 L Q I S∧Bx w.heap.size 11 L Q y 28 [ZI J.Labels,ZI J.Degree,c7,c8]∧Bx w.heap.size 12 L Q b 28 [ZI 0,ZI 0,.slice none 0 0,.slice none 0 0]) _ (λa ha=>⟨0,m,g,H,f6,rfl,Int.le_refl 0,ha.sb,hB,d,C,G,f⟩) ?_;rintro K52 a Q ⟨M,S,I,L,f7,k4,k5,ha,hB,d9,c3,G,f⟩;by_cases c4:M<(O.length:Int)
    ·obtain⟨f8,p1,f9,c5,k6⟩:=R_ k5 c4 f7;have hle:=d8.len_le;dsimp only[dH_] at c5;refine O_ ha ?_;refine Zq (Zv (u_ rfl rfl) (Ze [(1,_),(2,_),(3,_),(6,_),(9,_),(18,_),(19,_),(20,_),(24,_),(25,_),(26,_),(27,_)] (nx (b_ ?_))));refine M_ (Zb (decide_eq_true c4)) ?_;refine h_ (nx (b_ (f_ (Zq (Zo ?_)))));refine wf_atZ d8 f9 hB rfl rfl tY_ tZ_ ?_;intro p2 p3 p4 k7 k8;cases k8
     refine Zv (e_ rfl ua_ (i_ k7)) (Za rfl (Ze [(1,_),(2,_),(3,_),(6,_),(9,_),(13,_),(18,_),(19,_),(20,_),(24,_),(25,_),(26,_)] (nx (d_ (Zm rfl (Zm rfl ?_))))));obtain⟨g0,g1,c5⟩:=a_ c5;refine Zo ?_;refine o_ (sl_ fuel Q L 13 (by decide) _ S c3 f8 g0 g1) Tryz.call157 ⟨rfl,rfl,trivial⟩ ?_;rintro p5 p6 ⟨c6,k9,rfl,g2,l0,l1⟩;have e0:=l0.stp' 13 l1;have l2:=g2.rd;refine⟨_,rfl,?_⟩;replace G:=G.stp e0;replace f:=f.stp e0;replace hB:=hB.stp e0;refine Za rfl (Ze [(1,q),(2,.bool B),(3,ZP y),(6,ZP b),(9,c6),(18,q),(19,ZI (F.length:Int)),(20,ZI u),(24,U),(25,ZI (O.length:Int)),(26,ZI M)] (y_ (nx (d_ (Zv (C_ rfl rfl (F_ (by omega) (by omega))) (Zm rfl (Ze [(1,_),(2,_),(3,_),(6,_),(9,_),(18,_),(19,_),(20,_),(24,_),(25,_),(26,_)] (x_ ?_))))))));have l3:=Zj c5;subst l3;refine Zk [(1,_),(2,_),(3,_),(6,_),(9,_),(18,_),(19,_),(20,_),(24,_),(25,_),(26,_)] ?_;intro a ha;exact⟨_,(by rw[<-k4];simp only[List.length_drop];omega),M+1,g0,c6,k9,k6,rfl,by omega,ha,hB,l2,g2,G,f⟩
    ·have l4:=S_ c4 f7;refine O_ ha ?_;refine Zq (Zv (u_ rfl rfl) (Ze [(1,_),(2,_),(3,_),(6,_),(9,_),(18,_),(19,_),(20,_),(24,_),(25,_),(26,_),(27,_)] (nx (b_ ?_))));refine D_ (Zb (decide_eq_false c4)) ?_;refine w_ ?_;refine m_ (m_ (Q_ ?_));refine s_ ?_;refine Zk [(1,_),(2,_),(3,_),(6,_),(9,_),(18,_),(19,_),(20,_)] ?_;intro a ha;exact⟨S,I,L,l4,ha,hB,d9,c3,G,f⟩
   ·rintro a Q ⟨S,I,L,rfl,ha,hB,d9,c3,G,f⟩;dsimp only at b1;refine ap_k ha ?_;refine y_ (nx (d_ (Zv (C_ rfl rfl (F_ (by omega) (by omega))) (Zm rfl (Ze [(1,_),(2,_),(3,_),(6,_),(9,_),(18,_),(19,_),(20,_)] (x_ ?_))))));have l5:=Zj b1;subst l5;refine Zk [(1,_),(2,_),(3,_),(6,_),(9,_),(18,_),(19,_),(20,_)] ?_;intro a ha;exact⟨_,(by rw[<-j9];simp only[List.length_drop];omega),u+1,S,I,L,k1,rfl,by omega,ha,hB,d9,c3,G,f⟩
   ·exact λ_ _ h=>h.elim
  ·have l6:=S_ c2 f3;refine O_ ha ?_;refine Zq (Zv (u_ rfl rfl) (Ze [(1,_),(2,_),(3,_),(6,_),(9,_),(18,_),(19,_),(20,_),(21,_)] (nx (b_ ?_))));refine D_ (Zb (decide_eq_false c2)) ?_;refine w_ ?_;refine m_ (m_ (Q_ ?_));refine s_ ?_;refine Zk [(1,_),(2,_),(3,_),(6,_),(9,_)] ?_;intro a ha;exact⟨m,g,H,l6,ha,hB,d,C,G,f⟩
 ·rintro a N ⟨m,g,H,rfl,ha,hB,d,C,G,f⟩;dsimp only at hF;refine ap_k ha ?_;refine nx (b_ (Zq (Zm rfl (Zv (J_ rfl d tY_) ?_))));obtain⟨g3,g4,hF⟩:=a_ hF;refine Zo ?_;refine o_ (lH_ N (m.length:Int) 1 8 g3 g4) Tryz.call40 ⟨rfl,rfl,rfl,trivial⟩ ?_;rintro p7 p8 ⟨rfl,l7⟩;have b2:=l7.stp 999 H;refine⟨_,rfl,?_⟩;replace d:=d.stp b2;replace C:=C.stp b2;replace G:=G.stp b2;replace f:=f.stp b2;replace hB:=hB.stp b2;refine Zv (bo_ rfl) (Ze [(1,_),(2,_),(3,_),(6,_),(9,_),(38,_)] (nx ?_));refine p_ rfl (λe1=>?_) (λe1=>?_)
  ·rw[if_pos e1] at hF;refine Zq (Zv (bY_ (vs:=[]) (cs:=[ZI 0,ZI 0,.slice none 0 0,.slice none 0 0]) trivial (by kernel_rfl)) ?_);refine am_ trivial ?_;refine ae_ f rfl rfl rfl av_ (by intro c hc;simp only[List.mem_cons,List.not_mem_nil,or_false] at hc;rcases hc with rfl|rfl|rfl|rfl<;>first|rfl) ?_;intro p9 l8 l9;replace hB:=hB.stp l9;refine Za rfl (Za rfl (Ze [(6,_),(7,_),(8,_)] (nx (n_ (I_ ?_)))));have m0:=Zj hF;subst m0;refine N_ (P:=tX_) (vs:=[.agg #[ZI 0,ZI 0,.slice none 0 0,.slice none 0 0],.slice none 0 0,.bool false]) uU_ ⟨⟨_,rfl,aW_ ue_ uc_ rfl l8.cells⟩,rfl,rfl,trivial⟩ ?_;exact⟨[ZI 0,ZI 0,.slice none 0 0,.slice none 0 0],_,rt oo H w.heap.size 9 t,rfl,⟨_,_,rfl,RdL.nil _ _,RdL.nil _ _⟩,RdL.nil _ _,hB.keeps,ac_ _ _ _ _ _⟩
  ·replace hF:=ZF e1 hF;refine h_ (Zn (Zm rfl (Zv (J_ rfl d tY_) (Zv (r_ rfl ud_ rfl tZ_) (Zv (e_ rfl ua_ (G.cell rfl)) (Zv (bY_ (vs:=[(0,ZI (m.length:Int)),(1,ZI J.Degree)]) (cs:=[ZI (m.length:Int),ZI J.Degree,.slice none 0 0,.slice none 0 0]) ⟨rfl,rfl,rfl,rfl,trivial⟩ (by kernel_rfl)) (Zo ?_)))))));refine aY_ (o:=H) w.heap.size 15 hB.keeps.size (cs:=[ZI 0,ZI 0,.slice none 0 0,.slice none 0 0]) um_ rfl ?_;intro g5 q0 x m1 b3;replace d:=d.stp b3;replace C:=C.stp b3;replace G:=G.stp b3;replace f:=f.stp b3;replace hB:=hB.stp b3;refine am_ trivial ?_;refine ae_ m1 rfl rfl rfl av_ (by intro c hc;simp only[List.mem_cons,List.not_mem_nil,or_false] at hc;rcases hc with rfl|rfl|rfl|rfl<;>first|rfl) ?_;intro m2 R b4;replace d:=d.stp b4;replace C:=C.stp b4;replace G:=G.stp b4;replace f:=f.stp b4;replace hB:=hB.stp b4;refine Ze [(1,_),(2,_),(3,_),(6,_),(9,_),(14,_)] (Zn (Za rfl (Ze [(1,_),(2,_),(3,_),(6,_),(9,_),(14,_),(15,_)] (nx (b_ (Zq (Zm rfl (Zv (J_ rfl e8 ub_) (Zm rfl (Ze [(2,_),(3,_),(6,_),(9,_),(14,_),(15,_),(45,_),(46,_),(47,_)] (nx ?_)))))))))));have m3:RdL g5 m2 (.slice none 0 0) ([]:Yk):=RdL.nil _ _;obtain⟨c9,e2,hF⟩:=a_ hF;refine A_ (λa s=>∃(Y:Yk)(A:Value)(i:Tg),c9=.inl Y∧Fr a 76 [(2,.bool B),(3,ZP y),(6,ZP b),(9,g),(14,ZP x),(15,A)]∧Bs oo i w s∧RdL i s g m∧Of 3 i s g m∧RdL i s A Y∧Bx w.heap.size 11 i s y 28 [ZI J.Labels,ZI J.Degree,c7,c8]∧Bx w.heap.size 12 i s b 28 [ZI 0,ZI 0,.slice none 0 0,.slice none 0 0]∧Bx w.heap.size 15 i s x 28 [ZI (m.length:Int),ZI J.Degree,.slice none 0 0,.slice none 0 0]) (λ_ _=>False) ?_ ?_ ?_
   ·refine f_ ?_;refine z_ (λ(K:Nat) a s=>∃(v:Int)(Y:Yk)(A:Value)(i:Tg),forI (dR_ fuel m) (F.drop v.toNat) v Y=some c9∧(F.drop v.toNat).length=K∧0<=v∧Fr a 76 [(2,.bool B),(3,ZP y),(6,ZP b),(9,g),(14,ZP x),(15,A),(45,q),(46,ZI (F.length:Int)),(47,ZI v)]∧Bs oo i w s∧RdL i s g m∧Of 3 i s g m∧RdL i s A Y∧Bx w.heap.size 11 i s y 28 [ZI J.Labels,ZI J.Degree,c7,c8]∧Bx w.heap.size 12 i s b 28 [ZI 0,ZI 0,.slice none 0 0,.slice none 0 0]∧Bx w.heap.size 15 i s x 28 [ZI (m.length:Int),ZI J.Degree,.slice none 0 0,.slice none 0 0]) _ (λa ha=>⟨0,[],.slice none 0 0,g5,e2,rfl,Int.le_refl 0,ha.sb,hB,d,C,m3,G,f,R⟩) ?_;rintro K107 a s ⟨v,Y,A,i,d0,g6,g7,ha,hB,d,C,k,G,f,R⟩;by_cases a7:v<(F.length:Int)
    ·obtain⟨g8,m5,e3,V,g9⟩:=R_ g7 a7 d0;have hle:=e8.len_le;dsimp only[dR_] at V;refine O_ ha ?_;refine Zq (Zv (u_ rfl rfl) (Ze [(2,_),(3,_),(6,_),(9,_),(14,_),(15,_),(45,_),(46,_),(47,_),(48,_)] (nx (b_ ?_))));refine M_ (Zb (decide_eq_true a7)) ?_;refine h_ (nx (b_ (f_ (Zq (Zo ?_)))));refine wf_atZ e8 e3 hB rfl rfl ub_ uf_ ?_;intro m6 m7 m8 h0 h1;obtain⟨h2,rfl,h3⟩:=h1;refine Zv (e_ rfl ug_ (i_ h0)) (Za rfl (Ze [(2,_),(3,_),(6,_),(9,_),(14,_),(15,_),(17,_),(45,_),(46,_),(47,_)] (nx (d_ (Zm rfl (Zm rfl (Zm rfl ?_)))))));obtain⟨d1,e4,V⟩:=a_ V;refine Zo ?_;refine o_ (mT_ fuel s i 16 (by decide) _ m d.z _ g8 (h3.keep hB.keeps) d1 e4) Tryz.call159 ⟨rfl,rfl,trivial⟩ ?_;rintro m9 h4 ⟨n0,h5,rfl,W,h6,h7⟩;have T:=h6.stp' 16 h7;replace W:=W.mono hB.keeps.size;refine⟨_,rfl,?_⟩;replace d:=d.stp T;replace C:=C.stp T;replace k:=k.stp T;replace G:=G.stp T;replace f:=f.stp T;replace R:=R.stp T;replace hB:=hB.stp T;replace d:=d.frz 16;replace C:=C.frz 16 (by decide);replace k:=k.frz 16;have n1:=W.frzF;replace W:=W.frz;replace G:=G.frz_ne (j:=16) (by decide);replace f:=f.frz_ne (j:=16) (by decide);replace R:=R.frz_ne (j:=16) (by decide);replace hB:=hB.frz 16 (by decide);generalize (frz 16 h5)=h8 at*;obtain⟨d2,e5,V⟩:=a_ V;refine Zo ?_;refine o_ (oa_ fuel h4 h8 17 (by decide) _ Y k _ d1 W d2 e5) Tryz.call158 ⟨rfl,rfl,trivial⟩ ?_;rintro n2 n3 ⟨a8,h9,rfl,i0,i1,i2⟩;have X:=i1.stp' 17 i2;refine⟨_,rfl,?_⟩;replace d:=d.stp X;replace C:=C.stp X;replace G:=G.stp X;replace f:=f.stp X;replace R:=R.stp X;replace hB:=hB.stp X;refine Za rfl (Ze [(2,.bool B),(3,ZP y),(6,ZP b),(9,g),(14,ZP x),(15,a8),(45,q),(46,ZI (F.length:Int)),(47,ZI v)] (y_ (nx (d_ (Zv (C_ rfl rfl (F_ (by omega) (by omega))) (Zm rfl (Ze [(2,_),(3,_),(6,_),(9,_),(14,_),(15,_),(45,_),(46,_),(47,_)] (x_ ?_))))))));have i3:=Zj V;subst i3;refine Zk [(2,_),(3,_),(6,_),(9,_),(14,_),(15,_),(45,_),(46,_),(47,_)] ?_;intro a ha;exact⟨_,(by rw[<-g6];simp only[List.length_drop];omega),v+1,d2,a8,h9,g9,rfl,by omega,ha,hB,d,C,i0,G,f,R⟩
    ·have i4:=S_ a7 d0;refine O_ ha ?_;refine Zq (Zv (u_ rfl rfl) (Ze [(2,_),(3,_),(6,_),(9,_),(14,_),(15,_),(45,_),(46,_),(47,_),(48,_)] (nx (b_ ?_))));refine D_ (Zb (decide_eq_false a7)) ?_;refine w_ ?_;refine m_ (m_ (Q_ ?_));refine s_ ?_;refine Zk [(2,_),(3,_),(6,_),(9,_),(14,_),(15,_)] ?_;intro a ha;exact⟨Y,A,i,i4,ha,hB,d,C,k,G,f,R⟩
   ·rintro a s ⟨Y,A,i,rfl,ha,hB,d,C,k,G,f,R⟩;dsimp only at hF;refine ap_k ha ?_;refine nx (b_ (Zq (Zm rfl (Ze [(3,_),(6,_),(9,_),(14,_),(15,_),(57,_)] (nx ?_)))));refine p_ rfl (λb5=>?_) (λb5=>?_)
    ·rw[if_pos b5] at hF;refine Zq (Zm rfl (Zv (r_ rfl ud_ rfl ui_) ?_));refine am_ trivial ?_;refine cu_ R rfl rfl (of_decide_eq_true rfl) ui_ k.cells1 k.one1 ?_;intro d3 Z a0;replace d:=d.stp a0;replace k:=k.stp a0;replace G:=G.stp a0;replace f:=f.stp a0;replace hB:=hB.stp a0;replace Z:Bx w.heap.size 15 i d3 x 28 [ZI (m.length:Int),ZI J.Degree,.slice none 0 0,A]:=Z;refine Ze [(3,_),(6,_),(9,_),(14,_)] (nx (d_ (Zv (r_ rfl ud_ rfl ui_) (Zv (e_ rfl uj_ (G.cell rfl)) (Zm rfl (Zv (r_ rfl ud_ rfl tZ_) (Zv (e_ rfl ua_ (G.cell rfl)) ?_)))))));obtain⟨i5,e6,hF⟩:=a_ hF;refine Zo ?_;refine o_ (me_ fuel d3 i 18 (by decide) _ J.Nodes (o3.keep hB.keeps) _ m d.z J.Degree i5 e6) vU_ ⟨rfl,rfl,rfl,trivial⟩ ?_;rintro n4 n5 ⟨b6,d4,rfl,D,i6,i7⟩;have a1:=i6.stp' 18 i7;replace D:=D.mono hB.keeps.size;refine⟨_,rfl,?_⟩;replace d:=d.stp a1;replace f:=f.stp a1;replace Z:=Z.stp a1;replace k:=k.stp a1;replace hB:=hB.stp a1;refine Zv (r_ rfl ud_ rfl ui_) ?_;refine am_ trivial ?_;refine cu_ Z rfl rfl (of_decide_eq_true rfl) ui_ D.cells1 D.one1 ?_;intro i8 b7 a2;replace d:=d.stp a2;replace D:=D.stp a2;replace f:=f.stp a2;replace k:=k.stp a2;replace hB:=hB.stp a2;replace b7:Bx w.heap.size 15 d4 i8 x 28 [ZI (m.length:Int),ZI J.Degree,b6,A]:=b7;refine Ze [(6,_),(9,_),(14,_)] (Zn (Zv (H_ rfl ue_ uc_ rfl b7.cells) (Zm rfl ?_)));refine am_ trivial ?_;refine ae_ f rfl rfl rfl av_ (by intro c hc;simp only[List.mem_cons,List.not_mem_nil,or_false] at hc;rcases hc with rfl|rfl|rfl|rfl<;>first|rfl|exact D.one1|exact k.one1) ?_;intro n6 b8 a9;replace d:=d.stp a9;replace D:=D.stp a9;replace k:=k.stp a9;replace hB:=hB.stp a9;refine Za rfl (Za rfl (Ze [(6,_),(7,_),(8,_)] (nx (n_ ?_))));replace d:=d.frz 18;replace b8:=b8.frz_ne (j:=18) (by decide);have n7:=D.frzF;replace D:=D.frz;replace k:=k.frz 18;replace hB:=hB.frz 18 (by decide);generalize (frz 18 d4)=i9 at*;have j0:=Zj hF;subst j0;refine N_ (P:=tX_) (vs:=[.agg #[ZI (m.length:Int),ZI J.Degree,b6,A],g,.bool true]) uU_ ⟨⟨_,rfl,aW_ ue_ uc_ rfl b8.cells⟩,rfl,rfl,trivial⟩ ?_;exact⟨[ZI (m.length:Int),ZI J.Degree,b6,A],_,rt oo i9 w.heap.size 9 t,rfl,⟨_,_,rfl,D.rt hB 9 t (by decide),k.rt hB 9 t (by decide)⟩,d.rt hB 9 t (by decide),hB.keeps,ac_ _ _ _ _ _⟩
    ·replace hF:=ZF b5 hF;refine Zq (Zm rfl (Zv (r_ rfl ud_ rfl ui_) ?_));refine am_ trivial ?_;refine cu_ R rfl rfl (of_decide_eq_true rfl) ui_ k.cells1 k.one1 ?_;intro d5 a3 a4;replace d:=d.stp a4;replace k:=k.stp a4;replace G:=G.stp a4;replace f:=f.stp a4;replace hB:=hB.stp a4;replace a3:Bx w.heap.size 15 i d5 x 28 [ZI (m.length:Int),ZI J.Degree,A,.slice none 0 0]:=a3;refine Ze [(3,_),(6,_),(9,_),(14,_)] (nx (d_ (Zv (r_ rfl ud_ rfl ui_) (Zv (e_ rfl uj_ (G.cell rfl)) (Zm rfl ?_)))));obtain⟨j1,e7,hF⟩:=a_ hF;refine Zo ?_;refine o_ (me_ fuel d5 i 19 (by decide) _ J.Edges (o4.keep hB.keeps) _ m d.z 2 j1 e7) vU_ ⟨rfl,rfl,rfl,trivial⟩ ?_;rintro n8 n9 ⟨b9,d6,rfl,E,j2,j3⟩;have a5:=j2.stp' 19 j3;replace E:=E.mono hB.keeps.size;refine⟨_,rfl,?_⟩;replace d:=d.stp a5;replace f:=f.stp a5;replace a3:=a3.stp a5;replace k:=k.stp a5;replace hB:=hB.stp a5;refine Zv (r_ rfl ud_ rfl ui_) ?_;refine am_ trivial ?_;refine cu_ a3 rfl rfl (of_decide_eq_true rfl) ui_ E.cells1 E.one1 ?_;intro j4 c0 a6;replace d:=d.stp a6;replace E:=E.stp a6;replace f:=f.stp a6;replace k:=k.stp a6;replace hB:=hB.stp a6;replace c0:Bx w.heap.size 15 d6 j4 x 28 [ZI (m.length:Int),ZI J.Degree,A,b9]:=c0;refine Ze [(6,_),(9,_),(14,_)] (Zn (Zv (H_ rfl ue_ uc_ rfl c0.cells) (Zm rfl ?_)));refine am_ trivial ?_;refine ae_ f rfl rfl rfl av_ (by intro c hc;simp only[List.mem_cons,List.not_mem_nil,or_false] at hc;rcases hc with rfl|rfl|rfl|rfl<;>first|rfl|exact k.one1|exact E.one1) ?_;intro o0 c1 b0;replace d:=d.stp b0;replace k:=k.stp b0;replace E:=E.stp b0;replace hB:=hB.stp b0;refine Za rfl (Za rfl (Ze [(6,_),(7,_),(8,_)] (nx (n_ ?_))));replace d:=d.frz 19;replace c1:=c1.frz_ne (j:=19) (by decide);replace k:=k.frz 19;have o1:=E.frzF;replace E:=E.frz;replace hB:=hB.frz 19 (by decide);generalize (frz 19 d6)=j5 at*;have j6:=Zj hF;subst j6;refine N_ (P:=tX_) (vs:=[.agg #[ZI (m.length:Int),ZI J.Degree,A,b9],g,.bool true]) uU_ ⟨⟨_,rfl,aW_ ue_ uc_ rfl c1.cells⟩,rfl,rfl,trivial⟩ ?_;exact⟨[ZI (m.length:Int),ZI J.Degree,A,b9],_,rt oo j5 w.heap.size 9 t,rfl,⟨_,_,rfl,k.rt hB 9 t (by decide),E.rt hB 9 t (by decide)⟩,d.rt hB 9 t (by decide),hB.keeps,ac_ _ _ _ _ _⟩
   ·exact λ_ _ h=>h.elim
 ·exact λ_ _ h=>h.elim
def dP_(fuel:Nat)(b:c_):((List (List Int))×Int)->Option (Lp ((List (List Int))×Int) ((List (List Int))×Int) (c_×(List Int)×Bool)):=λ(s:(List (List Int))×Int)=>
  (shl 1 b.Labels)>>=λc=>
  if decide (s.2<c) then
    (fP_ fuel b s.2)>>=λa=>
    (
      if decide (a>0) then
        (fP_ fuel b a)>>=λd=>
        some (d==s.2)
      else
        some false)>>=λf=>
    if f then
      (push s.1 ([s.2,a]:List Int))>>=λg=>
      (ck (s.2+1))>>=λi=>
      some (.go (g,i))
    else
      (ck (s.2+1))>>=λj=>
      some (.go (s.1,j))
  else
    some (.out (s.1,s.2))
def gO_(fuel:Nat)(d:c_):Option (c_×(List Int)×Bool):=
  (loopF (dP_ fuel d) fuel ([],1))>>=λb=>
  match b with
  | .inl (c,f)=>
    (fO_ fuel d c true)>>=λa=>
    some (a.1,a.2.1,a.2.2)
  | .inr _=>none
def ql_(oo:Tg)(t:Nat)(w:World)(r:c_×Yl×Bool):Ending->World->Prop:=λe w'=>∃(a:List Value)(c:Value)(o':Tg),e=.returned (.tuple #[.agg a.toArray,c,.bool r.2.2])∧Rp.rd o' w' a r.1∧RdL o' w' c r.2.1∧Keeps w w'∧∀b,b<w.heap.size->o' b=oo b
theorem rl_(fuel:Nat)(w:World)(oo:Tg)(t:Nat)(ht:2<=t)(e9:List Value)(F:c_)(f0:Rp.rd zt w e9 F)(r:c_×Yl×Bool)(hF:gO_ fuel F=some r):
    Calls tX_ 108 #[.agg e9.toArray] w (ql_ oo t w r):=by
 unfold gO_ at hF;obtain⟨c5,c6,rfl,c7,c8⟩:=f0;have hB:Bs oo (col oo) w w:=Bs.start _ _;refine j_ (n:=39) (vs:=[.agg #[ZI F.Labels,ZI F.Degree,c5,c6]]) Tryz.func108 rfl rfl ?_;generalize col oo=o at*;refine Zq (Zo ?_);refine aD_ (o:=o) w.heap.size 11 hB.keeps.size (cs:=[ZI F.Labels,ZI F.Degree,c5,c6]) rfl rfl ?_;intro f1 h0 A u f2;replace hB:=hB.stp f2;refine Zo ?_;refine aY_ (o:=f1) w.heap.size 12 hB.keeps.size (cs:=[ZI 0,ZI 0,.slice none 0 0,.slice none 0 0]) um_ rfl ?_;intro U a2 b d a3;replace u:=u.stp a3;replace hB:=hB.stp a3;refine Za rfl (Za rfl (Ze [(1,_),(2,_)] (Zn (Za rfl (Ze [(1,_),(2,_),(5,_)] (nx (b_ (Zq (Za rfl (Ze [(1,_),(2,_),(5,_),(6,_)] (nx ?_)))))))))));have c9:Ow w.heap.size 41 13 U a2 (.slice none 0 0) ([]:List Hv):=Ow.nil _ _ _ _ _;have d0:Rws w.heap.size 3 14 U a2 [] ([]:Yk):=Rws.nil _ _ _ _ _;obtain⟨a4,a5,hF⟩:=a_ hF;refine A_ (λa m=>∃(x:Yk)(f:Int)(j:Value)(y:List Hv)(g:Tg),a4=.inl (x,f)∧Fr a 39 [(1,ZP A),(2,ZP b),(5,j)]∧Bs oo g w m∧Ow w.heap.size 41 13 g m j y∧Rws w.heap.size 3 14 g m y x∧Bx w.heap.size 11 g m A 28 [ZI F.Labels,ZI F.Degree,c5,c6]∧Bx w.heap.size 12 g m b 28 [ZI 0,ZI 0,.slice none 0 0,.slice none 0 0]) (λ_ _=>False) ?_ ?_ ?_
 ·refine f_ ?_;refine z_ (λ(K:Nat) a m=>∃(x:Yk)(f:Int)(j:Value)(y:List Hv)(g:Tg),loopF (dP_ fuel F) K (x,f)=some a4∧Fr a 39 [(1,ZP A),(2,ZP b),(5,j),(6,ZI f)]∧Bs oo g w m∧Ow w.heap.size 41 13 g m j y∧Rws w.heap.size 3 14 g m y x∧Bx w.heap.size 11 g m A 28 [ZI F.Labels,ZI F.Degree,c5,c6]∧Bx w.heap.size 12 g m b 28 [ZI 0,ZI 0,.slice none 0 0,.slice none 0 0]) fuel (λa ha=>⟨[],1,.slice none 0 0,[],U,a5,ha.sb,hB,c9,d0,u,d⟩) ?_;rintro K29 a m ⟨x,f,j,y,g,d1,ha,hB,s,k,u,d⟩;obtain⟨K33,f3,f4,i,V⟩:=ad_ d1;dsimp only[dP_] at i;refine O_ ha ?_;refine b_ (Zq (Zm rfl (Zv (r_ rfl ud_ rfl tZ_) (Zv (e_ rfl ua_ (u.cell rfl)) ?_))));obtain⟨d2,a6,i⟩:=a_ i;refine Zv (fI_ rfl rfl a6) (Zv (u_ rfl rfl) (Ze [(1,_),(2,_),(5,_),(6,_),(12,_)] (nx ?_)));refine p_ rfl (λW=>?_) (λW=>?_)
  ·rw[if_pos W] at i;refine h_ (nx (b_ (f_ (Zq (Zv (H_ rfl ue_ uc_ rfl u.cells) (Zm rfl ?_))))));obtain⟨v,a7,i⟩:=a_ i;refine Zo ?_;refine o_ (mH_ fuel m _ F (⟨_,_,rfl,c7.keep hB.keeps,c8.keep hB.keeps⟩) f v a7) vV_ ⟨rfl,rfl,trivial⟩ ?_;rintro f5 O ⟨rfl,d3⟩;have I:=d3.stp 999 g;refine⟨_,rfl,?_⟩;replace s:=s.stp I;replace k:=k.stp I;replace u:=u.stp I;replace d:=d.stp I;replace hB:=hB.stp I;refine Za rfl (Ze [(1,_),(2,_),(5,_),(6,_),(7,_)] (Zn (Zm rfl (Zv (ef_ rfl rfl) (Zm rfl ?_)))));obtain⟨a8,B,i⟩:=a_ i;refine aF_ 6 (λd4 a9=>Fr d4 39 [(1,ZP A),(2,ZP b),(5,j),(6,ZI f),(7,ZI v),(26,.bool a8)]∧Keeps O a9) ?_ ?_;all_goals simp only[List.take_succ_cons,List.take_zero,List.drop_succ_cons,List.drop_zero]
   ·have kp:Keeps O O:=Keeps.refl _;rcases Bool.eq_false_or_eq_true (decide (v>0)) with q|q
    ·rw[if_pos q] at B;refine q_ (H_ rfl ue_ uc_ rfl u.cells) (by decide) ⟨_,rfl,Zb q⟩ (q_ (g_ rfl) (by decide) ⟨_,rfl,Zb q⟩ ?_);obtain⟨b0,b1,B⟩:=a_ B;refine ct_ (by decide) ⟨_,rfl,Zb q⟩ ?_;refine o_ (mH_ fuel O _ F (⟨_,_,rfl,c7.keep hB.keeps,c8.keep hB.keeps⟩) v b0 b1) vV_ ⟨rfl,rfl,trivial⟩ ?_;rintro f6 f7 ⟨rfl,b2⟩;have f8:=b2.stp 999 g;refine⟨_,rfl,?_⟩;replace kp:=Keeps.trans kp b2;refine q_ (g_ rfl) (by decide) ⟨_,rfl,Zb q⟩ (q_ (cD_ rfl rfl) (by decide) ⟨_,rfl,Zb q⟩ (Zv (L_ (Zb q) rfl) ?_));have D:=Zj B;refine Ze [(1,_),(2,_),(5,_),(6,_),(7,_),(26,_)] ?_;subst D;refine s_ (λa ha=>⟨ha,kp⟩)
    ·replace B:=ZF q B;refine v_ rfl rfl (by rw[q];rfl) (by decide) ?_;refine v_ rfl rfl (by rw[q];rfl) (by decide) ?_;refine v_ rfl rfl (by rw[q];rfl) (by decide) ?_;refine v_ rfl rfl (by rw[q];rfl) (by decide) ?_;refine v_ rfl rfl (by rw[q];rfl) (by decide) ?_;refine Zv (G_ (Zb q) rfl) ?_;have D:=Zj B;refine Ze [(1,_),(2,_),(5,_),(6,_),(7,_),(26,_)] ?_;subst D;refine s_ (λa ha=>⟨ha,kp⟩)
   rintro f9 a9 ⟨ha,d5⟩;have J:=d5.stp 999 g;replace s:=s.stp J;replace k:=k.stp J;replace u:=u.stp J;replace d:=d.stp J;replace hB:=hB.stp J;refine aS_ ha ?_;refine Ze [(1,_),(2,_),(5,_),(6,_),(7,_),(26,_)] (nx ?_);refine p_ rfl (λX=>?_) (λX=>?_)
   ·rw[if_pos X] at i;refine d_ (Zm rfl (Zm rfl (Zm rfl (Zo ?_))));refine gj_ w.heap.size 17 hB.keeps.size (o:=g) (cs:=[ZI f,ZI v]) (xs:=([f,v]:Yl)) (vs:=[(0,ZI f),(1,ZI v)]) ⟨_,_,rfl,rfl,⟨_,_,rfl,rfl,rfl⟩⟩ rfl ⟨rfl,rfl,rfl,rfl,trivial⟩ tY_ tZ_ uh_ (by decide) (fill2 rfl rfl) (by simp) ?_;intro d6 g0 L C M;replace s:=s.stp M;replace k:=k.stp M;replace u:=u.stp M;replace d:=d.stp M;replace hB:=hB.stp M;refine Zo ?_;refine aB_ (o:=d6) (cs:=[L]) (xs:=([⟨L⟩]:List Hv)) (vs:=[(0,L)]) ⟨_,_,rfl,jb_ C,rfl⟩ rfl ⟨rfl,rfl,trivial⟩ ub_ uf_ uk_ (by decide) (fill1 C.cells1) (by simp) ?_;intro g1 g2 g3 d7 H g4;replace s:=s.stp H;replace k:=k.stp H;replace C:=C.stp H;replace u:=u.stp H;replace d:=d.stp H;replace hB:=hB.stp H;obtain⟨d8,b3,i⟩:=a_ i;obtain⟨d9,e0⟩:=k.pushV b3 L;refine Zo ?_;refine bf_ s d7 (ai_ d9) (by decide) hB.keeps.size rfl rfl ub_ dC_ rfl (by decide) ?_;intro b4 g5 Q Y N;replace k:=k.stp N;replace C:=C.stp N;replace u:=u.stp N;replace d:=d.stp N;replace hB:=hB.stp N;have b5:=k.push C (by decide) (by decide);rw[<-e0] at b5;clear k C;have R:=fe_ 17 14 b4;replace Y:=Y.rc R (by decide) (by decide);replace u:=u.rc R (by decide);replace d:=d.rc R (by decide);replace hB:=hB.rc R (by decide);generalize mrg 17 14 b4=e1 at*;refine Za rfl (Ze [(1,_),(2,_),(5,_),(6,_)] (y_ (nx (d_ (Zm rfl ?_)))));obtain⟨Z,b6,i⟩:=a_ i;refine Zv (C_ rfl rfl b6) (Za rfl (Ze [(1,_),(2,_),(5,_),(6,_)] (x_ ?_)));have e2:=Zj i;subst e2;refine Zk [(1,_),(2,_),(5,_),(6,_)] ?_;intro a ha;exact⟨K33,by omega,d8,Z,Q,y++[⟨L⟩],e1,V,ha,hB,Y,b5,u,d⟩
   ·replace i:=ZF X i;refine h_ (y_ (nx (d_ (Zm rfl ?_))));obtain⟨a0,b7,i⟩:=a_ i;refine Zv (C_ rfl rfl b7) (Za rfl (Ze [(1,_),(2,_),(5,_),(6,_)] (x_ ?_)));have e3:=Zj i;subst e3;refine Zk [(1,_),(2,_),(5,_),(6,_)] ?_;intro a ha;exact⟨K33,by omega,x,a0,j,y,g,V,ha,hB,s,k,u,d⟩
  ·replace i:=ZF W i;refine w_ ?_;refine m_ (m_ (Q_ ?_));refine s_ ?_;have e4:=Zj i;subst e4;refine Zk [(1,_),(2,_),(5,_)] ?_;intro a ha;exact⟨x,f,j,y,g,V,ha,hB,s,k,u,d⟩
 ·rintro a m ⟨x,f,j,y,g,rfl,ha,hB,s,k,u,d⟩;dsimp only at hF;refine ap_k ha ?_;refine Zn (Zv (H_ rfl ue_ uc_ rfl u.cells) (Zm rfl ?_));obtain⟨E,b8,hF⟩:=a_ hF;refine Zo ?_;refine o_ (mU_ fuel m g 18 (by decide) _ F (⟨_,_,rfl,c7.keep hB.keeps,c8.keep hB.keeps⟩) _ x (k.z s) true E b8) Tryz.call113 ⟨rfl,rfl,rfl,trivial⟩ ?_;rintro g6 g7 ⟨g8,b9,e5,rfl,e6,a1,e7,e8⟩;have c0:=e7.stp' 18 e8;refine⟨_,rfl,?_⟩;obtain⟨c1,c2,rfl,S,T⟩:=e6;replace d:=d.stp c0;replace hB:=hB.stp c0;refine Zv (t_ rfl rfl) (Zv (t_ rfl rfl) (Zv (t_ rfl rfl) ?_));refine am_ trivial ?_;refine ae_ d rfl rfl rfl av_ (by intro c hc;simp only[List.mem_cons,List.not_mem_nil,or_false] at hc;rcases hc with rfl|rfl|rfl|rfl<;>first|rfl|exact S.one1|exact T.one1) ?_;intro g9 c3 G;replace S:=S.stp G;replace T:=T.stp G;replace a1:=a1.stp G;replace hB:=hB.stp G;refine Za rfl (Za rfl (Ze [(2,_),(3,_),(4,_)] (nx (n_ ?_))));have c4:=Zj hF;subst c4;refine N_ (P:=tX_) (vs:=[.agg #[ZI E.1.Labels,ZI E.1.Degree,c1,c2],b9,.bool E.2.2]) Tryz.results108 ⟨⟨_,rfl,aW_ ue_ uc_ rfl c3.cells⟩,rfl,rfl,trivial⟩ ?_;exact⟨[ZI E.1.Labels,ZI E.1.Degree,c1,c2],_,rt oo e5 w.heap.size 9 t,rfl,⟨_,_,rfl,S.rt hB 9 t (by decide),T.rt hB 9 t (by decide)⟩,a1.rt hB 9 t (by decide),hB.keeps,ac_ _ _ _ _ _⟩
 ·exact λ_ _ h=>h.elim
def en_(fuel:Nat)(c:c_):Option (c_×(List Int)×Bool):=
  (ey_ fuel c)>>=λb=>
  if !b then
    some ((⟨0,0,[],[]⟩:c_),[],false)
  else
    (gO_ fuel c)>>=λa=>
    some (a.1,a.2.1,a.2.2)
def np_(oo:Tg)(t:Nat)(w:World)(r:c_×Yl×Bool):Ending->World->Prop:=λe w'=>∃(a:List Value)(c:Value)(o':Tg),e=.returned (.tuple #[.agg a.toArray,c,.bool r.2.2])∧Rp.rd o' w' a r.1∧RdL o' w' c r.2.1∧Keeps w w'∧∀b,b<w.heap.size->o' b=oo b
theorem oe_(fuel:Nat)(w:World)(oo:Tg)(t:Nat)(ht:2<=t)(R:List Value)(j:c_)(X:Rp.rd zt w R j)(r:c_×Yl×Bool)(hF:en_ fuel j=some r):
    Calls tX_ 75 #[.agg R.toArray] w (np_ oo t w r):=by
 unfold en_ at hF;obtain⟨S,T,rfl,U,V⟩:=X;have hB:Bs oo (col oo) w w:=Bs.start _ _;refine j_ (n:=14) (vs:=[.agg #[ZI j.Labels,ZI j.Degree,S,T]]) Tryz.func75 rfl rfl ?_;generalize col oo=o at*;refine Zq (Zo ?_);refine aD_ (o:=o) w.heap.size 11 hB.keeps.size (cs:=[ZI j.Labels,ZI j.Degree,S,T]) rfl rfl ?_;intro Y a6 W u Z;replace hB:=hB.stp Z;refine Zo ?_;refine aY_ (o:=Y) w.heap.size 12 hB.keeps.size (cs:=[ZI 0,ZI 0,.slice none 0 0,.slice none 0 0]) um_ rfl ?_;intro k E d b v;replace u:=u.stp v;replace hB:=hB.stp v;refine Za rfl (Za rfl (Ze [(1,_),(2,_)] (nx (b_ (Zq (Zv (H_ rfl ue_ uc_ rfl u.cells) ?_))))));obtain⟨x,y,hF⟩:=a_ hF;refine Zo ?_;refine o_ (ic_ fuel E _ j (⟨_,_,rfl,U.keep hB.keeps,V.keep hB.keeps⟩) x y) Tryz.call47 ⟨rfl,trivial⟩ ?_;rintro a0 F ⟨rfl,G⟩;have m:=G.stp 999 k;refine⟨_,rfl,?_⟩;replace u:=u.stp m;replace b:=b.stp m;replace hB:=hB.stp m;refine Zv (bo_ rfl) (Ze [(1,_),(2,_),(7,_)] (nx ?_));refine p_ rfl (λq=>?_) (λq=>?_)
 ·rw[if_pos q] at hF;refine Zq (Zv (bY_ (vs:=[]) (cs:=[ZI 0,ZI 0,.slice none 0 0,.slice none 0 0]) trivial (by kernel_rfl)) ?_);refine am_ trivial ?_;refine ae_ b rfl rfl rfl av_ (by intro c hc;simp only[List.mem_cons,List.not_mem_nil,or_false] at hc;rcases hc with rfl|rfl|rfl|rfl<;>first|rfl) ?_;intro a1 H I;replace hB:=hB.stp I;refine Za rfl (Za rfl (Ze [(2,_),(3,_),(4,_)] (nx (n_ (I_ ?_)))));have J:=Zj hF;subst J;refine N_ (P:=tX_) (vs:=[.agg #[ZI 0,ZI 0,.slice none 0 0,.slice none 0 0],.slice none 0 0,.bool false]) vX_ ⟨⟨_,rfl,aW_ ue_ uc_ rfl H.cells⟩,rfl,rfl,trivial⟩ ?_;exact⟨[ZI 0,ZI 0,.slice none 0 0,.slice none 0 0],_,rt oo k w.heap.size 9 t,rfl,⟨_,_,rfl,RdL.nil _ _,RdL.nil _ _⟩,RdL.nil _ _,hB.keeps,ac_ _ _ _ _ _⟩
 ·replace hF:=ZF q hF;refine h_ (Zn (Zv (H_ rfl ue_ uc_ rfl u.cells) ?_));obtain⟨a,z,hF⟩:=a_ hF;refine Zo ?_;refine o_ (rl_ fuel F k 14 (by decide) _ j (⟨_,_,rfl,U.keep hB.keeps,V.keep hB.keeps⟩) a z) Tryz.call108 ⟨rfl,trivial⟩ ?_;rintro a2 a3 ⟨a4,A,K,rfl,L,s,M,N⟩;have B:=M.stp' 14 N;refine⟨_,rfl,?_⟩;obtain⟨C,D,rfl,f,g⟩:=L;replace b:=b.stp B;replace hB:=hB.stp B;refine Zv (t_ rfl rfl) (Zv (t_ rfl rfl) (Zv (t_ rfl rfl) ?_));refine am_ trivial ?_;refine ae_ b rfl rfl rfl av_ (by intro c hc;simp only[List.mem_cons,List.not_mem_nil,or_false] at hc;rcases hc with rfl|rfl|rfl|rfl<;>first|rfl|exact f.one1|exact g.one1) ?_;intro a5 O i;replace f:=f.stp i;replace g:=g.stp i;replace s:=s.stp i;replace hB:=hB.stp i;refine Za rfl (Za rfl (Ze [(2,_),(3,_),(4,_)] (nx (n_ ?_))));have Q:=Zj hF;subst Q;refine N_ (P:=tX_) (vs:=[.agg #[ZI a.1.Labels,ZI a.1.Degree,C,D],A,.bool a.2.2]) vX_ ⟨⟨_,rfl,aW_ ue_ uc_ rfl O.cells⟩,rfl,rfl,trivial⟩ ?_;exact⟨[ZI a.1.Labels,ZI a.1.Degree,C,D],_,rt oo K w.heap.size 9 t,rfl,⟨_,_,rfl,f.rt hB 9 t (by decide),g.rt hB 9 t (by decide)⟩,s.rt hB 9 t (by decide),hB.keeps,ac_ _ _ _ _ _⟩
end
end Go.Proofs.YtdbbeldgdgonfaaGreat
