/- Part 33 of what this claim rests on (pack.py). -/
import Derived.Test.YtdbbeldgdgonfaaGreatP32
namespace Go.Proofs.YtdbbeldgdgonfaaGreat
open Tryz renaming prog→wQ_, results64→Af_, underlying22→wV_, results39→yB_, underlying24→yC_, sizeOf22→wZ_, isAgg22→xb_, call39→Ag_, results9→yD_, underlying48→xs_, results30→yE_, sizeOf24→xT_, underlying51→xg_, sizeOf32→xn_, isAgg32→xq_, results34→xW_, call25→xU_, results36→xX_, call29→xV_
set_option linter.unusedSimpArgs false
set_option linter.unusedVariables false
section
set_option maxRecDepth 100000
set_option maxHeartbeats 2000000
open Go.RowKit
def ia_(b:List Int)(c:Int):Option Int:=
  (ck (c-(b.length:Int)))>>=λa=>
  if decide (a<0) then
    some (-1)
  else
    some a
def sH_(w:World)(r:Int):Ending->World->Prop:=λe w'=>e=.returned (.int .i64 r)∧Keeps w w'
theorem sw_(w:World)(b:Value)(g:Yl)(i:RdL zt w b g)(c:Int)(r:Int)(hF:ia_ g c=some r):
    Calls wQ_ 64 #[b,.int .i64 c] w (sH_ w r):=by
 unfold ia_ at hF;have hB:Bs (λ_=>1) (col (λ_=>1)) w w:=Bs.start _ _;refine i_ (n:=12) (vs:=[b,ZI c]) Tryz.func64 rfl rfl ?_;refine Zq (Za rfl (Ze [(0,_),(1,_)] (Zn (Zm rfl (Zm rfl (Zv (B_ rfl i Tryz.underlying41) ?_))))));obtain⟨a,d,hF⟩:=a_ hF;refine Zv (bs_ rfl rfl d) (Za rfl (Ze [(1,_)] (nx (c_ (Zq (Zm rfl (Zv (r_ rfl rfl) (Ze [(1,_),(10,_)] (nx ?_)))))))));refine l_ rfl (λf=>?_) (λf=>?_)
 ·rw[if_pos f] at hF;refine Zq (Za rfl (Ze [(4,_)] (nx (j_ (y_ ?_)))));have j:=Zj hF;subst j;refine Zr Af_ [ZI (-1)] ?_;exact⟨rfl,hB.keeps⟩
 ·replace hF:=ZF f hF;refine g_ (Zn (Zm rfl (Za rfl (Ze [(4,_)] (nx (j_ ?_))))));have k:=Zj hF;subst k;refine Zr Af_ [ZI a] ?_;exact⟨rfl,hB.keeps⟩
def dP_(d:List (List Int)):(Int×Int)->Option (Lp (Int×Int) (Int×Int) Int):=λ(s:Int×Int)=>
  if decide (s.2<(d.length:Int)) then
    (ix d s.2)>>=λb=>
    (ia_ b s.1)>>=λa=>
    if decide (a<0) then
      some (.ret (-1))
    else
      (ck (s.2+1))>>=λc=>
      some (.go (a,c))
  else
    some (.out (s.1,s.2))
def fK_(fuel:Nat)(a:List (List Int))(c:Int):Option Int:=
  (ck (c-(a.length:Int)))>>=λb=>
  if decide (b<0) then
    some (-1)
  else
    (loopF (dP_ a) fuel (b,0))>>=λd=>
    match d with
    | .inl (f,g)=>
      some f
    | .inr r'=>some r'
def mo_(w:World)(r:Int):Ending->World->Prop:=λe w'=>e=.returned (.int .i64 r)∧Keeps w w'
theorem mx_(fuel:Nat)(w:World)(d:Value)(z:Yk)(B:RdL zt w d z)(A:Int)(r:Int)(hF:fK_ fuel z A=some r):
    Calls wQ_ 39 #[d,.int .i64 A] w (mo_ w r):=by
 unfold fK_ at hF;have hB:Bs (λ_=>1) (col (λ_=>1)) w w:=Bs.start _ _;refine i_ (n:=27) (vs:=[d,ZI A]) Tryz.func39 rfl rfl ?_;refine Zq (Za rfl (Ze [(0,_),(1,_)] (Zn (Zm rfl (Zm rfl (Zv (B_ rfl B wV_) ?_))))));obtain⟨u,C,hF⟩:=a_ hF;refine Zv (bs_ rfl rfl C) (Za rfl (Ze [(0,_),(1,_)] (nx (c_ (Zq (Zm rfl (Zv (r_ rfl rfl) (Ze [(0,_),(1,_),(11,_)] (nx ?_)))))))));refine l_ rfl (λD=>?_) (λD=>?_)
 ·rw[if_pos D] at hF;refine Zq (Za rfl (Ze [(4,_)] (nx (j_ (y_ ?_)))));have U:=Zj hF;subst U;refine Zr yB_ [ZI (-1)] ?_;exact⟨rfl,hB.keeps⟩
 ·replace hF:=ZF D hF;refine g_ (nx (c_ (Zq (Za rfl (Ze [(0,_),(1,_),(5,_)] (nx ?_))))));obtain⟨E,F,hF⟩:=a_ hF;refine v_ (λa j=>∃(f:Int)(g:Int),∃(i:Tg),E=.inl (f,g)∧Fr a 27 [(1,ZI f)]∧Bs (λ_=>1) i w j) (λa w'=>∃r',E=.inr r'∧bodyPost wQ_ Tryz.f39 (mo_ w r') .ret a w') ?_ ?_ ?_
  ·refine f_ ?_;refine w_ (λ(K:Nat) a j=>∃(f:Int)(g:Int),∃(i:Tg),loopF (dP_ z) K (f,g)=some E∧Fr a 27 [(0,d),(1,ZI f),(5,ZI g)]∧Bs (λ_=>1) i w j) fuel (λa ha=>⟨u,0,col (λ_=>1),F,ha.sb,hB⟩) ?_;rintro K12 a j ⟨f,g,i,V,ha,hB⟩;obtain⟨K16,W,X,b,k⟩:=X_ V;dsimp only[dP_] at b;refine J_ ha ?_;refine c_ (Zq (Zm rfl (Zm rfl (Zv (B_ rfl B wV_) (Zv (r_ rfl rfl) (Ze [(0,_),(1,_),(5,_),(15,_)] (nx ?_)))))));refine l_ rfl (λm=>?_) (λm=>?_)
   ·rw[if_pos m] at b;refine g_ (nx (c_ (f_ (Zq (Zm rfl (Zm rfl ?_))))));obtain⟨G,v,b⟩:=a_ b;refine Zo ?_;refine wf_atZ B v hB rfl rfl wV_ Tryz.sizeOf41 ?_;intro Y Z a0 H I;obtain⟨a1,rfl,J⟩:=I;refine Zv (e_ rfl Tryz.isAgg41 (k_ H)) (Zm rfl ?_);obtain⟨c,x,b⟩:=a_ b;refine Zo ?_;refine o_ (sw_ j _ G (J.keep hB.keeps) f c x) Tryz.call64 ⟨rfl,rfl,trivial⟩ ?_;rintro a2 a3 ⟨rfl,L⟩;have M:=L.stp 999 i;refine⟨_,rfl,?_⟩;replace hB:=hB.stp M;refine Za rfl (Ze [(0,_),(1,_),(5,_)] (Zn (Zm rfl (Zv (r_ rfl rfl) (Ze [(0,_),(1,_),(5,_),(25,_)] (nx ?_))))));refine l_ rfl (λq=>?_) (λq=>?_)
    ·rw[if_pos q] at b;refine Zq (Za rfl (Ze [(4,_)] (nx (j_ (W_ (y_ (y_ (W_ ?_))))))));refine bg_ ?_;have N:=Zj b;subst N;refine λa ha=>⟨_,k,?_⟩;refine D_ (P:=wQ_) (vs:=[ZI (-1)]) yB_ ⟨rfl,trivial⟩ ?_ a ha;exact⟨rfl,hB.keeps⟩
    ·replace b:=ZF q b;refine g_ (x_ (nx (d_ (Zm rfl ?_))));obtain⟨s,y,b⟩:=a_ b;refine Zv (C_ rfl rfl y) (Za rfl (Ze [(0,_),(1,_),(5,_)] (u_ ?_)));have O:=Zj b;subst O;refine Zk [(0,_),(1,_),(5,_)] ?_;intro a ha;exact⟨K16,by omega,c,s,i,k,ha,hB⟩
   ·replace b:=ZF m b;refine s_ ?_;refine n_ (n_ (N_ ?_));refine p_ ?_;have Q:=Zj b;subst Q;refine Zk [(1,_)] ?_;intro a ha;exact⟨f,g,i,k,ha,hB⟩
  ·rintro a j ⟨f,g,i,rfl,ha,hB⟩;dsimp only at hF;refine ap_k ha ?_;refine Zn (Zm rfl (Za rfl (Ze [(4,_)] (nx (j_ ?_)))));have R:=Zj hF;subst R;refine Zr yB_ [ZI f] ?_;exact⟨rfl,hB.keeps⟩
  ·rintro a j ⟨r',rfl,S⟩;dsimp only at hF;have T:=Zj hF;subst T;exact S
def fj_(fuel:Nat)(c:b_)(d:Int):Option Int:=
  (fK_ fuel c.Nodes d)>>=λa=>
  if decide (a<0) then
    some (-1)
  else
    (fK_ fuel c.Edges a)>>=λb=>
    if decide (b<0) then
      some (-1)
    else
      some b
def oo_(w:World)(r:Int):Ending->World->Prop:=λe w'=>e=.returned (.int .i64 r)∧Keeps w w'
theorem pf_(fuel:Nat)(w:World)(B:List Value)(c:b_)(F:Rp.rd zt w B c)(g:Int)(r:Int)(hF:fj_ fuel c g=some r):
    Calls wQ_ 9 #[.agg B.toArray,.int .i64 g] w (oo_ w r):=by
 unfold fj_ at hF;obtain⟨C,D,rfl,G,H⟩:=F;have hB:Bs (λ_=>1) (col (λ_=>1)) w w:=Bs.start _ _;refine i_ (n:=18) (vs:=[.agg #[ZI c.Labels,ZI c.Degree,C,D],ZI g]) Tryz.func9 rfl rfl ?_;refine Zq (Zo ?_);refine as_ (o:=(col (λ_=>1))) w.heap.size 11 hB.keeps.size (cs:=[ZI c.Labels,ZI c.Degree,C,D]) rfl rfl ?_;intro E I m k J;replace hB:=hB.stp J;refine Za rfl (Ze [(1,_),(2,_)] (Zn (Zv (m_ rfl yC_ rfl wZ_) (Zv (e_ rfl xb_ (k.cell rfl)) (Zm rfl ?_)))));obtain⟨b,i,hF⟩:=a_ hF;refine Zo ?_;refine o_ (mx_ fuel I _ c.Nodes (G.keep hB.keeps) g b i) Ag_ ⟨rfl,rfl,trivial⟩ ?_;rintro K q ⟨rfl,s⟩;have u:=s.stp 999 E;refine⟨_,rfl,?_⟩;obtain⟨k,hB⟩:=ZS u (A2 k hB);refine Za rfl (Ze [(1,_),(2,_)] (nx (c_ (Zq (Zm rfl (Zv (r_ rfl rfl) (Ze [(1,_),(2,_),(10,_)] (nx ?_))))))));refine l_ rfl (λd=>?_) (λd=>?_)
 ·rw[if_pos d] at hF;refine Zq (Za rfl (Ze [(4,_)] (nx (j_ (y_ ?_)))));have v:=Zj hF;subst v;refine Zr yD_ [ZI (-1)] ?_;exact⟨rfl,hB.keeps⟩
 ·replace hF:=ZF d hF;refine g_ (Zn (Zv (m_ rfl yC_ rfl wZ_) (Zv (e_ rfl xb_ (k.cell rfl)) (Zm rfl ?_))));obtain⟨a,j,hF⟩:=a_ hF;refine Zo ?_;refine o_ (mx_ fuel q _ c.Edges (H.keep hB.keeps) b a j) Ag_ ⟨rfl,rfl,trivial⟩ ?_;rintro L M ⟨rfl,x⟩;have y:=x.stp 999 E;refine⟨_,rfl,?_⟩;replace hB:=hB.stp y;refine Za rfl (Ze [(1,_)] (nx (c_ (Zq (Zm rfl (Zv (r_ rfl rfl) (Ze [(1,_),(16,_)] (nx ?_))))))));refine l_ rfl (λf=>?_) (λf=>?_)
  ·rw[if_pos f] at hF;refine Zq (Za rfl (Ze [(4,_)] (nx (j_ (y_ ?_)))));have z:=Zj hF;subst z;refine Zr yD_ [ZI (-1)] ?_;exact⟨rfl,hB.keeps⟩
  ·replace hF:=ZF f hF;refine g_ (Zn (Zm rfl (Za rfl (Ze [(4,_)] (nx (j_ ?_))))));have A:=Zj hF;subst A;refine Zr yD_ [ZI a] ?_;exact⟨rfl,hB.keeps⟩
def cl_(fuel:Nat)(d:List b_):(Int×Int)->Option (Lp (Int×Int) (Int×Int) Int):=λ(s:Int×Int)=>
  if decide (s.2<(d.length:Int)) then
    (ix d s.2)>>=λb=>
    (fj_ fuel b s.1)>>=λa=>
    if decide (a<0) then
      some (.ret (-1))
    else
      (ck (s.2+1))>>=λc=>
      some (.go (a,c))
  else
    some (.out (s.1,s.2))
def fE_(fuel:Nat)(a:List b_)(c:Int):Option Int:=
  (ck (c-(a.length:Int)))>>=λb=>
  if decide (b<0) then
    some (-1)
  else
    (loopF (cl_ fuel a) fuel (b,0))>>=λd=>
    match d with
    | .inl (f,g)=>
      some f
    | .inr r'=>some r'
def jw_(w:World)(r:Int):Ending->World->Prop:=λe w'=>e=.returned (.int .i64 r)∧Keeps w w'
theorem nl_(fuel:Nat)(w:World)(d:Value)(z:List b_)(B:RdL zt w d z)(A:Int)(r:Int)(hF:fE_ fuel z A=some r):
    Calls wQ_ 30 #[d,.int .i64 A] w (jw_ w r):=by
 unfold fE_ at hF;have hB:Bs (λ_=>1) (col (λ_=>1)) w w:=Bs.start _ _;refine i_ (n:=27) (vs:=[d,ZI A]) Tryz.func30 rfl rfl ?_;refine Zq (Za rfl (Ze [(0,_),(1,_)] (Zn (Zm rfl (Zm rfl (Zv (B_ rfl B xs_) ?_))))));obtain⟨u,C,hF⟩:=a_ hF;refine Zv (bs_ rfl rfl C) (Za rfl (Ze [(0,_),(1,_)] (nx (c_ (Zq (Zm rfl (Zv (r_ rfl rfl) (Ze [(0,_),(1,_),(11,_)] (nx ?_)))))))));refine l_ rfl (λD=>?_) (λD=>?_)
 ·rw[if_pos D] at hF;refine Zq (Za rfl (Ze [(4,_)] (nx (j_ (y_ ?_)))));have V:=Zj hF;subst V;refine Zr yE_ [ZI (-1)] ?_;exact⟨rfl,hB.keeps⟩
 ·replace hF:=ZF D hF;refine g_ (nx (c_ (Zq (Za rfl (Ze [(0,_),(1,_),(5,_)] (nx ?_))))));obtain⟨E,F,hF⟩:=a_ hF;refine v_ (λa j=>∃(f:Int)(g:Int),∃(i:Tg),E=.inl (f,g)∧Fr a 27 [(1,ZI f)]∧Bs (λ_=>1) i w j) (λa w'=>∃r',E=.inr r'∧bodyPost wQ_ Tryz.f30 (jw_ w r') .ret a w') ?_ ?_ ?_
  ·refine f_ ?_;refine w_ (λ(K:Nat) a j=>∃(f:Int)(g:Int),∃(i:Tg),loopF (cl_ fuel z) K (f,g)=some E∧Fr a 27 [(0,d),(1,ZI f),(5,ZI g)]∧Bs (λ_=>1) i w j) fuel (λa ha=>⟨u,0,col (λ_=>1),F,ha.sb,hB⟩) ?_;rintro K12 a j ⟨f,g,i,W,ha,hB⟩;obtain⟨K16,X,Y,b,k⟩:=X_ W;dsimp only[cl_] at b;refine J_ ha ?_;refine c_ (Zq (Zm rfl (Zm rfl (Zv (B_ rfl B xs_) (Zv (r_ rfl rfl) (Ze [(0,_),(1,_),(5,_),(15,_)] (nx ?_)))))));refine l_ rfl (λm=>?_) (λm=>?_)
   ·rw[if_pos m] at b;refine g_ (nx (c_ (f_ (Zq (Zm rfl (Zm rfl ?_))))));obtain⟨G,v,b⟩:=a_ b;refine Zo ?_;refine wf_atZ B v hB rfl rfl xs_ xT_ ?_;intro Z a0 a1 H I;obtain⟨a2,a3,rfl,J,L⟩:=I;refine Zv (E_ rfl Tryz.isAgg24 xT_ rfl H) (Zm rfl ?_);obtain⟨c,x,b⟩:=a_ b;refine Zo ?_;refine o_ (pf_ fuel j _ G (⟨_,_,rfl,J.keep hB.keeps,L.keep hB.keeps⟩) f c x) Tryz.call9 ⟨rfl,rfl,trivial⟩ ?_;rintro a4 a5 ⟨rfl,M⟩;have N:=M.stp 999 i;refine⟨_,rfl,?_⟩;replace hB:=hB.stp N;refine Za rfl (Ze [(0,_),(1,_),(5,_)] (Zn (Zm rfl (Zv (r_ rfl rfl) (Ze [(0,_),(1,_),(5,_),(25,_)] (nx ?_))))));refine l_ rfl (λq=>?_) (λq=>?_)
    ·rw[if_pos q] at b;refine Zq (Za rfl (Ze [(4,_)] (nx (j_ (W_ (y_ (y_ (W_ ?_))))))));refine bg_ ?_;have O:=Zj b;subst O;refine λa ha=>⟨_,k,?_⟩;refine D_ (P:=wQ_) (vs:=[ZI (-1)]) yE_ ⟨rfl,trivial⟩ ?_ a ha;exact⟨rfl,hB.keeps⟩
    ·replace b:=ZF q b;refine g_ (x_ (nx (d_ (Zm rfl ?_))));obtain⟨s,y,b⟩:=a_ b;refine Zv (C_ rfl rfl y) (Za rfl (Ze [(0,_),(1,_),(5,_)] (u_ ?_)));have Q:=Zj b;subst Q;refine Zk [(0,_),(1,_),(5,_)] ?_;intro a ha;exact⟨K16,by omega,c,s,i,k,ha,hB⟩
   ·replace b:=ZF m b;refine s_ ?_;refine n_ (n_ (N_ ?_));refine p_ ?_;have R:=Zj b;subst R;refine Zk [(1,_)] ?_;intro a ha;exact⟨f,g,i,k,ha,hB⟩
  ·rintro a j ⟨f,g,i,rfl,ha,hB⟩;dsimp only at hF;refine ap_k ha ?_;refine Zn (Zm rfl (Za rfl (Ze [(4,_)] (nx (j_ ?_)))));have S:=Zj hF;subst S;refine Zr yE_ [ZI f] ?_;exact⟨rfl,hB.keeps⟩
  ·rintro a j ⟨r',rfl,T⟩;dsimp only at hF;have U:=Zj hF;subst U;exact T
def ig_(fuel:Nat)(a:ak_)(b:ak_):Option Bool:=
  (eK_ fuel a.Problems b.Problems)>>=λc=>
  if !c then
    some false
  else
    (ee_ fuel a.Maps b.Maps)>>=λd=>
    if !d then
      some false
    else
      (ee_ fuel a.Refusal b.Refusal)>>=λf=>
      if !f then
        some false
      else
        some true
def sg_(w:World)(r:Bool):Ending->World->Prop:=λe w'=>e=.returned (.bool r)∧Keeps w w'
theorem rM_(fuel:Nat)(w:World)(S:List Value)(k:ak_)(Z:Rp.rd zt w S k)(T:List Value)(m:ak_)(a0:Rp.rd zt w T m)(r:Bool)(hF:ig_ fuel k m=some r):
    Calls wQ_ 34 #[.agg S.toArray,.agg T.toArray] w (sg_ w r):=by
 unfold ig_ at hF;obtain⟨U,V,W,rfl,a1,a2,a3⟩:=Z;obtain⟨X,Y,q,rfl,a4,A,B⟩:=a0;have hB:Bs (λ_=>1) (col (λ_=>1)) w w:=Bs.start _ _;refine i_ (n:=23) (vs:=[.agg #[U,V,W],.agg #[X,Y,q]]) Tryz.func34 rfl rfl ?_;refine Zq (Zo ?_);refine as_ (o:=(col (λ_=>1))) w.heap.size 11 hB.keeps.size (cs:=[U,V,W]) rfl rfl ?_;intro C a5 c a D;replace hB:=hB.stp D;refine Zo ?_;refine as_ (o:=C) w.heap.size 12 hB.keeps.size (cs:=[X,Y,q]) rfl rfl ?_;intro d E f b F;obtain⟨a,hB⟩:=ZS F (A2 a hB);refine Za rfl (Ze [(2,_),(3,_)] (nx (c_ (Zq (Zv (m_ rfl xg_ rfl xn_) (Zv (e_ rfl xq_ (a.cell rfl)) (Zv (m_ rfl xg_ rfl xn_) (Zv (e_ rfl xq_ (b.cell rfl)) ?_))))))));obtain⟨s,u,hF⟩:=a_ hF;refine Zo ?_;refine o_ (jc_ fuel E _ k.Problems (a1.keep hB.keeps) _ m.Problems (a4.keep hB.keeps) s u) Tryz.call16 ⟨rfl,rfl,trivial⟩ ?_;rintro a6 G ⟨rfl,H⟩;have I:=H.stp 999 d;refine⟨_,rfl,?_⟩;obtain⟨a,b,hB⟩:=ZS I (A3 a b hB);refine Zv (aI_ rfl) (Ze [(2,_),(3,_),(10,_)] (nx ?_));refine l_ rfl (λg=>?_) (λg=>?_)
 ·rw[if_pos g] at hF;refine Zq (Za rfl (Ze [(4,_)] (nx (j_ (y_ ?_)))));have J:=Zj hF;subst J;refine Zr xW_ [.bool false] ?_;exact⟨rfl,hB.keeps⟩
 ·replace hF:=ZF g hF;refine g_ (nx (c_ (Zq (Zv (m_ rfl xg_ rfl wZ_) (Zv (e_ rfl xb_ (a.cell rfl)) (Zv (m_ rfl xg_ rfl wZ_) (Zv (e_ rfl xb_ (b.cell rfl)) ?_)))))));obtain⟨v,x,hF⟩:=a_ hF;refine Zo ?_;refine o_ (is_ fuel G _ k.Maps (a2.keep hB.keeps) _ m.Maps (A.keep hB.keeps) v x) xU_ ⟨rfl,rfl,trivial⟩ ?_;rintro a7 K ⟨rfl,L⟩;have M:=L.stp 999 d;refine⟨_,rfl,?_⟩;obtain⟨a,b,hB⟩:=ZS M (A3 a b hB);refine Zv (aI_ rfl) (Ze [(2,_),(3,_),(16,_)] (nx ?_));refine l_ rfl (λi=>?_) (λi=>?_)
  ·rw[if_pos i] at hF;refine Zq (Za rfl (Ze [(4,_)] (nx (j_ (y_ ?_)))));have N:=Zj hF;subst N;refine Zr xW_ [.bool false] ?_;exact⟨rfl,hB.keeps⟩
  ·replace hF:=ZF i hF;refine g_ (nx (c_ (Zq (Zv (m_ rfl xg_ rfl wZ_) (Zv (e_ rfl xb_ (a.cell rfl)) (Zv (m_ rfl xg_ rfl wZ_) (Zv (e_ rfl xb_ (b.cell rfl)) ?_)))))));obtain⟨y,z,hF⟩:=a_ hF;refine Zo ?_;refine o_ (is_ fuel K _ k.Refusal (a3.keep hB.keeps) _ m.Refusal (B.keep hB.keeps) y z) xU_ ⟨rfl,rfl,trivial⟩ ?_;rintro a8 a9 ⟨rfl,O⟩;have P:=O.stp 999 d;refine⟨_,rfl,?_⟩;replace hB:=hB.stp P;refine Zv (aI_ rfl) (Ze [(22,_)] (nx ?_));refine l_ rfl (λj=>?_) (λj=>?_)
   ·rw[if_pos j] at hF;refine Zq (Za rfl (Ze [(4,_)] (nx (j_ (y_ ?_)))));have Q:=Zj hF;subst Q;refine Zr xW_ [.bool false] ?_;exact⟨rfl,hB.keeps⟩
   ·replace hF:=ZF j hF;refine g_ (Zn (Za rfl (Ze [(4,_)] (nx (j_ ?_)))));have R:=Zj hF;subst R;refine Zr xW_ [.bool true] ?_;exact⟨rfl,hB.keeps⟩
def gm_(fuel:Nat)(d:ak_)(f:Int):Option Int:=
  (dG_ fuel d.Problems f)>>=λa=>
  if decide (a<0) then
    some (-1)
  else
    (da_ fuel d.Maps a)>>=λb=>
    if decide (b<0) then
      some (-1)
    else
      (da_ fuel d.Refusal b)>>=λc=>
      if decide (c<0) then
        some (-1)
      else
        some c
def oX_(w:World)(r:Int):Ending->World->Prop:=λe w'=>e=.returned (.int .i64 r)∧Keeps w w'
theorem oP_(fuel:Nat)(w:World)(K:List Value)(j:ak_)(O:Rp.rd zt w K j)(k:Int)(r:Int)(hF:gm_ fuel j k=some r):
    Calls wQ_ 36 #[.agg K.toArray,.int .i64 k] w (oX_ w r):=by
 unfold gm_ at hF;obtain⟨L,M,N,rfl,P,Q,R⟩:=O;have hB:Bs (λ_=>1) (col (λ_=>1)) w w:=Bs.start _ _;refine i_ (n:=24) (vs:=[.agg #[L,M,N],ZI k]) Tryz.func36 rfl rfl ?_;refine Zq (Zo ?_);refine as_ (o:=(col (λ_=>1))) w.heap.size 11 hB.keeps.size (cs:=[L,M,N]) rfl rfl ?_;intro v S m a x;replace hB:=hB.stp x;refine Za rfl (Ze [(1,_),(2,_)] (Zn (Zv (m_ rfl xg_ rfl xn_) (Zv (e_ rfl xq_ (a.cell rfl)) (Zm rfl ?_)))));obtain⟨c,q,hF⟩:=a_ hF;refine Zo ?_;refine o_ (lc_ fuel S _ j.Problems (P.keep hB.keeps) k c q) Tryz.call19 ⟨rfl,rfl,trivial⟩ ?_;rintro T y ⟨rfl,z⟩;have A:=z.stp 999 v;refine⟨_,rfl,?_⟩;obtain⟨a,hB⟩:=ZS A (A2 a hB);refine Za rfl (Ze [(1,_),(2,_)] (nx (c_ (Zq (Zm rfl (Zv (r_ rfl rfl) (Ze [(1,_),(2,_),(10,_)] (nx ?_))))))));refine l_ rfl (λf=>?_) (λf=>?_)
 ·rw[if_pos f] at hF;refine Zq (Za rfl (Ze [(4,_)] (nx (j_ (y_ ?_)))));have B:=Zj hF;subst B;refine Zr xX_ [ZI (-1)] ?_;exact⟨rfl,hB.keeps⟩
 ·replace hF:=ZF f hF;refine g_ (Zn (Zv (m_ rfl xg_ rfl wZ_) (Zv (e_ rfl xb_ (a.cell rfl)) (Zm rfl ?_))));obtain⟨d,s,hF⟩:=a_ hF;refine Zo ?_;refine o_ (gl_ fuel y _ j.Maps (Q.keep hB.keeps) c d s) xV_ ⟨rfl,rfl,trivial⟩ ?_;rintro U C ⟨rfl,D⟩;have E:=D.stp 999 v;refine⟨_,rfl,?_⟩;obtain⟨a,hB⟩:=ZS E (A2 a hB);refine Za rfl (Ze [(1,_),(2,_)] (nx (c_ (Zq (Zm rfl (Zv (r_ rfl rfl) (Ze [(1,_),(2,_),(16,_)] (nx ?_))))))));refine l_ rfl (λg=>?_) (λg=>?_)
  ·rw[if_pos g] at hF;refine Zq (Za rfl (Ze [(4,_)] (nx (j_ (y_ ?_)))));have F:=Zj hF;subst F;refine Zr xX_ [ZI (-1)] ?_;exact⟨rfl,hB.keeps⟩
  ·replace hF:=ZF g hF;refine g_ (Zn (Zv (m_ rfl xg_ rfl wZ_) (Zv (e_ rfl xb_ (a.cell rfl)) (Zm rfl ?_))));obtain⟨b,u,hF⟩:=a_ hF;refine Zo ?_;refine o_ (gl_ fuel C _ j.Refusal (R.keep hB.keeps) d b u) xV_ ⟨rfl,rfl,trivial⟩ ?_;rintro V W ⟨rfl,G⟩;have H:=G.stp 999 v;refine⟨_,rfl,?_⟩;replace hB:=hB.stp H;refine Za rfl (Ze [(1,_)] (nx (c_ (Zq (Zm rfl (Zv (r_ rfl rfl) (Ze [(1,_),(22,_)] (nx ?_))))))));refine l_ rfl (λi=>?_) (λi=>?_)
   ·rw[if_pos i] at hF;refine Zq (Za rfl (Ze [(4,_)] (nx (j_ (y_ ?_)))));have I:=Zj hF;subst I;refine Zr xX_ [ZI (-1)] ?_;exact⟨rfl,hB.keeps⟩
   ·replace hF:=ZF i hF;refine g_ (Zn (Zm rfl (Za rfl (Ze [(4,_)] (nx (j_ ?_))))));have J:=Zj hF;subst J;refine Zr xX_ [ZI b] ?_;exact⟨rfl,hB.keeps⟩
end
section
open Go.RowKit
theorem jm_{σ τ ρ:Type}{f:σ->Option (Lp σ τ ρ)}(R:Nat->σ)(n:Nat)(t:τ)(g:∀j,j<n->f (R j)=some (.go (R (j+1))))(b:f (R n)=some (.out t))(a:Nat)(e:n<a):loopF f a (R 0)=some (.inl t):=by
 suffices h:∀(d j a:Nat),j+d=n->d<a->loopF f a (R j)=some (.inl t) by exact h n 0 a (by omega) e
 intro d
 induction d with
 |zero=>
  intro j a i e;obtain⟨m,rfl⟩:∃m,a=m+1:=⟨a-1,by omega⟩;have:j=n:=by omega
  subst this;simp only[loopF,b]
 |succ d ih=>
  intro j a i e;obtain⟨m,rfl⟩:∃m,a=m+1:=⟨a-1,by omega⟩;simp only[loopF,g j (by omega)];exact ih (j+1) m (by omega) (by omega)
theorem upE{α:Type}(f:Int->Option (Lp Int Int Bool))(xs:List α)(d:∀(j:Nat)(h:j<xs.length),f (j:Int)=some (.go ((j+1:Nat):Int)))(b:f (xs.length:Int)=some (.out (xs.length:Int)))(a:Nat)(e:xs.length<a):
  loopF f a 0=some (.inl (xs.length:Int)):=jm_ (f:=f) (λj=>(j:Int)) xs.length _ d b a e
theorem uG_(a:Nat)(l:List Int)(b:l.length<a)(h:l.length<=1000000000000000000):hU_ a l l=some true:=by
 unfold hU_;rw[if_neg (by simp),upE (es_ l l) l (λj d=>by
  unfold es_;rw[if_pos (by simp;omega),aY_,List.getElem?_eq_getElem d,sb,sb,if_neg (by simp),F_ (by omega) (by omega),sb];simp)
  (by unfold es_;rw[if_neg (by simp)]) a b,sb]
theorem wa_{LL:List (List Int)}{x:List Int}(h:x∈LL):x.length<=tot LL:=by
 obtain⟨i,hi,rfl⟩:=List.getElem_of_mem h;have:=sM_ LL i hi;rw[List.getD_eq_getElem?_getD,List.getElem?_eq_getElem hi] at this;exact this
theorem iZ_(a:Nat)(LL:List (List Int))(e:tot LL<a)(h:tot LL<=1000000000000000000):ee_ a LL LL=some true:=by
 have d:LL.length<=tot LL:=by unfold tot;omega
 unfold ee_;rw[if_neg (by simp),upE (dL_ a LL LL) LL (λj b=>by
  have:=wa_ (List.getElem_mem b);unfold dL_;rw[if_pos (by simp;omega),aY_,List.getElem?_eq_getElem b,sb,sb,uG_ a _ (by omega) (by omega),sb,if_neg (by simp),F_ (by omega) (by omega),sb];simp)
  (by unfold dL_;rw[if_neg (by simp)]) a (by omega),sb]
theorem pC_(a:Nat)(p:b_)(b:szT p<a)(h:szT p<=1000000000000000000):ft_ a p p=some true:=by
 unfold ft_;unfold szT at h b;rw[if_neg (by simp),if_neg (by simp),iZ_ a _ (by omega) (by omega),sb,if_neg (by simp),iZ_ a _ (by omega) (by omega),sb,if_neg (by simp)]
theorem jU_(a:Nat)(ps:List b_)(e:szQ ps<a)(h:szQ ps<=1000000000000000000):eK_ a ps ps=some true:=by
 have d:ps.length<=szQ ps:=by unfold szQ;omega
 unfold eK_;rw[if_neg (by simp),upE (cn_ a ps ps) ps (λj b=>by
  have:=wf_ (List.getElem_mem b);unfold cn_;rw[if_pos (by simp;omega),aY_,List.getElem?_eq_getElem b,sb,sb,pC_ a _ (by omega) (by omega),sb,if_neg (by simp),F_ (by omega) (by omega),sb];simp)
  (by unfold cn_;rw[if_neg (by simp)]) a (by omega),sb]
theorem sc_(a:Nat)(n:Nat)(k:Int)(b:n<a)(e:0<=k)(h:k+n<=4611686018427387904):fR_ a (iota k n) k=some (k+n):=by
 have:=jm_ (f:=dq_ (iota k n)) (λj=>(k+(j:Int),(j:Int))) n (k+(n:Int),(n:Int)) (λj d=>by
  unfold dq_;simp only
  rw[if_pos (by simp[hf_];omega),aY_,show(iota k n)[j]? =some (k+(j:Int)) by simp[iota,d],sb,if_neg (by simp),F_ (by omega) (by omega),sb,F_ (by omega) (by omega),sb];congr 3;omega) (by
  unfold dq_;simp only
  rw[if_neg (by simp[hf_])]) a b
 simp only[Int.add_zero,show((0:Nat):Int)=0 from rfl] at this;unfold fR_;rw[this,sb]
theorem hb_(a:Nat)(LL:List (List Int))(k:Int)(m:tot LL<a)(n:0<=k)(h:k+tot LL<=4611686018427387904):da_ a (numbered k LL LL.length) k=some (k+(off LL LL.length:Nat)):=by
 have g:LL.length<=tot LL:=by unfold tot;omega
 have:=jm_ (f:=cX_ a (numbered k LL LL.length)) (λj=>(k+((off LL j:Nat):Int),(j:Int))) LL.length (k+((off LL LL.length:Nat):Int),(LL.length:Int)) (λj b=>by
  have i:=mk_ LL j (by omega);have p:=mk_ LL (j+1) (by omega);have o:=iu_ LL j b;have e:=sM_ LL j b;have d:(numbered k LL LL.length)[j]? =some (iota (k+(off LL j:Nat)) (LL.getD j []).length):=by simp[numbered,b]
  unfold cX_;simp only
  rw[if_pos (by simp[eG_];omega),aY_,d,sb,sc_ a _ _ (by omega) (by omega) (by omega),sb,if_neg (by simp;omega),F_ (by omega) (by omega),sb];congr 3;omega) (by
  unfold cX_;simp only
  rw[if_neg (by simp[eG_])]) a (by omega)
 simp only[show off LL 0=0 by simp[off],Int.add_zero,show((0:Nat):Int)=0 from rfl] at this;unfold da_;rw[this,sb]
theorem lW_(a:Nat)(ps:List b_)(k:Int)(q:szQ ps<a)(s:0<=k)(h:k+szQ ps<=4611686018427387904):dG_ a (numU k ps ps.length) k=some (k+(offQ ps ps.length:Nat)):=by
 have o:ps.length<=szQ ps:=by unfold szQ;omega
 have:=jm_ (f:=bN_ a (numU k ps ps.length)) (λj=>(k+((offQ ps j:Nat):Int),(j:Int))) ps.length (k+((offQ ps ps.length:Nat):Int),(ps.length:Int)) (λj e=>by
  have b:ps[j]? =some ps[j]:=List.getElem?_eq_getElem e;have p:=tR_ ps j _ b;have t:=nN_ ps j _ b;have u:cQ ps[j]<=szT ps[j]:=wd_ _;have d:=kB_ k ps ps.length j _ b;rw[if_pos e] at d;have n:cQ ps[j]=2+(off (ps[j]).Nodes (ps[j]).Nodes.length+off (ps[j]).Edges (ps[j]).Edges.length):=rfl;have i:szT ps[j]=2+(tot (ps[j]).Nodes+tot (ps[j]).Edges):=rfl;have m:=mk_ (ps[j]).Nodes _ (Nat.le_refl _);have g:=mk_ (ps[j]).Edges _ (Nat.le_refl _);unfold bN_;simp only
  rw[if_pos (by simp[ga_];omega),aY_,d,sb,if_neg (by simp[nP]),F_ (by omega) (by omega),sb,sb,if_neg (by simp[nP]),F_ (by omega) (by omega),sb,sb];unfold nP;simp only
  rw[hb_ a _ _ (by omega) (by omega) (by omega),sb,if_neg (by simp;omega),sb,hb_ a _ _ (by omega) (by omega) (by omega),sb,if_neg (by simp;omega),F_ (by omega) (by omega),sb];congr 3;omega) (by
  unfold bN_;simp only
  rw[if_neg (by simp[ga_])]) a (by omega)
 simp only[show offQ ps 0=0 by simp[offQ],Int.add_zero,show((0:Nat):Int)=0 from rfl] at this;unfold dG_;rw[this,sb]
theorem kC_(b a:Value)(ps:List b_)(w:World)(f:RdL zt w b ps)(d:RdL zt w a ps)(g:szQ ps<=10000000000000):
  Calls wQ_ 16 #[b,a] w λe w'=>e=.returned (.bool true)∧Keeps w w':=
 jc_ 100000000000000 w b ps f a ps d _ (jU_ _ ps (by omega) (by omega))
end
section
open Go.RowKit
theorem oD_{σ τ ρ:Type}{f:σ->Option (Lp σ τ ρ)}(R:Nat->Option σ)(r:ρ)(g:σ->τ)(n:Nat)(q:∀j,R j=none->R (j+1)=none)
  (o:∀j s,j<n->R j=some s->f s=some (match R (j+1) with|some e=> .go e|none=> .ret r)) (h:∀s,R n=some s->f s=some (.out (g s))):
  ∀(d j a:Nat) s,j+d=n->R j=some s->d<a->loopF f a s=some (match R n with|some e=> .inl (g e)|none=> .inr r):=by
 intro d
 induction d with
 |zero=>
  intro j a s u i t;obtain⟨m,rfl⟩:∃m,a=m+1:=⟨a-1,by omega⟩;have:j=n:=by omega
  subst this;simp only[loopF,h s i,i]
 | succ d ih=>
  intro j a s u i t;obtain⟨m,rfl⟩:∃m,a=m+1:=⟨a-1,by omega⟩;simp only[loopF,o j s (by omega) i];cases p:R (j+1) with
  | none=>
   have b:∀m,R (j+1+m)=none:=λm=>by
    induction m with
    |zero=>exact p
    |succ m k=>exact q _ k
   have:=b (n-(j+1));rw[show j+1+(n-(j+1))=n by omega] at this;rw[this]
  |some e=>exact ih (j+1) m e (by omega) p (by omega)
def szPr(p:b_):Nat:=tot p.Nodes+tot p.Edges
def szA(ps:List b_):Nat:=ps.length+(ps.map szPr).sum
theorem st_{ps:List b_}{p:b_}(h:p∈ps):szPr p<=(ps.map szPr).sum:=by
 induction ps with
 |nil=>cases h
 |cons q ps ih=>
  simp only[List.map_cons,List.sum_cons];rcases List.mem_cons.1 h with h|h
  ·subst h;omega
  ·have:=ih h;omega
theorem pS_(ps:List b_):szQ ps<=3*szA ps:=by
 unfold szQ szA
 induction ps with
 |nil=>simp
 |cons q ps ih=>
  simp only[List.map_cons,List.sum_cons,List.length_cons];have:szT q=2+szPr q:=rfl;omega
def lenOk(ps:List b_):Prop:=∀p∈ps,(p.Nodes.length<=9223372036854775807∧∀r∈p.Nodes,r.length<=9223372036854775807)∧p.Edges.length<=9223372036854775807∧∀r∈p.Edges,r.length<=9223372036854775807
theorem RdL.rowsLen{w:World}{v:Value}{LL:List (List Int)}(h:RdL zt w v LL):LL.length<=9223372036854775807∧∀r∈LL,r.length<=9223372036854775807:=by
 refine⟨h.len_le,λr d=>?_⟩;obtain⟨i,hi⟩:=List.mem_iff_getElem?.1 d;obtain⟨a,c,-,-,-,f⟩:=h;obtain⟨b,off,cs,-,-,-,-,u,-,e⟩:=f i r hi;exact e.len_le
theorem RdL.lenOk{w:World}{v:Value}{ps:List b_}(h:RdL zt w v ps):lenOk ps:=λp e=>by
 obtain⟨i,hi⟩:=List.mem_iff_getElem?.1 e;obtain⟨a,c,-,-,-,g⟩:=h;obtain⟨b,off,cs,-,-,-,-,j,k,-,d,f⟩:=g i p hi;exact⟨d.rowsLen,f.rowsLen⟩
theorem uJ_(l:List Int)(left:Int)(a:l.length<=9223372036854775807)(b:0<=left)(d:left<=1048576):ia_ l left=some (szL left l.length):=by
 unfold ia_ szL;rw[F_ (by omega) (by omega),sb];by_cases h:(l.length:Int)<=left
 ·rw[if_neg (by simp;omega),if_pos h]
 ·rw[if_pos (by simp;omega),if_neg h]
theorem pm_(a:Nat)(A:2000000<a)(LL:List (List Int))(left:Int)(q:LL.length<=9223372036854775807)(o:∀r∈LL,r.length<=9223372036854775807)(t:0<=left)(u:left<=1048576):fK_ a LL left=some (szL left (tot LL)):=by
 unfold fK_;rw[F_ (by omega) (by omega),sb];by_cases h:(LL.length:Int)<=left
 ·rw[if_neg (by simp;omega)]
  have i:=oD_ (f:=dP_ LL) (λj=>if(off LL j:Int)<=left-LL.length then some (left-LL.length-off LL j,(j:Int)) else none) (-1) (λs=>s) LL.length
   (λj e=>by
    split at e
    ·cases e
    ·rename_i p;by_cases g:j<LL.length
     ·have:=iu_ LL j g;rw[if_neg (by omega)]
     ·have:off LL (j+1)=off LL j:=by unfold off;rw[List.take_of_length_le (by omega),List.take_of_length_le (by omega)]
      rw[if_neg (by omega)])
   (λj s e b=>by
    split at b
    ·rename_i p;cases b
     have y:=iu_ LL j e;have k:LL[j]? =some (LL.getD j []):=by rw[List.getD_eq_getElem?_getD,List.getElem?_eq_getElem e];rfl
     have n:=o _ (List.mem_of_getElem? k);unfold dP_;simp only
     rw[if_pos (by simp;omega),aY_,k,sb,uJ_ _ _ n (by omega) (by omega),sb];unfold szL;by_cases d:((LL.getD j []).length:Int)<=left-LL.length-off LL j
     ·have m:left-LL.length-off LL j-(LL.getD j []).length=left-LL.length-off LL (j+1):=by omega
      rw[if_pos d,if_neg (by rw[decide_eq_true_eq];omega),F_ (by omega) (by omega),sb,if_pos (by omega),m];rfl
     ·rw[if_neg d,if_pos (by simp),if_neg (by omega)]
    ·cases b)
   (λs b=>by
    split at b
    ·cases b
     unfold dP_;rw[if_neg (by simp)]
    ·cases b) LL.length 0 a (left-LL.length,0) (by omega) (by simp[off];omega) (by omega)
  rw[i,sb];unfold szL tot;by_cases d:(off LL LL.length:Int)<=left-LL.length
  ·rw[if_pos d,if_pos (by omega)];simp only
   congr 1;omega
  ·rw[if_neg d,if_neg (by omega)]
 ·rw[if_pos (by simp;omega)];unfold szL tot;rw[if_neg (by omega)]
theorem pQ_(a:Nat)(b:2000000<a)(p:b_)(left:Int)(g:lenOk [p])(i:0<=left)(k:left<=1048576):fj_ a p left=some (szL left (szPr p)):=by
 obtain⟨⟨e,j⟩,m,f⟩:=g p (by simp);unfold fj_;rw[pm_ a b _ left e j i k,sb];unfold szL szPr;by_cases h:(tot p.Nodes:Int)<=left
 ·rw[if_pos h,if_neg (by simp;omega),pm_ a b _ _ m f (by omega) (by omega),sb];unfold szL;by_cases d:(tot p.Edges:Int)<=left-tot p.Nodes
  ·rw[if_pos d,if_neg (by simp;omega),if_pos (by omega)];congr 1;omega
  ·rw[if_neg d,if_pos (by simp),if_neg (by omega)]
 ·rw[if_neg h,if_pos (by simp),if_neg (by omega)]
def sumA(ps:List b_)(j:Nat):Nat:=((ps.take j).map szPr).sum
theorem oK_(ps:List b_)(j:Nat)(p:b_)(h:ps[j]? =some p):sumA ps (j+1)=sumA ps j+szPr p:=by
 unfold sumA;rw[List.take_add_one,h];simp
theorem pu_(a:Nat)(t:2000000<a)(ps:List b_)(left:Int)(A:ps.length<=9223372036854775807)(u:lenOk ps)(D:0<=left)(E:left<=1048576):fE_ a ps left=some (szL left (szA ps)):=by
 unfold fE_;rw[F_ (by omega) (by omega),sb];have b:sumA ps ps.length=(ps.map szPr).sum:=by unfold sumA;rw[List.take_length]
 by_cases h:(ps.length:Int)<=left
 ·rw[if_neg (by simp;omega)]
  have i:=oD_ (f:=cl_ a ps) (λj=>if(sumA ps j:Int)<=left-ps.length then some (left-ps.length-sumA ps j,(j:Int)) else none) (-1) (λs=>s) ps.length
   (λj g=>by
    split at g
    ·cases g
    ·rename_i y;cases e:ps[j]? with
     |some p=>
      have:=oK_ ps j p e;rw[if_neg (by omega)]
     |none=>
      have k:=List.getElem?_eq_none_iff.1 e;have:sumA ps (j+1)=sumA ps j:=by unfold sumA;rw[List.take_of_length_le (by omega),List.take_of_length_le (by omega)]
      rw[if_neg (by omega)])
   (λj s g b=>by
    split at b
    ·rename_i y;cases b
     have e:ps[j]? =some ps[j]:=List.getElem?_eq_getElem g;have F:=oK_ ps j _ e;have n:lenOk [ps[j]]:=λq o=>by rw[List.mem_singleton.1 o];exact u _ (List.getElem_mem g)
     unfold cl_;simp only
     rw[if_pos (by simp;omega),aY_,e,sb,pQ_ a t _ _ n (by omega) (by omega),sb];unfold szL;by_cases d:(szPr ps[j]:Int)<=left-ps.length-sumA ps j
     ·have m:left-ps.length-sumA ps j-(szPr ps[j]:Nat)=left-ps.length-sumA ps (j+1):=by omega
      rw[if_pos d,if_neg (by rw[decide_eq_true_eq];omega),F_ (by omega) (by omega),sb,if_pos (by omega),m];rfl
     ·rw[if_neg d,if_pos (by simp),if_neg (by omega)]
    ·cases b)
   (λs b=>by
    split at b
    ·cases b
     unfold cl_;rw[if_neg (by simp)]
    ·cases b) ps.length 0 a (left-ps.length,0) (by omega) (by simp[sumA];omega) (by omega)
  rw[i,sb,b];unfold szL szA;by_cases d:((ps.map szPr).sum:Int)<=left-ps.length
  ·rw[if_pos d,if_pos (by omega)];simp only
   congr 1;omega
  ·rw[if_neg d,if_neg (by omega)]
 ·rw[if_pos (by simp;omega)];unfold szL szA;rw[if_neg (by omega)]
theorem iw_(v:Value)(ps:List b_)(left:Int)(w:World)(h:RdL zt w v ps)(a:0<=left)(b:left<=1048576):
  Calls wQ_ 30 #[v,.int .i64 left] w λe w'=>e=.returned (.int .i64 (szL left (szA ps)))∧Keeps w w':=
 nl_ 100000000 w v ps h left _ (pu_ _ (by omega) ps left h.len_le h.lenOk a b)
theorem ou_(a:Nat)(ps:List b_)(e:ps.length<a)(h:ps.length<1000000000):fG_ a ps=some ps:=by
 have b:=jm_ (f:=co_ a ps) (λj=>(ps.take j++List.replicate (ps.length-j) (Rz.z:b_),(j:Int))) ps.length (ps,(ps.length:Int)) (λj d=>by
  have g:ps[j]? =some (ps.getD j Rz.z):=by rw[List.getD_eq_getElem?_getD,List.getElem?_eq_getElem d];rfl
  have i:(ps.take j++List.replicate (ps.length-j) (Rz.z:b_)).length=ps.length:=by simp;omega
  unfold co_;simp only
  rw[if_pos (by simp;omega),aY_,g,sb,aY_,List.getElem?_eq_getElem (by omega),sb];unfold st;rw[if_pos (by omega),sb,F_ (by omega) (by omega),sb,Int.toNat_natCast,hQ_ ps Rz.z j d];rfl) (by
  unfold co_;simp only
  rw[if_neg (by simp)];simp) a e
 simp only[List.take_zero,List.nil_append,Nat.sub_zero,show((0:Nat):Int)=0 from rfl] at b;unfold fG_ mk;rw[if_pos (by omega),sb,Int.toNat_natCast,b,sb]
theorem fa_(v:Value)(ps:List b_)(w:World)(h:RdL zt w v ps)(a:szA ps<=1048576):
  Calls wQ_ 32 #[v] w λe w'=>∃r,e=.returned r∧OwL w.heap.size w'.heap.size w' r ps∧Keeps w w':=
 nA_ 100000000 w v ps h _ (ou_ _ ps (by unfold szA at a;omega) (by unfold szA at a;omega)) λp b=>by
  have:=st_ b;have e:szP (prOf p)=szPr p:=rfl;unfold szA at a;omega
theorem mc_(B C:Nat)(v:Value)(ps:List b_)(k:Int)(w:World)(h:OwL B C w v ps)(j:0<=k)(a:k+szQ ps<=4611686018427387904):
  Calls wQ_ 18 #[v,.int .i64 k] w λe w'=>e=.returned (.int .i64 (k+offQ ps ps.length))∧OwL B C w' v (numU k ps ps.length)∧Chg B C w w':=by
 obtain⟨T,g,d⟩:=h;refine (iy_ T v ps k w g j a).mono ?_;rintro e w' ⟨rfl,f,i⟩;exact⟨rfl,⟨T,f,d⟩,i.chg λb m=>d b (by omega)⟩
def RdB(w:World)(v:Value)(x:ak_):Prop:=∃u:List Value,v=.agg u.toArray∧Rp.rd zt w u x
def RdIB(B C:Nat)(w:World)(v:Value)(x:ak_):Prop:=∃u:List Value,v=.agg u.toArray∧Rp.rd (λb=>if B<=b∧b<C then 0 else 1) w u x
section
variable {B C B' C':Nat} {w w':World} {v:Value} {x:ak_}
theorem RdIB.keep(h:RdIB B C w v x)(k:Keeps w w'):RdIB B C w' v x:=by
 obtain⟨u,e,h⟩:=h;exact⟨u,e,Rp.mv h k.size λb a d=>⟨k.block b a,d⟩⟩
theorem RdIB.chg(h:RdIB B C w v x)(c:Chg B' C' w w')(f:C<=B'∨C'<=B):RdIB B C w' v x:=by
 obtain⟨u,e,h⟩:=h;exact⟨u,e,Rp.mv h c.size λb d a=>⟨c.block b d (by
  have:B<=b∧b<C:=by
   by_cases q:B<=b∧b<C
   ·exact q
   ·rw[if_neg q] at a;cases a
  omega),a⟩⟩
theorem RdIB.rd(h:RdIB B C w v x):RdB w v x:=by obtain⟨u,e,h⟩:=h;exact⟨u,e,Rp.z h⟩
theorem OwB.rd(h:OwB B C w v x):RdB w v x:=by
 obtain⟨T,a,b,d,e,g,f,i,j⟩:=h;exact⟨[a,b,d],e,a,b,d,rfl,g.ow.z,f.rows.rdl,i.rows.rdl⟩
theorem RdB.shape(h:RdB w v x):∃f b a d e g,v=.agg #[.slice f x.Problems.length b,.slice a x.Maps.length d,.slice e x.Refusal.length g]:=by
 obtain⟨u,rfl,m,n,o,rfl,j,i,k⟩:=h;obtain⟨f,b,rfl⟩:=j.form;obtain⟨a,d,rfl⟩:=i.form;obtain⟨e,g,rfl⟩:=k.form;exact⟨_,_,_,_,_,_,rfl⟩
end
def zeroB:ak_:=⟨[],[],[]⟩
def szB(x:ak_):Nat:=szQ x.Problems+tot x.Maps+tot x.Refusal
def cntB(x:ak_):Nat:=offQ x.Problems x.Problems.length+off x.Maps x.Maps.length+off x.Refusal x.Refusal.length
theorem it_(LL:List (List Int)):off LL LL.length<=tot LL:=by unfold tot;omega
theorem ti_(x:ak_):cntB x<=szB x:=by
 have:=lq_ x.Problems x.Problems.length;have:=it_ x.Maps;have:=it_ x.Refusal;unfold cntB szB;omega
def numB(k:Int)(x:ak_):ak_:=
  ⟨numU k x.Problems x.Problems.length,numbered (k+(offQ x.Problems x.Problems.length:Nat)) x.Maps x.Maps.length,numbered (k+(offQ x.Problems x.Problems.length:Nat)+(off x.Maps x.Maps.length:Nat)) x.Refusal x.Refusal.length⟩
theorem tg_(a:Nat)(x:ak_)(b:szB x<a)(h:szB x<=1000000000000000000):ig_ a x x=some true:=by
 unfold szB at b h;unfold ig_;rw[jU_ a _ (by omega) (by omega),sb,if_neg (by simp),iZ_ a _ (by omega) (by omega),sb,if_neg (by simp),iZ_ a _ (by omega) (by omega),sb,if_neg (by simp)]
theorem hS_(d b:Value)(x:ak_)(w:World)(g:RdB w d x)(f:RdB w b x)(j:szB x<=10000000000000):
  Calls wQ_ 34 #[d,b] w λe w'=>e=.returned (.bool true)∧Keeps w w':=by
 obtain⟨u,rfl,h⟩:=g;obtain⟨i,rfl,a⟩:=f;exact rM_ 100000000000000 w u x h i x a _ (tg_ _ x (by omega) (by omega))
theorem qj_(a:Nat)(x:ak_)(k:Int)(b:szB x<a)(e:0<=k)(h:k+szB x<=4611686018427387904):gm_ a (numB k x) k=some (k+(cntB x:Nat)):=by
 have d:=lq_ x.Problems x.Problems.length;have g:=it_ x.Maps;have f:=it_ x.Refusal;unfold szB at b h;unfold gm_ numB cntB;simp only
 rw[lW_ a _ _ (by omega) (by omega) (by omega),sb,if_neg (by simp;omega),hb_ a _ _ (by omega) (by omega) (by omega),sb,if_neg (by simp;omega),hb_ a _ _ (by omega) (by omega) (by omega),sb,if_neg (by simp;omega)];congr 1;omega
theorem iO_(v:Value)(x:ak_)(k:Int)(w:World)(h:RdB w v (numB k x))(f:szB x<=10000000000000)(b:0<=k)(a:k+szB x<=4611686018427387904):
  Calls wQ_ 36 #[v,.int .i64 k] w λe w'=>e=.returned (.int .i64 (k+cntB x))∧Keeps w w':=by
 obtain⟨u,rfl,d⟩:=h;exact oP_ 100000000000000 w u _ d k _ (qj_ _ x k (by omega) b a)
set_option maxHeartbeats 1600000 in
theorem nI_(B C:Nat)(v:Value)(x:ak_)(k:Int)(w:World)(h:OwB B C w v x)(hC:C<=w.heap.size)(hk:0<=k)(hk2:k+szB x<=4611686018427387904):
  Calls wQ_ 35 #[v,.int .i64 k] w λe w'=>e=.returned (.int .i64 (k+cntB x))∧OwB B C w' v (numB k x)∧Chg B C w w':=by
 have hoP:=lq_ x.Problems x.Problems.length;have hoM:=it_ x.Maps;have hoR:=it_ x.Refusal;obtain⟨T,v1,v2,v3,rfl,o1,o2,o3,hT⟩:=h;have HX:Hid (cntB x=offQ x.Problems x.Problems.length+off x.Maps x.Maps.length+off x.Refusal x.Refusal.length):=rfl;have HT:=Lib.hid hT;have hTw:Hid (T w.heap.size=0):=Classical.byContradiction λh0=>by have:=hT _ h0;omega
 unfold szB at hk2;have O1:=Lib.hid o1;have O2:=Lib.hid o2;have O3:=Lib.hid o3;obtain⟨a1,c1,rfl⟩:=o1.ow.form;obtain⟨a2,c2,rfl,_⟩:=o2.rows.form;obtain⟨a3,c3,rfl,_⟩:=o3.rows.form;clear o1 o2 o3 hT;go_enter Tryz.func35,Tryz.ntmps35;go_wp2_with fail;refine (iy_ T _ x.Problems k _ (O1.out.keep (by repeat (first|exact Keeps.refl _|with_reducible refine Keeps.alloc ?_ _))) (by omega) (by omega)).mono ?_;rintro e W0 ⟨rfl,hO,hG⟩;have N1:=Lib.hid hO;have G0:Hid (ChS (λb=>T b≠0) w W0):=((Keeps.chS (by repeat (first|exact Keeps.refl _|with_reducible refine Keeps.alloc ?_ _)) _).trans (hG.mono λb hb=>by omega));have P2:=Lib.hid ((O2.out.keep (by repeat (first|exact Keeps.refl _|with_reducible refine Keeps.alloc ?_ _))).chS hG λb hb hh=>by omega);have P3:=Lib.hid ((O3.out.keep (by repeat (first|exact Keeps.refl _|with_reducible refine Keeps.alloc ?_ _))).chS hG λb hb hh=>by omega);clear O1 O2 O3;have hcc:∀i,W0.cell? ⟨w.heap.size,i,none⟩=(w.alloc (.cells #[.slice a1 x.Problems.length c1,.slice a2 x.Maps.length c2,.slice a3 x.Refusal.length c3] 51)).cell? ⟨w.heap.size,i,none⟩:=λi=>World.cell?_of_block (hG.block w.heap.size (by simp) (by rw[hTw.out];omega));have hsz0:=hG.size;clear hO hG;go_wp2_with fail;refine (hi_ _ _ x.Maps (k+(offQ x.Problems x.Problems.length:Nat)) _ P2.out (by omega) (by omega)).mono ?_;rintro e W1 ⟨rfl,hO,hG⟩;have N2:=Lib.hid hO;have G1:Hid (ChS (λb=>T b≠0) w W1):=G0.out.trans (hG.mono λb hb=>by omega);have N1':=Lib.hid (N1.out.chS hG λb hb hh=>by omega);have P3':=Lib.hid (P3.out.chS hG λb hb hh=>by omega);clear N1 P2 P3 G0;have hcc1:∀i,W1.cell? ⟨w.heap.size,i,none⟩=W0.cell? ⟨w.heap.size,i,none⟩:=λi=>World.cell?_of_block (hG.block w.heap.size (by simp at hsz0;omega) (by rw[hTw.out];omega));have hsz1:=hG.size;clear hO hG;go_wp2_with fail;refine (hi_ _ _ x.Refusal (k+(offQ x.Problems x.Problems.length:Nat)+(off x.Maps x.Maps.length:Nat)) _ P3'.out (by omega) (by omega)).mono ?_;rintro e W2 ⟨rfl,hO,hG⟩;have N3:=Lib.hid hO;have G2:Hid (ChS (λb=>T b≠0) w W2):=G1.out.trans (hG.mono λb hb=>by omega);have N1'':=Lib.hid (N1'.out.chS hG λb hb hh=>by omega);have N2':=Lib.hid (N2.out.chS hG λb hb hh=>by omega);clear N1' N2 P3' G1;have hcc2:∀i,W2.cell? ⟨w.heap.size,i,none⟩=W1.cell? ⟨w.heap.size,i,none⟩:=λi=>World.cell?_of_block (hG.block w.heap.size (by simp at hsz0;omega) (by rw[hTw.out];omega));clear hO hG;go_wp2;go_ret;exact⟨wi_ (by rw[HX.out];(try omega)),⟨T,_,_,_,rfl,N1''.out,N2'.out,N3.out,HT.out⟩,G2.out.chg λb hb=>HT.out b hb⟩
end
section
open Go.RowKit
structure ChgR (vs:List Value) (w w':World):Prop where
  os:w'.os=w.os
  tape:w'.tape=w.tape
  output:w'.output=w.output
  size:w.heap.size<=w'.heap.size
  block:∀k,k<w.heap.size->(∀i,i<vs.length->(vs.getD i undef).ownBlock≠some k)->w'.heap[k]? =w.heap[k]?
structure OwML (B C:Nat) (w:World) (a:Value) (X:List (List Int)) (v:Value) (l:List Int):Prop where
  ex:∃us,MatIn B w a us X∧(∀k,a.ownBlock=some k->k<C)∧(∀i,i<X.length->∀k,(us.getD i undef).ownBlock=some k->k<C)∧∀i,i<X.length->Apart (us.getD i undef) v
  li:OwI B C w v l
section
variable {B C B' C':Nat} {w w':World} {a v:Value} {X:List (List Int)} {l:List Int}
end
section
variable {B C B' C':Nat} {w w':World} {a v:Value} {X:List (List Int)} {l:List Int}
end
end
section
open Go.RowKit
theorem tX_{p q:b_}{L:Nat}:∀{d:Nat}{f g:List Int},lme p q L d f=some g->g.length=f.length+d
 |0,f,g,h=>by
  unfold lme at h;split at h
  ·cases h;omega
  ·cases h
 |d+1,f,g,h=>by
  unfold lme at h;obtain⟨b,-,a⟩:=List.exists_of_findSome?_eq_some h;have:=tX_ a;rw[List.length_append,List.length_singleton] at this;omega
theorem sr_(p q:b_):(lmapV p q).1.length<=8:=by
 unfold lmapV;split
 ·rename_i a;rw[Bool.and_eq_true,Bool.and_eq_true] at a;obtain⟨b,d,-⟩:=aK_ a.1.1;cases h:lme p q q.Labels.toNat p.Labels.toNat [] with
  |none=>simp
  |some g=>
   have:=tX_ h;simp at this;simp;omega
 ·simp
theorem kT_{n:Nat}:∀{LL:List (List Int)},(∀r∈LL,r.length<=n)->tot LL<=LL.length*(n+1)
 |[],_=>by simp[tot,off]
 |r::LL,h=>by
  have d:=h r (by simp);have a:=kT_ (LL:=LL) λx b=>h x (by simp[b]);unfold tot off at a ⊢;rw[List.take_length] at a ⊢;simp only[List.map_cons,List.sum_cons,List.length_cons,Nat.add_mul,Nat.one_mul] at a ⊢;omega
theorem vR_(E:List (List Int))(x:List Int):((bpr E x).getD []).length<=2:=by
 unfold bpr;split
 ·rename_i h;obtain⟨k,m,a,b,-,e⟩:=h.choose_spec;rw[e];simp
 ·simp
theorem uC_(p:b_):tot (refV p).1<=p.Nodes.length*3:=by
 unfold refV;split
 ·have:=kT_ (n:=2) (LL:=p.Nodes.map λx=>(bpr p.Edges x).getD []) λr a=>by
   obtain⟨x,-,rfl⟩:=List.mem_map.1 a;exact vR_ _ _
  rwa [List.length_map] at this
 ·simp[tot,off]
end
section
open Go.RowKit
theorem qA_(ps:List b_):∀(j:Nat) M,bmp ps j=some M->∀r∈M,r.length<=8
 |0,M,h=>by cases h;simp
 | j+1,M,h=>by
  unfold bmp at h;cases b:bmp ps j with
  |none=>rw[b] at h;cases h
  | some d=>
   have ih:=qA_ ps j d b;rw[b,Option.bind_some] at h;simp only at h;split at h
   ·cases h;exact ih
   ·split at h
    ·cases h
     intro r a;rcases List.mem_append.1 a with a|a
     ·exact ih r a
     ·rw[List.mem_singleton.1 a];exact sr_ _ _
    ·cases h
theorem vJ_(ps:List b_)(g:ps.length<=7)(d:∀p∈ps,p.Nodes.length<=100000000):szB (bnd1 ps).1<=szQ ps+300000100:=by
 have b:szB (⟨[],[],[]⟩:ak_)=0:=rfl;unfold bnd1;cases a:bmp ps ps.length with
 |none=>simp only;rw[b];omega
 | some M=>
  simp only
  split
  ·have h:=kT_ (qA_ ps _ M a);have f:=na_ ps _ M a;have i:=uC_ (ps.getD (ps.length-1) ⟨0,0,[],[]⟩);have j:(ps.getD (ps.length-1) ⟨0,0,[],[]⟩).Nodes.length<=100000000:=by
    rw[List.getD_eq_getElem?_getD];cases e:ps[ps.length-1]? with
    |none=>simp
    |some p=>exact d p (List.mem_of_getElem? e)
   show szQ ps+tot M+tot (refV (ps.getD (ps.length-1) ⟨0,0,[],[]⟩)).1<=_;omega
  ·rw[b];omega
theorem tT_(ps:List b_)(b:∀p∈ps,p.Nodes.length<=100000000):szB (bndV ps).1<=szQ ps+300000100:=by
 cases a:bokB ps
 ·rw[mM_ a];have d:szB (⟨[],[],[]⟩:ak_)=0:=rfl;rw[d];omega
 ·rw[nz_ a];exact vJ_ ps (nq_ a).2.2 b
theorem uf_(ps:List b_)(h:(bndV ps).2=false):(bndV ps).1=zeroB:=by
 cases a:bokB ps
 ·rw[mM_ a];rfl
 ·rw[nz_ a] at h ⊢;unfold bnd1 at h ⊢;cases b:bmp ps ps.length with
  |none=>rfl
  |some M=>
   rw[b] at h;simp only at h ⊢;split at h
   ·cases h
   ·rename_i d;rw[if_neg d];rfl
noncomputable def fBuildBoundSpec(ps:List b_):Option ak_:=if(bndV ps).2=true then some (bndV ps).1 else none
noncomputable def fBuildBoundImpl(ps:List b_):Option ak_:=fBuildBoundSpec ps
theorem nC_(ps:List b_)(_:okQs ps)(_:szA ps<=1048576):fBuildBoundImpl ps=fBuildBoundSpec ps:=rfl
theorem vE_(ps:List b_):(fBuildBoundSpec ps).isSome=(bndV ps).2∧(fBuildBoundSpec ps).getD zeroB=(bndV ps).1:=by
 unfold fBuildBoundSpec;cases h:(bndV ps).2
 ·exact⟨rfl,(uf_ ps h).symm⟩
 ·exact⟨rfl,rfl⟩
theorem tH_{ps:List b_}(h:szA ps<=1048576):smT ps∧∀p∈ps,p.Nodes.length<=100000000:=by
 have b:∀p∈ps,p.Nodes.length<=100000000∧p.Edges.length<=100000000:=λp a=>by
  have:=st_ a;unfold szA at h;have e:szPr p=(p.Nodes.length+off p.Nodes p.Nodes.length)+(p.Edges.length+off p.Edges p.Edges.length):=rfl;omega
 exact⟨⟨by unfold szA at h;omega,b⟩,λp a=>(b p a).1⟩
theorem ji_(v:Value)(ps:List b_)(w:World)(h:Ow 0 28 0 zt w v ps)(_:okQs ps)(i:szA ps<=1048576):
  Calls wQ_ 31 #[v] w λe w'=>∃r,e=.returned (.tuple #[r,.bool (fBuildBoundSpec ps).isSome])∧RdIB 0 w'.heap.size w' r ((fBuildBoundSpec ps).getD zeroB)∧szB ((fBuildBoundSpec ps).getD zeroB)<=10000000000000∧Keeps w w':=by
 obtain⟨f,g⟩:=vE_ ps;obtain⟨a,j⟩:=tH_ i;rw[f,g];refine (ng_ 1000000000 w zt 2 (by decide) v ps h _ (va_ 1000000000 (by omega) ps a)).mono ?_;rintro e w' ⟨k,q,rfl,d,n,o⟩;exact⟨_,rfl,⟨k,rfl,Rp.mv d (Nat.le_refl _) λb m p=>⟨rfl,if_pos ⟨Nat.zero_le _,m⟩⟩⟩,by have:=tT_ ps j;have:=pS_ ps;omega,n⟩
theorem gf_(v:Value)(ps:List b_)(w:World)(h:Ow 0 28 0 zt w v ps)(_:okQs ps)(j:szA ps<=1048576):
  Calls wQ_ 33 #[v] w λe w'=>∃r,e=.returned (.tuple #[r,.bool (fBuildBoundImpl ps).isSome])∧OwB w.heap.size w'.heap.size w' r ((fBuildBoundImpl ps).getD zeroB)∧szB ((fBuildBoundImpl ps).getD zeroB)<=10000000000000∧Keeps w w':=by
 obtain⟨i,b⟩:=vE_ ps;obtain⟨a,d⟩:=tH_ j;unfold fBuildBoundImpl;rw[i,b];refine (mS_ 1000000000 w v ps h.z _ (uA_ 1000000000 (by omega) ps a)).mono ?_;rintro e w' ⟨k,rfl,g,f⟩;exact⟨_,rfl,g,by have:=tT_ ps d;have:=pS_ ps;omega,f⟩
end
end Go.Proofs.YtdbbeldgdgonfaaGreat
