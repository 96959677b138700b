/- Part 24 of what this claim rests on (pack.py). -/
import Derived.Test.YtdbbeldgdgonfaaGreatP22
namespace Go.Proofs.YtdbbeldgdgonfaaGreat
open Tryz renaming prog→wQ_, underlying85→xh_, sizeOf41→wY_, isAgg41→xa_, underlying41→wR_, underlying22→wV_, sizeOf3→wS_, isAgg3→wT_, zeroValue3→xd_, results119→Aa_, sizeOf28→wU_, underlying28→wW_, results86→yu_, sizeOf22→wZ_, isAgg22→xb_, call119→yv_, call86→Ab_, isAgg28→wX_, call43→xE_, results56→yw_, results57→yx_
set_option linter.unusedSimpArgs false
set_option linter.unusedVariables false
section
set_option maxRecDepth 100000
set_option maxHeartbeats 2000000
open Go.RowKit
theorem ma_:Inf wQ_ 3 (.int .i64 0) 1 8:=by unfold Inf;kernel_rfl
def bS_(d:cr_):Int->Int->(List Int)->Option (Lp (List Int) (List Int) Bool):=λ(f:Int)(a:Int)(s:List Int)=>
  (ix d.perm a)>>=λb=>
  (push s b)>>=λc=>
  some (.go c)
def bQ_(fuel:Nat)(j:cr_)(k:List (List Int))(b:Int):Int->(List Int)->Unit->Option (Lp Unit Unit Bool):=λ(m:Int)(a:List Int)(s:Unit)=>
  (ck ((a.length:Int)-1))>>=λc=>
  (ix a c)>>=λd=>
  if d !=b then
    some (.go ())
  else
    (forI (bS_ j) a 0 [])>>=λf=>
    match f with
    | .inl g=>
      (bn_ fuel k g)>>=λi=>
      if !i then
        some (.ret false)
      else
        some (.go ())
    | .inr _=>none
def cc_(fuel:Nat)(c:cr_)(d:List (List Int))(f:List (List Int)):Option Bool:=
  (ck ((c.perm.length:Int)-1))>>=λa=>
  (forI (bQ_ fuel c f a) d 0 ())>>=λb=>
  match b with
  | .inl _=>
    some true
  | .inr r'=>some r'
def gz_(w:World)(r:Bool):Ending->World->Prop:=λe w'=>e=.returned (.bool r)∧Keeps w w'
theorem eW_(fuel:Nat)(w:World)(i:Nat)(d9:List Value)(a4:cr_)(e0:Cells w i 0 d9)(e1:Rp.rd zt w d9 a4)(j:Value)(g:Yk)(a6:RdL zt w j g)(k:Value)(a5:Yk)(e2:RdL zt w k a5)(r:Bool)(hF:cc_ fuel a4 g a5=some r):
    Calls wQ_ 119 #[.pointer (some ⟨i,0,none⟩),j,k] w (gz_ w r):=by
 unfold cc_ at hF;have g0k:=e1;obtain⟨g5,g6,g7,g8,g9,rfl,h0,h1,h2,h3,N⟩:=e1;have hB:Bs (λ_=>1) (col (λ_=>1)) w w:=Bs.start _ _;refine i_ (n:=55) (vs:=[ZP i,j,k]) Tryz.func119 rfl rfl ?_;refine Zq (Za rfl (Ze [(0,_),(1,_),(2,_)] (Zn (Zm rfl (Zv (bH_ rfl) (Zv (m_ rfl xh_ rfl wY_) (Zv (e_ rfl xa_ ((e0.keep hB.keeps) 8 _ rfl)) (Zv (B_ rfl N wR_) ?_))))))));obtain⟨c,O,hF⟩:=a_ hF;refine Zv (bs_ rfl rfl O) (Za rfl (Ze [(0,_),(1,_),(2,_),(7,_)] (nx (c_ (Zq (Zm rfl (Zv (B_ rfl a6 wV_) (Zm rfl (Ze [(0,_),(2,_),(7,_),(19,_),(20,_),(21,_)] (nx ?_))))))))));obtain⟨H,Q,hF⟩:=a_ hF;refine v_ (λa A=>∃(v:Tg),H=.inl ()∧Fr a 55 []∧Bs (λ_=>1) v w A) (λa w'=>∃r',H=.inr r'∧bodyPost wQ_ Tryz.f119 (gz_ w r') .ret a w') ?_ ?_ ?_
 ·refine f_ ?_;refine w_ (λ(K:Nat) a A=>∃(b:Int),∃(v:Tg),forI (bQ_ fuel a4 a5 c) (g.drop b.toNat) b ()=some H∧(g.drop b.toNat).length=K∧0<=b∧Fr a 55 [(0,ZP i),(2,k),(7,ZI c),(19,j),(20,ZI (g.length:Int)),(21,ZI b)]∧Bs (λ_=>1) v w A) _ (λa ha=>⟨0,col (λ_=>1),Q,rfl,Int.le_refl 0,ha.sb,hB⟩) ?_;rintro K19 a A ⟨b,v,R,S,a7,ha,hB⟩;by_cases E:b<(g.length:Int)
  ·obtain⟨m,e3,T,d,I⟩:=R_ a7 E R;have hle:=a6.len_le;dsimp only[bQ_] at d;refine J_ ha ?_;refine Zq (Zv (r_ rfl rfl) (Ze [(0,_),(2,_),(7,_),(19,_),(20,_),(21,_),(22,_)] (nx (c_ ?_))));refine L_ (Zb (decide_eq_true E)) ?_;refine g_ (nx (c_ (f_ (Zq (Zo ?_)))));refine wf_atZ a6 T hB rfl rfl wV_ wY_ ?_;intro e4 e5 e6 a8 a9;obtain⟨q,rfl,D⟩:=a9;refine Zv (e_ rfl xa_ (k_ a8)) (Za rfl (Ze [(0,_),(2,_),(7,_),(9,_),(19,_),(20,_),(21,_)] (nx (c_ (Zq (Zm rfl (Zm rfl (Zv (B_ rfl D wR_) ?_))))))));obtain⟨e7,U,d⟩:=a_ d;refine Zv (bs_ rfl rfl U) ?_;obtain⟨b0,V,d⟩:=a_ d;refine Zo ?_;refine wf_atZ D V hB rfl rfl wR_ wS_ ?_;intro e8 e9 f0 b1 b2;cases b2
   refine Zv (e_ rfl wT_ (k_ b1)) (Zm rfl (Zv (bR_ rfl rfl) (Ze [(0,_),(2,_),(7,_),(9,_),(19,_),(20,_),(21,_),(32,_)] (nx ?_))));refine l_ rfl (λJ=>?_) (λJ=>?_)
   ·rw[if_pos J] at d;refine s_ ?_;refine n_ (N_ (nx (d_ (Zv (C_ rfl rfl (F_ (by omega) (by omega))) (Zm rfl (Ze [(0,_),(2,_),(7,_),(19,_),(20,_),(21,_)] (u_ ?_)))))));have b3:=Zj d;subst b3;refine Zk [(0,_),(2,_),(7,_),(19,_),(20,_),(21,_)] ?_;intro a ha;exact⟨_,(by rw[<-S];simp only[List.length_drop];omega),b+1,v,I,rfl,by omega,ha,hB⟩
   ·replace d:=ZF J d;refine g_ (Zn (Za rfl (Ze [(0,_),(2,_),(7,_),(9,_),(10,_),(19,_),(20,_),(21,_)] (nx (c_ (Zq (Zm rfl (Zv (B_ rfl D wR_) (Zm rfl (Ze [(0,_),(2,_),(7,_),(10,_),(19,_),(20,_),(21,_),(33,_),(34,_),(35,_)] (nx ?_)))))))))));have b4:Oz w 3 11 v A (.slice none 0 0) ([]:Yl):=Ow.nil _ _ _ _ _;obtain⟨W,X,d⟩:=a_ d;refine v_ (λa y=>∃x s u,W=.inl x∧Fr a 55 [(0,ZP i),(2,k),(7,ZI c),(10,s),(19,j),(20,ZI (g.length:Int)),(21,ZI b)]∧Bs (λ_=>1) u w y∧Oz w 3 11 u y s x) (λ_ _=>False) ?_ ?_ ?_
    ·refine f_ ?_;refine w_ (λ(K:Nat) a y=>∃(f:Int),∃x s u,forI (bS_ a4) (m.drop f.toNat) f x=some W∧(m.drop f.toNat).length=K∧0<=f∧Fr a 55 [(0,ZP i),(2,k),(7,ZI c),(10,s),(19,j),(20,ZI (g.length:Int)),(21,ZI b),(33,q),(34,ZI (m.length:Int)),(35,ZI f)]∧Bs (λ_=>1) u w y∧Oz w 3 11 u y s x) _ (λa ha=>⟨0,[],.slice none 0 0,v,X,rfl,Int.le_refl 0,ha.sb,hB,b4⟩) ?_;rintro K52 a y ⟨f,x,s,u,Y,b5,b6,ha,hB,B⟩;by_cases F:f<(m.length:Int)
     ·obtain⟨b7,f1,Z,C,b8⟩:=R_ b6 F Y;have hle:=D.len_le;dsimp only[bS_] at C;refine J_ ha ?_;refine Zq (Zv (r_ rfl rfl) (Ze [(0,_),(2,_),(7,_),(10,_),(19,_),(20,_),(21,_),(33,_),(34,_),(35,_),(36,_)] (nx (c_ ?_))));refine L_ (Zb (decide_eq_true F)) ?_;refine g_ (nx (c_ (f_ (Zq (Zo ?_)))));refine wf_atZ D Z hB rfl rfl wR_ wS_ ?_;intro f2 f3 f4 b9 c0;cases c0
      refine Zv (e_ rfl wT_ (k_ b9)) (Za rfl (Ze [(0,_),(2,_),(7,_),(10,_),(12,_),(19,_),(20,_),(21,_),(33,_),(34,_),(35,_)] (nx (d_ (Zm rfl (Zm rfl (Zv (bH_ rfl) (Zv (m_ rfl xh_ rfl wY_) (Zv (e_ rfl xa_ ((e0.keep hB.keeps) 8 _ rfl)) (Zm rfl ?_))))))))));obtain⟨L,a0,C⟩:=a_ C;refine Zo ?_;refine wf_atZ N a0 hB rfl rfl wR_ wS_ ?_;intro f5 f6 f7 c1 c2;cases c2
      refine Zv (e_ rfl wT_ (k_ c1)) (Zo ?_);refine au_ (o:=u) (cs:=[ZI L]) (xs:=([L]:Yl)) (vs:=[(0,ZI L)]) ⟨_,_,rfl,rfl,rfl⟩ rfl ⟨rfl,rfl,trivial⟩ wR_ wS_ xd_ (by decide) (fill1 rfl) (by simp) ?_;intro f8 f9 g0 c3 c4 g1;obtain⟨B,hB⟩:=ZS c4 (A2 B hB);obtain⟨c5,a1,C⟩:=a_ C;refine Zo ?_;refine aT_ B c3 (ai_ a1) (by decide) hB.keeps.size rfl rfl wR_ ma_ rfl (by decide) ?_;intro c6 g2 G c7 c8;replace hB:=hB.stp c8;refine Za rfl (Ze [(0,ZP i),(2,k),(7,ZI c),(10,G),(19,j),(20,ZI (g.length:Int)),(21,ZI b),(33,q),(34,ZI (m.length:Int)),(35,ZI f)] (x_ (nx (d_ (Zv (C_ rfl rfl (F_ (by omega) (by omega))) (Zm rfl (Ze [(0,_),(2,_),(7,_),(10,_),(19,_),(20,_),(21,_),(33,_),(34,_),(35,_)] (u_ ?_))))))));have c9:=Zj C;subst c9;refine Zk [(0,_),(2,_),(7,_),(10,_),(19,_),(20,_),(21,_),(33,_),(34,_),(35,_)] ?_;intro a ha;exact⟨_,(by rw[<-b5];simp only[List.length_drop];omega),f+1,c5,G,c6,b8,rfl,by omega,ha,hB,c7⟩
     ·have d0:=S_ F Y;refine J_ ha ?_;refine Zq (Zv (r_ rfl rfl) (Ze [(0,_),(2,_),(7,_),(10,_),(19,_),(20,_),(21,_),(33,_),(34,_),(35,_),(36,_)] (nx (c_ ?_))));refine G_ (Zb (decide_eq_false F)) ?_;refine s_ ?_;refine n_ (n_ (N_ ?_));refine p_ ?_;refine Zk [(0,_),(2,_),(7,_),(10,_),(19,_),(20,_),(21,_)] ?_;intro a ha;exact⟨x,s,u,d0,ha,hB,B⟩
    ·rintro a y ⟨x,s,u,rfl,ha,hB,B⟩;dsimp only at d;refine ap_k ha ?_;refine Zn (Zm rfl (Zm rfl ?_));obtain⟨a2,a3,d⟩:=a_ d;refine Zo ?_;refine o_ (ea_ fuel y _ a5 (e2.keep hB.keeps) _ x B.z a2 a3) Tryz.call162 ⟨rfl,rfl,trivial⟩ ?_;rintro g3 g4 ⟨rfl,d1⟩;have d2:=d1.stp 999 u;refine⟨_,rfl,?_⟩;replace hB:=hB.stp d2;refine Zv (aI_ rfl) (Ze [(0,_),(2,_),(7,_),(19,_),(20,_),(21,_),(53,_)] (nx ?_));refine l_ rfl (λM=>?_) (λM=>?_)
     ·rw[if_pos M] at d;refine Zq (Za rfl (Ze [(6,_)] (nx (j_ (W_ (y_ (y_ (W_ ?_))))))));refine bg_ ?_;have d3:=Zj d;subst d3;refine λa ha=>⟨_,I,?_⟩;refine D_ (P:=wQ_) (vs:=[.bool false]) Aa_ ⟨rfl,trivial⟩ ?_ a ha;exact⟨rfl,hB.keeps⟩
     ·replace d:=ZF M d;refine g_ (x_ (nx (d_ (Zv (C_ rfl rfl (F_ (by omega) (by omega))) (Zm rfl (Ze [(0,_),(2,_),(7,_),(19,_),(20,_),(21,_)] (u_ ?_)))))));have d4:=Zj d;subst d4;refine Zk [(0,_),(2,_),(7,_),(19,_),(20,_),(21,_)] ?_;intro a ha;exact⟨_,(by rw[<-S];simp only[List.length_drop];omega),b+1,u,I,rfl,by omega,ha,hB⟩
    ·exact λ_ _ h=>h.elim
  ·have d5:=S_ E R;refine J_ ha ?_;refine Zq (Zv (r_ rfl rfl) (Ze [(0,_),(2,_),(7,_),(19,_),(20,_),(21,_),(22,_)] (nx (c_ ?_))));refine G_ (Zb (decide_eq_false E)) ?_;refine s_ ?_;refine n_ (n_ (N_ ?_));refine p_ ?_;refine Zk [] ?_;intro a ha;exact⟨v,d5,ha,hB⟩
 ·rintro a A ⟨v,rfl,ha,hB⟩;dsimp only at hF;refine ap_k ha ?_;refine Zn (Za rfl (Ze [(6,_)] (nx (j_ ?_))));have d6:=Zj hF;subst d6;refine Zr Aa_ [.bool true] ?_;exact⟨rfl,hB.keeps⟩
 ·rintro a A ⟨r',rfl,d7⟩;dsimp only at hF;have d8:=Zj hF;subst d8;exact d7
end
section
set_option maxRecDepth 100000
set_option maxHeartbeats 2000000
open Go.RowKit
theorem me_:Inf wQ_ 3 (.int .i64 0) 1 8:=by unfold Inf;kernel_rfl
def cg_(fuel:Nat)(pp:b_)(pq:b_)(self:b_->b_->(List Int)->Option (Bool×List Int)):Int->(List Int)->Option (Lp (List Int) (List Int) (Bool×List Int)):=λ(i:Int)(s:List Int)=>
  (push s i)>>=λa=>
  (
    (cc_ fuel (⟨⟨pp.Labels,pp.Degree,pp.Nodes,pp.Edges⟩,⟨pq.Labels,pq.Degree,pq.Nodes,pq.Edges⟩,a⟩:cr_) pp.Nodes pq.Nodes)>>=λj=>
    if j then
      (cc_ fuel (⟨⟨pp.Labels,pp.Degree,pp.Nodes,pp.Edges⟩,⟨pq.Labels,pq.Degree,pq.Nodes,pq.Edges⟩,a⟩:cr_) pp.Edges pq.Edges)>>=λc=>
      if c then
        (self pp pq a)>>=λd=>
        some d
      else
        some (false,a)
    else
      some (false,a))>>=λb=>
  if b.1 then
    some (.ret (true,b.2))
  else
    (ck ((b.2.length:Int)-1))>>=λf=>
    (cut b.2 0 f)>>=λg=>
    some (.go g)
def aV_:Nat->b_->b_->(List Int)->Option (Bool×List Int)
  |0=>λ_ _ _=>none
  | fuel+1=>λpp pq ls=>
    if(ls.length:Int)==pp.Labels then
      some (true,ls)
    else
      ck pq.Labels>>=λ_=>
      (forN (cg_ fuel pp pq (aV_ fuel)) (pq.Labels).toNat 0 ls)>>=λa=>
      match a with
      | .inl b=>
        some (false,b)
      | .inr r'=>some r'
def hw_(oo:Tg)(w:World)(a:Nat)(pp pq:b_)(b c d f:Value)(r:Bool×Yl):Ending->World->Prop:=λe w'=>∃(o':Tg)(v':Value),e=.returned (.bool r.1)∧Bx w.heap.size 14 o' w' a 85 [.int .i64 pp.Labels,.int .i64 pp.Degree,b,c,.int .i64 pq.Labels,.int .i64 pq.Degree,d,f,v']∧Ow w.heap.size 3 13 o' w' v' r.2∧Bs oo o' w w'
theorem kh_(fuel:Nat):∀(w a7:World)(oo o:Tg)(hB:Bs oo o w a7)(pp:b_)(pq:b_)(s:Value)(v:RdL zt w s pp.Nodes)(x:Value)(E:RdL zt w x pp.Edges)(u:Value)(y:RdL zt w u pq.Nodes)(A:Value)(F:RdL zt w A pq.Edges)(b:Nat)(ul:Value)(ls:Yl)(hb:Bx w.heap.size 14 o a7 b 85 [.int .i64 pp.Labels,.int .i64 pp.Degree,s,x,.int .i64 pq.Labels,.int .i64 pq.Degree,u,A,ul])(hl:Ow w.heap.size 3 13 o a7 ul ls)(r:Bool×Yl)(hF:aV_ fuel pp pq ls=some r),Calls wQ_ 86 #[.pointer (some ⟨b,0,none⟩)] a7 (hw_ oo w b pp pq s x u A r):=by
 induction fuel with
 |zero=>
  intro w a7 oo o hB pp pq s v x E u y A F b ul ls hb hl r hF;unfold aV_ at hF;cases hF
 | succ fuel ih=>
  intro w a7 oo o hB pp pq s v x E u y A F b ul ls hb hl r hF;unfold aV_ at hF;refine i_ (n:=78) (vs:=[ZP b]) Tryz.func86 rfl rfl ?_;refine Zq (Za rfl (Ze [(0,_)] (nx (c_ (c_ ?_)))));refine ZW (Bf:=λG H=>Bs oo G w H∧Bz w 14 G H b 85 [ZI pp.Labels,ZI pp.Degree,s,x,ZI pq.Labels,ZI pq.Degree,u,A,ul]∧Oz w 3 13 G H ul ls) [(0,_)] (Zrg 4 10) [[],[0],[1],[2],[3],[],[5],[6],[7],[8]] (Zcn 10) (Zt9 10) (Zt0 10) [999] [.inl (ZP b),.inl (ZP b),.inl (.pointer (some ⟨b,0+8,none⟩)),.inl ul,.inl (ZI (ls.length:Int)),.inl (ZP b),.inl (ZP b),.inl (.pointer (some ⟨b,0+0,none⟩)),.inl (.pointer (some ⟨b,0+0+0,none⟩)),.inl (ZI pp.Labels)] ⟨hB,hb,hl⟩ trivial ?_ ?_
  ·exact⟨Dp (h_ rfl),Dp (bH_ rfl),Dp (m_ rfl xh_ rfl wY_),Dq λh=>e_ rfl xa_ (h.2.1.cell rfl),Dq λh=>bC_ rfl h.2.2 wR_,Dp (h_ rfl),Dp (bH_ rfl),Dp (m_ rfl xh_ rfl wU_),Dp (m_ rfl wW_ rfl wS_),Dq λh=>e_ rfl wT_ (h.2.1.cell rfl),trivial⟩
  rintro _ rfl d7 g3 g4 ha ⟨hB,hb,hl⟩-;refine aH_ ha ?_;refine Zv (cD_ rfl rfl) (Ze [(0,_),(14,_)] (nx ?_));refine l_ rfl (λa2=>?_) (λa2=>?_)
  ·rw[if_pos a2] at hF;refine Zq (Za rfl (Ze [(2,_)] (nx (j_ (y_ ?_)))));have d8:=Zj hF;subst d8;refine Zr yu_ [.bool true] ?_;exact⟨_,_,rfl,hb,hl,hB⟩
  ·replace hF:=ZF a2 hF;refine g_ (nx (c_ (Zq (Zm rfl (Zv (bH_ rfl) (Zv (m_ rfl xh_ rfl wU_) (Zv (m_ rfl wW_ rfl wS_) (Zv (e_ rfl wT_ (hb.cell rfl)) (Zm rfl (Ze [(0,_),(19,_),(20,_)] (nx ?_)))))))))));obtain⟨g5,d9,hF⟩:=a_ hF;obtain⟨-,h53a,h53b⟩:=bV_ d9;obtain⟨a3,a8,hF⟩:=a_ hF;refine v_ (λa q=>∃B C m,a3=.inl B∧Fr a 78 []∧Bs oo m w q∧Bz w 14 m q b 85 [ZI pp.Labels,ZI pp.Degree,s,x,ZI pq.Labels,ZI pq.Degree,u,A,C]∧Oz w 3 13 m q C B) (λa w'=>∃r',a3=.inr r'∧bodyPost wQ_ Tryz.f86 (hw_ oo w b pp pq s x u A r') .ret a w') ?_ ?_ ?_
   ·refine f_ ?_;refine w_ (λ(K:Nat) a q=>∃(d:Int),∃B C m,forN (cg_ fuel pp pq (aV_ fuel)) (pq.Labels-d).toNat d B=some a3∧(pq.Labels-d).toNat=K∧0<=d∧Fr a 78 [(0,ZP b),(19,ZI pq.Labels),(20,ZI d)]∧Bs oo m w q∧Bz w 14 m q b 85 [ZI pp.Labels,ZI pp.Degree,s,x,ZI pq.Labels,ZI pq.Degree,u,A,C]∧Oz w 3 13 m q C B) _ (λa ha=>⟨0,ls,ul,d7,(by rw[Int.sub_zero];exact a8),rfl,Int.le_refl 0,ha.sb,hB,hb,hl⟩) ?_;rintro K58 a q ⟨d,B,C,m,a9,e0,g6,ha,hB,hb,L⟩;by_cases U:d<pq.Labels
    ·obtain⟨g7,k,b0⟩:=bv_ U a9;dsimp only[cg_] at k;refine J_ ha ?_;refine Zq (Zv (r_ rfl rfl) (Ze [(0,_),(19,_),(20,_),(21,_)] (nx (c_ ?_))));refine L_ (Zb (decide_eq_true U)) ?_;refine g_ (nx (c_ (f_ (Zq (Zm rfl (Za rfl (Ze [(0,_),(3,_),(19,_),(20,_)] (Zn (Zm rfl (Zm rfl (Zv (bH_ rfl) (Zv (m_ rfl xh_ rfl wY_) ?_))))))))))));refine Zv (e_ rfl xa_ (hb.cell rfl)) (Zm rfl (Zo ?_));refine au_ (o:=m) (cs:=[ZI d]) (xs:=([d]:Yl)) (vs:=[(0,ZI d)]) ⟨_,_,rfl,rfl,rfl⟩ rfl ⟨rfl,rfl,trivial⟩ wR_ wS_ xd_ (by decide) (fill1 rfl) (by simp) ?_;intro g8 g9 h0 e1 e2 h1;obtain⟨L,hb,hB⟩:=ZS e2 (A3 L hb hB);obtain⟨M,b1,k⟩:=a_ k;refine Zo ?_;refine aT_ L e1 (ai_ b1) (by decide) hB.keeps.size rfl rfl wR_ me_ rfl (by decide) ?_;intro e3 h2 N f e4;obtain⟨hb,hB⟩:=ZS e4 (A2 hb hB);refine Zv (bH_ rfl) (Zv (m_ rfl xh_ rfl wY_) ?_);refine Z_ trivial ?_;refine bl_ hb rfl rfl (of_decide_eq_true rfl) wY_ f.cells1 f.one1 ?_;intro e5 g e6;obtain⟨f,hB⟩:=ZS e6 (A2 f hB);replace g:Bz w 14 e3 e5 b 85 [ZI pp.Labels,ZI pp.Degree,s,x,ZI pq.Labels,ZI pq.Degree,u,A,N]:=g;refine Ze [(0,_),(19,_),(20,_)] (nx (c_ (c_ ?_)));obtain⟨V,i,k⟩:=a_ k;refine v_ (λe7 W=>∃X O,Fr e7 78 [(0,ZP b),(19,ZI pq.Labels),(20,ZI d),(62,.bool V.1)]∧Bs oo X w W∧Bz w 14 X W b 85 [ZI pp.Labels,ZI pp.Degree,s,x,ZI pq.Labels,ZI pq.Degree,u,A,O]∧Oz w 3 13 X W O V.2) (λ_ _=>False) ?_ ?_ (λ_ _ h=>h.elim)
     ·obtain⟨I,Y,i⟩:=a_ i;rcases Bool.eq_false_or_eq_true (I) with c|c
      ·rw[if_pos c] at i;refine ZW (Bf:=λG H=>Bs oo G w H∧Bz w 14 G H b 85 [ZI pp.Labels,ZI pp.Degree,s,x,ZI pq.Labels,ZI pq.Degree,u,A,N]∧Oz w 3 13 G H N M) [(0,_),(19,_),(20,_)] (Zrg 33 24) [[],[],[1],[2],[3],[4],[],[6],[7],[8],[9],[0,5,10],[11],[12],[12],[12,14],[12,15],[12,16],[12,17],[12],[12,19],[12,20],[12,21],[12,22]] (Zcn 24) (Zt9 24) (Zt0 24) [999] [.inl (ZP b),.inl (ZP b),.inl (ZP b),.inl (.pointer (some ⟨b,0+0,none⟩)),.inl (.pointer (some ⟨b,0+0+2,none⟩)),.inl s,.inl (ZP b),.inl (ZP b),.inl (.pointer (some ⟨b,0+4,none⟩)),.inl (.pointer (some ⟨b,0+4+2,none⟩)),.inl u,.inl (.bool I),.inl (.bool I),.inl (ZP b),.inl (ZP b),.inl (ZP b),.inl (.pointer (some ⟨b,0+0,none⟩)),.inl (.pointer (some ⟨b,0+0+3,none⟩)),.inl x,.inl (ZP b),.inl (ZP b),.inl (.pointer (some ⟨b,0+4,none⟩)),.inl (.pointer (some ⟨b,0+4+3,none⟩)),.inl A] ⟨hB,g,f⟩ trivial ?_ ?_
       ·refine⟨Dp (h_ rfl),Dp (h_ rfl),Dp (bH_ rfl),Dp (m_ rfl xh_ rfl wU_),Dp (m_ rfl wW_ rfl wZ_),Dq λh=>e_ rfl xb_ (h.2.1.cell rfl),Dp (h_ rfl),Dp (bH_ rfl),Dp (m_ rfl xh_ rfl wU_),Dp (m_ rfl wW_ rfl wZ_),Dq λh=>e_ rfl xb_ (h.2.1.cell rfl),?_,Dp (h_ rfl),Dp (h_ rfl) (⟨_,rfl,Zb c⟩),Dp (h_ rfl) (⟨_,rfl,Zb c⟩),Dp (bH_ rfl) (⟨_,rfl,Zb c⟩),Dp (m_ rfl xh_ rfl wU_) (⟨_,rfl,Zb c⟩),Dp (m_ rfl wW_ rfl wZ_) (⟨_,rfl,Zb c⟩),Dq (λh=>e_ rfl xb_ (h.2.1.cell rfl)) (⟨_,rfl,Zb c⟩),Dp (h_ rfl) (⟨_,rfl,Zb c⟩),Dp (bH_ rfl) (⟨_,rfl,Zb c⟩),Dp (m_ rfl xh_ rfl wU_) (⟨_,rfl,Zb c⟩),Dp (m_ rfl wW_ rfl wZ_) (⟨_,rfl,Zb c⟩),Dq (λh=>e_ rfl xb_ (h.2.1.cell rfl)) (⟨_,rfl,Zb c⟩),trivial⟩
        ·rintro b2 b3 e8 ha ⟨hB,g,f⟩-;refine Zs ha ?_;refine o_ (eW_ fuel b3 b _ (⟨⟨pp.Labels,pp.Degree,pp.Nodes,pp.Edges⟩,⟨pq.Labels,pq.Degree,pq.Nodes,pq.Edges⟩,M⟩:cr_) g.cells ⟨_,_,_,_,_,rfl,v.keep hB.keeps,E.keep hB.keeps,y.keep hB.keeps,F.keep hB.keeps,f.z⟩ _ pp.Nodes (v.keep hB.keeps) _ pq.Nodes (y.keep hB.keeps) I Y) yv_ ⟨rfl,rfl,rfl,trivial⟩ ?_;rintro e9 f0 ⟨rfl,b4⟩;have b5:=b4.stp 999 b2;refine⟨_,rfl,?_⟩;exact⟨_,b5,rfl⟩
       rintro _ rfl Q b6 f1 ha ⟨hB,g,f⟩-;refine aH_ ha ?_;obtain⟨Z,a4,i⟩:=a_ i;refine cJ_ (by decide) ⟨_,rfl,Zb c⟩ ?_;refine o_ (eW_ fuel b6 b _ (⟨⟨pp.Labels,pp.Degree,pp.Nodes,pp.Edges⟩,⟨pq.Labels,pq.Degree,pq.Nodes,pq.Edges⟩,M⟩:cr_) g.cells ⟨_,_,_,_,_,rfl,v.keep hB.keeps,E.keep hB.keeps,y.keep hB.keeps,F.keep hB.keeps,f.z⟩ _ pp.Edges (E.keep hB.keeps) _ pq.Edges (F.keep hB.keeps) Z a4) yv_ ⟨rfl,rfl,rfl,trivial⟩ ?_;rintro f2 b7 ⟨rfl,b8⟩;have b9:=b8.stp 999 Q;refine⟨_,rfl,?_⟩;obtain⟨g,f,hB⟩:=ZS b9 (A3 g f hB);refine Zv (P_ (Zb c) rfl) (Zm rfl ?_);rcases Bool.eq_false_or_eq_true (Z) with j|j
       ·rw[if_pos j] at i;refine q_ (h_ rfl) (by decide) ⟨_,rfl,Zb j⟩ ?_;obtain⟨a0,a5,i⟩:=a_ i;refine cJ_ (by decide) ⟨_,rfl,Zb j⟩ ?_;refine o_ (ih w b7 oo Q hB pp pq s v x E u y A F b N M g f a0 a5) Ab_ ⟨rfl,trivial⟩ ?_;rintro f3 f4 ⟨h3,O,rfl,g,f,hB⟩;refine⟨_,rfl,?_⟩;refine Zv (P_ (Zb j) rfl) ?_;have c0:=Zj i;subst c0;refine Ze [(0,_),(19,_),(20,_),(62,_)] ?_;refine p_ (λa ha=>⟨h3,O,ha,hB,g,f⟩)
       ·replace i:=ZF j i;refine A_ rfl rfl (by rw[j];rfl) (by decide) ?_;refine A_ rfl rfl (by rw[j];rfl) (by decide) ?_;refine Zv (I_ (Zb j) rfl) ?_;have c1:=Zj i;subst c1;refine Ze [(0,_),(19,_),(20,_),(62,_)] ?_;refine p_ (λa ha=>⟨Q,_,ha,hB,g,f⟩)
      ·replace i:=ZF c i;refine ZW (Bf:=λG H=>Bs oo G w H∧Bz w 14 G H b 85 [ZI pp.Labels,ZI pp.Degree,s,x,ZI pq.Labels,ZI pq.Degree,u,A,N]∧Oz w 3 13 G H N M) [(0,_),(19,_),(20,_)] (Zrg 33 24) [[],[],[1],[2],[3],[4],[],[6],[7],[8],[9],[0,5,10],[11],[12],[12],[12],[12],[12],[12],[12],[12],[12],[12],[12]] (Zcn 24) (Zt9 24) (Zt0 24) [999] [.inl (ZP b),.inl (ZP b),.inl (ZP b),.inl (.pointer (some ⟨b,0+0,none⟩)),.inl (.pointer (some ⟨b,0+0+2,none⟩)),.inl s,.inl (ZP b),.inl (ZP b),.inl (.pointer (some ⟨b,0+4,none⟩)),.inl (.pointer (some ⟨b,0+4+2,none⟩)),.inl u,.inl (.bool I),.inl (.bool I),.inl undef,.inl undef,.inl undef,.inl undef,.inl undef,.inl undef,.inl undef,.inl undef,.inl undef,.inl undef,.inl undef] ⟨hB,g,f⟩ trivial ?_ ?_
       ·refine⟨Dp (h_ rfl),Dp (h_ rfl),Dp (bH_ rfl),Dp (m_ rfl xh_ rfl wU_),Dp (m_ rfl wW_ rfl wZ_),Dq λh=>e_ rfl xb_ (h.2.1.cell rfl),Dp (h_ rfl),Dp (bH_ rfl),Dp (m_ rfl xh_ rfl wU_),Dp (m_ rfl wW_ rfl wZ_),Dq λh=>e_ rfl xb_ (h.2.1.cell rfl),?_,Dp (h_ rfl),Dn rfl rfl rfl (by rw[c];rfl),Dn rfl rfl rfl (by rw[c];rfl),Dn rfl rfl rfl (by rw[c];rfl),Dn rfl rfl rfl (by rw[c];rfl),Dn rfl rfl rfl (by rw[c];rfl),Dn rfl rfl rfl (by rw[c];rfl),Dn rfl rfl rfl (by rw[c];rfl),Dn rfl rfl rfl (by rw[c];rfl),Dn rfl rfl rfl (by rw[c];rfl),Dn rfl rfl rfl (by rw[c];rfl),Dn rfl rfl rfl (by rw[c];rfl),trivial⟩
        ·rintro c2 c3 f5 ha ⟨hB,g,f⟩-;refine Zs ha ?_;refine o_ (eW_ fuel c3 b _ (⟨⟨pp.Labels,pp.Degree,pp.Nodes,pp.Edges⟩,⟨pq.Labels,pq.Degree,pq.Nodes,pq.Edges⟩,M⟩:cr_) g.cells ⟨_,_,_,_,_,rfl,v.keep hB.keeps,E.keep hB.keeps,y.keep hB.keeps,F.keep hB.keeps,f.z⟩ _ pp.Nodes (v.keep hB.keeps) _ pq.Nodes (y.keep hB.keeps) I Y) yv_ ⟨rfl,rfl,rfl,trivial⟩ ?_;rintro f6 f7 ⟨rfl,c4⟩;have c5:=c4.stp 999 c2;refine⟨_,rfl,?_⟩;exact⟨_,c5,rfl⟩
       rintro _ rfl c6 f8 f9 ha ⟨hB,g,f⟩-;refine aH_ ha ?_;refine A_ rfl rfl (by rw[c];rfl) (by decide) ?_;refine Zv (I_ (Zb c) rfl) (Zm rfl ?_);refine A_ rfl rfl rfl (by decide) ?_;refine A_ rfl rfl rfl (by decide) ?_;refine Zv (I_ rfl rfl) ?_;have c7:=Zj i;subst c7;refine Ze [(0,_),(19,_),(20,_),(62,_)] ?_;refine p_ (λa ha=>⟨c6,_,ha,hB,g,f⟩)
     rintro g0 W ⟨X,O,ha,hB,g,f⟩;refine ap_k ha ?_;refine nx ?_;refine l_ rfl (λR=>?_) (λR=>?_)
     ·rw[if_pos R] at k;refine Zq (Za rfl (Ze [(2,_)] (nx (j_ (y_ (W_ (y_ (y_ (W_ ?_)))))))));refine bg_ ?_;have c8:=Zj k;subst c8;refine λa ha=>⟨_,b0,?_⟩;refine D_ (P:=wQ_) (vs:=[.bool true]) yu_ ⟨rfl,trivial⟩ ?_ a ha;exact⟨_,_,rfl,g,f,hB⟩
     ·replace k:=ZF R k;refine g_ (nx ?_);obtain⟨J,a6,k⟩:=a_ k;obtain⟨c9,S,k⟩:=a_ k;refine ZW (Bf:=λG H=>Bs oo G w H∧Bz w 14 G H b 85 [ZI pp.Labels,ZI pp.Degree,s,x,ZI pq.Labels,ZI pq.Degree,u,A,O]∧Oz w 3 13 G H O V.2) [(0,_),(19,_),(20,_)] (Zrg 63 12) [[],[],[1],[2],[3],[],[5],[6],[7],[8],[9],[4,10]] (Zcn 12) (Zt9 12) (Zt0 12) [999] [.inl (ZP b),.inl (ZP b),.inl (ZP b),.inl (.pointer (some ⟨b,0+8,none⟩)),.inl O,.inl (ZP b),.inl (ZP b),.inl (.pointer (some ⟨b,0+8,none⟩)),.inl O,.inl (ZI (V.2.length:Int)),.inl (ZI J),.inl (prev O J.toNat)] ⟨hB,g,f⟩ trivial ?_ ?_
      ·exact⟨Dp (h_ rfl),Dp (h_ rfl),Dp (bH_ rfl),Dp (m_ rfl xh_ rfl wY_),Dq λh=>e_ rfl xa_ (h.2.1.cell rfl),Dp (h_ rfl),Dp (bH_ rfl),Dp (m_ rfl xh_ rfl wY_),Dq λh=>e_ rfl xa_ (h.2.1.cell rfl),Dq λh=>bC_ rfl h.2.2 wR_,Dp (bs_ rfl rfl a6),Dq λh=>rX_ h.2.2 S rfl rfl wR_ wS_,trivial⟩
      rintro _ rfl a1 g1 g2 ha ⟨hB,g,f⟩-;refine aH_ ha ?_;refine Zv (bH_ rfl) (Zv (m_ rfl xh_ rfl wY_) ?_);have D:=f.pre S;refine Z_ trivial ?_;refine bl_ g rfl rfl (of_decide_eq_true rfl) wY_ D.cells1 D.one1 ?_;intro d0 T d1;obtain⟨D,hB⟩:=ZS d1 (A2 D hB);replace T:Bz w 14 a1 d0 b 85 [ZI pp.Labels,ZI pp.Degree,s,x,ZI pq.Labels,ZI pq.Degree,u,A,prev O J.toNat]:=T;refine Ze [(0,ZP b),(19,ZI pq.Labels),(20,ZI d)] (x_ (nx (d_ (Zv (C_ rfl rfl (F_ (by omega) (by omega))) (Zm rfl (Ze [(0,_),(19,_),(20,_)] (u_ ?_)))))));have d2:=Zj k;subst d2;refine Zk [(0,_),(19,_),(20,_)] ?_;intro a ha;exact⟨_,(by rw[<-e0];omega),d+1,c9,prev O J.toNat,a1,b0,rfl,by omega,ha,hB,T,D⟩
    ·have d3:=bu_ U a9;refine J_ ha ?_;refine Zq (Zv (r_ rfl rfl) (Ze [(0,_),(19,_),(20,_),(21,_)] (nx (c_ ?_))));refine G_ (Zb (decide_eq_false U)) ?_;refine s_ ?_;refine n_ (n_ (N_ ?_));refine p_ ?_;refine Zk [] ?_;intro a ha;exact⟨B,C,m,d3,ha,hB,hb,L⟩
   ·rintro a q ⟨B,C,m,rfl,ha,hB,hb,L⟩;dsimp only at hF;refine ap_k ha ?_;refine Zn (Za rfl (Ze [(2,_)] (nx (j_ ?_))));have d4:=Zj hF;subst d4;refine Zr yu_ [.bool false] ?_;exact⟨_,_,rfl,hb,L,hB⟩
   ·rintro a q ⟨r',rfl,d5⟩;dsimp only at hF;have d6:=Zj hF;subst d6;exact d5
end
section
set_option maxRecDepth 100000
set_option maxHeartbeats 2000000
open Go.RowKit
def dV_(fuel:Nat)(d:b_)(f:b_):Option Bool:=
  (db_ fuel d)>>=λa=>
  (
    if a then
      (db_ fuel f)>>=λb=>
      if b then
        some (d.Degree==f.Degree)
      else
        some false
    else
      some false)>>=λc=>
  some c
def lU_(w:World)(r:Bool):Ending->World->Prop:=λe w'=>e=.returned (.bool r)∧Keeps w w'
theorem lV_(fuel:Nat)(w:World)(N:List Value)(k:b_)(T:Rp.rd zt w N k)(O:List Value)(m:b_)(U:Rp.rd zt w O m)(r:Bool)(hF:dV_ fuel k m=some r):
    Calls wQ_ 85 #[.agg N.toArray,.agg O.toArray] w (lU_ w r):=by
 unfold dV_ at hF;obtain⟨P,Q,rfl,V,W⟩:=T;obtain⟨R,S,rfl,X,Y⟩:=U;have hB:Bs (λ_=>1) (col (λ_=>1)) w w:=Bs.start _ _;refine i_ (n:=18) (vs:=[.agg #[ZI k.Labels,ZI k.Degree,P,Q],.agg #[ZI m.Labels,ZI m.Degree,R,S]]) Tryz.func85 rfl rfl ?_;refine Zq (Zo ?_);refine as_ (o:=(col (λ_=>1))) w.heap.size 11 hB.keeps.size (cs:=[ZI k.Labels,ZI k.Degree,P,Q]) rfl rfl ?_;intro Z a0 B g C;replace hB:=hB.stp C;refine Zo ?_;refine as_ (o:=Z) w.heap.size 12 hB.keeps.size (cs:=[ZI m.Labels,ZI m.Degree,R,S]) rfl rfl ?_;intro q D E i F;obtain⟨g,hB⟩:=ZS F (A2 g hB);refine Za rfl (Ze [(2,_),(3,_)] (Zn (Zv (E_ rfl wX_ wU_ rfl g.cells) ?_)));obtain⟨u,v,hF⟩:=a_ hF;refine Zo ?_;refine o_ (fn_ fuel D _ k (⟨_,_,rfl,V.keep hB.keeps,W.keep hB.keeps⟩) u v) xE_ ⟨rfl,trivial⟩ ?_;rintro a1 j ⟨rfl,G⟩;have H:=G.stp 999 q;refine⟨_,rfl,?_⟩;obtain⟨g,i,hB⟩:=ZS H (A3 g i hB);refine Zm rfl ?_;obtain⟨s,c,hF⟩:=a_ hF;refine bc_ 10 (λI x=>Fr I 18 [(17,.bool s)]∧Keeps j x) ?_ ?_;all_goals simp only[List.take_succ_cons,List.take_zero,List.drop_succ_cons,List.drop_zero]
 ·have kp:Keeps j j:=Keeps.refl _;rcases Bool.eq_false_or_eq_true (u) with f|f
  ·rw[if_pos f] at c;refine q_ (E_ rfl wX_ wU_ rfl i.cells) (by decide) ⟨_,rfl,Zb f⟩ ?_;obtain⟨y,z,c⟩:=a_ c;refine cJ_ (by decide) ⟨_,rfl,Zb f⟩ ?_;refine o_ (fn_ fuel j _ m (⟨_,_,rfl,X.keep hB.keeps,Y.keep hB.keeps⟩) y z) xE_ ⟨rfl,trivial⟩ ?_;rintro a2 a3 ⟨rfl,A⟩;have J:=A.stp 999 q;refine⟨_,rfl,?_⟩;obtain⟨g,i⟩:=ZS J (A2 g i);replace kp:=Keeps.trans kp A;refine Zv (P_ (Zb f) rfl) (Zm rfl ?_);rcases Bool.eq_false_or_eq_true (y) with b|b
   ·rw[if_pos b] at c;refine q_ (m_ rfl wW_ rfl wS_) (by decide) ⟨_,rfl,Zb b⟩ (q_ (e_ rfl wT_ (g.cell rfl)) (by decide) ⟨_,rfl,Zb b⟩ (q_ (m_ rfl wW_ rfl wS_) (by decide) ⟨_,rfl,Zb b⟩ (q_ (e_ rfl wT_ (i.cell rfl)) (by decide) ⟨_,rfl,Zb b⟩ (q_ (cD_ rfl rfl) (by decide) ⟨_,rfl,Zb b⟩ (Zv (P_ (Zb b) rfl) ?_)))));have d:=Zj c;refine Ze [(17,_)] ?_;subst d;refine p_ (λa ha=>⟨ha,kp⟩)
   ·replace c:=ZF b c;refine A_ rfl rfl (by rw[b];rfl) (by decide) ?_;refine A_ rfl rfl (by rw[b];rfl) (by decide) ?_;refine A_ rfl rfl (by rw[b];rfl) (by decide) ?_;refine A_ rfl rfl (by rw[b];rfl) (by decide) ?_;refine A_ rfl rfl (by rw[b];rfl) (by decide) ?_;refine Zv (I_ (Zb b) rfl) ?_;have d:=Zj c;refine Ze [(17,_)] ?_;subst d;refine p_ (λa ha=>⟨ha,kp⟩)
  ·replace c:=ZF f c;refine A_ rfl rfl (by rw[f];rfl) (by decide) ?_;refine A_ rfl rfl (by rw[f];rfl) (by decide) ?_;refine Zv (I_ (Zb f) rfl) (Zm rfl ?_);refine A_ rfl rfl rfl (by decide) ?_;refine A_ rfl rfl rfl (by decide) ?_;refine A_ rfl rfl rfl (by decide) ?_;refine A_ rfl rfl rfl (by decide) ?_;refine A_ rfl rfl rfl (by decide) ?_;refine Zv (I_ rfl rfl) ?_;have d:=Zj c;refine Ze [(17,_)] ?_;subst d;refine p_ (λa ha=>⟨ha,kp⟩)
 rintro a4 x ⟨ha,K⟩;have L:=K.stp 999 q;replace hB:=hB.stp L;refine aH_ ha ?_;refine Za rfl (Ze [(4,_)] (nx (j_ ?_)));have M:=Zj hF;subst M;refine Zr Tryz.results85 [.bool s] ?_;exact⟨rfl,hB.keeps⟩
def cq_(fuel:Nat)(c:b_)(d:b_):Option ((List Int)×Bool):=
  (dV_ fuel c d)>>=λb=>
  if !b then
    some ([],false)
  else
    (aV_ fuel c d [])>>=λa=>
    if !a.1 then
      some ([],false)
    else
      some (a.2,true)
def jt_(oo:Tg)(t:Nat)(w:World)(r:Yl×Bool):Ending->World->Prop:=λe w'=>∃(a:Value)(o':Tg),e=.returned (.tuple #[a,.bool r.2])∧Ow w.heap.size 3 t o' w' a r.1∧Keeps w w'∧∀b,b<w.heap.size->o' b=oo b
theorem jg_(fuel:Nat)(w:World)(oo:Tg)(t:Nat)(ht:2<=t)(R:List Value)(a:b_)(X:Rp.rd zt w R a)(S:List Value)(b:b_)(Y:Rp.rd zt w S b)(r:Yl×Bool)(hF:cq_ fuel a b=some r):
    Calls wQ_ 56 #[.agg R.toArray,.agg S.toArray] w (jt_ oo t w r):=by
 unfold cq_ at hF;obtain⟨k,m,rfl,T,U⟩:=X;obtain⟨q,s,rfl,V,W⟩:=Y;have hB:Bs oo (col oo) w w:=Bs.start _ _;refine i_ (n:=22) (vs:=[.agg #[ZI a.Labels,ZI a.Degree,k,m],.agg #[ZI b.Labels,ZI b.Degree,q,s]]) Tryz.func56 rfl rfl ?_;generalize col oo=o at*;refine Zq (Zo ?_);refine as_ (o:=o) w.heap.size 11 hB.keeps.size (cs:=[ZI a.Labels,ZI a.Degree,k,m]) rfl rfl ?_;intro Z a0 u c D;replace hB:=hB.stp D;refine Zo ?_;refine as_ (o:=Z) w.heap.size 12 hB.keeps.size (cs:=[ZI b.Labels,ZI b.Degree,q,s]) rfl rfl ?_;intro f E v d F;obtain⟨c,hB⟩:=ZS F (A2 c hB);refine Za rfl (Za rfl (Ze [(2,_),(3,_)] (nx (c_ (Zq (Zv (E_ rfl wX_ wU_ rfl c.cells) (Zv (E_ rfl wX_ wU_ rfl d.cells) ?_)))))));obtain⟨x,y,hF⟩:=a_ hF;refine Zo ?_;refine o_ (lV_ fuel E _ a (⟨_,_,rfl,T.keep hB.keeps,U.keep hB.keeps⟩) _ b (⟨_,_,rfl,V.keep hB.keeps,W.keep hB.keeps⟩) x y) Tryz.call85 ⟨rfl,rfl,trivial⟩ ?_;rintro a1 a2 ⟨rfl,G⟩;have H:=G.stp 999 f;refine⟨_,rfl,?_⟩;obtain⟨c,d,hB⟩:=ZS H (A3 c d hB);refine Zv (aI_ rfl) (Ze [(2,_),(3,_),(10,_)] (nx ?_));refine l_ rfl (λg=>?_) (λg=>?_)
 ·rw[if_pos g] at hF;refine Zq (Za rfl (Za rfl (Ze [(4,_),(5,_)] (nx (j_ (y_ ?_))))));have I:=Zj hF;subst I;refine Zr yw_ [.slice none 0 0,.bool false] ?_;exact⟨_,rt oo f w.heap.size 9 t,rfl,Ow.nil _ _ _ _ _,hB.keeps,am_ _ _ _ _ _⟩
 ·replace hF:=ZF g hF;refine g_ (Zn (Zv (E_ rfl wX_ wU_ rfl c.cells) (Zv (E_ rfl wX_ wU_ rfl d.cells) (Zv (ba_ (vs:=[(0,.agg #[ZI a.Labels,ZI a.Degree,k,m]),(1,.agg #[ZI b.Labels,ZI b.Degree,q,s])]) (cs:=[ZI a.Labels,ZI a.Degree,k,m,ZI b.Labels,ZI b.Degree,q,s,.slice none 0 0]) ⟨rfl,rfl,rfl,rfl,trivial⟩ (by kernel_rfl)) (Zo ?_)))));refine as_ (o:=f) w.heap.size 14 hB.keeps.size (cs:=[ZI a.Labels,ZI a.Degree,k,m,ZI b.Labels,ZI b.Degree,q,s,.slice none 0 0]) rfl rfl ?_;intro J K i L M;replace hB:=hB.stp M;refine Za rfl (Ze [(6,_)] (nx (c_ (Zq (Zm rfl ?_)))));obtain⟨z,A,hF⟩:=a_ hF;refine Zo ?_;refine o_ (kh_ fuel w K oo J hB a b k T m U q V s W i _ [] L (Ow.nil _ _ _ _ _) z A) Ab_ ⟨rfl,trivial⟩ ?_;rintro a3 a4 ⟨B,C,rfl,N,O,hB⟩;refine⟨_,rfl,?_⟩;refine Zv (aI_ rfl) (Ze [(6,_),(17,_)] (nx ?_));refine l_ rfl (λj=>?_) (λj=>?_)
  ·rw[if_pos j] at hF;refine Zq (Za rfl (Za rfl (Ze [(4,_),(5,_)] (nx (j_ (y_ ?_))))));have P:=Zj hF;subst P;refine Zr yw_ [.slice none 0 0,.bool false] ?_;exact⟨_,rt oo B w.heap.size 9 t,rfl,Ow.nil _ _ _ _ _,hB.keeps,am_ _ _ _ _ _⟩
  ·replace hF:=ZF j hF;refine g_ (Zn (Zm rfl (Zv (bH_ rfl) (Zv (m_ rfl xh_ rfl wY_) (Zv (e_ rfl xa_ (N.cell rfl)) (Za rfl (Za rfl (Ze [(4,_),(5,_)] (nx (j_ ?_))))))))));have Q:=Zj hF;subst Q;refine Zr yw_ [C,.bool true] ?_;exact⟨_,rt oo B w.heap.size 13 t,rfl,O.rt hB (by decide) t,hB.keeps,am_ _ _ _ _ _⟩
end
section
set_option maxRecDepth 100000
set_option maxHeartbeats 2000000
open Go.RowKit
theorem lv_:Inf wQ_ 41 (.slice none 0 0) 1 24:=by unfold Inf;kernel_rfl
def bE_(fuel:Nat)(j:b_)(a:List Int):Int->(List (List Int))->Option (Lp (List (List Int)) (List (List Int)) ((List (List Int))×Bool)):=λ(b:Int)(s:List (List Int))=>
  (ck (b+1))>>=λf=>
  (cut a b f)>>=λg=>
  (cut a b a.length)>>=λi=>
  (ej_ fuel j g i)>>=λc=>
  if c.2 then
    (push s c.1)>>=λd=>
    some (.out d)
  else
    some (.go s)
def cj_(fuel:Nat)(d:b_):Int->(List Int)->(List (List Int))->Option (Lp (List (List Int)) (List (List Int)) ((List (List Int))×Bool)):=λ(f:Int)(a:List Int)(s:List (List Int))=>
  ck (a.length:Int)>>=λ_=>
  (forN (bE_ fuel d a) ((a.length:Int)).toNat 0 s)>>=λb=>
  match b with
  | .inl c=>
    some (.go c)
  | .inr _=>none
def dg_(fuel:Nat)(b:b_):Option ((List (List Int))×Bool):=
  (db_ fuel b)>>=λc=>
  if !c then
    some ([],false)
  else
    (forI (cj_ fuel b) b.Nodes 0 [])>>=λd=>
    match d with
    | .inl a=>
      if decide ((a.length:Int)<(b.Nodes.length:Int)) then
        some ([],false)
      else
        some (a,true)
    | .inr _=>none
def kg_(oo:Tg)(t:Nat)(w:World)(r:Yk×Bool):Ending->World->Prop:=λe w'=>∃(a:Value)(c:List Hv)(o':Tg),e=.returned (.tuple #[a,.bool r.2])∧Ow w.heap.size 41 t o' w' a c∧Rws w.heap.size 3 (t+1) o' w' c r.1∧Keeps w w'∧∀b,b<w.heap.size->o' b=oo b
theorem kj_(fuel:Nat)(w:World)(oo:Tg)(t:Nat)(ht:2<=t)(i4:List Value)(d:b_)(l6:Rp.rd zt w i4 d)(r:Yk×Bool)(hF:dg_ fuel d=some r):
    Calls wQ_ 57 #[.agg i4.toArray] w (kg_ oo t w r):=by
 unfold dg_ at hF;obtain⟨u,a5,rfl,b6,i5⟩:=l6;have hB:Bs oo (col oo) w w:=Bs.start _ _;refine i_ (n:=52) (vs:=[.agg #[ZI d.Labels,ZI d.Degree,u,a5]]) Tryz.func57 rfl rfl ?_;generalize col oo=o at*;refine Zq (Zo ?_);refine as_ (o:=o) w.heap.size 11 hB.keeps.size (cs:=[ZI d.Labels,ZI d.Degree,u,a5]) rfl rfl ?_;intro b7 l7 m C l8;replace hB:=hB.stp l8;refine Za rfl (Za rfl (Ze [(1,_)] (nx (c_ (Zq (Zv (E_ rfl wX_ wU_ rfl C.cells) ?_))))));obtain⟨b8,b9,hF⟩:=a_ hF;refine Zo ?_;refine o_ (fn_ fuel l7 _ d (⟨_,_,rfl,b6.keep hB.keeps,i5.keep hB.keeps⟩) b8 b9) xE_ ⟨rfl,trivial⟩ ?_;rintro l9 c0 ⟨rfl,h1⟩;have h2:=h1.stp 999 b7;refine⟨_,rfl,?_⟩;obtain⟨C,hB⟩:=ZS h2 (A2 C hB);refine Zv (aI_ rfl) (Ze [(1,_),(12,_)] (nx ?_));refine l_ rfl (λb0=>?_) (λb0=>?_)
 ·rw[if_pos b0] at hF;refine Zq (Za rfl (Za rfl (Ze [(2,_),(3,_)] (nx (j_ (y_ ?_))))));have h3:=Zj hF;subst h3;refine Zr yx_ [.slice none 0 0,.bool false] ?_;exact⟨_,[],rt2 oo b7 w.heap.size 9 8 t,rfl,Ow.nil _ _ _ _ _,Rws.nil _ _ _ _ _,hB.keeps,fA_ _ _ _ _ _ _⟩
 ·replace hF:=ZF b0 hF;refine g_ (Zn (Za rfl (Ze [(1,_),(4,_)] (nx (c_ (Zq (Zv (m_ rfl wW_ rfl wZ_) (Zv (e_ rfl xb_ (C.cell rfl)) (Zv (B_ rfl b6 wV_) (Zm rfl (Ze [(1,_),(4,_),(14,_),(15,_),(16,_)] (nx ?_))))))))))));have h4:Oz w 41 13 b7 c0 (.slice none 0 0) ([]:List Hv):=Ow.nil _ _ _ _ _;have h5:Rq w 3 14 b7 c0 [] ([]:Yk):=Rws.nil _ _ _ _ _;obtain⟨c1,c2,hF⟩:=a_ hF;refine v_ (λa E=>∃I i J q,c1=.inl I∧Fr a 52 [(1,ZP m),(4,i)]∧Bs oo q w E∧Oz w 41 13 q E i J∧Rq w 3 14 q E J I∧Bz w 11 q E m 28 [ZI d.Labels,ZI d.Degree,u,a5]) (λ_ _=>False) ?_ ?_ ?_
  ·refine f_ ?_;refine w_ (λ(K:Nat) a E=>∃(b:Int),∃I i J q,forI (cj_ fuel d) (d.Nodes.drop b.toNat) b I=some c1∧(d.Nodes.drop b.toNat).length=K∧0<=b∧Fr a 52 [(1,ZP m),(4,i),(14,u),(15,ZI (d.Nodes.length:Int)),(16,ZI b)]∧Bs oo q w E∧Oz w 41 13 q E i J∧Rq w 3 14 q E J I∧Bz w 11 q E m 28 [ZI d.Labels,ZI d.Degree,u,a5]) _ (λa ha=>⟨0,[],.slice none 0 0,[],b7,c2,rfl,Int.le_refl 0,ha.sb,hB,h4,h5,C⟩) ?_;rintro K32 a E ⟨b,I,i,J,q,c3,h6,h7,ha,hB,R,S,C⟩;by_cases a0:b<(d.Nodes.length:Int)
   ·obtain⟨k,m0,c4,M,h8⟩:=R_ h7 a0 c3;have hle:=b6.len_le;dsimp only[cj_] at M;refine J_ ha ?_;refine Zq (Zv (r_ rfl rfl) (Ze [(1,_),(4,_),(14,_),(15,_),(16,_),(17,_)] (nx (c_ ?_))));refine L_ (Zb (decide_eq_true a0)) ?_;refine g_ (nx (c_ (f_ (Zq (Zo ?_)))));refine wf_atZ b6 c4 hB rfl rfl wV_ wY_ ?_;intro m1 m2 m3 h9 i0;obtain⟨y,rfl,b1⟩:=i0;refine Zv (e_ rfl xa_ (k_ h9)) (Za rfl (Ze [(1,_),(4,_),(6,_),(14,_),(15,_),(16,_)] (Zn (Zm rfl (Zv (B_ rfl b1 wR_) (Zm rfl (Ze [(1,_),(4,_),(6,_),(14,_),(15,_),(16,_),(21,_),(22,_)] (nx ?_))))))));obtain⟨m4,i1,M⟩:=a_ M;obtain⟨-,h54a,h54b⟩:=bV_ i1;obtain⟨c5,c6,M⟩:=a_ M;refine v_ (λa F=>∃G f A B,c5=.inl G∧Fr a 52 [(1,ZP m),(4,f),(14,u),(15,ZI (d.Nodes.length:Int)),(16,ZI b)]∧Bs oo B w F∧Oz w 41 13 B F f A∧Rq w 3 14 B F A G∧Bz w 11 B F m 28 [ZI d.Labels,ZI d.Degree,u,a5]) (λ_ _=>False) ?_ ?_ ?_
    ·refine f_ ?_;refine w_ (λ(K:Nat) a F=>∃(g:Int),∃G f A B,forN (bE_ fuel d k) ((k.length:Int)-g).toNat g G=some c5∧((k.length:Int)-g).toNat=K∧0<=g∧Fr a 52 [(1,ZP m),(4,f),(6,y),(14,u),(15,ZI (d.Nodes.length:Int)),(16,ZI b),(21,ZI (k.length:Int)),(22,ZI g)]∧Bs oo B w F∧Oz w 41 13 B F f A∧Rq w 3 14 B F A G∧Bz w 11 B F m 28 [ZI d.Labels,ZI d.Degree,u,a5]) _ (λa ha=>⟨0,I,i,J,q,(by rw[Int.sub_zero];exact c6),rfl,Int.le_refl 0,ha.sb,hB,R,S,C⟩) ?_;rintro K59 a F ⟨g,G,f,A,B,c7,i2,m5,ha,hB,L,x,C⟩;by_cases a1:g<(k.length:Int)
     ·obtain⟨m6,s,c8⟩:=bv_ a1 c7;dsimp only[bE_] at s;refine J_ ha ?_;refine Zq (Zv (r_ rfl rfl) (Ze [(1,_),(4,_),(6,_),(14,_),(15,_),(16,_),(21,_),(22,_),(23,_)] (nx (c_ ?_))));refine L_ (Zb (decide_eq_true a1)) ?_;refine g_ (nx (c_ (f_ (Zq (Zm rfl (Za rfl (Ze [(1,_),(4,_),(6,_),(7,_),(14,_),(15,_),(16,_),(21,_),(22,_)] (nx (c_ ?_)))))))));obtain⟨i3,c9,s⟩:=a_ s;obtain⟨b2,d0,s⟩:=a_ s;obtain⟨b3,d1,s⟩:=a_ s;obtain⟨D,d2,s⟩:=a_ s;refine ZW (Bf:=λg9 h0=>Bs oo g9 w h0∧Oz w 41 13 g9 h0 f A∧Rq w 3 14 g9 h0 A G∧Bz w 11 g9 h0 m 28 [ZI d.Labels,ZI d.Degree,u,a5]) [(1,_),(4,_),(6,_),(7,_),(14,_),(15,_),(16,_),(21,_),(22,_)] (Zrg 26 10++[25,36,37,8]) [[],[],[],[],[3],[1,2,4],[],[],[6,7],[0,5,8],[9],[10],[10],[11]] (Zcn 14) (Zt9 14) [0,0,0,0,0,0,0,0,0,15,15,15,0,15] [999] [.inl (.agg #[ZI d.Labels,ZI d.Degree,u,a5]),.inl y,.inl (ZI g),.inl (ZI g),.inl (ZI i3),.inr (λv o a2=>RdL zt w v b2),.inl y,.inl (ZI g),.inr (λv o a2=>RdL zt w v b3),.inr (λv o a2=>∃a3,v=.tuple #[a3,.bool D.2]∧Oz w 3 15 o a2 a3 (D.1:Yl)),.inr (λv o a2=>∃a3,v=.tuple #[a3,.bool D.2]∧Oz w 3 15 o a2 a3 (D.1:Yl)),.inr (λv o a2=>Oz w 3 15 o a2 v (D.1:Yl)),.inl (.bool D.2),.inr (λv o a2=>Oz w 3 15 o a2 v (D.1:Yl))] ⟨hB,L,x,C⟩ ⟨λ_ _ _ _ _ _ a4 hb h hs=>h,λ_ _ _ _ _ _ a4 hb h hs=>h,λ_ _ _ _ _ _ a4 hb ⟨a3,e,b4⟩ hs=>⟨a3,e,b4.stp hs a4.1 (Ne.symm hb)⟩,λ_ _ _ _ _ _ a4 hb ⟨a3,e,b4⟩ hs=>⟨a3,e,b4.stp hs a4.1 (Ne.symm hb)⟩,λ_ _ _ _ _ _ a4 hb h hs=>h.stp hs a4.1 (Ne.symm hb),λ_ _ _ _ _ _ a4 hb h hs=>h.stp hs a4.1 (Ne.symm hb),trivial⟩ ?_ ?_
      ·refine⟨Dq λh=>E_ rfl wX_ wU_ rfl h.2.2.2.cells,Dp (h_ rfl),Dp (h_ rfl),Dp (h_ rfl),Dp (C_ rfl rfl c9),?_,Dp (h_ rfl),Dp (h_ rfl),?_,?_,?_,?_,?_,?_,trivial⟩
       ·rintro m7 m8 m9 ha- -;refine Zs ha ?_;refine kJ_ b1 d0 rfl rfl rfl wR_ wS_ ?_;intro i6 d3;exact⟨_,Stp.refl _ _ _,d3⟩
       ·rintro i7 i8 i9 ha- -;refine Zs ha ?_;refine kJ_ b1 d1 rfl rfl rfl wR_ wS_ ?_;intro j0 d4;exact⟨_,Stp.refl _ _ _,d4⟩
       ·rintro d5 d6 N ha ⟨hB,L,x,C⟩ ⟨O,P,-⟩;replace O:RdL zt w (N.tmps.getD 31 undef) b2:=O;generalize d7:N.tmps.getD 31 undef=j1 at O;have ha:=ha.c d7;replace P:RdL zt w (N.tmps.getD 34 undef) b3:=P;generalize d8:N.tmps.getD 34 undef=j2 at P;have ha:=ha.c d8;refine Zs ha ?_;refine o_ (mw_ fuel d6 d5 15 (by decide) _ d (⟨_,_,rfl,b6.keep hB.keeps,i5.keep hB.keeps⟩) _ b2 (O.keep hB.keeps) _ b3 (P.keep hB.keeps) D d2) Tryz.call87 ⟨rfl,rfl,rfl,trivial⟩ ?_;rintro j3 j4 ⟨j5,j6,rfl,T,d9,e0⟩;have e1:=d9.stp' 999 e0;replace T:=T.mono hB.keeps.size;refine⟨_,rfl,?_⟩;exact⟨_,e1,⟨_,rfl,T⟩⟩
       ·rintro j7 j8 j9 ha- ⟨e2,-⟩;obtain⟨k0,e3,e4⟩:=e2;have ha:=ha.c e3;refine Zs ha ?_;refine M_ (h_ rfl) ?_;exact⟨_,Stp.refl _ _ _,⟨_,rfl,e4⟩⟩
       ·rintro k1 k2 k3 ha- ⟨e5,-⟩;obtain⟨k4,e6,e7⟩:=e5;have ha:=ha.c e6;refine Zs ha ?_;refine M_ (t_ rfl rfl) ?_;exact⟨_,Stp.refl _ _ _,e7⟩
       ·rintro k5 k6 k7 ha- ⟨e8,-⟩;obtain⟨k8,e9,k9⟩:=e8;have ha:=ha.c e9;refine Zs ha ?_;refine M_ (t_ rfl rfl) ?_;exact Zx rfl
       ·rintro f0 f1 a6 ha- ⟨Q,-⟩;replace Q:Oz w 3 15 f0 f1 (a6.tmps.getD 36 undef) (D.1:Yl):=Q;generalize f2:a6.tmps.getD 36 undef=l0 at Q;have ha:=ha.c f2;refine Zs ha ?_;refine M_ (ao_ rfl) ?_;exact⟨_,Stp.refl _ _ _,Q⟩
      rintro _ rfl U f3 a7 ha ⟨hB,L,x,C⟩ ⟨-,-,-,-,-,j,-⟩;replace j:Oz w 3 15 U f3 (a7.tmps.getD 8 undef) (D.1:Yl):=j;generalize f4:a7.tmps.getD 8 undef=H at j;have ha:=ha.c f4;refine aH_ ha ?_;refine Za rfl (Ze [(1,_),(4,_),(6,_),(8,_),(9,_),(14,_),(15,_),(16,_),(21,_),(22,_)] (Zn (Zm rfl (Ze [(1,_),(4,_),(6,_),(8,_),(14,_),(15,_),(16,_),(21,_),(22,_),(38,_)] (nx ?_)))));refine l_ rfl (λV=>?_) (λV=>?_)
      ·rw[if_pos V] at s;refine Zq (Zm rfl (Zm rfl (Zo ?_)));refine au_ (o:=U) (cs:=[H]) (xs:=([⟨H⟩]:List Hv)) (vs:=[(0,H)]) ⟨_,_,rfl,iG_ j,rfl⟩ rfl ⟨rfl,rfl,trivial⟩ wV_ wY_ Tryz.zeroValue41 (by decide) (fill1 j.cells1) (by simp) ?_;intro l1 l2 l3 f5 f6 l4;obtain⟨L,x,j,C,hB⟩:=ZS f6 (A5 L x j C hB);obtain⟨f7,b5,s⟩:=a_ s;obtain⟨f8,f9⟩:=x.pushV b5 H;refine Zo ?_;refine aT_ L f5 (ai_ f8) (by decide) hB.keeps.size rfl rfl wV_ lv_ rfl (by decide) ?_;intro a8 l5 W X g0;obtain⟨x,j,C,hB⟩:=ZS g0 (A4 x j C hB);have a9:=x.push j (by decide) (by decide);rw[<-f9] at a9;clear x j;have Y:=eO_ 15 14 a8;replace X:=X.rc Y (by decide) (by decide);replace C:=C.rc Y (by decide);replace hB:=hB.rc Y (by decide);generalize mrg 15 14 a8=g1 at*;refine Za rfl (Ze [(1,_),(4,_),(14,_),(15,_),(16,_)] (nx ?_));refine s_ ?_;refine wc_ (by decide) ?_;refine n_ (n_ (N_ ?_));refine p_ ?_;have g2:=Zj s;subst g2;refine Zk [(1,_),(4,_),(14,_),(15,_),(16,_)] ?_;intro a ha;exact⟨f7,W,A++[⟨H⟩],g1,c8,ha,hB,X,a9,C⟩
      ·replace s:=ZF V s;refine g_ (x_ (nx (d_ (Zv (C_ rfl rfl (F_ (by omega) (by omega))) (Zm rfl (Ze [(1,_),(4,_),(6,_),(14,_),(15,_),(16,_),(21,_),(22,_)] (u_ ?_)))))));have g3:=Zj s;subst g3;refine Zk [(1,_),(4,_),(6,_),(14,_),(15,_),(16,_),(21,_),(22,_)] ?_;intro a ha;exact⟨_,(by rw[<-i2];omega),g+1,G,f,A,U,c8,rfl,by omega,ha,hB,L,x,C⟩
     ·have g4:=bu_ a1 c7;refine J_ ha ?_;refine Zq (Zv (r_ rfl rfl) (Ze [(1,_),(4,_),(6,_),(14,_),(15,_),(16,_),(21,_),(22,_),(23,_)] (nx (c_ ?_))));refine G_ (Zb (decide_eq_false a1)) ?_;refine s_ ?_;refine n_ (n_ (N_ ?_));refine p_ ?_;refine Zk [(1,_),(4,_),(14,_),(15,_),(16,_)] ?_;intro a ha;exact⟨G,f,A,B,g4,ha,hB,L,x,C⟩
    ·rintro a F ⟨G,f,A,B,rfl,ha,hB,L,x,C⟩;dsimp only at M;refine ap_k ha ?_;refine x_ (nx (d_ (Zv (C_ rfl rfl (F_ (by omega) (by omega))) (Zm rfl (Ze [(1,_),(4,_),(14,_),(15,_),(16,_)] (u_ ?_))))));have g5:=Zj M;subst g5;refine Zk [(1,_),(4,_),(14,_),(15,_),(16,_)] ?_;intro a ha;exact⟨_,(by rw[<-h6];simp only[List.length_drop];omega),b+1,G,f,A,B,h8,rfl,by omega,ha,hB,L,x,C⟩
    ·exact λ_ _ h=>h.elim
   ·have g6:=S_ a0 c3;refine J_ ha ?_;refine Zq (Zv (r_ rfl rfl) (Ze [(1,_),(4,_),(14,_),(15,_),(16,_),(17,_)] (nx (c_ ?_))));refine G_ (Zb (decide_eq_false a0)) ?_;refine s_ ?_;refine n_ (n_ (N_ ?_));refine p_ ?_;refine Zk [(1,_),(4,_)] ?_;intro a ha;exact⟨I,i,J,q,g6,ha,hB,R,S,C⟩
  ·rintro a E ⟨I,i,J,q,rfl,ha,hB,R,S,C⟩;dsimp only at hF;refine ap_k ha ?_;refine nx (c_ (Zq (Zm rfl (Zv (B_ rfl (S.z R) wV_) (Zv (m_ rfl wW_ rfl wZ_) (Zv (e_ rfl xb_ (C.cell rfl)) (Zv (B_ rfl b6 wV_) (Zv (r_ rfl rfl) (Ze [(4,_),(50,_)] (nx ?_))))))))));refine l_ rfl (λZ=>?_) (λZ=>?_)
   ·rw[if_pos Z] at hF;refine Zq (Za rfl (Za rfl (Ze [(2,_),(3,_)] (nx (j_ (y_ ?_))))));have g7:=Zj hF;subst g7;refine Zr yx_ [.slice none 0 0,.bool false] ?_;exact⟨_,[],rt2 oo q w.heap.size 9 8 t,rfl,Ow.nil _ _ _ _ _,Rws.nil _ _ _ _ _,hB.keeps,fA_ _ _ _ _ _ _⟩
   ·replace hF:=ZF Z hF;refine g_ (Zn (Zm rfl (Za rfl (Za rfl (Ze [(2,_),(3,_)] (nx (j_ ?_)))))));have g8:=Zj hF;subst g8;refine Zr yx_ [i,.bool true] ?_;exact⟨_,J,rt2 oo q w.heap.size 13 14 t,rfl,R.rt2 hB (by decide) (by decide) t,S.rt2 hB (by decide) (by decide) (by decide) t,hB.keeps,fA_ _ _ _ _ _ _⟩
  ·exact λ_ _ h=>h.elim
end
end Go.Proofs.YtdbbeldgdgonfaaGreat
