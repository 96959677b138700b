/- Part 28 of what this claim rests on (GRf, Rnm, GRg, Lmc), packed by pack.py. -/
import Derived.Test.YtdbbeldgdgonfaaGreatP03
import Derived.Test.YtdbbeldgdgonfaaGreatP04
import Derived.Test.YtdbbeldgdgonfaaGreatP13
import Derived.Test.YtdbbeldgdgonfaaGreatP21
import Derived.Test.YtdbbeldgdgonfaaGreatP27
namespace Go.Proofs.YtdbbeldgdgonfaaGreat
open Tryz renaming prog→tX_, underlying85→ul_, sizeOf41→uf_, isAgg41→ug_, underlying41→tY_, sizeOf28→uc_, underlying28→ud_, sizeOf3→tZ_, isAgg3→ua_, results86→vj_, sizeOf22→ui_, isAgg22→uj_, call119→vk_, call86→wG_, isAgg28→ue_, call43→uM_, results56→vl_
set_option linter.unusedSimpArgs false
set_option linter.unusedVariables false
section
set_option maxRecDepth 100000
set_option maxHeartbeats 2000000
open Go.RowKit
theorem ky_:Inf tX_ 3 (.int .i64 0) 1 8:=by unfold Inf;kernel_rfl
def bX_(fuel:Nat)(pp:c_)(pq:c_)(self:c_->c_->(List Int)->Option (Bool×List Int)):Int->(List Int)->Option (Lp (List Int) (List Int) (Bool×List Int)):=λ(i:Int)(s:List Int)=>
  (push s i)>>=λa=>
  (
    (bP_ fuel (⟨⟨pp.Labels,pp.Degree,pp.Nodes,pp.Edges⟩,⟨pq.Labels,pq.Degree,pq.Nodes,pq.Edges⟩,a⟩:ch_) pp.Nodes pq.Nodes)>>=λj=>
    if j then
      (bP_ fuel (⟨⟨pp.Labels,pp.Degree,pp.Nodes,pp.Edges⟩,⟨pq.Labels,pq.Degree,pq.Nodes,pq.Edges⟩,a⟩:ch_) pp.Edges pq.Edges)>>=λc=>
      if c then
        (self pp pq a)>>=λd=>
        some d
      else
        some (false,a)
    else
      some (false,a))>>=λb=>
  if b.1 then
    some (.ret (true,b.2))
  else
    (ck ((b.2.length:Int)-1))>>=λf=>
    (cut b.2 0 f)>>=λg=>
    some (.go g)
def aQ_:Nat->c_->c_->(List Int)->Option (Bool×List Int)
  |0=>λ_ _ _=>none
  | fuel+1=>λpp pq ls=>
    if(ls.length:Int)==pp.Labels then
      some (true,ls)
    else
      ck pq.Labels>>=λ_=>
      (forN (bX_ fuel pp pq (aQ_ fuel)) (pq.Labels).toNat 0 ls)>>=λa=>
      match a with
      | .inl b=>
        some (false,b)
      | .inr r'=>some r'
def gz_(oo:Tg)(w:World)(a:Nat)(pp pq:c_)(b c d f:Value)(r:Bool×Yl):Ending->World->Prop:=λe w'=>∃(o':Tg)(v':Value),e=.returned (.bool r.1)∧Bx w.heap.size 14 o' w' a 85 [.int .i64 pp.Labels,.int .i64 pp.Degree,b,c,.int .i64 pq.Labels,.int .i64 pq.Degree,d,f,v']∧Ow w.heap.size 3 13 o' w' v' r.2∧Bs oo o' w w'
theorem jc_(fuel:Nat):∀(w b0:World)(oo o:Tg)(hB:Bs oo o w b0)(pp:c_)(pq:c_)(s:Value)(v:RdL zt w s pp.Nodes)(x:Value)(E:RdL zt w x pp.Edges)(u:Value)(y:RdL zt w u pq.Nodes)(A:Value)(F:RdL zt w A pq.Edges)(d:Nat)(ul:Value)(ls:Yl)(hb:Bx w.heap.size 14 o b0 d 85 [.int .i64 pp.Labels,.int .i64 pp.Degree,s,x,.int .i64 pq.Labels,.int .i64 pq.Degree,u,A,ul])(hl:Ow w.heap.size 3 13 o b0 ul ls)(r:Bool×Yl)(hF:aQ_ fuel pp pq ls=some r),Calls tX_ 86 #[.pointer (some ⟨d,0,none⟩)] b0 (gz_ oo w d pp pq s x u A r):=by
 induction fuel with
 |zero=>
  intro w b0 oo o hB pp pq s v x E u y A F d ul ls hb hl r hF;unfold aQ_ at hF;cases hF
 | succ fuel ih=>
  intro w b0 oo o hB pp pq s v x E u y A F d ul ls hb hl r hF;unfold aQ_ at hF;refine j_ (n:=78) (vs:=[ZP d]) Tryz.func86 rfl rfl ?_;refine Zq (Za rfl (Ze [(0,_)] (nx (b_ (b_ ?_)))));refine ZW (Bf:=λG H=>Bs oo G w H∧Bx w.heap.size 14 G H d 85 [ZI pp.Labels,ZI pp.Degree,s,x,ZI pq.Labels,ZI pq.Degree,u,A,ul]∧Ow w.heap.size 3 13 G H ul ls) [(0,_)] (Zrg 4 10) [[],[0],[1],[2],[3],[],[5],[6],[7],[8]] (Zcn 10) (Zt9 10) (Zt0 10) [999] [.inl (ZP d),.inl (ZP d),.inl (.pointer (some ⟨d,0+8,none⟩)),.inl ul,.inl (ZI (ls.length:Int)),.inl (ZP d),.inl (ZP d),.inl (.pointer (some ⟨d,0+0,none⟩)),.inl (.pointer (some ⟨d,0+0+0,none⟩)),.inl (ZI pp.Labels)] ⟨hB,hb,hl⟩ trivial ?_ ?_
  ·exact⟨Dp (g_ rfl),Dp (by_ rfl),Dp (r_ rfl ul_ rfl uf_),Dq λh=>e_ rfl ug_ (h.2.1.cell rfl),Dq λh=>bt_ rfl h.2.2 tY_,Dp (g_ rfl),Dp (by_ rfl),Dp (r_ rfl ul_ rfl uc_),Dp (r_ rfl ud_ rfl tZ_),Dq λh=>e_ rfl ua_ (h.2.1.cell rfl),trivial⟩
  rintro _ rfl e0 m9 n0 ha ⟨hB,hb,hl⟩-;refine aS_ ha ?_;refine Zv (cD_ rfl rfl) (Ze [(0,_),(14,_)] (nx ?_));refine p_ rfl (λa4=>?_) (λa4=>?_)
  ·rw[if_pos a4] at hF;refine Zq (Za rfl (Ze [(2,_)] (nx (n_ (I_ ?_)))));have e1:=Zj hF;subst e1;refine Zr vj_ [.bool true] ?_;exact⟨_,_,rfl,hb,hl,hB⟩
  ·replace hF:=ZF a4 hF;refine h_ (nx (b_ (Zq (Zm rfl (Zv (by_ rfl) (Zv (r_ rfl ul_ rfl uc_) (Zv (r_ rfl ud_ rfl tZ_) (Zv (e_ rfl ua_ (hb.cell rfl)) (Zm rfl (Ze [(0,_),(19,_),(20,_)] (nx ?_)))))))))));obtain⟨n1,e2,hF⟩:=a_ hF;obtain⟨-,h53a,h53b⟩:=cr_ e2;obtain⟨a5,b1,hF⟩:=a_ hF;refine A_ (λa q=>∃(B:Yl)(C:Value)(m:Tg),a5=.inl B∧Fr a 78 []∧Bs oo m w q∧Bx w.heap.size 14 m q d 85 [ZI pp.Labels,ZI pp.Degree,s,x,ZI pq.Labels,ZI pq.Degree,u,A,C]∧Ow w.heap.size 3 13 m q C B) (λa w'=>∃r',a5=.inr r'∧bodyPost tX_ Tryz.f86 (gz_ oo w d pp pq s x u A r') .ret a w') ?_ ?_ ?_
   ·refine f_ ?_;refine z_ (λ(K:Nat) a q=>∃(g:Int)(B:Yl)(C:Value)(m:Tg),forN (bX_ fuel pp pq (aQ_ fuel)) (pq.Labels-g).toNat g B=some a5∧(pq.Labels-g).toNat=K∧0<=g∧Fr a 78 [(0,ZP d),(19,ZI pq.Labels),(20,ZI g)]∧Bs oo m w q∧Bx w.heap.size 14 m q d 85 [ZI pp.Labels,ZI pp.Degree,s,x,ZI pq.Labels,ZI pq.Degree,u,A,C]∧Ow w.heap.size 3 13 m q C B) _ (λa ha=>⟨0,ls,ul,e0,(by rw[Int.sub_zero];exact b1),rfl,Int.le_refl 0,ha.sb,hB,hb,hl⟩) ?_;rintro K58 a q ⟨g,B,C,m,b2,e3,n2,ha,hB,hb,L⟩;by_cases V:g<pq.Labels
    ·obtain⟨n3,k,b3⟩:=bz_ V b2;dsimp only[bX_] at k;refine O_ ha ?_;refine Zq (Zv (u_ rfl rfl) (Ze [(0,_),(19,_),(20,_),(21,_)] (nx (b_ ?_))));refine M_ (Zb (decide_eq_true V)) ?_;refine h_ (nx (b_ (f_ (Zq (Zm rfl (Za rfl (Ze [(0,_),(3,_),(19,_),(20,_)] (Zn (Zm rfl (Zm rfl (Zv (by_ rfl) (Zv (r_ rfl ul_ rfl uf_) ?_))))))))))));refine Zv (e_ rfl ug_ (hb.cell rfl)) (Zm rfl (Zo ?_));refine aB_ (o:=m) (cs:=[ZI g]) (xs:=([g]:Yl)) (vs:=[(0,ZI g)]) ⟨_,_,rfl,rfl,rfl⟩ rfl ⟨rfl,rfl,trivial⟩ tY_ tZ_ Tryz.zeroValue3 (by decide) (fill1 rfl) (by simp) ?_;intro n4 n5 n6 e4 a6 n7;replace L:=L.stp a6;replace hb:=hb.stp a6;replace hB:=hB.stp a6;obtain⟨M,b4,k⟩:=a_ k;refine Zo ?_;refine bf_ L e4 (ai_ b4) (by decide) hB.keeps.size rfl rfl tY_ ky_ rfl (by decide) ?_;intro e5 n8 N b b5;replace hb:=hb.stp b5;replace hB:=hB.stp b5;refine Zv (by_ rfl) (Zv (r_ rfl ul_ rfl uf_) ?_);refine am_ trivial ?_;refine cu_ hb rfl rfl (of_decide_eq_true rfl) uf_ b.cells1 b.one1 ?_;intro e6 c b6;replace b:=b.stp b6;replace hB:=hB.stp b6;replace c:Bx w.heap.size 14 e5 e6 d 85 [ZI pp.Labels,ZI pp.Degree,s,x,ZI pq.Labels,ZI pq.Degree,u,A,N]:=c;refine Ze [(0,_),(19,_),(20,_)] (nx (b_ (b_ ?_)));obtain⟨W,i,k⟩:=a_ k;refine A_ (λe7 X=>∃(Y:Tg)(O:Value),Fr e7 78 [(0,ZP d),(19,ZI pq.Labels),(20,ZI g),(62,.bool W.1)]∧Bs oo Y w X∧Bx w.heap.size 14 Y X d 85 [ZI pp.Labels,ZI pp.Degree,s,x,ZI pq.Labels,ZI pq.Degree,u,A,O]∧Ow w.heap.size 3 13 Y X O W.2) (λ_ _=>False) ?_ ?_ (λ_ _ h=>h.elim)
     ·obtain⟨I,Z,i⟩:=a_ i;rcases Bool.eq_false_or_eq_true (I) with f|f
      ·rw[if_pos f] at i;refine ZW (Bf:=λG H=>Bs oo G w H∧Bx w.heap.size 14 G H d 85 [ZI pp.Labels,ZI pp.Degree,s,x,ZI pq.Labels,ZI pq.Degree,u,A,N]∧Ow w.heap.size 3 13 G H N M) [(0,_),(19,_),(20,_)] (Zrg 33 24) [[],[],[1],[2],[3],[4],[],[6],[7],[8],[9],[0,5,10],[11],[12],[12],[12,14],[12,15],[12,16],[12,17],[12],[12,19],[12,20],[12,21],[12,22]] (Zcn 24) (Zt9 24) (Zt0 24) [999] [.inl (ZP d),.inl (ZP d),.inl (ZP d),.inl (.pointer (some ⟨d,0+0,none⟩)),.inl (.pointer (some ⟨d,0+0+2,none⟩)),.inl s,.inl (ZP d),.inl (ZP d),.inl (.pointer (some ⟨d,0+4,none⟩)),.inl (.pointer (some ⟨d,0+4+2,none⟩)),.inl u,.inl (.bool I),.inl (.bool I),.inl (ZP d),.inl (ZP d),.inl (ZP d),.inl (.pointer (some ⟨d,0+0,none⟩)),.inl (.pointer (some ⟨d,0+0+3,none⟩)),.inl x,.inl (ZP d),.inl (ZP d),.inl (.pointer (some ⟨d,0+4,none⟩)),.inl (.pointer (some ⟨d,0+4+3,none⟩)),.inl A] ⟨hB,c,b⟩ trivial ?_ ?_
       ·refine⟨Dp (g_ rfl),Dp (g_ rfl),Dp (by_ rfl),Dp (r_ rfl ul_ rfl uc_),Dp (r_ rfl ud_ rfl ui_),Dq λh=>e_ rfl uj_ (h.2.1.cell rfl),Dp (g_ rfl),Dp (by_ rfl),Dp (r_ rfl ul_ rfl uc_),Dp (r_ rfl ud_ rfl ui_),Dq λh=>e_ rfl uj_ (h.2.1.cell rfl),?_,Dp (g_ rfl),?_,?_,?_,?_,?_,?_,?_,?_,?_,?_,?_,trivial⟩
        ·rintro b7 b8 e8 ha ⟨hB,c,b⟩-;refine Zs ha ?_;refine o_ (el_ fuel b8 d _ (⟨⟨pp.Labels,pp.Degree,pp.Nodes,pp.Edges⟩,⟨pq.Labels,pq.Degree,pq.Nodes,pq.Edges⟩,M⟩:ch_) c.cells ⟨_,_,_,_,_,rfl,v.keep hB.keeps,E.keep hB.keeps,y.keep hB.keeps,F.keep hB.keeps,b.z⟩ _ pp.Nodes (v.keep hB.keeps) _ pq.Nodes (y.keep hB.keeps) I Z) vk_ ⟨rfl,rfl,rfl,trivial⟩ ?_;rintro e9 f0 ⟨rfl,b9⟩;have c0:=b9.stp 999 b7;refine⟨_,rfl,?_⟩;exact⟨_,c0,rfl⟩
        ·rintro f1 f2 f3 ha ⟨hB,c,b⟩-;refine af_ ha (⟨_,rfl,Zb f⟩) ?_;refine l_ (g_ rfl) ?_;exact Zx rfl
        ·rintro f4 f5 f6 ha ⟨hB,c,b⟩-;refine af_ ha (⟨_,rfl,Zb f⟩) ?_;refine l_ (g_ rfl) ?_;exact Zx rfl
        ·rintro f7 f8 f9 ha ⟨hB,c,b⟩-;refine af_ ha (⟨_,rfl,Zb f⟩) ?_;refine l_ (by_ rfl) ?_;exact Zx rfl
        ·rintro g0 g1 g2 ha ⟨hB,c,b⟩-;refine af_ ha (⟨_,rfl,Zb f⟩) ?_;refine l_ (r_ rfl ul_ rfl uc_) ?_;exact Zx rfl
        ·rintro g3 g4 g5 ha ⟨hB,c,b⟩-;refine af_ ha (⟨_,rfl,Zb f⟩) ?_;refine l_ (r_ rfl ud_ rfl ui_) ?_;exact Zx rfl
        ·rintro g6 g7 g8 ha ⟨hB,c,b⟩-;refine af_ ha (⟨_,rfl,Zb f⟩) ?_;refine l_ (e_ rfl uj_ (c.cell rfl)) ?_;exact Zx rfl
        ·rintro g9 h0 h1 ha ⟨hB,c,b⟩-;refine af_ ha (⟨_,rfl,Zb f⟩) ?_;refine l_ (g_ rfl) ?_;exact Zx rfl
        ·rintro h2 h3 h4 ha ⟨hB,c,b⟩-;refine af_ ha (⟨_,rfl,Zb f⟩) ?_;refine l_ (by_ rfl) ?_;exact Zx rfl
        ·rintro h5 h6 h7 ha ⟨hB,c,b⟩-;refine af_ ha (⟨_,rfl,Zb f⟩) ?_;refine l_ (r_ rfl ul_ rfl uc_) ?_;exact Zx rfl
        ·rintro h8 h9 i0 ha ⟨hB,c,b⟩-;refine af_ ha (⟨_,rfl,Zb f⟩) ?_;refine l_ (r_ rfl ud_ rfl ui_) ?_;exact Zx rfl
        ·rintro i1 i2 i3 ha ⟨hB,c,b⟩-;refine af_ ha (⟨_,rfl,Zb f⟩) ?_;refine l_ (e_ rfl uj_ (c.cell rfl)) ?_;exact Zx rfl
       rintro _ rfl Q c1 i4 ha ⟨hB,c,b⟩-;refine aS_ ha ?_;obtain⟨a0,a7,i⟩:=a_ i;refine ct_ (by decide) ⟨_,rfl,Zb f⟩ ?_;refine o_ (el_ fuel c1 d _ (⟨⟨pp.Labels,pp.Degree,pp.Nodes,pp.Edges⟩,⟨pq.Labels,pq.Degree,pq.Nodes,pq.Edges⟩,M⟩:ch_) c.cells ⟨_,_,_,_,_,rfl,v.keep hB.keeps,E.keep hB.keeps,y.keep hB.keeps,F.keep hB.keeps,b.z⟩ _ pp.Edges (E.keep hB.keeps) _ pq.Edges (F.keep hB.keeps) a0 a7) vk_ ⟨rfl,rfl,rfl,trivial⟩ ?_;rintro i5 c2 ⟨rfl,c3⟩;have R:=c3.stp 999 Q;refine⟨_,rfl,?_⟩;replace c:=c.stp R;replace b:=b.stp R;replace hB:=hB.stp R;refine Zv (L_ (Zb f) rfl) (Zm rfl ?_);rcases Bool.eq_false_or_eq_true (a0) with j|j
       ·rw[if_pos j] at i;refine q_ (g_ rfl) (by decide) ⟨_,rfl,Zb j⟩ ?_;obtain⟨a1,a8,i⟩:=a_ i;refine ct_ (by decide) ⟨_,rfl,Zb j⟩ ?_;refine o_ (ih w c2 oo Q hB pp pq s v x E u y A F d N M c b a1 a8) wG_ ⟨rfl,trivial⟩ ?_;rintro i6 i7 ⟨n9,O,rfl,c,b,hB⟩;refine⟨_,rfl,?_⟩;refine Zv (L_ (Zb j) rfl) ?_;have c4:=Zj i;subst c4;refine Ze [(0,_),(19,_),(20,_),(62,_)] ?_;refine s_ (λa ha=>⟨n9,O,ha,hB,c,b⟩)
       ·replace i:=ZF j i;refine v_ rfl rfl (by rw[j];rfl) (by decide) ?_;refine v_ rfl rfl (by rw[j];rfl) (by decide) ?_;refine Zv (G_ (Zb j) rfl) ?_;have c5:=Zj i;subst c5;refine Ze [(0,_),(19,_),(20,_),(62,_)] ?_;refine s_ (λa ha=>⟨Q,_,ha,hB,c,b⟩)
      ·replace i:=ZF f i;refine ZW (Bf:=λG H=>Bs oo G w H∧Bx w.heap.size 14 G H d 85 [ZI pp.Labels,ZI pp.Degree,s,x,ZI pq.Labels,ZI pq.Degree,u,A,N]∧Ow w.heap.size 3 13 G H N M) [(0,_),(19,_),(20,_)] (Zrg 33 24) [[],[],[1],[2],[3],[4],[],[6],[7],[8],[9],[0,5,10],[11],[12],[12],[12],[12],[12],[12],[12],[12],[12],[12],[12]] (Zcn 24) (Zt9 24) (Zt0 24) [999] [.inl (ZP d),.inl (ZP d),.inl (ZP d),.inl (.pointer (some ⟨d,0+0,none⟩)),.inl (.pointer (some ⟨d,0+0+2,none⟩)),.inl s,.inl (ZP d),.inl (ZP d),.inl (.pointer (some ⟨d,0+4,none⟩)),.inl (.pointer (some ⟨d,0+4+2,none⟩)),.inl u,.inl (.bool I),.inl (.bool I),.inl undef,.inl undef,.inl undef,.inl undef,.inl undef,.inl undef,.inl undef,.inl undef,.inl undef,.inl undef,.inl undef] ⟨hB,c,b⟩ trivial ?_ ?_
       ·refine⟨Dp (g_ rfl),Dp (g_ rfl),Dp (by_ rfl),Dp (r_ rfl ul_ rfl uc_),Dp (r_ rfl ud_ rfl ui_),Dq λh=>e_ rfl uj_ (h.2.1.cell rfl),Dp (g_ rfl),Dp (by_ rfl),Dp (r_ rfl ul_ rfl uc_),Dp (r_ rfl ud_ rfl ui_),Dq λh=>e_ rfl uj_ (h.2.1.cell rfl),?_,Dp (g_ rfl),?_,?_,?_,?_,?_,?_,?_,?_,?_,?_,?_,trivial⟩
        ·rintro c6 c7 i8 ha ⟨hB,c,b⟩-;refine Zs ha ?_;refine o_ (el_ fuel c7 d _ (⟨⟨pp.Labels,pp.Degree,pp.Nodes,pp.Edges⟩,⟨pq.Labels,pq.Degree,pq.Nodes,pq.Edges⟩,M⟩:ch_) c.cells ⟨_,_,_,_,_,rfl,v.keep hB.keeps,E.keep hB.keeps,y.keep hB.keeps,F.keep hB.keeps,b.z⟩ _ pp.Nodes (v.keep hB.keeps) _ pq.Nodes (y.keep hB.keeps) I Z) vk_ ⟨rfl,rfl,rfl,trivial⟩ ?_;rintro i9 j0 ⟨rfl,c8⟩;have c9:=c8.stp 999 c6;refine⟨_,rfl,?_⟩;exact⟨_,c9,rfl⟩
        ·rintro j1 j2 j3 ha ⟨hB,c,b⟩-;exact aJ_ ha rfl rfl rfl (by rw[f];rfl) ⟨_,Stp.refl _ _ _,rfl⟩
        ·rintro j4 j5 j6 ha ⟨hB,c,b⟩-;exact aJ_ ha rfl rfl rfl (by rw[f];rfl) ⟨_,Stp.refl _ _ _,rfl⟩
        ·rintro j7 j8 j9 ha ⟨hB,c,b⟩-;exact aJ_ ha rfl rfl rfl (by rw[f];rfl) ⟨_,Stp.refl _ _ _,rfl⟩
        ·rintro k0 k1 k2 ha ⟨hB,c,b⟩-;exact aJ_ ha rfl rfl rfl (by rw[f];rfl) ⟨_,Stp.refl _ _ _,rfl⟩
        ·rintro k3 k4 k5 ha ⟨hB,c,b⟩-;exact aJ_ ha rfl rfl rfl (by rw[f];rfl) ⟨_,Stp.refl _ _ _,rfl⟩
        ·rintro k6 k7 k8 ha ⟨hB,c,b⟩-;exact aJ_ ha rfl rfl rfl (by rw[f];rfl) ⟨_,Stp.refl _ _ _,rfl⟩
        ·rintro k9 l0 l1 ha ⟨hB,c,b⟩-;exact aJ_ ha rfl rfl rfl (by rw[f];rfl) ⟨_,Stp.refl _ _ _,rfl⟩
        ·rintro l2 l3 l4 ha ⟨hB,c,b⟩-;exact aJ_ ha rfl rfl rfl (by rw[f];rfl) ⟨_,Stp.refl _ _ _,rfl⟩
        ·rintro l5 l6 l7 ha ⟨hB,c,b⟩-;exact aJ_ ha rfl rfl rfl (by rw[f];rfl) ⟨_,Stp.refl _ _ _,rfl⟩
        ·rintro l8 l9 m0 ha ⟨hB,c,b⟩-;exact aJ_ ha rfl rfl rfl (by rw[f];rfl) ⟨_,Stp.refl _ _ _,rfl⟩
        ·rintro m1 m2 m3 ha ⟨hB,c,b⟩-;exact aJ_ ha rfl rfl rfl (by rw[f];rfl) ⟨_,Stp.refl _ _ _,rfl⟩
       rintro _ rfl d0 m4 m5 ha ⟨hB,c,b⟩-;refine aS_ ha ?_;refine v_ rfl rfl (by rw[f];rfl) (by decide) ?_;refine Zv (G_ (Zb f) rfl) (Zm rfl ?_);refine v_ rfl rfl rfl (by decide) ?_;refine v_ rfl rfl rfl (by decide) ?_;refine Zv (G_ rfl rfl) ?_;have d1:=Zj i;subst d1;refine Ze [(0,_),(19,_),(20,_),(62,_)] ?_;refine s_ (λa ha=>⟨d0,_,ha,hB,c,b⟩)
     rintro m6 X ⟨Y,O,ha,hB,c,b⟩;refine ap_k ha ?_;refine nx ?_;refine p_ rfl (λS=>?_) (λS=>?_)
     ·rw[if_pos S] at k;refine Zq (Za rfl (Ze [(2,_)] (nx (n_ (I_ (aq_ (I_ (I_ (aq_ ?_)))))))));refine cK_ ?_;have d2:=Zj k;subst d2;refine λa ha=>⟨_,b3,?_⟩;refine N_ (P:=tX_) (vs:=[.bool true]) vj_ ⟨rfl,trivial⟩ ?_ a ha;exact⟨_,_,rfl,c,b,hB⟩
     ·replace k:=ZF S k;refine h_ (nx ?_);obtain⟨J,a9,k⟩:=a_ k;obtain⟨d3,T,k⟩:=a_ k;refine ZW (Bf:=λG H=>Bs oo G w H∧Bx w.heap.size 14 G H d 85 [ZI pp.Labels,ZI pp.Degree,s,x,ZI pq.Labels,ZI pq.Degree,u,A,O]∧Ow w.heap.size 3 13 G H O W.2) [(0,_),(19,_),(20,_)] (Zrg 63 12) [[],[],[1],[2],[3],[],[5],[6],[7],[8],[9],[4,10]] (Zcn 12) (Zt9 12) (Zt0 12) [999] [.inl (ZP d),.inl (ZP d),.inl (ZP d),.inl (.pointer (some ⟨d,0+8,none⟩)),.inl O,.inl (ZP d),.inl (ZP d),.inl (.pointer (some ⟨d,0+8,none⟩)),.inl O,.inl (ZI (W.2.length:Int)),.inl (ZI J),.inl (prev O J.toNat)] ⟨hB,c,b⟩ trivial ?_ ?_
      ·exact⟨Dp (g_ rfl),Dp (g_ rfl),Dp (by_ rfl),Dp (r_ rfl ul_ rfl uf_),Dq λh=>e_ rfl ug_ (h.2.1.cell rfl),Dp (g_ rfl),Dp (by_ rfl),Dp (r_ rfl ul_ rfl uf_),Dq λh=>e_ rfl ug_ (h.2.1.cell rfl),Dq λh=>bt_ rfl h.2.2 tY_,Dp (bE_ rfl rfl a9),Dq λh=>pp_ h.2.2 T rfl rfl tY_ tZ_,trivial⟩
      rintro _ rfl a2 m7 m8 ha ⟨hB,c,b⟩-;refine aS_ ha ?_;refine Zv (by_ rfl) (Zv (r_ rfl ul_ rfl uf_) ?_);have D:=b.pre T;refine am_ trivial ?_;refine cu_ c rfl rfl (of_decide_eq_true rfl) uf_ D.cells1 D.one1 ?_;intro d4 U a3;replace D:=D.stp a3;replace hB:=hB.stp a3;replace U:Bx w.heap.size 14 a2 d4 d 85 [ZI pp.Labels,ZI pp.Degree,s,x,ZI pq.Labels,ZI pq.Degree,u,A,prev O J.toNat]:=U;refine Ze [(0,ZP d),(19,ZI pq.Labels),(20,ZI g)] (y_ (nx (d_ (Zv (C_ rfl rfl (F_ (by omega) (by omega))) (Zm rfl (Ze [(0,_),(19,_),(20,_)] (x_ ?_)))))));have d5:=Zj k;subst d5;refine Zk [(0,_),(19,_),(20,_)] ?_;intro a ha;exact⟨_,(by rw[<-e3];omega),g+1,d3,prev O J.toNat,a2,b3,rfl,by omega,ha,hB,U,D⟩
    ·have d6:=bx_ V b2;refine O_ ha ?_;refine Zq (Zv (u_ rfl rfl) (Ze [(0,_),(19,_),(20,_),(21,_)] (nx (b_ ?_))));refine D_ (Zb (decide_eq_false V)) ?_;refine w_ ?_;refine m_ (m_ (Q_ ?_));refine s_ ?_;refine Zk [] ?_;intro a ha;exact⟨B,C,m,d6,ha,hB,hb,L⟩
   ·rintro a q ⟨B,C,m,rfl,ha,hB,hb,L⟩;dsimp only at hF;refine ap_k ha ?_;refine Zn (Za rfl (Ze [(2,_)] (nx (n_ ?_))));have d7:=Zj hF;subst d7;refine Zr vj_ [.bool false] ?_;exact⟨_,_,rfl,hb,L,hB⟩
   ·rintro a q ⟨r',rfl,d8⟩;dsimp only at hF;have d9:=Zj hF;subst d9;exact d8
end
section
def rowP(x:List Int):Prop:=x≠ []∧x.Pairwise (·<=·)∧(∀y∈x,0<=y)∧x.length<=4
theorem tp_{x:List Int}(h:x≠ [])(h4:x.length<=4):(ck ((x.length:Int)-1))=some ((x.length:Int)-1)∧ix x ((x.length:Int)-1)=some (x.getD (x.length-1) 0):=by
 have hp:0<x.length:=List.length_pos_iff.2 h;refine⟨F_ (by omega) (by omega),?_⟩;rw[show(x.length:Int)-1=((x.length-1:Nat):Int) by omega,ca_,List.getD_eq_getElem?_getD,List.getElem?_eq_getElem (by omega)];rfl
theorem sP_{x f:List Int}(hx:rowP x)(e:x.getD (x.length-1) 0=(f.length:Int)-1):∀y∈x,0<=y∧y<f.length:=λy hy=>by
 have:=oL_ hx.2.1 y hy;have:=hx.2.2.1 y hy;omega
theorem ok_(fuel:Nat)(l m:List (List Int))(r:ch_)(mm nn:Int)(hm:confsB m mm nn=true)(hJ:m.length<=1000000000)(hfu:m.length<fuel)(hl:∀x∈l,rowP x∧(x.length:Int)=mm)(hf:r.perm.length<=1000):
  ∃b,bP_ fuel r l m=some b∧(b=true<->keptP l m r.perm):=by
 obtain⟨z,h1,h2⟩:=eo_ (body:=bJ_ fuel r m ((r.perm.length:Int)-1)) (λx=>x.getD (x.length-1) 0=(r.perm.length:Int)-1∧srt (imgL r.perm x) ∉ m) (λb:Bool=>b=false) l 0 (λx hx j=>by
  obtain⟨hr,hxm⟩:=hl x hx;obtain⟨i1,i2⟩:=tp_ hr.1 hr.2.2.2;unfold bJ_;rw[i1,sb,i2,sb];by_cases e:x.getD (x.length-1) 0=(r.perm.length:Int)-1
  ·have hlen:=fy_ r.perm x;have h4:=hr.2.2.2;have hrg:=sP_ hr e;have hin:=ij_ (ρ:=Bool) (body:=bK_ r) (λj=>imgL r.perm (x.take j)) x (λj y hj=>by
    have hy:=hrg y (List.mem_of_getElem? hj);have hi:ix r.perm y=some (r.perm.getD y.toNat 0):=by
     unfold ix;rw[if_pos hy.1,List.getD_eq_getElem?_getD,List.getElem?_eq_getElem (by omega)];rfl
    unfold bK_;rw[hi,sb];unfold push;rw[if_pos (by rw[fy_,List.length_take];omega),sb,List.take_add_one,hj];simp[imgL])
   rw[List.take_length] at hin;rw[if_neg (by simpa using e)];rw[show imgL r.perm (x.take 0)=([]:List Int) from rfl] at hin;rw[hin,sb];simp only
   rw[jz_ fuel m mm nn hm _ (by rw[hlen];exact hxm) hJ (by omega) hfu,sb];by_cases hh:srt (imgL r.perm x)∈m
   ·exact⟨_,by rw[decide_eq_true hh,if_neg (by simp)],.inl ⟨rfl,λh=>h.2 hh⟩⟩
   ·exact⟨_,by rw[decide_eq_false hh,if_pos (by simp)],.inr ⟨_,rfl,rfl,e,hh⟩⟩
  ·exact⟨_,by rw[if_pos (by simpa using e)],.inl ⟨rfl,λh=>e h.1⟩⟩)
 unfold bP_;rw[F_ (by omega) (by omega),sb,h1,sb];rcases h2 with⟨rfl,hn⟩|⟨b,rfl,rfl,x,hx,e,hh⟩
 ·exact⟨_,rfl,λ_ x hx e=>Classical.byContradiction λhh=>hn x hx ⟨e,hh⟩,λ_=>rfl⟩
 ·exact⟨_,rfl,by simp,λhk=>absurd (hk x hx e) hh⟩
theorem hL_{X:List (List Int)}{m n:Int}(h:confsB X m n=true)(h1:1<=m)(hm:m<=4):∀x∈X,rowP x∧(x.length:Int)=m:=λx hx=>by
 obtain⟨a,b,c⟩:=(fW_ h).1 x hx;exact⟨⟨λe=>by subst e;simp at a;omega,hm_.1 b,λy hy=>(c y hy).1,by omega⟩,a⟩
theorem jl_{X:List (List Int)}{m n:Int}(h:confsB X m n=true)(h1:1<=m)(hn:0<=n):∀x∈X,x≠ []∧x.Pairwise (·<=·)∧∀y∈x,0<=y∧y<(n.toNat:Int):=λx hx=>by
 obtain⟨a,b,c⟩:=(fW_ h).1 x hx;exact⟨λe=>by subst e;simp at a;omega,hm_.1 b,λy hy=>by have:=c y hy;omega⟩
def okI(p q:c_)(f:List Int):Prop:=keptP p.Nodes q.Nodes f∧keptP p.Edges q.Edges f
end
section
set_option maxRecDepth 100000
set_option maxHeartbeats 2000000
open Go.RowKit
def dy_(fuel:Nat)(d:c_)(f:c_):Option Bool:=
  (cL_ fuel d)>>=λa=>
  (
    if a then
      (cL_ fuel f)>>=λb=>
      if b then
        some (d.Degree==f.Degree)
      else
        some false
    else
      some false)>>=λc=>
  some c
def kA_(w:World)(r:Bool):Ending->World->Prop:=λe w'=>e=.returned (.bool r)∧Keeps w w'
theorem kq_(fuel:Nat)(w:World)(N:List Value)(k:c_)(T:Rp.rd zt w N k)(O:List Value)(m:c_)(U:Rp.rd zt w O m)(r:Bool)(hF:dy_ fuel k m=some r):
    Calls tX_ 85 #[.agg N.toArray,.agg O.toArray] w (kA_ w r):=by
 unfold dy_ at hF;obtain⟨P,Q,rfl,V,W⟩:=T;obtain⟨R,S,rfl,X,Y⟩:=U;have hB:Bs (λ_=>1) (col (λ_=>1)) w w:=Bs.start _ _;refine j_ (n:=18) (vs:=[.agg #[ZI k.Labels,ZI k.Degree,P,Q],.agg #[ZI m.Labels,ZI m.Degree,R,S]]) Tryz.func85 rfl rfl ?_;refine Zq (Zo ?_);refine aD_ (o:=(col (λ_=>1))) w.heap.size 11 hB.keeps.size (cs:=[ZI k.Labels,ZI k.Degree,P,Q]) rfl rfl ?_;intro Z a0 E g F;replace hB:=hB.stp F;refine Zo ?_;refine aD_ (o:=Z) w.heap.size 12 hB.keeps.size (cs:=[ZI m.Labels,ZI m.Degree,R,S]) rfl rfl ?_;intro q G H i v;replace g:=g.stp v;replace hB:=hB.stp v;refine Za rfl (Ze [(2,_),(3,_)] (Zn (Zv (H_ rfl ue_ uc_ rfl g.cells) ?_)));obtain⟨x,y,hF⟩:=a_ hF;refine Zo ?_;refine o_ (fu_ fuel G _ k (⟨_,_,rfl,V.keep hB.keeps,W.keep hB.keeps⟩) x y) uM_ ⟨rfl,trivial⟩ ?_;rintro a1 j ⟨rfl,I⟩;have s:=I.stp 999 q;refine⟨_,rfl,?_⟩;replace g:=g.stp s;replace i:=i.stp s;replace hB:=hB.stp s;refine Zm rfl ?_;obtain⟨u,c,hF⟩:=a_ hF;refine aF_ 10 (λJ z=>Fr J 18 [(17,.bool u)]∧Keeps j z) ?_ ?_;all_goals simp only[List.take_succ_cons,List.take_zero,List.drop_succ_cons,List.drop_zero]
 ·have kp:Keeps j j:=Keeps.refl _;rcases Bool.eq_false_or_eq_true (x) with f|f
  ·rw[if_pos f] at c;refine q_ (H_ rfl ue_ uc_ rfl i.cells) (by decide) ⟨_,rfl,Zb f⟩ ?_;obtain⟨A,B,c⟩:=a_ c;refine ct_ (by decide) ⟨_,rfl,Zb f⟩ ?_;refine o_ (fu_ fuel j _ m (⟨_,_,rfl,X.keep hB.keeps,Y.keep hB.keeps⟩) A B) uM_ ⟨rfl,trivial⟩ ?_;rintro a2 a3 ⟨rfl,C⟩;have D:=C.stp 999 q;refine⟨_,rfl,?_⟩;replace g:=g.stp D;replace i:=i.stp D;replace kp:=Keeps.trans kp C;refine Zv (L_ (Zb f) rfl) (Zm rfl ?_);rcases Bool.eq_false_or_eq_true (A) with b|b
   ·rw[if_pos b] at c;refine q_ (r_ rfl ud_ rfl tZ_) (by decide) ⟨_,rfl,Zb b⟩ (q_ (e_ rfl ua_ (g.cell rfl)) (by decide) ⟨_,rfl,Zb b⟩ (q_ (r_ rfl ud_ rfl tZ_) (by decide) ⟨_,rfl,Zb b⟩ (q_ (e_ rfl ua_ (i.cell rfl)) (by decide) ⟨_,rfl,Zb b⟩ (q_ (cD_ rfl rfl) (by decide) ⟨_,rfl,Zb b⟩ (Zv (L_ (Zb b) rfl) ?_)))));have d:=Zj c;refine Ze [(17,_)] ?_;subst d;refine s_ (λa ha=>⟨ha,kp⟩)
   ·replace c:=ZF b c;refine v_ rfl rfl (by rw[b];rfl) (by decide) ?_;refine v_ rfl rfl (by rw[b];rfl) (by decide) ?_;refine v_ rfl rfl (by rw[b];rfl) (by decide) ?_;refine v_ rfl rfl (by rw[b];rfl) (by decide) ?_;refine v_ rfl rfl (by rw[b];rfl) (by decide) ?_;refine Zv (G_ (Zb b) rfl) ?_;have d:=Zj c;refine Ze [(17,_)] ?_;subst d;refine s_ (λa ha=>⟨ha,kp⟩)
  ·replace c:=ZF f c;refine v_ rfl rfl (by rw[f];rfl) (by decide) ?_;refine v_ rfl rfl (by rw[f];rfl) (by decide) ?_;refine Zv (G_ (Zb f) rfl) (Zm rfl ?_);refine v_ rfl rfl rfl (by decide) ?_;refine v_ rfl rfl rfl (by decide) ?_;refine v_ rfl rfl rfl (by decide) ?_;refine v_ rfl rfl rfl (by decide) ?_;refine v_ rfl rfl rfl (by decide) ?_;refine Zv (G_ rfl rfl) ?_;have d:=Zj c;refine Ze [(17,_)] ?_;subst d;refine s_ (λa ha=>⟨ha,kp⟩)
 rintro a4 z ⟨ha,K⟩;have L:=K.stp 999 q;replace hB:=hB.stp L;refine aS_ ha ?_;refine Za rfl (Ze [(4,_)] (nx (n_ ?_)));have M:=Zj hF;subst M;refine Zr Tryz.results85 [.bool u] ?_;exact⟨rfl,hB.keeps⟩
def cd_(fuel:Nat)(c:c_)(d:c_):Option ((List Int)×Bool):=
  (dy_ fuel c d)>>=λb=>
  if !b then
    some ([],false)
  else
    (aQ_ fuel c d [])>>=λa=>
    if !a.1 then
      some ([],false)
    else
      some (a.2,true)
def iq_(oo:Tg)(t:Nat)(w:World)(r:Yl×Bool):Ending->World->Prop:=λe w'=>∃(a:Value)(o':Tg),e=.returned (.tuple #[a,.bool r.2])∧Ow w.heap.size 3 t o' w' a r.1∧Keeps w w'∧∀b,b<w.heap.size->o' b=oo b
theorem hY_(fuel:Nat)(w:World)(oo:Tg)(t:Nat)(ht:2<=t)(R:List Value)(a:c_)(X:Rp.rd zt w R a)(S:List Value)(b:c_)(Y:Rp.rd zt w S b)(r:Yl×Bool)(hF:cd_ fuel a b=some r):
    Calls tX_ 56 #[.agg R.toArray,.agg S.toArray] w (iq_ oo t w r):=by
 unfold cd_ at hF;obtain⟨m,q,rfl,T,U⟩:=X;obtain⟨s,u,rfl,V,W⟩:=Y;have hB:Bs oo (col oo) w w:=Bs.start _ _;refine j_ (n:=22) (vs:=[.agg #[ZI a.Labels,ZI a.Degree,m,q],.agg #[ZI b.Labels,ZI b.Degree,s,u]]) Tryz.func56 rfl rfl ?_;generalize col oo=o at*;refine Zq (Zo ?_);refine aD_ (o:=o) w.heap.size 11 hB.keeps.size (cs:=[ZI a.Labels,ZI a.Degree,m,q]) rfl rfl ?_;intro Z a0 v c F;replace hB:=hB.stp F;refine Zo ?_;refine aD_ (o:=Z) w.heap.size 12 hB.keeps.size (cs:=[ZI b.Labels,ZI b.Degree,s,u]) rfl rfl ?_;intro f G x d y;replace c:=c.stp y;replace hB:=hB.stp y;refine Za rfl (Za rfl (Ze [(2,_),(3,_)] (nx (b_ (Zq (Zv (H_ rfl ue_ uc_ rfl c.cells) (Zv (H_ rfl ue_ uc_ rfl d.cells) ?_)))))));obtain⟨z,A,hF⟩:=a_ hF;refine Zo ?_;refine o_ (kq_ fuel G _ a (⟨_,_,rfl,T.keep hB.keeps,U.keep hB.keeps⟩) _ b (⟨_,_,rfl,V.keep hB.keeps,W.keep hB.keeps⟩) z A) Tryz.call85 ⟨rfl,rfl,trivial⟩ ?_;rintro a1 a2 ⟨rfl,H⟩;have g:=H.stp 999 f;refine⟨_,rfl,?_⟩;replace c:=c.stp g;replace d:=d.stp g;replace hB:=hB.stp g;refine Zv (bo_ rfl) (Ze [(2,_),(3,_),(10,_)] (nx ?_));refine p_ rfl (λi=>?_) (λi=>?_)
 ·rw[if_pos i] at hF;refine Zq (Za rfl (Za rfl (Ze [(4,_),(5,_)] (nx (n_ (I_ ?_))))));have I:=Zj hF;subst I;refine Zr vl_ [.slice none 0 0,.bool false] ?_;exact⟨_,rt oo f w.heap.size 9 t,rfl,Ow.nil _ _ _ _ _,hB.keeps,ac_ _ _ _ _ _⟩
 ·replace hF:=ZF i hF;refine h_ (Zn (Zv (H_ rfl ue_ uc_ rfl c.cells) (Zv (H_ rfl ue_ uc_ rfl d.cells) (Zv (bY_ (vs:=[(0,.agg #[ZI a.Labels,ZI a.Degree,m,q]),(1,.agg #[ZI b.Labels,ZI b.Degree,s,u])]) (cs:=[ZI a.Labels,ZI a.Degree,m,q,ZI b.Labels,ZI b.Degree,s,u,.slice none 0 0]) ⟨rfl,rfl,rfl,rfl,trivial⟩ (by kernel_rfl)) (Zo ?_)))));refine aD_ (o:=f) w.heap.size 14 hB.keeps.size (cs:=[ZI a.Labels,ZI a.Degree,m,q,ZI b.Labels,ZI b.Degree,s,u,.slice none 0 0]) rfl rfl ?_;intro J K j L M;replace hB:=hB.stp M;refine Za rfl (Ze [(6,_)] (nx (b_ (Zq (Zm rfl ?_)))));obtain⟨B,C,hF⟩:=a_ hF;refine Zo ?_;refine o_ (jc_ fuel w K oo J hB a b m T q U s V u W j _ [] L (Ow.nil _ _ _ _ _) B C) wG_ ⟨rfl,trivial⟩ ?_;rintro a3 a4 ⟨D,E,rfl,N,O,hB⟩;refine⟨_,rfl,?_⟩;refine Zv (bo_ rfl) (Ze [(6,_),(17,_)] (nx ?_));refine p_ rfl (λk=>?_) (λk=>?_)
  ·rw[if_pos k] at hF;refine Zq (Za rfl (Za rfl (Ze [(4,_),(5,_)] (nx (n_ (I_ ?_))))));have P:=Zj hF;subst P;refine Zr vl_ [.slice none 0 0,.bool false] ?_;exact⟨_,rt oo D w.heap.size 9 t,rfl,Ow.nil _ _ _ _ _,hB.keeps,ac_ _ _ _ _ _⟩
  ·replace hF:=ZF k hF;refine h_ (Zn (Zm rfl (Zv (by_ rfl) (Zv (r_ rfl ul_ rfl uf_) (Zv (e_ rfl ug_ (N.cell rfl)) (Za rfl (Za rfl (Ze [(4,_),(5,_)] (nx (n_ ?_))))))))));have Q:=Zj hF;subst Q;refine Zr vl_ [E,.bool true] ?_;exact⟨_,rt oo D w.heap.size 13 t,rfl,O.rt hB (by decide) t,hB.keeps,ac_ _ _ _ _ _⟩
end
section
open Classical in
noncomputable def lme(p q:c_)(L:Nat):Nat->List Int->Option (List Int)
  |0,f=>if vmap p q f then some f else none
  |d+1,f=>(List.range L).findSome? λb:Nat=>lme p q L d (f++[(b:Int)])
theorem ho_{p q:c_}{L:Nat}:∀{d:Nat}{f:List Int},(∀g:List Int,g.length=d->(∀y∈g,0<=y∧y<(L:Int))->¬vmap p q (f++g))->lme p q L d f=none
 |0,f,h=>by
  have:=h [] rfl (by simp);rw[List.append_nil] at this;unfold lme;exact if_neg this
 | d+1,f,h=>by
  unfold lme;rw[List.findSome?_eq_none_iff];intro b hb;have hb:=List.mem_range.1 hb;refine ho_ λg hg hr=>?_;have:=h ((b:Int)::g) (by simp[hg]) (λy hy=>by
   rcases List.mem_cons.1 hy with rfl|hy
   ·omega
   ·exact hr y hy)
  simpa using this
theorem hE_{α β:Type}(p:α->Bool)(F:α->Option β)(hF:∀x,p x=false->F x=none):∀xs:List α,(xs.filter p).findSome? F=xs.findSome? F
 |[]=>rfl
 |x::xs=>by
  rw[List.filter_cons];cases h:p x
  ·rw[if_neg (by simp),hE_ p F hF xs,List.findSome?_cons,hF x h]
  ·rw[if_pos rfl,List.findSome?_cons,List.findSome?_cons,hE_ p F hF xs]
theorem iJ_{α β:Type}{F G:α->Option β}:∀{xs:List α},(∀x∈xs,F x=G x)->xs.findSome? F=xs.findSome? G
 |[],_=>rfl
 |x::xs,h=>by
  rw[List.findSome?_cons,List.findSome?_cons,h x (by simp),iJ_ λy hy=>h y (by simp[hy])]
theorem pG_{β:Type}{L N:Nat}(hL:L<=N)(F:Nat->Option β)(hF:∀b,L<=b->F b=none):(List.range N).findSome? F=(List.range L).findSome? F:=by
 obtain⟨k,rfl⟩:∃k,N=L+k:=⟨N-L,by omega⟩;have hz:(List.range k).findSome? (F ∘ λx=>L+x)=none:=List.findSome?_eq_none_iff.2 λb _=>hF _ (Nat.le_add_right L b);rw[List.range_add,List.findSome?_append,List.findSome?_map,hz];simp
theorem rP_{β:Type}{L m:Nat}(h8:L<=8)(hm:∀b,m.testBit b=true->b<L)(F:Int->Option β)(hF:∀b:Nat,b<L->m.testBit b=false->F b=none):(lbs 8 m).findSome? F=(List.range L).findSome? λb:Nat=>F b:=by
 unfold lbs;rw[List.findSome?_map];have h1:((List.range 8).filter λi=>m.testBit i).findSome? (F ∘ λi:Nat=>(i:Int))=((List.range 8).filter λi=>m.testBit i).findSome? λb:Nat=>if b<L then F b else none:=by
  refine iJ_ λb hb=>?_;rw[if_pos (hm b (List.mem_filter.1 hb).2)];rfl
 rw[h1,hE_ (λi=>m.testBit i) _ (λb hb=>by
  by_cases e:b<L
  ·rw[if_pos e];exact hF b e hb
  ·rw[if_neg e]),pG_ h8 _ (λb hb=>if_neg (by omega))]
 exact iJ_ λb hb=>if_pos (List.mem_range.1 hb)
theorem mK_{α ρ:Type}{body:Int->α->Unit->Option (Lp Unit Unit ρ)}(F:α->Option ρ):∀(xs:List α)(k:Int),(∀x∈xs,∀j,body j x ()=some (match F x with|none=> .go ()|some r=> .ret r))->
  forI body xs k ()=some (match xs.findSome? F with|none=> .inl ()|some r=> .inr r)
 |[],k,_=>rfl
 | x::xs,k,h=>by
  have h0:=h x (by simp) k;have ih:=mK_ F xs (k+1) λy hy=>h y (by simp[hy]);rw[List.findSome?_cons];cases hF:F x with
  |none=>
   rw[hF] at h0;simp only[forI,h0];exact ih
  |some r=>
   rw[hF] at h0;simp only[forI,h0]
theorem mI_{σ ρ:Type}{body:Int->σ->Option (Lp σ σ ρ)}(s:σ)(F:Nat->Option ρ)(n:Nat)(h:∀j:Nat,j<n->body (j:Int) s=some (match F j with|none=> .go s|some r=> .ret r)):
  ∀(d j:Nat),j+d=n->forN body d (j:Int) s=some (match (List.range' j d).findSome? F with|none=> .inl s|some r=> .inr r)
 |0,j,hj=>rfl
 | d+1,j,hj=>by
  have h0:=h j (by omega);have ih:=mI_ s F n h d (j+1) (by omega);rw[List.range'_succ,List.findSome?_cons];cases hF:F j with
  |none=>
   rw[hF] at h0;simp only[forN,h0];exact ih
  |some r=>
   rw[hF] at h0;simp only[forN,h0]
theorem tD_{m:Nat}(h:m≠0):∃b,m.testBit b=true:=Nat.exists_testBit_of_ne_zero h
theorem tM_{n:Nat}{S:List Int}(hS:msk n S)(h0:(0:Int) ∉ S){a:Nat}(ha:a<n):∃b,bo S a b:=by
 obtain⟨m,h1,h2,h3⟩:=hS.at ha;have hm:m≠0:=λe=>by subst e;exact h0 (List.mem_of_getElem? h2)
 obtain⟨b,hb⟩:=tD_ hm;exact⟨b,by unfold bo;rw[h3,Int.toNat_natCast];exact hb⟩
theorem qg_{n L:Nat}{x S f:List Int}{G:List Int->Prop}(hx:∀y∈x,0<=y∧y<(n:Int))(hp:1<=x.length)(hS:msk n S)(h0:(0:Int) ∉ S)(hf:f.length=n)(h1:∀a,a<n->∀b,bo S a b->f.getD a 0=(b:Int))
  (hs:∀a b:Nat,(a:Int)∈x->bo S a b->supp L x S G a b):G (imgL f x):=by
 obtain⟨a,ha,hxa,_⟩:=iR_ hx (i:=0) hp;obtain⟨b,hb⟩:=tM_ hS h0 ha;obtain⟨y,hy,hG,_⟩:=hs a b (List.mem_of_getElem? hxa) hb;obtain⟨l1,_,l3⟩:=mz_ hy;have:y=imgL f x:=by
  refine List.ext_getElem (by rw[fy_];simpa using l1) λi i1 i2=>?_;have hi:i<x.length:=by simpa [fy_] using i2
  obtain⟨c,hc,hxc,hxg⟩:=iR_ hx hi;obtain⟨e,he,hye,hbe⟩:=l3 i (by simp) (by simpa using hi);rw[hxg,Int.toNat_natCast] at hbe;have h2:=nW_ (f:=f) hxc;rw[List.getElem?_eq_getElem i2] at h2;rw[Option.some.inj h2,h1 c hc e hbe,<-hye,List.getD_eq_getElem?_getD,List.getElem?_eq_getElem i1];rfl
 rwa [this] at hG
theorem qu_{n L:Nat}{g S:List Int}(h:inS n L g S)(hS:msk n S):(0:Int) ∉ S:=λh0=>by
 obtain⟨a,ha⟩:=List.mem_iff_getElem?.1 h0;have hlt:=(List.getElem?_eq_some_iff.1 ha).1;obtain⟨b,_,_,hb⟩:=h.2 a (by rw[<-hS.1];exact hlt);unfold bo at hb;rw[getD_some ha] at hb;simp at hb
structure Gs (X:B_) (n L:Nat) (f S:List Int):Prop where
  m:msk n S
  st:stab X L S
  nz:(0:Int) ∉ S
  lt:∀a b,bo S a b->b<L
  one:∀a,a<f.length->∀b,bo S a b->f.getD a 0=(b:Int)
  all:∀g:List Int,f.length+g.length=n->(∀y∈g,0<=y∧y<(L:Int))->vmap X.p X.q (f++g)->inS n L (f++g) S
theorem rd_(X:B_){n L D:Nat}(h:Fnd X n L D)(hD1:1<=D):∀(d:Nat)(f S:List Int)(fuel:Nat),f.length+d=n->4000+d<fuel->Gs X n L f S->
  aP_ fuel X f S=some ((lme X.p X.q L d f).getD [],(lme X.p X.q L d f).isSome)
 |0,f,S,fuel,hd,hf,hG=>by
  obtain⟨m,rfl⟩:∃m,fuel=m+1:=⟨fuel-1,by omega⟩;have hv:vmap X.p X.q f:=⟨λx hx=>qg_ (h.cN x hx).2 (by rw[(h.cN x hx).1];exact hD1) hG.m hG.nz (by omega) (λa ha=>hG.one a (by omega)) (hG.st.2 x hx),λx hx=>qg_ (h.cE x hx).2 (by rw[(h.cE x hx).1];decide) hG.m hG.nz (by omega) (λa ha=>hG.one a (by omega)) (hG.st.1 x hx)⟩;have he:lme X.p X.q L 0 f=some f:=by unfold lme;exact if_pos hv
  unfold aP_;rw[if_pos (by rw[h.hn];simp;omega),he];rfl
 | d+1,f,S,fuel,hd,hf,hG=>by
  obtain⟨m,rfl⟩:∃m,fuel=m+1:=⟨fuel-1,by omega⟩;obtain⟨s,hs,hSa,hSg⟩:=hG.m.at (a:=f.length) (by omega);have h8:=h.L8;have n8:=h.n8;have hSl:=hG.m.1;have hst:∀b,s.testBit b=true->b<L:=λb hb=>hG.lt f.length b (by unfold bo;rw[hSg,Int.toNat_natCast];exact hb);have hnone:∀b:Nat,b<L->s.testBit b=false->lme X.p X.q L d (f++[(b:Int)])=none:=λb hb ht=>ho_ λg hg hr hv=>by
   have:=hG.all ((b:Int)::g) (by simp;omega) (λy hy=>by
    rcases List.mem_cons.1 hy with rfl|hy
    ·omega
    ·exact hr y hy) (by simpa using hv)
   obtain⟨c,_,hc,hbo⟩:=this.2 f.length (by omega);rw[List.getD_eq_getElem?_getD,List.getElem?_append_right (Nat.le_refl _)] at hc;simp at hc;have:c=b:=by omega
   subst this;unfold bo at hbo;rw[hSg,Int.toNat_natCast,ht] at hbo;cases hbo
  have hloop:=mK_ (body:=bS_ m X f S (aP_ m)) (λx:Int=>(lme X.p X.q L d (f++[x])).map λg=>(g,true)) (lbs 8 s) 0 (λx hx j=>by
   obtain⟨b,rfl,hb8,hbt⟩:=lx_.1 hx;have hbL:=hst b hbt;have h2:2^b<256:=by
    have:=Nat.pow_le_pow_right (n:=2) (by decide) (show b<=7 by omega);omega
   have hN:=hG.m.set f.length h2;obtain⟨S1,e1,e2,e3⟩:=oI_ X h m (by omega) (S.set f.length ((2^b:Nat):Int)) hN;have hbs:∀c e,bo (S.set f.length ((2^b:Nat):Int)) c e<->if c=f.length then e=b else bo S c e:=λc e=>by
    rw[rr_ (by omega),Nat.testBit_two_pow];by_cases q:c=f.length
    ·rw[if_pos q,if_pos q];simp[eq_comm]
    ·rw[if_neg q,if_neg q]
   have hall:∀g:List Int,(f++[(b:Int)]).length+g.length=n->(∀y∈g,0<=y∧y<(L:Int))->vmap X.p X.q (f++[(b:Int)]++g)->inS n L (f++[(b:Int)]++g) S1:=λg hg hr hv=>by
    rw[List.length_append,List.length_singleton] at hg;have hi:=hG.all ((b:Int)::g) (by simp;omega) (λy hy=>by
     rcases List.mem_cons.1 hy with rfl|hy
     ·omega
     ·exact hr y hy) (by simpa using hv)
    rw[show f++(b:Int)::g=f++[(b:Int)]++g by simp] at hi;refine e2.keep _ hv (sM_ hi λa c ha hc hbo=>(hbs a c).2 ?_);by_cases q:a=f.length
    ·rw[if_pos q];subst q;rw[List.append_assoc,List.getD_eq_getElem?_getD,List.getElem?_append_right (Nat.le_refl _)] at hc;simp at hc;omega
    ·rw[if_neg q];exact hbo
   unfold bS_;rw[fY_ _ (by omega),sb,eq_ (by omega),sb,ca_,hSa,sb,iW_ _ _ _ (by omega),sb,e1,sb];by_cases h0:(0:Int)∈S1
   ·have hno:lme X.p X.q L d (f++[(b:Int)])=none:=ho_ λg hg hr hv=>qu_ (hall g (by simp;omega) hr hv) e2.m h0;rw[if_neg (by simp[h0]),hno];rfl
   ·have hG':Gs X n L (f++[(b:Int)]) S1:=⟨e2.m,e3,h0,λa c hc=>by
     have:=(hbs a c).1 (e2.sub a c hc);by_cases q:a=f.length
     ·rw[if_pos q] at this;omega
     ·rw[if_neg q] at this;exact hG.lt a c this,λa ha c hc=>by
     rw[List.length_append,List.length_singleton] at ha;have:=(hbs a c).1 (e2.sub a c hc);by_cases q:a=f.length
     ·rw[if_pos q] at this;subst q;rw[List.getD_eq_getElem?_getD,List.getElem?_append_right (Nat.le_refl _)];simp;omega
     ·rw[if_neg q] at this;have:=hG.one a (by omega) c this;rw[List.getD_eq_getElem?_getD,List.getElem?_append_left (by omega),<-List.getD_eq_getElem?_getD];exact this,hall⟩
    have ih:=rd_ X h hD1 d (f++[(b:Int)]) S1 m (by simp;omega) (by omega) hG';have hpush:push f (b:Int)=some (f++[(b:Int)]):=by unfold push;rw[if_pos (by omega)]
    rw[if_pos (by simp[h0]),fY_ _ (by omega),sb,hpush,sb,ih,sb];cases lme X.p X.q L d (f++[(b:Int)]) with
    |none=>rfl
    |some g=>rfl)
  unfold aP_;rw[if_neg (by rw[h.hn];simp;omega),ca_,hSa,sb,hh_ s m (by omega),sb,hloop,sb];rw[rP_ h8 hst _ (λb hb ht=>by rw[hnone b hb ht];rfl)];have he:lme X.p X.q L (d+1) f=(List.range L).findSome? λb:Nat=>lme X.p X.q L d (f++[(b:Int)]):=rfl;rw[he];have hmap:∀xs:List Nat,(xs.findSome? λb:Nat=>(lme X.p X.q L d (f++[(b:Int)])).map λg=>(g,true))=(xs.findSome? λb:Nat=>lme X.p X.q L d (f++[(b:Int)])).map λg=>(g,true):=by
   intro xs
   induction xs with
   |nil=>rfl
   |cons x xs ih=>
    rw[List.findSome?_cons,List.findSome?_cons];cases lme X.p X.q L d (f++[(x:Int)]) with
    |none=>exact ih
    |some g=>rfl
  rw[hmap];cases (List.range L).findSome? λb:Nat=>lme X.p X.q L d (f++[(b:Int)]) with
  |none=>rfl
  |some g=>rfl
theorem rx_{l m:List (List Int)}{g h:List Int}(hl:∀x∈l,rowP x)(hp:∃z,g=h++z)(hv:∀x∈l,srt (imgL g x)∈m):keptP l m h:=λx hx e=>by
 have:=hv x hx;obtain⟨z,rfl⟩:=hp;have e2:imgL (h++z) x=imgL h x:=by
  unfold imgL;refine List.map_congr_left λy hy=>?_;have:=sP_ (hl x hx) e y hy;rw[List.getD_eq_getElem?_getD,List.getElem?_append_left (by omega),List.getD_eq_getElem?_getD]
 rwa [e2] at this
structure Tw (p q:c_):Prop where
  pG:probB p=true
  qG:probB q=true
  pN:p.Nodes.length<=100000000
  pE:p.Edges.length<=100000000
  qN:q.Nodes.length<=100000000
  qE:q.Edges.length<=100000000
  D:p.Degree=q.Degree
theorem qI_(p q:c_)(h:Tw p q):∀(d:Nat)(f:List Int)(fuel:Nat),(f.length:Int)+d=p.Labels->200000000+d<fuel->(∀k,k<f.length->okI p q (f.take (k+1)))->
  aQ_ fuel p q f=some (match lme p q q.Labels.toNat d f with|some g=>(true,g)|none=>(false,f))
 |0,f,fuel,hd,hf,hk=>by
  obtain⟨m,rfl⟩:∃m,fuel=m+1:=⟨fuel-1,by omega⟩;obtain⟨g1,g2,g3,g4,g5,g6⟩:=aH_ h.pG;have hv:vmap p q f:=⟨qG_ (n:=f.length) rfl (λx hx=>by have:=jl_ g5 g3 (by omega) x hx;rwa [show(p.Labels.toNat:Int)=f.length by omega] at this) (λk hk'=>(hk k hk').1),qG_ (n:=f.length) rfl (λx hx=>by have:=jl_ g6 (by omega) (by omega) x hx;rwa [show(p.Labels.toNat:Int)=f.length by omega] at this) (λk hk'=>(hk k hk').2)⟩;have he:lme p q q.Labels.toNat 0 f=some f:=by unfold lme;exact if_pos hv
  unfold aQ_;rw[if_pos (by simp;omega),he]
 | d+1,f,fuel,hd,hf,hk=>by
  obtain⟨m,rfl⟩:∃m,fuel=m+1:=⟨fuel-1,by omega⟩;obtain⟨g1,g2,g3,g4,g5,g6⟩:=aH_ h.pG;obtain⟨k1,k2,k3,k4,k5,k6⟩:=aH_ h.qG;have bqN:=h.qN;have bqE:=h.qE;have hD:=h.D;have rN:=hL_ g5 g3 g4;have rE:=hL_ g6 (by omega) (by omega);have hloop:=mI_ (body:=bX_ m p q (aQ_ m)) f (λb:Nat=>(lme p q q.Labels.toNat d (f++[(b:Int)])).map λg=>(true,g)) q.Labels.toNat (λj hj=>by
   have hcut:(ck (((f++[(j:Int)]).length:Int)-1))=some (f.length:Int)∧cut (f++[(j:Int)]) 0 (f.length:Int)=some f:=by
    refine⟨by rw[F_ (by simp<;>omega) (by simp<;>omega),List.length_append,List.length_singleton];(try (congr 1;omega)),?_⟩;unfold cut;rw[if_pos ⟨Int.le_refl 0,by omega,by simp;omega⟩];simp
   have hpush:push f (j:Int)=some (f++[(j:Int)]):=by unfold push;rw[if_pos (by omega)]
   have hlen:(f++[(j:Int)]).length<=1000:=by simp;omega
   unfold bX_;rw[hpush,sb];obtain⟨b1,a1,a2⟩:=ok_ m p.Nodes q.Nodes (⟨⟨p.Labels,p.Degree,p.Nodes,p.Edges⟩,⟨q.Labels,q.Degree,q.Nodes,q.Edges⟩,f++[(j:Int)]⟩:ch_) q.Degree q.Labels k5 (by omega) (by omega) (λx hx=>⟨(rN x hx).1,by rw[(rN x hx).2,hD]⟩) hlen;rw[a1,sb];cases b1
   ·have hno:lme p q q.Labels.toNat d (f++[(j:Int)])=none:=ho_ λg hg hr hv=>by
     have:=a2.2 (rx_ (λx hx=>(rN x hx).1) ⟨g,rfl⟩ hv.1);cases this
    rw[if_neg (by simp),sb,if_neg (by simp),hcut.1,sb,hcut.2,sb,hno];rfl
   ·obtain⟨b2,a3,a4⟩:=ok_ m p.Edges q.Edges (⟨⟨p.Labels,p.Degree,p.Nodes,p.Edges⟩,⟨q.Labels,q.Degree,q.Nodes,q.Edges⟩,f++[(j:Int)]⟩:ch_) 2 q.Labels k6 (by omega) (by omega) (λx hx=>rE x hx) hlen;rw[if_pos rfl,a3,sb];cases b2
    ·have hno:lme p q q.Labels.toNat d (f++[(j:Int)])=none:=ho_ λg hg hr hv=>by
      have:=a4.2 (rx_ (λx hx=>(rE x hx).1) ⟨g,rfl⟩ hv.2);cases this
     rw[if_neg (by simp),sb,if_neg (by simp),hcut.1,sb,hcut.2,sb,hno];rfl
    ·have hok:∀k,k<(f++[(j:Int)]).length->okI p q ((f++[(j:Int)]).take (k+1)):=λk hk'=>by
      by_cases e:k<f.length
      ·rw[List.take_append_of_le_length (by omega)];exact hk k e
      ·rw[List.length_append,List.length_singleton] at hk';rw[List.take_of_length_le (by simp;omega)];exact⟨a2.1 rfl,a4.1 rfl⟩
     have ih:=qI_ p q h d (f++[(j:Int)]) m (by simp;omega) (by omega) hok;rw[if_pos rfl,ih,sb,sb];cases hx:lme p q q.Labels.toNat d (f++[(j:Int)]) with
     |none=>
      simp only[Option.map_none,Bool.false_eq_true,if_false];rw[hcut.1,sb,hcut.2,sb]
     |some g=>rfl) q.Labels.toNat 0 (by omega)
  unfold aQ_;rw[if_neg (by simp;omega),F_ (by omega) (by omega),sb];rw[show((0:Nat):Int)=0 from rfl] at hloop;rw[hloop,sb];have he:lme p q q.Labels.toNat (d+1) f=(List.range q.Labels.toNat).findSome? λb:Nat=>lme p q q.Labels.toNat d (f++[(b:Int)]):=rfl;rw[he,List.range_eq_range'];have hmap:∀xs:List Nat,(xs.findSome? λb:Nat=>(lme p q q.Labels.toNat d (f++[(b:Int)])).map λg=>(true,g))=(xs.findSome? λb:Nat=>lme p q q.Labels.toNat d (f++[(b:Int)])).map λg=>(true,g):=by
   intro xs
   induction xs with
   |nil=>rfl
   |cons x xs ih=>
    rw[List.findSome?_cons,List.findSome?_cons];cases lme p q q.Labels.toNat d (f++[(x:Int)]) with
    |none=>exact ih
    |some g=>rfl
  rw[hmap];cases (List.range' 0 q.Labels.toNat).findSome? λb:Nat=>lme p q q.Labels.toNat d (f++[(b:Int)]) with
  |none=>rfl
  |some g=>rfl
noncomputable def lmapV(p q:c_):List Int×Bool:=if probB p&&probB q&&p.Degree==q.Degree then((lme p q q.Labels.toNat p.Labels.toNat []).getD [],(lme p q q.Labels.toNat p.Labels.toNat []).isSome) else([],false)
theorem sU_(fuel:Nat)(hf:200000000<=fuel)(p q:c_)(pN:p.Nodes.length<=100000000)(pE:p.Edges.length<=100000000)(qN:q.Nodes.length<=100000000)(qE:q.Edges.length<=100000000):
  ia_ fuel p q=some (probB p&&probB q&&p.Degree==q.Degree)∧dy_ fuel p q=some (probB p&&probB q&&p.Degree==q.Degree):=by
 unfold ia_ dy_;simp only[hZ_ fuel (by omega) p (by omega) (by omega),hZ_ fuel (by omega) q (by omega) (by omega),gk_ fuel (by omega) p (by omega) (by omega),gk_ fuel (by omega) q (by omega) (by omega),sb];cases probB p<;>cases probB q<;>exact⟨rfl,rfl⟩
theorem px_(fuel:Nat)(hf:1000000000<=fuel)(p q:c_)(pN:p.Nodes.length<=100000000)(pE:p.Edges.length<=100000000)(qN:q.Nodes.length<=100000000)(qE:q.Edges.length<=100000000):
  ci_ fuel p q=some (lmapV p q)∧cd_ fuel p q=some (lmapV p q):=by
 obtain⟨t1,t2⟩:=sU_ fuel (by omega) p q pN pE qN qE;unfold ci_ cd_ lmapV;rw[t1,t2,sb,sb];cases hc:(probB p&&probB q&&p.Degree==q.Degree)
 ·exact⟨rfl,rfl⟩
 ·rw[Bool.and_eq_true,Bool.and_eq_true,beq_iff_eq] at hc;obtain⟨⟨hp,hq⟩,hD⟩:=hc;have h:Tw p q:=⟨hp,hq,pN,pE,qN,qE,hD⟩;obtain⟨g1,g2,g3,g4,g5,g6⟩:=aH_ hp;obtain⟨k1,k2,k3,k4,k5,k6⟩:=aH_ hq;obtain⟨n,hn⟩:∃n:Nat,p.Labels=(n:Int):=⟨p.Labels.toNat,by omega⟩;obtain⟨L,hL⟩:∃L:Nat,q.Labels=(L:Int):=⟨q.Labels.toNat,by omega⟩;obtain⟨D,hDn⟩:∃D:Nat,q.Degree=(D:Int):=⟨q.Degree.toNat,by omega⟩;simp only[Bool.not_true,Bool.false_eq_true,if_false,if_true];constructor
  ·have hF:Fnd ⟨p,q,retV q.Nodes L D,retV q.Edges L 2⟩ n L D:=⟨hn,hL,by omega,by omega,by omega,by omega,λx hx=>by
    have a1:=jl_ g5 g3 (by omega) x hx;have a2:=(hL_ g5 g3 g4 x hx).2;exact⟨by omega,λy hy=>by have:=a1.2.2 y hy;omega⟩,λx hx=>by
    have a1:=jl_ g6 (by omega) (by omega) x hx;have a2:=(hL_ g6 (by omega) (by omega) x hx).2;exact⟨by omega,λy hy=>by have:=a1.2.2 y hy;omega⟩,pN,pE,rfl,rfl⟩
   have h2L:2^L<=256:=cR_ (by omega);have h2p:1<=2^L:=Nat.one_le_two_pow;have hsets:=bT_ (f:=bi_ p q) (λj=>(List.replicate j (((2^L-1:Nat)):Int),(j:Int))) n (λj hj=>by
    unfold bi_;simp only
    unfold push;rw[hn,hL,if_pos (by simpa using hj),eq_ (by omega),sb,F_ (by omega) (by omega),sb,if_pos (by simp;omega),sb,F_ (by omega) (by omega),sb,List.replicate_succ',show((2^L:Nat):Int)-1=((2^L-1:Nat):Int) by omega];rfl) (by
    unfold bi_;simp only
    rw[hn,if_neg (by simp)]) fuel 0 (by omega) (by omega)
   have hS:msk n (List.replicate n (((2^L-1:Nat)):Int)):=⟨List.length_replicate,λv hv=>by rw[(List.mem_replicate.1 hv).2];omega⟩;have hbo:∀a b,a<n->(bo (List.replicate n (((2^L-1:Nat)):Int)) a b<->b<L):=λa b ha=>by
    unfold bo;rw[List.getD_eq_getElem?_getD,List.getElem?_replicate,if_pos ha,Option.getD_some,Int.toNat_natCast,Nat.testBit_two_pow_sub_one];simp
   have hbn:∀a b,bo (List.replicate n (((2^L-1:Nat)):Int)) a b->b<L:=λa b hb=>by
    by_cases ha:a<n
    ·exact(hbo a b ha).1 hb
    ·unfold bo at hb;rw[List.getD_eq_getElem?_getD,List.getElem?_replicate,if_neg ha] at hb;simp at hb
   obtain⟨S1,e1,e2,e3⟩:=oI_ _ hF fuel (by omega) _ hS;have hall:∀g:List Int,([]:List Int).length+g.length=n->(∀y∈g,0<=y∧y<(L:Int))->vmap p q ([]++g)->inS n L ([]++g) S1:=λg hg hr hv=>by
    refine e2.keep _ hv ⟨by simpa using hg,λa ha=>?_⟩;obtain⟨b,hb,_,hgb⟩:=iR_ hr (i:=a) (by simp only[List.length_nil] at hg;omega);refine⟨b,hb,by simpa using hgb,(hbo a b ha).2 hb⟩
   have hq1:q.Labels.toNat=L:=by omega
   have hp1:p.Labels.toNat=n:=by omega
   rw[hDn,hL,mQ_ fuel (by omega) q.Nodes L D (by omega) (by omega) (by omega),sb,show(2:Int)=((2:Nat):Int) from rfl,mQ_ fuel (by omega) q.Edges L 2 (by omega) (by omega) (by omega),sb];rw[show(([]:List Int),(0:Int))=(List.replicate 0 (((2^L-1:Nat)):Int),((0:Nat):Int)) from rfl,hsets,sb];simp only
   rw[e1,sb,hp1];rw[show((L:Nat):Int).toNat=L from rfl];by_cases h0:(0:Int)∈S1
   ·have hno:lme p q L n []=none:=ho_ λg hg hr hv=>qu_ (hall g (by simpa using hg) hr hv) e2.m h0;rw[if_pos (by simp[h0]),hno];rfl
   ·rw[if_neg (by simp[h0]),rd_ _ hF (by omega) n [] S1 fuel (by simp) (by omega) ⟨e2.m,e3,h0,λa b hb=>hbn a b (e2.sub a b hb),λa ha=>by simp at ha,hall⟩,sb]
  ·rw[qI_ p q h p.Labels.toNat [] fuel (by simp;omega) (by omega) (λk hk=>by simp at hk),sb];cases lme p q q.Labels.toNat p.Labels.toNat [] with
   |none=>rfl
   |some g=>rfl
end
end Go.Proofs.YtdbbeldgdgonfaaGreat
