/- Part 19 of what this claim rests on (Spn, GNw, Dq), packed by pack.py. -/
import Derived.Test.YtdbbeldgdgonfaaGreatP03
import Derived.Test.YtdbbeldgdgonfaaGreatP04
import Derived.Test.YtdbbeldgdgonfaaGreatP13
import Derived.Test.YtdbbeldgdgonfaaGreatP18
namespace Go.Proofs.YtdbbeldgdgonfaaGreat
open Tryz renaming prog→tX_, underlying90→up_, sizeOf28→uc_, underlying28→ud_, sizeOf22→ui_, isAgg22→uj_, underlying22→ub_, sizeOf41→uf_, sizeOf87→uD_, isAgg87→uE_, sizeOf3→tZ_, isAgg3→ua_, underlying41→tY_, isAgg90→uu_, sizeOf90→uv_, call122→uZ_
set_option linter.unusedSimpArgs false
set_option linter.unusedVariables false
section
open Go.RowKit
theorem kZ_(fuel:Nat)(w w1:World)(oo o:Tg)(hB:Bs oo o w w1)(u0:List Value)(p0:B_)(g0:Rp.rd o w1 u0 p0)(u1:Value)(p1:List Bool)(g1:RdL o w1 u1 p1)(u2:Value)(p2:List Int)(g2:RdL o w1 u2 p2)
  (k:Nat) (hk2:2<=k) (hk:k≠13) (u3:Value) (p3:List Int) (g3:Ow w.heap.size 3 k o w1 u3 p3) (u4:Value) (p4:List Int) (g4:RdL o w1 u4 p4) (u5:Value) (p5:List Int) (g5:Ow w.heap.size 3 13 o w1 u5 p5) (r:List Int) (hF:aa_ fuel p0 p1 p2 p3 p4 p5=some r):
  Calls tX_ 122 #[.agg u0.toArray,u1,u2,u3,u4,u5] w1 (dD_ oo o w w1 u5 r):=by
 have rc:=pa_ g3.tagged 0;have hk0:k≠0:=by omega
 refine (hC_ fuel w w1 oo (one u3 0 o) (hB.rc rc hk2) u0 p0 (Rp.rc g0 rc hk0) u1 p1 (g1.rc rc hk0) u2 p2 (g2.rc rc hk0) u3 p3 (Of.rd (Ow.mono (g3.one 0 hk0) (Nat.zero_le _))) u4 p4 (g4.rc rc hk0) u5 p5 (g5.rc rc hk0 (Ne.symm hk)) r hF).mono ?_;rintro e w' ⟨o3,rfl,h1,h2,h3⟩;refine⟨bck o w1 o3,rfl,?_,⟨h2.keeps,λb hb=>?_⟩,⟨h3.os,h3.tape,h3.output,h3.size,λb hb hn=>h3.block b hb ?_,λb hb=>if_pos hb⟩⟩
 ·obtain⟨css,c1,c2,c3,c4⟩:=h1;refine⟨css,c1,c2,λg hg=>?_,c4⟩;have h13:=c3 g hg;unfold bck;split
  ·rename_i hlt;rw[h3.own g hlt] at h13;unfold one at h13;split at h13
   ·cases h13
   ·exact h13
  ·exact h13
 ·show(if b<w1.heap.size then o b else o3 b)=_;rw[if_pos (Nat.lt_of_lt_of_le hb hB.keeps.size)];exact hB.old b hb
 ·unfold one;split
  ·decide
  ·exact hn
end
section
set_option maxRecDepth 100000
set_option maxHeartbeats 2000000
open Go.RowKit
theorem hx_:Inf tX_ 3 (.int .i64 0) 1 8:=by unfold Inf;kernel_rfl
theorem hd_:Inf tX_ 41 (.slice none 0 0) 1 24:=by unfold Inf;kernel_rfl
def aN_(b:List Int):Int->Int->((List Int)×Bool)->Option (Lp ((List Int)×Bool) ((List Int)×Bool) ((List Int)×Bool)):=λ(k:Int)(a:Int)(s:(List Int)×Bool)=>
  (ix s.1 a)>>=λc=>
  (ix b a)>>=λd=>
  (ix s.1 a)>>=λf=>
  if(band c d) !=f then
    (ix s.1 a)>>=λg=>
    (ix b a)>>=λi=>
    (ix s.1 a)>>=λm=>
    (st s.1 a (band g i))>>=λj=>
    some (.go (j,true))
  else
    some (.go (s.1,s.2))
def cj_(b:List Int):Int->Int->((List Int)×Bool)->Option (Lp ((List Int)×Bool) ((List Int)×Bool) ((List Int)×Bool)):=λ(k:Int)(a:Int)(s:(List Int)×Bool)=>
  (ix s.1 a)>>=λc=>
  (ix b a)>>=λd=>
  (ix s.1 a)>>=λf=>
  if(band c d) !=f then
    (ix s.1 a)>>=λg=>
    (ix b a)>>=λi=>
    (ix s.1 a)>>=λm=>
    (st s.1 a (band g i))>>=λj=>
    some (.go (j,true))
  else
    some (.go (s.1,s.2))
def ax_(fuel:Nat)(b:B_):Int->(List Int)->((List Int)×Bool)->Option (Lp ((List Int)×Bool) ((List Int)×Bool) ((List Int)×Bool)):=λ(c:Int)(a:List Int)(s:(List Int)×Bool)=>
  if decide (c<(b.p.Edges.length:Int)) then
    (mk (Rz.z:Int) b.p.Labels)>>=λd=>
    (aa_ fuel b b.edges a s.1 [] d)>>=λf=>
    (forI (aN_ f) a 0 (s.1,s.2))>>=λg=>
    match g with
    | .inl (i,j)=>
      some (.go (i,j))
    | .inr _=>none
  else
    (mk (Rz.z:Int) b.p.Labels)>>=λk=>
    (aa_ fuel b b.nodes a s.1 [] k)>>=λm=>
    (forI (cj_ m) a 0 (s.1,s.2))>>=λn=>
    match n with
    | .inl (q,u)=>
      some (.go (q,u))
    | .inr _=>none
def Z_(fuel:Nat)(d:B_):((List Int)×Bool)->Option (Lp ((List Int)×Bool) ((List Int)×Bool) ((List Int)×Bool)):=λ(s:(List Int)×Bool)=>
  if s.2 then
    (cat ([]:List (List Int)) d.p.Edges)>>=λf=>
    (cat f d.p.Nodes)>>=λg=>
    (forI (ax_ fuel d) g 0 (s.1,false))>>=λa=>
    match a with
    | .inl (b,c)=>
      some (.go (b,c))
    | .inr _=>none
  else
    some (.out (s.1,false))
def bC_(fuel:Nat)(f:B_)(g:List Int):Option ((List Int)×Bool):=
  (da_ g)>>=λc=>
  (loopF (Z_ fuel f) fuel (c,true))>>=λd=>
  match d with
  | .inl (a,i)=>
    (hS_ a 0)>>=λb=>
    some (a, !b)
  | .inr _=>none
def ip_(oo:Tg)(t:Nat)(w:World)(r:Yl×Bool):Ending->World->Prop:=λe w'=>∃(a:Value)(o':Tg),e=.returned (.tuple #[a,.bool r.2])∧Ow w.heap.size 3 t o' w' a r.1∧Keeps w w'∧∀b,b<w.heap.size->o' b=oo b
theorem ft_(fuel:Nat)(w:World)(oo:Tg)(t:Nat)(ht:2<=t)(v9:List Value)(x:B_)(u3:Rp.rd oo w v9 x)(u2:Value)(u4:Yl)(g1:RdL zt w u2 u4)(r:Yl×Bool)(hF:bC_ fuel x u4=some r):
    Calls tX_ 82 #[.agg v9.toArray,u2] w (ip_ oo t w r):=by
 unfold bC_ at hF;replace u3:=Rp.col u3;obtain⟨b9,c0,c2,c3,b8,a4,rfl,J,I,L,M,m,s⟩:=u3;have hB:Bs oo (col oo) w w:=Bs.start _ _;refine j_ (n:=88) (vs:=[.agg #[ZI x.p.Labels,ZI x.p.Degree,b9,c0,ZI x.q.Labels,ZI x.q.Degree,c2,c3,b8,a4],u2]) Tryz.func82 rfl rfl ?_;generalize col oo=o at*;refine Zq (Zo ?_);refine aD_ (o:=o) w.heap.size 30 hB.keeps.size (cs:=[ZI x.p.Labels,ZI x.p.Degree,b9,c0,ZI x.q.Labels,ZI x.q.Degree,c2,c3,b8,a4]) rfl rfl ?_;intro u5 u6 u i d1;replace J:=J.stp d1;replace I:=I.stp d1;replace L:=L.stp d1;replace M:=M.stp d1;replace m:=m.stp d1;replace s:=s.stp d1;replace hB:=hB.stp d1;refine Za rfl (Za rfl (Ze [(1,_),(2,_)] (Zn (Zm rfl ?_))));obtain⟨j5,j6,hF⟩:=a_ hF;refine Zo ?_;refine o_ (er_ u6 u5 31 (by decide) _ u4 (g1.keep hB.keeps) j5 j6) Tryz.call66 ⟨rfl,trivial⟩ ?_;rintro e25 w19 ⟨j,u7,rfl,h8,u8,u9⟩;have d0:=u8.stp' 31 u9;replace h8:=h8.mono hB.keeps.size;refine⟨_,rfl,?_⟩;replace i:=i.stp d0;replace J:=J.stp d0;replace I:=I.stp d0;replace L:=L.stp d0;replace M:=M.stp d0;replace m:=m.stp d0;replace s:=s.stp d0;replace hB:=hB.stp d0;refine Za rfl (Ze [(2,_),(6,_)] (nx (b_ (Zq (Za rfl (Ze [(2,_),(6,_),(7,_)] (nx ?_)))))));obtain⟨j7,j8,hF⟩:=a_ hF;refine A_ (λa b7=>∃(c7:Yl)(d2:Bool)(b0:Tg),j7=.inl (c7,d2)∧Fr a 88 [(6,j)]∧Bs oo b0 w b7∧Ow w.heap.size 3 31 b0 b7 j c7) (λ_ _=>False) ?_ ?_ ?_
 ·refine f_ ?_;refine z_ (λ(K:Nat) a b7=>∃(c7:Yl)(d2:Bool)(b0:Tg),loopF (Z_ fuel x) K (c7,d2)=some j7∧Fr a 88 [(2,ZP u),(6,j),(7,.bool d2)]∧Bs oo b0 w b7∧Ow w.heap.size 3 31 b0 b7 j c7∧Bx w.heap.size 30 b0 b7 u 90 [ZI x.p.Labels,ZI x.p.Degree,b9,c0,ZI x.q.Labels,ZI x.q.Degree,c2,c3,b8,a4]∧RdL b0 b7 b9 (x.p.Nodes:Yk)∧RdL b0 b7 c0 (x.p.Edges:Yk)∧RdL b0 b7 c2 (x.q.Nodes:Yk)∧RdL b0 b7 c3 (x.q.Edges:Yk)∧RdL b0 b7 b8 (x.nodes:List Bool)∧RdL b0 b7 a4 (x.edges:List Bool)) fuel (λa ha=>⟨j5,true,u7,j8,ha.sb,hB,h8,i,J,I,L,M,m,s⟩) ?_;rintro K36 a b7 ⟨c7,d2,b0,v0,ha,hB,c1,i,J,I,L,M,m,s⟩;obtain⟨K40,q37,e41,c4,j9⟩:=ad_ v0;dsimp only[Z_] at c4;refine O_ ha ?_;refine b_ (Zq (Zm rfl (Ze [(2,_),(6,_),(16,_)] (nx ?_))));refine p_ rfl (λh9=>?_) (λh9=>?_)
  ·rw[if_pos h9] at c4;refine h_ (nx (f_ (Zq (Za rfl (Ze [(2,_),(6,_),(7,_)] (nx (b_ ?_)))))));obtain⟨k0,k1,c4⟩:=a_ c4;obtain⟨A,k2,c4⟩:=a_ c4;refine ZW (Bf:=λW X=>Bs oo W w X∧Ow w.heap.size 3 31 W X j c7∧Bx w.heap.size 30 W X u 90 [ZI x.p.Labels,ZI x.p.Degree,b9,c0,ZI x.q.Labels,ZI x.q.Degree,c2,c3,b8,a4]∧RdL W X b9 (x.p.Nodes:Yk)∧RdL W X c0 (x.p.Edges:Yk)∧RdL W X c2 (x.q.Nodes:Yk)∧RdL W X c3 (x.q.Edges:Yk)∧RdL W X b8 (x.nodes:List Bool)∧RdL W X a4 (x.edges:List Bool)) [(2,_),(6,_),(7,_)] (Zrg 17 11) [[],[],[1],[2],[0,3],[],[5],[6],[4,7],[8],[]] [some 4,none,none,none,some 8,none,none,none,none,none,none] [999,999,999,999,32,999,999,999,32,999,999] [32,0,0,0,32,0,0,0,32,0,0] [32,999] [.inr (λv o c5=>Ow w.heap.size 41 32 o c5 v (([]:Yk):Yk)),.inl (.pointer (some ⟨u,0+0,none⟩)),.inl (.pointer (some ⟨u,0+0+3,none⟩)),.inl c0,.inr (λv o c5=>Ow w.heap.size 41 32 o c5 v k0),.inl (.pointer (some ⟨u,0+0,none⟩)),.inl (.pointer (some ⟨u,0+0+2,none⟩)),.inl b9,.inr (λv o c5=>Ow w.heap.size 41 32 o c5 v A),.inl (ZI (A.length:Int)),.inl (ZI 0)] ⟨hB,c1,i,J,I,L,M,m,s⟩ ⟨λ_ _ _ _ _ _ c6 hb h hs=>h.stp hs c6.1 (Ne.symm hb),λ_ _ _ _ _ _ c6 hb h hs=>h.stp hs c6.1 (Ne.symm hb),λ_ _ _ _ _ _ c6 hb h hs=>h.stp hs c6.1 (Ne.symm hb),trivial⟩ ?_ ?_
   ·refine⟨?_,Dp (r_ rfl up_ rfl uc_),Dp (r_ rfl ud_ rfl ui_),Dq λh=>e_ rfl uj_ (h.2.2.1.cell rfl),?_,Dp (r_ rfl up_ rfl uc_),Dp (r_ rfl ud_ rfl ui_),Dq λh=>e_ rfl uj_ (h.2.2.1.cell rfl),?_,?_,Dp (g_ rfl),trivial⟩
    ·rintro v1 w61 a62 ha ⟨hB,c1,i,J,I,L,M,m,s⟩-;refine Zs ha ?_;refine oY_ w.heap.size 32 hB.keeps.size (o:=v1) (cs:=[]) (xs:=([]:Yk)) (vs:=[]) rfl rfl trivial ub_ uf_ Tryz.zeroValue41 (by decide) fill0 (by simp) ?_;intro o63 w64 v65 v2 v3;exact⟨_,v3,v2⟩
    ·rintro v4 v5 k3 ha ⟨hB,c1,i,J,I,L,M,m,s⟩ ⟨f8,-⟩;replace f8:Ow w.heap.size 41 32 v4 v5 (k3.tmps.getD 17 undef) (([]:Yk):Yk):=f8;generalize v6:k3.tmps.getD 17 undef=v84 at f8;have ha:=ha.c v6;refine Zs ha ?_;refine bf_ f8 I k1 (by decide) hB.keeps.size rfl rfl ub_ hd_ rfl (by decide) ?_;intro o86 w87 v88 v7 v8;exact⟨_,v8,v7⟩
    ·rintro k4 k5 f9 ha ⟨hB,c1,i,J,I,L,M,m,s⟩ ⟨d3,-⟩;replace d3:Ow w.heap.size 41 32 k4 k5 (f9.tmps.getD 21 undef) k0:=d3;generalize k6:f9.tmps.getD 21 undef=w0 at d3;have ha:=ha.c k6;refine Zs ha ?_;refine bf_ d3 J k2 (by decide) hB.keeps.size rfl rfl ub_ hd_ rfl (by decide) ?_;intro w1 w2 w3 k7 k8;exact⟨_,k8,k7⟩
    ·rintro k9 l0 g0 ha ⟨hB,c1,i,J,I,L,M,m,s⟩ ⟨d4,-⟩;replace d4:Ow w.heap.size 41 32 k9 l0 (g0.tmps.getD 25 undef) A:=d4;generalize l1:g0.tmps.getD 25 undef=w4 at d4;have ha:=ha.c l1;refine Zs ha ?_;refine l_ (bt_ rfl d4 ub_) ?_;exact Zx rfl
   rintro _ rfl o123 l2 g2 ha ⟨hB,c1,i,J,I,L,M,m,s⟩ ⟨b,-⟩;replace b:Ow w.heap.size 41 32 o123 l2 (g2.tmps.getD 25 undef) A:=b;generalize l3:g2.tmps.getD 25 undef=g at b;have ha:=ha.c l3;refine aS_ ha ?_;refine Ze [(2,_),(6,_),(7,_),(25,_),(26,_),(27,_)] (nx ?_);obtain⟨g3,i0,c4⟩:=a_ c4;refine A_ (λa R=>∃(a7:Yl)(C:Bool)(F:Tg),g3=.inl (a7,C)∧Fr a 88 [(2,ZP u),(6,j),(7,.bool C)]∧Bs oo F w R∧Ow w.heap.size 3 31 F R j a7∧Bx w.heap.size 30 F R u 90 [ZI x.p.Labels,ZI x.p.Degree,b9,c0,ZI x.q.Labels,ZI x.q.Degree,c2,c3,b8,a4]∧RdL F R b9 (x.p.Nodes:Yk)∧RdL F R c0 (x.p.Edges:Yk)∧RdL F R c2 (x.q.Nodes:Yk)∧RdL F R c3 (x.q.Edges:Yk)∧RdL F R b8 (x.nodes:List Bool)∧RdL F R a4 (x.edges:List Bool)) (λ_ _=>False) ?_ ?_ ?_
   ·refine f_ ?_;refine z_ (λ(K:Nat) a R=>∃(f:Int)(a7:Yl)(C:Bool)(F:Tg),forI (ax_ fuel x) (A.drop f.toNat) f (a7,C)=some g3∧(A.drop f.toNat).length=K∧0<=f∧Fr a 88 [(2,ZP u),(6,j),(7,.bool C),(25,g),(26,ZI (A.length:Int)),(27,ZI f)]∧Bs oo F w R∧Ow w.heap.size 3 31 F R j a7∧Ow w.heap.size 41 32 F R g A∧Bx w.heap.size 30 F R u 90 [ZI x.p.Labels,ZI x.p.Degree,b9,c0,ZI x.q.Labels,ZI x.q.Degree,c2,c3,b8,a4]∧RdL F R b9 (x.p.Nodes:Yk)∧RdL F R c0 (x.p.Edges:Yk)∧RdL F R c2 (x.q.Nodes:Yk)∧RdL F R c3 (x.q.Edges:Yk)∧RdL F R b8 (x.nodes:List Bool)∧RdL F R a4 (x.edges:List Bool)) _ (λa ha=>⟨0,c7,false,o123,i0,rfl,Int.le_refl 0,ha.sb,hB,c1,b,i,J,I,L,M,m,s⟩) ?_;rintro K141 a R ⟨f,a7,C,F,g4,g5,l4,ha,hB,Y,b,i,J,I,L,M,m,s⟩;by_cases d5:f<(A.length:Int)
    ·obtain⟨y,w5,i1,Z,g6⟩:=R_ l4 d5 g4;have hle:=b.len_le;dsimp only[ax_] at Z;refine O_ ha ?_;refine Zq (Zv (u_ rfl rfl) (Ze [(2,_),(6,_),(7,_),(25,_),(26,_),(27,_),(28,_)] (nx (b_ ?_))));refine M_ (Zb (decide_eq_true d5)) ?_;refine h_ (nx (b_ (f_ (Zq (Zm rfl (Zo ?_))))));refine fS_ b i1 rfl rfl ub_ uf_ ?_;intro w6 w7 w8 l5 l6;obtain⟨B,rfl,d⟩:=l6;refine Zv (e_ rfl Tryz.isAgg41 (i_ l5)) (Za rfl (Za rfl (Ze [(2,_),(6,_),(7,_),(8,_),(9,_),(25,_),(26,_),(27,_)] (Zn (Zv (r_ rfl up_ rfl uD_) (Zv (e_ rfl uE_ (i.cell rfl)) (Za rfl (Ze [(2,_),(6,_),(7,_),(8,_),(9,_),(10,_),(25,_),(26,_),(27,_)] (nx (b_ (Zq (Zm rfl ?_))))))))))));refine Zv (r_ rfl up_ rfl uc_) (Zv (r_ rfl ud_ rfl ui_) (Zv (e_ rfl uj_ (i.cell rfl)) (Zv (J_ rfl I ub_) (Zv (u_ rfl rfl) (Ze [(2,_),(6,_),(7,_),(9,_),(10,_),(25,_),(26,_),(27,_),(39,_)] (nx ?_))))));refine p_ rfl (λd8=>?_) (λd8=>?_)
     ·rw[if_pos d8] at Z;refine d_ (Zv (r_ rfl up_ rfl uD_) (Zv (e_ rfl uE_ (i.cell rfl)) (Za rfl (Ze [(2,_),(6,_),(7,_),(9,_),(10,_),(25,_),(26,_),(27,_)] (Zn (Zv (r_ rfl up_ rfl uc_) (Zv (r_ rfl ud_ rfl tZ_) (Zv (e_ rfl ua_ (i.cell rfl)) ?_))))))));obtain⟨l7,i2,Z⟩:=a_ Z;refine Zo ?_;refine hD_ (o:=F) w.heap.size 33 hB.keeps.size i2 rfl rfl tY_ hx_ rfl (by decide) ?_;intro l8 l9 U d9 b1;replace Y:=Y.stp b1;replace d:=d.stp b1;replace s:=s.stp b1;replace b:=b.stp b1;replace i:=i.stp b1;replace J:=J.stp b1;replace I:=I.stp b1;replace L:=L.stp b1;replace M:=M.stp b1;replace m:=m.stp b1;replace hB:=hB.stp b1;refine Za rfl (Ze [(2,_),(6,_),(7,_),(9,_),(10,_),(11,_),(25,_),(26,_),(27,_)] (Zn (Zv (H_ rfl uu_ uv_ rfl i.cells) (Zm rfl (Zm rfl (Zm rfl (Zm rfl ?_)))))));replace Y:=Y.rtg_ne (k:=33) (k':=13) (by decide) (by decide) (by decide);replace d:=d.rtg 33 13 (by decide);replace s:=s.rtg 33 13 (by decide);replace d9:=d9.rtg 13 (by decide);replace b:=b.rtg_ne (k:=33) (k':=13) (by decide) (by decide) (by decide);replace J:=J.rtg 33 13 (by decide);replace I:=I.rtg 33 13 (by decide);replace L:=L.rtg 33 13 (by decide);replace M:=M.rtg 33 13 (by decide);replace m:=m.rtg 33 13 (by decide);replace i:=i.rtg_ne (k:=33) (k':=13) (by decide) (by decide);replace hB:=hB.rtg 33 13 (by decide) (by decide);generalize (rtg 33 13 l8)=m0 at*;obtain⟨c8,i3,Z⟩:=a_ Z;refine Zo ?_;refine o_ (kZ_ fuel w l9 oo m0 hB _ x ⟨_,_,_,_,_,_,rfl,J,I,L,M,m,s⟩ _ x.edges s _ y d 31 (by decide) (by decide) _ a7 Y _ ([]:Yl) (RdL.nil _ _) _ l7 d9 c8 i3) uZ_ ⟨rfl,rfl,rfl,rfl,rfl,rfl,trivial⟩ ?_;rintro w9 x0 ⟨m1,rfl,P,-,b2⟩;refine⟨_,rfl,?_⟩;replace Y:=Y.stp b2;replace d:=d.stp b2;replace s:=s.stp b2;replace b:=b.stp b2;replace J:=J.stp b2;replace I:=I.stp b2;replace L:=L.stp b2;replace M:=M.stp b2;replace m:=m.stp b2;replace i:=i.stp b2;replace hB:=hB.stp b2;refine Ze [(2,_),(6,_),(7,_),(9,_),(11,_),(25,_),(26,_),(27,_)] (Zn (Zm rfl (Zv (J_ rfl d tY_) (Zm rfl (Ze [(2,_),(6,_),(7,_),(11,_),(25,_),(26,_),(27,_),(52,_),(53,_),(54,_)] (nx ?_))))))
      obtain⟨g7,i4,Z⟩:=a_ Z;refine A_ (λa N=>∃(a5:Yl)(a0:Bool)(D:Tg),g7=.inl (a5,a0)∧Fr a 88 [(2,ZP u),(6,j),(7,.bool a0),(25,g),(26,ZI (A.length:Int)),(27,ZI f)]∧Bs oo D w N∧Ow w.heap.size 3 31 D N j a5∧Ow w.heap.size 41 32 D N g A∧Bx w.heap.size 30 D N u 90 [ZI x.p.Labels,ZI x.p.Degree,b9,c0,ZI x.q.Labels,ZI x.q.Degree,c2,c3,b8,a4]∧RdL D N b9 (x.p.Nodes:Yk)∧RdL D N c0 (x.p.Edges:Yk)∧RdL D N c2 (x.q.Nodes:Yk)∧RdL D N c3 (x.q.Edges:Yk)∧RdL D N b8 (x.nodes:List Bool)∧RdL D N a4 (x.edges:List Bool)) (λ_ _=>False) ?_ ?_ ?_
      ·refine f_ ?_;refine z_ (λ(K:Nat) a N=>∃(S:Int)(a5:Yl)(a0:Bool)(D:Tg),forI (aN_ c8) (y.drop S.toNat) S (a5,a0)=some g7∧(y.drop S.toNat).length=K∧0<=S∧Fr a 88 [(2,ZP u),(6,j),(7,.bool a0),(11,U),(25,g),(26,ZI (A.length:Int)),(27,ZI f),(52,B),(53,ZI (y.length:Int)),(54,ZI S)]∧Bs oo D w N∧Ow w.heap.size 3 31 D N j a5∧Ow w.heap.size 3 13 D N U c8∧Ow w.heap.size 41 32 D N g A∧RdL D N B y∧Bx w.heap.size 30 D N u 90 [ZI x.p.Labels,ZI x.p.Degree,b9,c0,ZI x.q.Labels,ZI x.q.Degree,c2,c3,b8,a4]∧RdL D N b9 (x.p.Nodes:Yk)∧RdL D N c0 (x.p.Edges:Yk)∧RdL D N c2 (x.q.Nodes:Yk)∧RdL D N c3 (x.q.Edges:Yk)∧RdL D N b8 (x.nodes:List Bool)∧RdL D N a4 (x.edges:List Bool)) _ (λa ha=>⟨0,a7,C,m1,i4,rfl,Int.le_refl 0,ha.sb,hB,Y,P,b,d,i,J,I,L,M,m,s⟩) ?_;rintro K178 a N ⟨S,a5,a0,D,g8,g9,m2,ha,hB,G,P,b,d,i,J,I,L,M,m,s⟩;by_cases d6:S<(y.length:Int)
       ·obtain⟨a8,x1,i5,a1,h0⟩:=R_ m2 d6 g8;have hle:=d.len_le;dsimp only[aN_] at a1;refine O_ ha ?_;refine Zq (Zv (u_ rfl rfl) (Ze [(2,_),(6,_),(7,_),(11,_),(25,_),(26,_),(27,_),(52,_),(53,_),(54,_),(55,_)] (nx (b_ ?_))));refine M_ (Zb (decide_eq_true d6)) ?_;refine h_ (nx (b_ (f_ (Zq (Zo ?_)))));refine fn_ d i5 rfl rfl tY_ tZ_ ?_;intro x2 x3 x4 m3 m4;cases m4
        refine Zv (e_ rfl ua_ (i_ m3)) (Za rfl (Ze [(2,_),(6,_),(7,_),(11,_),(13,_),(25,_),(26,_),(27,_),(52,_),(53,_),(54,_)] (nx (b_ ?_))));obtain⟨e0,e1,a1⟩:=a_ a1;obtain⟨e2,e3,a1⟩:=a_ a1;obtain⟨h1,e4,a1⟩:=a_ a1;refine ZW (Bf:=λW X=>Bs oo W w X∧Ow w.heap.size 3 31 W X j a5∧Ow w.heap.size 3 13 W X U c8∧Ow w.heap.size 41 32 W X g A∧RdL W X B y∧Bx w.heap.size 30 W X u 90 [ZI x.p.Labels,ZI x.p.Degree,b9,c0,ZI x.q.Labels,ZI x.q.Degree,c2,c3,b8,a4]∧RdL W X b9 (x.p.Nodes:Yk)∧RdL W X c0 (x.p.Edges:Yk)∧RdL W X c2 (x.q.Nodes:Yk)∧RdL W X c3 (x.q.Edges:Yk)∧RdL W X b8 (x.nodes:List Bool)∧RdL W X a4 (x.edges:List Bool)) [(2,_),(6,_),(7,_),(11,_),(13,_),(25,_),(26,_),(27,_),(52,_),(53,_),(54,_)] (Zrg 58 13) [[],[],[0,1],[2],[],[],[4,5],[6],[3,7],[],[],[9,10],[11]] (Zcn 13) (Zt9 13) [0,0,31,0,0,0,13,0,0,0,0,31,0] [999] [.inl j,.inl (ZI a8),.inr (λv o c5=>∃vl,v=adr vl (a8.toNat*Rp.sz Int)∧Ow w.heap.size 3 31 o c5 vl a5),.inl (ZI e0),.inl U,.inl (ZI a8),.inr (λv o c5=>∃vl,v=adr vl (a8.toNat*Rp.sz Int)∧Ow w.heap.size 3 13 o c5 vl c8),.inl (ZI e2),.inl (ZI (band e0 e2)),.inl j,.inl (ZI a8),.inr (λv o c5=>∃vl,v=adr vl (a8.toNat*Rp.sz Int)∧Ow w.heap.size 3 31 o c5 vl a5),.inl (ZI h1)] ⟨hB,G,P,b,d,i,J,I,L,M,m,s⟩ ⟨λ_ _ _ _ _ _ c6 hb ⟨vl,e,h⟩ hs=>⟨vl,e,h.stp hs c6.1 (Ne.symm hb)⟩,λ_ _ _ _ _ _ c6 hb ⟨vl,e,h⟩ hs=>⟨vl,e,h.stp hs c6.1 (Ne.symm hb)⟩,λ_ _ _ _ _ _ c6 hb ⟨vl,e,h⟩ hs=>⟨vl,e,h.stp hs c6.1 (Ne.symm hb)⟩,trivial⟩ ?_ ?_
        ·refine⟨Dp (g_ rfl),Dp (g_ rfl),?_,?_,Dp (g_ rfl),Dp (g_ rfl),?_,?_,Dp (iX_ rfl rfl),Dp (g_ rfl),Dp (g_ rfl),?_,?_,trivial⟩
         ·rintro x5 x6 x7 ha ⟨hB,G,P,b,d,i,J,I,L,M,m,s⟩-;refine Zs ha ?_;refine bI_ G e1 rfl rfl tY_ tZ_ ?_;exact⟨_,Stp.refl _ _ _,⟨_,rfl,G⟩⟩
         ·rintro x8 x9 y0 ha ⟨hB,G,P,b,d,i,J,I,L,M,m,s⟩ ⟨m5,-⟩;obtain⟨y1,m6,m7⟩:=m5;have ha:=ha.c m6;refine Zs ha ?_;refine bq_ m7 e1 rfl rfl ua_ ?_;intro y2 m8;cases m8
          exact Zx rfl
         ·rintro y3 y4 y5 ha ⟨hB,G,P,b,d,i,J,I,L,M,m,s⟩-;refine Zs ha ?_;refine bI_ P e3 rfl rfl tY_ tZ_ ?_;exact⟨_,Stp.refl _ _ _,⟨_,rfl,P⟩⟩
         ·rintro y6 y7 y8 ha ⟨hB,G,P,b,d,i,J,I,L,M,m,s⟩ ⟨m9,-⟩;obtain⟨y9,n0,n1⟩:=m9;have ha:=ha.c n0;refine Zs ha ?_;refine bq_ n1 e3 rfl rfl ua_ ?_;intro z0 n2;cases n2
          exact Zx rfl
         ·rintro z1 z2 z3 ha ⟨hB,G,P,b,d,i,J,I,L,M,m,s⟩-;refine Zs ha ?_;refine bI_ G e4 rfl rfl tY_ tZ_ ?_;exact⟨_,Stp.refl _ _ _,⟨_,rfl,G⟩⟩
         ·rintro z4 z5 z6 ha ⟨hB,G,P,b,d,i,J,I,L,M,m,s⟩ ⟨n3,-⟩;obtain⟨z7,n4,n5⟩:=n3;have ha:=ha.c n4;refine Zs ha ?_;refine bq_ n5 e4 rfl rfl ua_ ?_;intro z8 n6;cases n6
          exact Zx rfl
        rintro _ rfl n7 z9 a265 ha ⟨hB,G,P,b,d,i,J,I,L,M,m,s⟩-;refine aS_ ha ?_;refine Zv (dw_ rfl rfl) (Ze [(2,_),(6,_),(7,_),(11,_),(13,_),(25,_),(26,_),(27,_),(52,_),(53,_),(54,_),(71,_)] (nx ?_));refine p_ rfl (λe5=>?_) (λe5=>?_)
        ·rw[if_pos e5] at a1;refine b_ ?_;obtain⟨n8,e6,a1⟩:=a_ a1;obtain⟨n9,e7,a1⟩:=a_ a1;refine ZW (Bf:=λW X=>Bs oo W w X∧Ow w.heap.size 3 31 W X j a5∧Ow w.heap.size 3 13 W X U c8∧Ow w.heap.size 41 32 W X g A∧RdL W X B y∧Bx w.heap.size 30 W X u 90 [ZI x.p.Labels,ZI x.p.Degree,b9,c0,ZI x.q.Labels,ZI x.q.Degree,c2,c3,b8,a4]∧RdL W X b9 (x.p.Nodes:Yk)∧RdL W X c0 (x.p.Edges:Yk)∧RdL W X c2 (x.q.Nodes:Yk)∧RdL W X c3 (x.q.Edges:Yk)∧RdL W X b8 (x.nodes:List Bool)∧RdL W X a4 (x.edges:List Bool)) [(2,_),(6,_),(11,_),(13,_),(25,_),(26,_),(27,_),(52,_),(53,_),(54,_)] (Zrg 72 8) [[],[],[0,1],[2],[],[],[4,5],[6]] (Zcn 8) (Zt9 8) [0,0,31,0,0,0,13,0] [999] [.inl j,.inl (ZI a8),.inr (λv o c5=>∃vl,v=adr vl (a8.toNat*Rp.sz Int)∧Ow w.heap.size 3 31 o c5 vl a5),.inl (ZI n8),.inl U,.inl (ZI a8),.inr (λv o c5=>∃vl,v=adr vl (a8.toNat*Rp.sz Int)∧Ow w.heap.size 3 13 o c5 vl c8),.inl (ZI n9)] ⟨hB,G,P,b,d,i,J,I,L,M,m,s⟩ ⟨λ_ _ _ _ _ _ c6 hb ⟨vl,e,h⟩ hs=>⟨vl,e,h.stp hs c6.1 (Ne.symm hb)⟩,λ_ _ _ _ _ _ c6 hb ⟨vl,e,h⟩ hs=>⟨vl,e,h.stp hs c6.1 (Ne.symm hb)⟩,trivial⟩ ?_ ?_
         ·refine⟨Dp (g_ rfl),Dp (g_ rfl),?_,?_,Dp (g_ rfl),Dp (g_ rfl),?_,?_,trivial⟩
          ·rintro o281 w282 a283 ha ⟨hB,G,P,b,d,i,J,I,L,M,m,s⟩-;refine Zs ha ?_;refine bI_ G e6 rfl rfl tY_ tZ_ ?_;exact⟨_,Stp.refl _ _ _,⟨_,rfl,G⟩⟩
          ·rintro o286 w287 a288 ha ⟨hB,G,P,b,d,i,J,I,L,M,m,s⟩ ⟨o0,-⟩;obtain⟨v290,o1,o2⟩:=o0;have ha:=ha.c o1;refine Zs ha ?_;refine bq_ o2 e6 rfl rfl ua_ ?_;intro c293 o3;cases o3
           exact Zx rfl
          ·rintro o301 w302 a303 ha ⟨hB,G,P,b,d,i,J,I,L,M,m,s⟩-;refine Zs ha ?_;refine bI_ P e7 rfl rfl tY_ tZ_ ?_;exact⟨_,Stp.refl _ _ _,⟨_,rfl,P⟩⟩
          ·rintro o306 w307 a308 ha ⟨hB,G,P,b,d,i,J,I,L,M,m,s⟩ ⟨o4,-⟩;obtain⟨v310,o5,o6⟩:=o4;have ha:=ha.c o5;refine Zs ha ?_;refine bq_ o6 e7 rfl rfl ua_ ?_;intro c313 o7;cases o7
           exact Zx rfl
         rintro _ rfl o8 w316 a317 ha ⟨hB,G,P,b,d,i,J,I,L,M,m,s⟩-;refine aS_ ha ?_;refine Zv (iX_ rfl rfl) ?_;obtain⟨x322,i6,a1⟩:=a_ a1;refine Zo ?_;refine fs_ G i6 rfl rfl tY_ tZ_ ?_;intro b323 c325 o9 h326 p0;cases p0
         obtain⟨p1,i7,a1⟩:=a_ a1;refine am_ trivial ?_;refine cc_ G o9 i7 rfl (by decide) rfl rfl rfl tZ_ rfl ?_;intro w329 p2 b3;replace P:=P.stp b3;replace b:=b.stp b3;replace d:=d.stp b3;replace i:=i.stp b3;replace J:=J.stp b3;replace I:=I.stp b3;replace L:=L.stp b3;replace M:=M.stp b3;replace m:=m.stp b3;replace s:=s.stp b3;replace hB:=hB.stp b3;refine Ze [(2,ZP u),(6,j),(11,U),(25,g),(26,ZI (A.length:Int)),(27,ZI f),(52,B),(53,ZI (y.length:Int)),(54,ZI S)] (nx (d_ (Za rfl (Ze [(2,ZP u),(6,j),(7,.bool true),(11,U),(25,g),(26,ZI (A.length:Int)),(27,ZI f),(52,B),(53,ZI (y.length:Int)),(54,ZI S)] (y_ (nx (d_ (Zv (C_ rfl rfl (F_ (by omega) (by omega))) (Zm rfl (Ze [(2,_),(6,_),(7,_),(11,_),(25,_),(26,_),(27,_),(52,_),(53,_),(54,_)] (x_ ?_)))))))))));have p3:=Zj a1;subst p3;refine Zk [(2,_),(6,_),(7,_),(11,_),(25,_),(26,_),(27,_),(52,_),(53,_),(54,_)] ?_;intro a ha;exact⟨_,(by rw[<-g9];simp only[List.length_drop];omega),S+1,p1,true,o8,h0,rfl,by omega,ha,hB,p2,P,b,d,i,J,I,L,M,m,s⟩
        ·replace a1:=ZF e5 a1;refine h_ (y_ (nx (d_ (Zv (C_ rfl rfl (F_ (by omega) (by omega))) (Zm rfl (Ze [(2,_),(6,_),(7,_),(11,_),(25,_),(26,_),(27,_),(52,_),(53,_),(54,_)] (x_ ?_)))))));have p4:=Zj a1;subst p4;refine Zk [(2,_),(6,_),(7,_),(11,_),(25,_),(26,_),(27,_),(52,_),(53,_),(54,_)] ?_;intro a ha;exact⟨_,(by rw[<-g9];simp only[List.length_drop];omega),S+1,a5,a0,n7,h0,rfl,by omega,ha,hB,G,P,b,d,i,J,I,L,M,m,s⟩
       ·have p5:=S_ d6 g8;refine O_ ha ?_;refine Zq (Zv (u_ rfl rfl) (Ze [(2,_),(6,_),(7,_),(11,_),(25,_),(26,_),(27,_),(52,_),(53,_),(54,_),(55,_)] (nx (b_ ?_))));refine D_ (Zb (decide_eq_false d6)) ?_;refine w_ ?_;refine m_ (m_ (Q_ ?_));refine s_ ?_;refine Zk [(2,_),(6,_),(7,_),(25,_),(26,_),(27,_)] ?_;intro a ha;exact⟨a5,a0,D,p5,ha,hB,G,b,i,J,I,L,M,m,s⟩
      ·rintro a N ⟨a5,a0,D,rfl,ha,hB,G,b,i,J,I,L,M,m,s⟩;dsimp only at Z;refine ap_k ha ?_;refine y_ (nx (d_ (Zv (C_ rfl rfl (F_ (by omega) (by omega))) (Zm rfl (Ze [(2,_),(6,_),(7,_),(25,_),(26,_),(27,_)] (x_ ?_))))));have p6:=Zj Z;subst p6;refine Zk [(2,_),(6,_),(7,_),(25,_),(26,_),(27,_)] ?_;intro a ha;exact⟨_,(by rw[<-g5];simp only[List.length_drop];omega),f+1,a5,a0,D,g6,rfl,by omega,ha,hB,G,b,i,J,I,L,M,m,s⟩
      ·exact λ_ _ h=>h.elim
     ·replace Z:=ZF d8 Z;refine h_ (Zn (Zv (r_ rfl up_ rfl uc_) (Zv (r_ rfl ud_ rfl tZ_) (Zv (e_ rfl ua_ (i.cell rfl)) ?_))));obtain⟨p7,i8,Z⟩:=a_ Z;refine Zo ?_;refine hD_ (o:=F) w.heap.size 34 hB.keeps.size i8 rfl rfl tY_ hx_ rfl (by decide) ?_;intro p8 p9 V e8 b4;replace Y:=Y.stp b4;replace d:=d.stp b4;replace m:=m.stp b4;replace b:=b.stp b4;replace i:=i.stp b4;replace J:=J.stp b4;replace I:=I.stp b4;replace L:=L.stp b4;replace M:=M.stp b4;replace s:=s.stp b4;replace hB:=hB.stp b4;refine Za rfl (Ze [(2,_),(6,_),(7,_),(9,_),(10,_),(11,_),(25,_),(26,_),(27,_)] (Zn (Zv (H_ rfl uu_ uv_ rfl i.cells) (Zm rfl (Zm rfl (Zm rfl (Zm rfl ?_)))))));replace Y:=Y.rtg_ne (k:=34) (k':=13) (by decide) (by decide) (by decide);replace d:=d.rtg 34 13 (by decide);replace m:=m.rtg 34 13 (by decide);replace e8:=e8.rtg 13 (by decide);replace b:=b.rtg_ne (k:=34) (k':=13) (by decide) (by decide) (by decide);replace J:=J.rtg 34 13 (by decide);replace I:=I.rtg 34 13 (by decide);replace L:=L.rtg 34 13 (by decide);replace M:=M.rtg 34 13 (by decide);replace s:=s.rtg 34 13 (by decide);replace i:=i.rtg_ne (k:=34) (k':=13) (by decide) (by decide);replace hB:=hB.rtg 34 13 (by decide) (by decide);generalize (rtg 34 13 p8)=q0 at*;obtain⟨c9,i9,Z⟩:=a_ Z;refine Zo ?_;refine o_ (kZ_ fuel w p9 oo q0 hB _ x ⟨_,_,_,_,_,_,rfl,J,I,L,M,m,s⟩ _ x.nodes m _ y d 31 (by decide) (by decide) _ a7 Y _ ([]:Yl) (RdL.nil _ _) _ p7 e8 c9 i9) uZ_ ⟨rfl,rfl,rfl,rfl,rfl,rfl,trivial⟩ ?_;rintro e347 w345 ⟨q1,rfl,Q,-,b5⟩;refine⟨_,rfl,?_⟩;replace Y:=Y.stp b5;replace d:=d.stp b5;replace m:=m.stp b5;replace b:=b.stp b5;replace J:=J.stp b5;replace I:=I.stp b5;replace L:=L.stp b5;replace M:=M.stp b5;replace s:=s.stp b5;replace i:=i.stp b5;replace hB:=hB.stp b5;refine Ze [(2,_),(6,_),(7,_),(9,_),(11,_),(25,_),(26,_),(27,_)] (Zn (Zm rfl (Zv (J_ rfl d tY_) (Zm rfl (Ze [(2,_),(6,_),(7,_),(11,_),(25,_),(26,_),(27,_),(52,_),(53,_),(54,_)] (nx ?_))))));obtain⟨h2,j0,Z⟩:=a_ Z;refine A_ (λa O=>∃(a6:Yl)(a2:Bool)(E:Tg),h2=.inl (a6,a2)∧Fr a 88 [(2,ZP u),(6,j),(7,.bool a2),(25,g),(26,ZI (A.length:Int)),(27,ZI f)]∧Bs oo E w O∧Ow w.heap.size 3 31 E O j a6∧Ow w.heap.size 41 32 E O g A∧Bx w.heap.size 30 E O u 90 [ZI x.p.Labels,ZI x.p.Degree,b9,c0,ZI x.q.Labels,ZI x.q.Degree,c2,c3,b8,a4]∧RdL E O b9 (x.p.Nodes:Yk)∧RdL E O c0 (x.p.Edges:Yk)∧RdL E O c2 (x.q.Nodes:Yk)∧RdL E O c3 (x.q.Edges:Yk)∧RdL E O b8 (x.nodes:List Bool)∧RdL E O a4 (x.edges:List Bool)) (λ_ _=>False) ?_ ?_ ?_
      ·refine f_ ?_;refine z_ (λ(K:Nat) a O=>∃(T:Int)(a6:Yl)(a2:Bool)(E:Tg),forI (cj_ c9) (y.drop T.toNat) T (a6,a2)=some h2∧(y.drop T.toNat).length=K∧0<=T∧Fr a 88 [(2,ZP u),(6,j),(7,.bool a2),(11,V),(25,g),(26,ZI (A.length:Int)),(27,ZI f),(52,B),(53,ZI (y.length:Int)),(54,ZI T)]∧Bs oo E w O∧Ow w.heap.size 3 31 E O j a6∧Ow w.heap.size 3 13 E O V c9∧Ow w.heap.size 41 32 E O g A∧RdL E O B y∧Bx w.heap.size 30 E O u 90 [ZI x.p.Labels,ZI x.p.Degree,b9,c0,ZI x.q.Labels,ZI x.q.Degree,c2,c3,b8,a4]∧RdL E O b9 (x.p.Nodes:Yk)∧RdL E O c0 (x.p.Edges:Yk)∧RdL E O c2 (x.q.Nodes:Yk)∧RdL E O c3 (x.q.Edges:Yk)∧RdL E O b8 (x.nodes:List Bool)∧RdL E O a4 (x.edges:List Bool)) _ (λa ha=>⟨0,a7,C,q1,j0,rfl,Int.le_refl 0,ha.sb,hB,Y,Q,b,d,i,J,I,L,M,m,s⟩) ?_;rintro K360 a O ⟨T,a6,a2,E,h3,h4,q2,ha,hB,H,Q,b,d,i,J,I,L,M,m,s⟩;by_cases d7:T<(y.length:Int)
       ·obtain⟨a9,q361,j1,a3,h5⟩:=R_ q2 d7 h3;have hle:=d.len_le;dsimp only[cj_] at a3;refine O_ ha ?_;refine Zq (Zv (u_ rfl rfl) (Ze [(2,_),(6,_),(7,_),(11,_),(25,_),(26,_),(27,_),(52,_),(53,_),(54,_),(55,_)] (nx (b_ ?_))));refine M_ (Zb (decide_eq_true d7)) ?_;refine h_ (nx (b_ (f_ (Zq (Zo ?_)))));refine fn_ d j1 rfl rfl tY_ tZ_ ?_;intro b366 f367 c368 q3 q4;cases q4
        refine Zv (e_ rfl ua_ (i_ q3)) (Za rfl (Ze [(2,_),(6,_),(7,_),(11,_),(13,_),(25,_),(26,_),(27,_),(52,_),(53,_),(54,_)] (nx (b_ ?_))));obtain⟨e9,f0,a3⟩:=a_ a3;obtain⟨f1,f2,a3⟩:=a_ a3;obtain⟨h6,f3,a3⟩:=a_ a3;refine ZW (Bf:=λW X=>Bs oo W w X∧Ow w.heap.size 3 31 W X j a6∧Ow w.heap.size 3 13 W X V c9∧Ow w.heap.size 41 32 W X g A∧RdL W X B y∧Bx w.heap.size 30 W X u 90 [ZI x.p.Labels,ZI x.p.Degree,b9,c0,ZI x.q.Labels,ZI x.q.Degree,c2,c3,b8,a4]∧RdL W X b9 (x.p.Nodes:Yk)∧RdL W X c0 (x.p.Edges:Yk)∧RdL W X c2 (x.q.Nodes:Yk)∧RdL W X c3 (x.q.Edges:Yk)∧RdL W X b8 (x.nodes:List Bool)∧RdL W X a4 (x.edges:List Bool)) [(2,_),(6,_),(7,_),(11,_),(13,_),(25,_),(26,_),(27,_),(52,_),(53,_),(54,_)] (Zrg 58 13) [[],[],[0,1],[2],[],[],[4,5],[6],[3,7],[],[],[9,10],[11]] (Zcn 13) (Zt9 13) [0,0,31,0,0,0,13,0,0,0,0,31,0] [999] [.inl j,.inl (ZI a9),.inr (λv o c5=>∃vl,v=adr vl (a9.toNat*Rp.sz Int)∧Ow w.heap.size 3 31 o c5 vl a6),.inl (ZI e9),.inl V,.inl (ZI a9),.inr (λv o c5=>∃vl,v=adr vl (a9.toNat*Rp.sz Int)∧Ow w.heap.size 3 13 o c5 vl c9),.inl (ZI f1),.inl (ZI (band e9 f1)),.inl j,.inl (ZI a9),.inr (λv o c5=>∃vl,v=adr vl (a9.toNat*Rp.sz Int)∧Ow w.heap.size 3 31 o c5 vl a6),.inl (ZI h6)] ⟨hB,H,Q,b,d,i,J,I,L,M,m,s⟩ ⟨λ_ _ _ _ _ _ c6 hb ⟨vl,e,h⟩ hs=>⟨vl,e,h.stp hs c6.1 (Ne.symm hb)⟩,λ_ _ _ _ _ _ c6 hb ⟨vl,e,h⟩ hs=>⟨vl,e,h.stp hs c6.1 (Ne.symm hb)⟩,λ_ _ _ _ _ _ c6 hb ⟨vl,e,h⟩ hs=>⟨vl,e,h.stp hs c6.1 (Ne.symm hb)⟩,trivial⟩ ?_ ?_
        ·refine⟨Dp (g_ rfl),Dp (g_ rfl),?_,?_,Dp (g_ rfl),Dp (g_ rfl),?_,?_,Dp (iX_ rfl rfl),Dp (g_ rfl),Dp (g_ rfl),?_,?_,trivial⟩
         ·rintro o386 w387 a388 ha ⟨hB,H,Q,b,d,i,J,I,L,M,m,s⟩-;refine Zs ha ?_;refine bI_ H f0 rfl rfl tY_ tZ_ ?_;exact⟨_,Stp.refl _ _ _,⟨_,rfl,H⟩⟩
         ·rintro o391 w392 a393 ha ⟨hB,H,Q,b,d,i,J,I,L,M,m,s⟩ ⟨q5,-⟩;obtain⟨v395,q6,q7⟩:=q5;have ha:=ha.c q6;refine Zs ha ?_;refine bq_ q7 f0 rfl rfl ua_ ?_;intro c398 q8;cases q8
          exact Zx rfl
         ·rintro o406 w407 a408 ha ⟨hB,H,Q,b,d,i,J,I,L,M,m,s⟩-;refine Zs ha ?_;refine bI_ Q f2 rfl rfl tY_ tZ_ ?_;exact⟨_,Stp.refl _ _ _,⟨_,rfl,Q⟩⟩
         ·rintro o411 w412 a413 ha ⟨hB,H,Q,b,d,i,J,I,L,M,m,s⟩ ⟨q9,-⟩;obtain⟨v415,r0,r1⟩:=q9;have ha:=ha.c r0;refine Zs ha ?_;refine bq_ r1 f2 rfl rfl ua_ ?_;intro c418 r2;cases r2
          exact Zx rfl
         ·rintro o431 w432 a433 ha ⟨hB,H,Q,b,d,i,J,I,L,M,m,s⟩-;refine Zs ha ?_;refine bI_ H f3 rfl rfl tY_ tZ_ ?_;exact⟨_,Stp.refl _ _ _,⟨_,rfl,H⟩⟩
         ·rintro o436 w437 a438 ha ⟨hB,H,Q,b,d,i,J,I,L,M,m,s⟩ ⟨r3,-⟩;obtain⟨v440,r4,r5⟩:=r3;have ha:=ha.c r4;refine Zs ha ?_;refine bq_ r5 f3 rfl rfl ua_ ?_;intro c443 r6;cases r6
          exact Zx rfl
        rintro _ rfl r7 w446 a447 ha ⟨hB,H,Q,b,d,i,J,I,L,M,m,s⟩-;refine aS_ ha ?_;refine Zv (dw_ rfl rfl) (Ze [(2,_),(6,_),(7,_),(11,_),(13,_),(25,_),(26,_),(27,_),(52,_),(53,_),(54,_),(71,_)] (nx ?_));refine p_ rfl (λf4=>?_) (λf4=>?_)
        ·rw[if_pos f4] at a3;refine b_ ?_;obtain⟨r8,f5,a3⟩:=a_ a3;obtain⟨r9,f6,a3⟩:=a_ a3;refine ZW (Bf:=λW X=>Bs oo W w X∧Ow w.heap.size 3 31 W X j a6∧Ow w.heap.size 3 13 W X V c9∧Ow w.heap.size 41 32 W X g A∧RdL W X B y∧Bx w.heap.size 30 W X u 90 [ZI x.p.Labels,ZI x.p.Degree,b9,c0,ZI x.q.Labels,ZI x.q.Degree,c2,c3,b8,a4]∧RdL W X b9 (x.p.Nodes:Yk)∧RdL W X c0 (x.p.Edges:Yk)∧RdL W X c2 (x.q.Nodes:Yk)∧RdL W X c3 (x.q.Edges:Yk)∧RdL W X b8 (x.nodes:List Bool)∧RdL W X a4 (x.edges:List Bool)) [(2,_),(6,_),(11,_),(13,_),(25,_),(26,_),(27,_),(52,_),(53,_),(54,_)] (Zrg 72 8) [[],[],[0,1],[2],[],[],[4,5],[6]] (Zcn 8) (Zt9 8) [0,0,31,0,0,0,13,0] [999] [.inl j,.inl (ZI a9),.inr (λv o c5=>∃vl,v=adr vl (a9.toNat*Rp.sz Int)∧Ow w.heap.size 3 31 o c5 vl a6),.inl (ZI r8),.inl V,.inl (ZI a9),.inr (λv o c5=>∃vl,v=adr vl (a9.toNat*Rp.sz Int)∧Ow w.heap.size 3 13 o c5 vl c9),.inl (ZI r9)] ⟨hB,H,Q,b,d,i,J,I,L,M,m,s⟩ ⟨λ_ _ _ _ _ _ c6 hb ⟨vl,e,h⟩ hs=>⟨vl,e,h.stp hs c6.1 (Ne.symm hb)⟩,λ_ _ _ _ _ _ c6 hb ⟨vl,e,h⟩ hs=>⟨vl,e,h.stp hs c6.1 (Ne.symm hb)⟩,trivial⟩ ?_ ?_
         ·refine⟨Dp (g_ rfl),Dp (g_ rfl),?_,?_,Dp (g_ rfl),Dp (g_ rfl),?_,?_,trivial⟩
          ·rintro o463 w464 a465 ha ⟨hB,H,Q,b,d,i,J,I,L,M,m,s⟩-;refine Zs ha ?_;refine bI_ H f5 rfl rfl tY_ tZ_ ?_;exact⟨_,Stp.refl _ _ _,⟨_,rfl,H⟩⟩
          ·rintro o468 w469 a470 ha ⟨hB,H,Q,b,d,i,J,I,L,M,m,s⟩ ⟨s0,-⟩;obtain⟨v472,s1,s2⟩:=s0;have ha:=ha.c s1;refine Zs ha ?_;refine bq_ s2 f5 rfl rfl ua_ ?_;intro c475 s3;cases s3
           exact Zx rfl
          ·rintro o483 w484 a485 ha ⟨hB,H,Q,b,d,i,J,I,L,M,m,s⟩-;refine Zs ha ?_;refine bI_ Q f6 rfl rfl tY_ tZ_ ?_;exact⟨_,Stp.refl _ _ _,⟨_,rfl,Q⟩⟩
          ·rintro o488 w489 a490 ha ⟨hB,H,Q,b,d,i,J,I,L,M,m,s⟩ ⟨s4,-⟩;obtain⟨v492,s5,s6⟩:=s4;have ha:=ha.c s5;refine Zs ha ?_;refine bq_ s6 f6 rfl rfl ua_ ?_;intro c495 s7;cases s7
           exact Zx rfl
         rintro _ rfl s8 w498 a499 ha ⟨hB,H,Q,b,d,i,J,I,L,M,m,s⟩-;refine aS_ ha ?_;refine Zv (iX_ rfl rfl) ?_;obtain⟨x504,j2,a3⟩:=a_ a3;refine Zo ?_;refine fs_ H j2 rfl rfl tY_ tZ_ ?_;intro b505 c507 s9 h508 t0;cases t0
         obtain⟨t1,j3,a3⟩:=a_ a3;refine am_ trivial ?_;refine cc_ H s9 j3 rfl (by decide) rfl rfl rfl tZ_ rfl ?_;intro w511 t2 b6;replace Q:=Q.stp b6;replace b:=b.stp b6;replace d:=d.stp b6;replace i:=i.stp b6;replace J:=J.stp b6;replace I:=I.stp b6;replace L:=L.stp b6;replace M:=M.stp b6;replace m:=m.stp b6;replace s:=s.stp b6;replace hB:=hB.stp b6;refine Ze [(2,ZP u),(6,j),(11,V),(25,g),(26,ZI (A.length:Int)),(27,ZI f),(52,B),(53,ZI (y.length:Int)),(54,ZI T)] (nx (d_ (Za rfl (Ze [(2,ZP u),(6,j),(7,.bool true),(11,V),(25,g),(26,ZI (A.length:Int)),(27,ZI f),(52,B),(53,ZI (y.length:Int)),(54,ZI T)] (y_ (nx (d_ (Zv (C_ rfl rfl (F_ (by omega) (by omega))) (Zm rfl (Ze [(2,_),(6,_),(7,_),(11,_),(25,_),(26,_),(27,_),(52,_),(53,_),(54,_)] (x_ ?_)))))))))));have t3:=Zj a3;subst t3;refine Zk [(2,_),(6,_),(7,_),(11,_),(25,_),(26,_),(27,_),(52,_),(53,_),(54,_)] ?_;intro a ha;exact⟨_,(by rw[<-h4];simp only[List.length_drop];omega),T+1,t1,true,s8,h5,rfl,by omega,ha,hB,t2,Q,b,d,i,J,I,L,M,m,s⟩
        ·replace a3:=ZF f4 a3;refine h_ (y_ (nx (d_ (Zv (C_ rfl rfl (F_ (by omega) (by omega))) (Zm rfl (Ze [(2,_),(6,_),(7,_),(11,_),(25,_),(26,_),(27,_),(52,_),(53,_),(54,_)] (x_ ?_)))))));have t4:=Zj a3;subst t4;refine Zk [(2,_),(6,_),(7,_),(11,_),(25,_),(26,_),(27,_),(52,_),(53,_),(54,_)] ?_;intro a ha;exact⟨_,(by rw[<-h4];simp only[List.length_drop];omega),T+1,a6,a2,r7,h5,rfl,by omega,ha,hB,H,Q,b,d,i,J,I,L,M,m,s⟩
       ·have t5:=S_ d7 h3;refine O_ ha ?_;refine Zq (Zv (u_ rfl rfl) (Ze [(2,_),(6,_),(7,_),(11,_),(25,_),(26,_),(27,_),(52,_),(53,_),(54,_),(55,_)] (nx (b_ ?_))));refine D_ (Zb (decide_eq_false d7)) ?_;refine w_ ?_;refine m_ (m_ (Q_ ?_));refine s_ ?_;refine Zk [(2,_),(6,_),(7,_),(25,_),(26,_),(27,_)] ?_;intro a ha;exact⟨a6,a2,E,t5,ha,hB,H,b,i,J,I,L,M,m,s⟩
      ·rintro a O ⟨a6,a2,E,rfl,ha,hB,H,b,i,J,I,L,M,m,s⟩;dsimp only at Z;refine ap_k ha ?_;refine y_ (nx (d_ (Zv (C_ rfl rfl (F_ (by omega) (by omega))) (Zm rfl (Ze [(2,_),(6,_),(7,_),(25,_),(26,_),(27,_)] (x_ ?_))))));have t6:=Zj Z;subst t6;refine Zk [(2,_),(6,_),(7,_),(25,_),(26,_),(27,_)] ?_;intro a ha;exact⟨_,(by rw[<-g5];simp only[List.length_drop];omega),f+1,a6,a2,E,g6,rfl,by omega,ha,hB,H,b,i,J,I,L,M,m,s⟩
      ·exact λ_ _ h=>h.elim
    ·have t7:=S_ d5 g4;refine O_ ha ?_;refine Zq (Zv (u_ rfl rfl) (Ze [(2,_),(6,_),(7,_),(25,_),(26,_),(27,_),(28,_)] (nx (b_ ?_))));refine D_ (Zb (decide_eq_false d5)) ?_;refine w_ ?_;refine m_ (m_ (Q_ ?_));refine s_ ?_;refine Zk [(2,_),(6,_),(7,_)] ?_;intro a ha;exact⟨a7,C,F,t7,ha,hB,Y,i,J,I,L,M,m,s⟩
   ·rintro a R ⟨a7,C,F,rfl,ha,hB,Y,i,J,I,L,M,m,s⟩;dsimp only at c4;refine ap_k ha ?_;refine y_ (x_ ?_);have t8:=Zj c4;subst t8;refine Zk [(2,_),(6,_),(7,_)] ?_;intro a ha;exact⟨K40,by omega,a7,C,F,j9,ha,hB,Y,i,J,I,L,M,m,s⟩
   ·exact λ_ _ h=>h.elim
  ·replace c4:=ZF h9 c4;refine w_ ?_;refine m_ (m_ (Q_ ?_));refine s_ ?_;have t9:=Zj c4;subst t9;refine Zk [(6,_)] ?_;intro a ha;exact⟨c7,false,b0,j9,ha,hB,c1⟩
 ·rintro a b7 ⟨c7,d2,b0,rfl,ha,hB,c1⟩;dsimp only at hF;refine ap_k ha ?_;refine Zn (Zm rfl (Zm rfl ?_));obtain⟨f7,j4,hF⟩:=a_ hF;refine Zo ?_;refine o_ (sa_ b7 _ c7 c1.z 0 f7 j4) Tryz.call114 ⟨rfl,rfl,trivial⟩ ?_;rintro e527 w523 ⟨rfl,u0⟩;have h7:=u0.stp 999 b0;refine⟨_,rfl,?_⟩;replace c1:=c1.stp h7;replace hB:=hB.stp h7;refine Zv (bo_ rfl) (Za rfl (Za rfl (Ze [(4,_),(5,_)] (nx (n_ ?_)))));have u1:=Zj hF;subst u1;refine Zr Tryz.results82 [j,.bool (!f7)] ?_;exact⟨_,rt oo b0 w.heap.size 31 t,rfl,c1.rt hB (by decide) t,hB.keeps,ac_ _ _ _ _ _⟩
 ·exact λ_ _ h=>h.elim
end
section
open Go.RowKit
section
variable {α:Type} [Rp α] {o o' oo:Tg} {w w' w0:World} {v u vN vE:Value} {vs:List Hv} {xs ys:List (List α)} {t k kr:Nat} {e er:TypeId} {B lo hi m n:Nat}
theorem Ow.low0{zs:List α}(h:Ow B e k o w v zs)(hm:∀g,v.ownBlock=some g->m<=g):Ow m e k o w v zs:=by
 obtain⟨css,h1,⟨h2,h2'⟩,h3,h4⟩:=h;refine⟨css,h1,⟨h2,?_⟩,h3,h4⟩;rcases h2' with h|⟨g,cap,cur,rfl,hb,rest⟩
 ·exact .inl h
 ·exact .inr ⟨g,cap,cur,rfl,hm g rfl,rest⟩
theorem Ow.mv0{zs:List α}(h:Ow B e 0 o w v zs)(hz:∀b,o b=0->o' b=0):Ow B e 0 o' w v zs:=by
 obtain⟨css,h1,h2,h3,h4⟩:=h;exact⟨css,h1,h2,λg hg=>hz g (h3 g hg),λi cs x a b=>Rp.mv (h4 i cs x a b) (Nat.le_refl _) λb _ hb=>⟨rfl,hz b hb⟩⟩
theorem Rws.mv0(h:Rws B er 0 o w vs xs)(hz:∀b,o b=0->o' b=0):Rws B er 0 o' w vs xs:=⟨h.1,λi u x a b=>(h.2.1 i u x a b).mv0 hz,h.2.2⟩
theorem Rws.row'(h:Rws B er kr o w vs xs){i:Nat}{u:Hv}(hu:vs[i]? =some u):∃x,xs[i]? =some x∧Ow B er kr o w u.v x:=by
 have hi:i<xs.length:=by have:=(List.getElem?_eq_some_iff.1 hu).1;have:=h.1;omega
 exact⟨xs[i],List.getElem?_eq_getElem hi,h.2.1 i u xs[i] hu (List.getElem?_eq_getElem hi)⟩
theorem Rws.low0(h:Rws B er kr o w vs xs)(hm:∀(i:Nat)(u:Hv) g,vs[i]? =some u->u.v.ownBlock=some g->m<=g):Rws m er kr o w vs xs:=⟨h.1,λi u x a b=>(h.2.1 i u x a b).low0 λg hg=>hm i u g a hg,h.2.2⟩
theorem Rws.lt(h:Rws B er kr o w vs xs)(i:Nat)(u:Hv)(g:Nat)(hu:vs[i]? =some u)(hg:u.v.ownBlock=some g):B<=g∧g<w.heap.size:=by
 obtain⟨x,_,hx⟩:=h.row' hu;exact hx.ltw g hg
theorem Rws.tg(h:Rws B er kr o w vs xs)(i:Nat)(u:Hv)(g:Nat)(hu:vs[i]? =some u)(hg:u.v.ownBlock=some g):o g=kr:=by
 obtain⟨x,_,hx⟩:=h.row' hu;exact hx.tagged g hg
def Dw(lo hi:Nat)(e er:TypeId)(o:Tg)(w:World)(v:Value)(xs:List (List α)):Prop:=
  ∃vs:List Hv,Ow lo e 0 o w v vs∧Rws lo er 0 o w vs xs∧(∀g,v.ownBlock=some g->g<hi)∧∀(i:Nat)(u:Hv) g,vs[i]? =some u->u.v.ownBlock=some g->g<hi
theorem Dw.nil(lo hi:Nat)(e er:TypeId)(o:Tg)(w:World):Dw lo hi e er o w (.slice none 0 0) ([]:List (List α)):=
 ⟨[],Ow.nil _ _ _ _ _,Rws.nil _ _ _ _ _,λg hg=>by simp[Value.ownBlock] at hg,λi u g h=>by simp at h⟩
theorem Dw.stp(h:Dw lo hi e er o w v xs)(s:Stp t o w o' w')(ht:t≠0:=by decide):Dw lo hi e er o' w' v xs:=by
 obtain⟨vs,h1,h2,h3⟩:=h;exact⟨vs,h1.stp s ht ht.symm,h2.stp s ht ht.symm,h3⟩
theorem Dw.mv0(h:Dw lo hi e er o w v xs)(hz:∀b,o b=0->o' b=0):Dw lo hi e er o' w v xs:=by
 obtain⟨vs,h1,h2,h3⟩:=h;exact⟨vs,h1.mv0 hz,h2.mv0 hz,h3⟩
theorem Dw.rc(h:Dw lo hi e er o w v xs)(r:Rtc t o o')(ht:t≠0):Dw lo hi e er o' w v xs:=h.mv0 λb hb=>r.zero ht hb
theorem Dw.frz(h:Dw lo hi e er o w v xs)(j:Nat)(hj:0≠j):Dw lo hi e er (Go.Proofs.YtdbbeldgdgonfaaGreat.frz j o) w v xs:=h.rc (fh_ j o) hj.symm
theorem Dw.rt(h:Dw lo hi e er o w v xs)(hB:Bs oo o w0 w)(k t:Nat)(hk:2<=k):Dw lo hi e er (Go.Proofs.YtdbbeldgdgonfaaGreat.rt oo o w0.heap.size k t) w v xs:=h.mv0 λb hb=>iD_ hB k t b hk hb
theorem Dw.dz(h:Dw lo hi e er o w v xs):Dz e er o w v xs:=by
 obtain⟨vs,h1,h2,_⟩:=h;exact⟨vs,h1.mono (Nat.zero_le _),h2.mono (Nat.zero_le _)⟩
theorem Dw.rd(h:Dw lo hi e er o w v xs):RdL o w v xs:=h.dz.rd
theorem Dw.of(h:Ow B e k o w v vs)(hr:Rws B er kr o w vs xs)(hk:k≠0)(hkr:kr≠0)(hne:kr≠k)(hm1:∀g,v.ownBlock=some g->m<=g)(hm2:∀(i:Nat)(u:Hv) g,vs[i]? =some u->u.v.ownBlock=some g->m<=g):
  Dw m w.heap.size e er (Go.Proofs.YtdbbeldgdgonfaaGreat.frz kr (Go.Proofs.YtdbbeldgdgonfaaGreat.frz k o)) w v xs:=
 ⟨vs,Ow.low0 (Of.frz (h.frzF) kr hkr.symm) hm1,Rws.low0 ((hr.frz_ne hne).frz hkr) hm2,λg hg=>(h.ltw g hg).2,λi u g a b=>(hr.lt i u g a b).2⟩
theorem Dw.sub{lo' hi':Nat}(h:Dw lo hi e er o w v xs)(h1:∀g,o g=0->lo<=g->g<hi->g<w.heap.size->lo'<=g∧g<hi'):Dw lo' hi' e er o w v xs:=by
 obtain⟨vs,a1,a2,a3,a4⟩:=h;have b1:∀g,v.ownBlock=some g->lo'<=g∧g<hi':=λg hg=>h1 g (a1.tagged g hg) (a1.ltw g hg).1 (a3 g hg) (a1.ltw g hg).2;have b2:∀(i:Nat)(u:Hv) g,vs[i]? =some u->u.v.ownBlock=some g->lo'<=g∧g<hi':=λi u g a b=>h1 g (a2.tg i u g a b) (a2.lt i u g a b).1 (a4 i u g a b) (a2.lt i u g a b).2;exact⟨vs,a1.low0 λg hg=>(b1 g hg).1,a2.low0 λi u g a b=>(b2 i u g a b).1,λg hg=>(b1 g hg).2,λi u g a b=>(b2 i u g a b).2⟩
def D2(e er:TypeId)(o:Tg)(w:World)(vN vE:Value)(xs ys:List (List α)):Prop:=∃a b c d,(∀g,a<=g->g<b->c<=g->g<d->False)∧Dw a b e er o w vN xs∧Dw c d e er o w vE ys
theorem D2.of{hi:Nat}(hN:Dw 0 m e er o w vN xs)(hE:Dw m hi e er o w vE ys):D2 e er o w vN vE xs ys:=⟨0,m,m,hi,λg _ p1 p2 _=>by omega,hN,hE⟩
theorem D2.nil(e er:TypeId)(o:Tg)(w:World):D2 e er o w (.slice none 0 0) (.slice none 0 0) ([]:List (List α)) ([]:List (List α)):=⟨0,0,0,0,λg _ h _ _=>by omega,Dw.nil _ _ _ _ _ _,Dw.nil _ _ _ _ _ _⟩
theorem D2.stp(h:D2 e er o w vN vE xs ys)(s:Stp t o w o' w')(ht:t≠0:=by decide):D2 e er o' w' vN vE xs ys:=by
 obtain⟨a,b,c,d,hd,h1,h2⟩:=h;exact⟨a,b,c,d,hd,h1.stp s ht,h2.stp s ht⟩
theorem D2.mv0(h:D2 e er o w vN vE xs ys)(hz:∀b,o b=0->o' b=0):D2 e er o' w vN vE xs ys:=by
 obtain⟨a,b,c,d,hd,h1,h2⟩:=h;exact⟨a,b,c,d,hd,h1.mv0 hz,h2.mv0 hz⟩
theorem D2.rc(h:D2 e er o w vN vE xs ys)(r:Rtc t o o')(ht:t≠0):D2 e er o' w vN vE xs ys:=h.mv0 λb hb=>r.zero ht hb
theorem D2.frz(h:D2 e er o w vN vE xs ys)(j:Nat)(hj:0≠j):D2 e er (Go.Proofs.YtdbbeldgdgonfaaGreat.frz j o) w vN vE xs ys:=h.rc (fh_ j o) hj.symm
theorem D2.rt(h:D2 e er o w vN vE xs ys)(hB:Bs oo o w0 w)(k t:Nat)(hk:2<=k):D2 e er (Go.Proofs.YtdbbeldgdgonfaaGreat.rt oo o w0.heap.size k t) w vN vE xs ys:=h.mv0 λb hb=>iD_ hB k t b hk hb
def Pq(lo hi:Nat)(e er:TypeId)(o:Tg)(w:World)(vN vE:Value)(xs ys:List (List α)):Prop:=∃a b c d,lo<=a∧b<=hi∧lo<=c∧d<=hi∧(b<=c∨d<=a)∧Dw a b e er o w vN xs∧Dw c d e er o w vE ys
theorem D2.pq(h:D2 e er o w vN vE xs ys)(hn:∀b,b<n->o b≠0)(hle:n<=w.heap.size):Pq n w.heap.size e er o w vN vE xs ys:=by
 obtain⟨a,b,c,d,hd,h1,h2⟩:=h;have hz:∀g,o g=0->n<=g:=λg h0=>Nat.le_of_not_lt λhg=>hn g hg h0;have k1:Dw (max a n) (min b w.heap.size) e er o w vN xs:=h1.sub λg h0 p1 p2 p3=>by have:=hz g h0;omega
 have k2:Dw (max c n) (min d w.heap.size) e er o w vE ys:=h2.sub λg h0 p1 p2 p3=>by have:=hz g h0;omega
 by_cases q1:max a n<min b w.heap.size
 ·by_cases q2:max c n<min d w.heap.size
  ·refine⟨_,_,_,_,by omega,by omega,by omega,by omega,?_,k1,k2⟩;refine Classical.byContradiction λhh=>hd (max (max a n) (max c n)) (by omega) (by omega) (by omega) (by omega)
  ·exact⟨_,_,n,n,by omega,by omega,by omega,by omega,by omega,k1,k2.sub λg _ p1 p2 _=>by omega⟩
 ·exact⟨n,n,_,_,by omega,by omega,by omega,by omega,by omega,k1.sub λg _ p1 p2 _=>by omega,k2⟩
theorem Pq.stp{lo hi:Nat}(h:Pq lo hi e er o w vN vE xs ys)(s:Stp t o w o' w')(ht:t≠0:=by decide):Pq lo hi e er o' w' vN vE xs ys:=by
 obtain⟨a,b,c,d,q1,q2,q3,q4,q5,h1,h2⟩:=h;exact⟨a,b,c,d,q1,q2,q3,q4,q5,h1.stp s ht,h2.stp s ht⟩
theorem Pq.mv0{lo hi:Nat}(h:Pq lo hi e er o w vN vE xs ys)(hz:∀b,o b=0->o' b=0):Pq lo hi e er o' w vN vE xs ys:=by
 obtain⟨a,b,c,d,q1,q2,q3,q4,q5,h1,h2⟩:=h;exact⟨a,b,c,d,q1,q2,q3,q4,q5,h1.mv0 hz,h2.mv0 hz⟩
theorem Pq.rdN{lo hi:Nat}(h:Pq lo hi e er o w vN vE xs ys):RdL o w vN xs:=by obtain⟨a,b,c,d,q1,q2,q3,q4,q5,h1,h2⟩:=h;exact h1.rd
theorem Pq.rdE{lo hi:Nat}(h:Pq lo hi e er o w vN vE xs ys):RdL o w vE ys:=by obtain⟨a,b,c,d,q1,q2,q3,q4,q5,h1,h2⟩:=h;exact h2.rd
def Iv(B k kr:Nat)(e er:TypeId)(o:Tg)(w:World)(v:Value)(xs:List (List α)):Prop:=
  ∃(g:List Hv)(a b:Nat),B<=a∧b<=w.heap.size∧Ow a e k o w v g∧Rws a er kr o w g xs∧(∀c,v.ownBlock=some c->c<b)∧(∀(i:Nat)(u:Hv) c,g[i]? =some u->u.v.ownBlock=some c->c<b)∧∀c,a<=c->c<b->o c=k∨o c=kr
theorem Iv.stp{B:Nat}(h:Iv B k kr e er o w v xs)(s:Stp t o w o' w')(ht:t≠0:=by decide)(hk:k≠t:=by decide)(hkr:kr≠t):Iv B k kr e er o' w' v xs:=by
 obtain⟨g,a,b,h1,h2,h3,h4,h5,h6,h7⟩:=h;exact⟨g,a,b,h1,Nat.le_trans h2 s.size,h3.stp s ht hk,h4.stp s ht hkr,h5,h6,λc p q=>by rw[s.own c (Nat.lt_of_lt_of_le q h2)];exact h7 c p q⟩
end
theorem Iv.mono{α:Type}[Rp α]{B B' k kr:Nat}{e er:TypeId}{o:Tg}{w:World}{v:Value}{xs:List (List α)}(h:Iv B k kr e er o w v xs)(hB:B'<=B):Iv B' k kr e er o w v xs:=by
 obtain⟨g,a,b,h1,h2⟩:=h;exact⟨g,a,b,Nat.le_trans hB h1,h2⟩
structure Qv where
  cs:List Value
instance:Rp Qv where
  sz:=4
  pos:=by decide
  rd _ _ cs x:=cs=x.cs∧cs.length=4∧∀c∈cs,c.oneCell'=true
  len h:=h.2.1
  one h:=h.2.2
  mv h _ _:=h
theorem Qv.ok{o:Tg}{w:World}{L D:Int}{vN vE:Value}(h1:vN.oneCell'=true)(h2:vE.oneCell'=true):Rp.rd o w [.int .i64 L,.int .i64 D,vN,vE] (⟨[.int .i64 L,.int .i64 D,vN,vE]⟩:Qv):=
 ⟨rfl,rfl,λc hc=>by
  simp only[List.mem_cons,List.not_mem_nil,or_false] at hc;rcases hc with rfl|rfl|rfl|rfl
  ·rfl
  ·rfl
  ·exact h1
  ·exact h2⟩
section
variable {o o' oo:Tg} {w w' w0:World} {v u vN vE:Value} {t k:Nat} {B n:Nat} {gs:List Qv} {ps:List c_} {p:c_}
def Pc(lo hi:Nat)(o:Tg)(w:World)(cs:List Value)(p:c_):Prop:=∃vN vE,cs=[.int .i64 p.Labels,.int .i64 p.Degree,vN,vE]∧Pq lo hi 41 3 o w vN vE p.Nodes p.Edges
theorem Pc.stp{lo hi:Nat}{cs:List Value}(h:Pc lo hi o w cs p)(s:Stp t o w o' w')(ht:t≠0:=by decide):Pc lo hi o' w' cs p:=by obtain⟨vN,vE,e,h⟩:=h;exact⟨vN,vE,e,h.stp s ht⟩
theorem Pc.mv0{lo hi:Nat}{cs:List Value}(h:Pc lo hi o w cs p)(hz:∀b,o b=0->o' b=0):Pc lo hi o' w cs p:=by obtain⟨vN,vE,e,h⟩:=h;exact⟨vN,vE,e,h.mv0 hz⟩
theorem Pc.rd{lo hi:Nat}{cs:List Value}(h:Pc lo hi o w cs p):Rp.rd o w cs p:=by
 obtain⟨vN,vE,rfl,h⟩:=h;exact⟨_,_,rfl,h.rdN,h.rdE⟩
def Prs(B k:Nat)(o:Tg)(w:World)(gs:List Qv)(ps:List c_):Prop:=
  gs.length=ps.length∧∃lo hi:Nat->Nat,(∀(i:Nat) g p,gs[i]? =some g->ps[i]? =some p->Pc (lo i) (hi i) o w g.cs p)∧
    (∀i,i<ps.length->B<=lo i∧hi i<=w.heap.size)∧(∀i j,i<j->j<ps.length->hi i<=lo j)∧∀i b,i<ps.length->lo i<=b->b<hi i->o b≠k
theorem Prs.nil(B k:Nat)(o:Tg)(w:World):Prs B k o w [] []:=⟨rfl,λ_=>0,λ_=>0,λi g p h=>by simp at h,λi h=>by simp at h,λi j _ h=>by simp at h,λi b h=>by simp at h⟩
theorem Prs.stp(h:Prs B k o w gs ps)(s:Stp t o w o' w')(ht:t≠0:=by decide):Prs B k o' w' gs ps:=by
 obtain⟨h0,lo,hi,h1,h2,h3,h4⟩:=h;refine⟨h0,lo,hi,λi g p a b=>(h1 i g p a b).stp s ht,λi hi'=>⟨(h2 i hi').1,Nat.le_trans (h2 i hi').2 s.size⟩,h3,λi b hi' a c=>?_⟩;rw[s.own b (Nat.lt_of_lt_of_le c (h2 i hi').2)];exact h4 i b hi' a c
theorem Prs.push{cs:List Value}(h:Prs B k o w gs ps)(s:Stp t o w o' w')(ht:t≠0)(hp:Pc w.heap.size w'.heap.size o' w' cs p)(hk:∀b,w.heap.size<=b->b<w'.heap.size->o' b≠k)(hB:B<=w.heap.size):
  Prs B k o' w' (gs++[⟨cs⟩]) (ps++[p]):=by
 have hs:=h.stp s ht;obtain⟨h0,lo,hi,h1,h2,h3,h4⟩:=h;have h1':∀(i:Nat) g p,gs[i]? =some g->ps[i]? =some p->Pc (lo i) (hi i) o' w' g.cs p:=λi g p a b=>(h1 i g p a b).stp s ht;have h4':∀i b,i<ps.length->lo i<=b->b<hi i->o' b≠k:=λi b hi' a c=>by
  rw[s.own b (Nat.lt_of_lt_of_le c (h2 i hi').2)];exact h4 i b hi' a c
 clear hs;refine⟨by simp[h0],λi=>if i<ps.length then lo i else w.heap.size,λi=>if i<ps.length then hi i else w'.heap.size,λi g q a b=>?_,λi hi'=>?_,λi j hij hj=>?_,λi b hi' a c=>?_⟩
 ·by_cases hl:i<ps.length
  ·rw[List.getElem?_append_left (by omega)] at a;rw[List.getElem?_append_left hl] at b;simp only[if_pos hl];exact h1' i g q a b
  ·have hi2:i=ps.length:=by have:=(List.getElem?_eq_some_iff.1 b).1;simp at this;omega
   subst hi2;rw[<-h0,List.getElem?_append_right (by omega)] at a;rw[List.getElem?_append_right (by omega)] at b;simp at a b;subst a;subst b;simp only[if_neg hl];exact hp
 ·by_cases hl:i<ps.length
  ·simp only[if_pos hl];exact⟨(h2 i hl).1,Nat.le_trans (h2 i hl).2 s.size⟩
  ·simp only[if_neg hl];exact⟨hB,Nat.le_refl _⟩
 ·simp only[List.length_append,List.length_singleton] at hj;have hl:i<ps.length:=by omega
  simp only[if_pos hl];by_cases hl2:j<ps.length
  ·simp only[if_pos hl2];exact h3 i j hij hl2
  ·simp only[if_neg hl2];exact(h2 i hl).2
 ·by_cases hl:i<ps.length
  ·simp only[if_pos hl] at a c;exact h4' i b hl a c
  ·simp only[if_neg hl] at a c;exact hk b a c
theorem Prs.rc(h:Prs B k o w gs ps)(r:Rtc t o o')(ht:t≠0)(hk:∀b,o b≠k->o' b≠k):Prs B k o' w gs ps:=by
 obtain⟨h0,lo,hi,h1,h2,h3,h4⟩:=h;exact⟨h0,lo,hi,λi g p a b=>(h1 i g p a b).mv0 λb hb=>r.zero ht hb,h2,h3,λi b a c d=>hk b (h4 i b a c d)⟩
theorem Prs.rdl{e:TypeId}(h:Prs B k o w gs ps)(hs:Ow B e k o w v gs):RdL zt w v ps:=by
 obtain⟨a,c,rfl,l1,l2,h4⟩:=hs.z;obtain⟨h0,lo,hi,h1,_⟩:=h;refine⟨a,c,by rw[h0],by rw[<-h0];exact l1,l2,λi x hx=>?_⟩;have hi':i<gs.length:=by have:=(List.getElem?_eq_some_iff.1 hx).1;omega
 obtain⟨b,off,cs,ha,hb,hlt,hc,hd,_⟩:=h4 i gs[i] (List.getElem?_eq_getElem hi');subst hd;exact⟨b,off,_,ha,hb,hlt,hc,Rp.z (h1 i gs[i] x (List.getElem?_eq_getElem hi') hx).rd⟩
theorem Prs.ix(h:Prs B k o w gs ps){i:Int}(hx:ix ps i=some p):∃g,Go.Proofs.YtdbbeldgdgonfaaGreat.ix gs i=some g∧∃vN vE,g.cs=[.int .i64 p.Labels,.int .i64 p.Degree,vN,vE]∧RdL o w vN p.Nodes∧RdL o w vE p.Edges:=by
 obtain⟨h0,_,h2⟩:=fC_ hx;obtain⟨hl,lo,hi,h1,_⟩:=h;have hi':i.toNat<gs.length:=by have:=(List.getElem?_eq_some_iff.1 h2).1;omega
 have hg:gs[i.toNat]? =some gs[i.toNat]:=List.getElem?_eq_getElem hi';obtain⟨vN,vE,e,hq⟩:=h1 i.toNat _ p hg h2;exact⟨gs[i.toNat],by unfold Go.Proofs.YtdbbeldgdgonfaaGreat.ix;rw[if_pos h0];exact hg,vN,vE,e,hq.rdN,hq.rdE⟩
theorem Prs.pushV(h:Prs B k o w gs ps){ys:List c_}(hy:Go.Proofs.YtdbbeldgdgonfaaGreat.push ps p=some ys)(g:Qv):Go.Proofs.YtdbbeldgdgonfaaGreat.push gs g=some (gs++[g])∧ys=ps++[p]:=by
 obtain⟨h1,rfl⟩:=jK_ hy;exact⟨by unfold Go.Proofs.YtdbbeldgdgonfaaGreat.push;rw[if_pos (by rw[h.1];exact h1)],rfl⟩
end
end
end Go.Proofs.YtdbbeldgdgonfaaGreat
