/- Part 20 of what this claim rests on (pack.py). -/
import Derived.Test.YtpefhaamcihneaaGreatP19
namespace Go.Proofs.YtpefhaamcihneaaGreat
open Tryz renaming prog→Gz, underlying22→GE, results157→ID, sizeOf51→GH, isAgg51→GJ, call158→Km
set_option linter.unusedSimpArgs false
set_option linter.unusedVariables false
set_option maxRecDepth 100000
set_option maxHeartbeats 2000000
open Go.RowKit
def fo(a:Int):((List Pv)×Int×Int)->Option (Lo ((List Pv)×Int×Int) (List Pv)):=λs=>(cut s.1 a s.1.length)>>=λn=>if decide (s.2.2<((s.1.length:Int)-a)) then(ix s.1 (a+s.2.2))>>=λc=>(nn s.2.2)>>=λq=>(cut s.1 a s.1.length)>>=λu=>(ck (s.2.2-1))>>=λb=>(ix s.1 (a+b))>>=λd=>(nn b)>>=λv=>(cut s.1 a s.1.length)>>=λy=>(gw c.x d.x)>>=λf=>if !f then(ix s.1 (a+s.2.2))>>=λg=>(nn s.2.2)>>=λz=>(cut s.1 a s.1.length)>>=λe=>(ix s.1 s.2.1)>>=λh=>(st s.1 s.2.1 g)>>=λi=>(ck (s.2.1+1))>>=λj=>(ck (s.2.2+1))>>=λk=>some (.go (i,j,k)) else(ck (s.2.2+1))>>=λm=>some (.go (s.1,s.2.1,m)) else some (.out (s.1,s.2.1,s.2.2))
def eB(c:Nat):((List Pv)×Int)->Option (Lo ((List Pv)×Int) (List Pv)):=λs=>if decide (s.2<(s.1.length:Int)) then(ix s.1 s.2)>>=λd=>(ck (s.2-1))>>=λf=>(ix s.1 f)>>=λg=>(gw d.x g.x)>>=λi=>if i then(cut s.1 s.2 s.1.length)>>=λn=>(loopF (fo s.2) c (s.1,s.2,1))>>=λj=>match j with| .inl (a,b,q)=>(cut a b a.length)>>=λu=>(cut a b a.length)>>=λv=>(cut a 0 b)>>=λk=>some (.ret k)| .inr _=>none else(ck (s.2+1))>>=λm=>some (.go (s.1,m)) else some (.out (s.1,s.2))
def mI(b:Nat)(a:List Pv):Option (List Pv):=if decide ((a.length:Int)<2) then some a else(loopF (eB b) b (a,1))>>=λc=>match c with| .inl (d,g)=>some d| .inr f=>some f
def rl(c o:Tg)(w d:World)(r:List Pv):Ending->World->Prop:=λe w'=>∃(b:Value)(a:Tg),e=.returned b∧Ow w.heap.size 51 10 a w' b r∧Bs c a w w'∧Stp 10 o d a w'
theorem yx(L:Nat)(w y:World)(F o:Tg)(i:Bs F o w y)(hO:∀b,b<y.heap.size->o b≠999)(j:Value)(f:List Pv)(g:Ow w.heap.size 51 10 o y j f)(r:List Pv)(t:mI L f=some r):
    Calls Gz 157 #[j,.func (.func 158) #[] #[]] y (rl F o w y r):=by
 unfold mI at t;have hS:Stp 10 o y o y:=Stp.refl _ _ _;refine y_ (n:=66) (vs:=[j,.func (.func 158) #[] #[]]) Tryz.func157 rfl rfl ?_;refine Zq (Za rfl (Zy (b_ (Zq (Zm rfl (Zv (aU rfl g GE) (Zv (o_ rfl rfl) (Zy ?_))))))));refine Zi rfl t (λd t=>?_) (λd t=>?_)
 ·refine Zq (Zm rfl (Za rfl (Zy (i_ (t_ ?_)))));obtain rfl:=Zj t;refine Zr ID [j] ?_;exact⟨_,o,rfl,g,i,hS⟩
 ·refine f_ (nx (b_ (Zq (Za rfl (Zy ?_)))));obtain⟨d,k,t⟩:=a_ t;refine D_ (λa C=>∃(l:List Pv)(m:Int),∃(A:Tg),d=.inl (l,m)∧Fr a 66 [(0,j)]∧Bs F A w C∧Stp 10 o y A C∧Oz w 51 10 A C j l) (λa w'=>∃M,d=.inr M∧bodyPost Gz Tryz.f157 (rl F o w y M) .ret a w') ?_ ?_ ?_
  ·refine k_ ?_;refine B_ (λ(K:Nat) a C=>∃(l:List Pv)(m:Int),∃(A:Tg),loopF (eB L) K (l,m)=some d∧Fr a 66 [(0,j),(1,.func (.func 158) #[] #[]),(5,ZI m)]∧Bs F A w C∧Stp 10 o y A C∧Oz w 51 10 A C j l) L (λa d=>⟨f,1,o,k,d.sb,i,hS,g⟩) ?_;rintro f a C ⟨l,m,A,f,d,i,hS,q⟩;obtain⟨V,g,g,g,N⟩:=aC f;dsimp only[eB] at g;refine q_ d ?_;refine b_ (Zq (Zm rfl (Zm rfl (Zv (aU rfl q GE) (Zv (o_ rfl rfl) (Zy ?_))))));refine Zi rfl g (λf g=>?_) (λf g=>?_)
   ·refine f_ (nx (b_ (k_ (b_ ?_))));obtain⟨B,f,g⟩:=a_ g;obtain⟨k,E,g⟩:=a_ g;obtain⟨D,p,g⟩:=a_ g;refine ZW (Bf:=λH I=>Bs F H w I∧Stp 10 o y H I∧Oz w 51 10 H I j l) [(0,_),(1,_),(5,_)] (Zrg 18 10) [[],[],[],[1,2],[3],[],[],[6],[5,7],[8]] (Zcn 10) (Zt9 10) [0,0,0,10,0,0,0,0,10,0] [999] [.inl (.func (.func 158) #[] #[]),.inl j,.inl (ZI m),.inr (λv o s=>∃vl,v=adr vl (m.toNat*Rp.sz Pv)∧Oz w 51 10 o s vl l),.inr (λv o s=>RdL o s v (B.x:Yl)),.inl j,.inl (ZI m),.inl (ZI k),.inr (λv o s=>∃vl,v=adr vl (k.toNat*Rp.sz Pv)∧Oz w 51 10 o s vl l),.inr (λv o s=>RdL o s v (D.x:Yl))] ⟨i,hS,q⟩ ⟨λ_ _ _ _ _ _ u hb ⟨vl,e,h⟩ hs=>⟨vl,e,h.stp hs u.1 (V_ hb)⟩,λ_ _ _ _ _ _ u hb h hs=>h.stp hs u.1,λ_ _ _ _ _ _ u hb ⟨vl,e,h⟩ hs=>⟨vl,e,h.stp hs u.1 (V_ hb)⟩,λ_ _ _ _ _ _ u hb h hs=>h.stp hs u.1,trivial⟩ ?_ ?_
    ·refine⟨Dp (d_ rfl),Dp (d_ rfl),Dp (d_ rfl),?_,?_,Dp (d_ rfl),Dp (d_ rfl),Dp (aD rfl rfl E),?_,?_,trivial⟩
     ·rintro k k k d ⟨-,-,q⟩-;refine Zs d ?_;refine cg q f rfl rfl GE GH ?_;exact⟨_,Stp.refl _ _ _,⟨_,rfl,q⟩⟩
     ·rintro k k k d- ⟨k,-⟩;obtain⟨E,E,G⟩:=k;have d:=d.c E;refine Zs d ?_;refine bW G f rfl rfl GJ ?_;intro f f;obtain⟨k,-,E⟩:=f;cases k
      exact⟨_,Stp.refl _ _ _,E⟩
     ·rintro f f f d ⟨-,-,q⟩-;refine Zs d ?_;refine cg q p rfl rfl GE GH ?_;exact⟨_,Stp.refl _ _ _,⟨_,rfl,q⟩⟩
     ·rintro f f f d- ⟨f,-⟩;obtain⟨k,k,E⟩:=f;have d:=d.c k;refine Zs d ?_;refine bW E p rfl rfl GJ ?_;intro f f;obtain⟨k,-,p⟩:=f;cases k
      exact⟨_,Stp.refl _ _ _,p⟩
    rintro _ rfl J E p d ⟨i,hS,q⟩ ⟨-,f,-,k,-⟩;replace f:RdL J E (p.tmps.getD 22 undef) (B.x:Yl):=f;generalize G:p.tmps.getD 22 undef=O at f;have d:=d.c G;replace k:RdL J E (p.tmps.getD 27 undef) (D.x:Yl):=k;generalize G:p.tmps.getD 27 undef=p at k;have d:=d.c G;refine O_ d ?_;obtain⟨p,G,g⟩:=a_ g;refine Zo ?_;refine vh (rq E _ B.x f.z _ D.x k.z p G) Km rfl ⟨rfl,rfl,trivial⟩ ?_;rintro p p ⟨rfl,B⟩;have p:=B.stp 999 J;refine⟨_,rfl,?_⟩;replace hS:=hS.tr9 hO p;obtain⟨q,f,k,i⟩:=ZS p (A4 q f k i);refine Zy ?_;refine Zi rfl g (λf g=>?_) (λf g=>?_)
    ·refine Zq (Zm rfl (Zm rfl ?_));obtain⟨f,f,g⟩:=a_ g;refine Zo ?_;refine pP q f rfl rfl GE GH ?_;refine Za rfl (Zy (b_ (Zq (Za rfl (Zy ?_)))));obtain⟨f,k,g⟩:=a_ g;refine D_ (λa G=>∃(p:List Pv)(D:Int)(E:Int),∃(B:Tg),f=.inl (p,D,E)∧Fr a 66 [(0,j),(5,ZI D)]∧Bs F B w G∧Stp 10 o y B G∧Oz w 51 10 B G j p) (λ_ _=>False) ?_ ?_ ?_
     ·refine k_ ?_;refine B_ (λ(K:Nat) a G=>∃(p:List Pv)(D:Int)(E:Int),∃(B:Tg),loopF (fo m) K (p,D,E)=some f∧Fr a 66 [(0,j),(1,.func (.func 158) #[] #[]),(5,ZI D),(6,subv j m.toNat),(7,ZI E)]∧Bs F B w G∧Stp 10 o y B G∧Oz w 51 10 B G j p) L (λa d=>⟨l,m,1,J,k,d.sb,i,hS,q⟩) ?_;rintro f a G ⟨p,D,E,B,O,d,i,hS,k⟩;obtain⟨R,f,f,f,L⟩:=aC O;dsimp only[fo] at f;refine q_ d ?_;refine b_ (Zq (Zm rfl (Zm rfl ?_)));obtain⟨O,O,f⟩:=a_ f;refine Zv (CH k O rfl GE) (Zv (o_ rfl rfl) (Zy ?_));refine Zi rfl f (λO f=>?_) (λO f=>?_)
      ·refine f_ (nx (b_ (k_ (b_ ?_))));obtain⟨O,S,f⟩:=a_ f;obtain⟨Q,W,f⟩:=a_ f;obtain⟨Q,X,f⟩:=a_ f;obtain⟨T,Y,f⟩:=a_ f;obtain⟨Q,U,f⟩:=a_ f;obtain⟨Z,Z,f⟩:=a_ f;obtain⟨a0,a0,f⟩:=a_ f;refine ZW (Bf:=λH I=>Bs F H w I∧Stp 10 o y H I∧Oz w 51 10 H I j p) [(0,_),(1,_),(5,_),(6,_),(7,_)] (Zrg 38 10) [[],[],[],[1,2],[3],[],[],[6],[5,7],[8]] (Zcn 10) (Zt9 10) [0,0,0,10,0,0,0,0,10,0] [999] [.inl (.func (.func 158) #[] #[]),.inl (subv j m.toNat),.inl (ZI E),.inr (λv o s=>∃vl,v=adr vl ((m+E).toNat*Rp.sz Pv)∧Oz w 51 10 o s vl p),.inr (λv o s=>RdL o s v (O.x:Yl)),.inl (subv j m.toNat),.inl (ZI E),.inl (ZI T),.inr (λv o s=>∃vl,v=adr vl ((m+T).toNat*Rp.sz Pv)∧Oz w 51 10 o s vl p),.inr (λv o s=>RdL o s v (Q.x:Yl))] ⟨i,hS,k⟩ ⟨λ_ _ _ _ _ _ u hb ⟨vl,e,h⟩ hs=>⟨vl,e,h.stp hs u.1 (V_ hb)⟩,λ_ _ _ _ _ _ u hb h hs=>h.stp hs u.1,λ_ _ _ _ _ _ u hb ⟨vl,e,h⟩ hs=>⟨vl,e,h.stp hs u.1 (V_ hb)⟩,λ_ _ _ _ _ _ u hb h hs=>h.stp hs u.1,trivial⟩ ?_ ?_
       ·refine⟨Dp (d_ rfl),Dp (d_ rfl),Dp (d_ rfl),?_,?_,Dp (d_ rfl),Dp (d_ rfl),Dp (aD rfl rfl Y),?_,?_,trivial⟩
        ·rintro s s s d ⟨-,-,k⟩-;refine Zs d ?_;refine sT k X S (qj W) rfl rfl GE GH ?_;exact⟨_,Stp.refl _ _ _,⟨_,rfl,k⟩⟩
        ·rintro s s s d- ⟨s,-⟩;obtain⟨u,u,y⟩:=s;have d:=d.c u;refine Zs d ?_;refine bW y S rfl rfl GJ ?_;intro s s;obtain⟨u,-,y⟩:=s;cases u
         exact⟨_,Stp.refl _ _ _,y⟩
        ·rintro s s s d ⟨-,-,k⟩-;refine Zs d ?_;refine sT k a0 U (qj Z) rfl rfl GE GH ?_;exact⟨_,Stp.refl _ _ _,⟨_,rfl,k⟩⟩
        ·rintro s s s d- ⟨s,-⟩;obtain⟨u,u,y⟩:=s;have d:=d.c u;refine Zs d ?_;refine bW y U rfl rfl GJ ?_;intro s s;obtain⟨u,-,y⟩:=s;cases u
         exact⟨_,Stp.refl _ _ _,y⟩
       rintro _ rfl y H F d ⟨i,hS,k⟩ ⟨-,s,-,u,-⟩;replace s:RdL y H (F.tmps.getD 42 undef) (O.x:Yl):=s;generalize I:F.tmps.getD 42 undef=S at s;have d:=d.c I;replace u:RdL y H (F.tmps.getD 47 undef) (Q.x:Yl):=u;generalize I:F.tmps.getD 47 undef=F at u;have d:=d.c I;refine O_ d ?_;obtain⟨F,I,f⟩:=a_ f;refine Zo ?_;refine vh (rq H _ O.x s.z _ Q.x u.z F I) Km rfl ⟨rfl,rfl,trivial⟩ ?_;rintro F F ⟨rfl,H⟩;have F:=H.stp 999 y;refine⟨_,rfl,?_⟩;replace hS:=hS.tr9 hO F;obtain⟨k,s,u,i⟩:=ZS F (A4 k s u i);refine Zv (ag rfl) (Zy ?_);refine Zi rfl f (λs f=>?_) (λs f=>?_)
       ·refine Zq (Zm rfl (Zm rfl (Zm rfl (Zm rfl ?_))));obtain⟨s,s,f⟩:=a_ f;obtain⟨u,u,f⟩:=a_ f;obtain⟨F,F,f⟩:=a_ f;refine Zo ?_;refine DL k F s (qj u) rfl rfl GE GH ?_;intro s s s u F;obtain⟨rfl,-,s⟩:=F;refine Zv (e_ rfl GJ (G_ u)) ?_;obtain⟨u,u,f⟩:=a_ f;refine Zo ?_;refine bI k u rfl rfl GE GH ?_;intro u u u F F;obtain⟨rfl,-,H⟩:=F;obtain⟨F,H,f⟩:=a_ f;refine E_ trivial ?_;refine bH k u H (oI s) dc rfl rfl rfl GH s.cells1 ?_;intro s u s;replace hS:=hS.trans s;replace i:=i.stp s;refine Zy (h_ (Zm rfl ?_));obtain⟨s,H,f⟩:=a_ f;refine Zv (u_ rfl rfl H) (Za rfl (Ze [(0,_),(1,_),(5,_),(6,_),(7,_)] (w_ (nx (h_ (Zm rfl ?_))))));obtain⟨H,I,f⟩:=a_ f;refine Zv (u_ rfl rfl I) (Za rfl (Zf (v_ ?_)));obtain rfl:=Zj f;refine Zk [(0,_),(1,_),(5,_),(6,_),(7,_)] ?_;intro a d;exact⟨R,om,F,s,H,y,L,d,i,hS,u⟩
       ·refine f_ (w_ (nx (h_ (Zm rfl ?_))));obtain⟨s,u,f⟩:=a_ f;refine Zv (u_ rfl rfl u) (Za rfl (Zf (v_ ?_)));obtain rfl:=Zj f;refine Zk [(0,_),(1,_),(5,_),(6,_),(7,_)] ?_;intro a d;exact⟨R,om,p,D,s,y,L,d,i,hS,k⟩
      ·refine z_ ?_;refine g_ (g_ (A_ ?_));refine r_ ?_;obtain rfl:=Zj f;refine Zk [(0,_),(5,_)] ?_;intro a d;exact⟨p,D,E,B,L,d,i,hS,k⟩
     ·rintro a G ⟨p,D,E,B,rfl,d,i,hS,k⟩;dsimp only at g;refine ap_k d ?_;refine Zn (Zm rfl (Zm rfl ?_));obtain⟨f,f,g⟩:=a_ g;refine Zo ?_;refine pP k f rfl rfl GE GH ?_;obtain⟨f,s,g⟩:=a_ g;obtain⟨f,f,g⟩:=a_ g;have u:=wn k f;refine E_ trivial ?_;refine sY k s f dc rfl GE Tryz.zeroValue51 ?_;intro f f k f;replace hS:=hS.trans f;replace i:=i.stp f;refine Ze [(0,_),(5,_)] (Zn (Zm rfl (Zm rfl (Zv (tX u rfl rfl GE GH) (Za rfl (Zy (i_ (L_ (t_ (t_ (L_ ?_)))))))))));refine aB ?_;obtain rfl:=Zj g;refine λa d=>⟨_,N,?_⟩;refine J_ (P:=Gz) (vs:=[prev j D.toNat]) ID ⟨rfl,trivial⟩ ?_ a d;exact⟨_,B,rfl,k,i,hS⟩
     ·exact λ_ _ h=>h.elim
    ·refine f_ (w_ (nx (h_ (Zm rfl ?_))));obtain⟨f,k,g⟩:=a_ g;refine Zv (u_ rfl rfl k) (Za rfl (Zf (v_ ?_)));obtain rfl:=Zj g;refine Zk [(0,_),(1,_),(5,_)] ?_;intro a d;exact⟨V,om,l,f,J,N,d,i,hS,q⟩
   ·refine z_ ?_;refine g_ (g_ (A_ ?_));refine r_ ?_;obtain rfl:=Zj g;refine Zk [(0,_)] ?_;intro a d;exact⟨l,m,A,N,d,i,hS,q⟩
  ·rintro a C ⟨l,m,A,rfl,d,i,hS,q⟩;dsimp only at t;refine ap_k d ?_;refine Zn (Zm rfl (Za rfl (Zy (i_ ?_))));obtain rfl:=Zj t;refine Zr ID [j] ?_;exact⟨_,A,rfl,q,i,hS⟩
  ·rintro a C ⟨M,rfl,d⟩;dsimp only at t;obtain rfl:=Zj t;exact d
theorem goF{σ τ ρ:Type}{f:σ->Option (Lp σ τ ρ)}{s s':σ}(h:f s=some (.go s'))(a:Nat):loopF f (a+1) s=loopF f a s':=by simp only[loopF,h]
theorem outF{σ τ ρ:Type}{f:σ->Option (Lp σ τ ρ)}{s:σ}{t:τ}(h:f s=some (.out t))(a:Nat):loopF f (a+1) s=some (.inl t):=by simp only[loopF,h]
theorem retF{σ τ ρ:Type}{f:σ->Option (Lp σ τ ρ)}{s:σ}{r:ρ}(h:f s=some (.ret r))(a:Nat):loopF f (a+1) s=some (.inr r):=by simp only[loopF,h]
theorem qK(xs a:List Int)(n:xs.length<=1000000000)(o:a.length<=1000000000):gw xs a=some (decide (xs=a)):=by
 unfold gw;by_cases h:xs.length=a.length
 ·rw[if_neg (sh h),n_ om om,sb];simp only[U_];rw[lq (λk x=>if x=a.getD k 0 then none else some false) xs (λj x i _=>by
   have m:=(Y_.1 i).1;unfold mL;rw[aq,i,sb,bM _ _ (show j<a.length by omega),sb];have:a.getD j 0=a[j]'om:=by simp[x_ (show j<a.length by omega)]
   simp only[this];by_cases e:x=a[j]'om
   ·simp[e,lpP]
   ·simp[e,lpP]),sb]
  cases g:firstP (λk x=>if x=a.getD k 0 then none else some false) xs 0 with
  | none=>
   have:xs=a:=by
    refine dr h λj d b=>?_;have:=cL.1 g j _ (x_ d);rw[an] at this;split at this
    ·rename_i e;rw[e];simp[x_ b]
    ·cases this
   simp[outP,this]
  | some r=>
   obtain⟨j,x,d,b⟩:=dJ g;rw[an] at b;split at b
   ·cases b
   ·rename_i f;cases b
    have:xs≠a:=λe=>f (by rw[<-e];simp[d]);simp[outP,this]
 ·rw[if_pos (by simp;omega)];have:xs≠a:=λe=>h (by rw[e]);simp[this]
def at'(ps:List Pv)(j:Nat):Pv:=ps.getD j default
def kc(ps:List Pv)(j:Nat):Bool:=decide (j=0∨(at' ps j).x≠(at' ps (j-1)).x)
def kp(ps:List Pv)(n:Nat):List Pv:=((List.range n).filter (kc ps)).map (at' ps)
theorem xE{ps:List Pv}{n:Nat}(h:kc ps n=true):kp ps (n+1)=kp ps n++[at' ps n]:=by simp[kp,gc,h]
theorem xJ{ps:List Pv}{n:Nat}(h:kc ps n=false):kp ps (n+1)=kp ps n:=by simp[kp,gc,h]
theorem ET(ps:List Pv)(n:Nat):(kp ps n).length<=n:=by
 have:=gj (kc ps) (List.range n);simpa [kp] using this
theorem dp{ps:List Pv}{j:Nat}(h:j<ps.length):ps[j]? =some (at' ps j):=by
 unfold at';rw[ax,x_ h];rfl
theorem ixa{ps:List Pv}{j:Nat}{i:Int}(hi:i=(j:Int))(h:j<ps.length):ix ps i=some (at' ps j):=by
 subst hi;unfold ix;rw[if_pos om,U_];exact dp h
theorem qI(ps:List Pv):(kp ps ps.length).Sublist ps:=by
 have d:(kp ps ps.length).Sublist ((List.range ps.length).map (at' ps)):=(FH).map _;have b:(List.range ps.length).map (at' ps)=ps:=by
  apply fi;intro j;by_cases a:j<ps.length
  ·rw[aZ,gl a,dp a];rfl
  ·rw[cT (by simp;omega),cT om]
 rwa [b] at d
theorem cutF(ps:List Pv)(lo:Nat):cut ps (lo:Int) ps.length=if lo<=ps.length then some (ps.drop lo) else none:=by
 unfold cut;by_cases h:lo<=ps.length
 ·rw[if_pos om,if_pos h];simp
 ·rw[if_neg om,if_neg h]
theorem vX(ps:List Pv)(hl:ps.length<=1000000000)(hx:∀p∈ps,p.x.length<=1000000000)(k0:Nat)(h0:1<=k0):∀(d m fuel:Nat)(s:List Pv),m+d=ps.length->d<fuel->k0+1<=m->s.length=ps.length->
    (kp ps m).length+1<=m->s.take (kp ps m).length=kp ps m->s.drop (m-1)=ps.drop (m-1)->k0<=(kp ps m).length->
    ∃s' c,loopF (fo (k0:Int)) fuel (s,((kp ps m).length:Int),((m-k0:Nat):Int))=some (.inl (s',((kp ps ps.length).length:Int),c))∧s'.take (kp ps ps.length).length=kp ps ps.length∧s'.length=ps.length∧k0<=(kp ps ps.length).length
  | 0,m,fuel,s,hd,hf,h1,h2,h3,h4,h5,h6=>by
    obtain⟨fuel,rfl⟩:∃q,fuel=q+1:=⟨fuel-1,om⟩;have hm:m=ps.length:=om;subst hm;refine⟨s,((ps.length-k0:Nat):Int),?_,h4,h2,h6⟩;refine outF ?_ fuel;unfold fo;simp only
    rw[cutF,if_pos om,sb,if_neg (by simp;omega)]
  | d+1,m,fuel,s,hd,hf,h1,h2,h3,h4,h5,h6=>by
    obtain⟨fuel,rfl⟩:∃q,fuel=q+1:=⟨fuel-1,om⟩;have hat:∀j,m-1<=j->at' s j=at' ps j:=λj hj=>by
      unfold at';rw[ax,ax];have e:=congrArg (λl=>l[j-(m-1)]?) h5;simp only[dV] at e;rw[show m-1+(j-(m-1))=j by omega] at e;rw[e]
    have e1:=hat m om;have e2:=hat (m-1) om;have hm1:=hx _ (aE (dp (ps:=ps) (j:=m) om));have hm2:=hx _ (aE (dp (ps:=ps) (j:=m-1) om));have step:∃s',fo (k0:Int) (s,((kp ps m).length:Int),((m-k0:Nat):Int))=some (.go (s',((kp ps (m+1)).length:Int),((m+1-k0:Nat):Int)))∧s'.length=ps.length∧(kp ps (m+1)).length+1<=m+1∧
        s'.take (kp ps (m+1)).length=kp ps (m+1)∧s'.drop m=ps.drop m∧k0<=(kp ps (m+1)).length:=by
      unfold fo nn;simp only
      rw[cutF,if_pos om,sb,if_pos (by simp;omega),ixa (j:=m) om om,sb,if_pos om,sb,sb,n_ om om,sb,ixa (j:=m-1) om om,sb,if_pos om,sb,sb,e1,e2,qK _ _ hm1 hm2,sb];by_cases hc:(at' ps m).x=(at' ps (m-1)).x
      · have hk : kc ps m = false := by unfold kc;rw[decide_eq_false_iff_not];intro h;rcases h with h|h;· omega
                                        · exact h hc
        rw[if_neg (sh hc),n_ om om,sb,xJ hk];refine⟨s,?_,h2,om,h4,?_,h6⟩
        · rw[show((m-k0:Nat):Int)+1=((m+1-k0:Nat):Int) by omega]
        · have:=congrArg (List.drop 1) h5
          rw[gk,gk,show m-1+1=m by omega] at this;exact this
      · have hk:kc ps m=true:=by unfold kc;rw[decide_eq_true_eq];exact .inr hc
        have hlt:(kp ps m).length<s.length:=om;rw[if_pos (sh hc),sb,sb,sb,ixa (i:=((kp ps m).length:Int)) (j:=(kp ps m).length) rfl hlt,sb];unfold Go.Proofs.YtpefhaamcihneaaGreat.st;rw[if_pos om,sb,n_ om om,sb,n_ om om,sb,xE hk];refine⟨s.set (kp ps m).length (at' ps m),?_,by simp[h2],by simp;omega,?_,?_,by simp;omega⟩
        · rw[show((m-k0:Nat):Int)+1=((m+1-k0:Nat):Int) by omega,U_]
          simp
        · rw[ar,ao,bD,dv,yb (K_ _),h4,FK hlt]
          rfl
        · rw[FE om]
          have:=congrArg (List.drop 1) h5;rw[gk,gk,show m-1+1=m by omega] at this;exact this
    obtain⟨s',g1,g2,g3,g4,g5,g6⟩:=step;rw[goF g1];exact vX ps hl hx k0 h0 d (m+1) fuel s' om om om g2 g3 g4 (su g5) g6
theorem wm(ps:List Pv)(hl:ps.length<=1000000000)(hx:∀p∈ps,p.x.length<=1000000000)(fuel0:Nat)(hf0:ps.length<fuel0):∀(d k fuel:Nat),k+d=ps.length->d<fuel->1<=k->kp ps k=ps.take k->
    ∃q,loopF (eB fuel0) fuel (ps,(k:Int))=some q∧(q=.inr (kp ps ps.length)∨∃c,q=.inl (kp ps ps.length,c))
  | 0,k,fuel,hd,hf,h1,h2=>by
    obtain⟨fuel,rfl⟩:∃q,fuel=q+1:=⟨fuel-1,om⟩;have hk:k=ps.length:=om;subst hk;rw[cc] at h2;refine⟨_,outF (t:=(ps,(ps.length:Int))) ?_ fuel,.inr ⟨_,by rw[h2]⟩⟩;unfold eB;simp only
    rw[if_neg sy]
  | d + 1, k, fuel, hd, hf, h1, h2 => by
    obtain⟨fuel,rfl⟩:∃q,fuel=q+1:=⟨fuel-1,om⟩;have hm1:=hx _ (aE (dp (ps:=ps) (j:=k) om));have hm2:=hx _ (aE (dp (ps:=ps) (j:=k-1) om));by_cases hc:(at' ps k).x=(at' ps (k-1)).x
    · have hk : kc ps k = false := by unfold kc;rw[decide_eq_false_iff_not];intro h;rcases h with h|h;· omega
                                      · exact h hc
      have hkp:kp ps (k+1)=ps.take k:=by rw[xJ hk,h2]
      have hkl:(kp ps (k+1)).length=k:=by rw[hkp,aX];omega
      obtain⟨s',c,g1,g2,g3,g4⟩:=vX ps hl hx k h1 d (k+1) fuel0 ps om om om rfl om (by rw[hkl,hkp]) rfl om;rw[hkl,show((k+1-k:Nat):Int)=1 by omega] at g1;have hkle:=ET ps ps.length;refine⟨_,retF (r:=kp ps ps.length) ?_ fuel,.inl rfl⟩;unfold eB;simp only
      rw[if_pos (by simp;omega),ixa (j:=k) rfl om,sb,n_ om om,sb,ixa (j:=k-1) om om,sb,qK _ _ hm1 hm2,sb,if_pos (sh hc),cutF,if_pos om,sb,g1,sb];simp only
      rw[cutF,if_pos om,sb,sb];unfold cut;rw[if_pos om,sb];simp only[U_,show(0:Int).toNat=0 from rfl,aG,g2]
    · have hk:kc ps k=true:=by unfold kc;rw[decide_eq_true_eq];exact .inr hc
      have hkp:kp ps (k+1)=ps.take (k+1):=by
        rw[xE hk,h2,dv,dp om];rfl
      have g1:eB fuel0 (ps,(k:Int))=some (.go (ps,((k+1:Nat):Int))):=by
        unfold eB;simp only
        rw[if_pos (by simp;omega),ixa (j:=k) rfl om,sb,n_ om om,sb,ixa (j:=k-1) om om,sb,qK _ _ hm1 hm2,sb,if_neg (sh hc),n_ om om,sb];simp
      rw[goF g1];exact wm ps hl hx fuel0 hf0 d (k+1) fuel om om om hkp
theorem Cm(ps:List Pv)(i:ps.length<=1000000000)(g:∀p∈ps,p.x.length<=1000000000)(a:Nat)(j:ps.length<a):mI a ps=some (kp ps ps.length):=by
 unfold mI;by_cases b:ps.length<2
 ·rw[if_pos (by simp;omega)]
  match ps,b with
  |[],_=>rfl
  |[p],_=>rfl
  |_::_::_,h=>exfalso;simp only[ao] at h;omega
 ·rw[if_neg (by simp;omega)];have d:kp ps 1=ps.take 1:=by
   match ps,b with
   |p::_,_=>rfl
   |[],h=>simp at h
  obtain⟨q,e,f⟩:=wm ps i g a j (ps.length-1) 1 a om om om d;rw[show((1:Nat):Int)=1 from rfl] at e;rw[e,sb];rcases f with rfl|⟨c,rfl⟩<;>rfl
theorem EL{L:Nat}(ps:List Pv)(hL:∀p∈ps,p.x.length=L)(hs:ps.Pairwise λa b=>¬ordL b.x a.x<0):sorS ((kp ps ps.length).map (·.x))∧∀z,z∈(kp ps ps.length).map (·.x)<->z∈ps.map (·.x):=by
  have hat:∀i,i<ps.length->at' ps i∈ps:=λi hi=>aE (dp hi);have hpw:∀i j,i<j->j<ps.length->¬ordL (at' ps j).x (at' ps i).x<0:=λi j hij hj=>by
    have:=dw.1 hs i j om hj hij;have e1:ps[i]'om=at' ps i:=by have:=dp (ps:=ps) (j:=i) om;rw[x_ om] at this;exact Option.some.inj this
    have e2:ps[j]=at' ps j:=by have:=dp (ps:=ps) (j:=j) hj;rw[x_ hj] at this;exact Option.some.inj this
    rw[e1,e2] at this;exact this
  have hle:∀i j,i<=j->j<ps.length->(at' ps i).x=(at' ps j).x∨ordL (at' ps i).x (at' ps j).x<0:=λi j hij hj=>by
    by_cases e:i=j
    · subst e;exact .inl rfl
    · have h1:=hpw i j om hj
      have h2:=fT (at' ps i).x (at' ps j).x;by_cases h0:ordL (at' ps i).x (at' ps j).x=0
      · exact .inl ((fS (by rw[hL _ (hat i om),hL _ (hat j hj)])).1 h0)
      · exact .inr om
  constructor
  · unfold sorS kp
    rw[xO,jR];have hr:(List.range ps.length).Pairwise (·<·):=FL;refine List.Pairwise.imp_of_mem (λ{i j} hi hj hij=>?_) (hr.filter (kc ps));have hj1:=aS.1 (cF.1 hj).1;have hj2:=(cF.1 hj).2;unfold kc at hj2;rw[decide_eq_true_eq] at hj2
    have hne : (at' ps j).x ≠ (at' ps (j - 1)).x := by rcases hj2 with h|h;· omega
                                                       · exact h
    have hlt:ordL (at' ps (j-1)).x (at' ps j).x<0:=by
      rcases hle (j-1) j om hj1 with h|h
      · exact absurd h.symm hne
      · exact h
    show ordL (at' ps i).x (at' ps j).x<0;rcases hle i (j-1) om om with h|h
    · rw[h];exact hlt
    · exact lW (by rw[hL _ (hat i om),hL _ (hat (j-1) om)]) (by rw[hL _ (hat j hj1),hL _ (hat (j-1) om)]) h hlt
  · intro z
    constructor
    · intro hz
      obtain⟨p,hp,rfl⟩:=aM.1 hz;exact aM.2 ⟨p,(qI ps).subset hp,rfl⟩
    · intro hz
      obtain⟨p,hp,rfl⟩:=aM.1 hz;obtain⟨i,hi⟩:=mz hp;have hil:=(Y_.1 hi).1;have:∀i,i<ps.length->(at' ps i).x∈(kp ps ps.length).map (·.x):=by
        intro i
        induction i with
        | zero=>
          intro h;refine aM.2 ⟨_,aM.2 ⟨0,cF.2 ⟨aS.2 h,by simp[kc]⟩,rfl⟩,rfl⟩
        | succ i ih=>
          intro h;by_cases hc:kc ps (i+1)=true
          · exact aM.2 ⟨_,aM.2 ⟨i+1,cF.2 ⟨aS.2 h,hc⟩,rfl⟩,rfl⟩
          · have:(at' ps (i+1)).x=(at' ps i).x:=by
              unfold kc at hc;rw[decide_eq_true_eq] at hc;exact ge λh=>hc (.inr (su h))
            rw[this];exact ih om
      have e1:=dp hil;rw[hi] at e1;cases e1
      exact this i hil
theorem Db(ps d:List Pv){L:Nat}(j:∀p∈ps,p.x.length=L)(g:d.Perm ps)(m:d.Pairwise λa b=>¬ordL b.x a.x<0):(kp d d.length).map (·.x)=sxd (ps.map (·.x)):=by
 have f:∀p∈d,p.x.length=L:=λp e=>j p (g.subset e);obtain⟨k,n⟩:=EL d f m;obtain⟨o,q⟩:=pW (L:=L) (ps.map (·.x)) [] (λz i=>by obtain⟨p,g,rfl⟩:=aM.1 i;exact j p g) sy List.Pairwise.nil;refine vm (L:=L) (λz i=>?_) k o λz=>?_
 ·obtain⟨p,e,rfl⟩:=aM.1 i;exact f p ((qI d).subset e)
 ·unfold sxd;rw[n,q];constructor
  ·intro h;obtain⟨p,e,rfl⟩:=aM.1 h;exact .inr (aM.2 ⟨p,g.subset e,rfl⟩)
  ·rintro(h|h)
   ·cases h
   ·obtain⟨p,e,rfl⟩:=aM.1 h;exact aM.2 ⟨p,g.symm.subset e,rfl⟩
def apV(a b:Pv):Prop:=∀g,a.v.ownBlock=some g->b.v.ownBlock≠some g
def sl2(w:World)(G:Nat):World:={w with heap:=w.heap.extract 0 G}
set_option maxRecDepth 100000 in
set_option maxHeartbeats 2000000 in
theorem pg{B k kr:Nat}{o:Tg}{w:World}{v:Value}{vs:List Hv}{xs ys:List (List Int)}(h:Ow B 51 k o w v vs)(hr:Rws B 3 kr o w vs xs)(hk:k≠0)(hkr:kr≠0)(hne:kr≠k)(hB:B<=w.heap.size)(hF:srtL xs=some ys):
  Calls Gz 135 #[v] w λe w'=>∃v' vs' T,e=.returned v'∧Ow B 51 k T w' v' vs'∧Rws B 3 kr T w' vs' ys∧Stp k o w T w':=by
 unfold srtL at hF;split at hF
 rotate_left
 ·cases hF
 rename_i hcond;obtain⟨hl,hL1,hL⟩:=hcond;cases hF
 generalize (xs.headD []).length=L at hL1 hL
 -- the rows under their values
 obtain⟨r1,r2,r3⟩:=hr;let ps:List Pv:=List.zipWith (λu x=>(⟨u.v,x⟩:Pv)) vs xs
 have U:ps.length=xs.length:=by show(List.zipWith _ vs xs).length=_;rw[FF,r1,ya]
 have hpi:∀(i:Nat)(u:Hv)(x:List Int),vs[i]? =some u->xs[i]? =some x->ps[i]? =some (⟨u.v,x⟩:Pv):=λi u x a b=>by
  show(List.zipWith _ vs xs)[i]? =_;rw[FG,a,b]
 have hpx:ps.map (·.x)=xs:=by
  apply fi;intro i;by_cases hi:i<xs.length
  ·rw[aZ,hpi i (vs[i]'om) xs[i] (x_ om) (x_ hi),x_ hi];rfl
  ·rw[cT (by rw[aA,U];omega),cT om]
 have Q:∀(i:Nat)(p:Pv),ps[i]? =some p->vs[i]? =some (⟨p.v⟩:Hv)∧xs[i]? =some p.x:=λi p d=>by
  have hi:i<xs.length:=by have:=(Y_.1 d).1;omega
  have:=hpi i (vs[i]'om) xs[i] (x_ om) (x_ hi);rw[d] at this;cases this
  exact⟨x_ om,x_ hi⟩
 have R:∀p∈ps,Ow B 3 kr o w p.v p.x:=λp d=>by
  obtain⟨i,hi⟩:=mz d;obtain⟨a,b⟩:=Q i p hi;exact r2 i ⟨p.v⟩ p.x a b
 have W:∀p∈ps,p.x.length=L:=λp d=>hL p.x (by rw[<-hpx];exact aM.2 ⟨p,d,rfl⟩);have hap:ps.Pairwise apV:=by
  rw[dw];intro i j hi hj hij g h1 h2;obtain⟨a1,b1⟩:=Q i _ (x_ hi);obtain⟨a2,b2⟩:=Q j _ (x_ hj);have:=r3 i j _ _ g a1 a2 h1 h2;omega
 let C:Tg:=frz kr o
 have ho2:∀b,o b=k->C b=k:=λb t=>by show(if o b=kr then 0 else o b)=k;rw[t,if_neg (V_ hne)]
 have H:∀b,C b=k->o b=k:=λb t=>by
  have t:(if o b=kr then 0 else o b)=k:=t;split at t
  ·exact absurd t.symm hk
  ·exact t
 have hrd2:∀p∈ps,RdL C w p.v p.x:=λp d=>(R p d).frz;have hsp:Ow B 51 k C w v ps:=by
  obtain⟨css,c1,c2,c3,c4⟩:=h;refine⟨css,by rw[c1,r1,U],?_,λg hg=>ho2 g (c3 g hg),λi cs p hc d=>?_⟩
  ·rw[U,<-r1];exact c2
  ·obtain⟨a,b⟩:=Q i p d;obtain⟨q1,O⟩:=c4 i cs _ hc a;exact⟨q1,O,hrd2 p (aE d)⟩
 clear h r2 r3;refine y_ (n:=7) (vs:=[v]) Tryz.func135 rfl rfl ?_;refine b_ ?_;refine h_ ?_;refine m_ (bc rfl) dc trivial ?_;refine aQ (r:=[(0,v)]) ⟨rfl,trivial⟩ ?_;refine nx ?_;refine b_ ?_;refine h_ ?_;refine m_ (d_ rfl) dc trivial ?_;refine az dc trivial ?_;refine j_ (AH hsp hk W om) Tryz.call156 ⟨rfl,rfl,trivial⟩ ?_;rintro e1 D ⟨rfl,s,m,hsor,E,f⟩;refine⟨_,rfl,?_⟩;refine aQ (r:=[(0,v)]) ⟨rfl,trivial⟩ ?_;refine nx ?_
 -- as the second call sees it
 let G:Nat:=match v.ownBlock with|some g=>g|none=>D.heap.size
 let wb:World:=sl2 D G
 let oo:Tg:=λb=>if C b=0 then 0 else 1
 let M:Tg:=λb=>if v.ownBlock=some b then 10 else if C b=0 then 0 else 1
 have hGw:G<=D.heap.size:=by
  show(match v.ownBlock with|some g=>g|none=>D.heap.size)<=_;cases Y:v.ownBlock with
  |none=>exact K_ _
  |some g=>exact Nat.le_of_lt (E.ltw g Y).2
 have hBG:B<=G:=by
  show B<=(match v.ownBlock with|some g=>g|none=>D.heap.size);cases Y:v.ownBlock with
  |none=>exact aH hB f.size
  |some g=>exact(E.ltw g Y).1
 have K:wb.heap.size=G:=by show(D.heap.extract 0 G).size=G;simp;omega
 have V:∀g,v.ownBlock=some g->C g=k:=E.tagged;have hBs:Bs oo M wb D:=by
  refine⟨⟨rfl,rfl,rfl,by rw[K];exact hGw,λb t=>?_⟩,λb t=>?_⟩
  ·show D.heap[b]? =(D.heap.extract 0 G)[b]?;rw[qZ];rw[K] at t;rw[if_pos om];simp
  ·rw[K] at t;show(if v.ownBlock=some b then 10 else if C b=0 then 0 else 1)=if(if C b=0 then 0 else 1)=0 then 0 else 1;rw[if_neg (λe=>by
    have:G=b:=by show(match v.ownBlock with|some g=>g|none=>D.heap.size)=b;rw[e]
    omega)]
   split<;>simp
 have hO:∀b,b<D.heap.size->M b≠999:=λb _=>by
  show(if v.ownBlock=some b then 10 else if C b=0 then 0 else 1)≠999;split
  ·decide
  ·split<;>decide
 have h10:∀b,C b=0->M b=0:=λb t=>by
  show(if v.ownBlock=some b then 10 else if C b=0 then 0 else 1)=0;rw[if_neg (λe=>by have:=V b e;rw[t] at this;exact hk this.symm),if_pos t]
 have hsp2:Ow wb.heap.size 51 10 M D v s:=by
  obtain⟨css,c1,c2,c3,c4⟩:=E;refine⟨css,c1,⟨c2.1,?_⟩,λg hg=>if_pos hg,λi cs p hc d=>?_⟩
  ·rcases c2.2 with q|⟨g,cap,X,rfl,q⟩
   ·exact .inl q
   ·refine .inr ⟨g,cap,X,rfl,?_,q.2⟩;rw[K];exact K_ _
  ·obtain⟨q1,O,q3⟩:=c4 i cs p hc d;exact⟨q1,O,q3.mv (K_ _) λb _ t=>⟨rfl,h10 b t⟩⟩
 have hl1:s.length<=1000000000:=by rw[m.length_eq];omega
 refine b_ ?_;refine h_ ?_;refine m_ (d_ rfl) dc trivial ?_;refine az dc trivial ?_;refine j_ (yx 1000000001 wb D oo M hBs hO v s hsp2 _ (Cm s hl1 (λp d=>by have:=W p (m.subset d);omega) 1000000001 om)) Tryz.call157 ⟨rfl,rfl,trivial⟩ ?_;rintro e2 w2 ⟨v2,o3,rfl,S,hBs3,y⟩;refine⟨_,rfl,?_⟩;refine m_ (bc rfl) dc trivial ?_;refine aQ (r:=[(2,v2)]) ⟨rfl,trivial⟩ ?_;refine nx ?_;refine i_ ?_;refine J_ (P:=Gz) (vs:=[v2]) Tryz.results135 ⟨rfl,trivial⟩ ?_
 -- what is left
 have N:=Db ps s W m hsor;rw[hpx] at N;have J:(kp s s.length).Sublist s:=qI s;generalize kp s s.length=r at S N J;have hmem:∀p∈r,p∈ps:=λp d=>m.subset (J.subset d);let T:Tg:=λb=>if b<w.heap.size then o b else if o3 b=10 then k else 0
 have F:Stp k o w T w2:=by
  refine⟨y.os.trans f.os,y.tape.trans f.tape,y.output.trans f.output,aH f.size y.size,λb t hnk=>?_,λb t=>if_pos t⟩;have e1:=f.block b t (λe=>hnk (H b e));have e2:=y.block b (bh t f.size) (λe=>by
   have e:(if v.ownBlock=some b then 10 else if C b=0 then 0 else 1)=10:=e;split at e
   ·rename_i Y;exact hnk (H b (V b Y))
   ·split at e<;>cases e)
  exact e2.trans e1
 have Z:∀p∈r,Ow B 3 kr T w2 p.v p.x:=λp d=>(R p (hmem p d)).stp F hk hne;have hapr:r.Pairwise apV:=(m.symm.pairwise hap (λ{a b} hab g h1 h2=>hab g h2 h1)).sublist J;refine⟨v2,r.map λp=>⟨p.v⟩,T,rfl,?_,⟨?_,?_,?_⟩,F⟩
 ·obtain⟨css,c1,c2,c3,c4⟩:=S;refine⟨css,by simpa using c1,?_,λg hg=>?_,λi cs u hc A=>?_⟩
  ·rw[aA];obtain⟨q1,O⟩:=c2;refine⟨q1,?_⟩;rcases O with O|⟨g,cap,X,e,q3,q4⟩
   ·exact .inl O
   ·rw[K] at q3;exact .inr ⟨g,cap,X,e,aH hBG q3,q4⟩
  ·have e3:=c3 g hg;show(if g<w.heap.size then o g else if o3 g=10 then k else 0)=k;split
   ·rename_i hgl;have hgl1:g<D.heap.size:=bh hgl f.size;have e4:=y.own g hgl1;rw[e3] at e4;have e5:(if v.ownBlock=some g then 10 else if C g=0 then 0 else 1)=10:=e4.symm;split at e5
    ·rename_i Y;exact H g (V g Y)
    ·split at e5<;>cases e5
   ·simp
  ·rw[aZ] at A;cases d:r[i]? with
   |none=>rw[d] at A;cases A
   |some p=>
    rw[d] at A;cases A
    obtain⟨q1,O,_⟩:=c4 i cs p hc d;exact⟨q1,O⟩
 ·rw[aA,<-N,aA]
 ·intro i u x A hx;rw[aZ] at A;rw[<-N,aZ] at hx;cases d:r[i]? with
  |none=>rw[d] at A;cases A
  |some p=>
   rw[d] at A hx;cases A;cases hx
   exact Z p (aE d)
 ·intro i j u u' g A I h1 h2;rw[aZ] at A I;cases d:r[i]? with
  |none=>rw[d] at A;cases A
  | some p=>
   cases hq:r[j]? with
   |none=>rw[hq] at I;cases I
   |some q=>
    rw[d] at A;rw[hq] at I;cases A;cases I
    obtain⟨hi,ei⟩:=Y_.1 d;obtain⟨hj,ej⟩:=Y_.1 hq;have hpw:=dw.1 hapr;rcases oW i j with hlt|heq|hgt
    ·have:=hpw i j hi hj hlt g;rw[ei,ej] at this;exact absurd h2 (this h1)
    ·exact heq
    ·have:=hpw j i hj hi hgt g;rw[ei,ej] at this;exact absurd h1 (this h2)
end Go.Proofs.YtpefhaamcihneaaGreat
