/- Part 5 of what this claim rests on (pack.py). -/
import Derived.Test.YtpefhaamcihneaaGreatP04
namespace Go.Proofs.YtpefhaamcihneaaGreat
open Tryz renaming prog→Gz, results96→IX, underlying51→GA, sizeOf3→GB, isAgg3→GC, results94→IY, results50→IZ, results121→Ja, zeroValue3→GN, results81→Ij, results125→Ik, results51→Jb, call127→Hi, results101→GU, results128→Jf, results68→GY, results66→Jj
set_option linter.unusedSimpArgs false
set_option linter.unusedVariables false
set_option maxRecDepth 100000
set_option maxHeartbeats 2000000
open Go.RowKit
theorem aI:Inf Gz 3 (.int .i64 0) 1 8:=by unfold Inf;kernel_rfl
def eo(a:Int)(b:Int)(c:Int):Option Bool:=(if decide (a>=b) then some (decide (a<=c)) else some false)>>=λd=>some d
def ab(w:World)(r:Bool):Ending->World->Prop:=λe w'=>e=.returned (.bool r)∧Keeps w w'
theorem mf(w:World)(b:Int)(d:Int)(c:Int)(r:Bool)(f:eo b d c=some r):
    Calls Gz 15 #[.int .i64 b,.int .i64 d,.int .i64 c] w (ab w r):=by
 unfold eo at f;have g:Bs (λ_=>1) (col (λ_=>1)) w w:=Bs.start _ _;refine y_ (n:=15) (vs:=[ZI b,ZI d,ZI c]) Tryz.func15 rfl rfl ?_;refine Zq (Za rfl (Ze [(0,_),(1,_),(2,_)] (Zn (Zm rfl (Zm rfl (Zv (da rfl rfl) (Zm rfl ?_)))))));obtain⟨j,c,f⟩:=a_ f;refine bp 4 (λi k=>Fr i 15 [(14,.bool j)]∧Keeps w k) ?_ ?_;all_goals simp only[bi,bk,aR,aG]
 ·have kp:Keeps w w:=Keeps.refl _;rcases aw (decide (b>=d)) with b|b
  ·rw[if_pos b] at c;refine m_ (d_ rfl) dc ⟨_,rfl,Zb b⟩ (m_ (d_ rfl) dc ⟨_,rfl,Zb b⟩ (m_ (ml rfl rfl) dc ⟨_,rfl,Zb b⟩ (Zv (aj (Zb b) rfl) ?_)));have i:=Zj c;refine Ze [(14,_)] ?_;subst i;refine r_ (λa d=>⟨d,kp⟩)
  ·replace c:=ZF b c;refine Zd b (Zd b (Zd b ?_));refine Zv (aa (Zb b) rfl) ?_;have i:=Zj c;refine Ze [(14,_)] ?_;subst i;refine r_ (λa d=>⟨d,kp⟩)
 rintro b k ⟨d,b⟩;have c:=b.stp 999 (col (λ_=>1));replace g:=g.stp c;refine O_ d ?_;refine Za rfl (Zy (i_ ?_));obtain rfl:=Zj f;refine Zr Tryz.results15 [.bool j] ?_;exact⟨rfl,g.keeps⟩
def nt(a:Int)(b:Int):Option Int:=if decide (a<b) then some a else some b
def aT(w:World)(r:Int):Ending->World->Prop:=λe w'=>e=.returned (.int .i64 r)∧Keeps w w'
theorem Bp(w:World)(b:Int)(c:Int)(r:Int)(a:nt b c=some r):
    Calls Gz 96 #[.int .i64 b,.int .i64 c] w (aT w r):=by
 unfold nt at a;have d:Bs (λ_=>1) (col (λ_=>1)) w w:=Bs.start _ _;refine y_ (n:=10) (vs:=[ZI b,ZI c]) Tryz.func96 rfl rfl ?_;refine Zq (Za rfl (Zy (b_ (Zq (Zm rfl (Zm rfl (Zv (o_ rfl rfl) (Zy ?_))))))));refine Zi rfl a (λf a=>?_) (λf a=>?_)
 ·refine Zq (Zm rfl (Za rfl (Zy (i_ (t_ ?_)))));obtain rfl:=Zj a;refine Zr IX [ZI b] ?_;exact⟨rfl,d.keeps⟩
 ·refine f_ (Zn (Zm rfl (Za rfl (Zy (i_ ?_)))));obtain rfl:=Zj a;refine Zr IX [ZI c] ?_;exact⟨rfl,d.keeps⟩
def nq(a:Int):Int->Int->Unit->Option (Lo Unit Bool):=λc b s=>if b==a then some (.ret true) else some (.go ())
def lU(a:Yl)(b:Int):Option Bool:=(forI (nq b) a 0 ())>>=λc=>match c with| .inl _=>some false| .inr d=>some d
theorem DC(w:World)(k:Value)(i:Yl)(m:RdL zt w k i)(b:Int)(r:Bool)(f:lU i b=some r):
    Calls Gz 94 #[k,.int .i64 b] w (ab w r):=by
 unfold lU at f;have c:Bs (λ_=>1) (col (λ_=>1)) w w:=Bs.start _ _;refine y_ (n:=17) (vs:=[k,ZI b]) Tryz.func94 rfl rfl ?_;refine Zq (Za rfl (Zy (b_ (Zq (Zm rfl (Zv (C_ rfl m GA) (Zm rfl (Zy ?_))))))));obtain⟨q,u,f⟩:=a_ f;refine D_ (λa j=>∃(g:Tg),q=.inl ()∧Fr a 17 []∧Bs (λ_=>1) g w j) (λa w'=>∃s,q=.inr s∧bodyPost Gz Tryz.f94 (ab w s) .ret a w') ?_ ?_ ?_
 ·refine k_ ?_;refine B_ (λ(K:Nat) a j=>∃(d:Int),∃(g:Tg),forI (nq b) (i.drop d.toNat) d ()=some q∧(i.drop d.toNat).length=K∧0<=d∧Fr a 17 [(1,ZI b),(7,k),(8,ZI (i.length:Int)),(9,ZI d)]∧Bs (λ_=>1) g w j) _ (λa b=>⟨0,col (λ_=>1),u,rfl,N_ 0,b.sb,c⟩) ?_;rintro k a j ⟨d,g,q,v,x,b,c⟩;by_cases k:d<(i.length:Int)
  ·obtain⟨i,i,y,i,u⟩:=ai x k q;have x:=m.len_le;dsimp only[nq] at i;refine q_ b ?_;refine Zq (Zv (o_ rfl rfl) (Zy (b_ ?_)));refine R_ (Zb (decide_eq_true k)) ?_;refine f_ (nx (b_ (k_ (Zq (Zo ?_)))));refine wf_atZ m y c rfl rfl GA GB ?_;intro m m m m x;cases x
   refine Zv (e_ rfl GC (G_ m)) (Za rfl (Ze [(1,_),(6,_),(7,_),(8,_),(9,_)] (Zn (Zm rfl (Zm rfl (Zv (bg rfl rfl) (Zy ?_)))))));refine Zi rfl i (λm i=>?_) (λm i=>?_)
   ·refine Zq (Za rfl (Zy (i_ (L_ (t_ (t_ (L_ ?_)))))));refine aB ?_;obtain rfl:=Zj i;refine λa b=>⟨_,u,?_⟩;refine J_ (P:=Gz) (vs:=[.bool true]) IY ⟨rfl,trivial⟩ ?_ a b;exact⟨rfl,c.keeps⟩
   ·refine f_ (w_ (nx (h_ (Zv (u_ rfl rfl (n_ om om)) (Zm rfl (Zf (v_ ?_)))))));obtain rfl:=Zj i;refine Zk [(1,_),(7,_),(8,_),(9,_)] ?_;intro a b;exact⟨_,(by rw[<-v];simp only[T_];omega),d+1,g,u,rfl,om,b,c⟩
  ·have d:=ak k q;refine q_ b ?_;refine Zq (Zv (o_ rfl rfl) (Zy (b_ ?_)));refine Q_ (Zb (decide_eq_false k)) ?_;refine z_ ?_;refine g_ (g_ (A_ ?_));refine r_ ?_;refine Zk [] ?_;intro a b;exact⟨g,d,b,c⟩
 ·rintro a j ⟨g,rfl,b,c⟩;dsimp only at f;refine ap_k b ?_;refine Zn (Za rfl (Zy (i_ ?_)));obtain rfl:=Zj f;refine Zr IY [.bool false] ?_;exact⟨rfl,c.keeps⟩
 ·rintro a j ⟨s,rfl,b⟩;dsimp only at f;obtain rfl:=Zj f;exact b
def ns(a:Int)(b:Int):Int->Int->Unit->Option (Lo Unit Bool):=λf c s=>(eo c a b)>>=λd=>if !d then some (.ret false) else some (.go ())
def lV(a:Yl)(b:Int)(c:Int):Option Bool:=(forI (ns b c) a 0 ())>>=λd=>match d with| .inl _=>some true| .inr f=>some f
theorem DS(w:World)(b:Value)(g:Yl)(s:RdL zt w b g)(k:Int)(m:Int)(r:Bool)(i:lV g k m=some r):
    Calls Gz 50 #[b,.int .i64 k,.int .i64 m] w (ab w r):=by
 unfold lV at i;have c:Bs (λ_=>1) (col (λ_=>1)) w w:=Bs.start _ _;refine y_ (n:=21) (vs:=[b,ZI k,ZI m]) Tryz.func50 rfl rfl ?_;refine Zq (Za rfl (Zy (b_ (Zq (Zm rfl (Zv (C_ rfl s GA) (Zm rfl (Zy ?_))))))));obtain⟨q,v,i⟩:=a_ i;refine D_ (λa j=>∃(d:Tg),q=.inl ()∧Fr a 21 []∧Bs (λ_=>1) d w j) (λa w'=>∃u,q=.inr u∧bodyPost Gz Tryz.f50 (ab w u) .ret a w') ?_ ?_ ?_
 ·refine k_ ?_;refine B_ (λ(K:Nat) a j=>∃(f:Int),∃(d:Tg),forI (ns k m) (g.drop f.toNat) f ()=some q∧(g.drop f.toNat).length=K∧0<=f∧Fr a 21 [(1,ZI k),(2,ZI m),(9,b),(10,ZI (g.length:Int)),(11,ZI f)]∧Bs (λ_=>1) d w j) _ (λa b=>⟨0,col (λ_=>1),v,rfl,N_ 0,b.sb,c⟩) ?_;rintro q a j ⟨f,d,v,y,z,b,c⟩;by_cases q:f<(g.length:Int)
  ·obtain⟨e,g,h,g,x⟩:=ai z q v;have z:=s.len_le;dsimp only[ns] at g;refine q_ b ?_;refine Zq (Zv (o_ rfl rfl) (Zy (b_ ?_)));refine R_ (Zb (decide_eq_true q)) ?_;refine f_ (nx (b_ (k_ (Zq (Zo ?_)))));refine wf_atZ s h c rfl rfl GA GB ?_;intro s s s s z;cases z
   refine Zv (e_ rfl GC (G_ s)) (Za rfl (Ze [(1,_),(2,_),(8,_),(9,_),(10,_),(11,_)] (Zn (Zm rfl (Zm rfl (Zm rfl ?_))))));obtain⟨s,z,g⟩:=a_ g;refine Zo ?_;refine j_ (mf j e k m s z) Tryz.call15 ⟨rfl,rfl,rfl,trivial⟩ ?_;rintro k k ⟨rfl,k⟩;have m:=k.stp 999 d;refine⟨_,rfl,?_⟩;replace c:=c.stp m;refine Zv (ag rfl) (Zy ?_);refine Zi rfl g (λk g=>?_) (λk g=>?_)
   ·refine Zq (Za rfl (Zy (i_ (L_ (t_ (t_ (L_ ?_)))))));refine aB ?_;obtain rfl:=Zj g;refine λa b=>⟨_,x,?_⟩;refine J_ (P:=Gz) (vs:=[.bool false]) IZ ⟨rfl,trivial⟩ ?_ a b;exact⟨rfl,c.keeps⟩
   ·refine f_ (w_ (nx (h_ (Zv (u_ rfl rfl (n_ om om)) (Zm rfl (Zf (v_ ?_)))))));obtain rfl:=Zj g;refine Zk [(1,_),(2,_),(9,_),(10,_),(11,_)] ?_;intro a b;exact⟨_,(by rw[<-y];simp only[T_];omega),f+1,d,x,rfl,om,b,c⟩
  ·have f:=ak q v;refine q_ b ?_;refine Zq (Zv (o_ rfl rfl) (Zy (b_ ?_)));refine Q_ (Zb (decide_eq_false q)) ?_;refine z_ ?_;refine g_ (g_ (A_ ?_));refine r_ ?_;refine Zk [] ?_;intro a b;exact⟨d,f,b,c⟩
 ·rintro a j ⟨d,rfl,b,c⟩;dsimp only at i;refine ap_k b ?_;refine Zn (Za rfl (Zy (i_ ?_)));obtain rfl:=Zj i;refine Zr IZ [.bool true] ?_;exact⟨rfl,c.keeps⟩
 ·rintro a j ⟨u,rfl,b⟩;dsimp only at i;obtain rfl:=Zj i;exact b
def eR(a:Yl)(b:Int):Int->Option (Lp Int Int Yl):=λs=>(if decide (s<(a.length:Int)) then(ix a s)>>=λc=>some (decide (c<b)) else some false)>>=λd=>if d then(ck (s+1))>>=λf=>some (.go f) else some (.out s)
def jD(d:Nat)(a:Yl)(c:Int):Option Yl:=(loopF (eR a c) d 0)>>=λf=>match f with| .inl b=>(if decide (b<(a.length:Int)) then(ix a b)>>=λg=>some (g==c) else some false)>>=λi=>if i then some a else(cut a 0 b)>>=λj=>(cat ([]:Yl) j)>>=λk=>(push k c)>>=λm=>(cut a b a.length)>>=λn=>(cat m n)>>=λq=>some q| .inr _=>none
def Dc(d:Tg)(t:Nat)(w:World)(r:Yl):Ending->World->Prop:=λe w'=>∃(a:Value)(c:Tg),e=.returned (a)∧Of 3 c w' a r∧Keeps w w'∧∀b,b<w.heap.size->c b=d b
theorem CU(g:Nat)(w:World)(v:Tg)(t:Nat)(y:2<=t)(m:Value)(x:Yl)(d:Of 3 v w m x)(s:Int)(r:Yl)(f:jD g x s=some r):
    Calls Gz 121 #[m,.int .i64 s] w (Dc v t w r):=by
 unfold jD at f;replace d:=d.col;have c:=d.rd;have b:Bs v (col v) w w:=Bs.start _ _;refine y_ (n:=48) (vs:=[m,ZI s]) Tryz.func121 rfl rfl ?_;generalize col v=o at*;refine Zq (Za rfl (Ze [(0,_),(1,_)] (Zn (Za rfl (Zy ?_)))));obtain⟨i,u,f⟩:=a_ f;refine eX (λa j=>∃(q:Int),∃(k:Tg),i=.inl q∧Fr a 48 [(0,m),(1,ZI s),(5,ZI q)]∧Bs v k w j∧RdL k j m x∧Of 3 k j m x) (λ_ _=>False) ?_ ?_ ?_
 ·refine k_ ?_;refine B_ (λ(K:Nat) a j=>∃(q:Int),∃(k:Tg),loopF (eR x s) K q=some i∧Fr a 48 [(0,m),(1,ZI s),(5,ZI q)]∧Bs v k w j∧RdL k j m x∧Of 3 k j m x) g (λa g=>⟨0,o,u,g.sb,b,c,d⟩) ?_;rintro i a j ⟨q,k,i,g,b,c,d⟩;obtain⟨p,u,u,u,e⟩:=aC i;dsimp only[eR] at u;refine q_ g ?_;refine b_ (Zq (Zm rfl (Zm rfl (Zv (C_ rfl c GA) (Zv (o_ rfl rfl) (Zm rfl ?_))))));obtain⟨i,y,u⟩:=a_ u;refine bp 7 (λz l=>Fr z 48 [(0,m),(1,ZI s),(5,ZI q),(18,.bool i)]∧Keeps j l) ?_ ?_;all_goals simp only[bi,bk,aR,aG]
  ·have kp:Keeps j j:=Keeps.refl _;rcases aw (decide (q<(x.length:Int))) with i|i
   ·rw[if_pos i] at y;refine m_ (d_ rfl) dc ⟨_,rfl,Zb i⟩ (m_ (d_ rfl) dc ⟨_,rfl,Zb i⟩ ?_);obtain⟨z,z,y⟩:=a_ y;refine az dc ⟨_,rfl,Zb i⟩ ?_;refine bR c z rfl rfl GA GB ?_;intro z z z z A;cases A
    refine m_ (e_ rfl GC (G_ z)) dc ⟨_,rfl,Zb i⟩ (m_ (d_ rfl) dc ⟨_,rfl,Zb i⟩ (m_ (o_ rfl rfl) dc ⟨_,rfl,Zb i⟩ (Zv (aj (Zb i) rfl) ?_)));have z:=Zj y;refine Ze [(0,_),(1,_),(5,_),(18,_)] ?_;subst z;refine r_ (λa g=>⟨g,kp⟩)
   ·replace y:=ZF i y;refine Zd i (Zd i (Zd i (Zd i (Zd i (Zd i ?_)))));refine Zv (aa (Zb i) rfl) ?_;have z:=Zj y;refine Ze [(0,_),(1,_),(5,_),(18,_)] ?_;subst z;refine r_ (λa g=>⟨g,kp⟩)
  rintro i l ⟨g,i⟩;have y:=i.stp 999 k;obtain⟨c,d,b⟩:=ZS y (A3 c d b);refine O_ g ?_;refine Zy ?_;refine Zi rfl u (λi u=>?_) (λi u=>?_)
  ·refine f_ (nx (k_ (h_ (Zm rfl ?_))));obtain⟨i,y,u⟩:=a_ u;refine Zv (u_ rfl rfl y) (Za rfl (Zf (w_ (v_ ?_))));obtain rfl:=Zj u;refine Zk [(0,_),(1,_),(5,_)] ?_;intro a g;exact⟨p,om,i,k,e,g,b,c,d⟩
  ·refine z_ ?_;refine g_ (g_ (A_ ?_));refine r_ ?_;obtain rfl:=Zj u;refine Zk [(0,_),(1,_),(5,_)] ?_;intro a g;exact⟨q,k,e,g,b,c,d⟩
 ·rintro a j ⟨q,k,rfl,g,b,c,d⟩;dsimp only at f;refine q_ g ?_;refine b_ (Zq (Zm rfl (Zm rfl (Zv (C_ rfl c GA) (Zv (o_ rfl rfl) (Zm rfl ?_))))));obtain⟨i,u,f⟩:=a_ f;refine bp 7 (λz y=>Fr z 48 [(0,m),(1,ZI s),(5,ZI q),(32,.bool i)]∧Keeps j y) ?_ ?_;all_goals simp only[bi,bk,aR,aG]
  ·have kp:Keeps j j:=Keeps.refl _;rcases aw (decide (q<(x.length:Int))) with i|i
   ·rw[if_pos i] at u;refine m_ (d_ rfl) dc ⟨_,rfl,Zb i⟩ (m_ (d_ rfl) dc ⟨_,rfl,Zb i⟩ ?_);obtain⟨j,j,u⟩:=a_ u;refine az dc ⟨_,rfl,Zb i⟩ ?_;refine bR c j rfl rfl GA GB ?_;intro j j j j q;cases q
    refine m_ (e_ rfl GC (G_ j)) dc ⟨_,rfl,Zb i⟩ (m_ (d_ rfl) dc ⟨_,rfl,Zb i⟩ (m_ (bg rfl rfl) dc ⟨_,rfl,Zb i⟩ (Zv (aj (Zb i) rfl) ?_)));have j:=Zj u;refine Ze [(0,_),(1,_),(5,_),(32,_)] ?_;subst j;refine r_ (λa g=>⟨g,kp⟩)
   ·replace u:=ZF i u;refine Zd i (Zd i (Zd i (Zd i (Zd i (Zd i ?_)))));refine Zv (aa (Zb i) rfl) ?_;have j:=Zj u;refine Ze [(0,_),(1,_),(5,_),(32,_)] ?_;subst j;refine r_ (λa g=>⟨g,kp⟩)
  rintro i y ⟨g,i⟩;have j:=i.stp 999 k;obtain⟨c,d,b⟩:=ZS j (A3 c d b);refine O_ g ?_;refine Zy ?_;refine Zi rfl f (λg f=>?_) (λg f=>?_)
  ·refine Zq (Zm rfl (Za rfl (Zy (i_ (t_ ?_)))));obtain rfl:=Zj f;refine Zr Ja [m] ?_;exact⟨_,rt v k w.heap.size 9 t,rfl,d.rt b 9 t dc,b.keeps,S_ _ _ _ _ _⟩
  ·refine f_ (Zn (Zo ?_));refine dn w.heap.size 11 b.keeps.size (o:=k) (cs:=[]) (xs:=([]:Yl)) (vs:=[]) rfl rfl trivial GA GB GN dc fill0 sy ?_;intro g g g g i;obtain⟨c,d,b⟩:=ZS i (A3 c d b);refine Zm rfl (Zm rfl ?_);obtain⟨i,i,f⟩:=a_ f;refine Zo ?_;refine jL c i rfl rfl rfl GA GB ?_;intro i i;obtain⟨j,j,f⟩:=a_ f;refine Zo ?_;refine am g i j dc b.keeps.size rfl rfl GA aI rfl dc ?_;intro i g g g j;obtain⟨c,d,b⟩:=ZS j (A3 c d b);refine Za rfl (Ze [(0,_),(1,_),(5,_),(6,_)] (Zn (Zm rfl (Zm rfl (Zo ?_)))));refine ap (o:=i) (cs:=[ZI s]) (xs:=([s]:Yl)) (vs:=[(0,ZI s)]) ⟨_,_,rfl,rfl,rfl⟩ rfl ⟨rfl,rfl,trivial⟩ GA GB GN dc (fill1 rfl) sy ?_;intro i i i i j k;obtain⟨c,d,g,b⟩:=ZS j (A4 c d g b);obtain⟨j,j,f⟩:=a_ f;refine Zo ?_;refine am g i (av j) dc b.keeps.size rfl rfl GA aI rfl dc ?_;intro g g g g i;obtain⟨c,d,b⟩:=ZS i (A3 c d b);refine Za rfl (Ze [(0,_),(5,_),(6,_)] (Zn (Zm rfl (Zm rfl (Zm rfl ?_)))));obtain⟨i,i,f⟩:=a_ f;refine Zo ?_;refine jL c i rfl rfl rfl GA GB ?_;intro i i;obtain⟨j,j,f⟩:=a_ f;refine Zo ?_;refine am g i j dc b.keeps.size rfl rfl GA aI rfl dc ?_;intro B g C g i;obtain⟨c,d,b⟩:=ZS i (A3 c d b);refine Za rfl (Zy (i_ ?_));have D:=g.frzF;replace b:=b.frz 11 dc;generalize (frz 11 B)=E at*;obtain rfl:=Zj f;refine Zr Ja [C] ?_;exact⟨_,rt v E w.heap.size 9 t,rfl,D.rt b 9 t dc,b.keeps,S_ _ _ _ _ _⟩
 ·exact λ_ _ h=>h.elim
def ch(a:Yl):Option Yl:=(cat ([]:Yl) a)>>=λb=>some b
def el(d:Tg)(t:Nat)(w:World)(r:Yl):Ending->World->Prop:=λe w'=>∃(a:Value)(c:Tg),e=.returned (a)∧Ow w.heap.size 3 t c w' a r∧Keeps w w'∧∀b,b<w.heap.size->c b=d b
theorem cZ(w:World)(b:Tg)(t:Nat)(d:2<=t)(d:Value)(f:Yl)(g:RdL zt w d f)(r:Yl)(c:ch f=some r):
    Calls Gz 63 #[d] w (el b t w r):=by
 unfold ch at c;have a:Bs b (col b) w w:=Bs.start _ _;refine y_ (n:=6) (vs:=[d]) Tryz.func63 rfl rfl ?_;generalize col b=o at*;refine Zq (Za rfl (Ze [(0,_)] (Zn (Zo ?_))));refine dn w.heap.size 11 a.keeps.size (o:=o) (cs:=[]) (xs:=([]:Yl)) (vs:=[]) rfl rfl trivial GA GB GN dc fill0 sy ?_;intro k m q i j;replace a:=a.stp j;refine Zm rfl ?_;obtain⟨d,d,c⟩:=a_ c;refine Zo ?_;refine ol i (g.keep a.keeps) d dc a.keeps.size (λ_ _ h=>h) rfl rfl GA aI rfl dc ?_;intro d f f g i;replace a:=a.stp i;refine Za rfl (Zy (i_ ?_));obtain rfl:=Zj c;refine Zr Tryz.results63 [f] ?_;exact⟨_,rt b d w.heap.size 11 t,rfl,g.rt a dc t,a.keeps,S_ _ _ _ _ _⟩
def lK(a:Int):Option Int:=if decide (a>0) then some 1 else if decide (a<0) then some (-1) else some 0
theorem BN(w:World)(b:Int)(r:Int)(a:lK b=some r):
    Calls Gz 81 #[.int .i64 b] w (aT w r):=by
 unfold lK at a;have c:Bs (λ_=>1) (col (λ_=>1)) w w:=Bs.start _ _;refine y_ (n:=9) (vs:=[ZI b]) Tryz.func81 rfl rfl ?_;refine Zq (Za rfl (Zy (b_ (k_ (Zq (Zm rfl (Zv (bK rfl rfl) (Za rfl (Zy ?_)))))))));refine Zi rfl a (λb a=>?_) (λb a=>?_)
 ·refine Zq (Za rfl (Zy (i_ (L_ (t_ ?_)))));obtain rfl:=Zj a;refine Zr Ij [ZI 1] ?_;exact⟨rfl,c.keeps⟩
 ·refine Zq (Zm rfl (Zv (o_ rfl rfl) (Za rfl (Zy ?_))));refine Zi rfl a (λb a=>?_) (λb a=>?_)
  ·refine Zq (Za rfl (Zy (i_ (L_ (t_ ?_)))));obtain rfl:=Zj a;refine Zr Ij [ZI (-1)] ?_;exact⟨rfl,c.keeps⟩
  ·refine f_ (w_ (Zn (Za rfl (Zy (i_ ?_)))));obtain rfl:=Zj a;refine Zr Ij [ZI 0] ?_;exact⟨rfl,c.keeps⟩
def ni(b:Yl)(c:Yl):Int->Unit->Option (Lo Unit Bool):=λa s=>(ix b a)>>=λd=>(ix c a)>>=λf=>if d !=f then some (.ret false) else some (.go ())
def jn(a:Yl)(b:Yl):Option Bool:=if(a.length:Int) !=(b.length:Int) then some false else ck (a.length:Int)>>=λ_=>(forN (ni a b) ((a.length:Int)).toNat 0 ())>>=λc=>match c with| .inl _=>some true| .inr d=>some d
theorem uH(w:World)(q:Value)(j:Yl)(u:RdL zt w q j)(s:Value)(x:Yl)(z:RdL zt w s x)(r:Bool)(f:jn j x=some r):
    Calls Gz 125 #[q,s] w (ab w r):=by
 unfold jn at f;have d:Bs (λ_=>1) (col (λ_=>1)) w w:=Bs.start _ _;refine y_ (n:=26) (vs:=[q,s]) Tryz.func125 rfl rfl ?_;refine Zq (Za rfl (Zy (b_ (Zq (Zm rfl (Zv (C_ rfl u GA) (Zm rfl (Zv (C_ rfl z GA) (Zv (aP rfl rfl) (Zy ?_))))))))));refine Zi rfl f (λb f=>?_) (λb f=>?_)
 ·refine Zq (Za rfl (Zy (i_ (t_ ?_))));obtain rfl:=Zj f;refine Zr Ik [.bool false] ?_;exact⟨rfl,d.keeps⟩
 ·refine f_ (nx (b_ (Zq (Zm rfl (Zv (C_ rfl u GA) (Zm rfl (Zy ?_)))))));obtain⟨b,b,f⟩:=a_ f;obtain⟨-,g,g⟩:=bl b;obtain⟨b,i,f⟩:=a_ f;refine D_ (λa k=>∃(m:Tg),b=.inl ()∧Fr a 26 []∧Bs (λ_=>1) m w k) (λa w'=>∃l,b=.inr l∧bodyPost Gz Tryz.f125 (ab w l) .ret a w') ?_ ?_ ?_
  ·refine k_ ?_;refine B_ (λ(K:Nat) a k=>∃(g:Int),∃(m:Tg),forN (ni j x) ((j.length:Int)-g).toNat g ()=some b∧((j.length:Int)-g).toNat=K∧0<=g∧Fr a 26 [(0,q),(1,s),(12,ZI (j.length:Int)),(13,ZI g)]∧Bs (λ_=>1) m w k) _ (λa b=>⟨0,col (λ_=>1),i,rfl,N_ 0,b.sb,d⟩) ?_;rintro i a k ⟨g,m,p,C,i,b,d⟩;by_cases y:g<(j.length:Int)
   ·obtain⟨i,i,t⟩:=bB y p;dsimp only[ni] at i;refine q_ b ?_;refine Zq (Zv (o_ rfl rfl) (Zy (b_ ?_)));refine R_ (Zb (decide_eq_true y)) ?_;refine f_ (nx (b_ (k_ (Zq (Zm rfl (Za rfl (Zy (b_ ?_))))))));obtain⟨D,A,i⟩:=a_ i;obtain⟨E,B,i⟩:=a_ i;refine ZW (Bf:=λF G=>Bs (λ_=>1) F w G) [(0,_),(1,_),(5,_),(12,_),(13,_)] (Zrg 16 8) [[],[],[0,1],[2],[],[],[4,5],[6]] (Zcn 8) (Zt9 8) (Zt0 8) [999] [.inl q,.inl (ZI g),.inr (λv o q=>∃vl,v=adr vl (g.toNat*Rp.sz Int)∧RdL zt w vl j),.inl (ZI D),.inl s,.inl (ZI g),.inr (λv o q=>∃vl,v=adr vl (g.toNat*Rp.sz Int)∧RdL zt w vl x),.inl (ZI E)] d ⟨λ_ _ _ _ _ _ j hb ⟨vl,e,h⟩ hs=>⟨vl,e,h⟩,λ_ _ _ _ _ _ j hb ⟨vl,e,h⟩ hs=>⟨vl,e,h⟩,trivial⟩ ?_ ?_
    ·refine⟨Dp (d_ rfl),Dp (d_ rfl),?_,?_,Dp (d_ rfl),Dp (d_ rfl),?_,?_,trivial⟩
     ·rintro j j j b- -;refine Zs b ?_;refine aN u A rfl rfl GA GB ?_;exact⟨_,Stp.refl _ _ _,⟨_,rfl,u⟩⟩
     ·rintro j j j b d ⟨j,-⟩;obtain⟨q,q,s⟩:=j;have b:=b.c q;refine Zs b ?_;refine bV s A d rfl rfl GC ?_;intro j j;cases j
      exact Zx rfl
     ·rintro j j j b- -;refine Zs b ?_;refine aN z B rfl rfl GA GB ?_;exact⟨_,Stp.refl _ _ _,⟨_,rfl,z⟩⟩
     ·rintro j j j b d ⟨j,-⟩;obtain⟨q,q,s⟩:=j;have b:=b.c q;refine Zs b ?_;refine bV s B d rfl rfl GC ?_;intro j j;cases j
      exact Zx rfl
    rintro _ rfl j q q b d-;refine O_ b ?_;refine Zv (aP rfl rfl) (Zy ?_);refine Zi rfl i (λq i=>?_) (λq i=>?_)
    ·refine Zq (Za rfl (Zy (i_ (L_ (t_ (t_ (L_ ?_)))))));refine aB ?_;obtain rfl:=Zj i;refine λa b=>⟨_,t,?_⟩;refine J_ (P:=Gz) (vs:=[.bool false]) Ik ⟨rfl,trivial⟩ ?_ a b;exact⟨rfl,d.keeps⟩
    ·refine f_ (w_ (nx (h_ (Zv (u_ rfl rfl (n_ om om)) (Zm rfl (Zf (v_ ?_)))))));obtain rfl:=Zj i;refine Zk [(0,_),(1,_),(12,_),(13,_)] ?_;intro a b;exact⟨_,(by rw[<-C];omega),g+1,j,t,rfl,om,b,d⟩
   ·have g:=bA y p;refine q_ b ?_;refine Zq (Zv (o_ rfl rfl) (Zy (b_ ?_)));refine Q_ (Zb (decide_eq_false y)) ?_;refine z_ ?_;refine g_ (g_ (A_ ?_));refine r_ ?_;refine Zk [] ?_;intro a b;exact⟨m,g,b,d⟩
  ·rintro a k ⟨m,rfl,b,d⟩;dsimp only at f;refine ap_k b ?_;refine Zn (Za rfl (Zy (i_ ?_)));obtain rfl:=Zj f;refine Zr Ik [.bool true] ?_;exact⟨rfl,d.keeps⟩
  ·rintro a k ⟨l,rfl,b⟩;dsimp only at f;obtain rfl:=Zj f;exact b
def kA(a:Yl):Int->Int->Yl->Option (Lp Yl Yl Yl):=λf b s=>(ix a b)>>=λc=>(push s c)>>=λd=>some (.go d)
def fF(a:Yl)(b:Yl):Option Yl:=(forI (kA a) b 0 [])>>=λc=>match c with| .inl d=>some d| .inr _=>none
theorem pi(w:World)(j:Tg)(t:Nat)(c:2<=t)(u:Value)(d:Yl)(l:RdL zt w u d)(v:Value)(k:Yl)(z:RdL zt w v k)(r:Yl)(x:fF d k=some r):
    Calls Gz 57 #[u,v] w (el j t w r):=by
 unfold fF at x;have b:Bs j (col j) w w:=Bs.start _ _;refine y_ (n:=23) (vs:=[u,v]) Tryz.func57 rfl rfl ?_;generalize col j=o at*;refine Zq (Za rfl (Ze [(0,_),(1,_)] (Zn (Za rfl (Zy (b_ (Zq (Zm rfl (Zv (C_ rfl z GA) (Zm rfl (Ze [(0,_),(5,_),(8,_),(9,_),(10,_)] ?_)))))))))));refine nx ?_;have s:Oz w 3 11 o w (.slice none 0 0) ([]:Yl):=Ow.nil _ _ _ _ _;obtain⟨q,y,x⟩:=a_ x;refine D_ (λa m=>∃i f c,q=.inl i∧Fr a 23 [(5,f)]∧Bs j c w m∧Oz w 3 11 c m f i) (λ_ _=>False) ?_ ?_ ?_
 ·refine k_ ?_;refine B_ (λ(K:Nat) a m=>∃(g:Int),∃i f c,forI (kA d) (k.drop g.toNat) g i=some q∧(k.drop g.toNat).length=K∧0<=g∧Fr a 23 [(0,u),(5,f),(8,v),(9,ZI (k.length:Int)),(10,ZI g)]∧Bs j c w m∧Oz w 3 11 c m f i) _ (λa d=>⟨0,[],.slice none 0 0,o,y,rfl,N_ 0,d.sb,b,s⟩) ?_;rintro q a m ⟨g,i,f,c,e,p,A,d,b,q⟩;by_cases y:g<(k.length:Int)
  ·obtain⟨s,s,B,s,C⟩:=ai A y e;have A:=z.len_le;dsimp only[kA] at s;refine q_ d ?_;refine Zq (Zv (o_ rfl rfl) (Zy (b_ ?_)));refine R_ (Zb (decide_eq_true y)) ?_;refine f_ (nx (b_ (k_ (Zq (Zo ?_)))));refine wf_atZ z B b rfl rfl GA GB ?_;intro z z z z A;cases A
   refine Zv (e_ rfl GC (G_ z)) (Za rfl (Zy (h_ (Zm rfl (Zm rfl (Zm rfl ?_))))));obtain⟨z,A,s⟩:=a_ s;refine Zo ?_;refine wf_atZ l A b rfl rfl GA GB ?_;intro l l l l A;cases A
   refine Zv (e_ rfl GC (G_ l)) (Zo ?_);refine ap (o:=c) (cs:=[ZI z]) (xs:=([z]:Yl)) (vs:=[(0,ZI z)]) ⟨_,_,rfl,rfl,rfl⟩ rfl ⟨rfl,rfl,trivial⟩ GA GB GN dc (fill1 rfl) sy ?_;intro z z z z l A;obtain⟨q,b⟩:=ZS l (A2 q b);obtain⟨l,A,s⟩:=a_ s;refine Zo ?_;refine am q z (av A) dc b.keeps.size rfl rfl GA aI rfl dc ?_;intro A z z B D;replace b:=b.stp D;refine Za rfl (Ze [(0,u),(5,z),(8,v),(9,ZI (k.length:Int)),(10,ZI g)] (w_ (nx (h_ (Zv (u_ rfl rfl (n_ om om)) (Zm rfl (Zf (v_ ?_))))))));obtain rfl:=Zj s;refine Zk [(0,_),(5,_),(8,_),(9,_),(10,_)] ?_;intro a d;exact⟨_,(by rw[<-p];simp only[T_];omega),g+1,l,z,A,C,rfl,om,d,b,B⟩
  ·have g:=ak y e;refine q_ d ?_;refine Zq (Zv (o_ rfl rfl) (Zy (b_ ?_)));refine Q_ (Zb (decide_eq_false y)) ?_;refine z_ ?_;refine g_ (g_ (A_ ?_));refine r_ ?_;refine Zk [(5,_)] ?_;intro a d;exact⟨i,f,c,g,d,b,q⟩
 ·rintro a m ⟨i,f,c,rfl,d,b,q⟩;dsimp only at x;refine ap_k d ?_;refine Zn (Zm rfl (Za rfl (Zy (i_ ?_))));obtain rfl:=Zj x;refine Zr Tryz.results57 [f] ?_;exact⟨_,rt j c w.heap.size 11 t,rfl,q.rt b dc t,b.keeps,S_ _ _ _ _ _⟩
 ·exact λ_ _ h=>h.elim
def mZ(a:Yl):Int->Int->Unit->Option (Lo Unit Int):=λb c s=>(ix a b)>>=λd=>if c !=d then(ix a b)>>=λf=>(ck (c-f))>>=λg=>(lK g)>>=λi=>some (.ret i) else some (.go ())
def fL(a:Yl)(b:Yl):Option Int:=(forI (mZ b) a 0 ())>>=λc=>match c with| .inl _=>some 0| .inr d=>some d
theorem tz(w:World)(d:Value)(b:Yl)(m:RdL zt w d b)(k:Value)(q:Yl)(v:RdL zt w k q)(r:Int)(i:fL b q=some r):
    Calls Gz 51 #[d,k] w (aT w r):=by
 unfold fL at i;have c:Bs (λ_=>1) (col (λ_=>1)) w w:=Bs.start _ _;refine y_ (n:=28) (vs:=[d,k]) Tryz.func51 rfl rfl ?_;refine Zq (Za rfl (Zy (b_ (Zq (Zm rfl (Zv (C_ rfl m GA) (Zm rfl (Zy ?_))))))));obtain⟨s,x,i⟩:=a_ i;refine D_ (λa j=>∃(f:Tg),s=.inl ()∧Fr a 28 []∧Bs (λ_=>1) f w j) (λa w'=>∃u,s=.inr u∧bodyPost Gz Tryz.f51 (aT w u) .ret a w') ?_ ?_ ?_
 ·refine k_ ?_;refine B_ (λ(K:Nat) a j=>∃(g:Int),∃(f:Tg),forI (mZ q) (b.drop g.toNat) g ()=some s∧(b.drop g.toNat).length=K∧0<=g∧Fr a 28 [(1,k),(7,d),(8,ZI (b.length:Int)),(9,ZI g)]∧Bs (λ_=>1) f w j) _ (λa d=>⟨0,col (λ_=>1),x,rfl,N_ 0,d.sb,c⟩) ?_;rintro k a j ⟨g,f,q,x,y,d,c⟩;by_cases k:g<(b.length:Int)
  ·obtain⟨b,b,z,b,s⟩:=ai y k q;have y:=m.len_le;dsimp only[mZ] at b;refine q_ d ?_;refine Zq (Zv (o_ rfl rfl) (Zy (b_ ?_)));refine R_ (Zb (decide_eq_true k)) ?_;refine f_ (nx (b_ (k_ (Zq (Zm rfl (Zo ?_))))));refine wf_atZ m z c rfl rfl GA GB ?_;intro m m m m y;cases y
   refine Zv (e_ rfl GC (G_ m)) (Za rfl (Za rfl (Ze [(1,_),(5,_),(6,_),(7,_),(8,_),(9,_)] (Zn (Zm rfl (Zm rfl (Zm rfl ?_)))))));obtain⟨m,m,b⟩:=a_ b;refine Zo ?_;refine wf_atZ v m c rfl rfl GA GB ?_;intro m m m m y;cases y
   refine Zv (e_ rfl GC (G_ m)) (Zv (aP rfl rfl) (Zy ?_));refine Zi rfl b (λm b=>?_) (λm b=>?_)
   ·refine Zq (Zm rfl (Zm rfl (Zm rfl ?_)));obtain⟨m,m,b⟩:=a_ b;refine Zo ?_;refine wf_atZ v m c rfl rfl GA GB ?_;intro m m m m v;cases v
    refine Zv (e_ rfl GC (G_ m)) ?_;obtain⟨v,m,b⟩:=a_ b;refine Zv (aD rfl rfl m) ?_;obtain⟨m,y,b⟩:=a_ b;refine Zo ?_;refine j_ (BN j v m y) Tryz.call81 ⟨rfl,trivial⟩ ?_;rintro v v ⟨rfl,v⟩;have y:=v.stp 999 f;refine⟨_,rfl,?_⟩;replace c:=c.stp y;refine Za rfl (Zy (i_ (L_ (t_ (t_ (L_ ?_))))));refine aB ?_;obtain rfl:=Zj b;refine λa d=>⟨_,s,?_⟩;refine J_ (P:=Gz) (vs:=[ZI m]) Jb ⟨rfl,trivial⟩ ?_ a d;exact⟨rfl,c.keeps⟩
   ·refine f_ (w_ (nx (h_ (Zv (u_ rfl rfl (n_ om om)) (Zm rfl (Zf (v_ ?_)))))));obtain rfl:=Zj b;refine Zk [(1,_),(7,_),(8,_),(9,_)] ?_;intro a d;exact⟨_,(by rw[<-x];simp only[T_];omega),g+1,f,s,rfl,om,d,c⟩
  ·have b:=ak k q;refine q_ d ?_;refine Zq (Zv (o_ rfl rfl) (Zy (b_ ?_)));refine Q_ (Zb (decide_eq_false k)) ?_;refine z_ ?_;refine g_ (g_ (A_ ?_));refine r_ ?_;refine Zk [] ?_;intro a d;exact⟨f,b,d,c⟩
 ·rintro a j ⟨f,rfl,d,c⟩;dsimp only at i;refine ap_k d ?_;refine Zn (Za rfl (Zy (i_ ?_)));obtain rfl:=Zj i;refine Zr Jb [ZI 0] ?_;exact⟨rfl,c.keeps⟩
 ·rintro a j ⟨u,rfl,b⟩;dsimp only at i;obtain rfl:=Zj i;exact b
def fC:(Yl×Int)->Option (Lo (Yl×Int) Yl):=λs=>(if decide (s.2>0) then(ck (s.2-1))>>=λc=>(ix s.1 c)>>=λd=>(ix s.1 s.2)>>=λf=>some (decide (d>f)) else some false)>>=λg=>if g then(ix s.1 s.2)>>=λi=>(ck (s.2-1))>>=λj=>(ix s.1 j)>>=λk=>(ix s.1 s.2)>>=λq=>(st s.1 s.2 k)>>=λa=>(ck (s.2-1))>>=λb=>(ix a b)>>=λu=>(st a b i)>>=λm=>(ck (s.2-1))>>=λn=>some (.go (m,n)) else some (.out (s.1,s.2))
def fB(a:Nat):Int->Yl->Option (Lp Yl Yl Yl):=λb s=>(loopF (fC) a (s,b))>>=λc=>match c with| .inl (d,f)=>some (.go d)| .inr _=>none
def dH(b:Nat)(c:Yl):Option Yl:=(ch c)>>=λa=>ck (a.length:Int)>>=λ_=>(forN (fB b) ((a.length:Int)).toNat 0 a)>>=λd=>match d with| .inl f=>some f| .inr _=>none
theorem ja(i:Nat)(w:World)(q:Tg)(t:Nat)(b:2<=t)(b:Value)(j:Yl)(m:RdL zt w b j)(r:Yl)(y:dH i j=some r):
    Calls Gz 92 #[b] w (el q t w r):=by
 unfold dH at y;have d:Bs q (col q) w w:=Bs.start _ _;refine y_ (n:=50) (vs:=[b]) Tryz.func92 rfl rfl ?_;generalize col q=o at*;refine Zq (Za rfl (Ze [(0,_)] (Zn (Zm rfl ?_))));obtain⟨g,s,y⟩:=a_ y;refine Zo ?_;refine j_ (cZ w o 11 dc _ j (m.keep d.keeps) g s) Tryz.call63 ⟨rfl,trivial⟩ ?_;rintro p A ⟨k,u,rfl,f,x,z⟩;have l:=x.stp' 11 z;replace f:=f.mono d.keeps.size;refine⟨_,rfl,?_⟩;replace d:=d.stp l;refine Za rfl (Zy (b_ (Zq (Zm rfl (Zv (aU rfl f GA) (Zm rfl (Zy ?_)))))));obtain⟨b,b,y⟩:=a_ y;obtain⟨-,j,j⟩:=bl b;obtain⟨b,j,y⟩:=a_ y;refine D_ (λa p=>∃z x,b=.inl z∧Fr a 50 [(3,k)]∧Bs q x w p∧Oz w 3 11 x p k z) (λ_ _=>False) ?_ ?_ ?_
 ·refine k_ ?_;refine B_ (λ(K:Nat) a p=>∃(s:Int),∃z x,forN (fB i) ((g.length:Int)-s).toNat s z=some b∧((g.length:Int)-s).toNat=K∧0<=s∧Fr a 50 [(3,k),(10,ZI (g.length:Int)),(11,ZI s)]∧Bs q x w p∧Oz w 3 11 x p k z) _ (λa b=>⟨0,g,u,j,rfl,N_ 0,b.sb,d,f⟩) ?_;rintro f a p ⟨s,z,x,J,P,f,b,d,F⟩;by_cases G:s<(g.length:Int)
  ·obtain⟨f,B,Q⟩:=bB G J;dsimp only[fB] at B;refine q_ b ?_;refine Zq (Zv (o_ rfl rfl) (Zy (b_ ?_)));refine R_ (Zb (decide_eq_true G)) ?_;refine f_ (nx (b_ (k_ (Zq (Zm rfl (Za rfl (Ze [(3,_),(4,_),(10,_),(11,_)] (Zn (Zm rfl (Za rfl (Zy ?_)))))))))));obtain⟨f,u,B⟩:=a_ B;refine D_ (λa A=>∃(m:Yl),∃(j:Int),∃(l:Tg),f=.inl (m,j)∧Fr a 50 [(3,k),(10,ZI (g.length:Int)),(11,ZI s)]∧Bs q l w A∧Oz w 3 11 l A k m) (λ_ _=>False) ?_ ?_ ?_
   ·refine k_ ?_;refine B_ (λ(K:Nat) a A=>∃(m:Yl),∃(j:Int),∃(l:Tg),loopF (fC) K (m,j)=some f∧Fr a 50 [(3,k),(5,ZI j),(10,ZI (g.length:Int)),(11,ZI s)]∧Bs q l w A∧Oz w 3 11 l A k m) i (λa b=>⟨z,s,x,u,b.sb,d,F⟩) ?_;rintro f a A ⟨m,j,l,u,b,d,i⟩;obtain⟨R,f,f,f,L⟩:=aC u;dsimp only[fC] at f;refine q_ b ?_;refine b_ (b_ ?_);obtain⟨D,u,f⟩:=a_ f;refine D_ (λE H=>∃C:Tg,Fr E 50 [(3,k),(5,ZI j),(10,ZI (g.length:Int)),(11,ZI s),(28,.bool D)]∧Bs q C w H∧Oz w 3 11 C H k m) (λ_ _=>False) ?_ ?_ (λ_ _ h=>h.elim)
    ·rcases aw (decide (j>0)) with g|g
     ·rw[if_pos g] at u;obtain⟨M,S,u⟩:=a_ u;obtain⟨T,N,u⟩:=a_ u;obtain⟨U,O,u⟩:=a_ u;refine ZW (Bf:=λD E=>Bs q D w E∧Oz w 3 11 D E k m) [(3,_),(5,_),(10,_),(11,_)] (Zrg 15 12) [[],[0],[1],[2],[2],[2,4],[2,3,5],[2,6],[2],[2],[2,8,9],[2,10]] (Zcn 12) (Zt9 12) [0,0,0,0,0,0,11,0,0,0,11,0] [999] [.inl (ZI j),.inl (.bool (decide (j>0))),.inl (.bool (decide (j>0))),.inl k,.inl (ZI j),.inl (ZI M),.inr (λv o I=>∃vl,v=adr vl (M.toNat*Rp.sz Int)∧Oz w 3 11 o I vl m),.inl (ZI T),.inl k,.inl (ZI j),.inr (λv o I=>∃vl,v=adr vl (j.toNat*Rp.sz Int)∧Oz w 3 11 o I vl m),.inl (ZI U)] ⟨d,i⟩ ⟨λ_ _ _ _ _ _ I hb ⟨vl,e,h⟩ hs=>⟨vl,e,h.stp hs I.1 (V_ hb)⟩,λ_ _ _ _ _ _ I hb ⟨vl,e,h⟩ hs=>⟨vl,e,h.stp hs I.1 (V_ hb)⟩,trivial⟩ ?_ ?_
      ·refine⟨Dp (d_ rfl),Dp (bK rfl rfl),Dp (d_ rfl),Dp (d_ rfl) (⟨_,rfl,Zb g⟩),Dp (d_ rfl) (⟨_,rfl,Zb g⟩),Dp (aD rfl rfl S) (⟨_,rfl,Zb g⟩),?_,?_,Dp (d_ rfl) (⟨_,rfl,Zb g⟩),Dp (d_ rfl) (⟨_,rfl,Zb g⟩),?_,?_,trivial⟩
       ·rintro I I I b ⟨-,i⟩-;refine bJ b (⟨_,rfl,Zb g⟩) ?_;refine cg i N rfl rfl GA GB ?_;exact⟨_,Stp.refl _ _ _,⟨_,rfl,i⟩⟩
       ·rintro I I I b- ⟨I,-⟩;obtain⟨M,M,S⟩:=I;have b:=b.c M;refine bJ b (⟨_,rfl,Zb g⟩) ?_;refine bW S N rfl rfl GC ?_;intro I I;cases I
        exact Zx rfl
       ·rintro I I I b ⟨-,i⟩-;refine bJ b (⟨_,rfl,Zb g⟩) ?_;refine cg i O rfl rfl GA GB ?_;exact⟨_,Stp.refl _ _ _,⟨_,rfl,i⟩⟩
       ·rintro I I I b- ⟨I,-⟩;obtain⟨M,M,N⟩:=I;have b:=b.c M;refine bJ b (⟨_,rfl,Zb g⟩) ?_;refine bW N O rfl rfl GC ?_;intro I I;cases I
        exact Zx rfl
      rintro _ rfl I M M b ⟨d,i⟩-;refine O_ b ?_;refine m_ (bK rfl rfl) dc ⟨_,rfl,Zb g⟩ (Zv (aj (Zb g) rfl) ?_);obtain rfl:=Zj u;refine Ze [(3,_),(5,_),(10,_),(11,_),(28,_)] ?_;refine r_ (λa b=>⟨I,b,d,i⟩)
     ·replace u:=ZF g u;refine ZW (Bf:=λD E=>Bs q D w E∧Oz w 3 11 D E k m) [(3,_),(5,_),(10,_),(11,_)] (Zrg 15 12) [[],[0],[1],[2],[2],[2],[2],[2],[2],[2],[2],[2]] (Zcn 12) (Zt9 12) (Zt0 12) [999] [.inl (ZI j),.inl (.bool (decide (j>0))),.inl (.bool (decide (j>0))),.inl undef,.inl undef,.inl undef,.inl undef,.inl undef,.inl undef,.inl undef,.inl undef,.inl undef] ⟨d,i⟩ trivial ?_ ?_
      ·exact⟨Dp (d_ rfl),Dp (bK rfl rfl),Dp (d_ rfl),Dn rfl rfl rfl (by rw[g];rfl),Dn rfl rfl rfl (by rw[g];rfl),Dn rfl rfl rfl (by rw[g];rfl),Dn rfl rfl rfl (by rw[g];rfl),Dn rfl rfl rfl (by rw[g];rfl),Dn rfl rfl rfl (by rw[g];rfl),Dn rfl rfl rfl (by rw[g];rfl),Dn rfl rfl rfl (by rw[g];rfl),Dn rfl rfl rfl (by rw[g];rfl),trivial⟩
      rintro _ rfl D E E b ⟨d,i⟩-;refine O_ b ?_;refine Zd g ?_;refine Zv (aa (Zb g) rfl) ?_;obtain rfl:=Zj u;refine Ze [(3,_),(5,_),(10,_),(11,_),(28,_)] ?_;refine r_ (λa b=>⟨D,b,d,i⟩)
    rintro g H ⟨C,b,d,i⟩;refine ap_k b ?_;refine nx ?_;refine Zi rfl f (λg f=>?_) (λg f=>?_)
    ·refine f_ (nx (b_ (k_ (Zq (Zm rfl (Zm rfl ?_))))));obtain⟨g,g,f⟩:=a_ f;refine Zo ?_;refine ci i g rfl rfl GA GB ?_;intro g g g g u;cases u
     refine Zv (e_ rfl GC (G_ g)) (Za rfl (Ze [(3,_),(5,_),(6,_),(10,_),(11,_)] (Zn (Zm rfl (Zm rfl (Zm rfl (Zm rfl ?_)))))));obtain⟨g,g,f⟩:=a_ f;refine Zv (aD rfl rfl g) ?_;obtain⟨g,g,f⟩:=a_ f;refine Zo ?_;refine ci i g rfl rfl GA GB ?_;intro g g g g u;cases u
     refine Zv (e_ rfl GC (G_ g)) ?_;obtain⟨g,g,f⟩:=a_ f;refine Zo ?_;refine bI i g rfl rfl GA GB ?_;intro g g g u u;cases u
     obtain⟨u,u,f⟩:=a_ f;refine E_ trivial ?_;refine bH i g u rfl dc rfl rfl rfl GB rfl ?_;intro g g u;replace d:=d.stp u;refine Zy (h_ (Zm rfl (Zm rfl ?_)));obtain⟨u,u,f⟩:=a_ f;refine Zv (aD rfl rfl u) (Zm rfl ?_);obtain⟨u,u,f⟩:=a_ f;refine Zo ?_;refine bI g u rfl rfl GA GB ?_;intro u u u D D;cases D
     obtain⟨D,E,f⟩:=a_ f;refine E_ trivial ?_;refine bH g u E rfl dc rfl rfl rfl GB rfl ?_;intro g g u;replace d:=d.stp u;refine Ze [(3,_),(5,_),(10,_),(11,_)] (w_ (nx (h_ (Zm rfl ?_))));obtain⟨u,E,f⟩:=a_ f;refine Zv (aD rfl rfl E) (Za rfl (Zf (v_ ?_)));obtain rfl:=Zj f;refine Zk [(3,_),(5,_),(10,_),(11,_)] ?_;intro a b;exact⟨R,om,D,u,C,L,b,d,g⟩
    ·refine z_ ?_;refine g_ (g_ (A_ ?_));refine r_ ?_;obtain rfl:=Zj f;refine Zk [(3,_),(10,_),(11,_)] ?_;intro a b;exact⟨m,j,C,L,b,d,i⟩
   ·rintro a A ⟨m,j,l,rfl,b,d,i⟩;dsimp only at B;refine ap_k b ?_;refine w_ (nx (h_ (Zv (u_ rfl rfl (n_ om om)) (Zm rfl (Zf (v_ ?_))))));obtain rfl:=Zj B;refine Zk [(3,_),(10,_),(11,_)] ?_;intro a b;exact⟨_,(by rw[<-P];omega),s+1,m,l,Q,rfl,om,b,d,i⟩
   ·exact λ_ _ h=>h.elim
  ·have f:=bA G J;refine q_ b ?_;refine Zq (Zv (o_ rfl rfl) (Zy (b_ ?_)));refine Q_ (Zb (decide_eq_false G)) ?_;refine z_ ?_;refine g_ (g_ (A_ ?_));refine r_ ?_;refine Zk [(3,_)] ?_;intro a b;exact⟨z,x,f,b,d,F⟩
 ·rintro a p ⟨z,x,rfl,b,d,F⟩;dsimp only at y;refine ap_k b ?_;refine Zn (Zm rfl (Za rfl (Zy (i_ ?_))));obtain rfl:=Zj y;refine Zr Tryz.results92 [k] ?_;exact⟨_,rt q x w.heap.size 11 t,rfl,F.rt d dc t,d.keeps,S_ _ _ _ _ _⟩
 ·exact λ_ _ h=>h.elim
def dl(a:Int)(b:Int)(c:Int):Option Bool:=(if decide (b<=a) then some (decide (a<=c)) else some false)>>=λd=>some d
theorem fM(w:World)(b:Int)(d:Int)(c:Int)(r:Bool)(f:dl b d c=some r):
    Calls Gz 21 #[.int .i64 b,.int .i64 d,.int .i64 c] w (ab w r):=by
 unfold dl at f;have g:Bs (λ_=>1) (col (λ_=>1)) w w:=Bs.start _ _;refine y_ (n:=15) (vs:=[ZI b,ZI d,ZI c]) Tryz.func21 rfl rfl ?_;refine Zq (Za rfl (Ze [(0,_),(1,_),(2,_)] (Zn (Zm rfl (Zm rfl (Zv (ml rfl rfl) (Zm rfl ?_)))))));obtain⟨j,c,f⟩:=a_ f;refine bp 4 (λi k=>Fr i 15 [(14,.bool j)]∧Keeps w k) ?_ ?_;all_goals simp only[bi,bk,aR,aG]
 ·have kp:Keeps w w:=Keeps.refl _;rcases aw (decide (d<=b)) with b|b
  ·rw[if_pos b] at c;refine m_ (d_ rfl) dc ⟨_,rfl,Zb b⟩ (m_ (d_ rfl) dc ⟨_,rfl,Zb b⟩ (m_ (ml rfl rfl) dc ⟨_,rfl,Zb b⟩ (Zv (aj (Zb b) rfl) ?_)));have i:=Zj c;refine Ze [(14,_)] ?_;subst i;refine r_ (λa d=>⟨d,kp⟩)
  ·replace c:=ZF b c;refine Zd b (Zd b (Zd b ?_));refine Zv (aa (Zb b) rfl) ?_;have i:=Zj c;refine Ze [(14,_)] ?_;subst i;refine r_ (λa d=>⟨d,kp⟩)
 rintro b k ⟨d,b⟩;have c:=b.stp 999 (col (λ_=>1));replace g:=g.stp c;refine O_ d ?_;refine Za rfl (Zy (i_ ?_));obtain rfl:=Zj f;refine Zr Tryz.results21 [.bool j] ?_;exact⟨rfl,g.keeps⟩
def kB:Int->Yl->Option (Lp Yl Yl Yl):=λa s=>(ix s a)>>=λc=>(st s a a)>>=λb=>some (.go b)
def iQ(b:Int):Option Yl:=(mk (Rz.z:Int) b)>>=λa=>ck (a.length:Int)>>=λ_=>(forN (kB) ((a.length:Int)).toNat 0 a)>>=λc=>match c with| .inl d=>some d| .inr _=>none
theorem sx(w:World)(j:Tg)(t:Nat)(c:2<=t)(c:Int)(r:Yl)(f:iQ c=some r):
    Calls Gz 71 #[.int .i64 c] w (el j t w r):=by
 unfold iQ at f;have b:Bs j (col j) w w:=Bs.start _ _;refine y_ (n:=18) (vs:=[ZI c]) Tryz.func71 rfl rfl ?_;generalize col j=o at*;refine Zq (Za rfl (Ze [(0,_)] (Zn (Zm rfl ?_))));obtain⟨m,d,f⟩:=a_ f;refine Zo ?_;refine dQ (o:=o) w.heap.size 11 b.keeps.size d rfl rfl GA aI rfl dc ?_;intro u i q s g;replace b:=b.stp g;refine Za rfl (Zy (b_ (Zq (Zm rfl (Zv (aU rfl s GA) (Zm rfl (Zy ?_)))))));obtain⟨c,c,f⟩:=a_ f;obtain⟨-,d,d⟩:=bl c;obtain⟨d,v,f⟩:=a_ f;refine D_ (λa k=>∃i c,d=.inl i∧Fr a 18 [(3,q)]∧Bs j c w k∧Oz w 3 11 c k q i) (λ_ _=>False) ?_ ?_ ?_
 ·refine k_ ?_;refine B_ (λ(K:Nat) a k=>∃(g:Int),∃i c,forN (kB) ((m.length:Int)-g).toNat g i=some d∧((m.length:Int)-g).toNat=K∧0<=g∧Fr a 18 [(3,q),(8,ZI (m.length:Int)),(9,ZI g)]∧Bs j c w k∧Oz w 3 11 c k q i) _ (λa d=>⟨0,m,u,v,rfl,N_ 0,d.sb,b,s⟩) ?_;rintro s a k ⟨g,i,c,x,y,s,d,b,u⟩;by_cases v:g<(m.length:Int)
  ·obtain⟨s,s,z⟩:=bB v x;dsimp only[kB] at s;refine q_ d ?_;refine Zq (Zv (o_ rfl rfl) (Zy (b_ ?_)));refine R_ (Zb (decide_eq_true v)) ?_;refine f_ (nx (b_ (k_ (Zq (Zm rfl (Za rfl (Zy (h_ (Zm rfl (Zm rfl (Zm rfl ?_)))))))))));obtain⟨e,e,s⟩:=a_ s;refine Zo ?_;refine bI u e rfl rfl GA GB ?_;intro e e e l l;cases l
   obtain⟨l,p,s⟩:=a_ s;refine E_ trivial ?_;refine bH u e p rfl dc rfl rfl rfl GB rfl ?_;intro e e p;replace b:=b.stp p;refine Ze [(3,q),(8,ZI (m.length:Int)),(9,ZI g)] (w_ (nx (h_ (Zv (u_ rfl rfl (n_ om om)) (Zm rfl (Zf (v_ ?_)))))));obtain rfl:=Zj s;refine Zk [(3,_),(8,_),(9,_)] ?_;intro a d;exact⟨_,(by rw[<-y];omega),g+1,l,c,z,rfl,om,d,b,e⟩
  ·have g:=bA v x;refine q_ d ?_;refine Zq (Zv (o_ rfl rfl) (Zy (b_ ?_)));refine Q_ (Zb (decide_eq_false v)) ?_;refine z_ ?_;refine g_ (g_ (A_ ?_));refine r_ ?_;refine Zk [(3,_)] ?_;intro a d;exact⟨i,c,g,d,b,u⟩
 ·rintro a k ⟨i,c,rfl,d,b,u⟩;dsimp only at f;refine ap_k d ?_;refine Zn (Zm rfl (Za rfl (Zy (i_ ?_))));obtain rfl:=Zj f;refine Zr Tryz.results71 [q] ?_;exact⟨_,rt j c w.heap.size 11 t,rfl,u.rt b dc t,b.keeps,S_ _ _ _ _ _⟩
 ·exact λ_ _ h=>h.elim
def eM(a:Int):(Yl×Int)->Option (Lo (Yl×Int) Yl):=λs=>(shr a s.2)>>=λb=>if b !=0 then(shr a s.2)>>=λc=>if(band c 1)==1 then(push s.1 s.2)>>=λd=>(ck (s.2+1))>>=λf=>some (.go (d,f)) else(ck (s.2+1))>>=λg=>some (.go (s.1,g)) else some (.out (s.1,s.2))
def fK(a:Nat)(b:Int):Option Yl:=(loopF (eM b) a ([],0))>>=λc=>match c with| .inl (d,f)=>some d| .inr _=>none
theorem sS(f:Nat)(w:World)(k:Tg)(t:Nat)(x:2<=t)(b:Int)(r:Yl)(s:fK f b=some r):
    Calls Gz 130 #[.int .i64 b] w (el k t w r):=by
 unfold fK at s;have c:Bs k (col k) w w:=Bs.start _ _;refine y_ (n:=21) (vs:=[ZI b]) Tryz.func130 rfl rfl ?_;generalize col k=o at*;refine Zq (Za rfl (Ze [(0,_)] (Zn (Za rfl (Zy (b_ (Zq (Za rfl (Zy ?_)))))))));have u:Oz w 3 11 o w (.slice none 0 0) ([]:Yl):=Ow.nil _ _ _ _ _;obtain⟨q,v,s⟩:=a_ s;refine D_ (λa m=>∃(j:Yl),∃(g:Int),∃i d,q=.inl (j,g)∧Fr a 21 [(3,i)]∧Bs k d w m∧Oz w 3 11 d m i j) (λ_ _=>False) ?_ ?_ ?_
 ·refine k_ ?_;refine B_ (λ(K:Nat) a m=>∃(j:Yl),∃(g:Int),∃i d,loopF (eM b) K (j,g)=some q∧Fr a 21 [(0,ZI b),(3,i),(4,ZI g)]∧Bs k d w m∧Oz w 3 11 d m i j) f (λa f=>⟨[],0,.slice none 0 0,o,v,f.sb,c,u⟩) ?_;rintro b a m ⟨j,g,i,d,x,f,c,q⟩;obtain⟨v,b,b,b,u⟩:=aC x;dsimp only[eM] at b;refine q_ f ?_;refine b_ (Zq (Zm rfl (Zm rfl ?_)));obtain⟨x,x,b⟩:=a_ b;refine Zv (oF rfl rfl x) (Zv (aP rfl rfl) (Zy ?_));refine Zi rfl b (λx b=>?_) (λx b=>?_)
  ·refine f_ (nx (b_ (k_ (Zq (Zm rfl (Zm rfl ?_))))));obtain⟨x,x,b⟩:=a_ b;refine Zv (oF rfl rfl x) (Zv (fc rfl rfl) (Zv (bg rfl rfl) (Zy ?_)));refine Zi rfl b (λx b=>?_) (λx b=>?_)
   ·refine h_ (Zm rfl (Zm rfl (Zo ?_)));refine ap (o:=d) (cs:=[ZI g]) (xs:=([g]:Yl)) (vs:=[(0,ZI g)]) ⟨_,_,rfl,rfl,rfl⟩ rfl ⟨rfl,rfl,trivial⟩ GA GB GN dc (fill1 rfl) sy ?_;intro x x x x y z;obtain⟨q,c⟩:=ZS y (A2 q c);obtain⟨y,z,b⟩:=a_ b;refine Zo ?_;refine am q x (av z) dc c.keeps.size rfl rfl GA aI rfl dc ?_;intro x z z e l;replace c:=c.stp l;refine Za rfl (Ze [(0,_),(3,_),(4,_)] (w_ (nx (h_ (Zm rfl ?_)))));obtain⟨l,p,b⟩:=a_ b;refine Zv (u_ rfl rfl p) (Za rfl (Zf (v_ ?_)));obtain rfl:=Zj b;refine Zk [(0,_),(3,_),(4,_)] ?_;intro a f;exact⟨v,om,y,l,z,x,u,f,c,e⟩
   ·refine f_ (w_ (nx (h_ (Zm rfl ?_))));obtain⟨x,y,b⟩:=a_ b;refine Zv (u_ rfl rfl y) (Za rfl (Zf (v_ ?_)));obtain rfl:=Zj b;refine Zk [(0,_),(3,_),(4,_)] ?_;intro a f;exact⟨v,om,j,x,i,d,u,f,c,q⟩
  ·refine z_ ?_;refine g_ (g_ (A_ ?_));refine r_ ?_;obtain rfl:=Zj b;refine Zk [(3,_)] ?_;intro a f;exact⟨j,g,i,d,u,f,c,q⟩
 ·rintro a m ⟨j,g,i,d,rfl,f,c,q⟩;dsimp only at s;refine ap_k f ?_;refine Zn (Zm rfl (Za rfl (Zy (i_ ?_))));obtain rfl:=Zj s;refine Zr Tryz.results130 [i] ?_;exact⟨_,rt k d w.heap.size 11 t,rfl,q.rt c dc t,c.keeps,S_ _ _ _ _ _⟩
 ·exact λ_ _ h=>h.elim
def dB(a:Int):Option Bool:=some (a !=a)
theorem fx(w:World)(a:Int)(r:Bool)(b:dB a=some r):
    Calls Gz 127 #[.int .i64 a] w (ab w r):=by
 unfold dB at b;have c:Bs (λ_=>1) (col (λ_=>1)) w w:=Bs.start _ _;refine y_ (n:=6) (vs:=[ZI a]) Tryz.func127 rfl rfl ?_;refine Zq (Za rfl (Ze [(0,_)] (Zn (Zm rfl (Zm rfl (Zv (aP rfl rfl) (Za rfl (Zy (i_ ?_)))))))));obtain rfl:=Zj b;refine Zr Tryz.results127 [.bool (a !=a)] ?_;exact⟨rfl,c.keeps⟩
def ft(a:Int)(b:Int):Option Int:=(dB a)>>=λd=>(dB b)>>=λc=>if d then if c then some 0 else some (-1) else if c then some 1 else if decide (a<b) then some (-1) else if decide (a>b) then some 1 else some 0
theorem pc(w:World)(c:Int)(d:Int)(r:Int)(a:ft c d=some r):
    Calls Gz 101 #[.int .i64 c,.int .i64 d] w (aT w r):=by
 unfold ft at a;have b:Bs (λ_=>1) (col (λ_=>1)) w w:=Bs.start _ _;refine y_ (n:=20) (vs:=[ZI c,ZI d]) Tryz.func101 rfl rfl ?_;refine Zq (Za rfl (Ze [(0,_),(1,_)] (Zn (Zm rfl ?_))));obtain⟨f,g,a⟩:=a_ a;refine Zo ?_;refine j_ (fx w c f g) Hi ⟨rfl,trivial⟩ ?_;rintro c c ⟨rfl,f⟩;have g:=f.stp 999 (col (λ_=>1));refine⟨_,rfl,?_⟩;replace b:=b.stp g;refine Za rfl (Ze [(0,_),(1,_),(5,_)] (Zn (Zm rfl ?_)));obtain⟨f,g,a⟩:=a_ a;refine Zo ?_;refine j_ (fx c d f g) Hi ⟨rfl,trivial⟩ ?_;rintro c c ⟨rfl,c⟩;have d:=c.stp 999 (col (λ_=>1));refine⟨_,rfl,?_⟩;replace b:=b.stp d;refine Za rfl (Zy (b_ (Zq (Zm rfl (Zy ?_)))));refine Zi rfl a (λc a=>?_) (λc a=>?_)
 ·refine b_ (Zq (Zm rfl (Zy ?_)));refine Zi rfl a (λc a=>?_) (λc a=>?_)
  ·refine Zq (Za rfl (Zy (i_ (t_ (t_ ?_)))));obtain rfl:=Zj a;refine Zr GU [ZI 0] ?_;exact⟨rfl,b.keeps⟩
  ·refine f_ (Zn (Za rfl (Zy (i_ (t_ ?_)))));obtain rfl:=Zj a;refine Zr GU [ZI (-1)] ?_;exact⟨rfl,b.keeps⟩
 ·refine f_ (nx (b_ (Zq (Zm rfl (Zy ?_)))));refine Zi rfl a (λc a=>?_) (λc a=>?_)
  ·refine Zq (Za rfl (Zy (i_ (t_ ?_))));obtain rfl:=Zj a;refine Zr GU [ZI 1] ?_;exact⟨rfl,b.keeps⟩
  ·refine f_ (nx (b_ (Zq (Zm rfl (Zm rfl (Zv (o_ rfl rfl) (Zy ?_)))))));refine Zi rfl a (λc a=>?_) (λc a=>?_)
   ·refine Zq (Za rfl (Zy (i_ (t_ ?_))));obtain rfl:=Zj a;refine Zr GU [ZI (-1)] ?_;exact⟨rfl,b.keeps⟩
   ·refine f_ (nx (b_ (Zq (Zm rfl (Zm rfl (Zv (bK rfl rfl) (Zy ?_)))))));refine Zi rfl a (λc a=>?_) (λc a=>?_)
    ·refine Zq (Za rfl (Zy (i_ (t_ ?_))));obtain rfl:=Zj a;refine Zr GU [ZI 1] ?_;exact⟨rfl,b.keeps⟩
    ·refine f_ (Zn (Za rfl (Zy (i_ ?_))));obtain rfl:=Zj a;refine Zr GU [ZI 0] ?_;exact⟨rfl,b.keeps⟩
def io(a:Int)(b:Int):Option Bool:=(dB a)>>=λc=>(if c then(dB b)>>=λd=>if !d then some true else some (decide (a<b)) else some (decide (a<b)))>>=λf=>some f
theorem rV(w:World)(b:Int)(d:Int)(r:Bool)(g:io b d=some r):
    Calls Gz 98 #[.int .i64 b,.int .i64 d] w (ab w r):=by
 unfold io at g;have i:Bs (λ_=>1) (col (λ_=>1)) w w:=Bs.start _ _;refine y_ (n:=17) (vs:=[ZI b,ZI d]) Tryz.func98 rfl rfl ?_;refine Zq (Za rfl (Ze [(0,_),(1,_)] (Zn (Zm rfl ?_))));obtain⟨c,f,g⟩:=a_ g;refine Zo ?_;refine j_ (fx w b c f) Hi ⟨rfl,trivial⟩ ?_;rintro b f ⟨rfl,b⟩;have j:=b.stp 999 (col (λ_=>1));refine⟨_,rfl,?_⟩;replace i:=i.stp j;refine Zm rfl ?_;obtain⟨k,b,g⟩:=a_ g;refine bp 9 (λj m=>Fr j 17 [(16,.bool k)]∧Keeps f m) ?_ ?_;all_goals simp only[bi,bk,aR,aG]
 ·have kp:Keeps f f:=Keeps.refl _;rcases aw (c) with c|c
  ·rw[if_pos c] at b;refine m_ (d_ rfl) dc ⟨_,rfl,Zb c⟩ ?_;obtain⟨j,q,b⟩:=a_ b;refine az dc ⟨_,rfl,Zb c⟩ ?_;refine j_ (fx f d j q) Hi ⟨rfl,trivial⟩ ?_;rintro d d ⟨rfl,d⟩;have f:=d.stp 999 (col (λ_=>1));refine⟨_,rfl,?_⟩;replace kp:=Keeps.trans kp d;refine m_ (ag rfl) dc ⟨_,rfl,Zb c⟩ (Zv (aj (Zb c) rfl) (Zm rfl ?_));rcases aw (!j) with d|d
   ·rw[if_pos d] at b;refine Zd d (Zd d (Zd d ?_));refine Zv (aj (Zb d) rfl) ?_;have j:=Zj b;refine Ze [(16,_)] ?_;subst j;refine r_ (λa f=>⟨f,kp⟩)
   ·replace b:=ZF d b;refine m_ (d_ rfl) dc ⟨_,rfl,Zb d⟩ (m_ (d_ rfl) dc ⟨_,rfl,Zb d⟩ (m_ (o_ rfl rfl) dc ⟨_,rfl,Zb d⟩ (Zv (aa (Zb d) rfl) ?_)));have j:=Zj b;refine Ze [(16,_)] ?_;subst j;refine r_ (λa f=>⟨f,kp⟩)
  ·replace b:=ZF c b;refine Zd c (Zd c (Zd c ?_));refine Zv (aa (Zb c) rfl) (Zm rfl (m_ (d_ rfl) dc ⟨_,rfl,rfl⟩ (m_ (d_ rfl) dc ⟨_,rfl,rfl⟩ (m_ (o_ rfl rfl) dc ⟨_,rfl,rfl⟩ (Zv (aa rfl rfl) ?_)))));have j:=Zj b;refine Ze [(16,_)] ?_;subst j;refine r_ (λa f=>⟨f,kp⟩)
 rintro b m ⟨f,b⟩;have c:=b.stp 999 (col (λ_=>1));replace i:=i.stp c;refine O_ f ?_;refine Za rfl (Zy (i_ ?_));obtain rfl:=Zj g;refine Zr Tryz.results98 [.bool k] ?_;exact⟨rfl,i.keeps⟩
def mJ(b:Yl)(c:Int->Option Bool):Int->Unit->Option (Lo Unit Int):=λa s=>(ix b a)>>=λd=>(c d)>>=λf=>if f then some (.ret a) else some (.go ())
def ke(a:Yl)(b:Int->Option Bool):Option Int:=ck (a.length:Int)>>=λ_=>(forN (mJ a b) ((a.length:Int)).toNat 0 ())>>=λc=>match c with| .inl _=>some (-1)| .inr d=>some d
theorem yD(w:World)(b:Value)(d:Yl)(u:RdL zt w b d)(k:Value)(m:Int->Option Bool)(y:FnV Gz w k m)(r:Int)(f:ke d m=some r):
    Calls Gz 128 #[b,k] w (aT w r):=by
 unfold ke at f;have c:Bs (λ_=>1) (col (λ_=>1)) w w:=Bs.start _ _;refine y_ (n:=19) (vs:=[b,k]) Tryz.func128 rfl rfl ?_;refine Zq (Za rfl (Zy (b_ (Zq (Zm rfl (Zv (C_ rfl u GA) (Zm rfl (Zy ?_))))))));obtain⟨g,g,f⟩:=a_ f;obtain⟨-,i,i⟩:=bl g;obtain⟨q,v,f⟩:=a_ f;refine D_ (λa j=>∃(i:Tg),q=.inl ()∧Fr a 19 []∧Bs (λ_=>1) i w j) (λa w'=>∃s,q=.inr s∧bodyPost Gz Tryz.f128 (aT w s) .ret a w') ?_ ?_ ?_
 ·refine k_ ?_;refine B_ (λ(K:Nat) a j=>∃(g:Int),∃(i:Tg),forN (mJ d m) ((d.length:Int)-g).toNat g ()=some q∧((d.length:Int)-g).toNat=K∧0<=g∧Fr a 19 [(0,b),(1,k),(7,ZI (d.length:Int)),(8,ZI g)]∧Bs (λ_=>1) i w j) _ (λa b=>⟨0,col (λ_=>1),v,rfl,N_ 0,b.sb,c⟩) ?_;rintro k a j ⟨g,i,m,z,k,b,c⟩;by_cases k:g<(d.length:Int)
  ·obtain⟨d,d,q⟩:=bB k m;dsimp only[mJ] at d;refine q_ b ?_;refine Zq (Zv (o_ rfl rfl) (Zy (b_ ?_)));refine R_ (Zb (decide_eq_true k)) ?_;refine f_ (nx (b_ (k_ (Zq (Zm rfl (Za rfl (Ze [(0,_),(1,_),(5,_),(7,_),(8,_)] (Zn (Zm rfl (Zm rfl (Zm rfl ?_)))))))))));obtain⟨v,e,d⟩:=a_ d;refine Zo ?_;refine wf_atZ u e c rfl rfl GA GB ?_;intro u u u u e;cases e
   refine Zv (e_ rfl GC (G_ u)) ?_;obtain⟨u,u,d⟩:=a_ d;refine Zo ?_;refine eZ (x:=v) (vs:=[ZI v]) (y.keep c.keeps) u rfl rfl ⟨rfl,trivial⟩ ?_;intro u u;have v:=u.stp 999 i;replace c:=c.stp v;refine Zy ?_;refine Zi rfl d (λu d=>?_) (λu d=>?_)
   ·refine Zq (Zm rfl (Za rfl (Zy (i_ (L_ (t_ (t_ (L_ ?_))))))));refine aB ?_;obtain rfl:=Zj d;refine λa b=>⟨_,q,?_⟩;refine J_ (P:=Gz) (vs:=[ZI g]) Jf ⟨rfl,trivial⟩ ?_ a b;exact⟨rfl,c.keeps⟩
   ·refine f_ (w_ (nx (h_ (Zv (u_ rfl rfl (n_ om om)) (Zm rfl (Zf (v_ ?_)))))));obtain rfl:=Zj d;refine Zk [(0,_),(1,_),(7,_),(8,_)] ?_;intro a b;exact⟨_,(by rw[<-z];omega),g+1,i,q,rfl,om,b,c⟩
  ·have d:=bA k m;refine q_ b ?_;refine Zq (Zv (o_ rfl rfl) (Zy (b_ ?_)));refine Q_ (Zb (decide_eq_false k)) ?_;refine z_ ?_;refine g_ (g_ (A_ ?_));refine r_ ?_;refine Zk [] ?_;intro a b;exact⟨i,d,b,c⟩
 ·rintro a j ⟨i,rfl,b,c⟩;dsimp only at f;refine ap_k b ?_;refine Zn (Za rfl (Zy (i_ ?_)));obtain rfl:=Zj f;refine Zr Jf [ZI (-1)] ?_;exact⟨rfl,c.keeps⟩
 ·rintro a j ⟨s,rfl,b⟩;dsimp only at f;obtain rfl:=Zj f;exact b
def kb(a:Yl)(b:Int->Option Bool):Option Bool:=(ke a b)>>=λc=>some (decide (c>=0))
theorem yB(w:World)(c:Value)(d:Yl)(i:RdL zt w c d)(f:Value)(g:Int->Option Bool)(j:FnV Gz w f g)(r:Bool)(b:kb d g=some r):
    Calls Gz 99 #[c,f] w (ab w r):=by
 unfold kb at b;have a:Bs (λ_=>1) (col (λ_=>1)) w w:=Bs.start _ _;refine y_ (n:=9) (vs:=[c,f]) Tryz.func99 rfl rfl ?_;refine Zq (Za rfl (Ze [(0,_),(1,_)] (Zn (Zm rfl (Zm rfl ?_)))));obtain⟨c,f,b⟩:=a_ b;refine Zo ?_;refine j_ (yD w _ d (i.keep a.keeps) _ g (j.keep a.keeps) c f) Tryz.call128 ⟨rfl,rfl,trivial⟩ ?_;rintro d d ⟨rfl,d⟩;have f:=d.stp 999 (col (λ_=>1));refine⟨_,rfl,?_⟩;replace a:=a.stp f;refine Zv (da rfl rfl) (Za rfl (Zy (i_ ?_)));obtain rfl:=Zj b;refine Zr Tryz.results99 [.bool (decide (c>=0))] ?_;exact⟨rfl,a.keeps⟩
def iq(a:Int)(b:Int)(c:Int):Option Bool:=(dl a b c)>>=λd=>some (!d)
theorem zp(w:World)(b:Int)(d:Nat)(a:List Value)(f:Int)(m:Cells w d 0 a)(j:Rp.rd zt w a f)(g:Nat)(a:List Value)(i:Int)(q:Cells w g 0 a)(k:Rp.rd zt w a i)(r:Bool)(c:iq b f i=some r):
    Calls Gz 100 #[.int .i64 b,.pointer (some ⟨d,0,none⟩),.pointer (some ⟨g,0,none⟩)] w (ab w r):=by
 unfold iq at c;have a:=j;cases j
 have a:=k;cases k
 have a:Bs (λ_=>1) (col (λ_=>1)) w w:=Bs.start _ _;refine y_ (n:=10) (vs:=[ZI b,ZP d,ZP g]) Tryz.func100 rfl rfl ?_;refine Zq (Za rfl (Ze [(0,_),(1,_),(2,_)] (Zn (Zm rfl (Zv (e_ rfl GC (G_ (m.keep a.keeps))) (Zv (e_ rfl GC (G_ (q.keep a.keeps))) ?_))))));obtain⟨d,g,c⟩:=a_ c;refine Zo ?_;refine j_ (fM w b f i d g) Tryz.call21 ⟨rfl,rfl,rfl,trivial⟩ ?_;rintro b b ⟨rfl,b⟩;have f:=b.stp 999 (col (λ_=>1));refine⟨_,rfl,?_⟩;replace a:=a.stp f;refine Zv (ag rfl) (Za rfl (Zy (i_ ?_)));obtain rfl:=Zj c;refine Zr Tryz.results100 [.bool (!d)] ?_;exact⟨rfl,a.keeps⟩
def lf(a:Yl)(b:Int)(c:Int):Option Bool:=(kb a (λd=>iq d b c))>>=λf=>some (!f)
theorem At(w:World)(f:Value)(g:Yl)(q:RdL zt w f g)(b:Int)(c:Int)(r:Bool)(d:lf g b c=some r):
    Calls Gz 67 #[f,.int .i64 b,.int .i64 c] w (ab w r):=by
 unfold lf at d;have a:Bs (λ_=>1) (col (λ_=>1)) w w:=Bs.start _ _;refine y_ (n:=11) (vs:=[f,ZI b,ZI c]) Tryz.func67 rfl rfl ?_;refine Zq (Zo ?_);refine Z_ (o:=(col (λ_=>1))) w.heap.size 11 a.keeps.size (cs:=[ZI b]) rfl rfl ?_;intro f i i j k;replace a:=a.stp k;refine Zo ?_;refine Z_ (o:=f) w.heap.size 12 a.keeps.size (cs:=[ZI c]) rfl rfl ?_;intro s f k u m;obtain⟨j,a⟩:=ZS m (A2 j a);refine Za rfl (Ze [(0,_),(4,_),(5,_)] (Zn (Zm rfl (Zv (em (vs:=[ZP i,ZP k]) ⟨rfl,rfl,trivial⟩) ?_))));obtain⟨m,v,d⟩:=a_ d;refine Zo ?_;refine j_ (yB f _ g (q.keep a.keeps) _ (λg=>iq g b c) (show FnV Gz f (.func (.func 100) #[] #[ZP i,ZP k]) (λg=>iq g b c) from ⟨_,_,rfl,Tryz.call100,λww vs xx rr kk hok hG=>by(cases hok;exact zp ww xx i _ b ((j.cells).keep kk) (Rp.keep ((show Rp.rd zt f [ZI b] (b:Int) from rfl)) kk) k _ c ((u.cells).keep kk) (Rp.keep ((show Rp.rd zt f [ZI c] (c:Int) from rfl)) kk) rr hG)⟩) m v) Tryz.call99 ⟨rfl,rfl,trivial⟩ ?_;rintro b b ⟨rfl,b⟩;have c:=b.stp 999 s;refine⟨_,rfl,?_⟩;replace a:=a.stp c;refine Zv (ag rfl) (Za rfl (Zy (i_ ?_)));obtain rfl:=Zj d;refine Zr Tryz.results67 [.bool (!m)] ?_;exact⟨rfl,a.keeps⟩
def gt(a:Yl):Int->Int->Unit->Option (Lo Unit Int):=λb d s=>if decide (b>=(a.length:Int)) then some (.ret 1) else(ix a b)>>=λf=>(ft d f)>>=λc=>if c !=0 then some (.ret c) else some (.go ())
def cI(a:Yl)(b:Yl):Option Int:=(forI (gt b) a 0 ())>>=λc=>match c with| .inl _=>if decide ((a.length:Int)<(b.length:Int)) then some (-1) else some 0| .inr d=>some d
theorem cX_slices_Compare_int_int(w:World)(b:Value)(c:Yl)(m:RdL zt w b c)(k:Value)(q:Yl)(s:RdL zt w k q)(r:Int)(f:cI c q=some r):
    Calls Gz 68 #[b,k] w (aT w r):=by
 unfold cI at f;have d:Bs (λ_=>1) (col (λ_=>1)) w w:=Bs.start _ _;refine y_ (n:=36) (vs:=[b,k]) Tryz.func68 rfl rfl ?_;refine Zq (Za rfl (Zy (b_ (Zq (Zm rfl (Zv (C_ rfl m GA) (Zm rfl (Zy ?_))))))));obtain⟨u,x,f⟩:=a_ f;refine D_ (λa j=>∃(g:Tg),u=.inl ()∧Fr a 36 [(0,b),(1,k)]∧Bs (λ_=>1) g w j) (λa w'=>∃v,u=.inr v∧bodyPost Gz Tryz.f68 (aT w v) .ret a w') ?_ ?_ ?_
 ·refine k_ ?_;refine B_ (λ(K:Nat) a j=>∃(i:Int),∃(g:Tg),forI (gt q) (c.drop i.toNat) i ()=some u∧(c.drop i.toNat).length=K∧0<=i∧Fr a 36 [(0,b),(1,k),(9,b),(10,ZI (c.length:Int)),(11,ZI i)]∧Bs (λ_=>1) g w j) _ (λa b=>⟨0,col (λ_=>1),x,rfl,N_ 0,b.sb,d⟩) ?_;rintro k a j ⟨i,g,u,y,x,b,d⟩;by_cases k:i<(c.length:Int)
  ·obtain⟨z,c,e,c,q⟩:=ai x k u;have x:=m.len_le;dsimp only[gt] at c;refine q_ b ?_;refine Zq (Zv (o_ rfl rfl) (Zy (b_ ?_)));refine R_ (Zb (decide_eq_true k)) ?_;refine f_ (nx (b_ (k_ (Zq (Zm rfl (Zo ?_))))));refine wf_atZ m e d rfl rfl GA GB ?_;intro x x x x e;cases e
   refine Zv (e_ rfl GC (G_ x)) (Za rfl (Za rfl (Zy (b_ (Zq (Zm rfl (Zm rfl (Zv (C_ rfl s GA) (Zv (da rfl rfl) (Zy ?_))))))))));refine Zi rfl c (λx c=>?_) (λx c=>?_)
   ·refine Zq (Za rfl (Zy (i_ (t_ (L_ (t_ (t_ (L_ ?_))))))));refine aB ?_;obtain rfl:=Zj c;refine λa b=>⟨_,q,?_⟩;refine J_ (P:=Gz) (vs:=[ZI 1]) GY ⟨rfl,trivial⟩ ?_ a b;exact⟨rfl,d.keeps⟩
   ·refine f_ (Zn (Zm rfl (Zm rfl ?_)));obtain⟨e,x,c⟩:=a_ c;refine Zo ?_;refine wf_atZ s x d rfl rfl GA GB ?_;intro x x x x h;cases h
    refine Zv (e_ rfl GC (G_ x)) (Za rfl (Ze [(0,_),(1,_),(6,_),(7,_),(9,_),(10,_),(11,_)] (Zn (Zm rfl (Zm rfl ?_)))));obtain⟨x,h,c⟩:=a_ c;refine Zo ?_;refine j_ (pc j z e x h) Tryz.call101 ⟨rfl,rfl,trivial⟩ ?_;rintro z z ⟨rfl,z⟩;have e:=z.stp 999 g;refine⟨_,rfl,?_⟩;replace d:=d.stp e;refine Za rfl (Ze [(0,_),(1,_),(8,_),(9,_),(10,_),(11,_)] (Zn (Zm rfl (Zv (aP rfl rfl) (Zy ?_)))));refine Zi rfl c (λz c=>?_) (λz c=>?_)
    ·refine Zq (Zm rfl (Za rfl (Zy (i_ (L_ (t_ (t_ (L_ ?_))))))));refine aB ?_;obtain rfl:=Zj c;refine λa b=>⟨_,q,?_⟩;refine J_ (P:=Gz) (vs:=[ZI x]) GY ⟨rfl,trivial⟩ ?_ a b;exact⟨rfl,d.keeps⟩
    ·refine f_ (w_ (nx (h_ (Zv (u_ rfl rfl (n_ om om)) (Zm rfl (Zf (v_ ?_)))))));obtain rfl:=Zj c;refine Zk [(0,_),(1,_),(9,_),(10,_),(11,_)] ?_;intro a b;exact⟨_,(by rw[<-y];simp only[T_];omega),i+1,g,q,rfl,om,b,d⟩
  ·have c:=ak k u;refine q_ b ?_;refine Zq (Zv (o_ rfl rfl) (Zy (b_ ?_)));refine Q_ (Zb (decide_eq_false k)) ?_;refine z_ ?_;refine g_ (g_ (A_ ?_));refine r_ ?_;refine Zk [(0,_),(1,_)] ?_;intro a b;exact⟨g,c,b,d⟩
 ·rintro a j ⟨g,rfl,b,d⟩;dsimp only at f;refine ap_k b ?_;refine nx (b_ (Zq (Zm rfl (Zv (C_ rfl m GA) (Zm rfl (Zv (C_ rfl s GA) (Zv (o_ rfl rfl) (Zy ?_))))))));refine Zi rfl f (λb f=>?_) (λb f=>?_)
  ·refine Zq (Za rfl (Zy (i_ (t_ ?_))));obtain rfl:=Zj f;refine Zr GY [ZI (-1)] ?_;exact⟨rfl,d.keeps⟩
  ·refine f_ (Zn (Za rfl (Zy (i_ ?_))));obtain rfl:=Zj f;refine Zr GY [ZI 0] ?_;exact⟨rfl,d.keeps⟩
 ·rintro a j ⟨v,rfl,b⟩;dsimp only at f;obtain rfl:=Zj f;exact b
def dY(a:Yl):Int->Option (Lp Int Int Bool):=λs=>if decide (s>0) then(ix a s)>>=λb=>(ck (s-1))>>=λc=>(ix a c)>>=λd=>(io b d)>>=λf=>if f then some (.ret false) else(ck (s-1))>>=λg=>some (.go g) else some (.out s)
def kh(b:Nat)(a:Yl):Option Bool:=(ck ((a.length:Int)-1))>>=λc=>(loopF (dY a) b c)>>=λd=>match d with| .inl g=>some true| .inr f=>some f
theorem yE(d:Nat)(w:World)(j:Value)(q:Yl)(s:RdL zt w j q)(r:Bool)(i:kh d q=some r):
    Calls Gz 66 #[j] w (ab w r):=by
 unfold kh at i;have f:Bs (λ_=>1) (col (λ_=>1)) w w:=Bs.start _ _;refine y_ (n:=21) (vs:=[j]) Tryz.func66 rfl rfl ?_;refine Zq (Za rfl (Zy (b_ (Zq (Zm rfl (Zv (C_ rfl s GA) ?_))))));obtain⟨x,b,i⟩:=a_ i;refine Zv (aD rfl rfl b) (Za rfl (Zy ?_));obtain⟨b,y,i⟩:=a_ i;refine D_ (λa k=>∃(g:Int),∃(m:Tg),b=.inl g∧Fr a 21 []∧Bs (λ_=>1) m w k) (λa w'=>∃u,b=.inr u∧bodyPost Gz Tryz.f66 (ab w u) .ret a w') ?_ ?_ ?_
 ·refine k_ ?_;refine B_ (λ(K:Nat) a k=>∃(g:Int),∃(m:Tg),loopF (dY q) K g=some b∧Fr a 21 [(0,j),(3,ZI g)]∧Bs (λ_=>1) m w k) d (λa b=>⟨x,col (λ_=>1),y,b.sb,f⟩) ?_;rintro d a k ⟨g,m,y,b,f⟩;obtain⟨A,d,d,d,x⟩:=aC y;dsimp only[dY] at d;refine q_ b ?_;refine b_ (Zq (Zm rfl (Zv (bK rfl rfl) (Zy ?_))));refine Zi rfl d (λy d=>?_) (λy d=>?_)
  ·refine f_ (nx (b_ (k_ (b_ ?_))));obtain⟨y,z,d⟩:=a_ d;obtain⟨l,B,d⟩:=a_ d;obtain⟨p,t,d⟩:=a_ d;refine ZW (Bf:=λC D=>Bs (λ_=>1) C w D) [(0,_),(3,_)] (Zrg 11 9) [[],[],[0,1],[2],[],[],[5],[4,6],[7]] (Zcn 9) (Zt9 9) (Zt0 9) [999] [.inl j,.inl (ZI g),.inr (λv o C=>∃vl,v=adr vl (g.toNat*Rp.sz Int)∧RdL zt w vl q),.inl (ZI y),.inl j,.inl (ZI g),.inl (ZI l),.inr (λv o C=>∃vl,v=adr vl (l.toNat*Rp.sz Int)∧RdL zt w vl q),.inl (ZI p)] f ⟨λ_ _ _ _ _ _ j hb ⟨vl,e,h⟩ hs=>⟨vl,e,h⟩,λ_ _ _ _ _ _ j hb ⟨vl,e,h⟩ hs=>⟨vl,e,h⟩,trivial⟩ ?_ ?_
   ·refine⟨Dp (d_ rfl),Dp (d_ rfl),?_,?_,Dp (d_ rfl),Dp (d_ rfl),Dp (aD rfl rfl B),?_,?_,trivial⟩
    ·rintro j j j b- -;refine Zs b ?_;refine aN s z rfl rfl GA GB ?_;exact⟨_,Stp.refl _ _ _,⟨_,rfl,s⟩⟩
    ·rintro j j j b f ⟨j,-⟩;obtain⟨q,q,l⟩:=j;have b:=b.c q;refine Zs b ?_;refine bV l z f rfl rfl GC ?_;intro j j;cases j
     exact Zx rfl
    ·rintro j j j b- -;refine Zs b ?_;refine aN s t rfl rfl GA GB ?_;exact⟨_,Stp.refl _ _ _,⟨_,rfl,s⟩⟩
    ·rintro j j j b f ⟨j,-⟩;obtain⟨q,q,s⟩:=j;have b:=b.c q;refine Zs b ?_;refine bV s t f rfl rfl GC ?_;intro j j;cases j
     exact Zx rfl
   rintro _ rfl j q s b f-;refine O_ b ?_;obtain⟨s,z,d⟩:=a_ d;refine Zo ?_;refine j_ (rV q y p s z) Tryz.call98 ⟨rfl,rfl,trivial⟩ ?_;rintro q q ⟨rfl,q⟩;have s:=q.stp 999 j;refine⟨_,rfl,?_⟩;replace f:=f.stp s;refine Zy ?_;refine Zi rfl d (λq d=>?_) (λq d=>?_)
   ·refine Zq (Za rfl (Zy (i_ (L_ (t_ (t_ (L_ ?_)))))));refine aB ?_;obtain rfl:=Zj d;refine λa b=>⟨_,x,?_⟩;refine J_ (P:=Gz) (vs:=[.bool false]) Jj ⟨rfl,trivial⟩ ?_ a b;exact⟨rfl,f.keeps⟩
   ·refine f_ (w_ (nx (h_ (Zm rfl ?_))));obtain⟨q,s,d⟩:=a_ d;refine Zv (aD rfl rfl s) (Za rfl (Zf (v_ ?_)));obtain rfl:=Zj d;refine Zk [(0,_),(3,_)] ?_;intro a b;exact⟨A,om,q,j,x,b,f⟩
  ·refine z_ ?_;refine g_ (g_ (A_ ?_));refine r_ ?_;obtain rfl:=Zj d;refine Zk [] ?_;intro a b;exact⟨g,m,x,b,f⟩
 ·rintro a k ⟨g,m,rfl,b,f⟩;dsimp only at i;refine ap_k b ?_;refine Zn (Za rfl (Zy (i_ ?_)));obtain rfl:=Zj i;refine Zr Jj [.bool true] ?_;exact⟨rfl,f.keeps⟩
 ·rintro a k ⟨u,rfl,b⟩;dsimp only at i;obtain rfl:=Zj i;exact b
end Go.Proofs.YtpefhaamcihneaaGreat
