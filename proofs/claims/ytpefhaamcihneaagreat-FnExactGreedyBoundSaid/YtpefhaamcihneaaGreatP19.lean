/- Part 19 of what this claim rests on (pack.py). -/
import Derived.Sort.Grow
import Derived.Test.YtpefhaamcihneaaGreatLayF
import Derived.Sort.OwnSorted
import Derived.Test.YtpefhaamcihneaaGreatP16
namespace Go.Proofs.YtpefhaamcihneaaGreat
open Tryz renaming prog→Gz, call127→Hi, results101→GU, underlying51→GA, sizeOf3→GB, isAgg3→GC, results68→GY, results158→IC
set_option linter.unusedSimpArgs false
set_option linter.unusedVariables false
set_option maxRecDepth 100000
set_option maxHeartbeats 2000000
open Go.RowKit
namespace Ex
structure Keeps (w w':World):Prop where
  k:Go.Proofs.YtpefhaamcihneaaGreat.Keeps w w'
  d:w.drawn<=w'.drawn
structure Stp (t:Nat) (o:Tg) (w:World) (o':Tg) (w':World):Prop where
  s:Go.Proofs.YtpefhaamcihneaaGreat.Stp t o w o' w'
  d:w.drawn<=w'.drawn
structure Bs (oo o:Tg) (w w':World):Prop where
  b:Go.Proofs.YtpefhaamcihneaaGreat.Bs oo o w w'
  d:w.drawn<=w'.drawn
theorem Bs.start(a:Tg)(w:World):Bs a (col a) w w:=⟨Go.Proofs.YtpefhaamcihneaaGreat.Bs.start _ _,K_ _⟩
theorem Bs.keeps{a o:Tg}{w w':World}(h:Bs a o w w'):Keeps w w':=⟨h.b.keeps,h.d⟩
theorem Keeps.stp{w w':World}(h:Keeps w w')(t:Nat)(o:Tg):Stp t o w o w':=⟨h.k.stp t o,h.d⟩
theorem Bs.stp{a o e:Tg}{w0 w w':World}{t:Nat}(h:Bs a o w0 w)(s:Stp t o w e w')(f:2<=t:=by decide):Bs a e w0 w':=⟨h.b.stp s.s f,aH h.d s.d⟩
theorem wf_atZ{P:Program}{n:Nat}{l:List (Nat×Value)}{w w0:World}{o f:Tg}{α:Type}[Rp α]{d:Nat}{ty:TypeId}{ps:String}{af:Array Edge}{g:Option (Nat×Bool)}{R:Value->World->Prop}{x y:Operand}{t e:TypeId}{v:Value}{xs:List α}{i:Int}{u:α}(h:RdL zt w0 v xs)(hi:ix xs i=some u)(a:Bs f o w0 w)(m:ev l x=some v)(p:ev l y=some (.int .i64 i))
  (k:P.underlying t=some (.slice e)) (j:∀w,(sizeOf e).run P w=.ok (Rp.sz α) w)
  (h:∀b off cs,Cells w b off cs->Rp.rd zt w0 cs u->R (.pointer (some ⟨b,off,none⟩)) w):op1 P ⟨some d,.indexAddr t x y,ty,ps,af,g⟩ n l w R:=Go.Proofs.YtpefhaamcihneaaGreat.wf_atZ (by assumption) hi a.b m p k j h
theorem Keeps.grown{w w':World}(h:Keeps w w'):∃q os,w'=Go.Sort.grow (w.drewN q) os:=by
 refine⟨w'.drawn-w.drawn,w'.heap.extract w.heap.size w'.heap.size,?_⟩;obtain⟨⟨j,k,n,v,m⟩,t⟩:=h;unfold Go.Sort.grow World.drewN;cases w' with
 | mk d o e os f=>
  cases w with
  | mk b g a s output0=>
   simp only at j k n v m t;subst j;subst k;subst n;have p:a+(e-a)=e:=om;have u:b++d.extract b.size d.size=d:=by
    apply Array.ext_getElem?;intro i;rw[Array.getElem?_append];split
    ·rename_i hi;exact(m i hi).symm
    ·rename_i hi;rw[qZ];split
     ·congr 1;omega
     ·rw[Array.getElem?_eq_none om]
   simp only[p,u]
def zd(w:World)(r:Bool):Ending->World->Prop:=λe w'=>e=.returned (.bool r)∧Keeps w w'
set_option maxRecDepth 100000 in
set_option maxHeartbeats 2000000 in
theorem fx(w:World)(a:Int)(r:Bool)(b:dB a=some r):
  Calls Gz 127 #[.int .i64 a] w (zd w r):=by
 unfold dB at b;have d:Bs (λ_=>1) (col (λ_=>1)) w w:=Bs.start _ _;refine y_ (n:=6) (vs:=[.int .i64 a]) Tryz.func127 rfl rfl ?_;refine b_ ?_;refine h_ ?_;refine m_ (bc rfl) dc trivial ?_;refine aQ (r:=[(0,.int .i64 a)]) ⟨rfl,trivial⟩ ?_;refine nx ?_;refine b_ ?_;refine h_ ?_;refine m_ (d_ rfl) dc trivial ?_;refine m_ (d_ rfl) dc trivial ?_;refine m_ (aP rfl rfl) dc trivial ?_;refine m_ (bc rfl) dc trivial ?_;refine aQ (r:=[(2,.bool (a !=a))]) ⟨rfl,trivial⟩ ?_;refine nx ?_;refine i_ ?_;have e:=Option.some.inj b;subst e;refine J_ (P:=Gz) (vs:=[.bool (a !=a)]) Tryz.results127 ⟨rfl,trivial⟩ ?_;exact⟨rfl,d.keeps⟩
def yQ(w:World)(r:Int):Ending->World->Prop:=λe w'=>e=.returned (.int .i64 r)∧Keeps w w'
set_option maxRecDepth 100000 in
set_option maxHeartbeats 2000000 in
theorem pc(w:World)(d:Int)(b:Int)(r:Int)(a:ft d b=some r):
  Calls Gz 101 #[.int .i64 d,.int .i64 b] w (yQ w r):=by
 unfold ft at a;have e:Bs (λ_=>1) (col (λ_=>1)) w w:=Bs.start _ _;refine y_ (n:=20) (vs:=[.int .i64 d,.int .i64 b]) Tryz.func101 rfl rfl ?_;refine b_ ?_;refine h_ ?_;refine m_ (bc rfl) dc trivial ?_;refine aQ (r:=[(0,.int .i64 d),(1,.int .i64 b)]) ⟨rfl,rfl,trivial⟩ ?_;refine nx ?_;refine b_ ?_;refine h_ ?_;refine m_ (d_ rfl) dc trivial ?_;obtain⟨m,q,a⟩:=a_ a;refine az dc trivial ?_;refine j_ (fx w d m q) Hi ⟨rfl,trivial⟩ ?_;rintro F B ⟨rfl,A⟩;have D:=A.stp 999 (col (λ_=>1));refine⟨_,rfl,?_⟩;replace e:=e.stp D dc;refine m_ (bc rfl) dc trivial ?_;refine aQ (r:=[(0,.int .i64 d),(1,.int .i64 b),(5,.bool m)]) ⟨rfl,rfl,rfl,trivial⟩ ?_;refine nx ?_;refine b_ ?_;refine h_ ?_;refine m_ (d_ rfl) dc trivial ?_;obtain⟨k,p,a⟩:=a_ a;refine az dc trivial ?_;refine j_ (fx B b k p) Hi ⟨rfl,trivial⟩ ?_;rintro E G ⟨rfl,C⟩;have v:=C.stp 999 (col (λ_=>1));refine⟨_,rfl,?_⟩;replace e:=e.stp v dc;refine m_ (bc rfl) dc trivial ?_;refine aQ (r:=[(0,.int .i64 d),(1,.int .i64 b),(5,.bool m),(6,.bool k)]) ⟨rfl,rfl,rfl,rfl,trivial⟩ ?_;refine nx ?_;refine b_ ?_;refine b_ ?_;refine h_ ?_;refine m_ (d_ rfl) dc trivial ?_;refine aQ (r:=[(0,.int .i64 d),(1,.int .i64 b),(6,.bool k),(11,.bool m)]) ⟨rfl,rfl,rfl,rfl,trivial⟩ ?_;refine nx ?_;refine dN rfl (λg=>?_) (λg=>?_)
 ·rw[if_pos g] at a;refine b_ ?_;refine b_ ?_;refine h_ ?_;refine m_ (d_ rfl) dc trivial ?_;refine aQ (r:=[(12,.bool k)]) ⟨rfl,trivial⟩ ?_;refine nx ?_;refine dN rfl (λf=>?_) (λf=>?_)
  ·rw[if_pos f] at a;refine b_ ?_;refine h_ ?_;refine m_ (bc rfl) dc trivial ?_;refine aQ (r:=[(4,.int .i64 0)]) ⟨rfl,trivial⟩ ?_;refine nx ?_;refine i_ ?_;refine t_ ?_;refine t_ ?_;have o:=Option.some.inj a;subst o;refine J_ (P:=Gz) (vs:=[.int .i64 0]) GU ⟨rfl,trivial⟩ ?_;exact⟨rfl,e.keeps⟩
  ·rw[if_neg (by rw[f];decide)] at a;refine f_ ?_;refine nx ?_;refine b_ ?_;refine h_ ?_;refine m_ (bc rfl) dc trivial ?_;refine aQ (r:=[(4,.int .i64 (-1))]) ⟨rfl,trivial⟩ ?_;refine nx ?_;refine i_ ?_;refine t_ ?_;have u:=Option.some.inj a;subst u;refine J_ (P:=Gz) (vs:=[.int .i64 (-1)]) GU ⟨rfl,trivial⟩ ?_;exact⟨rfl,e.keeps⟩
 ·rw[if_neg (by rw[g];decide)] at a;refine f_ ?_;refine nx ?_;refine b_ ?_;refine b_ ?_;refine h_ ?_;refine m_ (d_ rfl) dc trivial ?_;refine aQ (r:=[(0,.int .i64 d),(1,.int .i64 b),(13,.bool k)]) ⟨rfl,rfl,rfl,trivial⟩ ?_;refine nx ?_;refine dN rfl (λi=>?_) (λi=>?_)
  ·rw[if_pos i] at a;refine b_ ?_;refine h_ ?_;refine m_ (bc rfl) dc trivial ?_;refine aQ (r:=[(4,.int .i64 1)]) ⟨rfl,trivial⟩ ?_;refine nx ?_;refine i_ ?_;refine t_ ?_;have x:=Option.some.inj a;subst x;refine J_ (P:=Gz) (vs:=[.int .i64 1]) GU ⟨rfl,trivial⟩ ?_;exact⟨rfl,e.keeps⟩
  ·rw[if_neg (by rw[i];decide)] at a;refine f_ ?_;refine nx ?_;refine b_ ?_;refine b_ ?_;refine h_ ?_;refine m_ (d_ rfl) dc trivial ?_;refine m_ (d_ rfl) dc trivial ?_;refine m_ (o_ rfl rfl) dc trivial ?_;refine aQ (r:=[(0,.int .i64 d),(1,.int .i64 b),(16,.bool (decide (d<b)))]) ⟨rfl,rfl,rfl,trivial⟩ ?_;refine nx ?_;refine dN rfl (λh=>?_) (λh=>?_)
   ·rw[if_pos h] at a;refine b_ ?_;refine h_ ?_;refine m_ (bc rfl) dc trivial ?_;refine aQ (r:=[(4,.int .i64 (-1))]) ⟨rfl,trivial⟩ ?_;refine nx ?_;refine i_ ?_;refine t_ ?_;have t:=Option.some.inj a;subst t;refine J_ (P:=Gz) (vs:=[.int .i64 (-1)]) GU ⟨rfl,trivial⟩ ?_;exact⟨rfl,e.keeps⟩
   ·rw[if_neg (by rw[h];decide)] at a;refine f_ ?_;refine nx ?_;refine b_ ?_;refine b_ ?_;refine h_ ?_;refine m_ (d_ rfl) dc trivial ?_;refine m_ (d_ rfl) dc trivial ?_;refine m_ (bK rfl rfl) dc trivial ?_;refine aQ (r:=[(19,.bool (decide (d>b)))]) ⟨rfl,trivial⟩ ?_;refine nx ?_;refine dN rfl (λj=>?_) (λj=>?_)
    ·rw[if_pos j] at a;refine b_ ?_;refine h_ ?_;refine m_ (bc rfl) dc trivial ?_;refine aQ (r:=[(4,.int .i64 1)]) ⟨rfl,trivial⟩ ?_;refine nx ?_;refine i_ ?_;refine t_ ?_;have y:=Option.some.inj a;subst y;refine J_ (P:=Gz) (vs:=[.int .i64 1]) GU ⟨rfl,trivial⟩ ?_;exact⟨rfl,e.keeps⟩
    ·rw[if_neg (by rw[j];decide)] at a;refine f_ ?_;refine nx ?_;refine b_ ?_;refine h_ ?_;refine m_ (bc rfl) dc trivial ?_;refine aQ (r:=[(4,.int .i64 0)]) ⟨rfl,trivial⟩ ?_;refine nx ?_;refine i_ ?_;have s:=Option.some.inj a;subst s;refine J_ (P:=Gz) (vs:=[.int .i64 0]) GU ⟨rfl,trivial⟩ ?_;exact⟨rfl,e.keeps⟩
def ro(w:World)(r:Int):Ending->World->Prop:=λe w'=>e=.returned (.int .i64 r)∧Keeps w w'
set_option maxRecDepth 100000 in
set_option maxHeartbeats 2000000 in
theorem cX_slices_Compare_int_int(w:World)(d:Value)(g:List Int)(E:RdL zt w d g)(h:Value)(y:List Int)(X:RdL zt w h y)(r:Int)(m:cI g y=some r):
  Calls Gz 68 #[d,h] w (ro w r):=by
 unfold cI at m;have j:Bs (λ_=>1) (col (λ_=>1)) w w:=Bs.start _ _;refine y_ (n:=36) (vs:=[d,h]) Tryz.func68 rfl rfl ?_;refine b_ ?_;refine h_ ?_;refine m_ (bc rfl) dc trivial ?_;refine aQ (r:=[(0,d),(1,h)]) ⟨rfl,rfl,trivial⟩ ?_;refine nx ?_;refine b_ ?_;refine b_ ?_;refine h_ ?_;refine m_ (d_ rfl) dc trivial ?_;refine m_ (C_ rfl E GA) dc trivial ?_;refine m_ (d_ rfl) dc trivial ?_;refine aQ (r:=[(0,d),(1,h),(9,d),(10,.int .i64 (g.length:Int)),(11,.int .i64 0)]) ⟨rfl,rfl,rfl,rfl,rfl,trivial⟩ ?_;refine nx ?_;obtain⟨N,S,m⟩:=a_ m;refine D_ (λa t=>∃(q:Tg),N=.inl ()∧Fr a 36 [(0,d),(1,h)]∧Bs (λ_=>1) q w t) (λa w'=>∃V,N=.inr V∧bodyPost Gz Tryz.f68 (ro w V) .ret a w') ?_ ?_ ?_
 ·refine k_ ?_;refine B_ (λ(K:Nat) a t=>∃(f:Int)(q:Tg),forI (gt y) (g.drop f.toNat) f ()=some N∧(g.drop f.toNat).length=K∧0<=f∧Fr a 36 [(0,d),(1,h),(9,d),(10,.int .i64 (g.length:Int)),(11,.int .i64 f)]∧Bs (λ_=>1) q w t) _ (λa i=>⟨0,col (λ_=>1),S,rfl,N_ 0,i.sub (r:=[(0,d),(1,h),(9,d),(10,.int .i64 (g.length:Int)),(11,.int .i64 0)]) ⟨rfl,rfl,rfl,rfl,rfl,trivial⟩,j⟩) ?_;rintro K8 a t ⟨f,q,Z,m7,z6,i,j⟩;by_cases p:f<(g.length:Int)
  ·obtain⟨o,q9,B,e,u⟩:=ai z6 p Z;have hle:=E.len_le;dsimp only[gt] at e;refine q_ i ?_;refine b_ ?_;refine h_ ?_;refine m_ (o_ rfl rfl) dc trivial ?_;refine aQ (r:=[(0,d),(1,h),(9,d),(10,.int .i64 (g.length:Int)),(11,.int .i64 f),(12,.bool (decide (f<(g.length:Int))))]) ⟨rfl,rfl,rfl,rfl,rfl,rfl,trivial⟩ ?_;refine nx ?_;refine b_ ?_;refine R_ (congrArg (λb=>some (Value.bool b)) (decide_eq_true p)) ?_;refine f_ ?_;refine nx ?_;refine b_ ?_;refine k_ ?_;refine b_ ?_;refine h_ ?_;refine m_ (d_ rfl) dc trivial ?_;refine az dc trivial ?_;refine wf_atZ E B j rfl rfl GA GB ?_;intro b14 f15 c16 U Q;cases Q
   refine m_ (e_ rfl GC (G_ U)) dc trivial ?_;refine m_ (bc rfl) dc trivial ?_;refine m_ (bc rfl) dc trivial ?_;refine aQ (r:=[(0,d),(1,h),(5,.int .i64 f),(6,.int .i64 o),(9,d),(10,.int .i64 (g.length:Int)),(11,.int .i64 f)]) ⟨rfl,rfl,rfl,rfl,rfl,rfl,rfl,trivial⟩ ?_;refine nx ?_;refine b_ ?_;refine b_ ?_;refine h_ ?_;refine m_ (d_ rfl) dc trivial ?_;refine m_ (d_ rfl) dc trivial ?_;refine m_ (C_ rfl X GA) dc trivial ?_;refine m_ (da rfl rfl) dc trivial ?_;refine aQ (r:=[(0,d),(1,h),(5,.int .i64 f),(6,.int .i64 o),(9,d),(10,.int .i64 (g.length:Int)),(11,.int .i64 f),(19,.bool (decide (f>=(y.length:Int))))]) ⟨rfl,rfl,rfl,rfl,rfl,rfl,rfl,rfl,trivial⟩ ?_;refine nx ?_;refine dN rfl (λv=>?_) (λv=>?_)
   ·rw[if_pos v] at e;refine b_ ?_;refine h_ ?_;refine m_ (bc rfl) dc trivial ?_;refine aQ (r:=[(4,.int .i64 1)]) ⟨rfl,trivial⟩ ?_;refine nx ?_;refine i_ ?_;refine t_ ?_;refine L_ ?_;refine t_ ?_;refine t_ ?_;refine L_ ?_;refine aB ?_;have W:=Option.some.inj e;subst W;refine λa i=>⟨_,u,?_⟩;refine J_ (P:=Gz) (vs:=[.int .i64 1]) GY ⟨rfl,trivial⟩ ?_ a i;exact⟨rfl,j.keeps⟩
   ·rw[if_neg (by rw[v];decide)] at e;refine f_ ?_;refine nx ?_;refine b_ ?_;refine h_ ?_;refine m_ (d_ rfl) dc trivial ?_;refine m_ (d_ rfl) dc trivial ?_;obtain⟨D,A,e⟩:=a_ e;refine az dc trivial ?_;refine wf_atZ X A j rfl rfl GA GB ?_;intro b22 f23 c24 G M;cases M
    refine m_ (e_ rfl GC (G_ G)) dc trivial ?_;refine m_ (bc rfl) dc trivial ?_;refine aQ (r:=[(0,d),(1,h),(6,.int .i64 o),(7,.int .i64 D),(9,d),(10,.int .i64 (g.length:Int)),(11,.int .i64 f)]) ⟨rfl,rfl,rfl,rfl,rfl,rfl,rfl,trivial⟩ ?_;refine nx ?_;refine b_ ?_;refine h_ ?_;refine m_ (d_ rfl) dc trivial ?_;refine m_ (d_ rfl) dc trivial ?_;obtain⟨k,C,e⟩:=a_ e;refine az dc trivial ?_;refine j_ (pc t o D k C) Tryz.call101 ⟨rfl,rfl,trivial⟩ ?_;rintro e32 w28 ⟨rfl,H⟩;have R:=H.stp 999 q;refine⟨_,rfl,?_⟩;replace j:=j.stp R dc;refine m_ (bc rfl) dc trivial ?_;refine aQ (r:=[(0,d),(1,h),(8,.int .i64 k),(9,d),(10,.int .i64 (g.length:Int)),(11,.int .i64 f)]) ⟨rfl,rfl,rfl,rfl,rfl,rfl,trivial⟩ ?_;refine nx ?_;refine b_ ?_;refine h_ ?_;refine m_ (d_ rfl) dc trivial ?_;refine m_ (aP rfl rfl) dc trivial ?_;refine aQ (r:=[(0,d),(1,h),(8,.int .i64 k),(9,d),(10,.int .i64 (g.length:Int)),(11,.int .i64 f),(28,.bool (k !=0))]) ⟨rfl,rfl,rfl,rfl,rfl,rfl,rfl,trivial⟩ ?_;refine nx ?_;refine dN rfl (λx=>?_) (λx=>?_)
    ·rw[if_pos x] at e;refine b_ ?_;refine h_ ?_;refine m_ (d_ rfl) dc trivial ?_;refine m_ (bc rfl) dc trivial ?_;refine aQ (r:=[(4,.int .i64 k)]) ⟨rfl,trivial⟩ ?_;refine nx ?_;refine i_ ?_;refine L_ ?_;refine t_ ?_;refine t_ ?_;refine L_ ?_;refine aB ?_;have Y:=Option.some.inj e;subst Y;refine λa i=>⟨_,u,?_⟩;refine J_ (P:=Gz) (vs:=[.int .i64 k]) GY ⟨rfl,trivial⟩ ?_ a i;exact⟨rfl,j.keeps⟩
    ·rw[if_neg (by rw[x];decide)] at e;refine f_ ?_;refine w_ ?_;refine nx ?_;refine h_ ?_;refine m_ (u_ rfl rfl (n_ om om)) dc trivial ?_;refine m_ (d_ rfl) dc trivial ?_;refine aQ (r:=[(0,d),(1,h),(9,d),(10,.int .i64 (g.length:Int)),(11,.int .i64 (f+1))]) ⟨rfl,rfl,rfl,rfl,rfl,trivial⟩ ?_;refine v_ ?_;have I:=Option.some.inj e;subst I;refine to_k (r:=[(0,d),(1,h),(9,d),(10,.int .i64 (g.length:Int)),(11,.int .i64 (f+1))]) ⟨rfl,rfl,rfl,rfl,rfl,trivial⟩ ?_;intro a i;exact⟨_,(by rw[<-m7];simp only[T_];omega),f+1,q,u,rfl,om,i,j⟩
  ·have O:=ak p Z;refine q_ i ?_;refine b_ ?_;refine h_ ?_;refine m_ (o_ rfl rfl) dc trivial ?_;refine aQ (r:=[(0,d),(1,h),(9,d),(10,.int .i64 (g.length:Int)),(11,.int .i64 f),(12,.bool (decide (f<(g.length:Int))))]) ⟨rfl,rfl,rfl,rfl,rfl,rfl,trivial⟩ ?_;refine nx ?_;refine b_ ?_;refine Q_ (congrArg (λb=>some (Value.bool b)) (decide_eq_false p)) ?_;refine z_ ?_;refine g_ ?_;refine g_ ?_;refine A_ ?_;refine r_ ?_;refine to_k (r:=[(0,d),(1,h)]) ⟨rfl,rfl,trivial⟩ ?_;intro a i;exact⟨q,O,i,j⟩
 ·rintro a t ⟨q,rfl,i,j⟩;dsimp only at m;refine ap_k i ?_;refine nx ?_;refine b_ ?_;refine b_ ?_;refine h_ ?_;refine m_ (d_ rfl) dc trivial ?_;refine m_ (C_ rfl E GA) dc trivial ?_;refine m_ (d_ rfl) dc trivial ?_;refine m_ (C_ rfl X GA) dc trivial ?_;refine m_ (o_ rfl rfl) dc trivial ?_;refine aQ (r:=[(35,.bool (decide ((g.length:Int)<(y.length:Int))))]) ⟨rfl,trivial⟩ ?_;refine nx ?_;refine dN rfl (λs=>?_) (λs=>?_)
  ·rw[if_pos s] at m;refine b_ ?_;refine h_ ?_;refine m_ (bc rfl) dc trivial ?_;refine aQ (r:=[(4,.int .i64 (-1))]) ⟨rfl,trivial⟩ ?_;refine nx ?_;refine i_ ?_;refine t_ ?_;have T:=Option.some.inj m;subst T;refine J_ (P:=Gz) (vs:=[.int .i64 (-1)]) GY ⟨rfl,trivial⟩ ?_;exact⟨rfl,j.keeps⟩
  ·rw[if_neg (by rw[s];decide)] at m;refine f_ ?_;refine nx ?_;refine b_ ?_;refine h_ ?_;refine m_ (bc rfl) dc trivial ?_;refine aQ (r:=[(4,.int .i64 0)]) ⟨rfl,trivial⟩ ?_;refine nx ?_;refine i_ ?_;have F:=Option.some.inj m;subst F;refine J_ (P:=Gz) (vs:=[.int .i64 0]) GY ⟨rfl,trivial⟩ ?_;exact⟨rfl,j.keeps⟩
 ·rintro a t ⟨V,rfl,J⟩;dsimp only at m;have L:=Option.some.inj m;subst L;exact J
end Ex
theorem jM{α:Type}(a:List α)(x:α)(b:List α):ix (a++x::b) (a.length:Int)=some x:=by
 rw[aq];simp
theorem mq{α:Type}(a:List α)(x:α)(b:List α)(n:Int)(h:n=a.length):ix (a++x::b) n=some x:=by subst h;exact jM a x b
theorem oH{α:Type}(a:List α)(x y:α)(b:List α)(n:Int)(h:n=a.length):st (a++x::b) n y=some (a++y::b):=by
 subst h;rw[cC _ _ _ sy];simp
def insR:List Int->Int->List Int->List Int
  |[],x,b=>x::b
  |y::ra,x,b=>if y>x then insR ra x (y::b) else ra.reverse++y::x::b
theorem si(x:Int):∀(a b:List Int)(d:Nat),a.length<d->a.length<=1000000000->
  ∃j,loopF fC d (a.reverse++x::b,(a.length:Int))=some (.inl (insR a x b,j))
 |[],b,d,e,_=>by
  cases d with
  |zero=>simp at e
  |succ d=>exact⟨0,by simp[loopF,fC,insR,sb]⟩
 | y::a,b,d,e,i=>by
  cases d with
  |zero=>simp at e
  | succ d=>
   have g:(y::a).reverse++x::b=a.reverse++y::x::b:=sy;have m:(((y::a).length:Nat):Int)-1=(a.length:Int):=sy;have hi:ix (a.reverse++y::x::b) ((y::a).length:Int)=some x:=by
    rw[<-g,<-fj];exact jM _ _ _
   have k:fC ((y::a).reverse++x::b,((y::a).length:Int))=some (if y>x then .go (a.reverse++x::y::b,(a.length:Int)) else .out (a.reverse++y::x::b,((y::a).length:Int))):=by
    unfold fC;simp only[g];rw[if_pos (by rw[decide_eq_true_eq];simp),n_ om (by simp at i ⊢;omega),sb,m,mq _ y _ _ sy,sb,hi,sb,sb];by_cases h:y>x
    ·have f:st (a.reverse++y::x::b) ((y::a).length:Int) y=some (a.reverse++y::y::b):=by
      have:=oH (a.reverse++[y]) x y b ((y::a).length:Int) sy;simpa using this
     simp only[h,decide_true,if_true,sb,mq a.reverse y (x::b) (a.length:Int) sy,f,mq a.reverse y (y::b) (a.length:Int) sy,oH a.reverse y x (y::b) (a.length:Int) sy]
    ·simp only[h,decide_false,if_false,cl]
   simp only[loopF,k];by_cases h:y>x
   ·simp only[h,if_true,insR];simp at e i;exact si x a (y::b) d om om
   ·simp only[h,if_false,insR];exact⟨_,rfl⟩
def ssort(xs:List Int):List Int:=xs.foldl (λacc x=>insR acc.reverse x []) []
theorem vU:∀(a:List Int)(x:Int)(b c:List Int),insR a x (b++c)=insR a x b++c
 |[],x,b,c=>by simp[insR]
 |y::a,x,b,c=>by
  simp only[insR];split
  ·rw[<-gi];exact vU a x (y::b) c
  ·simp
theorem pO:∀(a:List Int)(x:Int)(b:List Int),(insR a x b).Perm (a.reverse++x::b)
 |[],x,b=>by simp[insR]
 |y::a,x,b=>by
  simp only[insR];split
  ·refine (pO a x (y::b)).trans ?_;simp only[List.reverse_cons,bC,gi,bz];exact(List.Perm.refl _).append (List.Perm.swap _ _ _)
  ·simp
theorem AR(a:List Int)(x:Int)(b:List Int):(insR a x b).length=a.length+1+b.length:=by
 rw[(pO a x b).length_eq];simp;omega
theorem sU:∀(f:List Int)(x:Int)(b:List Int),(f.reverse++b).Pairwise (·<=·)->(∀z,z∈b->x<=z)->(insR f x b).Pairwise (·<=·)
 |[],x,b,h,g=>by simpa [insR] using ⟨g,by simpa using h⟩
 | y::f,x,b,h,g=>by
  simp only[insR];split
  ·rename_i n;refine sU f x (y::b) (by simpa using h) λz d=>?_;rcases I_.1 d with rfl|e
   ·omega
   ·exact g z e
  ·rename_i n;have e:(f.reverse++y::b).Pairwise (·<=·):=by simpa using h
   rw[ez] at e ⊢;obtain⟨m,i,j⟩:=e;rw[cU] at i;refine⟨m,?_,?_⟩
   ·rw[cU,cU];refine⟨λz d=>?_,g,i.2⟩;rcases I_.1 d with rfl|e
    ·omega
    ·exact i.1 z e
   ·intro a k z d;rcases I_.1 d with rfl|d
    ·exact j a k _ sy
    ·rcases I_.1 d with rfl|d
     ·have:=j a k y sy;omega
     ·exact j a k _ (sh d)
theorem rJ:∀(xs a:List Int),a.Pairwise (·<=·)->(xs.foldl (λa x=>insR a.reverse x []) a).Pairwise (·<=·)
 |[],a,h=>h
 |x::xs,a,h=>by
  rw[jO];exact rJ xs _ (sU _ _ _ (by simpa using h) (by simp))
theorem rT:∀(xs a:List Int),(xs.foldl (λa x=>insR a.reverse x []) a).Perm (a++xs)
 |[],a=>by simp
 |x::xs,a=>by
  rw[jO];refine (rT xs _).trans ?_;have:=(pO a.reverse x []).append_right xs;simpa using this
theorem Aj(xs:List Int):(ssort xs).Pairwise (·<=·):=rJ xs [] sy
theorem BG(xs:List Int):(ssort xs).Perm xs:=by
 have:=rT xs [];rwa [bz] at this
theorem nC:∀{xs:List Int},sortB xs=true<->xs.Pairwise (·<=·)
 |[]=>by simp[sortB]
 |[a]=>by simp[sortB]
 | a::b::r=>by
  rw[cU];simp only[sortB,aW,decide_eq_true_eq];rw[nC];constructor
  ·rintro⟨f,d⟩;refine⟨λz e=>?_,d⟩;rcases I_.1 e with rfl|e
   ·exact f
   ·have:=(cU.1 d).1 z e;omega
  ·rintro⟨f,d⟩;exact⟨f b sy,d⟩
theorem sq(a:Nat):∀(xs pre:List Int),(pre.length+xs.length<a)->(pre.length+xs.length<=1000000000)->
  forN (fB a) xs.length (pre.length:Int) (pre++xs)=some (.inl (xs.foldl (λd x=>insR d.reverse x []) pre))
 |[],pre,_,_=>by simp[forN]
 | x::xs,pre,h,g=>by
  simp only[ao] at h g;obtain⟨j,e⟩:=si x pre.reverse xs a (by simp;omega) (by simp;omega);rw[List.reverse_reverse,fj] at e;have hi:insR pre.reverse x xs=insR pre.reverse x []++xs:=by
   have:=vU pre.reverse x [] xs;simpa using this
  have f:fB a (pre.length:Int) (pre++x::xs)=some (.go (insR pre.reverse x []++xs)):=by
   unfold fB;rw[e,sb,hi]
  have b:(insR pre.reverse x []).length=pre.length+1:=by rw[AR];simp
  simp only[ao,forN,f,jO];have:=sq a xs (insR pre.reverse x []) om om;rw[b] at this;rw[show((pre.length:Int)+1)=((pre.length+1:Nat):Int) by omega];exact this
theorem dm(xs:List Int)(h:xs.length<=1000000000):ch xs=some xs:=by
 unfold ch;rw[fV xs h,sb]
theorem jd(xs:List Int)(a:Nat)(d:xs.length<a)(b:xs.length<=1000000000):dH a xs=some (ssort xs):=by
 unfold dH;rw[dm xs b,sb,n_ om om,sb];simp only[U_];have:=sq a xs [] (su d) (su b);simp only[bD,bz,Int.ofNat_zero] at this;rw[show(0:Int)=((0:Nat):Int) from rfl] at*
 rw[show forN (fB a) xs.length ((0:Nat):Int) xs=_ from this,sb];rfl
theorem tG:∀{xs a:List Int}{k:Nat},xs.length=a.length->(firstP (λ_(p:Int×Int)=>if p.1 !=p.2 then some false else none) (xs.zip a) k=if decide (xs=a) then none else some false)
 |[],[],k,h=>rfl
 |x::xs,y::a,k,h=>by
  simp only[List.zip_cons_cons,firstP];by_cases e:x=y
  ·subst e;simp only[bne_self_eq_false,cl,if_false];rw[tG (by simpa using h)];simp
  ·simp[e]
 |[],y::a,k,h=>by simp at h
 |x::xs,[],k,h=>by simp at h
theorem vp(xs a:List Int)(f:xs.length<=1000000000):jn xs a=some (decide (xs=a)):=by
 unfold jn;by_cases h:xs.length=a.length
 ·rw[if_neg (sh h),n_ om om,sb];simp only[U_];have d:xs.length=(xs.zip a).length:=by simp[h]
  rw[d,lq (λ_(p:Int×Int)=>if p.1 !=p.2 then some false else none) (xs.zip a) (λj x b _=>by
   unfold ni;rw[List.getElem?_zip_eq_some] at b;rw[aq,b.1,sb,aq,b.2,sb];cases g:(x.1 !=x.2)<;>simp[lpP]),tG h,sb]
  by_cases e:xs=a<;>simp[e,outP]
 ·rw[if_pos (by simp;omega)];rw[show decide (xs=a)=false from by rw[decide_eq_false_iff_not];rintro rfl;exact h rfl]
def ordL:List Int->List Int->Int
  |x::xs,y::ys=>if x<y then -1 else if x>y then 1 else ordL xs ys
  |_,_=>0
def ordP(ys:List Int)(k:Nat)(x:Int):Option Int:=match ys[k]? with
  |some y=>if x<y then some (-1) else if x>y then some 1 else none
  |none=>none
theorem pz(Y:List Int):∀(xs a:List Int)(k:Nat),a=Y.drop k->xs.length=a.length->(firstP (ordP Y) xs k).getD 0=ordL xs a
 |[],[],k,_,h=>rfl
 | x::xs,y::a,k,d,h=>by
  have b:Y[k]? =some y:=by
   have b:(Y.drop k)[0]? =some y:=by rw[<-d];rfl
   rw[dV] at b;simpa using b
  have g:a=Y.drop (k+1):=by rw[<-gk,<-d];rfl
  simp only[firstP,ordL,ordP,b];by_cases e:x<y
  ·simp[e]
  ·by_cases f:x>y
   ·simp[e,f]
   ·simp only[e,f,if_false];have:=pz Y xs a (k+1) g (su h);exact this
 |[],y::a,k,_,h=>by simp at h
 |x::xs,[],k,_,h=>by simp at h
theorem pM(xs a:List Int)(h:xs.length=a.length):cI xs a=some (ordL xs a):=by
 unfold cI;rw[eg (ordP a) xs (λj x f _=>by
  have b:j<a.length:=by rw[<-h];exact(Y_.1 f).1
  unfold gt;rw[if_neg (by rw[decide_eq_true_eq];omega),bM _ _ b,sb,Fi,sb];simp only[ordP,x_ b];by_cases e:x<a[j]
  ·simp[e,lpP]
  ·by_cases g:x>a[j]<;>simp[e,g,lpP]),sb]
 have:=pz a xs a 0 sy h;cases d:firstP (ordP a) xs 0 with
 |some r=>rw[d] at this;simp only[outP];rw[<-this];rfl
 |none=>rw[d] at this;simp only[outP];rw[if_neg (sh h),<-this];rfl
theorem uB(xs a:List Int)(h:xs.length=a.length)(i:∀x,x∈xs->0<=x∧x<=1000000000)(k:∀y,y∈a->0<=y∧y<=1000000000):fL xs a=some (ordL xs a):=by
 unfold fL;rw[eg (ordP a) xs (λj x f _=>by
  have b:j<a.length:=by rw[<-h];exact(Y_.1 f).1
  have n:=i x (aE f);have m:=k a[j] (aV b);unfold mZ;rw[bM _ _ b,sb];simp only[ordP,x_ b];by_cases e:x<a[j]
  ·rw[if_pos (by simp;omega),sb,n_ om om,sb];unfold lK;rw[if_neg (by simp;omega),if_pos (by simp;omega),sb];simp[e,lpP]
  ·by_cases g:x>a[j]
   ·rw[if_pos (by simp;omega),sb,n_ om om,sb];unfold lK;rw[if_pos (by simp;omega),sb];simp[e,g,lpP]
   ·rw[if_neg (by simp;omega)];simp[e,g,lpP]),sb]
 have:=pz a xs a 0 sy h;cases d:firstP (ordP a) xs 0 with
 |some r=>rw[d] at this;simp only[outP];rw[<-this];rfl
 |none=>rw[d] at this;simp only[outP];rw[<-this];rfl
theorem fS:∀{a b:List Int},a.length=b.length->(ordL a b=0<->a=b)
 |[],[],_=>by simp[ordL]
 | x::a,y::b,h=>by
  have ih:=fS (a:=a) (b:=b) (su h);unfold ordL;by_cases e:x<y
  ·rw[if_pos e];constructor
   ·intro h;omega
   ·intro h;cases h;omega
  ·rw[if_neg e];by_cases d:x>y
   ·rw[if_pos d];constructor
    ·intro h;omega
    ·intro h;cases h;omega
   ·rw[if_neg d,ih];have:x=y:=om;subst this;simp
 |[],_::_,h=>by simp at h
 |_::_,[],h=>by simp at h
theorem fT:∀(a b:List Int),ordL b a= -ordL a b
 |[],[]=>by simp[ordL]
 |[],_::_=>by simp[ordL]
 |_::_,[]=>by simp[ordL]
 | x::a,y::b=>by
  have ih:=fT a b;simp only[ordL];by_cases e:x<y
  ·have d:¬y<x:=om;simp[e,d]
  ·by_cases d:y<x
   ·simp[e,d]
   ·simp[e,d,ih]
theorem lW:∀{a b c:List Int},a.length=b.length->b.length=c.length->ordL a b<0->ordL b c<0->ordL a c<0
 |[],[],[],_,_,h,_=>by simp[ordL] at h
 | x::a,y::b,z::c,m,j,e,d=>by
  have ih:=lW (a:=a) (b:=b) (c:=c) (su m) (su j);simp only[ordL] at e d ⊢;by_cases k:x<y
  ·by_cases f:y<z
   ·rw[if_pos om];decide
   ·rw[if_neg f] at d;by_cases g:y>z
    ·rw[if_pos g] at d;omega
    ·rw[if_pos om];decide
  ·rw[if_neg k] at e;by_cases f:x>y
   ·rw[if_pos f] at e;omega
   ·rw[if_neg f] at e;by_cases g:y<z
    ·rw[if_pos om];decide
    ·rw[if_neg g] at d;by_cases i:y>z
     ·rw[if_pos i] at d;omega
     ·rw[if_neg i] at d;rw[if_neg om,if_neg om];exact ih e d
 |[],_::_,_,h,_,_,_=>by simp at h
 |_::_,[],_,h,_,_,_=>by simp at h
 |[],[],_::_,_,h,_,_=>by simp at h
 |_::_,_::_,[],_,h,_,_=>by simp at h
theorem BK{a b c:List Int}(f:a.length=b.length)(d:b.length=c.length)(i:¬ordL a b<0)(g:¬ordL b c<0):¬ordL a c<0:=λh=>by
 have k:=fT a b;have n:=fT b c;have m:=fT a c;by_cases j:ordL a b=0
 ·have:=(fS f).1 j;subst this;exact g h
 ·by_cases e:ordL b c=0
  ·have:=(fS d).1 e;subst this;exact i h
  ·have:=lW (a:=c) (b:=b) (c:=a) om om om om;omega
def insS:List (List Int)->List Int->List (List Int)
  |[],x=>[x]
  |y::l,x=>if ordL y x<0 then y::insS l x else if y=x then y::l else x::y::l
def sxd(xs:List (List Int)):List (List Int):=xs.foldl insS []
def sorS(l:List (List Int)):Prop:=l.Pairwise λa b=>ordL a b<0
theorem lQ{z x:List Int}:∀{l:List (List Int)},z∈insS l x<->z=x∨z∈l
 |[]=>by simp[insS]
 | y::l=>by
  unfold insS;split
  ·rw[I_,lQ,I_];constructor
   ·rintro(h|h|h)<;>simp[h]
   ·rintro(h|h|h)<;>simp[h]
  ·split
   ·rename_i h;subst h;simp
   ·simp
theorem vM{L:Nat}{x:List Int}(m:x.length=L):∀{l:List (List Int)},(∀z∈l,z.length=L)->sorS l->sorS (insS l x)
 |[],_,_=>by simp[insS,sorS]
 | y::l,f,h=>by
  have o:=f y sy;obtain⟨i,k⟩:=cU.1 h;unfold insS;split
  ·rename_i d;refine cU.2 ⟨λz a=>?_,vM m (λz a=>f z (sh a)) k⟩;rcases lQ.1 a with rfl|a
   ·exact d
   ·exact i z a
  ·rename_i j;split
   ·exact h
   ·rename_i g;have b:ordL x y<0:=by
     have n:=fT y x;have:ordL y x≠0:=λe=>g ((fS om).1 e);omega
    refine cU.2 ⟨λz a=>?_,h⟩;rcases I_.1 a with rfl|a
    ·exact b
    ·exact lW om (by have:=f z (sh a);omega) b (i z a)
theorem pW{L:Nat}:∀(xs l:List (List Int)),(∀z∈xs,z.length=L)->(∀z∈l,z.length=L)->sorS l->sorS (xs.foldl insS l)∧∀z,z∈xs.foldl insS l<->z∈l∨z∈xs
 |[],l,_,_,h=>⟨h,λz=>by simp⟩
 | x::xs,l,d,b,f=>by
  have e:=d x sy;obtain⟨i,g⟩:=pW xs (insS l x) (λz a=>d z (sh a)) (λz a=>by
   rcases lQ.1 a with rfl|a
   ·exact e
   ·exact b z a) (vM e b f)
  refine⟨i,λz=>?_⟩;rw[jO,g,lQ,I_];constructor
  ·rintro((h|h)|h)<;>simp[h]
  ·rintro(h|h|h)<;>simp[h]
theorem vm{L:Nat}{a b:List (List Int)}(o:∀z∈a,z.length=L)(f:sorS a)(g:sorS b)(h:∀z,z∈a<->z∈b):a=b:=by
 have i:∀{l:List (List Int)},sorS l->l.Nodup:=λ{l} j=>j.imp λ{x y} d e=>by
  subst e;rw[(fS rfl).2 rfl] at d;omega
 have k:a.Perm b:=(FI (i f) (i g)).2 h;refine k.eq_of_pairwise (le:=λx y=>ordL x y<0) (λx y p q m n=>?_) f g;have:=fT x y;omega
def srtL(xs:List (List Int)):Option (List (List Int)):=
  if xs.length<=1000000000∧(xs.headD []).length<=1000000000∧(∀x∈xs,x.length=(xs.headD []).length) then some (sxd xs) else none
theorem qp{xs:List (List Int)}{L:Nat}(b:xs.length<=1000000000)(e:L<=1000000000)(a:∀x∈xs,x.length=L):srtL xs=some (sxd xs):=by
 unfold srtL;cases xs with
 |nil=>rw[if_pos sy]
 |cons x xs=>
  have:=a x sy;rw[if_pos ⟨b,by show x.length<=_;omega,λy d=>by show y.length=x.length;rw[a y d,this]⟩]
section
open Go.RowKit Go.Sort Go.Shelf
def ngT(g:Nat):Tg:=λb=>if b=g then 1 else 0
def PvS(g:Nat)(w:World)(L:Nat):Type:={p:Pv//RdL (ngT g) w p.v p.x∧p.x.length=L}
theorem rQ{α:Type}[Inhabited α](a:α->Value)(w:World)(g m:Nat)(f:Array α)(os:Array Obj):w.heap.size<=(sortWorld a w g 0 m f os).heap.size∧∀b,b<w.heap.size->b≠g->(sortWorld a w g 0 m f os).heap[b]? =w.heap[b]? :=by
 unfold sortWorld;refine⟨sy,λb h d=>?_⟩;rw[heap_grow_old _ _ (su h)];have:g≠b:=λe=>d e.symm;simp[putRow,mapBlock,Sort.ahead,gb,this]
set_option maxHeartbeats 1000000 in
theorem AH{B k:Nat}{o:Tg}{w:World}{v:Value}{ps:List Pv}{L:Nat}(h:Ow B 51 k o w v ps)(hk:k≠0)(hL:∀p∈ps,p.x.length=L)(W:ps.length<=1000000000):
  Calls Gz 156 #[v,.func (.func 68) #[] #[]] w λe w'=>e=.returned (.tuple #[])∧∃O,O.Perm ps∧O.Pairwise (λa b=>¬ordL b.x a.x<0)∧Ow B 51 k o w' v O∧Stp k o w o w':=by
 by_cases M:ps=[]
 ·subst M;obtain⟨a,c,rfl⟩:=h.form;have hc:=AnyF.slices_SortFunc_none (P:=Gz) (ρ:=Tryz.laysSortF_ren) {Tryz.laysSortF with} a c (.func (.func 68) #[] #[]) w;refine ms hc ?_;rintro e w' ⟨rfl,rfl⟩;exact⟨rfl,[],List.Perm.refl _,List.Pairwise.nil,h,Stp.refl _ _ _⟩
 ·obtain⟨css,E,F,h3,h4⟩:=id h;have hlz:=Ow.lens (e:=51) (B:=B) E h4;rcases F.2 with⟨_,h0⟩|⟨g,cap,u,rfl,K,hb,hn,T,hsz,N⟩
  ·exact absurd (cD h0) M
  ·have R:o g=k:=h3 g rfl;have S:g<w.heap.size:=(ct.1 hb).1;have V:∀p∈ps,RdL o w p.v p.x:=λp C=>by
    obtain⟨i,hi⟩:=mz C;have hil:=(Y_.1 hi).1;exact(h4 i (css[i]'om) p (x_ om) hi).2.2
   have hfl:css.flatten=ps.map (·.v):=by
    have:∀(css:List (List Value))(ps:List Pv),css.length=ps.length->(∀(i:Nat) cs x,css[i]? =some cs->ps[i]? =some x->Rp.rd o w cs x)->css.flatten=ps.map (·.v):=by
     intro css
     induction css with
     |nil=>intro ps W _;cases ps with
      |nil=>rfl
      |cons a l=>simp at W
     | cons c css ih=>intro ps W hh;cases ps with
      |nil=>simp at W
      |cons a l=>
       obtain⟨e0,_⟩:=hh 0 c a rfl rfl;rw[br,ih l (su W) λi cs x a b=>hh (i+1) cs x (su a) (su b),e0];rfl
    exact this css ps E h4
   rw[hfl] at N;have X:u.toList.take ps.length=ps.map (·.v):=by
    have:ps.length*Rp.sz Pv=ps.length:=cm _;rw[this] at N;exact N
   have U:∀p∈ps,RdL (ngT g) w p.v p.x∧p.x.length=L:=λp C=>⟨(V p C).mv (K_ _) λb _ t=>⟨rfl,by
    unfold ngT;rw[if_neg];intro e;rw[e,R] at t;exact hk t⟩,hL p C⟩
   let α:=PvS g w L
   let D:List α:=ps.pmap (λp C=>(⟨p,C⟩:α)) U
   have I:D.map (λa=>a.1)=ps:=by
    show(ps.pmap (λp C=>(⟨p,C⟩:PvS g w L)) U).map (λa=>a.1)=ps;rw[List.map_pmap];simp
   have A:D.length=ps.length:=by rw[<-I,aA]
   obtain⟨a0,ha0⟩:∃a:α,a∈D:=by
    cases hq:D with
    |nil=>rw[hq] at A;exact absurd (cD A.symm) M
    |cons a l=>exact⟨a,sy⟩
   haveI:Inhabited α:=⟨a0⟩
   let d:α->Value:=λa=>a.1.v
   let cf:α->α->Int:=λa b=>ordL a.1.x b.1.x
   have Y:OneCell d:=λa=>a.2.1.one1;have hO:SWO (ltOf cf):=by
    constructor
    ·intro x;show decide (ordL x.1.x x.1.x<0)=false;rw[(fS rfl).2 rfl];rfl
    ·intro x y z E F;have E:ordL x.1.x y.1.x<0:=of_decide_eq_true E;have F:ordL y.1.x z.1.x<0:=of_decide_eq_true F;exact decide_eq_true (lW (by rw[x.2.2,y.2.2]) (by rw[y.2.2,z.2.2]) E F)
    ·intro x y z E F;have E:¬ordL x.1.x y.1.x<0:=of_decide_eq_false E;have F:¬ordL y.1.x z.1.x<0:=of_decide_eq_false F;exact decide_eq_false (BK (by rw[x.2.2,y.2.2]) (by rw[y.2.2,z.2.2]) E F)
   have f:D.toArray.size=ps.length:=by simp[A]
   have hcmp:CmpLays1 Gz 68 #[] d cf g 0 D.toArray.size w:=by
    intro m os dk _ x y;obtain⟨q1,q2⟩:=rQ d w g m dk os;have rz:∀z:α,RdL zt (sortWorld d w g 0 m dk os) z.1.v z.1.x:=λz=>z.2.1.mv q1 λb t hz0=>⟨q2 b t λe=>by subst e;simp[ngT] at hz0,rfl⟩;have:=Ex.cX_slices_Compare_int_int (sortWorld d w g 0 m dk os) (d x) x.1.x (rz x) (d y) y.1.x (rz y) (cf x y) (pM _ _ (by rw[x.2.2,y.2.2]));refine ms this ?_;rintro e w' ⟨rfl,hk⟩;exact⟨rfl,hk.grown⟩
   have hH:Holds d w g 0 D.toArray:=by
    intro j H;rw[f] at H;refine⟨?_,by simp[World.frozen?,hb]⟩;have e1:(u.toList.take ps.length)[j]? =(ps.map (·.v))[j]? :=by rw[X]
    rw[qW H] at e1;simp only[World.cell?,hb,an];simp only[qT,cl,if_false];rw[<-FJ,e1];have e2:(D.map λa=>a.1)[j]? =ps[j]? :=by rw[I]
    rw[aZ] at e2 ⊢;rw[<-e2];rw[getElem!_pos _ j (by rw[f];exact H)];rw[x_ om];simp[d]
   have hS:=Any.slices_SortFunc Tryz.laysSortF d Y cf hO 68 #[] g 0 cap D.toArray w Tryz.call68 hcmp hH S (by rw[f];omega);rw[f] at hS;refine ms hS ?_;rintro e w' ⟨rfl,s,n,os,hP,hSo,rfl⟩;obtain⟨p1,-,p3⟩:=hP;have hd'sz:s.size=ps.length:=by rw[p1,f]
   have q:(s.toList.map λa=>a.1).Perm ps:=by
    have e1:(s.extract 0 ps.length).toList=s.toList:=by rw[<-hd'sz];simp
    have e2:(D.toArray.extract 0 ps.length).toList=D:=by rw[<-f];simp
    rw[e1,e2] at p3;have:=p3.map λa=>a.1;rw[I] at this;exact this
   obtain⟨q1,q2⟩:=rQ d w g n s os;have Z:Stp k o w o (sortWorld d w g 0 n s os):=⟨rfl,rfl,rfl,q1,λb t hne=>q2 b t λe=>hne (by rw[e,R]),λ_ _=>rfl⟩;refine⟨rfl,s.toList.map λa=>a.1,q,?_,?_,Z⟩
   ·rw[jR,dw];intro i j hi H hij;have hj':j<s.size:=by simpa using H
    have:=hSo i j (bj _) hij om;rw[getElem!_pos _ i om,getElem!_pos _ j hj'] at this;exact of_decide_eq_false this
   ·have G:(s.toList.map λa=>a.1).length=ps.length:=q.length_eq;have J:(sortWorld d w g 0 n s os).heap[g]? =some (.cells (putCells d 0 s u) 51 (0,0)):=by
     unfold sortWorld;rw[heap_grow_old _ _ (su S)];simp[putRow,mapBlock,Sort.ahead,gb,hb,onCells]
    have Q:u.size=cap:=by rw[hsz];exact cm _
    refine⟨(s.toList.map λa=>a.1).map λp=>[p.v],sy,?_,h3,λi cs p hc C=>?_⟩
    ·have hf2:∀l:List Pv,(l.map λp=>[p.v]).flatten=l.map (·.v):=by
      intro l
      induction l with
      |nil=>rfl
      |cons a l ih=>simp[br,ih]
     rw[hf2,G];refine⟨by rw[aA,G];exact(cm _).symm,.inr ⟨g,cap,_,rfl,K,J,hn,T,by simp[putCells];rw[Q];exact(cm _).symm,?_⟩⟩;show(putCells d 0 s u).toList.take (ps.length*1)=_;rw[cm,<-hd'sz];apply fi;intro j;by_cases H:j<s.size
     ·rw[qW H,FJ];simp[putCells,H,show j<u.size by omega,d]
     ·rw[List.getElem?_take_eq_none om,cT (by simp;omega)]
    ·rw[aZ,C] at hc;cases hc
     have hm:p∈ps:=q.subset (aE C);exact oI ((V p hm).stp Z hk)
end
def mL(b:Yl)(c:Yl):Int->Unit->Option (Lo Unit Bool):=λa s=>(ix b a)>>=λd=>(ix c a)>>=λf=>if d !=f then some (.ret false) else some (.go ())
def gw(a:Yl)(b:Yl):Option Bool:=if(a.length:Int) !=(b.length:Int) then some false else ck (a.length:Int)>>=λ_=>(forN (mL a b) ((a.length:Int)).toNat 0 ())>>=λc=>match c with| .inl _=>some true| .inr d=>some d
theorem rq(w:World)(q:Value)(j:Yl)(u:RdL zt w q j)(s:Value)(x:Yl)(z:RdL zt w s x)(r:Bool)(f:gw j x=some r):
    Calls Gz 158 #[q,s] w (ab w r):=by
 unfold gw at f;have d:Bs (λ_=>1) (col (λ_=>1)) w w:=Bs.start _ _;refine y_ (n:=26) (vs:=[q,s]) Tryz.func158 rfl rfl ?_;refine Zq (Za rfl (Zy (b_ (Zq (Zm rfl (Zv (C_ rfl u GA) (Zm rfl (Zv (C_ rfl z GA) (Zv (aP rfl rfl) (Zy ?_))))))))));refine Zi rfl f (λb f=>?_) (λb f=>?_)
 ·refine Zq (Za rfl (Zy (i_ (t_ ?_))));obtain rfl:=Zj f;refine Zr IC [.bool false] ?_;exact⟨rfl,d.keeps⟩
 ·refine f_ (nx (b_ (Zq (Zm rfl (Zv (C_ rfl u GA) (Zm rfl (Zy ?_)))))));obtain⟨b,b,f⟩:=a_ f;obtain⟨-,g,g⟩:=bl b;obtain⟨b,i,f⟩:=a_ f;refine D_ (λa k=>∃(m:Tg),b=.inl ()∧Fr a 26 []∧Bs (λ_=>1) m w k) (λa w'=>∃l,b=.inr l∧bodyPost Gz Tryz.f158 (ab w l) .ret a w') ?_ ?_ ?_
  ·refine k_ ?_;refine B_ (λ(K:Nat) a k=>∃(g:Int),∃(m:Tg),forN (mL j x) ((j.length:Int)-g).toNat g ()=some b∧((j.length:Int)-g).toNat=K∧0<=g∧Fr a 26 [(0,q),(1,s),(12,ZI (j.length:Int)),(13,ZI g)]∧Bs (λ_=>1) m w k) _ (λa b=>⟨0,col (λ_=>1),(by rw[bU];exact i),rfl,N_ 0,b.sb,d⟩) ?_;rintro i a k ⟨g,m,p,C,i,b,d⟩;by_cases y:g<(j.length:Int)
   ·obtain⟨i,i,t⟩:=bB y p;dsimp only[mL] at i;refine q_ b ?_;refine Zq (Zv (o_ rfl rfl) (Zy (b_ ?_)));refine R_ (Zb (decide_eq_true y)) ?_;refine f_ (nx (b_ (k_ (Zq (Zm rfl (Za rfl (Zy (b_ ?_))))))));obtain⟨D,A,i⟩:=a_ i;obtain⟨E,B,i⟩:=a_ i;refine ZW (Bf:=λF G=>Bs (λ_=>1) F w G) [(0,_),(1,_),(5,_),(12,_),(13,_)] (Zrg 16 8) [[],[],[0,1],[2],[],[],[4,5],[6]] (Zcn 8) (Zt9 8) (Zt0 8) [999] [.inl q,.inl (ZI g),.inr (λv o q=>∃vl,v=adr vl (g.toNat*Rp.sz Int)∧RdL zt w vl j),.inl (ZI D),.inl s,.inl (ZI g),.inr (λv o q=>∃vl,v=adr vl (g.toNat*Rp.sz Int)∧RdL zt w vl x),.inl (ZI E)] d ⟨λ_ _ _ _ _ _ j hb ⟨vl,e,h⟩ hs=>⟨vl,e,h⟩,λ_ _ _ _ _ _ j hb ⟨vl,e,h⟩ hs=>⟨vl,e,h⟩,trivial⟩ ?_ ?_
    ·refine⟨Dp (d_ rfl),Dp (d_ rfl),?_,?_,Dp (d_ rfl),Dp (d_ rfl),?_,?_,trivial⟩
     ·rintro j j j b- -;refine Zs b ?_;refine aN u A rfl rfl GA GB ?_;exact⟨_,Stp.refl _ _ _,⟨_,rfl,u⟩⟩
     ·rintro j j j b d ⟨j,-⟩;obtain⟨q,q,s⟩:=j;have b:=b.c q;refine Zs b ?_;refine bV s A d rfl rfl GC ?_;intro j j;cases j
      exact Zx rfl
     ·rintro j j j b- -;refine Zs b ?_;refine aN z B rfl rfl GA GB ?_;exact⟨_,Stp.refl _ _ _,⟨_,rfl,z⟩⟩
     ·rintro j j j b d ⟨j,-⟩;obtain⟨q,q,s⟩:=j;have b:=b.c q;refine Zs b ?_;refine bV s B d rfl rfl GC ?_;intro j j;cases j
      exact Zx rfl
    rintro _ rfl j q q b d-;refine O_ b ?_;refine Zv (aP rfl rfl) (Zy ?_);refine Zi rfl i (λq i=>?_) (λq i=>?_)
    ·refine Zq (Za rfl (Zy (i_ (L_ (t_ (t_ (L_ ?_)))))));refine aB ?_;obtain rfl:=Zj i;refine λa b=>⟨_,t,?_⟩;refine J_ (P:=Gz) (vs:=[.bool false]) IC ⟨rfl,trivial⟩ ?_ a b;exact⟨rfl,d.keeps⟩
    ·refine f_ (w_ (nx (h_ (Zv (u_ rfl rfl (n_ om om)) (Zm rfl (Zf (v_ ?_)))))));obtain rfl:=Zj i;refine Zk [(0,_),(1,_),(12,_),(13,_)] ?_;intro a b;exact⟨_,(by rw[<-C];omega),g+1,j,t,rfl,om,b,d⟩
   ·have g:=bA y p;refine q_ b ?_;refine Zq (Zv (o_ rfl rfl) (Zy (b_ ?_)));refine Q_ (Zb (decide_eq_false y)) ?_;refine z_ ?_;refine g_ (g_ (A_ ?_));refine r_ ?_;refine Zk [] ?_;intro a b;exact⟨m,g,b,d⟩
  ·rintro a k ⟨m,rfl,b,d⟩;dsimp only at f;refine ap_k b ?_;refine Zn (Za rfl (Zy (i_ ?_)));obtain rfl:=Zj f;refine Zr IC [.bool true] ?_;exact⟨rfl,d.keeps⟩
  ·rintro a k ⟨l,rfl,b⟩;dsimp only at f;obtain rfl:=Zj f;exact b
end Go.Proofs.YtpefhaamcihneaaGreat
