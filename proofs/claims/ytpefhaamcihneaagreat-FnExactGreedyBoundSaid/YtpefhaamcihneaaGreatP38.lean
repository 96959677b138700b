/- Part 38 of what this claim rests on (pack.py). -/
import Derived.Deep.Matrix
import Derived.Lib.SmallJoins
import Derived.Test.YtpefhaamcihneaaGreatP22
namespace Go.Proofs.YtpefhaamcihneaaGreat
open Tryz renaming prog→Gy, underlying3→Hb
set_option linter.unusedSimpArgs false
set_option linter.unusedVariables false
open Go.RowKit
section
structure WP where
  labels:Int
  arcs:List (List Int)
section
variable {B C B' C':Nat} {w w':World} {v:Value} {x:WP}
end
end
section
open Go.ChangeShapes Go.WideShapes Go.ChangeAt Go.RowKit Go.Deep Go.Joins
set_option maxRecDepth 100000
section
variable {H:Type} {enc:TypeId×Value->H} {W:World}
theorem zY{v:Value}{A:Option Addr}{L C:Nat}{Z:List Int}(j:v=.slice A L C)(s:L<=C)(m:C<=maxLen)(q:Z.length=C)(o:A=none->C=0)
  (n:∀e,A=some e->∀c,c<C->W.cell? (e.add c)=some (.int .i64 (Z.getD c 0))):Ints W v (Z.take L):=by
 subst j;have h:(Z.take L).length=L:=by simp;omega
 refine⟨A,C,by simp;omega,by simp;omega,m,?_⟩;by_cases p:L=0
 ·subst p;exact .inl sy
 ·cases A with
  |none=>have:=o rfl;omega
  | some e=>
   obtain⟨b,off,rfl,f⟩:=ints_at (w:=W) (a:=e) (k:=.i64) (zs:=Z) (λi hi=>n e rfl i om) om;refine .inr ⟨b,off,rfl,λi y g=>?_⟩;rw[aZ,jQ] at g;obtain⟨z,d,rfl⟩:=g;have hi:i<L:=by
    have:=(Y_.1 d).1;simp at this;omega
   rw[bO,if_pos hi] at d;rw[f i om,ax,d];rfl
theorem sC{n:Nat}{v:Value}{y:DataW H×List MemPlace}(h:DataW.trod enc Gy W 0 (λ_=>true) true n 22 [v]=some y):
  ∃LL:List (List Int),IntRows W v LL∧∀r∈LL,∀n∈r,I64 n:=by
 rcases open_int_rows Tryz.underlying22 Tryz.underlying51 Hb kr kr h with⟨d,_⟩|⟨a,len,cap,A,L,C,Z,d,_,u,q,_,m⟩
 ·simp at d;subst d;exact⟨[],⟨[],⟨none,0,rfl,K_ _,by simp[maxLen],.inl rfl⟩,rfl,λi hi=>by simp at hi⟩,sy⟩
 ·simp at d;subst d;refine⟨(List.range len).map λr=>(Z r).take (L r),⟨(List.range len).map λr=> .slice (A r) (L r) (C r),⟨some a,cap,sy,by simpa using u,q,?_⟩,sy,?_⟩,?_⟩
  ·by_cases G:len=0
   ·subst G;exact .inl sy
   ·have D:=(m 0 om).1;obtain⟨b,off,f⟩:=a;have e:f=none:=by simpa [Addr.add] using World.cell?_spot D
    subst e;refine .inr ⟨b,off,rfl,λi x p=>?_⟩;rw[aZ,jQ] at p;obtain⟨j,o,rfl⟩:=p;have hi:i<len:=by
     have:=(Y_.1 o).1;simpa using this
    have:i=j:=by
     rw[gl hi] at o;simpa using o
    subst this;rw[<-Go.WideShapes.add_plain];exact(m i om).1
  ·intro i hi;simp at hi;have g:=m i om;have B:((List.range len).map λr=>Value.slice (A r) (L r) (C r)).getD i undef=.slice (A i) (L i) (C i):=by simp[hi]
   have w:((List.range len).map λr=>(Z r).take (L r)).getD i []=(Z i).take (L i):=by simp[hi]
   rw[B,w];exact zY rfl g.2.1 g.2.2.1 g.2.2.2.1 g.2.2.2.2.2.1 λt s c E=>(g.2.2.2.2.2.2 t s).2 c E
  ·intro r k n F;simp at k;obtain⟨i,hi,rfl⟩:=k;exact pJ ((m i om).2.2.2.2.1 n (jP F))
theorem th{n:Nat}{v:Value}{y:DataW H×List MemPlace}(h:DataW.trod enc Gy W 0 (λ_=>true) true n 3 [v]=some y):∃m:Int,v=.int .i64 m∧I64 m:=by
 obtain⟨m,a,_,b⟩:=DataW.trod_int Hb h;simp at a;exact⟨m,a,pJ b⟩
end
section
variable {H:Type} {enc:TypeId×Value->H} {W:World}
end
end
section
open Go.ChangeShapes Go.WideShapes Go.ChangeAt Go.RowKit Go.Deep Go.Joins
set_option maxRecDepth 100000
section
variable {H:Type} {enc:TypeId×Value->H} {W:World}
theorem openProblem{base:Nat}{v:Value}{d:DataW H}{p:List MemPlace}(a:Value.okWide Gy W .any base 24 v)
  (h:DataW.Trod enc Gy W 0 (λ_=>true) true 24 v d p):∃x:PR,RdP W v x∧okP x:=by
 obtain⟨u,B,A,w,y,C,D,E,n,rfl,_,_,t,o,g,s⟩:=open_agg4 Tryz.underlying24 kr kr a h;obtain⟨m,rfl,f⟩:=th t;obtain⟨c,rfl,q⟩:=th o;obtain⟨LL,i,k⟩:=sC g;obtain⟨j,e,b⟩:=sC s;exact⟨⟨m,c,LL,j⟩,⟨_,_,rfl,i,e⟩,f,q,k,b⟩
end
end
end Go.Proofs.YtpefhaamcihneaaGreat
