/- Part 38 of what this claim rests on (pack.py). -/
import Derived.Deep.Matrix
import Derived.Lib.SmallJoins
import Derived.Test.YtpefhaamcihneaaGreatP22
namespace Go.Proofs.YtpefhaamcihneaaGreat
open Tryz renaming prog→Gz, underlying3→Hc
set_option linter.unusedSimpArgs false
set_option linter.unusedVariables false
open Go.RowKit
section
structure WP where
  labels:Int
  arcs:List (List Int)
section
variable {B C B' C':Nat} {w w':World} {v:Value} {x:WP}
end
end
section
open Go.ChangeShapes Go.WideShapes Go.ChangeAt Go.RowKit Go.Deep Go.Joins
set_option maxRecDepth 100000
section
variable {H:Type} {enc:TypeId×Value->H} {W:World}
theorem zP{v:Value}{A:Option Addr}{L C:Nat}{Z:List Int}(m:v=.slice A L C)(s:L<=C)(o:C<=maxLen)(q:Z.length=C)(n:A=none->C=0)
  (j:∀e,A=some e->∀c,c<C->W.cell? (e.add c)=some (.int .i64 (Z.getD c 0))):Ints W v (Z.take L):=by
 subst m;have g:(Z.take L).length=L:=by simp;omega
 refine⟨A,C,by simp;omega,by simp;omega,o,?_⟩;by_cases p:L=0
 ·subst p;exact .inl sy
 ·cases A with
  |none=>have:=n rfl;omega
  | some e=>
   obtain⟨b,off,rfl,f⟩:=ints_at (w:=W) (a:=e) (k:=.i64) (zs:=Z) (λi hi=>j e rfl i om) om;refine .inr ⟨b,off,rfl,λi y h=>?_⟩;rw[aZ,jQ] at h;obtain⟨z,d,rfl⟩:=h;have hi:i<L:=by
    have:=(Y_.1 d).1;simp at this;omega
   rw[bO,if_pos hi] at d;rw[f i om,ax,d];rfl
theorem sD{n:Nat}{v:Value}{y:DataW H×List MemPlace}(h:DataW.trod enc Gz W 0 (λ_=>true) true n 22 [v]=some y):
  ∃LL:List (List Int),IntRows W v LL∧∀r∈LL,∀n∈r,I64 n:=by
 rcases open_int_rows Tryz.underlying22 Tryz.underlying51 Hc kr kr h with⟨d,_⟩|⟨a,len,cap,A,L,C,Z,d,_,t,D,_,m⟩
 ·simp at d;subst d;exact⟨[],⟨[],⟨none,0,rfl,K_ _,by simp[maxLen],.inl rfl⟩,rfl,λi hi=>by simp at hi⟩,sy⟩
 ·simp at d;subst d;refine⟨(List.range len).map λr=>(Z r).take (L r),⟨(List.range len).map λr=> .slice (A r) (L r) (C r),⟨some a,cap,sy,by simpa using t,D,?_⟩,sy,?_⟩,?_⟩
  ·by_cases G:len=0
   ·subst G;exact .inl sy
   ·have B:=(m 0 om).1;obtain⟨b,off,g⟩:=a;have e:g=none:=by simpa [Addr.add] using World.cell?_spot B
    subst e;refine .inr ⟨b,off,rfl,λi x p=>?_⟩;rw[aZ,jQ] at p;obtain⟨j,o,rfl⟩:=p;have hi:i<len:=by
     have:=(Y_.1 o).1;simpa using this
    have:i=j:=by
     rw[gl hi] at o;simpa using o
    subst this;rw[<-Go.WideShapes.add_plain];exact(m i om).1
  ·intro i hi;simp at hi;have f:=m i om;have q:((List.range len).map λr=>Value.slice (A r) (L r) (C r)).getD i undef=.slice (A i) (L i) (C i):=by simp[hi]
   have F:((List.range len).map λr=>(Z r).take (L r)).getD i []=(Z i).take (L i):=by simp[hi]
   rw[q,F];exact zP rfl f.2.1 f.2.2.1 f.2.2.2.1 f.2.2.2.2.2.1 λu w c s=>(f.2.2.2.2.2.2 u w).2 c s
  ·intro r k n E;simp at k;obtain⟨i,hi,rfl⟩:=k;exact pK ((m i om).2.2.2.2.1 n (jP E))
theorem td{n:Nat}{v:Value}{y:DataW H×List MemPlace}(h:DataW.trod enc Gz W 0 (λ_=>true) true n 3 [v]=some y):∃m:Int,v=.int .i64 m∧I64 m:=by
 obtain⟨m,a,_,b⟩:=DataW.trod_int Hc h;simp at a;exact⟨m,a,pK b⟩
end
section
variable {H:Type} {enc:TypeId×Value->H} {W:World}
end
end
section
open Go.ChangeShapes Go.WideShapes Go.ChangeAt Go.RowKit Go.Deep Go.Joins
set_option maxRecDepth 100000
section
variable {H:Type} {enc:TypeId×Value->H} {W:World}
theorem openProblem{base:Nat}{v:Value}{d:DataW H}{p:List MemPlace}(a:Value.okWide Gz W .any base 24 v)
  (h:DataW.Trod enc Gz W 0 (λ_=>true) true 24 v d p):∃x:PR,RdP W v x∧okP x:=by
 obtain⟨A,w,B,y,E,C,u,D,n,rfl,_,_,t,f,k,s⟩:=open_agg4 Tryz.underlying24 kr kr a h;obtain⟨m,rfl,q⟩:=td t;obtain⟨c,rfl,g⟩:=td f;obtain⟨LL,o,i⟩:=sD k;obtain⟨j,b,e⟩:=sD s;exact⟨⟨m,c,LL,j⟩,⟨_,_,rfl,o,b⟩,q,g,i,e⟩
end
end
end Go.Proofs.YtpefhaamcihneaaGreat
