/- Part 4 of what this claim rests on (pack.py). -/
import Derived.Test.YtpefhaamcihneaaGreatP03
namespace Go.Proofs.YtpefhaamcihneaaGreat
open Tryz renaming prog→Gz
set_option linter.unusedSimpArgs false
set_option linter.unusedVariables false
open Go.RowKit
section
abbrev Xr:=Value ⊕ Pr
def toP:Xr->Pr
  | .inl x=>λv _ _=>v=x
  | .inr p=>p
def xT:Xr:=.inr prT
abbrev Zcn(n:Nat):List (Option Nat):=List.replicate n none
abbrev Zt9(n:Nat):List Nat:=List.replicate n 999
abbrev Zt0(n:Nat):List Nat:=List.replicate n 0
abbrev Zrg(a n:Nat):List Nat:=List.range' a n
def FrD(Dl:List Nat)(Xl:List Xr)(l0:List (Nat×Value)):List Nat->List (Nat×Value)
  |[]=>l0
  | j::js=>match Xl.getD j xT with
    | .inl v=>(Dl.getD j 0,v)::FrD Dl Xl l0 js
    | .inr _=>FrD Dl Xl l0 js
def DepZ(Dl:List Nat)(Xl:List Xr)(a:Act)(o:Tg)(w:World):List Nat->Prop
  |[]=>True
  | j::js=>match Xl.getD j xT with
    | .inl _=>DepZ Dl Xl a o w js
    | .inr p=>p (a.tmps.getD (Dl.getD j 0) undef) o w∧DepZ Dl Xl a o w js
theorem qh:∀(Xl:List Xr)(j:Nat),(Xl.map toP).getD j prT=toP (Xl.getD j xT)
 |[],j=>rfl
 |x::xs,0=>rfl
 |x::xs,j+1=>by simpa using qh xs j
theorem Deps.toZ{x:List Nat}{Xl:List Xr}{a:Act}{o:Tg}{w:World}{n:Nat}{l0:List (Nat×Value)}(A:Fr a n l0):∀{u:List Nat},Deps x (Xl.map toP) a o w u->Fr a n (FrD x Xl l0 u)∧DepZ x Xl a o w u
 |[],_=>⟨A,trivial⟩
 |j::u,h=>by
  obtain⟨s,F⟩:=h;obtain⟨C,y⟩:=Deps.toZ A F;rw[qh] at s;unfold FrD DepZ;cases E:Xl.getD j xT with
  |inl v=>rw[E] at s;exact⟨Fr.cons C s,y⟩
  |inr p=>rw[E] at s;exact⟨C,s,y⟩
def ObsZ(P:Program)(all:List Oper)(n:Nat)(l0:List (Nat×Value))(Bf:Tg->World->Prop)(Dl:List Nat)(Xl:List Xr)(tgl:List Nat)(dsl:List (List Nat)):Nat->List Oper->Prop
  |_,[]=>True
  |i,op::ops=>(∀o w a,Fr a n (FrD Dl Xl l0 (dsl.getD i []))->Bf o w->DepZ Dl Xl a o w (dsl.getD i [])->opS P all.toArray op a w λv w'=>∃o',Stp (tgl.getD i 999) o w o' w'∧toP (Xl.getD i xT) v o' w')∧ObsZ P all n l0 Bf Dl Xl tgl dsl (i+1) ops
theorem ObsZ.obs{P:Program}{all:List Oper}{n:Nat}{l0:List (Nat×Value)}{Bf:Tg->World->Prop}{x:List Nat}{Xl:List Xr}{s:List Nat}{u:List (List Nat)}:
  ∀{ops:List Oper}{k:Nat},ObsZ P all n l0 Bf x Xl s u k ops->Obs P all n l0 Bf x (Xl.map toP) s u k ops
 |[],_,_=>trivial
 |op::ops,k,h=>⟨λo w a E F A=>by
  obtain⟨y,C⟩:=Deps.toZ E A;rw[qh];exact h.1 o w a y F C,h.2.obs⟩
def FrZ(l0:List (Nat×Value)):List Nat->List (Option Nat)->List Xr->List (Nat×Value)
  |d::ds,none::cs,.inl v::xs=>(d,v)::FrZ l0 ds cs xs
  |_::ds,_::cs,_::xs=>FrZ l0 ds cs xs
  |_,_,_=>l0
def FinZ(a:Act)(o:Tg)(w:World):List Nat->List (Option Nat)->List Xr->Prop
  |d::ds,none::cs,.inr p::xs=>p (a.tmps.getD d undef) o w∧FinZ a o w ds cs xs
  |_::ds,_::cs,_::xs=>FinZ a o w ds cs xs
  |_,_,_=>True
theorem Fin.toZ{a:Act}{o:Tg}{w:World}{n:Nat}{l0:List (Nat×Value)}(s:Fr a n l0):∀{y:List Nat}{cs:List (Option Nat)}{Xl:List Xr},Fin a o w y cs (Xl.map toP)->Fr a n (FrZ l0 y cs Xl)∧FinZ a o w y cs Xl
 |[],_,_,_=>⟨s,trivial⟩
 |d::ds,[],_,_=>⟨s,trivial⟩
 |d::ds,none::cs,[],_=>⟨s,trivial⟩
 |d::ds,some _::cs,[],_=>⟨s,trivial⟩
 |d::ds,none::cs,.inl v::xs,h=>by
  obtain⟨x,u⟩:=Fin.toZ s h.2;exact⟨Fr.cons x h.1,u⟩
 |d::ds,none::cs,.inr p::xs,h=>by
  obtain⟨x,u⟩:=Fin.toZ s h.2;exact⟨x,h.1,u⟩
 |d::ds,some _::cs,.inl v::xs,h=>Fin.toZ s (Xl:=xs) h.2
 |d::ds,some _::cs,.inr p::xs,h=>Fin.toZ s (Xl:=xs) h.2
def Sb(t:Nat)(p:Tg->World->Prop):Prop:=∀o w o' w',p o w->Stp t o w o' w'->p o' w'
def AllB(p:Tg->World->Prop):List Nat->Prop
  |[]=>True
  |t::ts=>Sb t p∧AllB p ts
theorem AllB.get{p:Tg->World->Prop}:∀{ts:List Nat},AllB p ts->∀t o w o' w',t∈ts->p o w->Stp t o w o' w'->p o' w'
 |t::ts,h,y,o,w,o',w',s,u,x=>by
  rcases I_.1 s with rfl|s
  ·exact h.1 o w o' w' u x
  ·exact AllB.get h.2 y o w o' w' s u x
section
variable {α:Type} [Rp α] {t k B b:Nat} {e:TypeId} {v:Value} {xs:List α} {p q:Tg->World->Prop} {cs:List Value} {oo:Tg} {w0:World} {vs:List Hv} {ys:List (List α)}
theorem Sb.and(h:Sb t p)(g:Sb t q):Sb t (λo w=>p o w∧q o w):=λo w o' w' ⟨a,b⟩ s=>⟨h o w o' w' a s,g o w o' w' b s⟩
theorem Sb.rd(u:t≠0):Sb t (λo w=>RdL o w v xs):=λ_ _ _ _ h s=>h.stp s u
theorem Sb.ow(u:t≠0)(x:k≠t):Sb t (λo w=>Ow B e k o w v xs):=λ_ _ _ _ h s=>h.stp s u x
theorem Sb.bx(u:k≠t):Sb t (λo w=>Bx B k o w b e cs):=λ_ _ _ _ h s=>h.stp s u
theorem Sb.bs(u:2<=t):Sb t (λo w=>Bs oo o w0 w):=λ_ _ _ _ h s=>h.stp s u
theorem Sb.rws{er:TypeId}(u:t≠0)(x:k≠t):Sb t (λo w=>Rws B er k o w vs ys):=λ_ _ _ _ h s=>h.stp s u x
end
def AllY:List Nat->List Xr->Prop
  |_::bs,.inl _::xs=>AllY bs xs
  |b::bs,.inr p::xs=>St b p∧AllY bs xs
  |_,_=>True
def zerB:List Nat->List Xr->Bool
  |b::bs,.inl _::xs=>b==0&&zerB bs xs
  |_::bs,.inr _::xs=>zerB bs xs
  |[],[]=>true
  |_,_=>false
theorem AllY.all:∀{bs:List Nat}{xs:List Xr},AllY bs xs->zerB bs xs=true->AllSt bs (xs.map toP)
 |[],[],_,_=>trivial
 |[],_::_,_,h=>by simp[zerB] at h
 |_::_,[],_,h=>by simp[zerB] at h
 |b::bs,.inl v::xs,h,s=>by
  simp only[zerB,aW,beq_iff_eq] at s;obtain⟨rfl,s⟩:=s;exact⟨aJ v,AllY.all (xs:=xs) h s⟩
 |b::bs,.inr p::xs,h,s=>⟨h.1,AllY.all (xs:=xs) h.2 s⟩
theorem drawnZ{P:Program}(V:P.follows .mixedOrders=true){Q:Exit->Act->World->Prop}{n id:Nat}{l:List (Nat×Value)}{ops:List Oper}{w:World}{o:Tg}{Bf:Tg->World->Prop}
  (l0:List (Nat×Value)) (C:List Nat) (E:List (List Nat)) (u:List (Option Nat)) (F x s:List Nat) (Xl:List Xr) (L:Bf o w) (K:AllY x Xl)
  (I:ObsZ P ops n l0 Bf C Xl F E 0 (ops.take C.length))
  (G:∀A,ops.drop C.length=A->∀o w a,Fr a n (FrZ l0 C u Xl)->Bf o w->FinZ a o w C u Xl->wpList P ops.toArray Q A a w)
  (H:Sub l0 l) (y:drawnBC ops.toArray n (l0.map (·.1)) C E u F x s=true) (T:zerB x Xl=true) (J:AllB Bf s):wpC P (.region id ops.toArray true) Q n l w:=by
 have N:=K.all T;have S:=ObsZ.obs I;have W:=AllB.get J;generalize M:l0.map (·.1)=base at y;refine lC l0 base C E u F x s (Xl.map toP) Bf V y M H L W N S ?_;intro o w a U M Z;obtain⟨Y,O⟩:=Fin.toZ U Z;exact G _ rfl o w a Y M O
theorem ZW{Q:Exit->Act->World->Prop}{n id:Nat}{l:List (Nat×Value)}{ops:List Oper}{w:World}{o:Tg}{Bf:Tg->World->Prop}
  (l0:List (Nat×Value)) (C:List Nat) (E:List (List Nat)) (x:List (Option Nat)) (F y u:List Nat) (Xl:List Xr) (K:Bf o w) (J:AllY y Xl)
  (I:ObsZ Gz ops n l0 Bf C Xl F E 0 (ops.take C.length))
  (G:∀A,ops.drop C.length=A->∀o w a,Fr a n (FrZ l0 C x Xl)->Bf o w->FinZ a o w C x Xl->wpList Gz ops.toArray Q A a w)
  (H:Sub l0 l:=by repeat (first|exact trivial|refine⟨rfl,?_⟩)) (hchk:drawnBC ops.toArray n (l0.map (·.1)) C E x F y u=true:=by kernel_rfl) (hz:zerB y Xl=true:=by rfl)
  (hSB:AllB Bf u:=by
   repeat (first|exact trivial|refine And.intro ?_ ?_|exact Sb.rd (by decide)|exact Sb.bs (by decide)|exact Sb.ow (by decide) (by decide)|exact Sb.bx (by decide)|exact Sb.of (by decide)|exact Sb.rws (by decide) (by decide)|exact Sb.dz (by decide)|refine Sb.and ?_ ?_|exact λ_ _ _ _ h s=>h.stp s (by decide)|exact λ_ _ _ _ h s=>h.stp s (by decide) (by decide)|exact λ_ _ _ _ h s=>h.trW (by assumption) s (by decide) (by decide)|exact λ_ _ _ _ h s=>h.trq (by assumption) s|exact λ_ _ _ _ h s=>h.tr9 (by assumption) s)):wpC Gz (.region id ops.toArray true) Q n l w:=
 drawnZ ea l0 C E x F y u Xl K J I G H hchk hz hSB
section
variable {P:Program} {n t d:Nat} {l:List (Nat×Value)} {ops:Array Oper} {op:Op} {ty:TypeId} {ps:String} {af:Array Edge} {g:Option (Nat×Bool)} {Bf:Tg->World->Prop} {D:Act->Tg->World->Prop} {X v:Value} {R:Pr}
theorem Dp(h:∀{w},∀ρ,Agr ρ l->(execOp ρ ⟨some d,op,ty,ps,af,g⟩).run P w=.ok (.value v) w)(u:Gd ops l g:=by exact trivial)(hv:∀o w,R v o w:=by exact λ_ _=>rfl):
  ∀o w a,Fr a n l->Bf o w->D a o w->opS P ops ⟨some d,op,ty,ps,af,g⟩ a w λv w'=>∃o',Stp t o w o' w'∧R v o' w':=
 λo w a x _ _=>bJ x u (M_ (λρ s=>h ρ s) ⟨o,Stp.refl _ _ _,hv o w⟩)
theorem Dq(h:∀{o w},Bf o w->∀ρ,Agr ρ l->(execOp ρ ⟨some d,op,ty,ps,af,g⟩).run P w=.ok (.value v) w)(u:Gd ops l g:=by exact trivial)(hv:∀o w,R v o w:=by exact λ_ _=>rfl):
  ∀o w a,Fr a n l->Bf o w->D a o w->opS P ops ⟨some d,op,ty,ps,af,g⟩ a w λv w'=>∃o',Stp t o w o' w'∧R v o' w':=
 λo w a y x _=>bJ y u (M_ (λρ s=>h x ρ s) ⟨o,Stp.refl _ _ _,hv o w⟩)
theorem Dn{j s:Nat}{u b:Bool}(C:g=some (j,u))(A:((ops[j]?).bind (·.dst))=some s)(x:Kn l s=some (.bool b))(E:(b==u)=false)(y:∀o w,R undef o w:=by exact λ_ _=>rfl):
  ∀o w a,Fr a n l->Bf o w->D a o w->opS P ops ⟨some d,op,ty,ps,af,g⟩ a w λv w'=>∃o',Stp t o w o' w'∧R v o' w':=
 λo w a F _ _=>EY F C A x E ⟨o,Stp.refl _ _ _,y o w⟩
theorem Dm{j s:Nat}{u:Bool}(C:g=some (j,u))(A:((ops[j]?).bind (·.dst))=some s)(x:Kn l s=some undef)(y:∀o w,R undef o w:=by exact λ_ _=>rfl):
  ∀o w a,Fr a n l->Bf o w->D a o w->opS P ops ⟨some d,op,ty,ps,af,g⟩ a w λv w'=>∃o',Stp t o w o' w'∧R v o' w':=
 λo w a E _ _=>Ej E C A x ⟨o,Stp.refl _ _ _,y o w⟩
end
section
variable {a b c d e f g h i j k m p q:Prop}
theorem A2(s:a)(u:b):a∧b:=⟨s,u⟩
theorem A3(s:a)(u:b)(x:c):a∧b∧c:=⟨s,u,x⟩
theorem A4(s:a)(x:b)(y:c)(u:d):a∧b∧c∧d:=⟨s,x,y,u⟩
theorem A5(s:a)(y:b)(u:c)(A:d)(x:e):a∧b∧c∧d∧e:=⟨s,y,u,A,x⟩
theorem A6(s:a)(y:b)(u:c)(A:d)(x:e)(C:f):a∧b∧c∧d∧e∧f:=⟨s,y,u,A,x,C⟩
theorem A7(s:a)(y:b)(u:c)(A:d)(x:e)(E:f)(C:g):a∧b∧c∧d∧e∧f∧g:=⟨s,y,u,A,x,E,C⟩
theorem A8(s:a)(A:b)(u:c)(C:d)(x:e)(F:f)(E:g)(y:h):a∧b∧c∧d∧e∧f∧g∧h:=⟨s,A,u,C,x,F,E,y⟩
end
section
variable {α:Type} [Rp α]
abbrev Oz(w:World)(e:TypeId)(k:Nat)(o:Tg)(m:World)(v:Value)(xs:List α):Prop:=Ow w.heap.size e k o m v xs
abbrev Bz(w:World)(k:Nat)(o:Tg)(m:World)(b:Nat)(e:TypeId)(cs:List Value):Prop:=Bx w.heap.size k o m b e cs
abbrev Rq(w:World)(e:TypeId)(k:Nat)(o:Tg)(m:World)(vs:List Hv)(xs:List (List α)):Prop:=Rws w.heap.size e k o m vs xs
end
class Stq (t:Nat) (o:Tg) (w:World) (o':Tg) (w':World) (A:Prop) (B:outParam Prop) (c:outParam Bool):Prop where
  h:c=true->A->Stp t o w o' w'->B
section
variable {α:Type} [Rp α] {t k B b:Nat} {e er:TypeId} {v:Value} {xs:List α} {cs:List Value} {oo o o':Tg} {w w' w0:World} {vs:List Hv} {ys:List (List α)}
theorem neb{a b:Nat}(h:(a !=b)=true):a≠b:=by simpa using h
theorem andb{a b:Bool}(h:(a&&b)=true):a=true∧b=true:=by simpa using h
instance:Stq t o w o' w' (Bs oo o w0 w) (Bs oo o' w0 w') (Nat.ble 2 t):=⟨λc h s=>h.stp s (Nat.le_of_ble_eq_true c)⟩
instance:Stq t o w o' w' (RdL o w v xs) (RdL o' w' v xs) (t !=0):=⟨λc h s=>h.stp s (neb c)⟩
instance {x:α}:Stq t o w o' w' (Rp.rd o w cs x) (Rp.rd o' w' cs x) (t !=0):=⟨λc h s=>Rp.stp h s (neb c)⟩
instance:Stq t o w o' w' (Of e o w v xs) (Of e o' w' v xs) (t !=0):=⟨λc h s=>h.stp s (neb c)⟩
instance:Stq t o w o' w' (Dz e er o w v ys) (Dz e er o' w' v ys) (t !=0):=⟨λc h s=>h.stp s (neb c)⟩
instance:Stq t o w o' w' (Bx B k o w b e cs) (Bx B k o' w' b e cs) (k !=t):=⟨λc h s=>h.stp s (neb c)⟩
instance:Stq t o w o' w' (Ow B e k o w v xs) (Ow B e k o' w' v xs) (t !=0&&k !=t):=⟨λc h s=>h.stp s (neb (andb c).1) (neb (andb c).2)⟩
instance:Stq t o w o' w' (Rws B er k o w vs ys) (Rws B er k o' w' vs ys) (t !=0&&k !=t):=⟨λc h s=>h.stp s (neb (andb c).1) (neb (andb c).2)⟩
instance {A A' C C':Prop} {c c':Bool} [i:Stq t o w o' w' A C c] [j:Stq t o w o' w' A' C' c']:Stq t o w o' w' (A∧A') (C∧C') (c&&c'):=⟨λh a s=>⟨i.h (andb h).1 a.1 s,j.h (andb h).2 a.2 s⟩⟩
theorem ZS{A C:Prop}{c:Bool}[i:Stq t o w o' w' A C c](s:Stp t o w o' w')(a:A)(h:c=true:=by rfl):C:=i.h h a s
end
end
structure so where
  Labels:Int
  Arcs:List (List Int)
  deriving DecidableEq
instance:Rp so where
  sz:=2
  pos:=dc
  rd o w cs x:=∃v1,cs=[.int .i64 x.Labels,v1]∧RdL o w v1 x.Arcs
  len h:=by obtain⟨v1,rfl,h1⟩:=h;rfl
  one h:=by
    obtain⟨v1,rfl,h1⟩:=h
    intro c hc
    simp only[I_,P_,or_false] at hc
    rcases hc with rfl|rfl<;>first|rfl|exact h1.one1
  mv h hs hb:=by obtain⟨v1,rfl,h1⟩:=h;exact⟨v1,rfl,h1.mv hs hb⟩
instance:Rz so:=⟨⟨0,[]⟩,[.int .i64 0,.slice none 0 0],λo w=>⟨_,rfl,RdL.nil o w⟩⟩
structure rX where
  Labels:Int
  Children:Int
  Lines:List (List Int)
  deriving DecidableEq
instance:Rp rX where
  sz:=3
  pos:=dc
  rd o w cs x:=∃v1,cs=[.int .i64 x.Labels,.int .i64 x.Children,v1]∧RdL o w v1 x.Lines
  len h:=by obtain⟨v1,rfl,h1⟩:=h;rfl
  one h:=by
    obtain⟨v1,rfl,h1⟩:=h
    intro c hc
    simp only[I_,P_,or_false] at hc
    rcases hc with rfl|rfl|rfl<;>first|rfl|exact h1.one1
  mv h hs hb:=by obtain⟨v1,rfl,h1⟩:=h;exact⟨v1,rfl,h1.mv hs hb⟩
instance:Rz rX:=⟨⟨0,0,[]⟩,[.int .i64 0,.int .i64 0,.slice none 0 0],λo w=>⟨_,rfl,RdL.nil o w⟩⟩
structure rI where
  Class:Int
  Label:Int
  First:List Int
  Second:List Int
  Ranks:List (List Int)
  deriving DecidableEq
instance:Rp rI where
  sz:=5
  pos:=dc
  rd o w cs x:=∃v1 v2 v3,cs=[.int .i64 x.Class,.int .i64 x.Label,v1,v2,v3]∧RdL o w v1 x.First∧RdL o w v2 x.Second∧RdL o w v3 x.Ranks
  len h:=by obtain⟨v1,v2,v3,rfl,h1,h2,h3⟩:=h;rfl
  one h:=by
    obtain⟨v1,v2,v3,rfl,h1,h2,h3⟩:=h
    intro c hc
    simp only[I_,P_,or_false] at hc
    rcases hc with rfl|rfl|rfl|rfl|rfl<;>first|rfl|exact h1.one1|exact h2.one1|exact h3.one1
  mv h hs hb:=by obtain⟨v1,v2,v3,rfl,h1,h2,h3⟩:=h;exact⟨v1,v2,v3,rfl,h1.mv hs hb,h2.mv hs hb,h3.mv hs hb⟩
instance:Rz rI:=⟨⟨0,0,[],[],[]⟩,[.int .i64 0,.int .i64 0,.slice none 0 0,.slice none 0 0,.slice none 0 0],λo w=>⟨_,_,_,rfl,RdL.nil o w,RdL.nil o w,RdL.nil o w⟩⟩
structure c_ where
  Labels:Int
  Degree:Int
  Nodes:List (List Int)
  Edges:List (List Int)
  deriving DecidableEq
instance:Rp c_ where
  sz:=4
  pos:=dc
  rd o w cs x:=∃v1 v2,cs=[.int .i64 x.Labels,.int .i64 x.Degree,v1,v2]∧RdL o w v1 x.Nodes∧RdL o w v2 x.Edges
  len h:=by obtain⟨v1,v2,rfl,h1,h2⟩:=h;rfl
  one h:=by
    obtain⟨v1,v2,rfl,h1,h2⟩:=h
    intro c hc
    simp only[I_,P_,or_false] at hc
    rcases hc with rfl|rfl|rfl|rfl<;>first|rfl|exact h1.one1|exact h2.one1
  mv h hs hb:=by obtain⟨v1,v2,rfl,h1,h2⟩:=h;exact⟨v1,v2,rfl,h1.mv hs hb,h2.mv hs hb⟩
instance:Rz c_:=⟨⟨0,0,[],[]⟩,[.int .i64 0,.int .i64 0,.slice none 0 0,.slice none 0 0],λo w=>⟨_,_,rfl,RdL.nil o w,RdL.nil o w⟩⟩
structure vq where
  labels:List Int
  period:Int
  residue:List Int
  deriving DecidableEq
instance:Rp vq where
  sz:=3
  pos:=dc
  rd o w cs x:=∃v1 v2,cs=[v1,.int .i64 x.period,v2]∧RdL o w v1 x.labels∧RdL o w v2 x.residue
  len h:=by obtain⟨v1,v2,rfl,h1,h2⟩:=h;rfl
  one h:=by
    obtain⟨v1,v2,rfl,h1,h2⟩:=h
    intro c hc
    simp only[I_,P_,or_false] at hc
    rcases hc with rfl|rfl|rfl<;>first|rfl|exact h1.one1|exact h2.one1
  mv h hs hb:=by obtain⟨v1,v2,rfl,h1,h2⟩:=h;exact⟨v1,v2,rfl,h1.mv hs hb,h2.mv hs hb⟩
instance:Rz vq:=⟨⟨[],0,[]⟩,[.slice none 0 0,.int .i64 0,.slice none 0 0],λo w=>⟨_,_,rfl,RdL.nil o w,RdL.nil o w⟩⟩
structure qO where
  Node:Int
  Port:Int
  deriving DecidableEq
instance:Rp qO where
  sz:=2
  pos:=dc
  rd o w cs x:=cs=[.int .i64 x.Node,.int .i64 x.Port]
  len h:=by subst h;rfl
  one h:=by subst h;simp[Value.oneCell']
  mv h hs hb:=h
instance:Rz qO:=⟨⟨0,0⟩,[.int .i64 0,.int .i64 0],λo w=>rfl⟩
structure uK where
  Ends:List (List qO)
  Ids:List Int
  Inputs:List Int
  deriving DecidableEq
instance:Rp uK where
  sz:=3
  pos:=dc
  rd o w cs x:=∃v1 v2 v3,cs=[v1,v2,v3]∧RdL o w v1 x.Ends∧RdL o w v2 x.Ids∧RdL o w v3 x.Inputs
  len h:=by obtain⟨v1,v2,v3,rfl,h1,h2,h3⟩:=h;rfl
  one h:=by
    obtain⟨v1,v2,v3,rfl,h1,h2,h3⟩:=h
    intro c hc
    simp only[I_,P_,or_false] at hc
    rcases hc with rfl|rfl|rfl<;>first|rfl|exact h1.one1|exact h2.one1|exact h3.one1
  mv h hs hb:=by obtain⟨v1,v2,v3,rfl,h1,h2,h3⟩:=h;exact⟨v1,v2,v3,rfl,h1.mv hs hb,h2.mv hs hb,h3.mv hs hb⟩
instance:Rz uK:=⟨⟨[],[],[]⟩,[.slice none 0 0,.slice none 0 0,.slice none 0 0],λo w=>⟨_,_,_,rfl,RdL.nil o w,RdL.nil o w,RdL.nil o w⟩⟩
end Go.Proofs.YtpefhaamcihneaaGreat
