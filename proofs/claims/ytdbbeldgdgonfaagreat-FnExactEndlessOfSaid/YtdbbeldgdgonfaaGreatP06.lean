/- Part 6 of what this claim rests on (Pa, Pb, Slp, Ris, GB, Kc, Sort, Vals), packed by pack.py. -/
import Derived.Test.YtdbbeldgdgonfaaGreatLay
import Derived.Shelf.Slices.In.SortAlone
import Derived.Shelf.Slices.In.SortNone
import Derived.Sort.EveryDepth
import Derived.Lib.SlKeysI
import Derived.Shelf.SlIterI.Collect
import Derived.Shelf.SlIterI.Sorted
import Derived.RangeFuncKeeps
import Derived.OwnWalkIn
import Derived.TacticsInMore
import Derived.LoopNIn
import Derived.LoopIn
import Derived.Deep.LoopGhost
import Derived.Test.YtdbbeldgdgonfaaGreatP03
import Derived.Test.YtdbbeldgdgonfaaGreatP04
import Derived.Test.YtdbbeldgdgonfaaGreatP05
namespace Go.Proofs.YtdbbeldgdgonfaaGreat
open Tryz renaming prog→tX_, func200→vG_
set_option linter.unusedSimpArgs false
set_option linter.unusedVariables false
section
theorem oV_(a b c:Int):gR_ a b c=some (decide (b<=a)&&decide (a<=c)):=by
 unfold gR_;by_cases h:a>=b
 ·simp[h,show b<=a from h]
 ·simp[h,show ¬b<=a from h]
theorem ih_(a b c:Int):ea_ a b c=some (decide (b<=a)&&decide (a<=c)):=by
 unfold ea_;by_cases h:b<=a<;>simp[h]
def inB(b c a:Int):Bool:=decide (b<=a)&&decide (a<=c)
theorem tb_(xs:List Int)(b c:Int):hR_ xs b c=some (xs.all (inB b c)):=by
 unfold hR_;rw[do_ (λ_ x=>if inB b c x then none else some false) xs (λj x hj _=>by
  unfold gq_;rw[oV_,sb];cases h:inB b c x<;>simp only[inB] at h<;>simp[h,lpP,inB]),kN_,sb]
 cases xs.all (inB b c)<;>rfl
theorem nO_(xs:List Int)(f:Int->Option Bool)(g:Int->Bool)(hf:∀x,x∈xs->f x=some (g x))(hl:xs.length<=1000000000):
  aM_ xs f=some ((firstP (λk x=>if g x then some (k:Int) else none) xs 0).getD (-1)):=by
 unfold aM_;rw[F_ (by omega) (by omega),sb];simp only[Int.toNat_natCast];rw[gw_ (λk x=>if g x then some (k:Int) else none) xs (λj x hj _=>by
  unfold aZ_;rw[ca_,hj,sb,hf x (List.mem_of_getElem? hj),sb];cases h:g x<;>simp[h,lpP]),sb]
 cases firstP (λk x=>if g x then some (k:Int) else none) xs 0<;>rfl
theorem kx_(xs:List Int)(f:Int->Option Bool)(g:Int->Bool)(hf:∀x,x∈xs->f x=some (g x))(hl:xs.length<=1000000000):
  ay_ xs f=some (xs.any g):=by
 unfold ay_;rw[nO_ xs f g hf hl,sb];cases h:firstP (λk x=>if g x then some (k:Int) else none) xs 0 with
 | some r=>
  obtain⟨j,x,h1,h2⟩:=dp_ h;have h3:g x=true:=by
   cases hg:g x with
   |true=>rfl
   |false=>rw[hg] at h2;cases h2
  have h4:xs.any g=true:=List.any_eq_true.2 ⟨x,List.mem_of_getElem? h1,h3⟩;rw[h3,if_pos rfl] at h2;cases h2
  rw[h4];simp
 | none=>
  have h4:xs.any g=false:=by
   rw[List.any_eq_false];intro x hx hg;obtain⟨j,hj⟩:=List.mem_iff_getElem?.1 hx;have:=cN_.1 h j x hj;rw[hg] at this;simp at this
  rw[h4];simp
theorem nr_(xs:List Int)(b c:Int)(hl:xs.length<=1000000000):eB_ xs b c=some (xs.all (inB b c)):=by
 unfold eB_;rw[kx_ xs _ (λx=> !inB b c x) (λx _=>by unfold cZ_;rw[ih_,sb];rfl) hl,sb];congr 1;rw[List.not_any_eq_all_not];simp
theorem tW_(a b:Int):bn_ a b=some (if a<b then -1 else if a>b then 1 else 0):=by
 unfold bn_ aR_;simp only[sb,bne_self_eq_false,Bool.false_eq_true,if_false];by_cases h:a<b
 ·simp[h]
 ·by_cases h2:a>b<;>simp[h,h2]
theorem sK_(a b:Int):cz_ a b=some (decide (a<b)):=by
 unfold cz_ aR_;simp[sb]
def sortB:List Int->Bool
  |a::b::r=>decide (a<=b)&&sortB (b::r)
  |_=>true
theorem fX_:∀{xs:List Int},sortB xs=true<->∀(k:Nat) a b,xs[k]? =some a->xs[k+1]? =some b->a<=b
 |[]=>by simp[sortB]
 |[a]=>by simp[sortB]
 | a::b::r=>by
  simp only[sortB,Bool.and_eq_true,decide_eq_true_eq];rw[fX_];constructor
  ·rintro⟨h1,h2⟩ k x y hx hy;cases k with
   |zero=>simp at hx hy;subst hx;subst hy;exact h1
   |succ k=>exact h2 k x y (by simpa using hx) (by simpa using hy)
  ·intro h;exact⟨h 0 a b rfl rfl,λk x y hx hy=>h (k+1) x y (by simpa using hx) (by simpa using hy)⟩
theorem ll_(xs:List Int)(hl:xs.length<=1000000000)(fuel:Nat):∀(k:Nat),k<fuel->k<xs.length->
  loopF (W_ xs) fuel (k:Int)=some (if sortB (xs.take (k+1)) then .inl 0 else .inr false):=by
 induction fuel with
 |zero=>intro k h;omega
 | succ fuel ih=>
  intro k hk hkl;cases k with
  | zero=>
   have hs:W_ xs ((0:Nat):Int)=some (.out 0):=by unfold W_;simp
   have:sortB (xs.take 1)=true:=by
    cases xs with
    |nil=>simp at hkl
    |cons a r=>simp[sortB]
   simp only[loopF,hs,this,Nat.zero_add,if_true]
  | succ k=>
   have hs:W_ xs ((k+1:Nat):Int)=some (if xs[k+1]<xs[k]'(by omega) then .ret false else .go (k:Int)):=by
    unfold W_;rw[if_pos (by rw[decide_eq_true_eq];omega)];rw[gf_ _ _ hkl,sb,F_ (by omega) (by omega),sb,show(((k+1:Nat):Int)-1)=(k:Int) by omega,gf_ _ _ (by omega),sb,sK_,sb];by_cases hlt:xs[k+1]<xs[k]'(by omega)
    ·rw[if_pos (by rw[decide_eq_true_eq];exact hlt),if_pos hlt]
    ·rw[if_neg (by rw[decide_eq_true_eq];exact hlt),if_neg hlt];first|rfl|(rw[F_ (by omega) (by omega),sb,show(((k+1:Nat):Int)-1)=(k:Int) by omega])
   simp only[loopF,hs];by_cases hlt:xs[k+1]<xs[k]'(by omega)
   ·have:sortB (xs.take (k+1+1))=false:=by
     rw[Bool.eq_false_iff];intro h;have:=fX_.1 h k (xs[k]'(by omega)) xs[k+1] (by simp[List.getElem?_take,show k<k+1+1 by omega]) (by simp[List.getElem?_take]);omega
    simp[hlt,this]
   ·rw[if_neg hlt];simp only
    rw[ih k (by omega) (by omega)];have:sortB (xs.take (k+1+1))=sortB (xs.take (k+1)):=by
     rw[Bool.eq_iff_iff,fX_,fX_];constructor
     ·intro h j a b ha hb;rw[List.getElem?_take] at ha hb;split at hb
      ·rename_i hj;refine h j a b ?_ ?_
       ·rw[List.getElem?_take,if_pos (by omega)];rw[if_pos (by omega)] at ha;exact ha
       ·rw[List.getElem?_take,if_pos (by omega)];exact hb
      ·cases hb
     ·intro h j a b ha hb;rw[List.getElem?_take] at ha hb;by_cases hj:j=k
      ·subst hj;rw[if_pos (by omega),List.getElem?_eq_getElem (by omega)] at ha hb;cases ha;cases hb;omega
      ·split at hb
       ·refine h j a b ?_ ?_
        ·rw[List.getElem?_take,if_pos (by omega)];rw[if_pos (by omega)] at ha;exact ha
        ·rw[List.getElem?_take,if_pos (by omega)];exact hb
       ·cases hb
    rw[this]
theorem pJ_(xs:List Int)(fuel:Nat)(hf:xs.length<fuel)(hl:xs.length<=1000000000):aV_ fuel xs=some (sortB xs):=by
 unfold aV_;rw[F_ (by omega) (by omega),sb];cases xs with
 |nil=>
  cases fuel with
  |zero=>simp at hf
  |succ fuel=>simp[loopF,W_,sortB]
 |cons a r=>
  have:=ll_ (a::r) hl fuel r.length (by simp at hf;omega) (by simp);rw[show(((a::r).length:Int)-1)=(r.length:Int) by simp,this,sb];rw[List.take_of_length_le (by simp)];cases sortB (a::r)<;>rfl
end
section
theorem kQ_{α:Type}(a:List α)(x:α)(b:List α):ix (a++x::b) (a.length:Int)=some x:=by
 rw[ca_];simp
theorem qx_{α:Type}(a:List α)(x:α)(b:List α)(n:Int)(h:n=a.length):ix (a++x::b) n=some x:=by subst h;exact kQ_ a x b
theorem rR_{α:Type}(a:List α)(x y:α)(b:List α)(n:Int)(h:n=a.length):st (a++x::b) n y=some (a++y::b):=by
 subst h;rw[iW_ _ _ _ (by simp)];simp
def insR:List Int->Int->List Int->List Int
  |[],x,b=>x::b
  |y::ra,x,b=>if y>x then insR ra x (y::b) else ra.reverse++y::x::b
theorem hT_(x:Int):∀(ra b:List Int)(fuel:Nat),ra.length<fuel->ra.length<=1000000000->
  ∃j,loopF cp_ fuel (ra.reverse++x::b,(ra.length:Int))=some (.inl (insR ra x b,j))
 |[],b,fuel,hf,_=>by
  cases fuel with
  |zero=>simp at hf
  |succ fuel=>exact⟨0,by simp[loopF,cp_,insR,sb]⟩
 | y::ra,b,fuel,hf,hl=>by
  cases fuel with
  |zero=>simp at hf
  | succ fuel=>
   have e1:(y::ra).reverse++x::b=ra.reverse++y::x::b:=by simp
   have e2:(((y::ra).length:Nat):Int)-1=(ra.length:Int):=by simp
   have hi:ix (ra.reverse++y::x::b) ((y::ra).length:Int)=some x:=by
    rw[<-e1,<-List.length_reverse];exact kQ_ _ _ _
   have hs:cp_ ((y::ra).reverse++x::b,((y::ra).length:Int))=some (if y>x then .go (ra.reverse++x::y::b,(ra.length:Int)) else .out (ra.reverse++y::x::b,((y::ra).length:Int))):=by
    unfold cp_;simp only[e1];rw[if_pos (by rw[decide_eq_true_eq];simp),F_ (by omega) (by simp at hl ⊢;omega),sb,e2,qx_ _ y _ _ (by simp),sb,hi,sb,sb];by_cases h:y>x
    ·have hs1:st (ra.reverse++y::x::b) ((y::ra).length:Int) y=some (ra.reverse++y::y::b):=by
      have:=rR_ (ra.reverse++[y]) x y b ((y::ra).length:Int) (by simp);simpa using this
     simp only[h,decide_true,if_true,sb,qx_ ra.reverse y (x::b) (ra.length:Int) (by simp),hs1,qx_ ra.reverse y (y::b) (ra.length:Int) (by simp),rR_ ra.reverse y x (y::b) (ra.length:Int) (by simp)]
    ·simp only[h,decide_false,if_false,Bool.false_eq_true]
   simp only[loopF,hs];by_cases h:y>x
   ·simp only[h,if_true,insR];simp at hf hl;exact hT_ x ra (y::b) fuel (by omega) (by omega)
   ·simp only[h,if_false,insR];exact⟨_,rfl⟩
def ssort(xs:List Int):List Int:=xs.foldl (λacc x=>insR acc.reverse x []) []
theorem oN_:∀(ra:List Int)(x:Int)(b c:List Int),insR ra x (b++c)=insR ra x b++c
 |[],x,b,c=>by simp[insR]
 |y::ra,x,b,c=>by
  simp only[insR];split
  ·rw[<-List.cons_append];exact oN_ ra x (y::b) c
  ·simp
theorem jP_:∀(ra:List Int)(x:Int)(b:List Int),(insR ra x b).Perm (ra.reverse++x::b)
 |[],x,b=>by simp[insR]
 |y::ra,x,b=>by
  simp only[insR];split
  ·refine (jP_ ra x (y::b)).trans ?_;simp only[List.reverse_cons,List.append_assoc,List.cons_append,List.nil_append];exact(List.Perm.refl _).append (List.Perm.swap _ _ _)
  ·simp
theorem nK_(ra:List Int)(x:Int)(b:List Int):(insR ra x b).length=ra.length+1+b.length:=by
 rw[(jP_ ra x b).length_eq];simp;omega
theorem jG_:∀(ra:List Int)(x:Int)(b:List Int),(ra.reverse++b).Pairwise (·<=·)->(∀z,z∈b->x<=z)->(insR ra x b).Pairwise (·<=·)
 |[],x,b,h,hz=>by simpa [insR] using ⟨hz,by simpa using h⟩
 | y::ra,x,b,h,hz=>by
  simp only[insR];split
  ·rename_i hy;refine jG_ ra x (y::b) (by simpa using h) λz hz'=>?_;rcases List.mem_cons.1 hz' with rfl|h'
   ·omega
   ·exact hz z h'
  ·rename_i hy;have h':(ra.reverse++y::b).Pairwise (·<=·):=by simpa using h
   rw[List.pairwise_append] at h' ⊢;obtain⟨h1,h2,h3⟩:=h';rw[List.pairwise_cons] at h2;refine⟨h1,?_,?_⟩
   ·rw[List.pairwise_cons,List.pairwise_cons];refine⟨λz hz'=>?_,hz,h2.2⟩;rcases List.mem_cons.1 hz' with rfl|h'
    ·omega
    ·exact h2.1 z h'
   ·intro a ha z hz';rcases List.mem_cons.1 hz' with rfl|hz'
    ·exact h3 a ha _ (by simp)
    ·rcases List.mem_cons.1 hz' with rfl|hz'
     ·have:=h3 a ha y (by simp);omega
     ·exact h3 a ha _ (by simp[hz'])
theorem fD_:∀(xs acc:List Int),acc.Pairwise (·<=·)->(xs.foldl (λacc x=>insR acc.reverse x []) acc).Pairwise (·<=·)
 |[],acc,h=>h
 |x::xs,acc,h=>by
  rw[List.foldl_cons];exact fD_ xs _ (jG_ _ _ _ (by simpa using h) (by simp))
theorem gM_:∀(xs acc:List Int),(xs.foldl (λacc x=>insR acc.reverse x []) acc).Perm (acc++xs)
 |[],acc=>by simp
 |x::xs,acc=>by
  rw[List.foldl_cons];refine (gM_ xs _).trans ?_;have:=(jP_ acc.reverse x []).append_right xs;simpa using this
theorem mb_(xs:List Int):(ssort xs).Pairwise (·<=·):=fD_ xs [] (by simp)
theorem pP_(xs:List Int):(ssort xs).Perm xs:=by
 have:=gM_ xs [];rwa [List.nil_append] at this
theorem hm_:∀{xs:List Int},sortB xs=true<->xs.Pairwise (·<=·)
 |[]=>by simp[sortB]
 |[a]=>by simp[sortB]
 | a::b::r=>by
  rw[List.pairwise_cons];simp only[sortB,Bool.and_eq_true,decide_eq_true_eq];rw[hm_];constructor
  ·rintro⟨h1,h2⟩;refine⟨λz hz=>?_,h2⟩;rcases List.mem_cons.1 hz with rfl|hz
   ·exact h1
   ·have:=(List.pairwise_cons.1 h2).1 z hz;omega
  ·rintro⟨h1,h2⟩;exact⟨h1 b (by simp),h2⟩
theorem ig_(fuel:Nat):∀(xs pre:List Int),(pre.length+xs.length<fuel)->(pre.length+xs.length<=1000000000)->
  forN (cq_ fuel) xs.length (pre.length:Int) (pre++xs)=some (.inl (xs.foldl (λacc x=>insR acc.reverse x []) pre))
 |[],pre,_,_=>by simp[forN]
 | x::xs,pre,hf,hl=>by
  simp only[List.length_cons] at hf hl;obtain⟨j,hj⟩:=hT_ x pre.reverse xs fuel (by simp;omega) (by simp;omega);rw[List.reverse_reverse,List.length_reverse] at hj;have hi:insR pre.reverse x xs=insR pre.reverse x []++xs:=by
   have:=oN_ pre.reverse x [] xs;simpa using this
  have hs:cq_ fuel (pre.length:Int) (pre++x::xs)=some (.go (insR pre.reverse x []++xs)):=by
   unfold cq_;rw[hj,sb,hi]
  have hlen:(insR pre.reverse x []).length=pre.length+1:=by rw[nK_];simp
  simp only[List.length_cons,forN,hs,List.foldl_cons];have:=ig_ fuel xs (insR pre.reverse x []) (by omega) (by omega);rw[hlen] at this;rw[show((pre.length:Int)+1)=((pre.length+1:Nat):Int) by omega];exact this
theorem fY_(xs:List Int)(h:xs.length<=1000000000):da_ xs=some xs:=by
 unfold da_;rw[hH_ xs h,sb]
theorem hs_(xs:List Int)(fuel:Nat)(hf:xs.length<fuel)(hl:xs.length<=1000000000):dn_ fuel xs=some (ssort xs):=by
 unfold dn_;rw[fY_ xs hl,sb,F_ (by omega) (by omega),sb];simp only[Int.toNat_natCast];have:=ig_ fuel xs [] (by simpa using hf) (by simpa using hl);simp only[List.length_nil,List.nil_append,Int.ofNat_zero] at this;rw[show(0:Int)=((0:Nat):Int) from rfl] at*
 rw[show forN (cq_ fuel) xs.length ((0:Nat):Int) xs=_ from this,sb];rfl
theorem kR_:∀{xs ys:List Int}{k:Nat},xs.length=ys.length->(firstP (λ_(p:Int×Int)=>if p.1 !=p.2 then some false else none) (xs.zip ys) k=if decide (xs=ys) then none else some false)
 |[],[],k,h=>rfl
 |x::xs,y::ys,k,h=>by
  simp only[List.zip_cons_cons,firstP];by_cases e:x=y
  ·subst e;simp only[bne_self_eq_false,Bool.false_eq_true,if_false];rw[kR_ (by simpa using h)];simp
  ·simp[e]
 |[],y::ys,k,h=>by simp at h
 |x::xs,[],k,h=>by simp at h
theorem oB_(xs ys:List Int)(hl:xs.length<=1000000000):fN_ xs ys=some (decide (xs=ys)):=by
 unfold fN_;by_cases h:xs.length=ys.length
 ·rw[if_neg (by simp[h]),F_ (by omega) (by omega),sb];simp only[Int.toNat_natCast];have hz:xs.length=(xs.zip ys).length:=by simp[h]
  rw[hz,gw_ (λ_(p:Int×Int)=>if p.1 !=p.2 then some false else none) (xs.zip ys) (λj x hj _=>by
   unfold fr_;rw[List.getElem?_zip_eq_some] at hj;rw[ca_,hj.1,sb,ca_,hj.2,sb];cases h':(x.1 !=x.2)<;>simp[lpP]),kR_ h,sb]
  by_cases e:xs=ys<;>simp[e,outP]
 ·rw[if_pos (by simp;omega)];rw[show decide (xs=ys)=false from by rw[decide_eq_false_iff_not];rintro rfl;exact h rfl]
def ordL:List Int->List Int->Int
  |x::xs,y::ys=>if x<y then -1 else if x>y then 1 else ordL xs ys
  |_,_=>0
def ordP(ys:List Int)(k:Nat)(x:Int):Option Int:=match ys[k]? with
  |some y=>if x<y then some (-1) else if x>y then some 1 else none
  |none=>none
theorem iH_(Y:List Int):∀(xs ys:List Int)(k:Nat),ys=Y.drop k->xs.length=ys.length->(firstP (ordP Y) xs k).getD 0=ordL xs ys
 |[],[],k,_,h=>rfl
 | x::xs,y::ys,k,hy,h=>by
  have h1:Y[k]? =some y:=by
   have h1:(Y.drop k)[0]? =some y:=by rw[<-hy];rfl
   rw[List.getElem?_drop] at h1;simpa using h1
  have h2:ys=Y.drop (k+1):=by rw[<-List.drop_drop,<-hy];rfl
  simp only[firstP,ordL,ordP,h1];by_cases e:x<y
  ·simp[e]
  ·by_cases e2:x>y
   ·simp[e,e2]
   ·simp only[e,e2,if_false];have:=iH_ Y xs ys (k+1) h2 (by simpa using h);exact this
 |[],y::ys,k,_,h=>by simp at h
 |x::xs,[],k,_,h=>by simp at h
theorem jU_(xs ys:List Int)(h:xs.length=ys.length):P_ xs ys=some (ordL xs ys):=by
 unfold P_;rw[do_ (ordP ys) xs (λj x hj _=>by
  have hjl:j<ys.length:=by rw[<-h];exact(List.getElem?_eq_some_iff.1 hj).1
  unfold ap_;rw[if_neg (by rw[decide_eq_true_eq];omega),gf_ _ _ hjl,sb,tW_,sb];simp only[ordP,List.getElem?_eq_getElem hjl];by_cases e:x<ys[j]
  ·simp[e,lpP]
  ·by_cases e2:x>ys[j]<;>simp[e,e2,lpP]),sb]
 have:=iH_ ys xs ys 0 (by simp) h;cases hc:firstP (ordP ys) xs 0 with
 |some r=>rw[hc] at this;simp only[outP];rw[<-this];rfl
 |none=>rw[hc] at this;simp only[outP];rw[if_neg (by simp[h]),<-this];rfl
theorem mF_(xs ys:List Int)(h:xs.length=ys.length)(hx:∀x,x∈xs->0<=x∧x<=1000000000)(hy:∀y,y∈ys->0<=y∧y<=1000000000):em_ xs ys=some (ordL xs ys):=by
 unfold em_;rw[do_ (ordP ys) xs (λj x hj _=>by
  have hjl:j<ys.length:=by rw[<-h];exact(List.getElem?_eq_some_iff.1 hj).1
  have h1:=hx x (List.mem_of_getElem? hj);have h2:=hy ys[j] (List.getElem_mem hjl);unfold eP_;rw[gf_ _ _ hjl,sb];simp only[ordP,List.getElem?_eq_getElem hjl];by_cases e:x<ys[j]
  ·rw[if_pos (by simp;omega),sb,F_ (by omega) (by omega),sb];unfold gT_;rw[if_neg (by simp;omega),if_pos (by simp;omega),sb];simp[e,lpP]
  ·by_cases e2:x>ys[j]
   ·rw[if_pos (by simp;omega),sb,F_ (by omega) (by omega),sb];unfold gT_;rw[if_pos (by simp;omega),sb];simp[e,e2,lpP]
   ·rw[if_neg (by simp;omega)];simp[e,e2,lpP]),sb]
 have:=iH_ ys xs ys 0 (by simp) h;cases hc:firstP (ordP ys) xs 0 with
 |some r=>rw[hc] at this;simp only[outP];rw[<-this];rfl
 |none=>rw[hc] at this;simp only[outP];rw[<-this];rfl
end
section
theorem hA_:∀{a b:List Int},a.length=b.length->(ordL a b=0<->a=b)
 |[],[],_=>by simp[ordL]
 | x::a,y::b,h=>by
  have ih:=hA_ (a:=a) (b:=b) (by simpa using h);unfold ordL;by_cases h1:x<y
  ·rw[if_pos h1];constructor
   ·intro h;omega
   ·intro h;cases h;omega
  ·rw[if_neg h1];by_cases h2:x>y
   ·rw[if_pos h2];constructor
    ·intro h;omega
    ·intro h;cases h;omega
   ·rw[if_neg h2,ih];have:x=y:=by omega
    subst this;simp
 |[],_::_,h=>by simp at h
 |_::_,[],h=>by simp at h
theorem hF_:∀(a b:List Int),ordL b a= -ordL a b
 |[],[]=>by simp[ordL]
 |[],_::_=>by simp[ordL]
 |_::_,[]=>by simp[ordL]
 | x::a,y::b=>by
  have ih:=hF_ a b;simp only[ordL];by_cases h1:x<y
  ·have h2:¬y<x:=by omega
   simp[h1,h2]
  ·by_cases h2:y<x
   ·simp[h1,h2]
   ·simp[h1,h2,ih]
theorem if_:∀{a b c:List Int},a.length=b.length->b.length=c.length->ordL a b<0->ordL b c<0->ordL a c<0
 |[],[],[],_,_,h,_=>by simp[ordL] at h
 | x::a,y::b,z::c,h1,h2,h3,h4=>by
  have ih:=if_ (a:=a) (b:=b) (c:=c) (by simpa using h1) (by simpa using h2);simp only[ordL] at h3 h4 ⊢;by_cases e1:x<y
  ·by_cases e2:y<z
   ·rw[if_pos (by omega)];decide
   ·rw[if_neg e2] at h4;by_cases e3:y>z
    ·rw[if_pos e3] at h4;omega
    ·rw[if_pos (by omega)];decide
  ·rw[if_neg e1] at h3;by_cases e2:x>y
   ·rw[if_pos e2] at h3;omega
   ·rw[if_neg e2] at h3;by_cases e3:y<z
    ·rw[if_pos (by omega)];decide
    ·rw[if_neg e3] at h4;by_cases e4:y>z
     ·rw[if_pos e4] at h4;omega
     ·rw[if_neg e4] at h4;rw[if_neg (by omega),if_neg (by omega)];exact ih h3 h4
 |[],_::_,_,h,_,_,_=>by simp at h
 |_::_,[],_,h,_,_,_=>by simp at h
 |[],[],_::_,_,h,_,_=>by simp at h
 |_::_,_::_,[],_,h,_,_=>by simp at h
theorem qe_{a b c:List Int}(h1:a.length=b.length)(h2:b.length=c.length)(h3:¬ordL a b<0)(h4:¬ordL b c<0):¬ordL a c<0:=λh=>by
 have e1:=hF_ a b;have e2:=hF_ b c;have e3:=hF_ a c;by_cases q1:ordL a b=0
 ·have:=(hA_ h1).1 q1;subst this;exact h4 h
 ·by_cases q2:ordL b c=0
  ·have:=(hA_ h2).1 q2;subst this;exact h3 h
  ·have:=if_ (a:=c) (b:=b) (c:=a) (by omega) (by omega) (by omega) (by omega);omega
def insS:List (List Int)->List Int->List (List Int)
  |[],x=>[x]
  |y::l,x=>if ordL y x<0 then y::insS l x else if y=x then y::l else x::y::l
def sxd(xs:List (List Int)):List (List Int):=xs.foldl insS []
def sorS(l:List (List Int)):Prop:=l.Pairwise λa b=>ordL a b<0
theorem hP_{z x:List Int}:∀{l:List (List Int)},z∈insS l x<->z=x∨z∈l
 |[]=>by simp[insS]
 | y::l=>by
  unfold insS;split
  ·rw[List.mem_cons,hP_,List.mem_cons];constructor
   ·rintro(h|h|h)<;>simp[h]
   ·rintro(h|h|h)<;>simp[h]
  ·split
   ·rename_i h;subst h;simp
   ·simp
theorem oW_{L:Nat}{x:List Int}(hx:x.length=L):∀{l:List (List Int)},(∀z∈l,z.length=L)->sorS l->sorS (insS l x)
 |[],_,_=>by simp[insS,sorS]
 | y::l,hl,h=>by
  have hy:=hl y (by simp);obtain⟨h1,h2⟩:=List.pairwise_cons.1 h;unfold insS;split
  ·rename_i hlt;refine List.pairwise_cons.2 ⟨λz hz=>?_,oW_ hx (λz hz=>hl z (by simp[hz])) h2⟩;rcases hP_.1 hz with rfl|hz
   ·exact hlt
   ·exact h1 z hz
  ·rename_i hge;split
   ·exact h
   ·rename_i hne;have hxy:ordL x y<0:=by
     have e1:=hF_ y x;have:ordL y x≠0:=λe=>hne ((hA_ (by omega)).1 e);omega
    refine List.pairwise_cons.2 ⟨λz hz=>?_,h⟩;rcases List.mem_cons.1 hz with rfl|hz
    ·exact hxy
    ·exact if_ (by omega) (by have:=hl z (by simp[hz]);omega) hxy (h1 z hz)
theorem lC_{L:Nat}:∀(xs l:List (List Int)),(∀z∈xs,z.length=L)->(∀z∈l,z.length=L)->sorS l->sorS (xs.foldl insS l)∧∀z,z∈xs.foldl insS l<->z∈l∨z∈xs
 |[],l,_,_,h=>⟨h,λz=>by simp⟩
 | x::xs,l,h1,h2,h3=>by
  have hx:=h1 x (by simp);obtain⟨g1,g2⟩:=lC_ xs (insS l x) (λz hz=>h1 z (by simp[hz])) (λz hz=>by
   rcases hP_.1 hz with rfl|hz
   ·exact hx
   ·exact h2 z hz) (oW_ hx h2 h3)
  refine⟨g1,λz=>?_⟩;rw[List.foldl_cons,g2,hP_,List.mem_cons];constructor
  ·rintro((h|h)|h)<;>simp[h]
  ·rintro(h|h|h)<;>simp[h]
theorem pd_{L:Nat}{a b:List (List Int)}(ha:∀z∈a,z.length=L)(h1:sorS a)(h2:sorS b)(h:∀z,z∈a<->z∈b):a=b:=by
 have hn:∀{l:List (List Int)},sorS l->l.Nodup:=λ{l} hl=>hl.imp λ{x y} hxy e=>by
  subst e;rw[(hA_ rfl).2 rfl] at hxy;omega
 have hp:a.Perm b:=(List.perm_ext_iff_of_nodup (hn h1) (hn h2)).2 h;refine hp.eq_of_pairwise (le:=λx y=>ordL x y<0) (λx y hx hy q1 q2=>?_) h1 h2;have:=hF_ x y;omega
def srtL(xs:List (List Int)):Option (List (List Int)):=
  if xs.length<=1000000000∧(xs.headD []).length<=1000000000∧(∀x∈xs,x.length=(xs.headD []).length) then some (sxd xs) else none
theorem rm_{xs:List (List Int)}{L:Nat}(h1:xs.length<=1000000000)(h2:L<=1000000000)(h3:∀x∈xs,x.length=L):srtL xs=some (sxd xs):=by
 unfold srtL;cases xs with
 |nil=>rw[if_pos (by simp)]
 |cons x xs=>
  have:=h3 x (by simp);rw[if_pos ⟨h1,by show x.length<=_;omega,λy hy=>by show y.length=x.length;rw[h3 y hy,this]⟩]
end
section
open Go.RowKit
def cvU(a:Int):Option Int:=if 0<=a∧a<=9223372036854775807 then some a else none
theorem oX_{a b:Int}(h:cvU a=some b):b=a∧0<=a∧a<=9223372036854775807:=by
 unfold cvU at h;split at h
 ·rename_i hh;cases h;exact⟨rfl,hh⟩
 ·cases h
section
variable {P:Program} {l:List (Nat×Value)} {w:World} {d:Option Nat} {ty src dst:TypeId} {ps:String} {af:Array Edge} {g:Option (Nat×Bool)} {x y:Operand} {a b c:Int}
theorem ov_(h:cvU a=some b)(hx:ev l x=some (.int .i64 a))(hs:P.underlying src=some (.int .i64))(hd:P.underlying dst=some (.int .u64)):
  ∀ρ,Agr ρ l->(execOp ρ ⟨d,.convert src dst x,ty,ps,af,g⟩).run P w=.ok (.value (.int .u64 b)) w:=by
 obtain⟨rfl,h1,h2⟩:=oX_ h;intro ρ hρ;have e:IntKind.u64.wrap b=b:=by simp[IntKind.wrap,IntKind.bits,IntKind.signed];omega
 simp only[execOp,hρ x _ hx,convert,Sem.run_bind,run_underlying hs,run_underlying hd,Result.andThen_ok,Conv.intToInt,Sem.run_pure,e]
theorem oy_(h:cvU a=some b)(hx:ev l x=some (.int .u64 a))(hs:P.underlying src=some (.int .u64))(hd:P.underlying dst=some (.int .i64)):
  ∀ρ,Agr ρ l->(execOp ρ ⟨d,.convert src dst x,ty,ps,af,g⟩).run P w=.ok (.value (.int .i64 b)) w:=by
 obtain⟨rfl,h1,h2⟩:=oX_ h;intro ρ hρ;have e:IntKind.i64.wrap b=b:=by rw[IntKind.wrap_i64];omega
 simp only[execOp,hρ x _ hx,convert,Sem.run_bind,run_underlying hs,run_underlying hd,Result.andThen_ok,Conv.intToInt,Sem.run_pure,e]
theorem qf_{t t':TypeId}(hx:ev l x=some (.int .u64 a))(hy:ev l y=some (.int .u64 b))(h:shr a b=some c):
  ∀ρ,Agr ρ l->(execOp ρ ⟨d,.binOp .shr t x y t',ty,ps,af,g⟩).run P w=.ok (.value (.int .u64 c)) w:=by
 unfold shr at h;split at h
 ·cases h
 ·rename_i h0;cases h
  intro ρ hρ;have hg:(eqGuard .shr t x y (.int .u64 a) (.int .u64 b)).run P w=.ok () w:=rfl;have hv:(binOp .shr t (.int .u64 a) (.int .u64 b)).run P w=.ok (.int .u64 (a.fdiv (2^(min b.toNat 64)))) w:=by
   simp only[binOp,Op.shift,if_neg h0];rfl
  simp only[execOp,hρ x _ hx,hρ y _ hy,Sem.run_bind,hg,Result.andThen_ok,hv];rfl
end
def isnil:Value->Bool
  | .slice none _ _=>true
  |_=>false
theorem qt_{α:Type}[Rp α]{w:World}{v:Value}{xs:List α}(h:RdL zt w v xs)(hn:isnil v=true):xs=[]:=by
 obtain⟨a,c,rfl,_,_,h4⟩:=h;cases a with
 |some a=>simp[isnil] at hn
 | none=>
  cases xs with
  |nil=>rfl
  |cons x xs=>
   obtain⟨b,off,cs,e,_⟩:=h4 0 x rfl;cases e
section
variable {P:Program} {l:List (Nat×Value)} {w:World} {d:Option Nat} {ty:TypeId} {ps:String} {af:Array Edge} {g:Option (Nat×Bool)} {x y:Operand} {v:Value} {α:Type} [Rp α] {xs:List α}
theorem ru_{t t' e:TypeId}(h:RdL zt w v xs)(hx:ev l x=some v)(hy:ev l y=some (.slice none 0 0))(ht:P.underlying t=some (.slice e)):
  ∀ρ,Agr ρ l->(execOp ρ ⟨d,.binOp .eql t x y t',ty,ps,af,g⟩).run P w=.ok (.value (.bool (isnil v))) w:=by
 obtain⟨a,c,rfl,_⟩:=h;intro ρ hρ;have hg:(eqGuard .eql t x y (.slice a xs.length c) (.slice none 0 0)).run P w=.ok () w:=rfl;have hv:(binOp .eql t (.slice a xs.length c) (.slice none 0 0)).run P w=.ok (.bool (isnil (.slice a xs.length c))) w:=by
  have key:∀n,(Op.equalIn (n+1) t (.slice a xs.length c) (.slice none 0 0)).run P w=.ok (isnil (.slice a xs.length c)) w:=λn=>by
   cases a<;>simp[Op.equalIn,Sem.run_bind,run_underlying ht,isnil]
  have k2:=key 9999;have e:binOp .eql t (.slice a xs.length c) (.slice none 0 0)=(Op.equalIn (9999+1) t (.slice a xs.length c) (.slice none 0 0)>>=λb=>pure (Value.bool b)):=rfl;rw[e,Sem.run_bind,k2];rfl
 simp only[execOp,hρ x _ hx,hρ y _ hy,Sem.run_bind,hg,Result.andThen_ok,hv];rfl
end
section
variable {P:Program} {n:Nat} {l:List (Nat×Value)} {w:World} {d:Nat} {ty:TypeId} {ps:String} {af:Array Edge} {g:Option (Nat×Bool)} {R:Value->World->Prop} {α:Type} [Rp α] {o:Tg}
theorem oY_{t e:TypeId}{m sz:Nat}{z:Value}{parts:List (Nat×Operand)}{vs:List (Nat×Value)}{cs:List Value}{xs:List α}(B k:Nat)(hB:B<=w.heap.size)(hrd:RdC o w cs xs)(hm:m=xs.length)(hv:EvP l parts vs)
  (ht:P.underlying t=some (.slice e)) (hs:∀w,(sizeOf e).run P w=.ok sz w) (hz:∀w,(zeroValue e).run P w=.ok z w) (hsm:m*sz<=16777216)
  (hf:Instr.fill (λi=>some (i*sz,sz)) ((Array.range (m*sz)).map ((if m*sz=0 then #[] else z.cells)[·%(if m*sz=0 then #[] else z.cells).size]!)) vs=some cs.toArray) (hl:xs.length<=1000000)
  (h:∀o' w' v',Ow B e k o' w' v' xs->Stp 999 o w o' w'->R v' w'):op1 P ⟨some d,.buildSlice t m parts.toArray,ty,ps,af,g⟩ n l w R:=by
 subst hm;exact l_ (qM_ ht hs hz hsm hv hf) (h _ _ _ (lf_ (e:=e) hrd hB (by simp only[maxLen];omega)) (gn_ _ _ _ _ _))
end
end
section
open Go.RowKit Go.Sort Go.Shelf
def srt(xs:List Int):List Int:=xs.mergeSort λx y=>decide (x<=y)
theorem dK_(xs:List Int):(srt xs).length=xs.length:=by simp[srt]
def srtO(xs:List Int):Option (List Int):=if xs.length<=1000000000 then some (srt xs) else none
theorem mk_{xs ys:List Int}(h:srtO xs=some ys):xs.length<=1000000000∧ys=srt xs:=by
 unfold srtO at h;split at h
 ·rename_i hh;cases h;exact⟨hh,rfl⟩
 ·cases h
theorem lO_:∀{css:List (List Value)}{l:List Int},css.length=l.length->(∀(i:Nat) cs x,css[i]? =some cs->l[i]? =some x->cs=[.int .i64 x])->css.flatten=l.map (Value.int .i64)
 |[],[],_,_=>rfl
 |[],_::_,h,_=>by simp at h
 |_::_,[],h,_=>by simp at h
 |c::css,a::l,hl,h=>by
  have h0:=h 0 c a rfl rfl;subst h0;rw[List.flatten_cons,lO_ (by simpa using hl) (λi cs x h1 h2=>h (i+1) cs x (by simpa using h1) (by simpa using h2))];rfl
theorem nX_{B k:Nat}{o:Tg}{w:World}{v:Value}{l:List Int}(ho:∀g,v.ownBlock=some g->o g=k)(h:w.ownsRow B 3 1 v l.length (l.map (Value.int .i64))):Ow B 3 k o w v l:=by
 refine⟨l.map λx=>[.int .i64 x],by simp,?_,ho,λi cs x a b=>?_⟩
 ·have:∀l:List Int,(l.map λx=>[Value.int .i64 x]).flatten=l.map (Value.int .i64):=by
   intro l
   induction l with
   |nil=>rfl
   |cons a l ih=>simp[List.flatten_cons,ih]
  rw[this];exact h
 ·rw[List.getElem?_map,b] at a;cases a
  rfl
theorem lj_{B k:Nat}{o:Tg}{w:World}{v:Value}{xs ys:List Int}(h:Ow B 3 k o w v xs)(hF:srtO xs=some ys):
  Calls tX_ 141 #[v] w (λe w'=>e=.returned (.tuple #[])∧Ow B 3 k o w' v ys∧Stp k o w o w'):=by
 obtain⟨hl,rfl⟩:=mk_ hF;obtain⟨css,h1,h2,h3,h4⟩:=h;rw[lO_ h1 (λi cs x a b=>h4 i cs x a b)] at h2;have h2':w.ownsRow B 3 1 v xs.length (xs.map (Value.int .i64)):=h2;rcases h2'.2 with⟨rfl,h0⟩|⟨g,cap,cur,rfl,hbase,hb,hn,hcap,hsz,htk⟩
 ·have hx:xs=[]:=List.eq_nil_of_length_eq_zero h0;subst hx;refine (calls_of_every_depth λD=>AnyS.slices_Sort_int_none_alone Tryz.laysSort D none 0 w).mono ?_;rintro e w' ⟨rfl,rfl⟩;exact⟨rfl,(by simpa [srt] using Ow.nil B 3 k o w'),Stp.refl _ _ _⟩
 ·have hH:Holds (Value.int .i64) w g 0 xs.toArray:=holds_of_block_i hb (by simpa using htk);have hgl:g<w.heap.size:=(Array.getElem?_eq_some_iff.1 hb).1;refine (calls_of_every_depth λD=>AnyS.slices_Sort_int_alone Tryz.laysSort D g 0 cap xs w hH hgl (by omega)).mono ?_;rintro e w' ⟨rfl,n,os,rfl⟩;have hr:=ownsRow_sorted_i (n:=n) (os:=os) (ts:=srt xs) (dK_ xs) hbase hb hn hcap (by simpa using hsz);have hg:=grownBy_sorted_i (w:=w) (g:=g) (n:=n) (os:=os) (srt xs).toArray;refine⟨rfl,nX_ h3 (by rw[dK_];exact hr),⟨rfl,rfl,rfl,?_,λb hb hne=>?_,λ_ _=>rfl⟩⟩
  ·simp[putRow,mapBlock,Sort.ahead]
  ·rw[heap_grow_old _ _ (by simpa using hb)];have:g≠b:=λe=>hne (by rw[<-e];exact h3 g rfl);simp[putRow,mapBlock,Sort.ahead,Array.getElem?_modify,this]
end
section
open Go.RowKit Go.Sort Go.Shelf
def Sq(o:Tg)(w:World)(v u:Value):Prop:=
  ∃b,v=.func (.func 200) #[] #[.pointer (some ⟨b,0,none⟩)]∧o b=0∧b<w.heap.size∧w.cell? ⟨b,0,none⟩=some u
section
variable {o o':Tg} {w w':World} {v u:Value} {t k:Nat}
theorem Sq.mv(h:Sq o w v u)(hs:w.heap.size<=w'.heap.size)(hb:∀b,b<w.heap.size->o b=0->w'.heap[b]? =w.heap[b]? ∧o' b=0):Sq o' w' v u:=by
 obtain⟨b,rfl,h1,h2,h3⟩:=h;refine⟨b,rfl,(hb b h2 h1).2,Nat.lt_of_lt_of_le h2 hs,?_⟩;rw[<-h3];simp only[World.cell?,(hb b h2 h1).1]
theorem Sq.stp(h:Sq o w v u)(s:Stp t o w o' w')(ht:t≠0:=by decide):Sq o' w' v u:=
 h.mv s.size λb hb h0=>⟨s.block b hb (by rw[h0];exact λe=>ht e.symm),by rw[s.own b hb];exact h0⟩
theorem Sq.frz(h:Sq o w v u)(j:Nat):Sq (Go.Proofs.YtdbbeldgdgonfaaGreat.frz j o) w v u:=h.mv (Nat.le_refl _) λb _ hb=>⟨rfl,by unfold Go.Proofs.YtdbbeldgdgonfaaGreat.frz;rw[hb];split<;>rfl⟩
theorem Sq.rtg(h:Sq o w v u)(k k':Nat)(hk:k≠0):Sq (Go.Proofs.YtdbbeldgdgonfaaGreat.rtg k k' o) w v u:=h.mv (Nat.le_refl _) λb _ hb=>⟨rfl,by
 unfold Go.Proofs.YtdbbeldgdgonfaaGreat.rtg;rw[hb,if_neg (Ne.symm hk)];split<;>rfl⟩
theorem Sq.rc(h:Sq o w v u)(r:Rtc t o o')(ht:t≠0):Sq o' w v u:=h.mv (Nat.le_refl _) λb _ hb=>⟨rfl,r.zero ht hb⟩
end
theorem pK_(a:Option Addr)(m c:Nat)(u:Value)(hu:u=.slice a m c)(w:World):
  Calls tX_ 186 #[u] w λe w'=>e=.returned (.func (.func 200) #[] #[.pointer (some ⟨w.heap.size,0,none⟩)])∧w'=w.alloc (.cells #[u] 41):=by
 subst hu;have hmf:∀(fn:Fn)(first cap:Array Value)(w:World),(Instr.makeFunc fn first cap).run tX_ w=.ok (.func fn first cap) w:=λ_ _ _ _=>rfl;go_enter Tryz.func186,Tryz.ntmps186;go_wp2;go_ret;exact⟨rfl,rfl⟩
def qw_(oo:Tg)(w:World)(u:Value):Ending->World->Prop:=λe w'=>∃(v:Value)(o':Tg),e=.returned v∧Sq o' w' v u∧Keeps w w'∧∀b,b<w.heap.size->o' b=oo b
theorem rE_(w:World)(oo:Tg)(u:Value)(xs:List Int)(hu:RdL zt w u xs):Calls tX_ 186 #[u] w (qw_ oo w u):=by
 obtain⟨a,c,e,_⟩:=hu;refine (pK_ a _ c u e w).mono ?_;rintro e w' ⟨rfl,rfl⟩;refine⟨_,λb=>if b<w.heap.size then oo b else 0,rfl,⟨_,rfl,if_neg (by omega),by simp,?_⟩,(Keeps.refl w).alloc _,λb hb=>if_pos hb⟩;rw[World.cell?_alloc_at _ _ _ _ rfl];rfl
set_option maxRecDepth 100000 in
set_option maxHeartbeats 2000000 in
theorem ss_(l b:Nat)(u:Value)(xs:List Int)(w0:World)(hb:b<w0.heap.size)(hc:w0.cell? ⟨b,0,none⟩=some u)(hu:RdL zt w0 u xs)(n:Nat)(J:List Int->World->Prop)
  (hJ:∀pre W,J pre W->Below w0.heap.size w0 W)
  (hY:∀pre x W,J pre W->pre.length<xs.length->YieldAt Fence.wide (n-1) tX_ l #[.int .i64 x] W λe W'=>e=.returned (.bool true)∧J (pre++[x]) W'∧KeepsWalks W W')
  (W:World) (h0:J [] W):
  CallsIn Fence.wide n tX_ 200 #[.func (.yield l) #[] #[],.pointer (some ⟨b,0,none⟩)] W λe W'=>(∃v,e=.returned v)∧J xs W':=by
 obtain⟨a,cap,rfl,h1,h2,h4⟩:=hu;have hcell:∀pre W',J pre W'->W'.cell? ⟨b,0,none⟩=some (.slice a xs.length cap):=λpre W' h=>((hJ pre W' h).cell (p:=⟨b,0,none⟩) hb).trans hc;have hat:∀(k:Nat) x,xs[k]? =some x->∃g off,a=some ⟨g,off,none⟩∧∀pre W',J pre W'->W'.cell? ⟨g,off+k,none⟩=some (.int .i64 x):=λk x hx=>by
  obtain⟨g,off,cs,ha,_,hg,hcs,hr⟩:=h4 k x hx;have hr':cs=[.int .i64 x]:=hr;subst hr';refine⟨g,off,ha,λpre W' h=>((hJ pre W' h).cell (p:=⟨g,off+k,none⟩) hg).trans ?_⟩;have:=hcs 0 (.int .i64 x) rfl;simpa [Rp.sz] using this
 have hc0:=hcell [] W h0;have H1:=Lib.hid hcell;have H2:=Lib.hid hat
 have HY:=Lib.hid hY;have HJ:=Lib.hid hJ;clear hcell hat hY hJ h4 hc;refine callsIn_of_wp vG_ rfl trivial ?_ rfl;simp only[Tryz.ntmps200,List.size_toArray,List.length_cons,List.length_nil,Nat.reduceAdd,Nat.reduceSub,Array.replicate_succ,Array.replicate_zero,List.push_toArray,List.append_toArray,List.nil_append,List.cons_append]
 gi_wp2
 gi_loopw [7] (λp wr=>∃k:Nat,p=.int .i64 k∧k<=xs.length∧J (xs.take k) wr) (λp wr=>xs.length-(intOf p).toNat)
 case atStart=>
  exact⟨0,rfl,Nat.zero_le _,h0⟩
 case round=>
  obtain⟨k,rfl,hk,hJs⟩:=hrel;by_cases hlt:k<xs.length
  ·have hw:wrap64 ((k:Int)+1)=(k:Int)+1:=by have:cap<=9223372036854775807:=h2;unfold wrap64;omega
   obtain⟨g,off,rfl,hat'⟩:=H2.out k _ (List.getElem?_eq_getElem hlt);have hck:=hat' _ _ hJs;generalize hx:xs[k]=x at hck;obtain⟨fn,tmps,assign,body,hy,hR⟩:=HY.out (xs.take k) x wr hJs (by simp;omega)
   gi_wp2
   refine⟨λh=>(by cases h),hR.mono ?_⟩;rintro e W3 ⟨rfl,hJ3,hk3⟩
   gi_wp2
   go_roundw;case rel=>
    refine⟨k+1,by rw[hw];simp,by omega,?_⟩;have:xs.take (k+1)=xs.take k++[x]:=by rw[List.take_add_one,List.getElem?_eq_getElem hlt,hx];rfl
    rw[this];exact hJ3
   case measure=>rw[hw];simp only[intOf];omega
  ·have:k=xs.length:=by omega
   subst this
   gi_wp2
   go_end0;rw[List.take_length] at hJs;exact⟨⟨_,rfl⟩,hJs⟩
set_option maxRecDepth 100000 in
set_option maxHeartbeats 2000000 in
theorem appendVals(b:Nat)(u:Value)(xs:List Int)(hl:xs.length<=1000000000)(w:World)(hb:b<w.heap.size)(hc:w.cell? ⟨b,0,none⟩=some u)(hu:RdL zt w u xs):
  Calls tX_ 216 #[.slice none 0 0,.func (.func 200) #[] #[.pointer (some ⟨b,0,none⟩)]] w λe w'=>
   ∃v,e=.returned v∧w'.ownsRow w.heap.size 3 1 v xs.length (xs.map (Value.int .i64))∧Below w.heap.size w w':=by
 refine (callsIn_wide (n:=9)).1 ?_;refine callsIn_of_wp_marks Tryz.func216 rfl trivial ?_ rfl;simp only[Tryz.ntmps216,List.size_toArray,List.length_cons,List.length_nil,Nat.reduceAdd,Nat.reduceSub,Array.replicate_succ,Array.replicate_zero,List.push_toArray,List.append_toArray,List.nil_append,List.cons_append]
 gi_wp2
 refine wpIn_rangeFunc ?_;intro fn hfn;generalize hsv:Value.func (.func 200) #[] #[.pointer (some ⟨b,0,none⟩)]=sv
 -- the box of s, the record of what is put off, the loop's record: three new blocks
 obtain⟨W1,hW1⟩:∃W1,((w.alloc (.cells #[.slice none 0 0] 41)).alloc (.deferred (some []))).alloc (.loop (AnyZI.apRec Tryz.laysAp_ren fn sv w.heap.size (w.heap.size+1) .ready none))=W1:=⟨_,rfl⟩;have n0:W1.heap[w.heap.size]? =some (.cells #[.slice none 0 0] 41 (0,0)):=by
  rw[<-hW1];exact(Below.heap_alloc _ _ _ (by simp;omega)).trans ((Below.heap_alloc _ _ _ (by simp)).trans (World.alloc_heap_new w _))
 have n1:W1.heap[w.heap.size+1]? =some (.deferred (some [])):=by
  rw[<-hW1];have:=World.alloc_heap_new (w.alloc (.cells #[.slice none 0 0] 41)) (.deferred (some []));rw[World.size_alloc] at this;exact(Below.heap_alloc _ _ _ (by simp)).trans this
 have n2:W1.heap[w.heap.size+2]? =some (.loop (AnyZI.apRec Tryz.laysAp_ren fn sv w.heap.size (w.heap.size+1) .ready none)):=by
  rw[<-hW1];have:=World.alloc_heap_new ((w.alloc (.cells #[.slice none 0 0] 41)).alloc (.deferred (some []))) (.loop (AnyZI.apRec Tryz.laysAp_ren fn sv w.heap.size (w.heap.size+1) .ready none));rw[World.size_alloc,World.size_alloc] at this;exact this
 have hb1:Below w.heap.size w W1:=by
  rw[<-hW1];exact(((Below.refl _ w).alloc (Nat.le_refl _) _).alloc (by simp) _).alloc (by simp;omega) _
 have hAt:AnyZI.ApAt Tryz.laysAp_ren w fn sv w.heap.size (w.heap.size+2) (w.heap.size+1) [] W1:=⟨⟨_,n0,⟨rfl,.inl ⟨rfl,rfl⟩⟩,by simp⟩,n2,n1,hb1⟩;refine⟨w.heap.size+2,[{target:=.collected (w.heap.size+1),args:= #[]}],W1,{target:=.fn (.func 200) #[.pointer (some ⟨b,0,none⟩)],args:= #[.func (.yield (w.heap.size+2)) #[] #[]]},W1,200,
  #[.func (.yield (w.heap.size+2)) #[] #[]]++ #[.pointer (some ⟨b,0,none⟩)],W1,?_,?_,?_,?_,λh=>(by cases h),?_⟩
 ·rw[<-hW1,<-hsv];refine (run_enterLoop_outer _ _ _ _ _).trans ?_;rw[World.size_alloc];rfl
 ·rw[<-hsv];simp[resolve,go_sem]
 ·intro f' hf';trivial
 ·simp[invoke,go_sem,enters_of vG_ (by kernel_rfl) rfl]
 ·refine (ss_ (w.heap.size+2) b u xs w hb hc hu _ (AnyZI.ApAt Tryz.laysAp_ren w fn sv w.heap.size (w.heap.size+2) (w.heap.size+1)) (λpre W h=>h.below)
   (λpre x W h hlen=>AnyZI.apYield Tryz.laysAp Fence.wide _ w fn hfn sv w.heap.size (w.heap.size+2) (w.heap.size+1) (by omega) (by omega) (by omega) (Nat.le_refl _) (by omega) 1000000000 (by decide) (by decide) pre x W h (by omega)) W1 hAt).mono ?_
  rintro e W2 ⟨⟨v0,rfl⟩,h2⟩;obtain⟨v,hv,hrow,hnil⟩:=h2.box;have hend:=run_endLoop (P:=tX_) h2.L (by simp[AnyZI.apRec]);obtain⟨W3,hW3⟩:∃W3,W2.putObj (w.heap.size+2) (.loop {AnyZI.apRec Tryz.laysAp_ren fn sv w.heap.size (w.heap.size+1) .ready none with state:=.exhausted})=W3:=⟨_,rfl⟩;rw[hW3] at hend;have hg3:W2.grownBy W3 (some (w.heap.size+2)):=by rw[<-hW3];exact grownBy_putObj_a _ _ _
  have hv3:W3.heap[w.heap.size]? =some (.cells #[v] 41 (0,0)):=by rw[<-hW3];exact(World.putObj_heap_other (by omega)).trans hv
  have hK3:W3.heap[w.heap.size+1]? =some (.deferred (some [])):=by rw[<-hW3];exact(World.putObj_heap_other (by omega)).trans h2.K
  have hrow3:=hrow.kept hg3 (ownsRow_ne_a hrow h2.L (λcur e=>by cases e));have hb3:Below w.heap.size w W3:=h2.below.grown hg3 h2.below.size (λk e=>by cases e;omega);obtain⟨hc3,hf3⟩:=cell_of_box_a hv3;clear hW3;refine⟨none,W3,hend,?_⟩
  gi_wp2
  refine⟨by simp,.inl ⟨_,_,rfl,run_takeDeferred hK3,?_⟩⟩;exact⟨_,results_tmp rfl _ _ _,v,rfl,hrow3.kept (grownBy_putObj_a _ _ _) (ownsRow_ne_a hrow3 hK3 (λcur e=>by cases e)),hb3.grown (grownBy_putObj_a _ _ _) hb3.size (λk e=>by cases e;omega)⟩
set_option maxRecDepth 100000 in
theorem collectVals(b:Nat)(u:Value)(xs:List Int)(hl:xs.length<=1000000000)(w:World)(hb:b<w.heap.size)(hc:w.cell? ⟨b,0,none⟩=some u)(hu:RdL zt w u xs):
  Calls tX_ 199 #[.func (.func 200) #[] #[.pointer (some ⟨b,0,none⟩)]] w λe w'=>
   ∃v,e=.returned v∧w'.ownsRow w.heap.size 3 1 v xs.length (xs.map (Value.int .i64))∧Below w.heap.size w w':=by
 have hc1:=appendVals b u xs hl w hb hc hu;go_enter Tryz.func199,Tryz.ntmps199;go_wp2_with (go_at_call 216;refine hc1.mono ?_;rintro e w' ⟨v,rfl,hrow,hbl⟩);go_ret;exact⟨v,rfl,hrow,hbl⟩
theorem oG_{w w':World}{v:Value}{xs:List Int}(oo:Tg)(t:Nat)(h:w'.ownsRow w.heap.size 3 1 v xs.length (xs.map (Value.int .i64)))(hb:Below w.heap.size w w'):
  ∃o':Tg,Ow w.heap.size 3 t o' w' v xs∧Keeps w w'∧∀b,b<w.heap.size->o' b=oo b:=by
 refine⟨λb=>if b<w.heap.size then oo b else t,nX_ (λg hg=>if_neg ?_) h,?_,λb hb=>if_pos hb⟩
 ·have:=(World.ownsRow.lt h g hg).1;omega
 ·exact hb
def mm_(oo:Tg)(t:Nat)(w:World)(r:List Int):Ending->World->Prop:=λe w'=>∃(v0:Value)(o':Tg),e=.returned v0∧Ow w.heap.size 3 t o' w' v0 r∧Keeps w w'∧∀b,b<w.heap.size->o' b=oo b
theorem pE_(w:World)(oo:Tg)(t:Nat)(v u:Value)(o:Tg)(hs:Sq o w v u)(xs:List Int)(g:RdL zt w u xs)(r:List Int)(hF:cat [] xs=some r):
  Calls tX_ 199 #[v] w (mm_ oo t w r):=by
 obtain⟨hl,hr⟩:=oK_ hF;rw[List.nil_append] at hr;subst hr;obtain⟨b,rfl,_,hb,hc⟩:=hs;refine (collectVals b u r (by simpa using hl) w hb hc g).mono ?_;rintro e w' ⟨v,rfl,hrow,hbl⟩;obtain⟨o',h1,h2,h3⟩:=oG_ oo t hrow hbl;exact⟨v,o',rfl,h1,h2,h3⟩
set_option maxRecDepth 100000 in
theorem pR_(w:World)(oo:Tg)(t:Nat)(v u:Value)(o:Tg)(hs:Sq o w v u)(xs:List Int)(g:RdL zt w u xs)(r:List Int)(hF:srtO xs=some r):
  Calls tX_ 185 #[v] w (mm_ oo t w r):=by
 have hl:=(mk_ hF).1;have hC:=pE_ w (λ_=>1) 2 v u o hs xs g xs (by unfold cat;rw[if_pos (by simpa using hl)];rfl);have hC1:Calls tX_ 199 #[v] w λe w'=>∃v1,e=.returned v1∧Calls tX_ 141 #[v1] w' λe2 w2=>e2=.returned (.tuple #[])∧w2.ownsRow w.heap.size 3 1 v1 r.length (r.map (Value.int .i64))∧Keeps w w2:=by
  refine hC.mono ?_;rintro e w1 ⟨v1,o1,rfl,h1,hk,ho⟩;refine⟨v1,rfl,(lj_ h1 hF).mono ?_⟩;rintro e2 w2 ⟨rfl,h3,hs⟩;obtain⟨css,c1,c2,c3,c4⟩:=h3;rw[lO_ c1 (λi cs x a b=>c4 i cs x a b)] at c2;refine⟨rfl,c2,⟨hs.os.trans hk.os,hs.tape.trans hk.tape,hs.output.trans hk.output,Nat.le_trans hk.size hs.size,λb hb=>?_⟩⟩;exact(hs.block b (Nat.lt_of_lt_of_le hb hk.size) (by rw[ho b hb];show(1:Nat)≠2;decide)).trans (hk.block b hb)
 have HC:=Lib.hid hC1;clear hC hC1 g hs hF hl;refine Calls.mono (R:=λe w'=>∃v0,e=.returned v0∧w'.ownsRow w.heap.size 3 1 v0 r.length (r.map (Value.int .i64))∧Keeps w w') ?_ ?_
 ·go_enter Tryz.func185,Tryz.ntmps185;go_wp2_with (go_at_call 199;refine (HC.out).mono ?_;rintro e w1 ⟨v1,rfl,hS⟩);go_wp2_with (go_at_call 141;refine hS.mono ?_;rintro e w2 ⟨rfl,hrow,hk⟩);go_ret;exact⟨_,rfl,hrow,hk⟩
 ·rintro e w' ⟨v0,rfl,hrow,hk⟩;obtain⟨o',h1,h2,h3⟩:=oG_ oo t hrow hk;exact⟨v0,o',rfl,h1,h2,h3⟩
end
end Go.Proofs.YtdbbeldgdgonfaaGreat
