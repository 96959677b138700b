/- Part 8 of what this claim rests on (Pd, Pc), packed by pack.py. -/
import Derived.Test.YtdbbeldgdgonfaaGreatP06
namespace Go.Proofs.YtdbbeldgdgonfaaGreat
set_option linter.unusedSimpArgs false
set_option linter.unusedVariables false
section
theorem ek_{a b c:Int}:inB b c a=true<->b<=a∧a<=c:=by simp[inB]
theorem iw_(n:Int)(h₀:0<=n)(h₁:n<2^63):IntKind.i64.wrap n=n:=by rw[IntKind.wrap_i64];omega
theorem ou_{a:Nat}(ha:a<2^62):(BitVec.ofInt 64 (a:Int)).toNat=a:=by
 rw[BitVec.ofInt_natCast,BitVec.toNat_ofNat,Nat.mod_eq_of_lt (by omega)]
theorem ny_{a b:Nat}(ha:a<2^62)(hb:b<2^62):bor a b=((a|||b:Nat):Int):=by
 unfold bor;rw[BitVec.toNat_or,ou_ ha,ou_ hb];have:=Nat.or_lt_two_pow ha hb;exact iw_ _ (by omega) (by omega)
theorem hW_{a b:Nat}(ha:a<2^62)(hb:b<2^62):band a b=((a&&&b:Nat):Int):=by
 unfold band;rw[BitVec.toNat_and,ou_ ha,ou_ hb];have:a&&&b<2^62:=Nat.and_lt_two_pow a hb;exact iw_ _ (by omega) (by omega)
theorem lN_{S a:Nat}(h:a<=62):shr S a=some ((S/2^a:Nat):Int):=by
 unfold shr;rw[if_neg (by omega),Int.toNat_natCast,Nat.min_eq_left (by omega),Int.fdiv_eq_ediv_of_nonneg _ (Int.le_of_lt (Int.pow_pos (by decide)))];simp
theorem eq_{a:Nat}(h:a<=61):shl 1 a=some ((2^a:Nat):Int):=by
 unfold shl;rw[if_neg (by omega),Int.toNat_natCast,Nat.min_eq_left (by omega),Int.one_mul];have h1:(2:Int)^a=((2^a:Nat):Int):=by simp
 have h2:2^a<=2^61:=Nat.pow_le_pow_right (by decide) h;rw[h1];generalize 2^a=P at h2 ⊢;rw[iw_ _ (by omega) (by omega)]
theorem oM_{S a:Nat}(hS:S<2^62):(band ((S/2^a:Nat):Int) 1==1)=S.testBit a:=by
 have h1:S/2^a<2^62:=Nat.lt_of_le_of_lt (Nat.div_le_self _ _) hS;rw[show(1:Int)=((1:Nat):Int) from rfl,hW_ h1 (by decide),Nat.and_one_is_mod,Nat.testBit_eq_decide_div_mod_eq];rw[Bool.eq_iff_iff,beq_iff_eq,decide_eq_true_eq];omega
def lbs(n S:Nat):List Int:=((List.range n).filter λi=>S.testBit i).map λi:Nat=>(i:Int)
theorem lx_{n S:Nat}{y:Int}:y∈lbs n S<->∃i:Nat,y=i∧i<n∧S.testBit i=true:=by
 simp only[lbs,List.mem_map,List.mem_filter,List.mem_range];constructor
 ·rintro⟨i,⟨h1,h2⟩,rfl⟩;exact⟨i,rfl,h1,h2⟩
 ·rintro⟨i,rfl,h1,h2⟩;exact⟨i,⟨h1,h2⟩,rfl⟩
theorem lF_(n S:Nat):lbs (n+1) S=if S.testBit n then lbs n S++[(n:Int)] else lbs n S:=by
 simp only[lbs,List.range_succ,List.filter_append,List.map_append];cases h:S.testBit n<;>simp[List.filter,h]
theorem kO_(n S:Nat):(lbs n S).length<=n:=by
 simp only[lbs,List.length_map];exact Nat.le_trans (List.length_filter_le _ _) (by simp)
theorem qV_{a S:Nat}(h:S<2^a):∀d,lbs (a+d) S=lbs a S
 |0=>rfl
 |d+1=>by
  rw[show a+(d+1)=(a+d)+1 by omega,lF_,qV_ h d];rw[Nat.testBit_lt_two_pow (Nat.lt_of_lt_of_le h (Nat.pow_le_pow_right (by decide) (by omega)))];simp
theorem oJ_{xs ys:List Int}(hx:xs.Pairwise (·<·))(hy:ys.Pairwise (·<·))(h:∀a,a∈xs<->a∈ys):xs=ys:=by
 have nx:xs.Nodup:=hx.imp λh=>by omega
 have ny:ys.Nodup:=hy.imp λh=>by omega
 exact List.Perm.eq_of_pairwise (le:=λa b=>a<=b) (λa b _ _ h1 h2=>Int.le_antisymm h1 h2) (hx.imp λh=>by omega) (hy.imp λh=>by omega) ((List.perm_ext_iff_of_nodup nx ny).2 h)
theorem tw_(xs:List Int)(a:Int):hS_ xs a=some (decide (a∈xs)):=by
 unfold hS_;rw[do_ (λ_ x=>if x==a then some true else none) xs (λj x hj _=>by
  unfold gi_;cases h:(x==a)<;>simp[lpP]),sb]
 cases hc:firstP (λ_ x=>if x==a then some true else none) xs 0 with
 | none=>
  have:a ∉ xs:=λhm=>by
   obtain⟨j,hj⟩:=List.mem_iff_getElem?.1 hm;have:=cN_.1 hc j a hj;simp at this
  simp[outP,this]
 | some r=>
  obtain⟨j,x,h1,h2⟩:=dp_ hc;by_cases e:(x==a)=true
  ·rw[if_pos e] at h2;cases h2
   have:a∈xs:=by rw[<-beq_iff_eq.1 e];exact List.mem_of_getElem? h1
   simp[outP,this]
  ·rw[if_neg e] at h2;cases h2
theorem ma_(S k:Nat)(hk:k<=61)(hz:S/2^k=0)(xs:List Int):bM_ (S:Int) (xs,(k:Int))=some (.out (xs,(k:Int))):=by
 unfold bM_;simp only
 rw[lN_ (by omega),sb,hz,if_neg (by simp)]
theorem nV_(S k:Nat)(hS:S<2^62)(hk:k<61)(hz:S/2^k≠0)(xs:List Int)(hx:xs.length<=61):
  bM_ (S:Int) (xs,(k:Int))=some (.go (if S.testBit k then xs++[(k:Int)] else xs,((k+1:Nat):Int))):=by
 unfold bM_;simp only
 rw[lN_ (by omega),sb,sb,oM_ hS];generalize S/2^k=Q at hz;rw[if_pos (by simp only[bne_iff_ne,ne_eq];omega)];cases ht:S.testBit k
 ·rw[if_neg (by simp),F_ (by omega) (by omega),sb];simp
 ·rw[if_pos rfl];unfold push;rw[if_pos (by omega),sb,F_ (by omega) (by omega),sb];simp
theorem lD_(n S:Nat)(hS:S<2^n)(hn:n<=61):∀(fuel k:Nat),k<=n->n-k<fuel->
  ∃j,loopF (bM_ (S:Int)) fuel (lbs k S,(k:Int))=some (.inl (lbs n S,j)):=by
 have hS2:S<2^62:=Nat.lt_of_lt_of_le hS (Nat.pow_le_pow_right (by decide) (by omega));intro fuel
 induction fuel with
 |zero=>intro k _ hf;omega
 | succ fuel ih=>
  intro k hk hf;have hl:=kO_ k S;by_cases hz:S/2^k=0
  ·have hlt:S<2^k:=by
    rcases Nat.div_eq_zero_iff.1 hz with h|h
    ·have:=Nat.two_pow_pos k;omega
    ·exact h
   have e:lbs n S=lbs k S:=by
    have:=qV_ hlt (n-k);rwa [show k+(n-k)=n by omega] at this
   exact⟨k,by simp only[loopF,ma_ S k (by omega) hz,e]⟩
  ·have hkn:k<n:=by
    rcases Nat.lt_or_ge k n with h|h
    ·exact h
    ·exact absurd (Nat.div_eq_of_lt (Nat.lt_of_lt_of_le hS (Nat.pow_le_pow_right (by decide) h))) hz
   obtain⟨j,hj⟩:=ih (k+1) (by omega) (by omega);refine⟨j,?_⟩;simp only[loopF,nV_ S k hS2 (by omega) hz (lbs k S) (by omega)];rw[<-lF_];exact hj
theorem kK_(n S fuel:Nat)(hS:S<2^n)(hn:n<=61)(hf:n<fuel):dF_ fuel (S:Int)=some (lbs n S):=by
 unfold dF_;obtain⟨j,hj⟩:=lD_ n S hS hn fuel 0 (by omega) (by omega);have h0:lbs 0 S=[]:=rfl;rw[h0] at hj;rw[show((0:Nat):Int)=0 from rfl] at hj;rw[hj,sb]
def posL(xs:List Int)(a:Int):Nat:=(xs.takeWhile λx=>decide (x<a)).length
theorem kF_(a:Int):∀(ys pre:List Int)(fuel:Nat),ys.length<fuel->pre.length+ys.length<=1000000000->
  loopF (dg_ (pre++ys) a) fuel (pre.length:Int)=some (.inl ((pre.length+posL ys a:Nat):Int))
 | [],pre,fuel,hf,hl=>by
  cases fuel with
  |zero=>simp at hf
  | succ fuel=>
   have hs:dg_ (pre++[]) a (pre.length:Int)=some (.out (pre.length:Int)):=by
    unfold dg_;rw[if_neg (by simp),sb,if_neg (by simp)]
   rw[List.append_nil] at hs ⊢;simp[loopF,hs,posL]
 | y::ys,pre,fuel,hf,hl=>by
  cases fuel with
  |zero=>simp at hf
  | succ fuel=>
   simp only[List.length_cons] at hf hl;have hs:dg_ (pre++y::ys) a (pre.length:Int)=some (if y<a then .go ((pre.length+1:Nat):Int) else .out (pre.length:Int)):=by
    unfold dg_;rw[if_pos (by simp;omega),kQ_,sb,sb];by_cases h:y<a
    ·simp only[h,decide_true,if_true];rw[F_ (by omega) (by omega),sb];simp
    ·simp only[h,decide_false,if_false,Bool.false_eq_true]
   by_cases h:y<a
   ·simp only[loopF,hs,h,if_true];have:=kF_ a ys (pre++[y]) fuel (by omega) (by simp;omega);rw[List.append_assoc] at this;simp only[List.length_append,List.length_cons,List.length_nil,List.cons_append,List.nil_append,Nat.zero_add] at this;rw[this];simp[posL,List.takeWhile_cons,h];omega
   ·simp only[loopF,hs,h,if_false];simp[posL,List.takeWhile_cons,h]
theorem th_(xs:List Int)(a:Int):posL xs a<=xs.length:=by
 unfold posL;exact(List.takeWhile_sublist _).length_le
theorem ra_(xs:List Int)(a:Int):xs.take (posL xs a)=xs.takeWhile λx=>decide (x<a):=by
 induction xs with
 |nil=>rfl
 |cons x xs ih=>
  unfold posL at ih ⊢;rw[List.takeWhile_cons];split
  ·rw[List.length_cons,List.take_succ_cons,ih]
  ·rfl
theorem jw_(xs:List Int)(a:Int):xs.drop (posL xs a)=xs.dropWhile λx=>decide (x<a):=by
 induction xs with
 |nil=>rfl
 |cons x xs ih=>
  unfold posL at ih ⊢;rw[List.takeWhile_cons,List.dropWhile_cons];split
  ·rw[List.length_cons,List.drop_succ_cons,ih]
  ·rfl
theorem nJ_{xs:List Int}{a:Int}(hx:xs.Pairwise (·<·)):∀y,y∈xs.dropWhile (λx=>decide (x<a))->a<=y:=by
 induction xs with
 |nil=>simp
 | cons x xs ih=>
  rw[List.pairwise_cons] at hx;intro y hy;rw[List.dropWhile_cons] at hy;split at hy
  ·exact ih hx.2 y hy
  ·rename_i h;simp at h;rcases List.mem_cons.1 hy with rfl|hy
   ·exact h
   ·have:=hx.1 y hy;omega
theorem td_(xs:List Int)(a:Int)(fuel:Nat)(hf:xs.length<fuel)(hl:xs.length<=1000000)(hx:xs.Pairwise (·<·)):
  ∃ys,hk_ fuel xs a=some ys∧ys.Pairwise (·<·)∧∀b,b∈ys<->b∈xs∨b=a:=by
 unfold hk_;have h0:=kF_ a xs [] fuel hf (by simp;omega);simp only[List.nil_append,List.length_nil,Nat.zero_add] at h0;rw[show((0:Nat):Int)=0 from rfl] at h0;rw[h0,sb];have hp:=th_ xs a;have hsplit:xs.takeWhile (λx=>decide (x<a))++xs.dropWhile (λx=>decide (x<a))=xs:=List.takeWhile_append_dropWhile;have htk:∀y,y∈xs.takeWhile (λx=>decide (x<a))->y<a:=λy hy=>by
  have:=List.all_eq_true.1 List.all_takeWhile y hy;simpa using this
 by_cases hlt:posL xs a<xs.length
 ·simp only
  rw[if_pos (by simp;omega),gf_ _ _ hlt,sb,sb];by_cases he:xs[posL xs a]=a
  ·rw[if_pos (by simp[he])];exact⟨xs,rfl,hx,λb=>⟨.inl,λh=>by
    rcases h with h|h
    ·exact h
    ·rw[h,<-he];exact List.getElem_mem hlt⟩⟩
  ·rw[if_neg (by simp[he])];have hd:xs.dropWhile (λx=>decide (x<a))=xs[posL xs a]::xs.drop (posL xs a+1):=by
    rw[<-jw_,List.drop_eq_getElem_cons hlt]
   have hge:∀y,y∈xs.dropWhile (λx=>decide (x<a))->a<y:=λy hy=>by
    rw[hd] at hy;have h1:=nJ_ hx xs[posL xs a] (by rw[hd];exact List.mem_cons_self);have h2:(xs.drop (posL xs a)).Pairwise (·<·):=hx.sublist (List.drop_sublist _ _);rw[List.drop_eq_getElem_cons hlt,List.pairwise_cons] at h2;rcases List.mem_cons.1 hy with rfl|hy
    ·omega
    ·have:=h2.1 y hy;omega
   have hc1:cut xs 0 ((posL xs a:Nat):Int)=some (xs.takeWhile λx=>decide (x<a)):=by
    unfold cut;rw[if_pos ⟨by omega,by omega,by omega⟩];simp[ra_]
   have hc2:cut xs ((posL xs a:Nat):Int) xs.length=some (xs.dropWhile λx=>decide (x<a)):=by
    unfold cut;rw[if_pos ⟨by omega,by omega,by omega⟩];simp[jw_]
   have hlen:=congrArg List.length hsplit;rw[List.length_append] at hlen;refine⟨xs.takeWhile (λx=>decide (x<a))++[a]++xs.dropWhile (λx=>decide (x<a)),?_,?_,?_⟩
   ·rw[hc1,sb,hH_ _ (by omega),sb];unfold push;rw[if_pos (by omega),sb,hc2,sb];unfold cat
    rw[if_pos (by simp;omega),sb]
   ·rw[<-hsplit] at hx;rw[List.pairwise_append] at hx;rw[List.append_assoc,List.singleton_append,List.pairwise_append,List.pairwise_cons];refine⟨hx.1,⟨hge,hx.2.1⟩,λu hu v hv=>?_⟩;rcases List.mem_cons.1 hv with rfl|hv
    ·exact htk u hu
    ·exact hx.2.2 u hu v hv
   ·intro b
    conv=>rhs;rw[<-hsplit]
    simp only[List.mem_append,List.mem_cons,List.not_mem_nil,or_false];constructor
    ·rintro((h|h)|h)
     ·exact .inl (.inl h)
     ·exact .inr h
     ·exact .inl (.inr h)
    ·rintro((h|h)|h)
     ·exact .inl (.inl h)
     ·exact .inr h
     ·exact .inl (.inr h)
 ·have hd:xs.dropWhile (λx=>decide (x<a))=[]:=by rw[<-jw_,List.drop_eq_nil_of_le (by omega)]
  have htw:xs.takeWhile (λx=>decide (x<a))=xs:=by rw[hd,List.append_nil] at hsplit;exact hsplit
  simp only
  rw[if_neg (by simp;omega),sb,if_neg (by simp)];have hp2:posL xs a=xs.length:=by omega
  rw[hp2,tt_,sb,hH_ _ (by omega),sb];unfold push;rw[if_pos (by omega),sb];have hc2:cut xs ((xs.length:Nat):Int) xs.length=some []:=by
   unfold cut;rw[if_pos ⟨by omega,by omega,by omega⟩];simp
  rw[hc2,sb];unfold cat
  refine⟨xs++[a],?_,?_,?_⟩
  ·rw[if_pos (by simp;omega),sb];simp
  ·rw[List.pairwise_append];refine⟨hx,by simp,λu hu v hv=>?_⟩;simp at hv;subst hv;rw[<-htw] at hu;exact htk u hu
  ·intro b;simp
end
end Go.Proofs.YtdbbeldgdgonfaaGreat
