/- Part 1 of what this claim rests on (pack.py). -/
import Derived.WalkKit
import Derived.ProofKit
import Derived.Below
import Derived.Lib.Hide
import Derived.Deep.Onto
import Derived.Deep.AppendLies
import Derived.Deep.QuietTactic
import Derived.Test.YtpefhaamcihneaaGreatProg
import Derived.Deep.LoopGhost
namespace Go.Proofs.YtpefhaamcihneaaGreat
set_option linter.unusedSimpArgs false
set_option linter.unusedVariables false
set_option linter.defProp false
open Go.RowKit
section
def oJ:= @Below.refl
def qP:= @Below.cell
def xL:= @World.block_lt_of_cell?
def aA:= @List.length_map
def ct:= @Array.getElem?_eq_some_iff
def cD:= @List.eq_nil_of_length_eq_zero
def K_:= @Nat.le_refl
def aH:= @Nat.le_trans
def bh:= @Nat.lt_of_lt_of_le
def fZ:= @List.take_take
def eq:= @Nat.min_eq_left
def qQ:= @Nat.mul_le_mul_right
def qR:= @List.take_left
def mr:= @World.ownsRow_nil
def oK:= @Nat.lt_of_not_le
def ar:= @List.length_append
def oL:= @Nat.add_mul
def xM:= @Array.size_append
def oM:= @List.size_toArray
def bC:= @List.append_assoc
def dq:= @Array.getD_eq_getD_getElem?
def qS:= @Array.getElem?_setIfInBounds_ne
def jN:= @Option.bind_some
def dT:= @Option.getD_some
def ms:= @Calls.mono
def br:= @List.flatten_cons
def ff:= @Nat.zero_mul
def an:= @Nat.zero_add
def bN:= @List.getElem?_append_left
def cj:= @List.getElem?_append_right
def dU:= @Nat.succ_mul
def bS:= @List.mem_iff_getElem?
def Y_:= @List.getElem?_eq_some_iff
def x_:= @List.getElem?_eq_getElem
def aV:= @List.getElem_mem
def bO:= @List.getElem?_take
def qT:= @Option.isSome_none
def cl:= @Bool.false_eq_true
def aF:= @Sem.run_bind
def aL:= @Result.andThen_ok
def qU:= @IntWalk.i64_in
def bt:= @Sem.run_pure
def et:= @List.map_toArray
def bd:= @List.map_cons
def eu:= @List.map_nil
def ao:= @List.length_cons
def dV:= @List.getElem?_drop
def xN:= @List.replicate_succ'
def oN:= @List.flatten_append
def bm:= @List.append_nil
def ew:= @List.map_append
def xO:= @List.map_map
def dr:= @List.ext_getElem
def xP:= @Nat.mod_eq_of_lt
def N_:= @Int.le_refl
def Fo:= @Array.toList_inj
def mu:= @List.replicate_succ
def ga:= @List.mem_flatten
def mw:= @Nat.mul_le_mul
def oO:= @Option.map_none
def bD:= @List.length_nil
def bj:= @Nat.zero_le
def gb:= @Array.getElem?_modify
def V_:= @Ne.symm
def oP:= @List.length_eq_one_iff
def cm:= @Nat.mul_one
def db:= @List.getElem?_set
def dt:= @List.drop_eq_getElem_cons
def Fp:= @List.drop_of_length_le
def mx:= @List.take_append_drop
def Fq:= @List.getElem?_cons_succ
def du:= @Nat.sub_zero
def oQ:= @Array.ext
def xQ:= @List.filter_eq_nil_iff
def aS:= @List.mem_range
def xR:= @Array.getElem_map
def xS:= @Array.getElem_range
def Fs:= @List.exists_mem_of_ne_nil
def cF:= @List.mem_filter
def gc:= @List.range_succ
def ey:= @List.filter_append
def oR:= @List.filter_congr
def gd:= @List.filter_cons
def oS:= @List.filter_nil
def ge:= @Classical.byContradiction
def bT:= @Bool.or_eq_true
def xU:= @List.any_eq_true
def aW:= @Bool.and_eq_true
def bE:= @List.all_eq_true
def my:= @List.filter_eq_self
def gf:= @List.getElem?_toArray
def Ft:= @Array.all_eq_true_iff_forall_mem
def Fu:= @Bool.not_eq_true'
def gh:= @List.getElem?_replicate
def I_:= @List.mem_cons
def P_:= @List.not_mem_nil
def bi:= @List.take_succ_cons
def bk:= @List.take_zero
def aR:= @List.drop_succ_cons
def aG:= @List.drop_zero
def aw:= @Bool.eq_false_or_eq_true
def T_:= @List.length_drop
def xV:= @IntKind.wrap_i64
def aZ:= @List.getElem?_map
def bZ:= @World.cell?_alloc_at
def p_:= @Lib.hid
def Fv:= @Array.replicate_succ
def Fw:= @Array.replicate_zero
def Fx:= @List.push_toArray
def Fy:= @List.append_toArray
def bz:= @List.nil_append
def gi:= @List.cons_append
def dv:= @List.take_add_one
def cc:= @List.take_length
def xW:= @Below.heap_alloc
def fg:= @World.size_alloc
def jO:= @List.foldl_cons
def cn:= @Option.map_some
def xX:= @List.take_append_of_le_length
def aX:= @List.length_take
def cu:= @List.take_of_length_le
def fh:= @Nat.sub_self
def oT:= @Int.add_zero
def cd:= @List.length_replicate
def jP:= @List.mem_of_mem_take
def qV:= @Nat.add_comm
def xY:= @List.take_append
def Fz:= @Nat.le_add_right
def FA:= @Nat.add_sub_cancel_left
def qW:= @List.getElem?_take_of_lt
def qX:= @Nat.add_assoc
def bU:= @Int.sub_zero
def ce:= @Nat.ne_of_gt
def bP:= @Nat.lt_of_le_of_lt
def be:= @List.mem_singleton
def gj:= @List.length_filter_le
def U_:= @Int.toNat_natCast
def FC:= @Nat.le_of_not_lt
def xZ:= @Int.toNat_zero
def FD:= @World.ownsRow_made
def dd:= @Nat.add_zero
def jQ:= @Option.map_eq_some_iff
def gk:= @List.drop_drop
def qY:= @List.all_cons
def oU:= @Bool.true_and
def aE:= @List.mem_of_getElem?
def oV:= @Bool.eq_iff_iff
def cG:= @List.length_set
def fi:= @List.ext_getElem?
def cT:= @List.getElem?_eq_none
def FE:= @List.drop_set_of_lt
def aM:= @List.mem_map
def mz:= @List.getElem?_of_mem
def FF:= @List.length_zipWith
def ya:= @Nat.min_self
def FG:= @List.getElem?_zipWith
def dw:= @List.pairwise_iff_getElem
def qZ:= @Array.getElem?_extract
def FH:= @List.filter_sublist
def oW:= @Nat.lt_trichotomy
def fj:= @List.length_reverse
def ez:= @List.pairwise_append
def cU:= @List.pairwise_cons
def FI:= @List.perm_ext_iff_of_nodup
def FJ:= @Array.getElem?_toList
def jR:= @List.pairwise_map
def ax:= @List.getD_eq_getElem?_getD
def gl:= @List.getElem?_range
def yb:= @List.take_set_of_le
def FK:= @List.getElem?_set_self
def FL:= @List.pairwise_lt_range
def jS:= @List.take_succ_eq_append_getElem
def yc:= @List.set_append_right
def rb:= @List.set_cons_zero
def fk:= @List.sum_cons
def mA:= @List.replicate_zero
def FM:= @List.getElem_set
def FN:= @List.getElem_map
def FO:= @List.getElem_range
def yd:= @Nat.lt_irrefl
def ye:= @Below.setCell
def fl:= @World.cell?_setCell_other
def FP:= @World.frozen?_setCell
def aY:= @World.cell?_of_block
def FQ:= @List.set_cons_succ
def bn:= @List.length_singleton
def FR:= @Classical.choose_spec
def FT:= @Int.fdiv_eq_ediv_of_nonneg
def FU:= @List.countP_cons_of_pos
def FV:= @List.countP_eq_zero
def FW:= @List.countP_cons_of_neg
def re:= @List.countP_le_length
def mB:= @List.mem_iff_getElem
def FX:= @List.pairwise_mergeSort
def FY:= @List.mergeSort_perm
def yf:= @Int.le_antisymm
def eA:= @List.flatMap_cons
def yg:= @List.length_range'
def dx:= @Nat.pow_succ
def gm:= @List.eq_nil_or_concat
def gn:= @List.concat_eq_append
def jT:= @List.getLastD_concat
def bX:= @List.mem_append
def rf:= @List.mem_range'_1
def oX:= @List.mem_flatMap
def co:= @Int.toNat_of_nonneg
def mC:= @List.range'_succ
def yh:= @Nat.or_lt_two_pow
def yi:= @Nat.testBit_two_pow
def yj:= @List.perm_middle
def yk:= @List.eraseIdx_eq_take_drop_succ
def FZ:= @List.perm_append_comm
def Ga:= @List.dropLast_sublist
def bF:= @Nat.pow_le_pow_right
def jU:= @Nat.div_le_self
def Gb:= @Nat.testBit_eq_decide_div_mod_eq
def rg:= @Nat.testBit_lt_two_pow
def Gc:= @Nat.div_eq_of_lt
def mD:= @List.takeWhile_cons
def Ge:= @List.takeWhile_sublist
def Gf:= @List.dropWhile_cons
def dW:= @List.singleton_append
def yl:= @Bool.and_false
def Gg:= @Option.isNone_iff_eq_none
def Gh:= @List.getLastD_nil
def ym:= @Int.natCast_zero
def Gi:= @List.drop_eq_nil_iff
def jV:= @Nat.pow_le_pow_left
def gp:= @Nat.one_le_two_pow
def jW:= @Nat.add_sub_cancel
def yn:= @Nat.lt_of_le_of_ne
def jX:= @List.map_congr_left
def rh:= @Nat.div_div_eq_div_mul
def oY:= @Nat.mul_comm
def Gj:= @Nat.mul_le_mul_left
def dX:= @Int.natCast_mul
def ri:= @Nat.eq_of_testBit_eq
def mE:= @Nat.testBit_and
def yo:= @Nat.and_le_left
def yp:= @Int.natCast_add
def yq:= @Nat.testBit_two_pow_sub_one
def Gk:= @List.mem_of_mem_eraseIdx
def Gl:= @List.length_eraseIdx
def rj:= @List.mem_reverse
def Gm:= @List.reverse_perm
def Gn:= @List.reverse_append
def Gp:= @List.drop_length
def yr:= @List.mem_or_eq_of_mem_set
def yt:= @List.mem_replicate
def Gq:= @List.getElem_of_mem
def Gr:= @List.length_pos_iff
def Gt:= @List.findSome?_eq_none_iff
def cH:= @List.findSome?_cons
def Gu:= @List.findSome?_map
def jY:= @List.range_eq_range'
def Gv:= @List.length_filterMap_le
def Gw:= @Bool.and_eq_false_iff
def rk:= @Array.length_toList
def Gx:= @List.map_eq_flatMap
def Gy:= @List.length_range
theorem om{p:Prop}(h:p:=by omega):p:=h
theorem dc{p:Prop}(h:p:=by decide):p:=h
theorem sy{p:Prop}(h:p:=by simp):p:=h
theorem kr{p:Prop}(h:p:=by kernel_rfl):p:=h
theorem su{p q:Prop}(h:q)(g:q->p:=by intro h;simpa using h):p:=g h
theorem sh{p q:Prop}(h:q)(g:q->p:=by intro h;simp[h]):p:=g h
abbrev Keeps(w w':World):Prop:=Below w.heap.size w w'
theorem Keeps.refl(w:World):Keeps w w:=oJ _ _
theorem Keeps.trans{a b c:World}(h:Keeps a b)(k:Keeps b c):Keeps a c:=Below.trans h (Below.mono k h.size)
theorem Keeps.alloc{a w:World}(h:Keeps a w)(o:Obj):Keeps a (w.alloc o):=Below.alloc h h.size o
theorem Keeps.drew{a w:World}(h:Keeps a w):Keeps a w.drew:=Below.drew h
theorem Keeps.drewN{a w:World}(h:Keeps a w)(n:Nat):Keeps a (w.drewN n):=⟨h.os,h.tape,h.output,h.size,h.block⟩
theorem l_{w w':World}{a:Addr}{v:Value}(k:Keeps w w')(h:w.cell? a=some v):w'.cell? a=some v:=by
 rw[qP k (xL w _ h)];exact h
def Dr(w w':World):Prop:=∃n,w'=w.drewN n
theorem Dr.refl(w:World):Dr w w:=⟨0,rfl⟩
theorem Dr.more{w w':World}(h:Dr w w')(n:Nat):Dr w (w'.drewN n):=by
 obtain⟨m,rfl⟩:=h;exact⟨m+n,by rw[World.drewN_drewN]⟩
theorem Dr.keeps{w w':World}(h:Dr w w'):Keeps w w':=by
 obtain⟨n,rfl⟩:=h;exact(Keeps.refl w).drewN n
def Sl(w:World)(v:Value)(xs:List Value):Prop:=
  ∃a c,v=.slice a xs.length c∧xs.length<=c∧c<=maxLen∧
    (xs=[]∨∃b o,a=some ⟨b,o,none⟩∧∀i x,xs[i]? =some x->w.cell? ⟨b,o+i,none⟩=some x)
def Ints(w:World)(v:Value)(l:List Int):Prop:=Sl w v (l.map (Value.int .i64))
theorem Sl.keep{w w':World}{v:Value}{xs:List Value}(h:Sl w v xs)(k:Keeps w w'):Sl w' v xs:=by
 obtain⟨a,c,rfl,g,f,d⟩:=h;refine⟨a,c,rfl,g,f,?_⟩;rcases d with d|⟨b,o,rfl,d⟩
 ·exact .inl d
 ·refine .inr ⟨b,o,rfl,λi x j=>?_⟩;have e:=d i x j;rw[qP k (xL w _ e)];exact e
theorem Ints.keep{w w':World}{v:Value}{l:List Int}(h:Ints w v l)(k:Keeps w w'):Ints w' v l:=Sl.keep h k
theorem Sl.form{w:World}{v:Value}{xs:List Value}(h:Sl w v xs):
  ∃a c,v=.slice a xs.length c∧xs.length<=9223372036854775807∧
   ∀i,i<xs.length->∃b o,a=some ⟨b,o,none⟩∧w.cell? ⟨b,o+i,none⟩=some (xs.getD i undef):=by
 obtain⟨a,c,rfl,f,e,d⟩:=h;refine⟨a,c,rfl,by simp only[maxLen] at e;omega,λi hi=>?_⟩;rcases d with d|⟨b,o,rfl,d⟩
 ·subst d;simp at hi
 ·exact⟨b,o,rfl,d i _ (sh hi)⟩
theorem Ints.form{w:World}{v:Value}{l:List Int}(h:Ints w v l):
  ∃a c,v=.slice a l.length c∧l.length<=9223372036854775807∧
   ∀i,i<l.length->∃b o,a=some ⟨b,o,none⟩∧w.cell? ⟨b,o+i,none⟩=some (.int .i64 (l.getD i 0)):=by
 obtain⟨a,c,rfl,f,e,d⟩:=h;simp only[aA] at f ⊢;refine⟨a,c,rfl,by simp only[maxLen] at e;omega,λi hi=>?_⟩;rcases d with d|⟨b,o,rfl,d⟩
 ·simp at d;subst d;simp at hi
 ·exact⟨b,o,rfl,d i _ (sh hi)⟩
theorem pQ{w w':World}{B:Nat}{e:TypeId}{size:Nat}{v:Value}{n:Nat}{xs:List Value}(h:w.ownsRow B e size v n xs)(k:Keeps w w'):w'.ownsRow B e size v n xs:=by
 obtain⟨f,a⟩:=h;refine⟨f,?_⟩;rcases a with a|⟨g,cap,b,i,j,d,r⟩
 ·exact .inl a
 ·exact .inr ⟨g,cap,b,i,j,by rw[k.block g (ct.1 d).1];exact d,r⟩
theorem xe{w:World}{B:Nat}{e:TypeId}{v:Value}{xs:List Value}(h:w.ownsRow B e 1 v xs.length xs):Sl w v xs:=by
 rcases h.2 with⟨rfl,j⟩|⟨g,cap,k,rfl,_,n,f,d,_,o⟩
 ·have:xs=[]:=cD j;subst this;exact⟨none,0,rfl,K_ _,by simp[maxLen],.inl rfl⟩
 ·refine⟨_,cap,rfl,f,d,.inr ⟨g,0,rfl,λi x m=>?_⟩⟩;have b:=h.cells (g:=g) rfl i x m;have a:(⟨g,0,none⟩:Addr).add i=⟨g,0+i,none⟩:=by unfold Addr.add;split<;>simp_all
  rw[a] at b;exact b
def Apart(u v:Value):Prop:=u.ownBlock=none∨u.ownBlock≠v.ownBlock
theorem Apart.symm{u v:Value}(h:Apart u v):Apart v u:=by
 unfold Apart at*
 rcases h with h|h
 ·by_cases a:v.ownBlock=none
  ·exact .inl a
  ·exact .inr λe=>a (e.trans h)
 ·exact .inr λe=>h e.symm
theorem Bb(w:World)(r:Option Nat):w.grownBy w r:=⟨rfl,rfl,rfl,K_ _,λ_ _ _=>rfl⟩
theorem AJ{a b c:World}{r:Option Nat}(h:a.grownBy b r)(k:b.grownBy c r):a.grownBy c r:=
 ⟨k.os.trans h.os,k.tape.trans h.tape,k.output.trans h.output,aH h.size k.size,λi hi d=>(k.block i (bh hi h.size) d).trans (h.block i hi d)⟩
theorem Ai{w w0:World}{B q:Nat}{e:TypeId}{size:Nat}{g cap n m:Nat}{xs o:List Value}(h:w.ownsRow B e size (.slice (some ⟨g,0,none⟩) (n+m) cap) (n+m) (xs++o))
  (j:w0.ownsRow q e size (.slice (some ⟨g,0,none⟩) n cap) n xs):w.ownsRow B e size (.slice (some ⟨g,0,none⟩) n cap) n xs:=by
 rcases h.2 with⟨d,_⟩|⟨v,p,b,d,u,s,t,f,i,a⟩
 ·simp at d
 ·simp only[Value.slice.injEq,Option.some.injEq,Addr.mk.injEq,and_true,true_and] at d;obtain⟨rfl,rfl⟩:=d;refine⟨j.1,.inr ⟨g,cap,b,rfl,u,s,om,f,i,?_⟩⟩;have k:(b.toList.take ((n+m)*size)).take (n*size)=(xs++o).take (n*size):=by rw[a]
  rw[fZ,eq (qQ _ om),<-j.1,qR] at k;rw[<-j.1];exact k
section
variable {P:Program} (w:World)
theorem Am(B:Nat)(t ty e:TypeId)(i:TypeInfo)(z:Value)(size o:Nat)(M:P.underlying t=some (.slice e))(hi:P.info? e=some i)(V:i.zero=some z)
  (q:i.size=size) (I:i.bytes=o) (E:z.cells.size=size) (N:0<size)
  (v:Value) (n:Nat) (xs:List Value) (b:w.ownsRow B e size v n xs)
  (O:Option Addr) (m c:Nat) (d:List Value) (D:d.length=m*size) (X:O=none->m=0∧c=0) (F:∀a,O=some a->∀j u,d[j]? =some u->w.cell? (a.add j)=some u)
  (S:∀u∈d,u.oneCell'=true)
  (p:(n+m)*o<=140737488355328) (Q:n+m<=maxLen) (R:B<=w.heap.size):
  ∃A w',(Builtin.append_ #[t,t] ty #[v,.slice O m c]).run P w=.ok A w'∧w'.ownsRow B e size A (n+m) (xs++d)∧w.grownBy w' v.ownBlock∧
   (A.ownBlock=v.ownBlock∨w'.ownsRow w.heap.size e size A (n+m) (xs++d))∧w'.ownsRow B e size v n xs:=by
 cases O with
 |none=>
  obtain⟨rfl,rfl⟩:=X rfl;have hn:d=[]:=cD (su D);subst hn;refine⟨v,w,run_append_owned_none w B t ty e i size M hi v n xs b,by simpa using b,⟨rfl,rfl,rfl,K_ _,λ_ _ _=>rfl⟩,.inl rfl,b⟩
 | some a=>
  have f:=F a rfl;by_cases s:∃g cap,v=.slice (some ⟨g,0,none⟩) n cap∧n+m<=cap
  ·obtain⟨g,cap,rfl,Y⟩:=s;obtain⟨w',K,H,J⟩:=run_append_fits (P:=P) w B t ty e i size M hi q g n cap xs b a m c d D f S Y;exact⟨_,w',K,H,J,.inl rfl,Ai H b⟩
  ·rcases b.2 with⟨rfl,rfl⟩|⟨g,cap,cur,rfl,hbg,hg,hnc,L,hcs,U⟩
   ·by_cases Z:m=0
    ·subst Z;obtain⟨A,w',K,H,J,h5⟩:=run_append_own (P:=P) w B t ty e i z size o M hi V q I E N _ _ xs b a 0 c d D f S Q p R;have:A=.slice none 0 0:=h5.2 ⟨rfl,rfl⟩;subst this;exact⟨_,w',K,H,J,.inl rfl,b.kept J (.inl rfl)⟩
    ·have hx:xs=[]:=cD (su b.1);subst hx;obtain⟨A,w',K,H,J,_⟩:=run_append_own (P:=P) w w.heap.size t ty e i z size o M hi V q I E N _ _ [] (mr w w.heap.size e size) a m c d D f S Q p (K_ _);exact⟨A,w',K,H.mono R,J,.inr H,b.kept J (.inl rfl)⟩
   ·have x:cap<n+m:=by
     apply oK;intro h;exact s ⟨g,cap,rfl,h⟩
    subst q;subst I;have G:∀j u,xs[j]? =some u->w.cell? ((⟨g,0,none⟩:Addr).add j)=some u:=b.cells (g:=g) rfl;have Y:=run_append_grow (P:=P) w t ty e i z M hi V ⟨g,0,none⟩ n cap xs b.1 G a m c d D f x (by simp only[maxLen] at Q;omega) (growslice_fits x p);have C:(xs++d).length=(n+m)*i.size:=by rw[ar,b.1,D,oL]
    have T:=grownCap_ge w (n+m) cap e;have L:grownCap w (n+m) cap e<=maxLen:=grownCap_le_maxLen w (n+m) cap e Q
    have y:(w.drew.alloc (.cells (xs.toArray++d.toArray++Builtin.zeroCells z.cells (grownCap w (n+m) cap e-(n+m))) e)).ownsRow w.heap.size e i.size
      (.slice (some ⟨w.heap.size,0,none⟩) (n+m) (grownCap w (n+m) cap e)) (n+m) (xs++d):=by
     refine⟨C,.inr ⟨w.heap.size,_,_,rfl,K_ _,heap_alloc_new w.drew _,T,L,?_,?_⟩⟩
     ·simp only[xM,oM,size_zeroCells,E,b.1,D,<-oL];congr 1;omega
     ·simp only[Array.toList_append,bC];rw[<-bC,<-C];exact qR
    exact⟨_,_,Y,y.mono R,⟨rfl,rfl,rfl,sy,λk W _=>heap_alloc_old w.drew _ W⟩,.inr y,pQ b ⟨rfl,rfl,rfl,sy,λk W=>heap_alloc_old w.drew _ W⟩⟩
end
end
section
theorem nT:(Tryz.prog.info? 3).map (λi=>(i.zero,i.size,i.bytes))=some (some (.int .i64 0),1,8):=by kernel_rfl
def Own(B:Nat)(w:World)(v:Value)(l:List Int):Prop:=w.ownsRow B 3 1 v l.length (l.map (Value.int .i64))
section
variable {B:Nat} {w w':World} {v:Value} {l:List Int}
theorem Own.keep(h:Own B w v l)(k:Keeps w w'):Own B w' v l:=pQ h k
theorem Own.mono{b:Nat}(h:Own B w v l)(d:b<=B):Own b w v l:=World.ownsRow.mono h d
theorem Own.ints(h:Own B w v l):Ints w v l:=xe (e:=3) (B:=B) (by simpa [Own] using h)
theorem Own.lt(h:Own B w v l):∀k,v.ownBlock=some k->B<=k∧k<w.heap.size:=World.ownsRow.lt h
theorem Own.nil(B:Nat)(w:World):Own B w (.slice none 0 0) []:=mr w B 3 1
theorem Own.kept{u:Value}(h:Own B w v l)(b:w.grownBy w' u.ownBlock)(d:Apart v u):Own B w' v l:=World.ownsRow.kept h b d
theorem Own.apart_old{C:Nat}{u:Value}{m:List Int}{w0:World}(h:Own B w0 v l)(k:Own C w u m)(j:w0.heap.size<=C):Apart v u:=by
 unfold Apart;by_cases d:v.ownBlock=none
 ·exact .inl d
 ·obtain⟨g,b⟩:=Option.ne_none_iff_exists'.1 d;refine .inr λe=>?_;have i:=(h.lt g b).2;have f:=(k.lt g (e▸b)).1;omega
theorem Own.len(h:Own B w v l):∃a c,v=.slice a l.length c∧l.length<=9223372036854775807:=by
 obtain⟨a,c,d,b,_⟩:=h.ints.form;exact⟨a,c,d,b⟩
end
structure App (B:Nat) (W:World) (v:Value) (l ys:List Int) (v':Value) (w':World):Prop where
  own:Own B w' v' (l++ys)
  grown:W.grownBy w' v.ownBlock
  lies:v'.ownBlock=v.ownBlock∨Own W.heap.size w' v' (l++ys)
  old:Own B w' v l
section
variable {ops:Array Oper} {rest:List Oper} {o:Oper} {a:Act} {Q:Exit->Act->World->Prop}
end
end
section
def Kn:List (Nat×Value)->Nat->Option Value
  |[],_=>none
  |(s,v)::r,t=>if s=t then some v else Kn r t
structure Fr (a:Act) (n:Nat) (l:List (Nat×Value)):Prop where
  size:a.tmps.size=n
  defers:a.defers=[]
  get:∀t v,Kn l t=some v->a.tmps.getD t undef=v
theorem Fr.put{a:Act}{n:Nat}{l:List (Nat×Value)}(h:Fr a n l){d:Nat}(f:d<n)(v:Value):Fr (a.put (some d) v) n ((d,v)::l):=by
 refine⟨by simp[Act.put,h.size],by simp[Act.put,h.defers],λt u b=>?_⟩;simp only[Kn] at b;simp only[Act.put];by_cases e:d=t
 ·subst e;rw[if_pos rfl] at b;cases b
  have:d<a.tmps.size:=by rw[h.size];exact f
  simp[dq,this]
 ·rw[if_neg e] at b;have:=h.get t u b;simp only[dq] at this ⊢;rw[qS e];exact this
def Sub:List (Nat×Value)->List (Nat×Value)->Prop
  |[],_=>True
  |(t,v)::r,l=>Kn l t=some v∧Sub r l
theorem Sub.kn:∀{r l:List (Nat×Value)},Sub r l->∀t v,Kn r t=some v->Kn l t=some v
 |[],_,_,t,v,h=>by simp[Kn] at h
 |(s,u)::r,l,a,t,v,h=>by
  simp only[Kn] at h;split at h
  ·rename_i e;subst e;cases h;exact a.1
  ·exact Sub.kn a.2 t v h
theorem Fr.sub{a:Act}{n:Nat}{l r:List (Nat×Value)}(h:Fr a n l)(e:Sub r l):Fr a n r:=
 ⟨h.size,h.defers,λt v b=>h.get t v (e.kn t v b)⟩
def ev(l:List (Nat×Value)):Operand->Option Value
  | .tmp t=>Kn l t
  | .const v=>some v
  | .global g=>some (.pointer (some ⟨g,0,none⟩))
  | .func f=>some (.func (.func f) #[] #[])
def Agr(ρ:Operand->Value)(l:List (Nat×Value)):Prop:=∀x v,ev l x=some v->ρ x=v
theorem Fr.agr{a:Act}{n:Nat}{l:List (Nat×Value)}(h:Fr a n l):Agr a.eval l:=by
 intro x v b;cases x with
 |tmp t=>exact h.get t v b
 |const u=>simp only[ev] at b;cases b;rfl
 |global g=>simp only[ev] at b;cases b;rfl
 |func f=>simp only[ev] at b;cases b;rfl
def Gd(ops:Array Oper)(l:List (Nat×Value)):Option (Nat×Bool)->Prop
  |none=>True
  |some (j,want)=>∃d,((ops[j]?).bind (·.dst))=some d∧Kn l d=some (.bool want)
theorem uc{a:Act}{n:Nat}{l:List (Nat×Value)}(h:Fr a n l){ops:Array Oper}{o:Oper}(i:Gd ops l o.guard):Region.wanted o (yielded ops a.tmps)=true:=by
 unfold Region.wanted;cases q:o.guard with
 |none=>rfl
 | some p=>
  obtain⟨j,e⟩:=p;rw[q] at i;obtain⟨d,m,k⟩:=i;have b:=h.get d _ k;simp only[yielded,m,jN];have:a.tmps[d]? =some (.bool e):=by
   simp only[dq] at b;cases f:a.tmps[d]? with
   |none=>rw[f] at b;simp[undef] at b
   |some u=>rw[f] at b;simp at b;rw[b]
  rw[this];simp
theorem xn{a:Act}{n:Nat}{l:List (Nat×Value)}(h:Fr a n l){ops:Array Oper}{o:Oper}{j:Nat}{e:Bool}(p:o.guard=some (j,e))
  {d:Nat} {b:Bool} (m:((ops[j]?).bind (·.dst))=some d) (k:Kn l d=some (.bool b)) (q:(b==e)=false):Region.wanted o (yielded ops a.tmps)=false:=by
 unfold Region.wanted;rw[p];have f:=h.get d _ k;simp only[yielded,m,jN];have:a.tmps[d]? =some (.bool b):=by
  simp only[dq] at f;cases i:a.tmps[d]? with
  |none=>rw[i] at f;simp[undef] at f
  |some u=>rw[i] at f;simp at f;rw[f]
 rw[this];simpa using q
def wpF(P:Program)(ops:Array Oper)(Q:Exit->Act->World->Prop)(rest:List Oper)(n:Nat)(l:List (Nat×Value))(w:World):Prop:=∀a,Fr a n l->wpList P ops Q rest a w
def wpC(P:Program)(c:Code)(Q:Exit->Act->World->Prop)(n:Nat)(l:List (Nat×Value))(w:World):Prop:=∀a,Fr a n l->Code.wp P c Q a w
section
variable {P:Program} {Q:Exit->Act->World->Prop} {n:Nat} {l:List (Nat×Value)} {w:World}
theorem f_(h:∀a,Fr a n l->Q .normal a w):wpC P .skip Q n l w:=λa b=>wp_skip (h a b)
theorem b_{x y:Code}(h:wpC P x (Exit.then (y.wp P Q) Q) n l w):wpC P (.seq x y) Q n l w:=λa b=>wp_seq (h a b)
theorem h_{id:Nat}{ops:List Oper}(h:wpF P ops.toArray Q ops n l w):wpC P (.region id ops.toArray false) Q n l w:=λa b=>wp_region_lit (h a b)
theorem dN{c:Operand}{x y:Code}{t:Bool}(f:ev l c=some (.bool t))(e:t=true->wpC P x Q n l w)(i:t=false->wpC P y Q n l w):wpC P (.cond c x y) Q n l w:=
 λa b=>wp_cond_split (b.agr c _ f) (λh=>e h a b) (λh=>i h a b)
theorem R_{c:Operand}{x y:Code}(f:ev l c=some (.bool true))(e:wpC P x Q n l w):wpC P (.cond c x y) Q n l w:=λa b=>wp_cond_true (b.agr c _ f) (e a b)
theorem Q_{c:Operand}{x y:Code}(f:ev l c=some (.bool false))(e:wpC P y Q n l w):wpC P (.cond c x y) Q n l w:=λa b=>wp_cond_false (b.agr c _ f) (e a b)
theorem k_{id:Nat}{c:Code}(h:wpC P c (Exit.inBlock id Q) n l w):wpC P (.block id c) Q n l w:=λa b=>wp_block (h a b)
theorem z_{id:Nat}(h:∀a,Fr a n l->Q (.exit id) a w):wpC P (.exit id) Q n l w:=λa b=>wp_exit (h a b)
theorem i_(h:∀a,Fr a n l->Q .ret a w):wpC P .ret Q n l w:=λa b=>wp_ret (h a b)
theorem vu{c:Code}{Q':Exit->Act->World->Prop}(h:wpC P c Q n l w)(b:∀e a w,Q e a w->Q' e a w):wpC P c Q' n l w:=λa f=>wp_mono (h a f) b
theorem to_k{K:Act->Prop}{r:List (Nat×Value)}(b:Sub r l)(h:∀a,Fr a n r->K a):∀a,Fr a n l->K a:=λa e=>h a (e.sub b)
theorem B_{c:Code}(I:Nat->Act->World->Prop)(b:Nat)(f:∀a,Fr a n l->I b a w)
  (round:∀k a w,I k a w->Code.wp P c (Exit.then (λe w'=>∃k',k'<k∧I k' e w') Q) a w):wpC P (.loop c) Q n l w:=
 λa h=>wp_loop_ghost I b (f a h) round
theorem BY{f:FuncId}{a:Func}{c:Code}{args:Array Value}{R:Ending->World->Prop}(j:P.funcs[f]? =some a)(e:a.body=some c)(b:args.size+(a.ntmps-args.size)=n)
  (i:∀t v,Kn l t=some v->(args++Array.replicate (a.ntmps-args.size) undef).getD t undef=v) (h:wpC P c (bodyPost P a R) n l w):Calls P f args w R:=
 calls_of_wp j e (h _ ⟨by simpa using b,rfl,i⟩)
variable {ops:Array Oper} {rest:List Oper} {o:Oper}
theorem aQ{r:List (Nat×Value)}(b:Sub r l)(h:∀a,Fr a n r->Q .normal a w):wpF P ops Q [] n l w:=λa e=>wpList_nil (h a (e.sub b))
theorem qH(e:Gd ops l o.guard)(h:∀a,Fr a n l->o.wp P a w (wpList P ops Q rest) Q):wpF P ops Q (o::rest) n l w:=by
 intro a b;refine wpList_step λK f=>?_;rw[if_pos (uc b e)];exact Oper.wp_mono f (h a b)
theorem m_{d:Nat}{v:Value}{w':World}{e:Op}{ty:TypeId}{ps:String}{af:Array Edge}{g:Option (Nat×Bool)}
  (f:∀ρ,Agr ρ l->(execOp ρ ⟨some d,e,ty,ps,af,g⟩).run P w=.ok (.value v) w')
  (i:d<n) (j:Gd ops l g) (h:wpF P ops Q rest n ((d,v)::l) w'):wpF P ops Q (⟨some d,e,ty,ps,af,g⟩::rest) n l w:=by
 refine qH j λa b=>?_;unfold Oper.wp;rw[f _ b.agr];exact h _ (b.put i v)
theorem W_{d:Nat}{t:Op}{ty:TypeId}{ps:String}{af:Array Edge}{j:Nat}{e:Bool}{s:Nat}{b:Bool}
  (k:((ops[j]?).bind (·.dst))=some s) (i:Kn l s=some (.bool b)) (p:(b==e)=false)
  (m:d<n) (h:wpF P ops Q rest n ((d,undef)::l) w):wpF P ops Q (⟨some d,t,ty,ps,af,some (j,e)⟩::rest) n l w:=by
 intro a f;refine wpList_step λK q=>?_;rw[if_neg (by rw[xn f rfl k i p];decide)];exact q _ _ (h _ (f.put m undef))
theorem ah{d:Nat}{i:Op}{ty:TypeId}{ps:String}{af:Array Edge}{j:Nat}{b:Bool}{s:Nat}
  (k:((ops[j]?).bind (·.dst))=some s) (t:Kn l s=some undef)
  (m:d<n) (h:wpF P ops Q rest n ((d,undef)::l) w):wpF P ops Q (⟨some d,i,ty,ps,af,some (j,b)⟩::rest) n l w:=by
 intro a e;refine wpList_step λK p=>?_;have q:Region.wanted (⟨some d,i,ty,ps,af,some (j,b)⟩:Oper) (yielded ops a.tmps)=false:=by
  have f:=e.get s _ t;simp only[Region.wanted,yielded,k,jN];cases v:a.tmps[s]? with
  |none=>rfl
  |some u=>
   simp only[dq,v,dT] at f;subst f;rfl
 rw[if_neg (by rw[q];decide)];exact p _ _ (h _ (e.put m undef))
theorem nc{a:Act}{next b:Act->World->Prop}{Q':Exit->Act->World->Prop}(j:∀a w,next a w->b a w)(i:∀e a w,Q e a w->Q' e a w)(h:o.wp P a w next Q):o.wp P a w b Q':=by
 unfold Oper.wp at*
 generalize (execOp a.eval o).run P w=r at*
 cases r with
 | ok x w'=>
  cases x<;>simp only[Oper.upon] at h ⊢<;>
   first
    |exact j _ _ h
    | exact ms h (λe k f=>by
      cases e with
      |returned v=>exact j _ _ f
      |panicked c=>exact i _ _ _ f
      |outgrown=>obtain⟨a,w,m⟩:=f;exact⟨a,w,i _ _ _ m⟩)
    |exact Rows.mono h (λ_ _ f=>j _ _ f)
    |exact h
 |halt x w'=>cases x<;>simp only[Oper.upon] at h ⊢<;>first|exact i _ _ _ h|exact h
def op1(P:Program)(o:Oper)(n:Nat)(l:List (Nat×Value))(w:World)(R:Value->World->Prop):Prop:=
  ∀a,Fr a n l->o.wp P a w (λa' w'=>∃v,a'=a.put o.dst v∧R v w') (λ_ _ _=>False)
theorem M_{R:Value->World->Prop}{v:Value}{w':World}(b:∀ρ,Agr ρ l->(execOp ρ o).run P w=.ok (.value v) w')(h:R v w'):op1 P o n l w R:=by
 intro a e;unfold Oper.wp;rw[b _ e.agr];exact⟨v,rfl,h⟩
theorem qi{R:Value->World->Prop}{w':World}(b:∀ρ,Agr ρ l->(execOp ρ o).run P w=.ok .skip w')(h:R undef w'):op1 P o n l w R:=by
 intro a e;unfold Oper.wp;rw[b _ e.agr];exact⟨undef,rfl,h⟩
theorem nQ{R:Value->World->Prop}{f:FuncId}{args:Array Value}{C:Ending->World->Prop}(i:∀ρ,Agr ρ l->(execOp ρ o).run P w=.ok (.enter f args) w)
  (j:Calls P f args w C) (h:∀e w',C e w'->∃v,e=.returned v∧R v w'):op1 P o n l w R:=by
 intro a m;unfold Oper.wp;rw[i _ m.agr];refine j.mono λe w' b=>?_;obtain⟨v,rfl,k⟩:=h e w' b;exact⟨v,rfl,k⟩
theorem az{d:Nat}{f:Op}{ty:TypeId}{ps:String}{af:Array Edge}{g:Option (Nat×Bool)}(i:d<n)(j:Gd ops l g)
  (h:op1 P ⟨some d,f,ty,ps,af,g⟩ n l w (λv w'=>wpF P ops Q rest n ((d,v)::l) w')):wpF P ops Q (⟨some d,f,ty,ps,af,g⟩::rest) n l w:=
 qH j λa e=>nc (λm w' b=>by obtain⟨v,rfl,k⟩:=b;exact k _ (e.put i v)) (λ_ _ _ b=>b.elim) (h a e)
theorem E_{f:Op}{ty:TypeId}{ps:String}{af:Array Edge}{g:Option (Nat×Bool)}(i:Gd ops l g)
  (h:op1 P ⟨none,f,ty,ps,af,g⟩ n l w (λ_ w'=>wpF P ops Q rest n l w')):wpF P ops Q (⟨none,f,ty,ps,af,g⟩::rest) n l w:=
 qH i λa e=>nc (λk w' b=>by obtain⟨v,rfl,j⟩:=b;exact j _ e) (λ_ _ _ b=>b.elim) (h a e)
section
variable {d:Option Nat} {ty:TypeId} {ps:String} {af:Array Edge} {g:Option (Nat×Bool)}
theorem d_{x:Operand}{v:Value}(a:ev l x=some v):∀ρ,Agr ρ l->(execOp ρ ⟨d,.move x,ty,ps,af,g⟩).run P w=.ok (.value v) w:=by
 intro ρ b;rw[<-b x v a];rfl
theorem bc{x:Operand}{v:Value}(a:ev l x=some v):∀ρ,Agr ρ l->(execOp ρ ⟨d,.assign x,ty,ps,af,g⟩).run P w=.ok (.value v) w:=by
 intro ρ b;rw[<-b x v a];rfl
theorem aj{c x y:Operand}{v:Value}(b:ev l c=some (.bool true))(e:ev l x=some v):∀ρ,Agr ρ l->(execOp ρ ⟨d,.pick c x y,ty,ps,af,g⟩).run P w=.ok (.value v) w:=by
 intro ρ a;simp only[execOp,a c _ b,a x _ e];rfl
theorem aa{c x y:Operand}{v:Value}(b:ev l c=some (.bool false))(e:ev l y=some v):∀ρ,Agr ρ l->(execOp ρ ⟨d,.pick c x y,ty,ps,af,g⟩).run P w=.ok (.value v) w:=by
 intro ρ a;simp only[execOp,a c _ b,a y _ e];rfl
theorem ag{t:TypeId}{x:Operand}{b:Bool}(e:ev l x=some (.bool b)):∀ρ,Agr ρ l->(execOp ρ ⟨d,.unOp .not t x,ty,ps,af,g⟩).run P w=.ok (.value (.bool (!b))) w:=by
 intro ρ a;simp only[execOp,a x _ e];rfl
theorem H_{x:Operand}{vs:Array Value}{i:Nat}{v:Value}(b:ev l x=some (.tuple vs))(e:vs[i]? =some v):∀ρ,Agr ρ l->(execOp ρ ⟨d,.extract x i,ty,ps,af,g⟩).run P w=.ok (.value v) w:=by
 intro ρ a;simp only[execOp,a x _ b,Instr.extract,e];rfl
end
end
end
section
abbrev Tg:=Nat->Nat
structure Stp (t:Nat) (o:Tg) (w:World) (o':Tg) (w':World):Prop where
  os:w'.os=w.os
  tape:w'.tape=w.tape
  output:w'.output=w.output
  size:w.heap.size<=w'.heap.size
  block:∀b,b<w.heap.size->o b≠t->w'.heap[b]? =w.heap[b]?
  own:∀b,b<w.heap.size->o' b=o b
theorem Stp.refl(t:Nat)(o:Tg)(w:World):Stp t o w o w:=⟨rfl,rfl,rfl,K_ _,λ_ _ _=>rfl,λ_ _=>rfl⟩
theorem Stp.trans{t:Nat}{o o' o'':Tg}{w w' d:World}(h:Stp t o w o' w')(k:Stp t o' w' o'' d):Stp t o w o'' d:=
 ⟨k.os.trans h.os,k.tape.trans h.tape,k.output.trans h.output,aH h.size k.size,
  λb a e=>(k.block b (bh a h.size) (by rw[h.own b a];exact e)).trans (h.block b a e),
  λb a=>(k.own b (bh a h.size)).trans (h.own b a)⟩
theorem Keeps.stp{w w':World}(k:Keeps w w')(t:Nat)(o:Tg):Stp t o w o w':=⟨k.os,k.tape,k.output,k.size,λb a _=>k.block b a,λ_ _=>rfl⟩
theorem Keeps.stp'{w w':World}(k:Keeps w w')(t:Nat){o o':Tg}(h:∀b,b<w.heap.size->o' b=o b):Stp t o w o' w':=⟨k.os,k.tape,k.output,k.size,λb a _=>k.block b a,h⟩
structure Bs (oo o:Tg) (w0 w:World):Prop where
  keeps:Keeps w0 w
  old:∀b,b<w0.heap.size->o b=if oo b=0 then 0 else 1
theorem Bs.stp{d o o':Tg}{w0 w w':World}{t:Nat}(h:Bs d o w0 w)(s:Stp t o w o' w')(e:2<=t:=by decide):Bs d o' w0 w':=
  ⟨⟨s.os.trans h.keeps.os,s.tape.trans h.keeps.tape,s.output.trans h.keeps.output,aH h.keeps.size s.size,
    λb a=>(s.block b (bh a h.keeps.size) (by have:=h.old b a;split at this<;>omega)).trans (h.keeps.block b a)⟩,
   λb a=>by rw[s.own b (bh a h.keeps.size)];exact h.old b a⟩
def col(oo:Tg):Tg:=λb=>if oo b=0 then 0 else 1
theorem Bs.start(a:Tg)(w:World):Bs a (col a) w w:=⟨Keeps.refl w,λ_ _=>rfl⟩
def Cells(w:World)(b off:Nat)(cs:List Value):Prop:=∀j v,cs[j]? =some v->w.cell? ⟨b,off+j,none⟩=some v
theorem Cells.of_block{w w':World}{b off:Nat}{cs:List Value}(h:Cells w b off cs)(d:w'.heap[b]? =w.heap[b]?):Cells w' b off cs:=by
 intro j v a;rw[<-h j v a];simp only[World.cell?,d]
class Rp (α:Type) where
  sz:Nat
  pos:0<sz
  rd:Tg->World->List Value->α->Prop
  len:∀{o w cs x},rd o w cs x->cs.length=sz
  one:∀{o w cs x},rd o w cs x->∀c∈cs,c.oneCell'=true
  mv:∀{o o':Tg}{w w':World}{cs:List Value}{x:α},rd o w cs x->w.heap.size<=w'.heap.size->(∀b,b<w.heap.size->o b=0->w'.heap[b]? =w.heap[b]? ∧o' b=0)->rd o' w' cs x
instance:Rp Int where
  sz:=1
  pos:=dc
  rd _ _ cs x:=cs=[.int .i64 x]
  len h:=by subst h;rfl
  one h:=by subst h;simp[Value.oneCell']
  mv h _ _:=h
instance:Rp Bool where
  sz:=1
  pos:=dc
  rd _ _ cs x:=cs=[.bool x]
  len h:=by subst h;rfl
  one h:=by subst h;simp[Value.oneCell']
  mv h _ _:=h
def RdL{α:Type}[Rp α](o:Tg)(w:World)(v:Value)(xs:List α):Prop:=
  ∃a c,v=.slice a xs.length c∧xs.length<=c∧c<=maxLen∧
    ∀(i:Nat) x,xs[i]? =some x->∃b off cs,a=some ⟨b,off,none⟩∧o b=0∧b<w.heap.size∧Cells w b (off+i*Rp.sz α) cs∧Rp.rd o w cs x
theorem RdL.mv{α:Type}[Rp α]{o o':Tg}{w w':World}{v:Value}{xs:List α}(h:RdL o w v xs)(g:w.heap.size<=w'.heap.size)
  (f:∀b,b<w.heap.size->o b=0->w'.heap[b]? =w.heap[b]? ∧o' b=0):RdL o' w' v xs:=by
 obtain⟨a,c,e,m,p,u⟩:=h;refine⟨a,c,e,m,p,λi x y=>?_⟩;obtain⟨b,off,cs,q,j,d,n,s⟩:=u i x y;exact⟨b,off,cs,q,(f b d j).2,bh d g,n.of_block (f b d j).1,Rp.mv s g f⟩
instance {α:Type} [Rp α]:Rp (List α) where
  sz:=1
  pos:=dc
  rd o w cs xs:=∃v,cs=[v]∧RdL o w v xs
  len h:=by obtain⟨v,rfl,_⟩:=h;rfl
  one h:=by obtain⟨v,rfl,a,c,rfl,_⟩:=h;simp[Value.oneCell']
  mv h hs hb:=by obtain⟨v,e,h⟩:=h;exact⟨v,e,h.mv hs hb⟩
def zt:Tg:=λ_=>0
section
variable {α:Type} [Rp α] {o o' o'':Tg} {w w' w0:World} {v:Value} {xs:List α} {x:α} {cs:List Value} {t k:Nat}
theorem RdL.stp(h:RdL o w v xs)(s:Stp t o w o' w')(f:t≠0:=by decide):RdL o' w' v xs:=
 h.mv s.size λb d a=>⟨s.block b d (by rw[a];exact λe=>f e.symm),by rw[s.own b d];exact a⟩
theorem RdL.keep(h:RdL zt w v xs)(k:Keeps w w'):RdL zt w' v xs:=h.mv k.size λb a _=>⟨k.block b a,rfl⟩
theorem RdL.z(h:RdL o w v xs):RdL zt w v xs:=h.mv (K_ _) λb a _=>⟨rfl,rfl⟩
theorem Rp.stp(h:Rp.rd o w cs x)(s:Stp t o w o' w')(f:t≠0:=by decide):Rp.rd o' w' cs x:=
 Rp.mv h s.size λb d a=>⟨s.block b d (by rw[a];exact λe=>f e.symm),by rw[s.own b d];exact a⟩
theorem Rp.keep(h:Rp.rd zt w cs x)(k:Keeps w w'):Rp.rd zt w' cs x:=Rp.mv h k.size λb a _=>⟨k.block b a,rfl⟩
theorem Rp.z(h:Rp.rd o w cs x):Rp.rd zt w cs x:=Rp.mv h (K_ _) λb a _=>⟨rfl,rfl⟩
theorem RdL.form(h:RdL o w v xs):∃a c,v=.slice a xs.length c:=by obtain⟨a,c,e,_⟩:=h;exact⟨a,c,e⟩
theorem RdL.len_le(h:RdL o w v xs):xs.length<=9223372036854775807:=by
 obtain⟨a,c,_,d,b,_⟩:=h;simp only[maxLen] at b;omega
theorem RdL.nil(o:Tg)(w:World):RdL o w (.slice none 0 0) ([]:List α):=⟨none,0,rfl,K_ _,by simp[maxLen],λi x a=>by simp at a⟩
theorem RdL.at{a:Option Addr}{n c:Nat}(h:RdL o w (.slice a n c) xs){i:Nat}(hi:xs[i]? =some x):∃b off cs,a=some ⟨b,off,none⟩∧Cells w b (off+i*Rp.sz α) cs∧Rp.rd o w cs x∧n=xs.length:=by
 obtain⟨s,u,e,m,q,j⟩:=h;cases e
 obtain⟨b,off,cs,f,y,p,d,g⟩:=j i x hi;exact⟨b,off,cs,f,d,g,rfl⟩
theorem G_{b off:Nat}{u:Value}(h:Cells w b off [u]):w.cell? ⟨b,off,none⟩=some u:=by simpa using h 0 u rfl
def Ow(B:Nat)(e:TypeId)(k:Nat)(o:Tg)(w:World)(v:Value)(xs:List α):Prop:=
  ∃css:List (List Value),css.length=xs.length∧w.ownsRow B e (Rp.sz α) v xs.length css.flatten∧(∀g,v.ownBlock=some g->o g=k)∧
    ∀(i:Nat) cs x,css[i]? =some cs->xs[i]? =some x->Rp.rd o w cs x
theorem Ow.nil(B:Nat)(e:TypeId)(k:Nat)(o:Tg)(w:World):Ow B e k o w (.slice none 0 0) ([]:List α):=
 ⟨[],rfl,mr w B e _,λg a=>by simp[Value.ownBlock] at a,λi cs x h=>by simp at h⟩
theorem Ow.form{B:Nat}{e:TypeId}(h:Ow B e k o w v xs):∃a c,v=.slice a xs.length c:=by
 obtain⟨css,i,b,_⟩:=h;rcases b.2 with⟨rfl,d⟩|⟨g,cap,f,rfl,_⟩
 ·exact⟨none,0,by rw[d]⟩
 ·exact⟨_,cap,rfl⟩
theorem Ow.len_le{B:Nat}{e:TypeId}(h:Ow B e k o w v xs):xs.length<=9223372036854775807:=by
 obtain⟨css,i,a,_⟩:=h;rcases a.2 with⟨_,f⟩|⟨g,cap,d,_,_,_,j,b,_⟩
 ·omega
 ·simp only[maxLen] at b;omega
theorem Ow.stp{B:Nat}{e:TypeId}(h:Ow B e k o w v xs)(s:Stp t o w o' w')(u:t≠0:=by decide)(hk:k≠t:=by decide):Ow B e k o' w' v xs:=by
 obtain⟨css,q,j,p,A⟩:=h;refine⟨css,q,⟨j.1,?_⟩,λg d=>?_,λi cs x a b=>Rp.stp (A i cs x a b) s u⟩
 ·rcases j.2 with y|⟨g,cap,m,n,C,d,r⟩
  ·exact .inl y
  ·refine .inr ⟨g,cap,m,n,C,?_,r⟩;have f:=(ct.1 d).1;rw[s.block g f (by rw[p g (by rw[n];rfl)];exact hk)];exact d
 ·rw[s.own g (j.lt g d).2];exact p g d
theorem Ow.mono{B a:Nat}{e:TypeId}(h:Ow B e k o w v xs)(d:a<=B):Ow a e k o w v xs:=by
 obtain⟨css,f,b,i,g⟩:=h;exact⟨css,f,b.mono d,i,g⟩
theorem pI(css:List (List Value))(sz:Nat)(a:∀cs∈css,cs.length=sz){i:Nat}{cs:List Value}(hi:css[i]? =some cs)(j:Nat)(e:j<sz):css.flatten[i*sz+j]? =cs[j]? :=by
 induction css generalizing i with
 |nil=>simp at hi
 | cons c css ih=>
  have d:=a c sy;cases i with
  |zero=>
   simp at hi;subst hi;simp only[br,ff,an];rw[bN om]
  |succ i=>
   simp at hi;simp only[br];rw[cj (by rw[dU];omega),show(i+1)*sz+j-c.length=i*sz+j by rw[dU];omega];exact ih (λx b=>a x (sh b)) hi
theorem Ow.lens{B:Nat}{e:TypeId}{css:List (List Value)}(f:css.length=xs.length)(b:∀(i:Nat) cs x,css[i]? =some cs->xs[i]? =some x->Rp.rd o w cs x):∀cs∈css,cs.length=Rp.sz α:=by
 intro cs a;obtain⟨i,hi⟩:=bS.1 a;have d:=(Y_.1 hi).1;exact Rp.len (b i cs _ hi (x_ om))
theorem Ow.at{a:Option Addr}{n c:Nat}{B:Nat}{e:TypeId}(h:Ow B e k o w (.slice a n c) xs){i:Nat}(hi:xs[i]? =some x):
  ∃g cs,a=some ⟨g,0,none⟩∧n=xs.length∧Cells w g (0+i*Rp.sz α) cs∧Rp.rd o w cs x∧w.frozen? ⟨g,0+i*Rp.sz α,none⟩=false:=by
 obtain⟨css,A,D,I,s⟩:=h;have C:=(Y_.1 hi).1;have b:css[i]? =some (css[i]'om):=x_ om;rcases D.2 with⟨_,K⟩|⟨g,cap,G,y,L,q,J,H,F,E⟩
 ·omega
 ·cases y
  refine⟨g,_,rfl,rfl,λj u m=>?_,s i _ x b hi,?_⟩
  ·have p:=Ow.lens (e:=e) (B:=B) A s;have f:j<Rp.sz α:=by
    have:=(Y_.1 m).1;rw[p _ (aV _)] at this;exact this
   have d:=pI css (Rp.sz α) p b j f;rw[m,<-E] at d;rw[bO] at d;split at d
   ·simp only[World.cell?,q,qT,cl,if_false];rw[an];rw[<-d];simp
   ·cases d
  ·simp[World.frozen?,q]
theorem Ow.freeze{B:Nat}{e:TypeId}(h:Ow B e k o w v xs)(y:∀b,b<w.heap.size->(o b=0∨o b=k)->o' b=0):RdL o' w v xs:=by
 obtain⟨css,E,G,J,A⟩:=h;have q:=Ow.lens (e:=e) (B:=B) E A;rcases G.2 with⟨rfl,n⟩|⟨g,cap,M,rfl,D,s,K,I,L,H⟩
 ·have:xs=[]:=cD n;subst this;exact RdL.nil _ _
 ·refine⟨_,cap,rfl,K,I,λi x C=>?_⟩;have F:=(Y_.1 C).1;have a:css[i]? =some (css[i]'om):=x_ om;have f:=(ct.1 s).1;refine⟨g,0,_,rfl,y g f (.inr (J g rfl)),f,λj u p=>?_,Rp.mv (A i _ x a C) (K_ _) λb D n=>⟨rfl,y b D (.inl n)⟩⟩;have m:j<Rp.sz α:=by
   have:=(Y_.1 p).1;rw[q _ (aV _)] at this;exact this
  have d:=pI css (Rp.sz α) q a j m;rw[p,<-H] at d;rw[bO] at d;split at d
  ·simp only[World.cell?,s,qT,cl,if_false];rw[an,<-d];simp
  ·cases d
theorem Ow.z{B:Nat}{e:TypeId}(h:Ow B e k o w v xs):RdL zt w v xs:=h.freeze λ_ _ _=>rfl
def frz(k:Nat)(o:Tg):Tg:=λb=>if o b=k then 0 else o b
theorem Ow.frz{B:Nat}{e:TypeId}(h:Ow B e k o w v xs):RdL (frz k o) w v xs:=h.freeze λb _ a=>by
 unfold Go.Proofs.YtpefhaamcihneaaGreat.frz;rcases a with a|a
 ·rw[a];split<;>rfl
 ·rw[if_pos a]
theorem RdL.frz(h:RdL o w v xs)(j:Nat):RdL (frz j o) w v xs:=h.mv (K_ _) λb _ a=>⟨rfl,by unfold Go.Proofs.YtpefhaamcihneaaGreat.frz;rw[a];split<;>rfl⟩
theorem Rp.frz(h:Rp.rd o w cs x)(j:Nat):Rp.rd (frz j o) w cs x:=Rp.mv h (K_ _) λb _ a=>⟨rfl,by unfold Go.Proofs.YtpefhaamcihneaaGreat.frz;rw[a];split<;>rfl⟩
theorem Ow.frz_ne{B:Nat}{e:TypeId}{j:Nat}(h:Ow B e k o w v xs)(q:k≠j):Ow B e k (Go.Proofs.YtpefhaamcihneaaGreat.frz j o) w v xs:=by
 obtain⟨css,f,d,n,m⟩:=h;exact⟨css,f,d,λg p=>by unfold Go.Proofs.YtpefhaamcihneaaGreat.frz;rw[n g p,if_neg q],λi cs x a b=>Rp.frz (m i cs x a b) j⟩
theorem Bs.frz{a:Tg}(h:Bs a o w0 w)(j:Nat)(e:2<=j):Bs a (Go.Proofs.YtpefhaamcihneaaGreat.frz j o) w0 w:=⟨h.keeps,λb d=>by
 unfold Go.Proofs.YtpefhaamcihneaaGreat.frz;have:=h.old b d;rw[<-this,if_neg];split at this<;>omega⟩
theorem RdL.col{a:Tg}(h:RdL a w v xs):RdL (col a) w v xs:=h.mv (K_ _) λb _ d=>⟨rfl,by unfold Go.Proofs.YtpefhaamcihneaaGreat.col;rw[if_pos d]⟩
theorem Rp.col{a:Tg}(h:Rp.rd a w cs x):Rp.rd (Go.Proofs.YtpefhaamcihneaaGreat.col a) w cs x:=Rp.mv h (K_ _) λb _ d=>⟨rfl,by unfold Go.Proofs.YtpefhaamcihneaaGreat.col;rw[if_pos d]⟩
def rt(oo o:Tg)(n k t:Nat):Tg:=λb=>if b<n then oo b else if o b=k then t else 0
theorem me{d:Tg}(h:Bs d o w0 w)(k t b:Nat)(f:2<=k)(e:o b=0):rt d o w0.heap.size k t b=0:=by
 unfold rt;split
 ·rename_i a;have:=h.old b a;split at this
  ·assumption
  ·omega
 ·rw[if_neg om]
theorem Ow.rt{d:Tg}{e:TypeId}(h:Ow w0.heap.size e k o w v xs)(m:Bs d o w0 w)(p:2<=k)(t:Nat):Ow w0.heap.size e t (Go.Proofs.YtpefhaamcihneaaGreat.rt d o w0.heap.size k t) w v xs:=by
 obtain⟨css,n,f,q,s⟩:=h;refine⟨css,n,f,λg j=>?_,λi cs x a b=>Rp.mv (s i cs x a b) (K_ _) λb _ u=>⟨rfl,me m k t b p u⟩⟩;unfold Go.Proofs.YtpefhaamcihneaaGreat.rt;rw[if_neg (by have:=(f.lt g j).1;omega),if_pos (q g j)]
theorem RdL.rt{a:Tg}(h:RdL o w v xs)(d:Bs a o w0 w)(k t:Nat)(f:2<=k):RdL (Go.Proofs.YtpefhaamcihneaaGreat.rt a o w0.heap.size k t) w v xs:=h.mv (K_ _) λb _ e=>⟨rfl,me d k t b f e⟩
theorem Rp.rt{a:Tg}(h:Rp.rd o w cs x)(d:Bs a o w0 w)(k t:Nat)(f:2<=k):Rp.rd (Go.Proofs.YtpefhaamcihneaaGreat.rt a o w0.heap.size k t) w cs x:=Rp.mv h (K_ _) λb _ e=>⟨rfl,me d k t b f e⟩
theorem S_(a o:Tg)(n k t:Nat):∀b,b<n->rt a o n k t b=a b:=λb d=>if_pos d
structure Bx (B k:Nat) (o:Tg) (w:World) (b:Nat) (e:TypeId) (cs:List Value):Prop where
  blk:w.heap[b]? =some (.cells cs.toArray e (0,0))
  tag:o b=k
  lo:B<=b
theorem Bx.stp{B b:Nat}{e:TypeId}(h:Bx B k o w b e cs)(s:Stp t o w o' w')(d:k≠t:=by decide):Bx B k o' w' b e cs:=by
 have a:=(ct.1 h.blk).1;exact⟨by rw[s.block b a (by rw[h.tag];exact d)];exact h.blk,by rw[s.own b a];exact h.tag,h.lo⟩
theorem Bx.frz_ne{B b j:Nat}{e:TypeId}(h:Bx B k o w b e cs)(a:k≠j):Bx B k (Go.Proofs.YtpefhaamcihneaaGreat.frz j o) w b e cs:=
 ⟨h.blk,by unfold Go.Proofs.YtpefhaamcihneaaGreat.frz;rw[h.tag,if_neg a],h.lo⟩
theorem Bx.cell{B b:Nat}{e:TypeId}(h:Bx B k o w b e cs){i:Nat}{u:Value}(hi:cs[i]? =some u):w.cell? ⟨b,i,none⟩=some u:=by
 simp only[World.cell?,h.blk,qT,cl,if_false];simpa using hi
theorem Bx.cells{B b:Nat}{e:TypeId}(h:Bx B k o w b e cs):Cells w b 0 cs:=λj u a=>by rw[an];exact h.cell a
theorem nY(o:Tg)(w:World)(t:Nat):Stp t o w o w.drew:=⟨rfl,rfl,rfl,K_ _,λ_ _ _=>rfl,λ_ _=>rfl⟩
end
end
section
def ck(n:Int):Option Int:=if -9223372036854775808<=n∧n<=9223372036854775807 then some n else none
theorem bl{n m:Int}(h:ck n=some m):m=n∧-9223372036854775808<=n∧n<=9223372036854775807:=by
 unfold ck at h;split at h
 ·rename_i e;cases h;exact⟨rfl,e⟩
 ·cases h
theorem n_{n:Int}(e: -9223372036854775808<=n)(f:n<=9223372036854775807):ck n=some n:=if_pos ⟨e,f⟩
def quo(a b:Int):Option Int:=if b=0 then none else ck (a.tdiv b)
def rem(a b:Int):Option Int:=if b=0 then none else some (a.tmod b)
def band(a b:Int):Int:=IntKind.i64.wrap (BitVec.ofInt 64 a&&&BitVec.ofInt 64 b).toNat
def bor(a b:Int):Int:=IntKind.i64.wrap (BitVec.ofInt 64 a|||BitVec.ofInt 64 b).toNat
def shl(a b:Int):Option Int:=if b<0 then none else some (IntKind.i64.wrap (a*2^(min b.toNat 64)))
def shr(a b:Int):Option Int:=if b<0 then none else some (a.fdiv (2^(min b.toNat 64)))
def ix{α:Type}(xs:List α)(i:Int):Option α:=if 0<=i then xs[i.toNat]? else none
theorem dR{α:Type}{xs:List α}{i:Int}{x:α}(h:ix xs i=some x):0<=i∧i<xs.length∧xs[i.toNat]? =some x:=by
 unfold ix at h;split at h
 ·rename_i e;have:=(Y_.1 h).1;exact⟨e,om,h⟩
 ·cases h
def st{α:Type}(xs:List α)(i:Int)(x:α):Option (List α):=if 0<=i∧i<xs.length then some (xs.set i.toNat x) else none
theorem wu{α:Type}{xs f:List α}{i:Int}{x:α}(h:st xs i x=some f):0<=i∧i<xs.length∧f=xs.set i.toNat x:=by
 unfold st at h;split at h
 ·rename_i e;cases h;exact⟨e.1,e.2,rfl⟩
 ·cases h
def push{α:Type}(xs:List α)(x:α):Option (List α):=if xs.length<1000000000 then some (xs++[x]) else none
theorem pJ{α:Type}{xs e:List α}{x:α}(h:push xs x=some e):xs.length<1000000000∧e=xs++[x]:=by
 unfold push at h;split at h
 ·rename_i f;cases h;exact⟨f,rfl⟩
 ·cases h
def cat{α:Type}(xs zs:List α):Option (List α):=if xs.length+zs.length<=1000000000 then some (xs++zs) else none
theorem vH{α:Type}{xs e zs:List α}(h:cat xs zs=some e):xs.length+zs.length<=1000000000∧e=xs++zs:=by
 unfold cat at h;split at h
 ·rename_i f;cases h;exact⟨f,rfl⟩
 ·cases h
def mk{α:Type}(z:α)(n:Int):Option (List α):=if 0<=n∧n<1000000000 then some (List.replicate n.toNat z) else none
theorem wI{α:Type}{z:α}{n:Int}{f:List α}(h:mk z n=some f):0<=n∧n<1000000000∧f=List.replicate n.toNat z:=by
 unfold mk at h;split at h
 ·rename_i e;cases h;exact⟨e.1,e.2,rfl⟩
 ·cases h
def cut{α:Type}(xs:List α)(a b:Int):Option (List α):=if 0<=a∧a<=b∧b<=xs.length then some ((xs.take b.toNat).drop a.toNat) else none
theorem jE{α:Type}{xs f:List α}{a b:Int}(h:cut xs a b=some f):0<=a∧a<=b∧b<=xs.length∧f=(xs.take b.toNat).drop a.toNat:=by
 unfold cut at h;split at h
 ·rename_i e;cases h;exact⟨e.1,e.2.1,e.2.2,rfl⟩
 ·cases h
theorem a_{α β:Type}{m:Option α}{f:α->Option β}{r:β}(h:(m>>=f)=some r):∃x,m=some x∧f x=some r:=by
 cases m with
 |none=>simp at h
 |some x=>exact⟨x,rfl,by simpa using h⟩
inductive Lp (σ τ ρ:Type) where
  |go (s:σ)
  |out (s:τ)
  |ret (r:ρ)
def loopF{σ τ ρ:Type}(step:σ->Option (Lp σ τ ρ)):Nat->σ->Option (τ ⊕ ρ)
  |0,_=>none
  | k+1,s=>match step s with
    |none=>none
    |some (.go s')=>loopF step k s'
    |some (.out t)=>some (.inl t)
    |some (.ret r)=>some (.inr r)
theorem BT{σ τ ρ:Type}{step:σ->Option (Lp σ τ ρ)}{k:Nat}{s:σ}{r:τ ⊕ ρ}(h:loopF step k s=some r):
  ∃k' x,k=k'+1∧step s=some x∧((∃s',x=.go s'∧loopF step k' s'=some r)∨(∃t,x=.out t∧r=.inl t)∨(∃q,x=.ret q∧r=.inr q)):=by
 cases k with
 |zero=>simp[loopF] at h
 | succ k=>
  simp only[loopF] at h;cases hx:step s with
  |none=>rw[hx] at h;cases h
  |some x=>
   rw[hx] at h;refine⟨k,x,rfl,rfl,?_⟩;cases x with
   |go s'=>exact .inl ⟨s',rfl,h⟩
   |out t=>cases h;exact .inr (.inl ⟨t,rfl,rfl⟩)
   |ret q=>cases h;exact .inr (.inr ⟨q,rfl,rfl⟩)
section
variable {P:Program} {l:List (Nat×Value)} {w:World} {d:Option Nat} {ty:TypeId} {ps:String} {af:Array Edge} {g:Option (Nat×Bool)}
theorem cq{e:BinOp}{t t':TypeId}{x y:Operand}{a b:Int}{v:Value}(hx:ev l x=some (.int .i64 a))(hy:ev l y=some (.int .i64 b))
  (i:(binOp e t (.int .i64 a) (.int .i64 b)).run P w=.ok v w):∀ρ,Agr ρ l->(execOp ρ ⟨d,.binOp e t x y t',ty,ps,af,g⟩).run P w=.ok (.value v) w:=by
 intro ρ f;have h:(eqGuard e t x y (.int .i64 a) (.int .i64 b)).run P w=.ok () w:=by
  unfold eqGuard;cases e<;>rfl
 simp only[execOp,f x _ hx,f y _ hy,aF,h,aL,i];rfl
section
variable {t t':TypeId} {x y:Operand} {a b c:Int} (hx:ev l x=some (.int .i64 a)) (hy:ev l y=some (.int .i64 b))
include hx hy
theorem u_(h:ck (a+b)=some c):∀ρ,Agr ρ l->(execOp ρ ⟨d,.binOp .add t x y t',ty,ps,af,g⟩).run P w=.ok (.value (.int .i64 c)) w:=by
 obtain⟨rfl,f,e⟩:=bl h;exact cq hx hy (by simp only[binOp,ne_eq,not_true_eq_false,if_false,Op.intArith];rw[qU _ ⟨f,e⟩];rfl)
theorem aD(h:ck (a-b)=some c):∀ρ,Agr ρ l->(execOp ρ ⟨d,.binOp .sub t x y t',ty,ps,af,g⟩).run P w=.ok (.value (.int .i64 c)) w:=by
 obtain⟨rfl,f,e⟩:=bl h;exact cq hx hy (by simp only[binOp,ne_eq,not_true_eq_false,if_false,Op.intArith];rw[qU _ ⟨f,e⟩];rfl)
theorem fe(h:ck (a*b)=some c):∀ρ,Agr ρ l->(execOp ρ ⟨d,.binOp .mul t x y t',ty,ps,af,g⟩).run P w=.ok (.value (.int .i64 c)) w:=by
 obtain⟨rfl,f,e⟩:=bl h;exact cq hx hy (by simp only[binOp,ne_eq,not_true_eq_false,if_false,Op.intArith];rw[qU _ ⟨f,e⟩];rfl)
theorem qu(h:quo a b=some c):∀ρ,Agr ρ l->(execOp ρ ⟨d,.binOp .quo t x y t',ty,ps,af,g⟩).run P w=.ok (.value (.int .i64 c)) w:=by
 unfold quo at h;split at h
 ·cases h
 ·rename_i f;obtain⟨rfl,i,e⟩:=bl h;exact cq hx hy (by simp only[binOp,ne_eq,not_true_eq_false,if_false,Op.intDiv,if_neg f];rw[qU _ ⟨i,e⟩];rfl)
theorem oG(h:rem a b=some c):∀ρ,Agr ρ l->(execOp ρ ⟨d,.binOp .rem t x y t',ty,ps,af,g⟩).run P w=.ok (.value (.int .i64 c)) w:=by
 unfold rem at h;split at h
 ·cases h
 ·rename_i e;cases h
  exact cq hx hy (by simp only[binOp,ne_eq,not_true_eq_false,if_false,Op.intDiv,if_neg e];rfl)
theorem o_:∀ρ,Agr ρ l->(execOp ρ ⟨d,.binOp .lss t x y t',ty,ps,af,g⟩).run P w=.ok (.value (.bool (decide (a<b)))) w:=cq hx hy rfl
theorem ml:∀ρ,Agr ρ l->(execOp ρ ⟨d,.binOp .leq t x y t',ty,ps,af,g⟩).run P w=.ok (.value (.bool (decide (a<=b)))) w:=cq hx hy rfl
theorem bK:∀ρ,Agr ρ l->(execOp ρ ⟨d,.binOp .gtr t x y t',ty,ps,af,g⟩).run P w=.ok (.value (.bool (decide (a>b)))) w:=cq hx hy rfl
theorem da:∀ρ,Agr ρ l->(execOp ρ ⟨d,.binOp .geq t x y t',ty,ps,af,g⟩).run P w=.ok (.value (.bool (decide (a>=b)))) w:=cq hx hy rfl
theorem bg:∀ρ,Agr ρ l->(execOp ρ ⟨d,.binOp .eql t x y t',ty,ps,af,g⟩).run P w=.ok (.value (.bool (a==b))) w:=cq hx hy rfl
theorem aP:∀ρ,Agr ρ l->(execOp ρ ⟨d,.binOp .neq t x y t',ty,ps,af,g⟩).run P w=.ok (.value (.bool (a !=b))) w:=cq hx hy rfl
theorem fc:∀ρ,Agr ρ l->(execOp ρ ⟨d,.binOp .and t x y t',ty,ps,af,g⟩).run P w=.ok (.value (.int .i64 (band a b))) w:=cq hx hy rfl
theorem qJ:∀ρ,Agr ρ l->(execOp ρ ⟨d,.binOp .or t x y t',ty,ps,af,g⟩).run P w=.ok (.value (.int .i64 (bor a b))) w:=cq hx hy rfl
theorem cS(h:shl a b=some c):∀ρ,Agr ρ l->(execOp ρ ⟨d,.binOp .shl t x y t',ty,ps,af,g⟩).run P w=.ok (.value (.int .i64 c)) w:=by
 unfold shl at h;split at h
 ·cases h
 ·rename_i e;cases h
  exact cq hx hy (by simp only[binOp,Op.shift,if_neg e];rfl)
theorem oF(h:shr a b=some c):∀ρ,Agr ρ l->(execOp ρ ⟨d,.binOp .shr t x y t',ty,ps,af,g⟩).run P w=.ok (.value (.int .i64 c)) w:=by
 unfold shr at h;split at h
 ·cases h
 ·rename_i e;cases h
  exact cq hx hy (by simp only[binOp,Op.shift,if_neg e];rfl)
end
theorem qw{x:Operand}{t:TypeId}{a:Option Addr}{n c:Nat}{e:TypeId}(hx:ev l x=some (.slice a n c))(f:P.underlying t=some (.slice e)):
  ∀ρ,Agr ρ l->(execOp ρ ⟨d,.call {callee:=.builtin .len,args:= #[x],argTypes:= #[t]},ty,ps,af,g⟩).run P w=.ok (.value (.int .i64 n)) w:=by
 intro ρ h;have:=run_len_slice (P:=P) (w:=w) t ty a n c (by rw[f];simp[Program.elem,f]);simp only[execOp,resolve,invoke,builtin,aF,bt,aL,et,bd,eu,h x _ hx,this];rfl
theorem jv{x y:Operand}{t e:TypeId}{b off n c sz:Nat}{i:Int}(hx:ev l x=some (.slice (some ⟨b,off,none⟩) n c))(hy:ev l y=some (.int .i64 i))
  (q:0<=i) (m:i<n) (k:P.underlying t=some (.slice e)) (o:∀w,(sizeOf e).run P w=.ok sz w):
  ∀ρ,Agr ρ l->(execOp ρ ⟨d,.indexAddr t x y,ty,ps,af,g⟩).run P w=.ok (.value (.pointer (some ⟨b,off+i.toNat*sz,none⟩))) w:=by
 intro ρ f;have j:P.elem t=e:=by simp[Program.elem,k]
 have:=run_indexAt_slice (P:=P) (w:=w) t ⟨b,off,none⟩ n c .i64 i (by rw[j];exact k);rw[if_pos ⟨q,m⟩,j,o] at this;have p:(⟨b,off,none⟩:Addr).add (i.toNat*sz)=⟨b,off+i.toNat*sz,none⟩:=by
  unfold Addr.add;split
  ·rename_i h;rw[h];rfl
  ·rfl
 simp only[execOp,f x _ hx,f y _ hy,aF,this,aL,p];rfl
theorem s_{x:Operand}{s:TypeId}{f:Nat}{j:Array Field}{e:Field}{b off k:Nat}(hx:ev l x=some (.pointer (some ⟨b,off,none⟩)))(o:P.underlying s=some (.struct j))(m:j[f]? =some e)
  (p:∀w,(sizeOf e.type).run P w=.ok (k+1) w):
  ∀ρ,Agr ρ l->(execOp ρ ⟨d,.fieldAddr s x f,ty,ps,af,g⟩).run P w=.ok (.value (.pointer (some ⟨b,off+e.offset,none⟩))) w:=by
 intro ρ n;have q:(⟨b,off,none⟩:Addr).add e.offset=⟨b,off+e.offset,none⟩:=by
  unfold Addr.add;split
  ·rename_i h;rw[h];rfl
  ·rfl
 have i:(underlying s).run P w=.ok (.struct j) w:=by simp[underlying,o]
 simp only[execOp,n x _ hx,Instr.fieldAt,Instr.sureAddr,aF,i,aL,m,bt,fieldPlace,p,Nat.add_eq_zero_iff,Nat.one_ne_zero,and_false,if_false,q]
theorem e_{x:Operand}{t:TypeId}{f:Addr}{u:Value}(hx:ev l x=some (.pointer (some f)))(e:∀w,(isAgg t).run P w=.ok false w)(i:w.cell? f=some u):
  ∀ρ,Agr ρ l->(execOp ρ ⟨d,.load t x,ty,ps,af,g⟩).run P w=.ok (.value u) w:=by
 intro ρ h;have:(load f).run P w=.ok u w:=by simp[load,Sem.run,i]
 simp only[execOp,h x _ hx,Instr.loadAt,Instr.sureAddr,aF,bt,aL,loadVar,e,cl,if_false,this]
theorem pd{b off:Nat}:∀(cs:List Value)(i:Nat)(e:Array Value),Cells w b (off+i) cs->(loadCellsFrom ⟨b,off,none⟩ i cs.length e).run P w=.ok (e++cs.toArray) w
 |[],i,e,_=>by simp[loadCellsFrom]
 | c::cs,i,e,h=>by
  have k:w.cell? ⟨b,off+i,none⟩=some c:=by simpa using h 0 c rfl
  have n:(⟨b,off,none⟩:Addr).add i=⟨b,off+i,none⟩:=by
   unfold Addr.add;split
   ·rename_i h;rw[h];rfl
   ·rfl
  have f:(load ((⟨b,off,none⟩:Addr).add i)).run P w=.ok c w:=by rw[n];simp[load,Sem.run,k]
  have ih:=pd cs (i+1) (e.push c) (λj v m=>by have:=h (j+1) v (su m);rw[show off+(i+1)+j=off+i+(j+1) by omega];exact this);simp only[ao,loadCellsFrom,aF,f,aL,ih];simp
theorem F_{x:Operand}{t:TypeId}{b off k:Nat}{cs:List Value}(hx:ev l x=some (.pointer (some ⟨b,off,none⟩)))(e:∀w,(isAgg t).run P w=.ok true w)(i:∀w,(sizeOf t).run P w=.ok k w)
  (j:cs.length=k) (h:Cells w b off cs):
  ∀ρ,Agr ρ l->(execOp ρ ⟨d,.load t x,ty,ps,af,g⟩).run P w=.ok (.value (.agg cs.toArray)) w:=by
 intro ρ f;subst j;have:(loadCells ⟨b,off,none⟩ cs.length).run P w=.ok cs.toArray w:=by
  have:=pd (P:=P) (w:=w) (b:=b) (off:=off) cs 0 #[] (su h);simpa [loadCells] using this
 simp only[execOp,f x _ hx,Instr.loadAt,Instr.sureAddr,aF,bt,aL,loadVar,e,if_true,i,this]
theorem Fh{x:Operand}{t:TypeId}{v:Value}(hx:ev l x=some v):
  ∀ρ,Agr ρ l->(execOp ρ ⟨d,.box t x,ty,ps,af,g⟩).run P w=.ok (.value (.pointer (some ⟨w.heap.size,0,none⟩))) (w.alloc (.cells v.cells t)):=by
 intro ρ e;simp only[execOp,e x _ hx,Instr.box,newVar,newRow,newObj,aF,bt,aL];rfl
theorem DK{t:TypeId}{z:Value}(e:∀w,(zeroValue t).run P w=.ok z w):
  ∀ρ,Agr ρ l->(execOp ρ ⟨d,.alloc t,ty,ps,af,g⟩).run P w=.ok (.value (.pointer (some ⟨w.heap.size,0,none⟩))) (w.alloc (.cells z.cells t)):=by
 intro ρ f;simp only[execOp,Instr.alloc,newVar,newRow,newObj,aF,bt,aL,e];rfl
end
end
end Go.Proofs.YtpefhaamcihneaaGreat
