/- Part 32 of what this claim rests on (pack.py). -/
import Derived.StillTailTactics
import Derived.Deep.RegionLaw
import Derived.Test.YtpefhaamcihneaaGreatP23
namespace Go.Proofs.YtpefhaamcihneaaGreat
open Tryz renaming prog→Gz, underlying51→GA
set_option linter.unusedSimpArgs false
set_option linter.unusedVariables false
open Go.RowKit
def zx(oo:Tg)(t:Nat)(w:World)(r:c_):Ending->World->Prop:=λe w'=>∃(v0:List Value)(o':Tg),e=.returned (.agg v0.toArray)∧Rp.rd o' w' v0 r∧Dz 51 3 o' w' (v0.getD 2 undef) r.Nodes∧Dz 51 3 o' w' (v0.getD 3 undef) r.Edges∧Keeps w w'∧∀b,b<w.heap.size->o' b=oo b
theorem zv(w:World)(f:Tg)(t:Nat)(i:2<=t)(d:List Value)(a:c_)(h:Rp.rd zt w d a)(r:c_)(m:eJ a=some r):
  Calls Gz 46 #[.agg d.toArray] w (zx f t w r):=by
 refine (rY w f t i d a h r m).mono ?_;rintro e w' ⟨b,g,rfl,j,n,k,o⟩;obtain⟨_,_,_,_,_,q,p⟩:=(n:D2 51 3 g w' (b.getD 2 undef) (b.getD 3 undef) r.Nodes r.Edges);exact⟨b,g,rfl,j,q.dz,p.dz,k,o⟩
section
open Go.RowKit Go.Shelf
theorem uz{B g c n d dLen dCap sLen sCap:Nat}{w:World}{l xs:List Int}{u:Addr}{ty:TypeId}(h:Own B w (.slice (some ⟨g,0,none⟩) n c) l)(E:l.length=n)(M:∀j(f:j<xs.length),w.cell? (u.add j)=some (.int .i64 xs[j]))
  (K:xs.length=Nat.min sLen dLen) (F:d+xs.length<=n):
  ∃w',(Builtin.copy_ #[51,51] ty #[.slice (some ⟨g,d,none⟩) dLen dCap,.slice (some u) sLen sCap]).run Gz w=.ok (.int .i64 (xs.length:Int)) w'∧
   Own B w' (.slice (some ⟨g,0,none⟩) n c) (l.take d++xs++l.drop (d+xs.length))∧w.grownBy w' (some g):=by
 obtain⟨Q,hi,H,t,G⟩:=info_parts nT;rcases h.2 with⟨o,_⟩|⟨O,cap,a,o,N,y,J,q,s,i⟩
 ·simp at o
 simp only[Value.slice.injEq,Option.some.injEq,Addr.mk.injEq,and_true,true_and] at o;obtain⟨rfl,-,rfl⟩:=o;rw[E,cm] at i;have b:n<=a.toList.length:=by rw[rk,s];omega
 have A:=run_copy_row (P:=Gz) w 51 51 ty 3 g d dLen dCap u sLen sCap a 3 (xs.map (Value.int .i64)) GA (by rw[hi];simp[t]) y (su K)
  (λj v f=>by
   rw[aZ,jQ] at f;obtain⟨x,f,rfl⟩:=f;obtain⟨p,e⟩:=Y_.1 f;rw[M j p,e]) (by rw[rk] at b;simp;omega) (by simp[Value.oneCell'])
 rw[aA] at A;refine⟨_,A,⟨sy,.inr ⟨g,c,_,by rw[show(l.take d++xs++l.drop (d+xs.length)).length=n by simp;omega],N,setRow_heap w g a _ 3 (0,0) y,by simp;omega,q,?_,?_⟩⟩,⟨rfl,rfl,rfl,sy,λk _ I=>setRow_other w g k _ λe=>I (by rw[e])⟩⟩
 ·rw[rk] at b;simp;omega
 ·have D:a.toList.take d=(a.toList.take n).take d:=by rw[fZ,eq om]
  have L:(a.toList.drop (d+xs.length)).take (n-(d+xs.length))=(a.toList.take n).drop (d+xs.length):=List.drop_take.symm;have m:(l.take d++xs++l.drop (d+xs.length)).length=n:=by simp;omega
  have C:(a.toList.take d++xs.map (Value.int .i64)).length=d+xs.length:=by simp;rw[rk] at b;omega
  rw[m,cm,xY,C,cu (by rw[C];exact F),D,L,i];simp[List.map_take,List.map_drop]
theorem CD{ops:Array Oper}{o:Oper}{a:Act}{Q:Exit->Act->World->Prop}{E:Prop}{K:Act->World->Prop}{w w':World}{u v r:Value}{x y:Operand}
  {ty:TypeId} (f:(Builtin.copy_ #[51,51] ty #[u,v]).run Gz w=.ok r w') (b:o.type=ty) (d:o.guard=none)
  (g:o.op=.call {callee:=.builtin .copy,args:= #[x,y],argTypes:= #[51,51]}) (hx:a.eval x=u) (hy:a.eval y=v)
  (h:K (a.put o.dst r) w'):if Region.wanted o (yielded ops a.tmps)=true then Oper.wp Gz o a w K Q else E:=by
 have e:Region.wanted o (yielded ops a.tmps)=true:=by simp[Region.wanted,d]
 rw[if_pos e];unfold Oper.wp execOp;simp only[g,resolve,invoke,builtin,aF,bt,aL,et,bd,eu,hx,hy,b,f];exact h
theorem Cs(c:Int)(m n:Nat)(h:m<=n)(q:Nat)(b:q<=m)(a:m+q<=n):(List.replicate m c++List.replicate (n-m) (0:Int)).take m++List.replicate q c++(List.replicate m c++List.replicate (n-m) (0:Int)).drop (m+q)=List.replicate (m+q) c++List.replicate (n-(m+q)) 0:=by
 rw[xY,List.drop_append];simp only[cd,fh,bk,bm,List.take_replicate,ya,List.drop_replicate,Nat.zero_min,mA];rw[show m-(m+q)=0 by omega,show n-m-(m+q-m)=n-(m+q) by omega,mA,bz,List.replicate_append_replicate]
theorem DT{w:World}{v:Value}{l:List Int}(h:RdL zt w v l):Ints w v l:=by
 obtain⟨a,c,rfl,k,n,g⟩:=h;refine⟨a,c,sy,by simpa using k,n,?_⟩;cases l with
 |nil=>exact .inl rfl
 |cons x l=>
  obtain⟨b,o,cs,rfl,_⟩:=g 0 x rfl;refine .inr ⟨b,o,rfl,λi y j=>?_⟩;rw[aZ,jQ] at j;obtain⟨z,p,rfl⟩:=j;obtain⟨s,q,d,e,_,_,m,f⟩:=g i z p;simp only[Option.some.injEq,Addr.mk.injEq,and_true] at e;obtain⟨rfl,rfl⟩:=e;have f:d=[.int .i64 z]:=f;subst f;have:=G_ m;rw[show o+i*Rp.sz Int=o+i from by show o+i*1=o+i;omega] at this;exact this
def repO(xs:List Int)(n:Int):Option (List Int):=match xs with
  |[c]=>if 0<=n∧n<=1000000 then some (List.replicate n.toNat c) else none
  |_=>none
theorem CC{xs:List Int}{n:Int}{r:List Int}(h:repO xs n=some r):∃(c:Int)(m:Nat),xs=[c]∧n=m∧m<=1000000∧r=List.replicate m c:=by
 unfold repO at h;split at h
 ·rename_i c;split at h
  ·rename_i a;cases h
   exact⟨c,n.toNat,rfl,om,om,rfl⟩
  ·cases h
 ·cases h
set_option maxRecDepth 100000 in
set_option maxHeartbeats 1600000 in
theorem Bi(v:Value)(c:Int)(n:Nat)(w:World)(h:Ints w v [c])(hn:n<=1000000):
  Calls Gz 113 #[v,.int .i64 n] w λe w'=>∃r,e=.returned r∧Own w.heap.size w' r (List.replicate n c)∧Keeps w w':=by
 obtain⟨a,cp,rfl,hm,hf⟩:=h.form;have hneg:¬((n:Int)<0):=om;have HM:=p_ (Any.bits_Mul Tryz.laysMul 1 n dc om);obtain⟨b,o,rfl,hc⟩:=hf 0 sy;have HC:=p_ hc;clear hf h hc;obtain⟨i0,hi,hz0,hz1,hz2⟩:=info_parts nT;have HI:=p_ hi;have HZ0:=p_ hz0;have HZ1:=p_ hz1;have HZ2:=p_ hz2;clear hi hz0 hz1 hz2;go_enter Tryz.func113,Tryz.ntmps113;go_wp2_with fail;refine (HM.out _).mono ?_;rintro e w1 ⟨rfl,hw⟩;rw[hw,show(1*n/18446744073709551616:Nat)=0 by omega,show(1*n%18446744073709551616:Nat)=n by omega];clear hw;go_wp2_with (at_make;refine wpList_make_full _ rfl _ _ 51 rfl w.heap.size 3 i0 (.int .i64 0) 1 GA HI.out HZ0.out HZ1.out .i64 .i64 _ _ n rfl rfl rfl rfl (by rw[HZ2.out];omega) (by unfold maxLen;omega) (K_ _) ?_;intro w2 hown hgr);have hown1:Own w.heap.size w2 (.slice (some ⟨w.heap.size,0,none⟩) n n) (List.replicate n 0):=by rw[sj] at hown;unfold Own;simpa using hown
 have H2:Hid (Keeps w w2):=(oJ _ _).grown hgr (K_ _) sy;clear hown hgr HI HZ0 HZ1 HZ2;by_cases h0:n=0
 ·subst h0;obtain⟨i1,hi1,_,hs1,_⟩:=info_parts nT;have hr:=run_copy_none (P:=Gz) w2 51 51 3 3 (some ⟨w.heap.size,0,none⟩) (some ⟨b,o,none⟩) 0 0 1 cp GA (by rw[hi1];simp[hs1]) sy;have H1:=p_ hown1;clear hown1;rw[hr];go_wp2;go_loopw [8] (λt wr=>t=.int .i64 0∧wr=w2) (λ_ _=>0);case atStart=>exact⟨rfl,rfl⟩
  case round=>
   obtain⟨rfl,rfl⟩:=hrel;go_wp2;go_ret;exact⟨_,rfl,H1.out,H2.out⟩
 ·have hx:∀j(hj:j< [c].length),w2.cell? ((⟨b,o,none⟩:Addr).add j)=some (.int .i64 [c][j]):=λj hj=>by
   have:j=0:=by simpa using hj
   subst this;rw[Go.WideShapes.add_plain];exact l_ H2.out HC.out
  obtain⟨w3,hr,ho3,hg3⟩:=uz (d:=0) (dLen:=n) (dCap:=n) (sLen:=1) (sCap:=cp) (ty:=3) hown1 sy hx (by show 1=min 1 n;omega) (by simp;omega);have e1:(List.replicate n (0:Int)).take 0++[c]++(List.replicate n (0:Int)).drop (0+[c].length)=List.replicate 1 c++List.replicate (n-1) 0:=sy;rw[e1] at ho3;have H3:=p_ ho3;have H4:Hid (Keeps w w3):=Below.grown H2.out hg3 H2.out.size sy;clear hown1 hx ho3 hg3;rw[hr];go_wp2;go_loopw [8] (λt wr=>∃m:Nat,1<=m∧m<=n∧t=.int .i64 m∧Own w.heap.size wr (.slice (some ⟨w.heap.size,0,none⟩) n n) (List.replicate m c++List.replicate (n-m) 0)∧Keeps w wr) (λt _=>n-(intOf t).toNat);case atStart=>exact⟨1,K_ _,om,rfl,H3.out,H4.out⟩
  case round=>
   obtain⟨m,hm1,hmn,rfl,hO,hK⟩:=hrel;have HO:=p_ hO;have HK:=p_ hK;clear hO hK H3 H4;by_cases hlt:m<n
   ·go_wp2;have HOd:=p_ (HO.out.keep (Keeps.refl wr).drew);have HKd:=p_ (Keeps.drew HK.out);have HE:=p_ (rfl:wr.drew=wr.drew);have hq1:Nat.min m (n-m)<=m:=Nat.min_le_left _ _;have hq2:Nat.min m (n-m)<=n-m:=Nat.min_le_right _ _;have hq3:1<=Nat.min m (n-m):=by show 1<=min m (n-m);omega
    have hx:∀j(hj:j<(List.replicate (Nat.min m (n-m)) c).length),wr.drew.cell? ((⟨w.heap.size,0,none⟩:Addr).add j)=some (.int .i64 (List.replicate (Nat.min m (n-m)) c)[j]):=λj hj=>by
     rw[cd] at hj;rw[Go.WideShapes.add_plain,an];have hln:(List.replicate m c++List.replicate (n-m) 0).length=n:=by simp;omega
     have h0:wr.drew.ownsRow w.heap.size 3 1 (.slice (some ⟨w.heap.size,0,none⟩) n n) n ((List.replicate m c++List.replicate (n-m) 0).map (Value.int .i64)):=by
      have h1:=HOd.out;unfold Own at h1;rw[hln] at h1;exact h1
     have h1:=h0.cellAt j om;rw[h1,aZ,bN (by simp;omega)];simp only[List.map_replicate,gh,cn,List.getElem_replicate];rw[if_pos om];rfl
    obtain⟨w6,hr,ho6,hg6⟩:=uz (d:=m) (dLen:=n-m) (dCap:=n-m) (sLen:=m) (sCap:=n) (ty:=3) HOd.out (by simp;omega) hx sy (by rw[cd];omega);rw[cd] at hr ho6;rw[Cs c m n hmn _ hq1 om] at ho6;have HO6:=p_ ho6;have HK6:Hid (Keeps w w6):=Below.grown HKd.out hg6 HKd.out.size sy;clear hx ho6 hg6;generalize Nat.min m (n-m)=q at hr HO6 hq1 hq2 hq3;have hnm:¬n=m:=om;go_region_law (refine CD (ty:=3) ?_ (by rfl) (by rfl) (by rfl) (by rfl) (by rfl) ?_;exact hr)
    all_goals
     go_wp2_with fail;have hmq:m+q<=n:=om;have hw:IntKind.i64.wrap ((m:Int)+(q:Int))=((m+q:Nat):Int):=by rw[xV];omega
     exact⟨⟨m+q,om,hmq,by rw[hw],HO6.out,HK6.out⟩,by rw[hw];simp only[intOf,U_];omega⟩
   ·go_wp2;go_ret;have he:m=n:=om;subst he;have:=HO.out;rw[fh,mA,bm] at this;exact⟨_,rfl,this,HK.out⟩
theorem Cc{w w':World}{v:Value}{xs:List Int}(d:Tg)(t:Nat)(h:w'.ownsRow w.heap.size 3 1 v xs.length (xs.map (Value.int .i64)))(a:Below w.heap.size w w'):
  ∃e:Tg,Ow w.heap.size 3 t e w' v xs∧Keeps w w'∧∀b,b<w.heap.size->e b=d b:=by
 refine⟨λb=>if b<w.heap.size then d b else t,oz (λg f=>if_neg ?_) h,?_,λb a=>if_pos a⟩
 ·have:=(World.ownsRow.lt h g f).1;omega
 ·exact a
def EJ(oo:Tg)(t:Nat)(w:World)(r:List Int):Ending->World->Prop:=λe w'=>∃(v0:Value)(o':Tg),e=.returned v0∧Ow w.heap.size 3 t o' w' v0 r∧Keeps w w'∧∀b,b<w.heap.size->o' b=oo b
theorem Ck(w:World)(a:Tg)(t:Nat)(u:Value)(xs:List Int)(g:RdL zt w u xs)(n:Int)(r:List Int)(k:repO xs n=some r):
  Calls Gz 113 #[u,.int .i64 n] w (EJ a t w r):=by
 obtain⟨c,m,rfl,rfl,i,rfl⟩:=CC k;refine (Bi u c m w (DT g) i).mono ?_;rintro e w' ⟨v,rfl,o,h⟩;obtain⟨f,b,d,j⟩:=Cc a t o h;exact⟨v,f,rfl,b,d,j⟩
end
end Go.Proofs.YtpefhaamcihneaaGreat
