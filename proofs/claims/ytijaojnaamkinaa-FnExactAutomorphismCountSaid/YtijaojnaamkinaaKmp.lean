/- Maps of integers to integers that are one's own. -/
import Derived.Test.YtijaojnaamkinaaKg
import Derived.Maps.Own
import Derived.Maps.OwnSet
namespace Go.Proofs.Ytijaojnaamkinaa
open Go.RowKit
set_option linter.unusedSimpArgs false
set_option linter.unusedVariables false

/-- What the list of the stores, the last one first, holds at a key. -/
def mlook (m : List (Int × Int)) (x : Int) : Option Int := m.lookup x
def mput (m : List (Int × Int)) (x y : Int) : Option (List (Int × Int)) :=
  if m.length < 1000000000 ∧ (-9223372036854775808 ≤ x ∧ x ≤ 9223372036854775807) ∧ (-9223372036854775808 ≤ y ∧ y ≤ 9223372036854775807) then some ((x, y) :: m) else none
theorem mput_some {m ys : List (Int × Int)} {x y : Int} (h : mput m x y = some ys) : m.length < 1000000000 ∧ (-9223372036854775808 ≤ x ∧ x ≤ 9223372036854775807) ∧ (-9223372036854775808 ≤ y ∧ y ≤ 9223372036854775807) ∧ ys = (x, y) :: m := by
  unfold mput at h
  split at h
  · rename_i hh; cases h; exact ⟨hh.1, hh.2.1, hh.2.2, rfl⟩
  · cases h
def mgo (m : List (Int × Int)) (x : Int) : Option (Int × Bool) := if -9223372036854775808 ≤ x ∧ x ≤ 9223372036854775807 then some ((mlook m x).getD 0, (mlook m x).isSome) else none
theorem wfI {x : Int} (h : -9223372036854775808 ≤ x ∧ x ≤ 9223372036854775807) : (Lit.int .i64 x).wf = true := by
  have h1 : IntKind.i64.min = -9223372036854775808 := by decide
  have h2 : IntKind.i64.max = 9223372036854775807 := by decide
  simp only [Lit.wf, h1, h2, Bool.and_eq_true, decide_eq_true_eq]; exact h
/-- v is a map of one's own. -/
def Mo (B k : Nat) (o : Tg) (w : World) (v : Value) (m : List (Int × Int)) : Prop :=
  ∃ b, ∃ D : DataW Unit, v = .map (some b) ∧ B ≤ b ∧ o b = k ∧ w.ownsMap Try.prog 3 (plainElem Try.prog 3) b m.length D ∧ Maps.IsMap D ∧
    ∀ x : Int, (∀ y, mlook m x = some y → Maps.has D (.int .i64 x) = true ∧ ∀ z, D.atKey (.int .i64 x) z = .lit (.int .i64 y)) ∧ (mlook m x = none → Maps.has D (.int .i64 x) = false)
section
variable {B k t : Nat} {o o' : Tg} {w w' : World} {v : Value} {m : List (Int × Int)}
theorem ownsMap_same {P : Program} {kt : TypeId} {R : Value → Option (DataW Unit × List MemPlace)} {b n : Nat} {D : DataW Unit} (h : w.ownsMap P kt R b n D) (e : w'.heap[b]? = w.heap[b]?) : w'.ownsMap P kt R b n D := by
  obtain ⟨es, clock, hb, h1⟩ := h
  exact ⟨es, clock, e.trans hb, h1⟩
theorem Mo.stp (h : Mo B k o w v m) (s : Stp t o w o' w') (ht : t ≠ 0) (hk : k ≠ t) : Mo B k o' w' v m := by
  obtain ⟨b, D, e, hB, ho, hm, hi, hx⟩ := h
  have hlt := hm.lt
  exact ⟨b, D, e, hB, by rw [s.own b hlt, ho], ownsMap_same hm (s.block b hlt (by rw [ho]; exact hk)), hi, hx⟩
theorem Mo.rc (h : Mo B k o w v m) (r : Rtc t o o') (ht : t ≠ 0) (hk : k ≠ t) : Mo B k o' w v m := by
  obtain ⟨b, D, e, hB, ho, h1⟩ := h
  exact ⟨b, D, e, hB, by rw [r b (by rw [ho]; exact hk), ho], h1⟩
theorem Mo.frz_ne {j : Nat} (h : Mo B k o w v m) (hj : k ≠ j) : Mo B k (Go.Proofs.Ytijaojnaamkinaa.frz j o) w v m := by
  obtain ⟨b, D, e, hB, ho, h1⟩ := h
  exact ⟨b, D, e, hB, by unfold Go.Proofs.Ytijaojnaamkinaa.frz; rw [if_neg (by rw [ho]; exact hj), ho], h1⟩
theorem Mo.rtg (h : Mo B k o w v m) (k' : Nat) (hk : k ≠ 0) : Mo B k' (Go.Proofs.Ytijaojnaamkinaa.rtg k k' o) w v m := by
  obtain ⟨b, D, e, hB, ho, h1⟩ := h
  exact ⟨b, D, e, hB, by unfold Go.Proofs.Ytijaojnaamkinaa.rtg; rw [if_pos ho], h1⟩
theorem Mo.rtg_ne {j k k' : Nat} (h : Mo B j o w v m) (h1 : j ≠ k) (h2 : j ≠ k') (hk : k ≠ 0) : Mo B j (Go.Proofs.Ytijaojnaamkinaa.rtg k k' o) w v m := by
  obtain ⟨b, D, e, hB, ho, h3⟩ := h
  exact ⟨b, D, e, hB, by unfold Go.Proofs.Ytijaojnaamkinaa.rtg; rw [if_neg (by rw [ho]; exact h1), if_neg (by rw [ho]; exact h2), ho], h3⟩
theorem Mo.mono {B' : Nat} (h : Mo B k o w v m) (hB' : B' ≤ B) : Mo B' k o w v m := by
  obtain ⟨b, D, e, hB, h1⟩ := h
  exact ⟨b, D, e, Nat.le_trans hB' hB, h1⟩
theorem int_law : Maps.Keyed Try.prog 3 := Maps.int_keyed Try.underlying3
end
section
variable {n : Nat} {l : List (Nat × Value)} {w : World} {d : Nat} {ty : TypeId} {ps : String} {af : Array Edge} {g : Option (Nat × Bool)} {R : Value → World → Prop} {o : Tg}
theorem wf_makeMap {t : TypeId} (B k : Nat) (hB : B ≤ w.heap.size) (h : ∀ o' w' v', Mo B k o' w' v' [] → Stp k o w o' w' → R v' w') : op1 Try.prog ⟨some d, .makeMap t none, ty, ps, af, g⟩ n l w R := by
  refine op1_val (v := .map (some w.heap.size)) (w' := w.alloc (.map #[] 0)) (fun ρ hρ => ?_) (h (ext o w.heap.size k) _ _ ⟨w.heap.size, .map [], rfl, hB, ext_new _ _ _ _ (Nat.le_refl _), World.ownsMap_made w _ _ _, Maps.isMap_empty, fun x => ⟨fun y hy => (by cases hy), fun _ => rfl⟩⟩ (stp_new _ _ _ _ _))
  simp only [execOp, Instr.makeMap, newObj, Sem.run_bind, Sem.run_pure, Result.andThen_ok]
  rfl
theorem put_run {t : TypeId} {B k : Nat} {x y z : Operand} {v : Value} {m ys : List (Int × Int)} {a b : Int} (hown : Mo B k o w v m) (hp : mput m a b = some ys) (ht : Try.prog.underlying t = some (.map 3 3)) :
    ∃ w', (Instr.mapUpdate t v (.int .i64 a) (.int .i64 b)).run Try.prog w = .ok () w' ∧ Mo B k o w' v ys ∧ Stp k o w o w' := by
  obtain ⟨h1, h2, h3, rfl⟩ := mput_some hp
  obtain ⟨bl, D, rfl, hB, ho, hm, hi, hx⟩ := hown
  have hlt := hm.lt
  obtain ⟨w', hr, hm', hg⟩ := hm.update int_law ht (by simp only [maxLen]; omega) (Maps.keyOf_int_mk Try.underlying3 (wfI h2)) (plainElem_int Try.underlying3 (wfI h3))
  have hkl : WideAt.IsKeyLit (.int .i64 a) := trivial
  refine ⟨w', hr, ⟨bl, _, rfl, hB, ho, hm', hi.put _ _, fun q => ?_⟩, ⟨hg.os, hg.tape, hg.output, hg.size, fun c hc hn => hg.block c hc fun e => hn (by cases e; exact ho), fun _ _ => rfl⟩⟩
  by_cases e : q = a
  · subst e
    refine ⟨fun y hy => ?_, fun hn => ?_⟩
    · have : b = y := by simpa [mlook] using hy
      subst this
      exact ⟨Maps.has_put_same hi hkl _, fun z => Maps.atKey_put_same hi hkl _ z⟩
    · simp [mlook] at hn
  · have hne : (Lit.int .i64 q) ≠ .int .i64 a := fun h => e (by cases h; rfl)
    have hl : mlook ((a, b) :: m) q = mlook m q := by
      have : (q == a) = false := by simpa using e
      simp [mlook, List.lookup_cons, this]
    rw [hl]
    exact ⟨fun y hy => ⟨by rw [Maps.has_put_other hne]; exact ((hx q).1 y hy).1, fun z => by rw [Maps.atKey_put_other hne]; exact ((hx q).1 y hy).2 z⟩, fun hn => by rw [Maps.has_put_other hne]; exact (hx q).2 hn⟩
set_option maxRecDepth 100000 in
theorem wf_mapPut {t : TypeId} {B k : Nat} {x y z : Operand} {v : Value} {m ys : List (Int × Int)} {a b : Int} (hown : Mo B k o w v m) (hp : mput m a b = some ys) (hx : ev l x = some v) (hy : ev l y = some (.int .i64 a)) (hz : ev l z = some (.int .i64 b)) (ht : Try.prog.underlying t = some (.map 3 3))
    (h : ∀ w', Mo B k o w' v ys → Stp k o w o w' → R undef w') : op1 Try.prog ⟨none, .mapUpdate t x y z, ty, ps, af, g⟩ n l w R := by
  obtain ⟨w', hr, h1, h2⟩ := put_run (x := x) (y := y) (z := z) hown hp ht
  refine op1_act (fun ρ hρ => ?_) (h w' h1 h2)
  simp only [execOp, hρ x _ hx, hρ y _ hy, hρ z _ hz, Sem.run_bind, hr]
  rfl
set_option maxRecDepth 100000 in
theorem wf_mapIns {t : TypeId} {B k : Nat} {x y z : Operand} {v : Value} {m ys : List (Int × Int)} {a b : Int} (hown : Mo B k o w v m) (hp : mput m a b = some ys) (hx : ev l x = some v) (hy : ev l y = some (.int .i64 a)) (hz : ev l z = some (.int .i64 b)) (ht : Try.prog.underlying t = some (.map 3 3))
    (h : ∀ w', Mo B k o w' v ys → Stp k o w o w' → R undef w') : op1 Try.prog ⟨none, .insert t x y z, ty, ps, af, g⟩ n l w R := by
  obtain ⟨w', hr, h1, h2⟩ := put_run (x := x) (y := y) (z := z) hown hp ht
  refine op1_act (fun ρ hρ => ?_) (h w' h1 h2)
  simp only [execOp, hρ x _ hx, hρ y _ hy, hρ z _ hz, Sem.run_bind, hr]
  rfl
theorem look_val {B k : Nat} {v : Value} {m : List (Int × Int)} {a : Int} {r : Int × Bool} {t : TypeId} (hown : Mo B k o w v m) (hg : mgo m a = some r) (ht : Try.prog.underlying t = some (.map 3 3)) (ok : Bool) :
    (Instr.lookup t v (.int .i64 a) ok).run Try.prog w = .ok (if ok then .tuple #[.int .i64 r.1, .bool r.2] else .int .i64 r.1) w := by
  unfold mgo at hg
  split at hg
  · rename_i hr
    cases hg
    obtain ⟨bl, D, rfl, hB, ho, hm, hi, hx⟩ := hown
    have hz : (zeroValue 3).run Try.prog w = .ok (.int .i64 0) w := Try.zeroValue3 w
    have hw0 : (Lit.int .i64 0).wf = true := by decide
    have hkey := Maps.keyOf_int_mk (P := Try.prog) Try.underlying3 (wfI hr)
    have val : ∀ {u : Value} {p : List MemPlace}, plainElem (H := Unit) Try.prog 3 u = some (D.atKey (.int .i64 a) (.lit (.int .i64 0)), p) → u = .int .i64 ((mlook m a).getD 0) := fun {u p} hu => by
      obtain ⟨c, rfl, hc, _⟩ := plainElem_int_inv Try.underlying3 hu
      simp only [Prod.mk.injEq] at hc
      cases hl : mlook m a with
      | none =>
        rw [Maps.atKey_of_not_has ((hx a).2 hl)] at hc
        have := hc.1
        cases this; rfl
      | some y =>
        rw [((hx a).1 y hl).2] at hc
        have := hc.1
        cases this; rfl
    cases ok
    · obtain ⟨u, p, h1, h2⟩ := hm.lookup int_law ht hz (plainElem_int Try.underlying3 hw0) hkey
      rw [h1, val h2]; rfl
    · obtain ⟨u, p, h1, h2⟩ := hm.look_ok int_law ht hz (plainElem_int Try.underlying3 hw0) hkey
      have hh : Maps.has D (.int .i64 a) = (mlook m a).isSome := by
        cases hl : mlook m a with
        | none => rw [(hx a).2 hl]; rfl
        | some y => rw [((hx a).1 y hl).1]; rfl
      rw [h1, val h2, hh]; rfl
  · cases hg
theorem ex_lookOk {B k : Nat} {v : Value} {m : List (Int × Int)} {a : Int} {r : Int × Bool} {t : TypeId} {x y : Operand} {d : Option Nat} (hown : Mo B k o w v m) (hg : mgo m a = some r) (hx : ev l x = some v) (hy : ev l y = some (.int .i64 a)) (ht : Try.prog.underlying t = some (.map 3 3)) :
    ∀ ρ, Agr ρ l → (execOp ρ ⟨d, .lookup t x y true, ty, ps, af, g⟩).run Try.prog w = .ok (.value (.tuple #[.int .i64 r.1, .bool r.2])) w := by
  intro ρ hρ
  simp only [execOp, hρ x _ hx, hρ y _ hy, Sem.run_bind, look_val hown hg ht true]
  rfl
theorem ex_look {B k : Nat} {v : Value} {m : List (Int × Int)} {a : Int} {r : Int × Bool} {t : TypeId} {x y : Operand} {d : Option Nat} (hown : Mo B k o w v m) (hg : mgo m a = some r) (hx : ev l x = some v) (hy : ev l y = some (.int .i64 a)) (ht : Try.prog.underlying t = some (.map 3 3)) :
    ∀ ρ, Agr ρ l → (execOp ρ ⟨d, .lookup t x y false, ty, ps, af, g⟩).run Try.prog w = .ok (.value (.int .i64 r.1)) w := by
  intro ρ hρ
  simp only [execOp, hρ x _ hx, hρ y _ hy, Sem.run_bind, look_val hown hg ht false]
  rfl
end
end Go.Proofs.Ytijaojnaamkinaa
