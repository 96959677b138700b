/- Lists of structs: a struct stored into a list of one's own, a literal of one struct. -/
import Derived.Test.YtjmhjobfiemmnaaKh
namespace Go.Proofs.Ytjmhjobfiemmnaa
open Go.RowKit
set_option linter.unusedSimpArgs false
set_option linter.unusedVariables false

def putMany (zs : List Value) (j : Nat) : List Value → List Value
  | [] => zs
  | u :: us => putMany (zs.set j u) (j + 1) us
theorem putMany_mid : ∀ (us A M C : List Value), M.length = us.length → putMany (A ++ M ++ C) A.length us = A ++ us ++ C
  | [], A, M, C, h => by
    have : M = [] := List.eq_nil_of_length_eq_zero h
    subst this; rfl
  | u :: us, A, M, C, h => by
    cases M with
    | nil => simp at h
    | cons m M =>
      have h2 := putMany_mid us (A ++ [u]) M C (by simpa using h)
      simp only [putMany]
      have e : (A ++ m :: M ++ C).set A.length u = A ++ [u] ++ M ++ C := by simp
      rw [e]
      simpa using h2
theorem flat_split {sz : Nat} : ∀ (css : List (List Value)), (∀ cs ∈ css, cs.length = sz) → css.flatten.length = css.length * sz
  | [], _ => by simp
  | c :: css, h => by
    rw [List.flatten_cons, List.length_append, flat_split css (fun x hx => h x (by simp [hx])), h c (by simp), List.length_cons, Nat.succ_mul, Nat.add_comm]
theorem flat_put {sz : Nat} (css : List (List Value)) (hl : ∀ cs ∈ css, cs.length = sz) (i : Nat) (hi : i < css.length) (us : List Value) (hu : us.length = sz) :
    (css.set i us).flatten = putMany css.flatten (i * sz) us := by
  have e1 : css = css.take i ++ css[i] :: css.drop (i + 1) := by rw [List.getElem_cons_drop hi, List.take_append_drop]
  have hc : css[i].length = us.length := by rw [hl _ (List.getElem_mem hi), hu]
  have h1 := flat_split (css.take i) (fun x hx => hl x (List.mem_of_mem_take hx))
  rw [List.length_take, Nat.min_eq_left (by omega)] at h1
  have e2 : css.flatten = (css.take i).flatten ++ css[i] ++ (css.drop (i + 1)).flatten := (congrArg List.flatten e1).trans (by rw [List.flatten_append, List.flatten_cons, List.append_assoc])
  have e3 : css.set i us = css.take i ++ us :: css.drop (i + 1) := List.set_eq_take_append_cons_drop.trans (by rw [if_pos hi])
  rw [e2, ← h1, putMany_mid _ _ _ _ hc, e3]
  simp
section
variable {P : Program} {n : Nat} {l : List (Nat × Value)} {w w0 : World} {o oo : Tg} {α : Type} [Rp α] {B k : Nat} {e : TypeId}
theorem storeCells_own {g cap m sz : Nat} (hk : o g = k) : ∀ (us : List Value) (i off : Nat) (w : World) (zs : List Value), w.ownsRow B e sz (.slice (some ⟨g, 0, none⟩) m cap) m zs → off + i + us.length ≤ zs.length →
    (∀ u ∈ us, u.oneCell' = true) → ∃ w', (storeCells ⟨g, off, none⟩ us i).run P w = .ok () w' ∧ w'.ownsRow B e sz (.slice (some ⟨g, 0, none⟩) m cap) m (putMany zs (off + i) us) ∧ Stp k o w o w'
  | [], i, off, w, zs, h, _, _ => ⟨w, by simp [storeCells], h, Stp.refl _ _ _⟩
  | u :: us, i, off, w, zs, h, hl, h1 => by
    simp only [List.length_cons] at hl
    have hcell := h.cellAt (off + i) (by have := h.1; omega)
    have hf := h.frozenAt (off + i)
    obtain ⟨g1, g2⟩ := h.stored (off + i) u
    have hst : Stp k o w o (w.setCell ⟨g, off + i, none⟩ u) := stp_set hk
    obtain ⟨w', r1, r2, r3⟩ := storeCells_own hk us (i + 1) off _ _ g1 (by simp; omega) (fun x hx => h1 x (by simp [hx]))
    have hs := run_store P w ⟨g, off + i, none⟩ u .plain (h1 u (by simp))
    refine ⟨w', ?_, by simp only [putMany]; rw [show off + i + 1 = off + (i + 1) by omega]; exact r2, hst.trans r3⟩
    have ha : (⟨g, off, none⟩ : Addr).add i = ⟨g, off + i, none⟩ := by simp [Addr.add]
    have hz : zs[off + i]? = some (zs[off + i]'(by omega)) := List.getElem?_eq_getElem (by omega)
    simp only [storeCells, ha, Sem.run_bind, hs, hcell, hf, hz]
    simpa using r1
variable {d : Nat} {ty : TypeId} {ps : String} {af : Array Edge} {g : Option (Nat × Bool)} {R : Value → World → Prop}
theorem ex_storeS {b : Nat} {t : TypeId} {x y : Operand} {v : Value} {cs : List Value} {xs ys : List α} {i : Int} {z : α} (hx : ev l x = some (.pointer (some ⟨b, 0 + i.toNat * Rp.sz α, none⟩))) (hy : ev l y = some (.agg cs.toArray))
    (hown : Ow B e k o w v xs) (hb : v.ownBlock = some b) (hi : st xs i z = some ys) (hk : k ≠ 0) (hs : (P.info? t).map (·.size) = some (Rp.sz α)) (hz : Rp.rd o w cs z) :
    ∃ w', (∀ ρ, Agr ρ l → (execOp ρ ⟨none, .store t x y, ty, ps, af, g⟩).run P w = .ok .skip w') ∧ Ow B e k o w' v ys ∧ Stp k o w o w' := by
  obtain ⟨h0, h1, rfl⟩ := st_some hi
  obtain ⟨a, c, rfl⟩ := hown.form
  obtain ⟨b', cs', rfl, _, hcl, hrd, hfz⟩ := hown.at (List.getElem?_eq_getElem (show i.toNat < xs.length by omega))
  simp [Value.ownBlock] at hb
  subst hb
  have hlen : cs.length = Rp.sz α := Rp.len hz
  obtain ⟨css, e1, e2, e3, e4⟩ := hown
  have hls := Ow.lens (e := e) (B := B) e1 e4
  have hfl := flat_split css hls
  have hic : i.toNat < css.length := by omega
  have hle : i.toNat * Rp.sz α + Rp.sz α ≤ css.flatten.length := by
    rw [hfl]
    have := Nat.mul_le_mul_right (Rp.sz α) (show i.toNat + 1 ≤ css.length by omega)
    rw [Nat.succ_mul] at this; exact this
  rw [Nat.zero_add] at hx
  obtain ⟨w', r1, r2, r3⟩ := storeCells_own (P := P) (o := o) (e3 _ rfl) cs 0 (i.toNat * Rp.sz α) w css.flatten e2 (by omega) (fun u hu => Rp.one hz u hu)
  refine ⟨w', fun ρ hρ => ?_, ⟨css.set i.toNat cs, by simp [e1], ?_, e3, fun j cs' x' hc hx' => ?_⟩, r3⟩
  · cases hq : P.info? t with
    | none => simp [hq] at hs
    | some q =>
      have hsz : cs.length = q.size := by simp [hq] at hs; omega
      simp only [execOp, hρ x _ hx, hρ y _ hy, Instr.storeAt, Instr.sureAddr, Sem.run_bind, Sem.run_pure, Result.andThen_ok]
      simp [storeVar, sizeOf, typeInfo, hq, Value.cells, hsz, r1]
  · rw [flat_put css hls _ hic cs hlen]
    simpa using r2
  · rw [List.getElem?_set] at hc hx'
    refine Rp.stp ?_ r3 hk
    by_cases hj : i.toNat = j
    · subst hj
      rw [if_pos rfl, if_pos (by omega)] at hc
      rw [if_pos rfl, if_pos (by omega)] at hx'
      cases hc; cases hx'; exact hz
    · rw [if_neg hj] at hc hx'
      exact e4 j cs' x' hc hx'
theorem wf_storeS {b : Nat} {t : TypeId} {x y : Operand} {v : Value} {cs : List Value} {xs ys : List α} {i : Int} {z : α} (hown : Ow B e k o w v xs) (hb : v.ownBlock = some b) (hi : st xs i z = some ys) (hz : Rp.rd o w cs z) (hk : k ≠ 0)
    (hx : ev l x = some (.pointer (some ⟨b, 0 + i.toNat * Rp.sz α, none⟩))) (hy : ev l y = some (.agg cs.toArray)) (hs : (P.info? t).map (·.size) = some (Rp.sz α))
    (h : ∀ w', Ow B e k o w' v ys → Stp k o w o w' → R undef w') : op1 P ⟨none, .store t x y, ty, ps, af, g⟩ n l w R := by
  obtain ⟨w', hr, h1, h2⟩ := ex_storeS (ps := ps) (ty := ty) (af := af) (g := g) hx hy hown hb hi hk hs hz
  exact op1_act hr (h w' h1 h2)
end
theorem fold_put : ∀ (us : List Value) (j : Nat) (cs : Array Value), ((us.zipIdx j).foldl (fun (cs : Array Value) (q : Value × Nat) => cs.setIfInBounds q.2 q.1) cs).toList = putMany cs.toList j us
  | [], j, cs => rfl
  | u :: us, j, cs => by
    rw [List.zipIdx_cons, List.foldl_cons, fold_put us (j + 1)]
    simp [putMany]
/-- A literal of one struct. -/
theorem fillS {z v : Value} {cs : List Value} (k : Nat) (hv : v.cells = cs.toArray) (hk : cs.length = k) (h0 : 0 < k) :
    Instr.fill (fun i => some (i * k, k)) ((Array.range (1 * k)).map ((if 1 * k = 0 then #[] else z.cells)[· % (if 1 * k = 0 then #[] else z.cells).size]!)) [(0, v)] = some cs.toArray := by
  have hs : v.cells.size = k := by rw [hv]; simpa using hk
  generalize hA : (Array.range (1 * k)).map ((if 1 * k = 0 then #[] else z.cells)[· % (if 1 * k = 0 then #[] else z.cells).size]!) = A
  have hAl : A.size = k := by rw [← hA]; simp
  simp only [Instr.fill, Nat.zero_mul, Nat.zero_add, hs, hAl]
  rw [if_neg (by simp)]
  congr 1
  rw [← Array.toList_inj]
  rw [hv, ← Array.foldl_toList]
  have := fold_put cs 0 A
  have e : (cs.toArray.zipIdx).toList = cs.zipIdx 0 := by simp
  rw [e, this]
  have h2 := putMany_mid cs [] A.toList [] (by simp [hAl, hk])
  simpa using h2
end Go.Proofs.Ytjmhjobfiemmnaa
