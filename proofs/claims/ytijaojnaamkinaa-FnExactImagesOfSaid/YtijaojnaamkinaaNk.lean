/- Isomorphisms of networks: what both sides compute, as the laws call it. -/
import Derived.Test.YtijaojnaamkinaaNh
import Derived.Test.YtijaojnaamkinaaGNi
import Derived.Test.YtijaojnaamkinaaNo
namespace Go.Proofs.Ytijaojnaamkinaa
set_option linter.unusedSimpArgs false
set_option linter.unusedVariables false

/-! ### A search that ends with a write -/
theorem forN_brk {σ ρ : Type} {body : Int → σ → Option (Lp σ σ ρ)} (s : σ) (hit : Nat → Bool) (out : Nat → σ) : ∀ (n k : Nat),
    (∀ (j : Nat), j < n → body ((k + j : Nat) : Int) s = some (if hit (k + j) then .out (out (k + j)) else .go s)) →
    forN body n (k : Int) s = some (.inl (match firstN (fun w => if hit w then some w else none) n k with | some w => out w | none => s))
  | 0, k, _ => rfl
  | n + 1, k, h => by
    have h0 := h 0 (by omega)
    simp only [Nat.add_zero] at h0
    simp only [forN, h0, firstN]
    cases hp : hit k with
    | true => simp
    | false =>
      simp only [Bool.false_eq_true, if_false]
      have := forN_brk s hit out n (k + 1) (fun j hj => by
        have := h (j + 1) (by omega)
        rw [show k + 1 + j = k + (j + 1) by omega]; exact this)
      rw [show ((k : Int) + 1) = ((k + 1 : Nat) : Int) by omega]
      exact this
theorem firstN_hit {hit : Nat → Bool} : ∀ {n k w : Nat}, firstN (fun w => if hit w then some w else none) n k = some w → k ≤ w ∧ w < k + n ∧ hit w = true
  | 0, k, w, h => by simp [firstN] at h
  | n + 1, k, w, h => by
    simp only [firstN] at h
    cases hp : hit k with
    | true => rw [hp] at h; simp at h; subst h; exact ⟨by omega, by omega, hp⟩
    | false =>
      rw [hp] at h
      simp only [Bool.false_eq_true, if_false] at h
      have := firstN_hit h
      exact ⟨by omega, by omega, this.2.2⟩
/-! ### The step -/
def cd (p : T_Network) (v : Nat) : List Int := codeN p (walkN p (v : Int))
def hitN (p q : T_Network) (f : List Int) (v w : Nat) : Bool := !decide ((w : Int) ∈ f) && decide (cd p v = cd q w)
def firstW (p q : T_Network) (f : List Int) (v : Nat) : Option Nat := firstN (fun w => if hitN p q f v w then some w else none) q.Ends.length 0
def outW (p q : T_Network) (f : List Int) (v w : Nat) : List Int := setW (walkN p (v : Int)) (walkN q (w : Int)) f (walkN p (v : Int)).length
def isoStep (p q : T_Network) (f : List Int) (v : Nat) : Option (List Int) :=
  if 0 ≤ f.getD v 0 then some f else match firstW p q f v with
    | none => none
    | some w => some (outW p q f v w)
def isoGo (p q : T_Network) : Nat → Nat → List Int → Option (List Int)
  | 0, _, f => some f
  | d + 1, v, f => match isoStep p q f v with
    | none => none
    | some g => isoGo p q d (v + 1) g
def isoN (p q : T_Network) : Option (List Int) := if p.Ends.length = q.Ends.length then isoGo p q p.Ends.length 0 (List.replicate p.Ends.length (-1)) else none
theorem hitN_spec {p q : T_Network} {f : List Int} {v w : Nat} (h : hitN p q f v w = true) : (walkN p (v : Int)).length = (walkN q (w : Int)).length := by
  unfold hitN at h
  simp only [Bool.and_eq_true, decide_eq_true_eq] at h
  exact codeN_inj h.2
/-- Two good networks of one size. -/
structure Two (p q : T_Network) : Prop where
  gp : netB p = true
  gq : netB q = true
  ln : q.Ends.length = p.Ends.length
theorem write_spec {p q : T_Network} (T : Two p q) {f : List Int} {u : List Bool} (I : IsoI p p.Ends.length f u) {v w : Nat} (hv : v < p.Ends.length) (hw : w < p.Ends.length) (hl : (walkN p (v : Int)).length = (walkN q (w : Int)).length) :
    forI (fS_isFind_s4 (walkN q (w : Int))) (walkN p (v : Int)) 0 f = some (.inl (outW p q f v w)) := by
  have gp := netB_good T.gp
  have hW := walkN_ok gp (v := (v : Int)) (by omega)
  have := forI_inv0 (ρ := List Int × Bool) (body := fS_isFind_s4 (walkN q (w : Int))) (setW (walkN p (v : Int)) (walkN q (w : Int)) f) (walkN p (v : Int)) (fun j x hx => by
    have hj := (List.getElem?_eq_some_iff.1 hx).1
    have hxr := hW.rng x (List.mem_of_getElem? hx)
    have hy : (walkN q (w : Int))[j]? = some ((walkN q (w : Int))[j]'(by omega)) := List.getElem?_eq_getElem (by omega)
    have hlen := setW_len (walkN p (v : Int)) (walkN q (w : Int)) f j
    have hlf := I.lf
    unfold fS_isFind_s4
    rw [ix_nat, hy, sb, ix_getZ hxr.1 (by omega), sb]
    unfold st
    rw [if_pos ⟨hxr.1, by omega⟩, sb, setW_s hx hy])
  rw [setW_0] at this
  exact this
theorem write_impl {p q : T_Network} (T : Two p q) {f : List Int} {u : List Bool} (I : IsoI p p.Ends.length f u) {v w : Nat} (hv : v < p.Ends.length) (hw : w < p.Ends.length) (hl : (walkN p (v : Int)).length = (walkN q (w : Int)).length) (c : List Int) :
    forI (fI_isomorphism_s3 (c, walkN q (w : Int))) (walkN p (v : Int)) 0 (f, u) = some (.inl (outW p q f v w, setU (walkN q (w : Int)) u (walkN p (v : Int)).length)) := by
  have gp := netB_good T.gp
  have gq := netB_good T.gq
  have hln := T.ln
  have hW := walkN_ok gp (v := (v : Int)) (by omega)
  have hV := walkN_ok gq (v := (w : Int)) (by omega)
  have := forI_inv0 (ρ := List Int) (body := fI_isomorphism_s3 (c, walkN q (w : Int))) (fun j => (setW (walkN p (v : Int)) (walkN q (w : Int)) f j, setU (walkN q (w : Int)) u j)) (walkN p (v : Int)) (fun j x hx => by
    have hj := (List.getElem?_eq_some_iff.1 hx).1
    have hxr := hW.rng x (List.mem_of_getElem? hx)
    have hy : (walkN q (w : Int))[j]? = some ((walkN q (w : Int))[j]'(by omega)) := List.getElem?_eq_getElem (by omega)
    generalize hY : (walkN q (w : Int))[j]'(by omega) = y at hy
    have hyr := hV.rng y (List.mem_of_getElem? hy)
    have hlen := setW_len (walkN p (v : Int)) (walkN q (w : Int)) f j
    have hlen2 := setU_len (walkN q (w : Int)) u j
    have hlf := I.lf
    have hlu := I.lu
    have hu : ∃ b, ix (setU (walkN q (w : Int)) u j) y = some b := by
      unfold ix
      rw [if_pos hyr.1]
      exact ⟨_, List.getElem?_eq_getElem (by omega)⟩
    obtain ⟨b, hb⟩ := hu
    unfold fI_isomorphism_s3
    simp only
    rw [ix_nat, hy, sb, sb, ix_getZ hxr.1 (by omega), sb]
    unfold st
    rw [if_pos ⟨hxr.1, by omega⟩, sb, hb, sb, if_pos ⟨hyr.1, by omega⟩, sb, setW_s hx hy, setU_s hy])
  rw [setW_0, setU_0] at this
  exact this
theorem cd_len {p : T_Network} (h : netB p = true) {v : Nat} (hv : v < p.Ends.length) : (cd p v).length ≤ 1000 := codeN_len (netB_good h) (by omega)
theorem search_spec (fuel : Nat) (hf : 100 ≤ fuel) {p q : T_Network} (T : Two p q) {f : List Int} {u : List Bool} (I : IsoI p p.Ends.length f u) {v : Nat} (hv : v < p.Ends.length) :
    forN (fS_isFind_s3 fuel q (walkN p (v : Int)) (cd p v)) q.Ends.length 0 f = some (.inl (match firstW p q f v with | some w => outW p q f v w | none => f)) := by
  have gq := netB_good T.gq
  have hln := T.ln
  have := forN_brk (ρ := List Int × Bool) (body := fS_isFind_s3 fuel q (walkN p (v : Int)) (cd p v)) f (hitN p q f v) (outW p q f v) q.Ends.length 0 (fun j hj => by
    rw [Nat.zero_add]
    have hc := cd_len T.gp hv
    have hk : (0 : Int) ≤ (j : Int) ∧ (j : Int) < q.Ends.length := by omega
    unfold fS_isFind_s3
    rw [e_l1Has, sb]
    cases hm : decide ((j : Int) ∈ f) with
    | true => simp [hitN, hm]
    | false =>
      rw [if_neg (by simp), e_isWalk fuel hf q gq _ hk, sb, e_isCode q gq _ (walkN_ok gq hk), sb, e_l1Same _ _ (by omega), sb]
      cases he : decide (cd p v = cd q j) with
      | false =>
        have he' : decide (cd p v = codeN q (walkN q (j : Int))) = false := he
        rw [he']
        simp [hitN, hm, he]
      | true =>
        have he' : decide (cd p v = codeN q (walkN q (j : Int))) = true := he
        have hh : hitN p q f v j = true := by simp [hitN, hm, he]
        rw [he', if_pos rfl, write_spec T I hv (by omega) (hitN_spec hh), sb, hh]; rfl)
  exact this
theorem search_impl (fuel : Nat) (hf : 100 ≤ fuel) {p q : T_Network} (T : Two p q) {f : List Int} {u : List Bool} (I : IsoI p p.Ends.length f u) {v : Nat} (hv : v < p.Ends.length) :
    forN (fI_isomorphism_s2 fuel q (cd p v, walkN p (v : Int))) q.Ends.length 0 (f, u) = some (.inl (match firstW p q f v with | some w => (outW p q f v w, setU (walkN q (w : Int)) u (walkN p (v : Int)).length) | none => (f, u))) := by
  have gq := netB_good T.gq
  have hln := T.ln
  have := forN_brk (ρ := List Int) (body := fI_isomorphism_s2 fuel q (cd p v, walkN p (v : Int))) (f, u) (hitN p q f v) (fun w => (outW p q f v w, setU (walkN q (w : Int)) u (walkN p (v : Int)).length)) q.Ends.length 0 (fun j hj => by
    rw [Nat.zero_add]
    have hc := cd_len T.gp hv
    have hc2 := cd_len T.gq hj
    have hk : (0 : Int) ≤ (j : Int) ∧ (j : Int) < q.Ends.length := by omega
    unfold fI_isomorphism_s2
    simp only
    rw [ix_nat, I.us j (by omega), sb]
    cases hm : decide ((j : Int) ∈ f) with
    | true => simp [hitN, hm]
    | false =>
      rw [if_neg (by simp), e_codeFrom fuel hf q gq _ hk, sb]
      simp only
      rw [show codeN q (walkN q (j : Int)) = cd q j from rfl, e_EqualN _ _ (by omega) (by omega), sb]
      cases he : decide (cd p v = cd q j) with
      | false => simp [hitN, hm, he]
      | true =>
        have hh : hitN p q f v j = true := by simp [hitN, hm, he]
        rw [if_neg (by simp), write_impl T I hv (by omega) (hitN_spec hh), sb, hh]; rfl)
  exact this
theorem firstW_next {p q : T_Network} (T : Two p q) {f : List Int} {u : List Bool} (I : IsoI p p.Ends.length f u) {v w : Nat} (hv : v < p.Ends.length) (hneg : ¬ 0 ≤ f.getD v 0) (h : firstW p q f v = some w) :
    w < p.Ends.length ∧ IsoI p p.Ends.length (outW p q f v w) (setU (walkN q (w : Int)) u (walkN p (v : Int)).length) ∧ 0 ≤ (outW p q f v w).getD v 0 := by
  have hln := T.ln
  obtain ⟨_, h1, h2⟩ := firstN_hit h
  have hw : w < p.Ends.length := by omega
  have := isoI_walk T.gp (netB_good T.gq) hln I (v := (v : Int)) (w := (w : Int)) (by omega) (by omega) (by simpa using hneg) (hitN_spec h2)
  exact ⟨hw, this.2.1, by simpa [outW] using this.2.2⟩
/-! ### The loops -/
theorem loop_spec (fuel : Nat) (hf : 100 ≤ fuel) {p q : T_Network} (T : Two p q) : ∀ (d v : Nat) (f : List Int) (u : List Bool), IsoI p p.Ends.length f u → v + d = p.Ends.length →
    forN (fS_isFind_s2 fuel p q) d (v : Int) f = some (match isoGo p q d v f with | some g => .inl g | none => .inr ([], false))
  | 0, v, f, u, _, _ => rfl
  | d + 1, v, f, u, I, hd => by
    have gp := netB_good T.gp
    have hn := gp.n2
    have hln := T.ln
    have hv : v < p.Ends.length := by omega
    have hlf := I.lf
    have hstep : fS_isFind_s2 fuel p q (v : Int) f = some (match isoStep p q f v with | some g => .go g | none => .ret ([], false)) := by
      unfold fS_isFind_s2 isoStep
      rw [ix_getZ (by omega) (by omega), sb, Int.toNat_natCast]
      by_cases h0 : 0 ≤ f.getD v 0
      · rw [if_pos (by simpa using h0), if_pos h0]
      · rw [if_neg (by simpa using h0), if_neg h0, e_isWalk fuel hf p gp _ (by omega), sb, e_isCode p gp _ (walkN_ok gp (by omega)), sb, ck_in (by omega) (by omega), sb, Int.toNat_natCast]
        have := search_spec fuel hf T I hv
        unfold cd at this
        rw [this, sb]
        cases hw : firstW p q f v with
        | none =>
          simp only
          rw [ix_getZ (by omega) (by omega), sb, Int.toNat_natCast, if_pos (by simpa using h0)]
        | some w =>
          obtain ⟨h1, h2, h3⟩ := firstW_next T I hv h0 hw
          have := h2.lf
          simp only
          rw [ix_getZ (by omega) (by omega), sb, Int.toNat_natCast, if_neg (by simpa using h3)]
    simp only [forN, hstep, isoGo]
    cases hs : isoStep p q f v with
    | none => rfl
    | some g =>
      have hI : ∃ u', IsoI p p.Ends.length g u' := by
        unfold isoStep at hs
        split at hs
        · cases hs; exact ⟨u, I⟩
        · rename_i h0
          cases hw : firstW p q f v with
          | none => rw [hw] at hs; cases hs
          | some w => rw [hw] at hs; cases hs; exact ⟨_, (firstW_next T I hv h0 hw).2.1⟩
      obtain ⟨u', hI⟩ := hI
      have := loop_spec fuel hf T d (v + 1) g u' hI (by omega)
      simp only
      rw [show ((v : Int) + 1) = ((v + 1 : Nat) : Int) by omega]
      exact this
theorem loop_impl (fuel : Nat) (hf : 100 ≤ fuel) {p q : T_Network} (T : Two p q) : ∀ (d v : Nat) (f : List Int) (u : List Bool), IsoI p p.Ends.length f u → v + d = p.Ends.length →
    ∃ u', forN (fI_isomorphism_s1 fuel p q) d (v : Int) (f, u) = some (match isoGo p q d v f with | some g => .inl (g, u') | none => .inr [])
  | 0, v, f, u, _, _ => ⟨u, rfl⟩
  | d + 1, v, f, u, I, hd => by
    have gp := netB_good T.gp
    have hn := gp.n2
    have hln := T.ln
    have hv : v < p.Ends.length := by omega
    have hlf := I.lf
    have hstep : ∃ u', fI_isomorphism_s1 fuel p q (v : Int) (f, u) = some (match isoStep p q f v with | some g => .go (g, u') | none => .ret []) ∧ ∀ g, isoStep p q f v = some g → IsoI p p.Ends.length g u' := by
      unfold fI_isomorphism_s1 isoStep
      simp only
      rw [ix_getZ (by omega) (by omega), sb, Int.toNat_natCast]
      by_cases h0 : 0 ≤ f.getD v 0
      · rw [if_pos (by simpa using h0), if_pos h0]
        exact ⟨u, rfl, fun g hg => by cases hg; exact I⟩
      · rw [if_neg (by simpa using h0), if_neg h0, e_codeFrom fuel hf p gp _ (by omega), sb, ck_in (by omega) (by omega), sb, Int.toNat_natCast]
        have := search_impl fuel hf T I hv
        unfold cd at this
        rw [this, sb]
        cases hw : firstW p q f v with
        | none =>
          simp only
          rw [ix_getZ (by omega) (by omega), sb, Int.toNat_natCast, if_pos (by simpa using h0)]
          exact ⟨u, rfl, fun g hg => by cases hg⟩
        | some w =>
          obtain ⟨h1, h2, h3⟩ := firstW_next T I hv h0 hw
          have := h2.lf
          simp only
          rw [ix_getZ (by omega) (by omega), sb, Int.toNat_natCast, if_neg (by simpa using h3)]
          exact ⟨_, rfl, fun g hg => by cases hg; exact h2⟩
    obtain ⟨u1, hstep, hI⟩ := hstep
    simp only [forN, hstep, isoGo]
    cases hs : isoStep p q f v with
    | none => exact ⟨u1, rfl⟩
    | some g =>
      obtain ⟨u', this⟩ := loop_impl fuel hf T d (v + 1) g u1 (hI g hs) (by omega)
      simp only
      rw [show ((v : Int) + 1) = ((v + 1 : Nat) : Int) by omega]
      exact ⟨u', this⟩
theorem isoGo_len {p q : T_Network} : ∀ (d v : Nat) (f g : List Int), isoGo p q d v f = some g → g.length = f.length
  | 0, v, f, g, h => by simp only [isoGo] at h; cases h; rfl
  | d + 1, v, f, g, h => by
    simp only [isoGo] at h
    cases hs : isoStep p q f v with
    | none => rw [hs] at h; cases h
    | some f' =>
      rw [hs] at h
      rw [isoGo_len d (v + 1) f' g h]
      unfold isoStep at hs
      split at hs
      · cases hs; rfl
      · cases hw : firstW p q f v with
        | none => rw [hw] at hs; cases hs
        | some w => rw [hw] at hs; cases hs; exact setW_len _ _ _ _
theorem isoN_ne {p q : T_Network} (hp : netB p = true) {f : List Int} (h : isoN p q = some f) : f ≠ [] := by
  unfold isoN at h
  split at h
  · have := isoGo_len _ _ _ _ h
    have h1 := (netB_good hp).n1
    rw [List.length_replicate] at this
    intro e
    subst e
    simp at this
    omega
  · cases h
/-! ### isFind and isomorphism -/
theorem minus_loop (n : Nat) : forN fS_isFind_s1 n 0 (List.replicate n 0) = some (.inl (List.replicate n (-1))) := by
  have := forN_inv0 (ρ := List Int × Bool) (body := fS_isFind_s1) (fun j => List.replicate j (-1) ++ List.replicate (n - j) 0) n (fun j hj => by
    unfold fS_isFind_s1
    have hl : (List.replicate j (-1 : Int) ++ List.replicate (n - j) 0).length = n := by simp; omega
    rw [ix_getZ (by omega) (by omega), sb]
    unfold st
    rw [if_pos ⟨by omega, by omega⟩, sb, Int.toNat_natCast]
    congr 2
    rw [List.set_append, if_neg (by simp), List.length_replicate, Nat.sub_self, show n - j = (n - (j + 1)) + 1 by omega, List.replicate_succ, List.set_cons_zero, List.replicate_succ', List.append_assoc]
    rfl)
  simpa using this
theorem e_isFind (fuel : Nat) (hf : 100 ≤ fuel) {p q : T_Network} (hp : netB p = true) (hq : netB q = true) : fS_isFind fuel p q = some (match isoN p q with | some f => (f, true) | none => ([], false)) := by
  unfold fS_isFind isoN
  have hn := (netB_good hp).n2
  by_cases h : p.Ends.length = q.Ends.length
  · rw [if_neg (by simp [h]), if_pos h]
    unfold mk
    rw [if_pos (by omega), sb, Int.toNat_natCast, show (Rz.z : Int) = 0 from rfl, List.length_replicate, ck_in (by omega) (by omega), sb, Int.toNat_natCast, minus_loop, sb]
    simp only
    rw [List.length_replicate, ck_in (by omega) (by omega), sb, Int.toNat_natCast]
    have := loop_spec fuel hf ⟨hp, hq, h.symm⟩ p.Ends.length 0 _ _ (isoI_0 p p.Ends.length) (by omega)
    rw [show ((0 : Nat) : Int) = 0 from rfl] at this
    rw [this, sb]
    cases isoGo p q p.Ends.length 0 (List.replicate p.Ends.length (-1)) <;> rfl
  · rw [if_pos (by simp; omega), if_neg h]
theorem e_isomorphism (fuel : Nat) (hf : 100 ≤ fuel) {p q : T_Network} (hp : netB p = true) (hq : netB q = true) : fI_isomorphism fuel p q = some ((isoN p q).getD []) := by
  have hne := fun f => isoN_ne (q := q) (f := f) hp
  unfold fI_isomorphism
  unfold isoN at hne ⊢
  have hn := (netB_good hp).n2
  by_cases h : p.Ends.length = q.Ends.length
  · rw [if_neg (by simp [h]), if_pos h]
    rw [if_pos h] at hne
    unfold repO mk
    simp only
    rw [if_pos (by omega), sb, if_pos (by omega), sb, ck_in (by omega) (by omega), sb, Int.toNat_natCast, Int.toNat_natCast, show (Rz.z : Bool) = false from rfl]
    obtain ⟨u', this⟩ := loop_impl fuel hf ⟨hp, hq, h.symm⟩ p.Ends.length 0 _ _ (isoI_0 p p.Ends.length) (by omega)
    rw [show ((0 : Nat) : Int) = 0 from rfl] at this
    rw [← h, this, sb]
    cases hg : isoGo p q p.Ends.length 0 (List.replicate p.Ends.length (-1)) with
    | none => rfl
    | some g =>
      have := hne _ hg
      simp only [Option.getD_some]
      unfold nem
      cases g with
      | nil => exact absurd rfl this
      | cons x g => rfl
  · rw [if_pos (by simp; omega), if_neg h]; rfl
theorem iso_empty {p q : T_Network} (hp : netB p = true) : ((isoN p q).getD []).isEmpty = !(isoN p q).isSome := by
  have hne := fun f => isoN_ne (q := q) (f := f) hp
  cases h : isoN p q with
  | none => rfl
  | some f =>
    have := hne _ h
    cases f with
    | nil => exact absurd rfl this
    | cons x f => rfl
theorem e_isSame (fuel : Nat) (hf : 100 ≤ fuel) {p q : T_Network} (hp : netB p = true) (hq : netB q = true) : fS_isSame fuel p q = some (isoN p q).isSome := by
  unfold fS_isSame
  rw [e_isFind fuel hf hp hq, sb]
  cases isoN p q <;> rfl
/-! ### IsomorphismOf -/
def isoB (p q : T_Network) : List Int × Bool := if netB p && netB q then (match isoN p q with | some f => (f, true) | none => ([], false)) else ([], false)
theorem e_specIso (fuel : Nat) (hf : 100 ≤ fuel) (p q : T_Network) (hp : SzN p) (hq : SzN q) : fS_IsomorphismOf fuel p q = some (isoB p q) := by
  unfold fS_IsomorphismOf isoB
  rw [e_neGood p hp, sb]
  cases h1 : netB p
  · simp [sb]
  · rw [if_neg (by simp), e_neGood q hq, sb, sb]
    cases h2 : netB q
    · simp [sb]
    · rw [if_neg (by simp), e_isFind fuel hf h1 h2, sb]; simp
theorem e_implIso (fuel : Nat) (hf : 100 ≤ fuel) (p q : T_Network) (hp : SzN p) (hq : SzN q) : fI_IsomorphismOf fuel p q = some (isoB p q) := by
  unfold fI_IsomorphismOf isoB
  rw [e_IsNetwork p hp, sb]
  cases h1 : netB p
  · simp [sb]
  · rw [if_neg (by simp), e_IsNetwork q hq, sb, sb]
    cases h2 : netB q
    · simp [sb]
    · rw [if_neg (by simp), e_isomorphism fuel hf h1 h2, sb, iso_empty h1]
      cases isoN p q <;> simp
/-! ### SameNetworks -/
def sameB (p q : T_Network) : Bool × Bool := if netB p && netB q then ((isoN p q).isSome, true) else (false, false)
theorem e_specSameN (fuel : Nat) (hf : 100 ≤ fuel) (p q : T_Network) (hp : SzN p) (hq : SzN q) : fS_SameNetworks fuel p q = some (sameB p q) := by
  unfold fS_SameNetworks sameB
  rw [e_neGood p hp, sb]
  cases h1 : netB p
  · simp [sb]
  · rw [if_neg (by simp), e_neGood q hq, sb, sb]
    cases h2 : netB q
    · simp [sb]
    · rw [if_neg (by simp), e_isSame fuel hf h1 h2, sb]; simp
theorem e_implSameN (fuel : Nat) (hf : 100 ≤ fuel) (p q : T_Network) (hp : SzN p) (hq : SzN q) : fI_SameNetworks fuel p q = some (sameB p q) := by
  unfold fI_SameNetworks sameB
  rw [e_IsNetwork p hp, sb]
  cases h1 : netB p
  · simp [sb]
  · rw [if_neg (by simp), e_IsNetwork q hq, sb, sb]
    cases h2 : netB q
    · simp [sb]
    · rw [if_neg (by simp), e_isomorphism fuel hf h1 h2, sb, iso_empty h1]; simp
/-! ### ImagesOf -/
def imgP (p : T_Network) (v : Int) (q : T_Network) (w : Nat) : Bool := decide (codeN p (walkN p v) = codeN q (walkN q (w : Int)))
def imgL (p : T_Network) (v : Int) (q : T_Network) (n : Nat) : List Int := ((List.range n).filter (imgP p v q)).map fun w : Nat => (w : Int)
theorem imgL_succ (p : T_Network) (v : Int) (q : T_Network) (j : Nat) : imgL p v q (j + 1) = imgL p v q j ++ if imgP p v q j then [(j : Int)] else [] := by
  unfold imgL
  rw [List.range_succ, List.filter_append, List.map_append]
  by_cases h : imgP p v q j = true
  · simp [h]
  · simp [h]
theorem imgL_len (p : T_Network) (v : Int) (q : T_Network) (j : Nat) : (imgL p v q j).length ≤ j := by
  unfold imgL
  rw [List.length_map]
  have := List.length_filter_le (imgP p v q) (List.range j)
  simpa using this
def imgB (p : T_Network) (v : Int) (q : T_Network) : List Int × Bool := if nodeN p v && netB q then (if (isoN p q).isSome then imgL p v q q.Ends.length else [], true) else ([], false)
theorem imgs_spec (fuel : Nat) (hf : 100 ≤ fuel) (p q : T_Network) (gp : GoodN p) (gq : GoodN q) (v : Int) (hv : 0 ≤ v ∧ v < p.Ends.length) :
    forN (fS_ImagesOf_s1 fuel q (codeN p (walkN p v))) q.Ends.length 0 [] = some (.inl (imgL p v q q.Ends.length)) := by
  have hn := gq.n2
  have := forN_inv0 (ρ := List Int × Bool) (body := fS_ImagesOf_s1 fuel q (codeN p (walkN p v))) (imgL p v q) q.Ends.length (fun j hj => by
    have hl := imgL_len p v q j
    have hc := codeN_len gp hv
    unfold fS_ImagesOf_s1
    rw [e_isFrom fuel hf q gq _ (by omega), sb, e_l1Same _ _ (by omega), sb, imgL_succ]
    cases h : imgP p v q j
    · unfold imgP at h
      rw [h]; simp
    · unfold imgP at h
      rw [h, if_pos rfl]
      unfold push
      rw [if_pos (by omega), sb]; simp)
  exact this
theorem imgs_impl (fuel : Nat) (hf : 100 ≤ fuel) (p q : T_Network) (gp : GoodN p) (gq : GoodN q) (v : Int) (hv : 0 ≤ v ∧ v < p.Ends.length) :
    forN (fI_ImagesOf_s1 fuel p v q) q.Ends.length 0 [] = some (.inl (imgL p v q q.Ends.length)) := by
  have hn := gq.n2
  have := forN_inv0 (ρ := List Int × Bool) (body := fI_ImagesOf_s1 fuel p v q) (imgL p v q) q.Ends.length (fun j hj => by
    have hl := imgL_len p v q j
    unfold fI_ImagesOf_s1
    rw [e_sameCodes fuel hf p q gp gq v _ hv (by omega), sb, imgL_succ]
    cases h : imgP p v q j
    · unfold imgP at h
      rw [h]; simp
    · unfold imgP at h
      rw [h, if_pos rfl]
      unfold push
      rw [if_pos (by omega), sb]; simp)
  exact this
theorem e_specImg (fuel : Nat) (hf : 100 ≤ fuel) (p q : T_Network) (hp : SzN p) (hq : SzN q) (v : Int) : fS_ImagesOf fuel p v q = some (imgB p v q) := by
  unfold fS_ImagesOf imgB
  rw [e_neNode p hp, sb]
  cases h1 : nodeN p v
  · simp [sb]
  · obtain ⟨gp, hv⟩ := nodeN_good h1
    have hp1 : netB p = true := by unfold nodeN at h1; rw [Bool.and_eq_true] at h1; exact h1.1
    rw [if_neg (by simp), e_neGood q hq, sb, sb]
    cases h2 : netB q
    · simp [sb]
    · have gq := netB_good h2
      have hn := gq.n2
      rw [if_neg (by simp), e_isSame fuel hf hp1 h2, sb]
      cases hs : (isoN p q).isSome
      · simp
      · rw [if_neg (by simp), e_isFrom fuel hf p gp v hv, sb, ck_in (by omega) (by omega), sb, Int.toNat_natCast, imgs_spec fuel hf p q gp gq v hv, sb]; simp
theorem e_implImg (fuel : Nat) (hf : 100 ≤ fuel) (p q : T_Network) (hp : SzN p) (hq : SzN q) (v : Int) : fI_ImagesOf fuel p v q = some (imgB p v q) := by
  unfold fI_ImagesOf imgB nodeN
  rw [e_IsNetwork p hp, sb]
  cases h1 : netB p
  · simp [sb]
  · rw [if_neg (by simp), e_IsNetwork q hq, sb]
    cases h2 : netB q
    · simp [sb]
    · rw [if_neg (by simp), e_hasNode p hp, sb, sb]
      cases h3 : inB 0 ((p.Ends.length : Int) - 1) v
      · simp
      · have gp := netB_good h1
        have gq := netB_good h2
        have hn := gq.n2
        have h3' := inB_iff.1 h3
        rw [if_neg (by simp), e_isomorphism fuel hf h1 h2, sb, iso_empty h1]
        cases hs : (isoN p q).isSome
        · simp
        · rw [if_neg (by simp), ck_in (by omega) (by omega), sb, Int.toNat_natCast, imgs_impl fuel hf p q gp gq v (by omega), sb]; simp
open Go.RowKit

def lstO (r : List Int × Bool) : Option (List Int) := if r.2 then some r.1 else none
theorem lstO_sb {r : List Int × Bool} (h : r.2 = false → r.1 = []) : (lstO r).isSome = r.2 ∧ (lstO r).getD [] = r.1 := by
  obtain ⟨l, b⟩ := r
  cases b
  · have : l = [] := h rfl
    subst this
    exact ⟨rfl, rfl⟩
  · exact ⟨rfl, rfl⟩
/-- From a call's post with a list that is new and a flag. -/
theorem retL_of {w w' : World} {e : Ending} {r : List Int × Bool} {t : Nat} (h : r.2 = false → r.1 = []) (hl : r.1.length ≤ 1000000000) (hp : ∃ (v0 : Value) (o' : Tg), e = .returned (.tuple #[v0, .bool r.2]) ∧ Ow w.heap.size 3 t o' w' v0 r.1 ∧ Keeps w w' ∧ ∀ b, b < w.heap.size → o' b = ot b) : RetL w (lstO r) e w' := by
  obtain ⟨v0, o', rfl, ho, hk, hb⟩ := hp
  obtain ⟨b1, b2⟩ := lstO_sb h
  exact ⟨v0, by rw [b1], by rw [b2]; exact ho.own_ints, by rw [b2]; exact hl, hk⟩
theorem netB_n2 {p : T_Network} (h : netB p = true) : p.Ends.length ≤ 40 := (netB_good h).n2

theorem isoB_sb (p q : T_Network) : ((isoB p q).2 = false → (isoB p q).1 = []) ∧ (isoB p q).1.length ≤ 1000000000 := by
  unfold isoB
  cases h1 : netB p
  · simp
  · cases h2 : netB q
    · simp
    · cases h : isoN p q with
      | none => simp
      | some f =>
        refine ⟨fun h => by simp at h, ?_⟩
        simp only [Bool.and_self, if_true]
        unfold isoN at h
        split at h
        · have := isoGo_len _ _ _ _ h
          have := netB_n2 h1
          simp at *
          omega
        · cases h
def fIsomorphismOfSpec (x y : T_Network) : Option (List Int) := lstO (isoB x y)
def fIsomorphismOfImpl (x y : T_Network) : Option (List Int) := fIsomorphismOfSpec x y
theorem IsomorphismOf_eq (x y : T_Network) (_ : okN x) (_ : szN x ≤ 1048576) (_ : okN y) (_ : szN y ≤ 1048576) : fIsomorphismOfImpl x y = fIsomorphismOfSpec x y := rfl
theorem specIsomorphismOf_any (v : Value) (x : T_Network) (v2 : Value) (y : T_Network) (w : World) (h : RdN w v x) (_ : okN x) (hs : szN x ≤ 1048576) (h2 : RdN w v2 y) (_ : okN y) (hs2 : szN y ≤ 1048576) :
    Calls Try.prog 47 #[v, v2] w (RetL w (fIsomorphismOfSpec x y)) := by
  obtain ⟨u, rfl, hu⟩ := h
  obtain ⟨u2, rfl, hu2⟩ := h2
  refine (cS_IsomorphismOf 1000 w ot 2 (by decide) u x hu u2 y hu2 _ (e_specIso 1000 (by omega) x y (szN_of hs) (szN_of hs2))).mono ?_
  intro e w' hp
  exact retL_of (isoB_sb x y).1 (isoB_sb x y).2 hp
theorem implIsomorphismOf_any (v : Value) (x : T_Network) (v2 : Value) (y : T_Network) (w : World) (h : RdN w v x) (_ : okN x) (hs : szN x ≤ 1048576) (h2 : RdN w v2 y) (_ : okN y) (hs2 : szN y ≤ 1048576) :
    Calls Try.prog 48 #[v, v2] w (RetL w (fIsomorphismOfImpl x y)) := by
  obtain ⟨u, rfl, hu⟩ := h
  obtain ⟨u2, rfl, hu2⟩ := h2
  refine (cI_IsomorphismOf 1000 w ot 2 (by decide) u x hu u2 y hu2 _ (e_implIso 1000 (by omega) x y (szN_of hs) (szN_of hs2))).mono ?_
  intro e w' hp
  exact retL_of (isoB_sb x y).1 (isoB_sb x y).2 hp
theorem imgB_sb (p : T_Network) (v : Int) (q : T_Network) : ((imgB p v q).2 = false → (imgB p v q).1 = []) ∧ (imgB p v q).1.length ≤ 1000000000 := by
  unfold imgB
  cases h1 : nodeN p v
  · simp
  · cases h2 : netB q
    · simp
    · refine ⟨fun h => by simp at h, ?_⟩
      simp only [Bool.and_self, if_true]
      have := imgL_len p v q q.Ends.length
      have := netB_n2 h2
      split
      · omega
      · simp
def fImagesOfSpec (x : T_Network) (v : Int) (y : T_Network) : Option (List Int) := lstO (imgB x v y)
def fImagesOfImpl (x : T_Network) (v : Int) (y : T_Network) : Option (List Int) := fImagesOfSpec x v y
theorem ImagesOf_eq (x : T_Network) (v : Int) (y : T_Network) (_ : okN x) (_ : szN x ≤ 1048576) (_ : I64 v) (_ : okN y) (_ : szN y ≤ 1048576) : fImagesOfImpl x v y = fImagesOfSpec x v y := rfl
theorem specImagesOf_any (v : Value) (x : T_Network) (a : Int) (v2 : Value) (y : T_Network) (w : World) (h : RdN w v x) (_ : okN x) (hs : szN x ≤ 1048576) (_ : I64 a) (h2 : RdN w v2 y) (_ : okN y) (hs2 : szN y ≤ 1048576) :
    Calls Try.prog 49 #[v, .int .i64 a, v2] w (RetL w (fImagesOfSpec x a y)) := by
  obtain ⟨u, rfl, hu⟩ := h
  obtain ⟨u2, rfl, hu2⟩ := h2
  refine (cS_ImagesOf 1000 w ot 2 (by decide) u x hu a u2 y hu2 _ (e_specImg 1000 (by omega) x y (szN_of hs) (szN_of hs2) a)).mono ?_
  intro e w' hp
  exact retL_of (imgB_sb x a y).1 (imgB_sb x a y).2 hp
theorem implImagesOf_any (v : Value) (x : T_Network) (a : Int) (v2 : Value) (y : T_Network) (w : World) (h : RdN w v x) (_ : okN x) (hs : szN x ≤ 1048576) (_ : I64 a) (h2 : RdN w v2 y) (_ : okN y) (hs2 : szN y ≤ 1048576) :
    Calls Try.prog 50 #[v, .int .i64 a, v2] w (RetL w (fImagesOfImpl x a y)) := by
  obtain ⟨u, rfl, hu⟩ := h
  obtain ⟨u2, rfl, hu2⟩ := h2
  refine (cI_ImagesOf 1000 w ot 2 (by decide) u x hu a u2 y hu2 _ (e_implImg 1000 (by omega) x y (szN_of hs) (szN_of hs2) a)).mono ?_
  intro e w' hp
  exact retL_of (imgB_sb x a y).1 (imgB_sb x a y).2 hp
end Go.Proofs.Ytijaojnaamkinaa
