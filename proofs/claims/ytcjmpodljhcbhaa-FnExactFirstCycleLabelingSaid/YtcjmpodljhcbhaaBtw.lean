/- The contract of waBetween: the first walk of a length between two labels. -/
import Derived.Test.YtcjmpodljhcbhaaSolv
namespace Go.Proofs.Ytcjmpodljhcbhaa
open Go.RowKit
set_option linter.unusedSimpArgs false
set_option linter.unusedVariables false

theorem CubeIn.at3 {B n K k a b cg cc : Nat} {w : World} {vs : List Value} {arcs : List (List Int)} (h : CubeIn B w (.slice (some ⟨cg, 0, none⟩) (K + 1) cc) vs (powL n arcs K)) (hk : k < K + 1) (ha : a < n) (hb : b < n) :
    ∃ mb mo mc rb ro rc, w.cell? ⟨cg, k, none⟩ = some (.slice (some ⟨mb, mo, none⟩) n mc) ∧ w.cell? ⟨mb, mo + a, none⟩ = some (.slice (some ⟨rb, ro, none⟩) n rc) ∧ w.cell? ⟨rb, ro + b, none⟩ = some (.bool (powB n arcs k a b)) := by
  obtain ⟨g', c', e, hf⟩ := h.form (by rw [powL_length]; omega)
  rw [powL_length] at e
  cases e
  obtain ⟨h1, h2⟩ := hf k (by rw [powL_length]; exact hk)
  rw [powL_getD _ _ _ _ hk] at h2
  obtain ⟨ma, mc, e, _, hm⟩ := h2.form
  obtain ⟨mb, mo, u, rfl, hu, hr⟩ := hm a (by rw [powM_length]; exact ha)
  obtain ⟨ra, rc, rfl, _, hrf⟩ := hr.form
  obtain ⟨rb, ro, rfl, hx⟩ := hrf b (by rw [powM_row_length _ _ _ _ ha]; exact hb)
  rw [e, powM_length] at h1
  rw [powM_row_length _ _ _ _ ha] at hu
  exact ⟨mb, mo, mc, rb, ro, rc, h1, hu, hx⟩
theorem may_at2 {B n j a b g cap : Nat} {w : World} {vs : List Value} {arcs : List (List Int)} (h : Bo.MatIn B w (.slice (some ⟨g, 0, none⟩) n cap) vs (mayM n arcs j)) (ha : a < n) (hb : b < n) :
    ∃ gr rc, w.cell? ⟨g, a, none⟩ = some (.slice (some ⟨gr, 0, none⟩) n rc) ∧ w.cell? ⟨gr, b, none⟩ = some (.bool (mayB arcs j a b)) := by
  obtain ⟨g', c', e, hf⟩ := h.form (by rw [mayM_length]; omega)
  simp only [Value.slice.injEq, Option.some.injEq, Addr.mk.injEq] at e
  obtain ⟨⟨rfl, -⟩, -, -⟩ := e
  obtain ⟨h1, _⟩ := hf a (by rw [mayM_length]; exact ha)
  have hR := h.own a (by rw [mayM_length]; exact ha)
  obtain ⟨gr, rcap, hrv, hrc⟩ := hR.form (by rw [mayM_row_length _ _ _ _ ha]; omega)
  obtain ⟨hq1, _⟩ := hrc b (by rw [mayM_row_length _ _ _ _ ha]; exact hb)
  rw [hrv, mayM_row_length _ _ _ _ ha] at h1
  rw [mayM_get _ _ _ _ _ ha hb] at hq1
  exact ⟨gr, rcap, h1, hq1⟩

/-- The next label of the first walk to b, with m steps left behind it. -/
def nxtC (n : Nat) (arcs : List (List Int)) (b m l : Nat) (c : Nat) : Bool := mayB arcs arcs.length l c && powB n arcs m c b
def btwGo (n : Nat) (arcs : List (List Int)) (b : Nat) : Nat → Nat → List Nat
  | 0, _ => []
  | m + 1, l => ((List.range n).find? (nxtC n arcs b m l)).getD 0 :: btwGo n arcs b m (((List.range n).find? (nxtC n arcs b m l)).getD 0)
def btwL (n : Nat) (arcs : List (List Int)) (a b k : Nat) : List Int := (a :: btwGo n arcs b k a).map fun i : Nat => (i : Int)
theorem btwGo_length (n : Nat) (arcs : List (List Int)) (b : Nat) : ∀ m l, (btwGo n arcs b m l).length = m
  | 0, _ => rfl
  | m + 1, l => by rw [btwGo, List.length_cons, btwGo_length]
theorem btwL_length (n : Nat) (arcs : List (List Int)) (a b k : Nat) : (btwL n arcs a b k).length = k + 1 := by simp [btwL, btwGo_length]
theorem btwGo_some {n : Nat} {arcs : List (List Int)} {b m l c : Nat} (hc : c < n) (h : nxtC n arcs b m l c = true) (hb : ∀ j, j < c → nxtC n arcs b m l j = false) : btwGo n arcs b (m + 1) l = c :: btwGo n arcs b m c := by
  have : (List.range n).find? (nxtC n arcs b m l) = some c := by
    rw [List.find?_range_eq_some]
    exact ⟨h, by simpa using hc, fun j hj => by simp [hb j hj]⟩
  rw [btwGo, this]; rfl
/-- A walk begins with a step. -/
theorem powB_first {n : Nat} {arcs : List (List Int)} : ∀ (k a b : Nat), a < n → b < n → (powB n arcs (k + 1) a b = true ↔ ∃ c, c < n ∧ mayB arcs arcs.length a c = true ∧ powB n arcs k c b = true)
  | 0, a, b, ha, hb => by
    rw [powB_succ _ _ _ _ _ ha hb, List.any_eq_true]
    constructor
    · rintro ⟨c, hc, h⟩
      have hc' : c < n := by simpa using hc
      rw [Bool.and_eq_true, powB_zero _ _ _ _ ha hc', decide_eq_true_eq] at h
      obtain ⟨rfl, h2⟩ := h
      exact ⟨b, hb, h2, by rw [powB_zero _ _ _ _ hb hb]; simp⟩
    · rintro ⟨c, hc, h1, h2⟩
      rw [powB_zero _ _ _ _ hc hb, decide_eq_true_eq] at h2
      subst h2
      exact ⟨a, by simpa using ha, by rw [powB_zero _ _ _ _ ha ha]; simpa using h1⟩
  | k + 1, a, b, ha, hb => by
    rw [powB_succ _ _ _ _ _ ha hb, List.any_eq_true]
    constructor
    · rintro ⟨d, hd, h⟩
      have hd' : d < n := by simpa using hd
      rw [Bool.and_eq_true] at h
      obtain ⟨c, hc, h1, h2⟩ := (powB_first k a d ha hd').1 h.1
      refine ⟨c, hc, h1, ?_⟩
      rw [powB_succ _ _ _ _ _ hc hb, List.any_eq_true]
      exact ⟨d, hd, by rw [h2, h.2]; rfl⟩
    · rintro ⟨c, hc, h1, h2⟩
      rw [powB_succ _ _ _ _ _ hc hb, List.any_eq_true] at h2
      obtain ⟨d, hd, h⟩ := h2
      have hd' : d < n := by simpa using hd
      rw [Bool.and_eq_true] at h
      refine ⟨d, hd, ?_⟩
      rw [(powB_first k a d ha hd').2 ⟨c, hc, h1, h.1⟩, h.2]; rfl
theorem nxtC_ex {n : Nat} {arcs : List (List Int)} {b m l : Nat} (hl : l < n) (hb : b < n) (h : powB n arcs (m + 1) l b = true) : ∃ c, c < n ∧ nxtC n arcs b m l c = true := by
  obtain ⟨c, hc, h1, h2⟩ := (powB_first m l b hl hb).1 h
  exact ⟨c, hc, by rw [nxtC, h1, h2]; rfl⟩
def fBtw (n : Nat) (arcs : List (List Int)) (a b k : Nat) : Option (List Int) := if powB n arcs k a b then some (btwL n arcs a b k) else none

set_option maxRecDepth 100000 in
set_option maxHeartbeats 4000000 in
theorem waBetween_any (v : Value) (x : WP) (a b k : Nat) (w : World) (h : RdW w v x) (hg : walkGood x = true) (ha : (a : Int) < x.labels) (hb : (b : Int) < x.labels) (hk : k ≤ 500) :
    Calls Try.prog 78 #[v, .int .i64 a, .int .i64 b, .int .i64 k] w (RetSB w (fBtw x.labels.toNat x.arcs a b k)) := by
  obtain ⟨v1, rfl, r1⟩ := h
  have R1 := Lib.hid r1
  obtain ⟨a1, c1, rfl, m1, _⟩ := r1.form
  clear r1 
  have HG := Lib.hid hg
  obtain ⟨b1, b2, _⟩ := walkGood_arc hg
  obtain ⟨n, hn⟩ : ∃ n : Nat, x.labels = n := ⟨x.labels.toNat, by omega⟩
  have HN := Lib.hid hn
  have HNN : Hid (x.labels.toNat = n) := by show _ = _; omega
  have HX : Hid (mayL x = mayM n x.arcs x.arcs.length) := by show _ = _; rw [mayL, HNN.out]
  have HF : Hid (fBtw n x.arcs a b k = if powB n x.arcs k a b then some (btwL n x.arcs a b k) else none) := rfl
  have hn12 : n ≤ 12 := by omega
  have han : a < n := by omega
  have hbn : b < n := by omega
  rw [HNN.out]
  clear hg hn
  have K0 : Hid (Keeps w (w.alloc (.cells #[.int .i64 x.labels, .slice a1 x.arcs.length c1] 27))) := (Keeps.refl _).alloc _
  have C0 : Hid ((w.alloc (.cells #[.int .i64 x.labels, .slice a1 x.arcs.length c1] 27)).cell? ⟨w.heap.size, 0, none⟩ = some (.int .i64 x.labels)) := by show _ = _; rw [World.cell?_alloc_at _ _ _ _ rfl]; rfl
  have C1 : Hid ((w.alloc (.cells #[.int .i64 x.labels, .slice a1 x.arcs.length c1] 27)).cell? ⟨w.heap.size, 1, none⟩ = some (.slice a1 x.arcs.length c1)) := by show _ = _; rw [World.cell?_alloc_at _ _ _ _ rfl]; rfl
  cases hp : powB n x.arcs k a b
  all_goals
    have HP := Lib.hid hp
    clear hp
    go_enter Try.func78, Try.ntmps78
    go_wp2_with fail
    refine (waPowers_any _ x k _ ⟨_, rfl, R1.out.keep K0.out⟩ (WIn.of HG.out) (by omega)).mono ?_
    rintro e w1 ⟨cv, cvs, rfl, hC, hk⟩
    have HK1 := Lib.hid (Keeps.trans K0.out hk)
    have D0 := cell_keep hk C0.out
    have D1 := cell_keep hk C1.out
    clear hk
    rw [HNN.out] at hC
    have HC := Lib.hid hC
    obtain ⟨cg, cc, rfl, -⟩ := hC.form (by rw [powL_length]; omega)
    rw [powL_length] at *
    clear hC
    obtain ⟨mb, mo, mc, rb, ro, rc, q1, q2, q3⟩ := HC.out.at3 (k := k) (by omega) han hbn
    rw [HP.out] at q3
  · go_wp2
    go_ret2
    rw [HF.out, HP.out]
    exact RetSB.none HK1.out
  go_wp2_with fail
  refine (waMay_any _ x _ ⟨_, rfl, R1.out.keep HK1.out⟩ (WIn.of HG.out)).mono ?_
  rintro e w2 ⟨yv, yvs, rfl, hY, hk⟩
  have HK2 := Lib.hid (Keeps.trans HK1.out hk)
  have E0 := cell_keep hk D0
  have E1 := cell_keep hk D1
  have HC2 := Lib.hid (HC.out.keep hk)
  clear hk HC
  have HY := Lib.hid hY
  rw [HX.out] at HY
  obtain ⟨yg, yc, rfl, -⟩ := HY.out.form (by rw [mayM_length]; omega)
  rw [mayM_length] at *
  have HE0 := Lib.hid E0
  clear hY q1 q2 q3 D0 D1 E0 E1
  go_wp2
  have HS0 := Lib.hid (Own.one w2.heap.size w2 (a : Int) (Nat.le_refl _))
  go_loopw [12, 13] (fun ov nv wr => ∃ (m : Nat) (L : List Int) (l : Nat), nv = .int .i64 ((m : Int) - 1) ∧ m ≤ k ∧ l < n ∧ L.length + m = k + 1 ∧ L.getD (L.length - 1) 0 = (l : Int) ∧ powB n x.arcs m l b = true ∧ L ++ (btwGo n x.arcs b m l).map (fun i : Nat => (i : Int)) = btwL n x.arcs a b k ∧ Own w2.heap.size wr ov L ∧ Keeps w2 wr) (fun _ nv _ => (intOf nv + 1).toNat)
  case atStart => exact ⟨k, [(a : Int)], a, rfl, Nat.le_refl _, han, by simp; omega, rfl, HP.out, rfl, HS0.out, (Keeps.refl _).alloc _⟩
  case round =>
    obtain ⟨m, L, l, rfl, hm, hl, hlen, hlast, hpw, hfull, hO, hK⟩ := hrel
    have HLast := Lib.hid hlast
    have HPW := Lib.hid hpw
    have HFU := Lib.hid hfull
    have HO := Lib.hid hO
    have HK := Lib.hid hK
    have HLen := Lib.hid hlen
    have hL0 : 0 < L.length := by omega
    have hL9 : L.length < 1000000000 := by omega
    obtain ⟨og, oc, rfl, hof⟩ := hO.form hL0
    obtain ⟨hol, _⟩ := hof (L.length - 1) (by omega)
    rw [hlast] at hol
    clear hlast hpw hfull hO hK hof HS0 hlen
    have F0 := cell_keep HK.out HE0.out
    rw [HN.out] at F0
    by_cases hlt : 0 ≤ (m : Int) - 1
    · obtain ⟨m', rfl⟩ : ∃ m', m = m' + 1 := ⟨m - 1, by omega⟩
      have e0 : ((m' + 1 : Nat) : Int) - 1 = (m' : Int) := by omega
      rw [e0] at hlt ⊢
      have HE := Lib.hid (nxtC_ex hl hbn HPW.out)
      clear e0
      obtain ⟨wo, hwo⟩ : ∃ wo : World, wo = wr := ⟨_, rfl⟩
      subst hwo
      go_wp2
      go_loopw [12, 14] (fun ov cv wr => ∃ c : Nat, ov = .slice (some ⟨og, 0, none⟩) L.length oc ∧ wr = wo ∧ cv = .int .i64 c ∧ c ≤ n ∧ ∀ j, j < c → nxtC n x.arcs b m' l j = false) (fun _ cv _ => n - (intOf cv).toNat)
      case atStart => exact ⟨0, rfl, rfl, rfl, Nat.zero_le _, fun j hj => by omega⟩
      case round =>
        obtain ⟨c, rfl, rfl, rfl, hc, hall⟩ := hrel
        have HA := Lib.hid hall
        clear hall
        by_cases hcn : c < n
        · obtain ⟨gr, grc, y1, y2⟩ := may_at2 (HY.out.keep HK.out) hl hcn
          obtain ⟨mb, mo, mc, rb, ro, rc, q1, q2, q3⟩ := (HC2.out.keep HK.out).at3 (k := m') (by omega) hcn hbn
          have HNC : Hid (nxtC n x.arcs b m' l c = (mayB x.arcs x.arcs.length l c && powB n x.arcs m' c b)) := rfl
          have hm1 : m' < k + 1 := by omega
          have hd0 : 0 ≤ (L.length : Int) - 1 := by omega
          have hd2 : L.length - 1 < L.length := by omega
          generalize mayB x.arcs x.arcs.length l c = r1 at *
          generalize hr2 : powB n x.arcs m' c b = r2 at *
          have HR2 := Lib.hid hr2
          clear hr2
          cases r1
          · go_wp2
            go_roundw
            case rel =>
              refine ⟨c + 1, (by first | rfl | trivial), (by first | rfl | trivial), by go_num, by omega, fun j hj => ?_⟩
              by_cases e : j = c
              · rw [e]; exact HNC.out
              · exact HA.out j (by omega)
            case measure => simp [intOf]; omega
          · cases r2
            · go_wp2
              go_roundw
              case rel =>
                refine ⟨c + 1, (by first | rfl | trivial), (by first | rfl | trivial), by go_num, by omega, fun j hj => ?_⟩
                by_cases e : j = c
                · rw [e]; exact HNC.out
                · exact HA.out j (by omega)
              case measure => simp [intOf]; omega
            · go_wp2_with (at_builtin; refine wpL_app1 HO.out hL9 HK.out.size rfl rfl rfl rfl ?_; intro v' w3 hA)
              go_roundw
              case rel =>
                refine ⟨m', L ++ [(c : Int)], c, rfl, by omega, hcn, by have := HLen.out; simp; omega, by simp, HR2.out, ?_, hA.own, hA.keeps HK.out (Nat.le_refl _)⟩
                have := HFU.out
                rw [btwGo_some hcn HNC.out HA.out] at this
                rw [← this]
                simp
              case measure => simp [intOf]
        · obtain ⟨c', hc', ht⟩ := HE.out
          rw [HA.out c' (by omega)] at ht
          cases ht
    · go_wp2
      go_ret2
      have hm0 : m = 0 := by omega
      have h5 := HFU.out
      rw [hm0] at h5
      simp only [btwGo, List.map_nil, List.append_nil] at h5
      rw [HF.out, HP.out, if_pos rfl]
      refine ⟨_, rfl, ?_, ?_, Keeps.trans HK2.out HK.out⟩
      · show Own _ _ _ (btwL n x.arcs a b k)
        rw [← h5]; exact HO.out.mono HK2.out.size
      · show (btwL n x.arcs a b k).length ≤ 1000000000
        rw [btwL_length]; omega
end Go.Proofs.Ytcjmpodljhcbhaa
