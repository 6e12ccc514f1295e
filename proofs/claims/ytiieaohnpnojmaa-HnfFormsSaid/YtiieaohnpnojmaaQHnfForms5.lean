/- The law HnfForms, as it is stated, of the given program, for every input; no condition. -/
import Derived.Test.YtiieaohnpnojmaaQHnfForms4
import Derived.Deep.SlicePairs
import Derived.Test.YtiieaohnpnojmaaRows
/- Hermite's form, as it is brought about step by step: what is so of it. No program here. -/
namespace Go.Hp
open Go.Dt Go.Hn Go.Pz Go.Nt Go.Mz
/-- the numbers of some rows -/
def E (rs : List (List Int)) : MatF := fun i k => cf (rs.getD i []) k
theorem E_set {rs : List (List Int)} {i : Nat} {x : List Int} (hi : i < rs.length) (j : Nat) : E (rs.set i x) j = if j = i then cf x else E rs j := by
  funext k
  unfold E
  by_cases e : j = i
  · subst e
    rw [if_pos rfl, List.getD, List.getElem?_set_self hi]; rfl
  · rw [if_neg e, List.getD, List.getElem?_set_ne (fun h => e h.symm)]; rfl
theorem E_of {rs : List (List Int)} {i : Nat} {x : List Int} (h : rs[i]? = some x) : E rs i = cf x := by funext k; unfold E; rw [getD_of h]
/-- what the numbers of rows that stay are -/
theorem E_same {rs rs' : List (List Int)} {i : Nat} (h : rs'[i]? = rs[i]?) : E rs' i = E rs i := by funext k; unfold E; rw [List.getD, List.getD, h]
theorem eqv_set {rs : List (List Int)} {W t : Nat} {x : List Int} {y z : Int} (ht : t < rs.length) {b : Nat} (hb : b < rs.length) (hne : b ≠ t)
    (hx : ∀ k, cf x k = E rs t k + z * E rs b k) (hy : y = -z) : Eqv rs.length rs.length W (E rs) (E (rs.set t x)) := by
  subst hy
  have e := E_set (x := x) ht
  refine ⟨fun i hi => ?_, fun i hi => ?_⟩
  · by_cases hit : i = t
    · subst hit
      refine ((SpZ.row (E (rs.set i x)) ht).comb 1 (-z) (SpZ.row (E (rs.set i x)) hb)).congr fun k _ => ?_
      show _ = 1 * E (rs.set i x) i k + (-z) * E (rs.set i x) b k
      rw [e i, if_pos rfl, e b, if_neg hne, hx]
      grind
    · exact (SpZ.row (E (rs.set t x)) hi).congr fun k _ => by rw [e i, if_neg hit]
  · by_cases hit : i = t
    · subst hit
      refine ((SpZ.row (E rs) ht).comb 1 z (SpZ.row (E rs) hb)).congr fun k _ => ?_
      rw [e i, if_pos rfl, hx]
      show _ = 1 * E rs i k + z * E rs b k
      omega
    · exact (SpZ.row (E rs) hi).congr fun k _ => by rw [e i, if_neg hit]
theorem jn_eqv {rs : List (List Int)} {t i col W V : Nat} (hrow : ∀ r ∈ rs, r.length = W) (hti : t ≠ i) (ht : t < rs.length) (hi : i < rs.length) : Eqv rs.length rs.length V (E rs) (E (jn rs t i col)) := by
  obtain ⟨p, hp⟩ : ∃ p, rs[t]? = some p := ⟨_, List.getElem?_eq_getElem ht⟩
  obtain ⟨q, hq⟩ : ∃ q, rs[i]? = some q := ⟨_, List.getElem?_eq_getElem hi⟩
  by_cases h : xgg (cf p col) (cf q col) = 0
  · rw [jn_no hp hq h]; exact Eqv.refl _ _ _
  rw [jn_go hp hq h]
  have hl : q.length = p.length := (hrow q (List.mem_of_getElem? hq)).trans (hrow p (List.mem_of_getElem? hp)).symm
  have hb := xg_bezout (cf p col) (cf q col)
  obtain ⟨u, hu⟩ := xgg_left (cf p col) (cf q col)
  obtain ⟨v, hv⟩ := xgg_right (cf p col) (cf q col)
  have eu : (cf p col).tdiv (xgg (cf p col) (cf q col)) = u := by
    conv => lhs; lhs; rw [hu]
    exact Int.mul_tdiv_cancel_left _ h
  have ev : (cf q col).tdiv (xgg (cf p col) (cf q col)) = v := by
    conv => lhs; lhs; rw [hv]
    exact Int.mul_tdiv_cancel_left _ h
  rw [eu, ev]
  generalize hX : xgx (cf p col) (cf q col) = X at *
  generalize hY : xgy (cf p col) (cf q col) = Y at *
  have h1 : X * u + Y * v = 1 := by
    generalize xgg (cf p col) (cf q col) = g at *
    have : g * (X * u + Y * v) = g * 1 := by rw [hu, hv] at hb; grind
    exact Int.eq_of_mul_eq_mul_left h this
  have ep := E_of hp
  have eq' := E_of hq
  have e : ∀ j, E ((rs.set t (mx2 X p Y q)).set i (mx2 (-v) p u q)) j = if j = i then cf (mx2 (-v) p u q) else if j = t then cf (mx2 X p Y q) else E rs j := fun j => by
    rw [E_set (by rw [List.length_set]; exact hi), E_set ht]
  have c1 : ∀ k, cf (mx2 X p Y q) k = X * cf p k + Y * cf q k := cf_mx2 hl
  have c2 : ∀ k, cf (mx2 (-v) p u q) k = -v * cf p k + u * cf q k := cf_mx2 hl
  generalize hr : (rs.set t (mx2 X p Y q)).set i (mx2 (-v) p u q) = rs' at *
  have rt : SpZ rs.length V (E rs') (cf (mx2 X p Y q)) := (SpZ.row (E rs') ht).congr fun k _ => by rw [e t, if_neg hti, if_pos rfl]
  have ri : SpZ rs.length V (E rs') (cf (mx2 (-v) p u q)) := (SpZ.row (E rs') hi).congr fun k _ => by rw [e i, if_pos rfl]
  have sp : SpZ rs.length V (E rs) (cf p) := (SpZ.row (E rs) ht).congr fun k _ => by rw [ep]
  have sq : SpZ rs.length V (E rs) (cf q) := (SpZ.row (E rs) hi).congr fun k _ => by rw [eq']
  refine ⟨fun j hj => ?_, fun j hj => ?_⟩
  · by_cases hjt : j = t
    · subst hjt
      refine (rt.comb u (-Y) ri).congr fun k _ => ?_
      rw [ep]
      show cf p k = u * cf (mx2 X p Y q) k + (-Y) * cf (mx2 (-v) p u q) k
      rw [c1, c2]
      have : cf p k = (X * u + Y * v) * cf p k := by rw [h1, Int.one_mul]
      grind
    · by_cases hji : j = i
      · subst hji
        refine (rt.comb v X ri).congr fun k _ => ?_
        rw [eq']
        show cf q k = v * cf (mx2 X p Y q) k + X * cf (mx2 (-v) p u q) k
        rw [c1, c2]
        have : cf q k = (X * u + Y * v) * cf q k := by rw [h1, Int.one_mul]
        grind
      · exact (SpZ.row (E rs') hj).congr fun k _ => by rw [e j, if_neg hji, if_neg hjt]
  · rw [show E rs' j = if j = i then cf (mx2 (-v) p u q) else if j = t then cf (mx2 X p Y q) else E rs j from e j]
    split
    · exact (sp.comb (-v) u sq).congr fun k _ => c2 k
    · split
      · exact (sp.comb X Y sq).congr fun k _ => c1 k
      · exact SpZ.row (E rs) hj
theorem jns_eqv {rs : List (List Int)} {t col W V : Nat} (hrow : ∀ r ∈ rs, r.length = W) (ht : t < rs.length) : ∀ n, t + 1 + n ≤ rs.length → Eqv rs.length rs.length V (E rs) (E (jns rs t col n))
  | 0, _ => Eqv.refl _ _ _
  | n + 1, hn => by
    have ih := jns_eqv hrow ht (col := col) (V := V) n (by omega)
    have hl := jns_len rs t col n
    have h2 := jn_eqv (V := V) (col := col) (jns_row hrow ht (col := col) n) (show t ≠ t + 1 + n by omega) (by omega) (show t + 1 + n < _ by omega)
    rw [hl] at h2
    exact ih.trans h2
theorem rds_eqv {rs : List (List Int)} {t col W V : Nat} (hrow : ∀ r ∈ rs, r.length = W) (ht : t < rs.length) : ∀ n, n ≤ t → Eqv rs.length rs.length V (E rs) (E (rds rs t col n))
  | 0, _ => Eqv.refl _ _ _
  | n + 1, hn => by
    have ih := rds_eqv hrow ht (col := col) (V := V) n (by omega)
    have hl := rds_len rs t col n
    have hr := rds_row hrow ht (col := col) n (by omega)
    have h2 := eqv_set (rs := rds rs t col n) (W := V) (t := n) (b := t) (x := mx2 1 ((rds rs t col n).getD n []) (-(cf ((rds rs t col n).getD n []) col / cf ((rds rs t col n).getD t []) col)) ((rds rs t col n).getD t [])) (z := -(cf ((rds rs t col n).getD n []) col / cf ((rds rs t col n).getD t []) col)) (by omega) (by omega) (by omega) (fun k => by
      rw [cf_mx2 ((all_getD hr (by omega)).trans (all_getD hr (by omega)).symm), Int.one_mul]; rfl) rfl
    rw [hl] at h2
    exact ih.trans h2
theorem hsg_eqv {rs : List (List Int)} {t col V : Nat} (ht : t < rs.length) : Eqv rs.length rs.length V (E rs) (E (hsg rs t col)) := by
  unfold hsg
  split
  · have e := E_set (x := mx2 (-1) (rs.getD t []) 0 (rs.getD t [])) ht
    have c : ∀ k, cf (mx2 (-1) (rs.getD t []) 0 (rs.getD t [])) k = -1 * E rs t k + 0 * E rs t k := cf_mx2 rfl
    refine ⟨fun i hi => ?_, fun i hi => ?_⟩
    · by_cases hit : i = t
      · subst hit
        refine ((SpZ.row (E (rs.set i (mx2 (-1) (rs.getD i []) 0 (rs.getD i [])))) ht).comb (-1) 0 (SpZ.row _ ht)).congr fun k _ => ?_
        show _ = -1 * E _ i k + 0 * E _ i k
        rw [e i, if_pos rfl, c]; omega
      · exact (SpZ.row _ hi).congr fun k _ => by rw [e i, if_neg hit]
    · by_cases hit : i = t
      · subst hit
        exact ((SpZ.row (E rs) ht).comb (-1) 0 (SpZ.row _ ht)).congr fun k _ => by rw [e i, if_pos rfl, c]
      · exact (SpZ.row _ hi).congr fun k _ => by rw [e i, if_neg hit]
  · exact Eqv.refl _ _ _
theorem hcol_eqv {s : HS} {W V : Nat} (col : Nat) (h : s.top < s.rows.length) (hr : ∀ r ∈ s.rows, r.length = W) : Eqv s.rows.length s.rows.length V (E s.rows) (E (hcol s col).rows) := by
  have h1 := jns_eqv (V := V) (col := col) hr h (s.rows.length - (s.top + 1)) (by omega)
  unfold hcol hjs
  split
  · exact h1
  · have hl := jns_len s.rows s.top col (s.rows.length - (s.top + 1))
    have h2 := hsg_eqv (V := V) (col := col) (rs := jns s.rows s.top col (s.rows.length - (s.top + 1))) (t := s.top) (by omega)
    have h3 := rds_eqv (V := V) (col := col) (rs := hsg (jns s.rows s.top col (s.rows.length - (s.top + 1))) s.top col) (t := s.top) (hsg_row (jns_row hr h _) (by omega)) (by rw [hsg_len]; omega) s.top (Nat.le_refl _)
    rw [hsg_len, hl] at h3
    rw [hl] at h2
    exact h1.trans (h2.trans h3)
theorem hred_eqv {R W K V : Nat} {s : HS} (h : HOk R W K s) : ∀ c, Eqv R R V (E s.rows) (E (hred s c).rows)
  | 0 => Eqv.refl _ _ _
  | c + 1 => by
    have ih := hred_eqv (V := V) h c
    have ho := hred_ok h c
    show Eqv R R V _ (E (if _ then _ else _ : HS).rows)
    split
    · rename_i ht
      have h2 := hcol_eqv (V := V) c ht ho.row
      rw [ho.len] at h2
      exact ih.trans h2
    · exact ih
/-! ### the form's shape -/
/-- what is so of the rows when the columns ahead of one are done -/
structure HI (R : Nat) (s : HS) (P : Nat → Nat) (c : Nat) : Prop where
  plt : ∀ i, i < s.top → P i < c
  pup : ∀ i j, i < j → j < s.top → P i < P j
  lead : ∀ i k, i < s.top → k < P i → E s.rows i k = 0
  pos : ∀ i, i < s.top → 0 < E s.rows i (P i)
  zero : ∀ i k, s.top ≤ i → i < R → k < c → E s.rows i k = 0
  red : ∀ i r, r < i → i < s.top → 0 ≤ E s.rows r (P i) ∧ E s.rows r (P i) < E s.rows i (P i)
/-- rows behind top, joined: they are 0 where all of them were, and in the column -/
theorem jns_zero {rs : List (List Int)} {t col W k : Nat} (hrow : ∀ r ∈ rs, r.length = W) (ht : t < rs.length) (h0 : ∀ i, t ≤ i → i < rs.length → E rs i k = 0) : ∀ n, t + 1 + n ≤ rs.length → ∀ i, t ≤ i → i < rs.length → E (jns rs t col n) i k = 0
  | 0, _ => h0
  | n + 1, hn => by
    have ih := jns_zero hrow ht (col := col) h0 n (by omega)
    have hl := jns_len rs t col n
    have hr := jns_row hrow ht (col := col) n
    intro i hi hiR
    show E (jn _ _ _ _) i k = 0
    unfold jn
    split
    · exact ih i hi hiR
    · have e1 : ((jns rs t col n).getD (t + 1 + n) []).length = ((jns rs t col n).getD t []).length := (all_getD hr (by omega)).trans (all_getD hr (by omega)).symm
      have z1 : cf ((jns rs t col n).getD t []) k = 0 := ih t (Nat.le_refl _) ht
      have z2 : cf ((jns rs t col n).getD (t + 1 + n) []) k = 0 := ih (t + 1 + n) (by omega) (by omega)
      rw [E_set (by rw [List.length_set]; omega), E_set (by omega)]
      split
      · rw [cf_mx2 e1, z1, z2]; omega
      · split
        · rw [cf_mx2 e1, z1, z2]; omega
        · exact ih i hi hiR
theorem jns_done {rs : List (List Int)} {t col W : Nat} (hrow : ∀ r ∈ rs, r.length = W) (ht : t < rs.length) : ∀ n, t + 1 + n ≤ rs.length → ∀ i, t < i → i < t + 1 + n → E (jns rs t col n) i col = 0
  | 0, _, i, h1, h2 => absurd h2 (by omega)
  | n + 1, hn, i, h1, h2 => by
    have ih := jns_done hrow ht (col := col) n (by omega)
    have hl := jns_len rs t col n
    have hr := jns_row hrow ht (col := col) n
    have e1 : ((jns rs t col n).getD (t + 1 + n) []).length = ((jns rs t col n).getD t []).length := (all_getD hr (by omega)).trans (all_getD hr (by omega)).symm
    show E (jn _ _ _ _) i col = 0
    unfold jn
    split
    · rename_i h0
      rcases Nat.lt_or_ge i (t + 1 + n) with h3 | h3
      · exact ih i h1 h3
      · rw [show i = t + 1 + n by omega]; exact (xgg_zero.1 h0).2
    · rename_i h0
      rw [E_set (by rw [List.length_set]; omega), E_set (by omega)]
      split
      · rw [cf_mx2 e1]
        obtain ⟨u, hu⟩ := xgg_left (cf ((jns rs t col n).getD t []) col) (cf ((jns rs t col n).getD (t + 1 + n) []) col)
        obtain ⟨v, hv⟩ := xgg_right (cf ((jns rs t col n).getD t []) col) (cf ((jns rs t col n).getD (t + 1 + n) []) col)
        generalize xgg (cf ((jns rs t col n).getD t []) col) (cf ((jns rs t col n).getD (t + 1 + n) []) col) = g at *
        generalize cf ((jns rs t col n).getD t []) col = a at *
        generalize cf ((jns rs t col n).getD (t + 1 + n) []) col = b at *
        subst hu; subst hv
        rw [Int.mul_tdiv_cancel_left _ h0, Int.mul_tdiv_cancel_left _ h0]
        grind
      · rename_i h3
        rw [if_neg (by omega)]
        exact ih i h1 (by omega)
theorem E_low {rs : List (List Int)} {t col n j : Nat} (hj : j < t) : E (jns rs t col n) j = E rs j := E_same (jns_off hj n)
theorem rds_at {rs : List (List Int)} {t col W : Nat} (hrow : ∀ r ∈ rs, r.length = W) (ht : t < rs.length) : ∀ n, n ≤ t → ∀ i k, E (rds rs t col n) i k = if i < n then E rs i k - (E rs i col / E rs t col) * E rs t k else E rs i k
  | 0, _, i, k => by rw [if_neg (by omega)]; rfl
  | n + 1, hn, i, k => by
    have ih := rds_at hrow ht (col := col) n (by omega)
    have hl := rds_len rs t col n
    have hr := rds_row hrow ht (col := col) n (by omega)
    show E (rd _ _ _ _) i k = _
    unfold rd
    rw [E_set (by omega)]
    have e1 : ∀ k, cf ((rds rs t col n).getD t []) k = E rs t k := fun k => (ih t k).trans (if_neg (by omega))
    have e2 : ∀ k, cf ((rds rs t col n).getD n []) k = E rs n k := fun k => (ih n k).trans (if_neg (by omega))
    split
    · rename_i h1
      subst h1
      rw [if_pos (by omega), cf_mx2 ((all_getD hr (by omega)).trans (all_getD hr (by omega)).symm), e1, e2, e1, e2]
      grind
    · rw [ih i k]
      by_cases h2 : i < n
      · rw [if_pos h2, if_pos (by omega)]
      · rw [if_neg h2, if_neg (by omega)]
theorem hsg_at {rs : List (List Int)} {t col : Nat} (ht : t < rs.length) (i k : Nat) : E (hsg rs t col) i k = if i = t ∧ E rs t col < 0 then -(E rs t k) else E rs i k := by
  unfold hsg
  have e : cf (rs.getD t []) col = E rs t col := rfl
  rw [e]
  split
  · rename_i h
    rw [E_set ht]
    split
    · rename_i h2
      rw [if_pos ⟨h2, h⟩, cf_mx2 rfl]
      show -1 * E rs t k + 0 * E rs t k = _
      omega
    · rename_i h2
      rw [if_neg fun h3 => h2 h3.1]
  · rename_i h
    rw [if_neg fun h3 => h h3.2]
theorem HI.step {R W : Nat} {s : HS} {P : Nat → Nat} {c : Nat} (h : HI R s P c) (hl : s.rows.length = R) (hr : ∀ r ∈ s.rows, r.length = W) (ht : s.top < R) : ∃ P', HI R (hcol s c) P' (c + 1) := by
  subst hl
  obtain ⟨A, hA⟩ : ∃ A, A = jns s.rows s.top c (s.rows.length - (s.top + 1)) := ⟨_, rfl⟩
  have hAl : A.length = s.rows.length := by rw [hA]; exact jns_len _ _ _ _
  have hAr : ∀ r ∈ A, r.length = W := by rw [hA]; exact jns_row hr ht _
  have hAlow : ∀ i, i < s.top → E A i = E s.rows i := fun i hi => by rw [hA]; exact E_low hi
  have hAz : ∀ i k, s.top ≤ i → i < s.rows.length → k < c → E A i k = 0 := fun i k h1 h2 h3 => by rw [hA]; exact jns_zero hr ht (fun j g1 g2 => h.zero j k g1 g2 h3) _ (by omega) i h1 h2
  have hAd : ∀ i, s.top < i → i < s.rows.length → E A i c = 0 := fun i h1 h2 => by rw [hA]; exact jns_done hr ht _ (by omega) i h1 (by omega)
  have he : hcol s c = if E A s.top c = 0 then ⟨A, s.top⟩ else ⟨rds (hsg A s.top c) s.top c s.top, s.top + 1⟩ := by rw [hA]; rfl
  rw [he]
  by_cases h0 : E A s.top c = 0
  · rw [if_pos h0]
    refine ⟨P, fun i hi => Nat.lt_succ_of_lt (h.plt i hi), h.pup, fun i k hi hk => ?_, fun i hi => ?_, fun i k h1 h2 h3 => ?_, fun i r h1 h2 => ?_⟩
    · show E A i k = 0; rw [hAlow i hi]; exact h.lead i k hi hk
    · show 0 < E A i (P i); rw [hAlow i hi]; exact h.pos i hi
    · show E A i k = 0
      rcases Nat.lt_or_ge k c with h4 | h4
      · exact hAz i k h1 h2 h4
      · obtain rfl : k = c := by omega
        rcases Nat.lt_or_ge s.top i with h5 | h5
        · exact hAd i h5 h2
        · have h6 : s.top ≤ i := h1
          rw [show i = s.top by omega]; exact h0
    · show 0 ≤ E A r (P i) ∧ E A r (P i) < E A i (P i)
      have h2' : i < s.top := h2
      rw [hAlow i h2, hAlow r (by omega)]; exact h.red i r h1 h2
  · rw [if_neg h0]
    obtain ⟨B, hB⟩ : ∃ B, B = hsg A s.top c := ⟨_, rfl⟩
    have hBat : ∀ i k, E B i k = if i = s.top ∧ E A s.top c < 0 then -(E A s.top k) else E A i k := by rw [hB]; exact hsg_at (by omega)
    have hBl : B.length = s.rows.length := by rw [hB, hsg_len, hAl]
    have hBr : ∀ r ∈ B, r.length = W := by rw [hB]; exact hsg_row hAr (by omega)
    have hBc : 0 < E B s.top c := by
      rw [hBat]
      by_cases h1 : E A s.top c < 0
      · rw [if_pos ⟨rfl, h1⟩]; omega
      · rw [if_neg fun h2 => h1 h2.2]; omega
    have hBlow : ∀ i k, i ≠ s.top → E B i k = E A i k := fun i k hi => by rw [hBat, if_neg fun h2 => hi h2.1]
    have hBz : ∀ k, k < c → E B s.top k = 0 := fun k hk => by
      rw [hBat]
      have := hAz s.top k (Nat.le_refl _) ht hk
      split <;> omega
    rw [← hB]
    have hDat := rds_at (col := c) hBr (show s.top < B.length by omega) s.top (Nat.le_refl _)
    obtain ⟨D, hD⟩ : ∃ D, D = rds B s.top c s.top := ⟨_, rfl⟩
    rw [← hD] at hDat ⊢
    have hDlow : ∀ i k, i < s.top → k < c → E D i k = E s.rows i k := fun i k hi hk => by
      rw [hDat, if_pos hi, hBz k hk, Int.mul_zero, Int.sub_zero, hBlow i k (by omega), hAlow i hi]
    refine ⟨fun i => if i = s.top then c else P i, fun i hi => ?_, fun i j h1 h2 => ?_, fun i k hi hk => ?_, fun i hi => ?_, fun i k h1 h2 h3 => ?_, fun i r h1 h2 => ?_⟩
    · have hi' : i < s.top + 1 := hi
      show (if i = s.top then c else P i) < c + 1
      split
      · omega
      · have := h.plt i (by omega); omega
    · have h2' : j < s.top + 1 := h2
      show (if i = s.top then c else P i) < if j = s.top then c else P j
      rw [if_neg (show ¬ i = s.top by omega)]
      split
      · exact h.plt i (by omega)
      · exact h.pup i j h1 (by omega)
    · have hi' : i < s.top + 1 := hi
      show E D i k = 0
      by_cases e : i = s.top
      · simp only [if_pos e] at hk
        subst e
        rw [hDat, if_neg (by omega)]; exact hBz k hk
      · simp only [if_neg e] at hk
        have := h.plt i (by omega)
        rw [hDlow i k (by omega) (by omega)]; exact h.lead i k (by omega) hk
    · have hi' : i < s.top + 1 := hi
      show 0 < E D i (if i = s.top then c else P i)
      by_cases e : i = s.top
      · rw [if_pos e, e, hDat, if_neg (by omega)]; exact hBc
      · rw [if_neg e, hDlow i _ (by omega) (h.plt i (by omega))]; exact h.pos i (by omega)
    · have h1' : s.top + 1 ≤ i := h1
      show E D i k = 0
      rw [hDat, if_neg (by omega), hBlow i k (by omega)]
      rcases Nat.lt_or_ge k c with h4 | h4
      · exact hAz i k (by omega) h2 h4
      · obtain rfl : k = c := by omega
        exact hAd i (by omega) h2
    · have h2' : i < s.top + 1 := h2
      show 0 ≤ E D r (if i = s.top then c else P i) ∧ E D r (if i = s.top then c else P i) < E D i (if i = s.top then c else P i)
      by_cases e : i = s.top
      · rw [if_pos e, e, hDat r, if_pos (by omega), hDat s.top, if_neg (by omega)]
        have e1 := Int.emod_nonneg (E B r c) (show E B s.top c ≠ 0 by omega)
        have e2 := Int.emod_lt_of_pos (E B r c) hBc
        have e3 := Int.emod_add_mul_ediv (E B r c) (E B s.top c)
        rw [Int.mul_comm] at e3
        omega
      · have := h.plt i (by omega)
        rw [if_neg e, hDlow i _ (by omega) this, hDlow r _ (by omega) this]
        exact h.red i r h1 (by omega)
theorem HI.start (R : Nat) (rows : List (List Int)) : HI R ⟨rows, 0⟩ (fun _ => 0) 0 where
  plt i h := absurd h (Nat.not_lt_zero _)
  pup i j _ h := absurd h (Nat.not_lt_zero _)
  lead i k h := absurd h (Nat.not_lt_zero _)
  pos i h := absurd h (Nat.not_lt_zero _)
  zero i k _ _ h := absurd h (Nat.not_lt_zero _)
  red i r _ h := absurd h (Nat.not_lt_zero _)
theorem HI.wait {R : Nat} {s : HS} {P : Nat → Nat} {c : Nat} (h : HI R s P c) (ht : R ≤ s.top) : HI R s P (c + 1) where
  plt i hi := Nat.lt_succ_of_lt (h.plt i hi)
  pup := h.pup
  lead := h.lead
  pos := h.pos
  zero i k h1 h2 _ := absurd h2 (by omega)
  red := h.red
theorem hred_HI {R W K : Nat} {rows : List (List Int)} (h : HOk R W K ⟨rows, 0⟩) : ∀ c, ∃ P, HI R (hred ⟨rows, 0⟩ c) P c
  | 0 => ⟨_, HI.start R rows⟩
  | c + 1 => by
    obtain ⟨P, hP⟩ := hred_HI h c
    have ho := hred_ok h c
    show ∃ P, HI R (if (hred ⟨rows, 0⟩ c).top < (hred ⟨rows, 0⟩ c).rows.length then hcol (hred ⟨rows, 0⟩ c) c else hred ⟨rows, 0⟩ c) P (c + 1)
    split
    · rename_i ht
      exact hP.step ho.len ho.row (by rw [ho.len] at ht; exact ht)
    · rename_i ht
      exact ⟨P, hP.wait (by rw [ho.len] at ht; omega)⟩
theorem HI.form {R C : Nat} {s : HS} {P : Nat → Nat} (h : HI R s P C) : HermF R C (E s.rows) := by
  have hfc : ∀ i, i < R → (i < s.top → fc C (E s.rows i) = P i) ∧ (s.top ≤ i → fc C (E s.rows i) = C) := fun i hi => by
    refine ⟨fun h1 => fc_at (h.plt i h1) (fun k hk => h.lead i k h1 hk) (by have := h.pos i h1; omega), fun h1 => fc_all fun k hk => h.zero i k h1 hi hk⟩
  intro i hi hc
  have hit : i < s.top := by
    rcases Nat.lt_or_ge i s.top with h1 | h1
    · exact h1
    · have := (hfc i hi).2 h1; omega
  rw [(hfc i hi).1 hit]
  refine ⟨fun h0 => by rw [(hfc (i - 1) (by omega)).1 (by omega)]; exact h.pup _ _ (by omega) hit, h.pos i hit, fun r hr => h.red i r hr hit⟩
/-! ### all of it -/
theorem row0_E {C R : Nat} {L : List Int} {i : Nat} (hi : i < R) (k : Nat) : E (rows0 C R L R) i k = if k < C + R then (if k < C then cf L (i * C + k) else if k = C + i then 1 else 0) else 0 := by
  have h : (rows0 C R L R)[i]? = some (row0 C R L i) := by unfold rows0; rw [List.getElem?_map, List.getElem?_range hi]; rfl
  rw [E_of h]
  unfold row0
  rw [cf_tab]
/-- Hermite's form of a matrix, and what makes it -/
def hF (R C : Nat) (L : List Int) : MatF := fun i k => E (hrm R C L).rows i k
def uF (R C : Nat) (L : List Int) : MatF := fun i j => E (hrm R C L).rows i (C + j)
theorem hrm_form {R C K : Nat} {L : List Int} (h : Bd L K) : HermF R C (hF R C L) := by
  obtain ⟨P, hP⟩ := hred_HI (rows0_ok (R := R) (C := C) h) C
  exact hP.form
theorem hrm_all {R C K : Nat} {L : List Int} (h : Bd L K) : Eqv R R (C + R) (E (rows0 C R L R)) (E (hrm R C L).rows) := hred_eqv (rows0_ok h) C
theorem hrm_eqv {R C K : Nat} {L : List Int} (h : Bd L K) : Eqv R R C (mf C L) (hF R C L) := by
  refine Eqv.trans (Eqv.of_eq fun i k hi hk => ?_) ((hrm_all h).mono (Nat.le_add_right _ _))
  rw [row0_E hi, if_pos (by omega), if_pos hk]; rfl
/-- the form is the product -/
theorem hrm_mul {R C K : Nat} {L : List Int} (h : Bd L K) {i k : Nat} (hi : i < R) (hk : k < C) : hF R C L i k = sm R fun j => uF R C L i j * mf C L j k := by
  obtain ⟨c, hc⟩ := (hrm_all (C := C) h).2 i hi
  have hu : ∀ j, j < R → uF R C L i j = c j := fun j hj => by
    show E (hrm R C L).rows i (C + j) = _
    rw [hc (C + j) (by omega), sm_one (c := j) hj fun m hm hne => by rw [row0_E hm, if_pos (by omega), if_neg (by omega), if_neg (by omega), Int.mul_zero]]
    rw [row0_E hj, if_pos (by omega), if_neg (by omega), if_pos rfl, Int.mul_one]
  show E (hrm R C L).rows i k = _
  rw [hc k (by omega)]
  exact sm_congr fun j hj => by rw [hu j hj, row0_E hj, if_pos (by omega), if_pos hk]; rfl
/-- what makes it is unimodular -/
theorem hrm_uni {R C K : Nat} {L : List Int} (h : Bd L K) : (det R (uF R C L)).natAbs = 1 := by
  have key : ∀ i : Nat, ∃ c : Nat → Int, i < R → ∀ m, m < R → (sm R fun j => c j * uF R C L j m) = if i = m then 1 else 0 := fun i => by
    by_cases hi : i < R
    · obtain ⟨c, hc⟩ := (hrm_all (C := C) h).1 i hi
      refine ⟨c, fun _ m hm => ?_⟩
      have := hc (C + m) (by omega)
      rw [row0_E hi, if_pos (by omega), if_neg (by omega)] at this
      show (sm R fun j => c j * E (hrm R C L).rows j (C + m)) = _
      rw [← this]
      by_cases e : i = m
      · rw [if_pos e, if_pos (by omega)]
      · rw [if_neg e, if_neg (by omega)]
    · exact ⟨fun _ => 0, fun h' => absurd h' hi⟩
  have hD : ∃ D : MatF, ∀ i, i < R → ∀ m, m < R → mulM R D (uF R C L) i m = one i m := ⟨fun i => Classical.choose (key i), fun i hi m hm => Classical.choose_spec (key i) hi m hm⟩
  obtain ⟨D, hD⟩ := hD
  have h1 := det_mul R D (uF R C L)
  rw [det_congr (B := one) fun i j hi hj => hD i hi j hj, det_one] at h1
  have h2 := congrArg Int.natAbs h1
  rw [Int.natAbs_mul] at h2
  exact Nat.eq_one_of_mul_eq_one_left h2.symm
end Go.Hp
/- Hermite's form as a program hands it back: its lists. No program here. -/
namespace Go.Hp
open Go.Dt Go.Hn Go.Pz Go.Nt Go.Mz Go.En
def hL (R C : Nat) (L : List Int) : List Int := flatP 0 C (hrm R C L).rows
def uL (R C : Nat) (L : List Int) : List Int := flatP C (C + R) (hrm R C L).rows
theorem hrm_ok {R C K : Nat} {L : List Int} (h : Bd L K) : HOk R (C + R) ((K + 4) * (R + 2) ^ C - 3) (hrm R C L) := hred_ok (rows0_ok h) C
theorem hL_tab {R C K : Nat} {L : List Int} (h : Bd L K) : hL R C L = tab (R * C) C (hF R C L) := by
  have ho := hrm_ok (R := R) (C := C) h
  unfold hL
  rw [flatP_tab (Nat.zero_le _) (Nat.le_add_right C R) ho.row, ho.len]
  show tab (R * C) C _ = _
  refine congrArg _ ?_
  funext i k
  rw [Nat.zero_add]; rfl
theorem uL_tab {R C K : Nat} {L : List Int} (h : Bd L K) : uL R C L = tab (R * R) R (uF R C L) := by
  have ho := hrm_ok (R := R) (C := C) h
  unfold uL
  rw [flatP_tab (Nat.le_add_right C R) (Nat.le_refl _) ho.row, ho.len, Nat.add_sub_cancel_left]
  rfl
theorem hL_len {R C K : Nat} {L : List Int} (h : Bd L K) : (hL R C L).length = R * C := by rw [hL_tab h, tab_len]
theorem uL_len {R C K : Nat} {L : List Int} (h : Bd L K) : (uL R C L).length = R * R := by rw [uL_tab h, tab_len]
theorem E_bd {rs : List (List Int)} {K : Nat} (h : ∀ r ∈ rs, Bd r K) (i k : Nat) : (List.length (words (E rs i k).natAbs)) ≤ K := getD_bd h i k
theorem hL_bd {R C K : Nat} {L : List Int} (h : Bd L K) : Bd (hL R C L) ((K + 4) * (R + 2) ^ C) := by
  rw [hL_tab h]
  exact (Bd_tab fun i k => E_bd (hrm_ok (R := R) (C := C) h).bd i k).mono (Nat.sub_le _ _)
theorem uL_bd {R C K : Nat} {L : List Int} (h : Bd L K) : Bd (uL R C L) ((K + 4) * (R + 2) ^ C) := by
  rw [uL_tab h]
  exact (Bd_tab fun i k => E_bd (hrm_ok (R := R) (C := C) h).bd i (C + k)).mono (Nat.sub_le _ _)
theorem hL_at {R C K i k : Nat} {L : List Int} (h : Bd L K) (hi : i < R) (hk : k < C) : mf C (hL R C L) i k = hF R C L i k := by
  show cf _ (i * C + k) = _
  rw [hL_tab h, cf_tab' _ hk (place_lt hi hk)]
theorem uL_at {R C K i k : Nat} {L : List Int} (h : Bd L K) (hi : i < R) (hk : k < R) : mf R (uL R C L) i k = uF R C L i k := by
  show cf _ (i * R + k) = _
  rw [uL_tab h, cf_tab' _ hk (place_lt hi hk)]
theorem hL_form {R C K : Nat} {L : List Int} (h : Bd L K) : HermF R C (mf C (hL R C L)) := (hrm_form h).congr fun i k hi hk => hL_at h hi hk
theorem hL_eqv {R C K : Nat} {L : List Int} (h : Bd L K) : Eqv R R C (mf C L) (mf C (hL R C L)) := (hrm_eqv h).trans (Eqv.of_eq fun i k hi hk => (hL_at h hi hk).symm)
theorem uL_det {R C K : Nat} {L : List Int} (h : Bd L K) : (det R (mf R (uL R C L))).natAbs = 1 := by
  rw [det_congr (B := uF R C L) fun i j hi hj => uL_at h hi hj]; exact hrm_uni h
theorem place_of {R C j : Nat} (h : j < R * C) : ∃ i k, i < R ∧ k < C ∧ j = i * C + k := by
  have hC : 0 < C := by
    rcases Nat.eq_zero_or_pos C with h0 | h0
    · subst h0; rw [Nat.mul_zero] at h; omega
    · exact h0
  have h1 := Nat.div_add_mod j C
  rw [Nat.mul_comm] at h1
  exact ⟨j / C, j % C, Nat.div_lt_of_lt_mul (by rwa [Nat.mul_comm]), Nat.mod_lt _ hC, by omega⟩
theorem hL_mul {R C K : Nat} {L : List Int} (h : Bd L K) {j : Nat} (hj : j < R * C) : cf (hL R C L) j = cf (tab (R * C) C fun i k => dotS (fun j => cf (uL R C L) (i * R + j)) (fun j => cf L (j * C + k)) R) j := by
  obtain ⟨i, k, hi, hk, rfl⟩ := place_of hj
  rw [cf_tab' _ hk hj, dotS_sm]
  have e : cf (hL R C L) (i * C + k) = hF R C L i k := hL_at h hi hk
  rw [e, hrm_mul h hi hk]
  exact sm_congr fun m hm => by rw [← uL_at (i := i) h hi hm]; rfl
/-- is it a form? -/
noncomputable def hermB (R C : Nat) (A : MatF) : Bool := @decide (HermF R C A) (Classical.propDecidable _)
theorem hermB_iff {R C : Nat} {A : MatF} : hermB R C A = true ↔ HermF R C A := by unfold hermB; exact @decide_eq_true_iff _ (Classical.propDecidable _)
theorem hermB_no {R C : Nat} {A : MatF} (h : ¬ HermF R C A) : false = hermB R C A := by
  cases e : hermB R C A with
  | false => rfl
  | true => exact absurd (hermB_iff.1 e) h
theorem hermB_yes {R C : Nat} {A : MatF} (h : HermF R C A) : true = hermB R C A := (hermB_iff.2 h).symm
theorem HermF.snoc {n C : Nat} {A : MatF} (h : HermF n C A) (h2 : fc C (A n) < C → (0 < n → fc C (A (n - 1)) < fc C (A n)) ∧ 0 < A n (fc C (A n)) ∧ ∀ r, r < n → 0 ≤ A r (fc C (A n)) ∧ A r (fc C (A n)) < A n (fc C (A n))) : HermF (n + 1) C A := fun i hi hc => by
  rcases Nat.lt_or_ge i n with h1 | h1
  · exact h i h1 hc
  · obtain rfl : i = n := by omega
    exact h2 hc
theorem fc_out {k C : Nat} {f : Nat → Int} (hk : k ≤ C) (hz : ∀ j, j < k → f j = 0) (h : (C : Int) ≤ k ∨ ¬ sgn (f k) = 0) : (k : Int) = ((fc C f : Nat) : Int) := by
  by_cases h2 : k < C
  · rw [fc_at h2 hz fun e => (h.resolve_left (by omega)) ((sgn_eq0 _).2 e)]
  · rw [show k = C by omega, fc_all (f := f) (C := C) fun j hj => hz j (by omega)]
/-- 4 and 6 -/
theorem aw14 : cf (hL 2 1 [4, 6]) (0 * 1 + 0) = 2 := by
  have hb : Bd [4, 6] 1 := bd64 (by decide)
  have hf := hL_form (R := 2) (C := 1) hb
  have he := hL_eqv (R := 2) (C := 1) hb
  obtain ⟨A, hA⟩ : ∃ A, A = mf 1 (hL 2 1 [4, 6]) := ⟨_, rfl⟩
  rw [← hA] at hf he
  show mf 1 (hL 2 1 [4, 6]) 0 0 = 2
  rw [← hA]
  obtain ⟨c0, h0⟩ := he.1 0 (by decide)
  obtain ⟨c1, h1⟩ := he.1 1 (by decide)
  obtain ⟨d0, g0⟩ := he.2 0 (by decide)
  have h0 := h0 0 (by decide)
  have h1 := h1 0 (by decide)
  have g0 := g0 0 (by decide)
  have e0 : mf 1 [4, 6] 0 0 = 4 := rfl
  have e1 : mf 1 [4, 6] 1 0 = 6 := rfl
  have s2 : ∀ f : Nat → Int, sm 2 f = f 0 + f 1 := fun f => by show 0 + f 0 + f 1 = _; omega
  rw [s2] at h0 h1 g0
  rw [e0] at h0 g0
  rw [e1] at h1 g0
  have h10 : A 1 0 = 0 := by
    refine Classical.byContradiction fun hne => ?_
    have hfc : fc 1 (A 1) = 0 := fc_at (by decide) (fun k hk => absurd hk (Nat.not_lt_zero _)) hne
    have := (hf 1 (by decide) (by rw [hfc]; decide)).1 (by decide)
    omega
  rw [h10] at h0 h1
  have hpos : 0 ≤ A 0 0 := by
    by_cases hne : A 0 0 = 0
    · omega
    · have hfc : fc 1 (A 0) = 0 := fc_at (by decide) (fun k hk => absurd hk (Nat.not_lt_zero _)) hne
      have := (hf 0 (by decide) (by rw [hfc]; decide)).2.1
      rw [hfc] at this; omega
  generalize A 0 0 = x at *
  have hx2 : x ∣ 2 := ⟨c1 0 - c0 0, by grind⟩
  have hx3 : (2 : Int) ∣ x := ⟨d0 0 * 2 + d0 1 * 3, by grind⟩
  have := Int.le_of_dvd (by decide) hx2
  obtain ⟨y, hy⟩ := hx3
  have hx0 : x ≠ 0 := fun e => by subst e; omega
  omega
end Go.Hp
/- Contracts: the document's answers on matrices. -/
namespace Go.Proofs.Ytiieaohnpnojmaa
open Go.En Go.RowKit
set_option linter.unusedVariables false
set_option maxRecDepth 10000
open Go.Nt
open Go.Pz
open Go.Mz
open Go.Hn
open Go.Hp
open Go.Dt
set_option maxHeartbeats 4000000 in
theorem ref11_None {r c : Int} {xs : List (Bool × List Nat)} : Ctr Try.prog 52 [isM r c xs] (isB (decide (r = 0) && decide (c = 0) && decide ((xs.length : Int) = 0))) := by
  refine Ctr.intro Try.func52 rfl (by kernel_rfl) Try.ntmps52 rfl fun w0 F0 => ?_
  refine Tri.cv (Cv.wk (.cons (t := 0) (Has.t rfl) .nil)) ?_
  refine Tri.seq fun K1 hK1 => ?_
  refine Tri.region ?_
  refine Ops.box (Has.t rfl) rfl fun b1 => ?_
  refine st (OK1.as (Has.cB false)) rfl ?_
  refine nl ?_
  refine At.thn (hK1 _ _ ?_); clear hK1
  refine Tri.seq fun K2 hK2 => ?_
  refine Tri.region ?_
  refine st (OK1.fieldAddr (Has.t rfl) fld63_0 ty3) rfl ?_
  refine st (OK1.load1 (Has.t rfl) (i := 0) rfl ty3 rfl) rfl ?_
  refine st (OK1.eqI (Has.t rfl) (Has.cI 0 rfl)) rfl ?_
  refine st (OK1.mv (Has.t rfl)) rfl ?_
  refine stT rfl rfl (fun hg => have hg' := BP.t hg; OK1.fieldAddr (Has.t rfl) fld63_1 ty3) rfl ?_
  refine stT rfl rfl (fun hg => have hg' := BP.t hg; OK1.load1 (Has.g rfl hg) (i := 0) rfl ty3 rfl) rfl ?_
  refine stT rfl rfl (fun hg => have hg' := BP.t hg; OK1.eqI (Has.g rfl hg) (Has.cI 0 rfl)) rfl ?_
  refine st (OK1.pickAnd (Has.t rfl) (fun h => Has.g rfl h)) rfl ?_
  refine st (OK1.mv (Has.t rfl)) rfl ?_
  refine stT rfl rfl (fun hg => have hg' := BP.t hg; OK1.fieldAddr (Has.t rfl) fld63_2 ty61) rfl ?_
  refine stT rfl rfl (fun hg => have hg' := BP.t hg; OK1.load1 (Has.g rfl hg) (i := 0) rfl ty61 rfl) rfl ?_
  refine stT rfl rfl (fun hg => have hg' := BP.t hg; OK1.len sl61 (Has.g rfl hg)) rfl ?_
  refine stT rfl rfl (fun hg => have hg' := BP.t hg; OK1.eqI (Has.g rfl hg) (Has.cI 0 rfl)) rfl ?_
  refine st (OK1.pickAnd (Has.t rfl) (fun h => Has.g rfl h)) rfl ?_
  refine st (OK1.as (Has.t rfl)) rfl ?_
  refine nl ?_
  refine At.thn (hK2 _ _ ?_); clear hK2
  refine Tri.cv (Cv.wk (.cons (t := 2) (Has.t rfl) .nil)) ?_
  refine Tri.ret ?_
  refine rt1 (.inl rfl) Try.results52 rfl (.tmp (Has.t' rfl ?_) .nil)
  all_goals (rfl)
set_option maxHeartbeats 4000000 in
theorem ref11_Normal {r c : Int} {l : List Int} {K : Nat} (hx : Bd l K) (hK : K ≤ 400000000) (hm : l.length ≤ 1000000) : Ctr Try.prog 53 [isM r c (l.map nz)] (isB (formB r c l.length)) := by
  refine Ctr.intro Try.func53 rfl (by kernel_rfl) Try.ntmps53 rfl fun w0 F0 => ?_
  refine Tri.cv (Cv.wk (.cons (t := 0) (Has.t rfl) .nil)) ?_
  have hll : (l.map nz).length = l.length := List.length_map _
  refine Tri.seq fun K1 hK1 => ?_
  refine Tri.region ?_
  refine Ops.box (Has.t rfl) rfl fun b1 => ?_
  refine st (OK1.as (Has.cB false)) rfl ?_
  refine nl ?_
  refine At.thn (hK1 _ _ ?_); clear hK1
  refine Tri.seq fun K2 hK2 => ?_
  refine Tri.seq fun K3 hK3 => ?_
  refine Tri.region ?_
  refine st (OK1.as (Has.cI 0 rfl)) rfl ?_
  refine nl ?_
  refine At.thn (hK3 _ _ ?_); clear hK3
  refine Tri.block ?_
  refine Tri.loopF [1] (fun (z : { i : Nat // i ≤ l.length }) => match z with | ⟨i, hi⟩ => [(3, isI (i : Int))]) (fun M => fun (z : { i : Nat // i ≤ l.length }) => match z with | ⟨i, hi⟩ => M) (fun (z : { i : Nat // i ≤ l.length }) => match z with | ⟨i, hi⟩ => l.length - i) (⟨0, Nat.zero_le _⟩) (Cv.mem (.cons (t := 3) (Has.t' rfl ?_) (.cons (t := 1) (Has.t rfl) .nil)) ?_) ?_
  · rfl
  · rfl
  rintro ⟨i, hi⟩ K4 hK4
  refine Tri.cv (Cv.wk (.cons (t := 3) (Has.t rfl) (.cons (t := 1) (Has.t rfl) .nil))) ?_
  have hbi := hx i
  refine Tri.seq fun K5 hK5 => ?_
  refine Tri.seq fun K6 hK6 => ?_
  refine Tri.region ?_
  refine st (OK1.mv (Has.t rfl)) rfl ?_
  refine st (OK1.fieldAddr (Has.t rfl) fld63_2 ty61) rfl ?_
  refine st (OK1.load1 (Has.t rfl) (i := 0) rfl ty61 rfl) rfl ?_
  refine st (OK1.len sl61 (Has.t rfl)) rfl ?_
  refine st (OK1.ltI (Has.t rfl) (Has.t rfl)) rfl ?_
  refine nl ?_
  refine At.thn (hK6 _ _ ?_); clear hK6
  refine Tri.cond (Has.t rfl) (fun hc1 => ?_) (fun hc1 => ?_)
  · have hc1 := BP.t hc1
    refine Tri.skip ?_
    refine At.thn (hK5 _ _ ?_); clear hK5
    refine Tri.seq fun K7 hK7 => ?_
    refine Tri.block ?_
    refine Tri.seq fun K8 hK8 => ?_
    refine Tri.region ?_
    refine st (OK1.fieldAddr (Has.t rfl) fld63_2 ty61) rfl ?_
    refine st (OK1.load1 (Has.t rfl) (i := 0) rfl ty61 rfl) rfl ?_
    refine st (OK1.mv (Has.t rfl)) rfl ?_
    refine st (OK1.ixK sl61 ty72 (Has.t rfl) (Has.t rfl) zc_len ⟨by omega, by omega⟩ (getZ (i := i) (by omega))) rfl ?_
    refine st (OK1.fieldAddrP (Has.t rfl) fld72_1 ty53 (Ss' := [_]) rfl) rfl ?_
    refine st (OK1.eq (OK1.loadP1 (Has.t rfl) ty53) ((show isWords _ = isWords (words (cf l i).natAbs) from rfl))) rfl ?_
    refine st (OK1.len sl53 (Has.t rfl)) rfl ?_
    refine st (OK1.as (Has.t rfl)) rfl ?_
    refine nl ?_
    refine At.thn (hK8 _ _ ?_); clear hK8
    refine Tri.seq fun K9 hK9 => ?_
    refine Tri.region ?_
    refine st (OK1.mv (Has.t rfl)) rfl ?_
    refine st (OK1.gtI (Has.t rfl) (Has.cI 0 rfl)) rfl ?_
    refine st (OK1.mv (Has.t rfl)) rfl ?_
    refine stT rfl rfl (fun hg => have hg' := BP.t hg; OK1.fieldAddr (Has.t rfl) fld63_2 ty61) rfl ?_
    refine stT rfl rfl (fun hg => have hg' := BP.t hg; OK1.load1 (Has.g rfl hg) (i := 0) rfl ty61 rfl) rfl ?_
    refine stT rfl rfl (fun hg => have hg' := BP.t hg; OK1.mv (Has.t rfl)) rfl ?_
    refine stT rfl rfl (fun hg => have hg' := BP.t hg; OK1.ixK sl61 ty72 (Has.g rfl hg) (Has.g rfl hg) zc_len ⟨by omega, by omega⟩ (getZ (i := i) (by omega))) rfl ?_
    refine stT rfl rfl (fun hg => have hg' := BP.t hg; OK1.fieldAddrP (Has.g rfl hg) fld72_1 ty53 (Ss' := [_]) rfl) rfl ?_
    refine stT rfl rfl (fun hg => have hg' := BP.t hg; OK1.eq (OK1.loadP1 (Has.g rfl hg) ty53) ((show isWords _ = isWords (words (cf l i).natAbs) from rfl))) rfl ?_
    refine stT rfl rfl (fun hg => have hg' := BP.t hg; OK1.mv (Has.t rfl)) rfl ?_
    refine stT rfl rfl (fun hg => have hg' := BP.t hg; OK1.subI (Has.g rfl hg) (Has.cI 1 rfl) (by first | omega | assumption) (by first | omega | assumption)) rfl ?_
    refine stT rfl rfl (fun hg => have hg' := BP.t hg; OK1.ixP sl53 ty27 (Has.g rfl hg) (Has.g rfl hg) ⟨by omega, by omega⟩ (getD_some (d := 0) (by first | omega | (simp only [Int.toNat_natCast, List.length_set]; omega)))) rfl ?_
    refine stT rfl rfl (fun hg => have hg' := BP.t hg; OK1.eq (OK1.loadP1 (Has.g rfl hg) ty27) ((show isU _ = isU (dig (cf l i).natAbs ((List.length (words (cf l i).natAbs)) - 1)) from isU_eq (by rw [show (((List.length (words (cf l i).natAbs)) : Int) - 1).toNat = (List.length (words (cf l i).natAbs)) - 1 by omega, getD_words])))) rfl ?_
    refine stT rfl rfl (fun hg => have hg' := BP.t hg; OK1.eqU (Has.g rfl hg) (Has.cU 0 rfl)) rfl ?_
    refine st (OK1.pickAnd (Has.t rfl) (fun h => Has.g rfl h)) rfl ?_
    refine st (OK1.mv (Has.t rfl)) rfl ?_
    refine stF rfl rfl (fun hg => have hg' := BP.t hg; OK1.mv (Has.t rfl)) rfl ?_
    refine stF rfl rfl (fun hg => have hg' := BP.t hg; OK1.eqI (Has.g rfl hg) (Has.cI 0 rfl)) rfl ?_
    refine stF rfl rfl (fun hg => have hg' := BP.t hg; OK1.mv (Has.g rfl hg)) rfl ?_
    refine stGT rfl rfl (fun hg => have hg' := BP.t hg; OK1.fieldAddr (Has.t rfl) fld63_2 ty61) rfl ?_
    refine stGT rfl rfl (fun hg => have hg' := BP.t hg; OK1.load1 (Has.g rfl hg) (i := 0) rfl ty61 rfl) rfl ?_
    refine stGT rfl rfl (fun hg => have hg' := BP.t hg; OK1.mv (Has.t rfl)) rfl ?_
    refine stGT rfl rfl (fun hg => have hg' := BP.t hg; OK1.ixK sl61 ty72 (Has.g rfl hg) (Has.g rfl hg) zc_len ⟨by omega, by omega⟩ (getZ (i := i) (by omega))) rfl ?_
    refine stGT rfl rfl (fun hg => have hg' := BP.t hg; OK1.fieldAddrP (Has.g rfl hg) fld72_0 ty4 (Ss' := [_, _]) rfl) rfl ?_
    refine stGT rfl rfl (fun hg => have hg' := BP.t hg; OK1.eq (OK1.loadP1 (Has.g rfl hg) ty4) ((show isB _ = isB (decide (cf l i < 0)) from rfl))) rfl ?_
    refine stF rfl rfl (fun hg => have hg' := BP.t hg; OK1.pickAnd (Has.g rfl hg) (fun h => Has.g rfl (ga hg h))) rfl ?_
    refine st (OK1.pickOr (Has.t rfl) (fun h => Has.g rfl (ng h))) rfl ?_
    refine nl ?_
    refine At.thn (hK9 _ _ ?_); clear hK9
    refine Tri.cond (Has.t rfl) (fun hc2 => ?_) (fun hc2 => ?_)
    · have hc2 := BP.t hc2
      exact (normal_dead hc2).elim
    · have hc2 := BP.f hc2
      refine Tri.skip ?_
      refine At.bln ?_
      refine At.thn (hK7 _ _ ?_); clear hK7
      refine Tri.region ?_
      refine st (OK1.mv (Has.t rfl)) rfl ?_
      refine st (OK1.addI (Has.t rfl) (Has.cI 1 rfl) (by first | omega | assumption) (by first | omega | assumption)) rfl ?_
      refine st (OK1.as (Has.t rfl)) rfl ?_
      refine nl ?_
      refine At.thn ?_
      refine hK4 (⟨i + 1, by omega⟩) _ _ ?_ (Cv.mem (.cons (t := 3) (Has.t' rfl ?_) (.cons (t := 1) (Has.t rfl) .nil)) ?_)
      · show l.length - (i + 1) < l.length - i; omega
      · exact isI_eq (by omega)
      · rfl
  · have hc1 := BP.f hc1
    refine Tri.exit ?_
    refine At.the ?_
    refine At.the ?_
    refine At.blh ?_
    refine At.thn (hK2 _ _ ?_); clear hK2
    refine Tri.cv (Cv.wk (.cons (t := 1) (Has.t rfl) .nil)) ?_
    refine Tri.seq fun K10 hK10 => ?_
    refine Tri.region ?_
    refine st (OK1.load (Has.t rfl) (i := 0) rfl ty63 rfl (Ss' := [_, _, _]) rfl) rfl ?_
    refine st (OK1.eq (OK1.call (ref11_Formed) (.cons (Has.t rfl) .nil)) ((show _ = isB (formB r c l.length) from by rw [List.length_map]))) rfl ?_
    refine st (OK1.as (Has.t rfl)) rfl ?_
    refine nl ?_
    refine At.thn (hK10 _ _ ?_); clear hK10
    refine Tri.ret ?_
    refine rt1 (.inl rfl) Try.results53 rfl (.tmp (Has.t' rfl ?_) .nil)
    all_goals (rfl)
set_option maxHeartbeats 4000000 in
theorem ref11_Is {R C K N : Nat} {l : List Int} {ys : List (Bool × List Nat)} (hx : Bd l K) (hy : Bd (vals ys) N) (hK : K ≤ 400000000) (hN : N ≤ 400000000) (hR : R ≤ 64) (hC : C ≤ 64) (hl : l.length = R * C) (hyl : ys.length = R * C) (he : ∀ j, j < R * C → cf l j = cf (vals ys) j) : Ctr Try.prog 56 [isM (R : Int) (C : Int) (l.map nz), isI (R : Int), isI (C : Int), SlK 2 zc ys] (isB true) := by
  refine Ctr.intro Try.func56 rfl (by kernel_rfl) Try.ntmps56 rfl fun w0 F0 => ?_
  refine Tri.cv (Cv.wk (.cons (t := 0) (Has.t rfl) (.cons (t := 1) (Has.t rfl) (.cons (t := 2) (Has.t rfl) (.cons (t := 3) (Has.t rfl) .nil))))) ?_
  refine Tri.fact (Has.rngI (Has.t (t := 1) rfl)) fun lt1 => ?_
  refine Tri.fact (Has.rngI (Has.t (t := 2) rfl)) fun lt2 => ?_
  refine Tri.fact (Has.lenLt (Has.t (t := 3) rfl)) fun lt3 => ?_
  have hfo := formB_true hR hC hl
  have hRC := side_le hR hC
  have hcp : ((R : Int) * (C : Int)) = ((R * C : Nat) : Int) := (Int.natCast_mul R C).symm
  have hll : (l.map nz).length = R * C := by rw [List.length_map]; exact hl
  refine Tri.seq fun K1 hK1 => ?_
  refine Tri.region ?_
  refine Ops.box (Has.t rfl) rfl fun b1 => ?_
  refine st (OK1.as (Has.cB false)) rfl ?_
  refine nl ?_
  refine At.thn (hK1 _ _ ?_); clear hK1
  refine Tri.seq fun K2 hK2 => ?_
  refine Tri.seq fun K3 hK3 => ?_
  refine Tri.region ?_
  refine st (OK1.load (Has.t rfl) (i := 0) rfl ty63 rfl (Ss' := [_, _, _]) rfl) rfl ?_
  refine st (OK1.eq (OK1.call (ref11_Normal hx hK (by omega)) (.cons (Has.t rfl) .nil)) ((show isB _ = isB true from isB_eq (hfo)))) rfl ?_
  refine st (OK1.not (Has.t rfl)) rfl ?_
  refine st (OK1.mv (Has.t rfl)) rfl ?_
  refine stF rfl rfl (fun hg => have hg' := BP.t hg; OK1.fieldAddr (Has.t rfl) fld63_0 ty3) rfl ?_
  refine stF rfl rfl (fun hg => have hg' := BP.t hg; OK1.load1 (Has.g rfl hg) (i := 0) rfl ty3 rfl) rfl ?_
  refine stF rfl rfl (fun hg => have hg' := BP.t hg; OK1.mv (Has.t rfl)) rfl ?_
  refine stF rfl rfl (fun hg => have hg' := BP.t hg; OK1.neI (Has.g rfl hg) (Has.g rfl hg)) rfl ?_
  refine st (OK1.pickOr (Has.t rfl) (fun h => Has.g rfl (ng h))) rfl ?_
  refine st (OK1.mv (Has.t rfl)) rfl ?_
  refine stF rfl rfl (fun hg => have hg' := BP.t hg; OK1.fieldAddr (Has.t rfl) fld63_1 ty3) rfl ?_
  refine stF rfl rfl (fun hg => have hg' := BP.t hg; OK1.load1 (Has.g rfl hg) (i := 0) rfl ty3 rfl) rfl ?_
  refine stF rfl rfl (fun hg => have hg' := BP.t hg; OK1.mv (Has.t rfl)) rfl ?_
  refine stF rfl rfl (fun hg => have hg' := BP.t hg; OK1.neI (Has.g rfl hg) (Has.g rfl hg)) rfl ?_
  refine st (OK1.pickOr (Has.t rfl) (fun h => Has.g rfl (ng h))) rfl ?_
  refine st (OK1.mv (Has.t rfl)) rfl ?_
  refine stF rfl rfl (fun hg => have hg' := BP.t hg; OK1.mv (Has.t rfl)) rfl ?_
  refine stF rfl rfl (fun hg => have hg' := BP.t hg; OK1.len sl61 (Has.g rfl hg)) rfl ?_
  refine stF rfl rfl (fun hg => have hg' := BP.t hg; OK1.mv (Has.t rfl)) rfl ?_
  refine stF rfl rfl (fun hg => have hg' := BP.t hg; OK1.mv (Has.t rfl)) rfl ?_
  refine stF rfl rfl (fun hg => have hg' := BP.t hg; OK1.eq (OK1.mulI (Has.g rfl hg) (Has.g rfl hg) (by first | omega | (rw [hcp]; omega)) (by first | omega | (rw [hcp]; omega))) ((show isI _ = isI ((R * C : Nat) : Int) from isI_eq hcp))) rfl ?_
  refine stF rfl rfl (fun hg => have hg' := BP.t hg; OK1.neI (Has.g rfl hg) (Has.g rfl hg)) rfl ?_
  refine st (OK1.pickOr (Has.t rfl) (fun h => Has.g rfl (ng h))) rfl ?_
  refine nl ?_
  refine At.thn (hK3 _ _ ?_); clear hK3
  refine Tri.cv (Cv.wk (.cons (t := 3) (Has.t rfl) (.cons (t := 4) (Has.t rfl) (.cons (t := 8) (Has.t rfl) (.cons (t := 32) (Has.t rfl) .nil))))) ?_
  refine Tri.cond (Has.t rfl) (fun hc1 => ?_) (fun hc1 => ?_)
  · have hc1 := BP.t hc1
    exfalso; simp at hc1; omega
  · have hc1 := BP.f hc1
    refine Tri.skip ?_
    refine At.thn (hK2 _ _ ?_); clear hK2
    refine Tri.seq fun K4 hK4 => ?_
    refine Tri.seq fun K5 hK5 => ?_
    refine Tri.region ?_
    refine st (OK1.as (Has.cI 0 rfl)) rfl ?_
    refine nl ?_
    refine At.thn (hK5 _ _ ?_); clear hK5
    refine Tri.block ?_
    refine Tri.loopF [3, 4] (fun (z : { i : Nat // i ≤ R * C }) => match z with | ⟨i, hi⟩ => [(9, isI (i : Int))]) (fun M => fun (z : { i : Nat // i ≤ R * C }) => match z with | ⟨i, hi⟩ => M) (fun (z : { i : Nat // i ≤ R * C }) => match z with | ⟨i, hi⟩ => R * C - i) (⟨0, Nat.zero_le _⟩) (Cv.mem (.cons (t := 9) (Has.t' rfl ?_) (.cons (t := 3) (Has.t rfl) (.cons (t := 4) (Has.t rfl) .nil))) ?_) ?_
    · rfl
    · rfl
    rintro ⟨i, hi⟩ K6 hK6
    refine Tri.cv (Cv.wk (.cons (t := 9) (Has.t rfl) (.cons (t := 3) (Has.t rfl) (.cons (t := 4) (Has.t rfl) .nil)))) ?_
    refine Tri.seq fun K7 hK7 => ?_
    refine Tri.seq fun K8 hK8 => ?_
    refine Tri.region ?_
    refine st (OK1.mv (Has.t rfl)) rfl ?_
    refine st (OK1.mv (Has.t rfl)) rfl ?_
    refine st (OK1.len sl61 (Has.t rfl)) rfl ?_
    refine st (OK1.ltI (Has.t rfl) (Has.t rfl)) rfl ?_
    refine nl ?_
    refine At.thn (hK8 _ _ ?_); clear hK8
    refine Tri.cond (Has.t rfl) (fun hc2 => ?_) (fun hc2 => ?_)
    · have hc2 := BP.t hc2
      have hbi := hx i
      have hyi := hy.raw i
      refine Tri.skip ?_
      refine At.thn (hK7 _ _ ?_); clear hK7
      refine Tri.seq fun K9 hK9 => ?_
      refine Tri.block ?_
      refine Tri.seq fun K10 hK10 => ?_
      refine Tri.dr ?_
      refine DrG.st (i := 0) [] rfl rfl rfl (by kernel_rfl) (OKG.o rfl (OK1.fieldAddr (Has.t rfl) fld63_2 ty61)) ?_
      refine DrG.st (i := 1) [39] rfl rfl rfl (by kernel_rfl) (OKG.o rfl (OK1.load1 (Has.t rfl) (i := 0) rfl ty61 rfl)) ?_
      refine DrG.st (i := 2) [] rfl rfl rfl (by kernel_rfl) (OKG.o rfl (OK1.mv (Has.t rfl))) ?_
      refine DrG.st (i := 3) [40, 41] rfl rfl rfl (by kernel_rfl) (OKG.o rfl (OK1.ixK sl61 ty72 (Has.t rfl) (Has.t rfl) zc_len ⟨by omega, by omega⟩ (getZ (i := i) (by omega)))) ?_
      refine DrG.st (i := 4) [42] rfl rfl rfl (by kernel_rfl) (OKG.o rfl (OK1.loadP (Has.t rfl) ty72 rfl (Ss' := [_, _]) rfl)) ?_
      refine DrG.st (i := 5) [] rfl rfl rfl (by kernel_rfl) (OKG.o rfl (OK1.mv (Has.t rfl))) ?_
      refine DrG.st (i := 6) [] rfl rfl rfl (by kernel_rfl) (OKG.o rfl (OK1.mv (Has.t rfl))) ?_
      refine DrG.st (i := 7) [44, 45] rfl rfl rfl (by kernel_rfl) (OKG.o rfl (OK1.ixK sl61 ty72 (Has.t rfl) (Has.t rfl) zc_len ⟨by omega, by omega⟩ (getD_some (d := (false, [])) (by first | omega | (simp only [Int.toNat_natCast, List.length_set]; omega))))) ?_
      refine DrG.st (i := 8) [46] rfl rfl rfl (by kernel_rfl) (OKG.o rfl (OK1.loadP (Has.t rfl) ty72 rfl (Ss' := [_, _]) rfl)) ?_
      refine DrG.fin (n := 9) mixed (by kernel_rfl) (by kernel_rfl) (by kernel_rfl) ?_
      refine Ops.cv (Cv.wk (.cons (t := 3) (Has.t rfl) (.cons (t := 4) (Has.t rfl) (.cons (t := 9) (Has.t rfl) (.cons (t := 33) (Has.t rfl) (.cons (t := 34) (Has.t rfl) (.cons (t := 35) (Has.t rfl) (.cons (t := 36) (Has.t rfl) (.cons (t := 39) (Has.t rfl) (.cons (t := 40) (Has.t rfl) (.cons (t := 41) (Has.t rfl) (.cons (t := 42) (Has.t rfl) (.cons (t := 43) (Has.t rfl) (.cons (t := 44) (Has.t rfl) (.cons (t := 45) (Has.t rfl) (.cons (t := 46) (Has.t rfl) (.cons (t := 47) (Has.t rfl) .nil))))))))))))))))) ?_
      refine st (OK1.eq (OK1.call (zint_Same (by rw [val_words]; omega) (by show (List.length (words (val (ys.getD i (false, [])).2))) < _; omega)) (.cons (Has.t rfl) (.cons (Has.t rfl) .nil))) ((show isB _ = isB true from isB_eq (decide_eq_true (by rw [zv_nz, he i (by omega), cf_vals]; rfl))))) rfl ?_
      refine st (OK1.not (Has.t rfl)) rfl ?_
      refine nl ?_
      refine At.thn (hK10 _ _ ?_); clear hK10
      refine Tri.cond (Has.t rfl) (fun hc3 => ?_) (fun hc3 => ?_)
      · have hc3 := BP.t hc3
        exfalso; simp at hc3
      · have hc3 := BP.f hc3
        refine Tri.skip ?_
        refine At.bln ?_
        refine At.thn (hK9 _ _ ?_); clear hK9
        refine Tri.region ?_
        refine st (OK1.mv (Has.t rfl)) rfl ?_
        refine st (OK1.addI (Has.t rfl) (Has.cI 1 rfl) (by first | omega | assumption) (by first | omega | assumption)) rfl ?_
        refine st (OK1.as (Has.t rfl)) rfl ?_
        refine nl ?_
        refine At.thn ?_
        refine hK6 (⟨i + 1, by omega⟩) _ _ ?_ (Cv.mem (.cons (t := 9) (Has.t' rfl ?_) (.cons (t := 3) (Has.t rfl) (.cons (t := 4) (Has.t rfl) .nil))) ?_)
        · show R * C - (i + 1) < R * C - i; omega
        · exact isI_eq (by omega)
        · rfl
    · have hc2 := BP.f hc2
      refine Tri.exit ?_
      refine At.the ?_
      refine At.the ?_
      refine At.blh ?_
      refine At.thn (hK4 _ _ ?_); clear hK4
      refine Tri.cv (Cv.wk .nil) ?_
      refine Tri.seq fun K11 hK11 => ?_
      refine Tri.region ?_
      refine st (OK1.as (Has.cB true)) rfl ?_
      refine nl ?_
      refine At.thn (hK11 _ _ ?_); clear hK11
      refine Tri.ret ?_
      refine rt1 (.inl rfl) Try.results56 rfl (.tmp (Has.t' rfl ?_) .nil)
      all_goals (rfl)
set_option maxHeartbeats 4000000 in
theorem ref11_Mul {R C D K N : Nat} {xs ys : List (Bool × List Nat)} (hx : Bd (vals xs) K) (hy : Bd (vals ys) N) (hK : K + N ≤ 400000000) (hR : R ≤ 64) (hC : C ≤ 64) (hD : D ≤ 64) (hxl : xs.length = R * C) (hyl : ys.length = C * D) : Ctr Try.prog 57 [isM (R : Int) (C : Int) xs, isM (C : Int) (D : Int) ys] (isP (tab (R * D) D fun i k => dotS (fun j => cf (vals xs) (i * C + j)) (fun j => cf (vals ys) (j * D + k)) C)) := by
  refine Ctr.intro Try.func57 rfl (by kernel_rfl) Try.ntmps57 rfl fun w0 F0 => ?_
  refine Tri.cv (Cv.wk (.cons (t := 0) (Has.t rfl) (.cons (t := 1) (Has.t rfl) .nil))) ?_
  have h1 := side_le hR hC
  have h2 := side_le hC hD
  have h3 := side_le hR hD
  obtain ⟨G, hG⟩ : ∃ G : Nat → Nat → Int, G = fun i k => dotS (fun j => cf (vals xs) (i * C + j)) (fun j => cf (vals ys) (j * D + k)) C := ⟨_, rfl⟩
  rw [← hG]
  refine Tri.seq fun K1 hK1 => ?_
  refine Tri.region ?_
  refine Ops.box (Has.t rfl) rfl fun b1 => ?_
  refine Ops.box (Has.t rfl) rfl fun b2 => ?_
  refine st (OK1.as (Has.cWK (k := 2) (fk := zc))) rfl ?_
  refine nl ?_
  refine At.thn (hK1 _ _ ?_); clear hK1
  refine Tri.seq fun K2 hK2 => ?_
  refine Tri.region ?_
  refine Ops.cv (Cv.grow0K (α := Bool × List Nat) zc) ?_
  refine st (OK1.as (Has.cGr (α := Bool × List Nat))) rfl ?_
  refine nl ?_
  refine At.thn (hK2 _ _ ?_); clear hK2
  refine Tri.seq fun K3 hK3 => ?_
  refine Tri.seq fun K4 hK4 => ?_
  refine Tri.region ?_
  refine st (OK1.as (Has.cI 0 rfl)) rfl ?_
  refine nl ?_
  refine At.thn (hK4 _ _ ?_); clear hK4
  refine Tri.block ?_
  refine Tri.loopF [2, 3, 4] (fun (z : { z : Nat × Gr (Bool × List Nat) // z.1 ≤ R }) => match z with | ⟨(i, g), hI⟩ => [(6, isI (i : Int)), (5, isGr g ((tab (i * D + 0) D G).map nz).length)]) (fun M => fun (z : { z : Nat × Gr (Bool × List Nat) // z.1 ≤ R }) => match z with | ⟨(i, g), hI⟩ => [grMK zc g ((tab (i * D + 0) D G).map nz), (some b2, cellM [isI (C : Int), isI (D : Int), SlK 2 zc ys]), (some b1, cellM [isI (R : Int), isI (C : Int), SlK 2 zc xs])]) (fun (z : { z : Nat × Gr (Bool × List Nat) // z.1 ≤ R }) => match z with | ⟨(i, g), hI⟩ => R - i) (⟨(0, Gr.nil), Nat.zero_le _⟩) (Cv.mem (.cons (t := 6) (Has.t' rfl ?_) (.cons (t := 5) (Has.t' rfl ?_) (.cons (t := 2) (Has.t rfl) (.cons (t := 3) (Has.t rfl) (.cons (t := 4) (Has.t rfl) .nil))))) ?_) ?_
  · rfl
  · exact isGr_eq (by rw [List.length_map, tab_len, Nat.zero_mul])
  · exact grMK_eq (show [] = (tab (0 * D + 0) D G).map nz by rw [Nat.zero_mul]; rfl)
  rintro ⟨⟨i, g⟩, hI⟩ K5 hK5
  refine Tri.cv (Cv.wk (.cons (t := 6) (Has.t rfl) (.cons (t := 5) (Has.t rfl) (.cons (t := 2) (Has.t rfl) (.cons (t := 3) (Has.t rfl) (.cons (t := 4) (Has.t rfl) .nil)))))) ?_
  refine Tri.memEq (M' := [grMK zc g ((tab (i * D + 0) D G).map nz), (some b2, cellM [isI (C : Int), isI (D : Int), SlK 2 zc ys]), (some b1, cellM [isI (R : Int), isI (C : Int), SlK 2 zc xs])]) rfl ?_
  simp only [] at hI
  refine Tri.seq fun K6 hK6 => ?_
  refine Tri.seq fun K7 hK7 => ?_
  refine Tri.region ?_
  refine st (OK1.mv (Has.t rfl)) rfl ?_
  refine st (OK1.fieldAddr (Has.t rfl) fld63_0 ty3) rfl ?_
  refine st (OK1.load1 (Has.t rfl) (i := 2) rfl ty3 rfl) rfl ?_
  refine st (OK1.ltI (Has.t rfl) (Has.t rfl)) rfl ?_
  refine nl ?_
  refine At.thn (hK7 _ _ ?_); clear hK7
  refine Tri.cond (Has.t rfl) (fun hc1 => ?_) (fun hc1 => ?_)
  · have hc1 := BP.t hc1
    refine Tri.skip ?_
    refine At.thn (hK6 _ _ ?_); clear hK6
    refine Tri.seq fun K8 hK8 => ?_
    refine Tri.block ?_
    refine Tri.seq fun K9 hK9 => ?_
    refine Tri.region ?_
    refine st (OK1.as (Has.cI 0 rfl)) rfl ?_
    refine nl ?_
    refine At.thn (hK9 _ _ ?_); clear hK9
    refine Tri.block ?_
    refine Tri.loopF [2, 3, 4, 6, 10, 11, 12, 13] (fun (z : { z : Nat × Gr (Bool × List Nat) // z.1 ≤ D }) => match z with | ⟨(k, g2), hK2⟩ => [(7, isI (k : Int)), (5, isGr g2 ((tab (i * D + k) D G).map nz).length)]) (fun M => fun (z : { z : Nat × Gr (Bool × List Nat) // z.1 ≤ D }) => match z with | ⟨(k, g2), hK2⟩ => [grMK zc g2 ((tab (i * D + k) D G).map nz), (some b2, cellM [isI (C : Int), isI (D : Int), SlK 2 zc ys]), (some b1, cellM [isI (R : Int), isI (C : Int), SlK 2 zc xs])]) (fun (z : { z : Nat × Gr (Bool × List Nat) // z.1 ≤ D }) => match z with | ⟨(k, g2), hK2⟩ => D - k) (⟨(0, g), Nat.zero_le _⟩) (Cv.mem (.cons (t := 7) (Has.t' rfl ?_) (.cons (t := 5) (Has.t' rfl ?_) (.cons (t := 2) (Has.t rfl) (.cons (t := 3) (Has.t rfl) (.cons (t := 4) (Has.t rfl) (.cons (t := 6) (Has.t rfl) (.cons (t := 10) (Has.t rfl) (.cons (t := 11) (Has.t rfl) (.cons (t := 12) (Has.t rfl) (.cons (t := 13) (Has.t rfl) .nil)))))))))) ?_) ?_
    · rfl
    · rfl
    · rfl
    rintro ⟨⟨k, g2⟩, hK2⟩ K10 hK10
    refine Tri.cv (Cv.wk (.cons (t := 7) (Has.t rfl) (.cons (t := 5) (Has.t rfl) (.cons (t := 2) (Has.t rfl) (.cons (t := 3) (Has.t rfl) (.cons (t := 4) (Has.t rfl) (.cons (t := 6) (Has.t rfl) (.cons (t := 10) (Has.t rfl) (.cons (t := 11) (Has.t rfl) (.cons (t := 12) (Has.t rfl) (.cons (t := 13) (Has.t rfl) .nil))))))))))) ?_
    refine Tri.memEq (M' := [grMK zc g2 ((tab (i * D + k) D G).map nz), (some b2, cellM [isI (C : Int), isI (D : Int), SlK 2 zc ys]), (some b1, cellM [isI (R : Int), isI (C : Int), SlK 2 zc xs])]) rfl ?_
    simp only [] at hK2
    refine Tri.seq fun K11 hK11 => ?_
    refine Tri.seq fun K12 hK12 => ?_
    refine Tri.region ?_
    refine st (OK1.mv (Has.t rfl)) rfl ?_
    refine st (OK1.fieldAddr (Has.t rfl) fld63_1 ty3) rfl ?_
    refine st (OK1.load1 (Has.t rfl) (i := 1) rfl ty3 rfl) rfl ?_
    refine st (OK1.ltI (Has.t rfl) (Has.t rfl)) rfl ?_
    refine nl ?_
    refine At.thn (hK12 _ _ ?_); clear hK12
    refine Tri.cond (Has.t rfl) (fun hc2 => ?_) (fun hc2 => ?_)
    · have hc2 := BP.t hc2
      refine Tri.skip ?_
      refine At.thn (hK11 _ _ ?_); clear hK11
      refine Tri.seq fun K13 hK13 => ?_
      refine Tri.block ?_
      refine Tri.seq fun K14 hK14 => ?_
      refine Tri.region ?_
      refine st (OK1.call (zint_Of) (.cons (Has.cI 0 rfl) .nil)) rfl ?_
      refine Ops.alloc [isB false, SlM isU []] zero72 (fun _ _ => ⟨rfl, nilM _ _, trivial⟩) rfl fun b3 => ?_
      refine Ops.store (Has.t rfl) (Has.t rfl) (i := 0) rfl ty72 rfl rfl (Ss' := [_, _]) rfl (M' := [(some _, cellM [_, _]), _, _, _]) rfl ?_
      refine nl ?_
      refine At.thn (hK14 _ _ ?_); clear hK14
      refine Tri.seq fun K15 hK15 => ?_
      refine Tri.seq fun K16 hK16 => ?_
      refine Tri.region ?_
      refine st (OK1.as (Has.cI 0 rfl)) rfl ?_
      refine nl ?_
      refine At.thn (hK16 _ _ ?_); clear hK16
      refine Tri.block ?_
      refine Tri.loopF [2, 3, 4, 6, 10, 11, 12, 13, 7, 5, 16, 17, 18, 19, 22, 8] (fun (z : { j : Nat // j ≤ C }) => match z with | ⟨j, hj⟩ => [(9, isI (j : Int))]) (fun M => fun (z : { j : Nat // j ≤ C }) => match z with | ⟨j, hj⟩ => [zM b3 (dotS (fun j => cf (vals xs) (i * C + j)) (fun j => cf (vals ys) (j * D + k)) j), grMK zc g2 ((tab (i * D + k) D G).map nz), (some b2, cellM [isI (C : Int), isI (D : Int), SlK 2 zc ys]), (some b1, cellM [isI (R : Int), isI (C : Int), SlK 2 zc xs])]) (fun (z : { j : Nat // j ≤ C }) => match z with | ⟨j, hj⟩ => C - j) (⟨0, Nat.zero_le _⟩) (Cv.mem (.cons (t := 9) (Has.t' rfl ?_) (.cons (t := 2) (Has.t rfl) (.cons (t := 3) (Has.t rfl) (.cons (t := 4) (Has.t rfl) (.cons (t := 6) (Has.t rfl) (.cons (t := 10) (Has.t rfl) (.cons (t := 11) (Has.t rfl) (.cons (t := 12) (Has.t rfl) (.cons (t := 13) (Has.t rfl) (.cons (t := 7) (Has.t rfl) (.cons (t := 5) (Has.t rfl) (.cons (t := 16) (Has.t rfl) (.cons (t := 17) (Has.t rfl) (.cons (t := 18) (Has.t rfl) (.cons (t := 19) (Has.t rfl) (.cons (t := 22) (Has.t rfl) (.cons (t := 8) (Has.t rfl) .nil))))))))))))))))) ?_) ?_
      · rfl
      · rfl
      rintro ⟨j, hj⟩ K17 hK17
      refine Tri.cv (Cv.wk (.cons (t := 9) (Has.t rfl) (.cons (t := 2) (Has.t rfl) (.cons (t := 3) (Has.t rfl) (.cons (t := 4) (Has.t rfl) (.cons (t := 6) (Has.t rfl) (.cons (t := 10) (Has.t rfl) (.cons (t := 11) (Has.t rfl) (.cons (t := 12) (Has.t rfl) (.cons (t := 13) (Has.t rfl) (.cons (t := 7) (Has.t rfl) (.cons (t := 5) (Has.t rfl) (.cons (t := 16) (Has.t rfl) (.cons (t := 17) (Has.t rfl) (.cons (t := 18) (Has.t rfl) (.cons (t := 19) (Has.t rfl) (.cons (t := 22) (Has.t rfl) (.cons (t := 8) (Has.t rfl) .nil)))))))))))))))))) ?_
      refine Tri.memEq (M' := [zM b3 (dotS (fun j => cf (vals xs) (i * C + j)) (fun j => cf (vals ys) (j * D + k)) j), grMK zc g2 ((tab (i * D + k) D G).map nz), (some b2, cellM [isI (C : Int), isI (D : Int), SlK 2 zc ys]), (some b1, cellM [isI (R : Int), isI (C : Int), SlK 2 zc xs])]) rfl ?_
      have hds := dotS_nw (f := fun j => cf (vals xs) (i * C + j)) (g := fun j => cf (vals ys) (j * D + k)) (K := K) (L := N) (fun j => hx _) (fun j => hy _) j
      obtain ⟨s, hs⟩ : ∃ s, s = dotS (fun j => cf (vals xs) (i * C + j)) (fun j => cf (vals ys) (j * D + k)) j := ⟨_, rfl⟩
      rw [← hs] at hds
      refine Tri.seq fun K18 hK18 => ?_
      refine Tri.seq fun K19 hK19 => ?_
      refine Tri.region ?_
      refine st (OK1.mv (Has.t rfl)) rfl ?_
      refine st (OK1.fieldAddr (Has.t rfl) fld63_1 ty3) rfl ?_
      refine st (OK1.load1 (Has.t rfl) (i := 3) rfl ty3 rfl) rfl ?_
      refine st (OK1.ltI (Has.t rfl) (Has.t rfl)) rfl ?_
      refine nl ?_
      refine At.thn (hK19 _ _ ?_); clear hK19
      refine Tri.cond (Has.t rfl) (fun hc3 => ?_) (fun hc3 => ?_)
      · have hc3 := BP.t hc3
        have hj2 : j < C := (by omega)
        have hp1 := place_lt (show i < R by omega) hj2
        have hp2 := place_lt hj2 (show k < D by omega)
        have hxr := hx.raw (i * C + j)
        have hyr := hy.raw (j * D + k)
        have hfk := hx (i * C + j)
        have hgk := hy (j * D + k)
        have hmm := nz_mul (cf (vals xs) (i * C + j)) (cf (vals ys) (j * D + k))
        refine Tri.skip ?_
        refine At.thn (hK18 _ _ ?_); clear hK18
        refine Tri.seq fun K20 hK20 => ?_
        refine Tri.block ?_
        refine Tri.dr ?_
        refine DrG.st (i := 0) [] rfl rfl rfl (by kernel_rfl) (OKG.o rfl (OK1.load (Has.t rfl) (i := 0) rfl ty72 rfl (Ss' := [_, _]) rfl)) ?_
        refine DrG.st (i := 1) [] rfl rfl rfl (by kernel_rfl) (OKG.o rfl (OK1.load (Has.t rfl) (i := 3) rfl ty63 rfl (Ss' := [_, _, _]) rfl)) ?_
        refine DrG.st (i := 2) [] rfl rfl rfl (by kernel_rfl) (OKG.o rfl (OK1.mv (Has.t rfl))) ?_
        refine DrG.st (i := 3) [] rfl rfl rfl (by kernel_rfl) (OKG.o rfl (OK1.mv (Has.t rfl))) ?_
        refine DrG.st (i := 4) [30, 31, 32] rfl rfl rfl (by kernel_rfl) (OKG.o rfl (OK1.call (ref11_At (i := i) (k := j) (by omega) (by omega)) (.cons (Has.t rfl) (.cons (Has.t rfl) (.cons (Has.t rfl) .nil))))) ?_
        refine DrG.st (i := 5) [] rfl rfl rfl (by kernel_rfl) (OKG.o rfl (OK1.load (Has.t rfl) (i := 2) rfl ty63 rfl (Ss' := [_, _, _]) rfl)) ?_
        refine DrG.st (i := 6) [] rfl rfl rfl (by kernel_rfl) (OKG.o rfl (OK1.mv (Has.t rfl))) ?_
        refine DrG.st (i := 7) [] rfl rfl rfl (by kernel_rfl) (OKG.o rfl (OK1.mv (Has.t rfl))) ?_
        refine DrG.st (i := 8) [34, 35, 36] rfl rfl rfl (by kernel_rfl) (OKG.o rfl (OK1.call (ref11_At (i := j) (k := k) (by omega) (by omega)) (.cons (Has.t rfl) (.cons (Has.t rfl) (.cons (Has.t rfl) .nil))))) ?_
        refine DrG.st (i := 9) [33, 37] rfl rfl rfl (by kernel_rfl) (OKG.o rfl (OK1.eq (OK1.call (zint_Mul (by omega) (by omega)) (.cons (Has.t rfl) (.cons (Has.t rfl) .nil))) ((show isZ _ = isZ (cf (vals xs) (i * C + j) * cf (vals ys) (j * D + k)) from isZ_eq (by rw [cf_vals, cf_vals]))))) ?_
        refine DrG.fin (n := 10) mixed (by kernel_rfl) (by kernel_rfl) (by kernel_rfl) ?_
        refine Ops.cv (Cv.wk (.cons (t := 2) (Has.t rfl) (.cons (t := 3) (Has.t rfl) (.cons (t := 4) (Has.t rfl) (.cons (t := 6) (Has.t rfl) (.cons (t := 10) (Has.t rfl) (.cons (t := 11) (Has.t rfl) (.cons (t := 12) (Has.t rfl) (.cons (t := 13) (Has.t rfl) (.cons (t := 7) (Has.t rfl) (.cons (t := 5) (Has.t rfl) (.cons (t := 16) (Has.t rfl) (.cons (t := 17) (Has.t rfl) (.cons (t := 18) (Has.t rfl) (.cons (t := 19) (Has.t rfl) (.cons (t := 22) (Has.t rfl) (.cons (t := 8) (Has.t rfl) (.cons (t := 9) (Has.t rfl) (.cons (t := 23) (Has.t rfl) (.cons (t := 24) (Has.t rfl) (.cons (t := 25) (Has.t rfl) (.cons (t := 26) (Has.t rfl) (.cons (t := 29) (Has.t rfl) (.cons (t := 30) (Has.t rfl) (.cons (t := 31) (Has.t rfl) (.cons (t := 32) (Has.t rfl) (.cons (t := 33) (Has.t rfl) (.cons (t := 34) (Has.t rfl) (.cons (t := 35) (Has.t rfl) (.cons (t := 36) (Has.t rfl) (.cons (t := 37) (Has.t rfl) (.cons (t := 38) (Has.t rfl) .nil)))))))))))))))))))))))))))))))) ?_
        refine st (OK1.eq (OK1.call (zint_Add (by rw [val_words, ← hs]; omega) (by rw [val_words]; omega)) (.cons (Has.t rfl) (.cons (Has.t rfl) .nil))) ((show isZ _ = isZ (dotS (fun j => cf (vals xs) (i * C + j)) (fun j => cf (vals ys) (j * D + k)) (j + 1)) from isZ_eq (by simp only [zv_nf]; rfl)))) rfl ?_
        refine Ops.store (Has.t rfl) (Has.t rfl) (i := 0) rfl ty72 rfl rfl (Ss' := [_, _]) rfl (M' := [(some _, cellM [_, _]), _, _, _]) rfl ?_
        refine nl ?_
        refine At.bln ?_
        refine At.thn (hK20 _ _ ?_); clear hK20
        refine Tri.region ?_
        refine st (OK1.mv (Has.t rfl)) rfl ?_
        refine st (OK1.addI (Has.t rfl) (Has.cI 1 rfl) (by first | omega | assumption) (by first | omega | assumption)) rfl ?_
        refine st (OK1.as (Has.t rfl)) rfl ?_
        refine nl ?_
        refine At.thn ?_
        refine hK17 (⟨j + 1, by omega⟩) _ _ ?_ (Cv.mem (.cons (t := 9) (Has.t' rfl ?_) (.cons (t := 2) (Has.t rfl) (.cons (t := 3) (Has.t rfl) (.cons (t := 4) (Has.t rfl) (.cons (t := 6) (Has.t rfl) (.cons (t := 10) (Has.t rfl) (.cons (t := 11) (Has.t rfl) (.cons (t := 12) (Has.t rfl) (.cons (t := 13) (Has.t rfl) (.cons (t := 7) (Has.t rfl) (.cons (t := 5) (Has.t rfl) (.cons (t := 16) (Has.t rfl) (.cons (t := 17) (Has.t rfl) (.cons (t := 18) (Has.t rfl) (.cons (t := 19) (Has.t rfl) (.cons (t := 22) (Has.t rfl) (.cons (t := 8) (Has.t rfl) .nil))))))))))))))))) ?_)
        · show C - (j + 1) < C - j; omega
        · exact isI_eq (by omega)
        · rfl
      · have hc3 := BP.f hc3
        have hjC : j = C := (by omega)
        refine Tri.exit ?_
        refine At.the ?_
        refine At.the ?_
        refine At.blh ?_
        refine At.thn (hK15 _ _ ?_); clear hK15
        refine Tri.region ?_
        refine st (OK1.mv (Has.t rfl)) rfl ?_
        refine st (OK1.eq (OK1.load (Has.t rfl) (i := 0) rfl ty72 rfl (Ss' := [_, _]) rfl) ((show _ = Flat (zc (nz (G i k))) from isZ_eq (by rw [hG, hjC])))) rfl ?_
        refine st (OK1.buildS [isB false, SlM isU []] sl61 ty72 zero72 (fun _ _ => ⟨rfl, nilM _ _, trivial⟩) rfl rfl (.cons (Has.t rfl) rfl rfl rfl .nil) rfl (S := SlK 2 zc [nz (G i k)]) rfl) rfl ?_
        refine Ops.appendGK (fk := zc) (u := (false, [])) zc_len (by decide) (fun _ => inferInstance) sl61 ty72 zero72 (fun _ _ => ⟨rfl, nilM _ _, trivial⟩) by72 (Has.t rfl) (i := 1) rfl (Has.t rfl) (by have hpl := place_lt (show i < R by omega) (show k < D by omega); rw [List.length_map, tab_len]; show i * D + k + 1 ≤ _; omega) (by simp) rfl fun gr1 => ?_
        refine Ops.memEq (M' := [_, grMK _ _ _, _, _]) rfl ?_
        refine st (OK1.as (Has.t rfl)) rfl ?_
        refine nl ?_
        refine At.bln ?_
        refine At.thn (hK13 _ _ ?_); clear hK13
        refine Tri.region ?_
        refine st (OK1.mv (Has.t rfl)) rfl ?_
        refine st (OK1.addI (Has.t rfl) (Has.cI 1 rfl) (by first | omega | assumption) (by first | omega | assumption)) rfl ?_
        refine st (OK1.as (Has.t rfl)) rfl ?_
        refine nl ?_
        refine At.thn ?_
        refine hK10 (⟨(k + 1, gr1), by show k + 1 ≤ D; omega⟩) _ _ ?_ (Cv.trans (Cv.drop ((.cons _ (.cons_cons _ (.cons_cons _ (.cons_cons _ .slnil)))))) (Cv.mem (.cons (t := 7) (Has.t' rfl ?_) (.cons (t := 5) (Has.t' rfl ?_) (.cons (t := 2) (Has.t rfl) (.cons (t := 3) (Has.t rfl) (.cons (t := 4) (Has.t rfl) (.cons (t := 6) (Has.t rfl) (.cons (t := 10) (Has.t rfl) (.cons (t := 11) (Has.t rfl) (.cons (t := 12) (Has.t rfl) (.cons (t := 13) (Has.t rfl) .nil)))))))))) ?_))
        · show D - (k + 1) < D - k; omega
        · exact isI_eq (by omega)
        · exact isGr_eq (by rw [← tab_succ G (show k < D by omega), List.map_append, List.length_append]; rfl)
        · exact grMK_eq (by rw [← tab_succ G (show k < D by omega), List.map_append]; rfl)
    · have hc2 := BP.f hc2
      refine Tri.exit ?_
      refine At.the ?_
      refine At.the ?_
      refine At.blh ?_
      refine At.bln ?_
      refine At.thn (hK8 _ _ ?_); clear hK8
      refine Tri.region ?_
      refine st (OK1.mv (Has.t rfl)) rfl ?_
      refine st (OK1.addI (Has.t rfl) (Has.cI 1 rfl) (by first | omega | assumption) (by first | omega | assumption)) rfl ?_
      refine st (OK1.as (Has.t rfl)) rfl ?_
      refine nl ?_
      refine At.thn ?_
      have hkD : k = D := by omega
      refine hK5 (⟨(i + 1, g2), by show i + 1 ≤ R; omega⟩) _ _ ?_ (Cv.mem (.cons (t := 6) (Has.t' rfl ?_) (.cons (t := 5) (Has.t' rfl ?_) (.cons (t := 2) (Has.t rfl) (.cons (t := 3) (Has.t rfl) (.cons (t := 4) (Has.t rfl) .nil))))) ?_)
      · show R - (i + 1) < R - i; omega
      · exact isI_eq (by omega)
      · exact isGr_eq (by rw [hkD, tab_next])
      · exact grMK_eq (by rw [hkD, tab_next])
  · have hc1 := BP.f hc1
    refine Tri.exit ?_
    refine At.the ?_
    refine At.the ?_
    refine At.blh ?_
    refine At.thn (hK3 _ _ ?_); clear hK3
    refine Tri.cv (Cv.wk (.cons (t := 4) (Has.t rfl) (.cons (t := 5) (Has.t rfl) .nil))) ?_
    refine Tri.seq fun K21 hK21 => ?_
    refine Tri.cv (Cv.freezeGK (t := 5) (i := 0) (ys := (tab (i * D + 0) D G).map nz) zc_len rfl rfl rfl) ?_
    refine Tri.memEq (M' := [_, _]) rfl ?_
    refine Tri.cv (Cv.wk (.cons (t := 4) (Has.t rfl) (.cons (t := 5) (Has.t rfl) .nil))) ?_
    refine Tri.region ?_
    refine st (OK1.mv (Has.t rfl)) rfl ?_
    refine st (OK1.as (Has.t rfl)) rfl ?_
    refine nl ?_
    refine At.thn (hK21 _ _ ?_); clear hK21
    refine Tri.ret ?_
    refine rt1 (.inl rfl) Try.results57 rfl (.tmp (Has.t' rfl ?_) .nil)
    all_goals (exact isPl_eq (by rw [Nat.add_zero, show i = R by omega]))
end Go.Proofs.Ytiieaohnpnojmaa
/- Contracts: the document's answers on forms. -/
namespace Go.Proofs.Ytiieaohnpnojmaa
open Go.En Go.RowKit
set_option linter.unusedVariables false
set_option maxRecDepth 10000
open Go.Nt
open Go.Pz
open Go.Mz
open Go.Hn
open Go.Hp
open Go.Dt
set_option maxHeartbeats 4000000 in
theorem ref14_First {R C i K : Nat} {xs : List (Bool × List Nat)} (hx : Bd (vals xs) K) (hK : K ≤ 400000000) (hR : R ≤ 64) (hC : C ≤ 64) (hl : xs.length = R * C) (hi : i < R) : Ctr Try.prog 62 [isM (R : Int) (C : Int) xs, isI (i : Int)] (isI ((fc C ((mf C (vals xs)) i) : Nat) : Int)) := by
  refine Ctr.intro Try.func62 rfl (by kernel_rfl) Try.ntmps62 rfl fun w0 F0 => ?_
  refine Tri.cv (Cv.wk (.cons (t := 0) (Has.t rfl) (.cons (t := 1) (Has.t rfl) .nil))) ?_
  refine Tri.fact (Has.rngI (Has.t (t := 1) rfl)) fun lt1 => ?_
  have hRC := side_le hR hC
  refine Tri.seq fun K1 hK1 => ?_
  refine Tri.region ?_
  refine Ops.box (Has.t rfl) rfl fun b1 => ?_
  refine st (OK1.as (Has.cI 0 rfl)) rfl ?_
  refine nl ?_
  refine At.thn (hK1 _ _ ?_); clear hK1
  refine Tri.seq fun K2 hK2 => ?_
  refine Tri.region ?_
  refine st (OK1.as (Has.cI 0 rfl)) rfl ?_
  refine nl ?_
  refine At.thn (hK2 _ _ ?_); clear hK2
  refine Tri.seq fun K3 hK3 => ?_
  refine Tri.block ?_
  refine Tri.loopF [1, 2, 4] (fun (z : { k : Nat // k ≤ C ∧ ∀ j, j < k → (mf C (vals xs)) i j = 0 }) => match z with | ⟨k, hI⟩ => [(5, isI (k : Int))]) (fun M => fun (z : { k : Nat // k ≤ C ∧ ∀ j, j < k → (mf C (vals xs)) i j = 0 }) => match z with | ⟨k, hI⟩ => M) (fun (z : { k : Nat // k ≤ C ∧ ∀ j, j < k → (mf C (vals xs)) i j = 0 }) => match z with | ⟨k, hI⟩ => C - k) (⟨0, Nat.zero_le _, fun j hj => absurd hj (Nat.not_lt_zero _)⟩) (Cv.mem (.cons (t := 5) (Has.t' rfl ?_) (.cons (t := 1) (Has.t rfl) (.cons (t := 2) (Has.t rfl) (.cons (t := 4) (Has.t rfl) .nil)))) ?_) ?_
  · rfl
  · rfl
  rintro ⟨k, hk, hz⟩ K4 hK4
  refine Tri.cv (Cv.wk (.cons (t := 5) (Has.t rfl) (.cons (t := 1) (Has.t rfl) (.cons (t := 2) (Has.t rfl) (.cons (t := 4) (Has.t rfl) .nil))))) ?_
  have hxr := hx.raw (i * C + k)
  refine Tri.seq fun K5 hK5 => ?_
  refine Tri.seq fun K6 hK6 => ?_
  refine Tri.region ?_
  refine st (OK1.mv (Has.t rfl)) rfl ?_
  refine st (OK1.fieldAddr (Has.t rfl) fld63_1 ty3) rfl ?_
  refine st (OK1.load1 (Has.t rfl) (i := 0) rfl ty3 rfl) rfl ?_
  refine st (OK1.ltI (Has.t rfl) (Has.t rfl)) rfl ?_
  refine st (OK1.mv (Has.t rfl)) rfl ?_
  refine stT rfl rfl (fun hg => have hg' := BP.t hg; OK1.load (Has.t rfl) (i := 0) rfl ty63 rfl (Ss' := [_, _, _]) rfl) rfl ?_
  refine stT rfl rfl (fun hg => have hg' := BP.t hg; OK1.mv (Has.t rfl)) rfl ?_
  refine stT rfl rfl (fun hg => have hg' := BP.t hg; OK1.mv (Has.t rfl)) rfl ?_
  refine stT rfl rfl (fun hg => have hg' := BP.t hg; OK1.call (ref11_At (i := i) (k := k) (by omega) (by have := place_lt hi (show k < C by omega); omega)) (.cons (Has.g rfl hg) (.cons (Has.g rfl hg) (.cons (Has.g rfl hg) .nil)))) rfl ?_
  refine stT rfl rfl (fun hg => have hg' := BP.t hg; OK1.eq (OK1.call (zint_Sign (by omega)) (.cons (Has.g rfl hg) .nil)) ((show _ = isI (sgn ((mf C (vals xs)) i k)) from isI_eq (by rw [← cf_vals]; rfl)))) rfl ?_
  refine stT rfl rfl (fun hg => have hg' := BP.t hg; OK1.eqI (Has.g rfl hg) (Has.cI 0 rfl)) rfl ?_
  refine st (OK1.pickAnd (Has.t rfl) (fun h => Has.g rfl h)) rfl ?_
  refine nl ?_
  refine At.thn (hK6 _ _ ?_); clear hK6
  refine Tri.cond (Has.t rfl) (fun hc1 => ?_) (fun hc1 => ?_)
  · have hc1 := BP.t hc1
    have hk0 := (sgn_eq0 _).1 hc1.2
    refine Tri.skip ?_
    refine At.thn (hK5 _ _ ?_); clear hK5
    refine Tri.block ?_
    refine Tri.region ?_
    refine st (OK1.mv (Has.t rfl)) rfl ?_
    refine st (OK1.addI (Has.t rfl) (Has.cI 1 rfl) (by first | omega | assumption) (by first | omega | assumption)) rfl ?_
    refine st (OK1.as (Has.t rfl)) rfl ?_
    refine nl ?_
    refine At.bln ?_
    refine At.thn ?_
    refine hK4 (⟨k + 1, by omega, fun j hj => by rcases Nat.lt_or_ge j k with h | h; exact hz j h; obtain rfl : j = k := (by omega); exact hk0⟩) _ _ ?_ (Cv.mem (.cons (t := 5) (Has.t' rfl ?_) (.cons (t := 1) (Has.t rfl) (.cons (t := 2) (Has.t rfl) (.cons (t := 4) (Has.t rfl) .nil)))) ?_)
    · show C - (k + 1) < C - k; omega
    · exact isI_eq (by omega)
    · rfl
  · have hc1 := BP.f hc1
    have hout := hc1
    refine Tri.exit ?_
    refine At.the ?_
    refine At.the ?_
    refine At.blh ?_
    refine At.thn (hK3 _ _ ?_); clear hK3
    refine Tri.cv (Cv.wk (.cons (t := 4) (Has.t rfl) (.cons (t := 5) (Has.t rfl) .nil))) ?_
    refine Tri.seq fun K7 hK7 => ?_
    refine Tri.region ?_
    refine st (OK1.mv (Has.t rfl)) rfl ?_
    refine st (OK1.as (Has.t rfl)) rfl ?_
    refine nl ?_
    refine At.thn (hK7 _ _ ?_); clear hK7
    refine Tri.ret ?_
    refine rt1 (.inl rfl) Try.results62 rfl (.tmp (Has.t' rfl ?_) .nil)
    all_goals (exact isI_eq (fc_out hk hz hout))
set_option maxHeartbeats 4000000 in
theorem ref14_Is {R C K : Nat} {xs : List (Bool × List Nat)} (hx : Bd (vals xs) K) (hK : K ≤ 400000000) (hR : R ≤ 64) (hC : C ≤ 64) (hl : xs.length = R * C) : Ctr Try.prog 54 [isM (R : Int) (C : Int) xs] (isB (hermB R C (mf C (vals xs)))) := by
  refine Ctr.intro Try.func54 rfl (by kernel_rfl) Try.ntmps54 rfl fun w0 F0 => ?_
  refine Tri.cv (Cv.wk (.cons (t := 0) (Has.t rfl) .nil)) ?_
  have hRC := side_le hR hC
  refine Tri.seq fun K1 hK1 => ?_
  refine Tri.region ?_
  refine Ops.box (Has.t rfl) rfl fun b1 => ?_
  refine st (OK1.as (Has.cB false)) rfl ?_
  refine nl ?_
  refine At.thn (hK1 _ _ ?_); clear hK1
  refine Tri.seq fun K2 hK2 => ?_
  refine Tri.seq fun K3 hK3 => ?_
  refine Tri.region ?_
  refine st (OK1.as (Has.cI 0 rfl)) rfl ?_
  refine nl ?_
  refine At.thn (hK3 _ _ ?_); clear hK3
  refine Tri.block ?_
  refine Tri.loopF [1] (fun (z : { i : Nat // i ≤ R ∧ HermF i C (mf C (vals xs)) }) => match z with | ⟨i, hI⟩ => [(3, isI (i : Int))]) (fun M => fun (z : { i : Nat // i ≤ R ∧ HermF i C (mf C (vals xs)) }) => match z with | ⟨i, hI⟩ => M) (fun (z : { i : Nat // i ≤ R ∧ HermF i C (mf C (vals xs)) }) => match z with | ⟨i, hI⟩ => R - i) (⟨0, Nat.zero_le _, fun i hi => absurd hi (Nat.not_lt_zero _)⟩) (Cv.mem (.cons (t := 3) (Has.t' rfl ?_) (.cons (t := 1) (Has.t rfl) .nil)) ?_) ?_
  · rfl
  · rfl
  rintro ⟨i, hi, hF⟩ K4 hK4
  refine Tri.cv (Cv.wk (.cons (t := 3) (Has.t rfl) (.cons (t := 1) (Has.t rfl) .nil))) ?_
  refine Tri.seq fun K5 hK5 => ?_
  refine Tri.seq fun K6 hK6 => ?_
  refine Tri.region ?_
  refine st (OK1.mv (Has.t rfl)) rfl ?_
  refine st (OK1.fieldAddr (Has.t rfl) fld63_0 ty3) rfl ?_
  refine st (OK1.load1 (Has.t rfl) (i := 0) rfl ty3 rfl) rfl ?_
  refine st (OK1.ltI (Has.t rfl) (Has.t rfl)) rfl ?_
  refine nl ?_
  refine At.thn (hK6 _ _ ?_); clear hK6
  refine Tri.cond (Has.t rfl) (fun hc1 => ?_) (fun hc1 => ?_)
  · have hc1 := BP.t hc1
    have hiR : i < R := (by omega)
    have hkC := fc_le ((mf C (vals xs)) i) C
    have hne : (fc C ((mf C (vals xs)) i)) < C → (mf C (vals xs)) i (fc C ((mf C (vals xs)) i)) ≠ 0 := fc_ne
    refine Tri.skip ?_
    refine At.thn (hK5 _ _ ?_); clear hK5
    refine Tri.seq fun K7 hK7 => ?_
    refine Tri.block ?_
    refine Tri.seq fun K8 hK8 => ?_
    refine Tri.region ?_
    refine st (OK1.load (Has.t rfl) (i := 0) rfl ty63 rfl (Ss' := [_, _, _]) rfl) rfl ?_
    refine st (OK1.mv (Has.t rfl)) rfl ?_
    refine st (OK1.call (ref14_First (i := i) hx hK hR hC hl hiR) (.cons (Has.t rfl) (.cons (Has.t rfl) .nil))) rfl ?_
    refine st (OK1.as (Has.t rfl)) rfl ?_
    refine nl ?_
    refine At.thn (hK8 _ _ ?_); clear hK8
    refine Tri.seq fun K9 hK9 => ?_
    refine Tri.seq fun K10 hK10 => ?_
    refine Tri.region ?_
    refine st (OK1.mv (Has.t rfl)) rfl ?_
    refine st (OK1.gtI (Has.t rfl) (Has.cI 0 rfl)) rfl ?_
    refine st (OK1.mv (Has.t rfl)) rfl ?_
    refine stT rfl rfl (fun hg => have hg' := BP.t hg; OK1.mv (Has.t rfl)) rfl ?_
    refine stT rfl rfl (fun hg => have hg' := BP.t hg; OK1.fieldAddr (Has.t rfl) fld63_1 ty3) rfl ?_
    refine stT rfl rfl (fun hg => have hg' := BP.t hg; OK1.load1 (Has.g rfl hg) (i := 0) rfl ty3 rfl) rfl ?_
    refine stT rfl rfl (fun hg => have hg' := BP.t hg; OK1.ltI (Has.g rfl hg) (Has.g rfl hg)) rfl ?_
    refine st (OK1.pickAnd (Has.t rfl) (fun h => Has.g rfl h)) rfl ?_
    refine st (OK1.mv (Has.t rfl)) rfl ?_
    refine stT rfl rfl (fun hg => have hg' := BP.t hg; OK1.load (Has.t rfl) (i := 0) rfl ty63 rfl (Ss' := [_, _, _]) rfl) rfl ?_
    refine stT rfl rfl (fun hg => have hg' := BP.t hg; OK1.mv (Has.t rfl)) rfl ?_
    refine stT rfl rfl (fun hg => have hg' := BP.t hg; OK1.eq (OK1.subI (Has.g rfl hg) (Has.cI 1 rfl) (by first | omega | assumption) (by first | omega | assumption)) ((show isI _ = isI ((i - 1 : Nat) : Int) from isI_eq (by omega)))) rfl ?_
    refine stT rfl rfl (fun hg => have hg' := BP.t hg; OK1.call (ref14_First (i := i - 1) hx hK hR hC hl (by omega)) (.cons (Has.g rfl hg) (.cons (Has.g rfl hg) .nil))) rfl ?_
    refine stT rfl rfl (fun hg => have hg' := BP.t hg; OK1.mv (Has.t rfl)) rfl ?_
    refine stT rfl rfl (fun hg => have hg' := BP.t hg; OK1.geI (Has.g rfl hg) (Has.g rfl hg)) rfl ?_
    refine st (OK1.pickAnd (Has.t rfl) (fun h => Has.g rfl h)) rfl ?_
    refine st (OK1.mv (Has.t rfl)) rfl ?_
    refine stF rfl rfl (fun hg => have hg' := BP.t hg; OK1.mv (Has.t rfl)) rfl ?_
    refine stF rfl rfl (fun hg => have hg' := BP.t hg; OK1.fieldAddr (Has.t rfl) fld63_1 ty3) rfl ?_
    refine stF rfl rfl (fun hg => have hg' := BP.t hg; OK1.load1 (Has.g rfl hg) (i := 0) rfl ty3 rfl) rfl ?_
    refine stF rfl rfl (fun hg => have hg' := BP.t hg; OK1.ltI (Has.g rfl hg) (Has.g rfl hg)) rfl ?_
    refine stF rfl rfl (fun hg => have hg' := BP.t hg; OK1.mv (Has.g rfl hg)) rfl ?_
    refine stGT rfl rfl (fun hg => have hg' := BP.t hg; OK1.load (Has.t rfl) (i := 0) rfl ty63 rfl (Ss' := [_, _, _]) rfl) rfl ?_
    refine stGT rfl rfl (fun hg => have hg' := BP.t hg; OK1.mv (Has.t rfl)) rfl ?_
    refine stGT rfl rfl (fun hg => have hg' := BP.t hg; OK1.mv (Has.t rfl)) rfl ?_
    refine stGT rfl rfl (fun hg => have hg' := BP.t hg; OK1.call (ref11_At (i := i) (k := (fc C ((mf C (vals xs)) i))) (by omega) (by have := place_lt hiR (show (fc C ((mf C (vals xs)) i)) < C by omega); omega)) (.cons (Has.g rfl hg) (.cons (Has.g rfl hg) (.cons (Has.g rfl hg) .nil)))) rfl ?_
    refine stGT rfl rfl (fun hg => have hg' := BP.t hg; OK1.eq (OK1.call (zint_Sign (by have := hx.raw (i * C + (fc C ((mf C (vals xs)) i))); omega)) (.cons (Has.g rfl hg) .nil)) ((show _ = isI (sgn ((mf C (vals xs)) i (fc C ((mf C (vals xs)) i)))) from isI_eq (by rw [← cf_vals]; rfl)))) rfl ?_
    refine stGT rfl rfl (fun hg => have hg' := BP.t hg; OK1.ltI (Has.g rfl hg) (Has.cI 0 rfl)) rfl ?_
    refine stF rfl rfl (fun hg => have hg' := BP.t hg; OK1.pickAnd (Has.g rfl hg) (fun h => Has.g rfl (ga hg h))) rfl ?_
    refine st (OK1.pickOr (Has.t rfl) (fun h => Has.g rfl (ng h))) rfl ?_
    refine nl ?_
    refine At.thn (hK10 _ _ ?_); clear hK10
    refine Tri.cond (Has.t rfl) (fun hc2 => ?_) (fun hc2 => ?_)
    · have hc2 := BP.t hc2
      skip
      refine Tri.seq fun K11 hK11 => ?_
      refine Tri.region ?_
      refine st (OK1.as (Has.cB false)) rfl ?_
      refine nl ?_
      refine At.thn (hK11 _ _ ?_); clear hK11
      refine Tri.ret ?_
      refine At.thr ?_
      refine At.blr ?_
      refine At.thr ?_
      refine At.thr ?_
      refine At.blr ?_
      refine At.thr ?_
      refine rt1 (.inl rfl) Try.results54 rfl (.tmp (Has.t' rfl ?_) .nil)
      all_goals (exact isB_eq (hermB_no fun hh => by have hsl := sgn_lt ((mf C (vals xs)) i (fc C ((mf C (vals xs)) i))); have hx1 := hh i hiR (by omega); have hx2 := hx1.1; have hx3 := hx1.2.1; omega))
    · have hc2 := BP.f hc2
      have hs0 : (fc C ((mf C (vals xs)) i)) < C → 0 < (mf C (vals xs)) i (fc C ((mf C (vals xs)) i)) := fun h => by
        have h1 := hne h
        have h2 := mt (sgn_lt ((mf C (vals xs)) i (fc C ((mf C (vals xs)) i)))).2
        omega
      refine Tri.skip ?_
      refine At.thn (hK9 _ _ ?_); clear hK9
      refine Tri.seq fun K12 hK12 => ?_
      refine Tri.region ?_
      refine st (OK1.as (Has.cI 0 rfl)) rfl ?_
      refine nl ?_
      refine At.thn (hK12 _ _ ?_); clear hK12
      refine Tri.block ?_
      refine Tri.loopF [1, 3, 7, 8, 9, 10, 13, 14, 15, 4, 16, 17, 18, 19, 20, 21, 22, 23, 24, 25, 26, 27, 28, 29, 30, 31, 32, 33, 34, 35, 36, 37, 38, 39, 40, 41, 42, 43, 44, 45] (fun (z : { r : Nat // r ≤ i ∧ ∀ j, j < r → (fc C ((mf C (vals xs)) i)) < C → 0 ≤ (mf C (vals xs)) j (fc C ((mf C (vals xs)) i)) ∧ (mf C (vals xs)) j (fc C ((mf C (vals xs)) i)) < (mf C (vals xs)) i (fc C ((mf C (vals xs)) i)) }) => match z with | ⟨r, hI2⟩ => [(5, isI (r : Int))]) (fun M => fun (z : { r : Nat // r ≤ i ∧ ∀ j, j < r → (fc C ((mf C (vals xs)) i)) < C → 0 ≤ (mf C (vals xs)) j (fc C ((mf C (vals xs)) i)) ∧ (mf C (vals xs)) j (fc C ((mf C (vals xs)) i)) < (mf C (vals xs)) i (fc C ((mf C (vals xs)) i)) }) => match z with | ⟨r, hI2⟩ => M) (fun (z : { r : Nat // r ≤ i ∧ ∀ j, j < r → (fc C ((mf C (vals xs)) i)) < C → 0 ≤ (mf C (vals xs)) j (fc C ((mf C (vals xs)) i)) ∧ (mf C (vals xs)) j (fc C ((mf C (vals xs)) i)) < (mf C (vals xs)) i (fc C ((mf C (vals xs)) i)) }) => match z with | ⟨r, hI2⟩ => i - r) (⟨0, Nat.zero_le _, fun j hj => absurd hj (Nat.not_lt_zero _)⟩) (Cv.mem (.cons (t := 5) (Has.t' rfl ?_) (.cons (t := 1) (Has.t rfl) (.cons (t := 3) (Has.t rfl) (.cons (t := 7) (Has.t rfl) (.cons (t := 8) (Has.t rfl) (.cons (t := 9) (Has.t rfl) (.cons (t := 10) (Has.t rfl) (.cons (t := 13) (Has.t rfl) (.cons (t := 14) (Has.t rfl) (.cons (t := 15) (Has.t rfl) (.cons (t := 4) (Has.t rfl) (.cons (t := 16) (Has.t rfl) (.cons (t := 17) (Has.t rfl) (.cons (t := 18) (Has.t rfl) (.cons (t := 19) (Has.t rfl) (.cons (t := 20) (Has.t rfl) (.cons (t := 21) (Has.t rfl) (.cons (t := 22) (Has.t rfl) (.cons (t := 23) (Has.t rfl) (.cons (t := 24) (Has.t rfl) (.cons (t := 25) (Has.t rfl) (.cons (t := 26) (Has.t rfl) (.cons (t := 27) (Has.t rfl) (.cons (t := 28) (Has.t rfl) (.cons (t := 29) (Has.t rfl) (.cons (t := 30) (Has.t rfl) (.cons (t := 31) (Has.t rfl) (.cons (t := 32) (Has.t rfl) (.cons (t := 33) (Has.t rfl) (.cons (t := 34) (Has.t rfl) (.cons (t := 35) (Has.t rfl) (.cons (t := 36) (Has.t rfl) (.cons (t := 37) (Has.t rfl) (.cons (t := 38) (Has.t rfl) (.cons (t := 39) (Has.t rfl) (.cons (t := 40) (Has.t rfl) (.cons (t := 41) (Has.t rfl) (.cons (t := 42) (Has.t rfl) (.cons (t := 43) (Has.t rfl) (.cons (t := 44) (Has.t rfl) (.cons (t := 45) (Has.t rfl) .nil))))))))))))))))))))))))))))))))))))))))) ?_) ?_
      · rfl
      · rfl
      rintro ⟨r, hr, hI2⟩ K13 hK13
      refine Tri.cv (Cv.wk (.cons (t := 5) (Has.t rfl) (.cons (t := 1) (Has.t rfl) (.cons (t := 3) (Has.t rfl) (.cons (t := 7) (Has.t rfl) (.cons (t := 8) (Has.t rfl) (.cons (t := 9) (Has.t rfl) (.cons (t := 10) (Has.t rfl) (.cons (t := 13) (Has.t rfl) (.cons (t := 14) (Has.t rfl) (.cons (t := 15) (Has.t rfl) (.cons (t := 4) (Has.t rfl) (.cons (t := 16) (Has.t rfl) (.cons (t := 17) (Has.t rfl) (.cons (t := 18) (Has.t rfl) (.cons (t := 19) (Has.t rfl) (.cons (t := 20) (Has.t rfl) (.cons (t := 21) (Has.t rfl) (.cons (t := 22) (Has.t rfl) (.cons (t := 23) (Has.t rfl) (.cons (t := 24) (Has.t rfl) (.cons (t := 25) (Has.t rfl) (.cons (t := 26) (Has.t rfl) (.cons (t := 27) (Has.t rfl) (.cons (t := 28) (Has.t rfl) (.cons (t := 29) (Has.t rfl) (.cons (t := 30) (Has.t rfl) (.cons (t := 31) (Has.t rfl) (.cons (t := 32) (Has.t rfl) (.cons (t := 33) (Has.t rfl) (.cons (t := 34) (Has.t rfl) (.cons (t := 35) (Has.t rfl) (.cons (t := 36) (Has.t rfl) (.cons (t := 37) (Has.t rfl) (.cons (t := 38) (Has.t rfl) (.cons (t := 39) (Has.t rfl) (.cons (t := 40) (Has.t rfl) (.cons (t := 41) (Has.t rfl) (.cons (t := 42) (Has.t rfl) (.cons (t := 43) (Has.t rfl) (.cons (t := 44) (Has.t rfl) (.cons (t := 45) (Has.t rfl) .nil)))))))))))))))))))))))))))))))))))))))))) ?_
      refine Tri.seq fun K14 hK14 => ?_
      refine Tri.seq fun K15 hK15 => ?_
      refine Tri.region ?_
      refine st (OK1.mv (Has.t rfl)) rfl ?_
      refine st (OK1.mv (Has.t rfl)) rfl ?_
      refine st (OK1.ltI (Has.t rfl) (Has.t rfl)) rfl ?_
      refine st (OK1.mv (Has.t rfl)) rfl ?_
      refine stT rfl rfl (fun hg => have hg' := BP.t hg; OK1.mv (Has.t rfl)) rfl ?_
      refine stT rfl rfl (fun hg => have hg' := BP.t hg; OK1.fieldAddr (Has.t rfl) fld63_1 ty3) rfl ?_
      refine stT rfl rfl (fun hg => have hg' := BP.t hg; OK1.load1 (Has.g rfl hg) (i := 0) rfl ty3 rfl) rfl ?_
      refine stT rfl rfl (fun hg => have hg' := BP.t hg; OK1.ltI (Has.g rfl hg) (Has.g rfl hg)) rfl ?_
      refine st (OK1.pickAnd (Has.t rfl) (fun h => Has.g rfl h)) rfl ?_
      refine nl ?_
      refine At.thn (hK15 _ _ ?_); clear hK15
      refine Tri.cond (Has.t rfl) (fun hc3 => ?_) (fun hc3 => ?_)
      · have hc3 := BP.t hc3
        have hpr := place_lt (show r < R by omega) (show (fc C ((mf C (vals xs)) i)) < C by omega)
        have hpi := place_lt hiR (show (fc C ((mf C (vals xs)) i)) < C by omega)
        have hxr := hx.raw (r * C + (fc C ((mf C (vals xs)) i)))
        have hxi := hx.raw (i * C + (fc C ((mf C (vals xs)) i)))
        refine Tri.skip ?_
        refine At.thn (hK14 _ _ ?_); clear hK14
        refine Tri.seq fun K16 hK16 => ?_
        refine Tri.block ?_
        refine Tri.seq fun K17 hK17 => ?_
        refine Tri.region ?_
        refine st (OK1.load (Has.t rfl) (i := 0) rfl ty63 rfl (Ss' := [_, _, _]) rfl) rfl ?_
        refine st (OK1.mv (Has.t rfl)) rfl ?_
        refine st (OK1.mv (Has.t rfl)) rfl ?_
        refine st (OK1.call (ref11_At (i := r) (k := (fc C ((mf C (vals xs)) i))) (by omega) (by omega)) (.cons (Has.t rfl) (.cons (Has.t rfl) (.cons (Has.t rfl) .nil)))) rfl ?_
        refine Ops.alloc [isB false, SlM isU []] zero72 (fun _ _ => ⟨rfl, nilM _ _, trivial⟩) rfl fun b2 => ?_
        refine Ops.store (Has.t rfl) (Has.t rfl) (i := 0) rfl ty72 rfl rfl (Ss' := [_, _]) rfl (M' := [(some _, cellM [_, _]), _]) rfl ?_
        refine nl ?_
        refine At.thn (hK17 _ _ ?_); clear hK17
        refine Tri.seq fun K18 hK18 => ?_
        refine Tri.dr ?_
        refine DrG.st (i := 0) [] rfl rfl rfl (by kernel_rfl) (OKG.o rfl (OK1.load (Has.t rfl) (i := 0) rfl ty72 rfl (Ss' := [_, _]) rfl)) ?_
        refine DrG.st (i := 1) [61] rfl rfl rfl (by kernel_rfl) (OKG.o rfl (OK1.eq (OK1.call (zint_Sign (by omega)) (.cons (Has.t rfl) .nil)) ((show _ = isI (sgn ((mf C (vals xs)) r (fc C ((mf C (vals xs)) i)))) from isI_eq (by rw [← cf_vals]; rfl))))) ?_
        refine DrG.st (i := 2) [62] rfl rfl rfl (by kernel_rfl) (OKG.o rfl (OK1.ltI (Has.t rfl) (Has.cI 0 rfl))) ?_
        refine DrG.st (i := 3) [63] rfl rfl rfl (by kernel_rfl) (OKG.o rfl (OK1.mv (Has.t rfl))) ?_
        refine DrG.st (i := 4) [64] rfl rfl rfl (by kernel_rfl) (OKG.F rfl rfl rfl (fun hg => have hg' := BP.t hg; OK1.load (Has.t rfl) (i := 0) rfl ty72 rfl (Ss' := [_, _]) rfl)) ?_
        refine DrG.st (i := 5) [64] rfl rfl rfl (by kernel_rfl) (OKG.F rfl rfl rfl (fun hg => have hg' := BP.t hg; OK1.load (Has.t rfl) (i := 1) rfl ty63 rfl (Ss' := [_, _, _]) rfl)) ?_
        refine DrG.st (i := 6) [64] rfl rfl rfl (by kernel_rfl) (OKG.F rfl rfl rfl (fun hg => have hg' := BP.t hg; OK1.mv (Has.t rfl))) ?_
        refine DrG.st (i := 7) [64] rfl rfl rfl (by kernel_rfl) (OKG.F rfl rfl rfl (fun hg => have hg' := BP.t hg; OK1.mv (Has.t rfl))) ?_
        refine DrG.st (i := 8) [64, 66, 67, 68] rfl rfl rfl (by kernel_rfl) (OKG.F rfl rfl rfl (fun hg => have hg' := BP.t hg; OK1.call (ref11_At (i := i) (k := (fc C ((mf C (vals xs)) i))) (by omega) (by omega)) (.cons (Has.g rfl hg) (.cons (Has.g rfl hg) (.cons (Has.g rfl hg) .nil))))) ?_
        refine DrG.fin (n := 9) mixed (by kernel_rfl) (by kernel_rfl) (by kernel_rfl) ?_
        refine Ops.cv (Cv.wk (.cons (t := 1) (Has.t rfl) (.cons (t := 3) (Has.t rfl) (.cons (t := 7) (Has.t rfl) (.cons (t := 8) (Has.t rfl) (.cons (t := 9) (Has.t rfl) (.cons (t := 10) (Has.t rfl) (.cons (t := 13) (Has.t rfl) (.cons (t := 14) (Has.t rfl) (.cons (t := 15) (Has.t rfl) (.cons (t := 4) (Has.t rfl) (.cons (t := 16) (Has.t rfl) (.cons (t := 17) (Has.t rfl) (.cons (t := 18) (Has.t rfl) (.cons (t := 19) (Has.t rfl) (.cons (t := 20) (Has.t rfl) (.cons (t := 21) (Has.t rfl) (.cons (t := 22) (Has.t rfl) (.cons (t := 23) (Has.t rfl) (.cons (t := 24) (Has.t rfl) (.cons (t := 25) (Has.t rfl) (.cons (t := 26) (Has.t rfl) (.cons (t := 27) (Has.t rfl) (.cons (t := 28) (Has.t rfl) (.cons (t := 29) (Has.t rfl) (.cons (t := 30) (Has.t rfl) (.cons (t := 31) (Has.t rfl) (.cons (t := 32) (Has.t rfl) (.cons (t := 33) (Has.t rfl) (.cons (t := 34) (Has.t rfl) (.cons (t := 35) (Has.t rfl) (.cons (t := 36) (Has.t rfl) (.cons (t := 37) (Has.t rfl) (.cons (t := 38) (Has.t rfl) (.cons (t := 39) (Has.t rfl) (.cons (t := 40) (Has.t rfl) (.cons (t := 41) (Has.t rfl) (.cons (t := 42) (Has.t rfl) (.cons (t := 43) (Has.t rfl) (.cons (t := 44) (Has.t rfl) (.cons (t := 45) (Has.t rfl) (.cons (t := 5) (Has.t rfl) (.cons (t := 46) (Has.t rfl) (.cons (t := 47) (Has.t rfl) (.cons (t := 48) (Has.t rfl) (.cons (t := 49) (Has.t rfl) (.cons (t := 50) (Has.t rfl) (.cons (t := 51) (Has.t rfl) (.cons (t := 52) (Has.t rfl) (.cons (t := 53) (Has.t rfl) (.cons (t := 54) (Has.t rfl) (.cons (t := 57) (Has.t rfl) (.cons (t := 58) (Has.t rfl) (.cons (t := 59) (Has.t rfl) (.cons (t := 60) (Has.t rfl) (.cons (t := 6) (Has.t rfl) (.cons (t := 61) (Has.t rfl) (.cons (t := 62) (Has.t rfl) (.cons (t := 63) (Has.t rfl) (.cons (t := 64) (Has.t rfl) (.cons (t := 65) (Has.t rfl) (.cons (t := 66) (Has.t rfl) (.cons (t := 67) (Has.t rfl) (.cons (t := 68) (Has.t rfl) (.cons (t := 69) (Has.t rfl) .nil))))))))))))))))))))))))))))))))))))))))))))))))))))))))))))))))) ?_
        refine stF rfl rfl (fun hg => have hg' := BP.t hg; OK1.eq (OK1.call (zint_Cmp (by omega) (by omega)) (.cons (Has.g rfl hg) (.cons (Has.g rfl hg) .nil))) ((show _ = isI (cmpZ ((mf C (vals xs)) r (fc C ((mf C (vals xs)) i))) ((mf C (vals xs)) i (fc C ((mf C (vals xs)) i)))) from isI_eq (by rw [← cf_vals, ← cf_vals]; rfl)))) rfl ?_
        refine stF rfl rfl (fun hg => have hg' := BP.t hg; OK1.geI (Has.g rfl hg) (Has.cI 0 rfl)) rfl ?_
        refine st (OK1.pickOr (Has.t rfl) (fun h => Has.g rfl (ng h))) rfl ?_
        refine nl ?_
        refine At.thn (hK18 _ _ ?_); clear hK18
        refine Tri.cond (Has.t rfl) (fun hc4 => ?_) (fun hc4 => ?_)
        · have hc4 := BP.t hc4
          skip
          refine Tri.seq fun K19 hK19 => ?_
          refine Tri.region ?_
          refine st (OK1.as (Has.cB false)) rfl ?_
          refine nl ?_
          refine At.thn (hK19 _ _ ?_); clear hK19
          refine Tri.ret ?_
          refine At.blr ?_
          refine At.thr ?_
          refine At.thr ?_
          refine At.blr ?_
          refine At.blr ?_
          refine At.thr ?_
          refine At.thr ?_
          refine At.blr ?_
          refine At.thr ?_
          refine rt1 (.inl rfl) Try.results54 rfl (.tmp (Has.t' rfl ?_) .nil)
          all_goals (exact isB_eq (hermB_no fun hh => by have hsl := sgn_lt ((mf C (vals xs)) r (fc C ((mf C (vals xs)) i))); have hcz := cmpZ_cases ((mf C (vals xs)) r (fc C ((mf C (vals xs)) i))) ((mf C (vals xs)) i (fc C ((mf C (vals xs)) i))); have hx1 := (hh i hiR (by omega)).2.2 r (by omega); omega))
        · have hc4 := BP.f hc4
          have hrow : 0 ≤ (mf C (vals xs)) r (fc C ((mf C (vals xs)) i)) ∧ (mf C (vals xs)) r (fc C ((mf C (vals xs)) i)) < (mf C (vals xs)) i (fc C ((mf C (vals xs)) i)) := by
            have h1 := mt (sgn_lt ((mf C (vals xs)) r (fc C ((mf C (vals xs)) i)))).2
            have h2 := cmpZ_cases ((mf C (vals xs)) r (fc C ((mf C (vals xs)) i))) ((mf C (vals xs)) i (fc C ((mf C (vals xs)) i)))
            omega
          refine Tri.skip ?_
          refine At.bln ?_
          refine At.thn (hK16 _ _ ?_); clear hK16
          refine Tri.region ?_
          refine st (OK1.mv (Has.t rfl)) rfl ?_
          refine st (OK1.addI (Has.t rfl) (Has.cI 1 rfl) (by first | omega | assumption) (by first | omega | assumption)) rfl ?_
          refine st (OK1.as (Has.t rfl)) rfl ?_
          refine nl ?_
          refine At.thn ?_
          refine hK13 (⟨r + 1, by omega, fun j hj hc => by rcases Nat.lt_or_ge j r with h | h; exact hI2 j h hc; obtain rfl : j = r := (by omega); exact hrow⟩) _ _ ?_ (Cv.trans (Cv.drop ((.cons _ (.cons_cons _ .slnil)))) (Cv.mem (.cons (t := 5) (Has.t' rfl ?_) (.cons (t := 1) (Has.t rfl) (.cons (t := 3) (Has.t rfl) (.cons (t := 7) (Has.t rfl) (.cons (t := 8) (Has.t rfl) (.cons (t := 9) (Has.t rfl) (.cons (t := 10) (Has.t rfl) (.cons (t := 13) (Has.t rfl) (.cons (t := 14) (Has.t rfl) (.cons (t := 15) (Has.t rfl) (.cons (t := 4) (Has.t rfl) (.cons (t := 16) (Has.t rfl) (.cons (t := 17) (Has.t rfl) (.cons (t := 18) (Has.t rfl) (.cons (t := 19) (Has.t rfl) (.cons (t := 20) (Has.t rfl) (.cons (t := 21) (Has.t rfl) (.cons (t := 22) (Has.t rfl) (.cons (t := 23) (Has.t rfl) (.cons (t := 24) (Has.t rfl) (.cons (t := 25) (Has.t rfl) (.cons (t := 26) (Has.t rfl) (.cons (t := 27) (Has.t rfl) (.cons (t := 28) (Has.t rfl) (.cons (t := 29) (Has.t rfl) (.cons (t := 30) (Has.t rfl) (.cons (t := 31) (Has.t rfl) (.cons (t := 32) (Has.t rfl) (.cons (t := 33) (Has.t rfl) (.cons (t := 34) (Has.t rfl) (.cons (t := 35) (Has.t rfl) (.cons (t := 36) (Has.t rfl) (.cons (t := 37) (Has.t rfl) (.cons (t := 38) (Has.t rfl) (.cons (t := 39) (Has.t rfl) (.cons (t := 40) (Has.t rfl) (.cons (t := 41) (Has.t rfl) (.cons (t := 42) (Has.t rfl) (.cons (t := 43) (Has.t rfl) (.cons (t := 44) (Has.t rfl) (.cons (t := 45) (Has.t rfl) .nil))))))))))))))))))))))))))))))))))))))))) ?_))
          · show i - (r + 1) < i - r; omega
          · exact isI_eq (by omega)
          · rfl
      · have hc3 := BP.f hc3
        skip
        refine Tri.exit ?_
        refine At.the ?_
        refine At.the ?_
        refine At.blh ?_
        refine At.bln ?_
        refine At.thn (hK7 _ _ ?_); clear hK7
        refine Tri.region ?_
        refine st (OK1.mv (Has.t rfl)) rfl ?_
        refine st (OK1.addI (Has.t rfl) (Has.cI 1 rfl) (by first | omega | assumption) (by first | omega | assumption)) rfl ?_
        refine st (OK1.as (Has.t rfl)) rfl ?_
        refine nl ?_
        refine At.thn ?_
        refine hK4 (⟨i + 1, by omega, hF.snoc fun hc => ⟨fun h0 => by omega, by have := hs0 hc; omega, fun r' hr' => hI2 r' (by omega) hc⟩⟩) _ _ ?_ (Cv.mem (.cons (t := 3) (Has.t' rfl ?_) (.cons (t := 1) (Has.t rfl) .nil)) ?_)
        · show R - (i + 1) < R - i; omega
        · exact isI_eq (by omega)
        · rfl
  · have hc1 := BP.f hc1
    skip
    refine Tri.exit ?_
    refine At.the ?_
    refine At.the ?_
    refine At.blh ?_
    refine At.thn (hK2 _ _ ?_); clear hK2
    refine Tri.cv (Cv.wk .nil) ?_
    refine Tri.seq fun K20 hK20 => ?_
    refine Tri.region ?_
    refine st (OK1.as (Has.cB true)) rfl ?_
    refine nl ?_
    refine At.thn (hK20 _ _ ?_); clear hK20
    refine Tri.ret ?_
    refine rt1 (.inl rfl) Try.results54 rfl (.tmp (Has.t' rfl ?_) .nil)
    all_goals (exact isB_eq (hermB_yes (by rw [show R = i by omega]; exact hF)))
set_option maxHeartbeats 4000000 in
theorem ref14_Unimodular {R K : Nat} {l : List Int} (hx : Bd l K) (hK : K ≤ 10000000) (hR : R ≤ 64) (hl : l.length = R * R) (hd : (det R (mf R l)).natAbs = 1) : Ctr Try.prog 55 [isM (R : Int) (R : Int) (l.map nz)] (isB true) := by
  refine Ctr.intro Try.func55 rfl (by kernel_rfl) Try.ntmps55 rfl fun w0 F0 => ?_
  refine Tri.cv (Cv.wk (.cons (t := 0) (Has.t rfl) .nil)) ?_
  have hfo : formB (R : Int) (R : Int) (l.map nz).length = true := formB_true hR hR (by rw [List.length_map]; exact hl)
  obtain ⟨d, hde⟩ : ∃ d, d = det R (mf R l) := ⟨_, rfl⟩
  rw [← hde] at hd
  have h1 := nz_one
  have hdw : (List.length (words d.natAbs)) = 1 := by rw [hd]; exact nw_one
  refine Tri.seq fun K1 hK1 => ?_
  refine Tri.region ?_
  refine Ops.box (Has.t rfl) rfl fun b1 => ?_
  refine st (OK1.as (Has.cB false)) rfl ?_
  refine nl ?_
  refine At.thn (hK1 _ _ ?_); clear hK1
  refine Tri.seq fun K2 hK2 => ?_
  refine Tri.seq fun K3 hK3 => ?_
  refine Tri.region ?_
  refine st (OK1.load (Has.t rfl) (i := 0) rfl ty63 rfl (Ss' := [_, _, _]) rfl) rfl ?_
  refine st (OK1.eq (OK1.call (ref11_Formed) (.cons (Has.t rfl) .nil)) ((show isB _ = isB true from isB_eq (hfo)))) rfl ?_
  refine st (OK1.not (Has.t rfl)) rfl ?_
  refine st (OK1.mv (Has.t rfl)) rfl ?_
  refine stF rfl rfl (fun hg => have hg' := BP.t hg; OK1.fieldAddr (Has.t rfl) fld63_0 ty3) rfl ?_
  refine stF rfl rfl (fun hg => have hg' := BP.t hg; OK1.load1 (Has.g rfl hg) (i := 0) rfl ty3 rfl) rfl ?_
  refine stF rfl rfl (fun hg => have hg' := BP.t hg; OK1.fieldAddr (Has.t rfl) fld63_1 ty3) rfl ?_
  refine stF rfl rfl (fun hg => have hg' := BP.t hg; OK1.load1 (Has.g rfl hg) (i := 0) rfl ty3 rfl) rfl ?_
  refine stF rfl rfl (fun hg => have hg' := BP.t hg; OK1.neI (Has.g rfl hg) (Has.g rfl hg)) rfl ?_
  refine st (OK1.pickOr (Has.t rfl) (fun h => Has.g rfl (ng h))) rfl ?_
  refine nl ?_
  refine At.thn (hK3 _ _ ?_); clear hK3
  refine Tri.cv (Cv.wk (.cons (t := 1) (Has.t rfl) (.cons (t := 2) (Has.t rfl) (.cons (t := 12) (Has.t rfl) .nil)))) ?_
  refine Tri.cond (Has.t rfl) (fun hc1 => ?_) (fun hc1 => ?_)
  · have hc1 := BP.t hc1
    exfalso; simp at hc1
  · have hc1 := BP.f hc1
    refine Tri.skip ?_
    refine At.thn (hK2 _ _ ?_); clear hK2
    refine Tri.seq fun K4 hK4 => ?_
    refine Tri.region ?_
    refine st (OK1.load (Has.t rfl) (i := 0) rfl ty63 rfl (Ss' := [_, _, _]) rfl) rfl ?_
    refine st (OK1.eq (OK1.call (ref12_Det (xs := l.map nz) (by rw [vals_nz]; exact hx) hK hR (by rw [List.length_map]; exact hl)) (.cons (Has.t rfl) .nil)) ((show _ = isZ d from isZ_eq (by rw [vals_nz, hde])))) rfl ?_
    refine st (OK1.eq (OK1.call (zint_Abs (by rw [val_words]; omega)) (.cons (Has.t rfl) .nil)) ((show _ = isZ 1 from isZ_eq (by rw [zv_nf, hd]; rfl)))) rfl ?_
    refine st (OK1.call (zint_Of) (.cons (Has.cI 1 rfl) .nil)) rfl ?_
    refine st (OK1.eq (OK1.call (zint_Same (by rw [val_words]; omega) (by rw [val_words]; omega)) (.cons (Has.t rfl) (.cons (Has.t rfl) .nil))) ((show isB _ = isB true from isB_eq (decide_eq_true (by first | rfl | simp only [zv_nf]))))) rfl ?_
    refine st (OK1.as (Has.t rfl)) rfl ?_
    refine nl ?_
    refine At.thn (hK4 _ _ ?_); clear hK4
    refine Tri.cv (Cv.wk (.cons (t := 2) (Has.t rfl) .nil)) ?_
    refine Tri.ret ?_
    refine rt1 (.inl rfl) Try.results55 rfl (.tmp (Has.t' rfl ?_) .nil)
    all_goals (rfl)
end Go.Proofs.Ytiieaohnpnojmaa
/- Contracts: rows to be brought into form. -/
namespace Go.Proofs.Ytiieaohnpnojmaa
open Go.En Go.RowKit
set_option linter.unusedVariables false
set_option maxRecDepth 10000
open Go.Nt
open Go.Pz
open Go.Mz
open Go.Hn
set_option maxHeartbeats 4000000 in
theorem hnf_begun {R C K : Nat} {xs : List (Bool × List Nat)} (hx : Bd (vals xs) K) (hK : K ≤ 4000000000) (hR : R ≤ 64) (hC : C ≤ 64) (hl : xs.length = R * C) : CtrX Try.prog 114 [isM (R : Int) (C : Int) xs] ([]) (fun S M => ∃ bw gt, S = isPtr bw 0 ∧ M = hwM bw gt (rows0 C R (vals xs) R) C 0) := by
  refine CtrX.intro Try.func114 rfl (by kernel_rfl) Try.ntmps114 rfl fun w0 F0 => ?_
  refine Tri.cv (Cv.wk (.cons (t := 0) (Has.t rfl) .nil)) ?_
  refine Tri.seq fun K1 hK1 => ?_
  refine Tri.region ?_
  refine Ops.box (Has.t rfl) rfl fun b1 => ?_
  refine st (OK1.as Has.cP) rfl ?_
  refine nl ?_
  refine At.thn (hK1 _ _ ?_); clear hK1
  refine Tri.seq fun K2 hK2 => ?_
  refine Tri.region ?_
  refine st (OK1.fieldAddr (Has.t rfl) fld63_1 ty3) rfl ?_
  refine st (OK1.load1 (Has.t rfl) (i := 0) rfl ty3 rfl) rfl ?_
  refine st (OK1.build [nilS, isI 0, isI 0] pl133 zero133 (fun _ _ => ⟨rfl, ⟨rfl, by decide, by decide⟩, ⟨rfl, by decide, by decide⟩, trivial⟩) (.cons (Has.t rfl) rfl rfl rfl .nil) (Z'' := [_, _, _]) rfl) rfl ?_
  refine Ops.box (Has.t rfl) rfl fun b2 => ?_
  refine st (OK1.as (Has.t rfl)) rfl ?_
  refine nl ?_
  refine At.thn (hK2 _ _ ?_); clear hK2
  refine Tri.cv (Cv.wk (.cons (t := 1) (Has.t rfl) (.cons (t := 2) (Has.t rfl) (.cons (t := 3) (Has.t rfl) .nil)))) ?_
  refine Tri.seq fun K3 hK3 => ?_
  refine Tri.seq fun K4 hK4 => ?_
  refine Tri.cv (Cv.growF (List Int) (i := 0) (o := 0) rfl rfl rfl) ?_
  refine Tri.memEq (M' := [grM isP Gr.nil [], _, _]) rfl ?_
  refine Tri.region ?_
  refine st (OK1.fieldAddr (Has.t rfl) fld63_0 ty3) rfl ?_
  refine st (OK1.load1 (Has.t rfl) (i := 2) rfl ty3 rfl) rfl ?_
  refine st (OK1.mv (Has.cI 0 rfl)) rfl ?_
  refine nl ?_
  refine At.thn (hK4 _ _ ?_); clear hK4
  refine Tri.block ?_
  refine Tri.loopF [1, 2, 3, 12] (fun (z : { z : Nat × Gr (List Int) // z.1 ≤ R }) => match z with | ⟨(i, gt), hI⟩ => [(13, isI (i : Int))]) (fun M => fun (z : { z : Nat × Gr (List Int) // z.1 ≤ R }) => match z with | ⟨(i, gt), hI⟩ => (grM isP gt (rows0 C R (vals xs) i) :: (some b2, cellM [isGr gt (rows0 C R (vals xs) i).length, isI (C : Int), isI 0]) :: (some b1, cellM [isI (R : Int), isI (C : Int), SlK 2 zc xs]) :: [])) (fun (z : { z : Nat × Gr (List Int) // z.1 ≤ R }) => match z with | ⟨(i, gt), hI⟩ => R - i) (⟨(0, Gr.nil), Nat.zero_le _⟩) (Cv.mem (.cons (t := 13) (Has.t' rfl ?_) (.cons (t := 1) (Has.t rfl) (.cons (t := 2) (Has.t rfl) (.cons (t := 3) (Has.t rfl) (.cons (t := 12) (Has.t rfl) .nil))))) ?_) ?_
  · rfl
  · rfl
  rintro ⟨⟨i, gt⟩, hI⟩ K5 hK5
  refine Tri.cv (Cv.wk (.cons (t := 13) (Has.t rfl) (.cons (t := 1) (Has.t rfl) (.cons (t := 2) (Has.t rfl) (.cons (t := 3) (Has.t rfl) (.cons (t := 12) (Has.t rfl) .nil)))))) ?_
  refine Tri.memEq (M' := (grM isP gt (rows0 C R (vals xs) i) :: (some b2, cellM [isGr gt (rows0 C R (vals xs) i).length, isI (C : Int), isI 0]) :: (some b1, cellM [isI (R : Int), isI (C : Int), SlK 2 zc xs]) :: [])) rfl ?_
  simp only [] at hI
  have hrl := rows0_len C R (vals xs) i
  refine Tri.seq fun K6 hK6 => ?_
  refine Tri.region ?_
  refine st (OK1.ltI (Has.t rfl) (Has.t rfl)) rfl ?_
  refine nl ?_
  refine At.thn (hK6 _ _ ?_); clear hK6
  refine Tri.seq fun K7 hK7 => ?_
  refine Tri.cond (Has.t rfl) (fun hc1 => ?_) (fun hc1 => ?_)
  · have hc1 := BP.t hc1
    refine Tri.skip ?_
    refine At.thn (hK7 _ _ ?_); clear hK7
    refine Tri.seq fun K8 hK8 => ?_
    refine Tri.block ?_
    refine Tri.seq fun K9 hK9 => ?_
    refine Tri.region ?_
    refine st (OK1.mv (Has.t rfl)) rfl ?_
    refine st (OK1.as (Has.t rfl)) rfl ?_
    refine nl ?_
    refine At.thn (hK9 _ _ ?_); clear hK9
    refine Tri.seq fun K10 hK10 => ?_
    refine Tri.region ?_
    refine st (OK1.fieldAddr (Has.t rfl) fld63_1 ty3) rfl ?_
    refine st (OK1.load1 (Has.t rfl) (i := 2) rfl ty3 rfl) rfl ?_
    refine st (OK1.fieldAddr (Has.t rfl) fld63_0 ty3) rfl ?_
    refine st (OK1.load1 (Has.t rfl) (i := 2) rfl ty3 rfl) rfl ?_
    refine st (OK1.eq (OK1.addI (Has.t rfl) (Has.t rfl) (by first | omega | assumption) (by first | omega | assumption)) ((show isI _ = isI ((C + R : Nat) : Int) from isI_eq (by omega)))) rfl ?_
    refine Ops.makeK (fk := zc) (u := (false, [])) (n := (C + R)) (c := (C + R)) sl61 ty72 zero72 (fun _ _ => ⟨rfl, nilM _ _, trivial⟩) zc_len by72 (Has.t' rfl rfl) (Has.t' rfl rfl) ⟨by omega, by omega⟩ rfl fun b3 => ?_
    refine st (OK1.as (Has.t rfl)) rfl ?_
    refine nl ?_
    refine At.thn (hK10 _ _ ?_); clear hK10
    refine Tri.seq fun K11 hK11 => ?_
    refine Tri.seq fun K12 hK12 => ?_
    refine Tri.region ?_
    refine st (OK1.fieldAddr (Has.t rfl) fld63_1 ty3) rfl ?_
    refine st (OK1.load1 (Has.t rfl) (i := 3) rfl ty3 rfl) rfl ?_
    refine st (OK1.mv (Has.cI 0 rfl)) rfl ?_
    refine nl ?_
    refine At.thn (hK12 _ _ ?_); clear hK12
    refine Tri.block ?_
    refine Tri.loopF [1, 2, 3, 12, 13, 14, 15, 4, 16, 17, 18, 19, 20, 21, 5, 22, 23] (fun (z : { k : Nat // k ≤ C }) => match z with | ⟨k, hk⟩ => [(24, isI (k : Int))]) (fun M => fun (z : { k : Nat // k ≤ C }) => match z with | ⟨k, hk⟩ => ((some b3, cellM ((fill ((row0 C R (vals xs) i).map nz) k (false, [])).flatMap zc)) :: grM isP gt (rows0 C R (vals xs) i) :: (some b2, cellM [isGr gt (rows0 C R (vals xs) i).length, isI (C : Int), isI 0]) :: (some b1, cellM [isI (R : Int), isI (C : Int), SlK 2 zc xs]) :: [])) (fun (z : { k : Nat // k ≤ C }) => match z with | ⟨k, hk⟩ => C - k) (⟨0, Nat.zero_le _⟩) (Cv.mem (.cons (t := 24) (Has.t' rfl ?_) (.cons (t := 1) (Has.t rfl) (.cons (t := 2) (Has.t rfl) (.cons (t := 3) (Has.t rfl) (.cons (t := 12) (Has.t rfl) (.cons (t := 13) (Has.t rfl) (.cons (t := 14) (Has.t rfl) (.cons (t := 15) (Has.t rfl) (.cons (t := 4) (Has.t rfl) (.cons (t := 16) (Has.t rfl) (.cons (t := 17) (Has.t rfl) (.cons (t := 18) (Has.t rfl) (.cons (t := 19) (Has.t rfl) (.cons (t := 20) (Has.t rfl) (.cons (t := 21) (Has.t rfl) (.cons (t := 5) (Has.t rfl) (.cons (t := 22) (Has.t rfl) (.cons (t := 23) (Has.t rfl) .nil)))))))))))))))))) ?_) ?_
    · rfl
    · exact memZ_eq (by rw [fill_zero, List.length_map, row0_len])
    rintro ⟨k, hk⟩ K13 hK13
    refine Tri.cv (Cv.wk (.cons (t := 24) (Has.t rfl) (.cons (t := 1) (Has.t rfl) (.cons (t := 2) (Has.t rfl) (.cons (t := 3) (Has.t rfl) (.cons (t := 12) (Has.t rfl) (.cons (t := 13) (Has.t rfl) (.cons (t := 14) (Has.t rfl) (.cons (t := 15) (Has.t rfl) (.cons (t := 4) (Has.t rfl) (.cons (t := 16) (Has.t rfl) (.cons (t := 17) (Has.t rfl) (.cons (t := 18) (Has.t rfl) (.cons (t := 19) (Has.t rfl) (.cons (t := 20) (Has.t rfl) (.cons (t := 21) (Has.t rfl) (.cons (t := 5) (Has.t rfl) (.cons (t := 22) (Has.t rfl) (.cons (t := 23) (Has.t rfl) .nil))))))))))))))))))) ?_
    refine Tri.memEq (M' := ((some b3, cellM ((fill ((row0 C R (vals xs) i).map nz) k (false, [])).flatMap zc)) :: grM isP gt (rows0 C R (vals xs) i) :: (some b2, cellM [isGr gt (rows0 C R (vals xs) i).length, isI (C : Int), isI 0]) :: (some b1, cellM [isI (R : Int), isI (C : Int), SlK 2 zc xs]) :: [])) rfl ?_
    have hf := fill_len ((row0 C R (vals xs) i).map nz) k (false, []) (by rw [List.length_map, row0_len]; omega)
    rw [List.length_map, row0_len] at hf
    refine Tri.seq fun K14 hK14 => ?_
    refine Tri.region ?_
    refine st (OK1.ltI (Has.t rfl) (Has.t rfl)) rfl ?_
    refine nl ?_
    refine At.thn (hK14 _ _ ?_); clear hK14
    refine Tri.seq fun K15 hK15 => ?_
    refine Tri.cond (Has.t rfl) (fun hc2 => ?_) (fun hc2 => ?_)
    · have hc2 := BP.t hc2
      refine Tri.skip ?_
      refine At.thn (hK15 _ _ ?_); clear hK15
      refine Tri.seq fun K16 hK16 => ?_
      refine Tri.block ?_
      refine Tri.seq fun K17 hK17 => ?_
      refine Tri.region ?_
      refine st (OK1.mv (Has.t rfl)) rfl ?_
      refine st (OK1.as (Has.t rfl)) rfl ?_
      refine nl ?_
      refine At.thn (hK17 _ _ ?_); clear hK17
      refine Tri.region ?_
      refine st (OK1.mv (Has.t rfl)) rfl ?_
      refine st (OK1.mv (Has.t rfl)) rfl ?_
      refine st (OK1.load (Has.t rfl) (i := 3) rfl ty63 rfl (Ss' := [_, _, _]) rfl) rfl ?_
      refine st (OK1.mv (Has.t rfl)) rfl ?_
      refine st (OK1.mv (Has.t rfl)) rfl ?_
      refine st (OK1.call (zmat_At hx hK hR hC hl (i := i) (k := k) (by omega) (by omega)) (.cons (Has.t rfl) (.cons (Has.t rfl) (.cons (Has.t rfl) .nil)))) rfl ?_
      refine st (OK1.eq (OK1.ixWin sl61 ty72 (Has.t rfl) (Has.t rfl) ⟨by omega, by omega⟩) (isPtr_eq (by first | exact ixo0 | exact ixo2 | exact ixo1))) rfl ?_
      refine Ops.storeK (z := nz (cf (vals xs) (i * C + k))) zc_len (Has.t rfl) (Has.t rfl) (i := 0) rfl ty72 (by simp only [Int.toNat_natCast]; omega) (M' := [(_, _), _, _, _]) rfl ?_
      refine nl ?_
      refine At.bln ?_
      refine At.thn (hK16 _ _ ?_); clear hK16
      refine Tri.region ?_
      refine st (OK1.addI (Has.t rfl) (Has.cI 1 rfl) (by first | omega | assumption) (by first | omega | assumption)) rfl ?_
      refine st (OK1.mv (Has.t rfl)) rfl ?_
      refine nl ?_
      refine At.thn ?_
      refine hK13 (⟨k + 1, by omega⟩) _ _ ?_ (Cv.mem (.cons (t := 24) (Has.t' rfl ?_) (.cons (t := 1) (Has.t rfl) (.cons (t := 2) (Has.t rfl) (.cons (t := 3) (Has.t rfl) (.cons (t := 12) (Has.t rfl) (.cons (t := 13) (Has.t rfl) (.cons (t := 14) (Has.t rfl) (.cons (t := 15) (Has.t rfl) (.cons (t := 4) (Has.t rfl) (.cons (t := 16) (Has.t rfl) (.cons (t := 17) (Has.t rfl) (.cons (t := 18) (Has.t rfl) (.cons (t := 19) (Has.t rfl) (.cons (t := 20) (Has.t rfl) (.cons (t := 21) (Has.t rfl) (.cons (t := 5) (Has.t rfl) (.cons (t := 22) (Has.t rfl) (.cons (t := 23) (Has.t rfl) .nil)))))))))))))))))) ?_)
      · show C - (k + 1) < C - k; omega
      · exact isI_eq (by omega)
      · exact memF_eq (row0_at (by omega))
    · have hc2 := BP.f hc2
      refine Tri.exit ?_
      refine At.the ?_
      refine At.the ?_
      refine At.blh ?_
      refine At.thn (hK11 _ _ ?_); clear hK11
      refine Tri.seq fun K18 hK18 => ?_
      refine Tri.dr ?_
      refine DrG.st (i := 0) [] rfl rfl rfl (by kernel_rfl) (OKG.o rfl (OK1.mv (Has.t rfl))) ?_
      refine DrG.st (i := 1) [] rfl rfl rfl (by kernel_rfl) (OKG.o rfl (OK1.fieldAddr (Has.t rfl) fld63_1 ty3)) ?_
      refine DrG.st (i := 2) [36] rfl rfl rfl (by kernel_rfl) (OKG.o rfl (OK1.load1 (Has.t rfl) (i := 3) rfl ty3 rfl)) ?_
      refine DrG.st (i := 3) [] rfl rfl rfl (by kernel_rfl) (OKG.o rfl (OK1.mv (Has.t rfl))) ?_
      refine DrG.st (i := 4) [37, 38] rfl rfl rfl (by kernel_rfl) (OKG.o rfl (OK1.eq (OK1.addI (Has.t rfl) (Has.t rfl) (by first | omega | assumption) (by first | omega | assumption)) ((show isI _ = isI ((C + i : Nat) : Int) from isI_eq (by omega))))) ?_
      refine DrG.st (i := 5) [] rfl rfl rfl (by kernel_rfl) (OKG.o rfl (OK1.eq (OK1.call (zint_Of) (.cons (Has.cI 1 rfl) .nil)) ((show isZ 1 = Flat (zc (nz 1)) from rfl)))) ?_
      refine DrG.fin (n := 6) mixed (by kernel_rfl) (by kernel_rfl) (by kernel_rfl) ?_
      refine Ops.cv (Cv.wk (.cons (t := 1) (Has.t rfl) (.cons (t := 2) (Has.t rfl) (.cons (t := 3) (Has.t rfl) (.cons (t := 12) (Has.t rfl) (.cons (t := 13) (Has.t rfl) (.cons (t := 14) (Has.t rfl) (.cons (t := 15) (Has.t rfl) (.cons (t := 4) (Has.t rfl) (.cons (t := 16) (Has.t rfl) (.cons (t := 17) (Has.t rfl) (.cons (t := 18) (Has.t rfl) (.cons (t := 19) (Has.t rfl) (.cons (t := 20) (Has.t rfl) (.cons (t := 21) (Has.t rfl) (.cons (t := 5) (Has.t rfl) (.cons (t := 22) (Has.t rfl) (.cons (t := 23) (Has.t rfl) (.cons (t := 24) (Has.t rfl) (.cons (t := 25) (Has.t rfl) (.cons (t := 35) (Has.t rfl) (.cons (t := 36) (Has.t rfl) (.cons (t := 37) (Has.t rfl) (.cons (t := 38) (Has.t rfl) (.cons (t := 39) (Has.t rfl) (.cons (t := 40) (Has.t rfl) .nil)))))))))))))))))))))))))) ?_
      refine st (OK1.eq (OK1.ixWin sl61 ty72 (Has.t rfl) (Has.t rfl) ⟨by omega, by omega⟩) (isPtr_eq (by first | exact ixo0 | exact ixo2 | exact ixo1))) rfl ?_
      refine Ops.storeK (z := nz 1) zc_len (Has.t rfl) (Has.t rfl) (i := 0) rfl ty72 (by simp only [Int.toNat_natCast]; omega) (M' := [(_, _), _, _, _]) rfl ?_
      refine nl ?_
      refine At.thn (hK18 _ _ ?_); clear hK18
      refine Tri.cv (Cv.freezeK (t := 5) (i := 0) (ys := (row0 C R (vals xs) i).map nz) zc_len rfl rfl rfl (by rw [List.length_set]; omega) (row0_fill (by omega) (by omega) rfl)) ?_
      refine Tri.memEq (M' := [_, _, _]) rfl ?_
      refine Tri.cv (Cv.wk (.cons (t := 1) (Has.t rfl) (.cons (t := 2) (Has.t rfl) (.cons (t := 3) (Has.t rfl) (.cons (t := 12) (Has.t rfl) (.cons (t := 13) (Has.t rfl) (.cons (t := 14) (Has.t rfl) (.cons (t := 15) (Has.t rfl) (.cons (t := 4) (Has.t rfl) (.cons (t := 16) (Has.t rfl) (.cons (t := 17) (Has.t rfl) (.cons (t := 18) (Has.t rfl) (.cons (t := 19) (Has.t rfl) (.cons (t := 20) (Has.t rfl) (.cons (t := 5) (Has.t rfl) (.cons (t := 22) (Has.t rfl) (.cons (t := 23) (Has.t rfl) (.cons (t := 24) (Has.t rfl) (.cons (t := 25) (Has.t rfl) (.cons (t := 36) (Has.t rfl) (.cons (t := 37) (Has.t rfl) (.cons (t := 38) (Has.t rfl) (.cons (t := 39) (Has.t rfl) (.cons (t := 40) (Has.t rfl) .nil)))))))))))))))))))))))) ?_
      refine Tri.region ?_
      refine st (OK1.mv (Has.t rfl)) rfl ?_
      refine st (OK1.mv (Has.t rfl)) rfl ?_
      refine st (OK1.nilc (Has.t rfl)) rfl ?_
      refine st (OK1.fieldAddr (Has.t rfl) fld133_0 ty131) rfl ?_
      refine st (OK1.load1 (Has.t rfl) (i := 1) rfl ty131 rfl) rfl ?_
      refine st (OK1.mv (Has.t rfl)) rfl ?_
      refine st (OK1.buildS [nilS] sl131 ty61 zero61 (fun _ _ => ⟨rfl, trivial⟩) rfl rfl (.cons (Has.t rfl) rfl rfl rfl .nil) rfl (S := SlM isP [row0 C R (vals xs) i]) rfl) rfl ?_
      refine Ops.appendG (f := isP) (u := ([] : List Int)) sl131 ty61 zero61 (fun _ _ => ⟨nilK, trivial⟩) (fun _ => inferInstance) by61 (Has.t rfl) (i := 0) rfl (Has.t rfl) (by rw [hrl]; show i + 1 ≤ _; omega) (by simp) rfl fun gr1 => ?_
      refine Ops.memEq (M' := [grM _ _ _, _, _]) rfl ?_
      refine st (OK1.nilc (Has.t rfl)) rfl ?_
      refine st (OK1.fieldAddr (Has.t rfl) fld133_0 ty131) rfl ?_
      refine Ops.store (Has.t rfl) (Has.t rfl) (i := 1) rfl ty131 rfl rfl (Ss' := [_, _, _]) rfl (M' := [_, (some _, cellM [_, _, _]), _]) rfl ?_
      refine nl ?_
      refine At.bln ?_
      refine At.thn (hK8 _ _ ?_); clear hK8
      refine Tri.region ?_
      refine st (OK1.addI (Has.t rfl) (Has.cI 1 rfl) (by first | omega | assumption) (by first | omega | assumption)) rfl ?_
      refine st (OK1.mv (Has.t rfl)) rfl ?_
      refine nl ?_
      refine At.thn ?_
      refine hK5 (⟨(i + 1, gr1), by show i + 1 ≤ R; omega⟩) _ _ ?_ (Cv.mem (.cons (t := 13) (Has.t' rfl ?_) (.cons (t := 1) (Has.t rfl) (.cons (t := 2) (Has.t rfl) (.cons (t := 3) (Has.t rfl) (.cons (t := 12) (Has.t rfl) .nil))))) ?_)
      · show R - (i + 1) < R - i; omega
      · exact isI_eq (by omega)
      · show _ = ([grM isP gr1 (rows0 C R (vals xs) (i + 1)), (some b2, cellM [isGr gr1 (rows0 C R (vals xs) (i + 1)).length, isI (C : Int), isI 0]), _] : Mem); rw [← rows0_succ, List.length_append]
  · have hc1 := BP.f hc1
    refine Tri.exit ?_
    refine At.the ?_
    refine At.the ?_
    refine At.blh ?_
    refine At.thn (hK3 _ _ ?_); clear hK3
    refine Tri.seq fun K19 hK19 => ?_
    refine Tri.cv (Cv.drop ((.cons_cons _ (.cons_cons _ (.cons _ .slnil))))) ?_
    refine Tri.cv (Cv.wk (.cons (t := 2) (Has.t rfl) (.cons (t := 3) (Has.t rfl) (.cons (t := 12) (Has.t rfl) (.cons (t := 13) (Has.t rfl) (.cons (t := 14) (Has.t rfl) .nil)))))) ?_
    refine Tri.cv (Cv.perm (List.Perm.swap _ _ _)) ?_
    refine Tri.region ?_
    refine st (OK1.mv (Has.t rfl)) rfl ?_
    refine st (OK1.as (Has.t rfl)) rfl ?_
    refine nl ?_
    refine At.thn (hK19 _ _ ?_); clear hK19
    refine Tri.cv (Cv.wk (.cons (t := 2) (Has.t rfl) .nil)) ?_
    refine Tri.ret ?_
    refine rtX1 (.inl rfl) Try.results114 rfl (.tmp (Has.t rfl) .nil) ?_
    exact ⟨b2, gt, rfl, by obtain rfl : i = R := (by omega); rfl⟩
end Go.Proofs.Ytiieaohnpnojmaa
/- Contracts: two rows are joined. -/
namespace Go.Proofs.Ytiieaohnpnojmaa
open Go.En Go.RowKit
set_option linter.unusedVariables false
set_option maxRecDepth 10000
open Go.Nt
open Go.Pz
open Go.Mz
open Go.Hn
set_option maxHeartbeats 4000000 in
theorem hnf_join {bw C : Nat} {gt : Gr (List Int)} {rs : List (List Int)} {t i col W P K : Nat} (hrow : ∀ r ∈ rs, r.length = W) (hti : t < i) (hi : i < rs.length) (hc : col < W) (hW : W ≤ 128) (hR : rs.length ≤ 64) (hpB : ∀ r ∈ rs, Bd r P) (hqB : Bd (rs.getD i []) K) (hPK : P + K ≤ 90000000) : CtrX Try.prog 164 [isPtr bw 0, isI (i : Int), isI (col : Int)] (hwM bw gt rs C t) (fun S M => S = isTup [] ∧ M = hwM bw gt (jn rs t i col) C t) := by
  refine CtrX.intro Try.func164 rfl (by kernel_rfl) Try.ntmps164 rfl fun w0 F0 => ?_
  refine Tri.cv (Cv.wk (.cons (t := 0) (Has.t rfl) (.cons (t := 1) (Has.t rfl) (.cons (t := 2) (Has.t rfl) .nil)))) ?_
  refine Tri.fact (Has.rngI (Has.t (t := 1) rfl)) fun lt1 => ?_
  refine Tri.fact (Has.rngI (Has.t (t := 2) rfl)) fun lt2 => ?_
  obtain ⟨p, hp⟩ : ∃ p, rs[t]? = some p := ⟨_, List.getElem?_eq_getElem (by omega)⟩
  obtain ⟨q, hq⟩ : ∃ q, rs[i]? = some q := ⟨_, List.getElem?_eq_getElem hi⟩
  have hpl := hrow p (List.mem_of_getElem? hp)
  have hql := hrow q (List.mem_of_getElem? hq)
  rw [getD_of hq] at hqB
  have hpP := hpB p (List.mem_of_getElem? hp)
  have hpc := hpP col
  have hqc := hqB col
  have hxn := xgx_nw (cf p col) (cf q col) hqc
  have hyn := xgy_nw (cf p col) (cf q col) hpc
  have hgn : (List.length (words (xgg (cf p col) (cf q col)).natAbs)) ≤ P + K := by
    unfold xgg
    rw [Int.natAbs_natCast]
    refine Nat.le_trans (nw_mono (gcd_le_max _ _)) ?_
    have := nw_max (cf p col).natAbs (cf q col).natAbs
    omega
  have hun := nz_tdiv (cf p col) (xgg (cf p col) (cf q col))
  have hvn := nz_tdiv (cf q col) (xgg (cf p col) (cf q col))
  refine Tri.seq fun K1 hK1 => ?_
  refine Tri.dr ?_
  refine DrG.st (i := 0) [] rfl rfl rfl (by kernel_rfl) (OKG.o rfl (OK1.mv (Has.t rfl))) ?_
  refine DrG.st (i := 1) [15] rfl rfl rfl (by kernel_rfl) (OKG.o rfl (OK1.nilc (Has.t rfl))) ?_
  refine DrG.st (i := 2) [16] rfl rfl rfl (by kernel_rfl) (OKG.o rfl (OK1.fieldAddr (Has.t rfl) fld133_0 ty131)) ?_
  refine DrG.st (i := 3) [17] rfl rfl rfl (by kernel_rfl) (OKG.o rfl (OK1.load1 (Has.t rfl) (i := 0) rfl ty131 rfl)) ?_
  refine DrG.st (i := 4) [] rfl rfl rfl (by kernel_rfl) (OKG.o rfl (OK1.mv (Has.t rfl))) ?_
  refine DrG.st (i := 5) [19] rfl rfl rfl (by kernel_rfl) (OKG.o rfl (OK1.nilc (Has.t rfl))) ?_
  refine DrG.st (i := 6) [20] rfl rfl rfl (by kernel_rfl) (OKG.o rfl (OK1.fieldAddr (Has.t rfl) fld133_2 ty3)) ?_
  refine DrG.st (i := 7) [21] rfl rfl rfl (by kernel_rfl) (OKG.o rfl (OK1.load1 (Has.t rfl) (i := 0) rfl ty3 rfl)) ?_
  refine DrG.st (i := 8) [18, 22] rfl rfl rfl (by kernel_rfl) (OKG.o rfl (OK1.ixGr sl131 ty61 (Has.t rfl) (Has.t rfl) ⟨by omega, by omega⟩)) ?_
  refine DrG.st (i := 9) [23] rfl rfl rfl (by kernel_rfl) (OKG.o rfl (OK1.loadGM (Has.t rfl) (i := 1) rfl ty61 hp)) ?_
  refine DrG.st (i := 10) [] rfl rfl rfl (by kernel_rfl) (OKG.o rfl (OK1.mv (Has.t rfl))) ?_
  refine DrG.st (i := 11) [25] rfl rfl rfl (by kernel_rfl) (OKG.o rfl (OK1.nilc (Has.t rfl))) ?_
  refine DrG.st (i := 12) [26] rfl rfl rfl (by kernel_rfl) (OKG.o rfl (OK1.fieldAddr (Has.t rfl) fld133_0 ty131)) ?_
  refine DrG.st (i := 13) [27] rfl rfl rfl (by kernel_rfl) (OKG.o rfl (OK1.load1 (Has.t rfl) (i := 0) rfl ty131 rfl)) ?_
  refine DrG.st (i := 14) [] rfl rfl rfl (by kernel_rfl) (OKG.o rfl (OK1.mv (Has.t rfl))) ?_
  refine DrG.st (i := 15) [28, 29] rfl rfl rfl (by kernel_rfl) (OKG.o rfl (OK1.ixGr sl131 ty61 (Has.t rfl) (Has.t rfl) ⟨by omega, by omega⟩)) ?_
  refine DrG.st (i := 16) [30] rfl rfl rfl (by kernel_rfl) (OKG.o rfl (OK1.loadGM (Has.t rfl) (i := 1) rfl ty61 hq)) ?_
  refine DrG.st (i := 17) [24] rfl rfl rfl (by kernel_rfl) (OKG.o rfl (OK1.as (Has.t rfl))) ?_
  refine DrG.fin (n := 18) mixed (by kernel_rfl) (by kernel_rfl) (by kernel_rfl) ?_
  refine Ops.cv (Cv.wk (.cons (t := 0) (Has.t rfl) (.cons (t := 1) (Has.t rfl) (.cons (t := 2) (Has.t rfl) (.cons (t := 31) (Has.t rfl) (.cons (t := 6) (Has.t rfl) .nil)))))) ?_
  refine st (OK1.as (Has.t rfl)) rfl ?_
  refine nl ?_
  refine At.thn (hK1 _ _ ?_); clear hK1
  refine Tri.seq fun K2 hK2 => ?_
  refine Tri.drh [true, true] (Ms := [_, _]) rfl ?_
  refine DrH.st (i := 0) [] rfl rfl rfl (by kernel_rfl) (OKG.o rfl (OK1.mv (Has.t rfl))) ?_
  refine DrH.st (i := 1) [] rfl rfl rfl (by kernel_rfl) (OKG.o rfl (OK1.mv (Has.t rfl))) ?_
  refine DrH.st (i := 2) [33, 34] rfl rfl rfl (by kernel_rfl) (OKG.o rfl (OK1.ixK sl61 ty72 (Has.t rfl) (Has.t rfl) zc_len ⟨by omega, by rw [List.length_map]; omega⟩ (getZ (i := col) (by omega)))) ?_
  refine DrH.st (i := 3) [35] rfl rfl rfl (by kernel_rfl) (OKG.o rfl (OK1.loadP (Has.t rfl) ty72 rfl (Ss' := [_, _]) rfl)) ?_
  refine DrH.st (i := 4) [] rfl rfl rfl (by kernel_rfl) (OKG.o rfl (OK1.mv (Has.t rfl))) ?_
  refine DrH.st (i := 5) [] rfl rfl rfl (by kernel_rfl) (OKG.o rfl (OK1.mv (Has.t rfl))) ?_
  refine DrH.st (i := 6) [37, 38] rfl rfl rfl (by kernel_rfl) (OKG.o rfl (OK1.ixK sl61 ty72 (Has.t rfl) (Has.t rfl) zc_len ⟨by omega, by rw [List.length_map]; omega⟩ (getZ (i := col) (by omega)))) ?_
  refine DrH.st (i := 7) [39] rfl rfl rfl (by kernel_rfl) (OKG.o rfl (OK1.loadP (Has.t rfl) ty72 rfl (Ss' := [_, _]) rfl)) ?_
  refine DrH.st (i := 8) [36, 40] rfl rfl rfl (by kernel_rfl) (OKG.o rfl (OK1.eq (OK1.call (zint_XgcdA (by rw [val_words]; omega) (by rw [val_words]; omega)) (.cons (Has.t rfl) (.cons (Has.t rfl) .nil))) ((show _ = isTup [isZ (xgg (cf p col) (cf q col)), isZ (xgx (cf p col) (cf q col)), isZ (xgy (cf p col) (cf q col))] from by simp only [zv_nz, zv_nf])))) ?_
  refine DrH.st (i := 9) [41] rfl rfl rfl (by kernel_rfl) (OKG.o rfl (OK1.mv (Has.t rfl))) ?_
  refine DrH.st (i := 10) [32] rfl rfl rfl (by kernel_rfl) (OKG.o rfl (OK1.ext (Has.t rfl) rfl)) ?_
  refine DrH.st (i := 11) [32] rfl rfl rfl (by kernel_rfl) (OKG.o rfl (OK1.ext (Has.t rfl) rfl)) ?_
  refine DrH.st (i := 12) [32] rfl rfl rfl (by kernel_rfl) (OKG.o rfl (OK1.ext (Has.t rfl) rfl)) ?_
  refine DrH.als (n1 := 16) (ds := [8, 9, 10]) (zs := [[isB false, SlM isU []], [isB false, SlM isU []], [isB false, SlM isU []]]) rfl (.cons rfl rfl zero72 (fun _ _ => ⟨rfl, nilM _ _, trivial⟩) (.cons rfl rfl zero72 (fun _ _ => ⟨rfl, nilM _ _, trivial⟩) (.cons rfl rfl zero72 (fun _ _ => ⟨rfl, nilM _ _, trivial⟩) .nil))) (.cons_cons _ (.cons_cons _ .slnil)) (Cs := [_, _, _]) rfl ?_
  refine DrN.new [42] 0 (Ss' := [_, _]) (Cs' := [cellM [_, _], _, _]) rfl (by kernel_rfl) (by kernel_rfl) rfl rfl rfl (by kernel_rfl) rfl (Has.t rfl) ty72 rfl rfl rfl rfl ?_
  refine DrN.new [43] 1 (Ss' := [_, _]) (Cs' := [_, cellM [_, _], _]) rfl (by kernel_rfl) (by kernel_rfl) rfl rfl rfl (by kernel_rfl) rfl (Has.t rfl) ty72 rfl rfl rfl rfl ?_
  refine DrN.fin (n := 18) mixed rfl (by kernel_rfl) (by kernel_rfl) (by kernel_rfl) (fun bs hbs => ?_)
  obtain ⟨b1, b2, b3, rfl⟩ := len3 hbs
  refine Ops.memEq (M' := [_, _, _, _, _]) rfl ?_
  refine Ops.cv (Cv.wk (.cons (t := 0) (Has.t rfl) (.cons (t := 1) (Has.t rfl) (.cons (t := 2) (Has.t rfl) (.cons (t := 6) (Has.t rfl) (.cons (t := 7) (Has.t rfl) (.cons (t := 44) (Has.t rfl) (.cons (t := 8) (Has.op rfl) (.cons (t := 9) (Has.op rfl) (.cons (t := 10) (Has.op rfl) .nil)))))))))) ?_
  refine Ops.store (Has.t rfl) (Has.t rfl) (i := 2) rfl ty72 rfl rfl (Ss' := [_, _]) rfl (M' := [_, _, (some _, cellM [_, _]), _, _]) rfl ?_
  refine nl ?_
  refine At.thn (hK2 _ _ ?_); clear hK2
  refine Tri.seq fun K3 hK3 => ?_
  refine Tri.seq fun K4 hK4 => ?_
  refine Tri.region ?_
  refine st (OK1.load (Has.t rfl) (i := 0) rfl ty72 rfl (Ss' := [_, _]) rfl) rfl ?_
  refine st (OK1.eq (OK1.call (zint_Sign (by rw [val_words]; omega)) (.cons (Has.t rfl) .nil)) ((show _ = isI (sgn (xgg (cf p col) (cf q col))) from by rw [zv_nf]))) rfl ?_
  refine st (OK1.eqI (Has.t rfl) (Has.cI 0 rfl)) rfl ?_
  refine nl ?_
  refine At.thn (hK4 _ _ ?_); clear hK4
  refine Tri.cond (Has.t rfl) (fun hc1 => ?_) (fun hc1 => ?_)
  · have hc1 := BP.t hc1
    have hg0 := (sgn_eq0 _).1 hc1
    refine Tri.ret ?_
    refine At.thr ?_
    refine rtX0D (.cons _ (.cons _ (.cons _ (.cons_cons _ (.cons_cons _ .slnil))))) (.inl rfl) Try.results164 rfl ?_
    exact ⟨rfl, hwM_eq (jn_no hp hq hg0).symm (by rw [jn_len])⟩
  · have hc1 := BP.f hc1
    have hg0 : ¬ (xgg (cf p col) (cf q col)) = 0 := fun e => hc1 ((sgn_eq0 _).2 e)
    refine Tri.skip ?_
    refine At.thn (hK3 _ _ ?_); clear hK3
    refine Tri.seq fun K5 hK5 => ?_
    refine Tri.drh [true, true, true, true, true] (Ms := [_, _, _, _, _]) rfl ?_
    refine DrH.st (i := 0) [] rfl rfl rfl (by kernel_rfl) (OKG.o rfl (OK1.mv (Has.t rfl))) ?_
    refine DrH.st (i := 1) [] rfl rfl rfl (by kernel_rfl) (OKG.o rfl (OK1.mv (Has.t rfl))) ?_
    refine DrH.st (i := 2) [49, 50] rfl rfl rfl (by kernel_rfl) (OKG.o rfl (OK1.ixK sl61 ty72 (Has.t rfl) (Has.t rfl) zc_len ⟨by omega, by rw [List.length_map]; omega⟩ (getZ (i := col) (by omega)))) ?_
    refine DrH.st (i := 3) [51] rfl rfl rfl (by kernel_rfl) (OKG.o rfl (OK1.loadP (Has.t rfl) ty72 rfl (Ss' := [_, _]) rfl)) ?_
    refine DrH.st (i := 4) [] rfl rfl rfl (by kernel_rfl) (OKG.o rfl (OK1.load (Has.t rfl) (i := 0) rfl ty72 rfl (Ss' := [_, _]) rfl)) ?_
    refine DrH.st (i := 5) [52, 53] rfl rfl rfl (by kernel_rfl) (OKG.o rfl (OK1.call (zint_Exact (by rw [val_words]; omega) (by rw [val_words]; omega)) (.cons (Has.t rfl) (.cons (Has.t rfl) .nil)))) ?_
    refine DrH.st (i := 6) [54] rfl rfl rfl (by kernel_rfl) (OKG.o rfl (OK1.mv (Has.t rfl))) ?_
    refine DrH.st (i := 7) [48] rfl rfl rfl (by kernel_rfl) (OKG.o rfl (OK1.eq (OK1.ext (Has.t rfl) rfl) ((show _ = isZ ((cf p col).tdiv (xgg (cf p col) (cf q col))) from isZ_eq (by simp only [zv_nz, zv_nf]; exact if_pos ⟨hg0, Int.tmod_eq_zero_of_dvd (xgg_left _ _)⟩))))) ?_
    refine DrH.st (i := 8) [48] rfl rfl rfl (by kernel_rfl) (OKG.o rfl (OK1.ext (Has.t rfl) rfl)) ?_
    refine DrH.als (n1 := 10) (ds := [11]) (zs := [[isB false, SlM isU []]]) rfl (.cons rfl rfl zero72 (fun _ _ => ⟨rfl, nilM _ _, trivial⟩) .nil) (.cons_cons _ (.cons_cons _ (.cons_cons _ (.cons_cons _ (.cons_cons _ .slnil))))) (Cs := [_]) rfl ?_
    refine DrN.new [55] 0 (Ss' := [_, _]) (Cs' := [cellM [_, _]]) rfl (by kernel_rfl) (by kernel_rfl) rfl rfl rfl (by kernel_rfl) rfl (Has.t rfl) ty72 rfl rfl rfl rfl ?_
    refine DrN.fin (n := 11) mixed rfl (by kernel_rfl) (by kernel_rfl) (by kernel_rfl) (fun bs hbs => ?_)
    obtain ⟨b4, rfl⟩ := len1 hbs
    refine Ops.memEq (M' := [_, _, _, _, _, _]) rfl ?_
    refine Ops.cv (Cv.wk (.cons (t := 0) (Has.t rfl) (.cons (t := 1) (Has.t rfl) (.cons (t := 2) (Has.t rfl) (.cons (t := 6) (Has.t rfl) (.cons (t := 7) (Has.t rfl) (.cons (t := 8) (Has.t rfl) (.cons (t := 9) (Has.t rfl) (.cons (t := 10) (Has.t rfl) (.cons (t := 56) (Has.t rfl) (.cons (t := 11) (Has.op rfl) .nil))))))))))) ?_
    refine st (OK1.as (Has.t rfl)) rfl ?_
    refine nl ?_
    refine At.thn (hK5 _ _ ?_); clear hK5
    refine Tri.seq fun K6 hK6 => ?_
    refine Tri.drh [true, true, true, true, true, true] (Ms := [_, _, _, _, _, _]) rfl ?_
    refine DrH.st (i := 0) [] rfl rfl rfl (by kernel_rfl) (OKG.o rfl (OK1.mv (Has.t rfl))) ?_
    refine DrH.st (i := 1) [] rfl rfl rfl (by kernel_rfl) (OKG.o rfl (OK1.mv (Has.t rfl))) ?_
    refine DrH.st (i := 2) [58, 59] rfl rfl rfl (by kernel_rfl) (OKG.o rfl (OK1.ixK sl61 ty72 (Has.t rfl) (Has.t rfl) zc_len ⟨by omega, by rw [List.length_map]; omega⟩ (getZ (i := col) (by omega)))) ?_
    refine DrH.st (i := 3) [60] rfl rfl rfl (by kernel_rfl) (OKG.o rfl (OK1.loadP (Has.t rfl) ty72 rfl (Ss' := [_, _]) rfl)) ?_
    refine DrH.st (i := 4) [] rfl rfl rfl (by kernel_rfl) (OKG.o rfl (OK1.load (Has.t rfl) (i := 1) rfl ty72 rfl (Ss' := [_, _]) rfl)) ?_
    refine DrH.st (i := 5) [61, 62] rfl rfl rfl (by kernel_rfl) (OKG.o rfl (OK1.call (zint_Exact (by rw [val_words]; omega) (by rw [val_words]; omega)) (.cons (Has.t rfl) (.cons (Has.t rfl) .nil)))) ?_
    refine DrH.st (i := 6) [63] rfl rfl rfl (by kernel_rfl) (OKG.o rfl (OK1.mv (Has.t rfl))) ?_
    refine DrH.st (i := 7) [57] rfl rfl rfl (by kernel_rfl) (OKG.o rfl (OK1.eq (OK1.ext (Has.t rfl) rfl) ((show _ = isZ ((cf q col).tdiv (xgg (cf p col) (cf q col))) from isZ_eq (by simp only [zv_nz, zv_nf]; exact if_pos ⟨hg0, Int.tmod_eq_zero_of_dvd (xgg_right _ _)⟩))))) ?_
    refine DrH.st (i := 8) [57] rfl rfl rfl (by kernel_rfl) (OKG.o rfl (OK1.ext (Has.t rfl) rfl)) ?_
    refine DrH.als (n1 := 10) (ds := [13]) (zs := [[isB false, SlM isU []]]) rfl (.cons rfl rfl zero72 (fun _ _ => ⟨rfl, nilM _ _, trivial⟩) .nil) (.cons_cons _ (.cons_cons _ (.cons_cons _ (.cons_cons _ (.cons_cons _ (.cons_cons _ .slnil)))))) (Cs := [_]) rfl ?_
    refine DrN.new [64] 0 (Ss' := [_, _]) (Cs' := [cellM [_, _]]) rfl (by kernel_rfl) (by kernel_rfl) rfl rfl rfl (by kernel_rfl) rfl (Has.t rfl) ty72 rfl rfl rfl rfl ?_
    refine DrN.fin (n := 11) mixed rfl (by kernel_rfl) (by kernel_rfl) (by kernel_rfl) (fun bs hbs => ?_)
    obtain ⟨b5, rfl⟩ := len1 hbs
    refine Ops.memEq (M' := [_, _, _, _, _, _, _]) rfl ?_
    refine Ops.cv (Cv.wk (.cons (t := 0) (Has.t rfl) (.cons (t := 1) (Has.t rfl) (.cons (t := 6) (Has.t rfl) (.cons (t := 7) (Has.t rfl) (.cons (t := 9) (Has.t rfl) (.cons (t := 10) (Has.t rfl) (.cons (t := 11) (Has.t rfl) (.cons (t := 65) (Has.t rfl) (.cons (t := 13) (Has.op rfl) .nil)))))))))) ?_
    refine st (OK1.as (Has.t rfl)) rfl ?_
    refine nl ?_
    refine At.thn (hK6 _ _ ?_); clear hK6
    refine Tri.dry mixed ?_
    refine DrB.take (i := 0) rfl rfl rfl rfl (by kernel_rfl) (by kernel_rfl) (by kernel_rfl) (by kernel_rfl) (fun _ _ _ _ h => h) (OKY.mv (Has.t rfl)) ?_
    refine DrB.take (i := 1) rfl rfl rfl rfl (by kernel_rfl) (by kernel_rfl) (by kernel_rfl) (by kernel_rfl) (fun _ _ _ _ h => h) (OKY.nilc (Has.t rfl)) ?_
    refine DrB.take (i := 2) rfl rfl rfl rfl (by kernel_rfl) (by kernel_rfl) (by kernel_rfl) (by kernel_rfl) (fun _ _ _ _ h => h) (OKY.fieldAddr (Has.t rfl) fld133_0 ty131) ?_
    refine DrB.take (i := 4) rfl rfl rfl rfl (by kernel_rfl) (by kernel_rfl) (by kernel_rfl) (by kernel_rfl) (fun _ _ _ _ h => h) (OKY.mv (Has.t rfl)) ?_
    refine DrB.take (i := 5) rfl rfl rfl rfl (by kernel_rfl) (by kernel_rfl) (by kernel_rfl) (by kernel_rfl) (fun _ _ _ _ h => h) (OKY.nilc (Has.t rfl)) ?_
    refine DrB.take (i := 6) rfl rfl rfl rfl (by kernel_rfl) (by kernel_rfl) (by kernel_rfl) (by kernel_rfl) (fun _ _ _ _ h => h) (OKY.fieldAddr (Has.t rfl) fld133_2 ty3) ?_
    refine DrB.take (i := 8) rfl rfl rfl rfl (by kernel_rfl) (by kernel_rfl) (by kernel_rfl) (by kernel_rfl) (fun _ _ _ _ h => h) (OKY.mv (Has.t rfl)) ?_
    refine DrB.take (i := 9) rfl rfl rfl rfl (by kernel_rfl) (by kernel_rfl) (by kernel_rfl) (by kernel_rfl) (fun _ _ _ _ h => h) (OKY.nilc (Has.t rfl)) ?_
    refine DrB.take (i := 10) rfl rfl rfl rfl (by kernel_rfl) (by kernel_rfl) (by kernel_rfl) (by kernel_rfl) (fun _ _ _ _ h => h) (OKY.fieldAddr (Has.t rfl) fld133_0 ty131) ?_
    refine DrB.take (i := 12) rfl rfl rfl rfl (by kernel_rfl) (by kernel_rfl) (by kernel_rfl) (by kernel_rfl) (fun _ _ _ _ h => h) (OKY.mv (Has.t rfl)) ?_
    refine DrB.take (i := 14) rfl rfl rfl rfl (by kernel_rfl) (by kernel_rfl) (by kernel_rfl) (by kernel_rfl) (fun _ _ _ _ h => h) (OKY.mv (Has.t rfl)) ?_
    refine DrB.take (i := 16) rfl rfl rfl rfl (by kernel_rfl) (by kernel_rfl) (by kernel_rfl) (by kernel_rfl) (fun _ _ _ _ h => h) (OKY.mv (Has.t rfl)) ?_
    refine DrB.take (i := 20) rfl rfl rfl rfl (by kernel_rfl) (by kernel_rfl) (by kernel_rfl) (by kernel_rfl) (fun _ _ _ _ h => h) (OKY.mv (Has.t rfl)) ?_
    refine DrB.take (i := 22) rfl rfl rfl rfl (by kernel_rfl) (by kernel_rfl) (by kernel_rfl) (by kernel_rfl) (fun _ _ _ _ h => h) (OKY.mv (Has.t rfl)) ?_
    refine DrB.go [] ?_
    refine DrC.st (i := 3) [] rfl rfl rfl (by kernel_rfl) (by kernel_rfl) (OKG.o rfl (OK1.load1 (Has.t rfl) (i := 5) rfl ty131 rfl)) ?_
    refine DrC.st (i := 7) [] rfl rfl rfl (by kernel_rfl) (by kernel_rfl) (OKG.o rfl (OK1.load1 (Has.t rfl) (i := 5) rfl ty3 rfl)) ?_
    refine DrC.st (i := 11) [] rfl rfl rfl (by kernel_rfl) (by kernel_rfl) (OKG.o rfl (OK1.load1 (Has.t rfl) (i := 5) rfl ty131 rfl)) ?_
    refine DrC.st (i := 13) [] rfl rfl rfl (by kernel_rfl) (by kernel_rfl) (OKG.o rfl (OK1.load (Has.t rfl) (i := 3) rfl ty72 rfl (Ss' := [_, _]) rfl)) ?_
    refine DrC.st (i := 15) [] rfl rfl rfl (by kernel_rfl) (by kernel_rfl) (OKG.o rfl (OK1.load (Has.t rfl) (i := 4) rfl ty72 rfl (Ss' := [_, _]) rfl)) ?_
    refine DrC.st (i := 17) [79, 81] rfl rfl rfl (by kernel_rfl) (by kernel_rfl) (OKG.o rfl (OK1.eq (OK1.call (hnf_mixed (A := K + 1) (B := P + 2) (K := P) (L := K) (by rw [val_words]; omega) (by rw [vals_nz]; exact hpP) (by rw [val_words]; omega) (by rw [vals_nz]; exact hqB) (by omega) (by omega) (by rw [List.length_map, List.length_map]; omega) (by rw [List.length_map]; omega)) (.cons (Has.t rfl) (.cons (Has.t rfl) (.cons (Has.t rfl) (.cons (Has.t rfl) .nil))))) ((show _ = isP (mx2 (xgx (cf p col) (cf q col)) p (xgy (cf p col) (cf q col)) q) from isPl_eq (by simp only [zv_nf, vals_nz]))))) ?_
    refine DrC.st (i := 18) [] rfl rfl rfl (by kernel_rfl) (by kernel_rfl) (OKG.o rfl (OK1.load (Has.t rfl) (i := 0) rfl ty72 rfl (Ss' := [_, _]) rfl)) ?_
    refine DrC.st (i := 19) [84] rfl rfl rfl (by kernel_rfl) (by kernel_rfl) (OKG.o rfl (OK1.call (zint_Neg (by rw [val_words]; omega)) (.cons (Has.t rfl) .nil))) ?_
    refine DrC.st (i := 21) [] rfl rfl rfl (by kernel_rfl) (by kernel_rfl) (OKG.o rfl (OK1.load (Has.t rfl) (i := 1) rfl ty72 rfl (Ss' := [_, _]) rfl)) ?_
    refine DrC.st (i := 23) [85, 87] rfl rfl rfl (by kernel_rfl) (by kernel_rfl) (OKG.o rfl (OK1.eq (OK1.call (hnf_mixed (A := K) (B := P) (K := P) (L := K) (by rw [val_words, zv_nf, Int.natAbs_neg]; omega) (by rw [vals_nz]; exact hpP) (by rw [val_words]; omega) (by rw [vals_nz]; exact hqB) (by omega) (by omega) (by rw [List.length_map, List.length_map]; omega) (by rw [List.length_map]; omega)) (.cons (Has.t rfl) (.cons (Has.t rfl) (.cons (Has.t rfl) (.cons (Has.t rfl) .nil))))) ((show _ = isP (mx2 (-((cf q col).tdiv (xgg (cf p col) (cf q col)))) p ((cf p col).tdiv (xgg (cf p col) (cf q col))) q) from isPl_eq (by simp only [zv_nf, vals_nz]))))) ?_
    refine DrC.fin [24, 25, 26, 27] (by kernel_rfl) (by kernel_rfl) (fun _ _ _ _ _ h => h) (by kernel_rfl) (by kernel_rfl) (by kernel_rfl) (by kernel_rfl) (by kernel_rfl) (by kernel_rfl) (by kernel_rfl) (by kernel_rfl) (by kernel_rfl) ?_
    refine Ops.cv (Cv.wk (.cons (t := 78) (Has.t rfl) (.cons (t := 69) (Has.t rfl) (.cons (t := 73) (Has.t rfl) (.cons (t := 77) (Has.t rfl) (.cons (t := 83) (Has.t rfl) (.cons (t := 89) (Has.t rfl) .nil))))))) ?_
    refine st (OK1.ixGr sl131 ty61 (Has.t rfl) (Has.t rfl) ⟨by omega, by omega⟩) rfl ?_
    refine Ops.storeGM (z := mx2 (xgx (cf p col) (cf q col)) p (xgy (cf p col) (cf q col)) q) (Has.t rfl) (Has.t rfl) (i := 6) rfl ty61 (by omega) (M' := [_, _, _, _, _, _, grM _ _ _]) rfl ?_
    refine st (OK1.ixGr sl131 ty61 (Has.t rfl) (Has.t rfl) ⟨by omega, by omega⟩) rfl ?_
    refine Ops.storeGM (z := mx2 (-((cf q col).tdiv (xgg (cf p col) (cf q col)))) p ((cf p col).tdiv (xgg (cf p col) (cf q col))) q) (Has.t rfl) (Has.t rfl) (i := 6) rfl ty61 (by rw [List.length_set]; omega) (M' := [_, _, _, _, _, _, grM _ _ _]) rfl ?_
    refine nl ?_
    refine rtX0D (.cons _ (.cons _ (.cons _ (.cons _ (.cons _ (.cons_cons _ (.cons_cons _ .slnil))))))) (.inr rfl) Try.results164 rfl ?_
    exact ⟨rfl, hwM_eq (jn_go hp hq hg0).symm (by rw [jn_len])⟩
end Go.Proofs.Ytiieaohnpnojmaa
/- Contracts: what is above a pivot is reduced. -/
namespace Go.Proofs.Ytiieaohnpnojmaa
open Go.En Go.RowKit
set_option linter.unusedVariables false
set_option maxRecDepth 10000
open Go.Nt
open Go.Pz
open Go.Mz
open Go.Hn
set_option maxHeartbeats 4000000 in
theorem hnf_reduce {bw C : Nat} {gt : Gr (List Int)} {rs : List (List Int)} {t col W P : Nat} (hrow : ∀ r ∈ rs, r.length = W) (ht : t < rs.length) (hc : col < W) (hW : W ≤ 128) (hR : rs.length ≤ 64) (hpB : ∀ r ∈ rs, Bd r P) (hP : P ≤ 90000000) (h0 : 0 < cf (rs.getD t []) col) : CtrX Try.prog 165 [isPtr bw 0, isI (col : Int)] (hwM bw gt rs C t) (fun S M => S = isTup [] ∧ M = hwM bw gt (rds rs t col t) C t) := by
  refine CtrX.intro Try.func165 rfl (by kernel_rfl) Try.ntmps165 rfl fun w0 F0 => ?_
  refine Tri.cv (Cv.wk (.cons (t := 0) (Has.t rfl) (.cons (t := 1) (Has.t rfl) .nil))) ?_
  refine Tri.fact (Has.rngI (Has.t (t := 1) rfl)) fun lt1 => ?_
  obtain ⟨b, hb⟩ : ∃ b, rs[t]? = some b := ⟨_, List.getElem?_eq_getElem ht⟩
  have hbl := hrow b (List.mem_of_getElem? hb)
  rw [getD_of hb] at h0
  have hbP := hpB b (List.mem_of_getElem? hb)
  have hbc := hbP col
  refine Tri.seq fun K1 hK1 => ?_
  refine Tri.dr ?_
  refine DrG.st (i := 0) [] rfl rfl rfl (by kernel_rfl) (OKG.o rfl (OK1.mv (Has.t rfl))) ?_
  refine DrG.st (i := 1) [9] rfl rfl rfl (by kernel_rfl) (OKG.o rfl (OK1.nilc (Has.t rfl))) ?_
  refine DrG.st (i := 2) [10] rfl rfl rfl (by kernel_rfl) (OKG.o rfl (OK1.fieldAddr (Has.t rfl) fld133_0 ty131)) ?_
  refine DrG.st (i := 3) [11] rfl rfl rfl (by kernel_rfl) (OKG.o rfl (OK1.load1 (Has.t rfl) (i := 0) rfl ty131 rfl)) ?_
  refine DrG.st (i := 4) [] rfl rfl rfl (by kernel_rfl) (OKG.o rfl (OK1.mv (Has.t rfl))) ?_
  refine DrG.st (i := 5) [13] rfl rfl rfl (by kernel_rfl) (OKG.o rfl (OK1.nilc (Has.t rfl))) ?_
  refine DrG.st (i := 6) [14] rfl rfl rfl (by kernel_rfl) (OKG.o rfl (OK1.fieldAddr (Has.t rfl) fld133_2 ty3)) ?_
  refine DrG.st (i := 7) [15] rfl rfl rfl (by kernel_rfl) (OKG.o rfl (OK1.load1 (Has.t rfl) (i := 0) rfl ty3 rfl)) ?_
  refine DrG.fin (n := 8) mixed (by kernel_rfl) (by kernel_rfl) (by kernel_rfl) ?_
  refine Ops.cv (Cv.wk (.cons (t := 0) (Has.t rfl) (.cons (t := 1) (Has.t rfl) (.cons (t := 12) (Has.t rfl) (.cons (t := 16) (Has.t rfl) .nil))))) ?_
  refine st (OK1.ixGr sl131 ty61 (Has.t rfl) (Has.t rfl) ⟨by omega, by omega⟩) rfl ?_
  refine st (OK1.loadGM (Has.t rfl) (i := 1) rfl ty61 hb) rfl ?_
  refine st (OK1.as (Has.t rfl)) rfl ?_
  refine nl ?_
  refine At.thn (hK1 _ _ ?_); clear hK1
  refine Tri.seq fun K2 hK2 => ?_
  refine Tri.region ?_
  refine st (OK1.mv (Has.t rfl)) rfl ?_
  refine st (OK1.nilc (Has.t rfl)) rfl ?_
  refine st (OK1.fieldAddr (Has.t rfl) fld133_2 ty3) rfl ?_
  refine st (OK1.load1 (Has.t rfl) (i := 0) rfl ty3 rfl) rfl ?_
  refine st (OK1.mv (Has.cI 0 rfl)) rfl ?_
  refine nl ?_
  refine At.thn (hK2 _ _ ?_); clear hK2
  refine Tri.cv (Cv.wk (.cons (t := 0) (Has.t rfl) (.cons (t := 1) (Has.t rfl) (.cons (t := 4) (Has.t rfl) (.cons (t := 22) (Has.t rfl) (.cons (t := 23) (Has.t rfl) .nil)))))) ?_
  refine Tri.block ?_
  refine Tri.loopF [0, 1, 4, 22] (fun (z : { i : Nat // i ≤ t }) => match z with | ⟨i, hi⟩ => [(23, isI (i : Int))]) (fun M => fun (z : { i : Nat // i ≤ t }) => match z with | ⟨i, hi⟩ => hwM bw gt (rds rs t col i) C t) (fun (z : { i : Nat // i ≤ t }) => match z with | ⟨i, hi⟩ => t - i) (⟨0, Nat.zero_le _⟩) (Cv.mem (.cons (t := 23) (Has.t' rfl ?_) (.cons (t := 0) (Has.t rfl) (.cons (t := 1) (Has.t rfl) (.cons (t := 4) (Has.t rfl) (.cons (t := 22) (Has.t rfl) .nil))))) ?_) ?_
  · rfl
  · rfl
  rintro ⟨i, hi⟩ K3 hK3
  refine Tri.cv (Cv.wk (.cons (t := 23) (Has.t rfl) (.cons (t := 0) (Has.t rfl) (.cons (t := 1) (Has.t rfl) (.cons (t := 4) (Has.t rfl) (.cons (t := 22) (Has.t rfl) .nil)))))) ?_
  refine Tri.memEq (M' := hwM bw gt (rds rs t col i) C t) rfl ?_
  have hlen := rds_len rs t col i
  have hb2 : (rds rs t col i)[t]? = some b := (rds_off hi).trans hb
  refine Tri.seq fun K4 hK4 => ?_
  refine Tri.region ?_
  refine st (OK1.ltI (Has.t rfl) (Has.t rfl)) rfl ?_
  refine nl ?_
  refine At.thn (hK4 _ _ ?_); clear hK4
  refine Tri.seq fun K5 hK5 => ?_
  refine Tri.cond (Has.t rfl) (fun hc1 => ?_) (fun hc1 => ?_)
  · have hc1 := BP.t hc1
    obtain ⟨r, hr⟩ : ∃ r, rs[i]? = some r := ⟨_, List.getElem?_eq_getElem (by omega)⟩
    have hr2 : (rds rs t col i)[i]? = some r := (rds_off (Nat.le_refl _)).trans hr
    have hrl := hrow r (List.mem_of_getElem? hr)
    have hrP := hpB r (List.mem_of_getElem? hr)
    have hrc := hrP col
    have hdn := div_nw h0 hrc
    have h1 := nz_one
    refine Tri.skip ?_
    refine At.thn (hK5 _ _ ?_); clear hK5
    refine Tri.seq fun K6 hK6 => ?_
    refine Tri.block ?_
    refine Tri.seq fun K7 hK7 => ?_
    refine Tri.region ?_
    refine st (OK1.mv (Has.t rfl)) rfl ?_
    refine st (OK1.as (Has.t rfl)) rfl ?_
    refine nl ?_
    refine At.thn (hK7 _ _ ?_); clear hK7
    refine Tri.seq fun K8 hK8 => ?_
    refine Tri.drh [true, true] (Ms := [_, _]) rfl ?_
    refine DrH.st (i := 0) [] rfl rfl rfl (by kernel_rfl) (OKG.o rfl (OK1.mv (Has.t rfl))) ?_
    refine DrH.st (i := 1) [27] rfl rfl rfl (by kernel_rfl) (OKG.o rfl (OK1.nilc (Has.t rfl))) ?_
    refine DrH.st (i := 2) [28] rfl rfl rfl (by kernel_rfl) (OKG.o rfl (OK1.fieldAddr (Has.t rfl) fld133_0 ty131)) ?_
    refine DrH.st (i := 3) [29] rfl rfl rfl (by kernel_rfl) (OKG.o rfl (OK1.load1 (Has.t rfl) (i := 0) rfl ty131 rfl)) ?_
    refine DrH.st (i := 4) [] rfl rfl rfl (by kernel_rfl) (OKG.o rfl (OK1.mv (Has.t rfl))) ?_
    refine DrH.st (i := 5) [30, 31] rfl rfl rfl (by kernel_rfl) (OKG.o rfl (OK1.ixGr sl131 ty61 (Has.t rfl) (Has.t rfl) ⟨by omega, by omega⟩)) ?_
    refine DrH.st (i := 6) [32] rfl rfl rfl (by kernel_rfl) (OKG.o rfl (OK1.loadGM (Has.t rfl) (i := 1) rfl ty61 hr2)) ?_
    refine DrH.st (i := 7) [] rfl rfl rfl (by kernel_rfl) (OKG.o rfl (OK1.mv (Has.t rfl))) ?_
    refine DrH.st (i := 8) [33, 34] rfl rfl rfl (by kernel_rfl) (OKG.o rfl (OK1.ixK sl61 ty72 (Has.t rfl) (Has.t rfl) zc_len ⟨by omega, by rw [List.length_map]; omega⟩ (getZ (i := col) (by omega)))) ?_
    refine DrH.st (i := 9) [35] rfl rfl rfl (by kernel_rfl) (OKG.o rfl (OK1.loadP (Has.t rfl) ty72 rfl (Ss' := [_, _]) rfl)) ?_
    refine DrH.st (i := 10) [] rfl rfl rfl (by kernel_rfl) (OKG.o rfl (OK1.mv (Has.t rfl))) ?_
    refine DrH.st (i := 11) [] rfl rfl rfl (by kernel_rfl) (OKG.o rfl (OK1.mv (Has.t rfl))) ?_
    refine DrH.st (i := 12) [37, 38] rfl rfl rfl (by kernel_rfl) (OKG.o rfl (OK1.ixK sl61 ty72 (Has.t rfl) (Has.t rfl) zc_len ⟨by omega, by rw [List.length_map]; omega⟩ (getZ (i := col) (by omega)))) ?_
    refine DrH.st (i := 13) [39] rfl rfl rfl (by kernel_rfl) (OKG.o rfl (OK1.loadP (Has.t rfl) ty72 rfl (Ss' := [_, _]) rfl)) ?_
    refine DrH.st (i := 14) [36, 40] rfl rfl rfl (by kernel_rfl) (OKG.o rfl (OK1.eq (OK1.call (zint_Floor (by rw [val_words]; omega) (by rw [val_words]; omega) (by simp only [zv_nf, zv_nz]; exact h0)) (.cons (Has.t rfl) (.cons (Has.t rfl) .nil))) ((show _ = isTup [isZ (cf r col / cf b col), isZ (cf r col % cf b col), isB true] from by simp only [zv_nz, zv_nf])))) ?_
    refine DrH.st (i := 15) [41] rfl rfl rfl (by kernel_rfl) (OKG.o rfl (OK1.mv (Has.t rfl))) ?_
    refine DrH.st (i := 16) [26] rfl rfl rfl (by kernel_rfl) (OKG.o rfl (OK1.ext (Has.t rfl) rfl)) ?_
    refine DrH.st (i := 17) [26] rfl rfl rfl (by kernel_rfl) (OKG.o rfl (OK1.ext (Has.t rfl) rfl)) ?_
    refine DrH.st (i := 18) [26] rfl rfl rfl (by kernel_rfl) (OKG.o rfl (OK1.ext (Has.t rfl) rfl)) ?_
    refine DrH.als (n1 := 21) (ds := [6, 7]) (zs := [[isB false, SlM isU []], [isB false, SlM isU []]]) rfl (.cons rfl rfl zero72 (fun _ _ => ⟨rfl, nilM _ _, trivial⟩) (.cons rfl rfl zero72 (fun _ _ => ⟨rfl, nilM _ _, trivial⟩) .nil)) (.cons_cons _ (.cons_cons _ .slnil)) (Cs := [_, _]) rfl ?_
    refine DrN.new [42] 0 (Ss' := [_, _]) (Cs' := [cellM [_, _], _]) rfl (by kernel_rfl) (by kernel_rfl) rfl rfl rfl (by kernel_rfl) rfl (Has.t rfl) ty72 rfl rfl rfl rfl ?_
    refine DrN.new [43] 1 (Ss' := [_, _]) (Cs' := [_, cellM [_, _]]) rfl (by kernel_rfl) (by kernel_rfl) rfl rfl rfl (by kernel_rfl) rfl (Has.t rfl) ty72 rfl rfl rfl rfl ?_
    refine DrN.fin (n := 23) mixed rfl (by kernel_rfl) (by kernel_rfl) (by kernel_rfl) (fun bs hbs => ?_)
    obtain ⟨b1, b2, rfl⟩ := len2 hbs
    refine Ops.memEq (M' := [_, _, _, _]) rfl ?_
    refine Ops.cv (Cv.wk (.cons (t := 0) (Has.t rfl) (.cons (t := 1) (Has.t rfl) (.cons (t := 4) (Has.t rfl) (.cons (t := 22) (Has.t rfl) (.cons (t := 23) (Has.t rfl) (.cons (t := 24) (Has.t rfl) (.cons (t := 25) (Has.t rfl) (.cons (t := 5) (Has.t rfl) (.cons (t := 27) (Has.t rfl) (.cons (t := 28) (Has.t rfl) (.cons (t := 29) (Has.t rfl) (.cons (t := 30) (Has.t rfl) (.cons (t := 31) (Has.t rfl) (.cons (t := 32) (Has.t rfl) (.cons (t := 33) (Has.t rfl) (.cons (t := 34) (Has.t rfl) (.cons (t := 35) (Has.t rfl) (.cons (t := 36) (Has.t rfl) (.cons (t := 37) (Has.t rfl) (.cons (t := 38) (Has.t rfl) (.cons (t := 39) (Has.t rfl) (.cons (t := 40) (Has.t rfl) (.cons (t := 41) (Has.t rfl) (.cons (t := 26) (Has.t rfl) (.cons (t := 42) (Has.t rfl) (.cons (t := 43) (Has.t rfl) (.cons (t := 44) (Has.t rfl) (.cons (t := 6) (Has.op rfl) (.cons (t := 7) (Has.op rfl) .nil)))))))))))))))))))))))))))))) ?_
    refine st (OK1.as (Has.t rfl)) rfl ?_
    refine nl ?_
    refine At.thn (hK8 _ _ ?_); clear hK8
    refine Tri.dry mixed ?_
    refine DrB.take (i := 0) rfl rfl rfl rfl (by kernel_rfl) (by kernel_rfl) (by kernel_rfl) (by kernel_rfl) (fun _ _ _ _ h => h) (OKY.mv (Has.t rfl)) ?_
    refine DrB.take (i := 1) rfl rfl rfl rfl (by kernel_rfl) (by kernel_rfl) (by kernel_rfl) (by kernel_rfl) (fun _ _ _ _ h => h) (OKY.nilc (Has.t rfl)) ?_
    refine DrB.take (i := 2) rfl rfl rfl rfl (by kernel_rfl) (by kernel_rfl) (by kernel_rfl) (by kernel_rfl) (fun _ _ _ _ h => h) (OKY.fieldAddr (Has.t rfl) fld133_0 ty131) ?_
    refine DrB.take (i := 4) rfl rfl rfl rfl (by kernel_rfl) (by kernel_rfl) (by kernel_rfl) (by kernel_rfl) (fun _ _ _ _ h => h) (OKY.mv (Has.t rfl)) ?_
    refine DrB.take (i := 6) rfl rfl rfl rfl (by kernel_rfl) (by kernel_rfl) (by kernel_rfl) (by kernel_rfl) (fun _ _ _ _ h => h) (OKY.mv (Has.t rfl)) ?_
    refine DrB.take (i := 7) rfl rfl rfl rfl (by kernel_rfl) (by kernel_rfl) (by kernel_rfl) (by kernel_rfl) (fun _ _ _ _ h => h) (OKY.nilc (Has.t rfl)) ?_
    refine DrB.take (i := 8) rfl rfl rfl rfl (by kernel_rfl) (by kernel_rfl) (by kernel_rfl) (by kernel_rfl) (fun _ _ _ _ h => h) (OKY.fieldAddr (Has.t rfl) fld133_0 ty131) ?_
    refine DrB.take (i := 10) rfl rfl rfl rfl (by kernel_rfl) (by kernel_rfl) (by kernel_rfl) (by kernel_rfl) (fun _ _ _ _ h => h) (OKY.mv (Has.t rfl)) ?_
    refine DrB.take (i := 15) rfl rfl rfl rfl (by kernel_rfl) (by kernel_rfl) (by kernel_rfl) (by kernel_rfl) (fun _ _ _ _ h => h) (OKY.mv (Has.t rfl)) ?_
    refine DrB.go [] ?_
    refine DrC.st (i := 3) [] rfl rfl rfl (by kernel_rfl) (by kernel_rfl) (OKG.o rfl (OK1.load1 (Has.t rfl) (i := 2) rfl ty131 rfl)) ?_
    refine DrC.st (i := 5) [] rfl rfl rfl (by kernel_rfl) (by kernel_rfl) (OKG.o rfl (OK1.call (zint_Of) (.cons (Has.cI 1 rfl) .nil))) ?_
    refine DrC.st (i := 9) [] rfl rfl rfl (by kernel_rfl) (by kernel_rfl) (OKG.o rfl (OK1.load1 (Has.t rfl) (i := 2) rfl ty131 rfl)) ?_
    refine DrC.st (i := 11) [54] rfl rfl rfl (by kernel_rfl) (by kernel_rfl) (OKG.o rfl (OK1.ixGr sl131 ty61 (Has.t rfl) (Has.t rfl) ⟨by omega, by omega⟩)) ?_
    refine DrC.st (i := 12) [56] rfl rfl rfl (by kernel_rfl) (by kernel_rfl) (OKG.o rfl (OK1.loadGM (Has.t rfl) (i := 3) rfl ty61 hr2)) ?_
    refine DrC.st (i := 13) [] rfl rfl rfl (by kernel_rfl) (by kernel_rfl) (OKG.o rfl (OK1.load (Has.t rfl) (i := 0) rfl ty72 rfl (Ss' := [_, _]) rfl)) ?_
    refine DrC.st (i := 14) [58] rfl rfl rfl (by kernel_rfl) (by kernel_rfl) (OKG.o rfl (OK1.call (zint_Neg (by rw [val_words]; omega)) (.cons (Has.t rfl) .nil))) ?_
    refine DrC.st (i := 16) [50, 57, 59] rfl rfl rfl (by kernel_rfl) (by kernel_rfl) (OKG.o rfl (OK1.eq (OK1.call (hnf_mixed (A := 1) (B := P) (K := P) (L := P) (by rw [val_words]; omega) (by rw [vals_nz]; exact hrP) (by rw [val_words, zv_nf, Int.natAbs_neg]; omega) (by rw [vals_nz]; exact hbP) (by omega) (by omega) (by rw [List.length_map, List.length_map]; omega) (by rw [List.length_map]; omega)) (.cons (Has.t rfl) (.cons (Has.t rfl) (.cons (Has.t rfl) (.cons (Has.t rfl) .nil))))) ((show _ = isP (mx2 1 r (-(cf r col / cf b col)) b) from isPl_eq (by simp only [zv_nf, vals_nz]))))) ?_
    refine DrC.fin [17, 18] (by kernel_rfl) (by kernel_rfl) (fun _ _ _ _ _ h => h) (by kernel_rfl) (by kernel_rfl) (by kernel_rfl) (by kernel_rfl) (by kernel_rfl) (by kernel_rfl) (by kernel_rfl) (by kernel_rfl) (by kernel_rfl) ?_
    refine Ops.cv (Cv.wk (.cons (t := 0) (Has.t rfl) (.cons (t := 1) (Has.t rfl) (.cons (t := 4) (Has.t rfl) (.cons (t := 22) (Has.t rfl) (.cons (t := 23) (Has.t rfl) (.cons (t := 24) (Has.t rfl) (.cons (t := 25) (Has.t rfl) (.cons (t := 5) (Has.t rfl) (.cons (t := 27) (Has.t rfl) (.cons (t := 28) (Has.t rfl) (.cons (t := 29) (Has.t rfl) (.cons (t := 30) (Has.t rfl) (.cons (t := 31) (Has.t rfl) (.cons (t := 32) (Has.t rfl) (.cons (t := 33) (Has.t rfl) (.cons (t := 34) (Has.t rfl) (.cons (t := 35) (Has.t rfl) (.cons (t := 36) (Has.t rfl) (.cons (t := 37) (Has.t rfl) (.cons (t := 38) (Has.t rfl) (.cons (t := 39) (Has.t rfl) (.cons (t := 40) (Has.t rfl) (.cons (t := 41) (Has.t rfl) (.cons (t := 26) (Has.t rfl) (.cons (t := 42) (Has.t rfl) (.cons (t := 43) (Has.t rfl) (.cons (t := 44) (Has.t rfl) (.cons (t := 6) (Has.t rfl) (.cons (t := 7) (Has.t rfl) (.cons (t := 45) (Has.t rfl) (.cons (t := 46) (Has.t rfl) (.cons (t := 47) (Has.t rfl) (.cons (t := 49) (Has.t rfl) (.cons (t := 51) (Has.t rfl) (.cons (t := 52) (Has.t rfl) (.cons (t := 53) (Has.t rfl) (.cons (t := 55) (Has.t rfl) (.cons (t := 60) (Has.t rfl) (.cons (t := 48) (Has.t rfl) (.cons (t := 50) (Has.t rfl) (.cons (t := 54) (Has.t rfl) (.cons (t := 56) (Has.t rfl) (.cons (t := 57) (Has.t rfl) (.cons (t := 58) (Has.t rfl) (.cons (t := 59) (Has.t rfl) (.cons (t := 61) (Has.t rfl) .nil))))))))))))))))))))))))))))))))))))))))))))))) ?_
    refine st (OK1.ixGr sl131 ty61 (Has.t rfl) (Has.t rfl) ⟨by omega, by omega⟩) rfl ?_
    refine Ops.storeGM (z := mx2 1 r (-(cf r col / cf b col)) b) (Has.t rfl) (Has.t rfl) (i := 3) rfl ty61 (by omega) (M' := [_, _, _, grM _ _ _]) rfl ?_
    refine nl ?_
    refine At.bln ?_
    refine At.thn (hK6 _ _ ?_); clear hK6
    refine Tri.region ?_
    refine st (OK1.addI (Has.t rfl) (Has.cI 1 rfl) (by first | omega | assumption) (by first | omega | assumption)) rfl ?_
    refine st (OK1.mv (Has.t rfl)) rfl ?_
    refine nl ?_
    refine At.thn ?_
    refine hK3 (⟨i + 1, by omega⟩) _ _ ?_ (Cv.trans (Cv.drop ((.cons _ (.cons _ (.cons_cons _ (.cons_cons _ .slnil)))))) (Cv.mem (.cons (t := 23) (Has.t' rfl ?_) (.cons (t := 0) (Has.t rfl) (.cons (t := 1) (Has.t rfl) (.cons (t := 4) (Has.t rfl) (.cons (t := 22) (Has.t rfl) .nil))))) ?_))
    · show t - (i + 1) < t - i; omega
    · exact isI_eq (by omega)
    · exact hwM_eq (rd_go hr2 hb2).symm (by show _ = (rds rs t col (i + 1)).length; rw [hlen, rds_len])
  · have hc1 := BP.f hc1
    refine Tri.exit ?_
    refine At.the ?_
    refine At.the ?_
    refine At.blh ?_
    refine rtX0D (.cons_cons _ (.cons_cons _ .slnil)) (.inr rfl) Try.results165 rfl ?_
    exact ⟨rfl, by rw [show t = i by omega]⟩
end Go.Proofs.Ytiieaohnpnojmaa
/- Contracts: a column is brought into form. -/
namespace Go.Proofs.Ytiieaohnpnojmaa
open Go.En Go.RowKit
set_option linter.unusedVariables false
set_option maxRecDepth 10000
open Go.Nt
open Go.Pz
open Go.Mz
open Go.Hn
set_option maxHeartbeats 4000000 in
theorem hnf_column {bw C : Nat} {gt : Gr (List Int)} {rs : List (List Int)} {t col W K : Nat} (hrow : ∀ r ∈ rs, r.length = W) (ht : t < rs.length) (hc : col < W) (hW : W ≤ 128) (hR : rs.length ≤ 64) (hb : ∀ r ∈ rs, Bd r K) (hK : (K + 3) * (rs.length + 2) ≤ 80000000) : CtrX Try.prog 115 [isPtr bw 0, isI (col : Int)] (hwM bw gt rs C t) (fun S M => S = isTup [] ∧ M = hwM bw gt (hcol ⟨rs, t⟩ col).rows C (hcol ⟨rs, t⟩ col).top) := by
  refine CtrX.intro Try.func115 rfl (by kernel_rfl) Try.ntmps115 rfl fun w0 F0 => ?_
  refine Tri.cv (Cv.wk (.cons (t := 0) (Has.t rfl) (.cons (t := 1) (Has.t rfl) .nil))) ?_
  refine Tri.fact (Has.rngI (Has.t (t := 1) rfl)) fun lt1 => ?_
  obtain ⟨N, hN⟩ : ∃ N, N = rs.length - (t + 1) := ⟨_, rfl⟩
  obtain ⟨P, hP⟩ : ∃ P, P = K + N * (K + 3) := ⟨_, rfl⟩
  have hK1 : (K + 3) * (rs.length + 2) = rs.length * (K + 3) + 2 * (K + 3) := by rw [Nat.mul_add, Nat.mul_comm (K + 3) rs.length, Nat.mul_comm (K + 3) 2]
  have hK2 : N * (K + 3) ≤ rs.length * (K + 3) := Nat.mul_le_mul_right _ (by omega)
  have hcl : hcol ⟨rs, t⟩ col = if cf ((jns rs t col N).getD t []) col = 0 then ⟨jns rs t col N, t⟩ else ⟨rds (hsg (jns rs t col N) t col) t col t, t + 1⟩ := by rw [hN]; rfl
  have hlenA := jns_len rs t col N
  obtain ⟨p, hp⟩ : ∃ p, (jns rs t col N)[t]? = some p := ⟨_, List.getElem?_eq_getElem (by omega)⟩
  have hrowA := jns_row hrow ht (col := col) N
  have hbA : ∀ r ∈ jns rs t col N, Bd r P := by rw [hP]; exact jns_bd hb N
  have hpl := hrowA p (List.mem_of_getElem? hp)
  have hpP := hbA p (List.mem_of_getElem? hp)
  have hpc := hpP col
  rw [getD_of hp] at hcl
  refine Tri.seq fun K1 hK1 => ?_
  refine Tri.seq fun K2 hK2 => ?_
  refine Tri.region ?_
  refine st (OK1.mv (Has.t rfl)) rfl ?_
  refine st (OK1.nilc (Has.t rfl)) rfl ?_
  refine st (OK1.fieldAddr (Has.t rfl) fld133_2 ty3) rfl ?_
  refine st (OK1.load1 (Has.t rfl) (i := 0) rfl ty3 rfl) rfl ?_
  refine st (OK1.addI (Has.t rfl) (Has.cI 1 rfl) (by first | omega | assumption) (by first | omega | assumption)) rfl ?_
  refine st (OK1.as (Has.t rfl)) rfl ?_
  refine nl ?_
  refine At.thn (hK2 _ _ ?_); clear hK2
  refine Tri.cv (Cv.wk (.cons (t := 0) (Has.t rfl) (.cons (t := 1) (Has.t rfl) (.cons (t := 4) (Has.t rfl) .nil)))) ?_
  refine Tri.block ?_
  refine Tri.loopF [0, 1] (fun (z : { n : Nat // n ≤ N }) => match z with | ⟨n, hn⟩ => [(4, isI ((t + 1 + n : Nat) : Int))]) (fun M => fun (z : { n : Nat // n ≤ N }) => match z with | ⟨n, hn⟩ => hwM bw gt (jns rs t col n) C t) (fun (z : { n : Nat // n ≤ N }) => match z with | ⟨n, hn⟩ => N - n) (⟨0, Nat.zero_le _⟩) (Cv.mem (.cons (t := 4) (Has.t' rfl ?_) (.cons (t := 0) (Has.t rfl) (.cons (t := 1) (Has.t rfl) .nil))) ?_) ?_
  · exact isI_eq (by omega)
  · rfl
  rintro ⟨n, hn⟩ K3 hK3
  refine Tri.cv (Cv.wk (.cons (t := 4) (Has.t rfl) (.cons (t := 0) (Has.t rfl) (.cons (t := 1) (Has.t rfl) .nil)))) ?_
  refine Tri.memEq (M' := hwM bw gt (jns rs t col n) C t) rfl ?_
  have hlen := jns_len rs t col n
  have hnK : n * (K + 3) ≤ N * (K + 3) := Nat.mul_le_mul_right _ hn
  refine Tri.seq fun K4 hK4 => ?_
  refine Tri.seq fun K5 hK5 => ?_
  refine Tri.region ?_
  refine st (OK1.mv (Has.t rfl)) rfl ?_
  refine st (OK1.mv (Has.t rfl)) rfl ?_
  refine st (OK1.nilc (Has.t rfl)) rfl ?_
  refine st (OK1.fieldAddr (Has.t rfl) fld133_0 ty131) rfl ?_
  refine st (OK1.load1 (Has.t rfl) (i := 0) rfl ty131 rfl) rfl ?_
  refine st (OK1.len sl131 (Has.t rfl)) rfl ?_
  refine st (OK1.ltI (Has.t rfl) (Has.t rfl)) rfl ?_
  refine nl ?_
  refine At.thn (hK5 _ _ ?_); clear hK5
  refine Tri.cond (Has.t rfl) (fun hc1 => ?_) (fun hc1 => ?_)
  · have hc1 := BP.t hc1
    skip
    refine Tri.skip ?_
    refine At.thn (hK4 _ _ ?_); clear hK4
    refine Tri.seq fun K6 hK6 => ?_
    refine Tri.block ?_
    refine Tri.region ?_
    refine st (OK1.mv (Has.t rfl)) rfl ?_
    refine st (OK1.mv (Has.t rfl)) rfl ?_
    refine st (OK1.mv (Has.t rfl)) rfl ?_
    refine Ops.callX (hnf_join (rs := jns rs t col n) (i := t + 1 + n) (col := col) (P := K + n * (K + 3)) (K := K) (jns_row hrow ht n) (by omega) (by omega) hc hW (by omega) (jns_bd hb n) (by rw [show (jns rs t col n).getD (t + 1 + n) [] = rs.getD (t + 1 + n) [] from by rw [List.getD, jns_far (Nat.le_refl _)]; rfl]; exact getD_bd hb _) (by omega)) (List.Perm.refl _) (.cons (Has.t rfl) (.cons (Has.t rfl) (.cons (Has.t rfl) .nil))) rfl ?_
    rintro _ _ ⟨rfl, rfl⟩
    refine Ops.memEq (M' := hwM bw gt (jns rs t col (n + 1)) C t) rfl ?_
    refine nl ?_
    refine At.bln ?_
    refine At.thn (hK6 _ _ ?_); clear hK6
    refine Tri.region ?_
    refine st (OK1.mv (Has.t rfl)) rfl ?_
    refine st (OK1.addI (Has.t rfl) (Has.cI 1 rfl) (by first | omega | assumption) (by first | omega | assumption)) rfl ?_
    refine st (OK1.as (Has.t rfl)) rfl ?_
    refine nl ?_
    refine At.thn ?_
    refine hK3 (⟨n + 1, by omega⟩) _ _ ?_ (Cv.mem (.cons (t := 4) (Has.t' rfl ?_) (.cons (t := 0) (Has.t rfl) (.cons (t := 1) (Has.t rfl) .nil))) ?_)
    · show N - (n + 1) < N - n; omega
    · exact isI_eq (by omega)
    · rfl
  · have hc1 := BP.f hc1
    have hnN : N = n := (by omega)
    subst hnN
    refine Tri.exit ?_
    refine At.the ?_
    refine At.the ?_
    refine At.blh ?_
    refine At.thn (hK1 _ _ ?_); clear hK1
    refine Tri.cv (Cv.wk (.cons (t := 0) (Has.t rfl) (.cons (t := 1) (Has.t rfl) .nil))) ?_
    refine Tri.cutF [0, 1] (fun (z : { c : List (List Int) // c = hsg (jns rs t col N) t col ∧ ¬ cf p col = 0 }) => match z with | ⟨c, hcs⟩ => []) (fun M => fun (z : { c : List (List Int) // c = hsg (jns rs t col N) t col ∧ ¬ cf p col = 0 }) => match z with | ⟨c, hcs⟩ => hwM bw gt c C t) (fun K7 hK7 => ?_) ?_
    · skip
      refine Tri.seq fun K8 hK8 => ?_
      refine Tri.dr ?_
      refine DrG.st (i := 0) [] rfl rfl rfl (by kernel_rfl) (OKG.o rfl (OK1.mv (Has.t rfl))) ?_
      refine DrG.st (i := 1) [23] rfl rfl rfl (by kernel_rfl) (OKG.o rfl (OK1.nilc (Has.t rfl))) ?_
      refine DrG.st (i := 2) [24] rfl rfl rfl (by kernel_rfl) (OKG.o rfl (OK1.fieldAddr (Has.t rfl) fld133_0 ty131)) ?_
      refine DrG.st (i := 3) [25] rfl rfl rfl (by kernel_rfl) (OKG.o rfl (OK1.load1 (Has.t rfl) (i := 0) rfl ty131 rfl)) ?_
      refine DrG.st (i := 4) [] rfl rfl rfl (by kernel_rfl) (OKG.o rfl (OK1.mv (Has.t rfl))) ?_
      refine DrG.st (i := 5) [27] rfl rfl rfl (by kernel_rfl) (OKG.o rfl (OK1.nilc (Has.t rfl))) ?_
      refine DrG.st (i := 6) [28] rfl rfl rfl (by kernel_rfl) (OKG.o rfl (OK1.fieldAddr (Has.t rfl) fld133_2 ty3)) ?_
      refine DrG.st (i := 7) [29] rfl rfl rfl (by kernel_rfl) (OKG.o rfl (OK1.load1 (Has.t rfl) (i := 0) rfl ty3 rfl)) ?_
      refine DrG.st (i := 8) [26, 30] rfl rfl rfl (by kernel_rfl) (OKG.o rfl (OK1.ixGr sl131 ty61 (Has.t rfl) (Has.t rfl) ⟨by omega, by omega⟩)) ?_
      refine DrG.st (i := 9) [31] rfl rfl rfl (by kernel_rfl) (OKG.o rfl (OK1.loadGM (Has.t rfl) (i := 1) rfl ty61 hp)) ?_
      refine DrG.st (i := 10) [] rfl rfl rfl (by kernel_rfl) (OKG.o rfl (OK1.mv (Has.t rfl))) ?_
      refine DrG.fin (n := 11) mixed (by kernel_rfl) (by kernel_rfl) (by kernel_rfl) ?_
      refine Ops.cv (Cv.wk (.cons (t := 0) (Has.t rfl) (.cons (t := 1) (Has.t rfl) (.cons (t := 32) (Has.t rfl) (.cons (t := 33) (Has.t rfl) .nil))))) ?_
      refine st (OK1.ixK sl61 ty72 (Has.t rfl) (Has.t rfl) zc_len ⟨by omega, by rw [List.length_map]; omega⟩ (getZ (i := col) (by omega))) rfl ?_
      refine st (OK1.loadP (Has.t rfl) ty72 rfl (Ss' := [_, _]) rfl) rfl ?_
      refine st (OK1.eq (OK1.call (zint_Sign (by rw [val_words]; omega)) (.cons (Has.t rfl) .nil)) ((show _ = isI (sgn (cf p col)) from by first | (rw [zv_nf]; done) | (rw [zv_nz]; done) | rfl))) rfl ?_
      refine nl ?_
      refine At.thn (hK8 _ _ ?_); clear hK8
      refine Tri.block ?_
      refine Tri.seq fun K9 hK9 => ?_
      refine Tri.region ?_
      refine st (OK1.eqI (Has.t rfl) (Has.cI 0 rfl)) rfl ?_
      refine st (OK1.as (Has.t rfl)) rfl ?_
      refine nl ?_
      refine At.thn (hK9 _ _ ?_); clear hK9
      refine Tri.cv (Cv.wk (.cons (t := 0) (Has.t rfl) (.cons (t := 1) (Has.t rfl) (.cons (t := 36) (Has.t rfl) (.cons (t := 37) (Has.t rfl) .nil))))) ?_
      refine Tri.cond (Has.t rfl) (fun hc2 => ?_) (fun hc2 => ?_)
      · have hc2 := BP.t hc2
        have h0 : cf p col = 0 := (sgn_eq0 _).1 hc2
        refine Tri.ret ?_
        refine At.blr ?_
        refine At.thr ?_
        refine rtX0 (.inl rfl) Try.results115 rfl ?_
        exact ⟨rfl, by rw [hcl, if_pos h0]⟩
      · have hc2 := BP.f hc2
        have h0 : ¬ cf p col = 0 := fun e => hc2 ((sgn_eq0 _).2 e)
        refine Tri.seq fun K10 hK10 => ?_
        refine Tri.region ?_
        refine st (OK1.eqI (Has.t rfl) (Has.cI (-1) rfl)) rfl ?_
        refine st (OK1.as (Has.t rfl)) rfl ?_
        refine nl ?_
        refine At.thn (hK10 _ _ ?_); clear hK10
        refine Tri.cond (Has.t rfl) (fun hc3 => ?_) (fun hc3 => ?_)
        · have hc3 := BP.t hc3
          have hl0 : cf p col < 0 := (sgn_lt _).1 (by omega)
          refine Tri.dry mixed ?_
          refine DrB.take (i := 0) rfl rfl rfl rfl (by kernel_rfl) (by kernel_rfl) (by kernel_rfl) (by kernel_rfl) (fun _ _ _ _ h => h) (OKY.mv (Has.t rfl)) ?_
          refine DrB.take (i := 1) rfl rfl rfl rfl (by kernel_rfl) (by kernel_rfl) (by kernel_rfl) (by kernel_rfl) (fun _ _ _ _ h => h) (OKY.nilc (Has.t rfl)) ?_
          refine DrB.take (i := 2) rfl rfl rfl rfl (by kernel_rfl) (by kernel_rfl) (by kernel_rfl) (by kernel_rfl) (fun _ _ _ _ h => h) (OKY.fieldAddr (Has.t rfl) fld133_0 ty131) ?_
          refine DrB.take (i := 4) rfl rfl rfl rfl (by kernel_rfl) (by kernel_rfl) (by kernel_rfl) (by kernel_rfl) (fun _ _ _ _ h => h) (OKY.mv (Has.t rfl)) ?_
          refine DrB.take (i := 5) rfl rfl rfl rfl (by kernel_rfl) (by kernel_rfl) (by kernel_rfl) (by kernel_rfl) (fun _ _ _ _ h => h) (OKY.nilc (Has.t rfl)) ?_
          refine DrB.take (i := 6) rfl rfl rfl rfl (by kernel_rfl) (by kernel_rfl) (by kernel_rfl) (by kernel_rfl) (fun _ _ _ _ h => h) (OKY.fieldAddr (Has.t rfl) fld133_2 ty3) ?_
          refine DrB.take (i := 9) rfl rfl rfl rfl (by kernel_rfl) (by kernel_rfl) (by kernel_rfl) (by kernel_rfl) (fun _ _ _ _ h => h) (OKY.mv (Has.t rfl)) ?_
          refine DrB.take (i := 10) rfl rfl rfl rfl (by kernel_rfl) (by kernel_rfl) (by kernel_rfl) (by kernel_rfl) (fun _ _ _ _ h => h) (OKY.nilc (Has.t rfl)) ?_
          refine DrB.take (i := 11) rfl rfl rfl rfl (by kernel_rfl) (by kernel_rfl) (by kernel_rfl) (by kernel_rfl) (fun _ _ _ _ h => h) (OKY.fieldAddr (Has.t rfl) fld133_0 ty131) ?_
          refine DrB.take (i := 13) rfl rfl rfl rfl (by kernel_rfl) (by kernel_rfl) (by kernel_rfl) (by kernel_rfl) (fun _ _ _ _ h => h) (OKY.mv (Has.t rfl)) ?_
          refine DrB.take (i := 14) rfl rfl rfl rfl (by kernel_rfl) (by kernel_rfl) (by kernel_rfl) (by kernel_rfl) (fun _ _ _ _ h => h) (OKY.nilc (Has.t rfl)) ?_
          refine DrB.take (i := 15) rfl rfl rfl rfl (by kernel_rfl) (by kernel_rfl) (by kernel_rfl) (by kernel_rfl) (fun _ _ _ _ h => h) (OKY.fieldAddr (Has.t rfl) fld133_2 ty3) ?_
          refine DrB.take (i := 20) rfl rfl rfl rfl (by kernel_rfl) (by kernel_rfl) (by kernel_rfl) (by kernel_rfl) (fun _ _ _ _ h => h) (OKY.mv (Has.t rfl)) ?_
          refine DrB.take (i := 21) rfl rfl rfl rfl (by kernel_rfl) (by kernel_rfl) (by kernel_rfl) (by kernel_rfl) (fun _ _ _ _ h => h) (OKY.nilc (Has.t rfl)) ?_
          refine DrB.take (i := 22) rfl rfl rfl rfl (by kernel_rfl) (by kernel_rfl) (by kernel_rfl) (by kernel_rfl) (fun _ _ _ _ h => h) (OKY.fieldAddr (Has.t rfl) fld133_0 ty131) ?_
          refine DrB.take (i := 24) rfl rfl rfl rfl (by kernel_rfl) (by kernel_rfl) (by kernel_rfl) (by kernel_rfl) (fun _ _ _ _ h => h) (OKY.mv (Has.t rfl)) ?_
          refine DrB.take (i := 25) rfl rfl rfl rfl (by kernel_rfl) (by kernel_rfl) (by kernel_rfl) (by kernel_rfl) (fun _ _ _ _ h => h) (OKY.nilc (Has.t rfl)) ?_
          refine DrB.take (i := 26) rfl rfl rfl rfl (by kernel_rfl) (by kernel_rfl) (by kernel_rfl) (by kernel_rfl) (fun _ _ _ _ h => h) (OKY.fieldAddr (Has.t rfl) fld133_2 ty3) ?_
          refine DrB.go [] ?_
          refine DrC.st (i := 3) [] rfl rfl rfl (by kernel_rfl) (by kernel_rfl) (OKG.o rfl (OK1.load1 (Has.t rfl) (i := 0) rfl ty131 rfl)) ?_
          refine DrC.st (i := 7) [] rfl rfl rfl (by kernel_rfl) (by kernel_rfl) (OKG.o rfl (OK1.load1 (Has.t rfl) (i := 0) rfl ty3 rfl)) ?_
          refine DrC.st (i := 8) [] rfl rfl rfl (by kernel_rfl) (by kernel_rfl) (OKG.o rfl (OK1.call (zint_Of) (.cons (Has.cI (-1) rfl) .nil))) ?_
          refine DrC.st (i := 12) [] rfl rfl rfl (by kernel_rfl) (by kernel_rfl) (OKG.o rfl (OK1.load1 (Has.t rfl) (i := 0) rfl ty131 rfl)) ?_
          refine DrC.st (i := 16) [] rfl rfl rfl (by kernel_rfl) (by kernel_rfl) (OKG.o rfl (OK1.load1 (Has.t rfl) (i := 0) rfl ty3 rfl)) ?_
          refine DrC.st (i := 17) [53, 57] rfl rfl rfl (by kernel_rfl) (by kernel_rfl) (OKG.o rfl (OK1.ixGr sl131 ty61 (Has.t rfl) (Has.t rfl) ⟨by omega, by omega⟩)) ?_
          refine DrC.st (i := 18) [58] rfl rfl rfl (by kernel_rfl) (by kernel_rfl) (OKG.o rfl (OK1.loadGM (Has.t rfl) (i := 1) rfl ty61 hp)) ?_
          refine DrC.st (i := 19) [] rfl rfl rfl (by kernel_rfl) (by kernel_rfl) (OKG.o rfl (OK1.build [isB false, SlM isU []] pl72 zero72 (fun _ _ => ⟨rfl, nilM _ _, trivial⟩) .nil (Z'' := [_, _]) rfl)) ?_
          refine DrC.st (i := 23) [] rfl rfl rfl (by kernel_rfl) (by kernel_rfl) (OKG.o rfl (OK1.load1 (Has.t rfl) (i := 0) rfl ty131 rfl)) ?_
          refine DrC.st (i := 27) [] rfl rfl rfl (by kernel_rfl) (by kernel_rfl) (OKG.o rfl (OK1.load1 (Has.t rfl) (i := 0) rfl ty3 rfl)) ?_
          refine DrC.st (i := 28) [64, 68] rfl rfl rfl (by kernel_rfl) (by kernel_rfl) (OKG.o rfl (OK1.ixGr sl131 ty61 (Has.t rfl) (Has.t rfl) ⟨by omega, by omega⟩)) ?_
          refine DrC.st (i := 29) [69] rfl rfl rfl (by kernel_rfl) (by kernel_rfl) (OKG.o rfl (OK1.loadGM (Has.t rfl) (i := 1) rfl ty61 hp)) ?_
          refine DrC.st (i := 30) [49, 59, 60, 70] rfl rfl rfl (by kernel_rfl) (by kernel_rfl) (OKG.o rfl (OK1.eq (OK1.call (hnf_mixed (A := 1) (B := 1) (K := P) (L := P) (by rw [val_words]; exact nw_small' (by decide)) (by rw [vals_nz]; exact hpP) (by exact nw_small' (by decide)) (by rw [vals_nz]; exact hpP) (by omega) (by omega) rfl (by rw [List.length_map]; omega)) (.cons (Has.t rfl) (.cons (Has.t rfl) (.cons (Has.t rfl) (.cons (Has.t rfl) .nil))))) ((show _ = isP (mx2 (-1) p 0 p) from isPl_eq (by simp only [zv_nf, vals_nz]; rfl))))) ?_
          refine DrC.fin [31, 32] (by kernel_rfl) (by kernel_rfl) (fun _ _ _ _ _ h => h) (by kernel_rfl) (by kernel_rfl) (by kernel_rfl) (by kernel_rfl) (by kernel_rfl) (by kernel_rfl) (by kernel_rfl) (by kernel_rfl) (by kernel_rfl) ?_
          refine Ops.cv (Cv.wk (.cons (t := 0) (Has.t rfl) (.cons (t := 1) (Has.t rfl) (.cons (t := 44) (Has.t rfl) (.cons (t := 48) (Has.t rfl) (.cons (t := 71) (Has.t rfl) .nil)))))) ?_
          refine st (OK1.ixGr sl131 ty61 (Has.t rfl) (Has.t rfl) ⟨by omega, by omega⟩) rfl ?_
          refine Ops.storeGM (z := mx2 (-1) p 0 p) (Has.t rfl) (Has.t rfl) (i := 1) rfl ty61 (by omega) (M' := [_, grM _ _ _]) rfl ?_
          refine nl ?_
          refine At.bln ?_
          refine At.thn ?_
          refine hK7 (⟨_, rfl, h0⟩) _ _ (Cv.mem (.cons (t := 0) (Has.t rfl) (.cons (t := 1) (Has.t rfl) .nil)) ?_)
          · exact hwM_eq (by unfold hsg; rw [getD_of hp, if_pos hl0]; rfl) (by rw [hsg_len])
        · have hc3 := BP.f hc3
          have hl0 : ¬ cf p col < 0 := fun e => by rcases sgn_cases (cf p col) with h | h | h <;> omega
          refine Tri.skip ?_
          refine At.bln ?_
          refine At.thn ?_
          refine hK7 (⟨_, rfl, h0⟩) _ _ (Cv.mem (.cons (t := 0) (Has.t rfl) (.cons (t := 1) (Has.t rfl) .nil)) ?_)
          · exact hwM_eq (by unfold hsg; rw [getD_of hp, if_neg hl0]) (by rw [hsg_len])
    rintro ⟨c, hcs, h0⟩
    refine Tri.cv (Cv.wk (.cons (t := 0) (Has.t rfl) (.cons (t := 1) (Has.t rfl) .nil))) ?_
    refine Tri.memEq (M' := hwM bw gt c C t) rfl ?_
    subst hcs
    have hpos := hsg_pos hp h0
    refine Tri.seq fun K11 hK11 => ?_
    refine Tri.region ?_
    refine st (OK1.mv (Has.t rfl)) rfl ?_
    refine st (OK1.mv (Has.t rfl)) rfl ?_
    refine Ops.callX (hnf_reduce (rs := hsg (jns rs t col N) t col) (col := col) (P := P) (hsg_row hrowA (by omega)) (by rw [hsg_len]; omega) hc hW (by rw [hsg_len]; omega) (hsg_bd hbA) (by omega) hpos) (List.Perm.refl _) (.cons (Has.t rfl) (.cons (Has.t rfl) .nil)) rfl ?_
    rintro _ _ ⟨rfl, rfl⟩
    refine Ops.memEq (M' := hwM bw gt (rds (hsg (jns rs t col N) t col) t col t) C t) rfl ?_
    refine nl ?_
    refine At.thn (hK11 _ _ ?_); clear hK11
    refine Tri.region ?_
    refine st (OK1.mv (Has.t rfl)) rfl ?_
    refine st (OK1.nilc (Has.t rfl)) rfl ?_
    refine st (OK1.fieldAddr (Has.t rfl) fld133_2 ty3) rfl ?_
    refine st (OK1.load1 (Has.t rfl) (i := 0) rfl ty3 rfl) rfl ?_
    refine st (OK1.addI (Has.t rfl) (Has.cI 1 rfl) (by first | omega | assumption) (by first | omega | assumption)) rfl ?_
    refine st (OK1.nilc (Has.t rfl)) rfl ?_
    refine st (OK1.fieldAddr (Has.t rfl) fld133_2 ty3) rfl ?_
    refine Ops.store (Has.t rfl) (Has.t rfl) (i := 0) rfl ty3 rfl rfl (Ss' := [_, _, _]) rfl (M' := [(some _, cellM [_, _, _]), _]) rfl ?_
    refine nl ?_
    refine rtX0 (.inr rfl) Try.results115 rfl ?_
    exact ⟨rfl, (hwM_top (top' := t + 1) (by omega)).trans (by rw [hcl, if_neg h0])⟩
end Go.Proofs.Ytiieaohnpnojmaa
/- Contracts: parts of rows. -/
namespace Go.Proofs.Ytiieaohnpnojmaa
open Go.En Go.RowKit
set_option linter.unusedVariables false
set_option maxRecDepth 10000
open Go.Nt
open Go.Pz
open Go.Mz
open Go.Hn
set_option maxHeartbeats 4000000 in
theorem hnf_part {rs : List (List Int)} {W lo hi : Nat} {c tp : Int} (hrow : ∀ r ∈ rs, r.length = W) (h1 : lo ≤ hi) (h2 : hi ≤ W) (hW : W ≤ 128) (hR : rs.length ≤ 64) : Ctr Try.prog 116 [PtrL [SlM isP rs, isI c, isI tp], isI (lo : Int), isI (hi : Int)] (isMz rs.length (hi - lo) (flatP lo hi rs)) := by
  refine Ctr.intro Try.func116 rfl (by kernel_rfl) Try.ntmps116 rfl fun w0 F0 => ?_
  refine Tri.cv (Cv.wk (.cons (t := 0) (Has.t rfl) (.cons (t := 1) (Has.t rfl) (.cons (t := 2) (Has.t rfl) .nil)))) ?_
  refine Tri.fact (Has.rngI (Has.t (t := 1) rfl)) fun lt1 => ?_
  refine Tri.fact (Has.rngI (Has.t (t := 2) rfl)) fun lt2 => ?_
  have hmx : ∀ i, i ≤ rs.length → (flatP lo hi (rs.take i)).length ≤ 8192 := fun i hi' => by
    rw [flatP_len (rs := rs.take i) h1 h2 (fun r hr => hrow r (List.mem_of_mem_take hr)), List.length_take]
    exact Nat.le_trans (Nat.mul_le_mul (show _ ≤ 64 by omega) (show hi - lo ≤ 128 by omega)) (by decide)
  refine Tri.seq fun K1 hK1 => ?_
  refine Tri.region ?_
  refine Ops.alloc [isI 0, isI 0, nilS] zero63 (fun _ _ => ⟨⟨rfl, by decide, by decide⟩, ⟨rfl, by decide, by decide⟩, rfl, trivial⟩) rfl fun b1 => ?_
  refine nl ?_
  refine At.thn (hK1 _ _ ?_); clear hK1
  refine Tri.seq fun K2 hK2 => ?_
  refine Tri.region ?_
  refine st (OK1.mv (Has.t rfl)) rfl ?_
  refine st (OK1.nilcP (Has.t rfl)) rfl ?_
  refine st (OK1.fieldAddrP (Has.t rfl) fld133_0 ty131 (Ss' := [_, _, _]) rfl) rfl ?_
  refine st (OK1.loadP1 (Has.t rfl) ty131) rfl ?_
  refine st (OK1.len sl131 (Has.t rfl)) rfl ?_
  refine st (OK1.mv (Has.t rfl)) rfl ?_
  refine st (OK1.mv (Has.t rfl)) rfl ?_
  refine st (OK1.eq (OK1.subI (Has.t rfl) (Has.t rfl) (by first | omega | assumption) (by first | omega | assumption)) ((show isI _ = isI ((hi - lo : Nat) : Int) from isI_eq (by omega)))) rfl ?_
  refine st (OK1.build [isI 0, isI 0, nilS] pl63 zero63 (fun _ _ => ⟨⟨rfl, by decide, by decide⟩, ⟨rfl, by decide, by decide⟩, rfl, trivial⟩) (.cons (Has.t rfl) rfl rfl rfl (.cons (Has.t rfl) rfl rfl rfl .nil)) (Z'' := [_, _, _]) rfl) rfl ?_
  refine Ops.alloc [isI 0, isI 0, nilS] zero63 (fun _ _ => ⟨⟨rfl, by decide, by decide⟩, ⟨rfl, by decide, by decide⟩, rfl, trivial⟩) rfl fun b2 => ?_
  refine Ops.store (Has.t rfl) (Has.t rfl) (i := 0) rfl ty63 rfl rfl (Ss' := [_, _, _]) rfl (M' := [(some _, cellM [_, _, _]), _]) rfl ?_
  refine nl ?_
  refine At.thn (hK2 _ _ ?_); clear hK2
  refine Tri.cv (Cv.wk (.cons (t := 0) (Has.t rfl) (.cons (t := 1) (Has.t rfl) (.cons (t := 2) (Has.t rfl) (.cons (t := 6) (Has.t rfl) (.cons (t := 7) (Has.t rfl) .nil)))))) ?_
  refine Tri.seq fun K3 hK3 => ?_
  refine Tri.seq fun K4 hK4 => ?_
  refine Tri.cv (Cv.growF (Bool × List Nat) (i := 0) (o := 2) rfl rfl rfl) ?_
  refine Tri.memEq (M' := [grMK zc Gr.nil [], _, _]) rfl ?_
  refine Tri.region ?_
  refine st (OK1.mv (Has.t rfl)) rfl ?_
  refine st (OK1.nilcP (Has.t rfl)) rfl ?_
  refine st (OK1.fieldAddrP (Has.t rfl) fld133_0 ty131 (Ss' := [_, _, _]) rfl) rfl ?_
  refine st (OK1.loadP1 (Has.t rfl) ty131) rfl ?_
  refine st (OK1.len sl131 (Has.t rfl)) rfl ?_
  refine st (OK1.mv (Has.cI 0 rfl)) rfl ?_
  refine nl ?_
  refine At.thn (hK4 _ _ ?_); clear hK4
  refine Tri.block ?_
  refine Tri.loopF [1, 2, 6, 7, 22, 23] (fun (z : { z : Nat × Gr (Bool × List Nat) // z.1 ≤ rs.length }) => match z with | ⟨(i, g), hI⟩ => [(24, isI (i : Int))]) (fun M => fun (z : { z : Nat × Gr (Bool × List Nat) // z.1 ≤ rs.length }) => match z with | ⟨(i, g), hI⟩ => [grMK zc g ((flatP lo hi (rs.take i)).map nz), (some b2, cellM [isI (rs.length : Int), isI ((hi - lo : Nat) : Int), isGr g ((flatP lo hi (rs.take i)).map nz).length]), (some b1, cellM [isI 0, isI 0, nilS])]) (fun (z : { z : Nat × Gr (Bool × List Nat) // z.1 ≤ rs.length }) => match z with | ⟨(i, g), hI⟩ => rs.length - i) (⟨(0, Gr.nil), Nat.zero_le _⟩) (Cv.mem (.cons (t := 24) (Has.t' rfl ?_) (.cons (t := 1) (Has.t rfl) (.cons (t := 2) (Has.t rfl) (.cons (t := 6) (Has.t rfl) (.cons (t := 7) (Has.t rfl) (.cons (t := 22) (Has.t rfl) (.cons (t := 23) (Has.t rfl) .nil))))))) ?_) ?_
  · rfl
  · rfl
  rintro ⟨⟨i, g⟩, hI⟩ K5 hK5
  refine Tri.cv (Cv.wk (.cons (t := 24) (Has.t rfl) (.cons (t := 1) (Has.t rfl) (.cons (t := 2) (Has.t rfl) (.cons (t := 6) (Has.t rfl) (.cons (t := 7) (Has.t rfl) (.cons (t := 22) (Has.t rfl) (.cons (t := 23) (Has.t rfl) .nil)))))))) ?_
  refine Tri.memEq (M' := [grMK zc g ((flatP lo hi (rs.take i)).map nz), (some b2, cellM [isI (rs.length : Int), isI ((hi - lo : Nat) : Int), isGr g ((flatP lo hi (rs.take i)).map nz).length]), (some b1, cellM [isI 0, isI 0, nilS])]) rfl ?_
  simp only [] at hI
  have hfl := hmx i hI
  refine Tri.seq fun K6 hK6 => ?_
  refine Tri.region ?_
  refine st (OK1.ltI (Has.t rfl) (Has.t rfl)) rfl ?_
  refine nl ?_
  refine At.thn (hK6 _ _ ?_); clear hK6
  refine Tri.seq fun K7 hK7 => ?_
  refine Tri.cond (Has.t rfl) (fun hc1 => ?_) (fun hc1 => ?_)
  · have hc1 := BP.t hc1
    obtain ⟨r, hr⟩ : ∃ r, rs[i]? = some r := ⟨_, List.getElem?_eq_getElem (by omega)⟩
    have hrW := hrow r (List.mem_of_getElem? hr)
    have hrm : (((r.take hi).drop lo).map nz).length = hi - lo := by rw [List.length_map, List.length_drop, List.length_take]; omega
    refine Tri.skip ?_
    refine At.thn (hK7 _ _ ?_); clear hK7
    refine Tri.seq fun K8 hK8 => ?_
    refine Tri.block ?_
    refine Tri.seq fun K9 hK9 => ?_
    refine Tri.region ?_
    refine st (OK1.ixP sl131 ty61 (Has.t rfl) (Has.t rfl) ⟨by omega, by omega⟩ hr) rfl ?_
    refine st (OK1.loadP1 (Has.t rfl) ty61) rfl ?_
    refine st (OK1.as (Has.t rfl)) rfl ?_
    refine nl ?_
    refine At.thn (hK9 _ _ ?_); clear hK9
    refine Tri.dry mixed ?_
    refine DrB.take (i := 0) rfl rfl rfl rfl (by kernel_rfl) (by kernel_rfl) (by kernel_rfl) (by kernel_rfl) (fun _ _ _ _ h => h) (OKY.fieldAddr (Has.t rfl) fld63_2 ty61) ?_
    refine DrB.take (i := 2) rfl rfl rfl rfl (by kernel_rfl) (by kernel_rfl) (by kernel_rfl) (by kernel_rfl) (fun _ _ _ _ h => h) (OKY.mv (Has.t rfl)) ?_
    refine DrB.take (i := 3) rfl rfl rfl rfl (by kernel_rfl) (by kernel_rfl) (by kernel_rfl) (by kernel_rfl) (fun _ _ _ _ h => h) (OKY.mv (Has.t rfl)) ?_
    refine DrB.take (i := 4) rfl rfl rfl rfl (by kernel_rfl) (by kernel_rfl) (by kernel_rfl) (by kernel_rfl) (fun _ _ _ _ h => h) (OKY.mv (Has.t rfl)) ?_
    refine DrB.go [] ?_
    refine DrC.st (i := 1) [] rfl rfl rfl (by kernel_rfl) (by kernel_rfl) (OKG.o rfl (OK1.load1 (Has.t rfl) (i := 1) rfl ty61 rfl)) ?_
    refine DrC.st (i := 5) [] rfl rfl rfl (by kernel_rfl) (by kernel_rfl) (OKG.o rfl (OK1.eq (OK1.slLHK sl61 ty72 zc_len (Has.t rfl) (Has.t rfl) (Has.t rfl) ⟨by omega, by omega, by rw [List.length_map]; omega⟩) ((show _ = SlK 2 zc (((r.take hi).drop lo).map nz) from SlK_eq (by rw [List.map_drop, List.map_take]; rfl))))) ?_
    refine DrC.fin [6, 7, 8] (by kernel_rfl) (by kernel_rfl) (fun _ _ _ _ _ h => h) (by kernel_rfl) (by kernel_rfl) (by kernel_rfl) (by kernel_rfl) (by kernel_rfl) (by kernel_rfl) (by kernel_rfl) (by kernel_rfl) (by kernel_rfl) ?_
    refine Ops.cv (Cv.wk (.cons (t := 1) (Has.t rfl) (.cons (t := 2) (Has.t rfl) (.cons (t := 6) (Has.t rfl) (.cons (t := 7) (Has.t rfl) (.cons (t := 22) (Has.t rfl) (.cons (t := 23) (Has.t rfl) (.cons (t := 24) (Has.t rfl) (.cons (t := 25) (Has.t rfl) (.cons (t := 26) (Has.t rfl) (.cons (t := 27) (Has.t rfl) (.cons (t := 9) (Has.t rfl) (.cons (t := 28) (Has.t rfl) (.cons (t := 30) (Has.t rfl) (.cons (t := 31) (Has.t rfl) (.cons (t := 32) (Has.t rfl) (.cons (t := 29) (Has.t rfl) (.cons (t := 33) (Has.t rfl) .nil)))))))))))))))))) ?_
    refine Ops.appendGK0 (fk := zc) (u := (false, [])) zc_len (by decide) (fun _ => inferInstance) sl61 ty72 zero72 (fun _ _ => ⟨rfl, nilM _ _, trivial⟩) by72 (Has.t rfl) (i := 0) rfl (Has.t rfl) (by rw [List.length_map, hrm]; omega) rfl fun gr1 => ?_
    refine Ops.memEq (M' := [grMK _ _ _, _, _]) rfl ?_
    refine st (OK1.fieldAddr (Has.t rfl) fld63_2 ty61) rfl ?_
    refine Ops.store (Has.t rfl) (Has.t rfl) (i := 1) rfl ty61 rfl rfl (Ss' := [_, _, _]) rfl (M' := [_, (some _, cellM [_, _, _]), _]) rfl ?_
    refine nl ?_
    refine At.bln ?_
    refine At.thn (hK8 _ _ ?_); clear hK8
    refine Tri.region ?_
    refine st (OK1.addI (Has.t rfl) (Has.cI 1 rfl) (by first | omega | assumption) (by first | omega | assumption)) rfl ?_
    refine st (OK1.mv (Has.t rfl)) rfl ?_
    refine nl ?_
    refine At.thn ?_
    refine hK5 (⟨(i + 1, gr1), by show i + 1 ≤ rs.length; omega⟩) _ _ ?_ (Cv.mem (.cons (t := 24) (Has.t' rfl ?_) (.cons (t := 1) (Has.t rfl) (.cons (t := 2) (Has.t rfl) (.cons (t := 6) (Has.t rfl) (.cons (t := 7) (Has.t rfl) (.cons (t := 22) (Has.t rfl) (.cons (t := 23) (Has.t rfl) .nil))))))) ?_)
    · show rs.length - (i + 1) < rs.length - i; omega
    · exact isI_eq (by omega)
    · exact grF_eq (by rw [flatP_succ hr, List.map_append, List.length_append]) (by rw [flatP_succ hr, List.map_append])
  · have hc1 := BP.f hc1
    refine Tri.exit ?_
    refine At.the ?_
    refine At.the ?_
    refine At.blh ?_
    refine At.thn (hK3 _ _ ?_); clear hK3
    refine Tri.cv (Cv.wk (.cons (t := 6) (Has.t rfl) (.cons (t := 7) (Has.t rfl) .nil))) ?_
    refine Tri.seq fun K10 hK10 => ?_
    refine Tri.cv (Cv.freezeF (k := 2) (i := 0) (j := 0) (o := 2) rfl rfl rfl rfl (gr_lenK zc_len) (gr_takeK zc_len) (Ss' := [_, _, SlK 2 zc ((flatP lo hi (rs.take i)).map nz)]) rfl) ?_
    refine Tri.memEq (M' := [(some _, cellM [_, _, SlK 2 zc ((flatP lo hi (rs.take i)).map nz)]), _]) rfl ?_
    refine Tri.cv (Cv.wk (.cons (t := 6) (Has.t rfl) (.cons (t := 7) (Has.t rfl) .nil))) ?_
    refine Tri.region ?_
    refine st (OK1.load (Has.t rfl) (i := 0) rfl ty63 rfl (Ss' := [_, _, _]) rfl) rfl ?_
    refine Ops.store (Has.t rfl) (Has.t rfl) (i := 1) rfl ty63 rfl rfl (Ss' := [_, _, _]) rfl (M' := [_, (some _, cellM [_, _, _])]) rfl ?_
    refine nl ?_
    refine At.thn (hK10 _ _ ?_); clear hK10
    refine Tri.ret ?_
    refine rt1 (.inl rfl) Try.results116 rfl (.cell rfl (i := 1) rfl ty63 rfl ?_ .nil)
    all_goals (exact isMz_eq (by rw [List.take_of_length_le (by omega)]))
end Go.Proofs.Ytiieaohnpnojmaa
/- Contracts: Hermite's form. -/
namespace Go.Proofs.Ytiieaohnpnojmaa
open Go.En Go.RowKit
set_option linter.unusedVariables false
set_option maxRecDepth 10000
open Go.Nt
open Go.Pz
open Go.Mz
open Go.Hn
theorem hm_step {bw C c : Nat} {gt : Gr (List Int)} {s : HS} {m : Mem} (h : (hred s c).top < (hred s c).rows.length) : (hw0 bw gt (hcol (hred s c) c).rows.length C (hcol (hred s c) c).top :: grM isP gt (hcol (hred s c) c).rows :: m : Mem) = hw0 bw gt (hred s (c + 1)).rows.length C (hred s (c + 1)).top :: grM isP gt (hred s (c + 1)).rows :: m := by
  have e : hred s (c + 1) = hcol (hred s c) c := if_pos h
  rw [e]
theorem col_bd {K R c : Nat} (h : (K + 4) * (R + 2) ^ c ≤ 1000000) : ((K + 4) * (R + 2) ^ c - 3 + 3) * (R + 2) ≤ 1000000 * (R + 2) := Nat.mul_le_mul_right _ (by
  have : 1 ≤ (R + 2) ^ c := Nat.one_le_pow _ _ (by omega)
  have := Nat.mul_le_mul_left (K + 4) this
  omega)
theorem isMzp_eq {R C : Nat} {L : List Int} {s : HS} (hlen : s.rows.length = R) (h : s = hrm R C L) : isMz s.rows.length (C - 0) (flatP 0 C s.rows) = isMz R C (flatP 0 C (hrm R C L).rows) := by rw [hlen, h]; rfl
theorem isMzq_eq {R C : Nat} {L : List Int} {s : HS} (hlen : s.rows.length = R) (h : s = hrm R C L) : isMz s.rows.length (C + R - C) (flatP C (C + R) s.rows) = isMz R R (flatP C (C + R) (hrm R C L).rows) := by rw [hlen, h, Nat.add_sub_cancel_left]
set_option maxHeartbeats 4000000 in
theorem hnf_Hermite {R C K : Nat} {xs : List (Bool × List Nat)} (hx : Bd (vals xs) K) (hK : (K + 4) * (R + 2) ^ C ≤ 1000000) (hR : R ≤ 64) (hC : C ≤ 64) (hl : xs.length = R * C) : Ctr Try.prog 50 [isM (R : Int) (C : Int) xs] (isTup [isMz R C (flatP 0 C (hrm R C (vals xs)).rows), isMz R R (flatP C (C + R) (hrm R C (vals xs)).rows), isI 0]) := by
  refine Ctr.intro Try.func50 rfl (by kernel_rfl) Try.ntmps50 rfl fun w0 F0 => ?_
  refine Tri.cv (Cv.wk (.cons (t := 0) (Has.t rfl) .nil)) ?_
  have hfo := formB_true hR hC hl
  have hpw : ∀ c, c ≤ C → (K + 4) * (R + 2) ^ c ≤ 1000000 := fun c hc => Nat.le_trans (Nat.mul_le_mul_left _ (Nat.pow_le_pow_right (by omega) hc)) hK
  have hp0 := hpw 0 (Nat.zero_le _)
  rw [Nat.pow_zero] at hp0
  have hok := hred_ok (rows0_ok (R := R) (C := C) hx)
  obtain ⟨n0, hn0⟩ : ∃ n0 : Nat, n0 = R := ⟨_, rfl⟩
  refine Tri.seq fun K1 hK1 => ?_
  refine Tri.region ?_
  refine Ops.box (Has.t rfl) rfl fun b1 => ?_
  refine Ops.alloc [isI 0, isI 0, nilS] zero63 (fun _ _ => ⟨⟨rfl, by decide, by decide⟩, ⟨rfl, by decide, by decide⟩, rfl, trivial⟩) rfl fun b2 => ?_
  refine Ops.alloc [isI 0, isI 0, nilS] zero63 (fun _ _ => ⟨⟨rfl, by decide, by decide⟩, ⟨rfl, by decide, by decide⟩, rfl, trivial⟩) rfl fun b3 => ?_
  refine st (OK1.as (Has.cI 0 rfl)) rfl ?_
  refine nl ?_
  refine At.thn (hK1 _ _ ?_); clear hK1
  refine Tri.seq fun K2 hK2 => ?_
  refine Tri.seq fun K3 hK3 => ?_
  refine Tri.region ?_
  refine st (OK1.load (Has.t rfl) (i := 2) rfl ty63 rfl (Ss' := [_, _, _]) rfl) rfl ?_
  refine st (OK1.eq (OK1.call (zmat_Formed) (.cons (Has.t rfl) .nil)) ((show isB _ = isB true from isB_eq hfo))) rfl ?_
  refine st (OK1.not (Has.t rfl)) rfl ?_
  refine nl ?_
  refine At.thn (hK3 _ _ ?_); clear hK3
  refine Tri.cond (Has.t rfl) (fun hc1 => ?_) (fun hc1 => ?_)
  · have hc1 := BP.t hc1
    simp at hc1
  · have hc1 := BP.f hc1
    refine Tri.skip ?_
    refine At.thn (hK2 _ _ ?_); clear hK2
    refine Tri.seq fun K4 hK4 => ?_
    refine Tri.region ?_
    refine st (OK1.load (Has.t rfl) (i := 2) rfl ty63 rfl (Ss' := [_, _, _]) rfl) rfl ?_
    refine Ops.callX (hnf_begun hx (by omega) hR hC hl) (List.Perm.refl _) (.cons (Has.t rfl) .nil) rfl ?_
    rintro _ _ ⟨bw, gt, rfl, rfl⟩
    refine Ops.memEq (M' := [hw0 bw gt (rows0 C R (vals xs) R).length C 0, grM isP gt (rows0 C R (vals xs) R), _, _, _]) rfl ?_
    refine st (OK1.as (Has.t rfl)) rfl ?_
    refine nl ?_
    refine At.thn (hK4 _ _ ?_); clear hK4
    refine Tri.cv (Cv.wk (.cons (t := 1) (Has.t rfl) (.cons (t := 2) (Has.t rfl) (.cons (t := 3) (Has.t rfl) (.cons (t := 4) (Has.t rfl) (.cons (t := 5) (Has.t rfl) .nil)))))) ?_
    refine Tri.seq fun K5 hK5 => ?_
    refine Tri.seq fun K6 hK6 => ?_
    refine Tri.region ?_
    refine st (OK1.as (Has.cI 0 rfl)) rfl ?_
    refine nl ?_
    refine At.thn (hK6 _ _ ?_); clear hK6
    refine Tri.block ?_
    refine Tri.loopF [1, 2, 3, 4, 5] (fun (z : { c : Nat // c ≤ C }) => match z with | ⟨c, hc⟩ => [(6, isI (c : Int))]) (fun M => fun (z : { c : Nat // c ≤ C }) => match z with | ⟨c, hc⟩ => [hw0 bw gt (hred ⟨rows0 C R (vals xs) R, 0⟩ c).rows.length C (hred ⟨rows0 C R (vals xs) R, 0⟩ c).top, grM isP gt (hred ⟨rows0 C R (vals xs) R, 0⟩ c).rows, (some b3, cellM [isI 0, isI 0, nilS]), (some b2, cellM [isI 0, isI 0, nilS]), (some b1, cellM [isI (R : Int), isI (C : Int), SlK 2 zc xs])]) (fun (z : { c : Nat // c ≤ C }) => match z with | ⟨c, hc⟩ => C - c) (⟨0, Nat.zero_le _⟩) (Cv.mem (.cons (t := 6) (Has.t' rfl ?_) (.cons (t := 1) (Has.t rfl) (.cons (t := 2) (Has.t rfl) (.cons (t := 3) (Has.t rfl) (.cons (t := 4) (Has.t rfl) (.cons (t := 5) (Has.t rfl) .nil)))))) ?_) ?_
    · rfl
    · rfl
    rintro ⟨c, hc⟩ K7 hK7
    refine Tri.cv (Cv.wk (.cons (t := 6) (Has.t rfl) (.cons (t := 1) (Has.t rfl) (.cons (t := 2) (Has.t rfl) (.cons (t := 3) (Has.t rfl) (.cons (t := 4) (Has.t rfl) (.cons (t := 5) (Has.t rfl) .nil))))))) ?_
    refine Tri.memEq (M' := [hw0 bw gt (hred ⟨rows0 C R (vals xs) R, 0⟩ c).rows.length C (hred ⟨rows0 C R (vals xs) R, 0⟩ c).top, grM isP gt (hred ⟨rows0 C R (vals xs) R, 0⟩ c).rows, (some b3, cellM [isI 0, isI 0, nilS]), (some b2, cellM [isI 0, isI 0, nilS]), (some b1, cellM [isI (R : Int), isI (C : Int), SlK 2 zc xs])]) rfl ?_
    have hoc := hok c
    have hlen := hoc.len
    have htop := hoc.top
    have hpc := hpw c hc
    refine Tri.seq fun K8 hK8 => ?_
    refine Tri.seq fun K9 hK9 => ?_
    refine Tri.dr ?_
    refine DrG.st (i := 0) [] rfl rfl rfl (by kernel_rfl) (OKG.o rfl (OK1.mv (Has.t rfl))) ?_
    refine DrG.st (i := 1) [] rfl rfl rfl (by kernel_rfl) (OKG.o rfl (OK1.fieldAddr (Has.t rfl) fld63_1 ty3)) ?_
    refine DrG.st (i := 2) [15] rfl rfl rfl (by kernel_rfl) (OKG.o rfl (OK1.load1 (Has.t rfl) (i := 4) rfl ty3 rfl)) ?_
    refine DrG.st (i := 3) [14, 16] rfl rfl rfl (by kernel_rfl) (OKG.o rfl (OK1.ltI (Has.t rfl) (Has.t rfl))) ?_
    refine DrG.st (i := 4) [17] rfl rfl rfl (by kernel_rfl) (OKG.o rfl (OK1.mv (Has.t rfl))) ?_
    refine DrG.st (i := 5) [18] rfl rfl rfl (by kernel_rfl) (OKG.T rfl rfl rfl (fun hg => have hg' := BP.t hg; OK1.mv (Has.t rfl))) ?_
    refine DrG.st (i := 6) [18, 19] rfl rfl rfl (by kernel_rfl) (OKG.T rfl rfl rfl (fun hg => have hg' := BP.t hg; OK1.nilc (Has.g rfl hg))) ?_
    refine DrG.st (i := 7) [18, 20] rfl rfl rfl (by kernel_rfl) (OKG.T rfl rfl rfl (fun hg => have hg' := BP.t hg; OK1.fieldAddr (Has.g rfl hg) fld133_2 ty3)) ?_
    refine DrG.st (i := 8) [18, 21] rfl rfl rfl (by kernel_rfl) (OKG.T rfl rfl rfl (fun hg => have hg' := BP.t hg; OK1.load1 (Has.g rfl hg) (i := 0) rfl ty3 rfl)) ?_
    refine DrG.st (i := 9) [18] rfl rfl rfl (by kernel_rfl) (OKG.T rfl rfl rfl (fun hg => have hg' := BP.t hg; OK1.fieldAddr (Has.t rfl) fld63_0 ty3)) ?_
    refine DrG.st (i := 10) [18, 23] rfl rfl rfl (by kernel_rfl) (OKG.T rfl rfl rfl (fun hg => have hg' := BP.t hg; OK1.load1 (Has.g rfl hg) (i := 4) rfl ty3 rfl)) ?_
    refine DrG.fin (n := 11) mixed (by kernel_rfl) (by kernel_rfl) (by kernel_rfl) ?_
    refine Ops.cv (Cv.wk (.cons (t := 1) (Has.t rfl) (.cons (t := 2) (Has.t rfl) (.cons (t := 3) (Has.t rfl) (.cons (t := 4) (Has.t rfl) (.cons (t := 5) (Has.t rfl) (.cons (t := 6) (Has.t rfl) (.cons (t := 14) (Has.t rfl) (.cons (t := 15) (Has.t rfl) (.cons (t := 16) (Has.t rfl) (.cons (t := 17) (Has.t rfl) (.cons (t := 18) (Has.t rfl) (.cons (t := 19) (Has.t rfl) (.cons (t := 20) (Has.t rfl) (.cons (t := 21) (Has.t rfl) (.cons (t := 22) (Has.t rfl) (.cons (t := 23) (Has.t rfl) (.cons (t := 24) (Has.t rfl) .nil)))))))))))))))))) ?_
    refine stT rfl rfl (fun hg => have hg' := BP.t hg; OK1.ltI (Has.g rfl hg) (Has.g rfl hg)) rfl ?_
    refine st (OK1.pickAnd (Has.t rfl) (fun h => Has.g rfl h)) rfl ?_
    refine nl ?_
    refine At.thn (hK9 _ _ ?_); clear hK9
    refine Tri.cond (Has.t rfl) (fun hc2 => ?_) (fun hc2 => ?_)
    · have hc2 := BP.t hc2
      obtain ⟨hc1', hc2'⟩ := hc2
      refine Tri.skip ?_
      refine At.thn (hK8 _ _ ?_); clear hK8
      refine Tri.seq fun K10 hK10 => ?_
      refine Tri.block ?_
      refine Tri.region ?_
      refine st (OK1.mv (Has.t rfl)) rfl ?_
      refine st (OK1.mv (Has.t rfl)) rfl ?_
      refine Ops.callX (hnf_column (rs := (hred ⟨rows0 C R (vals xs) R, 0⟩ c).rows) (t := (hred ⟨rows0 C R (vals xs) R, 0⟩ c).top) (col := c) (W := C + R) (K := (K + 4) * (R + 2) ^ c - 3) hoc.row (by omega) (by omega) (by omega) (by omega) hoc.bd (by rw [hlen]; exact Nat.le_trans (col_bd hpc) (by omega))) (List.Perm.refl _) (.cons (Has.t rfl) (.cons (Has.t rfl) .nil)) rfl ?_
      rintro _ _ ⟨rfl, rfl⟩
      refine Ops.memEq (M' := [hw0 bw gt (hcol (hred ⟨rows0 C R (vals xs) R, 0⟩ c) c).rows.length C (hcol (hred ⟨rows0 C R (vals xs) R, 0⟩ c) c).top, grM isP gt (hcol (hred ⟨rows0 C R (vals xs) R, 0⟩ c) c).rows, _, _, _]) rfl ?_
      refine nl ?_
      refine At.bln ?_
      refine At.thn (hK10 _ _ ?_); clear hK10
      refine Tri.region ?_
      refine st (OK1.mv (Has.t rfl)) rfl ?_
      refine st (OK1.addI (Has.t rfl) (Has.cI 1 rfl) (by first | omega | assumption) (by first | omega | assumption)) rfl ?_
      refine st (OK1.as (Has.t rfl)) rfl ?_
      refine nl ?_
      refine At.thn ?_
      refine hK7 (⟨c + 1, by omega⟩) _ _ ?_ (Cv.mem (.cons (t := 6) (Has.t' rfl ?_) (.cons (t := 1) (Has.t rfl) (.cons (t := 2) (Has.t rfl) (.cons (t := 3) (Has.t rfl) (.cons (t := 4) (Has.t rfl) (.cons (t := 5) (Has.t rfl) .nil)))))) ?_)
      · show C - (c + 1) < C - c; omega
      · exact isI_eq (by omega)
      · exact hm_step (show (hred ⟨rows0 C R (vals xs) R, 0⟩ c).top < _ by omega)
    · have hc2 := BP.f hc2
      have hst := hred_stop (rows0_ok (R := R) (C := C) hx) hc (show ¬ (c < C ∧ _) from fun h => by omega)
      refine Tri.exit ?_
      refine At.the ?_
      refine At.the ?_
      refine At.blh ?_
      refine At.thn (hK5 _ _ ?_); clear hK5
      refine Tri.cv (Cv.wk (.cons (t := 1) (Has.t rfl) (.cons (t := 2) (Has.t rfl) (.cons (t := 3) (Has.t rfl) (.cons (t := 4) (Has.t rfl) (.cons (t := 5) (Has.t rfl) .nil)))))) ?_
      refine Tri.seq fun K11 hK11 => ?_
      refine Tri.cv (Cv.freezeF (k := 1) (i := 1) (j := 0) (o := 0) rfl rfl rfl rfl gr_lenM gr_takeM (Ss' := [SlM isP ((hred ⟨rows0 C R (vals xs) R, 0⟩ c).rows), _, _]) rfl) ?_
      refine Tri.memEq (M' := [(some _, cellM [SlM isP ((hred ⟨rows0 C R (vals xs) R, 0⟩ c).rows), _, _]), _, _, _]) rfl ?_
      refine Tri.cv (Cv.wk (.cons (t := 1) (Has.t rfl) (.cons (t := 2) (Has.t rfl) (.cons (t := 3) (Has.t rfl) (.cons (t := 4) (Has.t rfl) (.cons (t := 5) (Has.t rfl) .nil)))))) ?_
      refine Tri.cv (Cv.freezeBox (t := 5) (i := 0) rfl rfl rfl) ?_
      refine Tri.memEq (M' := [_, _, _]) rfl ?_
      refine Tri.cv (Cv.wk (.cons (t := 1) (Has.t rfl) (.cons (t := 2) (Has.t rfl) (.cons (t := 3) (Has.t rfl) (.cons (t := 4) (Has.t rfl) (.cons (t := 5) (Has.t rfl) .nil)))))) ?_
      refine Tri.dr ?_
      refine DrG.st (i := 0) [] rfl rfl rfl (by kernel_rfl) (OKG.o rfl (OK1.mv (Has.t rfl))) ?_
      refine DrG.st (i := 1) [] rfl rfl rfl (by kernel_rfl) (OKG.o rfl (OK1.fieldAddr (Has.t rfl) fld63_1 ty3)) ?_
      refine DrG.st (i := 2) [33] rfl rfl rfl (by kernel_rfl) (OKG.o rfl (OK1.load1 (Has.t rfl) (i := 2) rfl ty3 rfl)) ?_
      refine DrG.st (i := 3) [32, 34] rfl rfl rfl (by kernel_rfl) (OKG.o rfl (OK1.call (hnf_part (lo := 0) (hi := C) hoc.row (by omega) (by omega) (by omega) (by omega)) (.cons (Has.t rfl) (.cons (Has.cI 0 rfl) (.cons (Has.t rfl) .nil))))) ?_
      refine DrG.st (i := 4) [] rfl rfl rfl (by kernel_rfl) (OKG.o rfl (OK1.mv (Has.t rfl))) ?_
      refine DrG.st (i := 5) [] rfl rfl rfl (by kernel_rfl) (OKG.o rfl (OK1.fieldAddr (Has.t rfl) fld63_1 ty3)) ?_
      refine DrG.st (i := 6) [37] rfl rfl rfl (by kernel_rfl) (OKG.o rfl (OK1.load1 (Has.t rfl) (i := 2) rfl ty3 rfl)) ?_
      refine DrG.st (i := 7) [] rfl rfl rfl (by kernel_rfl) (OKG.o rfl (OK1.fieldAddr (Has.t rfl) fld63_1 ty3)) ?_
      refine DrG.st (i := 8) [39] rfl rfl rfl (by kernel_rfl) (OKG.o rfl (OK1.load1 (Has.t rfl) (i := 2) rfl ty3 rfl)) ?_
      refine DrG.st (i := 9) [] rfl rfl rfl (by kernel_rfl) (OKG.o rfl (OK1.fieldAddr (Has.t rfl) fld63_0 ty3)) ?_
      refine DrG.st (i := 10) [41] rfl rfl rfl (by kernel_rfl) (OKG.o rfl (OK1.load1 (Has.t rfl) (i := 2) rfl ty3 rfl)) ?_
      refine DrG.st (i := 11) [40, 42] rfl rfl rfl (by kernel_rfl) (OKG.o rfl (OK1.eq (OK1.addI (Has.t rfl) (Has.t rfl) (by first | omega | assumption) (by first | omega | assumption)) ((show isI _ = isI ((C + R : Nat) : Int) from isI_eq (by omega))))) ?_
      refine DrG.fin (n := 12) mixed (by kernel_rfl) (by kernel_rfl) (by kernel_rfl) ?_
      refine Ops.cv (Cv.wk (.cons (t := 2) (Has.t rfl) (.cons (t := 3) (Has.t rfl) (.cons (t := 4) (Has.t rfl) (.cons (t := 35) (Has.t rfl) (.cons (t := 36) (Has.t rfl) (.cons (t := 38) (Has.t rfl) (.cons (t := 43) (Has.t rfl) .nil)))))))) ?_
      refine st (OK1.call (hnf_part (lo := C) (hi := C + R) hoc.row (by omega) (by omega) (by omega) (by omega)) (.cons (Has.t rfl) (.cons (Has.t rfl) (.cons (Has.t rfl) .nil)))) rfl ?_
      refine Ops.store (Has.t rfl) (Has.t rfl) (i := 1) rfl ty63 rfl rfl (Ss' := [_, _, _]) rfl (M' := [_, (some _, cellM [_, _, _]), _]) rfl ?_
      refine Ops.store (Has.t rfl) (Has.t rfl) (i := 0) rfl ty63 rfl rfl (Ss' := [_, _, _]) rfl (M' := [(some _, cellM [_, _, _]), _, _]) rfl ?_
      refine st (OK1.as (Has.cI 0 rfl)) rfl ?_
      refine nl ?_
      refine At.thn (hK11 _ _ ?_); clear hK11
      refine Tri.cv (Cv.wk (.cons (t := 2) (Has.t rfl) (.cons (t := 3) (Has.t rfl) (.cons (t := 4) (Has.t rfl) .nil)))) ?_
      refine Tri.ret ?_
      refine rtN (.inl rfl) Try.results50 rfl rfl (.cell rfl (i := 1) rfl ty63 rfl ?_ (.cell rfl (i := 0) rfl ty63 rfl ?_ (.tmp (Has.t' rfl ?_) .nil)))
      · exact isMzp_eq hlen hst.symm
      · exact isMzq_eq hlen hst.symm
      · rfl
set_option maxHeartbeats 4000000 in
theorem hnf_Hermite_bad {r c : Int} {xs : List (Bool × List Nat)} (hf : formB r c xs.length = false) : Ctr Try.prog 50 [isM r c xs] (isTup [isM0, isM0, isI 2]) := by
  refine Ctr.intro Try.func50 rfl (by kernel_rfl) Try.ntmps50 rfl fun w0 F0 => ?_
  refine Tri.cv (Cv.wk (.cons (t := 0) (Has.t rfl) .nil)) ?_
  refine Tri.seq fun K1 hK1 => ?_
  refine Tri.region ?_
  refine Ops.box (Has.t rfl) rfl fun b1 => ?_
  refine Ops.alloc [isI 0, isI 0, SlK 2 zc ([] : List (Bool × List Nat))] zero63 (fun _ _ => ⟨⟨rfl, by decide, by decide⟩, ⟨rfl, by decide, by decide⟩, nilK, trivial⟩) rfl fun b2 => ?_
  refine Ops.alloc [isI 0, isI 0, SlK 2 zc ([] : List (Bool × List Nat))] zero63 (fun _ _ => ⟨⟨rfl, by decide, by decide⟩, ⟨rfl, by decide, by decide⟩, nilK, trivial⟩) rfl fun b3 => ?_
  refine st (OK1.as (Has.cI 0 rfl)) rfl ?_
  refine nl ?_
  refine At.thn (hK1 _ _ ?_); clear hK1
  refine Tri.seq fun K2 hK2 => ?_
  refine Tri.seq fun K3 hK3 => ?_
  refine Tri.region ?_
  refine st (OK1.load (Has.t rfl) (i := 2) rfl ty63 rfl (Ss' := [_, _, _]) rfl) rfl ?_
  refine st (OK1.eq (OK1.call (zmat_Formed) (.cons (Has.t rfl) .nil)) ((show isB _ = isB false from isB_eq hf))) rfl ?_
  refine st (OK1.not (Has.t rfl)) rfl ?_
  refine nl ?_
  refine At.thn (hK3 _ _ ?_); clear hK3
  refine Tri.cond (Has.t rfl) (fun hc1 => ?_) (fun hc1 => ?_)
  · have hc1 := BP.t hc1
    refine Tri.seq fun K4 hK4 => ?_
    refine Tri.region ?_
    refine st (OK1.build [isI 0, isI 0, SlK 2 zc ([] : List (Bool × List Nat))] pl63 zero63 (fun _ _ => ⟨⟨rfl, by decide, by decide⟩, ⟨rfl, by decide, by decide⟩, nilK, trivial⟩) .nil (Z'' := [_, _, _]) rfl) rfl ?_
    refine st (OK1.build [isI 0, isI 0, SlK 2 zc ([] : List (Bool × List Nat))] pl63 zero63 (fun _ _ => ⟨⟨rfl, by decide, by decide⟩, ⟨rfl, by decide, by decide⟩, nilK, trivial⟩) .nil (Z'' := [_, _, _]) rfl) rfl ?_
    refine Ops.store (Has.t rfl) (Has.t rfl) (i := 1) rfl ty63 rfl rfl (Ss' := [_, _, _]) rfl (M' := [_, (some _, cellM [_, _, _]), _]) rfl ?_
    refine Ops.store (Has.t rfl) (Has.t rfl) (i := 0) rfl ty63 rfl rfl (Ss' := [_, _, _]) rfl (M' := [(some _, cellM [_, _, _]), _, _]) rfl ?_
    refine st (OK1.as (Has.cI 2 rfl)) rfl ?_
    refine nl ?_
    refine At.thn (hK4 _ _ ?_); clear hK4
    refine Tri.cv (Cv.wk (.cons (t := 1) (Has.t rfl) (.cons (t := 2) (Has.t rfl) (.cons (t := 3) (Has.t rfl) (.cons (t := 4) (Has.t rfl) .nil))))) ?_
    refine Tri.ret ?_
    refine At.thr ?_
    refine rtN (.inl rfl) Try.results50 rfl rfl (.cell rfl (i := 1) rfl ty63 rfl ?_ (.cell rfl (i := 0) rfl ty63 rfl ?_ (.tmp (Has.t' rfl ?_) .nil)))
    all_goals (rfl)
  · have hc1 := BP.f hc1
    exfalso; simp at hc1
end Go.Proofs.Ytiieaohnpnojmaa
/- Contracts: layer 14's laws: what a program that does nothing does not answer. -/
namespace Go.Proofs.Ytiieaohnpnojmaa
open Go.En Go.RowKit
set_option linter.unusedVariables false
set_option maxRecDepth 10000
open Go.Nt
open Go.Pz
open Go.Mz
open Go.Hn
open Go.Hp
open Go.Dt
theorem aw14_b : Bd [4, 6] 1 := bd64 (by decide)
theorem aw14_tab : tab (2 * 1) 1 (fun i k => cf [4, 6] (i * 1 + k)) = [4, 6] := by decide
theorem aw14_2 : (List.length (words (2 : Int).natAbs)) ≤ 1 := nw_small' (by decide)
set_option maxHeartbeats 4000000 in
theorem law14_awake  : Ctr Try.prog 48 [] (isB true) := by
  refine Ctr.intro Try.func48 rfl (by kernel_rfl) Try.ntmps48 rfl fun w0 F0 => ?_
  refine Tri.cv (Cv.wk .nil) ?_
  have h2 := aw14_2
  refine Tri.seq fun K1 hK1 => ?_
  refine Tri.region ?_
  refine st (OK1.as (Has.cB false)) rfl ?_
  refine nl ?_
  refine At.thn (hK1 _ _ ?_); clear hK1
  refine Tri.seq fun K2 hK2 => ?_
  refine Tri.region ?_
  refine st (OK1.buildS [isI 0, isI 0] sl172 ty2 zero2 (fun _ _ => ⟨⟨rfl, by decide, by decide⟩, ⟨rfl, by decide, by decide⟩, trivial⟩) rfl rfl (.cons (Has.cI 4 rfl) rfl rfl rfl (.cons (Has.cI 6 rfl) rfl rfl rfl .nil)) rfl (S := SlM isI [_, _]) rfl) rfl ?_
  refine st (OK1.eq (OK1.call (zmat_Of (R := 2) (C := 1) (l := [4, 6]) (by decide) (by decide) rfl (by decide)) (.cons (Has.cI 2 rfl) (.cons (Has.cI 1 rfl) (.cons (Has.t rfl) .nil)))) ((show isTup [isMz 2 1 _, isI 0] = isTup [isMz 2 1 [4, 6], isI 0] from by rw [aw14_tab]))) rfl ?_
  refine st (OK1.mv (Has.t rfl)) rfl ?_
  refine st (OK1.ext (Has.t rfl) rfl) rfl ?_
  refine st (OK1.ext (Has.t rfl) rfl) rfl ?_
  refine Ops.alloc [isI 0, isI 0, nilS] zero63 (fun _ _ => ⟨⟨rfl, by decide, by decide⟩, ⟨rfl, by decide, by decide⟩, rfl, trivial⟩) rfl fun b1 => ?_
  refine Ops.store (Has.t rfl) (Has.t rfl) (i := 0) rfl ty63 rfl rfl (Ss' := [_, _, _]) rfl (M' := [(some _, cellM [_, _, _])]) rfl ?_
  refine st (OK1.as (Has.t rfl)) rfl ?_
  refine nl ?_
  refine At.thn (hK2 _ _ ?_); clear hK2
  refine Tri.cv (Cv.wk (.cons (t := 0) (Has.t rfl) (.cons (t := 1) (Has.t rfl) .nil))) ?_
  refine Tri.seq fun K3 hK3 => ?_
  refine Tri.region ?_
  refine st (OK1.load (Has.t rfl) (i := 0) rfl ty63 rfl (Ss' := [_, _, _]) rfl) rfl ?_
  refine st (OK1.eq (OK1.call (hnf_Hermite (R := 2) (C := 1) (K := 1) (xs := [4, 6].map nz) (by rw [vals_nz]; exact aw14_b) (by decide) (by decide) (by decide) rfl) (.cons (Has.t rfl) .nil)) ((show _ = isTup [isMz 2 1 (hL 2 1 [4, 6]), isMz 2 2 (uL 2 1 [4, 6]), isI 0] from by rw [vals_nz]; rfl))) rfl ?_
  refine st (OK1.mv (Has.t rfl)) rfl ?_
  refine st (OK1.ext (Has.t rfl) rfl) rfl ?_
  refine st (OK1.ext (Has.t rfl) rfl) rfl ?_
  refine st (OK1.ext (Has.t rfl) rfl) rfl ?_
  refine Ops.alloc [isI 0, isI 0, nilS] zero63 (fun _ _ => ⟨⟨rfl, by decide, by decide⟩, ⟨rfl, by decide, by decide⟩, rfl, trivial⟩) rfl fun b2 => ?_
  refine Ops.alloc [isI 0, isI 0, nilS] zero63 (fun _ _ => ⟨⟨rfl, by decide, by decide⟩, ⟨rfl, by decide, by decide⟩, rfl, trivial⟩) rfl fun b3 => ?_
  refine Ops.store (Has.t rfl) (Has.t rfl) (i := 1) rfl ty63 rfl rfl (Ss' := [_, _, _]) rfl (M' := [_, (some _, cellM [_, _, _]), _]) rfl ?_
  refine Ops.store (Has.t rfl) (Has.t rfl) (i := 0) rfl ty63 rfl rfl (Ss' := [_, _, _]) rfl (M' := [(some _, cellM [_, _, _]), _, _]) rfl ?_
  refine st (OK1.as (Has.t rfl)) rfl ?_
  refine nl ?_
  refine At.thn (hK3 _ _ ?_); clear hK3
  refine Tri.cv (Cv.wk (.cons (t := 0) (Has.t rfl) (.cons (t := 3) (Has.t rfl) (.cons (t := 5) (Has.t rfl) .nil)))) ?_
  refine Tri.seq fun K4 hK4 => ?_
  refine Tri.region ?_
  refine st (OK1.mv (Has.t rfl)) rfl ?_
  refine st (OK1.eqI (Has.t rfl) (Has.cI 0 rfl)) rfl ?_
  refine st (OK1.mv (Has.t rfl)) rfl ?_
  refine stT rfl rfl (fun hg => have hg' := BP.t hg; OK1.fieldAddr (Has.t rfl) fld63_0 ty3) rfl ?_
  refine stT rfl rfl (fun hg => have hg' := BP.t hg; OK1.load1 (Has.g rfl hg) (i := 1) rfl ty3 rfl) rfl ?_
  refine stT rfl rfl (fun hg => have hg' := BP.t hg; OK1.eqI (Has.g rfl hg) (Has.cI 2 rfl)) rfl ?_
  refine st (OK1.pickAnd (Has.t rfl) (fun h => Has.g rfl h)) rfl ?_
  refine st (OK1.mv (Has.t rfl)) rfl ?_
  refine stT rfl rfl (fun hg => have hg' := BP.t hg; OK1.load (Has.t rfl) (i := 1) rfl ty63 rfl (Ss' := [_, _, _]) rfl) rfl ?_
  refine stT rfl rfl (fun hg => have hg' := BP.t hg; OK1.eq (OK1.call (zmat_At (R := 2) (C := 1) (i := 0) (k := 0) (K := 20) (xs := (hL 2 1 [4, 6]).map nz) (by rw [vals_nz]; exact (hL_bd aw14_b).mono (by decide)) (by decide) (by decide) (by decide) (by rw [List.length_map, hL_len aw14_b]) (by decide) (by decide)) (.cons (Has.g rfl hg) (.cons (Has.cI 0 rfl) (.cons (Has.cI 0 rfl) .nil)))) ((show _ = isZ 2 from isZ_eq (by rw [vals_nz]; exact aw14)))) rfl ?_
  refine stT rfl rfl (fun hg => have hg' := BP.t hg; OK1.call (zint_Of) (.cons (Has.cI 2 rfl) .nil)) rfl ?_
  refine stT rfl rfl (fun hg => have hg' := BP.t hg; OK1.eq (OK1.call (zint_Same (by rw [val_words]; omega) (by rw [val_words]; omega)) (.cons (Has.g rfl hg) (.cons (Has.g rfl hg) .nil))) ((show isB _ = isB true from isB_eq (decide_eq_true (by first | rfl | simp only [zv_nf]))))) rfl ?_
  refine st (OK1.pickAnd (Has.t rfl) (fun h => Has.g rfl h)) rfl ?_
  refine st (OK1.mv (Has.t rfl)) rfl ?_
  refine stT rfl rfl (fun hg => have hg' := BP.t hg; OK1.load (Has.t rfl) (i := 1) rfl ty63 rfl (Ss' := [_, _, _]) rfl) rfl ?_
  refine stT rfl rfl (fun hg => have hg' := BP.t hg; OK1.eq (OK1.call (zmat_At (R := 2) (C := 1) (i := 0) (k := 0) (K := 20) (xs := (hL 2 1 [4, 6]).map nz) (by rw [vals_nz]; exact (hL_bd aw14_b).mono (by decide)) (by decide) (by decide) (by decide) (by rw [List.length_map, hL_len aw14_b]) (by decide) (by decide)) (.cons (Has.g rfl hg) (.cons (Has.cI 0 rfl) (.cons (Has.cI 0 rfl) .nil)))) ((show _ = isZ 2 from isZ_eq (by rw [vals_nz]; exact aw14)))) rfl ?_
  refine stT rfl rfl (fun hg => have hg' := BP.t hg; OK1.eq (OK1.call (zint_Sign (by rw [val_words]; omega)) (.cons (Has.g rfl hg) .nil)) ((show isI _ = isI 1 from isI_eq (by rw [zv_nf]; rfl)))) rfl ?_
  refine stT rfl rfl (fun hg => have hg' := BP.t hg; OK1.eqI (Has.g rfl hg) (Has.cI 1 rfl)) rfl ?_
  refine st (OK1.pickAnd (Has.t rfl) (fun h => Has.g rfl h)) rfl ?_
  refine st (OK1.as (Has.t rfl)) rfl ?_
  refine nl ?_
  refine At.thn (hK4 _ _ ?_); clear hK4
  refine Tri.cv (Cv.wk (.cons (t := 0) (Has.t rfl) .nil)) ?_
  refine Tri.ret ?_
  refine rt1 (.inl rfl) Try.results48 rfl (.tmp (Has.t' rfl ?_) .nil)
  all_goals (rfl)
end Go.Proofs.Ytiieaohnpnojmaa
/- Contracts: layer 14's laws: forms. -/
namespace Go.Proofs.Ytiieaohnpnojmaa
open Go.En Go.RowKit
set_option linter.unusedVariables false
set_option maxRecDepth 10000
open Go.Nt
open Go.Pz
open Go.Mz
open Go.Hn
open Go.Hp
open Go.Dt
set_option maxHeartbeats 4000000 in
theorem c_HnfForms_bad (r c : Int) (xs : List (Bool × List Nat)) (hf : formB r c xs.length = false) : Ctr Try.prog 9 [isM r c xs] (isB true) := by
  refine Ctr.intro Try.func9 rfl (by kernel_rfl) Try.ntmps9 rfl fun w0 F0 => ?_
  refine Tri.cv (Cv.wk (.cons (t := 0) (Has.t rfl) .nil)) ?_
  refine Tri.seq fun K1 hK1 => ?_
  refine Tri.region ?_
  refine Ops.box (Has.t rfl) rfl fun b1 => ?_
  refine st (OK1.as (Has.cB false)) rfl ?_
  refine nl ?_
  refine At.thn (hK1 _ _ ?_); clear hK1
  refine Tri.seq fun K2 hK2 => ?_
  refine Tri.seq fun K3 hK3 => ?_
  refine Tri.region ?_
  refine st (OK1.call (law14_awake) .nil) rfl ?_
  refine st (OK1.not (Has.t rfl)) rfl ?_
  refine st (OK1.mv (Has.t rfl)) rfl ?_
  refine stF rfl rfl (fun hg => have hg' := BP.t hg; OK1.load (Has.t rfl) (i := 0) rfl ty63 rfl (Ss' := [_, _, _]) rfl) rfl ?_
  refine stF rfl rfl (fun hg => have hg' := BP.t hg; OK1.call (ref11_Few) (.cons (Has.g rfl hg) (.cons (Has.cI 5 rfl) (.cons (Has.cI 1 rfl) .nil)))) rfl ?_
  refine stF rfl rfl (fun hg => have hg' := BP.t hg; OK1.not (Has.g rfl hg)) rfl ?_
  refine st (OK1.pickOr (Has.t rfl) (fun h => Has.g rfl (ng h))) rfl ?_
  refine st (OK1.mv (Has.t rfl)) rfl ?_
  refine stF rfl rfl (fun hg => have hg' := BP.t hg; OK1.fieldAddr (Has.t rfl) fld63_0 ty3) rfl ?_
  refine stF rfl rfl (fun hg => have hg' := BP.t hg; OK1.load1 (Has.g rfl hg) (i := 0) rfl ty3 rfl) rfl ?_
  refine stF rfl rfl (fun hg => have hg' := BP.t hg; OK1.gtI (Has.g rfl hg) (Has.cI 4 rfl)) rfl ?_
  refine st (OK1.pickOr (Has.t rfl) (fun h => Has.g rfl (ng h))) rfl ?_
  refine nl ?_
  refine At.thn (hK3 _ _ ?_); clear hK3
  refine Tri.cv (Cv.wk (.cons (t := 1) (Has.t rfl) (.cons (t := 2) (Has.t rfl) (.cons (t := 17) (Has.t rfl) .nil)))) ?_
  refine Tri.cond (Has.t rfl) (fun hc1 => ?_) (fun hc1 => ?_)
  · have hc1 := BP.t hc1
    refine Tri.seq fun K4 hK4 => ?_
    refine Tri.region ?_
    refine st (OK1.call (law14_awake) .nil) rfl ?_
    refine st (OK1.as (Has.t rfl)) rfl ?_
    refine nl ?_
    refine At.thn (hK4 _ _ ?_); clear hK4
    refine Tri.ret ?_
    refine At.thr ?_
    refine rt1 (.inl rfl) Try.results9 rfl (.tmp (Has.t' rfl ?_) .nil)
    all_goals (rfl)
  · have hc1 := BP.f hc1
    refine Tri.skip ?_
    refine At.thn (hK2 _ _ ?_); clear hK2
    refine Tri.seq fun K5 hK5 => ?_
    refine Tri.region ?_
    refine st (OK1.load (Has.t rfl) (i := 0) rfl ty63 rfl (Ss' := [_, _, _]) rfl) rfl ?_
    refine st (OK1.call (hnf_Hermite_bad hf) (.cons (Has.t rfl) .nil)) rfl ?_
    refine st (OK1.mv (Has.t rfl)) rfl ?_
    refine st (OK1.ext (Has.t rfl) rfl) rfl ?_
    refine st (OK1.ext (Has.t rfl) rfl) rfl ?_
    refine st (OK1.ext (Has.t rfl) rfl) rfl ?_
    refine Ops.alloc [isI 0, isI 0, nilS] zero63 (fun _ _ => ⟨⟨rfl, by decide, by decide⟩, ⟨rfl, by decide, by decide⟩, rfl, trivial⟩) rfl fun b2 => ?_
    refine Ops.alloc [isI 0, isI 0, nilS] zero63 (fun _ _ => ⟨⟨rfl, by decide, by decide⟩, ⟨rfl, by decide, by decide⟩, rfl, trivial⟩) rfl fun b3 => ?_
    refine Ops.store (Has.t rfl) (Has.t rfl) (i := 1) rfl ty63 rfl rfl (Ss' := [_, _, _]) rfl (M' := [_, (some _, cellM [_, _, _]), _]) rfl ?_
    refine Ops.store (Has.t rfl) (Has.t rfl) (i := 0) rfl ty63 rfl rfl (Ss' := [_, _, _]) rfl (M' := [(some _, cellM [_, _, _]), _, _]) rfl ?_
    refine st (OK1.as (Has.t rfl)) rfl ?_
    refine nl ?_
    refine At.thn (hK5 _ _ ?_); clear hK5
    refine Tri.cv (Cv.wk (.cons (t := 1) (Has.t rfl) (.cons (t := 2) (Has.t rfl) (.cons (t := 3) (Has.t rfl) (.cons (t := 4) (Has.t rfl) (.cons (t := 5) (Has.t rfl) .nil)))))) ?_
    refine Tri.seq fun K6 hK6 => ?_
    refine Tri.seq fun K7 hK7 => ?_
    refine Tri.region ?_
    refine st (OK1.load (Has.t rfl) (i := 2) rfl ty63 rfl (Ss' := [_, _, _]) rfl) rfl ?_
    refine st (OK1.eq (OK1.call (ref11_Formed) (.cons (Has.t rfl) .nil)) ((show isB _ = isB false from isB_eq hf))) rfl ?_
    refine st (OK1.not (Has.t rfl)) rfl ?_
    refine nl ?_
    refine At.thn (hK7 _ _ ?_); clear hK7
    refine Tri.cond (Has.t rfl) (fun hc2 => ?_) (fun hc2 => ?_)
    · have hc2 := BP.t hc2
      refine Tri.seq fun K8 hK8 => ?_
      refine Tri.region ?_
      refine st (OK1.mv (Has.t rfl)) rfl ?_
      refine st (OK1.eqI (Has.t rfl) (Has.cI 2 rfl)) rfl ?_
      refine st (OK1.mv (Has.t rfl)) rfl ?_
      refine stT rfl rfl (fun hg => have hg' := BP.t hg; OK1.load (Has.t rfl) (i := 1) rfl ty63 rfl (Ss' := [_, _, _]) rfl) rfl ?_
      refine stT rfl rfl (fun hg => have hg' := BP.t hg; OK1.call (ref11_None (r := 0) (c := 0) (xs := [])) (.cons (Has.g rfl hg) .nil)) rfl ?_
      refine st (OK1.pickAnd (Has.t rfl) (fun h => Has.g rfl h)) rfl ?_
      refine st (OK1.mv (Has.t rfl)) rfl ?_
      refine stT rfl rfl (fun hg => have hg' := BP.t hg; OK1.load (Has.t rfl) (i := 0) rfl ty63 rfl (Ss' := [_, _, _]) rfl) rfl ?_
      refine stT rfl rfl (fun hg => have hg' := BP.t hg; OK1.call (ref11_None (r := 0) (c := 0) (xs := [])) (.cons (Has.g rfl hg) .nil)) rfl ?_
      refine st (OK1.pickAnd (Has.t rfl) (fun h => Has.g rfl h)) rfl ?_
      refine st (OK1.as (Has.t rfl)) rfl ?_
      refine nl ?_
      refine At.thn (hK8 _ _ ?_); clear hK8
      refine Tri.cv (Cv.wk (.cons (t := 1) (Has.t rfl) (.cons (t := 2) (Has.t rfl) (.cons (t := 3) (Has.t rfl) (.cons (t := 4) (Has.t rfl) (.cons (t := 5) (Has.t rfl) .nil)))))) ?_
      refine Tri.ret ?_
      refine At.thr ?_
      refine rt1 (.inl rfl) Try.results9 rfl (.tmp (Has.t' rfl ?_) .nil)
      all_goals (rfl)
    · have hc2 := BP.f hc2
      exfalso; simp at hc2
set_option maxHeartbeats 4000000 in
theorem c_HnfForms_ok (R C : Nat) (xs : List (Bool × List Nat)) (hR : R ≤ 64) (hC : C ≤ 64) (hl : xs.length = R * C) : Ctr Try.prog 9 [isM (R : Int) (C : Int) xs] (isB true) := by
  refine Ctr.intro Try.func9 rfl (by kernel_rfl) Try.ntmps9 rfl fun w0 F0 => ?_
  refine Tri.cv (Cv.wk (.cons (t := 0) (Has.t rfl) .nil)) ?_
  refine Tri.fact (Has.okM (Has.t (t := 0) rfl)) fun okp0 => ?_
  have hfo := formB_true hR hC hl
  refine Tri.seq fun K1 hK1 => ?_
  refine Tri.region ?_
  refine Ops.box (Has.t rfl) rfl fun b1 => ?_
  refine st (OK1.as (Has.cB false)) rfl ?_
  refine nl ?_
  refine At.thn (hK1 _ _ ?_); clear hK1
  refine Tri.seq fun K2 hK2 => ?_
  refine Tri.seq fun K3 hK3 => ?_
  refine Tri.region ?_
  refine st (OK1.call (law14_awake) .nil) rfl ?_
  refine st (OK1.not (Has.t rfl)) rfl ?_
  refine st (OK1.mv (Has.t rfl)) rfl ?_
  refine stF rfl rfl (fun hg => have hg' := BP.t hg; OK1.load (Has.t rfl) (i := 0) rfl ty63 rfl (Ss' := [_, _, _]) rfl) rfl ?_
  refine stF rfl rfl (fun hg => have hg' := BP.t hg; OK1.call (ref11_Few) (.cons (Has.g rfl hg) (.cons (Has.cI 5 rfl) (.cons (Has.cI 1 rfl) .nil)))) rfl ?_
  refine stF rfl rfl (fun hg => have hg' := BP.t hg; OK1.not (Has.g rfl hg)) rfl ?_
  refine st (OK1.pickOr (Has.t rfl) (fun h => Has.g rfl (ng h))) rfl ?_
  refine st (OK1.mv (Has.t rfl)) rfl ?_
  refine stF rfl rfl (fun hg => have hg' := BP.t hg; OK1.fieldAddr (Has.t rfl) fld63_0 ty3) rfl ?_
  refine stF rfl rfl (fun hg => have hg' := BP.t hg; OK1.load1 (Has.g rfl hg) (i := 0) rfl ty3 rfl) rfl ?_
  refine stF rfl rfl (fun hg => have hg' := BP.t hg; OK1.gtI (Has.g rfl hg) (Has.cI 4 rfl)) rfl ?_
  refine st (OK1.pickOr (Has.t rfl) (fun h => Has.g rfl (ng h))) rfl ?_
  refine nl ?_
  refine At.thn (hK3 _ _ ?_); clear hK3
  refine Tri.cv (Cv.wk (.cons (t := 1) (Has.t rfl) (.cons (t := 2) (Has.t rfl) (.cons (t := 17) (Has.t rfl) .nil)))) ?_
  refine Tri.cond (Has.t rfl) (fun hc1 => ?_) (fun hc1 => ?_)
  · have hc1 := BP.t hc1
    skip
    refine Tri.seq fun K4 hK4 => ?_
    refine Tri.region ?_
    refine st (OK1.call (law14_awake) .nil) rfl ?_
    refine st (OK1.as (Has.t rfl)) rfl ?_
    refine nl ?_
    refine At.thn (hK4 _ _ ?_); clear hK4
    refine Tri.ret ?_
    refine At.thr ?_
    refine rt1 (.inl rfl) Try.results9 rfl (.tmp (Has.t' rfl ?_) .nil)
    all_goals (rfl)
  · have hc1 := BP.f hc1
    have HF0 : ((R : Int) ≤ 5 ∧ (C : Int) ≤ 5) ∧ fewB xs 100 1 = true := (by simpa [and_assoc] using hc1.1)
    have hR4 : R ≤ 4 := (by have := hc1.2; omega)
    obtain ⟨⟨_, hC5⟩, HF⟩ := HF0
    obtain ⟨hl0, hb⟩ := fewB_bd (N := 100) (K := 1) okp0 HF rfl rfl (by decide)
    have hpw : (1 + 4) * (R + 2) ^ C ≤ 38880 := by
      have h1 := Nat.pow_le_pow_left (show R + 2 ≤ 6 by omega) C
      have h2 := Nat.pow_le_pow_right (show 0 < 6 by decide) (show C ≤ 5 by omega)
      have h3 : 6 ^ 5 = 7776 := by decide
      omega
    have hLl := hL_len (R := R) (C := C) hb
    have hLb := (hL_bd (R := R) (C := C) hb).mono hpw
    have uLl := uL_len (R := R) (C := C) hb
    have uLb := (uL_bd (R := R) (C := C) hb).mono hpw
    obtain ⟨Hl, hHl⟩ : ∃ Hl, Hl = hL R C (vals xs) := ⟨_, rfl⟩
    obtain ⟨Ul, hUl⟩ : ∃ Ul, Ul = uL R C (vals xs) := ⟨_, rfl⟩
    rw [← hHl] at hLl hLb
    rw [← hUl] at uLl uLb
    have hRC := side_le hR hC
    have hRR := side_le hR hR
    have hfH := formB_true hR hC hLl
    have hfU := formB_true hR hR uLl
    refine Tri.skip ?_
    refine At.thn (hK2 _ _ ?_); clear hK2
    refine Tri.seq fun K5 hK5 => ?_
    refine Tri.region ?_
    refine st (OK1.load (Has.t rfl) (i := 0) rfl ty63 rfl (Ss' := [_, _, _]) rfl) rfl ?_
    refine st (OK1.eq (OK1.call (hnf_Hermite hb (by omega) hR hC hl) (.cons (Has.t rfl) .nil)) ((show _ = isTup [isMz R C Hl, isMz R R Ul, isI 0] from by rw [hHl, hUl]; rfl))) rfl ?_
    refine st (OK1.mv (Has.t rfl)) rfl ?_
    refine st (OK1.ext (Has.t rfl) rfl) rfl ?_
    refine st (OK1.ext (Has.t rfl) rfl) rfl ?_
    refine st (OK1.ext (Has.t rfl) rfl) rfl ?_
    refine Ops.alloc [isI 0, isI 0, nilS] zero63 (fun _ _ => ⟨⟨rfl, by decide, by decide⟩, ⟨rfl, by decide, by decide⟩, rfl, trivial⟩) rfl fun b2 => ?_
    refine Ops.alloc [isI 0, isI 0, nilS] zero63 (fun _ _ => ⟨⟨rfl, by decide, by decide⟩, ⟨rfl, by decide, by decide⟩, rfl, trivial⟩) rfl fun b3 => ?_
    refine Ops.store (Has.t rfl) (Has.t rfl) (i := 1) rfl ty63 rfl rfl (Ss' := [_, _, _]) rfl (M' := [_, (some _, cellM [_, _, _]), _]) rfl ?_
    refine Ops.store (Has.t rfl) (Has.t rfl) (i := 0) rfl ty63 rfl rfl (Ss' := [_, _, _]) rfl (M' := [(some _, cellM [_, _, _]), _, _]) rfl ?_
    refine st (OK1.as (Has.t rfl)) rfl ?_
    refine nl ?_
    refine At.thn (hK5 _ _ ?_); clear hK5
    refine Tri.cv (Cv.wk (.cons (t := 1) (Has.t rfl) (.cons (t := 2) (Has.t rfl) (.cons (t := 3) (Has.t rfl) (.cons (t := 4) (Has.t rfl) (.cons (t := 5) (Has.t rfl) .nil)))))) ?_
    refine Tri.seq fun K6 hK6 => ?_
    refine Tri.seq fun K7 hK7 => ?_
    refine Tri.region ?_
    refine st (OK1.load (Has.t rfl) (i := 2) rfl ty63 rfl (Ss' := [_, _, _]) rfl) rfl ?_
    refine st (OK1.eq (OK1.call (ref11_Formed) (.cons (Has.t rfl) .nil)) ((show isB _ = isB true from isB_eq (hfo)))) rfl ?_
    refine st (OK1.not (Has.t rfl)) rfl ?_
    refine nl ?_
    refine At.thn (hK7 _ _ ?_); clear hK7
    refine Tri.cond (Has.t rfl) (fun hc2 => ?_) (fun hc2 => ?_)
    · have hc2 := BP.t hc2
      exfalso; simp at hc2
    · have hc2 := BP.f hc2
      skip
      refine Tri.skip ?_
      refine At.thn (hK6 _ _ ?_); clear hK6
      refine Tri.seq fun K8 hK8 => ?_
      refine Tri.seq fun K9 hK9 => ?_
      refine Tri.region ?_
      refine st (OK1.mv (Has.t rfl)) rfl ?_
      refine st (OK1.neI (Has.t rfl) (Has.cI 0 rfl)) rfl ?_
      refine st (OK1.mv (Has.t rfl)) rfl ?_
      refine stF rfl rfl (fun hg => have hg' := BP.t hg; OK1.load (Has.t rfl) (i := 1) rfl ty63 rfl (Ss' := [_, _, _]) rfl) rfl ?_
      refine stF rfl rfl (fun hg => have hg' := BP.t hg; OK1.eq (OK1.call (ref11_Normal hLb (by decide) (by omega)) (.cons (Has.g rfl hg) .nil)) ((show isB _ = isB true from isB_eq (hfH)))) rfl ?_
      refine stF rfl rfl (fun hg => have hg' := BP.t hg; OK1.not (Has.g rfl hg)) rfl ?_
      refine st (OK1.pickOr (Has.t rfl) (fun h => Has.g rfl (ng h))) rfl ?_
      refine st (OK1.mv (Has.t rfl)) rfl ?_
      refine stF rfl rfl (fun hg => have hg' := BP.t hg; OK1.fieldAddr (Has.t rfl) fld63_0 ty3) rfl ?_
      refine stF rfl rfl (fun hg => have hg' := BP.t hg; OK1.load1 (Has.g rfl hg) (i := 1) rfl ty3 rfl) rfl ?_
      refine stF rfl rfl (fun hg => have hg' := BP.t hg; OK1.fieldAddr (Has.t rfl) fld63_0 ty3) rfl ?_
      refine stF rfl rfl (fun hg => have hg' := BP.t hg; OK1.load1 (Has.g rfl hg) (i := 2) rfl ty3 rfl) rfl ?_
      refine stF rfl rfl (fun hg => have hg' := BP.t hg; OK1.neI (Has.g rfl hg) (Has.g rfl hg)) rfl ?_
      refine st (OK1.pickOr (Has.t rfl) (fun h => Has.g rfl (ng h))) rfl ?_
      refine st (OK1.mv (Has.t rfl)) rfl ?_
      refine stF rfl rfl (fun hg => have hg' := BP.t hg; OK1.fieldAddr (Has.t rfl) fld63_1 ty3) rfl ?_
      refine stF rfl rfl (fun hg => have hg' := BP.t hg; OK1.load1 (Has.g rfl hg) (i := 1) rfl ty3 rfl) rfl ?_
      refine stF rfl rfl (fun hg => have hg' := BP.t hg; OK1.fieldAddr (Has.t rfl) fld63_1 ty3) rfl ?_
      refine stF rfl rfl (fun hg => have hg' := BP.t hg; OK1.load1 (Has.g rfl hg) (i := 2) rfl ty3 rfl) rfl ?_
      refine stF rfl rfl (fun hg => have hg' := BP.t hg; OK1.neI (Has.g rfl hg) (Has.g rfl hg)) rfl ?_
      refine st (OK1.pickOr (Has.t rfl) (fun h => Has.g rfl (ng h))) rfl ?_
      refine st (OK1.mv (Has.t rfl)) rfl ?_
      refine stF rfl rfl (fun hg => have hg' := BP.t hg; OK1.load (Has.t rfl) (i := 1) rfl ty63 rfl (Ss' := [_, _, _]) rfl) rfl ?_
      refine stF rfl rfl (fun hg => have hg' := BP.t hg; OK1.eq (OK1.call (ref14_Is (K := 38880) (by rw [vals_nz]; exact hLb) (by decide) hR hC (by rw [List.length_map]; exact hLl)) (.cons (Has.g rfl hg) .nil)) ((show isB _ = isB true from isB_eq (by rw [vals_nz, hHl]; exact hermB_iff.2 (hL_form hb))))) rfl ?_
      refine stF rfl rfl (fun hg => have hg' := BP.t hg; OK1.not (Has.g rfl hg)) rfl ?_
      refine st (OK1.pickOr (Has.t rfl) (fun h => Has.g rfl (ng h))) rfl ?_
      refine st (OK1.mv (Has.t rfl)) rfl ?_
      refine stF rfl rfl (fun hg => have hg' := BP.t hg; OK1.load (Has.t rfl) (i := 0) rfl ty63 rfl (Ss' := [_, _, _]) rfl) rfl ?_
      refine stF rfl rfl (fun hg => have hg' := BP.t hg; OK1.eq (OK1.call (ref11_Normal uLb (by decide) (by omega)) (.cons (Has.g rfl hg) .nil)) ((show isB _ = isB true from isB_eq (hfU)))) rfl ?_
      refine stF rfl rfl (fun hg => have hg' := BP.t hg; OK1.not (Has.g rfl hg)) rfl ?_
      refine st (OK1.pickOr (Has.t rfl) (fun h => Has.g rfl (ng h))) rfl ?_
      refine st (OK1.mv (Has.t rfl)) rfl ?_
      refine stF rfl rfl (fun hg => have hg' := BP.t hg; OK1.fieldAddr (Has.t rfl) fld63_0 ty3) rfl ?_
      refine stF rfl rfl (fun hg => have hg' := BP.t hg; OK1.load1 (Has.g rfl hg) (i := 0) rfl ty3 rfl) rfl ?_
      refine stF rfl rfl (fun hg => have hg' := BP.t hg; OK1.fieldAddr (Has.t rfl) fld63_0 ty3) rfl ?_
      refine stF rfl rfl (fun hg => have hg' := BP.t hg; OK1.load1 (Has.g rfl hg) (i := 2) rfl ty3 rfl) rfl ?_
      refine stF rfl rfl (fun hg => have hg' := BP.t hg; OK1.neI (Has.g rfl hg) (Has.g rfl hg)) rfl ?_
      refine st (OK1.pickOr (Has.t rfl) (fun h => Has.g rfl (ng h))) rfl ?_
      refine st (OK1.mv (Has.t rfl)) rfl ?_
      refine stF rfl rfl (fun hg => have hg' := BP.t hg; OK1.load (Has.t rfl) (i := 0) rfl ty63 rfl (Ss' := [_, _, _]) rfl) rfl ?_
      refine stF rfl rfl (fun hg => have hg' := BP.t hg; OK1.call (ref14_Unimodular uLb (by decide) hR uLl (by rw [hUl]; exact uL_det hb)) (.cons (Has.g rfl hg) .nil)) rfl ?_
      refine stF rfl rfl (fun hg => have hg' := BP.t hg; OK1.not (Has.g rfl hg)) rfl ?_
      refine st (OK1.pickOr (Has.t rfl) (fun h => Has.g rfl (ng h))) rfl ?_
      refine nl ?_
      refine At.thn (hK9 _ _ ?_); clear hK9
      refine Tri.cv (Cv.wk (.cons (t := 1) (Has.t rfl) (.cons (t := 2) (Has.t rfl) (.cons (t := 3) (Has.t rfl) (.cons (t := 4) (Has.t rfl) (.cons (t := 80) (Has.t rfl) .nil)))))) ?_
      refine Tri.cond (Has.t rfl) (fun hc3 => ?_) (fun hc3 => ?_)
      · have hc3 := BP.t hc3
        exfalso; simp at hc3
      · have hc3 := BP.f hc3
        skip
        refine Tri.skip ?_
        refine At.thn (hK8 _ _ ?_); clear hK8
        refine Tri.seq fun K10 hK10 => ?_
        refine Tri.dr ?_
        refine DrG.st (i := 0) [] rfl rfl rfl (by kernel_rfl) (OKG.o rfl (OK1.load (Has.t rfl) (i := 1) rfl ty63 rfl (Ss' := [_, _, _]) rfl)) ?_
        refine DrG.st (i := 1) [] rfl rfl rfl (by kernel_rfl) (OKG.o rfl (OK1.fieldAddr (Has.t rfl) fld63_0 ty3)) ?_
        refine DrG.st (i := 2) [82] rfl rfl rfl (by kernel_rfl) (OKG.o rfl (OK1.load1 (Has.t rfl) (i := 2) rfl ty3 rfl)) ?_
        refine DrG.st (i := 3) [] rfl rfl rfl (by kernel_rfl) (OKG.o rfl (OK1.fieldAddr (Has.t rfl) fld63_1 ty3)) ?_
        refine DrG.st (i := 4) [84] rfl rfl rfl (by kernel_rfl) (OKG.o rfl (OK1.load1 (Has.t rfl) (i := 2) rfl ty3 rfl)) ?_
        refine DrG.st (i := 5) [] rfl rfl rfl (by kernel_rfl) (OKG.o rfl (OK1.load (Has.t rfl) (i := 0) rfl ty63 rfl (Ss' := [_, _, _]) rfl)) ?_
        refine DrG.st (i := 6) [] rfl rfl rfl (by kernel_rfl) (OKG.o rfl (OK1.load (Has.t rfl) (i := 2) rfl ty63 rfl (Ss' := [_, _, _]) rfl)) ?_
        refine DrG.st (i := 7) [86, 87] rfl rfl rfl (by kernel_rfl) (OKG.o rfl (OK1.eq (OK1.call (ref11_Mul (K := 38880) (N := 1) (by rw [vals_nz]; exact uLb) hb (by decide) hR hR hC (by rw [List.length_map]; exact uLl) hl) (.cons (Has.t rfl) (.cons (Has.t rfl) .nil))) ((show _ = isP (tab (R * C) C fun i k => dotS (fun j => cf Ul (i * R + j)) (fun j => cf (vals xs) (j * C + k)) R) from isPl_eq (by rw [vals_nz]))))) ?_
        refine DrG.fin (n := 8) mixed (by kernel_rfl) (by kernel_rfl) (by kernel_rfl) ?_
        refine Ops.cv (Cv.wk (.cons (t := 2) (Has.t rfl) (.cons (t := 81) (Has.t rfl) (.cons (t := 83) (Has.t rfl) (.cons (t := 85) (Has.t rfl) (.cons (t := 88) (Has.t rfl) .nil)))))) ?_
        refine st (OK1.call (ref11_Is (K := 38880) (N := 38990) hLb (by rw [vals_nz]; exact (Bd_tab fun i k => dotS_nw (K := 38880) (L := 1) (fun _ => uLb _) (fun _ => hb _) R).mono (by omega)) (by decide) (by decide) hR hC hLl (by rw [List.length_map, tab_len]) (fun j hj => by rw [vals_nz, hHl, hUl]; exact hL_mul hb hj)) (.cons (Has.t rfl) (.cons (Has.t rfl) (.cons (Has.t rfl) (.cons (Has.t rfl) .nil))))) rfl ?_
        refine st (OK1.as (Has.t rfl)) rfl ?_
        refine nl ?_
        refine At.thn (hK10 _ _ ?_); clear hK10
        refine Tri.cv (Cv.wk (.cons (t := 2) (Has.t rfl) .nil)) ?_
        refine Tri.ret ?_
        refine rt1 (.inl rfl) Try.results9 rfl (.tmp (Has.t' rfl ?_) .nil)
        all_goals (rfl)
theorem c_HnfForms (r c : Int) (xs : List (Bool × List Nat)) : Ctr Try.prog 9 [isM r c xs] (isB true) := by
  cases h : formB r c xs.length with
  | true =>
    obtain ⟨R, C, rfl, rfl, h1, h2, h3⟩ := formB_iff.1 h
    exact c_HnfForms_ok R C xs h1 h2 h3
  | false => exact c_HnfForms_bad r c xs h
end Go.Proofs.Ytiieaohnpnojmaa
/- Slices of whole numbers that a law is handed. -/
namespace Go.En
open Go.RowKit Go.ChangeShapes Go.WideShapes Go.ChangeAt
set_option linter.unusedVariables false
theorem pair_get {α β : Type} (g h : α → β) : ∀ (l : List α) (j : Nat), (l.flatMap fun a => [g a, h a])[j]? = (l[j / 2]?).map (fun a => if j % 2 = 0 then g a else h a)
  | [], j => by simp
  | a :: l, 0 => by simp
  | a :: l, 1 => by simp
  | a :: l, j + 2 => by
    have := pair_get g h l j
    rw [show (j + 2) / 2 = j / 2 + 1 by omega, show (j + 2) % 2 = j % 2 by omega]
    simpa using this
section
variable {H : Type} {enc : TypeId × Value → H} {P : Program}
end
end Go.En
/- Matrices of whole numbers that a law is handed. -/
namespace Go.En
open Go.RowKit Go.ChangeShapes Go.WideShapes Go.ChangeAt
set_option linter.unusedVariables false
section
variable {H : Type} {enc : TypeId × Value → H} {P : Program}
theorem rd_Zs {W : World} {T e tb ts T' : TypeId} {fuel : Nat} {cs : List Value} {x : DataW H × List MemPlace} (hT : P.underlying T = some (.slice e)) (hfs : fsB P e = some [(tb, 0), (ts, 1)]) (hub : P.underlying tb = some .bool) (hu : P.underlying ts = some (.slice T')) (hu' : P.underlying T' = some (.int .u64)) (hc : P.cellsOf T' = 1) (hcb : P.cellsOf tb = 1) (hcs : P.cellsOf ts = 1) (hce : P.cellsOf e = 2)
    (hf : DataW.trod enc P W 0 (fun _ => true) true fuel T cs = some x) (hps : ∀ y ∈ x.2, y.block < W.heap.size) : ∃ (v : Value) (xs : List (Bool × List Nat)), cs = [v] ∧ (isZs xs).h W (fun b => b < W.heap.size) v := by
  obtain ⟨d, ps⟩ := x
  obtain ⟨fs, hue, hsz, hget⟩ := fsB_spec hfs
  obtain ⟨f0, g0, rfl, e0⟩ := hget 0 tb 0 rfl
  obtain ⟨f1, g1, rfl, e1⟩ := hget 1 ts 1 rfl
  have hfs2 : fs = #[f0, f1] := by
    apply Array.ext'
    have hl : fs.toList.length = 2 := by simpa using hsz
    match hq : fs.toList, hl with
    | [p, q], _ =>
      have a0 : fs.toList[0]? = some f0 := by simpa using g0
      have a1 : fs.toList[1]? = some f1 := by simpa using g1
      rw [hq] at a0 a1
      simp at a0 a1
      rw [a0, a1]
  subst hfs2
  rcases Deep.open_slice_pairs hT hue hce e0 e1 hcb hcs hf with ⟨h1, _⟩ | ⟨a, len, cap, m, n, V0, V1, D0, D1, P0, P1, h1, _, hlc, hcm, hm, hx, hel⟩
  · exact ⟨_, [], h1, nilK⟩
  · simp only [if_true] at hm
    subst m
    have hps' : ∀ i, i < cap → ∀ y ∈ P1 i, y.block < W.heap.size := fun i hi y hy => hps y (by
      have := (Prod.mk.inj hx).2
      rw [this]
      exact List.mem_append_right _ (List.mem_flatMap.2 ⟨i, List.mem_range.2 hi, List.mem_append_right _ hy⟩))
    obtain ⟨l, hl, hgl⟩ := list_of_get (p := fun i (x : Bool × List Nat) => V0 i = .bool x.1 ∧ (isWords x.2).h W (fun b => b < W.heap.size) (V1 i)) len (fun i hi => by
      obtain ⟨_, _, q0, q1⟩ := hel i (by omega)
      obtain ⟨b, hb, _⟩ := DataW.trod_bool hub q0
      obtain ⟨v, ws, hv1, hw⟩ := rd_row hu hu' hc word_of q1 (hps' i (by omega))
      obtain rfl : V1 i = v := by simpa using hv1
      exact ⟨(b, ws), by simpa using hb, hw⟩)
    refine ⟨_, l, h1, some a, cap, by rw [hl], by rw [hl]; exact hlc, hcm, flat_len zc_len l, ?_⟩
    rcases Nat.eq_zero_or_pos len with h0 | h0
    · exact .inl (by omega)
    · have hc0 := (hel 0 (by omega)).1
      have hs : a.spot = none := by
        cases hsp : a.spot with
        | none => rfl
        | some s =>
          simp only [Addr.add, Nat.zero_mul, if_true] at hc0
          unfold World.cell? at hc0
          rw [hsp] at hc0
          split at hc0 <;> simp at hc0
      obtain ⟨b, off, sp⟩ := a
      simp only at hs
      subst hs
      right
      refine ⟨b, off, rfl, ?_, (List.range len).flatMap (fun i => [V0 i, V1 i]), ?_, fun j u hj => ?_⟩
      · have : MemPlace.cell b (off + 0) ∈ ps := by
          have := (Prod.mk.inj hx).2
          rw [this]
          exact List.mem_append_left _ (List.mem_map.2 ⟨0, by simp; omega, rfl⟩)
        exact hps _ this
      · have hlen2 : ((List.range len).flatMap fun i => [V0 i, V1 i]).length = len * 2 := by
          have := flat_len (fk := fun (i : Nat) => [isB true, isB true]) (k := 2) (fun _ => rfl) (List.range len)
          rw [List.length_flatMap] at this ⊢
          simpa using this
        refine all2_of_get (by rw [flat_len zc_len, hlen2, hl]) (fun j S v hS hv => ?_)
        have hz := pair_get (fun p : Bool × List Nat => isB p.1) (fun p => isWords p.2) l j
        rw [show (l.flatMap fun a => [isB a.1, isWords a.2]) = l.flatMap zc from rfl, hS] at hz
        have hw := pair_get V0 V1 (List.range len) j
        rw [hv] at hw
        have hj : j / 2 < l.length := by
          rcases Nat.lt_or_ge (j / 2) l.length with h | h
          · exact h
          · rw [List.getElem?_eq_none h] at hz; cases hz
        rw [List.getElem?_eq_getElem hj] at hz
        rw [List.getElem?_range (by omega)] at hw
        simp only [Option.map_some, Option.some.injEq] at hz hw
        obtain ⟨k1, k2⟩ := hgl (j / 2) hj
        subst hz; subst hw
        by_cases hp : j % 2 = 0
        · rw [if_pos hp, if_pos hp, k1]; rfl
        · rw [if_neg hp, if_neg hp]; exact k2
      · have hw := pair_get V0 V1 (List.range len) j
        rw [hj] at hw
        have hjl : j / 2 < len := by
          rcases Nat.lt_or_ge (j / 2) len with h | h
          · exact h
          · rw [List.getElem?_eq_none (by simpa using h)] at hw; cases hw
        rw [List.getElem?_range hjl] at hw
        simp only [Option.map_some, Option.some.injEq] at hw
        obtain ⟨q0, q1, _, _⟩ := hel (j / 2) (by omega)
        rw [add_mk] at q0
        rw [add_mk] at q1
        by_cases hp : j % 2 = 0
        · rw [if_pos hp] at hw; subst hw
          rw [show off + j = off + j / 2 * 2 by omega]; exact q0
        · rw [if_neg hp] at hw; subst hw
          rw [show off + j = off + (j / 2 * 2 + 1) by omega]; exact q1
/-- two sides and numbers -/
theorem open_M {W : World} {base : Nat} {T ti tm e tb ts T' : TypeId} {v : Value} {d : DataW H} {ps : List MemPlace} (hfM : fsB P T = some [(ti, 0), (ti, 1), (tm, 2)]) (hui : P.underlying ti = some (.int .i64)) (hT : P.underlying tm = some (.slice e)) (hfs : fsB P e = some [(tb, 0), (ts, 1)]) (hub : P.underlying tb = some .bool) (hu : P.underlying ts = some (.slice T')) (hu' : P.underlying T' = some (.int .u64)) (hc : P.cellsOf T' = 1) (hcb : P.cellsOf tb = 1) (hcs : P.cellsOf ts = 1) (hce : P.cellsOf e = 2)
    (hci : P.cellsOf ti = 1) (hcm : P.cellsOf tm = 1) (hcT : P.cellsOf T = 3) (hv : Value.okWide P W .any base T v) (h : DataW.Trod enc P W 0 (fun _ => true) true T v d ps) (hps : ∀ x ∈ ps, x.block < W.heap.size) : ∃ x : Int × Int × List (Bool × List Nat), (isM x.1 x.2.1 x.2.2).h W (fun b => b < W.heap.size) v := by
  obtain ⟨fs, huT, hsz, hget⟩ := fsB_spec hfM
  have hv' := hv
  simp only [Value.okWide, huT] at hv'
  obtain ⟨cs, rfl, _, _⟩ := hv'
  obtain ⟨fuel, hf⟩ := h
  obtain ⟨xs, m, _, hx, hl, hxl, hfe⟩ := DataW.trod_struct huT hf
  simp [Value.cells] at hl hx
  obtain ⟨f0, g0, rfl, e0⟩ := hget 0 ti 0 rfl
  obtain ⟨f1, g1, k1, e1⟩ := hget 1 _ 1 rfl
  obtain ⟨f2, g2, rfl, e2⟩ := hget 2 tm 2 rfl
  have h0 := hfe 0 f0 g0
  have h1 := hfe 1 f1 g1
  have h2 := hfe 2 f2 g2
  rw [List.getElem?_eq_getElem (by rw [hxl, hsz]; simp)] at h0 h1 h2
  rw [e0, hci] at h0
  rw [e1, k1, hci] at h1
  rw [e2, hcm] at h2
  obtain ⟨r, hr, hr1, hr2⟩ := rd_I hui h0
  obtain ⟨c, hc1, hc2, hc3⟩ := rd_I hui h1
  obtain ⟨u, ws, hu1, hw⟩ := rd_Zs hT hfs hub hu hu' hc hcb hcs hce h2 (fun y hy => hps y (by
    rw [hx.2]
    exact List.mem_flatMap.2 ⟨_, List.getElem_mem _, hy⟩))
  refine ⟨(r, c, ws), cs.toList, by simp, ?_⟩
  have hcs2 : cs.toList = [.int .i64 r, .int .i64 c, u] := by
    have hlen : cs.toList.length = 3 := by rw [← hcT]; simpa using hl
    match hq : cs.toList, hlen with
    | [p, q, t], _ =>
      have a1 : [p] = [Value.int .i64 r] := by have := hr; simpa [Value.cells, hq] using this
      have a2 : [q] = [Value.int .i64 c] := by have := hc1; simpa [Value.cells, hq] using this
      have a3 : [t] = [u] := by have := hu1; simpa [Value.cells, hq] using this
      rw [List.cons.inj a1 |>.1, List.cons.inj a2 |>.1, List.cons.inj a3 |>.1]
  rw [hcs2]
  exact ⟨⟨rfl, hr1, hr2⟩, ⟨rfl, hc2, hc3⟩, hw, trivial⟩
end
end Go.En
/- A law of layer 14, as it is stated. -/
namespace Go.Proofs.Ytiieaohnpnojmaa
open Go.En Go.RowKit
set_option linter.unusedVariables false
set_option maxRecDepth 10000
open Go.ChangeShapes
open Go.WideShapes
open Go.ChangeAt
open Go.Nt
open Go.Pz
open Go.Mz
theorem opens_HnfForms : Opens Try.prog Try.f9 9 := by
  intro H enc W base args ds ps hval hA hlt
  rw [Try.params9] at hA hval
  obtain ⟨v0, vs0, d0, ds0, p0, q0, hargs, rfl, rfl, h0, r0⟩ := trodAll_cons hA
  obtain ⟨rfl, rfl, rfl⟩ := trodAll_nil r0
  obtain rfl : args = #[v0] := by cases args; simp_all
  obtain ⟨x0, o0⟩ := open_M fs63 un3 un61 fs72 un4 un53 un27 (by kernel_rfl) (by kernel_rfl) (by kernel_rfl) (by kernel_rfl) (by kernel_rfl) (by kernel_rfl) (by kernel_rfl) (hval 0 63 v0 rfl rfl) h0 (fun x hx => hlt x (by simp [hx]))
  refine ⟨_, ?_, c_HnfForms x0.1 x0.2.1 x0.2.2⟩
  exact ⟨o0, trivial⟩
theorem hnfForms_said : Rows.HnfFormsSaid :=
  OpenClaim.holds_of_wide 9 Try.f9 rfl rfl rfl rfl rfl rfl rfl ⟨rfl, rfl, rfl, rfl, rfl⟩ rfl rfl rfl rfl rfl (by kernel_rfl) Try.func9 (by kernel_rfl)
    (of_decide_eq_true (by kernel_rfl)) (by unfold Func.isWrapper; first | (rw [if_pos (by decide +kernel)]; kernel_rfl) | (rw [if_neg (by decide +kernel)]; exact ⟨rfl, rfl⟩))
    (fun os started H enc _ => lift_law (C := Try.checked) (s := Rows.hnfFormsSpec) (by kernel_rfl) started (by kernel_rfl) Try.func9
      (ChangeSpec.witness6 (enc := enc) (C := Try.checked) false ⟨#[], #[.agg #[.int .i64 0, .int .i64 0, .slice none 0 0]], []⟩ 8 (by kernel_rfl) (by kernel_rfl) (by kernel_rfl) (by kernel_rfl))
      (by kernel_rfl) (by kernel_rfl) rfl rfl un4 (fun ds h => by match ds, h with | [d0], _ => rfl) opens_HnfForms)
#print axioms hnfForms_said
end Go.Proofs.Ytiieaohnpnojmaa
