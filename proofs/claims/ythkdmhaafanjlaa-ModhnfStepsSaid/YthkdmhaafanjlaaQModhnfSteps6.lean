/- The law ModhnfSteps, as it is stated, of the given program, for every input; no condition. -/
import Derived.Test.YthkdmhaafanjlaaQModhnfSteps5
import Derived.Deep.SlicePairs
import Derived.Test.YthkdmhaafanjlaaRows
namespace Go.Hp
open Go.Dt Go.Hn Go.Pz Go.Nt Go.Mz Go.En
theorem jns_keep0 {rs : List (List Int)} {t col W : Nat} (hrow : ∀ r ∈ rs, r.length = W) (ht : t < rs.length) : ∀ n, t + 1 + n ≤ rs.length → E (jns rs t col n) t col = 0 → jns rs t col n = rs
  | 0, _, _ => rfl
  | n + 1, hn, h0 => by
    have hl := jns_len rs t col n
    have hr := jns_row hrow ht (col := col) n
    have e1 : ((jns rs t col n).getD (t + 1 + n) []).length = ((jns rs t col n).getD t []).length := (all_getD hr (by omega)).trans (all_getD hr (by omega)).symm
    have ih := jns_keep0 hrow ht (col := col) n (by omega)
    revert h0
    show E (jn _ _ _ _) t col = 0 → jn _ _ _ _ = rs
    unfold jn
    split
    · exact ih
    · rename_i hg
      intro h0
      rw [E_set (by rw [List.length_set]; omega), E_set (by omega), if_neg (by omega), if_pos rfl, cf_mx2 e1, xg_bezout] at h0
      exact absurd h0 hg
def hq (R K : Nat) : Nat → Nat
 | 0 => K
 | t + 1 => hq R K t * (R + 1 - t)
theorem hq_mono {R K t u : Nat} (h : t ≤ u) (hu : u ≤ R) : hq R K t ≤ hq R K u := by
  induction u with
  | zero => rw [show t = 0 by omega]; exact Nat.le_refl _
  | succ u ih =>
    rcases Nat.lt_or_ge u t with g | g
    · rw [show t = u + 1 by omega]; exact Nat.le_refl _
    · exact Nat.le_trans (ih g (by omega)) (Nat.le_mul_of_pos_right _ (by omega))
theorem hq_pow {R K : Nat} : ∀ t, hq R K t ≤ K * (R + 2) ^ t
  | 0 => by rw [Nat.pow_zero, Nat.mul_one]; exact Nat.le_refl _
  | t + 1 => by
    rw [Nat.pow_succ, ← Nat.mul_assoc]
    exact Nat.mul_le_mul (hq_pow t) (by omega)
theorem hcol_bd2 {s : HS} {K W : Nat} (col : Nat) (hr : ∀ r ∈ s.rows, r.length = W) (ht : s.top < s.rows.length) (h : ∀ r ∈ s.rows, Bd r K) :
  ((hcol s col).top = s.top ∧ ∀ r ∈ (hcol s col).rows, Bd r K) ∨ ((hcol s col).top = s.top + 1 ∧ ∀ r ∈ (hcol s col).rows, Bd r ((K + 3) * (s.rows.length + 1 - s.top) - 3)) := by
 have hj := jns_bd (t := s.top) (col := col) h (s.rows.length - (s.top + 1))
 unfold hcol hjs
 split
 ·rename_i h0
  refine .inl ⟨rfl, ?_⟩
  have e := jns_keep0 hr ht (col := col) (s.rows.length - (s.top + 1)) (by omega) h0
  show ∀ r ∈ jns s.rows s.top col (s.rows.length - (s.top + 1)), Bd r K
  rw [e]; exact h
 ·rename_i h0
  refine .inr ⟨rfl, ?_⟩
  have hg := hsg_bd (t := s.top) (col := col) hj
  have htj : s.top < (jns s.rows s.top col (s.rows.length - (s.top + 1))).length := by rw [jns_len]; exact ht
  have hpos := hsg_pos (rs := jns s.rows s.top col (s.rows.length - (s.top + 1))) (t := s.top) (col := col) (List.getElem?_eq_getElem htj) (by rwa [List.getD, List.getElem?_eq_getElem htj] at h0)
  have hlow : ∀ i, i < s.top → Bd ((hsg (jns s.rows s.top col (s.rows.length - (s.top + 1))) s.top col).getD i []) K := fun i hi => by
   have e : (hsg (jns s.rows s.top col (s.rows.length - (s.top + 1))) s.top col).getD i [] = s.rows.getD i [] := by
    unfold hsg
    split
    ·rw [List.getD, List.getElem?_set_ne (by omega), jns_off hi]; rfl
    ·rw [List.getD, jns_off hi]; rfl
   rw [e]; exact getD_bd h i
  have em : (K + 3) * (s.rows.length + 1 - s.top) = (s.rows.length - (s.top + 1)) * (K + 3) + 2 * (K + 3) := by
   rw [show s.rows.length + 1 - s.top = (s.rows.length - (s.top + 1)) + 2 by omega, Nat.mul_add, Nat.mul_comm (K + 3), Nat.mul_comm (K + 3)]
  exact fun r hr => (rds_bd hpos (getD_bd hg _) hlow hg (by omega) s.top (Nat.le_refl _) r hr).mono (by omega)
theorem hq_ge {R K t : Nat} (h : t ≤ R) : K ≤ hq R K t := hq_mono (R := R) (K := K) (Nat.zero_le t) h
theorem hred_hq {R W K : Nat} {s : HS} (h : HOk R W K s) (h0 : s.top = 0) : ∀ c, ∀ r ∈ (hred s c).rows, Bd r (hq R (K + 3) (hred s c).top - 3)
  | 0 => fun r hr => (h.bd r hr).mono (by show K ≤ hq R (K + 3) s.top - 3; rw [h0]; show K ≤ K + 3 - 3; omega)
  | c + 1 => by
    have ih := hred_hq h h0 c
    have ho := hred_ok h c
    have hg := hq_ge (K := K + 3) ho.top
    show ∀ r ∈ (if (hred s c).top < (hred s c).rows.length then hcol (hred s c) c else hred s c).rows, Bd r (hq R (K + 3) (if (hred s c).top < (hred s c).rows.length then hcol (hred s c) c else hred s c).top - 3)
    split
    · rename_i ht
      rcases hcol_bd2 c ho.row ht ih with ⟨e, hb⟩ | ⟨e, hb⟩
      · rw [e]; exact hb
      · rw [e]
        show ∀ r ∈ _, Bd r (hq R (K + 3) (hred s c).top * (R + 1 - (hred s c).top) - 3)
        rw [ho.len, show hq R (K + 3) (hred s c).top - 3 + 3 = hq R (K + 3) (hred s c).top by omega] at hb
        exact hb
    · exact ih
theorem hred_top {R W K : Nat} {s : HS} (h : HOk R W K s) : ∀ c, (hred s c).top ≤ (hred s (c + 1)).top ∧ (hred s (c + 1)).top ≤ (hred s c).top + 1 := fun c => by
 have ho := hred_ok h c
 show _ ≤ (if (hred s c).top < (hred s c).rows.length then hcol (hred s c) c else hred s c).top ∧ (if (hred s c).top < (hred s c).rows.length then hcol (hred s c) c else hred s c).top ≤ _
 split
 ·rename_i ht
  rcases hcol_bd2 c ho.row ht ho.bd with ⟨e, _⟩ | ⟨e, _⟩ <;> rw [e] <;> omega
 ·omega
theorem hred_mono {R W K : Nat} {s : HS} (h : HOk R W K s) {c C : Nat} (hc : c ≤ C) : (hred s c).top ≤ (hred s C).top := by
  induction C with
  | zero => rw [show c = 0 by omega]; exact Nat.le_refl _
  | succ C ih =>
    rcases Nat.lt_or_ge C c with g | g
    · rw [show c = C + 1 by omega]; exact Nat.le_refl _
    · exact Nat.le_trans (ih g) (hred_top h C).1
theorem hred_le {R W K : Nat} {s : HS} (h : HOk R W K s) : ∀ c, (hred s c).top ≤ s.top + c
 | 0 => Nat.le_refl _
 | c + 1 => by have := hred_le h c; have := (hred_top h c).2; omega
def hrk (R C : Nat) (L : List Int) : Nat := (hrm R C L).top
theorem hrk_leR {R C K : Nat} {L : List Int} (h : Bd L K) : hrk R C L ≤ R := (hrm_ok h).top
theorem hrk_leC {R C K : Nat} {L : List Int} (h : Bd L K) : hrk R C L ≤ C := by
 have := hred_le (rows0_ok (R := R) (C := C) h) C
 show (hred _ C).top ≤ C
 exact Nat.le_trans this (by show 0 + C ≤ C; omega)
theorem hrm_bd2 {R C K : Nat} {L : List Int} (h : Bd L K) : ∀ r ∈ (hrm R C L).rows, Bd r (hq R (K + 4) (hrk R C L) - 3) := hred_hq (rows0_ok h) rfl C
theorem hL_bq {R C K : Nat} {L : List Int} (h : Bd L K) : Bd (hL R C L) (hq R (K + 4) (hrk R C L)) := by
 rw [hL_tab h]
 exact (Bd_tab fun i k => E_bd (hrm_bd2 (R := R) (C := C) h) i k).mono (Nat.sub_le _ _)
theorem latL_bq {R C K : Nat} {L : List Int} (h : Bd L K) : Bd (latL R C L) (hq R (K + 4) (hrk R C L)) := Bd_tab fun i k => hL_bq h _
theorem hq_ask {R C K : Nat} {L : List Int} (h : Bd L K) (hR : R ≤ 64) (hK : (K + 4) * (R + 2) ^ C ≤ 1000000) : hq R (K + 4) (hrk R C L) * (R + 2) ≤ 80000000 := by
 have h1 := hq_pow (R := R) (K := K + 4) (hrk R C L)
 have h2 := Nat.mul_le_mul_left (K + 4) (Nat.pow_le_pow_right (show 0 < R + 2 by omega) (hrk_leC (R := R) (C := C) h))
 have h3 : hq R (K + 4) (hrk R C L) * (R + 2) ≤ 1000000 * 66 := Nat.mul_le_mul (Nat.le_trans h1 (Nat.le_trans h2 hK)) (by omega)
 omega
theorem pivL_count {C P : Nat} {A : MatF} : ∀ {n : Nat}, P ≤ n → (∀ i, i < P → fc C (A i) < C) → (∀ i, P ≤ i → i < n → ¬ fc C (A i) < C) → (pivL C A n).length = P
  | 0, h, _, _ => by rw [show P = 0 by omega]; rfl
  | n + 1, h, h1, h2 => by
    rcases Nat.lt_or_ge n P with g | g
    · have hP : P = n + 1 := by omega
      subst hP
      rw [pivL_yes (h1 n (by omega)), List.length_append, pivL_count (P := n) (n := n) (Nat.le_refl _) (fun i hi => h1 i (by omega)) (fun i g1 g2 => by omega)]; rfl
    · rw [pivL_no (h2 n g (by omega))]
      exact pivL_count g h1 fun i g1 g2 => h2 i g1 (by omega)
theorem hF_piv {R C K : Nat} {L : List Int} (h : Bd L K) : (∀ i, i < hrk R C L → fc C (hF R C L i) < C) ∧ ∀ i, hrk R C L ≤ i → i < R → ¬ fc C (hF R C L i) < C := by
 obtain ⟨P, hP⟩ := hred_HI (rows0_ok (R := R) (C := C) h) C
 have ht := hrk_leR (R := R) (C := C) h
 refine ⟨fun i hi => ?_, fun i hi hR => ?_⟩
 ·have e : fc C (hF R C L i) = P i := fc_at (hP.plt i hi) (fun k hk => hP.lead i k hi hk) (by have := hP.pos i hi; exact fun e => by rw [show E (hred ⟨rows0 C R L R, 0⟩ C).rows i (P i) = 0 from e] at this; omega)
  rw [e]; exact hP.plt i hi
 ·have e : fc C (hF R C L i) = C := fc_all fun k hk => hP.zero i k hi hR hk
  omega
theorem hL_piv {R C K : Nat} {L : List Int} (h : Bd L K) : (∀ i, i < hrk R C L → fc C (mf C (hL R C L) i) < C) ∧ ∀ i, hrk R C L ≤ i → i < R → ¬ fc C (mf C (hL R C L) i) < C := by
 have ht := hrk_leR (R := R) (C := C) h
 have e : ∀ i, i < R → fc C (mf C (hL R C L) i) = fc C (hF R C L i) := fun i hi => fc_congr fun k hk => hL_at h hi hk
 exact ⟨fun i hi => by rw [e i (by omega)]; exact (hF_piv h).1 i hi, fun i hi hR => by rw [e i hR]; exact (hF_piv h).2 i hi hR⟩
theorem top_piv {R C K : Nat} {L : List Int} (h : Bd L K) : (pivL C (mf C (hL R C L)) R).length = hrk R C L :=
 pivL_count (hrk_leR h) (hL_piv h).1 (hL_piv h).2
end Go.Hp
namespace Go.Proofs.Ythkdmhaafanjlaa
open Go.En Go.RowKit
set_option maxRecDepth 10000
set_option maxHeartbeats 4000000
open Go.Nt
open Go.Pz
open Go.Mz
open Go.Hn
open Go.Hp
open Go.Dt
theorem hm_step {bw C c : Nat} {gt : Gr (List Int)} {s : HS} {m : Mem} (h : (hred s c).top < (hred s c).rows.length) : (hw0 bw gt (hcol (hred s c) c).rows.length C (hcol (hred s c) c).top :: grM isP gt (hcol (hred s c) c).rows :: m : Mem) = hw0 bw gt (hred s (c + 1)).rows.length C (hred s (c + 1)).top :: grM isP gt (hred s (c + 1)).rows :: m := by
 have e : hred s (c + 1) = hcol (hred s c) c := if_pos h
 rw [e]
theorem col_bq {K R a : Nat} (h : K + 4 ≤ a) (h2 : a * (R + 2) ≤ 80000000) : (a - 3 + 3) * (R + 2) ≤ 80000000 := by rw [Nat.sub_add_cancel (by omega)]; exact h2
theorem isMzp_eq {R C : Nat} {L : List Int} {s : HS} (hlen : s.rows.length = R) (h : s = hrm R C L) : isMz s.rows.length (C - 0) (flatP 0 C s.rows) = isMz R C (flatP 0 C (hrm R C L).rows) := by rw [hlen, h]; rfl
theorem isMzq_eq {R C : Nat} {L : List Int} {s : HS} (hlen : s.rows.length = R) (h : s = hrm R C L) : isMz s.rows.length (C + R - C) (flatP C (C + R) s.rows) = isMz R R (flatP C (C + R) (hrm R C L).rows) := by rw [hlen, h, Nat.add_sub_cancel_left]
theorem hnf_HermiteQ {R C K : Nat} {xs : List (Bool × List Nat)} (hx : Bd (vals xs) K) (hK : hq R (K + 4) (hrk R C (vals xs)) * (R + 2) ≤ 80000000) (hR : R ≤ 64) (hC : C ≤ 64) (hl : xs.length = R * C) : Ctr Try.prog 43 [isM (R : Int) (C : Int) xs] (isTup [isMz R C (flatP 0 C (hrm R C (vals xs)).rows), isMz R R (flatP C (C + R) (hrm R C (vals xs)).rows), isI 0]) := by
 refine Ctr.intro Try.func43 rfl (by kernel_rfl) Try.ntmps43 rfl fun w0 F0 => ?_
 refine .cv (Cv.wk (.k 0 rfl .nil)) ?_
 have hfo := formB_true hR hC hl
 have hok := hred_ok (rows0_ok (R := R) (C := C) hx)
 have hbq := hred_hq (rows0_ok (R := R) (C := C) hx) rfl
 have hqs : ∀ c, c ≤ C → hq R (K + 4) (hred ⟨rows0 C R (vals xs) R, 0⟩ c).top * (R + 2) ≤ 80000000 := fun c hc => Nat.le_trans (Nat.mul_le_mul_right _ (hq_mono (hred_mono (rows0_ok (R := R) (C := C) hx) hc) (hok C).top)) hK
 have hp0 : K + 4 ≤ 80000000 := Nat.le_trans (Nat.le_mul_of_pos_right _ (Nat.succ_pos (R + 1))) (hqs 0 (Nat.zero_le _))
 obtain ⟨n0, hn0⟩ : ∃ n0 : Nat, n0 = R := ⟨_, rfl⟩
 refine .seq fun _ k1 => .region (.box (.t rfl) rfl fun b1 => ?_)
 refine .alloc [isI 0, isI 0, nilS] zero24 (fun _ _ => ⟨⟨rfl, by decide, by decide⟩, ⟨rfl, by decide, by decide⟩, rfl, trivial⟩) rfl fun b2 => ?_
 refine .alloc [isI 0, isI 0, nilS] zero24 (fun _ _ => ⟨⟨rfl, by decide, by decide⟩, ⟨rfl, by decide, by decide⟩, rfl, trivial⟩) rfl fun b3 => ?_
 refine st (.as (Has.cI 0 rfl)) rfl ?_
 refine nl (.thn (k1 _ _ ?_))
 refine .seq fun _ k2 => ?_
 refine .seq fun _ k3 => .region (st (.load (.t rfl) (i := 2) rfl ty24 rfl (Ss' := [_, _, _]) rfl) rfl ?_)
 refine st (.eq (.call (zmat_Formed) (.cons (.t rfl) .nil)) ((show isB _ = isB true from isB_eq hfo))) rfl ?_
 refine st (.not (.t rfl)) rfl ?_
 refine nl (.thn (k3 _ _ ?_))
 refine .cond (.t rfl) (fun hc1 => ?_) (fun hc1 => ?_)
 ·have hc1 := BP.t hc1
  simp at hc1
 ·have hc1 := BP.f hc1
  refine .skip ?_
  refine .thn (k2 _ _ ?_)
  refine .seq fun _ k4 => .region (st (.load (.t rfl) (i := 2) rfl ty24 rfl (Ss' := [_, _, _]) rfl) rfl ?_)
  refine .callX (hnf_begun hx (by omega) hR hC hl) (List.Perm.refl _) (.cons (.t rfl) .nil) rfl ?_
  rintro _ _ ⟨bw, gt, rfl, rfl⟩
  refine .memEq (M' := [hw0 bw gt (rows0 C R (vals xs) R).length C 0, grM isP gt (rows0 C R (vals xs) R), _, _, _]) rfl ?_
  refine st (.as (.t rfl)) rfl ?_
  refine nl (.thn (k4 _ _ ?_))
  refine .cv (Cv.wk (.k 1 rfl (.k 2 rfl (.k 3 rfl (.k 4 rfl (.k 5 rfl .nil)))))) ?_
  refine .seq fun _ k5 => ?_
  refine .seq fun _ k6 => .region (st (.as (Has.cI 0 rfl)) rfl ?_)
  refine nl (.thn (k6 _ _ ?_))
  refine .block ?_
  refine .loopF [1, 2, 3, 4, 5] (fun (z : { c : Nat // c ≤ C }) => match z with | ⟨c, hc⟩ => [(6, isI (c : Int))]) (fun M => fun (z : { c : Nat // c ≤ C }) => match z with | ⟨c, hc⟩ => [hw0 bw gt (hred ⟨rows0 C R (vals xs) R, 0⟩ c).rows.length C (hred ⟨rows0 C R (vals xs) R, 0⟩ c).top, grM isP gt (hred ⟨rows0 C R (vals xs) R, 0⟩ c).rows, (some b3, cellM [isI 0, isI 0, nilS]), (some b2, cellM [isI 0, isI 0, nilS]), (some b1, cellM [isI (R : Int), isI (C : Int), SlK 2 zc xs])]) (fun (z : { c : Nat // c ≤ C }) => match z with | ⟨c, hc⟩ => C - c) (⟨0, Nat.zero_le _⟩) (Cv.mem (.cons (t := 6) (Has.t' rfl ?_) (.k 1 rfl (.k 2 rfl (.k 3 rfl (.k 4 rfl (.k 5 rfl .nil)))))) ?_) ?_
  ·rfl
  ·rfl
  rintro ⟨c, hc⟩ K7 hK7
  refine .cv (Cv.wk (.k 6 rfl (.k 1 rfl (.k 2 rfl (.k 3 rfl (.k 4 rfl (.k 5 rfl .nil))))))) ?_
  refine .memEq (M' := [hw0 bw gt (hred ⟨rows0 C R (vals xs) R, 0⟩ c).rows.length C (hred ⟨rows0 C R (vals xs) R, 0⟩ c).top, grM isP gt (hred ⟨rows0 C R (vals xs) R, 0⟩ c).rows, (some b3, cellM [isI 0, isI 0, nilS]), (some b2, cellM [isI 0, isI 0, nilS]), (some b1, cellM [isI (R : Int), isI (C : Int), SlK 2 zc xs])]) rfl ?_
  have hoc := hok c
  have hlen := hoc.len
  have htop := hoc.top
  have hpc := hqs c hc
  refine .seq fun _ k8 => ?_
  refine .seq fun _ k9 => ?_
  refine .dr ?_
  refine .s [] rfl rfl rfl (.o rfl (.mv (.t rfl))) ?_
  refine .s [] rfl rfl rfl (.o rfl (.fieldAddr (.t rfl) fld24_1 ty3)) ?_
  refine .s [15] rfl rfl rfl (.o rfl (.load1 (.t rfl) (i := 4) rfl ty3 rfl)) ?_
  refine .s [14, 16] rfl rfl rfl (.o rfl (.ltI (.t rfl) (.t rfl))) ?_
  refine .s [17] rfl rfl rfl (.o rfl (.mv (.t rfl))) ?_
  refine .s [18] rfl rfl rfl (.T rfl rfl rfl (fun hg => have hg' := BP.t hg; OK1.mv (.t rfl))) ?_
  refine .s [18, 19] rfl rfl rfl (.T rfl rfl rfl (fun hg => have hg' := BP.t hg; OK1.nilc (Has.g rfl hg))) ?_
  refine .s [18, 20] rfl rfl rfl (.T rfl rfl rfl (fun hg => have hg' := BP.t hg; OK1.fieldAddr (Has.g rfl hg) fld108_2 ty3)) ?_
  refine .s [18, 21] rfl rfl rfl (.T rfl rfl rfl (fun hg => have hg' := BP.t hg; OK1.load1 (Has.g rfl hg) (i := 0) rfl ty3 rfl)) ?_
  refine .s [18] rfl rfl rfl (.T rfl rfl rfl (fun hg => have hg' := BP.t hg; OK1.fieldAddr (.t rfl) fld24_0 ty3)) ?_
  refine .s [18, 23] rfl rfl rfl (.T rfl rfl rfl (fun hg => have hg' := BP.t hg; OK1.load1 (Has.g rfl hg) (i := 4) rfl ty3 rfl)) ?_
  refine .fin (n := 11) mixed (by kernel_rfl) (by kernel_rfl) (by kernel_rfl) ?_
  refine .cv (Cv.wk (.k 1 rfl (.k 2 rfl (.k 3 rfl (.k 4 rfl (.k 5 rfl (.k 6 rfl (.k 14 rfl (.k 15 rfl (.k 16 rfl (.k 17 rfl (.k 18 rfl (.k 19 rfl (.k 20 rfl (.k 21 rfl (.k 22 rfl (.k 23 rfl (.k 24 rfl .nil)))))))))))))))))) ?_
  refine stT rfl rfl (fun hg => have hg' := BP.t hg; OK1.ltI (Has.g rfl hg) (Has.g rfl hg)) rfl ?_
  refine st (.pickAnd (.t rfl) (fun h => Has.g rfl h)) rfl ?_
  refine nl (.thn (k9 _ _ ?_))
  refine .cond (.t rfl) (fun hc2 => ?_) (fun hc2 => ?_)
  ·have hc2 := BP.t hc2
   obtain ⟨hc1', hc2'⟩ := hc2
   refine .skip ?_
   refine .thn (k8 _ _ ?_)
   refine .seq fun _ k10 => ?_
   refine .block ?_
   refine .region (st (.mv (.t rfl)) rfl ?_)
   refine st (.mv (.t rfl)) rfl ?_
   refine .callX (hnf_column (rs := (hred ⟨rows0 C R (vals xs) R, 0⟩ c).rows) (t := (hred ⟨rows0 C R (vals xs) R, 0⟩ c).top) (col := c) (W := C + R) (K := hq R (K + 4) (hred ⟨rows0 C R (vals xs) R, 0⟩ c).top - 3) hoc.row (by omega) (by omega) (by omega) (by omega) (hbq c) (by rw [hlen]; exact col_bq (hq_ge htop) hpc)) (List.Perm.refl _) (.cons (.t rfl) (.cons (.t rfl) .nil)) rfl ?_
   rintro _ _ ⟨rfl, rfl⟩
   refine .memEq (M' := [hw0 bw gt (hcol (hred ⟨rows0 C R (vals xs) R, 0⟩ c) c).rows.length C (hcol (hred ⟨rows0 C R (vals xs) R, 0⟩ c) c).top, grM isP gt (hcol (hred ⟨rows0 C R (vals xs) R, 0⟩ c) c).rows, _, _, _]) rfl ?_
   refine nl ?_
   refine .bln ?_
   refine .thn (k10 _ _ ?_)
   refine .region (st (.mv (.t rfl)) rfl ?_)
   refine st (.addI (.t rfl) (Has.cI 1 rfl) (by first | omega | assumption) (by first | omega | assumption)) rfl ?_
   refine st (.as (.t rfl)) rfl ?_
   refine nl ?_
   refine .thn ?_
   refine hK7 (⟨c + 1, by omega⟩) _ _ ?_ (Cv.mem (.cons (t := 6) (Has.t' rfl ?_) (.k 1 rfl (.k 2 rfl (.k 3 rfl (.k 4 rfl (.k 5 rfl .nil)))))) ?_)
   ·show C - (c + 1) < C - c; omega
   ·exact isI_eq (by omega)
   ·exact hm_step (show (hred ⟨rows0 C R (vals xs) R, 0⟩ c).top < _ by omega)
  ·have hc2 := BP.f hc2
   have hst := hred_stop (rows0_ok (R := R) (C := C) hx) hc (show ¬ (c < C ∧ _) from fun h => by omega)
   refine .exit ?_
   refine .the ?_
   refine .the ?_
   refine .blh ?_
   refine .thn (k5 _ _ ?_)
   refine .cv (Cv.wk (.k 1 rfl (.k 2 rfl (.k 3 rfl (.k 4 rfl (.k 5 rfl .nil)))))) ?_
   refine .seq fun _ k11 => ?_
   refine .cv (Cv.freezeF (k := 1) (i := 1) (j := 0) (o := 0) rfl rfl rfl rfl gr_lenM gr_takeM (Ss' := [SlM isP ((hred ⟨rows0 C R (vals xs) R, 0⟩ c).rows), _, _]) rfl) ?_
   refine .memEq (M' := [(some _, cellM [SlM isP ((hred ⟨rows0 C R (vals xs) R, 0⟩ c).rows), _, _]), _, _, _]) rfl ?_
   refine .cv (Cv.wk (.k 1 rfl (.k 2 rfl (.k 3 rfl (.k 4 rfl (.k 5 rfl .nil)))))) ?_
   refine .cv (Cv.freezeBox (t := 5) (i := 0) rfl rfl rfl) ?_
   refine .memEq (M' := [_, _, _]) rfl ?_
   refine .cv (Cv.wk (.k 1 rfl (.k 2 rfl (.k 3 rfl (.k 4 rfl (.k 5 rfl .nil)))))) ?_
   refine .dr ?_
   refine .s [] rfl rfl rfl (.o rfl (.mv (.t rfl))) ?_
   refine .s [] rfl rfl rfl (.o rfl (.fieldAddr (.t rfl) fld24_1 ty3)) ?_
   refine .s [33] rfl rfl rfl (.o rfl (.load1 (.t rfl) (i := 2) rfl ty3 rfl)) ?_
   refine .s [32, 34] rfl rfl rfl (.o rfl (.call (hnf_part (lo := 0) (hi := C) hoc.row (by omega) (by omega) (by omega) (by omega)) (.cons (.t rfl) (.cons (Has.cI 0 rfl) (.cons (.t rfl) .nil))))) ?_
   refine .s [] rfl rfl rfl (.o rfl (.mv (.t rfl))) ?_
   refine .s [] rfl rfl rfl (.o rfl (.fieldAddr (.t rfl) fld24_1 ty3)) ?_
   refine .s [37] rfl rfl rfl (.o rfl (.load1 (.t rfl) (i := 2) rfl ty3 rfl)) ?_
   refine .s [] rfl rfl rfl (.o rfl (.fieldAddr (.t rfl) fld24_1 ty3)) ?_
   refine .s [39] rfl rfl rfl (.o rfl (.load1 (.t rfl) (i := 2) rfl ty3 rfl)) ?_
   refine .s [] rfl rfl rfl (.o rfl (.fieldAddr (.t rfl) fld24_0 ty3)) ?_
   refine .s [41] rfl rfl rfl (.o rfl (.load1 (.t rfl) (i := 2) rfl ty3 rfl)) ?_
   refine .s [40, 42] rfl rfl rfl (.o rfl (.eq (.addI (.t rfl) (.t rfl) (by first | omega | assumption) (by first | omega | assumption)) ((show isI _ = isI ((C + R : Nat) : Int) from isI_eq (by omega))))) ?_
   refine .fin (n := 12) mixed (by kernel_rfl) (by kernel_rfl) (by kernel_rfl) ?_
   refine .cv (Cv.wk (.k 2 rfl (.k 3 rfl (.k 4 rfl (.k 35 rfl (.k 36 rfl (.k 38 rfl (.k 43 rfl .nil)))))))) ?_
   refine st (.call (hnf_part (lo := C) (hi := C + R) hoc.row (by omega) (by omega) (by omega) (by omega)) (.cons (.t rfl) (.cons (.t rfl) (.cons (.t rfl) .nil)))) rfl ?_
   refine .store (.t rfl) (.t rfl) (i := 1) rfl ty24 rfl rfl (Ss' := [_, _, _]) rfl (M' := [_, (some _, cellM [_, _, _]), _]) rfl ?_
   refine .store (.t rfl) (.t rfl) (i := 0) rfl ty24 rfl rfl (Ss' := [_, _, _]) rfl (M' := [(some _, cellM [_, _, _]), _, _]) rfl ?_
   refine st (.as (Has.cI 0 rfl)) rfl ?_
   refine nl (.thn (k11 _ _ ?_))
   refine .cv (Cv.wk (.k 2 rfl (.k 3 rfl (.k 4 rfl .nil)))) ?_
   refine .ret ?_
   refine rtN (.inl rfl) Try.results43 rfl rfl (.cell rfl (i := 1) rfl ty24 rfl ?_ (.cell rfl (i := 0) rfl ty24 rfl ?_ (.tmp (Has.t' rfl ?_) .nil)))
   ·exact isMzp_eq hlen hst.symm
   ·exact isMzq_eq hlen hst.symm
   ·rfl
theorem sl_IndexFuncZ {xs : List (Bool × List Nat)} {K : Nat} (hx : Bd (vals xs) K) : Ctr Try.prog 101 [SlK 2 zc xs, isFun (ι := { p : Bool × List Nat // (List.length (words (val p.2))) ≤ K }) Try.prog (fun p => [Flat (zc p.1)]) (fun p => isB (decide (zv p.1.1 p.1.2 ≠ 0)))] (isI (fir xs.length (cf (vals xs)))) := by
 refine Ctr.intro Try.func101 rfl (by kernel_rfl) Try.ntmps101 rfl fun w0 F0 => ?_
 refine .cv (Cv.wk (.k 0 rfl (.k 1 rfl .nil))) ?_
 refine .fact (Has.lenLt (Has.t (t := 0) rfl)) fun lt0 => ?_
 refine .seq fun _ k1 => .region (st (.as (Has.cI 0 rfl)) rfl ?_)
 refine nl (.thn (k1 _ _ ?_))
 refine .seq fun _ k2 => ?_
 refine .seq fun _ k3 => .region (st (.mv (.t rfl)) rfl ?_)
 refine st (.len sl22 (.t rfl)) rfl (st (.mv (Has.cI 0 rfl)) rfl ?_)
 refine nl (.thn (k3 _ _ ?_))
 refine .block ?_
 refine .loopF [0, 1, 7] (fun (z : { i : Nat // i ≤ xs.length ∧ ∀ j, j < i → cf (vals xs) j = 0 }) => match z with | ⟨i, hI⟩ => [(8, isI (i : Int))]) (fun M => fun (z : { i : Nat // i ≤ xs.length ∧ ∀ j, j < i → cf (vals xs) j = 0 }) => match z with | ⟨i, hI⟩ => M) (fun (z : { i : Nat // i ≤ xs.length ∧ ∀ j, j < i → cf (vals xs) j = 0 }) => match z with | ⟨i, hI⟩ => xs.length - i) (⟨0, Nat.zero_le _, fun j hj => absurd hj (Nat.not_lt_zero _)⟩) (Cv.mem (.cons (t := 8) (Has.t' rfl ?_) (.k 0 rfl (.k 1 rfl (.k 7 rfl .nil)))) ?_) ?_
 ·rfl
 ·rfl
 rintro ⟨i, hi, hq⟩ K4 hK4
 refine .cv (Cv.wk (.k 8 rfl (.k 0 rfl (.k 1 rfl (.k 7 rfl .nil))))) ?_
 refine .seq fun _ k5 => .region (st (.ltI (.t rfl) (.t rfl)) rfl ?_)
 refine nl (.thn (k5 _ _ ?_))
 refine .seq fun _ k6 => ?_
 refine .cond (.t rfl) (fun hc1 => ?_) (fun hc1 => ?_)
 ·have hc1 := BP.t hc1
  refine .skip ?_
  refine .thn (k6 _ _ ?_)
  refine .seq fun _ k7 => ?_
  refine .block ?_
  refine .seq fun _ k8 => .region (st (.mv (.t rfl)) rfl ?_)
  refine st (.as (.t rfl)) rfl ?_
  refine nl (.thn (k8 _ _ ?_))
  refine .seq fun _ k9 => .region (st (.mv (.t rfl)) rfl ?_)
  refine st (.mv (.t rfl)) rfl (st (.mv (.t rfl)) rfl ?_)
  refine st (.ixK sl22 ty30 (.t rfl) (.t rfl) zc_len ⟨by omega, by omega⟩ (getD_some (d := (false, [])) (by first | omega | (simp only [Int.toNat_natCast, List.length_set]; omega)))) rfl ?_
  refine st (.loadP (.t rfl) ty30 rfl (Ss' := [_, _]) rfl) rfl ?_
  refine st (.eq (.callV ⟨xs.getD i (false, []), hx.raw i⟩ (.t rfl) (.cons (.t rfl) .nil)) ((show _ = isB (decide (cf (vals xs) i ≠ 0)) from isB_eq (by rw [cf_vals])))) rfl ?_
  refine nl (.thn (k9 _ _ ?_))
  refine .cond (.t rfl) (fun hc2 => ?_) (fun hc2 => ?_)
  ·have hc2 := BP.t hc2
   have HQ : cf (vals xs) i ≠ 0 := hc2
   refine .seq fun _ k10 => .region (st (.mv (.t rfl)) rfl ?_)
   refine st (.as (.t rfl)) rfl ?_
   refine nl (.thn (k10 _ _ ?_))
   refine .ret ?_
   refine .blr ?_
   refine .thr ?_
   refine .thr ?_
   refine .blr ?_
   refine .thr ?_
   refine rt1 (.inl rfl) Try.results101 rfl (.tmp (Has.t' rfl ?_) .nil)
   all_goals (exact isI_eq (fir_at (by omega) hq HQ).symm)
  ·have hc2 := BP.f hc2
   have HQ : ¬ cf (vals xs) i ≠ 0 := hc2
   refine .skip ?_
   refine .bln ?_
   refine .thn (k7 _ _ ?_)
   refine .region (st (.addI (.t rfl) (Has.cI 1 rfl) (by first | omega | assumption) (by first | omega | assumption)) rfl ?_)
   refine st (.mv (.t rfl)) rfl ?_
   refine nl ?_
   refine .thn ?_
   refine hK4 (⟨i + 1, by omega, fun j hj => by rcases Nat.lt_or_ge j i with h | h; exact hq j h; obtain rfl : j = i := (by omega); exact Classical.not_not.1 HQ⟩) _ _ ?_ (Cv.mem (.cons (t := 8) (Has.t' rfl ?_) (.k 0 rfl (.k 1 rfl (.k 7 rfl .nil)))) ?_)
   ·show xs.length - (i + 1) < xs.length - i; omega
   ·exact isI_eq (by omega)
   ·rfl
 ·have hc1 := BP.f hc1
  refine .exit ?_
  refine .the ?_
  refine .the ?_
  refine .blh ?_
  refine .thn (k2 _ _ ?_)
  refine .cv (Cv.wk .nil) ?_
  refine .seq fun _ k11 => .region (st (.as (Has.cI (-1) rfl)) rfl ?_)
  refine nl (.thn (k11 _ _ ?_))
  refine .ret ?_
  refine rt1 (.inl rfl) Try.results101 rfl (.tmp (Has.t' rfl ?_) .nil)
  all_goals (exact isI_eq (fir_all fun j hj => hq j (by omega)).symm)
theorem hnf_first_1 {m : Bool} {xs : List Nat} (hx : (List.length (words (val xs))) < 4294700000) : Ctr Try.prog 102 [Flat [isB m, isWords xs]] (isB (decide (zv m xs ≠ 0))) := by
 refine Ctr.intro Try.func102 rfl (by kernel_rfl) Try.ntmps102 rfl fun w0 F0 => ?_
 refine .cv (Cv.wk (.k 0 rfl .nil)) ?_
 refine .fact (Has.okZ (Has.t (t := 0) rfl)) fun okz0 => ?_
 refine .seq fun _ k1 => .region (.box (.t rfl) rfl fun b1 => ?_)
 refine st (.as (Has.cB false)) rfl ?_
 refine nl (.thn (k1 _ _ ?_))
 refine .seq fun _ k2 => .region (st (.load (.t rfl) (i := 0) rfl ty30 rfl (Ss' := [_, _]) rfl) rfl ?_)
 refine st (.call (zint_Sign (by omega)) (.cons (.t rfl) .nil)) rfl ?_
 refine st (.neI (.t rfl) (Has.cI 0 rfl)) rfl ?_
 refine st (.as (.t rfl)) rfl ?_
 refine nl (.thn (k2 _ _ ?_))
 refine .cv (Cv.wk (.k 2 rfl .nil)) ?_
 refine .ret ?_
 refine rt1 (.inl rfl) Try.results102 rfl (.tmp (Has.t' rfl ?_) .nil)
 all_goals (exact isB_eq (by simp [sgn_eq0]))
theorem hnf_first {R C i K : Nat} {xs : List (Bool × List Nat)} (hx : Bd (vals xs) K) (hK : K ≤ 400000000) (hR : R ≤ 64) (hC : C ≤ 64) (hl : xs.length = R * C) (hi : i < R) : Ctr Try.prog 76 [isM (R : Int) (C : Int) xs, isI (i : Int)] (isI (fir C ((mf C (vals xs)) i))) := by
 refine Ctr.intro Try.func76 rfl (by kernel_rfl) Try.ntmps76 rfl fun w0 F0 => ?_
 refine .cv (Cv.wk (.k 0 rfl (.k 1 rfl .nil))) ?_
 refine .fact (Has.rngI (Has.t (t := 1) rfl)) fun lt1 => ?_
 have hRC := side_le hR hC
 have hpl1 : (i + 1) * C ≤ R * C := Nat.mul_le_mul_right _ hi
 have hpl2 : (i + 1) * C = i * C + C := Nat.succ_mul _ _
 have hc1 : ((i : Int) * (C : Int)) = ((i * C : Nat) : Int) := (Int.natCast_mul i C).symm
 have hc2 : (((i : Int) + 1) * (C : Int)) = (((i + 1) * C : Nat) : Int) := by rw [Int.natCast_mul]; rfl
 obtain ⟨ys, hys⟩ : ∃ ys, ys = (xs.take ((i + 1) * C)).drop (i * C) := ⟨_, rfl⟩
 have hyl : ys.length = C := by rw [hys, List.length_drop, List.length_take]; omega
 have hyv : ∀ k, k < C → cf (vals ys) k = (mf C (vals xs)) i k := fun k hk => by rw [hys]; exact cf_part_row (by omega)
 have hyb : Bd (vals ys) K := fun k => by
  rcases Nat.lt_or_ge k C with h | h
  ·rw [hyv k h]; exact hx _
  ·rw [cf_high (by rw [vals_len]; omega), Int.natAbs_zero, words_zero]; exact Nat.zero_le _
 refine .seq fun _ k1 => .region (.box (.t rfl) rfl fun b1 => ?_)
 refine st (.as (Has.cI 0 rfl)) rfl ?_
 refine nl (.thn (k1 _ _ ?_))
 refine .seq fun _ k2 => .region (st (.fieldAddr (.t rfl) fld24_2 ty22) rfl ?_)
 refine st (.load1 (.t rfl) (i := 0) rfl ty22 rfl) rfl ?_
 refine st (.mv (.t rfl)) rfl (st (.fieldAddr (.t rfl) fld24_1 ty3) rfl ?_)
 refine st (.load1 (.t rfl) (i := 0) rfl ty3 rfl) rfl (st (.eq (.mulI (.t rfl) (.t rfl) (by first | omega | (rw [hc1]; omega) | (rw [hc2]; omega)) (by first | omega | (rw [hc1]; omega) | (rw [hc2]; omega))) ((show isI _ = isI ((i * C : Nat) : Int) from isI_eq hc1))) rfl ?_)
 refine st (.mv (.t rfl)) rfl (st (.addI (.t rfl) (Has.cI 1 rfl) (by first | omega | (rw [hc1]; omega) | (rw [hc2]; omega)) (by first | omega | (rw [hc1]; omega) | (rw [hc2]; omega))) rfl ?_)
 refine st (.fieldAddr (.t rfl) fld24_1 ty3) rfl (st (.load1 (.t rfl) (i := 0) rfl ty3 rfl) rfl ?_)
 refine st (.eq (.mulI (.t rfl) (.t rfl) (by first | omega | (rw [hc1]; omega) | (rw [hc2]; omega)) (by first | omega | (rw [hc1]; omega) | (rw [hc2]; omega))) ((show isI _ = isI (((i + 1) * C : Nat) : Int) from isI_eq hc2))) rfl ?_
 refine st (.eq (.slLHK sl22 ty30 zc_len (.t rfl) (.t rfl) (.t rfl) ⟨by omega, by omega, by omega⟩) ((show _ = SlK 2 zc ys from SlK_eq (by rw [hys]; rfl)))) rfl ?_
 refine st (.eq (.call (sl_IndexFuncZ (K := K) hyb) (.cons (.t rfl) (.cons (Has.fn (fun p => hnf_first_1 (Nat.lt_of_le_of_lt p.2 (by omega)))) .nil))) ((show _ = isI (fir C ((mf C (vals xs)) i)) from isI_eq (by rw [hyl]; exact fir_congr hyv)))) rfl ?_
 refine st (.as (.t rfl)) rfl ?_
 refine nl (.thn (k2 _ _ ?_))
 refine .cv (Cv.wk (.k 4 rfl .nil)) ?_
 refine .ret ?_
 refine rt1 (.inl rfl) Try.results76 rfl (.tmp (Has.t' rfl ?_) .nil)
 all_goals (rfl)
theorem hnf_Pivots {R C K : Nat} {xs : List (Bool × List Nat)} (hx : Bd (vals xs) K) (hK : K ≤ 400000000) (hR : R ≤ 64) (hC : C ≤ 64) (hl : xs.length = R * C) : Ctr Try.prog 45 [isM (R : Int) (C : Int) xs] (SlM isI (pv (pivL C (mf C (vals xs)) R))) := by
 refine Ctr.intro Try.func45 rfl (by kernel_rfl) Try.ntmps45 rfl fun w0 F0 => ?_
 refine .cv (Cv.wk (.k 0 rfl .nil)) ?_
 have hRC := side_le hR hC
 have hfo := formB_true hR hC hl
 refine .seq fun _ k1 => .region (.box (.t rfl) rfl fun b1 => ?_)
 refine st (.as (Has.cW (f := isI))) rfl ?_
 refine nl (.thn (k1 _ _ ?_))
 refine .seq fun _ k2 => ?_
 refine .seq fun _ k3 => .region (st (.load (.t rfl) (i := 0) rfl ty24 rfl (Ss' := [_, _, _]) rfl) rfl ?_)
 refine st (.eq (.call (zmat_Formed) (.cons (.t rfl) .nil)) ((show isB _ = isB true from isB_eq (hfo)))) rfl ?_
 refine st (.not (.t rfl)) rfl ?_
 refine nl (.thn (k3 _ _ ?_))
 refine .cond (.t rfl) (fun hc1 => ?_) (fun hc1 => ?_)
 ·have hc1 := BP.t hc1
  exfalso; simp at hc1
 ·have hc1 := BP.f hc1
  refine .skip ?_
  refine .thn (k2 _ _ ?_)
  refine .seq fun _ k4 => .region (.cv (Cv.grow0 (α := Int) isI) ?_)
  refine st (.as (Has.cGr (α := Int))) rfl ?_
  refine nl (.thn (k4 _ _ ?_))
  refine .seq fun _ k5 => ?_
  refine .seq fun _ k6 => .region (st (.fieldAddr (.t rfl) fld24_0 ty3) rfl ?_)
  refine st (.load1 (.t rfl) (i := 1) rfl ty3 rfl) rfl (st (.mv (Has.cI 0 rfl)) rfl ?_)
  refine nl (.thn (k6 _ _ ?_))
  refine .cv (Cv.wk (.k 1 rfl (.k 2 rfl (.k 3 rfl (.k 10 rfl (.k 11 rfl .nil)))))) ?_
  refine .block ?_
  refine .loopF [1, 2, 10] (fun (z : { z : Nat × Gr Int // z.1 ≤ R }) => match z with | ⟨(i, g), hI⟩ => [(11, isI (i : Int)), (3, isGr g (pv (pivL C (mf C (vals xs)) i)).length)]) (fun M => fun (z : { z : Nat × Gr Int // z.1 ≤ R }) => match z with | ⟨(i, g), hI⟩ => [grM isI g (pv (pivL C (mf C (vals xs)) i)), (some b1, cellM [isI (R : Int), isI (C : Int), SlK 2 zc xs])]) (fun (z : { z : Nat × Gr Int // z.1 ≤ R }) => match z with | ⟨(i, g), hI⟩ => R - i) (⟨(0, Gr.nil), Nat.zero_le _⟩) (Cv.mem (.cons (t := 11) (Has.t' rfl ?_) (.cons (t := 3) (Has.t' rfl ?_) (.k 1 rfl (.k 2 rfl (.k 10 rfl .nil))))) ?_) ?_
  ·rfl
  ·rfl
  ·rfl
  rintro ⟨⟨i, g⟩, hI⟩ K7 hK7
  refine .cv (Cv.wk (.k 11 rfl (.k 3 rfl (.k 1 rfl (.k 2 rfl (.k 10 rfl .nil)))))) ?_
  refine .memEq (M' := [grM isI g (pv (pivL C (mf C (vals xs)) i)), (some b1, cellM [isI (R : Int), isI (C : Int), SlK 2 zc xs])]) rfl ?_
  simp only [] at hI
  have hpl := pivL_len C (mf C (vals xs)) i
  refine .seq fun _ k8 => .region (st (.ltI (.t rfl) (.t rfl)) rfl ?_)
  refine nl (.thn (k8 _ _ ?_))
  refine .seq fun _ k9 => ?_
  refine .cond (.t rfl) (fun hc2 => ?_) (fun hc2 => ?_)
  ·have hc2 := BP.t hc2
   refine .skip ?_
   refine .thn (k9 _ _ ?_)
   refine .seq fun _ k10 => ?_
   refine .block ?_
   refine .seq fun _ k11 => .region (st (.mv (.t rfl)) rfl ?_)
   refine st (.as (.t rfl)) rfl ?_
   refine nl (.thn (k11 _ _ ?_))
   refine .seq fun _ k12 => .region (st (.load (.t rfl) (i := 1) rfl ty24 rfl (Ss' := [_, _, _]) rfl) rfl ?_)
   refine st (.mv (.t rfl)) rfl (st (.call (hnf_first (i := i) hx hK hR hC hl (by omega)) (.cons (.t rfl) (.cons (.t rfl) .nil))) rfl ?_)
   refine st (.as (.t rfl)) rfl ?_
   refine nl (.thn (k12 _ _ ?_))
   refine .seq fun _ k13 => .region (st (.mv (.t rfl)) rfl ?_)
   refine st (.geI (.t rfl) (Has.cI 0 rfl)) rfl ?_
   refine nl (.thn (k13 _ _ ?_))
   refine .cond (.t rfl) (fun hc3 => ?_) (fun hc3 => ?_)
   ·have hc3 := BP.t hc3
    have hfk := fir_lt hc3
    refine .region (st (.mv (.t rfl)) rfl ?_)
    refine st (.eq (.mv (.t rfl)) ((show _ = isI ((fc C ((mf C (vals xs)) i) : Nat) : Int) from isI_eq (if_pos hfk)))) rfl ?_
    refine st (.buildS [isI 0] sl63 ty3 zero3 (fun _ _ => ⟨⟨rfl, by decide, by decide⟩, trivial⟩) rfl rfl (.cons (.t rfl) rfl rfl rfl .nil) rfl (S := SlM isI [((fc C ((mf C (vals xs)) i) : Nat) : Int)]) rfl) rfl ?_
    refine .appendG (f := isI) (u := 0) sl63 ty3 zero3 (fun _ _ => ⟨⟨rfl, by decide, by decide⟩, trivial⟩) (fun _ => inferInstance) by3 (.t rfl) (i := 0) rfl (.t rfl) (by rw [pv_len]; show _ + 1 ≤ _; omega) (by simp) rfl fun gr1 => ?_
    refine .memEq (M' := [grM _ _ _, _]) rfl ?_
    refine st (.as (.t rfl)) rfl ?_
    refine nl ?_
    refine .bln ?_
    refine .thn (k10 _ _ ?_)
    refine .region (st (.addI (.t rfl) (Has.cI 1 rfl) (by first | omega | assumption) (by first | omega | assumption)) rfl ?_)
    refine st (.mv (.t rfl)) rfl ?_
    refine nl ?_
    refine .thn ?_
    refine hK7 (⟨(i + 1, gr1), by show i + 1 ≤ R; omega⟩) _ _ ?_ (Cv.mem (.cons (t := 11) (Has.t' rfl ?_) (.cons (t := 3) (Has.t' rfl ?_) (.k 1 rfl (.k 2 rfl (.k 10 rfl .nil))))) ?_)
    ·show R - (i + 1) < R - i; omega
    ·exact isI_eq (by omega)
    ·exact isGr_eq (by rw [pivL_yes hfk, pv_app, List.length_append])
    ·exact grM_eq (by rw [pivL_yes hfk, pv_app])
   ·have hc3 := BP.f hc3
    have hfk := fir_no hc3
    refine .skip ?_
    refine .bln ?_
    refine .thn (k10 _ _ ?_)
    refine .region (st (.addI (.t rfl) (Has.cI 1 rfl) (by first | omega | assumption) (by first | omega | assumption)) rfl ?_)
    refine st (.mv (.t rfl)) rfl ?_
    refine nl ?_
    refine .thn ?_
    refine hK7 (⟨(i + 1, g), by show i + 1 ≤ R; omega⟩) _ _ ?_ (Cv.mem (.cons (t := 11) (Has.t' rfl ?_) (.cons (t := 3) (Has.t' rfl ?_) (.k 1 rfl (.k 2 rfl (.k 10 rfl .nil))))) ?_)
    ·show R - (i + 1) < R - i; omega
    ·exact isI_eq (by omega)
    ·exact isGr_eq (by rw [pivL_no hfk])
    ·exact grM_eq (by rw [pivL_no hfk])
  ·have hc2 := BP.f hc2
   refine .exit ?_
   refine .the ?_
   refine .the ?_
   refine .blh ?_
   refine .thn (k5 _ _ ?_)
   refine .seq fun _ k14 => ?_
   refine .cv (Cv.freezeG (t := 3) (i := 0) (ys := pv (pivL C (mf C (vals xs)) i)) rfl rfl rfl) ?_
   refine .memEq (M' := [_]) rfl ?_
   refine .cv (Cv.wk (.k 1 rfl (.k 2 rfl (.k 10 rfl (.k 11 rfl (.k 3 rfl (.k 12 rfl .nil))))))) ?_
   refine .region (st (.mv (.t rfl)) rfl ?_)
   refine st (.as (.t rfl)) rfl ?_
   refine nl (.thn (k14 _ _ ?_))
   refine .cv (Cv.wk (.k 2 rfl .nil)) ?_
   refine .ret ?_
   refine rt1 (.inl rfl) Try.results45 rfl (.tmp (Has.t' rfl ?_) .nil)
   all_goals (exact SlM_eq (by rw [show i = R by omega]))
theorem zmat_alike {r c r2 c2 : Int} {xs ys : List (Bool × List Nat)} : Ctr Try.prog 46 [isM r c xs, isM r2 c2 ys] (isB (formB r c xs.length && formB r2 c2 ys.length && decide (r = r2) && decide (c = c2))) := by
 refine Ctr.intro Try.func46 rfl (by kernel_rfl) Try.ntmps46 rfl fun w0 F0 => ?_
 refine .cv (Cv.wk (.k 0 rfl (.k 1 rfl .nil))) ?_
 refine .seq fun _ k1 => .region (.box (.t rfl) rfl fun b1 => ?_)
 refine .box (.t rfl) rfl fun b2 => ?_
 refine st (.as (Has.cB false)) rfl ?_
 refine nl (.thn (k1 _ _ ?_))
 refine .seq fun _ k2 => .region (st (.load (.t rfl) (i := 1) rfl ty24 rfl (Ss' := [_, _, _]) rfl) rfl ?_)
 refine st (.call (zmat_Formed) (.cons (.t rfl) .nil)) rfl ?_
 refine st (.mv (.t rfl)) rfl ?_
 refine stT rfl rfl (fun hg => have hg' := BP.t hg; OK1.load (.t rfl) (i := 0) rfl ty24 rfl (Ss' := [_, _, _]) rfl) rfl ?_
 refine stT rfl rfl (fun hg => have hg' := BP.t hg; OK1.call (zmat_Formed) (.cons (Has.g rfl hg) .nil)) rfl ?_
 refine st (.pickAnd (.t rfl) (fun h => Has.g rfl h)) rfl ?_
 refine st (.mv (.t rfl)) rfl ?_
 refine stT rfl rfl (fun hg => have hg' := BP.t hg; OK1.fieldAddr (.t rfl) fld24_0 ty3) rfl ?_
 refine stT rfl rfl (fun hg => have hg' := BP.t hg; OK1.load1 (Has.g rfl hg) (i := 1) rfl ty3 rfl) rfl ?_
 refine stT rfl rfl (fun hg => have hg' := BP.t hg; OK1.fieldAddr (.t rfl) fld24_0 ty3) rfl ?_
 refine stT rfl rfl (fun hg => have hg' := BP.t hg; OK1.load1 (Has.g rfl hg) (i := 0) rfl ty3 rfl) rfl ?_
 refine stT rfl rfl (fun hg => have hg' := BP.t hg; OK1.eqI (Has.g rfl hg) (Has.g rfl hg)) rfl ?_
 refine st (.pickAnd (.t rfl) (fun h => Has.g rfl h)) rfl ?_
 refine st (.mv (.t rfl)) rfl ?_
 refine stT rfl rfl (fun hg => have hg' := BP.t hg; OK1.fieldAddr (.t rfl) fld24_1 ty3) rfl ?_
 refine stT rfl rfl (fun hg => have hg' := BP.t hg; OK1.load1 (Has.g rfl hg) (i := 1) rfl ty3 rfl) rfl ?_
 refine stT rfl rfl (fun hg => have hg' := BP.t hg; OK1.fieldAddr (.t rfl) fld24_1 ty3) rfl ?_
 refine stT rfl rfl (fun hg => have hg' := BP.t hg; OK1.load1 (Has.g rfl hg) (i := 0) rfl ty3 rfl) rfl ?_
 refine stT rfl rfl (fun hg => have hg' := BP.t hg; OK1.eqI (Has.g rfl hg) (Has.g rfl hg)) rfl ?_
 refine st (.pickAnd (.t rfl) (fun h => Has.g rfl h)) rfl ?_
 refine st (.as (.t rfl)) rfl ?_
 refine nl (.thn (k2 _ _ ?_))
 refine .cv (Cv.wk (.k 4 rfl .nil)) ?_
 refine .ret ?_
 refine rt1 (.inl rfl) Try.results46 rfl (.tmp (Has.t' rfl ?_) .nil)
 all_goals (rfl)
theorem sl_EqualFuncZ {xs ys : List (Bool × List Nat)} {K : Nat} (hx : Bd (vals xs) K) (hy : Bd (vals ys) K) : Ctr Try.prog 47 [SlK 2 zc xs, SlK 2 zc ys, isFun (ι := PR K) Try.prog (fun p => [Flat (zc p.1.1), Flat (zc p.1.2)]) (fun p => isB (decide (zv p.1.1.1 p.1.1.2 = zv p.1.2.1 p.1.2.2)))] (isB (decide (vals xs = vals ys))) := by
 refine Ctr.intro Try.func47 rfl (by kernel_rfl) Try.ntmps47 rfl fun w0 F0 => ?_
 refine .cv (Cv.wk (.k 0 rfl (.k 1 rfl (.k 2 rfl .nil)))) ?_
 refine .fact (Has.lenLt (Has.t (t := 0) rfl)) fun lt0 => ?_
 refine .fact (Has.lenLt (Has.t (t := 1) rfl)) fun lt1 => ?_
 refine .seq fun _ k1 => .region (st (.as (Has.cB false)) rfl ?_)
 refine nl (.thn (k1 _ _ ?_))
 refine .seq fun _ k2 => ?_
 refine .seq fun _ k3 => .region (st (.mv (.t rfl)) rfl ?_)
 refine st (.len sl22 (.t rfl)) rfl ?_
 refine st (.mv (.t rfl)) rfl (st (.len sl22 (.t rfl)) rfl ?_)
 refine st (.neI (.t rfl) (.t rfl)) rfl ?_
 refine nl (.thn (k3 _ _ ?_))
 refine .cond (.t rfl) (fun hc1 => ?_) (fun hc1 => ?_)
 ·have hc1 := BP.t hc1
  skip
  refine .seq fun _ k4 => .region (st (.as (Has.cB false)) rfl ?_)
  refine nl (.thn (k4 _ _ ?_))
  refine .cv (Cv.wk (.k 0 rfl (.k 1 rfl (.k 2 rfl (.k 6 rfl .nil))))) ?_
  refine .ret ?_
  refine .thr ?_
  refine rt1 (.inl rfl) Try.results47 rfl (.tmp (Has.t' rfl ?_) .nil)
  all_goals (exact isB_eq (decide_eq_false fun h => by have := congrArg List.length h; rw [vals_len, vals_len] at this; omega).symm)
 ·have hc1 := BP.f hc1
  have hll : xs.length = ys.length := (by omega)
  refine .skip ?_
  refine .thn (k2 _ _ ?_)
  refine .cv (Cv.wk (.k 0 rfl (.k 1 rfl (.k 2 rfl (.k 6 rfl .nil))))) ?_
  refine .seq fun _ k5 => ?_
  refine .seq fun _ k6 => .region (st (.mv (.t rfl)) rfl ?_)
  refine st (.len sl22 (.t rfl)) rfl (st (.mv (Has.cI 0 rfl)) rfl ?_)
  refine nl (.thn (k6 _ _ ?_))
  refine .block ?_
  refine .loopF [1, 2, 15, 16] (fun (z : { i : Nat // i ≤ xs.length ∧ ∀ j, j < i → cf (vals xs) j = cf (vals ys) j }) => match z with | ⟨i, hI⟩ => [(17, isI (i : Int))]) (fun M => fun (z : { i : Nat // i ≤ xs.length ∧ ∀ j, j < i → cf (vals xs) j = cf (vals ys) j }) => match z with | ⟨i, hI⟩ => M) (fun (z : { i : Nat // i ≤ xs.length ∧ ∀ j, j < i → cf (vals xs) j = cf (vals ys) j }) => match z with | ⟨i, hI⟩ => xs.length - i) (⟨0, Nat.zero_le _, fun j hj => absurd hj (Nat.not_lt_zero _)⟩) (Cv.mem (.cons (t := 17) (Has.t' rfl ?_) (.k 1 rfl (.k 2 rfl (.k 15 rfl (.k 16 rfl .nil))))) ?_) ?_
  ·rfl
  ·rfl
  rintro ⟨i, hi, hq⟩ K7 hK7
  refine .cv (Cv.wk (.k 17 rfl (.k 1 rfl (.k 2 rfl (.k 15 rfl (.k 16 rfl .nil)))))) ?_
  refine .seq fun _ k8 => .region (st (.ltI (.t rfl) (.t rfl)) rfl ?_)
  refine nl (.thn (k8 _ _ ?_))
  refine .seq fun _ k9 => ?_
  refine .cond (.t rfl) (fun hc2 => ?_) (fun hc2 => ?_)
  ·have hc2 := BP.t hc2
   refine .skip ?_
   refine .thn (k9 _ _ ?_)
   refine .seq fun _ k10 => ?_
   refine .block ?_
   refine .seq fun _ k11 => .region (st (.mv (.t rfl)) rfl ?_)
   refine st (.ixK sl22 ty30 (.t rfl) (.t rfl) zc_len ⟨by omega, by omega⟩ (getD_some (d := (false, [])) (by first | omega | (simp only [Int.toNat_natCast, List.length_set]; omega)))) rfl ?_
   refine st (.loadP (.t rfl) ty30 rfl (Ss' := [_, _]) rfl) rfl ?_
   refine .alloc [isB false, SlM isU []] zero30 (fun _ _ => ⟨rfl, nilM _ _, trivial⟩) rfl fun b1 => ?_
   refine st (.as (.t rfl)) rfl ?_
   refine .store (.t rfl) (.t rfl) (i := 0) rfl ty30 rfl rfl (Ss' := [_, _]) rfl (M' := [(some _, cellM [_, _])]) rfl ?_
   refine nl (.thn (k11 _ _ ?_))
   refine .seq fun _ k12 => .region (st (.mv (.t rfl)) rfl ?_)
   refine st (.mv (.t rfl)) rfl (st (.ixK sl22 ty30 (.t rfl) (.t rfl) zc_len ⟨by omega, by omega⟩ (getD_some (d := (false, [])) (by first | omega | (simp only [Int.toNat_natCast, List.length_set]; omega)))) rfl ?_)
   refine st (.loadP (.t rfl) ty30 rfl (Ss' := [_, _]) rfl) rfl ?_
   refine .alloc [isB false, SlM isU []] zero30 (fun _ _ => ⟨rfl, nilM _ _, trivial⟩) rfl fun b2 => ?_
   refine .store (.t rfl) (.t rfl) (i := 0) rfl ty30 rfl rfl (Ss' := [_, _]) rfl (M' := [(some _, cellM [_, _]), _]) rfl ?_
   refine nl (.thn (k12 _ _ ?_))
   refine .seq fun _ k13 => .region (st (.mv (.t rfl)) rfl ?_)
   refine st (.load (.t rfl) (i := 1) rfl ty30 rfl (Ss' := [_, _]) rfl) rfl (st (.load (.t rfl) (i := 0) rfl ty30 rfl (Ss' := [_, _]) rfl) rfl ?_)
   refine st (.callV ⟨(xs.getD i (false, []), ys.getD i (false, [])), hx.raw i, hy.raw i⟩ (.t rfl) (.cons (.t rfl) (.cons (.t rfl) .nil))) rfl ?_
   refine st (.not (.t rfl)) rfl ?_
   refine nl (.thn (k13 _ _ ?_))
   refine .cond (.t rfl) (fun hc3 => ?_) (fun hc3 => ?_)
   ·have hc3 := BP.t hc3
    have HQ : ¬ cf (vals xs) i = cf (vals ys) i := (by rw [cf_vals, cf_vals]; simpa using hc3)
    refine .seq fun _ k14 => .region (st (.as (Has.cB false)) rfl ?_)
    refine nl (.thn (k14 _ _ ?_))
    refine .ret ?_
    refine .blr ?_
    refine .thr ?_
    refine .thr ?_
    refine .blr ?_
    refine .thr ?_
    refine rt1 (.inl rfl) Try.results47 rfl (.tmp (Has.t' rfl ?_) .nil)
    all_goals (exact isB_eq (decide_eq_false fun h => HQ (by rw [h])).symm)
   ·have hc3 := BP.f hc3
    have HQ : cf (vals xs) i = cf (vals ys) i := (by rw [cf_vals, cf_vals]; simpa using hc3)
    refine .skip ?_
    refine .bln ?_
    refine .thn (k10 _ _ ?_)
    refine .region (st (.addI (.t rfl) (Has.cI 1 rfl) (by first | omega | assumption) (by first | omega | assumption)) rfl ?_)
    refine st (.mv (.t rfl)) rfl ?_
    refine nl ?_
    refine .thn ?_
    refine hK7 (⟨i + 1, by omega, fun j hj => by rcases Nat.lt_or_ge j i with h | h; exact hq j h; obtain rfl : j = i := (by omega); exact HQ⟩) _ _ ?_ (Cv.trans (Cv.drop ((.cons _ (.cons _ .slnil)))) (Cv.mem (.cons (t := 17) (Has.t' rfl ?_) (.k 1 rfl (.k 2 rfl (.k 15 rfl (.k 16 rfl .nil))))) ?_))
    ·show xs.length - (i + 1) < xs.length - i; omega
    ·exact isI_eq (by omega)
    ·rfl
  ·have hc2 := BP.f hc2
   refine .exit ?_
   refine .the ?_
   refine .the ?_
   refine .blh ?_
   refine .thn (k5 _ _ ?_)
   refine .cv (Cv.wk .nil) ?_
   refine .seq fun _ k15 => .region (st (.as (Has.cB true)) rfl ?_)
   refine nl (.thn (k15 _ _ ?_))
   refine .ret ?_
   refine rt1 (.inl rfl) Try.results47 rfl (.tmp (Has.t' rfl ?_) .nil)
   all_goals (exact isB_eq (decide_eq_true (ext_cf (by rw [vals_len, vals_len]; exact hll) fun j hj => hq j (by rw [vals_len] at hj; omega))).symm)
theorem zmat_Same {r c r2 c2 : Int} {xs ys : List (Bool × List Nat)} {K : Nat} (hx : Bd (vals xs) K) (hy : Bd (vals ys) K) (hK : K ≤ 4000000000) : Ctr Try.prog 18 [isM r c xs, isM r2 c2 ys] (isB (formB r c xs.length && formB r2 c2 ys.length && decide (r = r2) && decide (c = c2) && decide (vals xs = vals ys))) := by
 refine Ctr.intro Try.func18 rfl (by kernel_rfl) Try.ntmps18 rfl fun w0 F0 => ?_
 refine .cv (Cv.wk (.k 0 rfl (.k 1 rfl .nil))) ?_
 refine .seq fun _ k1 => .region (.box (.t rfl) rfl fun b1 => ?_)
 refine .box (.t rfl) rfl fun b2 => ?_
 refine st (.as (Has.cB false)) rfl ?_
 refine nl (.thn (k1 _ _ ?_))
 refine .seq fun _ k2 => .region (st (.load (.t rfl) (i := 1) rfl ty24 rfl (Ss' := [_, _, _]) rfl) rfl ?_)
 refine st (.load (.t rfl) (i := 0) rfl ty24 rfl (Ss' := [_, _, _]) rfl) rfl (st (.call (zmat_alike) (.cons (.t rfl) (.cons (.t rfl) .nil))) rfl ?_)
 refine st (.mv (.t rfl)) rfl ?_
 refine stT rfl rfl (fun hg => have hg' := BP.t hg; OK1.fieldAddr (.t rfl) fld24_2 ty22) rfl ?_
 refine stT rfl rfl (fun hg => have hg' := BP.t hg; OK1.load1 (Has.g rfl hg) (i := 1) rfl ty22 rfl) rfl ?_
 refine stT rfl rfl (fun hg => have hg' := BP.t hg; OK1.fieldAddr (.t rfl) fld24_2 ty22) rfl ?_
 refine stT rfl rfl (fun hg => have hg' := BP.t hg; OK1.load1 (Has.g rfl hg) (i := 0) rfl ty22 rfl) rfl ?_
 refine stT rfl rfl (fun hg => have hg' := BP.t hg; OK1.call (sl_EqualFuncZ hx hy) (.cons (Has.g rfl hg) (.cons (Has.g rfl hg) (.cons (Has.fn (fun i => zint_Same (by have := i.2.1; omega) (by have := i.2.2; omega))) .nil)))) rfl ?_
 refine st (.pickAnd (.t rfl) (fun h => Has.g rfl h)) rfl ?_
 refine st (.as (.t rfl)) rfl ?_
 refine nl (.thn (k2 _ _ ?_))
 refine .cv (Cv.wk (.k 4 rfl .nil)) ?_
 refine .ret ?_
 refine rt1 (.inl rfl) Try.results18 rfl (.tmp (Has.t' rfl ?_) .nil)
 all_goals (rfl)
theorem zmat_Rows_1 {r : Int} {C i k lo : Nat} {xs : List (Bool × List Nat)} (hxm : xs.length ≤ 4096) (hlo : lo + i ≤ 100) (hp : (lo + i) * C + k < xs.length) : Ctr Try.prog 81 [isI (i : Int), isI (k : Int), ptM r (C : Int) xs, PtrL [isI (lo : Int)]] (Flat (zc (xs.getD ((lo + i) * C + k) (false, [])))) := by
 refine Ctr.intro Try.func81 rfl (by kernel_rfl) Try.ntmps81 rfl fun w0 F0 => ?_
 refine .cv (Cv.wk (.k 0 rfl (.k 1 rfl (.k 2 rfl (.k 3 rfl .nil))))) ?_
 refine .fact (Has.rngI (Has.t (t := 0) rfl)) fun lt0 => ?_
 refine .fact (Has.rngI (Has.t (t := 1) rfl)) fun lt1 => ?_
 refine .seq fun _ k1 => .region (.alloc [isB false, SlM isU []] zero30 (fun _ _ => ⟨rfl, nilM _ _, trivial⟩) rfl fun b1 => ?_)
 refine nl (.thn (k1 _ _ ?_))
 refine .seq fun _ k2 => .region (st (.loadP (.t rfl) ty24 rfl (Ss' := [_, _, _]) rfl) rfl ?_)
 refine st (.loadP1 (.t rfl) ty3) rfl ?_
 refine st (.mv (.t rfl)) rfl (st (.eq (.addI (.t rfl) (.t rfl) (by first | omega | assumption) (by first | omega | assumption)) ((show isI _ = isI ((lo + i : Nat) : Int) from isI_eq (by omega)))) rfl ?_)
 refine st (.mv (.t rfl)) rfl (st (.call (zmat_get (i := lo + i) (k := k) hxm hp) (.cons (.t rfl) (.cons (.t rfl) (.cons (.t rfl) .nil)))) rfl ?_)
 refine .store (.t rfl) (.t rfl) (i := 0) rfl ty30 rfl rfl (Ss' := [_, _]) rfl (M' := [(some _, cellM [_, _])]) rfl ?_
 refine nl (.thn (k2 _ _ ?_))
 refine .cv (Cv.wk (.k 6 rfl .nil)) ?_
 refine .ret ?_
 refine rt1 (.inl rfl) Try.results81 rfl (.cell rfl (i := 0) rfl ty30 rfl ?_ .nil)
 all_goals (rfl)
theorem zmat_Rows {R C K lo hi : Nat} {xs : List (Bool × List Nat)} (hx : Bd (vals xs) K) (hK : K ≤ 400000000) (hR : R ≤ 64) (hC : C ≤ 64) (hl : xs.length = R * C) (h1 : lo ≤ hi) (h2 : hi ≤ R) : Ctr Try.prog 44 [isM (R : Int) (C : Int) xs, isI (lo : Int), isI (hi : Int)] (isTup [isMz ((hi - lo : Nat)) C (tab ((hi - lo) * C) C fun i k => cf (vals xs) ((lo + i) * C + k)), isI 0]) := by
 refine Ctr.intro Try.func44 rfl (by kernel_rfl) Try.ntmps44 rfl fun w0 F0 => ?_
 refine .cv (Cv.wk (.k 0 rfl (.k 1 rfl (.k 2 rfl .nil)))) ?_
 refine .fact (Has.rngI (Has.t (t := 1) rfl)) fun lt1 => ?_
 refine .fact (Has.rngI (Has.t (t := 2) rfl)) fun lt2 => ?_
 have hRC := side_le hR hC
 have hfo := formB_true hR hC hl
 refine .seq fun _ k1 => .region (.box (.t rfl) rfl fun b1 => ?_)
 refine .box (.t rfl) rfl fun b2 => ?_
 refine .alloc [isI 0, isI 0, nilS] zero24 (fun _ _ => ⟨⟨rfl, by decide, by decide⟩, ⟨rfl, by decide, by decide⟩, rfl, trivial⟩) rfl fun b3 => ?_
 refine st (.as (Has.cI 0 rfl)) rfl ?_
 refine nl (.thn (k1 _ _ ?_))
 refine .seq fun _ k2 => ?_
 refine .block ?_
 refine .seq fun _ k3 => .region (st (.load (.t rfl) (i := 2) rfl ty24 rfl (Ss' := [_, _, _]) rfl) rfl ?_)
 refine st (.eq (.call (zmat_Formed) (.cons (.t rfl) .nil)) ((show isB _ = isB true from isB_eq (hfo)))) rfl ?_
 refine st (.not (.t rfl)) rfl ?_
 refine st (.as (.t rfl)) rfl ?_
 refine nl (.thn (k3 _ _ ?_))
 refine .cv (Cv.wk (.k 2 rfl (.k 3 rfl (.k 4 rfl (.k 6 rfl (.k 7 rfl (.k 8 rfl .nil))))))) ?_
 refine .cond (.t rfl) (fun hc1 => ?_) (fun hc1 => ?_)
 ·have hc1 := BP.t hc1
  exfalso; simp at hc1
 ·have hc1 := BP.f hc1
  refine .seq fun _ k4 => .region (st (.load1 (.t rfl) (i := 1) rfl ty3 rfl) rfl ?_)
  refine st (.ltI (.t rfl) (Has.cI 0 rfl)) rfl ?_
  refine st (.mv (.t rfl)) rfl ?_
  refine stF rfl rfl (fun hg => have hg' := BP.t hg; OK1.load1 (.t rfl) (i := 1) rfl ty3 rfl) rfl ?_
  refine stF rfl rfl (fun hg => have hg' := BP.t hg; OK1.mv (.t rfl)) rfl ?_
  refine stF rfl rfl (fun hg => have hg' := BP.t hg; OK1.gtI (Has.g rfl hg) (Has.g rfl hg)) rfl ?_
  refine st (.pickOr (.t rfl) (fun h => Has.g rfl (ng h))) rfl ?_
  refine st (.mv (.t rfl)) rfl ?_
  refine stF rfl rfl (fun hg => have hg' := BP.t hg; OK1.mv (.t rfl)) rfl ?_
  refine stF rfl rfl (fun hg => have hg' := BP.t hg; OK1.fieldAddr (.t rfl) fld24_0 ty3) rfl ?_
  refine stF rfl rfl (fun hg => have hg' := BP.t hg; OK1.load1 (Has.g rfl hg) (i := 2) rfl ty3 rfl) rfl ?_
  refine stF rfl rfl (fun hg => have hg' := BP.t hg; OK1.gtI (Has.g rfl hg) (Has.g rfl hg)) rfl ?_
  refine st (.pickOr (.t rfl) (fun h => Has.g rfl (ng h))) rfl ?_
  refine st (.as (.t rfl)) rfl ?_
  refine nl (.thn (k4 _ _ ?_))
  refine .cv (Cv.wk (.k 2 rfl (.k 3 rfl (.k 4 rfl (.k 6 rfl (.k 7 rfl (.k 13 rfl .nil))))))) ?_
  refine .cond (.t rfl) (fun hc2 => ?_) (fun hc2 => ?_)
  ·have hc2 := BP.t hc2
   exfalso; omega
  ·have hc2 := BP.f hc2
   refine .skip ?_
   refine .bln ?_
   refine .thn (k2 _ _ ?_)
   refine .seq fun _ k5 => .region (st (.mv (.t rfl)) rfl ?_)
   refine st (.load1 (.t rfl) (i := 1) rfl ty3 rfl) rfl (st (.eq (.subI (.t rfl) (.t rfl) (by first | omega | assumption) (by first | omega | assumption)) ((show isI _ = isI ((hi - lo : Nat) : Int) from isI_eq (by omega)))) rfl ?_)
   refine st (.fieldAddr (.t rfl) fld24_1 ty3) rfl (st (.load1 (.t rfl) (i := 2) rfl ty3 rfl) rfl ?_)
   refine .cv (Cv.freezeBox (t := 3) (i := 2) rfl rfl rfl) ?_
   refine .memEq (M' := [_, _]) rfl ?_
   refine .cv (Cv.wk (.k 2 rfl (.k 3 rfl (.k 4 rfl (.k 6 rfl (.k 7 rfl (.k 13 rfl (.k 28 rfl (.k 29 rfl (.k 30 rfl (.k 32 rfl .nil))))))))))) ?_
   refine .cv (Cv.freezeBox (t := 4) (i := 1) rfl rfl rfl) ?_
   refine .memEq (M' := [_]) rfl ?_
   refine .cv (Cv.wk (.k 2 rfl (.k 3 rfl (.k 4 rfl (.k 6 rfl (.k 7 rfl (.k 13 rfl (.k 28 rfl (.k 29 rfl (.k 30 rfl (.k 32 rfl .nil))))))))))) ?_
   refine st (.makeFn (ι := PI (hi - lo) C) (As := fun p => [isI (p.1.1 : Int), isI (p.1.2 : Int)]) (R := fun p => Flat (zc (xs.getD ((lo + p.1.1) * C + p.1.2) (false, [])))) (fun p => zmat_Rows_1 (by omega) (by have := p.2.1; omega) (by have := place_lt (show lo + p.1.1 < R by have := p.2.1; omega) p.2.2; omega)) .nil (.cons (.t rfl) (.cons (.t rfl) .nil))) rfl ?_
   refine st (.call (zmat_made (f := fun i k => xs.getD ((lo + i) * C + k) (false, [])) (by omega) hC (fun i k _ _ => Nat.le_trans (hx.raw _) (by omega))) (.cons (.t rfl) (.cons (.t rfl) (.cons (.t rfl) .nil)))) rfl ?_
   refine .store (.t rfl) (.t rfl) (i := 0) rfl ty24 rfl rfl (Ss' := [_, _, _]) rfl (M' := [(some _, cellM [_, _, _])]) rfl ?_
   refine st (.as (Has.cI 0 rfl)) rfl ?_
   refine nl (.thn (k5 _ _ ?_))
   refine .cv (Cv.wk (.k 6 rfl (.k 7 rfl .nil))) ?_
   refine .ret ?_
   refine rtN (.inl rfl) Try.results44 rfl rfl (.cell rfl (i := 0) rfl ty24 rfl ?_ (.tmp (Has.t' rfl ?_) .nil))
   ·exact isMz_eq (by congr 1; funext i k; rw [cf_vals])
   ·rfl
theorem zmat_Stack_1 {R R' C i k : Nat} {xs ys : List (Bool × List Nat)} (hxm : xs.length ≤ 4096) (hym : ys.length ≤ 4096) (hxl : xs.length = R * C) (hyl : ys.length = R' * C) (hi : i < R + R') (hk : k < C) : Ctr Try.prog 77 [isI (i : Int), isI (k : Int), ptM (R : Int) (C : Int) xs, ptM (R' : Int) (C : Int) ys] (Flat (zc (if i < R then xs.getD (i * C + k) (false, []) else ys.getD ((i - R) * C + k) (false, [])))) := by
 refine Ctr.intro Try.func77 rfl (by kernel_rfl) Try.ntmps77 rfl fun w0 F0 => ?_
 refine .cv (Cv.wk (.k 0 rfl (.k 1 rfl (.k 2 rfl (.k 3 rfl .nil))))) ?_
 refine .fact (Has.rngI (Has.t (t := 0) rfl)) fun lt0 => ?_
 refine .fact (Has.rngI (Has.t (t := 1) rfl)) fun lt1 => ?_
 refine .seq fun _ k1 => .region (.alloc [isB false, SlM isU []] zero30 (fun _ _ => ⟨rfl, nilM _ _, trivial⟩) rfl fun b1 => ?_)
 refine nl (.thn (k1 _ _ ?_))
 refine .seq fun _ k2 => ?_
 refine .seq fun _ k3 => .region (st (.mv (.t rfl)) rfl ?_)
 refine st (.fieldAddrP (.t rfl) fld24_0 ty3 (Ss' := [_, _, _]) rfl) rfl ?_
 refine st (.loadP1 (.t rfl) ty3) rfl ?_
 refine st (.ltI (.t rfl) (.t rfl)) rfl ?_
 refine nl (.thn (k3 _ _ ?_))
 refine .cond (.t rfl) (fun hc1 => ?_) (fun hc1 => ?_)
 ·have hc1 := BP.t hc1
  refine .seq fun _ k4 => .region (st (.loadP (.t rfl) ty24 rfl (Ss' := [_, _, _]) rfl) rfl ?_)
  refine st (.mv (.t rfl)) rfl (st (.mv (.t rfl)) rfl ?_)
  refine st (.call (zmat_get (i := i) (k := k) hxm (by have := place_lt (show i < R by omega) hk; omega)) (.cons (.t rfl) (.cons (.t rfl) (.cons (.t rfl) .nil)))) rfl ?_
  refine .store (.t rfl) (.t rfl) (i := 0) rfl ty30 rfl rfl (Ss' := [_, _]) rfl (M' := [(some _, cellM [_, _])]) rfl ?_
  refine nl (.thn (k4 _ _ ?_))
  refine .cv (Cv.wk (.k 0 rfl (.k 1 rfl (.k 2 rfl (.k 3 rfl (.k 6 rfl .nil)))))) ?_
  refine .ret ?_
  refine .thr ?_
  refine rt1 (.inl rfl) Try.results77 rfl (.cell rfl (i := 0) rfl ty30 rfl ?_ .nil)
  all_goals (rw [if_pos (by omega)])
 ·have hc1 := BP.f hc1
  refine .skip ?_
  refine .thn (k2 _ _ ?_)
  refine .seq fun _ k5 => .region (st (.loadP (.t rfl) ty24 rfl (Ss' := [_, _, _]) rfl) rfl ?_)
  refine st (.mv (.t rfl)) rfl (st (.fieldAddrP (.t rfl) fld24_0 ty3 (Ss' := [_, _, _]) rfl) rfl ?_)
  refine st (.loadP1 (.t rfl) ty3) rfl ?_
  refine st (.eq (.subI (.t rfl) (.t rfl) (by first | omega | assumption) (by first | omega | assumption)) ((show isI _ = isI ((i - R : Nat) : Int) from isI_eq (by omega)))) rfl ?_
  refine st (.mv (.t rfl)) rfl (st (.call (zmat_get (i := i - R) (k := k) hym (by have := place_lt (show i - R < R' by omega) hk; omega)) (.cons (.t rfl) (.cons (.t rfl) (.cons (.t rfl) .nil)))) rfl ?_)
  refine .store (.t rfl) (.t rfl) (i := 0) rfl ty30 rfl rfl (Ss' := [_, _]) rfl (M' := [(some _, cellM [_, _])]) rfl ?_
  refine nl (.thn (k5 _ _ ?_))
  refine .cv (Cv.wk (.k 6 rfl .nil)) ?_
  refine .ret ?_
  refine rt1 (.inl rfl) Try.results77 rfl (.cell rfl (i := 0) rfl ty30 rfl ?_ .nil)
  all_goals (rw [if_neg (by omega)])
theorem zmat_Stack {R R' C K : Nat} {xs ys : List (Bool × List Nat)} (hx : Bd (vals xs) K) (hy : Bd (vals ys) K) (hK : K ≤ 400000000) (hR : R + R' ≤ 64) (hC : C ≤ 64) (hl : xs.length = R * C) (hyl : ys.length = R' * C) : Ctr Try.prog 42 [isM (R : Int) (C : Int) xs, isM (R' : Int) (C : Int) ys] (isTup [isMz ((R + R' : Nat)) C (stkL R R' C (vals xs) (vals ys)), isI 0]) := by
 refine Ctr.intro Try.func42 rfl (by kernel_rfl) Try.ntmps42 rfl fun w0 F0 => ?_
 refine .cv (Cv.wk (.k 0 rfl (.k 1 rfl .nil))) ?_
 have h1 := side_le (show R ≤ 64 by omega) hC
 have h2 := side_le (show R' ≤ 64 by omega) hC
 have hfo := formB_true (show R ≤ 64 by omega) hC hl
 have hfo' := formB_true (show R' ≤ 64 by omega) hC hyl
 refine .seq fun _ k1 => .region (.box (.t rfl) rfl fun b1 => ?_)
 refine .box (.t rfl) rfl fun b2 => ?_
 refine .alloc [isI 0, isI 0, nilS] zero24 (fun _ _ => ⟨⟨rfl, by decide, by decide⟩, ⟨rfl, by decide, by decide⟩, rfl, trivial⟩) rfl fun b3 => ?_
 refine st (.as (Has.cI 0 rfl)) rfl ?_
 refine nl (.thn (k1 _ _ ?_))
 refine .seq fun _ k2 => ?_
 refine .block ?_
 refine .seq fun _ k3 => .region (st (.load (.t rfl) (i := 2) rfl ty24 rfl (Ss' := [_, _, _]) rfl) rfl ?_)
 refine st (.eq (.call (zmat_Formed) (.cons (.t rfl) .nil)) ((show isB _ = isB true from isB_eq (hfo)))) rfl ?_
 refine st (.not (.t rfl)) rfl ?_
 refine st (.mv (.t rfl)) rfl ?_
 refine stF rfl rfl (fun hg => have hg' := BP.t hg; OK1.load (.t rfl) (i := 1) rfl ty24 rfl (Ss' := [_, _, _]) rfl) rfl ?_
 refine stF rfl rfl (fun hg => have hg' := BP.t hg; OK1.eq (.call (zmat_Formed) (.cons (Has.g rfl hg) .nil)) ((show isB _ = isB true from isB_eq (hfo')))) rfl ?_
 refine stF rfl rfl (fun hg => have hg' := BP.t hg; OK1.not (Has.g rfl hg)) rfl ?_
 refine st (.pickOr (.t rfl) (fun h => Has.g rfl (ng h))) rfl ?_
 refine st (.mv (.t rfl)) rfl ?_
 refine stF rfl rfl (fun hg => have hg' := BP.t hg; OK1.fieldAddr (.t rfl) fld24_1 ty3) rfl ?_
 refine stF rfl rfl (fun hg => have hg' := BP.t hg; OK1.load1 (Has.g rfl hg) (i := 2) rfl ty3 rfl) rfl ?_
 refine stF rfl rfl (fun hg => have hg' := BP.t hg; OK1.fieldAddr (.t rfl) fld24_1 ty3) rfl ?_
 refine stF rfl rfl (fun hg => have hg' := BP.t hg; OK1.load1 (Has.g rfl hg) (i := 1) rfl ty3 rfl) rfl ?_
 refine stF rfl rfl (fun hg => have hg' := BP.t hg; OK1.neI (Has.g rfl hg) (Has.g rfl hg)) rfl ?_
 refine st (.pickOr (.t rfl) (fun h => Has.g rfl (ng h))) rfl ?_
 refine st (.as (.t rfl)) rfl ?_
 refine nl (.thn (k3 _ _ ?_))
 refine .cv (Cv.wk (.k 2 rfl (.k 3 rfl (.k 4 rfl (.k 5 rfl (.k 6 rfl .nil)))))) ?_
 refine .cond (.t rfl) (fun hc1 => ?_) (fun hc1 => ?_)
 ·have hc1 := BP.t hc1
  exfalso; simp at hc1
 ·have hc1 := BP.f hc1
  refine .seq fun _ k4 => .region (st (.fieldAddr (.t rfl) fld24_0 ty3) rfl ?_)
  refine st (.load1 (.t rfl) (i := 2) rfl ty3 rfl) rfl (st (.fieldAddr (.t rfl) fld24_0 ty3) rfl ?_)
  refine st (.load1 (.t rfl) (i := 1) rfl ty3 rfl) rfl (st (.eq (.addI (.t rfl) (.t rfl) (by first | omega | assumption) (by first | omega | assumption)) ((show isI _ = isI ((R + R' : Nat) : Int) from isI_eq (by omega)))) rfl ?_)
  refine st (.call (zmat_side) (.cons (.t rfl) .nil)) rfl ?_
  refine st (.not (.t rfl)) rfl ?_
  refine st (.as (.t rfl)) rfl ?_
  refine nl (.thn (k4 _ _ ?_))
  refine .cv (Cv.wk (.k 2 rfl (.k 3 rfl (.k 4 rfl (.k 5 rfl (.k 23 rfl .nil)))))) ?_
  refine .cond (.t rfl) (fun hc2 => ?_) (fun hc2 => ?_)
  ·have hc2 := BP.t hc2
   exfalso; simp at hc2; omega
  ·have hc2 := BP.f hc2
   refine .skip ?_
   refine .bln ?_
   refine .thn (k2 _ _ ?_)
   refine .seq fun _ k5 => .region (st (.fieldAddr (.t rfl) fld24_0 ty3) rfl ?_)
   refine st (.load1 (.t rfl) (i := 2) rfl ty3 rfl) rfl (st (.fieldAddr (.t rfl) fld24_0 ty3) rfl ?_)
   refine st (.load1 (.t rfl) (i := 1) rfl ty3 rfl) rfl (st (.eq (.addI (.t rfl) (.t rfl) (by first | omega | assumption) (by first | omega | assumption)) ((show isI _ = isI ((R + R' : Nat) : Int) from isI_eq (by omega)))) rfl ?_)
   refine st (.fieldAddr (.t rfl) fld24_1 ty3) rfl (st (.load1 (.t rfl) (i := 2) rfl ty3 rfl) rfl ?_)
   refine .cv (Cv.freezeBox (t := 2) (i := 2) rfl rfl rfl) ?_
   refine .memEq (M' := [_, _]) rfl ?_
   refine .cv (Cv.wk (.k 2 rfl (.k 3 rfl (.k 4 rfl (.k 5 rfl (.k 23 rfl (.k 33 rfl (.k 34 rfl (.k 35 rfl (.k 36 rfl (.k 38 rfl .nil))))))))))) ?_
   refine .cv (Cv.freezeBox (t := 3) (i := 1) rfl rfl rfl) ?_
   refine .memEq (M' := [_]) rfl ?_
   refine .cv (Cv.wk (.k 2 rfl (.k 3 rfl (.k 4 rfl (.k 5 rfl (.k 23 rfl (.k 33 rfl (.k 35 rfl (.k 36 rfl (.k 38 rfl .nil)))))))))) ?_
   refine st (.makeFn (ι := PI (R + R') C) (As := fun p => [isI (p.1.1 : Int), isI (p.1.2 : Int)]) (R := fun p => Flat (zc (if p.1.1 < R then xs.getD (p.1.1 * C + p.1.2) (false, []) else ys.getD ((p.1.1 - R) * C + p.1.2) (false, [])))) (fun p => zmat_Stack_1 (by omega) (by omega) hl hyl p.2.1 p.2.2) .nil (.cons (.t rfl) (.cons (.t rfl) .nil))) rfl ?_
   refine st (.call (zmat_made (f := fun i k => if i < R then xs.getD (i * C + k) (false, []) else ys.getD ((i - R) * C + k) (false, [])) (by omega) hC (fun i k _ _ => by split; exact Nat.le_trans (hx.raw _) (by omega); exact Nat.le_trans (hy.raw _) (by omega))) (.cons (.t rfl) (.cons (.t rfl) (.cons (.t rfl) .nil)))) rfl ?_
   refine .store (.t rfl) (.t rfl) (i := 0) rfl ty24 rfl rfl (Ss' := [_, _, _]) rfl (M' := [(some _, cellM [_, _, _])]) rfl ?_
   refine st (.as (Has.cI 0 rfl)) rfl ?_
   refine nl (.thn (k5 _ _ ?_))
   refine .cv (Cv.wk (.k 4 rfl (.k 5 rfl .nil))) ?_
   refine .ret ?_
   refine rtN (.inl rfl) Try.results42 rfl rfl (.cell rfl (i := 0) rfl ty24 rfl ?_ (.tmp (Has.t' rfl ?_) .nil))
   ·exact isMz_eq (by unfold stkL; congr 1; funext i k; rw [cf_vals, cf_vals]; split <;> rfl)
   ·rfl
theorem hnf_LatticeQ {R C K : Nat} {xs : List (Bool × List Nat)} (hx : Bd (vals xs) K) (hK : hq R (K + 4) (hrk R C (vals xs)) * (R + 2) ≤ 80000000) (hR : R ≤ 64) (hC : C ≤ 64) (hl : xs.length = R * C) : Ctr Try.prog 17 [isM (R : Int) (C : Int) xs] (isTup [isMz (pivL C (mf C (hL R C (vals xs))) R).length C (latL R C (vals xs)), isI 0]) := by
 refine Ctr.intro Try.func17 rfl (by kernel_rfl) Try.ntmps17 rfl fun w0 F0 => ?_
 refine .cv (Cv.wk (.k 0 rfl .nil)) ?_
 have hpl := pivL_len C (mf C (hL R C (vals xs))) R
 obtain ⟨P, hP⟩ : ∃ P, P = (pivL C (mf C (hL R C (vals xs))) R).length := ⟨_, rfl⟩
 rw [← hP] at hpl
 have hlat : latL R C (vals xs) = tab (P * C) C fun i k => cf (hL R C (vals xs)) ((0 + i) * C + k) := by rw [hP]; rfl
 rw [← hP]
 obtain ⟨Hl, hHl⟩ : ∃ Hl, Hl = (hL R C (vals xs)) := ⟨_, rfl⟩
 have hLl : (Hl.map nz).length = R * C := by rw [List.length_map, hHl]; exact hL_len hx
 have hLb : Bd (vals (Hl.map nz)) 80000000 := by rw [vals_nz, hHl]; exact (hL_bq hx).mono (Nat.le_trans (Nat.le_mul_of_pos_right _ (Nat.succ_pos (R + 1))) hK)
 rw [← hHl] at hlat hP
 refine .seq fun _ k1 => .region (.box (.t rfl) rfl fun b1 => ?_)
 refine .alloc [isI 0, isI 0, nilS] zero24 (fun _ _ => ⟨⟨rfl, by decide, by decide⟩, ⟨rfl, by decide, by decide⟩, rfl, trivial⟩) rfl fun b2 => ?_
 refine st (.as (Has.cI 0 rfl)) rfl ?_
 refine nl (.thn (k1 _ _ ?_))
 refine .seq fun _ k2 => .region (st (.load (.t rfl) (i := 1) rfl ty24 rfl (Ss' := [_, _, _]) rfl) rfl ?_)
 refine st (.eq (.call (hnf_HermiteQ hx hK hR hC hl) (.cons (.t rfl) .nil)) ((show _ = isTup [isMz R C Hl, isMz R R (uL R C (vals xs)), isI 0] from by rw [hHl]; rfl))) rfl ?_
 refine st (.mv (.t rfl)) rfl (st (.ext (.t rfl) rfl) rfl ?_)
 refine st (.ext (.t rfl) rfl) rfl (st (.ext (.t rfl) rfl) rfl ?_)
 refine .alloc [isI 0, isI 0, nilS] zero24 (fun _ _ => ⟨⟨rfl, by decide, by decide⟩, ⟨rfl, by decide, by decide⟩, rfl, trivial⟩) rfl fun b3 => ?_
 refine .alloc [isI 0, isI 0, nilS] zero24 (fun _ _ => ⟨⟨rfl, by decide, by decide⟩, ⟨rfl, by decide, by decide⟩, rfl, trivial⟩) rfl fun b4 => ?_
 refine .store (.t rfl) (.t rfl) (i := 1) rfl ty24 rfl rfl (Ss' := [_, _, _]) rfl (M' := [_, (some _, cellM [_, _, _]), _, _]) rfl ?_
 refine .store (.t rfl) (.t rfl) (i := 0) rfl ty24 rfl rfl (Ss' := [_, _, _]) rfl (M' := [(some _, cellM [_, _, _]), _, _, _]) rfl ?_
 refine st (.as (.t rfl)) rfl ?_
 refine nl (.thn (k2 _ _ ?_))
 refine .cv (Cv.wk (.k 2 rfl (.k 3 rfl (.k 4 rfl (.k 6 rfl .nil))))) ?_
 refine .seq fun _ k3 => ?_
 refine .seq fun _ k4 => .region (st (.mv (.t rfl)) rfl ?_)
 refine st (.neI (.t rfl) (Has.cI 0 rfl)) rfl ?_
 refine nl (.thn (k4 _ _ ?_))
 refine .cond (.t rfl) (fun hc1 => ?_) (fun hc1 => ?_)
 ·have hc1 := BP.t hc1
  exact absurd rfl hc1
 ·have hc1 := BP.f hc1
  skip
  refine .skip ?_
  refine .thn (k3 _ _ ?_)
  refine .seq fun _ k5 => ?_
  refine .dr ?_
  refine .s [] rfl rfl rfl (.o rfl (.load (.t rfl) (i := 1) rfl ty24 rfl (Ss' := [_, _, _]) rfl)) ?_
  refine .s [] rfl rfl rfl (.o rfl (.load (.t rfl) (i := 1) rfl ty24 rfl (Ss' := [_, _, _]) rfl)) ?_
  refine .s [18] rfl rfl rfl (.o rfl (.call (hnf_Pivots (K := 80000000) hLb (by decide) hR hC hLl) (.cons (.t rfl) .nil))) ?_
  refine .s [19] rfl rfl rfl (.o rfl (.eq (.len sl63 (.t rfl)) ((show isI _ = isI (P : Int) from isI_eq (by rw [pv_len, vals_nz, hP]))))) ?_
  refine .s [17, 20] rfl rfl rfl (.o rfl (.call (zmat_Rows (K := 80000000) (lo := 0) (hi := P) hLb (by decide) hR hC hLl (Nat.zero_le _) hpl) (.cons (.t rfl) (.cons (Has.cI 0 rfl) (.cons (.t rfl) .nil))))) ?_
  refine .s [21] rfl rfl rfl (.o rfl (.ext (.t rfl) rfl)) ?_
  refine .s [21] rfl rfl rfl (.o rfl (.ext (.t rfl) rfl)) ?_
  refine .fin (n := 7) mixed (by kernel_rfl) (by kernel_rfl) (by kernel_rfl) ?_
  refine .cv (Cv.wk (.k 2 rfl (.k 3 rfl (.k 22 rfl (.k 23 rfl .nil))))) ?_
  refine .store (.t rfl) (.t rfl) (i := 2) rfl ty24 rfl rfl (Ss' := [_, _, _]) rfl (M' := [_, _, (some _, cellM [_, _, _]), _]) rfl ?_
  refine st (.as (.t rfl)) rfl ?_
  refine nl (.thn (k5 _ _ ?_))
  refine .ret ?_
  refine rtN (.inl rfl) Try.results17 rfl rfl (.cell rfl (i := 2) rfl ty24 rfl ?_ (.tmp (Has.t' rfl ?_) .nil))
  ·exact (isMz_eq (by rw [vals_nz, hlat]; rfl))
  ·rfl
theorem hnf_Lattice {R C K : Nat} {xs : List (Bool × List Nat)} (hx : Bd (vals xs) K) (hK : (K + 4) * (R + 2) ^ C ≤ 1000000) (hR : R ≤ 64) (hC : C ≤ 64) (hl : xs.length = R * C) : Ctr Try.prog 17 [isM (R : Int) (C : Int) xs] (isTup [isMz (pivL C (mf C (hL R C (vals xs))) R).length C (latL R C (vals xs)), isI 0]) := hnf_LatticeQ hx (hq_ask hx hR hK) hR hC hl
theorem hnf_Is {R C K : Nat} {xs : List (Bool × List Nat)} (hx : Bd (vals xs) K) (hK : K ≤ 400000000) (hR : R ≤ 64) (hC : C ≤ 64) (hl : xs.length = R * C) : Ctr Try.prog 41 [isM (R : Int) (C : Int) xs] (isB (hermB R C (mf C (vals xs)))) := by
 refine Ctr.intro Try.func41 rfl (by kernel_rfl) Try.ntmps41 rfl fun w0 F0 => ?_
 refine .cv (Cv.wk (.k 0 rfl .nil)) ?_
 have hRC := side_le hR hC
 have hfo := formB_true hR hC hl
 refine .seq fun _ k1 => .region (.box (.t rfl) rfl fun b1 => ?_)
 refine st (.as (Has.cB false)) rfl ?_
 refine nl (.thn (k1 _ _ ?_))
 refine .seq fun _ k2 => ?_
 refine .seq fun _ k3 => .region (st (.load (.t rfl) (i := 0) rfl ty24 rfl (Ss' := [_, _, _]) rfl) rfl ?_)
 refine st (.eq (.call (zmat_Formed) (.cons (.t rfl) .nil)) ((show isB _ = isB true from isB_eq (hfo)))) rfl ?_
 refine st (.not (.t rfl)) rfl ?_
 refine nl (.thn (k3 _ _ ?_))
 refine .cond (.t rfl) (fun hc1 => ?_) (fun hc1 => ?_)
 ·have hc1 := BP.t hc1
  exfalso; simp at hc1
 ·have hc1 := BP.f hc1
  refine .skip ?_
  refine .thn (k2 _ _ ?_)
  refine .seq fun _ k4 => .region (st (.as (Has.cI (-1) rfl)) rfl ?_)
  refine st (.as (Has.cB false)) rfl ?_
  refine nl (.thn (k4 _ _ ?_))
  refine .seq fun _ k5 => ?_
  refine .seq fun _ k6 => .region (st (.fieldAddr (.t rfl) fld24_0 ty3) rfl ?_)
  refine st (.load1 (.t rfl) (i := 0) rfl ty3 rfl) rfl (st (.mv (Has.cI 0 rfl)) rfl ?_)
  refine nl (.thn (k6 _ _ ?_))
  refine .cv (Cv.wk (.k 1 rfl (.k 2 rfl (.k 3 rfl (.k 4 rfl (.k 14 rfl (.k 15 rfl .nil))))))) ?_
  refine .block ?_
  refine .loopF [1, 14] (fun (z : { z : Nat × Int × Bool // z.1 ≤ R ∧ HermF z.1 C (mf C (vals xs)) ∧ (z.2.2 = true → 0 < z.1 ∧ fc C ((mf C (vals xs)) (z.1 - 1)) = C) ∧ (z.2.2 = false → z.2.1 = if z.1 = 0 then -1 else ((fc C ((mf C (vals xs)) (z.1 - 1)) : Nat) : Int)) }) => match z with | ⟨(i, last, ended), hI⟩ => [(15, isI (i : Int)), (3, isI last), (4, isB ended)]) (fun M => fun (z : { z : Nat × Int × Bool // z.1 ≤ R ∧ HermF z.1 C (mf C (vals xs)) ∧ (z.2.2 = true → 0 < z.1 ∧ fc C ((mf C (vals xs)) (z.1 - 1)) = C) ∧ (z.2.2 = false → z.2.1 = if z.1 = 0 then -1 else ((fc C ((mf C (vals xs)) (z.1 - 1)) : Nat) : Int)) }) => match z with | ⟨(i, last, ended), hI⟩ => M) (fun (z : { z : Nat × Int × Bool // z.1 ≤ R ∧ HermF z.1 C (mf C (vals xs)) ∧ (z.2.2 = true → 0 < z.1 ∧ fc C ((mf C (vals xs)) (z.1 - 1)) = C) ∧ (z.2.2 = false → z.2.1 = if z.1 = 0 then -1 else ((fc C ((mf C (vals xs)) (z.1 - 1)) : Nat) : Int)) }) => match z with | ⟨(i, last, ended), hI⟩ => R - i) (⟨(0, -1, false), Nat.zero_le _, fun i hi => absurd hi (Nat.not_lt_zero _), fun h => (by cases h), fun _ => rfl⟩) (Cv.mem (.cons (t := 15) (Has.t' rfl ?_) (.cons (t := 3) (Has.t' rfl ?_) (.cons (t := 4) (Has.t' rfl ?_) (.k 1 rfl (.k 14 rfl .nil))))) ?_) ?_
  ·rfl
  ·rfl
  ·rfl
  ·rfl
  rintro ⟨⟨i, last, ended⟩, hI⟩ K7 hK7
  refine .cv (Cv.wk (.k 15 rfl (.k 3 rfl (.k 4 rfl (.k 1 rfl (.k 14 rfl .nil)))))) ?_
  simp only [] at hI
  obtain ⟨hi, hF, hE1, hE2⟩ := hI
  refine .seq fun _ k8 => .region (st (.ltI (.t rfl) (.t rfl)) rfl ?_)
  refine nl (.thn (k8 _ _ ?_))
  refine .seq fun _ k9 => ?_
  refine .cond (.t rfl) (fun hc2 => ?_) (fun hc2 => ?_)
  ·have hc2 := BP.t hc2
   refine .skip ?_
   refine .thn (k9 _ _ ?_)
   refine .seq fun _ k10 => ?_
   refine .block ?_
   refine .seq fun _ k11 => .region (st (.mv (.t rfl)) rfl ?_)
   refine st (.as (.t rfl)) rfl ?_
   refine nl (.thn (k11 _ _ ?_))
   refine .seq fun _ k12 => .region (st (.load (.t rfl) (i := 0) rfl ty24 rfl (Ss' := [_, _, _]) rfl) rfl ?_)
   refine st (.mv (.t rfl)) rfl (st (.call (hnf_first (i := i) hx hK hR hC hl (by omega)) (.cons (.t rfl) (.cons (.t rfl) .nil))) rfl ?_)
   refine st (.as (.t rfl)) rfl ?_
   refine nl (.thn (k12 _ _ ?_))
   refine .seq fun _ k13 => ?_
   refine .seq fun _ k14 => .region (st (.mv (.t rfl)) rfl ?_)
   refine st (.ltI (.t rfl) (Has.cI 0 rfl)) rfl ?_
   refine nl (.thn (k14 _ _ ?_))
   refine .cond (.t rfl) (fun hc3 => ?_) (fun hc3 => ?_)
   ·have hc3 := BP.t hc3
    have hfk := fir_no (by omega)
    refine .seq fun _ k15 => .region (st (.as (Has.cB true)) rfl ?_)
    refine nl (.thn (k15 _ _ ?_))
    refine .exit ?_
    refine .the ?_
    refine .blh ?_
    refine .thn (k10 _ _ ?_)
    refine .region (st (.addI (.t rfl) (Has.cI 1 rfl) (by first | omega | assumption) (by first | omega | assumption)) rfl ?_)
    refine st (.mv (.t rfl)) rfl ?_
    refine nl ?_
    refine .thn ?_
    refine hK7 (⟨(i + 1, last, true), by show i + 1 ≤ R; omega, hF.snoc (fun hc => absurd hc hfk), fun _ => ⟨Nat.succ_pos _, by have := fc_le ((mf C (vals xs)) i) C; show (fc C ((mf C (vals xs)) i)) = C; omega⟩, fun h => (by cases h)⟩) _ _ ?_ (Cv.mem (.cons (t := 15) (Has.t' rfl ?_) (.cons (t := 3) (Has.t' rfl ?_) (.cons (t := 4) (Has.t' rfl ?_) (.k 1 rfl (.k 14 rfl .nil))))) ?_)
    ·show R - (i + 1) < R - i; omega
    ·exact isI_eq (by omega)
    ·rfl
    ·rfl
    ·rfl
   ·have hc3 := BP.f hc3
    have hfk := fir_lt (by omega)
    have hbx : (List.length (words ((mf C (vals xs)) i (fc C ((mf C (vals xs)) i))).natAbs)) ≤ K := hx _
    have hne := fc_ne hfk
    refine .skip ?_
    refine .thn (k13 _ _ ?_)
    refine .seq fun _ k16 => .region (st (.load (.t rfl) (i := 0) rfl ty24 rfl (Ss' := [_, _, _]) rfl) rfl ?_)
    refine st (.mv (.t rfl)) rfl (st (.eq (.mv (.t rfl)) ((show _ = isI ((fc C ((mf C (vals xs)) i)) : Int) from isI_eq (if_pos hfk)))) rfl ?_)
    refine st (.eq (.call (zmat_At (i := i) (k := (fc C ((mf C (vals xs)) i))) hx (by omega) hR hC hl (by omega) hfk) (.cons (.t rfl) (.cons (.t rfl) (.cons (.t rfl) .nil)))) ((show _ = isZ ((mf C (vals xs)) i (fc C ((mf C (vals xs)) i))) from rfl))) rfl ?_
    refine .alloc [isB false, SlM isU []] zero30 (fun _ _ => ⟨rfl, nilM _ _, trivial⟩) rfl fun b2 => ?_
    refine .store (.t rfl) (.t rfl) (i := 0) rfl ty30 rfl rfl (Ss' := [_, _]) rfl (M' := [(some _, cellM [_, _]), _]) rfl ?_
    refine nl (.thn (k16 _ _ ?_))
    refine .seq fun _ k17 => ?_
    refine .seq fun _ k18 => .region (st (.mv (.t rfl)) rfl ?_)
    refine st (.mv (.t rfl)) rfl ?_
    refine stF rfl rfl (fun hg => have hg' := BP.t hg; OK1.eq (.mv (.t rfl)) ((show _ = isI ((fc C ((mf C (vals xs)) i)) : Int) from isI_eq (if_pos hfk)))) rfl ?_
    refine stF rfl rfl (fun hg => have hg' := BP.t hg; OK1.mv (.t rfl)) rfl ?_
    refine stF rfl rfl (fun hg => have hg' := BP.t hg; OK1.leI (Has.g rfl hg) (Has.g rfl hg)) rfl ?_
    refine st (.pickOr (.t rfl) (fun h => Has.g rfl (ng h))) rfl ?_
    refine st (.mv (.t rfl)) rfl ?_
    refine stF rfl rfl (fun hg => have hg' := BP.t hg; OK1.load (.t rfl) (i := 0) rfl ty30 rfl (Ss' := [_, _]) rfl) rfl ?_
    refine stF rfl rfl (fun hg => have hg' := BP.t hg; OK1.eq (.call (zint_Sign (by rw [val_words]; omega)) (.cons (Has.g rfl hg) .nil)) ((show _ = isI (sgn ((mf C (vals xs)) i (fc C ((mf C (vals xs)) i)))) from isI_eq (by rw [zv_nf])))) rfl ?_
    refine stF rfl rfl (fun hg => have hg' := BP.t hg; OK1.ltI (Has.g rfl hg) (Has.cI 0 rfl)) rfl ?_
    refine st (.pickOr (.t rfl) (fun h => Has.g rfl (ng h))) rfl ?_
    refine nl (.thn (k18 _ _ ?_))
    refine .cond (.t rfl) (fun hc4 => ?_) (fun hc4 => ?_)
    ·have hc4 := BP.t hc4
     have HX131 := hc4
     refine .seq fun _ k19 => .region (st (.as (Has.cB false)) rfl ?_)
     refine nl (.thn (k19 _ _ ?_))
     refine .ret ?_
     refine .thr ?_
     refine .blr ?_
     refine .thr ?_
     refine .thr ?_
     refine .blr ?_
     refine .thr ?_
     refine rt1 (.inl rfl) Try.results41 rfl (.tmp (Has.t' rfl ?_) .nil)
     all_goals (exact isB_eq (hermB_no fun hh => is_dead131 (by omega) hfk hh hE1 hE2 (by simpa [or_assoc] using HX131)))
    ·have hc4 := BP.f hc4
     have hen : ended = false := by simpa using hc4.1.1
     have hpos : 0 < (mf C (vals xs)) i (fc C ((mf C (vals xs)) i)) := by
      have h2 := mt (sgn_lt ((mf C (vals xs)) i (fc C ((mf C (vals xs)) i)))).2
      omega
     refine .skip ?_
     refine .thn (k17 _ _ ?_)
     refine .seq fun _ k20 => ?_
     refine .seq fun _ k21 => .region (st (.mv (.t rfl)) rfl ?_)
     refine st (.mv (Has.cI 0 rfl)) rfl ?_
     refine nl (.thn (k21 _ _ ?_))
     refine .block ?_
     refine .loopF [1, 14, 15, 3, 4, 16, 17, 5, 18, 19, 20, 6, 21, 22, 23, 24, 25, 26, 7, 27, 28, 29, 30, 31, 32, 33, 34, 35, 36, 37, 38] (fun (z : { r : Nat // r ≤ i ∧ ∀ j, j < r → 0 ≤ (mf C (vals xs)) j (fc C ((mf C (vals xs)) i)) ∧ (mf C (vals xs)) j (fc C ((mf C (vals xs)) i)) < (mf C (vals xs)) i (fc C ((mf C (vals xs)) i)) }) => match z with | ⟨r, hI2⟩ => [(39, isI (r : Int))]) (fun M => fun (z : { r : Nat // r ≤ i ∧ ∀ j, j < r → 0 ≤ (mf C (vals xs)) j (fc C ((mf C (vals xs)) i)) ∧ (mf C (vals xs)) j (fc C ((mf C (vals xs)) i)) < (mf C (vals xs)) i (fc C ((mf C (vals xs)) i)) }) => match z with | ⟨r, hI2⟩ => M) (fun (z : { r : Nat // r ≤ i ∧ ∀ j, j < r → 0 ≤ (mf C (vals xs)) j (fc C ((mf C (vals xs)) i)) ∧ (mf C (vals xs)) j (fc C ((mf C (vals xs)) i)) < (mf C (vals xs)) i (fc C ((mf C (vals xs)) i)) }) => match z with | ⟨r, hI2⟩ => i - r) (⟨0, Nat.zero_le _, fun j hj => absurd hj (Nat.not_lt_zero _)⟩) (Cv.mem (.cons (t := 39) (Has.t' rfl ?_) (.k 1 rfl (.k 14 rfl (.k 15 rfl (.k 3 rfl (.k 4 rfl (.k 16 rfl (.k 17 rfl (.k 5 rfl (.k 18 rfl (.k 19 rfl (.k 20 rfl (.k 6 rfl (.k 21 rfl (.k 22 rfl (.k 23 rfl (.k 24 rfl (.k 25 rfl (.k 26 rfl (.k 7 rfl (.k 27 rfl (.k 28 rfl (.k 29 rfl (.k 30 rfl (.k 31 rfl (.k 32 rfl (.k 33 rfl (.k 34 rfl (.k 35 rfl (.k 36 rfl (.k 37 rfl (.k 38 rfl .nil)))))))))))))))))))))))))))))))) ?_) ?_
     ·rfl
     ·rfl
     rintro ⟨r, hr, hI2⟩ K22 hK22
     refine .cv (Cv.wk (.k 39 rfl (.k 1 rfl (.k 14 rfl (.k 15 rfl (.k 3 rfl (.k 4 rfl (.k 16 rfl (.k 17 rfl (.k 5 rfl (.k 18 rfl (.k 19 rfl (.k 20 rfl (.k 6 rfl (.k 21 rfl (.k 22 rfl (.k 23 rfl (.k 24 rfl (.k 25 rfl (.k 26 rfl (.k 7 rfl (.k 27 rfl (.k 28 rfl (.k 29 rfl (.k 30 rfl (.k 31 rfl (.k 32 rfl (.k 33 rfl (.k 34 rfl (.k 35 rfl (.k 36 rfl (.k 37 rfl (.k 38 rfl .nil))))))))))))))))))))))))))))))))) ?_
     refine .seq fun _ k23 => .region (st (.ltI (.t rfl) (.t rfl)) rfl ?_)
     refine nl (.thn (k23 _ _ ?_))
     refine .seq fun _ k24 => ?_
     refine .cond (.t rfl) (fun hc5 => ?_) (fun hc5 => ?_)
     ·have hc5 := BP.t hc5
      have hbr : (List.length (words ((mf C (vals xs)) r (fc C ((mf C (vals xs)) i))).natAbs)) ≤ K := hx _
      refine .skip ?_
      refine .thn (k24 _ _ ?_)
      refine .seq fun _ k25 => ?_
      refine .block ?_
      refine .seq fun _ k26 => .region (st (.mv (.t rfl)) rfl ?_)
      refine st (.as (.t rfl)) rfl ?_
      refine nl (.thn (k26 _ _ ?_))
      refine .seq fun _ k27 => .region (st (.load (.t rfl) (i := 1) rfl ty24 rfl (Ss' := [_, _, _]) rfl) rfl ?_)
      refine st (.mv (.t rfl)) rfl (st (.eq (.mv (.t rfl)) ((show _ = isI ((fc C ((mf C (vals xs)) i)) : Int) from isI_eq (if_pos hfk)))) rfl ?_)
      refine st (.eq (.call (zmat_At (i := r) (k := (fc C ((mf C (vals xs)) i))) hx (by omega) hR hC hl (by omega) hfk) (.cons (.t rfl) (.cons (.t rfl) (.cons (.t rfl) .nil)))) ((show _ = isZ ((mf C (vals xs)) r (fc C ((mf C (vals xs)) i))) from rfl))) rfl ?_
      refine .alloc [isB false, SlM isU []] zero30 (fun _ _ => ⟨rfl, nilM _ _, trivial⟩) rfl fun b3 => ?_
      refine .store (.t rfl) (.t rfl) (i := 0) rfl ty30 rfl rfl (Ss' := [_, _]) rfl (M' := [(some _, cellM [_, _]), _, _]) rfl ?_
      refine nl (.thn (k27 _ _ ?_))
      refine .seq fun _ k28 => .region (st (.load (.t rfl) (i := 0) rfl ty30 rfl (Ss' := [_, _]) rfl) rfl ?_)
      refine st (.eq (.call (zint_Sign (by rw [val_words]; omega)) (.cons (.t rfl) .nil)) ((show _ = isI (sgn ((mf C (vals xs)) r (fc C ((mf C (vals xs)) i)))) from isI_eq (by rw [zv_nf])))) rfl ?_
      refine st (.ltI (.t rfl) (Has.cI 0 rfl)) rfl ?_
      refine st (.mv (.t rfl)) rfl ?_
      refine stF rfl rfl (fun hg => have hg' := BP.t hg; OK1.load (.t rfl) (i := 0) rfl ty30 rfl (Ss' := [_, _]) rfl) rfl ?_
      refine stF rfl rfl (fun hg => have hg' := BP.t hg; OK1.load (.t rfl) (i := 1) rfl ty30 rfl (Ss' := [_, _]) rfl) rfl ?_
      refine stF rfl rfl (fun hg => have hg' := BP.t hg; OK1.eq (.call (zint_Cmp (by rw [val_words]; omega) (by rw [val_words]; omega)) (.cons (Has.g rfl hg) (.cons (Has.g rfl hg) .nil))) ((show _ = isI (cmpZ ((mf C (vals xs)) r (fc C ((mf C (vals xs)) i))) ((mf C (vals xs)) i (fc C ((mf C (vals xs)) i)))) from isI_eq (by rw [zv_nf, zv_nf])))) rfl ?_
      refine stF rfl rfl (fun hg => have hg' := BP.t hg; OK1.geI (Has.g rfl hg) (Has.cI 0 rfl)) rfl ?_
      refine st (.pickOr (.t rfl) (fun h => Has.g rfl (ng h))) rfl ?_
      refine nl (.thn (k28 _ _ ?_))
      refine .cond (.t rfl) (fun hc6 => ?_) (fun hc6 => ?_)
      ·have hc6 := BP.t hc6
       skip
       refine .seq fun _ k29 => .region (st (.as (Has.cB false)) rfl ?_)
       refine nl (.thn (k29 _ _ ?_))
       refine .ret ?_
       refine .blr ?_
       refine .thr ?_
       refine .thr ?_
       refine .blr ?_
       refine .thr ?_
       refine .blr ?_
       refine .thr ?_
       refine .thr ?_
       refine .blr ?_
       refine .thr ?_
       refine rt1 (.inl rfl) Try.results41 rfl (.tmp (Has.t' rfl ?_) .nil)
       all_goals (exact isB_eq (hermB_no fun hh => by have hsl := sgn_lt ((mf C (vals xs)) r (fc C ((mf C (vals xs)) i))); have hcz := cmpZ_cases ((mf C (vals xs)) r (fc C ((mf C (vals xs)) i))) ((mf C (vals xs)) i (fc C ((mf C (vals xs)) i))); have hx1 := (hh i (by omega) hfk).2.2 r (by omega); omega))
      ·have hc6 := BP.f hc6
       have hrow : 0 ≤ (mf C (vals xs)) r (fc C ((mf C (vals xs)) i)) ∧ (mf C (vals xs)) r (fc C ((mf C (vals xs)) i)) < (mf C (vals xs)) i (fc C ((mf C (vals xs)) i)) := by
        have h1 := mt (sgn_lt ((mf C (vals xs)) r (fc C ((mf C (vals xs)) i)))).2
        have h2 := cmpZ_cases ((mf C (vals xs)) r (fc C ((mf C (vals xs)) i))) ((mf C (vals xs)) i (fc C ((mf C (vals xs)) i)))
        omega
       refine .skip ?_
       refine .bln ?_
       refine .thn (k25 _ _ ?_)
       refine .region (st (.addI (.t rfl) (Has.cI 1 rfl) (by first | omega | assumption) (by first | omega | assumption)) rfl ?_)
       refine st (.mv (.t rfl)) rfl ?_
       refine nl ?_
       refine .thn ?_
       refine hK22 (⟨r + 1, by omega, fun j hj => by rcases Nat.lt_or_ge j r with h | h; exact hI2 j h; obtain rfl : j = r := (by omega); exact hrow⟩) _ _ ?_ (Cv.trans (Cv.drop ((.cons _ (.cons_cons _ (.cons_cons _ .slnil))))) (Cv.mem (.cons (t := 39) (Has.t' rfl ?_) (.k 1 rfl (.k 14 rfl (.k 15 rfl (.k 3 rfl (.k 4 rfl (.k 16 rfl (.k 17 rfl (.k 5 rfl (.k 18 rfl (.k 19 rfl (.k 20 rfl (.k 6 rfl (.k 21 rfl (.k 22 rfl (.k 23 rfl (.k 24 rfl (.k 25 rfl (.k 26 rfl (.k 7 rfl (.k 27 rfl (.k 28 rfl (.k 29 rfl (.k 30 rfl (.k 31 rfl (.k 32 rfl (.k 33 rfl (.k 34 rfl (.k 35 rfl (.k 36 rfl (.k 37 rfl (.k 38 rfl .nil)))))))))))))))))))))))))))))))) ?_))
       ·show i - (r + 1) < i - r; omega
       ·exact isI_eq (by omega)
       ·rfl
     ·have hc5 := BP.f hc5
      skip
      refine .exit ?_
      refine .the ?_
      refine .the ?_
      refine .blh ?_
      refine .thn (k20 _ _ ?_)
      refine .region (st (.eq (.mv (.t rfl)) ((show _ = isI ((fc C ((mf C (vals xs)) i)) : Int) from isI_eq (if_pos hfk)))) rfl ?_)
      refine st (.as (.t rfl)) rfl ?_
      refine nl ?_
      refine .bln ?_
      refine .thn (k10 _ _ ?_)
      refine .region (st (.addI (.t rfl) (Has.cI 1 rfl) (by first | omega | assumption) (by first | omega | assumption)) rfl ?_)
      refine st (.mv (.t rfl)) rfl ?_
      refine nl ?_
      refine .thn ?_
      refine hK7 (⟨(i + 1, ((fc C ((mf C (vals xs)) i)) : Int), ended), by show i + 1 ≤ R; omega, hF.snoc (fun _ => ⟨fun h0 => by have := hE2 hen; rw [if_neg (by omega)] at this; omega, hpos, fun r' hr' => hI2 r' (by omega)⟩), fun h => (by subst hen; cases h), fun _ => by show ((fc C ((mf C (vals xs)) i)) : Int) = if i + 1 = 0 then -1 else _; rw [if_neg (by omega)]; rfl⟩) _ _ ?_ (Cv.trans (Cv.drop ((.cons _ (.cons_cons _ .slnil)))) (Cv.mem (.cons (t := 15) (Has.t' rfl ?_) (.cons (t := 3) (Has.t' rfl ?_) (.cons (t := 4) (Has.t' rfl ?_) (.k 1 rfl (.k 14 rfl .nil))))) ?_))
      ·show R - (i + 1) < R - i; omega
      ·exact isI_eq (by omega)
      ·rfl
      ·rfl
      ·rfl
  ·have hc2 := BP.f hc2
   refine .exit ?_
   refine .the ?_
   refine .the ?_
   refine .blh ?_
   refine .thn (k5 _ _ ?_)
   refine .cv (Cv.wk .nil) ?_
   refine .seq fun _ k30 => .region (st (.as (Has.cB true)) rfl ?_)
   refine nl (.thn (k30 _ _ ?_))
   refine .ret ?_
   refine rt1 (.inl rfl) Try.results41 rfl (.tmp (Has.t' rfl ?_) .nil)
   all_goals (exact isB_eq (hermB_yes (by rw [show R = i by omega]; exact hF)))
end Go.Proofs.Ythkdmhaafanjlaa
namespace Go.Proofs.Ythkdmhaafanjlaa
open Go.En Go.RowKit
set_option maxRecDepth 10000
set_option maxHeartbeats 4000000
open Go.Nt
open Go.Pz
open Go.Mz
open Go.Hn
open Go.Hp
open Go.Tr
open Go.Dt
theorem stkL_bdI {R R' C K : Nat} {L L' : List Int} (h : Bd L K) (h' : Bd L' K) : Bd (stkL R R' C L L') K := by
 unfold stkL
 exact Bd_tab fun i k => by split; exact h _; exact h' _
theorem modhnf_Insert {R C K : Nat} {xs vs : List (Bool × List Nat)} (hx : Bd (vals xs) K) (hv : Bd (vals vs) K) (hK : K ≤ 400000000) (hR : R + 1 ≤ 64) (hC : C ≤ 64) (hl : xs.length = R * C) (hvl : vs.length = C) (hh : hermB R C (mf C (vals xs)) = true) (hqq : hq (R + 1) (K + 4) (hrk (R + 1) C (stkL R 1 C (vals xs) (vals vs))) * (R + 1 + 2) ≤ 80000000) : Ctr Try.prog 16 [isM (R : Int) (C : Int) xs, SlK 2 zc vs] (isTup [isMz (pivL C (mf C (hL (R + 1) C (stkL R 1 C (vals xs) (vals vs)))) (R + 1)).length C (latL (R + 1) C (stkL R 1 C (vals xs) (vals vs))), isI 0]) := by
 refine Ctr.intro Try.func16 rfl (by kernel_rfl) Try.ntmps16 rfl fun w0 F0 => ?_
 refine .cv (Cv.wk (.k 0 rfl (.k 1 rfl .nil))) ?_
 refine .fact (Has.lenLt (Has.t (t := 1) rfl)) fun lt1 => ?_
 have hfo := formB_true (show R ≤ 64 by omega) hC hl
 have hSb : Bd (stkL R 1 C (vals xs) (vals vs)) K := stkL_bdI hx hv
 obtain ⟨SL, hSL⟩ : ∃ S, S = (stkL R 1 C (vals xs) (vals vs)) := ⟨_, rfl⟩
 rw [← hSL] at hSb hqq ⊢
 have hSl : (SL.map nz).length = (R + 1) * C := by rw [List.length_map, hSL]; exact tab_len _ _ _
 refine .seq fun _ k1 => .region (.box (.t rfl) rfl fun b1 => ?_)
 refine .alloc [isI 0, isI 0, nilS] zero24 (fun _ _ => ⟨⟨rfl, by decide, by decide⟩, ⟨rfl, by decide, by decide⟩, rfl, trivial⟩) rfl fun b2 => ?_
 refine st (.as (Has.cI 0 rfl)) rfl ?_
 refine nl (.thn (k1 _ _ ?_))
 refine .seq fun _ k2 => ?_
 refine .block ?_
 refine .seq fun _ k3 => .region (st (.load (.t rfl) (i := 1) rfl ty24 rfl (Ss' := [_, _, _]) rfl) rfl ?_)
 refine st (.eq (.call (zmat_Formed) (.cons (.t rfl) .nil)) ((show isB _ = isB true from isB_eq (hfo)))) rfl ?_
 refine st (.not (.t rfl)) rfl ?_
 refine st (.mv (.t rfl)) rfl ?_
 refine stF rfl rfl (fun hg => have hg' := BP.t hg; OK1.mv (.t rfl)) rfl ?_
 refine stF rfl rfl (fun hg => have hg' := BP.t hg; OK1.len sl22 (Has.g rfl hg)) rfl ?_
 refine stF rfl rfl (fun hg => have hg' := BP.t hg; OK1.fieldAddr (.t rfl) fld24_1 ty3) rfl ?_
 refine stF rfl rfl (fun hg => have hg' := BP.t hg; OK1.load1 (Has.g rfl hg) (i := 1) rfl ty3 rfl) rfl ?_
 refine stF rfl rfl (fun hg => have hg' := BP.t hg; OK1.neI (Has.g rfl hg) (Has.g rfl hg)) rfl ?_
 refine st (.pickOr (.t rfl) (fun h => Has.g rfl (ng h))) rfl ?_
 refine st (.as (.t rfl)) rfl ?_
 refine nl (.thn (k3 _ _ ?_))
 refine .cv (Cv.wk (.k 1 rfl (.k 2 rfl (.k 4 rfl (.k 5 rfl (.k 8 rfl .nil)))))) ?_
 refine .cond (.t rfl) (fun hc1 => ?_) (fun hc1 => ?_)
 ·have hc1 := BP.t hc1
  exfalso; omega
 ·have hc1 := BP.f hc1
  skip
  refine .seq fun _ k4 => .region (st (.load (.t rfl) (i := 1) rfl ty24 rfl (Ss' := [_, _, _]) rfl) rfl ?_)
  refine st (.eq (.call (hnf_Is hx (by omega) (by omega) hC hl) (.cons (.t rfl) .nil)) ((show isB _ = isB true from isB_eq (hh)))) rfl ?_
  refine st (.not (.t rfl)) rfl ?_
  refine st (.as (.t rfl)) rfl ?_
  refine nl (.thn (k4 _ _ ?_))
  refine .cond (.t rfl) (fun hc2 => ?_) (fun hc2 => ?_)
  ·have hc2 := BP.t hc2
   exfalso; simp at hc2
  ·have hc2 := BP.f hc2
   skip
   refine .skip ?_
   refine .bln ?_
   refine .thn (k2 _ _ ?_)
   refine .cv (Cv.wk (.k 1 rfl (.k 2 rfl (.k 4 rfl (.k 5 rfl .nil))))) ?_
   refine .seq fun _ k5 => .region (st (.load (.t rfl) (i := 1) rfl ty24 rfl (Ss' := [_, _, _]) rfl) rfl ?_)
   refine st (.fieldAddr (.t rfl) fld24_1 ty3) rfl (st (.load1 (.t rfl) (i := 1) rfl ty3 rfl) rfl ?_)
   refine st (.mv (.t rfl)) rfl (st (.build [isI 0, isI 0, nilS] pl24 zero24 (fun _ _ => ⟨⟨rfl, by decide, by decide⟩, ⟨rfl, by decide, by decide⟩, rfl, trivial⟩) (.cons (Has.cI 1 rfl) rfl rfl rfl (.cons (.t rfl) rfl rfl rfl (.cons (.t rfl) rfl rfl rfl .nil))) (Z'' := [_, _, _]) rfl) rfl ?_)
   refine st (.eq (.call (zmat_Stack (R' := 1) hx hv hK hR hC hl (by rw [Nat.one_mul]; exact hvl)) (.cons (.t rfl) (.cons (.t rfl) .nil))) ((show _ = isTup [isMz ((R + 1 : Nat)) C SL, isI 0] from by rw [hSL]))) rfl ?_
   refine st (.mv (.t rfl)) rfl (st (.ext (.t rfl) rfl) rfl ?_)
   refine st (.ext (.t rfl) rfl) rfl ?_
   refine .alloc [isI 0, isI 0, nilS] zero24 (fun _ _ => ⟨⟨rfl, by decide, by decide⟩, ⟨rfl, by decide, by decide⟩, rfl, trivial⟩) rfl fun b3 => ?_
   refine .store (.t rfl) (.t rfl) (i := 0) rfl ty24 rfl rfl (Ss' := [_, _, _]) rfl (M' := [(some _, cellM [_, _, _]), _, _]) rfl ?_
   refine st (.as (.t rfl)) rfl ?_
   refine nl (.thn (k5 _ _ ?_))
   refine .cv (Cv.wk (.k 4 rfl (.k 5 rfl (.k 6 rfl (.k 7 rfl .nil))))) ?_
   refine .seq fun _ k6 => ?_
   refine .seq fun _ k7 => .region (st (.mv (.t rfl)) rfl ?_)
   refine st (.neI (.t rfl) (Has.cI 0 rfl)) rfl ?_
   refine nl (.thn (k7 _ _ ?_))
   refine .cond (.t rfl) (fun hc3 => ?_) (fun hc3 => ?_)
   ·have hc3 := BP.t hc3
    exfalso; simp at hc3
   ·have hc3 := BP.f hc3
    skip
    refine .skip ?_
    refine .thn (k6 _ _ ?_)
    refine .seq fun _ k8 => .region (st (.load (.t rfl) (i := 0) rfl ty24 rfl (Ss' := [_, _, _]) rfl) rfl ?_)
    refine st (.eq (.call (hnf_LatticeQ (R := R + 1) (C := C) (K := K) (xs := SL.map nz) (by rw [vals_nz]; exact hSb) (by rw [vals_nz]; exact hqq) hR hC hSl) (.cons (.t rfl) .nil)) ((show _ = isTup [isMz (pivL C (mf C (hL (R + 1) C SL)) (R + 1)).length C (latL (R + 1) C SL), isI 0] from by rw [vals_nz]))) rfl ?_
    refine st (.ext (.t rfl) rfl) rfl (st (.ext (.t rfl) rfl) rfl ?_)
    refine .store (.t rfl) (.t rfl) (i := 1) rfl ty24 rfl rfl (Ss' := [_, _, _]) rfl (M' := [_, (some _, cellM [_, _, _]), _]) rfl ?_
    refine st (.as (.t rfl)) rfl ?_
    refine nl (.thn (k8 _ _ ?_))
    refine .cv (Cv.wk (.k 4 rfl (.k 5 rfl .nil))) ?_
    refine .ret ?_
    refine rtN (.inl rfl) Try.results16 rfl rfl (.cell rfl (i := 1) rfl ty24 rfl ?_ (.tmp (Has.t' rfl ?_) .nil))
    ·rfl
    ·rfl
end Go.Proofs.Ythkdmhaafanjlaa
namespace Go.Hp
open Go.Dt Go.Hn Go.Pz Go.Nt Go.Mz Go.En
abbrev latP (R C : Nat) (L : List Int) : Nat := (pivL C (mf C (hL R C L)) R).length
theorem latL_zero (C : Nat) (L : List Int) : latP 0 C L = 0 ∧ latL 0 C L = [] := by
 refine ⟨rfl, ?_⟩
 unfold latL
 show tab (0 * C) C _ = []
 rw [Nat.zero_mul]; rfl
theorem latL_len (R C : Nat) (L : List Int) : (latL R C L).length = latP R C L * C := tab_len _ _ _
theorem latL_next {C K K' i : Nat} {L V : List Int} (hb : Bd L K) (hv : ∀ k, k < C → cf V k = mf C L i k) (hS : Bd (stkL (latP i C L) 1 C (latL i C L) V) K') :
  latP (latP i C L + 1) C (stkL (latP i C L) 1 C (latL i C L) V) = latP (i + 1) C L ∧ latL (latP i C L + 1) C (stkL (latP i C L) 1 C (latL i C L) V) = latL (i + 1) C L := by
 refine (lat_same hS hb).2 ?_
 have e := latL_eqv (R := i) (C := C) hb
 have hat : ∀ r k, r < latP i C L + 1 → k < C → mf C (stkL (latP i C L) 1 C (latL i C L) V) r k = if r < latP i C L then mf C (latL i C L) r k else mf C L i k := fun r k hr hk => by
  show cf _ (r * C + k) = _
  unfold stkL
  rw [cf_tab' _ hk (place_lt hr hk)]
  by_cases h : r < latP i C L
  ·rw [if_pos h, if_pos h]; rfl
  ·rw [if_neg h, if_neg h, show r - latP i C L = 0 by omega, Nat.zero_mul, Nat.zero_add]; exact hv k hk
 have up : ∀ r, r < i → SpZ (i + 1) C (mf C L) (mf C L r) := fun r hr => SpZ.row _ (by omega)
 refine ⟨fun r hr => ?_, fun r hr => ?_⟩
 ·by_cases h : r < latP i C L
  ·exact ((e.2 r h).trans up).congr fun k hk => by rw [hat r k hr hk, if_pos h]
  ·exact (SpZ.row (mf C L) (show i < i + 1 by omega)).congr fun k hk => by rw [hat r k hr hk, if_neg h]
 ·rcases Nat.lt_or_ge r i with h | h
  ·refine (e.1 r h).trans fun t ht => ?_
   exact (SpZ.row (mf C (stkL (latP i C L) 1 C (latL i C L) V)) (show t < latP i C L + 1 by change t < latP i C L at ht; omega)).congr fun k hk => by
    change t < latP i C L at ht
    rw [hat t k (by omega) hk, if_pos ht]
  ·exact (SpZ.row (mf C (stkL (latP i C L) 1 C (latL i C L) V)) (show latP i C L < latP i C L + 1 by omega)).congr fun k hk => by
    rw [hat _ k (by omega) hk, if_neg (Nat.lt_irrefl _), show r = i by omega]
theorem size4b : ((List.range 5).all fun i => (List.range 5).all fun P => (List.range 6).all fun t => !(decide (P ≤ i) && decide (t ≤ P + 1)) || (decide (hq (P + 1) (hq i 5 P + 4) t * (P + 1 + 2) ≤ 80000000) && decide (hq i 5 P ≤ 100000))) = true := by decide +kernel
theorem size4 {i P t : Nat} (hi : i ≤ 4) (hP : P ≤ i) (ht : t ≤ P + 1) : hq (P + 1) (hq i 5 P + 4) t * (P + 1 + 2) ≤ 80000000 ∧ hq i 5 P ≤ 100000 := by
 have h1 := List.all_eq_true.1 (List.all_eq_true.1 (List.all_eq_true.1 size4b i (List.mem_range.2 (by omega))) P (List.mem_range.2 (by omega))) t (List.mem_range.2 (by omega))
 simp [hP, ht] at h1
 exact h1
theorem ins_size {C i : Nat} {L V : List Int} (hb : Bd L 1) (hv : Bd V 1) (hi : i ≤ 4) : Bd (latL i C L) 100000 ∧ latP i C L ≤ i ∧ ∃ Kb, Kb ≤ 100000 ∧ Bd (latL i C L) Kb ∧ Bd V Kb ∧ Bd (stkL (latP i C L) 1 C (latL i C L) V) Kb ∧ hq (latP i C L + 1) (Kb + 4) (hrk (latP i C L + 1) C (stkL (latP i C L) 1 C (latL i C L) V)) * (latP i C L + 1 + 2) ≤ 80000000 := by
 have hP : latP i C L = hrk i C L := top_piv hb
 have hPi := hrk_leR (R := i) (C := C) hb
 have hl := latL_bq (R := i) (C := C) hb
 have hv2 : Bd V (hq i 5 (hrk i C L)) := hv.mono (Nat.le_trans (by decide) (hq_ge (R := i) (K := 5) hPi))
 have hS : Bd (stkL (latP i C L) 1 C (latL i C L) V) (hq i 5 (hrk i C L)) := by
  unfold stkL
  exact Bd_tab fun r k => by split; exact hl _; exact hv2 _
 have ht := hrk_leR (R := latP i C L + 1) (C := C) hS
 obtain ⟨z1, z2⟩ := size4 (t := hrk (latP i C L + 1) C (stkL (latP i C L) 1 C (latL i C L) V)) hi hPi (by rw [← hP]; exact ht)
 refine ⟨hl.mono z2, by rw [hP]; exact hPi, hq i 5 (hrk i C L), z2, hl, hv2, hS, ?_⟩
 rw [← hP] at z1 ⊢
 exact z1
end Go.Hp
namespace Go.Proofs.Ythkdmhaafanjlaa
open Go.En Go.RowKit
set_option maxRecDepth 10000
set_option maxHeartbeats 4000000
open Go.Nt
open Go.Pz
open Go.Mz
open Go.Hn
open Go.Hp
open Go.Tr
open Go.Dt
theorem steps0 {b C : Nat} {n : Nat} {l : List Int} {M : Mem} (h : n = 0 ∧ l = []) : ((some b, cellM [isI 0, isI (C : Int), SlK 2 zc []]) :: M : Mem) = (some b, cellM [isI (n : Int), isI (C : Int), SlK 2 zc (l.map nz)]) :: M := by
 obtain ⟨rfl, rfl⟩ := h; rfl
theorem c_ModhnfSteps_bad (r c : Int) (xs : List (Bool × List Nat)) (hf : formB r c xs.length = false) : Ctr Try.prog 4 [isM r c xs] (isB true) := by
 refine Ctr.intro Try.func4 rfl (by kernel_rfl) Try.ntmps4 rfl fun w0 F0 => ?_
 refine .cv (Cv.wk (.k 0 rfl .nil)) ?_
 refine .seq fun _ k1 => .region (.box (.t rfl) rfl fun b1 => ?_)
 refine st (.as (Has.cB false)) rfl ?_
 refine nl (.thn (k1 _ _ ?_))
 refine .seq fun _ k2 => ?_
 refine .seq fun _ k3 => .region (st (.call law15_awake .nil) rfl ?_)
 refine st (.not (.t rfl)) rfl ?_
 refine st (.mv (.t rfl)) rfl ?_
 refine stF rfl rfl (fun hg => have hg' := BP.t hg; OK1.load (.t rfl) (i := 0) rfl ty24 rfl (Ss' := [_, _, _]) rfl) rfl ?_
 refine stF rfl rfl (fun hg => have hg' := BP.t hg; OK1.call (ref11_Few) (.cons (Has.g rfl hg) (.cons (Has.cI 4 rfl) (.cons (Has.cI 1 rfl) .nil)))) rfl ?_
 refine stF rfl rfl (fun hg => have hg' := BP.t hg; OK1.not (Has.g rfl hg)) rfl ?_
 refine st (.pickOr (.t rfl) (fun h => Has.g rfl (ng h))) rfl ?_
 refine st (.mv (.t rfl)) rfl ?_
 refine stF rfl rfl (fun hg => have hg' := BP.t hg; OK1.load (.t rfl) (i := 0) rfl ty24 rfl (Ss' := [_, _, _]) rfl) rfl ?_
 refine stF rfl rfl (fun hg => have hg' := BP.t hg; OK1.eq (.call (ref11_Formed) (.cons (Has.g rfl hg) .nil)) ((show isB _ = isB false from isB_eq (hf)))) rfl ?_
 refine stF rfl rfl (fun hg => have hg' := BP.t hg; OK1.not (Has.g rfl hg)) rfl ?_
 refine st (.pickOr (.t rfl) (fun h => Has.g rfl (ng h))) rfl ?_
 refine nl (.thn (k3 _ _ ?_))
 refine .cv (Cv.wk (.k 1 rfl (.k 2 rfl (.k 20 rfl .nil)))) ?_
 refine .cond (.t rfl) (fun hc1 => ?_) (fun hc1 => ?_)
 ·have hc1 := BP.t hc1
  skip
  refine .seq fun _ k4 => .region (st (.call law15_awake .nil) rfl ?_)
  refine st (.as (.t rfl)) rfl ?_
  refine nl (.thn (k4 _ _ ?_))
  refine .ret ?_
  refine .thr ?_
  refine rt1 (.inl rfl) Try.results4 rfl (.tmp (Has.t' rfl ?_) .nil)
  all_goals (rfl)
 ·have hc1 := BP.f hc1
  exfalso; simp at hc1
theorem c_ModhnfSteps_ok (R C : Nat) (xs : List (Bool × List Nat)) (hR : R ≤ 64) (hC : C ≤ 64) (hl : xs.length = R * C) : Ctr Try.prog 4 [isM (R : Int) (C : Int) xs] (isB true) := by
 refine Ctr.intro Try.func4 rfl (by kernel_rfl) Try.ntmps4 rfl fun w0 F0 => ?_
 refine .cv (Cv.wk (.k 0 rfl .nil)) ?_
 refine .fact (Has.okM (Has.t (t := 0) rfl)) fun okp0 => ?_
 have hfo := formB_true hR hC hl
 have hRC := side_le hR hC
 refine .seq fun _ k1 => .region (.box (.t rfl) rfl fun b1 => ?_)
 refine st (.as (Has.cB false)) rfl ?_
 refine nl (.thn (k1 _ _ ?_))
 refine .seq fun _ k2 => ?_
 refine .seq fun _ k3 => .region (st (.call law15_awake .nil) rfl ?_)
 refine st (.not (.t rfl)) rfl ?_
 refine st (.mv (.t rfl)) rfl ?_
 refine stF rfl rfl (fun hg => have hg' := BP.t hg; OK1.load (.t rfl) (i := 0) rfl ty24 rfl (Ss' := [_, _, _]) rfl) rfl ?_
 refine stF rfl rfl (fun hg => have hg' := BP.t hg; OK1.call (ref11_Few) (.cons (Has.g rfl hg) (.cons (Has.cI 4 rfl) (.cons (Has.cI 1 rfl) .nil)))) rfl ?_
 refine stF rfl rfl (fun hg => have hg' := BP.t hg; OK1.not (Has.g rfl hg)) rfl ?_
 refine st (.pickOr (.t rfl) (fun h => Has.g rfl (ng h))) rfl ?_
 refine st (.mv (.t rfl)) rfl ?_
 refine stF rfl rfl (fun hg => have hg' := BP.t hg; OK1.load (.t rfl) (i := 0) rfl ty24 rfl (Ss' := [_, _, _]) rfl) rfl ?_
 refine stF rfl rfl (fun hg => have hg' := BP.t hg; OK1.eq (.call (ref11_Formed) (.cons (Has.g rfl hg) .nil)) ((show isB _ = isB true from isB_eq (hfo)))) rfl ?_
 refine stF rfl rfl (fun hg => have hg' := BP.t hg; OK1.not (Has.g rfl hg)) rfl ?_
 refine st (.pickOr (.t rfl) (fun h => Has.g rfl (ng h))) rfl ?_
 refine nl (.thn (k3 _ _ ?_))
 refine .cv (Cv.wk (.k 1 rfl (.k 2 rfl (.k 20 rfl .nil)))) ?_
 refine .cond (.t rfl) (fun hc1 => ?_) (fun hc1 => ?_)
 ·have hc1 := BP.t hc1
  skip
  refine .seq fun _ k4 => .region (st (.call law15_awake .nil) rfl ?_)
  refine st (.as (.t rfl)) rfl ?_
  refine nl (.thn (k4 _ _ ?_))
  refine .ret ?_
  refine .thr ?_
  refine rt1 (.inl rfl) Try.results4 rfl (.tmp (Has.t' rfl ?_) .nil)
  all_goals (rfl)
 ·have hc1 := BP.f hc1
  have HF0 : ((R : Int) ≤ 4 ∧ (C : Int) ≤ 4) ∧ fewB xs 100 1 = true := (by simpa [and_assoc] using hc1)
  obtain ⟨⟨hR5, hC5⟩, HF⟩ := HF0
  obtain ⟨hl0, hb⟩ := fewB_bd (N := 100) (K := 1) okp0 HF rfl rfl (by decide)
  have hhz : (1 + 4) * (R + 2) ^ C ≤ 1000000 := by
   have h1 := Nat.pow_le_pow_left (show R + 2 ≤ 6 by omega) C
   have h2 := Nat.pow_le_pow_right (show 0 < 6 by decide) (show C ≤ 4 by omega)
   have h3 : 6 ^ 4 = 1296 := by decide
   omega
  refine .skip ?_
  refine .thn (k2 _ _ ?_)
  refine .seq fun _ k5 => .region (st (.fieldAddr (.t rfl) fld24_1 ty3) rfl ?_)
  refine st (.load1 (.t rfl) (i := 0) rfl ty3 rfl) rfl (st (.build [isI 0, isI 0, SlK 2 zc ([] : List (Bool × List Nat))] pl24 zero24 (fun _ _ => ⟨⟨rfl, by decide, by decide⟩, ⟨rfl, by decide, by decide⟩, nilK, trivial⟩) (.cons (.t rfl) rfl rfl rfl .nil) (Z'' := [_, _, _]) rfl) rfl ?_)
  refine .alloc [isI 0, isI 0, SlK 2 zc ([] : List (Bool × List Nat))] zero24 (fun _ _ => ⟨⟨rfl, by decide, by decide⟩, ⟨rfl, by decide, by decide⟩, nilK, trivial⟩) rfl fun b2 => ?_
  refine .store (.t rfl) (.t rfl) (i := 0) rfl ty24 rfl rfl (Ss' := [_, _, _]) rfl (M' := [(some _, cellM [_, _, _]), _]) rfl ?_
  refine nl (.thn (k5 _ _ ?_))
  refine .seq fun _ k6 => ?_
  refine .seq fun _ k7 => .region (st (.as (Has.cI 0 rfl)) rfl ?_)
  refine nl (.thn (k7 _ _ ?_))
  refine .block ?_
  refine .loopF [1, 3] (fun (z : { i : Nat // i ≤ R }) => match z with | ⟨i, hi⟩ => [(4, isI (i : Int))]) (fun M => fun (z : { i : Nat // i ≤ R }) => match z with | ⟨i, hi⟩ => [(some b2, cellM [isI (latP i C (vals xs) : Int), isI (C : Int), SlK 2 zc ((latL i C (vals xs)).map nz)]), (some b1, cellM [isI (R : Int), isI (C : Int), SlK 2 zc xs])]) (fun (z : { i : Nat // i ≤ R }) => match z with | ⟨i, hi⟩ => R - i) (⟨0, Nat.zero_le _⟩) (Cv.mem (.cons (t := 4) (Has.t' rfl ?_) (.k 1 rfl (.k 3 rfl .nil))) ?_) ?_
  ·rfl
  ·exact steps0 (latL_zero C (vals xs))
  rintro ⟨i, hi⟩ K8 hK8
  refine .cv (Cv.wk (.k 4 rfl (.k 1 rfl (.k 3 rfl .nil)))) ?_
  refine .memEq (M' := [(some b2, cellM [isI (latP i C (vals xs) : Int), isI (C : Int), SlK 2 zc ((latL i C (vals xs)).map nz)]), (some b1, cellM [isI (R : Int), isI (C : Int), SlK 2 zc xs])]) rfl ?_
  refine .seq fun _ k9 => ?_
  refine .seq fun _ k10 => .region (st (.mv (.t rfl)) rfl ?_)
  refine st (.fieldAddr (.t rfl) fld24_0 ty3) rfl (st (.load1 (.t rfl) (i := 1) rfl ty3 rfl) rfl ?_)
  refine st (.ltI (.t rfl) (.t rfl)) rfl ?_
  refine nl (.thn (k10 _ _ ?_))
  refine .cond (.t rfl) (fun hc2 => ?_) (fun hc2 => ?_)
  ·have hc2 := BP.t hc2
   have hm1 : (i + 1) * C ≤ R * C := Nat.mul_le_mul_right C (by omega)
   have hm2 : (i + 1) * C = i * C + C := Nat.succ_mul i C
   have hcp : ((i : Int) * (C : Int)) = ((i * C : Nat) : Int) := (Int.natCast_mul i C).symm
   have hcq : (((i : Int) + 1) * (C : Int)) = (((i + 1) * C : Nat) : Int) := by rw [Int.natCast_mul]; rfl
   have hvv : vals ((xs.take ((i + 1) * C)).drop (i * C)) = Go.Hp.rowL C (vals xs) i := rowL_of (by omega)
   have hvl : ((xs.take ((i + 1) * C)).drop (i * C)).length = C := by rw [List.length_drop, List.length_take]; omega
   have hvb : Bd (vals ((xs.take ((i + 1) * C)).drop (i * C))) 1 := by rw [hvv]; exact fun k => by unfold Go.Hp.rowL; rw [cf_tab]; split; exact hb _; rw [Int.natAbs_zero, words_zero]; exact Nat.zero_le _
   obtain ⟨g1, g2, Kb, g3, g4, g5, g6, g7⟩ := ins_size (C := C) (i := i) hb hvb (by omega)
   obtain ⟨n1, n2⟩ := latL_next (V := vals ((xs.take ((i + 1) * C)).drop (i * C))) hb (fun k hk => by rw [hvv]; exact cf_rowL hk) g6
   have hlf := latL_form (R := i) (C := C) hb
   have hll := latL_len i C (vals xs)
   refine .skip ?_
   refine .thn (k9 _ _ ?_)
   refine .seq fun _ k11 => ?_
   refine .block ?_
   refine .seq fun _ k12 => ?_
   refine .drh [true, true] (Ms := [_, _]) rfl ?_
   refine .s [] rfl rfl rfl (.o rfl (.load (.t rfl) (i := 0) rfl ty24 rfl (Ss' := [_, _, _]) rfl)) ?_
   refine .s [] rfl rfl rfl (.o rfl (.fieldAddr (.t rfl) fld24_2 ty22)) ?_
   refine .s [33] rfl rfl rfl (.o rfl (.load1 (.t rfl) (i := 1) rfl ty22 rfl)) ?_
   refine .s [] rfl rfl rfl (.o rfl (.mv (.t rfl))) ?_
   refine .s [] rfl rfl rfl (.o rfl (.fieldAddr (.t rfl) fld24_1 ty3)) ?_
   refine .s [36] rfl rfl rfl (.o rfl (.load1 (.t rfl) (i := 1) rfl ty3 rfl)) ?_
   refine .s [35, 37] rfl rfl rfl (.o rfl (.eq (.mulI (.t rfl) (.t rfl) (by first | omega | assumption) (by first | omega | assumption)) ((show isI _ = isI ((i * C : Nat) : Int) from isI_eq hcp)))) ?_
   refine .s [] rfl rfl rfl (.o rfl (.mv (.t rfl))) ?_
   refine .s [39] rfl rfl rfl (.o rfl (.addI (.t rfl) (Has.cI 1 rfl) (by first | omega | assumption) (by first | omega | assumption))) ?_
   refine .s [] rfl rfl rfl (.o rfl (.fieldAddr (.t rfl) fld24_1 ty3)) ?_
   refine .s [41] rfl rfl rfl (.o rfl (.load1 (.t rfl) (i := 1) rfl ty3 rfl)) ?_
   refine .s [40, 42] rfl rfl rfl (.o rfl (.eq (.mulI (.t rfl) (.t rfl) (by first | omega | assumption) (by first | omega | assumption)) ((show isI _ = isI (((i + 1) * C : Nat) : Int) from isI_eq hcq)))) ?_
   refine .s [34, 38, 43] rfl rfl rfl (.o rfl (.slLHK sl22 ty30 zc_len (.t rfl) (.t rfl) (.t rfl) ⟨by omega, by omega, by omega⟩)) ?_
   refine .s [32, 44] rfl rfl rfl (.o rfl (.eq (.call (modhnf_Insert (R := latP i C (vals xs)) (C := C) (K := Kb) (xs := (latL i C (vals xs)).map nz) (vs := ((xs.take ((i + 1) * C)).drop (i * C))) (by rw [vals_nz]; exact g4) g5 (by omega) (by omega) hC (by rw [List.length_map, hll]) hvl (by rw [vals_nz]; exact hermB_iff.2 hlf) (by rw [vals_nz]; exact g7)) (.cons (.t rfl) (.cons (.t rfl) .nil))) ((show _ = isTup [isMz (latP (i + 1) C (vals xs)) C (latL (i + 1) C (vals xs)), isI 0] from by rw [vals_nz]; exact congrArg (fun z => isTup [z, isI 0]) (by rw [show (pivL C _ _).length = _ from n1, n2]))))) ?_
   refine .s [45] rfl rfl rfl (.o rfl (.mv (.t rfl))) ?_
   refine .s [31] rfl rfl rfl (.o rfl (.ext (.t rfl) rfl)) ?_
   refine .s [31] rfl rfl rfl (.o rfl (.ext (.t rfl) rfl)) ?_
   refine .als (n1 := 18) (ds := [5]) (zs := [[isI 0, isI 0, SlK 2 zc ([] : List (Bool × List Nat))]]) rfl (.cons rfl rfl zero24 (fun _ _ => ⟨⟨rfl, by decide, by decide⟩, ⟨rfl, by decide, by decide⟩, nilK, trivial⟩) .nil) (.cons_cons _ (.cons_cons _ .slnil)) (Cs := [_]) rfl ?_
   refine .new [46] 0 (Ss' := [_, _, _]) (Cs' := [cellM [_, _, _]]) rfl (by kernel_rfl) (by kernel_rfl) rfl rfl rfl (by kernel_rfl) rfl (.t rfl) ty24 rfl rfl rfl rfl ?_
   refine .fin (n := 19) mixed rfl (by kernel_rfl) (by kernel_rfl) (by kernel_rfl) (fun bs hbs => ?_)
   obtain ⟨b3, rfl⟩ := len1 hbs
   refine .memEq (M' := [_, _, _]) rfl ?_
   refine .cv (Cv.wk (.k 1 rfl (.k 3 rfl (.k 4 rfl (.k 25 rfl (.k 26 rfl (.k 27 rfl (.k 28 rfl (.k 32 rfl (.k 33 rfl (.k 34 rfl (.k 35 rfl (.k 36 rfl (.k 37 rfl (.k 38 rfl (.k 39 rfl (.k 40 rfl (.k 41 rfl (.k 42 rfl (.k 43 rfl (.k 44 rfl (.k 45 rfl (.k 31 rfl (.k 46 rfl (.k 47 rfl (.cons (t := 5) (Has.op rfl) .nil)))))))))))))))))))))))))) ?_
   refine st (.as (.t rfl)) rfl ?_
   refine nl (.thn (k12 _ _ ?_))
   refine .seq fun _ k13 => ?_
   refine .seq fun _ k14 => .region (st (.mv (.t rfl)) rfl ?_)
   refine st (.neI (.t rfl) (Has.cI 0 rfl)) rfl ?_
   refine nl (.thn (k14 _ _ ?_))
   refine .cond (.t rfl) (fun hc3 => ?_) (fun hc3 => ?_)
   ·have hc3 := BP.t hc3
    exfalso; simp at hc3
   ·have hc3 := BP.f hc3
    skip
    refine .skip ?_
    refine .thn (k13 _ _ ?_)
    refine .region (st (.load (.t rfl) (i := 0) rfl ty24 rfl (Ss' := [_, _, _]) rfl) rfl ?_)
    refine .store (.t rfl) (.t rfl) (i := 1) rfl ty24 rfl rfl (Ss' := [_, _, _]) rfl (M' := [_, (some _, cellM [_, _, _]), _]) rfl ?_
    refine nl ?_
    refine .bln ?_
    refine .thn (k11 _ _ ?_)
    refine .region (st (.mv (.t rfl)) rfl ?_)
    refine st (.addI (.t rfl) (Has.cI 1 rfl) (by first | omega | assumption) (by first | omega | assumption)) rfl ?_
    refine st (.as (.t rfl)) rfl ?_
    refine nl ?_
    refine .thn ?_
    refine hK8 (⟨i + 1, by omega⟩) _ _ ?_ (Cv.trans (Cv.drop ((.cons _ (.cons_cons _ (.cons_cons _ .slnil))))) (Cv.mem (.cons (t := 4) (Has.t' rfl ?_) (.k 1 rfl (.k 3 rfl .nil))) ?_))
    ·show R - (i + 1) < R - i; omega
    ·exact isI_eq (by omega)
    ·rfl
  ·have hc2 := BP.f hc2
   have hiR : i = R := (by omega)
   have f2 := ins_size (C := C) (i := R) (V := []) hb (Bd.nil 1) (by omega)
   have f1 := f2.1
   have f3 := f2.2.1
   refine .exit ?_
   refine .the ?_
   refine .the ?_
   refine .blh ?_
   refine .thn (k6 _ _ ?_)
   refine .cv (Cv.wk (.k 1 rfl (.k 3 rfl .nil))) ?_
   refine .seq fun _ k15 => .region (st (.load (.t rfl) (i := 1) rfl ty24 rfl (Ss' := [_, _, _]) rfl) rfl ?_)
   refine st (.eq (.call (hnf_Lattice (K := 1) hb hhz hR hC hl) (.cons (.t rfl) .nil)) ((show _ = isTup [isMz (latP R C (vals xs)) C (latL R C (vals xs)), isI 0] from rfl))) rfl ?_
   refine st (.mv (.t rfl)) rfl (st (.ext (.t rfl) rfl) rfl ?_)
   refine st (.ext (.t rfl) rfl) rfl ?_
   refine .alloc [isI 0, isI 0, SlK 2 zc ([] : List (Bool × List Nat))] zero24 (fun _ _ => ⟨⟨rfl, by decide, by decide⟩, ⟨rfl, by decide, by decide⟩, nilK, trivial⟩) rfl fun b4 => ?_
   refine .store (.t rfl) (.t rfl) (i := 0) rfl ty24 rfl rfl (Ss' := [_, _, _]) rfl (M' := [(some _, cellM [_, _, _]), _, _]) rfl ?_
   refine st (.as (.t rfl)) rfl ?_
   refine nl (.thn (k15 _ _ ?_))
   refine .cv (Cv.wk (.k 3 rfl (.k 7 rfl (.k 8 rfl .nil)))) ?_
   refine .seq fun _ k16 => .region (st (.mv (.t rfl)) rfl ?_)
   refine st (.eqI (.t rfl) (Has.cI 0 rfl)) rfl ?_
   refine st (.mv (.t rfl)) rfl ?_
   refine stT rfl rfl (fun hg => have hg' := BP.t hg; OK1.load (.t rfl) (i := 1) rfl ty24 rfl (Ss' := [_, _, _]) rfl) rfl ?_
   refine stT rfl rfl (fun hg => have hg' := BP.t hg; OK1.load (.t rfl) (i := 0) rfl ty24 rfl (Ss' := [_, _, _]) rfl) rfl ?_
   refine stT rfl rfl (fun hg => have hg' := BP.t hg; OK1.eq (.call (zmat_Same (K := 100000) (by rw [vals_nz, hiR]; exact f1) (by rw [vals_nz]; exact f1) (by decide)) (.cons (Has.g rfl hg) (.cons (Has.g rfl hg) .nil))) ((show isB _ = isB true from isB_eq (by rw [hiR, vals_nz, formB_true (show latP R C (vals xs) ≤ 64 by omega) hC (by rw [List.length_map]; exact latL_len R C (vals xs))]; simp)))) rfl ?_
   refine st (.pickAnd (.t rfl) (fun h => Has.g rfl h)) rfl ?_
   refine st (.as (.t rfl)) rfl ?_
   refine nl (.thn (k16 _ _ ?_))
   refine .cv (Cv.wk (.k 2 rfl .nil)) ?_
   refine .ret ?_
   refine rt1 (.inl rfl) Try.results4 rfl (.tmp (Has.t' rfl ?_) .nil)
   all_goals (rfl)
theorem c_ModhnfSteps (r c : Int) (xs : List (Bool × List Nat)) : Ctr Try.prog 4 [isM r c xs] (isB true) := by
  cases h : formB r c xs.length with
  | true =>
    obtain ⟨R, C, rfl, rfl, h1, h2, h3⟩ := formB_iff.1 h
    exact c_ModhnfSteps_ok R C xs h1 h2 h3
  | false => exact c_ModhnfSteps_bad r c xs h
end Go.Proofs.Ythkdmhaafanjlaa
namespace Go.En
open Go.RowKit Go.ChangeShapes Go.WideShapes Go.ChangeAt
theorem pair_get {α β : Type} (g h : α → β) : ∀ (l : List α) (j : Nat), (l.flatMap fun a => [g a, h a])[j]? = (l[j / 2]?).map (fun a => if j % 2 = 0 then g a else h a)
  | [], j => by simp
  | a :: l, 0 => by simp
  | a :: l, 1 => by simp
  | a :: l, j + 2 => by
    have := pair_get g h l j
    rw [show (j + 2) / 2 = j / 2 + 1 by omega, show (j + 2) % 2 = j % 2 by omega]
    simpa using this
section
variable {H : Type} {enc : TypeId × Value → H} {P : Program}
end
end Go.En
namespace Go.En
open Go.RowKit Go.ChangeShapes Go.WideShapes Go.ChangeAt
section
variable {H : Type} {enc : TypeId × Value → H} {P : Program}
theorem rd_Zs {W : World} {T e tb ts T' : TypeId} {fuel : Nat} {cs : List Value} {x : DataW H × List MemPlace} (hT : P.underlying T = some (.slice e)) (hfs : fsB P e = some [(tb, 0), (ts, 1)]) (hub : P.underlying tb = some .bool) (hu : P.underlying ts = some (.slice T')) (hu' : P.underlying T' = some (.int .u64)) (hc : P.cellsOf T' = 1) (hcb : P.cellsOf tb = 1) (hcs : P.cellsOf ts = 1) (hce : P.cellsOf e = 2)
    (hf : DataW.trod enc P W 0 (fun _ => true) true fuel T cs = some x) (hps : ∀ y ∈ x.2, y.block < W.heap.size) : ∃ (v : Value) (xs : List (Bool × List Nat)), cs = [v] ∧ (isZs xs).h W (fun b => b < W.heap.size) v := by
  obtain ⟨d, ps⟩ := x
  obtain ⟨fs, hue, hsz, hget⟩ := fsB_spec hfs
  obtain ⟨f0, g0, rfl, e0⟩ := hget 0 tb 0 rfl
  obtain ⟨f1, g1, rfl, e1⟩ := hget 1 ts 1 rfl
  have hfs2 : fs = #[f0, f1] := by
    apply Array.ext'
    have hl : fs.toList.length = 2 := by simpa using hsz
    match hq : fs.toList, hl with
    | [p, q], _ =>
      have a0 : fs.toList[0]? = some f0 := by simpa using g0
      have a1 : fs.toList[1]? = some f1 := by simpa using g1
      rw [hq] at a0 a1
      simp at a0 a1
      rw [a0, a1]
  subst hfs2
  rcases Deep.open_slice_pairs hT hue hce e0 e1 hcb hcs hf with ⟨h1, _⟩ | ⟨a, len, cap, m, n, V0, V1, D0, D1, P0, P1, h1, _, hlc, hcm, hm, hx, hel⟩
  · exact ⟨_, [], h1, nilK⟩
  · simp only [if_true] at hm
    subst m
    have hps' : ∀ i, i < cap → ∀ y ∈ P1 i, y.block < W.heap.size := fun i hi y hy => hps y (by
      have := (Prod.mk.inj hx).2
      rw [this]
      exact List.mem_append_right _ (List.mem_flatMap.2 ⟨i, List.mem_range.2 hi, List.mem_append_right _ hy⟩))
    obtain ⟨l, hl, hgl⟩ := list_of_get (p := fun i (x : Bool × List Nat) => V0 i = .bool x.1 ∧ (isWords x.2).h W (fun b => b < W.heap.size) (V1 i)) len (fun i hi => by
      obtain ⟨_, _, q0, q1⟩ := hel i (by omega)
      obtain ⟨b, hb, _⟩ := DataW.trod_bool hub q0
      obtain ⟨v, ws, hv1, hw⟩ := rd_row hu hu' hc word_of q1 (hps' i (by omega))
      obtain rfl : V1 i = v := by simpa using hv1
      exact ⟨(b, ws), by simpa using hb, hw⟩)
    refine ⟨_, l, h1, some a, cap, by rw [hl], by rw [hl]; exact hlc, hcm, flat_len zc_len l, ?_⟩
    rcases Nat.eq_zero_or_pos len with h0 | h0
    · exact .inl (by omega)
    · have hc0 := (hel 0 (by omega)).1
      have hs : a.spot = none := by
        cases hsp : a.spot with
        | none => rfl
        | some s =>
          simp only [Addr.add, Nat.zero_mul, if_true] at hc0
          unfold World.cell? at hc0
          rw [hsp] at hc0
          split at hc0 <;> simp at hc0
      obtain ⟨b, off, sp⟩ := a
      simp only at hs
      subst hs
      right
      refine ⟨b, off, rfl, ?_, (List.range len).flatMap (fun i => [V0 i, V1 i]), ?_, fun j u hj => ?_⟩
      · have : MemPlace.cell b (off + 0) ∈ ps := by
          have := (Prod.mk.inj hx).2
          rw [this]
          exact List.mem_append_left _ (List.mem_map.2 ⟨0, by simp; omega, rfl⟩)
        exact hps _ this
      · have hlen2 : ((List.range len).flatMap fun i => [V0 i, V1 i]).length = len * 2 := by
          have := flat_len (fk := fun (i : Nat) => [isB true, isB true]) (k := 2) (fun _ => rfl) (List.range len)
          rw [List.length_flatMap] at this ⊢
          simpa using this
        refine all2_of_get (by rw [flat_len zc_len, hlen2, hl]) (fun j S v hS hv => ?_)
        have hz := pair_get (fun p : Bool × List Nat => isB p.1) (fun p => isWords p.2) l j
        rw [show (l.flatMap fun a => [isB a.1, isWords a.2]) = l.flatMap zc from rfl, hS] at hz
        have hw := pair_get V0 V1 (List.range len) j
        rw [hv] at hw
        have hj : j / 2 < l.length := by
          rcases Nat.lt_or_ge (j / 2) l.length with h | h
          · exact h
          · rw [List.getElem?_eq_none h] at hz; cases hz
        rw [List.getElem?_eq_getElem hj] at hz
        rw [List.getElem?_range (by omega)] at hw
        simp only [Option.map_some, Option.some.injEq] at hz hw
        obtain ⟨k1, k2⟩ := hgl (j / 2) hj
        subst hz; subst hw
        by_cases hp : j % 2 = 0
        · rw [if_pos hp, if_pos hp, k1]; rfl
        · rw [if_neg hp, if_neg hp]; exact k2
      · have hw := pair_get V0 V1 (List.range len) j
        rw [hj] at hw
        have hjl : j / 2 < len := by
          rcases Nat.lt_or_ge (j / 2) len with h | h
          · exact h
          · rw [List.getElem?_eq_none (by simpa using h)] at hw; cases hw
        rw [List.getElem?_range hjl] at hw
        simp only [Option.map_some, Option.some.injEq] at hw
        obtain ⟨q0, q1, _, _⟩ := hel (j / 2) (by omega)
        rw [add_mk] at q0
        rw [add_mk] at q1
        by_cases hp : j % 2 = 0
        · rw [if_pos hp] at hw; subst hw
          rw [show off + j = off + j / 2 * 2 by omega]; exact q0
        · rw [if_neg hp] at hw; subst hw
          rw [show off + j = off + (j / 2 * 2 + 1) by omega]; exact q1
theorem open_M {W : World} {base : Nat} {T ti tm e tb ts T' : TypeId} {v : Value} {d : DataW H} {ps : List MemPlace} (hfM : fsB P T = some [(ti, 0), (ti, 1), (tm, 2)]) (hui : P.underlying ti = some (.int .i64)) (hT : P.underlying tm = some (.slice e)) (hfs : fsB P e = some [(tb, 0), (ts, 1)]) (hub : P.underlying tb = some .bool) (hu : P.underlying ts = some (.slice T')) (hu' : P.underlying T' = some (.int .u64)) (hc : P.cellsOf T' = 1) (hcb : P.cellsOf tb = 1) (hcs : P.cellsOf ts = 1) (hce : P.cellsOf e = 2)
    (hci : P.cellsOf ti = 1) (hcm : P.cellsOf tm = 1) (hcT : P.cellsOf T = 3) (hv : Value.okWide P W .any base T v) (h : DataW.Trod enc P W 0 (fun _ => true) true T v d ps) (hps : ∀ x ∈ ps, x.block < W.heap.size) : ∃ x : Int × Int × List (Bool × List Nat), (isM x.1 x.2.1 x.2.2).h W (fun b => b < W.heap.size) v := by
  obtain ⟨fs, huT, hsz, hget⟩ := fsB_spec hfM
  have hv' := hv
  simp only [Value.okWide, huT] at hv'
  obtain ⟨cs, rfl, _, _⟩ := hv'
  obtain ⟨fuel, hf⟩ := h
  obtain ⟨xs, m, _, hx, hl, hxl, hfe⟩ := DataW.trod_struct huT hf
  simp [Value.cells] at hl hx
  obtain ⟨f0, g0, rfl, e0⟩ := hget 0 ti 0 rfl
  obtain ⟨f1, g1, k1, e1⟩ := hget 1 _ 1 rfl
  obtain ⟨f2, g2, rfl, e2⟩ := hget 2 tm 2 rfl
  have h0 := hfe 0 f0 g0
  have h1 := hfe 1 f1 g1
  have h2 := hfe 2 f2 g2
  rw [List.getElem?_eq_getElem (by rw [hxl, hsz]; simp)] at h0 h1 h2
  rw [e0, hci] at h0
  rw [e1, k1, hci] at h1
  rw [e2, hcm] at h2
  obtain ⟨r, hr, hr1, hr2⟩ := rd_I hui h0
  obtain ⟨c, hc1, hc2, hc3⟩ := rd_I hui h1
  obtain ⟨u, ws, hu1, hw⟩ := rd_Zs hT hfs hub hu hu' hc hcb hcs hce h2 (fun y hy => hps y (by
    rw [hx.2]
    exact List.mem_flatMap.2 ⟨_, List.getElem_mem _, hy⟩))
  refine ⟨(r, c, ws), cs.toList, by simp, ?_⟩
  have hcs2 : cs.toList = [.int .i64 r, .int .i64 c, u] := by
    have hlen : cs.toList.length = 3 := by rw [← hcT]; simpa using hl
    match hq : cs.toList, hlen with
    | [p, q, t], _ =>
      have a1 : [p] = [Value.int .i64 r] := by have := hr; simpa [Value.cells, hq] using this
      have a2 : [q] = [Value.int .i64 c] := by have := hc1; simpa [Value.cells, hq] using this
      have a3 : [t] = [u] := by have := hu1; simpa [Value.cells, hq] using this
      rw [List.cons.inj a1 |>.1, List.cons.inj a2 |>.1, List.cons.inj a3 |>.1]
  rw [hcs2]
  exact ⟨⟨rfl, hr1, hr2⟩, ⟨rfl, hc2, hc3⟩, hw, trivial⟩
end
end Go.En
namespace Go.Proofs.Ythkdmhaafanjlaa
open Go.En Go.RowKit
set_option maxRecDepth 10000
open Go.ChangeShapes
open Go.WideShapes
open Go.ChangeAt
open Go.Nt
open Go.Pz
open Go.Mz
theorem opens_ModhnfSteps : Opens Try.prog Try.f4 4 := by
 intro H enc W base args ds ps hval hA hlt
 rw [Try.params4] at hA hval
 obtain ⟨v0, vs0, d0, ds0, p0, q0, hargs, rfl, rfl, h0, r0⟩ := trodAll_cons hA
 obtain ⟨rfl, rfl, rfl⟩ := trodAll_nil r0
 obtain rfl : args = #[v0] := by cases args; simp_all
 obtain ⟨x0, o0⟩ := open_M fs24 un3 un22 fs30 un4 un28 un48 (by kernel_rfl) (by kernel_rfl) (by kernel_rfl) (by kernel_rfl) (by kernel_rfl) (by kernel_rfl) (by kernel_rfl) (hval 0 24 v0 rfl rfl) h0 (fun x hx => hlt x (by simp [hx]))
 refine ⟨_, ?_, c_ModhnfSteps x0.1 x0.2.1 x0.2.2⟩
 exact ⟨o0, trivial⟩
theorem modhnfSteps_said : Rows.ModhnfStepsSaid :=
 OpenClaim.holds_of_wide 4 Try.f4 rfl rfl rfl rfl rfl rfl rfl ⟨rfl, rfl, rfl, rfl, rfl⟩ rfl rfl rfl rfl rfl (by kernel_rfl) Try.func4 (by kernel_rfl)
  (of_decide_eq_true (by kernel_rfl)) (by unfold Func.isWrapper; first | (rw [if_pos (by decide +kernel)]; kernel_rfl) | (rw [if_neg (by decide +kernel)]; exact ⟨rfl, rfl⟩))
  (fun os started H enc _ => lift_law (C := Try.checked) (s := Rows.modhnfStepsSpec) (by kernel_rfl) started (by kernel_rfl) Try.func4
   (ChangeSpec.witness6 (enc := enc) (C := Try.checked) false ⟨#[], #[.agg #[.int .i64 0, .int .i64 0, .slice none 0 0]], []⟩ 8 (by kernel_rfl) (by kernel_rfl) (by kernel_rfl) (by kernel_rfl))
   (by kernel_rfl) (by kernel_rfl) rfl rfl un4 (fun ds h => by match ds, h with | [d0], _ => rfl) opens_ModhnfSteps)
#print axioms modhnfSteps_said
end Go.Proofs.Ythkdmhaafanjlaa
