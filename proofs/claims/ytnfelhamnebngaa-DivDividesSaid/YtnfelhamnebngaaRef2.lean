/- Contracts: the reference for naturals: words of digits, carrying, sums. -/
import Derived.Test.YtnfelhamnebngaaRef1
namespace Go.Proofs.Ytnfelhamnebngaa
open Go.En Go.RowKit
set_option linter.unusedVariables false
set_option maxRecDepth 10000
open Go.Nt
theorem ref01_To {n : Nat} (hx : (List.length (digs n)) ≤ 1073741824) : Ctr Try.prog 99 [SlM isN (digs n)] (isWords (words n)) := by
  refine Ctr.intro Try.func99 rfl (by kernel_rfl) Try.ntmps99 rfl fun w0 F0 => ?_
  refine Tri.cv (Cv.wk (.cons (t := 0) (Has.t rfl) .nil)) ?_
  refine Tri.fact (Has.lenLt (Has.t (t := 0) rfl)) fun lt0 => ?_
  refine Tri.seq fun K1 hK1 => ?_
  refine Tri.region ?_
  refine st (OK1.as (Has.cW (f := isU))) rfl ?_
  refine nl ?_
  refine At.thn (hK1 _ _ ?_); clear hK1
  refine Tri.seq fun K2 hK2 => ?_
  refine Tri.region ?_
  refine Ops.cv (Cv.grow0 (α := Nat) isU) ?_
  refine st (OK1.as (Has.cGr (α := Nat))) rfl ?_
  refine nl ?_
  refine At.thn (hK2 _ _ ?_); clear hK2
  refine Tri.seq fun K3 hK3 => ?_
  refine Tri.seq fun K4 hK4 => ?_
  refine Tri.region ?_
  refine st (OK1.as (Has.cI 0 rfl)) rfl ?_
  refine nl ?_
  refine At.thn (hK4 _ _ ?_); clear hK4
  refine Tri.block ?_
  refine Tri.loopF [0, 2] (fun (z : { z : Nat × Gr Nat // 4 * z.1 ≤ (List.length (digs n)) + 3 }) => match z with | ⟨(j, g), hI⟩ => [(4, isI ((4 * j : Nat) : Int)), (3, isGr g (wordsN j n).length)]) (fun M => fun (z : { z : Nat × Gr Nat // 4 * z.1 ≤ (List.length (digs n)) + 3 }) => match z with | ⟨(j, g), hI⟩ => [grM isU g (wordsN j n)]) (fun (z : { z : Nat × Gr Nat // 4 * z.1 ≤ (List.length (digs n)) + 3 }) => match z with | ⟨(j, g), hI⟩ => (List.length (digs n)) + 3 - 4 * j) (⟨(0, Gr.nil), by show 4 * 0 ≤ _; omega⟩) (Cv.mem (.cons (t := 4) (Has.t' rfl ?_) (.cons (t := 3) (Has.t' rfl ?_) (.cons (t := 0) (Has.t rfl) (.cons (t := 2) (Has.t rfl) .nil)))) ?_) ?_
  · rfl
  · rfl
  · rfl
  rintro ⟨⟨j, g⟩, hI⟩ K5 hK5
  refine Tri.cv (Cv.wk (.cons (t := 4) (Has.t rfl) (.cons (t := 3) (Has.t rfl) (.cons (t := 0) (Has.t rfl) (.cons (t := 2) (Has.t rfl) .nil))))) ?_
  refine Tri.memEq (M' := [grM isU g (wordsN j n)]) rfl ?_
  simp only [] at hI
  have hwl := wordsN_len j n
  refine Tri.seq fun K6 hK6 => ?_
  refine Tri.seq fun K7 hK7 => ?_
  refine Tri.region ?_
  refine st (OK1.mv (Has.t rfl)) rfl ?_
  refine st (OK1.mv (Has.t rfl)) rfl ?_
  refine st (OK1.len sl32 (Has.t rfl)) rfl ?_
  refine st (OK1.ltI (Has.t rfl) (Has.t rfl)) rfl ?_
  refine nl ?_
  refine At.thn (hK7 _ _ ?_); clear hK7
  refine Tri.cond (Has.t rfl) (fun hc1 => ?_) (fun hc1 => ?_)
  · have hc1 := BP.t hc1
    refine Tri.skip ?_
    refine At.thn (hK6 _ _ ?_); clear hK6
    refine Tri.seq fun K8 hK8 => ?_
    refine Tri.block ?_
    refine Tri.seq fun K9 hK9 => ?_
    refine Tri.region ?_
    refine st (OK1.as (Has.cU 0 rfl)) rfl ?_
    refine nl ?_
    refine At.thn (hK9 _ _ ?_); clear hK9
    refine Tri.seq fun K10 hK10 => ?_
    refine Tri.seq fun K11 hK11 => ?_
    refine Tri.region ?_
    refine st (OK1.as (Has.cI 3 rfl)) rfl ?_
    refine nl ?_
    refine At.thn (hK11 _ _ ?_); clear hK11
    refine Tri.block ?_
    refine Tri.loopF [0, 2, 4, 3, 7, 8, 9, 10] (fun (z : { t : Nat // t ≤ 4 }) => match z with | ⟨t, ht⟩ => [(6, isI (3 - (t : Int))), (5, isU (dig n j / D ^ (4 - t)))]) (fun M => fun (z : { t : Nat // t ≤ 4 }) => match z with | ⟨t, ht⟩ => [grM isU g (wordsN j n)]) (fun (z : { t : Nat // t ≤ 4 }) => match z with | ⟨t, ht⟩ => 4 - t) (⟨0, by decide⟩) (Cv.mem (.cons (t := 6) (Has.t' rfl ?_) (.cons (t := 5) (Has.t' rfl ?_) (.cons (t := 0) (Has.t rfl) (.cons (t := 2) (Has.t rfl) (.cons (t := 4) (Has.t rfl) (.cons (t := 3) (Has.t rfl) (.cons (t := 7) (Has.t rfl) (.cons (t := 8) (Has.t rfl) (.cons (t := 9) (Has.t rfl) (.cons (t := 10) (Has.t rfl) .nil)))))))))) ?_) ?_
    · rfl
    · exact isU_eq (to_start n j)
    · rfl
    rintro ⟨t, ht⟩ K12 hK12
    refine Tri.cv (Cv.wk (.cons (t := 6) (Has.t rfl) (.cons (t := 5) (Has.t rfl) (.cons (t := 0) (Has.t rfl) (.cons (t := 2) (Has.t rfl) (.cons (t := 4) (Has.t rfl) (.cons (t := 3) (Has.t rfl) (.cons (t := 7) (Has.t rfl) (.cons (t := 8) (Has.t rfl) (.cons (t := 9) (Has.t rfl) (.cons (t := 10) (Has.t rfl) .nil))))))))))) ?_
    refine Tri.memEq (M' := [grM isU g (wordsN j n)]) rfl ?_
    refine Tri.seq fun K13 hK13 => ?_
    refine Tri.seq fun K14 hK14 => ?_
    refine Tri.region ?_
    refine st (OK1.mv (Has.t rfl)) rfl ?_
    refine st (OK1.geI (Has.t rfl) (Has.cI 0 rfl)) rfl ?_
    refine nl ?_
    refine At.thn (hK14 _ _ ?_); clear hK14
    refine Tri.cond (Has.t rfl) (fun hc2 => ?_) (fun hc2 => ?_)
    · have hc2 := BP.t hc2
      have hs := to_step (n := n) (j := j) (show t < 4 by omega)
      have hb := dig_div_lt n j (4 - (t + 1))
      refine Tri.skip ?_
      refine At.thn (hK13 _ _ ?_); clear hK13
      refine Tri.seq fun K15 hK15 => ?_
      refine Tri.block ?_
      refine Tri.seq fun K16 hK16 => ?_
      refine Tri.region ?_
      refine st (OK1.mv (Has.t rfl)) rfl ?_
      refine st (OK1.mulU' (Has.t rfl) (Has.cU 65536 rfl) (by first | with_reducible assumption | omega | (simp only [List.length_take, wordsN_len]; omega))) rfl ?_
      refine st (OK1.as (Has.t rfl)) rfl ?_
      refine nl ?_
      refine At.thn (hK16 _ _ ?_); clear hK16
      refine Tri.seq fun K17 hK17 => ?_
      refine Tri.region ?_
      refine st (OK1.mv (Has.t rfl)) rfl ?_
      refine st (OK1.mv (Has.t rfl)) rfl ?_
      refine st (OK1.addI (Has.t rfl) (Has.t rfl) (by first | with_reducible assumption | omega | (simp only [List.length_take, wordsN_len]; omega)) (by first | with_reducible assumption | omega | (simp only [List.length_take, wordsN_len]; omega))) rfl ?_
      refine st (OK1.mv (Has.t rfl)) rfl ?_
      refine st (OK1.len sl32 (Has.t rfl)) rfl ?_
      refine st (OK1.ltI (Has.t rfl) (Has.t rfl)) rfl ?_
      refine nl ?_
      refine At.thn (hK17 _ _ ?_); clear hK17
      refine Tri.cond (Has.t rfl) (fun hc3 => ?_) (fun hc3 => ?_)
      · have hc3 := BP.t hc3
        refine Tri.region ?_
        refine st (OK1.mv (Has.t rfl)) rfl ?_
        refine st (OK1.mv (Has.t rfl)) rfl ?_
        refine st (OK1.mv (Has.t rfl)) rfl ?_
        refine st (OK1.mv (Has.t rfl)) rfl ?_
        refine st (OK1.eq (OK1.addI (Has.t rfl) (Has.t rfl) (by first | with_reducible assumption | omega | (simp only [List.length_take, wordsN_len]; omega)) (by first | with_reducible assumption | omega | (simp only [List.length_take, wordsN_len]; omega))) ((show isI _ = isI ((4 * j + (3 - t) : Nat) : Int) from isI_eq (by omega)))) rfl ?_
        refine st (OK1.ixP sl32 ty3 (Has.t rfl) (Has.t rfl) ⟨by omega, by omega⟩ (getD_some (d := 0) (by first | omega | (simp only [Int.toNat_natCast, List.length_set]; omega)))) rfl ?_
        refine st (OK1.eq (OK1.loadP1 (Has.t rfl) ty3) ((show isI _ = isN (dg n (4 * j + (3 - t))) from isI_eq (by rw [Int.toNat_natCast, d_getD_words])))) rfl ?_
        refine st (OK1.eq (OK1.convIU un3 un27 (Has.t rfl) (by first | with_reducible assumption | omega | (simp only [List.length_take, wordsN_len]; omega)) (by first | with_reducible assumption | omega | (simp only [List.length_take, wordsN_len]; omega))) ((show isU _ = isU (dg n (4 * j + (3 - t))) from isU_eq (by rw [Int.toNat_natCast])))) rfl ?_
        refine st (OK1.addU' (Has.t rfl) (Has.t rfl) (by first | with_reducible assumption | omega | (simp only [List.length_take, wordsN_len]; omega))) rfl ?_
        refine st (OK1.as (Has.t rfl)) rfl ?_
        refine nl ?_
        refine At.bln ?_
        refine At.thn (hK15 _ _ ?_); clear hK15
        refine Tri.region ?_
        refine st (OK1.mv (Has.t rfl)) rfl ?_
        refine st (OK1.subI (Has.t rfl) (Has.cI 1 rfl) (by first | with_reducible assumption | omega | (simp only [List.length_take, wordsN_len]; omega)) (by first | with_reducible assumption | omega | (simp only [List.length_take, wordsN_len]; omega))) rfl ?_
        refine st (OK1.as (Has.t rfl)) rfl ?_
        refine nl ?_
        refine At.thn ?_
        refine hK12 (⟨t + 1, by omega⟩) _ _ ?_ (Cv.mem (.cons (t := 6) (Has.t' rfl ?_) (.cons (t := 5) (Has.t' rfl ?_) (.cons (t := 0) (Has.t rfl) (.cons (t := 2) (Has.t rfl) (.cons (t := 4) (Has.t rfl) (.cons (t := 3) (Has.t rfl) (.cons (t := 7) (Has.t rfl) (.cons (t := 8) (Has.t rfl) (.cons (t := 9) (Has.t rfl) (.cons (t := 10) (Has.t rfl) .nil)))))))))) ?_)
        · show 4 - (t + 1) < 4 - t; omega
        · exact isI_eq (by show _ = 3 - ((t + 1 : Nat) : Int); omega)
        · exact isU_eq hs
        · rfl
      · have hc3 := BP.f hc3
        refine Tri.skip ?_
        refine At.bln ?_
        refine At.thn (hK15 _ _ ?_); clear hK15
        refine Tri.region ?_
        refine st (OK1.mv (Has.t rfl)) rfl ?_
        refine st (OK1.subI (Has.t rfl) (Has.cI 1 rfl) (by first | with_reducible assumption | omega | (simp only [List.length_take, wordsN_len]; omega)) (by first | with_reducible assumption | omega | (simp only [List.length_take, wordsN_len]; omega))) rfl ?_
        refine st (OK1.as (Has.t rfl)) rfl ?_
        refine nl ?_
        refine At.thn ?_
        refine hK12 (⟨t + 1, by omega⟩) _ _ ?_ (Cv.mem (.cons (t := 6) (Has.t' rfl ?_) (.cons (t := 5) (Has.t' rfl ?_) (.cons (t := 0) (Has.t rfl) (.cons (t := 2) (Has.t rfl) (.cons (t := 4) (Has.t rfl) (.cons (t := 3) (Has.t rfl) (.cons (t := 7) (Has.t rfl) (.cons (t := 8) (Has.t rfl) (.cons (t := 9) (Has.t rfl) (.cons (t := 10) (Has.t rfl) .nil)))))))))) ?_)
        · show 4 - (t + 1) < 4 - t; omega
        · exact isI_eq (by show _ = 3 - ((t + 1 : Nat) : Int); omega)
        · exact isU_eq (by rw [← hs, d_dig_zero (by omega), Nat.add_zero])
        · rfl
    · have hc2 := BP.f hc2
      refine Tri.exit ?_
      refine At.the ?_
      refine At.the ?_
      refine At.blh ?_
      refine At.thn (hK10 _ _ ?_); clear hK10
      refine Tri.region ?_
      refine st (OK1.mv (Has.t rfl)) rfl ?_
      refine st (OK1.eq (OK1.mv (Has.t rfl)) ((show isU _ = isU (dig n j) from isU_eq (to_full (by omega) ht)))) rfl ?_
      refine st (OK1.buildS [isU 0] sl22 ty27 zero27 (fun _ _ => ⟨⟨rfl, by decide⟩, trivial⟩) rfl rfl (.cons (Has.t rfl) rfl rfl rfl .nil) rfl (S := isWords [_]) rfl) rfl ?_
      refine Ops.appendG (f := isU) (u := 0) sl22 ty27 zero27 (fun _ _ => ⟨⟨rfl, by decide⟩, trivial⟩) (fun _ => inferInstance) by27 (Has.t rfl) (i := 0) rfl (Has.t rfl) (by simp only [List.length_cons, List.length_nil]; omega) (by simp) rfl fun gr1 => ?_
      refine Ops.memEq (M' := [grM _ _ _]) rfl ?_
      refine st (OK1.as (Has.t rfl)) rfl ?_
      refine nl ?_
      refine At.bln ?_
      refine At.thn (hK8 _ _ ?_); clear hK8
      refine Tri.region ?_
      refine st (OK1.mv (Has.t rfl)) rfl ?_
      refine st (OK1.addI (Has.t rfl) (Has.cI 4 rfl) (by first | with_reducible assumption | omega | (simp only [List.length_take, wordsN_len]; omega)) (by first | with_reducible assumption | omega | (simp only [List.length_take, wordsN_len]; omega))) rfl ?_
      refine st (OK1.as (Has.t rfl)) rfl ?_
      refine nl ?_
      refine At.thn ?_
      refine hK5 (⟨(j + 1, gr1), by show 4 * (j + 1) ≤ _; omega⟩) _ _ ?_ (Cv.mem (.cons (t := 4) (Has.t' rfl ?_) (.cons (t := 3) (Has.t' rfl ?_) (.cons (t := 0) (Has.t rfl) (.cons (t := 2) (Has.t rfl) .nil)))) ?_)
      · show (List.length (digs n)) + 3 - 4 * (j + 1) < (List.length (digs n)) + 3 - 4 * j; omega
      · exact isI_eq (by show _ = ((4 * (j + 1) : Nat) : Int); omega)
      · exact isGr_eq (by simp only [List.length_append, d_wordsN_len, wordsN_len, addL_len, List.length_cons, List.length_nil] <;> omega)
      · exact grM_eq (wordsN_succ _ _).symm
  · have hc1 := BP.f hc1
    refine Tri.exit ?_
    refine At.the ?_
    refine At.the ?_
    refine At.blh ?_
    refine At.thn (hK3 _ _ ?_); clear hK3
    refine Tri.cv (Cv.wk (.cons (t := 2) (Has.t rfl) (.cons (t := 3) (Has.t rfl) .nil))) ?_
    refine Tri.seq fun K18 hK18 => ?_
    refine Tri.block ?_
    refine Tri.cv (Cv.freezeG (t := 3) (i := 0) (ys := wordsN j n) rfl rfl rfl) ?_
    refine Tri.memEq (M' := []) rfl ?_
    refine Tri.cv (Cv.wk (.cons (t := 2) (Has.t rfl) (.cons (t := 3) (Has.t rfl) .nil))) ?_
    refine Tri.loopF [2] (fun (z : { k : Nat // k ≤ j ∧ ∀ i, k ≤ i → (wordsN j n).getD i 0 = 0 }) => match z with | ⟨k, hI⟩ => [(3, isWords ((wordsN j n).take k))]) (fun M => fun (z : { k : Nat // k ≤ j ∧ ∀ i, k ≤ i → (wordsN j n).getD i 0 = 0 }) => match z with | ⟨k, hI⟩ => M) (fun (z : { k : Nat // k ≤ j ∧ ∀ i, k ≤ i → (wordsN j n).getD i 0 = 0 }) => match z with | ⟨k, hI⟩ => k) (⟨j, Nat.le_refl _, fun i hi => by rw [List.getD, List.getElem?_eq_none (by rw [wordsN_len]; exact hi)]; rfl⟩) (Cv.mem (.cons (t := 3) (Has.t' rfl ?_) (.cons (t := 2) (Has.t rfl) .nil)) ?_) ?_
    · exact SlM_eq (by rw [List.take_of_length_le (by rw [wordsN_len]; exact Nat.le_refl _)])
    · rfl
    rintro ⟨k, hk, hz⟩ K19 hK19
    refine Tri.cv (Cv.wk (.cons (t := 3) (Has.t rfl) (.cons (t := 2) (Has.t rfl) .nil))) ?_
    have htl : ((wordsN j n).take k).length = k := by rw [List.length_take, wordsN_len]; omega
    have ek : (((((wordsN j n).take k).length : Nat) : Int) - 1).toNat = k - 1 := by rw [htl]; omega
    refine Tri.seq fun K20 hK20 => ?_
    refine Tri.seq fun K21 hK21 => ?_
    refine Tri.region ?_
    refine st (OK1.mv (Has.t rfl)) rfl ?_
    refine st (OK1.len sl22 (Has.t rfl)) rfl ?_
    refine st (OK1.gtI (Has.t rfl) (Has.cI 0 rfl)) rfl ?_
    refine st (OK1.mv (Has.t rfl)) rfl ?_
    refine stT rfl rfl (fun hg => have hg' := BP.t hg; OK1.mv (Has.t rfl)) rfl ?_
    refine stT rfl rfl (fun hg => have hg' := BP.t hg; OK1.mv (Has.t rfl)) rfl ?_
    refine stT rfl rfl (fun hg => have hg' := BP.t hg; OK1.len sl22 (Has.g rfl hg)) rfl ?_
    refine stT rfl rfl (fun hg => have hg' := BP.t hg; OK1.subI (Has.g rfl hg) (Has.cI 1 rfl) (by first | with_reducible assumption | omega | (simp only [List.length_take, wordsN_len]; omega)) (by first | with_reducible assumption | omega | (simp only [List.length_take, wordsN_len]; omega))) rfl ?_
    refine stT rfl rfl (fun hg => have hg' := BP.t hg; OK1.ixP sl22 ty27 (Has.g rfl hg) (Has.g rfl hg) ⟨by omega, by omega⟩ (getD_some (d := 0) (by first | omega | (simp only [Int.toNat_natCast, List.length_set]; omega)))) rfl ?_
    refine stT rfl rfl (fun hg => have hg' := BP.t hg; OK1.loadP1 (Has.g rfl hg) ty27) rfl ?_
    refine stT rfl rfl (fun hg => have hg' := BP.t hg; OK1.eqU (Has.g rfl hg) (Has.cU 0 rfl)) rfl ?_
    refine st (OK1.pickAnd (Has.t rfl) (fun h => Has.g rfl h)) rfl ?_
    refine nl ?_
    refine At.thn (hK21 _ _ ?_); clear hK21
    refine Tri.cond (Has.t rfl) (fun hc4 => ?_) (fun hc4 => ?_)
    · have hc4 := BP.t hc4
      have HA2 := hc4
      refine Tri.skip ?_
      refine At.thn (hK20 _ _ ?_); clear hK20
      refine Tri.block ?_
      refine Tri.region ?_
      refine st (OK1.mv (Has.t rfl)) rfl ?_
      refine st (OK1.mv (Has.t rfl)) rfl ?_
      refine st (OK1.len sl22 (Has.t rfl)) rfl ?_
      refine st (OK1.subI (Has.t rfl) (Has.cI 1 rfl) (by first | with_reducible assumption | omega | (simp only [List.length_take, wordsN_len]; omega)) (by first | with_reducible assumption | omega | (simp only [List.length_take, wordsN_len]; omega))) rfl ?_
      refine st (OK1.slHM sl22 ty27 (Has.t rfl) (Has.t rfl) ⟨by omega, by omega⟩) rfl ?_
      refine st (OK1.as (Has.t rfl)) rfl ?_
      refine nl ?_
      refine At.bln ?_
      refine At.thn ?_
      refine hK19 (⟨k - 1, by omega, fun i hi => by rcases Nat.lt_or_ge i k with h | h; (have e : i = k - 1 := by omega); (have := HA2.2; rw [ek, getD_take (by omega)] at this; rw [e]; exact this); exact hz i h⟩) _ _ ?_ (Cv.mem (.cons (t := 3) (Has.t' rfl ?_) (.cons (t := 2) (Has.t rfl) .nil)) ?_)
      · show k - 1 < k; omega
      · exact SlM_eq (by rw [ek, take_down (by omega)])
      · rfl
    · have hc4 := BP.f hc4
      have HA3 := hc4
      refine Tri.exit ?_
      refine At.the ?_
      refine At.the ?_
      refine At.blh ?_
      refine At.thn (hK18 _ _ ?_); clear hK18
      refine Tri.cv (Cv.wk (.cons (t := 2) (Has.t rfl) (.cons (t := 3) (Has.t rfl) .nil))) ?_
      refine Tri.seq fun K22 hK22 => ?_
      refine Tri.region ?_
      refine st (OK1.mv (Has.t rfl)) rfl ?_
      refine st (OK1.as (Has.t rfl)) rfl ?_
      refine nl ?_
      refine At.thn (hK22 _ _ ?_); clear hK22
      refine Tri.ret ?_
      refine rt1 (.inl rfl) Try.results99 rfl (.tmp (Has.t' rfl ?_) .nil)
      all_goals (exact SlM_eq (to_end (by omega) hk hz (by rcases Nat.eq_zero_or_pos k with h0 | h0; exact .inl h0; right; (rcases HA3 with h | h; omega; (rw [ek, getD_take (by omega)] at h; exact h)))))

theorem ref01_Carried {ds : List Nat} (hd : ∀ x ∈ ds, x ≤ 1099511627776) (hl : ds.length ≤ 1073741824) : Ctr Try.prog 120 [SlM isN ds] (SlM isN (digs (dval ds))) := by
  refine Ctr.intro Try.func120 rfl (by kernel_rfl) Try.ntmps120 rfl fun w0 F0 => ?_
  refine Tri.cv (Cv.wk (.cons (t := 0) (Has.t rfl) .nil)) ?_
  refine Tri.fact (Has.lenLt (Has.t (t := 0) rfl)) fun lt0 => ?_
  refine Tri.seq fun K1 hK1 => ?_
  refine Tri.region ?_
  refine st (OK1.as (Has.cW (f := isN))) rfl ?_
  refine nl ?_
  refine At.thn (hK1 _ _ ?_); clear hK1
  refine Tri.seq fun K2 hK2 => ?_
  refine Tri.region ?_
  refine Ops.cv (Cv.grow0 (α := Nat) isN) ?_
  refine st (OK1.as (Has.cGr (α := Nat))) rfl ?_
  refine nl ?_
  refine At.thn (hK2 _ _ ?_); clear hK2
  refine Tri.seq fun K3 hK3 => ?_
  refine Tri.region ?_
  refine st (OK1.as (Has.cI 0 rfl)) rfl ?_
  refine nl ?_
  refine At.thn (hK3 _ _ ?_); clear hK3
  refine Tri.seq fun K4 hK4 => ?_
  refine Tri.seq fun K5 hK5 => ?_
  refine Tri.region ?_
  refine st (OK1.as (Has.cI 0 rfl)) rfl ?_
  refine nl ?_
  refine At.thn (hK5 _ _ ?_); clear hK5
  refine Tri.block ?_
  refine Tri.loopF [0, 2] (fun (z : { z : Nat × Nat × Gr Nat // z.2.1 + dval (ds.drop z.1) = dval ds / D ^ z.1 ∧ z.2.1 ≤ 1099511627776 ∧ z.1 ≤ ds.length + 4 }) => match z with | ⟨(i, c, g), hI⟩ => [(5, isI (i : Int)), (4, isN c), (3, isGr g (digsN i (dval ds)).length)]) (fun M => fun (z : { z : Nat × Nat × Gr Nat // z.2.1 + dval (ds.drop z.1) = dval ds / D ^ z.1 ∧ z.2.1 ≤ 1099511627776 ∧ z.1 ≤ ds.length + 4 }) => match z with | ⟨(i, c, g), hI⟩ => [grM isN g (digsN i (dval ds))]) (fun (z : { z : Nat × Nat × Gr Nat // z.2.1 + dval (ds.drop z.1) = dval ds / D ^ z.1 ∧ z.2.1 ≤ 1099511627776 ∧ z.1 ≤ ds.length + 4 }) => match z with | ⟨(i, c, g), hI⟩ => dval ds / D ^ i + (ds.length - i)) (⟨(0, 0, Gr.nil), by simp, by decide, Nat.zero_le _⟩) (Cv.mem (.cons (t := 5) (Has.t' rfl ?_) (.cons (t := 4) (Has.t' rfl ?_) (.cons (t := 3) (Has.t' rfl ?_) (.cons (t := 0) (Has.t rfl) (.cons (t := 2) (Has.t rfl) .nil))))) ?_) ?_
  · rfl
  · rfl
  · rfl
  · rfl
  rintro ⟨⟨i, c, g⟩, hI⟩ K6 hK6
  refine Tri.cv (Cv.wk (.cons (t := 5) (Has.t rfl) (.cons (t := 4) (Has.t rfl) (.cons (t := 3) (Has.t rfl) (.cons (t := 0) (Has.t rfl) (.cons (t := 2) (Has.t rfl) .nil)))))) ?_
  refine Tri.memEq (M' := [grM isN g (digsN i (dval ds))]) rfl ?_
  simp only [] at hI
  obtain ⟨h1, h2, h3⟩ := hI
  have hst := carry_step h1
  have hg := getD_le (i := i) hd
  have hdl := d_wordsN_len i (dval ds)
  refine Tri.seq fun K7 hK7 => ?_
  refine Tri.seq fun K8 hK8 => ?_
  refine Tri.region ?_
  refine st (OK1.mv (Has.t rfl)) rfl ?_
  refine st (OK1.mv (Has.t rfl)) rfl ?_
  refine st (OK1.len sl32 (Has.t rfl)) rfl ?_
  refine st (OK1.ltI (Has.t rfl) (Has.t rfl)) rfl ?_
  refine st (OK1.mv (Has.t rfl)) rfl ?_
  refine stF rfl rfl (fun hg => have hg' := BP.t hg; OK1.mv (Has.t rfl)) rfl ?_
  refine stF rfl rfl (fun hg => have hg' := BP.t hg; OK1.gtI (Has.g rfl hg) (Has.cI 0 rfl)) rfl ?_
  refine st (OK1.pickOr (Has.t rfl) (fun h => Has.g rfl (ng h))) rfl ?_
  refine nl ?_
  refine At.thn (hK8 _ _ ?_); clear hK8
  refine Tri.cond (Has.t rfl) (fun hc1 => ?_) (fun hc1 => ?_)
  · have hc1 := BP.t hc1
    have hlt2 : i < ds.length + 4 := by
      rcases Nat.lt_or_ge i (ds.length + 4) with h | h
      · exact h
      · have := carry_zero h1 hd h; omega
    refine Tri.skip ?_
    refine At.thn (hK7 _ _ ?_); clear hK7
    refine Tri.seq fun K9 hK9 => ?_
    refine Tri.block ?_
    refine Tri.seq fun K10 hK10 => ?_
    refine Tri.region ?_
    refine st (OK1.mv (Has.t rfl)) rfl ?_
    refine st (OK1.mv (Has.t rfl)) rfl ?_
    refine st (OK1.mv (Has.t rfl)) rfl ?_
    refine st (OK1.call (ref01_at) (.cons (Has.t rfl) (.cons (Has.t rfl) .nil))) rfl ?_
    refine st (OK1.eq (OK1.addI (Has.t rfl) (Has.t rfl) (by first | with_reducible assumption | omega | with_reducible exact d_wordsN_ok _ _) (by first | with_reducible assumption | omega | with_reducible exact d_wordsN_ok _ _)) ((show isI _ = isN (c + ds.getD i 0) from isI_eq (by omega)))) rfl ?_
    refine st (OK1.as (Has.t rfl)) rfl ?_
    refine nl ?_
    refine At.thn (hK10 _ _ ?_); clear hK10
    refine Tri.seq fun K11 hK11 => ?_
    refine Tri.region ?_
    refine st (OK1.mv (Has.t rfl)) rfl ?_
    refine st (OK1.mv (Has.t rfl)) rfl ?_
    refine st (OK1.eq (OK1.remI (Has.t rfl) (Has.cI 65536 rfl) (by first | with_reducible assumption | omega | with_reducible exact d_wordsN_ok _ _) (by first | with_reducible assumption | omega | with_reducible exact d_wordsN_ok _ _) (by first | with_reducible assumption | omega | with_reducible exact d_wordsN_ok _ _)) ((show isI _ = isN (dg (dval ds) i) from isI_eq (by have := hst.1; omega)))) rfl ?_
    refine st (OK1.buildS [isI 0] sl32 ty3 zero3 (fun _ _ => ⟨⟨rfl, by decide, by decide⟩, trivial⟩) rfl rfl (.cons (Has.t rfl) rfl rfl rfl .nil) rfl (S := SlM isN [_]) rfl) rfl ?_
    refine Ops.appendG (f := isN) (u := 0) sl32 ty3 zero3 (fun _ _ => ⟨⟨rfl, by decide, by decide⟩, trivial⟩) (fun _ => inferInstance) by3 (Has.t rfl) (i := 0) rfl (Has.t rfl) (by simp only [List.length_cons, List.length_nil]; omega) (by simp) rfl fun gr1 => ?_
    refine Ops.memEq (M' := [grM _ _ _]) rfl ?_
    refine st (OK1.as (Has.t rfl)) rfl ?_
    refine nl ?_
    refine At.thn (hK11 _ _ ?_); clear hK11
    refine Tri.region ?_
    refine st (OK1.mv (Has.t rfl)) rfl ?_
    refine st (OK1.eq (OK1.quoI (Has.t rfl) (Has.cI 65536 rfl) (by first | with_reducible assumption | omega | with_reducible exact d_wordsN_ok _ _) (by first | with_reducible assumption | omega | with_reducible exact d_wordsN_ok _ _) (by first | with_reducible assumption | omega | with_reducible exact d_wordsN_ok _ _)) ((show isI _ = isN ((c + ds.getD i 0) / 65536) from isI_eq (by omega)))) rfl ?_
    refine st (OK1.as (Has.t rfl)) rfl ?_
    refine nl ?_
    refine At.bln ?_
    refine At.thn (hK9 _ _ ?_); clear hK9
    refine Tri.region ?_
    refine st (OK1.mv (Has.t rfl)) rfl ?_
    refine st (OK1.addI (Has.t rfl) (Has.cI 1 rfl) (by first | with_reducible assumption | omega | with_reducible exact d_wordsN_ok _ _) (by first | with_reducible assumption | omega | with_reducible exact d_wordsN_ok _ _)) rfl ?_
    refine st (OK1.as (Has.t rfl)) rfl ?_
    refine nl ?_
    refine At.thn ?_
    have hlt : i < ds.length + 4 := by
      rcases Nat.lt_or_ge i (ds.length + 4) with h | h
      · exact h
      · have := carry_zero h1 hd h; omega
    refine hK6 (⟨(i + 1, (c + ds.getD i 0) / 65536, gr1), hst.2, by show (c + ds.getD i 0) / 65536 ≤ _; omega, by show i + 1 ≤ _; omega⟩) _ _ ?_ (Cv.mem (.cons (t := 5) (Has.t' rfl ?_) (.cons (t := 4) (Has.t' rfl ?_) (.cons (t := 3) (Has.t' rfl ?_) (.cons (t := 0) (Has.t rfl) (.cons (t := 2) (Has.t rfl) .nil))))) ?_)
    · exact carry_mu h1 (by omega)
    · rfl
    · rfl
    · exact isGr_eq (by simp only [List.length_append, d_wordsN_len, wordsN_len, addL_len, List.length_cons, List.length_nil] <;> omega)
    · exact grM_eq (d_wordsN_succ _ _).symm
  · have hc1 := BP.f hc1
    refine Tri.exit ?_
    refine At.the ?_
    refine At.the ?_
    refine At.blh ?_
    refine At.thn (hK4 _ _ ?_); clear hK4
    refine Tri.cv (Cv.wk (.cons (t := 2) (Has.t rfl) (.cons (t := 3) (Has.t rfl) .nil))) ?_
    refine Tri.seq fun K12 hK12 => ?_
    refine Tri.cv (Cv.freezeG (t := 3) (i := 0) (ys := digsN i (dval ds)) rfl rfl rfl) ?_
    refine Tri.memEq (M' := []) rfl ?_
    refine Tri.cv (Cv.wk (.cons (t := 2) (Has.t rfl) (.cons (t := 3) (Has.t rfl) .nil))) ?_
    refine Tri.region ?_
    refine st (OK1.mv (Has.t rfl)) rfl ?_
    refine st (OK1.call (ref01_Trim (by first | with_reducible assumption | omega | with_reducible exact d_wordsN_ok _ _)) (.cons (Has.t rfl) .nil)) rfl ?_
    refine st (OK1.as (Has.t rfl)) rfl ?_
    refine nl ?_
    refine At.thn (hK12 _ _ ?_); clear hK12
    refine Tri.ret ?_
    refine rt1 (.inl rfl) Try.results120 rfl (.tmp (Has.t' rfl ?_) .nil)
    all_goals (obtain rfl : c = 0 := (by omega); exact SlM_eq (carry_end h1 (by omega)))

theorem ref01_Add {m n : Nat} (hm : (List.length (digs m)) ≤ 536870912) (hn : (List.length (digs n)) ≤ 536870912) : Ctr Try.prog 95 [SlM isN (digs m), SlM isN (digs n)] (SlM isN (digs (m + n))) := by
  refine Ctr.intro Try.func95 rfl (by kernel_rfl) Try.ntmps95 rfl fun w0 F0 => ?_
  refine Tri.cv (Cv.wk (.cons (t := 0) (Has.t rfl) (.cons (t := 1) (Has.t rfl) .nil))) ?_
  refine Tri.fact (Has.lenLt (Has.t (t := 0) rfl)) fun lt0 => ?_
  refine Tri.fact (Has.lenLt (Has.t (t := 1) rfl)) fun lt1 => ?_
  refine Tri.seq fun K1 hK1 => ?_
  refine Tri.region ?_
  refine st (OK1.as (Has.cW (f := isN))) rfl ?_
  refine nl ?_
  refine At.thn (hK1 _ _ ?_); clear hK1
  refine Tri.seq fun K2 hK2 => ?_
  refine Tri.region ?_
  refine Ops.cv (Cv.grow0 (α := Nat) isN) ?_
  refine st (OK1.as (Has.cGr (α := Nat))) rfl ?_
  refine nl ?_
  refine At.thn (hK2 _ _ ?_); clear hK2
  refine Tri.seq fun K3 hK3 => ?_
  refine Tri.seq fun K4 hK4 => ?_
  refine Tri.region ?_
  refine st (OK1.as (Has.cI 0 rfl)) rfl ?_
  refine nl ?_
  refine At.thn (hK4 _ _ ?_); clear hK4
  refine Tri.block ?_
  refine Tri.loopF [0, 1, 4] (fun (z : { z : Nat × Gr Nat // z.1 ≤ max ((List.length (digs m))) ((List.length (digs n))) }) => match z with | ⟨(i, g), hI⟩ => [(6, isI (i : Int)), (5, isGr g (addL m n i).length)]) (fun M => fun (z : { z : Nat × Gr Nat // z.1 ≤ max ((List.length (digs m))) ((List.length (digs n))) }) => match z with | ⟨(i, g), hI⟩ => [grM isN g (addL m n i)]) (fun (z : { z : Nat × Gr Nat // z.1 ≤ max ((List.length (digs m))) ((List.length (digs n))) }) => match z with | ⟨(i, g), hI⟩ => max ((List.length (digs m))) ((List.length (digs n))) - i) (⟨(0, Gr.nil), Nat.zero_le _⟩) (Cv.mem (.cons (t := 6) (Has.t' rfl ?_) (.cons (t := 5) (Has.t' rfl ?_) (.cons (t := 0) (Has.t rfl) (.cons (t := 1) (Has.t rfl) (.cons (t := 4) (Has.t rfl) .nil))))) ?_) ?_
  · rfl
  · rfl
  · rfl
  rintro ⟨⟨i, g⟩, hI⟩ K5 hK5
  refine Tri.cv (Cv.wk (.cons (t := 6) (Has.t rfl) (.cons (t := 5) (Has.t rfl) (.cons (t := 0) (Has.t rfl) (.cons (t := 1) (Has.t rfl) (.cons (t := 4) (Has.t rfl) .nil)))))) ?_
  refine Tri.memEq (M' := [grM isN g (addL m n i)]) rfl ?_
  simp only [] at hI
  have hal := addL_len m n i
  have b1 := d_dig_lt m i
  have b2 := d_dig_lt n i
  unfold D at b1 b2
  refine Tri.seq fun K6 hK6 => ?_
  refine Tri.seq fun K7 hK7 => ?_
  refine Tri.region ?_
  refine st (OK1.mv (Has.t rfl)) rfl ?_
  refine st (OK1.mv (Has.t rfl)) rfl ?_
  refine st (OK1.len sl32 (Has.t rfl)) rfl ?_
  refine st (OK1.ltI (Has.t rfl) (Has.t rfl)) rfl ?_
  refine st (OK1.mv (Has.t rfl)) rfl ?_
  refine stF rfl rfl (fun hg => have hg' := BP.t hg; OK1.mv (Has.t rfl)) rfl ?_
  refine stF rfl rfl (fun hg => have hg' := BP.t hg; OK1.mv (Has.t rfl)) rfl ?_
  refine stF rfl rfl (fun hg => have hg' := BP.t hg; OK1.len sl32 (Has.g rfl hg)) rfl ?_
  refine stF rfl rfl (fun hg => have hg' := BP.t hg; OK1.ltI (Has.g rfl hg) (Has.g rfl hg)) rfl ?_
  refine st (OK1.pickOr (Has.t rfl) (fun h => Has.g rfl (ng h))) rfl ?_
  refine nl ?_
  refine At.thn (hK7 _ _ ?_); clear hK7
  refine Tri.cond (Has.t rfl) (fun hc1 => ?_) (fun hc1 => ?_)
  · have hc1 := BP.t hc1
    refine Tri.skip ?_
    refine At.thn (hK6 _ _ ?_); clear hK6
    refine Tri.seq fun K8 hK8 => ?_
    refine Tri.block ?_
    refine Tri.region ?_
    refine st (OK1.mv (Has.t rfl)) rfl ?_
    refine st (OK1.mv (Has.t rfl)) rfl ?_
    refine st (OK1.mv (Has.t rfl)) rfl ?_
    refine st (OK1.eq (OK1.call (ref01_at) (.cons (Has.t rfl) (.cons (Has.t rfl) .nil))) ((show isI _ = isN (dg m i) from isI_eq (by rw [d_getD_words])))) rfl ?_
    refine st (OK1.mv (Has.t rfl)) rfl ?_
    refine st (OK1.mv (Has.t rfl)) rfl ?_
    refine st (OK1.eq (OK1.call (ref01_at) (.cons (Has.t rfl) (.cons (Has.t rfl) .nil))) ((show isI _ = isN (dg n i) from isI_eq (by rw [d_getD_words])))) rfl ?_
    refine st (OK1.eq (OK1.addI (Has.t rfl) (Has.t rfl) (by first | with_reducible assumption | omega | with_reducible exact addL_le _ _ _ | (rw [addL_len]; omega)) (by first | with_reducible assumption | omega | with_reducible exact addL_le _ _ _ | (rw [addL_len]; omega))) ((show isI _ = isN (dg m i + dg n i) from isI_eq (by omega)))) rfl ?_
    refine st (OK1.buildS [isI 0] sl32 ty3 zero3 (fun _ _ => ⟨⟨rfl, by decide, by decide⟩, trivial⟩) rfl rfl (.cons (Has.t rfl) rfl rfl rfl .nil) rfl (S := SlM isN [_]) rfl) rfl ?_
    refine Ops.appendG (f := isN) (u := 0) sl32 ty3 zero3 (fun _ _ => ⟨⟨rfl, by decide, by decide⟩, trivial⟩) (fun _ => inferInstance) by3 (Has.t rfl) (i := 0) rfl (Has.t rfl) (by simp only [List.length_cons, List.length_nil]; omega) (by simp) rfl fun gr1 => ?_
    refine Ops.memEq (M' := [grM _ _ _]) rfl ?_
    refine st (OK1.as (Has.t rfl)) rfl ?_
    refine nl ?_
    refine At.bln ?_
    refine At.thn (hK8 _ _ ?_); clear hK8
    refine Tri.region ?_
    refine st (OK1.mv (Has.t rfl)) rfl ?_
    refine st (OK1.addI (Has.t rfl) (Has.cI 1 rfl) (by first | with_reducible assumption | omega | with_reducible exact addL_le _ _ _ | (rw [addL_len]; omega)) (by first | with_reducible assumption | omega | with_reducible exact addL_le _ _ _ | (rw [addL_len]; omega))) rfl ?_
    refine st (OK1.as (Has.t rfl)) rfl ?_
    refine nl ?_
    refine At.thn ?_
    refine hK5 (⟨(i + 1, gr1), by show i + 1 ≤ _; omega⟩) _ _ ?_ (Cv.mem (.cons (t := 6) (Has.t' rfl ?_) (.cons (t := 5) (Has.t' rfl ?_) (.cons (t := 0) (Has.t rfl) (.cons (t := 1) (Has.t rfl) (.cons (t := 4) (Has.t rfl) .nil))))) ?_)
    · show max ((List.length (digs m))) ((List.length (digs n))) - (i + 1) < max ((List.length (digs m))) ((List.length (digs n))) - i; omega
    · rfl
    · exact isGr_eq (by simp only [List.length_append, d_wordsN_len, wordsN_len, addL_len, List.length_cons, List.length_nil] <;> omega)
    · exact grM_eq (addL_succ _ _ _).symm
  · have hc1 := BP.f hc1
    refine Tri.exit ?_
    refine At.the ?_
    refine At.the ?_
    refine At.blh ?_
    refine At.thn (hK3 _ _ ?_); clear hK3
    refine Tri.cv (Cv.wk (.cons (t := 4) (Has.t rfl) (.cons (t := 5) (Has.t rfl) .nil))) ?_
    refine Tri.seq fun K9 hK9 => ?_
    refine Tri.cv (Cv.freezeG (t := 5) (i := 0) (ys := addL m n i) rfl rfl rfl) ?_
    refine Tri.memEq (M' := []) rfl ?_
    refine Tri.cv (Cv.wk (.cons (t := 4) (Has.t rfl) (.cons (t := 5) (Has.t rfl) .nil))) ?_
    refine Tri.region ?_
    refine st (OK1.mv (Has.t rfl)) rfl ?_
    refine st (OK1.call (ref01_Carried (by first | with_reducible assumption | omega | with_reducible exact addL_le _ _ _ | (rw [addL_len]; omega)) (by first | with_reducible assumption | omega | with_reducible exact addL_le _ _ _ | (rw [addL_len]; omega))) (.cons (Has.t rfl) .nil)) rfl ?_
    refine st (OK1.as (Has.t rfl)) rfl ?_
    refine nl ?_
    refine At.thn (hK9 _ _ ?_); clear hK9
    refine Tri.ret ?_
    refine rt1 (.inl rfl) Try.results95 rfl (.tmp (Has.t' rfl ?_) .nil)
    all_goals (exact SlM_eq (addL_end (by omega) (by omega)))
end Go.Proofs.Ytnfelhamnebngaa
