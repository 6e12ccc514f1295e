/- Contracts: the reference for quotients. -/
import Derived.Test.YtnfelhamnebngaaRef3
namespace Go.Proofs.Ytnfelhamnebngaa
open Go.En Go.RowKit
set_option linter.unusedVariables false
set_option maxRecDepth 10000
open Go.Nt
theorem ref_dm {a b s t r2 : Nat} (hb : 0 < b) (ht : t = a / 2 ^ s % 2) (hr : r2 = a / 2 ^ (s + 1) % b + a / 2 ^ (s + 1) % b + t) :
    (b ≤ r2 → a / 2 ^ (s + 1) / b + a / 2 ^ (s + 1) / b + 1 = a / 2 ^ s / b ∧ r2 - b = a / 2 ^ s % b) ∧ (r2 < b → a / 2 ^ (s + 1) / b + a / 2 ^ (s + 1) / b = a / 2 ^ s / b ∧ r2 = a / 2 ^ s % b) := by
  have es := bit_step a s
  rw [← ht] at es
  have hd := dm_step (A := a / 2 ^ (s + 1)) (t := t) hb (by omega)
  rw [← es] at hd
  constructor
  · intro h
    have := hd.1 (by omega)
    omega
  · intro h
    have := hd.2 (by omega)
    omega


theorem ref03_DivMod {a b : Nat} (hb : 0 < b) (ha : (List.length (digs a)) ≤ 16777216) (hb2 : (List.length (digs b)) ≤ 16777216) : Ctr Try.prog 52 [SlM isN (digs a), SlM isN (digs b)] (isTup [SlM isN (digs (a / b)), SlM isN (digs (a % b))]) := by
  refine Ctr.intro Try.func52 rfl (by kernel_rfl) Try.ntmps52 rfl fun w0 F0 => ?_
  refine Tri.cv (Cv.wk (.cons (t := 0) (Has.t rfl) (.cons (t := 1) (Has.t rfl) .nil))) ?_
  refine Tri.fact (Has.lenLt (Has.t (t := 0) rfl)) fun lt0 => ?_
  refine Tri.fact (Has.lenLt (Has.t (t := 1) rfl)) fun lt1 => ?_
  refine Tri.seq fun K1 hK1 => ?_
  refine Tri.region ?_
  refine st (OK1.as (Has.cW (f := isN))) rfl ?_
  refine st (OK1.as (Has.cW (f := isN))) rfl ?_
  refine nl ?_
  refine At.thn (hK1 _ _ ?_); clear hK1
  refine Tri.seq fun K2 hK2 => ?_
  refine Tri.region ?_
  refine st (OK1.as (Has.cW (f := isN))) rfl ?_
  refine st (OK1.as (Has.cW (f := isN))) rfl ?_
  refine nl ?_
  refine At.thn (hK2 _ _ ?_); clear hK2
  refine Tri.seq fun K3 hK3 => ?_
  refine Tri.seq fun K4 hK4 => ?_
  refine Tri.region ?_
  refine st (OK1.mv (Has.t rfl)) rfl ?_
  refine st (OK1.len sl32 (Has.t rfl)) rfl ?_
  refine st (OK1.mulI (Has.cI 16 rfl) (Has.t rfl) (by first | with_reducible assumption | omega | with_reducible exact d_words_ok _ | with_reducible exact d_wordsN_ok _ _ | (simp only [d_val_words]; omega)) (by first | with_reducible assumption | omega | with_reducible exact d_words_ok _ | with_reducible exact d_wordsN_ok _ _ | (simp only [d_val_words]; omega))) rfl ?_
  refine st (OK1.subI (Has.t rfl) (Has.cI 1 rfl) (by first | with_reducible assumption | omega | with_reducible exact d_words_ok _ | with_reducible exact d_wordsN_ok _ _ | (simp only [d_val_words]; omega)) (by first | with_reducible assumption | omega | with_reducible exact d_words_ok _ | with_reducible exact d_wordsN_ok _ _ | (simp only [d_val_words]; omega))) rfl ?_
  refine st (OK1.as (Has.t rfl)) rfl ?_
  refine nl ?_
  refine At.thn (hK4 _ _ ?_); clear hK4
  refine Tri.block ?_
  refine Tri.loopF [0, 1, 4, 5] (fun (z : { t : Nat // t ≤ 16 * (List.length (digs a)) }) => match z with | ⟨t, ht⟩ => [(8, isI ((t : Int) - 1)), (6, SlM isN (digs (a / 2 ^ t / b))), (7, SlM isN (digs (a / 2 ^ t % b)))]) (fun M => fun (z : { t : Nat // t ≤ 16 * (List.length (digs a)) }) => match z with | ⟨t, ht⟩ => M) (fun (z : { t : Nat // t ≤ 16 * (List.length (digs a)) }) => match z with | ⟨t, ht⟩ => t) (⟨16 * (List.length (digs a)), Nat.le_refl _⟩) (Cv.mem (.cons (t := 8) (Has.t' rfl ?_) (.cons (t := 6) (Has.t' rfl ?_) (.cons (t := 7) (Has.t' rfl ?_) (.cons (t := 0) (Has.t rfl) (.cons (t := 1) (Has.t rfl) (.cons (t := 4) (Has.t rfl) (.cons (t := 5) (Has.t rfl) .nil))))))) ?_) ?_
  · exact isI_eq (by omega)
  · exact SlM_eq (by rw [dm_top, Nat.zero_div, d_words_zero])
  · exact SlM_eq (by rw [dm_top, Nat.zero_mod, d_words_zero])
  · rfl
  rintro ⟨t, ht⟩ K5 hK5
  refine Tri.cv (Cv.wk (.cons (t := 8) (Has.t rfl) (.cons (t := 6) (Has.t rfl) (.cons (t := 7) (Has.t rfl) (.cons (t := 0) (Has.t rfl) (.cons (t := 1) (Has.t rfl) (.cons (t := 4) (Has.t rfl) (.cons (t := 5) (Has.t rfl) .nil)))))))) ?_
  refine Tri.seq fun K6 hK6 => ?_
  refine Tri.seq fun K7 hK7 => ?_
  refine Tri.region ?_
  refine st (OK1.mv (Has.t rfl)) rfl ?_
  refine st (OK1.geI (Has.t rfl) (Has.cI 0 rfl)) rfl ?_
  refine nl ?_
  refine At.thn (hK7 _ _ ?_); clear hK7
  refine Tri.cond (Has.t rfl) (fun hc1 => ?_) (fun hc1 => ?_)
  · have hc1 := BP.t hc1
    obtain ⟨s, rfl⟩ : ∃ s, t = s + 1 := ⟨t - 1, by omega⟩
    have f1 : (List.length (digs (a / 2 ^ (s + 1) / b))) ≤ (List.length (digs a)) := d_nw_mono (Nat.le_trans (Nat.div_le_self _ _) (Nat.div_le_self _ _))
    have f2 : (List.length (digs (a / 2 ^ (s + 1) % b))) ≤ (List.length (digs b)) := d_nw_mono (Nat.le_of_lt (Nat.mod_lt _ hb))
    have f3 : (List.length (digs (a / 2 ^ (s + 1) / b + a / 2 ^ (s + 1) / b))) ≤ (List.length (digs (a / 2 ^ (s + 1) / b))) + 1 := nd_double (by omega)
    have f4 : (List.length (digs (a / 2 ^ (s + 1) % b + a / 2 ^ (s + 1) % b))) ≤ (List.length (digs (a / 2 ^ (s + 1) % b))) + 1 := nd_double (by omega)
    have f5 : (List.length (digs (a / 2 ^ (s + 1) % b + a / 2 ^ (s + 1) % b + 1))) ≤ (List.length (digs (a / 2 ^ (s + 1) % b))) + 1 := nd_double (by omega)
    have f6 : (List.length (digs 1)) = 1 := by rw [one_digs]; rfl
    refine Tri.skip ?_
    refine At.thn (hK6 _ _ ?_); clear hK6
    refine Tri.seq fun K8 hK8 => ?_
    refine Tri.block ?_
    refine Tri.seq fun K9 hK9 => ?_
    refine Tri.region ?_
    refine st (OK1.mv (Has.t rfl)) rfl ?_
    refine st (OK1.mv (Has.t rfl)) rfl ?_
    refine st (OK1.call (ref01_Add (by first | with_reducible assumption | omega | with_reducible exact d_words_ok _ | with_reducible exact d_wordsN_ok _ _ | (simp only [d_val_words]; omega)) (by first | with_reducible assumption | omega | with_reducible exact d_words_ok _ | with_reducible exact d_wordsN_ok _ _ | (simp only [d_val_words]; omega))) (.cons (Has.t rfl) (.cons (Has.t rfl) .nil))) rfl ?_
    refine st (OK1.as (Has.t rfl)) rfl ?_
    refine nl ?_
    refine At.thn (hK9 _ _ ?_); clear hK9
    refine Tri.seq fun K10 hK10 => ?_
    refine Tri.region ?_
    refine st (OK1.mv (Has.t rfl)) rfl ?_
    refine st (OK1.mv (Has.t rfl)) rfl ?_
    refine st (OK1.call (ref01_Add (by first | with_reducible assumption | omega | with_reducible exact d_words_ok _ | with_reducible exact d_wordsN_ok _ _ | (simp only [d_val_words]; omega)) (by first | with_reducible assumption | omega | with_reducible exact d_words_ok _ | with_reducible exact d_wordsN_ok _ _ | (simp only [d_val_words]; omega))) (.cons (Has.t rfl) (.cons (Has.t rfl) .nil))) rfl ?_
    refine st (OK1.as (Has.t rfl)) rfl ?_
    refine nl ?_
    refine At.thn (hK10 _ _ ?_); clear hK10
    refine Tri.seq fun K11 hK11 => ?_
    refine Tri.seq fun K12 hK12 => ?_
    refine Tri.region ?_
    refine st (OK1.mv (Has.t rfl)) rfl ?_
    refine st (OK1.eq (OK1.mv (Has.t rfl)) ((show isI _ = isI (s : Int) from isI_eq (by omega)))) rfl ?_
    refine st (OK1.call (ref03_bit (by first | with_reducible assumption | omega | with_reducible exact d_words_ok _ | with_reducible exact d_wordsN_ok _ _ | (simp only [d_val_words]; omega))) (.cons (Has.t rfl) (.cons (Has.t rfl) .nil))) rfl ?_
    refine st (OK1.eqI (Has.t rfl) (Has.cI 1 rfl)) rfl ?_
    refine nl ?_
    refine At.thn (hK12 _ _ ?_); clear hK12
    refine Tri.cond (Has.t rfl) (fun hc2 => ?_) (fun hc2 => ?_)
    · have hc2 := BP.t hc2
      have HB := hc2
      refine Tri.region ?_
      refine st (OK1.mv (Has.t rfl)) rfl ?_
      refine st (OK1.eq (OK1.buildS [isI 0] sl32 ty3 zero3 (fun _ _ => ⟨⟨rfl, by decide, by decide⟩, trivial⟩) rfl rfl (.cons (Has.cI 1 rfl) rfl rfl rfl .nil) rfl (S := SlM isN [1]) rfl) ((show SlM isN [1] = SlM isN (digs 1) from SlM_eq one_digs.symm))) rfl ?_
      refine st (OK1.call (ref01_Add (by first | with_reducible assumption | omega | with_reducible exact d_words_ok _ | with_reducible exact d_wordsN_ok _ _ | (simp only [d_val_words]; omega)) (by first | with_reducible assumption | omega | with_reducible exact d_words_ok _ | with_reducible exact d_wordsN_ok _ _ | (simp only [d_val_words]; omega))) (.cons (Has.t rfl) (.cons (Has.t rfl) .nil))) rfl ?_
      refine st (OK1.as (Has.t rfl)) rfl ?_
      refine nl ?_
      refine At.thn (hK11 _ _ ?_); clear hK11
      refine Tri.seq fun K13 hK13 => ?_
      refine Tri.region ?_
      refine st (OK1.mv (Has.t rfl)) rfl ?_
      refine st (OK1.mv (Has.t rfl)) rfl ?_
      refine st (OK1.call (ref01_Cmp (by first | with_reducible assumption | omega | with_reducible exact d_words_ok _ | with_reducible exact d_wordsN_ok _ _ | (simp only [d_val_words]; omega)) (by first | with_reducible assumption | omega | with_reducible exact d_words_ok _ | with_reducible exact d_wordsN_ok _ _ | (simp only [d_val_words]; omega))) (.cons (Has.t rfl) (.cons (Has.t rfl) .nil))) rfl ?_
      refine st (OK1.geI (Has.t rfl) (Has.cI 0 rfl)) rfl ?_
      refine nl ?_
      refine At.thn (hK13 _ _ ?_); clear hK13
      refine Tri.cond (Has.t rfl) (fun hc3 => ?_) (fun hc3 => ?_)
      · have hc3 := BP.t hc3
        have HG := hc3
        have hge := cmpN_nn HG
        refine Tri.seq fun K14 hK14 => ?_
        refine Tri.region ?_
        refine st (OK1.mv (Has.t rfl)) rfl ?_
        refine st (OK1.mv (Has.t rfl)) rfl ?_
        refine st (OK1.call (ref01_Sub (by first | with_reducible assumption | omega | with_reducible exact d_words_ok _ | with_reducible exact d_wordsN_ok _ _ | (simp only [d_val_words]; omega)) (by first | with_reducible assumption | omega | with_reducible exact d_words_ok _ | with_reducible exact d_wordsN_ok _ _ | (simp only [d_val_words]; omega))) (.cons (Has.t rfl) (.cons (Has.t rfl) .nil))) rfl ?_
        refine st (OK1.as (Has.t rfl)) rfl ?_
        refine nl ?_
        refine At.thn (hK14 _ _ ?_); clear hK14
        refine Tri.region ?_
        refine st (OK1.mv (Has.t rfl)) rfl ?_
        refine st (OK1.eq (OK1.buildS [isI 0] sl32 ty3 zero3 (fun _ _ => ⟨⟨rfl, by decide, by decide⟩, trivial⟩) rfl rfl (.cons (Has.cI 1 rfl) rfl rfl rfl .nil) rfl (S := SlM isN [1]) rfl) ((show SlM isN [1] = SlM isN (digs 1) from SlM_eq one_digs.symm))) rfl ?_
        refine st (OK1.call (ref01_Add (by first | with_reducible assumption | omega | with_reducible exact d_words_ok _ | with_reducible exact d_wordsN_ok _ _ | (simp only [d_val_words]; omega)) (by first | with_reducible assumption | omega | with_reducible exact d_words_ok _ | with_reducible exact d_wordsN_ok _ _ | (simp only [d_val_words]; omega))) (.cons (Has.t rfl) (.cons (Has.t rfl) .nil))) rfl ?_
        refine st (OK1.as (Has.t rfl)) rfl ?_
        refine nl ?_
        refine At.bln ?_
        refine At.thn (hK8 _ _ ?_); clear hK8
        refine Tri.region ?_
        refine st (OK1.mv (Has.t rfl)) rfl ?_
        refine st (OK1.subI (Has.t rfl) (Has.cI 1 rfl) (by first | with_reducible assumption | omega | with_reducible exact d_words_ok _ | with_reducible exact d_wordsN_ok _ _ | (simp only [d_val_words]; omega)) (by first | with_reducible assumption | omega | with_reducible exact d_words_ok _ | with_reducible exact d_wordsN_ok _ _ | (simp only [d_val_words]; omega))) rfl ?_
        refine st (OK1.as (Has.t rfl)) rfl ?_
        refine nl ?_
        refine At.thn ?_
        refine hK5 (⟨s, by omega⟩) _ _ ?_ (Cv.mem (.cons (t := 8) (Has.t' rfl ?_) (.cons (t := 6) (Has.t' rfl ?_) (.cons (t := 7) (Has.t' rfl ?_) (.cons (t := 0) (Has.t rfl) (.cons (t := 1) (Has.t rfl) (.cons (t := 4) (Has.t rfl) (.cons (t := 5) (Has.t rfl) .nil))))))) ?_)
        · show s < s + 1; omega
        · exact isI_eq (by omega)
        · exact SlM_eq (congrArg digs ((ref_dm (t := 1) hb (by omega) rfl).1 (cmpN_nn HG)).1)
        · exact SlM_eq (congrArg digs ((ref_dm (t := 1) hb (by omega) rfl).1 (cmpN_nn HG)).2)
        · rfl
      · have hc3 := BP.f hc3
        have HG := hc3
        refine Tri.skip ?_
        refine At.bln ?_
        refine At.thn (hK8 _ _ ?_); clear hK8
        refine Tri.region ?_
        refine st (OK1.mv (Has.t rfl)) rfl ?_
        refine st (OK1.subI (Has.t rfl) (Has.cI 1 rfl) (by first | with_reducible assumption | omega | with_reducible exact d_words_ok _ | with_reducible exact d_wordsN_ok _ _ | (simp only [d_val_words]; omega)) (by first | with_reducible assumption | omega | with_reducible exact d_words_ok _ | with_reducible exact d_wordsN_ok _ _ | (simp only [d_val_words]; omega))) rfl ?_
        refine st (OK1.as (Has.t rfl)) rfl ?_
        refine nl ?_
        refine At.thn ?_
        refine hK5 (⟨s, by omega⟩) _ _ ?_ (Cv.mem (.cons (t := 8) (Has.t' rfl ?_) (.cons (t := 6) (Has.t' rfl ?_) (.cons (t := 7) (Has.t' rfl ?_) (.cons (t := 0) (Has.t rfl) (.cons (t := 1) (Has.t rfl) (.cons (t := 4) (Has.t rfl) (.cons (t := 5) (Has.t rfl) .nil))))))) ?_)
        · show s < s + 1; omega
        · exact isI_eq (by omega)
        · exact SlM_eq (congrArg digs ((ref_dm (t := 1) hb (by omega) rfl).2 (cmpN_neg.1 HG)).1)
        · exact SlM_eq (congrArg digs ((ref_dm (t := 1) hb (by omega) rfl).2 (cmpN_neg.1 HG)).2)
        · rfl
    · have hc2 := BP.f hc2
      have HB := hc2
      have hbit := Nat.mod_lt (a / 2 ^ s) (show 0 < 2 by decide)
      refine Tri.skip ?_
      refine At.thn (hK11 _ _ ?_); clear hK11
      refine Tri.seq fun K15 hK15 => ?_
      refine Tri.region ?_
      refine st (OK1.mv (Has.t rfl)) rfl ?_
      refine st (OK1.mv (Has.t rfl)) rfl ?_
      refine st (OK1.call (ref01_Cmp (by first | with_reducible assumption | omega | with_reducible exact d_words_ok _ | with_reducible exact d_wordsN_ok _ _ | (simp only [d_val_words]; omega)) (by first | with_reducible assumption | omega | with_reducible exact d_words_ok _ | with_reducible exact d_wordsN_ok _ _ | (simp only [d_val_words]; omega))) (.cons (Has.t rfl) (.cons (Has.t rfl) .nil))) rfl ?_
      refine st (OK1.geI (Has.t rfl) (Has.cI 0 rfl)) rfl ?_
      refine nl ?_
      refine At.thn (hK15 _ _ ?_); clear hK15
      refine Tri.cond (Has.t rfl) (fun hc4 => ?_) (fun hc4 => ?_)
      · have hc4 := BP.t hc4
        have HG := hc4
        have hge := cmpN_nn HG
        refine Tri.seq fun K16 hK16 => ?_
        refine Tri.region ?_
        refine st (OK1.mv (Has.t rfl)) rfl ?_
        refine st (OK1.mv (Has.t rfl)) rfl ?_
        refine st (OK1.call (ref01_Sub (by first | with_reducible assumption | omega | with_reducible exact d_words_ok _ | with_reducible exact d_wordsN_ok _ _ | (simp only [d_val_words]; omega)) (by first | with_reducible assumption | omega | with_reducible exact d_words_ok _ | with_reducible exact d_wordsN_ok _ _ | (simp only [d_val_words]; omega))) (.cons (Has.t rfl) (.cons (Has.t rfl) .nil))) rfl ?_
        refine st (OK1.as (Has.t rfl)) rfl ?_
        refine nl ?_
        refine At.thn (hK16 _ _ ?_); clear hK16
        refine Tri.region ?_
        refine st (OK1.mv (Has.t rfl)) rfl ?_
        refine st (OK1.eq (OK1.buildS [isI 0] sl32 ty3 zero3 (fun _ _ => ⟨⟨rfl, by decide, by decide⟩, trivial⟩) rfl rfl (.cons (Has.cI 1 rfl) rfl rfl rfl .nil) rfl (S := SlM isN [1]) rfl) ((show SlM isN [1] = SlM isN (digs 1) from SlM_eq one_digs.symm))) rfl ?_
        refine st (OK1.call (ref01_Add (by first | with_reducible assumption | omega | with_reducible exact d_words_ok _ | with_reducible exact d_wordsN_ok _ _ | (simp only [d_val_words]; omega)) (by first | with_reducible assumption | omega | with_reducible exact d_words_ok _ | with_reducible exact d_wordsN_ok _ _ | (simp only [d_val_words]; omega))) (.cons (Has.t rfl) (.cons (Has.t rfl) .nil))) rfl ?_
        refine st (OK1.as (Has.t rfl)) rfl ?_
        refine nl ?_
        refine At.bln ?_
        refine At.thn (hK8 _ _ ?_); clear hK8
        refine Tri.region ?_
        refine st (OK1.mv (Has.t rfl)) rfl ?_
        refine st (OK1.subI (Has.t rfl) (Has.cI 1 rfl) (by first | with_reducible assumption | omega | with_reducible exact d_words_ok _ | with_reducible exact d_wordsN_ok _ _ | (simp only [d_val_words]; omega)) (by first | with_reducible assumption | omega | with_reducible exact d_words_ok _ | with_reducible exact d_wordsN_ok _ _ | (simp only [d_val_words]; omega))) rfl ?_
        refine st (OK1.as (Has.t rfl)) rfl ?_
        refine nl ?_
        refine At.thn ?_
        refine hK5 (⟨s, by omega⟩) _ _ ?_ (Cv.mem (.cons (t := 8) (Has.t' rfl ?_) (.cons (t := 6) (Has.t' rfl ?_) (.cons (t := 7) (Has.t' rfl ?_) (.cons (t := 0) (Has.t rfl) (.cons (t := 1) (Has.t rfl) (.cons (t := 4) (Has.t rfl) (.cons (t := 5) (Has.t rfl) .nil))))))) ?_)
        · show s < s + 1; omega
        · exact isI_eq (by omega)
        · exact SlM_eq (congrArg digs ((ref_dm (t := 0) hb (by omega) rfl).1 (cmpN_nn HG)).1)
        · exact SlM_eq (congrArg digs ((ref_dm (t := 0) hb (by omega) rfl).1 (cmpN_nn HG)).2)
        · rfl
      · have hc4 := BP.f hc4
        have HG := hc4
        refine Tri.skip ?_
        refine At.bln ?_
        refine At.thn (hK8 _ _ ?_); clear hK8
        refine Tri.region ?_
        refine st (OK1.mv (Has.t rfl)) rfl ?_
        refine st (OK1.subI (Has.t rfl) (Has.cI 1 rfl) (by first | with_reducible assumption | omega | with_reducible exact d_words_ok _ | with_reducible exact d_wordsN_ok _ _ | (simp only [d_val_words]; omega)) (by first | with_reducible assumption | omega | with_reducible exact d_words_ok _ | with_reducible exact d_wordsN_ok _ _ | (simp only [d_val_words]; omega))) rfl ?_
        refine st (OK1.as (Has.t rfl)) rfl ?_
        refine nl ?_
        refine At.thn ?_
        refine hK5 (⟨s, by omega⟩) _ _ ?_ (Cv.mem (.cons (t := 8) (Has.t' rfl ?_) (.cons (t := 6) (Has.t' rfl ?_) (.cons (t := 7) (Has.t' rfl ?_) (.cons (t := 0) (Has.t rfl) (.cons (t := 1) (Has.t rfl) (.cons (t := 4) (Has.t rfl) (.cons (t := 5) (Has.t rfl) .nil))))))) ?_)
        · show s < s + 1; omega
        · exact isI_eq (by omega)
        · exact SlM_eq (congrArg digs ((ref_dm (t := 0) hb (by omega) rfl).2 (cmpN_neg.1 HG)).1)
        · exact SlM_eq (congrArg digs ((ref_dm (t := 0) hb (by omega) rfl).2 (cmpN_neg.1 HG)).2)
        · rfl
  · have hc1 := BP.f hc1
    refine Tri.exit ?_
    refine At.the ?_
    refine At.the ?_
    refine At.blh ?_
    refine At.thn (hK3 _ _ ?_); clear hK3
    refine Tri.cv (Cv.wk (.cons (t := 4) (Has.t rfl) (.cons (t := 5) (Has.t rfl) (.cons (t := 6) (Has.t rfl) (.cons (t := 7) (Has.t rfl) .nil))))) ?_
    refine Tri.seq fun K17 hK17 => ?_
    refine Tri.region ?_
    refine st (OK1.mv (Has.t rfl)) rfl ?_
    refine st (OK1.mv (Has.t rfl)) rfl ?_
    refine st (OK1.as (Has.t rfl)) rfl ?_
    refine st (OK1.as (Has.t rfl)) rfl ?_
    refine nl ?_
    refine At.thn (hK17 _ _ ?_); clear hK17
    refine Tri.ret ?_
    refine rtN (.inl rfl) Try.results52 rfl rfl (.tmp (Has.t' rfl ?_) (.tmp (Has.t' rfl ?_) .nil))
    · obtain rfl : t = 0 := (by omega); exact SlM_eq (by rw [Nat.pow_zero, Nat.div_one])
    · obtain rfl : t = 0 := (by omega); exact SlM_eq (by rw [Nat.pow_zero, Nat.div_one])

theorem ref03_Divides {a b : Nat} (ha : (List.length (digs a)) ≤ 16777216) (hb2 : (List.length (digs b)) ≤ 16777216) : Ctr Try.prog 61 [SlM isN (digs a), SlM isN (digs b)] (isB (decide (b ∣ a))) := by
  refine Ctr.intro Try.func61 rfl (by kernel_rfl) Try.ntmps61 rfl fun w0 F0 => ?_
  refine Tri.cv (Cv.wk (.cons (t := 0) (Has.t rfl) (.cons (t := 1) (Has.t rfl) .nil))) ?_
  refine Tri.fact (Has.lenLt (Has.t (t := 0) rfl)) fun lt0 => ?_
  refine Tri.fact (Has.lenLt (Has.t (t := 1) rfl)) fun lt1 => ?_
  refine Tri.seq fun K1 hK1 => ?_
  refine Tri.region ?_
  refine st (OK1.as (Has.cB false)) rfl ?_
  refine nl ?_
  refine At.thn (hK1 _ _ ?_); clear hK1
  refine Tri.seq fun K2 hK2 => ?_
  refine Tri.seq fun K3 hK3 => ?_
  refine Tri.region ?_
  refine st (OK1.mv (Has.t rfl)) rfl ?_
  refine st (OK1.call (ref03_Zero) (.cons (Has.t rfl) .nil)) rfl ?_
  refine nl ?_
  refine At.thn (hK3 _ _ ?_); clear hK3
  refine Tri.cond (Has.t rfl) (fun hc1 => ?_) (fun hc1 => ?_)
  · have hc1 := BP.t hc1
    have HB := hc1
    refine Tri.seq fun K4 hK4 => ?_
    refine Tri.region ?_
    refine st (OK1.mv (Has.t rfl)) rfl ?_
    refine st (OK1.call (ref03_Zero) (.cons (Has.t rfl) .nil)) rfl ?_
    refine st (OK1.as (Has.t rfl)) rfl ?_
    refine nl ?_
    refine At.thn (hK4 _ _ ?_); clear hK4
    refine Tri.ret ?_
    refine At.thr ?_
    refine rt1 (.inl rfl) Try.results61 rfl (.tmp (Has.t' rfl ?_) .nil)
    all_goals (exact isB_eq (decide_eq_decide.2 (by rw [HB, Nat.zero_dvd])))
  · have hc1 := BP.f hc1
    have HB := hc1
    refine Tri.skip ?_
    refine At.thn (hK2 _ _ ?_); clear hK2
    refine Tri.seq fun K5 hK5 => ?_
    refine Tri.region ?_
    refine st (OK1.mv (Has.t rfl)) rfl ?_
    refine st (OK1.mv (Has.t rfl)) rfl ?_
    refine st (OK1.call (ref03_DivMod (by first | with_reducible assumption | omega | with_reducible exact d_words_ok _ | with_reducible exact d_wordsN_ok _ _ | (simp only [d_val_words]; omega)) (by first | with_reducible assumption | omega | with_reducible exact d_words_ok _ | with_reducible exact d_wordsN_ok _ _ | (simp only [d_val_words]; omega)) (by first | with_reducible assumption | omega | with_reducible exact d_words_ok _ | with_reducible exact d_wordsN_ok _ _ | (simp only [d_val_words]; omega))) (.cons (Has.t rfl) (.cons (Has.t rfl) .nil))) rfl ?_
    refine st (OK1.mv (Has.t rfl)) rfl ?_
    refine st (OK1.ext (Has.t rfl) rfl) rfl ?_
    refine st (OK1.ext (Has.t rfl) rfl) rfl ?_
    refine st (OK1.as (Has.t rfl)) rfl ?_
    refine st (OK1.as (Has.t rfl)) rfl ?_
    refine nl ?_
    refine At.thn (hK5 _ _ ?_); clear hK5
    refine Tri.cv (Cv.wk (.cons (t := 4) (Has.t rfl) (.cons (t := 6) (Has.t rfl) .nil))) ?_
    refine Tri.seq fun K6 hK6 => ?_
    refine Tri.region ?_
    refine st (OK1.mv (Has.t rfl)) rfl ?_
    refine st (OK1.call (ref03_Zero) (.cons (Has.t rfl) .nil)) rfl ?_
    refine st (OK1.as (Has.t rfl)) rfl ?_
    refine nl ?_
    refine At.thn (hK6 _ _ ?_); clear hK6
    refine Tri.ret ?_
    refine rt1 (.inl rfl) Try.results61 rfl (.tmp (Has.t' rfl ?_) .nil)
    all_goals (exact isB_eq (decide_eq_decide.2 (Nat.dvd_iff_mod_eq_zero ..).symm))

theorem law03_is {xs : List Nat} {n : Nat} (hx : (List.length (digs n)) ≤ 1073741824) : Ctr Try.prog 53 [isWords xs, SlM isN (digs n)] (isB (decide (xs = words n))) := by
  refine Ctr.intro Try.func53 rfl (by kernel_rfl) Try.ntmps53 rfl fun w0 F0 => ?_
  refine Tri.cv (Cv.wk (.cons (t := 0) (Has.t rfl) (.cons (t := 1) (Has.t rfl) .nil))) ?_
  refine Tri.fact (Has.lenLt (Has.t (t := 0) rfl)) fun lt0 => ?_
  refine Tri.fact (Has.okW (Has.t (t := 0) rfl)) fun ok0 => ?_
  refine Tri.fact (Has.lenLt (Has.t (t := 1) rfl)) fun lt1 => ?_
  refine Tri.seq fun K1 hK1 => ?_
  refine Tri.region ?_
  refine st (OK1.as (Has.cB false)) rfl ?_
  refine nl ?_
  refine At.thn (hK1 _ _ ?_); clear hK1
  refine Tri.seq fun K2 hK2 => ?_
  refine Tri.region ?_
  refine st (OK1.mv (Has.t rfl)) rfl ?_
  refine st (OK1.mv (Has.t rfl)) rfl ?_
  refine st (OK1.call (ref01_To (by first | with_reducible assumption | omega | with_reducible exact d_words_ok _ | with_reducible exact d_wordsN_ok _ _ | (simp only [d_val_words]; omega))) (.cons (Has.t rfl) .nil)) rfl ?_
  refine st (OK1.call (ref01_Same) (.cons (Has.t rfl) (.cons (Has.t rfl) .nil))) rfl ?_
  refine st (OK1.as (Has.t rfl)) rfl ?_
  refine nl ?_
  refine At.thn (hK2 _ _ ?_); clear hK2
  refine Tri.cv (Cv.wk (.cons (t := 4) (Has.t rfl) .nil)) ?_
  refine Tri.ret ?_
  refine rt1 (.inl rfl) Try.results53 rfl (.tmp (Has.t' rfl ?_) .nil)
  all_goals (rfl)
end Go.Proofs.Ytnfelhamnebngaa
