/- A law of layer 8: whole numbers as elements, as a contract. -/
import Derived.Test.YtokhpacdgoebpaaMo4
namespace Go.Proofs.Ytokhpacdgoebpaa
open Go.En Go.RowKit
set_option linter.unusedVariables false
set_option maxRecDepth 10000
open Go.Nt
open Go.Gf
theorem of_all {P q : Nat} {a b : Int} {x y : Nat} (h0 : 0 < P) (h1 : P = q) (hx : x = (a % (P : Int)).toNat) (hy : y = (b % (P : Int)).toNat) :
    (decide (x < q) && decide ((q : Int) ∣ a - (x : Int)) && decide (((a + b) % (P : Int)).toNat = (x % P + y % P) % P) && decide ((a * b % (P : Int)).toNat = x * y % P) && decide ((-a % (P : Int)).toNat = (P - x % P) % P)) = true := by
  subst h1; subst hx; subst hy
  rw [decide_eq_true (toNat_lt h0), decide_eq_true (of_cong h0), decide_eq_true (of_add a b h0), decide_eq_true (of_mul a b h0), decide_eq_true (of_neg a h0)]; rfl


set_option maxHeartbeats 4000000 in
theorem c_GfpOf (t : Nat) (m : Bool) (xs : List Nat) (n : Bool) (ys : List Nat) : Ctr Try.prog 9 [isK .u8 (t : Int), Flat [isB m, isWords xs], Flat [isB n, isWords ys]] (isB true) := by
  refine Ctr.intro Try.func9 rfl (by kernel_rfl) Try.ntmps9 rfl fun w0 F0 => ?_
  refine Tri.cv (Cv.wk (.cons (t := 0) (Has.t rfl) (.cons (t := 1) (Has.t rfl) (.cons (t := 2) (Has.t rfl) .nil)))) ?_
  refine Tri.fact (Has.okZ (Has.t (t := 1) rfl)) fun okz1 => ?_
  refine Tri.fact (Has.okZ (Has.t (t := 2) rfl)) fun okz2 => ?_
  have hpl := ptab_le (k := t % 12)
  have hp2 := ptab_two (t % 12)
  have hfp := ptab_fp (t % 12)
  have n0 : (List.length (words (zv m xs).natAbs)) ≤ xs.length := by rw [zv_nw]; exact nw_val okz1.1
  have n1 : (List.length (words (zv n ys).natAbs)) ≤ ys.length := by rw [zv_nw]; exact nw_val okz2.1
  have e0 := zv_nw m xs
  have e1 := zv_nw n ys
  have h11 : (List.length (words (1 : Int).natAbs)) = 1 := nz_one
  have s1 := nz_add (zv m xs) (zv n ys)
  have s2 := nz_mul (zv m xs) (zv n ys)
  have s3 := nz_neg (zv m xs)
  obtain ⟨p, hpe⟩ : ∃ p, p = fp (ptab (t % 12)) := ⟨_, rfl⟩
  have hp0 : 0 < p := by omega
  obtain ⟨x, hxe⟩ : ∃ x, x = (zv m xs % (p : Int)).toNat := ⟨_, rfl⟩
  obtain ⟨y, hye⟩ : ∃ y, y = (zv n ys % (p : Int)).toNat := ⟨_, rfl⟩
  have hxl : x < p := by rw [hxe]; exact toNat_lt hp0
  have hyl : y < p := by rw [hye]; exact toNat_lt hp0
  have wx := nw_small' (n := x) (by omega)
  have wp := nw_small' (n := ptab (t % 12)) (by omega)
  have ax : ((x : Nat) : Int).natAbs = x := Int.natAbs_natCast x
  have ap : ((ptab (t % 12) : Nat) : Int).natAbs = ptab (t % 12) := Int.natAbs_natCast _
  refine Tri.seq fun K1 hK1 => ?_
  refine Tri.region ?_
  refine Ops.box (Has.t rfl) rfl fun b1 => ?_
  refine Ops.box (Has.t rfl) rfl fun b2 => ?_
  refine st (OK1.as (Has.cB false)) rfl ?_
  refine nl ?_
  refine At.thn (hK1 _ _ ?_); clear hK1
  refine Tri.seq fun K2 hK2 => ?_
  refine Tri.seq fun K3 hK3 => ?_
  refine Tri.region ?_
  refine st (OK1.call (law08_awake) .nil) rfl ?_
  refine st (OK1.not (Has.t rfl)) rfl ?_
  refine st (OK1.mv (Has.t rfl)) rfl ?_
  refine stF rfl rfl (fun hg => have hg' := BP.t hg; OK1.fieldAddr (Has.t rfl) fld55_1 ty53) rfl ?_
  refine stF rfl rfl (fun hg => have hg' := BP.t hg; OK1.load1 (Has.g rfl hg) (i := 1) rfl ty53 rfl) rfl ?_
  refine stF rfl rfl (fun hg => have hg' := BP.t hg; OK1.len sl53 (Has.g rfl hg)) rfl ?_
  refine stF rfl rfl (fun hg => have hg' := BP.t hg; OK1.gtI (Has.g rfl hg) (Has.cI 4 rfl)) rfl ?_
  refine st (OK1.pickOr (Has.t rfl) (fun h => Has.g rfl (ng h))) rfl ?_
  refine st (OK1.mv (Has.t rfl)) rfl ?_
  refine stF rfl rfl (fun hg => have hg' := BP.t hg; OK1.fieldAddr (Has.t rfl) fld55_1 ty53) rfl ?_
  refine stF rfl rfl (fun hg => have hg' := BP.t hg; OK1.load1 (Has.g rfl hg) (i := 0) rfl ty53 rfl) rfl ?_
  refine stF rfl rfl (fun hg => have hg' := BP.t hg; OK1.len sl53 (Has.g rfl hg)) rfl ?_
  refine stF rfl rfl (fun hg => have hg' := BP.t hg; OK1.gtI (Has.g rfl hg) (Has.cI 4 rfl)) rfl ?_
  refine st (OK1.pickOr (Has.t rfl) (fun h => Has.g rfl (ng h))) rfl ?_
  refine nl ?_
  refine At.thn (hK3 _ _ ?_); clear hK3
  refine Tri.cv (Cv.wk (.cons (t := 0) (Has.t rfl) (.cons (t := 4) (Has.t rfl) (.cons (t := 5) (Has.t rfl) (.cons (t := 6) (Has.t rfl) (.cons (t := 25) (Has.t rfl) .nil)))))) ?_
  refine Tri.cond (Has.t rfl) (fun hc1 => ?_) (fun hc1 => ?_)
  · have hc1 := BP.t hc1
    refine Tri.seq fun K4 hK4 => ?_
    refine Tri.region ?_
    refine st (OK1.call (law08_awake) .nil) rfl ?_
    refine st (OK1.as (Has.t rfl)) rfl ?_
    refine nl ?_
    refine At.thn (hK4 _ _ ?_); clear hK4
    refine Tri.ret ?_
    refine At.thr ?_
    refine rt1 (.inl rfl) Try.results9 rfl (.tmp (Has.t' rfl ?_) .nil)
    all_goals (rfl)
  · have hc1 := BP.f hc1
    refine Tri.skip ?_
    refine At.thn (hK2 _ _ ?_); clear hK2
    refine Tri.seq fun K5 hK5 => ?_
    refine Tri.region ?_
    refine st (OK1.mv (Has.t rfl)) rfl ?_
    refine st (OK1.call ref08_P (.cons (Has.t rfl) .nil)) rfl ?_
    refine st (OK1.as (Has.t rfl)) rfl ?_
    refine nl ?_
    refine At.thn (hK5 _ _ ?_); clear hK5
    refine Tri.seq fun K6 hK6 => ?_
    refine Tri.region ?_
    refine st (OK1.mv (Has.t rfl)) rfl ?_
    refine st (OK1.call (gfp_New_yes (ptab_pr _)) (.cons (Has.t rfl) .nil)) rfl ?_
    refine st (OK1.mv (Has.t rfl)) rfl ?_
    refine st (OK1.ext (Has.t rfl) rfl) rfl ?_
    refine st (OK1.ext (Has.t rfl) rfl) rfl ?_
    refine Ops.alloc [isU 0] zero29 (fun _ _ => ⟨⟨rfl, by decide⟩, trivial⟩) rfl fun b3 => ?_
    refine Ops.store (Has.t rfl) (Has.t rfl) (i := 0) rfl ty29 rfl rfl (Ss' := [_]) rfl (M' := [(some _, cellM [_]), _, _]) rfl ?_
    refine st (OK1.as (Has.t rfl)) rfl ?_
    refine nl ?_
    refine At.thn (hK6 _ _ ?_); clear hK6
    refine Tri.cv (Cv.wk (.cons (t := 4) (Has.t rfl) (.cons (t := 5) (Has.t rfl) (.cons (t := 6) (Has.t rfl) (.cons (t := 7) (Has.t rfl) (.cons (t := 8) (Has.t rfl) .nil)))))) ?_
    refine Tri.seq fun K7 hK7 => ?_
    refine Tri.dr ?_
    refine DrG.st (i := 0) [] rfl rfl rfl (by kernel_rfl) (OKG.o rfl (OK1.load (Has.t rfl) (i := 0) rfl ty29 rfl (Ss' := [_]) rfl)) ?_
    refine DrG.st (i := 1) [] rfl rfl rfl (by kernel_rfl) (OKG.o rfl (OK1.load (Has.t rfl) (i := 2) rfl ty55 rfl (Ss' := [_, _]) rfl)) ?_
    refine DrG.st (i := 2) [34, 35] rfl rfl rfl (by kernel_rfl) (OKG.o rfl (OK1.eq (OK1.call (gfp_Of (by first | with_reducible assumption | omega | (simp only [val_words, zv_nf]; omega) | (simp only [val_words, zv_nf, Int.natAbs_natCast]; omega)) (by first | with_reducible assumption | omega | (simp only [val_words, zv_nf]; omega) | (simp only [val_words, zv_nf, Int.natAbs_natCast]; omega))) (.cons (Has.t rfl) (.cons (Has.t rfl) .nil))) ((show isU _ = isU x from isU_eq (by rw [hxe, hpe]))))) ?_
    refine DrG.st (i := 3) [] rfl rfl rfl (by kernel_rfl) (OKG.o rfl (OK1.load (Has.t rfl) (i := 0) rfl ty29 rfl (Ss' := [_]) rfl)) ?_
    refine DrG.st (i := 4) [] rfl rfl rfl (by kernel_rfl) (OKG.o rfl (OK1.load (Has.t rfl) (i := 1) rfl ty55 rfl (Ss' := [_, _]) rfl)) ?_
    refine DrG.fin (n := 5) mixed (by kernel_rfl) (by kernel_rfl) (by kernel_rfl) ?_
    refine Ops.cv (Cv.wk (.cons (t := 4) (Has.t rfl) (.cons (t := 5) (Has.t rfl) (.cons (t := 6) (Has.t rfl) (.cons (t := 7) (Has.t rfl) (.cons (t := 8) (Has.t rfl) (.cons (t := 36) (Has.t rfl) (.cons (t := 37) (Has.t rfl) (.cons (t := 38) (Has.t rfl) .nil))))))))) ?_
    refine st (OK1.eq (OK1.call (gfp_Of (by first | with_reducible assumption | omega | (simp only [val_words, zv_nf]; omega) | (simp only [val_words, zv_nf, Int.natAbs_natCast]; omega)) (by first | with_reducible assumption | omega | (simp only [val_words, zv_nf]; omega) | (simp only [val_words, zv_nf, Int.natAbs_natCast]; omega))) (.cons (Has.t rfl) (.cons (Has.t rfl) .nil))) ((show isU _ = isU y from isU_eq (by rw [hye, hpe])))) rfl ?_
    refine st (OK1.as (Has.t rfl)) rfl ?_
    refine st (OK1.as (Has.t rfl)) rfl ?_
    refine nl ?_
    refine At.thn (hK7 _ _ ?_); clear hK7
    refine Tri.seq fun K8 hK8 => ?_
    refine Tri.dr ?_
    refine DrG.st (i := 0) [] rfl rfl rfl (by kernel_rfl) (OKG.o rfl (OK1.mv (Has.t rfl))) ?_
    refine DrG.st (i := 1) [] rfl rfl rfl (by kernel_rfl) (OKG.o rfl (OK1.mv (Has.t rfl))) ?_
    refine DrG.st (i := 2) [40, 41] rfl rfl rfl (by kernel_rfl) (OKG.o rfl (OK1.ltU (Has.t rfl) (Has.t rfl))) ?_
    refine DrG.st (i := 3) [42] rfl rfl rfl (by kernel_rfl) (OKG.o rfl (OK1.mv (Has.t rfl))) ?_
    refine DrG.st (i := 4) [43] rfl rfl rfl (by kernel_rfl) (OKG.T rfl rfl rfl (fun hg => have hg' := BP.t hg; OK1.load (Has.t rfl) (i := 2) rfl ty55 rfl (Ss' := [_, _]) rfl)) ?_
    refine DrG.st (i := 5) [43] rfl rfl rfl (by kernel_rfl) (OKG.T rfl rfl rfl (fun hg => have hg' := BP.t hg; OK1.mv (Has.t rfl))) ?_
    refine DrG.st (i := 6) [43, 45] rfl rfl rfl (by kernel_rfl) (OKG.T rfl rfl rfl (fun hg => have hg' := BP.t hg; OK1.convUI un27 un2 (Has.g rfl hg) (by first | with_reducible assumption | omega | (simp only [val_words, zv_nf]; omega) | (simp only [val_words, zv_nf, Int.natAbs_natCast]; omega)))) ?_
    refine DrG.st (i := 7) [43, 46] rfl rfl rfl (by kernel_rfl) (OKG.T rfl rfl rfl (fun hg => have hg' := BP.t hg; OK1.call (zint_Of) (.cons (Has.g rfl hg) .nil))) ?_
    refine DrG.st (i := 8) [43] rfl rfl rfl (by kernel_rfl) (OKG.T rfl rfl rfl (fun hg => have hg' := BP.t hg; OK1.mv (Has.t rfl))) ?_
    refine DrG.st (i := 9) [43, 48] rfl rfl rfl (by kernel_rfl) (OKG.T rfl rfl rfl (fun hg => have hg' := BP.t hg; OK1.convUI un27 un2 (Has.g rfl hg) (by first | with_reducible assumption | omega | (simp only [val_words, zv_nf]; omega) | (simp only [val_words, zv_nf, Int.natAbs_natCast]; omega)))) ?_
    refine DrG.st (i := 10) [43, 49] rfl rfl rfl (by kernel_rfl) (OKG.T rfl rfl rfl (fun hg => have hg' := BP.t hg; OK1.call (zint_Of) (.cons (Has.g rfl hg) .nil))) ?_
    refine DrG.st (i := 11) [43, 44, 47, 50] rfl rfl rfl (by kernel_rfl) (OKG.T rfl rfl rfl (fun hg => have hg' := BP.t hg; OK1.eq (OK1.call (ref06_Congruent (by omega) (by rw [ax]; omega) (by rw [ap]; omega) (by simp only [zv_nf]; omega)) (.cons (Has.g rfl hg) (.cons (Has.g rfl hg) (.cons (Has.g rfl hg) .nil)))) (by first | (simp only [val_words, zv_nf]; rfl) | rfl))) ?_
    refine DrG.st (i := 12) [43, 51] rfl rfl rfl (by kernel_rfl) (OKG.o rfl (OK1.pickAnd (Has.t rfl) (fun h => Has.g rfl h))) ?_
    refine DrG.st (i := 13) [52] rfl rfl rfl (by kernel_rfl) (OKG.o rfl (OK1.mv (Has.t rfl))) ?_
    refine DrG.st (i := 14) [53] rfl rfl rfl (by kernel_rfl) (OKG.T rfl rfl rfl (fun hg => have hg' := BP.t hg; OK1.load (Has.t rfl) (i := 0) rfl ty29 rfl (Ss' := [_]) rfl)) ?_
    refine DrG.st (i := 15) [53] rfl rfl rfl (by kernel_rfl) (OKG.T rfl rfl rfl (fun hg => have hg' := BP.t hg; OK1.load (Has.t rfl) (i := 2) rfl ty55 rfl (Ss' := [_, _]) rfl)) ?_
    refine DrG.st (i := 16) [53] rfl rfl rfl (by kernel_rfl) (OKG.T rfl rfl rfl (fun hg => have hg' := BP.t hg; OK1.load (Has.t rfl) (i := 1) rfl ty55 rfl (Ss' := [_, _]) rfl)) ?_
    refine DrG.st (i := 17) [53, 55, 56] rfl rfl rfl (by kernel_rfl) (OKG.T rfl rfl rfl (fun hg => have hg' := BP.t hg; OK1.call (zint_Add (by first | with_reducible assumption | omega | (simp only [val_words, zv_nf]; omega) | (simp only [val_words, zv_nf, Int.natAbs_natCast]; omega)) (by first | with_reducible assumption | omega | (simp only [val_words, zv_nf]; omega) | (simp only [val_words, zv_nf, Int.natAbs_natCast]; omega))) (.cons (Has.g rfl hg) (.cons (Has.g rfl hg) .nil)))) ?_
    refine DrG.st (i := 18) [53, 54, 57] rfl rfl rfl (by kernel_rfl) (OKG.T rfl rfl rfl (fun hg => have hg' := BP.t hg; OK1.eq (OK1.call (gfp_Of (by first | with_reducible assumption | omega | (simp only [val_words, zv_nf]; omega) | (simp only [val_words, zv_nf, Int.natAbs_natCast]; omega)) (by first | with_reducible assumption | omega | (simp only [val_words, zv_nf]; omega) | (simp only [val_words, zv_nf, Int.natAbs_natCast]; omega))) (.cons (Has.g rfl hg) (.cons (Has.g rfl hg) .nil))) (by first | (simp only [val_words, zv_nf]; rfl) | rfl))) ?_
    refine DrG.st (i := 19) [53] rfl rfl rfl (by kernel_rfl) (OKG.T rfl rfl rfl (fun hg => have hg' := BP.t hg; OK1.load (Has.t rfl) (i := 0) rfl ty29 rfl (Ss' := [_]) rfl)) ?_
    refine DrG.st (i := 20) [53] rfl rfl rfl (by kernel_rfl) (OKG.T rfl rfl rfl (fun hg => have hg' := BP.t hg; OK1.mv (Has.t rfl))) ?_
    refine DrG.st (i := 21) [53] rfl rfl rfl (by kernel_rfl) (OKG.T rfl rfl rfl (fun hg => have hg' := BP.t hg; OK1.mv (Has.t rfl))) ?_
    refine DrG.st (i := 22) [53, 59, 60, 61] rfl rfl rfl (by kernel_rfl) (OKG.T rfl rfl rfl (fun hg => have hg' := BP.t hg; OK1.call (gfp_Add (by first | with_reducible assumption | omega | (simp only [val_words, zv_nf]; omega) | (simp only [val_words, zv_nf, Int.natAbs_natCast]; omega))) (.cons (Has.g rfl hg) (.cons (Has.g rfl hg) (.cons (Has.g rfl hg) .nil))))) ?_
    refine DrG.st (i := 23) [53, 58, 62] rfl rfl rfl (by kernel_rfl) (OKG.T rfl rfl rfl (fun hg => have hg' := BP.t hg; OK1.eqU (Has.g rfl hg) (Has.g rfl hg))) ?_
    refine DrG.st (i := 24) [53, 63] rfl rfl rfl (by kernel_rfl) (OKG.o rfl (OK1.pickAnd (Has.t rfl) (fun h => Has.g rfl h))) ?_
    refine DrG.st (i := 25) [64] rfl rfl rfl (by kernel_rfl) (OKG.o rfl (OK1.mv (Has.t rfl))) ?_
    refine DrG.st (i := 26) [65] rfl rfl rfl (by kernel_rfl) (OKG.T rfl rfl rfl (fun hg => have hg' := BP.t hg; OK1.load (Has.t rfl) (i := 0) rfl ty29 rfl (Ss' := [_]) rfl)) ?_
    refine DrG.st (i := 27) [65] rfl rfl rfl (by kernel_rfl) (OKG.T rfl rfl rfl (fun hg => have hg' := BP.t hg; OK1.load (Has.t rfl) (i := 2) rfl ty55 rfl (Ss' := [_, _]) rfl)) ?_
    refine DrG.st (i := 28) [65] rfl rfl rfl (by kernel_rfl) (OKG.T rfl rfl rfl (fun hg => have hg' := BP.t hg; OK1.load (Has.t rfl) (i := 1) rfl ty55 rfl (Ss' := [_, _]) rfl)) ?_
    refine DrG.st (i := 29) [65, 67, 68] rfl rfl rfl (by kernel_rfl) (OKG.T rfl rfl rfl (fun hg => have hg' := BP.t hg; OK1.call (zint_Mul (by first | with_reducible assumption | omega | (simp only [val_words, zv_nf]; omega) | (simp only [val_words, zv_nf, Int.natAbs_natCast]; omega)) (by first | with_reducible assumption | omega | (simp only [val_words, zv_nf]; omega) | (simp only [val_words, zv_nf, Int.natAbs_natCast]; omega))) (.cons (Has.g rfl hg) (.cons (Has.g rfl hg) .nil)))) ?_
    refine DrG.st (i := 30) [65, 66, 69] rfl rfl rfl (by kernel_rfl) (OKG.T rfl rfl rfl (fun hg => have hg' := BP.t hg; OK1.eq (OK1.call (gfp_Of (by first | with_reducible assumption | omega | (simp only [val_words, zv_nf]; omega) | (simp only [val_words, zv_nf, Int.natAbs_natCast]; omega)) (by first | with_reducible assumption | omega | (simp only [val_words, zv_nf]; omega) | (simp only [val_words, zv_nf, Int.natAbs_natCast]; omega))) (.cons (Has.g rfl hg) (.cons (Has.g rfl hg) .nil))) (by first | (simp only [val_words, zv_nf]; rfl) | rfl))) ?_
    refine DrG.st (i := 31) [65] rfl rfl rfl (by kernel_rfl) (OKG.T rfl rfl rfl (fun hg => have hg' := BP.t hg; OK1.load (Has.t rfl) (i := 0) rfl ty29 rfl (Ss' := [_]) rfl)) ?_
    refine DrG.st (i := 32) [65] rfl rfl rfl (by kernel_rfl) (OKG.T rfl rfl rfl (fun hg => have hg' := BP.t hg; OK1.mv (Has.t rfl))) ?_
    refine DrG.st (i := 33) [65] rfl rfl rfl (by kernel_rfl) (OKG.T rfl rfl rfl (fun hg => have hg' := BP.t hg; OK1.mv (Has.t rfl))) ?_
    refine DrG.st (i := 34) [65, 71, 72, 73] rfl rfl rfl (by kernel_rfl) (OKG.T rfl rfl rfl (fun hg => have hg' := BP.t hg; OK1.call (gfp_Mul (by first | with_reducible assumption | omega | (simp only [val_words, zv_nf]; omega) | (simp only [val_words, zv_nf, Int.natAbs_natCast]; omega))) (.cons (Has.g rfl hg) (.cons (Has.g rfl hg) (.cons (Has.g rfl hg) .nil))))) ?_
    refine DrG.st (i := 35) [65, 70, 74] rfl rfl rfl (by kernel_rfl) (OKG.T rfl rfl rfl (fun hg => have hg' := BP.t hg; OK1.eqU (Has.g rfl hg) (Has.g rfl hg))) ?_
    refine DrG.st (i := 36) [65, 75] rfl rfl rfl (by kernel_rfl) (OKG.o rfl (OK1.pickAnd (Has.t rfl) (fun h => Has.g rfl h))) ?_
    refine DrG.st (i := 37) [76] rfl rfl rfl (by kernel_rfl) (OKG.o rfl (OK1.mv (Has.t rfl))) ?_
    refine DrG.st (i := 38) [77] rfl rfl rfl (by kernel_rfl) (OKG.T rfl rfl rfl (fun hg => have hg' := BP.t hg; OK1.load (Has.t rfl) (i := 0) rfl ty29 rfl (Ss' := [_]) rfl)) ?_
    refine DrG.st (i := 39) [77] rfl rfl rfl (by kernel_rfl) (OKG.T rfl rfl rfl (fun hg => have hg' := BP.t hg; OK1.load (Has.t rfl) (i := 2) rfl ty55 rfl (Ss' := [_, _]) rfl)) ?_
    refine DrG.st (i := 40) [77, 79] rfl rfl rfl (by kernel_rfl) (OKG.T rfl rfl rfl (fun hg => have hg' := BP.t hg; OK1.call (zint_Neg (by first | with_reducible assumption | omega | (simp only [val_words, zv_nf]; omega) | (simp only [val_words, zv_nf, Int.natAbs_natCast]; omega))) (.cons (Has.g rfl hg) .nil))) ?_
    refine DrG.st (i := 41) [77, 78, 80] rfl rfl rfl (by kernel_rfl) (OKG.T rfl rfl rfl (fun hg => have hg' := BP.t hg; OK1.eq (OK1.call (gfp_Of (by first | with_reducible assumption | omega | (simp only [val_words, zv_nf]; omega) | (simp only [val_words, zv_nf, Int.natAbs_natCast]; omega)) (by first | with_reducible assumption | omega | (simp only [val_words, zv_nf]; omega) | (simp only [val_words, zv_nf, Int.natAbs_natCast]; omega))) (.cons (Has.g rfl hg) (.cons (Has.g rfl hg) .nil))) (by first | (simp only [val_words, zv_nf]; rfl) | rfl))) ?_
    refine DrG.st (i := 42) [77] rfl rfl rfl (by kernel_rfl) (OKG.T rfl rfl rfl (fun hg => have hg' := BP.t hg; OK1.load (Has.t rfl) (i := 0) rfl ty29 rfl (Ss' := [_]) rfl)) ?_
    refine DrG.st (i := 43) [77] rfl rfl rfl (by kernel_rfl) (OKG.T rfl rfl rfl (fun hg => have hg' := BP.t hg; OK1.mv (Has.t rfl))) ?_
    refine DrG.fin (n := 44) mixed (by kernel_rfl) (by kernel_rfl) (by kernel_rfl) ?_
    refine Ops.cv (Cv.wk (.cons (t := 6) (Has.t rfl) (.cons (t := 77) (Has.t rfl) (.cons (t := 81) (Has.t rfl) (.cons (t := 82) (Has.t rfl) (.cons (t := 83) (Has.t rfl) .nil)))))) ?_
    refine stT rfl rfl (fun hg => have hg' := BP.t hg; OK1.call (gfp_Neg (by first | with_reducible assumption | omega | (simp only [val_words, zv_nf]; omega) | (simp only [val_words, zv_nf, Int.natAbs_natCast]; omega))) (.cons (Has.g rfl hg) (.cons (Has.g rfl hg) .nil))) rfl ?_
    refine stT rfl rfl (fun hg => have hg' := BP.t hg; OK1.eqU (Has.g rfl hg) (Has.g rfl hg)) rfl ?_
    refine st (OK1.pickAnd (Has.t rfl) (fun h => Has.g rfl h)) rfl ?_
    refine st (OK1.as (Has.t rfl)) rfl ?_
    refine nl ?_
    refine At.thn (hK8 _ _ ?_); clear hK8
    refine Tri.cv (Cv.wk (.cons (t := 6) (Has.t rfl) .nil)) ?_
    refine Tri.ret ?_
    refine rt1 (.inl rfl) Try.results9 rfl (.tmp (Has.t' rfl ?_) .nil)
    all_goals (exact isB_eq (of_all (by omega) hfp (by rw [hxe, hpe]) (by rw [hye, hpe])))
end Go.Proofs.Ytokhpacdgoebpaa
