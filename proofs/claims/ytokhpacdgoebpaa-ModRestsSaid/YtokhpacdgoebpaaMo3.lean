/- Contracts: the reference for common divisors. -/
import Derived.Test.YtokhpacdgoebpaaMo1
namespace Go.Proofs.Ytokhpacdgoebpaa
open Go.En Go.RowKit
set_option linter.unusedVariables false
set_option maxRecDepth 10000
open Go.Nt
theorem nd_max (a b : Nat) : (List.length (digs (max a b))) ≤ max ((List.length (digs a))) ((List.length (digs b))) := by
  rcases Nat.le_total a b with h | h
  · rw [Nat.max_eq_right h]; omega
  · rw [Nat.max_eq_left h]; omega


set_option maxHeartbeats 4000000 in
theorem ref06_Common {m n : Bool} {xs ys : List Nat} (hx : xs.length ≤ 4) (hy : ys.length ≤ 4) : Ctr Try.prog 50 [Flat [isB m, isWords xs], Flat [isB n, isWords ys]] (isB (decide (Nat.gcd (zv m xs).natAbs (zv n ys).natAbs ≠ 1))) := by
  refine Ctr.intro Try.func50 rfl (by kernel_rfl) Try.ntmps50 rfl fun w0 F0 => ?_
  refine Tri.cv (Cv.wk (.cons (t := 0) (Has.t rfl) (.cons (t := 1) (Has.t rfl) .nil))) ?_
  refine Tri.fact (Has.okZ (Has.t (t := 0) rfl)) fun okz0 => ?_
  refine Tri.fact (Has.okZ (Has.t (t := 1) rfl)) fun okz1 => ?_
  have ex := zd_val m okz0.1
  have ey := zd_val n okz1.1
  have fa : (zv m xs).natAbs < 2 ^ (64 * 4) := four_words (by rw [zv_nw]; exact Nat.le_trans (nw_val okz0.1) hx)
  have fb : (zv n ys).natAbs < 2 ^ (64 * 4) := four_words (by rw [zv_nw]; exact Nat.le_trans (nw_val okz1.1) hy)
  have h1 := zd_one
  have h11 : (List.length (words (1 : Int).natAbs)) = 1 := nz_one
  refine Tri.seq fun K1 hK1 => ?_
  refine Tri.region ?_
  refine Ops.box (Has.t rfl) rfl fun b1 => ?_
  refine Ops.box (Has.t rfl) rfl fun b2 => ?_
  refine st (OK1.as (Has.cB false)) rfl ?_
  refine nl ?_
  refine At.thn (hK1 _ _ ?_); clear hK1
  refine Tri.seq fun K2 hK2 => ?_
  refine Tri.drh [true, true] (Ms := [_, _]) rfl ?_
  refine DrH.st (i := 0) [] rfl rfl rfl (by kernel_rfl) (OKG.o rfl (OK1.load (Has.t rfl) (i := 1) rfl ty55 rfl (Ss' := [_, _]) rfl)) ?_
  refine DrH.st (i := 1) [10] rfl rfl rfl (by kernel_rfl) (OKG.o rfl (OK1.call (ref05_From (by first | omega | (have := h11; omega))) (.cons (Has.t rfl) .nil))) ?_
  refine DrH.st (i := 2) [11] rfl rfl rfl (by kernel_rfl) (OKG.o rfl (OK1.call (ref05_Abs) (.cons (Has.t rfl) .nil))) ?_
  refine DrH.st (i := 3) [] rfl rfl rfl (by kernel_rfl) (OKG.o rfl (OK1.load (Has.t rfl) (i := 0) rfl ty55 rfl (Ss' := [_, _]) rfl)) ?_
  refine DrH.st (i := 4) [13] rfl rfl rfl (by kernel_rfl) (OKG.o rfl (OK1.call (ref05_From (by first | omega | (have := h11; omega))) (.cons (Has.t rfl) .nil))) ?_
  refine DrH.st (i := 5) [14] rfl rfl rfl (by kernel_rfl) (OKG.o rfl (OK1.call (ref05_Abs) (.cons (Has.t rfl) .nil))) ?_
  refine DrH.als (n1 := 8) (ds := [5, 6]) (zs := [[isB false, nilS], [isB false, nilS]]) rfl (.cons rfl rfl zero112 (fun _ _ => ⟨rfl, rfl, trivial⟩) (.cons rfl rfl zero112 (fun _ _ => ⟨rfl, rfl, trivial⟩) .nil)) (.cons_cons _ (.cons_cons _ .slnil)) (Cs := [_, _]) rfl ?_
  refine DrN.fin (n := 8) mixed rfl (by kernel_rfl) (by kernel_rfl) (by kernel_rfl) (fun bs hbs => ?_)
  obtain ⟨b3, b4, rfl⟩ := len2 hbs
  refine Ops.memEq (M' := [_, _, _, _]) rfl ?_
  refine Ops.cv (Cv.wk (.cons (t := 4) (Has.t rfl) (.cons (t := 12) (Has.t rfl) (.cons (t := 15) (Has.t rfl) (.cons (t := 5) (Has.op rfl) (.cons (t := 6) (Has.op rfl) .nil)))))) ?_
  refine Ops.store (Has.t rfl) (Has.t rfl) (i := 0) rfl ty112 rfl rfl (Ss' := [_, _]) rfl (M' := [(some _, cellM [_, _]), _, _, _]) rfl ?_
  refine Ops.store (Has.t rfl) (Has.t rfl) (i := 1) rfl ty112 rfl rfl (Ss' := [_, _]) rfl (M' := [_, (some _, cellM [_, _]), _, _]) rfl ?_
  refine nl ?_
  refine At.thn (hK2 _ _ ?_); clear hK2
  refine Tri.seq fun K3 hK3 => ?_
  refine Tri.seq fun K4 hK4 => ?_
  refine Tri.region ?_
  refine st (OK1.as (Has.cI 0 rfl)) rfl ?_
  refine nl ?_
  refine At.thn (hK4 _ _ ?_); clear hK4
  refine Tri.block ?_
  refine Tri.loopF [4, 5, 6] (fun (z : { z : Nat × Nat × Nat // Eu (64 * 4) (zv m xs).natAbs (zv n ys).natAbs z.1 z.2.1 z.2.2 ∧ z.1 ≤ 2000 }) => match z with | ⟨(k, x, y), hI⟩ => [(7, isI (k : Int))]) (fun M => fun (z : { z : Nat × Nat × Nat // Eu (64 * 4) (zv m xs).natAbs (zv n ys).natAbs z.1 z.2.1 z.2.2 ∧ z.1 ≤ 2000 }) => match z with | ⟨(k, x, y), hI⟩ => [rM b3 ((x : Nat) : Int), rM b4 ((y : Nat) : Int), (some b2, cellM [isB n, SlM isU ys]), (some b1, cellM [isB m, SlM isU xs])]) (fun (z : { z : Nat × Nat × Nat // Eu (64 * 4) (zv m xs).natAbs (zv n ys).natAbs z.1 z.2.1 z.2.2 ∧ z.1 ≤ 2000 }) => match z with | ⟨(k, x, y), hI⟩ => y) (⟨(0, (zv m xs).natAbs, (zv n ys).natAbs), Eu.start fa fb, Nat.zero_le _⟩) (Cv.mem (.cons (t := 7) (Has.t' rfl ?_) (.cons (t := 4) (Has.t rfl) (.cons (t := 5) (Has.t rfl) (.cons (t := 6) (Has.t rfl) .nil)))) ?_) ?_
  · rfl
  · rfl
  rintro ⟨⟨k, x, y⟩, hI⟩ K5 hK5
  refine Tri.cv (Cv.wk (.cons (t := 7) (Has.t rfl) (.cons (t := 4) (Has.t rfl) (.cons (t := 5) (Has.t rfl) (.cons (t := 6) (Has.t rfl) .nil))))) ?_
  refine Tri.memEq (M' := [rM b3 ((x : Nat) : Int), rM b4 ((y : Nat) : Int), (some b2, cellM [isB n, SlM isU ys]), (some b1, cellM [isB m, SlM isU xs])]) rfl ?_
  simp only [] at hI
  obtain ⟨hE, hk⟩ := hI
  have hxl := Nat.le_trans (d_nw_mono hE.xl) (nd_max _ _)
  have hyl := Nat.le_trans (d_nw_mono hE.yl) (nd_max _ _)
  have hxa : (((x : Nat) : Int)).natAbs = x := Int.natAbs_natCast x
  have hya : (((y : Nat) : Int)).natAbs = y := Int.natAbs_natCast y
  refine Tri.seq fun K6 hK6 => ?_
  refine Tri.seq fun K7 hK7 => ?_
  refine Tri.region ?_
  refine st (OK1.mv (Has.t rfl)) rfl ?_
  refine st (OK1.ltI (Has.t rfl) (Has.cI 2000 rfl)) rfl ?_
  refine st (OK1.mv (Has.t rfl)) rfl ?_
  refine stT rfl rfl (fun hg => have hg' := BP.t hg; OK1.load (Has.t rfl) (i := 1) rfl ty112 rfl (Ss' := [_, _]) rfl) rfl ?_
  refine stT rfl rfl (fun hg => have hg' := BP.t hg; OK1.call (ref05_Sign (by first | with_reducible assumption | omega | (rw [Int.natAbs_natCast]; omega))) (.cons (Has.g rfl hg) .nil)) rfl ?_
  refine stT rfl rfl (fun hg => have hg' := BP.t hg; OK1.neI (Has.g rfl hg) (Has.cI 0 rfl)) rfl ?_
  refine st (OK1.pickAnd (Has.t rfl) (fun h => Has.g rfl h)) rfl ?_
  refine nl ?_
  refine At.thn (hK7 _ _ ?_); clear hK7
  refine Tri.cond (Has.t rfl) (fun hc1 => ?_) (fun hc1 => ?_)
  · have hc1 := BP.t hc1
    have HAY := hc1
    have hyp : 0 < ((y : Nat) : Int) := by
      rcases Nat.eq_zero_or_pos y with e | e
      · exact absurd (by rw [sgn_eq0]; omega) hc1.2
      · omega
    refine Tri.skip ?_
    refine At.thn (hK6 _ _ ?_); clear hK6
    refine Tri.seq fun K8 hK8 => ?_
    refine Tri.block ?_
    refine Tri.seq fun K9 hK9 => ?_
    refine Tri.region ?_
    refine st (OK1.load (Has.t rfl) (i := 0) rfl ty112 rfl (Ss' := [_, _]) rfl) rfl ?_
    refine st (OK1.load (Has.t rfl) (i := 1) rfl ty112 rfl (Ss' := [_, _]) rfl) rfl ?_
    refine st (OK1.call (ref05_Floor hyp (by rw [hxa]; omega) (by rw [hya]; omega)) (.cons (Has.t rfl) (.cons (Has.t rfl) .nil))) rfl ?_
    refine st (OK1.mv (Has.t rfl)) rfl ?_
    refine st (OK1.ext (Has.t rfl) rfl) rfl ?_
    refine st (OK1.ext (Has.t rfl) rfl) rfl ?_
    refine Ops.alloc [isB false, nilS] zero112 (fun _ _ => ⟨rfl, rfl, trivial⟩) rfl fun b5 => ?_
    refine Ops.alloc [isB false, nilS] zero112 (fun _ _ => ⟨rfl, rfl, trivial⟩) rfl fun b6 => ?_
    refine Ops.store (Has.t rfl) (Has.t rfl) (i := 1) rfl ty112 rfl rfl (Ss' := [_, _]) rfl (M' := [_, (some _, cellM [_, _]), _, _, _, _]) rfl ?_
    refine Ops.store (Has.t rfl) (Has.t rfl) (i := 0) rfl ty112 rfl rfl (Ss' := [_, _]) rfl (M' := [(some _, cellM [_, _]), _, _, _, _, _]) rfl ?_
    refine nl ?_
    refine At.thn (hK9 _ _ ?_); clear hK9
    refine Tri.seq fun K10 hK10 => ?_
    refine Tri.region ?_
    refine st (OK1.load (Has.t rfl) (i := 3) rfl ty112 rfl (Ss' := [_, _]) rfl) rfl ?_
    refine Ops.store (Has.t rfl) (Has.t rfl) (i := 2) rfl ty112 rfl rfl (Ss' := [_, _]) rfl (M' := [_, _, (some _, cellM [_, _]), _, _, _]) rfl ?_
    refine nl ?_
    refine At.thn (hK10 _ _ ?_); clear hK10
    refine Tri.region ?_
    refine st (OK1.load (Has.t rfl) (i := 0) rfl ty112 rfl (Ss' := [_, _]) rfl) rfl ?_
    refine Ops.store (Has.t rfl) (Has.t rfl) (i := 3) rfl ty112 rfl rfl (Ss' := [_, _]) rfl (M' := [_, _, _, (some _, cellM [_, _]), _, _]) rfl ?_
    refine nl ?_
    refine At.bln ?_
    refine At.thn (hK8 _ _ ?_); clear hK8
    refine Tri.region ?_
    refine st (OK1.mv (Has.t rfl)) rfl ?_
    refine st (OK1.addI (Has.t rfl) (Has.cI 1 rfl) (by first | with_reducible assumption | omega | (rw [Int.natAbs_natCast]; omega)) (by first | with_reducible assumption | omega | (rw [Int.natAbs_natCast]; omega))) rfl ?_
    refine st (OK1.as (Has.t rfl)) rfl ?_
    refine nl ?_
    refine At.thn ?_
    have hy0 : y ≠ 0 := fun e => HAY.2 (by rw [sgn_eq0]; omega)
    refine hK5 (⟨(k + 1, y, x % y), hE.step (by omega), by show k + 1 ≤ 2000; omega⟩) _ _ ?_ (Cv.trans (Cv.drop ((.cons _ (.cons _ (.cons_cons _ (.cons_cons _ (.cons_cons _ (.cons_cons _ .slnil)))))))) (Cv.mem (.cons (t := 7) (Has.t' rfl ?_) (.cons (t := 4) (Has.t rfl) (.cons (t := 5) (Has.t rfl) (.cons (t := 6) (Has.t rfl) .nil)))) ?_))
    · exact Nat.mod_lt _ (by omega)
    · rfl
    · simp only [Int.natCast_emod]
  · have hc1 := BP.f hc1
    have hy0 : y = 0 := by
      rcases hc1 with h | h
      · exact hE.few (by omega)
      · have := (sgn_eq0 _).1 h; omega
    refine Tri.exit ?_
    refine At.the ?_
    refine At.the ?_
    refine At.blh ?_
    refine At.thn (hK3 _ _ ?_); clear hK3
    refine Tri.cv (Cv.wk (.cons (t := 4) (Has.t rfl) (.cons (t := 5) (Has.t rfl) .nil))) ?_
    refine Tri.seq fun K11 hK11 => ?_
    refine Tri.dr ?_
    refine DrG.st (i := 0) [] rfl rfl rfl (by kernel_rfl) (OKG.o rfl (OK1.load (Has.t rfl) (i := 0) rfl ty112 rfl (Ss' := [_, _]) rfl)) ?_
    refine DrG.st (i := 1) [] rfl rfl rfl (by kernel_rfl) (OKG.o rfl (OK1.call (zint_Of) (.cons (Has.cI 1 rfl) .nil))) ?_
    refine DrG.st (i := 2) [34] rfl rfl rfl (by kernel_rfl) (OKG.o rfl (OK1.eq (OK1.call (ref05_From (by first | omega | (have := h11; omega))) (.cons (Has.t rfl) .nil)) (by first | (simp only [zv_nf]; rfl) | rfl))) ?_
    refine DrG.fin (n := 3) mixed (by kernel_rfl) (by kernel_rfl) (by kernel_rfl) ?_
    refine Ops.cv (Cv.wk (.cons (t := 4) (Has.t rfl) (.cons (t := 33) (Has.t rfl) (.cons (t := 35) (Has.t rfl) .nil)))) ?_
    refine st (OK1.eq (OK1.call (ref05_Cmp (by rw [hxa]; omega) (by omega)) (.cons (Has.t rfl) (.cons (Has.t rfl) .nil))) (by first | (simp only [zv_nf]; rfl) | rfl)) rfl ?_
    refine st (OK1.neI (Has.t rfl) (Has.cI 0 rfl)) rfl ?_
    refine st (OK1.as (Has.t rfl)) rfl ?_
    refine nl ?_
    refine At.thn (hK11 _ _ ?_); clear hK11
    refine Tri.ret ?_
    refine rt1 (.inl rfl) Try.results50 rfl (.tmp (Has.t' rfl ?_) .nil)
    all_goals (exact isB_eq ((decide_not ..).symm.trans (decide_eq_decide.2 (not_congr (gcd_ne1.trans (by have := hE.g; rw [hy0, Nat.gcd_zero_right] at this; rw [this]))))))
end Go.Proofs.Ytokhpacdgoebpaa
