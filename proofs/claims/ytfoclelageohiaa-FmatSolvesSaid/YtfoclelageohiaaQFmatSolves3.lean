/- The law FmatSolves, as it is stated, of the given program, for every input; no condition. -/
import Derived.Test.YtfoclelageohiaaQFmatSolves2
import Derived.Test.YtfoclelageohiaaRows
/- Contracts: a matrix's rows, to be reduced. -/
namespace Go.Proofs.Ytfoclelageohiaa
open Go.En Go.RowKit
set_option linter.unusedVariables false
set_option maxRecDepth 10000
open Go.Gf
open Go.Mz
open Go.Mu
open Go.Fe
set_option maxHeartbeats 4000000 in
theorem fmat_begun {q R C D : Nat} {xs ys : List Nat} (hR : R ≤ 64) (hC : C ≤ 64) (hD : D ≤ 64) (hxl : xs.length = R * C) (hyl : ys.length = R * D) : CtrX Try.prog 117 [Flat [isU q], isMW R C xs, isMW R D ys] ([]) (fun S M => ∃ bw gt rs, S = isPtr bw 0 ∧ M = wkMU q bw Gr.nil gt rs [] (1 % fp q) ∧ rs.map Prod.snd = rowsU (fp q) R C D xs ys) := by
  refine CtrX.intro Try.func117 rfl (by kernel_rfl) Try.ntmps117 rfl fun w0 F0 => ?_
  refine Tri.cv (Cv.wk (.cons (t := 0) (Has.t rfl) (.cons (t := 1) (Has.t rfl) (.cons (t := 2) (Has.t rfl) .nil)))) ?_
  have h1 := side_le hR hC
  have h2 := side_le hR hD
  refine Tri.seq fun K1 hK1 => ?_
  refine Tri.region ?_
  refine Ops.box (Has.t rfl) rfl fun b1 => ?_
  refine Ops.box (Has.t rfl) rfl fun b2 => ?_
  refine Ops.box (Has.t rfl) rfl fun b3 => ?_
  refine st (OK1.as Has.cP) rfl ?_
  refine nl ?_
  refine At.thn (hK1 _ _ ?_); clear hK1
  refine Tri.seq fun K2 hK2 => ?_
  refine Tri.dr ?_
  refine DrG.st (i := 0) [] rfl rfl rfl (by kernel_rfl) (OKG.o rfl (OK1.load (Has.t rfl) (i := 2) rfl ty29 rfl (Ss' := [_]) rfl)) ?_
  refine DrG.st (i := 1) [] rfl rfl rfl (by kernel_rfl) (OKG.o rfl (OK1.load (Has.t rfl) (i := 2) rfl ty29 rfl (Ss' := [_]) rfl)) ?_
  refine DrG.st (i := 2) [13] rfl rfl rfl (by kernel_rfl) (OKG.o rfl (OK1.call (gfp_Norm) (.cons (Has.t rfl) (.cons (Has.cU 1 rfl) .nil)))) ?_
  refine DrG.fin (n := 3) mixed (by kernel_rfl) (by kernel_rfl) (by kernel_rfl) ?_
  refine Ops.cv (Cv.wk (.cons (t := 3) (Has.t rfl) (.cons (t := 4) (Has.t rfl) (.cons (t := 5) (Has.t rfl) (.cons (t := 6) (Has.t rfl) (.cons (t := 12) (Has.t rfl) (.cons (t := 14) (Has.t rfl) .nil))))))) ?_
  refine st (OK1.build [isU 0, nilS, nilS, isU 0] pl94 zero94 (fun _ _ => ⟨⟨rfl, by decide⟩, rfl, rfl, ⟨rfl, by decide⟩, trivial⟩) (.cons (Has.t rfl) rfl rfl rfl (.cons (Has.t rfl) rfl rfl rfl .nil)) (Z'' := [_, _, _, _]) rfl) rfl ?_
  refine Ops.box (Has.t rfl) rfl fun b4 => ?_
  refine st (OK1.as (Has.t rfl)) rfl ?_
  refine nl ?_
  refine At.thn (hK2 _ _ ?_); clear hK2
  refine Tri.seq fun K3 hK3 => ?_
  refine Tri.seq fun K4 hK4 => ?_
  refine Tri.cv (Cv.growF (RowU) (i := 0) (o := 1) rfl rfl rfl) ?_
  refine Tri.memEq (M' := [grM rowVU Gr.nil [], _, _, _, _]) rfl ?_
  refine Tri.region ?_
  refine st (OK1.fieldAddr (Has.t rfl) fld24_0 ty3) rfl ?_
  refine st (OK1.load1 (Has.t rfl) (i := 3) rfl ty3 rfl) rfl ?_
  refine st (OK1.mv (Has.cI 0 rfl)) rfl ?_
  refine nl ?_
  refine At.thn (hK4 _ _ ?_); clear hK4
  refine Tri.cv (Cv.wk (.cons (t := 3) (Has.t rfl) (.cons (t := 4) (Has.t rfl) (.cons (t := 5) (Has.t rfl) (.cons (t := 6) (Has.t rfl) (.cons (t := 7) (Has.t rfl) (.cons (t := 18) (Has.t rfl) (.cons (t := 19) (Has.t rfl) .nil)))))))) ?_
  refine Tri.block ?_
  refine Tri.memEq (M' := (_ :: _ :: _ :: _ :: _ :: ([] : List RowU).map rowMU)) rfl ?_
  refine Tri.loopF [3, 4, 5, 6, 7, 18] (fun (z : { z : Nat × Gr RowU × List RowU // z.1 ≤ R ∧ z.2.2.map Prod.snd = rowsU (fp q) z.1 C D xs ys }) => match z with | ⟨(i, gt, rs), hI⟩ => [(19, isI (i : Int))]) (fun M => fun (z : { z : Nat × Gr RowU × List RowU // z.1 ≤ R ∧ z.2.2.map Prod.snd = rowsU (fp q) z.1 C D xs ys }) => match z with | ⟨(i, gt, rs), hI⟩ => (grM rowVU gt rs :: (some b4, cellM [isU q, isGr gt rs.length, nilS, isU (1 % fp q)]) :: (some b3, cellM [isI (R : Int), isI (D : Int), SlM isU ys]) :: (some b2, cellM [isI (R : Int), isI (C : Int), SlM isU xs]) :: (some b1, cellM [isU q]) :: rs.map rowMU)) (fun (z : { z : Nat × Gr RowU × List RowU // z.1 ≤ R ∧ z.2.2.map Prod.snd = rowsU (fp q) z.1 C D xs ys }) => match z with | ⟨(i, gt, rs), hI⟩ => R - i) (⟨(0, Gr.nil, []), Nat.zero_le _, rfl⟩) (Cv.mem (.cons (t := 19) (Has.t' rfl ?_) (.cons (t := 3) (Has.t rfl) (.cons (t := 4) (Has.t rfl) (.cons (t := 5) (Has.t rfl) (.cons (t := 6) (Has.t rfl) (.cons (t := 7) (Has.t rfl) (.cons (t := 18) (Has.t rfl) .nil))))))) ?_) ?_
  · rfl
  · rfl
  rintro ⟨⟨i, gt, rs⟩, hI⟩ K5 hK5
  refine Tri.cv (Cv.wk (.cons (t := 19) (Has.t rfl) (.cons (t := 3) (Has.t rfl) (.cons (t := 4) (Has.t rfl) (.cons (t := 5) (Has.t rfl) (.cons (t := 6) (Has.t rfl) (.cons (t := 7) (Has.t rfl) (.cons (t := 18) (Has.t rfl) .nil)))))))) ?_
  refine Tri.memEq (M' := (grM rowVU gt rs :: (some b4, cellM [isU q, isGr gt rs.length, nilS, isU (1 % fp q)]) :: (some b3, cellM [isI (R : Int), isI (D : Int), SlM isU ys]) :: (some b2, cellM [isI (R : Int), isI (C : Int), SlM isU xs]) :: (some b1, cellM [isU q]) :: rs.map rowMU)) rfl ?_
  simp only [] at hI
  obtain ⟨hi, hrs⟩ := hI
  have hrl : rs.length = i := by have := congrArg List.length hrs; rwa [List.length_map, rowsU_len] at this
  refine Tri.seq fun K6 hK6 => ?_
  refine Tri.region ?_
  refine st (OK1.ltI (Has.t rfl) (Has.t rfl)) rfl ?_
  refine nl ?_
  refine At.thn (hK6 _ _ ?_); clear hK6
  refine Tri.seq fun K7 hK7 => ?_
  refine Tri.cond (Has.t rfl) (fun hc1 => ?_) (fun hc1 => ?_)
  · have hc1 := BP.t hc1
    refine Tri.skip ?_
    refine At.thn (hK7 _ _ ?_); clear hK7
    refine Tri.seq fun K8 hK8 => ?_
    refine Tri.block ?_
    refine Tri.seq fun K9 hK9 => ?_
    refine Tri.region ?_
    refine st (OK1.mv (Has.t rfl)) rfl ?_
    refine st (OK1.as (Has.t rfl)) rfl ?_
    refine nl ?_
    refine At.thn (hK9 _ _ ?_); clear hK9
    refine Tri.seq fun K10 hK10 => ?_
    refine Tri.region ?_
    refine Ops.cv (Cv.grow0 (α := Nat) isU) ?_
    refine st (OK1.as (Has.cGr (α := Nat))) rfl ?_
    refine nl ?_
    refine At.thn (hK10 _ _ ?_); clear hK10
    refine Tri.seq fun K11 hK11 => ?_
    refine Tri.seq fun K12 hK12 => ?_
    refine Tri.region ?_
    refine st (OK1.fieldAddr (Has.t rfl) fld24_1 ty3) rfl ?_
    refine st (OK1.load1 (Has.t rfl) (i := 4) rfl ty3 rfl) rfl ?_
    refine st (OK1.mv (Has.cI 0 rfl)) rfl ?_
    refine nl ?_
    refine At.thn (hK12 _ _ ?_); clear hK12
    refine Tri.block ?_
    refine Tri.loopF [3, 4, 5, 6, 7, 18, 19, 20, 21, 8, 22, 23] (fun (z : { z : Nat × Gr Nat // z.1 ≤ C }) => match z with | ⟨(k, g), hK1⟩ => [(24, isI (k : Int)), (9, isGr g ((List.range k).map fun k => xs.getD (i * C + k) 0 % fp q).length)]) (fun M => fun (z : { z : Nat × Gr Nat // z.1 ≤ C }) => match z with | ⟨(k, g), hK1⟩ => (grM isU g ((List.range k).map fun k => xs.getD (i * C + k) 0 % fp q) :: grM rowVU gt rs :: (some b4, cellM [isU q, isGr gt rs.length, nilS, isU (1 % fp q)]) :: (some b3, cellM [isI (R : Int), isI (D : Int), SlM isU ys]) :: (some b2, cellM [isI (R : Int), isI (C : Int), SlM isU xs]) :: (some b1, cellM [isU q]) :: rs.map rowMU)) (fun (z : { z : Nat × Gr Nat // z.1 ≤ C }) => match z with | ⟨(k, g), hK1⟩ => C - k) (⟨(0, Gr.nil), Nat.zero_le _⟩) (Cv.mem (.cons (t := 24) (Has.t' rfl ?_) (.cons (t := 9) (Has.t' rfl ?_) (.cons (t := 3) (Has.t rfl) (.cons (t := 4) (Has.t rfl) (.cons (t := 5) (Has.t rfl) (.cons (t := 6) (Has.t rfl) (.cons (t := 7) (Has.t rfl) (.cons (t := 18) (Has.t rfl) (.cons (t := 19) (Has.t rfl) (.cons (t := 20) (Has.t rfl) (.cons (t := 21) (Has.t rfl) (.cons (t := 8) (Has.t rfl) (.cons (t := 22) (Has.t rfl) (.cons (t := 23) (Has.t rfl) .nil)))))))))))))) ?_) ?_
    · rfl
    · rfl
    · rfl
    rintro ⟨⟨k, g⟩, hK1⟩ K13 hK13
    refine Tri.cv (Cv.wk (.cons (t := 24) (Has.t rfl) (.cons (t := 9) (Has.t rfl) (.cons (t := 3) (Has.t rfl) (.cons (t := 4) (Has.t rfl) (.cons (t := 5) (Has.t rfl) (.cons (t := 6) (Has.t rfl) (.cons (t := 7) (Has.t rfl) (.cons (t := 18) (Has.t rfl) (.cons (t := 19) (Has.t rfl) (.cons (t := 20) (Has.t rfl) (.cons (t := 21) (Has.t rfl) (.cons (t := 8) (Has.t rfl) (.cons (t := 22) (Has.t rfl) (.cons (t := 23) (Has.t rfl) .nil))))))))))))))) ?_
    refine Tri.memEq (M' := (grM isU g ((List.range k).map fun k => xs.getD (i * C + k) 0 % fp q) :: grM rowVU gt rs :: (some b4, cellM [isU q, isGr gt rs.length, nilS, isU (1 % fp q)]) :: (some b3, cellM [isI (R : Int), isI (D : Int), SlM isU ys]) :: (some b2, cellM [isI (R : Int), isI (C : Int), SlM isU xs]) :: (some b1, cellM [isU q]) :: rs.map rowMU)) rfl ?_
    simp only [] at hK1
    refine Tri.seq fun K14 hK14 => ?_
    refine Tri.region ?_
    refine st (OK1.ltI (Has.t rfl) (Has.t rfl)) rfl ?_
    refine nl ?_
    refine At.thn (hK14 _ _ ?_); clear hK14
    refine Tri.seq fun K15 hK15 => ?_
    refine Tri.cond (Has.t rfl) (fun hc2 => ?_) (fun hc2 => ?_)
    · have hc2 := BP.t hc2
      have hpl := place_lt (show i < R by omega) (show k < C by omega)
      refine Tri.skip ?_
      refine At.thn (hK15 _ _ ?_); clear hK15
      refine Tri.seq fun K16 hK16 => ?_
      refine Tri.block ?_
      refine Tri.seq fun K17 hK17 => ?_
      refine Tri.region ?_
      refine st (OK1.mv (Has.t rfl)) rfl ?_
      refine st (OK1.as (Has.t rfl)) rfl ?_
      refine nl ?_
      refine At.thn (hK17 _ _ ?_); clear hK17
      refine Tri.dr ?_
      refine DrG.st (i := 0) [] rfl rfl rfl (by kernel_rfl) (OKG.o rfl (OK1.mv (Has.t rfl))) ?_
      refine DrG.st (i := 1) [] rfl rfl rfl (by kernel_rfl) (OKG.o rfl (OK1.load (Has.t rfl) (i := 5) rfl ty29 rfl (Ss' := [_]) rfl)) ?_
      refine DrG.st (i := 2) [] rfl rfl rfl (by kernel_rfl) (OKG.o rfl (OK1.load (Has.t rfl) (i := 4) rfl ty24 rfl (Ss' := [_, _, _]) rfl)) ?_
      refine DrG.st (i := 3) [] rfl rfl rfl (by kernel_rfl) (OKG.o rfl (OK1.mv (Has.t rfl))) ?_
      refine DrG.st (i := 4) [] rfl rfl rfl (by kernel_rfl) (OKG.o rfl (OK1.mv (Has.t rfl))) ?_
      refine DrG.st (i := 5) [29, 30, 31] rfl rfl rfl (by kernel_rfl) (OKG.o rfl (OK1.call (fmat_get (i := i) (k := k) (by omega) (by omega)) (.cons (Has.t rfl) (.cons (Has.t rfl) (.cons (Has.t rfl) .nil))))) ?_
      refine DrG.st (i := 6) [28, 32] rfl rfl rfl (by kernel_rfl) (OKG.o rfl (OK1.call (gfp_Norm) (.cons (Has.t rfl) (.cons (Has.t rfl) .nil)))) ?_
      refine DrG.st (i := 7) [33] rfl rfl rfl (by kernel_rfl) (OKG.o rfl (OK1.buildS [isU 0] sl22 ty27 zero27 (fun _ _ => ⟨⟨rfl, by decide⟩, trivial⟩) rfl rfl (.cons (Has.t rfl) rfl rfl rfl .nil) rfl (S := SlM isU [xs.getD (i * C + k) 0 % fp q]) rfl)) ?_
      refine DrG.fin (n := 8) mixed (by kernel_rfl) (by kernel_rfl) (by kernel_rfl) ?_
      refine Ops.cv (Cv.wk (.cons (t := 3) (Has.t rfl) (.cons (t := 4) (Has.t rfl) (.cons (t := 5) (Has.t rfl) (.cons (t := 6) (Has.t rfl) (.cons (t := 7) (Has.t rfl) (.cons (t := 18) (Has.t rfl) (.cons (t := 19) (Has.t rfl) (.cons (t := 20) (Has.t rfl) (.cons (t := 21) (Has.t rfl) (.cons (t := 8) (Has.t rfl) (.cons (t := 22) (Has.t rfl) (.cons (t := 23) (Has.t rfl) (.cons (t := 24) (Has.t rfl) (.cons (t := 9) (Has.t rfl) (.cons (t := 25) (Has.t rfl) (.cons (t := 26) (Has.t rfl) (.cons (t := 10) (Has.t rfl) (.cons (t := 27) (Has.t rfl) (.cons (t := 28) (Has.t rfl) (.cons (t := 29) (Has.t rfl) (.cons (t := 30) (Has.t rfl) (.cons (t := 31) (Has.t rfl) (.cons (t := 32) (Has.t rfl) (.cons (t := 33) (Has.t rfl) (.cons (t := 34) (Has.t rfl) .nil)))))))))))))))))))))))))) ?_
      refine Ops.appendG (f := isU) (u := 0) sl22 ty27 zero27 (fun _ _ => ⟨⟨rfl, by decide⟩, trivial⟩) (fun _ => inferInstance) by27 (Has.t rfl) (i := 0) rfl (Has.t rfl) (by rw [List.length_map, List.length_range]; show k + 1 ≤ _; omega) (by simp) rfl fun gr1 => ?_
      refine Ops.memEq (M' := (grM _ _ _ :: _ :: _ :: _ :: _ :: _ :: _)) rfl ?_
      refine st (OK1.as (Has.t rfl)) rfl ?_
      refine nl ?_
      refine At.bln ?_
      refine At.thn (hK16 _ _ ?_); clear hK16
      refine Tri.region ?_
      refine st (OK1.addI (Has.t rfl) (Has.cI 1 rfl) (by first | omega | assumption) (by first | omega | assumption)) rfl ?_
      refine st (OK1.mv (Has.t rfl)) rfl ?_
      refine nl ?_
      refine At.thn ?_
      have hpl := place_lt (show i < R by omega) (show k < C by omega)
      refine hK13 (⟨(k + 1, gr1), by show k + 1 ≤ C; omega⟩) _ _ ?_ (Cv.mem (.cons (t := 24) (Has.t' rfl ?_) (.cons (t := 9) (Has.t' rfl ?_) (.cons (t := 3) (Has.t rfl) (.cons (t := 4) (Has.t rfl) (.cons (t := 5) (Has.t rfl) (.cons (t := 6) (Has.t rfl) (.cons (t := 7) (Has.t rfl) (.cons (t := 18) (Has.t rfl) (.cons (t := 19) (Has.t rfl) (.cons (t := 20) (Has.t rfl) (.cons (t := 21) (Has.t rfl) (.cons (t := 8) (Has.t rfl) (.cons (t := 22) (Has.t rfl) (.cons (t := 23) (Has.t rfl) .nil)))))))))))))) ?_)
      · show C - (k + 1) < C - k; omega
      · exact isI_eq (by omega)
      · exact isGr_eq (by rw [List.range_succ, List.map_append, List.length_append]; rfl)
      · exact grM_eq (by rw [List.range_succ, List.map_append]; rfl)
    · have hc2 := BP.f hc2
      refine Tri.exit ?_
      refine At.the ?_
      refine At.the ?_
      refine At.blh ?_
      refine At.thn (hK11 _ _ ?_); clear hK11
      refine Tri.seq fun K18 hK18 => ?_
      refine Tri.seq fun K19 hK19 => ?_
      refine Tri.region ?_
      refine st (OK1.fieldAddr (Has.t rfl) fld24_1 ty3) rfl ?_
      refine st (OK1.load1 (Has.t rfl) (i := 3) rfl ty3 rfl) rfl ?_
      refine st (OK1.mv (Has.cI 0 rfl)) rfl ?_
      refine nl ?_
      refine At.thn (hK19 _ _ ?_); clear hK19
      refine Tri.block ?_
      refine Tri.loopF [3, 4, 5, 6, 7, 18, 19, 20, 21, 8, 22, 23, 24, 25, 37, 38] (fun (z : { z : Nat × Gr Nat // z.1 ≤ D }) => match z with | ⟨(k2, g2), hK2⟩ => [(39, isI (k2 : Int)), (9, isGr g2 (((List.range C).map fun k => xs.getD (i * C + k) 0 % fp q) ++ ((List.range k2).map fun k => ys.getD (i * D + k) 0 % fp q)).length)]) (fun M => fun (z : { z : Nat × Gr Nat // z.1 ≤ D }) => match z with | ⟨(k2, g2), hK2⟩ => (grM isU g2 (((List.range C).map fun k => xs.getD (i * C + k) 0 % fp q) ++ ((List.range k2).map fun k => ys.getD (i * D + k) 0 % fp q)) :: grM rowVU gt rs :: (some b4, cellM [isU q, isGr gt rs.length, nilS, isU (1 % fp q)]) :: (some b3, cellM [isI (R : Int), isI (D : Int), SlM isU ys]) :: (some b2, cellM [isI (R : Int), isI (C : Int), SlM isU xs]) :: (some b1, cellM [isU q]) :: rs.map rowMU)) (fun (z : { z : Nat × Gr Nat // z.1 ≤ D }) => match z with | ⟨(k2, g2), hK2⟩ => D - k2) (⟨(0, g), Nat.zero_le _⟩) (Cv.mem (.cons (t := 39) (Has.t' rfl ?_) (.cons (t := 9) (Has.t' rfl ?_) (.cons (t := 3) (Has.t rfl) (.cons (t := 4) (Has.t rfl) (.cons (t := 5) (Has.t rfl) (.cons (t := 6) (Has.t rfl) (.cons (t := 7) (Has.t rfl) (.cons (t := 18) (Has.t rfl) (.cons (t := 19) (Has.t rfl) (.cons (t := 20) (Has.t rfl) (.cons (t := 21) (Has.t rfl) (.cons (t := 8) (Has.t rfl) (.cons (t := 22) (Has.t rfl) (.cons (t := 23) (Has.t rfl) (.cons (t := 24) (Has.t rfl) (.cons (t := 25) (Has.t rfl) (.cons (t := 37) (Has.t rfl) (.cons (t := 38) (Has.t rfl) .nil)))))))))))))))))) ?_) ?_
      · rfl
      · exact isGr_eq (by rw [show k = C by omega, List.range_zero, List.map_nil, List.append_nil])
      · exact grM_eq (by rw [show k = C by omega, List.range_zero, List.map_nil, List.append_nil])
      rintro ⟨⟨k2, g2⟩, hK2⟩ K20 hK20
      refine Tri.cv (Cv.wk (.cons (t := 39) (Has.t rfl) (.cons (t := 9) (Has.t rfl) (.cons (t := 3) (Has.t rfl) (.cons (t := 4) (Has.t rfl) (.cons (t := 5) (Has.t rfl) (.cons (t := 6) (Has.t rfl) (.cons (t := 7) (Has.t rfl) (.cons (t := 18) (Has.t rfl) (.cons (t := 19) (Has.t rfl) (.cons (t := 20) (Has.t rfl) (.cons (t := 21) (Has.t rfl) (.cons (t := 8) (Has.t rfl) (.cons (t := 22) (Has.t rfl) (.cons (t := 23) (Has.t rfl) (.cons (t := 24) (Has.t rfl) (.cons (t := 25) (Has.t rfl) (.cons (t := 37) (Has.t rfl) (.cons (t := 38) (Has.t rfl) .nil))))))))))))))))))) ?_
      refine Tri.memEq (M' := (grM isU g2 (((List.range C).map fun k => xs.getD (i * C + k) 0 % fp q) ++ ((List.range k2).map fun k => ys.getD (i * D + k) 0 % fp q)) :: grM rowVU gt rs :: (some b4, cellM [isU q, isGr gt rs.length, nilS, isU (1 % fp q)]) :: (some b3, cellM [isI (R : Int), isI (D : Int), SlM isU ys]) :: (some b2, cellM [isI (R : Int), isI (C : Int), SlM isU xs]) :: (some b1, cellM [isU q]) :: rs.map rowMU)) rfl ?_
      simp only [] at hK2
      refine Tri.seq fun K21 hK21 => ?_
      refine Tri.region ?_
      refine st (OK1.ltI (Has.t rfl) (Has.t rfl)) rfl ?_
      refine nl ?_
      refine At.thn (hK21 _ _ ?_); clear hK21
      refine Tri.seq fun K22 hK22 => ?_
      refine Tri.cond (Has.t rfl) (fun hc3 => ?_) (fun hc3 => ?_)
      · have hc3 := BP.t hc3
        have hpl := place_lt (show i < R by omega) (show k2 < D by omega)
        refine Tri.skip ?_
        refine At.thn (hK22 _ _ ?_); clear hK22
        refine Tri.seq fun K23 hK23 => ?_
        refine Tri.block ?_
        refine Tri.seq fun K24 hK24 => ?_
        refine Tri.region ?_
        refine st (OK1.mv (Has.t rfl)) rfl ?_
        refine st (OK1.as (Has.t rfl)) rfl ?_
        refine nl ?_
        refine At.thn (hK24 _ _ ?_); clear hK24
        refine Tri.dr ?_
        refine DrG.st (i := 0) [] rfl rfl rfl (by kernel_rfl) (OKG.o rfl (OK1.mv (Has.t rfl))) ?_
        refine DrG.st (i := 1) [] rfl rfl rfl (by kernel_rfl) (OKG.o rfl (OK1.load (Has.t rfl) (i := 5) rfl ty29 rfl (Ss' := [_]) rfl)) ?_
        refine DrG.st (i := 2) [] rfl rfl rfl (by kernel_rfl) (OKG.o rfl (OK1.load (Has.t rfl) (i := 3) rfl ty24 rfl (Ss' := [_, _, _]) rfl)) ?_
        refine DrG.st (i := 3) [] rfl rfl rfl (by kernel_rfl) (OKG.o rfl (OK1.mv (Has.t rfl))) ?_
        refine DrG.st (i := 4) [] rfl rfl rfl (by kernel_rfl) (OKG.o rfl (OK1.mv (Has.t rfl))) ?_
        refine DrG.st (i := 5) [44, 45, 46] rfl rfl rfl (by kernel_rfl) (OKG.o rfl (OK1.call (fmat_get (i := i) (k := k2) (by omega) (by omega)) (.cons (Has.t rfl) (.cons (Has.t rfl) (.cons (Has.t rfl) .nil))))) ?_
        refine DrG.st (i := 6) [43, 47] rfl rfl rfl (by kernel_rfl) (OKG.o rfl (OK1.call (gfp_Norm) (.cons (Has.t rfl) (.cons (Has.t rfl) .nil)))) ?_
        refine DrG.st (i := 7) [48] rfl rfl rfl (by kernel_rfl) (OKG.o rfl (OK1.buildS [isU 0] sl22 ty27 zero27 (fun _ _ => ⟨⟨rfl, by decide⟩, trivial⟩) rfl rfl (.cons (Has.t rfl) rfl rfl rfl .nil) rfl (S := SlM isU [ys.getD (i * D + k2) 0 % fp q]) rfl)) ?_
        refine DrG.fin (n := 8) mixed (by kernel_rfl) (by kernel_rfl) (by kernel_rfl) ?_
        refine Ops.cv (Cv.wk (.cons (t := 3) (Has.t rfl) (.cons (t := 4) (Has.t rfl) (.cons (t := 5) (Has.t rfl) (.cons (t := 6) (Has.t rfl) (.cons (t := 7) (Has.t rfl) (.cons (t := 18) (Has.t rfl) (.cons (t := 19) (Has.t rfl) (.cons (t := 20) (Has.t rfl) (.cons (t := 21) (Has.t rfl) (.cons (t := 8) (Has.t rfl) (.cons (t := 22) (Has.t rfl) (.cons (t := 23) (Has.t rfl) (.cons (t := 24) (Has.t rfl) (.cons (t := 25) (Has.t rfl) (.cons (t := 37) (Has.t rfl) (.cons (t := 38) (Has.t rfl) (.cons (t := 39) (Has.t rfl) (.cons (t := 9) (Has.t rfl) (.cons (t := 40) (Has.t rfl) (.cons (t := 41) (Has.t rfl) (.cons (t := 11) (Has.t rfl) (.cons (t := 42) (Has.t rfl) (.cons (t := 43) (Has.t rfl) (.cons (t := 44) (Has.t rfl) (.cons (t := 45) (Has.t rfl) (.cons (t := 46) (Has.t rfl) (.cons (t := 47) (Has.t rfl) (.cons (t := 48) (Has.t rfl) (.cons (t := 49) (Has.t rfl) .nil)))))))))))))))))))))))))))))) ?_
        refine Ops.appendG (f := isU) (u := 0) sl22 ty27 zero27 (fun _ _ => ⟨⟨rfl, by decide⟩, trivial⟩) (fun _ => inferInstance) by27 (Has.t rfl) (i := 0) rfl (Has.t rfl) (by rw [List.length_append, List.length_map, List.length_map, List.length_range, List.length_range]; show C + k2 + 1 ≤ _; omega) (by simp) rfl fun gr1 => ?_
        refine Ops.memEq (M' := (grM _ _ _ :: _ :: _ :: _ :: _ :: _ :: _)) rfl ?_
        refine st (OK1.as (Has.t rfl)) rfl ?_
        refine nl ?_
        refine At.bln ?_
        refine At.thn (hK23 _ _ ?_); clear hK23
        refine Tri.region ?_
        refine st (OK1.addI (Has.t rfl) (Has.cI 1 rfl) (by first | omega | assumption) (by first | omega | assumption)) rfl ?_
        refine st (OK1.mv (Has.t rfl)) rfl ?_
        refine nl ?_
        refine At.thn ?_
        refine hK20 (⟨(k2 + 1, gr1), by show k2 + 1 ≤ D; omega⟩) _ _ ?_ (Cv.mem (.cons (t := 39) (Has.t' rfl ?_) (.cons (t := 9) (Has.t' rfl ?_) (.cons (t := 3) (Has.t rfl) (.cons (t := 4) (Has.t rfl) (.cons (t := 5) (Has.t rfl) (.cons (t := 6) (Has.t rfl) (.cons (t := 7) (Has.t rfl) (.cons (t := 18) (Has.t rfl) (.cons (t := 19) (Has.t rfl) (.cons (t := 20) (Has.t rfl) (.cons (t := 21) (Has.t rfl) (.cons (t := 8) (Has.t rfl) (.cons (t := 22) (Has.t rfl) (.cons (t := 23) (Has.t rfl) (.cons (t := 24) (Has.t rfl) (.cons (t := 25) (Has.t rfl) (.cons (t := 37) (Has.t rfl) (.cons (t := 38) (Has.t rfl) .nil)))))))))))))))))) ?_)
        · show D - (k2 + 1) < D - k2; omega
        · exact isI_eq (by omega)
        · exact isGr_eq (by simp only [List.length_append, List.length_map, List.length_range, List.length_singleton]; omega)
        · exact grM_eq (by rw [List.range_succ, List.map_append, ← List.append_assoc]; rfl)
      · have hc3 := BP.f hc3
        refine Tri.exit ?_
        refine At.the ?_
        refine At.the ?_
        refine At.blh ?_
        refine At.thn (hK18 _ _ ?_); clear hK18
        refine Tri.region ?_
        refine st (OK1.mv (Has.t rfl)) rfl ?_
        refine st (OK1.mv (Has.t rfl)) rfl ?_
        refine st (OK1.nilc (Has.t rfl)) rfl ?_
        refine st (OK1.fieldAddr (Has.t rfl) fld94_1 ty92) rfl ?_
        refine st (OK1.load1 (Has.t rfl) (i := 2) rfl ty92 rfl) rfl ?_
        refine st (OK1.mv (Has.t rfl)) rfl ?_
        refine st (OK1.buildS [SlM isU []] sl92 ty22 zero22 (fun _ _ => ⟨nilM _ _, trivial⟩) rfl rfl (.cons (Has.t rfl) rfl rfl rfl .nil) rfl (S := SlM rowVU [(g2, ((List.range C).map fun k => xs.getD (i * C + k) 0 % fp q) ++ ((List.range k2).map fun k => ys.getD (i * D + k) 0 % fp q))]) rfl) rfl ?_
        refine Ops.appendG (f := rowVU) (u := (Gr.nil, [])) sl92 ty22 zero22 (fun _ _ => ⟨gr0, trivial⟩) (fun _ => inferInstance) by22 (Has.t rfl) (i := 1) rfl (Has.t rfl) (by rw [hrl]; show i + 1 ≤ _; omega) (by simp) rfl fun gr1 => ?_
        refine Ops.memEq (M' := (_ :: grM _ _ _ :: _ :: _ :: _ :: _ :: _)) rfl ?_
        refine st (OK1.nilc (Has.t rfl)) rfl ?_
        refine st (OK1.fieldAddr (Has.t rfl) fld94_1 ty92) rfl ?_
        refine Ops.store (Has.t rfl) (Has.t rfl) (i := 2) rfl ty92 rfl rfl (Ss' := [_, _, _, _]) rfl (M' := (_ :: _ :: (some _, cellM [_, _, _, _]) :: _ :: _ :: _ :: _)) rfl ?_
        refine nl ?_
        refine At.bln ?_
        refine At.thn (hK8 _ _ ?_); clear hK8
        refine Tri.region ?_
        refine st (OK1.addI (Has.t rfl) (Has.cI 1 rfl) (by first | omega | assumption) (by first | omega | assumption)) rfl ?_
        refine st (OK1.mv (Has.t rfl)) rfl ?_
        refine nl ?_
        refine At.thn ?_
        have hkD : D = k2 := by omega
        subst hkD
        refine hK5 (⟨(i + 1, gr1, rs ++ [(g2, ((List.range C).map fun k => xs.getD (i * C + k) 0 % fp q) ++ ((List.range D).map fun k => ys.getD (i * D + k) 0 % fp q))]), by show i + 1 ≤ R; omega, by show (rs ++ [(g2, ((List.range C).map fun k => xs.getD (i * C + k) 0 % fp q) ++ ((List.range D).map fun k => ys.getD (i * D + k) 0 % fp q))]).map Prod.snd = _; rw [List.map_append, hrs, rowsU_succ]; rfl⟩) _ _ ?_ (Cv.trans (Cv.perm perm_end5) (Cv.mem (.cons (t := 19) (Has.t' rfl ?_) (.cons (t := 3) (Has.t rfl) (.cons (t := 4) (Has.t rfl) (.cons (t := 5) (Has.t rfl) (.cons (t := 6) (Has.t rfl) (.cons (t := 7) (Has.t rfl) (.cons (t := 18) (Has.t rfl) .nil))))))) ?_))
        · show R - (i + 1) < R - i; omega
        · exact isI_eq (by omega)
        · show _ = grM rowVU gr1 (rs ++ [_]) :: (some b4, cellM [_, isGr gr1 (rs ++ [_]).length, _, _]) :: _ :: _ :: _ :: (rs ++ [_]).map rowMU; rw [List.map_append, List.length_append]; rfl
  · have hc1 := BP.f hc1
    refine Tri.exit ?_
    refine At.the ?_
    refine At.the ?_
    refine At.blh ?_
    refine At.thn (hK3 _ _ ?_); clear hK3
    refine Tri.cv (Cv.wk (.cons (t := 6) (Has.t rfl) (.cons (t := 7) (Has.t rfl) .nil))) ?_
    refine Tri.seq fun K25 hK25 => ?_
    refine Tri.cv (Cv.growF (Int) (i := 1) (o := 2) rfl rfl rfl) ?_
    refine Tri.memEq (M' := (grM isI Gr.nil [] :: _ :: _ :: _ :: _ :: _ :: _)) rfl ?_
    refine Tri.cv (Cv.drop ((.cons_cons _ (.cons_cons _ (.cons_cons _ (.cons _ (.cons _ (.cons _ (List.Sublist.refl _))))))))) ?_
    refine Tri.cv (Cv.wk (.cons (t := 6) (Has.t rfl) (.cons (t := 7) (Has.t rfl) .nil))) ?_
    refine Tri.cv (Cv.perm perm_rot) ?_
    refine Tri.region ?_
    refine st (OK1.mv (Has.t rfl)) rfl ?_
    refine st (OK1.as (Has.t rfl)) rfl ?_
    refine nl ?_
    refine At.thn (hK25 _ _ ?_); clear hK25
    refine Tri.ret ?_
    refine rtX1 (.inl rfl) Try.results117 rfl (.tmp (Has.t rfl) .nil) ?_
    exact ⟨b4, gt, rs, rfl, rfl, by obtain rfl : i = R := (by omega); exact hrs⟩
set_option maxHeartbeats 4000000 in
theorem fmat_take {q bw : Nat} {gp : Gr Int} {gt : Gr RowU} {rs : List RowU} {ps : List Nat} {det : Nat} (hq : q < 4294967296) {i t c : Nat} {r b : RowU} (hi : rs[i]? = some r) (ht : rs[t]? = some b) (hne : i ≠ t) (hl : b.2.length = r.2.length) (hrl : r.2.length ≤ 128) : CtrX Try.prog 146 [isPtr bw 0, isGr r.1 r.2.length, isGr b.1 b.2.length, isU c] (wkMU q bw gp gt rs ps det) (fun S M => S = isTup [] ∧ M = wkMU q bw gp gt (rs.set i (r.1, takeL (fp q) c b.2 r.2)) ps det) := by
  refine CtrX.intro Try.func146 rfl (by kernel_rfl) Try.ntmps146 rfl fun w0 F0 => ?_
  refine Tri.cv (Cv.wk (.cons (t := 0) (Has.t rfl) (.cons (t := 1) (Has.t rfl) (.cons (t := 2) (Has.t rfl) (.cons (t := 3) (Has.t rfl) .nil))))) ?_
  refine Tri.fact (Has.ltU (Has.t (t := 3) rfl)) fun lt3 => ?_
  have hil : i < rs.length := Go.Dt.lt_some hi
  refine Tri.seq fun K1 hK1 => ?_
  refine Tri.region ?_
  refine st (OK1.mv (Has.t rfl)) rfl ?_
  refine st (OK1.len sl22 (Has.t rfl)) rfl ?_
  refine st (OK1.mv (Has.cI 0 rfl)) rfl ?_
  refine nl ?_
  refine At.thn (hK1 _ _ ?_); clear hK1
  refine Tri.block ?_
  refine Tri.loopF [0, 1, 2, 3, 10] (fun (z : { k : Nat // k ≤ r.2.length }) => match z with | ⟨k, hk⟩ => [(11, isI (k : Int))]) (fun M => fun (z : { k : Nat // k ≤ r.2.length }) => match z with | ⟨k, hk⟩ => (wk0U q bw gp gt rs.length ps det :: grM isI gp (pv ps) :: grM rowVU gt rs :: (rs.set i (r.1, mixL (takeL (fp q) c b.2 r.2) r.2 k)).map rowMU)) (fun (z : { k : Nat // k ≤ r.2.length }) => match z with | ⟨k, hk⟩ => r.2.length - k) (⟨0, Nat.zero_le _⟩) (Cv.mem (.cons (t := 11) (Has.t' rfl ?_) (.cons (t := 0) (Has.t rfl) (.cons (t := 1) (Has.t rfl) (.cons (t := 2) (Has.t rfl) (.cons (t := 3) (Has.t rfl) (.cons (t := 10) (Has.t rfl) .nil)))))) ?_) ?_
  · rfl
  · exact mixU_start (pre := [_, _, _]) hi
  rintro ⟨k, hk⟩ K2 hK2
  refine Tri.cv (Cv.wk (.cons (t := 11) (Has.t rfl) (.cons (t := 0) (Has.t rfl) (.cons (t := 1) (Has.t rfl) (.cons (t := 2) (Has.t rfl) (.cons (t := 3) (Has.t rfl) (.cons (t := 10) (Has.t rfl) .nil))))))) ?_
  refine Tri.memEq (M' := (wk0U q bw gp gt rs.length ps det :: grM isI gp (pv ps) :: grM rowVU gt rs :: (rs.set i (r.1, mixL (takeL (fp q) c b.2 r.2) r.2 k)).map rowMU)) rfl ?_
  have hset : (rs.set i (r.1, mixL (takeL (fp q) c b.2 r.2) r.2 k))[i]? = some (r.1, mixL (takeL (fp q) c b.2 r.2) r.2 k) := List.getElem?_set_self hil
  have hset0 : (rs.set i (r.1, mixL (takeL (fp q) c b.2 r.2) r.2 k))[t]? = some b := (List.getElem?_set_ne hne).trans ht
  refine Tri.seq fun K3 hK3 => ?_
  refine Tri.region ?_
  refine st (OK1.ltI (Has.t rfl) (Has.t rfl)) rfl ?_
  refine nl ?_
  refine At.thn (hK3 _ _ ?_); clear hK3
  refine Tri.seq fun K4 hK4 => ?_
  refine Tri.cond (Has.t rfl) (fun hc1 => ?_) (fun hc1 => ?_)
  · have hc1 := BP.t hc1
    refine Tri.skip ?_
    refine At.thn (hK4 _ _ ?_); clear hK4
    refine Tri.seq fun K5 hK5 => ?_
    refine Tri.block ?_
    refine Tri.seq fun K6 hK6 => ?_
    refine Tri.region ?_
    refine st (OK1.mv (Has.t rfl)) rfl ?_
    refine st (OK1.as (Has.t rfl)) rfl ?_
    refine nl ?_
    refine At.thn (hK6 _ _ ?_); clear hK6
    refine Tri.dr ?_
    refine DrG.st (i := 0) [] rfl rfl rfl (by kernel_rfl) (OKG.o rfl (OK1.mv (Has.t rfl))) ?_
    refine DrG.st (i := 1) [] rfl rfl rfl (by kernel_rfl) (OKG.o rfl (OK1.mv (Has.t rfl))) ?_
    refine DrG.st (i := 2) [] rfl rfl rfl (by kernel_rfl) (OKG.o rfl (OK1.mv (Has.t rfl))) ?_
    refine DrG.st (i := 3) [16] rfl rfl rfl (by kernel_rfl) (OKG.o rfl (OK1.nilc (Has.t rfl))) ?_
    refine DrG.st (i := 4) [17] rfl rfl rfl (by kernel_rfl) (OKG.o rfl (OK1.fieldAddr (Has.t rfl) fld94_0 ty29)) ?_
    refine DrG.st (i := 5) [18] rfl rfl rfl (by kernel_rfl) (OKG.o rfl (OK1.load (Has.t rfl) (i := 0) rfl ty29 rfl (Ss' := [_]) rfl)) ?_
    refine DrG.st (i := 6) [] rfl rfl rfl (by kernel_rfl) (OKG.o rfl (OK1.mv (Has.t rfl))) ?_
    refine DrG.st (i := 7) [] rfl rfl rfl (by kernel_rfl) (OKG.o rfl (OK1.mv (Has.t rfl))) ?_
    refine DrG.st (i := 8) [20, 21] rfl rfl rfl (by kernel_rfl) (OKG.o rfl (OK1.ixGr sl22 ty27 (Has.t rfl) (Has.t rfl) ⟨by omega, by omega⟩)) ?_
    refine DrG.st (i := 9) [22] rfl rfl rfl (by kernel_rfl) (OKG.o rfl (OK1.loadGM (Has.t rfl) (i := 3 + i) (wkAtU (pre := [_, _, _]) (r := (r.1, mixL (takeL (fp q) c b.2 r.2) r.2 k)) hset) ty27 (show (mixL (takeL (fp q) c b.2 r.2) r.2 k)[k]? = some (r.2.getD k 0) from mixL_at (takeL_len _ _ _ _) (by omega)))) ?_
    refine DrG.st (i := 10) [] rfl rfl rfl (by kernel_rfl) (OKG.o rfl (OK1.mv (Has.t rfl))) ?_
    refine DrG.st (i := 11) [24] rfl rfl rfl (by kernel_rfl) (OKG.o rfl (OK1.nilc (Has.t rfl))) ?_
    refine DrG.st (i := 12) [25] rfl rfl rfl (by kernel_rfl) (OKG.o rfl (OK1.fieldAddr (Has.t rfl) fld94_0 ty29)) ?_
    refine DrG.st (i := 13) [26] rfl rfl rfl (by kernel_rfl) (OKG.o rfl (OK1.load (Has.t rfl) (i := 0) rfl ty29 rfl (Ss' := [_]) rfl)) ?_
    refine DrG.st (i := 14) [] rfl rfl rfl (by kernel_rfl) (OKG.o rfl (OK1.mv (Has.t rfl))) ?_
    refine DrG.st (i := 15) [] rfl rfl rfl (by kernel_rfl) (OKG.o rfl (OK1.mv (Has.t rfl))) ?_
    refine DrG.st (i := 16) [] rfl rfl rfl (by kernel_rfl) (OKG.o rfl (OK1.mv (Has.t rfl))) ?_
    refine DrG.st (i := 17) [29, 30] rfl rfl rfl (by kernel_rfl) (OKG.o rfl (OK1.ixGr sl22 ty27 (Has.t rfl) (Has.t rfl) ⟨by omega, by omega⟩)) ?_
    refine DrG.st (i := 18) [31] rfl rfl rfl (by kernel_rfl) (OKG.o rfl (OK1.loadGM (Has.t rfl) (i := 3 + t) (wkAtU (pre := [_, _, _]) hset0) ty27 (show b.2[k]? = some (b.2.getD k 0) from getD_some (by omega)))) ?_
    refine DrG.st (i := 19) [27, 28, 32] rfl rfl rfl (by kernel_rfl) (OKG.o rfl (OK1.call (gfp_Mul hq) (.cons (Has.t rfl) (.cons (Has.t rfl) (.cons (Has.t rfl) .nil))))) ?_
    refine DrG.st (i := 20) [19, 23, 33] rfl rfl rfl (by kernel_rfl) (OKG.o rfl (OK1.eq (OK1.call (gfp_Sub hq) (.cons (Has.t rfl) (.cons (Has.t rfl) (.cons (Has.t rfl) .nil)))) ((show isU _ = isU (takeE (fp q) c b.2 r.2 k) from isU_eq rfl)))) ?_
    refine DrG.fin (n := 21) mixed (by kernel_rfl) (by kernel_rfl) (by kernel_rfl) ?_
    refine Ops.cv (Cv.wk (.cons (t := 0) (Has.t rfl) (.cons (t := 1) (Has.t rfl) (.cons (t := 2) (Has.t rfl) (.cons (t := 3) (Has.t rfl) (.cons (t := 10) (Has.t rfl) (.cons (t := 11) (Has.t rfl) (.cons (t := 12) (Has.t rfl) (.cons (t := 13) (Has.t rfl) (.cons (t := 8) (Has.t rfl) (.cons (t := 14) (Has.t rfl) (.cons (t := 15) (Has.t rfl) (.cons (t := 16) (Has.t rfl) (.cons (t := 17) (Has.t rfl) (.cons (t := 18) (Has.t rfl) (.cons (t := 19) (Has.t rfl) (.cons (t := 20) (Has.t rfl) (.cons (t := 21) (Has.t rfl) (.cons (t := 22) (Has.t rfl) (.cons (t := 23) (Has.t rfl) (.cons (t := 24) (Has.t rfl) (.cons (t := 25) (Has.t rfl) (.cons (t := 26) (Has.t rfl) (.cons (t := 27) (Has.t rfl) (.cons (t := 28) (Has.t rfl) (.cons (t := 29) (Has.t rfl) (.cons (t := 30) (Has.t rfl) (.cons (t := 31) (Has.t rfl) (.cons (t := 32) (Has.t rfl) (.cons (t := 33) (Has.t rfl) (.cons (t := 34) (Has.t rfl) .nil))))))))))))))))))))))))))))))) ?_
    refine st (OK1.ixGr sl22 ty27 (Has.t rfl) (Has.t rfl) ⟨by omega, by omega⟩) rfl ?_
    refine Ops.storeGM (z := takeE (fp q) c b.2 r.2 k) (Has.t rfl) (Has.t rfl) (i := 3 + i) (wkAtU (pre := [_, _, _]) (r := (r.1, mixL (takeL (fp q) c b.2 r.2) r.2 k)) hset) ty27 (by rw [mixL_len (takeL_len _ _ _ _) (by omega)]; omega) (M' := (_ :: _ :: _ :: (rs.set i (r.1, mixL (takeL (fp q) c b.2 r.2) r.2 (k + 1))).map rowMU)) (wkStoreU (pre := [_, _, _]) (X := (r.1, mixL (takeL (fp q) c b.2 r.2) r.2 k)) hset (mixL_set (takeL_len _ _ _ _) (by omega) (takeL_at _ _ _ (by omega)))) ?_
    refine nl ?_
    refine At.bln ?_
    refine At.thn (hK5 _ _ ?_); clear hK5
    refine Tri.region ?_
    refine st (OK1.addI (Has.t rfl) (Has.cI 1 rfl) (by first | omega | assumption) (by first | omega | assumption)) rfl ?_
    refine st (OK1.mv (Has.t rfl)) rfl ?_
    refine nl ?_
    refine At.thn ?_
    refine hK2 (⟨k + 1, by omega⟩) _ _ ?_ (Cv.mem (.cons (t := 11) (Has.t' rfl ?_) (.cons (t := 0) (Has.t rfl) (.cons (t := 1) (Has.t rfl) (.cons (t := 2) (Has.t rfl) (.cons (t := 3) (Has.t rfl) (.cons (t := 10) (Has.t rfl) .nil)))))) ?_)
    · show r.2.length - (k + 1) < r.2.length - k; omega
    · exact isI_eq (by omega)
    · rfl
  · have hc1 := BP.f hc1
    refine Tri.exit ?_
    refine At.the ?_
    refine At.the ?_
    refine At.blh ?_
    refine rtX0 (.inr rfl) Try.results146 rfl ?_
    exact ⟨rfl, wkU_take hi (takeL_len _ _ _ _) (by omega)⟩
set_option maxHeartbeats 4000000 in
theorem sl_IndexFuncR {W : Nat} {xs : List (List Nat)} {t : List Nat → Bool} (hx : ∀ r ∈ xs, r.length = W) : Ctr Try.prog 143 [SlM isWs xs, isFun (ι := { r : List Nat // r.length = W }) Try.prog (fun p => [isWs p.1]) (fun p => isB (t p.1))] (isI (ixf t xs)) := by
  refine Ctr.intro Try.func143 rfl (by kernel_rfl) Try.ntmps143 rfl fun w0 F0 => ?_
  refine Tri.cv (Cv.wk (.cons (t := 0) (Has.t rfl) (.cons (t := 1) (Has.t rfl) .nil))) ?_
  refine Tri.fact (Has.lenLt (Has.t (t := 0) rfl)) fun lt0 => ?_
  refine Tri.seq fun K1 hK1 => ?_
  refine Tri.region ?_
  refine st (OK1.as (Has.cI 0 rfl)) rfl ?_
  refine nl ?_
  refine At.thn (hK1 _ _ ?_); clear hK1
  refine Tri.seq fun K2 hK2 => ?_
  refine Tri.seq fun K3 hK3 => ?_
  refine Tri.region ?_
  refine st (OK1.mv (Has.t rfl)) rfl ?_
  refine st (OK1.len sl92 (Has.t rfl)) rfl ?_
  refine st (OK1.mv (Has.cI 0 rfl)) rfl ?_
  refine nl ?_
  refine At.thn (hK3 _ _ ?_); clear hK3
  refine Tri.block ?_
  refine Tri.loopF [0, 1, 7] (fun (z : { i : Nat // i ≤ xs.length ∧ ∀ j, j < i → t (xs.getD j []) = false }) => match z with | ⟨i, hI⟩ => [(8, isI (i : Int))]) (fun M => fun (z : { i : Nat // i ≤ xs.length ∧ ∀ j, j < i → t (xs.getD j []) = false }) => match z with | ⟨i, hI⟩ => M) (fun (z : { i : Nat // i ≤ xs.length ∧ ∀ j, j < i → t (xs.getD j []) = false }) => match z with | ⟨i, hI⟩ => xs.length - i) (⟨0, Nat.zero_le _, fun j hj => absurd hj (Nat.not_lt_zero _)⟩) (Cv.mem (.cons (t := 8) (Has.t' rfl ?_) (.cons (t := 0) (Has.t rfl) (.cons (t := 1) (Has.t rfl) (.cons (t := 7) (Has.t rfl) .nil)))) ?_) ?_
  · rfl
  · rfl
  rintro ⟨i, hi, hq⟩ K4 hK4
  refine Tri.cv (Cv.wk (.cons (t := 8) (Has.t rfl) (.cons (t := 0) (Has.t rfl) (.cons (t := 1) (Has.t rfl) (.cons (t := 7) (Has.t rfl) .nil))))) ?_
  refine Tri.seq fun K5 hK5 => ?_
  refine Tri.region ?_
  refine st (OK1.ltI (Has.t rfl) (Has.t rfl)) rfl ?_
  refine nl ?_
  refine At.thn (hK5 _ _ ?_); clear hK5
  refine Tri.seq fun K6 hK6 => ?_
  refine Tri.cond (Has.t rfl) (fun hc1 => ?_) (fun hc1 => ?_)
  · have hc1 := BP.t hc1
    refine Tri.skip ?_
    refine At.thn (hK6 _ _ ?_); clear hK6
    refine Tri.seq fun K7 hK7 => ?_
    refine Tri.block ?_
    refine Tri.seq fun K8 hK8 => ?_
    refine Tri.region ?_
    refine st (OK1.mv (Has.t rfl)) rfl ?_
    refine st (OK1.as (Has.t rfl)) rfl ?_
    refine nl ?_
    refine At.thn (hK8 _ _ ?_); clear hK8
    refine Tri.seq fun K9 hK9 => ?_
    refine Tri.region ?_
    refine st (OK1.mv (Has.t rfl)) rfl ?_
    refine st (OK1.mv (Has.t rfl)) rfl ?_
    refine st (OK1.mv (Has.t rfl)) rfl ?_
    refine st (OK1.ixP sl92 ty22 (Has.t rfl) (Has.t rfl) ⟨by omega, by omega⟩ (getD_some (d := []) (by first | omega | (simp only [Int.toNat_natCast, List.length_set]; omega)))) rfl ?_
    refine st (OK1.loadP1 (Has.t rfl) ty22) rfl ?_
    refine st (OK1.callV ⟨xs.getD i [], hx _ (by rw [List.getD, List.getElem?_eq_getElem (by omega)]; exact List.getElem_mem _)⟩ (Has.t rfl) (.cons (Has.t rfl) .nil)) rfl ?_
    refine nl ?_
    refine At.thn (hK9 _ _ ?_); clear hK9
    refine Tri.cond (Has.t rfl) (fun hc2 => ?_) (fun hc2 => ?_)
    · have hc2 := BP.t hc2
      have HQ := hc2
      refine Tri.seq fun K10 hK10 => ?_
      refine Tri.region ?_
      refine st (OK1.mv (Has.t rfl)) rfl ?_
      refine st (OK1.as (Has.t rfl)) rfl ?_
      refine nl ?_
      refine At.thn (hK10 _ _ ?_); clear hK10
      refine Tri.ret ?_
      refine At.blr ?_
      refine At.thr ?_
      refine At.thr ?_
      refine At.blr ?_
      refine At.thr ?_
      refine rt1 (.inl rfl) Try.results143 rfl (.tmp (Has.t' rfl ?_) .nil)
      all_goals (exact isI_eq (ixf_at (d := []) (by omega) hq (by simpa using HQ)))
    · have hc2 := BP.f hc2
      have HQ := hc2
      refine Tri.skip ?_
      refine At.bln ?_
      refine At.thn (hK7 _ _ ?_); clear hK7
      refine Tri.region ?_
      refine st (OK1.addI (Has.t rfl) (Has.cI 1 rfl) (by first | omega | assumption) (by first | omega | assumption)) rfl ?_
      refine st (OK1.mv (Has.t rfl)) rfl ?_
      refine nl ?_
      refine At.thn ?_
      refine hK4 (⟨i + 1, by omega, fun j hj => by rcases Nat.lt_or_ge j i with h | h; exact hq j h; obtain rfl : j = i := (by omega); simpa using HQ⟩) _ _ ?_ (Cv.mem (.cons (t := 8) (Has.t' rfl ?_) (.cons (t := 0) (Has.t rfl) (.cons (t := 1) (Has.t rfl) (.cons (t := 7) (Has.t rfl) .nil)))) ?_)
      · show xs.length - (i + 1) < xs.length - i; omega
      · exact isI_eq (by omega)
      · rfl
  · have hc1 := BP.f hc1
    refine Tri.exit ?_
    refine At.the ?_
    refine At.the ?_
    refine At.blh ?_
    refine At.thn (hK2 _ _ ?_); clear hK2
    refine Tri.cv (Cv.wk .nil) ?_
    refine Tri.seq fun K11 hK11 => ?_
    refine Tri.region ?_
    refine st (OK1.as (Has.cI (-1) rfl)) rfl ?_
    refine nl ?_
    refine At.thn (hK11 _ _ ?_); clear hK11
    refine Tri.ret ?_
    refine rt1 (.inl rfl) Try.results143 rfl (.tmp (Has.t' rfl ?_) .nil)
    all_goals (exact isI_eq (ixf_none (d := []) (i := i) (by omega) hq))
set_option maxHeartbeats 4000000 in
theorem fmat_column_1 {col W : Nat} {r : List Nat} (hl : r.length = W) (hc : col < W) : Ctr Try.prog 144 [isWs r, PtrL [isI (col : Int)]] (isB (nz0 col r)) := by
  refine Ctr.intro Try.func144 rfl (by kernel_rfl) Try.ntmps144 rfl fun w0 F0 => ?_
  refine Tri.cv (Cv.wk (.cons (t := 0) (Has.t rfl) (.cons (t := 1) (Has.t rfl) .nil))) ?_
  refine Tri.seq fun K1 hK1 => ?_
  refine Tri.region ?_
  refine st (OK1.as (Has.cB false)) rfl ?_
  refine nl ?_
  refine At.thn (hK1 _ _ ?_); clear hK1
  refine Tri.seq fun K2 hK2 => ?_
  refine Tri.region ?_
  refine st (OK1.mv (Has.t rfl)) rfl ?_
  refine st (OK1.loadP1 (Has.t rfl) ty3) rfl ?_
  refine st (OK1.ixP sl22 ty27 (Has.t rfl) (Has.t rfl) ⟨by omega, by omega⟩ (getD_some (d := 0) (by first | omega | (simp only [Int.toNat_natCast, List.length_set]; omega)))) rfl ?_
  refine st (OK1.loadP1 (Has.t rfl) ty27) rfl ?_
  refine st (OK1.neU (Has.t rfl) (Has.cU 0 rfl)) rfl ?_
  refine st (OK1.as (Has.t rfl)) rfl ?_
  refine nl ?_
  refine At.thn (hK2 _ _ ?_); clear hK2
  refine Tri.cv (Cv.wk (.cons (t := 3) (Has.t rfl) .nil)) ?_
  refine Tri.ret ?_
  refine rt1 (.inl rfl) Try.results144 rfl (.tmp (Has.t' rfl ?_) .nil)
  all_goals (exact isB_eq (by simp [nz0]))
end Go.Proofs.Ytfoclelageohiaa
/- Contracts: a column is reduced. -/
namespace Go.Proofs.Ytfoclelageohiaa
open Go.En Go.RowKit
set_option linter.unusedVariables false
set_option maxRecDepth 10000
open Go.Gf
open Go.Mz
open Go.Mu
open Go.Fe
set_option maxHeartbeats 4000000 in
theorem fmat_column {q bw : Nat} {gp : Gr Int} {gt : Gr RowU} {rs : List RowU} {ps : List Nat} {det : Nat} (hq : q < 4294967296) {col W : Nat} (hp2 : 2 ≤ fp q) (hrow : ∀ r ∈ rs, r.2.length = W) (hcol : col < W) (hW : W ≤ 128) (hR : rs.length ≤ 64) (hpl : ps.length ≤ rs.length) : CtrX Try.prog 118 [isPtr bw 0, isI (col : Int)] (wkMU q bw gp gt rs ps det) (fun S M => ∃ gp' rs', S = isTup [] ∧ M = wkMU q bw gp' gt rs' (fcol (fp q) ⟨rs.map Prod.snd, ps, det⟩ col).ps (fcol (fp q) ⟨rs.map Prod.snd, ps, det⟩ col).det ∧ rs'.map Prod.snd = (fcol (fp q) ⟨rs.map Prod.snd, ps, det⟩ col).rows) := by
  refine CtrX.intro Try.func118 rfl (by kernel_rfl) Try.ntmps118 rfl fun w0 F0 => ?_
  refine Tri.cv (Cv.wk (.cons (t := 0) (Has.t rfl) (.cons (t := 1) (Has.t rfl) .nil))) ?_
  refine Tri.fact (Has.rngI (Has.t (t := 1) rfl)) fun lt1 => ?_
  have hpv := pv_len ps
  obtain ⟨z0, hz0⟩ : ∃ z0 : Int, z0 = ixf (nz0 col) ((rs.map Prod.snd).drop ps.length) := ⟨_, rfl⟩
  have hxr : ∀ r ∈ (rs.map Prod.snd).drop ps.length, r.length = W := fun r hr => by obtain ⟨x, hx, rfl⟩ := List.mem_map.1 (List.mem_of_mem_drop hr); exact hrow x hx
  refine Tri.seq fun K1 hK1 => ?_
  refine Tri.region ?_
  refine Ops.box (Has.t rfl) rfl fun b1 => ?_
  refine nl ?_
  refine At.thn (hK1 _ _ ?_); clear hK1
  refine Tri.seq fun K2 hK2 => ?_
  refine Tri.region ?_
  refine st (OK1.mv (Has.t rfl)) rfl ?_
  refine st (OK1.nilc (Has.t rfl)) rfl ?_
  refine st (OK1.fieldAddr (Has.t rfl) fld94_2 ty32) rfl ?_
  refine st (OK1.load1 (Has.t rfl) (i := 1) rfl ty32 rfl) rfl ?_
  refine st (OK1.len sl32 (Has.t rfl)) rfl ?_
  refine st (OK1.eq (OK1.as (Has.t rfl)) ((show isI _ = isI (ps.length : Int) from isI_eq (by omega)))) rfl ?_
  refine nl ?_
  refine At.thn (hK2 _ _ ?_); clear hK2
  refine Tri.cv (Cv.wk (.cons (t := 0) (Has.t rfl) (.cons (t := 3) (Has.t rfl) (.cons (t := 4) (Has.t rfl) .nil)))) ?_
  refine Tri.seq fun K3 hK3 => ?_
  refine Tri.region ?_
  refine st (OK1.mv (Has.t rfl)) rfl ?_
  refine st (OK1.nilc (Has.t rfl)) rfl ?_
  refine st (OK1.fieldAddr (Has.t rfl) fld94_1 ty92) rfl ?_
  refine st (OK1.load1 (Has.t rfl) (i := 1) rfl ty92 rfl) rfl ?_
  refine st (OK1.mv (Has.t rfl)) rfl ?_
  refine st (OK1.slGrL sl92 ty22 (Has.t rfl) (Has.t rfl) ⟨by omega, by omega⟩) rfl ?_
  refine Ops.cv (Cv.freezeBoxX (t := 3) rfl rfl rfl) ?_
  refine Ops.cv (Cv.wk (.cons (t := 0) (Has.t rfl) (.cons (t := 3) (Has.t rfl) (.cons (t := 4) (Has.t rfl) (.cons (t := 16) (Has.t rfl) (.cons (t := 17) (Has.t rfl) (.cons (t := 18) (Has.t rfl) (.cons (t := 19) (Has.t rfl) (.cons (t := 20) (Has.t rfl) (.cons (t := 21) (Has.t rfl) .nil)))))))))) ?_
  refine st (OK1.makeFn (ι := { r : List Nat // r.length = W }) (As := fun p => [isWs p.1]) (R := fun p => isB (nz0 col p.1)) (fun p => fmat_column_1 p.2 hcol) .nil (.cons (Has.t rfl) .nil)) rfl ?_
  refine st (OK1.eq (OK1.callB (sl_IndexFuncR hxr) (.cons (HasB.rows (pre := [_, _]) (Has.t rfl) rfl rfl) (.cons (HasB.of (Has.t rfl)) .nil))) ((show isI _ = isI z0 from isI_eq hz0.symm))) rfl ?_
  refine st (OK1.as (Has.t rfl)) rfl ?_
  refine nl ?_
  refine At.thn (hK3 _ _ ?_); clear hK3
  refine Tri.cv (Cv.wk (.cons (t := 0) (Has.t rfl) (.cons (t := 3) (Has.t rfl) (.cons (t := 4) (Has.t rfl) (.cons (t := 5) (Has.t rfl) .nil))))) ?_
  refine Tri.seq fun K4 hK4 => ?_
  refine Tri.seq fun K5 hK5 => ?_
  refine Tri.region ?_
  refine st (OK1.mv (Has.t rfl)) rfl ?_
  refine st (OK1.ltI (Has.t rfl) (Has.cI 0 rfl)) rfl ?_
  refine nl ?_
  refine At.thn (hK5 _ _ ?_); clear hK5
  refine Tri.cond (Has.t rfl) (fun hc1 => ?_) (fun hc1 => ?_)
  · have hc1 := BP.t hc1
    have KC0 := hc1
    refine Tri.ret ?_
    refine At.thr ?_
    refine rtX0 (.inl rfl) Try.results118 rfl ?_
    exact ⟨gp, rs, rfl, by rw [fcol_no (s := ⟨rs.map Prod.snd, ps, det⟩) (ixf_no hz0 KC0)], by rw [fcol_no (s := ⟨rs.map Prod.snd, ps, det⟩) (ixf_no hz0 KC0)]⟩
  · have hc1 := BP.f hc1
    obtain ⟨n0, rfl, hn0, hn1⟩ := ixf_yes hz0 (by omega)
    rw [List.length_drop, List.length_map] at hn1
    obtain ⟨rt, hrt⟩ : ∃ rt, rs[ps.length]? = some rt := ⟨_, List.getElem?_eq_getElem (by omega)⟩
    obtain ⟨ri, hri⟩ : ∃ ri, rs[ps.length + n0]? = some ri := ⟨_, List.getElem?_eq_getElem (by omega)⟩
    refine Tri.skip ?_
    refine At.thn (hK4 _ _ ?_); clear hK4
    refine Tri.cutF [0, 3, 4] (fun (z : { z : List RowU × Nat // z.1.length = rs.length ∧ (∀ r ∈ z.1, r.2.length = W) ∧ z.1.map Prod.snd = swapL [] (rs.map Prod.snd) ps.length n0 ∧ z.2 = (if 0 < n0 then (fp q - det % fp q) % fp q else det) }) => match z with | ⟨(rs1, d1), hS⟩ => []) (fun M => fun (z : { z : List RowU × Nat // z.1.length = rs.length ∧ (∀ r ∈ z.1, r.2.length = W) ∧ z.1.map Prod.snd = swapL [] (rs.map Prod.snd) ps.length n0 ∧ z.2 = (if 0 < n0 then (fp q - det % fp q) % fp q else det) }) => match z with | ⟨(rs1, d1), hS⟩ => wkMU q bw gp gt rs1 ps d1) (fun K6 hK6 => ?_) ?_
    · skip
      refine Tri.seq fun K7 hK7 => ?_
      refine Tri.region ?_
      refine st (OK1.mv (Has.t rfl)) rfl ?_
      refine st (OK1.gtI (Has.t rfl) (Has.cI 0 rfl)) rfl ?_
      refine nl ?_
      refine At.thn (hK7 _ _ ?_); clear hK7
      refine Tri.cond (Has.t rfl) (fun hc2 => ?_) (fun hc2 => ?_)
      · have hc2 := BP.t hc2
        have hn2 : 0 < n0 := (by omega)
        refine Tri.seq fun K8 hK8 => ?_
        refine Tri.dry mixed ?_
        refine DrB.take (i := 0) rfl rfl rfl rfl (by kernel_rfl) (by kernel_rfl) (by kernel_rfl) (by kernel_rfl) (fun _ _ _ _ h => h) (OKY.mv (Has.t rfl)) ?_
        refine DrB.take (i := 1) rfl rfl rfl rfl (by kernel_rfl) (by kernel_rfl) (by kernel_rfl) (by kernel_rfl) (fun _ _ _ _ h => h) (OKY.nilc (Has.t rfl)) ?_
        refine DrB.take (i := 2) rfl rfl rfl rfl (by kernel_rfl) (by kernel_rfl) (by kernel_rfl) (by kernel_rfl) (fun _ _ _ _ h => h) (OKY.fieldAddr (Has.t rfl) fld94_1 ty92) ?_
        refine DrB.take (i := 4) rfl rfl rfl rfl (by kernel_rfl) (by kernel_rfl) (by kernel_rfl) (by kernel_rfl) (fun _ _ _ _ h => h) (OKY.mv (Has.t rfl)) ?_
        refine DrB.take (i := 5) rfl rfl rfl rfl (by kernel_rfl) (by kernel_rfl) (by kernel_rfl) (by kernel_rfl) (fun _ _ _ _ h => h) (OKY.mv (Has.t rfl)) ?_
        refine DrB.take (i := 6) rfl rfl rfl rfl (by kernel_rfl) (by kernel_rfl) (by kernel_rfl) (by kernel_rfl) (fun _ _ _ _ h => h) (OKY.nilc (Has.t rfl)) ?_
        refine DrB.take (i := 7) rfl rfl rfl rfl (by kernel_rfl) (by kernel_rfl) (by kernel_rfl) (by kernel_rfl) (fun _ _ _ _ h => h) (OKY.fieldAddr (Has.t rfl) fld94_1 ty92) ?_
        refine DrB.take (i := 9) rfl rfl rfl rfl (by kernel_rfl) (by kernel_rfl) (by kernel_rfl) (by kernel_rfl) (fun _ _ _ _ h => h) (OKY.mv (Has.t rfl)) ?_
        refine DrB.take (i := 10) rfl rfl rfl rfl (by kernel_rfl) (by kernel_rfl) (by kernel_rfl) (by kernel_rfl) (fun _ _ _ _ h => h) (OKY.mv (Has.t rfl)) ?_
        refine DrB.take (i := 11) rfl rfl rfl rfl (by kernel_rfl) (by kernel_rfl) (by kernel_rfl) (by kernel_rfl) (fun _ _ _ _ h => h) (OKY.eq (OKY.addI (Has.t rfl) (Has.t rfl) (by first | omega | assumption) (by first | omega | assumption)) ((show isI _ = isI ((ps.length + n0 : Nat) : Int) from isI_eq (by omega)))) ?_
        refine DrB.take (i := 12) rfl rfl rfl rfl (by kernel_rfl) (by kernel_rfl) (by kernel_rfl) (by kernel_rfl) (fun _ _ _ _ h => h) (OKY.mv (Has.t rfl)) ?_
        refine DrB.take (i := 13) rfl rfl rfl rfl (by kernel_rfl) (by kernel_rfl) (by kernel_rfl) (by kernel_rfl) (fun _ _ _ _ h => h) (OKY.nilc (Has.t rfl)) ?_
        refine DrB.take (i := 14) rfl rfl rfl rfl (by kernel_rfl) (by kernel_rfl) (by kernel_rfl) (by kernel_rfl) (fun _ _ _ _ h => h) (OKY.fieldAddr (Has.t rfl) fld94_1 ty92) ?_
        refine DrB.take (i := 16) rfl rfl rfl rfl (by kernel_rfl) (by kernel_rfl) (by kernel_rfl) (by kernel_rfl) (fun _ _ _ _ h => h) (OKY.mv (Has.t rfl)) ?_
        refine DrB.take (i := 17) rfl rfl rfl rfl (by kernel_rfl) (by kernel_rfl) (by kernel_rfl) (by kernel_rfl) (fun _ _ _ _ h => h) (OKY.mv (Has.t rfl)) ?_
        refine DrB.take (i := 18) rfl rfl rfl rfl (by kernel_rfl) (by kernel_rfl) (by kernel_rfl) (by kernel_rfl) (fun _ _ _ _ h => h) (OKY.eq (OKY.addI (Has.t rfl) (Has.t rfl) (by first | omega | assumption) (by first | omega | assumption)) ((show isI _ = isI ((ps.length + n0 : Nat) : Int) from isI_eq (by omega)))) ?_
        refine DrB.take (i := 21) rfl rfl rfl rfl (by kernel_rfl) (by kernel_rfl) (by kernel_rfl) (by kernel_rfl) (fun _ _ _ _ h => h) (OKY.mv (Has.t rfl)) ?_
        refine DrB.take (i := 22) rfl rfl rfl rfl (by kernel_rfl) (by kernel_rfl) (by kernel_rfl) (by kernel_rfl) (fun _ _ _ _ h => h) (OKY.nilc (Has.t rfl)) ?_
        refine DrB.take (i := 23) rfl rfl rfl rfl (by kernel_rfl) (by kernel_rfl) (by kernel_rfl) (by kernel_rfl) (fun _ _ _ _ h => h) (OKY.fieldAddr (Has.t rfl) fld94_1 ty92) ?_
        refine DrB.take (i := 25) rfl rfl rfl rfl (by kernel_rfl) (by kernel_rfl) (by kernel_rfl) (by kernel_rfl) (fun _ _ _ _ h => h) (OKY.mv (Has.t rfl)) ?_
        refine DrB.go [] ?_
        refine DrC.st (i := 3) [] rfl rfl rfl (by kernel_rfl) (by kernel_rfl) (OKG.o rfl (OK1.load1 (Has.t rfl) (i := 0) rfl ty92 rfl)) ?_
        refine DrC.st (i := 8) [] rfl rfl rfl (by kernel_rfl) (by kernel_rfl) (OKG.o rfl (OK1.load1 (Has.t rfl) (i := 0) rfl ty92 rfl)) ?_
        refine DrC.st (i := 15) [] rfl rfl rfl (by kernel_rfl) (by kernel_rfl) (OKG.o rfl (OK1.load1 (Has.t rfl) (i := 0) rfl ty92 rfl)) ?_
        refine DrC.st (i := 19) [43] rfl rfl rfl (by kernel_rfl) (by kernel_rfl) (OKG.o rfl (OK1.ixGr sl92 ty22 (Has.t rfl) (Has.t rfl) ⟨by omega, by omega⟩)) ?_
        refine DrC.st (i := 20) [47] rfl rfl rfl (by kernel_rfl) (by kernel_rfl) (OKG.o rfl (OK1.loadGM (Has.t rfl) (i := 2) rfl ty22 hri)) ?_
        refine DrC.st (i := 24) [] rfl rfl rfl (by kernel_rfl) (by kernel_rfl) (OKG.o rfl (OK1.load1 (Has.t rfl) (i := 0) rfl ty92 rfl)) ?_
        refine DrC.st (i := 26) [52] rfl rfl rfl (by kernel_rfl) (by kernel_rfl) (OKG.o rfl (OK1.ixGr sl92 ty22 (Has.t rfl) (Has.t rfl) ⟨by omega, by omega⟩)) ?_
        refine DrC.st (i := 27) [54] rfl rfl rfl (by kernel_rfl) (by kernel_rfl) (OKG.o rfl (OK1.loadGM (Has.t rfl) (i := 2) rfl ty22 hrt)) ?_
        refine DrC.fin [28, 29, 30, 31] (by kernel_rfl) (by kernel_rfl) (fun _ _ _ _ _ h => h) (by kernel_rfl) (by kernel_rfl) (by kernel_rfl) (by kernel_rfl) (by kernel_rfl) (by kernel_rfl) (by kernel_rfl) (by kernel_rfl) (by kernel_rfl) ?_
        refine Ops.cv (Cv.wk (.cons (t := 0) (Has.t rfl) (.cons (t := 3) (Has.t rfl) (.cons (t := 4) (Has.t rfl) (.cons (t := 32) (Has.t rfl) (.cons (t := 39) (Has.t rfl) (.cons (t := 31) (Has.t rfl) (.cons (t := 36) (Has.t rfl) (.cons (t := 48) (Has.t rfl) (.cons (t := 55) (Has.t rfl) .nil)))))))))) ?_
        refine st (OK1.ixGr sl92 ty22 (Has.t rfl) (Has.t rfl) ⟨by omega, by omega⟩) rfl ?_
        refine Ops.storeGM (z := ri) (Has.t rfl) (Has.t rfl) (i := 2) rfl ty22 (by omega) (M' := (_ :: _ :: grM _ _ _ :: _)) rfl ?_
        refine st (OK1.ixGr sl92 ty22 (Has.t rfl) (Has.t rfl) ⟨by omega, by omega⟩) rfl ?_
        refine Ops.storeGM (z := rt) (Has.t rfl) (Has.t rfl) (i := 2) rfl ty22 (by rw [List.length_set]; omega) (M' := (_ :: _ :: grM _ _ _ :: _)) rfl ?_
        refine nl ?_
        refine At.thn (hK8 _ _ ?_); clear hK8
        refine Tri.cv (Cv.wk (.cons (t := 0) (Has.t rfl) (.cons (t := 3) (Has.t rfl) (.cons (t := 4) (Has.t rfl) .nil)))) ?_
        refine Tri.cv (Cv.perm (perm_tailU (pre := [_, _, _]) (swap_perm hrt hri (by omega)))) ?_
        refine Tri.dr ?_
        refine DrG.st (i := 0) [] rfl rfl rfl (by kernel_rfl) (OKG.o rfl (OK1.mv (Has.t rfl))) ?_
        refine DrG.st (i := 1) [] rfl rfl rfl (by kernel_rfl) (OKG.o rfl (OK1.mv (Has.t rfl))) ?_
        refine DrG.st (i := 2) [59] rfl rfl rfl (by kernel_rfl) (OKG.o rfl (OK1.nilc (Has.t rfl))) ?_
        refine DrG.st (i := 3) [60] rfl rfl rfl (by kernel_rfl) (OKG.o rfl (OK1.fieldAddr (Has.t rfl) fld94_0 ty29)) ?_
        refine DrG.st (i := 4) [61] rfl rfl rfl (by kernel_rfl) (OKG.o rfl (OK1.load (Has.t rfl) (i := 0) rfl ty29 rfl (Ss' := [_]) rfl)) ?_
        refine DrG.st (i := 5) [] rfl rfl rfl (by kernel_rfl) (OKG.o rfl (OK1.mv (Has.t rfl))) ?_
        refine DrG.st (i := 6) [63] rfl rfl rfl (by kernel_rfl) (OKG.o rfl (OK1.nilc (Has.t rfl))) ?_
        refine DrG.st (i := 7) [64] rfl rfl rfl (by kernel_rfl) (OKG.o rfl (OK1.fieldAddr (Has.t rfl) fld94_3 ty27)) ?_
        refine DrG.st (i := 8) [65] rfl rfl rfl (by kernel_rfl) (OKG.o rfl (OK1.load1 (Has.t rfl) (i := 0) rfl ty27 rfl)) ?_
        refine DrG.st (i := 9) [62, 66] rfl rfl rfl (by kernel_rfl) (OKG.o rfl (OK1.call (gfp_Neg hq) (.cons (Has.t rfl) (.cons (Has.t rfl) .nil)))) ?_
        refine DrG.fin (n := 10) mixed (by kernel_rfl) (by kernel_rfl) (by kernel_rfl) ?_
        refine Ops.cv (Cv.wk (.cons (t := 0) (Has.t rfl) (.cons (t := 3) (Has.t rfl) (.cons (t := 4) (Has.t rfl) (.cons (t := 58) (Has.t rfl) (.cons (t := 67) (Has.t rfl) .nil)))))) ?_
        refine st (OK1.nilc (Has.t rfl)) rfl ?_
        refine st (OK1.fieldAddr (Has.t rfl) fld94_3 ty27) rfl ?_
        refine Ops.store (Has.t rfl) (Has.t rfl) (i := 0) rfl ty27 rfl rfl (Ss' := [_, _, _, _]) rfl (M' := ((some _, cellM [_, _, _, _]) :: _ :: _ :: _)) rfl ?_
        refine nl ?_
        refine At.thn ?_
        refine hK6 (⟨((rs.set ps.length ri).set (ps.length + n0) rt, _), by rw [List.length_set, List.length_set], swapU_rows hrow hri hrt, swapU_map hri hrt hn2, (if_pos hn2).symm⟩) _ _ (Cv.mem (.cons (t := 0) (Has.t rfl) (.cons (t := 3) (Has.t rfl) (.cons (t := 4) (Has.t rfl) .nil))) ?_)
        · exact wkU_len (by rw [List.length_set, List.length_set])
      · have hc2 := BP.f hc2
        have hn2 : n0 = 0 := (by omega)
        refine Tri.skip ?_
        refine At.thn ?_
        refine hK6 (⟨(rs, det), rfl, hrow, by rw [hn2]; rfl, (if_neg (by omega)).symm⟩) _ _ (Cv.mem (.cons (t := 0) (Has.t rfl) (.cons (t := 3) (Has.t rfl) (.cons (t := 4) (Has.t rfl) .nil))) ?_)
        · rfl
    rintro ⟨⟨rs1, d1⟩, hS⟩
    refine Tri.cv (Cv.wk (.cons (t := 0) (Has.t rfl) (.cons (t := 3) (Has.t rfl) (.cons (t := 4) (Has.t rfl) .nil)))) ?_
    refine Tri.memEq (M' := wkMU q bw gp gt rs1 ps d1) rfl ?_
    simp only [] at hS
    obtain ⟨hl1, hrow1, hm1, hd1⟩ := hS
    obtain ⟨b, hb⟩ : ∃ b, rs1[ps.length]? = some b := ⟨_, List.getElem?_eq_getElem (by omega)⟩
    have hbW := hrow1 b (List.mem_of_getElem? hb)
    have htl : ps.length < rs1.length := Go.Dt.lt_some hb
    refine Tri.seq fun K9 hK9 => ?_
    refine Tri.region ?_
    refine st (OK1.mv (Has.t rfl)) rfl ?_
    refine st (OK1.nilc (Has.t rfl)) rfl ?_
    refine st (OK1.fieldAddr (Has.t rfl) fld94_1 ty92) rfl ?_
    refine st (OK1.load1 (Has.t rfl) (i := 0) rfl ty92 rfl) rfl ?_
    refine st (OK1.mv (Has.t rfl)) rfl ?_
    refine st (OK1.ixGr sl92 ty22 (Has.t rfl) (Has.t rfl) ⟨by omega, by omega⟩) rfl ?_
    refine st (OK1.loadGM (Has.t rfl) (i := 2) rfl ty22 hb) rfl ?_
    refine st (OK1.as (Has.t rfl)) rfl ?_
    refine nl ?_
    refine At.thn (hK9 _ _ ?_); clear hK9
    refine Tri.cv (Cv.wk (.cons (t := 0) (Has.t rfl) (.cons (t := 3) (Has.t rfl) (.cons (t := 4) (Has.t rfl) (.cons (t := 6) (Has.t rfl) .nil))))) ?_
    refine Tri.seq fun K10 hK10 => ?_
    refine Tri.dr ?_
    refine DrG.st (i := 0) [] rfl rfl rfl (by kernel_rfl) (OKG.o rfl (OK1.mv (Has.t rfl))) ?_
    refine DrG.st (i := 1) [] rfl rfl rfl (by kernel_rfl) (OKG.o rfl (OK1.mv (Has.t rfl))) ?_
    refine DrG.st (i := 2) [78] rfl rfl rfl (by kernel_rfl) (OKG.o rfl (OK1.nilc (Has.t rfl))) ?_
    refine DrG.st (i := 3) [79] rfl rfl rfl (by kernel_rfl) (OKG.o rfl (OK1.fieldAddr (Has.t rfl) fld94_0 ty29)) ?_
    refine DrG.st (i := 4) [80] rfl rfl rfl (by kernel_rfl) (OKG.o rfl (OK1.load (Has.t rfl) (i := 0) rfl ty29 rfl (Ss' := [_]) rfl)) ?_
    refine DrG.st (i := 5) [] rfl rfl rfl (by kernel_rfl) (OKG.o rfl (OK1.mv (Has.t rfl))) ?_
    refine DrG.st (i := 6) [82] rfl rfl rfl (by kernel_rfl) (OKG.o rfl (OK1.nilc (Has.t rfl))) ?_
    refine DrG.st (i := 7) [83] rfl rfl rfl (by kernel_rfl) (OKG.o rfl (OK1.fieldAddr (Has.t rfl) fld94_3 ty27)) ?_
    refine DrG.st (i := 8) [84] rfl rfl rfl (by kernel_rfl) (OKG.o rfl (OK1.load1 (Has.t rfl) (i := 0) rfl ty27 rfl)) ?_
    refine DrG.st (i := 9) [] rfl rfl rfl (by kernel_rfl) (OKG.o rfl (OK1.mv (Has.t rfl))) ?_
    refine DrG.st (i := 10) [] rfl rfl rfl (by kernel_rfl) (OKG.o rfl (OK1.loadP1 (Has.t rfl) ty3)) ?_
    refine DrG.st (i := 11) [86, 87] rfl rfl rfl (by kernel_rfl) (OKG.o rfl (OK1.ixGr sl22 ty27 (Has.t rfl) (Has.t rfl) ⟨by omega, by omega⟩)) ?_
    refine DrG.st (i := 12) [88] rfl rfl rfl (by kernel_rfl) (OKG.o rfl (OK1.eq (OK1.loadGM (Has.t rfl) (i := 3 + ps.length) (wkAtU (pre := [_, _, _]) hb) ty27 (getD_some (d := 0) (by omega))) ((show isU _ = isU (b.2.getD col 0) from isU_eq rfl)))) ?_
    refine DrG.st (i := 13) [81, 85, 89] rfl rfl rfl (by kernel_rfl) (OKG.o rfl (OK1.call (gfp_Mul hq) (.cons (Has.t rfl) (.cons (Has.t rfl) (.cons (Has.t rfl) .nil))))) ?_
    refine DrG.fin (n := 14) mixed (by kernel_rfl) (by kernel_rfl) (by kernel_rfl) ?_
    refine Ops.cv (Cv.wk (.cons (t := 0) (Has.t rfl) (.cons (t := 3) (Has.t rfl) (.cons (t := 4) (Has.t rfl) (.cons (t := 6) (Has.t rfl) (.cons (t := 77) (Has.t rfl) (.cons (t := 90) (Has.t rfl) .nil))))))) ?_
    refine st (OK1.nilc (Has.t rfl)) rfl ?_
    refine st (OK1.fieldAddr (Has.t rfl) fld94_3 ty27) rfl ?_
    refine Ops.store (Has.t rfl) (Has.t rfl) (i := 0) rfl ty27 rfl rfl (Ss' := [_, _, _, _]) rfl (M' := ((some _, cellM [_, _, _, _]) :: _ :: _ :: _)) rfl ?_
    refine nl ?_
    refine At.thn (hK10 _ _ ?_); clear hK10
    refine Tri.seq fun K11 hK11 => ?_
    refine Tri.dr ?_
    refine DrG.st (i := 0) [] rfl rfl rfl (by kernel_rfl) (OKG.o rfl (OK1.mv (Has.t rfl))) ?_
    refine DrG.st (i := 1) [93] rfl rfl rfl (by kernel_rfl) (OKG.o rfl (OK1.nilc (Has.t rfl))) ?_
    refine DrG.st (i := 2) [94] rfl rfl rfl (by kernel_rfl) (OKG.o rfl (OK1.fieldAddr (Has.t rfl) fld94_0 ty29)) ?_
    refine DrG.st (i := 3) [95] rfl rfl rfl (by kernel_rfl) (OKG.o rfl (OK1.load (Has.t rfl) (i := 0) rfl ty29 rfl (Ss' := [_]) rfl)) ?_
    refine DrG.st (i := 4) [] rfl rfl rfl (by kernel_rfl) (OKG.o rfl (OK1.mv (Has.t rfl))) ?_
    refine DrG.st (i := 5) [] rfl rfl rfl (by kernel_rfl) (OKG.o rfl (OK1.loadP1 (Has.t rfl) ty3)) ?_
    refine DrG.st (i := 6) [97, 98] rfl rfl rfl (by kernel_rfl) (OKG.o rfl (OK1.ixGr sl22 ty27 (Has.t rfl) (Has.t rfl) ⟨by omega, by omega⟩)) ?_
    refine DrG.st (i := 7) [99] rfl rfl rfl (by kernel_rfl) (OKG.o rfl (OK1.eq (OK1.loadGM (Has.t rfl) (i := 3 + ps.length) (wkAtU (pre := [_, _, _]) hb) ty27 (getD_some (d := 0) (by omega))) ((show isU _ = isU (b.2.getD col 0) from isU_eq rfl)))) ?_
    refine DrG.fin (n := 8) mixed (by kernel_rfl) (by kernel_rfl) (by kernel_rfl) ?_
    refine Ops.cv (Cv.wk (.cons (t := 0) (Has.t rfl) (.cons (t := 3) (Has.t rfl) (.cons (t := 4) (Has.t rfl) (.cons (t := 6) (Has.t rfl) (.cons (t := 96) (Has.t rfl) (.cons (t := 100) (Has.t rfl) .nil))))))) ?_
    refine st (OK1.call (gfp_Inv hq hp2) (.cons (Has.t rfl) (.cons (Has.t rfl) .nil))) rfl ?_
    refine st (OK1.as (Has.t rfl)) rfl ?_
    refine nl ?_
    refine At.thn (hK11 _ _ ?_); clear hK11
    refine Tri.seq fun K12 hK12 => ?_
    refine Tri.seq fun K13 hK13 => ?_
    refine Tri.region ?_
    refine st (OK1.mv (Has.t rfl)) rfl ?_
    refine st (OK1.len sl22 (Has.t rfl)) rfl ?_
    refine st (OK1.mv (Has.cI 0 rfl)) rfl ?_
    refine nl ?_
    refine At.thn (hK13 _ _ ?_); clear hK13
    refine Tri.block ?_
    refine Tri.loopF [0, 3, 4, 6, 7, 103] (fun (z : { k : Nat // k ≤ b.2.length }) => match z with | ⟨k, hk⟩ => [(104, isI (k : Int))]) (fun M => fun (z : { k : Nat // k ≤ b.2.length }) => match z with | ⟨k, hk⟩ => (wk0U q bw gp gt rs1.length ps (d1 * b.2.getD col 0 % fp q) :: grM isI gp (pv ps) :: grM rowVU gt rs1 :: (rs1.set ps.length (b.1, mixL (scaleL (fp q) (inv (fp q) (b.2.getD col 0)) b.2) b.2 k)).map rowMU)) (fun (z : { k : Nat // k ≤ b.2.length }) => match z with | ⟨k, hk⟩ => b.2.length - k) (⟨0, Nat.zero_le _⟩) (Cv.mem (.cons (t := 104) (Has.t' rfl ?_) (.cons (t := 0) (Has.t rfl) (.cons (t := 3) (Has.t rfl) (.cons (t := 4) (Has.t rfl) (.cons (t := 6) (Has.t rfl) (.cons (t := 7) (Has.t rfl) (.cons (t := 103) (Has.t rfl) .nil))))))) ?_) ?_
    · rfl
    · exact mixU_start (pre := [_, _, _]) hb
    rintro ⟨k, hk⟩ K14 hK14
    refine Tri.cv (Cv.wk (.cons (t := 104) (Has.t rfl) (.cons (t := 0) (Has.t rfl) (.cons (t := 3) (Has.t rfl) (.cons (t := 4) (Has.t rfl) (.cons (t := 6) (Has.t rfl) (.cons (t := 7) (Has.t rfl) (.cons (t := 103) (Has.t rfl) .nil)))))))) ?_
    refine Tri.memEq (M' := (wk0U q bw gp gt rs1.length ps (d1 * b.2.getD col 0 % fp q) :: grM isI gp (pv ps) :: grM rowVU gt rs1 :: (rs1.set ps.length (b.1, mixL (scaleL (fp q) (inv (fp q) (b.2.getD col 0)) b.2) b.2 k)).map rowMU)) rfl ?_
    have hset : (rs1.set ps.length (b.1, mixL (scaleL (fp q) (inv (fp q) (b.2.getD col 0)) b.2) b.2 k))[ps.length]? = some (b.1, mixL (scaleL (fp q) (inv (fp q) (b.2.getD col 0)) b.2) b.2 k) := List.getElem?_set_self htl
    refine Tri.seq fun K15 hK15 => ?_
    refine Tri.region ?_
    refine st (OK1.ltI (Has.t rfl) (Has.t rfl)) rfl ?_
    refine nl ?_
    refine At.thn (hK15 _ _ ?_); clear hK15
    refine Tri.seq fun K16 hK16 => ?_
    refine Tri.cond (Has.t rfl) (fun hc3 => ?_) (fun hc3 => ?_)
    · have hc3 := BP.t hc3
      refine Tri.skip ?_
      refine At.thn (hK16 _ _ ?_); clear hK16
      refine Tri.seq fun K17 hK17 => ?_
      refine Tri.block ?_
      refine Tri.seq fun K18 hK18 => ?_
      refine Tri.region ?_
      refine st (OK1.mv (Has.t rfl)) rfl ?_
      refine st (OK1.as (Has.t rfl)) rfl ?_
      refine nl ?_
      refine At.thn (hK18 _ _ ?_); clear hK18
      refine Tri.dr ?_
      refine DrG.st (i := 0) [] rfl rfl rfl (by kernel_rfl) (OKG.o rfl (OK1.mv (Has.t rfl))) ?_
      refine DrG.st (i := 1) [] rfl rfl rfl (by kernel_rfl) (OKG.o rfl (OK1.mv (Has.t rfl))) ?_
      refine DrG.st (i := 2) [] rfl rfl rfl (by kernel_rfl) (OKG.o rfl (OK1.mv (Has.t rfl))) ?_
      refine DrG.st (i := 3) [109] rfl rfl rfl (by kernel_rfl) (OKG.o rfl (OK1.nilc (Has.t rfl))) ?_
      refine DrG.st (i := 4) [110] rfl rfl rfl (by kernel_rfl) (OKG.o rfl (OK1.fieldAddr (Has.t rfl) fld94_0 ty29)) ?_
      refine DrG.st (i := 5) [111] rfl rfl rfl (by kernel_rfl) (OKG.o rfl (OK1.load (Has.t rfl) (i := 0) rfl ty29 rfl (Ss' := [_]) rfl)) ?_
      refine DrG.st (i := 6) [] rfl rfl rfl (by kernel_rfl) (OKG.o rfl (OK1.mv (Has.t rfl))) ?_
      refine DrG.st (i := 7) [] rfl rfl rfl (by kernel_rfl) (OKG.o rfl (OK1.mv (Has.t rfl))) ?_
      refine DrG.st (i := 8) [113, 114] rfl rfl rfl (by kernel_rfl) (OKG.o rfl (OK1.ixGr sl22 ty27 (Has.t rfl) (Has.t rfl) ⟨by omega, by omega⟩)) ?_
      refine DrG.st (i := 9) [115] rfl rfl rfl (by kernel_rfl) (OKG.o rfl (OK1.loadGM (Has.t rfl) (i := 3 + ps.length) (wkAtU (pre := [_, _, _]) (r := (b.1, mixL (scaleL (fp q) (inv (fp q) (b.2.getD col 0)) b.2) b.2 k)) hset) ty27 (mixL_at (scaleL_len _ _ _) (by omega)))) ?_
      refine DrG.st (i := 10) [] rfl rfl rfl (by kernel_rfl) (OKG.o rfl (OK1.mv (Has.t rfl))) ?_
      refine DrG.st (i := 11) [112, 116, 117] rfl rfl rfl (by kernel_rfl) (OKG.o rfl (OK1.call (gfp_Mul hq) (.cons (Has.t rfl) (.cons (Has.t rfl) (.cons (Has.t rfl) .nil))))) ?_
      refine DrG.fin (n := 12) mixed (by kernel_rfl) (by kernel_rfl) (by kernel_rfl) ?_
      refine Ops.cv (Cv.wk (.cons (t := 0) (Has.t rfl) (.cons (t := 3) (Has.t rfl) (.cons (t := 4) (Has.t rfl) (.cons (t := 6) (Has.t rfl) (.cons (t := 7) (Has.t rfl) (.cons (t := 103) (Has.t rfl) (.cons (t := 104) (Has.t rfl) (.cons (t := 105) (Has.t rfl) (.cons (t := 106) (Has.t rfl) (.cons (t := 8) (Has.t rfl) (.cons (t := 107) (Has.t rfl) (.cons (t := 108) (Has.t rfl) (.cons (t := 109) (Has.t rfl) (.cons (t := 110) (Has.t rfl) (.cons (t := 111) (Has.t rfl) (.cons (t := 112) (Has.t rfl) (.cons (t := 113) (Has.t rfl) (.cons (t := 114) (Has.t rfl) (.cons (t := 115) (Has.t rfl) (.cons (t := 116) (Has.t rfl) (.cons (t := 117) (Has.t rfl) (.cons (t := 118) (Has.t rfl) .nil))))))))))))))))))))))) ?_
      refine st (OK1.ixGr sl22 ty27 (Has.t rfl) (Has.t rfl) ⟨by omega, by omega⟩) rfl ?_
      refine Ops.storeGM (z := b.2.getD k 0 * inv (fp q) (b.2.getD col 0) % fp q) (Has.t rfl) (Has.t rfl) (i := 3 + ps.length) (wkAtU (pre := [_, _, _]) (r := (b.1, mixL (scaleL (fp q) (inv (fp q) (b.2.getD col 0)) b.2) b.2 k)) hset) ty27 (by rw [mixL_len (scaleL_len _ _ _) (by omega)]; omega) (M' := (_ :: _ :: _ :: (rs1.set ps.length (b.1, mixL (scaleL (fp q) (inv (fp q) (b.2.getD col 0)) b.2) b.2 (k + 1))).map rowMU)) (wkStoreU (pre := [_, _, _]) (X := (b.1, mixL (scaleL (fp q) (inv (fp q) (b.2.getD col 0)) b.2) b.2 k)) hset (mixL_set (scaleL_len _ _ _) (by omega) (scaleL_at _ _ (by omega)))) ?_
      refine nl ?_
      refine At.bln ?_
      refine At.thn (hK17 _ _ ?_); clear hK17
      refine Tri.region ?_
      refine st (OK1.addI (Has.t rfl) (Has.cI 1 rfl) (by first | omega | assumption) (by first | omega | assumption)) rfl ?_
      refine st (OK1.mv (Has.t rfl)) rfl ?_
      refine nl ?_
      refine At.thn ?_
      refine hK14 (⟨k + 1, by omega⟩) _ _ ?_ (Cv.mem (.cons (t := 104) (Has.t' rfl ?_) (.cons (t := 0) (Has.t rfl) (.cons (t := 3) (Has.t rfl) (.cons (t := 4) (Has.t rfl) (.cons (t := 6) (Has.t rfl) (.cons (t := 7) (Has.t rfl) (.cons (t := 103) (Has.t rfl) .nil))))))) ?_)
      · show b.2.length - (k + 1) < b.2.length - k; omega
      · exact isI_eq (by omega)
      · rfl
    · have hc3 := BP.f hc3
      refine Tri.exit ?_
      refine At.the ?_
      refine At.the ?_
      refine At.blh ?_
      refine At.thn (hK12 _ _ ?_); clear hK12
      refine Tri.seq fun K19 hK19 => ?_
      refine Tri.seq fun K20 hK20 => ?_
      refine Tri.region ?_
      refine st (OK1.mv (Has.t rfl)) rfl ?_
      refine st (OK1.nilc (Has.t rfl)) rfl ?_
      refine st (OK1.fieldAddr (Has.t rfl) fld94_1 ty92) rfl ?_
      refine st (OK1.load1 (Has.t rfl) (i := 0) rfl ty92 rfl) rfl ?_
      refine st (OK1.len sl92 (Has.t rfl)) rfl ?_
      refine st (OK1.mv (Has.cI 0 rfl)) rfl ?_
      refine nl ?_
      refine At.thn (hK20 _ _ ?_); clear hK20
      refine Tri.cv (Cv.wk (.cons (t := 0) (Has.t rfl) (.cons (t := 3) (Has.t rfl) (.cons (t := 4) (Has.t rfl) (.cons (t := 6) (Has.t rfl) (.cons (t := 124) (Has.t rfl) (.cons (t := 125) (Has.t rfl) (.cons (t := 126) (Has.t rfl) .nil)))))))) ?_
      refine Tri.block ?_
      refine Tri.loopF [0, 3, 4, 6, 124, 125] (fun (z : { z : Nat × List RowU // z.1 ≤ rs1.length ∧ TakI (fp q) rs1 ps.length col (scaleL (fp q) (inv (fp q) (b.2.getD col 0)) b.2) z.1 z.2 }) => match z with | ⟨(r, rs3), hI⟩ => [(126, isI (r : Int))]) (fun M => fun (z : { z : Nat × List RowU // z.1 ≤ rs1.length ∧ TakI (fp q) rs1 ps.length col (scaleL (fp q) (inv (fp q) (b.2.getD col 0)) b.2) z.1 z.2 }) => match z with | ⟨(r, rs3), hI⟩ => wkMU q bw gp gt rs3 ps (d1 * b.2.getD col 0 % fp q)) (fun (z : { z : Nat × List RowU // z.1 ≤ rs1.length ∧ TakI (fp q) rs1 ps.length col (scaleL (fp q) (inv (fp q) (b.2.getD col 0)) b.2) z.1 z.2 }) => match z with | ⟨(r, rs3), hI⟩ => rs1.length - r) (⟨(0, rs1.set ps.length (b.1, scaleL (fp q) (inv (fp q) (b.2.getD col 0)) b.2)), Nat.zero_le _, TakI.start hb⟩) (Cv.mem (.cons (t := 126) (Has.t' rfl ?_) (.cons (t := 0) (Has.t rfl) (.cons (t := 3) (Has.t rfl) (.cons (t := 4) (Has.t rfl) (.cons (t := 6) (Has.t rfl) (.cons (t := 124) (Has.t rfl) (.cons (t := 125) (Has.t rfl) .nil))))))) ?_) ?_
      · rfl
      · exact (wkU_round hb (scaleL_len _ _ _) (by omega)).trans (wkU_len (by rw [List.length_set]))
      rintro ⟨⟨r, rs3⟩, hI⟩ K21 hK21
      refine Tri.cv (Cv.wk (.cons (t := 126) (Has.t rfl) (.cons (t := 0) (Has.t rfl) (.cons (t := 3) (Has.t rfl) (.cons (t := 4) (Has.t rfl) (.cons (t := 6) (Has.t rfl) (.cons (t := 124) (Has.t rfl) (.cons (t := 125) (Has.t rfl) .nil)))))))) ?_
      refine Tri.memEq (M' := wkMU q bw gp gt rs3 ps (d1 * b.2.getD col 0 % fp q)) rfl ?_
      simp only [] at hI
      obtain ⟨hr0, hT⟩ := hI
      have hl3 := hT.len
      refine Tri.seq fun K22 hK22 => ?_
      refine Tri.region ?_
      refine st (OK1.ltI (Has.t rfl) (Has.t rfl)) rfl ?_
      refine nl ?_
      refine At.thn (hK22 _ _ ?_); clear hK22
      refine Tri.seq fun K23 hK23 => ?_
      refine Tri.cond (Has.t rfl) (fun hc4 => ?_) (fun hc4 => ?_)
      · have hc4 := BP.t hc4
        obtain ⟨x, hr⟩ : ∃ x, rs3[r]? = some x := ⟨_, List.getElem?_eq_getElem (by omega)⟩
        refine Tri.skip ?_
        refine At.thn (hK23 _ _ ?_); clear hK23
        refine Tri.seq fun K24 hK24 => ?_
        refine Tri.block ?_
        refine Tri.seq fun K25 hK25 => ?_
        refine Tri.region ?_
        refine st (OK1.mv (Has.t rfl)) rfl ?_
        refine st (OK1.ixGr sl92 ty22 (Has.t rfl) (Has.t rfl) ⟨by omega, by omega⟩) rfl ?_
        refine st (OK1.loadGM (Has.t rfl) (i := 2) rfl ty22 hr) rfl ?_
        refine st (OK1.as (Has.t rfl)) rfl ?_
        refine st (OK1.as (Has.t rfl)) rfl ?_
        refine nl ?_
        refine At.thn (hK25 _ _ ?_); clear hK25
        refine Tri.seq fun K26 hK26 => ?_
        refine Tri.region ?_
        refine st (OK1.mv (Has.t rfl)) rfl ?_
        refine st (OK1.mv (Has.t rfl)) rfl ?_
        refine st (OK1.neI (Has.t rfl) (Has.t rfl)) rfl ?_
        refine nl ?_
        refine At.thn (hK26 _ _ ?_); clear hK26
        refine Tri.cond (Has.t rfl) (fun hc5 => ?_) (fun hc5 => ?_)
        · have hc5 := BP.t hc5
          have hrt2 : r ≠ ps.length := (by omega)
          have hb3 : rs3[ps.length]? = some (b.1, scaleL (fp q) (inv (fp q) (b.2.getD col 0)) b.2) := hT.top hb
          have hxr2 : rs1[r]? = some x := hT.here (by omega) hr hrt2
          have hxW : x.2.length = W := hrow1 x (List.mem_of_getElem? hxr2)
          refine Tri.region ?_
          refine st (OK1.mv (Has.t rfl)) rfl ?_
          refine st (OK1.mv (Has.t rfl)) rfl ?_
          refine st (OK1.eq (OK1.mv (Has.t rfl)) ((show isGr _ _ = isGr b.1 (scaleL (fp q) (inv (fp q) (b.2.getD col 0)) b.2).length from isGr_eq (by rw [scaleL_len])))) rfl ?_
          refine st (OK1.mv (Has.t rfl)) rfl ?_
          refine st (OK1.loadP1 (Has.t rfl) ty3) rfl ?_
          refine st (OK1.ixGr sl22 ty27 (Has.t rfl) (Has.t rfl) ⟨by omega, by omega⟩) rfl ?_
          refine st (OK1.eq (OK1.loadGM (Has.t rfl) (i := 3 + r) (wkAtU (pre := [_, _, _]) hr) ty27 (getD_some (d := 0) (by omega))) ((show isU _ = isU (x.2.getD col 0) from isU_eq rfl))) rfl ?_
          refine Ops.callX (fmat_take hq (i := r) (t := ps.length) (r := x) (b := (b.1, scaleL (fp q) (inv (fp q) (b.2.getD col 0)) b.2)) hr hb3 hrt2 (by rw [scaleL_len]; omega) (by omega)) (perm0 _) (.cons (Has.t rfl) (.cons (Has.t rfl) (.cons (Has.t rfl) (.cons (Has.t rfl) .nil)))) rfl ?_
          rintro _ _ ⟨rfl, rfl⟩
          refine Ops.memEq (M' := wkMU q bw gp gt (rs3.set r (x.1, takeL (fp q) (x.2.getD col 0) (scaleL (fp q) (inv (fp q) (b.2.getD col 0)) b.2) x.2)) ps (d1 * b.2.getD col 0 % fp q)) (List.append_nil _) ?_
          refine nl ?_
          refine At.bln ?_
          refine At.thn (hK24 _ _ ?_); clear hK24
          refine Tri.region ?_
          refine st (OK1.addI (Has.t rfl) (Has.cI 1 rfl) (by first | omega | assumption) (by first | omega | assumption)) rfl ?_
          refine st (OK1.mv (Has.t rfl)) rfl ?_
          refine nl ?_
          refine At.thn ?_
          refine hK21 (⟨(r + 1, rs3.set r (x.1, takeL (fp q) (x.2.getD col 0) (scaleL (fp q) (inv (fp q) (b.2.getD col 0)) b.2) x.2)), by show r + 1 ≤ _; omega, hT.step (by omega) hr hrt2⟩) _ _ ?_ (Cv.mem (.cons (t := 126) (Has.t' rfl ?_) (.cons (t := 0) (Has.t rfl) (.cons (t := 3) (Has.t rfl) (.cons (t := 4) (Has.t rfl) (.cons (t := 6) (Has.t rfl) (.cons (t := 124) (Has.t rfl) (.cons (t := 125) (Has.t rfl) .nil))))))) ?_)
          · show rs1.length - (r + 1) < rs1.length - r; omega
          · exact isI_eq (by omega)
          · rfl
        · have hc5 := BP.f hc5
          have hrt2 : r = ps.length := (by omega)
          refine Tri.skip ?_
          refine At.bln ?_
          refine At.thn (hK24 _ _ ?_); clear hK24
          refine Tri.region ?_
          refine st (OK1.addI (Has.t rfl) (Has.cI 1 rfl) (by first | omega | assumption) (by first | omega | assumption)) rfl ?_
          refine st (OK1.mv (Has.t rfl)) rfl ?_
          refine nl ?_
          refine At.thn ?_
          refine hK21 (⟨(r + 1, rs3), by show r + 1 ≤ _; omega, hT.skip (by omega)⟩) _ _ ?_ (Cv.mem (.cons (t := 126) (Has.t' rfl ?_) (.cons (t := 0) (Has.t rfl) (.cons (t := 3) (Has.t rfl) (.cons (t := 4) (Has.t rfl) (.cons (t := 6) (Has.t rfl) (.cons (t := 124) (Has.t rfl) (.cons (t := 125) (Has.t rfl) .nil))))))) ?_)
          · show rs1.length - (r + 1) < rs1.length - r; omega
          · exact isI_eq (by omega)
          · rfl
      · have hc4 := BP.f hc4
        refine Tri.exit ?_
        refine At.the ?_
        refine At.the ?_
        refine At.blh ?_
        refine At.thn (hK19 _ _ ?_); clear hK19
        refine Tri.cv (Cv.wk (.cons (t := 0) (Has.t rfl) (.cons (t := 3) (Has.t rfl) .nil))) ?_
        refine Tri.dry mixed ?_
        refine DrB.take (i := 0) rfl rfl rfl rfl (by kernel_rfl) (by kernel_rfl) (by kernel_rfl) (by kernel_rfl) (fun _ _ _ _ h => h) (OKY.mv (Has.t rfl)) ?_
        refine DrB.take (i := 1) rfl rfl rfl rfl (by kernel_rfl) (by kernel_rfl) (by kernel_rfl) (by kernel_rfl) (fun _ _ _ _ h => h) (OKY.mv (Has.t rfl)) ?_
        refine DrB.take (i := 2) rfl rfl rfl rfl (by kernel_rfl) (by kernel_rfl) (by kernel_rfl) (by kernel_rfl) (fun _ _ _ _ h => h) (OKY.nilc (Has.t rfl)) ?_
        refine DrB.take (i := 3) rfl rfl rfl rfl (by kernel_rfl) (by kernel_rfl) (by kernel_rfl) (by kernel_rfl) (fun _ _ _ _ h => h) (OKY.fieldAddr (Has.t rfl) fld94_2 ty32) ?_
        refine DrB.go [] ?_
        refine DrC.st (i := 4) [] rfl rfl rfl (by kernel_rfl) (by kernel_rfl) (OKG.o rfl (OK1.load1 (Has.t rfl) (i := 0) rfl ty32 rfl)) ?_
        refine DrC.st (i := 5) [] rfl rfl rfl (by kernel_rfl) (by kernel_rfl) (OKG.o rfl (OK1.loadP1 (Has.t rfl) ty3)) ?_
        refine DrC.st (i := 6) [148] rfl rfl rfl (by kernel_rfl) (by kernel_rfl) (OKG.o rfl (OK1.buildS [isI 0] sl32 ty3 zero3 (fun _ _ => ⟨⟨rfl, by decide, by decide⟩, trivial⟩) rfl rfl (.cons (Has.t rfl) rfl rfl rfl .nil) rfl (S := SlM isI [(col : Int)]) rfl)) ?_
        refine DrC.fin [7, 8, 9, 10] (by kernel_rfl) (by kernel_rfl) (fun _ _ _ _ _ h => h) (by kernel_rfl) (by kernel_rfl) (by kernel_rfl) (by kernel_rfl) (by kernel_rfl) (by kernel_rfl) (by kernel_rfl) (by kernel_rfl) (by kernel_rfl) ?_
        refine Ops.cv (Cv.wk (.cons (t := 143) (Has.t rfl) (.cons (t := 147) (Has.t rfl) (.cons (t := 149) (Has.t rfl) .nil)))) ?_
        refine Ops.appendG (f := isI) (u := 0) sl32 ty3 zero3 (fun _ _ => ⟨⟨rfl, by decide, by decide⟩, trivial⟩) (fun _ => inferInstance) by3 (Has.t rfl) (i := 1) rfl (Has.t rfl) (by rw [hpv]; show ps.length + 1 ≤ _; omega) (by simp) rfl fun gr1 => ?_
        refine Ops.memEq (M' := (_ :: grM _ _ _ :: _ :: _)) rfl ?_
        refine st (OK1.nilc (Has.t rfl)) rfl ?_
        refine st (OK1.fieldAddr (Has.t rfl) fld94_2 ty32) rfl ?_
        refine Ops.store (Has.t rfl) (Has.t rfl) (i := 0) rfl ty32 rfl rfl (Ss' := [_, _, _, _]) rfl (M' := ((some _, cellM [_, _, _, _]) :: _ :: _ :: _)) rfl ?_
        refine nl ?_
        refine rtX0 (.inr rfl) Try.results118 rfl ?_
        have hfc := fcol_yes (p := fp q) (det := det) hn0 hn1 hm1 hd1 hb (hT.mono (by omega))
        exact ⟨gr1, rs3, rfl, (wkU_app rfl rfl).trans (by rw [hfc]), by rw [hfc]⟩
end Go.Proofs.Ytfoclelageohiaa
/- Contracts: a matrix is reduced. -/
namespace Go.Proofs.Ytfoclelageohiaa
open Go.En Go.RowKit
set_option linter.unusedVariables false
set_option maxRecDepth 10000
open Go.Gf
open Go.Mz
open Go.Mu
open Go.Fe
set_option maxHeartbeats 4000000 in
theorem fmat_reduced {q R C D : Nat} {xs ys : List Nat} (hq : q < 4294967296) (hp2 : 2 ≤ fp q) (hR : R ≤ 64) (hC : C ≤ 64) (hD : D ≤ 64) (hxl : xs.length = R * C) (hyl : ys.length = R * D) : Ctr Try.prog 67 [Flat [isU q], isMW R C xs, isMW R D ys] (wkFU q (fred (fp q) ⟨rowsU (fp q) R C D xs ys, [], 1 % fp q⟩ C)) := by
  refine Ctr.intro Try.func67 rfl (by kernel_rfl) Try.ntmps67 rfl fun w0 F0 => ?_
  refine Tri.cv (Cv.wk (.cons (t := 0) (Has.t rfl) (.cons (t := 1) (Has.t rfl) (.cons (t := 2) (Has.t rfl) .nil)))) ?_
  refine Tri.seq fun K1 hK1 => ?_
  refine Tri.region ?_
  refine Ops.box (Has.t rfl) rfl fun b1 => ?_
  refine Ops.box (Has.t rfl) rfl fun b2 => ?_
  refine Ops.box (Has.t rfl) rfl fun b3 => ?_
  refine st (OK1.as Has.cP) rfl ?_
  refine nl ?_
  refine At.thn (hK1 _ _ ?_); clear hK1
  refine Tri.seq fun K2 hK2 => ?_
  refine Tri.region ?_
  refine Ops.cv (Cv.freezeBox (t := 4) (i := 1) rfl rfl rfl) ?_
  refine Ops.memEq (M' := [_, _]) rfl ?_
  refine Ops.cv (Cv.wk (.cons (t := 0) (Has.t rfl) (.cons (t := 1) (Has.t rfl) (.cons (t := 2) (Has.t rfl) (.cons (t := 3) (Has.t rfl) (.cons (t := 4) (Has.t rfl) (.cons (t := 5) (Has.t rfl) (.cons (t := 6) (Has.t rfl) .nil)))))))) ?_
  refine st (OK1.load (Has.t rfl) (i := 1) rfl ty29 rfl (Ss' := [_]) rfl) rfl ?_
  refine st (OK1.loadP (Has.t rfl) ty24 rfl (Ss' := [_, _, _]) rfl) rfl ?_
  refine st (OK1.load (Has.t rfl) (i := 0) rfl ty24 rfl (Ss' := [_, _, _]) rfl) rfl ?_
  refine Ops.cv (Cv.drop ((.cons _ (.cons _ .slnil)))) ?_
  refine Ops.cv (Cv.wk (.cons (t := 0) (Has.t rfl) (.cons (t := 1) (Has.t rfl) (.cons (t := 2) (Has.t rfl) (.cons (t := 4) (Has.t rfl) (.cons (t := 6) (Has.t rfl) (.cons (t := 9) (Has.t rfl) (.cons (t := 10) (Has.t rfl) (.cons (t := 11) (Has.t rfl) .nil))))))))) ?_
  refine Ops.callX (fmat_begun hR hC hD hxl hyl) (List.Perm.refl _) (.cons (Has.t rfl) (.cons (Has.t rfl) (.cons (Has.t rfl) .nil))) rfl ?_
  rintro _ _ ⟨bw, gt, rs0, rfl, rfl, hrs0⟩
  refine Ops.memEq (M' := wkMU q bw Gr.nil gt rs0 [] (1 % fp q)) (List.append_nil _) ?_
  refine st (OK1.as (Has.t rfl)) rfl ?_
  refine nl ?_
  refine At.thn (hK2 _ _ ?_); clear hK2
  refine Tri.cv (Cv.wk (.cons (t := 4) (Has.t rfl) (.cons (t := 6) (Has.t rfl) (.cons (t := 7) (Has.t rfl) .nil)))) ?_
  refine Tri.seq fun K3 hK3 => ?_
  refine Tri.seq fun K4 hK4 => ?_
  refine Tri.region ?_
  refine st (OK1.as (Has.cI 0 rfl)) rfl ?_
  refine nl ?_
  refine At.thn (hK4 _ _ ?_); clear hK4
  refine Tri.block ?_
  refine Tri.loopF [4, 6, 7] (fun (z : { z : Nat × Gr Int × List RowU // z.1 ≤ C ∧ z.2.2.map Prod.snd = (fred (fp q) ⟨rowsU (fp q) R C D xs ys, [], 1 % fp q⟩ z.1).rows }) => match z with | ⟨(c, gp, rs), hI⟩ => [(8, isI (c : Int))]) (fun M => fun (z : { z : Nat × Gr Int × List RowU // z.1 ≤ C ∧ z.2.2.map Prod.snd = (fred (fp q) ⟨rowsU (fp q) R C D xs ys, [], 1 % fp q⟩ z.1).rows }) => match z with | ⟨(c, gp, rs), hI⟩ => wkMU q bw gp gt rs (fred (fp q) ⟨rowsU (fp q) R C D xs ys, [], 1 % fp q⟩ c).ps (fred (fp q) ⟨rowsU (fp q) R C D xs ys, [], 1 % fp q⟩ c).det) (fun (z : { z : Nat × Gr Int × List RowU // z.1 ≤ C ∧ z.2.2.map Prod.snd = (fred (fp q) ⟨rowsU (fp q) R C D xs ys, [], 1 % fp q⟩ z.1).rows }) => match z with | ⟨(c, gp, rs), hI⟩ => C - c) (⟨(0, Gr.nil, rs0), Nat.zero_le _, hrs0⟩) (Cv.mem (.cons (t := 8) (Has.t' rfl ?_) (.cons (t := 4) (Has.t rfl) (.cons (t := 6) (Has.t rfl) (.cons (t := 7) (Has.t rfl) .nil)))) ?_) ?_
  · rfl
  · rfl
  rintro ⟨⟨c, gp, rs⟩, hI⟩ K5 hK5
  refine Tri.cv (Cv.wk (.cons (t := 8) (Has.t rfl) (.cons (t := 4) (Has.t rfl) (.cons (t := 6) (Has.t rfl) (.cons (t := 7) (Has.t rfl) .nil))))) ?_
  refine Tri.memEq (M' := wkMU q bw gp gt rs (fred (fp q) ⟨rowsU (fp q) R C D xs ys, [], 1 % fp q⟩ c).ps (fred (fp q) ⟨rowsU (fp q) R C D xs ys, [], 1 % fp q⟩ c).det) rfl ?_
  simp only [] at hI
  obtain ⟨hc, hrs⟩ := hI
  have hok := fred_ok (p := fp q) (W := C + D) (rowsU_len (fp q) R C D xs ys) (fun r hr => rowsU_row hr) (1 % fp q) c
  have hrl : rs.length = R := by rw [← List.length_map (f := Prod.snd), hrs]; exact hok.1
  have hpl := hok.2.2
  have hpv := pv_len (fred (fp q) ⟨rowsU (fp q) R C D xs ys, [], 1 % fp q⟩ c).ps
  have hrow : ∀ r ∈ rs, r.2.length = C + D := fun r hr => hok.2.1 r.2 (by rw [← hrs]; exact List.mem_map.2 ⟨r, hr, rfl⟩)
  refine Tri.seq fun K6 hK6 => ?_
  refine Tri.seq fun K7 hK7 => ?_
  refine Tri.dr ?_
  refine DrG.st (i := 0) [] rfl rfl rfl (by kernel_rfl) (OKG.o rfl (OK1.mv (Has.t rfl))) ?_
  refine DrG.st (i := 1) [] rfl rfl rfl (by kernel_rfl) (OKG.o rfl (OK1.fieldAddrP (Has.t rfl) fld24_1 ty3 (Ss' := [_, _]) rfl)) ?_
  refine DrG.st (i := 2) [14] rfl rfl rfl (by kernel_rfl) (OKG.o rfl (OK1.loadP1 (Has.t rfl) ty3)) ?_
  refine DrG.st (i := 3) [13, 15] rfl rfl rfl (by kernel_rfl) (OKG.o rfl (OK1.ltI (Has.t rfl) (Has.t rfl))) ?_
  refine DrG.st (i := 4) [16] rfl rfl rfl (by kernel_rfl) (OKG.o rfl (OK1.mv (Has.t rfl))) ?_
  refine DrG.st (i := 5) [17] rfl rfl rfl (by kernel_rfl) (OKG.T rfl rfl rfl (fun hg => have hg' := BP.t hg; OK1.mv (Has.t rfl))) ?_
  refine DrG.st (i := 6) [17, 18] rfl rfl rfl (by kernel_rfl) (OKG.T rfl rfl rfl (fun hg => have hg' := BP.t hg; OK1.nilc (Has.g rfl hg))) ?_
  refine DrG.st (i := 7) [17, 19] rfl rfl rfl (by kernel_rfl) (OKG.T rfl rfl rfl (fun hg => have hg' := BP.t hg; OK1.fieldAddr (Has.g rfl hg) fld94_2 ty32)) ?_
  refine DrG.st (i := 8) [17, 20] rfl rfl rfl (by kernel_rfl) (OKG.T rfl rfl rfl (fun hg => have hg' := BP.t hg; OK1.load1 (Has.g rfl hg) (i := 0) rfl ty32 rfl)) ?_
  refine DrG.st (i := 9) [17, 21] rfl rfl rfl (by kernel_rfl) (OKG.T rfl rfl rfl (fun hg => have hg' := BP.t hg; OK1.len sl32 (Has.g rfl hg))) ?_
  refine DrG.st (i := 10) [17] rfl rfl rfl (by kernel_rfl) (OKG.T rfl rfl rfl (fun hg => have hg' := BP.t hg; OK1.mv (Has.t rfl))) ?_
  refine DrG.st (i := 11) [17, 23] rfl rfl rfl (by kernel_rfl) (OKG.T rfl rfl rfl (fun hg => have hg' := BP.t hg; OK1.nilc (Has.g rfl hg))) ?_
  refine DrG.st (i := 12) [17, 24] rfl rfl rfl (by kernel_rfl) (OKG.T rfl rfl rfl (fun hg => have hg' := BP.t hg; OK1.fieldAddr (Has.g rfl hg) fld94_1 ty92)) ?_
  refine DrG.st (i := 13) [17, 25] rfl rfl rfl (by kernel_rfl) (OKG.T rfl rfl rfl (fun hg => have hg' := BP.t hg; OK1.load1 (Has.g rfl hg) (i := 0) rfl ty92 rfl)) ?_
  refine DrG.st (i := 14) [17, 26] rfl rfl rfl (by kernel_rfl) (OKG.T rfl rfl rfl (fun hg => have hg' := BP.t hg; OK1.len sl92 (Has.g rfl hg))) ?_
  refine DrG.fin (n := 15) mixed (by kernel_rfl) (by kernel_rfl) (by kernel_rfl) ?_
  refine Ops.cv (Cv.wk (.cons (t := 4) (Has.t rfl) (.cons (t := 6) (Has.t rfl) (.cons (t := 7) (Has.t rfl) (.cons (t := 8) (Has.t rfl) (.cons (t := 13) (Has.t rfl) (.cons (t := 14) (Has.t rfl) (.cons (t := 15) (Has.t rfl) (.cons (t := 16) (Has.t rfl) (.cons (t := 17) (Has.t rfl) (.cons (t := 18) (Has.t rfl) (.cons (t := 19) (Has.t rfl) (.cons (t := 20) (Has.t rfl) (.cons (t := 21) (Has.t rfl) (.cons (t := 22) (Has.t rfl) (.cons (t := 23) (Has.t rfl) (.cons (t := 24) (Has.t rfl) (.cons (t := 25) (Has.t rfl) (.cons (t := 26) (Has.t rfl) (.cons (t := 27) (Has.t rfl) .nil)))))))))))))))))))) ?_
  refine stT rfl rfl (fun hg => have hg' := BP.t hg; OK1.ltI (Has.g rfl hg) (Has.g rfl hg)) rfl ?_
  refine st (OK1.pickAnd (Has.t rfl) (fun h => Has.g rfl h)) rfl ?_
  refine nl ?_
  refine At.thn (hK7 _ _ ?_); clear hK7
  refine Tri.cond (Has.t rfl) (fun hc1 => ?_) (fun hc1 => ?_)
  · have hc1 := BP.t hc1
    refine Tri.skip ?_
    refine At.thn (hK6 _ _ ?_); clear hK6
    refine Tri.seq fun K8 hK8 => ?_
    refine Tri.block ?_
    refine Tri.region ?_
    refine st (OK1.mv (Has.t rfl)) rfl ?_
    refine st (OK1.mv (Has.t rfl)) rfl ?_
    refine Ops.callX (fmat_column hq (col := c) (W := C + D) hp2 hrow (by omega) (by omega) (by omega) (by omega)) (perm0 _) (.cons (Has.t rfl) (.cons (Has.t rfl) .nil)) rfl ?_
    rintro _ _ ⟨gp2, rs2, rfl, rfl, hrs2⟩
    refine Ops.memEq (M' := wkMU q bw gp2 gt rs2 (fcol (fp q) ⟨rs.map Prod.snd, (fred (fp q) ⟨rowsU (fp q) R C D xs ys, [], 1 % fp q⟩ c).ps, (fred (fp q) ⟨rowsU (fp q) R C D xs ys, [], 1 % fp q⟩ c).det⟩ c).ps (fcol (fp q) ⟨rs.map Prod.snd, (fred (fp q) ⟨rowsU (fp q) R C D xs ys, [], 1 % fp q⟩ c).ps, (fred (fp q) ⟨rowsU (fp q) R C D xs ys, [], 1 % fp q⟩ c).det⟩ c).det) (List.append_nil _) ?_
    refine nl ?_
    refine At.bln ?_
    refine At.thn (hK8 _ _ ?_); clear hK8
    refine Tri.region ?_
    refine st (OK1.mv (Has.t rfl)) rfl ?_
    refine st (OK1.addI (Has.t rfl) (Has.cI 1 rfl) (by first | omega | assumption) (by first | omega | assumption)) rfl ?_
    refine st (OK1.as (Has.t rfl)) rfl ?_
    refine nl ?_
    refine At.thn ?_
    rw [hrs] at hrs2
    refine hK5 (⟨(c + 1, gp2, rs2), by show c + 1 ≤ C; omega, hrs2⟩) _ _ ?_ (Cv.mem (.cons (t := 8) (Has.t' rfl ?_) (.cons (t := 4) (Has.t rfl) (.cons (t := 6) (Has.t rfl) (.cons (t := 7) (Has.t rfl) .nil)))) ?_)
    · show C - (c + 1) < C - c; omega
    · exact isI_eq (by omega)
    · rw [hrs]; rfl
  · have hc1 := BP.f hc1
    refine Tri.exit ?_
    refine At.the ?_
    refine At.the ?_
    refine At.blh ?_
    refine At.thn (hK3 _ _ ?_); clear hK3
    refine Tri.cv (Cv.wk (.cons (t := 6) (Has.t rfl) (.cons (t := 7) (Has.t rfl) .nil))) ?_
    refine Tri.seq fun K9 hK9 => ?_
    refine Tri.cv (Cv.freezeWkU (t := 7) rfl rfl) ?_
    refine Tri.region ?_
    refine st (OK1.mv (Has.t rfl)) rfl ?_
    refine st (OK1.as (Has.t rfl)) rfl ?_
    refine nl ?_
    refine At.thn (hK9 _ _ ?_); clear hK9
    refine Tri.ret ?_
    refine rt1 (.inl rfl) Try.results67 rfl (.tmp (Has.t' rfl ?_) .nil)
    all_goals (rw [hrs, fred_stop (p := fp q) hc (by rw [← hrs, List.length_map]; omega)])
end Go.Proofs.Ytfoclelageohiaa
/- Contracts: reduced forms, determinants over a field. -/
namespace Go.Proofs.Ytfoclelageohiaa
open Go.En Go.RowKit
set_option linter.unusedVariables false
set_option maxRecDepth 10000
open Go.Gf
open Go.Mz
open Go.Mu
open Go.Fe
set_option maxHeartbeats 4000000 in
theorem fmat_Reduce_1 {q R W i k : Nat} {s : FS} (hs : s.rows.length = R) (hw : ∀ r ∈ s.rows, r.length = W) (hi : i < R) (hk : k < W) : Ctr Try.prog 69 [isI (i : Int), isI (k : Int), PtrL [wkFU q s]] (isU (ent s i k)) := by
  refine Ctr.intro Try.func69 rfl (by kernel_rfl) Try.ntmps69 rfl fun w0 F0 => ?_
  refine Tri.cv (Cv.wk (.cons (t := 0) (Has.t rfl) (.cons (t := 1) (Has.t rfl) (.cons (t := 2) (Has.t rfl) .nil)))) ?_
  refine Tri.fact (Has.rngI (Has.t (t := 0) rfl)) fun lt0 => ?_
  refine Tri.fact (Has.rngI (Has.t (t := 1) rfl)) fun lt1 => ?_
  have hrl : (s.rows.getD i []).length = W := hw _ (by rw [List.getD, List.getElem?_eq_getElem (by omega)]; exact List.getElem_mem _)
  refine Tri.seq fun K1 hK1 => ?_
  refine Tri.region ?_
  refine st (OK1.as (Has.cU 0 rfl)) rfl ?_
  refine nl ?_
  refine At.thn (hK1 _ _ ?_); clear hK1
  refine Tri.seq fun K2 hK2 => ?_
  refine Tri.region ?_
  refine st (OK1.loadP1 (Has.t rfl) ty89) rfl ?_
  refine st (OK1.nilcP (Has.t rfl)) rfl ?_
  refine st (OK1.fieldAddrP (Has.t rfl) fld94_1 ty92 (Ss' := [_, _, _]) rfl) rfl ?_
  refine st (OK1.loadP1 (Has.t rfl) ty92) rfl ?_
  refine st (OK1.mv (Has.t rfl)) rfl ?_
  refine st (OK1.ixP sl92 ty22 (Has.t rfl) (Has.t rfl) ⟨by omega, by omega⟩ (getD_some (d := []) (by first | omega | (simp only [Int.toNat_natCast, List.length_set]; omega)))) rfl ?_
  refine st (OK1.eq (OK1.loadP1 (Has.t rfl) ty22) ((show isWs _ = isWs (s.rows.getD i []) from rfl))) rfl ?_
  refine st (OK1.mv (Has.t rfl)) rfl ?_
  refine st (OK1.ixP sl22 ty27 (Has.t rfl) (Has.t rfl) ⟨by omega, by omega⟩ (getD_some (d := 0) (by first | omega | (simp only [Int.toNat_natCast, List.length_set]; omega)))) rfl ?_
  refine st (OK1.loadP1 (Has.t rfl) ty27) rfl ?_
  refine st (OK1.as (Has.t rfl)) rfl ?_
  refine nl ?_
  refine At.thn (hK2 _ _ ?_); clear hK2
  refine Tri.cv (Cv.wk (.cons (t := 5) (Has.t rfl) .nil)) ?_
  refine Tri.ret ?_
  refine rt1 (.inl rfl) Try.results69 rfl (.tmp (Has.t' rfl ?_) .nil)
  all_goals (rfl)
set_option maxHeartbeats 4000000 in
theorem fmat_Reduce {q R C : Nat} {xs : List Nat} (hq : q < 4294967296) (hp2 : 2 ≤ fp q) (hR : R ≤ 64) (hC : C ≤ 64) (hxl : xs.length = R * C) : Ctr Try.prog 17 [Flat [isU q], isMW R C xs] (isTup [isMW R C (tabU (R * C) C fun i k => ent (redS (fp q) R C 0 xs []) i k % fp q), SlM isI (pv (redS (fp q) R C 0 xs []).ps), isI 0]) := by
  refine Ctr.intro Try.func17 rfl (by kernel_rfl) Try.ntmps17 rfl fun w0 F0 => ?_
  refine Tri.cv (Cv.wk (.cons (t := 0) (Has.t rfl) (.cons (t := 1) (Has.t rfl) .nil))) ?_
  have hRC := side_le hR hC
  have hok := fred_ok (p := fp q) (W := C + 0) (rowsU_len (fp q) R C 0 xs []) (fun r hr => rowsU_row hr) (1 % fp q) C
  obtain ⟨s, hs⟩ : ∃ s, s = redS (fp q) R C 0 xs [] := ⟨_, rfl⟩
  have hok1 : s.rows.length = R := by rw [hs]; exact hok.1
  have hok2 : ∀ r ∈ s.rows, r.length = C + 0 := by rw [hs]; exact hok.2.1
  have hok3 : s.ps.length ≤ R := by rw [hs]; exact hok.2.2
  rw [← hs]
  have hfo := formB_true hR hC hxl
  refine Tri.seq fun K1 hK1 => ?_
  refine Tri.region ?_
  refine Ops.box (Has.t rfl) rfl fun b1 => ?_
  refine Ops.box (Has.t rfl) rfl fun b2 => ?_
  refine Ops.alloc [isI 0, isI 0, SlM isU []] zero24 (fun _ _ => ⟨⟨rfl, by decide, by decide⟩, ⟨rfl, by decide, by decide⟩, nilM _ _, trivial⟩) rfl fun b3 => ?_
  refine st (OK1.as (Has.cW (f := isI))) rfl ?_
  refine st (OK1.as (Has.cI 0 rfl)) rfl ?_
  refine nl ?_
  refine At.thn (hK1 _ _ ?_); clear hK1
  refine Tri.seq fun K2 hK2 => ?_
  refine Tri.seq fun K3 hK3 => ?_
  refine Tri.region ?_
  refine st (OK1.load (Has.t rfl) (i := 1) rfl ty24 rfl (Ss' := [_, _, _]) rfl) rfl ?_
  refine st (OK1.eq (OK1.call (fmat_Formed) (.cons (Has.t rfl) .nil)) ((show isB _ = isB true from isB_eq hfo))) rfl ?_
  refine st (OK1.not (Has.t rfl)) rfl ?_
  refine nl ?_
  refine At.thn (hK3 _ _ ?_); clear hK3
  refine Tri.cond (Has.t rfl) (fun hc1 => ?_) (fun hc1 => ?_)
  · have hc1 := BP.t hc1
    simp at hc1
  · have hc1 := BP.f hc1
    refine Tri.skip ?_
    refine At.thn (hK2 _ _ ?_); clear hK2
    refine Tri.cv (Cv.wk (.cons (t := 2) (Has.t rfl) (.cons (t := 3) (Has.t rfl) (.cons (t := 4) (Has.t rfl) (.cons (t := 5) (Has.t rfl) (.cons (t := 6) (Has.t rfl) .nil)))))) ?_
    refine Tri.seq fun K4 hK4 => ?_
    refine Tri.region ?_
    refine st (OK1.load (Has.t rfl) (i := 2) rfl ty29 rfl (Ss' := [_]) rfl) rfl ?_
    refine st (OK1.load (Has.t rfl) (i := 1) rfl ty24 rfl (Ss' := [_, _, _]) rfl) rfl ?_
    refine st (OK1.fieldAddr (Has.t rfl) fld24_0 ty3) rfl ?_
    refine st (OK1.load1 (Has.t rfl) (i := 1) rfl ty3 rfl) rfl ?_
    refine st (OK1.build [isI 0, isI 0, SlM isU []] pl24 zero24 (fun _ _ => ⟨⟨rfl, by decide, by decide⟩, ⟨rfl, by decide, by decide⟩, nilM _ _, trivial⟩) (.cons (Has.t rfl) rfl rfl rfl .nil) (Z'' := [_, _, _]) rfl) rfl ?_
    refine st (OK1.eq (OK1.call (fmat_reduced (D := 0) (ys := []) hq hp2 hR hC (Nat.zero_le _) hxl (Nat.mul_zero _).symm) (.cons (Has.t rfl) (.cons (Has.t rfl) (.cons (Has.t rfl) .nil)))) ((show wkFU q _ = wkFU q s from by rw [hs]; rfl))) rfl ?_
    refine Ops.alloc [nilP] zero89 (fun _ _ => ⟨rfl, trivial⟩) rfl fun b4 => ?_
    refine Ops.store (Has.t rfl) (Has.t rfl) (i := 0) rfl ty89 rfl rfl (Ss' := [_]) rfl (M' := [(some _, cellM [_]), _, _, _]) rfl ?_
    refine nl ?_
    refine At.thn (hK4 _ _ ?_); clear hK4
    refine Tri.cv (Cv.wk (.cons (t := 2) (Has.t rfl) (.cons (t := 3) (Has.t rfl) (.cons (t := 4) (Has.t rfl) (.cons (t := 5) (Has.t rfl) (.cons (t := 6) (Has.t rfl) (.cons (t := 7) (Has.t rfl) .nil))))))) ?_
    refine Tri.seq fun K5 hK5 => ?_
    refine Tri.cv (Cv.freezeBox (t := 7) (i := 0) rfl rfl rfl) ?_
    refine Tri.memEq (M' := [_, _, _]) rfl ?_
    refine Tri.cv (Cv.wk (.cons (t := 2) (Has.t rfl) (.cons (t := 3) (Has.t rfl) (.cons (t := 4) (Has.t rfl) (.cons (t := 5) (Has.t rfl) (.cons (t := 6) (Has.t rfl) (.cons (t := 7) (Has.t rfl) .nil))))))) ?_
    refine Tri.drh [false, true, true] (Ms := [_, _]) rfl ?_
    refine DrH.st (i := 0) [] rfl rfl rfl (by kernel_rfl) (OKG.o rfl (OK1.load (Has.t rfl) (i := 1) rfl ty29 rfl (Ss' := [_]) rfl)) ?_
    refine DrH.st (i := 1) [] rfl rfl rfl (by kernel_rfl) (OKG.o rfl (OK1.fieldAddr (Has.t rfl) fld24_0 ty3)) ?_
    refine DrH.st (i := 2) [19] rfl rfl rfl (by kernel_rfl) (OKG.o rfl (OK1.load1 (Has.t rfl) (i := 0) rfl ty3 rfl)) ?_
    refine DrH.st (i := 3) [] rfl rfl rfl (by kernel_rfl) (OKG.o rfl (OK1.fieldAddr (Has.t rfl) fld24_1 ty3)) ?_
    refine DrH.st (i := 4) [21] rfl rfl rfl (by kernel_rfl) (OKG.o rfl (OK1.load1 (Has.t rfl) (i := 0) rfl ty3 rfl)) ?_
    refine DrH.st (i := 5) [] rfl rfl rfl (by kernel_rfl) (OKG.o rfl (OK1.makeFn (ι := PI R C) (As := fun p => [isI (p.1.1 : Int), isI (p.1.2 : Int)]) (R := fun p => isU (ent s p.1.1 p.1.2)) (fun p => fmat_Reduce_1 hok1 hok2 p.2.1 p.2.2) .nil (.cons (Has.t rfl) .nil))) ?_
    refine DrH.st (i := 6) [18, 20, 22, 23] rfl rfl rfl (by kernel_rfl) (OKG.o rfl (OK1.call (fmat_made (f := fun i k => ent s i k) hR hC) (.cons (Has.t rfl) (.cons (Has.t rfl) (.cons (Has.t rfl) (.cons (Has.t rfl) .nil)))))) ?_
    refine DrH.st (i := 7) [] rfl rfl rfl (by kernel_rfl) (OKG.o rfl (OK1.loadP1 (Has.t rfl) ty89)) ?_
    refine DrH.st (i := 8) [25] rfl rfl rfl (by kernel_rfl) (OKG.o rfl (OK1.nilcP (Has.t rfl))) ?_
    refine DrH.st (i := 9) [26] rfl rfl rfl (by kernel_rfl) (OKG.o rfl (OK1.fieldAddrP (Has.t rfl) fld94_2 ty32 (Ss' := [_, _]) rfl)) ?_
    refine DrH.st (i := 10) [27] rfl rfl rfl (by kernel_rfl) (OKG.o rfl (OK1.loadP1 (Has.t rfl) ty32)) ?_
    refine DrH.mid (.cons _ (.cons_cons _ (.cons_cons _ .slnil))) ?_
    refine DrM.st [24] rfl rfl (by kernel_rfl) (by kernel_rfl) (StS.store (Has.t rfl) (Has.t rfl) (i := 0) rfl ty24 rfl rfl (Ss' := [_, _, _]) rfl (M' := [(some _, cellM [_, _, _]), _, _]) rfl) (.cons _ (.cons_cons _ (.cons_cons _ .slnil))) ?_
    refine DrM.fin (n := 12) mixed rfl (by kernel_rfl) (by kernel_rfl) (by kernel_rfl) ?_
    refine Ops.cv (Cv.wk (.cons (t := 4) (Has.t rfl) (.cons (t := 5) (Has.t rfl) (.cons (t := 6) (Has.t rfl) (.cons (t := 28) (Has.t rfl) .nil))))) ?_
    refine st (OK1.as (Has.t rfl)) rfl ?_
    refine st (OK1.as (Has.cI 0 rfl)) rfl ?_
    refine nl ?_
    refine At.thn (hK5 _ _ ?_); clear hK5
    refine Tri.ret ?_
    refine rtN (.inl rfl) Try.results17 rfl rfl (.cell rfl (i := 0) rfl ty24 rfl ?_ (.tmp (Has.t' rfl ?_) (.tmp (Has.t' rfl ?_) .nil)))
    · rfl
    · rfl
    · rfl
set_option maxHeartbeats 4000000 in
theorem fmat_Det {q R : Nat} {xs : List Nat} (hq : q < 4294967296) (hp2 : 2 ≤ fp q) (hR : R ≤ 64) (hxl : xs.length = R * R) : Ctr Try.prog 62 [Flat [isU q], isMW R R xs] (isTup [isU (if (redS (fp q) R R 0 xs []).ps.length < R then 0 else (redS (fp q) R R 0 xs []).det), isI 0]) := by
  refine Ctr.intro Try.func62 rfl (by kernel_rfl) Try.ntmps62 rfl fun w0 F0 => ?_
  refine Tri.cv (Cv.wk (.cons (t := 0) (Has.t rfl) (.cons (t := 1) (Has.t rfl) .nil))) ?_
  have hRC := side_le hR hR
  have hok := fred_ok (p := fp q) (W := R + 0) (rowsU_len (fp q) R R 0 xs []) (fun r hr => rowsU_row hr) (1 % fp q) R
  obtain ⟨s, hs⟩ : ∃ s, s = redS (fp q) R R 0 xs [] := ⟨_, rfl⟩
  have hok1 : s.rows.length = R := by rw [hs]; exact hok.1
  have hok2 : ∀ r ∈ s.rows, r.length = R + 0 := by rw [hs]; exact hok.2.1
  have hok3 : s.ps.length ≤ R := by rw [hs]; exact hok.2.2
  rw [← hs]
  have hfo := formB_true hR hR hxl
  have hpv := pv_len s.ps
  refine Tri.seq fun K1 hK1 => ?_
  refine Tri.region ?_
  refine Ops.box (Has.t rfl) rfl fun b1 => ?_
  refine Ops.box (Has.t rfl) rfl fun b2 => ?_
  refine st (OK1.as (Has.cU 0 rfl)) rfl ?_
  refine st (OK1.as (Has.cI 0 rfl)) rfl ?_
  refine nl ?_
  refine At.thn (hK1 _ _ ?_); clear hK1
  refine Tri.seq fun K2 hK2 => ?_
  refine Tri.seq fun K3 hK3 => ?_
  refine Tri.region ?_
  refine st (OK1.load (Has.t rfl) (i := 0) rfl ty24 rfl (Ss' := [_, _, _]) rfl) rfl ?_
  refine st (OK1.eq (OK1.call (fmat_Formed) (.cons (Has.t rfl) .nil)) ((show isB _ = isB true from isB_eq hfo))) rfl ?_
  refine st (OK1.not (Has.t rfl)) rfl ?_
  refine st (OK1.mv (Has.t rfl)) rfl ?_
  refine stF rfl rfl (fun hg => have hg' := BP.t hg; OK1.fieldAddr (Has.t rfl) fld24_0 ty3) rfl ?_
  refine stF rfl rfl (fun hg => have hg' := BP.t hg; OK1.load1 (Has.g rfl hg) (i := 0) rfl ty3 rfl) rfl ?_
  refine stF rfl rfl (fun hg => have hg' := BP.t hg; OK1.fieldAddr (Has.t rfl) fld24_1 ty3) rfl ?_
  refine stF rfl rfl (fun hg => have hg' := BP.t hg; OK1.load1 (Has.g rfl hg) (i := 0) rfl ty3 rfl) rfl ?_
  refine stF rfl rfl (fun hg => have hg' := BP.t hg; OK1.neI (Has.g rfl hg) (Has.g rfl hg)) rfl ?_
  refine st (OK1.pickOr (Has.t rfl) (fun h => Has.g rfl (ng h))) rfl ?_
  refine nl ?_
  refine At.thn (hK3 _ _ ?_); clear hK3
  refine Tri.cv (Cv.wk (.cons (t := 2) (Has.t rfl) (.cons (t := 3) (Has.t rfl) (.cons (t := 4) (Has.t rfl) (.cons (t := 5) (Has.t rfl) (.cons (t := 16) (Has.t rfl) .nil)))))) ?_
  refine Tri.cond (Has.t rfl) (fun hc1 => ?_) (fun hc1 => ?_)
  · have hc1 := BP.t hc1
    simp at hc1
  · have hc1 := BP.f hc1
    refine Tri.skip ?_
    refine At.thn (hK2 _ _ ?_); clear hK2
    refine Tri.seq fun K4 hK4 => ?_
    refine Tri.region ?_
    refine st (OK1.load (Has.t rfl) (i := 1) rfl ty29 rfl (Ss' := [_]) rfl) rfl ?_
    refine st (OK1.load (Has.t rfl) (i := 0) rfl ty24 rfl (Ss' := [_, _, _]) rfl) rfl ?_
    refine st (OK1.fieldAddr (Has.t rfl) fld24_0 ty3) rfl ?_
    refine st (OK1.load1 (Has.t rfl) (i := 0) rfl ty3 rfl) rfl ?_
    refine st (OK1.build [isI 0, isI 0, SlM isU []] pl24 zero24 (fun _ _ => ⟨⟨rfl, by decide, by decide⟩, ⟨rfl, by decide, by decide⟩, nilM _ _, trivial⟩) (.cons (Has.t rfl) rfl rfl rfl .nil) (Z'' := [_, _, _]) rfl) rfl ?_
    refine st (OK1.eq (OK1.call (fmat_reduced (D := 0) (ys := []) hq hp2 hR hR (Nat.zero_le _) hxl (Nat.mul_zero _).symm) (.cons (Has.t rfl) (.cons (Has.t rfl) (.cons (Has.t rfl) .nil)))) ((show wkFU q _ = wkFU q s from by rw [hs]; rfl))) rfl ?_
    refine st (OK1.as (Has.t rfl)) rfl ?_
    refine nl ?_
    refine At.thn (hK4 _ _ ?_); clear hK4
    refine Tri.cv (Cv.wk (.cons (t := 3) (Has.t rfl) (.cons (t := 4) (Has.t rfl) (.cons (t := 5) (Has.t rfl) (.cons (t := 6) (Has.t rfl) .nil))))) ?_
    refine Tri.seq fun K5 hK5 => ?_
    refine Tri.seq fun K6 hK6 => ?_
    refine Tri.dr ?_
    refine DrG.st (i := 0) [] rfl rfl rfl (by kernel_rfl) (OKG.o rfl (OK1.mv (Has.t rfl))) ?_
    refine DrG.st (i := 1) [23] rfl rfl rfl (by kernel_rfl) (OKG.o rfl (OK1.nilcP (Has.t rfl))) ?_
    refine DrG.st (i := 2) [24] rfl rfl rfl (by kernel_rfl) (OKG.o rfl (OK1.fieldAddrP (Has.t rfl) fld94_2 ty32 (Ss' := [_, _]) rfl)) ?_
    refine DrG.st (i := 3) [25] rfl rfl rfl (by kernel_rfl) (OKG.o rfl (OK1.loadP1 (Has.t rfl) ty32)) ?_
    refine DrG.st (i := 4) [26] rfl rfl rfl (by kernel_rfl) (OKG.o rfl (OK1.len sl32 (Has.t rfl))) ?_
    refine DrG.st (i := 5) [] rfl rfl rfl (by kernel_rfl) (OKG.o rfl (OK1.fieldAddr (Has.t rfl) fld24_0 ty3)) ?_
    refine DrG.st (i := 6) [28] rfl rfl rfl (by kernel_rfl) (OKG.o rfl (OK1.load1 (Has.t rfl) (i := 0) rfl ty3 rfl)) ?_
    refine DrG.fin (n := 7) mixed (by kernel_rfl) (by kernel_rfl) (by kernel_rfl) ?_
    refine Ops.cv (Cv.wk (.cons (t := 4) (Has.t rfl) (.cons (t := 5) (Has.t rfl) (.cons (t := 6) (Has.t rfl) (.cons (t := 27) (Has.t rfl) (.cons (t := 29) (Has.t rfl) .nil)))))) ?_
    refine st (OK1.ltI (Has.t rfl) (Has.t rfl)) rfl ?_
    refine nl ?_
    refine At.thn (hK6 _ _ ?_); clear hK6
    refine Tri.cond (Has.t rfl) (fun hc2 => ?_) (fun hc2 => ?_)
    · have hc2 := BP.t hc2
      refine Tri.seq fun K7 hK7 => ?_
      refine Tri.region ?_
      refine st (OK1.as (Has.cU 0 rfl)) rfl ?_
      refine st (OK1.as (Has.cI 0 rfl)) rfl ?_
      refine nl ?_
      refine At.thn (hK7 _ _ ?_); clear hK7
      refine Tri.ret ?_
      refine At.thr ?_
      refine rtN (.inl rfl) Try.results62 rfl rfl (.tmp (Has.t' rfl ?_) (.tmp (Has.t' rfl ?_) .nil))
      all_goals (first | exact isU_eq (by rw [if_pos (by omega)]) | rfl)
    · have hc2 := BP.f hc2
      refine Tri.skip ?_
      refine At.thn (hK5 _ _ ?_); clear hK5
      refine Tri.seq fun K8 hK8 => ?_
      refine Tri.region ?_
      refine st (OK1.mv (Has.t rfl)) rfl ?_
      refine st (OK1.nilcP (Has.t rfl)) rfl ?_
      refine st (OK1.fieldAddrP (Has.t rfl) fld94_3 ty27 (Ss' := [_]) rfl) rfl ?_
      refine st (OK1.loadP1 (Has.t rfl) ty27) rfl ?_
      refine st (OK1.as (Has.t rfl)) rfl ?_
      refine st (OK1.as (Has.cI 0 rfl)) rfl ?_
      refine nl ?_
      refine At.thn (hK8 _ _ ?_); clear hK8
      refine Tri.cv (Cv.wk (.cons (t := 4) (Has.t rfl) (.cons (t := 5) (Has.t rfl) .nil))) ?_
      refine Tri.ret ?_
      refine rtN (.inl rfl) Try.results62 rfl rfl (.tmp (Has.t' rfl ?_) (.tmp (Has.t' rfl ?_) .nil))
      all_goals (first | exact isU_eq (by rw [if_neg (by omega)]) | rfl)
end Go.Proofs.Ytfoclelageohiaa
/- Contracts: what the laws of layer 21 share. -/
namespace Go.Proofs.Ytfoclelageohiaa
open Go.En Go.RowKit
set_option linter.unusedVariables false
set_option maxRecDepth 10000
open Go.Gf
open Go.Mz
open Go.Mu
open Go.Fe
set_option maxHeartbeats 4000000 in
theorem law09_Of {n : Nat} : Ctr Try.prog 15 [isK .u8 (n : Int)] (Flat [isU (ptab (n % 12))]) := by
  refine Ctr.intro Try.func15 rfl (by kernel_rfl) Try.ntmps15 rfl fun w0 F0 => ?_
  refine Tri.cv (Cv.wk (.cons (t := 0) (Has.t rfl) .nil)) ?_
  refine Tri.seq fun K1 hK1 => ?_
  refine Tri.region ?_
  refine Ops.alloc [isU 0] zero29 (fun _ _ => ⟨⟨rfl, by decide⟩, trivial⟩) rfl fun b1 => ?_
  refine nl ?_
  refine At.thn (hK1 _ _ ?_); clear hK1
  refine Tri.seq fun K2 hK2 => ?_
  refine Tri.region ?_
  refine st (OK1.mv (Has.t rfl)) rfl ?_
  refine st (OK1.call ref08_P (.cons (Has.t rfl) .nil)) rfl ?_
  refine st (OK1.call (gfp_New_yes (ptab_pr _)) (.cons (Has.t rfl) .nil)) rfl ?_
  refine st (OK1.mv (Has.t rfl)) rfl ?_
  refine st (OK1.ext (Has.t rfl) rfl) rfl ?_
  refine st (OK1.ext (Has.t rfl) rfl) rfl ?_
  refine Ops.alloc [isU 0] zero29 (fun _ _ => ⟨⟨rfl, by decide⟩, trivial⟩) rfl fun b2 => ?_
  refine Ops.store (Has.t rfl) (Has.t rfl) (i := 0) rfl ty29 rfl rfl (Ss' := [_]) rfl (M' := [(some _, cellM [_]), _]) rfl ?_
  refine st (OK1.as (Has.t rfl)) rfl ?_
  refine nl ?_
  refine At.thn (hK2 _ _ ?_); clear hK2
  refine Tri.cv (Cv.wk (.cons (t := 2) (Has.t rfl) (.cons (t := 3) (Has.t rfl) .nil))) ?_
  refine Tri.seq fun K3 hK3 => ?_
  refine Tri.region ?_
  refine st (OK1.load (Has.t rfl) (i := 0) rfl ty29 rfl (Ss' := [_]) rfl) rfl ?_
  refine Ops.store (Has.t rfl) (Has.t rfl) (i := 1) rfl ty29 rfl rfl (Ss' := [_]) rfl (M' := [_, (some _, cellM [_])]) rfl ?_
  refine nl ?_
  refine At.thn (hK3 _ _ ?_); clear hK3
  refine Tri.ret ?_
  refine rt1 (.inl rfl) Try.results15 rfl (.cell rfl (i := 1) rfl ty29 rfl ?_ .nil)
  all_goals (rfl)
set_option maxHeartbeats 4000000 in
theorem law21_awake  : Ctr Try.prog 13 [] (isB true) := by
  refine Ctr.intro Try.func13 rfl (by kernel_rfl) Try.ntmps13 rfl fun w0 F0 => ?_
  refine Tri.cv (Cv.wk .nil) ?_
  refine Tri.seq fun K1 hK1 => ?_
  refine Tri.region ?_
  refine st (OK1.as (Has.cB false)) rfl ?_
  refine nl ?_
  refine At.thn (hK1 _ _ ?_); clear hK1
  refine Tri.seq fun K2 hK2 => ?_
  refine Tri.region ?_
  refine st (OK1.eq (OK1.call (law09_Of (n := 3)) (.cons (Has.cK .u8 3 rfl) .nil)) ((show Flat [isU _] = Flat [isU 7] from rfl))) rfl ?_
  refine Ops.alloc [isU 0] zero29 (fun _ _ => ⟨⟨rfl, by decide⟩, trivial⟩) rfl fun b1 => ?_
  refine Ops.store (Has.t rfl) (Has.t rfl) (i := 0) rfl ty29 rfl rfl (Ss' := [_]) rfl (M' := [(some _, cellM [_])]) rfl ?_
  refine nl ?_
  refine At.thn (hK2 _ _ ?_); clear hK2
  refine Tri.seq fun K3 hK3 => ?_
  refine Tri.region ?_
  refine st (OK1.load (Has.t rfl) (i := 0) rfl ty29 rfl (Ss' := [_]) rfl) rfl ?_
  refine st (OK1.buildS [isU 0, isU 0, isU 0, isU 0] sl22 ty27 zero27 (fun _ _ => ⟨⟨rfl, by decide⟩, ⟨rfl, by decide⟩, ⟨rfl, by decide⟩, ⟨rfl, by decide⟩, trivial⟩) rfl rfl (.cons (Has.cU 1 rfl) rfl rfl rfl (.cons (Has.cU 2 rfl) rfl rfl rfl (.cons (Has.cU 3 rfl) rfl rfl rfl (.cons (Has.cU 4 rfl) rfl rfl rfl .nil)))) rfl (S := SlM isU [1, 2, 3, 4]) rfl) rfl ?_
  refine st (OK1.build [isI 0, isI 0, SlM isU []] pl24 zero24 (fun _ _ => ⟨⟨rfl, by decide, by decide⟩, ⟨rfl, by decide, by decide⟩, nilM _ _, trivial⟩) (.cons (Has.cI 2 rfl) rfl rfl rfl (.cons (Has.cI 2 rfl) rfl rfl rfl (.cons (Has.t rfl) rfl rfl rfl .nil))) (Z'' := [_, _, _]) rfl) rfl ?_
  refine st (OK1.eq (OK1.call (fmat_Det (q := 7) (R := 2) (xs := [1, 2, 3, 4]) (by decide) (by decide) (by decide) rfl) (.cons (Has.t rfl) (.cons (Has.t rfl) .nil))) ((show isTup [isU _, isI 0] = isTup [isU 5, isI 0] from by rw [show (if (redS (fp 7) 2 2 0 [1, 2, 3, 4] []).ps.length < 2 then 0 else (redS (fp 7) 2 2 0 [1, 2, 3, 4] []).det) = 5 from by decide]))) rfl ?_
  refine st (OK1.mv (Has.t rfl)) rfl ?_
  refine st (OK1.ext (Has.t rfl) rfl) rfl ?_
  refine st (OK1.ext (Has.t rfl) rfl) rfl ?_
  refine st (OK1.as (Has.t rfl)) rfl ?_
  refine st (OK1.as (Has.t rfl)) rfl ?_
  refine nl ?_
  refine At.thn (hK3 _ _ ?_); clear hK3
  refine Tri.cv (Cv.wk (.cons (t := 0) (Has.t rfl) (.cons (t := 2) (Has.t rfl) (.cons (t := 3) (Has.t rfl) .nil)))) ?_
  refine Tri.seq fun K4 hK4 => ?_
  refine Tri.region ?_
  refine st (OK1.mv (Has.t rfl)) rfl ?_
  refine st (OK1.eqI (Has.t rfl) (Has.cI 0 rfl)) rfl ?_
  refine st (OK1.mv (Has.t rfl)) rfl ?_
  refine stT rfl rfl (fun hg => have hg' := BP.t hg; OK1.mv (Has.t rfl)) rfl ?_
  refine stT rfl rfl (fun hg => have hg' := BP.t hg; OK1.eqU (Has.g rfl hg) (Has.cU 5 rfl)) rfl ?_
  refine st (OK1.pickAnd (Has.t rfl) (fun h => Has.g rfl h)) rfl ?_
  refine st (OK1.as (Has.t rfl)) rfl ?_
  refine nl ?_
  refine At.thn (hK4 _ _ ?_); clear hK4
  refine Tri.cv (Cv.wk (.cons (t := 0) (Has.t rfl) .nil)) ?_
  refine Tri.ret ?_
  refine rt1 (.inl rfl) Try.results13 rfl (.tmp (Has.t' rfl ?_) .nil)
  all_goals (rfl)
end Go.Proofs.Ytfoclelageohiaa
/- Contracts: equations, kernels over a field. -/
namespace Go.Proofs.Ytfoclelageohiaa
open Go.En Go.RowKit
set_option linter.unusedVariables false
set_option maxRecDepth 10000
open Go.Gf
open Go.Mz
open Go.Mu
open Go.Fe
theorem ixf_lt {α : Type} {q : α → Bool} {xs : List α} (h : 0 ≤ ixf q xs) : ixn q xs < xs.length := Classical.byContradiction fun h1 => by
  unfold ixf at h
  rw [if_neg h1] at h; omega
theorem ixf_of_lt {α : Type} {q : α → Bool} {xs : List α} (h : ixn q xs < xs.length) : 0 ≤ ixf q xs := by
  unfold ixf
  rw [if_pos h]; omega
set_option maxHeartbeats 4000000 in
theorem sl_IndexI {xs : List Int} {v : Int} : Ctr Try.prog 75 [SlM isI xs, isI v] (isI (ixf (fun x => decide (v = x)) xs)) := by
  refine Ctr.intro Try.func75 rfl (by kernel_rfl) Try.ntmps75 rfl fun w0 F0 => ?_
  refine Tri.cv (Cv.wk (.cons (t := 0) (Has.t rfl) (.cons (t := 1) (Has.t rfl) .nil))) ?_
  refine Tri.fact (Has.lenLt (Has.t (t := 0) rfl)) fun lt0 => ?_
  refine Tri.fact (Has.rngI (Has.t (t := 1) rfl)) fun lt1 => ?_
  refine Tri.seq fun K1 hK1 => ?_
  refine Tri.region ?_
  refine st (OK1.as (Has.cI 0 rfl)) rfl ?_
  refine nl ?_
  refine At.thn (hK1 _ _ ?_); clear hK1
  refine Tri.seq fun K2 hK2 => ?_
  refine Tri.seq fun K3 hK3 => ?_
  refine Tri.region ?_
  refine st (OK1.mv (Has.t rfl)) rfl ?_
  refine st (OK1.len sl32 (Has.t rfl)) rfl ?_
  refine st (OK1.mv (Has.cI 0 rfl)) rfl ?_
  refine nl ?_
  refine At.thn (hK3 _ _ ?_); clear hK3
  refine Tri.block ?_
  refine Tri.loopF [0, 1, 7] (fun (z : { i : Nat // i ≤ xs.length ∧ ∀ j, j < i → decide (v = xs.getD j 0) = false }) => match z with | ⟨i, hI⟩ => [(8, isI (i : Int))]) (fun M => fun (z : { i : Nat // i ≤ xs.length ∧ ∀ j, j < i → decide (v = xs.getD j 0) = false }) => match z with | ⟨i, hI⟩ => M) (fun (z : { i : Nat // i ≤ xs.length ∧ ∀ j, j < i → decide (v = xs.getD j 0) = false }) => match z with | ⟨i, hI⟩ => xs.length - i) (⟨0, Nat.zero_le _, fun j hj => absurd hj (Nat.not_lt_zero _)⟩) (Cv.mem (.cons (t := 8) (Has.t' rfl ?_) (.cons (t := 0) (Has.t rfl) (.cons (t := 1) (Has.t rfl) (.cons (t := 7) (Has.t rfl) .nil)))) ?_) ?_
  · rfl
  · rfl
  rintro ⟨i, hi, hq⟩ K4 hK4
  refine Tri.cv (Cv.wk (.cons (t := 8) (Has.t rfl) (.cons (t := 0) (Has.t rfl) (.cons (t := 1) (Has.t rfl) (.cons (t := 7) (Has.t rfl) .nil))))) ?_
  refine Tri.seq fun K5 hK5 => ?_
  refine Tri.region ?_
  refine st (OK1.ltI (Has.t rfl) (Has.t rfl)) rfl ?_
  refine nl ?_
  refine At.thn (hK5 _ _ ?_); clear hK5
  refine Tri.seq fun K6 hK6 => ?_
  refine Tri.cond (Has.t rfl) (fun hc1 => ?_) (fun hc1 => ?_)
  · have hc1 := BP.t hc1
    refine Tri.skip ?_
    refine At.thn (hK6 _ _ ?_); clear hK6
    refine Tri.seq fun K7 hK7 => ?_
    refine Tri.block ?_
    refine Tri.seq fun K8 hK8 => ?_
    refine Tri.region ?_
    refine st (OK1.mv (Has.t rfl)) rfl ?_
    refine st (OK1.as (Has.t rfl)) rfl ?_
    refine nl ?_
    refine At.thn (hK8 _ _ ?_); clear hK8
    refine Tri.seq fun K9 hK9 => ?_
    refine Tri.region ?_
    refine st (OK1.mv (Has.t rfl)) rfl ?_
    refine st (OK1.mv (Has.t rfl)) rfl ?_
    refine st (OK1.mv (Has.t rfl)) rfl ?_
    refine st (OK1.ixP sl32 ty3 (Has.t rfl) (Has.t rfl) ⟨by omega, by omega⟩ (getD_some (d := 0) (by first | omega | (simp only [Int.toNat_natCast, List.length_set]; omega)))) rfl ?_
    refine st (OK1.loadP1 (Has.t rfl) ty3) rfl ?_
    refine st (OK1.eqI (Has.t rfl) (Has.t rfl)) rfl ?_
    refine nl ?_
    refine At.thn (hK9 _ _ ?_); clear hK9
    refine Tri.cond (Has.t rfl) (fun hc2 => ?_) (fun hc2 => ?_)
    · have hc2 := BP.t hc2
      have HQ := hc2
      refine Tri.seq fun K10 hK10 => ?_
      refine Tri.region ?_
      refine st (OK1.mv (Has.t rfl)) rfl ?_
      refine st (OK1.as (Has.t rfl)) rfl ?_
      refine nl ?_
      refine At.thn (hK10 _ _ ?_); clear hK10
      refine Tri.ret ?_
      refine At.blr ?_
      refine At.thr ?_
      refine At.thr ?_
      refine At.blr ?_
      refine At.thr ?_
      refine rt1 (.inl rfl) Try.results75 rfl (.tmp (Has.t' rfl ?_) .nil)
      all_goals (exact isI_eq (ixf_at (q := fun x => decide (v = x)) (d := 0) (by omega) hq (by simpa using HQ)))
    · have hc2 := BP.f hc2
      have HQ := hc2
      refine Tri.skip ?_
      refine At.bln ?_
      refine At.thn (hK7 _ _ ?_); clear hK7
      refine Tri.region ?_
      refine st (OK1.addI (Has.t rfl) (Has.cI 1 rfl) (by first | omega | assumption) (by first | omega | assumption)) rfl ?_
      refine st (OK1.mv (Has.t rfl)) rfl ?_
      refine nl ?_
      refine At.thn ?_
      refine hK4 (⟨i + 1, by omega, fun j hj => by rcases Nat.lt_or_ge j i with h | h; exact hq j h; obtain rfl : j = i := (by omega); simpa using HQ⟩) _ _ ?_ (Cv.mem (.cons (t := 8) (Has.t' rfl ?_) (.cons (t := 0) (Has.t rfl) (.cons (t := 1) (Has.t rfl) (.cons (t := 7) (Has.t rfl) .nil)))) ?_)
      · show xs.length - (i + 1) < xs.length - i; omega
      · exact isI_eq (by omega)
      · rfl
  · have hc1 := BP.f hc1
    refine Tri.exit ?_
    refine At.the ?_
    refine At.the ?_
    refine At.blh ?_
    refine At.thn (hK2 _ _ ?_); clear hK2
    refine Tri.cv (Cv.wk .nil) ?_
    refine Tri.seq fun K11 hK11 => ?_
    refine Tri.region ?_
    refine st (OK1.as (Has.cI (-1) rfl)) rfl ?_
    refine nl ?_
    refine At.thn (hK11 _ _ ?_); clear hK11
    refine Tri.ret ?_
    refine rt1 (.inl rfl) Try.results75 rfl (.tmp (Has.t' rfl ?_) .nil)
    all_goals (exact isI_eq (ixf_none (q := fun x => decide (v = x)) (d := 0) (i := i) (by omega) hq))
set_option maxHeartbeats 4000000 in
theorem sl_IndexFuncU {xs : List Nat} {t : Nat → Bool} : Ctr Try.prog 119 [SlM isU xs, isFun (ι := Nat) Try.prog (fun p => [isU p]) (fun p => isB (t p))] (isI (ixf t xs)) := by
  refine Ctr.intro Try.func119 rfl (by kernel_rfl) Try.ntmps119 rfl fun w0 F0 => ?_
  refine Tri.cv (Cv.wk (.cons (t := 0) (Has.t rfl) (.cons (t := 1) (Has.t rfl) .nil))) ?_
  refine Tri.fact (Has.lenLt (Has.t (t := 0) rfl)) fun lt0 => ?_
  refine Tri.seq fun K1 hK1 => ?_
  refine Tri.region ?_
  refine st (OK1.as (Has.cI 0 rfl)) rfl ?_
  refine nl ?_
  refine At.thn (hK1 _ _ ?_); clear hK1
  refine Tri.seq fun K2 hK2 => ?_
  refine Tri.seq fun K3 hK3 => ?_
  refine Tri.region ?_
  refine st (OK1.mv (Has.t rfl)) rfl ?_
  refine st (OK1.len sl22 (Has.t rfl)) rfl ?_
  refine st (OK1.mv (Has.cI 0 rfl)) rfl ?_
  refine nl ?_
  refine At.thn (hK3 _ _ ?_); clear hK3
  refine Tri.block ?_
  refine Tri.loopF [0, 1, 7] (fun (z : { i : Nat // i ≤ xs.length ∧ ∀ j, j < i → t (xs.getD j 0) = false }) => match z with | ⟨i, hI⟩ => [(8, isI (i : Int))]) (fun M => fun (z : { i : Nat // i ≤ xs.length ∧ ∀ j, j < i → t (xs.getD j 0) = false }) => match z with | ⟨i, hI⟩ => M) (fun (z : { i : Nat // i ≤ xs.length ∧ ∀ j, j < i → t (xs.getD j 0) = false }) => match z with | ⟨i, hI⟩ => xs.length - i) (⟨0, Nat.zero_le _, fun j hj => absurd hj (Nat.not_lt_zero _)⟩) (Cv.mem (.cons (t := 8) (Has.t' rfl ?_) (.cons (t := 0) (Has.t rfl) (.cons (t := 1) (Has.t rfl) (.cons (t := 7) (Has.t rfl) .nil)))) ?_) ?_
  · rfl
  · rfl
  rintro ⟨i, hi, hq⟩ K4 hK4
  refine Tri.cv (Cv.wk (.cons (t := 8) (Has.t rfl) (.cons (t := 0) (Has.t rfl) (.cons (t := 1) (Has.t rfl) (.cons (t := 7) (Has.t rfl) .nil))))) ?_
  refine Tri.seq fun K5 hK5 => ?_
  refine Tri.region ?_
  refine st (OK1.ltI (Has.t rfl) (Has.t rfl)) rfl ?_
  refine nl ?_
  refine At.thn (hK5 _ _ ?_); clear hK5
  refine Tri.seq fun K6 hK6 => ?_
  refine Tri.cond (Has.t rfl) (fun hc1 => ?_) (fun hc1 => ?_)
  · have hc1 := BP.t hc1
    refine Tri.skip ?_
    refine At.thn (hK6 _ _ ?_); clear hK6
    refine Tri.seq fun K7 hK7 => ?_
    refine Tri.block ?_
    refine Tri.seq fun K8 hK8 => ?_
    refine Tri.region ?_
    refine st (OK1.mv (Has.t rfl)) rfl ?_
    refine st (OK1.as (Has.t rfl)) rfl ?_
    refine nl ?_
    refine At.thn (hK8 _ _ ?_); clear hK8
    refine Tri.seq fun K9 hK9 => ?_
    refine Tri.region ?_
    refine st (OK1.mv (Has.t rfl)) rfl ?_
    refine st (OK1.mv (Has.t rfl)) rfl ?_
    refine st (OK1.mv (Has.t rfl)) rfl ?_
    refine st (OK1.ixP sl22 ty27 (Has.t rfl) (Has.t rfl) ⟨by omega, by omega⟩ (getD_some (d := 0) (by first | omega | (simp only [Int.toNat_natCast, List.length_set]; omega)))) rfl ?_
    refine st (OK1.loadP1 (Has.t rfl) ty27) rfl ?_
    refine st (OK1.callV (xs.getD i 0) (Has.t rfl) (.cons (Has.t rfl) .nil)) rfl ?_
    refine nl ?_
    refine At.thn (hK9 _ _ ?_); clear hK9
    refine Tri.cond (Has.t rfl) (fun hc2 => ?_) (fun hc2 => ?_)
    · have hc2 := BP.t hc2
      have HQ := hc2
      refine Tri.seq fun K10 hK10 => ?_
      refine Tri.region ?_
      refine st (OK1.mv (Has.t rfl)) rfl ?_
      refine st (OK1.as (Has.t rfl)) rfl ?_
      refine nl ?_
      refine At.thn (hK10 _ _ ?_); clear hK10
      refine Tri.ret ?_
      refine At.blr ?_
      refine At.thr ?_
      refine At.thr ?_
      refine At.blr ?_
      refine At.thr ?_
      refine rt1 (.inl rfl) Try.results119 rfl (.tmp (Has.t' rfl ?_) .nil)
      all_goals (exact isI_eq (ixf_at (d := 0) (by omega) hq (by simpa using HQ)))
    · have hc2 := BP.f hc2
      have HQ := hc2
      refine Tri.skip ?_
      refine At.bln ?_
      refine At.thn (hK7 _ _ ?_); clear hK7
      refine Tri.region ?_
      refine st (OK1.addI (Has.t rfl) (Has.cI 1 rfl) (by first | omega | assumption) (by first | omega | assumption)) rfl ?_
      refine st (OK1.mv (Has.t rfl)) rfl ?_
      refine nl ?_
      refine At.thn ?_
      refine hK4 (⟨i + 1, by omega, fun j hj => by rcases Nat.lt_or_ge j i with h | h; exact hq j h; obtain rfl : j = i := (by omega); simpa using HQ⟩) _ _ ?_ (Cv.mem (.cons (t := 8) (Has.t' rfl ?_) (.cons (t := 0) (Has.t rfl) (.cons (t := 1) (Has.t rfl) (.cons (t := 7) (Has.t rfl) .nil)))) ?_)
      · show xs.length - (i + 1) < xs.length - i; omega
      · exact isI_eq (by omega)
      · rfl
  · have hc1 := BP.f hc1
    refine Tri.exit ?_
    refine At.the ?_
    refine At.the ?_
    refine At.blh ?_
    refine At.thn (hK2 _ _ ?_); clear hK2
    refine Tri.cv (Cv.wk .nil) ?_
    refine Tri.seq fun K11 hK11 => ?_
    refine Tri.region ?_
    refine st (OK1.as (Has.cI (-1) rfl)) rfl ?_
    refine nl ?_
    refine At.thn (hK11 _ _ ?_); clear hK11
    refine Tri.ret ?_
    refine rt1 (.inl rfl) Try.results119 rfl (.tmp (Has.t' rfl ?_) .nil)
    all_goals (exact isI_eq (ixf_none (d := 0) (i := i) (by omega) hq))
set_option maxHeartbeats 4000000 in
theorem sl_ContainsFuncU {xs : List Nat} {t : Nat → Bool} : Ctr Try.prog 72 [SlM isU xs, isFun (ι := Nat) Try.prog (fun p => [isU p]) (fun p => isB (t p))] (isB (decide (0 ≤ ixf t xs))) := by
  refine Ctr.intro Try.func72 rfl (by kernel_rfl) Try.ntmps72 rfl fun w0 F0 => ?_
  refine Tri.cv (Cv.wk (.cons (t := 0) (Has.t rfl) (.cons (t := 1) (Has.t rfl) .nil))) ?_
  refine Tri.fact (Has.lenLt (Has.t (t := 0) rfl)) fun lt0 => ?_
  refine Tri.seq fun K1 hK1 => ?_
  refine Tri.region ?_
  refine st (OK1.as (Has.cB false)) rfl ?_
  refine nl ?_
  refine At.thn (hK1 _ _ ?_); clear hK1
  refine Tri.seq fun K2 hK2 => ?_
  refine Tri.region ?_
  refine st (OK1.mv (Has.t rfl)) rfl ?_
  refine st (OK1.mv (Has.t rfl)) rfl ?_
  refine st (OK1.call (sl_IndexFuncU) (.cons (Has.t rfl) (.cons (Has.t rfl) .nil))) rfl ?_
  refine st (OK1.geI (Has.t rfl) (Has.cI 0 rfl)) rfl ?_
  refine st (OK1.as (Has.t rfl)) rfl ?_
  refine nl ?_
  refine At.thn (hK2 _ _ ?_); clear hK2
  refine Tri.cv (Cv.wk (.cons (t := 4) (Has.t rfl) .nil)) ?_
  refine Tri.ret ?_
  refine rt1 (.inl rfl) Try.results72 rfl (.tmp (Has.t' rfl ?_) .nil)
  all_goals (rfl)
set_option maxHeartbeats 4000000 in
theorem fmat_Solve_1 {x : Nat} : Ctr Try.prog 73 [isU x] (isB (nzw x)) := by
  refine Ctr.intro Try.func73 rfl (by kernel_rfl) Try.ntmps73 rfl fun w0 F0 => ?_
  refine Tri.cv (Cv.wk (.cons (t := 0) (Has.t rfl) .nil)) ?_
  refine Tri.fact (Has.ltU (Has.t (t := 0) rfl)) fun lt0 => ?_
  refine Tri.seq fun K1 hK1 => ?_
  refine Tri.region ?_
  refine st (OK1.as (Has.cB false)) rfl ?_
  refine nl ?_
  refine At.thn (hK1 _ _ ?_); clear hK1
  refine Tri.seq fun K2 hK2 => ?_
  refine Tri.region ?_
  refine st (OK1.mv (Has.t rfl)) rfl ?_
  refine st (OK1.neU (Has.t rfl) (Has.cU 0 rfl)) rfl ?_
  refine st (OK1.as (Has.t rfl)) rfl ?_
  refine nl ?_
  refine At.thn (hK2 _ _ ?_); clear hK2
  refine Tri.ret ?_
  refine rt1 (.inl rfl) Try.results73 rfl (.tmp (Has.t' rfl ?_) .nil)
  all_goals (exact isB_eq (by simp [nzw]))
set_option maxHeartbeats 4000000 in
theorem fmat_Solve_2 {q R C W i k : Nat} {s : FS} (hs : s.rows.length = R) (hw : ∀ r ∈ s.rows, r.length = W) {r : Int} {xs : List Nat} (hps : s.ps.length ≤ R) (hC : C ≤ 64) (hk : C + k < W) (hW : W ≤ 128) : Ctr Try.prog 74 [isI (i : Int), isI (k : Int), PtrL [wkFU q s], ptMW r (C : Int) xs] (isU (solE s C i k)) := by
  refine Ctr.intro Try.func74 rfl (by kernel_rfl) Try.ntmps74 rfl fun w0 F0 => ?_
  refine Tri.cv (Cv.wk (.cons (t := 0) (Has.t rfl) (.cons (t := 1) (Has.t rfl) (.cons (t := 2) (Has.t rfl) (.cons (t := 3) (Has.t rfl) .nil))))) ?_
  refine Tri.fact (Has.rngI (Has.t (t := 0) rfl)) fun lt0 => ?_
  refine Tri.fact (Has.rngI (Has.t (t := 1) rfl)) fun lt1 => ?_
  obtain ⟨z0, hz0⟩ : ∃ z0 : Int, z0 = ixf (fun x => decide ((i : Int) = x)) (pv s.ps) := ⟨_, rfl⟩
  have hpv := pv_len s.ps
  refine Tri.seq fun K1 hK1 => ?_
  refine Tri.region ?_
  refine st (OK1.as (Has.cU 0 rfl)) rfl ?_
  refine nl ?_
  refine At.thn (hK1 _ _ ?_); clear hK1
  refine Tri.seq fun K2 hK2 => ?_
  refine Tri.seq fun K3 hK3 => ?_
  refine Tri.region ?_
  refine st (OK1.loadP1 (Has.t rfl) ty89) rfl ?_
  refine st (OK1.nilcP (Has.t rfl)) rfl ?_
  refine st (OK1.fieldAddrP (Has.t rfl) fld94_2 ty32 (Ss' := [_, _]) rfl) rfl ?_
  refine st (OK1.loadP1 (Has.t rfl) ty32) rfl ?_
  refine st (OK1.mv (Has.t rfl)) rfl ?_
  refine st (OK1.eq (OK1.call (sl_IndexI) (.cons (Has.t rfl) (.cons (Has.t rfl) .nil))) ((show isI _ = isI z0 from isI_eq hz0.symm))) rfl ?_
  refine st (OK1.as (Has.t rfl)) rfl ?_
  refine nl ?_
  refine At.thn (hK3 _ _ ?_); clear hK3
  refine Tri.cv (Cv.wk (.cons (t := 1) (Has.t rfl) (.cons (t := 2) (Has.t rfl) (.cons (t := 3) (Has.t rfl) (.cons (t := 6) (Has.t rfl) (.cons (t := 7) (Has.t rfl) .nil)))))) ?_
  refine Tri.seq fun K4 hK4 => ?_
  refine Tri.region ?_
  refine st (OK1.mv (Has.t rfl)) rfl ?_
  refine st (OK1.geI (Has.t rfl) (Has.cI 0 rfl)) rfl ?_
  refine nl ?_
  refine At.thn (hK4 _ _ ?_); clear hK4
  refine Tri.cond (Has.t rfl) (fun hc1 => ?_) (fun hc1 => ?_)
  · have hc1 := BP.t hc1
    obtain ⟨n0, rfl, hn0, hn1⟩ := ixf_yes hz0 (by omega)
    have hidx : idxP s.ps i = n0 := hn0.symm
    have hrl : (s.rows.getD n0 []).length = W := hw _ (by rw [List.getD, List.getElem?_eq_getElem (by omega)]; exact List.getElem_mem _)
    refine Tri.seq fun K5 hK5 => ?_
    refine Tri.dr ?_
    refine DrG.st (i := 0) [] rfl rfl rfl (by kernel_rfl) (OKG.o rfl (OK1.loadP1 (Has.t rfl) ty89)) ?_
    refine DrG.st (i := 1) [16] rfl rfl rfl (by kernel_rfl) (OKG.o rfl (OK1.nilcP (Has.t rfl))) ?_
    refine DrG.st (i := 2) [17] rfl rfl rfl (by kernel_rfl) (OKG.o rfl (OK1.fieldAddrP (Has.t rfl) fld94_1 ty92 (Ss' := [_, _, _]) rfl)) ?_
    refine DrG.st (i := 3) [18] rfl rfl rfl (by kernel_rfl) (OKG.o rfl (OK1.loadP1 (Has.t rfl) ty92)) ?_
    refine DrG.st (i := 4) [] rfl rfl rfl (by kernel_rfl) (OKG.o rfl (OK1.mv (Has.t rfl))) ?_
    refine DrG.st (i := 5) [19, 20] rfl rfl rfl (by kernel_rfl) (OKG.o rfl (OK1.ixP sl92 ty22 (Has.t rfl) (Has.t rfl) ⟨by omega, by omega⟩ (getD_some (d := []) (by first | omega | (simp only [Int.toNat_natCast, List.length_set]; omega))))) ?_
    refine DrG.st (i := 6) [21] rfl rfl rfl (by kernel_rfl) (OKG.o rfl (OK1.eq (OK1.loadP1 (Has.t rfl) ty22) ((show isWs _ = isWs (s.rows.getD n0 []) from rfl)))) ?_
    refine DrG.st (i := 7) [] rfl rfl rfl (by kernel_rfl) (OKG.o rfl (OK1.fieldAddrP (Has.t rfl) fld24_1 ty3 (Ss' := [_, _]) rfl)) ?_
    refine DrG.st (i := 8) [23] rfl rfl rfl (by kernel_rfl) (OKG.o rfl (OK1.loadP1 (Has.t rfl) ty3)) ?_
    refine DrG.st (i := 9) [] rfl rfl rfl (by kernel_rfl) (OKG.o rfl (OK1.mv (Has.t rfl))) ?_
    refine DrG.st (i := 10) [24, 25] rfl rfl rfl (by kernel_rfl) (OKG.o rfl (OK1.eq (OK1.addI (Has.t rfl) (Has.t rfl) (by first | omega | assumption) (by first | omega | assumption)) ((show isI _ = isI ((C + k : Nat) : Int) from isI_eq (by omega))))) ?_
    refine DrG.fin (n := 11) mixed (by kernel_rfl) (by kernel_rfl) (by kernel_rfl) ?_
    refine Ops.cv (Cv.wk (.cons (t := 6) (Has.t rfl) (.cons (t := 22) (Has.t rfl) (.cons (t := 26) (Has.t rfl) .nil)))) ?_
    refine st (OK1.ixP sl22 ty27 (Has.t rfl) (Has.t rfl) ⟨by omega, by omega⟩ (getD_some (d := 0) (by first | omega | (simp only [Int.toNat_natCast, List.length_set]; omega)))) rfl ?_
    refine st (OK1.loadP1 (Has.t rfl) ty27) rfl ?_
    refine st (OK1.as (Has.t rfl)) rfl ?_
    refine nl ?_
    refine At.thn (hK5 _ _ ?_); clear hK5
    refine Tri.ret ?_
    refine At.thr ?_
    refine rt1 (.inl rfl) Try.results74 rfl (.tmp (Has.t' rfl ?_) .nil)
    all_goals (exact isU_eq (by unfold solE; rw [hidx, if_pos (by omega)]; rfl))
  · have hc1 := BP.f hc1
    have hidx : ¬ idxP s.ps i < s.ps.length := fun h => ixf_no hz0 (by omega) (by rw [hpv]; exact h)
    refine Tri.skip ?_
    refine At.thn (hK2 _ _ ?_); clear hK2
    refine Tri.cv (Cv.wk (.cons (t := 6) (Has.t rfl) .nil)) ?_
    refine Tri.seq fun K6 hK6 => ?_
    refine Tri.region ?_
    refine st (OK1.as (Has.cU 0 rfl)) rfl ?_
    refine nl ?_
    refine At.thn (hK6 _ _ ?_); clear hK6
    refine Tri.ret ?_
    refine rt1 (.inl rfl) Try.results74 rfl (.tmp (Has.t' rfl ?_) .nil)
    all_goals (exact isU_eq (by unfold solE; rw [if_neg hidx]))
set_option maxHeartbeats 4000000 in
theorem fmat_Solve {q R C D : Nat} {xs ys : List Nat} (hq : q < 4294967296) (hp2 : 2 ≤ fp q) (hR : R ≤ 64) (hC : C ≤ 64) (hD : D ≤ 64) (hxl : xs.length = R * C) (hyl : ys.length = R * D) (hgood : ¬ badS (redS (fp q) R C D xs ys) C) : Ctr Try.prog 28 [Flat [isU q], isMW R C xs, isMW R D ys] (isTup [isMW C D (tabU (C * D) D fun i k => solE (redS (fp q) R C D xs ys) C i k % fp q), isI 0]) := by
  refine Ctr.intro Try.func28 rfl (by kernel_rfl) Try.ntmps28 rfl fun w0 F0 => ?_
  refine Tri.cv (Cv.wk (.cons (t := 0) (Has.t rfl) (.cons (t := 1) (Has.t rfl) (.cons (t := 2) (Has.t rfl) .nil)))) ?_
  have hRC := side_le hR hC
  have hok := fred_ok (p := fp q) (W := C + D) (rowsU_len (fp q) R C D xs ys) (fun r hr => rowsU_row hr) (1 % fp q) C
  obtain ⟨s, hs⟩ : ∃ s, s = redS (fp q) R C D xs ys := ⟨_, rfl⟩
  have hok1 : s.rows.length = R := by rw [hs]; exact hok.1
  have hok2 : ∀ r ∈ s.rows, r.length = C + D := by rw [hs]; exact hok.2.1
  have hok3 : s.ps.length ≤ R := by rw [hs]; exact hok.2.2
  rw [← hs]
  have hRD := side_le hR hD
  have hf1 := formB_true hR hC hxl
  have hf2 := formB_true hR hD hyl
  have hpv := pv_len s.ps
  rw [← hs] at hgood
  refine Tri.seq fun K1 hK1 => ?_
  refine Tri.region ?_
  refine Ops.box (Has.t rfl) rfl fun b1 => ?_
  refine Ops.box (Has.t rfl) rfl fun b2 => ?_
  refine Ops.box (Has.t rfl) rfl fun b3 => ?_
  refine Ops.alloc [isI 0, isI 0, SlM isU []] zero24 (fun _ _ => ⟨⟨rfl, by decide, by decide⟩, ⟨rfl, by decide, by decide⟩, nilM _ _, trivial⟩) rfl fun b4 => ?_
  refine st (OK1.as (Has.cI 0 rfl)) rfl ?_
  refine nl ?_
  refine At.thn (hK1 _ _ ?_); clear hK1
  refine Tri.seq fun K2 hK2 => ?_
  refine Tri.seq fun K3 hK3 => ?_
  refine Tri.region ?_
  refine st (OK1.load (Has.t rfl) (i := 2) rfl ty24 rfl (Ss' := [_, _, _]) rfl) rfl ?_
  refine st (OK1.eq (OK1.call (fmat_Formed) (.cons (Has.t rfl) .nil)) ((show isB _ = isB true from isB_eq hf1))) rfl ?_
  refine st (OK1.not (Has.t rfl)) rfl ?_
  refine st (OK1.mv (Has.t rfl)) rfl ?_
  refine stF rfl rfl (fun hg => have hg' := BP.t hg; OK1.load (Has.t rfl) (i := 1) rfl ty24 rfl (Ss' := [_, _, _]) rfl) rfl ?_
  refine stF rfl rfl (fun hg => have hg' := BP.t hg; OK1.eq (OK1.call (fmat_Formed) (.cons (Has.g rfl hg) .nil)) ((show isB _ = isB true from isB_eq hf2))) rfl ?_
  refine stF rfl rfl (fun hg => have hg' := BP.t hg; OK1.not (Has.g rfl hg)) rfl ?_
  refine st (OK1.pickOr (Has.t rfl) (fun h => Has.g rfl (ng h))) rfl ?_
  refine st (OK1.mv (Has.t rfl)) rfl ?_
  refine stF rfl rfl (fun hg => have hg' := BP.t hg; OK1.fieldAddr (Has.t rfl) fld24_0 ty3) rfl ?_
  refine stF rfl rfl (fun hg => have hg' := BP.t hg; OK1.load1 (Has.g rfl hg) (i := 2) rfl ty3 rfl) rfl ?_
  refine stF rfl rfl (fun hg => have hg' := BP.t hg; OK1.fieldAddr (Has.t rfl) fld24_0 ty3) rfl ?_
  refine stF rfl rfl (fun hg => have hg' := BP.t hg; OK1.load1 (Has.g rfl hg) (i := 1) rfl ty3 rfl) rfl ?_
  refine stF rfl rfl (fun hg => have hg' := BP.t hg; OK1.neI (Has.g rfl hg) (Has.g rfl hg)) rfl ?_
  refine st (OK1.pickOr (Has.t rfl) (fun h => Has.g rfl (ng h))) rfl ?_
  refine nl ?_
  refine At.thn (hK3 _ _ ?_); clear hK3
  refine Tri.cv (Cv.wk (.cons (t := 3) (Has.t rfl) (.cons (t := 4) (Has.t rfl) (.cons (t := 5) (Has.t rfl) (.cons (t := 6) (Has.t rfl) (.cons (t := 7) (Has.t rfl) (.cons (t := 25) (Has.t rfl) .nil))))))) ?_
  refine Tri.cond (Has.t rfl) (fun hc1 => ?_) (fun hc1 => ?_)
  · have hc1 := BP.t hc1
    simp at hc1
  · have hc1 := BP.f hc1
    refine Tri.skip ?_
    refine At.thn (hK2 _ _ ?_); clear hK2
    refine Tri.seq fun K4 hK4 => ?_
    refine Tri.region ?_
    refine st (OK1.load (Has.t rfl) (i := 3) rfl ty29 rfl (Ss' := [_]) rfl) rfl ?_
    refine st (OK1.load (Has.t rfl) (i := 2) rfl ty24 rfl (Ss' := [_, _, _]) rfl) rfl ?_
    refine st (OK1.load (Has.t rfl) (i := 1) rfl ty24 rfl (Ss' := [_, _, _]) rfl) rfl ?_
    refine st (OK1.eq (OK1.call (fmat_reduced (D := D) hq hp2 hR hC hD hxl hyl) (.cons (Has.t rfl) (.cons (Has.t rfl) (.cons (Has.t rfl) .nil)))) ((show wkFU q _ = wkFU q s from by rw [hs]; rfl))) rfl ?_
    refine Ops.alloc [nilP] zero89 (fun _ _ => ⟨rfl, trivial⟩) rfl fun b5 => ?_
    refine Ops.store (Has.t rfl) (Has.t rfl) (i := 0) rfl ty89 rfl rfl (Ss' := [_]) rfl (M' := [(some _, cellM [_]), _, _, _, _]) rfl ?_
    refine nl ?_
    refine At.thn (hK4 _ _ ?_); clear hK4
    refine Tri.cv (Cv.wk (.cons (t := 3) (Has.t rfl) (.cons (t := 4) (Has.t rfl) (.cons (t := 5) (Has.t rfl) (.cons (t := 6) (Has.t rfl) (.cons (t := 7) (Has.t rfl) (.cons (t := 8) (Has.t rfl) .nil))))))) ?_
    refine Tri.seq fun K5 hK5 => ?_
    refine Tri.seq fun K6 hK6 => ?_
    refine Tri.dr ?_
    refine DrG.st (i := 0) [] rfl rfl rfl (by kernel_rfl) (OKG.o rfl (OK1.load1 (Has.t rfl) (i := 0) rfl ty89 rfl)) ?_
    refine DrG.st (i := 1) [31] rfl rfl rfl (by kernel_rfl) (OKG.o rfl (OK1.nilcP (Has.t rfl))) ?_
    refine DrG.st (i := 2) [32] rfl rfl rfl (by kernel_rfl) (OKG.o rfl (OK1.fieldAddrP (Has.t rfl) fld94_1 ty92 (Ss' := [_, _, _]) rfl)) ?_
    refine DrG.st (i := 3) [33] rfl rfl rfl (by kernel_rfl) (OKG.o rfl (OK1.loadP1 (Has.t rfl) ty92)) ?_
    refine DrG.st (i := 4) [] rfl rfl rfl (by kernel_rfl) (OKG.o rfl (OK1.load1 (Has.t rfl) (i := 0) rfl ty89 rfl)) ?_
    refine DrG.st (i := 5) [35] rfl rfl rfl (by kernel_rfl) (OKG.o rfl (OK1.nilcP (Has.t rfl))) ?_
    refine DrG.st (i := 6) [36] rfl rfl rfl (by kernel_rfl) (OKG.o rfl (OK1.fieldAddrP (Has.t rfl) fld94_2 ty32 (Ss' := [_, _]) rfl)) ?_
    refine DrG.st (i := 7) [37] rfl rfl rfl (by kernel_rfl) (OKG.o rfl (OK1.loadP1 (Has.t rfl) ty32)) ?_
    refine DrG.st (i := 8) [38] rfl rfl rfl (by kernel_rfl) (OKG.o rfl (OK1.len sl32 (Has.t rfl))) ?_
    refine DrG.st (i := 9) [34, 39] rfl rfl rfl (by kernel_rfl) (OKG.o rfl (OK1.eq (OK1.slLM sl92 ty22 (Has.t rfl) (Has.t rfl) ⟨by omega, by omega⟩) ((show SlM isWs _ = SlM isWs (s.rows.drop s.ps.length) from by rw [← hpv]; rfl)))) ?_
    refine DrG.st (i := 10) [40] rfl rfl rfl (by kernel_rfl) (OKG.o rfl (OK1.len sl92 (Has.t rfl))) ?_
    refine DrG.st (i := 11) [] rfl rfl rfl (by kernel_rfl) (OKG.o rfl (OK1.mv (Has.cI 0 rfl))) ?_
    refine DrG.fin (n := 12) mixed (by kernel_rfl) (by kernel_rfl) (by kernel_rfl) ?_
    refine Ops.cv (Cv.wk (.cons (t := 3) (Has.t rfl) (.cons (t := 4) (Has.t rfl) (.cons (t := 5) (Has.t rfl) (.cons (t := 6) (Has.t rfl) (.cons (t := 7) (Has.t rfl) (.cons (t := 8) (Has.t rfl) (.cons (t := 40) (Has.t rfl) (.cons (t := 41) (Has.t rfl) (.cons (t := 42) (Has.t rfl) .nil)))))))))) ?_
    refine nl ?_
    refine At.thn (hK6 _ _ ?_); clear hK6
    refine Tri.block ?_
    refine Tri.loopF [3, 4, 5, 6, 8, 40, 41] (fun (z : { i : Nat // i ≤ (s.rows.drop s.ps.length).length }) => match z with | ⟨i, hI⟩ => [(42, isI (i : Int))]) (fun M => fun (z : { i : Nat // i ≤ (s.rows.drop s.ps.length).length }) => match z with | ⟨i, hI⟩ => M) (fun (z : { i : Nat // i ≤ (s.rows.drop s.ps.length).length }) => match z with | ⟨i, hI⟩ => (s.rows.drop s.ps.length).length - i) (⟨0, Nat.zero_le _⟩) (Cv.mem (.cons (t := 42) (Has.t' rfl ?_) (.cons (t := 3) (Has.t rfl) (.cons (t := 4) (Has.t rfl) (.cons (t := 5) (Has.t rfl) (.cons (t := 6) (Has.t rfl) (.cons (t := 8) (Has.t rfl) (.cons (t := 40) (Has.t rfl) (.cons (t := 41) (Has.t rfl) .nil)))))))) ?_) ?_
    · rfl
    · rfl
    rintro ⟨i, hi⟩ K7 hK7
    refine Tri.cv (Cv.wk (.cons (t := 42) (Has.t rfl) (.cons (t := 3) (Has.t rfl) (.cons (t := 4) (Has.t rfl) (.cons (t := 5) (Has.t rfl) (.cons (t := 6) (Has.t rfl) (.cons (t := 8) (Has.t rfl) (.cons (t := 40) (Has.t rfl) (.cons (t := 41) (Has.t rfl) .nil))))))))) ?_
    refine Tri.seq fun K8 hK8 => ?_
    refine Tri.region ?_
    refine st (OK1.ltI (Has.t rfl) (Has.t rfl)) rfl ?_
    refine nl ?_
    refine At.thn (hK8 _ _ ?_); clear hK8
    refine Tri.seq fun K9 hK9 => ?_
    refine Tri.cond (Has.t rfl) (fun hc2 => ?_) (fun hc2 => ?_)
    · have hc2 := BP.t hc2
      have hdl : (s.rows.drop s.ps.length).length = R - s.ps.length := by rw [List.length_drop, hok1]
      have hrm : (s.rows.drop s.ps.length).getD i [] ∈ s.rows.drop s.ps.length := by rw [List.getD, List.getElem?_eq_getElem (by omega)]; exact List.getElem_mem _
      have hrl := hok2 _ (List.mem_of_mem_drop hrm)
      refine Tri.skip ?_
      refine At.thn (hK9 _ _ ?_); clear hK9
      refine Tri.seq fun K10 hK10 => ?_
      refine Tri.block ?_
      refine Tri.seq fun K11 hK11 => ?_
      refine Tri.region ?_
      refine st (OK1.ixP sl92 ty22 (Has.t rfl) (Has.t rfl) ⟨by omega, by omega⟩ (getD_some (d := []) (by first | omega | (simp only [Int.toNat_natCast, List.length_set]; omega)))) rfl ?_
      refine st (OK1.eq (OK1.loadP1 (Has.t rfl) ty22) ((show isWs _ = isWs ((s.rows.drop s.ps.length).getD i []) from rfl))) rfl ?_
      refine st (OK1.as (Has.t rfl)) rfl ?_
      refine nl ?_
      refine At.thn (hK11 _ _ ?_); clear hK11
      refine Tri.seq fun K12 hK12 => ?_
      refine Tri.region ?_
      refine st (OK1.mv (Has.t rfl)) rfl ?_
      refine st (OK1.fieldAddr (Has.t rfl) fld24_1 ty3) rfl ?_
      refine st (OK1.load1 (Has.t rfl) (i := 3) rfl ty3 rfl) rfl ?_
      refine st (OK1.slLM sl22 ty27 (Has.t rfl) (Has.t rfl) ⟨by omega, by omega⟩) rfl ?_
      refine st (OK1.eq (OK1.call (sl_ContainsFuncU (t := nzw)) (.cons (Has.t rfl) (.cons (Has.fn (ι := Nat) (As := fun p => [isU p]) (R := fun p => isB (nzw p)) (fun p => fmat_Solve_1)) .nil))) ((show isB _ = isB (decide (0 ≤ ixf nzw (((s.rows.drop s.ps.length).getD i []).drop C))) from rfl))) rfl ?_
      refine nl ?_
      refine At.thn (hK12 _ _ ?_); clear hK12
      refine Tri.cond (Has.t rfl) (fun hc3 => ?_) (fun hc3 => ?_)
      · have hc3 := BP.t hc3
        exact absurd ⟨_, hrm, ixf_lt hc3⟩ hgood
      · have hc3 := BP.f hc3
        refine Tri.skip ?_
        refine At.bln ?_
        refine At.thn (hK10 _ _ ?_); clear hK10
        refine Tri.region ?_
        refine st (OK1.addI (Has.t rfl) (Has.cI 1 rfl) (by first | omega | assumption) (by first | omega | assumption)) rfl ?_
        refine st (OK1.mv (Has.t rfl)) rfl ?_
        refine nl ?_
        refine At.thn ?_
        refine hK7 (⟨i + 1, by omega⟩) _ _ ?_ (Cv.mem (.cons (t := 42) (Has.t' rfl ?_) (.cons (t := 3) (Has.t rfl) (.cons (t := 4) (Has.t rfl) (.cons (t := 5) (Has.t rfl) (.cons (t := 6) (Has.t rfl) (.cons (t := 8) (Has.t rfl) (.cons (t := 40) (Has.t rfl) (.cons (t := 41) (Has.t rfl) .nil)))))))) ?_)
        · show (s.rows.drop s.ps.length).length - (i + 1) < (s.rows.drop s.ps.length).length - i; omega
        · exact isI_eq (by omega)
        · rfl
    · have hc2 := BP.f hc2
      refine Tri.exit ?_
      refine At.the ?_
      refine At.the ?_
      refine At.blh ?_
      refine At.thn (hK5 _ _ ?_); clear hK5
      refine Tri.seq fun K13 hK13 => ?_
      refine Tri.region ?_
      refine st (OK1.load (Has.t rfl) (i := 4) rfl ty29 rfl (Ss' := [_]) rfl) rfl ?_
      refine st (OK1.fieldAddr (Has.t rfl) fld24_1 ty3) rfl ?_
      refine st (OK1.load1 (Has.t rfl) (i := 3) rfl ty3 rfl) rfl ?_
      refine st (OK1.fieldAddr (Has.t rfl) fld24_1 ty3) rfl ?_
      refine st (OK1.load1 (Has.t rfl) (i := 2) rfl ty3 rfl) rfl ?_
      refine Ops.cv (Cv.freezeBox (t := 8) (i := 0) rfl rfl rfl) ?_
      refine Ops.memEq (M' := [_, _, _, _]) rfl ?_
      refine Ops.cv (Cv.wk (.cons (t := 3) (Has.t rfl) (.cons (t := 4) (Has.t rfl) (.cons (t := 5) (Has.t rfl) (.cons (t := 6) (Has.t rfl) (.cons (t := 8) (Has.t rfl) (.cons (t := 40) (Has.t rfl) (.cons (t := 41) (Has.t rfl) (.cons (t := 42) (Has.t rfl) (.cons (t := 43) (Has.t rfl) (.cons (t := 53) (Has.t rfl) (.cons (t := 54) (Has.t rfl) (.cons (t := 55) (Has.t rfl) (.cons (t := 56) (Has.t rfl) (.cons (t := 57) (Has.t rfl) .nil))))))))))))))) ?_
      refine Ops.cv (Cv.freezeBox (t := 4) (i := 2) rfl rfl rfl) ?_
      refine Ops.memEq (M' := [_, _, _]) rfl ?_
      refine Ops.cv (Cv.wk (.cons (t := 3) (Has.t rfl) (.cons (t := 4) (Has.t rfl) (.cons (t := 5) (Has.t rfl) (.cons (t := 6) (Has.t rfl) (.cons (t := 8) (Has.t rfl) (.cons (t := 40) (Has.t rfl) (.cons (t := 41) (Has.t rfl) (.cons (t := 42) (Has.t rfl) (.cons (t := 43) (Has.t rfl) (.cons (t := 53) (Has.t rfl) (.cons (t := 55) (Has.t rfl) (.cons (t := 56) (Has.t rfl) (.cons (t := 57) (Has.t rfl) .nil)))))))))))))) ?_
      refine st (OK1.makeFn (ι := PI C D) (As := fun p => [isI (p.1.1 : Int), isI (p.1.2 : Int)]) (R := fun p => isU (solE s C p.1.1 p.1.2)) (fun p => fmat_Solve_2 hok1 hok2 hok3 hC (by have := p.2.2; omega) (by omega)) .nil (.cons (Has.t rfl) (.cons (Has.t rfl) .nil))) rfl ?_
      refine st (OK1.call (fmat_made (f := fun i k => solE s C i k) hC hD) (.cons (Has.t rfl) (.cons (Has.t rfl) (.cons (Has.t rfl) (.cons (Has.t rfl) .nil))))) rfl ?_
      refine Ops.store (Has.t rfl) (Has.t rfl) (i := 0) rfl ty24 rfl rfl (Ss' := [_, _, _]) rfl (M' := [(some _, cellM [_, _, _]), _, _]) rfl ?_
      refine st (OK1.as (Has.cI 0 rfl)) rfl ?_
      refine nl ?_
      refine At.thn (hK13 _ _ ?_); clear hK13
      refine Tri.cv (Cv.wk (.cons (t := 6) (Has.t rfl) (.cons (t := 7) (Has.t rfl) .nil))) ?_
      refine Tri.ret ?_
      refine rtN (.inl rfl) Try.results28 rfl rfl (.cell rfl (i := 0) rfl ty24 rfl ?_ (.tmp (Has.t' rfl ?_) .nil))
      · rfl
      · rfl
set_option maxHeartbeats 4000000 in
theorem fmat_Solve_none {q R C D : Nat} {xs ys : List Nat} (hq : q < 4294967296) (hp2 : 2 ≤ fp q) (hR : R ≤ 64) (hC : C ≤ 64) (hD : D ≤ 64) (hxl : xs.length = R * C) (hyl : ys.length = R * D) (hbad : badS (redS (fp q) R C D xs ys) C) : Ctr Try.prog 28 [Flat [isU q], isMW R C xs, isMW R D ys] (isTup [isMW 0 0 [], isI 10]) := by
  refine Ctr.intro Try.func28 rfl (by kernel_rfl) Try.ntmps28 rfl fun w0 F0 => ?_
  refine Tri.cv (Cv.wk (.cons (t := 0) (Has.t rfl) (.cons (t := 1) (Has.t rfl) (.cons (t := 2) (Has.t rfl) .nil)))) ?_
  have hRC := side_le hR hC
  have hok := fred_ok (p := fp q) (W := C + D) (rowsU_len (fp q) R C D xs ys) (fun r hr => rowsU_row hr) (1 % fp q) C
  obtain ⟨s, hs⟩ : ∃ s, s = redS (fp q) R C D xs ys := ⟨_, rfl⟩
  have hok1 : s.rows.length = R := by rw [hs]; exact hok.1
  have hok2 : ∀ r ∈ s.rows, r.length = C + D := by rw [hs]; exact hok.2.1
  have hok3 : s.ps.length ≤ R := by rw [hs]; exact hok.2.2
  have hRD := side_le hR hD
  have hf1 := formB_true hR hC hxl
  have hf2 := formB_true hR hD hyl
  have hpv := pv_len s.ps
  rw [← hs] at hbad
  refine Tri.seq fun K1 hK1 => ?_
  refine Tri.region ?_
  refine Ops.box (Has.t rfl) rfl fun b1 => ?_
  refine Ops.box (Has.t rfl) rfl fun b2 => ?_
  refine Ops.box (Has.t rfl) rfl fun b3 => ?_
  refine Ops.alloc [isI 0, isI 0, SlM isU []] zero24 (fun _ _ => ⟨⟨rfl, by decide, by decide⟩, ⟨rfl, by decide, by decide⟩, nilM _ _, trivial⟩) rfl fun b4 => ?_
  refine st (OK1.as (Has.cI 0 rfl)) rfl ?_
  refine nl ?_
  refine At.thn (hK1 _ _ ?_); clear hK1
  refine Tri.seq fun K2 hK2 => ?_
  refine Tri.seq fun K3 hK3 => ?_
  refine Tri.region ?_
  refine st (OK1.load (Has.t rfl) (i := 2) rfl ty24 rfl (Ss' := [_, _, _]) rfl) rfl ?_
  refine st (OK1.eq (OK1.call (fmat_Formed) (.cons (Has.t rfl) .nil)) ((show isB _ = isB true from isB_eq hf1))) rfl ?_
  refine st (OK1.not (Has.t rfl)) rfl ?_
  refine st (OK1.mv (Has.t rfl)) rfl ?_
  refine stF rfl rfl (fun hg => have hg' := BP.t hg; OK1.load (Has.t rfl) (i := 1) rfl ty24 rfl (Ss' := [_, _, _]) rfl) rfl ?_
  refine stF rfl rfl (fun hg => have hg' := BP.t hg; OK1.eq (OK1.call (fmat_Formed) (.cons (Has.g rfl hg) .nil)) ((show isB _ = isB true from isB_eq hf2))) rfl ?_
  refine stF rfl rfl (fun hg => have hg' := BP.t hg; OK1.not (Has.g rfl hg)) rfl ?_
  refine st (OK1.pickOr (Has.t rfl) (fun h => Has.g rfl (ng h))) rfl ?_
  refine st (OK1.mv (Has.t rfl)) rfl ?_
  refine stF rfl rfl (fun hg => have hg' := BP.t hg; OK1.fieldAddr (Has.t rfl) fld24_0 ty3) rfl ?_
  refine stF rfl rfl (fun hg => have hg' := BP.t hg; OK1.load1 (Has.g rfl hg) (i := 2) rfl ty3 rfl) rfl ?_
  refine stF rfl rfl (fun hg => have hg' := BP.t hg; OK1.fieldAddr (Has.t rfl) fld24_0 ty3) rfl ?_
  refine stF rfl rfl (fun hg => have hg' := BP.t hg; OK1.load1 (Has.g rfl hg) (i := 1) rfl ty3 rfl) rfl ?_
  refine stF rfl rfl (fun hg => have hg' := BP.t hg; OK1.neI (Has.g rfl hg) (Has.g rfl hg)) rfl ?_
  refine st (OK1.pickOr (Has.t rfl) (fun h => Has.g rfl (ng h))) rfl ?_
  refine nl ?_
  refine At.thn (hK3 _ _ ?_); clear hK3
  refine Tri.cv (Cv.wk (.cons (t := 3) (Has.t rfl) (.cons (t := 4) (Has.t rfl) (.cons (t := 5) (Has.t rfl) (.cons (t := 6) (Has.t rfl) (.cons (t := 7) (Has.t rfl) (.cons (t := 25) (Has.t rfl) .nil))))))) ?_
  refine Tri.cond (Has.t rfl) (fun hc1 => ?_) (fun hc1 => ?_)
  · have hc1 := BP.t hc1
    simp at hc1
  · have hc1 := BP.f hc1
    refine Tri.skip ?_
    refine At.thn (hK2 _ _ ?_); clear hK2
    refine Tri.seq fun K4 hK4 => ?_
    refine Tri.region ?_
    refine st (OK1.load (Has.t rfl) (i := 3) rfl ty29 rfl (Ss' := [_]) rfl) rfl ?_
    refine st (OK1.load (Has.t rfl) (i := 2) rfl ty24 rfl (Ss' := [_, _, _]) rfl) rfl ?_
    refine st (OK1.load (Has.t rfl) (i := 1) rfl ty24 rfl (Ss' := [_, _, _]) rfl) rfl ?_
    refine st (OK1.eq (OK1.call (fmat_reduced (D := D) hq hp2 hR hC hD hxl hyl) (.cons (Has.t rfl) (.cons (Has.t rfl) (.cons (Has.t rfl) .nil)))) ((show wkFU q _ = wkFU q s from by rw [hs]; rfl))) rfl ?_
    refine Ops.alloc [nilP] zero89 (fun _ _ => ⟨rfl, trivial⟩) rfl fun b5 => ?_
    refine Ops.store (Has.t rfl) (Has.t rfl) (i := 0) rfl ty89 rfl rfl (Ss' := [_]) rfl (M' := [(some _, cellM [_]), _, _, _, _]) rfl ?_
    refine nl ?_
    refine At.thn (hK4 _ _ ?_); clear hK4
    refine Tri.cv (Cv.wk (.cons (t := 3) (Has.t rfl) (.cons (t := 4) (Has.t rfl) (.cons (t := 5) (Has.t rfl) (.cons (t := 6) (Has.t rfl) (.cons (t := 7) (Has.t rfl) (.cons (t := 8) (Has.t rfl) .nil))))))) ?_
    refine Tri.seq fun K5 hK5 => ?_
    refine Tri.seq fun K6 hK6 => ?_
    refine Tri.dr ?_
    refine DrG.st (i := 0) [] rfl rfl rfl (by kernel_rfl) (OKG.o rfl (OK1.load1 (Has.t rfl) (i := 0) rfl ty89 rfl)) ?_
    refine DrG.st (i := 1) [31] rfl rfl rfl (by kernel_rfl) (OKG.o rfl (OK1.nilcP (Has.t rfl))) ?_
    refine DrG.st (i := 2) [32] rfl rfl rfl (by kernel_rfl) (OKG.o rfl (OK1.fieldAddrP (Has.t rfl) fld94_1 ty92 (Ss' := [_, _, _]) rfl)) ?_
    refine DrG.st (i := 3) [33] rfl rfl rfl (by kernel_rfl) (OKG.o rfl (OK1.loadP1 (Has.t rfl) ty92)) ?_
    refine DrG.st (i := 4) [] rfl rfl rfl (by kernel_rfl) (OKG.o rfl (OK1.load1 (Has.t rfl) (i := 0) rfl ty89 rfl)) ?_
    refine DrG.st (i := 5) [35] rfl rfl rfl (by kernel_rfl) (OKG.o rfl (OK1.nilcP (Has.t rfl))) ?_
    refine DrG.st (i := 6) [36] rfl rfl rfl (by kernel_rfl) (OKG.o rfl (OK1.fieldAddrP (Has.t rfl) fld94_2 ty32 (Ss' := [_, _]) rfl)) ?_
    refine DrG.st (i := 7) [37] rfl rfl rfl (by kernel_rfl) (OKG.o rfl (OK1.loadP1 (Has.t rfl) ty32)) ?_
    refine DrG.st (i := 8) [38] rfl rfl rfl (by kernel_rfl) (OKG.o rfl (OK1.len sl32 (Has.t rfl))) ?_
    refine DrG.st (i := 9) [34, 39] rfl rfl rfl (by kernel_rfl) (OKG.o rfl (OK1.eq (OK1.slLM sl92 ty22 (Has.t rfl) (Has.t rfl) ⟨by omega, by omega⟩) ((show SlM isWs _ = SlM isWs (s.rows.drop s.ps.length) from by rw [← hpv]; rfl)))) ?_
    refine DrG.st (i := 10) [40] rfl rfl rfl (by kernel_rfl) (OKG.o rfl (OK1.len sl92 (Has.t rfl))) ?_
    refine DrG.st (i := 11) [] rfl rfl rfl (by kernel_rfl) (OKG.o rfl (OK1.mv (Has.cI 0 rfl))) ?_
    refine DrG.fin (n := 12) mixed (by kernel_rfl) (by kernel_rfl) (by kernel_rfl) ?_
    refine Ops.cv (Cv.wk (.cons (t := 3) (Has.t rfl) (.cons (t := 4) (Has.t rfl) (.cons (t := 5) (Has.t rfl) (.cons (t := 6) (Has.t rfl) (.cons (t := 7) (Has.t rfl) (.cons (t := 8) (Has.t rfl) (.cons (t := 40) (Has.t rfl) (.cons (t := 41) (Has.t rfl) (.cons (t := 42) (Has.t rfl) .nil)))))))))) ?_
    refine nl ?_
    refine At.thn (hK6 _ _ ?_); clear hK6
    refine Tri.block ?_
    refine Tri.loopF [3, 4, 5, 6, 8, 40, 41] (fun (z : { i : Nat // i ≤ (s.rows.drop s.ps.length).length ∧ ∀ j, j < i → ¬ ixn nzw (((s.rows.drop s.ps.length).getD j []).drop C) < (((s.rows.drop s.ps.length).getD j []).drop C).length }) => match z with | ⟨i, hI⟩ => [(42, isI (i : Int))]) (fun M => fun (z : { i : Nat // i ≤ (s.rows.drop s.ps.length).length ∧ ∀ j, j < i → ¬ ixn nzw (((s.rows.drop s.ps.length).getD j []).drop C) < (((s.rows.drop s.ps.length).getD j []).drop C).length }) => match z with | ⟨i, hI⟩ => M) (fun (z : { i : Nat // i ≤ (s.rows.drop s.ps.length).length ∧ ∀ j, j < i → ¬ ixn nzw (((s.rows.drop s.ps.length).getD j []).drop C) < (((s.rows.drop s.ps.length).getD j []).drop C).length }) => match z with | ⟨i, hI⟩ => (s.rows.drop s.ps.length).length - i) (⟨0, Nat.zero_le _, fun j hj => absurd hj (Nat.not_lt_zero _)⟩) (Cv.mem (.cons (t := 42) (Has.t' rfl ?_) (.cons (t := 3) (Has.t rfl) (.cons (t := 4) (Has.t rfl) (.cons (t := 5) (Has.t rfl) (.cons (t := 6) (Has.t rfl) (.cons (t := 8) (Has.t rfl) (.cons (t := 40) (Has.t rfl) (.cons (t := 41) (Has.t rfl) .nil)))))))) ?_) ?_
    · rfl
    · rfl
    rintro ⟨i, hi, hq2⟩ K7 hK7
    refine Tri.cv (Cv.wk (.cons (t := 42) (Has.t rfl) (.cons (t := 3) (Has.t rfl) (.cons (t := 4) (Has.t rfl) (.cons (t := 5) (Has.t rfl) (.cons (t := 6) (Has.t rfl) (.cons (t := 8) (Has.t rfl) (.cons (t := 40) (Has.t rfl) (.cons (t := 41) (Has.t rfl) .nil))))))))) ?_
    refine Tri.seq fun K8 hK8 => ?_
    refine Tri.region ?_
    refine st (OK1.ltI (Has.t rfl) (Has.t rfl)) rfl ?_
    refine nl ?_
    refine At.thn (hK8 _ _ ?_); clear hK8
    refine Tri.seq fun K9 hK9 => ?_
    refine Tri.cond (Has.t rfl) (fun hc2 => ?_) (fun hc2 => ?_)
    · have hc2 := BP.t hc2
      have hdl : (s.rows.drop s.ps.length).length = R - s.ps.length := by rw [List.length_drop, hok1]
      have hrm : (s.rows.drop s.ps.length).getD i [] ∈ s.rows.drop s.ps.length := by rw [List.getD, List.getElem?_eq_getElem (by omega)]; exact List.getElem_mem _
      have hrl := hok2 _ (List.mem_of_mem_drop hrm)
      refine Tri.skip ?_
      refine At.thn (hK9 _ _ ?_); clear hK9
      refine Tri.seq fun K10 hK10 => ?_
      refine Tri.block ?_
      refine Tri.seq fun K11 hK11 => ?_
      refine Tri.region ?_
      refine st (OK1.ixP sl92 ty22 (Has.t rfl) (Has.t rfl) ⟨by omega, by omega⟩ (getD_some (d := []) (by first | omega | (simp only [Int.toNat_natCast, List.length_set]; omega)))) rfl ?_
      refine st (OK1.eq (OK1.loadP1 (Has.t rfl) ty22) ((show isWs _ = isWs ((s.rows.drop s.ps.length).getD i []) from rfl))) rfl ?_
      refine st (OK1.as (Has.t rfl)) rfl ?_
      refine nl ?_
      refine At.thn (hK11 _ _ ?_); clear hK11
      refine Tri.seq fun K12 hK12 => ?_
      refine Tri.region ?_
      refine st (OK1.mv (Has.t rfl)) rfl ?_
      refine st (OK1.fieldAddr (Has.t rfl) fld24_1 ty3) rfl ?_
      refine st (OK1.load1 (Has.t rfl) (i := 3) rfl ty3 rfl) rfl ?_
      refine st (OK1.slLM sl22 ty27 (Has.t rfl) (Has.t rfl) ⟨by omega, by omega⟩) rfl ?_
      refine st (OK1.eq (OK1.call (sl_ContainsFuncU (t := nzw)) (.cons (Has.t rfl) (.cons (Has.fn (ι := Nat) (As := fun p => [isU p]) (R := fun p => isB (nzw p)) (fun p => fmat_Solve_1)) .nil))) ((show isB _ = isB (decide (0 ≤ ixf nzw (((s.rows.drop s.ps.length).getD i []).drop C))) from rfl))) rfl ?_
      refine nl ?_
      refine At.thn (hK12 _ _ ?_); clear hK12
      refine Tri.cond (Has.t rfl) (fun hc3 => ?_) (fun hc3 => ?_)
      · have hc3 := BP.t hc3
        skip
        refine Tri.seq fun K13 hK13 => ?_
        refine Tri.region ?_
        refine st (OK1.build [isI 0, isI 0, SlM isU []] pl24 zero24 (fun _ _ => ⟨⟨rfl, by decide, by decide⟩, ⟨rfl, by decide, by decide⟩, nilM _ _, trivial⟩) .nil (Z'' := [_, _, _]) rfl) rfl ?_
        refine Ops.store (Has.t rfl) (Has.t rfl) (i := 1) rfl ty24 rfl rfl (Ss' := [_, _, _]) rfl (M' := [_, (some _, cellM [_, _, _]), _, _, _]) rfl ?_
        refine st (OK1.as (Has.cI 10 rfl)) rfl ?_
        refine nl ?_
        refine At.thn (hK13 _ _ ?_); clear hK13
        refine Tri.ret ?_
        refine At.blr ?_
        refine At.thr ?_
        refine At.thr ?_
        refine At.blr ?_
        refine At.thr ?_
        refine rtN (.inl rfl) Try.results28 rfl rfl (.cell rfl (i := 1) rfl ty24 rfl ?_ (.tmp (Has.t' rfl ?_) .nil))
        · rfl
        · rfl
      · have hc3 := BP.f hc3
        have HQ := hc3
        refine Tri.skip ?_
        refine At.bln ?_
        refine At.thn (hK10 _ _ ?_); clear hK10
        refine Tri.region ?_
        refine st (OK1.addI (Has.t rfl) (Has.cI 1 rfl) (by first | omega | assumption) (by first | omega | assumption)) rfl ?_
        refine st (OK1.mv (Has.t rfl)) rfl ?_
        refine nl ?_
        refine At.thn ?_
        refine hK7 (⟨i + 1, by omega, fun j hj => by rcases Nat.lt_or_ge j i with h | h; exact hq2 j h; obtain rfl : j = i := (by omega); exact fun h => by have := ixf_of_lt h; omega⟩) _ _ ?_ (Cv.mem (.cons (t := 42) (Has.t' rfl ?_) (.cons (t := 3) (Has.t rfl) (.cons (t := 4) (Has.t rfl) (.cons (t := 5) (Has.t rfl) (.cons (t := 6) (Has.t rfl) (.cons (t := 8) (Has.t rfl) (.cons (t := 40) (Has.t rfl) (.cons (t := 41) (Has.t rfl) .nil)))))))) ?_)
        · show (s.rows.drop s.ps.length).length - (i + 1) < (s.rows.drop s.ps.length).length - i; omega
        · exact isI_eq (by omega)
        · rfl
    · have hc2 := BP.f hc2
      exfalso; obtain ⟨x, hx, hx2⟩ := hbad; obtain ⟨j, hj⟩ := List.mem_iff_getElem?.1 hx; exact hq2 j (by have := Go.Dt.lt_some hj; omega) (by rw [List.getD, hj]; exact hx2)
set_option maxHeartbeats 4000000 in
theorem fmat_Solve_bad {q : Nat} {r c r2 c2 : Int} {xs ys : List Nat} (hf : ¬ (formB r c xs.length = true ∧ formB r2 c2 ys.length = true ∧ r = r2)) : Ctr Try.prog 28 [Flat [isU q], isMW r c xs, isMW r2 c2 ys] (isTup [isMW 0 0 [], isI 2]) := by
  refine Ctr.intro Try.func28 rfl (by kernel_rfl) Try.ntmps28 rfl fun w0 F0 => ?_
  refine Tri.cv (Cv.wk (.cons (t := 0) (Has.t rfl) (.cons (t := 1) (Has.t rfl) (.cons (t := 2) (Has.t rfl) .nil)))) ?_
  refine Tri.seq fun K1 hK1 => ?_
  refine Tri.region ?_
  refine Ops.box (Has.t rfl) rfl fun b1 => ?_
  refine Ops.box (Has.t rfl) rfl fun b2 => ?_
  refine Ops.box (Has.t rfl) rfl fun b3 => ?_
  refine Ops.alloc [isI 0, isI 0, SlM isU []] zero24 (fun _ _ => ⟨⟨rfl, by decide, by decide⟩, ⟨rfl, by decide, by decide⟩, nilM _ _, trivial⟩) rfl fun b4 => ?_
  refine st (OK1.as (Has.cI 0 rfl)) rfl ?_
  refine nl ?_
  refine At.thn (hK1 _ _ ?_); clear hK1
  refine Tri.seq fun K2 hK2 => ?_
  refine Tri.seq fun K3 hK3 => ?_
  refine Tri.region ?_
  refine st (OK1.load (Has.t rfl) (i := 2) rfl ty24 rfl (Ss' := [_, _, _]) rfl) rfl ?_
  refine st (OK1.call (fmat_Formed) (.cons (Has.t rfl) .nil)) rfl ?_
  refine st (OK1.not (Has.t rfl)) rfl ?_
  refine st (OK1.mv (Has.t rfl)) rfl ?_
  refine stF rfl rfl (fun hg => have hg' := BP.t hg; OK1.load (Has.t rfl) (i := 1) rfl ty24 rfl (Ss' := [_, _, _]) rfl) rfl ?_
  refine stF rfl rfl (fun hg => have hg' := BP.t hg; OK1.call (fmat_Formed) (.cons (Has.g rfl hg) .nil)) rfl ?_
  refine stF rfl rfl (fun hg => have hg' := BP.t hg; OK1.not (Has.g rfl hg)) rfl ?_
  refine st (OK1.pickOr (Has.t rfl) (fun h => Has.g rfl (ng h))) rfl ?_
  refine st (OK1.mv (Has.t rfl)) rfl ?_
  refine stF rfl rfl (fun hg => have hg' := BP.t hg; OK1.fieldAddr (Has.t rfl) fld24_0 ty3) rfl ?_
  refine stF rfl rfl (fun hg => have hg' := BP.t hg; OK1.load1 (Has.g rfl hg) (i := 2) rfl ty3 rfl) rfl ?_
  refine stF rfl rfl (fun hg => have hg' := BP.t hg; OK1.fieldAddr (Has.t rfl) fld24_0 ty3) rfl ?_
  refine stF rfl rfl (fun hg => have hg' := BP.t hg; OK1.load1 (Has.g rfl hg) (i := 1) rfl ty3 rfl) rfl ?_
  refine stF rfl rfl (fun hg => have hg' := BP.t hg; OK1.neI (Has.g rfl hg) (Has.g rfl hg)) rfl ?_
  refine st (OK1.pickOr (Has.t rfl) (fun h => Has.g rfl (ng h))) rfl ?_
  refine nl ?_
  refine At.thn (hK3 _ _ ?_); clear hK3
  refine Tri.cv (Cv.wk (.cons (t := 3) (Has.t rfl) (.cons (t := 4) (Has.t rfl) (.cons (t := 5) (Has.t rfl) (.cons (t := 6) (Has.t rfl) (.cons (t := 7) (Has.t rfl) (.cons (t := 25) (Has.t rfl) .nil))))))) ?_
  refine Tri.cond (Has.t rfl) (fun hc1 => ?_) (fun hc1 => ?_)
  · have hc1 := BP.t hc1
    refine Tri.seq fun K4 hK4 => ?_
    refine Tri.region ?_
    refine st (OK1.build [isI 0, isI 0, SlM isU []] pl24 zero24 (fun _ _ => ⟨⟨rfl, by decide, by decide⟩, ⟨rfl, by decide, by decide⟩, nilM _ _, trivial⟩) .nil (Z'' := [_, _, _]) rfl) rfl ?_
    refine Ops.store (Has.t rfl) (Has.t rfl) (i := 0) rfl ty24 rfl rfl (Ss' := [_, _, _]) rfl (M' := [(some _, cellM [_, _, _]), _, _, _]) rfl ?_
    refine st (OK1.as (Has.cI 2 rfl)) rfl ?_
    refine nl ?_
    refine At.thn (hK4 _ _ ?_); clear hK4
    refine Tri.ret ?_
    refine At.thr ?_
    refine rtN (.inl rfl) Try.results28 rfl rfl (.cell rfl (i := 0) rfl ty24 rfl ?_ (.tmp (Has.t' rfl ?_) .nil))
    · rfl
    · rfl
  · have hc1 := BP.f hc1
    exact (hf (by simpa [and_assoc] using hc1)).elim
end Go.Proofs.Ytfoclelageohiaa
/- Contracts: the document's products, transposes of words. -/
namespace Go.Proofs.Ytfoclelageohiaa
open Go.En Go.RowKit
set_option linter.unusedVariables false
set_option maxRecDepth 10000
open Go.Gf
open Go.Mz
open Go.Mu
open Go.Fe
set_option maxHeartbeats 4000000 in
theorem ref21_Mul {p R C D : Nat} {xs ys : List Nat} (hp : 0 < p) (hp2 : p < 4294967296) (hR : R ≤ 64) (hC : C ≤ 64) (hD : D ≤ 64) (hxl : xs.length = R * C) (hyl : ys.length = C * D) : Ctr Try.prog 24 [isMW R C xs, isMW C D ys, isU p] (isMW R D (tabU (R * D) D fun i k => dotN (fun j => xs.getD (i * C + j) 0) (fun j => ys.getD (j * D + k) 0) C % p)) := by
  refine Ctr.intro Try.func24 rfl (by kernel_rfl) Try.ntmps24 rfl fun w0 F0 => ?_
  refine Tri.cv (Cv.wk (.cons (t := 0) (Has.t rfl) (.cons (t := 1) (Has.t rfl) (.cons (t := 2) (Has.t rfl) .nil)))) ?_
  refine Tri.fact (Has.ltU (Has.t (t := 2) rfl)) fun lt2 => ?_
  have h1 := side_le hR hC
  have h2 := side_le hC hD
  have h3 := side_le hR hD
  obtain ⟨G, hG⟩ : ∃ G : Nat → Nat → Nat, G = fun i k => dotN (fun j => xs.getD (i * C + j) 0) (fun j => ys.getD (j * D + k) 0) C % p := ⟨_, rfl⟩
  rw [← hG]
  refine Tri.seq fun K1 hK1 => ?_
  refine Tri.region ?_
  refine Ops.box (Has.t rfl) rfl fun b1 => ?_
  refine Ops.box (Has.t rfl) rfl fun b2 => ?_
  refine Ops.alloc [isI 0, isI 0, nilS] zero24 (fun _ _ => ⟨⟨rfl, by decide, by decide⟩, ⟨rfl, by decide, by decide⟩, rfl, trivial⟩) rfl fun b3 => ?_
  refine nl ?_
  refine At.thn (hK1 _ _ ?_); clear hK1
  refine Tri.seq fun K2 hK2 => ?_
  refine Tri.region ?_
  refine st (OK1.fieldAddr (Has.t rfl) fld24_0 ty3) rfl ?_
  refine st (OK1.load1 (Has.t rfl) (i := 2) rfl ty3 rfl) rfl ?_
  refine st (OK1.fieldAddr (Has.t rfl) fld24_1 ty3) rfl ?_
  refine st (OK1.load1 (Has.t rfl) (i := 1) rfl ty3 rfl) rfl ?_
  refine st (OK1.build [isI 0, isI 0, nilS] pl24 zero24 (fun _ _ => ⟨⟨rfl, by decide, by decide⟩, ⟨rfl, by decide, by decide⟩, rfl, trivial⟩) (.cons (Has.t rfl) rfl rfl rfl (.cons (Has.t rfl) rfl rfl rfl .nil)) (Z'' := [_, _, _]) rfl) rfl ?_
  refine Ops.alloc [isI 0, isI 0, nilS] zero24 (fun _ _ => ⟨⟨rfl, by decide, by decide⟩, ⟨rfl, by decide, by decide⟩, rfl, trivial⟩) rfl fun b4 => ?_
  refine Ops.store (Has.t rfl) (Has.t rfl) (i := 0) rfl ty24 rfl rfl (Ss' := [_, _, _]) rfl (M' := [(some _, cellM [_, _, _]), _, _, _]) rfl ?_
  refine nl ?_
  refine At.thn (hK2 _ _ ?_); clear hK2
  refine Tri.cv (Cv.wk (.cons (t := 2) (Has.t rfl) (.cons (t := 3) (Has.t rfl) (.cons (t := 4) (Has.t rfl) (.cons (t := 6) (Has.t rfl) (.cons (t := 7) (Has.t rfl) .nil)))))) ?_
  refine Tri.seq fun K3 hK3 => ?_
  refine Tri.seq fun K4 hK4 => ?_
  refine Tri.cv (Cv.growF (Nat) (i := 0) (o := 2) rfl rfl rfl) ?_
  refine Tri.memEq (M' := [grM isU Gr.nil [], _, _, _, _]) rfl ?_
  refine Tri.region ?_
  refine st (OK1.as (Has.cI 0 rfl)) rfl ?_
  refine nl ?_
  refine At.thn (hK4 _ _ ?_); clear hK4
  refine Tri.block ?_
  refine Tri.loopF [2, 3, 4, 6, 7] (fun (z : { z : Nat × Gr Nat // z.1 ≤ R }) => match z with | ⟨(i, g), hI⟩ => [(8, isI (i : Int))]) (fun M => fun (z : { z : Nat × Gr Nat // z.1 ≤ R }) => match z with | ⟨(i, g), hI⟩ => [grM isU g (tabU (i * D + 0) D G), (some b4, cellM [isI (R : Int), isI (D : Int), isGr g (tabU (i * D + 0) D G).length]), (some b3, cellM [isI 0, isI 0, nilS]), (some b2, cellM [isI (C : Int), isI (D : Int), SlM isU ys]), (some b1, cellM [isI (R : Int), isI (C : Int), SlM isU xs])]) (fun (z : { z : Nat × Gr Nat // z.1 ≤ R }) => match z with | ⟨(i, g), hI⟩ => R - i) (⟨(0, Gr.nil), Nat.zero_le _⟩) (Cv.mem (.cons (t := 8) (Has.t' rfl ?_) (.cons (t := 2) (Has.t rfl) (.cons (t := 3) (Has.t rfl) (.cons (t := 4) (Has.t rfl) (.cons (t := 6) (Has.t rfl) (.cons (t := 7) (Has.t rfl) .nil)))))) ?_) ?_
  · rfl
  · exact grFu_eq (n := 0) (ys := []) (by rw [tabU_len, Nat.zero_mul]) (show [] = tabU (0 * D + 0) D G by rw [Nat.zero_mul]; rfl)
  rintro ⟨⟨i, g⟩, hI⟩ K5 hK5
  refine Tri.cv (Cv.wk (.cons (t := 8) (Has.t rfl) (.cons (t := 2) (Has.t rfl) (.cons (t := 3) (Has.t rfl) (.cons (t := 4) (Has.t rfl) (.cons (t := 6) (Has.t rfl) (.cons (t := 7) (Has.t rfl) .nil))))))) ?_
  refine Tri.memEq (M' := [grM isU g (tabU (i * D + 0) D G), (some b4, cellM [isI (R : Int), isI (D : Int), isGr g (tabU (i * D + 0) D G).length]), (some b3, cellM [isI 0, isI 0, nilS]), (some b2, cellM [isI (C : Int), isI (D : Int), SlM isU ys]), (some b1, cellM [isI (R : Int), isI (C : Int), SlM isU xs])]) rfl ?_
  simp only [] at hI
  refine Tri.seq fun K6 hK6 => ?_
  refine Tri.seq fun K7 hK7 => ?_
  refine Tri.region ?_
  refine st (OK1.mv (Has.t rfl)) rfl ?_
  refine st (OK1.fieldAddr (Has.t rfl) fld24_0 ty3) rfl ?_
  refine st (OK1.load1 (Has.t rfl) (i := 4) rfl ty3 rfl) rfl ?_
  refine st (OK1.ltI (Has.t rfl) (Has.t rfl)) rfl ?_
  refine nl ?_
  refine At.thn (hK7 _ _ ?_); clear hK7
  refine Tri.cond (Has.t rfl) (fun hc1 => ?_) (fun hc1 => ?_)
  · have hc1 := BP.t hc1
    refine Tri.skip ?_
    refine At.thn (hK6 _ _ ?_); clear hK6
    refine Tri.seq fun K8 hK8 => ?_
    refine Tri.block ?_
    refine Tri.seq fun K9 hK9 => ?_
    refine Tri.region ?_
    refine st (OK1.as (Has.cI 0 rfl)) rfl ?_
    refine nl ?_
    refine At.thn (hK9 _ _ ?_); clear hK9
    refine Tri.block ?_
    refine Tri.loopF [2, 3, 4, 6, 7, 8, 17, 18, 19, 20] (fun (z : { z : Nat × Gr Nat // z.1 ≤ D }) => match z with | ⟨(k, g2), hK⟩ => [(9, isI (k : Int))]) (fun M => fun (z : { z : Nat × Gr Nat // z.1 ≤ D }) => match z with | ⟨(k, g2), hK⟩ => [grM isU g2 (tabU (i * D + k) D G), (some b4, cellM [isI (R : Int), isI (D : Int), isGr g2 (tabU (i * D + k) D G).length]), (some b3, cellM [isI 0, isI 0, nilS]), (some b2, cellM [isI (C : Int), isI (D : Int), SlM isU ys]), (some b1, cellM [isI (R : Int), isI (C : Int), SlM isU xs])]) (fun (z : { z : Nat × Gr Nat // z.1 ≤ D }) => match z with | ⟨(k, g2), hK⟩ => D - k) (⟨(0, g), Nat.zero_le _⟩) (Cv.mem (.cons (t := 9) (Has.t' rfl ?_) (.cons (t := 2) (Has.t rfl) (.cons (t := 3) (Has.t rfl) (.cons (t := 4) (Has.t rfl) (.cons (t := 6) (Has.t rfl) (.cons (t := 7) (Has.t rfl) (.cons (t := 8) (Has.t rfl) (.cons (t := 17) (Has.t rfl) (.cons (t := 18) (Has.t rfl) (.cons (t := 19) (Has.t rfl) (.cons (t := 20) (Has.t rfl) .nil))))))))))) ?_) ?_
    · rfl
    · rfl
    rintro ⟨⟨k, g2⟩, hK⟩ K10 hK10
    refine Tri.cv (Cv.wk (.cons (t := 9) (Has.t rfl) (.cons (t := 2) (Has.t rfl) (.cons (t := 3) (Has.t rfl) (.cons (t := 4) (Has.t rfl) (.cons (t := 6) (Has.t rfl) (.cons (t := 7) (Has.t rfl) (.cons (t := 8) (Has.t rfl) (.cons (t := 17) (Has.t rfl) (.cons (t := 18) (Has.t rfl) (.cons (t := 19) (Has.t rfl) (.cons (t := 20) (Has.t rfl) .nil)))))))))))) ?_
    refine Tri.memEq (M' := [grM isU g2 (tabU (i * D + k) D G), (some b4, cellM [isI (R : Int), isI (D : Int), isGr g2 (tabU (i * D + k) D G).length]), (some b3, cellM [isI 0, isI 0, nilS]), (some b2, cellM [isI (C : Int), isI (D : Int), SlM isU ys]), (some b1, cellM [isI (R : Int), isI (C : Int), SlM isU xs])]) rfl ?_
    simp only [] at hK
    refine Tri.seq fun K11 hK11 => ?_
    refine Tri.seq fun K12 hK12 => ?_
    refine Tri.region ?_
    refine st (OK1.mv (Has.t rfl)) rfl ?_
    refine st (OK1.fieldAddr (Has.t rfl) fld24_1 ty3) rfl ?_
    refine st (OK1.load1 (Has.t rfl) (i := 3) rfl ty3 rfl) rfl ?_
    refine st (OK1.ltI (Has.t rfl) (Has.t rfl)) rfl ?_
    refine nl ?_
    refine At.thn (hK12 _ _ ?_); clear hK12
    refine Tri.cond (Has.t rfl) (fun hc2 => ?_) (fun hc2 => ?_)
    · have hc2 := BP.t hc2
      refine Tri.skip ?_
      refine At.thn (hK11 _ _ ?_); clear hK11
      refine Tri.seq fun K13 hK13 => ?_
      refine Tri.block ?_
      refine Tri.seq fun K14 hK14 => ?_
      refine Tri.region ?_
      refine st (OK1.as (Has.cU 0 rfl)) rfl ?_
      refine nl ?_
      refine At.thn (hK14 _ _ ?_); clear hK14
      refine Tri.seq fun K15 hK15 => ?_
      refine Tri.seq fun K16 hK16 => ?_
      refine Tri.region ?_
      refine st (OK1.as (Has.cI 0 rfl)) rfl ?_
      refine nl ?_
      refine At.thn (hK16 _ _ ?_); clear hK16
      refine Tri.block ?_
      refine Tri.loopF [2, 3, 4, 6, 7, 8, 17, 18, 19, 20, 9, 23, 24, 25, 26] (fun (z : { j : Nat // j ≤ C }) => match z with | ⟨j, hj⟩ => [(11, isI (j : Int)), (10, isU (dotN (fun j => xs.getD (i * C + j) 0) (fun j => ys.getD (j * D + k) 0) j % p))]) (fun M => fun (z : { j : Nat // j ≤ C }) => match z with | ⟨j, hj⟩ => M) (fun (z : { j : Nat // j ≤ C }) => match z with | ⟨j, hj⟩ => C - j) (⟨0, Nat.zero_le _⟩) (Cv.mem (.cons (t := 11) (Has.t' rfl ?_) (.cons (t := 10) (Has.t' rfl ?_) (.cons (t := 2) (Has.t rfl) (.cons (t := 3) (Has.t rfl) (.cons (t := 4) (Has.t rfl) (.cons (t := 6) (Has.t rfl) (.cons (t := 7) (Has.t rfl) (.cons (t := 8) (Has.t rfl) (.cons (t := 17) (Has.t rfl) (.cons (t := 18) (Has.t rfl) (.cons (t := 19) (Has.t rfl) (.cons (t := 20) (Has.t rfl) (.cons (t := 9) (Has.t rfl) (.cons (t := 23) (Has.t rfl) (.cons (t := 24) (Has.t rfl) (.cons (t := 25) (Has.t rfl) (.cons (t := 26) (Has.t rfl) .nil))))))))))))))))) ?_) ?_
      · rfl
      · exact isU_eq (Nat.zero_mod _).symm
      · rfl
      rintro ⟨j, hj⟩ K17 hK17
      refine Tri.cv (Cv.wk (.cons (t := 11) (Has.t rfl) (.cons (t := 10) (Has.t rfl) (.cons (t := 2) (Has.t rfl) (.cons (t := 3) (Has.t rfl) (.cons (t := 4) (Has.t rfl) (.cons (t := 6) (Has.t rfl) (.cons (t := 7) (Has.t rfl) (.cons (t := 8) (Has.t rfl) (.cons (t := 17) (Has.t rfl) (.cons (t := 18) (Has.t rfl) (.cons (t := 19) (Has.t rfl) (.cons (t := 20) (Has.t rfl) (.cons (t := 9) (Has.t rfl) (.cons (t := 23) (Has.t rfl) (.cons (t := 24) (Has.t rfl) (.cons (t := 25) (Has.t rfl) (.cons (t := 26) (Has.t rfl) .nil)))))))))))))))))) ?_
      refine Tri.seq fun K18 hK18 => ?_
      refine Tri.seq fun K19 hK19 => ?_
      refine Tri.region ?_
      refine st (OK1.mv (Has.t rfl)) rfl ?_
      refine st (OK1.fieldAddr (Has.t rfl) fld24_1 ty3) rfl ?_
      refine st (OK1.load1 (Has.t rfl) (i := 4) rfl ty3 rfl) rfl ?_
      refine st (OK1.ltI (Has.t rfl) (Has.t rfl)) rfl ?_
      refine nl ?_
      refine At.thn (hK19 _ _ ?_); clear hK19
      refine Tri.cond (Has.t rfl) (fun hc3 => ?_) (fun hc3 => ?_)
      · have hc3 := BP.t hc3
        have hp1 := place_lt (show i < R by omega) (show j < C by omega)
        have hp3 := place_lt (show j < C by omega) (show k < D by omega)
        have hm1 := Nat.mod_lt (dotN (fun j => xs.getD (i * C + j) 0) (fun j => ys.getD (j * D + k) 0) j) hp
        have hm2 := Nat.mod_lt (xs.getD (i * C + j) 0 % p * (ys.getD (j * D + k) 0 % p)) hp
        refine Tri.skip ?_
        refine At.thn (hK18 _ _ ?_); clear hK18
        refine Tri.seq fun K20 hK20 => ?_
        refine Tri.block ?_
        refine Tri.dr ?_
        refine DrG.st (i := 0) [] rfl rfl rfl (by kernel_rfl) (OKG.o rfl (OK1.mv (Has.t rfl))) ?_
        refine DrG.st (i := 1) [] rfl rfl rfl (by kernel_rfl) (OKG.o rfl (OK1.load (Has.t rfl) (i := 4) rfl ty24 rfl (Ss' := [_, _, _]) rfl)) ?_
        refine DrG.st (i := 2) [] rfl rfl rfl (by kernel_rfl) (OKG.o rfl (OK1.mv (Has.t rfl))) ?_
        refine DrG.st (i := 3) [] rfl rfl rfl (by kernel_rfl) (OKG.o rfl (OK1.mv (Has.t rfl))) ?_
        refine DrG.st (i := 4) [] rfl rfl rfl (by kernel_rfl) (OKG.o rfl (OK1.mv (Has.t rfl))) ?_
        refine DrG.st (i := 5) [36, 37, 38, 39] rfl rfl rfl (by kernel_rfl) (OKG.o rfl (OK1.call (ref21_At (i := i) (k := j) hp (by omega) (by omega)) (.cons (Has.t rfl) (.cons (Has.t rfl) (.cons (Has.t rfl) (.cons (Has.t rfl) .nil)))))) ?_
        refine DrG.st (i := 6) [] rfl rfl rfl (by kernel_rfl) (OKG.o rfl (OK1.load (Has.t rfl) (i := 3) rfl ty24 rfl (Ss' := [_, _, _]) rfl)) ?_
        refine DrG.st (i := 7) [] rfl rfl rfl (by kernel_rfl) (OKG.o rfl (OK1.mv (Has.t rfl))) ?_
        refine DrG.st (i := 8) [] rfl rfl rfl (by kernel_rfl) (OKG.o rfl (OK1.mv (Has.t rfl))) ?_
        refine DrG.st (i := 9) [] rfl rfl rfl (by kernel_rfl) (OKG.o rfl (OK1.mv (Has.t rfl))) ?_
        refine DrG.st (i := 10) [41, 42, 43, 44] rfl rfl rfl (by kernel_rfl) (OKG.o rfl (OK1.call (ref21_At (i := j) (k := k) hp (by omega) (by omega)) (.cons (Has.t rfl) (.cons (Has.t rfl) (.cons (Has.t rfl) (.cons (Has.t rfl) .nil)))))) ?_
        refine DrG.st (i := 11) [] rfl rfl rfl (by kernel_rfl) (OKG.o rfl (OK1.mv (Has.t rfl))) ?_
        refine DrG.st (i := 12) [40, 45, 46] rfl rfl rfl (by kernel_rfl) (OKG.o rfl (OK1.call (ref08_Mul hp hp2) (.cons (Has.t rfl) (.cons (Has.t rfl) (.cons (Has.t rfl) .nil))))) ?_
        refine DrG.st (i := 13) [35, 47] rfl rfl rfl (by kernel_rfl) (OKG.o rfl (OK1.addU' (Has.t rfl) (Has.t rfl) (by first | omega | assumption))) ?_
        refine DrG.st (i := 14) [] rfl rfl rfl (by kernel_rfl) (OKG.o rfl (OK1.mv (Has.t rfl))) ?_
        refine DrG.fin (n := 15) mixed (by kernel_rfl) (by kernel_rfl) (by kernel_rfl) ?_
        refine Ops.cv (Cv.wk (.cons (t := 2) (Has.t rfl) (.cons (t := 3) (Has.t rfl) (.cons (t := 4) (Has.t rfl) (.cons (t := 6) (Has.t rfl) (.cons (t := 7) (Has.t rfl) (.cons (t := 8) (Has.t rfl) (.cons (t := 17) (Has.t rfl) (.cons (t := 18) (Has.t rfl) (.cons (t := 19) (Has.t rfl) (.cons (t := 20) (Has.t rfl) (.cons (t := 9) (Has.t rfl) (.cons (t := 23) (Has.t rfl) (.cons (t := 24) (Has.t rfl) (.cons (t := 25) (Has.t rfl) (.cons (t := 26) (Has.t rfl) (.cons (t := 11) (Has.t rfl) (.cons (t := 10) (Has.t rfl) (.cons (t := 29) (Has.t rfl) (.cons (t := 30) (Has.t rfl) (.cons (t := 31) (Has.t rfl) (.cons (t := 32) (Has.t rfl) (.cons (t := 35) (Has.t rfl) (.cons (t := 36) (Has.t rfl) (.cons (t := 37) (Has.t rfl) (.cons (t := 38) (Has.t rfl) (.cons (t := 39) (Has.t rfl) (.cons (t := 40) (Has.t rfl) (.cons (t := 41) (Has.t rfl) (.cons (t := 42) (Has.t rfl) (.cons (t := 43) (Has.t rfl) (.cons (t := 44) (Has.t rfl) (.cons (t := 45) (Has.t rfl) (.cons (t := 46) (Has.t rfl) (.cons (t := 47) (Has.t rfl) (.cons (t := 48) (Has.t rfl) (.cons (t := 49) (Has.t rfl) .nil))))))))))))))))))))))))))))))))))))) ?_
        refine st (OK1.remU (Has.t rfl) (Has.t rfl) (by first | omega | assumption) (by first | omega | assumption)) rfl ?_
        refine st (OK1.as (Has.t rfl)) rfl ?_
        refine nl ?_
        refine At.bln ?_
        refine At.thn (hK20 _ _ ?_); clear hK20
        refine Tri.region ?_
        refine st (OK1.mv (Has.t rfl)) rfl ?_
        refine st (OK1.addI (Has.t rfl) (Has.cI 1 rfl) (by first | omega | assumption) (by first | omega | assumption)) rfl ?_
        refine st (OK1.as (Has.t rfl)) rfl ?_
        refine nl ?_
        refine At.thn ?_
        refine hK17 (⟨j + 1, by omega⟩) _ _ ?_ (Cv.mem (.cons (t := 11) (Has.t' rfl ?_) (.cons (t := 10) (Has.t' rfl ?_) (.cons (t := 2) (Has.t rfl) (.cons (t := 3) (Has.t rfl) (.cons (t := 4) (Has.t rfl) (.cons (t := 6) (Has.t rfl) (.cons (t := 7) (Has.t rfl) (.cons (t := 8) (Has.t rfl) (.cons (t := 17) (Has.t rfl) (.cons (t := 18) (Has.t rfl) (.cons (t := 19) (Has.t rfl) (.cons (t := 20) (Has.t rfl) (.cons (t := 9) (Has.t rfl) (.cons (t := 23) (Has.t rfl) (.cons (t := 24) (Has.t rfl) (.cons (t := 25) (Has.t rfl) (.cons (t := 26) (Has.t rfl) .nil))))))))))))))))) ?_)
        · show C - (j + 1) < C - j; omega
        · exact isI_eq (by omega)
        · exact isU_eq (mul_step _ _ _ _)
        · rfl
      · have hc3 := BP.f hc3
        skip
        refine Tri.exit ?_
        refine At.the ?_
        refine At.the ?_
        refine At.blh ?_
        refine At.thn (hK15 _ _ ?_); clear hK15
        refine Tri.region ?_
        refine st (OK1.fieldAddr (Has.t rfl) fld24_2 ty22) rfl ?_
        refine st (OK1.load1 (Has.t rfl) (i := 1) rfl ty22 rfl) rfl ?_
        refine st (OK1.eq (OK1.mv (Has.t rfl)) ((show isU _ = isU (G i k) from isU_eq (by rw [hG, show j = C by omega])))) rfl ?_
        refine st (OK1.buildS [isU 0] sl22 ty27 zero27 (fun _ _ => ⟨⟨rfl, by decide⟩, trivial⟩) rfl rfl (.cons (Has.t rfl) rfl rfl rfl .nil) rfl (S := SlM isU [G i k]) rfl) rfl ?_
        refine Ops.appendG (f := isU) (u := 0) sl22 ty27 zero27 (fun _ _ => ⟨⟨rfl, by decide⟩, trivial⟩) (fun _ => inferInstance) by27 (Has.t rfl) (i := 0) rfl (Has.t rfl) (by have hpl := place_lt (show i < R by omega) (show k < D by omega); rw [tabU_len]; show i * D + k + 1 ≤ _; omega) (by simp) rfl fun gr1 => ?_
        refine Ops.memEq (M' := [grM _ _ _, _, _, _, _]) rfl ?_
        refine st (OK1.fieldAddr (Has.t rfl) fld24_2 ty22) rfl ?_
        refine Ops.store (Has.t rfl) (Has.t rfl) (i := 1) rfl ty22 rfl rfl (Ss' := [_, _, _]) rfl (M' := [_, (some _, cellM [_, _, _]), _, _, _]) rfl ?_
        refine nl ?_
        refine At.bln ?_
        refine At.thn (hK13 _ _ ?_); clear hK13
        refine Tri.region ?_
        refine st (OK1.mv (Has.t rfl)) rfl ?_
        refine st (OK1.addI (Has.t rfl) (Has.cI 1 rfl) (by first | omega | assumption) (by first | omega | assumption)) rfl ?_
        refine st (OK1.as (Has.t rfl)) rfl ?_
        refine nl ?_
        refine At.thn ?_
        have hpl := place_lt (show i < R by omega) (show k < D by omega)
        refine hK10 (⟨(k + 1, gr1), by show k + 1 ≤ D; omega⟩) _ _ ?_ (Cv.mem (.cons (t := 9) (Has.t' rfl ?_) (.cons (t := 2) (Has.t rfl) (.cons (t := 3) (Has.t rfl) (.cons (t := 4) (Has.t rfl) (.cons (t := 6) (Has.t rfl) (.cons (t := 7) (Has.t rfl) (.cons (t := 8) (Has.t rfl) (.cons (t := 17) (Has.t rfl) (.cons (t := 18) (Has.t rfl) (.cons (t := 19) (Has.t rfl) (.cons (t := 20) (Has.t rfl) .nil))))))))))) ?_)
        · show D - (k + 1) < D - k; omega
        · exact isI_eq (by omega)
        · exact grFu_eq (by rw [← tabU_succ G (show k < D by omega), List.length_append]) (by rw [← tabU_succ G (show k < D by omega)])
    · have hc2 := BP.f hc2
      refine Tri.exit ?_
      refine At.the ?_
      refine At.the ?_
      refine At.blh ?_
      refine At.bln ?_
      refine At.thn (hK8 _ _ ?_); clear hK8
      refine Tri.region ?_
      refine st (OK1.mv (Has.t rfl)) rfl ?_
      refine st (OK1.addI (Has.t rfl) (Has.cI 1 rfl) (by first | omega | assumption) (by first | omega | assumption)) rfl ?_
      refine st (OK1.as (Has.t rfl)) rfl ?_
      refine nl ?_
      refine At.thn ?_
      have hkD : k = D := by omega
      subst hkD
      refine hK5 (⟨(i + 1, g2), by show i + 1 ≤ R; omega⟩) _ _ ?_ (Cv.mem (.cons (t := 8) (Has.t' rfl ?_) (.cons (t := 2) (Has.t rfl) (.cons (t := 3) (Has.t rfl) (.cons (t := 4) (Has.t rfl) (.cons (t := 6) (Has.t rfl) (.cons (t := 7) (Has.t rfl) .nil)))))) ?_)
      · show R - (i + 1) < R - i; omega
      · exact isI_eq (by omega)
      · exact grFu_eq (by rw [tabU_next]) (by rw [tabU_next])
  · have hc1 := BP.f hc1
    refine Tri.exit ?_
    refine At.the ?_
    refine At.the ?_
    refine At.blh ?_
    refine At.thn (hK3 _ _ ?_); clear hK3
    refine Tri.cv (Cv.wk (.cons (t := 6) (Has.t rfl) (.cons (t := 7) (Has.t rfl) .nil))) ?_
    refine Tri.seq fun K21 hK21 => ?_
    refine Tri.cv (Cv.freezeF (k := 1) (i := 0) (j := 0) (o := 2) rfl rfl rfl rfl gr_lenM gr_takeM (Ss' := [_, _, SlM isU (tabU (i * D + 0) D G)]) rfl) ?_
    refine Tri.memEq (M' := [(some _, cellM [_, _, SlM isU (tabU (i * D + 0) D G)]), _, _, _]) rfl ?_
    refine Tri.cv (Cv.wk (.cons (t := 6) (Has.t rfl) (.cons (t := 7) (Has.t rfl) .nil))) ?_
    refine Tri.region ?_
    refine st (OK1.load (Has.t rfl) (i := 0) rfl ty24 rfl (Ss' := [_, _, _]) rfl) rfl ?_
    refine Ops.store (Has.t rfl) (Has.t rfl) (i := 1) rfl ty24 rfl rfl (Ss' := [_, _, _]) rfl (M' := [_, (some _, cellM [_, _, _]), _, _]) rfl ?_
    refine nl ?_
    refine At.thn (hK21 _ _ ?_); clear hK21
    refine Tri.ret ?_
    refine rt1 (.inl rfl) Try.results24 rfl (.cell rfl (i := 1) rfl ty24 rfl ?_ .nil)
    all_goals (rw [Nat.add_zero, show i = R by omega])
set_option maxHeartbeats 4000000 in
theorem ref21_Turned {R C : Nat} {xs : List Nat} (hR : R ≤ 64) (hC : C ≤ 64) (hxl : xs.length = R * C) : Ctr Try.prog 29 [isMW R C xs] (isMW C R (tabU (C * R) R fun i k => xs.getD (k * C + i) 0)) := by
  refine Ctr.intro Try.func29 rfl (by kernel_rfl) Try.ntmps29 rfl fun w0 F0 => ?_
  refine Tri.cv (Cv.wk (.cons (t := 0) (Has.t rfl) .nil)) ?_
  have h1 := side_le hR hC
  have h2 := side_le hC hR
  obtain ⟨G, hG⟩ : ∃ G : Nat → Nat → Nat, G = fun i k => xs.getD (k * C + i) 0 := ⟨_, rfl⟩
  rw [← hG]
  refine Tri.seq fun K1 hK1 => ?_
  refine Tri.region ?_
  refine Ops.box (Has.t rfl) rfl fun b1 => ?_
  refine Ops.alloc [isI 0, isI 0, nilS] zero24 (fun _ _ => ⟨⟨rfl, by decide, by decide⟩, ⟨rfl, by decide, by decide⟩, rfl, trivial⟩) rfl fun b2 => ?_
  refine nl ?_
  refine At.thn (hK1 _ _ ?_); clear hK1
  refine Tri.seq fun K2 hK2 => ?_
  refine Tri.region ?_
  refine st (OK1.fieldAddr (Has.t rfl) fld24_1 ty3) rfl ?_
  refine st (OK1.load1 (Has.t rfl) (i := 1) rfl ty3 rfl) rfl ?_
  refine st (OK1.fieldAddr (Has.t rfl) fld24_0 ty3) rfl ?_
  refine st (OK1.load1 (Has.t rfl) (i := 1) rfl ty3 rfl) rfl ?_
  refine st (OK1.build [isI 0, isI 0, nilS] pl24 zero24 (fun _ _ => ⟨⟨rfl, by decide, by decide⟩, ⟨rfl, by decide, by decide⟩, rfl, trivial⟩) (.cons (Has.t rfl) rfl rfl rfl (.cons (Has.t rfl) rfl rfl rfl .nil)) (Z'' := [_, _, _]) rfl) rfl ?_
  refine Ops.alloc [isI 0, isI 0, nilS] zero24 (fun _ _ => ⟨⟨rfl, by decide, by decide⟩, ⟨rfl, by decide, by decide⟩, rfl, trivial⟩) rfl fun b3 => ?_
  refine Ops.store (Has.t rfl) (Has.t rfl) (i := 0) rfl ty24 rfl rfl (Ss' := [_, _, _]) rfl (M' := [(some _, cellM [_, _, _]), _, _]) rfl ?_
  refine nl ?_
  refine At.thn (hK2 _ _ ?_); clear hK2
  refine Tri.cv (Cv.wk (.cons (t := 1) (Has.t rfl) (.cons (t := 2) (Has.t rfl) (.cons (t := 3) (Has.t rfl) .nil)))) ?_
  refine Tri.seq fun K3 hK3 => ?_
  refine Tri.seq fun K4 hK4 => ?_
  refine Tri.cv (Cv.growF (Nat) (i := 0) (o := 2) rfl rfl rfl) ?_
  refine Tri.memEq (M' := [grM isU Gr.nil [], _, _, _]) rfl ?_
  refine Tri.region ?_
  refine st (OK1.as (Has.cI 0 rfl)) rfl ?_
  refine nl ?_
  refine At.thn (hK4 _ _ ?_); clear hK4
  refine Tri.block ?_
  refine Tri.loopF [1, 2, 3] (fun (z : { z : Nat × Gr Nat // z.1 ≤ C }) => match z with | ⟨(i, g), hI⟩ => [(4, isI (i : Int))]) (fun M => fun (z : { z : Nat × Gr Nat // z.1 ≤ C }) => match z with | ⟨(i, g), hI⟩ => [grM isU g (tabU (i * R + 0) R G), (some b3, cellM [isI (C : Int), isI (R : Int), isGr g (tabU (i * R + 0) R G).length]), (some b2, cellM [isI 0, isI 0, nilS]), (some b1, cellM [isI (R : Int), isI (C : Int), SlM isU xs])]) (fun (z : { z : Nat × Gr Nat // z.1 ≤ C }) => match z with | ⟨(i, g), hI⟩ => C - i) (⟨(0, Gr.nil), Nat.zero_le _⟩) (Cv.mem (.cons (t := 4) (Has.t' rfl ?_) (.cons (t := 1) (Has.t rfl) (.cons (t := 2) (Has.t rfl) (.cons (t := 3) (Has.t rfl) .nil)))) ?_) ?_
  · rfl
  · exact grFu_eq (n := 0) (ys := []) (by rw [tabU_len, Nat.zero_mul]) (show [] = tabU (0 * R + 0) R G by rw [Nat.zero_mul]; rfl)
  rintro ⟨⟨i, g⟩, hI⟩ K5 hK5
  refine Tri.cv (Cv.wk (.cons (t := 4) (Has.t rfl) (.cons (t := 1) (Has.t rfl) (.cons (t := 2) (Has.t rfl) (.cons (t := 3) (Has.t rfl) .nil))))) ?_
  refine Tri.memEq (M' := [grM isU g (tabU (i * R + 0) R G), (some b3, cellM [isI (C : Int), isI (R : Int), isGr g (tabU (i * R + 0) R G).length]), (some b2, cellM [isI 0, isI 0, nilS]), (some b1, cellM [isI (R : Int), isI (C : Int), SlM isU xs])]) rfl ?_
  simp only [] at hI
  refine Tri.seq fun K6 hK6 => ?_
  refine Tri.seq fun K7 hK7 => ?_
  refine Tri.region ?_
  refine st (OK1.mv (Has.t rfl)) rfl ?_
  refine st (OK1.fieldAddr (Has.t rfl) fld24_1 ty3) rfl ?_
  refine st (OK1.load1 (Has.t rfl) (i := 3) rfl ty3 rfl) rfl ?_
  refine st (OK1.ltI (Has.t rfl) (Has.t rfl)) rfl ?_
  refine nl ?_
  refine At.thn (hK7 _ _ ?_); clear hK7
  refine Tri.cond (Has.t rfl) (fun hc1 => ?_) (fun hc1 => ?_)
  · have hc1 := BP.t hc1
    refine Tri.skip ?_
    refine At.thn (hK6 _ _ ?_); clear hK6
    refine Tri.seq fun K8 hK8 => ?_
    refine Tri.block ?_
    refine Tri.seq fun K9 hK9 => ?_
    refine Tri.region ?_
    refine st (OK1.as (Has.cI 0 rfl)) rfl ?_
    refine nl ?_
    refine At.thn (hK9 _ _ ?_); clear hK9
    refine Tri.block ?_
    refine Tri.loopF [1, 2, 3, 4, 11, 12, 13, 14] (fun (z : { z : Nat × Gr Nat // z.1 ≤ R }) => match z with | ⟨(k, g2), hK⟩ => [(5, isI (k : Int))]) (fun M => fun (z : { z : Nat × Gr Nat // z.1 ≤ R }) => match z with | ⟨(k, g2), hK⟩ => [grM isU g2 (tabU (i * R + k) R G), (some b3, cellM [isI (C : Int), isI (R : Int), isGr g2 (tabU (i * R + k) R G).length]), (some b2, cellM [isI 0, isI 0, nilS]), (some b1, cellM [isI (R : Int), isI (C : Int), SlM isU xs])]) (fun (z : { z : Nat × Gr Nat // z.1 ≤ R }) => match z with | ⟨(k, g2), hK⟩ => R - k) (⟨(0, g), Nat.zero_le _⟩) (Cv.mem (.cons (t := 5) (Has.t' rfl ?_) (.cons (t := 1) (Has.t rfl) (.cons (t := 2) (Has.t rfl) (.cons (t := 3) (Has.t rfl) (.cons (t := 4) (Has.t rfl) (.cons (t := 11) (Has.t rfl) (.cons (t := 12) (Has.t rfl) (.cons (t := 13) (Has.t rfl) (.cons (t := 14) (Has.t rfl) .nil))))))))) ?_) ?_
    · rfl
    · rfl
    rintro ⟨⟨k, g2⟩, hK⟩ K10 hK10
    refine Tri.cv (Cv.wk (.cons (t := 5) (Has.t rfl) (.cons (t := 1) (Has.t rfl) (.cons (t := 2) (Has.t rfl) (.cons (t := 3) (Has.t rfl) (.cons (t := 4) (Has.t rfl) (.cons (t := 11) (Has.t rfl) (.cons (t := 12) (Has.t rfl) (.cons (t := 13) (Has.t rfl) (.cons (t := 14) (Has.t rfl) .nil)))))))))) ?_
    refine Tri.memEq (M' := [grM isU g2 (tabU (i * R + k) R G), (some b3, cellM [isI (C : Int), isI (R : Int), isGr g2 (tabU (i * R + k) R G).length]), (some b2, cellM [isI 0, isI 0, nilS]), (some b1, cellM [isI (R : Int), isI (C : Int), SlM isU xs])]) rfl ?_
    simp only [] at hK
    refine Tri.seq fun K11 hK11 => ?_
    refine Tri.seq fun K12 hK12 => ?_
    refine Tri.region ?_
    refine st (OK1.mv (Has.t rfl)) rfl ?_
    refine st (OK1.fieldAddr (Has.t rfl) fld24_0 ty3) rfl ?_
    refine st (OK1.load1 (Has.t rfl) (i := 3) rfl ty3 rfl) rfl ?_
    refine st (OK1.ltI (Has.t rfl) (Has.t rfl)) rfl ?_
    refine nl ?_
    refine At.thn (hK12 _ _ ?_); clear hK12
    refine Tri.cond (Has.t rfl) (fun hc2 => ?_) (fun hc2 => ?_)
    · have hc2 := BP.t hc2
      have hp1 := place_lt (show k < R by omega) (show i < C by omega)
      have hcp : ((k : Int) * (C : Int)) = ((k * C : Nat) : Int) := (Int.natCast_mul k C).symm
      refine Tri.skip ?_
      refine At.thn (hK11 _ _ ?_); clear hK11
      refine Tri.seq fun K13 hK13 => ?_
      refine Tri.block ?_
      refine Tri.dr ?_
      refine DrG.st (i := 0) [] rfl rfl rfl (by kernel_rfl) (OKG.o rfl (OK1.fieldAddr (Has.t rfl) fld24_2 ty22)) ?_
      refine DrG.st (i := 1) [23] rfl rfl rfl (by kernel_rfl) (OKG.o rfl (OK1.load1 (Has.t rfl) (i := 1) rfl ty22 rfl)) ?_
      refine DrG.st (i := 2) [] rfl rfl rfl (by kernel_rfl) (OKG.o rfl (OK1.fieldAddr (Has.t rfl) fld24_2 ty22)) ?_
      refine DrG.st (i := 3) [25] rfl rfl rfl (by kernel_rfl) (OKG.o rfl (OK1.load1 (Has.t rfl) (i := 3) rfl ty22 rfl)) ?_
      refine DrG.st (i := 4) [] rfl rfl rfl (by kernel_rfl) (OKG.o rfl (OK1.mv (Has.t rfl))) ?_
      refine DrG.st (i := 5) [] rfl rfl rfl (by kernel_rfl) (OKG.o rfl (OK1.fieldAddr (Has.t rfl) fld24_1 ty3)) ?_
      refine DrG.st (i := 6) [28] rfl rfl rfl (by kernel_rfl) (OKG.o rfl (OK1.load1 (Has.t rfl) (i := 3) rfl ty3 rfl)) ?_
      refine DrG.st (i := 7) [27, 29] rfl rfl rfl (by kernel_rfl) (OKG.o rfl (OK1.eq (OK1.mulI (Has.t rfl) (Has.t rfl) (by first | omega | (rw [hcp]; omega)) (by first | omega | (rw [hcp]; omega))) ((show isI _ = isI ((k * C : Nat) : Int) from isI_eq hcp)))) ?_
      refine DrG.st (i := 8) [] rfl rfl rfl (by kernel_rfl) (OKG.o rfl (OK1.mv (Has.t rfl))) ?_
      refine DrG.st (i := 9) [30, 31] rfl rfl rfl (by kernel_rfl) (OKG.o rfl (OK1.eq (OK1.addI (Has.t rfl) (Has.t rfl) (by first | omega | (rw [hcp]; omega)) (by first | omega | (rw [hcp]; omega))) ((show isI _ = isI ((k * C + i : Nat) : Int) from isI_eq (by omega))))) ?_
      refine DrG.st (i := 10) [26, 32] rfl rfl rfl (by kernel_rfl) (OKG.o rfl (OK1.ixP sl22 ty27 (Has.t rfl) (Has.t rfl) ⟨by omega, by omega⟩ (getD_some (d := 0) (by first | omega | (simp only [Int.toNat_natCast, List.length_set]; omega))))) ?_
      refine DrG.st (i := 11) [33] rfl rfl rfl (by kernel_rfl) (OKG.o rfl (OK1.eq (OK1.loadP1 (Has.t rfl) ty27) ((show isU _ = isU (G i k) from isU_eq (by rw [hG]; rfl))))) ?_
      refine DrG.st (i := 12) [34] rfl rfl rfl (by kernel_rfl) (OKG.o rfl (OK1.buildS [isU 0] sl22 ty27 zero27 (fun _ _ => ⟨⟨rfl, by decide⟩, trivial⟩) rfl rfl (.cons (Has.t rfl) rfl rfl rfl .nil) rfl (S := SlM isU [G i k]) rfl)) ?_
      refine DrG.fin (n := 13) mixed (by kernel_rfl) (by kernel_rfl) (by kernel_rfl) ?_
      refine Ops.cv (Cv.wk (.cons (t := 1) (Has.t rfl) (.cons (t := 2) (Has.t rfl) (.cons (t := 3) (Has.t rfl) (.cons (t := 4) (Has.t rfl) (.cons (t := 11) (Has.t rfl) (.cons (t := 12) (Has.t rfl) (.cons (t := 13) (Has.t rfl) (.cons (t := 14) (Has.t rfl) (.cons (t := 5) (Has.t rfl) (.cons (t := 17) (Has.t rfl) (.cons (t := 18) (Has.t rfl) (.cons (t := 19) (Has.t rfl) (.cons (t := 20) (Has.t rfl) (.cons (t := 23) (Has.t rfl) (.cons (t := 24) (Has.t rfl) (.cons (t := 25) (Has.t rfl) (.cons (t := 26) (Has.t rfl) (.cons (t := 27) (Has.t rfl) (.cons (t := 28) (Has.t rfl) (.cons (t := 29) (Has.t rfl) (.cons (t := 30) (Has.t rfl) (.cons (t := 31) (Has.t rfl) (.cons (t := 32) (Has.t rfl) (.cons (t := 33) (Has.t rfl) (.cons (t := 34) (Has.t rfl) (.cons (t := 35) (Has.t rfl) .nil))))))))))))))))))))))))))) ?_
      refine Ops.appendG (f := isU) (u := 0) sl22 ty27 zero27 (fun _ _ => ⟨⟨rfl, by decide⟩, trivial⟩) (fun _ => inferInstance) by27 (Has.t rfl) (i := 0) rfl (Has.t rfl) (by have hpl := place_lt (show i < C by omega) (show k < R by omega); rw [tabU_len]; show i * R + k + 1 ≤ _; omega) (by simp) rfl fun gr1 => ?_
      refine Ops.memEq (M' := [grM _ _ _, _, _, _]) rfl ?_
      refine st (OK1.fieldAddr (Has.t rfl) fld24_2 ty22) rfl ?_
      refine Ops.store (Has.t rfl) (Has.t rfl) (i := 1) rfl ty22 rfl rfl (Ss' := [_, _, _]) rfl (M' := [_, (some _, cellM [_, _, _]), _, _]) rfl ?_
      refine nl ?_
      refine At.bln ?_
      refine At.thn (hK13 _ _ ?_); clear hK13
      refine Tri.region ?_
      refine st (OK1.mv (Has.t rfl)) rfl ?_
      refine st (OK1.addI (Has.t rfl) (Has.cI 1 rfl) (by first | omega | assumption) (by first | omega | assumption)) rfl ?_
      refine st (OK1.as (Has.t rfl)) rfl ?_
      refine nl ?_
      refine At.thn ?_
      have hpl := place_lt (show i < C by omega) (show k < R by omega)
      refine hK10 (⟨(k + 1, gr1), by show k + 1 ≤ R; omega⟩) _ _ ?_ (Cv.mem (.cons (t := 5) (Has.t' rfl ?_) (.cons (t := 1) (Has.t rfl) (.cons (t := 2) (Has.t rfl) (.cons (t := 3) (Has.t rfl) (.cons (t := 4) (Has.t rfl) (.cons (t := 11) (Has.t rfl) (.cons (t := 12) (Has.t rfl) (.cons (t := 13) (Has.t rfl) (.cons (t := 14) (Has.t rfl) .nil))))))))) ?_)
      · show R - (k + 1) < R - k; omega
      · exact isI_eq (by omega)
      · exact grFu_eq (by rw [← tabU_succ G (show k < R by omega), List.length_append]) (by rw [← tabU_succ G (show k < R by omega)])
    · have hc2 := BP.f hc2
      skip
      refine Tri.exit ?_
      refine At.the ?_
      refine At.the ?_
      refine At.blh ?_
      refine At.bln ?_
      refine At.thn (hK8 _ _ ?_); clear hK8
      refine Tri.region ?_
      refine st (OK1.mv (Has.t rfl)) rfl ?_
      refine st (OK1.addI (Has.t rfl) (Has.cI 1 rfl) (by first | omega | assumption) (by first | omega | assumption)) rfl ?_
      refine st (OK1.as (Has.t rfl)) rfl ?_
      refine nl ?_
      refine At.thn ?_
      have hkR : k = R := by omega
      subst hkR
      refine hK5 (⟨(i + 1, g2), by show i + 1 ≤ C; omega⟩) _ _ ?_ (Cv.mem (.cons (t := 4) (Has.t' rfl ?_) (.cons (t := 1) (Has.t rfl) (.cons (t := 2) (Has.t rfl) (.cons (t := 3) (Has.t rfl) .nil)))) ?_)
      · show C - (i + 1) < C - i; omega
      · exact isI_eq (by omega)
      · exact grFu_eq (by rw [tabU_next]) (by rw [tabU_next])
  · have hc1 := BP.f hc1
    refine Tri.exit ?_
    refine At.the ?_
    refine At.the ?_
    refine At.blh ?_
    refine At.thn (hK3 _ _ ?_); clear hK3
    refine Tri.cv (Cv.wk (.cons (t := 2) (Has.t rfl) (.cons (t := 3) (Has.t rfl) .nil))) ?_
    refine Tri.seq fun K14 hK14 => ?_
    refine Tri.cv (Cv.freezeF (k := 1) (i := 0) (j := 0) (o := 2) rfl rfl rfl rfl gr_lenM gr_takeM (Ss' := [_, _, SlM isU (tabU (i * R + 0) R G)]) rfl) ?_
    refine Tri.memEq (M' := [(some _, cellM [_, _, SlM isU (tabU (i * R + 0) R G)]), _, _]) rfl ?_
    refine Tri.cv (Cv.wk (.cons (t := 2) (Has.t rfl) (.cons (t := 3) (Has.t rfl) .nil))) ?_
    refine Tri.region ?_
    refine st (OK1.load (Has.t rfl) (i := 0) rfl ty24 rfl (Ss' := [_, _, _]) rfl) rfl ?_
    refine Ops.store (Has.t rfl) (Has.t rfl) (i := 1) rfl ty24 rfl rfl (Ss' := [_, _, _]) rfl (M' := [_, (some _, cellM [_, _, _]), _]) rfl ?_
    refine nl ?_
    refine At.thn (hK14 _ _ ?_); clear hK14
    refine Tri.ret ?_
    refine rt1 (.inl rfl) Try.results29 rfl (.cell rfl (i := 1) rfl ty24 rfl ?_ .nil)
    all_goals (rw [Nat.add_zero, show i = C by omega])
set_option maxHeartbeats 4000000 in
theorem ref13_In {l : List Nat} {x : Nat} : Ctr Try.prog 30 [SlM isI (pv l), isI (x : Int)] (isB (decide (x ∈ l))) := by
  refine Ctr.intro Try.func30 rfl (by kernel_rfl) Try.ntmps30 rfl fun w0 F0 => ?_
  refine Tri.cv (Cv.wk (.cons (t := 0) (Has.t rfl) (.cons (t := 1) (Has.t rfl) .nil))) ?_
  refine Tri.fact (Has.lenLt (Has.t (t := 0) rfl)) fun lt0 => ?_
  refine Tri.fact (Has.rngI (Has.t (t := 1) rfl)) fun lt1 => ?_
  have hpv := pv_len l
  refine Tri.seq fun K1 hK1 => ?_
  refine Tri.region ?_
  refine st (OK1.as (Has.cB false)) rfl ?_
  refine nl ?_
  refine At.thn (hK1 _ _ ?_); clear hK1
  refine Tri.seq fun K2 hK2 => ?_
  refine Tri.seq fun K3 hK3 => ?_
  refine Tri.region ?_
  refine st (OK1.as (Has.cI 0 rfl)) rfl ?_
  refine nl ?_
  refine At.thn (hK3 _ _ ?_); clear hK3
  refine Tri.block ?_
  refine Tri.loopF [0, 1] (fun (z : { i : Nat // i ≤ l.length ∧ ∀ j, j < i → l.getD j 0 ≠ x }) => match z with | ⟨i, hI⟩ => [(5, isI (i : Int))]) (fun M => fun (z : { i : Nat // i ≤ l.length ∧ ∀ j, j < i → l.getD j 0 ≠ x }) => match z with | ⟨i, hI⟩ => M) (fun (z : { i : Nat // i ≤ l.length ∧ ∀ j, j < i → l.getD j 0 ≠ x }) => match z with | ⟨i, hI⟩ => l.length - i) (⟨0, Nat.zero_le _, fun j hj => absurd hj (Nat.not_lt_zero _)⟩) (Cv.mem (.cons (t := 5) (Has.t' rfl ?_) (.cons (t := 0) (Has.t rfl) (.cons (t := 1) (Has.t rfl) .nil))) ?_) ?_
  · rfl
  · rfl
  rintro ⟨i, hi, hq⟩ K4 hK4
  refine Tri.cv (Cv.wk (.cons (t := 5) (Has.t rfl) (.cons (t := 0) (Has.t rfl) (.cons (t := 1) (Has.t rfl) .nil)))) ?_
  refine Tri.seq fun K5 hK5 => ?_
  refine Tri.seq fun K6 hK6 => ?_
  refine Tri.region ?_
  refine st (OK1.mv (Has.t rfl)) rfl ?_
  refine st (OK1.mv (Has.t rfl)) rfl ?_
  refine st (OK1.len sl32 (Has.t rfl)) rfl ?_
  refine st (OK1.ltI (Has.t rfl) (Has.t rfl)) rfl ?_
  refine nl ?_
  refine At.thn (hK6 _ _ ?_); clear hK6
  refine Tri.cond (Has.t rfl) (fun hc1 => ?_) (fun hc1 => ?_)
  · have hc1 := BP.t hc1
    refine Tri.skip ?_
    refine At.thn (hK5 _ _ ?_); clear hK5
    refine Tri.seq fun K7 hK7 => ?_
    refine Tri.block ?_
    refine Tri.seq fun K8 hK8 => ?_
    refine Tri.region ?_
    refine st (OK1.mv (Has.t rfl)) rfl ?_
    refine st (OK1.mv (Has.t rfl)) rfl ?_
    refine st (OK1.ixP sl32 ty3 (Has.t rfl) (Has.t rfl) ⟨by omega, by omega⟩ (pv_at l i (by omega))) rfl ?_
    refine st (OK1.loadP1 (Has.t rfl) ty3) rfl ?_
    refine st (OK1.mv (Has.t rfl)) rfl ?_
    refine st (OK1.eqI (Has.t rfl) (Has.t rfl)) rfl ?_
    refine nl ?_
    refine At.thn (hK8 _ _ ?_); clear hK8
    refine Tri.cond (Has.t rfl) (fun hc2 => ?_) (fun hc2 => ?_)
    · have hc2 := BP.t hc2
      have HQ := hc2
      refine Tri.seq fun K9 hK9 => ?_
      refine Tri.region ?_
      refine st (OK1.as (Has.cB true)) rfl ?_
      refine nl ?_
      refine At.thn (hK9 _ _ ?_); clear hK9
      refine Tri.ret ?_
      refine At.blr ?_
      refine At.thr ?_
      refine At.thr ?_
      refine At.blr ?_
      refine At.thr ?_
      refine rt1 (.inl rfl) Try.results30 rfl (.tmp (Has.t' rfl ?_) .nil)
      all_goals (exact isB_eq (decide_eq_true (by have := Go.Dt.getD_mem (l := l) (j := i) (by omega); rwa [show l.getD i 0 = x by omega] at this)).symm)
    · have hc2 := BP.f hc2
      have HQ := hc2
      refine Tri.skip ?_
      refine At.bln ?_
      refine At.thn (hK7 _ _ ?_); clear hK7
      refine Tri.region ?_
      refine st (OK1.mv (Has.t rfl)) rfl ?_
      refine st (OK1.addI (Has.t rfl) (Has.cI 1 rfl) (by first | omega | assumption) (by first | omega | assumption)) rfl ?_
      refine st (OK1.as (Has.t rfl)) rfl ?_
      refine nl ?_
      refine At.thn ?_
      refine hK4 (⟨i + 1, by omega, fun j hj => by rcases Nat.lt_or_ge j i with h | h; exact hq j h; obtain rfl : j = i := (by omega); omega⟩) _ _ ?_ (Cv.mem (.cons (t := 5) (Has.t' rfl ?_) (.cons (t := 0) (Has.t rfl) (.cons (t := 1) (Has.t rfl) .nil))) ?_)
      · show l.length - (i + 1) < l.length - i; omega
      · exact isI_eq (by omega)
      · rfl
  · have hc1 := BP.f hc1
    refine Tri.exit ?_
    refine At.the ?_
    refine At.the ?_
    refine At.blh ?_
    refine At.thn (hK2 _ _ ?_); clear hK2
    refine Tri.cv (Cv.wk .nil) ?_
    refine Tri.seq fun K10 hK10 => ?_
    refine Tri.region ?_
    refine st (OK1.as (Has.cB false)) rfl ?_
    refine nl ?_
    refine At.thn (hK10 _ _ ?_); clear hK10
    refine Tri.ret ?_
    refine rt1 (.inl rfl) Try.results30 rfl (.tmp (Has.t' rfl ?_) .nil)
    all_goals (exact isB_eq (decide_eq_false fun h => by obtain ⟨j, hj, h2⟩ := Go.Dt.mem_getD h; exact hq j (by omega) h2).symm)
end Go.Proofs.Ytfoclelageohiaa
/- The laws of layer 21 as plain facts: reduced forms, inverses. No program here. -/
namespace Go.Fe
open Go.Gf Go.Mu Go.Dt Go.Mz
theorem dotN_sm (f g : Nat → Nat) : ∀ n : Nat, ((dotN f g n : Nat) : Int) = sm n fun i => (f i : Int) * (g i : Int)
  | 0 => rfl
  | n + 1 => by
    show ((dotN f g n + f n * g n : Nat) : Int) = sm n _ + _
    rw [Int.natCast_add, Int.natCast_mul, dotN_sm f g n]
/-- a matrix of words that are below p already -/
theorem tabM {p R C : Nat} {g : Nat → Nat → Nat} (h : ∀ i k, i < R → k < C → g i k < p) {i k : Nat} (hi : i < R) (hk : k < C) : (tabU (R * C) C fun i k => g i k % p).getD (i * C + k) 0 = g i k := by
  rw [tabU_place _ hk (place_lt hi hk), Nat.mod_eq_of_lt (h i k hi hk)]
theorem tabP {p N C : Nat} {g : Nat → Nat → Nat} (hp : 0 < p) {j : Nat} (hj : j < (tabU N C fun i k => g i k % p).length) : (tabU N C fun i k => g i k % p).getD j 0 < p := by
  rw [tabU_len] at hj
  rw [tabU_at _ hj]; exact Nat.mod_lt _ hp
theorem getD_app (xs ys : List Nat) (j : Nat) : (xs ++ ys).getD j 0 = if j < xs.length then xs.getD j 0 else ys.getD (j - xs.length) 0 := by
  by_cases h : j < xs.length
  · rw [if_pos h, List.getD, List.getElem?_append_left h]; rfl
  · rw [if_neg h, List.getD, List.getElem?_append_right (by omega)]; rfl
/-- alike, place by place -/
theorem sameW_of {p R C : Nat} {xs ys : List Nat} (hx : xs.length = R * C) (hy : ys.length = R * C) (h : ∀ i k, i < R → k < C → xs.getD (i * C + k) 0 % p = ys.getD (i * C + k) 0 % p) : sameW p (R : Int) (C : Int) xs (R : Int) (C : Int) ys = true := by
  refine decide_eq_true ⟨⟨⟨rfl, rfl⟩, by omega⟩, fun j hj => ?_⟩
  have hC : 0 < C := by rcases Nat.eq_zero_or_pos C with e | e; rw [e, Nat.mul_zero] at hx; omega; exact e
  have h1 : j / C < R := (Nat.div_lt_iff_lt_mul hC).2 (by omega)
  have h2 := h (j / C) (j % C) h1 (Nat.mod_lt _ hC)
  rwa [Nat.mul_comm (j / C), Nat.div_add_mod] at h2
section
variable {p R C : Nat} {xs : List Nat}
/-- the reduced form -/
def redL (p R C : Nat) (xs : List Nat) : List Nat := tabU (R * C) C fun i k => ent (redS p R C 0 xs []) i k % p
end
/-! ### inverses -/
def oneL (p R : Nat) : List Nat := tabU (R * R) R fun i k => (if i = k then 1 else 0) % p
theorem oneL_cg {p R i k : Nat} (hi : i < R) (hk : k < R) : Cg p (mw R (oneL p R) i k) (if i = k then 1 else 0) := by
  unfold mw oneL
  rw [tabU_place _ hk (place_lt hi hk)]
  refine cg_trans (cg_mod _ _) (cg_of ?_)
  split <;> rfl
end Go.Fe
/- The laws of layer 21 as plain facts: kernels, equations. No program here. -/
namespace Go.Fe
open Go.Gf Go.Mu Go.Dt Go.Mz
theorem pw_len (ps : List Nat) : (pw ps).length = ps.length := List.length_map _
theorem pw_getD {ps : List Nat} {j : Nat} (h : j < ps.length) : (pw ps).getD j 0 = ((ps.getD j 0 : Nat) : Int) := by
  unfold pw
  rw [List.getD, List.getElem?_map, List.getD, List.getElem?_eq_getElem h]; rfl
/-- where a column stands -/
theorem idxP_at {ps : List Nat} {i : Nat} (h : idxP ps i < ps.length) : ps.getD (idxP ps i) 0 = i := by
  have := ixn_yes (q := fun x => decide ((i : Int) = x)) (d := 0) (xs := pw ps) (by rw [pw_len]; exact h)
  have h2 := of_decide_eq_true this
  rw [show ixn (fun x => decide ((i : Int) = x)) (pw ps) = idxP ps i from rfl, pw_getD h] at h2
  omega
theorem idxP_mem {ps : List Nat} {i : Nat} : idxP ps i < ps.length ↔ i ∈ ps := by
  constructor
  · intro h
    rw [← idxP_at h]; exact getD_mem h
  · intro h
    obtain ⟨j, hj, e⟩ := mem_getD h
    refine Classical.byContradiction fun h2 => ?_
    have := ixn_before (q := fun x => decide ((i : Int) = x)) (d := 0) (xs := pw ps) (j := j) (by show j < idxP ps i; omega)
    rw [pw_getD hj, e] at this
    simp at this
section
variable {p R W C : Nat} {A : MatF} {s : FS}
theorem FI.idx (h : FI p R W A s C) {r : Nat} (hr : r < s.ps.length) : idxP s.ps (s.ps.getD r 0) = r := by
  have hi : idxP s.ps (s.ps.getD r 0) < s.ps.length := idxP_mem.2 (getD_mem hr)
  have h1 := idxP_at hi
  rcases Nat.lt_trichotomy (idxP s.ps (s.ps.getD r 0)) r with h2 | h2 | h2
  · have := h.pup _ _ h2 hr; omega
  · exact h2
  · have := h.pup _ _ h2 hi; omega
end
end Go.Fe
/- The laws of layer 21 as plain facts: equations. No program here. -/
namespace Go.Fe
open Go.Gf Go.Mu Go.Dt Go.Mz
section
variable {p R C D : Nat} {xs ys : List Nat}
/-- the pivots are the first matrix's -/
theorem sol_ps (hp : Prime p) : (redS p R C D xs ys).ps = (redS p R C 0 xs []).ps := by
  have hF := redS_FI (R := R) (C := C) (D := D) hp xs ys
  have hG := redS_FI (R := R) (C := C) (D := 0) hp xs []
  refine hF.same hG hp.1 (by omega) (by omega) (fun i hi => ?_) fun i hi => ?_
  · exact (Sp.row (mw2 C 0 xs []) hi).cg fun k hk => cg_of (by rw [mw2_left hk, mw2_left hk])
  · exact (Sp.row (mw2 C D xs ys) hi).cg fun k hk => cg_of (by rw [mw2_left hk, mw2_left hk])
def solL (p R C D : Nat) (xs ys : List Nat) : List Nat := tabU (C * D) D fun i k => solE (redS p R C D xs ys) C i k % p
theorem sol_zero {i k : Nat} (hi : i < C) (hk : k < D) (h : i ∉ (redS p R C D xs ys).ps) : (solL p R C D xs ys).getD (i * D + k) 0 % p = 0 := by
  unfold solL
  rw [tabU_place _ hk (place_lt hi hk)]
  unfold solE
  rw [if_neg (fun e => h (idxP_mem.1 e)), Nat.zero_mod, Nat.zero_mod]
theorem ixn_zero {l : List Nat} (h : ¬ ixn nzw l < l.length) {j : Nat} (hj : j < l.length) : l.getD j 0 = 0 := by
  have h1 := ixn_before (q := nzw) (d := 0) (xs := l) (j := j) (by omega)
  exact Classical.not_not.1 (of_decide_eq_false h1)
/-- no row without a pivot has a word behind the matrix -/
theorem good_zero (hp : Prime p) (hg : ¬ badS (redS p R C D xs ys) C) {i k : Nat} (hi : (redS p R C D xs ys).ps.length ≤ i) (hR : i < R) (hk : k < D) : ent (redS p R C D xs ys) i (C + k) = 0 := by
  have hF := redS_FI (R := R) (C := C) (D := D) hp xs ys
  obtain ⟨s, hs⟩ : ∃ s, s = redS p R C D xs ys := ⟨_, rfl⟩
  rw [← hs] at hF hg hi ⊢
  have hlen := hF.len
  have hm : s.rows.getD i [] ∈ s.rows.drop s.ps.length := by
    have e : (s.rows.drop s.ps.length).getD (i - s.ps.length) [] = s.rows.getD i [] := by rw [drop_getD, show s.ps.length + (i - s.ps.length) = i by omega]
    rw [← e, List.getD, List.getElem?_eq_getElem (by rw [List.length_drop]; omega)]
    exact List.getElem_mem _
  have hr := hF.row _ (List.mem_of_mem_drop hm)
  have h1 : ¬ ixn nzw ((s.rows.getD i []).drop C) < ((s.rows.getD i []).drop C).length := fun h => hg ⟨_, hm, h⟩
  have h2 := ixn_zero h1 (j := k) (by rw [List.length_drop]; omega)
  rw [drop_getD] at h2
  exact h2
theorem sol_prod (hp : Prime p) (hl : ys.length = R * D) (hg : ¬ badS (redS p R C D xs ys) C) : sameW p (R : Int) (D : Int) (tabU (R * D) D fun i k => dotN (fun j => xs.getD (i * C + j) 0) (fun j => (solL p R C D xs ys).getD (j * D + k) 0) C % p) (R : Int) (D : Int) ys = true := by
  have hF := redS_FI (R := R) (C := C) (D := D) hp xs ys
  have hgz := fun {i k : Nat} => good_zero (i := i) (k := k) hp hg
  have hp2 := hp.1
  refine sameW_of (tabU_len _ _ _) hl fun i k hi hk => ?_
  rw [tabU_place _ hk (place_lt hi hk)]
  refine cg_nat.1 (cg_trans (cg_mod _ _) ?_)
  have hX : ∀ t, t < C → (solL p R C D xs ys).getD (t * D + k) 0 = solE (redS p R C D xs ys) C t k := fun t ht => by
    refine tabM (g := fun i k => solE (redS p R C D xs ys) C i k) (fun i k hi hk => ?_) ht hk
    unfold solE
    split
    · exact hF.nrm _ _ (by have := hF.ple; omega) (by omega)
    · omega
  obtain ⟨s, hs⟩ : ∃ s, s = redS p R C D xs ys := ⟨_, rfl⟩
  rw [← hs] at hF hgz hX
  obtain ⟨c, h1, h2, h3⟩ := hF.read hp2 (by omega) (Sp.row (mw2 C D xs ys) hi)
  -- the right side
  have h4 := h1 (C + k) (by omega)
  rw [mw2_right, sm_cut hF.ple fun j g1 g2 => by
    show c j * (ent s j (C + k) : Int) = 0
    rw [hgz g1 g2 hk]; exact Int.mul_zero _] at h4
  refine cg_symm (cg_trans h4 ?_)
  rw [dotN_sm]
  have h5 : Cg p (sm C fun j => ((xs.getD (i * C + j) 0 : Nat) : Int) * (((solL p R C D xs ys).getD (j * D + k) 0 : Nat) : Int)) (sm C fun t => (sm s.ps.length fun r => c r * Mx s r t) * ((solE s C t k : Nat) : Int)) := sm_cg fun t ht => by
    rw [hX t ht]
    refine cg_mul ?_ (cg_refl _ _)
    have := h3 t ht
    rw [mw2_left ht] at this
    refine cg_trans this (sm_cg fun r hr => cg_mul (h2 r hr) (cg_refl _ _))
  refine cg_symm (cg_trans h5 ?_)
  have e : (sm C fun t => (sm s.ps.length fun r => c r * Mx s r t) * ((solE s C t k : Nat) : Int)) = sm s.ps.length fun r => c r * sm C fun t => Mx s r t * ((solE s C t k : Nat) : Int) := by
    have e1 : ∀ r, c r * (sm C fun t => Mx s r t * ((solE s C t k : Nat) : Int)) = sm C fun t => c r * (Mx s r t * ((solE s C t k : Nat) : Int)) := fun r => (sm_smul _ _ _).symm
    simp only [e1]
    rw [← sm_swap]
    refine sm_congr fun t _ => ?_
    rw [Int.mul_comm, ← sm_smul]
    exact sm_congr fun r _ => by grind
  rw [e]
  refine sm_cg fun r hr => cg_mul (cg_refl _ _) ?_
  have hrC := hF.plt r hr
  have hrR : r < R := Nat.lt_of_lt_of_le hr hF.ple
  refine cg_of ?_
  rw [sm_one (c := s.ps.getD r 0) hrC fun t ht hne => by
    show (ent s r t : Int) * ((solE s C t k : Nat) : Int) = 0
    unfold solE
    by_cases h : idxP s.ps t < s.ps.length
    · have h6 := hF.unit (idxP s.ps t) r h hrR
      rw [idxP_at h, if_neg (fun e => hne (by rw [e, idxP_at h]))] at h6
      rw [h6]; exact Int.zero_mul _
    · rw [if_neg h]; exact Int.mul_zero _]
  show (ent s r _ : Int) * ((solE s C _ k : Nat) : Int) = (ent s r (C + k) : Int)
  rw [hF.unit r r hr hrR, if_pos rfl, Nat.mod_eq_of_lt (by omega)]
  unfold solE
  rw [hF.idx hr, if_pos hr]
  exact Int.one_mul _
/-- a nonzero sum of more rows than there are columns is noughts -/
theorem dependent (hp : Prime p) {m n : Nat} (hmn : n < m) (X : MatF) : ∃ d : Nat → Int, (∃ i, i < m ∧ ¬ (p : Int) ∣ d i) ∧ ∀ k, k < n → (p : Int) ∣ sm m fun i => d i * X i k := by
  have hp0 : 0 < p := by have := hp.1; omega
  obtain ⟨L, hL⟩ : ∃ L : List Nat, L = tabU (m * n) n fun i k => (X i k % (p : Int)).toNat := ⟨_, rfl⟩
  have hF := redS_FI (R := m) (C := n) (D := m) hp L (oneL p m)
  obtain ⟨s, hs⟩ : ∃ s, s = redS p m n m L (oneL p m) := ⟨_, rfl⟩
  rw [← hs] at hF
  have hps : s.ps.length ≤ n := by
    rcases Nat.eq_zero_or_pos s.ps.length with h | h
    · omega
    · have h1 := hF.up (i := 0) (s.ps.length - 1) (by omega)
      have h2 := hF.plt (0 + (s.ps.length - 1)) (by omega)
      omega
  have hdet := hF.det n (Nat.le_refl _)
  have hone : Cg p (det m fun i k => mw2 n m L (oneL p m) i (n + k)) 1 := by
    rw [← det_one m]
    refine det_cg fun i j hi hj => ?_
    rw [mw2_right]
    exact oneL_cg hi hj
  refine ⟨fun j => Mx s s.ps.length (n + j), Classical.byContradiction fun hno => ?_, fun k hk => ?_⟩
  · have h0 : ∀ j, j < m → (p : Int) ∣ Mx s s.ps.length (n + j) := fun j hj => Classical.byContradiction fun h => hno ⟨j, hj, h⟩
    have h1 : Cg p (det m fun i k => Mx s i (n + k)) 0 := by
      have h2 : Cg p (det m fun i k => Mx s i (n + k)) (det m fun i k => if i = s.ps.length then 0 else Mx s i (n + k)) := det_cg fun i j hi hj => by
        by_cases e : i = s.ps.length
        · rw [if_pos e, e]; exact cg_dvd.2 (h0 j hj)
        · rw [if_neg e]; exact cg_refl _ _
      have h5 : (det m fun i k => if i = s.ps.length then 0 else Mx s i (n + k)) = 0 := (det_rowF m).zero (r := s.ps.length) (by omega) fun j _ => if_pos rfl
      rw [h5] at h2
      exact h2
    have h3 := cg_trans (cg_symm hone) (cg_trans hdet (cg_mul (cg_refl _ _) h1))
    rw [Int.mul_zero] at h3
    have h4 := Int.natAbs_dvd_natAbs.2 (cg_dvd.1 h3)
    have := Nat.le_of_dvd (by decide) h4
    have := hp.1
    simp at *; omega
  · obtain ⟨c, hc⟩ := hF.fwd s.ps.length (by omega)
    have h1 := hc k (by omega)
    have h2 : Mx s s.ps.length k = 0 := by
      show (ent s s.ps.length k : Int) = 0
      rw [hF.zero _ _ (Nat.le_refl _) (by omega) hk]; rfl
    rw [h2] at h1
    refine cg_dvd.1 (cg_symm (cg_trans h1 (sm_cg fun i hi => cg_mul ?_ ?_)))
    · -- the row's right part tells the sum
      have h3 := hc (n + i) (by omega)
      refine cg_symm (cg_trans h3 ?_)
      have h4 : Cg p (sm m fun t => c t * mw2 n m L (oneL p m) t (n + i)) (sm m fun t => (if t = i then 1 else 0) * c t) := sm_cg fun t ht => by
        rw [mw2_right, Int.mul_comm]
        exact cg_mul (oneL_cg ht hi) (cg_refl _ _)
      rwa [sm_pick c hi] at h4
    · rw [mw2_left hk]
      unfold mw
      rw [hL, tabU_place _ hk (place_lt hi hk)]
      exact cg_res _ hp0
/-- rows turned columns -/
def turL (R C : Nat) (xs : List Nat) : List Nat := tabU (C * R) R fun i k => xs.getD (k * C + i) 0
theorem bad_more (hp : Prime p) (hxl : xs.length = R * C) (hb : badS (redS p R C D xs ys) C) : (redS p R C 0 xs []).ps.length < (redS p (C + D) R 0 (turL R C xs ++ turL R D ys) []).ps.length := by
  have hF := redS_FI (R := R) (C := C) (D := D) hp xs ys
  rw [← sol_ps (D := D) (ys := ys) hp]
  have hT := redS_FI (R := C + D) (C := R) (D := 0) hp (turL R C xs ++ turL R D ys) []
  obtain ⟨s, hs⟩ : ∃ s, s = redS p R C D xs ys := ⟨_, rfl⟩
  rw [← hs] at hF hb ⊢
  obtain ⟨t, ht⟩ : ∃ t, t = redS p (C + D) R 0 (turL R C xs ++ turL R D ys) [] := ⟨_, rfl⟩
  rw [← ht] at hT ⊢
  refine Classical.byContradiction fun hle => ?_
  have hp2 := hp.1
  -- a row without a pivot that isn't noughts
  obtain ⟨x, hx, hx2⟩ := hb
  obtain ⟨q, hq⟩ := List.mem_iff_getElem?.1 hx
  rw [List.getElem?_drop] at hq
  have hqR : s.ps.length + q < R := by rw [← hF.len]; exact lt_some hq
  have hxr : s.rows.getD (s.ps.length + q) [] = x := by rw [List.getD, hq]; rfl
  obtain ⟨j0, hj0, hne0⟩ : ∃ j, j < D ∧ ent s (s.ps.length + q) (C + j) ≠ 0 := by
    have h1 := ixn_yes (q := nzw) (d := 0) hx2
    have hxl2 := hF.row x (List.mem_of_getElem? hq)
    rw [List.length_drop] at hx2
    rw [drop_getD] at h1
    refine ⟨ixn nzw (x.drop C), by omega, ?_⟩
    show (s.rows.getD _ []).getD _ 0 ≠ 0
    rw [hxr]; exact of_decide_eq_true h1
  -- the matrix's rows hang on few vectors
  have hTu : ∀ i k, i < R → k < C + D → mw2 C D xs ys i k = mw2 R 0 (turL R C xs ++ turL R D ys) [] k i := fun i k hi hk => by
    rw [mw2_left hi]
    unfold mw
    have hl1 : (turL R C xs).length = C * R := tabU_len _ _ _
    by_cases h : k < C
    · rw [mw2_left h, getD_app, if_pos (by rw [hl1]; exact place_lt h hi)]
      unfold turL mw
      rw [tabU_place _ hi (place_lt h hi)]
    · obtain ⟨e, rfl⟩ : ∃ e, k = C + e := ⟨k - C, by omega⟩
      have e2 : (C + e) * R + i = C * R + (e * R + i) := by rw [Nat.add_mul]; omega
      rw [mw2_right, getD_app, if_neg (by rw [hl1, e2]; omega), hl1, e2, Nat.add_sub_cancel_left]
      unfold turL mw
      rw [tabU_place _ hi (place_lt (show e < D by omega) hi)]
  have hy : ∀ k, ∃ y : Nat → Int, k < C + D → ∀ i, i < R → Cg p (mw2 C D xs ys i k) (sm t.ps.length fun r => y r * Mx t r i) := fun k => by
    by_cases hk : k < C + D
    · obtain ⟨c, _, _, h3⟩ := hT.read hp2 (by omega) (Sp.row (mw2 R 0 (turL R C xs ++ turL R D ys) []) hk)
      exact ⟨fun r => mw2 R 0 (turL R C xs ++ turL R D ys) [] k (t.ps.getD r 0), fun _ i hi => by rw [hTu i k hi hk]; exact h3 i hi⟩
    · exact ⟨fun _ => 0, fun h => absurd h hk⟩
  obtain ⟨y, hy⟩ := Classical.axiomOfChoice hy
  have hz : ∀ i, ∃ z : Nat → Int, i < R → ∀ k, k < C + D → Cg p (Mx s i k) (sm t.ps.length fun r => z r * y k r) := fun i => by
    by_cases hi : i < R
    · obtain ⟨c, hc⟩ := hF.fwd i hi
      refine ⟨fun r => sm R fun j => c j * Mx t r j, fun _ k hk => cg_trans (hc k hk) ?_⟩
      have h1 : Cg p (sm R fun j => c j * mw2 C D xs ys j k) (sm R fun j => c j * sm t.ps.length fun r => y k r * Mx t r j) := sm_cg fun j hj => cg_mul (cg_refl _ _) (hy k hk j hj)
      refine cg_trans h1 (cg_of ?_)
      have e1 : ∀ j, c j * (sm t.ps.length fun r => y k r * Mx t r j) = sm t.ps.length fun r => c j * (y k r * Mx t r j) := fun j => (sm_smul _ _ _).symm
      simp only [e1]
      rw [sm_swap]
      refine sm_congr fun r _ => ?_
      rw [Int.mul_comm, ← sm_smul]
      exact sm_congr fun j _ => by grind
    · exact ⟨fun _ => 0, fun h => absurd h hi⟩
  obtain ⟨z, hz⟩ := Classical.axiomOfChoice hz
  -- the rows with a pivot, and that one
  obtain ⟨d, ⟨i0, hi0, hd0⟩, hd⟩ := dependent hp (m := s.ps.length + 1) (n := t.ps.length) (by omega) (fun i r => z (if i < s.ps.length then i else s.ps.length + q) r)
  have hf : ∀ i, i < s.ps.length + 1 → (if i < s.ps.length then i else s.ps.length + q) < R := fun i hi => by split <;> omega
  have hsum : ∀ k, k < C + D → (p : Int) ∣ sm (s.ps.length + 1) fun i => d i * Mx s (if i < s.ps.length then i else s.ps.length + q) k := fun k hk => by
    have h1 : Cg p (sm (s.ps.length + 1) fun i => d i * Mx s (if i < s.ps.length then i else s.ps.length + q) k) (sm (s.ps.length + 1) fun i => d i * sm t.ps.length fun r => z (if i < s.ps.length then i else s.ps.length + q) r * y k r) := sm_cg fun i hi => cg_mul (cg_refl _ _) (hz _ (hf i hi) k hk)
    have e : (sm (s.ps.length + 1) fun i => d i * sm t.ps.length fun r => z (if i < s.ps.length then i else s.ps.length + q) r * y k r) = sm t.ps.length fun r => y k r * sm (s.ps.length + 1) fun i => d i * z (if i < s.ps.length then i else s.ps.length + q) r := by
      have e1 : ∀ i, d i * (sm t.ps.length fun r => z (if i < s.ps.length then i else s.ps.length + q) r * y k r) = sm t.ps.length fun r => d i * (z (if i < s.ps.length then i else s.ps.length + q) r * y k r) := fun i => (sm_smul _ _ _).symm
      simp only [e1]
      rw [sm_swap]
      refine sm_congr fun r _ => ?_
      rw [← sm_smul]
      exact sm_congr fun i _ => by grind
    rw [e] at h1
    have h2 : Cg p (sm t.ps.length fun r => y k r * sm (s.ps.length + 1) fun i => d i * z (if i < s.ps.length then i else s.ps.length + q) r) (sm t.ps.length fun _ => 0) := sm_cg fun r hr => by
      have := cg_mul (cg_refl p (y k r)) (cg_dvd.2 (hd r hr))
      rwa [Int.mul_zero] at this
    rw [sm_zero fun _ _ => rfl] at h2
    exact cg_dvd.1 (cg_trans h1 h2)
  have hdz : ∀ r, r < s.ps.length → (p : Int) ∣ d r := fun r hr => by
    have h1 := hsum _ (show s.ps.getD r 0 < C + D by have := hF.plt r hr; omega)
    rw [sm_one (c := r) (by omega) fun i hi hne => by
      show d i * (ent s _ _ : Int) = 0
      rw [hF.unit r _ hr (hf i hi), if_neg (by split <;> omega)]; exact Int.mul_zero _] at h1
    rw [if_pos hr] at h1
    have h2 : Mx s r (s.ps.getD r 0) = 1 := by
      show (ent s r _ : Int) = 1
      rw [hF.unit r r hr (by have := hF.ple; omega), if_pos rfl, Nat.mod_eq_of_lt (by omega)]; rfl
    rwa [h2, Int.mul_one] at h1
  have hlast : (p : Int) ∣ d s.ps.length := by
    have h1 := hsum _ (show C + j0 < C + D by omega)
    have h2 : Cg p (sm (s.ps.length + 1) fun i => d i * Mx s (if i < s.ps.length then i else s.ps.length + q) (C + j0)) (d s.ps.length * Mx s (s.ps.length + q) (C + j0)) := by
      show Cg p (sm s.ps.length _ + _) _
      have h3 : Cg p (sm s.ps.length fun i => d i * Mx s (if i < s.ps.length then i else s.ps.length + q) (C + j0)) (sm s.ps.length fun _ => 0) := sm_cg fun i hi => by
        have := cg_mul (cg_dvd.2 (hdz i hi)) (cg_refl p (Mx s (if i < s.ps.length then i else s.ps.length + q) (C + j0)))
        rwa [Int.zero_mul] at this
      rw [sm_zero fun _ _ => rfl] at h3
      have h4 := cg_add h3 (cg_refl p (d s.ps.length * Mx s (if s.ps.length < s.ps.length then s.ps.length else s.ps.length + q) (C + j0)))
      rw [Int.zero_add, if_neg (Nat.lt_irrefl _)] at h4
      simp only [if_neg (Nat.lt_irrefl s.ps.length)]
      exact h4
    rcases prime_dvd hp (cg_dvd.1 (cg_trans (cg_symm h2) (cg_dvd.2 h1))) with h3 | h3
    · exact h3
    · exact absurd (cg_zero (hF.nrm _ _ hqR (by omega)) (cg_dvd.2 h3)) hne0
  rcases Nat.lt_or_ge i0 s.ps.length with h | h
  · exact hd0 (hdz i0 h)
  · obtain rfl : i0 = s.ps.length := by omega
    exact hd0 hlast
end
end Go.Fe
/- A law of layer 21: equations, as a contract. -/
namespace Go.Proofs.Ytfoclelageohiaa
open Go.En Go.RowKit
set_option linter.unusedVariables false
set_option maxRecDepth 10000
open Go.Gf
open Go.Mz
open Go.Mu
open Go.Fe
set_option maxHeartbeats 4000000 in
theorem c_FmatSolves_none (n R C D : Nat) (xs ys : List Nat) (hR : R ≤ 64) (hC : C ≤ 64) (hD : D ≤ 64) (hl : xs.length = R * C) (hl2 : ys.length = R * D) (hb : badS (redS (ptab (n % 12)) R C D xs ys) C) : Ctr Try.prog 5 [isK .u8 (n : Int), isMW R C xs, isMW R D ys] (isB true) := by
  refine Ctr.intro Try.func5 rfl (by kernel_rfl) Try.ntmps5 rfl fun w0 F0 => ?_
  refine Tri.cv (Cv.wk (.cons (t := 0) (Has.t rfl) (.cons (t := 1) (Has.t rfl) (.cons (t := 2) (Has.t rfl) .nil)))) ?_
  obtain ⟨p, hp⟩ : ∃ p, p = ptab (n % 12) := ⟨_, rfl⟩
  have hpp : Prime p := by rw [hp]; exact ptab_prime
  have hfp : fp p = p := by rw [hp]; exact ptab_fp _
  have hpl : p < 2147483648 := by rw [hp]; exact ptab_le
  have hp2 : 2 ≤ p := hpp.1
  have hp0 : 0 < p := (by omega)
  have hpq : p < 4294967296 := (by omega)
  have hfp2 : 2 ≤ fp p := by rw [hfp]; exact hp2
  have hfo := formB_true hR hC hl
  have hfo2 := formB_true hR hD hl2
  have hRC := side_le hR hC
  have hRD := side_le hR hD
  have hCD := side_le hC hD
  rw [← hp] at hb
  obtain ⟨N, hN⟩ : ∃ N, N = redL p R C xs := ⟨_, rfl⟩
  obtain ⟨P0, hP0⟩ : ∃ P0, P0 = (redS p R C 0 xs []).ps := ⟨_, rfl⟩
  have hpv := pv_len P0
  obtain ⟨P2, hP2⟩ : ∃ P2, P2 = (redS p (C + D) R 0 (turL R C xs ++ turL R D ys) []).ps := ⟨_, rfl⟩
  have hmore := bad_more hpp hl hb
  rw [← hP0, ← hP2] at hmore
  have hpv2 := pv_len P2
  obtain ⟨N2, hN2⟩ : ∃ N2, N2 = redL p (C + D) R (turL R C xs ++ turL R D ys) := ⟨_, rfl⟩
  have hT1 : (turL R C xs).length = C * R := tabU_len _ _ _
  have hT2 : (turL R D ys).length = D * R := tabU_len _ _ _
  have hTT : (turL R C xs ++ turL R D ys).length = (C + D) * R := by rw [List.length_append, hT1, hT2, Nat.add_mul]
  have hCR := side_le hC hR
  have hDR := side_le hD hR
  refine Tri.seq fun K1 hK1 => ?_
  refine Tri.region ?_
  refine Ops.box (Has.t rfl) rfl fun b1 => ?_
  refine Ops.box (Has.t rfl) rfl fun b2 => ?_
  refine st (OK1.as (Has.cB false)) rfl ?_
  refine nl ?_
  refine At.thn (hK1 _ _ ?_); clear hK1
  refine Tri.seq fun K2 hK2 => ?_
  refine Tri.seq fun K3 hK3 => ?_
  refine Tri.region ?_
  refine st (OK1.call (law21_awake) .nil) rfl ?_
  refine st (OK1.not (Has.t rfl)) rfl ?_
  refine st (OK1.mv (Has.t rfl)) rfl ?_
  refine stF rfl rfl (fun hg => have hg' := BP.t hg; OK1.load (Has.t rfl) (i := 1) rfl ty24 rfl (Ss' := [_, _, _]) rfl) rfl ?_
  refine stF rfl rfl (fun hg => have hg' := BP.t hg; OK1.call (ref21_Few) (.cons (Has.g rfl hg) (.cons (Has.cI 4 rfl) .nil))) rfl ?_
  refine stF rfl rfl (fun hg => have hg' := BP.t hg; OK1.not (Has.g rfl hg)) rfl ?_
  refine st (OK1.pickOr (Has.t rfl) (fun h => Has.g rfl (ng h))) rfl ?_
  refine st (OK1.mv (Has.t rfl)) rfl ?_
  refine stF rfl rfl (fun hg => have hg' := BP.t hg; OK1.load (Has.t rfl) (i := 0) rfl ty24 rfl (Ss' := [_, _, _]) rfl) rfl ?_
  refine stF rfl rfl (fun hg => have hg' := BP.t hg; OK1.call (ref21_Few) (.cons (Has.g rfl hg) (.cons (Has.cI 4 rfl) .nil))) rfl ?_
  refine stF rfl rfl (fun hg => have hg' := BP.t hg; OK1.not (Has.g rfl hg)) rfl ?_
  refine st (OK1.pickOr (Has.t rfl) (fun h => Has.g rfl (ng h))) rfl ?_
  refine nl ?_
  refine At.thn (hK3 _ _ ?_); clear hK3
  refine Tri.cv (Cv.wk (.cons (t := 0) (Has.t rfl) (.cons (t := 4) (Has.t rfl) (.cons (t := 5) (Has.t rfl) (.cons (t := 6) (Has.t rfl) (.cons (t := 31) (Has.t rfl) .nil)))))) ?_
  refine Tri.cond (Has.t rfl) (fun hc1 => ?_) (fun hc1 => ?_)
  · have hc1 := BP.t hc1
    refine Tri.seq fun K4 hK4 => ?_
    refine Tri.region ?_
    refine st (OK1.call (law21_awake) .nil) rfl ?_
    refine st (OK1.as (Has.t rfl)) rfl ?_
    refine nl ?_
    refine At.thn (hK4 _ _ ?_); clear hK4
    refine Tri.ret ?_
    refine At.thr ?_
    refine rt1 (.inl rfl) Try.results5 rfl (.tmp (Has.t' rfl ?_) .nil)
    all_goals (rfl)
  · have hc1 := BP.f hc1
    refine Tri.skip ?_
    refine At.thn (hK2 _ _ ?_); clear hK2
    refine Tri.seq fun K5 hK5 => ?_
    refine Tri.region ?_
    refine st (OK1.mv (Has.t rfl)) rfl ?_
    refine st (OK1.eq (OK1.call (law09_Of) (.cons (Has.t rfl) .nil)) ((show Flat [isU _] = Flat [isU p] from by rw [hp]))) rfl ?_
    refine st (OK1.mv (Has.t rfl)) rfl ?_
    refine st (OK1.eq (OK1.call (ref08_P) (.cons (Has.t rfl) .nil)) ((show isU _ = isU p from isU_eq hp.symm))) rfl ?_
    refine Ops.alloc [isU 0] zero29 (fun _ _ => ⟨⟨rfl, by decide⟩, trivial⟩) rfl fun b3 => ?_
    refine Ops.store (Has.t rfl) (Has.t rfl) (i := 0) rfl ty29 rfl rfl (Ss' := [_]) rfl (M' := [(some _, cellM [_]), _, _]) rfl ?_
    refine st (OK1.as (Has.t rfl)) rfl ?_
    refine nl ?_
    refine At.thn (hK5 _ _ ?_); clear hK5
    refine Tri.cv (Cv.wk (.cons (t := 4) (Has.t rfl) (.cons (t := 5) (Has.t rfl) (.cons (t := 6) (Has.t rfl) (.cons (t := 7) (Has.t rfl) (.cons (t := 8) (Has.t rfl) .nil)))))) ?_
    refine Tri.seq fun K6 hK6 => ?_
    refine Tri.region ?_
    refine st (OK1.load (Has.t rfl) (i := 0) rfl ty29 rfl (Ss' := [_]) rfl) rfl ?_
    refine st (OK1.load (Has.t rfl) (i := 2) rfl ty24 rfl (Ss' := [_, _, _]) rfl) rfl ?_
    refine st (OK1.load (Has.t rfl) (i := 1) rfl ty24 rfl (Ss' := [_, _, _]) rfl) rfl ?_
    refine st (OK1.call (fmat_Solve_none hpq hfp2 hR hC hD hl hl2 (by rw [hfp]; exact hb)) (.cons (Has.t rfl) (.cons (Has.t rfl) (.cons (Has.t rfl) .nil)))) rfl ?_
    refine st (OK1.mv (Has.t rfl)) rfl ?_
    refine st (OK1.ext (Has.t rfl) rfl) rfl ?_
    refine st (OK1.ext (Has.t rfl) rfl) rfl ?_
    refine Ops.alloc [isI 0, isI 0, nilS] zero24 (fun _ _ => ⟨⟨rfl, by decide, by decide⟩, ⟨rfl, by decide, by decide⟩, rfl, trivial⟩) rfl fun b4 => ?_
    refine Ops.store (Has.t rfl) (Has.t rfl) (i := 0) rfl ty24 rfl rfl (Ss' := [_, _, _]) rfl (M' := [(some _, cellM [_, _, _]), _, _, _]) rfl ?_
    refine st (OK1.as (Has.t rfl)) rfl ?_
    refine nl ?_
    refine At.thn (hK6 _ _ ?_); clear hK6
    refine Tri.cv (Cv.wk (.cons (t := 4) (Has.t rfl) (.cons (t := 5) (Has.t rfl) (.cons (t := 6) (Has.t rfl) (.cons (t := 7) (Has.t rfl) (.cons (t := 8) (Has.t rfl) (.cons (t := 9) (Has.t rfl) (.cons (t := 10) (Has.t rfl) .nil)))))))) ?_
    refine Tri.seq fun K7 hK7 => ?_
    refine Tri.seq fun K8 hK8 => ?_
    refine Tri.region ?_
    refine st (OK1.load (Has.t rfl) (i := 3) rfl ty24 rfl (Ss' := [_, _, _]) rfl) rfl ?_
    refine st (OK1.eq (OK1.call (ref21_Formed) (.cons (Has.t rfl) .nil)) ((show isB _ = isB true from isB_eq hfo))) rfl ?_
    refine st (OK1.not (Has.t rfl)) rfl ?_
    refine st (OK1.mv (Has.t rfl)) rfl ?_
    refine stF rfl rfl (fun hg => have hg' := BP.t hg; OK1.load (Has.t rfl) (i := 2) rfl ty24 rfl (Ss' := [_, _, _]) rfl) rfl ?_
    refine stF rfl rfl (fun hg => have hg' := BP.t hg; OK1.eq (OK1.call (ref21_Formed) (.cons (Has.g rfl hg) .nil)) ((show isB _ = isB true from isB_eq hfo2))) rfl ?_
    refine stF rfl rfl (fun hg => have hg' := BP.t hg; OK1.not (Has.g rfl hg)) rfl ?_
    refine st (OK1.pickOr (Has.t rfl) (fun h => Has.g rfl (ng h))) rfl ?_
    refine st (OK1.mv (Has.t rfl)) rfl ?_
    refine stF rfl rfl (fun hg => have hg' := BP.t hg; OK1.fieldAddr (Has.t rfl) fld24_0 ty3) rfl ?_
    refine stF rfl rfl (fun hg => have hg' := BP.t hg; OK1.load1 (Has.g rfl hg) (i := 3) rfl ty3 rfl) rfl ?_
    refine stF rfl rfl (fun hg => have hg' := BP.t hg; OK1.fieldAddr (Has.t rfl) fld24_0 ty3) rfl ?_
    refine stF rfl rfl (fun hg => have hg' := BP.t hg; OK1.load1 (Has.g rfl hg) (i := 2) rfl ty3 rfl) rfl ?_
    refine stF rfl rfl (fun hg => have hg' := BP.t hg; OK1.neI (Has.g rfl hg) (Has.g rfl hg)) rfl ?_
    refine st (OK1.pickOr (Has.t rfl) (fun h => Has.g rfl (ng h))) rfl ?_
    refine nl ?_
    refine At.thn (hK8 _ _ ?_); clear hK8
    refine Tri.cv (Cv.wk (.cons (t := 4) (Has.t rfl) (.cons (t := 5) (Has.t rfl) (.cons (t := 6) (Has.t rfl) (.cons (t := 7) (Has.t rfl) (.cons (t := 8) (Has.t rfl) (.cons (t := 9) (Has.t rfl) (.cons (t := 10) (Has.t rfl) (.cons (t := 58) (Has.t rfl) .nil))))))))) ?_
    refine Tri.cond (Has.t rfl) (fun hc2 => ?_) (fun hc2 => ?_)
    · have hc2 := BP.t hc2
      exfalso; simp at hc2
    · have hc2 := BP.f hc2
      refine Tri.skip ?_
      refine At.thn (hK7 _ _ ?_); clear hK7
      refine Tri.seq fun K9 hK9 => ?_
      refine Tri.region ?_
      refine st (OK1.load (Has.t rfl) (i := 1) rfl ty29 rfl (Ss' := [_]) rfl) rfl ?_
      refine st (OK1.load (Has.t rfl) (i := 3) rfl ty24 rfl (Ss' := [_, _, _]) rfl) rfl ?_
      refine st (OK1.eq (OK1.call (fmat_Reduce hpq hfp2 hR hC hl) (.cons (Has.t rfl) (.cons (Has.t rfl) .nil))) ((show isTup [isMW _ _ _, SlM isI _, isI 0] = isTup [isMW R C N, SlM isI (pv P0), isI 0] from by rw [hfp, hN, hP0]; rfl))) rfl ?_
      refine st (OK1.mv (Has.t rfl)) rfl ?_
      refine st (OK1.ext (Has.t rfl) rfl) rfl ?_
      refine st (OK1.ext (Has.t rfl) rfl) rfl ?_
      refine st (OK1.ext (Has.t rfl) rfl) rfl ?_
      refine Ops.alloc [isI 0, isI 0, nilS] zero24 (fun _ _ => ⟨⟨rfl, by decide, by decide⟩, ⟨rfl, by decide, by decide⟩, rfl, trivial⟩) rfl fun b5 => ?_
      refine Ops.store (Has.t rfl) (Has.t rfl) (i := 0) rfl ty24 rfl rfl (Ss' := [_, _, _]) rfl (M' := [(some _, cellM [_, _, _]), _, _, _, _]) rfl ?_
      refine st (OK1.as (Has.t rfl)) rfl ?_
      refine st (OK1.as (Has.t rfl)) rfl ?_
      refine nl ?_
      refine At.thn (hK9 _ _ ?_); clear hK9
      refine Tri.cv (Cv.wk (.cons (t := 4) (Has.t rfl) (.cons (t := 5) (Has.t rfl) (.cons (t := 6) (Has.t rfl) (.cons (t := 7) (Has.t rfl) (.cons (t := 8) (Has.t rfl) (.cons (t := 9) (Has.t rfl) (.cons (t := 10) (Has.t rfl) (.cons (t := 12) (Has.t rfl) .nil))))))))) ?_
      refine Tri.seq fun K10 hK10 => ?_
      refine Tri.seq fun K11 hK11 => ?_
      refine Tri.region ?_
      refine st (OK1.mv (Has.t rfl)) rfl ?_
      refine st (OK1.neI (Has.t rfl) (Has.cI 0 rfl)) rfl ?_
      refine nl ?_
      refine At.thn (hK11 _ _ ?_); clear hK11
      refine Tri.cond (Has.t rfl) (fun hc3 => ?_) (fun hc3 => ?_)
      · have hc3 := BP.t hc3
        refine Tri.seq fun K12 hK12 => ?_
        refine Tri.region ?_
        refine st (OK1.fieldAddr (Has.t rfl) fld24_1 ty3) rfl ?_
        refine st (OK1.load1 (Has.t rfl) (i := 4) rfl ty3 rfl) rfl ?_
        refine st (OK1.fieldAddr (Has.t rfl) fld24_1 ty3) rfl ?_
        refine st (OK1.load1 (Has.t rfl) (i := 3) rfl ty3 rfl) rfl ?_
        refine st (OK1.eq (OK1.addI (Has.t rfl) (Has.t rfl) (by first | omega | assumption) (by first | omega | assumption)) ((show isI _ = isI ((C + D : Nat) : Int) from isI_eq (by omega)))) rfl ?_
        refine st (OK1.fieldAddr (Has.t rfl) fld24_0 ty3) rfl ?_
        refine st (OK1.load1 (Has.t rfl) (i := 4) rfl ty3 rfl) rfl ?_
        refine st (OK1.build [isI 0, isI 0, nilS] pl24 zero24 (fun _ _ => ⟨⟨rfl, by decide, by decide⟩, ⟨rfl, by decide, by decide⟩, rfl, trivial⟩) (.cons (Has.t rfl) rfl rfl rfl (.cons (Has.t rfl) rfl rfl rfl .nil)) (Z'' := [_, _, _]) rfl) rfl ?_
        refine Ops.alloc [isI 0, isI 0, nilS] zero24 (fun _ _ => ⟨⟨rfl, by decide, by decide⟩, ⟨rfl, by decide, by decide⟩, rfl, trivial⟩) rfl fun b6 => ?_
        refine Ops.store (Has.t rfl) (Has.t rfl) (i := 0) rfl ty24 rfl rfl (Ss' := [_, _, _]) rfl (M' := [(some _, cellM [_, _, _]), _, _, _, _, _]) rfl ?_
        refine nl ?_
        refine At.thn (hK12 _ _ ?_); clear hK12
        refine Tri.cv (Cv.wk (.cons (t := 4) (Has.t rfl) (.cons (t := 5) (Has.t rfl) (.cons (t := 6) (Has.t rfl) (.cons (t := 7) (Has.t rfl) (.cons (t := 8) (Has.t rfl) (.cons (t := 9) (Has.t rfl) (.cons (t := 10) (Has.t rfl) (.cons (t := 12) (Has.t rfl) (.cons (t := 14) (Has.t rfl) .nil)))))))))) ?_
        refine Tri.seq fun K13 hK13 => ?_
        refine Tri.cv (Cv.growF (Nat) (i := 0) (o := 2) rfl rfl rfl) ?_
        refine Tri.memEq (M' := [grM isU Gr.nil [], _, _, _, _, _, _]) rfl ?_
        refine Tri.dr ?_
        refine DrG.st (i := 0) [] rfl rfl rfl (by kernel_rfl) (OKG.o rfl (OK1.fieldAddr (Has.t rfl) fld24_2 ty22)) ?_
        refine DrG.st (i := 1) [82] rfl rfl rfl (by kernel_rfl) (OKG.o rfl (OK1.load1 (Has.t rfl) (i := 1) rfl ty22 rfl)) ?_
        refine DrG.st (i := 2) [] rfl rfl rfl (by kernel_rfl) (OKG.o rfl (OK1.load (Has.t rfl) (i := 6) rfl ty24 rfl (Ss' := [_, _, _]) rfl)) ?_
        refine DrG.st (i := 3) [84] rfl rfl rfl (by kernel_rfl) (OKG.o rfl (OK1.eq (OK1.call (ref21_Turned hR hC hl) (.cons (Has.t rfl) .nil)) ((show isMW _ _ _ = isMW C R (turL R C xs) from rfl)))) ?_
        refine DrG.st (i := 4) [85] rfl rfl rfl (by kernel_rfl) (OKG.o rfl (OK1.field1 (Has.t rfl) fld24_2 ty22 rfl)) ?_
        refine DrG.fin (n := 5) mixed (by kernel_rfl) (by kernel_rfl) (by kernel_rfl) ?_
        refine Ops.cv (Cv.wk (.cons (t := 4) (Has.t rfl) (.cons (t := 5) (Has.t rfl) (.cons (t := 6) (Has.t rfl) (.cons (t := 7) (Has.t rfl) (.cons (t := 8) (Has.t rfl) (.cons (t := 9) (Has.t rfl) (.cons (t := 10) (Has.t rfl) (.cons (t := 12) (Has.t rfl) (.cons (t := 14) (Has.t rfl) (.cons (t := 83) (Has.t rfl) (.cons (t := 86) (Has.t rfl) .nil)))))))))))) ?_
        refine Ops.appendG0 (f := isU) (u := 0) sl22 ty27 zero27 (fun _ _ => ⟨⟨rfl, by decide⟩, trivial⟩) (fun _ => inferInstance) by27 (Has.t rfl) (i := 0) rfl (Has.t rfl) (by simp only [List.length_nil]; omega) rfl fun gr1 => ?_
        refine Ops.memEq (M' := [grM _ _ _, _, _, _, _, _, _]) rfl ?_
        refine st (OK1.fieldAddr (Has.t rfl) fld24_2 ty22) rfl ?_
        refine Ops.store (Has.t rfl) (Has.t rfl) (i := 1) rfl ty22 rfl rfl (Ss' := [_, _, _]) rfl (M' := [_, (some _, cellM [_, _, _]), _, _, _, _, _]) rfl ?_
        refine nl ?_
        refine At.thn (hK13 _ _ ?_); clear hK13
        refine Tri.seq fun K14 hK14 => ?_
        refine Tri.dr ?_
        refine DrG.st (i := 0) [] rfl rfl rfl (by kernel_rfl) (OKG.o rfl (OK1.fieldAddr (Has.t rfl) fld24_2 ty22)) ?_
        refine DrG.st (i := 1) [89] rfl rfl rfl (by kernel_rfl) (OKG.o rfl (OK1.load1 (Has.t rfl) (i := 1) rfl ty22 rfl)) ?_
        refine DrG.st (i := 2) [] rfl rfl rfl (by kernel_rfl) (OKG.o rfl (OK1.load (Has.t rfl) (i := 5) rfl ty24 rfl (Ss' := [_, _, _]) rfl)) ?_
        refine DrG.st (i := 3) [91] rfl rfl rfl (by kernel_rfl) (OKG.o rfl (OK1.eq (OK1.call (ref21_Turned hR hD hl2) (.cons (Has.t rfl) .nil)) ((show isMW _ _ _ = isMW D R (turL R D ys) from rfl)))) ?_
        refine DrG.st (i := 4) [92] rfl rfl rfl (by kernel_rfl) (OKG.o rfl (OK1.field1 (Has.t rfl) fld24_2 ty22 rfl)) ?_
        refine DrG.fin (n := 5) mixed (by kernel_rfl) (by kernel_rfl) (by kernel_rfl) ?_
        refine Ops.cv (Cv.wk (.cons (t := 4) (Has.t rfl) (.cons (t := 5) (Has.t rfl) (.cons (t := 6) (Has.t rfl) (.cons (t := 7) (Has.t rfl) (.cons (t := 8) (Has.t rfl) (.cons (t := 9) (Has.t rfl) (.cons (t := 10) (Has.t rfl) (.cons (t := 12) (Has.t rfl) (.cons (t := 14) (Has.t rfl) (.cons (t := 90) (Has.t rfl) (.cons (t := 93) (Has.t rfl) .nil)))))))))))) ?_
        refine Ops.appendG0 (f := isU) (u := 0) sl22 ty27 zero27 (fun _ _ => ⟨⟨rfl, by decide⟩, trivial⟩) (fun _ => inferInstance) by27 (Has.t rfl) (i := 0) rfl (Has.t rfl) (by first | omega | (simp only [List.nil_append]; omega)) rfl fun gr1 => ?_
        refine Ops.memEq (M' := [grM _ _ _, _, _, _, _, _, _]) rfl ?_
        refine st (OK1.fieldAddr (Has.t rfl) fld24_2 ty22) rfl ?_
        refine Ops.store (Has.t rfl) (Has.t rfl) (i := 1) rfl ty22 rfl rfl (Ss' := [_, _, _]) rfl (M' := [_, (some _, cellM [_, _, _]), _, _, _, _, _]) rfl ?_
        refine nl ?_
        refine At.thn (hK14 _ _ ?_); clear hK14
        refine Tri.seq fun K15 hK15 => ?_
        refine Tri.cv (Cv.freezeF (k := 1) (i := 0) (j := 0) (o := 2) rfl rfl rfl rfl gr_lenM gr_takeM (Ss' := [_, _, SlM isU (turL R C xs ++ turL R D ys)]) rfl) ?_
        refine Tri.memEq (M' := [(some _, cellM [_, _, SlM isU (turL R C xs ++ turL R D ys)]), _, _, _, _, _]) rfl ?_
        refine Tri.cv (Cv.wk (.cons (t := 4) (Has.t rfl) (.cons (t := 5) (Has.t rfl) (.cons (t := 6) (Has.t rfl) (.cons (t := 7) (Has.t rfl) (.cons (t := 8) (Has.t rfl) (.cons (t := 9) (Has.t rfl) (.cons (t := 10) (Has.t rfl) (.cons (t := 12) (Has.t rfl) (.cons (t := 14) (Has.t rfl) (.cons (t := 93) (Has.t rfl) (.cons (t := 95) (Has.t rfl) .nil)))))))))))) ?_
        refine Tri.region ?_
        refine st (OK1.load (Has.t rfl) (i := 3) rfl ty29 rfl (Ss' := [_]) rfl) rfl ?_
        refine st (OK1.load (Has.t rfl) (i := 0) rfl ty24 rfl (Ss' := [_, _, _]) rfl) rfl ?_
        refine st (OK1.eq (OK1.call (fmat_Reduce (R := C + D) (C := R) hpq hfp2 (by omega) hR hTT) (.cons (Has.t rfl) (.cons (Has.t rfl) .nil))) ((show isTup [isMW _ _ _, SlM isI _, isI 0] = isTup [isMW ((C + D : Nat) : Int) R N2, SlM isI (pv P2), isI 0] from by rw [hfp, hN2, hP2]; rfl))) rfl ?_
        refine st (OK1.mv (Has.t rfl)) rfl ?_
        refine st (OK1.ext (Has.t rfl) rfl) rfl ?_
        refine st (OK1.ext (Has.t rfl) rfl) rfl ?_
        refine st (OK1.ext (Has.t rfl) rfl) rfl ?_
        refine Ops.alloc [isI 0, isI 0, nilS] zero24 (fun _ _ => ⟨⟨rfl, by decide, by decide⟩, ⟨rfl, by decide, by decide⟩, rfl, trivial⟩) rfl fun b7 => ?_
        refine Ops.store (Has.t rfl) (Has.t rfl) (i := 0) rfl ty24 rfl rfl (Ss' := [_, _, _]) rfl (M' := [(some _, cellM [_, _, _]), _, _, _, _, _, _]) rfl ?_
        refine st (OK1.as (Has.t rfl)) rfl ?_
        refine st (OK1.as (Has.t rfl)) rfl ?_
        refine nl ?_
        refine At.thn (hK15 _ _ ?_); clear hK15
        refine Tri.cv (Cv.wk (.cons (t := 4) (Has.t rfl) (.cons (t := 5) (Has.t rfl) (.cons (t := 6) (Has.t rfl) (.cons (t := 8) (Has.t rfl) (.cons (t := 9) (Has.t rfl) (.cons (t := 10) (Has.t rfl) (.cons (t := 12) (Has.t rfl) (.cons (t := 16) (Has.t rfl) .nil))))))))) ?_
        refine Tri.seq fun K16 hK16 => ?_
        refine Tri.region ?_
        refine st (OK1.mv (Has.t rfl)) rfl ?_
        refine st (OK1.eqI (Has.t rfl) (Has.cI 10 rfl)) rfl ?_
        refine st (OK1.mv (Has.t rfl)) rfl ?_
        refine stT rfl rfl (fun hg => have hg' := BP.t hg; OK1.load (Has.t rfl) (i := 3) rfl ty24 rfl (Ss' := [_, _, _]) rfl) rfl ?_
        refine stT rfl rfl (fun hg => have hg' := BP.t hg; OK1.call (ref21_None) (.cons (Has.g rfl hg) .nil)) rfl ?_
        refine st (OK1.pickAnd (Has.t rfl) (fun h => Has.g rfl h)) rfl ?_
        refine st (OK1.mv (Has.t rfl)) rfl ?_
        refine stT rfl rfl (fun hg => have hg' := BP.t hg; OK1.mv (Has.t rfl)) rfl ?_
        refine stT rfl rfl (fun hg => have hg' := BP.t hg; OK1.len sl32 (Has.g rfl hg)) rfl ?_
        refine stT rfl rfl (fun hg => have hg' := BP.t hg; OK1.mv (Has.t rfl)) rfl ?_
        refine stT rfl rfl (fun hg => have hg' := BP.t hg; OK1.len sl32 (Has.g rfl hg)) rfl ?_
        refine stT rfl rfl (fun hg => have hg' := BP.t hg; OK1.gtI (Has.g rfl hg) (Has.g rfl hg)) rfl ?_
        refine st (OK1.pickAnd (Has.t rfl) (fun h => Has.g rfl h)) rfl ?_
        refine st (OK1.as (Has.t rfl)) rfl ?_
        refine nl ?_
        refine At.thn (hK16 _ _ ?_); clear hK16
        refine Tri.cv (Cv.wk (.cons (t := 4) (Has.t rfl) (.cons (t := 5) (Has.t rfl) (.cons (t := 6) (Has.t rfl) (.cons (t := 8) (Has.t rfl) (.cons (t := 9) (Has.t rfl) (.cons (t := 12) (Has.t rfl) .nil))))))) ?_
        refine Tri.ret ?_
        refine At.thr ?_
        refine rt1 (.inl rfl) Try.results5 rfl (.tmp (Has.t' rfl ?_) .nil)
        all_goals (exact isB_eq (by rw [hpv, hpv2, decide_eq_true (show (P0.length : Int) < (P2.length : Int) by omega)]; rfl))
      · have hc3 := BP.f hc3
        exfalso; omega
set_option maxHeartbeats 4000000 in
theorem c_FmatSolves_ok (n R C D : Nat) (xs ys : List Nat) (hR : R ≤ 64) (hC : C ≤ 64) (hD : D ≤ 64) (hl : xs.length = R * C) (hl2 : ys.length = R * D) (hb : ¬ badS (redS (ptab (n % 12)) R C D xs ys) C) : Ctr Try.prog 5 [isK .u8 (n : Int), isMW R C xs, isMW R D ys] (isB true) := by
  refine Ctr.intro Try.func5 rfl (by kernel_rfl) Try.ntmps5 rfl fun w0 F0 => ?_
  refine Tri.cv (Cv.wk (.cons (t := 0) (Has.t rfl) (.cons (t := 1) (Has.t rfl) (.cons (t := 2) (Has.t rfl) .nil)))) ?_
  obtain ⟨p, hp⟩ : ∃ p, p = ptab (n % 12) := ⟨_, rfl⟩
  have hpp : Prime p := by rw [hp]; exact ptab_prime
  have hfp : fp p = p := by rw [hp]; exact ptab_fp _
  have hpl : p < 2147483648 := by rw [hp]; exact ptab_le
  have hp2 : 2 ≤ p := hpp.1
  have hp0 : 0 < p := (by omega)
  have hpq : p < 4294967296 := (by omega)
  have hfp2 : 2 ≤ fp p := by rw [hfp]; exact hp2
  have hfo := formB_true hR hC hl
  have hfo2 := formB_true hR hD hl2
  have hRC := side_le hR hC
  have hRD := side_le hR hD
  have hCD := side_le hC hD
  rw [← hp] at hb
  obtain ⟨N, hN⟩ : ∃ N, N = redL p R C xs := ⟨_, rfl⟩
  obtain ⟨P0, hP0⟩ : ∃ P0, P0 = (redS p R C 0 xs []).ps := ⟨_, rfl⟩
  have hpv := pv_len P0
  obtain ⟨X, hX⟩ : ∃ X, X = solL p R C D xs ys := ⟨_, rfl⟩
  have hXl : X.length = C * D := by rw [hX]; exact tabU_len _ _ _
  have hXp : ∀ j, j < X.length → X.getD j 0 < p := by rw [hX]; exact fun j hj => tabP hp0 hj
  have hfX := formB_true hC hD hXl
  have hsz : ∀ i k, i < C → k < D → i ∉ P0 → X.getD (i * D + k) 0 % p = 0 := fun i k hi hk h => by rw [hX]; exact sol_zero hi hk (by rw [sol_ps hpp, ← hP0]; exact h)
  have hpr := sol_prod hpp hl2 hb
  rw [← hX] at hpr
  refine Tri.seq fun K1 hK1 => ?_
  refine Tri.region ?_
  refine Ops.box (Has.t rfl) rfl fun b1 => ?_
  refine Ops.box (Has.t rfl) rfl fun b2 => ?_
  refine st (OK1.as (Has.cB false)) rfl ?_
  refine nl ?_
  refine At.thn (hK1 _ _ ?_); clear hK1
  refine Tri.seq fun K2 hK2 => ?_
  refine Tri.seq fun K3 hK3 => ?_
  refine Tri.region ?_
  refine st (OK1.call (law21_awake) .nil) rfl ?_
  refine st (OK1.not (Has.t rfl)) rfl ?_
  refine st (OK1.mv (Has.t rfl)) rfl ?_
  refine stF rfl rfl (fun hg => have hg' := BP.t hg; OK1.load (Has.t rfl) (i := 1) rfl ty24 rfl (Ss' := [_, _, _]) rfl) rfl ?_
  refine stF rfl rfl (fun hg => have hg' := BP.t hg; OK1.call (ref21_Few) (.cons (Has.g rfl hg) (.cons (Has.cI 4 rfl) .nil))) rfl ?_
  refine stF rfl rfl (fun hg => have hg' := BP.t hg; OK1.not (Has.g rfl hg)) rfl ?_
  refine st (OK1.pickOr (Has.t rfl) (fun h => Has.g rfl (ng h))) rfl ?_
  refine st (OK1.mv (Has.t rfl)) rfl ?_
  refine stF rfl rfl (fun hg => have hg' := BP.t hg; OK1.load (Has.t rfl) (i := 0) rfl ty24 rfl (Ss' := [_, _, _]) rfl) rfl ?_
  refine stF rfl rfl (fun hg => have hg' := BP.t hg; OK1.call (ref21_Few) (.cons (Has.g rfl hg) (.cons (Has.cI 4 rfl) .nil))) rfl ?_
  refine stF rfl rfl (fun hg => have hg' := BP.t hg; OK1.not (Has.g rfl hg)) rfl ?_
  refine st (OK1.pickOr (Has.t rfl) (fun h => Has.g rfl (ng h))) rfl ?_
  refine nl ?_
  refine At.thn (hK3 _ _ ?_); clear hK3
  refine Tri.cv (Cv.wk (.cons (t := 0) (Has.t rfl) (.cons (t := 4) (Has.t rfl) (.cons (t := 5) (Has.t rfl) (.cons (t := 6) (Has.t rfl) (.cons (t := 31) (Has.t rfl) .nil)))))) ?_
  refine Tri.cond (Has.t rfl) (fun hc1 => ?_) (fun hc1 => ?_)
  · have hc1 := BP.t hc1
    refine Tri.seq fun K4 hK4 => ?_
    refine Tri.region ?_
    refine st (OK1.call (law21_awake) .nil) rfl ?_
    refine st (OK1.as (Has.t rfl)) rfl ?_
    refine nl ?_
    refine At.thn (hK4 _ _ ?_); clear hK4
    refine Tri.ret ?_
    refine At.thr ?_
    refine rt1 (.inl rfl) Try.results5 rfl (.tmp (Has.t' rfl ?_) .nil)
    all_goals (rfl)
  · have hc1 := BP.f hc1
    refine Tri.skip ?_
    refine At.thn (hK2 _ _ ?_); clear hK2
    refine Tri.seq fun K5 hK5 => ?_
    refine Tri.region ?_
    refine st (OK1.mv (Has.t rfl)) rfl ?_
    refine st (OK1.eq (OK1.call (law09_Of) (.cons (Has.t rfl) .nil)) ((show Flat [isU _] = Flat [isU p] from by rw [hp]))) rfl ?_
    refine st (OK1.mv (Has.t rfl)) rfl ?_
    refine st (OK1.eq (OK1.call (ref08_P) (.cons (Has.t rfl) .nil)) ((show isU _ = isU p from isU_eq hp.symm))) rfl ?_
    refine Ops.alloc [isU 0] zero29 (fun _ _ => ⟨⟨rfl, by decide⟩, trivial⟩) rfl fun b3 => ?_
    refine Ops.store (Has.t rfl) (Has.t rfl) (i := 0) rfl ty29 rfl rfl (Ss' := [_]) rfl (M' := [(some _, cellM [_]), _, _]) rfl ?_
    refine st (OK1.as (Has.t rfl)) rfl ?_
    refine nl ?_
    refine At.thn (hK5 _ _ ?_); clear hK5
    refine Tri.cv (Cv.wk (.cons (t := 4) (Has.t rfl) (.cons (t := 5) (Has.t rfl) (.cons (t := 6) (Has.t rfl) (.cons (t := 7) (Has.t rfl) (.cons (t := 8) (Has.t rfl) .nil)))))) ?_
    refine Tri.seq fun K6 hK6 => ?_
    refine Tri.region ?_
    refine st (OK1.load (Has.t rfl) (i := 0) rfl ty29 rfl (Ss' := [_]) rfl) rfl ?_
    refine st (OK1.load (Has.t rfl) (i := 2) rfl ty24 rfl (Ss' := [_, _, _]) rfl) rfl ?_
    refine st (OK1.load (Has.t rfl) (i := 1) rfl ty24 rfl (Ss' := [_, _, _]) rfl) rfl ?_
    refine st (OK1.eq (OK1.call (fmat_Solve hpq hfp2 hR hC hD hl hl2 (by rw [hfp]; exact hb)) (.cons (Has.t rfl) (.cons (Has.t rfl) (.cons (Has.t rfl) .nil)))) ((show isTup [isMW _ _ _, isI 0] = isTup [isMW C D X, isI 0] from by rw [hfp, hX]; rfl))) rfl ?_
    refine st (OK1.mv (Has.t rfl)) rfl ?_
    refine st (OK1.ext (Has.t rfl) rfl) rfl ?_
    refine st (OK1.ext (Has.t rfl) rfl) rfl ?_
    refine Ops.alloc [isI 0, isI 0, SlM isU []] zero24 (fun _ _ => ⟨⟨rfl, by decide, by decide⟩, ⟨rfl, by decide, by decide⟩, nilM _ _, trivial⟩) rfl fun b4 => ?_
    refine Ops.store (Has.t rfl) (Has.t rfl) (i := 0) rfl ty24 rfl rfl (Ss' := [_, _, _]) rfl (M' := [(some _, cellM [_, _, _]), _, _, _]) rfl ?_
    refine st (OK1.as (Has.t rfl)) rfl ?_
    refine nl ?_
    refine At.thn (hK6 _ _ ?_); clear hK6
    refine Tri.cv (Cv.wk (.cons (t := 4) (Has.t rfl) (.cons (t := 5) (Has.t rfl) (.cons (t := 6) (Has.t rfl) (.cons (t := 7) (Has.t rfl) (.cons (t := 8) (Has.t rfl) (.cons (t := 9) (Has.t rfl) (.cons (t := 10) (Has.t rfl) .nil)))))))) ?_
    refine Tri.seq fun K7 hK7 => ?_
    refine Tri.seq fun K8 hK8 => ?_
    refine Tri.region ?_
    refine st (OK1.load (Has.t rfl) (i := 3) rfl ty24 rfl (Ss' := [_, _, _]) rfl) rfl ?_
    refine st (OK1.eq (OK1.call (ref21_Formed) (.cons (Has.t rfl) .nil)) ((show isB _ = isB true from isB_eq hfo))) rfl ?_
    refine st (OK1.not (Has.t rfl)) rfl ?_
    refine st (OK1.mv (Has.t rfl)) rfl ?_
    refine stF rfl rfl (fun hg => have hg' := BP.t hg; OK1.load (Has.t rfl) (i := 2) rfl ty24 rfl (Ss' := [_, _, _]) rfl) rfl ?_
    refine stF rfl rfl (fun hg => have hg' := BP.t hg; OK1.eq (OK1.call (ref21_Formed) (.cons (Has.g rfl hg) .nil)) ((show isB _ = isB true from isB_eq hfo2))) rfl ?_
    refine stF rfl rfl (fun hg => have hg' := BP.t hg; OK1.not (Has.g rfl hg)) rfl ?_
    refine st (OK1.pickOr (Has.t rfl) (fun h => Has.g rfl (ng h))) rfl ?_
    refine st (OK1.mv (Has.t rfl)) rfl ?_
    refine stF rfl rfl (fun hg => have hg' := BP.t hg; OK1.fieldAddr (Has.t rfl) fld24_0 ty3) rfl ?_
    refine stF rfl rfl (fun hg => have hg' := BP.t hg; OK1.load1 (Has.g rfl hg) (i := 3) rfl ty3 rfl) rfl ?_
    refine stF rfl rfl (fun hg => have hg' := BP.t hg; OK1.fieldAddr (Has.t rfl) fld24_0 ty3) rfl ?_
    refine stF rfl rfl (fun hg => have hg' := BP.t hg; OK1.load1 (Has.g rfl hg) (i := 2) rfl ty3 rfl) rfl ?_
    refine stF rfl rfl (fun hg => have hg' := BP.t hg; OK1.neI (Has.g rfl hg) (Has.g rfl hg)) rfl ?_
    refine st (OK1.pickOr (Has.t rfl) (fun h => Has.g rfl (ng h))) rfl ?_
    refine nl ?_
    refine At.thn (hK8 _ _ ?_); clear hK8
    refine Tri.cv (Cv.wk (.cons (t := 4) (Has.t rfl) (.cons (t := 5) (Has.t rfl) (.cons (t := 6) (Has.t rfl) (.cons (t := 7) (Has.t rfl) (.cons (t := 8) (Has.t rfl) (.cons (t := 9) (Has.t rfl) (.cons (t := 10) (Has.t rfl) (.cons (t := 58) (Has.t rfl) .nil))))))))) ?_
    refine Tri.cond (Has.t rfl) (fun hc2 => ?_) (fun hc2 => ?_)
    · have hc2 := BP.t hc2
      exfalso; simp at hc2
    · have hc2 := BP.f hc2
      refine Tri.skip ?_
      refine At.thn (hK7 _ _ ?_); clear hK7
      refine Tri.seq fun K9 hK9 => ?_
      refine Tri.region ?_
      refine st (OK1.load (Has.t rfl) (i := 1) rfl ty29 rfl (Ss' := [_]) rfl) rfl ?_
      refine st (OK1.load (Has.t rfl) (i := 3) rfl ty24 rfl (Ss' := [_, _, _]) rfl) rfl ?_
      refine st (OK1.eq (OK1.call (fmat_Reduce hpq hfp2 hR hC hl) (.cons (Has.t rfl) (.cons (Has.t rfl) .nil))) ((show isTup [isMW _ _ _, SlM isI _, isI 0] = isTup [isMW R C N, SlM isI (pv P0), isI 0] from by rw [hfp, hN, hP0]; rfl))) rfl ?_
      refine st (OK1.mv (Has.t rfl)) rfl ?_
      refine st (OK1.ext (Has.t rfl) rfl) rfl ?_
      refine st (OK1.ext (Has.t rfl) rfl) rfl ?_
      refine st (OK1.ext (Has.t rfl) rfl) rfl ?_
      refine Ops.alloc [isI 0, isI 0, SlM isU []] zero24 (fun _ _ => ⟨⟨rfl, by decide, by decide⟩, ⟨rfl, by decide, by decide⟩, nilM _ _, trivial⟩) rfl fun b5 => ?_
      refine Ops.store (Has.t rfl) (Has.t rfl) (i := 0) rfl ty24 rfl rfl (Ss' := [_, _, _]) rfl (M' := [(some _, cellM [_, _, _]), _, _, _, _]) rfl ?_
      refine st (OK1.as (Has.t rfl)) rfl ?_
      refine st (OK1.as (Has.t rfl)) rfl ?_
      refine nl ?_
      refine At.thn (hK9 _ _ ?_); clear hK9
      refine Tri.cv (Cv.wk (.cons (t := 4) (Has.t rfl) (.cons (t := 5) (Has.t rfl) (.cons (t := 6) (Has.t rfl) (.cons (t := 7) (Has.t rfl) (.cons (t := 8) (Has.t rfl) (.cons (t := 9) (Has.t rfl) (.cons (t := 10) (Has.t rfl) (.cons (t := 12) (Has.t rfl) .nil))))))))) ?_
      refine Tri.seq fun K10 hK10 => ?_
      refine Tri.seq fun K11 hK11 => ?_
      refine Tri.region ?_
      refine st (OK1.mv (Has.t rfl)) rfl ?_
      refine st (OK1.neI (Has.t rfl) (Has.cI 0 rfl)) rfl ?_
      refine nl ?_
      refine At.thn (hK11 _ _ ?_); clear hK11
      refine Tri.cond (Has.t rfl) (fun hc3 => ?_) (fun hc3 => ?_)
      · have hc3 := BP.t hc3
        exfalso; omega
      · have hc3 := BP.f hc3
        skip
        refine Tri.skip ?_
        refine At.thn (hK10 _ _ ?_); clear hK10
        refine Tri.seq fun K12 hK12 => ?_
        refine Tri.seq fun K13 hK13 => ?_
        refine Tri.region ?_
        refine st (OK1.as (Has.cI 0 rfl)) rfl ?_
        refine nl ?_
        refine At.thn (hK13 _ _ ?_); clear hK13
        refine Tri.block ?_
        refine Tri.loopF [4, 5, 8, 9, 12] (fun (z : { i : Nat // i ≤ C }) => match z with | ⟨i, hI⟩ => [(18, isI (i : Int))]) (fun M => fun (z : { i : Nat // i ≤ C }) => match z with | ⟨i, hI⟩ => M) (fun (z : { i : Nat // i ≤ C }) => match z with | ⟨i, hI⟩ => C - i) (⟨0, Nat.zero_le _⟩) (Cv.mem (.cons (t := 18) (Has.t' rfl ?_) (.cons (t := 4) (Has.t rfl) (.cons (t := 5) (Has.t rfl) (.cons (t := 8) (Has.t rfl) (.cons (t := 9) (Has.t rfl) (.cons (t := 12) (Has.t rfl) .nil)))))) ?_) ?_
        · rfl
        · rfl
        rintro ⟨i, hi⟩ K14 hK14
        refine Tri.cv (Cv.wk (.cons (t := 18) (Has.t rfl) (.cons (t := 4) (Has.t rfl) (.cons (t := 5) (Has.t rfl) (.cons (t := 8) (Has.t rfl) (.cons (t := 9) (Has.t rfl) (.cons (t := 12) (Has.t rfl) .nil))))))) ?_
        refine Tri.seq fun K15 hK15 => ?_
        refine Tri.seq fun K16 hK16 => ?_
        refine Tri.region ?_
        refine st (OK1.mv (Has.t rfl)) rfl ?_
        refine st (OK1.fieldAddr (Has.t rfl) fld24_0 ty3) rfl ?_
        refine st (OK1.load1 (Has.t rfl) (i := 1) rfl ty3 rfl) rfl ?_
        refine st (OK1.ltI (Has.t rfl) (Has.t rfl)) rfl ?_
        refine nl ?_
        refine At.thn (hK16 _ _ ?_); clear hK16
        refine Tri.cond (Has.t rfl) (fun hc4 => ?_) (fun hc4 => ?_)
        · have hc4 := BP.t hc4
          refine Tri.skip ?_
          refine At.thn (hK15 _ _ ?_); clear hK15
          refine Tri.seq fun K17 hK17 => ?_
          refine Tri.block ?_
          refine Tri.seq fun K18 hK18 => ?_
          refine Tri.region ?_
          refine st (OK1.as (Has.cI 0 rfl)) rfl ?_
          refine nl ?_
          refine At.thn (hK18 _ _ ?_); clear hK18
          refine Tri.block ?_
          refine Tri.loopF [4, 5, 8, 9, 12, 18, 116, 117, 118, 119] (fun (z : { k : Nat // k ≤ D }) => match z with | ⟨k, hK⟩ => [(19, isI (k : Int))]) (fun M => fun (z : { k : Nat // k ≤ D }) => match z with | ⟨k, hK⟩ => M) (fun (z : { k : Nat // k ≤ D }) => match z with | ⟨k, hK⟩ => D - k) (⟨0, Nat.zero_le _⟩) (Cv.mem (.cons (t := 19) (Has.t' rfl ?_) (.cons (t := 4) (Has.t rfl) (.cons (t := 5) (Has.t rfl) (.cons (t := 8) (Has.t rfl) (.cons (t := 9) (Has.t rfl) (.cons (t := 12) (Has.t rfl) (.cons (t := 18) (Has.t rfl) (.cons (t := 116) (Has.t rfl) (.cons (t := 117) (Has.t rfl) (.cons (t := 118) (Has.t rfl) (.cons (t := 119) (Has.t rfl) .nil))))))))))) ?_) ?_
          · rfl
          · rfl
          rintro ⟨k, hk⟩ K19 hK19
          refine Tri.cv (Cv.wk (.cons (t := 19) (Has.t rfl) (.cons (t := 4) (Has.t rfl) (.cons (t := 5) (Has.t rfl) (.cons (t := 8) (Has.t rfl) (.cons (t := 9) (Has.t rfl) (.cons (t := 12) (Has.t rfl) (.cons (t := 18) (Has.t rfl) (.cons (t := 116) (Has.t rfl) (.cons (t := 117) (Has.t rfl) (.cons (t := 118) (Has.t rfl) (.cons (t := 119) (Has.t rfl) .nil)))))))))))) ?_
          refine Tri.seq fun K20 hK20 => ?_
          refine Tri.seq fun K21 hK21 => ?_
          refine Tri.region ?_
          refine st (OK1.mv (Has.t rfl)) rfl ?_
          refine st (OK1.fieldAddr (Has.t rfl) fld24_1 ty3) rfl ?_
          refine st (OK1.load1 (Has.t rfl) (i := 1) rfl ty3 rfl) rfl ?_
          refine st (OK1.ltI (Has.t rfl) (Has.t rfl)) rfl ?_
          refine nl ?_
          refine At.thn (hK21 _ _ ?_); clear hK21
          refine Tri.cond (Has.t rfl) (fun hc5 => ?_) (fun hc5 => ?_)
          · have hc5 := BP.t hc5
            have hpl := place_lt (show i < C by omega) (show k < D by omega)
            have hzz := hsz i k (by omega) (by omega)
            refine Tri.skip ?_
            refine At.thn (hK20 _ _ ?_); clear hK20
            refine Tri.seq fun K22 hK22 => ?_
            refine Tri.block ?_
            refine Tri.seq fun K23 hK23 => ?_
            refine Tri.region ?_
            refine st (OK1.mv (Has.t rfl)) rfl ?_
            refine st (OK1.mv (Has.t rfl)) rfl ?_
            refine st (OK1.call (ref13_In) (.cons (Has.t rfl) (.cons (Has.t rfl) .nil))) rfl ?_
            refine st (OK1.not (Has.t rfl)) rfl ?_
            refine st (OK1.mv (Has.t rfl)) rfl ?_
            refine stT rfl rfl (fun hg => have hg' := BP.t hg; OK1.load (Has.t rfl) (i := 1) rfl ty24 rfl (Ss' := [_, _, _]) rfl) rfl ?_
            refine stT rfl rfl (fun hg => have hg' := BP.t hg; OK1.mv (Has.t rfl)) rfl ?_
            refine stT rfl rfl (fun hg => have hg' := BP.t hg; OK1.mv (Has.t rfl)) rfl ?_
            refine stT rfl rfl (fun hg => have hg' := BP.t hg; OK1.mv (Has.t rfl)) rfl ?_
            refine stT rfl rfl (fun hg => have hg' := BP.t hg; OK1.call (ref21_At (i := i) (k := k) hp0 (by omega) (by omega)) (.cons (Has.g rfl hg) (.cons (Has.g rfl hg) (.cons (Has.g rfl hg) (.cons (Has.g rfl hg) .nil))))) rfl ?_
            refine stT rfl rfl (fun hg => have hg' := BP.t hg; OK1.neU (Has.g rfl hg) (Has.cU 0 rfl)) rfl ?_
            refine st (OK1.pickAnd (Has.t rfl) (fun h => Has.g rfl h)) rfl ?_
            refine nl ?_
            refine At.thn (hK23 _ _ ?_); clear hK23
            refine Tri.cond (Has.t rfl) (fun hc6 => ?_) (fun hc6 => ?_)
            · have hc6 := BP.t hc6
              exact absurd (hzz hc6.1) hc6.2
            · have hc6 := BP.f hc6
              skip
              refine Tri.skip ?_
              refine At.bln ?_
              refine At.thn (hK22 _ _ ?_); clear hK22
              refine Tri.region ?_
              refine st (OK1.mv (Has.t rfl)) rfl ?_
              refine st (OK1.addI (Has.t rfl) (Has.cI 1 rfl) (by first | omega | assumption) (by first | omega | assumption)) rfl ?_
              refine st (OK1.as (Has.t rfl)) rfl ?_
              refine nl ?_
              refine At.thn ?_
              refine hK19 (⟨k + 1, by omega⟩) _ _ ?_ (Cv.mem (.cons (t := 19) (Has.t' rfl ?_) (.cons (t := 4) (Has.t rfl) (.cons (t := 5) (Has.t rfl) (.cons (t := 8) (Has.t rfl) (.cons (t := 9) (Has.t rfl) (.cons (t := 12) (Has.t rfl) (.cons (t := 18) (Has.t rfl) (.cons (t := 116) (Has.t rfl) (.cons (t := 117) (Has.t rfl) (.cons (t := 118) (Has.t rfl) (.cons (t := 119) (Has.t rfl) .nil))))))))))) ?_)
              · show D - (k + 1) < D - k; omega
              · exact isI_eq (by omega)
              · rfl
          · have hc5 := BP.f hc5
            skip
            refine Tri.exit ?_
            refine At.the ?_
            refine At.the ?_
            refine At.blh ?_
            refine At.bln ?_
            refine At.thn (hK17 _ _ ?_); clear hK17
            refine Tri.region ?_
            refine st (OK1.mv (Has.t rfl)) rfl ?_
            refine st (OK1.addI (Has.t rfl) (Has.cI 1 rfl) (by first | omega | assumption) (by first | omega | assumption)) rfl ?_
            refine st (OK1.as (Has.t rfl)) rfl ?_
            refine nl ?_
            refine At.thn ?_
            refine hK14 (⟨i + 1, by omega⟩) _ _ ?_ (Cv.mem (.cons (t := 18) (Has.t' rfl ?_) (.cons (t := 4) (Has.t rfl) (.cons (t := 5) (Has.t rfl) (.cons (t := 8) (Has.t rfl) (.cons (t := 9) (Has.t rfl) (.cons (t := 12) (Has.t rfl) .nil)))))) ?_)
            · show C - (i + 1) < C - i; omega
            · exact isI_eq (by omega)
            · rfl
        · have hc4 := BP.f hc4
          refine Tri.exit ?_
          refine At.the ?_
          refine At.the ?_
          refine At.blh ?_
          refine At.thn (hK12 _ _ ?_); clear hK12
          refine Tri.cv (Cv.wk (.cons (t := 4) (Has.t rfl) (.cons (t := 5) (Has.t rfl) (.cons (t := 8) (Has.t rfl) (.cons (t := 9) (Has.t rfl) .nil))))) ?_
          refine Tri.seq fun K24 hK24 => ?_
          refine Tri.dr ?_
          refine DrG.st (i := 0) [] rfl rfl rfl (by kernel_rfl) (OKG.o rfl (OK1.load (Has.t rfl) (i := 1) rfl ty24 rfl (Ss' := [_, _, _]) rfl)) ?_
          refine DrG.st (i := 1) [] rfl rfl rfl (by kernel_rfl) (OKG.o rfl (OK1.mv (Has.t rfl))) ?_
          refine DrG.st (i := 2) [140, 141] rfl rfl rfl (by kernel_rfl) (OKG.o rfl (OK1.call (ref21_Normal hXp (by omega) hfX) (.cons (Has.t rfl) (.cons (Has.t rfl) .nil)))) ?_
          refine DrG.st (i := 3) [142] rfl rfl rfl (by kernel_rfl) (OKG.o rfl (OK1.mv (Has.t rfl))) ?_
          refine DrG.st (i := 4) [143] rfl rfl rfl (by kernel_rfl) (OKG.T rfl rfl rfl (fun hg => have hg' := BP.t hg; OK1.fieldAddr (Has.t rfl) fld24_0 ty3)) ?_
          refine DrG.st (i := 5) [143, 144] rfl rfl rfl (by kernel_rfl) (OKG.T rfl rfl rfl (fun hg => have hg' := BP.t hg; OK1.load1 (Has.g rfl hg) (i := 1) rfl ty3 rfl)) ?_
          refine DrG.st (i := 6) [143] rfl rfl rfl (by kernel_rfl) (OKG.T rfl rfl rfl (fun hg => have hg' := BP.t hg; OK1.fieldAddr (Has.t rfl) fld24_1 ty3)) ?_
          refine DrG.st (i := 7) [143, 146] rfl rfl rfl (by kernel_rfl) (OKG.T rfl rfl rfl (fun hg => have hg' := BP.t hg; OK1.load1 (Has.g rfl hg) (i := 4) rfl ty3 rfl)) ?_
          refine DrG.st (i := 8) [143, 145, 147] rfl rfl rfl (by kernel_rfl) (OKG.T rfl rfl rfl (fun hg => have hg' := BP.t hg; OK1.eqI (Has.g rfl hg) (Has.g rfl hg))) ?_
          refine DrG.st (i := 9) [143, 148] rfl rfl rfl (by kernel_rfl) (OKG.o rfl (OK1.pickAnd (Has.t rfl) (fun h => Has.g rfl h))) ?_
          refine DrG.st (i := 10) [149] rfl rfl rfl (by kernel_rfl) (OKG.o rfl (OK1.mv (Has.t rfl))) ?_
          refine DrG.st (i := 11) [150] rfl rfl rfl (by kernel_rfl) (OKG.T rfl rfl rfl (fun hg => have hg' := BP.t hg; OK1.fieldAddr (Has.t rfl) fld24_1 ty3)) ?_
          refine DrG.st (i := 12) [150, 151] rfl rfl rfl (by kernel_rfl) (OKG.T rfl rfl rfl (fun hg => have hg' := BP.t hg; OK1.load1 (Has.g rfl hg) (i := 1) rfl ty3 rfl)) ?_
          refine DrG.st (i := 13) [150] rfl rfl rfl (by kernel_rfl) (OKG.T rfl rfl rfl (fun hg => have hg' := BP.t hg; OK1.fieldAddr (Has.t rfl) fld24_1 ty3)) ?_
          refine DrG.st (i := 14) [150, 153] rfl rfl rfl (by kernel_rfl) (OKG.T rfl rfl rfl (fun hg => have hg' := BP.t hg; OK1.load1 (Has.g rfl hg) (i := 3) rfl ty3 rfl)) ?_
          refine DrG.st (i := 15) [150, 152, 154] rfl rfl rfl (by kernel_rfl) (OKG.T rfl rfl rfl (fun hg => have hg' := BP.t hg; OK1.eqI (Has.g rfl hg) (Has.g rfl hg))) ?_
          refine DrG.st (i := 16) [150, 155] rfl rfl rfl (by kernel_rfl) (OKG.o rfl (OK1.pickAnd (Has.t rfl) (fun h => Has.g rfl h))) ?_
          refine DrG.st (i := 17) [156] rfl rfl rfl (by kernel_rfl) (OKG.o rfl (OK1.mv (Has.t rfl))) ?_
          refine DrG.st (i := 18) [157] rfl rfl rfl (by kernel_rfl) (OKG.T rfl rfl rfl (fun hg => have hg' := BP.t hg; OK1.load (Has.t rfl) (i := 4) rfl ty24 rfl (Ss' := [_, _, _]) rfl)) ?_
          refine DrG.st (i := 19) [157] rfl rfl rfl (by kernel_rfl) (OKG.T rfl rfl rfl (fun hg => have hg' := BP.t hg; OK1.load (Has.t rfl) (i := 1) rfl ty24 rfl (Ss' := [_, _, _]) rfl)) ?_
          refine DrG.st (i := 20) [157] rfl rfl rfl (by kernel_rfl) (OKG.T rfl rfl rfl (fun hg => have hg' := BP.t hg; OK1.mv (Has.t rfl))) ?_
          refine DrG.st (i := 21) [157, 158, 159, 160] rfl rfl rfl (by kernel_rfl) (OKG.T rfl rfl rfl (fun hg => have hg' := BP.t hg; OK1.call (ref21_Mul hp0 hpq hR hC hD hl hXl) (.cons (Has.g rfl hg) (.cons (Has.g rfl hg) (.cons (Has.g rfl hg) .nil))))) ?_
          refine DrG.st (i := 22) [157] rfl rfl rfl (by kernel_rfl) (OKG.T rfl rfl rfl (fun hg => have hg' := BP.t hg; OK1.load (Has.t rfl) (i := 3) rfl ty24 rfl (Ss' := [_, _, _]) rfl)) ?_
          refine DrG.st (i := 23) [157] rfl rfl rfl (by kernel_rfl) (OKG.T rfl rfl rfl (fun hg => have hg' := BP.t hg; OK1.mv (Has.t rfl))) ?_
          refine DrG.fin (n := 24) mixed (by kernel_rfl) (by kernel_rfl) (by kernel_rfl) ?_
          refine Ops.cv (Cv.wk (.cons (t := 157) (Has.t rfl) (.cons (t := 161) (Has.t rfl) (.cons (t := 162) (Has.t rfl) (.cons (t := 163) (Has.t rfl) .nil))))) ?_
          refine stT rfl rfl (fun hg => have hg' := BP.t hg; OK1.eq (OK1.call (ref21_Same hp0 (by rw [tabU_len]; omega)) (.cons (Has.g rfl hg) (.cons (Has.g rfl hg) (.cons (Has.g rfl hg) .nil)))) ((show isB _ = isB true from isB_eq hpr))) rfl ?_
          refine st (OK1.pickAnd (Has.t rfl) (fun h => Has.g rfl h)) rfl ?_
          refine st (OK1.as (Has.t rfl)) rfl ?_
          refine nl ?_
          refine At.thn (hK24 _ _ ?_); clear hK24
          refine Tri.cv (Cv.wk (.cons (t := 6) (Has.t rfl) .nil)) ?_
          refine Tri.ret ?_
          refine rt1 (.inl rfl) Try.results5 rfl (.tmp (Has.t' rfl ?_) .nil)
          all_goals (exact isB_eq (by simp))
set_option maxHeartbeats 4000000 in
theorem c_FmatSolves_bad (n : Nat) (r c : Int) (xs : List Nat) (r2 c2 : Int) (ys : List Nat) (hf : ¬ (formB r c xs.length = true ∧ formB r2 c2 ys.length = true ∧ r = r2)) : Ctr Try.prog 5 [isK .u8 (n : Int), isMW r c xs, isMW r2 c2 ys] (isB true) := by
  refine Ctr.intro Try.func5 rfl (by kernel_rfl) Try.ntmps5 rfl fun w0 F0 => ?_
  refine Tri.cv (Cv.wk (.cons (t := 0) (Has.t rfl) (.cons (t := 1) (Has.t rfl) (.cons (t := 2) (Has.t rfl) .nil)))) ?_
  obtain ⟨p, hp⟩ : ∃ p, p = ptab (n % 12) := ⟨_, rfl⟩
  have hpp : Prime p := by rw [hp]; exact ptab_prime
  have hfp : fp p = p := by rw [hp]; exact ptab_fp _
  have hpl : p < 2147483648 := by rw [hp]; exact ptab_le
  have hp2 : 2 ≤ p := hpp.1
  have hp0 : 0 < p := (by omega)
  have hpq : p < 4294967296 := (by omega)
  have hfp2 : 2 ≤ fp p := by rw [hfp]; exact hp2
  refine Tri.seq fun K1 hK1 => ?_
  refine Tri.region ?_
  refine Ops.box (Has.t rfl) rfl fun b1 => ?_
  refine Ops.box (Has.t rfl) rfl fun b2 => ?_
  refine st (OK1.as (Has.cB false)) rfl ?_
  refine nl ?_
  refine At.thn (hK1 _ _ ?_); clear hK1
  refine Tri.seq fun K2 hK2 => ?_
  refine Tri.seq fun K3 hK3 => ?_
  refine Tri.region ?_
  refine st (OK1.call (law21_awake) .nil) rfl ?_
  refine st (OK1.not (Has.t rfl)) rfl ?_
  refine st (OK1.mv (Has.t rfl)) rfl ?_
  refine stF rfl rfl (fun hg => have hg' := BP.t hg; OK1.load (Has.t rfl) (i := 1) rfl ty24 rfl (Ss' := [_, _, _]) rfl) rfl ?_
  refine stF rfl rfl (fun hg => have hg' := BP.t hg; OK1.call (ref21_Few) (.cons (Has.g rfl hg) (.cons (Has.cI 4 rfl) .nil))) rfl ?_
  refine stF rfl rfl (fun hg => have hg' := BP.t hg; OK1.not (Has.g rfl hg)) rfl ?_
  refine st (OK1.pickOr (Has.t rfl) (fun h => Has.g rfl (ng h))) rfl ?_
  refine st (OK1.mv (Has.t rfl)) rfl ?_
  refine stF rfl rfl (fun hg => have hg' := BP.t hg; OK1.load (Has.t rfl) (i := 0) rfl ty24 rfl (Ss' := [_, _, _]) rfl) rfl ?_
  refine stF rfl rfl (fun hg => have hg' := BP.t hg; OK1.call (ref21_Few) (.cons (Has.g rfl hg) (.cons (Has.cI 4 rfl) .nil))) rfl ?_
  refine stF rfl rfl (fun hg => have hg' := BP.t hg; OK1.not (Has.g rfl hg)) rfl ?_
  refine st (OK1.pickOr (Has.t rfl) (fun h => Has.g rfl (ng h))) rfl ?_
  refine nl ?_
  refine At.thn (hK3 _ _ ?_); clear hK3
  refine Tri.cv (Cv.wk (.cons (t := 0) (Has.t rfl) (.cons (t := 4) (Has.t rfl) (.cons (t := 5) (Has.t rfl) (.cons (t := 6) (Has.t rfl) (.cons (t := 31) (Has.t rfl) .nil)))))) ?_
  refine Tri.cond (Has.t rfl) (fun hc1 => ?_) (fun hc1 => ?_)
  · have hc1 := BP.t hc1
    refine Tri.seq fun K4 hK4 => ?_
    refine Tri.region ?_
    refine st (OK1.call (law21_awake) .nil) rfl ?_
    refine st (OK1.as (Has.t rfl)) rfl ?_
    refine nl ?_
    refine At.thn (hK4 _ _ ?_); clear hK4
    refine Tri.ret ?_
    refine At.thr ?_
    refine rt1 (.inl rfl) Try.results5 rfl (.tmp (Has.t' rfl ?_) .nil)
    all_goals (rfl)
  · have hc1 := BP.f hc1
    refine Tri.skip ?_
    refine At.thn (hK2 _ _ ?_); clear hK2
    refine Tri.seq fun K5 hK5 => ?_
    refine Tri.region ?_
    refine st (OK1.mv (Has.t rfl)) rfl ?_
    refine st (OK1.eq (OK1.call (law09_Of) (.cons (Has.t rfl) .nil)) ((show Flat [isU _] = Flat [isU p] from by rw [hp]))) rfl ?_
    refine st (OK1.mv (Has.t rfl)) rfl ?_
    refine st (OK1.eq (OK1.call (ref08_P) (.cons (Has.t rfl) .nil)) ((show isU _ = isU p from isU_eq hp.symm))) rfl ?_
    refine Ops.alloc [isU 0] zero29 (fun _ _ => ⟨⟨rfl, by decide⟩, trivial⟩) rfl fun b3 => ?_
    refine Ops.store (Has.t rfl) (Has.t rfl) (i := 0) rfl ty29 rfl rfl (Ss' := [_]) rfl (M' := [(some _, cellM [_]), _, _]) rfl ?_
    refine st (OK1.as (Has.t rfl)) rfl ?_
    refine nl ?_
    refine At.thn (hK5 _ _ ?_); clear hK5
    refine Tri.cv (Cv.wk (.cons (t := 4) (Has.t rfl) (.cons (t := 5) (Has.t rfl) (.cons (t := 6) (Has.t rfl) (.cons (t := 7) (Has.t rfl) (.cons (t := 8) (Has.t rfl) .nil)))))) ?_
    refine Tri.seq fun K6 hK6 => ?_
    refine Tri.region ?_
    refine st (OK1.load (Has.t rfl) (i := 0) rfl ty29 rfl (Ss' := [_]) rfl) rfl ?_
    refine st (OK1.load (Has.t rfl) (i := 2) rfl ty24 rfl (Ss' := [_, _, _]) rfl) rfl ?_
    refine st (OK1.load (Has.t rfl) (i := 1) rfl ty24 rfl (Ss' := [_, _, _]) rfl) rfl ?_
    refine st (OK1.call (fmat_Solve_bad hf) (.cons (Has.t rfl) (.cons (Has.t rfl) (.cons (Has.t rfl) .nil)))) rfl ?_
    refine st (OK1.mv (Has.t rfl)) rfl ?_
    refine st (OK1.ext (Has.t rfl) rfl) rfl ?_
    refine st (OK1.ext (Has.t rfl) rfl) rfl ?_
    refine Ops.alloc [isI 0, isI 0, SlM isU []] zero24 (fun _ _ => ⟨⟨rfl, by decide, by decide⟩, ⟨rfl, by decide, by decide⟩, nilM _ _, trivial⟩) rfl fun b4 => ?_
    refine Ops.store (Has.t rfl) (Has.t rfl) (i := 0) rfl ty24 rfl rfl (Ss' := [_, _, _]) rfl (M' := [(some _, cellM [_, _, _]), _, _, _]) rfl ?_
    refine st (OK1.as (Has.t rfl)) rfl ?_
    refine nl ?_
    refine At.thn (hK6 _ _ ?_); clear hK6
    refine Tri.cv (Cv.wk (.cons (t := 4) (Has.t rfl) (.cons (t := 5) (Has.t rfl) (.cons (t := 6) (Has.t rfl) (.cons (t := 7) (Has.t rfl) (.cons (t := 8) (Has.t rfl) (.cons (t := 9) (Has.t rfl) (.cons (t := 10) (Has.t rfl) .nil)))))))) ?_
    refine Tri.seq fun K7 hK7 => ?_
    refine Tri.seq fun K8 hK8 => ?_
    refine Tri.region ?_
    refine st (OK1.load (Has.t rfl) (i := 3) rfl ty24 rfl (Ss' := [_, _, _]) rfl) rfl ?_
    refine st (OK1.call (ref21_Formed) (.cons (Has.t rfl) .nil)) rfl ?_
    refine st (OK1.not (Has.t rfl)) rfl ?_
    refine st (OK1.mv (Has.t rfl)) rfl ?_
    refine stF rfl rfl (fun hg => have hg' := BP.t hg; OK1.load (Has.t rfl) (i := 2) rfl ty24 rfl (Ss' := [_, _, _]) rfl) rfl ?_
    refine stF rfl rfl (fun hg => have hg' := BP.t hg; OK1.call (ref21_Formed) (.cons (Has.g rfl hg) .nil)) rfl ?_
    refine stF rfl rfl (fun hg => have hg' := BP.t hg; OK1.not (Has.g rfl hg)) rfl ?_
    refine st (OK1.pickOr (Has.t rfl) (fun h => Has.g rfl (ng h))) rfl ?_
    refine st (OK1.mv (Has.t rfl)) rfl ?_
    refine stF rfl rfl (fun hg => have hg' := BP.t hg; OK1.fieldAddr (Has.t rfl) fld24_0 ty3) rfl ?_
    refine stF rfl rfl (fun hg => have hg' := BP.t hg; OK1.load1 (Has.g rfl hg) (i := 3) rfl ty3 rfl) rfl ?_
    refine stF rfl rfl (fun hg => have hg' := BP.t hg; OK1.fieldAddr (Has.t rfl) fld24_0 ty3) rfl ?_
    refine stF rfl rfl (fun hg => have hg' := BP.t hg; OK1.load1 (Has.g rfl hg) (i := 2) rfl ty3 rfl) rfl ?_
    refine stF rfl rfl (fun hg => have hg' := BP.t hg; OK1.neI (Has.g rfl hg) (Has.g rfl hg)) rfl ?_
    refine st (OK1.pickOr (Has.t rfl) (fun h => Has.g rfl (ng h))) rfl ?_
    refine nl ?_
    refine At.thn (hK8 _ _ ?_); clear hK8
    refine Tri.cv (Cv.wk (.cons (t := 4) (Has.t rfl) (.cons (t := 5) (Has.t rfl) (.cons (t := 6) (Has.t rfl) (.cons (t := 7) (Has.t rfl) (.cons (t := 8) (Has.t rfl) (.cons (t := 9) (Has.t rfl) (.cons (t := 10) (Has.t rfl) (.cons (t := 58) (Has.t rfl) .nil))))))))) ?_
    refine Tri.cond (Has.t rfl) (fun hc2 => ?_) (fun hc2 => ?_)
    · have hc2 := BP.t hc2
      refine Tri.seq fun K9 hK9 => ?_
      refine Tri.region ?_
      refine st (OK1.mv (Has.t rfl)) rfl ?_
      refine st (OK1.eqI (Has.t rfl) (Has.cI 2 rfl)) rfl ?_
      refine st (OK1.mv (Has.t rfl)) rfl ?_
      refine stT rfl rfl (fun hg => have hg' := BP.t hg; OK1.load (Has.t rfl) (i := 0) rfl ty24 rfl (Ss' := [_, _, _]) rfl) rfl ?_
      refine stT rfl rfl (fun hg => have hg' := BP.t hg; OK1.call (ref21_None) (.cons (Has.g rfl hg) .nil)) rfl ?_
      refine st (OK1.pickAnd (Has.t rfl) (fun h => Has.g rfl h)) rfl ?_
      refine st (OK1.as (Has.t rfl)) rfl ?_
      refine nl ?_
      refine At.thn (hK9 _ _ ?_); clear hK9
      refine Tri.cv (Cv.wk (.cons (t := 4) (Has.t rfl) (.cons (t := 5) (Has.t rfl) (.cons (t := 6) (Has.t rfl) (.cons (t := 7) (Has.t rfl) (.cons (t := 8) (Has.t rfl) (.cons (t := 9) (Has.t rfl) (.cons (t := 10) (Has.t rfl) .nil)))))))) ?_
      refine Tri.ret ?_
      refine At.thr ?_
      refine rt1 (.inl rfl) Try.results5 rfl (.tmp (Has.t' rfl ?_) .nil)
      all_goals (rfl)
    · have hc2 := BP.f hc2
      exact (hf (by simpa [and_assoc] using hc2)).elim
theorem c_FmatSolves (n : Nat) (r c : Int) (xs : List Nat) (r2 c2 : Int) (ys : List Nat) : Ctr Try.prog 5 [isK .u8 (n : Int), isMW r c xs, isMW r2 c2 ys] (isB true) := by
  by_cases h : formB r c xs.length = true ∧ formB r2 c2 ys.length = true ∧ r = r2
  · obtain ⟨h1, h2, h3⟩ := h
    obtain ⟨R, C, rfl, rfl, g1, g2, g3⟩ := formB_iff.1 h1
    obtain ⟨R2, D, k0, rfl, k1, k2, k3⟩ := formB_iff.1 h2
    obtain rfl : R = R2 := by omega
    subst k0
    by_cases hb : badS (redS (ptab (n % 12)) R C D xs ys) C
    · exact c_FmatSolves_none n R C D xs ys g1 g2 k2 g3 k3 hb
    · exact c_FmatSolves_ok n R C D xs ys g1 g2 k2 g3 k3 hb
  · exact c_FmatSolves_bad n r c xs r2 c2 ys h
end Go.Proofs.Ytfoclelageohiaa
/- Matrices of words that a law is handed. -/
namespace Go.En
open Go.RowKit Go.ChangeShapes Go.WideShapes Go.ChangeAt
set_option linter.unusedVariables false
section
variable {H : Type} {enc : TypeId × Value → H} {P : Program}
/-- two sides and words -/
theorem open_MW {W : World} {base : Nat} {T ti tm T' : TypeId} {v : Value} {d : DataW H} {ps : List MemPlace} (hfM : fsB P T = some [(ti, 0), (ti, 1), (tm, 2)]) (hui : P.underlying ti = some (.int .i64)) (hu : P.underlying tm = some (.slice T')) (hu' : P.underlying T' = some (.int .u64)) (hc : P.cellsOf T' = 1)
    (hci : P.cellsOf ti = 1) (hcm : P.cellsOf tm = 1) (hcT : P.cellsOf T = 3) (hv : Value.okWide P W .any base T v) (h : DataW.Trod enc P W 0 (fun _ => true) true T v d ps) (hps : ∀ x ∈ ps, x.block < W.heap.size) : ∃ x : Int × Int × List Nat, (isMW x.1 x.2.1 x.2.2).h W (fun b => b < W.heap.size) v := by
  obtain ⟨fs, huT, hsz, hget⟩ := fsB_spec hfM
  have hv' := hv
  simp only [Value.okWide, huT] at hv'
  obtain ⟨cs, rfl, _, _⟩ := hv'
  obtain ⟨fuel, hf⟩ := h
  obtain ⟨xs, m, _, hx, hl, hxl, hfe⟩ := DataW.trod_struct huT hf
  simp [Value.cells] at hl hx
  obtain ⟨f0, g0, rfl, e0⟩ := hget 0 ti 0 rfl
  obtain ⟨f1, g1, k1, e1⟩ := hget 1 _ 1 rfl
  obtain ⟨f2, g2, rfl, e2⟩ := hget 2 tm 2 rfl
  have h0 := hfe 0 f0 g0
  have h1 := hfe 1 f1 g1
  have h2 := hfe 2 f2 g2
  rw [List.getElem?_eq_getElem (by rw [hxl, hsz]; simp)] at h0 h1 h2
  rw [e0, hci] at h0
  rw [e1, k1, hci] at h1
  rw [e2, hcm] at h2
  obtain ⟨r, hr, hr1, hr2⟩ := rd_I hui h0
  obtain ⟨c, hc1, hc2, hc3⟩ := rd_I hui h1
  obtain ⟨u, ws, hu1, hw⟩ := rd_row hu hu' hc word_of h2 (fun y hy => hps y (by
    rw [hx.2]
    exact List.mem_flatMap.2 ⟨_, List.getElem_mem _, hy⟩))
  refine ⟨(r, c, ws), cs.toList, by simp, ?_⟩
  have hcs2 : cs.toList = [.int .i64 r, .int .i64 c, u] := by
    have hlen : cs.toList.length = 3 := by rw [← hcT]; simpa using hl
    match hq : cs.toList, hlen with
    | [p, q, t], _ =>
      have a1 : [p] = [Value.int .i64 r] := by have := hr; simpa [Value.cells, hq] using this
      have a2 : [q] = [Value.int .i64 c] := by have := hc1; simpa [Value.cells, hq] using this
      have a3 : [t] = [u] := by have := hu1; simpa [Value.cells, hq] using this
      rw [List.cons.inj a1 |>.1, List.cons.inj a2 |>.1, List.cons.inj a3 |>.1]
  rw [hcs2]
  exact ⟨⟨rfl, hr1, hr2⟩, ⟨rfl, hc2, hc3⟩, hw, trivial⟩
end
end Go.En
/- A law of layer 21, as it is stated. -/
namespace Go.Proofs.Ytfoclelageohiaa
open Go.En Go.RowKit
set_option linter.unusedVariables false
set_option maxRecDepth 10000
open Go.ChangeShapes
open Go.WideShapes
open Go.ChangeAt
open Go.Gf
open Go.Mz
open Go.Mu
theorem opens_FmatSolves : Opens Try.prog Try.f5 5 := by
  intro H enc W base args ds ps hval hA hlt
  rw [Try.params5] at hA hval
  obtain ⟨v0, vs0, d0, ds0, p0, q0, hargs, rfl, rfl, h0, r0⟩ := trodAll_cons hA
  obtain ⟨v1, vs1, d1, ds1, p1, q1, rfl, rfl, rfl, h1, r1⟩ := trodAll_cons r0
  obtain ⟨v2, vs2, d2, ds2, p2, q2, rfl, rfl, rfl, h2, r2⟩ := trodAll_cons r1
  obtain ⟨rfl, rfl, rfl⟩ := trodAll_nil r2
  obtain rfl : args = #[v0, v1, v2] := by cases args; simp_all
  obtain ⟨x0, o0⟩ := open_N un5 rfl (hval 0 5 v0 rfl rfl) h0
  obtain ⟨x1, o1⟩ := open_MW fs24 un3 un22 un27 (by kernel_rfl) (by kernel_rfl) (by kernel_rfl) (by kernel_rfl) (hval 1 24 v1 rfl rfl) h1 (fun x hx => hlt x (by simp [hx]))
  obtain ⟨x2, o2⟩ := open_MW fs24 un3 un22 un27 (by kernel_rfl) (by kernel_rfl) (by kernel_rfl) (by kernel_rfl) (hval 2 24 v2 rfl rfl) h2 (fun x hx => hlt x (by simp [hx]))
  refine ⟨_, ?_, c_FmatSolves x0 x1.1 x1.2.1 x1.2.2 x2.1 x2.2.1 x2.2.2⟩
  exact ⟨o0 _, o1, o2, trivial⟩
theorem fmatSolves_said : Rows.FmatSolvesSaid :=
  OpenClaim.holds_of_wide 5 Try.f5 rfl rfl rfl rfl rfl rfl rfl ⟨rfl, rfl, rfl, rfl, rfl⟩ rfl rfl rfl rfl rfl (by kernel_rfl) Try.func5 (by kernel_rfl)
    (of_decide_eq_true (by kernel_rfl)) (by unfold Func.isWrapper; first | (rw [if_pos (by decide +kernel)]; kernel_rfl) | (rw [if_neg (by decide +kernel)]; exact ⟨rfl, rfl⟩))
    (fun os started H enc _ => lift_law (C := Try.checked) (s := Rows.fmatSolvesSpec) (by kernel_rfl) started (by kernel_rfl) Try.func5
      (ChangeSpec.witness6 (enc := enc) (C := Try.checked) false ⟨#[], #[.int .u8 0, .agg #[.int .i64 0, .int .i64 0, .slice none 0 0], .agg #[.int .i64 0, .int .i64 0, .slice none 0 0]], []⟩ 8 (by kernel_rfl) (by kernel_rfl) (by kernel_rfl) (by kernel_rfl))
      (by kernel_rfl) (by kernel_rfl) rfl rfl un4 (fun ds h => by match ds, h with | [d0, d1, d2], _ => rfl) opens_FmatSolves)
#print axioms fmatSolves_said
end Go.Proofs.Ytfoclelageohiaa
