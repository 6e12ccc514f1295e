/- The law FmatInverts, as it is stated, of the given program, for every input; no condition. -/
import Derived.Test.YtfoclelageohiaaQFmatInverts2
import Derived.Test.YtfoclelageohiaaRows
/- Contracts: a matrix's rows, to be reduced. -/
namespace Go.Proofs.Ytfoclelageohiaa
open Go.En Go.RowKit
set_option linter.unusedVariables false
set_option maxRecDepth 10000
open Go.Gf
open Go.Mz
open Go.Mu
open Go.Fe
set_option maxHeartbeats 4000000 in
theorem fmat_begun {q R C D : Nat} {xs ys : List Nat} (hR : R ≤ 64) (hC : C ≤ 64) (hD : D ≤ 64) (hxl : xs.length = R * C) (hyl : ys.length = R * D) : CtrX Try.prog 117 [Flat [isU q], isMW R C xs, isMW R D ys] ([]) (fun S M => ∃ bw gt rs, S = isPtr bw 0 ∧ M = wkMU q bw Gr.nil gt rs [] (1 % fp q) ∧ rs.map Prod.snd = rowsU (fp q) R C D xs ys) := by
  refine CtrX.intro Try.func117 rfl (by kernel_rfl) Try.ntmps117 rfl fun w0 F0 => ?_
  refine Tri.cv (Cv.wk (.cons (t := 0) (Has.t rfl) (.cons (t := 1) (Has.t rfl) (.cons (t := 2) (Has.t rfl) .nil)))) ?_
  have h1 := side_le hR hC
  have h2 := side_le hR hD
  refine Tri.seq fun K1 hK1 => ?_
  refine Tri.region ?_
  refine Ops.box (Has.t rfl) rfl fun b1 => ?_
  refine Ops.box (Has.t rfl) rfl fun b2 => ?_
  refine Ops.box (Has.t rfl) rfl fun b3 => ?_
  refine st (OK1.as Has.cP) rfl ?_
  refine nl ?_
  refine At.thn (hK1 _ _ ?_); clear hK1
  refine Tri.seq fun K2 hK2 => ?_
  refine Tri.dr ?_
  refine DrG.st (i := 0) [] rfl rfl rfl (by kernel_rfl) (OKG.o rfl (OK1.load (Has.t rfl) (i := 2) rfl ty29 rfl (Ss' := [_]) rfl)) ?_
  refine DrG.st (i := 1) [] rfl rfl rfl (by kernel_rfl) (OKG.o rfl (OK1.load (Has.t rfl) (i := 2) rfl ty29 rfl (Ss' := [_]) rfl)) ?_
  refine DrG.st (i := 2) [13] rfl rfl rfl (by kernel_rfl) (OKG.o rfl (OK1.call (gfp_Norm) (.cons (Has.t rfl) (.cons (Has.cU 1 rfl) .nil)))) ?_
  refine DrG.fin (n := 3) mixed (by kernel_rfl) (by kernel_rfl) (by kernel_rfl) ?_
  refine Ops.cv (Cv.wk (.cons (t := 3) (Has.t rfl) (.cons (t := 4) (Has.t rfl) (.cons (t := 5) (Has.t rfl) (.cons (t := 6) (Has.t rfl) (.cons (t := 12) (Has.t rfl) (.cons (t := 14) (Has.t rfl) .nil))))))) ?_
  refine st (OK1.build [isU 0, nilS, nilS, isU 0] pl94 zero94 (fun _ _ => ⟨⟨rfl, by decide⟩, rfl, rfl, ⟨rfl, by decide⟩, trivial⟩) (.cons (Has.t rfl) rfl rfl rfl (.cons (Has.t rfl) rfl rfl rfl .nil)) (Z'' := [_, _, _, _]) rfl) rfl ?_
  refine Ops.box (Has.t rfl) rfl fun b4 => ?_
  refine st (OK1.as (Has.t rfl)) rfl ?_
  refine nl ?_
  refine At.thn (hK2 _ _ ?_); clear hK2
  refine Tri.seq fun K3 hK3 => ?_
  refine Tri.seq fun K4 hK4 => ?_
  refine Tri.cv (Cv.growF (RowU) (i := 0) (o := 1) rfl rfl rfl) ?_
  refine Tri.memEq (M' := [grM rowVU Gr.nil [], _, _, _, _]) rfl ?_
  refine Tri.region ?_
  refine st (OK1.fieldAddr (Has.t rfl) fld24_0 ty3) rfl ?_
  refine st (OK1.load1 (Has.t rfl) (i := 3) rfl ty3 rfl) rfl ?_
  refine st (OK1.mv (Has.cI 0 rfl)) rfl ?_
  refine nl ?_
  refine At.thn (hK4 _ _ ?_); clear hK4
  refine Tri.cv (Cv.wk (.cons (t := 3) (Has.t rfl) (.cons (t := 4) (Has.t rfl) (.cons (t := 5) (Has.t rfl) (.cons (t := 6) (Has.t rfl) (.cons (t := 7) (Has.t rfl) (.cons (t := 18) (Has.t rfl) (.cons (t := 19) (Has.t rfl) .nil)))))))) ?_
  refine Tri.block ?_
  refine Tri.memEq (M' := (_ :: _ :: _ :: _ :: _ :: ([] : List RowU).map rowMU)) rfl ?_
  refine Tri.loopF [3, 4, 5, 6, 7, 18] (fun (z : { z : Nat × Gr RowU × List RowU // z.1 ≤ R ∧ z.2.2.map Prod.snd = rowsU (fp q) z.1 C D xs ys }) => match z with | ⟨(i, gt, rs), hI⟩ => [(19, isI (i : Int))]) (fun M => fun (z : { z : Nat × Gr RowU × List RowU // z.1 ≤ R ∧ z.2.2.map Prod.snd = rowsU (fp q) z.1 C D xs ys }) => match z with | ⟨(i, gt, rs), hI⟩ => (grM rowVU gt rs :: (some b4, cellM [isU q, isGr gt rs.length, nilS, isU (1 % fp q)]) :: (some b3, cellM [isI (R : Int), isI (D : Int), SlM isU ys]) :: (some b2, cellM [isI (R : Int), isI (C : Int), SlM isU xs]) :: (some b1, cellM [isU q]) :: rs.map rowMU)) (fun (z : { z : Nat × Gr RowU × List RowU // z.1 ≤ R ∧ z.2.2.map Prod.snd = rowsU (fp q) z.1 C D xs ys }) => match z with | ⟨(i, gt, rs), hI⟩ => R - i) (⟨(0, Gr.nil, []), Nat.zero_le _, rfl⟩) (Cv.mem (.cons (t := 19) (Has.t' rfl ?_) (.cons (t := 3) (Has.t rfl) (.cons (t := 4) (Has.t rfl) (.cons (t := 5) (Has.t rfl) (.cons (t := 6) (Has.t rfl) (.cons (t := 7) (Has.t rfl) (.cons (t := 18) (Has.t rfl) .nil))))))) ?_) ?_
  · rfl
  · rfl
  rintro ⟨⟨i, gt, rs⟩, hI⟩ K5 hK5
  refine Tri.cv (Cv.wk (.cons (t := 19) (Has.t rfl) (.cons (t := 3) (Has.t rfl) (.cons (t := 4) (Has.t rfl) (.cons (t := 5) (Has.t rfl) (.cons (t := 6) (Has.t rfl) (.cons (t := 7) (Has.t rfl) (.cons (t := 18) (Has.t rfl) .nil)))))))) ?_
  refine Tri.memEq (M' := (grM rowVU gt rs :: (some b4, cellM [isU q, isGr gt rs.length, nilS, isU (1 % fp q)]) :: (some b3, cellM [isI (R : Int), isI (D : Int), SlM isU ys]) :: (some b2, cellM [isI (R : Int), isI (C : Int), SlM isU xs]) :: (some b1, cellM [isU q]) :: rs.map rowMU)) rfl ?_
  simp only [] at hI
  obtain ⟨hi, hrs⟩ := hI
  have hrl : rs.length = i := by have := congrArg List.length hrs; rwa [List.length_map, rowsU_len] at this
  refine Tri.seq fun K6 hK6 => ?_
  refine Tri.region ?_
  refine st (OK1.ltI (Has.t rfl) (Has.t rfl)) rfl ?_
  refine nl ?_
  refine At.thn (hK6 _ _ ?_); clear hK6
  refine Tri.seq fun K7 hK7 => ?_
  refine Tri.cond (Has.t rfl) (fun hc1 => ?_) (fun hc1 => ?_)
  · have hc1 := BP.t hc1
    refine Tri.skip ?_
    refine At.thn (hK7 _ _ ?_); clear hK7
    refine Tri.seq fun K8 hK8 => ?_
    refine Tri.block ?_
    refine Tri.seq fun K9 hK9 => ?_
    refine Tri.region ?_
    refine st (OK1.mv (Has.t rfl)) rfl ?_
    refine st (OK1.as (Has.t rfl)) rfl ?_
    refine nl ?_
    refine At.thn (hK9 _ _ ?_); clear hK9
    refine Tri.seq fun K10 hK10 => ?_
    refine Tri.region ?_
    refine Ops.cv (Cv.grow0 (α := Nat) isU) ?_
    refine st (OK1.as (Has.cGr (α := Nat))) rfl ?_
    refine nl ?_
    refine At.thn (hK10 _ _ ?_); clear hK10
    refine Tri.seq fun K11 hK11 => ?_
    refine Tri.seq fun K12 hK12 => ?_
    refine Tri.region ?_
    refine st (OK1.fieldAddr (Has.t rfl) fld24_1 ty3) rfl ?_
    refine st (OK1.load1 (Has.t rfl) (i := 4) rfl ty3 rfl) rfl ?_
    refine st (OK1.mv (Has.cI 0 rfl)) rfl ?_
    refine nl ?_
    refine At.thn (hK12 _ _ ?_); clear hK12
    refine Tri.block ?_
    refine Tri.loopF [3, 4, 5, 6, 7, 18, 19, 20, 21, 8, 22, 23] (fun (z : { z : Nat × Gr Nat // z.1 ≤ C }) => match z with | ⟨(k, g), hK1⟩ => [(24, isI (k : Int)), (9, isGr g ((List.range k).map fun k => xs.getD (i * C + k) 0 % fp q).length)]) (fun M => fun (z : { z : Nat × Gr Nat // z.1 ≤ C }) => match z with | ⟨(k, g), hK1⟩ => (grM isU g ((List.range k).map fun k => xs.getD (i * C + k) 0 % fp q) :: grM rowVU gt rs :: (some b4, cellM [isU q, isGr gt rs.length, nilS, isU (1 % fp q)]) :: (some b3, cellM [isI (R : Int), isI (D : Int), SlM isU ys]) :: (some b2, cellM [isI (R : Int), isI (C : Int), SlM isU xs]) :: (some b1, cellM [isU q]) :: rs.map rowMU)) (fun (z : { z : Nat × Gr Nat // z.1 ≤ C }) => match z with | ⟨(k, g), hK1⟩ => C - k) (⟨(0, Gr.nil), Nat.zero_le _⟩) (Cv.mem (.cons (t := 24) (Has.t' rfl ?_) (.cons (t := 9) (Has.t' rfl ?_) (.cons (t := 3) (Has.t rfl) (.cons (t := 4) (Has.t rfl) (.cons (t := 5) (Has.t rfl) (.cons (t := 6) (Has.t rfl) (.cons (t := 7) (Has.t rfl) (.cons (t := 18) (Has.t rfl) (.cons (t := 19) (Has.t rfl) (.cons (t := 20) (Has.t rfl) (.cons (t := 21) (Has.t rfl) (.cons (t := 8) (Has.t rfl) (.cons (t := 22) (Has.t rfl) (.cons (t := 23) (Has.t rfl) .nil)))))))))))))) ?_) ?_
    · rfl
    · rfl
    · rfl
    rintro ⟨⟨k, g⟩, hK1⟩ K13 hK13
    refine Tri.cv (Cv.wk (.cons (t := 24) (Has.t rfl) (.cons (t := 9) (Has.t rfl) (.cons (t := 3) (Has.t rfl) (.cons (t := 4) (Has.t rfl) (.cons (t := 5) (Has.t rfl) (.cons (t := 6) (Has.t rfl) (.cons (t := 7) (Has.t rfl) (.cons (t := 18) (Has.t rfl) (.cons (t := 19) (Has.t rfl) (.cons (t := 20) (Has.t rfl) (.cons (t := 21) (Has.t rfl) (.cons (t := 8) (Has.t rfl) (.cons (t := 22) (Has.t rfl) (.cons (t := 23) (Has.t rfl) .nil))))))))))))))) ?_
    refine Tri.memEq (M' := (grM isU g ((List.range k).map fun k => xs.getD (i * C + k) 0 % fp q) :: grM rowVU gt rs :: (some b4, cellM [isU q, isGr gt rs.length, nilS, isU (1 % fp q)]) :: (some b3, cellM [isI (R : Int), isI (D : Int), SlM isU ys]) :: (some b2, cellM [isI (R : Int), isI (C : Int), SlM isU xs]) :: (some b1, cellM [isU q]) :: rs.map rowMU)) rfl ?_
    simp only [] at hK1
    refine Tri.seq fun K14 hK14 => ?_
    refine Tri.region ?_
    refine st (OK1.ltI (Has.t rfl) (Has.t rfl)) rfl ?_
    refine nl ?_
    refine At.thn (hK14 _ _ ?_); clear hK14
    refine Tri.seq fun K15 hK15 => ?_
    refine Tri.cond (Has.t rfl) (fun hc2 => ?_) (fun hc2 => ?_)
    · have hc2 := BP.t hc2
      have hpl := place_lt (show i < R by omega) (show k < C by omega)
      refine Tri.skip ?_
      refine At.thn (hK15 _ _ ?_); clear hK15
      refine Tri.seq fun K16 hK16 => ?_
      refine Tri.block ?_
      refine Tri.seq fun K17 hK17 => ?_
      refine Tri.region ?_
      refine st (OK1.mv (Has.t rfl)) rfl ?_
      refine st (OK1.as (Has.t rfl)) rfl ?_
      refine nl ?_
      refine At.thn (hK17 _ _ ?_); clear hK17
      refine Tri.dr ?_
      refine DrG.st (i := 0) [] rfl rfl rfl (by kernel_rfl) (OKG.o rfl (OK1.mv (Has.t rfl))) ?_
      refine DrG.st (i := 1) [] rfl rfl rfl (by kernel_rfl) (OKG.o rfl (OK1.load (Has.t rfl) (i := 5) rfl ty29 rfl (Ss' := [_]) rfl)) ?_
      refine DrG.st (i := 2) [] rfl rfl rfl (by kernel_rfl) (OKG.o rfl (OK1.load (Has.t rfl) (i := 4) rfl ty24 rfl (Ss' := [_, _, _]) rfl)) ?_
      refine DrG.st (i := 3) [] rfl rfl rfl (by kernel_rfl) (OKG.o rfl (OK1.mv (Has.t rfl))) ?_
      refine DrG.st (i := 4) [] rfl rfl rfl (by kernel_rfl) (OKG.o rfl (OK1.mv (Has.t rfl))) ?_
      refine DrG.st (i := 5) [29, 30, 31] rfl rfl rfl (by kernel_rfl) (OKG.o rfl (OK1.call (fmat_get (i := i) (k := k) (by omega) (by omega)) (.cons (Has.t rfl) (.cons (Has.t rfl) (.cons (Has.t rfl) .nil))))) ?_
      refine DrG.st (i := 6) [28, 32] rfl rfl rfl (by kernel_rfl) (OKG.o rfl (OK1.call (gfp_Norm) (.cons (Has.t rfl) (.cons (Has.t rfl) .nil)))) ?_
      refine DrG.st (i := 7) [33] rfl rfl rfl (by kernel_rfl) (OKG.o rfl (OK1.buildS [isU 0] sl22 ty27 zero27 (fun _ _ => ⟨⟨rfl, by decide⟩, trivial⟩) rfl rfl (.cons (Has.t rfl) rfl rfl rfl .nil) rfl (S := SlM isU [xs.getD (i * C + k) 0 % fp q]) rfl)) ?_
      refine DrG.fin (n := 8) mixed (by kernel_rfl) (by kernel_rfl) (by kernel_rfl) ?_
      refine Ops.cv (Cv.wk (.cons (t := 3) (Has.t rfl) (.cons (t := 4) (Has.t rfl) (.cons (t := 5) (Has.t rfl) (.cons (t := 6) (Has.t rfl) (.cons (t := 7) (Has.t rfl) (.cons (t := 18) (Has.t rfl) (.cons (t := 19) (Has.t rfl) (.cons (t := 20) (Has.t rfl) (.cons (t := 21) (Has.t rfl) (.cons (t := 8) (Has.t rfl) (.cons (t := 22) (Has.t rfl) (.cons (t := 23) (Has.t rfl) (.cons (t := 24) (Has.t rfl) (.cons (t := 9) (Has.t rfl) (.cons (t := 25) (Has.t rfl) (.cons (t := 26) (Has.t rfl) (.cons (t := 10) (Has.t rfl) (.cons (t := 27) (Has.t rfl) (.cons (t := 28) (Has.t rfl) (.cons (t := 29) (Has.t rfl) (.cons (t := 30) (Has.t rfl) (.cons (t := 31) (Has.t rfl) (.cons (t := 32) (Has.t rfl) (.cons (t := 33) (Has.t rfl) (.cons (t := 34) (Has.t rfl) .nil)))))))))))))))))))))))))) ?_
      refine Ops.appendG (f := isU) (u := 0) sl22 ty27 zero27 (fun _ _ => ⟨⟨rfl, by decide⟩, trivial⟩) (fun _ => inferInstance) by27 (Has.t rfl) (i := 0) rfl (Has.t rfl) (by rw [List.length_map, List.length_range]; show k + 1 ≤ _; omega) (by simp) rfl fun gr1 => ?_
      refine Ops.memEq (M' := (grM _ _ _ :: _ :: _ :: _ :: _ :: _ :: _)) rfl ?_
      refine st (OK1.as (Has.t rfl)) rfl ?_
      refine nl ?_
      refine At.bln ?_
      refine At.thn (hK16 _ _ ?_); clear hK16
      refine Tri.region ?_
      refine st (OK1.addI (Has.t rfl) (Has.cI 1 rfl) (by first | omega | assumption) (by first | omega | assumption)) rfl ?_
      refine st (OK1.mv (Has.t rfl)) rfl ?_
      refine nl ?_
      refine At.thn ?_
      have hpl := place_lt (show i < R by omega) (show k < C by omega)
      refine hK13 (⟨(k + 1, gr1), by show k + 1 ≤ C; omega⟩) _ _ ?_ (Cv.mem (.cons (t := 24) (Has.t' rfl ?_) (.cons (t := 9) (Has.t' rfl ?_) (.cons (t := 3) (Has.t rfl) (.cons (t := 4) (Has.t rfl) (.cons (t := 5) (Has.t rfl) (.cons (t := 6) (Has.t rfl) (.cons (t := 7) (Has.t rfl) (.cons (t := 18) (Has.t rfl) (.cons (t := 19) (Has.t rfl) (.cons (t := 20) (Has.t rfl) (.cons (t := 21) (Has.t rfl) (.cons (t := 8) (Has.t rfl) (.cons (t := 22) (Has.t rfl) (.cons (t := 23) (Has.t rfl) .nil)))))))))))))) ?_)
      · show C - (k + 1) < C - k; omega
      · exact isI_eq (by omega)
      · exact isGr_eq (by rw [List.range_succ, List.map_append, List.length_append]; rfl)
      · exact grM_eq (by rw [List.range_succ, List.map_append]; rfl)
    · have hc2 := BP.f hc2
      refine Tri.exit ?_
      refine At.the ?_
      refine At.the ?_
      refine At.blh ?_
      refine At.thn (hK11 _ _ ?_); clear hK11
      refine Tri.seq fun K18 hK18 => ?_
      refine Tri.seq fun K19 hK19 => ?_
      refine Tri.region ?_
      refine st (OK1.fieldAddr (Has.t rfl) fld24_1 ty3) rfl ?_
      refine st (OK1.load1 (Has.t rfl) (i := 3) rfl ty3 rfl) rfl ?_
      refine st (OK1.mv (Has.cI 0 rfl)) rfl ?_
      refine nl ?_
      refine At.thn (hK19 _ _ ?_); clear hK19
      refine Tri.block ?_
      refine Tri.loopF [3, 4, 5, 6, 7, 18, 19, 20, 21, 8, 22, 23, 24, 25, 37, 38] (fun (z : { z : Nat × Gr Nat // z.1 ≤ D }) => match z with | ⟨(k2, g2), hK2⟩ => [(39, isI (k2 : Int)), (9, isGr g2 (((List.range C).map fun k => xs.getD (i * C + k) 0 % fp q) ++ ((List.range k2).map fun k => ys.getD (i * D + k) 0 % fp q)).length)]) (fun M => fun (z : { z : Nat × Gr Nat // z.1 ≤ D }) => match z with | ⟨(k2, g2), hK2⟩ => (grM isU g2 (((List.range C).map fun k => xs.getD (i * C + k) 0 % fp q) ++ ((List.range k2).map fun k => ys.getD (i * D + k) 0 % fp q)) :: grM rowVU gt rs :: (some b4, cellM [isU q, isGr gt rs.length, nilS, isU (1 % fp q)]) :: (some b3, cellM [isI (R : Int), isI (D : Int), SlM isU ys]) :: (some b2, cellM [isI (R : Int), isI (C : Int), SlM isU xs]) :: (some b1, cellM [isU q]) :: rs.map rowMU)) (fun (z : { z : Nat × Gr Nat // z.1 ≤ D }) => match z with | ⟨(k2, g2), hK2⟩ => D - k2) (⟨(0, g), Nat.zero_le _⟩) (Cv.mem (.cons (t := 39) (Has.t' rfl ?_) (.cons (t := 9) (Has.t' rfl ?_) (.cons (t := 3) (Has.t rfl) (.cons (t := 4) (Has.t rfl) (.cons (t := 5) (Has.t rfl) (.cons (t := 6) (Has.t rfl) (.cons (t := 7) (Has.t rfl) (.cons (t := 18) (Has.t rfl) (.cons (t := 19) (Has.t rfl) (.cons (t := 20) (Has.t rfl) (.cons (t := 21) (Has.t rfl) (.cons (t := 8) (Has.t rfl) (.cons (t := 22) (Has.t rfl) (.cons (t := 23) (Has.t rfl) (.cons (t := 24) (Has.t rfl) (.cons (t := 25) (Has.t rfl) (.cons (t := 37) (Has.t rfl) (.cons (t := 38) (Has.t rfl) .nil)))))))))))))))))) ?_) ?_
      · rfl
      · exact isGr_eq (by rw [show k = C by omega, List.range_zero, List.map_nil, List.append_nil])
      · exact grM_eq (by rw [show k = C by omega, List.range_zero, List.map_nil, List.append_nil])
      rintro ⟨⟨k2, g2⟩, hK2⟩ K20 hK20
      refine Tri.cv (Cv.wk (.cons (t := 39) (Has.t rfl) (.cons (t := 9) (Has.t rfl) (.cons (t := 3) (Has.t rfl) (.cons (t := 4) (Has.t rfl) (.cons (t := 5) (Has.t rfl) (.cons (t := 6) (Has.t rfl) (.cons (t := 7) (Has.t rfl) (.cons (t := 18) (Has.t rfl) (.cons (t := 19) (Has.t rfl) (.cons (t := 20) (Has.t rfl) (.cons (t := 21) (Has.t rfl) (.cons (t := 8) (Has.t rfl) (.cons (t := 22) (Has.t rfl) (.cons (t := 23) (Has.t rfl) (.cons (t := 24) (Has.t rfl) (.cons (t := 25) (Has.t rfl) (.cons (t := 37) (Has.t rfl) (.cons (t := 38) (Has.t rfl) .nil))))))))))))))))))) ?_
      refine Tri.memEq (M' := (grM isU g2 (((List.range C).map fun k => xs.getD (i * C + k) 0 % fp q) ++ ((List.range k2).map fun k => ys.getD (i * D + k) 0 % fp q)) :: grM rowVU gt rs :: (some b4, cellM [isU q, isGr gt rs.length, nilS, isU (1 % fp q)]) :: (some b3, cellM [isI (R : Int), isI (D : Int), SlM isU ys]) :: (some b2, cellM [isI (R : Int), isI (C : Int), SlM isU xs]) :: (some b1, cellM [isU q]) :: rs.map rowMU)) rfl ?_
      simp only [] at hK2
      refine Tri.seq fun K21 hK21 => ?_
      refine Tri.region ?_
      refine st (OK1.ltI (Has.t rfl) (Has.t rfl)) rfl ?_
      refine nl ?_
      refine At.thn (hK21 _ _ ?_); clear hK21
      refine Tri.seq fun K22 hK22 => ?_
      refine Tri.cond (Has.t rfl) (fun hc3 => ?_) (fun hc3 => ?_)
      · have hc3 := BP.t hc3
        have hpl := place_lt (show i < R by omega) (show k2 < D by omega)
        refine Tri.skip ?_
        refine At.thn (hK22 _ _ ?_); clear hK22
        refine Tri.seq fun K23 hK23 => ?_
        refine Tri.block ?_
        refine Tri.seq fun K24 hK24 => ?_
        refine Tri.region ?_
        refine st (OK1.mv (Has.t rfl)) rfl ?_
        refine st (OK1.as (Has.t rfl)) rfl ?_
        refine nl ?_
        refine At.thn (hK24 _ _ ?_); clear hK24
        refine Tri.dr ?_
        refine DrG.st (i := 0) [] rfl rfl rfl (by kernel_rfl) (OKG.o rfl (OK1.mv (Has.t rfl))) ?_
        refine DrG.st (i := 1) [] rfl rfl rfl (by kernel_rfl) (OKG.o rfl (OK1.load (Has.t rfl) (i := 5) rfl ty29 rfl (Ss' := [_]) rfl)) ?_
        refine DrG.st (i := 2) [] rfl rfl rfl (by kernel_rfl) (OKG.o rfl (OK1.load (Has.t rfl) (i := 3) rfl ty24 rfl (Ss' := [_, _, _]) rfl)) ?_
        refine DrG.st (i := 3) [] rfl rfl rfl (by kernel_rfl) (OKG.o rfl (OK1.mv (Has.t rfl))) ?_
        refine DrG.st (i := 4) [] rfl rfl rfl (by kernel_rfl) (OKG.o rfl (OK1.mv (Has.t rfl))) ?_
        refine DrG.st (i := 5) [44, 45, 46] rfl rfl rfl (by kernel_rfl) (OKG.o rfl (OK1.call (fmat_get (i := i) (k := k2) (by omega) (by omega)) (.cons (Has.t rfl) (.cons (Has.t rfl) (.cons (Has.t rfl) .nil))))) ?_
        refine DrG.st (i := 6) [43, 47] rfl rfl rfl (by kernel_rfl) (OKG.o rfl (OK1.call (gfp_Norm) (.cons (Has.t rfl) (.cons (Has.t rfl) .nil)))) ?_
        refine DrG.st (i := 7) [48] rfl rfl rfl (by kernel_rfl) (OKG.o rfl (OK1.buildS [isU 0] sl22 ty27 zero27 (fun _ _ => ⟨⟨rfl, by decide⟩, trivial⟩) rfl rfl (.cons (Has.t rfl) rfl rfl rfl .nil) rfl (S := SlM isU [ys.getD (i * D + k2) 0 % fp q]) rfl)) ?_
        refine DrG.fin (n := 8) mixed (by kernel_rfl) (by kernel_rfl) (by kernel_rfl) ?_
        refine Ops.cv (Cv.wk (.cons (t := 3) (Has.t rfl) (.cons (t := 4) (Has.t rfl) (.cons (t := 5) (Has.t rfl) (.cons (t := 6) (Has.t rfl) (.cons (t := 7) (Has.t rfl) (.cons (t := 18) (Has.t rfl) (.cons (t := 19) (Has.t rfl) (.cons (t := 20) (Has.t rfl) (.cons (t := 21) (Has.t rfl) (.cons (t := 8) (Has.t rfl) (.cons (t := 22) (Has.t rfl) (.cons (t := 23) (Has.t rfl) (.cons (t := 24) (Has.t rfl) (.cons (t := 25) (Has.t rfl) (.cons (t := 37) (Has.t rfl) (.cons (t := 38) (Has.t rfl) (.cons (t := 39) (Has.t rfl) (.cons (t := 9) (Has.t rfl) (.cons (t := 40) (Has.t rfl) (.cons (t := 41) (Has.t rfl) (.cons (t := 11) (Has.t rfl) (.cons (t := 42) (Has.t rfl) (.cons (t := 43) (Has.t rfl) (.cons (t := 44) (Has.t rfl) (.cons (t := 45) (Has.t rfl) (.cons (t := 46) (Has.t rfl) (.cons (t := 47) (Has.t rfl) (.cons (t := 48) (Has.t rfl) (.cons (t := 49) (Has.t rfl) .nil)))))))))))))))))))))))))))))) ?_
        refine Ops.appendG (f := isU) (u := 0) sl22 ty27 zero27 (fun _ _ => ⟨⟨rfl, by decide⟩, trivial⟩) (fun _ => inferInstance) by27 (Has.t rfl) (i := 0) rfl (Has.t rfl) (by rw [List.length_append, List.length_map, List.length_map, List.length_range, List.length_range]; show C + k2 + 1 ≤ _; omega) (by simp) rfl fun gr1 => ?_
        refine Ops.memEq (M' := (grM _ _ _ :: _ :: _ :: _ :: _ :: _ :: _)) rfl ?_
        refine st (OK1.as (Has.t rfl)) rfl ?_
        refine nl ?_
        refine At.bln ?_
        refine At.thn (hK23 _ _ ?_); clear hK23
        refine Tri.region ?_
        refine st (OK1.addI (Has.t rfl) (Has.cI 1 rfl) (by first | omega | assumption) (by first | omega | assumption)) rfl ?_
        refine st (OK1.mv (Has.t rfl)) rfl ?_
        refine nl ?_
        refine At.thn ?_
        refine hK20 (⟨(k2 + 1, gr1), by show k2 + 1 ≤ D; omega⟩) _ _ ?_ (Cv.mem (.cons (t := 39) (Has.t' rfl ?_) (.cons (t := 9) (Has.t' rfl ?_) (.cons (t := 3) (Has.t rfl) (.cons (t := 4) (Has.t rfl) (.cons (t := 5) (Has.t rfl) (.cons (t := 6) (Has.t rfl) (.cons (t := 7) (Has.t rfl) (.cons (t := 18) (Has.t rfl) (.cons (t := 19) (Has.t rfl) (.cons (t := 20) (Has.t rfl) (.cons (t := 21) (Has.t rfl) (.cons (t := 8) (Has.t rfl) (.cons (t := 22) (Has.t rfl) (.cons (t := 23) (Has.t rfl) (.cons (t := 24) (Has.t rfl) (.cons (t := 25) (Has.t rfl) (.cons (t := 37) (Has.t rfl) (.cons (t := 38) (Has.t rfl) .nil)))))))))))))))))) ?_)
        · show D - (k2 + 1) < D - k2; omega
        · exact isI_eq (by omega)
        · exact isGr_eq (by simp only [List.length_append, List.length_map, List.length_range, List.length_singleton]; omega)
        · exact grM_eq (by rw [List.range_succ, List.map_append, ← List.append_assoc]; rfl)
      · have hc3 := BP.f hc3
        refine Tri.exit ?_
        refine At.the ?_
        refine At.the ?_
        refine At.blh ?_
        refine At.thn (hK18 _ _ ?_); clear hK18
        refine Tri.region ?_
        refine st (OK1.mv (Has.t rfl)) rfl ?_
        refine st (OK1.mv (Has.t rfl)) rfl ?_
        refine st (OK1.nilc (Has.t rfl)) rfl ?_
        refine st (OK1.fieldAddr (Has.t rfl) fld94_1 ty92) rfl ?_
        refine st (OK1.load1 (Has.t rfl) (i := 2) rfl ty92 rfl) rfl ?_
        refine st (OK1.mv (Has.t rfl)) rfl ?_
        refine st (OK1.buildS [SlM isU []] sl92 ty22 zero22 (fun _ _ => ⟨nilM _ _, trivial⟩) rfl rfl (.cons (Has.t rfl) rfl rfl rfl .nil) rfl (S := SlM rowVU [(g2, ((List.range C).map fun k => xs.getD (i * C + k) 0 % fp q) ++ ((List.range k2).map fun k => ys.getD (i * D + k) 0 % fp q))]) rfl) rfl ?_
        refine Ops.appendG (f := rowVU) (u := (Gr.nil, [])) sl92 ty22 zero22 (fun _ _ => ⟨gr0, trivial⟩) (fun _ => inferInstance) by22 (Has.t rfl) (i := 1) rfl (Has.t rfl) (by rw [hrl]; show i + 1 ≤ _; omega) (by simp) rfl fun gr1 => ?_
        refine Ops.memEq (M' := (_ :: grM _ _ _ :: _ :: _ :: _ :: _ :: _)) rfl ?_
        refine st (OK1.nilc (Has.t rfl)) rfl ?_
        refine st (OK1.fieldAddr (Has.t rfl) fld94_1 ty92) rfl ?_
        refine Ops.store (Has.t rfl) (Has.t rfl) (i := 2) rfl ty92 rfl rfl (Ss' := [_, _, _, _]) rfl (M' := (_ :: _ :: (some _, cellM [_, _, _, _]) :: _ :: _ :: _ :: _)) rfl ?_
        refine nl ?_
        refine At.bln ?_
        refine At.thn (hK8 _ _ ?_); clear hK8
        refine Tri.region ?_
        refine st (OK1.addI (Has.t rfl) (Has.cI 1 rfl) (by first | omega | assumption) (by first | omega | assumption)) rfl ?_
        refine st (OK1.mv (Has.t rfl)) rfl ?_
        refine nl ?_
        refine At.thn ?_
        have hkD : D = k2 := by omega
        subst hkD
        refine hK5 (⟨(i + 1, gr1, rs ++ [(g2, ((List.range C).map fun k => xs.getD (i * C + k) 0 % fp q) ++ ((List.range D).map fun k => ys.getD (i * D + k) 0 % fp q))]), by show i + 1 ≤ R; omega, by show (rs ++ [(g2, ((List.range C).map fun k => xs.getD (i * C + k) 0 % fp q) ++ ((List.range D).map fun k => ys.getD (i * D + k) 0 % fp q))]).map Prod.snd = _; rw [List.map_append, hrs, rowsU_succ]; rfl⟩) _ _ ?_ (Cv.trans (Cv.perm perm_end5) (Cv.mem (.cons (t := 19) (Has.t' rfl ?_) (.cons (t := 3) (Has.t rfl) (.cons (t := 4) (Has.t rfl) (.cons (t := 5) (Has.t rfl) (.cons (t := 6) (Has.t rfl) (.cons (t := 7) (Has.t rfl) (.cons (t := 18) (Has.t rfl) .nil))))))) ?_))
        · show R - (i + 1) < R - i; omega
        · exact isI_eq (by omega)
        · show _ = grM rowVU gr1 (rs ++ [_]) :: (some b4, cellM [_, isGr gr1 (rs ++ [_]).length, _, _]) :: _ :: _ :: _ :: (rs ++ [_]).map rowMU; rw [List.map_append, List.length_append]; rfl
  · have hc1 := BP.f hc1
    refine Tri.exit ?_
    refine At.the ?_
    refine At.the ?_
    refine At.blh ?_
    refine At.thn (hK3 _ _ ?_); clear hK3
    refine Tri.cv (Cv.wk (.cons (t := 6) (Has.t rfl) (.cons (t := 7) (Has.t rfl) .nil))) ?_
    refine Tri.seq fun K25 hK25 => ?_
    refine Tri.cv (Cv.growF (Int) (i := 1) (o := 2) rfl rfl rfl) ?_
    refine Tri.memEq (M' := (grM isI Gr.nil [] :: _ :: _ :: _ :: _ :: _ :: _)) rfl ?_
    refine Tri.cv (Cv.drop ((.cons_cons _ (.cons_cons _ (.cons_cons _ (.cons _ (.cons _ (.cons _ (List.Sublist.refl _))))))))) ?_
    refine Tri.cv (Cv.wk (.cons (t := 6) (Has.t rfl) (.cons (t := 7) (Has.t rfl) .nil))) ?_
    refine Tri.cv (Cv.perm perm_rot) ?_
    refine Tri.region ?_
    refine st (OK1.mv (Has.t rfl)) rfl ?_
    refine st (OK1.as (Has.t rfl)) rfl ?_
    refine nl ?_
    refine At.thn (hK25 _ _ ?_); clear hK25
    refine Tri.ret ?_
    refine rtX1 (.inl rfl) Try.results117 rfl (.tmp (Has.t rfl) .nil) ?_
    exact ⟨b4, gt, rs, rfl, rfl, by obtain rfl : i = R := (by omega); exact hrs⟩
set_option maxHeartbeats 4000000 in
theorem fmat_take {q bw : Nat} {gp : Gr Int} {gt : Gr RowU} {rs : List RowU} {ps : List Nat} {det : Nat} (hq : q < 4294967296) {i t c : Nat} {r b : RowU} (hi : rs[i]? = some r) (ht : rs[t]? = some b) (hne : i ≠ t) (hl : b.2.length = r.2.length) (hrl : r.2.length ≤ 128) : CtrX Try.prog 146 [isPtr bw 0, isGr r.1 r.2.length, isGr b.1 b.2.length, isU c] (wkMU q bw gp gt rs ps det) (fun S M => S = isTup [] ∧ M = wkMU q bw gp gt (rs.set i (r.1, takeL (fp q) c b.2 r.2)) ps det) := by
  refine CtrX.intro Try.func146 rfl (by kernel_rfl) Try.ntmps146 rfl fun w0 F0 => ?_
  refine Tri.cv (Cv.wk (.cons (t := 0) (Has.t rfl) (.cons (t := 1) (Has.t rfl) (.cons (t := 2) (Has.t rfl) (.cons (t := 3) (Has.t rfl) .nil))))) ?_
  refine Tri.fact (Has.ltU (Has.t (t := 3) rfl)) fun lt3 => ?_
  have hil : i < rs.length := Go.Dt.lt_some hi
  refine Tri.seq fun K1 hK1 => ?_
  refine Tri.region ?_
  refine st (OK1.mv (Has.t rfl)) rfl ?_
  refine st (OK1.len sl22 (Has.t rfl)) rfl ?_
  refine st (OK1.mv (Has.cI 0 rfl)) rfl ?_
  refine nl ?_
  refine At.thn (hK1 _ _ ?_); clear hK1
  refine Tri.block ?_
  refine Tri.loopF [0, 1, 2, 3, 10] (fun (z : { k : Nat // k ≤ r.2.length }) => match z with | ⟨k, hk⟩ => [(11, isI (k : Int))]) (fun M => fun (z : { k : Nat // k ≤ r.2.length }) => match z with | ⟨k, hk⟩ => (wk0U q bw gp gt rs.length ps det :: grM isI gp (pv ps) :: grM rowVU gt rs :: (rs.set i (r.1, mixL (takeL (fp q) c b.2 r.2) r.2 k)).map rowMU)) (fun (z : { k : Nat // k ≤ r.2.length }) => match z with | ⟨k, hk⟩ => r.2.length - k) (⟨0, Nat.zero_le _⟩) (Cv.mem (.cons (t := 11) (Has.t' rfl ?_) (.cons (t := 0) (Has.t rfl) (.cons (t := 1) (Has.t rfl) (.cons (t := 2) (Has.t rfl) (.cons (t := 3) (Has.t rfl) (.cons (t := 10) (Has.t rfl) .nil)))))) ?_) ?_
  · rfl
  · exact mixU_start (pre := [_, _, _]) hi
  rintro ⟨k, hk⟩ K2 hK2
  refine Tri.cv (Cv.wk (.cons (t := 11) (Has.t rfl) (.cons (t := 0) (Has.t rfl) (.cons (t := 1) (Has.t rfl) (.cons (t := 2) (Has.t rfl) (.cons (t := 3) (Has.t rfl) (.cons (t := 10) (Has.t rfl) .nil))))))) ?_
  refine Tri.memEq (M' := (wk0U q bw gp gt rs.length ps det :: grM isI gp (pv ps) :: grM rowVU gt rs :: (rs.set i (r.1, mixL (takeL (fp q) c b.2 r.2) r.2 k)).map rowMU)) rfl ?_
  have hset : (rs.set i (r.1, mixL (takeL (fp q) c b.2 r.2) r.2 k))[i]? = some (r.1, mixL (takeL (fp q) c b.2 r.2) r.2 k) := List.getElem?_set_self hil
  have hset0 : (rs.set i (r.1, mixL (takeL (fp q) c b.2 r.2) r.2 k))[t]? = some b := (List.getElem?_set_ne hne).trans ht
  refine Tri.seq fun K3 hK3 => ?_
  refine Tri.region ?_
  refine st (OK1.ltI (Has.t rfl) (Has.t rfl)) rfl ?_
  refine nl ?_
  refine At.thn (hK3 _ _ ?_); clear hK3
  refine Tri.seq fun K4 hK4 => ?_
  refine Tri.cond (Has.t rfl) (fun hc1 => ?_) (fun hc1 => ?_)
  · have hc1 := BP.t hc1
    refine Tri.skip ?_
    refine At.thn (hK4 _ _ ?_); clear hK4
    refine Tri.seq fun K5 hK5 => ?_
    refine Tri.block ?_
    refine Tri.seq fun K6 hK6 => ?_
    refine Tri.region ?_
    refine st (OK1.mv (Has.t rfl)) rfl ?_
    refine st (OK1.as (Has.t rfl)) rfl ?_
    refine nl ?_
    refine At.thn (hK6 _ _ ?_); clear hK6
    refine Tri.dr ?_
    refine DrG.st (i := 0) [] rfl rfl rfl (by kernel_rfl) (OKG.o rfl (OK1.mv (Has.t rfl))) ?_
    refine DrG.st (i := 1) [] rfl rfl rfl (by kernel_rfl) (OKG.o rfl (OK1.mv (Has.t rfl))) ?_
    refine DrG.st (i := 2) [] rfl rfl rfl (by kernel_rfl) (OKG.o rfl (OK1.mv (Has.t rfl))) ?_
    refine DrG.st (i := 3) [16] rfl rfl rfl (by kernel_rfl) (OKG.o rfl (OK1.nilc (Has.t rfl))) ?_
    refine DrG.st (i := 4) [17] rfl rfl rfl (by kernel_rfl) (OKG.o rfl (OK1.fieldAddr (Has.t rfl) fld94_0 ty29)) ?_
    refine DrG.st (i := 5) [18] rfl rfl rfl (by kernel_rfl) (OKG.o rfl (OK1.load (Has.t rfl) (i := 0) rfl ty29 rfl (Ss' := [_]) rfl)) ?_
    refine DrG.st (i := 6) [] rfl rfl rfl (by kernel_rfl) (OKG.o rfl (OK1.mv (Has.t rfl))) ?_
    refine DrG.st (i := 7) [] rfl rfl rfl (by kernel_rfl) (OKG.o rfl (OK1.mv (Has.t rfl))) ?_
    refine DrG.st (i := 8) [20, 21] rfl rfl rfl (by kernel_rfl) (OKG.o rfl (OK1.ixGr sl22 ty27 (Has.t rfl) (Has.t rfl) ⟨by omega, by omega⟩)) ?_
    refine DrG.st (i := 9) [22] rfl rfl rfl (by kernel_rfl) (OKG.o rfl (OK1.loadGM (Has.t rfl) (i := 3 + i) (wkAtU (pre := [_, _, _]) (r := (r.1, mixL (takeL (fp q) c b.2 r.2) r.2 k)) hset) ty27 (show (mixL (takeL (fp q) c b.2 r.2) r.2 k)[k]? = some (r.2.getD k 0) from mixL_at (takeL_len _ _ _ _) (by omega)))) ?_
    refine DrG.st (i := 10) [] rfl rfl rfl (by kernel_rfl) (OKG.o rfl (OK1.mv (Has.t rfl))) ?_
    refine DrG.st (i := 11) [24] rfl rfl rfl (by kernel_rfl) (OKG.o rfl (OK1.nilc (Has.t rfl))) ?_
    refine DrG.st (i := 12) [25] rfl rfl rfl (by kernel_rfl) (OKG.o rfl (OK1.fieldAddr (Has.t rfl) fld94_0 ty29)) ?_
    refine DrG.st (i := 13) [26] rfl rfl rfl (by kernel_rfl) (OKG.o rfl (OK1.load (Has.t rfl) (i := 0) rfl ty29 rfl (Ss' := [_]) rfl)) ?_
    refine DrG.st (i := 14) [] rfl rfl rfl (by kernel_rfl) (OKG.o rfl (OK1.mv (Has.t rfl))) ?_
    refine DrG.st (i := 15) [] rfl rfl rfl (by kernel_rfl) (OKG.o rfl (OK1.mv (Has.t rfl))) ?_
    refine DrG.st (i := 16) [] rfl rfl rfl (by kernel_rfl) (OKG.o rfl (OK1.mv (Has.t rfl))) ?_
    refine DrG.st (i := 17) [29, 30] rfl rfl rfl (by kernel_rfl) (OKG.o rfl (OK1.ixGr sl22 ty27 (Has.t rfl) (Has.t rfl) ⟨by omega, by omega⟩)) ?_
    refine DrG.st (i := 18) [31] rfl rfl rfl (by kernel_rfl) (OKG.o rfl (OK1.loadGM (Has.t rfl) (i := 3 + t) (wkAtU (pre := [_, _, _]) hset0) ty27 (show b.2[k]? = some (b.2.getD k 0) from getD_some (by omega)))) ?_
    refine DrG.st (i := 19) [27, 28, 32] rfl rfl rfl (by kernel_rfl) (OKG.o rfl (OK1.call (gfp_Mul hq) (.cons (Has.t rfl) (.cons (Has.t rfl) (.cons (Has.t rfl) .nil))))) ?_
    refine DrG.st (i := 20) [19, 23, 33] rfl rfl rfl (by kernel_rfl) (OKG.o rfl (OK1.eq (OK1.call (gfp_Sub hq) (.cons (Has.t rfl) (.cons (Has.t rfl) (.cons (Has.t rfl) .nil)))) ((show isU _ = isU (takeE (fp q) c b.2 r.2 k) from isU_eq rfl)))) ?_
    refine DrG.fin (n := 21) mixed (by kernel_rfl) (by kernel_rfl) (by kernel_rfl) ?_
    refine Ops.cv (Cv.wk (.cons (t := 0) (Has.t rfl) (.cons (t := 1) (Has.t rfl) (.cons (t := 2) (Has.t rfl) (.cons (t := 3) (Has.t rfl) (.cons (t := 10) (Has.t rfl) (.cons (t := 11) (Has.t rfl) (.cons (t := 12) (Has.t rfl) (.cons (t := 13) (Has.t rfl) (.cons (t := 8) (Has.t rfl) (.cons (t := 14) (Has.t rfl) (.cons (t := 15) (Has.t rfl) (.cons (t := 16) (Has.t rfl) (.cons (t := 17) (Has.t rfl) (.cons (t := 18) (Has.t rfl) (.cons (t := 19) (Has.t rfl) (.cons (t := 20) (Has.t rfl) (.cons (t := 21) (Has.t rfl) (.cons (t := 22) (Has.t rfl) (.cons (t := 23) (Has.t rfl) (.cons (t := 24) (Has.t rfl) (.cons (t := 25) (Has.t rfl) (.cons (t := 26) (Has.t rfl) (.cons (t := 27) (Has.t rfl) (.cons (t := 28) (Has.t rfl) (.cons (t := 29) (Has.t rfl) (.cons (t := 30) (Has.t rfl) (.cons (t := 31) (Has.t rfl) (.cons (t := 32) (Has.t rfl) (.cons (t := 33) (Has.t rfl) (.cons (t := 34) (Has.t rfl) .nil))))))))))))))))))))))))))))))) ?_
    refine st (OK1.ixGr sl22 ty27 (Has.t rfl) (Has.t rfl) ⟨by omega, by omega⟩) rfl ?_
    refine Ops.storeGM (z := takeE (fp q) c b.2 r.2 k) (Has.t rfl) (Has.t rfl) (i := 3 + i) (wkAtU (pre := [_, _, _]) (r := (r.1, mixL (takeL (fp q) c b.2 r.2) r.2 k)) hset) ty27 (by rw [mixL_len (takeL_len _ _ _ _) (by omega)]; omega) (M' := (_ :: _ :: _ :: (rs.set i (r.1, mixL (takeL (fp q) c b.2 r.2) r.2 (k + 1))).map rowMU)) (wkStoreU (pre := [_, _, _]) (X := (r.1, mixL (takeL (fp q) c b.2 r.2) r.2 k)) hset (mixL_set (takeL_len _ _ _ _) (by omega) (takeL_at _ _ _ (by omega)))) ?_
    refine nl ?_
    refine At.bln ?_
    refine At.thn (hK5 _ _ ?_); clear hK5
    refine Tri.region ?_
    refine st (OK1.addI (Has.t rfl) (Has.cI 1 rfl) (by first | omega | assumption) (by first | omega | assumption)) rfl ?_
    refine st (OK1.mv (Has.t rfl)) rfl ?_
    refine nl ?_
    refine At.thn ?_
    refine hK2 (⟨k + 1, by omega⟩) _ _ ?_ (Cv.mem (.cons (t := 11) (Has.t' rfl ?_) (.cons (t := 0) (Has.t rfl) (.cons (t := 1) (Has.t rfl) (.cons (t := 2) (Has.t rfl) (.cons (t := 3) (Has.t rfl) (.cons (t := 10) (Has.t rfl) .nil)))))) ?_)
    · show r.2.length - (k + 1) < r.2.length - k; omega
    · exact isI_eq (by omega)
    · rfl
  · have hc1 := BP.f hc1
    refine Tri.exit ?_
    refine At.the ?_
    refine At.the ?_
    refine At.blh ?_
    refine rtX0 (.inr rfl) Try.results146 rfl ?_
    exact ⟨rfl, wkU_take hi (takeL_len _ _ _ _) (by omega)⟩
set_option maxHeartbeats 4000000 in
theorem sl_IndexFuncR {W : Nat} {xs : List (List Nat)} {t : List Nat → Bool} (hx : ∀ r ∈ xs, r.length = W) : Ctr Try.prog 143 [SlM isWs xs, isFun (ι := { r : List Nat // r.length = W }) Try.prog (fun p => [isWs p.1]) (fun p => isB (t p.1))] (isI (ixf t xs)) := by
  refine Ctr.intro Try.func143 rfl (by kernel_rfl) Try.ntmps143 rfl fun w0 F0 => ?_
  refine Tri.cv (Cv.wk (.cons (t := 0) (Has.t rfl) (.cons (t := 1) (Has.t rfl) .nil))) ?_
  refine Tri.fact (Has.lenLt (Has.t (t := 0) rfl)) fun lt0 => ?_
  refine Tri.seq fun K1 hK1 => ?_
  refine Tri.region ?_
  refine st (OK1.as (Has.cI 0 rfl)) rfl ?_
  refine nl ?_
  refine At.thn (hK1 _ _ ?_); clear hK1
  refine Tri.seq fun K2 hK2 => ?_
  refine Tri.seq fun K3 hK3 => ?_
  refine Tri.region ?_
  refine st (OK1.mv (Has.t rfl)) rfl ?_
  refine st (OK1.len sl92 (Has.t rfl)) rfl ?_
  refine st (OK1.mv (Has.cI 0 rfl)) rfl ?_
  refine nl ?_
  refine At.thn (hK3 _ _ ?_); clear hK3
  refine Tri.block ?_
  refine Tri.loopF [0, 1, 7] (fun (z : { i : Nat // i ≤ xs.length ∧ ∀ j, j < i → t (xs.getD j []) = false }) => match z with | ⟨i, hI⟩ => [(8, isI (i : Int))]) (fun M => fun (z : { i : Nat // i ≤ xs.length ∧ ∀ j, j < i → t (xs.getD j []) = false }) => match z with | ⟨i, hI⟩ => M) (fun (z : { i : Nat // i ≤ xs.length ∧ ∀ j, j < i → t (xs.getD j []) = false }) => match z with | ⟨i, hI⟩ => xs.length - i) (⟨0, Nat.zero_le _, fun j hj => absurd hj (Nat.not_lt_zero _)⟩) (Cv.mem (.cons (t := 8) (Has.t' rfl ?_) (.cons (t := 0) (Has.t rfl) (.cons (t := 1) (Has.t rfl) (.cons (t := 7) (Has.t rfl) .nil)))) ?_) ?_
  · rfl
  · rfl
  rintro ⟨i, hi, hq⟩ K4 hK4
  refine Tri.cv (Cv.wk (.cons (t := 8) (Has.t rfl) (.cons (t := 0) (Has.t rfl) (.cons (t := 1) (Has.t rfl) (.cons (t := 7) (Has.t rfl) .nil))))) ?_
  refine Tri.seq fun K5 hK5 => ?_
  refine Tri.region ?_
  refine st (OK1.ltI (Has.t rfl) (Has.t rfl)) rfl ?_
  refine nl ?_
  refine At.thn (hK5 _ _ ?_); clear hK5
  refine Tri.seq fun K6 hK6 => ?_
  refine Tri.cond (Has.t rfl) (fun hc1 => ?_) (fun hc1 => ?_)
  · have hc1 := BP.t hc1
    refine Tri.skip ?_
    refine At.thn (hK6 _ _ ?_); clear hK6
    refine Tri.seq fun K7 hK7 => ?_
    refine Tri.block ?_
    refine Tri.seq fun K8 hK8 => ?_
    refine Tri.region ?_
    refine st (OK1.mv (Has.t rfl)) rfl ?_
    refine st (OK1.as (Has.t rfl)) rfl ?_
    refine nl ?_
    refine At.thn (hK8 _ _ ?_); clear hK8
    refine Tri.seq fun K9 hK9 => ?_
    refine Tri.region ?_
    refine st (OK1.mv (Has.t rfl)) rfl ?_
    refine st (OK1.mv (Has.t rfl)) rfl ?_
    refine st (OK1.mv (Has.t rfl)) rfl ?_
    refine st (OK1.ixP sl92 ty22 (Has.t rfl) (Has.t rfl) ⟨by omega, by omega⟩ (getD_some (d := []) (by first | omega | (simp only [Int.toNat_natCast, List.length_set]; omega)))) rfl ?_
    refine st (OK1.loadP1 (Has.t rfl) ty22) rfl ?_
    refine st (OK1.callV ⟨xs.getD i [], hx _ (by rw [List.getD, List.getElem?_eq_getElem (by omega)]; exact List.getElem_mem _)⟩ (Has.t rfl) (.cons (Has.t rfl) .nil)) rfl ?_
    refine nl ?_
    refine At.thn (hK9 _ _ ?_); clear hK9
    refine Tri.cond (Has.t rfl) (fun hc2 => ?_) (fun hc2 => ?_)
    · have hc2 := BP.t hc2
      have HQ := hc2
      refine Tri.seq fun K10 hK10 => ?_
      refine Tri.region ?_
      refine st (OK1.mv (Has.t rfl)) rfl ?_
      refine st (OK1.as (Has.t rfl)) rfl ?_
      refine nl ?_
      refine At.thn (hK10 _ _ ?_); clear hK10
      refine Tri.ret ?_
      refine At.blr ?_
      refine At.thr ?_
      refine At.thr ?_
      refine At.blr ?_
      refine At.thr ?_
      refine rt1 (.inl rfl) Try.results143 rfl (.tmp (Has.t' rfl ?_) .nil)
      all_goals (exact isI_eq (ixf_at (d := []) (by omega) hq (by simpa using HQ)))
    · have hc2 := BP.f hc2
      have HQ := hc2
      refine Tri.skip ?_
      refine At.bln ?_
      refine At.thn (hK7 _ _ ?_); clear hK7
      refine Tri.region ?_
      refine st (OK1.addI (Has.t rfl) (Has.cI 1 rfl) (by first | omega | assumption) (by first | omega | assumption)) rfl ?_
      refine st (OK1.mv (Has.t rfl)) rfl ?_
      refine nl ?_
      refine At.thn ?_
      refine hK4 (⟨i + 1, by omega, fun j hj => by rcases Nat.lt_or_ge j i with h | h; exact hq j h; obtain rfl : j = i := (by omega); simpa using HQ⟩) _ _ ?_ (Cv.mem (.cons (t := 8) (Has.t' rfl ?_) (.cons (t := 0) (Has.t rfl) (.cons (t := 1) (Has.t rfl) (.cons (t := 7) (Has.t rfl) .nil)))) ?_)
      · show xs.length - (i + 1) < xs.length - i; omega
      · exact isI_eq (by omega)
      · rfl
  · have hc1 := BP.f hc1
    refine Tri.exit ?_
    refine At.the ?_
    refine At.the ?_
    refine At.blh ?_
    refine At.thn (hK2 _ _ ?_); clear hK2
    refine Tri.cv (Cv.wk .nil) ?_
    refine Tri.seq fun K11 hK11 => ?_
    refine Tri.region ?_
    refine st (OK1.as (Has.cI (-1) rfl)) rfl ?_
    refine nl ?_
    refine At.thn (hK11 _ _ ?_); clear hK11
    refine Tri.ret ?_
    refine rt1 (.inl rfl) Try.results143 rfl (.tmp (Has.t' rfl ?_) .nil)
    all_goals (exact isI_eq (ixf_none (d := []) (i := i) (by omega) hq))
set_option maxHeartbeats 4000000 in
theorem fmat_column_1 {col W : Nat} {r : List Nat} (hl : r.length = W) (hc : col < W) : Ctr Try.prog 144 [isWs r, PtrL [isI (col : Int)]] (isB (nz0 col r)) := by
  refine Ctr.intro Try.func144 rfl (by kernel_rfl) Try.ntmps144 rfl fun w0 F0 => ?_
  refine Tri.cv (Cv.wk (.cons (t := 0) (Has.t rfl) (.cons (t := 1) (Has.t rfl) .nil))) ?_
  refine Tri.seq fun K1 hK1 => ?_
  refine Tri.region ?_
  refine st (OK1.as (Has.cB false)) rfl ?_
  refine nl ?_
  refine At.thn (hK1 _ _ ?_); clear hK1
  refine Tri.seq fun K2 hK2 => ?_
  refine Tri.region ?_
  refine st (OK1.mv (Has.t rfl)) rfl ?_
  refine st (OK1.loadP1 (Has.t rfl) ty3) rfl ?_
  refine st (OK1.ixP sl22 ty27 (Has.t rfl) (Has.t rfl) ⟨by omega, by omega⟩ (getD_some (d := 0) (by first | omega | (simp only [Int.toNat_natCast, List.length_set]; omega)))) rfl ?_
  refine st (OK1.loadP1 (Has.t rfl) ty27) rfl ?_
  refine st (OK1.neU (Has.t rfl) (Has.cU 0 rfl)) rfl ?_
  refine st (OK1.as (Has.t rfl)) rfl ?_
  refine nl ?_
  refine At.thn (hK2 _ _ ?_); clear hK2
  refine Tri.cv (Cv.wk (.cons (t := 3) (Has.t rfl) .nil)) ?_
  refine Tri.ret ?_
  refine rt1 (.inl rfl) Try.results144 rfl (.tmp (Has.t' rfl ?_) .nil)
  all_goals (exact isB_eq (by simp [nz0]))
end Go.Proofs.Ytfoclelageohiaa
/- Contracts: a column is reduced. -/
namespace Go.Proofs.Ytfoclelageohiaa
open Go.En Go.RowKit
set_option linter.unusedVariables false
set_option maxRecDepth 10000
open Go.Gf
open Go.Mz
open Go.Mu
open Go.Fe
set_option maxHeartbeats 4000000 in
theorem fmat_column {q bw : Nat} {gp : Gr Int} {gt : Gr RowU} {rs : List RowU} {ps : List Nat} {det : Nat} (hq : q < 4294967296) {col W : Nat} (hp2 : 2 ≤ fp q) (hrow : ∀ r ∈ rs, r.2.length = W) (hcol : col < W) (hW : W ≤ 128) (hR : rs.length ≤ 64) (hpl : ps.length ≤ rs.length) : CtrX Try.prog 118 [isPtr bw 0, isI (col : Int)] (wkMU q bw gp gt rs ps det) (fun S M => ∃ gp' rs', S = isTup [] ∧ M = wkMU q bw gp' gt rs' (fcol (fp q) ⟨rs.map Prod.snd, ps, det⟩ col).ps (fcol (fp q) ⟨rs.map Prod.snd, ps, det⟩ col).det ∧ rs'.map Prod.snd = (fcol (fp q) ⟨rs.map Prod.snd, ps, det⟩ col).rows) := by
  refine CtrX.intro Try.func118 rfl (by kernel_rfl) Try.ntmps118 rfl fun w0 F0 => ?_
  refine Tri.cv (Cv.wk (.cons (t := 0) (Has.t rfl) (.cons (t := 1) (Has.t rfl) .nil))) ?_
  refine Tri.fact (Has.rngI (Has.t (t := 1) rfl)) fun lt1 => ?_
  have hpv := pv_len ps
  obtain ⟨z0, hz0⟩ : ∃ z0 : Int, z0 = ixf (nz0 col) ((rs.map Prod.snd).drop ps.length) := ⟨_, rfl⟩
  have hxr : ∀ r ∈ (rs.map Prod.snd).drop ps.length, r.length = W := fun r hr => by obtain ⟨x, hx, rfl⟩ := List.mem_map.1 (List.mem_of_mem_drop hr); exact hrow x hx
  refine Tri.seq fun K1 hK1 => ?_
  refine Tri.region ?_
  refine Ops.box (Has.t rfl) rfl fun b1 => ?_
  refine nl ?_
  refine At.thn (hK1 _ _ ?_); clear hK1
  refine Tri.seq fun K2 hK2 => ?_
  refine Tri.region ?_
  refine st (OK1.mv (Has.t rfl)) rfl ?_
  refine st (OK1.nilc (Has.t rfl)) rfl ?_
  refine st (OK1.fieldAddr (Has.t rfl) fld94_2 ty32) rfl ?_
  refine st (OK1.load1 (Has.t rfl) (i := 1) rfl ty32 rfl) rfl ?_
  refine st (OK1.len sl32 (Has.t rfl)) rfl ?_
  refine st (OK1.eq (OK1.as (Has.t rfl)) ((show isI _ = isI (ps.length : Int) from isI_eq (by omega)))) rfl ?_
  refine nl ?_
  refine At.thn (hK2 _ _ ?_); clear hK2
  refine Tri.cv (Cv.wk (.cons (t := 0) (Has.t rfl) (.cons (t := 3) (Has.t rfl) (.cons (t := 4) (Has.t rfl) .nil)))) ?_
  refine Tri.seq fun K3 hK3 => ?_
  refine Tri.region ?_
  refine st (OK1.mv (Has.t rfl)) rfl ?_
  refine st (OK1.nilc (Has.t rfl)) rfl ?_
  refine st (OK1.fieldAddr (Has.t rfl) fld94_1 ty92) rfl ?_
  refine st (OK1.load1 (Has.t rfl) (i := 1) rfl ty92 rfl) rfl ?_
  refine st (OK1.mv (Has.t rfl)) rfl ?_
  refine st (OK1.slGrL sl92 ty22 (Has.t rfl) (Has.t rfl) ⟨by omega, by omega⟩) rfl ?_
  refine Ops.cv (Cv.freezeBoxX (t := 3) rfl rfl rfl) ?_
  refine Ops.cv (Cv.wk (.cons (t := 0) (Has.t rfl) (.cons (t := 3) (Has.t rfl) (.cons (t := 4) (Has.t rfl) (.cons (t := 16) (Has.t rfl) (.cons (t := 17) (Has.t rfl) (.cons (t := 18) (Has.t rfl) (.cons (t := 19) (Has.t rfl) (.cons (t := 20) (Has.t rfl) (.cons (t := 21) (Has.t rfl) .nil)))))))))) ?_
  refine st (OK1.makeFn (ι := { r : List Nat // r.length = W }) (As := fun p => [isWs p.1]) (R := fun p => isB (nz0 col p.1)) (fun p => fmat_column_1 p.2 hcol) .nil (.cons (Has.t rfl) .nil)) rfl ?_
  refine st (OK1.eq (OK1.callB (sl_IndexFuncR hxr) (.cons (HasB.rows (pre := [_, _]) (Has.t rfl) rfl rfl) (.cons (HasB.of (Has.t rfl)) .nil))) ((show isI _ = isI z0 from isI_eq hz0.symm))) rfl ?_
  refine st (OK1.as (Has.t rfl)) rfl ?_
  refine nl ?_
  refine At.thn (hK3 _ _ ?_); clear hK3
  refine Tri.cv (Cv.wk (.cons (t := 0) (Has.t rfl) (.cons (t := 3) (Has.t rfl) (.cons (t := 4) (Has.t rfl) (.cons (t := 5) (Has.t rfl) .nil))))) ?_
  refine Tri.seq fun K4 hK4 => ?_
  refine Tri.seq fun K5 hK5 => ?_
  refine Tri.region ?_
  refine st (OK1.mv (Has.t rfl)) rfl ?_
  refine st (OK1.ltI (Has.t rfl) (Has.cI 0 rfl)) rfl ?_
  refine nl ?_
  refine At.thn (hK5 _ _ ?_); clear hK5
  refine Tri.cond (Has.t rfl) (fun hc1 => ?_) (fun hc1 => ?_)
  · have hc1 := BP.t hc1
    have KC0 := hc1
    refine Tri.ret ?_
    refine At.thr ?_
    refine rtX0 (.inl rfl) Try.results118 rfl ?_
    exact ⟨gp, rs, rfl, by rw [fcol_no (s := ⟨rs.map Prod.snd, ps, det⟩) (ixf_no hz0 KC0)], by rw [fcol_no (s := ⟨rs.map Prod.snd, ps, det⟩) (ixf_no hz0 KC0)]⟩
  · have hc1 := BP.f hc1
    obtain ⟨n0, rfl, hn0, hn1⟩ := ixf_yes hz0 (by omega)
    rw [List.length_drop, List.length_map] at hn1
    obtain ⟨rt, hrt⟩ : ∃ rt, rs[ps.length]? = some rt := ⟨_, List.getElem?_eq_getElem (by omega)⟩
    obtain ⟨ri, hri⟩ : ∃ ri, rs[ps.length + n0]? = some ri := ⟨_, List.getElem?_eq_getElem (by omega)⟩
    refine Tri.skip ?_
    refine At.thn (hK4 _ _ ?_); clear hK4
    refine Tri.cutF [0, 3, 4] (fun (z : { z : List RowU × Nat // z.1.length = rs.length ∧ (∀ r ∈ z.1, r.2.length = W) ∧ z.1.map Prod.snd = swapL [] (rs.map Prod.snd) ps.length n0 ∧ z.2 = (if 0 < n0 then (fp q - det % fp q) % fp q else det) }) => match z with | ⟨(rs1, d1), hS⟩ => []) (fun M => fun (z : { z : List RowU × Nat // z.1.length = rs.length ∧ (∀ r ∈ z.1, r.2.length = W) ∧ z.1.map Prod.snd = swapL [] (rs.map Prod.snd) ps.length n0 ∧ z.2 = (if 0 < n0 then (fp q - det % fp q) % fp q else det) }) => match z with | ⟨(rs1, d1), hS⟩ => wkMU q bw gp gt rs1 ps d1) (fun K6 hK6 => ?_) ?_
    · skip
      refine Tri.seq fun K7 hK7 => ?_
      refine Tri.region ?_
      refine st (OK1.mv (Has.t rfl)) rfl ?_
      refine st (OK1.gtI (Has.t rfl) (Has.cI 0 rfl)) rfl ?_
      refine nl ?_
      refine At.thn (hK7 _ _ ?_); clear hK7
      refine Tri.cond (Has.t rfl) (fun hc2 => ?_) (fun hc2 => ?_)
      · have hc2 := BP.t hc2
        have hn2 : 0 < n0 := (by omega)
        refine Tri.seq fun K8 hK8 => ?_
        refine Tri.dry mixed ?_
        refine DrB.take (i := 0) rfl rfl rfl rfl (by kernel_rfl) (by kernel_rfl) (by kernel_rfl) (by kernel_rfl) (fun _ _ _ _ h => h) (OKY.mv (Has.t rfl)) ?_
        refine DrB.take (i := 1) rfl rfl rfl rfl (by kernel_rfl) (by kernel_rfl) (by kernel_rfl) (by kernel_rfl) (fun _ _ _ _ h => h) (OKY.nilc (Has.t rfl)) ?_
        refine DrB.take (i := 2) rfl rfl rfl rfl (by kernel_rfl) (by kernel_rfl) (by kernel_rfl) (by kernel_rfl) (fun _ _ _ _ h => h) (OKY.fieldAddr (Has.t rfl) fld94_1 ty92) ?_
        refine DrB.take (i := 4) rfl rfl rfl rfl (by kernel_rfl) (by kernel_rfl) (by kernel_rfl) (by kernel_rfl) (fun _ _ _ _ h => h) (OKY.mv (Has.t rfl)) ?_
        refine DrB.take (i := 5) rfl rfl rfl rfl (by kernel_rfl) (by kernel_rfl) (by kernel_rfl) (by kernel_rfl) (fun _ _ _ _ h => h) (OKY.mv (Has.t rfl)) ?_
        refine DrB.take (i := 6) rfl rfl rfl rfl (by kernel_rfl) (by kernel_rfl) (by kernel_rfl) (by kernel_rfl) (fun _ _ _ _ h => h) (OKY.nilc (Has.t rfl)) ?_
        refine DrB.take (i := 7) rfl rfl rfl rfl (by kernel_rfl) (by kernel_rfl) (by kernel_rfl) (by kernel_rfl) (fun _ _ _ _ h => h) (OKY.fieldAddr (Has.t rfl) fld94_1 ty92) ?_
        refine DrB.take (i := 9) rfl rfl rfl rfl (by kernel_rfl) (by kernel_rfl) (by kernel_rfl) (by kernel_rfl) (fun _ _ _ _ h => h) (OKY.mv (Has.t rfl)) ?_
        refine DrB.take (i := 10) rfl rfl rfl rfl (by kernel_rfl) (by kernel_rfl) (by kernel_rfl) (by kernel_rfl) (fun _ _ _ _ h => h) (OKY.mv (Has.t rfl)) ?_
        refine DrB.take (i := 11) rfl rfl rfl rfl (by kernel_rfl) (by kernel_rfl) (by kernel_rfl) (by kernel_rfl) (fun _ _ _ _ h => h) (OKY.eq (OKY.addI (Has.t rfl) (Has.t rfl) (by first | omega | assumption) (by first | omega | assumption)) ((show isI _ = isI ((ps.length + n0 : Nat) : Int) from isI_eq (by omega)))) ?_
        refine DrB.take (i := 12) rfl rfl rfl rfl (by kernel_rfl) (by kernel_rfl) (by kernel_rfl) (by kernel_rfl) (fun _ _ _ _ h => h) (OKY.mv (Has.t rfl)) ?_
        refine DrB.take (i := 13) rfl rfl rfl rfl (by kernel_rfl) (by kernel_rfl) (by kernel_rfl) (by kernel_rfl) (fun _ _ _ _ h => h) (OKY.nilc (Has.t rfl)) ?_
        refine DrB.take (i := 14) rfl rfl rfl rfl (by kernel_rfl) (by kernel_rfl) (by kernel_rfl) (by kernel_rfl) (fun _ _ _ _ h => h) (OKY.fieldAddr (Has.t rfl) fld94_1 ty92) ?_
        refine DrB.take (i := 16) rfl rfl rfl rfl (by kernel_rfl) (by kernel_rfl) (by kernel_rfl) (by kernel_rfl) (fun _ _ _ _ h => h) (OKY.mv (Has.t rfl)) ?_
        refine DrB.take (i := 17) rfl rfl rfl rfl (by kernel_rfl) (by kernel_rfl) (by kernel_rfl) (by kernel_rfl) (fun _ _ _ _ h => h) (OKY.mv (Has.t rfl)) ?_
        refine DrB.take (i := 18) rfl rfl rfl rfl (by kernel_rfl) (by kernel_rfl) (by kernel_rfl) (by kernel_rfl) (fun _ _ _ _ h => h) (OKY.eq (OKY.addI (Has.t rfl) (Has.t rfl) (by first | omega | assumption) (by first | omega | assumption)) ((show isI _ = isI ((ps.length + n0 : Nat) : Int) from isI_eq (by omega)))) ?_
        refine DrB.take (i := 21) rfl rfl rfl rfl (by kernel_rfl) (by kernel_rfl) (by kernel_rfl) (by kernel_rfl) (fun _ _ _ _ h => h) (OKY.mv (Has.t rfl)) ?_
        refine DrB.take (i := 22) rfl rfl rfl rfl (by kernel_rfl) (by kernel_rfl) (by kernel_rfl) (by kernel_rfl) (fun _ _ _ _ h => h) (OKY.nilc (Has.t rfl)) ?_
        refine DrB.take (i := 23) rfl rfl rfl rfl (by kernel_rfl) (by kernel_rfl) (by kernel_rfl) (by kernel_rfl) (fun _ _ _ _ h => h) (OKY.fieldAddr (Has.t rfl) fld94_1 ty92) ?_
        refine DrB.take (i := 25) rfl rfl rfl rfl (by kernel_rfl) (by kernel_rfl) (by kernel_rfl) (by kernel_rfl) (fun _ _ _ _ h => h) (OKY.mv (Has.t rfl)) ?_
        refine DrB.go [] ?_
        refine DrC.st (i := 3) [] rfl rfl rfl (by kernel_rfl) (by kernel_rfl) (OKG.o rfl (OK1.load1 (Has.t rfl) (i := 0) rfl ty92 rfl)) ?_
        refine DrC.st (i := 8) [] rfl rfl rfl (by kernel_rfl) (by kernel_rfl) (OKG.o rfl (OK1.load1 (Has.t rfl) (i := 0) rfl ty92 rfl)) ?_
        refine DrC.st (i := 15) [] rfl rfl rfl (by kernel_rfl) (by kernel_rfl) (OKG.o rfl (OK1.load1 (Has.t rfl) (i := 0) rfl ty92 rfl)) ?_
        refine DrC.st (i := 19) [43] rfl rfl rfl (by kernel_rfl) (by kernel_rfl) (OKG.o rfl (OK1.ixGr sl92 ty22 (Has.t rfl) (Has.t rfl) ⟨by omega, by omega⟩)) ?_
        refine DrC.st (i := 20) [47] rfl rfl rfl (by kernel_rfl) (by kernel_rfl) (OKG.o rfl (OK1.loadGM (Has.t rfl) (i := 2) rfl ty22 hri)) ?_
        refine DrC.st (i := 24) [] rfl rfl rfl (by kernel_rfl) (by kernel_rfl) (OKG.o rfl (OK1.load1 (Has.t rfl) (i := 0) rfl ty92 rfl)) ?_
        refine DrC.st (i := 26) [52] rfl rfl rfl (by kernel_rfl) (by kernel_rfl) (OKG.o rfl (OK1.ixGr sl92 ty22 (Has.t rfl) (Has.t rfl) ⟨by omega, by omega⟩)) ?_
        refine DrC.st (i := 27) [54] rfl rfl rfl (by kernel_rfl) (by kernel_rfl) (OKG.o rfl (OK1.loadGM (Has.t rfl) (i := 2) rfl ty22 hrt)) ?_
        refine DrC.fin [28, 29, 30, 31] (by kernel_rfl) (by kernel_rfl) (fun _ _ _ _ _ h => h) (by kernel_rfl) (by kernel_rfl) (by kernel_rfl) (by kernel_rfl) (by kernel_rfl) (by kernel_rfl) (by kernel_rfl) (by kernel_rfl) (by kernel_rfl) ?_
        refine Ops.cv (Cv.wk (.cons (t := 0) (Has.t rfl) (.cons (t := 3) (Has.t rfl) (.cons (t := 4) (Has.t rfl) (.cons (t := 32) (Has.t rfl) (.cons (t := 39) (Has.t rfl) (.cons (t := 31) (Has.t rfl) (.cons (t := 36) (Has.t rfl) (.cons (t := 48) (Has.t rfl) (.cons (t := 55) (Has.t rfl) .nil)))))))))) ?_
        refine st (OK1.ixGr sl92 ty22 (Has.t rfl) (Has.t rfl) ⟨by omega, by omega⟩) rfl ?_
        refine Ops.storeGM (z := ri) (Has.t rfl) (Has.t rfl) (i := 2) rfl ty22 (by omega) (M' := (_ :: _ :: grM _ _ _ :: _)) rfl ?_
        refine st (OK1.ixGr sl92 ty22 (Has.t rfl) (Has.t rfl) ⟨by omega, by omega⟩) rfl ?_
        refine Ops.storeGM (z := rt) (Has.t rfl) (Has.t rfl) (i := 2) rfl ty22 (by rw [List.length_set]; omega) (M' := (_ :: _ :: grM _ _ _ :: _)) rfl ?_
        refine nl ?_
        refine At.thn (hK8 _ _ ?_); clear hK8
        refine Tri.cv (Cv.wk (.cons (t := 0) (Has.t rfl) (.cons (t := 3) (Has.t rfl) (.cons (t := 4) (Has.t rfl) .nil)))) ?_
        refine Tri.cv (Cv.perm (perm_tailU (pre := [_, _, _]) (swap_perm hrt hri (by omega)))) ?_
        refine Tri.dr ?_
        refine DrG.st (i := 0) [] rfl rfl rfl (by kernel_rfl) (OKG.o rfl (OK1.mv (Has.t rfl))) ?_
        refine DrG.st (i := 1) [] rfl rfl rfl (by kernel_rfl) (OKG.o rfl (OK1.mv (Has.t rfl))) ?_
        refine DrG.st (i := 2) [59] rfl rfl rfl (by kernel_rfl) (OKG.o rfl (OK1.nilc (Has.t rfl))) ?_
        refine DrG.st (i := 3) [60] rfl rfl rfl (by kernel_rfl) (OKG.o rfl (OK1.fieldAddr (Has.t rfl) fld94_0 ty29)) ?_
        refine DrG.st (i := 4) [61] rfl rfl rfl (by kernel_rfl) (OKG.o rfl (OK1.load (Has.t rfl) (i := 0) rfl ty29 rfl (Ss' := [_]) rfl)) ?_
        refine DrG.st (i := 5) [] rfl rfl rfl (by kernel_rfl) (OKG.o rfl (OK1.mv (Has.t rfl))) ?_
        refine DrG.st (i := 6) [63] rfl rfl rfl (by kernel_rfl) (OKG.o rfl (OK1.nilc (Has.t rfl))) ?_
        refine DrG.st (i := 7) [64] rfl rfl rfl (by kernel_rfl) (OKG.o rfl (OK1.fieldAddr (Has.t rfl) fld94_3 ty27)) ?_
        refine DrG.st (i := 8) [65] rfl rfl rfl (by kernel_rfl) (OKG.o rfl (OK1.load1 (Has.t rfl) (i := 0) rfl ty27 rfl)) ?_
        refine DrG.st (i := 9) [62, 66] rfl rfl rfl (by kernel_rfl) (OKG.o rfl (OK1.call (gfp_Neg hq) (.cons (Has.t rfl) (.cons (Has.t rfl) .nil)))) ?_
        refine DrG.fin (n := 10) mixed (by kernel_rfl) (by kernel_rfl) (by kernel_rfl) ?_
        refine Ops.cv (Cv.wk (.cons (t := 0) (Has.t rfl) (.cons (t := 3) (Has.t rfl) (.cons (t := 4) (Has.t rfl) (.cons (t := 58) (Has.t rfl) (.cons (t := 67) (Has.t rfl) .nil)))))) ?_
        refine st (OK1.nilc (Has.t rfl)) rfl ?_
        refine st (OK1.fieldAddr (Has.t rfl) fld94_3 ty27) rfl ?_
        refine Ops.store (Has.t rfl) (Has.t rfl) (i := 0) rfl ty27 rfl rfl (Ss' := [_, _, _, _]) rfl (M' := ((some _, cellM [_, _, _, _]) :: _ :: _ :: _)) rfl ?_
        refine nl ?_
        refine At.thn ?_
        refine hK6 (⟨((rs.set ps.length ri).set (ps.length + n0) rt, _), by rw [List.length_set, List.length_set], swapU_rows hrow hri hrt, swapU_map hri hrt hn2, (if_pos hn2).symm⟩) _ _ (Cv.mem (.cons (t := 0) (Has.t rfl) (.cons (t := 3) (Has.t rfl) (.cons (t := 4) (Has.t rfl) .nil))) ?_)
        · exact wkU_len (by rw [List.length_set, List.length_set])
      · have hc2 := BP.f hc2
        have hn2 : n0 = 0 := (by omega)
        refine Tri.skip ?_
        refine At.thn ?_
        refine hK6 (⟨(rs, det), rfl, hrow, by rw [hn2]; rfl, (if_neg (by omega)).symm⟩) _ _ (Cv.mem (.cons (t := 0) (Has.t rfl) (.cons (t := 3) (Has.t rfl) (.cons (t := 4) (Has.t rfl) .nil))) ?_)
        · rfl
    rintro ⟨⟨rs1, d1⟩, hS⟩
    refine Tri.cv (Cv.wk (.cons (t := 0) (Has.t rfl) (.cons (t := 3) (Has.t rfl) (.cons (t := 4) (Has.t rfl) .nil)))) ?_
    refine Tri.memEq (M' := wkMU q bw gp gt rs1 ps d1) rfl ?_
    simp only [] at hS
    obtain ⟨hl1, hrow1, hm1, hd1⟩ := hS
    obtain ⟨b, hb⟩ : ∃ b, rs1[ps.length]? = some b := ⟨_, List.getElem?_eq_getElem (by omega)⟩
    have hbW := hrow1 b (List.mem_of_getElem? hb)
    have htl : ps.length < rs1.length := Go.Dt.lt_some hb
    refine Tri.seq fun K9 hK9 => ?_
    refine Tri.region ?_
    refine st (OK1.mv (Has.t rfl)) rfl ?_
    refine st (OK1.nilc (Has.t rfl)) rfl ?_
    refine st (OK1.fieldAddr (Has.t rfl) fld94_1 ty92) rfl ?_
    refine st (OK1.load1 (Has.t rfl) (i := 0) rfl ty92 rfl) rfl ?_
    refine st (OK1.mv (Has.t rfl)) rfl ?_
    refine st (OK1.ixGr sl92 ty22 (Has.t rfl) (Has.t rfl) ⟨by omega, by omega⟩) rfl ?_
    refine st (OK1.loadGM (Has.t rfl) (i := 2) rfl ty22 hb) rfl ?_
    refine st (OK1.as (Has.t rfl)) rfl ?_
    refine nl ?_
    refine At.thn (hK9 _ _ ?_); clear hK9
    refine Tri.cv (Cv.wk (.cons (t := 0) (Has.t rfl) (.cons (t := 3) (Has.t rfl) (.cons (t := 4) (Has.t rfl) (.cons (t := 6) (Has.t rfl) .nil))))) ?_
    refine Tri.seq fun K10 hK10 => ?_
    refine Tri.dr ?_
    refine DrG.st (i := 0) [] rfl rfl rfl (by kernel_rfl) (OKG.o rfl (OK1.mv (Has.t rfl))) ?_
    refine DrG.st (i := 1) [] rfl rfl rfl (by kernel_rfl) (OKG.o rfl (OK1.mv (Has.t rfl))) ?_
    refine DrG.st (i := 2) [78] rfl rfl rfl (by kernel_rfl) (OKG.o rfl (OK1.nilc (Has.t rfl))) ?_
    refine DrG.st (i := 3) [79] rfl rfl rfl (by kernel_rfl) (OKG.o rfl (OK1.fieldAddr (Has.t rfl) fld94_0 ty29)) ?_
    refine DrG.st (i := 4) [80] rfl rfl rfl (by kernel_rfl) (OKG.o rfl (OK1.load (Has.t rfl) (i := 0) rfl ty29 rfl (Ss' := [_]) rfl)) ?_
    refine DrG.st (i := 5) [] rfl rfl rfl (by kernel_rfl) (OKG.o rfl (OK1.mv (Has.t rfl))) ?_
    refine DrG.st (i := 6) [82] rfl rfl rfl (by kernel_rfl) (OKG.o rfl (OK1.nilc (Has.t rfl))) ?_
    refine DrG.st (i := 7) [83] rfl rfl rfl (by kernel_rfl) (OKG.o rfl (OK1.fieldAddr (Has.t rfl) fld94_3 ty27)) ?_
    refine DrG.st (i := 8) [84] rfl rfl rfl (by kernel_rfl) (OKG.o rfl (OK1.load1 (Has.t rfl) (i := 0) rfl ty27 rfl)) ?_
    refine DrG.st (i := 9) [] rfl rfl rfl (by kernel_rfl) (OKG.o rfl (OK1.mv (Has.t rfl))) ?_
    refine DrG.st (i := 10) [] rfl rfl rfl (by kernel_rfl) (OKG.o rfl (OK1.loadP1 (Has.t rfl) ty3)) ?_
    refine DrG.st (i := 11) [86, 87] rfl rfl rfl (by kernel_rfl) (OKG.o rfl (OK1.ixGr sl22 ty27 (Has.t rfl) (Has.t rfl) ⟨by omega, by omega⟩)) ?_
    refine DrG.st (i := 12) [88] rfl rfl rfl (by kernel_rfl) (OKG.o rfl (OK1.eq (OK1.loadGM (Has.t rfl) (i := 3 + ps.length) (wkAtU (pre := [_, _, _]) hb) ty27 (getD_some (d := 0) (by omega))) ((show isU _ = isU (b.2.getD col 0) from isU_eq rfl)))) ?_
    refine DrG.st (i := 13) [81, 85, 89] rfl rfl rfl (by kernel_rfl) (OKG.o rfl (OK1.call (gfp_Mul hq) (.cons (Has.t rfl) (.cons (Has.t rfl) (.cons (Has.t rfl) .nil))))) ?_
    refine DrG.fin (n := 14) mixed (by kernel_rfl) (by kernel_rfl) (by kernel_rfl) ?_
    refine Ops.cv (Cv.wk (.cons (t := 0) (Has.t rfl) (.cons (t := 3) (Has.t rfl) (.cons (t := 4) (Has.t rfl) (.cons (t := 6) (Has.t rfl) (.cons (t := 77) (Has.t rfl) (.cons (t := 90) (Has.t rfl) .nil))))))) ?_
    refine st (OK1.nilc (Has.t rfl)) rfl ?_
    refine st (OK1.fieldAddr (Has.t rfl) fld94_3 ty27) rfl ?_
    refine Ops.store (Has.t rfl) (Has.t rfl) (i := 0) rfl ty27 rfl rfl (Ss' := [_, _, _, _]) rfl (M' := ((some _, cellM [_, _, _, _]) :: _ :: _ :: _)) rfl ?_
    refine nl ?_
    refine At.thn (hK10 _ _ ?_); clear hK10
    refine Tri.seq fun K11 hK11 => ?_
    refine Tri.dr ?_
    refine DrG.st (i := 0) [] rfl rfl rfl (by kernel_rfl) (OKG.o rfl (OK1.mv (Has.t rfl))) ?_
    refine DrG.st (i := 1) [93] rfl rfl rfl (by kernel_rfl) (OKG.o rfl (OK1.nilc (Has.t rfl))) ?_
    refine DrG.st (i := 2) [94] rfl rfl rfl (by kernel_rfl) (OKG.o rfl (OK1.fieldAddr (Has.t rfl) fld94_0 ty29)) ?_
    refine DrG.st (i := 3) [95] rfl rfl rfl (by kernel_rfl) (OKG.o rfl (OK1.load (Has.t rfl) (i := 0) rfl ty29 rfl (Ss' := [_]) rfl)) ?_
    refine DrG.st (i := 4) [] rfl rfl rfl (by kernel_rfl) (OKG.o rfl (OK1.mv (Has.t rfl))) ?_
    refine DrG.st (i := 5) [] rfl rfl rfl (by kernel_rfl) (OKG.o rfl (OK1.loadP1 (Has.t rfl) ty3)) ?_
    refine DrG.st (i := 6) [97, 98] rfl rfl rfl (by kernel_rfl) (OKG.o rfl (OK1.ixGr sl22 ty27 (Has.t rfl) (Has.t rfl) ⟨by omega, by omega⟩)) ?_
    refine DrG.st (i := 7) [99] rfl rfl rfl (by kernel_rfl) (OKG.o rfl (OK1.eq (OK1.loadGM (Has.t rfl) (i := 3 + ps.length) (wkAtU (pre := [_, _, _]) hb) ty27 (getD_some (d := 0) (by omega))) ((show isU _ = isU (b.2.getD col 0) from isU_eq rfl)))) ?_
    refine DrG.fin (n := 8) mixed (by kernel_rfl) (by kernel_rfl) (by kernel_rfl) ?_
    refine Ops.cv (Cv.wk (.cons (t := 0) (Has.t rfl) (.cons (t := 3) (Has.t rfl) (.cons (t := 4) (Has.t rfl) (.cons (t := 6) (Has.t rfl) (.cons (t := 96) (Has.t rfl) (.cons (t := 100) (Has.t rfl) .nil))))))) ?_
    refine st (OK1.call (gfp_Inv hq hp2) (.cons (Has.t rfl) (.cons (Has.t rfl) .nil))) rfl ?_
    refine st (OK1.as (Has.t rfl)) rfl ?_
    refine nl ?_
    refine At.thn (hK11 _ _ ?_); clear hK11
    refine Tri.seq fun K12 hK12 => ?_
    refine Tri.seq fun K13 hK13 => ?_
    refine Tri.region ?_
    refine st (OK1.mv (Has.t rfl)) rfl ?_
    refine st (OK1.len sl22 (Has.t rfl)) rfl ?_
    refine st (OK1.mv (Has.cI 0 rfl)) rfl ?_
    refine nl ?_
    refine At.thn (hK13 _ _ ?_); clear hK13
    refine Tri.block ?_
    refine Tri.loopF [0, 3, 4, 6, 7, 103] (fun (z : { k : Nat // k ≤ b.2.length }) => match z with | ⟨k, hk⟩ => [(104, isI (k : Int))]) (fun M => fun (z : { k : Nat // k ≤ b.2.length }) => match z with | ⟨k, hk⟩ => (wk0U q bw gp gt rs1.length ps (d1 * b.2.getD col 0 % fp q) :: grM isI gp (pv ps) :: grM rowVU gt rs1 :: (rs1.set ps.length (b.1, mixL (scaleL (fp q) (inv (fp q) (b.2.getD col 0)) b.2) b.2 k)).map rowMU)) (fun (z : { k : Nat // k ≤ b.2.length }) => match z with | ⟨k, hk⟩ => b.2.length - k) (⟨0, Nat.zero_le _⟩) (Cv.mem (.cons (t := 104) (Has.t' rfl ?_) (.cons (t := 0) (Has.t rfl) (.cons (t := 3) (Has.t rfl) (.cons (t := 4) (Has.t rfl) (.cons (t := 6) (Has.t rfl) (.cons (t := 7) (Has.t rfl) (.cons (t := 103) (Has.t rfl) .nil))))))) ?_) ?_
    · rfl
    · exact mixU_start (pre := [_, _, _]) hb
    rintro ⟨k, hk⟩ K14 hK14
    refine Tri.cv (Cv.wk (.cons (t := 104) (Has.t rfl) (.cons (t := 0) (Has.t rfl) (.cons (t := 3) (Has.t rfl) (.cons (t := 4) (Has.t rfl) (.cons (t := 6) (Has.t rfl) (.cons (t := 7) (Has.t rfl) (.cons (t := 103) (Has.t rfl) .nil)))))))) ?_
    refine Tri.memEq (M' := (wk0U q bw gp gt rs1.length ps (d1 * b.2.getD col 0 % fp q) :: grM isI gp (pv ps) :: grM rowVU gt rs1 :: (rs1.set ps.length (b.1, mixL (scaleL (fp q) (inv (fp q) (b.2.getD col 0)) b.2) b.2 k)).map rowMU)) rfl ?_
    have hset : (rs1.set ps.length (b.1, mixL (scaleL (fp q) (inv (fp q) (b.2.getD col 0)) b.2) b.2 k))[ps.length]? = some (b.1, mixL (scaleL (fp q) (inv (fp q) (b.2.getD col 0)) b.2) b.2 k) := List.getElem?_set_self htl
    refine Tri.seq fun K15 hK15 => ?_
    refine Tri.region ?_
    refine st (OK1.ltI (Has.t rfl) (Has.t rfl)) rfl ?_
    refine nl ?_
    refine At.thn (hK15 _ _ ?_); clear hK15
    refine Tri.seq fun K16 hK16 => ?_
    refine Tri.cond (Has.t rfl) (fun hc3 => ?_) (fun hc3 => ?_)
    · have hc3 := BP.t hc3
      refine Tri.skip ?_
      refine At.thn (hK16 _ _ ?_); clear hK16
      refine Tri.seq fun K17 hK17 => ?_
      refine Tri.block ?_
      refine Tri.seq fun K18 hK18 => ?_
      refine Tri.region ?_
      refine st (OK1.mv (Has.t rfl)) rfl ?_
      refine st (OK1.as (Has.t rfl)) rfl ?_
      refine nl ?_
      refine At.thn (hK18 _ _ ?_); clear hK18
      refine Tri.dr ?_
      refine DrG.st (i := 0) [] rfl rfl rfl (by kernel_rfl) (OKG.o rfl (OK1.mv (Has.t rfl))) ?_
      refine DrG.st (i := 1) [] rfl rfl rfl (by kernel_rfl) (OKG.o rfl (OK1.mv (Has.t rfl))) ?_
      refine DrG.st (i := 2) [] rfl rfl rfl (by kernel_rfl) (OKG.o rfl (OK1.mv (Has.t rfl))) ?_
      refine DrG.st (i := 3) [109] rfl rfl rfl (by kernel_rfl) (OKG.o rfl (OK1.nilc (Has.t rfl))) ?_
      refine DrG.st (i := 4) [110] rfl rfl rfl (by kernel_rfl) (OKG.o rfl (OK1.fieldAddr (Has.t rfl) fld94_0 ty29)) ?_
      refine DrG.st (i := 5) [111] rfl rfl rfl (by kernel_rfl) (OKG.o rfl (OK1.load (Has.t rfl) (i := 0) rfl ty29 rfl (Ss' := [_]) rfl)) ?_
      refine DrG.st (i := 6) [] rfl rfl rfl (by kernel_rfl) (OKG.o rfl (OK1.mv (Has.t rfl))) ?_
      refine DrG.st (i := 7) [] rfl rfl rfl (by kernel_rfl) (OKG.o rfl (OK1.mv (Has.t rfl))) ?_
      refine DrG.st (i := 8) [113, 114] rfl rfl rfl (by kernel_rfl) (OKG.o rfl (OK1.ixGr sl22 ty27 (Has.t rfl) (Has.t rfl) ⟨by omega, by omega⟩)) ?_
      refine DrG.st (i := 9) [115] rfl rfl rfl (by kernel_rfl) (OKG.o rfl (OK1.loadGM (Has.t rfl) (i := 3 + ps.length) (wkAtU (pre := [_, _, _]) (r := (b.1, mixL (scaleL (fp q) (inv (fp q) (b.2.getD col 0)) b.2) b.2 k)) hset) ty27 (mixL_at (scaleL_len _ _ _) (by omega)))) ?_
      refine DrG.st (i := 10) [] rfl rfl rfl (by kernel_rfl) (OKG.o rfl (OK1.mv (Has.t rfl))) ?_
      refine DrG.st (i := 11) [112, 116, 117] rfl rfl rfl (by kernel_rfl) (OKG.o rfl (OK1.call (gfp_Mul hq) (.cons (Has.t rfl) (.cons (Has.t rfl) (.cons (Has.t rfl) .nil))))) ?_
      refine DrG.fin (n := 12) mixed (by kernel_rfl) (by kernel_rfl) (by kernel_rfl) ?_
      refine Ops.cv (Cv.wk (.cons (t := 0) (Has.t rfl) (.cons (t := 3) (Has.t rfl) (.cons (t := 4) (Has.t rfl) (.cons (t := 6) (Has.t rfl) (.cons (t := 7) (Has.t rfl) (.cons (t := 103) (Has.t rfl) (.cons (t := 104) (Has.t rfl) (.cons (t := 105) (Has.t rfl) (.cons (t := 106) (Has.t rfl) (.cons (t := 8) (Has.t rfl) (.cons (t := 107) (Has.t rfl) (.cons (t := 108) (Has.t rfl) (.cons (t := 109) (Has.t rfl) (.cons (t := 110) (Has.t rfl) (.cons (t := 111) (Has.t rfl) (.cons (t := 112) (Has.t rfl) (.cons (t := 113) (Has.t rfl) (.cons (t := 114) (Has.t rfl) (.cons (t := 115) (Has.t rfl) (.cons (t := 116) (Has.t rfl) (.cons (t := 117) (Has.t rfl) (.cons (t := 118) (Has.t rfl) .nil))))))))))))))))))))))) ?_
      refine st (OK1.ixGr sl22 ty27 (Has.t rfl) (Has.t rfl) ⟨by omega, by omega⟩) rfl ?_
      refine Ops.storeGM (z := b.2.getD k 0 * inv (fp q) (b.2.getD col 0) % fp q) (Has.t rfl) (Has.t rfl) (i := 3 + ps.length) (wkAtU (pre := [_, _, _]) (r := (b.1, mixL (scaleL (fp q) (inv (fp q) (b.2.getD col 0)) b.2) b.2 k)) hset) ty27 (by rw [mixL_len (scaleL_len _ _ _) (by omega)]; omega) (M' := (_ :: _ :: _ :: (rs1.set ps.length (b.1, mixL (scaleL (fp q) (inv (fp q) (b.2.getD col 0)) b.2) b.2 (k + 1))).map rowMU)) (wkStoreU (pre := [_, _, _]) (X := (b.1, mixL (scaleL (fp q) (inv (fp q) (b.2.getD col 0)) b.2) b.2 k)) hset (mixL_set (scaleL_len _ _ _) (by omega) (scaleL_at _ _ (by omega)))) ?_
      refine nl ?_
      refine At.bln ?_
      refine At.thn (hK17 _ _ ?_); clear hK17
      refine Tri.region ?_
      refine st (OK1.addI (Has.t rfl) (Has.cI 1 rfl) (by first | omega | assumption) (by first | omega | assumption)) rfl ?_
      refine st (OK1.mv (Has.t rfl)) rfl ?_
      refine nl ?_
      refine At.thn ?_
      refine hK14 (⟨k + 1, by omega⟩) _ _ ?_ (Cv.mem (.cons (t := 104) (Has.t' rfl ?_) (.cons (t := 0) (Has.t rfl) (.cons (t := 3) (Has.t rfl) (.cons (t := 4) (Has.t rfl) (.cons (t := 6) (Has.t rfl) (.cons (t := 7) (Has.t rfl) (.cons (t := 103) (Has.t rfl) .nil))))))) ?_)
      · show b.2.length - (k + 1) < b.2.length - k; omega
      · exact isI_eq (by omega)
      · rfl
    · have hc3 := BP.f hc3
      refine Tri.exit ?_
      refine At.the ?_
      refine At.the ?_
      refine At.blh ?_
      refine At.thn (hK12 _ _ ?_); clear hK12
      refine Tri.seq fun K19 hK19 => ?_
      refine Tri.seq fun K20 hK20 => ?_
      refine Tri.region ?_
      refine st (OK1.mv (Has.t rfl)) rfl ?_
      refine st (OK1.nilc (Has.t rfl)) rfl ?_
      refine st (OK1.fieldAddr (Has.t rfl) fld94_1 ty92) rfl ?_
      refine st (OK1.load1 (Has.t rfl) (i := 0) rfl ty92 rfl) rfl ?_
      refine st (OK1.len sl92 (Has.t rfl)) rfl ?_
      refine st (OK1.mv (Has.cI 0 rfl)) rfl ?_
      refine nl ?_
      refine At.thn (hK20 _ _ ?_); clear hK20
      refine Tri.cv (Cv.wk (.cons (t := 0) (Has.t rfl) (.cons (t := 3) (Has.t rfl) (.cons (t := 4) (Has.t rfl) (.cons (t := 6) (Has.t rfl) (.cons (t := 124) (Has.t rfl) (.cons (t := 125) (Has.t rfl) (.cons (t := 126) (Has.t rfl) .nil)))))))) ?_
      refine Tri.block ?_
      refine Tri.loopF [0, 3, 4, 6, 124, 125] (fun (z : { z : Nat × List RowU // z.1 ≤ rs1.length ∧ TakI (fp q) rs1 ps.length col (scaleL (fp q) (inv (fp q) (b.2.getD col 0)) b.2) z.1 z.2 }) => match z with | ⟨(r, rs3), hI⟩ => [(126, isI (r : Int))]) (fun M => fun (z : { z : Nat × List RowU // z.1 ≤ rs1.length ∧ TakI (fp q) rs1 ps.length col (scaleL (fp q) (inv (fp q) (b.2.getD col 0)) b.2) z.1 z.2 }) => match z with | ⟨(r, rs3), hI⟩ => wkMU q bw gp gt rs3 ps (d1 * b.2.getD col 0 % fp q)) (fun (z : { z : Nat × List RowU // z.1 ≤ rs1.length ∧ TakI (fp q) rs1 ps.length col (scaleL (fp q) (inv (fp q) (b.2.getD col 0)) b.2) z.1 z.2 }) => match z with | ⟨(r, rs3), hI⟩ => rs1.length - r) (⟨(0, rs1.set ps.length (b.1, scaleL (fp q) (inv (fp q) (b.2.getD col 0)) b.2)), Nat.zero_le _, TakI.start hb⟩) (Cv.mem (.cons (t := 126) (Has.t' rfl ?_) (.cons (t := 0) (Has.t rfl) (.cons (t := 3) (Has.t rfl) (.cons (t := 4) (Has.t rfl) (.cons (t := 6) (Has.t rfl) (.cons (t := 124) (Has.t rfl) (.cons (t := 125) (Has.t rfl) .nil))))))) ?_) ?_
      · rfl
      · exact (wkU_round hb (scaleL_len _ _ _) (by omega)).trans (wkU_len (by rw [List.length_set]))
      rintro ⟨⟨r, rs3⟩, hI⟩ K21 hK21
      refine Tri.cv (Cv.wk (.cons (t := 126) (Has.t rfl) (.cons (t := 0) (Has.t rfl) (.cons (t := 3) (Has.t rfl) (.cons (t := 4) (Has.t rfl) (.cons (t := 6) (Has.t rfl) (.cons (t := 124) (Has.t rfl) (.cons (t := 125) (Has.t rfl) .nil)))))))) ?_
      refine Tri.memEq (M' := wkMU q bw gp gt rs3 ps (d1 * b.2.getD col 0 % fp q)) rfl ?_
      simp only [] at hI
      obtain ⟨hr0, hT⟩ := hI
      have hl3 := hT.len
      refine Tri.seq fun K22 hK22 => ?_
      refine Tri.region ?_
      refine st (OK1.ltI (Has.t rfl) (Has.t rfl)) rfl ?_
      refine nl ?_
      refine At.thn (hK22 _ _ ?_); clear hK22
      refine Tri.seq fun K23 hK23 => ?_
      refine Tri.cond (Has.t rfl) (fun hc4 => ?_) (fun hc4 => ?_)
      · have hc4 := BP.t hc4
        obtain ⟨x, hr⟩ : ∃ x, rs3[r]? = some x := ⟨_, List.getElem?_eq_getElem (by omega)⟩
        refine Tri.skip ?_
        refine At.thn (hK23 _ _ ?_); clear hK23
        refine Tri.seq fun K24 hK24 => ?_
        refine Tri.block ?_
        refine Tri.seq fun K25 hK25 => ?_
        refine Tri.region ?_
        refine st (OK1.mv (Has.t rfl)) rfl ?_
        refine st (OK1.ixGr sl92 ty22 (Has.t rfl) (Has.t rfl) ⟨by omega, by omega⟩) rfl ?_
        refine st (OK1.loadGM (Has.t rfl) (i := 2) rfl ty22 hr) rfl ?_
        refine st (OK1.as (Has.t rfl)) rfl ?_
        refine st (OK1.as (Has.t rfl)) rfl ?_
        refine nl ?_
        refine At.thn (hK25 _ _ ?_); clear hK25
        refine Tri.seq fun K26 hK26 => ?_
        refine Tri.region ?_
        refine st (OK1.mv (Has.t rfl)) rfl ?_
        refine st (OK1.mv (Has.t rfl)) rfl ?_
        refine st (OK1.neI (Has.t rfl) (Has.t rfl)) rfl ?_
        refine nl ?_
        refine At.thn (hK26 _ _ ?_); clear hK26
        refine Tri.cond (Has.t rfl) (fun hc5 => ?_) (fun hc5 => ?_)
        · have hc5 := BP.t hc5
          have hrt2 : r ≠ ps.length := (by omega)
          have hb3 : rs3[ps.length]? = some (b.1, scaleL (fp q) (inv (fp q) (b.2.getD col 0)) b.2) := hT.top hb
          have hxr2 : rs1[r]? = some x := hT.here (by omega) hr hrt2
          have hxW : x.2.length = W := hrow1 x (List.mem_of_getElem? hxr2)
          refine Tri.region ?_
          refine st (OK1.mv (Has.t rfl)) rfl ?_
          refine st (OK1.mv (Has.t rfl)) rfl ?_
          refine st (OK1.eq (OK1.mv (Has.t rfl)) ((show isGr _ _ = isGr b.1 (scaleL (fp q) (inv (fp q) (b.2.getD col 0)) b.2).length from isGr_eq (by rw [scaleL_len])))) rfl ?_
          refine st (OK1.mv (Has.t rfl)) rfl ?_
          refine st (OK1.loadP1 (Has.t rfl) ty3) rfl ?_
          refine st (OK1.ixGr sl22 ty27 (Has.t rfl) (Has.t rfl) ⟨by omega, by omega⟩) rfl ?_
          refine st (OK1.eq (OK1.loadGM (Has.t rfl) (i := 3 + r) (wkAtU (pre := [_, _, _]) hr) ty27 (getD_some (d := 0) (by omega))) ((show isU _ = isU (x.2.getD col 0) from isU_eq rfl))) rfl ?_
          refine Ops.callX (fmat_take hq (i := r) (t := ps.length) (r := x) (b := (b.1, scaleL (fp q) (inv (fp q) (b.2.getD col 0)) b.2)) hr hb3 hrt2 (by rw [scaleL_len]; omega) (by omega)) (perm0 _) (.cons (Has.t rfl) (.cons (Has.t rfl) (.cons (Has.t rfl) (.cons (Has.t rfl) .nil)))) rfl ?_
          rintro _ _ ⟨rfl, rfl⟩
          refine Ops.memEq (M' := wkMU q bw gp gt (rs3.set r (x.1, takeL (fp q) (x.2.getD col 0) (scaleL (fp q) (inv (fp q) (b.2.getD col 0)) b.2) x.2)) ps (d1 * b.2.getD col 0 % fp q)) (List.append_nil _) ?_
          refine nl ?_
          refine At.bln ?_
          refine At.thn (hK24 _ _ ?_); clear hK24
          refine Tri.region ?_
          refine st (OK1.addI (Has.t rfl) (Has.cI 1 rfl) (by first | omega | assumption) (by first | omega | assumption)) rfl ?_
          refine st (OK1.mv (Has.t rfl)) rfl ?_
          refine nl ?_
          refine At.thn ?_
          refine hK21 (⟨(r + 1, rs3.set r (x.1, takeL (fp q) (x.2.getD col 0) (scaleL (fp q) (inv (fp q) (b.2.getD col 0)) b.2) x.2)), by show r + 1 ≤ _; omega, hT.step (by omega) hr hrt2⟩) _ _ ?_ (Cv.mem (.cons (t := 126) (Has.t' rfl ?_) (.cons (t := 0) (Has.t rfl) (.cons (t := 3) (Has.t rfl) (.cons (t := 4) (Has.t rfl) (.cons (t := 6) (Has.t rfl) (.cons (t := 124) (Has.t rfl) (.cons (t := 125) (Has.t rfl) .nil))))))) ?_)
          · show rs1.length - (r + 1) < rs1.length - r; omega
          · exact isI_eq (by omega)
          · rfl
        · have hc5 := BP.f hc5
          have hrt2 : r = ps.length := (by omega)
          refine Tri.skip ?_
          refine At.bln ?_
          refine At.thn (hK24 _ _ ?_); clear hK24
          refine Tri.region ?_
          refine st (OK1.addI (Has.t rfl) (Has.cI 1 rfl) (by first | omega | assumption) (by first | omega | assumption)) rfl ?_
          refine st (OK1.mv (Has.t rfl)) rfl ?_
          refine nl ?_
          refine At.thn ?_
          refine hK21 (⟨(r + 1, rs3), by show r + 1 ≤ _; omega, hT.skip (by omega)⟩) _ _ ?_ (Cv.mem (.cons (t := 126) (Has.t' rfl ?_) (.cons (t := 0) (Has.t rfl) (.cons (t := 3) (Has.t rfl) (.cons (t := 4) (Has.t rfl) (.cons (t := 6) (Has.t rfl) (.cons (t := 124) (Has.t rfl) (.cons (t := 125) (Has.t rfl) .nil))))))) ?_)
          · show rs1.length - (r + 1) < rs1.length - r; omega
          · exact isI_eq (by omega)
          · rfl
      · have hc4 := BP.f hc4
        refine Tri.exit ?_
        refine At.the ?_
        refine At.the ?_
        refine At.blh ?_
        refine At.thn (hK19 _ _ ?_); clear hK19
        refine Tri.cv (Cv.wk (.cons (t := 0) (Has.t rfl) (.cons (t := 3) (Has.t rfl) .nil))) ?_
        refine Tri.dry mixed ?_
        refine DrB.take (i := 0) rfl rfl rfl rfl (by kernel_rfl) (by kernel_rfl) (by kernel_rfl) (by kernel_rfl) (fun _ _ _ _ h => h) (OKY.mv (Has.t rfl)) ?_
        refine DrB.take (i := 1) rfl rfl rfl rfl (by kernel_rfl) (by kernel_rfl) (by kernel_rfl) (by kernel_rfl) (fun _ _ _ _ h => h) (OKY.mv (Has.t rfl)) ?_
        refine DrB.take (i := 2) rfl rfl rfl rfl (by kernel_rfl) (by kernel_rfl) (by kernel_rfl) (by kernel_rfl) (fun _ _ _ _ h => h) (OKY.nilc (Has.t rfl)) ?_
        refine DrB.take (i := 3) rfl rfl rfl rfl (by kernel_rfl) (by kernel_rfl) (by kernel_rfl) (by kernel_rfl) (fun _ _ _ _ h => h) (OKY.fieldAddr (Has.t rfl) fld94_2 ty32) ?_
        refine DrB.go [] ?_
        refine DrC.st (i := 4) [] rfl rfl rfl (by kernel_rfl) (by kernel_rfl) (OKG.o rfl (OK1.load1 (Has.t rfl) (i := 0) rfl ty32 rfl)) ?_
        refine DrC.st (i := 5) [] rfl rfl rfl (by kernel_rfl) (by kernel_rfl) (OKG.o rfl (OK1.loadP1 (Has.t rfl) ty3)) ?_
        refine DrC.st (i := 6) [148] rfl rfl rfl (by kernel_rfl) (by kernel_rfl) (OKG.o rfl (OK1.buildS [isI 0] sl32 ty3 zero3 (fun _ _ => ⟨⟨rfl, by decide, by decide⟩, trivial⟩) rfl rfl (.cons (Has.t rfl) rfl rfl rfl .nil) rfl (S := SlM isI [(col : Int)]) rfl)) ?_
        refine DrC.fin [7, 8, 9, 10] (by kernel_rfl) (by kernel_rfl) (fun _ _ _ _ _ h => h) (by kernel_rfl) (by kernel_rfl) (by kernel_rfl) (by kernel_rfl) (by kernel_rfl) (by kernel_rfl) (by kernel_rfl) (by kernel_rfl) (by kernel_rfl) ?_
        refine Ops.cv (Cv.wk (.cons (t := 143) (Has.t rfl) (.cons (t := 147) (Has.t rfl) (.cons (t := 149) (Has.t rfl) .nil)))) ?_
        refine Ops.appendG (f := isI) (u := 0) sl32 ty3 zero3 (fun _ _ => ⟨⟨rfl, by decide, by decide⟩, trivial⟩) (fun _ => inferInstance) by3 (Has.t rfl) (i := 1) rfl (Has.t rfl) (by rw [hpv]; show ps.length + 1 ≤ _; omega) (by simp) rfl fun gr1 => ?_
        refine Ops.memEq (M' := (_ :: grM _ _ _ :: _ :: _)) rfl ?_
        refine st (OK1.nilc (Has.t rfl)) rfl ?_
        refine st (OK1.fieldAddr (Has.t rfl) fld94_2 ty32) rfl ?_
        refine Ops.store (Has.t rfl) (Has.t rfl) (i := 0) rfl ty32 rfl rfl (Ss' := [_, _, _, _]) rfl (M' := ((some _, cellM [_, _, _, _]) :: _ :: _ :: _)) rfl ?_
        refine nl ?_
        refine rtX0 (.inr rfl) Try.results118 rfl ?_
        have hfc := fcol_yes (p := fp q) (det := det) hn0 hn1 hm1 hd1 hb (hT.mono (by omega))
        exact ⟨gr1, rs3, rfl, (wkU_app rfl rfl).trans (by rw [hfc]), by rw [hfc]⟩
end Go.Proofs.Ytfoclelageohiaa
/- Contracts: a matrix is reduced. -/
namespace Go.Proofs.Ytfoclelageohiaa
open Go.En Go.RowKit
set_option linter.unusedVariables false
set_option maxRecDepth 10000
open Go.Gf
open Go.Mz
open Go.Mu
open Go.Fe
set_option maxHeartbeats 4000000 in
theorem fmat_reduced {q R C D : Nat} {xs ys : List Nat} (hq : q < 4294967296) (hp2 : 2 ≤ fp q) (hR : R ≤ 64) (hC : C ≤ 64) (hD : D ≤ 64) (hxl : xs.length = R * C) (hyl : ys.length = R * D) : Ctr Try.prog 67 [Flat [isU q], isMW R C xs, isMW R D ys] (wkFU q (fred (fp q) ⟨rowsU (fp q) R C D xs ys, [], 1 % fp q⟩ C)) := by
  refine Ctr.intro Try.func67 rfl (by kernel_rfl) Try.ntmps67 rfl fun w0 F0 => ?_
  refine Tri.cv (Cv.wk (.cons (t := 0) (Has.t rfl) (.cons (t := 1) (Has.t rfl) (.cons (t := 2) (Has.t rfl) .nil)))) ?_
  refine Tri.seq fun K1 hK1 => ?_
  refine Tri.region ?_
  refine Ops.box (Has.t rfl) rfl fun b1 => ?_
  refine Ops.box (Has.t rfl) rfl fun b2 => ?_
  refine Ops.box (Has.t rfl) rfl fun b3 => ?_
  refine st (OK1.as Has.cP) rfl ?_
  refine nl ?_
  refine At.thn (hK1 _ _ ?_); clear hK1
  refine Tri.seq fun K2 hK2 => ?_
  refine Tri.region ?_
  refine Ops.cv (Cv.freezeBox (t := 4) (i := 1) rfl rfl rfl) ?_
  refine Ops.memEq (M' := [_, _]) rfl ?_
  refine Ops.cv (Cv.wk (.cons (t := 0) (Has.t rfl) (.cons (t := 1) (Has.t rfl) (.cons (t := 2) (Has.t rfl) (.cons (t := 3) (Has.t rfl) (.cons (t := 4) (Has.t rfl) (.cons (t := 5) (Has.t rfl) (.cons (t := 6) (Has.t rfl) .nil)))))))) ?_
  refine st (OK1.load (Has.t rfl) (i := 1) rfl ty29 rfl (Ss' := [_]) rfl) rfl ?_
  refine st (OK1.loadP (Has.t rfl) ty24 rfl (Ss' := [_, _, _]) rfl) rfl ?_
  refine st (OK1.load (Has.t rfl) (i := 0) rfl ty24 rfl (Ss' := [_, _, _]) rfl) rfl ?_
  refine Ops.cv (Cv.drop ((.cons _ (.cons _ .slnil)))) ?_
  refine Ops.cv (Cv.wk (.cons (t := 0) (Has.t rfl) (.cons (t := 1) (Has.t rfl) (.cons (t := 2) (Has.t rfl) (.cons (t := 4) (Has.t rfl) (.cons (t := 6) (Has.t rfl) (.cons (t := 9) (Has.t rfl) (.cons (t := 10) (Has.t rfl) (.cons (t := 11) (Has.t rfl) .nil))))))))) ?_
  refine Ops.callX (fmat_begun hR hC hD hxl hyl) (List.Perm.refl _) (.cons (Has.t rfl) (.cons (Has.t rfl) (.cons (Has.t rfl) .nil))) rfl ?_
  rintro _ _ ⟨bw, gt, rs0, rfl, rfl, hrs0⟩
  refine Ops.memEq (M' := wkMU q bw Gr.nil gt rs0 [] (1 % fp q)) (List.append_nil _) ?_
  refine st (OK1.as (Has.t rfl)) rfl ?_
  refine nl ?_
  refine At.thn (hK2 _ _ ?_); clear hK2
  refine Tri.cv (Cv.wk (.cons (t := 4) (Has.t rfl) (.cons (t := 6) (Has.t rfl) (.cons (t := 7) (Has.t rfl) .nil)))) ?_
  refine Tri.seq fun K3 hK3 => ?_
  refine Tri.seq fun K4 hK4 => ?_
  refine Tri.region ?_
  refine st (OK1.as (Has.cI 0 rfl)) rfl ?_
  refine nl ?_
  refine At.thn (hK4 _ _ ?_); clear hK4
  refine Tri.block ?_
  refine Tri.loopF [4, 6, 7] (fun (z : { z : Nat × Gr Int × List RowU // z.1 ≤ C ∧ z.2.2.map Prod.snd = (fred (fp q) ⟨rowsU (fp q) R C D xs ys, [], 1 % fp q⟩ z.1).rows }) => match z with | ⟨(c, gp, rs), hI⟩ => [(8, isI (c : Int))]) (fun M => fun (z : { z : Nat × Gr Int × List RowU // z.1 ≤ C ∧ z.2.2.map Prod.snd = (fred (fp q) ⟨rowsU (fp q) R C D xs ys, [], 1 % fp q⟩ z.1).rows }) => match z with | ⟨(c, gp, rs), hI⟩ => wkMU q bw gp gt rs (fred (fp q) ⟨rowsU (fp q) R C D xs ys, [], 1 % fp q⟩ c).ps (fred (fp q) ⟨rowsU (fp q) R C D xs ys, [], 1 % fp q⟩ c).det) (fun (z : { z : Nat × Gr Int × List RowU // z.1 ≤ C ∧ z.2.2.map Prod.snd = (fred (fp q) ⟨rowsU (fp q) R C D xs ys, [], 1 % fp q⟩ z.1).rows }) => match z with | ⟨(c, gp, rs), hI⟩ => C - c) (⟨(0, Gr.nil, rs0), Nat.zero_le _, hrs0⟩) (Cv.mem (.cons (t := 8) (Has.t' rfl ?_) (.cons (t := 4) (Has.t rfl) (.cons (t := 6) (Has.t rfl) (.cons (t := 7) (Has.t rfl) .nil)))) ?_) ?_
  · rfl
  · rfl
  rintro ⟨⟨c, gp, rs⟩, hI⟩ K5 hK5
  refine Tri.cv (Cv.wk (.cons (t := 8) (Has.t rfl) (.cons (t := 4) (Has.t rfl) (.cons (t := 6) (Has.t rfl) (.cons (t := 7) (Has.t rfl) .nil))))) ?_
  refine Tri.memEq (M' := wkMU q bw gp gt rs (fred (fp q) ⟨rowsU (fp q) R C D xs ys, [], 1 % fp q⟩ c).ps (fred (fp q) ⟨rowsU (fp q) R C D xs ys, [], 1 % fp q⟩ c).det) rfl ?_
  simp only [] at hI
  obtain ⟨hc, hrs⟩ := hI
  have hok := fred_ok (p := fp q) (W := C + D) (rowsU_len (fp q) R C D xs ys) (fun r hr => rowsU_row hr) (1 % fp q) c
  have hrl : rs.length = R := by rw [← List.length_map (f := Prod.snd), hrs]; exact hok.1
  have hpl := hok.2.2
  have hpv := pv_len (fred (fp q) ⟨rowsU (fp q) R C D xs ys, [], 1 % fp q⟩ c).ps
  have hrow : ∀ r ∈ rs, r.2.length = C + D := fun r hr => hok.2.1 r.2 (by rw [← hrs]; exact List.mem_map.2 ⟨r, hr, rfl⟩)
  refine Tri.seq fun K6 hK6 => ?_
  refine Tri.seq fun K7 hK7 => ?_
  refine Tri.dr ?_
  refine DrG.st (i := 0) [] rfl rfl rfl (by kernel_rfl) (OKG.o rfl (OK1.mv (Has.t rfl))) ?_
  refine DrG.st (i := 1) [] rfl rfl rfl (by kernel_rfl) (OKG.o rfl (OK1.fieldAddrP (Has.t rfl) fld24_1 ty3 (Ss' := [_, _]) rfl)) ?_
  refine DrG.st (i := 2) [14] rfl rfl rfl (by kernel_rfl) (OKG.o rfl (OK1.loadP1 (Has.t rfl) ty3)) ?_
  refine DrG.st (i := 3) [13, 15] rfl rfl rfl (by kernel_rfl) (OKG.o rfl (OK1.ltI (Has.t rfl) (Has.t rfl))) ?_
  refine DrG.st (i := 4) [16] rfl rfl rfl (by kernel_rfl) (OKG.o rfl (OK1.mv (Has.t rfl))) ?_
  refine DrG.st (i := 5) [17] rfl rfl rfl (by kernel_rfl) (OKG.T rfl rfl rfl (fun hg => have hg' := BP.t hg; OK1.mv (Has.t rfl))) ?_
  refine DrG.st (i := 6) [17, 18] rfl rfl rfl (by kernel_rfl) (OKG.T rfl rfl rfl (fun hg => have hg' := BP.t hg; OK1.nilc (Has.g rfl hg))) ?_
  refine DrG.st (i := 7) [17, 19] rfl rfl rfl (by kernel_rfl) (OKG.T rfl rfl rfl (fun hg => have hg' := BP.t hg; OK1.fieldAddr (Has.g rfl hg) fld94_2 ty32)) ?_
  refine DrG.st (i := 8) [17, 20] rfl rfl rfl (by kernel_rfl) (OKG.T rfl rfl rfl (fun hg => have hg' := BP.t hg; OK1.load1 (Has.g rfl hg) (i := 0) rfl ty32 rfl)) ?_
  refine DrG.st (i := 9) [17, 21] rfl rfl rfl (by kernel_rfl) (OKG.T rfl rfl rfl (fun hg => have hg' := BP.t hg; OK1.len sl32 (Has.g rfl hg))) ?_
  refine DrG.st (i := 10) [17] rfl rfl rfl (by kernel_rfl) (OKG.T rfl rfl rfl (fun hg => have hg' := BP.t hg; OK1.mv (Has.t rfl))) ?_
  refine DrG.st (i := 11) [17, 23] rfl rfl rfl (by kernel_rfl) (OKG.T rfl rfl rfl (fun hg => have hg' := BP.t hg; OK1.nilc (Has.g rfl hg))) ?_
  refine DrG.st (i := 12) [17, 24] rfl rfl rfl (by kernel_rfl) (OKG.T rfl rfl rfl (fun hg => have hg' := BP.t hg; OK1.fieldAddr (Has.g rfl hg) fld94_1 ty92)) ?_
  refine DrG.st (i := 13) [17, 25] rfl rfl rfl (by kernel_rfl) (OKG.T rfl rfl rfl (fun hg => have hg' := BP.t hg; OK1.load1 (Has.g rfl hg) (i := 0) rfl ty92 rfl)) ?_
  refine DrG.st (i := 14) [17, 26] rfl rfl rfl (by kernel_rfl) (OKG.T rfl rfl rfl (fun hg => have hg' := BP.t hg; OK1.len sl92 (Has.g rfl hg))) ?_
  refine DrG.fin (n := 15) mixed (by kernel_rfl) (by kernel_rfl) (by kernel_rfl) ?_
  refine Ops.cv (Cv.wk (.cons (t := 4) (Has.t rfl) (.cons (t := 6) (Has.t rfl) (.cons (t := 7) (Has.t rfl) (.cons (t := 8) (Has.t rfl) (.cons (t := 13) (Has.t rfl) (.cons (t := 14) (Has.t rfl) (.cons (t := 15) (Has.t rfl) (.cons (t := 16) (Has.t rfl) (.cons (t := 17) (Has.t rfl) (.cons (t := 18) (Has.t rfl) (.cons (t := 19) (Has.t rfl) (.cons (t := 20) (Has.t rfl) (.cons (t := 21) (Has.t rfl) (.cons (t := 22) (Has.t rfl) (.cons (t := 23) (Has.t rfl) (.cons (t := 24) (Has.t rfl) (.cons (t := 25) (Has.t rfl) (.cons (t := 26) (Has.t rfl) (.cons (t := 27) (Has.t rfl) .nil)))))))))))))))))))) ?_
  refine stT rfl rfl (fun hg => have hg' := BP.t hg; OK1.ltI (Has.g rfl hg) (Has.g rfl hg)) rfl ?_
  refine st (OK1.pickAnd (Has.t rfl) (fun h => Has.g rfl h)) rfl ?_
  refine nl ?_
  refine At.thn (hK7 _ _ ?_); clear hK7
  refine Tri.cond (Has.t rfl) (fun hc1 => ?_) (fun hc1 => ?_)
  · have hc1 := BP.t hc1
    refine Tri.skip ?_
    refine At.thn (hK6 _ _ ?_); clear hK6
    refine Tri.seq fun K8 hK8 => ?_
    refine Tri.block ?_
    refine Tri.region ?_
    refine st (OK1.mv (Has.t rfl)) rfl ?_
    refine st (OK1.mv (Has.t rfl)) rfl ?_
    refine Ops.callX (fmat_column hq (col := c) (W := C + D) hp2 hrow (by omega) (by omega) (by omega) (by omega)) (perm0 _) (.cons (Has.t rfl) (.cons (Has.t rfl) .nil)) rfl ?_
    rintro _ _ ⟨gp2, rs2, rfl, rfl, hrs2⟩
    refine Ops.memEq (M' := wkMU q bw gp2 gt rs2 (fcol (fp q) ⟨rs.map Prod.snd, (fred (fp q) ⟨rowsU (fp q) R C D xs ys, [], 1 % fp q⟩ c).ps, (fred (fp q) ⟨rowsU (fp q) R C D xs ys, [], 1 % fp q⟩ c).det⟩ c).ps (fcol (fp q) ⟨rs.map Prod.snd, (fred (fp q) ⟨rowsU (fp q) R C D xs ys, [], 1 % fp q⟩ c).ps, (fred (fp q) ⟨rowsU (fp q) R C D xs ys, [], 1 % fp q⟩ c).det⟩ c).det) (List.append_nil _) ?_
    refine nl ?_
    refine At.bln ?_
    refine At.thn (hK8 _ _ ?_); clear hK8
    refine Tri.region ?_
    refine st (OK1.mv (Has.t rfl)) rfl ?_
    refine st (OK1.addI (Has.t rfl) (Has.cI 1 rfl) (by first | omega | assumption) (by first | omega | assumption)) rfl ?_
    refine st (OK1.as (Has.t rfl)) rfl ?_
    refine nl ?_
    refine At.thn ?_
    rw [hrs] at hrs2
    refine hK5 (⟨(c + 1, gp2, rs2), by show c + 1 ≤ C; omega, hrs2⟩) _ _ ?_ (Cv.mem (.cons (t := 8) (Has.t' rfl ?_) (.cons (t := 4) (Has.t rfl) (.cons (t := 6) (Has.t rfl) (.cons (t := 7) (Has.t rfl) .nil)))) ?_)
    · show C - (c + 1) < C - c; omega
    · exact isI_eq (by omega)
    · rw [hrs]; rfl
  · have hc1 := BP.f hc1
    refine Tri.exit ?_
    refine At.the ?_
    refine At.the ?_
    refine At.blh ?_
    refine At.thn (hK3 _ _ ?_); clear hK3
    refine Tri.cv (Cv.wk (.cons (t := 6) (Has.t rfl) (.cons (t := 7) (Has.t rfl) .nil))) ?_
    refine Tri.seq fun K9 hK9 => ?_
    refine Tri.cv (Cv.freezeWkU (t := 7) rfl rfl) ?_
    refine Tri.region ?_
    refine st (OK1.mv (Has.t rfl)) rfl ?_
    refine st (OK1.as (Has.t rfl)) rfl ?_
    refine nl ?_
    refine At.thn (hK9 _ _ ?_); clear hK9
    refine Tri.ret ?_
    refine rt1 (.inl rfl) Try.results67 rfl (.tmp (Has.t' rfl ?_) .nil)
    all_goals (rw [hrs, fred_stop (p := fp q) hc (by rw [← hrs, List.length_map]; omega)])
end Go.Proofs.Ytfoclelageohiaa
/- Contracts: reduced forms, determinants over a field. -/
namespace Go.Proofs.Ytfoclelageohiaa
open Go.En Go.RowKit
set_option linter.unusedVariables false
set_option maxRecDepth 10000
open Go.Gf
open Go.Mz
open Go.Mu
open Go.Fe
set_option maxHeartbeats 4000000 in
theorem fmat_one {i k : Nat} : Ctr Try.prog 70 [isI (i : Int), isI (k : Int)] (isU (if i = k then 1 else 0)) := by
  refine Ctr.intro Try.func70 rfl (by kernel_rfl) Try.ntmps70 rfl fun w0 F0 => ?_
  refine Tri.cv (Cv.wk (.cons (t := 0) (Has.t rfl) (.cons (t := 1) (Has.t rfl) .nil))) ?_
  refine Tri.fact (Has.rngI (Has.t (t := 0) rfl)) fun lt0 => ?_
  refine Tri.fact (Has.rngI (Has.t (t := 1) rfl)) fun lt1 => ?_
  refine Tri.seq fun K1 hK1 => ?_
  refine Tri.region ?_
  refine st (OK1.as (Has.cU 0 rfl)) rfl ?_
  refine nl ?_
  refine At.thn (hK1 _ _ ?_); clear hK1
  refine Tri.seq fun K2 hK2 => ?_
  refine Tri.seq fun K3 hK3 => ?_
  refine Tri.region ?_
  refine st (OK1.mv (Has.t rfl)) rfl ?_
  refine st (OK1.mv (Has.t rfl)) rfl ?_
  refine st (OK1.eqI (Has.t rfl) (Has.t rfl)) rfl ?_
  refine nl ?_
  refine At.thn (hK3 _ _ ?_); clear hK3
  refine Tri.cond (Has.t rfl) (fun hc1 => ?_) (fun hc1 => ?_)
  · have hc1 := BP.t hc1
    refine Tri.seq fun K4 hK4 => ?_
    refine Tri.region ?_
    refine st (OK1.as (Has.cU 1 rfl)) rfl ?_
    refine nl ?_
    refine At.thn (hK4 _ _ ?_); clear hK4
    refine Tri.cv (Cv.wk (.cons (t := 4) (Has.t rfl) .nil)) ?_
    refine Tri.ret ?_
    refine At.thr ?_
    refine rt1 (.inl rfl) Try.results70 rfl (.tmp (Has.t' rfl ?_) .nil)
    all_goals (exact isU_eq (by rw [if_pos (by omega)]))
  · have hc1 := BP.f hc1
    refine Tri.skip ?_
    refine At.thn (hK2 _ _ ?_); clear hK2
    refine Tri.cv (Cv.wk (.cons (t := 4) (Has.t rfl) .nil)) ?_
    refine Tri.seq fun K5 hK5 => ?_
    refine Tri.region ?_
    refine st (OK1.as (Has.cU 0 rfl)) rfl ?_
    refine nl ?_
    refine At.thn (hK5 _ _ ?_); clear hK5
    refine Tri.ret ?_
    refine rt1 (.inl rfl) Try.results70 rfl (.tmp (Has.t' rfl ?_) .nil)
    all_goals (exact isU_eq (by rw [if_neg (by omega)]))
set_option maxHeartbeats 4000000 in
theorem fmat_Det {q R : Nat} {xs : List Nat} (hq : q < 4294967296) (hp2 : 2 ≤ fp q) (hR : R ≤ 64) (hxl : xs.length = R * R) : Ctr Try.prog 62 [Flat [isU q], isMW R R xs] (isTup [isU (if (redS (fp q) R R 0 xs []).ps.length < R then 0 else (redS (fp q) R R 0 xs []).det), isI 0]) := by
  refine Ctr.intro Try.func62 rfl (by kernel_rfl) Try.ntmps62 rfl fun w0 F0 => ?_
  refine Tri.cv (Cv.wk (.cons (t := 0) (Has.t rfl) (.cons (t := 1) (Has.t rfl) .nil))) ?_
  have hRC := side_le hR hR
  have hok := fred_ok (p := fp q) (W := R + 0) (rowsU_len (fp q) R R 0 xs []) (fun r hr => rowsU_row hr) (1 % fp q) R
  obtain ⟨s, hs⟩ : ∃ s, s = redS (fp q) R R 0 xs [] := ⟨_, rfl⟩
  have hok1 : s.rows.length = R := by rw [hs]; exact hok.1
  have hok2 : ∀ r ∈ s.rows, r.length = R + 0 := by rw [hs]; exact hok.2.1
  have hok3 : s.ps.length ≤ R := by rw [hs]; exact hok.2.2
  rw [← hs]
  have hfo := formB_true hR hR hxl
  have hpv := pv_len s.ps
  refine Tri.seq fun K1 hK1 => ?_
  refine Tri.region ?_
  refine Ops.box (Has.t rfl) rfl fun b1 => ?_
  refine Ops.box (Has.t rfl) rfl fun b2 => ?_
  refine st (OK1.as (Has.cU 0 rfl)) rfl ?_
  refine st (OK1.as (Has.cI 0 rfl)) rfl ?_
  refine nl ?_
  refine At.thn (hK1 _ _ ?_); clear hK1
  refine Tri.seq fun K2 hK2 => ?_
  refine Tri.seq fun K3 hK3 => ?_
  refine Tri.region ?_
  refine st (OK1.load (Has.t rfl) (i := 0) rfl ty24 rfl (Ss' := [_, _, _]) rfl) rfl ?_
  refine st (OK1.eq (OK1.call (fmat_Formed) (.cons (Has.t rfl) .nil)) ((show isB _ = isB true from isB_eq hfo))) rfl ?_
  refine st (OK1.not (Has.t rfl)) rfl ?_
  refine st (OK1.mv (Has.t rfl)) rfl ?_
  refine stF rfl rfl (fun hg => have hg' := BP.t hg; OK1.fieldAddr (Has.t rfl) fld24_0 ty3) rfl ?_
  refine stF rfl rfl (fun hg => have hg' := BP.t hg; OK1.load1 (Has.g rfl hg) (i := 0) rfl ty3 rfl) rfl ?_
  refine stF rfl rfl (fun hg => have hg' := BP.t hg; OK1.fieldAddr (Has.t rfl) fld24_1 ty3) rfl ?_
  refine stF rfl rfl (fun hg => have hg' := BP.t hg; OK1.load1 (Has.g rfl hg) (i := 0) rfl ty3 rfl) rfl ?_
  refine stF rfl rfl (fun hg => have hg' := BP.t hg; OK1.neI (Has.g rfl hg) (Has.g rfl hg)) rfl ?_
  refine st (OK1.pickOr (Has.t rfl) (fun h => Has.g rfl (ng h))) rfl ?_
  refine nl ?_
  refine At.thn (hK3 _ _ ?_); clear hK3
  refine Tri.cv (Cv.wk (.cons (t := 2) (Has.t rfl) (.cons (t := 3) (Has.t rfl) (.cons (t := 4) (Has.t rfl) (.cons (t := 5) (Has.t rfl) (.cons (t := 16) (Has.t rfl) .nil)))))) ?_
  refine Tri.cond (Has.t rfl) (fun hc1 => ?_) (fun hc1 => ?_)
  · have hc1 := BP.t hc1
    simp at hc1
  · have hc1 := BP.f hc1
    refine Tri.skip ?_
    refine At.thn (hK2 _ _ ?_); clear hK2
    refine Tri.seq fun K4 hK4 => ?_
    refine Tri.region ?_
    refine st (OK1.load (Has.t rfl) (i := 1) rfl ty29 rfl (Ss' := [_]) rfl) rfl ?_
    refine st (OK1.load (Has.t rfl) (i := 0) rfl ty24 rfl (Ss' := [_, _, _]) rfl) rfl ?_
    refine st (OK1.fieldAddr (Has.t rfl) fld24_0 ty3) rfl ?_
    refine st (OK1.load1 (Has.t rfl) (i := 0) rfl ty3 rfl) rfl ?_
    refine st (OK1.build [isI 0, isI 0, SlM isU []] pl24 zero24 (fun _ _ => ⟨⟨rfl, by decide, by decide⟩, ⟨rfl, by decide, by decide⟩, nilM _ _, trivial⟩) (.cons (Has.t rfl) rfl rfl rfl .nil) (Z'' := [_, _, _]) rfl) rfl ?_
    refine st (OK1.eq (OK1.call (fmat_reduced (D := 0) (ys := []) hq hp2 hR hR (Nat.zero_le _) hxl (Nat.mul_zero _).symm) (.cons (Has.t rfl) (.cons (Has.t rfl) (.cons (Has.t rfl) .nil)))) ((show wkFU q _ = wkFU q s from by rw [hs]; rfl))) rfl ?_
    refine st (OK1.as (Has.t rfl)) rfl ?_
    refine nl ?_
    refine At.thn (hK4 _ _ ?_); clear hK4
    refine Tri.cv (Cv.wk (.cons (t := 3) (Has.t rfl) (.cons (t := 4) (Has.t rfl) (.cons (t := 5) (Has.t rfl) (.cons (t := 6) (Has.t rfl) .nil))))) ?_
    refine Tri.seq fun K5 hK5 => ?_
    refine Tri.seq fun K6 hK6 => ?_
    refine Tri.dr ?_
    refine DrG.st (i := 0) [] rfl rfl rfl (by kernel_rfl) (OKG.o rfl (OK1.mv (Has.t rfl))) ?_
    refine DrG.st (i := 1) [23] rfl rfl rfl (by kernel_rfl) (OKG.o rfl (OK1.nilcP (Has.t rfl))) ?_
    refine DrG.st (i := 2) [24] rfl rfl rfl (by kernel_rfl) (OKG.o rfl (OK1.fieldAddrP (Has.t rfl) fld94_2 ty32 (Ss' := [_, _]) rfl)) ?_
    refine DrG.st (i := 3) [25] rfl rfl rfl (by kernel_rfl) (OKG.o rfl (OK1.loadP1 (Has.t rfl) ty32)) ?_
    refine DrG.st (i := 4) [26] rfl rfl rfl (by kernel_rfl) (OKG.o rfl (OK1.len sl32 (Has.t rfl))) ?_
    refine DrG.st (i := 5) [] rfl rfl rfl (by kernel_rfl) (OKG.o rfl (OK1.fieldAddr (Has.t rfl) fld24_0 ty3)) ?_
    refine DrG.st (i := 6) [28] rfl rfl rfl (by kernel_rfl) (OKG.o rfl (OK1.load1 (Has.t rfl) (i := 0) rfl ty3 rfl)) ?_
    refine DrG.fin (n := 7) mixed (by kernel_rfl) (by kernel_rfl) (by kernel_rfl) ?_
    refine Ops.cv (Cv.wk (.cons (t := 4) (Has.t rfl) (.cons (t := 5) (Has.t rfl) (.cons (t := 6) (Has.t rfl) (.cons (t := 27) (Has.t rfl) (.cons (t := 29) (Has.t rfl) .nil)))))) ?_
    refine st (OK1.ltI (Has.t rfl) (Has.t rfl)) rfl ?_
    refine nl ?_
    refine At.thn (hK6 _ _ ?_); clear hK6
    refine Tri.cond (Has.t rfl) (fun hc2 => ?_) (fun hc2 => ?_)
    · have hc2 := BP.t hc2
      refine Tri.seq fun K7 hK7 => ?_
      refine Tri.region ?_
      refine st (OK1.as (Has.cU 0 rfl)) rfl ?_
      refine st (OK1.as (Has.cI 0 rfl)) rfl ?_
      refine nl ?_
      refine At.thn (hK7 _ _ ?_); clear hK7
      refine Tri.ret ?_
      refine At.thr ?_
      refine rtN (.inl rfl) Try.results62 rfl rfl (.tmp (Has.t' rfl ?_) (.tmp (Has.t' rfl ?_) .nil))
      all_goals (first | exact isU_eq (by rw [if_pos (by omega)]) | rfl)
    · have hc2 := BP.f hc2
      refine Tri.skip ?_
      refine At.thn (hK5 _ _ ?_); clear hK5
      refine Tri.seq fun K8 hK8 => ?_
      refine Tri.region ?_
      refine st (OK1.mv (Has.t rfl)) rfl ?_
      refine st (OK1.nilcP (Has.t rfl)) rfl ?_
      refine st (OK1.fieldAddrP (Has.t rfl) fld94_3 ty27 (Ss' := [_]) rfl) rfl ?_
      refine st (OK1.loadP1 (Has.t rfl) ty27) rfl ?_
      refine st (OK1.as (Has.t rfl)) rfl ?_
      refine st (OK1.as (Has.cI 0 rfl)) rfl ?_
      refine nl ?_
      refine At.thn (hK8 _ _ ?_); clear hK8
      refine Tri.cv (Cv.wk (.cons (t := 4) (Has.t rfl) (.cons (t := 5) (Has.t rfl) .nil))) ?_
      refine Tri.ret ?_
      refine rtN (.inl rfl) Try.results62 rfl rfl (.tmp (Has.t' rfl ?_) (.tmp (Has.t' rfl ?_) .nil))
      all_goals (first | exact isU_eq (by rw [if_neg (by omega)]) | rfl)
end Go.Proofs.Ytfoclelageohiaa
/- Contracts: what the laws of layer 21 share. -/
namespace Go.Proofs.Ytfoclelageohiaa
open Go.En Go.RowKit
set_option linter.unusedVariables false
set_option maxRecDepth 10000
open Go.Gf
open Go.Mz
open Go.Mu
open Go.Fe
set_option maxHeartbeats 4000000 in
theorem law09_Of {n : Nat} : Ctr Try.prog 15 [isK .u8 (n : Int)] (Flat [isU (ptab (n % 12))]) := by
  refine Ctr.intro Try.func15 rfl (by kernel_rfl) Try.ntmps15 rfl fun w0 F0 => ?_
  refine Tri.cv (Cv.wk (.cons (t := 0) (Has.t rfl) .nil)) ?_
  refine Tri.seq fun K1 hK1 => ?_
  refine Tri.region ?_
  refine Ops.alloc [isU 0] zero29 (fun _ _ => ⟨⟨rfl, by decide⟩, trivial⟩) rfl fun b1 => ?_
  refine nl ?_
  refine At.thn (hK1 _ _ ?_); clear hK1
  refine Tri.seq fun K2 hK2 => ?_
  refine Tri.region ?_
  refine st (OK1.mv (Has.t rfl)) rfl ?_
  refine st (OK1.call ref08_P (.cons (Has.t rfl) .nil)) rfl ?_
  refine st (OK1.call (gfp_New_yes (ptab_pr _)) (.cons (Has.t rfl) .nil)) rfl ?_
  refine st (OK1.mv (Has.t rfl)) rfl ?_
  refine st (OK1.ext (Has.t rfl) rfl) rfl ?_
  refine st (OK1.ext (Has.t rfl) rfl) rfl ?_
  refine Ops.alloc [isU 0] zero29 (fun _ _ => ⟨⟨rfl, by decide⟩, trivial⟩) rfl fun b2 => ?_
  refine Ops.store (Has.t rfl) (Has.t rfl) (i := 0) rfl ty29 rfl rfl (Ss' := [_]) rfl (M' := [(some _, cellM [_]), _]) rfl ?_
  refine st (OK1.as (Has.t rfl)) rfl ?_
  refine nl ?_
  refine At.thn (hK2 _ _ ?_); clear hK2
  refine Tri.cv (Cv.wk (.cons (t := 2) (Has.t rfl) (.cons (t := 3) (Has.t rfl) .nil))) ?_
  refine Tri.seq fun K3 hK3 => ?_
  refine Tri.region ?_
  refine st (OK1.load (Has.t rfl) (i := 0) rfl ty29 rfl (Ss' := [_]) rfl) rfl ?_
  refine Ops.store (Has.t rfl) (Has.t rfl) (i := 1) rfl ty29 rfl rfl (Ss' := [_]) rfl (M' := [_, (some _, cellM [_])]) rfl ?_
  refine nl ?_
  refine At.thn (hK3 _ _ ?_); clear hK3
  refine Tri.ret ?_
  refine rt1 (.inl rfl) Try.results15 rfl (.cell rfl (i := 1) rfl ty29 rfl ?_ .nil)
  all_goals (rfl)
set_option maxHeartbeats 4000000 in
theorem law21_awake  : Ctr Try.prog 13 [] (isB true) := by
  refine Ctr.intro Try.func13 rfl (by kernel_rfl) Try.ntmps13 rfl fun w0 F0 => ?_
  refine Tri.cv (Cv.wk .nil) ?_
  refine Tri.seq fun K1 hK1 => ?_
  refine Tri.region ?_
  refine st (OK1.as (Has.cB false)) rfl ?_
  refine nl ?_
  refine At.thn (hK1 _ _ ?_); clear hK1
  refine Tri.seq fun K2 hK2 => ?_
  refine Tri.region ?_
  refine st (OK1.eq (OK1.call (law09_Of (n := 3)) (.cons (Has.cK .u8 3 rfl) .nil)) ((show Flat [isU _] = Flat [isU 7] from rfl))) rfl ?_
  refine Ops.alloc [isU 0] zero29 (fun _ _ => ⟨⟨rfl, by decide⟩, trivial⟩) rfl fun b1 => ?_
  refine Ops.store (Has.t rfl) (Has.t rfl) (i := 0) rfl ty29 rfl rfl (Ss' := [_]) rfl (M' := [(some _, cellM [_])]) rfl ?_
  refine nl ?_
  refine At.thn (hK2 _ _ ?_); clear hK2
  refine Tri.seq fun K3 hK3 => ?_
  refine Tri.region ?_
  refine st (OK1.load (Has.t rfl) (i := 0) rfl ty29 rfl (Ss' := [_]) rfl) rfl ?_
  refine st (OK1.buildS [isU 0, isU 0, isU 0, isU 0] sl22 ty27 zero27 (fun _ _ => ⟨⟨rfl, by decide⟩, ⟨rfl, by decide⟩, ⟨rfl, by decide⟩, ⟨rfl, by decide⟩, trivial⟩) rfl rfl (.cons (Has.cU 1 rfl) rfl rfl rfl (.cons (Has.cU 2 rfl) rfl rfl rfl (.cons (Has.cU 3 rfl) rfl rfl rfl (.cons (Has.cU 4 rfl) rfl rfl rfl .nil)))) rfl (S := SlM isU [1, 2, 3, 4]) rfl) rfl ?_
  refine st (OK1.build [isI 0, isI 0, SlM isU []] pl24 zero24 (fun _ _ => ⟨⟨rfl, by decide, by decide⟩, ⟨rfl, by decide, by decide⟩, nilM _ _, trivial⟩) (.cons (Has.cI 2 rfl) rfl rfl rfl (.cons (Has.cI 2 rfl) rfl rfl rfl (.cons (Has.t rfl) rfl rfl rfl .nil))) (Z'' := [_, _, _]) rfl) rfl ?_
  refine st (OK1.eq (OK1.call (fmat_Det (q := 7) (R := 2) (xs := [1, 2, 3, 4]) (by decide) (by decide) (by decide) rfl) (.cons (Has.t rfl) (.cons (Has.t rfl) .nil))) ((show isTup [isU _, isI 0] = isTup [isU 5, isI 0] from by rw [show (if (redS (fp 7) 2 2 0 [1, 2, 3, 4] []).ps.length < 2 then 0 else (redS (fp 7) 2 2 0 [1, 2, 3, 4] []).det) = 5 from by decide]))) rfl ?_
  refine st (OK1.mv (Has.t rfl)) rfl ?_
  refine st (OK1.ext (Has.t rfl) rfl) rfl ?_
  refine st (OK1.ext (Has.t rfl) rfl) rfl ?_
  refine st (OK1.as (Has.t rfl)) rfl ?_
  refine st (OK1.as (Has.t rfl)) rfl ?_
  refine nl ?_
  refine At.thn (hK3 _ _ ?_); clear hK3
  refine Tri.cv (Cv.wk (.cons (t := 0) (Has.t rfl) (.cons (t := 2) (Has.t rfl) (.cons (t := 3) (Has.t rfl) .nil)))) ?_
  refine Tri.seq fun K4 hK4 => ?_
  refine Tri.region ?_
  refine st (OK1.mv (Has.t rfl)) rfl ?_
  refine st (OK1.eqI (Has.t rfl) (Has.cI 0 rfl)) rfl ?_
  refine st (OK1.mv (Has.t rfl)) rfl ?_
  refine stT rfl rfl (fun hg => have hg' := BP.t hg; OK1.mv (Has.t rfl)) rfl ?_
  refine stT rfl rfl (fun hg => have hg' := BP.t hg; OK1.eqU (Has.g rfl hg) (Has.cU 5 rfl)) rfl ?_
  refine st (OK1.pickAnd (Has.t rfl) (fun h => Has.g rfl h)) rfl ?_
  refine st (OK1.as (Has.t rfl)) rfl ?_
  refine nl ?_
  refine At.thn (hK4 _ _ ?_); clear hK4
  refine Tri.cv (Cv.wk (.cons (t := 0) (Has.t rfl) .nil)) ?_
  refine Tri.ret ?_
  refine rt1 (.inl rfl) Try.results13 rfl (.tmp (Has.t' rfl ?_) .nil)
  all_goals (rfl)
end Go.Proofs.Ytfoclelageohiaa
/- Contracts: inverses over a field. -/
namespace Go.Proofs.Ytfoclelageohiaa
open Go.En Go.RowKit
set_option linter.unusedVariables false
set_option maxRecDepth 10000
open Go.Gf
open Go.Mz
open Go.Mu
open Go.Fe
set_option maxHeartbeats 4000000 in
theorem fmat_Inverse_1 {q R C W i k : Nat} {s : FS} (hs : s.rows.length = R) (hw : ∀ r ∈ s.rows, r.length = W) {r : Int} {xs : List Nat} (hC : C ≤ 64) (hi : i < R) (hk : C + k < W) (hW : W ≤ 128) : Ctr Try.prog 71 [isI (i : Int), isI (k : Int), PtrL [wkFU q s], ptMW r (C : Int) xs] (isU (ent s i (C + k))) := by
  refine Ctr.intro Try.func71 rfl (by kernel_rfl) Try.ntmps71 rfl fun w0 F0 => ?_
  refine Tri.cv (Cv.wk (.cons (t := 0) (Has.t rfl) (.cons (t := 1) (Has.t rfl) (.cons (t := 2) (Has.t rfl) (.cons (t := 3) (Has.t rfl) .nil))))) ?_
  refine Tri.fact (Has.rngI (Has.t (t := 0) rfl)) fun lt0 => ?_
  refine Tri.fact (Has.rngI (Has.t (t := 1) rfl)) fun lt1 => ?_
  have hrl : (s.rows.getD i []).length = W := hw _ (by rw [List.getD, List.getElem?_eq_getElem (by omega)]; exact List.getElem_mem _)
  refine Tri.seq fun K1 hK1 => ?_
  refine Tri.region ?_
  refine st (OK1.as (Has.cU 0 rfl)) rfl ?_
  refine nl ?_
  refine At.thn (hK1 _ _ ?_); clear hK1
  refine Tri.seq fun K2 hK2 => ?_
  refine Tri.dr ?_
  refine DrG.st (i := 0) [] rfl rfl rfl (by kernel_rfl) (OKG.o rfl (OK1.loadP1 (Has.t rfl) ty89)) ?_
  refine DrG.st (i := 1) [7] rfl rfl rfl (by kernel_rfl) (OKG.o rfl (OK1.nilcP (Has.t rfl))) ?_
  refine DrG.st (i := 2) [8] rfl rfl rfl (by kernel_rfl) (OKG.o rfl (OK1.fieldAddrP (Has.t rfl) fld94_1 ty92 (Ss' := [_, _, _]) rfl)) ?_
  refine DrG.st (i := 3) [9] rfl rfl rfl (by kernel_rfl) (OKG.o rfl (OK1.loadP1 (Has.t rfl) ty92)) ?_
  refine DrG.st (i := 4) [] rfl rfl rfl (by kernel_rfl) (OKG.o rfl (OK1.mv (Has.t rfl))) ?_
  refine DrG.st (i := 5) [10, 11] rfl rfl rfl (by kernel_rfl) (OKG.o rfl (OK1.ixP sl92 ty22 (Has.t rfl) (Has.t rfl) ⟨by omega, by omega⟩ (getD_some (d := []) (by first | omega | (simp only [Int.toNat_natCast, List.length_set]; omega))))) ?_
  refine DrG.st (i := 6) [12] rfl rfl rfl (by kernel_rfl) (OKG.o rfl (OK1.eq (OK1.loadP1 (Has.t rfl) ty22) ((show isWs _ = isWs (s.rows.getD i []) from rfl)))) ?_
  refine DrG.st (i := 7) [] rfl rfl rfl (by kernel_rfl) (OKG.o rfl (OK1.fieldAddrP (Has.t rfl) fld24_1 ty3 (Ss' := [_, _]) rfl)) ?_
  refine DrG.st (i := 8) [14] rfl rfl rfl (by kernel_rfl) (OKG.o rfl (OK1.loadP1 (Has.t rfl) ty3)) ?_
  refine DrG.st (i := 9) [] rfl rfl rfl (by kernel_rfl) (OKG.o rfl (OK1.mv (Has.t rfl))) ?_
  refine DrG.st (i := 10) [15, 16] rfl rfl rfl (by kernel_rfl) (OKG.o rfl (OK1.eq (OK1.addI (Has.t rfl) (Has.t rfl) (by first | omega | assumption) (by first | omega | assumption)) ((show isI _ = isI ((C + k : Nat) : Int) from isI_eq (by omega))))) ?_
  refine DrG.fin (n := 11) mixed (by kernel_rfl) (by kernel_rfl) (by kernel_rfl) ?_
  refine Ops.cv (Cv.wk (.cons (t := 6) (Has.t rfl) (.cons (t := 13) (Has.t rfl) (.cons (t := 17) (Has.t rfl) .nil)))) ?_
  refine st (OK1.ixP sl22 ty27 (Has.t rfl) (Has.t rfl) ⟨by omega, by omega⟩ (getD_some (d := 0) (by first | omega | (simp only [Int.toNat_natCast, List.length_set]; omega)))) rfl ?_
  refine st (OK1.loadP1 (Has.t rfl) ty27) rfl ?_
  refine st (OK1.as (Has.t rfl)) rfl ?_
  refine nl ?_
  refine At.thn (hK2 _ _ ?_); clear hK2
  refine Tri.ret ?_
  refine rt1 (.inl rfl) Try.results71 rfl (.tmp (Has.t' rfl ?_) .nil)
  all_goals (rfl)
set_option maxHeartbeats 4000000 in
theorem fmat_Inverse {q R : Nat} {xs : List Nat} (hq : q < 4294967296) (hp2 : 2 ≤ fp q) (hR : R ≤ 64) (hxl : xs.length = R * R) (hfull : ¬ (redS (fp q) R R R xs (tabU (R * R) R fun i k => (if i = k then 1 else 0) % fp q)).ps.length < R) : Ctr Try.prog 25 [Flat [isU q], isMW R R xs] (isTup [isMW R R (tabU (R * R) R fun i k => ent (redS (fp q) R R R xs (tabU (R * R) R fun i k => (if i = k then 1 else 0) % fp q)) i (R + k) % fp q), isI 0]) := by
  refine Ctr.intro Try.func25 rfl (by kernel_rfl) Try.ntmps25 rfl fun w0 F0 => ?_
  refine Tri.cv (Cv.wk (.cons (t := 0) (Has.t rfl) (.cons (t := 1) (Has.t rfl) .nil))) ?_
  have hRC := side_le hR hR
  have hok := fred_ok (p := fp q) (W := R + R) (rowsU_len (fp q) R R R xs (tabU (R * R) R fun i k => (if i = k then 1 else 0) % fp q)) (fun r hr => rowsU_row hr) (1 % fp q) R
  obtain ⟨s, hs⟩ : ∃ s, s = redS (fp q) R R R xs (tabU (R * R) R fun i k => (if i = k then 1 else 0) % fp q) := ⟨_, rfl⟩
  have hok1 : s.rows.length = R := by rw [hs]; exact hok.1
  have hok2 : ∀ r ∈ s.rows, r.length = R + R := by rw [hs]; exact hok.2.1
  have hok3 : s.ps.length ≤ R := by rw [hs]; exact hok.2.2
  rw [← hs]
  have hfo := formB_true hR hR hxl
  have hpv := pv_len s.ps
  rw [← hs] at hfull
  refine Tri.seq fun K1 hK1 => ?_
  refine Tri.region ?_
  refine Ops.box (Has.t rfl) rfl fun b1 => ?_
  refine Ops.box (Has.t rfl) rfl fun b2 => ?_
  refine Ops.alloc [isI 0, isI 0, SlM isU []] zero24 (fun _ _ => ⟨⟨rfl, by decide, by decide⟩, ⟨rfl, by decide, by decide⟩, nilM _ _, trivial⟩) rfl fun b3 => ?_
  refine st (OK1.as (Has.cI 0 rfl)) rfl ?_
  refine nl ?_
  refine At.thn (hK1 _ _ ?_); clear hK1
  refine Tri.seq fun K2 hK2 => ?_
  refine Tri.seq fun K3 hK3 => ?_
  refine Tri.region ?_
  refine st (OK1.load (Has.t rfl) (i := 1) rfl ty24 rfl (Ss' := [_, _, _]) rfl) rfl ?_
  refine st (OK1.eq (OK1.call (fmat_Formed) (.cons (Has.t rfl) .nil)) ((show isB _ = isB true from isB_eq hfo))) rfl ?_
  refine st (OK1.not (Has.t rfl)) rfl ?_
  refine st (OK1.mv (Has.t rfl)) rfl ?_
  refine stF rfl rfl (fun hg => have hg' := BP.t hg; OK1.fieldAddr (Has.t rfl) fld24_0 ty3) rfl ?_
  refine stF rfl rfl (fun hg => have hg' := BP.t hg; OK1.load1 (Has.g rfl hg) (i := 1) rfl ty3 rfl) rfl ?_
  refine stF rfl rfl (fun hg => have hg' := BP.t hg; OK1.fieldAddr (Has.t rfl) fld24_1 ty3) rfl ?_
  refine stF rfl rfl (fun hg => have hg' := BP.t hg; OK1.load1 (Has.g rfl hg) (i := 1) rfl ty3 rfl) rfl ?_
  refine stF rfl rfl (fun hg => have hg' := BP.t hg; OK1.neI (Has.g rfl hg) (Has.g rfl hg)) rfl ?_
  refine st (OK1.pickOr (Has.t rfl) (fun h => Has.g rfl (ng h))) rfl ?_
  refine nl ?_
  refine At.thn (hK3 _ _ ?_); clear hK3
  refine Tri.cv (Cv.wk (.cons (t := 2) (Has.t rfl) (.cons (t := 3) (Has.t rfl) (.cons (t := 4) (Has.t rfl) (.cons (t := 5) (Has.t rfl) (.cons (t := 16) (Has.t rfl) .nil)))))) ?_
  refine Tri.cond (Has.t rfl) (fun hc1 => ?_) (fun hc1 => ?_)
  · have hc1 := BP.t hc1
    simp at hc1
  · have hc1 := BP.f hc1
    refine Tri.skip ?_
    refine At.thn (hK2 _ _ ?_); clear hK2
    refine Tri.seq fun K4 hK4 => ?_
    refine Tri.drh [true, true, true] (Ms := [_, _, _]) rfl ?_
    refine DrH.st (i := 0) [] rfl rfl rfl (by kernel_rfl) (OKG.o rfl (OK1.load (Has.t rfl) (i := 2) rfl ty29 rfl (Ss' := [_]) rfl)) ?_
    refine DrH.st (i := 1) [] rfl rfl rfl (by kernel_rfl) (OKG.o rfl (OK1.load (Has.t rfl) (i := 1) rfl ty24 rfl (Ss' := [_, _, _]) rfl)) ?_
    refine DrH.st (i := 2) [] rfl rfl rfl (by kernel_rfl) (OKG.o rfl (OK1.load (Has.t rfl) (i := 2) rfl ty29 rfl (Ss' := [_]) rfl)) ?_
    refine DrH.st (i := 3) [] rfl rfl rfl (by kernel_rfl) (OKG.o rfl (OK1.fieldAddr (Has.t rfl) fld24_0 ty3)) ?_
    refine DrH.st (i := 4) [21] rfl rfl rfl (by kernel_rfl) (OKG.o rfl (OK1.load1 (Has.t rfl) (i := 1) rfl ty3 rfl)) ?_
    refine DrH.st (i := 5) [] rfl rfl rfl (by kernel_rfl) (OKG.o rfl (OK1.fieldAddr (Has.t rfl) fld24_0 ty3)) ?_
    refine DrH.st (i := 6) [23] rfl rfl rfl (by kernel_rfl) (OKG.o rfl (OK1.load1 (Has.t rfl) (i := 1) rfl ty3 rfl)) ?_
    refine DrH.st (i := 7) [20, 22, 24] rfl rfl rfl (by kernel_rfl) (OKG.o rfl (OK1.call (fmat_made (f := fun i k => if i = k then 1 else 0) hR hR) (.cons (Has.t rfl) (.cons (Has.t rfl) (.cons (Has.t rfl) (.cons (Has.fn (ι := PI R R) (As := fun p => [isI (p.1.1 : Int), isI (p.1.2 : Int)]) (R := fun p => isU (if p.1.1 = p.1.2 then 1 else 0)) (fun p => fmat_one)) .nil)))))) ?_
    refine DrH.st (i := 8) [18, 19, 25] rfl rfl rfl (by kernel_rfl) (OKG.o rfl (OK1.eq (OK1.call (fmat_reduced (D := R) hq hp2 hR hR hR hxl (tabU_len _ _ _)) (.cons (Has.t rfl) (.cons (Has.t rfl) (.cons (Has.t rfl) .nil)))) ((show wkFU q _ = wkFU q s from by rw [hs]; rfl)))) ?_
    refine DrH.als (n1 := 10) (ds := [6]) (zs := [[nilP]]) rfl (.cons rfl rfl zero89 (fun _ _ => ⟨rfl, trivial⟩) .nil) (.cons_cons _ (.cons_cons _ (.cons_cons _ .slnil))) (Cs := [_]) rfl ?_
    refine DrN.fin (n := 10) mixed rfl (by kernel_rfl) (by kernel_rfl) (by kernel_rfl) (fun bs hbs => ?_)
    obtain ⟨b4, rfl⟩ := len1 hbs
    refine Ops.memEq (M' := [_, _, _, _]) rfl ?_
    refine Ops.cv (Cv.wk (.cons (t := 2) (Has.t rfl) (.cons (t := 3) (Has.t rfl) (.cons (t := 4) (Has.t rfl) (.cons (t := 5) (Has.t rfl) (.cons (t := 26) (Has.t rfl) (.cons (t := 6) (Has.op rfl) .nil))))))) ?_
    refine Ops.store (Has.t rfl) (Has.t rfl) (i := 0) rfl ty89 rfl rfl (Ss' := [_]) rfl (M' := [(some _, cellM [_]), _, _, _]) rfl ?_
    refine nl ?_
    refine At.thn (hK4 _ _ ?_); clear hK4
    refine Tri.seq fun K5 hK5 => ?_
    refine Tri.seq fun K6 hK6 => ?_
    refine Tri.dr ?_
    refine DrG.st (i := 0) [] rfl rfl rfl (by kernel_rfl) (OKG.o rfl (OK1.load1 (Has.t rfl) (i := 0) rfl ty89 rfl)) ?_
    refine DrG.st (i := 1) [27] rfl rfl rfl (by kernel_rfl) (OKG.o rfl (OK1.nilcP (Has.t rfl))) ?_
    refine DrG.st (i := 2) [28] rfl rfl rfl (by kernel_rfl) (OKG.o rfl (OK1.fieldAddrP (Has.t rfl) fld94_2 ty32 (Ss' := [_, _]) rfl)) ?_
    refine DrG.st (i := 3) [29] rfl rfl rfl (by kernel_rfl) (OKG.o rfl (OK1.loadP1 (Has.t rfl) ty32)) ?_
    refine DrG.st (i := 4) [30] rfl rfl rfl (by kernel_rfl) (OKG.o rfl (OK1.len sl32 (Has.t rfl))) ?_
    refine DrG.st (i := 5) [] rfl rfl rfl (by kernel_rfl) (OKG.o rfl (OK1.fieldAddr (Has.t rfl) fld24_0 ty3)) ?_
    refine DrG.st (i := 6) [32] rfl rfl rfl (by kernel_rfl) (OKG.o rfl (OK1.load1 (Has.t rfl) (i := 2) rfl ty3 rfl)) ?_
    refine DrG.fin (n := 7) mixed (by kernel_rfl) (by kernel_rfl) (by kernel_rfl) ?_
    refine Ops.cv (Cv.wk (.cons (t := 2) (Has.t rfl) (.cons (t := 3) (Has.t rfl) (.cons (t := 4) (Has.t rfl) (.cons (t := 5) (Has.t rfl) (.cons (t := 6) (Has.t rfl) (.cons (t := 31) (Has.t rfl) (.cons (t := 33) (Has.t rfl) .nil)))))))) ?_
    refine st (OK1.ltI (Has.t rfl) (Has.t rfl)) rfl ?_
    refine nl ?_
    refine At.thn (hK6 _ _ ?_); clear hK6
    refine Tri.cond (Has.t rfl) (fun hc2 => ?_) (fun hc2 => ?_)
    · have hc2 := BP.t hc2
      omega
    · have hc2 := BP.f hc2
      refine Tri.skip ?_
      refine At.thn (hK5 _ _ ?_); clear hK5
      refine Tri.seq fun K7 hK7 => ?_
      refine Tri.region ?_
      refine st (OK1.load (Has.t rfl) (i := 3) rfl ty29 rfl (Ss' := [_]) rfl) rfl ?_
      refine st (OK1.fieldAddr (Has.t rfl) fld24_0 ty3) rfl ?_
      refine st (OK1.load1 (Has.t rfl) (i := 2) rfl ty3 rfl) rfl ?_
      refine st (OK1.fieldAddr (Has.t rfl) fld24_0 ty3) rfl ?_
      refine st (OK1.load1 (Has.t rfl) (i := 2) rfl ty3 rfl) rfl ?_
      refine Ops.cv (Cv.freezeBox (t := 6) (i := 0) rfl rfl rfl) ?_
      refine Ops.memEq (M' := [_, _, _]) rfl ?_
      refine Ops.cv (Cv.wk (.cons (t := 2) (Has.t rfl) (.cons (t := 3) (Has.t rfl) (.cons (t := 4) (Has.t rfl) (.cons (t := 5) (Has.t rfl) (.cons (t := 6) (Has.t rfl) (.cons (t := 31) (Has.t rfl) (.cons (t := 33) (Has.t rfl) (.cons (t := 34) (Has.t rfl) (.cons (t := 36) (Has.t rfl) (.cons (t := 37) (Has.t rfl) (.cons (t := 38) (Has.t rfl) (.cons (t := 39) (Has.t rfl) (.cons (t := 40) (Has.t rfl) .nil)))))))))))))) ?_
      refine Ops.cv (Cv.freezeBox (t := 3) (i := 1) rfl rfl rfl) ?_
      refine Ops.memEq (M' := [_, _]) rfl ?_
      refine Ops.cv (Cv.wk (.cons (t := 2) (Has.t rfl) (.cons (t := 3) (Has.t rfl) (.cons (t := 4) (Has.t rfl) (.cons (t := 5) (Has.t rfl) (.cons (t := 6) (Has.t rfl) (.cons (t := 31) (Has.t rfl) (.cons (t := 33) (Has.t rfl) (.cons (t := 34) (Has.t rfl) (.cons (t := 36) (Has.t rfl) (.cons (t := 38) (Has.t rfl) (.cons (t := 40) (Has.t rfl) .nil)))))))))))) ?_
      refine st (OK1.makeFn (ι := PI R R) (As := fun p => [isI (p.1.1 : Int), isI (p.1.2 : Int)]) (R := fun p => isU (ent s p.1.1 (R + p.1.2))) (fun p => fmat_Inverse_1 hok1 hok2 hR p.2.1 (by have := p.2.2; omega) (by omega)) .nil (.cons (Has.t rfl) (.cons (Has.t rfl) .nil))) rfl ?_
      refine st (OK1.call (fmat_made (f := fun i k => ent s i (R + k)) hR hR) (.cons (Has.t rfl) (.cons (Has.t rfl) (.cons (Has.t rfl) (.cons (Has.t rfl) .nil))))) rfl ?_
      refine Ops.store (Has.t rfl) (Has.t rfl) (i := 0) rfl ty24 rfl rfl (Ss' := [_, _, _]) rfl (M' := [(some _, cellM [_, _, _]), _]) rfl ?_
      refine st (OK1.as (Has.cI 0 rfl)) rfl ?_
      refine nl ?_
      refine At.thn (hK7 _ _ ?_); clear hK7
      refine Tri.cv (Cv.wk (.cons (t := 4) (Has.t rfl) (.cons (t := 5) (Has.t rfl) .nil))) ?_
      refine Tri.ret ?_
      refine rtN (.inl rfl) Try.results25 rfl rfl (.cell rfl (i := 0) rfl ty24 rfl ?_ (.tmp (Has.t' rfl ?_) .nil))
      · rfl
      · rfl
set_option maxHeartbeats 4000000 in
theorem fmat_Inverse_none {q R : Nat} {xs : List Nat} (hq : q < 4294967296) (hp2 : 2 ≤ fp q) (hR : R ≤ 64) (hxl : xs.length = R * R) (hfull : (redS (fp q) R R R xs (tabU (R * R) R fun i k => (if i = k then 1 else 0) % fp q)).ps.length < R) : Ctr Try.prog 25 [Flat [isU q], isMW R R xs] (isTup [isMW 0 0 [], isI 3]) := by
  refine Ctr.intro Try.func25 rfl (by kernel_rfl) Try.ntmps25 rfl fun w0 F0 => ?_
  refine Tri.cv (Cv.wk (.cons (t := 0) (Has.t rfl) (.cons (t := 1) (Has.t rfl) .nil))) ?_
  have hRC := side_le hR hR
  have hok := fred_ok (p := fp q) (W := R + R) (rowsU_len (fp q) R R R xs (tabU (R * R) R fun i k => (if i = k then 1 else 0) % fp q)) (fun r hr => rowsU_row hr) (1 % fp q) R
  obtain ⟨s, hs⟩ : ∃ s, s = redS (fp q) R R R xs (tabU (R * R) R fun i k => (if i = k then 1 else 0) % fp q) := ⟨_, rfl⟩
  have hok1 : s.rows.length = R := by rw [hs]; exact hok.1
  have hok2 : ∀ r ∈ s.rows, r.length = R + R := by rw [hs]; exact hok.2.1
  have hok3 : s.ps.length ≤ R := by rw [hs]; exact hok.2.2
  have hfo := formB_true hR hR hxl
  have hpv := pv_len s.ps
  rw [← hs] at hfull
  refine Tri.seq fun K1 hK1 => ?_
  refine Tri.region ?_
  refine Ops.box (Has.t rfl) rfl fun b1 => ?_
  refine Ops.box (Has.t rfl) rfl fun b2 => ?_
  refine Ops.alloc [isI 0, isI 0, SlM isU []] zero24 (fun _ _ => ⟨⟨rfl, by decide, by decide⟩, ⟨rfl, by decide, by decide⟩, nilM _ _, trivial⟩) rfl fun b3 => ?_
  refine st (OK1.as (Has.cI 0 rfl)) rfl ?_
  refine nl ?_
  refine At.thn (hK1 _ _ ?_); clear hK1
  refine Tri.seq fun K2 hK2 => ?_
  refine Tri.seq fun K3 hK3 => ?_
  refine Tri.region ?_
  refine st (OK1.load (Has.t rfl) (i := 1) rfl ty24 rfl (Ss' := [_, _, _]) rfl) rfl ?_
  refine st (OK1.eq (OK1.call (fmat_Formed) (.cons (Has.t rfl) .nil)) ((show isB _ = isB true from isB_eq hfo))) rfl ?_
  refine st (OK1.not (Has.t rfl)) rfl ?_
  refine st (OK1.mv (Has.t rfl)) rfl ?_
  refine stF rfl rfl (fun hg => have hg' := BP.t hg; OK1.fieldAddr (Has.t rfl) fld24_0 ty3) rfl ?_
  refine stF rfl rfl (fun hg => have hg' := BP.t hg; OK1.load1 (Has.g rfl hg) (i := 1) rfl ty3 rfl) rfl ?_
  refine stF rfl rfl (fun hg => have hg' := BP.t hg; OK1.fieldAddr (Has.t rfl) fld24_1 ty3) rfl ?_
  refine stF rfl rfl (fun hg => have hg' := BP.t hg; OK1.load1 (Has.g rfl hg) (i := 1) rfl ty3 rfl) rfl ?_
  refine stF rfl rfl (fun hg => have hg' := BP.t hg; OK1.neI (Has.g rfl hg) (Has.g rfl hg)) rfl ?_
  refine st (OK1.pickOr (Has.t rfl) (fun h => Has.g rfl (ng h))) rfl ?_
  refine nl ?_
  refine At.thn (hK3 _ _ ?_); clear hK3
  refine Tri.cv (Cv.wk (.cons (t := 2) (Has.t rfl) (.cons (t := 3) (Has.t rfl) (.cons (t := 4) (Has.t rfl) (.cons (t := 5) (Has.t rfl) (.cons (t := 16) (Has.t rfl) .nil)))))) ?_
  refine Tri.cond (Has.t rfl) (fun hc1 => ?_) (fun hc1 => ?_)
  · have hc1 := BP.t hc1
    simp at hc1
  · have hc1 := BP.f hc1
    refine Tri.skip ?_
    refine At.thn (hK2 _ _ ?_); clear hK2
    refine Tri.seq fun K4 hK4 => ?_
    refine Tri.drh [true, true, true] (Ms := [_, _, _]) rfl ?_
    refine DrH.st (i := 0) [] rfl rfl rfl (by kernel_rfl) (OKG.o rfl (OK1.load (Has.t rfl) (i := 2) rfl ty29 rfl (Ss' := [_]) rfl)) ?_
    refine DrH.st (i := 1) [] rfl rfl rfl (by kernel_rfl) (OKG.o rfl (OK1.load (Has.t rfl) (i := 1) rfl ty24 rfl (Ss' := [_, _, _]) rfl)) ?_
    refine DrH.st (i := 2) [] rfl rfl rfl (by kernel_rfl) (OKG.o rfl (OK1.load (Has.t rfl) (i := 2) rfl ty29 rfl (Ss' := [_]) rfl)) ?_
    refine DrH.st (i := 3) [] rfl rfl rfl (by kernel_rfl) (OKG.o rfl (OK1.fieldAddr (Has.t rfl) fld24_0 ty3)) ?_
    refine DrH.st (i := 4) [21] rfl rfl rfl (by kernel_rfl) (OKG.o rfl (OK1.load1 (Has.t rfl) (i := 1) rfl ty3 rfl)) ?_
    refine DrH.st (i := 5) [] rfl rfl rfl (by kernel_rfl) (OKG.o rfl (OK1.fieldAddr (Has.t rfl) fld24_0 ty3)) ?_
    refine DrH.st (i := 6) [23] rfl rfl rfl (by kernel_rfl) (OKG.o rfl (OK1.load1 (Has.t rfl) (i := 1) rfl ty3 rfl)) ?_
    refine DrH.st (i := 7) [20, 22, 24] rfl rfl rfl (by kernel_rfl) (OKG.o rfl (OK1.call (fmat_made (f := fun i k => if i = k then 1 else 0) hR hR) (.cons (Has.t rfl) (.cons (Has.t rfl) (.cons (Has.t rfl) (.cons (Has.fn (ι := PI R R) (As := fun p => [isI (p.1.1 : Int), isI (p.1.2 : Int)]) (R := fun p => isU (if p.1.1 = p.1.2 then 1 else 0)) (fun p => fmat_one)) .nil)))))) ?_
    refine DrH.st (i := 8) [18, 19, 25] rfl rfl rfl (by kernel_rfl) (OKG.o rfl (OK1.eq (OK1.call (fmat_reduced (D := R) hq hp2 hR hR hR hxl (tabU_len _ _ _)) (.cons (Has.t rfl) (.cons (Has.t rfl) (.cons (Has.t rfl) .nil)))) ((show wkFU q _ = wkFU q s from by rw [hs]; rfl)))) ?_
    refine DrH.als (n1 := 10) (ds := [6]) (zs := [[nilP]]) rfl (.cons rfl rfl zero89 (fun _ _ => ⟨rfl, trivial⟩) .nil) (.cons_cons _ (.cons_cons _ (.cons_cons _ .slnil))) (Cs := [_]) rfl ?_
    refine DrN.fin (n := 10) mixed rfl (by kernel_rfl) (by kernel_rfl) (by kernel_rfl) (fun bs hbs => ?_)
    obtain ⟨b4, rfl⟩ := len1 hbs
    refine Ops.memEq (M' := [_, _, _, _]) rfl ?_
    refine Ops.cv (Cv.wk (.cons (t := 2) (Has.t rfl) (.cons (t := 3) (Has.t rfl) (.cons (t := 4) (Has.t rfl) (.cons (t := 5) (Has.t rfl) (.cons (t := 26) (Has.t rfl) (.cons (t := 6) (Has.op rfl) .nil))))))) ?_
    refine Ops.store (Has.t rfl) (Has.t rfl) (i := 0) rfl ty89 rfl rfl (Ss' := [_]) rfl (M' := [(some _, cellM [_]), _, _, _]) rfl ?_
    refine nl ?_
    refine At.thn (hK4 _ _ ?_); clear hK4
    refine Tri.seq fun K5 hK5 => ?_
    refine Tri.seq fun K6 hK6 => ?_
    refine Tri.dr ?_
    refine DrG.st (i := 0) [] rfl rfl rfl (by kernel_rfl) (OKG.o rfl (OK1.load1 (Has.t rfl) (i := 0) rfl ty89 rfl)) ?_
    refine DrG.st (i := 1) [27] rfl rfl rfl (by kernel_rfl) (OKG.o rfl (OK1.nilcP (Has.t rfl))) ?_
    refine DrG.st (i := 2) [28] rfl rfl rfl (by kernel_rfl) (OKG.o rfl (OK1.fieldAddrP (Has.t rfl) fld94_2 ty32 (Ss' := [_, _]) rfl)) ?_
    refine DrG.st (i := 3) [29] rfl rfl rfl (by kernel_rfl) (OKG.o rfl (OK1.loadP1 (Has.t rfl) ty32)) ?_
    refine DrG.st (i := 4) [30] rfl rfl rfl (by kernel_rfl) (OKG.o rfl (OK1.len sl32 (Has.t rfl))) ?_
    refine DrG.st (i := 5) [] rfl rfl rfl (by kernel_rfl) (OKG.o rfl (OK1.fieldAddr (Has.t rfl) fld24_0 ty3)) ?_
    refine DrG.st (i := 6) [32] rfl rfl rfl (by kernel_rfl) (OKG.o rfl (OK1.load1 (Has.t rfl) (i := 2) rfl ty3 rfl)) ?_
    refine DrG.fin (n := 7) mixed (by kernel_rfl) (by kernel_rfl) (by kernel_rfl) ?_
    refine Ops.cv (Cv.wk (.cons (t := 2) (Has.t rfl) (.cons (t := 3) (Has.t rfl) (.cons (t := 4) (Has.t rfl) (.cons (t := 5) (Has.t rfl) (.cons (t := 6) (Has.t rfl) (.cons (t := 31) (Has.t rfl) (.cons (t := 33) (Has.t rfl) .nil)))))))) ?_
    refine st (OK1.ltI (Has.t rfl) (Has.t rfl)) rfl ?_
    refine nl ?_
    refine At.thn (hK6 _ _ ?_); clear hK6
    refine Tri.cond (Has.t rfl) (fun hc2 => ?_) (fun hc2 => ?_)
    · have hc2 := BP.t hc2
      refine Tri.seq fun K7 hK7 => ?_
      refine Tri.region ?_
      refine st (OK1.build [isI 0, isI 0, SlM isU []] pl24 zero24 (fun _ _ => ⟨⟨rfl, by decide, by decide⟩, ⟨rfl, by decide, by decide⟩, nilM _ _, trivial⟩) .nil (Z'' := [_, _, _]) rfl) rfl ?_
      refine Ops.store (Has.t rfl) (Has.t rfl) (i := 1) rfl ty24 rfl rfl (Ss' := [_, _, _]) rfl (M' := [_, (some _, cellM [_, _, _]), _, _]) rfl ?_
      refine st (OK1.as (Has.cI 3 rfl)) rfl ?_
      refine nl ?_
      refine At.thn (hK7 _ _ ?_); clear hK7
      refine Tri.ret ?_
      refine At.thr ?_
      refine rtN (.inl rfl) Try.results25 rfl rfl (.cell rfl (i := 1) rfl ty24 rfl ?_ (.tmp (Has.t' rfl ?_) .nil))
      · rfl
      · rfl
    · have hc2 := BP.f hc2
      omega
set_option maxHeartbeats 4000000 in
theorem fmat_Inverse_bad {q : Nat} {r c : Int} {xs : List Nat} (hf : r ≠ c ∨ formB r c xs.length = false) : Ctr Try.prog 25 [Flat [isU q], isMW r c xs] (isTup [isMW 0 0 [], isI 2]) := by
  refine Ctr.intro Try.func25 rfl (by kernel_rfl) Try.ntmps25 rfl fun w0 F0 => ?_
  refine Tri.cv (Cv.wk (.cons (t := 0) (Has.t rfl) (.cons (t := 1) (Has.t rfl) .nil))) ?_
  refine Tri.seq fun K1 hK1 => ?_
  refine Tri.region ?_
  refine Ops.box (Has.t rfl) rfl fun b1 => ?_
  refine Ops.box (Has.t rfl) rfl fun b2 => ?_
  refine Ops.alloc [isI 0, isI 0, SlM isU []] zero24 (fun _ _ => ⟨⟨rfl, by decide, by decide⟩, ⟨rfl, by decide, by decide⟩, nilM _ _, trivial⟩) rfl fun b3 => ?_
  refine st (OK1.as (Has.cI 0 rfl)) rfl ?_
  refine nl ?_
  refine At.thn (hK1 _ _ ?_); clear hK1
  refine Tri.seq fun K2 hK2 => ?_
  refine Tri.seq fun K3 hK3 => ?_
  refine Tri.region ?_
  refine st (OK1.load (Has.t rfl) (i := 1) rfl ty24 rfl (Ss' := [_, _, _]) rfl) rfl ?_
  refine st (OK1.call (fmat_Formed) (.cons (Has.t rfl) .nil)) rfl ?_
  refine st (OK1.not (Has.t rfl)) rfl ?_
  refine st (OK1.mv (Has.t rfl)) rfl ?_
  refine stF rfl rfl (fun hg => have hg' := BP.t hg; OK1.fieldAddr (Has.t rfl) fld24_0 ty3) rfl ?_
  refine stF rfl rfl (fun hg => have hg' := BP.t hg; OK1.load1 (Has.g rfl hg) (i := 1) rfl ty3 rfl) rfl ?_
  refine stF rfl rfl (fun hg => have hg' := BP.t hg; OK1.fieldAddr (Has.t rfl) fld24_1 ty3) rfl ?_
  refine stF rfl rfl (fun hg => have hg' := BP.t hg; OK1.load1 (Has.g rfl hg) (i := 1) rfl ty3 rfl) rfl ?_
  refine stF rfl rfl (fun hg => have hg' := BP.t hg; OK1.neI (Has.g rfl hg) (Has.g rfl hg)) rfl ?_
  refine st (OK1.pickOr (Has.t rfl) (fun h => Has.g rfl (ng h))) rfl ?_
  refine nl ?_
  refine At.thn (hK3 _ _ ?_); clear hK3
  refine Tri.cv (Cv.wk (.cons (t := 2) (Has.t rfl) (.cons (t := 3) (Has.t rfl) (.cons (t := 4) (Has.t rfl) (.cons (t := 5) (Has.t rfl) (.cons (t := 16) (Has.t rfl) .nil)))))) ?_
  refine Tri.cond (Has.t rfl) (fun hc1 => ?_) (fun hc1 => ?_)
  · have hc1 := BP.t hc1
    refine Tri.seq fun K4 hK4 => ?_
    refine Tri.region ?_
    refine st (OK1.build [isI 0, isI 0, SlM isU []] pl24 zero24 (fun _ _ => ⟨⟨rfl, by decide, by decide⟩, ⟨rfl, by decide, by decide⟩, nilM _ _, trivial⟩) .nil (Z'' := [_, _, _]) rfl) rfl ?_
    refine Ops.store (Has.t rfl) (Has.t rfl) (i := 0) rfl ty24 rfl rfl (Ss' := [_, _, _]) rfl (M' := [(some _, cellM [_, _, _]), _, _]) rfl ?_
    refine st (OK1.as (Has.cI 2 rfl)) rfl ?_
    refine nl ?_
    refine At.thn (hK4 _ _ ?_); clear hK4
    refine Tri.ret ?_
    refine At.thr ?_
    refine rtN (.inl rfl) Try.results25 rfl rfl (.cell rfl (i := 0) rfl ty24 rfl ?_ (.tmp (Has.t' rfl ?_) .nil))
    · rfl
    · rfl
  · have hc1 := BP.f hc1
    rcases hf with h | h <;> simp_all
end Go.Proofs.Ytfoclelageohiaa
/- Contracts: the document's products, transposes of words. -/
namespace Go.Proofs.Ytfoclelageohiaa
open Go.En Go.RowKit
set_option linter.unusedVariables false
set_option maxRecDepth 10000
open Go.Gf
open Go.Mz
open Go.Mu
open Go.Fe
set_option maxHeartbeats 4000000 in
theorem ref21_Mul {p R C D : Nat} {xs ys : List Nat} (hp : 0 < p) (hp2 : p < 4294967296) (hR : R ≤ 64) (hC : C ≤ 64) (hD : D ≤ 64) (hxl : xs.length = R * C) (hyl : ys.length = C * D) : Ctr Try.prog 24 [isMW R C xs, isMW C D ys, isU p] (isMW R D (tabU (R * D) D fun i k => dotN (fun j => xs.getD (i * C + j) 0) (fun j => ys.getD (j * D + k) 0) C % p)) := by
  refine Ctr.intro Try.func24 rfl (by kernel_rfl) Try.ntmps24 rfl fun w0 F0 => ?_
  refine Tri.cv (Cv.wk (.cons (t := 0) (Has.t rfl) (.cons (t := 1) (Has.t rfl) (.cons (t := 2) (Has.t rfl) .nil)))) ?_
  refine Tri.fact (Has.ltU (Has.t (t := 2) rfl)) fun lt2 => ?_
  have h1 := side_le hR hC
  have h2 := side_le hC hD
  have h3 := side_le hR hD
  obtain ⟨G, hG⟩ : ∃ G : Nat → Nat → Nat, G = fun i k => dotN (fun j => xs.getD (i * C + j) 0) (fun j => ys.getD (j * D + k) 0) C % p := ⟨_, rfl⟩
  rw [← hG]
  refine Tri.seq fun K1 hK1 => ?_
  refine Tri.region ?_
  refine Ops.box (Has.t rfl) rfl fun b1 => ?_
  refine Ops.box (Has.t rfl) rfl fun b2 => ?_
  refine Ops.alloc [isI 0, isI 0, nilS] zero24 (fun _ _ => ⟨⟨rfl, by decide, by decide⟩, ⟨rfl, by decide, by decide⟩, rfl, trivial⟩) rfl fun b3 => ?_
  refine nl ?_
  refine At.thn (hK1 _ _ ?_); clear hK1
  refine Tri.seq fun K2 hK2 => ?_
  refine Tri.region ?_
  refine st (OK1.fieldAddr (Has.t rfl) fld24_0 ty3) rfl ?_
  refine st (OK1.load1 (Has.t rfl) (i := 2) rfl ty3 rfl) rfl ?_
  refine st (OK1.fieldAddr (Has.t rfl) fld24_1 ty3) rfl ?_
  refine st (OK1.load1 (Has.t rfl) (i := 1) rfl ty3 rfl) rfl ?_
  refine st (OK1.build [isI 0, isI 0, nilS] pl24 zero24 (fun _ _ => ⟨⟨rfl, by decide, by decide⟩, ⟨rfl, by decide, by decide⟩, rfl, trivial⟩) (.cons (Has.t rfl) rfl rfl rfl (.cons (Has.t rfl) rfl rfl rfl .nil)) (Z'' := [_, _, _]) rfl) rfl ?_
  refine Ops.alloc [isI 0, isI 0, nilS] zero24 (fun _ _ => ⟨⟨rfl, by decide, by decide⟩, ⟨rfl, by decide, by decide⟩, rfl, trivial⟩) rfl fun b4 => ?_
  refine Ops.store (Has.t rfl) (Has.t rfl) (i := 0) rfl ty24 rfl rfl (Ss' := [_, _, _]) rfl (M' := [(some _, cellM [_, _, _]), _, _, _]) rfl ?_
  refine nl ?_
  refine At.thn (hK2 _ _ ?_); clear hK2
  refine Tri.cv (Cv.wk (.cons (t := 2) (Has.t rfl) (.cons (t := 3) (Has.t rfl) (.cons (t := 4) (Has.t rfl) (.cons (t := 6) (Has.t rfl) (.cons (t := 7) (Has.t rfl) .nil)))))) ?_
  refine Tri.seq fun K3 hK3 => ?_
  refine Tri.seq fun K4 hK4 => ?_
  refine Tri.cv (Cv.growF (Nat) (i := 0) (o := 2) rfl rfl rfl) ?_
  refine Tri.memEq (M' := [grM isU Gr.nil [], _, _, _, _]) rfl ?_
  refine Tri.region ?_
  refine st (OK1.as (Has.cI 0 rfl)) rfl ?_
  refine nl ?_
  refine At.thn (hK4 _ _ ?_); clear hK4
  refine Tri.block ?_
  refine Tri.loopF [2, 3, 4, 6, 7] (fun (z : { z : Nat × Gr Nat // z.1 ≤ R }) => match z with | ⟨(i, g), hI⟩ => [(8, isI (i : Int))]) (fun M => fun (z : { z : Nat × Gr Nat // z.1 ≤ R }) => match z with | ⟨(i, g), hI⟩ => [grM isU g (tabU (i * D + 0) D G), (some b4, cellM [isI (R : Int), isI (D : Int), isGr g (tabU (i * D + 0) D G).length]), (some b3, cellM [isI 0, isI 0, nilS]), (some b2, cellM [isI (C : Int), isI (D : Int), SlM isU ys]), (some b1, cellM [isI (R : Int), isI (C : Int), SlM isU xs])]) (fun (z : { z : Nat × Gr Nat // z.1 ≤ R }) => match z with | ⟨(i, g), hI⟩ => R - i) (⟨(0, Gr.nil), Nat.zero_le _⟩) (Cv.mem (.cons (t := 8) (Has.t' rfl ?_) (.cons (t := 2) (Has.t rfl) (.cons (t := 3) (Has.t rfl) (.cons (t := 4) (Has.t rfl) (.cons (t := 6) (Has.t rfl) (.cons (t := 7) (Has.t rfl) .nil)))))) ?_) ?_
  · rfl
  · exact grFu_eq (n := 0) (ys := []) (by rw [tabU_len, Nat.zero_mul]) (show [] = tabU (0 * D + 0) D G by rw [Nat.zero_mul]; rfl)
  rintro ⟨⟨i, g⟩, hI⟩ K5 hK5
  refine Tri.cv (Cv.wk (.cons (t := 8) (Has.t rfl) (.cons (t := 2) (Has.t rfl) (.cons (t := 3) (Has.t rfl) (.cons (t := 4) (Has.t rfl) (.cons (t := 6) (Has.t rfl) (.cons (t := 7) (Has.t rfl) .nil))))))) ?_
  refine Tri.memEq (M' := [grM isU g (tabU (i * D + 0) D G), (some b4, cellM [isI (R : Int), isI (D : Int), isGr g (tabU (i * D + 0) D G).length]), (some b3, cellM [isI 0, isI 0, nilS]), (some b2, cellM [isI (C : Int), isI (D : Int), SlM isU ys]), (some b1, cellM [isI (R : Int), isI (C : Int), SlM isU xs])]) rfl ?_
  simp only [] at hI
  refine Tri.seq fun K6 hK6 => ?_
  refine Tri.seq fun K7 hK7 => ?_
  refine Tri.region ?_
  refine st (OK1.mv (Has.t rfl)) rfl ?_
  refine st (OK1.fieldAddr (Has.t rfl) fld24_0 ty3) rfl ?_
  refine st (OK1.load1 (Has.t rfl) (i := 4) rfl ty3 rfl) rfl ?_
  refine st (OK1.ltI (Has.t rfl) (Has.t rfl)) rfl ?_
  refine nl ?_
  refine At.thn (hK7 _ _ ?_); clear hK7
  refine Tri.cond (Has.t rfl) (fun hc1 => ?_) (fun hc1 => ?_)
  · have hc1 := BP.t hc1
    refine Tri.skip ?_
    refine At.thn (hK6 _ _ ?_); clear hK6
    refine Tri.seq fun K8 hK8 => ?_
    refine Tri.block ?_
    refine Tri.seq fun K9 hK9 => ?_
    refine Tri.region ?_
    refine st (OK1.as (Has.cI 0 rfl)) rfl ?_
    refine nl ?_
    refine At.thn (hK9 _ _ ?_); clear hK9
    refine Tri.block ?_
    refine Tri.loopF [2, 3, 4, 6, 7, 8, 17, 18, 19, 20] (fun (z : { z : Nat × Gr Nat // z.1 ≤ D }) => match z with | ⟨(k, g2), hK⟩ => [(9, isI (k : Int))]) (fun M => fun (z : { z : Nat × Gr Nat // z.1 ≤ D }) => match z with | ⟨(k, g2), hK⟩ => [grM isU g2 (tabU (i * D + k) D G), (some b4, cellM [isI (R : Int), isI (D : Int), isGr g2 (tabU (i * D + k) D G).length]), (some b3, cellM [isI 0, isI 0, nilS]), (some b2, cellM [isI (C : Int), isI (D : Int), SlM isU ys]), (some b1, cellM [isI (R : Int), isI (C : Int), SlM isU xs])]) (fun (z : { z : Nat × Gr Nat // z.1 ≤ D }) => match z with | ⟨(k, g2), hK⟩ => D - k) (⟨(0, g), Nat.zero_le _⟩) (Cv.mem (.cons (t := 9) (Has.t' rfl ?_) (.cons (t := 2) (Has.t rfl) (.cons (t := 3) (Has.t rfl) (.cons (t := 4) (Has.t rfl) (.cons (t := 6) (Has.t rfl) (.cons (t := 7) (Has.t rfl) (.cons (t := 8) (Has.t rfl) (.cons (t := 17) (Has.t rfl) (.cons (t := 18) (Has.t rfl) (.cons (t := 19) (Has.t rfl) (.cons (t := 20) (Has.t rfl) .nil))))))))))) ?_) ?_
    · rfl
    · rfl
    rintro ⟨⟨k, g2⟩, hK⟩ K10 hK10
    refine Tri.cv (Cv.wk (.cons (t := 9) (Has.t rfl) (.cons (t := 2) (Has.t rfl) (.cons (t := 3) (Has.t rfl) (.cons (t := 4) (Has.t rfl) (.cons (t := 6) (Has.t rfl) (.cons (t := 7) (Has.t rfl) (.cons (t := 8) (Has.t rfl) (.cons (t := 17) (Has.t rfl) (.cons (t := 18) (Has.t rfl) (.cons (t := 19) (Has.t rfl) (.cons (t := 20) (Has.t rfl) .nil)))))))))))) ?_
    refine Tri.memEq (M' := [grM isU g2 (tabU (i * D + k) D G), (some b4, cellM [isI (R : Int), isI (D : Int), isGr g2 (tabU (i * D + k) D G).length]), (some b3, cellM [isI 0, isI 0, nilS]), (some b2, cellM [isI (C : Int), isI (D : Int), SlM isU ys]), (some b1, cellM [isI (R : Int), isI (C : Int), SlM isU xs])]) rfl ?_
    simp only [] at hK
    refine Tri.seq fun K11 hK11 => ?_
    refine Tri.seq fun K12 hK12 => ?_
    refine Tri.region ?_
    refine st (OK1.mv (Has.t rfl)) rfl ?_
    refine st (OK1.fieldAddr (Has.t rfl) fld24_1 ty3) rfl ?_
    refine st (OK1.load1 (Has.t rfl) (i := 3) rfl ty3 rfl) rfl ?_
    refine st (OK1.ltI (Has.t rfl) (Has.t rfl)) rfl ?_
    refine nl ?_
    refine At.thn (hK12 _ _ ?_); clear hK12
    refine Tri.cond (Has.t rfl) (fun hc2 => ?_) (fun hc2 => ?_)
    · have hc2 := BP.t hc2
      refine Tri.skip ?_
      refine At.thn (hK11 _ _ ?_); clear hK11
      refine Tri.seq fun K13 hK13 => ?_
      refine Tri.block ?_
      refine Tri.seq fun K14 hK14 => ?_
      refine Tri.region ?_
      refine st (OK1.as (Has.cU 0 rfl)) rfl ?_
      refine nl ?_
      refine At.thn (hK14 _ _ ?_); clear hK14
      refine Tri.seq fun K15 hK15 => ?_
      refine Tri.seq fun K16 hK16 => ?_
      refine Tri.region ?_
      refine st (OK1.as (Has.cI 0 rfl)) rfl ?_
      refine nl ?_
      refine At.thn (hK16 _ _ ?_); clear hK16
      refine Tri.block ?_
      refine Tri.loopF [2, 3, 4, 6, 7, 8, 17, 18, 19, 20, 9, 23, 24, 25, 26] (fun (z : { j : Nat // j ≤ C }) => match z with | ⟨j, hj⟩ => [(11, isI (j : Int)), (10, isU (dotN (fun j => xs.getD (i * C + j) 0) (fun j => ys.getD (j * D + k) 0) j % p))]) (fun M => fun (z : { j : Nat // j ≤ C }) => match z with | ⟨j, hj⟩ => M) (fun (z : { j : Nat // j ≤ C }) => match z with | ⟨j, hj⟩ => C - j) (⟨0, Nat.zero_le _⟩) (Cv.mem (.cons (t := 11) (Has.t' rfl ?_) (.cons (t := 10) (Has.t' rfl ?_) (.cons (t := 2) (Has.t rfl) (.cons (t := 3) (Has.t rfl) (.cons (t := 4) (Has.t rfl) (.cons (t := 6) (Has.t rfl) (.cons (t := 7) (Has.t rfl) (.cons (t := 8) (Has.t rfl) (.cons (t := 17) (Has.t rfl) (.cons (t := 18) (Has.t rfl) (.cons (t := 19) (Has.t rfl) (.cons (t := 20) (Has.t rfl) (.cons (t := 9) (Has.t rfl) (.cons (t := 23) (Has.t rfl) (.cons (t := 24) (Has.t rfl) (.cons (t := 25) (Has.t rfl) (.cons (t := 26) (Has.t rfl) .nil))))))))))))))))) ?_) ?_
      · rfl
      · exact isU_eq (Nat.zero_mod _).symm
      · rfl
      rintro ⟨j, hj⟩ K17 hK17
      refine Tri.cv (Cv.wk (.cons (t := 11) (Has.t rfl) (.cons (t := 10) (Has.t rfl) (.cons (t := 2) (Has.t rfl) (.cons (t := 3) (Has.t rfl) (.cons (t := 4) (Has.t rfl) (.cons (t := 6) (Has.t rfl) (.cons (t := 7) (Has.t rfl) (.cons (t := 8) (Has.t rfl) (.cons (t := 17) (Has.t rfl) (.cons (t := 18) (Has.t rfl) (.cons (t := 19) (Has.t rfl) (.cons (t := 20) (Has.t rfl) (.cons (t := 9) (Has.t rfl) (.cons (t := 23) (Has.t rfl) (.cons (t := 24) (Has.t rfl) (.cons (t := 25) (Has.t rfl) (.cons (t := 26) (Has.t rfl) .nil)))))))))))))))))) ?_
      refine Tri.seq fun K18 hK18 => ?_
      refine Tri.seq fun K19 hK19 => ?_
      refine Tri.region ?_
      refine st (OK1.mv (Has.t rfl)) rfl ?_
      refine st (OK1.fieldAddr (Has.t rfl) fld24_1 ty3) rfl ?_
      refine st (OK1.load1 (Has.t rfl) (i := 4) rfl ty3 rfl) rfl ?_
      refine st (OK1.ltI (Has.t rfl) (Has.t rfl)) rfl ?_
      refine nl ?_
      refine At.thn (hK19 _ _ ?_); clear hK19
      refine Tri.cond (Has.t rfl) (fun hc3 => ?_) (fun hc3 => ?_)
      · have hc3 := BP.t hc3
        have hp1 := place_lt (show i < R by omega) (show j < C by omega)
        have hp3 := place_lt (show j < C by omega) (show k < D by omega)
        have hm1 := Nat.mod_lt (dotN (fun j => xs.getD (i * C + j) 0) (fun j => ys.getD (j * D + k) 0) j) hp
        have hm2 := Nat.mod_lt (xs.getD (i * C + j) 0 % p * (ys.getD (j * D + k) 0 % p)) hp
        refine Tri.skip ?_
        refine At.thn (hK18 _ _ ?_); clear hK18
        refine Tri.seq fun K20 hK20 => ?_
        refine Tri.block ?_
        refine Tri.dr ?_
        refine DrG.st (i := 0) [] rfl rfl rfl (by kernel_rfl) (OKG.o rfl (OK1.mv (Has.t rfl))) ?_
        refine DrG.st (i := 1) [] rfl rfl rfl (by kernel_rfl) (OKG.o rfl (OK1.load (Has.t rfl) (i := 4) rfl ty24 rfl (Ss' := [_, _, _]) rfl)) ?_
        refine DrG.st (i := 2) [] rfl rfl rfl (by kernel_rfl) (OKG.o rfl (OK1.mv (Has.t rfl))) ?_
        refine DrG.st (i := 3) [] rfl rfl rfl (by kernel_rfl) (OKG.o rfl (OK1.mv (Has.t rfl))) ?_
        refine DrG.st (i := 4) [] rfl rfl rfl (by kernel_rfl) (OKG.o rfl (OK1.mv (Has.t rfl))) ?_
        refine DrG.st (i := 5) [36, 37, 38, 39] rfl rfl rfl (by kernel_rfl) (OKG.o rfl (OK1.call (ref21_At (i := i) (k := j) hp (by omega) (by omega)) (.cons (Has.t rfl) (.cons (Has.t rfl) (.cons (Has.t rfl) (.cons (Has.t rfl) .nil)))))) ?_
        refine DrG.st (i := 6) [] rfl rfl rfl (by kernel_rfl) (OKG.o rfl (OK1.load (Has.t rfl) (i := 3) rfl ty24 rfl (Ss' := [_, _, _]) rfl)) ?_
        refine DrG.st (i := 7) [] rfl rfl rfl (by kernel_rfl) (OKG.o rfl (OK1.mv (Has.t rfl))) ?_
        refine DrG.st (i := 8) [] rfl rfl rfl (by kernel_rfl) (OKG.o rfl (OK1.mv (Has.t rfl))) ?_
        refine DrG.st (i := 9) [] rfl rfl rfl (by kernel_rfl) (OKG.o rfl (OK1.mv (Has.t rfl))) ?_
        refine DrG.st (i := 10) [41, 42, 43, 44] rfl rfl rfl (by kernel_rfl) (OKG.o rfl (OK1.call (ref21_At (i := j) (k := k) hp (by omega) (by omega)) (.cons (Has.t rfl) (.cons (Has.t rfl) (.cons (Has.t rfl) (.cons (Has.t rfl) .nil)))))) ?_
        refine DrG.st (i := 11) [] rfl rfl rfl (by kernel_rfl) (OKG.o rfl (OK1.mv (Has.t rfl))) ?_
        refine DrG.st (i := 12) [40, 45, 46] rfl rfl rfl (by kernel_rfl) (OKG.o rfl (OK1.call (ref08_Mul hp hp2) (.cons (Has.t rfl) (.cons (Has.t rfl) (.cons (Has.t rfl) .nil))))) ?_
        refine DrG.st (i := 13) [35, 47] rfl rfl rfl (by kernel_rfl) (OKG.o rfl (OK1.addU' (Has.t rfl) (Has.t rfl) (by first | omega | assumption))) ?_
        refine DrG.st (i := 14) [] rfl rfl rfl (by kernel_rfl) (OKG.o rfl (OK1.mv (Has.t rfl))) ?_
        refine DrG.fin (n := 15) mixed (by kernel_rfl) (by kernel_rfl) (by kernel_rfl) ?_
        refine Ops.cv (Cv.wk (.cons (t := 2) (Has.t rfl) (.cons (t := 3) (Has.t rfl) (.cons (t := 4) (Has.t rfl) (.cons (t := 6) (Has.t rfl) (.cons (t := 7) (Has.t rfl) (.cons (t := 8) (Has.t rfl) (.cons (t := 17) (Has.t rfl) (.cons (t := 18) (Has.t rfl) (.cons (t := 19) (Has.t rfl) (.cons (t := 20) (Has.t rfl) (.cons (t := 9) (Has.t rfl) (.cons (t := 23) (Has.t rfl) (.cons (t := 24) (Has.t rfl) (.cons (t := 25) (Has.t rfl) (.cons (t := 26) (Has.t rfl) (.cons (t := 11) (Has.t rfl) (.cons (t := 10) (Has.t rfl) (.cons (t := 29) (Has.t rfl) (.cons (t := 30) (Has.t rfl) (.cons (t := 31) (Has.t rfl) (.cons (t := 32) (Has.t rfl) (.cons (t := 35) (Has.t rfl) (.cons (t := 36) (Has.t rfl) (.cons (t := 37) (Has.t rfl) (.cons (t := 38) (Has.t rfl) (.cons (t := 39) (Has.t rfl) (.cons (t := 40) (Has.t rfl) (.cons (t := 41) (Has.t rfl) (.cons (t := 42) (Has.t rfl) (.cons (t := 43) (Has.t rfl) (.cons (t := 44) (Has.t rfl) (.cons (t := 45) (Has.t rfl) (.cons (t := 46) (Has.t rfl) (.cons (t := 47) (Has.t rfl) (.cons (t := 48) (Has.t rfl) (.cons (t := 49) (Has.t rfl) .nil))))))))))))))))))))))))))))))))))))) ?_
        refine st (OK1.remU (Has.t rfl) (Has.t rfl) (by first | omega | assumption) (by first | omega | assumption)) rfl ?_
        refine st (OK1.as (Has.t rfl)) rfl ?_
        refine nl ?_
        refine At.bln ?_
        refine At.thn (hK20 _ _ ?_); clear hK20
        refine Tri.region ?_
        refine st (OK1.mv (Has.t rfl)) rfl ?_
        refine st (OK1.addI (Has.t rfl) (Has.cI 1 rfl) (by first | omega | assumption) (by first | omega | assumption)) rfl ?_
        refine st (OK1.as (Has.t rfl)) rfl ?_
        refine nl ?_
        refine At.thn ?_
        refine hK17 (⟨j + 1, by omega⟩) _ _ ?_ (Cv.mem (.cons (t := 11) (Has.t' rfl ?_) (.cons (t := 10) (Has.t' rfl ?_) (.cons (t := 2) (Has.t rfl) (.cons (t := 3) (Has.t rfl) (.cons (t := 4) (Has.t rfl) (.cons (t := 6) (Has.t rfl) (.cons (t := 7) (Has.t rfl) (.cons (t := 8) (Has.t rfl) (.cons (t := 17) (Has.t rfl) (.cons (t := 18) (Has.t rfl) (.cons (t := 19) (Has.t rfl) (.cons (t := 20) (Has.t rfl) (.cons (t := 9) (Has.t rfl) (.cons (t := 23) (Has.t rfl) (.cons (t := 24) (Has.t rfl) (.cons (t := 25) (Has.t rfl) (.cons (t := 26) (Has.t rfl) .nil))))))))))))))))) ?_)
        · show C - (j + 1) < C - j; omega
        · exact isI_eq (by omega)
        · exact isU_eq (mul_step _ _ _ _)
        · rfl
      · have hc3 := BP.f hc3
        skip
        refine Tri.exit ?_
        refine At.the ?_
        refine At.the ?_
        refine At.blh ?_
        refine At.thn (hK15 _ _ ?_); clear hK15
        refine Tri.region ?_
        refine st (OK1.fieldAddr (Has.t rfl) fld24_2 ty22) rfl ?_
        refine st (OK1.load1 (Has.t rfl) (i := 1) rfl ty22 rfl) rfl ?_
        refine st (OK1.eq (OK1.mv (Has.t rfl)) ((show isU _ = isU (G i k) from isU_eq (by rw [hG, show j = C by omega])))) rfl ?_
        refine st (OK1.buildS [isU 0] sl22 ty27 zero27 (fun _ _ => ⟨⟨rfl, by decide⟩, trivial⟩) rfl rfl (.cons (Has.t rfl) rfl rfl rfl .nil) rfl (S := SlM isU [G i k]) rfl) rfl ?_
        refine Ops.appendG (f := isU) (u := 0) sl22 ty27 zero27 (fun _ _ => ⟨⟨rfl, by decide⟩, trivial⟩) (fun _ => inferInstance) by27 (Has.t rfl) (i := 0) rfl (Has.t rfl) (by have hpl := place_lt (show i < R by omega) (show k < D by omega); rw [tabU_len]; show i * D + k + 1 ≤ _; omega) (by simp) rfl fun gr1 => ?_
        refine Ops.memEq (M' := [grM _ _ _, _, _, _, _]) rfl ?_
        refine st (OK1.fieldAddr (Has.t rfl) fld24_2 ty22) rfl ?_
        refine Ops.store (Has.t rfl) (Has.t rfl) (i := 1) rfl ty22 rfl rfl (Ss' := [_, _, _]) rfl (M' := [_, (some _, cellM [_, _, _]), _, _, _]) rfl ?_
        refine nl ?_
        refine At.bln ?_
        refine At.thn (hK13 _ _ ?_); clear hK13
        refine Tri.region ?_
        refine st (OK1.mv (Has.t rfl)) rfl ?_
        refine st (OK1.addI (Has.t rfl) (Has.cI 1 rfl) (by first | omega | assumption) (by first | omega | assumption)) rfl ?_
        refine st (OK1.as (Has.t rfl)) rfl ?_
        refine nl ?_
        refine At.thn ?_
        have hpl := place_lt (show i < R by omega) (show k < D by omega)
        refine hK10 (⟨(k + 1, gr1), by show k + 1 ≤ D; omega⟩) _ _ ?_ (Cv.mem (.cons (t := 9) (Has.t' rfl ?_) (.cons (t := 2) (Has.t rfl) (.cons (t := 3) (Has.t rfl) (.cons (t := 4) (Has.t rfl) (.cons (t := 6) (Has.t rfl) (.cons (t := 7) (Has.t rfl) (.cons (t := 8) (Has.t rfl) (.cons (t := 17) (Has.t rfl) (.cons (t := 18) (Has.t rfl) (.cons (t := 19) (Has.t rfl) (.cons (t := 20) (Has.t rfl) .nil))))))))))) ?_)
        · show D - (k + 1) < D - k; omega
        · exact isI_eq (by omega)
        · exact grFu_eq (by rw [← tabU_succ G (show k < D by omega), List.length_append]) (by rw [← tabU_succ G (show k < D by omega)])
    · have hc2 := BP.f hc2
      refine Tri.exit ?_
      refine At.the ?_
      refine At.the ?_
      refine At.blh ?_
      refine At.bln ?_
      refine At.thn (hK8 _ _ ?_); clear hK8
      refine Tri.region ?_
      refine st (OK1.mv (Has.t rfl)) rfl ?_
      refine st (OK1.addI (Has.t rfl) (Has.cI 1 rfl) (by first | omega | assumption) (by first | omega | assumption)) rfl ?_
      refine st (OK1.as (Has.t rfl)) rfl ?_
      refine nl ?_
      refine At.thn ?_
      have hkD : k = D := by omega
      subst hkD
      refine hK5 (⟨(i + 1, g2), by show i + 1 ≤ R; omega⟩) _ _ ?_ (Cv.mem (.cons (t := 8) (Has.t' rfl ?_) (.cons (t := 2) (Has.t rfl) (.cons (t := 3) (Has.t rfl) (.cons (t := 4) (Has.t rfl) (.cons (t := 6) (Has.t rfl) (.cons (t := 7) (Has.t rfl) .nil)))))) ?_)
      · show R - (i + 1) < R - i; omega
      · exact isI_eq (by omega)
      · exact grFu_eq (by rw [tabU_next]) (by rw [tabU_next])
  · have hc1 := BP.f hc1
    refine Tri.exit ?_
    refine At.the ?_
    refine At.the ?_
    refine At.blh ?_
    refine At.thn (hK3 _ _ ?_); clear hK3
    refine Tri.cv (Cv.wk (.cons (t := 6) (Has.t rfl) (.cons (t := 7) (Has.t rfl) .nil))) ?_
    refine Tri.seq fun K21 hK21 => ?_
    refine Tri.cv (Cv.freezeF (k := 1) (i := 0) (j := 0) (o := 2) rfl rfl rfl rfl gr_lenM gr_takeM (Ss' := [_, _, SlM isU (tabU (i * D + 0) D G)]) rfl) ?_
    refine Tri.memEq (M' := [(some _, cellM [_, _, SlM isU (tabU (i * D + 0) D G)]), _, _, _]) rfl ?_
    refine Tri.cv (Cv.wk (.cons (t := 6) (Has.t rfl) (.cons (t := 7) (Has.t rfl) .nil))) ?_
    refine Tri.region ?_
    refine st (OK1.load (Has.t rfl) (i := 0) rfl ty24 rfl (Ss' := [_, _, _]) rfl) rfl ?_
    refine Ops.store (Has.t rfl) (Has.t rfl) (i := 1) rfl ty24 rfl rfl (Ss' := [_, _, _]) rfl (M' := [_, (some _, cellM [_, _, _]), _, _]) rfl ?_
    refine nl ?_
    refine At.thn (hK21 _ _ ?_); clear hK21
    refine Tri.ret ?_
    refine rt1 (.inl rfl) Try.results24 rfl (.cell rfl (i := 1) rfl ty24 rfl ?_ .nil)
    all_goals (rw [Nat.add_zero, show i = R by omega])
end Go.Proofs.Ytfoclelageohiaa
/- Contracts: the document's determinants of words. -/
namespace Go.Proofs.Ytfoclelageohiaa
open Go.En Go.RowKit
set_option linter.unusedVariables false
set_option maxRecDepth 10000
open Go.Gf
open Go.Mz
open Go.Mu
open Go.Fe
set_option maxHeartbeats 4000000 in
theorem ref21_DetStep {n p : Nat} {xs : List Nat} (hp : 2 ≤ p) (hp2 : p < 4294967296) (hR : n + 1 ≤ 64) (hl : xs.length = (n + 1) * (n + 1)) (ih : ∀ ys : List Nat, ys.length = n * n → Ctr Try.prog 26 [isMW (n : Int) (n : Int) ys, isU p] (isU (detW p n ys))) : Ctr Try.prog 26 [isMW ((n + 1 : Nat) : Int) ((n + 1 : Nat) : Int) xs, isU p] (isU (detW p (n + 1) xs)) := by
  refine Ctr.intro Try.func26 rfl (by kernel_rfl) Try.ntmps26 rfl fun w0 F0 => ?_
  refine Tri.cv (Cv.wk (.cons (t := 0) (Has.t rfl) (.cons (t := 1) (Has.t rfl) .nil))) ?_
  refine Tri.fact (Has.ltU (Has.t (t := 1) rfl)) fun lt1 => ?_
  have hRC := side_le hR hR
  have hp0 : 0 < p := (by omega)
  have hnn := side_le (R := n) (C := n) (by omega) (by omega)
  refine Tri.seq fun K1 hK1 => ?_
  refine Tri.region ?_
  refine Ops.box (Has.t rfl) rfl fun b1 => ?_
  refine st (OK1.as (Has.cU 0 rfl)) rfl ?_
  refine nl ?_
  refine At.thn (hK1 _ _ ?_); clear hK1
  refine Tri.seq fun K2 hK2 => ?_
  refine Tri.seq fun K3 hK3 => ?_
  refine Tri.region ?_
  refine st (OK1.fieldAddr (Has.t rfl) fld24_0 ty3) rfl ?_
  refine st (OK1.load1 (Has.t rfl) (i := 0) rfl ty3 rfl) rfl ?_
  refine st (OK1.eqI (Has.t rfl) (Has.cI 0 rfl)) rfl ?_
  refine nl ?_
  refine At.thn (hK3 _ _ ?_); clear hK3
  refine Tri.cond (Has.t rfl) (fun hc1 => ?_) (fun hc1 => ?_)
  · have hc1 := BP.t hc1
    omega
  · have hc1 := BP.f hc1
    skip
    refine Tri.skip ?_
    refine At.thn (hK2 _ _ ?_); clear hK2
    refine Tri.seq fun K4 hK4 => ?_
    refine Tri.region ?_
    refine st (OK1.as (Has.cU 0 rfl)) rfl ?_
    refine nl ?_
    refine At.thn (hK4 _ _ ?_); clear hK4
    refine Tri.seq fun K5 hK5 => ?_
    refine Tri.seq fun K6 hK6 => ?_
    refine Tri.region ?_
    refine st (OK1.as (Has.cI 0 rfl)) rfl ?_
    refine nl ?_
    refine At.thn (hK6 _ _ ?_); clear hK6
    refine Tri.block ?_
    refine Tri.loopF [1, 2, 4] (fun (z : { z : Nat × Nat // z.1 ≤ n + 1 ∧ z.2 < p ∧ Cg p (z.2 : Int) (Go.Dt.sm z.1 (dtW n xs)) }) => match z with | ⟨(k, o), hI⟩ => [(6, isI (k : Int)), (5, isU o)]) (fun M => fun (z : { z : Nat × Nat // z.1 ≤ n + 1 ∧ z.2 < p ∧ Cg p (z.2 : Int) (Go.Dt.sm z.1 (dtW n xs)) }) => match z with | ⟨(k, o), hI⟩ => M) (fun (z : { z : Nat × Nat // z.1 ≤ n + 1 ∧ z.2 < p ∧ Cg p (z.2 : Int) (Go.Dt.sm z.1 (dtW n xs)) }) => match z with | ⟨(k, o), hI⟩ => n + 1 - k) (⟨(0, 0), Nat.zero_le _, hp0, cg_refl _ _⟩) (Cv.mem (.cons (t := 6) (Has.t' rfl ?_) (.cons (t := 5) (Has.t' rfl ?_) (.cons (t := 1) (Has.t rfl) (.cons (t := 2) (Has.t rfl) (.cons (t := 4) (Has.t rfl) .nil))))) ?_) ?_
    · rfl
    · rfl
    · rfl
    rintro ⟨⟨k, o⟩, hI⟩ K7 hK7
    refine Tri.cv (Cv.wk (.cons (t := 6) (Has.t rfl) (.cons (t := 5) (Has.t rfl) (.cons (t := 1) (Has.t rfl) (.cons (t := 2) (Has.t rfl) (.cons (t := 4) (Has.t rfl) .nil)))))) ?_
    simp only [] at hI
    obtain ⟨hk, ho, hcg⟩ := hI
    refine Tri.seq fun K8 hK8 => ?_
    refine Tri.seq fun K9 hK9 => ?_
    refine Tri.region ?_
    refine st (OK1.mv (Has.t rfl)) rfl ?_
    refine st (OK1.fieldAddr (Has.t rfl) fld24_1 ty3) rfl ?_
    refine st (OK1.load1 (Has.t rfl) (i := 0) rfl ty3 rfl) rfl ?_
    refine st (OK1.ltI (Has.t rfl) (Has.t rfl)) rfl ?_
    refine nl ?_
    refine At.thn (hK9 _ _ ?_); clear hK9
    refine Tri.cond (Has.t rfl) (fun hc2 => ?_) (fun hc2 => ?_)
    · have hc2 := BP.t hc2
      have hpl0 := place_lt (show 0 < n + 1 by omega) (show k < n + 1 by omega)
      refine Tri.skip ?_
      refine At.thn (hK8 _ _ ?_); clear hK8
      refine Tri.seq fun K10 hK10 => ?_
      refine Tri.block ?_
      refine Tri.seq fun K11 hK11 => ?_
      refine Tri.region ?_
      refine st (OK1.fieldAddr (Has.t rfl) fld24_0 ty3) rfl ?_
      refine st (OK1.load1 (Has.t rfl) (i := 0) rfl ty3 rfl) rfl ?_
      refine st (OK1.subI (Has.t rfl) (Has.cI 1 rfl) (by first | omega | assumption) (by first | omega | assumption)) rfl ?_
      refine st (OK1.fieldAddr (Has.t rfl) fld24_1 ty3) rfl ?_
      refine st (OK1.load1 (Has.t rfl) (i := 0) rfl ty3 rfl) rfl ?_
      refine st (OK1.subI (Has.t rfl) (Has.cI 1 rfl) (by first | omega | assumption) (by first | omega | assumption)) rfl ?_
      refine st (OK1.build [isI 0, isI 0, nilS] pl24 zero24 (fun _ _ => ⟨⟨rfl, by decide, by decide⟩, ⟨rfl, by decide, by decide⟩, rfl, trivial⟩) (.cons (Has.t rfl) rfl rfl rfl (.cons (Has.t rfl) rfl rfl rfl .nil)) (Z'' := [_, _, _]) rfl) rfl ?_
      refine Ops.alloc [isI 0, isI 0, nilS] zero24 (fun _ _ => ⟨⟨rfl, by decide, by decide⟩, ⟨rfl, by decide, by decide⟩, rfl, trivial⟩) rfl fun b2 => ?_
      refine Ops.store (Has.t rfl) (Has.t rfl) (i := 0) rfl ty24 rfl rfl (Ss' := [_, _, _]) rfl (M' := [(some _, cellM [_, _, _]), _]) rfl ?_
      refine nl ?_
      refine At.thn (hK11 _ _ ?_); clear hK11
      refine Tri.seq fun K12 hK12 => ?_
      refine Tri.seq fun K13 hK13 => ?_
      refine Tri.cv (Cv.growF (Nat) (i := 0) (o := 2) rfl rfl rfl) ?_
      refine Tri.memEq (M' := [grM isU Gr.nil [], _, _]) rfl ?_
      refine Tri.region ?_
      refine st (OK1.as (Has.cI 1 rfl)) rfl ?_
      refine nl ?_
      refine At.thn (hK13 _ _ ?_); clear hK13
      refine Tri.block ?_
      refine Tri.loopF [1, 2, 4, 6, 5, 16, 17, 18, 19, 22, 23, 24, 25, 26, 27, 28, 7] (fun (z : { z : Nat × Gr Nat // 1 ≤ z.1 ∧ z.1 ≤ n + 1 }) => match z with | ⟨(i, g), hI⟩ => [(8, isI (i : Int))]) (fun M => fun (z : { z : Nat × Gr Nat // 1 ≤ z.1 ∧ z.1 ≤ n + 1 }) => match z with | ⟨(i, g), hI⟩ => [grM isU g (tabU (wuN n k i 0) n (wuG p n k xs)), (some b2, cellM [isI ((n + 1 : Nat) - 1 : Int), isI ((n + 1 : Nat) - 1 : Int), isGr g (tabU (wuN n k i 0) n (wuG p n k xs)).length]), (some b1, cellM [isI ((n + 1 : Nat) : Int), isI ((n + 1 : Nat) : Int), SlM isU xs])]) (fun (z : { z : Nat × Gr Nat // 1 ≤ z.1 ∧ z.1 ≤ n + 1 }) => match z with | ⟨(i, g), hI⟩ => n + 1 - i) (⟨(1, Gr.nil), Nat.le_refl _, by show 1 ≤ n + 1; omega⟩) (Cv.mem (.cons (t := 8) (Has.t' rfl ?_) (.cons (t := 1) (Has.t rfl) (.cons (t := 2) (Has.t rfl) (.cons (t := 4) (Has.t rfl) (.cons (t := 6) (Has.t rfl) (.cons (t := 5) (Has.t rfl) (.cons (t := 16) (Has.t rfl) (.cons (t := 17) (Has.t rfl) (.cons (t := 18) (Has.t rfl) (.cons (t := 19) (Has.t rfl) (.cons (t := 22) (Has.t rfl) (.cons (t := 23) (Has.t rfl) (.cons (t := 24) (Has.t rfl) (.cons (t := 25) (Has.t rfl) (.cons (t := 26) (Has.t rfl) (.cons (t := 27) (Has.t rfl) (.cons (t := 28) (Has.t rfl) (.cons (t := 7) (Has.t rfl) .nil)))))))))))))))))) ?_) ?_
      · rfl
      · exact grFu_eq (n := 0) (ys := []) (by rw [tabU_len, wu_start]) (show [] = tabU (wuN n k 1 0) n (wuG p n k xs) by rw [wu_start]; rfl)
      rintro ⟨⟨i, g⟩, hI⟩ K14 hK14
      refine Tri.cv (Cv.wk (.cons (t := 8) (Has.t rfl) (.cons (t := 1) (Has.t rfl) (.cons (t := 2) (Has.t rfl) (.cons (t := 4) (Has.t rfl) (.cons (t := 6) (Has.t rfl) (.cons (t := 5) (Has.t rfl) (.cons (t := 16) (Has.t rfl) (.cons (t := 17) (Has.t rfl) (.cons (t := 18) (Has.t rfl) (.cons (t := 19) (Has.t rfl) (.cons (t := 22) (Has.t rfl) (.cons (t := 23) (Has.t rfl) (.cons (t := 24) (Has.t rfl) (.cons (t := 25) (Has.t rfl) (.cons (t := 26) (Has.t rfl) (.cons (t := 27) (Has.t rfl) (.cons (t := 28) (Has.t rfl) (.cons (t := 7) (Has.t rfl) .nil))))))))))))))))))) ?_
      refine Tri.memEq (M' := [grM isU g (tabU (wuN n k i 0) n (wuG p n k xs)), (some b2, cellM [isI ((n + 1 : Nat) - 1 : Int), isI ((n + 1 : Nat) - 1 : Int), isGr g (tabU (wuN n k i 0) n (wuG p n k xs)).length]), (some b1, cellM [isI ((n + 1 : Nat) : Int), isI ((n + 1 : Nat) : Int), SlM isU xs])]) rfl ?_
      simp only [] at hI
      obtain ⟨hi1, hi2⟩ := hI
      refine Tri.seq fun K15 hK15 => ?_
      refine Tri.seq fun K16 hK16 => ?_
      refine Tri.region ?_
      refine st (OK1.mv (Has.t rfl)) rfl ?_
      refine st (OK1.fieldAddr (Has.t rfl) fld24_0 ty3) rfl ?_
      refine st (OK1.load1 (Has.t rfl) (i := 2) rfl ty3 rfl) rfl ?_
      refine st (OK1.ltI (Has.t rfl) (Has.t rfl)) rfl ?_
      refine nl ?_
      refine At.thn (hK16 _ _ ?_); clear hK16
      refine Tri.cond (Has.t rfl) (fun hc3 => ?_) (fun hc3 => ?_)
      · have hc3 := BP.t hc3
        skip
        refine Tri.skip ?_
        refine At.thn (hK15 _ _ ?_); clear hK15
        refine Tri.seq fun K17 hK17 => ?_
        refine Tri.block ?_
        refine Tri.seq fun K18 hK18 => ?_
        refine Tri.region ?_
        refine st (OK1.as (Has.cI 0 rfl)) rfl ?_
        refine nl ?_
        refine At.thn (hK18 _ _ ?_); clear hK18
        refine Tri.block ?_
        refine Tri.loopF [1, 2, 4, 6, 5, 16, 17, 18, 19, 22, 23, 24, 25, 26, 27, 28, 7, 8, 29, 30, 31, 32] (fun (z : { z : Nat × Gr Nat // z.1 ≤ n + 1 }) => match z with | ⟨(j, g2), hJ⟩ => [(9, isI (j : Int))]) (fun M => fun (z : { z : Nat × Gr Nat // z.1 ≤ n + 1 }) => match z with | ⟨(j, g2), hJ⟩ => [grM isU g2 (tabU (wuN n k i j) n (wuG p n k xs)), (some b2, cellM [isI ((n + 1 : Nat) - 1 : Int), isI ((n + 1 : Nat) - 1 : Int), isGr g2 (tabU (wuN n k i j) n (wuG p n k xs)).length]), (some b1, cellM [isI ((n + 1 : Nat) : Int), isI ((n + 1 : Nat) : Int), SlM isU xs])]) (fun (z : { z : Nat × Gr Nat // z.1 ≤ n + 1 }) => match z with | ⟨(j, g2), hJ⟩ => n + 1 - j) (⟨(0, g), Nat.zero_le _⟩) (Cv.mem (.cons (t := 9) (Has.t' rfl ?_) (.cons (t := 1) (Has.t rfl) (.cons (t := 2) (Has.t rfl) (.cons (t := 4) (Has.t rfl) (.cons (t := 6) (Has.t rfl) (.cons (t := 5) (Has.t rfl) (.cons (t := 16) (Has.t rfl) (.cons (t := 17) (Has.t rfl) (.cons (t := 18) (Has.t rfl) (.cons (t := 19) (Has.t rfl) (.cons (t := 22) (Has.t rfl) (.cons (t := 23) (Has.t rfl) (.cons (t := 24) (Has.t rfl) (.cons (t := 25) (Has.t rfl) (.cons (t := 26) (Has.t rfl) (.cons (t := 27) (Has.t rfl) (.cons (t := 28) (Has.t rfl) (.cons (t := 7) (Has.t rfl) (.cons (t := 8) (Has.t rfl) (.cons (t := 29) (Has.t rfl) (.cons (t := 30) (Has.t rfl) (.cons (t := 31) (Has.t rfl) (.cons (t := 32) (Has.t rfl) .nil))))))))))))))))))))))) ?_) ?_
        · rfl
        · rfl
        rintro ⟨⟨j, g2⟩, hJ⟩ K19 hK19
        refine Tri.cv (Cv.wk (.cons (t := 9) (Has.t rfl) (.cons (t := 1) (Has.t rfl) (.cons (t := 2) (Has.t rfl) (.cons (t := 4) (Has.t rfl) (.cons (t := 6) (Has.t rfl) (.cons (t := 5) (Has.t rfl) (.cons (t := 16) (Has.t rfl) (.cons (t := 17) (Has.t rfl) (.cons (t := 18) (Has.t rfl) (.cons (t := 19) (Has.t rfl) (.cons (t := 22) (Has.t rfl) (.cons (t := 23) (Has.t rfl) (.cons (t := 24) (Has.t rfl) (.cons (t := 25) (Has.t rfl) (.cons (t := 26) (Has.t rfl) (.cons (t := 27) (Has.t rfl) (.cons (t := 28) (Has.t rfl) (.cons (t := 7) (Has.t rfl) (.cons (t := 8) (Has.t rfl) (.cons (t := 29) (Has.t rfl) (.cons (t := 30) (Has.t rfl) (.cons (t := 31) (Has.t rfl) (.cons (t := 32) (Has.t rfl) .nil)))))))))))))))))))))))) ?_
        refine Tri.memEq (M' := [grM isU g2 (tabU (wuN n k i j) n (wuG p n k xs)), (some b2, cellM [isI ((n + 1 : Nat) - 1 : Int), isI ((n + 1 : Nat) - 1 : Int), isGr g2 (tabU (wuN n k i j) n (wuG p n k xs)).length]), (some b1, cellM [isI ((n + 1 : Nat) : Int), isI ((n + 1 : Nat) : Int), SlM isU xs])]) rfl ?_
        simp only [] at hJ
        refine Tri.seq fun K20 hK20 => ?_
        refine Tri.seq fun K21 hK21 => ?_
        refine Tri.region ?_
        refine st (OK1.mv (Has.t rfl)) rfl ?_
        refine st (OK1.fieldAddr (Has.t rfl) fld24_1 ty3) rfl ?_
        refine st (OK1.load1 (Has.t rfl) (i := 2) rfl ty3 rfl) rfl ?_
        refine st (OK1.ltI (Has.t rfl) (Has.t rfl)) rfl ?_
        refine nl ?_
        refine At.thn (hK21 _ _ ?_); clear hK21
        refine Tri.cond (Has.t rfl) (fun hc4 => ?_) (fun hc4 => ?_)
        · have hc4 := BP.t hc4
          have hpl := place_lt (show i < n + 1 by omega) (show j < n + 1 by omega)
          have hwl := wu_le (n := n) (k := k) (i := i) (j := j + 1) (by omega) hi1 (by omega) (by omega)
          refine Tri.skip ?_
          refine At.thn (hK20 _ _ ?_); clear hK20
          refine Tri.seq fun K22 hK22 => ?_
          refine Tri.block ?_
          refine Tri.seq fun K23 hK23 => ?_
          refine Tri.region ?_
          refine st (OK1.mv (Has.t rfl)) rfl ?_
          refine st (OK1.mv (Has.t rfl)) rfl ?_
          refine st (OK1.neI (Has.t rfl) (Has.t rfl)) rfl ?_
          refine nl ?_
          refine At.thn (hK23 _ _ ?_); clear hK23
          refine Tri.cond (Has.t rfl) (fun hc5 => ?_) (fun hc5 => ?_)
          · have hc5 := BP.t hc5
            have hjk : j ≠ k := (by omega)
            refine Tri.dr ?_
            refine DrG.st (i := 0) [] rfl rfl rfl (by kernel_rfl) (OKG.o rfl (OK1.fieldAddr (Has.t rfl) fld24_2 ty22)) ?_
            refine DrG.st (i := 1) [44] rfl rfl rfl (by kernel_rfl) (OKG.o rfl (OK1.load1 (Has.t rfl) (i := 1) rfl ty22 rfl)) ?_
            refine DrG.st (i := 2) [] rfl rfl rfl (by kernel_rfl) (OKG.o rfl (OK1.load (Has.t rfl) (i := 2) rfl ty24 rfl (Ss' := [_, _, _]) rfl)) ?_
            refine DrG.st (i := 3) [] rfl rfl rfl (by kernel_rfl) (OKG.o rfl (OK1.mv (Has.t rfl))) ?_
            refine DrG.st (i := 4) [] rfl rfl rfl (by kernel_rfl) (OKG.o rfl (OK1.mv (Has.t rfl))) ?_
            refine DrG.st (i := 5) [] rfl rfl rfl (by kernel_rfl) (OKG.o rfl (OK1.mv (Has.t rfl))) ?_
            refine DrG.st (i := 6) [46, 47, 48, 49] rfl rfl rfl (by kernel_rfl) (OKG.o rfl (OK1.call (ref21_At (i := i) (k := j) hp0 (by omega) (by omega)) (.cons (Has.t rfl) (.cons (Has.t rfl) (.cons (Has.t rfl) (.cons (Has.t rfl) .nil)))))) ?_
            refine DrG.st (i := 7) [50] rfl rfl rfl (by kernel_rfl) (OKG.o rfl (OK1.buildS [isU 0] sl22 ty27 zero27 (fun _ _ => ⟨⟨rfl, by decide⟩, trivial⟩) rfl rfl (.cons (Has.t rfl) rfl rfl rfl .nil) rfl (S := SlM isU [xs.getD (i * (n + 1) + j) 0 % p]) rfl)) ?_
            refine DrG.fin (n := 8) mixed (by kernel_rfl) (by kernel_rfl) (by kernel_rfl) ?_
            refine Ops.cv (Cv.wk (.cons (t := 1) (Has.t rfl) (.cons (t := 2) (Has.t rfl) (.cons (t := 4) (Has.t rfl) (.cons (t := 6) (Has.t rfl) (.cons (t := 5) (Has.t rfl) (.cons (t := 16) (Has.t rfl) (.cons (t := 17) (Has.t rfl) (.cons (t := 18) (Has.t rfl) (.cons (t := 19) (Has.t rfl) (.cons (t := 22) (Has.t rfl) (.cons (t := 23) (Has.t rfl) (.cons (t := 24) (Has.t rfl) (.cons (t := 25) (Has.t rfl) (.cons (t := 26) (Has.t rfl) (.cons (t := 27) (Has.t rfl) (.cons (t := 28) (Has.t rfl) (.cons (t := 7) (Has.t rfl) (.cons (t := 8) (Has.t rfl) (.cons (t := 29) (Has.t rfl) (.cons (t := 30) (Has.t rfl) (.cons (t := 31) (Has.t rfl) (.cons (t := 32) (Has.t rfl) (.cons (t := 9) (Has.t rfl) (.cons (t := 35) (Has.t rfl) (.cons (t := 36) (Has.t rfl) (.cons (t := 37) (Has.t rfl) (.cons (t := 38) (Has.t rfl) (.cons (t := 41) (Has.t rfl) (.cons (t := 42) (Has.t rfl) (.cons (t := 43) (Has.t rfl) (.cons (t := 44) (Has.t rfl) (.cons (t := 45) (Has.t rfl) (.cons (t := 46) (Has.t rfl) (.cons (t := 47) (Has.t rfl) (.cons (t := 48) (Has.t rfl) (.cons (t := 49) (Has.t rfl) (.cons (t := 50) (Has.t rfl) (.cons (t := 51) (Has.t rfl) .nil))))))))))))))))))))))))))))))))))))))) ?_
            refine Ops.appendG (f := isU) (u := 0) sl22 ty27 zero27 (fun _ _ => ⟨⟨rfl, by decide⟩, trivial⟩) (fun _ => inferInstance) by27 (Has.t rfl) (i := 0) rfl (Has.t rfl) (by rw [tabU_len]; have := wu_app (p := p) (xs := xs) hi1 (show j < n + 1 by omega) (show k < n + 1 by omega) hjk; have := congrArg List.length this; rw [List.length_append, tabU_len, tabU_len] at this; show _ + 1 ≤ _; have h3 : [xs.getD (i * (n + 1) + j) 0 % p].length = 1 := rfl; omega) (by simp) rfl fun gr1 => ?_
            refine Ops.memEq (M' := [grM _ _ _, _, _]) rfl ?_
            refine st (OK1.fieldAddr (Has.t rfl) fld24_2 ty22) rfl ?_
            refine Ops.store (Has.t rfl) (Has.t rfl) (i := 1) rfl ty22 rfl rfl (Ss' := [_, _, _]) rfl (M' := [_, (some _, cellM [_, _, _]), _]) rfl ?_
            refine nl ?_
            refine At.bln ?_
            refine At.thn (hK22 _ _ ?_); clear hK22
            refine Tri.region ?_
            refine st (OK1.mv (Has.t rfl)) rfl ?_
            refine st (OK1.addI (Has.t rfl) (Has.cI 1 rfl) (by first | omega | assumption) (by first | omega | assumption)) rfl ?_
            refine st (OK1.as (Has.t rfl)) rfl ?_
            refine nl ?_
            refine At.thn ?_
            refine hK19 (⟨(j + 1, gr1), by show j + 1 ≤ n + 1; omega⟩) _ _ ?_ (Cv.mem (.cons (t := 9) (Has.t' rfl ?_) (.cons (t := 1) (Has.t rfl) (.cons (t := 2) (Has.t rfl) (.cons (t := 4) (Has.t rfl) (.cons (t := 6) (Has.t rfl) (.cons (t := 5) (Has.t rfl) (.cons (t := 16) (Has.t rfl) (.cons (t := 17) (Has.t rfl) (.cons (t := 18) (Has.t rfl) (.cons (t := 19) (Has.t rfl) (.cons (t := 22) (Has.t rfl) (.cons (t := 23) (Has.t rfl) (.cons (t := 24) (Has.t rfl) (.cons (t := 25) (Has.t rfl) (.cons (t := 26) (Has.t rfl) (.cons (t := 27) (Has.t rfl) (.cons (t := 28) (Has.t rfl) (.cons (t := 7) (Has.t rfl) (.cons (t := 8) (Has.t rfl) (.cons (t := 29) (Has.t rfl) (.cons (t := 30) (Has.t rfl) (.cons (t := 31) (Has.t rfl) (.cons (t := 32) (Has.t rfl) .nil))))))))))))))))))))))) ?_)
            · show n + 1 - (j + 1) < n + 1 - j; omega
            · exact isI_eq (by omega)
            · exact grFu_eq (by rw [← wu_app (p := p) (xs := xs) hi1 (by omega) (by omega) hjk, List.length_append]) (wu_app hi1 (by omega) (by omega) hjk)
          · have hc5 := BP.f hc5
            have hjk : j = k := (by omega)
            refine Tri.skip ?_
            refine At.bln ?_
            refine At.thn (hK22 _ _ ?_); clear hK22
            refine Tri.region ?_
            refine st (OK1.mv (Has.t rfl)) rfl ?_
            refine st (OK1.addI (Has.t rfl) (Has.cI 1 rfl) (by first | omega | assumption) (by first | omega | assumption)) rfl ?_
            refine st (OK1.as (Has.t rfl)) rfl ?_
            refine nl ?_
            refine At.thn ?_
            refine hK19 (⟨(j + 1, g2), by show j + 1 ≤ n + 1; omega⟩) _ _ ?_ (Cv.mem (.cons (t := 9) (Has.t' rfl ?_) (.cons (t := 1) (Has.t rfl) (.cons (t := 2) (Has.t rfl) (.cons (t := 4) (Has.t rfl) (.cons (t := 6) (Has.t rfl) (.cons (t := 5) (Has.t rfl) (.cons (t := 16) (Has.t rfl) (.cons (t := 17) (Has.t rfl) (.cons (t := 18) (Has.t rfl) (.cons (t := 19) (Has.t rfl) (.cons (t := 22) (Has.t rfl) (.cons (t := 23) (Has.t rfl) (.cons (t := 24) (Has.t rfl) (.cons (t := 25) (Has.t rfl) (.cons (t := 26) (Has.t rfl) (.cons (t := 27) (Has.t rfl) (.cons (t := 28) (Has.t rfl) (.cons (t := 7) (Has.t rfl) (.cons (t := 8) (Has.t rfl) (.cons (t := 29) (Has.t rfl) (.cons (t := 30) (Has.t rfl) (.cons (t := 31) (Has.t rfl) (.cons (t := 32) (Has.t rfl) .nil))))))))))))))))))))))) ?_)
            · show n + 1 - (j + 1) < n + 1 - j; omega
            · exact isI_eq (by omega)
            · exact grFu_eq (by rw [wu_off hjk]) (by rw [wu_off hjk])
        · have hc4 := BP.f hc4
          skip
          refine Tri.exit ?_
          refine At.the ?_
          refine At.the ?_
          refine At.blh ?_
          refine At.bln ?_
          refine At.thn (hK17 _ _ ?_); clear hK17
          refine Tri.region ?_
          refine st (OK1.mv (Has.t rfl)) rfl ?_
          refine st (OK1.addI (Has.t rfl) (Has.cI 1 rfl) (by first | omega | assumption) (by first | omega | assumption)) rfl ?_
          refine st (OK1.as (Has.t rfl)) rfl ?_
          refine nl ?_
          refine At.thn ?_
          have hjn : j = n + 1 := (by omega)
          subst hjn
          refine hK14 (⟨(i + 1, g2), by show 1 ≤ i + 1; omega, by show i + 1 ≤ n + 1; omega⟩) _ _ ?_ (Cv.mem (.cons (t := 8) (Has.t' rfl ?_) (.cons (t := 1) (Has.t rfl) (.cons (t := 2) (Has.t rfl) (.cons (t := 4) (Has.t rfl) (.cons (t := 6) (Has.t rfl) (.cons (t := 5) (Has.t rfl) (.cons (t := 16) (Has.t rfl) (.cons (t := 17) (Has.t rfl) (.cons (t := 18) (Has.t rfl) (.cons (t := 19) (Has.t rfl) (.cons (t := 22) (Has.t rfl) (.cons (t := 23) (Has.t rfl) (.cons (t := 24) (Has.t rfl) (.cons (t := 25) (Has.t rfl) (.cons (t := 26) (Has.t rfl) (.cons (t := 27) (Has.t rfl) (.cons (t := 28) (Has.t rfl) (.cons (t := 7) (Has.t rfl) .nil)))))))))))))))))) ?_)
          · show n + 1 - (i + 1) < n + 1 - i; omega
          · exact isI_eq (by omega)
          · exact grFu_eq (by rw [wu_next hi1 (by omega)]) (by rw [wu_next hi1 (by omega)])
      · have hc3 := BP.f hc3
        obtain ⟨x, hx⟩ : ∃ x : Nat, x = xs.getD (0 * (n + 1) + k) 0 % p * detW p n (tabU (n * n) n (wuG p n k xs)) % p := ⟨_, rfl⟩
        have hxp : x < p := by rw [hx]; exact Nat.mod_lt _ hp0
        have hdw : detW p n (tabU (n * n) n (wuG p n k xs)) < p := res_lt _ hp0
        refine Tri.exit ?_
        refine At.the ?_
        refine At.the ?_
        refine At.blh ?_
        refine At.thn (hK12 _ _ ?_); clear hK12
        refine Tri.seq fun K24 hK24 => ?_
        refine Tri.cv (Cv.freezeF (k := 1) (i := 0) (j := 0) (o := 2) rfl rfl rfl rfl gr_lenM gr_takeM (Ss' := [_, _, SlM isU (tabU (wuN n k i 0) n (wuG p n k xs))]) rfl) ?_
        refine Tri.memEq (M' := [(some _, cellM [_, _, SlM isU (tabU (wuN n k i 0) n (wuG p n k xs))]), _]) rfl ?_
        refine Tri.cv (Cv.wk (.cons (t := 1) (Has.t rfl) (.cons (t := 2) (Has.t rfl) (.cons (t := 4) (Has.t rfl) (.cons (t := 6) (Has.t rfl) (.cons (t := 5) (Has.t rfl) (.cons (t := 16) (Has.t rfl) (.cons (t := 17) (Has.t rfl) (.cons (t := 18) (Has.t rfl) (.cons (t := 19) (Has.t rfl) (.cons (t := 22) (Has.t rfl) (.cons (t := 23) (Has.t rfl) (.cons (t := 24) (Has.t rfl) (.cons (t := 25) (Has.t rfl) (.cons (t := 26) (Has.t rfl) (.cons (t := 27) (Has.t rfl) (.cons (t := 28) (Has.t rfl) (.cons (t := 7) (Has.t rfl) (.cons (t := 8) (Has.t rfl) (.cons (t := 29) (Has.t rfl) (.cons (t := 30) (Has.t rfl) (.cons (t := 31) (Has.t rfl) (.cons (t := 32) (Has.t rfl) .nil))))))))))))))))))))))) ?_
        refine Tri.dr ?_
        refine DrG.st (i := 0) [] rfl rfl rfl (by kernel_rfl) (OKG.o rfl (OK1.load (Has.t rfl) (i := 1) rfl ty24 rfl (Ss' := [_, _, _]) rfl)) ?_
        refine DrG.st (i := 1) [] rfl rfl rfl (by kernel_rfl) (OKG.o rfl (OK1.mv (Has.t rfl))) ?_
        refine DrG.st (i := 2) [] rfl rfl rfl (by kernel_rfl) (OKG.o rfl (OK1.mv (Has.t rfl))) ?_
        refine DrG.st (i := 3) [54, 55, 56] rfl rfl rfl (by kernel_rfl) (OKG.o rfl (OK1.call (ref21_At (i := 0) (k := k) hp0 (by omega) (by omega)) (.cons (Has.t rfl) (.cons (Has.cI 0 rfl) (.cons (Has.t rfl) (.cons (Has.t rfl) .nil)))))) ?_
        refine DrG.st (i := 4) [] rfl rfl rfl (by kernel_rfl) (OKG.o rfl (OK1.eq (OK1.load (Has.t rfl) (i := 0) rfl ty24 rfl (Ss' := [_, _, _]) rfl) ((show isMW _ _ _ = isMW (n : Int) (n : Int) (tabU (n * n) n (wuG p n k xs)) from by rw [show i = n + 1 by omega, wu_all, show ((n + 1 : Nat) : Int) - 1 = (n : Int) by omega])))) ?_
        refine DrG.st (i := 5) [] rfl rfl rfl (by kernel_rfl) (OKG.o rfl (OK1.mv (Has.t rfl))) ?_
        refine DrG.st (i := 6) [58, 59] rfl rfl rfl (by kernel_rfl) (OKG.o rfl (OK1.call (ih (tabU (n * n) n (wuG p n k xs)) (tabU_len _ _ _)) (.cons (Has.t rfl) (.cons (Has.t rfl) .nil)))) ?_
        refine DrG.st (i := 7) [] rfl rfl rfl (by kernel_rfl) (OKG.o rfl (OK1.mv (Has.t rfl))) ?_
        refine DrG.fin (n := 8) mixed (by kernel_rfl) (by kernel_rfl) (by kernel_rfl) ?_
        refine Ops.cv (Cv.wk (.cons (t := 1) (Has.t rfl) (.cons (t := 2) (Has.t rfl) (.cons (t := 4) (Has.t rfl) (.cons (t := 6) (Has.t rfl) (.cons (t := 5) (Has.t rfl) (.cons (t := 16) (Has.t rfl) (.cons (t := 17) (Has.t rfl) (.cons (t := 18) (Has.t rfl) (.cons (t := 19) (Has.t rfl) (.cons (t := 22) (Has.t rfl) (.cons (t := 23) (Has.t rfl) (.cons (t := 24) (Has.t rfl) (.cons (t := 25) (Has.t rfl) (.cons (t := 26) (Has.t rfl) (.cons (t := 27) (Has.t rfl) (.cons (t := 28) (Has.t rfl) (.cons (t := 7) (Has.t rfl) (.cons (t := 8) (Has.t rfl) (.cons (t := 29) (Has.t rfl) (.cons (t := 30) (Has.t rfl) (.cons (t := 31) (Has.t rfl) (.cons (t := 32) (Has.t rfl) (.cons (t := 54) (Has.t rfl) (.cons (t := 55) (Has.t rfl) (.cons (t := 56) (Has.t rfl) (.cons (t := 57) (Has.t rfl) (.cons (t := 58) (Has.t rfl) (.cons (t := 59) (Has.t rfl) (.cons (t := 60) (Has.t rfl) (.cons (t := 61) (Has.t rfl) .nil))))))))))))))))))))))))))))))) ?_
        refine st (OK1.eq (OK1.call (ref08_Mul hp0 hp2) (.cons (Has.t rfl) (.cons (Has.t rfl) (.cons (Has.t rfl) .nil)))) ((show isU _ = isU x from isU_eq hx.symm))) rfl ?_
        refine st (OK1.as (Has.t rfl)) rfl ?_
        refine nl ?_
        refine At.thn (hK24 _ _ ?_); clear hK24
        refine Tri.seq fun K25 hK25 => ?_
        refine Tri.seq fun K26 hK26 => ?_
        refine Tri.region ?_
        refine st (OK1.mv (Has.t rfl)) rfl ?_
        refine st (OK1.remI (Has.t rfl) (Has.cI 2 rfl) (by first | omega | assumption) (by first | omega | assumption) (by first | omega | assumption)) rfl ?_
        refine st (OK1.eqI (Has.t rfl) (Has.cI 1 rfl)) rfl ?_
        refine nl ?_
        refine At.thn (hK26 _ _ ?_); clear hK26
        refine Tri.cond (Has.t rfl) (fun hc6 => ?_) (fun hc6 => ?_)
        · have hc6 := BP.t hc6
          have hodd : k % 2 = 1 := (by omega)
          have hmx := Nat.mod_lt (p - x) hp0
          refine Tri.region ?_
          refine st (OK1.mv (Has.t rfl)) rfl ?_
          refine st (OK1.mv (Has.t rfl)) rfl ?_
          refine st (OK1.subU' (Has.t rfl) (Has.t rfl) (by first | omega | assumption) (by first | omega | assumption)) rfl ?_
          refine st (OK1.mv (Has.t rfl)) rfl ?_
          refine st (OK1.remU (Has.t rfl) (Has.t rfl) (by first | omega | assumption) (by first | omega | assumption)) rfl ?_
          refine st (OK1.as (Has.t rfl)) rfl ?_
          refine nl ?_
          refine At.thn (hK25 _ _ ?_); clear hK25
          refine Tri.region ?_
          refine st (OK1.mv (Has.t rfl)) rfl ?_
          refine st (OK1.mv (Has.t rfl)) rfl ?_
          refine st (OK1.addU' (Has.t rfl) (Has.t rfl) (by first | omega | assumption)) rfl ?_
          refine st (OK1.mv (Has.t rfl)) rfl ?_
          refine st (OK1.remU (Has.t rfl) (Has.t rfl) (by first | omega | assumption) (by first | omega | assumption)) rfl ?_
          refine st (OK1.as (Has.t rfl)) rfl ?_
          refine nl ?_
          refine At.bln ?_
          refine At.thn (hK10 _ _ ?_); clear hK10
          refine Tri.region ?_
          refine st (OK1.mv (Has.t rfl)) rfl ?_
          refine st (OK1.addI (Has.t rfl) (Has.cI 1 rfl) (by first | omega | assumption) (by first | omega | assumption)) rfl ?_
          refine st (OK1.as (Has.t rfl)) rfl ?_
          refine nl ?_
          refine At.thn ?_
          refine hK7 (⟨(k + 1, (o + (p - x) % p) % p), by show k + 1 ≤ n + 1; omega, Nat.mod_lt _ hp0, by have := detW_step hp0 hcg hx; rwa [if_pos hodd] at this⟩) _ _ ?_ (Cv.trans (Cv.drop ((.cons _ (.cons_cons _ .slnil)))) (Cv.mem (.cons (t := 6) (Has.t' rfl ?_) (.cons (t := 5) (Has.t' rfl ?_) (.cons (t := 1) (Has.t rfl) (.cons (t := 2) (Has.t rfl) (.cons (t := 4) (Has.t rfl) .nil))))) ?_))
          · show n + 1 - (k + 1) < n + 1 - k; omega
          · exact isI_eq (by omega)
          · rfl
          · rfl
        · have hc6 := BP.f hc6
          have hodd : ¬ k % 2 = 1 := (by omega)
          refine Tri.skip ?_
          refine At.thn (hK25 _ _ ?_); clear hK25
          refine Tri.region ?_
          refine st (OK1.mv (Has.t rfl)) rfl ?_
          refine st (OK1.mv (Has.t rfl)) rfl ?_
          refine st (OK1.addU' (Has.t rfl) (Has.t rfl) (by first | omega | assumption)) rfl ?_
          refine st (OK1.mv (Has.t rfl)) rfl ?_
          refine st (OK1.remU (Has.t rfl) (Has.t rfl) (by first | omega | assumption) (by first | omega | assumption)) rfl ?_
          refine st (OK1.as (Has.t rfl)) rfl ?_
          refine nl ?_
          refine At.bln ?_
          refine At.thn (hK10 _ _ ?_); clear hK10
          refine Tri.region ?_
          refine st (OK1.mv (Has.t rfl)) rfl ?_
          refine st (OK1.addI (Has.t rfl) (Has.cI 1 rfl) (by first | omega | assumption) (by first | omega | assumption)) rfl ?_
          refine st (OK1.as (Has.t rfl)) rfl ?_
          refine nl ?_
          refine At.thn ?_
          refine hK7 (⟨(k + 1, (o + x) % p), by show k + 1 ≤ n + 1; omega, Nat.mod_lt _ hp0, by have := detW_step hp0 hcg hx; rwa [if_neg hodd] at this⟩) _ _ ?_ (Cv.trans (Cv.drop ((.cons _ (.cons_cons _ .slnil)))) (Cv.mem (.cons (t := 6) (Has.t' rfl ?_) (.cons (t := 5) (Has.t' rfl ?_) (.cons (t := 1) (Has.t rfl) (.cons (t := 2) (Has.t rfl) (.cons (t := 4) (Has.t rfl) .nil))))) ?_))
          · show n + 1 - (k + 1) < n + 1 - k; omega
          · exact isI_eq (by omega)
          · rfl
          · rfl
    · have hc2 := BP.f hc2
      skip
      refine Tri.exit ?_
      refine At.the ?_
      refine At.the ?_
      refine At.blh ?_
      refine At.thn (hK5 _ _ ?_); clear hK5
      refine Tri.cv (Cv.wk (.cons (t := 4) (Has.t rfl) (.cons (t := 5) (Has.t rfl) .nil))) ?_
      refine Tri.seq fun K27 hK27 => ?_
      refine Tri.region ?_
      refine st (OK1.mv (Has.t rfl)) rfl ?_
      refine st (OK1.as (Has.t rfl)) rfl ?_
      refine nl ?_
      refine At.thn (hK27 _ _ ?_); clear hK27
      refine Tri.ret ?_
      refine rt1 (.inl rfl) Try.results26 rfl (.tmp (Has.t' rfl ?_) .nil)
      all_goals (exact isU_eq (detW_end hp0 ho (by rw [show n + 1 = k by omega]; exact hcg)))
set_option maxHeartbeats 4000000 in
theorem ref21_DetZ {p : Nat} {xs : List Nat} (hp : 2 ≤ p) : Ctr Try.prog 26 [isMW 0 0 xs, isU p] (isU (detW p 0 xs)) := by
  refine Ctr.intro Try.func26 rfl (by kernel_rfl) Try.ntmps26 rfl fun w0 F0 => ?_
  refine Tri.cv (Cv.wk (.cons (t := 0) (Has.t rfl) (.cons (t := 1) (Has.t rfl) .nil))) ?_
  refine Tri.fact (Has.ltU (Has.t (t := 1) rfl)) fun lt1 => ?_
  refine Tri.seq fun K1 hK1 => ?_
  refine Tri.region ?_
  refine Ops.box (Has.t rfl) rfl fun b1 => ?_
  refine st (OK1.as (Has.cU 0 rfl)) rfl ?_
  refine nl ?_
  refine At.thn (hK1 _ _ ?_); clear hK1
  refine Tri.seq fun K2 hK2 => ?_
  refine Tri.seq fun K3 hK3 => ?_
  refine Tri.region ?_
  refine st (OK1.fieldAddr (Has.t rfl) fld24_0 ty3) rfl ?_
  refine st (OK1.load1 (Has.t rfl) (i := 0) rfl ty3 rfl) rfl ?_
  refine st (OK1.eqI (Has.t rfl) (Has.cI 0 rfl)) rfl ?_
  refine nl ?_
  refine At.thn (hK3 _ _ ?_); clear hK3
  refine Tri.cond (Has.t rfl) (fun hc1 => ?_) (fun hc1 => ?_)
  · have hc1 := BP.t hc1
    refine Tri.seq fun K4 hK4 => ?_
    refine Tri.region ?_
    refine st (OK1.mv (Has.t rfl)) rfl ?_
    refine st (OK1.remU (Has.cU 1 rfl) (Has.t rfl) (by first | omega | assumption) (by first | omega | assumption)) rfl ?_
    refine st (OK1.as (Has.t rfl)) rfl ?_
    refine nl ?_
    refine At.thn (hK4 _ _ ?_); clear hK4
    refine Tri.cv (Cv.wk (.cons (t := 1) (Has.t rfl) (.cons (t := 2) (Has.t rfl) (.cons (t := 4) (Has.t rfl) .nil)))) ?_
    refine Tri.ret ?_
    refine At.thr ?_
    refine rt1 (.inl rfl) Try.results26 rfl (.tmp (Has.t' rfl ?_) .nil)
    all_goals (exact isU_eq (detW_zero _ _ hp))
  · have hc1 := BP.f hc1
    exact absurd rfl hc1
theorem ref21_Det {n p : Nat} {xs : List Nat} (hp : 2 ≤ p) (hp2 : p < 4294967296) (hR : n ≤ 64) (hl : xs.length = n * n) : Ctr Try.prog 26 [isMW (n : Int) (n : Int) xs, isU p] (isU (detW p n xs)) := by
  induction n generalizing xs with
  | zero => exact ref21_DetZ hp
  | succ n ih => exact ref21_DetStep hp hp2 hR hl fun ys hyl => ih (by omega) hyl
end Go.Proofs.Ytfoclelageohiaa
/- The laws of layer 21 as plain facts: reduced forms, inverses. No program here. -/
namespace Go.Fe
open Go.Gf Go.Mu Go.Dt Go.Mz
theorem dotN_sm (f g : Nat → Nat) : ∀ n : Nat, ((dotN f g n : Nat) : Int) = sm n fun i => (f i : Int) * (g i : Int)
  | 0 => rfl
  | n + 1 => by
    show ((dotN f g n + f n * g n : Nat) : Int) = sm n _ + _
    rw [Int.natCast_add, Int.natCast_mul, dotN_sm f g n]
/-- a matrix of words that are below p already -/
theorem tabM {p R C : Nat} {g : Nat → Nat → Nat} (h : ∀ i k, i < R → k < C → g i k < p) {i k : Nat} (hi : i < R) (hk : k < C) : (tabU (R * C) C fun i k => g i k % p).getD (i * C + k) 0 = g i k := by
  rw [tabU_place _ hk (place_lt hi hk), Nat.mod_eq_of_lt (h i k hi hk)]
theorem tabP {p N C : Nat} {g : Nat → Nat → Nat} (hp : 0 < p) {j : Nat} (hj : j < (tabU N C fun i k => g i k % p).length) : (tabU N C fun i k => g i k % p).getD j 0 < p := by
  rw [tabU_len] at hj
  rw [tabU_at _ hj]; exact Nat.mod_lt _ hp
section
variable {p R C : Nat} {xs : List Nat}
theorem red_at (hp : Prime p) (D : Nat) (ys : List Nat) {i k : Nat} (hi : i < R) (hk : k < C + D) : ent (redS p R C D xs ys) i k < p := (redS_FI hp xs ys).nrm i k hi hk
end
/-! ### inverses -/
def oneL (p R : Nat) : List Nat := tabU (R * R) R fun i k => (if i = k then 1 else 0) % p
def invL (p R : Nat) (xs : List Nat) : List Nat := tabU (R * R) R fun i k => ent (redS p R R R xs (oneL p R)) i (R + k) % p
theorem oneL_cg {p R i k : Nat} (hi : i < R) (hk : k < R) : Cg p (mw R (oneL p R) i k) (if i = k then 1 else 0) := by
  unfold mw oneL
  rw [tabU_place _ hk (place_lt hi hk)]
  refine cg_trans (cg_mod _ _) (cg_of ?_)
  split <;> rfl
theorem invL_at {p R : Nat} {xs : List Nat} (hp : Prime p) {i k : Nat} (hi : i < R) (hk : k < R) : (invL p R xs).getD (i * R + k) 0 = ent (redS p R R R xs (oneL p R)) i (R + k) := tabM (fun i k hi hk => red_at hp R _ hi (by omega)) hi hk
theorem one_res {p x i k : Nat} (hp : 2 ≤ p) (h : Cg p (x : Int) (if i = k then 1 else 0)) : x % p = if i = k then 1 % p else 0 := by
  by_cases e : i = k
  · rw [if_pos e] at h ⊢; exact cg_nat.1 h
  · rw [if_neg e] at h ⊢
    have := cg_nat.1 (show Cg p (x : Int) ((0 : Nat) : Int) from h)
    rwa [Nat.zero_mod] at this
theorem inv_right {p R : Nat} {xs : List Nat} (hp : Prime p) (hf : ¬ (redS p R R R xs (oneL p R)).ps.length < R) : ∀ i k, i < R → k < R → (tabU (R * R) R fun i k => dotN (fun j => xs.getD (i * R + j) 0) (fun j => (invL p R xs).getD (j * R + k) 0) R % p).getD (i * R + k) 0 % p = if i = k then 1 % p else 0 := fun i k hi hk => by
  have hF := redS_FI (R := R) (C := R) (D := R) hp xs (oneL p R)
  have hple := hF.ple
  rw [tabU_place _ hk (place_lt hi hk), Nat.mod_mod]
  refine one_res hp.1 ?_
  obtain ⟨c, h1, h2, _⟩ := hF.read hp.1 (by omega) (Sp.row (mw2 R R xs (oneL p R)) hi)
  have h4 := h1 (R + k) (by omega)
  rw [mw2_right] at h4
  refine cg_trans ?_ (cg_trans (cg_symm h4) (oneL_cg hi hk))
  rw [dotN_sm]
  refine sm_cg fun j hj => cg_mul ?_ ?_
  · have h5 := h2 j (by omega)
    rw [hF.full (by omega) (by omega), mw2_left hj] at h5
    exact h5
  · rw [invL_at hp hj hk]; exact cg_refl _ _
theorem inv_left {p R : Nat} {xs : List Nat} (hp : Prime p) (hf : ¬ (redS p R R R xs (oneL p R)).ps.length < R) : ∀ i k, i < R → k < R → (tabU (R * R) R fun i k => dotN (fun j => (invL p R xs).getD (i * R + j) 0) (fun j => xs.getD (j * R + k) 0) R % p).getD (i * R + k) 0 % p = if i = k then 1 % p else 0 := fun i k hi hk => by
  have hF := redS_FI (R := R) (C := R) (D := R) hp xs (oneL p R)
  have hple := hF.ple
  rw [tabU_place _ hk (place_lt hi hk), Nat.mod_mod]
  refine one_res hp.1 ?_
  obtain ⟨c, hc⟩ := hF.fwd i hi
  have h1 := hc k (by omega)
  have h2 : Cg p (Mx (redS p R R R xs (oneL p R)) i k) (if i = k then 1 else 0) := by
    have h3 := hF.unit k i (by omega) hi
    rw [hF.full (by omega) (by omega)] at h3
    show Cg p (ent _ i k : Int) _
    rw [h3]
    refine cg_trans ?_ (cg_refl _ _)
    split
    · exact cg_mod p 1
    · exact cg_refl _ _
  refine cg_trans ?_ (cg_trans (cg_symm h1) h2)
  rw [dotN_sm]
  refine sm_cg fun j hj => cg_mul ?_ ?_
  · rw [invL_at hp hi hj]
    have h3 := hc (R + j) (by omega)
    refine cg_trans h3 ?_
    have h4 : Cg p (sm R fun i => c i * mw2 R R xs (oneL p R) i (R + j)) (sm R fun i => (if i = j then 1 else 0) * c i) := sm_cg fun t ht => by
      rw [mw2_right, Int.mul_comm]
      exact cg_mul (oneL_cg ht hj) (cg_refl _ _)
    rw [sm_pick c hj] at h4
    exact h4
  · rw [mw2_left hk]; exact cg_refl _ _
end Go.Fe
/- A law of layer 21: inverses, as a contract. -/
namespace Go.Proofs.Ytfoclelageohiaa
open Go.En Go.RowKit
set_option linter.unusedVariables false
set_option maxRecDepth 10000
open Go.Gf
open Go.Mz
open Go.Mu
open Go.Fe
set_option maxHeartbeats 4000000 in
theorem c_FmatInverts_bad (n : Nat) (r c : Int) (xs : List Nat) (hf : r ≠ c ∨ formB r c xs.length = false) : Ctr Try.prog 4 [isK .u8 (n : Int), isMW r c xs] (isB true) := by
  refine Ctr.intro Try.func4 rfl (by kernel_rfl) Try.ntmps4 rfl fun w0 F0 => ?_
  refine Tri.cv (Cv.wk (.cons (t := 0) (Has.t rfl) (.cons (t := 1) (Has.t rfl) .nil))) ?_
  obtain ⟨p, hp⟩ : ∃ p, p = ptab (n % 12) := ⟨_, rfl⟩
  have hpp : Prime p := by rw [hp]; exact ptab_prime
  have hfp : fp p = p := by rw [hp]; exact ptab_fp _
  have hpl : p < 2147483648 := by rw [hp]; exact ptab_le
  have hp2 : 2 ≤ p := hpp.1
  have hp0 : 0 < p := (by omega)
  have hpq : p < 4294967296 := (by omega)
  have hfp2 : 2 ≤ fp p := by rw [hfp]; exact hp2
  refine Tri.seq fun K1 hK1 => ?_
  refine Tri.region ?_
  refine Ops.box (Has.t rfl) rfl fun b1 => ?_
  refine st (OK1.as (Has.cB false)) rfl ?_
  refine nl ?_
  refine At.thn (hK1 _ _ ?_); clear hK1
  refine Tri.seq fun K2 hK2 => ?_
  refine Tri.seq fun K3 hK3 => ?_
  refine Tri.region ?_
  refine st (OK1.call (law21_awake) .nil) rfl ?_
  refine st (OK1.not (Has.t rfl)) rfl ?_
  refine st (OK1.mv (Has.t rfl)) rfl ?_
  refine stF rfl rfl (fun hg => have hg' := BP.t hg; OK1.load (Has.t rfl) (i := 0) rfl ty24 rfl (Ss' := [_, _, _]) rfl) rfl ?_
  refine stF rfl rfl (fun hg => have hg' := BP.t hg; OK1.call (ref21_Few) (.cons (Has.g rfl hg) (.cons (Has.cI 4 rfl) .nil))) rfl ?_
  refine stF rfl rfl (fun hg => have hg' := BP.t hg; OK1.not (Has.g rfl hg)) rfl ?_
  refine st (OK1.pickOr (Has.t rfl) (fun h => Has.g rfl (ng h))) rfl ?_
  refine nl ?_
  refine At.thn (hK3 _ _ ?_); clear hK3
  refine Tri.cv (Cv.wk (.cons (t := 0) (Has.t rfl) (.cons (t := 3) (Has.t rfl) (.cons (t := 4) (Has.t rfl) (.cons (t := 15) (Has.t rfl) .nil))))) ?_
  refine Tri.cond (Has.t rfl) (fun hc1 => ?_) (fun hc1 => ?_)
  · have hc1 := BP.t hc1
    refine Tri.seq fun K4 hK4 => ?_
    refine Tri.region ?_
    refine st (OK1.call (law21_awake) .nil) rfl ?_
    refine st (OK1.as (Has.t rfl)) rfl ?_
    refine nl ?_
    refine At.thn (hK4 _ _ ?_); clear hK4
    refine Tri.ret ?_
    refine At.thr ?_
    refine rt1 (.inl rfl) Try.results4 rfl (.tmp (Has.t' rfl ?_) .nil)
    all_goals (rfl)
  · have hc1 := BP.f hc1
    refine Tri.skip ?_
    refine At.thn (hK2 _ _ ?_); clear hK2
    refine Tri.seq fun K5 hK5 => ?_
    refine Tri.region ?_
    refine st (OK1.mv (Has.t rfl)) rfl ?_
    refine st (OK1.eq (OK1.call (law09_Of) (.cons (Has.t rfl) .nil)) ((show Flat [isU _] = Flat [isU p] from by rw [hp]))) rfl ?_
    refine st (OK1.mv (Has.t rfl)) rfl ?_
    refine st (OK1.eq (OK1.call (ref08_P) (.cons (Has.t rfl) .nil)) ((show isU _ = isU p from isU_eq hp.symm))) rfl ?_
    refine Ops.alloc [isU 0] zero29 (fun _ _ => ⟨⟨rfl, by decide⟩, trivial⟩) rfl fun b2 => ?_
    refine Ops.store (Has.t rfl) (Has.t rfl) (i := 0) rfl ty29 rfl rfl (Ss' := [_]) rfl (M' := [(some _, cellM [_]), _]) rfl ?_
    refine st (OK1.as (Has.t rfl)) rfl ?_
    refine nl ?_
    refine At.thn (hK5 _ _ ?_); clear hK5
    refine Tri.cv (Cv.wk (.cons (t := 3) (Has.t rfl) (.cons (t := 4) (Has.t rfl) (.cons (t := 5) (Has.t rfl) (.cons (t := 6) (Has.t rfl) .nil))))) ?_
    refine Tri.seq fun K6 hK6 => ?_
    refine Tri.region ?_
    refine st (OK1.load (Has.t rfl) (i := 0) rfl ty29 rfl (Ss' := [_]) rfl) rfl ?_
    refine st (OK1.load (Has.t rfl) (i := 1) rfl ty24 rfl (Ss' := [_, _, _]) rfl) rfl ?_
    refine st (OK1.call (fmat_Inverse_bad hf) (.cons (Has.t rfl) (.cons (Has.t rfl) .nil))) rfl ?_
    refine st (OK1.mv (Has.t rfl)) rfl ?_
    refine st (OK1.ext (Has.t rfl) rfl) rfl ?_
    refine st (OK1.ext (Has.t rfl) rfl) rfl ?_
    refine Ops.alloc [isI 0, isI 0, SlM isU []] zero24 (fun _ _ => ⟨⟨rfl, by decide, by decide⟩, ⟨rfl, by decide, by decide⟩, nilM _ _, trivial⟩) rfl fun b3 => ?_
    refine Ops.store (Has.t rfl) (Has.t rfl) (i := 0) rfl ty24 rfl rfl (Ss' := [_, _, _]) rfl (M' := [(some _, cellM [_, _, _]), _, _]) rfl ?_
    refine st (OK1.as (Has.t rfl)) rfl ?_
    refine nl ?_
    refine At.thn (hK6 _ _ ?_); clear hK6
    refine Tri.cv (Cv.wk (.cons (t := 3) (Has.t rfl) (.cons (t := 4) (Has.t rfl) (.cons (t := 6) (Has.t rfl) (.cons (t := 7) (Has.t rfl) (.cons (t := 8) (Has.t rfl) .nil)))))) ?_
    refine Tri.seq fun K7 hK7 => ?_
    refine Tri.seq fun K8 hK8 => ?_
    refine Tri.region ?_
    refine st (OK1.load (Has.t rfl) (i := 2) rfl ty24 rfl (Ss' := [_, _, _]) rfl) rfl ?_
    refine st (OK1.call (ref21_Formed) (.cons (Has.t rfl) .nil)) rfl ?_
    refine st (OK1.not (Has.t rfl)) rfl ?_
    refine st (OK1.mv (Has.t rfl)) rfl ?_
    refine stF rfl rfl (fun hg => have hg' := BP.t hg; OK1.fieldAddr (Has.t rfl) fld24_0 ty3) rfl ?_
    refine stF rfl rfl (fun hg => have hg' := BP.t hg; OK1.load1 (Has.g rfl hg) (i := 2) rfl ty3 rfl) rfl ?_
    refine stF rfl rfl (fun hg => have hg' := BP.t hg; OK1.fieldAddr (Has.t rfl) fld24_1 ty3) rfl ?_
    refine stF rfl rfl (fun hg => have hg' := BP.t hg; OK1.load1 (Has.g rfl hg) (i := 2) rfl ty3 rfl) rfl ?_
    refine stF rfl rfl (fun hg => have hg' := BP.t hg; OK1.neI (Has.g rfl hg) (Has.g rfl hg)) rfl ?_
    refine st (OK1.pickOr (Has.t rfl) (fun h => Has.g rfl (ng h))) rfl ?_
    refine nl ?_
    refine At.thn (hK8 _ _ ?_); clear hK8
    refine Tri.cv (Cv.wk (.cons (t := 3) (Has.t rfl) (.cons (t := 4) (Has.t rfl) (.cons (t := 6) (Has.t rfl) (.cons (t := 7) (Has.t rfl) (.cons (t := 8) (Has.t rfl) (.cons (t := 36) (Has.t rfl) .nil))))))) ?_
    refine Tri.cond (Has.t rfl) (fun hc2 => ?_) (fun hc2 => ?_)
    · have hc2 := BP.t hc2
      refine Tri.seq fun K9 hK9 => ?_
      refine Tri.region ?_
      refine st (OK1.mv (Has.t rfl)) rfl ?_
      refine st (OK1.eqI (Has.t rfl) (Has.cI 2 rfl)) rfl ?_
      refine st (OK1.mv (Has.t rfl)) rfl ?_
      refine stT rfl rfl (fun hg => have hg' := BP.t hg; OK1.load (Has.t rfl) (i := 0) rfl ty24 rfl (Ss' := [_, _, _]) rfl) rfl ?_
      refine stT rfl rfl (fun hg => have hg' := BP.t hg; OK1.call (ref21_None) (.cons (Has.g rfl hg) .nil)) rfl ?_
      refine st (OK1.pickAnd (Has.t rfl) (fun h => Has.g rfl h)) rfl ?_
      refine st (OK1.as (Has.t rfl)) rfl ?_
      refine nl ?_
      refine At.thn (hK9 _ _ ?_); clear hK9
      refine Tri.cv (Cv.wk (.cons (t := 3) (Has.t rfl) (.cons (t := 4) (Has.t rfl) (.cons (t := 6) (Has.t rfl) (.cons (t := 7) (Has.t rfl) (.cons (t := 8) (Has.t rfl) .nil)))))) ?_
      refine Tri.ret ?_
      refine At.thr ?_
      refine rt1 (.inl rfl) Try.results4 rfl (.tmp (Has.t' rfl ?_) .nil)
      all_goals (rfl)
    · have hc2 := BP.f hc2
      exfalso; rcases hf with h | h <;> simp_all
set_option maxHeartbeats 4000000 in
theorem c_FmatInverts_none (n R : Nat) (xs : List Nat) (hR : R ≤ 64) (hl : xs.length = R * R) (hd : detW (ptab (n % 12)) R xs = 0) : Ctr Try.prog 4 [isK .u8 (n : Int), isMW R R xs] (isB true) := by
  refine Ctr.intro Try.func4 rfl (by kernel_rfl) Try.ntmps4 rfl fun w0 F0 => ?_
  refine Tri.cv (Cv.wk (.cons (t := 0) (Has.t rfl) (.cons (t := 1) (Has.t rfl) .nil))) ?_
  obtain ⟨p, hp⟩ : ∃ p, p = ptab (n % 12) := ⟨_, rfl⟩
  have hpp : Prime p := by rw [hp]; exact ptab_prime
  have hfp : fp p = p := by rw [hp]; exact ptab_fp _
  have hpl : p < 2147483648 := by rw [hp]; exact ptab_le
  have hp2 : 2 ≤ p := hpp.1
  have hp0 : 0 < p := (by omega)
  have hpq : p < 4294967296 := (by omega)
  have hfp2 : 2 ≤ fp p := by rw [hfp]; exact hp2
  have hfo := formB_true hR hR hl
  have hRR := side_le hR hR
  rw [← hp] at hd
  refine Tri.seq fun K1 hK1 => ?_
  refine Tri.region ?_
  refine Ops.box (Has.t rfl) rfl fun b1 => ?_
  refine st (OK1.as (Has.cB false)) rfl ?_
  refine nl ?_
  refine At.thn (hK1 _ _ ?_); clear hK1
  refine Tri.seq fun K2 hK2 => ?_
  refine Tri.seq fun K3 hK3 => ?_
  refine Tri.region ?_
  refine st (OK1.call (law21_awake) .nil) rfl ?_
  refine st (OK1.not (Has.t rfl)) rfl ?_
  refine st (OK1.mv (Has.t rfl)) rfl ?_
  refine stF rfl rfl (fun hg => have hg' := BP.t hg; OK1.load (Has.t rfl) (i := 0) rfl ty24 rfl (Ss' := [_, _, _]) rfl) rfl ?_
  refine stF rfl rfl (fun hg => have hg' := BP.t hg; OK1.call (ref21_Few) (.cons (Has.g rfl hg) (.cons (Has.cI 4 rfl) .nil))) rfl ?_
  refine stF rfl rfl (fun hg => have hg' := BP.t hg; OK1.not (Has.g rfl hg)) rfl ?_
  refine st (OK1.pickOr (Has.t rfl) (fun h => Has.g rfl (ng h))) rfl ?_
  refine nl ?_
  refine At.thn (hK3 _ _ ?_); clear hK3
  refine Tri.cv (Cv.wk (.cons (t := 0) (Has.t rfl) (.cons (t := 3) (Has.t rfl) (.cons (t := 4) (Has.t rfl) (.cons (t := 15) (Has.t rfl) .nil))))) ?_
  refine Tri.cond (Has.t rfl) (fun hc1 => ?_) (fun hc1 => ?_)
  · have hc1 := BP.t hc1
    refine Tri.seq fun K4 hK4 => ?_
    refine Tri.region ?_
    refine st (OK1.call (law21_awake) .nil) rfl ?_
    refine st (OK1.as (Has.t rfl)) rfl ?_
    refine nl ?_
    refine At.thn (hK4 _ _ ?_); clear hK4
    refine Tri.ret ?_
    refine At.thr ?_
    refine rt1 (.inl rfl) Try.results4 rfl (.tmp (Has.t' rfl ?_) .nil)
    all_goals (rfl)
  · have hc1 := BP.f hc1
    refine Tri.skip ?_
    refine At.thn (hK2 _ _ ?_); clear hK2
    refine Tri.seq fun K5 hK5 => ?_
    refine Tri.region ?_
    refine st (OK1.mv (Has.t rfl)) rfl ?_
    refine st (OK1.eq (OK1.call (law09_Of) (.cons (Has.t rfl) .nil)) ((show Flat [isU _] = Flat [isU p] from by rw [hp]))) rfl ?_
    refine st (OK1.mv (Has.t rfl)) rfl ?_
    refine st (OK1.eq (OK1.call (ref08_P) (.cons (Has.t rfl) .nil)) ((show isU _ = isU p from isU_eq hp.symm))) rfl ?_
    refine Ops.alloc [isU 0] zero29 (fun _ _ => ⟨⟨rfl, by decide⟩, trivial⟩) rfl fun b2 => ?_
    refine Ops.store (Has.t rfl) (Has.t rfl) (i := 0) rfl ty29 rfl rfl (Ss' := [_]) rfl (M' := [(some _, cellM [_]), _]) rfl ?_
    refine st (OK1.as (Has.t rfl)) rfl ?_
    refine nl ?_
    refine At.thn (hK5 _ _ ?_); clear hK5
    refine Tri.cv (Cv.wk (.cons (t := 3) (Has.t rfl) (.cons (t := 4) (Has.t rfl) (.cons (t := 5) (Has.t rfl) (.cons (t := 6) (Has.t rfl) .nil))))) ?_
    refine Tri.seq fun K6 hK6 => ?_
    refine Tri.region ?_
    refine st (OK1.load (Has.t rfl) (i := 0) rfl ty29 rfl (Ss' := [_]) rfl) rfl ?_
    refine st (OK1.load (Has.t rfl) (i := 1) rfl ty24 rfl (Ss' := [_, _, _]) rfl) rfl ?_
    refine st (OK1.call (fmat_Inverse_none hpq hfp2 hR hl (by rw [hfp]; exact (redS_detD hpp xs _).2 hd)) (.cons (Has.t rfl) (.cons (Has.t rfl) .nil))) rfl ?_
    refine st (OK1.mv (Has.t rfl)) rfl ?_
    refine st (OK1.ext (Has.t rfl) rfl) rfl ?_
    refine st (OK1.ext (Has.t rfl) rfl) rfl ?_
    refine Ops.alloc [isI 0, isI 0, SlM isU []] zero24 (fun _ _ => ⟨⟨rfl, by decide, by decide⟩, ⟨rfl, by decide, by decide⟩, nilM _ _, trivial⟩) rfl fun b3 => ?_
    refine Ops.store (Has.t rfl) (Has.t rfl) (i := 0) rfl ty24 rfl rfl (Ss' := [_, _, _]) rfl (M' := [(some _, cellM [_, _, _]), _, _]) rfl ?_
    refine st (OK1.as (Has.t rfl)) rfl ?_
    refine nl ?_
    refine At.thn (hK6 _ _ ?_); clear hK6
    refine Tri.cv (Cv.wk (.cons (t := 3) (Has.t rfl) (.cons (t := 4) (Has.t rfl) (.cons (t := 6) (Has.t rfl) (.cons (t := 7) (Has.t rfl) (.cons (t := 8) (Has.t rfl) .nil)))))) ?_
    refine Tri.seq fun K7 hK7 => ?_
    refine Tri.seq fun K8 hK8 => ?_
    refine Tri.region ?_
    refine st (OK1.load (Has.t rfl) (i := 2) rfl ty24 rfl (Ss' := [_, _, _]) rfl) rfl ?_
    refine st (OK1.eq (OK1.call (ref21_Formed) (.cons (Has.t rfl) .nil)) ((show isB _ = isB true from isB_eq hfo))) rfl ?_
    refine st (OK1.not (Has.t rfl)) rfl ?_
    refine st (OK1.mv (Has.t rfl)) rfl ?_
    refine stF rfl rfl (fun hg => have hg' := BP.t hg; OK1.fieldAddr (Has.t rfl) fld24_0 ty3) rfl ?_
    refine stF rfl rfl (fun hg => have hg' := BP.t hg; OK1.load1 (Has.g rfl hg) (i := 2) rfl ty3 rfl) rfl ?_
    refine stF rfl rfl (fun hg => have hg' := BP.t hg; OK1.fieldAddr (Has.t rfl) fld24_1 ty3) rfl ?_
    refine stF rfl rfl (fun hg => have hg' := BP.t hg; OK1.load1 (Has.g rfl hg) (i := 2) rfl ty3 rfl) rfl ?_
    refine stF rfl rfl (fun hg => have hg' := BP.t hg; OK1.neI (Has.g rfl hg) (Has.g rfl hg)) rfl ?_
    refine st (OK1.pickOr (Has.t rfl) (fun h => Has.g rfl (ng h))) rfl ?_
    refine nl ?_
    refine At.thn (hK8 _ _ ?_); clear hK8
    refine Tri.cv (Cv.wk (.cons (t := 3) (Has.t rfl) (.cons (t := 4) (Has.t rfl) (.cons (t := 6) (Has.t rfl) (.cons (t := 7) (Has.t rfl) (.cons (t := 8) (Has.t rfl) (.cons (t := 36) (Has.t rfl) .nil))))))) ?_
    refine Tri.cond (Has.t rfl) (fun hc2 => ?_) (fun hc2 => ?_)
    · have hc2 := BP.t hc2
      exfalso; simp at hc2
    · have hc2 := BP.f hc2
      refine Tri.skip ?_
      refine At.thn (hK7 _ _ ?_); clear hK7
      refine Tri.seq fun K9 hK9 => ?_
      refine Tri.seq fun K10 hK10 => ?_
      refine Tri.region ?_
      refine st (OK1.load (Has.t rfl) (i := 2) rfl ty24 rfl (Ss' := [_, _, _]) rfl) rfl ?_
      refine st (OK1.mv (Has.t rfl)) rfl ?_
      refine st (OK1.eq (OK1.call (ref21_Det hp2 hpq hR hl) (.cons (Has.t rfl) (.cons (Has.t rfl) .nil))) ((show isU _ = isU 0 from isU_eq hd))) rfl ?_
      refine st (OK1.eqU (Has.t rfl) (Has.cU 0 rfl)) rfl ?_
      refine nl ?_
      refine At.thn (hK10 _ _ ?_); clear hK10
      refine Tri.cond (Has.t rfl) (fun hc3 => ?_) (fun hc3 => ?_)
      · have hc3 := BP.t hc3
        refine Tri.seq fun K11 hK11 => ?_
        refine Tri.region ?_
        refine st (OK1.mv (Has.t rfl)) rfl ?_
        refine st (OK1.eqI (Has.t rfl) (Has.cI 3 rfl)) rfl ?_
        refine st (OK1.mv (Has.t rfl)) rfl ?_
        refine stT rfl rfl (fun hg => have hg' := BP.t hg; OK1.load (Has.t rfl) (i := 0) rfl ty24 rfl (Ss' := [_, _, _]) rfl) rfl ?_
        refine stT rfl rfl (fun hg => have hg' := BP.t hg; OK1.call (ref21_None) (.cons (Has.g rfl hg) .nil)) rfl ?_
        refine st (OK1.pickAnd (Has.t rfl) (fun h => Has.g rfl h)) rfl ?_
        refine st (OK1.as (Has.t rfl)) rfl ?_
        refine nl ?_
        refine At.thn (hK11 _ _ ?_); clear hK11
        refine Tri.cv (Cv.wk (.cons (t := 3) (Has.t rfl) (.cons (t := 4) (Has.t rfl) (.cons (t := 6) (Has.t rfl) (.cons (t := 7) (Has.t rfl) (.cons (t := 8) (Has.t rfl) .nil)))))) ?_
        refine Tri.ret ?_
        refine At.thr ?_
        refine rt1 (.inl rfl) Try.results4 rfl (.tmp (Has.t' rfl ?_) .nil)
        all_goals (rfl)
      · have hc3 := BP.f hc3
        exact absurd rfl hc3
set_option maxHeartbeats 4000000 in
theorem c_FmatInverts_ok (n R : Nat) (xs : List Nat) (hR : R ≤ 64) (hl : xs.length = R * R) (hd : ¬ detW (ptab (n % 12)) R xs = 0) : Ctr Try.prog 4 [isK .u8 (n : Int), isMW R R xs] (isB true) := by
  refine Ctr.intro Try.func4 rfl (by kernel_rfl) Try.ntmps4 rfl fun w0 F0 => ?_
  refine Tri.cv (Cv.wk (.cons (t := 0) (Has.t rfl) (.cons (t := 1) (Has.t rfl) .nil))) ?_
  obtain ⟨p, hp⟩ : ∃ p, p = ptab (n % 12) := ⟨_, rfl⟩
  have hpp : Prime p := by rw [hp]; exact ptab_prime
  have hfp : fp p = p := by rw [hp]; exact ptab_fp _
  have hpl : p < 2147483648 := by rw [hp]; exact ptab_le
  have hp2 : 2 ≤ p := hpp.1
  have hp0 : 0 < p := (by omega)
  have hpq : p < 4294967296 := (by omega)
  have hfp2 : 2 ≤ fp p := by rw [hfp]; exact hp2
  have hfo := formB_true hR hR hl
  have hRR := side_le hR hR
  rw [← hp] at hd
  have hfull : ¬ (redS p R R R xs (oneL p R)).ps.length < R := fun h => hd ((redS_detD hpp xs _).1 h)
  obtain ⟨M, hM⟩ : ∃ M, M = invL p R xs := ⟨_, rfl⟩
  have hMl : M.length = R * R := by rw [hM]; exact tabU_len _ _ _
  have hMp : ∀ j, j < M.length → M.getD j 0 < p := by rw [hM]; exact fun j hj => tabP hp0 hj
  have hI1 : ∀ i k, i < R → k < R → (tabU (R * R) R fun i k => dotN (fun j => xs.getD (i * R + j) 0) (fun j => M.getD (j * R + k) 0) R % p).getD (i * R + k) 0 % p = if i = k then 1 % p else 0 := by rw [hM]; exact inv_right hpp hfull
  have hI2 : ∀ i k, i < R → k < R → (tabU (R * R) R fun i k => dotN (fun j => M.getD (i * R + j) 0) (fun j => xs.getD (j * R + k) 0) R % p).getD (i * R + k) 0 % p = if i = k then 1 % p else 0 := by rw [hM]; exact inv_left hpp hfull
  have hfM := formB_true hR hR hMl
  obtain ⟨d, hdd⟩ : ∃ d, d = detW p R xs := ⟨_, rfl⟩
  rw [← hdd] at hd
  refine Tri.seq fun K1 hK1 => ?_
  refine Tri.region ?_
  refine Ops.box (Has.t rfl) rfl fun b1 => ?_
  refine st (OK1.as (Has.cB false)) rfl ?_
  refine nl ?_
  refine At.thn (hK1 _ _ ?_); clear hK1
  refine Tri.seq fun K2 hK2 => ?_
  refine Tri.seq fun K3 hK3 => ?_
  refine Tri.region ?_
  refine st (OK1.call (law21_awake) .nil) rfl ?_
  refine st (OK1.not (Has.t rfl)) rfl ?_
  refine st (OK1.mv (Has.t rfl)) rfl ?_
  refine stF rfl rfl (fun hg => have hg' := BP.t hg; OK1.load (Has.t rfl) (i := 0) rfl ty24 rfl (Ss' := [_, _, _]) rfl) rfl ?_
  refine stF rfl rfl (fun hg => have hg' := BP.t hg; OK1.call (ref21_Few) (.cons (Has.g rfl hg) (.cons (Has.cI 4 rfl) .nil))) rfl ?_
  refine stF rfl rfl (fun hg => have hg' := BP.t hg; OK1.not (Has.g rfl hg)) rfl ?_
  refine st (OK1.pickOr (Has.t rfl) (fun h => Has.g rfl (ng h))) rfl ?_
  refine nl ?_
  refine At.thn (hK3 _ _ ?_); clear hK3
  refine Tri.cv (Cv.wk (.cons (t := 0) (Has.t rfl) (.cons (t := 3) (Has.t rfl) (.cons (t := 4) (Has.t rfl) (.cons (t := 15) (Has.t rfl) .nil))))) ?_
  refine Tri.cond (Has.t rfl) (fun hc1 => ?_) (fun hc1 => ?_)
  · have hc1 := BP.t hc1
    refine Tri.seq fun K4 hK4 => ?_
    refine Tri.region ?_
    refine st (OK1.call (law21_awake) .nil) rfl ?_
    refine st (OK1.as (Has.t rfl)) rfl ?_
    refine nl ?_
    refine At.thn (hK4 _ _ ?_); clear hK4
    refine Tri.ret ?_
    refine At.thr ?_
    refine rt1 (.inl rfl) Try.results4 rfl (.tmp (Has.t' rfl ?_) .nil)
    all_goals (rfl)
  · have hc1 := BP.f hc1
    refine Tri.skip ?_
    refine At.thn (hK2 _ _ ?_); clear hK2
    refine Tri.seq fun K5 hK5 => ?_
    refine Tri.region ?_
    refine st (OK1.mv (Has.t rfl)) rfl ?_
    refine st (OK1.eq (OK1.call (law09_Of) (.cons (Has.t rfl) .nil)) ((show Flat [isU _] = Flat [isU p] from by rw [hp]))) rfl ?_
    refine st (OK1.mv (Has.t rfl)) rfl ?_
    refine st (OK1.eq (OK1.call (ref08_P) (.cons (Has.t rfl) .nil)) ((show isU _ = isU p from isU_eq hp.symm))) rfl ?_
    refine Ops.alloc [isU 0] zero29 (fun _ _ => ⟨⟨rfl, by decide⟩, trivial⟩) rfl fun b2 => ?_
    refine Ops.store (Has.t rfl) (Has.t rfl) (i := 0) rfl ty29 rfl rfl (Ss' := [_]) rfl (M' := [(some _, cellM [_]), _]) rfl ?_
    refine st (OK1.as (Has.t rfl)) rfl ?_
    refine nl ?_
    refine At.thn (hK5 _ _ ?_); clear hK5
    refine Tri.cv (Cv.wk (.cons (t := 3) (Has.t rfl) (.cons (t := 4) (Has.t rfl) (.cons (t := 5) (Has.t rfl) (.cons (t := 6) (Has.t rfl) .nil))))) ?_
    refine Tri.seq fun K6 hK6 => ?_
    refine Tri.region ?_
    refine st (OK1.load (Has.t rfl) (i := 0) rfl ty29 rfl (Ss' := [_]) rfl) rfl ?_
    refine st (OK1.load (Has.t rfl) (i := 1) rfl ty24 rfl (Ss' := [_, _, _]) rfl) rfl ?_
    refine st (OK1.eq (OK1.call (fmat_Inverse hpq hfp2 hR hl (by rw [hfp]; exact hfull)) (.cons (Has.t rfl) (.cons (Has.t rfl) .nil))) ((show isTup [isMW _ _ _, isI 0] = isTup [isMW R R M, isI 0] from by rw [hfp, hM]; rfl))) rfl ?_
    refine st (OK1.mv (Has.t rfl)) rfl ?_
    refine st (OK1.ext (Has.t rfl) rfl) rfl ?_
    refine st (OK1.ext (Has.t rfl) rfl) rfl ?_
    refine Ops.alloc [isI 0, isI 0, SlM isU []] zero24 (fun _ _ => ⟨⟨rfl, by decide, by decide⟩, ⟨rfl, by decide, by decide⟩, nilM _ _, trivial⟩) rfl fun b3 => ?_
    refine Ops.store (Has.t rfl) (Has.t rfl) (i := 0) rfl ty24 rfl rfl (Ss' := [_, _, _]) rfl (M' := [(some _, cellM [_, _, _]), _, _]) rfl ?_
    refine st (OK1.as (Has.t rfl)) rfl ?_
    refine nl ?_
    refine At.thn (hK6 _ _ ?_); clear hK6
    refine Tri.cv (Cv.wk (.cons (t := 3) (Has.t rfl) (.cons (t := 4) (Has.t rfl) (.cons (t := 6) (Has.t rfl) (.cons (t := 7) (Has.t rfl) (.cons (t := 8) (Has.t rfl) .nil)))))) ?_
    refine Tri.seq fun K7 hK7 => ?_
    refine Tri.seq fun K8 hK8 => ?_
    refine Tri.region ?_
    refine st (OK1.load (Has.t rfl) (i := 2) rfl ty24 rfl (Ss' := [_, _, _]) rfl) rfl ?_
    refine st (OK1.eq (OK1.call (ref21_Formed) (.cons (Has.t rfl) .nil)) ((show isB _ = isB true from isB_eq hfo))) rfl ?_
    refine st (OK1.not (Has.t rfl)) rfl ?_
    refine st (OK1.mv (Has.t rfl)) rfl ?_
    refine stF rfl rfl (fun hg => have hg' := BP.t hg; OK1.fieldAddr (Has.t rfl) fld24_0 ty3) rfl ?_
    refine stF rfl rfl (fun hg => have hg' := BP.t hg; OK1.load1 (Has.g rfl hg) (i := 2) rfl ty3 rfl) rfl ?_
    refine stF rfl rfl (fun hg => have hg' := BP.t hg; OK1.fieldAddr (Has.t rfl) fld24_1 ty3) rfl ?_
    refine stF rfl rfl (fun hg => have hg' := BP.t hg; OK1.load1 (Has.g rfl hg) (i := 2) rfl ty3 rfl) rfl ?_
    refine stF rfl rfl (fun hg => have hg' := BP.t hg; OK1.neI (Has.g rfl hg) (Has.g rfl hg)) rfl ?_
    refine st (OK1.pickOr (Has.t rfl) (fun h => Has.g rfl (ng h))) rfl ?_
    refine nl ?_
    refine At.thn (hK8 _ _ ?_); clear hK8
    refine Tri.cv (Cv.wk (.cons (t := 3) (Has.t rfl) (.cons (t := 4) (Has.t rfl) (.cons (t := 6) (Has.t rfl) (.cons (t := 7) (Has.t rfl) (.cons (t := 8) (Has.t rfl) (.cons (t := 36) (Has.t rfl) .nil))))))) ?_
    refine Tri.cond (Has.t rfl) (fun hc2 => ?_) (fun hc2 => ?_)
    · have hc2 := BP.t hc2
      exfalso; simp at hc2
    · have hc2 := BP.f hc2
      refine Tri.skip ?_
      refine At.thn (hK7 _ _ ?_); clear hK7
      refine Tri.seq fun K9 hK9 => ?_
      refine Tri.seq fun K10 hK10 => ?_
      refine Tri.region ?_
      refine st (OK1.load (Has.t rfl) (i := 2) rfl ty24 rfl (Ss' := [_, _, _]) rfl) rfl ?_
      refine st (OK1.mv (Has.t rfl)) rfl ?_
      refine st (OK1.eq (OK1.call (ref21_Det hp2 hpq hR hl) (.cons (Has.t rfl) (.cons (Has.t rfl) .nil))) ((show isU _ = isU d from isU_eq hdd.symm))) rfl ?_
      refine st (OK1.eqU (Has.t rfl) (Has.cU 0 rfl)) rfl ?_
      refine nl ?_
      refine At.thn (hK10 _ _ ?_); clear hK10
      refine Tri.cond (Has.t rfl) (fun hc3 => ?_) (fun hc3 => ?_)
      · have hc3 := BP.t hc3
        exact absurd hc3 hd
      · have hc3 := BP.f hc3
        skip
        refine Tri.skip ?_
        refine At.thn (hK9 _ _ ?_); clear hK9
        refine Tri.cv (Cv.wk (.cons (t := 3) (Has.t rfl) (.cons (t := 4) (Has.t rfl) (.cons (t := 6) (Has.t rfl) (.cons (t := 7) (Has.t rfl) (.cons (t := 8) (Has.t rfl) .nil)))))) ?_
        refine Tri.seq fun K11 hK11 => ?_
        refine Tri.region ?_
        refine st (OK1.mv (Has.t rfl)) rfl ?_
        refine st (OK1.eqI (Has.t rfl) (Has.cI 0 rfl)) rfl ?_
        refine st (OK1.mv (Has.t rfl)) rfl ?_
        refine stT rfl rfl (fun hg => have hg' := BP.t hg; OK1.load (Has.t rfl) (i := 0) rfl ty24 rfl (Ss' := [_, _, _]) rfl) rfl ?_
        refine stT rfl rfl (fun hg => have hg' := BP.t hg; OK1.mv (Has.t rfl)) rfl ?_
        refine stT rfl rfl (fun hg => have hg' := BP.t hg; OK1.call (ref21_Normal hMp (by omega) hfM) (.cons (Has.g rfl hg) (.cons (Has.g rfl hg) .nil))) rfl ?_
        refine st (OK1.pickAnd (Has.t rfl) (fun h => Has.g rfl h)) rfl ?_
        refine st (OK1.mv (Has.t rfl)) rfl ?_
        refine stT rfl rfl (fun hg => have hg' := BP.t hg; OK1.fieldAddr (Has.t rfl) fld24_0 ty3) rfl ?_
        refine stT rfl rfl (fun hg => have hg' := BP.t hg; OK1.load1 (Has.g rfl hg) (i := 0) rfl ty3 rfl) rfl ?_
        refine stT rfl rfl (fun hg => have hg' := BP.t hg; OK1.fieldAddr (Has.t rfl) fld24_0 ty3) rfl ?_
        refine stT rfl rfl (fun hg => have hg' := BP.t hg; OK1.load1 (Has.g rfl hg) (i := 2) rfl ty3 rfl) rfl ?_
        refine stT rfl rfl (fun hg => have hg' := BP.t hg; OK1.eqI (Has.g rfl hg) (Has.g rfl hg)) rfl ?_
        refine st (OK1.pickAnd (Has.t rfl) (fun h => Has.g rfl h)) rfl ?_
        refine st (OK1.mv (Has.t rfl)) rfl ?_
        refine stT rfl rfl (fun hg => have hg' := BP.t hg; OK1.load (Has.t rfl) (i := 2) rfl ty24 rfl (Ss' := [_, _, _]) rfl) rfl ?_
        refine stT rfl rfl (fun hg => have hg' := BP.t hg; OK1.load (Has.t rfl) (i := 0) rfl ty24 rfl (Ss' := [_, _, _]) rfl) rfl ?_
        refine stT rfl rfl (fun hg => have hg' := BP.t hg; OK1.mv (Has.t rfl)) rfl ?_
        refine stT rfl rfl (fun hg => have hg' := BP.t hg; OK1.call (ref21_Mul hp0 hpq hR hR hR hl hMl) (.cons (Has.g rfl hg) (.cons (Has.g rfl hg) (.cons (Has.g rfl hg) .nil)))) rfl ?_
        refine stT rfl rfl (fun hg => have hg' := BP.t hg; OK1.mv (Has.t rfl)) rfl ?_
        refine stT rfl rfl (fun hg => have hg' := BP.t hg; OK1.call (ref21_One hp0 hI1 hR (tabU_len _ _ _)) (.cons (Has.g rfl hg) (.cons (Has.g rfl hg) .nil))) rfl ?_
        refine st (OK1.pickAnd (Has.t rfl) (fun h => Has.g rfl h)) rfl ?_
        refine st (OK1.mv (Has.t rfl)) rfl ?_
        refine stT rfl rfl (fun hg => have hg' := BP.t hg; OK1.load (Has.t rfl) (i := 0) rfl ty24 rfl (Ss' := [_, _, _]) rfl) rfl ?_
        refine stT rfl rfl (fun hg => have hg' := BP.t hg; OK1.load (Has.t rfl) (i := 2) rfl ty24 rfl (Ss' := [_, _, _]) rfl) rfl ?_
        refine stT rfl rfl (fun hg => have hg' := BP.t hg; OK1.mv (Has.t rfl)) rfl ?_
        refine stT rfl rfl (fun hg => have hg' := BP.t hg; OK1.call (ref21_Mul hp0 hpq hR hR hR hMl hl) (.cons (Has.g rfl hg) (.cons (Has.g rfl hg) (.cons (Has.g rfl hg) .nil)))) rfl ?_
        refine stT rfl rfl (fun hg => have hg' := BP.t hg; OK1.mv (Has.t rfl)) rfl ?_
        refine stT rfl rfl (fun hg => have hg' := BP.t hg; OK1.call (ref21_One hp0 hI2 hR (tabU_len _ _ _)) (.cons (Has.g rfl hg) (.cons (Has.g rfl hg) .nil))) rfl ?_
        refine st (OK1.pickAnd (Has.t rfl) (fun h => Has.g rfl h)) rfl ?_
        refine st (OK1.as (Has.t rfl)) rfl ?_
        refine nl ?_
        refine At.thn (hK11 _ _ ?_); clear hK11
        refine Tri.cv (Cv.wk (.cons (t := 4) (Has.t rfl) .nil)) ?_
        refine Tri.ret ?_
        refine rt1 (.inl rfl) Try.results4 rfl (.tmp (Has.t' rfl ?_) .nil)
        all_goals (exact isB_eq (by simp))
theorem c_FmatInverts (n : Nat) (r c : Int) (xs : List Nat) : Ctr Try.prog 4 [isK .u8 (n : Int), isMW r c xs] (isB true) := by
  by_cases h : sqB r c xs.length = true
  · obtain ⟨R, rfl, rfl, h1, h2⟩ := sqB_true h
    by_cases hd : detW (ptab (n % 12)) R xs = 0
    · exact c_FmatInverts_none n R xs h1 h2 hd
    · exact c_FmatInverts_ok n R xs h1 h2 hd
  · exact c_FmatInverts_bad n r c xs (sqB_false h)
end Go.Proofs.Ytfoclelageohiaa
/- Matrices of words that a law is handed. -/
namespace Go.En
open Go.RowKit Go.ChangeShapes Go.WideShapes Go.ChangeAt
set_option linter.unusedVariables false
section
variable {H : Type} {enc : TypeId × Value → H} {P : Program}
/-- two sides and words -/
theorem open_MW {W : World} {base : Nat} {T ti tm T' : TypeId} {v : Value} {d : DataW H} {ps : List MemPlace} (hfM : fsB P T = some [(ti, 0), (ti, 1), (tm, 2)]) (hui : P.underlying ti = some (.int .i64)) (hu : P.underlying tm = some (.slice T')) (hu' : P.underlying T' = some (.int .u64)) (hc : P.cellsOf T' = 1)
    (hci : P.cellsOf ti = 1) (hcm : P.cellsOf tm = 1) (hcT : P.cellsOf T = 3) (hv : Value.okWide P W .any base T v) (h : DataW.Trod enc P W 0 (fun _ => true) true T v d ps) (hps : ∀ x ∈ ps, x.block < W.heap.size) : ∃ x : Int × Int × List Nat, (isMW x.1 x.2.1 x.2.2).h W (fun b => b < W.heap.size) v := by
  obtain ⟨fs, huT, hsz, hget⟩ := fsB_spec hfM
  have hv' := hv
  simp only [Value.okWide, huT] at hv'
  obtain ⟨cs, rfl, _, _⟩ := hv'
  obtain ⟨fuel, hf⟩ := h
  obtain ⟨xs, m, _, hx, hl, hxl, hfe⟩ := DataW.trod_struct huT hf
  simp [Value.cells] at hl hx
  obtain ⟨f0, g0, rfl, e0⟩ := hget 0 ti 0 rfl
  obtain ⟨f1, g1, k1, e1⟩ := hget 1 _ 1 rfl
  obtain ⟨f2, g2, rfl, e2⟩ := hget 2 tm 2 rfl
  have h0 := hfe 0 f0 g0
  have h1 := hfe 1 f1 g1
  have h2 := hfe 2 f2 g2
  rw [List.getElem?_eq_getElem (by rw [hxl, hsz]; simp)] at h0 h1 h2
  rw [e0, hci] at h0
  rw [e1, k1, hci] at h1
  rw [e2, hcm] at h2
  obtain ⟨r, hr, hr1, hr2⟩ := rd_I hui h0
  obtain ⟨c, hc1, hc2, hc3⟩ := rd_I hui h1
  obtain ⟨u, ws, hu1, hw⟩ := rd_row hu hu' hc word_of h2 (fun y hy => hps y (by
    rw [hx.2]
    exact List.mem_flatMap.2 ⟨_, List.getElem_mem _, hy⟩))
  refine ⟨(r, c, ws), cs.toList, by simp, ?_⟩
  have hcs2 : cs.toList = [.int .i64 r, .int .i64 c, u] := by
    have hlen : cs.toList.length = 3 := by rw [← hcT]; simpa using hl
    match hq : cs.toList, hlen with
    | [p, q, t], _ =>
      have a1 : [p] = [Value.int .i64 r] := by have := hr; simpa [Value.cells, hq] using this
      have a2 : [q] = [Value.int .i64 c] := by have := hc1; simpa [Value.cells, hq] using this
      have a3 : [t] = [u] := by have := hu1; simpa [Value.cells, hq] using this
      rw [List.cons.inj a1 |>.1, List.cons.inj a2 |>.1, List.cons.inj a3 |>.1]
  rw [hcs2]
  exact ⟨⟨rfl, hr1, hr2⟩, ⟨rfl, hc2, hc3⟩, hw, trivial⟩
end
end Go.En
/- A law of layer 21, as it is stated. -/
namespace Go.Proofs.Ytfoclelageohiaa
open Go.En Go.RowKit
set_option linter.unusedVariables false
set_option maxRecDepth 10000
open Go.ChangeShapes
open Go.WideShapes
open Go.ChangeAt
open Go.Gf
open Go.Mz
open Go.Mu
theorem opens_FmatInverts : Opens Try.prog Try.f4 4 := by
  intro H enc W base args ds ps hval hA hlt
  rw [Try.params4] at hA hval
  obtain ⟨v0, vs0, d0, ds0, p0, q0, hargs, rfl, rfl, h0, r0⟩ := trodAll_cons hA
  obtain ⟨v1, vs1, d1, ds1, p1, q1, rfl, rfl, rfl, h1, r1⟩ := trodAll_cons r0
  obtain ⟨rfl, rfl, rfl⟩ := trodAll_nil r1
  obtain rfl : args = #[v0, v1] := by cases args; simp_all
  obtain ⟨x0, o0⟩ := open_N un5 rfl (hval 0 5 v0 rfl rfl) h0
  obtain ⟨x1, o1⟩ := open_MW fs24 un3 un22 un27 (by kernel_rfl) (by kernel_rfl) (by kernel_rfl) (by kernel_rfl) (hval 1 24 v1 rfl rfl) h1 (fun x hx => hlt x (by simp [hx]))
  refine ⟨_, ?_, c_FmatInverts x0 x1.1 x1.2.1 x1.2.2⟩
  exact ⟨o0 _, o1, trivial⟩
theorem fmatInverts_said : Rows.FmatInvertsSaid :=
  OpenClaim.holds_of_wide 4 Try.f4 rfl rfl rfl rfl rfl rfl rfl ⟨rfl, rfl, rfl, rfl, rfl⟩ rfl rfl rfl rfl rfl (by kernel_rfl) Try.func4 (by kernel_rfl)
    (of_decide_eq_true (by kernel_rfl)) (by unfold Func.isWrapper; first | (rw [if_pos (by decide +kernel)]; kernel_rfl) | (rw [if_neg (by decide +kernel)]; exact ⟨rfl, rfl⟩))
    (fun os started H enc _ => lift_law (C := Try.checked) (s := Rows.fmatInvertsSpec) (by kernel_rfl) started (by kernel_rfl) Try.func4
      (ChangeSpec.witness6 (enc := enc) (C := Try.checked) false ⟨#[], #[.int .u8 0, .agg #[.int .i64 0, .int .i64 0, .slice none 0 0]], []⟩ 8 (by kernel_rfl) (by kernel_rfl) (by kernel_rfl) (by kernel_rfl))
      (by kernel_rfl) (by kernel_rfl) rfl rfl un4 (fun ds h => by match ds, h with | [d0, d1], _ => rfl) opens_FmatInverts)
#print axioms fmatInverts_said
end Go.Proofs.Ytfoclelageohiaa
