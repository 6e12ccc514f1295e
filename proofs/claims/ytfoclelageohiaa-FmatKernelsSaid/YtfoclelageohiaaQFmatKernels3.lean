/- The law FmatKernels, as it is stated, of the given program, for every input; no condition. -/
import Derived.Test.YtfoclelageohiaaQFmatKernels2
import Derived.Test.YtfoclelageohiaaRows
/- Contracts: a column is reduced. -/
namespace Go.Proofs.Ytfoclelageohiaa
open Go.En Go.RowKit
set_option linter.unusedVariables false
set_option maxRecDepth 10000
open Go.Gf
open Go.Mz
open Go.Mu
open Go.Fe
set_option maxHeartbeats 4000000 in
theorem fmat_column {q bw : Nat} {gp : Gr Int} {gt : Gr RowU} {rs : List RowU} {ps : List Nat} {det : Nat} (hq : q < 4294967296) {col W : Nat} (hp2 : 2 ≤ fp q) (hrow : ∀ r ∈ rs, r.2.length = W) (hcol : col < W) (hW : W ≤ 128) (hR : rs.length ≤ 64) (hpl : ps.length ≤ rs.length) : CtrX Try.prog 118 [isPtr bw 0, isI (col : Int)] (wkMU q bw gp gt rs ps det) (fun S M => ∃ gp' rs', S = isTup [] ∧ M = wkMU q bw gp' gt rs' (fcol (fp q) ⟨rs.map Prod.snd, ps, det⟩ col).ps (fcol (fp q) ⟨rs.map Prod.snd, ps, det⟩ col).det ∧ rs'.map Prod.snd = (fcol (fp q) ⟨rs.map Prod.snd, ps, det⟩ col).rows) := by
  refine CtrX.intro Try.func118 rfl (by kernel_rfl) Try.ntmps118 rfl fun w0 F0 => ?_
  refine Tri.cv (Cv.wk (.cons (t := 0) (Has.t rfl) (.cons (t := 1) (Has.t rfl) .nil))) ?_
  refine Tri.fact (Has.rngI (Has.t (t := 1) rfl)) fun lt1 => ?_
  have hpv := pv_len ps
  obtain ⟨z0, hz0⟩ : ∃ z0 : Int, z0 = ixf (nz0 col) ((rs.map Prod.snd).drop ps.length) := ⟨_, rfl⟩
  have hxr : ∀ r ∈ (rs.map Prod.snd).drop ps.length, r.length = W := fun r hr => by obtain ⟨x, hx, rfl⟩ := List.mem_map.1 (List.mem_of_mem_drop hr); exact hrow x hx
  refine Tri.seq fun K1 hK1 => ?_
  refine Tri.region ?_
  refine Ops.box (Has.t rfl) rfl fun b1 => ?_
  refine nl ?_
  refine At.thn (hK1 _ _ ?_); clear hK1
  refine Tri.seq fun K2 hK2 => ?_
  refine Tri.region ?_
  refine st (OK1.mv (Has.t rfl)) rfl ?_
  refine st (OK1.nilc (Has.t rfl)) rfl ?_
  refine st (OK1.fieldAddr (Has.t rfl) fld94_2 ty32) rfl ?_
  refine st (OK1.load1 (Has.t rfl) (i := 1) rfl ty32 rfl) rfl ?_
  refine st (OK1.len sl32 (Has.t rfl)) rfl ?_
  refine st (OK1.eq (OK1.as (Has.t rfl)) ((show isI _ = isI (ps.length : Int) from isI_eq (by omega)))) rfl ?_
  refine nl ?_
  refine At.thn (hK2 _ _ ?_); clear hK2
  refine Tri.cv (Cv.wk (.cons (t := 0) (Has.t rfl) (.cons (t := 3) (Has.t rfl) (.cons (t := 4) (Has.t rfl) .nil)))) ?_
  refine Tri.seq fun K3 hK3 => ?_
  refine Tri.region ?_
  refine st (OK1.mv (Has.t rfl)) rfl ?_
  refine st (OK1.nilc (Has.t rfl)) rfl ?_
  refine st (OK1.fieldAddr (Has.t rfl) fld94_1 ty92) rfl ?_
  refine st (OK1.load1 (Has.t rfl) (i := 1) rfl ty92 rfl) rfl ?_
  refine st (OK1.mv (Has.t rfl)) rfl ?_
  refine st (OK1.slGrL sl92 ty22 (Has.t rfl) (Has.t rfl) ⟨by omega, by omega⟩) rfl ?_
  refine Ops.cv (Cv.freezeBoxX (t := 3) rfl rfl rfl) ?_
  refine Ops.cv (Cv.wk (.cons (t := 0) (Has.t rfl) (.cons (t := 3) (Has.t rfl) (.cons (t := 4) (Has.t rfl) (.cons (t := 16) (Has.t rfl) (.cons (t := 17) (Has.t rfl) (.cons (t := 18) (Has.t rfl) (.cons (t := 19) (Has.t rfl) (.cons (t := 20) (Has.t rfl) (.cons (t := 21) (Has.t rfl) .nil)))))))))) ?_
  refine st (OK1.makeFn (ι := { r : List Nat // r.length = W }) (As := fun p => [isWs p.1]) (R := fun p => isB (nz0 col p.1)) (fun p => fmat_column_1 p.2 hcol) .nil (.cons (Has.t rfl) .nil)) rfl ?_
  refine st (OK1.eq (OK1.callB (sl_IndexFuncR hxr) (.cons (HasB.rows (pre := [_, _]) (Has.t rfl) rfl rfl) (.cons (HasB.of (Has.t rfl)) .nil))) ((show isI _ = isI z0 from isI_eq hz0.symm))) rfl ?_
  refine st (OK1.as (Has.t rfl)) rfl ?_
  refine nl ?_
  refine At.thn (hK3 _ _ ?_); clear hK3
  refine Tri.cv (Cv.wk (.cons (t := 0) (Has.t rfl) (.cons (t := 3) (Has.t rfl) (.cons (t := 4) (Has.t rfl) (.cons (t := 5) (Has.t rfl) .nil))))) ?_
  refine Tri.seq fun K4 hK4 => ?_
  refine Tri.seq fun K5 hK5 => ?_
  refine Tri.region ?_
  refine st (OK1.mv (Has.t rfl)) rfl ?_
  refine st (OK1.ltI (Has.t rfl) (Has.cI 0 rfl)) rfl ?_
  refine nl ?_
  refine At.thn (hK5 _ _ ?_); clear hK5
  refine Tri.cond (Has.t rfl) (fun hc1 => ?_) (fun hc1 => ?_)
  · have hc1 := BP.t hc1
    have KC0 := hc1
    refine Tri.ret ?_
    refine At.thr ?_
    refine rtX0 (.inl rfl) Try.results118 rfl ?_
    exact ⟨gp, rs, rfl, by rw [fcol_no (s := ⟨rs.map Prod.snd, ps, det⟩) (ixf_no hz0 KC0)], by rw [fcol_no (s := ⟨rs.map Prod.snd, ps, det⟩) (ixf_no hz0 KC0)]⟩
  · have hc1 := BP.f hc1
    obtain ⟨n0, rfl, hn0, hn1⟩ := ixf_yes hz0 (by omega)
    rw [List.length_drop, List.length_map] at hn1
    obtain ⟨rt, hrt⟩ : ∃ rt, rs[ps.length]? = some rt := ⟨_, List.getElem?_eq_getElem (by omega)⟩
    obtain ⟨ri, hri⟩ : ∃ ri, rs[ps.length + n0]? = some ri := ⟨_, List.getElem?_eq_getElem (by omega)⟩
    refine Tri.skip ?_
    refine At.thn (hK4 _ _ ?_); clear hK4
    refine Tri.cutF [0, 3, 4] (fun (z : { z : List RowU × Nat // z.1.length = rs.length ∧ (∀ r ∈ z.1, r.2.length = W) ∧ z.1.map Prod.snd = swapL [] (rs.map Prod.snd) ps.length n0 ∧ z.2 = (if 0 < n0 then (fp q - det % fp q) % fp q else det) }) => match z with | ⟨(rs1, d1), hS⟩ => []) (fun M => fun (z : { z : List RowU × Nat // z.1.length = rs.length ∧ (∀ r ∈ z.1, r.2.length = W) ∧ z.1.map Prod.snd = swapL [] (rs.map Prod.snd) ps.length n0 ∧ z.2 = (if 0 < n0 then (fp q - det % fp q) % fp q else det) }) => match z with | ⟨(rs1, d1), hS⟩ => wkMU q bw gp gt rs1 ps d1) (fun K6 hK6 => ?_) ?_
    · skip
      refine Tri.seq fun K7 hK7 => ?_
      refine Tri.region ?_
      refine st (OK1.mv (Has.t rfl)) rfl ?_
      refine st (OK1.gtI (Has.t rfl) (Has.cI 0 rfl)) rfl ?_
      refine nl ?_
      refine At.thn (hK7 _ _ ?_); clear hK7
      refine Tri.cond (Has.t rfl) (fun hc2 => ?_) (fun hc2 => ?_)
      · have hc2 := BP.t hc2
        have hn2 : 0 < n0 := (by omega)
        refine Tri.seq fun K8 hK8 => ?_
        refine Tri.dry mixed ?_
        refine DrB.take (i := 0) rfl rfl rfl rfl (by kernel_rfl) (by kernel_rfl) (by kernel_rfl) (by kernel_rfl) (fun _ _ _ _ h => h) (OKY.mv (Has.t rfl)) ?_
        refine DrB.take (i := 1) rfl rfl rfl rfl (by kernel_rfl) (by kernel_rfl) (by kernel_rfl) (by kernel_rfl) (fun _ _ _ _ h => h) (OKY.nilc (Has.t rfl)) ?_
        refine DrB.take (i := 2) rfl rfl rfl rfl (by kernel_rfl) (by kernel_rfl) (by kernel_rfl) (by kernel_rfl) (fun _ _ _ _ h => h) (OKY.fieldAddr (Has.t rfl) fld94_1 ty92) ?_
        refine DrB.take (i := 4) rfl rfl rfl rfl (by kernel_rfl) (by kernel_rfl) (by kernel_rfl) (by kernel_rfl) (fun _ _ _ _ h => h) (OKY.mv (Has.t rfl)) ?_
        refine DrB.take (i := 5) rfl rfl rfl rfl (by kernel_rfl) (by kernel_rfl) (by kernel_rfl) (by kernel_rfl) (fun _ _ _ _ h => h) (OKY.mv (Has.t rfl)) ?_
        refine DrB.take (i := 6) rfl rfl rfl rfl (by kernel_rfl) (by kernel_rfl) (by kernel_rfl) (by kernel_rfl) (fun _ _ _ _ h => h) (OKY.nilc (Has.t rfl)) ?_
        refine DrB.take (i := 7) rfl rfl rfl rfl (by kernel_rfl) (by kernel_rfl) (by kernel_rfl) (by kernel_rfl) (fun _ _ _ _ h => h) (OKY.fieldAddr (Has.t rfl) fld94_1 ty92) ?_
        refine DrB.take (i := 9) rfl rfl rfl rfl (by kernel_rfl) (by kernel_rfl) (by kernel_rfl) (by kernel_rfl) (fun _ _ _ _ h => h) (OKY.mv (Has.t rfl)) ?_
        refine DrB.take (i := 10) rfl rfl rfl rfl (by kernel_rfl) (by kernel_rfl) (by kernel_rfl) (by kernel_rfl) (fun _ _ _ _ h => h) (OKY.mv (Has.t rfl)) ?_
        refine DrB.take (i := 11) rfl rfl rfl rfl (by kernel_rfl) (by kernel_rfl) (by kernel_rfl) (by kernel_rfl) (fun _ _ _ _ h => h) (OKY.eq (OKY.addI (Has.t rfl) (Has.t rfl) (by first | omega | assumption) (by first | omega | assumption)) ((show isI _ = isI ((ps.length + n0 : Nat) : Int) from isI_eq (by omega)))) ?_
        refine DrB.take (i := 12) rfl rfl rfl rfl (by kernel_rfl) (by kernel_rfl) (by kernel_rfl) (by kernel_rfl) (fun _ _ _ _ h => h) (OKY.mv (Has.t rfl)) ?_
        refine DrB.take (i := 13) rfl rfl rfl rfl (by kernel_rfl) (by kernel_rfl) (by kernel_rfl) (by kernel_rfl) (fun _ _ _ _ h => h) (OKY.nilc (Has.t rfl)) ?_
        refine DrB.take (i := 14) rfl rfl rfl rfl (by kernel_rfl) (by kernel_rfl) (by kernel_rfl) (by kernel_rfl) (fun _ _ _ _ h => h) (OKY.fieldAddr (Has.t rfl) fld94_1 ty92) ?_
        refine DrB.take (i := 16) rfl rfl rfl rfl (by kernel_rfl) (by kernel_rfl) (by kernel_rfl) (by kernel_rfl) (fun _ _ _ _ h => h) (OKY.mv (Has.t rfl)) ?_
        refine DrB.take (i := 17) rfl rfl rfl rfl (by kernel_rfl) (by kernel_rfl) (by kernel_rfl) (by kernel_rfl) (fun _ _ _ _ h => h) (OKY.mv (Has.t rfl)) ?_
        refine DrB.take (i := 18) rfl rfl rfl rfl (by kernel_rfl) (by kernel_rfl) (by kernel_rfl) (by kernel_rfl) (fun _ _ _ _ h => h) (OKY.eq (OKY.addI (Has.t rfl) (Has.t rfl) (by first | omega | assumption) (by first | omega | assumption)) ((show isI _ = isI ((ps.length + n0 : Nat) : Int) from isI_eq (by omega)))) ?_
        refine DrB.take (i := 21) rfl rfl rfl rfl (by kernel_rfl) (by kernel_rfl) (by kernel_rfl) (by kernel_rfl) (fun _ _ _ _ h => h) (OKY.mv (Has.t rfl)) ?_
        refine DrB.take (i := 22) rfl rfl rfl rfl (by kernel_rfl) (by kernel_rfl) (by kernel_rfl) (by kernel_rfl) (fun _ _ _ _ h => h) (OKY.nilc (Has.t rfl)) ?_
        refine DrB.take (i := 23) rfl rfl rfl rfl (by kernel_rfl) (by kernel_rfl) (by kernel_rfl) (by kernel_rfl) (fun _ _ _ _ h => h) (OKY.fieldAddr (Has.t rfl) fld94_1 ty92) ?_
        refine DrB.take (i := 25) rfl rfl rfl rfl (by kernel_rfl) (by kernel_rfl) (by kernel_rfl) (by kernel_rfl) (fun _ _ _ _ h => h) (OKY.mv (Has.t rfl)) ?_
        refine DrB.go [] ?_
        refine DrC.st (i := 3) [] rfl rfl rfl (by kernel_rfl) (by kernel_rfl) (OKG.o rfl (OK1.load1 (Has.t rfl) (i := 0) rfl ty92 rfl)) ?_
        refine DrC.st (i := 8) [] rfl rfl rfl (by kernel_rfl) (by kernel_rfl) (OKG.o rfl (OK1.load1 (Has.t rfl) (i := 0) rfl ty92 rfl)) ?_
        refine DrC.st (i := 15) [] rfl rfl rfl (by kernel_rfl) (by kernel_rfl) (OKG.o rfl (OK1.load1 (Has.t rfl) (i := 0) rfl ty92 rfl)) ?_
        refine DrC.st (i := 19) [43] rfl rfl rfl (by kernel_rfl) (by kernel_rfl) (OKG.o rfl (OK1.ixGr sl92 ty22 (Has.t rfl) (Has.t rfl) ⟨by omega, by omega⟩)) ?_
        refine DrC.st (i := 20) [47] rfl rfl rfl (by kernel_rfl) (by kernel_rfl) (OKG.o rfl (OK1.loadGM (Has.t rfl) (i := 2) rfl ty22 hri)) ?_
        refine DrC.st (i := 24) [] rfl rfl rfl (by kernel_rfl) (by kernel_rfl) (OKG.o rfl (OK1.load1 (Has.t rfl) (i := 0) rfl ty92 rfl)) ?_
        refine DrC.st (i := 26) [52] rfl rfl rfl (by kernel_rfl) (by kernel_rfl) (OKG.o rfl (OK1.ixGr sl92 ty22 (Has.t rfl) (Has.t rfl) ⟨by omega, by omega⟩)) ?_
        refine DrC.st (i := 27) [54] rfl rfl rfl (by kernel_rfl) (by kernel_rfl) (OKG.o rfl (OK1.loadGM (Has.t rfl) (i := 2) rfl ty22 hrt)) ?_
        refine DrC.fin [28, 29, 30, 31] (by kernel_rfl) (by kernel_rfl) (fun _ _ _ _ _ h => h) (by kernel_rfl) (by kernel_rfl) (by kernel_rfl) (by kernel_rfl) (by kernel_rfl) (by kernel_rfl) (by kernel_rfl) (by kernel_rfl) (by kernel_rfl) ?_
        refine Ops.cv (Cv.wk (.cons (t := 0) (Has.t rfl) (.cons (t := 3) (Has.t rfl) (.cons (t := 4) (Has.t rfl) (.cons (t := 32) (Has.t rfl) (.cons (t := 39) (Has.t rfl) (.cons (t := 31) (Has.t rfl) (.cons (t := 36) (Has.t rfl) (.cons (t := 48) (Has.t rfl) (.cons (t := 55) (Has.t rfl) .nil)))))))))) ?_
        refine st (OK1.ixGr sl92 ty22 (Has.t rfl) (Has.t rfl) ⟨by omega, by omega⟩) rfl ?_
        refine Ops.storeGM (z := ri) (Has.t rfl) (Has.t rfl) (i := 2) rfl ty22 (by omega) (M' := (_ :: _ :: grM _ _ _ :: _)) rfl ?_
        refine st (OK1.ixGr sl92 ty22 (Has.t rfl) (Has.t rfl) ⟨by omega, by omega⟩) rfl ?_
        refine Ops.storeGM (z := rt) (Has.t rfl) (Has.t rfl) (i := 2) rfl ty22 (by rw [List.length_set]; omega) (M' := (_ :: _ :: grM _ _ _ :: _)) rfl ?_
        refine nl ?_
        refine At.thn (hK8 _ _ ?_); clear hK8
        refine Tri.cv (Cv.wk (.cons (t := 0) (Has.t rfl) (.cons (t := 3) (Has.t rfl) (.cons (t := 4) (Has.t rfl) .nil)))) ?_
        refine Tri.cv (Cv.perm (perm_tailU (pre := [_, _, _]) (swap_perm hrt hri (by omega)))) ?_
        refine Tri.dr ?_
        refine DrG.st (i := 0) [] rfl rfl rfl (by kernel_rfl) (OKG.o rfl (OK1.mv (Has.t rfl))) ?_
        refine DrG.st (i := 1) [] rfl rfl rfl (by kernel_rfl) (OKG.o rfl (OK1.mv (Has.t rfl))) ?_
        refine DrG.st (i := 2) [59] rfl rfl rfl (by kernel_rfl) (OKG.o rfl (OK1.nilc (Has.t rfl))) ?_
        refine DrG.st (i := 3) [60] rfl rfl rfl (by kernel_rfl) (OKG.o rfl (OK1.fieldAddr (Has.t rfl) fld94_0 ty29)) ?_
        refine DrG.st (i := 4) [61] rfl rfl rfl (by kernel_rfl) (OKG.o rfl (OK1.load (Has.t rfl) (i := 0) rfl ty29 rfl (Ss' := [_]) rfl)) ?_
        refine DrG.st (i := 5) [] rfl rfl rfl (by kernel_rfl) (OKG.o rfl (OK1.mv (Has.t rfl))) ?_
        refine DrG.st (i := 6) [63] rfl rfl rfl (by kernel_rfl) (OKG.o rfl (OK1.nilc (Has.t rfl))) ?_
        refine DrG.st (i := 7) [64] rfl rfl rfl (by kernel_rfl) (OKG.o rfl (OK1.fieldAddr (Has.t rfl) fld94_3 ty27)) ?_
        refine DrG.st (i := 8) [65] rfl rfl rfl (by kernel_rfl) (OKG.o rfl (OK1.load1 (Has.t rfl) (i := 0) rfl ty27 rfl)) ?_
        refine DrG.st (i := 9) [62, 66] rfl rfl rfl (by kernel_rfl) (OKG.o rfl (OK1.call (gfp_Neg hq) (.cons (Has.t rfl) (.cons (Has.t rfl) .nil)))) ?_
        refine DrG.fin (n := 10) mixed (by kernel_rfl) (by kernel_rfl) (by kernel_rfl) ?_
        refine Ops.cv (Cv.wk (.cons (t := 0) (Has.t rfl) (.cons (t := 3) (Has.t rfl) (.cons (t := 4) (Has.t rfl) (.cons (t := 58) (Has.t rfl) (.cons (t := 67) (Has.t rfl) .nil)))))) ?_
        refine st (OK1.nilc (Has.t rfl)) rfl ?_
        refine st (OK1.fieldAddr (Has.t rfl) fld94_3 ty27) rfl ?_
        refine Ops.store (Has.t rfl) (Has.t rfl) (i := 0) rfl ty27 rfl rfl (Ss' := [_, _, _, _]) rfl (M' := ((some _, cellM [_, _, _, _]) :: _ :: _ :: _)) rfl ?_
        refine nl ?_
        refine At.thn ?_
        refine hK6 (⟨((rs.set ps.length ri).set (ps.length + n0) rt, _), by rw [List.length_set, List.length_set], swapU_rows hrow hri hrt, swapU_map hri hrt hn2, (if_pos hn2).symm⟩) _ _ (Cv.mem (.cons (t := 0) (Has.t rfl) (.cons (t := 3) (Has.t rfl) (.cons (t := 4) (Has.t rfl) .nil))) ?_)
        · exact wkU_len (by rw [List.length_set, List.length_set])
      · have hc2 := BP.f hc2
        have hn2 : n0 = 0 := (by omega)
        refine Tri.skip ?_
        refine At.thn ?_
        refine hK6 (⟨(rs, det), rfl, hrow, by rw [hn2]; rfl, (if_neg (by omega)).symm⟩) _ _ (Cv.mem (.cons (t := 0) (Has.t rfl) (.cons (t := 3) (Has.t rfl) (.cons (t := 4) (Has.t rfl) .nil))) ?_)
        · rfl
    rintro ⟨⟨rs1, d1⟩, hS⟩
    refine Tri.cv (Cv.wk (.cons (t := 0) (Has.t rfl) (.cons (t := 3) (Has.t rfl) (.cons (t := 4) (Has.t rfl) .nil)))) ?_
    refine Tri.memEq (M' := wkMU q bw gp gt rs1 ps d1) rfl ?_
    simp only [] at hS
    obtain ⟨hl1, hrow1, hm1, hd1⟩ := hS
    obtain ⟨b, hb⟩ : ∃ b, rs1[ps.length]? = some b := ⟨_, List.getElem?_eq_getElem (by omega)⟩
    have hbW := hrow1 b (List.mem_of_getElem? hb)
    have htl : ps.length < rs1.length := Go.Dt.lt_some hb
    refine Tri.seq fun K9 hK9 => ?_
    refine Tri.region ?_
    refine st (OK1.mv (Has.t rfl)) rfl ?_
    refine st (OK1.nilc (Has.t rfl)) rfl ?_
    refine st (OK1.fieldAddr (Has.t rfl) fld94_1 ty92) rfl ?_
    refine st (OK1.load1 (Has.t rfl) (i := 0) rfl ty92 rfl) rfl ?_
    refine st (OK1.mv (Has.t rfl)) rfl ?_
    refine st (OK1.ixGr sl92 ty22 (Has.t rfl) (Has.t rfl) ⟨by omega, by omega⟩) rfl ?_
    refine st (OK1.loadGM (Has.t rfl) (i := 2) rfl ty22 hb) rfl ?_
    refine st (OK1.as (Has.t rfl)) rfl ?_
    refine nl ?_
    refine At.thn (hK9 _ _ ?_); clear hK9
    refine Tri.cv (Cv.wk (.cons (t := 0) (Has.t rfl) (.cons (t := 3) (Has.t rfl) (.cons (t := 4) (Has.t rfl) (.cons (t := 6) (Has.t rfl) .nil))))) ?_
    refine Tri.seq fun K10 hK10 => ?_
    refine Tri.dr ?_
    refine DrG.st (i := 0) [] rfl rfl rfl (by kernel_rfl) (OKG.o rfl (OK1.mv (Has.t rfl))) ?_
    refine DrG.st (i := 1) [] rfl rfl rfl (by kernel_rfl) (OKG.o rfl (OK1.mv (Has.t rfl))) ?_
    refine DrG.st (i := 2) [78] rfl rfl rfl (by kernel_rfl) (OKG.o rfl (OK1.nilc (Has.t rfl))) ?_
    refine DrG.st (i := 3) [79] rfl rfl rfl (by kernel_rfl) (OKG.o rfl (OK1.fieldAddr (Has.t rfl) fld94_0 ty29)) ?_
    refine DrG.st (i := 4) [80] rfl rfl rfl (by kernel_rfl) (OKG.o rfl (OK1.load (Has.t rfl) (i := 0) rfl ty29 rfl (Ss' := [_]) rfl)) ?_
    refine DrG.st (i := 5) [] rfl rfl rfl (by kernel_rfl) (OKG.o rfl (OK1.mv (Has.t rfl))) ?_
    refine DrG.st (i := 6) [82] rfl rfl rfl (by kernel_rfl) (OKG.o rfl (OK1.nilc (Has.t rfl))) ?_
    refine DrG.st (i := 7) [83] rfl rfl rfl (by kernel_rfl) (OKG.o rfl (OK1.fieldAddr (Has.t rfl) fld94_3 ty27)) ?_
    refine DrG.st (i := 8) [84] rfl rfl rfl (by kernel_rfl) (OKG.o rfl (OK1.load1 (Has.t rfl) (i := 0) rfl ty27 rfl)) ?_
    refine DrG.st (i := 9) [] rfl rfl rfl (by kernel_rfl) (OKG.o rfl (OK1.mv (Has.t rfl))) ?_
    refine DrG.st (i := 10) [] rfl rfl rfl (by kernel_rfl) (OKG.o rfl (OK1.loadP1 (Has.t rfl) ty3)) ?_
    refine DrG.st (i := 11) [86, 87] rfl rfl rfl (by kernel_rfl) (OKG.o rfl (OK1.ixGr sl22 ty27 (Has.t rfl) (Has.t rfl) ⟨by omega, by omega⟩)) ?_
    refine DrG.st (i := 12) [88] rfl rfl rfl (by kernel_rfl) (OKG.o rfl (OK1.eq (OK1.loadGM (Has.t rfl) (i := 3 + ps.length) (wkAtU (pre := [_, _, _]) hb) ty27 (getD_some (d := 0) (by omega))) ((show isU _ = isU (b.2.getD col 0) from isU_eq rfl)))) ?_
    refine DrG.st (i := 13) [81, 85, 89] rfl rfl rfl (by kernel_rfl) (OKG.o rfl (OK1.call (gfp_Mul hq) (.cons (Has.t rfl) (.cons (Has.t rfl) (.cons (Has.t rfl) .nil))))) ?_
    refine DrG.fin (n := 14) mixed (by kernel_rfl) (by kernel_rfl) (by kernel_rfl) ?_
    refine Ops.cv (Cv.wk (.cons (t := 0) (Has.t rfl) (.cons (t := 3) (Has.t rfl) (.cons (t := 4) (Has.t rfl) (.cons (t := 6) (Has.t rfl) (.cons (t := 77) (Has.t rfl) (.cons (t := 90) (Has.t rfl) .nil))))))) ?_
    refine st (OK1.nilc (Has.t rfl)) rfl ?_
    refine st (OK1.fieldAddr (Has.t rfl) fld94_3 ty27) rfl ?_
    refine Ops.store (Has.t rfl) (Has.t rfl) (i := 0) rfl ty27 rfl rfl (Ss' := [_, _, _, _]) rfl (M' := ((some _, cellM [_, _, _, _]) :: _ :: _ :: _)) rfl ?_
    refine nl ?_
    refine At.thn (hK10 _ _ ?_); clear hK10
    refine Tri.seq fun K11 hK11 => ?_
    refine Tri.dr ?_
    refine DrG.st (i := 0) [] rfl rfl rfl (by kernel_rfl) (OKG.o rfl (OK1.mv (Has.t rfl))) ?_
    refine DrG.st (i := 1) [93] rfl rfl rfl (by kernel_rfl) (OKG.o rfl (OK1.nilc (Has.t rfl))) ?_
    refine DrG.st (i := 2) [94] rfl rfl rfl (by kernel_rfl) (OKG.o rfl (OK1.fieldAddr (Has.t rfl) fld94_0 ty29)) ?_
    refine DrG.st (i := 3) [95] rfl rfl rfl (by kernel_rfl) (OKG.o rfl (OK1.load (Has.t rfl) (i := 0) rfl ty29 rfl (Ss' := [_]) rfl)) ?_
    refine DrG.st (i := 4) [] rfl rfl rfl (by kernel_rfl) (OKG.o rfl (OK1.mv (Has.t rfl))) ?_
    refine DrG.st (i := 5) [] rfl rfl rfl (by kernel_rfl) (OKG.o rfl (OK1.loadP1 (Has.t rfl) ty3)) ?_
    refine DrG.st (i := 6) [97, 98] rfl rfl rfl (by kernel_rfl) (OKG.o rfl (OK1.ixGr sl22 ty27 (Has.t rfl) (Has.t rfl) ⟨by omega, by omega⟩)) ?_
    refine DrG.st (i := 7) [99] rfl rfl rfl (by kernel_rfl) (OKG.o rfl (OK1.eq (OK1.loadGM (Has.t rfl) (i := 3 + ps.length) (wkAtU (pre := [_, _, _]) hb) ty27 (getD_some (d := 0) (by omega))) ((show isU _ = isU (b.2.getD col 0) from isU_eq rfl)))) ?_
    refine DrG.fin (n := 8) mixed (by kernel_rfl) (by kernel_rfl) (by kernel_rfl) ?_
    refine Ops.cv (Cv.wk (.cons (t := 0) (Has.t rfl) (.cons (t := 3) (Has.t rfl) (.cons (t := 4) (Has.t rfl) (.cons (t := 6) (Has.t rfl) (.cons (t := 96) (Has.t rfl) (.cons (t := 100) (Has.t rfl) .nil))))))) ?_
    refine st (OK1.call (gfp_Inv hq hp2) (.cons (Has.t rfl) (.cons (Has.t rfl) .nil))) rfl ?_
    refine st (OK1.as (Has.t rfl)) rfl ?_
    refine nl ?_
    refine At.thn (hK11 _ _ ?_); clear hK11
    refine Tri.seq fun K12 hK12 => ?_
    refine Tri.seq fun K13 hK13 => ?_
    refine Tri.region ?_
    refine st (OK1.mv (Has.t rfl)) rfl ?_
    refine st (OK1.len sl22 (Has.t rfl)) rfl ?_
    refine st (OK1.mv (Has.cI 0 rfl)) rfl ?_
    refine nl ?_
    refine At.thn (hK13 _ _ ?_); clear hK13
    refine Tri.block ?_
    refine Tri.loopF [0, 3, 4, 6, 7, 103] (fun (z : { k : Nat // k ≤ b.2.length }) => match z with | ⟨k, hk⟩ => [(104, isI (k : Int))]) (fun M => fun (z : { k : Nat // k ≤ b.2.length }) => match z with | ⟨k, hk⟩ => (wk0U q bw gp gt rs1.length ps (d1 * b.2.getD col 0 % fp q) :: grM isI gp (pv ps) :: grM rowVU gt rs1 :: (rs1.set ps.length (b.1, mixL (scaleL (fp q) (inv (fp q) (b.2.getD col 0)) b.2) b.2 k)).map rowMU)) (fun (z : { k : Nat // k ≤ b.2.length }) => match z with | ⟨k, hk⟩ => b.2.length - k) (⟨0, Nat.zero_le _⟩) (Cv.mem (.cons (t := 104) (Has.t' rfl ?_) (.cons (t := 0) (Has.t rfl) (.cons (t := 3) (Has.t rfl) (.cons (t := 4) (Has.t rfl) (.cons (t := 6) (Has.t rfl) (.cons (t := 7) (Has.t rfl) (.cons (t := 103) (Has.t rfl) .nil))))))) ?_) ?_
    · rfl
    · exact mixU_start (pre := [_, _, _]) hb
    rintro ⟨k, hk⟩ K14 hK14
    refine Tri.cv (Cv.wk (.cons (t := 104) (Has.t rfl) (.cons (t := 0) (Has.t rfl) (.cons (t := 3) (Has.t rfl) (.cons (t := 4) (Has.t rfl) (.cons (t := 6) (Has.t rfl) (.cons (t := 7) (Has.t rfl) (.cons (t := 103) (Has.t rfl) .nil)))))))) ?_
    refine Tri.memEq (M' := (wk0U q bw gp gt rs1.length ps (d1 * b.2.getD col 0 % fp q) :: grM isI gp (pv ps) :: grM rowVU gt rs1 :: (rs1.set ps.length (b.1, mixL (scaleL (fp q) (inv (fp q) (b.2.getD col 0)) b.2) b.2 k)).map rowMU)) rfl ?_
    have hset : (rs1.set ps.length (b.1, mixL (scaleL (fp q) (inv (fp q) (b.2.getD col 0)) b.2) b.2 k))[ps.length]? = some (b.1, mixL (scaleL (fp q) (inv (fp q) (b.2.getD col 0)) b.2) b.2 k) := List.getElem?_set_self htl
    refine Tri.seq fun K15 hK15 => ?_
    refine Tri.region ?_
    refine st (OK1.ltI (Has.t rfl) (Has.t rfl)) rfl ?_
    refine nl ?_
    refine At.thn (hK15 _ _ ?_); clear hK15
    refine Tri.seq fun K16 hK16 => ?_
    refine Tri.cond (Has.t rfl) (fun hc3 => ?_) (fun hc3 => ?_)
    · have hc3 := BP.t hc3
      refine Tri.skip ?_
      refine At.thn (hK16 _ _ ?_); clear hK16
      refine Tri.seq fun K17 hK17 => ?_
      refine Tri.block ?_
      refine Tri.seq fun K18 hK18 => ?_
      refine Tri.region ?_
      refine st (OK1.mv (Has.t rfl)) rfl ?_
      refine st (OK1.as (Has.t rfl)) rfl ?_
      refine nl ?_
      refine At.thn (hK18 _ _ ?_); clear hK18
      refine Tri.dr ?_
      refine DrG.st (i := 0) [] rfl rfl rfl (by kernel_rfl) (OKG.o rfl (OK1.mv (Has.t rfl))) ?_
      refine DrG.st (i := 1) [] rfl rfl rfl (by kernel_rfl) (OKG.o rfl (OK1.mv (Has.t rfl))) ?_
      refine DrG.st (i := 2) [] rfl rfl rfl (by kernel_rfl) (OKG.o rfl (OK1.mv (Has.t rfl))) ?_
      refine DrG.st (i := 3) [109] rfl rfl rfl (by kernel_rfl) (OKG.o rfl (OK1.nilc (Has.t rfl))) ?_
      refine DrG.st (i := 4) [110] rfl rfl rfl (by kernel_rfl) (OKG.o rfl (OK1.fieldAddr (Has.t rfl) fld94_0 ty29)) ?_
      refine DrG.st (i := 5) [111] rfl rfl rfl (by kernel_rfl) (OKG.o rfl (OK1.load (Has.t rfl) (i := 0) rfl ty29 rfl (Ss' := [_]) rfl)) ?_
      refine DrG.st (i := 6) [] rfl rfl rfl (by kernel_rfl) (OKG.o rfl (OK1.mv (Has.t rfl))) ?_
      refine DrG.st (i := 7) [] rfl rfl rfl (by kernel_rfl) (OKG.o rfl (OK1.mv (Has.t rfl))) ?_
      refine DrG.st (i := 8) [113, 114] rfl rfl rfl (by kernel_rfl) (OKG.o rfl (OK1.ixGr sl22 ty27 (Has.t rfl) (Has.t rfl) ⟨by omega, by omega⟩)) ?_
      refine DrG.st (i := 9) [115] rfl rfl rfl (by kernel_rfl) (OKG.o rfl (OK1.loadGM (Has.t rfl) (i := 3 + ps.length) (wkAtU (pre := [_, _, _]) (r := (b.1, mixL (scaleL (fp q) (inv (fp q) (b.2.getD col 0)) b.2) b.2 k)) hset) ty27 (mixL_at (scaleL_len _ _ _) (by omega)))) ?_
      refine DrG.st (i := 10) [] rfl rfl rfl (by kernel_rfl) (OKG.o rfl (OK1.mv (Has.t rfl))) ?_
      refine DrG.st (i := 11) [112, 116, 117] rfl rfl rfl (by kernel_rfl) (OKG.o rfl (OK1.call (gfp_Mul hq) (.cons (Has.t rfl) (.cons (Has.t rfl) (.cons (Has.t rfl) .nil))))) ?_
      refine DrG.fin (n := 12) mixed (by kernel_rfl) (by kernel_rfl) (by kernel_rfl) ?_
      refine Ops.cv (Cv.wk (.cons (t := 0) (Has.t rfl) (.cons (t := 3) (Has.t rfl) (.cons (t := 4) (Has.t rfl) (.cons (t := 6) (Has.t rfl) (.cons (t := 7) (Has.t rfl) (.cons (t := 103) (Has.t rfl) (.cons (t := 104) (Has.t rfl) (.cons (t := 105) (Has.t rfl) (.cons (t := 106) (Has.t rfl) (.cons (t := 8) (Has.t rfl) (.cons (t := 107) (Has.t rfl) (.cons (t := 108) (Has.t rfl) (.cons (t := 109) (Has.t rfl) (.cons (t := 110) (Has.t rfl) (.cons (t := 111) (Has.t rfl) (.cons (t := 112) (Has.t rfl) (.cons (t := 113) (Has.t rfl) (.cons (t := 114) (Has.t rfl) (.cons (t := 115) (Has.t rfl) (.cons (t := 116) (Has.t rfl) (.cons (t := 117) (Has.t rfl) (.cons (t := 118) (Has.t rfl) .nil))))))))))))))))))))))) ?_
      refine st (OK1.ixGr sl22 ty27 (Has.t rfl) (Has.t rfl) ⟨by omega, by omega⟩) rfl ?_
      refine Ops.storeGM (z := b.2.getD k 0 * inv (fp q) (b.2.getD col 0) % fp q) (Has.t rfl) (Has.t rfl) (i := 3 + ps.length) (wkAtU (pre := [_, _, _]) (r := (b.1, mixL (scaleL (fp q) (inv (fp q) (b.2.getD col 0)) b.2) b.2 k)) hset) ty27 (by rw [mixL_len (scaleL_len _ _ _) (by omega)]; omega) (M' := (_ :: _ :: _ :: (rs1.set ps.length (b.1, mixL (scaleL (fp q) (inv (fp q) (b.2.getD col 0)) b.2) b.2 (k + 1))).map rowMU)) (wkStoreU (pre := [_, _, _]) (X := (b.1, mixL (scaleL (fp q) (inv (fp q) (b.2.getD col 0)) b.2) b.2 k)) hset (mixL_set (scaleL_len _ _ _) (by omega) (scaleL_at _ _ (by omega)))) ?_
      refine nl ?_
      refine At.bln ?_
      refine At.thn (hK17 _ _ ?_); clear hK17
      refine Tri.region ?_
      refine st (OK1.addI (Has.t rfl) (Has.cI 1 rfl) (by first | omega | assumption) (by first | omega | assumption)) rfl ?_
      refine st (OK1.mv (Has.t rfl)) rfl ?_
      refine nl ?_
      refine At.thn ?_
      refine hK14 (⟨k + 1, by omega⟩) _ _ ?_ (Cv.mem (.cons (t := 104) (Has.t' rfl ?_) (.cons (t := 0) (Has.t rfl) (.cons (t := 3) (Has.t rfl) (.cons (t := 4) (Has.t rfl) (.cons (t := 6) (Has.t rfl) (.cons (t := 7) (Has.t rfl) (.cons (t := 103) (Has.t rfl) .nil))))))) ?_)
      · show b.2.length - (k + 1) < b.2.length - k; omega
      · exact isI_eq (by omega)
      · rfl
    · have hc3 := BP.f hc3
      refine Tri.exit ?_
      refine At.the ?_
      refine At.the ?_
      refine At.blh ?_
      refine At.thn (hK12 _ _ ?_); clear hK12
      refine Tri.seq fun K19 hK19 => ?_
      refine Tri.seq fun K20 hK20 => ?_
      refine Tri.region ?_
      refine st (OK1.mv (Has.t rfl)) rfl ?_
      refine st (OK1.nilc (Has.t rfl)) rfl ?_
      refine st (OK1.fieldAddr (Has.t rfl) fld94_1 ty92) rfl ?_
      refine st (OK1.load1 (Has.t rfl) (i := 0) rfl ty92 rfl) rfl ?_
      refine st (OK1.len sl92 (Has.t rfl)) rfl ?_
      refine st (OK1.mv (Has.cI 0 rfl)) rfl ?_
      refine nl ?_
      refine At.thn (hK20 _ _ ?_); clear hK20
      refine Tri.cv (Cv.wk (.cons (t := 0) (Has.t rfl) (.cons (t := 3) (Has.t rfl) (.cons (t := 4) (Has.t rfl) (.cons (t := 6) (Has.t rfl) (.cons (t := 124) (Has.t rfl) (.cons (t := 125) (Has.t rfl) (.cons (t := 126) (Has.t rfl) .nil)))))))) ?_
      refine Tri.block ?_
      refine Tri.loopF [0, 3, 4, 6, 124, 125] (fun (z : { z : Nat × List RowU // z.1 ≤ rs1.length ∧ TakI (fp q) rs1 ps.length col (scaleL (fp q) (inv (fp q) (b.2.getD col 0)) b.2) z.1 z.2 }) => match z with | ⟨(r, rs3), hI⟩ => [(126, isI (r : Int))]) (fun M => fun (z : { z : Nat × List RowU // z.1 ≤ rs1.length ∧ TakI (fp q) rs1 ps.length col (scaleL (fp q) (inv (fp q) (b.2.getD col 0)) b.2) z.1 z.2 }) => match z with | ⟨(r, rs3), hI⟩ => wkMU q bw gp gt rs3 ps (d1 * b.2.getD col 0 % fp q)) (fun (z : { z : Nat × List RowU // z.1 ≤ rs1.length ∧ TakI (fp q) rs1 ps.length col (scaleL (fp q) (inv (fp q) (b.2.getD col 0)) b.2) z.1 z.2 }) => match z with | ⟨(r, rs3), hI⟩ => rs1.length - r) (⟨(0, rs1.set ps.length (b.1, scaleL (fp q) (inv (fp q) (b.2.getD col 0)) b.2)), Nat.zero_le _, TakI.start hb⟩) (Cv.mem (.cons (t := 126) (Has.t' rfl ?_) (.cons (t := 0) (Has.t rfl) (.cons (t := 3) (Has.t rfl) (.cons (t := 4) (Has.t rfl) (.cons (t := 6) (Has.t rfl) (.cons (t := 124) (Has.t rfl) (.cons (t := 125) (Has.t rfl) .nil))))))) ?_) ?_
      · rfl
      · exact (wkU_round hb (scaleL_len _ _ _) (by omega)).trans (wkU_len (by rw [List.length_set]))
      rintro ⟨⟨r, rs3⟩, hI⟩ K21 hK21
      refine Tri.cv (Cv.wk (.cons (t := 126) (Has.t rfl) (.cons (t := 0) (Has.t rfl) (.cons (t := 3) (Has.t rfl) (.cons (t := 4) (Has.t rfl) (.cons (t := 6) (Has.t rfl) (.cons (t := 124) (Has.t rfl) (.cons (t := 125) (Has.t rfl) .nil)))))))) ?_
      refine Tri.memEq (M' := wkMU q bw gp gt rs3 ps (d1 * b.2.getD col 0 % fp q)) rfl ?_
      simp only [] at hI
      obtain ⟨hr0, hT⟩ := hI
      have hl3 := hT.len
      refine Tri.seq fun K22 hK22 => ?_
      refine Tri.region ?_
      refine st (OK1.ltI (Has.t rfl) (Has.t rfl)) rfl ?_
      refine nl ?_
      refine At.thn (hK22 _ _ ?_); clear hK22
      refine Tri.seq fun K23 hK23 => ?_
      refine Tri.cond (Has.t rfl) (fun hc4 => ?_) (fun hc4 => ?_)
      · have hc4 := BP.t hc4
        obtain ⟨x, hr⟩ : ∃ x, rs3[r]? = some x := ⟨_, List.getElem?_eq_getElem (by omega)⟩
        refine Tri.skip ?_
        refine At.thn (hK23 _ _ ?_); clear hK23
        refine Tri.seq fun K24 hK24 => ?_
        refine Tri.block ?_
        refine Tri.seq fun K25 hK25 => ?_
        refine Tri.region ?_
        refine st (OK1.mv (Has.t rfl)) rfl ?_
        refine st (OK1.ixGr sl92 ty22 (Has.t rfl) (Has.t rfl) ⟨by omega, by omega⟩) rfl ?_
        refine st (OK1.loadGM (Has.t rfl) (i := 2) rfl ty22 hr) rfl ?_
        refine st (OK1.as (Has.t rfl)) rfl ?_
        refine st (OK1.as (Has.t rfl)) rfl ?_
        refine nl ?_
        refine At.thn (hK25 _ _ ?_); clear hK25
        refine Tri.seq fun K26 hK26 => ?_
        refine Tri.region ?_
        refine st (OK1.mv (Has.t rfl)) rfl ?_
        refine st (OK1.mv (Has.t rfl)) rfl ?_
        refine st (OK1.neI (Has.t rfl) (Has.t rfl)) rfl ?_
        refine nl ?_
        refine At.thn (hK26 _ _ ?_); clear hK26
        refine Tri.cond (Has.t rfl) (fun hc5 => ?_) (fun hc5 => ?_)
        · have hc5 := BP.t hc5
          have hrt2 : r ≠ ps.length := (by omega)
          have hb3 : rs3[ps.length]? = some (b.1, scaleL (fp q) (inv (fp q) (b.2.getD col 0)) b.2) := hT.top hb
          have hxr2 : rs1[r]? = some x := hT.here (by omega) hr hrt2
          have hxW : x.2.length = W := hrow1 x (List.mem_of_getElem? hxr2)
          refine Tri.region ?_
          refine st (OK1.mv (Has.t rfl)) rfl ?_
          refine st (OK1.mv (Has.t rfl)) rfl ?_
          refine st (OK1.eq (OK1.mv (Has.t rfl)) ((show isGr _ _ = isGr b.1 (scaleL (fp q) (inv (fp q) (b.2.getD col 0)) b.2).length from isGr_eq (by rw [scaleL_len])))) rfl ?_
          refine st (OK1.mv (Has.t rfl)) rfl ?_
          refine st (OK1.loadP1 (Has.t rfl) ty3) rfl ?_
          refine st (OK1.ixGr sl22 ty27 (Has.t rfl) (Has.t rfl) ⟨by omega, by omega⟩) rfl ?_
          refine st (OK1.eq (OK1.loadGM (Has.t rfl) (i := 3 + r) (wkAtU (pre := [_, _, _]) hr) ty27 (getD_some (d := 0) (by omega))) ((show isU _ = isU (x.2.getD col 0) from isU_eq rfl))) rfl ?_
          refine Ops.callX (fmat_take hq (i := r) (t := ps.length) (r := x) (b := (b.1, scaleL (fp q) (inv (fp q) (b.2.getD col 0)) b.2)) hr hb3 hrt2 (by rw [scaleL_len]; omega) (by omega)) (perm0 _) (.cons (Has.t rfl) (.cons (Has.t rfl) (.cons (Has.t rfl) (.cons (Has.t rfl) .nil)))) rfl ?_
          rintro _ _ ⟨rfl, rfl⟩
          refine Ops.memEq (M' := wkMU q bw gp gt (rs3.set r (x.1, takeL (fp q) (x.2.getD col 0) (scaleL (fp q) (inv (fp q) (b.2.getD col 0)) b.2) x.2)) ps (d1 * b.2.getD col 0 % fp q)) (List.append_nil _) ?_
          refine nl ?_
          refine At.bln ?_
          refine At.thn (hK24 _ _ ?_); clear hK24
          refine Tri.region ?_
          refine st (OK1.addI (Has.t rfl) (Has.cI 1 rfl) (by first | omega | assumption) (by first | omega | assumption)) rfl ?_
          refine st (OK1.mv (Has.t rfl)) rfl ?_
          refine nl ?_
          refine At.thn ?_
          refine hK21 (⟨(r + 1, rs3.set r (x.1, takeL (fp q) (x.2.getD col 0) (scaleL (fp q) (inv (fp q) (b.2.getD col 0)) b.2) x.2)), by show r + 1 ≤ _; omega, hT.step (by omega) hr hrt2⟩) _ _ ?_ (Cv.mem (.cons (t := 126) (Has.t' rfl ?_) (.cons (t := 0) (Has.t rfl) (.cons (t := 3) (Has.t rfl) (.cons (t := 4) (Has.t rfl) (.cons (t := 6) (Has.t rfl) (.cons (t := 124) (Has.t rfl) (.cons (t := 125) (Has.t rfl) .nil))))))) ?_)
          · show rs1.length - (r + 1) < rs1.length - r; omega
          · exact isI_eq (by omega)
          · rfl
        · have hc5 := BP.f hc5
          have hrt2 : r = ps.length := (by omega)
          refine Tri.skip ?_
          refine At.bln ?_
          refine At.thn (hK24 _ _ ?_); clear hK24
          refine Tri.region ?_
          refine st (OK1.addI (Has.t rfl) (Has.cI 1 rfl) (by first | omega | assumption) (by first | omega | assumption)) rfl ?_
          refine st (OK1.mv (Has.t rfl)) rfl ?_
          refine nl ?_
          refine At.thn ?_
          refine hK21 (⟨(r + 1, rs3), by show r + 1 ≤ _; omega, hT.skip (by omega)⟩) _ _ ?_ (Cv.mem (.cons (t := 126) (Has.t' rfl ?_) (.cons (t := 0) (Has.t rfl) (.cons (t := 3) (Has.t rfl) (.cons (t := 4) (Has.t rfl) (.cons (t := 6) (Has.t rfl) (.cons (t := 124) (Has.t rfl) (.cons (t := 125) (Has.t rfl) .nil))))))) ?_)
          · show rs1.length - (r + 1) < rs1.length - r; omega
          · exact isI_eq (by omega)
          · rfl
      · have hc4 := BP.f hc4
        refine Tri.exit ?_
        refine At.the ?_
        refine At.the ?_
        refine At.blh ?_
        refine At.thn (hK19 _ _ ?_); clear hK19
        refine Tri.cv (Cv.wk (.cons (t := 0) (Has.t rfl) (.cons (t := 3) (Has.t rfl) .nil))) ?_
        refine Tri.dry mixed ?_
        refine DrB.take (i := 0) rfl rfl rfl rfl (by kernel_rfl) (by kernel_rfl) (by kernel_rfl) (by kernel_rfl) (fun _ _ _ _ h => h) (OKY.mv (Has.t rfl)) ?_
        refine DrB.take (i := 1) rfl rfl rfl rfl (by kernel_rfl) (by kernel_rfl) (by kernel_rfl) (by kernel_rfl) (fun _ _ _ _ h => h) (OKY.mv (Has.t rfl)) ?_
        refine DrB.take (i := 2) rfl rfl rfl rfl (by kernel_rfl) (by kernel_rfl) (by kernel_rfl) (by kernel_rfl) (fun _ _ _ _ h => h) (OKY.nilc (Has.t rfl)) ?_
        refine DrB.take (i := 3) rfl rfl rfl rfl (by kernel_rfl) (by kernel_rfl) (by kernel_rfl) (by kernel_rfl) (fun _ _ _ _ h => h) (OKY.fieldAddr (Has.t rfl) fld94_2 ty32) ?_
        refine DrB.go [] ?_
        refine DrC.st (i := 4) [] rfl rfl rfl (by kernel_rfl) (by kernel_rfl) (OKG.o rfl (OK1.load1 (Has.t rfl) (i := 0) rfl ty32 rfl)) ?_
        refine DrC.st (i := 5) [] rfl rfl rfl (by kernel_rfl) (by kernel_rfl) (OKG.o rfl (OK1.loadP1 (Has.t rfl) ty3)) ?_
        refine DrC.st (i := 6) [148] rfl rfl rfl (by kernel_rfl) (by kernel_rfl) (OKG.o rfl (OK1.buildS [isI 0] sl32 ty3 zero3 (fun _ _ => ⟨⟨rfl, by decide, by decide⟩, trivial⟩) rfl rfl (.cons (Has.t rfl) rfl rfl rfl .nil) rfl (S := SlM isI [(col : Int)]) rfl)) ?_
        refine DrC.fin [7, 8, 9, 10] (by kernel_rfl) (by kernel_rfl) (fun _ _ _ _ _ h => h) (by kernel_rfl) (by kernel_rfl) (by kernel_rfl) (by kernel_rfl) (by kernel_rfl) (by kernel_rfl) (by kernel_rfl) (by kernel_rfl) (by kernel_rfl) ?_
        refine Ops.cv (Cv.wk (.cons (t := 143) (Has.t rfl) (.cons (t := 147) (Has.t rfl) (.cons (t := 149) (Has.t rfl) .nil)))) ?_
        refine Ops.appendG (f := isI) (u := 0) sl32 ty3 zero3 (fun _ _ => ⟨⟨rfl, by decide, by decide⟩, trivial⟩) (fun _ => inferInstance) by3 (Has.t rfl) (i := 1) rfl (Has.t rfl) (by rw [hpv]; show ps.length + 1 ≤ _; omega) (by simp) rfl fun gr1 => ?_
        refine Ops.memEq (M' := (_ :: grM _ _ _ :: _ :: _)) rfl ?_
        refine st (OK1.nilc (Has.t rfl)) rfl ?_
        refine st (OK1.fieldAddr (Has.t rfl) fld94_2 ty32) rfl ?_
        refine Ops.store (Has.t rfl) (Has.t rfl) (i := 0) rfl ty32 rfl rfl (Ss' := [_, _, _, _]) rfl (M' := ((some _, cellM [_, _, _, _]) :: _ :: _ :: _)) rfl ?_
        refine nl ?_
        refine rtX0 (.inr rfl) Try.results118 rfl ?_
        have hfc := fcol_yes (p := fp q) (det := det) hn0 hn1 hm1 hd1 hb (hT.mono (by omega))
        exact ⟨gr1, rs3, rfl, (wkU_app rfl rfl).trans (by rw [hfc]), by rw [hfc]⟩
end Go.Proofs.Ytfoclelageohiaa
/- Contracts: a matrix is reduced. -/
namespace Go.Proofs.Ytfoclelageohiaa
open Go.En Go.RowKit
set_option linter.unusedVariables false
set_option maxRecDepth 10000
open Go.Gf
open Go.Mz
open Go.Mu
open Go.Fe
set_option maxHeartbeats 4000000 in
theorem fmat_reduced {q R C D : Nat} {xs ys : List Nat} (hq : q < 4294967296) (hp2 : 2 ≤ fp q) (hR : R ≤ 64) (hC : C ≤ 64) (hD : D ≤ 64) (hxl : xs.length = R * C) (hyl : ys.length = R * D) : Ctr Try.prog 67 [Flat [isU q], isMW R C xs, isMW R D ys] (wkFU q (fred (fp q) ⟨rowsU (fp q) R C D xs ys, [], 1 % fp q⟩ C)) := by
  refine Ctr.intro Try.func67 rfl (by kernel_rfl) Try.ntmps67 rfl fun w0 F0 => ?_
  refine Tri.cv (Cv.wk (.cons (t := 0) (Has.t rfl) (.cons (t := 1) (Has.t rfl) (.cons (t := 2) (Has.t rfl) .nil)))) ?_
  refine Tri.seq fun K1 hK1 => ?_
  refine Tri.region ?_
  refine Ops.box (Has.t rfl) rfl fun b1 => ?_
  refine Ops.box (Has.t rfl) rfl fun b2 => ?_
  refine Ops.box (Has.t rfl) rfl fun b3 => ?_
  refine st (OK1.as Has.cP) rfl ?_
  refine nl ?_
  refine At.thn (hK1 _ _ ?_); clear hK1
  refine Tri.seq fun K2 hK2 => ?_
  refine Tri.region ?_
  refine Ops.cv (Cv.freezeBox (t := 4) (i := 1) rfl rfl rfl) ?_
  refine Ops.memEq (M' := [_, _]) rfl ?_
  refine Ops.cv (Cv.wk (.cons (t := 0) (Has.t rfl) (.cons (t := 1) (Has.t rfl) (.cons (t := 2) (Has.t rfl) (.cons (t := 3) (Has.t rfl) (.cons (t := 4) (Has.t rfl) (.cons (t := 5) (Has.t rfl) (.cons (t := 6) (Has.t rfl) .nil)))))))) ?_
  refine st (OK1.load (Has.t rfl) (i := 1) rfl ty29 rfl (Ss' := [_]) rfl) rfl ?_
  refine st (OK1.loadP (Has.t rfl) ty24 rfl (Ss' := [_, _, _]) rfl) rfl ?_
  refine st (OK1.load (Has.t rfl) (i := 0) rfl ty24 rfl (Ss' := [_, _, _]) rfl) rfl ?_
  refine Ops.cv (Cv.drop ((.cons _ (.cons _ .slnil)))) ?_
  refine Ops.cv (Cv.wk (.cons (t := 0) (Has.t rfl) (.cons (t := 1) (Has.t rfl) (.cons (t := 2) (Has.t rfl) (.cons (t := 4) (Has.t rfl) (.cons (t := 6) (Has.t rfl) (.cons (t := 9) (Has.t rfl) (.cons (t := 10) (Has.t rfl) (.cons (t := 11) (Has.t rfl) .nil))))))))) ?_
  refine Ops.callX (fmat_begun hR hC hD hxl hyl) (List.Perm.refl _) (.cons (Has.t rfl) (.cons (Has.t rfl) (.cons (Has.t rfl) .nil))) rfl ?_
  rintro _ _ ⟨bw, gt, rs0, rfl, rfl, hrs0⟩
  refine Ops.memEq (M' := wkMU q bw Gr.nil gt rs0 [] (1 % fp q)) (List.append_nil _) ?_
  refine st (OK1.as (Has.t rfl)) rfl ?_
  refine nl ?_
  refine At.thn (hK2 _ _ ?_); clear hK2
  refine Tri.cv (Cv.wk (.cons (t := 4) (Has.t rfl) (.cons (t := 6) (Has.t rfl) (.cons (t := 7) (Has.t rfl) .nil)))) ?_
  refine Tri.seq fun K3 hK3 => ?_
  refine Tri.seq fun K4 hK4 => ?_
  refine Tri.region ?_
  refine st (OK1.as (Has.cI 0 rfl)) rfl ?_
  refine nl ?_
  refine At.thn (hK4 _ _ ?_); clear hK4
  refine Tri.block ?_
  refine Tri.loopF [4, 6, 7] (fun (z : { z : Nat × Gr Int × List RowU // z.1 ≤ C ∧ z.2.2.map Prod.snd = (fred (fp q) ⟨rowsU (fp q) R C D xs ys, [], 1 % fp q⟩ z.1).rows }) => match z with | ⟨(c, gp, rs), hI⟩ => [(8, isI (c : Int))]) (fun M => fun (z : { z : Nat × Gr Int × List RowU // z.1 ≤ C ∧ z.2.2.map Prod.snd = (fred (fp q) ⟨rowsU (fp q) R C D xs ys, [], 1 % fp q⟩ z.1).rows }) => match z with | ⟨(c, gp, rs), hI⟩ => wkMU q bw gp gt rs (fred (fp q) ⟨rowsU (fp q) R C D xs ys, [], 1 % fp q⟩ c).ps (fred (fp q) ⟨rowsU (fp q) R C D xs ys, [], 1 % fp q⟩ c).det) (fun (z : { z : Nat × Gr Int × List RowU // z.1 ≤ C ∧ z.2.2.map Prod.snd = (fred (fp q) ⟨rowsU (fp q) R C D xs ys, [], 1 % fp q⟩ z.1).rows }) => match z with | ⟨(c, gp, rs), hI⟩ => C - c) (⟨(0, Gr.nil, rs0), Nat.zero_le _, hrs0⟩) (Cv.mem (.cons (t := 8) (Has.t' rfl ?_) (.cons (t := 4) (Has.t rfl) (.cons (t := 6) (Has.t rfl) (.cons (t := 7) (Has.t rfl) .nil)))) ?_) ?_
  · rfl
  · rfl
  rintro ⟨⟨c, gp, rs⟩, hI⟩ K5 hK5
  refine Tri.cv (Cv.wk (.cons (t := 8) (Has.t rfl) (.cons (t := 4) (Has.t rfl) (.cons (t := 6) (Has.t rfl) (.cons (t := 7) (Has.t rfl) .nil))))) ?_
  refine Tri.memEq (M' := wkMU q bw gp gt rs (fred (fp q) ⟨rowsU (fp q) R C D xs ys, [], 1 % fp q⟩ c).ps (fred (fp q) ⟨rowsU (fp q) R C D xs ys, [], 1 % fp q⟩ c).det) rfl ?_
  simp only [] at hI
  obtain ⟨hc, hrs⟩ := hI
  have hok := fred_ok (p := fp q) (W := C + D) (rowsU_len (fp q) R C D xs ys) (fun r hr => rowsU_row hr) (1 % fp q) c
  have hrl : rs.length = R := by rw [← List.length_map (f := Prod.snd), hrs]; exact hok.1
  have hpl := hok.2.2
  have hpv := pv_len (fred (fp q) ⟨rowsU (fp q) R C D xs ys, [], 1 % fp q⟩ c).ps
  have hrow : ∀ r ∈ rs, r.2.length = C + D := fun r hr => hok.2.1 r.2 (by rw [← hrs]; exact List.mem_map.2 ⟨r, hr, rfl⟩)
  refine Tri.seq fun K6 hK6 => ?_
  refine Tri.seq fun K7 hK7 => ?_
  refine Tri.dr ?_
  refine DrG.st (i := 0) [] rfl rfl rfl (by kernel_rfl) (OKG.o rfl (OK1.mv (Has.t rfl))) ?_
  refine DrG.st (i := 1) [] rfl rfl rfl (by kernel_rfl) (OKG.o rfl (OK1.fieldAddrP (Has.t rfl) fld24_1 ty3 (Ss' := [_, _]) rfl)) ?_
  refine DrG.st (i := 2) [14] rfl rfl rfl (by kernel_rfl) (OKG.o rfl (OK1.loadP1 (Has.t rfl) ty3)) ?_
  refine DrG.st (i := 3) [13, 15] rfl rfl rfl (by kernel_rfl) (OKG.o rfl (OK1.ltI (Has.t rfl) (Has.t rfl))) ?_
  refine DrG.st (i := 4) [16] rfl rfl rfl (by kernel_rfl) (OKG.o rfl (OK1.mv (Has.t rfl))) ?_
  refine DrG.st (i := 5) [17] rfl rfl rfl (by kernel_rfl) (OKG.T rfl rfl rfl (fun hg => have hg' := BP.t hg; OK1.mv (Has.t rfl))) ?_
  refine DrG.st (i := 6) [17, 18] rfl rfl rfl (by kernel_rfl) (OKG.T rfl rfl rfl (fun hg => have hg' := BP.t hg; OK1.nilc (Has.g rfl hg))) ?_
  refine DrG.st (i := 7) [17, 19] rfl rfl rfl (by kernel_rfl) (OKG.T rfl rfl rfl (fun hg => have hg' := BP.t hg; OK1.fieldAddr (Has.g rfl hg) fld94_2 ty32)) ?_
  refine DrG.st (i := 8) [17, 20] rfl rfl rfl (by kernel_rfl) (OKG.T rfl rfl rfl (fun hg => have hg' := BP.t hg; OK1.load1 (Has.g rfl hg) (i := 0) rfl ty32 rfl)) ?_
  refine DrG.st (i := 9) [17, 21] rfl rfl rfl (by kernel_rfl) (OKG.T rfl rfl rfl (fun hg => have hg' := BP.t hg; OK1.len sl32 (Has.g rfl hg))) ?_
  refine DrG.st (i := 10) [17] rfl rfl rfl (by kernel_rfl) (OKG.T rfl rfl rfl (fun hg => have hg' := BP.t hg; OK1.mv (Has.t rfl))) ?_
  refine DrG.st (i := 11) [17, 23] rfl rfl rfl (by kernel_rfl) (OKG.T rfl rfl rfl (fun hg => have hg' := BP.t hg; OK1.nilc (Has.g rfl hg))) ?_
  refine DrG.st (i := 12) [17, 24] rfl rfl rfl (by kernel_rfl) (OKG.T rfl rfl rfl (fun hg => have hg' := BP.t hg; OK1.fieldAddr (Has.g rfl hg) fld94_1 ty92)) ?_
  refine DrG.st (i := 13) [17, 25] rfl rfl rfl (by kernel_rfl) (OKG.T rfl rfl rfl (fun hg => have hg' := BP.t hg; OK1.load1 (Has.g rfl hg) (i := 0) rfl ty92 rfl)) ?_
  refine DrG.st (i := 14) [17, 26] rfl rfl rfl (by kernel_rfl) (OKG.T rfl rfl rfl (fun hg => have hg' := BP.t hg; OK1.len sl92 (Has.g rfl hg))) ?_
  refine DrG.fin (n := 15) mixed (by kernel_rfl) (by kernel_rfl) (by kernel_rfl) ?_
  refine Ops.cv (Cv.wk (.cons (t := 4) (Has.t rfl) (.cons (t := 6) (Has.t rfl) (.cons (t := 7) (Has.t rfl) (.cons (t := 8) (Has.t rfl) (.cons (t := 13) (Has.t rfl) (.cons (t := 14) (Has.t rfl) (.cons (t := 15) (Has.t rfl) (.cons (t := 16) (Has.t rfl) (.cons (t := 17) (Has.t rfl) (.cons (t := 18) (Has.t rfl) (.cons (t := 19) (Has.t rfl) (.cons (t := 20) (Has.t rfl) (.cons (t := 21) (Has.t rfl) (.cons (t := 22) (Has.t rfl) (.cons (t := 23) (Has.t rfl) (.cons (t := 24) (Has.t rfl) (.cons (t := 25) (Has.t rfl) (.cons (t := 26) (Has.t rfl) (.cons (t := 27) (Has.t rfl) .nil)))))))))))))))))))) ?_
  refine stT rfl rfl (fun hg => have hg' := BP.t hg; OK1.ltI (Has.g rfl hg) (Has.g rfl hg)) rfl ?_
  refine st (OK1.pickAnd (Has.t rfl) (fun h => Has.g rfl h)) rfl ?_
  refine nl ?_
  refine At.thn (hK7 _ _ ?_); clear hK7
  refine Tri.cond (Has.t rfl) (fun hc1 => ?_) (fun hc1 => ?_)
  · have hc1 := BP.t hc1
    refine Tri.skip ?_
    refine At.thn (hK6 _ _ ?_); clear hK6
    refine Tri.seq fun K8 hK8 => ?_
    refine Tri.block ?_
    refine Tri.region ?_
    refine st (OK1.mv (Has.t rfl)) rfl ?_
    refine st (OK1.mv (Has.t rfl)) rfl ?_
    refine Ops.callX (fmat_column hq (col := c) (W := C + D) hp2 hrow (by omega) (by omega) (by omega) (by omega)) (perm0 _) (.cons (Has.t rfl) (.cons (Has.t rfl) .nil)) rfl ?_
    rintro _ _ ⟨gp2, rs2, rfl, rfl, hrs2⟩
    refine Ops.memEq (M' := wkMU q bw gp2 gt rs2 (fcol (fp q) ⟨rs.map Prod.snd, (fred (fp q) ⟨rowsU (fp q) R C D xs ys, [], 1 % fp q⟩ c).ps, (fred (fp q) ⟨rowsU (fp q) R C D xs ys, [], 1 % fp q⟩ c).det⟩ c).ps (fcol (fp q) ⟨rs.map Prod.snd, (fred (fp q) ⟨rowsU (fp q) R C D xs ys, [], 1 % fp q⟩ c).ps, (fred (fp q) ⟨rowsU (fp q) R C D xs ys, [], 1 % fp q⟩ c).det⟩ c).det) (List.append_nil _) ?_
    refine nl ?_
    refine At.bln ?_
    refine At.thn (hK8 _ _ ?_); clear hK8
    refine Tri.region ?_
    refine st (OK1.mv (Has.t rfl)) rfl ?_
    refine st (OK1.addI (Has.t rfl) (Has.cI 1 rfl) (by first | omega | assumption) (by first | omega | assumption)) rfl ?_
    refine st (OK1.as (Has.t rfl)) rfl ?_
    refine nl ?_
    refine At.thn ?_
    rw [hrs] at hrs2
    refine hK5 (⟨(c + 1, gp2, rs2), by show c + 1 ≤ C; omega, hrs2⟩) _ _ ?_ (Cv.mem (.cons (t := 8) (Has.t' rfl ?_) (.cons (t := 4) (Has.t rfl) (.cons (t := 6) (Has.t rfl) (.cons (t := 7) (Has.t rfl) .nil)))) ?_)
    · show C - (c + 1) < C - c; omega
    · exact isI_eq (by omega)
    · rw [hrs]; rfl
  · have hc1 := BP.f hc1
    refine Tri.exit ?_
    refine At.the ?_
    refine At.the ?_
    refine At.blh ?_
    refine At.thn (hK3 _ _ ?_); clear hK3
    refine Tri.cv (Cv.wk (.cons (t := 6) (Has.t rfl) (.cons (t := 7) (Has.t rfl) .nil))) ?_
    refine Tri.seq fun K9 hK9 => ?_
    refine Tri.cv (Cv.freezeWkU (t := 7) rfl rfl) ?_
    refine Tri.region ?_
    refine st (OK1.mv (Has.t rfl)) rfl ?_
    refine st (OK1.as (Has.t rfl)) rfl ?_
    refine nl ?_
    refine At.thn (hK9 _ _ ?_); clear hK9
    refine Tri.ret ?_
    refine rt1 (.inl rfl) Try.results67 rfl (.tmp (Has.t' rfl ?_) .nil)
    all_goals (rw [hrs, fred_stop (p := fp q) hc (by rw [← hrs, List.length_map]; omega)])
end Go.Proofs.Ytfoclelageohiaa
/- Contracts: reduced forms, determinants over a field. -/
namespace Go.Proofs.Ytfoclelageohiaa
open Go.En Go.RowKit
set_option linter.unusedVariables false
set_option maxRecDepth 10000
open Go.Gf
open Go.Mz
open Go.Mu
open Go.Fe
set_option maxHeartbeats 4000000 in
theorem fmat_one {i k : Nat} : Ctr Try.prog 70 [isI (i : Int), isI (k : Int)] (isU (if i = k then 1 else 0)) := by
  refine Ctr.intro Try.func70 rfl (by kernel_rfl) Try.ntmps70 rfl fun w0 F0 => ?_
  refine Tri.cv (Cv.wk (.cons (t := 0) (Has.t rfl) (.cons (t := 1) (Has.t rfl) .nil))) ?_
  refine Tri.fact (Has.rngI (Has.t (t := 0) rfl)) fun lt0 => ?_
  refine Tri.fact (Has.rngI (Has.t (t := 1) rfl)) fun lt1 => ?_
  refine Tri.seq fun K1 hK1 => ?_
  refine Tri.region ?_
  refine st (OK1.as (Has.cU 0 rfl)) rfl ?_
  refine nl ?_
  refine At.thn (hK1 _ _ ?_); clear hK1
  refine Tri.seq fun K2 hK2 => ?_
  refine Tri.seq fun K3 hK3 => ?_
  refine Tri.region ?_
  refine st (OK1.mv (Has.t rfl)) rfl ?_
  refine st (OK1.mv (Has.t rfl)) rfl ?_
  refine st (OK1.eqI (Has.t rfl) (Has.t rfl)) rfl ?_
  refine nl ?_
  refine At.thn (hK3 _ _ ?_); clear hK3
  refine Tri.cond (Has.t rfl) (fun hc1 => ?_) (fun hc1 => ?_)
  · have hc1 := BP.t hc1
    refine Tri.seq fun K4 hK4 => ?_
    refine Tri.region ?_
    refine st (OK1.as (Has.cU 1 rfl)) rfl ?_
    refine nl ?_
    refine At.thn (hK4 _ _ ?_); clear hK4
    refine Tri.cv (Cv.wk (.cons (t := 4) (Has.t rfl) .nil)) ?_
    refine Tri.ret ?_
    refine At.thr ?_
    refine rt1 (.inl rfl) Try.results70 rfl (.tmp (Has.t' rfl ?_) .nil)
    all_goals (exact isU_eq (by rw [if_pos (by omega)]))
  · have hc1 := BP.f hc1
    refine Tri.skip ?_
    refine At.thn (hK2 _ _ ?_); clear hK2
    refine Tri.cv (Cv.wk (.cons (t := 4) (Has.t rfl) .nil)) ?_
    refine Tri.seq fun K5 hK5 => ?_
    refine Tri.region ?_
    refine st (OK1.as (Has.cU 0 rfl)) rfl ?_
    refine nl ?_
    refine At.thn (hK5 _ _ ?_); clear hK5
    refine Tri.ret ?_
    refine rt1 (.inl rfl) Try.results70 rfl (.tmp (Has.t' rfl ?_) .nil)
    all_goals (exact isU_eq (by rw [if_neg (by omega)]))
set_option maxHeartbeats 4000000 in
theorem fmat_Reduce_1 {q R W i k : Nat} {s : FS} (hs : s.rows.length = R) (hw : ∀ r ∈ s.rows, r.length = W) (hi : i < R) (hk : k < W) : Ctr Try.prog 69 [isI (i : Int), isI (k : Int), PtrL [wkFU q s]] (isU (ent s i k)) := by
  refine Ctr.intro Try.func69 rfl (by kernel_rfl) Try.ntmps69 rfl fun w0 F0 => ?_
  refine Tri.cv (Cv.wk (.cons (t := 0) (Has.t rfl) (.cons (t := 1) (Has.t rfl) (.cons (t := 2) (Has.t rfl) .nil)))) ?_
  refine Tri.fact (Has.rngI (Has.t (t := 0) rfl)) fun lt0 => ?_
  refine Tri.fact (Has.rngI (Has.t (t := 1) rfl)) fun lt1 => ?_
  have hrl : (s.rows.getD i []).length = W := hw _ (by rw [List.getD, List.getElem?_eq_getElem (by omega)]; exact List.getElem_mem _)
  refine Tri.seq fun K1 hK1 => ?_
  refine Tri.region ?_
  refine st (OK1.as (Has.cU 0 rfl)) rfl ?_
  refine nl ?_
  refine At.thn (hK1 _ _ ?_); clear hK1
  refine Tri.seq fun K2 hK2 => ?_
  refine Tri.region ?_
  refine st (OK1.loadP1 (Has.t rfl) ty89) rfl ?_
  refine st (OK1.nilcP (Has.t rfl)) rfl ?_
  refine st (OK1.fieldAddrP (Has.t rfl) fld94_1 ty92 (Ss' := [_, _, _]) rfl) rfl ?_
  refine st (OK1.loadP1 (Has.t rfl) ty92) rfl ?_
  refine st (OK1.mv (Has.t rfl)) rfl ?_
  refine st (OK1.ixP sl92 ty22 (Has.t rfl) (Has.t rfl) ⟨by omega, by omega⟩ (getD_some (d := []) (by first | omega | (simp only [Int.toNat_natCast, List.length_set]; omega)))) rfl ?_
  refine st (OK1.eq (OK1.loadP1 (Has.t rfl) ty22) ((show isWs _ = isWs (s.rows.getD i []) from rfl))) rfl ?_
  refine st (OK1.mv (Has.t rfl)) rfl ?_
  refine st (OK1.ixP sl22 ty27 (Has.t rfl) (Has.t rfl) ⟨by omega, by omega⟩ (getD_some (d := 0) (by first | omega | (simp only [Int.toNat_natCast, List.length_set]; omega)))) rfl ?_
  refine st (OK1.loadP1 (Has.t rfl) ty27) rfl ?_
  refine st (OK1.as (Has.t rfl)) rfl ?_
  refine nl ?_
  refine At.thn (hK2 _ _ ?_); clear hK2
  refine Tri.cv (Cv.wk (.cons (t := 5) (Has.t rfl) .nil)) ?_
  refine Tri.ret ?_
  refine rt1 (.inl rfl) Try.results69 rfl (.tmp (Has.t' rfl ?_) .nil)
  all_goals (rfl)
set_option maxHeartbeats 4000000 in
theorem fmat_Reduce {q R C : Nat} {xs : List Nat} (hq : q < 4294967296) (hp2 : 2 ≤ fp q) (hR : R ≤ 64) (hC : C ≤ 64) (hxl : xs.length = R * C) : Ctr Try.prog 17 [Flat [isU q], isMW R C xs] (isTup [isMW R C (tabU (R * C) C fun i k => ent (redS (fp q) R C 0 xs []) i k % fp q), SlM isI (pv (redS (fp q) R C 0 xs []).ps), isI 0]) := by
  refine Ctr.intro Try.func17 rfl (by kernel_rfl) Try.ntmps17 rfl fun w0 F0 => ?_
  refine Tri.cv (Cv.wk (.cons (t := 0) (Has.t rfl) (.cons (t := 1) (Has.t rfl) .nil))) ?_
  have hRC := side_le hR hC
  have hok := fred_ok (p := fp q) (W := C + 0) (rowsU_len (fp q) R C 0 xs []) (fun r hr => rowsU_row hr) (1 % fp q) C
  obtain ⟨s, hs⟩ : ∃ s, s = redS (fp q) R C 0 xs [] := ⟨_, rfl⟩
  have hok1 : s.rows.length = R := by rw [hs]; exact hok.1
  have hok2 : ∀ r ∈ s.rows, r.length = C + 0 := by rw [hs]; exact hok.2.1
  have hok3 : s.ps.length ≤ R := by rw [hs]; exact hok.2.2
  rw [← hs]
  have hfo := formB_true hR hC hxl
  refine Tri.seq fun K1 hK1 => ?_
  refine Tri.region ?_
  refine Ops.box (Has.t rfl) rfl fun b1 => ?_
  refine Ops.box (Has.t rfl) rfl fun b2 => ?_
  refine Ops.alloc [isI 0, isI 0, SlM isU []] zero24 (fun _ _ => ⟨⟨rfl, by decide, by decide⟩, ⟨rfl, by decide, by decide⟩, nilM _ _, trivial⟩) rfl fun b3 => ?_
  refine st (OK1.as (Has.cW (f := isI))) rfl ?_
  refine st (OK1.as (Has.cI 0 rfl)) rfl ?_
  refine nl ?_
  refine At.thn (hK1 _ _ ?_); clear hK1
  refine Tri.seq fun K2 hK2 => ?_
  refine Tri.seq fun K3 hK3 => ?_
  refine Tri.region ?_
  refine st (OK1.load (Has.t rfl) (i := 1) rfl ty24 rfl (Ss' := [_, _, _]) rfl) rfl ?_
  refine st (OK1.eq (OK1.call (fmat_Formed) (.cons (Has.t rfl) .nil)) ((show isB _ = isB true from isB_eq hfo))) rfl ?_
  refine st (OK1.not (Has.t rfl)) rfl ?_
  refine nl ?_
  refine At.thn (hK3 _ _ ?_); clear hK3
  refine Tri.cond (Has.t rfl) (fun hc1 => ?_) (fun hc1 => ?_)
  · have hc1 := BP.t hc1
    simp at hc1
  · have hc1 := BP.f hc1
    refine Tri.skip ?_
    refine At.thn (hK2 _ _ ?_); clear hK2
    refine Tri.cv (Cv.wk (.cons (t := 2) (Has.t rfl) (.cons (t := 3) (Has.t rfl) (.cons (t := 4) (Has.t rfl) (.cons (t := 5) (Has.t rfl) (.cons (t := 6) (Has.t rfl) .nil)))))) ?_
    refine Tri.seq fun K4 hK4 => ?_
    refine Tri.region ?_
    refine st (OK1.load (Has.t rfl) (i := 2) rfl ty29 rfl (Ss' := [_]) rfl) rfl ?_
    refine st (OK1.load (Has.t rfl) (i := 1) rfl ty24 rfl (Ss' := [_, _, _]) rfl) rfl ?_
    refine st (OK1.fieldAddr (Has.t rfl) fld24_0 ty3) rfl ?_
    refine st (OK1.load1 (Has.t rfl) (i := 1) rfl ty3 rfl) rfl ?_
    refine st (OK1.build [isI 0, isI 0, SlM isU []] pl24 zero24 (fun _ _ => ⟨⟨rfl, by decide, by decide⟩, ⟨rfl, by decide, by decide⟩, nilM _ _, trivial⟩) (.cons (Has.t rfl) rfl rfl rfl .nil) (Z'' := [_, _, _]) rfl) rfl ?_
    refine st (OK1.eq (OK1.call (fmat_reduced (D := 0) (ys := []) hq hp2 hR hC (Nat.zero_le _) hxl (Nat.mul_zero _).symm) (.cons (Has.t rfl) (.cons (Has.t rfl) (.cons (Has.t rfl) .nil)))) ((show wkFU q _ = wkFU q s from by rw [hs]; rfl))) rfl ?_
    refine Ops.alloc [nilP] zero89 (fun _ _ => ⟨rfl, trivial⟩) rfl fun b4 => ?_
    refine Ops.store (Has.t rfl) (Has.t rfl) (i := 0) rfl ty89 rfl rfl (Ss' := [_]) rfl (M' := [(some _, cellM [_]), _, _, _]) rfl ?_
    refine nl ?_
    refine At.thn (hK4 _ _ ?_); clear hK4
    refine Tri.cv (Cv.wk (.cons (t := 2) (Has.t rfl) (.cons (t := 3) (Has.t rfl) (.cons (t := 4) (Has.t rfl) (.cons (t := 5) (Has.t rfl) (.cons (t := 6) (Has.t rfl) (.cons (t := 7) (Has.t rfl) .nil))))))) ?_
    refine Tri.seq fun K5 hK5 => ?_
    refine Tri.cv (Cv.freezeBox (t := 7) (i := 0) rfl rfl rfl) ?_
    refine Tri.memEq (M' := [_, _, _]) rfl ?_
    refine Tri.cv (Cv.wk (.cons (t := 2) (Has.t rfl) (.cons (t := 3) (Has.t rfl) (.cons (t := 4) (Has.t rfl) (.cons (t := 5) (Has.t rfl) (.cons (t := 6) (Has.t rfl) (.cons (t := 7) (Has.t rfl) .nil))))))) ?_
    refine Tri.drh [false, true, true] (Ms := [_, _]) rfl ?_
    refine DrH.st (i := 0) [] rfl rfl rfl (by kernel_rfl) (OKG.o rfl (OK1.load (Has.t rfl) (i := 1) rfl ty29 rfl (Ss' := [_]) rfl)) ?_
    refine DrH.st (i := 1) [] rfl rfl rfl (by kernel_rfl) (OKG.o rfl (OK1.fieldAddr (Has.t rfl) fld24_0 ty3)) ?_
    refine DrH.st (i := 2) [19] rfl rfl rfl (by kernel_rfl) (OKG.o rfl (OK1.load1 (Has.t rfl) (i := 0) rfl ty3 rfl)) ?_
    refine DrH.st (i := 3) [] rfl rfl rfl (by kernel_rfl) (OKG.o rfl (OK1.fieldAddr (Has.t rfl) fld24_1 ty3)) ?_
    refine DrH.st (i := 4) [21] rfl rfl rfl (by kernel_rfl) (OKG.o rfl (OK1.load1 (Has.t rfl) (i := 0) rfl ty3 rfl)) ?_
    refine DrH.st (i := 5) [] rfl rfl rfl (by kernel_rfl) (OKG.o rfl (OK1.makeFn (ι := PI R C) (As := fun p => [isI (p.1.1 : Int), isI (p.1.2 : Int)]) (R := fun p => isU (ent s p.1.1 p.1.2)) (fun p => fmat_Reduce_1 hok1 hok2 p.2.1 p.2.2) .nil (.cons (Has.t rfl) .nil))) ?_
    refine DrH.st (i := 6) [18, 20, 22, 23] rfl rfl rfl (by kernel_rfl) (OKG.o rfl (OK1.call (fmat_made (f := fun i k => ent s i k) hR hC) (.cons (Has.t rfl) (.cons (Has.t rfl) (.cons (Has.t rfl) (.cons (Has.t rfl) .nil)))))) ?_
    refine DrH.st (i := 7) [] rfl rfl rfl (by kernel_rfl) (OKG.o rfl (OK1.loadP1 (Has.t rfl) ty89)) ?_
    refine DrH.st (i := 8) [25] rfl rfl rfl (by kernel_rfl) (OKG.o rfl (OK1.nilcP (Has.t rfl))) ?_
    refine DrH.st (i := 9) [26] rfl rfl rfl (by kernel_rfl) (OKG.o rfl (OK1.fieldAddrP (Has.t rfl) fld94_2 ty32 (Ss' := [_, _]) rfl)) ?_
    refine DrH.st (i := 10) [27] rfl rfl rfl (by kernel_rfl) (OKG.o rfl (OK1.loadP1 (Has.t rfl) ty32)) ?_
    refine DrH.mid (.cons _ (.cons_cons _ (.cons_cons _ .slnil))) ?_
    refine DrM.st [24] rfl rfl (by kernel_rfl) (by kernel_rfl) (StS.store (Has.t rfl) (Has.t rfl) (i := 0) rfl ty24 rfl rfl (Ss' := [_, _, _]) rfl (M' := [(some _, cellM [_, _, _]), _, _]) rfl) (.cons _ (.cons_cons _ (.cons_cons _ .slnil))) ?_
    refine DrM.fin (n := 12) mixed rfl (by kernel_rfl) (by kernel_rfl) (by kernel_rfl) ?_
    refine Ops.cv (Cv.wk (.cons (t := 4) (Has.t rfl) (.cons (t := 5) (Has.t rfl) (.cons (t := 6) (Has.t rfl) (.cons (t := 28) (Has.t rfl) .nil))))) ?_
    refine st (OK1.as (Has.t rfl)) rfl ?_
    refine st (OK1.as (Has.cI 0 rfl)) rfl ?_
    refine nl ?_
    refine At.thn (hK5 _ _ ?_); clear hK5
    refine Tri.ret ?_
    refine rtN (.inl rfl) Try.results17 rfl rfl (.cell rfl (i := 0) rfl ty24 rfl ?_ (.tmp (Has.t' rfl ?_) (.tmp (Has.t' rfl ?_) .nil)))
    · rfl
    · rfl
    · rfl
set_option maxHeartbeats 4000000 in
theorem fmat_Det {q R : Nat} {xs : List Nat} (hq : q < 4294967296) (hp2 : 2 ≤ fp q) (hR : R ≤ 64) (hxl : xs.length = R * R) : Ctr Try.prog 62 [Flat [isU q], isMW R R xs] (isTup [isU (if (redS (fp q) R R 0 xs []).ps.length < R then 0 else (redS (fp q) R R 0 xs []).det), isI 0]) := by
  refine Ctr.intro Try.func62 rfl (by kernel_rfl) Try.ntmps62 rfl fun w0 F0 => ?_
  refine Tri.cv (Cv.wk (.cons (t := 0) (Has.t rfl) (.cons (t := 1) (Has.t rfl) .nil))) ?_
  have hRC := side_le hR hR
  have hok := fred_ok (p := fp q) (W := R + 0) (rowsU_len (fp q) R R 0 xs []) (fun r hr => rowsU_row hr) (1 % fp q) R
  obtain ⟨s, hs⟩ : ∃ s, s = redS (fp q) R R 0 xs [] := ⟨_, rfl⟩
  have hok1 : s.rows.length = R := by rw [hs]; exact hok.1
  have hok2 : ∀ r ∈ s.rows, r.length = R + 0 := by rw [hs]; exact hok.2.1
  have hok3 : s.ps.length ≤ R := by rw [hs]; exact hok.2.2
  rw [← hs]
  have hfo := formB_true hR hR hxl
  have hpv := pv_len s.ps
  refine Tri.seq fun K1 hK1 => ?_
  refine Tri.region ?_
  refine Ops.box (Has.t rfl) rfl fun b1 => ?_
  refine Ops.box (Has.t rfl) rfl fun b2 => ?_
  refine st (OK1.as (Has.cU 0 rfl)) rfl ?_
  refine st (OK1.as (Has.cI 0 rfl)) rfl ?_
  refine nl ?_
  refine At.thn (hK1 _ _ ?_); clear hK1
  refine Tri.seq fun K2 hK2 => ?_
  refine Tri.seq fun K3 hK3 => ?_
  refine Tri.region ?_
  refine st (OK1.load (Has.t rfl) (i := 0) rfl ty24 rfl (Ss' := [_, _, _]) rfl) rfl ?_
  refine st (OK1.eq (OK1.call (fmat_Formed) (.cons (Has.t rfl) .nil)) ((show isB _ = isB true from isB_eq hfo))) rfl ?_
  refine st (OK1.not (Has.t rfl)) rfl ?_
  refine st (OK1.mv (Has.t rfl)) rfl ?_
  refine stF rfl rfl (fun hg => have hg' := BP.t hg; OK1.fieldAddr (Has.t rfl) fld24_0 ty3) rfl ?_
  refine stF rfl rfl (fun hg => have hg' := BP.t hg; OK1.load1 (Has.g rfl hg) (i := 0) rfl ty3 rfl) rfl ?_
  refine stF rfl rfl (fun hg => have hg' := BP.t hg; OK1.fieldAddr (Has.t rfl) fld24_1 ty3) rfl ?_
  refine stF rfl rfl (fun hg => have hg' := BP.t hg; OK1.load1 (Has.g rfl hg) (i := 0) rfl ty3 rfl) rfl ?_
  refine stF rfl rfl (fun hg => have hg' := BP.t hg; OK1.neI (Has.g rfl hg) (Has.g rfl hg)) rfl ?_
  refine st (OK1.pickOr (Has.t rfl) (fun h => Has.g rfl (ng h))) rfl ?_
  refine nl ?_
  refine At.thn (hK3 _ _ ?_); clear hK3
  refine Tri.cv (Cv.wk (.cons (t := 2) (Has.t rfl) (.cons (t := 3) (Has.t rfl) (.cons (t := 4) (Has.t rfl) (.cons (t := 5) (Has.t rfl) (.cons (t := 16) (Has.t rfl) .nil)))))) ?_
  refine Tri.cond (Has.t rfl) (fun hc1 => ?_) (fun hc1 => ?_)
  · have hc1 := BP.t hc1
    simp at hc1
  · have hc1 := BP.f hc1
    refine Tri.skip ?_
    refine At.thn (hK2 _ _ ?_); clear hK2
    refine Tri.seq fun K4 hK4 => ?_
    refine Tri.region ?_
    refine st (OK1.load (Has.t rfl) (i := 1) rfl ty29 rfl (Ss' := [_]) rfl) rfl ?_
    refine st (OK1.load (Has.t rfl) (i := 0) rfl ty24 rfl (Ss' := [_, _, _]) rfl) rfl ?_
    refine st (OK1.fieldAddr (Has.t rfl) fld24_0 ty3) rfl ?_
    refine st (OK1.load1 (Has.t rfl) (i := 0) rfl ty3 rfl) rfl ?_
    refine st (OK1.build [isI 0, isI 0, SlM isU []] pl24 zero24 (fun _ _ => ⟨⟨rfl, by decide, by decide⟩, ⟨rfl, by decide, by decide⟩, nilM _ _, trivial⟩) (.cons (Has.t rfl) rfl rfl rfl .nil) (Z'' := [_, _, _]) rfl) rfl ?_
    refine st (OK1.eq (OK1.call (fmat_reduced (D := 0) (ys := []) hq hp2 hR hR (Nat.zero_le _) hxl (Nat.mul_zero _).symm) (.cons (Has.t rfl) (.cons (Has.t rfl) (.cons (Has.t rfl) .nil)))) ((show wkFU q _ = wkFU q s from by rw [hs]; rfl))) rfl ?_
    refine st (OK1.as (Has.t rfl)) rfl ?_
    refine nl ?_
    refine At.thn (hK4 _ _ ?_); clear hK4
    refine Tri.cv (Cv.wk (.cons (t := 3) (Has.t rfl) (.cons (t := 4) (Has.t rfl) (.cons (t := 5) (Has.t rfl) (.cons (t := 6) (Has.t rfl) .nil))))) ?_
    refine Tri.seq fun K5 hK5 => ?_
    refine Tri.seq fun K6 hK6 => ?_
    refine Tri.dr ?_
    refine DrG.st (i := 0) [] rfl rfl rfl (by kernel_rfl) (OKG.o rfl (OK1.mv (Has.t rfl))) ?_
    refine DrG.st (i := 1) [23] rfl rfl rfl (by kernel_rfl) (OKG.o rfl (OK1.nilcP (Has.t rfl))) ?_
    refine DrG.st (i := 2) [24] rfl rfl rfl (by kernel_rfl) (OKG.o rfl (OK1.fieldAddrP (Has.t rfl) fld94_2 ty32 (Ss' := [_, _]) rfl)) ?_
    refine DrG.st (i := 3) [25] rfl rfl rfl (by kernel_rfl) (OKG.o rfl (OK1.loadP1 (Has.t rfl) ty32)) ?_
    refine DrG.st (i := 4) [26] rfl rfl rfl (by kernel_rfl) (OKG.o rfl (OK1.len sl32 (Has.t rfl))) ?_
    refine DrG.st (i := 5) [] rfl rfl rfl (by kernel_rfl) (OKG.o rfl (OK1.fieldAddr (Has.t rfl) fld24_0 ty3)) ?_
    refine DrG.st (i := 6) [28] rfl rfl rfl (by kernel_rfl) (OKG.o rfl (OK1.load1 (Has.t rfl) (i := 0) rfl ty3 rfl)) ?_
    refine DrG.fin (n := 7) mixed (by kernel_rfl) (by kernel_rfl) (by kernel_rfl) ?_
    refine Ops.cv (Cv.wk (.cons (t := 4) (Has.t rfl) (.cons (t := 5) (Has.t rfl) (.cons (t := 6) (Has.t rfl) (.cons (t := 27) (Has.t rfl) (.cons (t := 29) (Has.t rfl) .nil)))))) ?_
    refine st (OK1.ltI (Has.t rfl) (Has.t rfl)) rfl ?_
    refine nl ?_
    refine At.thn (hK6 _ _ ?_); clear hK6
    refine Tri.cond (Has.t rfl) (fun hc2 => ?_) (fun hc2 => ?_)
    · have hc2 := BP.t hc2
      refine Tri.seq fun K7 hK7 => ?_
      refine Tri.region ?_
      refine st (OK1.as (Has.cU 0 rfl)) rfl ?_
      refine st (OK1.as (Has.cI 0 rfl)) rfl ?_
      refine nl ?_
      refine At.thn (hK7 _ _ ?_); clear hK7
      refine Tri.ret ?_
      refine At.thr ?_
      refine rtN (.inl rfl) Try.results62 rfl rfl (.tmp (Has.t' rfl ?_) (.tmp (Has.t' rfl ?_) .nil))
      all_goals (first | exact isU_eq (by rw [if_pos (by omega)]) | rfl)
    · have hc2 := BP.f hc2
      refine Tri.skip ?_
      refine At.thn (hK5 _ _ ?_); clear hK5
      refine Tri.seq fun K8 hK8 => ?_
      refine Tri.region ?_
      refine st (OK1.mv (Has.t rfl)) rfl ?_
      refine st (OK1.nilcP (Has.t rfl)) rfl ?_
      refine st (OK1.fieldAddrP (Has.t rfl) fld94_3 ty27 (Ss' := [_]) rfl) rfl ?_
      refine st (OK1.loadP1 (Has.t rfl) ty27) rfl ?_
      refine st (OK1.as (Has.t rfl)) rfl ?_
      refine st (OK1.as (Has.cI 0 rfl)) rfl ?_
      refine nl ?_
      refine At.thn (hK8 _ _ ?_); clear hK8
      refine Tri.cv (Cv.wk (.cons (t := 4) (Has.t rfl) (.cons (t := 5) (Has.t rfl) .nil))) ?_
      refine Tri.ret ?_
      refine rtN (.inl rfl) Try.results62 rfl rfl (.tmp (Has.t' rfl ?_) (.tmp (Has.t' rfl ?_) .nil))
      all_goals (first | exact isU_eq (by rw [if_neg (by omega)]) | rfl)
end Go.Proofs.Ytfoclelageohiaa
/- Contracts: what the laws of layer 21 share. -/
namespace Go.Proofs.Ytfoclelageohiaa
open Go.En Go.RowKit
set_option linter.unusedVariables false
set_option maxRecDepth 10000
open Go.Gf
open Go.Mz
open Go.Mu
open Go.Fe
set_option maxHeartbeats 4000000 in
theorem law09_Of {n : Nat} : Ctr Try.prog 15 [isK .u8 (n : Int)] (Flat [isU (ptab (n % 12))]) := by
  refine Ctr.intro Try.func15 rfl (by kernel_rfl) Try.ntmps15 rfl fun w0 F0 => ?_
  refine Tri.cv (Cv.wk (.cons (t := 0) (Has.t rfl) .nil)) ?_
  refine Tri.seq fun K1 hK1 => ?_
  refine Tri.region ?_
  refine Ops.alloc [isU 0] zero29 (fun _ _ => ⟨⟨rfl, by decide⟩, trivial⟩) rfl fun b1 => ?_
  refine nl ?_
  refine At.thn (hK1 _ _ ?_); clear hK1
  refine Tri.seq fun K2 hK2 => ?_
  refine Tri.region ?_
  refine st (OK1.mv (Has.t rfl)) rfl ?_
  refine st (OK1.call ref08_P (.cons (Has.t rfl) .nil)) rfl ?_
  refine st (OK1.call (gfp_New_yes (ptab_pr _)) (.cons (Has.t rfl) .nil)) rfl ?_
  refine st (OK1.mv (Has.t rfl)) rfl ?_
  refine st (OK1.ext (Has.t rfl) rfl) rfl ?_
  refine st (OK1.ext (Has.t rfl) rfl) rfl ?_
  refine Ops.alloc [isU 0] zero29 (fun _ _ => ⟨⟨rfl, by decide⟩, trivial⟩) rfl fun b2 => ?_
  refine Ops.store (Has.t rfl) (Has.t rfl) (i := 0) rfl ty29 rfl rfl (Ss' := [_]) rfl (M' := [(some _, cellM [_]), _]) rfl ?_
  refine st (OK1.as (Has.t rfl)) rfl ?_
  refine nl ?_
  refine At.thn (hK2 _ _ ?_); clear hK2
  refine Tri.cv (Cv.wk (.cons (t := 2) (Has.t rfl) (.cons (t := 3) (Has.t rfl) .nil))) ?_
  refine Tri.seq fun K3 hK3 => ?_
  refine Tri.region ?_
  refine st (OK1.load (Has.t rfl) (i := 0) rfl ty29 rfl (Ss' := [_]) rfl) rfl ?_
  refine Ops.store (Has.t rfl) (Has.t rfl) (i := 1) rfl ty29 rfl rfl (Ss' := [_]) rfl (M' := [_, (some _, cellM [_])]) rfl ?_
  refine nl ?_
  refine At.thn (hK3 _ _ ?_); clear hK3
  refine Tri.ret ?_
  refine rt1 (.inl rfl) Try.results15 rfl (.cell rfl (i := 1) rfl ty29 rfl ?_ .nil)
  all_goals (rfl)
set_option maxHeartbeats 4000000 in
theorem law21_awake  : Ctr Try.prog 13 [] (isB true) := by
  refine Ctr.intro Try.func13 rfl (by kernel_rfl) Try.ntmps13 rfl fun w0 F0 => ?_
  refine Tri.cv (Cv.wk .nil) ?_
  refine Tri.seq fun K1 hK1 => ?_
  refine Tri.region ?_
  refine st (OK1.as (Has.cB false)) rfl ?_
  refine nl ?_
  refine At.thn (hK1 _ _ ?_); clear hK1
  refine Tri.seq fun K2 hK2 => ?_
  refine Tri.region ?_
  refine st (OK1.eq (OK1.call (law09_Of (n := 3)) (.cons (Has.cK .u8 3 rfl) .nil)) ((show Flat [isU _] = Flat [isU 7] from rfl))) rfl ?_
  refine Ops.alloc [isU 0] zero29 (fun _ _ => ⟨⟨rfl, by decide⟩, trivial⟩) rfl fun b1 => ?_
  refine Ops.store (Has.t rfl) (Has.t rfl) (i := 0) rfl ty29 rfl rfl (Ss' := [_]) rfl (M' := [(some _, cellM [_])]) rfl ?_
  refine nl ?_
  refine At.thn (hK2 _ _ ?_); clear hK2
  refine Tri.seq fun K3 hK3 => ?_
  refine Tri.region ?_
  refine st (OK1.load (Has.t rfl) (i := 0) rfl ty29 rfl (Ss' := [_]) rfl) rfl ?_
  refine st (OK1.buildS [isU 0, isU 0, isU 0, isU 0] sl22 ty27 zero27 (fun _ _ => ⟨⟨rfl, by decide⟩, ⟨rfl, by decide⟩, ⟨rfl, by decide⟩, ⟨rfl, by decide⟩, trivial⟩) rfl rfl (.cons (Has.cU 1 rfl) rfl rfl rfl (.cons (Has.cU 2 rfl) rfl rfl rfl (.cons (Has.cU 3 rfl) rfl rfl rfl (.cons (Has.cU 4 rfl) rfl rfl rfl .nil)))) rfl (S := SlM isU [1, 2, 3, 4]) rfl) rfl ?_
  refine st (OK1.build [isI 0, isI 0, SlM isU []] pl24 zero24 (fun _ _ => ⟨⟨rfl, by decide, by decide⟩, ⟨rfl, by decide, by decide⟩, nilM _ _, trivial⟩) (.cons (Has.cI 2 rfl) rfl rfl rfl (.cons (Has.cI 2 rfl) rfl rfl rfl (.cons (Has.t rfl) rfl rfl rfl .nil))) (Z'' := [_, _, _]) rfl) rfl ?_
  refine st (OK1.eq (OK1.call (fmat_Det (q := 7) (R := 2) (xs := [1, 2, 3, 4]) (by decide) (by decide) (by decide) rfl) (.cons (Has.t rfl) (.cons (Has.t rfl) .nil))) ((show isTup [isU _, isI 0] = isTup [isU 5, isI 0] from by rw [show (if (redS (fp 7) 2 2 0 [1, 2, 3, 4] []).ps.length < 2 then 0 else (redS (fp 7) 2 2 0 [1, 2, 3, 4] []).det) = 5 from by decide]))) rfl ?_
  refine st (OK1.mv (Has.t rfl)) rfl ?_
  refine st (OK1.ext (Has.t rfl) rfl) rfl ?_
  refine st (OK1.ext (Has.t rfl) rfl) rfl ?_
  refine st (OK1.as (Has.t rfl)) rfl ?_
  refine st (OK1.as (Has.t rfl)) rfl ?_
  refine nl ?_
  refine At.thn (hK3 _ _ ?_); clear hK3
  refine Tri.cv (Cv.wk (.cons (t := 0) (Has.t rfl) (.cons (t := 2) (Has.t rfl) (.cons (t := 3) (Has.t rfl) .nil)))) ?_
  refine Tri.seq fun K4 hK4 => ?_
  refine Tri.region ?_
  refine st (OK1.mv (Has.t rfl)) rfl ?_
  refine st (OK1.eqI (Has.t rfl) (Has.cI 0 rfl)) rfl ?_
  refine st (OK1.mv (Has.t rfl)) rfl ?_
  refine stT rfl rfl (fun hg => have hg' := BP.t hg; OK1.mv (Has.t rfl)) rfl ?_
  refine stT rfl rfl (fun hg => have hg' := BP.t hg; OK1.eqU (Has.g rfl hg) (Has.cU 5 rfl)) rfl ?_
  refine st (OK1.pickAnd (Has.t rfl) (fun h => Has.g rfl h)) rfl ?_
  refine st (OK1.as (Has.t rfl)) rfl ?_
  refine nl ?_
  refine At.thn (hK4 _ _ ?_); clear hK4
  refine Tri.cv (Cv.wk (.cons (t := 0) (Has.t rfl) .nil)) ?_
  refine Tri.ret ?_
  refine rt1 (.inl rfl) Try.results13 rfl (.tmp (Has.t' rfl ?_) .nil)
  all_goals (rfl)
end Go.Proofs.Ytfoclelageohiaa
/- Contracts: equations, kernels over a field. -/
namespace Go.Proofs.Ytfoclelageohiaa
open Go.En Go.RowKit
set_option linter.unusedVariables false
set_option maxRecDepth 10000
open Go.Gf
open Go.Mz
open Go.Mu
open Go.Fe
theorem ixf_lt {α : Type} {q : α → Bool} {xs : List α} (h : 0 ≤ ixf q xs) : ixn q xs < xs.length := Classical.byContradiction fun h1 => by
  unfold ixf at h
  rw [if_neg h1] at h; omega
theorem ixf_of_lt {α : Type} {q : α → Bool} {xs : List α} (h : ixn q xs < xs.length) : 0 ≤ ixf q xs := by
  unfold ixf
  rw [if_pos h]; omega
theorem con_idx (ps : List Nat) (k : Nat) : decide (0 ≤ ixf (fun x => decide ((k : Int) = x)) (pv ps)) = decide (idxP ps k < ps.length) := by
  refine decide_eq_decide.2 ⟨fun h => ?_, fun h => ?_⟩
  · have := ixf_lt h; rw [pv_len] at this; exact this
  · exact ixf_of_lt (by rw [pv_len]; exact h)
theorem ker_app {g : Gr Int} {l l' : List Nat} {k n : Nat} {b : Nat} {r : Mem} (h : l' = l ++ [k]) (hn : n = (pv l).length + 1) : (grM isI g (pv l ++ [(k : Int)]) :: (some b, cellM [isGr g n]) :: r : Mem) = grM isI g (pv l') :: (some b, cellM [isGr g (pv l').length]) :: r := by
  subst h; subst hn
  rw [← pv_snoc, List.length_append]; rfl
theorem ker_same {g : Gr Int} {l l' : List Nat} {b : Nat} {r : Mem} (h : l' = l) : (grM isI g (pv l) :: (some b, cellM [isGr g (pv l).length]) :: r : Mem) = grM isI g (pv l') :: (some b, cellM [isGr g (pv l').length]) :: r := by subst h; rfl
set_option maxHeartbeats 4000000 in
theorem sl_IndexI {xs : List Int} {v : Int} : Ctr Try.prog 75 [SlM isI xs, isI v] (isI (ixf (fun x => decide (v = x)) xs)) := by
  refine Ctr.intro Try.func75 rfl (by kernel_rfl) Try.ntmps75 rfl fun w0 F0 => ?_
  refine Tri.cv (Cv.wk (.cons (t := 0) (Has.t rfl) (.cons (t := 1) (Has.t rfl) .nil))) ?_
  refine Tri.fact (Has.lenLt (Has.t (t := 0) rfl)) fun lt0 => ?_
  refine Tri.fact (Has.rngI (Has.t (t := 1) rfl)) fun lt1 => ?_
  refine Tri.seq fun K1 hK1 => ?_
  refine Tri.region ?_
  refine st (OK1.as (Has.cI 0 rfl)) rfl ?_
  refine nl ?_
  refine At.thn (hK1 _ _ ?_); clear hK1
  refine Tri.seq fun K2 hK2 => ?_
  refine Tri.seq fun K3 hK3 => ?_
  refine Tri.region ?_
  refine st (OK1.mv (Has.t rfl)) rfl ?_
  refine st (OK1.len sl32 (Has.t rfl)) rfl ?_
  refine st (OK1.mv (Has.cI 0 rfl)) rfl ?_
  refine nl ?_
  refine At.thn (hK3 _ _ ?_); clear hK3
  refine Tri.block ?_
  refine Tri.loopF [0, 1, 7] (fun (z : { i : Nat // i ≤ xs.length ∧ ∀ j, j < i → decide (v = xs.getD j 0) = false }) => match z with | ⟨i, hI⟩ => [(8, isI (i : Int))]) (fun M => fun (z : { i : Nat // i ≤ xs.length ∧ ∀ j, j < i → decide (v = xs.getD j 0) = false }) => match z with | ⟨i, hI⟩ => M) (fun (z : { i : Nat // i ≤ xs.length ∧ ∀ j, j < i → decide (v = xs.getD j 0) = false }) => match z with | ⟨i, hI⟩ => xs.length - i) (⟨0, Nat.zero_le _, fun j hj => absurd hj (Nat.not_lt_zero _)⟩) (Cv.mem (.cons (t := 8) (Has.t' rfl ?_) (.cons (t := 0) (Has.t rfl) (.cons (t := 1) (Has.t rfl) (.cons (t := 7) (Has.t rfl) .nil)))) ?_) ?_
  · rfl
  · rfl
  rintro ⟨i, hi, hq⟩ K4 hK4
  refine Tri.cv (Cv.wk (.cons (t := 8) (Has.t rfl) (.cons (t := 0) (Has.t rfl) (.cons (t := 1) (Has.t rfl) (.cons (t := 7) (Has.t rfl) .nil))))) ?_
  refine Tri.seq fun K5 hK5 => ?_
  refine Tri.region ?_
  refine st (OK1.ltI (Has.t rfl) (Has.t rfl)) rfl ?_
  refine nl ?_
  refine At.thn (hK5 _ _ ?_); clear hK5
  refine Tri.seq fun K6 hK6 => ?_
  refine Tri.cond (Has.t rfl) (fun hc1 => ?_) (fun hc1 => ?_)
  · have hc1 := BP.t hc1
    refine Tri.skip ?_
    refine At.thn (hK6 _ _ ?_); clear hK6
    refine Tri.seq fun K7 hK7 => ?_
    refine Tri.block ?_
    refine Tri.seq fun K8 hK8 => ?_
    refine Tri.region ?_
    refine st (OK1.mv (Has.t rfl)) rfl ?_
    refine st (OK1.as (Has.t rfl)) rfl ?_
    refine nl ?_
    refine At.thn (hK8 _ _ ?_); clear hK8
    refine Tri.seq fun K9 hK9 => ?_
    refine Tri.region ?_
    refine st (OK1.mv (Has.t rfl)) rfl ?_
    refine st (OK1.mv (Has.t rfl)) rfl ?_
    refine st (OK1.mv (Has.t rfl)) rfl ?_
    refine st (OK1.ixP sl32 ty3 (Has.t rfl) (Has.t rfl) ⟨by omega, by omega⟩ (getD_some (d := 0) (by first | omega | (simp only [Int.toNat_natCast, List.length_set]; omega)))) rfl ?_
    refine st (OK1.loadP1 (Has.t rfl) ty3) rfl ?_
    refine st (OK1.eqI (Has.t rfl) (Has.t rfl)) rfl ?_
    refine nl ?_
    refine At.thn (hK9 _ _ ?_); clear hK9
    refine Tri.cond (Has.t rfl) (fun hc2 => ?_) (fun hc2 => ?_)
    · have hc2 := BP.t hc2
      have HQ := hc2
      refine Tri.seq fun K10 hK10 => ?_
      refine Tri.region ?_
      refine st (OK1.mv (Has.t rfl)) rfl ?_
      refine st (OK1.as (Has.t rfl)) rfl ?_
      refine nl ?_
      refine At.thn (hK10 _ _ ?_); clear hK10
      refine Tri.ret ?_
      refine At.blr ?_
      refine At.thr ?_
      refine At.thr ?_
      refine At.blr ?_
      refine At.thr ?_
      refine rt1 (.inl rfl) Try.results75 rfl (.tmp (Has.t' rfl ?_) .nil)
      all_goals (exact isI_eq (ixf_at (q := fun x => decide (v = x)) (d := 0) (by omega) hq (by simpa using HQ)))
    · have hc2 := BP.f hc2
      have HQ := hc2
      refine Tri.skip ?_
      refine At.bln ?_
      refine At.thn (hK7 _ _ ?_); clear hK7
      refine Tri.region ?_
      refine st (OK1.addI (Has.t rfl) (Has.cI 1 rfl) (by first | omega | assumption) (by first | omega | assumption)) rfl ?_
      refine st (OK1.mv (Has.t rfl)) rfl ?_
      refine nl ?_
      refine At.thn ?_
      refine hK4 (⟨i + 1, by omega, fun j hj => by rcases Nat.lt_or_ge j i with h | h; exact hq j h; obtain rfl : j = i := (by omega); simpa using HQ⟩) _ _ ?_ (Cv.mem (.cons (t := 8) (Has.t' rfl ?_) (.cons (t := 0) (Has.t rfl) (.cons (t := 1) (Has.t rfl) (.cons (t := 7) (Has.t rfl) .nil)))) ?_)
      · show xs.length - (i + 1) < xs.length - i; omega
      · exact isI_eq (by omega)
      · rfl
  · have hc1 := BP.f hc1
    refine Tri.exit ?_
    refine At.the ?_
    refine At.the ?_
    refine At.blh ?_
    refine At.thn (hK2 _ _ ?_); clear hK2
    refine Tri.cv (Cv.wk .nil) ?_
    refine Tri.seq fun K11 hK11 => ?_
    refine Tri.region ?_
    refine st (OK1.as (Has.cI (-1) rfl)) rfl ?_
    refine nl ?_
    refine At.thn (hK11 _ _ ?_); clear hK11
    refine Tri.ret ?_
    refine rt1 (.inl rfl) Try.results75 rfl (.tmp (Has.t' rfl ?_) .nil)
    all_goals (exact isI_eq (ixf_none (q := fun x => decide (v = x)) (d := 0) (i := i) (by omega) hq))
set_option maxHeartbeats 4000000 in
theorem sl_ContainsI {xs : List Int} {v : Int} : Ctr Try.prog 76 [SlM isI xs, isI v] (isB (decide (0 ≤ ixf (fun x => decide (v = x)) xs))) := by
  refine Ctr.intro Try.func76 rfl (by kernel_rfl) Try.ntmps76 rfl fun w0 F0 => ?_
  refine Tri.cv (Cv.wk (.cons (t := 0) (Has.t rfl) (.cons (t := 1) (Has.t rfl) .nil))) ?_
  refine Tri.fact (Has.lenLt (Has.t (t := 0) rfl)) fun lt0 => ?_
  refine Tri.fact (Has.rngI (Has.t (t := 1) rfl)) fun lt1 => ?_
  refine Tri.seq fun K1 hK1 => ?_
  refine Tri.region ?_
  refine st (OK1.as (Has.cB false)) rfl ?_
  refine nl ?_
  refine At.thn (hK1 _ _ ?_); clear hK1
  refine Tri.seq fun K2 hK2 => ?_
  refine Tri.region ?_
  refine st (OK1.mv (Has.t rfl)) rfl ?_
  refine st (OK1.mv (Has.t rfl)) rfl ?_
  refine st (OK1.call (sl_IndexI) (.cons (Has.t rfl) (.cons (Has.t rfl) .nil))) rfl ?_
  refine st (OK1.geI (Has.t rfl) (Has.cI 0 rfl)) rfl ?_
  refine st (OK1.as (Has.t rfl)) rfl ?_
  refine nl ?_
  refine At.thn (hK2 _ _ ?_); clear hK2
  refine Tri.cv (Cv.wk (.cons (t := 4) (Has.t rfl) .nil)) ?_
  refine Tri.ret ?_
  refine rt1 (.inl rfl) Try.results76 rfl (.tmp (Has.t' rfl ?_) .nil)
  all_goals (rfl)
end Go.Proofs.Ytfoclelageohiaa
/- Contracts: kernels over a field. -/
namespace Go.Proofs.Ytfoclelageohiaa
open Go.En Go.RowKit
set_option linter.unusedVariables false
set_option maxRecDepth 10000
open Go.Gf
open Go.Mz
open Go.Mu
open Go.Fe
set_option maxHeartbeats 4000000 in
theorem fmat_Kernel_1 {q R W i k : Nat} {s : FS} (hs : s.rows.length = R) (hw : ∀ r ∈ s.rows, r.length = W) {fr : List Nat} (hq : q < 4294967296) (hps : s.ps.length ≤ R) (hk : k < fr.length) (hf : fr.getD k 0 < W) : Ctr Try.prog 77 [isI (i : Int), isI (k : Int), PtrL [wkFU q s], PtrL [isU q], PtrL [SlM isI (pv fr)]] (isU (kerE (fp q) s fr i k)) := by
  refine Ctr.intro Try.func77 rfl (by kernel_rfl) Try.ntmps77 rfl fun w0 F0 => ?_
  refine Tri.cv (Cv.wk (.cons (t := 0) (Has.t rfl) (.cons (t := 1) (Has.t rfl) (.cons (t := 2) (Has.t rfl) (.cons (t := 3) (Has.t rfl) (.cons (t := 4) (Has.t rfl) .nil)))))) ?_
  refine Tri.fact (Has.rngI (Has.t (t := 0) rfl)) fun lt0 => ?_
  refine Tri.fact (Has.rngI (Has.t (t := 1) rfl)) fun lt1 => ?_
  obtain ⟨z0, hz0⟩ : ∃ z0 : Int, z0 = ixf (fun x => decide ((i : Int) = x)) (pv s.ps) := ⟨_, rfl⟩
  have hpv := pv_len s.ps
  have hpf := pv_len fr
  have hfk : (pv fr)[k]? = some ((fr.getD k 0 : Nat) : Int) := by unfold pv; rw [List.getElem?_map, List.getD, List.getElem?_eq_getElem hk]; rfl
  refine Tri.seq fun K1 hK1 => ?_
  refine Tri.region ?_
  refine st (OK1.as (Has.cU 0 rfl)) rfl ?_
  refine nl ?_
  refine At.thn (hK1 _ _ ?_); clear hK1
  refine Tri.seq fun K2 hK2 => ?_
  refine Tri.seq fun K3 hK3 => ?_
  refine Tri.region ?_
  refine st (OK1.loadP1 (Has.t rfl) ty89) rfl ?_
  refine st (OK1.nilcP (Has.t rfl)) rfl ?_
  refine st (OK1.fieldAddrP (Has.t rfl) fld94_2 ty32 (Ss' := [_, _]) rfl) rfl ?_
  refine st (OK1.loadP1 (Has.t rfl) ty32) rfl ?_
  refine st (OK1.mv (Has.t rfl)) rfl ?_
  refine st (OK1.eq (OK1.call (sl_IndexI) (.cons (Has.t rfl) (.cons (Has.t rfl) .nil))) ((show isI _ = isI z0 from isI_eq hz0.symm))) rfl ?_
  refine st (OK1.as (Has.t rfl)) rfl ?_
  refine nl ?_
  refine At.thn (hK3 _ _ ?_); clear hK3
  refine Tri.cv (Cv.wk (.cons (t := 0) (Has.t rfl) (.cons (t := 1) (Has.t rfl) (.cons (t := 2) (Has.t rfl) (.cons (t := 3) (Has.t rfl) (.cons (t := 4) (Has.t rfl) (.cons (t := 7) (Has.t rfl) (.cons (t := 8) (Has.t rfl) .nil)))))))) ?_
  refine Tri.seq fun K4 hK4 => ?_
  refine Tri.region ?_
  refine st (OK1.mv (Has.t rfl)) rfl ?_
  refine st (OK1.geI (Has.t rfl) (Has.cI 0 rfl)) rfl ?_
  refine nl ?_
  refine At.thn (hK4 _ _ ?_); clear hK4
  refine Tri.cond (Has.t rfl) (fun hc1 => ?_) (fun hc1 => ?_)
  · have hc1 := BP.t hc1
    obtain ⟨n0, rfl, hn0, hn1⟩ := ixf_yes hz0 (by omega)
    have hidx : idxP s.ps i = n0 := hn0.symm
    have hrl : (s.rows.getD n0 []).length = W := hw _ (by rw [List.getD, List.getElem?_eq_getElem (by omega)]; exact List.getElem_mem _)
    refine Tri.seq fun K5 hK5 => ?_
    refine Tri.dr ?_
    refine DrG.st (i := 0) [] rfl rfl rfl (by kernel_rfl) (OKG.o rfl (OK1.loadP (Has.t rfl) ty29 rfl (Ss' := [_]) rfl)) ?_
    refine DrG.st (i := 1) [] rfl rfl rfl (by kernel_rfl) (OKG.o rfl (OK1.loadP1 (Has.t rfl) ty89)) ?_
    refine DrG.st (i := 2) [18] rfl rfl rfl (by kernel_rfl) (OKG.o rfl (OK1.nilcP (Has.t rfl))) ?_
    refine DrG.st (i := 3) [19] rfl rfl rfl (by kernel_rfl) (OKG.o rfl (OK1.fieldAddrP (Has.t rfl) fld94_1 ty92 (Ss' := [_, _, _]) rfl)) ?_
    refine DrG.st (i := 4) [20] rfl rfl rfl (by kernel_rfl) (OKG.o rfl (OK1.loadP1 (Has.t rfl) ty92)) ?_
    refine DrG.st (i := 5) [] rfl rfl rfl (by kernel_rfl) (OKG.o rfl (OK1.mv (Has.t rfl))) ?_
    refine DrG.st (i := 6) [21, 22] rfl rfl rfl (by kernel_rfl) (OKG.o rfl (OK1.ixP sl92 ty22 (Has.t rfl) (Has.t rfl) ⟨by omega, by omega⟩ (getD_some (d := []) (by first | omega | (simp only [Int.toNat_natCast, List.length_set]; omega))))) ?_
    refine DrG.st (i := 7) [23] rfl rfl rfl (by kernel_rfl) (OKG.o rfl (OK1.eq (OK1.loadP1 (Has.t rfl) ty22) ((show isWs _ = isWs (s.rows.getD n0 []) from rfl)))) ?_
    refine DrG.st (i := 8) [] rfl rfl rfl (by kernel_rfl) (OKG.o rfl (OK1.loadP1 (Has.t rfl) ty32)) ?_
    refine DrG.st (i := 9) [] rfl rfl rfl (by kernel_rfl) (OKG.o rfl (OK1.mv (Has.t rfl))) ?_
    refine DrG.st (i := 10) [25, 26] rfl rfl rfl (by kernel_rfl) (OKG.o rfl (OK1.ixP sl32 ty3 (Has.t rfl) (Has.t rfl) ⟨by omega, by omega⟩ hfk)) ?_
    refine DrG.st (i := 11) [27] rfl rfl rfl (by kernel_rfl) (OKG.o rfl (OK1.loadP1 (Has.t rfl) ty3)) ?_
    refine DrG.st (i := 12) [24, 28] rfl rfl rfl (by kernel_rfl) (OKG.o rfl (OK1.ixP sl22 ty27 (Has.t rfl) (Has.t rfl) ⟨by omega, by omega⟩ (getD_some (d := 0) (by first | omega | (simp only [Int.toNat_natCast, List.length_set]; omega))))) ?_
    refine DrG.st (i := 13) [29] rfl rfl rfl (by kernel_rfl) (OKG.o rfl (OK1.loadP1 (Has.t rfl) ty27)) ?_
    refine DrG.fin (n := 14) mixed (by kernel_rfl) (by kernel_rfl) (by kernel_rfl) ?_
    refine Ops.cv (Cv.wk (.cons (t := 0) (Has.t rfl) (.cons (t := 1) (Has.t rfl) (.cons (t := 4) (Has.t rfl) (.cons (t := 7) (Has.t rfl) (.cons (t := 17) (Has.t rfl) (.cons (t := 30) (Has.t rfl) .nil))))))) ?_
    refine st (OK1.call (gfp_Neg hq) (.cons (Has.t rfl) (.cons (Has.t rfl) .nil))) rfl ?_
    refine st (OK1.as (Has.t rfl)) rfl ?_
    refine nl ?_
    refine At.thn (hK5 _ _ ?_); clear hK5
    refine Tri.ret ?_
    refine At.thr ?_
    refine rt1 (.inl rfl) Try.results77 rfl (.tmp (Has.t' rfl ?_) .nil)
    all_goals (exact isU_eq (by unfold kerE; rw [hidx, if_pos (by omega)]; rfl))
  · have hc1 := BP.f hc1
    have hidx : ¬ idxP s.ps i < s.ps.length := fun h => ixf_no hz0 (by omega) (by rw [hpv]; exact h)
    refine Tri.skip ?_
    refine At.thn (hK2 _ _ ?_); clear hK2
    refine Tri.cv (Cv.wk (.cons (t := 0) (Has.t rfl) (.cons (t := 1) (Has.t rfl) (.cons (t := 4) (Has.t rfl) (.cons (t := 7) (Has.t rfl) .nil))))) ?_
    refine Tri.seq fun K6 hK6 => ?_
    refine Tri.region ?_
    refine st (OK1.mv (Has.t rfl)) rfl ?_
    refine st (OK1.loadP1 (Has.t rfl) ty32) rfl ?_
    refine st (OK1.mv (Has.t rfl)) rfl ?_
    refine st (OK1.ixP sl32 ty3 (Has.t rfl) (Has.t rfl) ⟨by omega, by omega⟩ hfk) rfl ?_
    refine st (OK1.loadP1 (Has.t rfl) ty3) rfl ?_
    refine st (OK1.call (fmat_one (i := i) (k := fr.getD k 0)) (.cons (Has.t rfl) (.cons (Has.t rfl) .nil))) rfl ?_
    refine st (OK1.as (Has.t rfl)) rfl ?_
    refine nl ?_
    refine At.thn (hK6 _ _ ?_); clear hK6
    refine Tri.cv (Cv.wk (.cons (t := 7) (Has.t rfl) .nil)) ?_
    refine Tri.ret ?_
    refine rt1 (.inl rfl) Try.results77 rfl (.tmp (Has.t' rfl ?_) .nil)
    all_goals (exact isU_eq (by unfold kerE; rw [if_neg hidx]))
set_option maxHeartbeats 4000000 in
theorem fmat_Kernel {q R C : Nat} {xs : List Nat} (hq : q < 4294967296) (hp2 : 2 ≤ fp q) (hR : R ≤ 64) (hC : C ≤ 64) (hxl : xs.length = R * C) : Ctr Try.prog 31 [Flat [isU q], isMW R C xs] (isTup [isMW C (freeL (redS (fp q) R C 0 xs []).ps C).length (tabU (C * (freeL (redS (fp q) R C 0 xs []).ps C).length) (freeL (redS (fp q) R C 0 xs []).ps C).length fun i k => kerE (fp q) (redS (fp q) R C 0 xs []) (freeL (redS (fp q) R C 0 xs []).ps C) i k % fp q), isI 0]) := by
  refine Ctr.intro Try.func31 rfl (by kernel_rfl) Try.ntmps31 rfl fun w0 F0 => ?_
  refine Tri.cv (Cv.wk (.cons (t := 0) (Has.t rfl) (.cons (t := 1) (Has.t rfl) .nil))) ?_
  have hRC := side_le hR hC
  have hok := fred_ok (p := fp q) (W := C + 0) (rowsU_len (fp q) R C 0 xs []) (fun r hr => rowsU_row hr) (1 % fp q) C
  obtain ⟨s, hs⟩ : ∃ s, s = redS (fp q) R C 0 xs [] := ⟨_, rfl⟩
  have hok1 : s.rows.length = R := by rw [hs]; exact hok.1
  have hok2 : ∀ r ∈ s.rows, r.length = C + 0 := by rw [hs]; exact hok.2.1
  have hok3 : s.ps.length ≤ R := by rw [hs]; exact hok.2.2
  rw [← hs]
  have hfo := formB_true hR hC hxl
  have hpv := pv_len s.ps
  refine Tri.seq fun K1 hK1 => ?_
  refine Tri.region ?_
  refine Ops.box (Has.t rfl) rfl fun b1 => ?_
  refine Ops.box (Has.t rfl) rfl fun b2 => ?_
  refine Ops.alloc [isI 0, isI 0, SlM isU []] zero24 (fun _ _ => ⟨⟨rfl, by decide, by decide⟩, ⟨rfl, by decide, by decide⟩, nilM _ _, trivial⟩) rfl fun b3 => ?_
  refine st (OK1.as (Has.cI 0 rfl)) rfl ?_
  refine nl ?_
  refine At.thn (hK1 _ _ ?_); clear hK1
  refine Tri.seq fun K2 hK2 => ?_
  refine Tri.seq fun K3 hK3 => ?_
  refine Tri.region ?_
  refine st (OK1.load (Has.t rfl) (i := 1) rfl ty24 rfl (Ss' := [_, _, _]) rfl) rfl ?_
  refine st (OK1.eq (OK1.call (fmat_Formed) (.cons (Has.t rfl) .nil)) ((show isB _ = isB true from isB_eq hfo))) rfl ?_
  refine st (OK1.not (Has.t rfl)) rfl ?_
  refine nl ?_
  refine At.thn (hK3 _ _ ?_); clear hK3
  refine Tri.cond (Has.t rfl) (fun hc1 => ?_) (fun hc1 => ?_)
  · have hc1 := BP.t hc1
    simp at hc1
  · have hc1 := BP.f hc1
    refine Tri.skip ?_
    refine At.thn (hK2 _ _ ?_); clear hK2
    refine Tri.cv (Cv.wk (.cons (t := 2) (Has.t rfl) (.cons (t := 3) (Has.t rfl) (.cons (t := 4) (Has.t rfl) (.cons (t := 5) (Has.t rfl) .nil))))) ?_
    refine Tri.seq fun K4 hK4 => ?_
    refine Tri.region ?_
    refine st (OK1.load (Has.t rfl) (i := 2) rfl ty29 rfl (Ss' := [_]) rfl) rfl ?_
    refine st (OK1.load (Has.t rfl) (i := 1) rfl ty24 rfl (Ss' := [_, _, _]) rfl) rfl ?_
    refine st (OK1.fieldAddr (Has.t rfl) fld24_0 ty3) rfl ?_
    refine st (OK1.load1 (Has.t rfl) (i := 1) rfl ty3 rfl) rfl ?_
    refine st (OK1.build [isI 0, isI 0, SlM isU []] pl24 zero24 (fun _ _ => ⟨⟨rfl, by decide, by decide⟩, ⟨rfl, by decide, by decide⟩, nilM _ _, trivial⟩) (.cons (Has.t rfl) rfl rfl rfl .nil) (Z'' := [_, _, _]) rfl) rfl ?_
    refine st (OK1.eq (OK1.call (fmat_reduced (D := 0) (ys := []) hq hp2 hR hC (Nat.zero_le _) hxl (Nat.mul_zero _).symm) (.cons (Has.t rfl) (.cons (Has.t rfl) (.cons (Has.t rfl) .nil)))) ((show wkFU q _ = wkFU q s from by rw [hs]; rfl))) rfl ?_
    refine Ops.alloc [nilP] zero89 (fun _ _ => ⟨rfl, trivial⟩) rfl fun b4 => ?_
    refine Ops.store (Has.t rfl) (Has.t rfl) (i := 0) rfl ty89 rfl rfl (Ss' := [_]) rfl (M' := [(some _, cellM [_]), _, _, _]) rfl ?_
    refine nl ?_
    refine At.thn (hK4 _ _ ?_); clear hK4
    refine Tri.cv (Cv.wk (.cons (t := 2) (Has.t rfl) (.cons (t := 3) (Has.t rfl) (.cons (t := 4) (Has.t rfl) (.cons (t := 5) (Has.t rfl) (.cons (t := 6) (Has.t rfl) .nil)))))) ?_
    refine Tri.seq fun K5 hK5 => ?_
    refine Tri.region ?_
    refine Ops.alloc [nilS] zero32 (fun _ _ => ⟨rfl, trivial⟩) rfl fun b5 => ?_
    refine nl ?_
    refine At.thn (hK5 _ _ ?_); clear hK5
    refine Tri.seq fun K6 hK6 => ?_
    refine Tri.seq fun K7 hK7 => ?_
    refine Tri.cv (Cv.growF (Int) (i := 0) (o := 0) rfl rfl rfl) ?_
    refine Tri.memEq (M' := [grM isI Gr.nil [], _, _, _, _, _]) rfl ?_
    refine Tri.region ?_
    refine st (OK1.fieldAddr (Has.t rfl) fld24_1 ty3) rfl ?_
    refine st (OK1.load1 (Has.t rfl) (i := 4) rfl ty3 rfl) rfl ?_
    refine st (OK1.mv (Has.cI 0 rfl)) rfl ?_
    refine nl ?_
    refine At.thn (hK7 _ _ ?_); clear hK7
    refine Tri.block ?_
    refine Tri.loopF [2, 3, 4, 5, 6, 7, 20] (fun (z : { z : Nat × Gr Int // z.1 ≤ C }) => match z with | ⟨(k, g), hI⟩ => [(21, isI (k : Int))]) (fun M => fun (z : { z : Nat × Gr Int // z.1 ≤ C }) => match z with | ⟨(k, g), hI⟩ => [grM isI g (pv (freeL s.ps k)), (some b5, cellM [isGr g (pv (freeL s.ps k)).length]), (some b4, cellM [wkFU q s]), (some b3, cellM [isI 0, isI 0, SlM isU []]), (some b2, cellM [isI (R : Int), isI (C : Int), SlM isU xs]), (some b1, cellM [isU q])]) (fun (z : { z : Nat × Gr Int // z.1 ≤ C }) => match z with | ⟨(k, g), hI⟩ => C - k) (⟨(0, Gr.nil), Nat.zero_le _⟩) (Cv.mem (.cons (t := 21) (Has.t' rfl ?_) (.cons (t := 2) (Has.t rfl) (.cons (t := 3) (Has.t rfl) (.cons (t := 4) (Has.t rfl) (.cons (t := 5) (Has.t rfl) (.cons (t := 6) (Has.t rfl) (.cons (t := 7) (Has.t rfl) (.cons (t := 20) (Has.t rfl) .nil)))))))) ?_) ?_
    · rfl
    · rfl
    rintro ⟨⟨k, g⟩, hI⟩ K8 hK8
    refine Tri.cv (Cv.wk (.cons (t := 21) (Has.t rfl) (.cons (t := 2) (Has.t rfl) (.cons (t := 3) (Has.t rfl) (.cons (t := 4) (Has.t rfl) (.cons (t := 5) (Has.t rfl) (.cons (t := 6) (Has.t rfl) (.cons (t := 7) (Has.t rfl) (.cons (t := 20) (Has.t rfl) .nil))))))))) ?_
    refine Tri.memEq (M' := [grM isI g (pv (freeL s.ps k)), (some b5, cellM [isGr g (pv (freeL s.ps k)).length]), (some b4, cellM [wkFU q s]), (some b3, cellM [isI 0, isI 0, SlM isU []]), (some b2, cellM [isI (R : Int), isI (C : Int), SlM isU xs]), (some b1, cellM [isU q])]) rfl ?_
    simp only [] at hI
    have hfl := freeL_len s.ps k
    have hfp := pv_len (freeL s.ps k)
    refine Tri.seq fun K9 hK9 => ?_
    refine Tri.region ?_
    refine st (OK1.ltI (Has.t rfl) (Has.t rfl)) rfl ?_
    refine nl ?_
    refine At.thn (hK9 _ _ ?_); clear hK9
    refine Tri.seq fun K10 hK10 => ?_
    refine Tri.cond (Has.t rfl) (fun hc2 => ?_) (fun hc2 => ?_)
    · have hc2 := BP.t hc2
      refine Tri.skip ?_
      refine At.thn (hK10 _ _ ?_); clear hK10
      refine Tri.seq fun K11 hK11 => ?_
      refine Tri.block ?_
      refine Tri.seq fun K12 hK12 => ?_
      refine Tri.region ?_
      refine st (OK1.mv (Has.t rfl)) rfl ?_
      refine st (OK1.as (Has.t rfl)) rfl ?_
      refine nl ?_
      refine At.thn (hK12 _ _ ?_); clear hK12
      refine Tri.seq fun K13 hK13 => ?_
      refine Tri.region ?_
      refine st (OK1.load1 (Has.t rfl) (i := 2) rfl ty89 rfl) rfl ?_
      refine st (OK1.nilcP (Has.t rfl)) rfl ?_
      refine st (OK1.fieldAddrP (Has.t rfl) fld94_2 ty32 (Ss' := [_, _]) rfl) rfl ?_
      refine st (OK1.loadP1 (Has.t rfl) ty32) rfl ?_
      refine st (OK1.mv (Has.t rfl)) rfl ?_
      refine st (OK1.eq (OK1.call (sl_ContainsI) (.cons (Has.t rfl) (.cons (Has.t rfl) .nil))) ((show isB _ = isB (decide (idxP s.ps k < s.ps.length)) from isB_eq (con_idx s.ps k)))) rfl ?_
      refine st (OK1.not (Has.t rfl)) rfl ?_
      refine nl ?_
      refine At.thn (hK13 _ _ ?_); clear hK13
      refine Tri.cond (Has.t rfl) (fun hc3 => ?_) (fun hc3 => ?_)
      · have hc3 := BP.t hc3
        have HQ := hc3
        refine Tri.region ?_
        refine st (OK1.load1 (Has.t rfl) (i := 1) rfl ty32 rfl) rfl ?_
        refine st (OK1.mv (Has.t rfl)) rfl ?_
        refine st (OK1.buildS [isI 0] sl32 ty3 zero3 (fun _ _ => ⟨⟨rfl, by decide, by decide⟩, trivial⟩) rfl rfl (.cons (Has.t rfl) rfl rfl rfl .nil) rfl (S := SlM isI [(k : Int)]) rfl) rfl ?_
        refine Ops.appendG (f := isI) (u := 0) sl32 ty3 zero3 (fun _ _ => ⟨⟨rfl, by decide, by decide⟩, trivial⟩) (fun _ => inferInstance) by3 (Has.t rfl) (i := 0) rfl (Has.t rfl) (by rw [hfp]; show (freeL s.ps k).length + 1 ≤ _; omega) (by simp) rfl fun gr1 => ?_
        refine Ops.memEq (M' := [grM _ _ _, _, _, _, _, _]) rfl ?_
        refine Ops.store (Has.t rfl) (Has.t rfl) (i := 1) rfl ty32 rfl rfl (Ss' := [_]) rfl (M' := [_, (some _, cellM [_]), _, _, _, _]) rfl ?_
        refine nl ?_
        refine At.bln ?_
        refine At.thn (hK11 _ _ ?_); clear hK11
        refine Tri.region ?_
        refine st (OK1.addI (Has.t rfl) (Has.cI 1 rfl) (by first | omega | assumption) (by first | omega | assumption)) rfl ?_
        refine st (OK1.mv (Has.t rfl)) rfl ?_
        refine nl ?_
        refine At.thn ?_
        refine hK8 (⟨(k + 1, gr1), by show k + 1 ≤ C; omega⟩) _ _ ?_ (Cv.mem (.cons (t := 21) (Has.t' rfl ?_) (.cons (t := 2) (Has.t rfl) (.cons (t := 3) (Has.t rfl) (.cons (t := 4) (Has.t rfl) (.cons (t := 5) (Has.t rfl) (.cons (t := 6) (Has.t rfl) (.cons (t := 7) (Has.t rfl) (.cons (t := 20) (Has.t rfl) .nil)))))))) ?_)
        · show C - (k + 1) < C - k; omega
        · exact isI_eq (by omega)
        · exact ker_app (by rw [freeL_succ, if_neg (by omega)]) rfl
      · have hc3 := BP.f hc3
        have HQ := hc3
        refine Tri.skip ?_
        refine At.bln ?_
        refine At.thn (hK11 _ _ ?_); clear hK11
        refine Tri.region ?_
        refine st (OK1.addI (Has.t rfl) (Has.cI 1 rfl) (by first | omega | assumption) (by first | omega | assumption)) rfl ?_
        refine st (OK1.mv (Has.t rfl)) rfl ?_
        refine nl ?_
        refine At.thn ?_
        refine hK8 (⟨(k + 1, g), by show k + 1 ≤ C; omega⟩) _ _ ?_ (Cv.mem (.cons (t := 21) (Has.t' rfl ?_) (.cons (t := 2) (Has.t rfl) (.cons (t := 3) (Has.t rfl) (.cons (t := 4) (Has.t rfl) (.cons (t := 5) (Has.t rfl) (.cons (t := 6) (Has.t rfl) (.cons (t := 7) (Has.t rfl) (.cons (t := 20) (Has.t rfl) .nil)))))))) ?_)
        · show C - (k + 1) < C - k; omega
        · exact isI_eq (by omega)
        · exact ker_same (by rw [freeL_succ, if_pos (by omega), List.append_nil])
    · have hc2 := BP.f hc2
      refine Tri.exit ?_
      refine At.the ?_
      refine At.the ?_
      refine At.blh ?_
      refine At.thn (hK6 _ _ ?_); clear hK6
      refine Tri.seq fun K14 hK14 => ?_
      refine Tri.cv (Cv.freezeF (k := 1) (i := 0) (j := 0) (o := 0) rfl rfl rfl rfl gr_lenM gr_takeM (Ss' := [SlM isI (pv (freeL s.ps k))]) rfl) ?_
      refine Tri.memEq (M' := [(some _, cellM [SlM isI (pv (freeL s.ps k))]), _, _, _, _]) rfl ?_
      refine Tri.cv (Cv.wk (.cons (t := 2) (Has.t rfl) (.cons (t := 3) (Has.t rfl) (.cons (t := 4) (Has.t rfl) (.cons (t := 5) (Has.t rfl) (.cons (t := 6) (Has.t rfl) (.cons (t := 7) (Has.t rfl) (.cons (t := 20) (Has.t rfl) (.cons (t := 21) (Has.t rfl) (.cons (t := 22) (Has.t rfl) .nil)))))))))) ?_
      refine Tri.region ?_
      refine st (OK1.load (Has.t rfl) (i := 4) rfl ty29 rfl (Ss' := [_]) rfl) rfl ?_
      refine st (OK1.fieldAddr (Has.t rfl) fld24_1 ty3) rfl ?_
      refine st (OK1.load1 (Has.t rfl) (i := 3) rfl ty3 rfl) rfl ?_
      refine st (OK1.load1 (Has.t rfl) (i := 0) rfl ty32 rfl) rfl ?_
      refine st (OK1.eq (OK1.len sl32 (Has.t rfl)) ((show isI _ = isI (((freeL s.ps k).length : Nat) : Int) from isI_eq (by rw [pv_len])))) rfl ?_
      refine Ops.cv (Cv.freezeBox (t := 6) (i := 1) rfl rfl rfl) ?_
      refine Ops.memEq (M' := [_, _, _, _]) rfl ?_
      refine Ops.cv (Cv.wk (.cons (t := 2) (Has.t rfl) (.cons (t := 3) (Has.t rfl) (.cons (t := 4) (Has.t rfl) (.cons (t := 5) (Has.t rfl) (.cons (t := 6) (Has.t rfl) (.cons (t := 7) (Has.t rfl) (.cons (t := 20) (Has.t rfl) (.cons (t := 21) (Has.t rfl) (.cons (t := 22) (Has.t rfl) (.cons (t := 36) (Has.t rfl) (.cons (t := 37) (Has.t rfl) (.cons (t := 38) (Has.t rfl) (.cons (t := 39) (Has.t rfl) (.cons (t := 40) (Has.t rfl) .nil))))))))))))))) ?_
      refine Ops.cv (Cv.freezeBox (t := 2) (i := 3) rfl rfl rfl) ?_
      refine Ops.memEq (M' := [_, _, _]) rfl ?_
      refine Ops.cv (Cv.wk (.cons (t := 2) (Has.t rfl) (.cons (t := 3) (Has.t rfl) (.cons (t := 4) (Has.t rfl) (.cons (t := 5) (Has.t rfl) (.cons (t := 6) (Has.t rfl) (.cons (t := 7) (Has.t rfl) (.cons (t := 20) (Has.t rfl) (.cons (t := 21) (Has.t rfl) (.cons (t := 22) (Has.t rfl) (.cons (t := 36) (Has.t rfl) (.cons (t := 37) (Has.t rfl) (.cons (t := 38) (Has.t rfl) (.cons (t := 39) (Has.t rfl) (.cons (t := 40) (Has.t rfl) .nil))))))))))))))) ?_
      refine Ops.cv (Cv.freezeBox (t := 7) (i := 0) rfl rfl rfl) ?_
      refine Ops.memEq (M' := [_, _]) rfl ?_
      refine Ops.cv (Cv.wk (.cons (t := 2) (Has.t rfl) (.cons (t := 3) (Has.t rfl) (.cons (t := 4) (Has.t rfl) (.cons (t := 5) (Has.t rfl) (.cons (t := 6) (Has.t rfl) (.cons (t := 7) (Has.t rfl) (.cons (t := 20) (Has.t rfl) (.cons (t := 21) (Has.t rfl) (.cons (t := 22) (Has.t rfl) (.cons (t := 36) (Has.t rfl) (.cons (t := 37) (Has.t rfl) (.cons (t := 38) (Has.t rfl) (.cons (t := 39) (Has.t rfl) (.cons (t := 40) (Has.t rfl) .nil))))))))))))))) ?_
      refine st (OK1.makeFn (ι := PI C (freeL s.ps k).length) (As := fun p => [isI (p.1.1 : Int), isI (p.1.2 : Int)]) (R := fun p => isU (kerE (fp q) s (freeL s.ps k) p.1.1 p.1.2)) (fun p => fmat_Kernel_1 hok1 hok2 hq hok3 p.2.2 (by have := freeL_lt p.2.2; omega)) .nil (.cons (Has.t rfl) (.cons (Has.t rfl) (.cons (Has.t rfl) .nil)))) rfl ?_
      refine st (OK1.call (fmat_made (f := fun i j => kerE (fp q) s (freeL s.ps k) i j) hC (by have := freeL_len s.ps k; omega)) (.cons (Has.t rfl) (.cons (Has.t rfl) (.cons (Has.t rfl) (.cons (Has.t rfl) .nil))))) rfl ?_
      refine Ops.store (Has.t rfl) (Has.t rfl) (i := 0) rfl ty24 rfl rfl (Ss' := [_, _, _]) rfl (M' := [(some _, cellM [_, _, _]), _]) rfl ?_
      refine st (OK1.as (Has.cI 0 rfl)) rfl ?_
      refine nl ?_
      refine At.thn (hK14 _ _ ?_); clear hK14
      refine Tri.cv (Cv.wk (.cons (t := 4) (Has.t rfl) (.cons (t := 5) (Has.t rfl) .nil))) ?_
      refine Tri.ret ?_
      refine rtN (.inl rfl) Try.results31 rfl rfl (.cell rfl (i := 0) rfl ty24 rfl ?_ (.tmp (Has.t' rfl ?_) .nil))
      · rw [show k = C by omega]
      · rfl
set_option maxHeartbeats 4000000 in
theorem fmat_Kernel_bad {q : Nat} {r c : Int} {xs : List Nat} (hf : formB r c xs.length = false) : Ctr Try.prog 31 [Flat [isU q], isMW r c xs] (isTup [isMW 0 0 [], isI 2]) := by
  refine Ctr.intro Try.func31 rfl (by kernel_rfl) Try.ntmps31 rfl fun w0 F0 => ?_
  refine Tri.cv (Cv.wk (.cons (t := 0) (Has.t rfl) (.cons (t := 1) (Has.t rfl) .nil))) ?_
  refine Tri.seq fun K1 hK1 => ?_
  refine Tri.region ?_
  refine Ops.box (Has.t rfl) rfl fun b1 => ?_
  refine Ops.box (Has.t rfl) rfl fun b2 => ?_
  refine Ops.alloc [isI 0, isI 0, SlM isU []] zero24 (fun _ _ => ⟨⟨rfl, by decide, by decide⟩, ⟨rfl, by decide, by decide⟩, nilM _ _, trivial⟩) rfl fun b3 => ?_
  refine st (OK1.as (Has.cI 0 rfl)) rfl ?_
  refine nl ?_
  refine At.thn (hK1 _ _ ?_); clear hK1
  refine Tri.seq fun K2 hK2 => ?_
  refine Tri.seq fun K3 hK3 => ?_
  refine Tri.region ?_
  refine st (OK1.load (Has.t rfl) (i := 1) rfl ty24 rfl (Ss' := [_, _, _]) rfl) rfl ?_
  refine st (OK1.eq (OK1.call (fmat_Formed) (.cons (Has.t rfl) .nil)) ((show isB _ = isB false from isB_eq hf))) rfl ?_
  refine st (OK1.not (Has.t rfl)) rfl ?_
  refine nl ?_
  refine At.thn (hK3 _ _ ?_); clear hK3
  refine Tri.cond (Has.t rfl) (fun hc1 => ?_) (fun hc1 => ?_)
  · have hc1 := BP.t hc1
    refine Tri.seq fun K4 hK4 => ?_
    refine Tri.region ?_
    refine st (OK1.build [isI 0, isI 0, SlM isU []] pl24 zero24 (fun _ _ => ⟨⟨rfl, by decide, by decide⟩, ⟨rfl, by decide, by decide⟩, nilM _ _, trivial⟩) .nil (Z'' := [_, _, _]) rfl) rfl ?_
    refine Ops.store (Has.t rfl) (Has.t rfl) (i := 0) rfl ty24 rfl rfl (Ss' := [_, _, _]) rfl (M' := [(some _, cellM [_, _, _]), _, _]) rfl ?_
    refine st (OK1.as (Has.cI 2 rfl)) rfl ?_
    refine nl ?_
    refine At.thn (hK4 _ _ ?_); clear hK4
    refine Tri.cv (Cv.wk (.cons (t := 2) (Has.t rfl) (.cons (t := 3) (Has.t rfl) (.cons (t := 4) (Has.t rfl) (.cons (t := 5) (Has.t rfl) .nil))))) ?_
    refine Tri.ret ?_
    refine At.thr ?_
    refine rtN (.inl rfl) Try.results31 rfl rfl (.cell rfl (i := 0) rfl ty24 rfl ?_ (.tmp (Has.t' rfl ?_) .nil))
    · rfl
    · rfl
  · have hc1 := BP.f hc1
    simp at hc1
end Go.Proofs.Ytfoclelageohiaa
/- Contracts: the document's products, transposes of words. -/
namespace Go.Proofs.Ytfoclelageohiaa
open Go.En Go.RowKit
set_option linter.unusedVariables false
set_option maxRecDepth 10000
open Go.Gf
open Go.Mz
open Go.Mu
open Go.Fe
set_option maxHeartbeats 4000000 in
theorem ref21_Mul {p R C D : Nat} {xs ys : List Nat} (hp : 0 < p) (hp2 : p < 4294967296) (hR : R ≤ 64) (hC : C ≤ 64) (hD : D ≤ 64) (hxl : xs.length = R * C) (hyl : ys.length = C * D) : Ctr Try.prog 24 [isMW R C xs, isMW C D ys, isU p] (isMW R D (tabU (R * D) D fun i k => dotN (fun j => xs.getD (i * C + j) 0) (fun j => ys.getD (j * D + k) 0) C % p)) := by
  refine Ctr.intro Try.func24 rfl (by kernel_rfl) Try.ntmps24 rfl fun w0 F0 => ?_
  refine Tri.cv (Cv.wk (.cons (t := 0) (Has.t rfl) (.cons (t := 1) (Has.t rfl) (.cons (t := 2) (Has.t rfl) .nil)))) ?_
  refine Tri.fact (Has.ltU (Has.t (t := 2) rfl)) fun lt2 => ?_
  have h1 := side_le hR hC
  have h2 := side_le hC hD
  have h3 := side_le hR hD
  obtain ⟨G, hG⟩ : ∃ G : Nat → Nat → Nat, G = fun i k => dotN (fun j => xs.getD (i * C + j) 0) (fun j => ys.getD (j * D + k) 0) C % p := ⟨_, rfl⟩
  rw [← hG]
  refine Tri.seq fun K1 hK1 => ?_
  refine Tri.region ?_
  refine Ops.box (Has.t rfl) rfl fun b1 => ?_
  refine Ops.box (Has.t rfl) rfl fun b2 => ?_
  refine Ops.alloc [isI 0, isI 0, nilS] zero24 (fun _ _ => ⟨⟨rfl, by decide, by decide⟩, ⟨rfl, by decide, by decide⟩, rfl, trivial⟩) rfl fun b3 => ?_
  refine nl ?_
  refine At.thn (hK1 _ _ ?_); clear hK1
  refine Tri.seq fun K2 hK2 => ?_
  refine Tri.region ?_
  refine st (OK1.fieldAddr (Has.t rfl) fld24_0 ty3) rfl ?_
  refine st (OK1.load1 (Has.t rfl) (i := 2) rfl ty3 rfl) rfl ?_
  refine st (OK1.fieldAddr (Has.t rfl) fld24_1 ty3) rfl ?_
  refine st (OK1.load1 (Has.t rfl) (i := 1) rfl ty3 rfl) rfl ?_
  refine st (OK1.build [isI 0, isI 0, nilS] pl24 zero24 (fun _ _ => ⟨⟨rfl, by decide, by decide⟩, ⟨rfl, by decide, by decide⟩, rfl, trivial⟩) (.cons (Has.t rfl) rfl rfl rfl (.cons (Has.t rfl) rfl rfl rfl .nil)) (Z'' := [_, _, _]) rfl) rfl ?_
  refine Ops.alloc [isI 0, isI 0, nilS] zero24 (fun _ _ => ⟨⟨rfl, by decide, by decide⟩, ⟨rfl, by decide, by decide⟩, rfl, trivial⟩) rfl fun b4 => ?_
  refine Ops.store (Has.t rfl) (Has.t rfl) (i := 0) rfl ty24 rfl rfl (Ss' := [_, _, _]) rfl (M' := [(some _, cellM [_, _, _]), _, _, _]) rfl ?_
  refine nl ?_
  refine At.thn (hK2 _ _ ?_); clear hK2
  refine Tri.cv (Cv.wk (.cons (t := 2) (Has.t rfl) (.cons (t := 3) (Has.t rfl) (.cons (t := 4) (Has.t rfl) (.cons (t := 6) (Has.t rfl) (.cons (t := 7) (Has.t rfl) .nil)))))) ?_
  refine Tri.seq fun K3 hK3 => ?_
  refine Tri.seq fun K4 hK4 => ?_
  refine Tri.cv (Cv.growF (Nat) (i := 0) (o := 2) rfl rfl rfl) ?_
  refine Tri.memEq (M' := [grM isU Gr.nil [], _, _, _, _]) rfl ?_
  refine Tri.region ?_
  refine st (OK1.as (Has.cI 0 rfl)) rfl ?_
  refine nl ?_
  refine At.thn (hK4 _ _ ?_); clear hK4
  refine Tri.block ?_
  refine Tri.loopF [2, 3, 4, 6, 7] (fun (z : { z : Nat × Gr Nat // z.1 ≤ R }) => match z with | ⟨(i, g), hI⟩ => [(8, isI (i : Int))]) (fun M => fun (z : { z : Nat × Gr Nat // z.1 ≤ R }) => match z with | ⟨(i, g), hI⟩ => [grM isU g (tabU (i * D + 0) D G), (some b4, cellM [isI (R : Int), isI (D : Int), isGr g (tabU (i * D + 0) D G).length]), (some b3, cellM [isI 0, isI 0, nilS]), (some b2, cellM [isI (C : Int), isI (D : Int), SlM isU ys]), (some b1, cellM [isI (R : Int), isI (C : Int), SlM isU xs])]) (fun (z : { z : Nat × Gr Nat // z.1 ≤ R }) => match z with | ⟨(i, g), hI⟩ => R - i) (⟨(0, Gr.nil), Nat.zero_le _⟩) (Cv.mem (.cons (t := 8) (Has.t' rfl ?_) (.cons (t := 2) (Has.t rfl) (.cons (t := 3) (Has.t rfl) (.cons (t := 4) (Has.t rfl) (.cons (t := 6) (Has.t rfl) (.cons (t := 7) (Has.t rfl) .nil)))))) ?_) ?_
  · rfl
  · exact grFu_eq (n := 0) (ys := []) (by rw [tabU_len, Nat.zero_mul]) (show [] = tabU (0 * D + 0) D G by rw [Nat.zero_mul]; rfl)
  rintro ⟨⟨i, g⟩, hI⟩ K5 hK5
  refine Tri.cv (Cv.wk (.cons (t := 8) (Has.t rfl) (.cons (t := 2) (Has.t rfl) (.cons (t := 3) (Has.t rfl) (.cons (t := 4) (Has.t rfl) (.cons (t := 6) (Has.t rfl) (.cons (t := 7) (Has.t rfl) .nil))))))) ?_
  refine Tri.memEq (M' := [grM isU g (tabU (i * D + 0) D G), (some b4, cellM [isI (R : Int), isI (D : Int), isGr g (tabU (i * D + 0) D G).length]), (some b3, cellM [isI 0, isI 0, nilS]), (some b2, cellM [isI (C : Int), isI (D : Int), SlM isU ys]), (some b1, cellM [isI (R : Int), isI (C : Int), SlM isU xs])]) rfl ?_
  simp only [] at hI
  refine Tri.seq fun K6 hK6 => ?_
  refine Tri.seq fun K7 hK7 => ?_
  refine Tri.region ?_
  refine st (OK1.mv (Has.t rfl)) rfl ?_
  refine st (OK1.fieldAddr (Has.t rfl) fld24_0 ty3) rfl ?_
  refine st (OK1.load1 (Has.t rfl) (i := 4) rfl ty3 rfl) rfl ?_
  refine st (OK1.ltI (Has.t rfl) (Has.t rfl)) rfl ?_
  refine nl ?_
  refine At.thn (hK7 _ _ ?_); clear hK7
  refine Tri.cond (Has.t rfl) (fun hc1 => ?_) (fun hc1 => ?_)
  · have hc1 := BP.t hc1
    refine Tri.skip ?_
    refine At.thn (hK6 _ _ ?_); clear hK6
    refine Tri.seq fun K8 hK8 => ?_
    refine Tri.block ?_
    refine Tri.seq fun K9 hK9 => ?_
    refine Tri.region ?_
    refine st (OK1.as (Has.cI 0 rfl)) rfl ?_
    refine nl ?_
    refine At.thn (hK9 _ _ ?_); clear hK9
    refine Tri.block ?_
    refine Tri.loopF [2, 3, 4, 6, 7, 8, 17, 18, 19, 20] (fun (z : { z : Nat × Gr Nat // z.1 ≤ D }) => match z with | ⟨(k, g2), hK⟩ => [(9, isI (k : Int))]) (fun M => fun (z : { z : Nat × Gr Nat // z.1 ≤ D }) => match z with | ⟨(k, g2), hK⟩ => [grM isU g2 (tabU (i * D + k) D G), (some b4, cellM [isI (R : Int), isI (D : Int), isGr g2 (tabU (i * D + k) D G).length]), (some b3, cellM [isI 0, isI 0, nilS]), (some b2, cellM [isI (C : Int), isI (D : Int), SlM isU ys]), (some b1, cellM [isI (R : Int), isI (C : Int), SlM isU xs])]) (fun (z : { z : Nat × Gr Nat // z.1 ≤ D }) => match z with | ⟨(k, g2), hK⟩ => D - k) (⟨(0, g), Nat.zero_le _⟩) (Cv.mem (.cons (t := 9) (Has.t' rfl ?_) (.cons (t := 2) (Has.t rfl) (.cons (t := 3) (Has.t rfl) (.cons (t := 4) (Has.t rfl) (.cons (t := 6) (Has.t rfl) (.cons (t := 7) (Has.t rfl) (.cons (t := 8) (Has.t rfl) (.cons (t := 17) (Has.t rfl) (.cons (t := 18) (Has.t rfl) (.cons (t := 19) (Has.t rfl) (.cons (t := 20) (Has.t rfl) .nil))))))))))) ?_) ?_
    · rfl
    · rfl
    rintro ⟨⟨k, g2⟩, hK⟩ K10 hK10
    refine Tri.cv (Cv.wk (.cons (t := 9) (Has.t rfl) (.cons (t := 2) (Has.t rfl) (.cons (t := 3) (Has.t rfl) (.cons (t := 4) (Has.t rfl) (.cons (t := 6) (Has.t rfl) (.cons (t := 7) (Has.t rfl) (.cons (t := 8) (Has.t rfl) (.cons (t := 17) (Has.t rfl) (.cons (t := 18) (Has.t rfl) (.cons (t := 19) (Has.t rfl) (.cons (t := 20) (Has.t rfl) .nil)))))))))))) ?_
    refine Tri.memEq (M' := [grM isU g2 (tabU (i * D + k) D G), (some b4, cellM [isI (R : Int), isI (D : Int), isGr g2 (tabU (i * D + k) D G).length]), (some b3, cellM [isI 0, isI 0, nilS]), (some b2, cellM [isI (C : Int), isI (D : Int), SlM isU ys]), (some b1, cellM [isI (R : Int), isI (C : Int), SlM isU xs])]) rfl ?_
    simp only [] at hK
    refine Tri.seq fun K11 hK11 => ?_
    refine Tri.seq fun K12 hK12 => ?_
    refine Tri.region ?_
    refine st (OK1.mv (Has.t rfl)) rfl ?_
    refine st (OK1.fieldAddr (Has.t rfl) fld24_1 ty3) rfl ?_
    refine st (OK1.load1 (Has.t rfl) (i := 3) rfl ty3 rfl) rfl ?_
    refine st (OK1.ltI (Has.t rfl) (Has.t rfl)) rfl ?_
    refine nl ?_
    refine At.thn (hK12 _ _ ?_); clear hK12
    refine Tri.cond (Has.t rfl) (fun hc2 => ?_) (fun hc2 => ?_)
    · have hc2 := BP.t hc2
      refine Tri.skip ?_
      refine At.thn (hK11 _ _ ?_); clear hK11
      refine Tri.seq fun K13 hK13 => ?_
      refine Tri.block ?_
      refine Tri.seq fun K14 hK14 => ?_
      refine Tri.region ?_
      refine st (OK1.as (Has.cU 0 rfl)) rfl ?_
      refine nl ?_
      refine At.thn (hK14 _ _ ?_); clear hK14
      refine Tri.seq fun K15 hK15 => ?_
      refine Tri.seq fun K16 hK16 => ?_
      refine Tri.region ?_
      refine st (OK1.as (Has.cI 0 rfl)) rfl ?_
      refine nl ?_
      refine At.thn (hK16 _ _ ?_); clear hK16
      refine Tri.block ?_
      refine Tri.loopF [2, 3, 4, 6, 7, 8, 17, 18, 19, 20, 9, 23, 24, 25, 26] (fun (z : { j : Nat // j ≤ C }) => match z with | ⟨j, hj⟩ => [(11, isI (j : Int)), (10, isU (dotN (fun j => xs.getD (i * C + j) 0) (fun j => ys.getD (j * D + k) 0) j % p))]) (fun M => fun (z : { j : Nat // j ≤ C }) => match z with | ⟨j, hj⟩ => M) (fun (z : { j : Nat // j ≤ C }) => match z with | ⟨j, hj⟩ => C - j) (⟨0, Nat.zero_le _⟩) (Cv.mem (.cons (t := 11) (Has.t' rfl ?_) (.cons (t := 10) (Has.t' rfl ?_) (.cons (t := 2) (Has.t rfl) (.cons (t := 3) (Has.t rfl) (.cons (t := 4) (Has.t rfl) (.cons (t := 6) (Has.t rfl) (.cons (t := 7) (Has.t rfl) (.cons (t := 8) (Has.t rfl) (.cons (t := 17) (Has.t rfl) (.cons (t := 18) (Has.t rfl) (.cons (t := 19) (Has.t rfl) (.cons (t := 20) (Has.t rfl) (.cons (t := 9) (Has.t rfl) (.cons (t := 23) (Has.t rfl) (.cons (t := 24) (Has.t rfl) (.cons (t := 25) (Has.t rfl) (.cons (t := 26) (Has.t rfl) .nil))))))))))))))))) ?_) ?_
      · rfl
      · exact isU_eq (Nat.zero_mod _).symm
      · rfl
      rintro ⟨j, hj⟩ K17 hK17
      refine Tri.cv (Cv.wk (.cons (t := 11) (Has.t rfl) (.cons (t := 10) (Has.t rfl) (.cons (t := 2) (Has.t rfl) (.cons (t := 3) (Has.t rfl) (.cons (t := 4) (Has.t rfl) (.cons (t := 6) (Has.t rfl) (.cons (t := 7) (Has.t rfl) (.cons (t := 8) (Has.t rfl) (.cons (t := 17) (Has.t rfl) (.cons (t := 18) (Has.t rfl) (.cons (t := 19) (Has.t rfl) (.cons (t := 20) (Has.t rfl) (.cons (t := 9) (Has.t rfl) (.cons (t := 23) (Has.t rfl) (.cons (t := 24) (Has.t rfl) (.cons (t := 25) (Has.t rfl) (.cons (t := 26) (Has.t rfl) .nil)))))))))))))))))) ?_
      refine Tri.seq fun K18 hK18 => ?_
      refine Tri.seq fun K19 hK19 => ?_
      refine Tri.region ?_
      refine st (OK1.mv (Has.t rfl)) rfl ?_
      refine st (OK1.fieldAddr (Has.t rfl) fld24_1 ty3) rfl ?_
      refine st (OK1.load1 (Has.t rfl) (i := 4) rfl ty3 rfl) rfl ?_
      refine st (OK1.ltI (Has.t rfl) (Has.t rfl)) rfl ?_
      refine nl ?_
      refine At.thn (hK19 _ _ ?_); clear hK19
      refine Tri.cond (Has.t rfl) (fun hc3 => ?_) (fun hc3 => ?_)
      · have hc3 := BP.t hc3
        have hp1 := place_lt (show i < R by omega) (show j < C by omega)
        have hp3 := place_lt (show j < C by omega) (show k < D by omega)
        have hm1 := Nat.mod_lt (dotN (fun j => xs.getD (i * C + j) 0) (fun j => ys.getD (j * D + k) 0) j) hp
        have hm2 := Nat.mod_lt (xs.getD (i * C + j) 0 % p * (ys.getD (j * D + k) 0 % p)) hp
        refine Tri.skip ?_
        refine At.thn (hK18 _ _ ?_); clear hK18
        refine Tri.seq fun K20 hK20 => ?_
        refine Tri.block ?_
        refine Tri.dr ?_
        refine DrG.st (i := 0) [] rfl rfl rfl (by kernel_rfl) (OKG.o rfl (OK1.mv (Has.t rfl))) ?_
        refine DrG.st (i := 1) [] rfl rfl rfl (by kernel_rfl) (OKG.o rfl (OK1.load (Has.t rfl) (i := 4) rfl ty24 rfl (Ss' := [_, _, _]) rfl)) ?_
        refine DrG.st (i := 2) [] rfl rfl rfl (by kernel_rfl) (OKG.o rfl (OK1.mv (Has.t rfl))) ?_
        refine DrG.st (i := 3) [] rfl rfl rfl (by kernel_rfl) (OKG.o rfl (OK1.mv (Has.t rfl))) ?_
        refine DrG.st (i := 4) [] rfl rfl rfl (by kernel_rfl) (OKG.o rfl (OK1.mv (Has.t rfl))) ?_
        refine DrG.st (i := 5) [36, 37, 38, 39] rfl rfl rfl (by kernel_rfl) (OKG.o rfl (OK1.call (ref21_At (i := i) (k := j) hp (by omega) (by omega)) (.cons (Has.t rfl) (.cons (Has.t rfl) (.cons (Has.t rfl) (.cons (Has.t rfl) .nil)))))) ?_
        refine DrG.st (i := 6) [] rfl rfl rfl (by kernel_rfl) (OKG.o rfl (OK1.load (Has.t rfl) (i := 3) rfl ty24 rfl (Ss' := [_, _, _]) rfl)) ?_
        refine DrG.st (i := 7) [] rfl rfl rfl (by kernel_rfl) (OKG.o rfl (OK1.mv (Has.t rfl))) ?_
        refine DrG.st (i := 8) [] rfl rfl rfl (by kernel_rfl) (OKG.o rfl (OK1.mv (Has.t rfl))) ?_
        refine DrG.st (i := 9) [] rfl rfl rfl (by kernel_rfl) (OKG.o rfl (OK1.mv (Has.t rfl))) ?_
        refine DrG.st (i := 10) [41, 42, 43, 44] rfl rfl rfl (by kernel_rfl) (OKG.o rfl (OK1.call (ref21_At (i := j) (k := k) hp (by omega) (by omega)) (.cons (Has.t rfl) (.cons (Has.t rfl) (.cons (Has.t rfl) (.cons (Has.t rfl) .nil)))))) ?_
        refine DrG.st (i := 11) [] rfl rfl rfl (by kernel_rfl) (OKG.o rfl (OK1.mv (Has.t rfl))) ?_
        refine DrG.st (i := 12) [40, 45, 46] rfl rfl rfl (by kernel_rfl) (OKG.o rfl (OK1.call (ref08_Mul hp hp2) (.cons (Has.t rfl) (.cons (Has.t rfl) (.cons (Has.t rfl) .nil))))) ?_
        refine DrG.st (i := 13) [35, 47] rfl rfl rfl (by kernel_rfl) (OKG.o rfl (OK1.addU' (Has.t rfl) (Has.t rfl) (by first | omega | assumption))) ?_
        refine DrG.st (i := 14) [] rfl rfl rfl (by kernel_rfl) (OKG.o rfl (OK1.mv (Has.t rfl))) ?_
        refine DrG.fin (n := 15) mixed (by kernel_rfl) (by kernel_rfl) (by kernel_rfl) ?_
        refine Ops.cv (Cv.wk (.cons (t := 2) (Has.t rfl) (.cons (t := 3) (Has.t rfl) (.cons (t := 4) (Has.t rfl) (.cons (t := 6) (Has.t rfl) (.cons (t := 7) (Has.t rfl) (.cons (t := 8) (Has.t rfl) (.cons (t := 17) (Has.t rfl) (.cons (t := 18) (Has.t rfl) (.cons (t := 19) (Has.t rfl) (.cons (t := 20) (Has.t rfl) (.cons (t := 9) (Has.t rfl) (.cons (t := 23) (Has.t rfl) (.cons (t := 24) (Has.t rfl) (.cons (t := 25) (Has.t rfl) (.cons (t := 26) (Has.t rfl) (.cons (t := 11) (Has.t rfl) (.cons (t := 10) (Has.t rfl) (.cons (t := 29) (Has.t rfl) (.cons (t := 30) (Has.t rfl) (.cons (t := 31) (Has.t rfl) (.cons (t := 32) (Has.t rfl) (.cons (t := 35) (Has.t rfl) (.cons (t := 36) (Has.t rfl) (.cons (t := 37) (Has.t rfl) (.cons (t := 38) (Has.t rfl) (.cons (t := 39) (Has.t rfl) (.cons (t := 40) (Has.t rfl) (.cons (t := 41) (Has.t rfl) (.cons (t := 42) (Has.t rfl) (.cons (t := 43) (Has.t rfl) (.cons (t := 44) (Has.t rfl) (.cons (t := 45) (Has.t rfl) (.cons (t := 46) (Has.t rfl) (.cons (t := 47) (Has.t rfl) (.cons (t := 48) (Has.t rfl) (.cons (t := 49) (Has.t rfl) .nil))))))))))))))))))))))))))))))))))))) ?_
        refine st (OK1.remU (Has.t rfl) (Has.t rfl) (by first | omega | assumption) (by first | omega | assumption)) rfl ?_
        refine st (OK1.as (Has.t rfl)) rfl ?_
        refine nl ?_
        refine At.bln ?_
        refine At.thn (hK20 _ _ ?_); clear hK20
        refine Tri.region ?_
        refine st (OK1.mv (Has.t rfl)) rfl ?_
        refine st (OK1.addI (Has.t rfl) (Has.cI 1 rfl) (by first | omega | assumption) (by first | omega | assumption)) rfl ?_
        refine st (OK1.as (Has.t rfl)) rfl ?_
        refine nl ?_
        refine At.thn ?_
        refine hK17 (⟨j + 1, by omega⟩) _ _ ?_ (Cv.mem (.cons (t := 11) (Has.t' rfl ?_) (.cons (t := 10) (Has.t' rfl ?_) (.cons (t := 2) (Has.t rfl) (.cons (t := 3) (Has.t rfl) (.cons (t := 4) (Has.t rfl) (.cons (t := 6) (Has.t rfl) (.cons (t := 7) (Has.t rfl) (.cons (t := 8) (Has.t rfl) (.cons (t := 17) (Has.t rfl) (.cons (t := 18) (Has.t rfl) (.cons (t := 19) (Has.t rfl) (.cons (t := 20) (Has.t rfl) (.cons (t := 9) (Has.t rfl) (.cons (t := 23) (Has.t rfl) (.cons (t := 24) (Has.t rfl) (.cons (t := 25) (Has.t rfl) (.cons (t := 26) (Has.t rfl) .nil))))))))))))))))) ?_)
        · show C - (j + 1) < C - j; omega
        · exact isI_eq (by omega)
        · exact isU_eq (mul_step _ _ _ _)
        · rfl
      · have hc3 := BP.f hc3
        skip
        refine Tri.exit ?_
        refine At.the ?_
        refine At.the ?_
        refine At.blh ?_
        refine At.thn (hK15 _ _ ?_); clear hK15
        refine Tri.region ?_
        refine st (OK1.fieldAddr (Has.t rfl) fld24_2 ty22) rfl ?_
        refine st (OK1.load1 (Has.t rfl) (i := 1) rfl ty22 rfl) rfl ?_
        refine st (OK1.eq (OK1.mv (Has.t rfl)) ((show isU _ = isU (G i k) from isU_eq (by rw [hG, show j = C by omega])))) rfl ?_
        refine st (OK1.buildS [isU 0] sl22 ty27 zero27 (fun _ _ => ⟨⟨rfl, by decide⟩, trivial⟩) rfl rfl (.cons (Has.t rfl) rfl rfl rfl .nil) rfl (S := SlM isU [G i k]) rfl) rfl ?_
        refine Ops.appendG (f := isU) (u := 0) sl22 ty27 zero27 (fun _ _ => ⟨⟨rfl, by decide⟩, trivial⟩) (fun _ => inferInstance) by27 (Has.t rfl) (i := 0) rfl (Has.t rfl) (by have hpl := place_lt (show i < R by omega) (show k < D by omega); rw [tabU_len]; show i * D + k + 1 ≤ _; omega) (by simp) rfl fun gr1 => ?_
        refine Ops.memEq (M' := [grM _ _ _, _, _, _, _]) rfl ?_
        refine st (OK1.fieldAddr (Has.t rfl) fld24_2 ty22) rfl ?_
        refine Ops.store (Has.t rfl) (Has.t rfl) (i := 1) rfl ty22 rfl rfl (Ss' := [_, _, _]) rfl (M' := [_, (some _, cellM [_, _, _]), _, _, _]) rfl ?_
        refine nl ?_
        refine At.bln ?_
        refine At.thn (hK13 _ _ ?_); clear hK13
        refine Tri.region ?_
        refine st (OK1.mv (Has.t rfl)) rfl ?_
        refine st (OK1.addI (Has.t rfl) (Has.cI 1 rfl) (by first | omega | assumption) (by first | omega | assumption)) rfl ?_
        refine st (OK1.as (Has.t rfl)) rfl ?_
        refine nl ?_
        refine At.thn ?_
        have hpl := place_lt (show i < R by omega) (show k < D by omega)
        refine hK10 (⟨(k + 1, gr1), by show k + 1 ≤ D; omega⟩) _ _ ?_ (Cv.mem (.cons (t := 9) (Has.t' rfl ?_) (.cons (t := 2) (Has.t rfl) (.cons (t := 3) (Has.t rfl) (.cons (t := 4) (Has.t rfl) (.cons (t := 6) (Has.t rfl) (.cons (t := 7) (Has.t rfl) (.cons (t := 8) (Has.t rfl) (.cons (t := 17) (Has.t rfl) (.cons (t := 18) (Has.t rfl) (.cons (t := 19) (Has.t rfl) (.cons (t := 20) (Has.t rfl) .nil))))))))))) ?_)
        · show D - (k + 1) < D - k; omega
        · exact isI_eq (by omega)
        · exact grFu_eq (by rw [← tabU_succ G (show k < D by omega), List.length_append]) (by rw [← tabU_succ G (show k < D by omega)])
    · have hc2 := BP.f hc2
      refine Tri.exit ?_
      refine At.the ?_
      refine At.the ?_
      refine At.blh ?_
      refine At.bln ?_
      refine At.thn (hK8 _ _ ?_); clear hK8
      refine Tri.region ?_
      refine st (OK1.mv (Has.t rfl)) rfl ?_
      refine st (OK1.addI (Has.t rfl) (Has.cI 1 rfl) (by first | omega | assumption) (by first | omega | assumption)) rfl ?_
      refine st (OK1.as (Has.t rfl)) rfl ?_
      refine nl ?_
      refine At.thn ?_
      have hkD : k = D := by omega
      subst hkD
      refine hK5 (⟨(i + 1, g2), by show i + 1 ≤ R; omega⟩) _ _ ?_ (Cv.mem (.cons (t := 8) (Has.t' rfl ?_) (.cons (t := 2) (Has.t rfl) (.cons (t := 3) (Has.t rfl) (.cons (t := 4) (Has.t rfl) (.cons (t := 6) (Has.t rfl) (.cons (t := 7) (Has.t rfl) .nil)))))) ?_)
      · show R - (i + 1) < R - i; omega
      · exact isI_eq (by omega)
      · exact grFu_eq (by rw [tabU_next]) (by rw [tabU_next])
  · have hc1 := BP.f hc1
    refine Tri.exit ?_
    refine At.the ?_
    refine At.the ?_
    refine At.blh ?_
    refine At.thn (hK3 _ _ ?_); clear hK3
    refine Tri.cv (Cv.wk (.cons (t := 6) (Has.t rfl) (.cons (t := 7) (Has.t rfl) .nil))) ?_
    refine Tri.seq fun K21 hK21 => ?_
    refine Tri.cv (Cv.freezeF (k := 1) (i := 0) (j := 0) (o := 2) rfl rfl rfl rfl gr_lenM gr_takeM (Ss' := [_, _, SlM isU (tabU (i * D + 0) D G)]) rfl) ?_
    refine Tri.memEq (M' := [(some _, cellM [_, _, SlM isU (tabU (i * D + 0) D G)]), _, _, _]) rfl ?_
    refine Tri.cv (Cv.wk (.cons (t := 6) (Has.t rfl) (.cons (t := 7) (Has.t rfl) .nil))) ?_
    refine Tri.region ?_
    refine st (OK1.load (Has.t rfl) (i := 0) rfl ty24 rfl (Ss' := [_, _, _]) rfl) rfl ?_
    refine Ops.store (Has.t rfl) (Has.t rfl) (i := 1) rfl ty24 rfl rfl (Ss' := [_, _, _]) rfl (M' := [_, (some _, cellM [_, _, _]), _, _]) rfl ?_
    refine nl ?_
    refine At.thn (hK21 _ _ ?_); clear hK21
    refine Tri.ret ?_
    refine rt1 (.inl rfl) Try.results24 rfl (.cell rfl (i := 1) rfl ty24 rfl ?_ .nil)
    all_goals (rw [Nat.add_zero, show i = R by omega])
set_option maxHeartbeats 4000000 in
theorem ref13_In {l : List Nat} {x : Nat} : Ctr Try.prog 30 [SlM isI (pv l), isI (x : Int)] (isB (decide (x ∈ l))) := by
  refine Ctr.intro Try.func30 rfl (by kernel_rfl) Try.ntmps30 rfl fun w0 F0 => ?_
  refine Tri.cv (Cv.wk (.cons (t := 0) (Has.t rfl) (.cons (t := 1) (Has.t rfl) .nil))) ?_
  refine Tri.fact (Has.lenLt (Has.t (t := 0) rfl)) fun lt0 => ?_
  refine Tri.fact (Has.rngI (Has.t (t := 1) rfl)) fun lt1 => ?_
  have hpv := pv_len l
  refine Tri.seq fun K1 hK1 => ?_
  refine Tri.region ?_
  refine st (OK1.as (Has.cB false)) rfl ?_
  refine nl ?_
  refine At.thn (hK1 _ _ ?_); clear hK1
  refine Tri.seq fun K2 hK2 => ?_
  refine Tri.seq fun K3 hK3 => ?_
  refine Tri.region ?_
  refine st (OK1.as (Has.cI 0 rfl)) rfl ?_
  refine nl ?_
  refine At.thn (hK3 _ _ ?_); clear hK3
  refine Tri.block ?_
  refine Tri.loopF [0, 1] (fun (z : { i : Nat // i ≤ l.length ∧ ∀ j, j < i → l.getD j 0 ≠ x }) => match z with | ⟨i, hI⟩ => [(5, isI (i : Int))]) (fun M => fun (z : { i : Nat // i ≤ l.length ∧ ∀ j, j < i → l.getD j 0 ≠ x }) => match z with | ⟨i, hI⟩ => M) (fun (z : { i : Nat // i ≤ l.length ∧ ∀ j, j < i → l.getD j 0 ≠ x }) => match z with | ⟨i, hI⟩ => l.length - i) (⟨0, Nat.zero_le _, fun j hj => absurd hj (Nat.not_lt_zero _)⟩) (Cv.mem (.cons (t := 5) (Has.t' rfl ?_) (.cons (t := 0) (Has.t rfl) (.cons (t := 1) (Has.t rfl) .nil))) ?_) ?_
  · rfl
  · rfl
  rintro ⟨i, hi, hq⟩ K4 hK4
  refine Tri.cv (Cv.wk (.cons (t := 5) (Has.t rfl) (.cons (t := 0) (Has.t rfl) (.cons (t := 1) (Has.t rfl) .nil)))) ?_
  refine Tri.seq fun K5 hK5 => ?_
  refine Tri.seq fun K6 hK6 => ?_
  refine Tri.region ?_
  refine st (OK1.mv (Has.t rfl)) rfl ?_
  refine st (OK1.mv (Has.t rfl)) rfl ?_
  refine st (OK1.len sl32 (Has.t rfl)) rfl ?_
  refine st (OK1.ltI (Has.t rfl) (Has.t rfl)) rfl ?_
  refine nl ?_
  refine At.thn (hK6 _ _ ?_); clear hK6
  refine Tri.cond (Has.t rfl) (fun hc1 => ?_) (fun hc1 => ?_)
  · have hc1 := BP.t hc1
    refine Tri.skip ?_
    refine At.thn (hK5 _ _ ?_); clear hK5
    refine Tri.seq fun K7 hK7 => ?_
    refine Tri.block ?_
    refine Tri.seq fun K8 hK8 => ?_
    refine Tri.region ?_
    refine st (OK1.mv (Has.t rfl)) rfl ?_
    refine st (OK1.mv (Has.t rfl)) rfl ?_
    refine st (OK1.ixP sl32 ty3 (Has.t rfl) (Has.t rfl) ⟨by omega, by omega⟩ (pv_at l i (by omega))) rfl ?_
    refine st (OK1.loadP1 (Has.t rfl) ty3) rfl ?_
    refine st (OK1.mv (Has.t rfl)) rfl ?_
    refine st (OK1.eqI (Has.t rfl) (Has.t rfl)) rfl ?_
    refine nl ?_
    refine At.thn (hK8 _ _ ?_); clear hK8
    refine Tri.cond (Has.t rfl) (fun hc2 => ?_) (fun hc2 => ?_)
    · have hc2 := BP.t hc2
      have HQ := hc2
      refine Tri.seq fun K9 hK9 => ?_
      refine Tri.region ?_
      refine st (OK1.as (Has.cB true)) rfl ?_
      refine nl ?_
      refine At.thn (hK9 _ _ ?_); clear hK9
      refine Tri.ret ?_
      refine At.blr ?_
      refine At.thr ?_
      refine At.thr ?_
      refine At.blr ?_
      refine At.thr ?_
      refine rt1 (.inl rfl) Try.results30 rfl (.tmp (Has.t' rfl ?_) .nil)
      all_goals (exact isB_eq (decide_eq_true (by have := Go.Dt.getD_mem (l := l) (j := i) (by omega); rwa [show l.getD i 0 = x by omega] at this)).symm)
    · have hc2 := BP.f hc2
      have HQ := hc2
      refine Tri.skip ?_
      refine At.bln ?_
      refine At.thn (hK7 _ _ ?_); clear hK7
      refine Tri.region ?_
      refine st (OK1.mv (Has.t rfl)) rfl ?_
      refine st (OK1.addI (Has.t rfl) (Has.cI 1 rfl) (by first | omega | assumption) (by first | omega | assumption)) rfl ?_
      refine st (OK1.as (Has.t rfl)) rfl ?_
      refine nl ?_
      refine At.thn ?_
      refine hK4 (⟨i + 1, by omega, fun j hj => by rcases Nat.lt_or_ge j i with h | h; exact hq j h; obtain rfl : j = i := (by omega); omega⟩) _ _ ?_ (Cv.mem (.cons (t := 5) (Has.t' rfl ?_) (.cons (t := 0) (Has.t rfl) (.cons (t := 1) (Has.t rfl) .nil))) ?_)
      · show l.length - (i + 1) < l.length - i; omega
      · exact isI_eq (by omega)
      · rfl
  · have hc1 := BP.f hc1
    refine Tri.exit ?_
    refine At.the ?_
    refine At.the ?_
    refine At.blh ?_
    refine At.thn (hK2 _ _ ?_); clear hK2
    refine Tri.cv (Cv.wk .nil) ?_
    refine Tri.seq fun K10 hK10 => ?_
    refine Tri.region ?_
    refine st (OK1.as (Has.cB false)) rfl ?_
    refine nl ?_
    refine At.thn (hK10 _ _ ?_); clear hK10
    refine Tri.ret ?_
    refine rt1 (.inl rfl) Try.results30 rfl (.tmp (Has.t' rfl ?_) .nil)
    all_goals (exact isB_eq (decide_eq_false fun h => by obtain ⟨j, hj, h2⟩ := Go.Dt.mem_getD h; exact hq j (by omega) h2).symm)
end Go.Proofs.Ytfoclelageohiaa
/- The laws of layer 21 as plain facts: reduced forms, inverses. No program here. -/
namespace Go.Fe
open Go.Gf Go.Mu Go.Dt Go.Mz
theorem dotN_sm (f g : Nat → Nat) : ∀ n : Nat, ((dotN f g n : Nat) : Int) = sm n fun i => (f i : Int) * (g i : Int)
  | 0 => rfl
  | n + 1 => by
    show ((dotN f g n + f n * g n : Nat) : Int) = sm n _ + _
    rw [Int.natCast_add, Int.natCast_mul, dotN_sm f g n]
theorem tabP {p N C : Nat} {g : Nat → Nat → Nat} (hp : 0 < p) {j : Nat} (hj : j < (tabU N C fun i k => g i k % p).length) : (tabU N C fun i k => g i k % p).getD j 0 < p := by
  rw [tabU_len] at hj
  rw [tabU_at _ hj]; exact Nat.mod_lt _ hp
section
variable {p R C : Nat} {xs : List Nat}
/-- the reduced form -/
def redL (p R C : Nat) (xs : List Nat) : List Nat := tabU (R * C) C fun i k => ent (redS p R C 0 xs []) i k % p
end
/-! ### inverses -/
end Go.Fe
/- The laws of layer 21 as plain facts: kernels, equations. No program here. -/
namespace Go.Fe
open Go.Gf Go.Mu Go.Dt Go.Mz
theorem pw_len (ps : List Nat) : (pw ps).length = ps.length := List.length_map _
theorem pw_getD {ps : List Nat} {j : Nat} (h : j < ps.length) : (pw ps).getD j 0 = ((ps.getD j 0 : Nat) : Int) := by
  unfold pw
  rw [List.getD, List.getElem?_map, List.getD, List.getElem?_eq_getElem h]; rfl
/-- where a column stands -/
theorem idxP_at {ps : List Nat} {i : Nat} (h : idxP ps i < ps.length) : ps.getD (idxP ps i) 0 = i := by
  have := ixn_yes (q := fun x => decide ((i : Int) = x)) (d := 0) (xs := pw ps) (by rw [pw_len]; exact h)
  have h2 := of_decide_eq_true this
  rw [show ixn (fun x => decide ((i : Int) = x)) (pw ps) = idxP ps i from rfl, pw_getD h] at h2
  omega
theorem idxP_mem {ps : List Nat} {i : Nat} : idxP ps i < ps.length ↔ i ∈ ps := by
  constructor
  · intro h
    rw [← idxP_at h]; exact getD_mem h
  · intro h
    obtain ⟨j, hj, e⟩ := mem_getD h
    refine Classical.byContradiction fun h2 => ?_
    have := ixn_before (q := fun x => decide ((i : Int) = x)) (d := 0) (xs := pw ps) (j := j) (by show j < idxP ps i; omega)
    rw [pw_getD hj, e] at this
    simp at this
section
variable {p R W C : Nat} {A : MatF} {s : FS}
theorem FI.idx (h : FI p R W A s C) {r : Nat} (hr : r < s.ps.length) : idxP s.ps (s.ps.getD r 0) = r := by
  have hi : idxP s.ps (s.ps.getD r 0) < s.ps.length := idxP_mem.2 (getD_mem hr)
  have h1 := idxP_at hi
  rcases Nat.lt_trichotomy (idxP s.ps (s.ps.getD r 0)) r with h2 | h2 | h2
  · have := h.pup _ _ h2 hr; omega
  · exact h2
  · have := h.pup _ _ h2 hi; omega
end
theorem filter_two {α : Type} (q : α → Bool) : ∀ l : List α, (l.filter q).length + (l.filter fun x => !q x).length = l.length
  | [] => rfl
  | x :: l => by
    have := filter_two q l
    cases h : q x with
    | true => rw [List.filter_cons_of_pos h, List.filter_cons_of_neg (by simp [h])]; simp only [List.length_cons]; omega
    | false => rw [List.filter_cons_of_neg (by simp [h]), List.filter_cons_of_pos (by simp [h])]; simp only [List.length_cons]; omega
theorem FI.free_len {p R W C : Nat} {A : MatF} {s : FS} (h : FI p R W A s C) : (freeL s.ps C).length = C - s.ps.length := by
  have h1 := filter_two (fun k => decide (¬ idxP s.ps k < s.ps.length)) (List.range C)
  have h2 : ((List.range C).filter fun k => !decide (¬ idxP s.ps k < s.ps.length)) = s.ps := by
    refine sorted_ext (List.Pairwise.filter _ List.pairwise_lt_range) h.sorted fun x => ?_
    rw [List.mem_filter, List.mem_range]
    constructor
    · rintro ⟨_, h3⟩
      exact idxP_mem.1 (by simpa using h3)
    · intro hx
      obtain ⟨j, hj, e⟩ := mem_getD hx
      exact ⟨e ▸ h.plt j hj, by have := idxP_mem.2 hx; simpa using this⟩
  rw [h2, List.length_range] at h1
  show ((List.range C).filter _).length = _
  omega
theorem free_not {ps : List Nat} {c k : Nat} (h : k < (freeL ps c).length) : (freeL ps c).getD k 0 ∉ ps := by
  rw [List.getD, List.getElem?_eq_getElem h]
  have hm := (List.mem_filter.1 (List.getElem_mem h)).2
  intro hx
  exact (of_decide_eq_true hm) (idxP_mem.2 hx)
theorem free_inj {ps : List Nat} {c i k : Nat} (hi : i < (freeL ps c).length) (hk : k < (freeL ps c).length) (e : (freeL ps c).getD i 0 = (freeL ps c).getD k 0) : i = k := by
  have hs : (freeL ps c).Pairwise (· < ·) := List.Pairwise.filter _ List.pairwise_lt_range
  rw [List.pairwise_iff_getElem] at hs
  rw [List.getD, List.getElem?_eq_getElem hi, List.getD, List.getElem?_eq_getElem hk] at e
  have e2 : (freeL ps c)[i] = (freeL ps c)[k] := e
  rcases Nat.lt_trichotomy i k with h | h | h
  · have := hs i k hi hk h; omega
  · exact h
  · have := hs k i hk hi h; omega
/-- the kernel -/
def kerL (p R C : Nat) (xs : List Nat) : List Nat := tabU (C * (freeL (redS p R C 0 xs []).ps C).length) (freeL (redS p R C 0 xs []).ps C).length fun i k => kerE p (redS p R C 0 xs []) (freeL (redS p R C 0 xs []).ps C) i k % p
theorem sm_pair {f : Nat → Int} {n a b : Nat} (ha : a < n) (hb : b < n) (hab : a ≠ b) (h : ∀ i, i < n → i ≠ a → i ≠ b → f i = 0) : sm n f = f a + f b := by
  have e : sm n f = sm n fun i => (if i = a then 1 else 0) * f i + (if i = b then 1 else 0) * f i := sm_congr fun i hi => by
    by_cases h1 : i = a
    · rw [if_pos h1, if_neg (by omega)]; omega
    · by_cases h2 : i = b
      · rw [if_neg h1, if_pos h2]; omega
      · rw [if_neg h1, if_neg h2, h i hi h1 h2]; rfl
  rw [e, sm_add, sm_pick f ha, sm_pick f hb]
theorem sm_pair_cg {p : Nat} {f : Nat → Int} {n a b : Nat} (ha : a < n) (hb : b < n) (hab : a ≠ b) (h : ∀ i, i < n → i ≠ a → i ≠ b → Cg p (f i) 0) : Cg p (sm n f) (f a + f b) := by
  have h1 : Cg p (sm n f) (sm n fun i => if i = a then f i else if i = b then f i else 0) := sm_cg fun i hi => by
    by_cases e1 : i = a
    · rw [if_pos e1]; exact cg_refl _ _
    · rw [if_neg e1]
      by_cases e2 : i = b
      · rw [if_pos e2]; exact cg_refl _ _
      · rw [if_neg e2]; exact h i hi e1 e2
  rw [sm_pair ha hb hab (f := fun i => if i = a then f i else if i = b then f i else 0) (fun i _ e1 e2 => by simp [e1, e2])] at h1
  simpa [Ne.symm hab] using h1
theorem ker_prod {p R C : Nat} {xs : List Nat} (hp : Prime p) : ∀ j, j < (tabU (R * (freeL (redS p R C 0 xs []).ps C).length) (freeL (redS p R C 0 xs []).ps C).length fun i k => dotN (fun j => xs.getD (i * C + j) 0) (fun j => (kerL p R C xs).getD (j * (freeL (redS p R C 0 xs []).ps C).length + k) 0) C % p).length →
    (tabU (R * (freeL (redS p R C 0 xs []).ps C).length) (freeL (redS p R C 0 xs []).ps C).length fun i k => dotN (fun j => xs.getD (i * C + j) 0) (fun j => (kerL p R C xs).getD (j * (freeL (redS p R C 0 xs []).ps C).length + k) 0) C % p).getD j 0 % p = 0 := fun j hj => by
  have hF := redS_FI (R := R) (C := C) (D := 0) hp xs []
  have hp2 := hp.1
  obtain ⟨s, hs⟩ : ∃ s, s = redS p R C 0 xs [] := ⟨_, rfl⟩
  obtain ⟨L, hL⟩ : ∃ L, L = kerL p R C xs := ⟨_, rfl⟩
  have hL2 : L = tabU (C * (freeL s.ps C).length) (freeL s.ps C).length fun i k => kerE p s (freeL s.ps C) i k % p := by rw [hL, hs]; rfl
  rw [← hs] at hF hj ⊢
  rw [← hL] at hj ⊢
  obtain ⟨F, hFl⟩ : ∃ F, F = (freeL s.ps C).length := ⟨_, rfl⟩
  rw [← hFl] at hj hL2 ⊢
  rw [tabU_len] at hj
  rw [tabU_at _ hj, Nat.mod_mod]
  have hF0 : 0 < F := by rcases Nat.eq_zero_or_pos F with e | e; rw [e, Nat.mul_zero] at hj; omega; exact e
  have hi : j / F < R := (Nat.div_lt_iff_lt_mul hF0).2 hj
  have hk : j % F < F := Nat.mod_lt _ hF0
  generalize j / F = i at hi ⊢
  generalize j % F = k at hk ⊢
  obtain ⟨f0, hf0⟩ : ∃ f0, f0 = (freeL s.ps C).getD k 0 := ⟨_, rfl⟩
  have hf0C : f0 < C := by rw [hf0]; exact freeL_lt (by omega)
  have hf0n : f0 ∉ s.ps := by rw [hf0]; exact free_not (by omega)
  have hK : ∀ t, t < C → Cg p ((L.getD (t * F + k) 0 : Nat) : Int) (if idxP s.ps t < s.ps.length then -(Mx s (idxP s.ps t) f0) else if t = f0 then 1 else 0) := fun t ht => by
    rw [hL2, tabU_place _ hk (place_lt ht hk)]
    refine cg_trans (cg_mod _ _) ?_
    unfold kerE
    rw [← hf0]
    by_cases h : idxP s.ps t < s.ps.length
    · rw [if_pos h, if_pos h]
      refine cg_trans (cg_mod _ _) ?_
      have h1 := hF.nrm (idxP s.ps t) f0 (by have := hF.ple; omega) (by omega)
      rw [Nat.mod_eq_of_lt h1]
      show Cg p _ (-((ent s (idxP s.ps t) f0 : Nat) : Int))
      exact ⟨1, by omega⟩
    · rw [if_neg h, if_neg h]
      split <;> exact cg_refl _ _
  have h0 : Cg p ((dotN (fun j => xs.getD (i * C + j) 0) (fun j => L.getD (j * F + k) 0) C : Nat) : Int) 0 := by
    rw [dotN_sm]
    obtain ⟨c, _, _, h3⟩ := hF.read hp2 (by omega) (Sp.row (mw2 C 0 xs []) hi)
    have h4 : Cg p (sm C fun j => ((xs.getD (i * C + j) 0 : Nat) : Int) * ((L.getD (j * F + k) 0 : Nat) : Int)) (sm C fun t => (sm s.ps.length fun r => mw2 C 0 xs [] i (s.ps.getD r 0) * Mx s r t) * (if idxP s.ps t < s.ps.length then -(Mx s (idxP s.ps t) f0) else if t = f0 then 1 else 0)) := sm_cg fun t ht => by
      refine cg_mul ?_ (hK t ht)
      have := h3 t ht
      rw [mw2_left ht] at this
      exact this
    refine cg_trans h4 ?_
    have e : (sm C fun t => (sm s.ps.length fun r => mw2 C 0 xs [] i (s.ps.getD r 0) * Mx s r t) * (if idxP s.ps t < s.ps.length then -(Mx s (idxP s.ps t) f0) else if t = f0 then 1 else 0)) = sm s.ps.length fun r => mw2 C 0 xs [] i (s.ps.getD r 0) * sm C fun t => Mx s r t * (if idxP s.ps t < s.ps.length then -(Mx s (idxP s.ps t) f0) else if t = f0 then 1 else 0) := by
      have e1 : ∀ r, mw2 C 0 xs [] i (s.ps.getD r 0) * (sm C fun t => Mx s r t * (if idxP s.ps t < s.ps.length then -(Mx s (idxP s.ps t) f0) else if t = f0 then 1 else 0)) = sm C fun t => mw2 C 0 xs [] i (s.ps.getD r 0) * (Mx s r t * (if idxP s.ps t < s.ps.length then -(Mx s (idxP s.ps t) f0) else if t = f0 then 1 else 0)) := fun r => (sm_smul _ _ _).symm
      simp only [e1]
      rw [← sm_swap]
      refine sm_congr fun t _ => ?_
      rw [Int.mul_comm, ← sm_smul]
      exact sm_congr fun r _ => by grind
    rw [e]
    refine cg_trans (sm_cg (g := fun _ => 0) fun r hr => ?_) (cg_of (sm_zero fun _ _ => rfl))
    have hrC := hF.plt r hr
    have hne : s.ps.getD r 0 ≠ f0 := fun e => hf0n (e ▸ getD_mem hr)
    have hrR : r < R := Nat.lt_of_lt_of_le hr hF.ple
    have h5 := sm_pair_cg (p := p) (f := fun t => Mx s r t * (if idxP s.ps t < s.ps.length then -(Mx s (idxP s.ps t) f0) else if t = f0 then 1 else 0)) hrC hf0C hne (fun t ht h1 h2 => by
      show Cg p ((ent s r t : Int) * _) 0
      by_cases h : idxP s.ps t < s.ps.length
      · have h6 := hF.unit (idxP s.ps t) r h hrR
        rw [idxP_at h, if_neg (fun e => h1 (by rw [e, idxP_at h]))] at h6
        rw [h6]; exact cg_of (Int.zero_mul _)
      · rw [if_neg h, if_neg h2]; exact cg_of (Int.mul_zero _))
    have h6 : Mx s r (s.ps.getD r 0) = 1 := by
      show (ent s r _ : Int) = 1
      rw [hF.unit r r hr hrR, if_pos rfl, Nat.mod_eq_of_lt (by omega)]; rfl
    have h7 : ¬ idxP s.ps f0 < s.ps.length := fun h => hf0n (idxP_mem.1 h)
    simp only [hF.idx hr, if_pos hr, if_neg h7, if_true, h6] at h5
    have h8 : (1 : Int) * -(Mx s r f0) + Mx s r f0 * 1 = 0 := by omega
    rw [h8] at h5
    have := cg_mul (cg_refl p (mw2 C 0 xs [] i (s.ps.getD r 0))) h5
    rwa [Int.mul_zero] at this
  have := cg_nat.1 (show Cg p _ ((0 : Nat) : Int) from h0)
  rwa [Nat.zero_mod] at this
/-- the rows of the kernel that are no pivots' -/
def krf (p R C : Nat) (xs : List Nat) (F : Nat) : Nat → Nat → Nat := fun r k => (kerL p R C xs).getD ((freeL (redS p R C 0 xs []).ps C).getD r 0 * F + k) 0
theorem krf_at {p R C : Nat} {xs : List Nat} {r k : Nat} (hr : r < (freeL (redS p R C 0 xs []).ps C).length) (hk : k < (freeL (redS p R C 0 xs []).ps C).length) : krf p R C xs (freeL (redS p R C 0 xs []).ps C).length r k % p = if r = k then 1 % p else 0 := by
  unfold krf kerL
  rw [tabU_place _ hk (place_lt (freeL_lt hr) hk), Nat.mod_mod]
  unfold kerE
  rw [if_neg (fun h => free_not hr (idxP_mem.1 h))]
  by_cases e : r = k
  · rw [if_pos (by rw [e]), if_pos e]
  · rw [if_neg (fun h => e (free_inj hr hk h)), if_neg e, Nat.zero_mod]
theorem free_prefix (ps : List Nat) (c : Nat) : ∀ d : Nat, ∃ l, freeL ps (c + d) = freeL ps c ++ l
  | 0 => ⟨[], (List.append_nil _).symm⟩
  | d + 1 => by
    obtain ⟨l, h⟩ := free_prefix ps c d
    refine ⟨l ++ if idxP ps (c + d) < ps.length then [] else [c + d], ?_⟩
    rw [← Nat.add_assoc, freeL_succ, h, List.append_assoc]
/-- the columns without a pivot, one by one -/
theorem free_at {ps : List Nat} {C i : Nat} (hi : i < C) (h : i ∉ ps) : (freeL ps C).getD (freeL ps i).length 0 = i ∧ (freeL ps i).length < (freeL ps C).length ∧ (freeL ps (i + 1)).length = (freeL ps i).length + 1 := by
  have h1 : freeL ps (i + 1) = freeL ps i ++ [i] := by rw [freeL_succ, if_neg (fun e => h (idxP_mem.1 e))]
  obtain ⟨l, h2⟩ := free_prefix ps (i + 1) (C - (i + 1))
  rw [show i + 1 + (C - (i + 1)) = C by omega, h1] at h2
  refine ⟨?_, ?_, ?_⟩
  · rw [h2, List.append_assoc, List.getD, List.getElem?_append_right (Nat.le_refl _), Nat.sub_self]; rfl
  · rw [h2, List.length_append, List.length_append, List.length_singleton]; omega
  · rw [h1, List.length_append, List.length_singleton]
theorem free_same {ps : List Nat} {i : Nat} (h : i ∈ ps) : freeL ps (i + 1) = freeL ps i := by rw [freeL_succ, if_pos (idxP_mem.2 h), List.append_nil]
/-- a row of a matrix -/
def rowL (F : Nat) (M : List Nat) (i : Nat) : List Nat := (List.range F).map fun k => M.getD (i * F + k) 0
theorem rowL_eq {F i n : Nat} {M : List Nat} (hl : M.length = n * F) (hi : i < n) : (M.take ((i + 1) * F)).drop (i * F) = rowL F M i := by
  have h1 : (i + 1) * F ≤ n * F := Nat.mul_le_mul_right _ hi
  rw [Nat.succ_mul] at h1
  refine List.ext_getElem? fun k => ?_
  rw [List.getElem?_drop, Nat.succ_mul]
  unfold rowL
  rw [List.getElem?_map]
  by_cases hk : k < F
  · rw [List.getElem?_take_of_lt (by omega), List.getElem?_range hk, List.getElem?_eq_getElem (by omega)]
    show _ = some (M.getD (i * F + k) 0)
    rw [List.getD, List.getElem?_eq_getElem (by omega)]; rfl
  · rw [List.getElem?_take_eq_none (by omega), List.getElem?_eq_none (by rw [List.length_range]; omega)]; rfl
theorem rowL_len (F : Nat) (M : List Nat) (i : Nat) : (rowL F M i).length = F := by unfold rowL; rw [List.length_map, List.length_range]
theorem tabU_row {F t : Nat} {G : Nat → Nat → Nat} {row : List Nat} (hr : row = (List.range F).map fun k => G t k) : tabU (t * F) F G ++ row = tabU ((t + 1) * F) F G := by
  subst hr
  have key : ∀ m, m ≤ F → tabU (t * F) F G ++ (List.range m).map (fun k => G t k) = tabU (t * F + m) F G := by
    intro m
    induction m with
    | zero => intro _; rw [List.range_zero, List.map_nil, List.append_nil]; rfl
    | succ m ih =>
      intro hm
      rw [List.range_succ, List.map_append, ← List.append_assoc, ih (by omega)]
      exact tabU_succ G (by omega)
  have := key F (Nat.le_refl _)
  rw [this, Nat.succ_mul]
end Go.Fe
/- A law of layer 21: kernels, as a contract. -/
namespace Go.Proofs.Ytfoclelageohiaa
open Go.En Go.RowKit
set_option linter.unusedVariables false
set_option maxRecDepth 10000
open Go.Gf
open Go.Mz
open Go.Mu
open Go.Fe
theorem frM_eq {g : Gr Nat} {ys ys' : List Nat} {n b : Nat} {c c' : Int} {B : VP} {r : Mem} (hc : c = c') (hn : n = ys'.length) (h : ys = ys') : (grM isU g ys :: (some b, cellM [isI c, B, isGr g n]) :: r : Mem) = grM isU g ys' :: (some b, cellM [isI c', B, isGr g ys'.length]) :: r := by subst h; subst hn; subst hc; rfl
set_option maxHeartbeats 4000000 in
theorem c_FmatKernels_ok (n R C : Nat) (xs : List Nat) (hR : R ≤ 64) (hC : C ≤ 64) (hl : xs.length = R * C) : Ctr Try.prog 6 [isK .u8 (n : Int), isMW R C xs] (isB true) := by
  refine Ctr.intro Try.func6 rfl (by kernel_rfl) Try.ntmps6 rfl fun w0 F0 => ?_
  refine Tri.cv (Cv.wk (.cons (t := 0) (Has.t rfl) (.cons (t := 1) (Has.t rfl) .nil))) ?_
  obtain ⟨p, hp⟩ : ∃ p, p = ptab (n % 12) := ⟨_, rfl⟩
  have hpp : Prime p := by rw [hp]; exact ptab_prime
  have hfp : fp p = p := by rw [hp]; exact ptab_fp _
  have hpl : p < 2147483648 := by rw [hp]; exact ptab_le
  have hp2 : 2 ≤ p := hpp.1
  have hp0 : 0 < p := (by omega)
  have hpq : p < 4294967296 := (by omega)
  have hfp2 : 2 ≤ fp p := by rw [hfp]; exact hp2
  have hfo := formB_true hR hC hl
  have hRC := side_le hR hC
  have hFI := redS_FI (R := R) (C := C) (D := 0) hpp xs []
  obtain ⟨s, hs⟩ : ∃ s, s = redS p R C 0 xs [] := ⟨_, rfl⟩
  obtain ⟨F, hF⟩ : ∃ F, F = (freeL s.ps C).length := ⟨_, rfl⟩
  obtain ⟨Km, hM⟩ : ∃ Km, Km = kerL p R C xs := ⟨_, rfl⟩
  obtain ⟨N, hN⟩ : ∃ N, N = redL p R C xs := ⟨_, rfl⟩
  rw [← hs] at hFI
  have hFl := hFI.free_len
  rw [← hF] at hFl
  have hFC : F ≤ C := (by omega)
  have hps := hFI.ple
  have hCF := side_le hC (show F ≤ 64 by omega)
  have hMl : Km.length = C * F := by rw [hM, hF, hs]; exact tabU_len _ _ _
  have hMp : ∀ j, j < Km.length → Km.getD j 0 < p := by rw [hM]; exact fun j hj => tabP hp0 hj
  have hfM := formB_true hC (show F ≤ 64 by omega) hMl
  have hpv := pv_len s.ps
  have hpsC : s.ps.length ≤ C := by
    rcases Nat.eq_zero_or_pos s.ps.length with h | h
    · omega
    · have h1 := hFI.up (i := 0) (s.ps.length - 1) (by omega)
      have h2 := hFI.plt (0 + (s.ps.length - 1)) (by omega)
      omega
  have hZ : ∀ j, j < (tabU (R * F) F fun i k => dotN (fun j => xs.getD (i * C + j) 0) (fun j => Km.getD (j * F + k) 0) C % p).length → (tabU (R * F) F fun i k => dotN (fun j => xs.getD (i * C + j) 0) (fun j => Km.getD (j * F + k) 0) C % p).getD j 0 % p = 0 := by rw [hM, hF, hs]; exact ker_prod hpp
  obtain ⟨G, hG⟩ : ∃ G : Nat → Nat → Nat, G = fun r k => Km.getD ((freeL s.ps C).getD r 0 * F + k) 0 := ⟨_, rfl⟩
  have hGo : ∀ i k, i < F → k < F → (tabU (F * F) F G).getD (i * F + k) 0 % p = if i = k then 1 % p else 0 := fun i k hi hk => by
    rw [tabU_place _ hk (place_lt hi hk), hG, hM, hF, hs]
    exact krf_at (by rw [← hs, ← hF]; exact hi) (by rw [← hs, ← hF]; exact hk)
  refine Tri.seq fun K1 hK1 => ?_
  refine Tri.region ?_
  refine Ops.box (Has.t rfl) rfl fun b1 => ?_
  refine st (OK1.as (Has.cB false)) rfl ?_
  refine nl ?_
  refine At.thn (hK1 _ _ ?_); clear hK1
  refine Tri.seq fun K2 hK2 => ?_
  refine Tri.seq fun K3 hK3 => ?_
  refine Tri.region ?_
  refine st (OK1.call (law21_awake) .nil) rfl ?_
  refine st (OK1.not (Has.t rfl)) rfl ?_
  refine st (OK1.mv (Has.t rfl)) rfl ?_
  refine stF rfl rfl (fun hg => have hg' := BP.t hg; OK1.load (Has.t rfl) (i := 0) rfl ty24 rfl (Ss' := [_, _, _]) rfl) rfl ?_
  refine stF rfl rfl (fun hg => have hg' := BP.t hg; OK1.call (ref21_Few) (.cons (Has.g rfl hg) (.cons (Has.cI 5 rfl) .nil))) rfl ?_
  refine stF rfl rfl (fun hg => have hg' := BP.t hg; OK1.not (Has.g rfl hg)) rfl ?_
  refine st (OK1.pickOr (Has.t rfl) (fun h => Has.g rfl (ng h))) rfl ?_
  refine nl ?_
  refine At.thn (hK3 _ _ ?_); clear hK3
  refine Tri.cv (Cv.wk (.cons (t := 0) (Has.t rfl) (.cons (t := 3) (Has.t rfl) (.cons (t := 4) (Has.t rfl) (.cons (t := 20) (Has.t rfl) .nil))))) ?_
  refine Tri.cond (Has.t rfl) (fun hc1 => ?_) (fun hc1 => ?_)
  · have hc1 := BP.t hc1
    refine Tri.seq fun K4 hK4 => ?_
    refine Tri.region ?_
    refine st (OK1.call (law21_awake) .nil) rfl ?_
    refine st (OK1.as (Has.t rfl)) rfl ?_
    refine nl ?_
    refine At.thn (hK4 _ _ ?_); clear hK4
    refine Tri.ret ?_
    refine At.thr ?_
    refine rt1 (.inl rfl) Try.results6 rfl (.tmp (Has.t' rfl ?_) .nil)
    all_goals (rfl)
  · have hc1 := BP.f hc1
    refine Tri.skip ?_
    refine At.thn (hK2 _ _ ?_); clear hK2
    refine Tri.seq fun K5 hK5 => ?_
    refine Tri.region ?_
    refine st (OK1.mv (Has.t rfl)) rfl ?_
    refine st (OK1.eq (OK1.call (law09_Of) (.cons (Has.t rfl) .nil)) ((show Flat [isU _] = Flat [isU p] from by rw [hp]))) rfl ?_
    refine st (OK1.mv (Has.t rfl)) rfl ?_
    refine st (OK1.eq (OK1.call (ref08_P) (.cons (Has.t rfl) .nil)) ((show isU _ = isU p from isU_eq hp.symm))) rfl ?_
    refine Ops.alloc [isU 0] zero29 (fun _ _ => ⟨⟨rfl, by decide⟩, trivial⟩) rfl fun b2 => ?_
    refine Ops.store (Has.t rfl) (Has.t rfl) (i := 0) rfl ty29 rfl rfl (Ss' := [_]) rfl (M' := [(some _, cellM [_]), _]) rfl ?_
    refine st (OK1.as (Has.t rfl)) rfl ?_
    refine nl ?_
    refine At.thn (hK5 _ _ ?_); clear hK5
    refine Tri.cv (Cv.wk (.cons (t := 3) (Has.t rfl) (.cons (t := 4) (Has.t rfl) (.cons (t := 5) (Has.t rfl) (.cons (t := 6) (Has.t rfl) .nil))))) ?_
    refine Tri.seq fun K6 hK6 => ?_
    refine Tri.region ?_
    refine st (OK1.load (Has.t rfl) (i := 0) rfl ty29 rfl (Ss' := [_]) rfl) rfl ?_
    refine st (OK1.load (Has.t rfl) (i := 1) rfl ty24 rfl (Ss' := [_, _, _]) rfl) rfl ?_
    refine st (OK1.eq (OK1.call (fmat_Kernel hpq hfp2 hR hC hl) (.cons (Has.t rfl) (.cons (Has.t rfl) .nil))) ((show isTup [isMW _ _ _, isI 0] = isTup [isMW C F Km, isI 0] from by rw [hfp, hM, hF, hs]; rfl))) rfl ?_
    refine st (OK1.mv (Has.t rfl)) rfl ?_
    refine st (OK1.ext (Has.t rfl) rfl) rfl ?_
    refine st (OK1.ext (Has.t rfl) rfl) rfl ?_
    refine Ops.alloc [isI 0, isI 0, nilS] zero24 (fun _ _ => ⟨⟨rfl, by decide, by decide⟩, ⟨rfl, by decide, by decide⟩, rfl, trivial⟩) rfl fun b3 => ?_
    refine Ops.store (Has.t rfl) (Has.t rfl) (i := 0) rfl ty24 rfl rfl (Ss' := [_, _, _]) rfl (M' := [(some _, cellM [_, _, _]), _, _]) rfl ?_
    refine st (OK1.as (Has.t rfl)) rfl ?_
    refine nl ?_
    refine At.thn (hK6 _ _ ?_); clear hK6
    refine Tri.cv (Cv.wk (.cons (t := 3) (Has.t rfl) (.cons (t := 4) (Has.t rfl) (.cons (t := 5) (Has.t rfl) (.cons (t := 6) (Has.t rfl) (.cons (t := 7) (Has.t rfl) (.cons (t := 8) (Has.t rfl) .nil))))))) ?_
    refine Tri.seq fun K7 hK7 => ?_
    refine Tri.seq fun K8 hK8 => ?_
    refine Tri.region ?_
    refine st (OK1.load (Has.t rfl) (i := 2) rfl ty24 rfl (Ss' := [_, _, _]) rfl) rfl ?_
    refine st (OK1.eq (OK1.call (ref21_Formed) (.cons (Has.t rfl) .nil)) ((show isB _ = isB true from isB_eq hfo))) rfl ?_
    refine st (OK1.not (Has.t rfl)) rfl ?_
    refine nl ?_
    refine At.thn (hK8 _ _ ?_); clear hK8
    refine Tri.cond (Has.t rfl) (fun hc2 => ?_) (fun hc2 => ?_)
    · have hc2 := BP.t hc2
      exfalso; simp at hc2
    · have hc2 := BP.f hc2
      refine Tri.skip ?_
      refine At.thn (hK7 _ _ ?_); clear hK7
      refine Tri.seq fun K9 hK9 => ?_
      refine Tri.region ?_
      refine st (OK1.load (Has.t rfl) (i := 1) rfl ty29 rfl (Ss' := [_]) rfl) rfl ?_
      refine st (OK1.load (Has.t rfl) (i := 2) rfl ty24 rfl (Ss' := [_, _, _]) rfl) rfl ?_
      refine st (OK1.eq (OK1.call (fmat_Reduce hpq hfp2 hR hC hl) (.cons (Has.t rfl) (.cons (Has.t rfl) .nil))) ((show isTup [isMW _ _ _, SlM isI _, isI 0] = isTup [isMW R C N, SlM isI (pv s.ps), isI 0] from by rw [hfp, hN, hs]; rfl))) rfl ?_
      refine st (OK1.mv (Has.t rfl)) rfl ?_
      refine st (OK1.ext (Has.t rfl) rfl) rfl ?_
      refine st (OK1.ext (Has.t rfl) rfl) rfl ?_
      refine st (OK1.ext (Has.t rfl) rfl) rfl ?_
      refine Ops.alloc [isI 0, isI 0, nilS] zero24 (fun _ _ => ⟨⟨rfl, by decide, by decide⟩, ⟨rfl, by decide, by decide⟩, rfl, trivial⟩) rfl fun b4 => ?_
      refine Ops.store (Has.t rfl) (Has.t rfl) (i := 0) rfl ty24 rfl rfl (Ss' := [_, _, _]) rfl (M' := [(some _, cellM [_, _, _]), _, _, _]) rfl ?_
      refine st (OK1.as (Has.t rfl)) rfl ?_
      refine st (OK1.as (Has.t rfl)) rfl ?_
      refine nl ?_
      refine At.thn (hK9 _ _ ?_); clear hK9
      refine Tri.cv (Cv.wk (.cons (t := 3) (Has.t rfl) (.cons (t := 4) (Has.t rfl) (.cons (t := 6) (Has.t rfl) (.cons (t := 7) (Has.t rfl) (.cons (t := 8) (Has.t rfl) (.cons (t := 10) (Has.t rfl) .nil))))))) ?_
      refine Tri.seq fun K10 hK10 => ?_
      refine Tri.seq fun K11 hK11 => ?_
      refine Tri.region ?_
      refine st (OK1.mv (Has.t rfl)) rfl ?_
      refine st (OK1.neI (Has.t rfl) (Has.cI 0 rfl)) rfl ?_
      refine st (OK1.mv (Has.t rfl)) rfl ?_
      refine stF rfl rfl (fun hg => have hg' := BP.t hg; OK1.load (Has.t rfl) (i := 1) rfl ty24 rfl (Ss' := [_, _, _]) rfl) rfl ?_
      refine stF rfl rfl (fun hg => have hg' := BP.t hg; OK1.mv (Has.t rfl)) rfl ?_
      refine stF rfl rfl (fun hg => have hg' := BP.t hg; OK1.call (ref21_Normal hMp (by omega) hfM) (.cons (Has.g rfl hg) (.cons (Has.g rfl hg) .nil))) rfl ?_
      refine stF rfl rfl (fun hg => have hg' := BP.t hg; OK1.not (Has.g rfl hg)) rfl ?_
      refine st (OK1.pickOr (Has.t rfl) (fun h => Has.g rfl (ng h))) rfl ?_
      refine st (OK1.mv (Has.t rfl)) rfl ?_
      refine stF rfl rfl (fun hg => have hg' := BP.t hg; OK1.fieldAddr (Has.t rfl) fld24_0 ty3) rfl ?_
      refine stF rfl rfl (fun hg => have hg' := BP.t hg; OK1.load1 (Has.g rfl hg) (i := 1) rfl ty3 rfl) rfl ?_
      refine stF rfl rfl (fun hg => have hg' := BP.t hg; OK1.fieldAddr (Has.t rfl) fld24_1 ty3) rfl ?_
      refine stF rfl rfl (fun hg => have hg' := BP.t hg; OK1.load1 (Has.g rfl hg) (i := 3) rfl ty3 rfl) rfl ?_
      refine stF rfl rfl (fun hg => have hg' := BP.t hg; OK1.neI (Has.g rfl hg) (Has.g rfl hg)) rfl ?_
      refine st (OK1.pickOr (Has.t rfl) (fun h => Has.g rfl (ng h))) rfl ?_
      refine st (OK1.mv (Has.t rfl)) rfl ?_
      refine stF rfl rfl (fun hg => have hg' := BP.t hg; OK1.fieldAddr (Has.t rfl) fld24_1 ty3) rfl ?_
      refine stF rfl rfl (fun hg => have hg' := BP.t hg; OK1.load1 (Has.g rfl hg) (i := 1) rfl ty3 rfl) rfl ?_
      refine stF rfl rfl (fun hg => have hg' := BP.t hg; OK1.fieldAddr (Has.t rfl) fld24_1 ty3) rfl ?_
      refine stF rfl rfl (fun hg => have hg' := BP.t hg; OK1.load1 (Has.g rfl hg) (i := 3) rfl ty3 rfl) rfl ?_
      refine stF rfl rfl (fun hg => have hg' := BP.t hg; OK1.mv (Has.t rfl)) rfl ?_
      refine stF rfl rfl (fun hg => have hg' := BP.t hg; OK1.len sl32 (Has.g rfl hg)) rfl ?_
      refine stF rfl rfl (fun hg => have hg' := BP.t hg; OK1.subI (Has.g rfl hg) (Has.g rfl hg) (by first | omega | assumption) (by first | omega | assumption)) rfl ?_
      refine stF rfl rfl (fun hg => have hg' := BP.t hg; OK1.neI (Has.g rfl hg) (Has.g rfl hg)) rfl ?_
      refine st (OK1.pickOr (Has.t rfl) (fun h => Has.g rfl (ng h))) rfl ?_
      refine st (OK1.mv (Has.t rfl)) rfl ?_
      refine stF rfl rfl (fun hg => have hg' := BP.t hg; OK1.load (Has.t rfl) (i := 3) rfl ty24 rfl (Ss' := [_, _, _]) rfl) rfl ?_
      refine stF rfl rfl (fun hg => have hg' := BP.t hg; OK1.load (Has.t rfl) (i := 1) rfl ty24 rfl (Ss' := [_, _, _]) rfl) rfl ?_
      refine stF rfl rfl (fun hg => have hg' := BP.t hg; OK1.mv (Has.t rfl)) rfl ?_
      refine stF rfl rfl (fun hg => have hg' := BP.t hg; OK1.call (ref21_Mul hp0 hpq hR hC (by omega) hl hMl) (.cons (Has.g rfl hg) (.cons (Has.g rfl hg) (.cons (Has.g rfl hg) .nil)))) rfl ?_
      refine stF rfl rfl (fun hg => have hg' := BP.t hg; OK1.mv (Has.t rfl)) rfl ?_
      refine stF rfl rfl (fun hg => have hg' := BP.t hg; OK1.call (ref21_Zero hp0 hZ (by rw [tabU_len]; exact side_le hR (by omega))) (.cons (Has.g rfl hg) (.cons (Has.g rfl hg) .nil))) rfl ?_
      refine stF rfl rfl (fun hg => have hg' := BP.t hg; OK1.not (Has.g rfl hg)) rfl ?_
      refine st (OK1.pickOr (Has.t rfl) (fun h => Has.g rfl (ng h))) rfl ?_
      refine nl ?_
      refine At.thn (hK11 _ _ ?_); clear hK11
      refine Tri.cv (Cv.wk (.cons (t := 3) (Has.t rfl) (.cons (t := 4) (Has.t rfl) (.cons (t := 6) (Has.t rfl) (.cons (t := 7) (Has.t rfl) (.cons (t := 10) (Has.t rfl) (.cons (t := 81) (Has.t rfl) .nil))))))) ?_
      refine Tri.cond (Has.t rfl) (fun hc3 => ?_) (fun hc3 => ?_)
      · have hc3 := BP.t hc3
        exfalso; simp at hc3; omega
      · have hc3 := BP.f hc3
        refine Tri.skip ?_
        refine At.thn (hK10 _ _ ?_); clear hK10
        refine Tri.seq fun K12 hK12 => ?_
        refine Tri.region ?_
        refine st (OK1.fieldAddr (Has.t rfl) fld24_1 ty3) rfl ?_
        refine st (OK1.load1 (Has.t rfl) (i := 1) rfl ty3 rfl) rfl ?_
        refine st (OK1.build [isI 0, isI 0, nilS] pl24 zero24 (fun _ _ => ⟨⟨rfl, by decide, by decide⟩, ⟨rfl, by decide, by decide⟩, rfl, trivial⟩) (.cons (Has.cI 0 rfl) rfl rfl rfl (.cons (Has.t rfl) rfl rfl rfl .nil)) (Z'' := [_, _, _]) rfl) rfl ?_
        refine Ops.alloc [isI 0, isI 0, nilS] zero24 (fun _ _ => ⟨⟨rfl, by decide, by decide⟩, ⟨rfl, by decide, by decide⟩, rfl, trivial⟩) rfl fun b5 => ?_
        refine Ops.store (Has.t rfl) (Has.t rfl) (i := 0) rfl ty24 rfl rfl (Ss' := [_, _, _]) rfl (M' := [(some _, cellM [_, _, _]), _, _, _, _]) rfl ?_
        refine nl ?_
        refine At.thn (hK12 _ _ ?_); clear hK12
        refine Tri.seq fun K13 hK13 => ?_
        refine Tri.seq fun K14 hK14 => ?_
        refine Tri.cv (Cv.growF (Nat) (i := 0) (o := 2) rfl rfl rfl) ?_
        refine Tri.memEq (M' := [grM isU Gr.nil [], _, _, _, _, _]) rfl ?_
        refine Tri.region ?_
        refine st (OK1.as (Has.cI 0 rfl)) rfl ?_
        refine nl ?_
        refine At.thn (hK14 _ _ ?_); clear hK14
        refine Tri.block ?_
        refine Tri.loopF [3, 4, 6, 7, 10, 12] (fun (z : { z : Nat × Gr Nat // z.1 ≤ C }) => match z with | ⟨(i, g), hI⟩ => [(13, isI (i : Int))]) (fun M => fun (z : { z : Nat × Gr Nat // z.1 ≤ C }) => match z with | ⟨(i, g), hI⟩ => [grM isU g (tabU ((freeL s.ps i).length * F) F G), (some b5, cellM [isI ((freeL s.ps i).length : Int), isI (F : Int), isGr g (tabU ((freeL s.ps i).length * F) F G).length]), (some b4, cellM [isI (R : Int), isI (C : Int), SlM isU N]), (some b3, cellM [isI (C : Int), isI (F : Int), SlM isU Km]), (some b2, cellM [isU p]), (some b1, cellM [isI (R : Int), isI (C : Int), SlM isU xs])]) (fun (z : { z : Nat × Gr Nat // z.1 ≤ C }) => match z with | ⟨(i, g), hI⟩ => C - i) (⟨(0, Gr.nil), Nat.zero_le _⟩) (Cv.mem (.cons (t := 13) (Has.t' rfl ?_) (.cons (t := 3) (Has.t rfl) (.cons (t := 4) (Has.t rfl) (.cons (t := 6) (Has.t rfl) (.cons (t := 7) (Has.t rfl) (.cons (t := 10) (Has.t rfl) (.cons (t := 12) (Has.t rfl) .nil))))))) ?_) ?_
        · rfl
        · exact frM_eq (n := 0) (ys := []) (ys' := tabU ((freeL s.ps 0).length * F) F G) (c := 0) (c' := 0) rfl (by rw [show (freeL s.ps 0).length = 0 from rfl, tabU_len, Nat.zero_mul]) (by rw [show (freeL s.ps 0).length = 0 from rfl, Nat.zero_mul]; rfl)
        rintro ⟨⟨i, g⟩, hI⟩ K15 hK15
        refine Tri.cv (Cv.wk (.cons (t := 13) (Has.t rfl) (.cons (t := 3) (Has.t rfl) (.cons (t := 4) (Has.t rfl) (.cons (t := 6) (Has.t rfl) (.cons (t := 7) (Has.t rfl) (.cons (t := 10) (Has.t rfl) (.cons (t := 12) (Has.t rfl) .nil)))))))) ?_
        refine Tri.memEq (M' := [grM isU g (tabU ((freeL s.ps i).length * F) F G), (some b5, cellM [isI ((freeL s.ps i).length : Int), isI (F : Int), isGr g (tabU ((freeL s.ps i).length * F) F G).length]), (some b4, cellM [isI (R : Int), isI (C : Int), SlM isU N]), (some b3, cellM [isI (C : Int), isI (F : Int), SlM isU Km]), (some b2, cellM [isU p]), (some b1, cellM [isI (R : Int), isI (C : Int), SlM isU xs])]) rfl ?_
        simp only [] at hI
        refine Tri.seq fun K16 hK16 => ?_
        refine Tri.seq fun K17 hK17 => ?_
        refine Tri.region ?_
        refine st (OK1.mv (Has.t rfl)) rfl ?_
        refine st (OK1.fieldAddr (Has.t rfl) fld24_1 ty3) rfl ?_
        refine st (OK1.load1 (Has.t rfl) (i := 5) rfl ty3 rfl) rfl ?_
        refine st (OK1.ltI (Has.t rfl) (Has.t rfl)) rfl ?_
        refine nl ?_
        refine At.thn (hK17 _ _ ?_); clear hK17
        refine Tri.cond (Has.t rfl) (fun hc4 => ?_) (fun hc4 => ?_)
        · have hc4 := BP.t hc4
          have hiC : i < C := (by omega)
          have hpl1 : (i + 1) * F ≤ C * F := Nat.mul_le_mul_right _ hiC
          have hpl2 : (i + 1) * F = i * F + F := Nat.succ_mul _ _
          have hc1 : ((i : Int) * (F : Int)) = ((i * F : Nat) : Int) := (Int.natCast_mul i F).symm
          have hc2 : (((i : Int) + 1) * (F : Int)) = (((i + 1) * F : Nat) : Int) := by rw [Int.natCast_mul]; rfl
          have hfli := freeL_len s.ps i
          refine Tri.skip ?_
          refine At.thn (hK16 _ _ ?_); clear hK16
          refine Tri.seq fun K18 hK18 => ?_
          refine Tri.block ?_
          refine Tri.seq fun K19 hK19 => ?_
          refine Tri.region ?_
          refine st (OK1.mv (Has.t rfl)) rfl ?_
          refine st (OK1.mv (Has.t rfl)) rfl ?_
          refine st (OK1.call (ref13_In) (.cons (Has.t rfl) (.cons (Has.t rfl) .nil))) rfl ?_
          refine st (OK1.not (Has.t rfl)) rfl ?_
          refine nl ?_
          refine At.thn (hK19 _ _ ?_); clear hK19
          refine Tri.cond (Has.t rfl) (fun hc5 => ?_) (fun hc5 => ?_)
          · have hc5 := BP.t hc5
            have hni : i ∉ s.ps := by simpa using hc5
            have hfa := free_at hiC hni
            rw [← hF] at hfa
            have hcF : ((freeL s.ps i).length + 1) * F ≤ F * F := Nat.mul_le_mul_right _ hfa.2.1
            have hcF2 : ((freeL s.ps i).length + 1) * F = (freeL s.ps i).length * F + F := Nat.succ_mul _ _
            have hFF := side_le (R := F) (C := F) (by omega) (by omega)
            refine Tri.seq fun K20 hK20 => ?_
            refine Tri.region ?_
            refine st (OK1.fieldAddr (Has.t rfl) fld24_0 ty3) rfl ?_
            refine st (OK1.load1 (Has.t rfl) (i := 1) rfl ty3 rfl) rfl ?_
            refine st (OK1.addI (Has.t rfl) (Has.cI 1 rfl) (by first | omega | assumption) (by first | omega | assumption)) rfl ?_
            refine st (OK1.fieldAddr (Has.t rfl) fld24_0 ty3) rfl ?_
            refine Ops.store (Has.t rfl) (Has.t rfl) (i := 1) rfl ty3 rfl rfl (Ss' := [_, _, _]) rfl (M' := [_, (some _, cellM [_, _, _]), _, _, _, _]) rfl ?_
            refine nl ?_
            refine At.thn (hK20 _ _ ?_); clear hK20
            refine Tri.dr ?_
            refine DrG.st (i := 0) [] rfl rfl rfl (by kernel_rfl) (OKG.o rfl (OK1.fieldAddr (Has.t rfl) fld24_2 ty22)) ?_
            refine DrG.st (i := 1) [99] rfl rfl rfl (by kernel_rfl) (OKG.o rfl (OK1.load1 (Has.t rfl) (i := 1) rfl ty22 rfl)) ?_
            refine DrG.st (i := 2) [] rfl rfl rfl (by kernel_rfl) (OKG.o rfl (OK1.fieldAddr (Has.t rfl) fld24_2 ty22)) ?_
            refine DrG.st (i := 3) [101] rfl rfl rfl (by kernel_rfl) (OKG.o rfl (OK1.load1 (Has.t rfl) (i := 3) rfl ty22 rfl)) ?_
            refine DrG.st (i := 4) [] rfl rfl rfl (by kernel_rfl) (OKG.o rfl (OK1.mv (Has.t rfl))) ?_
            refine DrG.st (i := 5) [] rfl rfl rfl (by kernel_rfl) (OKG.o rfl (OK1.fieldAddr (Has.t rfl) fld24_1 ty3)) ?_
            refine DrG.st (i := 6) [104] rfl rfl rfl (by kernel_rfl) (OKG.o rfl (OK1.load1 (Has.t rfl) (i := 3) rfl ty3 rfl)) ?_
            refine DrG.st (i := 7) [103, 105] rfl rfl rfl (by kernel_rfl) (OKG.o rfl (OK1.eq (OK1.mulI (Has.t rfl) (Has.t rfl) (by first | omega | (rw [hc1]; omega) | (rw [hc2]; omega)) (by first | omega | (rw [hc1]; omega) | (rw [hc2]; omega))) ((show isI _ = isI ((i * F : Nat) : Int) from isI_eq (Int.natCast_mul i F).symm)))) ?_
            refine DrG.st (i := 8) [] rfl rfl rfl (by kernel_rfl) (OKG.o rfl (OK1.mv (Has.t rfl))) ?_
            refine DrG.st (i := 9) [107] rfl rfl rfl (by kernel_rfl) (OKG.o rfl (OK1.addI (Has.t rfl) (Has.cI 1 rfl) (by first | omega | (rw [hc1]; omega) | (rw [hc2]; omega)) (by first | omega | (rw [hc1]; omega) | (rw [hc2]; omega)))) ?_
            refine DrG.st (i := 10) [] rfl rfl rfl (by kernel_rfl) (OKG.o rfl (OK1.fieldAddr (Has.t rfl) fld24_1 ty3)) ?_
            refine DrG.st (i := 11) [109] rfl rfl rfl (by kernel_rfl) (OKG.o rfl (OK1.load1 (Has.t rfl) (i := 3) rfl ty3 rfl)) ?_
            refine DrG.st (i := 12) [108, 110] rfl rfl rfl (by kernel_rfl) (OKG.o rfl (OK1.eq (OK1.mulI (Has.t rfl) (Has.t rfl) (by first | omega | (rw [hc1]; omega) | (rw [hc2]; omega)) (by first | omega | (rw [hc1]; omega) | (rw [hc2]; omega))) ((show isI _ = isI (((i + 1) * F : Nat) : Int) from isI_eq (by rw [Int.natCast_mul]; rfl))))) ?_
            refine DrG.st (i := 13) [102, 106, 111] rfl rfl rfl (by kernel_rfl) (OKG.o rfl (OK1.eq (OK1.slLHM sl22 ty27 (Has.t rfl) (Has.t rfl) (Has.t rfl) ⟨by omega, by omega, by omega⟩) ((show SlM isU _ = SlM isU (rowL F Km i) from by rw [← rowL_eq hMl hiC]; rfl)))) ?_
            refine DrG.fin (n := 14) mixed (by kernel_rfl) (by kernel_rfl) (by kernel_rfl) ?_
            refine Ops.cv (Cv.wk (.cons (t := 3) (Has.t rfl) (.cons (t := 4) (Has.t rfl) (.cons (t := 6) (Has.t rfl) (.cons (t := 7) (Has.t rfl) (.cons (t := 10) (Has.t rfl) (.cons (t := 12) (Has.t rfl) (.cons (t := 13) (Has.t rfl) (.cons (t := 85) (Has.t rfl) (.cons (t := 86) (Has.t rfl) (.cons (t := 87) (Has.t rfl) (.cons (t := 88) (Has.t rfl) (.cons (t := 91) (Has.t rfl) (.cons (t := 92) (Has.t rfl) (.cons (t := 93) (Has.t rfl) (.cons (t := 94) (Has.t rfl) (.cons (t := 95) (Has.t rfl) (.cons (t := 96) (Has.t rfl) (.cons (t := 97) (Has.t rfl) (.cons (t := 98) (Has.t rfl) (.cons (t := 99) (Has.t rfl) (.cons (t := 100) (Has.t rfl) (.cons (t := 101) (Has.t rfl) (.cons (t := 102) (Has.t rfl) (.cons (t := 103) (Has.t rfl) (.cons (t := 104) (Has.t rfl) (.cons (t := 105) (Has.t rfl) (.cons (t := 106) (Has.t rfl) (.cons (t := 107) (Has.t rfl) (.cons (t := 108) (Has.t rfl) (.cons (t := 109) (Has.t rfl) (.cons (t := 110) (Has.t rfl) (.cons (t := 111) (Has.t rfl) (.cons (t := 112) (Has.t rfl) .nil)))))))))))))))))))))))))))))))))) ?_
            refine Ops.appendG (f := isU) (u := 0) sl22 ty27 zero27 (fun _ _ => ⟨⟨rfl, by decide⟩, trivial⟩) (fun _ => inferInstance) by27 (Has.t rfl) (i := 0) rfl (Has.t rfl) (by rw [tabU_len, rowL_len]; omega) (by rw [rowL_len]; omega) rfl fun gr1 => ?_
            refine Ops.memEq (M' := [grM _ _ _, _, _, _, _, _]) rfl ?_
            refine st (OK1.fieldAddr (Has.t rfl) fld24_2 ty22) rfl ?_
            refine Ops.store (Has.t rfl) (Has.t rfl) (i := 1) rfl ty22 rfl rfl (Ss' := [_, _, _]) rfl (M' := [_, (some _, cellM [_, _, _]), _, _, _, _]) rfl ?_
            refine nl ?_
            refine At.bln ?_
            refine At.thn (hK18 _ _ ?_); clear hK18
            refine Tri.region ?_
            refine st (OK1.mv (Has.t rfl)) rfl ?_
            refine st (OK1.addI (Has.t rfl) (Has.cI 1 rfl) (by first | omega | assumption) (by first | omega | assumption)) rfl ?_
            refine st (OK1.as (Has.t rfl)) rfl ?_
            refine nl ?_
            refine At.thn ?_
            refine hK15 (⟨(i + 1, gr1), by show i + 1 ≤ C; omega⟩) _ _ ?_ (Cv.mem (.cons (t := 13) (Has.t' rfl ?_) (.cons (t := 3) (Has.t rfl) (.cons (t := 4) (Has.t rfl) (.cons (t := 6) (Has.t rfl) (.cons (t := 7) (Has.t rfl) (.cons (t := 10) (Has.t rfl) (.cons (t := 12) (Has.t rfl) .nil))))))) ?_)
            · show C - (i + 1) < C - i; omega
            · exact isI_eq (by omega)
            · exact frM_eq (by rw [hfa.2.2]; omega) (by rw [tabU_len, tabU_len, rowL_len, hfa.2.2]; omega) (by rw [hfa.2.2]; exact tabU_row (by rw [hG]; unfold rowL; show List.map (fun k => Km.getD (i * F + k) 0) _ = List.map (fun k => Km.getD ((freeL s.ps C).getD (freeL s.ps i).length 0 * F + k) 0) _; rw [hfa.1]))
          · have hc5 := BP.f hc5
            have hni : i ∈ s.ps := by simpa using hc5
            refine Tri.skip ?_
            refine At.bln ?_
            refine At.thn (hK18 _ _ ?_); clear hK18
            refine Tri.region ?_
            refine st (OK1.mv (Has.t rfl)) rfl ?_
            refine st (OK1.addI (Has.t rfl) (Has.cI 1 rfl) (by first | omega | assumption) (by first | omega | assumption)) rfl ?_
            refine st (OK1.as (Has.t rfl)) rfl ?_
            refine nl ?_
            refine At.thn ?_
            refine hK15 (⟨(i + 1, g), by show i + 1 ≤ C; omega⟩) _ _ ?_ (Cv.mem (.cons (t := 13) (Has.t' rfl ?_) (.cons (t := 3) (Has.t rfl) (.cons (t := 4) (Has.t rfl) (.cons (t := 6) (Has.t rfl) (.cons (t := 7) (Has.t rfl) (.cons (t := 10) (Has.t rfl) (.cons (t := 12) (Has.t rfl) .nil))))))) ?_)
            · show C - (i + 1) < C - i; omega
            · exact isI_eq (by omega)
            · exact frM_eq (by rw [free_same hni]) (by rw [free_same hni]) (by rw [free_same hni])
        · have hc4 := BP.f hc4
          skip
          refine Tri.exit ?_
          refine At.the ?_
          refine At.the ?_
          refine At.blh ?_
          refine At.thn (hK13 _ _ ?_); clear hK13
          refine Tri.cv (Cv.wk (.cons (t := 4) (Has.t rfl) (.cons (t := 6) (Has.t rfl) (.cons (t := 12) (Has.t rfl) .nil)))) ?_
          refine Tri.seq fun K21 hK21 => ?_
          refine Tri.cv (Cv.freezeF (k := 1) (i := 0) (j := 0) (o := 2) rfl rfl rfl rfl gr_lenM gr_takeM (Ss' := [_, _, SlM isU (tabU ((freeL s.ps i).length * F) F G)]) rfl) ?_
          refine Tri.memEq (M' := [(some _, cellM [_, _, SlM isU (tabU ((freeL s.ps i).length * F) F G)]), _, _, _, _]) rfl ?_
          refine Tri.cv (Cv.wk (.cons (t := 4) (Has.t rfl) (.cons (t := 6) (Has.t rfl) (.cons (t := 12) (Has.t rfl) .nil)))) ?_
          refine Tri.region ?_
          refine st (OK1.eq (OK1.load (Has.t rfl) (i := 0) rfl ty24 rfl (Ss' := [_, _, _]) rfl) ((show isMW _ _ _ = isMW F F (tabU (F * F) F G) from by rw [show i = C by omega, ← hF]))) rfl ?_
          refine st (OK1.mv (Has.t rfl)) rfl ?_
          refine st (OK1.call (ref21_One (R := F) (xs := tabU (F * F) F G) hp0 hGo (by omega) (tabU_len _ _ _)) (.cons (Has.t rfl) (.cons (Has.t rfl) .nil))) rfl ?_
          refine st (OK1.as (Has.t rfl)) rfl ?_
          refine nl ?_
          refine At.thn (hK21 _ _ ?_); clear hK21
          refine Tri.cv (Cv.wk (.cons (t := 4) (Has.t rfl) .nil)) ?_
          refine Tri.ret ?_
          refine rt1 (.inl rfl) Try.results6 rfl (.tmp (Has.t' rfl ?_) .nil)
          all_goals (rfl)
set_option maxHeartbeats 4000000 in
theorem c_FmatKernels_bad (n : Nat) (r c : Int) (xs : List Nat) (hf : formB r c xs.length = false) : Ctr Try.prog 6 [isK .u8 (n : Int), isMW r c xs] (isB true) := by
  refine Ctr.intro Try.func6 rfl (by kernel_rfl) Try.ntmps6 rfl fun w0 F0 => ?_
  refine Tri.cv (Cv.wk (.cons (t := 0) (Has.t rfl) (.cons (t := 1) (Has.t rfl) .nil))) ?_
  obtain ⟨p, hp⟩ : ∃ p, p = ptab (n % 12) := ⟨_, rfl⟩
  have hpp : Prime p := by rw [hp]; exact ptab_prime
  have hfp : fp p = p := by rw [hp]; exact ptab_fp _
  have hpl : p < 2147483648 := by rw [hp]; exact ptab_le
  have hp2 : 2 ≤ p := hpp.1
  have hp0 : 0 < p := (by omega)
  have hpq : p < 4294967296 := (by omega)
  have hfp2 : 2 ≤ fp p := by rw [hfp]; exact hp2
  refine Tri.seq fun K1 hK1 => ?_
  refine Tri.region ?_
  refine Ops.box (Has.t rfl) rfl fun b1 => ?_
  refine st (OK1.as (Has.cB false)) rfl ?_
  refine nl ?_
  refine At.thn (hK1 _ _ ?_); clear hK1
  refine Tri.seq fun K2 hK2 => ?_
  refine Tri.seq fun K3 hK3 => ?_
  refine Tri.region ?_
  refine st (OK1.call (law21_awake) .nil) rfl ?_
  refine st (OK1.not (Has.t rfl)) rfl ?_
  refine st (OK1.mv (Has.t rfl)) rfl ?_
  refine stF rfl rfl (fun hg => have hg' := BP.t hg; OK1.load (Has.t rfl) (i := 0) rfl ty24 rfl (Ss' := [_, _, _]) rfl) rfl ?_
  refine stF rfl rfl (fun hg => have hg' := BP.t hg; OK1.call (ref21_Few) (.cons (Has.g rfl hg) (.cons (Has.cI 5 rfl) .nil))) rfl ?_
  refine stF rfl rfl (fun hg => have hg' := BP.t hg; OK1.not (Has.g rfl hg)) rfl ?_
  refine st (OK1.pickOr (Has.t rfl) (fun h => Has.g rfl (ng h))) rfl ?_
  refine nl ?_
  refine At.thn (hK3 _ _ ?_); clear hK3
  refine Tri.cv (Cv.wk (.cons (t := 0) (Has.t rfl) (.cons (t := 3) (Has.t rfl) (.cons (t := 4) (Has.t rfl) (.cons (t := 20) (Has.t rfl) .nil))))) ?_
  refine Tri.cond (Has.t rfl) (fun hc1 => ?_) (fun hc1 => ?_)
  · have hc1 := BP.t hc1
    refine Tri.seq fun K4 hK4 => ?_
    refine Tri.region ?_
    refine st (OK1.call (law21_awake) .nil) rfl ?_
    refine st (OK1.as (Has.t rfl)) rfl ?_
    refine nl ?_
    refine At.thn (hK4 _ _ ?_); clear hK4
    refine Tri.ret ?_
    refine At.thr ?_
    refine rt1 (.inl rfl) Try.results6 rfl (.tmp (Has.t' rfl ?_) .nil)
    all_goals (rfl)
  · have hc1 := BP.f hc1
    refine Tri.skip ?_
    refine At.thn (hK2 _ _ ?_); clear hK2
    refine Tri.seq fun K5 hK5 => ?_
    refine Tri.region ?_
    refine st (OK1.mv (Has.t rfl)) rfl ?_
    refine st (OK1.eq (OK1.call (law09_Of) (.cons (Has.t rfl) .nil)) ((show Flat [isU _] = Flat [isU p] from by rw [hp]))) rfl ?_
    refine st (OK1.mv (Has.t rfl)) rfl ?_
    refine st (OK1.eq (OK1.call (ref08_P) (.cons (Has.t rfl) .nil)) ((show isU _ = isU p from isU_eq hp.symm))) rfl ?_
    refine Ops.alloc [isU 0] zero29 (fun _ _ => ⟨⟨rfl, by decide⟩, trivial⟩) rfl fun b2 => ?_
    refine Ops.store (Has.t rfl) (Has.t rfl) (i := 0) rfl ty29 rfl rfl (Ss' := [_]) rfl (M' := [(some _, cellM [_]), _]) rfl ?_
    refine st (OK1.as (Has.t rfl)) rfl ?_
    refine nl ?_
    refine At.thn (hK5 _ _ ?_); clear hK5
    refine Tri.cv (Cv.wk (.cons (t := 3) (Has.t rfl) (.cons (t := 4) (Has.t rfl) (.cons (t := 5) (Has.t rfl) (.cons (t := 6) (Has.t rfl) .nil))))) ?_
    refine Tri.seq fun K6 hK6 => ?_
    refine Tri.region ?_
    refine st (OK1.load (Has.t rfl) (i := 0) rfl ty29 rfl (Ss' := [_]) rfl) rfl ?_
    refine st (OK1.load (Has.t rfl) (i := 1) rfl ty24 rfl (Ss' := [_, _, _]) rfl) rfl ?_
    refine st (OK1.call (fmat_Kernel_bad hf) (.cons (Has.t rfl) (.cons (Has.t rfl) .nil))) rfl ?_
    refine st (OK1.mv (Has.t rfl)) rfl ?_
    refine st (OK1.ext (Has.t rfl) rfl) rfl ?_
    refine st (OK1.ext (Has.t rfl) rfl) rfl ?_
    refine Ops.alloc [isI 0, isI 0, SlM isU []] zero24 (fun _ _ => ⟨⟨rfl, by decide, by decide⟩, ⟨rfl, by decide, by decide⟩, nilM _ _, trivial⟩) rfl fun b3 => ?_
    refine Ops.store (Has.t rfl) (Has.t rfl) (i := 0) rfl ty24 rfl rfl (Ss' := [_, _, _]) rfl (M' := [(some _, cellM [_, _, _]), _, _]) rfl ?_
    refine st (OK1.as (Has.t rfl)) rfl ?_
    refine nl ?_
    refine At.thn (hK6 _ _ ?_); clear hK6
    refine Tri.cv (Cv.wk (.cons (t := 3) (Has.t rfl) (.cons (t := 4) (Has.t rfl) (.cons (t := 5) (Has.t rfl) (.cons (t := 6) (Has.t rfl) (.cons (t := 7) (Has.t rfl) (.cons (t := 8) (Has.t rfl) .nil))))))) ?_
    refine Tri.seq fun K7 hK7 => ?_
    refine Tri.seq fun K8 hK8 => ?_
    refine Tri.region ?_
    refine st (OK1.load (Has.t rfl) (i := 2) rfl ty24 rfl (Ss' := [_, _, _]) rfl) rfl ?_
    refine st (OK1.eq (OK1.call (ref21_Formed) (.cons (Has.t rfl) .nil)) ((show isB _ = isB false from isB_eq hf))) rfl ?_
    refine st (OK1.not (Has.t rfl)) rfl ?_
    refine nl ?_
    refine At.thn (hK8 _ _ ?_); clear hK8
    refine Tri.cond (Has.t rfl) (fun hc2 => ?_) (fun hc2 => ?_)
    · have hc2 := BP.t hc2
      refine Tri.seq fun K9 hK9 => ?_
      refine Tri.region ?_
      refine st (OK1.mv (Has.t rfl)) rfl ?_
      refine st (OK1.eqI (Has.t rfl) (Has.cI 2 rfl)) rfl ?_
      refine st (OK1.mv (Has.t rfl)) rfl ?_
      refine stT rfl rfl (fun hg => have hg' := BP.t hg; OK1.load (Has.t rfl) (i := 0) rfl ty24 rfl (Ss' := [_, _, _]) rfl) rfl ?_
      refine stT rfl rfl (fun hg => have hg' := BP.t hg; OK1.call (ref21_None) (.cons (Has.g rfl hg) .nil)) rfl ?_
      refine st (OK1.pickAnd (Has.t rfl) (fun h => Has.g rfl h)) rfl ?_
      refine st (OK1.as (Has.t rfl)) rfl ?_
      refine nl ?_
      refine At.thn (hK9 _ _ ?_); clear hK9
      refine Tri.cv (Cv.wk (.cons (t := 3) (Has.t rfl) (.cons (t := 4) (Has.t rfl) (.cons (t := 5) (Has.t rfl) (.cons (t := 6) (Has.t rfl) (.cons (t := 7) (Has.t rfl) (.cons (t := 8) (Has.t rfl) .nil))))))) ?_
      refine Tri.ret ?_
      refine At.thr ?_
      refine rt1 (.inl rfl) Try.results6 rfl (.tmp (Has.t' rfl ?_) .nil)
      all_goals (rfl)
    · have hc2 := BP.f hc2
      exfalso; simp at hc2
theorem c_FmatKernels (n : Nat) (r c : Int) (xs : List Nat) : Ctr Try.prog 6 [isK .u8 (n : Int), isMW r c xs] (isB true) := by
  cases h : formB r c xs.length with
  | true =>
    obtain ⟨R, C, rfl, rfl, h1, h2, h3⟩ := formB_iff.1 h
    exact c_FmatKernels_ok n R C xs h1 h2 h3
  | false => exact c_FmatKernels_bad n r c xs h
end Go.Proofs.Ytfoclelageohiaa
/- Matrices of words that a law is handed. -/
namespace Go.En
open Go.RowKit Go.ChangeShapes Go.WideShapes Go.ChangeAt
set_option linter.unusedVariables false
section
variable {H : Type} {enc : TypeId × Value → H} {P : Program}
/-- two sides and words -/
theorem open_MW {W : World} {base : Nat} {T ti tm T' : TypeId} {v : Value} {d : DataW H} {ps : List MemPlace} (hfM : fsB P T = some [(ti, 0), (ti, 1), (tm, 2)]) (hui : P.underlying ti = some (.int .i64)) (hu : P.underlying tm = some (.slice T')) (hu' : P.underlying T' = some (.int .u64)) (hc : P.cellsOf T' = 1)
    (hci : P.cellsOf ti = 1) (hcm : P.cellsOf tm = 1) (hcT : P.cellsOf T = 3) (hv : Value.okWide P W .any base T v) (h : DataW.Trod enc P W 0 (fun _ => true) true T v d ps) (hps : ∀ x ∈ ps, x.block < W.heap.size) : ∃ x : Int × Int × List Nat, (isMW x.1 x.2.1 x.2.2).h W (fun b => b < W.heap.size) v := by
  obtain ⟨fs, huT, hsz, hget⟩ := fsB_spec hfM
  have hv' := hv
  simp only [Value.okWide, huT] at hv'
  obtain ⟨cs, rfl, _, _⟩ := hv'
  obtain ⟨fuel, hf⟩ := h
  obtain ⟨xs, m, _, hx, hl, hxl, hfe⟩ := DataW.trod_struct huT hf
  simp [Value.cells] at hl hx
  obtain ⟨f0, g0, rfl, e0⟩ := hget 0 ti 0 rfl
  obtain ⟨f1, g1, k1, e1⟩ := hget 1 _ 1 rfl
  obtain ⟨f2, g2, rfl, e2⟩ := hget 2 tm 2 rfl
  have h0 := hfe 0 f0 g0
  have h1 := hfe 1 f1 g1
  have h2 := hfe 2 f2 g2
  rw [List.getElem?_eq_getElem (by rw [hxl, hsz]; simp)] at h0 h1 h2
  rw [e0, hci] at h0
  rw [e1, k1, hci] at h1
  rw [e2, hcm] at h2
  obtain ⟨r, hr, hr1, hr2⟩ := rd_I hui h0
  obtain ⟨c, hc1, hc2, hc3⟩ := rd_I hui h1
  obtain ⟨u, ws, hu1, hw⟩ := rd_row hu hu' hc word_of h2 (fun y hy => hps y (by
    rw [hx.2]
    exact List.mem_flatMap.2 ⟨_, List.getElem_mem _, hy⟩))
  refine ⟨(r, c, ws), cs.toList, by simp, ?_⟩
  have hcs2 : cs.toList = [.int .i64 r, .int .i64 c, u] := by
    have hlen : cs.toList.length = 3 := by rw [← hcT]; simpa using hl
    match hq : cs.toList, hlen with
    | [p, q, t], _ =>
      have a1 : [p] = [Value.int .i64 r] := by have := hr; simpa [Value.cells, hq] using this
      have a2 : [q] = [Value.int .i64 c] := by have := hc1; simpa [Value.cells, hq] using this
      have a3 : [t] = [u] := by have := hu1; simpa [Value.cells, hq] using this
      rw [List.cons.inj a1 |>.1, List.cons.inj a2 |>.1, List.cons.inj a3 |>.1]
  rw [hcs2]
  exact ⟨⟨rfl, hr1, hr2⟩, ⟨rfl, hc2, hc3⟩, hw, trivial⟩
end
end Go.En
/- A law of layer 21, as it is stated. -/
namespace Go.Proofs.Ytfoclelageohiaa
open Go.En Go.RowKit
set_option linter.unusedVariables false
set_option maxRecDepth 10000
open Go.ChangeShapes
open Go.WideShapes
open Go.ChangeAt
open Go.Gf
open Go.Mz
open Go.Mu
theorem opens_FmatKernels : Opens Try.prog Try.f6 6 := by
  intro H enc W base args ds ps hval hA hlt
  rw [Try.params6] at hA hval
  obtain ⟨v0, vs0, d0, ds0, p0, q0, hargs, rfl, rfl, h0, r0⟩ := trodAll_cons hA
  obtain ⟨v1, vs1, d1, ds1, p1, q1, rfl, rfl, rfl, h1, r1⟩ := trodAll_cons r0
  obtain ⟨rfl, rfl, rfl⟩ := trodAll_nil r1
  obtain rfl : args = #[v0, v1] := by cases args; simp_all
  obtain ⟨x0, o0⟩ := open_N un5 rfl (hval 0 5 v0 rfl rfl) h0
  obtain ⟨x1, o1⟩ := open_MW fs24 un3 un22 un27 (by kernel_rfl) (by kernel_rfl) (by kernel_rfl) (by kernel_rfl) (hval 1 24 v1 rfl rfl) h1 (fun x hx => hlt x (by simp [hx]))
  refine ⟨_, ?_, c_FmatKernels x0 x1.1 x1.2.1 x1.2.2⟩
  exact ⟨o0 _, o1, trivial⟩
theorem fmatKernels_said : Rows.FmatKernelsSaid :=
  OpenClaim.holds_of_wide 6 Try.f6 rfl rfl rfl rfl rfl rfl rfl ⟨rfl, rfl, rfl, rfl, rfl⟩ rfl rfl rfl rfl rfl (by kernel_rfl) Try.func6 (by kernel_rfl)
    (of_decide_eq_true (by kernel_rfl)) (by unfold Func.isWrapper; first | (rw [if_pos (by decide +kernel)]; kernel_rfl) | (rw [if_neg (by decide +kernel)]; exact ⟨rfl, rfl⟩))
    (fun os started H enc _ => lift_law (C := Try.checked) (s := Rows.fmatKernelsSpec) (by kernel_rfl) started (by kernel_rfl) Try.func6
      (ChangeSpec.witness6 (enc := enc) (C := Try.checked) false ⟨#[], #[.int .u8 0, .agg #[.int .i64 0, .int .i64 0, .slice none 0 0]], []⟩ 8 (by kernel_rfl) (by kernel_rfl) (by kernel_rfl) (by kernel_rfl))
      (by kernel_rfl) (by kernel_rfl) rfl rfl un4 (fun ds h => by match ds, h with | [d0, d1], _ => rfl) opens_FmatKernels)
#print axioms fmatKernels_said
end Go.Proofs.Ytfoclelageohiaa
