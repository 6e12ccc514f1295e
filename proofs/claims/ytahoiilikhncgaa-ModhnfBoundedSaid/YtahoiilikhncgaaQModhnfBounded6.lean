/- The law ModhnfBounded, as it is stated, of the given program, for every input; no condition. -/
import Derived.Test.YtahoiilikhncgaaQModhnfBounded5
import Derived.Deep.SlicePairs
import Derived.Test.YtahoiilikhncgaaRows
/- Contracts: the form by a modulus. -/
namespace Go.Proofs.Ytahoiilikhncgaa
open Go.En Go.RowKit
set_option linter.unusedVariables false
set_option maxRecDepth 10000
open Go.Nt
open Go.Pz
open Go.Mz
open Go.Hn
open Go.Tr
open Go.Dt
set_option maxHeartbeats 4000000 in
theorem modhnf_Hermite {R C K : Nat} {xs : List (Bool × List Nat)} (hx : Bd (vals xs) K) (hK1 : 1 ≤ K) (hR : R ≤ 64) (hC : C ≤ 64) (hl : xs.length = R * C) (hK : (((K + 1) * 2 ^ R) + 2) * 2 ^ C ≤ 80000000) (hKm : ((K + 1) * 2 ^ R) ≤ 30000000) (hp : (Go.Dt.pivs (mf C (vals xs)) R C).length = C) : CtrX Try.prog 30 [isM (R : Int) (C : Int) xs] ([]) (fun S M => ∃ b, S = isTup [isMz R C (hmL b R C (vals xs)), isI 0] ∧ M = [] ∧ MulB R C K (vals xs) b) := by
  refine CtrX.intro Try.func30 rfl (by kernel_rfl) Try.ntmps30 rfl fun w0 F0 => ?_
  refine Tri.cv (Cv.wk (.cons (t := 0) (Has.t rfl) .nil)) ?_
  have hRC := side_le hR hC
  refine Tri.seq fun K1 hK1 => ?_
  refine Tri.region ?_
  refine Ops.box (Has.t rfl) rfl fun b1 => ?_
  refine Ops.alloc [isI 0, isI 0, nilS] zero24 (fun _ _ => ⟨⟨rfl, by decide, by decide⟩, ⟨rfl, by decide, by decide⟩, rfl, trivial⟩) rfl fun b2 => ?_
  refine st (OK1.as (Has.cI 0 rfl)) rfl ?_
  refine nl ?_
  refine At.thn (hK1 _ _ ?_); clear hK1
  refine Tri.seq fun K2 hK2 => ?_
  refine Tri.region ?_
  refine st (OK1.load (Has.t rfl) (i := 1) rfl ty24 rfl (Ss' := [_, _, _]) rfl) rfl ?_
  refine Ops.callX (modhnf_filled hx hK1 hR hC hl hK hKm hp) (List.Perm.refl _) (.cons (Has.t rfl) .nil) rfl ?_
  rintro _ _ ⟨b, rfl, rfl, hMB⟩
  have hb0 := hMB.1
  have hbK := hMB.2.1
  have hTl := filT_len b R C (vals xs) hb0
  refine st (OK1.mv (Has.t rfl)) rfl ?_
  refine st (OK1.ext (Has.t rfl) rfl) rfl ?_
  refine st (OK1.ext (Has.t rfl) rfl) rfl ?_
  refine st (OK1.as (Has.t rfl)) rfl ?_
  refine st (OK1.as (Has.t rfl)) rfl ?_
  refine nl ?_
  refine At.thn (hK2 _ _ ?_); clear hK2
  refine Tri.cv (Cv.wk (.cons (t := 1) (Has.t rfl) (.cons (t := 2) (Has.t rfl) (.cons (t := 3) (Has.t rfl) (.cons (t := 4) (Has.t rfl) (.cons (t := 5) (Has.t rfl) .nil)))))) ?_
  refine Tri.seq fun K3 hK3 => ?_
  refine Tri.seq fun K4 hK4 => ?_
  refine Tri.region ?_
  refine st (OK1.mv (Has.t rfl)) rfl ?_
  refine st (OK1.neI (Has.t rfl) (Has.cI 0 rfl)) rfl ?_
  refine nl ?_
  refine At.thn (hK4 _ _ ?_); clear hK4
  refine Tri.cond (Has.t rfl) (fun hc1 => ?_) (fun hc1 => ?_)
  · have hc1 := BP.t hc1
    exfalso; simp at hc1
  · have hc1 := BP.f hc1
    skip
    refine Tri.skip ?_
    refine At.thn (hK3 _ _ ?_); clear hK3
    refine Tri.seq fun K5 hK5 => ?_
    refine Tri.region ?_
    refine st (OK1.fieldAddr (Has.t rfl) fld24_0 ty3) rfl ?_
    refine st (OK1.load1 (Has.t rfl) (i := 1) rfl ty3 rfl) rfl ?_
    refine st (OK1.fieldAddr (Has.t rfl) fld24_1 ty3) rfl ?_
    refine st (OK1.load1 (Has.t rfl) (i := 1) rfl ty3 rfl) rfl ?_
    refine st (OK1.build [isI 0, isI 0, nilS] pl24 zero24 (fun _ _ => ⟨⟨rfl, by decide, by decide⟩, ⟨rfl, by decide, by decide⟩, rfl, trivial⟩) (.cons (Has.t rfl) rfl rfl rfl (.cons (Has.t rfl) rfl rfl rfl .nil)) (Z'' := [_, _, _]) rfl) rfl ?_
    refine Ops.alloc [isI 0, isI 0, nilS] zero24 (fun _ _ => ⟨⟨rfl, by decide, by decide⟩, ⟨rfl, by decide, by decide⟩, rfl, trivial⟩) rfl fun b3 => ?_
    refine Ops.store (Has.t rfl) (Has.t rfl) (i := 0) rfl ty24 rfl rfl (Ss' := [_, _, _]) rfl (M' := [(some _, cellM [_, _, _]), _, _]) rfl ?_
    refine nl ?_
    refine At.thn (hK5 _ _ ?_); clear hK5
    refine Tri.cv (Cv.wk (.cons (t := 1) (Has.t rfl) (.cons (t := 2) (Has.t rfl) (.cons (t := 3) (Has.t rfl) (.cons (t := 4) (Has.t rfl) (.cons (t := 6) (Has.t rfl) .nil)))))) ?_
    refine Tri.seq fun K6 hK6 => ?_
    refine Tri.seq fun K7 hK7 => ?_
    refine Tri.cv (Cv.growF (Bool × List Nat) (i := 0) (o := 2) rfl rfl rfl) ?_
    refine Tri.memEq (M' := [grMK zc Gr.nil [], _, _, _]) rfl ?_
    refine Tri.region ?_
    refine st (OK1.fieldAddr (Has.t rfl) fld24_0 ty3) rfl ?_
    refine st (OK1.load1 (Has.t rfl) (i := 3) rfl ty3 rfl) rfl ?_
    refine st (OK1.mv (Has.cI 0 rfl)) rfl ?_
    refine nl ?_
    refine At.thn (hK7 _ _ ?_); clear hK7
    refine Tri.block ?_
    refine Tri.loopF [1, 2, 3, 4, 6, 25] (fun (z : { z : Nat × Gr (Bool × List Nat) // z.1 ≤ R }) => match z with | ⟨(i, g), hI⟩ => [(26, isI (i : Int))]) (fun M => fun (z : { z : Nat × Gr (Bool × List Nat) // z.1 ≤ R }) => match z with | ⟨(i, g), hI⟩ => [grMK zc g ((tab (i * C + 0) C (trF b R C (vals xs))).map nz), (some b3, cellM [isI (R : Int), isI (C : Int), isGr g ((tab (i * C + 0) C (trF b R C (vals xs))).map nz).length]), (some b2, cellM [isI 0, isI 0, nilS]), (some b1, cellM [isI (R : Int), isI (C : Int), SlK 2 zc xs])]) (fun (z : { z : Nat × Gr (Bool × List Nat) // z.1 ≤ R }) => match z with | ⟨(i, g), hI⟩ => R - i) (⟨(0, Gr.nil), Nat.zero_le _⟩) (Cv.mem (.cons (t := 26) (Has.t' rfl ?_) (.cons (t := 1) (Has.t rfl) (.cons (t := 2) (Has.t rfl) (.cons (t := 3) (Has.t rfl) (.cons (t := 4) (Has.t rfl) (.cons (t := 6) (Has.t rfl) (.cons (t := 25) (Has.t rfl) .nil))))))) ?_) ?_
    · rfl
    · exact grF_eq (n := 0) (ys := []) (by rw [List.length_map, tab_len, Nat.zero_mul]) (show [] = (tab (0 * C + 0) _ _).map nz by rw [Nat.zero_mul]; rfl)
    rintro ⟨⟨i, g⟩, hI⟩ K8 hK8
    refine Tri.cv (Cv.wk (.cons (t := 26) (Has.t rfl) (.cons (t := 1) (Has.t rfl) (.cons (t := 2) (Has.t rfl) (.cons (t := 3) (Has.t rfl) (.cons (t := 4) (Has.t rfl) (.cons (t := 6) (Has.t rfl) (.cons (t := 25) (Has.t rfl) .nil)))))))) ?_
    refine Tri.memEq (M' := [grMK zc g ((tab (i * C + 0) C (trF b R C (vals xs))).map nz), (some b3, cellM [isI (R : Int), isI (C : Int), isGr g ((tab (i * C + 0) C (trF b R C (vals xs))).map nz).length]), (some b2, cellM [isI 0, isI 0, nilS]), (some b1, cellM [isI (R : Int), isI (C : Int), SlK 2 zc xs])]) rfl ?_
    simp only [] at hI
    refine Tri.seq fun K9 hK9 => ?_
    refine Tri.region ?_
    refine st (OK1.ltI (Has.t rfl) (Has.t rfl)) rfl ?_
    refine nl ?_
    refine At.thn (hK9 _ _ ?_); clear hK9
    refine Tri.seq fun K10 hK10 => ?_
    refine Tri.cond (Has.t rfl) (fun hc2 => ?_) (fun hc2 => ?_)
    · have hc2 := BP.t hc2
      refine Tri.skip ?_
      refine At.thn (hK10 _ _ ?_); clear hK10
      refine Tri.seq fun K11 hK11 => ?_
      refine Tri.block ?_
      refine Tri.seq fun K12 hK12 => ?_
      refine Tri.region ?_
      refine st (OK1.mv (Has.t rfl)) rfl ?_
      refine st (OK1.as (Has.t rfl)) rfl ?_
      refine nl ?_
      refine At.thn (hK12 _ _ ?_); clear hK12
      refine Tri.seq fun K13 hK13 => ?_
      refine Tri.region ?_
      refine st (OK1.fieldAddr (Has.t rfl) fld24_1 ty3) rfl ?_
      refine st (OK1.load1 (Has.t rfl) (i := 3) rfl ty3 rfl) rfl ?_
      refine st (OK1.mv (Has.cI 0 rfl)) rfl ?_
      refine nl ?_
      refine At.thn (hK13 _ _ ?_); clear hK13
      refine Tri.block ?_
      refine Tri.loopF [1, 2, 3, 4, 6, 25, 26, 27, 28, 7, 29, 30] (fun (z : { z : Nat × Gr (Bool × List Nat) // z.1 ≤ C }) => match z with | ⟨(k, g2), hK3⟩ => [(31, isI (k : Int))]) (fun M => fun (z : { z : Nat × Gr (Bool × List Nat) // z.1 ≤ C }) => match z with | ⟨(k, g2), hK3⟩ => [grMK zc g2 ((tab (i * C + k) C (trF b R C (vals xs))).map nz), (some b3, cellM [isI (R : Int), isI (C : Int), isGr g2 ((tab (i * C + k) C (trF b R C (vals xs))).map nz).length]), (some b2, cellM [isI 0, isI 0, nilS]), (some b1, cellM [isI (R : Int), isI (C : Int), SlK 2 zc xs])]) (fun (z : { z : Nat × Gr (Bool × List Nat) // z.1 ≤ C }) => match z with | ⟨(k, g2), hK3⟩ => C - k) (⟨(0, g), Nat.zero_le _⟩) (Cv.mem (.cons (t := 31) (Has.t' rfl ?_) (.cons (t := 1) (Has.t rfl) (.cons (t := 2) (Has.t rfl) (.cons (t := 3) (Has.t rfl) (.cons (t := 4) (Has.t rfl) (.cons (t := 6) (Has.t rfl) (.cons (t := 25) (Has.t rfl) (.cons (t := 26) (Has.t rfl) (.cons (t := 27) (Has.t rfl) (.cons (t := 28) (Has.t rfl) (.cons (t := 7) (Has.t rfl) (.cons (t := 29) (Has.t rfl) (.cons (t := 30) (Has.t rfl) .nil))))))))))))) ?_) ?_
      · rfl
      · rfl
      rintro ⟨⟨k, g2⟩, hK3⟩ K14 hK14
      refine Tri.cv (Cv.wk (.cons (t := 31) (Has.t rfl) (.cons (t := 1) (Has.t rfl) (.cons (t := 2) (Has.t rfl) (.cons (t := 3) (Has.t rfl) (.cons (t := 4) (Has.t rfl) (.cons (t := 6) (Has.t rfl) (.cons (t := 25) (Has.t rfl) (.cons (t := 26) (Has.t rfl) (.cons (t := 27) (Has.t rfl) (.cons (t := 28) (Has.t rfl) (.cons (t := 7) (Has.t rfl) (.cons (t := 29) (Has.t rfl) (.cons (t := 30) (Has.t rfl) .nil)))))))))))))) ?_
      refine Tri.memEq (M' := [grMK zc g2 ((tab (i * C + k) C (trF b R C (vals xs))).map nz), (some b3, cellM [isI (R : Int), isI (C : Int), isGr g2 ((tab (i * C + k) C (trF b R C (vals xs))).map nz).length]), (some b2, cellM [isI 0, isI 0, nilS]), (some b1, cellM [isI (R : Int), isI (C : Int), SlK 2 zc xs])]) rfl ?_
      simp only [] at hK3
      refine Tri.seq fun K15 hK15 => ?_
      refine Tri.region ?_
      refine st (OK1.ltI (Has.t rfl) (Has.t rfl)) rfl ?_
      refine nl ?_
      refine At.thn (hK15 _ _ ?_); clear hK15
      refine Tri.seq fun K16 hK16 => ?_
      refine Tri.cond (Has.t rfl) (fun hc3 => ?_) (fun hc3 => ?_)
      · have hc3 := BP.t hc3
        refine Tri.skip ?_
        refine At.thn (hK16 _ _ ?_); clear hK16
        refine Tri.seq fun K17 hK17 => ?_
        refine Tri.block ?_
        refine Tri.seq fun K18 hK18 => ?_
        refine Tri.region ?_
        refine st (OK1.mv (Has.t rfl)) rfl ?_
        refine st (OK1.as (Has.t rfl)) rfl ?_
        refine nl ?_
        refine At.thn (hK18 _ _ ?_); clear hK18
        refine Tri.seq fun K19 hK19 => ?_
        refine Tri.region ?_
        refine st (OK1.build [isB false, SlM isU []] pl32 zero32 (fun _ _ => ⟨rfl, nilM _ _, trivial⟩) .nil (Z'' := [_, _]) rfl) rfl ?_
        refine Ops.alloc [isB false, SlM isU []] zero32 (fun _ _ => ⟨rfl, nilM _ _, trivial⟩) rfl fun b4 => ?_
        refine Ops.store (Has.t rfl) (Has.t rfl) (i := 0) rfl ty32 rfl rfl (Ss' := [_, _]) rfl (M' := [(some _, cellM [_, _]), _, _, _, _]) rfl ?_
        refine nl ?_
        refine At.thn (hK19 _ _ ?_); clear hK19
        refine Tri.seq fun K20 hK20 => ?_
        refine Tri.seq fun K21 hK21 => ?_
        refine Tri.region ?_
        refine st (OK1.mv (Has.t rfl)) rfl ?_
        refine st (OK1.mv (Has.t rfl)) rfl ?_
        refine st (OK1.nilcP (Has.t rfl)) rfl ?_
        refine st (OK1.fieldAddrP (Has.t rfl) fld99_0 ty75 (Ss' := [_, _, _]) rfl) rfl ?_
        refine st (OK1.loadP1 (Has.t rfl) ty75) rfl ?_
        refine st (OK1.len sl75 (Has.t rfl)) rfl ?_
        refine st (OK1.ltI (Has.t rfl) (Has.t rfl)) rfl ?_
        refine nl ?_
        refine At.thn (hK21 _ _ ?_); clear hK21
        refine Tri.cond (Has.t rfl) (fun hc4 => ?_) (fun hc4 => ?_)
        · have hc4 := BP.t hc4
          obtain ⟨p, hp1⟩ : ∃ p, (filT b R C (vals xs))[i]? = some p := ⟨_, List.getElem?_eq_getElem (by omega)⟩
          have hpl := filT_row hb0 p (List.mem_of_getElem? hp1)
          have hpm : (p.map nz).length = C := by rw [List.length_map, hpl]
          have hGt : cf p k = (trF b R C (vals xs)) i k := by unfold trF; rw [Go.Hp.E_of hp1]
          refine Tri.region ?_
          refine st (OK1.mv (Has.t rfl)) rfl ?_
          refine st (OK1.nilcP (Has.t rfl)) rfl ?_
          refine st (OK1.fieldAddrP (Has.t rfl) fld99_0 ty75 (Ss' := [_, _, _]) rfl) rfl ?_
          refine st (OK1.loadP1 (Has.t rfl) ty75) rfl ?_
          refine st (OK1.mv (Has.t rfl)) rfl ?_
          refine st (OK1.ixP sl75 ty22 (Has.t rfl) (Has.t rfl) ⟨by omega, by omega⟩ hp1) rfl ?_
          refine st (OK1.loadP1 (Has.t rfl) ty22) rfl ?_
          refine st (OK1.mv (Has.t rfl)) rfl ?_
          refine st (OK1.ixK sl22 ty32 (Has.t rfl) (Has.t rfl) zc_len ⟨by omega, by omega⟩ (getZ (i := k) (by omega))) rfl ?_
          refine st (OK1.loadP (Has.t rfl) ty32 rfl (Ss' := [_, _]) rfl) rfl ?_
          refine Ops.store (Has.t rfl) (Has.t rfl) (i := 0) rfl ty32 rfl rfl (Ss' := [_, _]) rfl (M' := [(some _, cellM [_, _]), _, _, _, _]) rfl ?_
          refine nl ?_
          refine At.thn (hK20 _ _ ?_); clear hK20
          refine Tri.region ?_
          refine st (OK1.fieldAddr (Has.t rfl) fld24_2 ty22) rfl ?_
          refine st (OK1.load1 (Has.t rfl) (i := 2) rfl ty22 rfl) rfl ?_
          refine st (OK1.eq (OK1.load (Has.t rfl) (i := 0) rfl ty32 rfl (Ss' := [_, _]) rfl) ((show _ = Flat (zc (nz ((trF b R C (vals xs)) i k))) from by first | (rw [← hGt]; done) | (rw [← hGf]; exact isZ0)))) rfl ?_
          refine st (OK1.buildS [isB false, SlM isU []] sl22 ty32 zero32 (fun _ _ => ⟨rfl, nilM _ _, trivial⟩) rfl rfl (.cons (Has.t rfl) rfl rfl rfl .nil) rfl (S := SlK 2 zc [nz ((trF b R C (vals xs)) i k)]) rfl) rfl ?_
          refine Ops.appendGK (fk := zc) (u := (false, [])) zc_len (by decide) (fun _ => inferInstance) sl22 ty32 zero32 (fun _ _ => ⟨rfl, nilM _ _, trivial⟩) by32 (Has.t rfl) (i := 1) rfl (Has.t rfl) (by have hpl3 := place_lt (show i < R by omega) (show k < C by omega); rw [List.length_map, tab_len, List.length_singleton]; omega) (by simp) rfl fun gr1 => ?_
          refine Ops.memEq (M' := [_, grMK _ _ _, _, _, _]) rfl ?_
          refine st (OK1.fieldAddr (Has.t rfl) fld24_2 ty22) rfl ?_
          refine Ops.store (Has.t rfl) (Has.t rfl) (i := 2) rfl ty22 rfl rfl (Ss' := [_, _, _]) rfl (M' := [_, _, (some _, cellM [_, _, _]), _, _]) rfl ?_
          refine nl ?_
          refine At.bln ?_
          refine At.thn (hK17 _ _ ?_); clear hK17
          refine Tri.region ?_
          refine st (OK1.addI (Has.t rfl) (Has.cI 1 rfl) (by first | omega | assumption) (by first | omega | assumption)) rfl ?_
          refine st (OK1.mv (Has.t rfl)) rfl ?_
          refine nl ?_
          refine At.thn ?_
          refine hK14 (⟨(k + 1, gr1), by show k + 1 ≤ C; omega⟩) _ _ ?_ (Cv.trans (Cv.drop ((.cons _ (.cons_cons _ (.cons_cons _ (.cons_cons _ (.cons_cons _ .slnil))))))) (Cv.mem (.cons (t := 31) (Has.t' rfl ?_) (.cons (t := 1) (Has.t rfl) (.cons (t := 2) (Has.t rfl) (.cons (t := 3) (Has.t rfl) (.cons (t := 4) (Has.t rfl) (.cons (t := 6) (Has.t rfl) (.cons (t := 25) (Has.t rfl) (.cons (t := 26) (Has.t rfl) (.cons (t := 27) (Has.t rfl) (.cons (t := 28) (Has.t rfl) (.cons (t := 7) (Has.t rfl) (.cons (t := 29) (Has.t rfl) (.cons (t := 30) (Has.t rfl) .nil))))))))))))) ?_))
          · show C - (k + 1) < C - k; omega
          · exact isI_eq (by omega)
          · exact grF_eq (by rw [← tab_succ _ (show k < C by omega), List.map_append, List.length_append]; rfl) (by rw [← tab_succ _ (show k < C by omega), List.map_append]; rfl)
        · have hc4 := BP.f hc4
          have hGf : (0 : Int) = (trF b R C (vals xs)) i k := (trF_out hb0 (by omega)).symm
          refine Tri.skip ?_
          refine At.thn (hK20 _ _ ?_); clear hK20
          refine Tri.region ?_
          refine st (OK1.fieldAddr (Has.t rfl) fld24_2 ty22) rfl ?_
          refine st (OK1.load1 (Has.t rfl) (i := 2) rfl ty22 rfl) rfl ?_
          refine st (OK1.eq (OK1.load (Has.t rfl) (i := 0) rfl ty32 rfl (Ss' := [_, _]) rfl) ((show _ = Flat (zc (nz ((trF b R C (vals xs)) i k))) from by first | (rw [← hGt]; done) | (rw [← hGf]; exact isZ0)))) rfl ?_
          refine st (OK1.buildS [isB false, SlM isU []] sl22 ty32 zero32 (fun _ _ => ⟨rfl, nilM _ _, trivial⟩) rfl rfl (.cons (Has.t rfl) rfl rfl rfl .nil) rfl (S := SlK 2 zc [nz ((trF b R C (vals xs)) i k)]) rfl) rfl ?_
          refine Ops.appendGK (fk := zc) (u := (false, [])) zc_len (by decide) (fun _ => inferInstance) sl22 ty32 zero32 (fun _ _ => ⟨rfl, nilM _ _, trivial⟩) by32 (Has.t rfl) (i := 1) rfl (Has.t rfl) (by have hpl3 := place_lt (show i < R by omega) (show k < C by omega); rw [List.length_map, tab_len, List.length_singleton]; omega) (by simp) rfl fun gr1 => ?_
          refine Ops.memEq (M' := [_, grMK _ _ _, _, _, _]) rfl ?_
          refine st (OK1.fieldAddr (Has.t rfl) fld24_2 ty22) rfl ?_
          refine Ops.store (Has.t rfl) (Has.t rfl) (i := 2) rfl ty22 rfl rfl (Ss' := [_, _, _]) rfl (M' := [_, _, (some _, cellM [_, _, _]), _, _]) rfl ?_
          refine nl ?_
          refine At.bln ?_
          refine At.thn (hK17 _ _ ?_); clear hK17
          refine Tri.region ?_
          refine st (OK1.addI (Has.t rfl) (Has.cI 1 rfl) (by first | omega | assumption) (by first | omega | assumption)) rfl ?_
          refine st (OK1.mv (Has.t rfl)) rfl ?_
          refine nl ?_
          refine At.thn ?_
          refine hK14 (⟨(k + 1, gr1), by show k + 1 ≤ C; omega⟩) _ _ ?_ (Cv.trans (Cv.drop ((.cons _ (.cons_cons _ (.cons_cons _ (.cons_cons _ (.cons_cons _ .slnil))))))) (Cv.mem (.cons (t := 31) (Has.t' rfl ?_) (.cons (t := 1) (Has.t rfl) (.cons (t := 2) (Has.t rfl) (.cons (t := 3) (Has.t rfl) (.cons (t := 4) (Has.t rfl) (.cons (t := 6) (Has.t rfl) (.cons (t := 25) (Has.t rfl) (.cons (t := 26) (Has.t rfl) (.cons (t := 27) (Has.t rfl) (.cons (t := 28) (Has.t rfl) (.cons (t := 7) (Has.t rfl) (.cons (t := 29) (Has.t rfl) (.cons (t := 30) (Has.t rfl) .nil))))))))))))) ?_))
          · show C - (k + 1) < C - k; omega
          · exact isI_eq (by omega)
          · exact grF_eq (by rw [← tab_succ _ (show k < C by omega), List.map_append, List.length_append]; rfl) (by rw [← tab_succ _ (show k < C by omega), List.map_append]; rfl)
      · have hc3 := BP.f hc3
        refine Tri.exit ?_
        refine At.the ?_
        refine At.the ?_
        refine At.blh ?_
        refine At.bln ?_
        refine At.thn (hK11 _ _ ?_); clear hK11
        refine Tri.region ?_
        refine st (OK1.addI (Has.t rfl) (Has.cI 1 rfl) (by first | omega | assumption) (by first | omega | assumption)) rfl ?_
        refine st (OK1.mv (Has.t rfl)) rfl ?_
        refine nl ?_
        refine At.thn ?_
        have hkC : k = C := by omega
        subst hkC
        refine hK8 (⟨(i + 1, g2), by show i + 1 ≤ R; omega⟩) _ _ ?_ (Cv.mem (.cons (t := 26) (Has.t' rfl ?_) (.cons (t := 1) (Has.t rfl) (.cons (t := 2) (Has.t rfl) (.cons (t := 3) (Has.t rfl) (.cons (t := 4) (Has.t rfl) (.cons (t := 6) (Has.t rfl) (.cons (t := 25) (Has.t rfl) .nil))))))) ?_)
        · show R - (i + 1) < R - i; omega
        · exact isI_eq (by omega)
        · exact grF_eq (by rw [tab_next]) (by rw [tab_next])
    · have hc2 := BP.f hc2
      refine Tri.exit ?_
      refine At.the ?_
      refine At.the ?_
      refine At.blh ?_
      refine At.thn (hK6 _ _ ?_); clear hK6
      refine Tri.cv (Cv.wk (.cons (t := 2) (Has.t rfl) (.cons (t := 3) (Has.t rfl) (.cons (t := 6) (Has.t rfl) .nil)))) ?_
      refine Tri.seq fun K22 hK22 => ?_
      refine Tri.cv (Cv.freezeF (k := 2) (i := 0) (j := 0) (o := 2) rfl rfl rfl rfl (gr_lenK zc_len) (gr_takeK zc_len) (Ss' := [_, _, SlK 2 zc ((tab (i * C + 0) C (trF b R C (vals xs))).map nz)]) rfl) ?_
      refine Tri.memEq (M' := [(some _, cellM [_, _, SlK 2 zc ((tab (i * C + 0) C (trF b R C (vals xs))).map nz)]), _, _]) rfl ?_
      refine Tri.cv (Cv.wk (.cons (t := 2) (Has.t rfl) (.cons (t := 3) (Has.t rfl) (.cons (t := 6) (Has.t rfl) .nil)))) ?_
      refine Tri.region ?_
      refine st (OK1.load (Has.t rfl) (i := 0) rfl ty24 rfl (Ss' := [_, _, _]) rfl) rfl ?_
      refine Ops.store (Has.t rfl) (Has.t rfl) (i := 1) rfl ty24 rfl rfl (Ss' := [_, _, _]) rfl (M' := [_, (some _, cellM [_, _, _]), _]) rfl ?_
      refine st (OK1.as (Has.cI 0 rfl)) rfl ?_
      refine nl ?_
      refine At.thn (hK22 _ _ ?_); clear hK22
      refine Tri.ret ?_
      refine rtXND (.cons _ (.cons _ (.cons _ .slnil))) (.inl rfl) Try.results30 rfl rfl (.cell rfl (i := 1) rfl ty24 rfl rfl (.tmp (Has.t rfl) .nil)) ?_
      exact ⟨b, by rw [Nat.add_zero, show i = R by omega]; rfl, rfl, hMB⟩
set_option maxHeartbeats 4000000 in
theorem modhnf_Hermite_no {R C K : Nat} {xs : List (Bool × List Nat)} (hx : Bd (vals xs) K) (hK1 : 1 ≤ K) (hR : R ≤ 64) (hC : C ≤ 64) (hl : xs.length = R * C) (hK : (((K + 1) * 2 ^ R) + 2) * 2 ^ C ≤ 80000000) (hKm : ((K + 1) * 2 ^ R) ≤ 30000000) (hp : (Go.Dt.pivs (mf C (vals xs)) R C).length < C) : CtrX Try.prog 30 [isM (R : Int) (C : Int) xs] ([]) (fun S M => S = isTup [isM0, isI 3] ∧ M = []) := by
  refine CtrX.intro Try.func30 rfl (by kernel_rfl) Try.ntmps30 rfl fun w0 F0 => ?_
  refine Tri.cv (Cv.wk (.cons (t := 0) (Has.t rfl) .nil)) ?_
  refine Tri.seq fun K1 hK1 => ?_
  refine Tri.region ?_
  refine Ops.box (Has.t rfl) rfl fun b1 => ?_
  refine Ops.alloc [isI 0, isI 0, SlK 2 zc ([] : List (Bool × List Nat))] zero24 (fun _ _ => ⟨⟨rfl, by decide, by decide⟩, ⟨rfl, by decide, by decide⟩, nilK, trivial⟩) rfl fun b2 => ?_
  refine st (OK1.as (Has.cI 0 rfl)) rfl ?_
  refine nl ?_
  refine At.thn (hK1 _ _ ?_); clear hK1
  refine Tri.seq fun K2 hK2 => ?_
  refine Tri.region ?_
  refine st (OK1.load (Has.t rfl) (i := 1) rfl ty24 rfl (Ss' := [_, _, _]) rfl) rfl ?_
  refine Ops.callX (modhnf_filled_no hx hK1 hR hC hl hK hKm hp) (List.Perm.refl _) (.cons (Has.t rfl) .nil) rfl ?_
  rintro _ _ ⟨rfl, rfl⟩
  refine st (OK1.mv (Has.t rfl)) rfl ?_
  refine st (OK1.ext (Has.t rfl) rfl) rfl ?_
  refine st (OK1.ext (Has.t rfl) rfl) rfl ?_
  refine st (OK1.as (Has.t rfl)) rfl ?_
  refine st (OK1.as (Has.t rfl)) rfl ?_
  refine nl ?_
  refine At.thn (hK2 _ _ ?_); clear hK2
  refine Tri.cv (Cv.wk (.cons (t := 1) (Has.t rfl) (.cons (t := 2) (Has.t rfl) (.cons (t := 3) (Has.t rfl) (.cons (t := 4) (Has.t rfl) (.cons (t := 5) (Has.t rfl) .nil)))))) ?_
  refine Tri.seq fun K3 hK3 => ?_
  refine Tri.seq fun K4 hK4 => ?_
  refine Tri.region ?_
  refine st (OK1.mv (Has.t rfl)) rfl ?_
  refine st (OK1.neI (Has.t rfl) (Has.cI 0 rfl)) rfl ?_
  refine nl ?_
  refine At.thn (hK4 _ _ ?_); clear hK4
  refine Tri.cond (Has.t rfl) (fun hc1 => ?_) (fun hc1 => ?_)
  · have hc1 := BP.t hc1
    skip
    refine Tri.seq fun K5 hK5 => ?_
    refine Tri.region ?_
    refine st (OK1.build [isI 0, isI 0, SlK 2 zc ([] : List (Bool × List Nat))] pl24 zero24 (fun _ _ => ⟨⟨rfl, by decide, by decide⟩, ⟨rfl, by decide, by decide⟩, nilK, trivial⟩) .nil (Z'' := [_, _, _]) rfl) rfl ?_
    refine st (OK1.mv (Has.t rfl)) rfl ?_
    refine Ops.store (Has.t rfl) (Has.t rfl) (i := 0) rfl ty24 rfl rfl (Ss' := [_, _, _]) rfl (M' := [(some _, cellM [_, _, _]), _]) rfl ?_
    refine st (OK1.as (Has.t rfl)) rfl ?_
    refine nl ?_
    refine At.thn (hK5 _ _ ?_); clear hK5
    refine Tri.cv (Cv.wk (.cons (t := 1) (Has.t rfl) (.cons (t := 2) (Has.t rfl) (.cons (t := 3) (Has.t rfl) (.cons (t := 4) (Has.t rfl) .nil))))) ?_
    refine Tri.ret ?_
    refine At.thr ?_
    refine rtXND (.cons _ (.cons _ .slnil)) (.inl rfl) Try.results30 rfl rfl (.cell rfl (i := 0) rfl ty24 rfl rfl (.tmp (Has.t rfl) .nil)) ?_
    exact ⟨rfl, rfl⟩
  · have hc1 := BP.f hc1
    exfalso; simp at hc1
set_option maxHeartbeats 4000000 in
theorem modhnf_Hermite_bad {r c : Int} {xs : List (Bool × List Nat)} (hf : formB r c xs.length = false) : Ctr Try.prog 30 [isM r c xs] (isTup [isM0, isI 2]) := by
  refine Ctr.intro Try.func30 rfl (by kernel_rfl) Try.ntmps30 rfl fun w0 F0 => ?_
  refine Tri.cv (Cv.wk (.cons (t := 0) (Has.t rfl) .nil)) ?_
  refine Tri.seq fun K1 hK1 => ?_
  refine Tri.region ?_
  refine Ops.box (Has.t rfl) rfl fun b1 => ?_
  refine Ops.alloc [isI 0, isI 0, SlK 2 zc ([] : List (Bool × List Nat))] zero24 (fun _ _ => ⟨⟨rfl, by decide, by decide⟩, ⟨rfl, by decide, by decide⟩, nilK, trivial⟩) rfl fun b2 => ?_
  refine st (OK1.as (Has.cI 0 rfl)) rfl ?_
  refine nl ?_
  refine At.thn (hK1 _ _ ?_); clear hK1
  refine Tri.seq fun K2 hK2 => ?_
  refine Tri.region ?_
  refine st (OK1.load (Has.t rfl) (i := 1) rfl ty24 rfl (Ss' := [_, _, _]) rfl) rfl ?_
  refine st (OK1.call (modhnf_filled_bad hf) (.cons (Has.t rfl) .nil)) rfl ?_
  refine st (OK1.mv (Has.t rfl)) rfl ?_
  refine st (OK1.ext (Has.t rfl) rfl) rfl ?_
  refine st (OK1.ext (Has.t rfl) rfl) rfl ?_
  refine st (OK1.as (Has.t rfl)) rfl ?_
  refine st (OK1.as (Has.t rfl)) rfl ?_
  refine nl ?_
  refine At.thn (hK2 _ _ ?_); clear hK2
  refine Tri.cv (Cv.wk (.cons (t := 1) (Has.t rfl) (.cons (t := 2) (Has.t rfl) (.cons (t := 3) (Has.t rfl) (.cons (t := 4) (Has.t rfl) (.cons (t := 5) (Has.t rfl) .nil)))))) ?_
  refine Tri.seq fun K3 hK3 => ?_
  refine Tri.seq fun K4 hK4 => ?_
  refine Tri.region ?_
  refine st (OK1.mv (Has.t rfl)) rfl ?_
  refine st (OK1.neI (Has.t rfl) (Has.cI 0 rfl)) rfl ?_
  refine nl ?_
  refine At.thn (hK4 _ _ ?_); clear hK4
  refine Tri.cond (Has.t rfl) (fun hc1 => ?_) (fun hc1 => ?_)
  · have hc1 := BP.t hc1
    skip
    refine Tri.seq fun K5 hK5 => ?_
    refine Tri.region ?_
    refine st (OK1.build [isI 0, isI 0, SlK 2 zc ([] : List (Bool × List Nat))] pl24 zero24 (fun _ _ => ⟨⟨rfl, by decide, by decide⟩, ⟨rfl, by decide, by decide⟩, nilK, trivial⟩) .nil (Z'' := [_, _, _]) rfl) rfl ?_
    refine st (OK1.mv (Has.t rfl)) rfl ?_
    refine Ops.store (Has.t rfl) (Has.t rfl) (i := 0) rfl ty24 rfl rfl (Ss' := [_, _, _]) rfl (M' := [(some _, cellM [_, _, _]), _]) rfl ?_
    refine st (OK1.as (Has.t rfl)) rfl ?_
    refine nl ?_
    refine At.thn (hK5 _ _ ?_); clear hK5
    refine Tri.cv (Cv.wk (.cons (t := 1) (Has.t rfl) (.cons (t := 2) (Has.t rfl) (.cons (t := 3) (Has.t rfl) (.cons (t := 4) (Has.t rfl) .nil))))) ?_
    refine Tri.ret ?_
    refine At.thr ?_
    refine rtN (.inl rfl) Try.results30 rfl rfl (.cell rfl (i := 0) rfl ty24 rfl ?_ (.tmp (Has.t' rfl ?_) .nil))
    · rfl
    · rfl
  · have hc1 := BP.f hc1
    exfalso; simp at hc1
end Go.Proofs.Ytahoiilikhncgaa
/- Contracts: the index. -/
namespace Go.Proofs.Ytahoiilikhncgaa
open Go.En Go.RowKit
set_option linter.unusedVariables false
set_option maxRecDepth 10000
open Go.Nt
open Go.Pz
open Go.Mz
open Go.Hn
open Go.Tr
open Go.Dt
theorem ix_small {K R C k : Nat} (h : ((K + 1) * 2 ^ R + 2) * 2 ^ C ≤ 80000000) (hk : k ≤ C) : k * ((K + 1) * 2 ^ R) ≤ 80000000 := by
  have h1 : k ≤ 2 ^ C := Nat.le_trans hk (Nat.le_of_lt Nat.lt_two_pow_self)
  have h2 : ((K + 1) * 2 ^ R) * k ≤ ((K + 1) * 2 ^ R + 2) * 2 ^ C := Nat.mul_le_mul (by omega) h1
  rw [Nat.mul_comm]; omega
set_option maxHeartbeats 4000000 in
theorem modhnf_Index {R C K : Nat} {xs : List (Bool × List Nat)} (hx : Bd (vals xs) K) (hK1 : 1 ≤ K) (hR : R ≤ 64) (hC : C ≤ 64) (hl : xs.length = R * C) (hK : (((K + 1) * 2 ^ R) + 2) * 2 ^ C ≤ 80000000) (hKm : ((K + 1) * 2 ^ R) ≤ 30000000) (hp : (Go.Dt.pivs (mf C (vals xs)) R C).length = C) : CtrX Try.prog 36 [isM (R : Int) (C : Int) xs] ([]) (fun S M => ∃ b, S = isTup [isZ (ixv b R C (vals xs) C), isI 0] ∧ M = [] ∧ MulB R C K (vals xs) b) := by
  refine CtrX.intro Try.func36 rfl (by kernel_rfl) Try.ntmps36 rfl fun w0 F0 => ?_
  refine Tri.cv (Cv.wk (.cons (t := 0) (Has.t rfl) .nil)) ?_
  refine Tri.seq fun K1 hK1 => ?_
  refine Tri.region ?_
  refine Ops.box (Has.t rfl) rfl fun b1 => ?_
  refine Ops.alloc [isB false, SlM isU []] zero32 (fun _ _ => ⟨rfl, nilM _ _, trivial⟩) rfl fun b2 => ?_
  refine st (OK1.as (Has.cI 0 rfl)) rfl ?_
  refine nl ?_
  refine At.thn (hK1 _ _ ?_); clear hK1
  refine Tri.seq fun K2 hK2 => ?_
  refine Tri.region ?_
  refine st (OK1.load (Has.t rfl) (i := 1) rfl ty24 rfl (Ss' := [_, _, _]) rfl) rfl ?_
  refine Ops.callX (modhnf_filled hx hK1 hR hC hl hK hKm hp) (List.Perm.refl _) (.cons (Has.t rfl) .nil) rfl ?_
  rintro _ _ ⟨b, rfl, rfl, hMB⟩
  have hb0 := hMB.1
  have hbK := hMB.2.1
  have hTl := filT_len b R C (vals xs) hb0
  refine st (OK1.mv (Has.t rfl)) rfl ?_
  refine st (OK1.ext (Has.t rfl) rfl) rfl ?_
  refine st (OK1.ext (Has.t rfl) rfl) rfl ?_
  refine st (OK1.as (Has.t rfl)) rfl ?_
  refine st (OK1.as (Has.t rfl)) rfl ?_
  refine nl ?_
  refine At.thn (hK2 _ _ ?_); clear hK2
  refine Tri.cv (Cv.wk (.cons (t := 2) (Has.t rfl) (.cons (t := 3) (Has.t rfl) (.cons (t := 4) (Has.t rfl) (.cons (t := 5) (Has.t rfl) .nil))))) ?_
  refine Tri.seq fun K3 hK3 => ?_
  refine Tri.seq fun K4 hK4 => ?_
  refine Tri.region ?_
  refine st (OK1.mv (Has.t rfl)) rfl ?_
  refine st (OK1.neI (Has.t rfl) (Has.cI 0 rfl)) rfl ?_
  refine nl ?_
  refine At.thn (hK4 _ _ ?_); clear hK4
  refine Tri.cond (Has.t rfl) (fun hc1 => ?_) (fun hc1 => ?_)
  · have hc1 := BP.t hc1
    exfalso; simp at hc1
  · have hc1 := BP.f hc1
    skip
    refine Tri.skip ?_
    refine At.thn (hK3 _ _ ?_); clear hK3
    refine Tri.seq fun K5 hK5 => ?_
    refine Tri.region ?_
    refine st (OK1.call (zint_Of) (.cons (Has.cI 1 rfl) .nil)) rfl ?_
    refine Ops.alloc [isB false, SlM isU []] zero32 (fun _ _ => ⟨rfl, nilM _ _, trivial⟩) rfl fun b3 => ?_
    refine Ops.store (Has.t rfl) (Has.t rfl) (i := 0) rfl ty32 rfl rfl (Ss' := [_, _]) rfl (M' := [(some _, cellM [_, _]), _, _]) rfl ?_
    refine nl ?_
    refine At.thn (hK5 _ _ ?_); clear hK5
    refine Tri.seq fun K6 hK6 => ?_
    refine Tri.seq fun K7 hK7 => ?_
    refine Tri.region ?_
    refine st (OK1.mv (Has.t rfl)) rfl ?_
    refine st (OK1.nilcP (Has.t rfl)) rfl ?_
    refine st (OK1.fieldAddrP (Has.t rfl) fld99_0 ty75 (Ss' := [_, _, _]) rfl) rfl ?_
    refine st (OK1.loadP1 (Has.t rfl) ty75) rfl ?_
    refine st (OK1.len sl75 (Has.t rfl)) rfl ?_
    refine st (OK1.mv (Has.cI 0 rfl)) rfl ?_
    refine nl ?_
    refine At.thn (hK7 _ _ ?_); clear hK7
    refine Tri.cv (Cv.wk (.cons (t := 2) (Has.t rfl) (.cons (t := 3) (Has.t rfl) (.cons (t := 6) (Has.t rfl) (.cons (t := 22) (Has.t rfl) (.cons (t := 23) (Has.t rfl) (.cons (t := 24) (Has.t rfl) .nil))))))) ?_
    refine Tri.block ?_
    refine Tri.loopF [2, 3, 6, 22, 23] (fun (z : { k : Nat // k ≤ C }) => match z with | ⟨k, hk⟩ => [(24, isI (k : Int))]) (fun M => fun (z : { k : Nat // k ≤ C }) => match z with | ⟨k, hk⟩ => [zM b3 (ixv b R C (vals xs) k), (some b2, cellM [isB false, SlM isU []]), (some b1, cellM [isI (R : Int), isI (C : Int), SlK 2 zc xs])]) (fun (z : { k : Nat // k ≤ C }) => match z with | ⟨k, hk⟩ => C - k) (⟨0, Nat.zero_le _⟩) (Cv.mem (.cons (t := 24) (Has.t' rfl ?_) (.cons (t := 2) (Has.t rfl) (.cons (t := 3) (Has.t rfl) (.cons (t := 6) (Has.t rfl) (.cons (t := 22) (Has.t rfl) (.cons (t := 23) (Has.t rfl) .nil)))))) ?_) ?_
    · rfl
    · exact zM_eq rfl rfl
    rintro ⟨k, hk⟩ K8 hK8
    refine Tri.cv (Cv.wk (.cons (t := 24) (Has.t rfl) (.cons (t := 2) (Has.t rfl) (.cons (t := 3) (Has.t rfl) (.cons (t := 6) (Has.t rfl) (.cons (t := 22) (Has.t rfl) (.cons (t := 23) (Has.t rfl) .nil))))))) ?_
    refine Tri.memEq (M' := [zM b3 (ixv b R C (vals xs) k), (some b2, cellM [isB false, SlM isU []]), (some b1, cellM [isI (R : Int), isI (C : Int), SlK 2 zc xs])]) rfl ?_
    refine Tri.seq fun K9 hK9 => ?_
    refine Tri.region ?_
    refine st (OK1.ltI (Has.t rfl) (Has.t rfl)) rfl ?_
    refine nl ?_
    refine At.thn (hK9 _ _ ?_); clear hK9
    refine Tri.seq fun K10 hK10 => ?_
    refine Tri.cond (Has.t rfl) (fun hc2 => ?_) (fun hc2 => ?_)
    · have hc2 := BP.t hc2
      obtain ⟨p, hp1⟩ : ∃ p, (filT b R C (vals xs))[k]? = some p := ⟨_, List.getElem?_eq_getElem (by omega)⟩
      have hpl := filT_row hb0 p (List.mem_of_getElem? hp1)
      have hpm : (p.map nz).length = C := by rw [List.length_map, hpl]
      have hGt : cf p k = (trF b R C (vals xs)) k k := by unfold trF; rw [Go.Hp.E_of hp1]
      have hwk := ixv_nw (R := R) (C := C) (L := vals xs) hb0 hbK k
      have hwp : (List.length (words (cf p k).natAbs)) ≤ ((K + 1) * 2 ^ R) := by rw [hGt]; exact nw_le_b (trF_all hb0 k k).1 (trF_all hb0 k k).2 hbK
      have hkb := ix_small hK (show k ≤ C by omega)
      refine Tri.skip ?_
      refine At.thn (hK10 _ _ ?_); clear hK10
      refine Tri.seq fun K11 hK11 => ?_
      refine Tri.block ?_
      refine Tri.seq fun K12 hK12 => ?_
      refine Tri.region ?_
      refine st (OK1.mv (Has.t rfl)) rfl ?_
      refine st (OK1.ixP sl75 ty22 (Has.t rfl) (Has.t rfl) ⟨by omega, by omega⟩ hp1) rfl ?_
      refine st (OK1.loadP1 (Has.t rfl) ty22) rfl ?_
      refine st (OK1.as (Has.t rfl)) rfl ?_
      refine st (OK1.as (Has.t rfl)) rfl ?_
      refine nl ?_
      refine At.thn (hK12 _ _ ?_); clear hK12
      refine Tri.dr ?_
      refine DrG.st (i := 0) [] rfl rfl rfl (by kernel_rfl) (OKG.o rfl (OK1.load (Has.t rfl) (i := 0) rfl ty32 rfl (Ss' := [_, _]) rfl)) ?_
      refine DrG.st (i := 1) [] rfl rfl rfl (by kernel_rfl) (OKG.o rfl (OK1.mv (Has.t rfl))) ?_
      refine DrG.st (i := 2) [] rfl rfl rfl (by kernel_rfl) (OKG.o rfl (OK1.mv (Has.t rfl))) ?_
      refine DrG.st (i := 3) [30, 31] rfl rfl rfl (by kernel_rfl) (OKG.o rfl (OK1.ixK sl22 ty32 (Has.t rfl) (Has.t rfl) zc_len ⟨by omega, by omega⟩ (getZ (i := k) (by omega)))) ?_
      refine DrG.st (i := 4) [32] rfl rfl rfl (by kernel_rfl) (OKG.o rfl (OK1.loadP (Has.t rfl) ty32 rfl (Ss' := [_, _]) rfl)) ?_
      refine DrG.fin (n := 5) mixed (by kernel_rfl) (by kernel_rfl) (by kernel_rfl) ?_
      refine Ops.cv (Cv.wk (.cons (t := 2) (Has.t rfl) (.cons (t := 3) (Has.t rfl) (.cons (t := 6) (Has.t rfl) (.cons (t := 22) (Has.t rfl) (.cons (t := 23) (Has.t rfl) (.cons (t := 24) (Has.t rfl) (.cons (t := 25) (Has.t rfl) (.cons (t := 26) (Has.t rfl) (.cons (t := 27) (Has.t rfl) (.cons (t := 28) (Has.t rfl) (.cons (t := 7) (Has.t rfl) (.cons (t := 8) (Has.t rfl) (.cons (t := 29) (Has.t rfl) (.cons (t := 30) (Has.t rfl) (.cons (t := 31) (Has.t rfl) (.cons (t := 32) (Has.t rfl) (.cons (t := 33) (Has.t rfl) .nil)))))))))))))))))) ?_
      refine st (OK1.eq (OK1.call (zint_Mul (by rw [val_words]; omega) (by rw [val_words]; omega)) (.cons (Has.t rfl) (.cons (Has.t rfl) .nil))) ((show _ = isZ (ixv b R C (vals xs) k * cf p k) from isZ_eq (by simp only [zv_nz, zv_nf])))) rfl ?_
      refine Ops.store (Has.t rfl) (Has.t rfl) (i := 0) rfl ty32 rfl rfl (Ss' := [_, _]) rfl (M' := [(some _, cellM [_, _]), _, _]) rfl ?_
      refine nl ?_
      refine At.bln ?_
      refine At.thn (hK11 _ _ ?_); clear hK11
      refine Tri.region ?_
      refine st (OK1.addI (Has.t rfl) (Has.cI 1 rfl) (by first | omega | assumption) (by first | omega | assumption)) rfl ?_
      refine st (OK1.mv (Has.t rfl)) rfl ?_
      refine nl ?_
      refine At.thn ?_
      refine hK8 (⟨k + 1, by omega⟩) _ _ ?_ (Cv.mem (.cons (t := 24) (Has.t' rfl ?_) (.cons (t := 2) (Has.t rfl) (.cons (t := 3) (Has.t rfl) (.cons (t := 6) (Has.t rfl) (.cons (t := 22) (Has.t rfl) (.cons (t := 23) (Has.t rfl) .nil)))))) ?_)
      · show C - (k + 1) < C - k; omega
      · exact isI_eq (by omega)
      · exact zM_eq (by show _ = ixv b R C (vals xs) k * (trF b R C (vals xs)) k k; rw [← hGt]) rfl
    · have hc2 := BP.f hc2
      refine Tri.exit ?_
      refine At.the ?_
      refine At.the ?_
      refine At.blh ?_
      refine At.thn (hK6 _ _ ?_); clear hK6
      refine Tri.seq fun K13 hK13 => ?_
      refine Tri.region ?_
      refine st (OK1.load (Has.t rfl) (i := 0) rfl ty32 rfl (Ss' := [_, _]) rfl) rfl ?_
      refine Ops.store (Has.t rfl) (Has.t rfl) (i := 1) rfl ty32 rfl rfl (Ss' := [_, _]) rfl (M' := [_, (some _, cellM [_, _]), _]) rfl ?_
      refine st (OK1.as (Has.cI 0 rfl)) rfl ?_
      refine nl ?_
      refine At.thn (hK13 _ _ ?_); clear hK13
      refine Tri.cv (Cv.wk (.cons (t := 2) (Has.t rfl) (.cons (t := 3) (Has.t rfl) .nil))) ?_
      refine Tri.ret ?_
      refine rtXND (.cons _ (.cons _ (.cons _ .slnil))) (.inl rfl) Try.results36 rfl rfl (.cell rfl (i := 1) rfl ty32 rfl rfl (.tmp (Has.t rfl) .nil)) ?_
      exact ⟨b, by rw [show k = C by omega], rfl, hMB⟩
end Go.Proofs.Ytahoiilikhncgaa
/- A triangle of rows by a modulus has the sums of multiples that the matrix has. No program here. -/
namespace Go.Tr
open Go.Nt Go.Pz Go.Mz Go.En Go.Hn Go.Hp Go.Dt
/-- a multiple of a unit -/
abbrev un (b : Int) (j : Nat) : Nat → Int := fun k => if k = j then b else 0
/-- a row changed by what the others make -/
theorem eqv_mod {rs : List (List Int)} {W i : Nat} {x : List Int} (hi : i < rs.length) (h : SpZ rs.length W (E (rs.set i [])) fun k => cf x k - E rs i k) : Eqv rs.length rs.length W (E rs) (E (rs.set i x)) := by
  have hz : ∀ (y : List Int) (j : Nat), j < rs.length → SpZ rs.length W (E (rs.set i y)) (E (rs.set i []) j) := fun y j hj => by
    rw [E_set hi]
    split
    · exact (SpZ.zero _).congr fun k _ => rfl
    · next hne =>
      have := SpZ.row (W := W) (E (rs.set i y)) hj
      rwa [E_set hi, if_neg hne] at this
  have hself : rs.set i (rs.getD i []) = rs := by
    rw [List.getD, List.getElem?_eq_getElem hi]; exact List.set_getElem_self hi
  refine ⟨fun j hj => ?_, fun j hj => ?_⟩
  · by_cases e : j = i
    · subst e
      have h1 := SpZ.row (W := W) (E (rs.set j x)) hj
      rw [E_set hi, if_pos rfl] at h1
      exact (h1.comb 1 (-1) (h.trans (hz x))).congr fun k _ => by omega
    · have := SpZ.row (W := W) (E (rs.set i x)) hj
      rwa [E_set hi, if_neg e] at this
  · rw [E_set hi]
    split
    · next e =>
      have hz2 := hz (rs.getD i [])
      rw [hself] at hz2
      exact ((SpZ.row (W := W) (E rs) hi).comb 1 1 (h.trans hz2)).congr fun k _ => by omega
    · exact SpZ.row (W := W) (E rs) hj
theorem sp_units {R W : Nat} {B : MatF} {b : Int} {z : Nat → Int} (h : ∀ j, j < W → z j = 0 ∨ SpZ R W B (un b j)) : SpZ R W B fun k => z k * b := by
  have h1 : SpZ R W B fun k => sm W fun j => z j * un b j k := by
    have : SpZ R W B fun k => sm W fun j => 1 * (z j * un b j k) := SpZ.sum (fun _ => 1) (fun j k => z j * un b j k) W fun j hj => by
      rcases h j hj with h0 | h0
      · exact (SpZ.zero B).congr fun k _ => by rw [h0, Int.zero_mul]
      · exact (h0.comb (z j) 0 h0).congr fun k _ => by omega
    exact this.congr fun k _ => sm_congr fun j _ => by rw [Int.one_mul]
  exact h1.congr fun k hk => by
    rw [sm_one hk fun j hj hne => by show z j * (if k = j then b else 0) = 0; rw [if_neg (fun e => hne e.symm), Int.mul_zero]]
    show z k * b = z k * (if k = k then b else 0)
    rw [if_pos rfl]
/-- all multiples of the modulus -/
def HasB (b : Int) (n : Nat) (rows : List (List Int)) : Prop := ∀ j, j < n → SpZ n n (E rows) (un b j)
theorem tail_of {b : Int} {n : Nat} {rows : List (List Int)} (h : TriR b n rows) (hB : HasB b n rows) {j : Nat} (hj : j < n) : ∃ c : Nat → Int, (∀ i, i < j → c i = 0) ∧ ∀ k, k < n → un b j k = sm n fun i => c i * E rows i k := by
  obtain ⟨c, hc⟩ := hB j hj
  refine ⟨c, fun i => ?_, hc⟩
  induction i using Nat.strongRecOn with
  | ind i ih =>
    intro hij
    have h1 := hc i (by omega)
    rw [show un b j i = 0 from if_neg (by omega), sm_one (c := i) (by omega) fun l hl hne => by
      rcases Nat.lt_or_ge l i with h2 | h2
      · rw [ih l h2 (by omega), Int.zero_mul]
      · rw [(h.e hl).1 i (by omega), Int.mul_zero]] at h1
    have hd := (h.e (show i < n by omega)).2.1
    rcases Int.mul_eq_zero.1 h1.symm with h2 | h2
    · exact h2
    · omega
theorem tail_sp {b : Int} {n : Nat} {rows L : List (List Int)} (h : TriR b n rows) (hB : HasB b n rows) {j : Nat} (hj : j < n) (hL : ∀ l, j ≤ l → l < n → E L l = E rows l) : SpZ (n + 1) n (E L) (un b j) := by
  obtain ⟨c, h0, hc⟩ := tail_of h hB hj
  refine ⟨fun l => if l < n then c l else 0, fun k hk => ?_⟩
  rw [hc k hk]
  show _ = (sm n fun i => (if i < n then c i else 0) * E L i k) + (if n < n then c n else 0) * E L n k
  rw [if_neg (Nat.lt_irrefl n), Int.zero_mul, Int.add_zero]
  refine sm_congr fun i hi => ?_
  rw [if_pos hi]
  rcases Nat.lt_or_ge i j with h1 | h1
  · rw [h0 i h1, Int.zero_mul, Int.zero_mul]
  · rw [hL i h1 hi]
theorem mxT_mod {b : Int} {place n : Nat} {x y : Int} {p q : List Int} (hq : q.length = p.length) (k : Nat) : ∃ z, cf (mxT b place x p y q) k = cf (mx2 x p y q) k + z * b ∧ (k ≤ place → z = 0) := by
  rw [cf_mxT hq, cf_mx2 hq]
  unfold mxv
  split
  · next h =>
    refine ⟨-((x * cf p k + y * cf q k) / b), ?_, fun h2 => by omega⟩
    rw [Int.emod_def, Int.neg_mul, Int.mul_comm b]; omega
  · exact ⟨0, by rw [Int.zero_mul]; omega, fun _ => rfl⟩
/-- a row replaced by one that is the same by the modulus behind a place -/
theorem mod_eqv {b : Int} {n k i : Nat} {rows L : List (List Int)} (h : TriR b n rows) (hB : HasB b n rows) (hl : L.length = n + 1) (hi : i < n + 1) (hik : i ≤ k ∨ i = n) (hL : ∀ l, k < l → l < n → E L l = E rows l) {x : List Int} (hx : ∀ j, ∃ z, cf x j = E L i j + z * b ∧ (j ≤ k → z = 0)) :
    Eqv (n + 1) (n + 1) n (E L) (E (L.set i x)) := by
  have hz : ∀ j, ∃ z, cf x j = E L i j + z * b ∧ (j ≤ k → z = 0) := hx
  have := eqv_mod (W := n) (rs := L) (i := i) (x := x) (by omega) (by
    rw [hl]
    have h1 : SpZ (n + 1) n (E (L.set i [])) fun j => (Classical.choose (hz j)) * b := sp_units fun j hj => by
      rcases Nat.lt_or_ge k j with h1 | h1
      · refine .inr (tail_sp h hB hj fun l h2 h3 => ?_)
        rw [E_set (by omega), if_neg (by omega)]
        exact hL l (by omega) h3
      · exact .inl ((Classical.choose_spec (hz j)).2 h1)
    exact h1.congr fun j _ => by have := (Classical.choose_spec (hz j)).1; omega)
  rwa [hl] at this
theorem E_app {rs : List (List Int)} {w : List Int} {n : Nat} (h : rs.length = n) : (∀ i, i < n → E (rs ++ [w]) i = E rs i) ∧ E (rs ++ [w]) n = cf w := by
  subst h
  refine ⟨fun i hi => E_same (List.getElem?_append_left hi), ?_⟩
  rw [E_of (x := w) (by rw [List.getElem?_append_right (Nat.le_refl _), Nat.sub_self]; rfl)]
theorem pst_eqv {b : Int} {n k : Nat} {rows : List (List Int)} {s : List (List Int) × List Int} (h : TriR b n rows) (hB : HasB b n rows) (ht : TriR b n s.1) (hv : VR b n k s.2) (hk : k < n) (hoff : ∀ j, k ≤ j → s.1[j]? = rows[j]?) :
    Eqv (n + 1) (n + 1) n (E (s.1 ++ [s.2])) (E ((pst b s k).1 ++ [(pst b s k).2])) ∧ ∀ j, k + 1 ≤ j → (pst b s k).1[j]? = rows[j]? := by
  by_cases h0 : cf s.2 k = 0
  · rw [pst_no h0]
    exact ⟨Eqv.refl _ _ _, fun j hj => hoff j (by omega)⟩
  · obtain ⟨p, hp⟩ : ∃ p, s.1[k]? = some p := ⟨_, List.getElem?_eq_getElem (by rw [ht.len]; exact hk)⟩
    have hpl := ht.row k p hp
    have hql : s.2.length = p.length := by rw [hv.len, hpl]
    have hpd := ht.dia k p hp
    have hg := xgg_pos (b := cf s.2 k) hpd.1
    rw [pst_go hp h0]
    refine ⟨?_, fun j hj => by show (s.1.set k _)[j]? = _; rw [List.getElem?_set_ne (by omega)]; exact hoff j (by omega)⟩
    obtain ⟨L, hL⟩ : ∃ L, L = s.1 ++ [s.2] := ⟨_, rfl⟩
    have hLl : L.length = n + 1 := by rw [hL, List.length_append, ht.len]; rfl
    have hLk : L[k]? = some p := by rw [hL, List.getElem?_append_left (by rw [ht.len]; exact hk)]; exact hp
    have hLn : L[n]? = some s.2 := by rw [hL, List.getElem?_append_right (by rw [ht.len]; exact Nat.le_refl _), ht.len, Nat.sub_self]; rfl
    have hrow : ∀ r ∈ L, r.length = n := fun r hr => by
      rw [hL] at hr
      rcases List.mem_append.1 hr with h1 | h1
      · obtain ⟨i, hi⟩ := List.mem_iff_getElem?.1 h1; exact ht.row i r hi
      · rw [List.mem_singleton.1 h1]; exact hv.len
    have e1 := jn_eqv (V := n) (col := k) hrow (show k ≠ n by omega) (by omega) (show n < L.length by omega)
    rw [jn_go hLk hLn (by omega), hLl] at e1
    obtain ⟨a1, ha1⟩ : ∃ a1, a1 = mx2 (xgx (cf p k) (cf s.2 k)) p (xgy (cf p k) (cf s.2 k)) s.2 := ⟨_, rfl⟩
    obtain ⟨a2, ha2⟩ : ∃ a2, a2 = mx2 (-((cf s.2 k).tdiv (xgg (cf p k) (cf s.2 k)))) p ((cf p k).tdiv (xgg (cf p k) (cf s.2 k))) s.2 := ⟨_, rfl⟩
    rw [← ha1, ← ha2] at e1
    obtain ⟨b1, hb1⟩ : ∃ b1, b1 = mxT b k (xgx (cf p k) (cf s.2 k)) p (xgy (cf p k) (cf s.2 k)) s.2 := ⟨_, rfl⟩
    obtain ⟨b2, hb2⟩ : ∃ b2, b2 = mxT b k (-((cf s.2 k).tdiv (xgg (cf p k) (cf s.2 k)))) p ((cf p k).tdiv (xgg (cf p k) (cf s.2 k))) s.2 := ⟨_, rfl⟩
    rw [← hb1, ← hb2]
    have hLoff : ∀ l, k < l → l < n → E L l = E rows l := fun l h1 h2 => by
      rw [hL, (E_app ht.len).1 l h2]; exact E_same (hoff l (by omega))
    have s1 : ((L.set k a1).set n a2).length = n + 1 := by rw [List.length_set, List.length_set, hLl]
    have o1 : ∀ l, k < l → l < n → E ((L.set k a1).set n a2) l = E rows l := fun l h1 h2 => by
      rw [E_set (by rw [List.length_set]; omega), if_neg (by omega), E_set (by omega), if_neg (by omega)]; exact hLoff l h1 h2
    have e2 := mod_eqv (i := k) (x := b1) h hB s1 (by omega) (.inl (Nat.le_refl _)) o1 fun j => by
      rw [E_set (by rw [List.length_set]; omega), if_neg (by omega), E_set (by omega), if_pos rfl, hb1, ha1]
      exact mxT_mod (n := n) hql j
    have s2 : (((L.set k a1).set n a2).set k b1).length = n + 1 := by rw [List.length_set, s1]
    have o2 : ∀ l, k < l → l < n → E (((L.set k a1).set n a2).set k b1) l = E rows l := fun l h1 h2 => by
      rw [E_set (by omega), if_neg (by omega)]; exact o1 l h1 h2
    have e3 := mod_eqv (i := n) (x := b2) h hB s2 (by omega) (.inr rfl) o2 fun j => by
      rw [E_set (by omega), if_neg (by omega), E_set (by rw [List.length_set]; omega), if_pos rfl, hb2, ha2]
      exact mxT_mod (n := n) hql j
    have hend : (((L.set k a1).set n a2).set k b1).set n b2 = s.1.set k b1 ++ [b2] := by
      rw [List.set_comm _ _ (show n ≠ k by omega), List.set_set, List.set_set, hL, List.set_append_left _ _ (by rw [ht.len]; exact hk), List.set_append_right _ _ (by rw [List.length_set, ht.len]; exact Nat.le_refl _), List.length_set, ht.len, Nat.sub_self]
      rfl
    rw [hend] at e3
    have e4 := e1.trans (e2.trans e3)
    rw [hL] at e4
    exact e4
theorem pss_eqv {b : Int} {n : Nat} {rows : List (List Int)} {v : List Int} (hb : 0 < b) (h : TriR b n rows) (hB : HasB b n rows) (hv : VR b n 0 v) : ∀ k, k ≤ n → Eqv (n + 1) (n + 1) n (E (rows ++ [v])) (E ((pss b (rows, v) k).1 ++ [(pss b (rows, v) k).2])) ∧ ∀ j, k ≤ j → (pss b (rows, v) k).1[j]? = rows[j]?
  | 0, _ => ⟨Eqv.refl _ _ _, fun _ _ => rfl⟩
  | k + 1, hk => by
    obtain ⟨h1, h2⟩ := pss_eqv hb h hB hv k (by omega)
    obtain ⟨h3, h4⟩ := pss_ok hb h hv k (by omega)
    obtain ⟨h5, h6⟩ := pst_eqv h hB h3 h4 hk h2
    exact ⟨h1.trans h5, h6⟩
theorem putT_sp {b : Int} {n : Nat} {rows : List (List Int)} {v : List Int} (hb : 0 < b) (h : TriR b n rows) (hB : HasB b n rows) (hv : VR b n 0 v) :
    (∀ i, i < n → SpZ n n (E (putT b rows v)) (E rows i)) ∧ SpZ n n (E (putT b rows v)) (cf v) ∧ ∀ i, i < n → SpZ (n + 1) n (E (rows ++ [v])) (E (putT b rows v) i) := by
  obtain ⟨h1, _⟩ := pss_eqv hb h hB hv n (Nat.le_refl _)
  obtain ⟨h3, h4⟩ := pss_ok hb h hv n (Nat.le_refl _)
  have hput : putT b rows v = (pss b (rows, v) n).1 := by unfold putT; rw [h.len]
  rw [hput]
  obtain ⟨a1, a2⟩ := E_app (w := (pss b (rows, v) n).2) h3.len
  obtain ⟨c1, c2⟩ := E_app (w := v) h.len
  have hin : ∀ i, i < n + 1 → SpZ n n (E (pss b (rows, v) n).1) (E ((pss b (rows, v) n).1 ++ [(pss b (rows, v) n).2]) i) := fun i hi => by
    rcases Nat.lt_or_ge i n with h5 | h5
    · rw [a1 i h5]; exact SpZ.row _ h5
    · rw [show i = n by omega, a2]; exact (SpZ.zero _).congr fun k hk => h4.low k hk
  refine ⟨fun i hi => ?_, ?_, fun i hi => ?_⟩
  · rw [← c1 i hi]; exact (h1.1 i (by omega)).trans hin
  · rw [← c2]; exact (h1.1 n (by omega)).trans hin
  · rw [← a1 i hi]; exact h1.2 i (by omega)
/-- a matrix's row, and that by the modulus -/
theorem vrow_sp {b : Int} {C R' i : Nat} {L : List Int} {B : MatF} (hu : ∀ j, j < C → SpZ R' C B (un b j)) : SpZ R' C B (cf (vrow b C L i C)) ↔ SpZ R' C B (mf C L i) := by
  have hz : SpZ R' C B fun k => (mf C L i k / b) * b := sp_units fun j hj => .inr (hu j hj)
  have e : ∀ k, k < C → cf (vrow b C L i C) k = mf C L i k - (mf C L i k / b) * b := fun k hk => by
    unfold vrow
    rw [cf_tab, if_pos hk]
    show mf C L i k % b = _
    rw [Int.emod_def, Int.mul_comm b]
  exact ⟨fun h => (h.comb 1 1 hz).congr fun k hk => by rw [e k hk]; omega, fun h => (h.comb 1 (-1) hz).congr fun k hk => by rw [e k hk]; omega⟩
theorem fil_sp {b : Int} (hb : 0 < b) (C : Nat) (L : List Int) : ∀ R, HasB b C (fil b C L R) ∧ (∀ r, r < R → SpZ C C (E (fil b C L R)) (mf C L r)) ∧
    ∀ (R' : Nat) (B : MatF), (∀ j, j < C → SpZ R' C B (un b j)) → (∀ r, r < R → SpZ R' C B (mf C L r)) → ∀ t, t < C → SpZ R' C B (E (fil b C L R) t)
  | 0 => by
    have e : ∀ t, t < C → E (fil b C L 0) t = cf (tr0 b C t) := fun t ht => E_of (by
      show (tri0 b C C)[t]? = _
      unfold tri0; rw [List.getElem?_map, List.getElem?_range ht]; rfl)
    refine ⟨fun j hj => ?_, fun r hr => absurd hr (Nat.not_lt_zero _), fun R' B hu _ t ht => ?_⟩
    · have := SpZ.row (W := C) (E (fil b C L 0)) hj
      rw [e j hj] at this
      exact this.congr fun k _ => by rw [cf_tr0 hj]
    · rw [e t ht]; exact (hu t ht).congr fun k _ => by rw [cf_tr0 ht]
  | R + 1 => by
    obtain ⟨h1, h2, h3⟩ := fil_sp hb C L R
    have hok := fil_ok hb C L R
    have hv := vrow_ok hb C L R
    obtain ⟨p1, p2, p3⟩ := putT_sp hb hok h1 hv
    have hB : HasB b C (fil b C L (R + 1)) := fun j hj => (h1 j hj).trans p1
    refine ⟨hB, fun r hr => ?_, fun R' B hu hA t ht => ?_⟩
    · rcases Nat.lt_or_ge r R with h | h
      · exact (h2 r h).trans p1
      · rw [show r = R by omega]; exact (vrow_sp hB).1 p2
    · refine (p3 t ht).trans fun i hi => ?_
      obtain ⟨c1, c2⟩ := E_app (w := vrow b C L R C) hok.len
      rcases Nat.lt_or_ge i C with h | h
      · rw [c1 i h]; exact h3 R' B hu (fun r hr => hA r (by omega)) i h
      · rw [show i = C by omega, c2]; exact (vrow_sp hu).2 (hA R (by omega))
theorem rdT_eqv {b : Int} {n : Nat} {rows : List (List Int)} (h : TriR b n rows) : ∀ k, k ≤ n → Eqv n n n (E rows) (E (rdT rows k))
  | 0, _ => Eqv.refl _ _ _
  | k + 1, hk => by
    have ih := rdT_eqv h k (by omega)
    have hl : (rdT rows k).length = n := by rw [rdT_len, h.len]
    have := rds_eqv (V := n) (col := k) (rdT_row h k (by omega)) (show k < (rdT rows k).length by omega) k (Nat.le_refl _)
    rw [hl] at this
    exact ih.trans this
/-- the form by a modulus has the sums of multiples that the matrix has -/
theorem trF_eqv {R C K : Nat} {L : List Int} {b : Int} (hM : MulB R C K L b) : Eqv R R C (mf C L) (trF b R C L) := by
  obtain ⟨hb, _, hCR, q, hq, hqR, _, hbe⟩ := hM
  obtain ⟨h1, h2, h3⟩ := fil_sp hb C L R
  have hr := rdT_eqv (fil_ok hb C L R) C (Nat.le_refl _)
  have hin : ∀ t, t < C → SpZ R C (trF b R C L) (trF b R C L t) := fun t ht => SpZ.row _ (by omega)
  refine ⟨fun i hi => ((h2 i hi).trans hr.1).trans hin, fun t ht => ?_⟩
  rcases Nat.lt_or_ge t C with h | h
  · refine (hr.2 t h).trans fun i hi => h3 R (mf C L) (fun j hj => ?_) (fun r hr => SpZ.row _ hr) i hi
    have := mul_span (A := mf C L) hq hqR hj
    rw [← hbe] at this
    exact this
  · exact (SpZ.zero _).congr fun k _ => trF_out hb h
/-- no number is greater than any multiple -/
theorem trF_small {R C K K' : Nat} {L : List Int} {b b' : Int} (hM : MulB R C K L b) (hM' : MulB R C K' L b') (i j : Nat) : trF b R C L i j ≤ b' := by
  have hb := hM.1
  have hb' := hM'.1
  have hd : ∀ k, k < C → trF b R C L k k ≤ b' := fun k hk => by
    obtain ⟨_, _, hCR, q, hq, hqR, _, hbe⟩ := hM'
    have h1 := mul_span (A := mf C L) hq hqR hk
    rw [← hbe] at h1
    have h2 : SpZ R C (trF b R C L) fun l => if l = k then b' else 0 := h1.trans (trF_eqv hM).1
    obtain ⟨r, hr, e1, e2⟩ := (trF_form (R := R) hb).key h2 hk (fun l hl => if_neg (by omega)) (by rw [if_pos rfl]; omega)
    rw [if_pos rfl] at e2
    have hrC : r < C := by
      rcases Nat.lt_or_ge r C with h | h
      · exact h
      · rw [fc_all fun l _ => trF_out hb h] at e1; omega
    rw [trF_fc hb hrC] at e1
    subst e1
    exact Int.le_of_dvd hb' e2
  rcases Nat.lt_or_ge i C with hi | hi
  · rcases Nat.lt_or_ge j C with hj | hj
    · rcases Nat.lt_trichotomy i j with h | h | h
      · have h1 := trF_up (R := R) (L := L) hb h hj
        have h2 := hd j hj
        omega
      · subst h; exact hd i hi
      · rw [trF_low hb h]; omega
    · obtain ⟨p, hp⟩ : ∃ p, (filT b R C L)[i]? = some p := ⟨_, List.getElem?_eq_getElem (by rw [filT_len _ _ _ _ hb]; exact hi)⟩
      unfold trF
      rw [E_of hp, cf_high (by rw [filT_row hb p (List.mem_of_getElem? hp)]; exact hj)]
      omega
  · rw [trF_out hb hi]; omega
theorem hmL_small {R C K K' : Nat} {L : List Int} {b b' : Int} (hM : MulB R C K L b) (hM' : MulB R C K' L b') (j : Nat) : cf (hmL b R C L) j ≤ b' := by
  unfold hmL tab
  rw [cf_tab]
  split
  · exact trF_small hM hM' _ _
  · have := hM'.1; omega
/-- what a program that does nothing does not answer -/
theorem aw15_b : Bd [2, 0, 0, 3, 1, 1] 1 := bd64 (by decide)
theorem aw15 {K : Nat} {b : Int} (hM : MulB 3 2 K [2, 0, 0, 3, 1, 1] b) : ixv b 3 2 [2, 0, 0, 3, 1, 1] 2 = 1 := by
  have hb := hM.1
  have hf := trF_form (R := 3) (C := 2) (L := [2, 0, 0, 3, 1, 1]) hb
  have he := trF_eqv hM
  have key : ∀ (c : Nat) (v : Nat → Int), c < 2 → SpZ 3 2 (mf 2 [2, 0, 0, 3, 1, 1]) v → (∀ l, l < c → v l = 0) → v c = 1 → trF b 3 2 [2, 0, 0, 3, 1, 1] c c = 1 := fun c v hc hv h0 h1 => by
    obtain ⟨r, hr, e1, e2⟩ := hf.key (hv.trans he.1) hc h0 (by omega)
    have hrC : r < 2 := by
      rcases Nat.lt_or_ge r 2 with h | h
      · exact h
      · rw [fc_all fun l _ => trF_out hb h] at e1; omega
    rw [trF_fc hb hrC] at e1
    subst e1
    rw [h1] at e2
    have hp := (trF_dia (R := 3) (L := [2, 0, 0, 3, 1, 1]) hb hrC).1
    have := Int.le_of_dvd (by decide) e2
    omega
  have d0 := key 0 (mf 2 [2, 0, 0, 3, 1, 1] 2) (by decide) (SpZ.row _ (by decide)) (fun l hl => absurd hl (Nat.not_lt_zero _)) rfl
  have d1 := key 1 (fun k => if k = 1 then 1 else 0) (by decide) ⟨fun i => if i = 2 then -2 else 1, by decide⟩ (fun l hl => if_neg (by omega)) rfl
  show 1 * trF b 3 2 [2, 0, 0, 3, 1, 1] 0 0 * trF b 3 2 [2, 0, 0, 3, 1, 1] 1 1 = 1
  rw [d0, d1]; rfl
theorem aw15_p : (pivs (mf 2 [2, 0, 0, 3, 1, 1]) 3 2).length = 2 := by decide
theorem aw15_tab : tab (3 * 2) 2 (fun i k => cf [2, 0, 0, 3, 1, 1] (i * 2 + k)) = [2, 0, 0, 3, 1, 1] := by decide
end Go.Tr
/- Contracts: the document's matrices. -/
namespace Go.Proofs.Ytahoiilikhncgaa
open Go.En Go.RowKit
set_option linter.unusedVariables false
set_option maxRecDepth 10000
open Go.Nt
open Go.Pz
open Go.Mz
open Go.Dt
set_option maxHeartbeats 4000000 in
theorem ref11_Few {r c n w : Int} {xs : List (Bool × List Nat)} : Ctr Try.prog 11 [isM r c xs, isI n, isI w] (isB (decide (r ≤ n) && decide (c ≤ n) && fewB xs 100 w)) := by
  refine Ctr.intro Try.func11 rfl (by kernel_rfl) Try.ntmps11 rfl fun w0 F0 => ?_
  refine Tri.cv (Cv.wk (.cons (t := 0) (Has.t rfl) (.cons (t := 1) (Has.t rfl) (.cons (t := 2) (Has.t rfl) .nil)))) ?_
  refine Tri.fact (Has.rngI (Has.t (t := 1) rfl)) fun lt1 => ?_
  refine Tri.fact (Has.rngI (Has.t (t := 2) rfl)) fun lt2 => ?_
  refine Tri.seq fun K1 hK1 => ?_
  refine Tri.region ?_
  refine Ops.box (Has.t rfl) rfl fun b1 => ?_
  refine st (OK1.as (Has.cB false)) rfl ?_
  refine nl ?_
  refine At.thn (hK1 _ _ ?_); clear hK1
  refine Tri.seq fun K2 hK2 => ?_
  refine Tri.region ?_
  refine st (OK1.fieldAddr (Has.t rfl) fld24_0 ty3) rfl ?_
  refine st (OK1.load1 (Has.t rfl) (i := 0) rfl ty3 rfl) rfl ?_
  refine st (OK1.mv (Has.t rfl)) rfl ?_
  refine st (OK1.leI (Has.t rfl) (Has.t rfl)) rfl ?_
  refine st (OK1.mv (Has.t rfl)) rfl ?_
  refine stT rfl rfl (fun hg => have hg' := BP.t hg; OK1.fieldAddr (Has.t rfl) fld24_1 ty3) rfl ?_
  refine stT rfl rfl (fun hg => have hg' := BP.t hg; OK1.load1 (Has.g rfl hg) (i := 0) rfl ty3 rfl) rfl ?_
  refine stT rfl rfl (fun hg => have hg' := BP.t hg; OK1.mv (Has.t rfl)) rfl ?_
  refine stT rfl rfl (fun hg => have hg' := BP.t hg; OK1.leI (Has.g rfl hg) (Has.g rfl hg)) rfl ?_
  refine st (OK1.pickAnd (Has.t rfl) (fun h => Has.g rfl h)) rfl ?_
  refine st (OK1.mv (Has.t rfl)) rfl ?_
  refine stT rfl rfl (fun hg => have hg' := BP.t hg; OK1.fieldAddr (Has.t rfl) fld24_2 ty22) rfl ?_
  refine stT rfl rfl (fun hg => have hg' := BP.t hg; OK1.load1 (Has.g rfl hg) (i := 0) rfl ty22 rfl) rfl ?_
  refine stT rfl rfl (fun hg => have hg' := BP.t hg; OK1.mv (Has.t rfl)) rfl ?_
  refine stT rfl rfl (fun hg => have hg' := BP.t hg; OK1.call (ref10_Few) (.cons (Has.g rfl hg) (.cons (Has.cI 100 rfl) (.cons (Has.g rfl hg) .nil)))) rfl ?_
  refine st (OK1.pickAnd (Has.t rfl) (fun h => Has.g rfl h)) rfl ?_
  refine st (OK1.as (Has.t rfl)) rfl ?_
  refine nl ?_
  refine At.thn (hK2 _ _ ?_); clear hK2
  refine Tri.cv (Cv.wk (.cons (t := 6) (Has.t rfl) .nil)) ?_
  refine Tri.ret ?_
  refine rt1 (.inl rfl) Try.results11 rfl (.tmp (Has.t' rfl ?_) .nil)
  all_goals (rfl)
end Go.Proofs.Ytahoiilikhncgaa
/- Contracts: layer 15's laws: what a program that does nothing does not answer. -/
namespace Go.Proofs.Ytahoiilikhncgaa
open Go.En Go.RowKit
set_option linter.unusedVariables false
set_option maxRecDepth 10000
open Go.Nt
open Go.Pz
open Go.Mz
open Go.Hn
open Go.Hp
open Go.Tr
open Go.Dt
set_option maxHeartbeats 4000000 in
theorem law15_awakeX  : CtrX Try.prog 27 [] ([]) (fun S M => S = isB true) := by
  refine CtrX.intro Try.func27 rfl (by kernel_rfl) Try.ntmps27 rfl fun w0 F0 => ?_
  refine Tri.cv (Cv.wk .nil) ?_
  have h1 : (List.length (words (1 : Int).natAbs)) ≤ 1 := nw_small' (by decide)
  refine Tri.seq fun K1 hK1 => ?_
  refine Tri.region ?_
  refine st (OK1.as (Has.cB false)) rfl ?_
  refine nl ?_
  refine At.thn (hK1 _ _ ?_); clear hK1
  refine Tri.seq fun K2 hK2 => ?_
  refine Tri.region ?_
  refine st (OK1.buildS [isI 0, isI 0, isI 0, isI 0, isI 0, isI 0] sl113 ty2 zero2 (fun _ _ => ⟨⟨rfl, by decide, by decide⟩, ⟨rfl, by decide, by decide⟩, ⟨rfl, by decide, by decide⟩, ⟨rfl, by decide, by decide⟩, ⟨rfl, by decide, by decide⟩, ⟨rfl, by decide, by decide⟩, trivial⟩) rfl rfl (.cons (Has.cI 2 rfl) rfl rfl rfl (.cons (Has.cI 0 rfl) rfl rfl rfl (.cons (Has.cI 0 rfl) rfl rfl rfl (.cons (Has.cI 3 rfl) rfl rfl rfl (.cons (Has.cI 1 rfl) rfl rfl rfl (.cons (Has.cI 1 rfl) rfl rfl rfl .nil)))))) rfl (S := SlM isI [_, _, _, _, _, _]) rfl) rfl ?_
  refine st (OK1.eq (OK1.call (zmat_Of (R := 3) (C := 2) (l := [2, 0, 0, 3, 1, 1]) (by decide) (by decide) rfl (by decide)) (.cons (Has.cI 3 rfl) (.cons (Has.cI 2 rfl) (.cons (Has.t rfl) .nil)))) ((show isTup [isMz 3 2 _, isI 0] = isTup [isMz 3 2 [2, 0, 0, 3, 1, 1], isI 0] from by rw [aw15_tab]))) rfl ?_
  refine st (OK1.mv (Has.t rfl)) rfl ?_
  refine st (OK1.ext (Has.t rfl) rfl) rfl ?_
  refine st (OK1.ext (Has.t rfl) rfl) rfl ?_
  refine Ops.alloc [isI 0, isI 0, nilS] zero24 (fun _ _ => ⟨⟨rfl, by decide, by decide⟩, ⟨rfl, by decide, by decide⟩, rfl, trivial⟩) rfl fun b1 => ?_
  refine Ops.store (Has.t rfl) (Has.t rfl) (i := 0) rfl ty24 rfl rfl (Ss' := [_, _, _]) rfl (M' := [(some _, cellM [_, _, _])]) rfl ?_
  refine st (OK1.as (Has.t rfl)) rfl ?_
  refine nl ?_
  refine At.thn (hK2 _ _ ?_); clear hK2
  refine Tri.cv (Cv.wk (.cons (t := 0) (Has.t rfl) (.cons (t := 1) (Has.t rfl) .nil))) ?_
  refine Tri.seq fun K3 hK3 => ?_
  refine Tri.region ?_
  refine st (OK1.load (Has.t rfl) (i := 0) rfl ty24 rfl (Ss' := [_, _, _]) rfl) rfl ?_
  refine Ops.callX (modhnf_Index (R := 3) (C := 2) (K := 1) (xs := [2, 0, 0, 3, 1, 1].map nz) (by rw [vals_nz]; exact aw15_b) (by decide) (by decide) (by decide) rfl (by decide) (by decide) (by rw [vals_nz]; exact aw15_p)) (List.Perm.refl _) (.cons (Has.t rfl) .nil) rfl ?_
  rintro _ _ ⟨b, rfl, rfl, hMB⟩
  rw [vals_nz] at hMB
  have hix := aw15 hMB
  refine st (OK1.mv (Has.t rfl)) rfl ?_
  refine st (OK1.eq (OK1.ext (Has.t rfl) rfl) ((show _ = isZ 1 from isZ_eq (by rw [vals_nz, hix])))) rfl ?_
  refine st (OK1.ext (Has.t rfl) rfl) rfl ?_
  refine Ops.alloc [isB false, SlM isU []] zero32 (fun _ _ => ⟨rfl, nilM _ _, trivial⟩) rfl fun b2 => ?_
  refine Ops.store (Has.t rfl) (Has.t rfl) (i := 0) rfl ty32 rfl rfl (Ss' := [_, _]) rfl (M' := [(some _, cellM [_, _]), _]) rfl ?_
  refine st (OK1.as (Has.t rfl)) rfl ?_
  refine nl ?_
  refine At.thn (hK3 _ _ ?_); clear hK3
  refine Tri.cv (Cv.wk (.cons (t := 0) (Has.t rfl) (.cons (t := 1) (Has.t rfl) (.cons (t := 3) (Has.t rfl) (.cons (t := 4) (Has.t rfl) .nil))))) ?_
  refine Tri.seq fun K4 hK4 => ?_
  refine Tri.region ?_
  refine st (OK1.load (Has.t rfl) (i := 1) rfl ty24 rfl (Ss' := [_, _, _]) rfl) rfl ?_
  refine Ops.callX (modhnf_Hermite (R := 3) (C := 2) (K := 1) (xs := [2, 0, 0, 3, 1, 1].map nz) (by rw [vals_nz]; exact aw15_b) (by decide) (by decide) (by decide) rfl (by decide) (by decide) (by rw [vals_nz]; exact aw15_p)) (List.Perm.refl _) (.cons (Has.t rfl) .nil) rfl ?_
  rintro _ _ ⟨b', rfl, rfl, hMB2⟩
  have hll : ((hmL b' 3 2 (vals ([2, 0, 0, 3, 1, 1].map nz))).map nz).length = 6 := by rw [List.length_map, hmL_len]
  refine st (OK1.mv (Has.t rfl)) rfl ?_
  refine st (OK1.ext (Has.t rfl) rfl) rfl ?_
  refine st (OK1.ext (Has.t rfl) rfl) rfl ?_
  refine Ops.alloc [isI 0, isI 0, nilS] zero24 (fun _ _ => ⟨⟨rfl, by decide, by decide⟩, ⟨rfl, by decide, by decide⟩, rfl, trivial⟩) rfl fun b3 => ?_
  refine Ops.store (Has.t rfl) (Has.t rfl) (i := 0) rfl ty24 rfl rfl (Ss' := [_, _, _]) rfl (M' := [(some _, cellM [_, _, _]), _, _]) rfl ?_
  refine st (OK1.as (Has.t rfl)) rfl ?_
  refine nl ?_
  refine At.thn (hK4 _ _ ?_); clear hK4
  refine Tri.cv (Cv.wk (.cons (t := 0) (Has.t rfl) (.cons (t := 3) (Has.t rfl) (.cons (t := 4) (Has.t rfl) (.cons (t := 5) (Has.t rfl) (.cons (t := 6) (Has.t rfl) .nil)))))) ?_
  refine Tri.seq fun K5 hK5 => ?_
  refine Tri.dr ?_
  refine DrG.st (i := 0) [] rfl rfl rfl (by kernel_rfl) (OKG.o rfl (OK1.mv (Has.t rfl))) ?_
  refine DrG.st (i := 1) [22] rfl rfl rfl (by kernel_rfl) (OKG.o rfl (OK1.eqI (Has.t rfl) (Has.cI 0 rfl))) ?_
  refine DrG.st (i := 2) [23] rfl rfl rfl (by kernel_rfl) (OKG.o rfl (OK1.mv (Has.t rfl))) ?_
  refine DrG.st (i := 3) [24] rfl rfl rfl (by kernel_rfl) (OKG.T rfl rfl rfl (fun hg => have hg' := BP.t hg; OK1.mv (Has.t rfl))) ?_
  refine DrG.st (i := 4) [24, 25] rfl rfl rfl (by kernel_rfl) (OKG.T rfl rfl rfl (fun hg => have hg' := BP.t hg; OK1.eqI (Has.g rfl hg) (Has.cI 0 rfl))) ?_
  refine DrG.st (i := 5) [24, 26] rfl rfl rfl (by kernel_rfl) (OKG.o rfl (OK1.pickAnd (Has.t rfl) (fun h => Has.g rfl h))) ?_
  refine DrG.st (i := 6) [27] rfl rfl rfl (by kernel_rfl) (OKG.o rfl (OK1.mv (Has.t rfl))) ?_
  refine DrG.st (i := 7) [28] rfl rfl rfl (by kernel_rfl) (OKG.T rfl rfl rfl (fun hg => have hg' := BP.t hg; OK1.load (Has.t rfl) (i := 1) rfl ty32 rfl (Ss' := [_, _]) rfl)) ?_
  refine DrG.st (i := 8) [28] rfl rfl rfl (by kernel_rfl) (OKG.T rfl rfl rfl (fun hg => have hg' := BP.t hg; OK1.call (zint_Of) (.cons (Has.cI 1 rfl) .nil))) ?_
  refine DrG.fin (n := 9) mixed (by kernel_rfl) (by kernel_rfl) (by kernel_rfl) ?_
  refine Ops.cv (Cv.wk (.cons (t := 0) (Has.t rfl) (.cons (t := 5) (Has.t rfl) (.cons (t := 28) (Has.t rfl) (.cons (t := 29) (Has.t rfl) (.cons (t := 30) (Has.t rfl) .nil)))))) ?_
  refine stT rfl rfl (fun hg => have hg' := BP.t hg; OK1.eq (OK1.call (zint_Same (by rw [val_words]; omega) (by rw [val_words]; omega)) (.cons (Has.g rfl hg) (.cons (Has.g rfl hg) .nil))) ((show isB _ = isB true from isB_eq (decide_eq_true (by simp only [zv_nf]))))) rfl ?_
  refine st (OK1.pickAnd (Has.t rfl) (fun h => Has.g rfl h)) rfl ?_
  refine st (OK1.mv (Has.t rfl)) rfl ?_
  refine stT rfl rfl (fun hg => have hg' := BP.t hg; OK1.fieldAddr (Has.t rfl) fld24_0 ty3) rfl ?_
  refine stT rfl rfl (fun hg => have hg' := BP.t hg; OK1.load1 (Has.g rfl hg) (i := 0) rfl ty3 rfl) rfl ?_
  refine stT rfl rfl (fun hg => have hg' := BP.t hg; OK1.eqI (Has.g rfl hg) (Has.cI 3 rfl)) rfl ?_
  refine st (OK1.pickAnd (Has.t rfl) (fun h => Has.g rfl h)) rfl ?_
  refine st (OK1.mv (Has.t rfl)) rfl ?_
  refine stT rfl rfl (fun hg => have hg' := BP.t hg; OK1.fieldAddr (Has.t rfl) fld24_2 ty22) rfl ?_
  refine stT rfl rfl (fun hg => have hg' := BP.t hg; OK1.load1 (Has.g rfl hg) (i := 0) rfl ty22 rfl) rfl ?_
  refine stT rfl rfl (fun hg => have hg' := BP.t hg; OK1.len sl22 (Has.g rfl hg)) rfl ?_
  refine stT rfl rfl (fun hg => have hg' := BP.t hg; OK1.eqI (Has.g rfl hg) (Has.cI 6 rfl)) rfl ?_
  refine st (OK1.pickAnd (Has.t rfl) (fun h => Has.g rfl h)) rfl ?_
  refine st (OK1.as (Has.t rfl)) rfl ?_
  refine nl ?_
  refine At.thn (hK5 _ _ ?_); clear hK5
  refine Tri.cv (Cv.wk (.cons (t := 0) (Has.t rfl) .nil)) ?_
  refine Tri.ret ?_
  refine rtX1 (.inl rfl) Try.results27 rfl (.tmp (Has.t rfl) .nil) ?_
  exact isB_eq (by rw [hll]; rfl)
theorem law15_awake : Ctr Try.prog 27 [] (isB true) := law15_awakeX.toCtr fun S' M' hh => hh
theorem tri_small {w R C : Nat} (hw : w ≤ 2) (hR : R ≤ 5) (hC : C ≤ 5) : ((w + 1) * 2 ^ R + 2) * 2 ^ C ≤ 80000000 := by
  have h1 := Nat.pow_le_pow_right (show 0 < 2 by decide) hR
  have h2 := Nat.pow_le_pow_right (show 0 < 2 by decide) hC
  have h3 : (w + 1) * 2 ^ R ≤ 3 * 2 ^ 5 := Nat.mul_le_mul (by omega) h1
  have h4 : ((w + 1) * 2 ^ R + 2) * 2 ^ C ≤ (3 * 2 ^ 5 + 2) * 2 ^ 5 := Nat.mul_le_mul (by omega) h2
  omega
theorem tri_small2 {w R : Nat} (hw : w ≤ 2) (hR : R ≤ 5) : (w + 1) * 2 ^ R ≤ 30000000 := by
  have h1 := Nat.pow_le_pow_right (show 0 < 2 by decide) hR
  have h3 : (w + 1) * 2 ^ R ≤ 3 * 2 ^ 5 := Nat.mul_le_mul (by omega) h1
  omega
end Go.Proofs.Ytahoiilikhncgaa
/- A law of layer 15: no number is greater than the multiple, as a contract. -/
namespace Go.Proofs.Ytahoiilikhncgaa
open Go.En Go.RowKit
set_option linter.unusedVariables false
set_option maxRecDepth 10000
open Go.Nt
open Go.Pz
open Go.Mz
open Go.Hn
open Go.Hp
open Go.Tr
open Go.Dt
theorem cmp_le {x y : Int} (h : x ≤ y) : cmpZ x y ≤ 0 := by unfold cmpZ; (repeat' split) <;> omega
set_option maxHeartbeats 4000000 in
theorem c_ModhnfBounded_bad (r c : Int) (xs : List (Bool × List Nat)) (hf : formB r c xs.length = false) : Ctr Try.prog 8 [isM r c xs] (isB true) := by
  refine Ctr.intro Try.func8 rfl (by kernel_rfl) Try.ntmps8 rfl fun w0 F0 => ?_
  refine Tri.cv (Cv.wk (.cons (t := 0) (Has.t rfl) .nil)) ?_
  refine Tri.seq fun K1 hK1 => ?_
  refine Tri.region ?_
  refine Ops.box (Has.t rfl) rfl fun b1 => ?_
  refine st (OK1.as (Has.cB false)) rfl ?_
  refine nl ?_
  refine At.thn (hK1 _ _ ?_); clear hK1
  refine Tri.seq fun K2 hK2 => ?_
  refine Tri.seq fun K3 hK3 => ?_
  refine Tri.region ?_
  refine st (OK1.call law15_awake .nil) rfl ?_
  refine st (OK1.not (Has.t rfl)) rfl ?_
  refine st (OK1.mv (Has.t rfl)) rfl ?_
  refine stF rfl rfl (fun hg => have hg' := BP.t hg; OK1.load (Has.t rfl) (i := 0) rfl ty24 rfl (Ss' := [_, _, _]) rfl) rfl ?_
  refine stF rfl rfl (fun hg => have hg' := BP.t hg; OK1.call (ref11_Few) (.cons (Has.g rfl hg) (.cons (Has.cI 5 rfl) (.cons (Has.cI 2 rfl) .nil)))) rfl ?_
  refine stF rfl rfl (fun hg => have hg' := BP.t hg; OK1.not (Has.g rfl hg)) rfl ?_
  refine st (OK1.pickOr (Has.t rfl) (fun h => Has.g rfl (ng h))) rfl ?_
  refine nl ?_
  refine At.thn (hK3 _ _ ?_); clear hK3
  refine Tri.cv (Cv.wk (.cons (t := 1) (Has.t rfl) (.cons (t := 2) (Has.t rfl) (.cons (t := 14) (Has.t rfl) .nil)))) ?_
  refine Tri.cond (Has.t rfl) (fun hc1 => ?_) (fun hc1 => ?_)
  · have hc1 := BP.t hc1
    refine Tri.seq fun K4 hK4 => ?_
    refine Tri.region ?_
    refine st (OK1.call law15_awake .nil) rfl ?_
    refine st (OK1.as (Has.t rfl)) rfl ?_
    refine nl ?_
    refine At.thn (hK4 _ _ ?_); clear hK4
    refine Tri.ret ?_
    refine At.thr ?_
    refine rt1 (.inl rfl) Try.results8 rfl (.tmp (Has.t' rfl ?_) .nil)
    all_goals (rfl)
  · have hc1 := BP.f hc1
    refine Tri.skip ?_
    refine At.thn (hK2 _ _ ?_); clear hK2
    refine Tri.seq fun K5 hK5 => ?_
    refine Tri.region ?_
    refine st (OK1.load (Has.t rfl) (i := 0) rfl ty24 rfl (Ss' := [_, _, _]) rfl) rfl ?_
    refine st (OK1.call (modhnf_Hermite_bad hf) (.cons (Has.t rfl) .nil)) rfl ?_
    refine st (OK1.mv (Has.t rfl)) rfl ?_
    refine st (OK1.ext (Has.t rfl) rfl) rfl ?_
    refine st (OK1.ext (Has.t rfl) rfl) rfl ?_
    refine Ops.alloc [isI 0, isI 0, nilS] zero24 (fun _ _ => ⟨⟨rfl, by decide, by decide⟩, ⟨rfl, by decide, by decide⟩, rfl, trivial⟩) rfl fun b2 => ?_
    refine Ops.store (Has.t rfl) (Has.t rfl) (i := 0) rfl ty24 rfl rfl (Ss' := [_, _, _]) rfl (M' := [(some _, cellM [_, _, _]), _]) rfl ?_
    refine st (OK1.as (Has.t rfl)) rfl ?_
    refine nl ?_
    refine At.thn (hK5 _ _ ?_); clear hK5
    refine Tri.cv (Cv.wk (.cons (t := 1) (Has.t rfl) (.cons (t := 2) (Has.t rfl) (.cons (t := 3) (Has.t rfl) (.cons (t := 4) (Has.t rfl) .nil))))) ?_
    refine Tri.seq fun K6 hK6 => ?_
    refine Tri.region ?_
    refine st (OK1.load (Has.t rfl) (i := 1) rfl ty24 rfl (Ss' := [_, _, _]) rfl) rfl ?_
    refine st (OK1.call (modhnf_Multiple_bad hf) (.cons (Has.t rfl) .nil)) rfl ?_
    refine st (OK1.mv (Has.t rfl)) rfl ?_
    refine st (OK1.ext (Has.t rfl) rfl) rfl ?_
    refine st (OK1.ext (Has.t rfl) rfl) rfl ?_
    refine Ops.alloc [isB false, SlM isU []] zero32 (fun _ _ => ⟨rfl, nilM _ _, trivial⟩) rfl fun b3 => ?_
    refine Ops.store (Has.t rfl) (Has.t rfl) (i := 0) rfl ty32 rfl rfl (Ss' := [_, _]) rfl (M' := [(some _, cellM [_, _]), _, _]) rfl ?_
    refine st (OK1.as (Has.t rfl)) rfl ?_
    refine nl ?_
    refine At.thn (hK6 _ _ ?_); clear hK6
    refine Tri.cv (Cv.wk (.cons (t := 2) (Has.t rfl) (.cons (t := 3) (Has.t rfl) (.cons (t := 4) (Has.t rfl) (.cons (t := 5) (Has.t rfl) (.cons (t := 6) (Has.t rfl) .nil)))))) ?_
    refine Tri.seq fun K7 hK7 => ?_
    refine Tri.seq fun K8 hK8 => ?_
    refine Tri.region ?_
    refine st (OK1.mv (Has.t rfl)) rfl ?_
    refine st (OK1.neI (Has.t rfl) (Has.cI 0 rfl)) rfl ?_
    refine nl ?_
    refine At.thn (hK8 _ _ ?_); clear hK8
    refine Tri.cond (Has.t rfl) (fun hc2 => ?_) (fun hc2 => ?_)
    · have hc2 := BP.t hc2
      skip
      refine Tri.seq fun K9 hK9 => ?_
      refine Tri.region ?_
      refine st (OK1.mv (Has.t rfl)) rfl ?_
      refine st (OK1.mv (Has.t rfl)) rfl ?_
      refine st (OK1.eqI (Has.t rfl) (Has.t rfl)) rfl ?_
      refine st (OK1.as (Has.t rfl)) rfl ?_
      refine nl ?_
      refine At.thn (hK9 _ _ ?_); clear hK9
      refine Tri.cv (Cv.wk (.cons (t := 2) (Has.t rfl) (.cons (t := 3) (Has.t rfl) (.cons (t := 5) (Has.t rfl) (.cons (t := 6) (Has.t rfl) .nil))))) ?_
      refine Tri.ret ?_
      refine At.thr ?_
      refine rt1 (.inl rfl) Try.results8 rfl (.tmp (Has.t' rfl ?_) .nil)
      all_goals (rfl)
    · have hc2 := BP.f hc2
      exfalso; simp at hc2
set_option maxHeartbeats 4000000 in
theorem c_ModhnfBounded_no (R C : Nat) (xs : List (Bool × List Nat)) (hR : R ≤ 64) (hC : C ≤ 64) (hl : xs.length = R * C) (hp : (Go.Dt.pivs (mf C (vals xs)) R C).length < C) : CtrX Try.prog 8 [isM (R : Int) (C : Int) xs] ([]) (fun S M => S = isB true) := by
  refine CtrX.intro Try.func8 rfl (by kernel_rfl) Try.ntmps8 rfl fun w0 F0 => ?_
  refine Tri.cv (Cv.wk (.cons (t := 0) (Has.t rfl) .nil)) ?_
  refine Tri.fact (Has.okM (Has.t (t := 0) rfl)) fun okp0 => ?_
  refine Tri.seq fun K1 hK1 => ?_
  refine Tri.region ?_
  refine Ops.box (Has.t rfl) rfl fun b1 => ?_
  refine st (OK1.as (Has.cB false)) rfl ?_
  refine nl ?_
  refine At.thn (hK1 _ _ ?_); clear hK1
  refine Tri.seq fun K2 hK2 => ?_
  refine Tri.seq fun K3 hK3 => ?_
  refine Tri.region ?_
  refine st (OK1.call law15_awake .nil) rfl ?_
  refine st (OK1.not (Has.t rfl)) rfl ?_
  refine st (OK1.mv (Has.t rfl)) rfl ?_
  refine stF rfl rfl (fun hg => have hg' := BP.t hg; OK1.load (Has.t rfl) (i := 0) rfl ty24 rfl (Ss' := [_, _, _]) rfl) rfl ?_
  refine stF rfl rfl (fun hg => have hg' := BP.t hg; OK1.call (ref11_Few) (.cons (Has.g rfl hg) (.cons (Has.cI 5 rfl) (.cons (Has.cI 2 rfl) .nil)))) rfl ?_
  refine stF rfl rfl (fun hg => have hg' := BP.t hg; OK1.not (Has.g rfl hg)) rfl ?_
  refine st (OK1.pickOr (Has.t rfl) (fun h => Has.g rfl (ng h))) rfl ?_
  refine nl ?_
  refine At.thn (hK3 _ _ ?_); clear hK3
  refine Tri.cv (Cv.wk (.cons (t := 1) (Has.t rfl) (.cons (t := 2) (Has.t rfl) (.cons (t := 14) (Has.t rfl) .nil)))) ?_
  refine Tri.cond (Has.t rfl) (fun hc1 => ?_) (fun hc1 => ?_)
  · have hc1 := BP.t hc1
    skip
    refine Tri.seq fun K4 hK4 => ?_
    refine Tri.region ?_
    refine st (OK1.call law15_awake .nil) rfl ?_
    refine st (OK1.as (Has.t rfl)) rfl ?_
    refine nl ?_
    refine At.thn (hK4 _ _ ?_); clear hK4
    refine Tri.ret ?_
    refine At.thr ?_
    refine rtX1D (.cons _ .slnil) (.inl rfl) Try.results8 rfl (.tmp (Has.t rfl) .nil) ?_
    exact rfl
  · have hc1 := BP.f hc1
    have HF0 : ((R : Int) ≤ 5 ∧ (C : Int) ≤ 5) ∧ fewB xs 100 2 = true := (by simpa [and_assoc] using hc1)
    obtain ⟨⟨hR5, hC5⟩, HF⟩ := HF0
    obtain ⟨hl0, hb⟩ := fewB_bd (N := 100) (K := 2) okp0 HF rfl rfl (by decide)
    have hz1 : ((2 + 1) * 2 ^ R + 2) * 2 ^ C ≤ 80000000 := tri_small (by decide) (by omega) (by omega)
    have hz2 : (2 + 1) * 2 ^ R ≤ 30000000 := tri_small2 (by decide) (by omega)
    refine Tri.skip ?_
    refine At.thn (hK2 _ _ ?_); clear hK2
    refine Tri.seq fun K5 hK5 => ?_
    refine Tri.region ?_
    refine st (OK1.load (Has.t rfl) (i := 0) rfl ty24 rfl (Ss' := [_, _, _]) rfl) rfl ?_
    refine Ops.callX (modhnf_Hermite_no hb (by decide) hR hC hl hz1 hz2 hp) (List.Perm.refl _) (.cons (Has.t rfl) .nil) rfl ?_
    rintro _ _ ⟨rfl, rfl⟩
    refine st (OK1.mv (Has.t rfl)) rfl ?_
    refine st (OK1.ext (Has.t rfl) rfl) rfl ?_
    refine st (OK1.ext (Has.t rfl) rfl) rfl ?_
    refine Ops.alloc [isI 0, isI 0, nilS] zero24 (fun _ _ => ⟨⟨rfl, by decide, by decide⟩, ⟨rfl, by decide, by decide⟩, rfl, trivial⟩) rfl fun b2 => ?_
    refine Ops.store (Has.t rfl) (Has.t rfl) (i := 0) rfl ty24 rfl rfl (Ss' := [_, _, _]) rfl (M' := [(some _, cellM [_, _, _]), _]) rfl ?_
    refine st (OK1.as (Has.t rfl)) rfl ?_
    refine nl ?_
    refine At.thn (hK5 _ _ ?_); clear hK5
    refine Tri.cv (Cv.wk (.cons (t := 1) (Has.t rfl) (.cons (t := 2) (Has.t rfl) (.cons (t := 3) (Has.t rfl) (.cons (t := 4) (Has.t rfl) .nil))))) ?_
    refine Tri.seq fun K6 hK6 => ?_
    refine Tri.region ?_
    refine st (OK1.load (Has.t rfl) (i := 1) rfl ty24 rfl (Ss' := [_, _, _]) rfl) rfl ?_
    refine Ops.callX (modhnf_Multiple_no hb (by decide) hR hC hl hz2 hp) (List.Perm.refl _) (.cons (Has.t rfl) .nil) rfl ?_
    rintro _ _ ⟨rfl, rfl⟩
    refine st (OK1.mv (Has.t rfl)) rfl ?_
    refine st (OK1.ext (Has.t rfl) rfl) rfl ?_
    refine st (OK1.ext (Has.t rfl) rfl) rfl ?_
    refine Ops.alloc [isB false, SlM isU []] zero32 (fun _ _ => ⟨rfl, nilM _ _, trivial⟩) rfl fun b3 => ?_
    refine Ops.store (Has.t rfl) (Has.t rfl) (i := 0) rfl ty32 rfl rfl (Ss' := [_, _]) rfl (M' := [(some _, cellM [_, _]), _, _]) rfl ?_
    refine st (OK1.as (Has.t rfl)) rfl ?_
    refine nl ?_
    refine At.thn (hK6 _ _ ?_); clear hK6
    refine Tri.cv (Cv.wk (.cons (t := 2) (Has.t rfl) (.cons (t := 3) (Has.t rfl) (.cons (t := 4) (Has.t rfl) (.cons (t := 5) (Has.t rfl) (.cons (t := 6) (Has.t rfl) .nil)))))) ?_
    refine Tri.seq fun K7 hK7 => ?_
    refine Tri.seq fun K8 hK8 => ?_
    refine Tri.region ?_
    refine st (OK1.mv (Has.t rfl)) rfl ?_
    refine st (OK1.neI (Has.t rfl) (Has.cI 0 rfl)) rfl ?_
    refine nl ?_
    refine At.thn (hK8 _ _ ?_); clear hK8
    refine Tri.cond (Has.t rfl) (fun hc2 => ?_) (fun hc2 => ?_)
    · have hc2 := BP.t hc2
      skip
      refine Tri.seq fun K9 hK9 => ?_
      refine Tri.region ?_
      refine st (OK1.mv (Has.t rfl)) rfl ?_
      refine st (OK1.mv (Has.t rfl)) rfl ?_
      refine st (OK1.eqI (Has.t rfl) (Has.t rfl)) rfl ?_
      refine st (OK1.as (Has.t rfl)) rfl ?_
      refine nl ?_
      refine At.thn (hK9 _ _ ?_); clear hK9
      refine Tri.cv (Cv.wk (.cons (t := 2) (Has.t rfl) (.cons (t := 3) (Has.t rfl) (.cons (t := 5) (Has.t rfl) (.cons (t := 6) (Has.t rfl) .nil))))) ?_
      refine Tri.ret ?_
      refine At.thr ?_
      refine rtX1D (.cons _ (.cons _ (.cons _ .slnil))) (.inl rfl) Try.results8 rfl (.tmp (Has.t rfl) .nil) ?_
      exact rfl
    · have hc2 := BP.f hc2
      exfalso; simp at hc2
set_option maxHeartbeats 4000000 in
theorem c_ModhnfBounded_ok (R C : Nat) (xs : List (Bool × List Nat)) (hR : R ≤ 64) (hC : C ≤ 64) (hl : xs.length = R * C) (hp : (Go.Dt.pivs (mf C (vals xs)) R C).length = C) : CtrX Try.prog 8 [isM (R : Int) (C : Int) xs] ([]) (fun S M => S = isB true) := by
  refine CtrX.intro Try.func8 rfl (by kernel_rfl) Try.ntmps8 rfl fun w0 F0 => ?_
  refine Tri.cv (Cv.wk (.cons (t := 0) (Has.t rfl) .nil)) ?_
  refine Tri.fact (Has.okM (Has.t (t := 0) rfl)) fun okp0 => ?_
  refine Tri.seq fun K1 hK1 => ?_
  refine Tri.region ?_
  refine Ops.box (Has.t rfl) rfl fun b1 => ?_
  refine st (OK1.as (Has.cB false)) rfl ?_
  refine nl ?_
  refine At.thn (hK1 _ _ ?_); clear hK1
  refine Tri.seq fun K2 hK2 => ?_
  refine Tri.seq fun K3 hK3 => ?_
  refine Tri.region ?_
  refine st (OK1.call law15_awake .nil) rfl ?_
  refine st (OK1.not (Has.t rfl)) rfl ?_
  refine st (OK1.mv (Has.t rfl)) rfl ?_
  refine stF rfl rfl (fun hg => have hg' := BP.t hg; OK1.load (Has.t rfl) (i := 0) rfl ty24 rfl (Ss' := [_, _, _]) rfl) rfl ?_
  refine stF rfl rfl (fun hg => have hg' := BP.t hg; OK1.call (ref11_Few) (.cons (Has.g rfl hg) (.cons (Has.cI 5 rfl) (.cons (Has.cI 2 rfl) .nil)))) rfl ?_
  refine stF rfl rfl (fun hg => have hg' := BP.t hg; OK1.not (Has.g rfl hg)) rfl ?_
  refine st (OK1.pickOr (Has.t rfl) (fun h => Has.g rfl (ng h))) rfl ?_
  refine nl ?_
  refine At.thn (hK3 _ _ ?_); clear hK3
  refine Tri.cv (Cv.wk (.cons (t := 1) (Has.t rfl) (.cons (t := 2) (Has.t rfl) (.cons (t := 14) (Has.t rfl) .nil)))) ?_
  refine Tri.cond (Has.t rfl) (fun hc1 => ?_) (fun hc1 => ?_)
  · have hc1 := BP.t hc1
    skip
    refine Tri.seq fun K4 hK4 => ?_
    refine Tri.region ?_
    refine st (OK1.call law15_awake .nil) rfl ?_
    refine st (OK1.as (Has.t rfl)) rfl ?_
    refine nl ?_
    refine At.thn (hK4 _ _ ?_); clear hK4
    refine Tri.ret ?_
    refine At.thr ?_
    refine rtX1D (.cons _ .slnil) (.inl rfl) Try.results8 rfl (.tmp (Has.t rfl) .nil) ?_
    exact rfl
  · have hc1 := BP.f hc1
    have HF0 : ((R : Int) ≤ 5 ∧ (C : Int) ≤ 5) ∧ fewB xs 100 2 = true := (by simpa [and_assoc] using hc1)
    obtain ⟨⟨hR5, hC5⟩, HF⟩ := HF0
    obtain ⟨hl0, hb⟩ := fewB_bd (N := 100) (K := 2) okp0 HF rfl rfl (by decide)
    have hz1 : ((2 + 1) * 2 ^ R + 2) * 2 ^ C ≤ 80000000 := tri_small (by decide) (by omega) (by omega)
    have hz2 : (2 + 1) * 2 ^ R ≤ 30000000 := tri_small2 (by decide) (by omega)
    refine Tri.skip ?_
    refine At.thn (hK2 _ _ ?_); clear hK2
    refine Tri.seq fun K5 hK5 => ?_
    refine Tri.region ?_
    refine st (OK1.load (Has.t rfl) (i := 0) rfl ty24 rfl (Ss' := [_, _, _]) rfl) rfl ?_
    refine Ops.callX (modhnf_Hermite hb (by decide) hR hC hl hz1 hz2 hp) (List.Perm.refl _) (.cons (Has.t rfl) .nil) rfl ?_
    rintro _ _ ⟨b, rfl, rfl, hMB⟩
    refine st (OK1.mv (Has.t rfl)) rfl ?_
    refine st (OK1.ext (Has.t rfl) rfl) rfl ?_
    refine st (OK1.ext (Has.t rfl) rfl) rfl ?_
    refine Ops.alloc [isI 0, isI 0, nilS] zero24 (fun _ _ => ⟨⟨rfl, by decide, by decide⟩, ⟨rfl, by decide, by decide⟩, rfl, trivial⟩) rfl fun b2 => ?_
    refine Ops.store (Has.t rfl) (Has.t rfl) (i := 0) rfl ty24 rfl rfl (Ss' := [_, _, _]) rfl (M' := [(some _, cellM [_, _, _]), _]) rfl ?_
    refine st (OK1.as (Has.t rfl)) rfl ?_
    refine nl ?_
    refine At.thn (hK5 _ _ ?_); clear hK5
    refine Tri.cv (Cv.wk (.cons (t := 1) (Has.t rfl) (.cons (t := 2) (Has.t rfl) (.cons (t := 3) (Has.t rfl) (.cons (t := 4) (Has.t rfl) .nil))))) ?_
    refine Tri.seq fun K6 hK6 => ?_
    refine Tri.region ?_
    refine st (OK1.load (Has.t rfl) (i := 1) rfl ty24 rfl (Ss' := [_, _, _]) rfl) rfl ?_
    refine Ops.callX (modhnf_Multiple hb (by decide) hR hC hl hz2 hp) (List.Perm.refl _) (.cons (Has.t rfl) .nil) rfl ?_
    rintro _ _ ⟨b', rfl, rfl, hMB2⟩
    obtain ⟨H, hH⟩ : ∃ H, H = hmL b R C (vals xs) := ⟨_, rfl⟩
    rw [← hH]
    have hHm : (H.map nz).length = H.length := List.length_map _
    have hbw := hMB2.2.1
    have hHB : Bd H 30000000 := by rw [hH]; exact (hmL_bd hMB.1 hMB.2.1).mono hz2
    have hHl : H.length ≤ 4096 := by rw [hH, hmL_len]; exact Nat.mul_le_mul hR hC
    have hHn : ∀ j, 0 ≤ cf H j ∧ cf H j ≤ b' := fun j => by rw [hH]; exact ⟨(hmL_all hMB.1 j).1, hmL_small hMB hMB2 j⟩
    refine st (OK1.mv (Has.t rfl)) rfl ?_
    refine st (OK1.ext (Has.t rfl) rfl) rfl ?_
    refine st (OK1.ext (Has.t rfl) rfl) rfl ?_
    refine Ops.alloc [isB false, SlM isU []] zero32 (fun _ _ => ⟨rfl, nilM _ _, trivial⟩) rfl fun b3 => ?_
    refine Ops.store (Has.t rfl) (Has.t rfl) (i := 0) rfl ty32 rfl rfl (Ss' := [_, _]) rfl (M' := [(some _, cellM [_, _]), _, _]) rfl ?_
    refine st (OK1.as (Has.t rfl)) rfl ?_
    refine nl ?_
    refine At.thn (hK6 _ _ ?_); clear hK6
    refine Tri.cv (Cv.wk (.cons (t := 2) (Has.t rfl) (.cons (t := 3) (Has.t rfl) (.cons (t := 4) (Has.t rfl) (.cons (t := 5) (Has.t rfl) (.cons (t := 6) (Has.t rfl) .nil)))))) ?_
    refine Tri.seq fun K7 hK7 => ?_
    refine Tri.seq fun K8 hK8 => ?_
    refine Tri.region ?_
    refine st (OK1.mv (Has.t rfl)) rfl ?_
    refine st (OK1.neI (Has.t rfl) (Has.cI 0 rfl)) rfl ?_
    refine nl ?_
    refine At.thn (hK8 _ _ ?_); clear hK8
    refine Tri.cond (Has.t rfl) (fun hc2 => ?_) (fun hc2 => ?_)
    · have hc2 := BP.t hc2
      exfalso; simp at hc2
    · have hc2 := BP.f hc2
      skip
      refine Tri.skip ?_
      refine At.thn (hK7 _ _ ?_); clear hK7
      refine Tri.seq fun K9 hK9 => ?_
      refine Tri.seq fun K10 hK10 => ?_
      refine Tri.region ?_
      refine st (OK1.as (Has.cI 0 rfl)) rfl ?_
      refine nl ?_
      refine At.thn (hK10 _ _ ?_); clear hK10
      refine Tri.block ?_
      refine Tri.loopF [3, 5, 6] (fun (z : { i : Nat // i ≤ H.length }) => match z with | ⟨i, hi⟩ => [(7, isI (i : Int))]) (fun M => fun (z : { i : Nat // i ≤ H.length }) => match z with | ⟨i, hi⟩ => [zM b3 b', (some b2, cellM [isI (R : Int), isI (C : Int), SlK 2 zc (H.map nz)]), (some b1, cellM [isI (R : Int), isI (C : Int), SlK 2 zc xs])]) (fun (z : { i : Nat // i ≤ H.length }) => match z with | ⟨i, hi⟩ => H.length - i) (⟨0, Nat.zero_le _⟩) (Cv.mem (.cons (t := 7) (Has.t' rfl ?_) (.cons (t := 3) (Has.t rfl) (.cons (t := 5) (Has.t rfl) (.cons (t := 6) (Has.t rfl) .nil)))) ?_) ?_
      · rfl
      · rfl
      rintro ⟨i, hi⟩ K11 hK11
      refine Tri.cv (Cv.wk (.cons (t := 7) (Has.t rfl) (.cons (t := 3) (Has.t rfl) (.cons (t := 5) (Has.t rfl) (.cons (t := 6) (Has.t rfl) .nil))))) ?_
      refine Tri.memEq (M' := [zM b3 b', (some b2, cellM [isI (R : Int), isI (C : Int), SlK 2 zc (H.map nz)]), (some b1, cellM [isI (R : Int), isI (C : Int), SlK 2 zc xs])]) rfl ?_
      have hhb0 := (hHn i).1
      have hhb := (hHn i).2
      have hhw := hHB i
      refine Tri.seq fun K12 hK12 => ?_
      refine Tri.seq fun K13 hK13 => ?_
      refine Tri.region ?_
      refine st (OK1.mv (Has.t rfl)) rfl ?_
      refine st (OK1.fieldAddr (Has.t rfl) fld24_2 ty22) rfl ?_
      refine st (OK1.load1 (Has.t rfl) (i := 1) rfl ty22 rfl) rfl ?_
      refine st (OK1.len sl22 (Has.t rfl)) rfl ?_
      refine st (OK1.ltI (Has.t rfl) (Has.t rfl)) rfl ?_
      refine nl ?_
      refine At.thn (hK13 _ _ ?_); clear hK13
      refine Tri.cond (Has.t rfl) (fun hc3 => ?_) (fun hc3 => ?_)
      · have hc3 := BP.t hc3
        refine Tri.skip ?_
        refine At.thn (hK12 _ _ ?_); clear hK12
        refine Tri.seq fun K14 hK14 => ?_
        refine Tri.block ?_
        refine Tri.seq fun K15 hK15 => ?_
        refine Tri.dr ?_
        refine DrG.st (i := 0) [] rfl rfl rfl (by kernel_rfl) (OKG.o rfl (OK1.fieldAddr (Has.t rfl) fld24_2 ty22)) ?_
        refine DrG.st (i := 1) [38] rfl rfl rfl (by kernel_rfl) (OKG.o rfl (OK1.load1 (Has.t rfl) (i := 1) rfl ty22 rfl)) ?_
        refine DrG.st (i := 2) [] rfl rfl rfl (by kernel_rfl) (OKG.o rfl (OK1.mv (Has.t rfl))) ?_
        refine DrG.st (i := 3) [39, 40] rfl rfl rfl (by kernel_rfl) (OKG.o rfl (OK1.ixK sl22 ty32 (Has.t rfl) (Has.t rfl) zc_len ⟨by omega, by omega⟩ (getZ (i := i) (by omega)))) ?_
        refine DrG.st (i := 4) [41] rfl rfl rfl (by kernel_rfl) (OKG.o rfl (OK1.loadP (Has.t rfl) ty32 rfl (Ss' := [_, _]) rfl)) ?_
        refine DrG.st (i := 5) [42] rfl rfl rfl (by kernel_rfl) (OKG.o rfl (OK1.eq (OK1.call (zint_Sign (by rw [val_words]; omega)) (.cons (Has.t rfl) .nil)) ((show _ = isI (sgn (cf H i)) from by rw [zv_nz])))) ?_
        refine DrG.st (i := 6) [43] rfl rfl rfl (by kernel_rfl) (OKG.o rfl (OK1.ltI (Has.t rfl) (Has.cI 0 rfl))) ?_
        refine DrG.st (i := 7) [44] rfl rfl rfl (by kernel_rfl) (OKG.o rfl (OK1.mv (Has.t rfl))) ?_
        refine DrG.st (i := 8) [45] rfl rfl rfl (by kernel_rfl) (OKG.F rfl rfl rfl (fun hg => have hg' := BP.t hg; OK1.fieldAddr (Has.t rfl) fld24_2 ty22)) ?_
        refine DrG.st (i := 9) [45, 46] rfl rfl rfl (by kernel_rfl) (OKG.F rfl rfl rfl (fun hg => have hg' := BP.t hg; OK1.load1 (Has.g rfl hg) (i := 1) rfl ty22 rfl)) ?_
        refine DrG.st (i := 10) [45] rfl rfl rfl (by kernel_rfl) (OKG.F rfl rfl rfl (fun hg => have hg' := BP.t hg; OK1.mv (Has.t rfl))) ?_
        refine DrG.st (i := 11) [45, 47, 48] rfl rfl rfl (by kernel_rfl) (OKG.F rfl rfl rfl (fun hg => have hg' := BP.t hg; OK1.ixK sl22 ty32 (Has.g rfl hg) (Has.g rfl hg) zc_len ⟨by omega, by omega⟩ (getZ (i := i) (by omega)))) ?_
        refine DrG.st (i := 12) [45, 49] rfl rfl rfl (by kernel_rfl) (OKG.F rfl rfl rfl (fun hg => have hg' := BP.t hg; OK1.loadP (Has.g rfl hg) ty32 rfl (Ss' := [_, _]) rfl)) ?_
        refine DrG.st (i := 13) [45] rfl rfl rfl (by kernel_rfl) (OKG.F rfl rfl rfl (fun hg => have hg' := BP.t hg; OK1.load (Has.t rfl) (i := 0) rfl ty32 rfl (Ss' := [_, _]) rfl)) ?_
        refine DrG.fin (n := 14) mixed (by kernel_rfl) (by kernel_rfl) (by kernel_rfl) ?_
        refine Ops.cv (Cv.wk (.cons (t := 3) (Has.t rfl) (.cons (t := 5) (Has.t rfl) (.cons (t := 6) (Has.t rfl) (.cons (t := 7) (Has.t rfl) (.cons (t := 31) (Has.t rfl) (.cons (t := 32) (Has.t rfl) (.cons (t := 33) (Has.t rfl) (.cons (t := 34) (Has.t rfl) (.cons (t := 35) (Has.t rfl) (.cons (t := 38) (Has.t rfl) (.cons (t := 39) (Has.t rfl) (.cons (t := 40) (Has.t rfl) (.cons (t := 41) (Has.t rfl) (.cons (t := 42) (Has.t rfl) (.cons (t := 43) (Has.t rfl) (.cons (t := 44) (Has.t rfl) (.cons (t := 45) (Has.t rfl) (.cons (t := 46) (Has.t rfl) (.cons (t := 47) (Has.t rfl) (.cons (t := 48) (Has.t rfl) (.cons (t := 49) (Has.t rfl) (.cons (t := 50) (Has.t rfl) (.cons (t := 51) (Has.t rfl) .nil)))))))))))))))))))))))) ?_
        refine stF rfl rfl (fun hg => have hg' := BP.t hg; OK1.call (zint_Cmp (by rw [val_words]; omega) (by rw [val_words]; omega)) (.cons (Has.g rfl hg) (.cons (Has.g rfl hg) .nil))) rfl ?_
        refine stF rfl rfl (fun hg => have hg' := BP.t hg; OK1.gtI (Has.g rfl hg) (Has.cI 0 rfl)) rfl ?_
        refine st (OK1.pickOr (Has.t rfl) (fun h => Has.g rfl (ng h))) rfl ?_
        refine nl ?_
        refine At.thn (hK15 _ _ ?_); clear hK15
        refine Tri.cond (Has.t rfl) (fun hc4 => ?_) (fun hc4 => ?_)
        · have hc4 := BP.t hc4
          exfalso; rcases hc4 with h | h
          · have := (sgn_lt _).1 h; omega
          · simp only [zv_nz, zv_nf] at h; have := cmp_le hhb; omega
        · have hc4 := BP.f hc4
          skip
          refine Tri.skip ?_
          refine At.bln ?_
          refine At.thn (hK14 _ _ ?_); clear hK14
          refine Tri.region ?_
          refine st (OK1.mv (Has.t rfl)) rfl ?_
          refine st (OK1.addI (Has.t rfl) (Has.cI 1 rfl) (by first | omega | assumption) (by first | omega | assumption)) rfl ?_
          refine st (OK1.as (Has.t rfl)) rfl ?_
          refine nl ?_
          refine At.thn ?_
          refine hK11 (⟨i + 1, by omega⟩) _ _ ?_ (Cv.mem (.cons (t := 7) (Has.t' rfl ?_) (.cons (t := 3) (Has.t rfl) (.cons (t := 5) (Has.t rfl) (.cons (t := 6) (Has.t rfl) .nil)))) ?_)
          · show H.length - (i + 1) < H.length - i; omega
          · exact isI_eq (by omega)
          · rfl
      · have hc3 := BP.f hc3
        refine Tri.exit ?_
        refine At.the ?_
        refine At.the ?_
        refine At.blh ?_
        refine At.thn (hK9 _ _ ?_); clear hK9
        refine Tri.cv (Cv.wk (.cons (t := 6) (Has.t rfl) .nil)) ?_
        refine Tri.seq fun K16 hK16 => ?_
        refine Tri.region ?_
        refine st (OK1.mv (Has.t rfl)) rfl ?_
        refine st (OK1.eqI (Has.t rfl) (Has.cI 0 rfl)) rfl ?_
        refine st (OK1.as (Has.t rfl)) rfl ?_
        refine nl ?_
        refine At.thn (hK16 _ _ ?_); clear hK16
        refine Tri.ret ?_
        refine rtX1D (.cons _ (.cons _ (.cons _ .slnil))) (.inl rfl) Try.results8 rfl (.tmp (Has.t rfl) .nil) ?_
        exact rfl
theorem c_ModhnfBounded (r c : Int) (xs : List (Bool × List Nat)) : Ctr Try.prog 8 [isM r c xs] (isB true) := by
  cases h : formB r c xs.length with
  | true =>
    obtain ⟨R, C, rfl, rfl, h1, h2, h3⟩ := formB_iff.1 h
    have hp := (pivs_lt (mf C (vals xs)) R C).2
    by_cases h4 : (Go.Dt.pivs (mf C (vals xs)) R C).length = C
    · exact (c_ModhnfBounded_ok R C xs h1 h2 h3 h4).toCtr fun S' M' hh => hh
    · exact (c_ModhnfBounded_no R C xs h1 h2 h3 (by omega)).toCtr fun S' M' hh => hh
  | false => exact c_ModhnfBounded_bad r c xs h
end Go.Proofs.Ytahoiilikhncgaa
/- Slices of whole numbers that a law is handed. -/
namespace Go.En
open Go.RowKit Go.ChangeShapes Go.WideShapes Go.ChangeAt
set_option linter.unusedVariables false
theorem pair_get {α β : Type} (g h : α → β) : ∀ (l : List α) (j : Nat), (l.flatMap fun a => [g a, h a])[j]? = (l[j / 2]?).map (fun a => if j % 2 = 0 then g a else h a)
  | [], j => by simp
  | a :: l, 0 => by simp
  | a :: l, 1 => by simp
  | a :: l, j + 2 => by
    have := pair_get g h l j
    rw [show (j + 2) / 2 = j / 2 + 1 by omega, show (j + 2) % 2 = j % 2 by omega]
    simpa using this
section
variable {H : Type} {enc : TypeId × Value → H} {P : Program}
end
end Go.En
/- Matrices of whole numbers that a law is handed. -/
namespace Go.En
open Go.RowKit Go.ChangeShapes Go.WideShapes Go.ChangeAt
set_option linter.unusedVariables false
section
variable {H : Type} {enc : TypeId × Value → H} {P : Program}
theorem rd_Zs {W : World} {T e tb ts T' : TypeId} {fuel : Nat} {cs : List Value} {x : DataW H × List MemPlace} (hT : P.underlying T = some (.slice e)) (hfs : fsB P e = some [(tb, 0), (ts, 1)]) (hub : P.underlying tb = some .bool) (hu : P.underlying ts = some (.slice T')) (hu' : P.underlying T' = some (.int .u64)) (hc : P.cellsOf T' = 1) (hcb : P.cellsOf tb = 1) (hcs : P.cellsOf ts = 1) (hce : P.cellsOf e = 2)
    (hf : DataW.trod enc P W 0 (fun _ => true) true fuel T cs = some x) (hps : ∀ y ∈ x.2, y.block < W.heap.size) : ∃ (v : Value) (xs : List (Bool × List Nat)), cs = [v] ∧ (isZs xs).h W (fun b => b < W.heap.size) v := by
  obtain ⟨d, ps⟩ := x
  obtain ⟨fs, hue, hsz, hget⟩ := fsB_spec hfs
  obtain ⟨f0, g0, rfl, e0⟩ := hget 0 tb 0 rfl
  obtain ⟨f1, g1, rfl, e1⟩ := hget 1 ts 1 rfl
  have hfs2 : fs = #[f0, f1] := by
    apply Array.ext'
    have hl : fs.toList.length = 2 := by simpa using hsz
    match hq : fs.toList, hl with
    | [p, q], _ =>
      have a0 : fs.toList[0]? = some f0 := by simpa using g0
      have a1 : fs.toList[1]? = some f1 := by simpa using g1
      rw [hq] at a0 a1
      simp at a0 a1
      rw [a0, a1]
  subst hfs2
  rcases Deep.open_slice_pairs hT hue hce e0 e1 hcb hcs hf with ⟨h1, _⟩ | ⟨a, len, cap, m, n, V0, V1, D0, D1, P0, P1, h1, _, hlc, hcm, hm, hx, hel⟩
  · exact ⟨_, [], h1, nilK⟩
  · simp only [if_true] at hm
    subst m
    have hps' : ∀ i, i < cap → ∀ y ∈ P1 i, y.block < W.heap.size := fun i hi y hy => hps y (by
      have := (Prod.mk.inj hx).2
      rw [this]
      exact List.mem_append_right _ (List.mem_flatMap.2 ⟨i, List.mem_range.2 hi, List.mem_append_right _ hy⟩))
    obtain ⟨l, hl, hgl⟩ := list_of_get (p := fun i (x : Bool × List Nat) => V0 i = .bool x.1 ∧ (isWords x.2).h W (fun b => b < W.heap.size) (V1 i)) len (fun i hi => by
      obtain ⟨_, _, q0, q1⟩ := hel i (by omega)
      obtain ⟨b, hb, _⟩ := DataW.trod_bool hub q0
      obtain ⟨v, ws, hv1, hw⟩ := rd_row hu hu' hc word_of q1 (hps' i (by omega))
      obtain rfl : V1 i = v := by simpa using hv1
      exact ⟨(b, ws), by simpa using hb, hw⟩)
    refine ⟨_, l, h1, some a, cap, by rw [hl], by rw [hl]; exact hlc, hcm, flat_len zc_len l, ?_⟩
    rcases Nat.eq_zero_or_pos len with h0 | h0
    · exact .inl (by omega)
    · have hc0 := (hel 0 (by omega)).1
      have hs : a.spot = none := by
        cases hsp : a.spot with
        | none => rfl
        | some s =>
          simp only [Addr.add, Nat.zero_mul, if_true] at hc0
          unfold World.cell? at hc0
          rw [hsp] at hc0
          split at hc0 <;> simp at hc0
      obtain ⟨b, off, sp⟩ := a
      simp only at hs
      subst hs
      right
      refine ⟨b, off, rfl, ?_, (List.range len).flatMap (fun i => [V0 i, V1 i]), ?_, fun j u hj => ?_⟩
      · have : MemPlace.cell b (off + 0) ∈ ps := by
          have := (Prod.mk.inj hx).2
          rw [this]
          exact List.mem_append_left _ (List.mem_map.2 ⟨0, by simp; omega, rfl⟩)
        exact hps _ this
      · have hlen2 : ((List.range len).flatMap fun i => [V0 i, V1 i]).length = len * 2 := by
          have := flat_len (fk := fun (i : Nat) => [isB true, isB true]) (k := 2) (fun _ => rfl) (List.range len)
          rw [List.length_flatMap] at this ⊢
          simpa using this
        refine all2_of_get (by rw [flat_len zc_len, hlen2, hl]) (fun j S v hS hv => ?_)
        have hz := pair_get (fun p : Bool × List Nat => isB p.1) (fun p => isWords p.2) l j
        rw [show (l.flatMap fun a => [isB a.1, isWords a.2]) = l.flatMap zc from rfl, hS] at hz
        have hw := pair_get V0 V1 (List.range len) j
        rw [hv] at hw
        have hj : j / 2 < l.length := by
          rcases Nat.lt_or_ge (j / 2) l.length with h | h
          · exact h
          · rw [List.getElem?_eq_none h] at hz; cases hz
        rw [List.getElem?_eq_getElem hj] at hz
        rw [List.getElem?_range (by omega)] at hw
        simp only [Option.map_some, Option.some.injEq] at hz hw
        obtain ⟨k1, k2⟩ := hgl (j / 2) hj
        subst hz; subst hw
        by_cases hp : j % 2 = 0
        · rw [if_pos hp, if_pos hp, k1]; rfl
        · rw [if_neg hp, if_neg hp]; exact k2
      · have hw := pair_get V0 V1 (List.range len) j
        rw [hj] at hw
        have hjl : j / 2 < len := by
          rcases Nat.lt_or_ge (j / 2) len with h | h
          · exact h
          · rw [List.getElem?_eq_none (by simpa using h)] at hw; cases hw
        rw [List.getElem?_range hjl] at hw
        simp only [Option.map_some, Option.some.injEq] at hw
        obtain ⟨q0, q1, _, _⟩ := hel (j / 2) (by omega)
        rw [add_mk] at q0
        rw [add_mk] at q1
        by_cases hp : j % 2 = 0
        · rw [if_pos hp] at hw; subst hw
          rw [show off + j = off + j / 2 * 2 by omega]; exact q0
        · rw [if_neg hp] at hw; subst hw
          rw [show off + j = off + (j / 2 * 2 + 1) by omega]; exact q1
/-- two sides and numbers -/
theorem open_M {W : World} {base : Nat} {T ti tm e tb ts T' : TypeId} {v : Value} {d : DataW H} {ps : List MemPlace} (hfM : fsB P T = some [(ti, 0), (ti, 1), (tm, 2)]) (hui : P.underlying ti = some (.int .i64)) (hT : P.underlying tm = some (.slice e)) (hfs : fsB P e = some [(tb, 0), (ts, 1)]) (hub : P.underlying tb = some .bool) (hu : P.underlying ts = some (.slice T')) (hu' : P.underlying T' = some (.int .u64)) (hc : P.cellsOf T' = 1) (hcb : P.cellsOf tb = 1) (hcs : P.cellsOf ts = 1) (hce : P.cellsOf e = 2)
    (hci : P.cellsOf ti = 1) (hcm : P.cellsOf tm = 1) (hcT : P.cellsOf T = 3) (hv : Value.okWide P W .any base T v) (h : DataW.Trod enc P W 0 (fun _ => true) true T v d ps) (hps : ∀ x ∈ ps, x.block < W.heap.size) : ∃ x : Int × Int × List (Bool × List Nat), (isM x.1 x.2.1 x.2.2).h W (fun b => b < W.heap.size) v := by
  obtain ⟨fs, huT, hsz, hget⟩ := fsB_spec hfM
  have hv' := hv
  simp only [Value.okWide, huT] at hv'
  obtain ⟨cs, rfl, _, _⟩ := hv'
  obtain ⟨fuel, hf⟩ := h
  obtain ⟨xs, m, _, hx, hl, hxl, hfe⟩ := DataW.trod_struct huT hf
  simp [Value.cells] at hl hx
  obtain ⟨f0, g0, rfl, e0⟩ := hget 0 ti 0 rfl
  obtain ⟨f1, g1, k1, e1⟩ := hget 1 _ 1 rfl
  obtain ⟨f2, g2, rfl, e2⟩ := hget 2 tm 2 rfl
  have h0 := hfe 0 f0 g0
  have h1 := hfe 1 f1 g1
  have h2 := hfe 2 f2 g2
  rw [List.getElem?_eq_getElem (by rw [hxl, hsz]; simp)] at h0 h1 h2
  rw [e0, hci] at h0
  rw [e1, k1, hci] at h1
  rw [e2, hcm] at h2
  obtain ⟨r, hr, hr1, hr2⟩ := rd_I hui h0
  obtain ⟨c, hc1, hc2, hc3⟩ := rd_I hui h1
  obtain ⟨u, ws, hu1, hw⟩ := rd_Zs hT hfs hub hu hu' hc hcb hcs hce h2 (fun y hy => hps y (by
    rw [hx.2]
    exact List.mem_flatMap.2 ⟨_, List.getElem_mem _, hy⟩))
  refine ⟨(r, c, ws), cs.toList, by simp, ?_⟩
  have hcs2 : cs.toList = [.int .i64 r, .int .i64 c, u] := by
    have hlen : cs.toList.length = 3 := by rw [← hcT]; simpa using hl
    match hq : cs.toList, hlen with
    | [p, q, t], _ =>
      have a1 : [p] = [Value.int .i64 r] := by have := hr; simpa [Value.cells, hq] using this
      have a2 : [q] = [Value.int .i64 c] := by have := hc1; simpa [Value.cells, hq] using this
      have a3 : [t] = [u] := by have := hu1; simpa [Value.cells, hq] using this
      rw [List.cons.inj a1 |>.1, List.cons.inj a2 |>.1, List.cons.inj a3 |>.1]
  rw [hcs2]
  exact ⟨⟨rfl, hr1, hr2⟩, ⟨rfl, hc2, hc3⟩, hw, trivial⟩
end
end Go.En
/- A law of layer 15, as it is stated. -/
namespace Go.Proofs.Ytahoiilikhncgaa
open Go.En Go.RowKit
set_option linter.unusedVariables false
set_option maxRecDepth 10000
open Go.ChangeShapes
open Go.WideShapes
open Go.ChangeAt
open Go.Nt
open Go.Pz
open Go.Mz
theorem opens_ModhnfBounded : Opens Try.prog Try.f8 8 := by
  intro H enc W base args ds ps hval hA hlt
  rw [Try.params8] at hA hval
  obtain ⟨v0, vs0, d0, ds0, p0, q0, hargs, rfl, rfl, h0, r0⟩ := trodAll_cons hA
  obtain ⟨rfl, rfl, rfl⟩ := trodAll_nil r0
  obtain rfl : args = #[v0] := by cases args; simp_all
  obtain ⟨x0, o0⟩ := open_M fs24 un3 un22 fs32 un4 un30 un105 (by kernel_rfl) (by kernel_rfl) (by kernel_rfl) (by kernel_rfl) (by kernel_rfl) (by kernel_rfl) (by kernel_rfl) (hval 0 24 v0 rfl rfl) h0 (fun x hx => hlt x (by simp [hx]))
  refine ⟨_, ?_, c_ModhnfBounded x0.1 x0.2.1 x0.2.2⟩
  exact ⟨o0, trivial⟩
theorem modhnfBounded_said : Rows.ModhnfBoundedSaid :=
  OpenClaim.holds_of_wide 8 Try.f8 rfl rfl rfl rfl rfl rfl rfl ⟨rfl, rfl, rfl, rfl, rfl⟩ rfl rfl rfl rfl rfl (by kernel_rfl) Try.func8 (by kernel_rfl)
    (of_decide_eq_true (by kernel_rfl)) (by unfold Func.isWrapper; first | (rw [if_pos (by decide +kernel)]; kernel_rfl) | (rw [if_neg (by decide +kernel)]; exact ⟨rfl, rfl⟩))
    (fun os started H enc _ => lift_law (C := Try.checked) (s := Rows.modhnfBoundedSpec) (by kernel_rfl) started (by kernel_rfl) Try.func8
      (ChangeSpec.witness6 (enc := enc) (C := Try.checked) false ⟨#[], #[.agg #[.int .i64 0, .int .i64 0, .slice none 0 0]], []⟩ 8 (by kernel_rfl) (by kernel_rfl) (by kernel_rfl) (by kernel_rfl))
      (by kernel_rfl) (by kernel_rfl) rfl rfl un4 (fun ds h => by match ds, h with | [d0], _ => rfl) opens_ModhnfBounded)
#print axioms modhnfBounded_said
end Go.Proofs.Ytahoiilikhncgaa
