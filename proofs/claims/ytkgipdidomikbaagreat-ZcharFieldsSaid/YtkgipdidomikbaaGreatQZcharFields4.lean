/- Rules and contracts, part 4 of 6. -/
import Derived.Test.YtkgipdidomikbaaGreatQZcharFields3
/- Contracts: rows to be turned. -/
namespace Go.Proofs.YtkgipdidomikbaaGreat
open Go.En Go.RowKit
set_option linter.unusedVariables false
set_option maxRecDepth 10000
open Go.Gf
open Go.Mz
open Go.Mu
open Go.Nt
open Go.Hs
set_option maxHeartbeats 4000000 in
theorem fmat_madeX {q R C : Nat} {f : Nat → Nat → Nat} (hR : R ≤ 64) (hC : C ≤ 64) : CtrX Tryz.prog 23 [Flat [isU q], isI (R : Int), isI (C : Int), isAtU Tryz.prog R C f] ([]) (fun S M => ∃ g : Gr Nat, S = Flat [isI (R : Int), isI (C : Int), isGr g (R * C)] ∧ M = [grM isU g (tabU (R * C) C fun i k => f i k % fp q)]) := by
  refine CtrX.intro Tryz.func23 rfl (by kernel_rfl) Tryz.ntmps23 rfl fun w0 F0 => ?_
  refine Tri.cv (Cv.wk (.cons (t := 0) (Has.t rfl) (.cons (t := 1) (Has.t rfl) (.cons (t := 2) (Has.t rfl) (.cons (t := 3) (Has.t rfl) .nil))))) ?_
  refine Tri.fact (Has.rngI (Has.t (t := 1) rfl)) fun lt1 => ?_
  refine Tri.fact (Has.rngI (Has.t (t := 2) rfl)) fun lt2 => ?_
  have hRC := side_le hR hC
  obtain ⟨G, hG⟩ : ∃ G : Nat → Nat → Nat, G = fun i k => f i k % fp q := ⟨_, rfl⟩
  rw [← hG]
  refine Tri.seq fun K1 hK1 => ?_
  refine Tri.region ?_
  refine Ops.box (Has.t rfl) rfl fun b1 => ?_
  refine Ops.alloc [isI 0, isI 0, nilS] zero38 (fun _ _ => ⟨⟨rfl, by decide, by decide⟩, ⟨rfl, by decide, by decide⟩, rfl, trivial⟩) rfl fun b2 => ?_
  refine nl ?_
  refine At.thn (hK1 _ _ ?_); clear hK1
  refine Tri.seq fun K2 hK2 => ?_
  refine Tri.region ?_
  refine st (OK1.mv (Has.t rfl)) rfl ?_
  refine st (OK1.mv (Has.t rfl)) rfl ?_
  refine st (OK1.build [isI 0, isI 0, nilS] pl38 zero38 (fun _ _ => ⟨⟨rfl, by decide, by decide⟩, ⟨rfl, by decide, by decide⟩, rfl, trivial⟩) (.cons (Has.t rfl) rfl rfl rfl (.cons (Has.t rfl) rfl rfl rfl .nil)) (Z'' := [_, _, _]) rfl) rfl ?_
  refine Ops.alloc [isI 0, isI 0, nilS] zero38 (fun _ _ => ⟨⟨rfl, by decide, by decide⟩, ⟨rfl, by decide, by decide⟩, rfl, trivial⟩) rfl fun b3 => ?_
  refine Ops.store (Has.t rfl) (Has.t rfl) (i := 0) rfl ty38 rfl rfl (Ss' := [_, _, _]) rfl (M' := [(some _, cellM [_, _, _]), _, _]) rfl ?_
  refine nl ?_
  refine At.thn (hK2 _ _ ?_); clear hK2
  refine Tri.seq fun K3 hK3 => ?_
  refine Tri.seq fun K4 hK4 => ?_
  refine Tri.cv (Cv.growF (Nat) (i := 0) (o := 2) rfl rfl rfl) ?_
  refine Tri.memEq (M' := [grM isU Gr.nil [], _, _, _]) rfl ?_
  refine Tri.region ?_
  refine st (OK1.mv (Has.t rfl)) rfl ?_
  refine st (OK1.mv (Has.cI 0 rfl)) rfl ?_
  refine nl ?_
  refine At.thn (hK4 _ _ ?_); clear hK4
  refine Tri.cv (Cv.wk (.cons (t := 2) (Has.t rfl) (.cons (t := 3) (Has.t rfl) (.cons (t := 4) (Has.t rfl) (.cons (t := 8) (Has.t rfl) (.cons (t := 9) (Has.t rfl) (.cons (t := 15) (Has.t rfl) (.cons (t := 16) (Has.t rfl) .nil)))))))) ?_
  refine Tri.block ?_
  refine Tri.loopF [2, 3, 4, 8, 9, 15] (fun (z : { z : Nat × Gr Nat // z.1 ≤ R }) => match z with | ⟨(i, g), hI⟩ => [(16, isI (i : Int))]) (fun M => fun (z : { z : Nat × Gr Nat // z.1 ≤ R }) => match z with | ⟨(i, g), hI⟩ => [grM isU g (tabU (i * C + 0) C G), (some b3, cellM [isI (R : Int), isI (C : Int), isGr g (tabU (i * C + 0) C G).length]), (some b2, cellM [isI 0, isI 0, nilS]), (some b1, cellM [isU q])]) (fun (z : { z : Nat × Gr Nat // z.1 ≤ R }) => match z with | ⟨(i, g), hI⟩ => R - i) (⟨(0, Gr.nil), Nat.zero_le _⟩) (Cv.mem (.cons (t := 16) (Has.t' rfl ?_) (.cons (t := 2) (Has.t rfl) (.cons (t := 3) (Has.t rfl) (.cons (t := 4) (Has.t rfl) (.cons (t := 8) (Has.t rfl) (.cons (t := 9) (Has.t rfl) (.cons (t := 15) (Has.t rfl) .nil))))))) ?_) ?_
  · rfl
  · exact grFu_eq (n := 0) (ys := []) (by rw [tabU_len, Nat.zero_mul]) (show [] = tabU (0 * C + 0) C G by rw [Nat.zero_mul]; rfl)
  rintro ⟨⟨i, g⟩, hI⟩ K5 hK5
  refine Tri.cv (Cv.wk (.cons (t := 16) (Has.t rfl) (.cons (t := 2) (Has.t rfl) (.cons (t := 3) (Has.t rfl) (.cons (t := 4) (Has.t rfl) (.cons (t := 8) (Has.t rfl) (.cons (t := 9) (Has.t rfl) (.cons (t := 15) (Has.t rfl) .nil)))))))) ?_
  refine Tri.memEq (M' := [grM isU g (tabU (i * C + 0) C G), (some b3, cellM [isI (R : Int), isI (C : Int), isGr g (tabU (i * C + 0) C G).length]), (some b2, cellM [isI 0, isI 0, nilS]), (some b1, cellM [isU q])]) rfl ?_
  simp only [] at hI
  refine Tri.seq fun K6 hK6 => ?_
  refine Tri.region ?_
  refine st (OK1.ltI (Has.t rfl) (Has.t rfl)) rfl ?_
  refine nl ?_
  refine At.thn (hK6 _ _ ?_); clear hK6
  refine Tri.seq fun K7 hK7 => ?_
  refine Tri.cond (Has.t rfl) (fun hc1 => ?_) (fun hc1 => ?_)
  · have hc1 := BP.t hc1
    refine Tri.skip ?_
    refine At.thn (hK7 _ _ ?_); clear hK7
    refine Tri.seq fun K8 hK8 => ?_
    refine Tri.block ?_
    refine Tri.seq fun K9 hK9 => ?_
    refine Tri.region ?_
    refine st (OK1.mv (Has.t rfl)) rfl ?_
    refine st (OK1.as (Has.t rfl)) rfl ?_
    refine nl ?_
    refine At.thn (hK9 _ _ ?_); clear hK9
    refine Tri.seq fun K10 hK10 => ?_
    refine Tri.region ?_
    refine st (OK1.mv (Has.t rfl)) rfl ?_
    refine st (OK1.mv (Has.cI 0 rfl)) rfl ?_
    refine nl ?_
    refine At.thn (hK10 _ _ ?_); clear hK10
    refine Tri.block ?_
    refine Tri.loopF [2, 3, 4, 8, 9, 15, 16, 17, 18, 10, 19] (fun (z : { z : Nat × Gr Nat // z.1 ≤ C }) => match z with | ⟨(k, g2), hK⟩ => [(20, isI (k : Int))]) (fun M => fun (z : { z : Nat × Gr Nat // z.1 ≤ C }) => match z with | ⟨(k, g2), hK⟩ => [grM isU g2 (tabU (i * C + k) C G), (some b3, cellM [isI (R : Int), isI (C : Int), isGr g2 (tabU (i * C + k) C G).length]), (some b2, cellM [isI 0, isI 0, nilS]), (some b1, cellM [isU q])]) (fun (z : { z : Nat × Gr Nat // z.1 ≤ C }) => match z with | ⟨(k, g2), hK⟩ => C - k) (⟨(0, g), Nat.zero_le _⟩) (Cv.mem (.cons (t := 20) (Has.t' rfl ?_) (.cons (t := 2) (Has.t rfl) (.cons (t := 3) (Has.t rfl) (.cons (t := 4) (Has.t rfl) (.cons (t := 8) (Has.t rfl) (.cons (t := 9) (Has.t rfl) (.cons (t := 15) (Has.t rfl) (.cons (t := 16) (Has.t rfl) (.cons (t := 17) (Has.t rfl) (.cons (t := 18) (Has.t rfl) (.cons (t := 10) (Has.t rfl) (.cons (t := 19) (Has.t rfl) .nil)))))))))))) ?_) ?_
    · rfl
    · rfl
    rintro ⟨⟨k, g2⟩, hK⟩ K11 hK11
    refine Tri.cv (Cv.wk (.cons (t := 20) (Has.t rfl) (.cons (t := 2) (Has.t rfl) (.cons (t := 3) (Has.t rfl) (.cons (t := 4) (Has.t rfl) (.cons (t := 8) (Has.t rfl) (.cons (t := 9) (Has.t rfl) (.cons (t := 15) (Has.t rfl) (.cons (t := 16) (Has.t rfl) (.cons (t := 17) (Has.t rfl) (.cons (t := 18) (Has.t rfl) (.cons (t := 10) (Has.t rfl) (.cons (t := 19) (Has.t rfl) .nil))))))))))))) ?_
    refine Tri.memEq (M' := [grM isU g2 (tabU (i * C + k) C G), (some b3, cellM [isI (R : Int), isI (C : Int), isGr g2 (tabU (i * C + k) C G).length]), (some b2, cellM [isI 0, isI 0, nilS]), (some b1, cellM [isU q])]) rfl ?_
    simp only [] at hK
    refine Tri.seq fun K12 hK12 => ?_
    refine Tri.region ?_
    refine st (OK1.ltI (Has.t rfl) (Has.t rfl)) rfl ?_
    refine nl ?_
    refine At.thn (hK12 _ _ ?_); clear hK12
    refine Tri.seq fun K13 hK13 => ?_
    refine Tri.cond (Has.t rfl) (fun hc2 => ?_) (fun hc2 => ?_)
    · have hc2 := BP.t hc2
      refine Tri.skip ?_
      refine At.thn (hK13 _ _ ?_); clear hK13
      refine Tri.seq fun K14 hK14 => ?_
      refine Tri.block ?_
      refine Tri.seq fun K15 hK15 => ?_
      refine Tri.region ?_
      refine st (OK1.mv (Has.t rfl)) rfl ?_
      refine st (OK1.as (Has.t rfl)) rfl ?_
      refine nl ?_
      refine At.thn (hK15 _ _ ?_); clear hK15
      refine Tri.dr ?_
      refine DrG.st (i := 0) [] rfl rfl rfl (by kernel_rfl) (OKG.o rfl (OK1.fieldAddr (Has.t rfl) fld38_2 ty36)) ?_
      refine DrG.st (i := 1) [23] rfl rfl rfl (by kernel_rfl) (OKG.o rfl (OK1.load1 (Has.t rfl) (i := 1) rfl ty36 rfl)) ?_
      refine DrG.st (i := 2) [] rfl rfl rfl (by kernel_rfl) (OKG.o rfl (OK1.load (Has.t rfl) (i := 3) rfl ty30 rfl (Ss' := [_]) rfl)) ?_
      refine DrG.st (i := 3) [] rfl rfl rfl (by kernel_rfl) (OKG.o rfl (OK1.mv (Has.t rfl))) ?_
      refine DrG.st (i := 4) [] rfl rfl rfl (by kernel_rfl) (OKG.o rfl (OK1.mv (Has.t rfl))) ?_
      refine DrG.st (i := 5) [] rfl rfl rfl (by kernel_rfl) (OKG.o rfl (OK1.mv (Has.t rfl))) ?_
      refine DrG.st (i := 6) [26, 27, 28] rfl rfl rfl (by kernel_rfl) (OKG.o rfl (OK1.callV ⟨(i, k), by omega, by omega⟩ (Has.t rfl) (.cons (Has.t rfl) (.cons (Has.t rfl) .nil)))) ?_
      refine DrG.st (i := 7) [25, 29] rfl rfl rfl (by kernel_rfl) (OKG.o rfl (OK1.eq (OK1.call (gfp_Norm) (.cons (Has.t rfl) (.cons (Has.t rfl) .nil))) ((show isU _ = isU (G i k) from isU_eq (by rw [hG]))))) ?_
      refine DrG.st (i := 8) [30] rfl rfl rfl (by kernel_rfl) (OKG.o rfl (OK1.buildS [isU 0] sl36 ty28 zero28 (fun _ _ => ⟨⟨rfl, by decide⟩, trivial⟩) rfl rfl (.cons (Has.t rfl) rfl rfl rfl .nil) rfl (S := SlM isU [G i k]) rfl)) ?_
      refine DrG.fin (n := 9) mixed (by kernel_rfl) (by kernel_rfl) (by kernel_rfl) ?_
      refine Ops.cv (Cv.wk (.cons (t := 2) (Has.t rfl) (.cons (t := 3) (Has.t rfl) (.cons (t := 4) (Has.t rfl) (.cons (t := 8) (Has.t rfl) (.cons (t := 9) (Has.t rfl) (.cons (t := 15) (Has.t rfl) (.cons (t := 16) (Has.t rfl) (.cons (t := 17) (Has.t rfl) (.cons (t := 18) (Has.t rfl) (.cons (t := 10) (Has.t rfl) (.cons (t := 19) (Has.t rfl) (.cons (t := 20) (Has.t rfl) (.cons (t := 21) (Has.t rfl) (.cons (t := 22) (Has.t rfl) (.cons (t := 11) (Has.t rfl) (.cons (t := 23) (Has.t rfl) (.cons (t := 24) (Has.t rfl) (.cons (t := 25) (Has.t rfl) (.cons (t := 26) (Has.t rfl) (.cons (t := 27) (Has.t rfl) (.cons (t := 28) (Has.t rfl) (.cons (t := 29) (Has.t rfl) (.cons (t := 30) (Has.t rfl) (.cons (t := 31) (Has.t rfl) .nil))))))))))))))))))))))))) ?_
      refine Ops.appendG (f := isU) (u := 0) sl36 ty28 zero28 (fun _ _ => ⟨⟨rfl, by decide⟩, trivial⟩) (fun _ => inferInstance) by28 (Has.t rfl) (i := 0) rfl (Has.t rfl) (by have hpl := place_lt (show i < R by omega) (show k < C by omega); rw [tabU_len]; show i * C + k + 1 ≤ _; omega) (by simp) rfl fun gr1 => ?_
      refine Ops.memEq (M' := [grM _ _ _, _, _, _]) rfl ?_
      refine st (OK1.fieldAddr (Has.t rfl) fld38_2 ty36) rfl ?_
      refine Ops.store (Has.t rfl) (Has.t rfl) (i := 1) rfl ty36 rfl rfl (Ss' := [_, _, _]) rfl (M' := [_, (some _, cellM [_, _, _]), _, _]) rfl ?_
      refine nl ?_
      refine At.bln ?_
      refine At.thn (hK14 _ _ ?_); clear hK14
      refine Tri.region ?_
      refine st (OK1.addI (Has.t rfl) (Has.cI 1 rfl) (by first | omega | assumption) (by first | omega | assumption)) rfl ?_
      refine st (OK1.mv (Has.t rfl)) rfl ?_
      refine nl ?_
      refine At.thn ?_
      have hpl := place_lt (show i < R by omega) (show k < C by omega)
      refine hK11 (⟨(k + 1, gr1), by show k + 1 ≤ C; omega⟩) _ _ ?_ (Cv.mem (.cons (t := 20) (Has.t' rfl ?_) (.cons (t := 2) (Has.t rfl) (.cons (t := 3) (Has.t rfl) (.cons (t := 4) (Has.t rfl) (.cons (t := 8) (Has.t rfl) (.cons (t := 9) (Has.t rfl) (.cons (t := 15) (Has.t rfl) (.cons (t := 16) (Has.t rfl) (.cons (t := 17) (Has.t rfl) (.cons (t := 18) (Has.t rfl) (.cons (t := 10) (Has.t rfl) (.cons (t := 19) (Has.t rfl) .nil)))))))))))) ?_)
      · show C - (k + 1) < C - k; omega
      · exact isI_eq (by omega)
      · exact grFu_eq (by rw [← tabU_succ G (show k < C by omega), List.length_append]) (by rw [← tabU_succ G (show k < C by omega)])
    · have hc2 := BP.f hc2
      refine Tri.exit ?_
      refine At.the ?_
      refine At.the ?_
      refine At.blh ?_
      refine At.bln ?_
      refine At.thn (hK8 _ _ ?_); clear hK8
      refine Tri.region ?_
      refine st (OK1.addI (Has.t rfl) (Has.cI 1 rfl) (by first | omega | assumption) (by first | omega | assumption)) rfl ?_
      refine st (OK1.mv (Has.t rfl)) rfl ?_
      refine nl ?_
      refine At.thn ?_
      have hkC : k = C := by omega
      subst hkC
      refine hK5 (⟨(i + 1, g2), by show i + 1 ≤ R; omega⟩) _ _ ?_ (Cv.mem (.cons (t := 16) (Has.t' rfl ?_) (.cons (t := 2) (Has.t rfl) (.cons (t := 3) (Has.t rfl) (.cons (t := 4) (Has.t rfl) (.cons (t := 8) (Has.t rfl) (.cons (t := 9) (Has.t rfl) (.cons (t := 15) (Has.t rfl) .nil))))))) ?_)
      · show R - (i + 1) < R - i; omega
      · exact isI_eq (by omega)
      · exact grFu_eq (by rw [tabU_next]) (by rw [tabU_next])
  · have hc1 := BP.f hc1
    refine Tri.exit ?_
    refine At.the ?_
    refine At.the ?_
    refine At.blh ?_
    refine At.thn (hK3 _ _ ?_); clear hK3
    refine Tri.cv (Cv.wk (.cons (t := 8) (Has.t rfl) (.cons (t := 9) (Has.t rfl) .nil))) ?_
    refine Tri.seq fun K16 hK16 => ?_
    refine Tri.region ?_
    refine st (OK1.load (Has.t rfl) (i := 1) rfl ty38 rfl (Ss' := [_, _, _]) rfl) rfl ?_
    refine Ops.store (Has.t rfl) (Has.t rfl) (i := 2) rfl ty38 rfl rfl (Ss' := [_, _, _]) rfl (M' := [_, _, (some _, cellM [_, _, _]), _]) rfl ?_
    refine nl ?_
    refine At.thn (hK16 _ _ ?_); clear hK16
    refine Tri.ret ?_
    refine rtX1D (.cons_cons _ (.cons _ (.cons _ (.cons _ .slnil)))) (.inl rfl) Tryz.results23 rfl (.cell rfl (i := 2) rfl ty38 rfl rfl .nil) ?_
    have e : i * C + 0 = R * C := by rw [Nat.add_zero, show i = R by omega]
    rw [e]
    exact ⟨g, by rw [tabU_len], rfl⟩
set_option maxHeartbeats 4000000 in
theorem fmat_NormX {q R C : Nat} {xs : List Nat} (hR : R ≤ 64) (hC : C ≤ 64) (hxl : xs.length = R * C) : CtrX Tryz.prog 95 [Flat [isU q], isMW R C xs] ([]) (fun S M => ∃ g : Gr Nat, S = isTup [Flat [isI (R : Int), isI (C : Int), isGr g (R * C)], isI 0] ∧ M = [grM isU g (tabU (R * C) C fun i k => xs.getD (i * C + k) 0 % fp q)]) := by
  refine CtrX.intro Tryz.func95 rfl (by kernel_rfl) Tryz.ntmps95 rfl fun w0 F0 => ?_
  refine Tri.cv (Cv.wk (.cons (t := 0) (Has.t rfl) (.cons (t := 1) (Has.t rfl) .nil))) ?_
  have hRC := side_le hR hC
  have hfo := formB_true hR hC hxl
  refine Tri.seq fun K1 hK1 => ?_
  refine Tri.region ?_
  refine Ops.box (Has.t rfl) rfl fun b1 => ?_
  refine Ops.box (Has.t rfl) rfl fun b2 => ?_
  refine Ops.alloc [isI 0, isI 0, SlM isU []] zero38 (fun _ _ => ⟨⟨rfl, by decide, by decide⟩, ⟨rfl, by decide, by decide⟩, nilM _ _, trivial⟩) rfl fun b3 => ?_
  refine st (OK1.as (Has.cI 0 rfl)) rfl ?_
  refine nl ?_
  refine At.thn (hK1 _ _ ?_); clear hK1
  refine Tri.seq fun K2 hK2 => ?_
  refine Tri.seq fun K3 hK3 => ?_
  refine Tri.region ?_
  refine st (OK1.load (Has.t rfl) (i := 1) rfl ty38 rfl (Ss' := [_, _, _]) rfl) rfl ?_
  refine st (OK1.eq (OK1.call (fmat_Formed) (.cons (Has.t rfl) .nil)) ((show isB _ = isB true from isB_eq hfo))) rfl ?_
  refine st (OK1.not (Has.t rfl)) rfl ?_
  refine nl ?_
  refine At.thn (hK3 _ _ ?_); clear hK3
  refine Tri.cond (Has.t rfl) (fun hc1 => ?_) (fun hc1 => ?_)
  · have hc1 := BP.t hc1
    simp at hc1
  · have hc1 := BP.f hc1
    refine Tri.skip ?_
    refine At.thn (hK2 _ _ ?_); clear hK2
    refine Tri.cv (Cv.wk (.cons (t := 2) (Has.t rfl) (.cons (t := 3) (Has.t rfl) (.cons (t := 4) (Has.t rfl) (.cons (t := 5) (Has.t rfl) .nil))))) ?_
    refine Tri.seq fun K4 hK4 => ?_
    refine Tri.region ?_
    refine st (OK1.load (Has.t rfl) (i := 2) rfl ty30 rfl (Ss' := [_]) rfl) rfl ?_
    refine st (OK1.fieldAddr (Has.t rfl) fld38_0 ty3) rfl ?_
    refine st (OK1.load1 (Has.t rfl) (i := 1) rfl ty3 rfl) rfl ?_
    refine st (OK1.fieldAddr (Has.t rfl) fld38_1 ty3) rfl ?_
    refine st (OK1.load1 (Has.t rfl) (i := 1) rfl ty3 rfl) rfl ?_
    refine st (OK1.load (Has.t rfl) (i := 1) rfl ty38 rfl (Ss' := [_, _, _]) rfl) rfl ?_
    refine st (OK1.makeFn (ι := PI R C) (As := fun p => [isI (p.1.1 : Int), isI (p.1.2 : Int)]) (R := fun p => isU (xs.getD (p.1.1 * C + p.1.2) 0)) (fun p => by have hp := place_lt p.2.1 p.2.2; exact fmat_get (i := p.1.1) (k := p.1.2) (by omega) (by omega)) (.cons (Has.t rfl) .nil) .nil) rfl ?_
    refine Ops.callX (fmat_madeX (f := fun i k => xs.getD (i * C + k) 0) hR hC) (List.Perm.refl _) (.cons (Has.t rfl) (.cons (Has.t rfl) (.cons (Has.t rfl) (.cons (Has.t rfl) .nil)))) rfl ?_
    rintro _ _ ⟨gm, rfl, rfl⟩
    refine Ops.memEq (M' := [grM isU gm _, _, _, _]) rfl ?_
    refine Ops.store (Has.t rfl) (Has.t rfl) (i := 1) rfl ty38 rfl rfl (Ss' := [_, _, _]) rfl (M' := [_, (some _, cellM [_, _, _]), _, _]) rfl ?_
    refine st (OK1.as (Has.cI 0 rfl)) rfl ?_
    refine nl ?_
    refine At.thn (hK4 _ _ ?_); clear hK4
    refine Tri.cv (Cv.wk (.cons (t := 4) (Has.t rfl) (.cons (t := 5) (Has.t rfl) .nil))) ?_
    refine Tri.ret ?_
    refine rtXND (.cons_cons _ (.cons _ (.cons _ (.cons _ .slnil)))) (.inl rfl) Tryz.results95 rfl rfl (.cell rfl (i := 1) rfl ty38 rfl rfl (.tmp (Has.t rfl) .nil)) ?_
    exact ⟨gm, rfl, rfl⟩
set_option maxHeartbeats 4000000 in
theorem fmat_one2 {i k : Nat} : Ctr Tryz.prog 94 [isI (i : Int), isI (k : Int)] (isU (if i = k then 1 else 0)) := by
  refine Ctr.intro Tryz.func94 rfl (by kernel_rfl) Tryz.ntmps94 rfl fun w0 F0 => ?_
  refine Tri.cv (Cv.wk (.cons (t := 0) (Has.t rfl) (.cons (t := 1) (Has.t rfl) .nil))) ?_
  refine Tri.fact (Has.rngI (Has.t (t := 0) rfl)) fun lt0 => ?_
  refine Tri.fact (Has.rngI (Has.t (t := 1) rfl)) fun lt1 => ?_
  refine Tri.seq fun K1 hK1 => ?_
  refine Tri.region ?_
  refine st (OK1.as (Has.cU 0 rfl)) rfl ?_
  refine nl ?_
  refine At.thn (hK1 _ _ ?_); clear hK1
  refine Tri.seq fun K2 hK2 => ?_
  refine Tri.seq fun K3 hK3 => ?_
  refine Tri.region ?_
  refine st (OK1.mv (Has.t rfl)) rfl ?_
  refine st (OK1.mv (Has.t rfl)) rfl ?_
  refine st (OK1.eqI (Has.t rfl) (Has.t rfl)) rfl ?_
  refine nl ?_
  refine At.thn (hK3 _ _ ?_); clear hK3
  refine Tri.cond (Has.t rfl) (fun hc1 => ?_) (fun hc1 => ?_)
  · have hc1 := BP.t hc1
    refine Tri.seq fun K4 hK4 => ?_
    refine Tri.region ?_
    refine st (OK1.as (Has.cU 1 rfl)) rfl ?_
    refine nl ?_
    refine At.thn (hK4 _ _ ?_); clear hK4
    refine Tri.cv (Cv.wk (.cons (t := 4) (Has.t rfl) .nil)) ?_
    refine Tri.ret ?_
    refine At.thr ?_
    refine rt1 (.inl rfl) Tryz.results94 rfl (.tmp (Has.t' rfl ?_) .nil)
    all_goals (exact isU_eq (by rw [if_pos (by omega)]))
  · have hc1 := BP.f hc1
    refine Tri.skip ?_
    refine At.thn (hK2 _ _ ?_); clear hK2
    refine Tri.cv (Cv.wk (.cons (t := 4) (Has.t rfl) .nil)) ?_
    refine Tri.seq fun K5 hK5 => ?_
    refine Tri.region ?_
    refine st (OK1.as (Has.cU 0 rfl)) rfl ?_
    refine nl ?_
    refine At.thn (hK5 _ _ ?_); clear hK5
    refine Tri.ret ?_
    refine rt1 (.inl rfl) Tryz.results94 rfl (.tmp (Has.t' rfl ?_) .nil)
    all_goals (exact isU_eq (by rw [if_neg (by omega)]))
set_option maxHeartbeats 4000000 in
theorem fmat_Identity {q n : Nat} (hn : n ≤ 64) : Ctr Tryz.prog 77 [Flat [isU q], isI (n : Int)] (isTup [isMW n n (tabU (n * n) n fun i k => (if i = k then 1 else 0) % fp q), isI 0]) := by
  refine Ctr.intro Tryz.func77 rfl (by kernel_rfl) Tryz.ntmps77 rfl fun w0 F0 => ?_
  refine Tri.cv (Cv.wk (.cons (t := 0) (Has.t rfl) (.cons (t := 1) (Has.t rfl) .nil))) ?_
  refine Tri.fact (Has.rngI (Has.t (t := 1) rfl)) fun lt1 => ?_
  refine Tri.seq fun K1 hK1 => ?_
  refine Tri.region ?_
  refine Ops.box (Has.t rfl) rfl fun b1 => ?_
  refine Ops.alloc [isI 0, isI 0, SlM isU []] zero38 (fun _ _ => ⟨⟨rfl, by decide, by decide⟩, ⟨rfl, by decide, by decide⟩, nilM _ _, trivial⟩) rfl fun b2 => ?_
  refine st (OK1.as (Has.cI 0 rfl)) rfl ?_
  refine nl ?_
  refine At.thn (hK1 _ _ ?_); clear hK1
  refine Tri.seq fun K2 hK2 => ?_
  refine Tri.seq fun K3 hK3 => ?_
  refine Tri.region ?_
  refine st (OK1.mv (Has.t rfl)) rfl ?_
  refine st (OK1.eq (OK1.call (fmat_side) (.cons (Has.t rfl) .nil)) ((show isB _ = isB true from isB_eq (by simp; omega)))) rfl ?_
  refine st (OK1.not (Has.t rfl)) rfl ?_
  refine nl ?_
  refine At.thn (hK3 _ _ ?_); clear hK3
  refine Tri.cond (Has.t rfl) (fun hc1 => ?_) (fun hc1 => ?_)
  · have hc1 := BP.t hc1
    simp at hc1
  · have hc1 := BP.f hc1
    refine Tri.skip ?_
    refine At.thn (hK2 _ _ ?_); clear hK2
    refine Tri.seq fun K4 hK4 => ?_
    refine Tri.region ?_
    refine st (OK1.load (Has.t rfl) (i := 1) rfl ty30 rfl (Ss' := [_]) rfl) rfl ?_
    refine st (OK1.mv (Has.t rfl)) rfl ?_
    refine st (OK1.mv (Has.t rfl)) rfl ?_
    refine st (OK1.call (fmat_made (f := fun i k => if i = k then 1 else 0) hn hn) (.cons (Has.t rfl) (.cons (Has.t rfl) (.cons (Has.t rfl) (.cons (Has.fn (ι := PI n n) (As := fun p => [isI (p.1.1 : Int), isI (p.1.2 : Int)]) (R := fun p => isU (if p.1.1 = p.1.2 then 1 else 0)) (fun p => fmat_one2)) .nil))))) rfl ?_
    refine Ops.store (Has.t rfl) (Has.t rfl) (i := 0) rfl ty38 rfl rfl (Ss' := [_, _, _]) rfl (M' := [(some _, cellM [_, _, _]), _]) rfl ?_
    refine st (OK1.as (Has.cI 0 rfl)) rfl ?_
    refine nl ?_
    refine At.thn (hK4 _ _ ?_); clear hK4
    refine Tri.cv (Cv.wk (.cons (t := 4) (Has.t rfl) (.cons (t := 5) (Has.t rfl) .nil))) ?_
    refine Tri.ret ?_
    refine rtN (.inl rfl) Tryz.results77 rfl rfl (.cell rfl (i := 0) rfl ty38 rfl ?_ (.tmp (Has.t' rfl ?_) .nil))
    · rfl
    · rfl
set_option maxHeartbeats 4000000 in
theorem hess_rowsOf {q n : Nat} {xs : List Nat} (hn : n ≤ 64) (hxl : xs.length = n * n) : CtrX Tryz.prog 78 [Flat [isU q], isMW n n xs] ([]) (fun S M => ∃ (gt : Gr (Option Nat)) (gm : Gr Nat), S = isGr gt n ∧ M = [grM (segV gm n) gt ((List.range n).map some), grM isU gm (tabU (n * n) n fun i k => xs.getD (i * n + k) 0 % fp q)]) := by
  refine CtrX.intro Tryz.func78 rfl (by kernel_rfl) Tryz.ntmps78 rfl fun w0 F0 => ?_
  refine Tri.cv (Cv.wk (.cons (t := 0) (Has.t rfl) (.cons (t := 1) (Has.t rfl) .nil))) ?_
  have hRC := side_le hn hn
  refine Tri.seq fun K1 hK1 => ?_
  refine Tri.region ?_
  refine Ops.box (Has.t rfl) rfl fun b1 => ?_
  refine Ops.box (Has.t rfl) rfl fun b2 => ?_
  refine st (OK1.as (Has.cW (f := fun l => isWords l))) rfl ?_
  refine nl ?_
  refine At.thn (hK1 _ _ ?_); clear hK1
  refine Tri.seq fun K2 hK2 => ?_
  refine Tri.region ?_
  refine st (OK1.load (Has.t rfl) (i := 1) rfl ty30 rfl (Ss' := [_]) rfl) rfl ?_
  refine st (OK1.load (Has.t rfl) (i := 0) rfl ty38 rfl (Ss' := [_, _, _]) rfl) rfl ?_
  refine Ops.callX (fmat_NormX hn hn hxl) (List.Perm.refl _) (.cons (Has.t rfl) (.cons (Has.t rfl) .nil)) rfl ?_
  rintro _ _ ⟨gm, rfl, rfl⟩
  refine Ops.memEq (M' := [grM isU gm _, _, _]) rfl ?_
  refine st (OK1.mv (Has.t rfl)) rfl ?_
  refine st (OK1.ext (Has.t rfl) rfl) rfl ?_
  refine st (OK1.ext (Has.t rfl) rfl) rfl ?_
  refine Ops.alloc [isI 0, isI 0, nilS] zero38 (fun _ _ => ⟨⟨rfl, by decide, by decide⟩, ⟨rfl, by decide, by decide⟩, rfl, trivial⟩) rfl fun b3 => ?_
  refine Ops.store (Has.t rfl) (Has.t rfl) (i := 0) rfl ty38 rfl rfl (Ss' := [_, _, _]) rfl (M' := [(some _, cellM [_, _, _]), _, _, _]) rfl ?_
  refine st (OK1.as (Has.t rfl)) rfl ?_
  refine nl ?_
  refine At.thn (hK2 _ _ ?_); clear hK2
  refine Tri.cv (Cv.wk (.cons (t := 4) (Has.t rfl) (.cons (t := 5) (Has.t rfl) .nil))) ?_
  refine Tri.seq fun K3 hK3 => ?_
  refine Tri.region ?_
  refine Ops.cv (Cv.grow0 (α := Option Nat) (segV gm n)) ?_
  refine st (OK1.as (Has.cGr (α := Option Nat))) rfl ?_
  refine nl ?_
  refine At.thn (hK3 _ _ ?_); clear hK3
  refine Tri.seq fun K4 hK4 => ?_
  refine Tri.seq fun K5 hK5 => ?_
  refine Tri.region ?_
  refine st (OK1.fieldAddr (Has.t rfl) fld38_0 ty3) rfl ?_
  refine st (OK1.load1 (Has.t rfl) (i := 1) rfl ty3 rfl) rfl ?_
  refine st (OK1.mv (Has.cI 0 rfl)) rfl ?_
  refine nl ?_
  refine At.thn (hK5 _ _ ?_); clear hK5
  refine Tri.block ?_
  refine Tri.loopF [4, 5, 16] (fun (z : { z : Nat × Gr (Option Nat) // z.1 ≤ n }) => match z with | ⟨(i, g), hI⟩ => [(17, isI (i : Int)), (7, isGr g ((List.range i).map some).length)]) (fun M => fun (z : { z : Nat × Gr (Option Nat) // z.1 ≤ n }) => match z with | ⟨(i, g), hI⟩ => [grM (segV gm n) g ((List.range i).map some), (some b3, cellM [isI (n : Int), isI (n : Int), isGr gm (n * n)]), grM isU gm (tabU (n * n) n fun i k => xs.getD (i * n + k) 0 % fp q), (some b2, cellM [isI (n : Int), isI (n : Int), SlM isU xs]), (some b1, cellM [isU q])]) (fun (z : { z : Nat × Gr (Option Nat) // z.1 ≤ n }) => match z with | ⟨(i, g), hI⟩ => n - i) (⟨(0, Gr.nil), Nat.zero_le _⟩) (Cv.mem (.cons (t := 17) (Has.t' rfl ?_) (.cons (t := 7) (Has.t' rfl ?_) (.cons (t := 4) (Has.t rfl) (.cons (t := 5) (Has.t rfl) (.cons (t := 16) (Has.t rfl) .nil))))) ?_) ?_
  · rfl
  · rfl
  · rfl
  rintro ⟨⟨i, g⟩, hI⟩ K6 hK6
  refine Tri.cv (Cv.wk (.cons (t := 17) (Has.t rfl) (.cons (t := 7) (Has.t rfl) (.cons (t := 4) (Has.t rfl) (.cons (t := 5) (Has.t rfl) (.cons (t := 16) (Has.t rfl) .nil)))))) ?_
  refine Tri.memEq (M' := [grM (segV gm n) g ((List.range i).map some), (some b3, cellM [isI (n : Int), isI (n : Int), isGr gm (n * n)]), grM isU gm (tabU (n * n) n fun i k => xs.getD (i * n + k) 0 % fp q), (some b2, cellM [isI (n : Int), isI (n : Int), SlM isU xs]), (some b1, cellM [isU q])]) rfl ?_
  simp only [] at hI
  have hin2 : i * n ≤ n * n := Nat.mul_le_mul_right n hI
  have hcp : ((i : Int) * (n : Int)) = ((i * n : Nat) : Int) := (Int.natCast_mul i n).symm
  have hcp2 : (((i : Int) + 1) * (n : Int)) = (((i + 1) * n : Nat) : Int) := by rw [Int.natCast_mul]; rfl
  refine Tri.seq fun K7 hK7 => ?_
  refine Tri.region ?_
  refine st (OK1.ltI (Has.t rfl) (Has.t rfl)) rfl ?_
  refine nl ?_
  refine At.thn (hK7 _ _ ?_); clear hK7
  refine Tri.seq fun K8 hK8 => ?_
  refine Tri.cond (Has.t rfl) (fun hc1 => ?_) (fun hc1 => ?_)
  · have hc1 := BP.t hc1
    have hi : i < n := (by omega)
    have hin3 : (i + 1) * n ≤ n * n := Nat.mul_le_mul_right n hi
    have hsm : (i + 1) * n = i * n + n := Nat.succ_mul i n
    refine Tri.skip ?_
    refine At.thn (hK8 _ _ ?_); clear hK8
    refine Tri.seq fun K9 hK9 => ?_
    refine Tri.block ?_
    refine Tri.seq fun K10 hK10 => ?_
    refine Tri.region ?_
    refine st (OK1.mv (Has.t rfl)) rfl ?_
    refine st (OK1.as (Has.t rfl)) rfl ?_
    refine nl ?_
    refine At.thn (hK10 _ _ ?_); clear hK10
    refine Tri.region ?_
    refine st (OK1.mv (Has.t rfl)) rfl ?_
    refine st (OK1.fieldAddr (Has.t rfl) fld38_2 ty36) rfl ?_
    refine st (OK1.load1 (Has.t rfl) (i := 1) rfl ty36 rfl) rfl ?_
    refine st (OK1.mv (Has.t rfl)) rfl ?_
    refine st (OK1.fieldAddr (Has.t rfl) fld38_1 ty3) rfl ?_
    refine st (OK1.load1 (Has.t rfl) (i := 1) rfl ty3 rfl) rfl ?_
    refine st (OK1.eq (OK1.mulI (Has.t rfl) (Has.t rfl) (by first | (simp only [← Int.natCast_mul]; omega) | omega) (by first | (simp only [← Int.natCast_mul]; omega) | omega)) ((show isI _ = isI ((i * n : Nat) : Int) from isI_eq hcp))) rfl ?_
    refine st (OK1.mv (Has.t rfl)) rfl ?_
    refine st (OK1.addI (Has.t rfl) (Has.cI 1 rfl) (by first | (simp only [← Int.natCast_mul]; omega) | omega) (by first | (simp only [← Int.natCast_mul]; omega) | omega)) rfl ?_
    refine st (OK1.fieldAddr (Has.t rfl) fld38_1 ty3) rfl ?_
    refine st (OK1.load1 (Has.t rfl) (i := 1) rfl ty3 rfl) rfl ?_
    refine st (OK1.eq (OK1.mulI (Has.t rfl) (Has.t rfl) (by first | (simp only [← Int.natCast_mul]; omega) | omega) (by first | (simp only [← Int.natCast_mul]; omega) | omega)) ((show isI _ = isI (((i + 1) * n : Nat) : Int) from isI_eq hcp2))) rfl ?_
    refine st (OK1.eq (OK1.slSeg sl36 ty28 (Has.t rfl) (Has.t rfl) (Has.t rfl) ⟨by omega, by omega, by omega⟩) ((show isSeg gm _ _ = isSeg gm (i * n) n from by simp only [Int.toNat_natCast]; rw [show (i + 1) * n - i * n = n by omega]))) rfl ?_
    refine st (OK1.buildS [nilS] sl94 ty36 zero36 (fun _ _ => ⟨rfl, trivial⟩) rfl rfl (.cons (Has.t rfl) rfl rfl rfl .nil) rfl (S := SlM (segV gm n) [some i]) rfl) rfl ?_
    refine Ops.appendG (f := (segV gm n)) (u := (none : Option Nat)) sl94 ty36 zero36 (fun _ _ => ⟨rfl, trivial⟩) (fun _ => inferInstance) by36 (Has.t rfl) (i := 0) rfl (Has.t rfl) (by simp only [List.length_map, List.length_range, List.length_singleton]; omega) (by simp) rfl fun gr1 => ?_
    refine Ops.memEq (M' := [grM _ _ _, _, _, _, _]) rfl ?_
    refine st (OK1.as (Has.t rfl)) rfl ?_
    refine nl ?_
    refine At.bln ?_
    refine At.thn (hK9 _ _ ?_); clear hK9
    refine Tri.region ?_
    refine st (OK1.addI (Has.t rfl) (Has.cI 1 rfl) (by first | omega | assumption) (by first | omega | assumption)) rfl ?_
    refine st (OK1.mv (Has.t rfl)) rfl ?_
    refine nl ?_
    refine At.thn ?_
    refine hK6 (⟨(i + 1, gr1), by show i + 1 ≤ n; omega⟩) _ _ ?_ (Cv.mem (.cons (t := 17) (Has.t' rfl ?_) (.cons (t := 7) (Has.t' rfl ?_) (.cons (t := 4) (Has.t rfl) (.cons (t := 5) (Has.t rfl) (.cons (t := 16) (Has.t rfl) .nil))))) ?_)
    · show n - (i + 1) < n - i; omega
    · exact isI_eq (by omega)
    · exact isGr_eq (by simp only [List.length_map, List.length_range, List.length_singleton])
    · exact grM_eq (by rw [List.range_succ, List.map_append]; rfl)
  · have hc1 := BP.f hc1
    refine Tri.exit ?_
    refine At.the ?_
    refine At.the ?_
    refine At.blh ?_
    refine At.thn (hK4 _ _ ?_); clear hK4
    refine Tri.seq fun K11 hK11 => ?_
    refine Tri.region ?_
    refine st (OK1.mv (Has.t rfl)) rfl ?_
    refine st (OK1.as (Has.t rfl)) rfl ?_
    refine nl ?_
    refine At.thn (hK11 _ _ ?_); clear hK11
    refine Tri.cv (Cv.wk (.cons (t := 4) (Has.t rfl) .nil)) ?_
    refine Tri.ret ?_
    refine rtX1D (.cons_cons _ (.cons _ (.cons_cons _ (.cons _ (.cons _ .slnil))))) (.inl rfl) Tryz.results78 rfl (.tmp (Has.t rfl) .nil) ?_
    obtain rfl : i = n := (by omega)
    exact ⟨g, gm, by rw [List.length_map, List.length_range], rfl⟩
end Go.Proofs.YtkgipdidomikbaaGreat
/- Contracts: a matrix in Hessenberg's form. -/
namespace Go.Proofs.YtkgipdidomikbaaGreat
open Go.En Go.RowKit
set_option linter.unusedVariables false
set_option maxRecDepth 10000
open Go.Gf
open Go.Mz
open Go.Mu
open Go.Nt
open Go.Hs
theorem perm_h {α : Type} (a b c d e : α) : [a, b, c, d, e].Perm [a, d, b, e, c] := .cons a (((List.Perm.swap d c [e]).cons b).trans ((List.Perm.swap d b [c, e]).trans (((List.Perm.swap e c []).cons b).cons d)))
theorem getD_range {n r : Nat} (h : r < n) : (List.range n).getD r 0 = r := by rw [List.getD_eq_getElem?_getD, List.getElem?_range h]; rfl
theorem SV_range (n : Nat) : SV n (List.range n) := ⟨List.length_range, fun r hr => by rw [getD_range hr]; exact hr, fun r r' hr hr' e => by rwa [getD_range hr, getD_range hr'] at e⟩
set_option maxHeartbeats 4000000 in
theorem hess_begun {q n : Nat} {xs : List Nat} (hn : n ≤ 64) (hxl : xs.length = n * n) : CtrX Tryz.prog 55 [Flat [isU q], isMW n n xs] ([]) (fun S M => ∃ bw gth gtp gh gp P, S = isPtr bw 0 ∧ M = wkH q bw n gth gtp gh gp (List.range n) (tabU (n * n) n fun i k => xs.getD (i * n + k) 0 % fp q) P ∧ P.length = n * n) := by
  refine CtrX.intro Tryz.func55 rfl (by kernel_rfl) Tryz.ntmps55 rfl fun w0 F0 => ?_
  refine Tri.cv (Cv.wk (.cons (t := 0) (Has.t rfl) (.cons (t := 1) (Has.t rfl) .nil))) ?_
  have hRC := side_le hn hn
  refine Tri.seq fun K1 hK1 => ?_
  refine Tri.region ?_
  refine Ops.box (Has.t rfl) rfl fun b1 => ?_
  refine Ops.box (Has.t rfl) rfl fun b2 => ?_
  refine st (OK1.as Has.cP) rfl ?_
  refine nl ?_
  refine At.thn (hK1 _ _ ?_); clear hK1
  refine Tri.seq fun K2 hK2 => ?_
  refine Tri.region ?_
  refine st (OK1.load (Has.t rfl) (i := 1) rfl ty30 rfl (Ss' := [_]) rfl) rfl ?_
  refine st (OK1.fieldAddr (Has.t rfl) fld38_0 ty3) rfl ?_
  refine st (OK1.load1 (Has.t rfl) (i := 0) rfl ty3 rfl) rfl ?_
  refine st (OK1.call (fmat_Identity hn) (.cons (Has.t rfl) (.cons (Has.t rfl) .nil))) rfl ?_
  refine st (OK1.mv (Has.t rfl)) rfl ?_
  refine st (OK1.ext (Has.t rfl) rfl) rfl ?_
  refine st (OK1.ext (Has.t rfl) rfl) rfl ?_
  refine Ops.alloc [isI 0, isI 0, SlM isU []] zero38 (fun _ _ => ⟨⟨rfl, by decide, by decide⟩, ⟨rfl, by decide, by decide⟩, nilM _ _, trivial⟩) rfl fun b3 => ?_
  refine Ops.store (Has.t rfl) (Has.t rfl) (i := 0) rfl ty38 rfl rfl (Ss' := [_, _, _]) rfl (M' := [(some _, cellM [_, _, _]), _, _]) rfl ?_
  refine st (OK1.as (Has.t rfl)) rfl ?_
  refine nl ?_
  refine At.thn (hK2 _ _ ?_); clear hK2
  refine Tri.cv (Cv.wk (.cons (t := 2) (Has.t rfl) (.cons (t := 3) (Has.t rfl) (.cons (t := 4) (Has.t rfl) (.cons (t := 5) (Has.t rfl) .nil))))) ?_
  refine Tri.seq fun K3 hK3 => ?_
  refine Tri.dre (n := 7) [3, 6] ?_
  refine DrE.st (i := 0) [] rfl rfl rfl (by kernel_rfl) (by kernel_rfl) (by kernel_rfl) (by kernel_rfl) (OKG.o rfl (OK1.load (Has.t rfl) (i := 2) rfl ty30 rfl (Ss' := [_]) rfl)) ?_
  refine DrE.st (i := 1) [] rfl rfl rfl (by kernel_rfl) (by kernel_rfl) (by kernel_rfl) (by kernel_rfl) (OKG.o rfl (OK1.load (Has.t rfl) (i := 2) rfl ty30 rfl (Ss' := [_]) rfl)) ?_
  refine DrE.st (i := 2) [] rfl rfl rfl (by kernel_rfl) (by kernel_rfl) (by kernel_rfl) (by kernel_rfl) (OKG.o rfl (OK1.load (Has.t rfl) (i := 1) rfl ty38 rfl (Ss' := [_, _, _]) rfl)) ?_
  refine DrE.sk (by kernel_rfl) ?_
  refine DrE.st (i := 4) [] rfl rfl rfl (by kernel_rfl) (by kernel_rfl) (by kernel_rfl) (by kernel_rfl) (OKG.o rfl (OK1.load (Has.t rfl) (i := 2) rfl ty30 rfl (Ss' := [_]) rfl)) ?_
  refine DrE.st (i := 5) [] rfl rfl rfl (by kernel_rfl) (by kernel_rfl) (by kernel_rfl) (by kernel_rfl) (OKG.o rfl (OK1.load (Has.t rfl) (i := 0) rfl ty38 rfl (Ss' := [_, _, _]) rfl)) ?_
  refine DrE.sk (by kernel_rfl) ?_
  refine DrE.go (List.Sublist.refl _) mixed (by kernel_rfl) (by kernel_rfl) (by kernel_rfl) (by kernel_rfl) (by kernel_rfl) ?_
  refine DrEm.mid (i := 3) [15, 16] rfl rfl rfl (by kernel_rfl) (by kernel_rfl) (by kernel_rfl) (StR.callX (hess_rowsOf hn hxl) rfl (.cons (Has.t rfl) (.cons (Has.t rfl) .nil))) ?_
  rintro _ _ ⟨_, ⟨gth, gh, rfl, rfl⟩, rfl⟩
  refine ⟨(.cons _ (.cons _ (List.Sublist.refl _))), ?_⟩
  refine DrEm.mid (i := 6) [18, 19] rfl rfl rfl (by kernel_rfl) (by kernel_rfl) (by kernel_rfl) (StR.callX (hess_rowsOf hn (tabU_len _ _ _)) rfl (.cons (Has.t rfl) (.cons (Has.t rfl) .nil))) ?_
  rintro _ _ ⟨_, ⟨gtp, gp, rfl, rfl⟩, rfl⟩
  refine ⟨(.cons _ (.cons _ (.cons _ (.cons _ (List.Sublist.refl _))))), ?_⟩
  refine DrEm.fin rfl ?_
  refine Ops.memEq (M' := [_, _, _, _, _, _, _]) rfl ?_
  refine Ops.cv (Cv.wk (.cons (t := 4) (Has.t rfl) (.cons (t := 14) (Has.t rfl) (.cons (t := 17) (Has.t rfl) (.cons (t := 20) (Has.t rfl) .nil))))) ?_
  refine st (OK1.build [isU 0, nilS, nilS] pl96 zero96 (fun _ _ => ⟨⟨rfl, by decide⟩, rfl, rfl, trivial⟩) (.cons (Has.t rfl) rfl rfl rfl (.cons (Has.t rfl) rfl rfl rfl (.cons (Has.t rfl) rfl rfl rfl .nil))) (Z'' := [_, _, _]) rfl) rfl ?_
  refine Ops.box (Has.t rfl) rfl fun b4 => ?_
  refine Ops.cv (Cv.trans (Cv.drop (.cons_cons _ (.cons_cons _ (.cons_cons _ (.cons_cons _ (.cons_cons _ (.cons _ (.cons _ (.cons _ .slnil))))))))) (Cv.perm (perm_h _ _ _ _ _))) ?_
  refine st (OK1.as (Has.t rfl)) rfl ?_
  refine nl ?_
  refine At.thn (hK3 _ _ ?_); clear hK3
  refine Tri.cv (Cv.wk (.cons (t := 4) (Has.t rfl) .nil)) ?_
  refine Tri.ret ?_
  refine rtX1 (.inl rfl) Tryz.results55 rfl (.tmp (Has.t rfl) .nil) ?_
  exact ⟨b4, gth, gtp, gh, gp, _, rfl, rfl, tabU_len _ _ _⟩
set_option maxHeartbeats 4000000 in
theorem hess_formed {q n : Nat} {xs : List Nat} {A : Go.Dt.MatF} (hq : q < 4294967296) (hpr : Prime (fp q)) (hn : n ≤ 64) (hxl : xs.length = n * n) (hA : HI (fp q) n A (hu n (List.range n) (tabU (n * n) n fun i k => xs.getD (i * n + k) 0 % fp q)) 1) : CtrX Tryz.prog 28 [Flat [isU q], isMW n n xs] ([]) (fun S M => ∃ bw gth gtp gh gp σ H P, S = isPtr bw 0 ∧ M = wkH q bw n gth gtp gh gp σ H P ∧ SV n σ ∧ H.length = n * n ∧ P.length = n * n ∧ (∃ k, HI (fp q) n A (hu n σ H) k) ∧ ∀ r s, r < n → s + 1 < r → hu n σ H r s = 0) := by
  refine CtrX.intro Tryz.func28 rfl (by kernel_rfl) Tryz.ntmps28 rfl fun w0 F0 => ?_
  refine Tri.cv (Cv.wk (.cons (t := 0) (Has.t rfl) (.cons (t := 1) (Has.t rfl) .nil))) ?_
  refine Tri.seq fun K1 hK1 => ?_
  refine Tri.region ?_
  refine Ops.box (Has.t rfl) rfl fun b1 => ?_
  refine Ops.box (Has.t rfl) rfl fun b2 => ?_
  refine st (OK1.as Has.cP) rfl ?_
  refine nl ?_
  refine At.thn (hK1 _ _ ?_); clear hK1
  refine Tri.seq fun K2 hK2 => ?_
  refine Tri.region ?_
  refine st (OK1.load (Has.t rfl) (i := 1) rfl ty30 rfl (Ss' := [_]) rfl) rfl ?_
  refine st (OK1.load (Has.t rfl) (i := 0) rfl ty38 rfl (Ss' := [_, _, _]) rfl) rfl ?_
  refine Ops.callX (hess_begun hn hxl) (List.Perm.refl _) (.cons (Has.t rfl) (.cons (Has.t rfl) .nil)) rfl ?_
  rintro _ _ ⟨bw, gth, gtp, gh, gp, P0, rfl, rfl, hP0⟩
  refine Ops.memEq (M' := wkH q bw n gth gtp gh gp (List.range n) (tabU (n * n) n fun i k => xs.getD (i * n + k) 0 % fp q) P0 ++ [(some b2, cellM [isI (n : Int), isI (n : Int), SlM isU xs]), (some b1, cellM [isU q])]) rfl ?_
  refine st (OK1.as (Has.t rfl)) rfl ?_
  refine nl ?_
  refine At.thn (hK2 _ _ ?_); clear hK2
  refine Tri.cv (Cv.wk (.cons (t := 3) (Has.t rfl) (.cons (t := 4) (Has.t rfl) (.cons (t := 5) (Has.t rfl) .nil)))) ?_
  refine Tri.seq fun K3 hK3 => ?_
  refine Tri.seq fun K4 hK4 => ?_
  refine Tri.region ?_
  refine st (OK1.as (Has.cI 1 rfl)) rfl ?_
  refine nl ?_
  refine At.thn (hK4 _ _ ?_); clear hK4
  refine Tri.block ?_
  refine Tri.loopF [3, 4, 5] (fun (z : { z : Nat × List Nat × List Nat × List Nat // 1 ≤ z.1 ∧ z.1 ≤ n + 1 ∧ SV n z.2.1 ∧ z.2.2.1.length = n * n ∧ z.2.2.2.length = n * n ∧ HI (fp q) n A (hu n z.2.1 z.2.2.1) z.1 }) => match z with | ⟨(k, σ, H, P), hL⟩ => [(6, isI (k : Int))]) (fun M => fun (z : { z : Nat × List Nat × List Nat × List Nat // 1 ≤ z.1 ∧ z.1 ≤ n + 1 ∧ SV n z.2.1 ∧ z.2.2.1.length = n * n ∧ z.2.2.2.length = n * n ∧ HI (fp q) n A (hu n z.2.1 z.2.2.1) z.1 }) => match z with | ⟨(k, σ, H, P), hL⟩ => (wkH q bw n gth gtp gh gp σ H P ++ [(some b2, cellM [isI (n : Int), isI (n : Int), SlM isU xs]), (some b1, cellM [isU q])])) (fun (z : { z : Nat × List Nat × List Nat × List Nat // 1 ≤ z.1 ∧ z.1 ≤ n + 1 ∧ SV n z.2.1 ∧ z.2.2.1.length = n * n ∧ z.2.2.2.length = n * n ∧ HI (fp q) n A (hu n z.2.1 z.2.2.1) z.1 }) => match z with | ⟨(k, σ, H, P), hL⟩ => n + 1 - k) (⟨(1, List.range n, (tabU (n * n) n fun i k => xs.getD (i * n + k) 0 % fp q), P0), Nat.le_refl _, by show 1 ≤ n + 1; omega, SV_range n, by simp only [tabU_len], hP0, hA⟩) (Cv.mem (.cons (t := 6) (Has.t' rfl ?_) (.cons (t := 3) (Has.t rfl) (.cons (t := 4) (Has.t rfl) (.cons (t := 5) (Has.t rfl) .nil)))) ?_) ?_
  · rfl
  · rfl
  rintro ⟨⟨k, σ, H, P⟩, hL⟩ K5 hK5
  refine Tri.cv (Cv.wk (.cons (t := 6) (Has.t rfl) (.cons (t := 3) (Has.t rfl) (.cons (t := 4) (Has.t rfl) (.cons (t := 5) (Has.t rfl) .nil))))) ?_
  refine Tri.memEq (M' := (wkH q bw n gth gtp gh gp σ H P ++ [(some b2, cellM [isI (n : Int), isI (n : Int), SlM isU xs]), (some b1, cellM [isU q])])) rfl ?_
  simp only [] at hL
  obtain ⟨hk1, hk2, hS, hH, hP, hI⟩ := hL
  refine Tri.seq fun K6 hK6 => ?_
  refine Tri.seq fun K7 hK7 => ?_
  refine Tri.region ?_
  refine st (OK1.mv (Has.t rfl)) rfl ?_
  refine st (OK1.addI (Has.t rfl) (Has.cI 1 rfl) (by first | omega | assumption) (by first | omega | assumption)) rfl ?_
  refine st (OK1.fieldAddr (Has.t rfl) fld38_0 ty3) rfl ?_
  refine st (OK1.load1 (Has.t rfl) (i := 5) rfl ty3 rfl) rfl ?_
  refine st (OK1.ltI (Has.t rfl) (Has.t rfl)) rfl ?_
  refine nl ?_
  refine At.thn (hK7 _ _ ?_); clear hK7
  refine Tri.cond (Has.t rfl) (fun hc1 => ?_) (fun hc1 => ?_)
  · have hc1 := BP.t hc1
    refine Tri.skip ?_
    refine At.thn (hK6 _ _ ?_); clear hK6
    refine Tri.seq fun K8 hK8 => ?_
    refine Tri.block ?_
    refine Tri.region ?_
    refine st (OK1.mv (Has.t rfl)) rfl ?_
    refine st (OK1.mv (Has.t rfl)) rfl ?_
    refine Ops.callX (hess_column hS hH hP hn hq hpr hI hk1 (by omega)) (List.Perm.refl _) (.cons (Has.t rfl) (.cons (Has.t rfl) .nil)) rfl ?_
    rintro _ _ ⟨σ2, H2, P2, rfl, rfl, hS2, hH2, hP2, hI2⟩
    refine Ops.memEq (M' := wkH q bw n gth gtp gh gp σ2 H2 P2 ++ [(some b2, cellM [isI (n : Int), isI (n : Int), SlM isU xs]), (some b1, cellM [isU q])]) rfl ?_
    refine nl ?_
    refine At.bln ?_
    refine At.thn (hK8 _ _ ?_); clear hK8
    refine Tri.region ?_
    refine st (OK1.mv (Has.t rfl)) rfl ?_
    refine st (OK1.addI (Has.t rfl) (Has.cI 1 rfl) (by first | omega | assumption) (by first | omega | assumption)) rfl ?_
    refine st (OK1.as (Has.t rfl)) rfl ?_
    refine nl ?_
    refine At.thn ?_
    refine hK5 (⟨(k + 1, σ2, H2, P2), by show 1 ≤ k + 1; omega, by show k + 1 ≤ n + 1; omega, hS2, hH2, hP2, hI2⟩) _ _ ?_ (Cv.mem (.cons (t := 6) (Has.t' rfl ?_) (.cons (t := 3) (Has.t rfl) (.cons (t := 4) (Has.t rfl) (.cons (t := 5) (Has.t rfl) .nil)))) ?_)
    · show n + 1 - (k + 1) < n + 1 - k; omega
    · exact isI_eq (by omega)
    · rfl
  · have hc1 := BP.f hc1
    refine Tri.exit ?_
    refine At.the ?_
    refine At.the ?_
    refine At.blh ?_
    refine At.thn (hK3 _ _ ?_); clear hK3
    refine Tri.cv (Cv.wk (.cons (t := 4) (Has.t rfl) (.cons (t := 5) (Has.t rfl) .nil))) ?_
    refine Tri.seq fun K9 hK9 => ?_
    refine Tri.region ?_
    refine st (OK1.mv (Has.t rfl)) rfl ?_
    refine st (OK1.as (Has.t rfl)) rfl ?_
    refine nl ?_
    refine At.thn (hK9 _ _ ?_); clear hK9
    refine Tri.ret ?_
    refine rtX1D (.cons_cons _ (.cons_cons _ (.cons_cons _ (.cons_cons _ (.cons_cons _ (.cons _ (.cons _ .slnil))))))) (.inl rfl) Tryz.results28 rfl (.tmp (Has.t rfl) .nil) ?_
    exact ⟨bw, gth, gtp, gh, gp, σ, H, P, rfl, rfl, hS, hH, hP, ⟨k, hI⟩, fun r s hr hs => hI.low r s hr hs (by omega)⟩
end Go.Proofs.YtkgipdidomikbaaGreat
/- Contracts: natural numbers (layer 1). -/
namespace Go.Proofs.YtkgipdidomikbaaGreat
open Go.En Go.RowKit
set_option linter.unusedVariables false
set_option maxRecDepth 10000
open Go.Nt
set_option maxHeartbeats 4000000 in
theorem bits_Mul64 {x y : Nat} : Ctr Tryz.prog 119 [isU x, isU y] (isTup [isU (x * y / 18446744073709551616), isU (x * y % 18446744073709551616)]) := by
  refine Ctr.intro Tryz.func119 rfl (by kernel_rfl) Tryz.ntmps119 rfl fun w0 F0 => ?_
  refine Tri.cv (Cv.wk (.cons (t := 0) (Has.t rfl) (.cons (t := 1) (Has.t rfl) .nil))) ?_
  refine Tri.fact (Has.ltU (Has.t (t := 0) rfl)) fun lt0 => ?_
  refine Tri.fact (Has.ltU (Has.t (t := 1) rfl)) fun lt1 => ?_
  have hf := mul64_facts lt0 lt1
  have hx1 : x / 2 ^ 32 < 4294967296 := by omega
  have hy1 : y / 2 ^ 32 < 4294967296 := by omega
  refine Tri.seq fun K1 hK1 => ?_
  refine Tri.region ?_
  refine st (OK1.as (Has.cU 0 rfl)) rfl ?_
  refine st (OK1.as (Has.cU 0 rfl)) rfl ?_
  refine nl ?_
  refine At.thn (hK1 _ _ ?_); clear hK1
  refine Tri.seq fun K2 hK2 => ?_
  refine Tri.region ?_
  refine st (OK1.mv (Has.t rfl)) rfl ?_
  refine st (OK1.eq (OK1.andU (Has.t rfl) (Has.cU 4294967295 rfl)) (isU_eq (Nat.and_two_pow_sub_one_eq_mod _ 32))) rfl ?_
  refine st (OK1.as (Has.t rfl)) rfl ?_
  refine nl ?_
  refine At.thn (hK2 _ _ ?_); clear hK2
  refine Tri.seq fun K3 hK3 => ?_
  refine Tri.region ?_
  refine st (OK1.mv (Has.t rfl)) rfl ?_
  refine st (OK1.shrUU (Has.t rfl) (Has.cU 32 rfl) (by omega)) rfl ?_
  refine st (OK1.as (Has.t rfl)) rfl ?_
  refine nl ?_
  refine At.thn (hK3 _ _ ?_); clear hK3
  refine Tri.seq fun K4 hK4 => ?_
  refine Tri.region ?_
  refine st (OK1.mv (Has.t rfl)) rfl ?_
  refine st (OK1.eq (OK1.andU (Has.t rfl) (Has.cU 4294967295 rfl)) (isU_eq (Nat.and_two_pow_sub_one_eq_mod _ 32))) rfl ?_
  refine st (OK1.as (Has.t rfl)) rfl ?_
  refine nl ?_
  refine At.thn (hK4 _ _ ?_); clear hK4
  refine Tri.cv (Cv.wk (.cons (t := 0) (Has.t rfl) (.cons (t := 1) (Has.t rfl) (.cons (t := 4) (Has.t rfl) (.cons (t := 5) (Has.t rfl) (.cons (t := 6) (Has.t rfl) (.cons (t := 7) (Has.t rfl) (.cons (t := 8) (Has.t rfl) .nil)))))))) ?_
  refine Tri.seq fun K5 hK5 => ?_
  refine Tri.region ?_
  refine st (OK1.mv (Has.t rfl)) rfl ?_
  refine st (OK1.shrUU (Has.t rfl) (Has.cU 32 rfl) (by omega)) rfl ?_
  refine st (OK1.as (Has.t rfl)) rfl ?_
  refine nl ?_
  refine At.thn (hK5 _ _ ?_); clear hK5
  refine Tri.seq fun K6 hK6 => ?_
  refine Tri.region ?_
  refine st (OK1.mv (Has.t rfl)) rfl ?_
  refine st (OK1.mv (Has.t rfl)) rfl ?_
  refine st (OK1.mulU' (Has.t rfl) (Has.t rfl) (by omega)) rfl ?_
  refine st (OK1.as (Has.t rfl)) rfl ?_
  refine nl ?_
  refine At.thn (hK6 _ _ ?_); clear hK6
  refine Tri.cv (Cv.wk (.cons (t := 0) (Has.t rfl) (.cons (t := 1) (Has.t rfl) (.cons (t := 4) (Has.t rfl) (.cons (t := 5) (Has.t rfl) (.cons (t := 6) (Has.t rfl) (.cons (t := 7) (Has.t rfl) (.cons (t := 8) (Has.t rfl) (.cons (t := 9) (Has.t rfl) (.cons (t := 10) (Has.t rfl) .nil)))))))))) ?_
  refine Tri.seq fun K7 hK7 => ?_
  refine Tri.region ?_
  refine st (OK1.mv (Has.t rfl)) rfl ?_
  refine st (OK1.mv (Has.t rfl)) rfl ?_
  refine st (OK1.mulU' (Has.t rfl) (Has.t rfl) (by omega)) rfl ?_
  refine st (OK1.mv (Has.t rfl)) rfl ?_
  refine st (OK1.shrUU (Has.t rfl) (Has.cU 32 rfl) (by omega)) rfl ?_
  refine st (OK1.addU' (Has.t rfl) (Has.t rfl) (by omega)) rfl ?_
  refine st (OK1.as (Has.t rfl)) rfl ?_
  refine nl ?_
  refine At.thn (hK7 _ _ ?_); clear hK7
  refine Tri.cv (Cv.wk (.cons (t := 0) (Has.t rfl) (.cons (t := 1) (Has.t rfl) (.cons (t := 4) (Has.t rfl) (.cons (t := 5) (Has.t rfl) (.cons (t := 6) (Has.t rfl) (.cons (t := 7) (Has.t rfl) (.cons (t := 9) (Has.t rfl) (.cons (t := 11) (Has.t rfl) .nil))))))))) ?_
  refine Tri.seq fun K8 hK8 => ?_
  refine Tri.region ?_
  refine st (OK1.mv (Has.t rfl)) rfl ?_
  refine st (OK1.eq (OK1.andU (Has.t rfl) (Has.cU 4294967295 rfl)) (isU_eq (Nat.and_two_pow_sub_one_eq_mod _ 32))) rfl ?_
  refine st (OK1.as (Has.t rfl)) rfl ?_
  refine nl ?_
  refine At.thn (hK8 _ _ ?_); clear hK8
  refine Tri.seq fun K9 hK9 => ?_
  refine Tri.region ?_
  refine st (OK1.mv (Has.t rfl)) rfl ?_
  refine st (OK1.shrUU (Has.t rfl) (Has.cU 32 rfl) (by omega)) rfl ?_
  refine st (OK1.as (Has.t rfl)) rfl ?_
  refine nl ?_
  refine At.thn (hK9 _ _ ?_); clear hK9
  refine Tri.cv (Cv.wk (.cons (t := 0) (Has.t rfl) (.cons (t := 1) (Has.t rfl) (.cons (t := 4) (Has.t rfl) (.cons (t := 5) (Has.t rfl) (.cons (t := 6) (Has.t rfl) (.cons (t := 7) (Has.t rfl) (.cons (t := 9) (Has.t rfl) (.cons (t := 12) (Has.t rfl) (.cons (t := 13) (Has.t rfl) .nil)))))))))) ?_
  refine Tri.seq fun K10 hK10 => ?_
  refine Tri.region ?_
  refine st (OK1.mv (Has.t rfl)) rfl ?_
  refine st (OK1.mv (Has.t rfl)) rfl ?_
  refine st (OK1.mv (Has.t rfl)) rfl ?_
  refine st (OK1.mulU' (Has.t rfl) (Has.t rfl) (by omega)) rfl ?_
  refine st (OK1.addU' (Has.t rfl) (Has.t rfl) (by omega)) rfl ?_
  refine st (OK1.as (Has.t rfl)) rfl ?_
  refine nl ?_
  refine At.thn (hK10 _ _ ?_); clear hK10
  refine Tri.cv (Cv.wk (.cons (t := 0) (Has.t rfl) (.cons (t := 1) (Has.t rfl) (.cons (t := 4) (Has.t rfl) (.cons (t := 5) (Has.t rfl) (.cons (t := 7) (Has.t rfl) (.cons (t := 9) (Has.t rfl) (.cons (t := 12) (Has.t rfl) (.cons (t := 13) (Has.t rfl) .nil))))))))) ?_
  refine Tri.seq fun K11 hK11 => ?_
  refine Tri.region ?_
  refine st (OK1.mv (Has.t rfl)) rfl ?_
  refine st (OK1.mv (Has.t rfl)) rfl ?_
  refine st (OK1.mulU' (Has.t rfl) (Has.t rfl) (by omega)) rfl ?_
  refine st (OK1.mv (Has.t rfl)) rfl ?_
  refine st (OK1.addU' (Has.t rfl) (Has.t rfl) (by omega)) rfl ?_
  refine st (OK1.mv (Has.t rfl)) rfl ?_
  refine st (OK1.shrUU (Has.t rfl) (Has.cU 32 rfl) (by omega)) rfl ?_
  refine st (OK1.addU' (Has.t rfl) (Has.t rfl) (by omega)) rfl ?_
  refine st (OK1.as (Has.t rfl)) rfl ?_
  refine nl ?_
  refine At.thn (hK11 _ _ ?_); clear hK11
  refine Tri.cv (Cv.wk (.cons (t := 0) (Has.t rfl) (.cons (t := 1) (Has.t rfl) (.cons (t := 4) (Has.t rfl) (.cons (t := 5) (Has.t rfl) .nil))))) ?_
  refine Tri.seq fun K12 hK12 => ?_
  refine Tri.region ?_
  refine st (OK1.mv (Has.t rfl)) rfl ?_
  refine st (OK1.mv (Has.t rfl)) rfl ?_
  refine st (OK1.mulU (Has.t rfl) (Has.t rfl)) rfl ?_
  refine st (OK1.as (Has.t rfl)) rfl ?_
  refine nl ?_
  refine At.thn (hK12 _ _ ?_); clear hK12
  refine Tri.cv (Cv.wk (.cons (t := 4) (Has.t rfl) (.cons (t := 5) (Has.t rfl) .nil))) ?_
  refine Tri.ret ?_
  refine rtN (.inl rfl) Tryz.results119 rfl rfl (.tmp (Has.t' rfl ?_) (.tmp (Has.t' rfl ?_) .nil))
  · exact isU_eq (mul64_hi x y)
  · rfl
set_option maxHeartbeats 4000000 in
theorem clone_Nat {xs : List Nat} (hx : xs.length ≤ 4294967296) : Ctr Tryz.prog 93 [isWords xs] (isWords xs) := by
  refine Ctr.intro Tryz.func93 rfl (by kernel_rfl) Tryz.ntmps93 rfl fun w0 F0 => ?_
  refine Tri.cv (Cv.wk (.cons (t := 0) (Has.t rfl) .nil)) ?_
  refine Tri.fact (Has.lenLt (Has.t (t := 0) rfl)) fun lt0 => ?_
  refine Tri.fact (Has.okW (Has.t (t := 0) rfl)) fun ok0 => ?_
  refine Tri.seq fun K1 hK1 => ?_
  refine Tri.region ?_
  refine st (OK1.as (Has.cW (f := isU))) rfl ?_
  refine nl ?_
  refine At.thn (hK1 _ _ ?_); clear hK1
  refine Tri.seq fun K2 hK2 => ?_
  refine Tri.seq fun K3 hK3 => ?_
  refine Tri.region ?_
  refine st (OK1.mv (Has.t rfl)) rfl ?_
  refine Ops.eqNil sl59 (Has.t rfl) rfl fun bn1 hn1 => ?_
  refine nl ?_
  refine At.thn (hK3 _ _ ?_); clear hK3
  refine Tri.cond (Has.t rfl) (fun hc2 => ?_) (fun hc2 => ?_)
  · have hc2 := BP.t hc2
    refine Tri.seq fun K4 hK4 => ?_
    refine Tri.region ?_
    refine st (OK1.as (Has.cW (f := isU))) rfl ?_
    refine nl ?_
    refine At.thn (hK4 _ _ ?_); clear hK4
    refine Tri.ret ?_
    refine At.thr ?_
    refine rt1 (.inl rfl) Tryz.results93 rfl (.tmp (Has.t' rfl ?_) .nil)
    all_goals (rw [hn1 hc2])
  · have hc2 := BP.f hc2
    refine Tri.skip ?_
    refine At.thn (hK2 _ _ ?_); clear hK2
    refine Tri.seq fun K5 hK5 => ?_
    refine Tri.region ?_
    refine Ops.buildS0 sl59 ty28 rfl ?_
    refine st (OK1.mv (Has.t rfl)) rfl ?_
    refine st (OK1.appendZM sl59 ty28 zero28 by28 (Has.t rfl) (Has.t rfl) (by omega)) rfl ?_
    refine st (OK1.as (Has.t rfl)) rfl ?_
    refine nl ?_
    refine At.thn (hK5 _ _ ?_); clear hK5
    refine Tri.cv (Cv.wk (.cons (t := 2) (Has.t rfl) .nil)) ?_
    refine Tri.ret ?_
    refine rt1 (.inl rfl) Tryz.results93 rfl (.tmp (Has.t' rfl ?_) .nil)
    all_goals (rfl)
set_option maxHeartbeats 4000000 in
theorem nat_trim {xs : List Nat} : Ctr Tryz.prog 75 [isWords xs] (isWords (words (val xs))) := by
  refine Ctr.intro Tryz.func75 rfl (by kernel_rfl) Tryz.ntmps75 rfl fun w0 F0 => ?_
  refine Tri.cv (Cv.wk (.cons (t := 0) (Has.t rfl) .nil)) ?_
  refine Tri.fact (Has.lenLt (Has.t (t := 0) rfl)) fun lt0 => ?_
  refine Tri.fact (Has.okW (Has.t (t := 0) rfl)) fun ok0 => ?_
  refine Tri.seq fun K1 hK1 => ?_
  refine Tri.region ?_
  refine st (OK1.as (Has.cW (f := isU))) rfl ?_
  refine nl ?_
  refine At.thn (hK1 _ _ ?_); clear hK1
  refine Tri.seq fun K2 hK2 => ?_
  refine Tri.region ?_
  refine st (OK1.mv (Has.t rfl)) rfl ?_
  refine st (OK1.len sl59 (Has.t rfl)) rfl ?_
  refine st (OK1.as (Has.t rfl)) rfl ?_
  refine nl ?_
  refine At.thn (hK2 _ _ ?_); clear hK2
  refine Tri.seq fun K3 hK3 => ?_
  refine Tri.block ?_
  refine Tri.loopF [0, 2] (fun (z : { k : Nat // k ≤ xs.length ∧ ∀ i, k ≤ i → xs.getD i 0 = 0 }) => match z with | ⟨k, hI⟩ => [(3, isI (k : Int))]) (fun M => fun (z : { k : Nat // k ≤ xs.length ∧ ∀ i, k ≤ i → xs.getD i 0 = 0 }) => match z with | ⟨k, hI⟩ => M) (fun (z : { k : Nat // k ≤ xs.length ∧ ∀ i, k ≤ i → xs.getD i 0 = 0 }) => match z with | ⟨k, hI⟩ => k) (⟨xs.length, Nat.le_refl _, fun i hi => by simp [List.getD, List.getElem?_eq_none hi]⟩) (Cv.mem (.cons (t := 3) (Has.t' rfl ?_) (.cons (t := 0) (Has.t rfl) (.cons (t := 2) (Has.t rfl) .nil))) ?_) ?_
  · rfl
  · rfl
  rintro ⟨k, hk, hz⟩ K4 hK4
  refine Tri.cv (Cv.wk (.cons (t := 3) (Has.t rfl) (.cons (t := 0) (Has.t rfl) (.cons (t := 2) (Has.t rfl) .nil)))) ?_
  have ek : ((k : Int) - 1).toNat = k - 1 := by omega
  refine Tri.seq fun K5 hK5 => ?_
  refine Tri.seq fun K6 hK6 => ?_
  refine Tri.region ?_
  refine st (OK1.mv (Has.t rfl)) rfl ?_
  refine st (OK1.gtI (Has.t rfl) (Has.cI 0 rfl)) rfl ?_
  refine st (OK1.mv (Has.t rfl)) rfl ?_
  refine stT rfl rfl (fun hg => have hg' := BP.t hg; OK1.mv (Has.t rfl)) rfl ?_
  refine stT rfl rfl (fun hg => have hg' := BP.t hg; OK1.mv (Has.t rfl)) rfl ?_
  refine stT rfl rfl (fun hg => have hg' := BP.t hg; OK1.subI (Has.g rfl hg) (Has.cI 1 rfl) (by omega) (by omega)) rfl ?_
  refine stT rfl rfl (fun hg => have hg' := BP.t hg; OK1.ixP sl59 ty28 (Has.g rfl hg) (Has.g rfl hg) ⟨by omega, by omega⟩ (getD_some (d := 0) (by omega))) rfl ?_
  refine stT rfl rfl (fun hg => have hg' := BP.t hg; OK1.loadP1 (Has.g rfl hg) ty28) rfl ?_
  refine stT rfl rfl (fun hg => have hg' := BP.t hg; OK1.eqU (Has.g rfl hg) (Has.cU 0 rfl)) rfl ?_
  refine st (OK1.pickAnd (Has.t rfl) (fun h => Has.g rfl h)) rfl ?_
  refine nl ?_
  refine At.thn (hK6 _ _ ?_); clear hK6
  refine Tri.cond (Has.t rfl) (fun hc1 => ?_) (fun hc1 => ?_)
  · have hc1 := BP.t hc1
    refine Tri.skip ?_
    refine At.thn (hK5 _ _ ?_); clear hK5
    refine Tri.block ?_
    refine Tri.region ?_
    refine st (OK1.mv (Has.t rfl)) rfl ?_
    refine st (OK1.subI (Has.t rfl) (Has.cI 1 rfl) (by omega) (by omega)) rfl ?_
    refine st (OK1.as (Has.t rfl)) rfl ?_
    refine nl ?_
    refine At.bln ?_
    refine At.thn ?_
    refine hK4 (⟨k - 1, by omega, fun i hi => by rcases Nat.lt_or_ge i k with h | h; (have e : i = k - 1 := by omega); (rw [e, ← ek]; exact hc1.2); exact hz i h⟩) _ _ ?_ (Cv.mem (.cons (t := 3) (Has.t' rfl ?_) (.cons (t := 0) (Has.t rfl) (.cons (t := 2) (Has.t rfl) .nil))) ?_)
    · show k - 1 < k; omega
    · exact isI_eq (by omega)
    · rfl
  · have hc1 := BP.f hc1
    refine Tri.exit ?_
    refine At.the ?_
    refine At.the ?_
    refine At.blh ?_
    refine At.thn (hK3 _ _ ?_); clear hK3
    refine Tri.cv (Cv.wk (.cons (t := 0) (Has.t rfl) (.cons (t := 2) (Has.t rfl) (.cons (t := 3) (Has.t rfl) .nil)))) ?_
    refine Tri.seq fun K7 hK7 => ?_
    refine Tri.region ?_
    refine st (OK1.mv (Has.t rfl)) rfl ?_
    refine st (OK1.mv (Has.t rfl)) rfl ?_
    refine st (OK1.slHM sl59 ty28 (Has.t rfl) (Has.t rfl) ⟨by omega, by omega⟩) rfl ?_
    refine st (OK1.as (Has.t rfl)) rfl ?_
    refine nl ?_
    refine At.thn (hK7 _ _ ?_); clear hK7
    refine Tri.cv (Cv.wk (.cons (t := 2) (Has.t rfl) .nil)) ?_
    refine Tri.ret ?_
    refine rt1 (.inl rfl) Tryz.results75 rfl (.tmp (Has.t' rfl ?_) .nil)
    all_goals (exact SlM_eq (words_of_take ok0 hk hz (by rcases hc1 with h | h; left; omega; right; rwa [ek] at h)))
set_option maxHeartbeats 4000000 in
theorem nat_normal {xs : List Nat} : Ctr Tryz.prog 92 [isWords xs] (isWords (words (val xs))) := by
  refine Ctr.intro Tryz.func92 rfl (by kernel_rfl) Tryz.ntmps92 rfl fun w0 F0 => ?_
  refine Tri.cv (Cv.wk (.cons (t := 0) (Has.t rfl) .nil)) ?_
  refine Tri.fact (Has.lenLt (Has.t (t := 0) rfl)) fun lt0 => ?_
  refine Tri.fact (Has.okW (Has.t (t := 0) rfl)) fun ok0 => ?_
  refine Tri.seq fun K1 hK1 => ?_
  refine Tri.region ?_
  refine st (OK1.as (Has.cW (f := isU))) rfl ?_
  refine nl ?_
  refine At.thn (hK1 _ _ ?_); clear hK1
  refine Tri.seq fun K2 hK2 => ?_
  refine Tri.region ?_
  refine st (OK1.mv (Has.t rfl)) rfl ?_
  refine st (OK1.call (nat_trim) (.cons (Has.t rfl) .nil)) rfl ?_
  refine st (OK1.as (Has.t rfl)) rfl ?_
  refine nl ?_
  refine At.thn (hK2 _ _ ?_); clear hK2
  refine Tri.seq fun K3 hK3 => ?_
  refine Tri.seq fun K4 hK4 => ?_
  refine Tri.region ?_
  refine st (OK1.mv (Has.t rfl)) rfl ?_
  refine st (OK1.len sl59 (Has.t rfl)) rfl ?_
  refine st (OK1.eqI (Has.t rfl) (Has.cI 0 rfl)) rfl ?_
  refine nl ?_
  refine At.thn (hK4 _ _ ?_); clear hK4
  refine Tri.cond (Has.t rfl) (fun hc1 => ?_) (fun hc1 => ?_)
  · have hc1 := BP.t hc1
    refine Tri.seq fun K5 hK5 => ?_
    refine Tri.region ?_
    refine st (OK1.as (Has.cW (f := isU))) rfl ?_
    refine nl ?_
    refine At.thn (hK5 _ _ ?_); clear hK5
    refine Tri.cv (Cv.wk (.cons (t := 0) (Has.t rfl) (.cons (t := 2) (Has.t rfl) .nil))) ?_
    refine Tri.ret ?_
    refine At.thr ?_
    refine rt1 (.inl rfl) Tryz.results92 rfl (.tmp (Has.t' rfl ?_) .nil)
    all_goals (exact SlM_eq (List.eq_nil_of_length_eq_zero (by omega)).symm)
  · have hc1 := BP.f hc1
    refine Tri.skip ?_
    refine At.thn (hK3 _ _ ?_); clear hK3
    refine Tri.cv (Cv.wk (.cons (t := 0) (Has.t rfl) (.cons (t := 2) (Has.t rfl) .nil))) ?_
    refine Tri.seq fun K6 hK6 => ?_
    refine Tri.region ?_
    refine st (OK1.mv (Has.t rfl)) rfl ?_
    refine st (OK1.as (Has.t rfl)) rfl ?_
    refine nl ?_
    refine At.thn (hK6 _ _ ?_); clear hK6
    refine Tri.ret ?_
    refine rt1 (.inl rfl) Tryz.results92 rfl (.tmp (Has.t' rfl ?_) .nil)
    all_goals (rfl)
set_option maxHeartbeats 4000000 in
theorem nat_Of {x : Nat} : Ctr Tryz.prog 49 [isU x] (isWords (words x)) := by
  refine Ctr.intro Tryz.func49 rfl (by kernel_rfl) Tryz.ntmps49 rfl fun w0 F0 => ?_
  refine Tri.cv (Cv.wk (.cons (t := 0) (Has.t rfl) .nil)) ?_
  refine Tri.fact (Has.ltU (Has.t (t := 0) rfl)) fun lt0 => ?_
  refine Tri.seq fun K1 hK1 => ?_
  refine Tri.region ?_
  refine st (OK1.as (Has.cW (f := isU))) rfl ?_
  refine nl ?_
  refine At.thn (hK1 _ _ ?_); clear hK1
  refine Tri.seq fun K2 hK2 => ?_
  refine Tri.seq fun K3 hK3 => ?_
  refine Tri.region ?_
  refine st (OK1.mv (Has.t rfl)) rfl ?_
  refine st (OK1.eqU (Has.t rfl) (Has.cU 0 rfl)) rfl ?_
  refine nl ?_
  refine At.thn (hK3 _ _ ?_); clear hK3
  refine Tri.cond (Has.t rfl) (fun hc1 => ?_) (fun hc1 => ?_)
  · have hc1 := BP.t hc1
    refine Tri.seq fun K4 hK4 => ?_
    refine Tri.region ?_
    refine st (OK1.as (Has.cW (f := isU))) rfl ?_
    refine nl ?_
    refine At.thn (hK4 _ _ ?_); clear hK4
    refine Tri.ret ?_
    refine At.thr ?_
    refine rt1 (.inl rfl) Tryz.results49 rfl (.tmp (Has.t' rfl ?_) .nil)
    all_goals (exact SlM_eq (by rw [hc1, words_zero]))
  · have hc1 := BP.f hc1
    refine Tri.skip ?_
    refine At.thn (hK2 _ _ ?_); clear hK2
    refine Tri.seq fun K5 hK5 => ?_
    refine Tri.region ?_
    refine st (OK1.mv (Has.t rfl)) rfl ?_
    refine st (OK1.buildS [isU 0] sl59 ty28 zero28 (fun _ _ => ⟨⟨rfl, by decide⟩, trivial⟩) rfl rfl (.cons (Has.t rfl) rfl rfl rfl .nil) rfl (S := isWords [_]) rfl) rfl ?_
    refine st (OK1.as (Has.t rfl)) rfl ?_
    refine nl ?_
    refine At.thn (hK5 _ _ ?_); clear hK5
    refine Tri.cv (Cv.wk (.cons (t := 2) (Has.t rfl) .nil)) ?_
    refine Tri.ret ?_
    refine rt1 (.inl rfl) Tryz.results49 rfl (.tmp (Has.t' rfl ?_) .nil)
    all_goals (exact SlM_eq (by rw [words_small lt0, if_neg (by omega)]))
set_option maxHeartbeats 4000000 in
theorem nat_Norm {xs : List Nat} (hx : (List.length (words (val xs))) ≤ 4294967296) : Ctr Tryz.prog 74 [isWords xs] (isWords (words (val xs))) := by
  refine Ctr.intro Tryz.func74 rfl (by kernel_rfl) Tryz.ntmps74 rfl fun w0 F0 => ?_
  refine Tri.cv (Cv.wk (.cons (t := 0) (Has.t rfl) .nil)) ?_
  refine Tri.fact (Has.lenLt (Has.t (t := 0) rfl)) fun lt0 => ?_
  refine Tri.fact (Has.okW (Has.t (t := 0) rfl)) fun ok0 => ?_
  refine Tri.seq fun K1 hK1 => ?_
  refine Tri.region ?_
  refine st (OK1.as (Has.cW (f := isU))) rfl ?_
  refine nl ?_
  refine At.thn (hK1 _ _ ?_); clear hK1
  refine Tri.seq fun K2 hK2 => ?_
  refine Tri.region ?_
  refine st (OK1.mv (Has.t rfl)) rfl ?_
  refine st (OK1.call (nat_trim) (.cons (Has.t rfl) .nil)) rfl ?_
  refine st (OK1.call (clone_Nat (by omega)) (.cons (Has.t rfl) .nil)) rfl ?_
  refine st (OK1.call (nat_normal) (.cons (Has.t rfl) .nil)) rfl ?_
  refine st (OK1.as (Has.t rfl)) rfl ?_
  refine nl ?_
  refine At.thn (hK2 _ _ ?_); clear hK2
  refine Tri.cv (Cv.wk (.cons (t := 2) (Has.t rfl) .nil)) ?_
  refine Tri.ret ?_
  refine rt1 (.inl rfl) Tryz.results74 rfl (.tmp (Has.t' rfl ?_) .nil)
  all_goals (rw [val_words])
set_option maxHeartbeats 4000000 in
theorem nat_Word {xs : List Nat} : Ctr Tryz.prog 51 [isWords xs] (isTup [isU (if val xs < 18446744073709551616 then val xs else 0), isB (decide (val xs < 18446744073709551616))]) := by
  refine Ctr.intro Tryz.func51 rfl (by kernel_rfl) Tryz.ntmps51 rfl fun w0 F0 => ?_
  refine Tri.cv (Cv.wk (.cons (t := 0) (Has.t rfl) .nil)) ?_
  refine Tri.fact (Has.lenLt (Has.t (t := 0) rfl)) fun lt0 => ?_
  refine Tri.fact (Has.okW (Has.t (t := 0) rfl)) fun ok0 => ?_
  refine Tri.seq fun K1 hK1 => ?_
  refine Tri.region ?_
  refine st (OK1.as (Has.cU 0 rfl)) rfl ?_
  refine st (OK1.as (Has.cB false)) rfl ?_
  refine nl ?_
  refine At.thn (hK1 _ _ ?_); clear hK1
  refine Tri.seq fun K2 hK2 => ?_
  refine Tri.region ?_
  refine st (OK1.mv (Has.t rfl)) rfl ?_
  refine st (OK1.call (nat_trim) (.cons (Has.t rfl) .nil)) rfl ?_
  refine st (OK1.as (Has.t rfl)) rfl ?_
  refine nl ?_
  refine At.thn (hK2 _ _ ?_); clear hK2
  refine Tri.seq fun K3 hK3 => ?_
  refine Tri.seq fun K4 hK4 => ?_
  refine Tri.region ?_
  refine st (OK1.mv (Has.t rfl)) rfl ?_
  refine st (OK1.len sl59 (Has.t rfl)) rfl ?_
  refine nl ?_
  refine At.thn (hK4 _ _ ?_); clear hK4
  refine Tri.block ?_
  refine Tri.seq fun K5 hK5 => ?_
  refine Tri.region ?_
  refine st (OK1.eqI (Has.t rfl) (Has.cI 0 rfl)) rfl ?_
  refine st (OK1.as (Has.t rfl)) rfl ?_
  refine nl ?_
  refine At.thn (hK5 _ _ ?_); clear hK5
  refine Tri.cond (Has.t rfl) (fun hc1 => ?_) (fun hc1 => ?_)
  · have hc1 := BP.t hc1
    refine Tri.seq fun K6 hK6 => ?_
    refine Tri.region ?_
    refine st (OK1.as (Has.cU 0 rfl)) rfl ?_
    refine st (OK1.as (Has.cB true)) rfl ?_
    refine nl ?_
    refine At.thn (hK6 _ _ ?_); clear hK6
    refine Tri.cv (Cv.wk (.cons (t := 2) (Has.t rfl) (.cons (t := 3) (Has.t rfl) .nil))) ?_
    refine Tri.ret ?_
    refine At.blr ?_
    refine At.thr ?_
    refine rtN (.inl rfl) Tryz.results51 rfl rfl (.tmp (Has.t' rfl ?_) (.tmp (Has.t' rfl ?_) .nil))
    · exact isU_eq (word_0 (by omega)).1
    · exact isB_eq (word_0 (by omega)).2
  · have hc1 := BP.f hc1
    refine Tri.seq fun K7 hK7 => ?_
    refine Tri.region ?_
    refine st (OK1.eqI (Has.t rfl) (Has.cI 1 rfl)) rfl ?_
    refine st (OK1.as (Has.t rfl)) rfl ?_
    refine nl ?_
    refine At.thn (hK7 _ _ ?_); clear hK7
    refine Tri.cv (Cv.wk (.cons (t := 0) (Has.t rfl) (.cons (t := 2) (Has.t rfl) (.cons (t := 3) (Has.t rfl) (.cons (t := 10) (Has.t rfl) .nil))))) ?_
    refine Tri.cond (Has.t rfl) (fun hc2 => ?_) (fun hc2 => ?_)
    · have hc2 := BP.t hc2
      refine Tri.seq fun K8 hK8 => ?_
      refine Tri.region ?_
      refine st (OK1.mv (Has.t rfl)) rfl ?_
      refine st (OK1.ixP sl59 ty28 (Has.t rfl) (Has.cI 0 rfl) ⟨by omega, by omega⟩ (getD_some (d := 0) (by show 0 < _; omega))) rfl ?_
      refine st (OK1.loadP1 (Has.t rfl) ty28) rfl ?_
      refine st (OK1.as (Has.t rfl)) rfl ?_
      refine st (OK1.as (Has.cB true)) rfl ?_
      refine nl ?_
      refine At.thn (hK8 _ _ ?_); clear hK8
      refine Tri.cv (Cv.wk (.cons (t := 2) (Has.t rfl) (.cons (t := 3) (Has.t rfl) .nil))) ?_
      refine Tri.ret ?_
      refine At.blr ?_
      refine At.thr ?_
      refine rtN (.inl rfl) Tryz.results51 rfl rfl (.tmp (Has.t' rfl ?_) (.tmp (Has.t' rfl ?_) .nil))
      · exact isU_eq (word_1 (by omega)).1
      · exact isB_eq (word_1 (by omega)).2
    · have hc2 := BP.f hc2
      refine Tri.skip ?_
      refine At.bln ?_
      refine At.thn (hK3 _ _ ?_); clear hK3
      refine Tri.seq fun K9 hK9 => ?_
      refine Tri.region ?_
      refine st (OK1.as (Has.cU 0 rfl)) rfl ?_
      refine st (OK1.as (Has.cB false)) rfl ?_
      refine nl ?_
      refine At.thn (hK9 _ _ ?_); clear hK9
      refine Tri.ret ?_
      refine rtN (.inl rfl) Tryz.results51 rfl rfl (.tmp (Has.t' rfl ?_) (.tmp (Has.t' rfl ?_) .nil))
      · exact isU_eq (word_2 (by omega)).1
      · exact isB_eq (word_2 (by omega)).2
set_option maxHeartbeats 4000000 in
theorem nat_Cmp {xs ys : List Nat} : Ctr Tryz.prog 100 [isWords xs, isWords ys] (isI (cmpN (val xs) (val ys))) := by
  refine Ctr.intro Tryz.func100 rfl (by kernel_rfl) Tryz.ntmps100 rfl fun w0 F0 => ?_
  refine Tri.cv (Cv.wk (.cons (t := 0) (Has.t rfl) (.cons (t := 1) (Has.t rfl) .nil))) ?_
  refine Tri.fact (Has.lenLt (Has.t (t := 0) rfl)) fun lt0 => ?_
  refine Tri.fact (Has.okW (Has.t (t := 0) rfl)) fun ok0 => ?_
  refine Tri.fact (Has.lenLt (Has.t (t := 1) rfl)) fun lt1 => ?_
  refine Tri.fact (Has.okW (Has.t (t := 1) rfl)) fun ok1 => ?_
  have n0 : (words (val xs)).length ≤ xs.length := nw_val ok0
  have n1 : (words (val ys)).length ≤ ys.length := nw_val ok1
  refine Tri.seq fun K1 hK1 => ?_
  refine Tri.region ?_
  refine st (OK1.as (Has.cI 0 rfl)) rfl ?_
  refine nl ?_
  refine At.thn (hK1 _ _ ?_); clear hK1
  refine Tri.seq fun K2 hK2 => ?_
  refine Tri.region ?_
  refine st (OK1.mv (Has.t rfl)) rfl ?_
  refine st (OK1.call (nat_trim) (.cons (Has.t rfl) .nil)) rfl ?_
  refine st (OK1.mv (Has.t rfl)) rfl ?_
  refine st (OK1.call (nat_trim) (.cons (Has.t rfl) .nil)) rfl ?_
  refine st (OK1.as (Has.t rfl)) rfl ?_
  refine st (OK1.as (Has.t rfl)) rfl ?_
  refine nl ?_
  refine At.thn (hK2 _ _ ?_); clear hK2
  refine Tri.seq fun K3 hK3 => ?_
  refine Tri.seq fun K4 hK4 => ?_
  refine Tri.region ?_
  refine st (OK1.mv (Has.t rfl)) rfl ?_
  refine st (OK1.len sl59 (Has.t rfl)) rfl ?_
  refine st (OK1.mv (Has.t rfl)) rfl ?_
  refine st (OK1.len sl59 (Has.t rfl)) rfl ?_
  refine st (OK1.neI (Has.t rfl) (Has.t rfl)) rfl ?_
  refine nl ?_
  refine At.thn (hK4 _ _ ?_); clear hK4
  refine Tri.cv (Cv.wk (.cons (t := 0) (Has.t rfl) (.cons (t := 1) (Has.t rfl) (.cons (t := 4) (Has.t rfl) (.cons (t := 14) (Has.t rfl) .nil))))) ?_
  refine Tri.cond (Has.t rfl) (fun hc1 => ?_) (fun hc1 => ?_)
  · have hc1 := BP.t hc1
    refine Tri.seq fun K5 hK5 => ?_
    refine Tri.seq fun K6 hK6 => ?_
    refine Tri.region ?_
    refine st (OK1.mv (Has.t rfl)) rfl ?_
    refine st (OK1.len sl59 (Has.t rfl)) rfl ?_
    refine st (OK1.mv (Has.t rfl)) rfl ?_
    refine st (OK1.len sl59 (Has.t rfl)) rfl ?_
    refine st (OK1.ltI (Has.t rfl) (Has.t rfl)) rfl ?_
    refine nl ?_
    refine At.thn (hK6 _ _ ?_); clear hK6
    refine Tri.cv (Cv.wk (.cons (t := 0) (Has.t rfl) (.cons (t := 1) (Has.t rfl) (.cons (t := 4) (Has.t rfl) (.cons (t := 19) (Has.t rfl) .nil))))) ?_
    refine Tri.cond (Has.t rfl) (fun hc2 => ?_) (fun hc2 => ?_)
    · have hc2 := BP.t hc2
      refine Tri.seq fun K7 hK7 => ?_
      refine Tri.region ?_
      refine st (OK1.as (Has.cI (-1) rfl)) rfl ?_
      refine nl ?_
      refine At.thn (hK7 _ _ ?_); clear hK7
      refine Tri.ret ?_
      refine At.thr ?_
      refine At.thr ?_
      refine rt1 (.inl rfl) Tryz.results100 rfl (.tmp (Has.t' rfl ?_) .nil)
      all_goals (exact isI_eq (cmp_len_lt (show (words _).length < (words _).length by omega)))
    · have hc2 := BP.f hc2
      refine Tri.skip ?_
      refine At.thn (hK5 _ _ ?_); clear hK5
      refine Tri.seq fun K8 hK8 => ?_
      refine Tri.region ?_
      refine st (OK1.as (Has.cI 1 rfl)) rfl ?_
      refine nl ?_
      refine At.thn (hK8 _ _ ?_); clear hK8
      refine Tri.ret ?_
      refine At.thr ?_
      refine rt1 (.inl rfl) Tryz.results100 rfl (.tmp (Has.t' rfl ?_) .nil)
      all_goals (exact isI_eq (cmp_len_gt (show (words _).length < (words _).length by omega)))
  · have hc1 := BP.f hc1
    refine Tri.skip ?_
    refine At.thn (hK3 _ _ ?_); clear hK3
    refine Tri.seq fun K9 hK9 => ?_
    refine Tri.seq fun K10 hK10 => ?_
    refine Tri.region ?_
    refine st (OK1.mv (Has.t rfl)) rfl ?_
    refine st (OK1.len sl59 (Has.t rfl)) rfl ?_
    refine st (OK1.subI (Has.t rfl) (Has.cI 1 rfl) (by omega) (by omega)) rfl ?_
    refine st (OK1.as (Has.t rfl)) rfl ?_
    refine nl ?_
    refine At.thn (hK10 _ _ ?_); clear hK10
    refine Tri.block ?_
    refine Tri.loopF [0, 1] (fun (z : { k : Nat // k ≤ (words (val xs)).length ∧ val xs / W ^ k = val ys / W ^ k }) => match z with | ⟨k, hI⟩ => [(5, isI ((k : Int) - 1))]) (fun M => fun (z : { k : Nat // k ≤ (words (val xs)).length ∧ val xs / W ^ k = val ys / W ^ k }) => match z with | ⟨k, hI⟩ => M) (fun (z : { k : Nat // k ≤ (words (val xs)).length ∧ val xs / W ^ k = val ys / W ^ k }) => match z with | ⟨k, hI⟩ => k) (⟨(words (val xs)).length, Nat.le_refl _, cmp_start (show (words _).length = (words _).length by omega)⟩) (Cv.mem (.cons (t := 5) (Has.t' rfl ?_) (.cons (t := 0) (Has.t rfl) (.cons (t := 1) (Has.t rfl) .nil))) ?_) ?_
    · rfl
    · rfl
    rintro ⟨k, hk, he⟩ K11 hK11
    refine Tri.cv (Cv.wk (.cons (t := 5) (Has.t rfl) (.cons (t := 0) (Has.t rfl) (.cons (t := 1) (Has.t rfl) .nil)))) ?_
    have ek : ((k : Int) - 1).toNat = k - 1 := by omega
    refine Tri.seq fun K12 hK12 => ?_
    refine Tri.seq fun K13 hK13 => ?_
    refine Tri.region ?_
    refine st (OK1.mv (Has.t rfl)) rfl ?_
    refine st (OK1.geI (Has.t rfl) (Has.cI 0 rfl)) rfl ?_
    refine nl ?_
    refine At.thn (hK13 _ _ ?_); clear hK13
    refine Tri.cond (Has.t rfl) (fun hc3 => ?_) (fun hc3 => ?_)
    · have hc3 := BP.t hc3
      refine Tri.skip ?_
      refine At.thn (hK12 _ _ ?_); clear hK12
      refine Tri.seq fun K14 hK14 => ?_
      refine Tri.block ?_
      refine Tri.block ?_
      refine Tri.seq fun K15 hK15 => ?_
      refine Tri.dr ?_
      refine DrG.st (i := 0) [] rfl rfl rfl (by kernel_rfl) (OKG.o rfl (OK1.mv (Has.t rfl))) ?_
      refine DrG.st (i := 1) [] rfl rfl rfl (by kernel_rfl) (OKG.o rfl (OK1.mv (Has.t rfl))) ?_
      refine DrG.st (i := 2) [28, 29] rfl rfl rfl (by kernel_rfl) (OKG.o rfl (OK1.ixP sl59 ty28 (Has.t rfl) (Has.t rfl) ⟨by omega, by omega⟩ (getD_some (d := 0) (by omega)))) ?_
      refine DrG.st (i := 3) [30] rfl rfl rfl (by kernel_rfl) (OKG.o rfl (OK1.loadP1 (Has.t rfl) ty28)) ?_
      refine DrG.st (i := 4) [] rfl rfl rfl (by kernel_rfl) (OKG.o rfl (OK1.mv (Has.t rfl))) ?_
      refine DrG.st (i := 5) [] rfl rfl rfl (by kernel_rfl) (OKG.o rfl (OK1.mv (Has.t rfl))) ?_
      refine DrG.st (i := 6) [32, 33] rfl rfl rfl (by kernel_rfl) (OKG.o rfl (OK1.ixP sl59 ty28 (Has.t rfl) (Has.t rfl) ⟨by omega, by omega⟩ (getD_some (d := 0) (by omega)))) ?_
      refine DrG.st (i := 7) [34] rfl rfl rfl (by kernel_rfl) (OKG.o rfl (OK1.loadP1 (Has.t rfl) ty28)) ?_
      refine DrG.fin (n := 8) mixed (by kernel_rfl) (by kernel_rfl) (by kernel_rfl) ?_
      refine Ops.cv (Cv.wk (.cons (t := 0) (Has.t rfl) (.cons (t := 1) (Has.t rfl) (.cons (t := 5) (Has.t rfl) (.cons (t := 23) (Has.t rfl) (.cons (t := 24) (Has.t rfl) (.cons (t := 28) (Has.t rfl) (.cons (t := 29) (Has.t rfl) (.cons (t := 30) (Has.t rfl) (.cons (t := 31) (Has.t rfl) (.cons (t := 32) (Has.t rfl) (.cons (t := 33) (Has.t rfl) (.cons (t := 34) (Has.t rfl) (.cons (t := 35) (Has.t rfl) .nil)))))))))))))) ?_
      refine st (OK1.ltU (Has.t rfl) (Has.t rfl)) rfl ?_
      refine st (OK1.as (Has.t rfl)) rfl ?_
      refine nl ?_
      refine At.thn (hK15 _ _ ?_); clear hK15
      refine Tri.cond (Has.t rfl) (fun hc4 => ?_) (fun hc4 => ?_)
      · have hc4 := BP.t hc4
        refine Tri.seq fun K16 hK16 => ?_
        refine Tri.region ?_
        refine st (OK1.as (Has.cI (-1) rfl)) rfl ?_
        refine nl ?_
        refine At.thn (hK16 _ _ ?_); clear hK16
        refine Tri.ret ?_
        refine At.blr ?_
        refine At.blr ?_
        refine At.thr ?_
        refine At.thr ?_
        refine At.blr ?_
        refine At.thr ?_
        refine rt1 (.inl rfl) Tryz.results100 rfl (.tmp (Has.t' rfl ?_) .nil)
        all_goals (rw [ek] at hc4; exact isI_eq (cmp_lt (by omega) he hc4))
      · have hc4 := BP.f hc4
        refine Tri.seq fun K17 hK17 => ?_
        refine Tri.dr ?_
        refine DrG.st (i := 0) [] rfl rfl rfl (by kernel_rfl) (OKG.o rfl (OK1.mv (Has.t rfl))) ?_
        refine DrG.st (i := 1) [] rfl rfl rfl (by kernel_rfl) (OKG.o rfl (OK1.mv (Has.t rfl))) ?_
        refine DrG.st (i := 2) [38, 39] rfl rfl rfl (by kernel_rfl) (OKG.o rfl (OK1.ixP sl59 ty28 (Has.t rfl) (Has.t rfl) ⟨by omega, by omega⟩ (getD_some (d := 0) (by omega)))) ?_
        refine DrG.st (i := 3) [40] rfl rfl rfl (by kernel_rfl) (OKG.o rfl (OK1.loadP1 (Has.t rfl) ty28)) ?_
        refine DrG.st (i := 4) [] rfl rfl rfl (by kernel_rfl) (OKG.o rfl (OK1.mv (Has.t rfl))) ?_
        refine DrG.st (i := 5) [] rfl rfl rfl (by kernel_rfl) (OKG.o rfl (OK1.mv (Has.t rfl))) ?_
        refine DrG.st (i := 6) [42, 43] rfl rfl rfl (by kernel_rfl) (OKG.o rfl (OK1.ixP sl59 ty28 (Has.t rfl) (Has.t rfl) ⟨by omega, by omega⟩ (getD_some (d := 0) (by omega)))) ?_
        refine DrG.st (i := 7) [44] rfl rfl rfl (by kernel_rfl) (OKG.o rfl (OK1.loadP1 (Has.t rfl) ty28)) ?_
        refine DrG.fin (n := 8) mixed (by kernel_rfl) (by kernel_rfl) (by kernel_rfl) ?_
        refine Ops.cv (Cv.wk (.cons (t := 0) (Has.t rfl) (.cons (t := 1) (Has.t rfl) (.cons (t := 5) (Has.t rfl) (.cons (t := 23) (Has.t rfl) (.cons (t := 24) (Has.t rfl) (.cons (t := 28) (Has.t rfl) (.cons (t := 29) (Has.t rfl) (.cons (t := 30) (Has.t rfl) (.cons (t := 31) (Has.t rfl) (.cons (t := 32) (Has.t rfl) (.cons (t := 33) (Has.t rfl) (.cons (t := 34) (Has.t rfl) (.cons (t := 35) (Has.t rfl) (.cons (t := 36) (Has.t rfl) (.cons (t := 27) (Has.t rfl) (.cons (t := 38) (Has.t rfl) (.cons (t := 39) (Has.t rfl) (.cons (t := 40) (Has.t rfl) (.cons (t := 41) (Has.t rfl) (.cons (t := 42) (Has.t rfl) (.cons (t := 43) (Has.t rfl) (.cons (t := 44) (Has.t rfl) (.cons (t := 45) (Has.t rfl) .nil)))))))))))))))))))))))) ?_
        refine st (OK1.gtU (Has.t rfl) (Has.t rfl)) rfl ?_
        refine st (OK1.as (Has.t rfl)) rfl ?_
        refine nl ?_
        refine At.thn (hK17 _ _ ?_); clear hK17
        refine Tri.cond (Has.t rfl) (fun hc5 => ?_) (fun hc5 => ?_)
        · have hc5 := BP.t hc5
          refine Tri.seq fun K18 hK18 => ?_
          refine Tri.region ?_
          refine st (OK1.as (Has.cI 1 rfl)) rfl ?_
          refine nl ?_
          refine At.thn (hK18 _ _ ?_); clear hK18
          refine Tri.ret ?_
          refine At.blr ?_
          refine At.blr ?_
          refine At.thr ?_
          refine At.thr ?_
          refine At.blr ?_
          refine At.thr ?_
          refine rt1 (.inl rfl) Tryz.results100 rfl (.tmp (Has.t' rfl ?_) .nil)
          all_goals (rw [ek] at hc5; exact isI_eq (cmp_gt (by omega) he hc5))
        · have hc5 := BP.f hc5
          refine Tri.skip ?_
          refine At.bln ?_
          refine At.bln ?_
          refine At.thn (hK14 _ _ ?_); clear hK14
          refine Tri.region ?_
          refine st (OK1.mv (Has.t rfl)) rfl ?_
          refine st (OK1.subI (Has.t rfl) (Has.cI 1 rfl) (by omega) (by omega)) rfl ?_
          refine st (OK1.as (Has.t rfl)) rfl ?_
          refine nl ?_
          refine At.thn ?_
          refine hK11 (⟨k - 1, by omega, cmp_step (by omega) he (by rw [ek] at hc4 hc5; omega)⟩) _ _ ?_ (Cv.mem (.cons (t := 5) (Has.t' rfl ?_) (.cons (t := 0) (Has.t rfl) (.cons (t := 1) (Has.t rfl) .nil))) ?_)
          · show k - 1 < k; omega
          · exact isI_eq (by show _ = ((k - 1 : Nat) : Int) - 1; omega)
          · rfl
    · have hc3 := BP.f hc3
      refine Tri.exit ?_
      refine At.the ?_
      refine At.the ?_
      refine At.blh ?_
      refine At.thn (hK9 _ _ ?_); clear hK9
      refine Tri.cv (Cv.wk .nil) ?_
      refine Tri.seq fun K19 hK19 => ?_
      refine Tri.region ?_
      refine st (OK1.as (Has.cI 0 rfl)) rfl ?_
      refine nl ?_
      refine At.thn (hK19 _ _ ?_); clear hK19
      refine Tri.ret ?_
      refine rt1 (.inl rfl) Tryz.results100 rfl (.tmp (Has.t' rfl ?_) .nil)
      all_goals (exact isI_eq (cmp_eq he (by omega)))
end Go.Proofs.YtkgipdidomikbaaGreat
/- Contracts: natural numbers (layer 1), the sums. -/
namespace Go.Proofs.YtkgipdidomikbaaGreat
open Go.En Go.RowKit
set_option linter.unusedVariables false
set_option maxRecDepth 10000
open Go.Nt
set_option maxHeartbeats 4000000 in
theorem nat_Add {xs ys : List Nat} (hx : (List.length (words (val xs))) < 4294967296) (hy : (List.length (words (val ys))) < 4294967296) : Ctr Tryz.prog 87 [isWords xs, isWords ys] (isWords (words (val xs + val ys))) := by
  refine Ctr.intro Tryz.func87 rfl (by kernel_rfl) Tryz.ntmps87 rfl fun w0 F0 => ?_
  refine Tri.cv (Cv.wk (.cons (t := 0) (Has.t rfl) (.cons (t := 1) (Has.t rfl) .nil))) ?_
  refine Tri.fact (Has.lenLt (Has.t (t := 0) rfl)) fun lt0 => ?_
  refine Tri.fact (Has.okW (Has.t (t := 0) rfl)) fun ok0 => ?_
  refine Tri.fact (Has.lenLt (Has.t (t := 1) rfl)) fun lt1 => ?_
  refine Tri.fact (Has.okW (Has.t (t := 1) rfl)) fun ok1 => ?_
  refine Tri.seq fun K1 hK1 => ?_
  refine Tri.region ?_
  refine st (OK1.as (Has.cW (f := isU))) rfl ?_
  refine nl ?_
  refine At.thn (hK1 _ _ ?_); clear hK1
  refine Tri.seq fun K2 hK2 => ?_
  refine Tri.region ?_
  refine st (OK1.mv (Has.t rfl)) rfl ?_
  refine st (OK1.call (nat_trim) (.cons (Has.t rfl) .nil)) rfl ?_
  refine st (OK1.mv (Has.t rfl)) rfl ?_
  refine st (OK1.call (nat_trim) (.cons (Has.t rfl) .nil)) rfl ?_
  refine st (OK1.as (Has.t rfl)) rfl ?_
  refine st (OK1.as (Has.t rfl)) rfl ?_
  refine nl ?_
  refine At.thn (hK2 _ _ ?_); clear hK2
  refine Tri.cutF [4] (fun (z : { z : Nat × Nat // z.1 + z.2 = val xs + val ys ∧ (List.length (words z.2)) ≤ (List.length (words z.1)) ∧ (List.length (words z.1)) < 4294967296 }) => match z with | ⟨(p, q), hI⟩ => [(0, isWords (words p)), (1, isWords (words q))]) (fun M => fun (z : { z : Nat × Nat // z.1 + z.2 = val xs + val ys ∧ (List.length (words z.2)) ≤ (List.length (words z.1)) ∧ (List.length (words z.1)) < 4294967296 }) => match z with | ⟨(p, q), hI⟩ => M) (fun K3 hK3 => ?_) ?_
  · skip
    refine Tri.seq fun K4 hK4 => ?_
    refine Tri.region ?_
    refine st (OK1.mv (Has.t rfl)) rfl ?_
    refine st (OK1.len sl59 (Has.t rfl)) rfl ?_
    refine st (OK1.mv (Has.t rfl)) rfl ?_
    refine st (OK1.len sl59 (Has.t rfl)) rfl ?_
    refine st (OK1.ltI (Has.t rfl) (Has.t rfl)) rfl ?_
    refine nl ?_
    refine At.thn (hK4 _ _ ?_); clear hK4
    refine Tri.cv (Cv.wk (.cons (t := 0) (Has.t rfl) (.cons (t := 1) (Has.t rfl) (.cons (t := 4) (Has.t rfl) (.cons (t := 17) (Has.t rfl) .nil))))) ?_
    refine Tri.cond (Has.t rfl) (fun hc1 => ?_) (fun hc1 => ?_)
    · have hc1 := BP.t hc1
      refine Tri.region ?_
      refine st (OK1.mv (Has.t rfl)) rfl ?_
      refine st (OK1.mv (Has.t rfl)) rfl ?_
      refine st (OK1.as (Has.t rfl)) rfl ?_
      refine st (OK1.as (Has.t rfl)) rfl ?_
      refine nl ?_
      refine At.thn ?_
      refine hK3 (⟨(val ys, val xs), Nat.add_comm _ _, by simp only []; omega, hy⟩) _ _ (Cv.mem (.cons (t := 0) (Has.t' rfl ?_) (.cons (t := 1) (Has.t' rfl ?_) (.cons (t := 4) (Has.t rfl) .nil))) ?_)
      · rfl
      · rfl
      · rfl
    · have hc1 := BP.f hc1
      refine Tri.skip ?_
      refine At.thn ?_
      refine hK3 (⟨(val xs, val ys), rfl, by simp only []; omega, hx⟩) _ _ (Cv.mem (.cons (t := 0) (Has.t' rfl ?_) (.cons (t := 1) (Has.t' rfl ?_) (.cons (t := 4) (Has.t rfl) .nil))) ?_)
      · rfl
      · rfl
      · rfl
  rintro ⟨⟨p, q⟩, hI1, hI2, hI3⟩
  refine Tri.cv (Cv.wk (.cons (t := 0) (Has.t rfl) (.cons (t := 1) (Has.t rfl) (.cons (t := 4) (Has.t rfl) .nil)))) ?_
  simp only [] at hI1 hI2 hI3
  refine Tri.seq fun K5 hK5 => ?_
  refine Tri.region ?_
  refine st (OK1.mv (Has.t rfl)) rfl ?_
  refine st (OK1.len sl59 (Has.t rfl)) rfl ?_
  refine st (OK1.addI (Has.t rfl) (Has.cI 1 rfl) (by omega) (by omega)) rfl ?_
  refine Ops.make (f := isU) (u := 0) (n := (List.length (words p)) + 1) (c := (List.length (words p)) + 1) sl59 ty28 zero28 (fun _ _ => ⟨⟨rfl, by decide⟩, trivial⟩) by28 (Has.t' rfl rfl) (Has.t' rfl rfl) ⟨by omega, by omega⟩ rfl fun b1 => ?_
  refine st (OK1.as (Has.t rfl)) rfl ?_
  refine nl ?_
  refine At.thn (hK5 _ _ ?_); clear hK5
  refine Tri.seq fun K6 hK6 => ?_
  refine Tri.region ?_
  refine st (OK1.as (Has.cU 0 rfl)) rfl ?_
  refine nl ?_
  refine At.thn (hK6 _ _ ?_); clear hK6
  refine Tri.seq fun K7 hK7 => ?_
  refine Tri.seq fun K8 hK8 => ?_
  refine Tri.region ?_
  refine st (OK1.mv (Has.t rfl)) rfl ?_
  refine st (OK1.len sl59 (Has.t rfl)) rfl ?_
  refine st (OK1.mv (Has.cI 0 rfl)) rfl ?_
  refine nl ?_
  refine At.thn (hK8 _ _ ?_); clear hK8
  refine Tri.cv (Cv.wk (.cons (t := 4) (Has.t rfl) (.cons (t := 0) (Has.t rfl) (.cons (t := 1) (Has.t rfl) (.cons (t := 5) (Has.t rfl) (.cons (t := 6) (Has.t rfl) (.cons (t := 25) (Has.t rfl) (.cons (t := 26) (Has.t rfl) .nil)))))))) ?_
  refine Tri.block ?_
  refine Tri.loopF [4, 0, 1, 5, 25] (fun (z : { i : Nat // i ≤ (List.length (words p)) }) => match z with | ⟨i, hI⟩ => [(26, isI (i : Int)), (6, isU (car p q i))]) (fun M => fun (z : { i : Nat // i ≤ (List.length (words p)) }) => match z with | ⟨i, hI⟩ => [(some b1, cellM (List.map isU (wpart (p + q) i ((List.length (words p)) + 1))))]) (fun (z : { i : Nat // i ≤ (List.length (words p)) }) => match z with | ⟨i, hI⟩ => (List.length (words p)) - i) (⟨0, Nat.zero_le _⟩) (Cv.mem (.cons (t := 26) (Has.t' rfl ?_) (.cons (t := 6) (Has.t' rfl ?_) (.cons (t := 4) (Has.t rfl) (.cons (t := 0) (Has.t rfl) (.cons (t := 1) (Has.t rfl) (.cons (t := 5) (Has.t rfl) (.cons (t := 25) (Has.t rfl) .nil))))))) ?_) ?_
  · rfl
  · exact isU_eq (car_zero _ _)
  · exact memL_eq (wpart_zero _ _)
  rintro ⟨i, hI⟩ K9 hK9
  refine Tri.cv (Cv.wk (.cons (t := 26) (Has.t rfl) (.cons (t := 6) (Has.t rfl) (.cons (t := 4) (Has.t rfl) (.cons (t := 0) (Has.t rfl) (.cons (t := 1) (Has.t rfl) (.cons (t := 5) (Has.t rfl) (.cons (t := 25) (Has.t rfl) .nil)))))))) ?_
  refine Tri.memEq (M' := [(some b1, cellM (List.map isU (wpart (p + q) i ((List.length (words p)) + 1))))]) rfl ?_
  have wl : (wpart (p + q) i ((List.length (words p)) + 1)).length = (List.length (words p)) + 1 := wpart_len (by omega)
  refine Tri.seq fun K10 hK10 => ?_
  refine Tri.region ?_
  refine st (OK1.ltI (Has.t rfl) (Has.t rfl)) rfl ?_
  refine nl ?_
  refine At.thn (hK10 _ _ ?_); clear hK10
  refine Tri.seq fun K11 hK11 => ?_
  refine Tri.cond (Has.t rfl) (fun hc2 => ?_) (fun hc2 => ?_)
  · have hc2 := BP.t hc2
    refine Tri.skip ?_
    refine At.thn (hK11 _ _ ?_); clear hK11
    refine Tri.seq fun K12 hK12 => ?_
    refine Tri.block ?_
    refine Tri.seq fun K13 hK13 => ?_
    refine Tri.region ?_
    refine st (OK1.mv (Has.t rfl)) rfl ?_
    refine st (OK1.as (Has.t rfl)) rfl ?_
    refine nl ?_
    refine At.thn (hK13 _ _ ?_); clear hK13
    refine Tri.seq fun K14 hK14 => ?_
    refine Tri.region ?_
    refine st (OK1.as (Has.cU 0 rfl)) rfl ?_
    refine nl ?_
    refine At.thn (hK14 _ _ ?_); clear hK14
    refine Tri.cutF [4, 0, 1, 5, 25, 26, 6, 27, 28, 7] (fun (_ : Unit) => [(8, isU (dig q i))]) (fun M => fun (_ : Unit) => M) (fun K15 hK15 => ?_) ?_
    · skip
      refine Tri.seq fun K16 hK16 => ?_
      refine Tri.region ?_
      refine st (OK1.mv (Has.t rfl)) rfl ?_
      refine st (OK1.mv (Has.t rfl)) rfl ?_
      refine st (OK1.len sl59 (Has.t rfl)) rfl ?_
      refine st (OK1.ltI (Has.t rfl) (Has.t rfl)) rfl ?_
      refine nl ?_
      refine At.thn (hK16 _ _ ?_); clear hK16
      refine Tri.cond (Has.t rfl) (fun hc3 => ?_) (fun hc3 => ?_)
      · have hc3 := BP.t hc3
        refine Tri.region ?_
        refine st (OK1.mv (Has.t rfl)) rfl ?_
        refine st (OK1.mv (Has.t rfl)) rfl ?_
        refine st (OK1.ixP sl59 ty28 (Has.t rfl) (Has.t rfl) ⟨by omega, by omega⟩ (getD_some (d := 0) (by omega))) rfl ?_
        refine st (OK1.loadP1 (Has.t rfl) ty28) rfl ?_
        refine st (OK1.as (Has.t rfl)) rfl ?_
        refine nl ?_
        refine At.thn ?_
        refine hK15 (()) _ _ (Cv.mem (.cons (t := 8) (Has.t' rfl ?_) (.cons (t := 4) (Has.t rfl) (.cons (t := 0) (Has.t rfl) (.cons (t := 1) (Has.t rfl) (.cons (t := 5) (Has.t rfl) (.cons (t := 25) (Has.t rfl) (.cons (t := 26) (Has.t rfl) (.cons (t := 6) (Has.t rfl) (.cons (t := 27) (Has.t rfl) (.cons (t := 28) (Has.t rfl) (.cons (t := 7) (Has.t rfl) .nil))))))))))) ?_)
        · first | exact isU_eq (getD_words _ _) | exact isU_eq (dig_zero (by omega)).symm
        · rfl
      · have hc3 := BP.f hc3
        refine Tri.skip ?_
        refine At.thn ?_
        refine hK15 (()) _ _ (Cv.mem (.cons (t := 8) (Has.t' rfl ?_) (.cons (t := 4) (Has.t rfl) (.cons (t := 0) (Has.t rfl) (.cons (t := 1) (Has.t rfl) (.cons (t := 5) (Has.t rfl) (.cons (t := 25) (Has.t rfl) (.cons (t := 26) (Has.t rfl) (.cons (t := 6) (Has.t rfl) (.cons (t := 27) (Has.t rfl) (.cons (t := 28) (Has.t rfl) (.cons (t := 7) (Has.t rfl) .nil))))))))))) ?_)
        · first | exact isU_eq (getD_words _ _) | exact isU_eq (dig_zero (by omega)).symm
        · rfl
    rintro _
    refine Tri.cv (Cv.wk (.cons (t := 8) (Has.t rfl) (.cons (t := 4) (Has.t rfl) (.cons (t := 0) (Has.t rfl) (.cons (t := 1) (Has.t rfl) (.cons (t := 5) (Has.t rfl) (.cons (t := 25) (Has.t rfl) (.cons (t := 26) (Has.t rfl) (.cons (t := 6) (Has.t rfl) (.cons (t := 27) (Has.t rfl) (.cons (t := 28) (Has.t rfl) (.cons (t := 7) (Has.t rfl) .nil)))))))))))) ?_
    refine Tri.region ?_
    refine st (OK1.mv (Has.t rfl)) rfl ?_
    refine st (OK1.mv (Has.t rfl)) rfl ?_
    refine st (OK1.mv (Has.t rfl)) rfl ?_
    refine st (OK1.mv (Has.t rfl)) rfl ?_
    refine st (OK1.ixP sl59 ty28 (Has.t rfl) (Has.t rfl) ⟨by omega, by omega⟩ (getD_some (d := 0) (by omega))) rfl ?_
    refine st (OK1.eq (OK1.loadP1 (Has.t rfl) ty28) (isU_eq (getD_words _ i))) rfl ?_
    refine st (OK1.mv (Has.t rfl)) rfl ?_
    refine st (OK1.mv (Has.t rfl)) rfl ?_
    refine st (OK1.add64 ext_add64 (Has.t rfl) (Has.t rfl) (Has.t rfl) (by exact car_le _ _ _) ⟨(by exact dig_lt _ _), (by exact dig_lt _ _)⟩) rfl ?_
    refine st (OK1.mv (Has.t rfl)) rfl ?_
    refine st (OK1.ext (Has.t rfl) rfl) rfl ?_
    refine st (OK1.ext (Has.t rfl) rfl) rfl ?_
    refine st (OK1.eq (OK1.ixWin sl59 ty28 (Has.t rfl) (Has.t rfl) ⟨by omega, by omega⟩) (isPtr_eq (by exact ixo0))) rfl ?_
    refine Ops.storeM (Has.t rfl) (Has.t rfl) (i := 0) rfl ty28 (by omega) (M' := [(_, _)]) rfl ?_
    refine st (OK1.as (Has.t rfl)) rfl ?_
    refine nl ?_
    refine At.bln ?_
    refine At.thn (hK12 _ _ ?_); clear hK12
    refine Tri.region ?_
    refine st (OK1.addI (Has.t rfl) (Has.cI 1 rfl) (by omega) (by omega)) rfl ?_
    refine st (OK1.mv (Has.t rfl)) rfl ?_
    refine nl ?_
    refine At.thn ?_
    refine hK9 (⟨i + 1, by omega⟩) _ _ ?_ (Cv.mem (.cons (t := 26) (Has.t' rfl ?_) (.cons (t := 6) (Has.t' rfl ?_) (.cons (t := 4) (Has.t rfl) (.cons (t := 0) (Has.t rfl) (.cons (t := 1) (Has.t rfl) (.cons (t := 5) (Has.t rfl) (.cons (t := 25) (Has.t rfl) .nil))))))) ?_)
    · show (List.length (words p)) - (i + 1) < (List.length (words p)) - i; omega
    · rfl
    · exact isU_eq (add_car _ _ _)
    · exact memL_eq (wpart_set (by omega) (add_dig _ _ _))
  · have hc2 := BP.f hc2
    refine Tri.exit ?_
    refine At.the ?_
    refine At.the ?_
    refine At.blh ?_
    refine At.thn (hK7 _ _ ?_); clear hK7
    refine Tri.seq fun K17 hK17 => ?_
    refine Tri.region ?_
    refine st (OK1.mv (Has.t rfl)) rfl ?_
    refine st (OK1.mv (Has.t rfl)) rfl ?_
    refine st (OK1.len sl59 (Has.t rfl)) rfl ?_
    refine st (OK1.mv (Has.t rfl)) rfl ?_
    refine st (OK1.eq (OK1.ixWin sl59 ty28 (Has.t rfl) (Has.t rfl) ⟨by omega, by omega⟩) (isPtr_eq (by exact ixo0))) rfl ?_
    refine Ops.storeM (Has.t rfl) (Has.t rfl) (i := 0) rfl ty28 (by omega) (M' := [(_, _)]) rfl ?_
    refine nl ?_
    refine At.thn (hK17 _ _ ?_); clear hK17
    refine Tri.cv (Cv.wk (.cons (t := 4) (Has.t rfl) (.cons (t := 5) (Has.t rfl) .nil))) ?_
    refine Tri.seq fun K18 hK18 => ?_
    refine Tri.cv (Cv.freeze' (t := 5) (i := 0) (ys := wordsN ((List.length (words p)) + 1) (p + q)) rfl rfl rfl (by simp; omega) (fz_wpart (by omega) (by omega) (add_top (lt_pow_of (by omega)) (lt_pow_of (by omega))))) ?_
    refine Tri.memEq (M' := []) rfl ?_
    refine Tri.cv (Cv.wk (.cons (t := 4) (Has.t rfl) (.cons (t := 5) (Has.t rfl) .nil))) ?_
    refine Tri.region ?_
    refine st (OK1.mv (Has.t rfl)) rfl ?_
    refine st (OK1.call (nat_normal) (.cons (Has.t rfl) .nil)) rfl ?_
    refine st (OK1.as (Has.t rfl)) rfl ?_
    refine nl ?_
    refine At.thn (hK18 _ _ ?_); clear hK18
    refine Tri.ret ?_
    refine rt1 (.inl rfl) Tryz.results87 rfl (.tmp (Has.t' rfl ?_) .nil)
    all_goals (exact SlM_eq (by rw [words_val_wordsN (add_lt (nw_lt p) (lt_pow_of hI2)), hI1]))
set_option maxHeartbeats 4000000 in
theorem nat_Sub {xs ys : List Nat} (hx : (List.length (words (val xs))) < 4294967296) : Ctr Tryz.prog 88 [isWords xs, isWords ys] (isTup [isWords (words (val xs - val ys)), isB (decide (val ys ≤ val xs))]) := by
  refine Ctr.intro Tryz.func88 rfl (by kernel_rfl) Tryz.ntmps88 rfl fun w0 F0 => ?_
  refine Tri.cv (Cv.wk (.cons (t := 0) (Has.t rfl) (.cons (t := 1) (Has.t rfl) .nil))) ?_
  refine Tri.fact (Has.lenLt (Has.t (t := 0) rfl)) fun lt0 => ?_
  refine Tri.fact (Has.okW (Has.t (t := 0) rfl)) fun ok0 => ?_
  refine Tri.fact (Has.lenLt (Has.t (t := 1) rfl)) fun lt1 => ?_
  refine Tri.fact (Has.okW (Has.t (t := 1) rfl)) fun ok1 => ?_
  refine Tri.seq fun K1 hK1 => ?_
  refine Tri.region ?_
  refine st (OK1.as (Has.cW (f := isU))) rfl ?_
  refine st (OK1.as (Has.cB false)) rfl ?_
  refine nl ?_
  refine At.thn (hK1 _ _ ?_); clear hK1
  refine Tri.seq fun K2 hK2 => ?_
  refine Tri.seq fun K3 hK3 => ?_
  refine Tri.region ?_
  refine st (OK1.mv (Has.t rfl)) rfl ?_
  refine st (OK1.mv (Has.t rfl)) rfl ?_
  refine st (OK1.call (nat_Cmp) (.cons (Has.t rfl) (.cons (Has.t rfl) .nil))) rfl ?_
  refine st (OK1.ltI (Has.t rfl) (Has.cI 0 rfl)) rfl ?_
  refine nl ?_
  refine At.thn (hK3 _ _ ?_); clear hK3
  refine Tri.cond (Has.t rfl) (fun hc1 => ?_) (fun hc1 => ?_)
  · have hc1 := BP.t hc1
    have hlt := cmpN_neg.1 hc1
    refine Tri.seq fun K4 hK4 => ?_
    refine Tri.region ?_
    refine st (OK1.as (Has.cW (f := isU))) rfl ?_
    refine st (OK1.as (Has.cB false)) rfl ?_
    refine nl ?_
    refine At.thn (hK4 _ _ ?_); clear hK4
    refine Tri.ret ?_
    refine At.thr ?_
    refine rtN (.inl rfl) Tryz.results88 rfl rfl (.tmp (Has.t' rfl ?_) (.tmp (Has.t' rfl ?_) .nil))
    · exact SlM_eq (by rw [Nat.sub_eq_zero_of_le (Nat.le_of_lt hlt), words_zero])
    · exact isB_eq (by simp; omega)
  · have hc1 := BP.f hc1
    have hle : val ys ≤ val xs := Nat.le_of_not_lt (fun h => by have := cmpN_neg.2 h; omega)
    have hnw := nw_mono hle
    refine Tri.skip ?_
    refine At.thn (hK2 _ _ ?_); clear hK2
    refine Tri.seq fun K5 hK5 => ?_
    refine Tri.region ?_
    refine st (OK1.mv (Has.t rfl)) rfl ?_
    refine st (OK1.call (nat_trim) (.cons (Has.t rfl) .nil)) rfl ?_
    refine st (OK1.mv (Has.t rfl)) rfl ?_
    refine st (OK1.call (nat_trim) (.cons (Has.t rfl) .nil)) rfl ?_
    refine st (OK1.as (Has.t rfl)) rfl ?_
    refine st (OK1.as (Has.t rfl)) rfl ?_
    refine nl ?_
    refine At.thn (hK5 _ _ ?_); clear hK5
    refine Tri.cv (Cv.wk (.cons (t := 0) (Has.t rfl) (.cons (t := 1) (Has.t rfl) (.cons (t := 4) (Has.t rfl) (.cons (t := 5) (Has.t rfl) .nil))))) ?_
    refine Tri.seq fun K6 hK6 => ?_
    refine Tri.region ?_
    refine st (OK1.mv (Has.t rfl)) rfl ?_
    refine st (OK1.len sl59 (Has.t rfl)) rfl ?_
    refine Ops.make (f := isU) (u := 0) (n := (List.length (words (val xs)))) (c := (List.length (words (val xs)))) sl59 ty28 zero28 (fun _ _ => ⟨⟨rfl, by decide⟩, trivial⟩) by28 (Has.t' rfl rfl) (Has.t' rfl rfl) ⟨by omega, by omega⟩ rfl fun b1 => ?_
    refine st (OK1.as (Has.t rfl)) rfl ?_
    refine nl ?_
    refine At.thn (hK6 _ _ ?_); clear hK6
    refine Tri.seq fun K7 hK7 => ?_
    refine Tri.region ?_
    refine st (OK1.as (Has.cU 0 rfl)) rfl ?_
    refine nl ?_
    refine At.thn (hK7 _ _ ?_); clear hK7
    refine Tri.seq fun K8 hK8 => ?_
    refine Tri.seq fun K9 hK9 => ?_
    refine Tri.region ?_
    refine st (OK1.mv (Has.t rfl)) rfl ?_
    refine st (OK1.len sl59 (Has.t rfl)) rfl ?_
    refine st (OK1.mv (Has.cI 0 rfl)) rfl ?_
    refine nl ?_
    refine At.thn (hK9 _ _ ?_); clear hK9
    refine Tri.block ?_
    refine Tri.loopF [0, 1, 4, 5, 6, 22] (fun (z : { i : Nat // i ≤ (List.length (words (val xs))) }) => match z with | ⟨i, hI⟩ => [(23, isI (i : Int)), (7, isU (bor (val xs) (val ys) i))]) (fun M => fun (z : { i : Nat // i ≤ (List.length (words (val xs))) }) => match z with | ⟨i, hI⟩ => [(some b1, cellM (List.map isU (wpart (val xs - val ys) i ((List.length (words (val xs)))))))]) (fun (z : { i : Nat // i ≤ (List.length (words (val xs))) }) => match z with | ⟨i, hI⟩ => (List.length (words (val xs))) - i) (⟨0, Nat.zero_le _⟩) (Cv.mem (.cons (t := 23) (Has.t' rfl ?_) (.cons (t := 7) (Has.t' rfl ?_) (.cons (t := 0) (Has.t rfl) (.cons (t := 1) (Has.t rfl) (.cons (t := 4) (Has.t rfl) (.cons (t := 5) (Has.t rfl) (.cons (t := 6) (Has.t rfl) (.cons (t := 22) (Has.t rfl) .nil)))))))) ?_) ?_
    · rfl
    · exact isU_eq (bor_zero _ _)
    · exact memL_eq (wpart_zero _ _)
    rintro ⟨i, hI⟩ K10 hK10
    refine Tri.cv (Cv.wk (.cons (t := 23) (Has.t rfl) (.cons (t := 7) (Has.t rfl) (.cons (t := 0) (Has.t rfl) (.cons (t := 1) (Has.t rfl) (.cons (t := 4) (Has.t rfl) (.cons (t := 5) (Has.t rfl) (.cons (t := 6) (Has.t rfl) (.cons (t := 22) (Has.t rfl) .nil))))))))) ?_
    refine Tri.memEq (M' := [(some b1, cellM (List.map isU (wpart (val xs - val ys) i ((List.length (words (val xs)))))))]) rfl ?_
    have wl : (wpart (val xs - val ys) i ((List.length (words (val xs))))).length = (List.length (words (val xs))) := wpart_len (by omega)
    refine Tri.seq fun K11 hK11 => ?_
    refine Tri.region ?_
    refine st (OK1.ltI (Has.t rfl) (Has.t rfl)) rfl ?_
    refine nl ?_
    refine At.thn (hK11 _ _ ?_); clear hK11
    refine Tri.seq fun K12 hK12 => ?_
    refine Tri.cond (Has.t rfl) (fun hc2 => ?_) (fun hc2 => ?_)
    · have hc2 := BP.t hc2
      refine Tri.skip ?_
      refine At.thn (hK12 _ _ ?_); clear hK12
      refine Tri.seq fun K13 hK13 => ?_
      refine Tri.block ?_
      refine Tri.seq fun K14 hK14 => ?_
      refine Tri.region ?_
      refine st (OK1.mv (Has.t rfl)) rfl ?_
      refine st (OK1.as (Has.t rfl)) rfl ?_
      refine nl ?_
      refine At.thn (hK14 _ _ ?_); clear hK14
      refine Tri.seq fun K15 hK15 => ?_
      refine Tri.region ?_
      refine st (OK1.as (Has.cU 0 rfl)) rfl ?_
      refine nl ?_
      refine At.thn (hK15 _ _ ?_); clear hK15
      refine Tri.cutF [0, 1, 4, 5, 6, 22, 23, 7, 24, 25, 8] (fun (_ : Unit) => [(9, isU (dig (val ys) i))]) (fun M => fun (_ : Unit) => M) (fun K16 hK16 => ?_) ?_
      · skip
        refine Tri.seq fun K17 hK17 => ?_
        refine Tri.region ?_
        refine st (OK1.mv (Has.t rfl)) rfl ?_
        refine st (OK1.mv (Has.t rfl)) rfl ?_
        refine st (OK1.len sl59 (Has.t rfl)) rfl ?_
        refine st (OK1.ltI (Has.t rfl) (Has.t rfl)) rfl ?_
        refine nl ?_
        refine At.thn (hK17 _ _ ?_); clear hK17
        refine Tri.cond (Has.t rfl) (fun hc3 => ?_) (fun hc3 => ?_)
        · have hc3 := BP.t hc3
          refine Tri.region ?_
          refine st (OK1.mv (Has.t rfl)) rfl ?_
          refine st (OK1.mv (Has.t rfl)) rfl ?_
          refine st (OK1.ixP sl59 ty28 (Has.t rfl) (Has.t rfl) ⟨by omega, by omega⟩ (getD_some (d := 0) (by omega))) rfl ?_
          refine st (OK1.loadP1 (Has.t rfl) ty28) rfl ?_
          refine st (OK1.as (Has.t rfl)) rfl ?_
          refine nl ?_
          refine At.thn ?_
          refine hK16 (()) _ _ (Cv.mem (.cons (t := 9) (Has.t' rfl ?_) (.cons (t := 0) (Has.t rfl) (.cons (t := 1) (Has.t rfl) (.cons (t := 4) (Has.t rfl) (.cons (t := 5) (Has.t rfl) (.cons (t := 6) (Has.t rfl) (.cons (t := 22) (Has.t rfl) (.cons (t := 23) (Has.t rfl) (.cons (t := 7) (Has.t rfl) (.cons (t := 24) (Has.t rfl) (.cons (t := 25) (Has.t rfl) (.cons (t := 8) (Has.t rfl) .nil)))))))))))) ?_)
          · first | exact isU_eq (getD_words _ _) | exact isU_eq (dig_zero (by omega)).symm
          · rfl
        · have hc3 := BP.f hc3
          refine Tri.skip ?_
          refine At.thn ?_
          refine hK16 (()) _ _ (Cv.mem (.cons (t := 9) (Has.t' rfl ?_) (.cons (t := 0) (Has.t rfl) (.cons (t := 1) (Has.t rfl) (.cons (t := 4) (Has.t rfl) (.cons (t := 5) (Has.t rfl) (.cons (t := 6) (Has.t rfl) (.cons (t := 22) (Has.t rfl) (.cons (t := 23) (Has.t rfl) (.cons (t := 7) (Has.t rfl) (.cons (t := 24) (Has.t rfl) (.cons (t := 25) (Has.t rfl) (.cons (t := 8) (Has.t rfl) .nil)))))))))))) ?_)
          · first | exact isU_eq (getD_words _ _) | exact isU_eq (dig_zero (by omega)).symm
          · rfl
      rintro _
      refine Tri.cv (Cv.wk (.cons (t := 9) (Has.t rfl) (.cons (t := 0) (Has.t rfl) (.cons (t := 1) (Has.t rfl) (.cons (t := 4) (Has.t rfl) (.cons (t := 5) (Has.t rfl) (.cons (t := 6) (Has.t rfl) (.cons (t := 22) (Has.t rfl) (.cons (t := 23) (Has.t rfl) (.cons (t := 7) (Has.t rfl) (.cons (t := 24) (Has.t rfl) (.cons (t := 25) (Has.t rfl) (.cons (t := 8) (Has.t rfl) .nil))))))))))))) ?_
      refine Tri.region ?_
      refine st (OK1.mv (Has.t rfl)) rfl ?_
      refine st (OK1.mv (Has.t rfl)) rfl ?_
      refine st (OK1.mv (Has.t rfl)) rfl ?_
      refine st (OK1.mv (Has.t rfl)) rfl ?_
      refine st (OK1.ixP sl59 ty28 (Has.t rfl) (Has.t rfl) ⟨by omega, by omega⟩ (getD_some (d := 0) (by omega))) rfl ?_
      refine st (OK1.eq (OK1.loadP1 (Has.t rfl) ty28) (isU_eq (getD_words _ i))) rfl ?_
      refine st (OK1.mv (Has.t rfl)) rfl ?_
      refine st (OK1.mv (Has.t rfl)) rfl ?_
      refine st (OK1.sub64 ext_sub64 (Has.t rfl) (Has.t rfl) (Has.t rfl) (by exact bor_le _ _ _) ⟨(by exact dig_lt _ _), (by exact dig_lt _ _)⟩) rfl ?_
      refine st (OK1.mv (Has.t rfl)) rfl ?_
      refine st (OK1.ext (Has.t rfl) rfl) rfl ?_
      refine st (OK1.ext (Has.t rfl) rfl) rfl ?_
      refine st (OK1.eq (OK1.ixWin sl59 ty28 (Has.t rfl) (Has.t rfl) ⟨by omega, by omega⟩) (isPtr_eq (by exact ixo0))) rfl ?_
      refine Ops.storeM (Has.t rfl) (Has.t rfl) (i := 0) rfl ty28 (by omega) (M' := [(_, _)]) rfl ?_
      refine st (OK1.as (Has.t rfl)) rfl ?_
      refine nl ?_
      refine At.bln ?_
      refine At.thn (hK13 _ _ ?_); clear hK13
      refine Tri.region ?_
      refine st (OK1.addI (Has.t rfl) (Has.cI 1 rfl) (by omega) (by omega)) rfl ?_
      refine st (OK1.mv (Has.t rfl)) rfl ?_
      refine nl ?_
      refine At.thn ?_
      refine hK10 (⟨i + 1, by omega⟩) _ _ ?_ (Cv.mem (.cons (t := 23) (Has.t' rfl ?_) (.cons (t := 7) (Has.t' rfl ?_) (.cons (t := 0) (Has.t rfl) (.cons (t := 1) (Has.t rfl) (.cons (t := 4) (Has.t rfl) (.cons (t := 5) (Has.t rfl) (.cons (t := 6) (Has.t rfl) (.cons (t := 22) (Has.t rfl) .nil)))))))) ?_)
      · show (List.length (words (val xs))) - (i + 1) < (List.length (words (val xs))) - i; omega
      · rfl
      · exact isU_eq (bor_succ _ _ _)
      · exact memL_eq (wpart_set (by omega) (sub_dig hle _))
    · have hc2 := BP.f hc2
      refine Tri.exit ?_
      refine At.the ?_
      refine At.the ?_
      refine At.blh ?_
      refine At.thn (hK8 _ _ ?_); clear hK8
      refine Tri.cv (Cv.wk (.cons (t := 4) (Has.t rfl) (.cons (t := 5) (Has.t rfl) (.cons (t := 6) (Has.t rfl) .nil)))) ?_
      refine Tri.seq fun K18 hK18 => ?_
      refine Tri.cv (Cv.freeze' (t := 6) (i := 0) (ys := wordsN ((List.length (words (val xs)))) (val xs - val ys)) rfl rfl rfl (by simp; omega) (fz_wpart' (by omega))) ?_
      refine Tri.memEq (M' := []) rfl ?_
      refine Tri.cv (Cv.wk (.cons (t := 4) (Has.t rfl) (.cons (t := 5) (Has.t rfl) (.cons (t := 6) (Has.t rfl) .nil)))) ?_
      refine Tri.region ?_
      refine st (OK1.mv (Has.t rfl)) rfl ?_
      refine st (OK1.call (nat_normal) (.cons (Has.t rfl) .nil)) rfl ?_
      refine st (OK1.as (Has.t rfl)) rfl ?_
      refine st (OK1.as (Has.cB true)) rfl ?_
      refine nl ?_
      refine At.thn (hK18 _ _ ?_); clear hK18
      refine Tri.ret ?_
      refine rtN (.inl rfl) Tryz.results88 rfl rfl (.tmp (Has.t' rfl ?_) (.tmp (Has.t' rfl ?_) .nil))
      · exact SlM_eq (by rw [words_val_wordsN (sub_lt' (nw_lt _))])
      · exact isB_eq (by simp; omega)
set_option maxHeartbeats 2000000 in
theorem nat_row {N A x o n c m : Nat} (h1 : (List.length (words A)) + 1 ≤ n) (h2 : o + n ≤ m) (h3 : N / W ^ o < W ^ (List.length (words A))) : CtrM Tryz.prog 113 (fun b0 => [isWin b0 o n c, isWords (words A), isU x]) (cellM (List.map isU (wordsN m N))) (cellM (List.map isU (wordsN m (N + W ^ o * (A * x))))) (fun b0 => isTup []) := by
  refine CtrM.intro Tryz.func113 rfl (by kernel_rfl) Tryz.ntmps113 (fun _ => rfl) fun w0 F0 b0 => ?_
  refine Tri.cv (Cv.wk (.cons (t := 0) (Has.t rfl) (.cons (t := 1) (Has.t rfl) (.cons (t := 2) (Has.t rfl) .nil)))) ?_
  refine Tri.fact (Has.lenLt (Has.t (t := 0) rfl)) fun lt0 => ?_
  refine Tri.fact (Has.winLe (Has.t (t := 0) rfl)) fun lw0 => ?_
  refine Tri.fact (Has.lenLt (Has.t (t := 1) rfl)) fun lt1 => ?_
  refine Tri.fact (Has.okW (Has.t (t := 1) rfl)) fun ok1 => ?_
  refine Tri.fact (Has.ltU (Has.t (t := 2) rfl)) fun lt2 => ?_
  refine Tri.seq fun K1 hK1 => ?_
  refine Tri.region ?_
  refine st (OK1.as (Has.cU 0 rfl)) rfl ?_
  refine nl ?_
  refine At.thn (hK1 _ _ ?_); clear hK1
  refine Tri.seq fun K2 hK2 => ?_
  refine Tri.seq fun K3 hK3 => ?_
  refine Tri.region ?_
  refine st (OK1.mv (Has.t rfl)) rfl ?_
  refine st (OK1.len sl59 (Has.t rfl)) rfl ?_
  refine st (OK1.mv (Has.cI 0 rfl)) rfl ?_
  refine nl ?_
  refine At.thn (hK3 _ _ ?_); clear hK3
  refine Tri.block ?_
  refine Tri.loopF [0, 1, 2, 12, 13] (fun (z : { i : Nat // i ≤ (List.length (words A)) }) => match z with | ⟨i, hI⟩ => [(14, isI (i : Int)), (6, isU (mcar (N / W ^ o) A x i))]) (fun M => fun (z : { i : Nat // i ≤ (List.length (words A)) }) => match z with | ⟨i, hI⟩ => [(some b0, cellM (List.map isU (mix (o + i) (N + W ^ o * (A * x)) N m)))]) (fun (z : { i : Nat // i ≤ (List.length (words A)) }) => match z with | ⟨i, hI⟩ => (List.length (words A)) - i) (⟨0, Nat.zero_le _⟩) (Cv.mem (.cons (t := 14) (Has.t' rfl ?_) (.cons (t := 6) (Has.t' rfl ?_) (.cons (t := 0) (Has.t rfl) (.cons (t := 1) (Has.t rfl) (.cons (t := 2) (Has.t rfl) (.cons (t := 12) (Has.t rfl) (.cons (t := 13) (Has.t rfl) .nil))))))) ?_) ?_
  · rfl
  · exact isU_eq (mcar_zero _ _ _)
  · exact memL_eq (mix_start (by omega) (shifted_mod _ _ _))
  rintro ⟨i, hI⟩ K4 hK4
  refine Tri.cv (Cv.wk (.cons (t := 14) (Has.t rfl) (.cons (t := 6) (Has.t rfl) (.cons (t := 0) (Has.t rfl) (.cons (t := 1) (Has.t rfl) (.cons (t := 2) (Has.t rfl) (.cons (t := 12) (Has.t rfl) (.cons (t := 13) (Has.t rfl) .nil)))))))) ?_
  refine Tri.memEq (M' := [(some b0, cellM (List.map isU (mix (o + i) (N + W ^ o * (A * x)) N m)))]) rfl ?_
  have wl : (mix (o + i) (N + W ^ o * (A * x)) N m).length = m := mix_len (by omega)
  have hrow := row_word lt2 (dig_lt A i) (dig_lt (N / W ^ o) i) (Nat.lt_of_le_of_lt (mcar_le (N / W ^ o) A x i) lt2) (dig_lt _ _) (mul_step_eq (N / W ^ o) A x i)
  have hcl := Nat.lt_of_le_of_lt (mcar_le (N / W ^ o) A x i) lt2
  refine Tri.seq fun K5 hK5 => ?_
  refine Tri.region ?_
  refine st (OK1.ltI (Has.t rfl) (Has.t rfl)) rfl ?_
  refine nl ?_
  refine At.thn (hK5 _ _ ?_); clear hK5
  refine Tri.seq fun K6 hK6 => ?_
  refine Tri.cond (Has.t rfl) (fun hc1 => ?_) (fun hc1 => ?_)
  · have hc1 := BP.t hc1
    refine Tri.skip ?_
    refine At.thn (hK6 _ _ ?_); clear hK6
    refine Tri.seq fun K7 hK7 => ?_
    refine Tri.block ?_
    refine Tri.seq fun K8 hK8 => ?_
    refine Tri.region ?_
    refine st (OK1.mv (Has.t rfl)) rfl ?_
    refine st (OK1.ixP sl59 ty28 (Has.t rfl) (Has.t rfl) ⟨by omega, by omega⟩ (getD_some (d := 0) (by omega))) rfl ?_
    refine st (OK1.eq (OK1.loadP1 (Has.t rfl) ty28) (isU_eq (getD_words _ i))) rfl ?_
    refine st (OK1.as (Has.t rfl)) rfl ?_
    refine st (OK1.as (Has.t rfl)) rfl ?_
    refine nl ?_
    refine At.thn (hK8 _ _ ?_); clear hK8
    refine Tri.seq fun K9 hK9 => ?_
    refine Tri.region ?_
    refine st (OK1.mv (Has.t rfl)) rfl ?_
    refine st (OK1.mv (Has.t rfl)) rfl ?_
    refine st (OK1.call (bits_Mul64) (.cons (Has.t rfl) (.cons (Has.t rfl) .nil))) rfl ?_
    refine st (OK1.mv (Has.t rfl)) rfl ?_
    refine st (OK1.ext (Has.t rfl) rfl) rfl ?_
    refine st (OK1.ext (Has.t rfl) rfl) rfl ?_
    refine st (OK1.as (Has.t rfl)) rfl ?_
    refine st (OK1.as (Has.t rfl)) rfl ?_
    refine nl ?_
    refine At.thn (hK9 _ _ ?_); clear hK9
    refine Tri.seq fun K10 hK10 => ?_
    refine Tri.region ?_
    refine st (OK1.as (Has.cU 0 rfl)) rfl ?_
    refine nl ?_
    refine At.thn (hK10 _ _ ?_); clear hK10
    refine Tri.seq fun K11 hK11 => ?_
    refine Tri.region ?_
    refine st (OK1.mv (Has.t rfl)) rfl ?_
    refine st (OK1.mv (Has.t rfl)) rfl ?_
    refine st (OK1.mv (Has.t rfl)) rfl ?_
    refine st (OK1.eq (OK1.ixWin sl59 ty28 (Has.t rfl) (Has.t rfl) ⟨by omega, by omega⟩) (isPtr_eq (by exact ixo1))) rfl ?_
    refine st (OK1.eq (OK1.load1 (Has.t rfl) (i := 0) rfl ty28 (map_some (getD_some (d := 0) (by omega)))) (isU_eq (rowGet (by omega)))) rfl ?_
    refine st (OK1.add64 ext_add64 (Has.t rfl) (Has.t rfl) (Has.cU 0 rfl) (by omega) ⟨(by omega), (by exact dig_lt _ _)⟩) rfl ?_
    refine st (OK1.mv (Has.t rfl)) rfl ?_
    refine st (OK1.ext (Has.t rfl) rfl) rfl ?_
    refine st (OK1.ext (Has.t rfl) rfl) rfl ?_
    refine st (OK1.as (Has.t rfl)) rfl ?_
    refine st (OK1.as (Has.t rfl)) rfl ?_
    refine nl ?_
    refine At.thn (hK11 _ _ ?_); clear hK11
    refine Tri.seq fun K12 hK12 => ?_
    refine Tri.region ?_
    refine st (OK1.mv (Has.t rfl)) rfl ?_
    refine st (OK1.mv (Has.t rfl)) rfl ?_
    refine st (OK1.addU' (Has.t rfl) (Has.t rfl) (by omega)) rfl ?_
    refine st (OK1.as (Has.t rfl)) rfl ?_
    refine nl ?_
    refine At.thn (hK12 _ _ ?_); clear hK12
    refine Tri.seq fun K13 hK13 => ?_
    refine Tri.region ?_
    refine st (OK1.mv (Has.t rfl)) rfl ?_
    refine st (OK1.mv (Has.t rfl)) rfl ?_
    refine st (OK1.add64 ext_add64 (Has.t rfl) (Has.t rfl) (Has.cU 0 rfl) (by omega) ⟨(by omega), (by omega)⟩) rfl ?_
    refine st (OK1.mv (Has.t rfl)) rfl ?_
    refine st (OK1.ext (Has.t rfl) rfl) rfl ?_
    refine st (OK1.ext (Has.t rfl) rfl) rfl ?_
    refine st (OK1.as (Has.t rfl)) rfl ?_
    refine st (OK1.as (Has.t rfl)) rfl ?_
    refine nl ?_
    refine At.thn (hK13 _ _ ?_); clear hK13
    refine Tri.region ?_
    refine st (OK1.mv (Has.t rfl)) rfl ?_
    refine st (OK1.mv (Has.t rfl)) rfl ?_
    refine st (OK1.mv (Has.t rfl)) rfl ?_
    refine st (OK1.mv (Has.t rfl)) rfl ?_
    refine st (OK1.mv (Has.t rfl)) rfl ?_
    refine st (OK1.addU' (Has.t rfl) (Has.t rfl) (by omega)) rfl ?_
    refine st (OK1.eq (OK1.ixWin sl59 ty28 (Has.t rfl) (Has.t rfl) ⟨by omega, by omega⟩) (isPtr_eq (by exact ixo1))) rfl ?_
    refine Ops.storeM (Has.t rfl) (Has.t rfl) (i := 0) rfl ty28 (by omega) (M' := [(_, _)]) rfl ?_
    refine st (OK1.as (Has.t rfl)) rfl ?_
    refine nl ?_
    refine At.bln ?_
    refine At.thn (hK7 _ _ ?_); clear hK7
    refine Tri.region ?_
    refine st (OK1.addI (Has.t rfl) (Has.cI 1 rfl) (by omega) (by omega)) rfl ?_
    refine st (OK1.mv (Has.t rfl)) rfl ?_
    refine nl ?_
    refine At.thn ?_
    refine hK4 (⟨i + 1, by omega⟩) _ _ ?_ (Cv.mem (.cons (t := 14) (Has.t' rfl ?_) (.cons (t := 6) (Has.t' rfl ?_) (.cons (t := 0) (Has.t rfl) (.cons (t := 1) (Has.t rfl) (.cons (t := 2) (Has.t rfl) (.cons (t := 12) (Has.t rfl) (.cons (t := 13) (Has.t rfl) .nil))))))) ?_)
    · show (List.length (words A)) - (i + 1) < (List.length (words A)) - i; omega
    · rfl
    · exact isU_eq hrow.2.1
    · exact memL_eq (rowPut (by omega) hrow.1)
  · have hc1 := BP.f hc1
    refine Tri.exit ?_
    refine At.the ?_
    refine At.the ?_
    refine At.blh ?_
    refine At.thn (hK2 _ _ ?_); clear hK2
    refine Tri.cv (Cv.wk (.cons (t := 0) (Has.t rfl) (.cons (t := 1) (Has.t rfl) (.cons (t := 6) (Has.t rfl) .nil)))) ?_
    refine Tri.region ?_
    refine st (OK1.mv (Has.t rfl)) rfl ?_
    refine st (OK1.mv (Has.t rfl)) rfl ?_
    refine st (OK1.len sl59 (Has.t rfl)) rfl ?_
    refine st (OK1.mv (Has.t rfl)) rfl ?_
    refine st (OK1.eq (OK1.ixWin sl59 ty28 (Has.t rfl) (Has.t rfl) ⟨by omega, by omega⟩) (isPtr_eq (by exact ixo1))) rfl ?_
    refine Ops.storeM (Has.t rfl) (Has.t rfl) (i := 0) rfl ty28 (by omega) (M' := [(_, _)]) rfl ?_
    refine nl ?_
    refine rtM0 (.inr rfl) Tryz.results113 rfl (i := 0) ?_
    all_goals (obtain rfl : i = (List.length (words A)) := (by omega); exact memU_eq (rowEnd rfl (by omega) h3 (nw_lt A) lt2))
set_option maxHeartbeats 4000000 in
theorem nat_Mul {xs ys : List Nat} (hx : (List.length (words (val xs))) + (List.length (words (val ys))) < 4294967296) : Ctr Tryz.prog 102 [isWords xs, isWords ys] (isWords (words (val xs * val ys))) := by
  refine Ctr.intro Tryz.func102 rfl (by kernel_rfl) Tryz.ntmps102 rfl fun w0 F0 => ?_
  refine Tri.cv (Cv.wk (.cons (t := 0) (Has.t rfl) (.cons (t := 1) (Has.t rfl) .nil))) ?_
  refine Tri.fact (Has.lenLt (Has.t (t := 0) rfl)) fun lt0 => ?_
  refine Tri.fact (Has.okW (Has.t (t := 0) rfl)) fun ok0 => ?_
  refine Tri.fact (Has.lenLt (Has.t (t := 1) rfl)) fun lt1 => ?_
  refine Tri.fact (Has.okW (Has.t (t := 1) rfl)) fun ok1 => ?_
  refine Tri.seq fun K1 hK1 => ?_
  refine Tri.region ?_
  refine st (OK1.as (Has.cW (f := isU))) rfl ?_
  refine nl ?_
  refine At.thn (hK1 _ _ ?_); clear hK1
  refine Tri.seq fun K2 hK2 => ?_
  refine Tri.region ?_
  refine st (OK1.mv (Has.t rfl)) rfl ?_
  refine st (OK1.call (nat_trim) (.cons (Has.t rfl) .nil)) rfl ?_
  refine st (OK1.mv (Has.t rfl)) rfl ?_
  refine st (OK1.call (nat_trim) (.cons (Has.t rfl) .nil)) rfl ?_
  refine st (OK1.as (Has.t rfl)) rfl ?_
  refine st (OK1.as (Has.t rfl)) rfl ?_
  refine nl ?_
  refine At.thn (hK2 _ _ ?_); clear hK2
  refine Tri.seq fun K3 hK3 => ?_
  refine Tri.region ?_
  refine st (OK1.mv (Has.t rfl)) rfl ?_
  refine st (OK1.len sl59 (Has.t rfl)) rfl ?_
  refine st (OK1.mv (Has.t rfl)) rfl ?_
  refine st (OK1.len sl59 (Has.t rfl)) rfl ?_
  refine st (OK1.addI (Has.t rfl) (Has.t rfl) (by omega) (by omega)) rfl ?_
  refine st (OK1.addI (Has.t rfl) (Has.cI 1 rfl) (by omega) (by omega)) rfl ?_
  refine Ops.make (f := isU) (u := 0) (n := (List.length (words (val xs))) + (List.length (words (val ys))) + 1) (c := (List.length (words (val xs))) + (List.length (words (val ys))) + 1) sl59 ty28 zero28 (fun _ _ => ⟨⟨rfl, by decide⟩, trivial⟩) by28 (Has.t' rfl rfl) (Has.t' rfl rfl) ⟨by omega, by omega⟩ rfl fun b1 => ?_
  refine st (OK1.as (Has.t rfl)) rfl ?_
  refine nl ?_
  refine At.thn (hK3 _ _ ?_); clear hK3
  refine Tri.cv (Cv.wk (.cons (t := 0) (Has.t rfl) (.cons (t := 1) (Has.t rfl) (.cons (t := 4) (Has.t rfl) (.cons (t := 5) (Has.t rfl) .nil))))) ?_
  refine Tri.seq fun K4 hK4 => ?_
  refine Tri.seq fun K5 hK5 => ?_
  refine Tri.region ?_
  refine st (OK1.mv (Has.t rfl)) rfl ?_
  refine st (OK1.len sl59 (Has.t rfl)) rfl ?_
  refine st (OK1.mv (Has.cI 0 rfl)) rfl ?_
  refine nl ?_
  refine At.thn (hK5 _ _ ?_); clear hK5
  refine Tri.block ?_
  refine Tri.loopF [0, 4, 5, 19, 20] (fun (z : { i : Nat // i ≤ (List.length (words (val ys))) }) => match z with | ⟨i, hI⟩ => [(21, isI (i : Int))]) (fun M => fun (z : { i : Nat // i ≤ (List.length (words (val ys))) }) => match z with | ⟨i, hI⟩ => [(some b1, cellM (List.map isU (wordsN ((List.length (words (val xs))) + (List.length (words (val ys))) + 1) (val xs * (val ys % W ^ i)))))]) (fun (z : { i : Nat // i ≤ (List.length (words (val ys))) }) => match z with | ⟨i, hI⟩ => (List.length (words (val ys))) - i) (⟨0, Nat.zero_le _⟩) (Cv.mem (.cons (t := 21) (Has.t' rfl ?_) (.cons (t := 0) (Has.t rfl) (.cons (t := 4) (Has.t rfl) (.cons (t := 5) (Has.t rfl) (.cons (t := 19) (Has.t rfl) (.cons (t := 20) (Has.t rfl) .nil)))))) ?_) ?_
  · rfl
  · exact memL_eq (mulStart' _ _ _)
  rintro ⟨i, hI⟩ K6 hK6
  refine Tri.cv (Cv.wk (.cons (t := 21) (Has.t rfl) (.cons (t := 0) (Has.t rfl) (.cons (t := 4) (Has.t rfl) (.cons (t := 5) (Has.t rfl) (.cons (t := 19) (Has.t rfl) (.cons (t := 20) (Has.t rfl) .nil))))))) ?_
  refine Tri.memEq (M' := [(some b1, cellM (List.map isU (wordsN ((List.length (words (val xs))) + (List.length (words (val ys))) + 1) (val xs * (val ys % W ^ i)))))]) rfl ?_
  have wl : (wordsN ((List.length (words (val xs))) + (List.length (words (val ys))) + 1) (val xs * (val ys % W ^ i))).length = (List.length (words (val xs))) + (List.length (words (val ys))) + 1 := wordsN_len _ _
  refine Tri.seq fun K7 hK7 => ?_
  refine Tri.region ?_
  refine st (OK1.ltI (Has.t rfl) (Has.t rfl)) rfl ?_
  refine nl ?_
  refine At.thn (hK7 _ _ ?_); clear hK7
  refine Tri.seq fun K8 hK8 => ?_
  refine Tri.cond (Has.t rfl) (fun hc1 => ?_) (fun hc1 => ?_)
  · have hc1 := BP.t hc1
    refine Tri.skip ?_
    refine At.thn (hK8 _ _ ?_); clear hK8
    refine Tri.seq fun K9 hK9 => ?_
    refine Tri.block ?_
    refine Tri.seq fun K10 hK10 => ?_
    refine Tri.region ?_
    refine st (OK1.mv (Has.t rfl)) rfl ?_
    refine st (OK1.ixP sl59 ty28 (Has.t rfl) (Has.t rfl) ⟨by omega, by omega⟩ (getD_some (d := 0) (by omega))) rfl ?_
    refine st (OK1.eq (OK1.loadP1 (Has.t rfl) ty28) (isU_eq (getD_words _ i))) rfl ?_
    refine st (OK1.as (Has.t rfl)) rfl ?_
    refine st (OK1.as (Has.t rfl)) rfl ?_
    refine nl ?_
    refine At.thn (hK10 _ _ ?_); clear hK10
    refine Tri.region ?_
    refine st (OK1.mv (Has.t rfl)) rfl ?_
    refine st (OK1.mv (Has.t rfl)) rfl ?_
    refine st (OK1.eq (OK1.slLWin sl59 ty28 (Has.t rfl) (Has.t rfl) ⟨by omega, by omega, by omega⟩) (isWin_eq (by exact ixo0) rfl rfl)) rfl ?_
    refine st (OK1.mv (Has.t rfl)) rfl ?_
    refine st (OK1.mv (Has.t rfl)) rfl ?_
    refine Ops.callM (nat_row (m := (List.length (words (val xs))) + (List.length (words (val ys))) + 1) (N := val xs * (val ys % W ^ i)) (by simp only [Int.toNat_natCast]; omega) (by simp only [Int.toNat_natCast]; omega) (mulDiv (nw_lt _))) (i := 0) rfl (.cons (Has.t rfl) (.cons (Has.t rfl) (.cons (Has.t rfl) .nil))) rfl (M' := [(_, _)]) rfl ?_
    refine nl ?_
    refine At.bln ?_
    refine At.thn (hK9 _ _ ?_); clear hK9
    refine Tri.region ?_
    refine st (OK1.addI (Has.t rfl) (Has.cI 1 rfl) (by omega) (by omega)) rfl ?_
    refine st (OK1.mv (Has.t rfl)) rfl ?_
    refine nl ?_
    refine At.thn ?_
    refine hK6 (⟨i + 1, by omega⟩) _ _ ?_ (Cv.mem (.cons (t := 21) (Has.t' rfl ?_) (.cons (t := 0) (Has.t rfl) (.cons (t := 4) (Has.t rfl) (.cons (t := 5) (Has.t rfl) (.cons (t := 19) (Has.t rfl) (.cons (t := 20) (Has.t rfl) .nil)))))) ?_)
    · show (List.length (words (val ys))) - (i + 1) < (List.length (words (val ys))) - i; omega
    · rfl
    · exact memL_eq (by rw [mod_pow_succ_mul])
  · have hc1 := BP.f hc1
    refine Tri.exit ?_
    refine At.the ?_
    refine At.the ?_
    refine At.blh ?_
    refine At.thn (hK4 _ _ ?_); clear hK4
    refine Tri.cv (Cv.wk (.cons (t := 4) (Has.t rfl) (.cons (t := 5) (Has.t rfl) .nil))) ?_
    refine Tri.seq fun K11 hK11 => ?_
    refine Tri.cv (Cv.freeze' (t := 5) (i := 0) (ys := wordsN ((List.length (words (val xs))) + (List.length (words (val ys))) + 1) (val xs * (val ys % W ^ i))) rfl rfl rfl (by simp; omega) (freeze_all (wordsN_len _ _).symm)) ?_
    refine Tri.memEq (M' := []) rfl ?_
    refine Tri.cv (Cv.wk (.cons (t := 4) (Has.t rfl) (.cons (t := 5) (Has.t rfl) .nil))) ?_
    refine Tri.region ?_
    refine st (OK1.mv (Has.t rfl)) rfl ?_
    refine st (OK1.call (nat_normal) (.cons (Has.t rfl) .nil)) rfl ?_
    refine st (OK1.as (Has.t rfl)) rfl ?_
    refine nl ?_
    refine At.thn (hK11 _ _ ?_); clear hK11
    refine Tri.ret ?_
    refine rt1 (.inl rfl) Tryz.results102 rfl (.tmp (Has.t' rfl ?_) .nil)
    all_goals (obtain rfl : i = (List.length (words (val ys))) := (by omega); exact SlM_eq (mulEnd rfl))
end Go.Proofs.YtkgipdidomikbaaGreat
/- Contracts: natural numbers (layer 1), the shifts. -/
namespace Go.Proofs.YtkgipdidomikbaaGreat
open Go.En Go.RowKit
set_option linter.unusedVariables false
set_option maxRecDepth 10000
open Go.Nt
set_option maxHeartbeats 4000000 in
theorem nat_Shl {xs : List Nat} {k : Nat} (hk : k ≤ 1048576) (hx : (List.length (words (val xs))) < 4294900000) : Ctr Tryz.prog 109 [isWords xs, isI (k : Int)] (isTup [isWords (words (val xs * 2 ^ k)), isB true]) := by
  refine Ctr.intro Tryz.func109 rfl (by kernel_rfl) Tryz.ntmps109 rfl fun w0 F0 => ?_
  refine Tri.cv (Cv.wk (.cons (t := 0) (Has.t rfl) (.cons (t := 1) (Has.t rfl) .nil))) ?_
  refine Tri.fact (Has.lenLt (Has.t (t := 0) rfl)) fun lt0 => ?_
  refine Tri.fact (Has.okW (Has.t (t := 0) rfl)) fun ok0 => ?_
  refine Tri.fact (Has.rngI (Has.t (t := 1) rfl)) fun lt1 => ?_
  have e1 : ((k : Int) / 64) = ((k / 64 : Nat) : Int) := by omega
  have e2 : ((k : Int) % 64).toNat = k % 64 := by omega
  refine Tri.seq fun K1 hK1 => ?_
  refine Tri.region ?_
  refine st (OK1.as (Has.cW (f := isU))) rfl ?_
  refine st (OK1.as (Has.cB false)) rfl ?_
  refine nl ?_
  refine At.thn (hK1 _ _ ?_); clear hK1
  refine Tri.seq fun K2 hK2 => ?_
  refine Tri.seq fun K3 hK3 => ?_
  refine Tri.region ?_
  refine st (OK1.mv (Has.t rfl)) rfl ?_
  refine st (OK1.ltI (Has.t rfl) (Has.cI 0 rfl)) rfl ?_
  refine st (OK1.mv (Has.t rfl)) rfl ?_
  refine stF rfl rfl (fun hg => have hg' := BP.t hg; OK1.mv (Has.t rfl)) rfl ?_
  refine stF rfl rfl (fun hg => have hg' := BP.t hg; OK1.gtI (Has.g rfl hg) (Has.cI 1048576 rfl)) rfl ?_
  refine st (OK1.pickOr (Has.t rfl) (fun h => Has.g rfl (ng h))) rfl ?_
  refine nl ?_
  refine At.thn (hK3 _ _ ?_); clear hK3
  refine Tri.cv (Cv.wk (.cons (t := 0) (Has.t rfl) (.cons (t := 1) (Has.t rfl) (.cons (t := 4) (Has.t rfl) (.cons (t := 5) (Has.t rfl) (.cons (t := 16) (Has.t rfl) .nil)))))) ?_
  refine Tri.cond (Has.t rfl) (fun hc1 => ?_) (fun hc1 => ?_)
  · have hc1 := BP.t hc1
    exfalso; first | omega | contradiction | (revert hc1; simp)
  · have hc1 := BP.f hc1
    refine Tri.skip ?_
    refine At.thn (hK2 _ _ ?_); clear hK2
    refine Tri.seq fun K4 hK4 => ?_
    refine Tri.region ?_
    refine st (OK1.mv (Has.t rfl)) rfl ?_
    refine st (OK1.call (nat_trim) (.cons (Has.t rfl) .nil)) rfl ?_
    refine st (OK1.as (Has.t rfl)) rfl ?_
    refine nl ?_
    refine At.thn (hK4 _ _ ?_); clear hK4
    refine Tri.seq fun K5 hK5 => ?_
    refine Tri.region ?_
    refine st (OK1.mv (Has.t rfl)) rfl ?_
    refine st (OK1.eq (OK1.quoI (Has.t rfl) (Has.cI 64 rfl) (by omega) (by omega) (by omega)) (isI_eq e1)) rfl ?_
    refine st (OK1.mv (Has.t rfl)) rfl ?_
    refine st (OK1.remI (Has.t rfl) (Has.cI 64 rfl) (by omega) (by omega) (by omega)) rfl ?_
    refine st (OK1.eq (OK1.convIU un3 un131 (Has.t rfl) (by omega) (by omega)) (isU_eq e2)) rfl ?_
    refine st (OK1.as (Has.t rfl)) rfl ?_
    refine st (OK1.as (Has.t rfl)) rfl ?_
    refine nl ?_
    refine At.thn (hK5 _ _ ?_); clear hK5
    refine Tri.cv (Cv.wk (.cons (t := 0) (Has.t rfl) (.cons (t := 4) (Has.t rfl) (.cons (t := 5) (Has.t rfl) (.cons (t := 6) (Has.t rfl) (.cons (t := 7) (Has.t rfl) .nil)))))) ?_
    refine Tri.seq fun K6 hK6 => ?_
    refine Tri.region ?_
    refine st (OK1.mv (Has.t rfl)) rfl ?_
    refine st (OK1.len sl59 (Has.t rfl)) rfl ?_
    refine st (OK1.mv (Has.t rfl)) rfl ?_
    refine st (OK1.addI (Has.t rfl) (Has.t rfl) (by omega) (by omega)) rfl ?_
    refine st (OK1.addI (Has.t rfl) (Has.cI 1 rfl) (by omega) (by omega)) rfl ?_
    refine Ops.make (f := isU) (u := 0) (n := (List.length (words (val xs))) + k / 64 + 1) (c := (List.length (words (val xs))) + k / 64 + 1) sl59 ty28 zero28 (fun _ _ => ⟨⟨rfl, by decide⟩, trivial⟩) by28 (Has.t' rfl rfl) (Has.t' rfl rfl) ⟨by omega, by omega⟩ rfl fun b1 => ?_
    refine st (OK1.as (Has.t rfl)) rfl ?_
    refine nl ?_
    refine At.thn (hK6 _ _ ?_); clear hK6
    refine Tri.cv (Cv.wk (.cons (t := 0) (Has.t rfl) (.cons (t := 4) (Has.t rfl) (.cons (t := 5) (Has.t rfl) (.cons (t := 6) (Has.t rfl) (.cons (t := 7) (Has.t rfl) (.cons (t := 8) (Has.t rfl) .nil))))))) ?_
    refine Tri.seq fun K7 hK7 => ?_
    refine Tri.seq fun K8 hK8 => ?_
    refine Tri.region ?_
    refine st (OK1.mv (Has.t rfl)) rfl ?_
    refine st (OK1.len sl59 (Has.t rfl)) rfl ?_
    refine st (OK1.mv (Has.cI 0 rfl)) rfl ?_
    refine nl ?_
    refine At.thn (hK8 _ _ ?_); clear hK8
    refine Tri.block ?_
    refine Tri.loopF [4, 5, 6, 7, 8, 30, 31] (fun (z : { i : Nat // i ≤ (List.length (words (val xs))) }) => match z with | ⟨i, hI⟩ => [(32, isI (i : Int))]) (fun M => fun (z : { i : Nat // i ≤ (List.length (words (val xs))) }) => match z with | ⟨i, hI⟩ => [(some b1, cellM (List.map isU (wordsN ((List.length (words (val xs))) + k / 64 + 1) (val xs % W ^ i * 2 ^ k))))]) (fun (z : { i : Nat // i ≤ (List.length (words (val xs))) }) => match z with | ⟨i, hI⟩ => (List.length (words (val xs))) - i) (⟨0, Nat.zero_le _⟩) (Cv.mem (.cons (t := 32) (Has.t' rfl ?_) (.cons (t := 4) (Has.t rfl) (.cons (t := 5) (Has.t rfl) (.cons (t := 6) (Has.t rfl) (.cons (t := 7) (Has.t rfl) (.cons (t := 8) (Has.t rfl) (.cons (t := 30) (Has.t rfl) (.cons (t := 31) (Has.t rfl) .nil)))))))) ?_) ?_
    · rfl
    · exact memL_eq (shlStart _ _ _)
    rintro ⟨i, hI⟩ K9 hK9
    refine Tri.cv (Cv.wk (.cons (t := 32) (Has.t rfl) (.cons (t := 4) (Has.t rfl) (.cons (t := 5) (Has.t rfl) (.cons (t := 6) (Has.t rfl) (.cons (t := 7) (Has.t rfl) (.cons (t := 8) (Has.t rfl) (.cons (t := 30) (Has.t rfl) (.cons (t := 31) (Has.t rfl) .nil))))))))) ?_
    refine Tri.memEq (M' := [(some b1, cellM (List.map isU (wordsN ((List.length (words (val xs))) + k / 64 + 1) (val xs % W ^ i * 2 ^ k))))]) rfl ?_
    have wl : (wordsN ((List.length (words (val xs))) + k / 64 + 1) (val xs % W ^ i * 2 ^ k)).length = (List.length (words (val xs))) + k / 64 + 1 := wordsN_len _ _
    have ek : (((k / 64 : Nat) : Int) + (i : Int)).toNat = k / 64 + i := by omega
    refine Tri.seq fun K10 hK10 => ?_
    refine Tri.region ?_
    refine st (OK1.ltI (Has.t rfl) (Has.t rfl)) rfl ?_
    refine nl ?_
    refine At.thn (hK10 _ _ ?_); clear hK10
    refine Tri.seq fun K11 hK11 => ?_
    refine Tri.cond (Has.t rfl) (fun hc2 => ?_) (fun hc2 => ?_)
    · have hc2 := BP.t hc2
      refine Tri.skip ?_
      refine At.thn (hK11 _ _ ?_); clear hK11
      refine Tri.seq fun K12 hK12 => ?_
      refine Tri.block ?_
      refine Tri.seq fun K13 hK13 => ?_
      refine Tri.region ?_
      refine st (OK1.mv (Has.t rfl)) rfl ?_
      refine st (OK1.ixP sl59 ty28 (Has.t rfl) (Has.t rfl) ⟨by omega, by omega⟩ (getD_some (d := 0) (by omega))) rfl ?_
      refine st (OK1.eq (OK1.loadP1 (Has.t rfl) ty28) (isU_eq (getD_words _ i))) rfl ?_
      refine st (OK1.as (Has.t rfl)) rfl ?_
      refine st (OK1.as (Has.t rfl)) rfl ?_
      refine nl ?_
      refine At.thn (hK13 _ _ ?_); clear hK13
      refine Tri.seq fun K14 hK14 => ?_
      refine Tri.region ?_
      refine st (OK1.mv (Has.t rfl)) rfl ?_
      refine st (OK1.mv (Has.t rfl)) rfl ?_
      refine st (OK1.mv (Has.t rfl)) rfl ?_
      refine st (OK1.addI (Has.t rfl) (Has.t rfl) (by omega) (by omega)) rfl ?_
      refine st (OK1.eq (OK1.ixWin sl59 ty28 (Has.t rfl) (Has.t rfl) ⟨by omega, by omega⟩) (isPtr_eq (by exact ixo0))) rfl ?_
      refine st (OK1.eq (OK1.load1 (Has.t rfl) (i := 0) rfl ty28 (map_some (getD_some (d := 0) (by omega)))) ((show isU _ = isU (val xs % W ^ i * 2 ^ k / W ^ (k / 64 + i)) from isU_eq (by rw [ek]; exact shl_get (by omega))))) rfl ?_
      refine st (OK1.mv (Has.t rfl)) rfl ?_
      refine st (OK1.mv (Has.t rfl)) rfl ?_
      refine st (OK1.shlUU (Has.t rfl) (Has.t rfl) (by exact True.intro)) rfl ?_
      refine st (OK1.orU (Has.t rfl) (Has.t rfl)) rfl ?_
      refine st (OK1.eq (OK1.ixWin sl59 ty28 (Has.t rfl) (Has.t rfl) ⟨by omega, by omega⟩) (isPtr_eq (by exact ixo0))) rfl ?_
      refine Ops.storeM (Has.t rfl) (Has.t rfl) (i := 0) rfl ty28 (by omega) (M' := [(_, _)]) rfl ?_
      refine nl ?_
      refine At.thn (hK14 _ _ ?_); clear hK14
      refine Tri.seq fun K15 hK15 => ?_
      refine Tri.region ?_
      refine st (OK1.mv (Has.t rfl)) rfl ?_
      refine st (OK1.gtU (Has.t rfl) (Has.cU 0 rfl)) rfl ?_
      refine nl ?_
      refine At.thn (hK15 _ _ ?_); clear hK15
      refine Tri.cond (Has.t rfl) (fun hc3 => ?_) (fun hc3 => ?_)
      · have hc3 := BP.t hc3
        refine Tri.region ?_
        refine st (OK1.mv (Has.t rfl)) rfl ?_
        refine st (OK1.mv (Has.t rfl)) rfl ?_
        refine st (OK1.mv (Has.t rfl)) rfl ?_
        refine st (OK1.addI (Has.t rfl) (Has.t rfl) (by omega) (by omega)) rfl ?_
        refine st (OK1.addI (Has.t rfl) (Has.cI 1 rfl) (by omega) (by omega)) rfl ?_
        refine st (OK1.mv (Has.t rfl)) rfl ?_
        refine st (OK1.mv (Has.t rfl)) rfl ?_
        refine st (OK1.subU' (Has.cU 64 rfl) (Has.t rfl) (by omega) (by omega)) rfl ?_
        refine st (OK1.shrUU (Has.t rfl) (Has.t rfl) (by exact dig_lt _ _)) rfl ?_
        refine st (OK1.eq (OK1.ixWin sl59 ty28 (Has.t rfl) (Has.t rfl) ⟨by omega, by omega⟩) (isPtr_eq (by exact ixo0))) rfl ?_
        refine Ops.storeM (Has.t rfl) (Has.t rfl) (i := 0) rfl ty28 (by simp only [Int.toNat_natCast, List.length_set, List.length_replicate]; omega) (M' := [(_, _)]) rfl ?_
        refine nl ?_
        refine At.bln ?_
        refine At.thn (hK12 _ _ ?_); clear hK12
        refine Tri.region ?_
        refine st (OK1.addI (Has.t rfl) (Has.cI 1 rfl) (by omega) (by omega)) rfl ?_
        refine st (OK1.mv (Has.t rfl)) rfl ?_
        refine nl ?_
        refine At.thn ?_
        refine hK9 (⟨i + 1, by omega⟩) _ _ ?_ (Cv.mem (.cons (t := 32) (Has.t' rfl ?_) (.cons (t := 4) (Has.t rfl) (.cons (t := 5) (Has.t rfl) (.cons (t := 6) (Has.t rfl) (.cons (t := 7) (Has.t rfl) (.cons (t := 8) (Has.t rfl) (.cons (t := 30) (Has.t rfl) (.cons (t := 31) (Has.t rfl) .nil)))))))) ?_)
        · show (List.length (words (val xs))) - (i + 1) < (List.length (words (val xs))) - i; omega
        · rfl
        · exact memL_eq (by rw [ek, shl_set1 (by omega) rfl]; exact shl_set2 (by omega) (by omega) (by omega) rfl)
      · have hc3 := BP.f hc3
        refine Tri.skip ?_
        refine At.bln ?_
        refine At.thn (hK12 _ _ ?_); clear hK12
        refine Tri.region ?_
        refine st (OK1.addI (Has.t rfl) (Has.cI 1 rfl) (by omega) (by omega)) rfl ?_
        refine st (OK1.mv (Has.t rfl)) rfl ?_
        refine nl ?_
        refine At.thn ?_
        refine hK9 (⟨i + 1, by omega⟩) _ _ ?_ (Cv.mem (.cons (t := 32) (Has.t' rfl ?_) (.cons (t := 4) (Has.t rfl) (.cons (t := 5) (Has.t rfl) (.cons (t := 6) (Has.t rfl) (.cons (t := 7) (Has.t rfl) (.cons (t := 8) (Has.t rfl) (.cons (t := 30) (Has.t rfl) (.cons (t := 31) (Has.t rfl) .nil)))))))) ?_)
        · show (List.length (words (val xs))) - (i + 1) < (List.length (words (val xs))) - i; omega
        · rfl
        · exact memL_eq (by rw [ek, shl_set1 (by omega) rfl]; exact shl_end0 (by omega) (by omega))
    · have hc2 := BP.f hc2
      refine Tri.exit ?_
      refine At.the ?_
      refine At.the ?_
      refine At.blh ?_
      refine At.thn (hK7 _ _ ?_); clear hK7
      refine Tri.cv (Cv.wk (.cons (t := 4) (Has.t rfl) (.cons (t := 5) (Has.t rfl) (.cons (t := 8) (Has.t rfl) .nil)))) ?_
      refine Tri.seq fun K16 hK16 => ?_
      refine Tri.cv (Cv.freeze' (t := 8) (i := 0) (ys := wordsN ((List.length (words (val xs))) + k / 64 + 1) (val xs % W ^ i * 2 ^ k)) rfl rfl rfl (by simp; omega) (freeze_all (by rw [wl]))) ?_
      refine Tri.memEq (M' := []) rfl ?_
      refine Tri.cv (Cv.wk (.cons (t := 4) (Has.t rfl) (.cons (t := 5) (Has.t rfl) (.cons (t := 8) (Has.t rfl) .nil)))) ?_
      refine Tri.region ?_
      refine st (OK1.mv (Has.t rfl)) rfl ?_
      refine st (OK1.call (nat_normal) (.cons (Has.t rfl) .nil)) rfl ?_
      refine st (OK1.as (Has.t rfl)) rfl ?_
      refine st (OK1.as (Has.cB true)) rfl ?_
      refine nl ?_
      refine At.thn (hK16 _ _ ?_); clear hK16
      refine Tri.ret ?_
      refine rtN (.inl rfl) Tryz.results109 rfl rfl (.tmp (Has.t' rfl ?_) (.tmp (Has.t' rfl ?_) .nil))
      · obtain rfl : i = (List.length (words (val xs))) := (by omega); exact SlM_eq (shlEnd rfl)
      · rfl
set_option maxHeartbeats 4000000 in
theorem nat_Shr {xs : List Nat} {k : Nat} (hk : k < 9223372036854775808) (hx : (List.length (words (val xs))) < 4294900000) : Ctr Tryz.prog 111 [isWords xs, isI (k : Int)] (isTup [isWords (words (val xs / 2 ^ k)), isB true]) := by
  refine Ctr.intro Tryz.func111 rfl (by kernel_rfl) Tryz.ntmps111 rfl fun w0 F0 => ?_
  refine Tri.cv (Cv.wk (.cons (t := 0) (Has.t rfl) (.cons (t := 1) (Has.t rfl) .nil))) ?_
  refine Tri.fact (Has.lenLt (Has.t (t := 0) rfl)) fun lt0 => ?_
  refine Tri.fact (Has.okW (Has.t (t := 0) rfl)) fun ok0 => ?_
  refine Tri.fact (Has.rngI (Has.t (t := 1) rfl)) fun lt1 => ?_
  have e1 : ((k : Int) / 64) = ((k / 64 : Nat) : Int) := by omega
  have e2 : ((k : Int) % 64).toNat = k % 64 := by omega
  have nX := nw_div (val xs) (k / 64)
  refine Tri.seq fun K1 hK1 => ?_
  refine Tri.region ?_
  refine st (OK1.as (Has.cW (f := isU))) rfl ?_
  refine st (OK1.as (Has.cB false)) rfl ?_
  refine nl ?_
  refine At.thn (hK1 _ _ ?_); clear hK1
  refine Tri.seq fun K2 hK2 => ?_
  refine Tri.seq fun K3 hK3 => ?_
  refine Tri.region ?_
  refine st (OK1.mv (Has.t rfl)) rfl ?_
  refine st (OK1.ltI (Has.t rfl) (Has.cI 0 rfl)) rfl ?_
  refine nl ?_
  refine At.thn (hK3 _ _ ?_); clear hK3
  refine Tri.cond (Has.t rfl) (fun hc1 => ?_) (fun hc1 => ?_)
  · have hc1 := BP.t hc1
    exfalso; first | omega | contradiction | (revert hc1; simp)
  · have hc1 := BP.f hc1
    refine Tri.skip ?_
    refine At.thn (hK2 _ _ ?_); clear hK2
    refine Tri.seq fun K4 hK4 => ?_
    refine Tri.region ?_
    refine st (OK1.mv (Has.t rfl)) rfl ?_
    refine st (OK1.call (nat_trim) (.cons (Has.t rfl) .nil)) rfl ?_
    refine st (OK1.as (Has.t rfl)) rfl ?_
    refine nl ?_
    refine At.thn (hK4 _ _ ?_); clear hK4
    refine Tri.seq fun K5 hK5 => ?_
    refine Tri.region ?_
    refine st (OK1.mv (Has.t rfl)) rfl ?_
    refine st (OK1.eq (OK1.quoI (Has.t rfl) (Has.cI 64 rfl) (by omega) (by omega) (by omega)) (isI_eq e1)) rfl ?_
    refine st (OK1.mv (Has.t rfl)) rfl ?_
    refine st (OK1.remI (Has.t rfl) (Has.cI 64 rfl) (by omega) (by omega) (by omega)) rfl ?_
    refine st (OK1.eq (OK1.convIU un3 un131 (Has.t rfl) (by omega) (by omega)) (isU_eq e2)) rfl ?_
    refine st (OK1.as (Has.t rfl)) rfl ?_
    refine st (OK1.as (Has.t rfl)) rfl ?_
    refine nl ?_
    refine At.thn (hK5 _ _ ?_); clear hK5
    refine Tri.cv (Cv.wk (.cons (t := 0) (Has.t rfl) (.cons (t := 4) (Has.t rfl) (.cons (t := 5) (Has.t rfl) (.cons (t := 6) (Has.t rfl) (.cons (t := 7) (Has.t rfl) .nil)))))) ?_
    refine Tri.seq fun K6 hK6 => ?_
    refine Tri.seq fun K7 hK7 => ?_
    refine Tri.region ?_
    refine st (OK1.mv (Has.t rfl)) rfl ?_
    refine st (OK1.mv (Has.t rfl)) rfl ?_
    refine st (OK1.len sl59 (Has.t rfl)) rfl ?_
    refine st (OK1.geI (Has.t rfl) (Has.t rfl)) rfl ?_
    refine nl ?_
    refine At.thn (hK7 _ _ ?_); clear hK7
    refine Tri.cond (Has.t rfl) (fun hc2 => ?_) (fun hc2 => ?_)
    · have hc2 := BP.t hc2
      refine Tri.seq fun K8 hK8 => ?_
      refine Tri.region ?_
      refine st (OK1.as (Has.cW (f := isU))) rfl ?_
      refine st (OK1.as (Has.cB true)) rfl ?_
      refine nl ?_
      refine At.thn (hK8 _ _ ?_); clear hK8
      refine Tri.ret ?_
      refine At.thr ?_
      refine rtN (.inl rfl) Tryz.results111 rfl rfl (.tmp (Has.t' rfl ?_) (.tmp (Has.t' rfl ?_) .nil))
      · exact SlM_eq (shr_none (by omega))
      · rfl
    · have hc2 := BP.f hc2
      refine Tri.skip ?_
      refine At.thn (hK6 _ _ ?_); clear hK6
      refine Tri.seq fun K9 hK9 => ?_
      refine Tri.region ?_
      refine st (OK1.mv (Has.t rfl)) rfl ?_
      refine st (OK1.mv (Has.t rfl)) rfl ?_
      refine st (OK1.eq (OK1.slLM sl59 ty28 (Has.t rfl) (Has.t rfl) ⟨by omega, by omega⟩) (SlM_eq (drop_words (val xs) (k / 64)))) rfl ?_
      refine st (OK1.as (Has.t rfl)) rfl ?_
      refine nl ?_
      refine At.thn (hK9 _ _ ?_); clear hK9
      refine Tri.cv (Cv.wk (.cons (t := 0) (Has.t rfl) (.cons (t := 4) (Has.t rfl) (.cons (t := 5) (Has.t rfl) (.cons (t := 7) (Has.t rfl) .nil))))) ?_
      refine Tri.seq fun K10 hK10 => ?_
      refine Tri.region ?_
      refine st (OK1.mv (Has.t rfl)) rfl ?_
      refine st (OK1.len sl59 (Has.t rfl)) rfl ?_
      refine Ops.make (f := isU) (u := 0) (n := (List.length (words (val xs / W ^ (k / 64))))) (c := (List.length (words (val xs / W ^ (k / 64))))) sl59 ty28 zero28 (fun _ _ => ⟨⟨rfl, by decide⟩, trivial⟩) by28 (Has.t' rfl rfl) (Has.t' rfl rfl) ⟨by omega, by omega⟩ rfl fun b1 => ?_
      refine st (OK1.as (Has.t rfl)) rfl ?_
      refine nl ?_
      refine At.thn (hK10 _ _ ?_); clear hK10
      refine Tri.seq fun K11 hK11 => ?_
      refine Tri.seq fun K12 hK12 => ?_
      refine Tri.region ?_
      refine st (OK1.mv (Has.t rfl)) rfl ?_
      refine st (OK1.len sl59 (Has.t rfl)) rfl ?_
      refine st (OK1.mv (Has.cI 0 rfl)) rfl ?_
      refine nl ?_
      refine At.thn (hK12 _ _ ?_); clear hK12
      refine Tri.block ?_
      refine Tri.loopF [0, 4, 5, 7, 8, 30, 31] (fun (z : { i : Nat // i ≤ (List.length (words (val xs / W ^ (k / 64)))) }) => match z with | ⟨i, hI⟩ => [(32, isI (i : Int))]) (fun M => fun (z : { i : Nat // i ≤ (List.length (words (val xs / W ^ (k / 64)))) }) => match z with | ⟨i, hI⟩ => [(some b1, cellM (List.map isU (wpart ((val xs / W ^ (k / 64)) / 2 ^ (k % 64)) i ((List.length (words (val xs / W ^ (k / 64))))))))]) (fun (z : { i : Nat // i ≤ (List.length (words (val xs / W ^ (k / 64)))) }) => match z with | ⟨i, hI⟩ => (List.length (words (val xs / W ^ (k / 64)))) - i) (⟨0, Nat.zero_le _⟩) (Cv.mem (.cons (t := 32) (Has.t' rfl ?_) (.cons (t := 0) (Has.t rfl) (.cons (t := 4) (Has.t rfl) (.cons (t := 5) (Has.t rfl) (.cons (t := 7) (Has.t rfl) (.cons (t := 8) (Has.t rfl) (.cons (t := 30) (Has.t rfl) (.cons (t := 31) (Has.t rfl) .nil)))))))) ?_) ?_
      · rfl
      · exact memL_eq (wpart_zero _ _)
      rintro ⟨i, hI⟩ K13 hK13
      refine Tri.cv (Cv.wk (.cons (t := 32) (Has.t rfl) (.cons (t := 0) (Has.t rfl) (.cons (t := 4) (Has.t rfl) (.cons (t := 5) (Has.t rfl) (.cons (t := 7) (Has.t rfl) (.cons (t := 8) (Has.t rfl) (.cons (t := 30) (Has.t rfl) (.cons (t := 31) (Has.t rfl) .nil))))))))) ?_
      refine Tri.memEq (M' := [(some b1, cellM (List.map isU (wpart ((val xs / W ^ (k / 64)) / 2 ^ (k % 64)) i ((List.length (words (val xs / W ^ (k / 64))))))))]) rfl ?_
      have wl : (wpart ((val xs / W ^ (k / 64)) / 2 ^ (k % 64)) i ((List.length (words (val xs / W ^ (k / 64)))))).length = (List.length (words (val xs / W ^ (k / 64)))) := wpart_len (by omega)
      refine Tri.seq fun K14 hK14 => ?_
      refine Tri.region ?_
      refine st (OK1.ltI (Has.t rfl) (Has.t rfl)) rfl ?_
      refine nl ?_
      refine At.thn (hK14 _ _ ?_); clear hK14
      refine Tri.seq fun K15 hK15 => ?_
      refine Tri.cond (Has.t rfl) (fun hc3 => ?_) (fun hc3 => ?_)
      · have hc3 := BP.t hc3
        refine Tri.skip ?_
        refine At.thn (hK15 _ _ ?_); clear hK15
        refine Tri.seq fun K16 hK16 => ?_
        refine Tri.block ?_
        refine Tri.seq fun K17 hK17 => ?_
        refine Tri.region ?_
        refine st (OK1.mv (Has.t rfl)) rfl ?_
        refine st (OK1.ixP sl59 ty28 (Has.t rfl) (Has.t rfl) ⟨by omega, by omega⟩ (getD_some (d := 0) (by omega))) rfl ?_
        refine st (OK1.eq (OK1.loadP1 (Has.t rfl) ty28) (isU_eq (getD_words _ i))) rfl ?_
        refine st (OK1.as (Has.t rfl)) rfl ?_
        refine st (OK1.as (Has.t rfl)) rfl ?_
        refine nl ?_
        refine At.thn (hK17 _ _ ?_); clear hK17
        refine Tri.seq fun K18 hK18 => ?_
        refine Tri.region ?_
        refine st (OK1.mv (Has.t rfl)) rfl ?_
        refine st (OK1.mv (Has.t rfl)) rfl ?_
        refine st (OK1.mv (Has.t rfl)) rfl ?_
        refine st (OK1.mv (Has.t rfl)) rfl ?_
        refine st (OK1.shrUU (Has.t rfl) (Has.t rfl) (by exact dig_lt _ _)) rfl ?_
        refine st (OK1.eq (OK1.ixWin sl59 ty28 (Has.t rfl) (Has.t rfl) ⟨by omega, by omega⟩) (isPtr_eq (by exact ixo0))) rfl ?_
        refine Ops.storeM (Has.t rfl) (Has.t rfl) (i := 0) rfl ty28 (by omega) (M' := [(_, _)]) rfl ?_
        refine nl ?_
        refine At.thn (hK18 _ _ ?_); clear hK18
        refine Tri.seq fun K19 hK19 => ?_
        refine Tri.region ?_
        refine st (OK1.mv (Has.t rfl)) rfl ?_
        refine st (OK1.gtU (Has.t rfl) (Has.cU 0 rfl)) rfl ?_
        refine st (OK1.mv (Has.t rfl)) rfl ?_
        refine stT rfl rfl (fun hg => have hg' := BP.t hg; OK1.mv (Has.t rfl)) rfl ?_
        refine stT rfl rfl (fun hg => have hg' := BP.t hg; OK1.addI (Has.g rfl hg) (Has.cI 1 rfl) (by omega) (by omega)) rfl ?_
        refine stT rfl rfl (fun hg => have hg' := BP.t hg; OK1.mv (Has.t rfl)) rfl ?_
        refine stT rfl rfl (fun hg => have hg' := BP.t hg; OK1.len sl59 (Has.g rfl hg)) rfl ?_
        refine stT rfl rfl (fun hg => have hg' := BP.t hg; OK1.ltI (Has.g rfl hg) (Has.g rfl hg)) rfl ?_
        refine st (OK1.pickAnd (Has.t rfl) (fun h => Has.g rfl h)) rfl ?_
        refine nl ?_
        refine At.thn (hK19 _ _ ?_); clear hK19
        refine Tri.cond (Has.t rfl) (fun hc4 => ?_) (fun hc4 => ?_)
        · have hc4 := BP.t hc4
          refine Tri.dr ?_
          refine DrG.st (i := 0) [] rfl rfl rfl (by kernel_rfl) (OKG.o rfl (OK1.mv (Has.t rfl))) ?_
          refine DrG.st (i := 1) [] rfl rfl rfl (by kernel_rfl) (OKG.o rfl (OK1.mv (Has.t rfl))) ?_
          refine DrG.st (i := 2) [52, 53] rfl rfl rfl (by kernel_rfl) (OKG.o rfl (OK1.eq (OK1.ixWin sl59 ty28 (Has.t rfl) (Has.t rfl) ⟨by omega, by omega⟩) (isPtr_eq (by exact ixo0)))) ?_
          refine DrG.st (i := 3) [54] rfl rfl rfl (by kernel_rfl) (OKG.o rfl (OK1.load1 (Has.t rfl) (i := 0) rfl ty28 (map_some (getD_some (d := 0) (by simp only [Int.toNat_natCast, List.length_set]; omega))))) ?_
          refine DrG.st (i := 4) [] rfl rfl rfl (by kernel_rfl) (OKG.o rfl (OK1.mv (Has.t rfl))) ?_
          refine DrG.st (i := 5) [] rfl rfl rfl (by kernel_rfl) (OKG.o rfl (OK1.mv (Has.t rfl))) ?_
          refine DrG.st (i := 6) [57] rfl rfl rfl (by kernel_rfl) (OKG.o rfl (OK1.addI (Has.t rfl) (Has.cI 1 rfl) (by omega) (by omega))) ?_
          refine DrG.st (i := 7) [56, 58] rfl rfl rfl (by kernel_rfl) (OKG.o rfl (OK1.ixP sl59 ty28 (Has.t rfl) (Has.t rfl) ⟨by omega, by omega⟩ (getD_some (d := 0) (by omega)))) ?_
          refine DrG.st (i := 8) [59] rfl rfl rfl (by kernel_rfl) (OKG.o rfl (OK1.eq (OK1.loadP1 (Has.t rfl) ty28) ((show isU _ = isU (dig (val xs / W ^ (k / 64)) (i + 1)) from isU_eq (getD_words _ (i + 1)))))) ?_
          refine DrG.st (i := 9) [] rfl rfl rfl (by kernel_rfl) (OKG.o rfl (OK1.mv (Has.t rfl))) ?_
          refine DrG.st (i := 10) [61] rfl rfl rfl (by kernel_rfl) (OKG.o rfl (OK1.subU' (Has.cU 64 rfl) (Has.t rfl) (by omega) (by omega))) ?_
          refine DrG.st (i := 11) [60, 62] rfl rfl rfl (by kernel_rfl) (OKG.o rfl (OK1.shlUU (Has.t rfl) (Has.t rfl) (by exact True.intro))) ?_
          refine DrG.fin (n := 12) mixed (by kernel_rfl) (by kernel_rfl) (by kernel_rfl) ?_
          refine Ops.cv (Cv.wk (.cons (t := 0) (Has.t rfl) (.cons (t := 4) (Has.t rfl) (.cons (t := 5) (Has.t rfl) (.cons (t := 7) (Has.t rfl) (.cons (t := 8) (Has.t rfl) (.cons (t := 30) (Has.t rfl) (.cons (t := 31) (Has.t rfl) (.cons (t := 32) (Has.t rfl) (.cons (t := 33) (Has.t rfl) (.cons (t := 34) (Has.t rfl) (.cons (t := 35) (Has.t rfl) (.cons (t := 36) (Has.t rfl) (.cons (t := 9) (Has.t rfl) (.cons (t := 10) (Has.t rfl) (.cons (t := 37) (Has.t rfl) (.cons (t := 38) (Has.t rfl) (.cons (t := 39) (Has.t rfl) (.cons (t := 40) (Has.t rfl) (.cons (t := 41) (Has.t rfl) (.cons (t := 42) (Has.t rfl) (.cons (t := 43) (Has.t rfl) (.cons (t := 44) (Has.t rfl) (.cons (t := 45) (Has.t rfl) (.cons (t := 46) (Has.t rfl) (.cons (t := 47) (Has.t rfl) (.cons (t := 48) (Has.t rfl) (.cons (t := 49) (Has.t rfl) (.cons (t := 50) (Has.t rfl) (.cons (t := 51) (Has.t rfl) (.cons (t := 52) (Has.t rfl) (.cons (t := 53) (Has.t rfl) (.cons (t := 54) (Has.t rfl) (.cons (t := 55) (Has.t rfl) (.cons (t := 56) (Has.t rfl) (.cons (t := 57) (Has.t rfl) (.cons (t := 58) (Has.t rfl) (.cons (t := 59) (Has.t rfl) (.cons (t := 60) (Has.t rfl) (.cons (t := 61) (Has.t rfl) (.cons (t := 62) (Has.t rfl) (.cons (t := 63) (Has.t rfl) .nil)))))))))))))))))))))))))))))))))))))))))) ?_
          refine st (OK1.orU (Has.t rfl) (Has.t rfl)) rfl ?_
          refine st (OK1.eq (OK1.ixWin sl59 ty28 (Has.t rfl) (Has.t rfl) ⟨by omega, by omega⟩) (isPtr_eq (by exact ixo0))) rfl ?_
          refine Ops.storeM (Has.t rfl) (Has.t rfl) (i := 0) rfl ty28 (by simp only [Int.toNat_natCast, List.length_set, List.length_replicate]; omega) (M' := [(_, _)]) rfl ?_
          refine nl ?_
          refine At.bln ?_
          refine At.thn (hK16 _ _ ?_); clear hK16
          refine Tri.region ?_
          refine st (OK1.addI (Has.t rfl) (Has.cI 1 rfl) (by omega) (by omega)) rfl ?_
          refine st (OK1.mv (Has.t rfl)) rfl ?_
          refine nl ?_
          refine At.thn ?_
          refine hK13 (⟨i + 1, by omega⟩) _ _ ?_ (Cv.mem (.cons (t := 32) (Has.t' rfl ?_) (.cons (t := 0) (Has.t rfl) (.cons (t := 4) (Has.t rfl) (.cons (t := 5) (Has.t rfl) (.cons (t := 7) (Has.t rfl) (.cons (t := 8) (Has.t rfl) (.cons (t := 30) (Has.t rfl) (.cons (t := 31) (Has.t rfl) .nil)))))))) ?_)
          · show (List.length (words (val xs / W ^ (k / 64)))) - (i + 1) < (List.length (words (val xs / W ^ (k / 64)))) - i; omega
          · rfl
          · exact memL_eq (shr_step2 (by omega) (by omega))
        · have hc4 := BP.f hc4
          refine Tri.skip ?_
          refine At.bln ?_
          refine At.thn (hK16 _ _ ?_); clear hK16
          refine Tri.region ?_
          refine st (OK1.addI (Has.t rfl) (Has.cI 1 rfl) (by omega) (by omega)) rfl ?_
          refine st (OK1.mv (Has.t rfl)) rfl ?_
          refine nl ?_
          refine At.thn ?_
          refine hK13 (⟨i + 1, by omega⟩) _ _ ?_ (Cv.mem (.cons (t := 32) (Has.t' rfl ?_) (.cons (t := 0) (Has.t rfl) (.cons (t := 4) (Has.t rfl) (.cons (t := 5) (Has.t rfl) (.cons (t := 7) (Has.t rfl) (.cons (t := 8) (Has.t rfl) (.cons (t := 30) (Has.t rfl) (.cons (t := 31) (Has.t rfl) .nil)))))))) ?_)
          · show (List.length (words (val xs / W ^ (k / 64)))) - (i + 1) < (List.length (words (val xs / W ^ (k / 64)))) - i; omega
          · rfl
          · exact memL_eq (shr_step1 (by omega) (by omega) rfl (by omega))
      · have hc3 := BP.f hc3
        refine Tri.exit ?_
        refine At.the ?_
        refine At.the ?_
        refine At.blh ?_
        refine At.thn (hK11 _ _ ?_); clear hK11
        refine Tri.cv (Cv.wk (.cons (t := 4) (Has.t rfl) (.cons (t := 5) (Has.t rfl) (.cons (t := 8) (Has.t rfl) .nil)))) ?_
        refine Tri.seq fun K20 hK20 => ?_
        refine Tri.cv (Cv.freeze' (t := 8) (i := 0) (ys := wordsN ((List.length (words (val xs / W ^ (k / 64))))) ((val xs / W ^ (k / 64)) / 2 ^ (k % 64))) rfl rfl rfl (by simp; omega) (fz_wpart' (by omega))) ?_
        refine Tri.memEq (M' := []) rfl ?_
        refine Tri.cv (Cv.wk (.cons (t := 4) (Has.t rfl) (.cons (t := 5) (Has.t rfl) (.cons (t := 8) (Has.t rfl) .nil)))) ?_
        refine Tri.region ?_
        refine st (OK1.mv (Has.t rfl)) rfl ?_
        refine st (OK1.call (nat_normal) (.cons (Has.t rfl) .nil)) rfl ?_
        refine st (OK1.as (Has.t rfl)) rfl ?_
        refine st (OK1.as (Has.cB true)) rfl ?_
        refine nl ?_
        refine At.thn (hK20 _ _ ?_); clear hK20
        refine Tri.ret ?_
        refine rtN (.inl rfl) Tryz.results111 rfl rfl (.tmp (Has.t' rfl ?_) (.tmp (Has.t' rfl ?_) .nil))
        · exact SlM_eq (shr_end rfl)
        · rfl
set_option maxHeartbeats 4000000 in
theorem clone_NatO {xs : List Nat} (hx : xs.length ≤ 4294967296) : CtrO Tryz.prog 93 [isWords xs] isU 0 xs := by
  refine CtrO.intro Tryz.func93 rfl (by kernel_rfl) Tryz.ntmps93 rfl fun w0 F0 => ?_
  refine Tri.cv (Cv.wk (.cons (t := 0) (Has.t rfl) .nil)) ?_
  refine Tri.fact (Has.lenLt (Has.t (t := 0) rfl)) fun lt0 => ?_
  refine Tri.fact (Has.okW (Has.t (t := 0) rfl)) fun ok0 => ?_
  refine Tri.seq fun K1 hK1 => ?_
  refine Tri.region ?_
  refine st (OK1.as (Has.cW (f := isU))) rfl ?_
  refine nl ?_
  refine At.thn (hK1 _ _ ?_); clear hK1
  refine Tri.seq fun K2 hK2 => ?_
  refine Tri.seq fun K3 hK3 => ?_
  refine Tri.region ?_
  refine st (OK1.mv (Has.t rfl)) rfl ?_
  refine Ops.eqNil sl59 (Has.t rfl) rfl fun bn1 hn1 => ?_
  refine nl ?_
  refine At.thn (hK3 _ _ ?_); clear hK3
  refine Tri.cond (Has.t rfl) (fun hc2 => ?_) (fun hc2 => ?_)
  · have hc2 := BP.t hc2
    refine Tri.seq fun K4 hK4 => ?_
    refine Tri.region ?_
    refine st (OK1.as (Has.cW (f := isU))) rfl ?_
    refine nl ?_
    refine At.thn (hK4 _ _ ?_); clear hK4
    refine Tri.ret ?_
    refine At.thr ?_
    refine rtO0 (.inl rfl) Tryz.results93 rfl ?_ (.tmp (Has.t' rfl ?_) .nil)
    · exact hn1 hc2
    · rfl
  · have hc2 := BP.f hc2
    refine Tri.skip ?_
    refine At.thn (hK2 _ _ ?_); clear hK2
    refine Tri.seq fun K5 hK5 => ?_
    refine Tri.region ?_
    refine Ops.buildS0 sl59 ty28 rfl ?_
    refine st (OK1.mv (Has.t rfl)) rfl ?_
    refine Ops.appendO (f := isU) (u := 0) sl59 ty28 zero28 (fun _ _ => ⟨⟨rfl, by decide⟩, trivial⟩) by28 (Has.t rfl) (Has.t rfl) (by omega) rfl (fun hO3 => ?_) (fun hO3 b1 cb1 jb1 => ?_)
    · skip
      refine st (OK1.as (Has.t rfl)) rfl ?_
      refine nl ?_
      refine At.thn (hK5 _ _ ?_); clear hK5
      refine Tri.cv (Cv.wk (.cons (t := 2) (Has.t rfl) .nil)) ?_
      refine Tri.ret ?_
      refine rtO0 (.inl rfl) Tryz.results93 rfl ?_ (.tmp (Has.t' rfl ?_) .nil)
      · exact hO3
      · rfl
    · skip
      refine st (OK1.as (Has.t rfl)) rfl ?_
      refine nl ?_
      refine At.thn (hK5 _ _ ?_); clear hK5
      refine Tri.cv (Cv.wk (.cons (t := 2) (Has.t rfl) .nil)) ?_
      refine Tri.ret ?_
      refine rtO1 (.inl rfl) Tryz.results93 rfl ?_ (b := b1) (c := cb1) (k := jb1) (i := 0) ?_ (.tmp (Has.t' rfl ?_) .nil)
      · exact hO3
      · rfl
      · rfl
set_option maxHeartbeats 4000000 in
theorem nat_trimW {A k c : Nat} (hA : A ≠ 0) : CtrM Tryz.prog 75 (fun b0 => [isWin b0 0 ((List.length (words A))) c]) (cellM (List.map isU (words A ++ List.replicate k 0))) (cellM (List.map isU (words A ++ List.replicate k 0))) (fun b0 => isWin b0 0 ((List.length (words A))) c) := by
  refine CtrM.intro Tryz.func75 rfl (by kernel_rfl) Tryz.ntmps75 (fun _ => rfl) fun w0 F0 b0 => ?_
  refine Tri.cv (Cv.wk (.cons (t := 0) (Has.t rfl) .nil)) ?_
  refine Tri.fact (Has.lenLt (Has.t (t := 0) rfl)) fun lt0 => ?_
  refine Tri.fact (Has.winLe (Has.t (t := 0) rfl)) fun lw0 => ?_
  have nA := nw_pos hA
  refine Tri.seq fun K1 hK1 => ?_
  refine Tri.region ?_
  refine st (OK1.as (Has.cW (f := isU))) rfl ?_
  refine nl ?_
  refine At.thn (hK1 _ _ ?_); clear hK1
  refine Tri.seq fun K2 hK2 => ?_
  refine Tri.region ?_
  refine st (OK1.mv (Has.t rfl)) rfl ?_
  refine st (OK1.len sl59 (Has.t rfl)) rfl ?_
  refine st (OK1.as (Has.t rfl)) rfl ?_
  refine nl ?_
  refine At.thn (hK2 _ _ ?_); clear hK2
  refine Tri.seq fun K3 hK3 => ?_
  refine Tri.block ?_
  refine Tri.loopF [0, 2] (fun (_ : Unit) => [(3, isI ((List.length (words A)) : Int))]) (fun M => fun (_ : Unit) => M) (fun (_ : Unit) => 0) (()) (Cv.mem (.cons (t := 3) (Has.t' rfl ?_) (.cons (t := 0) (Has.t rfl) (.cons (t := 2) (Has.t rfl) .nil))) ?_) ?_
  · rfl
  · rfl
  rintro _ K4 hK4
  refine Tri.cv (Cv.wk (.cons (t := 3) (Has.t rfl) (.cons (t := 0) (Has.t rfl) (.cons (t := 2) (Has.t rfl) .nil)))) ?_
  refine Tri.seq fun K5 hK5 => ?_
  refine Tri.seq fun K6 hK6 => ?_
  refine Tri.region ?_
  refine st (OK1.mv (Has.t rfl)) rfl ?_
  refine st (OK1.gtI (Has.t rfl) (Has.cI 0 rfl)) rfl ?_
  refine st (OK1.mv (Has.t rfl)) rfl ?_
  refine stT rfl rfl (fun hg => have hg' := BP.t hg; OK1.mv (Has.t rfl)) rfl ?_
  refine stT rfl rfl (fun hg => have hg' := BP.t hg; OK1.mv (Has.t rfl)) rfl ?_
  refine stT rfl rfl (fun hg => have hg' := BP.t hg; OK1.subI (Has.g rfl hg) (Has.cI 1 rfl) (by omega) (by omega)) rfl ?_
  refine stT rfl rfl (fun hg => have hg' := BP.t hg; OK1.eq (OK1.ixWin sl59 ty28 (Has.g rfl hg) (Has.g rfl hg) ⟨by omega, by omega⟩) (isPtr_eq (by exact ixo0))) rfl ?_
  refine stT rfl rfl (fun hg => have hg' := BP.t hg; OK1.load1 (Has.g rfl hg) (i := 0) rfl ty28 (map_some (getD_some (d := 0) (by simp only [List.length_append]; omega)))) rfl ?_
  refine stT rfl rfl (fun hg => have hg' := BP.t hg; OK1.eqU (Has.g rfl hg) (Has.cU 0 rfl)) rfl ?_
  refine st (OK1.pickAnd (Has.t rfl) (fun h => Has.g rfl h)) rfl ?_
  refine nl ?_
  refine At.thn (hK6 _ _ ?_); clear hK6
  refine Tri.cond (Has.t rfl) (fun hc1 => ?_) (fun hc1 => ?_)
  · have hc1 := BP.t hc1
    exact absurd hc1.2 (topW hA)
  · have hc1 := BP.f hc1
    refine Tri.exit ?_
    refine At.the ?_
    refine At.the ?_
    refine At.blh ?_
    refine At.thn (hK3 _ _ ?_); clear hK3
    refine Tri.cv (Cv.wk (.cons (t := 0) (Has.t rfl) (.cons (t := 2) (Has.t rfl) (.cons (t := 3) (Has.t rfl) .nil)))) ?_
    refine Tri.seq fun K7 hK7 => ?_
    refine Tri.region ?_
    refine st (OK1.mv (Has.t rfl)) rfl ?_
    refine st (OK1.mv (Has.t rfl)) rfl ?_
    refine st (OK1.slHWin sl59 ty28 (Has.t rfl) (Has.t rfl) ⟨by omega, by omega, by omega⟩) rfl ?_
    refine st (OK1.as (Has.t rfl)) rfl ?_
    refine nl ?_
    refine At.thn (hK7 _ _ ?_); clear hK7
    refine Tri.cv (Cv.wk (.cons (t := 2) (Has.t rfl) .nil)) ?_
    refine Tri.ret ?_
    refine rtM1 (.inl rfl) Tryz.results75 rfl (i := 0) ?_ (.tmp (Has.t' rfl ?_) .nil)
    all_goals (rfl)
set_option maxHeartbeats 4000000 in
theorem nat_normalW {A k c : Nat} (hA : A ≠ 0) : CtrM Tryz.prog 92 (fun b0 => [isWin b0 0 ((List.length (words A))) c]) (cellM (List.map isU (words A ++ List.replicate k 0))) (cellM (List.map isU (words A ++ List.replicate k 0))) (fun b0 => isWin b0 0 ((List.length (words A))) c) := by
  refine CtrM.intro Tryz.func92 rfl (by kernel_rfl) Tryz.ntmps92 (fun _ => rfl) fun w0 F0 b0 => ?_
  refine Tri.cv (Cv.wk (.cons (t := 0) (Has.t rfl) .nil)) ?_
  refine Tri.fact (Has.lenLt (Has.t (t := 0) rfl)) fun lt0 => ?_
  refine Tri.fact (Has.winLe (Has.t (t := 0) rfl)) fun lw0 => ?_
  have nA := nw_pos hA
  refine Tri.seq fun K1 hK1 => ?_
  refine Tri.region ?_
  refine st (OK1.as (Has.cW (f := isU))) rfl ?_
  refine nl ?_
  refine At.thn (hK1 _ _ ?_); clear hK1
  refine Tri.seq fun K2 hK2 => ?_
  refine Tri.region ?_
  refine st (OK1.mv (Has.t rfl)) rfl ?_
  refine Ops.callM (nat_trimW hA) (i := 0) rfl (.cons (Has.t rfl) .nil) rfl (M' := [(_, _)]) rfl ?_
  refine st (OK1.as (Has.t rfl)) rfl ?_
  refine nl ?_
  refine At.thn (hK2 _ _ ?_); clear hK2
  refine Tri.seq fun K3 hK3 => ?_
  refine Tri.seq fun K4 hK4 => ?_
  refine Tri.region ?_
  refine st (OK1.mv (Has.t rfl)) rfl ?_
  refine st (OK1.len sl59 (Has.t rfl)) rfl ?_
  refine st (OK1.eqI (Has.t rfl) (Has.cI 0 rfl)) rfl ?_
  refine nl ?_
  refine At.thn (hK4 _ _ ?_); clear hK4
  refine Tri.cond (Has.t rfl) (fun hc1 => ?_) (fun hc1 => ?_)
  · have hc1 := BP.t hc1
    exfalso; first | omega | contradiction | (revert hc1; simp)
  · have hc1 := BP.f hc1
    refine Tri.skip ?_
    refine At.thn (hK3 _ _ ?_); clear hK3
    refine Tri.cv (Cv.wk (.cons (t := 0) (Has.t rfl) (.cons (t := 2) (Has.t rfl) .nil))) ?_
    refine Tri.seq fun K5 hK5 => ?_
    refine Tri.region ?_
    refine st (OK1.mv (Has.t rfl)) rfl ?_
    refine st (OK1.as (Has.t rfl)) rfl ?_
    refine nl ?_
    refine At.thn (hK5 _ _ ?_); clear hK5
    refine Tri.ret ?_
    refine rtM1 (.inl rfl) Tryz.results92 rfl (i := 0) ?_ (.tmp (Has.t' rfl ?_) .nil)
    all_goals (rfl)
set_option maxHeartbeats 4000000 in
theorem nat_NormO {xs : List Nat} (hx : (List.length (words (val xs))) ≤ 4294967296) : CtrO Tryz.prog 74 [isWords xs] isU 0 (words (val xs)) := by
  refine CtrO.intro Tryz.func74 rfl (by kernel_rfl) Tryz.ntmps74 rfl fun w0 F0 => ?_
  refine Tri.cv (Cv.wk (.cons (t := 0) (Has.t rfl) .nil)) ?_
  refine Tri.fact (Has.lenLt (Has.t (t := 0) rfl)) fun lt0 => ?_
  refine Tri.fact (Has.okW (Has.t (t := 0) rfl)) fun ok0 => ?_
  refine Tri.seq fun K1 hK1 => ?_
  refine Tri.region ?_
  refine st (OK1.as (Has.cW (f := isU))) rfl ?_
  refine nl ?_
  refine At.thn (hK1 _ _ ?_); clear hK1
  refine Tri.seq fun K2 hK2 => ?_
  refine Tri.region ?_
  refine st (OK1.mv (Has.t rfl)) rfl ?_
  refine st (OK1.call (nat_trim) (.cons (Has.t rfl) .nil)) rfl ?_
  refine Ops.callO (clone_NatO hx) (.cons (Has.t rfl) .nil) rfl (fun hO1 => ?_) (fun hO1 b1 cb1 jb1 => ?_)
  · skip
    refine st (OK1.call (nat_normal (xs := [])) (.cons (Has.t rfl) .nil)) rfl ?_
    refine st (OK1.as (Has.t rfl)) rfl ?_
    refine nl ?_
    refine At.thn (hK2 _ _ ?_); clear hK2
    refine Tri.cv (Cv.wk (.cons (t := 2) (Has.t rfl) .nil)) ?_
    refine Tri.ret ?_
    refine rtO0 (.inl rfl) Tryz.results74 rfl ?_ (.tmp (Has.t' rfl ?_) .nil)
    · exact hO1
    · exact SlM_eq words_zero
  · skip
    refine Ops.callM (nat_normalW (words_ne hO1)) (i := 0) rfl (.cons (Has.t rfl) .nil) rfl (M' := [(_, _)]) rfl ?_
    refine st (OK1.as (Has.t rfl)) rfl ?_
    refine nl ?_
    refine At.thn (hK2 _ _ ?_); clear hK2
    refine Tri.cv (Cv.wk (.cons (t := 2) (Has.t rfl) .nil)) ?_
    refine Tri.ret ?_
    refine rtO1 (.inl rfl) Tryz.results74 rfl ?_ (b := b1) (c := cb1) (k := jb1) (i := 0) ?_ (.tmp (Has.t' rfl ?_) .nil)
    · exact hO1
    · rfl
    · rfl
end Go.Proofs.YtkgipdidomikbaaGreat
/- Contracts: bits of words, words of quotients. -/
namespace Go.Proofs.YtkgipdidomikbaaGreat
open Go.En Go.RowKit
set_option linter.unusedVariables false
set_option maxRecDepth 10000
open Go.Nt
set_option maxHeartbeats 4000000 in
theorem bits_Len64 {x : Nat} : Ctr Tryz.prog 98 [isU x] (isI (bitLen x : Int)) := by
  refine Ctr.intro Tryz.func98 rfl (by kernel_rfl) Tryz.ntmps98 rfl fun w0 F0 => ?_
  refine Tri.cv (Cv.wk (.cons (t := 0) (Has.t rfl) .nil)) ?_
  refine Tri.fact (Has.ltU (Has.t (t := 0) rfl)) fun lt0 => ?_
  refine Tri.seq fun K1 hK1 => ?_
  refine Tri.region ?_
  refine st (OK1.as (Has.cI 0 rfl)) rfl ?_
  refine nl ?_
  refine At.thn (hK1 _ _ ?_); clear hK1
  refine Tri.cutF [] (fun (z : { z : Nat × Nat // bitLen x = z.2 + bitLen z.1 ∧ z.1 < 4294967296 ∧ z.2 ≤ 32 }) => match z with | ⟨(y, n), hI⟩ => [(0, isU y), (2, isI (n : Int))]) (fun M => fun (z : { z : Nat × Nat // bitLen x = z.2 + bitLen z.1 ∧ z.1 < 4294967296 ∧ z.2 ≤ 32 }) => match z with | ⟨(y, n), hI⟩ => M) (fun K2 hK2 => ?_) ?_
  · skip
    refine Tri.seq fun K3 hK3 => ?_
    refine Tri.region ?_
    refine st (OK1.mv (Has.t rfl)) rfl ?_
    refine st (OK1.geU (Has.t rfl) (Has.cU 4294967296 rfl)) rfl ?_
    refine nl ?_
    refine At.thn (hK3 _ _ ?_); clear hK3
    refine Tri.cond (Has.t rfl) (fun hc1 => ?_) (fun hc1 => ?_)
    · have hc1 := BP.t hc1
      refine Tri.seq fun K4 hK4 => ?_
      refine Tri.region ?_
      refine st (OK1.mv (Has.t rfl)) rfl ?_
      refine st (OK1.shrUU (Has.t rfl) (Has.cU 32 rfl) (by omega)) rfl ?_
      refine st (OK1.as (Has.t rfl)) rfl ?_
      refine nl ?_
      refine At.thn (hK4 _ _ ?_); clear hK4
      refine Tri.region ?_
      refine st (OK1.as (Has.cI 32 rfl)) rfl ?_
      refine nl ?_
      refine At.thn ?_
      refine hK2 (⟨(x / 2 ^ 32, 32), by have := bitLen_shift x 32 (by omega); exact this, by show x / 2 ^ 32 < _; omega, Nat.le_refl _⟩) _ _ (Cv.mem (.cons (t := 0) (Has.t' rfl ?_) (.cons (t := 2) (Has.t' rfl ?_) .nil)) ?_)
      · rfl
      · rfl
      · rfl
    · have hc1 := BP.f hc1
      refine Tri.skip ?_
      refine At.thn ?_
      refine hK2 (⟨(x, 0), (Nat.zero_add _).symm, by show x < _; omega, Nat.zero_le _⟩) _ _ (Cv.mem (.cons (t := 0) (Has.t' rfl ?_) (.cons (t := 2) (Has.t' rfl ?_) .nil)) ?_)
      · rfl
      · rfl
      · rfl
  rintro ⟨⟨y, n⟩, h1, h2, h3⟩
  refine Tri.cv (Cv.wk (.cons (t := 0) (Has.t rfl) (.cons (t := 2) (Has.t rfl) .nil))) ?_
  simp only [] at h1 h2 h3
  refine Tri.cutF [] (fun (z : { z : Nat × Nat // bitLen x = z.2 + bitLen z.1 ∧ z.1 < 65536 ∧ z.2 ≤ 48 }) => match z with | ⟨(y, n), hI⟩ => [(0, isU y), (2, isI (n : Int))]) (fun M => fun (z : { z : Nat × Nat // bitLen x = z.2 + bitLen z.1 ∧ z.1 < 65536 ∧ z.2 ≤ 48 }) => match z with | ⟨(y, n), hI⟩ => M) (fun K5 hK5 => ?_) ?_
  · skip
    refine Tri.seq fun K6 hK6 => ?_
    refine Tri.region ?_
    refine st (OK1.mv (Has.t rfl)) rfl ?_
    refine st (OK1.geU (Has.t rfl) (Has.cU 65536 rfl)) rfl ?_
    refine nl ?_
    refine At.thn (hK6 _ _ ?_); clear hK6
    refine Tri.cond (Has.t rfl) (fun hc2 => ?_) (fun hc2 => ?_)
    · have hc2 := BP.t hc2
      refine Tri.seq fun K7 hK7 => ?_
      refine Tri.region ?_
      refine st (OK1.mv (Has.t rfl)) rfl ?_
      refine st (OK1.shrUU (Has.t rfl) (Has.cU 16 rfl) (by omega)) rfl ?_
      refine st (OK1.as (Has.t rfl)) rfl ?_
      refine nl ?_
      refine At.thn (hK7 _ _ ?_); clear hK7
      refine Tri.region ?_
      refine st (OK1.mv (Has.t rfl)) rfl ?_
      refine st (OK1.addI (Has.t rfl) (Has.cI 16 rfl) (by omega) (by omega)) rfl ?_
      refine st (OK1.as (Has.t rfl)) rfl ?_
      refine nl ?_
      refine At.thn ?_
      refine hK5 (⟨(y / 2 ^ 16, n + 16), by have := bitLen_shift y 16 (by omega); show bitLen x = n + 16 + bitLen (y / 2 ^ 16); omega, by show y / 2 ^ 16 < _; omega, by show n + 16 ≤ _; omega⟩) _ _ (Cv.mem (.cons (t := 0) (Has.t' rfl ?_) (.cons (t := 2) (Has.t' rfl ?_) .nil)) ?_)
      · rfl
      · rfl
      · rfl
    · have hc2 := BP.f hc2
      refine Tri.skip ?_
      refine At.thn ?_
      refine hK5 (⟨(y, n), h1, by show y < _; omega, by show n ≤ _; omega⟩) _ _ (Cv.mem (.cons (t := 0) (Has.t' rfl ?_) (.cons (t := 2) (Has.t' rfl ?_) .nil)) ?_)
      · rfl
      · rfl
      · rfl
  rintro ⟨⟨y, n⟩, h1, h2, h3⟩
  refine Tri.cv (Cv.wk (.cons (t := 0) (Has.t rfl) (.cons (t := 2) (Has.t rfl) .nil))) ?_
  simp only [] at h1 h2 h3
  refine Tri.cutF [] (fun (z : { z : Nat × Nat // bitLen x = z.2 + bitLen z.1 ∧ z.1 < 256 ∧ z.2 ≤ 56 }) => match z with | ⟨(y, n), hI⟩ => [(0, isU y), (2, isI (n : Int))]) (fun M => fun (z : { z : Nat × Nat // bitLen x = z.2 + bitLen z.1 ∧ z.1 < 256 ∧ z.2 ≤ 56 }) => match z with | ⟨(y, n), hI⟩ => M) (fun K8 hK8 => ?_) ?_
  · skip
    refine Tri.seq fun K9 hK9 => ?_
    refine Tri.region ?_
    refine st (OK1.mv (Has.t rfl)) rfl ?_
    refine st (OK1.geU (Has.t rfl) (Has.cU 256 rfl)) rfl ?_
    refine nl ?_
    refine At.thn (hK9 _ _ ?_); clear hK9
    refine Tri.cond (Has.t rfl) (fun hc3 => ?_) (fun hc3 => ?_)
    · have hc3 := BP.t hc3
      refine Tri.seq fun K10 hK10 => ?_
      refine Tri.region ?_
      refine st (OK1.mv (Has.t rfl)) rfl ?_
      refine st (OK1.shrUU (Has.t rfl) (Has.cU 8 rfl) (by omega)) rfl ?_
      refine st (OK1.as (Has.t rfl)) rfl ?_
      refine nl ?_
      refine At.thn (hK10 _ _ ?_); clear hK10
      refine Tri.region ?_
      refine st (OK1.mv (Has.t rfl)) rfl ?_
      refine st (OK1.addI (Has.t rfl) (Has.cI 8 rfl) (by omega) (by omega)) rfl ?_
      refine st (OK1.as (Has.t rfl)) rfl ?_
      refine nl ?_
      refine At.thn ?_
      refine hK8 (⟨(y / 2 ^ 8, n + 8), by have := bitLen_shift y 8 (by omega); show bitLen x = n + 8 + bitLen (y / 2 ^ 8); omega, by show y / 2 ^ 8 < _; omega, by show n + 8 ≤ _; omega⟩) _ _ (Cv.mem (.cons (t := 0) (Has.t' rfl ?_) (.cons (t := 2) (Has.t' rfl ?_) .nil)) ?_)
      · rfl
      · rfl
      · rfl
    · have hc3 := BP.f hc3
      refine Tri.skip ?_
      refine At.thn ?_
      refine hK8 (⟨(y, n), h1, by show y < _; omega, by show n ≤ _; omega⟩) _ _ (Cv.mem (.cons (t := 0) (Has.t' rfl ?_) (.cons (t := 2) (Has.t' rfl ?_) .nil)) ?_)
      · rfl
      · rfl
      · rfl
  rintro ⟨⟨y, n⟩, h1, h2, h3⟩
  refine Tri.cv (Cv.wk (.cons (t := 0) (Has.t rfl) (.cons (t := 2) (Has.t rfl) .nil))) ?_
  simp only [] at h1 h2 h3
  have h8 := bitLen_le8 y h2
  have hy : Int.toNat (y : Int) = y := rfl
  refine Tri.seq fun K11 hK11 => ?_
  refine Tri.region ?_
  refine st (OK1.mv (Has.t rfl)) rfl ?_
  refine st (OK1.mv (Has.t rfl)) rfl ?_
  refine st (OK1.convUu8 un28 un5 (Has.t rfl) (by omega)) rfl ?_
  refine st (OK1.eq (OK1.idxStr un9 (Has.t rfl) (by omega) ⟨(show Int.toNat (y : Int) < 256 by omega), len8tab_get _ _⟩) ((show isK .u8 _ = isK .u8 ((bitLen y : Nat) : Int) from rfl))) rfl ?_
  refine st (OK1.convKI un5 un3 (Has.t rfl) (by omega) (by omega)) rfl ?_
  refine st (OK1.addI (Has.t rfl) (Has.t rfl) (by omega) (by omega)) rfl ?_
  refine st (OK1.as (Has.t rfl)) rfl ?_
  refine nl ?_
  refine At.thn (hK11 _ _ ?_); clear hK11
  refine Tri.cv (Cv.wk (.cons (t := 2) (Has.t rfl) .nil)) ?_
  refine Tri.ret ?_
  refine rt1 (.inl rfl) Tryz.results98 rfl (.tmp (Has.t' rfl ?_) .nil)
  all_goals (exact isI_eq (by omega))
set_option maxHeartbeats 4000000 in
theorem bits_LZ64 {x : Nat} : Ctr Tryz.prog 108 [isU x] (isI ((64 - bitLen x : Nat) : Int)) := by
  refine Ctr.intro Tryz.func108 rfl (by kernel_rfl) Tryz.ntmps108 rfl fun w0 F0 => ?_
  refine Tri.cv (Cv.wk (.cons (t := 0) (Has.t rfl) .nil)) ?_
  refine Tri.fact (Has.ltU (Has.t (t := 0) rfl)) fun lt0 => ?_
  have h64 := bitLen_le64 lt0
  refine Tri.seq fun K1 hK1 => ?_
  refine Tri.region ?_
  refine st (OK1.as (Has.cI 0 rfl)) rfl ?_
  refine nl ?_
  refine At.thn (hK1 _ _ ?_); clear hK1
  refine Tri.seq fun K2 hK2 => ?_
  refine Tri.region ?_
  refine st (OK1.mv (Has.t rfl)) rfl ?_
  refine st (OK1.call (bits_Len64) (.cons (Has.t rfl) .nil)) rfl ?_
  refine st (OK1.subI (Has.cI 64 rfl) (Has.t rfl) (by omega) (by omega)) rfl ?_
  refine st (OK1.as (Has.t rfl)) rfl ?_
  refine nl ?_
  refine At.thn (hK2 _ _ ?_); clear hK2
  refine Tri.ret ?_
  refine rt1 (.inl rfl) Tryz.results108 rfl (.tmp (Has.t' rfl ?_) .nil)
  all_goals (exact isI_eq (by omega))
set_option maxHeartbeats 4000000 in
theorem bits_Div64 {hi lo y : Nat} (h : hi < y) : Ctr Tryz.prog 115 [isU hi, isU lo, isU y] (isTup [isU ((hi * 18446744073709551616 + lo) / y), isU ((hi * 18446744073709551616 + lo) % y)]) := by
  refine Ctr.intro Tryz.func115 rfl (by kernel_rfl) Tryz.ntmps115 rfl fun w0 F0 => ?_
  refine Tri.cv (Cv.wk (.cons (t := 0) (Has.t rfl) (.cons (t := 1) (Has.t rfl) (.cons (t := 2) (Has.t rfl) .nil)))) ?_
  refine Tri.fact (Has.ltU (Has.t (t := 0) rfl)) fun lt0 => ?_
  refine Tri.fact (Has.ltU (Has.t (t := 1) rfl)) fun lt1 => ?_
  refine Tri.fact (Has.ltU (Has.t (t := 2) rfl)) fun lt2 => ?_
  obtain ⟨s, Y, A, U1, U0, v1, v0, hs, hY, D⟩ := d64 lt1 lt2 h
  have hs64 := D.ks
  have hYl := D.yl
  have hAl := D.al
  have hV1 := D.hv.a
  have hV1' := D.hv.b
  have hV0 := D.hv.c
  have hU1 := D.hv.f
  have hU0 := D.hv2.f
  have hR1 := D.r1
  have hR0 := D.r0
  have hQ1 := D.q1
  have hQ0 := D.q0
  have dv := Nat.div_mul_le_self A v1
  have dv2 := Nat.div_mul_le_self ((A * 4294967296 + U1) % Y) v1
  refine Tri.seq fun K1 hK1 => ?_
  refine Tri.region ?_
  refine st (OK1.as (Has.cU 0 rfl)) rfl ?_
  refine st (OK1.as (Has.cU 0 rfl)) rfl ?_
  refine nl ?_
  refine At.thn (hK1 _ _ ?_); clear hK1
  refine Tri.seq fun K2 hK2 => ?_
  refine Tri.seq fun K3 hK3 => ?_
  refine Tri.region ?_
  refine st (OK1.mv (Has.t rfl)) rfl ?_
  refine st (OK1.eqU (Has.t rfl) (Has.cU 0 rfl)) rfl ?_
  refine nl ?_
  refine At.thn (hK3 _ _ ?_); clear hK3
  refine Tri.cond (Has.t rfl) (fun hc1 => ?_) (fun hc1 => ?_)
  · have hc1 := BP.t hc1
    exfalso; first | omega | contradiction | (revert hc1; simp)
  · have hc1 := BP.f hc1
    refine Tri.skip ?_
    refine At.thn (hK2 _ _ ?_); clear hK2
    refine Tri.seq fun K4 hK4 => ?_
    refine Tri.seq fun K5 hK5 => ?_
    refine Tri.region ?_
    refine st (OK1.mv (Has.t rfl)) rfl ?_
    refine st (OK1.mv (Has.t rfl)) rfl ?_
    refine st (OK1.leU (Has.t rfl) (Has.t rfl)) rfl ?_
    refine nl ?_
    refine At.thn (hK5 _ _ ?_); clear hK5
    refine Tri.cond (Has.t rfl) (fun hc2 => ?_) (fun hc2 => ?_)
    · have hc2 := BP.t hc2
      exfalso; first | omega | contradiction | (revert hc2; simp)
    · have hc2 := BP.f hc2
      refine Tri.skip ?_
      refine At.thn (hK4 _ _ ?_); clear hK4
      refine Tri.cv (Cv.wk (.cons (t := 0) (Has.t rfl) (.cons (t := 1) (Has.t rfl) (.cons (t := 2) (Has.t rfl) (.cons (t := 6) (Has.t rfl) (.cons (t := 7) (Has.t rfl) .nil)))))) ?_
      refine Tri.seq fun K6 hK6 => ?_
      refine Tri.seq fun K7 hK7 => ?_
      refine Tri.region ?_
      refine st (OK1.mv (Has.t rfl)) rfl ?_
      refine st (OK1.eqU (Has.t rfl) (Has.cU 0 rfl)) rfl ?_
      refine nl ?_
      refine At.thn (hK7 _ _ ?_); clear hK7
      refine Tri.cond (Has.t rfl) (fun hc3 => ?_) (fun hc3 => ?_)
      · have hc3 := BP.t hc3
        refine Tri.seq fun K8 hK8 => ?_
        refine Tri.cv (Cv.wk (.cons (t := 0) (Has.t rfl) (.cons (t := 1) (Has.t rfl) (.cons (t := 2) (Has.t rfl) (.cons (t := 7) (Has.t rfl) (.cons (t := 26) (Has.t rfl) (.cons (t := 27) (Has.t rfl) .nil))))))) ?_
        refine Tri.dr ?_
        refine DrG.st (i := 0) [] rfl rfl rfl (by kernel_rfl) (OKG.o rfl (OK1.mv (Has.t rfl))) ?_
        refine DrG.st (i := 1) [] rfl rfl rfl (by kernel_rfl) (OKG.o rfl (OK1.mv (Has.t rfl))) ?_
        refine DrG.st (i := 2) [28, 29] rfl rfl rfl (by kernel_rfl) (OKG.o rfl (OK1.quoU (Has.t rfl) (Has.t rfl) (by with_reducible assumption) (by with_reducible assumption))) ?_
        refine DrG.st (i := 3) [] rfl rfl rfl (by kernel_rfl) (OKG.o rfl (OK1.mv (Has.t rfl))) ?_
        refine DrG.st (i := 4) [] rfl rfl rfl (by kernel_rfl) (OKG.o rfl (OK1.mv (Has.t rfl))) ?_
        refine DrG.st (i := 5) [31, 32] rfl rfl rfl (by kernel_rfl) (OKG.o rfl (OK1.remU (Has.t rfl) (Has.t rfl) (by with_reducible assumption) (by with_reducible assumption))) ?_
        refine DrG.st (i := 6) [30] rfl rfl rfl (by kernel_rfl) (OKG.o rfl (OK1.as (Has.t rfl))) ?_
        refine DrG.fin (n := 7) mixed (by kernel_rfl) (by kernel_rfl) (by kernel_rfl) ?_
        refine Ops.cv (Cv.wk (.cons (t := 0) (Has.t rfl) (.cons (t := 1) (Has.t rfl) (.cons (t := 2) (Has.t rfl) (.cons (t := 7) (Has.t rfl) (.cons (t := 33) (Has.t rfl) (.cons (t := 6) (Has.t rfl) .nil))))))) ?_
        refine st (OK1.as (Has.t rfl)) rfl ?_
        refine nl ?_
        refine At.thn (hK8 _ _ ?_); clear hK8
        refine Tri.ret ?_
        refine At.thr ?_
        refine rtN (.inl rfl) Tryz.results115 rfl rfl (.tmp (Has.t' rfl ?_) (.tmp (Has.t' rfl ?_) .nil))
        · exact isU_eq (by rw [hc3, Nat.zero_mul, Nat.zero_add])
        · exact isU_eq (by rw [hc3, Nat.zero_mul, Nat.zero_add])
      · have hc3 := BP.f hc3
        refine Tri.skip ?_
        refine At.thn (hK6 _ _ ?_); clear hK6
        refine Tri.seq fun K9 hK9 => ?_
        refine Tri.region ?_
        refine st (OK1.mv (Has.t rfl)) rfl ?_
        refine st (OK1.call (bits_LZ64) (.cons (Has.t rfl) .nil)) rfl ?_
        refine st (OK1.eq (OK1.convIU un3 un131 (Has.t rfl) (by omega) (by omega)) ((show isU _ = isU s from isU_eq (by omega)))) rfl ?_
        refine st (OK1.as (Has.t rfl)) rfl ?_
        refine nl ?_
        refine At.thn (hK9 _ _ ?_); clear hK9
        refine Tri.cv (Cv.wk (.cons (t := 0) (Has.t rfl) (.cons (t := 1) (Has.t rfl) (.cons (t := 2) (Has.t rfl) (.cons (t := 6) (Has.t rfl) (.cons (t := 7) (Has.t rfl) (.cons (t := 8) (Has.t rfl) .nil))))))) ?_
        refine Tri.seq fun K10 hK10 => ?_
        refine Tri.region ?_
        refine st (OK1.mv (Has.t rfl)) rfl ?_
        refine st (OK1.mv (Has.t rfl)) rfl ?_
        refine st (OK1.eq (OK1.shlUU (Has.t rfl) (Has.t rfl) (by with_reducible exact True.intro)) ((show isU _ = isU Y from isU_eq (by rw [← hY]; exact Nat.mod_eq_of_lt D.yl)))) rfl ?_
        refine st (OK1.as (Has.t rfl)) rfl ?_
        refine nl ?_
        refine At.thn (hK10 _ _ ?_); clear hK10
        refine Tri.seq fun K11 hK11 => ?_
        refine Tri.region ?_
        refine st (OK1.mv (Has.t rfl)) rfl ?_
        refine st (OK1.eq (OK1.shrUU (Has.t rfl) (Has.cU 32 rfl) (by with_reducible assumption)) ((show isU _ = isU v1 from isU_eq (by have := D.kv1; omega)))) rfl ?_
        refine st (OK1.as (Has.t rfl)) rfl ?_
        refine nl ?_
        refine At.thn (hK11 _ _ ?_); clear hK11
        refine Tri.cv (Cv.wk (.cons (t := 0) (Has.t rfl) (.cons (t := 1) (Has.t rfl) (.cons (t := 2) (Has.t rfl) (.cons (t := 6) (Has.t rfl) (.cons (t := 7) (Has.t rfl) (.cons (t := 8) (Has.t rfl) (.cons (t := 9) (Has.t rfl) .nil)))))))) ?_
        refine Tri.seq fun K12 hK12 => ?_
        refine Tri.region ?_
        refine st (OK1.mv (Has.t rfl)) rfl ?_
        refine st (OK1.eq (OK1.andU (Has.t rfl) (Has.cU 4294967295 rfl)) ((show isU _ = isU v0 from isU_eq ((Nat.and_two_pow_sub_one_eq_mod _ 32).trans (by have := D.kv0; omega))))) rfl ?_
        refine st (OK1.as (Has.t rfl)) rfl ?_
        refine nl ?_
        refine At.thn (hK12 _ _ ?_); clear hK12
        refine Tri.seq fun K13 hK13 => ?_
        refine Tri.region ?_
        refine st (OK1.mv (Has.t rfl)) rfl ?_
        refine st (OK1.mv (Has.t rfl)) rfl ?_
        refine st (OK1.shlUU (Has.t rfl) (Has.t rfl) (by with_reducible exact True.intro)) rfl ?_
        refine st (OK1.mv (Has.t rfl)) rfl ?_
        refine st (OK1.mv (Has.t rfl)) rfl ?_
        refine st (OK1.subU' (Has.cU 64 rfl) (Has.t rfl) (by with_reducible assumption) (by omega)) rfl ?_
        refine st (OK1.shrUU (Has.t rfl) (Has.t rfl) (by with_reducible assumption)) rfl ?_
        refine st (OK1.eq (OK1.orU (Has.t rfl) (Has.t rfl)) ((show isU _ = isU A from isU_eq D.un32))) rfl ?_
        refine st (OK1.as (Has.t rfl)) rfl ?_
        refine nl ?_
        refine At.thn (hK13 _ _ ?_); clear hK13
        refine Tri.cv (Cv.wk (.cons (t := 1) (Has.t rfl) (.cons (t := 2) (Has.t rfl) (.cons (t := 6) (Has.t rfl) (.cons (t := 7) (Has.t rfl) (.cons (t := 8) (Has.t rfl) (.cons (t := 9) (Has.t rfl) (.cons (t := 10) (Has.t rfl) (.cons (t := 11) (Has.t rfl) .nil))))))))) ?_
        refine Tri.seq fun K14 hK14 => ?_
        refine Tri.region ?_
        refine st (OK1.mv (Has.t rfl)) rfl ?_
        refine st (OK1.mv (Has.t rfl)) rfl ?_
        refine st (OK1.shlUU (Has.t rfl) (Has.t rfl) (by with_reducible exact True.intro)) rfl ?_
        refine st (OK1.as (Has.t rfl)) rfl ?_
        refine nl ?_
        refine At.thn (hK14 _ _ ?_); clear hK14
        refine Tri.seq fun K15 hK15 => ?_
        refine Tri.region ?_
        refine st (OK1.mv (Has.t rfl)) rfl ?_
        refine st (OK1.eq (OK1.shrUU (Has.t rfl) (Has.cU 32 rfl) (by omega)) ((show isU _ = isU U1 from isU_eq (by have := D.u1; omega)))) rfl ?_
        refine st (OK1.as (Has.t rfl)) rfl ?_
        refine nl ?_
        refine At.thn (hK15 _ _ ?_); clear hK15
        refine Tri.cv (Cv.wk (.cons (t := 2) (Has.t rfl) (.cons (t := 6) (Has.t rfl) (.cons (t := 7) (Has.t rfl) (.cons (t := 8) (Has.t rfl) (.cons (t := 9) (Has.t rfl) (.cons (t := 10) (Has.t rfl) (.cons (t := 11) (Has.t rfl) (.cons (t := 12) (Has.t rfl) (.cons (t := 13) (Has.t rfl) .nil)))))))))) ?_
        refine Tri.seq fun K16 hK16 => ?_
        refine Tri.region ?_
        refine st (OK1.mv (Has.t rfl)) rfl ?_
        refine st (OK1.eq (OK1.andU (Has.t rfl) (Has.cU 4294967295 rfl)) ((show isU _ = isU U0 from isU_eq ((Nat.and_two_pow_sub_one_eq_mod _ 32).trans (by have := D.u0; omega))))) rfl ?_
        refine st (OK1.as (Has.t rfl)) rfl ?_
        refine nl ?_
        refine At.thn (hK16 _ _ ?_); clear hK16
        refine Tri.seq fun K17 hK17 => ?_
        refine Tri.region ?_
        refine st (OK1.mv (Has.t rfl)) rfl ?_
        refine st (OK1.mv (Has.t rfl)) rfl ?_
        refine st (OK1.quoU (Has.t rfl) (Has.t rfl) (by omega) (by with_reducible assumption)) rfl ?_
        refine st (OK1.as (Has.t rfl)) rfl ?_
        refine nl ?_
        refine At.thn (hK17 _ _ ?_); clear hK17
        refine Tri.cv (Cv.wk (.cons (t := 2) (Has.t rfl) (.cons (t := 6) (Has.t rfl) (.cons (t := 7) (Has.t rfl) (.cons (t := 8) (Has.t rfl) (.cons (t := 9) (Has.t rfl) (.cons (t := 10) (Has.t rfl) (.cons (t := 11) (Has.t rfl) (.cons (t := 13) (Has.t rfl) (.cons (t := 14) (Has.t rfl) (.cons (t := 15) (Has.t rfl) .nil))))))))))) ?_
        refine Tri.seq fun K18 hK18 => ?_
        refine Tri.region ?_
        refine st (OK1.mv (Has.t rfl)) rfl ?_
        refine st (OK1.mv (Has.t rfl)) rfl ?_
        refine st (OK1.mv (Has.t rfl)) rfl ?_
        refine st (OK1.mulU' (Has.t rfl) (Has.t rfl) (by omega)) rfl ?_
        refine st (OK1.subU' (Has.t rfl) (Has.t rfl) (by with_reducible assumption) (by with_reducible assumption)) rfl ?_
        refine st (OK1.as (Has.t rfl)) rfl ?_
        refine nl ?_
        refine At.thn (hK18 _ _ ?_); clear hK18
        refine Tri.cv (Cv.wk (.cons (t := 2) (Has.t rfl) (.cons (t := 6) (Has.t rfl) (.cons (t := 7) (Has.t rfl) (.cons (t := 8) (Has.t rfl) (.cons (t := 9) (Has.t rfl) (.cons (t := 10) (Has.t rfl) (.cons (t := 11) (Has.t rfl) (.cons (t := 13) (Has.t rfl) (.cons (t := 14) (Has.t rfl) (.cons (t := 15) (Has.t rfl) (.cons (t := 16) (Has.t rfl) .nil)))))))))))) ?_
        refine Tri.cutF [2, 6, 7, 8, 9, 10, 11, 13, 14] (fun (_ : Unit) => [(15, isU ((A * 4294967296 + U1) / Y))]) (fun M => fun (_ : Unit) => M) (fun K19 hK19 => ?_) ?_
        · skip
          refine Tri.block ?_
          refine Tri.loopF [2, 6, 7, 8, 9, 10, 11, 13, 14] (fun (z : { z : Nat × Nat // Gs A U1 v1 v0 z.1 z.2 }) => match z with | ⟨(q, r), hI⟩ => [(15, isU q), (16, isU r)]) (fun M => fun (z : { z : Nat × Nat // Gs A U1 v1 v0 z.1 z.2 }) => match z with | ⟨(q, r), hI⟩ => M) (fun (z : { z : Nat × Nat // Gs A U1 v1 v0 z.1 z.2 }) => match z with | ⟨(q, r), hI⟩ => q) (⟨(A / v1, A - A / v1 * v1), Gs.start D.hv⟩) (Cv.mem (.cons (t := 15) (Has.t' rfl ?_) (.cons (t := 16) (Has.t' rfl ?_) (.cons (t := 2) (Has.t rfl) (.cons (t := 6) (Has.t rfl) (.cons (t := 7) (Has.t rfl) (.cons (t := 8) (Has.t rfl) (.cons (t := 9) (Has.t rfl) (.cons (t := 10) (Has.t rfl) (.cons (t := 11) (Has.t rfl) (.cons (t := 13) (Has.t rfl) (.cons (t := 14) (Has.t rfl) .nil))))))))))) ?_) ?_
          · rfl
          · rfl
          · rfl
          rintro ⟨⟨q, r⟩, g⟩ K20 hK20
          refine Tri.cv (Cv.wk (.cons (t := 15) (Has.t rfl) (.cons (t := 16) (Has.t rfl) (.cons (t := 2) (Has.t rfl) (.cons (t := 6) (Has.t rfl) (.cons (t := 7) (Has.t rfl) (.cons (t := 8) (Has.t rfl) (.cons (t := 9) (Has.t rfl) (.cons (t := 10) (Has.t rfl) (.cons (t := 11) (Has.t rfl) (.cons (t := 13) (Has.t rfl) (.cons (t := 14) (Has.t rfl) .nil)))))))))))) ?_
          simp only [] at g
          have gq := g.q
          have gr := g.r
          have hv0 := D.hv.c
          have hv1 := D.hv.b
          have hu1 := D.hv.f
          refine Tri.seq fun K21 hK21 => ?_
          refine Tri.seq fun K22 hK22 => ?_
          refine Tri.region ?_
          refine st (OK1.mv (Has.t rfl)) rfl ?_
          refine st (OK1.geU (Has.t rfl) (Has.cU 4294967296 rfl)) rfl ?_
          refine st (OK1.mv (Has.t rfl)) rfl ?_
          refine stF rfl rfl (fun hg => have hg' := BP.t hg; OK1.mv (Has.t rfl)) rfl ?_
          refine stF rfl rfl (fun hg => have hg' := BP.t hg; OK1.mv (Has.t rfl)) rfl ?_
          refine stF rfl rfl (fun hg => have hg' := BP.t hg; OK1.mulU' (Has.g rfl hg) (Has.g rfl hg) (by exact mul_bb (by omega) (by omega))) rfl ?_
          refine stF rfl rfl (fun hg => have hg' := BP.t hg; OK1.mv (Has.t rfl)) rfl ?_
          refine stF rfl rfl (fun hg => have hg' := BP.t hg; OK1.mulU' (Has.cU 4294967296 rfl) (Has.g rfl hg) (by omega)) rfl ?_
          refine stF rfl rfl (fun hg => have hg' := BP.t hg; OK1.mv (Has.t rfl)) rfl ?_
          refine stF rfl rfl (fun hg => have hg' := BP.t hg; OK1.addU' (Has.g rfl hg) (Has.g rfl hg) (by omega)) rfl ?_
          refine stF rfl rfl (fun hg => have hg' := BP.t hg; OK1.gtU (Has.g rfl hg) (Has.g rfl hg)) rfl ?_
          refine st (OK1.pickOr (Has.t rfl) (fun h => Has.g rfl (ng h))) rfl ?_
          refine nl ?_
          refine At.thn (hK22 _ _ ?_); clear hK22
          refine Tri.cond (Has.t rfl) (fun hc4 => ?_) (fun hc4 => ?_)
          · have hc4 := BP.t hc4
            have hn := Gs.next D.hv g hc4
            refine Tri.skip ?_
            refine At.thn (hK21 _ _ ?_); clear hK21
            refine Tri.block ?_
            refine Tri.seq fun K23 hK23 => ?_
            refine Tri.region ?_
            refine st (OK1.mv (Has.t rfl)) rfl ?_
            refine st (OK1.subU' (Has.t rfl) (Has.cU 1 rfl) (by omega) (by omega)) rfl ?_
            refine st (OK1.as (Has.t rfl)) rfl ?_
            refine nl ?_
            refine At.thn (hK23 _ _ ?_); clear hK23
            refine Tri.seq fun K24 hK24 => ?_
            refine Tri.region ?_
            refine st (OK1.mv (Has.t rfl)) rfl ?_
            refine st (OK1.mv (Has.t rfl)) rfl ?_
            refine st (OK1.addU' (Has.t rfl) (Has.t rfl) (by omega)) rfl ?_
            refine st (OK1.as (Has.t rfl)) rfl ?_
            refine nl ?_
            refine At.thn (hK24 _ _ ?_); clear hK24
            refine Tri.seq fun K25 hK25 => ?_
            refine Tri.region ?_
            refine st (OK1.mv (Has.t rfl)) rfl ?_
            refine st (OK1.geU (Has.t rfl) (Has.cU 4294967296 rfl)) rfl ?_
            refine nl ?_
            refine At.thn (hK25 _ _ ?_); clear hK25
            refine Tri.cond (Has.t rfl) (fun hc5 => ?_) (fun hc5 => ?_)
            · have hc5 := BP.t hc5
              refine Tri.exit ?_
              refine At.blm rfl ?_
              refine At.the ?_
              refine At.blh ?_
              refine At.thn ?_
              refine hK19 (()) _ _ (Cv.mem (.cons (t := 15) (Has.t' rfl ?_) (.cons (t := 2) (Has.t rfl) (.cons (t := 6) (Has.t rfl) (.cons (t := 7) (Has.t rfl) (.cons (t := 8) (Has.t rfl) (.cons (t := 9) (Has.t rfl) (.cons (t := 10) (Has.t rfl) (.cons (t := 11) (Has.t rfl) (.cons (t := 13) (Has.t rfl) (.cons (t := 14) (Has.t rfl) .nil)))))))))) ?_)
              · exact isU_eq ((Gs.exit2 D.hv hn.1 hn.2.1 hn.2.2.1 (by omega)).trans (by rw [D.kY]))
              · rfl
            · have hc5 := BP.f hc5
              refine Tri.skip ?_
              refine At.bln ?_
              refine At.thn ?_
              refine hK20 (⟨(q - 1, r + v1), hn.1, hn.2.1, by show q - 1 ≤ _; omega, by show r + v1 < _; omega⟩) _ _ ?_ (Cv.mem (.cons (t := 15) (Has.t' rfl ?_) (.cons (t := 16) (Has.t' rfl ?_) (.cons (t := 2) (Has.t rfl) (.cons (t := 6) (Has.t rfl) (.cons (t := 7) (Has.t rfl) (.cons (t := 8) (Has.t rfl) (.cons (t := 9) (Has.t rfl) (.cons (t := 10) (Has.t rfl) (.cons (t := 11) (Has.t rfl) (.cons (t := 13) (Has.t rfl) (.cons (t := 14) (Has.t rfl) .nil))))))))))) ?_)
              · show q - 1 < q; omega
              · rfl
              · rfl
              · rfl
          · have hc4 := BP.f hc4
            refine Tri.exit ?_
            refine At.the ?_
            refine At.the ?_
            refine At.blh ?_
            refine At.thn ?_
            refine hK19 (()) _ _ (Cv.mem (.cons (t := 15) (Has.t' rfl ?_) (.cons (t := 2) (Has.t rfl) (.cons (t := 6) (Has.t rfl) (.cons (t := 7) (Has.t rfl) (.cons (t := 8) (Has.t rfl) (.cons (t := 9) (Has.t rfl) (.cons (t := 10) (Has.t rfl) (.cons (t := 11) (Has.t rfl) (.cons (t := 13) (Has.t rfl) (.cons (t := 14) (Has.t rfl) .nil)))))))))) ?_)
            · exact isU_eq ((Gs.exit D.hv g (by omega)).trans (by rw [D.kY]))
            · rfl
        rintro _
        refine Tri.cv (Cv.wk (.cons (t := 15) (Has.t rfl) (.cons (t := 2) (Has.t rfl) (.cons (t := 6) (Has.t rfl) (.cons (t := 7) (Has.t rfl) (.cons (t := 8) (Has.t rfl) (.cons (t := 9) (Has.t rfl) (.cons (t := 10) (Has.t rfl) (.cons (t := 11) (Has.t rfl) (.cons (t := 13) (Has.t rfl) (.cons (t := 14) (Has.t rfl) .nil))))))))))) ?_
        refine Tri.seq fun K26 hK26 => ?_
        refine Tri.region ?_
        refine st (OK1.mv (Has.t rfl)) rfl ?_
        refine st (OK1.mulU (Has.t rfl) (Has.cU 4294967296 rfl)) rfl ?_
        refine st (OK1.mv (Has.t rfl)) rfl ?_
        refine st (OK1.addU (Has.t rfl) (Has.t rfl)) rfl ?_
        refine st (OK1.mv (Has.t rfl)) rfl ?_
        refine st (OK1.mv (Has.t rfl)) rfl ?_
        refine st (OK1.mulU (Has.t rfl) (Has.t rfl)) rfl ?_
        refine st (OK1.eq (OK1.subU (Has.t rfl) (Has.t rfl) (by omega)) ((show isU _ = isU ((A * 4294967296 + U1) % Y) from isU_eq (wrapSub (divMul _ _) hR1 hU1)))) rfl ?_
        refine st (OK1.as (Has.t rfl)) rfl ?_
        refine nl ?_
        refine At.thn (hK26 _ _ ?_); clear hK26
        refine Tri.cv (Cv.wk (.cons (t := 2) (Has.t rfl) (.cons (t := 6) (Has.t rfl) (.cons (t := 7) (Has.t rfl) (.cons (t := 8) (Has.t rfl) (.cons (t := 9) (Has.t rfl) (.cons (t := 10) (Has.t rfl) (.cons (t := 14) (Has.t rfl) (.cons (t := 15) (Has.t rfl) (.cons (t := 17) (Has.t rfl) .nil)))))))))) ?_
        refine Tri.seq fun K27 hK27 => ?_
        refine Tri.region ?_
        refine st (OK1.mv (Has.t rfl)) rfl ?_
        refine st (OK1.mv (Has.t rfl)) rfl ?_
        refine st (OK1.quoU (Has.t rfl) (Has.t rfl) (by omega) (by with_reducible assumption)) rfl ?_
        refine st (OK1.as (Has.t rfl)) rfl ?_
        refine nl ?_
        refine At.thn (hK27 _ _ ?_); clear hK27
        refine Tri.seq fun K28 hK28 => ?_
        refine Tri.region ?_
        refine st (OK1.mv (Has.t rfl)) rfl ?_
        refine st (OK1.mv (Has.t rfl)) rfl ?_
        refine st (OK1.mv (Has.t rfl)) rfl ?_
        refine st (OK1.mulU' (Has.t rfl) (Has.t rfl) (by with_reducible exact Nat.lt_of_le_of_lt (Nat.div_mul_le_self _ _) hR1)) rfl ?_
        refine st (OK1.subU' (Has.t rfl) (Has.t rfl) (by with_reducible assumption) (by with_reducible assumption)) rfl ?_
        refine st (OK1.as (Has.t rfl)) rfl ?_
        refine nl ?_
        refine At.thn (hK28 _ _ ?_); clear hK28
        refine Tri.cv (Cv.wk (.cons (t := 2) (Has.t rfl) (.cons (t := 6) (Has.t rfl) (.cons (t := 7) (Has.t rfl) (.cons (t := 8) (Has.t rfl) (.cons (t := 9) (Has.t rfl) (.cons (t := 10) (Has.t rfl) (.cons (t := 14) (Has.t rfl) (.cons (t := 15) (Has.t rfl) (.cons (t := 17) (Has.t rfl) (.cons (t := 18) (Has.t rfl) (.cons (t := 16) (Has.t rfl) .nil)))))))))))) ?_
        refine Tri.cutF [2, 6, 7, 8, 14, 15, 17] (fun (_ : Unit) => [(18, isU ((((A * 4294967296 + U1) % Y) * 4294967296 + U0) / Y))]) (fun M => fun (_ : Unit) => M) (fun K29 hK29 => ?_) ?_
        · skip
          refine Tri.block ?_
          refine Tri.loopF [2, 6, 7, 8, 9, 10, 14, 15, 17] (fun (z : { z : Nat × Nat // Gs ((A * 4294967296 + U1) % Y) U0 v1 v0 z.1 z.2 }) => match z with | ⟨(q, r), hI⟩ => [(18, isU q), (16, isU r)]) (fun M => fun (z : { z : Nat × Nat // Gs ((A * 4294967296 + U1) % Y) U0 v1 v0 z.1 z.2 }) => match z with | ⟨(q, r), hI⟩ => M) (fun (z : { z : Nat × Nat // Gs ((A * 4294967296 + U1) % Y) U0 v1 v0 z.1 z.2 }) => match z with | ⟨(q, r), hI⟩ => q) (⟨(((A * 4294967296 + U1) % Y) / v1, ((A * 4294967296 + U1) % Y) - ((A * 4294967296 + U1) % Y) / v1 * v1), Gs.start D.hv2⟩) (Cv.mem (.cons (t := 18) (Has.t' rfl ?_) (.cons (t := 16) (Has.t' rfl ?_) (.cons (t := 2) (Has.t rfl) (.cons (t := 6) (Has.t rfl) (.cons (t := 7) (Has.t rfl) (.cons (t := 8) (Has.t rfl) (.cons (t := 9) (Has.t rfl) (.cons (t := 10) (Has.t rfl) (.cons (t := 14) (Has.t rfl) (.cons (t := 15) (Has.t rfl) (.cons (t := 17) (Has.t rfl) .nil))))))))))) ?_) ?_
          · rfl
          · rfl
          · rfl
          rintro ⟨⟨q, r⟩, g⟩ K30 hK30
          refine Tri.cv (Cv.wk (.cons (t := 18) (Has.t rfl) (.cons (t := 16) (Has.t rfl) (.cons (t := 2) (Has.t rfl) (.cons (t := 6) (Has.t rfl) (.cons (t := 7) (Has.t rfl) (.cons (t := 8) (Has.t rfl) (.cons (t := 9) (Has.t rfl) (.cons (t := 10) (Has.t rfl) (.cons (t := 14) (Has.t rfl) (.cons (t := 15) (Has.t rfl) (.cons (t := 17) (Has.t rfl) .nil)))))))))))) ?_
          simp only [] at g
          have gq := g.q
          have gr := g.r
          have hv0 := D.hv2.c
          have hv1 := D.hv2.b
          have hu1 := D.hv2.f
          refine Tri.seq fun K31 hK31 => ?_
          refine Tri.seq fun K32 hK32 => ?_
          refine Tri.region ?_
          refine st (OK1.mv (Has.t rfl)) rfl ?_
          refine st (OK1.geU (Has.t rfl) (Has.cU 4294967296 rfl)) rfl ?_
          refine st (OK1.mv (Has.t rfl)) rfl ?_
          refine stF rfl rfl (fun hg => have hg' := BP.t hg; OK1.mv (Has.t rfl)) rfl ?_
          refine stF rfl rfl (fun hg => have hg' := BP.t hg; OK1.mv (Has.t rfl)) rfl ?_
          refine stF rfl rfl (fun hg => have hg' := BP.t hg; OK1.mulU' (Has.g rfl hg) (Has.g rfl hg) (by exact mul_bb (by omega) (by omega))) rfl ?_
          refine stF rfl rfl (fun hg => have hg' := BP.t hg; OK1.mv (Has.t rfl)) rfl ?_
          refine stF rfl rfl (fun hg => have hg' := BP.t hg; OK1.mulU' (Has.cU 4294967296 rfl) (Has.g rfl hg) (by omega)) rfl ?_
          refine stF rfl rfl (fun hg => have hg' := BP.t hg; OK1.mv (Has.t rfl)) rfl ?_
          refine stF rfl rfl (fun hg => have hg' := BP.t hg; OK1.addU' (Has.g rfl hg) (Has.g rfl hg) (by omega)) rfl ?_
          refine stF rfl rfl (fun hg => have hg' := BP.t hg; OK1.gtU (Has.g rfl hg) (Has.g rfl hg)) rfl ?_
          refine st (OK1.pickOr (Has.t rfl) (fun h => Has.g rfl (ng h))) rfl ?_
          refine nl ?_
          refine At.thn (hK32 _ _ ?_); clear hK32
          refine Tri.cond (Has.t rfl) (fun hc6 => ?_) (fun hc6 => ?_)
          · have hc6 := BP.t hc6
            have hn := Gs.next D.hv2 g hc6
            refine Tri.skip ?_
            refine At.thn (hK31 _ _ ?_); clear hK31
            refine Tri.block ?_
            refine Tri.seq fun K33 hK33 => ?_
            refine Tri.region ?_
            refine st (OK1.mv (Has.t rfl)) rfl ?_
            refine st (OK1.subU' (Has.t rfl) (Has.cU 1 rfl) (by omega) (by omega)) rfl ?_
            refine st (OK1.as (Has.t rfl)) rfl ?_
            refine nl ?_
            refine At.thn (hK33 _ _ ?_); clear hK33
            refine Tri.seq fun K34 hK34 => ?_
            refine Tri.region ?_
            refine st (OK1.mv (Has.t rfl)) rfl ?_
            refine st (OK1.mv (Has.t rfl)) rfl ?_
            refine st (OK1.addU' (Has.t rfl) (Has.t rfl) (by omega)) rfl ?_
            refine st (OK1.as (Has.t rfl)) rfl ?_
            refine nl ?_
            refine At.thn (hK34 _ _ ?_); clear hK34
            refine Tri.seq fun K35 hK35 => ?_
            refine Tri.region ?_
            refine st (OK1.mv (Has.t rfl)) rfl ?_
            refine st (OK1.geU (Has.t rfl) (Has.cU 4294967296 rfl)) rfl ?_
            refine nl ?_
            refine At.thn (hK35 _ _ ?_); clear hK35
            refine Tri.cond (Has.t rfl) (fun hc7 => ?_) (fun hc7 => ?_)
            · have hc7 := BP.t hc7
              refine Tri.exit ?_
              refine At.blm rfl ?_
              refine At.the ?_
              refine At.blh ?_
              refine At.thn ?_
              refine hK29 (()) _ _ (Cv.mem (.cons (t := 18) (Has.t' rfl ?_) (.cons (t := 2) (Has.t rfl) (.cons (t := 6) (Has.t rfl) (.cons (t := 7) (Has.t rfl) (.cons (t := 8) (Has.t rfl) (.cons (t := 14) (Has.t rfl) (.cons (t := 15) (Has.t rfl) (.cons (t := 17) (Has.t rfl) .nil)))))))) ?_)
              · exact isU_eq ((Gs.exit2 D.hv2 hn.1 hn.2.1 hn.2.2.1 (by omega)).trans (by rw [D.kY]))
              · rfl
            · have hc7 := BP.f hc7
              refine Tri.skip ?_
              refine At.bln ?_
              refine At.thn ?_
              refine hK30 (⟨(q - 1, r + v1), hn.1, hn.2.1, by show q - 1 ≤ _; omega, by show r + v1 < _; omega⟩) _ _ ?_ (Cv.mem (.cons (t := 18) (Has.t' rfl ?_) (.cons (t := 16) (Has.t' rfl ?_) (.cons (t := 2) (Has.t rfl) (.cons (t := 6) (Has.t rfl) (.cons (t := 7) (Has.t rfl) (.cons (t := 8) (Has.t rfl) (.cons (t := 9) (Has.t rfl) (.cons (t := 10) (Has.t rfl) (.cons (t := 14) (Has.t rfl) (.cons (t := 15) (Has.t rfl) (.cons (t := 17) (Has.t rfl) .nil))))))))))) ?_)
              · show q - 1 < q; omega
              · rfl
              · rfl
              · rfl
          · have hc6 := BP.f hc6
            refine Tri.exit ?_
            refine At.the ?_
            refine At.the ?_
            refine At.blh ?_
            refine At.thn ?_
            refine hK29 (()) _ _ (Cv.mem (.cons (t := 18) (Has.t' rfl ?_) (.cons (t := 2) (Has.t rfl) (.cons (t := 6) (Has.t rfl) (.cons (t := 7) (Has.t rfl) (.cons (t := 8) (Has.t rfl) (.cons (t := 14) (Has.t rfl) (.cons (t := 15) (Has.t rfl) (.cons (t := 17) (Has.t rfl) .nil)))))))) ?_)
            · exact isU_eq ((Gs.exit D.hv2 g (by omega)).trans (by rw [D.kY]))
            · rfl
        rintro _
        refine Tri.cv (Cv.wk (.cons (t := 18) (Has.t rfl) (.cons (t := 2) (Has.t rfl) (.cons (t := 6) (Has.t rfl) (.cons (t := 7) (Has.t rfl) (.cons (t := 8) (Has.t rfl) (.cons (t := 14) (Has.t rfl) (.cons (t := 15) (Has.t rfl) (.cons (t := 17) (Has.t rfl) .nil))))))))) ?_
        refine Tri.seq fun K36 hK36 => ?_
        refine Tri.region ?_
        refine st (OK1.mv (Has.t rfl)) rfl ?_
        refine st (OK1.mulU (Has.t rfl) (Has.cU 4294967296 rfl)) rfl ?_
        refine st (OK1.mv (Has.t rfl)) rfl ?_
        refine st (OK1.addU (Has.t rfl) (Has.t rfl)) rfl ?_
        refine st (OK1.mv (Has.t rfl)) rfl ?_
        refine st (OK1.mulU (Has.t rfl) (Has.cU 4294967296 rfl)) rfl ?_
        refine st (OK1.mv (Has.t rfl)) rfl ?_
        refine st (OK1.addU (Has.t rfl) (Has.t rfl)) rfl ?_
        refine st (OK1.mv (Has.t rfl)) rfl ?_
        refine st (OK1.mv (Has.t rfl)) rfl ?_
        refine st (OK1.mulU (Has.t rfl) (Has.t rfl)) rfl ?_
        refine st (OK1.eq (OK1.subU (Has.t rfl) (Has.t rfl) (by omega)) ((show isU _ = isU ((((A * 4294967296 + U1) % Y) * 4294967296 + U0) % Y) from isU_eq (wrapSub (divMul _ _) hR0 hU0)))) rfl ?_
        refine st (OK1.mv (Has.t rfl)) rfl ?_
        refine st (OK1.shrUU (Has.t rfl) (Has.t rfl) (by with_reducible assumption)) rfl ?_
        refine st (OK1.as (Has.t rfl)) rfl ?_
        refine st (OK1.as (Has.t rfl)) rfl ?_
        refine nl ?_
        refine At.thn (hK36 _ _ ?_); clear hK36
        refine Tri.cv (Cv.wk (.cons (t := 6) (Has.t rfl) (.cons (t := 7) (Has.t rfl) .nil))) ?_
        refine Tri.ret ?_
        refine rtN (.inl rfl) Tryz.results115 rfl rfl (.tmp (Has.t' rfl ?_) (.tmp (Has.t' rfl ?_) .nil))
        · exact isU_eq (Eq.trans (wrapAdd hQ1 hQ0) D.quo)
        · exact isU_eq D.rem
end Go.Proofs.YtkgipdidomikbaaGreat
/- Contracts: quotients by a word. -/
namespace Go.Proofs.YtkgipdidomikbaaGreat
open Go.En Go.RowKit
set_option linter.unusedVariables false
set_option maxRecDepth 10000
open Go.Nt
set_option maxHeartbeats 4000000 in
theorem div_Small {xs : List Nat} {x : Nat} (hx : (List.length (words (val xs))) < 4294900000) : Ctr Tryz.prog 107 [isWords xs, isU x] (isTup [isWords (words (val xs / x)), isU (if x = 0 then 0 else val xs % x), isB (decide (x ≠ 0))]) := by
  refine Ctr.intro Tryz.func107 rfl (by kernel_rfl) Tryz.ntmps107 rfl fun w0 F0 => ?_
  refine Tri.cv (Cv.wk (.cons (t := 0) (Has.t rfl) (.cons (t := 1) (Has.t rfl) .nil))) ?_
  refine Tri.fact (Has.lenLt (Has.t (t := 0) rfl)) fun lt0 => ?_
  refine Tri.fact (Has.okW (Has.t (t := 0) rfl)) fun ok0 => ?_
  refine Tri.fact (Has.ltU (Has.t (t := 1) rfl)) fun lt1 => ?_
  refine Tri.seq fun K1 hK1 => ?_
  refine Tri.region ?_
  refine st (OK1.as (Has.cW (f := isU))) rfl ?_
  refine st (OK1.as (Has.cU 0 rfl)) rfl ?_
  refine st (OK1.as (Has.cB false)) rfl ?_
  refine nl ?_
  refine At.thn (hK1 _ _ ?_); clear hK1
  refine Tri.seq fun K2 hK2 => ?_
  refine Tri.seq fun K3 hK3 => ?_
  refine Tri.region ?_
  refine st (OK1.mv (Has.t rfl)) rfl ?_
  refine st (OK1.eqU (Has.t rfl) (Has.cU 0 rfl)) rfl ?_
  refine nl ?_
  refine At.thn (hK3 _ _ ?_); clear hK3
  refine Tri.cond (Has.t rfl) (fun hc1 => ?_) (fun hc1 => ?_)
  · have hc1 := BP.t hc1
    refine Tri.seq fun K4 hK4 => ?_
    refine Tri.region ?_
    refine st (OK1.as (Has.cW (f := isU))) rfl ?_
    refine st (OK1.as (Has.cU 0 rfl)) rfl ?_
    refine st (OK1.as (Has.cB false)) rfl ?_
    refine nl ?_
    refine At.thn (hK4 _ _ ?_); clear hK4
    refine Tri.ret ?_
    refine At.thr ?_
    refine rtN (.inl rfl) Tryz.results107 rfl rfl (.tmp (Has.t' rfl ?_) (.tmp (Has.t' rfl ?_) (.tmp (Has.t' rfl ?_) .nil)))
    · exact SlM_eq (by rw [hc1, Nat.div_zero, words_zero])
    · exact isU_eq (by rw [if_pos hc1])
    · exact isB_eq (by simp [hc1])
  · have hc1 := BP.f hc1
    refine Tri.skip ?_
    refine At.thn (hK2 _ _ ?_); clear hK2
    refine Tri.seq fun K5 hK5 => ?_
    refine Tri.region ?_
    refine st (OK1.mv (Has.t rfl)) rfl ?_
    refine Ops.callO (nat_NormO (by omega)) (.cons (Has.t rfl) .nil) rfl (fun hO2 => ?_) (fun hO2 b1 cb1 jb1 => ?_)
    · skip
      refine st (OK1.as (Has.t rfl)) rfl ?_
      refine nl ?_
      refine At.thn (hK5 _ _ ?_); clear hK5
      refine Tri.seq fun K6 hK6 => ?_
      refine Tri.region ?_
      refine st (OK1.as (Has.cU 0 rfl)) rfl ?_
      refine nl ?_
      refine At.thn (hK6 _ _ ?_); clear hK6
      refine Tri.seq fun K7 hK7 => ?_
      refine Tri.seq fun K8 hK8 => ?_
      refine Tri.region ?_
      refine st (OK1.mv (Has.t rfl)) rfl ?_
      refine st (OK1.len sl59 (Has.t rfl)) rfl ?_
      refine st (OK1.subI (Has.t rfl) (Has.cI 1 rfl) (by omega) (by simp only [List.length_nil]; omega)) rfl ?_
      refine st (OK1.as (Has.t rfl)) rfl ?_
      refine nl ?_
      refine At.thn (hK8 _ _ ?_); clear hK8
      refine Tri.cv (Cv.wk (.cons (t := 0) (Has.t rfl) (.cons (t := 1) (Has.t rfl) (.cons (t := 4) (Has.t rfl) (.cons (t := 5) (Has.t rfl) (.cons (t := 6) (Has.t rfl) (.cons (t := 7) (Has.t rfl) (.cons (t := 8) (Has.t rfl) .nil)))))))) ?_
      refine Tri.block ?_
      refine Tri.loopF [0, 1, 4, 5, 6] (fun (_ : Unit) => [(8, isI (-1)), (7, isU 0)]) (fun M => fun (_ : Unit) => M) (fun (_ : Unit) => 0) (()) (Cv.mem (.cons (t := 8) (Has.t' rfl ?_) (.cons (t := 7) (Has.t' rfl ?_) (.cons (t := 0) (Has.t rfl) (.cons (t := 1) (Has.t rfl) (.cons (t := 4) (Has.t rfl) (.cons (t := 5) (Has.t rfl) (.cons (t := 6) (Has.t rfl) .nil))))))) ?_) ?_
      · rfl
      · rfl
      · rfl
      rintro _ K9 hK9
      refine Tri.cv (Cv.wk (.cons (t := 8) (Has.t rfl) (.cons (t := 7) (Has.t rfl) (.cons (t := 0) (Has.t rfl) (.cons (t := 1) (Has.t rfl) (.cons (t := 4) (Has.t rfl) (.cons (t := 5) (Has.t rfl) (.cons (t := 6) (Has.t rfl) .nil)))))))) ?_
      refine Tri.seq fun K10 hK10 => ?_
      refine Tri.seq fun K11 hK11 => ?_
      refine Tri.region ?_
      refine st (OK1.mv (Has.t rfl)) rfl ?_
      refine st (OK1.geI (Has.t rfl) (Has.cI 0 rfl)) rfl ?_
      refine nl ?_
      refine At.thn (hK11 _ _ ?_); clear hK11
      refine Tri.cond (Has.t rfl) (fun hc3 => ?_) (fun hc3 => ?_)
      · have hc3 := BP.t hc3
        exfalso; first | omega | contradiction | (revert hc3; simp)
      · have hc3 := BP.f hc3
        refine Tri.exit ?_
        refine At.the ?_
        refine At.the ?_
        refine At.blh ?_
        refine At.thn (hK7 _ _ ?_); clear hK7
        refine Tri.seq fun K12 hK12 => ?_
        refine Tri.region ?_
        refine st (OK1.mv (Has.t rfl)) rfl ?_
        refine st (OK1.call (nat_Norm (by show (words 0).length ≤ _; rw [words_zero]; exact Nat.zero_le _)) (.cons (Has.t rfl) .nil)) rfl ?_
        refine st (OK1.mv (Has.t rfl)) rfl ?_
        refine st (OK1.as (Has.t rfl)) rfl ?_
        refine st (OK1.as (Has.t rfl)) rfl ?_
        refine st (OK1.as (Has.cB true)) rfl ?_
        refine nl ?_
        refine At.thn (hK12 _ _ ?_); clear hK12
        refine Tri.cv (Cv.wk (.cons (t := 4) (Has.t rfl) (.cons (t := 5) (Has.t rfl) (.cons (t := 6) (Has.t rfl) .nil)))) ?_
        refine Tri.ret ?_
        refine rtN (.inl rfl) Tryz.results107 rfl rfl (.tmp (Has.t' rfl ?_) (.tmp (Has.t' rfl ?_) (.tmp (Has.t' rfl ?_) .nil)))
        · exact SlM_eq (by rw [of_words_nil hO2, Nat.zero_div]; rfl)
        · exact isU_eq (by rw [if_neg hc1, of_words_nil hO2, Nat.zero_mod])
        · exact isB_eq (by simp [hc1])
    · skip
      refine st (OK1.as (Has.t rfl)) rfl ?_
      refine nl ?_
      refine At.thn (hK5 _ _ ?_); clear hK5
      refine Tri.seq fun K13 hK13 => ?_
      refine Tri.region ?_
      refine st (OK1.as (Has.cU 0 rfl)) rfl ?_
      refine nl ?_
      refine At.thn (hK13 _ _ ?_); clear hK13
      refine Tri.seq fun K14 hK14 => ?_
      refine Tri.seq fun K15 hK15 => ?_
      refine Tri.region ?_
      refine st (OK1.mv (Has.t rfl)) rfl ?_
      refine st (OK1.len sl59 (Has.t rfl)) rfl ?_
      refine st (OK1.subI (Has.t rfl) (Has.cI 1 rfl) (by omega) (by omega)) rfl ?_
      refine st (OK1.as (Has.t rfl)) rfl ?_
      refine nl ?_
      refine At.thn (hK15 _ _ ?_); clear hK15
      refine Tri.cv (Cv.wk (.cons (t := 0) (Has.t rfl) (.cons (t := 1) (Has.t rfl) (.cons (t := 4) (Has.t rfl) (.cons (t := 5) (Has.t rfl) (.cons (t := 6) (Has.t rfl) (.cons (t := 7) (Has.t rfl) (.cons (t := 8) (Has.t rfl) .nil)))))))) ?_
      refine Tri.block ?_
      refine Tri.loopF [0, 1, 4, 5, 6] (fun (z : { k : Nat // k ≤ (List.length (words (val xs))) }) => match z with | ⟨k, hI⟩ => [(8, isI ((k : Int) - 1)), (7, isU (val xs / W ^ k % x))]) (fun M => fun (z : { k : Nat // k ≤ (List.length (words (val xs))) }) => match z with | ⟨k, hI⟩ => [(some b1, cellM (List.map isU (mix k (val xs) (val xs / x) ((List.length (words (val xs)))) ++ List.replicate jb1 0)))]) (fun (z : { k : Nat // k ≤ (List.length (words (val xs))) }) => match z with | ⟨k, hI⟩ => k) (⟨(List.length (words (val xs))), Nat.le_refl _⟩) (Cv.mem (.cons (t := 8) (Has.t' rfl ?_) (.cons (t := 7) (Has.t' rfl ?_) (.cons (t := 0) (Has.t rfl) (.cons (t := 1) (Has.t rfl) (.cons (t := 4) (Has.t rfl) (.cons (t := 5) (Has.t rfl) (.cons (t := 6) (Has.t rfl) .nil))))))) ?_) ?_
      · rfl
      · exact isU_eq (by rw [Nat.div_eq_of_lt (nw_lt _), Nat.zero_mod])
      · exact memL_eq (smallStart _ _ _)
      rintro ⟨k, hI⟩ K16 hK16
      refine Tri.cv (Cv.wk (.cons (t := 8) (Has.t rfl) (.cons (t := 7) (Has.t rfl) (.cons (t := 0) (Has.t rfl) (.cons (t := 1) (Has.t rfl) (.cons (t := 4) (Has.t rfl) (.cons (t := 5) (Has.t rfl) (.cons (t := 6) (Has.t rfl) .nil)))))))) ?_
      refine Tri.memEq (M' := [(some b1, cellM (List.map isU (mix k (val xs) (val xs / x) ((List.length (words (val xs)))) ++ List.replicate jb1 0)))]) rfl ?_
      have wl : (mix k (val xs) (val xs / x) ((List.length (words (val xs)))) ++ List.replicate jb1 0).length = (List.length (words (val xs))) + jb1 := by rw [List.length_append, mix_len hI, List.length_replicate]
      have ek : ((k : Int) - 1).toNat = k - 1 := by omega
      refine Tri.seq fun K17 hK17 => ?_
      refine Tri.seq fun K18 hK18 => ?_
      refine Tri.region ?_
      refine st (OK1.mv (Has.t rfl)) rfl ?_
      refine st (OK1.geI (Has.t rfl) (Has.cI 0 rfl)) rfl ?_
      refine nl ?_
      refine At.thn (hK18 _ _ ?_); clear hK18
      refine Tri.cond (Has.t rfl) (fun hc4 => ?_) (fun hc4 => ?_)
      · have hc4 := BP.t hc4
        refine Tri.skip ?_
        refine At.thn (hK17 _ _ ?_); clear hK17
        refine Tri.seq fun K19 hK19 => ?_
        refine Tri.block ?_
        refine Tri.region ?_
        refine st (OK1.mv (Has.t rfl)) rfl ?_
        refine st (OK1.mv (Has.t rfl)) rfl ?_
        refine st (OK1.mv (Has.t rfl)) rfl ?_
        refine st (OK1.mv (Has.t rfl)) rfl ?_
        refine st (OK1.mv (Has.t rfl)) rfl ?_
        refine st (OK1.eq (OK1.ixWin sl59 ty28 (Has.t rfl) (Has.t rfl) ⟨by omega, by omega⟩) (isPtr_eq (by exact ixo0))) rfl ?_
        refine st (OK1.eq (OK1.load1 (Has.t rfl) (i := 0) rfl ty28 (map_some (getD_some (d := 0) (by omega)))) ((show isU _ = isU (dig (val xs) (k - 1)) from isU_eq (by rw [ek, getD_app (by rw [mix_len hI]; omega), mix_low (by omega)])))) rfl ?_
        refine st (OK1.mv (Has.t rfl)) rfl ?_
        refine st (OK1.call (bits_Div64 (Nat.mod_lt _ (by omega))) (.cons (Has.t rfl) (.cons (Has.t rfl) (.cons (Has.t rfl) .nil)))) rfl ?_
        refine st (OK1.mv (Has.t rfl)) rfl ?_
        refine st (OK1.ext (Has.t rfl) rfl) rfl ?_
        refine st (OK1.ext (Has.t rfl) rfl) rfl ?_
        refine st (OK1.eq (OK1.ixWin sl59 ty28 (Has.t rfl) (Has.t rfl) ⟨by omega, by omega⟩) (isPtr_eq (by exact ixo0))) rfl ?_
        refine Ops.storeM (Has.t rfl) (Has.t rfl) (i := 0) rfl ty28 (by omega) (M' := [(_, _)]) rfl ?_
        refine st (OK1.as (Has.t rfl)) rfl ?_
        refine nl ?_
        refine At.bln ?_
        refine At.thn (hK19 _ _ ?_); clear hK19
        refine Tri.region ?_
        refine st (OK1.mv (Has.t rfl)) rfl ?_
        refine st (OK1.subI (Has.t rfl) (Has.cI 1 rfl) (by omega) (by omega)) rfl ?_
        refine st (OK1.as (Has.t rfl)) rfl ?_
        refine nl ?_
        refine At.thn ?_
        have hs := small_step (A := val xs) (x := x) (by omega) (by omega : 0 < k)
        refine hK16 (⟨k - 1, by omega⟩) _ _ ?_ (Cv.mem (.cons (t := 8) (Has.t' rfl ?_) (.cons (t := 7) (Has.t' rfl ?_) (.cons (t := 0) (Has.t rfl) (.cons (t := 1) (Has.t rfl) (.cons (t := 4) (Has.t rfl) (.cons (t := 5) (Has.t rfl) (.cons (t := 6) (Has.t rfl) .nil))))))) ?_)
        · show k - 1 < k; omega
        · exact isI_eq (by show _ = ((k - 1 : Nat) : Int) - 1; omega)
        · exact isU_eq hs.2
        · exact memL_eq (by rw [ek]; exact mix_down (by omega) hI hs.1)
      · have hc4 := BP.f hc4
        refine Tri.exit ?_
        refine At.the ?_
        refine At.the ?_
        refine At.blh ?_
        refine At.thn (hK14 _ _ ?_); clear hK14
        refine Tri.seq fun K20 hK20 => ?_
        refine Tri.cv (Cv.freeze' (t := 0) (i := 0) (ys := wordsN ((List.length (words (val xs)))) (val xs / x)) rfl rfl rfl (by omega) (by obtain rfl : k = 0 := (by omega); exact smallEnd rfl)) ?_
        refine Tri.memEq (M' := []) rfl ?_
        refine Tri.cv (Cv.wk (.cons (t := 0) (Has.t rfl) (.cons (t := 1) (Has.t rfl) (.cons (t := 4) (Has.t rfl) (.cons (t := 5) (Has.t rfl) (.cons (t := 6) (Has.t rfl) (.cons (t := 8) (Has.t rfl) (.cons (t := 7) (Has.t rfl) (.cons (t := 16) (Has.t rfl) (.cons (t := 17) (Has.t rfl) .nil)))))))))) ?_
        refine Tri.region ?_
        refine st (OK1.mv (Has.t rfl)) rfl ?_
        refine st (OK1.call (nat_Norm (by rw [val_wordsN]; exact normLe (by omega))) (.cons (Has.t rfl) .nil)) rfl ?_
        refine st (OK1.mv (Has.t rfl)) rfl ?_
        refine st (OK1.as (Has.t rfl)) rfl ?_
        refine st (OK1.as (Has.t rfl)) rfl ?_
        refine st (OK1.as (Has.cB true)) rfl ?_
        refine nl ?_
        refine At.thn (hK20 _ _ ?_); clear hK20
        refine Tri.cv (Cv.wk (.cons (t := 4) (Has.t rfl) (.cons (t := 5) (Has.t rfl) (.cons (t := 6) (Has.t rfl) .nil)))) ?_
        refine Tri.ret ?_
        refine rtN (.inl rfl) Tryz.results107 rfl rfl (.tmp (Has.t' rfl ?_) (.tmp (Has.t' rfl ?_) (.tmp (Has.t' rfl ?_) .nil)))
        · exact SlM_eq (words_quo _ _)
        · obtain rfl : k = 0 := (by omega); exact isU_eq (by rw [if_neg hc1, Nat.pow_zero, Nat.div_one])
        · exact isB_eq (by simp [hc1])
set_option maxHeartbeats 4000000 in
theorem div_guess {u2 u1 u0 v1 v0 : Nat} (h : 0 < v1) : Ctr Tryz.prog 116 [isU u2, isU u1, isU u0, isU v1, isU v0] (isU (gss u2 u1 u0 v1 v0)) := by
  refine Ctr.intro Tryz.func116 rfl (by kernel_rfl) Tryz.ntmps116 rfl fun w0 F0 => ?_
  refine Tri.cv (Cv.wk (.cons (t := 0) (Has.t rfl) (.cons (t := 1) (Has.t rfl) (.cons (t := 2) (Has.t rfl) (.cons (t := 3) (Has.t rfl) (.cons (t := 4) (Has.t rfl) .nil)))))) ?_
  refine Tri.fact (Has.ltU (Has.t (t := 0) rfl)) fun lt0 => ?_
  refine Tri.fact (Has.ltU (Has.t (t := 1) rfl)) fun lt1 => ?_
  refine Tri.fact (Has.ltU (Has.t (t := 2) rfl)) fun lt2 => ?_
  refine Tri.fact (Has.ltU (Has.t (t := 3) rfl)) fun lt3 => ?_
  refine Tri.fact (Has.ltU (Has.t (t := 4) rfl)) fun lt4 => ?_
  refine Tri.seq fun K1 hK1 => ?_
  refine Tri.region ?_
  refine st (OK1.as (Has.cU 0 rfl)) rfl ?_
  refine nl ?_
  refine At.thn (hK1 _ _ ?_); clear hK1
  refine Tri.seq fun K2 hK2 => ?_
  refine Tri.seq fun K3 hK3 => ?_
  refine Tri.region ?_
  refine st (OK1.mv (Has.t rfl)) rfl ?_
  refine st (OK1.mv (Has.t rfl)) rfl ?_
  refine st (OK1.gtU (Has.t rfl) (Has.t rfl)) rfl ?_
  refine nl ?_
  refine At.thn (hK3 _ _ ?_); clear hK3
  refine Tri.cond (Has.t rfl) (fun hc1 => ?_) (fun hc1 => ?_)
  · have hc1 := BP.t hc1
    refine Tri.seq fun K4 hK4 => ?_
    refine Tri.region ?_
    refine st (OK1.as (Has.cU 18446744073709551615 rfl)) rfl ?_
    refine nl ?_
    refine At.thn (hK4 _ _ ?_); clear hK4
    refine Tri.ret ?_
    refine At.thr ?_
    refine rt1 (.inl rfl) Tryz.results116 rfl (.tmp (Has.t' rfl ?_) .nil)
    all_goals (exact isU_eq (gss_max hc1 lt4 h))
  · have hc1 := BP.f hc1
    refine Tri.skip ?_
    refine At.thn (hK2 _ _ ?_); clear hK2
    refine Tri.seq fun K5 hK5 => ?_
    refine Tri.region ?_
    refine st (OK1.as (Has.cU 18446744073709551615 rfl)) rfl ?_
    refine st (OK1.as (Has.cU 0 rfl)) rfl ?_
    refine st (OK1.as (Has.cU 0 rfl)) rfl ?_
    refine nl ?_
    refine At.thn (hK5 _ _ ?_); clear hK5
    refine Tri.cutF [2, 3, 4, 10] (fun (z : { z : Nat × Nat // Gw u2 u1 u0 v1 v0 z.1 z.2 }) => match z with | ⟨(q, r), hI⟩ => [(11, isU q), (12, isU (r % 18446744073709551616)), (13, isU (r / 18446744073709551616))]) (fun M => fun (z : { z : Nat × Nat // Gw u2 u1 u0 v1 v0 z.1 z.2 }) => match z with | ⟨(q, r), hI⟩ => M) (fun K6 hK6 => ?_) ?_
    · skip
      refine Tri.seq fun K7 hK7 => ?_
      refine Tri.region ?_
      refine st (OK1.mv (Has.t rfl)) rfl ?_
      refine st (OK1.mv (Has.t rfl)) rfl ?_
      refine st (OK1.eqU (Has.t rfl) (Has.t rfl)) rfl ?_
      refine nl ?_
      refine At.thn (hK7 _ _ ?_); clear hK7
      refine Tri.cv (Cv.wk (.cons (t := 0) (Has.t rfl) (.cons (t := 1) (Has.t rfl) (.cons (t := 2) (Has.t rfl) (.cons (t := 3) (Has.t rfl) (.cons (t := 4) (Has.t rfl) (.cons (t := 10) (Has.t rfl) (.cons (t := 11) (Has.t rfl) (.cons (t := 12) (Has.t rfl) (.cons (t := 13) (Has.t rfl) (.cons (t := 21) (Has.t rfl) .nil))))))))))) ?_
      refine Tri.cond (Has.t rfl) (fun hc2 => ?_) (fun hc2 => ?_)
      · have hc2 := BP.t hc2
        refine Tri.region ?_
        refine st (OK1.mv (Has.t rfl)) rfl ?_
        refine st (OK1.mv (Has.t rfl)) rfl ?_
        refine st (OK1.add64 ext_add64 (Has.t rfl) (Has.t rfl) (Has.cU 0 rfl) (by omega) ⟨(by with_reducible assumption), (by with_reducible assumption)⟩) rfl ?_
        refine st (OK1.mv (Has.t rfl)) rfl ?_
        refine st (OK1.ext (Has.t rfl) rfl) rfl ?_
        refine st (OK1.ext (Has.t rfl) rfl) rfl ?_
        refine st (OK1.as (Has.t rfl)) rfl ?_
        refine st (OK1.as (Has.t rfl)) rfl ?_
        refine nl ?_
        refine At.thn ?_
        refine hK6 (⟨(18446744073709551615, u1 + v1), Gw.same hc2 lt1 lt3⟩) _ _ (Cv.mem (.cons (t := 11) (Has.t' rfl ?_) (.cons (t := 12) (Has.t' rfl ?_) (.cons (t := 13) (Has.t' rfl ?_) (.cons (t := 2) (Has.t rfl) (.cons (t := 3) (Has.t rfl) (.cons (t := 4) (Has.t rfl) (.cons (t := 10) (Has.t rfl) .nil))))))) ?_)
        · rfl
        · rfl
        · rfl
        · rfl
      · have hc2 := BP.f hc2
        refine Tri.region ?_
        refine st (OK1.mv (Has.t rfl)) rfl ?_
        refine st (OK1.mv (Has.t rfl)) rfl ?_
        refine st (OK1.mv (Has.t rfl)) rfl ?_
        refine st (OK1.call (bits_Div64 (by omega)) (.cons (Has.t rfl) (.cons (Has.t rfl) (.cons (Has.t rfl) .nil)))) rfl ?_
        refine st (OK1.mv (Has.t rfl)) rfl ?_
        refine st (OK1.ext (Has.t rfl) rfl) rfl ?_
        refine st (OK1.ext (Has.t rfl) rfl) rfl ?_
        refine st (OK1.as (Has.t rfl)) rfl ?_
        refine st (OK1.as (Has.t rfl)) rfl ?_
        refine nl ?_
        refine At.thn ?_
        have hm := Nat.mod_lt (u2 * 18446744073709551616 + u1) h
        refine hK6 (⟨((u2 * 18446744073709551616 + u1) / v1, (u2 * 18446744073709551616 + u1) % v1), Gw.start (by omega) lt1 lt2 lt3⟩) _ _ (Cv.mem (.cons (t := 11) (Has.t' rfl ?_) (.cons (t := 12) (Has.t' rfl ?_) (.cons (t := 13) (Has.t' rfl ?_) (.cons (t := 2) (Has.t rfl) (.cons (t := 3) (Has.t rfl) (.cons (t := 4) (Has.t rfl) (.cons (t := 10) (Has.t rfl) .nil))))))) ?_)
        · rfl
        · exact isU_eq (Nat.mod_eq_of_lt (by omega)).symm
        · exact isU_eq (Nat.div_eq_of_lt (by omega)).symm
        · rfl
    rintro ⟨⟨q, r⟩, g⟩
    refine Tri.cv (Cv.wk (.cons (t := 11) (Has.t rfl) (.cons (t := 12) (Has.t rfl) (.cons (t := 13) (Has.t rfl) (.cons (t := 2) (Has.t rfl) (.cons (t := 3) (Has.t rfl) (.cons (t := 4) (Has.t rfl) (.cons (t := 10) (Has.t rfl) .nil)))))))) ?_
    simp only [] at g
    refine Tri.seq fun K8 hK8 => ?_
    refine Tri.block ?_
    refine Tri.loopF [2, 3, 4, 10] (fun (z : { z : Nat × Nat // Gw u2 u1 u0 v1 v0 z.1 z.2 }) => match z with | ⟨(q, r), hI⟩ => [(11, isU q), (12, isU (r % 18446744073709551616)), (13, isU (r / 18446744073709551616))]) (fun M => fun (z : { z : Nat × Nat // Gw u2 u1 u0 v1 v0 z.1 z.2 }) => match z with | ⟨(q, r), hI⟩ => M) (fun (z : { z : Nat × Nat // Gw u2 u1 u0 v1 v0 z.1 z.2 }) => match z with | ⟨(q, r), hI⟩ => q) (⟨(q, r), g⟩) (Cv.mem (.cons (t := 11) (Has.t' rfl ?_) (.cons (t := 12) (Has.t' rfl ?_) (.cons (t := 13) (Has.t' rfl ?_) (.cons (t := 2) (Has.t rfl) (.cons (t := 3) (Has.t rfl) (.cons (t := 4) (Has.t rfl) (.cons (t := 10) (Has.t rfl) .nil))))))) ?_) ?_
    · rfl
    · rfl
    · rfl
    · rfl
    rintro ⟨⟨q, r⟩, g⟩ K9 hK9
    refine Tri.cv (Cv.wk (.cons (t := 11) (Has.t rfl) (.cons (t := 12) (Has.t rfl) (.cons (t := 13) (Has.t rfl) (.cons (t := 2) (Has.t rfl) (.cons (t := 3) (Has.t rfl) (.cons (t := 4) (Has.t rfl) (.cons (t := 10) (Has.t rfl) .nil)))))))) ?_
    simp only [] at g
    have gq := g.q
    have gr := g.r
    refine Tri.seq fun K10 hK10 => ?_
    refine Tri.seq fun K11 hK11 => ?_
    refine Tri.region ?_
    refine st (OK1.mv (Has.t rfl)) rfl ?_
    refine st (OK1.eqU (Has.t rfl) (Has.cU 0 rfl)) rfl ?_
    refine nl ?_
    refine At.thn (hK11 _ _ ?_); clear hK11
    refine Tri.cond (Has.t rfl) (fun hc3 => ?_) (fun hc3 => ?_)
    · have hc3 := BP.t hc3
      refine Tri.skip ?_
      refine At.thn (hK10 _ _ ?_); clear hK10
      refine Tri.block ?_
      refine Tri.seq fun K12 hK12 => ?_
      refine Tri.region ?_
      refine st (OK1.mv (Has.t rfl)) rfl ?_
      refine st (OK1.mv (Has.t rfl)) rfl ?_
      refine st (OK1.call bits_Mul64 (.cons (Has.t rfl) (.cons (Has.t rfl) .nil))) rfl ?_
      refine st (OK1.mv (Has.t rfl)) rfl ?_
      refine st (OK1.ext (Has.t rfl) rfl) rfl ?_
      refine st (OK1.ext (Has.t rfl) rfl) rfl ?_
      refine st (OK1.as (Has.t rfl)) rfl ?_
      refine st (OK1.as (Has.t rfl)) rfl ?_
      refine nl ?_
      refine At.thn (hK12 _ _ ?_); clear hK12
      refine Tri.seq fun K13 hK13 => ?_
      refine Tri.seq fun K14 hK14 => ?_
      refine Tri.region ?_
      refine st (OK1.mv (Has.t rfl)) rfl ?_
      refine st (OK1.mv (Has.t rfl)) rfl ?_
      refine st (OK1.ltU (Has.t rfl) (Has.t rfl)) rfl ?_
      refine st (OK1.mv (Has.t rfl)) rfl ?_
      refine stF rfl rfl (fun hg => have hg' := BP.t hg; OK1.mv (Has.t rfl)) rfl ?_
      refine stF rfl rfl (fun hg => have hg' := BP.t hg; OK1.mv (Has.t rfl)) rfl ?_
      refine stF rfl rfl (fun hg => have hg' := BP.t hg; OK1.eqU (Has.g rfl hg) (Has.g rfl hg)) rfl ?_
      refine stF rfl rfl (fun hg => have hg' := BP.t hg; OK1.mv (Has.g rfl hg)) rfl ?_
      refine stGT rfl rfl (fun hg => have hg' := BP.t hg; OK1.mv (Has.t rfl)) rfl ?_
      refine stGT rfl rfl (fun hg => have hg' := BP.t hg; OK1.mv (Has.t rfl)) rfl ?_
      refine stGT rfl rfl (fun hg => have hg' := BP.t hg; OK1.leU (Has.g rfl hg) (Has.g rfl hg)) rfl ?_
      refine stF rfl rfl (fun hg => have hg' := BP.t hg; OK1.pickAnd (Has.g rfl hg) (fun h => Has.g rfl (ga hg h))) rfl ?_
      refine st (OK1.pickOr (Has.t rfl) (fun h => Has.g rfl (ng h))) rfl ?_
      refine nl ?_
      refine At.thn (hK14 _ _ ?_); clear hK14
      refine Tri.cond (Has.t rfl) (fun hc4 => ?_) (fun hc4 => ?_)
      · have hc4 := BP.t hc4
        have ht := (test_le (p := q * v0) (r := r % 18446744073709551616) (u0 := u0) (by omega) lt2).1 hc4
        rw [Nat.mod_eq_of_lt (show r < 18446744073709551616 by omega)] at ht
        refine Tri.exit ?_
        refine At.the ?_
        refine At.blm rfl ?_
        refine At.the ?_
        refine At.blh ?_
        refine At.thn (hK8 _ _ ?_); clear hK8
        refine Tri.cv (Cv.wk (.cons (t := 10) (Has.t rfl) (.cons (t := 11) (Has.t rfl) .nil))) ?_
        refine Tri.seq fun K15 hK15 => ?_
        refine Tri.region ?_
        refine st (OK1.mv (Has.t rfl)) rfl ?_
        refine st (OK1.as (Has.t rfl)) rfl ?_
        refine nl ?_
        refine At.thn (hK15 _ _ ?_); clear hK15
        refine Tri.ret ?_
        refine rt1 (.inl rfl) Tryz.results116 rfl (.tmp (Has.t' rfl ?_) .nil)
        all_goals (exact isU_eq (g.exit h ht))
      · have hc4 := BP.f hc4
        have ht : ¬ _ := fun hh => absurd ((test_le (p := q * v0) (r := r % 18446744073709551616) (u0 := u0) (by omega) lt2).2 hh) (by omega)
        have hn := Gw.next h lt3 g (by omega) (by omega)
        refine Tri.skip ?_
        refine At.thn (hK13 _ _ ?_); clear hK13
        refine Tri.seq fun K16 hK16 => ?_
        refine Tri.region ?_
        refine st (OK1.mv (Has.t rfl)) rfl ?_
        refine st (OK1.subU' (Has.t rfl) (Has.cU 1 rfl) (by omega) (by omega)) rfl ?_
        refine st (OK1.as (Has.t rfl)) rfl ?_
        refine nl ?_
        refine At.thn (hK16 _ _ ?_); clear hK16
        refine Tri.region ?_
        refine st (OK1.mv (Has.t rfl)) rfl ?_
        refine st (OK1.mv (Has.t rfl)) rfl ?_
        refine st (OK1.add64 ext_add64 (Has.t rfl) (Has.t rfl) (Has.cU 0 rfl) (by omega) ⟨(by omega), (by with_reducible assumption)⟩) rfl ?_
        refine st (OK1.mv (Has.t rfl)) rfl ?_
        refine st (OK1.ext (Has.t rfl) rfl) rfl ?_
        refine st (OK1.ext (Has.t rfl) rfl) rfl ?_
        refine st (OK1.as (Has.t rfl)) rfl ?_
        refine st (OK1.as (Has.t rfl)) rfl ?_
        refine nl ?_
        refine At.bln ?_
        refine At.thn ?_
        refine hK9 (⟨(q - 1, r + v1), hn.1⟩) _ _ ?_ (Cv.mem (.cons (t := 11) (Has.t' rfl ?_) (.cons (t := 12) (Has.t' rfl ?_) (.cons (t := 13) (Has.t' rfl ?_) (.cons (t := 2) (Has.t rfl) (.cons (t := 3) (Has.t rfl) (.cons (t := 4) (Has.t rfl) (.cons (t := 10) (Has.t rfl) .nil))))))) ?_)
        · show q - 1 < q; have := hn.2; omega
        · rfl
        · exact isU_eq (by show (r % _ + v1 + 0) % _ = (r + v1) % _; omega)
        · exact isU_eq (by show (r % _ + v1 + 0) / _ = (r + v1) / _; omega)
        · rfl
    · have hc3 := BP.f hc3
      refine Tri.exit ?_
      refine At.the ?_
      refine At.the ?_
      refine At.blh ?_
      refine At.thn (hK8 _ _ ?_); clear hK8
      refine Tri.cv (Cv.wk (.cons (t := 10) (Has.t rfl) (.cons (t := 11) (Has.t rfl) .nil))) ?_
      refine Tri.seq fun K17 hK17 => ?_
      refine Tri.region ?_
      refine st (OK1.mv (Has.t rfl)) rfl ?_
      refine st (OK1.as (Has.t rfl)) rfl ?_
      refine nl ?_
      refine At.thn (hK17 _ _ ?_); clear hK17
      refine Tri.ret ?_
      refine rt1 (.inl rfl) Tryz.results116 rfl (.tmp (Has.t' rfl ?_) .nil)
      all_goals (exact isU_eq (g.exit2 h lt4 (by omega)))
end Go.Proofs.YtkgipdidomikbaaGreat
/- Contracts: a multiple taken away, in place. -/
namespace Go.Proofs.YtkgipdidomikbaaGreat
open Go.En Go.RowKit
set_option linter.unusedVariables false
set_option maxRecDepth 10000
open Go.Nt
set_option maxHeartbeats 2000000 in
theorem div_take {N v q o c m : Nat} (h2 : o + ((List.length (words v)) + 1) ≤ m) (h3 : N / W ^ o < W ^ ((List.length (words v)) + 1)) : CtrM Tryz.prog 117 (fun b0 => [isWin b0 o ((List.length (words v)) + 1) c, isWords (words v), isU q]) (cellM (List.map isU (wordsN m N))) (cellM (List.map isU (wordsN m (N % W ^ o + W ^ o * (wdiff (N / W ^ o) (v * q) ((List.length (words v)) + 1)))))) (fun b0 => isB (decide (N / W ^ o < v * q))) := by
  refine CtrM.intro Tryz.func117 rfl (by kernel_rfl) Tryz.ntmps117 (fun _ => rfl) fun w0 F0 b0 => ?_
  refine Tri.cv (Cv.wk (.cons (t := 0) (Has.t rfl) (.cons (t := 1) (Has.t rfl) (.cons (t := 2) (Has.t rfl) .nil)))) ?_
  refine Tri.fact (Has.lenLt (Has.t (t := 0) rfl)) fun lt0 => ?_
  refine Tri.fact (Has.winLe (Has.t (t := 0) rfl)) fun lw0 => ?_
  refine Tri.fact (Has.lenLt (Has.t (t := 1) rfl)) fun lt1 => ?_
  refine Tri.fact (Has.okW (Has.t (t := 1) rfl)) fun ok1 => ?_
  refine Tri.fact (Has.ltU (Has.t (t := 2) rfl)) fun lt2 => ?_
  refine Tri.seq fun K1 hK1 => ?_
  refine Tri.region ?_
  refine st (OK1.as (Has.cB false)) rfl ?_
  refine nl ?_
  refine At.thn (hK1 _ _ ?_); clear hK1
  refine Tri.seq fun K2 hK2 => ?_
  refine Tri.region ?_
  refine st (OK1.as (Has.cU 0 rfl)) rfl ?_
  refine st (OK1.as (Has.cU 0 rfl)) rfl ?_
  refine nl ?_
  refine At.thn (hK2 _ _ ?_); clear hK2
  refine Tri.seq fun K3 hK3 => ?_
  refine Tri.seq fun K4 hK4 => ?_
  refine Tri.region ?_
  refine st (OK1.mv (Has.t rfl)) rfl ?_
  refine st (OK1.len sl59 (Has.t rfl)) rfl ?_
  refine st (OK1.mv (Has.cI 0 rfl)) rfl ?_
  refine nl ?_
  refine At.thn (hK4 _ _ ?_); clear hK4
  refine Tri.block ?_
  refine Tri.loopF [0, 1, 2, 6, 14, 15] (fun (z : { i : Nat // i ≤ (List.length (words v)) }) => match z with | ⟨i, hI⟩ => [(16, isI (i : Int)), (7, isU (mcar 0 v q i)), (8, isU (bor (N / W ^ o) (v * q) i))]) (fun M => fun (z : { i : Nat // i ≤ (List.length (words v)) }) => match z with | ⟨i, hI⟩ => [(some b0, cellM (List.map isU (mix (o + i) (N % W ^ o + W ^ o * (wdiff (N / W ^ o) (v * q) ((List.length (words v)) + 1))) N m)))]) (fun (z : { i : Nat // i ≤ (List.length (words v)) }) => match z with | ⟨i, hI⟩ => (List.length (words v)) - i) (⟨0, Nat.zero_le _⟩) (Cv.mem (.cons (t := 16) (Has.t' rfl ?_) (.cons (t := 7) (Has.t' rfl ?_) (.cons (t := 8) (Has.t' rfl ?_) (.cons (t := 0) (Has.t rfl) (.cons (t := 1) (Has.t rfl) (.cons (t := 2) (Has.t rfl) (.cons (t := 6) (Has.t rfl) (.cons (t := 14) (Has.t rfl) (.cons (t := 15) (Has.t rfl) .nil))))))))) ?_) ?_
  · rfl
  · exact isU_eq (mcar_zero _ _ _)
  · exact isU_eq (bor_zero _ _)
  · exact memL_eq (mix_start (by omega) (win_mod _ _ _))
  rintro ⟨i, hI⟩ K5 hK5
  refine Tri.cv (Cv.wk (.cons (t := 16) (Has.t rfl) (.cons (t := 7) (Has.t rfl) (.cons (t := 8) (Has.t rfl) (.cons (t := 0) (Has.t rfl) (.cons (t := 1) (Has.t rfl) (.cons (t := 2) (Has.t rfl) (.cons (t := 6) (Has.t rfl) (.cons (t := 14) (Has.t rfl) (.cons (t := 15) (Has.t rfl) .nil)))))))))) ?_
  refine Tri.memEq (M' := [(some b0, cellM (List.map isU (mix (o + i) (N % W ^ o + W ^ o * (wdiff (N / W ^ o) (v * q) ((List.length (words v)) + 1))) N m)))]) rfl ?_
  have wl : (mix (o + i) (N % W ^ o + W ^ o * (wdiff (N / W ^ o) (v * q) ((List.length (words v)) + 1))) N m).length = m := mix_len (by omega)
  have hcl := Nat.lt_of_le_of_lt (mcar_le 0 v q i) lt2
  have hrow := take_word lt2 (dig_lt v i) hcl (dig_lt _ _) (mul_step0 v q i)
  refine Tri.seq fun K6 hK6 => ?_
  refine Tri.region ?_
  refine st (OK1.ltI (Has.t rfl) (Has.t rfl)) rfl ?_
  refine nl ?_
  refine At.thn (hK6 _ _ ?_); clear hK6
  refine Tri.seq fun K7 hK7 => ?_
  refine Tri.cond (Has.t rfl) (fun hc1 => ?_) (fun hc1 => ?_)
  · have hc1 := BP.t hc1
    refine Tri.skip ?_
    refine At.thn (hK7 _ _ ?_); clear hK7
    refine Tri.seq fun K8 hK8 => ?_
    refine Tri.block ?_
    refine Tri.seq fun K9 hK9 => ?_
    refine Tri.region ?_
    refine st (OK1.mv (Has.t rfl)) rfl ?_
    refine st (OK1.ixP sl59 ty28 (Has.t rfl) (Has.t rfl) ⟨by omega, by omega⟩ (getD_some (d := 0) (by omega))) rfl ?_
    refine st (OK1.eq (OK1.loadP1 (Has.t rfl) ty28) (isU_eq (getD_words _ i))) rfl ?_
    refine st (OK1.as (Has.t rfl)) rfl ?_
    refine st (OK1.as (Has.t rfl)) rfl ?_
    refine nl ?_
    refine At.thn (hK9 _ _ ?_); clear hK9
    refine Tri.seq fun K10 hK10 => ?_
    refine Tri.region ?_
    refine st (OK1.mv (Has.t rfl)) rfl ?_
    refine st (OK1.mv (Has.t rfl)) rfl ?_
    refine st (OK1.call (bits_Mul64) (.cons (Has.t rfl) (.cons (Has.t rfl) .nil))) rfl ?_
    refine st (OK1.mv (Has.t rfl)) rfl ?_
    refine st (OK1.ext (Has.t rfl) rfl) rfl ?_
    refine st (OK1.ext (Has.t rfl) rfl) rfl ?_
    refine st (OK1.as (Has.t rfl)) rfl ?_
    refine st (OK1.as (Has.t rfl)) rfl ?_
    refine nl ?_
    refine At.thn (hK10 _ _ ?_); clear hK10
    refine Tri.seq fun K11 hK11 => ?_
    refine Tri.region ?_
    refine st (OK1.as (Has.cU 0 rfl)) rfl ?_
    refine nl ?_
    refine At.thn (hK11 _ _ ?_); clear hK11
    refine Tri.seq fun K12 hK12 => ?_
    refine Tri.region ?_
    refine st (OK1.mv (Has.t rfl)) rfl ?_
    refine st (OK1.mv (Has.t rfl)) rfl ?_
    refine st (OK1.add64 ext_add64 (Has.t rfl) (Has.t rfl) (Has.cU 0 rfl) (by omega) ⟨(by omega), (by with_reducible assumption)⟩) rfl ?_
    refine st (OK1.mv (Has.t rfl)) rfl ?_
    refine st (OK1.ext (Has.t rfl) rfl) rfl ?_
    refine st (OK1.ext (Has.t rfl) rfl) rfl ?_
    refine st (OK1.as (Has.t rfl)) rfl ?_
    refine st (OK1.as (Has.t rfl)) rfl ?_
    refine nl ?_
    refine At.thn (hK12 _ _ ?_); clear hK12
    refine Tri.seq fun K13 hK13 => ?_
    refine Tri.region ?_
    refine st (OK1.mv (Has.t rfl)) rfl ?_
    refine st (OK1.mv (Has.t rfl)) rfl ?_
    refine st (OK1.addU' (Has.t rfl) (Has.t rfl) (by omega)) rfl ?_
    refine st (OK1.as (Has.t rfl)) rfl ?_
    refine nl ?_
    refine At.thn (hK13 _ _ ?_); clear hK13
    refine Tri.region ?_
    refine st (OK1.mv (Has.t rfl)) rfl ?_
    refine st (OK1.mv (Has.t rfl)) rfl ?_
    refine st (OK1.mv (Has.t rfl)) rfl ?_
    refine st (OK1.mv (Has.t rfl)) rfl ?_
    refine st (OK1.eq (OK1.ixWin sl59 ty28 (Has.t rfl) (Has.t rfl) ⟨by omega, by omega⟩) (isPtr_eq (by exact ixo1))) rfl ?_
    refine st (OK1.eq (OK1.load1 (Has.t rfl) (i := 0) rfl ty28 (map_some (getD_some (d := 0) (by omega)))) (isU_eq (rowGet (by omega)))) rfl ?_
    refine st (OK1.mv (Has.t rfl)) rfl ?_
    refine st (OK1.mv (Has.t rfl)) rfl ?_
    refine st (OK1.sub64 ext_sub64 (Has.t rfl) (Has.t rfl) (Has.t rfl) (by with_reducible exact bor_le _ _ _) ⟨(by with_reducible exact dig_lt _ _), (by omega)⟩) rfl ?_
    refine st (OK1.mv (Has.t rfl)) rfl ?_
    refine st (OK1.ext (Has.t rfl) rfl) rfl ?_
    refine st (OK1.ext (Has.t rfl) rfl) rfl ?_
    refine st (OK1.eq (OK1.ixWin sl59 ty28 (Has.t rfl) (Has.t rfl) ⟨by omega, by omega⟩) (isPtr_eq (by exact ixo1))) rfl ?_
    refine Ops.storeM (Has.t rfl) (Has.t rfl) (i := 0) rfl ty28 (by omega) (M' := [(_, _)]) rfl ?_
    refine st (OK1.as (Has.t rfl)) rfl ?_
    refine nl ?_
    refine At.bln ?_
    refine At.thn (hK8 _ _ ?_); clear hK8
    refine Tri.region ?_
    refine st (OK1.addI (Has.t rfl) (Has.cI 1 rfl) (by omega) (by omega)) rfl ?_
    refine st (OK1.mv (Has.t rfl)) rfl ?_
    refine nl ?_
    refine At.thn ?_
    refine hK5 (⟨i + 1, by omega⟩) _ _ ?_ (Cv.mem (.cons (t := 16) (Has.t' rfl ?_) (.cons (t := 7) (Has.t' rfl ?_) (.cons (t := 8) (Has.t' rfl ?_) (.cons (t := 0) (Has.t rfl) (.cons (t := 1) (Has.t rfl) (.cons (t := 2) (Has.t rfl) (.cons (t := 6) (Has.t rfl) (.cons (t := 14) (Has.t rfl) (.cons (t := 15) (Has.t rfl) .nil))))))))) ?_)
    · show (List.length (words v)) - (i + 1) < (List.length (words v)) - i; omega
    · rfl
    · exact isU_eq hrow.2.1
    · exact isU_eq (by rw [hrow.1]; exact bor_succ _ _ _)
    · exact memL_eq (winPut (by omega) (by rw [hrow.1]; exact wd_dig (vq_lt (nw_lt v) lt2) (by omega)))
  · have hc1 := BP.f hc1
    refine Tri.exit ?_
    refine At.the ?_
    refine At.the ?_
    refine At.blh ?_
    refine At.thn (hK3 _ _ ?_); clear hK3
    refine Tri.cv (Cv.wk (.cons (t := 0) (Has.t rfl) (.cons (t := 1) (Has.t rfl) (.cons (t := 6) (Has.t rfl) (.cons (t := 7) (Has.t rfl) (.cons (t := 8) (Has.t rfl) .nil)))))) ?_
    refine Tri.seq fun K14 hK14 => ?_
    refine Tri.region ?_
    refine st (OK1.mv (Has.t rfl)) rfl ?_
    refine st (OK1.mv (Has.t rfl)) rfl ?_
    refine st (OK1.len sl59 (Has.t rfl)) rfl ?_
    refine st (OK1.mv (Has.t rfl)) rfl ?_
    refine st (OK1.mv (Has.t rfl)) rfl ?_
    refine st (OK1.len sl59 (Has.t rfl)) rfl ?_
    refine st (OK1.eq (OK1.ixWin sl59 ty28 (Has.t rfl) (Has.t rfl) ⟨by omega, by omega⟩) (isPtr_eq (by exact ixo1))) rfl ?_
    refine st (OK1.eq (OK1.load1 (Has.t rfl) (i := 0) rfl ty28 (map_some (getD_some (d := 0) (by omega)))) ((isU_eq (rowGet' (j := (List.length (words v))) (by omega) (by omega))))) rfl ?_
    refine st (OK1.mv (Has.t rfl)) rfl ?_
    refine st (OK1.mv (Has.t rfl)) rfl ?_
    refine st (OK1.sub64 (l := dig (N / W ^ o) ((List.length (words v)))) (m := mcar 0 v q i) (c := bor (N / W ^ o) (v * q) i) ext_sub64 (Has.t rfl) (Has.t rfl) (Has.t rfl) (bor_le _ _ _) ⟨dig_lt _ _, hcl⟩) rfl ?_
    refine st (OK1.mv (Has.t rfl)) rfl ?_
    refine st (OK1.ext (Has.t rfl) rfl) rfl ?_
    refine st (OK1.ext (Has.t rfl) rfl) rfl ?_
    refine st (OK1.eq (OK1.ixWin sl59 ty28 (Has.t rfl) (Has.t rfl) ⟨by omega, by omega⟩) (isPtr_eq (by exact ixo1))) rfl ?_
    refine Ops.storeM (Has.t rfl) (Has.t rfl) (i := 0) rfl ty28 (by omega) (M' := [(_, _)]) rfl ?_
    refine st (OK1.as (Has.t rfl)) rfl ?_
    refine nl ?_
    refine At.thn (hK14 _ _ ?_); clear hK14
    refine Tri.cv (Cv.wk (.cons (t := 6) (Has.t rfl) (.cons (t := 8) (Has.t rfl) .nil))) ?_
    refine Tri.seq fun K15 hK15 => ?_
    refine Tri.region ?_
    refine st (OK1.mv (Has.t rfl)) rfl ?_
    refine st (OK1.neU (Has.t rfl) (Has.cU 0 rfl)) rfl ?_
    refine st (OK1.as (Has.t rfl)) rfl ?_
    refine nl ?_
    refine At.thn (hK15 _ _ ?_); clear hK15
    refine Tri.ret ?_
    refine rtM1 (.inl rfl) Tryz.results117 rfl (i := 0) ?_ (.tmp (Has.t' rfl ?_) .nil)
    · obtain rfl : i = (List.length (words v)) := (by omega); exact memU_eq ((winPut (by omega) (takeTop (nw_lt v) lt2)).trans (winEnd (by omega) h3 (wdiff_lt _ _ _)))
    · obtain rfl : i = (List.length (words v)) := (by omega); exact isB_eq (takeBor (nw_lt v) lt2 h3)
set_option maxHeartbeats 2000000 in
theorem div_back {N v o c m : Nat} (h2 : o + ((List.length (words v)) + 1) ≤ m) (h3 : N / W ^ o < W ^ ((List.length (words v)) + 1)) : CtrM Tryz.prog 118 (fun b0 => [isWin b0 o ((List.length (words v)) + 1) c, isWords (words v)]) (cellM (List.map isU (wordsN m N))) (cellM (List.map isU (wordsN m (N % W ^ o + W ^ o * (wsum (N / W ^ o) v ((List.length (words v)) + 1)))))) (fun b0 => isTup []) := by
  refine CtrM.intro Tryz.func118 rfl (by kernel_rfl) Tryz.ntmps118 (fun _ => rfl) fun w0 F0 b0 => ?_
  refine Tri.cv (Cv.wk (.cons (t := 0) (Has.t rfl) (.cons (t := 1) (Has.t rfl) .nil))) ?_
  refine Tri.fact (Has.lenLt (Has.t (t := 0) rfl)) fun lt0 => ?_
  refine Tri.fact (Has.winLe (Has.t (t := 0) rfl)) fun lw0 => ?_
  refine Tri.fact (Has.lenLt (Has.t (t := 1) rfl)) fun lt1 => ?_
  refine Tri.fact (Has.okW (Has.t (t := 1) rfl)) fun ok1 => ?_
  refine Tri.seq fun K1 hK1 => ?_
  refine Tri.region ?_
  refine st (OK1.as (Has.cU 0 rfl)) rfl ?_
  refine nl ?_
  refine At.thn (hK1 _ _ ?_); clear hK1
  refine Tri.seq fun K2 hK2 => ?_
  refine Tri.seq fun K3 hK3 => ?_
  refine Tri.region ?_
  refine st (OK1.mv (Has.t rfl)) rfl ?_
  refine st (OK1.len sl59 (Has.t rfl)) rfl ?_
  refine st (OK1.mv (Has.cI 0 rfl)) rfl ?_
  refine nl ?_
  refine At.thn (hK3 _ _ ?_); clear hK3
  refine Tri.block ?_
  refine Tri.loopF [0, 1, 7, 8] (fun (z : { i : Nat // i ≤ (List.length (words v)) }) => match z with | ⟨i, hI⟩ => [(9, isI (i : Int)), (4, isU (car (N / W ^ o) v i))]) (fun M => fun (z : { i : Nat // i ≤ (List.length (words v)) }) => match z with | ⟨i, hI⟩ => [(some b0, cellM (List.map isU (mix (o + i) (N % W ^ o + W ^ o * (wsum (N / W ^ o) v ((List.length (words v)) + 1))) N m)))]) (fun (z : { i : Nat // i ≤ (List.length (words v)) }) => match z with | ⟨i, hI⟩ => (List.length (words v)) - i) (⟨0, Nat.zero_le _⟩) (Cv.mem (.cons (t := 9) (Has.t' rfl ?_) (.cons (t := 4) (Has.t' rfl ?_) (.cons (t := 0) (Has.t rfl) (.cons (t := 1) (Has.t rfl) (.cons (t := 7) (Has.t rfl) (.cons (t := 8) (Has.t rfl) .nil)))))) ?_) ?_
  · rfl
  · exact isU_eq (car_zero _ _)
  · exact memL_eq (mix_start (by omega) (win_mod _ _ _))
  rintro ⟨i, hI⟩ K4 hK4
  refine Tri.cv (Cv.wk (.cons (t := 9) (Has.t rfl) (.cons (t := 4) (Has.t rfl) (.cons (t := 0) (Has.t rfl) (.cons (t := 1) (Has.t rfl) (.cons (t := 7) (Has.t rfl) (.cons (t := 8) (Has.t rfl) .nil))))))) ?_
  refine Tri.memEq (M' := [(some b0, cellM (List.map isU (mix (o + i) (N % W ^ o + W ^ o * (wsum (N / W ^ o) v ((List.length (words v)) + 1))) N m)))]) rfl ?_
  have wl : (mix (o + i) (N % W ^ o + W ^ o * (wsum (N / W ^ o) v ((List.length (words v)) + 1))) N m).length = m := mix_len (by omega)
  refine Tri.seq fun K5 hK5 => ?_
  refine Tri.region ?_
  refine st (OK1.ltI (Has.t rfl) (Has.t rfl)) rfl ?_
  refine nl ?_
  refine At.thn (hK5 _ _ ?_); clear hK5
  refine Tri.seq fun K6 hK6 => ?_
  refine Tri.cond (Has.t rfl) (fun hc1 => ?_) (fun hc1 => ?_)
  · have hc1 := BP.t hc1
    refine Tri.skip ?_
    refine At.thn (hK6 _ _ ?_); clear hK6
    refine Tri.seq fun K7 hK7 => ?_
    refine Tri.block ?_
    refine Tri.seq fun K8 hK8 => ?_
    refine Tri.region ?_
    refine st (OK1.mv (Has.t rfl)) rfl ?_
    refine st (OK1.ixP sl59 ty28 (Has.t rfl) (Has.t rfl) ⟨by omega, by omega⟩ (getD_some (d := 0) (by omega))) rfl ?_
    refine st (OK1.eq (OK1.loadP1 (Has.t rfl) ty28) (isU_eq (getD_words _ i))) rfl ?_
    refine st (OK1.as (Has.t rfl)) rfl ?_
    refine st (OK1.as (Has.t rfl)) rfl ?_
    refine nl ?_
    refine At.thn (hK8 _ _ ?_); clear hK8
    refine Tri.region ?_
    refine st (OK1.mv (Has.t rfl)) rfl ?_
    refine st (OK1.mv (Has.t rfl)) rfl ?_
    refine st (OK1.mv (Has.t rfl)) rfl ?_
    refine st (OK1.mv (Has.t rfl)) rfl ?_
    refine st (OK1.eq (OK1.ixWin sl59 ty28 (Has.t rfl) (Has.t rfl) ⟨by omega, by omega⟩) (isPtr_eq (by exact ixo1))) rfl ?_
    refine st (OK1.eq (OK1.load1 (Has.t rfl) (i := 0) rfl ty28 (map_some (getD_some (d := 0) (by omega)))) (isU_eq (rowGet (by omega)))) rfl ?_
    refine st (OK1.mv (Has.t rfl)) rfl ?_
    refine st (OK1.mv (Has.t rfl)) rfl ?_
    refine st (OK1.add64 ext_add64 (Has.t rfl) (Has.t rfl) (Has.t rfl) (by with_reducible exact car_le _ _ _) ⟨(by with_reducible exact dig_lt _ _), (by with_reducible exact dig_lt _ _)⟩) rfl ?_
    refine st (OK1.mv (Has.t rfl)) rfl ?_
    refine st (OK1.ext (Has.t rfl) rfl) rfl ?_
    refine st (OK1.ext (Has.t rfl) rfl) rfl ?_
    refine st (OK1.eq (OK1.ixWin sl59 ty28 (Has.t rfl) (Has.t rfl) ⟨by omega, by omega⟩) (isPtr_eq (by exact ixo1))) rfl ?_
    refine Ops.storeM (Has.t rfl) (Has.t rfl) (i := 0) rfl ty28 (by omega) (M' := [(_, _)]) rfl ?_
    refine st (OK1.as (Has.t rfl)) rfl ?_
    refine nl ?_
    refine At.bln ?_
    refine At.thn (hK7 _ _ ?_); clear hK7
    refine Tri.region ?_
    refine st (OK1.addI (Has.t rfl) (Has.cI 1 rfl) (by omega) (by omega)) rfl ?_
    refine st (OK1.mv (Has.t rfl)) rfl ?_
    refine nl ?_
    refine At.thn ?_
    refine hK4 (⟨i + 1, by omega⟩) _ _ ?_ (Cv.mem (.cons (t := 9) (Has.t' rfl ?_) (.cons (t := 4) (Has.t' rfl ?_) (.cons (t := 0) (Has.t rfl) (.cons (t := 1) (Has.t rfl) (.cons (t := 7) (Has.t rfl) (.cons (t := 8) (Has.t rfl) .nil)))))) ?_)
    · show (List.length (words v)) - (i + 1) < (List.length (words v)) - i; omega
    · rfl
    · exact isU_eq (add_car _ _ _)
    · exact memL_eq (winPut (by omega) (ws_dig (by omega)))
  · have hc1 := BP.f hc1
    refine Tri.exit ?_
    refine At.the ?_
    refine At.the ?_
    refine At.blh ?_
    refine At.thn (hK2 _ _ ?_); clear hK2
    refine Tri.region ?_
    refine st (OK1.mv (Has.t rfl)) rfl ?_
    refine st (OK1.mv (Has.t rfl)) rfl ?_
    refine st (OK1.len sl59 (Has.t rfl)) rfl ?_
    refine st (OK1.eq (OK1.ixWin sl59 ty28 (Has.t rfl) (Has.t rfl) ⟨by omega, by omega⟩) (isPtr_eq (by exact ixo1))) rfl ?_
    refine st (OK1.eq (OK1.load1 (Has.t rfl) (i := 0) rfl ty28 (map_some (getD_some (d := 0) (by omega)))) ((isU_eq (rowGet' (j := (List.length (words v))) (by omega) (by omega))))) rfl ?_
    refine st (OK1.mv (Has.t rfl)) rfl ?_
    refine st (OK1.addU (Has.t rfl) (Has.t rfl)) rfl ?_
    refine st (OK1.eq (OK1.ixWin sl59 ty28 (Has.t rfl) (Has.t rfl) ⟨by omega, by omega⟩) (isPtr_eq (by exact ixo1))) rfl ?_
    refine Ops.storeM (Has.t rfl) (Has.t rfl) (i := 0) rfl ty28 (by omega) (M' := [(_, _)]) rfl ?_
    refine nl ?_
    refine rtM0 (.inr rfl) Tryz.results118 rfl (i := 0) ?_
    all_goals (obtain rfl : i = (List.length (words v)) := (by omega); exact memU_eq ((winPut (by omega) (backTop (nw_lt v))).trans (winEnd (by omega) h3 (wsum_lt _ _ _))))
end Go.Proofs.YtkgipdidomikbaaGreat
/- Contracts: long division. -/
namespace Go.Proofs.YtkgipdidomikbaaGreat
open Go.En Go.RowKit
set_option linter.unusedVariables false
set_option maxRecDepth 10000
open Go.Nt
set_option maxHeartbeats 4000000 in
theorem div_long {N v c m : Nat} (hn : 2 ≤ (List.length (words v))) (hm : (List.length (words v)) < m) (hM : m ≤ 4294967296) (hN : N < v * W ^ (m - (List.length (words v)))) : CtrM Tryz.prog 110 (fun b0 => [isWin b0 0 m c, isWords (words v)]) (cellM (List.map isU (wordsN m N))) (cellM (List.map isU (wordsN m (left N v 0)))) (fun b0 => isWords (wordsN (m - (List.length (words v))) (N / v))) := by
  refine CtrM.intro Tryz.func110 rfl (by kernel_rfl) Tryz.ntmps110 (fun _ => rfl) fun w0 F0 b0 => ?_
  refine Tri.cv (Cv.wk (.cons (t := 0) (Has.t rfl) (.cons (t := 1) (Has.t rfl) .nil))) ?_
  refine Tri.fact (Has.lenLt (Has.t (t := 0) rfl)) fun lt0 => ?_
  refine Tri.fact (Has.winLe (Has.t (t := 0) rfl)) fun lw0 => ?_
  refine Tri.fact (Has.lenLt (Has.t (t := 1) rfl)) fun lt1 => ?_
  refine Tri.fact (Has.okW (Has.t (t := 1) rfl)) fun ok1 => ?_
  refine Tri.seq fun K1 hK1 => ?_
  refine Tri.region ?_
  refine st (OK1.as (Has.cW (f := isU))) rfl ?_
  refine nl ?_
  refine At.thn (hK1 _ _ ?_); clear hK1
  refine Tri.seq fun K2 hK2 => ?_
  refine Tri.region ?_
  refine st (OK1.mv (Has.t rfl)) rfl ?_
  refine st (OK1.len sl59 (Has.t rfl)) rfl ?_
  refine st (OK1.as (Has.t rfl)) rfl ?_
  refine nl ?_
  refine At.thn (hK2 _ _ ?_); clear hK2
  refine Tri.seq fun K3 hK3 => ?_
  refine Tri.region ?_
  refine st (OK1.mv (Has.t rfl)) rfl ?_
  refine st (OK1.len sl59 (Has.t rfl)) rfl ?_
  refine st (OK1.mv (Has.t rfl)) rfl ?_
  refine st (OK1.eq (OK1.subI (Has.t rfl) (Has.t rfl) (by omega) (by omega)) ((show isI _ = isI ((m - (List.length (words v)) : Nat) : Int) from isI_eq (by omega)))) rfl ?_
  refine Ops.make (f := isU) (u := 0) (n := m - (List.length (words v))) (c := m - (List.length (words v))) sl59 ty28 zero28 (fun _ _ => ⟨⟨rfl, by decide⟩, trivial⟩) by28 (Has.t' rfl rfl) (Has.t' rfl rfl) ⟨by omega, by omega⟩ rfl fun b1 => ?_
  refine st (OK1.as (Has.t rfl)) rfl ?_
  refine nl ?_
  refine At.thn (hK3 _ _ ?_); clear hK3
  refine Tri.cv (Cv.wk (.cons (t := 0) (Has.t rfl) (.cons (t := 1) (Has.t rfl) (.cons (t := 4) (Has.t rfl) (.cons (t := 5) (Has.t rfl) (.cons (t := 6) (Has.t rfl) .nil)))))) ?_
  refine Tri.seq fun K4 hK4 => ?_
  refine Tri.seq fun K5 hK5 => ?_
  refine Tri.region ?_
  refine st (OK1.mv (Has.t rfl)) rfl ?_
  refine st (OK1.len sl59 (Has.t rfl)) rfl ?_
  refine st (OK1.subI (Has.t rfl) (Has.cI 1 rfl) (by omega) (by omega)) rfl ?_
  refine st (OK1.as (Has.t rfl)) rfl ?_
  refine nl ?_
  refine At.thn (hK5 _ _ ?_); clear hK5
  refine Tri.block ?_
  refine Tri.loopF [0, 1, 4, 5, 6] (fun (z : { k : Nat // k ≤ m - (List.length (words v)) }) => match z with | ⟨k, hI⟩ => [(7, isI ((k : Int) - 1))]) (fun M => fun (z : { k : Nat // k ≤ m - (List.length (words v)) }) => match z with | ⟨k, hI⟩ => [(some b1, cellM (List.map isU (mix k 0 (N / v) (m - (List.length (words v)))))), (some b0, cellM (List.map isU (wordsN m (left N v k))))]) (fun (z : { k : Nat // k ≤ m - (List.length (words v)) }) => match z with | ⟨k, hI⟩ => k) (⟨m - (List.length (words v)), Nat.le_refl _⟩) (Cv.mem (.cons (t := 7) (Has.t' rfl ?_) (.cons (t := 0) (Has.t rfl) (.cons (t := 1) (Has.t rfl) (.cons (t := 4) (Has.t rfl) (.cons (t := 5) (Has.t rfl) (.cons (t := 6) (Has.t rfl) .nil)))))) ?_) ?_
  · rfl
  · exact mem2_eq (outStart _ _) (by rw [left_top hN])
  rintro ⟨k, hI⟩ K6 hK6
  refine Tri.cv (Cv.wk (.cons (t := 7) (Has.t rfl) (.cons (t := 0) (Has.t rfl) (.cons (t := 1) (Has.t rfl) (.cons (t := 4) (Has.t rfl) (.cons (t := 5) (Has.t rfl) (.cons (t := 6) (Has.t rfl) .nil))))))) ?_
  refine Tri.memEq (M' := [(some b1, cellM (List.map isU (mix k 0 (N / v) (m - (List.length (words v)))))), (some b0, cellM (List.map isU (wordsN m (left N v k))))]) rfl ?_
  have wl : (wordsN m (left N v k)).length = m := wordsN_len _ _
  have wl2 : (mix k 0 (N / v) (m - (List.length (words v)))).length = m - (List.length (words v)) := mix_len hI
  refine Tri.seq fun K7 hK7 => ?_
  refine Tri.seq fun K8 hK8 => ?_
  refine Tri.region ?_
  refine st (OK1.mv (Has.t rfl)) rfl ?_
  refine st (OK1.geI (Has.t rfl) (Has.cI 0 rfl)) rfl ?_
  refine nl ?_
  refine At.thn (hK8 _ _ ?_); clear hK8
  refine Tri.cond (Has.t rfl) (fun hc1 => ?_) (fun hc1 => ?_)
  · have hc1 := BP.t hc1
    obtain ⟨j, rfl⟩ : ∃ j, k = j + 1 := ⟨k - 1, by omega⟩
    obtain ⟨k2, hk2⟩ : ∃ k2, (List.length (words v)) = k2 + 2 := ⟨(List.length (words v)) - 2, by omega⟩
    have ej : (((j + 1 : Nat) : Int) - 1) = (j : Int) := by omega
    obtain ⟨g, hg⟩ : ∃ g, g = gss (dig (left N v (j + 1) / W ^ j) (k2 + 2)) (dig (left N v (j + 1) / W ^ j) (k2 + 1)) (dig (left N v (j + 1) / W ^ j) k2) (dig v (k2 + 1)) (dig v k2) := ⟨_, rfl⟩
    have hgl : g < 18446744073709551616 := hg ▸ gss_lt _ _ _ _ _
    have R := round hk2 hg hgl
    refine Tri.skip ?_
    refine At.thn (hK7 _ _ ?_); clear hK7
    refine Tri.seq fun K9 hK9 => ?_
    refine Tri.block ?_
    refine Tri.seq fun K10 hK10 => ?_
    refine Tri.dr ?_
    refine DrG.st (i := 0) [] rfl rfl rfl (by kernel_rfl) (OKG.o rfl (OK1.mv (Has.t rfl))) ?_
    refine DrG.st (i := 1) [] rfl rfl rfl (by kernel_rfl) (OKG.o rfl (OK1.eq (OK1.mv (Has.t rfl)) ((isI_eq ej)))) ?_
    refine DrG.st (i := 2) [] rfl rfl rfl (by kernel_rfl) (OKG.o rfl (OK1.mv (Has.t rfl))) ?_
    refine DrG.st (i := 3) [25, 26] rfl rfl rfl (by kernel_rfl) (OKG.o rfl (OK1.addI (Has.t rfl) (Has.t rfl) (by omega) (by omega))) ?_
    refine DrG.st (i := 4) [24, 27] rfl rfl rfl (by kernel_rfl) (OKG.o rfl (OK1.eq (OK1.ixWin sl59 ty28 (Has.t rfl) (Has.t rfl) ⟨by omega, by omega⟩) (isPtr_eq (by exact ixo0)))) ?_
    refine DrG.st (i := 5) [28] rfl rfl rfl (by kernel_rfl) (OKG.o rfl (OK1.eq (OK1.load1 (Has.t rfl) (i := 1) rfl ty28 (map_some (getD_some (d := 0) (by omega)))) ((show isU _ = isU (dig (left N v (j + 1) / W ^ j) (k2 + 2)) from isU_eq (getW (by omega) (by omega)))))) ?_
    refine DrG.st (i := 6) [] rfl rfl rfl (by kernel_rfl) (OKG.o rfl (OK1.mv (Has.t rfl))) ?_
    refine DrG.st (i := 7) [] rfl rfl rfl (by kernel_rfl) (OKG.o rfl (OK1.eq (OK1.mv (Has.t rfl)) ((isI_eq ej)))) ?_
    refine DrG.st (i := 8) [] rfl rfl rfl (by kernel_rfl) (OKG.o rfl (OK1.mv (Has.t rfl))) ?_
    refine DrG.st (i := 9) [31, 32] rfl rfl rfl (by kernel_rfl) (OKG.o rfl (OK1.addI (Has.t rfl) (Has.t rfl) (by omega) (by omega))) ?_
    refine DrG.st (i := 10) [33] rfl rfl rfl (by kernel_rfl) (OKG.o rfl (OK1.subI (Has.t rfl) (Has.cI 1 rfl) (by omega) (by omega))) ?_
    refine DrG.st (i := 11) [30, 34] rfl rfl rfl (by kernel_rfl) (OKG.o rfl (OK1.eq (OK1.ixWin sl59 ty28 (Has.t rfl) (Has.t rfl) ⟨by omega, by omega⟩) (isPtr_eq (by exact ixo0)))) ?_
    refine DrG.st (i := 12) [35] rfl rfl rfl (by kernel_rfl) (OKG.o rfl (OK1.eq (OK1.load1 (Has.t rfl) (i := 1) rfl ty28 (map_some (getD_some (d := 0) (by omega)))) ((show isU _ = isU (dig (left N v (j + 1) / W ^ j) (k2 + 1)) from isU_eq (getW (by omega) (by omega)))))) ?_
    refine DrG.st (i := 13) [] rfl rfl rfl (by kernel_rfl) (OKG.o rfl (OK1.mv (Has.t rfl))) ?_
    refine DrG.st (i := 14) [] rfl rfl rfl (by kernel_rfl) (OKG.o rfl (OK1.eq (OK1.mv (Has.t rfl)) ((isI_eq ej)))) ?_
    refine DrG.st (i := 15) [] rfl rfl rfl (by kernel_rfl) (OKG.o rfl (OK1.mv (Has.t rfl))) ?_
    refine DrG.st (i := 16) [38, 39] rfl rfl rfl (by kernel_rfl) (OKG.o rfl (OK1.addI (Has.t rfl) (Has.t rfl) (by omega) (by omega))) ?_
    refine DrG.st (i := 17) [40] rfl rfl rfl (by kernel_rfl) (OKG.o rfl (OK1.subI (Has.t rfl) (Has.cI 2 rfl) (by omega) (by omega))) ?_
    refine DrG.st (i := 18) [37, 41] rfl rfl rfl (by kernel_rfl) (OKG.o rfl (OK1.eq (OK1.ixWin sl59 ty28 (Has.t rfl) (Has.t rfl) ⟨by omega, by omega⟩) (isPtr_eq (by exact ixo0)))) ?_
    refine DrG.st (i := 19) [42] rfl rfl rfl (by kernel_rfl) (OKG.o rfl (OK1.eq (OK1.load1 (Has.t rfl) (i := 1) rfl ty28 (map_some (getD_some (d := 0) (by omega)))) ((show isU _ = isU (dig (left N v (j + 1) / W ^ j) (k2)) from isU_eq (getW (by omega) (by omega)))))) ?_
    refine DrG.st (i := 20) [] rfl rfl rfl (by kernel_rfl) (OKG.o rfl (OK1.mv (Has.t rfl))) ?_
    refine DrG.st (i := 21) [] rfl rfl rfl (by kernel_rfl) (OKG.o rfl (OK1.mv (Has.t rfl))) ?_
    refine DrG.st (i := 22) [45] rfl rfl rfl (by kernel_rfl) (OKG.o rfl (OK1.subI (Has.t rfl) (Has.cI 1 rfl) (by omega) (by omega))) ?_
    refine DrG.st (i := 23) [44, 46] rfl rfl rfl (by kernel_rfl) (OKG.o rfl (OK1.ixP sl59 ty28 (Has.t rfl) (Has.t rfl) ⟨by omega, by omega⟩ (getD_some (d := 0) (by omega)))) ?_
    refine DrG.st (i := 24) [47] rfl rfl rfl (by kernel_rfl) (OKG.o rfl (OK1.eq (OK1.loadP1 (Has.t rfl) ty28) ((show isU _ = isU (dig v (k2 + 1)) from isU_eq (getV (by omega)))))) ?_
    refine DrG.st (i := 25) [] rfl rfl rfl (by kernel_rfl) (OKG.o rfl (OK1.mv (Has.t rfl))) ?_
    refine DrG.st (i := 26) [] rfl rfl rfl (by kernel_rfl) (OKG.o rfl (OK1.mv (Has.t rfl))) ?_
    refine DrG.st (i := 27) [50] rfl rfl rfl (by kernel_rfl) (OKG.o rfl (OK1.subI (Has.t rfl) (Has.cI 2 rfl) (by omega) (by omega))) ?_
    refine DrG.st (i := 28) [49, 51] rfl rfl rfl (by kernel_rfl) (OKG.o rfl (OK1.ixP sl59 ty28 (Has.t rfl) (Has.t rfl) ⟨by omega, by omega⟩ (getD_some (d := 0) (by omega)))) ?_
    refine DrG.st (i := 29) [52] rfl rfl rfl (by kernel_rfl) (OKG.o rfl (OK1.eq (OK1.loadP1 (Has.t rfl) ty28) ((show isU _ = isU (dig v k2) from isU_eq (getV (by omega)))))) ?_
    refine DrG.fin (n := 30) mixed (by kernel_rfl) (by kernel_rfl) (by kernel_rfl) ?_
    refine Ops.cv (Cv.wk (.cons (t := 0) (Has.t rfl) (.cons (t := 1) (Has.t rfl) (.cons (t := 4) (Has.t rfl) (.cons (t := 5) (Has.t rfl) (.cons (t := 6) (Has.t rfl) (.cons (t := 7) (Has.t rfl) (.cons (t := 20) (Has.t rfl) (.cons (t := 21) (Has.t rfl) (.cons (t := 24) (Has.t rfl) (.cons (t := 25) (Has.t rfl) (.cons (t := 26) (Has.t rfl) (.cons (t := 27) (Has.t rfl) (.cons (t := 28) (Has.t rfl) (.cons (t := 29) (Has.t rfl) (.cons (t := 30) (Has.t rfl) (.cons (t := 31) (Has.t rfl) (.cons (t := 32) (Has.t rfl) (.cons (t := 33) (Has.t rfl) (.cons (t := 34) (Has.t rfl) (.cons (t := 35) (Has.t rfl) (.cons (t := 36) (Has.t rfl) (.cons (t := 37) (Has.t rfl) (.cons (t := 38) (Has.t rfl) (.cons (t := 39) (Has.t rfl) (.cons (t := 40) (Has.t rfl) (.cons (t := 41) (Has.t rfl) (.cons (t := 42) (Has.t rfl) (.cons (t := 43) (Has.t rfl) (.cons (t := 44) (Has.t rfl) (.cons (t := 45) (Has.t rfl) (.cons (t := 46) (Has.t rfl) (.cons (t := 47) (Has.t rfl) (.cons (t := 48) (Has.t rfl) (.cons (t := 49) (Has.t rfl) (.cons (t := 50) (Has.t rfl) (.cons (t := 51) (Has.t rfl) (.cons (t := 52) (Has.t rfl) (.cons (t := 53) (Has.t rfl) .nil))))))))))))))))))))))))))))))))))))))) ?_
    refine st (OK1.eq (OK1.call (div_guess R.hd) (.cons (Has.t rfl) (.cons (Has.t rfl) (.cons (Has.t rfl) (.cons (Has.t rfl) (.cons (Has.t rfl) .nil)))))) ((show isU _ = isU g from isU_eq hg.symm))) rfl ?_
    refine st (OK1.as (Has.t rfl)) rfl ?_
    refine nl ?_
    refine At.thn (hK10 _ _ ?_); clear hK10
    refine Tri.seq fun K11 hK11 => ?_
    refine Tri.region ?_
    refine st (OK1.mv (Has.t rfl)) rfl ?_
    refine st (OK1.eq (OK1.mv (Has.t rfl)) ((isI_eq ej))) rfl ?_
    refine st (OK1.eq (OK1.mv (Has.t rfl)) ((isI_eq ej))) rfl ?_
    refine st (OK1.mv (Has.t rfl)) rfl ?_
    refine st (OK1.addI (Has.t rfl) (Has.t rfl) (by omega) (by omega)) rfl ?_
    refine st (OK1.addI (Has.t rfl) (Has.cI 1 rfl) (by omega) (by omega)) rfl ?_
    refine st (OK1.eq (OK1.eq (OK1.slLHWin sl59 ty28 (Has.t rfl) (Has.t rfl) (Has.t rfl) ⟨by omega, by omega, by omega, by omega⟩) (isWin_eq (by exact ixo0) rfl rfl)) ((show isWin _ _ _ _ = isWin b0 j ((List.length (words v)) + 1) (c - j) from isWin_eq (by omega) (by omega) (by omega)))) rfl ?_
    refine st (OK1.as (Has.t rfl)) rfl ?_
    refine nl ?_
    refine At.thn (hK11 _ _ ?_); clear hK11
    refine Tri.seq fun K12 hK12 => ?_
    refine Tri.seq fun K13 hK13 => ?_
    refine Tri.region ?_
    refine st (OK1.mv (Has.t rfl)) rfl ?_
    refine st (OK1.mv (Has.t rfl)) rfl ?_
    refine st (OK1.mv (Has.t rfl)) rfl ?_
    refine Ops.callM (div_take (N := left N v (j + 1)) (o := j) (v := v) (q := g) (m := m) (by omega) R.hw) (i := 1) rfl (.cons (Has.t rfl) (.cons (Has.t rfl) (.cons (Has.t rfl) .nil))) rfl (M' := [_, (_, _)]) rfl ?_
    refine nl ?_
    refine At.thn (hK13 _ _ ?_); clear hK13
    refine Tri.cond (Has.t rfl) (fun hc2 => ?_) (fun hc2 => ?_)
    · have hc2 := BP.t hc2
      have hbk := R.bk hc2
      have hg1 := hbk.2.1
      refine Tri.seq fun K14 hK14 => ?_
      refine Tri.region ?_
      refine st (OK1.mv (Has.t rfl)) rfl ?_
      refine st (OK1.subU' (Has.t rfl) (Has.cU 1 rfl) (by with_reducible assumption) (by with_reducible assumption)) rfl ?_
      refine st (OK1.as (Has.t rfl)) rfl ?_
      refine nl ?_
      refine At.thn (hK14 _ _ ?_); clear hK14
      refine Tri.region ?_
      refine st (OK1.mv (Has.t rfl)) rfl ?_
      refine st (OK1.mv (Has.t rfl)) rfl ?_
      refine Ops.callM (div_back (N := left N v (j + 1) % W ^ j + W ^ j * wdiff (left N v (j + 1) / W ^ j) (v * g) ((List.length (words v)) + 1)) (o := j) (m := m) (by omega) (by rw [win_div]; exact wdiff_lt _ _ _)) (i := 1) rfl (.cons (Has.t rfl) (.cons (Has.t rfl) .nil)) rfl (M' := [_, (_, _)]) rfl ?_
      refine nl ?_
      refine At.thn (hK12 _ _ ?_); clear hK12
      refine Tri.region ?_
      refine st (OK1.mv (Has.t rfl)) rfl ?_
      refine st (OK1.eq (OK1.mv (Has.t rfl)) ((isI_eq ej))) rfl ?_
      refine st (OK1.mv (Has.t rfl)) rfl ?_
      refine st (OK1.eq (OK1.ixWin sl59 ty28 (Has.t rfl) (Has.t rfl) ⟨by omega, by omega⟩) (isPtr_eq (by exact ixo0))) rfl ?_
      refine Ops.storeM (Has.t rfl) (Has.t rfl) (i := 0) rfl ty28 (by omega) (M' := [(_, _), _]) rfl ?_
      refine nl ?_
      refine At.bln ?_
      refine At.thn (hK9 _ _ ?_); clear hK9
      refine Tri.region ?_
      refine st (OK1.mv (Has.t rfl)) rfl ?_
      refine st (OK1.subI (Has.t rfl) (Has.cI 1 rfl) (by omega) (by omega)) rfl ?_
      refine st (OK1.as (Has.t rfl)) rfl ?_
      refine nl ?_
      refine At.thn ?_
      refine hK6 (⟨j, by omega⟩) _ _ ?_ (Cv.mem (.cons (t := 7) (Has.t' rfl ?_) (.cons (t := 0) (Has.t rfl) (.cons (t := 1) (Has.t rfl) (.cons (t := 4) (Has.t rfl) (.cons (t := 5) (Has.t rfl) (.cons (t := 6) (Has.t rfl) .nil)))))) ?_)
      · show j < j + 1; omega
      · exact isI_eq (by show (((j + 1 : Nat) : Int) - 1) - 1 = (j : Int) - 1; omega)
      · exact mem2_eq (mix_down' (k := j + 1) (by omega) hI hbk.1) (wordsN_eq hbk.2.2)
    · have hc2 := BP.f hc2
      have hfi := R.fine (by omega)
      refine Tri.skip ?_
      refine At.thn (hK12 _ _ ?_); clear hK12
      refine Tri.region ?_
      refine st (OK1.mv (Has.t rfl)) rfl ?_
      refine st (OK1.eq (OK1.mv (Has.t rfl)) ((isI_eq ej))) rfl ?_
      refine st (OK1.mv (Has.t rfl)) rfl ?_
      refine st (OK1.eq (OK1.ixWin sl59 ty28 (Has.t rfl) (Has.t rfl) ⟨by omega, by omega⟩) (isPtr_eq (by exact ixo0))) rfl ?_
      refine Ops.storeM (Has.t rfl) (Has.t rfl) (i := 0) rfl ty28 (by omega) (M' := [(_, _), _]) rfl ?_
      refine nl ?_
      refine At.bln ?_
      refine At.thn (hK9 _ _ ?_); clear hK9
      refine Tri.region ?_
      refine st (OK1.mv (Has.t rfl)) rfl ?_
      refine st (OK1.subI (Has.t rfl) (Has.cI 1 rfl) (by omega) (by omega)) rfl ?_
      refine st (OK1.as (Has.t rfl)) rfl ?_
      refine nl ?_
      refine At.thn ?_
      refine hK6 (⟨j, by omega⟩) _ _ ?_ (Cv.mem (.cons (t := 7) (Has.t' rfl ?_) (.cons (t := 0) (Has.t rfl) (.cons (t := 1) (Has.t rfl) (.cons (t := 4) (Has.t rfl) (.cons (t := 5) (Has.t rfl) (.cons (t := 6) (Has.t rfl) .nil)))))) ?_)
      · show j < j + 1; omega
      · exact isI_eq (by show (((j + 1 : Nat) : Int) - 1) - 1 = (j : Int) - 1; omega)
      · exact mem2_eq (mix_down' (k := j + 1) (by omega) hI hfi.1) (wordsN_eq hfi.2)
  · have hc1 := BP.f hc1
    refine Tri.exit ?_
    refine At.the ?_
    refine At.the ?_
    refine At.blh ?_
    refine At.thn (hK4 _ _ ?_); clear hK4
    refine Tri.cv (Cv.wk (.cons (t := 4) (Has.t rfl) (.cons (t := 6) (Has.t rfl) .nil))) ?_
    refine Tri.seq fun K15 hK15 => ?_
    refine Tri.cv (Cv.freezeM (t := 6) (i := 0) (j := 1) (ys := wordsN (m - (List.length (words v))) (N / v)) rfl rfl rfl rfl rfl (by omega) (by obtain rfl : k = 0 := (by omega); rw [outEnd]; exact freeze_all (wordsN_len _ _).symm)) ?_
    refine Tri.memEq (M' := [_]) rfl ?_
    refine Tri.cv (Cv.wk (.cons (t := 4) (Has.t rfl) (.cons (t := 6) (Has.t rfl) .nil))) ?_
    refine Tri.region ?_
    refine st (OK1.mv (Has.t rfl)) rfl ?_
    refine st (OK1.as (Has.t rfl)) rfl ?_
    refine nl ?_
    refine At.thn (hK15 _ _ ?_); clear hK15
    refine Tri.ret ?_
    refine rtM1 (.inl rfl) Tryz.results110 rfl (i := 0) ?_ (.tmp (Has.t' rfl ?_) .nil)
    · obtain rfl : k = 0 := (by omega); rfl
    · rfl
end Go.Proofs.YtkgipdidomikbaaGreat
/- Contracts: quotients and rests. -/
namespace Go.Proofs.YtkgipdidomikbaaGreat
open Go.En Go.RowKit
set_option linter.unusedVariables false
set_option maxRecDepth 10000
open Go.Nt
theorem one_word {B : Nat} (h : (List.length (words B)) = 1) : (words B).getD 0 0 = B := by
  rw [getD_words, dig_def, Nat.pow_zero, Nat.div_one, Nat.mod_eq_of_lt (lt_of_nw_le_one (by omega))]
theorem bits_int {A : Nat} (h : (List.length (words A)) ≠ 0) : 64 * (((List.length (words A)) : Int) - 1) + ((bitLen (dig A ((List.length (words A)) - 1)) : Nat) : Int) = ((bitLen A : Nat) : Int) := by
  have hA : A ≠ 0 := fun e => h (by rw [e, words_zero]; rfl)
  have := bits_words hA
  omega
set_option maxHeartbeats 4000000 in
theorem div_DivMod {xs ys : List Nat} (hx : (List.length (words (val xs))) < 4294800000) (hy : (List.length (words (val ys))) < 4294800000) : Ctr Tryz.prog 90 [isWords xs, isWords ys] (isTup [isWords (words (val xs / val ys)), isWords (words (if val ys = 0 then 0 else val xs % val ys)), isB (decide (val ys ≠ 0))]) := by
  refine Ctr.intro Tryz.func90 rfl (by kernel_rfl) Tryz.ntmps90 rfl fun w0 F0 => ?_
  refine Tri.cv (Cv.wk (.cons (t := 0) (Has.t rfl) (.cons (t := 1) (Has.t rfl) .nil))) ?_
  refine Tri.fact (Has.lenLt (Has.t (t := 0) rfl)) fun lt0 => ?_
  refine Tri.fact (Has.okW (Has.t (t := 0) rfl)) fun ok0 => ?_
  refine Tri.fact (Has.lenLt (Has.t (t := 1) rfl)) fun lt1 => ?_
  refine Tri.fact (Has.okW (Has.t (t := 1) rfl)) fun ok1 => ?_
  refine Tri.seq fun K1 hK1 => ?_
  refine Tri.region ?_
  refine st (OK1.as (Has.cW (f := isU))) rfl ?_
  refine st (OK1.as (Has.cW (f := isU))) rfl ?_
  refine st (OK1.as (Has.cB false)) rfl ?_
  refine nl ?_
  refine At.thn (hK1 _ _ ?_); clear hK1
  refine Tri.seq fun K2 hK2 => ?_
  refine Tri.region ?_
  refine st (OK1.mv (Has.t rfl)) rfl ?_
  refine st (OK1.eq (OK1.call (nat_Norm (by omega)) (.cons (Has.t rfl) .nil)) (by rfl)) rfl ?_
  refine st (OK1.mv (Has.t rfl)) rfl ?_
  refine st (OK1.eq (OK1.call (nat_Norm (by omega)) (.cons (Has.t rfl) .nil)) (by rfl)) rfl ?_
  refine st (OK1.as (Has.t rfl)) rfl ?_
  refine st (OK1.as (Has.t rfl)) rfl ?_
  refine nl ?_
  refine At.thn (hK2 _ _ ?_); clear hK2
  refine Tri.seq fun K3 hK3 => ?_
  refine Tri.block ?_
  refine Tri.seq fun K4 hK4 => ?_
  refine Tri.region ?_
  refine st (OK1.mv (Has.t rfl)) rfl ?_
  refine st (OK1.len sl59 (Has.t rfl)) rfl ?_
  refine st (OK1.eqI (Has.t rfl) (Has.cI 0 rfl)) rfl ?_
  refine st (OK1.as (Has.t rfl)) rfl ?_
  refine nl ?_
  refine At.thn (hK4 _ _ ?_); clear hK4
  refine Tri.cv (Cv.wk (.cons (t := 0) (Has.t rfl) (.cons (t := 1) (Has.t rfl) (.cons (t := 4) (Has.t rfl) (.cons (t := 5) (Has.t rfl) (.cons (t := 6) (Has.t rfl) (.cons (t := 23) (Has.t rfl) .nil))))))) ?_
  refine Tri.cond (Has.t rfl) (fun hc1 => ?_) (fun hc1 => ?_)
  · have hc1 := BP.t hc1
    refine Tri.seq fun K5 hK5 => ?_
    refine Tri.region ?_
    refine st (OK1.as (Has.cW (f := isU))) rfl ?_
    refine st (OK1.as (Has.cW (f := isU))) rfl ?_
    refine st (OK1.as (Has.cB false)) rfl ?_
    refine nl ?_
    refine At.thn (hK5 _ _ ?_); clear hK5
    refine Tri.ret ?_
    refine At.blr ?_
    refine At.thr ?_
    refine rtN (.inl rfl) Tryz.results90 rfl rfl (.tmp (Has.t' rfl ?_) (.tmp (Has.t' rfl ?_) (.tmp (Has.t' rfl ?_) .nil)))
    · exact SlM_eq (by rw [bits_zero (A := val ys) (by omega), Nat.div_zero, words_zero])
    · exact SlM_eq (by rw [if_pos (bits_zero (A := val ys) (by omega)), words_zero])
    · exact isB_eq (by simp [bits_zero (show (List.length (words (val ys))) = 0 by omega)])
  · have hc1 := BP.f hc1
    refine Tri.seq fun K6 hK6 => ?_
    refine Tri.region ?_
    refine st (OK1.mv (Has.t rfl)) rfl ?_
    refine st (OK1.mv (Has.t rfl)) rfl ?_
    refine st (OK1.eq (OK1.call (nat_Cmp) (.cons (Has.t rfl) (.cons (Has.t rfl) .nil))) (by simp only [val_words]; rfl)) rfl ?_
    refine st (OK1.ltI (Has.t rfl) (Has.cI 0 rfl)) rfl ?_
    refine st (OK1.as (Has.t rfl)) rfl ?_
    refine nl ?_
    refine At.thn (hK6 _ _ ?_); clear hK6
    refine Tri.cv (Cv.wk (.cons (t := 0) (Has.t rfl) (.cons (t := 1) (Has.t rfl) (.cons (t := 4) (Has.t rfl) (.cons (t := 5) (Has.t rfl) (.cons (t := 6) (Has.t rfl) (.cons (t := 27) (Has.t rfl) .nil))))))) ?_
    refine Tri.cond (Has.t rfl) (fun hc2 => ?_) (fun hc2 => ?_)
    · have hc2 := BP.t hc2
      have hlt := cmpN_neg.1 hc2
      refine Tri.seq fun K7 hK7 => ?_
      refine Tri.region ?_
      refine st (OK1.mv (Has.t rfl)) rfl ?_
      refine st (OK1.as (Has.cW (f := isU))) rfl ?_
      refine st (OK1.as (Has.t rfl)) rfl ?_
      refine st (OK1.as (Has.cB true)) rfl ?_
      refine nl ?_
      refine At.thn (hK7 _ _ ?_); clear hK7
      refine Tri.ret ?_
      refine At.blr ?_
      refine At.thr ?_
      refine rtN (.inl rfl) Tryz.results90 rfl rfl (.tmp (Has.t' rfl ?_) (.tmp (Has.t' rfl ?_) (.tmp (Has.t' rfl ?_) .nil)))
      · exact SlM_eq (by rw [Nat.div_eq_of_lt hlt, words_zero])
      · exact SlM_eq (by rw [if_neg (by omega), Nat.mod_eq_of_lt hlt])
      · exact isB_eq (by simp; omega)
    · have hc2 := BP.f hc2
      have hle : val ys ≤ val xs := Nat.le_of_not_lt (fun h => by have := cmpN_neg.2 h; omega)
      refine Tri.seq fun K8 hK8 => ?_
      refine Tri.region ?_
      refine st (OK1.mv (Has.t rfl)) rfl ?_
      refine st (OK1.len sl59 (Has.t rfl)) rfl ?_
      refine st (OK1.eqI (Has.t rfl) (Has.cI 1 rfl)) rfl ?_
      refine st (OK1.as (Has.t rfl)) rfl ?_
      refine nl ?_
      refine At.thn (hK8 _ _ ?_); clear hK8
      refine Tri.cond (Has.t rfl) (fun hc3 => ?_) (fun hc3 => ?_)
      · have hc3 := BP.t hc3
        have hB : val ys ≠ 0 := fun e => by rw [e, words_zero] at hc1; simp at hc1
        refine Tri.seq fun K9 hK9 => ?_
        refine Tri.region ?_
        refine st (OK1.mv (Has.t rfl)) rfl ?_
        refine st (OK1.mv (Has.t rfl)) rfl ?_
        refine st (OK1.ixP sl59 ty28 (Has.t rfl) (Has.cI 0 rfl) ⟨by omega, by omega⟩ (getD_some (d := 0) (by omega))) rfl ?_
        refine st (OK1.eq (OK1.loadP1 (Has.t rfl) ty28) ((show isU _ = isU (val ys) from isU_eq (one_word (by omega))))) rfl ?_
        refine st (OK1.eq (OK1.call (div_Small (by simp only [val_words]; omega)) (.cons (Has.t rfl) (.cons (Has.t rfl) .nil))) (by simp only [val_words]; rfl)) rfl ?_
        refine st (OK1.mv (Has.t rfl)) rfl ?_
        refine st (OK1.ext (Has.t rfl) rfl) rfl ?_
        refine st (OK1.ext (Has.t rfl) rfl) rfl ?_
        refine st (OK1.ext (Has.t rfl) rfl) rfl ?_
        refine st (OK1.as (Has.t rfl)) rfl ?_
        refine st (OK1.as (Has.t rfl)) rfl ?_
        refine st (OK1.as (Has.t rfl)) rfl ?_
        refine nl ?_
        refine At.thn (hK9 _ _ ?_); clear hK9
        refine Tri.cv (Cv.wk (.cons (t := 0) (Has.t rfl) (.cons (t := 1) (Has.t rfl) (.cons (t := 4) (Has.t rfl) (.cons (t := 5) (Has.t rfl) (.cons (t := 6) (Has.t rfl) (.cons (t := 7) (Has.t rfl) (.cons (t := 8) (Has.t rfl) .nil)))))))) ?_
        refine Tri.seq fun K10 hK10 => ?_
        refine Tri.region ?_
        refine st (OK1.mv (Has.t rfl)) rfl ?_
        refine st (OK1.mv (Has.t rfl)) rfl ?_
        refine st (OK1.call (nat_Of) (.cons (Has.t rfl) .nil)) rfl ?_
        refine st (OK1.as (Has.t rfl)) rfl ?_
        refine st (OK1.as (Has.t rfl)) rfl ?_
        refine st (OK1.as (Has.cB true)) rfl ?_
        refine nl ?_
        refine At.thn (hK10 _ _ ?_); clear hK10
        refine Tri.cv (Cv.wk (.cons (t := 0) (Has.t rfl) (.cons (t := 1) (Has.t rfl) (.cons (t := 4) (Has.t rfl) (.cons (t := 5) (Has.t rfl) (.cons (t := 6) (Has.t rfl) .nil)))))) ?_
        refine Tri.ret ?_
        refine At.blr ?_
        refine At.thr ?_
        refine rtN (.inl rfl) Tryz.results90 rfl rfl (.tmp (Has.t' rfl ?_) (.tmp (Has.t' rfl ?_) (.tmp (Has.t' rfl ?_) .nil)))
        · rfl
        · rfl
        · exact isB_eq (by simp [hB])
      · have hc3 := BP.f hc3
        have hB : val ys ≠ 0 := fun e => by rw [e, words_zero] at hc1; simp at hc1
        obtain ⟨k, hk⟩ : ∃ k, k = 64 - bitLen (dig (val ys) ((List.length (words (val ys))) - 1)) := ⟨_, rfl⟩
        have D := dm hB hle hk
        have Dk := D.k64
        have Dv := D.v
        have Dw := D.w
        have Dl := D.le
        refine Tri.skip ?_
        refine At.bln ?_
        refine At.thn (hK3 _ _ ?_); clear hK3
        refine Tri.cv (Cv.wk (.cons (t := 0) (Has.t rfl) (.cons (t := 1) (Has.t rfl) (.cons (t := 4) (Has.t rfl) (.cons (t := 5) (Has.t rfl) (.cons (t := 6) (Has.t rfl) .nil)))))) ?_
        refine Tri.seq fun K11 hK11 => ?_
        refine Tri.region ?_
        refine st (OK1.mv (Has.t rfl)) rfl ?_
        refine st (OK1.mv (Has.t rfl)) rfl ?_
        refine st (OK1.len sl59 (Has.t rfl)) rfl ?_
        refine st (OK1.subI (Has.t rfl) (Has.cI 1 rfl) (by omega) (by omega)) rfl ?_
        refine st (OK1.ixP sl59 ty28 (Has.t rfl) (Has.t rfl) ⟨by omega, by omega⟩ (getD_some (d := 0) (by omega))) rfl ?_
        refine st (OK1.eq (OK1.loadP1 (Has.t rfl) ty28) ((show isU _ = isU (dig (val ys) ((List.length (words (val ys))) - 1)) from isU_eq (getV (by omega))))) rfl ?_
        refine st (OK1.eq (OK1.call (bits_LZ64) (.cons (Has.t rfl) .nil)) ((show isI _ = isI ((k : Nat) : Int) from isI_eq (by rw [hk])))) rfl ?_
        refine st (OK1.as (Has.t rfl)) rfl ?_
        refine nl ?_
        refine At.thn (hK11 _ _ ?_); clear hK11
        refine Tri.cv (Cv.wk (.cons (t := 0) (Has.t rfl) (.cons (t := 1) (Has.t rfl) (.cons (t := 4) (Has.t rfl) (.cons (t := 5) (Has.t rfl) (.cons (t := 6) (Has.t rfl) (.cons (t := 10) (Has.t rfl) .nil))))))) ?_
        refine Tri.seq fun K12 hK12 => ?_
        refine Tri.region ?_
        refine st (OK1.mv (Has.t rfl)) rfl ?_
        refine st (OK1.mv (Has.t rfl)) rfl ?_
        refine st (OK1.eq (OK1.call (nat_Shl (by omega) (by rw [val_words]; omega)) (.cons (Has.t rfl) (.cons (Has.t rfl) .nil))) (by simp only [val_words]; rfl)) rfl ?_
        refine st (OK1.mv (Has.t rfl)) rfl ?_
        refine st (OK1.ext (Has.t rfl) rfl) rfl ?_
        refine st (OK1.ext (Has.t rfl) rfl) rfl ?_
        refine st (OK1.as (Has.t rfl)) rfl ?_
        refine st (OK1.as (Has.t rfl)) rfl ?_
        refine nl ?_
        refine At.thn (hK12 _ _ ?_); clear hK12
        refine Tri.cv (Cv.wk (.cons (t := 0) (Has.t rfl) (.cons (t := 4) (Has.t rfl) (.cons (t := 5) (Has.t rfl) (.cons (t := 6) (Has.t rfl) (.cons (t := 10) (Has.t rfl) (.cons (t := 11) (Has.t rfl) .nil))))))) ?_
        refine Tri.seq fun K13 hK13 => ?_
        refine Tri.region ?_
        refine st (OK1.mv (Has.t rfl)) rfl ?_
        refine st (OK1.mv (Has.t rfl)) rfl ?_
        refine st (OK1.eq (OK1.call (nat_Shl (by omega) (by rw [val_words]; omega)) (.cons (Has.t rfl) (.cons (Has.t rfl) .nil))) (by simp only [val_words]; rfl)) rfl ?_
        refine st (OK1.mv (Has.t rfl)) rfl ?_
        refine st (OK1.ext (Has.t rfl) rfl) rfl ?_
        refine st (OK1.ext (Has.t rfl) rfl) rfl ?_
        refine st (OK1.as (Has.t rfl)) rfl ?_
        refine st (OK1.as (Has.t rfl)) rfl ?_
        refine nl ?_
        refine At.thn (hK13 _ _ ?_); clear hK13
        refine Tri.cv (Cv.wk (.cons (t := 0) (Has.t rfl) (.cons (t := 4) (Has.t rfl) (.cons (t := 5) (Has.t rfl) (.cons (t := 6) (Has.t rfl) (.cons (t := 10) (Has.t rfl) (.cons (t := 11) (Has.t rfl) (.cons (t := 13) (Has.t rfl) .nil)))))))) ?_
        refine Tri.seq fun K14 hK14 => ?_
        refine Tri.region ?_
        refine st (OK1.mv (Has.t rfl)) rfl ?_
        refine st (OK1.len sl59 (Has.t rfl)) rfl ?_
        refine st (OK1.addI (Has.t rfl) (Has.cI 1 rfl) (by omega) (by omega)) rfl ?_
        refine Ops.make (f := isU) (u := 0) (n := (List.length (words (val xs))) + 1) (c := (List.length (words (val xs))) + 1) sl59 ty28 zero28 (fun _ _ => ⟨⟨rfl, by decide⟩, trivial⟩) by28 (Has.t' rfl rfl) (Has.t' rfl rfl) ⟨by omega, by omega⟩ rfl fun b1 => ?_
        refine st (OK1.as (Has.t rfl)) rfl ?_
        refine nl ?_
        refine At.thn (hK14 _ _ ?_); clear hK14
        refine Tri.cv (Cv.wk (.cons (t := 4) (Has.t rfl) (.cons (t := 5) (Has.t rfl) (.cons (t := 6) (Has.t rfl) (.cons (t := 10) (Has.t rfl) (.cons (t := 11) (Has.t rfl) (.cons (t := 13) (Has.t rfl) (.cons (t := 15) (Has.t rfl) .nil)))))))) ?_
        refine Tri.seq fun K15 hK15 => ?_
        refine Tri.region ?_
        refine st (OK1.mv (Has.t rfl)) rfl ?_
        refine st (OK1.mv (Has.t rfl)) rfl ?_
        refine Ops.copyW sl59 ty28 (fun _ => inferInstance) (Has.t rfl) (Has.t rfl) (i := 0) rfl ⟨Dw, by simp⟩ rfl (M' := [(some b1, cellM (List.map isU (wordsN ((List.length (words (val xs))) + 1) (val xs * 2 ^ k))))]) (memL_eq (copy_words Dw)) ?_
        refine nl ?_
        refine At.thn (hK15 _ _ ?_); clear hK15
        refine Tri.seq fun K16 hK16 => ?_
        refine Tri.region ?_
        refine st (OK1.mv (Has.t rfl)) rfl ?_
        refine st (OK1.mv (Has.t rfl)) rfl ?_
        refine Ops.callM (div_long (N := val xs * 2 ^ k) (v := val ys * 2 ^ k) (m := (List.length (words (val xs))) + 1) (by omega) (by omega) (by omega) D.lt) (i := 0) rfl (.cons (Has.t rfl) (.cons (Has.t rfl) .nil)) rfl (M' := [(_, _)]) rfl ?_
        refine st (OK1.as (Has.t rfl)) rfl ?_
        refine nl ?_
        refine At.thn (hK16 _ _ ?_); clear hK16
        refine Tri.cv (Cv.wk (.cons (t := 4) (Has.t rfl) (.cons (t := 5) (Has.t rfl) (.cons (t := 6) (Has.t rfl) (.cons (t := 10) (Has.t rfl) (.cons (t := 15) (Has.t rfl) (.cons (t := 16) (Has.t rfl) .nil))))))) ?_
        refine Tri.seq fun K17 hK17 => ?_
        refine Tri.cv (Cv.freeze' (t := 15) (i := 0) (ys := wordsN ((List.length (words (val xs))) + 1) (left (val xs * 2 ^ k) (val ys * 2 ^ k) 0)) rfl rfl rfl (by simp [wordsN_len]) (freeze_all (wordsN_len _ _).symm)) ?_
        refine Tri.memEq (M' := []) rfl ?_
        refine Tri.cv (Cv.wk (.cons (t := 4) (Has.t rfl) (.cons (t := 5) (Has.t rfl) (.cons (t := 6) (Has.t rfl) (.cons (t := 10) (Has.t rfl) (.cons (t := 15) (Has.t rfl) (.cons (t := 16) (Has.t rfl) .nil))))))) ?_
        refine Tri.region ?_
        refine st (OK1.mv (Has.t rfl)) rfl ?_
        refine st (OK1.mv (Has.t rfl)) rfl ?_
        refine st (OK1.call (nat_Shr (by omega) (by have := nw_val_wordsN ((List.length (words (val xs))) + 1) (left (val xs * 2 ^ k) (val ys * 2 ^ k) 0); omega)) (.cons (Has.t rfl) (.cons (Has.t rfl) .nil))) rfl ?_
        refine st (OK1.mv (Has.t rfl)) rfl ?_
        refine st (OK1.ext (Has.t rfl) rfl) rfl ?_
        refine st (OK1.ext (Has.t rfl) rfl) rfl ?_
        refine st (OK1.as (Has.t rfl)) rfl ?_
        refine st (OK1.as (Has.t rfl)) rfl ?_
        refine nl ?_
        refine At.thn (hK17 _ _ ?_); clear hK17
        refine Tri.cv (Cv.wk (.cons (t := 4) (Has.t rfl) (.cons (t := 5) (Has.t rfl) (.cons (t := 6) (Has.t rfl) (.cons (t := 16) (Has.t rfl) (.cons (t := 17) (Has.t rfl) .nil)))))) ?_
        refine Tri.seq fun K18 hK18 => ?_
        refine Tri.region ?_
        refine st (OK1.mv (Has.t rfl)) rfl ?_
        refine st (OK1.call (nat_Norm (by have := nw_val_wordsN ((List.length (words (val xs))) + 1 - (List.length (words (val ys * 2 ^ k)))) (val xs * 2 ^ k / (val ys * 2 ^ k)); omega)) (.cons (Has.t rfl) .nil)) rfl ?_
        refine st (OK1.mv (Has.t rfl)) rfl ?_
        refine st (OK1.as (Has.t rfl)) rfl ?_
        refine st (OK1.as (Has.t rfl)) rfl ?_
        refine st (OK1.as (Has.cB true)) rfl ?_
        refine nl ?_
        refine At.thn (hK18 _ _ ?_); clear hK18
        refine Tri.cv (Cv.wk (.cons (t := 4) (Has.t rfl) (.cons (t := 5) (Has.t rfl) (.cons (t := 6) (Has.t rfl) .nil)))) ?_
        refine Tri.ret ?_
        refine rtN (.inl rfl) Tryz.results90 rfl rfl (.tmp (Has.t' rfl ?_) (.tmp (Has.t' rfl ?_) (.tmp (Has.t' rfl ?_) .nil)))
        · exact SlM_eq (dm_quo hB D rfl rfl)
        · exact SlM_eq (by rw [if_neg hB, dm_rest hB D rfl])
        · exact isB_eq (by simp [hB])
set_option maxHeartbeats 4000000 in
theorem nat_Bits {xs : List Nat} (hx : (List.length (words (val xs))) < 4294967296) : Ctr Tryz.prog 86 [isWords xs] (isI ((bitLen (val xs) : Nat) : Int)) := by
  refine Ctr.intro Tryz.func86 rfl (by kernel_rfl) Tryz.ntmps86 rfl fun w0 F0 => ?_
  refine Tri.cv (Cv.wk (.cons (t := 0) (Has.t rfl) .nil)) ?_
  refine Tri.fact (Has.lenLt (Has.t (t := 0) rfl)) fun lt0 => ?_
  refine Tri.fact (Has.okW (Has.t (t := 0) rfl)) fun ok0 => ?_
  refine Tri.seq fun K1 hK1 => ?_
  refine Tri.region ?_
  refine st (OK1.as (Has.cI 0 rfl)) rfl ?_
  refine nl ?_
  refine At.thn (hK1 _ _ ?_); clear hK1
  refine Tri.seq fun K2 hK2 => ?_
  refine Tri.region ?_
  refine st (OK1.mv (Has.t rfl)) rfl ?_
  refine st (OK1.call (nat_trim) (.cons (Has.t rfl) .nil)) rfl ?_
  refine st (OK1.as (Has.t rfl)) rfl ?_
  refine nl ?_
  refine At.thn (hK2 _ _ ?_); clear hK2
  refine Tri.seq fun K3 hK3 => ?_
  refine Tri.seq fun K4 hK4 => ?_
  refine Tri.region ?_
  refine st (OK1.mv (Has.t rfl)) rfl ?_
  refine st (OK1.len sl59 (Has.t rfl)) rfl ?_
  refine st (OK1.eqI (Has.t rfl) (Has.cI 0 rfl)) rfl ?_
  refine nl ?_
  refine At.thn (hK4 _ _ ?_); clear hK4
  refine Tri.cond (Has.t rfl) (fun hc1 => ?_) (fun hc1 => ?_)
  · have hc1 := BP.t hc1
    refine Tri.seq fun K5 hK5 => ?_
    refine Tri.region ?_
    refine st (OK1.as (Has.cI 0 rfl)) rfl ?_
    refine nl ?_
    refine At.thn (hK5 _ _ ?_); clear hK5
    refine Tri.cv (Cv.wk (.cons (t := 0) (Has.t rfl) (.cons (t := 2) (Has.t rfl) .nil))) ?_
    refine Tri.ret ?_
    refine At.thr ?_
    refine rt1 (.inl rfl) Tryz.results86 rfl (.tmp (Has.t' rfl ?_) .nil)
    all_goals (exact isI_eq (by rw [bits_zero (A := val xs) (by omega)]; rfl))
  · have hc1 := BP.f hc1
    have hb := bits_int (A := val xs) (by omega)
    have hd := bitLen_le64 (dig_lt (val xs) ((List.length (words (val xs))) - 1))
    refine Tri.skip ?_
    refine At.thn (hK3 _ _ ?_); clear hK3
    refine Tri.cv (Cv.wk (.cons (t := 0) (Has.t rfl) (.cons (t := 2) (Has.t rfl) .nil))) ?_
    refine Tri.seq fun K6 hK6 => ?_
    refine Tri.region ?_
    refine st (OK1.mv (Has.t rfl)) rfl ?_
    refine st (OK1.len sl59 (Has.t rfl)) rfl ?_
    refine st (OK1.subI (Has.t rfl) (Has.cI 1 rfl) (by omega) (by omega)) rfl ?_
    refine st (OK1.mulI (Has.cI 64 rfl) (Has.t rfl) (by omega) (by omega)) rfl ?_
    refine st (OK1.mv (Has.t rfl)) rfl ?_
    refine st (OK1.mv (Has.t rfl)) rfl ?_
    refine st (OK1.len sl59 (Has.t rfl)) rfl ?_
    refine st (OK1.subI (Has.t rfl) (Has.cI 1 rfl) (by omega) (by omega)) rfl ?_
    refine st (OK1.ixP sl59 ty28 (Has.t rfl) (Has.t rfl) ⟨by omega, by omega⟩ (getD_some (d := 0) (by omega))) rfl ?_
    refine st (OK1.eq (OK1.loadP1 (Has.t rfl) ty28) ((show isU _ = isU (dig (val xs) ((List.length (words (val xs))) - 1)) from isU_eq (getV (by omega))))) rfl ?_
    refine st (OK1.call (bits_Len64) (.cons (Has.t rfl) .nil)) rfl ?_
    refine st (OK1.addI (Has.t rfl) (Has.t rfl) (by omega) (by omega)) rfl ?_
    refine st (OK1.as (Has.t rfl)) rfl ?_
    refine nl ?_
    refine At.thn (hK6 _ _ ?_); clear hK6
    refine Tri.cv (Cv.wk (.cons (t := 2) (Has.t rfl) .nil)) ?_
    refine Tri.ret ?_
    refine rt1 (.inl rfl) Tryz.results86 rfl (.tmp (Has.t' rfl ?_) .nil)
    all_goals (exact isI_eq (by omega))
end Go.Proofs.YtkgipdidomikbaaGreat
