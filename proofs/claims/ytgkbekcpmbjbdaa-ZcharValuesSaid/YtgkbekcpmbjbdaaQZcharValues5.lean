/- The law ZcharValues, as it is stated, of the given program, for every input; no condition. -/
import Derived.Test.YtgkbekcpmbjbdaaQZcharValues4
import Derived.Deep.SlicePairs
import Derived.Test.YtgkbekcpmbjbdaaRows
/- Contracts: powers of a matrix, the document's. -/
namespace Go.Proofs.Ytgkbekcpmbjbdaa
open Go.En Go.RowKit
set_option linter.unusedVariables false
set_option maxRecDepth 10000
open Go.Nt
open Go.Pz
open Go.Mz
open Go.Hn
open Go.Hp
open Go.Dt
open Go.Ch
set_option maxHeartbeats 4000000 in
theorem ref11_One {n : Nat} (hn : n ≤ 64) : Ctr Try.prog 59 [isI (n : Int)] (isP (oneL n)) := by
  refine Ctr.intro Try.func59 rfl (by kernel_rfl) Try.ntmps59 rfl fun w0 F0 => ?_
  refine Tri.cv (Cv.wk (.cons (t := 0) (Has.t rfl) .nil)) ?_
  refine Tri.fact (Has.rngI (Has.t (t := 0) rfl)) fun lt0 => ?_
  have hRC := side_le hn hn
  refine Tri.seq fun K1 hK1 => ?_
  refine Tri.region ?_
  refine st (OK1.as (Has.cWK (k := 2) (fk := zc))) rfl ?_
  refine nl ?_
  refine At.thn (hK1 _ _ ?_); clear hK1
  refine Tri.seq fun K2 hK2 => ?_
  refine Tri.region ?_
  refine Ops.cv (Cv.grow0K (α := Bool × List Nat) zc) ?_
  refine st (OK1.as (Has.cGr (α := Bool × List Nat))) rfl ?_
  refine nl ?_
  refine At.thn (hK2 _ _ ?_); clear hK2
  refine Tri.seq fun K3 hK3 => ?_
  refine Tri.seq fun K4 hK4 => ?_
  refine Tri.region ?_
  refine st (OK1.as (Has.cI 0 rfl)) rfl ?_
  refine nl ?_
  refine At.thn (hK4 _ _ ?_); clear hK4
  refine Tri.block ?_
  refine Tri.loopF [0, 2] (fun (z : { z : Nat × Gr (Bool × List Nat) // z.1 ≤ n }) => match z with | ⟨(i, g), hI⟩ => [(4, isI (i : Int)), (3, isGr g ((tab (i * n + 0) n one).map nz).length)]) (fun M => fun (z : { z : Nat × Gr (Bool × List Nat) // z.1 ≤ n }) => match z with | ⟨(i, g), hI⟩ => [grMK zc g ((tab (i * n + 0) n one).map nz)]) (fun (z : { z : Nat × Gr (Bool × List Nat) // z.1 ≤ n }) => match z with | ⟨(i, g), hI⟩ => n - i) (⟨(0, Gr.nil), Nat.zero_le _⟩) (Cv.mem (.cons (t := 4) (Has.t' rfl ?_) (.cons (t := 3) (Has.t' rfl ?_) (.cons (t := 0) (Has.t rfl) (.cons (t := 2) (Has.t rfl) .nil)))) ?_) ?_
  · rfl
  · exact isGr_eq (by rw [List.length_map, tab_len, Nat.zero_mul])
  · exact grMK_eq (show [] = (tab (0 * n + 0) n one).map nz by rw [Nat.zero_mul]; rfl)
  rintro ⟨⟨i, g⟩, hI⟩ K5 hK5
  refine Tri.cv (Cv.wk (.cons (t := 4) (Has.t rfl) (.cons (t := 3) (Has.t rfl) (.cons (t := 0) (Has.t rfl) (.cons (t := 2) (Has.t rfl) .nil))))) ?_
  refine Tri.memEq (M' := [grMK zc g ((tab (i * n + 0) n one).map nz)]) rfl ?_
  simp only [] at hI
  refine Tri.seq fun K6 hK6 => ?_
  refine Tri.seq fun K7 hK7 => ?_
  refine Tri.region ?_
  refine st (OK1.mv (Has.t rfl)) rfl ?_
  refine st (OK1.mv (Has.t rfl)) rfl ?_
  refine st (OK1.ltI (Has.t rfl) (Has.t rfl)) rfl ?_
  refine nl ?_
  refine At.thn (hK7 _ _ ?_); clear hK7
  refine Tri.cond (Has.t rfl) (fun hc1 => ?_) (fun hc1 => ?_)
  · have hc1 := BP.t hc1
    refine Tri.skip ?_
    refine At.thn (hK6 _ _ ?_); clear hK6
    refine Tri.seq fun K8 hK8 => ?_
    refine Tri.block ?_
    refine Tri.seq fun K9 hK9 => ?_
    refine Tri.region ?_
    refine st (OK1.as (Has.cI 0 rfl)) rfl ?_
    refine nl ?_
    refine At.thn (hK9 _ _ ?_); clear hK9
    refine Tri.block ?_
    refine Tri.loopF [0, 2, 4, 7, 8, 9] (fun (z : { z : Nat × Gr (Bool × List Nat) // z.1 ≤ n }) => match z with | ⟨(k, g2), hK2⟩ => [(5, isI (k : Int)), (3, isGr g2 ((tab (i * n + k) n one).map nz).length)]) (fun M => fun (z : { z : Nat × Gr (Bool × List Nat) // z.1 ≤ n }) => match z with | ⟨(k, g2), hK2⟩ => [grMK zc g2 ((tab (i * n + k) n one).map nz)]) (fun (z : { z : Nat × Gr (Bool × List Nat) // z.1 ≤ n }) => match z with | ⟨(k, g2), hK2⟩ => n - k) (⟨(0, g), Nat.zero_le _⟩) (Cv.mem (.cons (t := 5) (Has.t' rfl ?_) (.cons (t := 3) (Has.t' rfl ?_) (.cons (t := 0) (Has.t rfl) (.cons (t := 2) (Has.t rfl) (.cons (t := 4) (Has.t rfl) (.cons (t := 7) (Has.t rfl) (.cons (t := 8) (Has.t rfl) (.cons (t := 9) (Has.t rfl) .nil)))))))) ?_) ?_
    · rfl
    · rfl
    · rfl
    rintro ⟨⟨k, g2⟩, hK2⟩ K10 hK10
    refine Tri.cv (Cv.wk (.cons (t := 5) (Has.t rfl) (.cons (t := 3) (Has.t rfl) (.cons (t := 0) (Has.t rfl) (.cons (t := 2) (Has.t rfl) (.cons (t := 4) (Has.t rfl) (.cons (t := 7) (Has.t rfl) (.cons (t := 8) (Has.t rfl) (.cons (t := 9) (Has.t rfl) .nil))))))))) ?_
    refine Tri.memEq (M' := [grMK zc g2 ((tab (i * n + k) n one).map nz)]) rfl ?_
    simp only [] at hK2
    refine Tri.seq fun K11 hK11 => ?_
    refine Tri.seq fun K12 hK12 => ?_
    refine Tri.region ?_
    refine st (OK1.mv (Has.t rfl)) rfl ?_
    refine st (OK1.mv (Has.t rfl)) rfl ?_
    refine st (OK1.ltI (Has.t rfl) (Has.t rfl)) rfl ?_
    refine nl ?_
    refine At.thn (hK12 _ _ ?_); clear hK12
    refine Tri.cond (Has.t rfl) (fun hc2 => ?_) (fun hc2 => ?_)
    · have hc2 := BP.t hc2
      refine Tri.skip ?_
      refine At.thn (hK11 _ _ ?_); clear hK11
      refine Tri.seq fun K13 hK13 => ?_
      refine Tri.block ?_
      refine Tri.seq fun K14 hK14 => ?_
      refine Tri.region ?_
      refine st (OK1.call (zint_Of) (.cons (Has.cI 0 rfl) .nil)) rfl ?_
      refine Ops.alloc [isB false, SlM isU []] zero44 (fun _ _ => ⟨rfl, nilM _ _, trivial⟩) rfl fun b1 => ?_
      refine Ops.store (Has.t rfl) (Has.t rfl) (i := 0) rfl ty44 rfl rfl (Ss' := [_, _]) rfl (M' := [(some _, cellM [_, _]), _]) rfl ?_
      refine nl ?_
      refine At.thn (hK14 _ _ ?_); clear hK14
      refine Tri.seq fun K15 hK15 => ?_
      refine Tri.seq fun K16 hK16 => ?_
      refine Tri.region ?_
      refine st (OK1.mv (Has.t rfl)) rfl ?_
      refine st (OK1.mv (Has.t rfl)) rfl ?_
      refine st (OK1.eqI (Has.t rfl) (Has.t rfl)) rfl ?_
      refine nl ?_
      refine At.thn (hK16 _ _ ?_); clear hK16
      refine Tri.cond (Has.t rfl) (fun hc3 => ?_) (fun hc3 => ?_)
      · have hc3 := BP.t hc3
        have hik : one i k = 1 := by unfold one; rw [if_pos (by omega)]
        refine Tri.region ?_
        refine st (OK1.call (zint_Of) (.cons (Has.cI 1 rfl) .nil)) rfl ?_
        refine Ops.store (Has.t rfl) (Has.t rfl) (i := 0) rfl ty44 rfl rfl (Ss' := [_, _]) rfl (M' := [(some _, cellM [_, _]), _]) rfl ?_
        refine nl ?_
        refine At.thn (hK15 _ _ ?_); clear hK15
        refine Tri.region ?_
        refine st (OK1.mv (Has.t rfl)) rfl ?_
        refine st (OK1.eq (OK1.load (Has.t rfl) (i := 0) rfl ty44 rfl (Ss' := [_, _]) rfl) ((show _ = Flat (zc (nz (one i k))) from isZ_eq hik.symm))) rfl ?_
        refine st (OK1.buildS [isB false, SlM isU []] sl22 ty44 zero44 (fun _ _ => ⟨rfl, nilM _ _, trivial⟩) rfl rfl (.cons (Has.t rfl) rfl rfl rfl .nil) rfl (S := SlK 2 zc [nz (one i k)]) rfl) rfl ?_
        refine Ops.appendGK (fk := zc) (u := (false, [])) zc_len (by decide) (fun _ => inferInstance) sl22 ty44 zero44 (fun _ _ => ⟨rfl, nilM _ _, trivial⟩) by44 (Has.t rfl) (i := 1) rfl (Has.t rfl) (by have hpl := place_lt (show i < n by omega) (show k < n by omega); rw [List.length_map, tab_len]; show i * n + k + 1 ≤ _; omega) (by simp) rfl fun gr1 => ?_
        refine Ops.memEq (M' := [_, grMK _ _ _]) rfl ?_
        refine st (OK1.as (Has.t rfl)) rfl ?_
        refine nl ?_
        refine At.bln ?_
        refine At.thn (hK13 _ _ ?_); clear hK13
        refine Tri.region ?_
        refine st (OK1.mv (Has.t rfl)) rfl ?_
        refine st (OK1.addI (Has.t rfl) (Has.cI 1 rfl) (by first | omega | assumption) (by first | omega | assumption)) rfl ?_
        refine st (OK1.as (Has.t rfl)) rfl ?_
        refine nl ?_
        refine At.thn ?_
        refine hK10 (⟨(k + 1, gr1), by show k + 1 ≤ n; omega⟩) _ _ ?_ (Cv.trans (Cv.drop ((.cons _ (.cons_cons _ .slnil)))) (Cv.mem (.cons (t := 5) (Has.t' rfl ?_) (.cons (t := 3) (Has.t' rfl ?_) (.cons (t := 0) (Has.t rfl) (.cons (t := 2) (Has.t rfl) (.cons (t := 4) (Has.t rfl) (.cons (t := 7) (Has.t rfl) (.cons (t := 8) (Has.t rfl) (.cons (t := 9) (Has.t rfl) .nil)))))))) ?_))
        · show n - (k + 1) < n - k; omega
        · exact isI_eq (by omega)
        · exact isGr_eq (by rw [← tab_succ one (show k < n by omega), List.map_append, List.length_append]; rfl)
        · exact grMK_eq (by rw [← tab_succ one (show k < n by omega), List.map_append]; rfl)
      · have hc3 := BP.f hc3
        have hik : one i k = 0 := by unfold one; rw [if_neg (by omega)]
        refine Tri.skip ?_
        refine At.thn (hK15 _ _ ?_); clear hK15
        refine Tri.region ?_
        refine st (OK1.mv (Has.t rfl)) rfl ?_
        refine st (OK1.eq (OK1.load (Has.t rfl) (i := 0) rfl ty44 rfl (Ss' := [_, _]) rfl) ((show _ = Flat (zc (nz (one i k))) from isZ_eq hik.symm))) rfl ?_
        refine st (OK1.buildS [isB false, SlM isU []] sl22 ty44 zero44 (fun _ _ => ⟨rfl, nilM _ _, trivial⟩) rfl rfl (.cons (Has.t rfl) rfl rfl rfl .nil) rfl (S := SlK 2 zc [nz (one i k)]) rfl) rfl ?_
        refine Ops.appendGK (fk := zc) (u := (false, [])) zc_len (by decide) (fun _ => inferInstance) sl22 ty44 zero44 (fun _ _ => ⟨rfl, nilM _ _, trivial⟩) by44 (Has.t rfl) (i := 1) rfl (Has.t rfl) (by have hpl := place_lt (show i < n by omega) (show k < n by omega); rw [List.length_map, tab_len]; show i * n + k + 1 ≤ _; omega) (by simp) rfl fun gr1 => ?_
        refine Ops.memEq (M' := [_, grMK _ _ _]) rfl ?_
        refine st (OK1.as (Has.t rfl)) rfl ?_
        refine nl ?_
        refine At.bln ?_
        refine At.thn (hK13 _ _ ?_); clear hK13
        refine Tri.region ?_
        refine st (OK1.mv (Has.t rfl)) rfl ?_
        refine st (OK1.addI (Has.t rfl) (Has.cI 1 rfl) (by first | omega | assumption) (by first | omega | assumption)) rfl ?_
        refine st (OK1.as (Has.t rfl)) rfl ?_
        refine nl ?_
        refine At.thn ?_
        refine hK10 (⟨(k + 1, gr1), by show k + 1 ≤ n; omega⟩) _ _ ?_ (Cv.trans (Cv.drop ((.cons _ (.cons_cons _ .slnil)))) (Cv.mem (.cons (t := 5) (Has.t' rfl ?_) (.cons (t := 3) (Has.t' rfl ?_) (.cons (t := 0) (Has.t rfl) (.cons (t := 2) (Has.t rfl) (.cons (t := 4) (Has.t rfl) (.cons (t := 7) (Has.t rfl) (.cons (t := 8) (Has.t rfl) (.cons (t := 9) (Has.t rfl) .nil)))))))) ?_))
        · show n - (k + 1) < n - k; omega
        · exact isI_eq (by omega)
        · exact isGr_eq (by rw [← tab_succ one (show k < n by omega), List.map_append, List.length_append]; rfl)
        · exact grMK_eq (by rw [← tab_succ one (show k < n by omega), List.map_append]; rfl)
    · have hc2 := BP.f hc2
      refine Tri.exit ?_
      refine At.the ?_
      refine At.the ?_
      refine At.blh ?_
      refine At.bln ?_
      refine At.thn (hK8 _ _ ?_); clear hK8
      refine Tri.region ?_
      refine st (OK1.mv (Has.t rfl)) rfl ?_
      refine st (OK1.addI (Has.t rfl) (Has.cI 1 rfl) (by first | omega | assumption) (by first | omega | assumption)) rfl ?_
      refine st (OK1.as (Has.t rfl)) rfl ?_
      refine nl ?_
      refine At.thn ?_
      have hkD : k = n := by omega
      refine hK5 (⟨(i + 1, g2), by show i + 1 ≤ n; omega⟩) _ _ ?_ (Cv.mem (.cons (t := 4) (Has.t' rfl ?_) (.cons (t := 3) (Has.t' rfl ?_) (.cons (t := 0) (Has.t rfl) (.cons (t := 2) (Has.t rfl) .nil)))) ?_)
      · show n - (i + 1) < n - i; omega
      · exact isI_eq (by omega)
      · exact isGr_eq (by rw [hkD, tab_next])
      · exact grMK_eq (by rw [hkD, tab_next])
  · have hc1 := BP.f hc1
    refine Tri.exit ?_
    refine At.the ?_
    refine At.the ?_
    refine At.blh ?_
    refine At.thn (hK3 _ _ ?_); clear hK3
    refine Tri.cv (Cv.wk (.cons (t := 2) (Has.t rfl) (.cons (t := 3) (Has.t rfl) .nil))) ?_
    refine Tri.seq fun K17 hK17 => ?_
    refine Tri.cv (Cv.freezeGK (t := 3) (i := 0) (ys := (tab (i * n + 0) n one).map nz) zc_len rfl rfl rfl) ?_
    refine Tri.memEq (M' := []) rfl ?_
    refine Tri.cv (Cv.wk (.cons (t := 2) (Has.t rfl) (.cons (t := 3) (Has.t rfl) .nil))) ?_
    refine Tri.region ?_
    refine st (OK1.mv (Has.t rfl)) rfl ?_
    refine st (OK1.as (Has.t rfl)) rfl ?_
    refine nl ?_
    refine At.thn (hK17 _ _ ?_); clear hK17
    refine Tri.ret ?_
    refine rt1 (.inl rfl) Try.results59 rfl (.tmp (Has.t' rfl ?_) .nil)
    all_goals (exact isPl_eq (by rw [Nat.add_zero, show i = n by omega]; rfl))
set_option maxHeartbeats 4000000 in
theorem ref26_Power {n K N : Nat} {xs : List (Bool × List Nat)} (hx : Bd (vals xs) K) (hB : 1 + N * (K + n) + K + n ≤ 900) (hn : n ≤ 64) (hl : xs.length = n * n) : Ctr Try.prog 15 [isM (n : Int) (n : Int) xs, isI (N : Int)] (isMz n n (pwL n (vals xs) N)) := by
  refine Ctr.intro Try.func15 rfl (by kernel_rfl) Try.ntmps15 rfl fun w0 F0 => ?_
  refine Tri.cv (Cv.wk (.cons (t := 0) (Has.t rfl) (.cons (t := 1) (Has.t rfl) .nil))) ?_
  refine Tri.fact (Has.rngI (Has.t (t := 1) rfl)) fun lt1 => ?_
  have hRC := side_le hn hn
  refine Tri.seq fun K1 hK1 => ?_
  refine Tri.region ?_
  refine Ops.box (Has.t rfl) rfl fun b1 => ?_
  refine Ops.alloc [isI 0, isI 0, nilS] zero24 (fun _ _ => ⟨⟨rfl, by decide, by decide⟩, ⟨rfl, by decide, by decide⟩, rfl, trivial⟩) rfl fun b2 => ?_
  refine nl ?_
  refine At.thn (hK1 _ _ ?_); clear hK1
  refine Tri.seq fun K2 hK2 => ?_
  refine Tri.drh [true, true] (Ms := [_, _]) rfl ?_
  refine DrH.st (i := 0) [] rfl rfl rfl (by kernel_rfl) (OKG.o rfl (OK1.fieldAddr (Has.t rfl) fld24_0 ty3)) ?_
  refine DrH.st (i := 1) [7] rfl rfl rfl (by kernel_rfl) (OKG.o rfl (OK1.load1 (Has.t rfl) (i := 1) rfl ty3 rfl)) ?_
  refine DrH.st (i := 2) [] rfl rfl rfl (by kernel_rfl) (OKG.o rfl (OK1.fieldAddr (Has.t rfl) fld24_0 ty3)) ?_
  refine DrH.st (i := 3) [9] rfl rfl rfl (by kernel_rfl) (OKG.o rfl (OK1.load1 (Has.t rfl) (i := 1) rfl ty3 rfl)) ?_
  refine DrH.st (i := 4) [] rfl rfl rfl (by kernel_rfl) (OKG.o rfl (OK1.fieldAddr (Has.t rfl) fld24_0 ty3)) ?_
  refine DrH.st (i := 5) [11] rfl rfl rfl (by kernel_rfl) (OKG.o rfl (OK1.load1 (Has.t rfl) (i := 1) rfl ty3 rfl)) ?_
  refine DrH.st (i := 6) [12] rfl rfl rfl (by kernel_rfl) (OKG.o rfl (OK1.call (ref11_One hn) (.cons (Has.t rfl) .nil))) ?_
  refine DrH.st (i := 7) [8, 10, 13] rfl rfl rfl (by kernel_rfl) (OKG.o rfl (OK1.build [isI 0, isI 0, nilS] pl24 zero24 (fun _ _ => ⟨⟨rfl, by decide, by decide⟩, ⟨rfl, by decide, by decide⟩, rfl, trivial⟩) (.cons (Has.t rfl) rfl rfl rfl (.cons (Has.t rfl) rfl rfl rfl (.cons (Has.t rfl) rfl rfl rfl .nil))) (Z'' := [_, _, _]) rfl)) ?_
  refine DrH.als (n1 := 9) (ds := [5]) (zs := [[isI 0, isI 0, nilS]]) rfl (.cons rfl rfl zero24 (fun _ _ => ⟨⟨rfl, by decide, by decide⟩, ⟨rfl, by decide, by decide⟩, rfl, trivial⟩) .nil) (.cons_cons _ (.cons_cons _ .slnil)) (Cs := [_]) rfl ?_
  refine DrN.fin (n := 9) mixed rfl (by kernel_rfl) (by kernel_rfl) (by kernel_rfl) (fun bs hbs => ?_)
  obtain ⟨b3, rfl⟩ := len1 hbs
  refine Ops.memEq (M' := [_, _, _]) rfl ?_
  refine Ops.cv (Cv.wk (.cons (t := 1) (Has.t rfl) (.cons (t := 2) (Has.t rfl) (.cons (t := 4) (Has.t rfl) (.cons (t := 14) (Has.t rfl) (.cons (t := 5) (Has.op rfl) .nil)))))) ?_
  refine Ops.store (Has.t rfl) (Has.t rfl) (i := 0) rfl ty24 rfl rfl (Ss' := [_, _, _]) rfl (M' := [(some _, cellM [_, _, _]), _, _]) rfl ?_
  refine nl ?_
  refine At.thn (hK2 _ _ ?_); clear hK2
  refine Tri.seq fun K3 hK3 => ?_
  refine Tri.seq fun K4 hK4 => ?_
  refine Tri.region ?_
  refine st (OK1.as (Has.cI 0 rfl)) rfl ?_
  refine nl ?_
  refine At.thn (hK4 _ _ ?_); clear hK4
  refine Tri.block ?_
  refine Tri.loopF [1, 2, 4, 5] (fun (z : { i : Nat // i ≤ N }) => match z with | ⟨i, hi⟩ => [(6, isI (i : Int))]) (fun M => fun (z : { i : Nat // i ≤ N }) => match z with | ⟨i, hi⟩ => [(some b3, cellM [isI (n : Int), isI (n : Int), SlK 2 zc ((pwL n (vals xs) i).map nz)]), (some b2, cellM [isI 0, isI 0, nilS]), (some b1, cellM [isI (n : Int), isI (n : Int), SlK 2 zc xs])]) (fun (z : { i : Nat // i ≤ N }) => match z with | ⟨i, hi⟩ => N - i) (⟨0, Nat.zero_le _⟩) (Cv.mem (.cons (t := 6) (Has.t' rfl ?_) (.cons (t := 1) (Has.t rfl) (.cons (t := 2) (Has.t rfl) (.cons (t := 4) (Has.t rfl) (.cons (t := 5) (Has.t rfl) .nil))))) ?_) ?_
  · rfl
  · rfl
  rintro ⟨i, hi⟩ K5 hK5
  refine Tri.cv (Cv.wk (.cons (t := 6) (Has.t rfl) (.cons (t := 1) (Has.t rfl) (.cons (t := 2) (Has.t rfl) (.cons (t := 4) (Has.t rfl) (.cons (t := 5) (Has.t rfl) .nil)))))) ?_
  refine Tri.memEq (M' := [(some b3, cellM [isI (n : Int), isI (n : Int), SlK 2 zc ((pwL n (vals xs) i).map nz)]), (some b2, cellM [isI 0, isI 0, nilS]), (some b1, cellM [isI (n : Int), isI (n : Int), SlK 2 zc xs])]) rfl ?_
  have him : i * (K + n) ≤ N * (K + n) := Nat.mul_le_mul_right _ hi
  have hpb := pwL_bd (n := n) hx i
  have hpl := pwL_len n (vals xs) i
  refine Tri.seq fun K6 hK6 => ?_
  refine Tri.seq fun K7 hK7 => ?_
  refine Tri.region ?_
  refine st (OK1.mv (Has.t rfl)) rfl ?_
  refine st (OK1.mv (Has.t rfl)) rfl ?_
  refine st (OK1.ltI (Has.t rfl) (Has.t rfl)) rfl ?_
  refine nl ?_
  refine At.thn (hK7 _ _ ?_); clear hK7
  refine Tri.cond (Has.t rfl) (fun hc1 => ?_) (fun hc1 => ?_)
  · have hc1 := BP.t hc1
    refine Tri.skip ?_
    refine At.thn (hK6 _ _ ?_); clear hK6
    refine Tri.seq fun K8 hK8 => ?_
    refine Tri.block ?_
    refine Tri.dr ?_
    refine DrG.st (i := 0) [] rfl rfl rfl (by kernel_rfl) (OKG.o rfl (OK1.fieldAddr (Has.t rfl) fld24_0 ty3)) ?_
    refine DrG.st (i := 1) [20] rfl rfl rfl (by kernel_rfl) (OKG.o rfl (OK1.load1 (Has.t rfl) (i := 2) rfl ty3 rfl)) ?_
    refine DrG.st (i := 2) [] rfl rfl rfl (by kernel_rfl) (OKG.o rfl (OK1.fieldAddr (Has.t rfl) fld24_0 ty3)) ?_
    refine DrG.st (i := 3) [22] rfl rfl rfl (by kernel_rfl) (OKG.o rfl (OK1.load1 (Has.t rfl) (i := 2) rfl ty3 rfl)) ?_
    refine DrG.st (i := 4) [] rfl rfl rfl (by kernel_rfl) (OKG.o rfl (OK1.load (Has.t rfl) (i := 0) rfl ty24 rfl (Ss' := [_, _, _]) rfl)) ?_
    refine DrG.st (i := 5) [] rfl rfl rfl (by kernel_rfl) (OKG.o rfl (OK1.load (Has.t rfl) (i := 2) rfl ty24 rfl (Ss' := [_, _, _]) rfl)) ?_
    refine DrG.st (i := 6) [24, 25] rfl rfl rfl (by kernel_rfl) (OKG.o rfl (OK1.eq (OK1.call (ref11_Mul (R := n) (C := n) (D := n) (K := 1 + i * (K + n)) (N := K) (xs := (pwL n (vals xs) i).map nz) (by rw [vals_nz]; exact hpb) hx (by omega) hn hn hn (by rw [List.length_map]; exact hpl) hl) (.cons (Has.t rfl) (.cons (Has.t rfl) .nil))) ((show _ = isP (pwL n (vals xs) (i + 1)) from isPl_eq (by rw [vals_nz]; rfl))))) ?_
    refine DrG.fin (n := 7) mixed (by kernel_rfl) (by kernel_rfl) (by kernel_rfl) ?_
    refine Ops.cv (Cv.wk (.cons (t := 1) (Has.t rfl) (.cons (t := 2) (Has.t rfl) (.cons (t := 4) (Has.t rfl) (.cons (t := 5) (Has.t rfl) (.cons (t := 6) (Has.t rfl) (.cons (t := 15) (Has.t rfl) (.cons (t := 16) (Has.t rfl) (.cons (t := 17) (Has.t rfl) (.cons (t := 20) (Has.t rfl) (.cons (t := 21) (Has.t rfl) (.cons (t := 22) (Has.t rfl) (.cons (t := 23) (Has.t rfl) (.cons (t := 24) (Has.t rfl) (.cons (t := 25) (Has.t rfl) (.cons (t := 26) (Has.t rfl) .nil)))))))))))))))) ?_
    refine st (OK1.build [isI 0, isI 0, nilS] pl24 zero24 (fun _ _ => ⟨⟨rfl, by decide, by decide⟩, ⟨rfl, by decide, by decide⟩, rfl, trivial⟩) (.cons (Has.t rfl) rfl rfl rfl (.cons (Has.t rfl) rfl rfl rfl (.cons (Has.t rfl) rfl rfl rfl .nil))) (Z'' := [_, _, _]) rfl) rfl ?_
    refine Ops.store (Has.t rfl) (Has.t rfl) (i := 0) rfl ty24 rfl rfl (Ss' := [_, _, _]) rfl (M' := [(some _, cellM [_, _, _]), _, _]) rfl ?_
    refine nl ?_
    refine At.bln ?_
    refine At.thn (hK8 _ _ ?_); clear hK8
    refine Tri.region ?_
    refine st (OK1.mv (Has.t rfl)) rfl ?_
    refine st (OK1.addI (Has.t rfl) (Has.cI 1 rfl) (by first | omega | assumption) (by first | omega | assumption)) rfl ?_
    refine st (OK1.as (Has.t rfl)) rfl ?_
    refine nl ?_
    refine At.thn ?_
    refine hK5 (⟨i + 1, by omega⟩) _ _ ?_ (Cv.mem (.cons (t := 6) (Has.t' rfl ?_) (.cons (t := 1) (Has.t rfl) (.cons (t := 2) (Has.t rfl) (.cons (t := 4) (Has.t rfl) (.cons (t := 5) (Has.t rfl) .nil))))) ?_)
    · show N - (i + 1) < N - i; omega
    · exact isI_eq (by omega)
    · rfl
  · have hc1 := BP.f hc1
    refine Tri.exit ?_
    refine At.the ?_
    refine At.the ?_
    refine At.blh ?_
    refine At.thn (hK3 _ _ ?_); clear hK3
    refine Tri.cv (Cv.wk (.cons (t := 4) (Has.t rfl) (.cons (t := 5) (Has.t rfl) .nil))) ?_
    refine Tri.seq fun K9 hK9 => ?_
    refine Tri.region ?_
    refine st (OK1.load (Has.t rfl) (i := 0) rfl ty24 rfl (Ss' := [_, _, _]) rfl) rfl ?_
    refine Ops.store (Has.t rfl) (Has.t rfl) (i := 1) rfl ty24 rfl rfl (Ss' := [_, _, _]) rfl (M' := [_, (some _, cellM [_, _, _]), _]) rfl ?_
    refine nl ?_
    refine At.thn (hK9 _ _ ?_); clear hK9
    refine Tri.ret ?_
    refine rt1 (.inl rfl) Try.results15 rfl (.cell rfl (i := 1) rfl ty24 rfl ?_ .nil)
    all_goals (rw [show N = i by omega])
end Go.Proofs.Ytgkbekcpmbjbdaa
/- Contracts: the document's values at a matrix. -/
namespace Go.Proofs.Ytgkbekcpmbjbdaa
open Go.En Go.RowKit
set_option linter.unusedVariables false
set_option maxRecDepth 10000
open Go.Nt
open Go.Pz
open Go.Mz
open Go.Hn
open Go.Hp
open Go.Dt
open Go.Ch
def vF (n : Nat) (L q : List Int) (i k : Nat) : List Int := (List.range (n * n)).map fun j => sm (if j < k then i + 1 else i) fun m => cf q m * cf (pwL n L m) j
theorem vF_len (n : Nat) (L q : List Int) (i k : Nat) : (vF n L q i k).length = n * n := by unfold vF; rw [List.length_map, List.length_range]
theorem vF_at (n : Nat) (L q : List Int) (i k : Nat) {j : Nat} (h : j < n * n) : cf (vF n L q i k) j = sm (if j < k then i + 1 else i) fun m => cf q m * cf (pwL n L m) j := by unfold vF; rw [cf_tab, if_pos h]
theorem vF_zero (n : Nat) (L q : List Int) : (vF n L q 0 0).map nz = List.replicate (n * n) (false, []) := by
  refine List.ext_getElem? fun j => ?_
  rcases Nat.lt_or_ge j (n * n) with h | h
  · rw [getZ (by rw [vF_len]; exact h), vF_at n L q 0 0 h, if_neg (by omega), List.getElem?_replicate, if_pos h]
    show some (nz 0) = _
    rw [nz_zero]
  · rw [List.getElem?_eq_none (by rw [List.length_map, vF_len]; exact h), List.getElem?_eq_none (by rw [List.length_replicate]; exact h)]
theorem vF_set {n i k : Nat} (L q : List Int) (h : k < n * n) : ((vF n L q i k).map nz).set k (nz (cf (vF n L q i k) k + cf q i * cf (pwL n L i) k)) = (vF n L q i (k + 1)).map nz := by
  refine List.ext_getElem? fun j => ?_
  rcases Nat.lt_or_ge j (n * n) with g | g
  · rw [getZ (l := vF n L q i (k + 1)) (by rw [vF_len]; exact g), vF_at n L q i (k + 1) g]
    by_cases e : k = j
    · subst e
      rw [List.getElem?_set_self (by rw [List.length_map, vF_len]; exact h), vF_at n L q i k h, if_neg (by omega), if_pos (by omega)]; rfl
    · rw [List.getElem?_set_ne e, getZ (by rw [vF_len]; exact g), vF_at n L q i k g]
      by_cases g2 : j < k
      · rw [if_pos g2, if_pos (by omega)]
      · rw [if_neg g2, if_neg (by omega)]
  · rw [List.getElem?_eq_none (by rw [List.length_set, List.length_map, vF_len]; exact g), List.getElem?_eq_none (by rw [List.length_map, vF_len]; exact g)]
theorem vF_next (n : Nat) (L q : List Int) (i : Nat) : vF n L q i (n * n) = vF n L q (i + 1) 0 := by
  unfold vF
  refine List.map_congr_left fun j hj => ?_
  rw [if_pos (List.mem_range.1 hj), if_neg (by omega)]
theorem vF_done (n : Nat) (L q : List Int) (d : Nat) : vF n L q d 0 = vlL n L q d := ext_cf (by rw [vF_len, vlL_len]) fun j hj => by
  rw [vF_len] at hj
  rw [vF_at n L q d 0 hj, if_neg (by omega), vlL_at n L q d hj]
theorem vF_nw {n K Q i k : Nat} {L q : List Int} (hL : Bd L K) (hq : Bd q Q) (j : Nat) : (List.length (words (cf (vF n L q i k) j).natAbs)) ≤ Q + (1 + i * (K + n)) + i + 1 := by
  unfold vF
  rw [cf_tab]
  split
  · have key : ∀ t, t ≤ i + 1 → (List.length (words (sm t fun m => cf q m * cf (pwL n L m) j).natAbs)) ≤ Q + (1 + i * (K + n)) + t := by
      intro t
      induction t with
      | zero => intro _; show (List.length (words (0 : Int).natAbs)) ≤ _; rw [Int.natAbs_zero, words_zero]; exact Nat.zero_le _
      | succ t ih =>
        intro ht
        have h1 := ih (by omega)
        have h2 := nz_mul (cf q t) (cf (pwL n L t) j)
        have h3 := hq t
        have h4 := pwL_bd (n := n) hL t j
        have h5 : t * (K + n) ≤ i * (K + n) := Nat.mul_le_mul_right _ (by omega)
        have h6 := nz_add (sm t fun m => cf q m * cf (pwL n L m) j) (cf q t * cf (pwL n L t) j)
        show (List.length (words ((sm t fun m => cf q m * cf (pwL n L m) j) + cf q t * cf (pwL n L t) j).natAbs)) ≤ _
        omega
    have := key (if j < k then i + 1 else i) (by split <;> omega)
    refine Nat.le_trans this ?_
    split <;> omega
  · rw [Int.natAbs_zero, words_zero]; exact Nat.zero_le _
set_option maxHeartbeats 4000000 in
theorem ref26_Value {n K Q : Nat} {xs qs : List (Bool × List Nat)} (hx : Bd (vals xs) K) (hq : Bd (vals qs) Q) (hB : Q + qs.length * (K + n) + qs.length + K + n + 5 ≤ 900) (hn : n ≤ 64) (hl : xs.length = n * n) : Ctr Try.prog 19 [SlK 2 zc qs, isM (n : Int) (n : Int) xs] (isP (vlL n (vals xs) (vals qs) qs.length)) := by
  refine Ctr.intro Try.func19 rfl (by kernel_rfl) Try.ntmps19 rfl fun w0 F0 => ?_
  refine Tri.cv (Cv.wk (.cons (t := 0) (Has.t rfl) (.cons (t := 1) (Has.t rfl) .nil))) ?_
  refine Tri.fact (Has.lenLt (Has.t (t := 0) rfl)) fun lt0 => ?_
  have hRC := side_le hn hn
  have hcp : ((n : Int) * (n : Int)) = ((n * n : Nat) : Int) := (Int.natCast_mul n n).symm
  refine Tri.seq fun K1 hK1 => ?_
  refine Tri.region ?_
  refine Ops.box (Has.t rfl) rfl fun b1 => ?_
  refine st (OK1.as (Has.cWK (k := 2) (fk := zc))) rfl ?_
  refine nl ?_
  refine At.thn (hK1 _ _ ?_); clear hK1
  refine Tri.seq fun K2 hK2 => ?_
  refine Tri.region ?_
  refine st (OK1.fieldAddr (Has.t rfl) fld24_0 ty3) rfl ?_
  refine st (OK1.load1 (Has.t rfl) (i := 0) rfl ty3 rfl) rfl ?_
  refine st (OK1.fieldAddr (Has.t rfl) fld24_0 ty3) rfl ?_
  refine st (OK1.load1 (Has.t rfl) (i := 0) rfl ty3 rfl) rfl ?_
  refine st (OK1.eq (OK1.mulI (Has.t rfl) (Has.t rfl) (by first | omega | (rw [hcp]; omega)) (by first | omega | (rw [hcp]; omega))) ((show isI _ = isI ((n * n : Nat) : Int) from isI_eq hcp))) rfl ?_
  refine Ops.makeK (fk := zc) (u := (false, [])) (n := n * n) (c := n * n) sl22 ty44 zero44 (fun _ _ => ⟨rfl, nilM _ _, trivial⟩) zc_len by44 (Has.t' rfl rfl) (Has.t' rfl rfl) ⟨by omega, by omega⟩ rfl fun b2 => ?_
  refine st (OK1.as (Has.t rfl)) rfl ?_
  refine nl ?_
  refine At.thn (hK2 _ _ ?_); clear hK2
  refine Tri.cv (Cv.wk (.cons (t := 0) (Has.t rfl) (.cons (t := 3) (Has.t rfl) (.cons (t := 4) (Has.t rfl) (.cons (t := 5) (Has.t rfl) .nil))))) ?_
  refine Tri.seq fun K3 hK3 => ?_
  refine Tri.seq fun K4 hK4 => ?_
  refine Tri.region ?_
  refine st (OK1.as (Has.cI 0 rfl)) rfl ?_
  refine nl ?_
  refine At.thn (hK4 _ _ ?_); clear hK4
  refine Tri.block ?_
  refine Tri.loopF [0, 3, 4, 5] (fun (z : { i : Nat // i ≤ qs.length }) => match z with | ⟨i, hi⟩ => [(6, isI (i : Int))]) (fun M => fun (z : { i : Nat // i ≤ qs.length }) => match z with | ⟨i, hi⟩ => [(some b2, cellM (((vF n (vals xs) (vals qs) i 0).map nz).flatMap zc)), (some b1, cellM [isI (n : Int), isI (n : Int), SlK 2 zc xs])]) (fun (z : { i : Nat // i ≤ qs.length }) => match z with | ⟨i, hi⟩ => qs.length - i) (⟨0, Nat.zero_le _⟩) (Cv.mem (.cons (t := 6) (Has.t' rfl ?_) (.cons (t := 0) (Has.t rfl) (.cons (t := 3) (Has.t rfl) (.cons (t := 4) (Has.t rfl) (.cons (t := 5) (Has.t rfl) .nil))))) ?_) ?_
  · rfl
  · exact memZ_eq (vF_zero n _ _).symm
  rintro ⟨i, hi⟩ K5 hK5
  refine Tri.cv (Cv.wk (.cons (t := 6) (Has.t rfl) (.cons (t := 0) (Has.t rfl) (.cons (t := 3) (Has.t rfl) (.cons (t := 4) (Has.t rfl) (.cons (t := 5) (Has.t rfl) .nil)))))) ?_
  refine Tri.memEq (M' := [(some b2, cellM (((vF n (vals xs) (vals qs) i 0).map nz).flatMap zc)), (some b1, cellM [isI (n : Int), isI (n : Int), SlK 2 zc xs])]) rfl ?_
  have him : i * (K + n) ≤ qs.length * (K + n) := Nat.mul_le_mul_right _ hi
  have hpb := pwL_bd (n := n) hx i
  have hpl := pwL_len n (vals xs) i
  have hpm : ((pwL n (vals xs) i).map nz).length = n * n := by rw [List.length_map]; exact hpl
  have hqi := hq i
  have hqr := hq.raw i
  refine Tri.seq fun K6 hK6 => ?_
  refine Tri.seq fun K7 hK7 => ?_
  refine Tri.region ?_
  refine st (OK1.mv (Has.t rfl)) rfl ?_
  refine st (OK1.mv (Has.t rfl)) rfl ?_
  refine st (OK1.len sl22 (Has.t rfl)) rfl ?_
  refine st (OK1.ltI (Has.t rfl) (Has.t rfl)) rfl ?_
  refine nl ?_
  refine At.thn (hK7 _ _ ?_); clear hK7
  refine Tri.cond (Has.t rfl) (fun hc1 => ?_) (fun hc1 => ?_)
  · have hc1 := BP.t hc1
    refine Tri.skip ?_
    refine At.thn (hK6 _ _ ?_); clear hK6
    refine Tri.seq fun K8 hK8 => ?_
    refine Tri.block ?_
    refine Tri.seq fun K9 hK9 => ?_
    refine Tri.region ?_
    refine st (OK1.load (Has.t rfl) (i := 1) rfl ty24 rfl (Ss' := [_, _, _]) rfl) rfl ?_
    refine st (OK1.mv (Has.t rfl)) rfl ?_
    refine st (OK1.call (ref26_Power (N := i) hx (by omega) hn hl) (.cons (Has.t rfl) (.cons (Has.t rfl) .nil))) rfl ?_
    refine Ops.alloc [isI 0, isI 0, nilS] zero24 (fun _ _ => ⟨⟨rfl, by decide, by decide⟩, ⟨rfl, by decide, by decide⟩, rfl, trivial⟩) rfl fun b3 => ?_
    refine Ops.store (Has.t rfl) (Has.t rfl) (i := 0) rfl ty24 rfl rfl (Ss' := [_, _, _]) rfl (M' := [(some _, cellM [_, _, _]), _, _]) rfl ?_
    refine nl ?_
    refine At.thn (hK9 _ _ ?_); clear hK9
    refine Tri.seq fun K10 hK10 => ?_
    refine Tri.region ?_
    refine st (OK1.as (Has.cI 0 rfl)) rfl ?_
    refine nl ?_
    refine At.thn (hK10 _ _ ?_); clear hK10
    refine Tri.block ?_
    refine Tri.loopF [0, 3, 4, 5, 6, 15, 16, 17, 18, 21, 22, 23, 7] (fun (z : { k : Nat // k ≤ n * n }) => match z with | ⟨k, hk⟩ => [(8, isI (k : Int))]) (fun M => fun (z : { k : Nat // k ≤ n * n }) => match z with | ⟨k, hk⟩ => [(some b3, cellM [isI (n : Int), isI (n : Int), SlK 2 zc ((pwL n (vals xs) i).map nz)]), (some b2, cellM (((vF n (vals xs) (vals qs) i k).map nz).flatMap zc)), (some b1, cellM [isI (n : Int), isI (n : Int), SlK 2 zc xs])]) (fun (z : { k : Nat // k ≤ n * n }) => match z with | ⟨k, hk⟩ => n * n - k) (⟨0, Nat.zero_le _⟩) (Cv.mem (.cons (t := 8) (Has.t' rfl ?_) (.cons (t := 0) (Has.t rfl) (.cons (t := 3) (Has.t rfl) (.cons (t := 4) (Has.t rfl) (.cons (t := 5) (Has.t rfl) (.cons (t := 6) (Has.t rfl) (.cons (t := 15) (Has.t rfl) (.cons (t := 16) (Has.t rfl) (.cons (t := 17) (Has.t rfl) (.cons (t := 18) (Has.t rfl) (.cons (t := 21) (Has.t rfl) (.cons (t := 22) (Has.t rfl) (.cons (t := 23) (Has.t rfl) (.cons (t := 7) (Has.t rfl) .nil)))))))))))))) ?_) ?_
    · rfl
    · rfl
    rintro ⟨k, hk⟩ K11 hK11
    refine Tri.cv (Cv.wk (.cons (t := 8) (Has.t rfl) (.cons (t := 0) (Has.t rfl) (.cons (t := 3) (Has.t rfl) (.cons (t := 4) (Has.t rfl) (.cons (t := 5) (Has.t rfl) (.cons (t := 6) (Has.t rfl) (.cons (t := 15) (Has.t rfl) (.cons (t := 16) (Has.t rfl) (.cons (t := 17) (Has.t rfl) (.cons (t := 18) (Has.t rfl) (.cons (t := 21) (Has.t rfl) (.cons (t := 22) (Has.t rfl) (.cons (t := 23) (Has.t rfl) (.cons (t := 7) (Has.t rfl) .nil))))))))))))))) ?_
    refine Tri.memEq (M' := [(some b3, cellM [isI (n : Int), isI (n : Int), SlK 2 zc ((pwL n (vals xs) i).map nz)]), (some b2, cellM (((vF n (vals xs) (vals qs) i k).map nz).flatMap zc)), (some b1, cellM [isI (n : Int), isI (n : Int), SlK 2 zc xs])]) rfl ?_
    have hvl := vF_len n (vals xs) (vals qs) i k
    have hvw := vF_nw (n := n) (i := i) (k := k) hx hq k
    have hpk := hpb k
    refine Tri.seq fun K12 hK12 => ?_
    refine Tri.seq fun K13 hK13 => ?_
    refine Tri.region ?_
    refine st (OK1.mv (Has.t rfl)) rfl ?_
    refine st (OK1.mv (Has.t rfl)) rfl ?_
    refine st (OK1.len sl22 (Has.t rfl)) rfl ?_
    refine st (OK1.ltI (Has.t rfl) (Has.t rfl)) rfl ?_
    refine nl ?_
    refine At.thn (hK13 _ _ ?_); clear hK13
    refine Tri.cond (Has.t rfl) (fun hc2 => ?_) (fun hc2 => ?_)
    · have hc2 := BP.t hc2
      have hmm := nz_mul (cf (vals qs) i) (cf (pwL n (vals xs) i) k)
      refine Tri.skip ?_
      refine At.thn (hK12 _ _ ?_); clear hK12
      refine Tri.seq fun K14 hK14 => ?_
      refine Tri.block ?_
      refine Tri.dr ?_
      refine DrG.st (i := 0) [] rfl rfl rfl (by kernel_rfl) (OKG.o rfl (OK1.mv (Has.t rfl))) ?_
      refine DrG.st (i := 1) [] rfl rfl rfl (by kernel_rfl) (OKG.o rfl (OK1.mv (Has.t rfl))) ?_
      refine DrG.st (i := 2) [] rfl rfl rfl (by kernel_rfl) (OKG.o rfl (OK1.mv (Has.t rfl))) ?_
      refine DrG.st (i := 3) [] rfl rfl rfl (by kernel_rfl) (OKG.o rfl (OK1.mv (Has.t rfl))) ?_
      refine DrG.st (i := 4) [32, 33] rfl rfl rfl (by kernel_rfl) (OKG.o rfl (OK1.eq (OK1.ixWin sl22 ty44 (Has.t rfl) (Has.t rfl) ⟨by omega, by omega⟩) (isPtr_eq (by first | exact ixo0 | exact ixo2 | exact ixo1)))) ?_
      refine DrG.st (i := 5) [34] rfl rfl rfl (by kernel_rfl) (OKG.o rfl (OK1.loadK zc_len (Has.t rfl) (i := 1) rfl ty44 (getZ (i := k) (by omega)))) ?_
      refine DrG.st (i := 6) [] rfl rfl rfl (by kernel_rfl) (OKG.o rfl (OK1.mv (Has.t rfl))) ?_
      refine DrG.st (i := 7) [] rfl rfl rfl (by kernel_rfl) (OKG.o rfl (OK1.mv (Has.t rfl))) ?_
      refine DrG.st (i := 8) [36, 37] rfl rfl rfl (by kernel_rfl) (OKG.o rfl (OK1.ixK sl22 ty44 (Has.t rfl) (Has.t rfl) zc_len ⟨by omega, by omega⟩ (getD_some (d := (false, [])) (by first | omega | (simp only [Int.toNat_natCast, List.length_set]; omega))))) ?_
      refine DrG.st (i := 9) [38] rfl rfl rfl (by kernel_rfl) (OKG.o rfl (OK1.loadP (Has.t rfl) ty44 rfl (Ss' := [_, _]) rfl)) ?_
      refine DrG.st (i := 10) [] rfl rfl rfl (by kernel_rfl) (OKG.o rfl (OK1.fieldAddr (Has.t rfl) fld24_2 ty22)) ?_
      refine DrG.st (i := 11) [40] rfl rfl rfl (by kernel_rfl) (OKG.o rfl (OK1.load1 (Has.t rfl) (i := 0) rfl ty22 rfl)) ?_
      refine DrG.st (i := 12) [] rfl rfl rfl (by kernel_rfl) (OKG.o rfl (OK1.mv (Has.t rfl))) ?_
      refine DrG.st (i := 13) [41, 42] rfl rfl rfl (by kernel_rfl) (OKG.o rfl (OK1.ixK sl22 ty44 (Has.t rfl) (Has.t rfl) zc_len ⟨by omega, by omega⟩ (getZ (i := k) (by omega)))) ?_
      refine DrG.st (i := 14) [43] rfl rfl rfl (by kernel_rfl) (OKG.o rfl (OK1.loadP (Has.t rfl) ty44 rfl (Ss' := [_, _]) rfl)) ?_
      refine DrG.st (i := 15) [39, 44] rfl rfl rfl (by kernel_rfl) (OKG.o rfl (OK1.eq (OK1.call (zint_Mul (by simp only [Int.toNat_natCast]; omega) (by rw [val_words]; omega)) (.cons (Has.t rfl) (.cons (Has.t rfl) .nil))) ((show isZ _ = isZ (cf (vals qs) i * cf (pwL n (vals xs) i) k) from isZ_eq (by rw [cf_vals, zv_nz]; rfl))))) ?_
      refine DrG.st (i := 16) [35, 45] rfl rfl rfl (by kernel_rfl) (OKG.o rfl (OK1.eq (OK1.call (zint_Add (by rw [val_words]; omega) (by rw [val_words]; omega)) (.cons (Has.t rfl) (.cons (Has.t rfl) .nil))) ((show isZ _ = isZ (cf (vF n (vals xs) (vals qs) i k) k + cf (vals qs) i * cf (pwL n (vals xs) i) k) from isZ_eq (by simp only [zv_nf, zv_nz]))))) ?_
      refine DrG.fin (n := 17) mixed (by kernel_rfl) (by kernel_rfl) (by kernel_rfl) ?_
      refine Ops.cv (Cv.wk (.cons (t := 0) (Has.t rfl) (.cons (t := 3) (Has.t rfl) (.cons (t := 4) (Has.t rfl) (.cons (t := 5) (Has.t rfl) (.cons (t := 6) (Has.t rfl) (.cons (t := 15) (Has.t rfl) (.cons (t := 16) (Has.t rfl) (.cons (t := 17) (Has.t rfl) (.cons (t := 18) (Has.t rfl) (.cons (t := 21) (Has.t rfl) (.cons (t := 22) (Has.t rfl) (.cons (t := 23) (Has.t rfl) (.cons (t := 7) (Has.t rfl) (.cons (t := 8) (Has.t rfl) (.cons (t := 24) (Has.t rfl) (.cons (t := 25) (Has.t rfl) (.cons (t := 26) (Has.t rfl) (.cons (t := 27) (Has.t rfl) (.cons (t := 30) (Has.t rfl) (.cons (t := 31) (Has.t rfl) (.cons (t := 32) (Has.t rfl) (.cons (t := 33) (Has.t rfl) (.cons (t := 34) (Has.t rfl) (.cons (t := 35) (Has.t rfl) (.cons (t := 36) (Has.t rfl) (.cons (t := 37) (Has.t rfl) (.cons (t := 38) (Has.t rfl) (.cons (t := 39) (Has.t rfl) (.cons (t := 40) (Has.t rfl) (.cons (t := 41) (Has.t rfl) (.cons (t := 42) (Has.t rfl) (.cons (t := 43) (Has.t rfl) (.cons (t := 44) (Has.t rfl) (.cons (t := 45) (Has.t rfl) (.cons (t := 46) (Has.t rfl) .nil)))))))))))))))))))))))))))))))))))) ?_
      refine st (OK1.eq (OK1.ixWin sl22 ty44 (Has.t rfl) (Has.t rfl) ⟨by omega, by omega⟩) (isPtr_eq (by first | exact ixo0 | exact ixo2 | exact ixo1))) rfl ?_
      refine Ops.storeK (z := nz (cf (vF n (vals xs) (vals qs) i k) k + cf (vals qs) i * cf (pwL n (vals xs) i) k)) zc_len (Has.t rfl) (Has.t rfl) (i := 1) rfl ty44 (by rw [List.length_map, hvl]; show k < _; omega) (M' := [_, (_, _), _]) rfl ?_
      refine nl ?_
      refine At.bln ?_
      refine At.thn (hK14 _ _ ?_); clear hK14
      refine Tri.region ?_
      refine st (OK1.mv (Has.t rfl)) rfl ?_
      refine st (OK1.addI (Has.t rfl) (Has.cI 1 rfl) (by first | omega | assumption) (by first | omega | assumption)) rfl ?_
      refine st (OK1.as (Has.t rfl)) rfl ?_
      refine nl ?_
      refine At.thn ?_
      refine hK11 (⟨k + 1, by omega⟩) _ _ ?_ (Cv.mem (.cons (t := 8) (Has.t' rfl ?_) (.cons (t := 0) (Has.t rfl) (.cons (t := 3) (Has.t rfl) (.cons (t := 4) (Has.t rfl) (.cons (t := 5) (Has.t rfl) (.cons (t := 6) (Has.t rfl) (.cons (t := 15) (Has.t rfl) (.cons (t := 16) (Has.t rfl) (.cons (t := 17) (Has.t rfl) (.cons (t := 18) (Has.t rfl) (.cons (t := 21) (Has.t rfl) (.cons (t := 22) (Has.t rfl) (.cons (t := 23) (Has.t rfl) (.cons (t := 7) (Has.t rfl) .nil)))))))))))))) ?_)
      · show n * n - (k + 1) < n * n - k; omega
      · exact isI_eq (by omega)
      · exact congrArg (List.cons _) (memZ_eq (vF_set _ _ (by omega)))
    · have hc2 := BP.f hc2
      skip
      refine Tri.exit ?_
      refine At.the ?_
      refine At.the ?_
      refine At.blh ?_
      refine At.bln ?_
      refine At.thn (hK8 _ _ ?_); clear hK8
      refine Tri.region ?_
      refine st (OK1.mv (Has.t rfl)) rfl ?_
      refine st (OK1.addI (Has.t rfl) (Has.cI 1 rfl) (by first | omega | assumption) (by first | omega | assumption)) rfl ?_
      refine st (OK1.as (Has.t rfl)) rfl ?_
      refine nl ?_
      refine At.thn ?_
      obtain rfl : k = n * n := (by omega)
      refine hK5 (⟨i + 1, by omega⟩) _ _ ?_ (Cv.trans (Cv.drop ((.cons _ (.cons_cons _ (.cons_cons _ .slnil))))) (Cv.mem (.cons (t := 6) (Has.t' rfl ?_) (.cons (t := 0) (Has.t rfl) (.cons (t := 3) (Has.t rfl) (.cons (t := 4) (Has.t rfl) (.cons (t := 5) (Has.t rfl) .nil))))) ?_))
      · show qs.length - (i + 1) < qs.length - i; omega
      · exact isI_eq (by omega)
      · exact memZ_eq (by rw [vF_next])
  · have hc1 := BP.f hc1
    refine Tri.exit ?_
    refine At.the ?_
    refine At.the ?_
    refine At.blh ?_
    refine At.thn (hK3 _ _ ?_); clear hK3
    refine Tri.cv (Cv.wk (.cons (t := 4) (Has.t rfl) (.cons (t := 5) (Has.t rfl) .nil))) ?_
    refine Tri.seq fun K15 hK15 => ?_
    refine Tri.cv (Cv.freezeK (t := 5) (i := 0) (ys := (vlL n (vals xs) (vals qs) qs.length).map nz) zc_len rfl rfl rfl (by rw [List.length_map, vF_len]; omega) (by rw [List.take_of_length_le (by rw [List.length_map, vF_len]; exact Nat.le_refl _), show i = qs.length by omega, vF_done])) ?_
    refine Tri.memEq (M' := [_]) rfl ?_
    refine Tri.cv (Cv.wk (.cons (t := 4) (Has.t rfl) (.cons (t := 5) (Has.t rfl) .nil))) ?_
    refine Tri.region ?_
    refine st (OK1.mv (Has.t rfl)) rfl ?_
    refine st (OK1.as (Has.t rfl)) rfl ?_
    refine nl ?_
    refine At.thn (hK15 _ _ ?_); clear hK15
    refine Tri.ret ?_
    refine rt1 (.inl rfl) Try.results19 rfl (.tmp (Has.t' rfl ?_) .nil)
    all_goals (rfl)
end Go.Proofs.Ytgkbekcpmbjbdaa
/- Contracts: layer 26's laws: what a program that does nothing does not answer. -/
namespace Go.Proofs.Ytgkbekcpmbjbdaa
open Go.En Go.RowKit
set_option linter.unusedVariables false
set_option maxRecDepth 10000
open Go.Nt
open Go.Pz
open Go.Mz
open Go.Hn
open Go.Hp
open Go.Dt
open Go.Ch
theorem aw26_b : Bd [1, 2, 3, 4] 1 := bd64 (by decide)
theorem aw26_tab : tab (2 * 2) 2 (fun i k => cf [1, 2, 3, 4] (i * 2 + k)) = [1, 2, 3, 4] := by decide
theorem aw26_q : Bd [-2, -5, 1] 1 := bd64 (by decide)
theorem aw26_n : pnorm [-2, -5, 1] = [-2, -5, 1] := by decide
theorem aw26_s : psub [-2, -5, 1] [-2, -5, 1] = [] := by decide
theorem det_2 (A : MatF) : det 2 A = A 0 0 * A 1 1 - A 0 1 * A 1 0 := by
  show 0 + 1 * (A 0 0 * (0 + 1 * (A 1 1 * 1))) + (-1) * (A 0 1 * (0 + 1 * (A 1 0 * 1))) = _
  grind
theorem aw26 : chL 2 [1, 2, 3, 4] = [-2, -5, 1] := by
  have h : ∀ i, i < 3 → cp 2 (mf 2 [1, 2, 3, 4]) i = cf [-2, -5, 1] i := pe_inj fun x => by
    rw [← cp_ev, det_2]
    show (1 * x + -1) * (1 * x + -4) - (0 * x + -2) * (0 * x + -3) = 0 + -2 * x ^ 0 + -5 * x ^ 1 + 1 * x ^ 2
    grind
  unfold chL
  show [cp 2 (mf 2 [1, 2, 3, 4]) 0, cp 2 (mf 2 [1, 2, 3, 4]) 1, cp 2 (mf 2 [1, 2, 3, 4]) 2] = _
  rw [h 0 (by decide), h 1 (by decide), h 2 (by decide)]; rfl
set_option maxHeartbeats 4000000 in
theorem law26_square {r c : Int} {xs : List (Bool × List Nat)} : Ctr Try.prog 12 [isM r c xs] (isB (formB r c xs.length && decide (r = c))) := by
  refine Ctr.intro Try.func12 rfl (by kernel_rfl) Try.ntmps12 rfl fun w0 F0 => ?_
  refine Tri.cv (Cv.wk (.cons (t := 0) (Has.t rfl) .nil)) ?_
  refine Tri.seq fun K1 hK1 => ?_
  refine Tri.region ?_
  refine Ops.box (Has.t rfl) rfl fun b1 => ?_
  refine st (OK1.as (Has.cB false)) rfl ?_
  refine nl ?_
  refine At.thn (hK1 _ _ ?_); clear hK1
  refine Tri.seq fun K2 hK2 => ?_
  refine Tri.region ?_
  refine st (OK1.load (Has.t rfl) (i := 0) rfl ty24 rfl (Ss' := [_, _, _]) rfl) rfl ?_
  refine st (OK1.call (ref11_Formed) (.cons (Has.t rfl) .nil)) rfl ?_
  refine st (OK1.mv (Has.t rfl)) rfl ?_
  refine stT rfl rfl (fun hg => have hg' := BP.t hg; OK1.fieldAddr (Has.t rfl) fld24_0 ty3) rfl ?_
  refine stT rfl rfl (fun hg => have hg' := BP.t hg; OK1.load1 (Has.g rfl hg) (i := 0) rfl ty3 rfl) rfl ?_
  refine stT rfl rfl (fun hg => have hg' := BP.t hg; OK1.fieldAddr (Has.t rfl) fld24_1 ty3) rfl ?_
  refine stT rfl rfl (fun hg => have hg' := BP.t hg; OK1.load1 (Has.g rfl hg) (i := 0) rfl ty3 rfl) rfl ?_
  refine stT rfl rfl (fun hg => have hg' := BP.t hg; OK1.eqI (Has.g rfl hg) (Has.g rfl hg)) rfl ?_
  refine st (OK1.pickAnd (Has.t rfl) (fun h => Has.g rfl h)) rfl ?_
  refine st (OK1.as (Has.t rfl)) rfl ?_
  refine nl ?_
  refine At.thn (hK2 _ _ ?_); clear hK2
  refine Tri.cv (Cv.wk (.cons (t := 2) (Has.t rfl) .nil)) ?_
  refine Tri.ret ?_
  refine rt1 (.inl rfl) Try.results12 rfl (.tmp (Has.t' rfl ?_) .nil)
  all_goals (rfl)
set_option maxHeartbeats 4000000 in
theorem law26_awake  : Ctr Try.prog 9 [] (isB true) := by
  refine Ctr.intro Try.func9 rfl (by kernel_rfl) Try.ntmps9 rfl fun w0 F0 => ?_
  refine Tri.cv (Cv.wk .nil) ?_
  refine Tri.seq fun K1 hK1 => ?_
  refine Tri.region ?_
  refine st (OK1.as (Has.cB false)) rfl ?_
  refine nl ?_
  refine At.thn (hK1 _ _ ?_); clear hK1
  refine Tri.seq fun K2 hK2 => ?_
  refine Tri.region ?_
  refine st (OK1.buildS [isI 0, isI 0, isI 0, isI 0] sl117 ty2 zero2 (fun _ _ => ⟨⟨rfl, by decide, by decide⟩, ⟨rfl, by decide, by decide⟩, ⟨rfl, by decide, by decide⟩, ⟨rfl, by decide, by decide⟩, trivial⟩) rfl rfl (.cons (Has.cI 1 rfl) rfl rfl rfl (.cons (Has.cI 2 rfl) rfl rfl rfl (.cons (Has.cI 3 rfl) rfl rfl rfl (.cons (Has.cI 4 rfl) rfl rfl rfl .nil)))) rfl (S := SlM isI [_, _, _, _]) rfl) rfl ?_
  refine st (OK1.eq (OK1.call (zmat_Of (R := 2) (C := 2) (l := [1, 2, 3, 4]) (by decide) (by decide) rfl (by decide)) (.cons (Has.cI 2 rfl) (.cons (Has.cI 2 rfl) (.cons (Has.t rfl) .nil)))) ((show isTup [isMz 2 2 _, isI 0] = isTup [isMz 2 2 [1, 2, 3, 4], isI 0] from by rw [aw26_tab]))) rfl ?_
  refine st (OK1.mv (Has.t rfl)) rfl ?_
  refine st (OK1.ext (Has.t rfl) rfl) rfl ?_
  refine st (OK1.ext (Has.t rfl) rfl) rfl ?_
  refine Ops.alloc [isI 0, isI 0, nilS] zero24 (fun _ _ => ⟨⟨rfl, by decide, by decide⟩, ⟨rfl, by decide, by decide⟩, rfl, trivial⟩) rfl fun b1 => ?_
  refine Ops.store (Has.t rfl) (Has.t rfl) (i := 0) rfl ty24 rfl rfl (Ss' := [_, _, _]) rfl (M' := [(some _, cellM [_, _, _])]) rfl ?_
  refine st (OK1.as (Has.t rfl)) rfl ?_
  refine nl ?_
  refine At.thn (hK2 _ _ ?_); clear hK2
  refine Tri.cv (Cv.wk (.cons (t := 0) (Has.t rfl) (.cons (t := 1) (Has.t rfl) .nil))) ?_
  refine Tri.seq fun K3 hK3 => ?_
  refine Tri.region ?_
  refine st (OK1.load (Has.t rfl) (i := 0) rfl ty24 rfl (Ss' := [_, _, _]) rfl) rfl ?_
  refine st (OK1.eq (OK1.call (zchar_Char (n := 2) (K := 1) (xs := [1, 2, 3, 4].map nz) (by rw [vals_nz]; exact aw26_b) (by decide) (by decide) rfl) (.cons (Has.t rfl) .nil)) ((show _ = isTup [isP [-2, -5, 1], isI 0] from by rw [vals_nz, aw26]))) rfl ?_
  refine st (OK1.mv (Has.t rfl)) rfl ?_
  refine st (OK1.ext (Has.t rfl) rfl) rfl ?_
  refine st (OK1.ext (Has.t rfl) rfl) rfl ?_
  refine st (OK1.as (Has.t rfl)) rfl ?_
  refine st (OK1.as (Has.t rfl)) rfl ?_
  refine nl ?_
  refine At.thn (hK3 _ _ ?_); clear hK3
  refine Tri.cv (Cv.wk (.cons (t := 0) (Has.t rfl) (.cons (t := 3) (Has.t rfl) (.cons (t := 4) (Has.t rfl) .nil)))) ?_
  refine Tri.seq fun K4 hK4 => ?_
  refine Tri.region ?_
  refine st (OK1.mv (Has.t rfl)) rfl ?_
  refine st (OK1.eqI (Has.t rfl) (Has.cI 0 rfl)) rfl ?_
  refine st (OK1.mv (Has.t rfl)) rfl ?_
  refine stT rfl rfl (fun hg => have hg' := BP.t hg; OK1.mv (Has.t rfl)) rfl ?_
  refine stT rfl rfl (fun hg => have hg' := BP.t hg; OK1.buildS [isI 0, isI 0, isI 0] sl117 ty2 zero2 (fun _ _ => ⟨⟨rfl, by decide, by decide⟩, ⟨rfl, by decide, by decide⟩, ⟨rfl, by decide, by decide⟩, trivial⟩) rfl rfl (.cons (Has.cI (-2) rfl) rfl rfl rfl (.cons (Has.cI (-5) rfl) rfl rfl rfl (.cons (Has.cI 1 rfl) rfl rfl rfl .nil))) rfl (S := SlM isI [_, _, _]) rfl) rfl ?_
  refine stT rfl rfl (fun hg => have hg' := BP.t hg; OK1.eq (OK1.call (zpoly_Of (by decide)) (.cons (Has.g rfl hg) .nil)) ((show _ = isP [-2, -5, 1] from isPl_eq aw26_n))) rfl ?_
  refine stT rfl rfl (fun hg => have hg' := BP.t hg; OK1.eq (OK1.call (zpoly_Same (K := 1) (by rw [vals_nz]; exact aw26_q) (by rw [vals_nz]; exact aw26_q) (by decide) (by decide) (by decide)) (.cons (Has.g rfl hg) (.cons (Has.g rfl hg) .nil))) ((show isB _ = isB true from isB_eq (decide_eq_true (by rw [vals_nz]; exact aw26_s))))) rfl ?_
  refine st (OK1.pickAnd (Has.t rfl) (fun h => Has.g rfl h)) rfl ?_
  refine st (OK1.mv (Has.t rfl)) rfl ?_
  refine stT rfl rfl (fun hg => have hg' := BP.t hg; OK1.mv (Has.t rfl)) rfl ?_
  refine stT rfl rfl (fun hg => have hg' := BP.t hg; OK1.len sl34 (Has.g rfl hg)) rfl ?_
  refine stT rfl rfl (fun hg => have hg' := BP.t hg; OK1.eqI (Has.g rfl hg) (Has.cI 3 rfl)) rfl ?_
  refine st (OK1.pickAnd (Has.t rfl) (fun h => Has.g rfl h)) rfl ?_
  refine st (OK1.as (Has.t rfl)) rfl ?_
  refine nl ?_
  refine At.thn (hK4 _ _ ?_); clear hK4
  refine Tri.cv (Cv.wk (.cons (t := 0) (Has.t rfl) .nil)) ?_
  refine Tri.ret ?_
  refine rt1 (.inl rfl) Try.results9 rfl (.tmp (Has.t' rfl ?_) .nil)
  all_goals (rfl)
end Go.Proofs.Ytgkbekcpmbjbdaa
/- Contracts: layer 26's laws: values. -/
namespace Go.Proofs.Ytgkbekcpmbjbdaa
open Go.En Go.RowKit
set_option linter.unusedVariables false
set_option maxRecDepth 10000
open Go.Nt
open Go.Pz
open Go.Mz
open Go.Hn
open Go.Hp
open Go.Dt
open Go.Ch
theorem cf_zer (n j : Nat) : cf (zerL n) j = 0 := by
  unfold zerL tab
  rw [cf_tab]
  split <;> rfl
set_option maxHeartbeats 4000000 in
theorem c_ZcharValues_bad (r c : Int) (xs : List (Bool × List Nat)) (hf : (formB r c xs.length && decide (r = c)) = false) (qs : List (Bool × List Nat)) : Ctr Try.prog 4 [isM r c xs, SlK 2 zc qs] (isB true) := by
  refine Ctr.intro Try.func4 rfl (by kernel_rfl) Try.ntmps4 rfl fun w0 F0 => ?_
  refine Tri.cv (Cv.wk (.cons (t := 0) (Has.t rfl) (.cons (t := 1) (Has.t rfl) .nil))) ?_
  refine Tri.fact (Has.lenLt (Has.t (t := 1) rfl)) fun lt1 => ?_
  refine Tri.seq fun K1 hK1 => ?_
  refine Tri.region ?_
  refine Ops.box (Has.t rfl) rfl fun b1 => ?_
  refine st (OK1.as (Has.cB false)) rfl ?_
  refine nl ?_
  refine At.thn (hK1 _ _ ?_); clear hK1
  refine Tri.seq fun K2 hK2 => ?_
  refine Tri.seq fun K3 hK3 => ?_
  refine Tri.region ?_
  refine st (OK1.call (law26_awake) .nil) rfl ?_
  refine st (OK1.not (Has.t rfl)) rfl ?_
  refine st (OK1.mv (Has.t rfl)) rfl ?_
  refine stF rfl rfl (fun hg => have hg' := BP.t hg; OK1.load (Has.t rfl) (i := 0) rfl ty24 rfl (Ss' := [_, _, _]) rfl) rfl ?_
  refine stF rfl rfl (fun hg => have hg' := BP.t hg; OK1.call (ref11_Few) (.cons (Has.g rfl hg) (.cons (Has.cI 3 rfl) (.cons (Has.cI 2 rfl) .nil)))) rfl ?_
  refine stF rfl rfl (fun hg => have hg' := BP.t hg; OK1.not (Has.g rfl hg)) rfl ?_
  refine st (OK1.pickOr (Has.t rfl) (fun h => Has.g rfl (ng h))) rfl ?_
  refine st (OK1.mv (Has.t rfl)) rfl ?_
  refine stF rfl rfl (fun hg => have hg' := BP.t hg; OK1.mv (Has.t rfl)) rfl ?_
  refine stF rfl rfl (fun hg => have hg' := BP.t hg; OK1.call (ref10_Few) (.cons (Has.g rfl hg) (.cons (Has.cI 4 rfl) (.cons (Has.cI 1 rfl) .nil)))) rfl ?_
  refine stF rfl rfl (fun hg => have hg' := BP.t hg; OK1.not (Has.g rfl hg)) rfl ?_
  refine st (OK1.pickOr (Has.t rfl) (fun h => Has.g rfl (ng h))) rfl ?_
  refine nl ?_
  refine At.thn (hK3 _ _ ?_); clear hK3
  refine Tri.cv (Cv.wk (.cons (t := 1) (Has.t rfl) (.cons (t := 2) (Has.t rfl) (.cons (t := 4) (Has.t rfl) (.cons (t := 22) (Has.t rfl) .nil))))) ?_
  refine Tri.cond (Has.t rfl) (fun hc1 => ?_) (fun hc1 => ?_)
  · have hc1 := BP.t hc1
    refine Tri.seq fun K4 hK4 => ?_
    refine Tri.region ?_
    refine st (OK1.call (law26_awake) .nil) rfl ?_
    refine st (OK1.as (Has.t rfl)) rfl ?_
    refine nl ?_
    refine At.thn (hK4 _ _ ?_); clear hK4
    refine Tri.ret ?_
    refine At.thr ?_
    refine rt1 (.inl rfl) Try.results4 rfl (.tmp (Has.t' rfl ?_) .nil)
    all_goals (rfl)
  · have hc1 := BP.f hc1
    refine Tri.skip ?_
    refine At.thn (hK2 _ _ ?_); clear hK2
    refine Tri.seq fun K5 hK5 => ?_
    refine Tri.region ?_
    refine st (OK1.mv (Has.t rfl)) rfl ?_
    refine st (OK1.load (Has.t rfl) (i := 0) rfl ty24 rfl (Ss' := [_, _, _]) rfl) rfl ?_
    refine st (OK1.call (zchar_Eval_bad hf) (.cons (Has.t rfl) (.cons (Has.t rfl) .nil))) rfl ?_
    refine st (OK1.mv (Has.t rfl)) rfl ?_
    refine st (OK1.ext (Has.t rfl) rfl) rfl ?_
    refine st (OK1.ext (Has.t rfl) rfl) rfl ?_
    refine Ops.alloc [isI 0, isI 0, nilS] zero24 (fun _ _ => ⟨⟨rfl, by decide, by decide⟩, ⟨rfl, by decide, by decide⟩, rfl, trivial⟩) rfl fun b2 => ?_
    refine Ops.store (Has.t rfl) (Has.t rfl) (i := 0) rfl ty24 rfl rfl (Ss' := [_, _, _]) rfl (M' := [(some _, cellM [_, _, _]), _]) rfl ?_
    refine st (OK1.as (Has.t rfl)) rfl ?_
    refine nl ?_
    refine At.thn (hK5 _ _ ?_); clear hK5
    refine Tri.cv (Cv.wk (.cons (t := 1) (Has.t rfl) (.cons (t := 2) (Has.t rfl) (.cons (t := 4) (Has.t rfl) (.cons (t := 5) (Has.t rfl) (.cons (t := 6) (Has.t rfl) .nil)))))) ?_
    refine Tri.seq fun K6 hK6 => ?_
    refine Tri.region ?_
    refine st (OK1.load (Has.t rfl) (i := 1) rfl ty24 rfl (Ss' := [_, _, _]) rfl) rfl ?_
    refine st (OK1.call (zchar_Char_bad hf) (.cons (Has.t rfl) .nil)) rfl ?_
    refine st (OK1.mv (Has.t rfl)) rfl ?_
    refine st (OK1.ext (Has.t rfl) rfl) rfl ?_
    refine st (OK1.ext (Has.t rfl) rfl) rfl ?_
    refine st (OK1.as (Has.t rfl)) rfl ?_
    refine st (OK1.as (Has.t rfl)) rfl ?_
    refine nl ?_
    refine At.thn (hK6 _ _ ?_); clear hK6
    refine Tri.cv (Cv.wk (.cons (t := 1) (Has.t rfl) (.cons (t := 2) (Has.t rfl) (.cons (t := 4) (Has.t rfl) (.cons (t := 5) (Has.t rfl) (.cons (t := 6) (Has.t rfl) (.cons (t := 7) (Has.t rfl) (.cons (t := 8) (Has.t rfl) .nil)))))))) ?_
    refine Tri.seq fun K7 hK7 => ?_
    refine Tri.region ?_
    refine st (OK1.mv (Has.t rfl)) rfl ?_
    refine st (OK1.load (Has.t rfl) (i := 1) rfl ty24 rfl (Ss' := [_, _, _]) rfl) rfl ?_
    refine st (OK1.call (zchar_Eval_bad hf) (.cons (Has.t rfl) (.cons (Has.t rfl) .nil))) rfl ?_
    refine st (OK1.mv (Has.t rfl)) rfl ?_
    refine st (OK1.ext (Has.t rfl) rfl) rfl ?_
    refine st (OK1.ext (Has.t rfl) rfl) rfl ?_
    refine Ops.alloc [isI 0, isI 0, nilS] zero24 (fun _ _ => ⟨⟨rfl, by decide, by decide⟩, ⟨rfl, by decide, by decide⟩, rfl, trivial⟩) rfl fun b3 => ?_
    refine Ops.store (Has.t rfl) (Has.t rfl) (i := 0) rfl ty24 rfl rfl (Ss' := [_, _, _]) rfl (M' := [(some _, cellM [_, _, _]), _, _]) rfl ?_
    refine st (OK1.as (Has.t rfl)) rfl ?_
    refine nl ?_
    refine At.thn (hK7 _ _ ?_); clear hK7
    refine Tri.cv (Cv.wk (.cons (t := 1) (Has.t rfl) (.cons (t := 2) (Has.t rfl) (.cons (t := 4) (Has.t rfl) (.cons (t := 5) (Has.t rfl) (.cons (t := 6) (Has.t rfl) (.cons (t := 8) (Has.t rfl) (.cons (t := 9) (Has.t rfl) (.cons (t := 10) (Has.t rfl) .nil))))))))) ?_
    refine Tri.seq fun K8 hK8 => ?_
    refine Tri.seq fun K9 hK9 => ?_
    refine Tri.region ?_
    refine st (OK1.load (Has.t rfl) (i := 2) rfl ty24 rfl (Ss' := [_, _, _]) rfl) rfl ?_
    refine st (OK1.eq (OK1.call (law26_square) (.cons (Has.t rfl) .nil)) ((show isB _ = isB false from isB_eq (hf)))) rfl ?_
    refine st (OK1.not (Has.t rfl)) rfl ?_
    refine nl ?_
    refine At.thn (hK9 _ _ ?_); clear hK9
    refine Tri.cond (Has.t rfl) (fun hc2 => ?_) (fun hc2 => ?_)
    · have hc2 := BP.t hc2
      refine Tri.seq fun K10 hK10 => ?_
      refine Tri.region ?_
      refine st (OK1.mv (Has.t rfl)) rfl ?_
      refine st (OK1.eqI (Has.t rfl) (Has.cI 2 rfl)) rfl ?_
      refine st (OK1.mv (Has.t rfl)) rfl ?_
      refine stT rfl rfl (fun hg => have hg' := BP.t hg; OK1.mv (Has.t rfl)) rfl ?_
      refine stT rfl rfl (fun hg => have hg' := BP.t hg; OK1.eqI (Has.g rfl hg) (Has.cI 2 rfl)) rfl ?_
      refine st (OK1.pickAnd (Has.t rfl) (fun h => Has.g rfl h)) rfl ?_
      refine st (OK1.mv (Has.t rfl)) rfl ?_
      refine stT rfl rfl (fun hg => have hg' := BP.t hg; OK1.mv (Has.t rfl)) rfl ?_
      refine stT rfl rfl (fun hg => have hg' := BP.t hg; OK1.eqI (Has.g rfl hg) (Has.cI 2 rfl)) rfl ?_
      refine st (OK1.pickAnd (Has.t rfl) (fun h => Has.g rfl h)) rfl ?_
      refine st (OK1.mv (Has.t rfl)) rfl ?_
      refine stT rfl rfl (fun hg => have hg' := BP.t hg; OK1.load (Has.t rfl) (i := 1) rfl ty24 rfl (Ss' := [_, _, _]) rfl) rfl ?_
      refine stT rfl rfl (fun hg => have hg' := BP.t hg; OK1.call (ref11_None (r := 0) (c := 0) (xs := [])) (.cons (Has.g rfl hg) .nil)) rfl ?_
      refine st (OK1.pickAnd (Has.t rfl) (fun h => Has.g rfl h)) rfl ?_
      refine st (OK1.as (Has.t rfl)) rfl ?_
      refine nl ?_
      refine At.thn (hK10 _ _ ?_); clear hK10
      refine Tri.cv (Cv.wk (.cons (t := 1) (Has.t rfl) (.cons (t := 2) (Has.t rfl) (.cons (t := 4) (Has.t rfl) (.cons (t := 5) (Has.t rfl) (.cons (t := 6) (Has.t rfl) (.cons (t := 8) (Has.t rfl) (.cons (t := 9) (Has.t rfl) (.cons (t := 10) (Has.t rfl) .nil))))))))) ?_
      refine Tri.ret ?_
      refine At.thr ?_
      refine rt1 (.inl rfl) Try.results4 rfl (.tmp (Has.t' rfl ?_) .nil)
      all_goals (rfl)
    · have hc2 := BP.f hc2
      exfalso; simp at hc2
set_option maxHeartbeats 4000000 in
theorem c_ZcharValues_ok (n : Nat) (xs : List (Bool × List Nat)) (hn : n ≤ 64) (hl : xs.length = n * n) (qs : List (Bool × List Nat)) : Ctr Try.prog 4 [isM (n : Int) (n : Int) xs, SlK 2 zc qs] (isB true) := by
  refine Ctr.intro Try.func4 rfl (by kernel_rfl) Try.ntmps4 rfl fun w0 F0 => ?_
  refine Tri.cv (Cv.wk (.cons (t := 0) (Has.t rfl) (.cons (t := 1) (Has.t rfl) .nil))) ?_
  refine Tri.fact (Has.lenLt (Has.t (t := 1) rfl)) fun lt1 => ?_
  refine Tri.fact (Has.okM (Has.t (t := 0) rfl)) fun okp0 => ?_
  refine Tri.fact (Has.okP (Has.t (t := 1) rfl)) fun okv => ?_
  have hfo := formB_true hn hn hl
  have hfs : (formB (n : Int) (n : Int) xs.length && decide ((n : Int) = (n : Int))) = true := by rw [hfo]; simp
  refine Tri.seq fun K1 hK1 => ?_
  refine Tri.region ?_
  refine Ops.box (Has.t rfl) rfl fun b1 => ?_
  refine st (OK1.as (Has.cB false)) rfl ?_
  refine nl ?_
  refine At.thn (hK1 _ _ ?_); clear hK1
  refine Tri.seq fun K2 hK2 => ?_
  refine Tri.seq fun K3 hK3 => ?_
  refine Tri.region ?_
  refine st (OK1.call (law26_awake) .nil) rfl ?_
  refine st (OK1.not (Has.t rfl)) rfl ?_
  refine st (OK1.mv (Has.t rfl)) rfl ?_
  refine stF rfl rfl (fun hg => have hg' := BP.t hg; OK1.load (Has.t rfl) (i := 0) rfl ty24 rfl (Ss' := [_, _, _]) rfl) rfl ?_
  refine stF rfl rfl (fun hg => have hg' := BP.t hg; OK1.call (ref11_Few) (.cons (Has.g rfl hg) (.cons (Has.cI 3 rfl) (.cons (Has.cI 2 rfl) .nil)))) rfl ?_
  refine stF rfl rfl (fun hg => have hg' := BP.t hg; OK1.not (Has.g rfl hg)) rfl ?_
  refine st (OK1.pickOr (Has.t rfl) (fun h => Has.g rfl (ng h))) rfl ?_
  refine st (OK1.mv (Has.t rfl)) rfl ?_
  refine stF rfl rfl (fun hg => have hg' := BP.t hg; OK1.mv (Has.t rfl)) rfl ?_
  refine stF rfl rfl (fun hg => have hg' := BP.t hg; OK1.call (ref10_Few) (.cons (Has.g rfl hg) (.cons (Has.cI 4 rfl) (.cons (Has.cI 1 rfl) .nil)))) rfl ?_
  refine stF rfl rfl (fun hg => have hg' := BP.t hg; OK1.not (Has.g rfl hg)) rfl ?_
  refine st (OK1.pickOr (Has.t rfl) (fun h => Has.g rfl (ng h))) rfl ?_
  refine nl ?_
  refine At.thn (hK3 _ _ ?_); clear hK3
  refine Tri.cv (Cv.wk (.cons (t := 1) (Has.t rfl) (.cons (t := 2) (Has.t rfl) (.cons (t := 4) (Has.t rfl) (.cons (t := 22) (Has.t rfl) .nil))))) ?_
  refine Tri.cond (Has.t rfl) (fun hc1 => ?_) (fun hc1 => ?_)
  · have hc1 := BP.t hc1
    skip
    refine Tri.seq fun K4 hK4 => ?_
    refine Tri.region ?_
    refine st (OK1.call (law26_awake) .nil) rfl ?_
    refine st (OK1.as (Has.t rfl)) rfl ?_
    refine nl ?_
    refine At.thn (hK4 _ _ ?_); clear hK4
    refine Tri.ret ?_
    refine At.thr ?_
    refine rt1 (.inl rfl) Try.results4 rfl (.tmp (Has.t' rfl ?_) .nil)
    all_goals (rfl)
  · have hc1 := BP.f hc1
    have HF0 : ((n : Int) ≤ 3 ∧ fewB xs 100 2 = true) ∧ fewB qs 4 1 = true := ⟨⟨hc1.1.1.1, hc1.1.2⟩, hc1.2⟩
    obtain ⟨⟨hn3, HF⟩, HG⟩ := HF0
    obtain ⟨_, hb⟩ := fewB_bd (N := 100) (K := 2) okp0 HF rfl rfl (by decide)
    obtain ⟨hq4, hq⟩ := fewB_bd (N := 4) (K := 1) okv HG rfl rfl (by decide)
    have hfb : flB n 2 n ≤ 1 + 2 * 9 := Nat.add_le_add_left (Nat.mul_le_mul (by omega) (by omega)) _
    have hm1 : qs.length * (2 + n + 1) ≤ 4 * 6 := Nat.mul_le_mul hq4 (by omega)
    have hm2 : qs.length * (2 + n) ≤ 4 * 5 := Nat.mul_le_mul hq4 (by omega)
    have hcb : Bd (vals ((chL n (vals xs)).map nz)) 40 := by rw [vals_nz]; exact (chL_bd (n := n) hb).mono (by omega)
    have hcl : ((chL n (vals xs)).map nz).length = n + 1 := by rw [List.length_map, chL_len]
    have hm3 : (n + 1) * (2 + n + 1) ≤ 4 * 6 := Nat.mul_le_mul (by omega) (by omega)
    have hPb := (evG_bd (n := n) hb hq qs.length).mono (show 1 + qs.length * (2 + n + 1) ≤ 100 by omega)
    have hPl := evG_len n (vals xs) (vals qs) qs.length
    have hev : evG n (vals xs) (vals qs) qs.length = vlL n (vals xs) (vals qs) qs.length := by have := evG_vl n (vals xs) (vals qs); rw [vals_len] at this; exact this
    obtain ⟨V, hV⟩ : ∃ V, V = evG n (vals xs) (vals qs) qs.length := ⟨_, rfl⟩
    rw [← hV] at hPb hPl hev
    have hch := cay_ham n (vals xs)
    refine Tri.skip ?_
    refine At.thn (hK2 _ _ ?_); clear hK2
    refine Tri.seq fun K5 hK5 => ?_
    refine Tri.region ?_
    refine st (OK1.mv (Has.t rfl)) rfl ?_
    refine st (OK1.load (Has.t rfl) (i := 0) rfl ty24 rfl (Ss' := [_, _, _]) rfl) rfl ?_
    refine st (OK1.eq (OK1.call (zchar_Eval (K := 2) (Q := 1) hb hq (by omega) hn hl) (.cons (Has.t rfl) (.cons (Has.t rfl) .nil))) ((show _ = isTup [isMz n n V, isI 0] from by rw [hV]))) rfl ?_
    refine st (OK1.mv (Has.t rfl)) rfl ?_
    refine st (OK1.ext (Has.t rfl) rfl) rfl ?_
    refine st (OK1.ext (Has.t rfl) rfl) rfl ?_
    refine Ops.alloc [isI 0, isI 0, nilS] zero24 (fun _ _ => ⟨⟨rfl, by decide, by decide⟩, ⟨rfl, by decide, by decide⟩, rfl, trivial⟩) rfl fun b2 => ?_
    refine Ops.store (Has.t rfl) (Has.t rfl) (i := 0) rfl ty24 rfl rfl (Ss' := [_, _, _]) rfl (M' := [(some _, cellM [_, _, _]), _]) rfl ?_
    refine st (OK1.as (Has.t rfl)) rfl ?_
    refine nl ?_
    refine At.thn (hK5 _ _ ?_); clear hK5
    refine Tri.cv (Cv.wk (.cons (t := 1) (Has.t rfl) (.cons (t := 2) (Has.t rfl) (.cons (t := 4) (Has.t rfl) (.cons (t := 5) (Has.t rfl) (.cons (t := 6) (Has.t rfl) .nil)))))) ?_
    refine Tri.seq fun K6 hK6 => ?_
    refine Tri.region ?_
    refine st (OK1.load (Has.t rfl) (i := 1) rfl ty24 rfl (Ss' := [_, _, _]) rfl) rfl ?_
    refine st (OK1.call (zchar_Char (K := 2) hb (by omega) hn hl) (.cons (Has.t rfl) .nil)) rfl ?_
    refine st (OK1.mv (Has.t rfl)) rfl ?_
    refine st (OK1.ext (Has.t rfl) rfl) rfl ?_
    refine st (OK1.ext (Has.t rfl) rfl) rfl ?_
    refine st (OK1.as (Has.t rfl)) rfl ?_
    refine st (OK1.as (Has.t rfl)) rfl ?_
    refine nl ?_
    refine At.thn (hK6 _ _ ?_); clear hK6
    refine Tri.cv (Cv.wk (.cons (t := 1) (Has.t rfl) (.cons (t := 2) (Has.t rfl) (.cons (t := 4) (Has.t rfl) (.cons (t := 5) (Has.t rfl) (.cons (t := 6) (Has.t rfl) (.cons (t := 7) (Has.t rfl) (.cons (t := 8) (Has.t rfl) .nil)))))))) ?_
    refine Tri.seq fun K7 hK7 => ?_
    refine Tri.region ?_
    refine st (OK1.mv (Has.t rfl)) rfl ?_
    refine st (OK1.load (Has.t rfl) (i := 1) rfl ty24 rfl (Ss' := [_, _, _]) rfl) rfl ?_
    refine st (OK1.eq (OK1.call (zchar_Eval (K := 2) (Q := 40) (qs := (chL n (vals xs)).map nz) hb hcb (by rw [hcl]; omega) hn hl) (.cons (Has.t rfl) (.cons (Has.t rfl) .nil))) ((show _ = isTup [isMz n n (zerL n), isI 0] from by rw [vals_nz, List.length_map, hch]))) rfl ?_
    refine st (OK1.mv (Has.t rfl)) rfl ?_
    refine st (OK1.ext (Has.t rfl) rfl) rfl ?_
    refine st (OK1.ext (Has.t rfl) rfl) rfl ?_
    refine Ops.alloc [isI 0, isI 0, nilS] zero24 (fun _ _ => ⟨⟨rfl, by decide, by decide⟩, ⟨rfl, by decide, by decide⟩, rfl, trivial⟩) rfl fun b3 => ?_
    refine Ops.store (Has.t rfl) (Has.t rfl) (i := 0) rfl ty24 rfl rfl (Ss' := [_, _, _]) rfl (M' := [(some _, cellM [_, _, _]), _, _]) rfl ?_
    refine st (OK1.as (Has.t rfl)) rfl ?_
    refine nl ?_
    refine At.thn (hK7 _ _ ?_); clear hK7
    refine Tri.cv (Cv.wk (.cons (t := 1) (Has.t rfl) (.cons (t := 2) (Has.t rfl) (.cons (t := 4) (Has.t rfl) (.cons (t := 5) (Has.t rfl) (.cons (t := 6) (Has.t rfl) (.cons (t := 8) (Has.t rfl) (.cons (t := 9) (Has.t rfl) (.cons (t := 10) (Has.t rfl) .nil))))))))) ?_
    refine Tri.seq fun K8 hK8 => ?_
    refine Tri.seq fun K9 hK9 => ?_
    refine Tri.region ?_
    refine st (OK1.load (Has.t rfl) (i := 2) rfl ty24 rfl (Ss' := [_, _, _]) rfl) rfl ?_
    refine st (OK1.eq (OK1.call (law26_square) (.cons (Has.t rfl) .nil)) ((show isB _ = isB true from isB_eq (hfs)))) rfl ?_
    refine st (OK1.not (Has.t rfl)) rfl ?_
    refine nl ?_
    refine At.thn (hK9 _ _ ?_); clear hK9
    refine Tri.cond (Has.t rfl) (fun hc2 => ?_) (fun hc2 => ?_)
    · have hc2 := BP.t hc2
      exfalso; simp at hc2
    · have hc2 := BP.f hc2
      skip
      refine Tri.skip ?_
      refine At.thn (hK8 _ _ ?_); clear hK8
      refine Tri.seq fun K10 hK10 => ?_
      refine Tri.dr ?_
      refine DrG.st (i := 0) [] rfl rfl rfl (by kernel_rfl) (OKG.o rfl (OK1.mv (Has.t rfl))) ?_
      refine DrG.st (i := 1) [58] rfl rfl rfl (by kernel_rfl) (OKG.o rfl (OK1.eqI (Has.t rfl) (Has.cI 0 rfl))) ?_
      refine DrG.st (i := 2) [59] rfl rfl rfl (by kernel_rfl) (OKG.o rfl (OK1.mv (Has.t rfl))) ?_
      refine DrG.st (i := 3) [60] rfl rfl rfl (by kernel_rfl) (OKG.T rfl rfl rfl (fun hg => have hg' := BP.t hg; OK1.mv (Has.t rfl))) ?_
      refine DrG.st (i := 4) [60, 61] rfl rfl rfl (by kernel_rfl) (OKG.T rfl rfl rfl (fun hg => have hg' := BP.t hg; OK1.eqI (Has.g rfl hg) (Has.cI 0 rfl))) ?_
      refine DrG.st (i := 5) [60, 62] rfl rfl rfl (by kernel_rfl) (OKG.o rfl (OK1.pickAnd (Has.t rfl) (fun h => Has.g rfl h))) ?_
      refine DrG.st (i := 6) [63] rfl rfl rfl (by kernel_rfl) (OKG.o rfl (OK1.mv (Has.t rfl))) ?_
      refine DrG.st (i := 7) [64] rfl rfl rfl (by kernel_rfl) (OKG.T rfl rfl rfl (fun hg => have hg' := BP.t hg; OK1.mv (Has.t rfl))) ?_
      refine DrG.st (i := 8) [64, 65] rfl rfl rfl (by kernel_rfl) (OKG.T rfl rfl rfl (fun hg => have hg' := BP.t hg; OK1.eqI (Has.g rfl hg) (Has.cI 0 rfl))) ?_
      refine DrG.st (i := 9) [64, 66] rfl rfl rfl (by kernel_rfl) (OKG.o rfl (OK1.pickAnd (Has.t rfl) (fun h => Has.g rfl h))) ?_
      refine DrG.st (i := 10) [67] rfl rfl rfl (by kernel_rfl) (OKG.o rfl (OK1.mv (Has.t rfl))) ?_
      refine DrG.st (i := 11) [68] rfl rfl rfl (by kernel_rfl) (OKG.T rfl rfl rfl (fun hg => have hg' := BP.t hg; OK1.load (Has.t rfl) (i := 1) rfl ty24 rfl (Ss' := [_, _, _]) rfl)) ?_
      refine DrG.st (i := 12) [68] rfl rfl rfl (by kernel_rfl) (OKG.T rfl rfl rfl (fun hg => have hg' := BP.t hg; OK1.fieldAddr (Has.t rfl) fld24_0 ty3)) ?_
      refine DrG.st (i := 13) [68, 70] rfl rfl rfl (by kernel_rfl) (OKG.T rfl rfl rfl (fun hg => have hg' := BP.t hg; OK1.load1 (Has.g rfl hg) (i := 2) rfl ty3 rfl)) ?_
      refine DrG.st (i := 14) [68] rfl rfl rfl (by kernel_rfl) (OKG.T rfl rfl rfl (fun hg => have hg' := BP.t hg; OK1.fieldAddr (Has.t rfl) fld24_0 ty3)) ?_
      refine DrG.st (i := 15) [68, 72] rfl rfl rfl (by kernel_rfl) (OKG.T rfl rfl rfl (fun hg => have hg' := BP.t hg; OK1.load1 (Has.g rfl hg) (i := 2) rfl ty3 rfl)) ?_
      refine DrG.st (i := 16) [68] rfl rfl rfl (by kernel_rfl) (OKG.T rfl rfl rfl (fun hg => have hg' := BP.t hg; OK1.mv (Has.t rfl))) ?_
      refine DrG.st (i := 17) [68] rfl rfl rfl (by kernel_rfl) (OKG.T rfl rfl rfl (fun hg => have hg' := BP.t hg; OK1.load (Has.t rfl) (i := 2) rfl ty24 rfl (Ss' := [_, _, _]) rfl)) ?_
      refine DrG.st (i := 18) [68, 74, 75] rfl rfl rfl (by kernel_rfl) (OKG.T rfl rfl rfl (fun hg => have hg' := BP.t hg; OK1.eq (OK1.call (ref26_Value (K := 2) (Q := 1) hb hq (by omega) hn hl) (.cons (Has.g rfl hg) (.cons (Has.g rfl hg) .nil))) ((show _ = isP V from isPl_eq hev.symm)))) ?_
      refine DrG.fin (n := 19) mixed (by kernel_rfl) (by kernel_rfl) (by kernel_rfl) ?_
      refine Ops.cv (Cv.wk (.cons (t := 4) (Has.t rfl) (.cons (t := 9) (Has.t rfl) (.cons (t := 68) (Has.t rfl) (.cons (t := 69) (Has.t rfl) (.cons (t := 71) (Has.t rfl) (.cons (t := 73) (Has.t rfl) (.cons (t := 76) (Has.t rfl) .nil)))))))) ?_
      refine stT rfl rfl (fun hg => have hg' := BP.t hg; OK1.call (ref11_Is (K := 100) (N := 100) hPb (by rw [vals_nz]; exact hPb) (by decide) (by decide) hn hn hPl (by rw [List.length_map]; exact hPl) (fun j _ => by rw [vals_nz])) (.cons (Has.g rfl hg) (.cons (Has.g rfl hg) (.cons (Has.g rfl hg) (.cons (Has.g rfl hg) .nil))))) rfl ?_
      refine st (OK1.pickAnd (Has.t rfl) (fun h => Has.g rfl h)) rfl ?_
      refine st (OK1.mv (Has.t rfl)) rfl ?_
      refine stT rfl rfl (fun hg => have hg' := BP.t hg; OK1.load (Has.t rfl) (i := 0) rfl ty24 rfl (Ss' := [_, _, _]) rfl) rfl ?_
      refine stT rfl rfl (fun hg => have hg' := BP.t hg; OK1.call (zmat_Zero (K := 0) (xs := (zerL n).map nz) (by rw [vals_nz]; exact zerL_bd n) (by decide) (formB_true hn hn (by rw [List.length_map]; exact tab_len _ _ _)) (fun j => by rw [vals_nz]; exact cf_zer n j)) (.cons (Has.g rfl hg) .nil)) rfl ?_
      refine st (OK1.pickAnd (Has.t rfl) (fun h => Has.g rfl h)) rfl ?_
      refine st (OK1.as (Has.t rfl)) rfl ?_
      refine nl ?_
      refine At.thn (hK10 _ _ ?_); clear hK10
      refine Tri.cv (Cv.wk (.cons (t := 4) (Has.t rfl) .nil)) ?_
      refine Tri.ret ?_
      refine rt1 (.inl rfl) Try.results4 rfl (.tmp (Has.t' rfl ?_) .nil)
      all_goals (rfl)
theorem c_ZcharValues (r c : Int) (xs qs : List (Bool × List Nat)) : Ctr Try.prog 4 [isM r c xs, SlK 2 zc qs] (isB true) := by
  cases h : formB r c xs.length && decide (r = c) with
  | true =>
    rw [Bool.and_eq_true, decide_eq_true_eq] at h
    obtain ⟨h1, rfl⟩ := h
    obtain ⟨n, C, rfl, hC, h2, _, h4⟩ := formB_iff.1 h1
    obtain rfl : n = C := by omega
    exact c_ZcharValues_ok n xs h2 h4 qs
  | false => exact c_ZcharValues_bad r c xs h qs
end Go.Proofs.Ytgkbekcpmbjbdaa
/- Slices of whole numbers that a law is handed. -/
namespace Go.En
open Go.RowKit Go.ChangeShapes Go.WideShapes Go.ChangeAt
set_option linter.unusedVariables false
theorem pair_get {α β : Type} (g h : α → β) : ∀ (l : List α) (j : Nat), (l.flatMap fun a => [g a, h a])[j]? = (l[j / 2]?).map (fun a => if j % 2 = 0 then g a else h a)
  | [], j => by simp
  | a :: l, 0 => by simp
  | a :: l, 1 => by simp
  | a :: l, j + 2 => by
    have := pair_get g h l j
    rw [show (j + 2) / 2 = j / 2 + 1 by omega, show (j + 2) % 2 = j % 2 by omega]
    simpa using this
section
variable {H : Type} {enc : TypeId × Value → H} {P : Program}
/-- a slice of signs with words -/
theorem open_Zs {W : World} {base : Nat} {T e tb ts T' : TypeId} {v : Value} {d : DataW H} {ps : List MemPlace} (hT : P.underlying T = some (.slice e)) (hfs : fsB P e = some [(tb, 0), (ts, 1)]) (hub : P.underlying tb = some .bool) (hu : P.underlying ts = some (.slice T')) (hu' : P.underlying T' = some (.int .u64)) (hc : P.cellsOf T' = 1) (hcb : P.cellsOf tb = 1) (hcs : P.cellsOf ts = 1) (hce : P.cellsOf e = 2)
    (hv : Value.okWide P W .any base T v) (h : DataW.Trod enc P W 0 (fun _ => true) true T v d ps) (hps : ∀ x ∈ ps, x.block < W.heap.size) : ∃ xs : List (Bool × List Nat), (isZs xs).h W (fun b => b < W.heap.size) v := by
  obtain ⟨a0, n0, c0, rfl⟩ := okWide_slice hT hv
  obtain ⟨fuel, hf⟩ := h
  obtain ⟨fs, hue, hsz, hget⟩ := fsB_spec hfs
  obtain ⟨f0, g0, rfl, e0⟩ := hget 0 tb 0 rfl
  obtain ⟨f1, g1, rfl, e1⟩ := hget 1 ts 1 rfl
  have hfs2 : fs = #[f0, f1] := by
    apply Array.ext'
    have hl : fs.toList.length = 2 := by simpa using hsz
    match hq : fs.toList, hl with
    | [p, q], _ =>
      have a0 : fs.toList[0]? = some f0 := by simpa using g0
      have a1 : fs.toList[1]? = some f1 := by simpa using g1
      rw [hq] at a0 a1
      simp at a0 a1
      rw [a0, a1]
  subst hfs2
  rcases Deep.open_slice_pairs hT hue hce e0 e1 hcb hcs hf with ⟨h1, _⟩ | ⟨a, len, cap, m, n, V0, V1, D0, D1, P0, P1, h1, _, hlc, hcm, hm, hx, hel⟩
  · have e : Value.slice a0 n0 c0 = .slice none 0 0 := by simpa [Value.cells] using h1
    rw [e]; exact ⟨[], nilK⟩
  · have e : Value.slice a0 n0 c0 = .slice (some a) len cap := by simpa [Value.cells] using h1
    rw [e]
    simp only [if_true] at hm
    subst m
    have hps' : ∀ i, i < cap → ∀ y ∈ P1 i, y.block < W.heap.size := fun i hi y hy => hps y (by
      have := (Prod.mk.inj hx).2
      rw [this]
      exact List.mem_append_right _ (List.mem_flatMap.2 ⟨i, List.mem_range.2 hi, List.mem_append_right _ hy⟩))
    obtain ⟨l, hl, hgl⟩ := list_of_get (p := fun i (x : Bool × List Nat) => V0 i = .bool x.1 ∧ (isWords x.2).h W (fun b => b < W.heap.size) (V1 i)) len (fun i hi => by
      obtain ⟨_, _, q0, q1⟩ := hel i (by omega)
      obtain ⟨b, hb, _⟩ := DataW.trod_bool hub q0
      obtain ⟨v, ws, hv1, hw⟩ := rd_row hu hu' hc word_of q1 (hps' i (by omega))
      obtain rfl : V1 i = v := by simpa using hv1
      exact ⟨(b, ws), by simpa using hb, hw⟩)
    refine ⟨l, some a, cap, by rw [hl], by rw [hl]; exact hlc, hcm, flat_len zc_len l, ?_⟩
    rcases Nat.eq_zero_or_pos len with h0 | h0
    · exact .inl (by omega)
    · have hc0 := (hel 0 (by omega)).1
      have hs : a.spot = none := by
        cases hsp : a.spot with
        | none => rfl
        | some s =>
          simp only [Addr.add, Nat.zero_mul, if_true] at hc0
          unfold World.cell? at hc0
          rw [hsp] at hc0
          split at hc0 <;> simp at hc0
      obtain ⟨b, off, sp⟩ := a
      simp only at hs
      subst hs
      right
      refine ⟨b, off, rfl, ?_, (List.range len).flatMap (fun i => [V0 i, V1 i]), ?_, fun j u hj => ?_⟩
      · have : MemPlace.cell b (off + 0) ∈ ps := by
          have := (Prod.mk.inj hx).2
          rw [this]
          exact List.mem_append_left _ (List.mem_map.2 ⟨0, by simp; omega, rfl⟩)
        exact hps _ this
      · have hlen2 : ((List.range len).flatMap fun i => [V0 i, V1 i]).length = len * 2 := by
          have := flat_len (fk := fun (i : Nat) => [isB true, isB true]) (k := 2) (fun _ => rfl) (List.range len)
          rw [List.length_flatMap] at this ⊢
          simpa using this
        refine all2_of_get (by rw [flat_len zc_len, hlen2, hl]) (fun j S v hS hv => ?_)
        have hz := pair_get (fun p : Bool × List Nat => isB p.1) (fun p => isWords p.2) l j
        rw [show (l.flatMap fun a => [isB a.1, isWords a.2]) = l.flatMap zc from rfl, hS] at hz
        have hw := pair_get V0 V1 (List.range len) j
        rw [hv] at hw
        have hj : j / 2 < l.length := by
          rcases Nat.lt_or_ge (j / 2) l.length with h | h
          · exact h
          · rw [List.getElem?_eq_none h] at hz; cases hz
        rw [List.getElem?_eq_getElem hj] at hz
        rw [List.getElem?_range (by omega)] at hw
        simp only [Option.map_some, Option.some.injEq] at hz hw
        obtain ⟨k1, k2⟩ := hgl (j / 2) hj
        subst hz; subst hw
        by_cases hp : j % 2 = 0
        · rw [if_pos hp, if_pos hp, k1]; rfl
        · rw [if_neg hp, if_neg hp]; exact k2
      · have hw := pair_get V0 V1 (List.range len) j
        rw [hj] at hw
        have hjl : j / 2 < len := by
          rcases Nat.lt_or_ge (j / 2) len with h | h
          · exact h
          · rw [List.getElem?_eq_none (by simpa using h)] at hw; cases hw
        rw [List.getElem?_range hjl] at hw
        simp only [Option.map_some, Option.some.injEq] at hw
        obtain ⟨q0, q1, _, _⟩ := hel (j / 2) (by omega)
        rw [add_mk] at q0
        rw [add_mk] at q1
        by_cases hp : j % 2 = 0
        · rw [if_pos hp] at hw; subst hw
          rw [show off + j = off + j / 2 * 2 by omega]; exact q0
        · rw [if_neg hp] at hw; subst hw
          rw [show off + j = off + (j / 2 * 2 + 1) by omega]; exact q1
end
end Go.En
/- Matrices of whole numbers that a law is handed. -/
namespace Go.En
open Go.RowKit Go.ChangeShapes Go.WideShapes Go.ChangeAt
set_option linter.unusedVariables false
section
variable {H : Type} {enc : TypeId × Value → H} {P : Program}
theorem rd_Zs {W : World} {T e tb ts T' : TypeId} {fuel : Nat} {cs : List Value} {x : DataW H × List MemPlace} (hT : P.underlying T = some (.slice e)) (hfs : fsB P e = some [(tb, 0), (ts, 1)]) (hub : P.underlying tb = some .bool) (hu : P.underlying ts = some (.slice T')) (hu' : P.underlying T' = some (.int .u64)) (hc : P.cellsOf T' = 1) (hcb : P.cellsOf tb = 1) (hcs : P.cellsOf ts = 1) (hce : P.cellsOf e = 2)
    (hf : DataW.trod enc P W 0 (fun _ => true) true fuel T cs = some x) (hps : ∀ y ∈ x.2, y.block < W.heap.size) : ∃ (v : Value) (xs : List (Bool × List Nat)), cs = [v] ∧ (isZs xs).h W (fun b => b < W.heap.size) v := by
  obtain ⟨d, ps⟩ := x
  obtain ⟨fs, hue, hsz, hget⟩ := fsB_spec hfs
  obtain ⟨f0, g0, rfl, e0⟩ := hget 0 tb 0 rfl
  obtain ⟨f1, g1, rfl, e1⟩ := hget 1 ts 1 rfl
  have hfs2 : fs = #[f0, f1] := by
    apply Array.ext'
    have hl : fs.toList.length = 2 := by simpa using hsz
    match hq : fs.toList, hl with
    | [p, q], _ =>
      have a0 : fs.toList[0]? = some f0 := by simpa using g0
      have a1 : fs.toList[1]? = some f1 := by simpa using g1
      rw [hq] at a0 a1
      simp at a0 a1
      rw [a0, a1]
  subst hfs2
  rcases Deep.open_slice_pairs hT hue hce e0 e1 hcb hcs hf with ⟨h1, _⟩ | ⟨a, len, cap, m, n, V0, V1, D0, D1, P0, P1, h1, _, hlc, hcm, hm, hx, hel⟩
  · exact ⟨_, [], h1, nilK⟩
  · simp only [if_true] at hm
    subst m
    have hps' : ∀ i, i < cap → ∀ y ∈ P1 i, y.block < W.heap.size := fun i hi y hy => hps y (by
      have := (Prod.mk.inj hx).2
      rw [this]
      exact List.mem_append_right _ (List.mem_flatMap.2 ⟨i, List.mem_range.2 hi, List.mem_append_right _ hy⟩))
    obtain ⟨l, hl, hgl⟩ := list_of_get (p := fun i (x : Bool × List Nat) => V0 i = .bool x.1 ∧ (isWords x.2).h W (fun b => b < W.heap.size) (V1 i)) len (fun i hi => by
      obtain ⟨_, _, q0, q1⟩ := hel i (by omega)
      obtain ⟨b, hb, _⟩ := DataW.trod_bool hub q0
      obtain ⟨v, ws, hv1, hw⟩ := rd_row hu hu' hc word_of q1 (hps' i (by omega))
      obtain rfl : V1 i = v := by simpa using hv1
      exact ⟨(b, ws), by simpa using hb, hw⟩)
    refine ⟨_, l, h1, some a, cap, by rw [hl], by rw [hl]; exact hlc, hcm, flat_len zc_len l, ?_⟩
    rcases Nat.eq_zero_or_pos len with h0 | h0
    · exact .inl (by omega)
    · have hc0 := (hel 0 (by omega)).1
      have hs : a.spot = none := by
        cases hsp : a.spot with
        | none => rfl
        | some s =>
          simp only [Addr.add, Nat.zero_mul, if_true] at hc0
          unfold World.cell? at hc0
          rw [hsp] at hc0
          split at hc0 <;> simp at hc0
      obtain ⟨b, off, sp⟩ := a
      simp only at hs
      subst hs
      right
      refine ⟨b, off, rfl, ?_, (List.range len).flatMap (fun i => [V0 i, V1 i]), ?_, fun j u hj => ?_⟩
      · have : MemPlace.cell b (off + 0) ∈ ps := by
          have := (Prod.mk.inj hx).2
          rw [this]
          exact List.mem_append_left _ (List.mem_map.2 ⟨0, by simp; omega, rfl⟩)
        exact hps _ this
      · have hlen2 : ((List.range len).flatMap fun i => [V0 i, V1 i]).length = len * 2 := by
          have := flat_len (fk := fun (i : Nat) => [isB true, isB true]) (k := 2) (fun _ => rfl) (List.range len)
          rw [List.length_flatMap] at this ⊢
          simpa using this
        refine all2_of_get (by rw [flat_len zc_len, hlen2, hl]) (fun j S v hS hv => ?_)
        have hz := pair_get (fun p : Bool × List Nat => isB p.1) (fun p => isWords p.2) l j
        rw [show (l.flatMap fun a => [isB a.1, isWords a.2]) = l.flatMap zc from rfl, hS] at hz
        have hw := pair_get V0 V1 (List.range len) j
        rw [hv] at hw
        have hj : j / 2 < l.length := by
          rcases Nat.lt_or_ge (j / 2) l.length with h | h
          · exact h
          · rw [List.getElem?_eq_none h] at hz; cases hz
        rw [List.getElem?_eq_getElem hj] at hz
        rw [List.getElem?_range (by omega)] at hw
        simp only [Option.map_some, Option.some.injEq] at hz hw
        obtain ⟨k1, k2⟩ := hgl (j / 2) hj
        subst hz; subst hw
        by_cases hp : j % 2 = 0
        · rw [if_pos hp, if_pos hp, k1]; rfl
        · rw [if_neg hp, if_neg hp]; exact k2
      · have hw := pair_get V0 V1 (List.range len) j
        rw [hj] at hw
        have hjl : j / 2 < len := by
          rcases Nat.lt_or_ge (j / 2) len with h | h
          · exact h
          · rw [List.getElem?_eq_none (by simpa using h)] at hw; cases hw
        rw [List.getElem?_range hjl] at hw
        simp only [Option.map_some, Option.some.injEq] at hw
        obtain ⟨q0, q1, _, _⟩ := hel (j / 2) (by omega)
        rw [add_mk] at q0
        rw [add_mk] at q1
        by_cases hp : j % 2 = 0
        · rw [if_pos hp] at hw; subst hw
          rw [show off + j = off + j / 2 * 2 by omega]; exact q0
        · rw [if_neg hp] at hw; subst hw
          rw [show off + j = off + (j / 2 * 2 + 1) by omega]; exact q1
/-- two sides and numbers -/
theorem open_M {W : World} {base : Nat} {T ti tm e tb ts T' : TypeId} {v : Value} {d : DataW H} {ps : List MemPlace} (hfM : fsB P T = some [(ti, 0), (ti, 1), (tm, 2)]) (hui : P.underlying ti = some (.int .i64)) (hT : P.underlying tm = some (.slice e)) (hfs : fsB P e = some [(tb, 0), (ts, 1)]) (hub : P.underlying tb = some .bool) (hu : P.underlying ts = some (.slice T')) (hu' : P.underlying T' = some (.int .u64)) (hc : P.cellsOf T' = 1) (hcb : P.cellsOf tb = 1) (hcs : P.cellsOf ts = 1) (hce : P.cellsOf e = 2)
    (hci : P.cellsOf ti = 1) (hcm : P.cellsOf tm = 1) (hcT : P.cellsOf T = 3) (hv : Value.okWide P W .any base T v) (h : DataW.Trod enc P W 0 (fun _ => true) true T v d ps) (hps : ∀ x ∈ ps, x.block < W.heap.size) : ∃ x : Int × Int × List (Bool × List Nat), (isM x.1 x.2.1 x.2.2).h W (fun b => b < W.heap.size) v := by
  obtain ⟨fs, huT, hsz, hget⟩ := fsB_spec hfM
  have hv' := hv
  simp only [Value.okWide, huT] at hv'
  obtain ⟨cs, rfl, _, _⟩ := hv'
  obtain ⟨fuel, hf⟩ := h
  obtain ⟨xs, m, _, hx, hl, hxl, hfe⟩ := DataW.trod_struct huT hf
  simp [Value.cells] at hl hx
  obtain ⟨f0, g0, rfl, e0⟩ := hget 0 ti 0 rfl
  obtain ⟨f1, g1, k1, e1⟩ := hget 1 _ 1 rfl
  obtain ⟨f2, g2, rfl, e2⟩ := hget 2 tm 2 rfl
  have h0 := hfe 0 f0 g0
  have h1 := hfe 1 f1 g1
  have h2 := hfe 2 f2 g2
  rw [List.getElem?_eq_getElem (by rw [hxl, hsz]; simp)] at h0 h1 h2
  rw [e0, hci] at h0
  rw [e1, k1, hci] at h1
  rw [e2, hcm] at h2
  obtain ⟨r, hr, hr1, hr2⟩ := rd_I hui h0
  obtain ⟨c, hc1, hc2, hc3⟩ := rd_I hui h1
  obtain ⟨u, ws, hu1, hw⟩ := rd_Zs hT hfs hub hu hu' hc hcb hcs hce h2 (fun y hy => hps y (by
    rw [hx.2]
    exact List.mem_flatMap.2 ⟨_, List.getElem_mem _, hy⟩))
  refine ⟨(r, c, ws), cs.toList, by simp, ?_⟩
  have hcs2 : cs.toList = [.int .i64 r, .int .i64 c, u] := by
    have hlen : cs.toList.length = 3 := by rw [← hcT]; simpa using hl
    match hq : cs.toList, hlen with
    | [p, q, t], _ =>
      have a1 : [p] = [Value.int .i64 r] := by have := hr; simpa [Value.cells, hq] using this
      have a2 : [q] = [Value.int .i64 c] := by have := hc1; simpa [Value.cells, hq] using this
      have a3 : [t] = [u] := by have := hu1; simpa [Value.cells, hq] using this
      rw [List.cons.inj a1 |>.1, List.cons.inj a2 |>.1, List.cons.inj a3 |>.1]
  rw [hcs2]
  exact ⟨⟨rfl, hr1, hr2⟩, ⟨rfl, hc2, hc3⟩, hw, trivial⟩
end
end Go.En
/- A law of layer 26, as it is stated. -/
namespace Go.Proofs.Ytgkbekcpmbjbdaa
open Go.En Go.RowKit
set_option linter.unusedVariables false
set_option maxRecDepth 10000
open Go.ChangeShapes
open Go.WideShapes
open Go.ChangeAt
open Go.Nt
open Go.Pz
open Go.Mz
theorem opens_ZcharValues : Opens Try.prog Try.f4 4 := by
  intro H enc W base args ds ps hval hA hlt
  rw [Try.params4] at hA hval
  obtain ⟨v0, vs0, d0, ds0, p0, q0, hargs, rfl, rfl, h0, r0⟩ := trodAll_cons hA
  obtain ⟨v1, vs1, d1, ds1, p1, q1, rfl, rfl, rfl, h1, r1⟩ := trodAll_cons r0
  obtain ⟨rfl, rfl, rfl⟩ := trodAll_nil r1
  obtain rfl : args = #[v0, v1] := by cases args; simp_all
  obtain ⟨x0, o0⟩ := open_M fs24 un3 un22 fs44 un4 un42 un59 (by kernel_rfl) (by kernel_rfl) (by kernel_rfl) (by kernel_rfl) (by kernel_rfl) (by kernel_rfl) (by kernel_rfl) (hval 0 24 v0 rfl rfl) h0 (fun x hx => hlt x (by simp [hx]))
  obtain ⟨x1, o1⟩ := open_Zs un34 fs44 un4 un42 un59 (by kernel_rfl) (by kernel_rfl) (by kernel_rfl) (by kernel_rfl) (hval 1 34 v1 rfl rfl) h1 (fun x hx => hlt x (by simp [hx]))
  refine ⟨_, ?_, c_ZcharValues x0.1 x0.2.1 x0.2.2 x1⟩
  exact ⟨o0, o1, trivial⟩
theorem zcharValues_said : Rows.ZcharValuesSaid :=
  OpenClaim.holds_of_wide 4 Try.f4 rfl rfl rfl rfl rfl rfl rfl ⟨rfl, rfl, rfl, rfl, rfl⟩ rfl rfl rfl rfl rfl (by kernel_rfl) Try.func4 (by kernel_rfl)
    (of_decide_eq_true (by kernel_rfl)) (by unfold Func.isWrapper; first | (rw [if_pos (by decide +kernel)]; kernel_rfl) | (rw [if_neg (by decide +kernel)]; exact ⟨rfl, rfl⟩))
    (fun os started H enc _ => lift_law (C := Try.checked) (s := Rows.zcharValuesSpec) (by kernel_rfl) started (by kernel_rfl) Try.func4
      (ChangeSpec.witness6 (enc := enc) (C := Try.checked) false ⟨#[], #[.agg #[.int .i64 0, .int .i64 0, .slice none 0 0], .slice none 0 0], []⟩ 8 (by kernel_rfl) (by kernel_rfl) (by kernel_rfl) (by kernel_rfl))
      (by kernel_rfl) (by kernel_rfl) rfl rfl un4 (fun ds h => by match ds, h with | [d0, d1], _ => rfl) opens_ZcharValues)
#print axioms zcharValues_said
end Go.Proofs.Ytgkbekcpmbjbdaa
