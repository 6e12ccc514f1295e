/- Contracts: the greatest common divisor with what makes it; rests, inverses. -/
import Derived.Test.YtokhpacdgoebpaaZr1
import Derived.Test.YtokhpacdgoebpaaZM
namespace Go.Proofs.Ytokhpacdgoebpaa
open Go.En Go.RowKit
set_option linter.unusedVariables false
set_option maxRecDepth 10000
open Go.Nt
set_option maxHeartbeats 4000000 in
theorem zint_Xgcd {m n : Bool} {xs ys : List Nat} (hx : (List.length (words (val xs))) ≤ 8) (hy : (List.length (words (val ys))) ≤ 8) (hb : zv n ys ≠ 0) : Ctr Try.prog 94 [Flat [isB m, isWords xs], Flat [isB n, isWords ys]] (isTup [isZ ((Nat.gcd (zv m xs).natAbs (zv n ys).natAbs : Nat) : Int), isZ (xg (zv m xs) (zv n ys)), isZ (if zv n ys ≠ 0 ∧ (((Nat.gcd (zv m xs).natAbs (zv n ys).natAbs : Nat) : Int) - xg (zv m xs) (zv n ys) * zv m xs).tmod (zv n ys) = 0 then (((Nat.gcd (zv m xs).natAbs (zv n ys).natAbs : Nat) : Int) - xg (zv m xs) (zv n ys) * zv m xs).tdiv (zv n ys) else 0)]) := by
  refine Ctr.intro Try.func94 rfl (by kernel_rfl) Try.ntmps94 rfl fun w0 F0 => ?_
  refine Tri.cv (Cv.wk (.cons (t := 0) (Has.t rfl) (.cons (t := 1) (Has.t rfl) .nil))) ?_
  refine Tri.fact (Has.okZ (Has.t (t := 0) rfl)) fun okz0 => ?_
  refine Tri.fact (Has.okZ (Has.t (t := 1) rfl)) fun okz1 => ?_
  have hxx := zv_nw m xs
  have hyy := zv_nw n ys
  have h1 := nz_one
  have hcof := cof_all (zv m xs) (zv n ys)
  have hg1 := hcof.1
  obtain ⟨g, hge⟩ : ∃ g : Int, g = ((Nat.gcd (zv m xs).natAbs (zv n ys).natAbs : Nat) : Int) := ⟨_, rfl⟩
  have hgn : (List.length (words g.natAbs)) ≤ 8 := by rw [hge, Int.natAbs_natCast]; exact Nat.le_trans (nw_mono (Nat.gcd_le_right _ (by omega))) (by omega)
  obtain ⟨c, hce⟩ : ∃ c, c = (cof (zv m xs) (zv n ys) 1 0).2 := ⟨_, rfl⟩
  have hcn : (List.length (words c.natAbs)) ≤ 8 := by rw [hce]; exact Nat.le_trans (nw_mono hcof.2.2) (Nat.le_trans (nw_max _ _) (by have := nw_one; omega))
  obtain ⟨sp, hst⟩ : ∃ sp : Int, sp = ((zv n ys).natAbs : Int) / g := ⟨_, rfl⟩
  have hsp : 0 < sp := by rw [hst, hge]; exact step_pos hb
  have hsn : (List.length (words sp.natAbs)) ≤ 8 := by rw [hst, hge]; exact Nat.le_trans (nw_mono (step_le _ _)) (by omega)
  obtain ⟨x, hxe⟩ : ∃ x, x = xg (zv m xs) (zv n ys) := ⟨_, rfl⟩
  have hxn : (List.length (words x.natAbs)) ≤ 8 := by rw [hxe]; exact Nat.le_trans (nw_mono (xg_le hb)) (by omega)
  have hm := nz_mul x (zv m xs)
  have hs := nz_sub g (x * zv m xs)
  have hx2 : c % sp = x := by rw [hxe, hce, hst, hge]; rfl
  refine Tri.seq fun K1 hK1 => ?_
  refine Tri.region ?_
  refine Ops.box (Has.t rfl) rfl fun b1 => ?_
  refine Ops.box (Has.t rfl) rfl fun b2 => ?_
  refine Ops.alloc [isB false, SlM isU []] zero55 (fun _ _ => ⟨rfl, nilM _ _, trivial⟩) rfl fun b3 => ?_
  refine Ops.alloc [isB false, SlM isU []] zero55 (fun _ _ => ⟨rfl, nilM _ _, trivial⟩) rfl fun b4 => ?_
  refine Ops.alloc [isB false, SlM isU []] zero55 (fun _ _ => ⟨rfl, nilM _ _, trivial⟩) rfl fun b5 => ?_
  refine nl ?_
  refine At.thn (hK1 _ _ ?_); clear hK1
  refine Tri.seq fun K2 hK2 => ?_
  refine Tri.seq fun K3 hK3 => ?_
  refine Tri.region ?_
  refine st (OK1.load (Has.t rfl) (i := 3) rfl ty55 rfl (Ss' := [_, _]) rfl) rfl ?_
  refine st (OK1.call (zint_Sign (by first | with_reducible assumption | omega | (simp only [val_words, zv_nf]; omega) | (simp only [val_words, zv_nf, Int.natAbs_natCast]; omega) | (simp only [val_words]; exact Nat.le_trans (nw_small' (by omega)) (by decide)))) (.cons (Has.t rfl) .nil)) rfl ?_
  refine st (OK1.eqI (Has.t rfl) (Has.cI 0 rfl)) rfl ?_
  refine nl ?_
  refine At.thn (hK3 _ _ ?_); clear hK3
  refine Tri.cond (Has.t rfl) (fun hc1 => ?_) (fun hc1 => ?_)
  · have hc1 := BP.t hc1
    exact absurd ((sgn_eq0 _).1 hc1) hb
  · have hc1 := BP.f hc1
    refine Tri.skip ?_
    refine At.thn (hK2 _ _ ?_); clear hK2
    refine Tri.cv (Cv.wk (.cons (t := 2) (Has.t rfl) (.cons (t := 3) (Has.t rfl) (.cons (t := 4) (Has.t rfl) (.cons (t := 5) (Has.t rfl) (.cons (t := 6) (Has.t rfl) .nil)))))) ?_
    refine Tri.seq fun K4 hK4 => ?_
    refine Tri.region ?_
    refine st (OK1.load (Has.t rfl) (i := 4) rfl ty55 rfl (Ss' := [_, _]) rfl) rfl ?_
    refine st (OK1.load (Has.t rfl) (i := 3) rfl ty55 rfl (Ss' := [_, _]) rfl) rfl ?_
    refine st (OK1.eq (OK1.call (zint_cofactor (by first | with_reducible assumption | omega | (simp only [val_words, zv_nf]; omega) | (simp only [val_words, zv_nf, Int.natAbs_natCast]; omega) | (simp only [val_words]; exact Nat.le_trans (nw_small' (by omega)) (by decide))) (by first | with_reducible assumption | omega | (simp only [val_words, zv_nf]; omega) | (simp only [val_words, zv_nf, Int.natAbs_natCast]; omega) | (simp only [val_words]; exact Nat.le_trans (nw_small' (by omega)) (by decide)))) (.cons (Has.t rfl) (.cons (Has.t rfl) .nil))) ((show isTup [isZ _, isZ _] = isTup [isZ g, isZ c] from by rw [hce, hge, hg1]))) rfl ?_
    refine st (OK1.mv (Has.t rfl)) rfl ?_
    refine st (OK1.ext (Has.t rfl) rfl) rfl ?_
    refine st (OK1.ext (Has.t rfl) rfl) rfl ?_
    refine Ops.alloc [isB false, SlM isU []] zero55 (fun _ _ => ⟨rfl, nilM _ _, trivial⟩) rfl fun b6 => ?_
    refine Ops.alloc [isB false, SlM isU []] zero55 (fun _ _ => ⟨rfl, nilM _ _, trivial⟩) rfl fun b7 => ?_
    refine Ops.store (Has.t rfl) (Has.t rfl) (i := 1) rfl ty55 rfl rfl (Ss' := [_, _]) rfl (M' := [_, (some _, cellM [_, _]), _, _, _, _, _]) rfl ?_
    refine Ops.store (Has.t rfl) (Has.t rfl) (i := 0) rfl ty55 rfl rfl (Ss' := [_, _]) rfl (M' := [(some _, cellM [_, _]), _, _, _, _, _, _]) rfl ?_
    refine nl ?_
    refine At.thn (hK4 _ _ ?_); clear hK4
    refine Tri.cv (Cv.wk (.cons (t := 2) (Has.t rfl) (.cons (t := 3) (Has.t rfl) (.cons (t := 4) (Has.t rfl) (.cons (t := 5) (Has.t rfl) (.cons (t := 6) (Has.t rfl) (.cons (t := 7) (Has.t rfl) (.cons (t := 8) (Has.t rfl) .nil)))))))) ?_
    refine Tri.seq fun K5 hK5 => ?_
    refine Tri.drh [true, true, true, true, true, true, true] (Ms := [_, _, _, _, _, _, _]) rfl ?_
    refine DrH.st (i := 0) [] rfl rfl rfl (by kernel_rfl) (OKG.o rfl (OK1.load (Has.t rfl) (i := 5) rfl ty55 rfl (Ss' := [_, _]) rfl)) ?_
    refine DrH.st (i := 1) [29] rfl rfl rfl (by kernel_rfl) (OKG.o rfl (OK1.call (zint_Abs (by first | with_reducible assumption | omega | (simp only [val_words, zv_nf]; omega) | (simp only [val_words, zv_nf, Int.natAbs_natCast]; omega) | (simp only [val_words]; exact Nat.le_trans (nw_small' (by omega)) (by decide)))) (.cons (Has.t rfl) .nil))) ?_
    refine DrH.st (i := 2) [] rfl rfl rfl (by kernel_rfl) (OKG.o rfl (OK1.load (Has.t rfl) (i := 1) rfl ty55 rfl (Ss' := [_, _]) rfl)) ?_
    refine DrH.st (i := 3) [30, 31] rfl rfl rfl (by kernel_rfl) (OKG.o rfl (OK1.eq (OK1.call (zint_Exact (by first | with_reducible assumption | omega | (simp only [val_words, zv_nf]; omega) | (simp only [val_words, zv_nf, Int.natAbs_natCast]; omega) | (simp only [val_words]; exact Nat.le_trans (nw_small' (by omega)) (by decide))) (by first | with_reducible assumption | omega | (simp only [val_words, zv_nf]; omega) | (simp only [val_words, zv_nf, Int.natAbs_natCast]; omega) | (simp only [val_words]; exact Nat.le_trans (nw_small' (by omega)) (by decide)))) (.cons (Has.t rfl) (.cons (Has.t rfl) .nil))) ((by simp only [zv_nf]; rw [show (if g ≠ 0 ∧ (((zv n ys).natAbs : Nat) : Int).tmod g = 0 then (((zv n ys).natAbs : Nat) : Int).tdiv g else 0) = sp from by rw [hst, hge, ← hg1]; exact (xg_step hb).trans (by rw [hg1])])))) ?_
    refine DrH.st (i := 4) [32] rfl rfl rfl (by kernel_rfl) (OKG.o rfl (OK1.mv (Has.t rfl))) ?_
    refine DrH.st (i := 5) [28] rfl rfl rfl (by kernel_rfl) (OKG.o rfl (OK1.ext (Has.t rfl) rfl)) ?_
    refine DrH.st (i := 6) [28] rfl rfl rfl (by kernel_rfl) (OKG.o rfl (OK1.ext (Has.t rfl) rfl)) ?_
    refine DrH.als (n1 := 8) (ds := [9]) (zs := [[isB false, SlM isU []]]) rfl (.cons rfl rfl zero55 (fun _ _ => ⟨rfl, nilM _ _, trivial⟩) .nil) (.cons_cons _ (.cons_cons _ (.cons_cons _ (.cons_cons _ (.cons_cons _ (.cons_cons _ (.cons_cons _ .slnil))))))) (Cs := [_]) rfl ?_
    refine DrN.new [33] 0 (Ss' := [_, _]) (Cs' := [cellM [_, _]]) rfl (by kernel_rfl) (by kernel_rfl) rfl rfl rfl (by kernel_rfl) rfl (Has.t rfl) ty55 rfl rfl rfl rfl ?_
    refine DrN.fin (n := 9) mixed rfl (by kernel_rfl) (by kernel_rfl) (by kernel_rfl) (fun bs hbs => ?_)
    obtain ⟨b8, rfl⟩ := len1 hbs
    refine Ops.memEq (M' := [_, _, _, _, _, _, _, _]) rfl ?_
    refine Ops.cv (Cv.wk (.cons (t := 2) (Has.t rfl) (.cons (t := 3) (Has.t rfl) (.cons (t := 4) (Has.t rfl) (.cons (t := 5) (Has.t rfl) (.cons (t := 6) (Has.t rfl) (.cons (t := 7) (Has.t rfl) (.cons (t := 8) (Has.t rfl) (.cons (t := 34) (Has.t rfl) (.cons (t := 9) (Has.op rfl) .nil)))))))))) ?_
    refine st (OK1.as (Has.t rfl)) rfl ?_
    refine nl ?_
    refine At.thn (hK5 _ _ ?_); clear hK5
    refine Tri.seq fun K6 hK6 => ?_
    refine Tri.region ?_
    refine st (OK1.load (Has.t rfl) (i := 1) rfl ty55 rfl (Ss' := [_, _]) rfl) rfl ?_
    refine st (OK1.load (Has.t rfl) (i := 0) rfl ty55 rfl (Ss' := [_, _]) rfl) rfl ?_
    refine st (OK1.eq (OK1.call (zint_Euclid (by first | with_reducible assumption | omega | (simp only [val_words, zv_nf]; omega) | (simp only [val_words, zv_nf, Int.natAbs_natCast]; omega) | (simp only [val_words]; exact Nat.le_trans (nw_small' (by omega)) (by decide))) (by first | with_reducible assumption | omega | (simp only [val_words, zv_nf]; omega) | (simp only [val_words, zv_nf, Int.natAbs_natCast]; omega) | (simp only [val_words]; exact Nat.le_trans (nw_small' (by omega)) (by decide)))) (.cons (Has.t rfl) (.cons (Has.t rfl) .nil))) ((by simp only [zv_nf]; rw [if_neg (show ¬ sp = 0 by omega), hx2]))) rfl ?_
    refine st (OK1.mv (Has.t rfl)) rfl ?_
    refine st (OK1.ext (Has.t rfl) rfl) rfl ?_
    refine st (OK1.ext (Has.t rfl) rfl) rfl ?_
    refine st (OK1.ext (Has.t rfl) rfl) rfl ?_
    refine Ops.store (Has.t rfl) (Has.t rfl) (i := 1) rfl ty55 rfl rfl (Ss' := [_, _]) rfl (M' := [_, (some _, cellM [_, _]), _, _, _, _, _, _]) rfl ?_
    refine nl ?_
    refine At.thn (hK6 _ _ ?_); clear hK6
    refine Tri.cv (Cv.wk (.cons (t := 2) (Has.t rfl) (.cons (t := 3) (Has.t rfl) (.cons (t := 4) (Has.t rfl) (.cons (t := 5) (Has.t rfl) (.cons (t := 6) (Has.t rfl) (.cons (t := 7) (Has.t rfl) (.cons (t := 8) (Has.t rfl) .nil)))))))) ?_
    refine Tri.seq fun K7 hK7 => ?_
    refine Tri.drh [true, true, true, true, true, true, true, true] (Ms := [_, _, _, _, _, _, _, _]) rfl ?_
    refine DrH.st (i := 0) [] rfl rfl rfl (by kernel_rfl) (OKG.o rfl (OK1.load (Has.t rfl) (i := 2) rfl ty55 rfl (Ss' := [_, _]) rfl)) ?_
    refine DrH.st (i := 1) [] rfl rfl rfl (by kernel_rfl) (OKG.o rfl (OK1.load (Has.t rfl) (i := 1) rfl ty55 rfl (Ss' := [_, _]) rfl)) ?_
    refine DrH.st (i := 2) [] rfl rfl rfl (by kernel_rfl) (OKG.o rfl (OK1.load (Has.t rfl) (i := 7) rfl ty55 rfl (Ss' := [_, _]) rfl)) ?_
    refine DrH.st (i := 3) [44, 45] rfl rfl rfl (by kernel_rfl) (OKG.o rfl (OK1.eq (OK1.call (zint_Mul (by first | with_reducible assumption | omega | (simp only [val_words, zv_nf]; omega) | (simp only [val_words, zv_nf, Int.natAbs_natCast]; omega) | (simp only [val_words]; exact Nat.le_trans (nw_small' (by omega)) (by decide))) (by first | with_reducible assumption | omega | (simp only [val_words, zv_nf]; omega) | (simp only [val_words, zv_nf, Int.natAbs_natCast]; omega) | (simp only [val_words]; exact Nat.le_trans (nw_small' (by omega)) (by decide)))) (.cons (Has.t rfl) (.cons (Has.t rfl) .nil))) (by first | (simp only [val_words, zv_nf]; rfl) | rfl))) ?_
    refine DrH.st (i := 4) [43, 46] rfl rfl rfl (by kernel_rfl) (OKG.o rfl (OK1.eq (OK1.call (zint_Sub (by first | with_reducible assumption | omega | (simp only [val_words, zv_nf]; omega) | (simp only [val_words, zv_nf, Int.natAbs_natCast]; omega) | (simp only [val_words]; exact Nat.le_trans (nw_small' (by omega)) (by decide))) (by first | with_reducible assumption | omega | (simp only [val_words, zv_nf]; omega) | (simp only [val_words, zv_nf, Int.natAbs_natCast]; omega) | (simp only [val_words]; exact Nat.le_trans (nw_small' (by omega)) (by decide)))) (.cons (Has.t rfl) (.cons (Has.t rfl) .nil))) (by first | (simp only [val_words, zv_nf]; rfl) | rfl))) ?_
    refine DrH.st (i := 5) [] rfl rfl rfl (by kernel_rfl) (OKG.o rfl (OK1.load (Has.t rfl) (i := 6) rfl ty55 rfl (Ss' := [_, _]) rfl)) ?_
    refine DrH.st (i := 6) [47, 48] rfl rfl rfl (by kernel_rfl) (OKG.o rfl (OK1.eq (OK1.call (zint_Exact (by first | with_reducible assumption | omega | (simp only [val_words, zv_nf]; omega) | (simp only [val_words, zv_nf, Int.natAbs_natCast]; omega) | (simp only [val_words]; exact Nat.le_trans (nw_small' (by omega)) (by decide))) (by first | with_reducible assumption | omega | (simp only [val_words, zv_nf]; omega) | (simp only [val_words, zv_nf, Int.natAbs_natCast]; omega) | (simp only [val_words]; exact Nat.le_trans (nw_small' (by omega)) (by decide)))) (.cons (Has.t rfl) (.cons (Has.t rfl) .nil))) (by first | (simp only [val_words, zv_nf]; rfl) | rfl))) ?_
    refine DrH.st (i := 7) [49] rfl rfl rfl (by kernel_rfl) (OKG.o rfl (OK1.mv (Has.t rfl))) ?_
    refine DrH.st (i := 8) [42] rfl rfl rfl (by kernel_rfl) (OKG.o rfl (OK1.ext (Has.t rfl) rfl)) ?_
    refine DrH.st (i := 9) [42] rfl rfl rfl (by kernel_rfl) (OKG.o rfl (OK1.ext (Has.t rfl) rfl)) ?_
    refine DrH.als (n1 := 11) (ds := [11]) (zs := [[isB false, SlM isU []]]) rfl (.cons rfl rfl zero55 (fun _ _ => ⟨rfl, nilM _ _, trivial⟩) .nil) (.cons_cons _ (.cons_cons _ (.cons_cons _ (.cons_cons _ (.cons_cons _ (.cons_cons _ (.cons_cons _ (.cons_cons _ .slnil)))))))) (Cs := [_]) rfl ?_
    refine DrN.new [50] 0 (Ss' := [_, _]) (Cs' := [cellM [_, _]]) rfl (by kernel_rfl) (by kernel_rfl) rfl rfl rfl (by kernel_rfl) rfl (Has.t rfl) ty55 rfl rfl rfl rfl ?_
    refine DrN.fin (n := 12) mixed rfl (by kernel_rfl) (by kernel_rfl) (by kernel_rfl) (fun bs hbs => ?_)
    obtain ⟨b9, rfl⟩ := len1 hbs
    refine Ops.memEq (M' := [_, _, _, _, _, _, _, _, _]) rfl ?_
    refine Ops.cv (Cv.wk (.cons (t := 4) (Has.t rfl) (.cons (t := 5) (Has.t rfl) (.cons (t := 6) (Has.t rfl) (.cons (t := 7) (Has.t rfl) (.cons (t := 8) (Has.t rfl) (.cons (t := 51) (Has.t rfl) (.cons (t := 11) (Has.op rfl) .nil)))))))) ?_
    refine st (OK1.as (Has.t rfl)) rfl ?_
    refine nl ?_
    refine At.thn (hK7 _ _ ?_); clear hK7
    refine Tri.seq fun K8 hK8 => ?_
    refine Tri.drh [true, true, true, true, true, false, false, true, true] (Ms := [_, _, _, _, _, _, _]) rfl ?_
    refine DrH.st (i := 0) [] rfl rfl rfl (by kernel_rfl) (OKG.o rfl (OK1.load (Has.t rfl) (i := 3) rfl ty55 rfl (Ss' := [_, _]) rfl)) ?_
    refine DrH.st (i := 1) [] rfl rfl rfl (by kernel_rfl) (OKG.o rfl (OK1.load (Has.t rfl) (i := 2) rfl ty55 rfl (Ss' := [_, _]) rfl)) ?_
    refine DrH.st (i := 2) [] rfl rfl rfl (by kernel_rfl) (OKG.o rfl (OK1.load (Has.t rfl) (i := 0) rfl ty55 rfl (Ss' := [_, _]) rfl)) ?_
    refine DrH.mid (.cons_cons _ (.cons_cons _ (.cons_cons _ (.cons_cons _ (.cons_cons _ (.cons _ (.cons _ (.cons_cons _ (.cons_cons _ .slnil))))))))) ?_
    refine DrM.st [52] rfl rfl (by kernel_rfl) (by kernel_rfl) (StS.store (Has.t rfl) (Has.t rfl) (i := 6) rfl ty55 rfl rfl (Ss' := [_, _]) rfl (M' := [_, _, _, _, _, _, (some _, cellM [_, _]), _, _]) rfl) (.cons_cons _ (.cons_cons _ (.cons_cons _ (.cons_cons _ (.cons_cons _ (.cons _ (.cons _ (.cons_cons _ (.cons_cons _ .slnil))))))))) ?_
    refine DrM.st [53] rfl rfl (by kernel_rfl) (by kernel_rfl) (StS.store (Has.t rfl) (Has.t rfl) (i := 5) rfl ty55 rfl rfl (Ss' := [_, _]) rfl (M' := [_, _, _, _, _, (some _, cellM [_, _]), _, _, _]) rfl) (.cons_cons _ (.cons_cons _ (.cons_cons _ (.cons_cons _ (.cons_cons _ (.cons _ (.cons _ (.cons_cons _ (.cons_cons _ .slnil))))))))) ?_
    refine DrM.fin (n := 5) mixed rfl (by kernel_rfl) (by kernel_rfl) (by kernel_rfl) ?_
    refine Ops.cv (Cv.wk (.cons (t := 4) (Has.t rfl) (.cons (t := 5) (Has.t rfl) (.cons (t := 6) (Has.t rfl) (.cons (t := 54) (Has.t rfl) .nil))))) ?_
    refine Ops.store (Has.t rfl) (Has.t rfl) (i := 4) rfl ty55 rfl rfl (Ss' := [_, _]) rfl (M' := [_, _, _, _, (some _, cellM [_, _]), _, _, _, _]) rfl ?_
    refine nl ?_
    refine At.thn (hK8 _ _ ?_); clear hK8
    refine Tri.ret ?_
    refine rtN (.inl rfl) Try.results94 rfl rfl (.cell rfl (i := 6) rfl ty55 rfl ?_ (.cell rfl (i := 5) rfl ty55 rfl ?_ (.cell rfl (i := 4) rfl ty55 rfl ?_ .nil)))
    · exact isZ_eq hge
    · exact isZ_eq hxe
    · exact isZ_eq (by rw [hge, hxe])

set_option maxHeartbeats 4000000 in
theorem modn_Mod {m n : Bool} {xs ys : List Nat} (hx : (List.length (words (val xs))) < 4294700000) (hy : (List.length (words (val ys))) < 4294700000) : Ctr Try.prog 45 [Flat [isB m, isWords xs], Flat [isB n, isWords ys]] (isTup [isZ (if 0 < zv n ys then zv m xs % zv n ys else 0), isB (decide (0 < zv n ys))]) := by
  refine Ctr.intro Try.func45 rfl (by kernel_rfl) Try.ntmps45 rfl fun w0 F0 => ?_
  refine Tri.cv (Cv.wk (.cons (t := 0) (Has.t rfl) (.cons (t := 1) (Has.t rfl) .nil))) ?_
  refine Tri.fact (Has.okZ (Has.t (t := 0) rfl)) fun okz0 => ?_
  refine Tri.fact (Has.okZ (Has.t (t := 1) rfl)) fun okz1 => ?_
  refine Tri.seq fun K1 hK1 => ?_
  refine Tri.region ?_
  refine Ops.box (Has.t rfl) rfl fun b1 => ?_
  refine Ops.box (Has.t rfl) rfl fun b2 => ?_
  refine Ops.alloc [isB false, SlM isU []] zero55 (fun _ _ => ⟨rfl, nilM _ _, trivial⟩) rfl fun b3 => ?_
  refine st (OK1.as (Has.cB false)) rfl ?_
  refine nl ?_
  refine At.thn (hK1 _ _ ?_); clear hK1
  refine Tri.seq fun K2 hK2 => ?_
  refine Tri.seq fun K3 hK3 => ?_
  refine Tri.region ?_
  refine st (OK1.load (Has.t rfl) (i := 1) rfl ty55 rfl (Ss' := [_, _]) rfl) rfl ?_
  refine st (OK1.call (zint_Sign (by first | with_reducible assumption | omega | (simp only [val_words, zv_nf]; omega) | (simp only [val_words, zv_nf, Int.natAbs_natCast]; omega) | (simp only [val_words]; exact Nat.le_trans (nw_small' (by omega)) (by decide)))) (.cons (Has.t rfl) .nil)) rfl ?_
  refine st (OK1.leI (Has.t rfl) (Has.cI 0 rfl)) rfl ?_
  refine nl ?_
  refine At.thn (hK3 _ _ ?_); clear hK3
  refine Tri.cond (Has.t rfl) (fun hc1 => ?_) (fun hc1 => ?_)
  · have hc1 := BP.t hc1
    have hN : ¬ 0 < zv n ys := fun e => by have := (sgn_pos _).2 e; omega
    refine Tri.seq fun K4 hK4 => ?_
    refine Tri.region ?_
    refine st (OK1.eq (OK1.build [isB false, SlM isU []] pl55 zero55 (fun _ _ => ⟨rfl, nilM _ _, trivial⟩) .nil (Z'' := [_, _]) rfl) (isZ0)) rfl ?_
    refine Ops.store (Has.t rfl) (Has.t rfl) (i := 0) rfl ty55 rfl rfl (Ss' := [_, _]) rfl (M' := [(some _, cellM [_, _]), _, _]) rfl ?_
    refine st (OK1.as (Has.cB false)) rfl ?_
    refine nl ?_
    refine At.thn (hK4 _ _ ?_); clear hK4
    refine Tri.cv (Cv.wk (.cons (t := 2) (Has.t rfl) (.cons (t := 3) (Has.t rfl) (.cons (t := 4) (Has.t rfl) (.cons (t := 5) (Has.t rfl) .nil))))) ?_
    refine Tri.ret ?_
    refine At.thr ?_
    refine rtN (.inl rfl) Try.results45 rfl rfl (.cell rfl (i := 0) rfl ty55 rfl ?_ (.tmp (Has.t' rfl ?_) .nil))
    · exact isZ_eq (if_neg hN).symm
    · exact isB_eq (decide_eq_false hN).symm
  · have hc1 := BP.f hc1
    have hP : 0 < zv n ys := (sgn_pos _).1 (by omega)
    refine Tri.skip ?_
    refine At.thn (hK2 _ _ ?_); clear hK2
    refine Tri.cv (Cv.wk (.cons (t := 2) (Has.t rfl) (.cons (t := 3) (Has.t rfl) (.cons (t := 4) (Has.t rfl) (.cons (t := 5) (Has.t rfl) .nil))))) ?_
    refine Tri.seq fun K5 hK5 => ?_
    refine Tri.region ?_
    refine st (OK1.load (Has.t rfl) (i := 2) rfl ty55 rfl (Ss' := [_, _]) rfl) rfl ?_
    refine st (OK1.load (Has.t rfl) (i := 1) rfl ty55 rfl (Ss' := [_, _]) rfl) rfl ?_
    refine st (OK1.call (zint_Euclid (by first | with_reducible assumption | omega | (simp only [val_words, zv_nf]; omega) | (simp only [val_words, zv_nf, Int.natAbs_natCast]; omega) | (simp only [val_words]; exact Nat.le_trans (nw_small' (by omega)) (by decide))) (by first | with_reducible assumption | omega | (simp only [val_words, zv_nf]; omega) | (simp only [val_words, zv_nf, Int.natAbs_natCast]; omega) | (simp only [val_words]; exact Nat.le_trans (nw_small' (by omega)) (by decide)))) (.cons (Has.t rfl) (.cons (Has.t rfl) .nil))) rfl ?_
    refine st (OK1.mv (Has.t rfl)) rfl ?_
    refine st (OK1.ext (Has.t rfl) rfl) rfl ?_
    refine st (OK1.ext (Has.t rfl) rfl) rfl ?_
    refine st (OK1.ext (Has.t rfl) rfl) rfl ?_
    refine Ops.alloc [isB false, SlM isU []] zero55 (fun _ _ => ⟨rfl, nilM _ _, trivial⟩) rfl fun b4 => ?_
    refine Ops.alloc [isB false, SlM isU []] zero55 (fun _ _ => ⟨rfl, nilM _ _, trivial⟩) rfl fun b5 => ?_
    refine Ops.store (Has.t rfl) (Has.t rfl) (i := 1) rfl ty55 rfl rfl (Ss' := [_, _]) rfl (M' := [_, (some _, cellM [_, _]), _, _, _]) rfl ?_
    refine Ops.store (Has.t rfl) (Has.t rfl) (i := 0) rfl ty55 rfl rfl (Ss' := [_, _]) rfl (M' := [(some _, cellM [_, _]), _, _, _, _]) rfl ?_
    refine st (OK1.as (Has.t rfl)) rfl ?_
    refine nl ?_
    refine At.thn (hK5 _ _ ?_); clear hK5
    refine Tri.cv (Cv.wk (.cons (t := 4) (Has.t rfl) (.cons (t := 5) (Has.t rfl) (.cons (t := 7) (Has.t rfl) (.cons (t := 8) (Has.t rfl) .nil))))) ?_
    refine Tri.seq fun K6 hK6 => ?_
    refine Tri.region ?_
    refine st (OK1.load (Has.t rfl) (i := 0) rfl ty55 rfl (Ss' := [_, _]) rfl) rfl ?_
    refine st (OK1.mv (Has.t rfl)) rfl ?_
    refine Ops.store (Has.t rfl) (Has.t rfl) (i := 2) rfl ty55 rfl rfl (Ss' := [_, _]) rfl (M' := [_, _, (some _, cellM [_, _]), _, _]) rfl ?_
    refine st (OK1.as (Has.t rfl)) rfl ?_
    refine nl ?_
    refine At.thn (hK6 _ _ ?_); clear hK6
    refine Tri.ret ?_
    refine rtN (.inl rfl) Try.results45 rfl rfl (.cell rfl (i := 2) rfl ty55 rfl ?_ (.tmp (Has.t' rfl ?_) .nil))
    · exact isZ_eq (by rw [if_neg (by omega), if_pos hP])
    · exact isB_eq (decide_eq_decide.2 ⟨fun _ => hP, fun _ => by omega⟩)

set_option maxHeartbeats 4000000 in
theorem modn_rest {m n : Bool} {xs ys : List Nat} (hx : (List.length (words (val xs))) < 4294700000) (hy : (List.length (words (val ys))) < 4294700000) (hp : 0 < zv n ys) : Ctr Try.prog 95 [Flat [isB m, isWords xs], Flat [isB n, isWords ys]] (isZ (zv m xs % zv n ys)) := by
  refine Ctr.intro Try.func95 rfl (by kernel_rfl) Try.ntmps95 rfl fun w0 F0 => ?_
  refine Tri.cv (Cv.wk (.cons (t := 0) (Has.t rfl) (.cons (t := 1) (Has.t rfl) .nil))) ?_
  refine Tri.fact (Has.okZ (Has.t (t := 0) rfl)) fun okz0 => ?_
  refine Tri.fact (Has.okZ (Has.t (t := 1) rfl)) fun okz1 => ?_
  refine Tri.seq fun K1 hK1 => ?_
  refine Tri.region ?_
  refine Ops.box (Has.t rfl) rfl fun b1 => ?_
  refine Ops.box (Has.t rfl) rfl fun b2 => ?_
  refine Ops.alloc [isB false, SlM isU []] zero55 (fun _ _ => ⟨rfl, nilM _ _, trivial⟩) rfl fun b3 => ?_
  refine nl ?_
  refine At.thn (hK1 _ _ ?_); clear hK1
  refine Tri.seq fun K2 hK2 => ?_
  refine Tri.region ?_
  refine st (OK1.load (Has.t rfl) (i := 2) rfl ty55 rfl (Ss' := [_, _]) rfl) rfl ?_
  refine st (OK1.load (Has.t rfl) (i := 1) rfl ty55 rfl (Ss' := [_, _]) rfl) rfl ?_
  refine st (OK1.call (modn_Mod (by first | with_reducible assumption | omega | (simp only [val_words, zv_nf]; omega) | (simp only [val_words, zv_nf, Int.natAbs_natCast]; omega) | (simp only [val_words]; exact Nat.le_trans (nw_small' (by omega)) (by decide))) (by first | with_reducible assumption | omega | (simp only [val_words, zv_nf]; omega) | (simp only [val_words, zv_nf, Int.natAbs_natCast]; omega) | (simp only [val_words]; exact Nat.le_trans (nw_small' (by omega)) (by decide)))) (.cons (Has.t rfl) (.cons (Has.t rfl) .nil))) rfl ?_
  refine st (OK1.mv (Has.t rfl)) rfl ?_
  refine st (OK1.ext (Has.t rfl) rfl) rfl ?_
  refine st (OK1.ext (Has.t rfl) rfl) rfl ?_
  refine Ops.alloc [isB false, SlM isU []] zero55 (fun _ _ => ⟨rfl, nilM _ _, trivial⟩) rfl fun b4 => ?_
  refine Ops.store (Has.t rfl) (Has.t rfl) (i := 0) rfl ty55 rfl rfl (Ss' := [_, _]) rfl (M' := [(some _, cellM [_, _]), _, _, _]) rfl ?_
  refine st (OK1.as (Has.t rfl)) rfl ?_
  refine nl ?_
  refine At.thn (hK2 _ _ ?_); clear hK2
  refine Tri.cv (Cv.wk (.cons (t := 4) (Has.t rfl) (.cons (t := 5) (Has.t rfl) .nil))) ?_
  refine Tri.seq fun K3 hK3 => ?_
  refine Tri.region ?_
  refine st (OK1.load (Has.t rfl) (i := 0) rfl ty55 rfl (Ss' := [_, _]) rfl) rfl ?_
  refine Ops.store (Has.t rfl) (Has.t rfl) (i := 1) rfl ty55 rfl rfl (Ss' := [_, _]) rfl (M' := [_, (some _, cellM [_, _]), _, _]) rfl ?_
  refine nl ?_
  refine At.thn (hK3 _ _ ?_); clear hK3
  refine Tri.ret ?_
  refine rt1 (.inl rfl) Try.results95 rfl (.cell rfl (i := 1) rfl ty55 rfl ?_ .nil)
  · exact isZ_eq (if_pos hp)

set_option maxHeartbeats 4000000 in
theorem modn_Inverse {m n : Bool} {xs ys : List Nat} (hx : (List.length (words (val xs))) ≤ 8) (hy : (List.length (words (val ys))) ≤ 8) : Ctr Try.prog 46 [Flat [isB m, isWords xs], Flat [isB n, isWords ys]] (isTup [isZ (if 0 < zv n ys ∧ Nat.gcd (zv m xs).natAbs (zv n ys).natAbs = 1 then inv (zv m xs) (zv n ys) else 0), isB (decide (0 < zv n ys ∧ Nat.gcd (zv m xs).natAbs (zv n ys).natAbs = 1))]) := by
  refine Ctr.intro Try.func46 rfl (by kernel_rfl) Try.ntmps46 rfl fun w0 F0 => ?_
  refine Tri.cv (Cv.wk (.cons (t := 0) (Has.t rfl) (.cons (t := 1) (Has.t rfl) .nil))) ?_
  refine Tri.fact (Has.okZ (Has.t (t := 0) rfl)) fun okz0 => ?_
  refine Tri.fact (Has.okZ (Has.t (t := 1) rfl)) fun okz1 => ?_
  have hxx := zv_nw m xs
  have hyy := zv_nw n ys
  have h1 := nz_one
  refine Tri.seq fun K1 hK1 => ?_
  refine Tri.region ?_
  refine Ops.box (Has.t rfl) rfl fun b1 => ?_
  refine Ops.box (Has.t rfl) rfl fun b2 => ?_
  refine Ops.alloc [isB false, SlM isU []] zero55 (fun _ _ => ⟨rfl, nilM _ _, trivial⟩) rfl fun b3 => ?_
  refine st (OK1.as (Has.cB false)) rfl ?_
  refine nl ?_
  refine At.thn (hK1 _ _ ?_); clear hK1
  refine Tri.seq fun K2 hK2 => ?_
  refine Tri.seq fun K3 hK3 => ?_
  refine Tri.region ?_
  refine st (OK1.load (Has.t rfl) (i := 1) rfl ty55 rfl (Ss' := [_, _]) rfl) rfl ?_
  refine st (OK1.call (zint_Sign (by first | with_reducible assumption | omega | (simp only [val_words, zv_nf]; omega) | (simp only [val_words, zv_nf, Int.natAbs_natCast]; omega) | (simp only [val_words]; exact Nat.le_trans (nw_small' (by omega)) (by decide)))) (.cons (Has.t rfl) .nil)) rfl ?_
  refine st (OK1.leI (Has.t rfl) (Has.cI 0 rfl)) rfl ?_
  refine nl ?_
  refine At.thn (hK3 _ _ ?_); clear hK3
  refine Tri.cond (Has.t rfl) (fun hc1 => ?_) (fun hc1 => ?_)
  · have hc1 := BP.t hc1
    have hN : ¬ 0 < zv n ys := fun e => by have := (sgn_pos _).2 e; omega
    refine Tri.seq fun K4 hK4 => ?_
    refine Tri.region ?_
    refine st (OK1.eq (OK1.build [isB false, SlM isU []] pl55 zero55 (fun _ _ => ⟨rfl, nilM _ _, trivial⟩) .nil (Z'' := [_, _]) rfl) (isZ0)) rfl ?_
    refine Ops.store (Has.t rfl) (Has.t rfl) (i := 0) rfl ty55 rfl rfl (Ss' := [_, _]) rfl (M' := [(some _, cellM [_, _]), _, _]) rfl ?_
    refine st (OK1.as (Has.cB false)) rfl ?_
    refine nl ?_
    refine At.thn (hK4 _ _ ?_); clear hK4
    refine Tri.cv (Cv.wk (.cons (t := 2) (Has.t rfl) (.cons (t := 3) (Has.t rfl) (.cons (t := 4) (Has.t rfl) (.cons (t := 5) (Has.t rfl) .nil))))) ?_
    refine Tri.ret ?_
    refine At.thr ?_
    refine rtN (.inl rfl) Try.results46 rfl rfl (.cell rfl (i := 0) rfl ty55 rfl ?_ (.tmp (Has.t' rfl ?_) .nil))
    · exact isZ_eq (if_neg (fun e => hN e.1)).symm
    · exact isB_eq (decide_eq_false (fun e => hN e.1)).symm
  · have hc1 := BP.f hc1
    have hP : 0 < zv n ys := (sgn_pos _).1 (by omega)
    have hxn := nw_mono (xg_le (A := zv m xs) (B := zv n ys) (by omega))
    have hgn : (List.length (words (Nat.gcd (zv m xs).natAbs (zv n ys).natAbs))) ≤ 8 := Nat.le_trans (nw_mono (Nat.gcd_le_right _ (by omega))) (by omega)
    refine Tri.skip ?_
    refine At.thn (hK2 _ _ ?_); clear hK2
    refine Tri.cv (Cv.wk (.cons (t := 2) (Has.t rfl) (.cons (t := 3) (Has.t rfl) (.cons (t := 4) (Has.t rfl) (.cons (t := 5) (Has.t rfl) .nil))))) ?_
    refine Tri.seq fun K5 hK5 => ?_
    refine Tri.region ?_
    refine st (OK1.load (Has.t rfl) (i := 2) rfl ty55 rfl (Ss' := [_, _]) rfl) rfl ?_
    refine st (OK1.load (Has.t rfl) (i := 1) rfl ty55 rfl (Ss' := [_, _]) rfl) rfl ?_
    refine st (OK1.call (zint_Xgcd (by first | with_reducible assumption | omega | (simp only [val_words, zv_nf]; omega) | (simp only [val_words, zv_nf, Int.natAbs_natCast]; omega) | (simp only [val_words]; exact Nat.le_trans (nw_small' (by omega)) (by decide))) (by first | with_reducible assumption | omega | (simp only [val_words, zv_nf]; omega) | (simp only [val_words, zv_nf, Int.natAbs_natCast]; omega) | (simp only [val_words]; exact Nat.le_trans (nw_small' (by omega)) (by decide))) (by first | with_reducible assumption | omega | (simp only [val_words, zv_nf]; omega) | (simp only [val_words, zv_nf, Int.natAbs_natCast]; omega) | (simp only [val_words]; exact Nat.le_trans (nw_small' (by omega)) (by decide)))) (.cons (Has.t rfl) (.cons (Has.t rfl) .nil))) rfl ?_
    refine st (OK1.mv (Has.t rfl)) rfl ?_
    refine st (OK1.ext (Has.t rfl) rfl) rfl ?_
    refine st (OK1.ext (Has.t rfl) rfl) rfl ?_
    refine st (OK1.ext (Has.t rfl) rfl) rfl ?_
    refine Ops.alloc [isB false, SlM isU []] zero55 (fun _ _ => ⟨rfl, nilM _ _, trivial⟩) rfl fun b4 => ?_
    refine Ops.alloc [isB false, SlM isU []] zero55 (fun _ _ => ⟨rfl, nilM _ _, trivial⟩) rfl fun b5 => ?_
    refine Ops.alloc [isB false, SlM isU []] zero55 (fun _ _ => ⟨rfl, nilM _ _, trivial⟩) rfl fun b6 => ?_
    refine Ops.store (Has.t rfl) (Has.t rfl) (i := 2) rfl ty55 rfl rfl (Ss' := [_, _]) rfl (M' := [_, _, (some _, cellM [_, _]), _, _, _]) rfl ?_
    refine Ops.store (Has.t rfl) (Has.t rfl) (i := 1) rfl ty55 rfl rfl (Ss' := [_, _]) rfl (M' := [_, (some _, cellM [_, _]), _, _, _, _]) rfl ?_
    refine Ops.store (Has.t rfl) (Has.t rfl) (i := 0) rfl ty55 rfl rfl (Ss' := [_, _]) rfl (M' := [(some _, cellM [_, _]), _, _, _, _, _]) rfl ?_
    refine nl ?_
    refine At.thn (hK5 _ _ ?_); clear hK5
    refine Tri.cv (Cv.wk (.cons (t := 3) (Has.t rfl) (.cons (t := 4) (Has.t rfl) (.cons (t := 5) (Has.t rfl) (.cons (t := 6) (Has.t rfl) (.cons (t := 7) (Has.t rfl) .nil)))))) ?_
    refine Tri.seq fun K6 hK6 => ?_
    refine Tri.seq fun K7 hK7 => ?_
    refine Tri.dr ?_
    refine DrG.st (i := 0) [] rfl rfl rfl (by kernel_rfl) (OKG.o rfl (OK1.load (Has.t rfl) (i := 2) rfl ty55 rfl (Ss' := [_, _]) rfl)) ?_
    refine DrG.st (i := 1) [] rfl rfl rfl (by kernel_rfl) (OKG.o rfl (OK1.call (zint_Of) (.cons (Has.cI 1 rfl) .nil))) ?_
    refine DrG.fin (n := 2) mixed (by kernel_rfl) (by kernel_rfl) (by kernel_rfl) ?_
    refine Ops.cv (Cv.wk (.cons (t := 3) (Has.t rfl) (.cons (t := 4) (Has.t rfl) (.cons (t := 5) (Has.t rfl) (.cons (t := 7) (Has.t rfl) (.cons (t := 20) (Has.t rfl) (.cons (t := 21) (Has.t rfl) .nil))))))) ?_
    refine st (OK1.eq (OK1.call (zint_Same (by first | with_reducible assumption | omega | (simp only [val_words, zv_nf]; omega) | (simp only [val_words, zv_nf, Int.natAbs_natCast]; omega) | (simp only [val_words]; exact Nat.le_trans (nw_small' (by omega)) (by decide))) (by first | with_reducible assumption | omega | (simp only [val_words, zv_nf]; omega) | (simp only [val_words, zv_nf, Int.natAbs_natCast]; omega) | (simp only [val_words]; exact Nat.le_trans (nw_small' (by omega)) (by decide)))) (.cons (Has.t rfl) (.cons (Has.t rfl) .nil))) (by first | (simp only [val_words, zv_nf]; rfl) | rfl)) rfl ?_
    refine st (OK1.not (Has.t rfl)) rfl ?_
    refine nl ?_
    refine At.thn (hK7 _ _ ?_); clear hK7
    refine Tri.cond (Has.t rfl) (fun hc2 => ?_) (fun hc2 => ?_)
    · have hc2 := BP.t hc2
      have hG : ¬ Nat.gcd (zv m xs).natAbs (zv n ys).natAbs = 1 := fun e => hc2 (by rw [e]; rfl)
      refine Tri.seq fun K8 hK8 => ?_
      refine Tri.region ?_
      refine st (OK1.eq (OK1.build [isB false, SlM isU []] pl55 zero55 (fun _ _ => ⟨rfl, nilM _ _, trivial⟩) .nil (Z'' := [_, _]) rfl) (isZ0)) rfl ?_
      refine Ops.store (Has.t rfl) (Has.t rfl) (i := 3) rfl ty55 rfl rfl (Ss' := [_, _]) rfl (M' := [_, _, _, (some _, cellM [_, _]), _, _]) rfl ?_
      refine st (OK1.as (Has.cB false)) rfl ?_
      refine nl ?_
      refine At.thn (hK8 _ _ ?_); clear hK8
      refine Tri.cv (Cv.wk (.cons (t := 3) (Has.t rfl) (.cons (t := 4) (Has.t rfl) (.cons (t := 5) (Has.t rfl) (.cons (t := 7) (Has.t rfl) .nil))))) ?_
      refine Tri.ret ?_
      refine At.thr ?_
      refine rtN (.inl rfl) Try.results46 rfl rfl (.cell rfl (i := 3) rfl ty55 rfl ?_ (.tmp (Has.t' rfl ?_) .nil))
      · exact isZ_eq (if_neg (fun e => hG e.2)).symm
      · exact isB_eq (decide_eq_false (fun e => hG e.2)).symm
    · have hc2 := BP.f hc2
      have hG : Nat.gcd (zv m xs).natAbs (zv n ys).natAbs = 1 := (by omega)
      refine Tri.skip ?_
      refine At.thn (hK6 _ _ ?_); clear hK6
      refine Tri.seq fun K9 hK9 => ?_
      refine Tri.region ?_
      refine st (OK1.load (Has.t rfl) (i := 1) rfl ty55 rfl (Ss' := [_, _]) rfl) rfl ?_
      refine st (OK1.load (Has.t rfl) (i := 4) rfl ty55 rfl (Ss' := [_, _]) rfl) rfl ?_
      refine st (OK1.eq (OK1.call (modn_rest (by first | with_reducible assumption | omega | (simp only [val_words, zv_nf]; omega) | (simp only [val_words, zv_nf, Int.natAbs_natCast]; omega) | (simp only [val_words]; exact Nat.le_trans (nw_small' (by omega)) (by decide))) (by first | with_reducible assumption | omega | (simp only [val_words, zv_nf]; omega) | (simp only [val_words, zv_nf, Int.natAbs_natCast]; omega) | (simp only [val_words]; exact Nat.le_trans (nw_small' (by omega)) (by decide))) (by first | with_reducible assumption | omega | (simp only [val_words, zv_nf]; omega) | (simp only [val_words, zv_nf, Int.natAbs_natCast]; omega) | (simp only [val_words]; exact Nat.le_trans (nw_small' (by omega)) (by decide)))) (.cons (Has.t rfl) (.cons (Has.t rfl) .nil))) (by first | (simp only [val_words, zv_nf]; rfl) | rfl)) rfl ?_
      refine Ops.store (Has.t rfl) (Has.t rfl) (i := 3) rfl ty55 rfl rfl (Ss' := [_, _]) rfl (M' := [_, _, _, (some _, cellM [_, _]), _, _]) rfl ?_
      refine st (OK1.as (Has.cB true)) rfl ?_
      refine nl ?_
      refine At.thn (hK9 _ _ ?_); clear hK9
      refine Tri.cv (Cv.wk (.cons (t := 4) (Has.t rfl) (.cons (t := 5) (Has.t rfl) .nil))) ?_
      refine Tri.ret ?_
      refine rtN (.inl rfl) Try.results46 rfl rfl (.cell rfl (i := 3) rfl ty55 rfl ?_ (.tmp (Has.t' rfl ?_) .nil))
      · exact isZ_eq (by rw [if_pos (And.intro hP hG)]; rfl)
      · exact isB_eq (decide_eq_true (And.intro hP hG)).symm

theorem inv37 : inv 3 7 = 5 := by
  have h := inv_spec (A := 3) (m := 7) (by decide) (by decide)
  obtain ⟨h1, h2, k, hk⟩ := h
  generalize inv 3 7 = x at *
  omega


set_option maxHeartbeats 4000000 in
theorem nat_Bit {xs : List Nat} {i : Nat} (hi : i < 4294967296) : Ctr Try.prog 112 [isWords xs, isI (i : Int)] (isN (val xs / 2 ^ i % 2)) := by
  refine Ctr.intro Try.func112 rfl (by kernel_rfl) Try.ntmps112 rfl fun w0 F0 => ?_
  refine Tri.cv (Cv.wk (.cons (t := 0) (Has.t rfl) (.cons (t := 1) (Has.t rfl) .nil))) ?_
  refine Tri.fact (Has.lenLt (Has.t (t := 0) rfl)) fun lt0 => ?_
  refine Tri.fact (Has.okW (Has.t (t := 0) rfl)) fun ok0 => ?_
  refine Tri.fact (Has.rngI (Has.t (t := 1) rfl)) fun lt1 => ?_
  have hbd := dig_bit (val xs) i
  have hdl : dig (val xs) (i / 64) < 18446744073709551616 := dig_lt (val xs) (i / 64)
  have hdd := Nat.div_le_self (dig (val xs) (i / 64)) (2 ^ (i % 64))
  refine Tri.seq fun K1 hK1 => ?_
  refine Tri.region ?_
  refine st (OK1.as (Has.cI 0 rfl)) rfl ?_
  refine nl ?_
  refine At.thn (hK1 _ _ ?_); clear hK1
  refine Tri.seq fun K2 hK2 => ?_
  refine Tri.seq fun K3 hK3 => ?_
  refine Tri.region ?_
  refine st (OK1.mv (Has.t rfl)) rfl ?_
  refine st (OK1.ltI (Has.t rfl) (Has.cI 0 rfl)) rfl ?_
  refine st (OK1.mv (Has.t rfl)) rfl ?_
  refine stF rfl rfl (fun hg => have hg' := BP.t hg; OK1.mv (Has.t rfl)) rfl ?_
  refine stF rfl rfl (fun hg => have hg' := BP.t hg; OK1.eq (OK1.quoI (Has.g rfl hg) (Has.cI 64 rfl) (by first | with_reducible assumption | omega) (by first | with_reducible assumption | omega) (by first | with_reducible assumption | omega)) ((show isI _ = isI ((i / 64 : Nat) : Int) from isI_eq (by omega)))) rfl ?_
  refine stF rfl rfl (fun hg => have hg' := BP.t hg; OK1.mv (Has.t rfl)) rfl ?_
  refine stF rfl rfl (fun hg => have hg' := BP.t hg; OK1.len sl53 (Has.g rfl hg)) rfl ?_
  refine stF rfl rfl (fun hg => have hg' := BP.t hg; OK1.geI (Has.g rfl hg) (Has.g rfl hg)) rfl ?_
  refine st (OK1.pickOr (Has.t rfl) (fun h => Has.g rfl (ng h))) rfl ?_
  refine nl ?_
  refine At.thn (hK3 _ _ ?_); clear hK3
  refine Tri.cv (Cv.wk (.cons (t := 0) (Has.t rfl) (.cons (t := 1) (Has.t rfl) (.cons (t := 4) (Has.t rfl) (.cons (t := 13) (Has.t rfl) .nil))))) ?_
  refine Tri.cond (Has.t rfl) (fun hc1 => ?_) (fun hc1 => ?_)
  · have hc1 := BP.t hc1
    refine Tri.seq fun K4 hK4 => ?_
    refine Tri.region ?_
    refine st (OK1.as (Has.cI 0 rfl)) rfl ?_
    refine nl ?_
    refine At.thn (hK4 _ _ ?_); clear hK4
    refine Tri.ret ?_
    refine At.thr ?_
    refine rt1 (.inl rfl) Try.results112 rfl (.tmp (Has.t' rfl ?_) .nil)
    all_goals (exact isI_eq (by rw [bit_high ok0 (by omega)]; rfl))
  · have hc1 := BP.f hc1
    refine Tri.skip ?_
    refine At.thn (hK2 _ _ ?_); clear hK2
    refine Tri.seq fun K5 hK5 => ?_
    refine Tri.region ?_
    refine st (OK1.mv (Has.t rfl)) rfl ?_
    refine st (OK1.mv (Has.t rfl)) rfl ?_
    refine st (OK1.eq (OK1.quoI (Has.t rfl) (Has.cI 64 rfl) (by first | with_reducible assumption | omega) (by first | with_reducible assumption | omega) (by first | with_reducible assumption | omega)) ((show isI _ = isI ((i / 64 : Nat) : Int) from isI_eq (by omega)))) rfl ?_
    refine st (OK1.ixP sl53 ty27 (Has.t rfl) (Has.t rfl) ⟨by omega, by omega⟩ (getD_some (d := 0) (by first | omega | (simp only [Int.toNat_natCast, List.length_set]; omega)))) rfl ?_
    refine st (OK1.eq (OK1.loadP1 (Has.t rfl) ty27) ((show isU _ = isU (dig (val xs) (i / 64)) from isU_eq (by rw [Int.toNat_natCast]; exact getD_val ok0 _)))) rfl ?_
    refine st (OK1.mv (Has.t rfl)) rfl ?_
    refine st (OK1.eq (OK1.remI (Has.t rfl) (Has.cI 64 rfl) (by first | with_reducible assumption | omega) (by first | with_reducible assumption | omega) (by first | with_reducible assumption | omega)) ((show isI _ = isI ((i % 64 : Nat) : Int) from isI_eq (by omega)))) rfl ?_
    refine st (OK1.eq (OK1.shrUI (Has.t rfl) (Has.t rfl) (by first | with_reducible assumption | omega)) ((show isU _ = isU (dig (val xs) (i / 64) / 2 ^ (i % 64)) from isU_eq (by rw [Int.toNat_natCast])))) rfl ?_
    refine st (OK1.eq (OK1.andU (Has.t rfl) (Has.cU 1 rfl)) ((show isU _ = isU (val xs / 2 ^ i % 2) from isU_eq (by rw [← hbd]; exact Nat.and_one_is_mod _)))) rfl ?_
    refine st (OK1.convUI un27 un3 (Has.t rfl) (by first | with_reducible assumption | omega)) rfl ?_
    refine st (OK1.as (Has.t rfl)) rfl ?_
    refine nl ?_
    refine At.thn (hK5 _ _ ?_); clear hK5
    refine Tri.cv (Cv.wk (.cons (t := 4) (Has.t rfl) .nil)) ?_
    refine Tri.ret ?_
    refine rt1 (.inl rfl) Try.results112 rfl (.tmp (Has.t' rfl ?_) .nil)
    all_goals (rfl)

set_option maxHeartbeats 4000000 in
theorem modn_Pow {m n k : Bool} {xs ys zs : List Nat} (hx : (List.length (words (val xs))) ≤ 8) (hy : (List.length (words (val ys))) ≤ 1000) (hz : (List.length (words (val zs))) ≤ 8) : Ctr Try.prog 64 [Flat [isB m, isWords xs], Flat [isB n, isWords ys], Flat [isB k, isWords zs]] (isTup [isZ (if 0 < zv k zs ∧ (zv n ys < 0 → Nat.gcd (zv m xs).natAbs (zv k zs).natAbs = 1) then (if zv n ys < 0 then inv (zv m xs) (zv k zs) else zv m xs) ^ (val ys) % zv k zs else 0), isB (decide (0 < zv k zs ∧ (zv n ys < 0 → Nat.gcd (zv m xs).natAbs (zv k zs).natAbs = 1)))]) := by
  refine Ctr.intro Try.func64 rfl (by kernel_rfl) Try.ntmps64 rfl fun w0 F0 => ?_
  refine Tri.cv (Cv.wk (.cons (t := 0) (Has.t rfl) (.cons (t := 1) (Has.t rfl) (.cons (t := 2) (Has.t rfl) .nil)))) ?_
  refine Tri.fact (Has.okZ (Has.t (t := 0) rfl)) fun okz0 => ?_
  refine Tri.fact (Has.okZ (Has.t (t := 1) rfl)) fun okz1 => ?_
  refine Tri.fact (Has.okZ (Has.t (t := 2) rfl)) fun okz2 => ?_
  have hxx := zv_nw m xs
  have hzz := zv_nw k zs
  have h1 := nz_one
  have hbb := bits_nw (val ys)
  refine Tri.seq fun K1 hK1 => ?_
  refine Tri.region ?_
  refine Ops.box (Has.t rfl) rfl fun b1 => ?_
  refine Ops.box (Has.t rfl) rfl fun b2 => ?_
  refine Ops.box (Has.t rfl) rfl fun b3 => ?_
  refine Ops.alloc [isB false, SlM isU []] zero55 (fun _ _ => ⟨rfl, nilM _ _, trivial⟩) rfl fun b4 => ?_
  refine st (OK1.as (Has.cB false)) rfl ?_
  refine nl ?_
  refine At.thn (hK1 _ _ ?_); clear hK1
  refine Tri.seq fun K2 hK2 => ?_
  refine Tri.seq fun K3 hK3 => ?_
  refine Tri.region ?_
  refine st (OK1.load (Has.t rfl) (i := 1) rfl ty55 rfl (Ss' := [_, _]) rfl) rfl ?_
  refine st (OK1.call (zint_Sign (by first | with_reducible assumption | omega | (simp only [val_words, zv_nf]; omega) | (simp only [val_words, zv_nf, Int.natAbs_natCast]; omega) | (simp only [val_words]; exact Nat.le_trans (nw_small' (by omega)) (by decide)))) (.cons (Has.t rfl) .nil)) rfl ?_
  refine st (OK1.leI (Has.t rfl) (Has.cI 0 rfl)) rfl ?_
  refine nl ?_
  refine At.thn (hK3 _ _ ?_); clear hK3
  refine Tri.cv (Cv.wk (.cons (t := 3) (Has.t rfl) (.cons (t := 4) (Has.t rfl) (.cons (t := 5) (Has.t rfl) (.cons (t := 6) (Has.t rfl) (.cons (t := 7) (Has.t rfl) (.cons (t := 14) (Has.t rfl) .nil))))))) ?_
  refine Tri.cond (Has.t rfl) (fun hc1 => ?_) (fun hc1 => ?_)
  · have hc1 := BP.t hc1
    have hN : ¬ 0 < zv k zs := fun e => by have := (sgn_pos _).2 e; omega
    refine Tri.seq fun K4 hK4 => ?_
    refine Tri.region ?_
    refine st (OK1.eq (OK1.build [isB false, SlM isU []] pl55 zero55 (fun _ _ => ⟨rfl, nilM _ _, trivial⟩) .nil (Z'' := [_, _]) rfl) (isZ0)) rfl ?_
    refine Ops.store (Has.t rfl) (Has.t rfl) (i := 0) rfl ty55 rfl rfl (Ss' := [_, _]) rfl (M' := [(some _, cellM [_, _]), _, _, _]) rfl ?_
    refine st (OK1.as (Has.cB false)) rfl ?_
    refine nl ?_
    refine At.thn (hK4 _ _ ?_); clear hK4
    refine Tri.ret ?_
    refine At.thr ?_
    refine rtN (.inl rfl) Try.results64 rfl rfl (.cell rfl (i := 0) rfl ty55 rfl ?_ (.tmp (Has.t' rfl ?_) .nil))
    · exact isZ_eq (if_neg (fun e => hN e.1)).symm
    · exact isB_eq (decide_eq_false (fun e => hN e.1)).symm
  · have hc1 := BP.f hc1
    have hP : 0 < zv k zs := (sgn_pos _).1 (by omega)
    refine Tri.skip ?_
    refine At.thn (hK2 _ _ ?_); clear hK2
    refine Tri.seq fun K5 hK5 => ?_
    refine Tri.seq fun K6 hK6 => ?_
    refine Tri.region ?_
    refine st (OK1.load (Has.t rfl) (i := 2) rfl ty55 rfl (Ss' := [_, _]) rfl) rfl ?_
    refine st (OK1.call (zint_Sign (by first | with_reducible assumption | omega | (simp only [val_words, zv_nf]; omega) | (simp only [val_words, zv_nf, Int.natAbs_natCast]; omega) | (simp only [val_words]; exact Nat.le_trans (nw_small' (by omega)) (by decide)))) (.cons (Has.t rfl) .nil)) rfl ?_
    refine st (OK1.ltI (Has.t rfl) (Has.cI 0 rfl)) rfl ?_
    refine nl ?_
    refine At.thn (hK6 _ _ ?_); clear hK6
    refine Tri.cond (Has.t rfl) (fun hc2 => ?_) (fun hc2 => ?_)
    · have hc2 := BP.t hc2
      have hE : zv n ys < 0 := (sgn_lt _).1 hc2
      refine Tri.seq fun K7 hK7 => ?_
      refine Tri.region ?_
      refine st (OK1.load (Has.t rfl) (i := 3) rfl ty55 rfl (Ss' := [_, _]) rfl) rfl ?_
      refine st (OK1.load (Has.t rfl) (i := 1) rfl ty55 rfl (Ss' := [_, _]) rfl) rfl ?_
      refine st (OK1.call (modn_Inverse (by first | with_reducible assumption | omega | (simp only [val_words, zv_nf]; omega) | (simp only [val_words, zv_nf, Int.natAbs_natCast]; omega) | (simp only [val_words]; exact Nat.le_trans (nw_small' (by omega)) (by decide))) (by first | with_reducible assumption | omega | (simp only [val_words, zv_nf]; omega) | (simp only [val_words, zv_nf, Int.natAbs_natCast]; omega) | (simp only [val_words]; exact Nat.le_trans (nw_small' (by omega)) (by decide)))) (.cons (Has.t rfl) (.cons (Has.t rfl) .nil))) rfl ?_
      refine st (OK1.mv (Has.t rfl)) rfl ?_
      refine st (OK1.ext (Has.t rfl) rfl) rfl ?_
      refine st (OK1.ext (Has.t rfl) rfl) rfl ?_
      refine Ops.alloc [isB false, SlM isU []] zero55 (fun _ _ => ⟨rfl, nilM _ _, trivial⟩) rfl fun b5 => ?_
      refine Ops.store (Has.t rfl) (Has.t rfl) (i := 0) rfl ty55 rfl rfl (Ss' := [_, _]) rfl (M' := [(some _, cellM [_, _]), _, _, _, _]) rfl ?_
      refine st (OK1.as (Has.t rfl)) rfl ?_
      refine nl ?_
      refine At.thn (hK7 _ _ ?_); clear hK7
      refine Tri.cv (Cv.wk (.cons (t := 3) (Has.t rfl) (.cons (t := 4) (Has.t rfl) (.cons (t := 5) (Has.t rfl) (.cons (t := 6) (Has.t rfl) (.cons (t := 7) (Has.t rfl) (.cons (t := 8) (Has.t rfl) (.cons (t := 9) (Has.t rfl) .nil)))))))) ?_
      refine Tri.seq fun K8 hK8 => ?_
      refine Tri.seq fun K9 hK9 => ?_
      refine Tri.region ?_
      refine st (OK1.mv (Has.t rfl)) rfl ?_
      refine st (OK1.not (Has.t rfl)) rfl ?_
      refine nl ?_
      refine At.thn (hK9 _ _ ?_); clear hK9
      refine Tri.cond (Has.t rfl) (fun hc3 => ?_) (fun hc3 => ?_)
      · have hc3 := BP.t hc3
        have hG : ¬ Nat.gcd (zv m xs).natAbs (zv k zs).natAbs = 1 := fun e => hc3 ⟨hP, e⟩
        refine Tri.seq fun K10 hK10 => ?_
        refine Tri.region ?_
        refine st (OK1.eq (OK1.build [isB false, SlM isU []] pl55 zero55 (fun _ _ => ⟨rfl, nilM _ _, trivial⟩) .nil (Z'' := [_, _]) rfl) (isZ0)) rfl ?_
        refine Ops.store (Has.t rfl) (Has.t rfl) (i := 1) rfl ty55 rfl rfl (Ss' := [_, _]) rfl (M' := [_, (some _, cellM [_, _]), _, _, _]) rfl ?_
        refine st (OK1.as (Has.cB false)) rfl ?_
        refine nl ?_
        refine At.thn (hK10 _ _ ?_); clear hK10
        refine Tri.ret ?_
        refine At.thr ?_
        refine At.thr ?_
        refine rtN (.inl rfl) Try.results64 rfl rfl (.cell rfl (i := 1) rfl ty55 rfl ?_ (.tmp (Has.t' rfl ?_) .nil))
        · exact isZ_eq (if_neg (fun e => hG (e.2 hE))).symm
        · exact isB_eq (decide_eq_false (fun e => hG (e.2 hE))).symm
      · have hc3 := BP.f hc3
        have hG : Nat.gcd (zv m xs).natAbs (zv k zs).natAbs = 1 := hc3.2
        have hin := inv_spec hP hG
        have hinn := nz_le hin.1 (Int.le_of_lt hin.2.1)
        rw [if_pos (show 0 < zv k zs ∧ _ from ⟨hP, hG⟩)]
        refine Tri.skip ?_
        refine At.thn (hK8 _ _ ?_); clear hK8
        refine Tri.region ?_
        refine st (OK1.load (Has.t rfl) (i := 0) rfl ty55 rfl (Ss' := [_, _]) rfl) rfl ?_
        refine Ops.store (Has.t rfl) (Has.t rfl) (i := 4) rfl ty55 rfl rfl (Ss' := [_, _]) rfl (M' := [_, _, _, _, (some _, cellM [_, _])]) rfl ?_
        refine nl ?_
        refine At.thn (hK5 _ _ ?_); clear hK5
        refine Tri.cv (Cv.wk (.cons (t := 3) (Has.t rfl) (.cons (t := 4) (Has.t rfl) (.cons (t := 5) (Has.t rfl) (.cons (t := 6) (Has.t rfl) (.cons (t := 7) (Has.t rfl) .nil)))))) ?_
        refine Tri.seq fun K11 hK11 => ?_
        refine Tri.drh [true, true, true, true, true] (Ms := [_, _, _, _, _]) rfl ?_
        refine DrH.st (i := 0) [] rfl rfl rfl (by kernel_rfl) (OKG.o rfl (OK1.call (zint_Of) (.cons (Has.cI 1 rfl) .nil))) ?_
        refine DrH.st (i := 1) [] rfl rfl rfl (by kernel_rfl) (OKG.o rfl (OK1.load (Has.t rfl) (i := 2) rfl ty55 rfl (Ss' := [_, _]) rfl)) ?_
        refine DrH.st (i := 2) [29, 30] rfl rfl rfl (by kernel_rfl) (OKG.o rfl (OK1.eq (OK1.call (modn_rest (by first | with_reducible assumption | omega | (simp only [val_words, zv_nf]; omega) | (simp only [val_words, zv_nf, Int.natAbs_natCast]; omega) | (simp only [val_words]; exact Nat.le_trans (nw_small' (by omega)) (by decide))) (by first | with_reducible assumption | omega | (simp only [val_words, zv_nf]; omega) | (simp only [val_words, zv_nf, Int.natAbs_natCast]; omega) | (simp only [val_words]; exact Nat.le_trans (nw_small' (by omega)) (by decide))) (by first | with_reducible assumption | omega | (simp only [val_words, zv_nf]; omega) | (simp only [val_words, zv_nf, Int.natAbs_natCast]; omega) | (simp only [val_words]; exact Nat.le_trans (nw_small' (by omega)) (by decide)))) (.cons (Has.t rfl) (.cons (Has.t rfl) .nil))) (by first | (simp only [val_words, zv_nf]; rfl) | rfl))) ?_
        refine DrH.als (n1 := 4) (ds := [10]) (zs := [[isB false, SlM isU []]]) rfl (.cons rfl rfl zero55 (fun _ _ => ⟨rfl, nilM _ _, trivial⟩) .nil) (.cons_cons _ (.cons_cons _ (.cons_cons _ (.cons_cons _ (.cons_cons _ .slnil))))) (Cs := [_]) rfl ?_
        refine DrN.fin (n := 4) mixed rfl (by kernel_rfl) (by kernel_rfl) (by kernel_rfl) (fun bs hbs => ?_)
        obtain ⟨b6, rfl⟩ := len1 hbs
        refine Ops.memEq (M' := [_, _, _, _, _, _]) rfl ?_
        refine Ops.cv (Cv.wk (.cons (t := 3) (Has.t rfl) (.cons (t := 4) (Has.t rfl) (.cons (t := 5) (Has.t rfl) (.cons (t := 6) (Has.t rfl) (.cons (t := 7) (Has.t rfl) (.cons (t := 31) (Has.t rfl) (.cons (t := 10) (Has.op rfl) .nil)))))))) ?_
        refine Ops.store (Has.t rfl) (Has.t rfl) (i := 0) rfl ty55 rfl rfl (Ss' := [_, _]) rfl (M' := [(some _, cellM [_, _]), _, _, _, _, _]) rfl ?_
        refine nl ?_
        refine At.thn (hK11 _ _ ?_); clear hK11
        refine Tri.seq fun K12 hK12 => ?_
        refine Tri.seq fun K13 hK13 => ?_
        refine Tri.region ?_
        refine st (OK1.fieldAddr (Has.t rfl) fld55_1 ty53) rfl ?_
        refine st (OK1.load1 (Has.t rfl) (i := 4) rfl ty53 rfl) rfl ?_
        refine st (OK1.call (nat_Bits (by first | with_reducible assumption | omega | (simp only [val_words, zv_nf]; omega) | (simp only [val_words, zv_nf, Int.natAbs_natCast]; omega) | (simp only [val_words]; exact Nat.le_trans (nw_small' (by omega)) (by decide)))) (.cons (Has.t rfl) .nil)) rfl ?_
        refine st (OK1.subI (Has.t rfl) (Has.cI 1 rfl) (by first | with_reducible assumption | omega | (simp only [val_words, zv_nf]; omega) | (simp only [val_words, zv_nf, Int.natAbs_natCast]; omega) | (simp only [val_words]; exact Nat.le_trans (nw_small' (by omega)) (by decide))) (by first | with_reducible assumption | omega | (simp only [val_words, zv_nf]; omega) | (simp only [val_words, zv_nf, Int.natAbs_natCast]; omega) | (simp only [val_words]; exact Nat.le_trans (nw_small' (by omega)) (by decide)))) rfl ?_
        refine st (OK1.as (Has.t rfl)) rfl ?_
        refine nl ?_
        refine At.thn (hK13 _ _ ?_); clear hK13
        refine Tri.cv (Cv.wk (.cons (t := 3) (Has.t rfl) (.cons (t := 4) (Has.t rfl) (.cons (t := 5) (Has.t rfl) (.cons (t := 6) (Has.t rfl) (.cons (t := 7) (Has.t rfl) (.cons (t := 10) (Has.t rfl) (.cons (t := 11) (Has.t rfl) .nil)))))))) ?_
        refine Tri.block ?_
        refine Tri.loopF [3, 4, 5, 6, 7, 10] (fun (z : { t : Nat // t ≤ bitLen (val ys) }) => match z with | ⟨t, ht⟩ => [(11, isI ((t : Int) - 1))]) (fun M => fun (z : { t : Nat // t ≤ bitLen (val ys) }) => match z with | ⟨t, ht⟩ => [zM b6 ((inv (zv m xs) (zv k zs)) ^ (val ys / 2 ^ t) % zv k zs), zM b5 (inv (zv m xs) (zv k zs)), (some b4, cellM [isB false, SlM isU []]), (some b3, cellM [isB k, SlM isU zs]), (some b2, cellM [isB n, SlM isU ys]), zM b1 (inv (zv m xs) (zv k zs))]) (fun (z : { t : Nat // t ≤ bitLen (val ys) }) => match z with | ⟨t, ht⟩ => t) (⟨bitLen (val ys), Nat.le_refl _⟩) (Cv.mem (.cons (t := 11) (Has.t' rfl ?_) (.cons (t := 3) (Has.t rfl) (.cons (t := 4) (Has.t rfl) (.cons (t := 5) (Has.t rfl) (.cons (t := 6) (Has.t rfl) (.cons (t := 7) (Has.t rfl) (.cons (t := 10) (Has.t rfl) .nil))))))) ?_) ?_
        · rfl
        · exact zM_eq (by rw [Nat.div_eq_of_lt (bitLen_spec (val ys)).1, Int.pow_zero]) rfl
        rintro ⟨t, ht⟩ K14 hK14
        refine Tri.cv (Cv.wk (.cons (t := 11) (Has.t rfl) (.cons (t := 3) (Has.t rfl) (.cons (t := 4) (Has.t rfl) (.cons (t := 5) (Has.t rfl) (.cons (t := 6) (Has.t rfl) (.cons (t := 7) (Has.t rfl) (.cons (t := 10) (Has.t rfl) .nil)))))))) ?_
        refine Tri.memEq (M' := [zM b6 ((inv (zv m xs) (zv k zs)) ^ (val ys / 2 ^ t) % zv k zs), zM b5 (inv (zv m xs) (zv k zs)), (some b4, cellM [isB false, SlM isU []]), (some b3, cellM [isB k, SlM isU zs]), (some b2, cellM [isB n, SlM isU ys]), zM b1 (inv (zv m xs) (zv k zs))]) rfl ?_
        obtain ⟨o, ho⟩ : ∃ o, o = (inv (zv m xs) (zv k zs)) ^ (val ys / 2 ^ t) % zv k zs := ⟨_, rfl⟩
        have hon : (List.length (words o.natAbs)) ≤ 8 := by rw [ho]; exact Nat.le_trans (nz_le (Int.emod_nonneg _ (by omega)) (Int.le_of_lt (Int.emod_lt_of_pos _ hP))) (by omega)
        rw [← ho]
        have hm1 := nz_mul o o
        obtain ⟨q, hq⟩ : ∃ q, q = o * o % zv k zs := ⟨_, rfl⟩
        have hqn : (List.length (words q.natAbs)) ≤ 8 := by rw [hq]; exact Nat.le_trans (nz_le (Int.emod_nonneg _ (by omega)) (Int.le_of_lt (Int.emod_lt_of_pos _ hP))) (by omega)
        have hm2 := nz_mul q (inv (zv m xs) (zv k zs))
        refine Tri.seq fun K15 hK15 => ?_
        refine Tri.seq fun K16 hK16 => ?_
        refine Tri.region ?_
        refine st (OK1.mv (Has.t rfl)) rfl ?_
        refine st (OK1.geI (Has.t rfl) (Has.cI 0 rfl)) rfl ?_
        refine nl ?_
        refine At.thn (hK16 _ _ ?_); clear hK16
        refine Tri.cond (Has.t rfl) (fun hc4 => ?_) (fun hc4 => ?_)
        · have hc4 := BP.t hc4
          obtain ⟨s, rfl⟩ : ∃ s, t = s + 1 := ⟨t - 1, by omega⟩
          refine Tri.skip ?_
          refine At.thn (hK15 _ _ ?_); clear hK15
          refine Tri.seq fun K17 hK17 => ?_
          refine Tri.block ?_
          refine Tri.seq fun K18 hK18 => ?_
          refine Tri.dr ?_
          refine DrG.st (i := 0) [] rfl rfl rfl (by kernel_rfl) (OKG.o rfl (OK1.load (Has.t rfl) (i := 0) rfl ty55 rfl (Ss' := [_, _]) rfl)) ?_
          refine DrG.st (i := 1) [] rfl rfl rfl (by kernel_rfl) (OKG.o rfl (OK1.load (Has.t rfl) (i := 0) rfl ty55 rfl (Ss' := [_, _]) rfl)) ?_
          refine DrG.st (i := 2) [40, 41] rfl rfl rfl (by kernel_rfl) (OKG.o rfl (OK1.eq (OK1.call (zint_Mul (by first | with_reducible assumption | omega | (simp only [val_words, zv_nf]; omega) | (simp only [val_words, zv_nf, Int.natAbs_natCast]; omega) | (simp only [val_words]; exact Nat.le_trans (nw_small' (by omega)) (by decide))) (by first | with_reducible assumption | omega | (simp only [val_words, zv_nf]; omega) | (simp only [val_words, zv_nf, Int.natAbs_natCast]; omega) | (simp only [val_words]; exact Nat.le_trans (nw_small' (by omega)) (by decide)))) (.cons (Has.t rfl) (.cons (Has.t rfl) .nil))) (by first | (simp only [val_words, zv_nf]; rfl) | rfl))) ?_
          refine DrG.st (i := 3) [] rfl rfl rfl (by kernel_rfl) (OKG.o rfl (OK1.load (Has.t rfl) (i := 3) rfl ty55 rfl (Ss' := [_, _]) rfl)) ?_
          refine DrG.fin (n := 4) mixed (by kernel_rfl) (by kernel_rfl) (by kernel_rfl) ?_
          refine Ops.cv (Cv.wk (.cons (t := 3) (Has.t rfl) (.cons (t := 4) (Has.t rfl) (.cons (t := 5) (Has.t rfl) (.cons (t := 6) (Has.t rfl) (.cons (t := 7) (Has.t rfl) (.cons (t := 10) (Has.t rfl) (.cons (t := 11) (Has.t rfl) (.cons (t := 36) (Has.t rfl) (.cons (t := 37) (Has.t rfl) (.cons (t := 40) (Has.t rfl) (.cons (t := 41) (Has.t rfl) (.cons (t := 42) (Has.t rfl) (.cons (t := 43) (Has.t rfl) .nil)))))))))))))) ?_
          refine st (OK1.eq (OK1.call (modn_rest (by first | with_reducible assumption | omega | (simp only [val_words, zv_nf]; omega) | (simp only [val_words, zv_nf, Int.natAbs_natCast]; omega) | (simp only [val_words]; exact Nat.le_trans (nw_small' (by omega)) (by decide))) (by first | with_reducible assumption | omega | (simp only [val_words, zv_nf]; omega) | (simp only [val_words, zv_nf, Int.natAbs_natCast]; omega) | (simp only [val_words]; exact Nat.le_trans (nw_small' (by omega)) (by decide))) (by first | with_reducible assumption | omega | (simp only [val_words, zv_nf]; omega) | (simp only [val_words, zv_nf, Int.natAbs_natCast]; omega) | (simp only [val_words]; exact Nat.le_trans (nw_small' (by omega)) (by decide)))) (.cons (Has.t rfl) (.cons (Has.t rfl) .nil))) ((by simp only [zv_nf]; rw [← hq]))) rfl ?_
          refine Ops.store (Has.t rfl) (Has.t rfl) (i := 0) rfl ty55 rfl rfl (Ss' := [_, _]) rfl (M' := [(some _, cellM [_, _]), _, _, _, _, _]) rfl ?_
          refine nl ?_
          refine At.thn (hK18 _ _ ?_); clear hK18
          refine Tri.seq fun K19 hK19 => ?_
          refine Tri.region ?_
          refine st (OK1.fieldAddr (Has.t rfl) fld55_1 ty53) rfl ?_
          refine st (OK1.load1 (Has.t rfl) (i := 4) rfl ty53 rfl) rfl ?_
          refine st (OK1.eq (OK1.mv (Has.t rfl)) ((show isI _ = isI (s : Int) from isI_eq (by omega)))) rfl ?_
          refine st (OK1.call (nat_Bit (by first | with_reducible assumption | omega | (simp only [val_words, zv_nf]; omega) | (simp only [val_words, zv_nf, Int.natAbs_natCast]; omega) | (simp only [val_words]; exact Nat.le_trans (nw_small' (by omega)) (by decide)))) (.cons (Has.t rfl) (.cons (Has.t rfl) .nil))) rfl ?_
          refine st (OK1.eqI (Has.t rfl) (Has.cI 1 rfl)) rfl ?_
          refine nl ?_
          refine At.thn (hK19 _ _ ?_); clear hK19
          refine Tri.cond (Has.t rfl) (fun hc5 => ?_) (fun hc5 => ?_)
          · have hc5 := BP.t hc5
            refine Tri.dr ?_
            refine DrG.st (i := 0) [] rfl rfl rfl (by kernel_rfl) (OKG.o rfl (OK1.load (Has.t rfl) (i := 0) rfl ty55 rfl (Ss' := [_, _]) rfl)) ?_
            refine DrG.st (i := 1) [] rfl rfl rfl (by kernel_rfl) (OKG.o rfl (OK1.load (Has.t rfl) (i := 5) rfl ty55 rfl (Ss' := [_, _]) rfl)) ?_
            refine DrG.st (i := 2) [50, 51] rfl rfl rfl (by kernel_rfl) (OKG.o rfl (OK1.eq (OK1.call (zint_Mul (by first | with_reducible assumption | omega | (simp only [val_words, zv_nf]; omega) | (simp only [val_words, zv_nf, Int.natAbs_natCast]; omega) | (simp only [val_words]; exact Nat.le_trans (nw_small' (by omega)) (by decide))) (by first | with_reducible assumption | omega | (simp only [val_words, zv_nf]; omega) | (simp only [val_words, zv_nf, Int.natAbs_natCast]; omega) | (simp only [val_words]; exact Nat.le_trans (nw_small' (by omega)) (by decide)))) (.cons (Has.t rfl) (.cons (Has.t rfl) .nil))) (by first | (simp only [val_words, zv_nf]; rfl) | rfl))) ?_
            refine DrG.st (i := 3) [] rfl rfl rfl (by kernel_rfl) (OKG.o rfl (OK1.load (Has.t rfl) (i := 3) rfl ty55 rfl (Ss' := [_, _]) rfl)) ?_
            refine DrG.fin (n := 4) mixed (by kernel_rfl) (by kernel_rfl) (by kernel_rfl) ?_
            refine Ops.cv (Cv.wk (.cons (t := 3) (Has.t rfl) (.cons (t := 4) (Has.t rfl) (.cons (t := 5) (Has.t rfl) (.cons (t := 6) (Has.t rfl) (.cons (t := 7) (Has.t rfl) (.cons (t := 10) (Has.t rfl) (.cons (t := 11) (Has.t rfl) (.cons (t := 36) (Has.t rfl) (.cons (t := 37) (Has.t rfl) (.cons (t := 40) (Has.t rfl) (.cons (t := 41) (Has.t rfl) (.cons (t := 42) (Has.t rfl) (.cons (t := 43) (Has.t rfl) (.cons (t := 44) (Has.t rfl) (.cons (t := 45) (Has.t rfl) (.cons (t := 46) (Has.t rfl) (.cons (t := 47) (Has.t rfl) (.cons (t := 48) (Has.t rfl) (.cons (t := 49) (Has.t rfl) (.cons (t := 50) (Has.t rfl) (.cons (t := 51) (Has.t rfl) (.cons (t := 52) (Has.t rfl) (.cons (t := 53) (Has.t rfl) .nil)))))))))))))))))))))))) ?_
            refine st (OK1.eq (OK1.call (modn_rest (by first | with_reducible assumption | omega | (simp only [val_words, zv_nf]; omega) | (simp only [val_words, zv_nf, Int.natAbs_natCast]; omega) | (simp only [val_words]; exact Nat.le_trans (nw_small' (by omega)) (by decide))) (by first | with_reducible assumption | omega | (simp only [val_words, zv_nf]; omega) | (simp only [val_words, zv_nf, Int.natAbs_natCast]; omega) | (simp only [val_words]; exact Nat.le_trans (nw_small' (by omega)) (by decide))) (by first | with_reducible assumption | omega | (simp only [val_words, zv_nf]; omega) | (simp only [val_words, zv_nf, Int.natAbs_natCast]; omega) | (simp only [val_words]; exact Nat.le_trans (nw_small' (by omega)) (by decide)))) (.cons (Has.t rfl) (.cons (Has.t rfl) .nil))) (by first | (simp only [val_words, zv_nf]; rfl) | rfl)) rfl ?_
            refine Ops.store (Has.t rfl) (Has.t rfl) (i := 0) rfl ty55 rfl rfl (Ss' := [_, _]) rfl (M' := [(some _, cellM [_, _]), _, _, _, _, _]) rfl ?_
            refine nl ?_
            refine At.bln ?_
            refine At.thn (hK17 _ _ ?_); clear hK17
            refine Tri.region ?_
            refine st (OK1.mv (Has.t rfl)) rfl ?_
            refine st (OK1.subI (Has.t rfl) (Has.cI 1 rfl) (by first | with_reducible assumption | omega | (simp only [val_words, zv_nf]; omega) | (simp only [val_words, zv_nf, Int.natAbs_natCast]; omega) | (simp only [val_words]; exact Nat.le_trans (nw_small' (by omega)) (by decide))) (by first | with_reducible assumption | omega | (simp only [val_words, zv_nf]; omega) | (simp only [val_words, zv_nf, Int.natAbs_natCast]; omega) | (simp only [val_words]; exact Nat.le_trans (nw_small' (by omega)) (by decide)))) rfl ?_
            refine st (OK1.as (Has.t rfl)) rfl ?_
            refine nl ?_
            refine At.thn ?_
            refine hK14 (⟨s, by omega⟩) _ _ ?_ (Cv.mem (.cons (t := 11) (Has.t' rfl ?_) (.cons (t := 3) (Has.t rfl) (.cons (t := 4) (Has.t rfl) (.cons (t := 5) (Has.t rfl) (.cons (t := 6) (Has.t rfl) (.cons (t := 7) (Has.t rfl) (.cons (t := 10) (Has.t rfl) .nil))))))) ?_)
            · show s < s + 1; omega
            · exact isI_eq (by omega)
            · exact zM_eq (by rw [hq, ho]; exact (pow_bit (inv (zv m xs) (zv k zs)) (zv k zs) (val ys) s).1 (by omega)) rfl
          · have hc5 := BP.f hc5
            refine Tri.skip ?_
            refine At.bln ?_
            refine At.thn (hK17 _ _ ?_); clear hK17
            refine Tri.region ?_
            refine st (OK1.mv (Has.t rfl)) rfl ?_
            refine st (OK1.subI (Has.t rfl) (Has.cI 1 rfl) (by first | with_reducible assumption | omega | (simp only [val_words, zv_nf]; omega) | (simp only [val_words, zv_nf, Int.natAbs_natCast]; omega) | (simp only [val_words]; exact Nat.le_trans (nw_small' (by omega)) (by decide))) (by first | with_reducible assumption | omega | (simp only [val_words, zv_nf]; omega) | (simp only [val_words, zv_nf, Int.natAbs_natCast]; omega) | (simp only [val_words]; exact Nat.le_trans (nw_small' (by omega)) (by decide)))) rfl ?_
            refine st (OK1.as (Has.t rfl)) rfl ?_
            refine nl ?_
            refine At.thn ?_
            refine hK14 (⟨s, by omega⟩) _ _ ?_ (Cv.mem (.cons (t := 11) (Has.t' rfl ?_) (.cons (t := 3) (Has.t rfl) (.cons (t := 4) (Has.t rfl) (.cons (t := 5) (Has.t rfl) (.cons (t := 6) (Has.t rfl) (.cons (t := 7) (Has.t rfl) (.cons (t := 10) (Has.t rfl) .nil))))))) ?_)
            · show s < s + 1; omega
            · exact isI_eq (by omega)
            · exact zM_eq (by rw [hq, ho]; exact (pow_bit (inv (zv m xs) (zv k zs)) (zv k zs) (val ys) s).2 (by omega)) rfl
        · have hc4 := BP.f hc4
          refine Tri.exit ?_
          refine At.the ?_
          refine At.the ?_
          refine At.blh ?_
          refine At.thn (hK12 _ _ ?_); clear hK12
          refine Tri.cv (Cv.wk (.cons (t := 6) (Has.t rfl) (.cons (t := 7) (Has.t rfl) (.cons (t := 10) (Has.t rfl) .nil)))) ?_
          refine Tri.seq fun K20 hK20 => ?_
          refine Tri.region ?_
          refine st (OK1.load (Has.t rfl) (i := 0) rfl ty55 rfl (Ss' := [_, _]) rfl) rfl ?_
          refine Ops.store (Has.t rfl) (Has.t rfl) (i := 2) rfl ty55 rfl rfl (Ss' := [_, _]) rfl (M' := [_, _, (some _, cellM [_, _]), _, _, _]) rfl ?_
          refine st (OK1.as (Has.cB true)) rfl ?_
          refine nl ?_
          refine At.thn (hK20 _ _ ?_); clear hK20
          refine Tri.ret ?_
          refine rtN (.inl rfl) Try.results64 rfl rfl (.cell rfl (i := 2) rfl ty55 rfl ?_ (.tmp (Has.t' rfl ?_) .nil))
          · obtain rfl : t = 0 := (by omega); exact isZ_eq (by rw [ho, if_pos ⟨hP, fun _ => hG⟩, if_pos hE, Nat.pow_zero, Nat.div_one])
          · exact isB_eq (decide_eq_true ⟨hP, fun _ => hG⟩).symm
    · have hc2 := BP.f hc2
      have hE : ¬ zv n ys < 0 := fun e => by have := (sgn_lt _).2 e; omega
      refine Tri.skip ?_
      refine At.thn (hK5 _ _ ?_); clear hK5
      refine Tri.seq fun K21 hK21 => ?_
      refine Tri.drh [true, true, true, true] (Ms := [_, _, _, _]) rfl ?_
      refine DrH.st (i := 0) [] rfl rfl rfl (by kernel_rfl) (OKG.o rfl (OK1.call (zint_Of) (.cons (Has.cI 1 rfl) .nil))) ?_
      refine DrH.st (i := 1) [] rfl rfl rfl (by kernel_rfl) (OKG.o rfl (OK1.load (Has.t rfl) (i := 1) rfl ty55 rfl (Ss' := [_, _]) rfl)) ?_
      refine DrH.st (i := 2) [29, 30] rfl rfl rfl (by kernel_rfl) (OKG.o rfl (OK1.eq (OK1.call (modn_rest (by first | with_reducible assumption | omega | (simp only [val_words, zv_nf]; omega) | (simp only [val_words, zv_nf, Int.natAbs_natCast]; omega) | (simp only [val_words]; exact Nat.le_trans (nw_small' (by omega)) (by decide))) (by first | with_reducible assumption | omega | (simp only [val_words, zv_nf]; omega) | (simp only [val_words, zv_nf, Int.natAbs_natCast]; omega) | (simp only [val_words]; exact Nat.le_trans (nw_small' (by omega)) (by decide))) (by first | with_reducible assumption | omega | (simp only [val_words, zv_nf]; omega) | (simp only [val_words, zv_nf, Int.natAbs_natCast]; omega) | (simp only [val_words]; exact Nat.le_trans (nw_small' (by omega)) (by decide)))) (.cons (Has.t rfl) (.cons (Has.t rfl) .nil))) (by first | (simp only [val_words, zv_nf]; rfl) | rfl))) ?_
      refine DrH.als (n1 := 4) (ds := [10]) (zs := [[isB false, SlM isU []]]) rfl (.cons rfl rfl zero55 (fun _ _ => ⟨rfl, nilM _ _, trivial⟩) .nil) (.cons_cons _ (.cons_cons _ (.cons_cons _ (.cons_cons _ .slnil)))) (Cs := [_]) rfl ?_
      refine DrN.fin (n := 4) mixed rfl (by kernel_rfl) (by kernel_rfl) (by kernel_rfl) (fun bs hbs => ?_)
      obtain ⟨b7, rfl⟩ := len1 hbs
      refine Ops.memEq (M' := [_, _, _, _, _]) rfl ?_
      refine Ops.cv (Cv.wk (.cons (t := 3) (Has.t rfl) (.cons (t := 4) (Has.t rfl) (.cons (t := 5) (Has.t rfl) (.cons (t := 6) (Has.t rfl) (.cons (t := 7) (Has.t rfl) (.cons (t := 31) (Has.t rfl) (.cons (t := 10) (Has.op rfl) .nil)))))))) ?_
      refine Ops.store (Has.t rfl) (Has.t rfl) (i := 0) rfl ty55 rfl rfl (Ss' := [_, _]) rfl (M' := [(some _, cellM [_, _]), _, _, _, _]) rfl ?_
      refine nl ?_
      refine At.thn (hK21 _ _ ?_); clear hK21
      refine Tri.seq fun K22 hK22 => ?_
      refine Tri.seq fun K23 hK23 => ?_
      refine Tri.region ?_
      refine st (OK1.fieldAddr (Has.t rfl) fld55_1 ty53) rfl ?_
      refine st (OK1.load1 (Has.t rfl) (i := 3) rfl ty53 rfl) rfl ?_
      refine st (OK1.call (nat_Bits (by first | with_reducible assumption | omega | (simp only [val_words, zv_nf]; omega) | (simp only [val_words, zv_nf, Int.natAbs_natCast]; omega) | (simp only [val_words]; exact Nat.le_trans (nw_small' (by omega)) (by decide)))) (.cons (Has.t rfl) .nil)) rfl ?_
      refine st (OK1.subI (Has.t rfl) (Has.cI 1 rfl) (by first | with_reducible assumption | omega | (simp only [val_words, zv_nf]; omega) | (simp only [val_words, zv_nf, Int.natAbs_natCast]; omega) | (simp only [val_words]; exact Nat.le_trans (nw_small' (by omega)) (by decide))) (by first | with_reducible assumption | omega | (simp only [val_words, zv_nf]; omega) | (simp only [val_words, zv_nf, Int.natAbs_natCast]; omega) | (simp only [val_words]; exact Nat.le_trans (nw_small' (by omega)) (by decide)))) rfl ?_
      refine st (OK1.as (Has.t rfl)) rfl ?_
      refine nl ?_
      refine At.thn (hK23 _ _ ?_); clear hK23
      refine Tri.cv (Cv.wk (.cons (t := 3) (Has.t rfl) (.cons (t := 4) (Has.t rfl) (.cons (t := 5) (Has.t rfl) (.cons (t := 6) (Has.t rfl) (.cons (t := 7) (Has.t rfl) (.cons (t := 10) (Has.t rfl) (.cons (t := 11) (Has.t rfl) .nil)))))))) ?_
      refine Tri.block ?_
      refine Tri.loopF [3, 4, 5, 6, 7, 10] (fun (z : { t : Nat // t ≤ bitLen (val ys) }) => match z with | ⟨t, ht⟩ => [(11, isI ((t : Int) - 1))]) (fun M => fun (z : { t : Nat // t ≤ bitLen (val ys) }) => match z with | ⟨t, ht⟩ => [zM b7 (zv m xs ^ (val ys / 2 ^ t) % zv k zs), (some b4, cellM [isB false, SlM isU []]), (some b3, cellM [isB k, SlM isU zs]), (some b2, cellM [isB n, SlM isU ys]), (some b1, cellM [isB m, SlM isU xs])]) (fun (z : { t : Nat // t ≤ bitLen (val ys) }) => match z with | ⟨t, ht⟩ => t) (⟨bitLen (val ys), Nat.le_refl _⟩) (Cv.mem (.cons (t := 11) (Has.t' rfl ?_) (.cons (t := 3) (Has.t rfl) (.cons (t := 4) (Has.t rfl) (.cons (t := 5) (Has.t rfl) (.cons (t := 6) (Has.t rfl) (.cons (t := 7) (Has.t rfl) (.cons (t := 10) (Has.t rfl) .nil))))))) ?_) ?_
      · rfl
      · exact zM_eq (by rw [Nat.div_eq_of_lt (bitLen_spec (val ys)).1, Int.pow_zero]) rfl
      rintro ⟨t, ht⟩ K24 hK24
      refine Tri.cv (Cv.wk (.cons (t := 11) (Has.t rfl) (.cons (t := 3) (Has.t rfl) (.cons (t := 4) (Has.t rfl) (.cons (t := 5) (Has.t rfl) (.cons (t := 6) (Has.t rfl) (.cons (t := 7) (Has.t rfl) (.cons (t := 10) (Has.t rfl) .nil)))))))) ?_
      refine Tri.memEq (M' := [zM b7 (zv m xs ^ (val ys / 2 ^ t) % zv k zs), (some b4, cellM [isB false, SlM isU []]), (some b3, cellM [isB k, SlM isU zs]), (some b2, cellM [isB n, SlM isU ys]), (some b1, cellM [isB m, SlM isU xs])]) rfl ?_
      obtain ⟨o, ho⟩ : ∃ o, o = (zv m xs) ^ (val ys / 2 ^ t) % zv k zs := ⟨_, rfl⟩
      have hon : (List.length (words o.natAbs)) ≤ 8 := by rw [ho]; exact Nat.le_trans (nz_le (Int.emod_nonneg _ (by omega)) (Int.le_of_lt (Int.emod_lt_of_pos _ hP))) (by omega)
      rw [← ho]
      have hm1 := nz_mul o o
      obtain ⟨q, hq⟩ : ∃ q, q = o * o % zv k zs := ⟨_, rfl⟩
      have hqn : (List.length (words q.natAbs)) ≤ 8 := by rw [hq]; exact Nat.le_trans (nz_le (Int.emod_nonneg _ (by omega)) (Int.le_of_lt (Int.emod_lt_of_pos _ hP))) (by omega)
      have hm2 := nz_mul q (zv m xs)
      refine Tri.seq fun K25 hK25 => ?_
      refine Tri.seq fun K26 hK26 => ?_
      refine Tri.region ?_
      refine st (OK1.mv (Has.t rfl)) rfl ?_
      refine st (OK1.geI (Has.t rfl) (Has.cI 0 rfl)) rfl ?_
      refine nl ?_
      refine At.thn (hK26 _ _ ?_); clear hK26
      refine Tri.cond (Has.t rfl) (fun hc6 => ?_) (fun hc6 => ?_)
      · have hc6 := BP.t hc6
        obtain ⟨s, rfl⟩ : ∃ s, t = s + 1 := ⟨t - 1, by omega⟩
        refine Tri.skip ?_
        refine At.thn (hK25 _ _ ?_); clear hK25
        refine Tri.seq fun K27 hK27 => ?_
        refine Tri.block ?_
        refine Tri.seq fun K28 hK28 => ?_
        refine Tri.dr ?_
        refine DrG.st (i := 0) [] rfl rfl rfl (by kernel_rfl) (OKG.o rfl (OK1.load (Has.t rfl) (i := 0) rfl ty55 rfl (Ss' := [_, _]) rfl)) ?_
        refine DrG.st (i := 1) [] rfl rfl rfl (by kernel_rfl) (OKG.o rfl (OK1.load (Has.t rfl) (i := 0) rfl ty55 rfl (Ss' := [_, _]) rfl)) ?_
        refine DrG.st (i := 2) [40, 41] rfl rfl rfl (by kernel_rfl) (OKG.o rfl (OK1.eq (OK1.call (zint_Mul (by first | with_reducible assumption | omega | (simp only [val_words, zv_nf]; omega) | (simp only [val_words, zv_nf, Int.natAbs_natCast]; omega) | (simp only [val_words]; exact Nat.le_trans (nw_small' (by omega)) (by decide))) (by first | with_reducible assumption | omega | (simp only [val_words, zv_nf]; omega) | (simp only [val_words, zv_nf, Int.natAbs_natCast]; omega) | (simp only [val_words]; exact Nat.le_trans (nw_small' (by omega)) (by decide)))) (.cons (Has.t rfl) (.cons (Has.t rfl) .nil))) (by first | (simp only [val_words, zv_nf]; rfl) | rfl))) ?_
        refine DrG.st (i := 3) [] rfl rfl rfl (by kernel_rfl) (OKG.o rfl (OK1.load (Has.t rfl) (i := 2) rfl ty55 rfl (Ss' := [_, _]) rfl)) ?_
        refine DrG.fin (n := 4) mixed (by kernel_rfl) (by kernel_rfl) (by kernel_rfl) ?_
        refine Ops.cv (Cv.wk (.cons (t := 3) (Has.t rfl) (.cons (t := 4) (Has.t rfl) (.cons (t := 5) (Has.t rfl) (.cons (t := 6) (Has.t rfl) (.cons (t := 7) (Has.t rfl) (.cons (t := 10) (Has.t rfl) (.cons (t := 11) (Has.t rfl) (.cons (t := 36) (Has.t rfl) (.cons (t := 37) (Has.t rfl) (.cons (t := 40) (Has.t rfl) (.cons (t := 41) (Has.t rfl) (.cons (t := 42) (Has.t rfl) (.cons (t := 43) (Has.t rfl) .nil)))))))))))))) ?_
        refine st (OK1.eq (OK1.call (modn_rest (by first | with_reducible assumption | omega | (simp only [val_words, zv_nf]; omega) | (simp only [val_words, zv_nf, Int.natAbs_natCast]; omega) | (simp only [val_words]; exact Nat.le_trans (nw_small' (by omega)) (by decide))) (by first | with_reducible assumption | omega | (simp only [val_words, zv_nf]; omega) | (simp only [val_words, zv_nf, Int.natAbs_natCast]; omega) | (simp only [val_words]; exact Nat.le_trans (nw_small' (by omega)) (by decide))) (by first | with_reducible assumption | omega | (simp only [val_words, zv_nf]; omega) | (simp only [val_words, zv_nf, Int.natAbs_natCast]; omega) | (simp only [val_words]; exact Nat.le_trans (nw_small' (by omega)) (by decide)))) (.cons (Has.t rfl) (.cons (Has.t rfl) .nil))) ((by simp only [zv_nf]; rw [← hq]))) rfl ?_
        refine Ops.store (Has.t rfl) (Has.t rfl) (i := 0) rfl ty55 rfl rfl (Ss' := [_, _]) rfl (M' := [(some _, cellM [_, _]), _, _, _, _]) rfl ?_
        refine nl ?_
        refine At.thn (hK28 _ _ ?_); clear hK28
        refine Tri.seq fun K29 hK29 => ?_
        refine Tri.region ?_
        refine st (OK1.fieldAddr (Has.t rfl) fld55_1 ty53) rfl ?_
        refine st (OK1.load1 (Has.t rfl) (i := 3) rfl ty53 rfl) rfl ?_
        refine st (OK1.eq (OK1.mv (Has.t rfl)) ((show isI _ = isI (s : Int) from isI_eq (by omega)))) rfl ?_
        refine st (OK1.call (nat_Bit (by first | with_reducible assumption | omega | (simp only [val_words, zv_nf]; omega) | (simp only [val_words, zv_nf, Int.natAbs_natCast]; omega) | (simp only [val_words]; exact Nat.le_trans (nw_small' (by omega)) (by decide)))) (.cons (Has.t rfl) (.cons (Has.t rfl) .nil))) rfl ?_
        refine st (OK1.eqI (Has.t rfl) (Has.cI 1 rfl)) rfl ?_
        refine nl ?_
        refine At.thn (hK29 _ _ ?_); clear hK29
        refine Tri.cond (Has.t rfl) (fun hc7 => ?_) (fun hc7 => ?_)
        · have hc7 := BP.t hc7
          refine Tri.dr ?_
          refine DrG.st (i := 0) [] rfl rfl rfl (by kernel_rfl) (OKG.o rfl (OK1.load (Has.t rfl) (i := 0) rfl ty55 rfl (Ss' := [_, _]) rfl)) ?_
          refine DrG.st (i := 1) [] rfl rfl rfl (by kernel_rfl) (OKG.o rfl (OK1.load (Has.t rfl) (i := 4) rfl ty55 rfl (Ss' := [_, _]) rfl)) ?_
          refine DrG.st (i := 2) [50, 51] rfl rfl rfl (by kernel_rfl) (OKG.o rfl (OK1.eq (OK1.call (zint_Mul (by first | with_reducible assumption | omega | (simp only [val_words, zv_nf]; omega) | (simp only [val_words, zv_nf, Int.natAbs_natCast]; omega) | (simp only [val_words]; exact Nat.le_trans (nw_small' (by omega)) (by decide))) (by first | with_reducible assumption | omega | (simp only [val_words, zv_nf]; omega) | (simp only [val_words, zv_nf, Int.natAbs_natCast]; omega) | (simp only [val_words]; exact Nat.le_trans (nw_small' (by omega)) (by decide)))) (.cons (Has.t rfl) (.cons (Has.t rfl) .nil))) (by first | (simp only [val_words, zv_nf]; rfl) | rfl))) ?_
          refine DrG.st (i := 3) [] rfl rfl rfl (by kernel_rfl) (OKG.o rfl (OK1.load (Has.t rfl) (i := 2) rfl ty55 rfl (Ss' := [_, _]) rfl)) ?_
          refine DrG.fin (n := 4) mixed (by kernel_rfl) (by kernel_rfl) (by kernel_rfl) ?_
          refine Ops.cv (Cv.wk (.cons (t := 3) (Has.t rfl) (.cons (t := 4) (Has.t rfl) (.cons (t := 5) (Has.t rfl) (.cons (t := 6) (Has.t rfl) (.cons (t := 7) (Has.t rfl) (.cons (t := 10) (Has.t rfl) (.cons (t := 11) (Has.t rfl) (.cons (t := 36) (Has.t rfl) (.cons (t := 37) (Has.t rfl) (.cons (t := 40) (Has.t rfl) (.cons (t := 41) (Has.t rfl) (.cons (t := 42) (Has.t rfl) (.cons (t := 43) (Has.t rfl) (.cons (t := 44) (Has.t rfl) (.cons (t := 45) (Has.t rfl) (.cons (t := 46) (Has.t rfl) (.cons (t := 47) (Has.t rfl) (.cons (t := 48) (Has.t rfl) (.cons (t := 49) (Has.t rfl) (.cons (t := 50) (Has.t rfl) (.cons (t := 51) (Has.t rfl) (.cons (t := 52) (Has.t rfl) (.cons (t := 53) (Has.t rfl) .nil)))))))))))))))))))))))) ?_
          refine st (OK1.eq (OK1.call (modn_rest (by first | with_reducible assumption | omega | (simp only [val_words, zv_nf]; omega) | (simp only [val_words, zv_nf, Int.natAbs_natCast]; omega) | (simp only [val_words]; exact Nat.le_trans (nw_small' (by omega)) (by decide))) (by first | with_reducible assumption | omega | (simp only [val_words, zv_nf]; omega) | (simp only [val_words, zv_nf, Int.natAbs_natCast]; omega) | (simp only [val_words]; exact Nat.le_trans (nw_small' (by omega)) (by decide))) (by first | with_reducible assumption | omega | (simp only [val_words, zv_nf]; omega) | (simp only [val_words, zv_nf, Int.natAbs_natCast]; omega) | (simp only [val_words]; exact Nat.le_trans (nw_small' (by omega)) (by decide)))) (.cons (Has.t rfl) (.cons (Has.t rfl) .nil))) (by first | (simp only [val_words, zv_nf]; rfl) | rfl)) rfl ?_
          refine Ops.store (Has.t rfl) (Has.t rfl) (i := 0) rfl ty55 rfl rfl (Ss' := [_, _]) rfl (M' := [(some _, cellM [_, _]), _, _, _, _]) rfl ?_
          refine nl ?_
          refine At.bln ?_
          refine At.thn (hK27 _ _ ?_); clear hK27
          refine Tri.region ?_
          refine st (OK1.mv (Has.t rfl)) rfl ?_
          refine st (OK1.subI (Has.t rfl) (Has.cI 1 rfl) (by first | with_reducible assumption | omega | (simp only [val_words, zv_nf]; omega) | (simp only [val_words, zv_nf, Int.natAbs_natCast]; omega) | (simp only [val_words]; exact Nat.le_trans (nw_small' (by omega)) (by decide))) (by first | with_reducible assumption | omega | (simp only [val_words, zv_nf]; omega) | (simp only [val_words, zv_nf, Int.natAbs_natCast]; omega) | (simp only [val_words]; exact Nat.le_trans (nw_small' (by omega)) (by decide)))) rfl ?_
          refine st (OK1.as (Has.t rfl)) rfl ?_
          refine nl ?_
          refine At.thn ?_
          refine hK24 (⟨s, by omega⟩) _ _ ?_ (Cv.mem (.cons (t := 11) (Has.t' rfl ?_) (.cons (t := 3) (Has.t rfl) (.cons (t := 4) (Has.t rfl) (.cons (t := 5) (Has.t rfl) (.cons (t := 6) (Has.t rfl) (.cons (t := 7) (Has.t rfl) (.cons (t := 10) (Has.t rfl) .nil))))))) ?_)
          · show s < s + 1; omega
          · exact isI_eq (by omega)
          · exact zM_eq (by rw [hq, ho]; exact (pow_bit (zv m xs) (zv k zs) (val ys) s).1 (by omega)) rfl
        · have hc7 := BP.f hc7
          refine Tri.skip ?_
          refine At.bln ?_
          refine At.thn (hK27 _ _ ?_); clear hK27
          refine Tri.region ?_
          refine st (OK1.mv (Has.t rfl)) rfl ?_
          refine st (OK1.subI (Has.t rfl) (Has.cI 1 rfl) (by first | with_reducible assumption | omega | (simp only [val_words, zv_nf]; omega) | (simp only [val_words, zv_nf, Int.natAbs_natCast]; omega) | (simp only [val_words]; exact Nat.le_trans (nw_small' (by omega)) (by decide))) (by first | with_reducible assumption | omega | (simp only [val_words, zv_nf]; omega) | (simp only [val_words, zv_nf, Int.natAbs_natCast]; omega) | (simp only [val_words]; exact Nat.le_trans (nw_small' (by omega)) (by decide)))) rfl ?_
          refine st (OK1.as (Has.t rfl)) rfl ?_
          refine nl ?_
          refine At.thn ?_
          refine hK24 (⟨s, by omega⟩) _ _ ?_ (Cv.mem (.cons (t := 11) (Has.t' rfl ?_) (.cons (t := 3) (Has.t rfl) (.cons (t := 4) (Has.t rfl) (.cons (t := 5) (Has.t rfl) (.cons (t := 6) (Has.t rfl) (.cons (t := 7) (Has.t rfl) (.cons (t := 10) (Has.t rfl) .nil))))))) ?_)
          · show s < s + 1; omega
          · exact isI_eq (by omega)
          · exact zM_eq (by rw [hq, ho]; exact (pow_bit (zv m xs) (zv k zs) (val ys) s).2 (by omega)) rfl
      · have hc6 := BP.f hc6
        refine Tri.exit ?_
        refine At.the ?_
        refine At.the ?_
        refine At.blh ?_
        refine At.thn (hK22 _ _ ?_); clear hK22
        refine Tri.cv (Cv.wk (.cons (t := 6) (Has.t rfl) (.cons (t := 7) (Has.t rfl) (.cons (t := 10) (Has.t rfl) .nil)))) ?_
        refine Tri.seq fun K30 hK30 => ?_
        refine Tri.region ?_
        refine st (OK1.load (Has.t rfl) (i := 0) rfl ty55 rfl (Ss' := [_, _]) rfl) rfl ?_
        refine Ops.store (Has.t rfl) (Has.t rfl) (i := 1) rfl ty55 rfl rfl (Ss' := [_, _]) rfl (M' := [_, (some _, cellM [_, _]), _, _, _]) rfl ?_
        refine st (OK1.as (Has.cB true)) rfl ?_
        refine nl ?_
        refine At.thn (hK30 _ _ ?_); clear hK30
        refine Tri.ret ?_
        refine rtN (.inl rfl) Try.results64 rfl rfl (.cell rfl (i := 1) rfl ty55 rfl ?_ (.tmp (Has.t' rfl ?_) .nil))
        · obtain rfl : t = 0 := (by omega); exact isZ_eq (by rw [ho, if_pos ⟨hP, fun e => absurd e hE⟩, if_neg hE, Nat.pow_zero, Nat.div_one])
        · exact isB_eq (decide_eq_true ⟨hP, fun e => absurd e hE⟩).symm

set_option maxHeartbeats 4000000 in
theorem law06_few {m n k : Bool} {xs ys zs : List Nat} {c : Int} : Ctr Try.prog 44 [Flat [isB m, isWords xs], Flat [isB n, isWords ys], Flat [isB k, isWords zs], isI c] (isB (decide ((xs.length : Int) ≤ c) && decide ((ys.length : Int) ≤ c) && decide ((zs.length : Int) ≤ c))) := by
  refine Ctr.intro Try.func44 rfl (by kernel_rfl) Try.ntmps44 rfl fun w0 F0 => ?_
  refine Tri.cv (Cv.wk (.cons (t := 0) (Has.t rfl) (.cons (t := 1) (Has.t rfl) (.cons (t := 2) (Has.t rfl) (.cons (t := 3) (Has.t rfl) .nil))))) ?_
  refine Tri.fact (Has.okZ (Has.t (t := 0) rfl)) fun okz0 => ?_
  refine Tri.fact (Has.okZ (Has.t (t := 1) rfl)) fun okz1 => ?_
  refine Tri.fact (Has.okZ (Has.t (t := 2) rfl)) fun okz2 => ?_
  refine Tri.fact (Has.rngI (Has.t (t := 3) rfl)) fun lt3 => ?_
  refine Tri.seq fun K1 hK1 => ?_
  refine Tri.region ?_
  refine Ops.box (Has.t rfl) rfl fun b1 => ?_
  refine Ops.box (Has.t rfl) rfl fun b2 => ?_
  refine Ops.box (Has.t rfl) rfl fun b3 => ?_
  refine st (OK1.as (Has.cB false)) rfl ?_
  refine nl ?_
  refine At.thn (hK1 _ _ ?_); clear hK1
  refine Tri.seq fun K2 hK2 => ?_
  refine Tri.region ?_
  refine st (OK1.fieldAddr (Has.t rfl) fld55_1 ty53) rfl ?_
  refine st (OK1.load1 (Has.t rfl) (i := 2) rfl ty53 rfl) rfl ?_
  refine st (OK1.len sl53 (Has.t rfl)) rfl ?_
  refine st (OK1.mv (Has.t rfl)) rfl ?_
  refine st (OK1.leI (Has.t rfl) (Has.t rfl)) rfl ?_
  refine st (OK1.mv (Has.t rfl)) rfl ?_
  refine stT rfl rfl (fun hg => have hg' := BP.t hg; OK1.fieldAddr (Has.t rfl) fld55_1 ty53) rfl ?_
  refine stT rfl rfl (fun hg => have hg' := BP.t hg; OK1.load1 (Has.g rfl hg) (i := 1) rfl ty53 rfl) rfl ?_
  refine stT rfl rfl (fun hg => have hg' := BP.t hg; OK1.len sl53 (Has.g rfl hg)) rfl ?_
  refine stT rfl rfl (fun hg => have hg' := BP.t hg; OK1.mv (Has.t rfl)) rfl ?_
  refine stT rfl rfl (fun hg => have hg' := BP.t hg; OK1.leI (Has.g rfl hg) (Has.g rfl hg)) rfl ?_
  refine st (OK1.pickAnd (Has.t rfl) (fun h => Has.g rfl h)) rfl ?_
  refine st (OK1.mv (Has.t rfl)) rfl ?_
  refine stT rfl rfl (fun hg => have hg' := BP.t hg; OK1.fieldAddr (Has.t rfl) fld55_1 ty53) rfl ?_
  refine stT rfl rfl (fun hg => have hg' := BP.t hg; OK1.load1 (Has.g rfl hg) (i := 0) rfl ty53 rfl) rfl ?_
  refine stT rfl rfl (fun hg => have hg' := BP.t hg; OK1.len sl53 (Has.g rfl hg)) rfl ?_
  refine stT rfl rfl (fun hg => have hg' := BP.t hg; OK1.mv (Has.t rfl)) rfl ?_
  refine stT rfl rfl (fun hg => have hg' := BP.t hg; OK1.leI (Has.g rfl hg) (Has.g rfl hg)) rfl ?_
  refine st (OK1.pickAnd (Has.t rfl) (fun h => Has.g rfl h)) rfl ?_
  refine st (OK1.as (Has.t rfl)) rfl ?_
  refine nl ?_
  refine At.thn (hK2 _ _ ?_); clear hK2
  refine Tri.cv (Cv.wk (.cons (t := 8) (Has.t rfl) .nil)) ?_
  refine Tri.ret ?_
  refine rt1 (.inl rfl) Try.results44 rfl (.tmp (Has.t' rfl ?_) .nil)
  all_goals (rfl)

set_option maxHeartbeats 4000000 in
theorem law06_awake  : Ctr Try.prog 43 [] (isB true) := by
  refine Ctr.intro Try.func43 rfl (by kernel_rfl) Try.ntmps43 rfl fun w0 F0 => ?_
  refine Tri.cv (Cv.wk .nil) ?_
  have h3 : (List.length (words (3 : Int).natAbs)) ≤ 1 := nw_small' (by decide)
  have h5 : (List.length (words (5 : Int).natAbs)) ≤ 1 := nw_small' (by decide)
  have h7 : (List.length (words (7 : Int).natAbs)) ≤ 1 := nw_small' (by decide)
  have hv := inv37
  refine Tri.seq fun K1 hK1 => ?_
  refine Tri.region ?_
  refine st (OK1.as (Has.cB false)) rfl ?_
  refine nl ?_
  refine At.thn (hK1 _ _ ?_); clear hK1
  refine Tri.seq fun K2 hK2 => ?_
  refine Tri.region ?_
  refine st (OK1.call (zint_Of) (.cons (Has.cI 3 rfl) .nil)) rfl ?_
  refine st (OK1.call (zint_Of) (.cons (Has.cI 7 rfl) .nil)) rfl ?_
  refine st (OK1.eq (OK1.call (modn_Inverse (by first | with_reducible assumption | omega | (simp only [val_words, zv_nf]; omega) | (simp only [val_words, zv_nf, Int.natAbs_natCast]; omega) | (simp only [val_words]; exact Nat.le_trans (nw_small' (by omega)) (by decide))) (by first | with_reducible assumption | omega | (simp only [val_words, zv_nf]; omega) | (simp only [val_words, zv_nf, Int.natAbs_natCast]; omega) | (simp only [val_words]; exact Nat.le_trans (nw_small' (by omega)) (by decide)))) (.cons (Has.t rfl) (.cons (Has.t rfl) .nil))) ((by simp only [zv_nf]; rw [if_pos (show (0 : Int) < 7 ∧ Nat.gcd (3 : Int).natAbs (7 : Int).natAbs = 1 by decide), hv]))) rfl ?_
  refine st (OK1.mv (Has.t rfl)) rfl ?_
  refine st (OK1.ext (Has.t rfl) rfl) rfl ?_
  refine st (OK1.ext (Has.t rfl) rfl) rfl ?_
  refine Ops.alloc [isB false, SlM isU []] zero55 (fun _ _ => ⟨rfl, nilM _ _, trivial⟩) rfl fun b1 => ?_
  refine Ops.store (Has.t rfl) (Has.t rfl) (i := 0) rfl ty55 rfl rfl (Ss' := [_, _]) rfl (M' := [(some _, cellM [_, _])]) rfl ?_
  refine st (OK1.as (Has.t rfl)) rfl ?_
  refine nl ?_
  refine At.thn (hK2 _ _ ?_); clear hK2
  refine Tri.cv (Cv.wk (.cons (t := 0) (Has.t rfl) (.cons (t := 1) (Has.t rfl) (.cons (t := 2) (Has.t rfl) .nil)))) ?_
  refine Tri.seq fun K3 hK3 => ?_
  refine Tri.dr ?_
  refine DrG.st (i := 0) [] rfl rfl rfl (by kernel_rfl) (OKG.o rfl (OK1.mv (Has.t rfl))) ?_
  refine DrG.st (i := 1) [9] rfl rfl rfl (by kernel_rfl) (OKG.o rfl (OK1.mv (Has.t rfl))) ?_
  refine DrG.st (i := 2) [10] rfl rfl rfl (by kernel_rfl) (OKG.T rfl rfl rfl (fun hg => have hg' := BP.t hg; OK1.load (Has.t rfl) (i := 0) rfl ty55 rfl (Ss' := [_, _]) rfl)) ?_
  refine DrG.st (i := 3) [10] rfl rfl rfl (by kernel_rfl) (OKG.T rfl rfl rfl (fun hg => have hg' := BP.t hg; OK1.call (zint_Of) (.cons (Has.cI 5 rfl) .nil))) ?_
  refine DrG.fin (n := 4) mixed (by kernel_rfl) (by kernel_rfl) (by kernel_rfl) ?_
  refine Ops.cv (Cv.wk (.cons (t := 0) (Has.t rfl) (.cons (t := 1) (Has.t rfl) (.cons (t := 10) (Has.t rfl) (.cons (t := 11) (Has.t rfl) (.cons (t := 12) (Has.t rfl) .nil)))))) ?_
  refine stT rfl rfl (fun hg => have hg' := BP.t hg; OK1.eq (OK1.call (zint_Same (by first | with_reducible assumption | omega | (simp only [val_words, zv_nf]; omega) | (simp only [val_words, zv_nf, Int.natAbs_natCast]; omega) | (simp only [val_words]; exact Nat.le_trans (nw_small' (by omega)) (by decide))) (by first | with_reducible assumption | omega | (simp only [val_words, zv_nf]; omega) | (simp only [val_words, zv_nf, Int.natAbs_natCast]; omega) | (simp only [val_words]; exact Nat.le_trans (nw_small' (by omega)) (by decide)))) (.cons (Has.g rfl hg) (.cons (Has.g rfl hg) .nil))) (by first | (simp only [val_words, zv_nf]; rfl) | rfl)) rfl ?_
  refine st (OK1.pickAnd (Has.t rfl) (fun h => Has.g rfl h)) rfl ?_
  refine st (OK1.mv (Has.t rfl)) rfl ?_
  refine stT rfl rfl (fun hg => have hg' := BP.t hg; OK1.load (Has.t rfl) (i := 0) rfl ty55 rfl (Ss' := [_, _]) rfl) rfl ?_
  refine stT rfl rfl (fun hg => have hg' := BP.t hg; OK1.eq (OK1.call (zint_Sign (by first | with_reducible assumption | omega | (simp only [val_words, zv_nf]; omega) | (simp only [val_words, zv_nf, Int.natAbs_natCast]; omega) | (simp only [val_words]; exact Nat.le_trans (nw_small' (by omega)) (by decide)))) (.cons (Has.g rfl hg) .nil)) (by first | (simp only [val_words, zv_nf]; rfl) | rfl)) rfl ?_
  refine stT rfl rfl (fun hg => have hg' := BP.t hg; OK1.eqI (Has.g rfl hg) (Has.cI 1 rfl)) rfl ?_
  refine st (OK1.pickAnd (Has.t rfl) (fun h => Has.g rfl h)) rfl ?_
  refine st (OK1.as (Has.t rfl)) rfl ?_
  refine nl ?_
  refine At.thn (hK3 _ _ ?_); clear hK3
  refine Tri.cv (Cv.wk (.cons (t := 0) (Has.t rfl) .nil)) ?_
  refine Tri.ret ?_
  refine rt1 (.inl rfl) Try.results43 rfl (.tmp (Has.t' rfl ?_) .nil)
  all_goals (exact isB_eq (by decide))
end Go.Proofs.Ytokhpacdgoebpaa
