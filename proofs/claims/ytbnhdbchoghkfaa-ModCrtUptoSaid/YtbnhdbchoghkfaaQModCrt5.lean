/- The law ModCrt, as it is stated, of the given program, for every input; no condition. -/
import Derived.Test.YtbnhdbchoghkfaaQModCrt4
import Derived.Deep.SlicePairs
import Derived.Test.YtbnhdbchoghkfaaRows
import Derived.JoinedCond
import Derived.Deep.Slices
/- Contracts: the greatest common divisor with what makes it; rests, inverses. -/
namespace Go.Proofs.Ytbnhdbchoghkfaa
open Go.En Go.RowKit
set_option linter.unusedVariables false
set_option maxRecDepth 10000
open Go.Nt
set_option maxHeartbeats 4000000 in
theorem zint_Xgcd {m n : Bool} {xs ys : List Nat} (hx : (List.length (words (val xs))) ≤ 100000000) (hy : (List.length (words (val ys))) ≤ 100000000) (hb : zv n ys ≠ 0) : Ctr Try.prog 33 [Flat [isB m, isWords xs], Flat [isB n, isWords ys]] (isTup [isZ ((Nat.gcd (zv m xs).natAbs (zv n ys).natAbs : Nat) : Int), isZ (xg (zv m xs) (zv n ys)), isZ (if zv n ys ≠ 0 ∧ (((Nat.gcd (zv m xs).natAbs (zv n ys).natAbs : Nat) : Int) - xg (zv m xs) (zv n ys) * zv m xs).tmod (zv n ys) = 0 then (((Nat.gcd (zv m xs).natAbs (zv n ys).natAbs : Nat) : Int) - xg (zv m xs) (zv n ys) * zv m xs).tdiv (zv n ys) else 0)]) := by
  refine Ctr.intro Try.func33 rfl (by kernel_rfl) Try.ntmps33 rfl fun w0 F0 => ?_
  refine Tri.cv (Cv.wk (.cons (t := 0) (Has.t rfl) (.cons (t := 1) (Has.t rfl) .nil))) ?_
  refine Tri.fact (Has.okZ (Has.t (t := 0) rfl)) fun okz0 => ?_
  refine Tri.fact (Has.okZ (Has.t (t := 1) rfl)) fun okz1 => ?_
  have hxx := zv_nw m xs
  have hyy := zv_nw n ys
  have h1 := nz_one
  have hcof := cof_all (zv m xs) (zv n ys)
  have hg1 := hcof.1
  obtain ⟨g, hge⟩ : ∃ g : Int, g = ((Nat.gcd (zv m xs).natAbs (zv n ys).natAbs : Nat) : Int) := ⟨_, rfl⟩
  have hgn : (List.length (words g.natAbs)) ≤ 100000000 := by rw [hge, Int.natAbs_natCast]; exact Nat.le_trans (nw_mono (Nat.gcd_le_right _ (by omega))) (by omega)
  obtain ⟨c, hce⟩ : ∃ c, c = (cof (zv m xs) (zv n ys) 1 0).2 := ⟨_, rfl⟩
  have hcn : (List.length (words c.natAbs)) ≤ 100000000 := by rw [hce]; exact Nat.le_trans (nw_mono hcof.2.2) (Nat.le_trans (nw_max _ _) (by have := nw_one; omega))
  obtain ⟨sp, hst⟩ : ∃ sp : Int, sp = ((zv n ys).natAbs : Int) / g := ⟨_, rfl⟩
  have hsp : 0 < sp := by rw [hst, hge]; exact step_pos hb
  have hsn : (List.length (words sp.natAbs)) ≤ 100000000 := by rw [hst, hge]; exact Nat.le_trans (nw_mono (step_le _ _)) (by omega)
  obtain ⟨x, hxe⟩ : ∃ x, x = xg (zv m xs) (zv n ys) := ⟨_, rfl⟩
  have hxn : (List.length (words x.natAbs)) ≤ 100000000 := by rw [hxe]; exact Nat.le_trans (nw_mono (xg_le hb)) (by omega)
  have hm := nz_mul x (zv m xs)
  have hs := nz_sub g (x * zv m xs)
  have hx2 : c % sp = x := by rw [hxe, hce, hst, hge]; rfl
  refine Tri.seq fun K1 hK1 => ?_
  refine Tri.region ?_
  refine Ops.box (Has.t rfl) rfl fun b1 => ?_
  refine Ops.box (Has.t rfl) rfl fun b2 => ?_
  refine Ops.alloc [isB false, SlM isU []] zero27 (fun _ _ => ⟨rfl, nilM _ _, trivial⟩) rfl fun b3 => ?_
  refine Ops.alloc [isB false, SlM isU []] zero27 (fun _ _ => ⟨rfl, nilM _ _, trivial⟩) rfl fun b4 => ?_
  refine Ops.alloc [isB false, SlM isU []] zero27 (fun _ _ => ⟨rfl, nilM _ _, trivial⟩) rfl fun b5 => ?_
  refine nl ?_
  refine At.thn (hK1 _ _ ?_); clear hK1
  refine Tri.seq fun K2 hK2 => ?_
  refine Tri.seq fun K3 hK3 => ?_
  refine Tri.region ?_
  refine st (OK1.load (Has.t rfl) (i := 3) rfl ty27 rfl (Ss' := [_, _]) rfl) rfl ?_
  refine st (OK1.call (zint_Sign (by omega)) (.cons (Has.t rfl) .nil)) rfl ?_
  refine st (OK1.eqI (Has.t rfl) (Has.cI 0 rfl)) rfl ?_
  refine nl ?_
  refine At.thn (hK3 _ _ ?_); clear hK3
  refine Tri.cond (Has.t rfl) (fun hc1 => ?_) (fun hc1 => ?_)
  · have hc1 := BP.t hc1
    exact absurd ((sgn_eq0 _).1 hc1) hb
  · have hc1 := BP.f hc1
    refine Tri.skip ?_
    refine At.thn (hK2 _ _ ?_); clear hK2
    refine Tri.cv (Cv.wk (.cons (t := 2) (Has.t rfl) (.cons (t := 3) (Has.t rfl) (.cons (t := 4) (Has.t rfl) (.cons (t := 5) (Has.t rfl) (.cons (t := 6) (Has.t rfl) .nil)))))) ?_
    refine Tri.seq fun K4 hK4 => ?_
    refine Tri.region ?_
    refine st (OK1.load (Has.t rfl) (i := 4) rfl ty27 rfl (Ss' := [_, _]) rfl) rfl ?_
    refine st (OK1.load (Has.t rfl) (i := 3) rfl ty27 rfl (Ss' := [_, _]) rfl) rfl ?_
    refine st (OK1.eq (OK1.call (zint_cofactor (by with_reducible assumption) (by with_reducible assumption)) (.cons (Has.t rfl) (.cons (Has.t rfl) .nil))) ((show isTup [isZ _, isZ _] = isTup [isZ g, isZ c] from by rw [hce, hge, hg1]))) rfl ?_
    refine st (OK1.mv (Has.t rfl)) rfl ?_
    refine st (OK1.ext (Has.t rfl) rfl) rfl ?_
    refine st (OK1.ext (Has.t rfl) rfl) rfl ?_
    refine Ops.alloc [isB false, SlM isU []] zero27 (fun _ _ => ⟨rfl, nilM _ _, trivial⟩) rfl fun b6 => ?_
    refine Ops.alloc [isB false, SlM isU []] zero27 (fun _ _ => ⟨rfl, nilM _ _, trivial⟩) rfl fun b7 => ?_
    refine Ops.store (Has.t rfl) (Has.t rfl) (i := 1) rfl ty27 rfl rfl (Ss' := [_, _]) rfl (M' := [_, (some _, cellM [_, _]), _, _, _, _, _]) rfl ?_
    refine Ops.store (Has.t rfl) (Has.t rfl) (i := 0) rfl ty27 rfl rfl (Ss' := [_, _]) rfl (M' := [(some _, cellM [_, _]), _, _, _, _, _, _]) rfl ?_
    refine nl ?_
    refine At.thn (hK4 _ _ ?_); clear hK4
    refine Tri.cv (Cv.wk (.cons (t := 2) (Has.t rfl) (.cons (t := 3) (Has.t rfl) (.cons (t := 4) (Has.t rfl) (.cons (t := 5) (Has.t rfl) (.cons (t := 6) (Has.t rfl) (.cons (t := 7) (Has.t rfl) (.cons (t := 8) (Has.t rfl) .nil)))))))) ?_
    refine Tri.seq fun K5 hK5 => ?_
    refine Tri.drh [true, true, true, true, true, true, true] (Ms := [_, _, _, _, _, _, _]) rfl ?_
    refine DrH.st (i := 0) [] rfl rfl rfl (by kernel_rfl) (OKG.o rfl (OK1.load (Has.t rfl) (i := 5) rfl ty27 rfl (Ss' := [_, _]) rfl)) ?_
    refine DrH.st (i := 1) [29] rfl rfl rfl (by kernel_rfl) (OKG.o rfl (OK1.call (zint_Abs (by omega)) (.cons (Has.t rfl) .nil))) ?_
    refine DrH.st (i := 2) [] rfl rfl rfl (by kernel_rfl) (OKG.o rfl (OK1.load (Has.t rfl) (i := 1) rfl ty27 rfl (Ss' := [_, _]) rfl)) ?_
    refine DrH.st (i := 3) [30, 31] rfl rfl rfl (by kernel_rfl) (OKG.o rfl (OK1.eq (OK1.call (zint_Exact (by simp only [val_words, zv_nf, Int.natAbs_natCast]; omega) (by simp only [val_words, zv_nf]; omega)) (.cons (Has.t rfl) (.cons (Has.t rfl) .nil))) ((by simp only [zv_nf]; rw [show (if g ≠ 0 ∧ (((zv n ys).natAbs : Nat) : Int).tmod g = 0 then (((zv n ys).natAbs : Nat) : Int).tdiv g else 0) = sp from by rw [hst, hge, ← hg1]; exact (xg_step hb).trans (by rw [hg1])])))) ?_
    refine DrH.st (i := 4) [32] rfl rfl rfl (by kernel_rfl) (OKG.o rfl (OK1.mv (Has.t rfl))) ?_
    refine DrH.st (i := 5) [28] rfl rfl rfl (by kernel_rfl) (OKG.o rfl (OK1.ext (Has.t rfl) rfl)) ?_
    refine DrH.st (i := 6) [28] rfl rfl rfl (by kernel_rfl) (OKG.o rfl (OK1.ext (Has.t rfl) rfl)) ?_
    refine DrH.als2 (n1 := 8) (ds := [9]) (zs := [[isB false, SlM isU []]]) rfl (.cons rfl rfl zero27 (fun _ _ => ⟨rfl, nilM _ _, trivial⟩) .nil) (.cons_cons _ (.cons_cons _ (.cons_cons _ (.cons_cons _ (.cons_cons _ (.cons_cons _ (.cons_cons _ .slnil))))))) (Cs := [_]) rfl ?_
    refine DrN2.new [33] 0 (Ss' := [_, _]) (Cs' := [cellM [_, _]]) rfl (by kernel_rfl) (by kernel_rfl) rfl rfl rfl (by kernel_rfl) rfl (Has.t rfl) ty27 rfl rfl rfl rfl ?_
    refine DrN2.fin (n := 9) mixed rfl (by kernel_rfl) (by kernel_rfl) (by kernel_rfl) (fun bs hbs => ?_)
    obtain ⟨b8, rfl⟩ := len1 hbs
    refine Ops.memEq (M' := [_, _, _, _, _, _, _, _]) rfl ?_
    refine Ops.cv (Cv.wk (.cons (t := 2) (Has.t rfl) (.cons (t := 3) (Has.t rfl) (.cons (t := 4) (Has.t rfl) (.cons (t := 5) (Has.t rfl) (.cons (t := 6) (Has.t rfl) (.cons (t := 7) (Has.t rfl) (.cons (t := 8) (Has.t rfl) (.cons (t := 34) (Has.t rfl) (.cons (t := 9) (Has.op rfl) .nil)))))))))) ?_
    refine st (OK1.as (Has.t rfl)) rfl ?_
    refine nl ?_
    refine At.thn (hK5 _ _ ?_); clear hK5
    refine Tri.seq fun K6 hK6 => ?_
    refine Tri.region ?_
    refine st (OK1.load (Has.t rfl) (i := 1) rfl ty27 rfl (Ss' := [_, _]) rfl) rfl ?_
    refine st (OK1.load (Has.t rfl) (i := 0) rfl ty27 rfl (Ss' := [_, _]) rfl) rfl ?_
    refine st (OK1.eq (OK1.call (zint_Euclid (by simp only [val_words, zv_nf]; omega) (by simp only [val_words, zv_nf]; omega)) (.cons (Has.t rfl) (.cons (Has.t rfl) .nil))) ((by simp only [zv_nf]; rw [if_neg (show ¬ sp = 0 by omega), hx2]))) rfl ?_
    refine st (OK1.mv (Has.t rfl)) rfl ?_
    refine st (OK1.ext (Has.t rfl) rfl) rfl ?_
    refine st (OK1.ext (Has.t rfl) rfl) rfl ?_
    refine st (OK1.ext (Has.t rfl) rfl) rfl ?_
    refine Ops.store (Has.t rfl) (Has.t rfl) (i := 1) rfl ty27 rfl rfl (Ss' := [_, _]) rfl (M' := [_, (some _, cellM [_, _]), _, _, _, _, _, _]) rfl ?_
    refine nl ?_
    refine At.thn (hK6 _ _ ?_); clear hK6
    refine Tri.cv (Cv.wk (.cons (t := 2) (Has.t rfl) (.cons (t := 3) (Has.t rfl) (.cons (t := 4) (Has.t rfl) (.cons (t := 5) (Has.t rfl) (.cons (t := 6) (Has.t rfl) (.cons (t := 7) (Has.t rfl) (.cons (t := 8) (Has.t rfl) .nil)))))))) ?_
    refine Tri.seq fun K7 hK7 => ?_
    refine Tri.drh [true, true, true, true, true, true, true, true] (Ms := [_, _, _, _, _, _, _, _]) rfl ?_
    refine DrH.st (i := 0) [] rfl rfl rfl (by kernel_rfl) (OKG.o rfl (OK1.load (Has.t rfl) (i := 2) rfl ty27 rfl (Ss' := [_, _]) rfl)) ?_
    refine DrH.st (i := 1) [] rfl rfl rfl (by kernel_rfl) (OKG.o rfl (OK1.load (Has.t rfl) (i := 1) rfl ty27 rfl (Ss' := [_, _]) rfl)) ?_
    refine DrH.st (i := 2) [] rfl rfl rfl (by kernel_rfl) (OKG.o rfl (OK1.load (Has.t rfl) (i := 7) rfl ty27 rfl (Ss' := [_, _]) rfl)) ?_
    refine DrH.st (i := 3) [44, 45] rfl rfl rfl (by kernel_rfl) (OKG.o rfl (OK1.eq (OK1.call (zint_Mul (by simp only [val_words, zv_nf]; omega) (by omega)) (.cons (Has.t rfl) (.cons (Has.t rfl) .nil))) (by simp only [val_words, zv_nf]; rfl))) ?_
    refine DrH.st (i := 4) [43, 46] rfl rfl rfl (by kernel_rfl) (OKG.o rfl (OK1.eq (OK1.call (zint_Sub (by simp only [val_words, zv_nf]; omega) (by simp only [val_words, zv_nf]; omega)) (.cons (Has.t rfl) (.cons (Has.t rfl) .nil))) (by simp only [val_words, zv_nf]; rfl))) ?_
    refine DrH.st (i := 5) [] rfl rfl rfl (by kernel_rfl) (OKG.o rfl (OK1.load (Has.t rfl) (i := 6) rfl ty27 rfl (Ss' := [_, _]) rfl)) ?_
    refine DrH.st (i := 6) [47, 48] rfl rfl rfl (by kernel_rfl) (OKG.o rfl (OK1.eq (OK1.call (zint_Exact (by simp only [val_words, zv_nf]; omega) (by omega)) (.cons (Has.t rfl) (.cons (Has.t rfl) .nil))) (by simp only [val_words, zv_nf]; rfl))) ?_
    refine DrH.st (i := 7) [49] rfl rfl rfl (by kernel_rfl) (OKG.o rfl (OK1.mv (Has.t rfl))) ?_
    refine DrH.st (i := 8) [42] rfl rfl rfl (by kernel_rfl) (OKG.o rfl (OK1.ext (Has.t rfl) rfl)) ?_
    refine DrH.st (i := 9) [42] rfl rfl rfl (by kernel_rfl) (OKG.o rfl (OK1.ext (Has.t rfl) rfl)) ?_
    refine DrH.als2 (n1 := 11) (ds := [11]) (zs := [[isB false, SlM isU []]]) rfl (.cons rfl rfl zero27 (fun _ _ => ⟨rfl, nilM _ _, trivial⟩) .nil) (.cons_cons _ (.cons_cons _ (.cons_cons _ (.cons_cons _ (.cons_cons _ (.cons_cons _ (.cons_cons _ (.cons_cons _ .slnil)))))))) (Cs := [_]) rfl ?_
    refine DrN2.new [50] 0 (Ss' := [_, _]) (Cs' := [cellM [_, _]]) rfl (by kernel_rfl) (by kernel_rfl) rfl rfl rfl (by kernel_rfl) rfl (Has.t rfl) ty27 rfl rfl rfl rfl ?_
    refine DrN2.fin (n := 12) mixed rfl (by kernel_rfl) (by kernel_rfl) (by kernel_rfl) (fun bs hbs => ?_)
    obtain ⟨b9, rfl⟩ := len1 hbs
    refine Ops.memEq (M' := [_, _, _, _, _, _, _, _, _]) rfl ?_
    refine Ops.cv (Cv.wk (.cons (t := 4) (Has.t rfl) (.cons (t := 5) (Has.t rfl) (.cons (t := 6) (Has.t rfl) (.cons (t := 7) (Has.t rfl) (.cons (t := 8) (Has.t rfl) (.cons (t := 51) (Has.t rfl) (.cons (t := 11) (Has.op rfl) .nil)))))))) ?_
    refine st (OK1.as (Has.t rfl)) rfl ?_
    refine nl ?_
    refine At.thn (hK7 _ _ ?_); clear hK7
    refine Tri.seq fun K8 hK8 => ?_
    refine Tri.drh [true, true, true, true, true, false, false, true, true] (Ms := [_, _, _, _, _, _, _]) rfl ?_
    refine DrH.st (i := 0) [] rfl rfl rfl (by kernel_rfl) (OKG.o rfl (OK1.load (Has.t rfl) (i := 3) rfl ty27 rfl (Ss' := [_, _]) rfl)) ?_
    refine DrH.st (i := 1) [] rfl rfl rfl (by kernel_rfl) (OKG.o rfl (OK1.load (Has.t rfl) (i := 2) rfl ty27 rfl (Ss' := [_, _]) rfl)) ?_
    refine DrH.st (i := 2) [] rfl rfl rfl (by kernel_rfl) (OKG.o rfl (OK1.load (Has.t rfl) (i := 0) rfl ty27 rfl (Ss' := [_, _]) rfl)) ?_
    refine DrH.mid2 (.cons_cons _ (.cons_cons _ (.cons_cons _ (.cons_cons _ (.cons_cons _ (.cons _ (.cons _ (.cons_cons _ (.cons_cons _ .slnil))))))))) ?_
    refine DrN2.st0 [52] rfl rfl (by kernel_rfl) (by kernel_rfl) (StS.store (Has.t rfl) (Has.t rfl) (i := 6) rfl ty27 rfl rfl (Ss' := [_, _]) rfl (M' := [_, _, _, _, _, _, (some _, cellM [_, _]), _, _]) rfl) (.cons_cons _ (.cons_cons _ (.cons_cons _ (.cons_cons _ (.cons_cons _ (.cons _ (.cons _ (.cons_cons _ (.cons_cons _ .slnil))))))))) ?_
    refine DrN2.st0 [53] rfl rfl (by kernel_rfl) (by kernel_rfl) (StS.store (Has.t rfl) (Has.t rfl) (i := 5) rfl ty27 rfl rfl (Ss' := [_, _]) rfl (M' := [_, _, _, _, _, (some _, cellM [_, _]), _, _, _]) rfl) (.cons_cons _ (.cons_cons _ (.cons_cons _ (.cons_cons _ (.cons_cons _ (.cons _ (.cons _ (.cons_cons _ (.cons_cons _ .slnil))))))))) ?_
    refine DrN2.fin0 (n := 5) mixed rfl (by kernel_rfl) (by kernel_rfl) (by kernel_rfl) ?_
    refine Ops.cv (Cv.wk (.cons (t := 4) (Has.t rfl) (.cons (t := 5) (Has.t rfl) (.cons (t := 6) (Has.t rfl) (.cons (t := 54) (Has.t rfl) .nil))))) ?_
    refine Ops.store (Has.t rfl) (Has.t rfl) (i := 4) rfl ty27 rfl rfl (Ss' := [_, _]) rfl (M' := [_, _, _, _, (some _, cellM [_, _]), _, _, _, _]) rfl ?_
    refine nl ?_
    refine At.thn (hK8 _ _ ?_); clear hK8
    refine Tri.ret ?_
    refine rtN (.inl rfl) Try.results33 rfl rfl (.cell rfl (i := 6) rfl ty27 rfl ?_ (.cell rfl (i := 5) rfl ty27 rfl ?_ (.cell rfl (i := 4) rfl ty27 rfl ?_ .nil)))
    · exact isZ_eq hge
    · exact isZ_eq hxe
    · exact isZ_eq (by rw [hge, hxe])
set_option maxHeartbeats 4000000 in
theorem modn_Mod {m n : Bool} {xs ys : List Nat} (hx : (List.length (words (val xs))) < 4294700000) (hy : (List.length (words (val ys))) < 4294700000) : Ctr Try.prog 15 [Flat [isB m, isWords xs], Flat [isB n, isWords ys]] (isTup [isZ (if 0 < zv n ys then zv m xs % zv n ys else 0), isB (decide (0 < zv n ys))]) := by
  refine Ctr.intro Try.func15 rfl (by kernel_rfl) Try.ntmps15 rfl fun w0 F0 => ?_
  refine Tri.cv (Cv.wk (.cons (t := 0) (Has.t rfl) (.cons (t := 1) (Has.t rfl) .nil))) ?_
  refine Tri.fact (Has.okZ (Has.t (t := 0) rfl)) fun okz0 => ?_
  refine Tri.fact (Has.okZ (Has.t (t := 1) rfl)) fun okz1 => ?_
  refine Tri.seq fun K1 hK1 => ?_
  refine Tri.region ?_
  refine Ops.box (Has.t rfl) rfl fun b1 => ?_
  refine Ops.box (Has.t rfl) rfl fun b2 => ?_
  refine Ops.alloc [isB false, SlM isU []] zero27 (fun _ _ => ⟨rfl, nilM _ _, trivial⟩) rfl fun b3 => ?_
  refine st (OK1.as (Has.cB false)) rfl ?_
  refine nl ?_
  refine At.thn (hK1 _ _ ?_); clear hK1
  refine Tri.seq fun K2 hK2 => ?_
  refine Tri.seq fun K3 hK3 => ?_
  refine Tri.region ?_
  refine st (OK1.load (Has.t rfl) (i := 1) rfl ty27 rfl (Ss' := [_, _]) rfl) rfl ?_
  refine st (OK1.call (zint_Sign (by omega)) (.cons (Has.t rfl) .nil)) rfl ?_
  refine st (OK1.leI (Has.t rfl) (Has.cI 0 rfl)) rfl ?_
  refine nl ?_
  refine At.thn (hK3 _ _ ?_); clear hK3
  refine Tri.cond (Has.t rfl) (fun hc1 => ?_) (fun hc1 => ?_)
  · have hc1 := BP.t hc1
    have hN : ¬ 0 < zv n ys := fun e => by have := (sgn_pos _).2 e; omega
    refine Tri.seq fun K4 hK4 => ?_
    refine Tri.region ?_
    refine st (OK1.eq (OK1.build [isB false, SlM isU []] pl27 zero27 (fun _ _ => ⟨rfl, nilM _ _, trivial⟩) .nil (Z'' := [_, _]) rfl) (isZ0)) rfl ?_
    refine Ops.store (Has.t rfl) (Has.t rfl) (i := 0) rfl ty27 rfl rfl (Ss' := [_, _]) rfl (M' := [(some _, cellM [_, _]), _, _]) rfl ?_
    refine st (OK1.as (Has.cB false)) rfl ?_
    refine nl ?_
    refine At.thn (hK4 _ _ ?_); clear hK4
    refine Tri.cv (Cv.wk (.cons (t := 2) (Has.t rfl) (.cons (t := 3) (Has.t rfl) (.cons (t := 4) (Has.t rfl) (.cons (t := 5) (Has.t rfl) .nil))))) ?_
    refine Tri.ret ?_
    refine At.thr ?_
    refine rtN (.inl rfl) Try.results15 rfl rfl (.cell rfl (i := 0) rfl ty27 rfl ?_ (.tmp (Has.t' rfl ?_) .nil))
    · exact isZ_eq (if_neg hN).symm
    · exact isB_eq (decide_eq_false hN).symm
  · have hc1 := BP.f hc1
    have hP : 0 < zv n ys := (sgn_pos _).1 (by omega)
    refine Tri.skip ?_
    refine At.thn (hK2 _ _ ?_); clear hK2
    refine Tri.cv (Cv.wk (.cons (t := 2) (Has.t rfl) (.cons (t := 3) (Has.t rfl) (.cons (t := 4) (Has.t rfl) (.cons (t := 5) (Has.t rfl) .nil))))) ?_
    refine Tri.seq fun K5 hK5 => ?_
    refine Tri.region ?_
    refine st (OK1.load (Has.t rfl) (i := 2) rfl ty27 rfl (Ss' := [_, _]) rfl) rfl ?_
    refine st (OK1.load (Has.t rfl) (i := 1) rfl ty27 rfl (Ss' := [_, _]) rfl) rfl ?_
    refine st (OK1.call (zint_Euclid (by with_reducible assumption) (by with_reducible assumption)) (.cons (Has.t rfl) (.cons (Has.t rfl) .nil))) rfl ?_
    refine st (OK1.mv (Has.t rfl)) rfl ?_
    refine st (OK1.ext (Has.t rfl) rfl) rfl ?_
    refine st (OK1.ext (Has.t rfl) rfl) rfl ?_
    refine st (OK1.ext (Has.t rfl) rfl) rfl ?_
    refine Ops.alloc [isB false, SlM isU []] zero27 (fun _ _ => ⟨rfl, nilM _ _, trivial⟩) rfl fun b4 => ?_
    refine Ops.alloc [isB false, SlM isU []] zero27 (fun _ _ => ⟨rfl, nilM _ _, trivial⟩) rfl fun b5 => ?_
    refine Ops.store (Has.t rfl) (Has.t rfl) (i := 1) rfl ty27 rfl rfl (Ss' := [_, _]) rfl (M' := [_, (some _, cellM [_, _]), _, _, _]) rfl ?_
    refine Ops.store (Has.t rfl) (Has.t rfl) (i := 0) rfl ty27 rfl rfl (Ss' := [_, _]) rfl (M' := [(some _, cellM [_, _]), _, _, _, _]) rfl ?_
    refine st (OK1.as (Has.t rfl)) rfl ?_
    refine nl ?_
    refine At.thn (hK5 _ _ ?_); clear hK5
    refine Tri.cv (Cv.wk (.cons (t := 4) (Has.t rfl) (.cons (t := 5) (Has.t rfl) (.cons (t := 7) (Has.t rfl) (.cons (t := 8) (Has.t rfl) .nil))))) ?_
    refine Tri.seq fun K6 hK6 => ?_
    refine Tri.region ?_
    refine st (OK1.load (Has.t rfl) (i := 0) rfl ty27 rfl (Ss' := [_, _]) rfl) rfl ?_
    refine st (OK1.mv (Has.t rfl)) rfl ?_
    refine Ops.store (Has.t rfl) (Has.t rfl) (i := 2) rfl ty27 rfl rfl (Ss' := [_, _]) rfl (M' := [_, _, (some _, cellM [_, _]), _, _]) rfl ?_
    refine st (OK1.as (Has.t rfl)) rfl ?_
    refine nl ?_
    refine At.thn (hK6 _ _ ?_); clear hK6
    refine Tri.ret ?_
    refine rtN (.inl rfl) Try.results15 rfl rfl (.cell rfl (i := 2) rfl ty27 rfl ?_ (.tmp (Has.t' rfl ?_) .nil))
    · exact isZ_eq (by rw [if_neg (by omega), if_pos hP])
    · exact isB_eq (decide_eq_decide.2 ⟨fun _ => hP, fun _ => by omega⟩)
set_option maxHeartbeats 4000000 in
theorem modn_rest {m n : Bool} {xs ys : List Nat} (hx : (List.length (words (val xs))) < 4294700000) (hy : (List.length (words (val ys))) < 4294700000) (hp : 0 < zv n ys) : Ctr Try.prog 34 [Flat [isB m, isWords xs], Flat [isB n, isWords ys]] (isZ (zv m xs % zv n ys)) := by
  refine Ctr.intro Try.func34 rfl (by kernel_rfl) Try.ntmps34 rfl fun w0 F0 => ?_
  refine Tri.cv (Cv.wk (.cons (t := 0) (Has.t rfl) (.cons (t := 1) (Has.t rfl) .nil))) ?_
  refine Tri.fact (Has.okZ (Has.t (t := 0) rfl)) fun okz0 => ?_
  refine Tri.fact (Has.okZ (Has.t (t := 1) rfl)) fun okz1 => ?_
  refine Tri.seq fun K1 hK1 => ?_
  refine Tri.region ?_
  refine Ops.box (Has.t rfl) rfl fun b1 => ?_
  refine Ops.box (Has.t rfl) rfl fun b2 => ?_
  refine Ops.alloc [isB false, SlM isU []] zero27 (fun _ _ => ⟨rfl, nilM _ _, trivial⟩) rfl fun b3 => ?_
  refine nl ?_
  refine At.thn (hK1 _ _ ?_); clear hK1
  refine Tri.seq fun K2 hK2 => ?_
  refine Tri.region ?_
  refine st (OK1.load (Has.t rfl) (i := 2) rfl ty27 rfl (Ss' := [_, _]) rfl) rfl ?_
  refine st (OK1.load (Has.t rfl) (i := 1) rfl ty27 rfl (Ss' := [_, _]) rfl) rfl ?_
  refine st (OK1.call (modn_Mod (by first | with_reducible assumption | omega | (simp only [val_words, zv_nf]; omega) | (simp only [val_words, zv_nf, Int.natAbs_natCast]; omega) | (simp only [val_words]; exact Nat.le_trans (nw_small' (by omega)) (by decide))) (by first | with_reducible assumption | omega | (simp only [val_words, zv_nf]; omega) | (simp only [val_words, zv_nf, Int.natAbs_natCast]; omega) | (simp only [val_words]; exact Nat.le_trans (nw_small' (by omega)) (by decide)))) (.cons (Has.t rfl) (.cons (Has.t rfl) .nil))) rfl ?_
  refine st (OK1.mv (Has.t rfl)) rfl ?_
  refine st (OK1.ext (Has.t rfl) rfl) rfl ?_
  refine st (OK1.ext (Has.t rfl) rfl) rfl ?_
  refine Ops.alloc [isB false, SlM isU []] zero27 (fun _ _ => ⟨rfl, nilM _ _, trivial⟩) rfl fun b4 => ?_
  refine Ops.store (Has.t rfl) (Has.t rfl) (i := 0) rfl ty27 rfl rfl (Ss' := [_, _]) rfl (M' := [(some _, cellM [_, _]), _, _, _]) rfl ?_
  refine st (OK1.as (Has.t rfl)) rfl ?_
  refine nl ?_
  refine At.thn (hK2 _ _ ?_); clear hK2
  refine Tri.cv (Cv.wk (.cons (t := 4) (Has.t rfl) (.cons (t := 5) (Has.t rfl) .nil))) ?_
  refine Tri.seq fun K3 hK3 => ?_
  refine Tri.region ?_
  refine st (OK1.load (Has.t rfl) (i := 0) rfl ty27 rfl (Ss' := [_, _]) rfl) rfl ?_
  refine Ops.store (Has.t rfl) (Has.t rfl) (i := 1) rfl ty27 rfl rfl (Ss' := [_, _]) rfl (M' := [_, (some _, cellM [_, _]), _, _]) rfl ?_
  refine nl ?_
  refine At.thn (hK3 _ _ ?_); clear hK3
  refine Tri.ret ?_
  refine rt1 (.inl rfl) Try.results34 rfl (.cell rfl (i := 1) rfl ty27 rfl ?_ .nil)
  · exact isZ_eq (if_pos hp)
set_option maxHeartbeats 4000000 in
theorem modn_Inverse {m n : Bool} {xs ys : List Nat} (hx : (List.length (words (val xs))) ≤ 8) (hy : (List.length (words (val ys))) ≤ 8) : Ctr Try.prog 14 [Flat [isB m, isWords xs], Flat [isB n, isWords ys]] (isTup [isZ (if 0 < zv n ys ∧ Nat.gcd (zv m xs).natAbs (zv n ys).natAbs = 1 then inv (zv m xs) (zv n ys) else 0), isB (decide (0 < zv n ys ∧ Nat.gcd (zv m xs).natAbs (zv n ys).natAbs = 1))]) := by
  refine Ctr.intro Try.func14 rfl (by kernel_rfl) Try.ntmps14 rfl fun w0 F0 => ?_
  refine Tri.cv (Cv.wk (.cons (t := 0) (Has.t rfl) (.cons (t := 1) (Has.t rfl) .nil))) ?_
  refine Tri.fact (Has.okZ (Has.t (t := 0) rfl)) fun okz0 => ?_
  refine Tri.fact (Has.okZ (Has.t (t := 1) rfl)) fun okz1 => ?_
  have hxx := zv_nw m xs
  have hyy := zv_nw n ys
  have h1 := nz_one
  refine Tri.seq fun K1 hK1 => ?_
  refine Tri.region ?_
  refine Ops.box (Has.t rfl) rfl fun b1 => ?_
  refine Ops.box (Has.t rfl) rfl fun b2 => ?_
  refine Ops.alloc [isB false, SlM isU []] zero27 (fun _ _ => ⟨rfl, nilM _ _, trivial⟩) rfl fun b3 => ?_
  refine st (OK1.as (Has.cB false)) rfl ?_
  refine nl ?_
  refine At.thn (hK1 _ _ ?_); clear hK1
  refine Tri.seq fun K2 hK2 => ?_
  refine Tri.seq fun K3 hK3 => ?_
  refine Tri.region ?_
  refine st (OK1.load (Has.t rfl) (i := 1) rfl ty27 rfl (Ss' := [_, _]) rfl) rfl ?_
  refine st (OK1.call (zint_Sign (by first | with_reducible assumption | omega | (simp only [val_words, zv_nf]; omega) | (simp only [val_words, zv_nf, Int.natAbs_natCast]; omega) | (simp only [val_words]; exact Nat.le_trans (nw_small' (by omega)) (by decide)))) (.cons (Has.t rfl) .nil)) rfl ?_
  refine st (OK1.leI (Has.t rfl) (Has.cI 0 rfl)) rfl ?_
  refine nl ?_
  refine At.thn (hK3 _ _ ?_); clear hK3
  refine Tri.cond (Has.t rfl) (fun hc1 => ?_) (fun hc1 => ?_)
  · have hc1 := BP.t hc1
    have hN : ¬ 0 < zv n ys := fun e => by have := (sgn_pos _).2 e; omega
    refine Tri.seq fun K4 hK4 => ?_
    refine Tri.region ?_
    refine st (OK1.eq (OK1.build [isB false, SlM isU []] pl27 zero27 (fun _ _ => ⟨rfl, nilM _ _, trivial⟩) .nil (Z'' := [_, _]) rfl) (isZ0)) rfl ?_
    refine Ops.store (Has.t rfl) (Has.t rfl) (i := 0) rfl ty27 rfl rfl (Ss' := [_, _]) rfl (M' := [(some _, cellM [_, _]), _, _]) rfl ?_
    refine st (OK1.as (Has.cB false)) rfl ?_
    refine nl ?_
    refine At.thn (hK4 _ _ ?_); clear hK4
    refine Tri.cv (Cv.wk (.cons (t := 2) (Has.t rfl) (.cons (t := 3) (Has.t rfl) (.cons (t := 4) (Has.t rfl) (.cons (t := 5) (Has.t rfl) .nil))))) ?_
    refine Tri.ret ?_
    refine At.thr ?_
    refine rtN (.inl rfl) Try.results14 rfl rfl (.cell rfl (i := 0) rfl ty27 rfl ?_ (.tmp (Has.t' rfl ?_) .nil))
    · exact isZ_eq (if_neg (fun e => hN e.1)).symm
    · exact isB_eq (decide_eq_false (fun e => hN e.1)).symm
  · have hc1 := BP.f hc1
    have hP : 0 < zv n ys := (sgn_pos _).1 (by omega)
    have hxn := nw_mono (xg_le (A := zv m xs) (B := zv n ys) (by omega))
    have hgn : (List.length (words (Nat.gcd (zv m xs).natAbs (zv n ys).natAbs))) ≤ 8 := Nat.le_trans (nw_mono (Nat.gcd_le_right _ (by omega))) (by omega)
    refine Tri.skip ?_
    refine At.thn (hK2 _ _ ?_); clear hK2
    refine Tri.cv (Cv.wk (.cons (t := 2) (Has.t rfl) (.cons (t := 3) (Has.t rfl) (.cons (t := 4) (Has.t rfl) (.cons (t := 5) (Has.t rfl) .nil))))) ?_
    refine Tri.seq fun K5 hK5 => ?_
    refine Tri.region ?_
    refine st (OK1.load (Has.t rfl) (i := 2) rfl ty27 rfl (Ss' := [_, _]) rfl) rfl ?_
    refine st (OK1.load (Has.t rfl) (i := 1) rfl ty27 rfl (Ss' := [_, _]) rfl) rfl ?_
    refine st (OK1.call (zint_Xgcd (by first | with_reducible assumption | omega | (simp only [val_words, zv_nf]; omega) | (simp only [val_words, zv_nf, Int.natAbs_natCast]; omega) | (simp only [val_words]; exact Nat.le_trans (nw_small' (by omega)) (by decide))) (by first | with_reducible assumption | omega | (simp only [val_words, zv_nf]; omega) | (simp only [val_words, zv_nf, Int.natAbs_natCast]; omega) | (simp only [val_words]; exact Nat.le_trans (nw_small' (by omega)) (by decide))) (by first | with_reducible assumption | omega | (simp only [val_words, zv_nf]; omega) | (simp only [val_words, zv_nf, Int.natAbs_natCast]; omega) | (simp only [val_words]; exact Nat.le_trans (nw_small' (by omega)) (by decide)))) (.cons (Has.t rfl) (.cons (Has.t rfl) .nil))) rfl ?_
    refine st (OK1.mv (Has.t rfl)) rfl ?_
    refine st (OK1.ext (Has.t rfl) rfl) rfl ?_
    refine st (OK1.ext (Has.t rfl) rfl) rfl ?_
    refine st (OK1.ext (Has.t rfl) rfl) rfl ?_
    refine Ops.alloc [isB false, SlM isU []] zero27 (fun _ _ => ⟨rfl, nilM _ _, trivial⟩) rfl fun b4 => ?_
    refine Ops.alloc [isB false, SlM isU []] zero27 (fun _ _ => ⟨rfl, nilM _ _, trivial⟩) rfl fun b5 => ?_
    refine Ops.alloc [isB false, SlM isU []] zero27 (fun _ _ => ⟨rfl, nilM _ _, trivial⟩) rfl fun b6 => ?_
    refine Ops.store (Has.t rfl) (Has.t rfl) (i := 2) rfl ty27 rfl rfl (Ss' := [_, _]) rfl (M' := [_, _, (some _, cellM [_, _]), _, _, _]) rfl ?_
    refine Ops.store (Has.t rfl) (Has.t rfl) (i := 1) rfl ty27 rfl rfl (Ss' := [_, _]) rfl (M' := [_, (some _, cellM [_, _]), _, _, _, _]) rfl ?_
    refine Ops.store (Has.t rfl) (Has.t rfl) (i := 0) rfl ty27 rfl rfl (Ss' := [_, _]) rfl (M' := [(some _, cellM [_, _]), _, _, _, _, _]) rfl ?_
    refine nl ?_
    refine At.thn (hK5 _ _ ?_); clear hK5
    refine Tri.cv (Cv.wk (.cons (t := 3) (Has.t rfl) (.cons (t := 4) (Has.t rfl) (.cons (t := 5) (Has.t rfl) (.cons (t := 6) (Has.t rfl) (.cons (t := 7) (Has.t rfl) .nil)))))) ?_
    refine Tri.seq fun K6 hK6 => ?_
    refine Tri.seq fun K7 hK7 => ?_
    refine Tri.dr ?_
    refine DrG.st (i := 0) [] rfl rfl rfl (by kernel_rfl) (OKG.o rfl (OK1.load (Has.t rfl) (i := 2) rfl ty27 rfl (Ss' := [_, _]) rfl)) ?_
    refine DrG.st (i := 1) [] rfl rfl rfl (by kernel_rfl) (OKG.o rfl (OK1.call (zint_Of) (.cons (Has.cI 1 rfl) .nil))) ?_
    refine DrG.fin (n := 2) mixed (by kernel_rfl) (by kernel_rfl) (by kernel_rfl) ?_
    refine Ops.cv (Cv.wk (.cons (t := 3) (Has.t rfl) (.cons (t := 4) (Has.t rfl) (.cons (t := 5) (Has.t rfl) (.cons (t := 7) (Has.t rfl) (.cons (t := 20) (Has.t rfl) (.cons (t := 21) (Has.t rfl) .nil))))))) ?_
    refine st (OK1.eq (OK1.call (zint_Same (by first | with_reducible assumption | omega | (simp only [val_words, zv_nf]; omega) | (simp only [val_words, zv_nf, Int.natAbs_natCast]; omega) | (simp only [val_words]; exact Nat.le_trans (nw_small' (by omega)) (by decide))) (by first | with_reducible assumption | omega | (simp only [val_words, zv_nf]; omega) | (simp only [val_words, zv_nf, Int.natAbs_natCast]; omega) | (simp only [val_words]; exact Nat.le_trans (nw_small' (by omega)) (by decide)))) (.cons (Has.t rfl) (.cons (Has.t rfl) .nil))) (by first | (simp only [val_words, zv_nf]; rfl) | rfl)) rfl ?_
    refine st (OK1.not (Has.t rfl)) rfl ?_
    refine nl ?_
    refine At.thn (hK7 _ _ ?_); clear hK7
    refine Tri.cond (Has.t rfl) (fun hc2 => ?_) (fun hc2 => ?_)
    · have hc2 := BP.t hc2
      have hG : ¬ Nat.gcd (zv m xs).natAbs (zv n ys).natAbs = 1 := fun e => hc2 (by rw [e]; rfl)
      refine Tri.seq fun K8 hK8 => ?_
      refine Tri.region ?_
      refine st (OK1.eq (OK1.build [isB false, SlM isU []] pl27 zero27 (fun _ _ => ⟨rfl, nilM _ _, trivial⟩) .nil (Z'' := [_, _]) rfl) (isZ0)) rfl ?_
      refine Ops.store (Has.t rfl) (Has.t rfl) (i := 3) rfl ty27 rfl rfl (Ss' := [_, _]) rfl (M' := [_, _, _, (some _, cellM [_, _]), _, _]) rfl ?_
      refine st (OK1.as (Has.cB false)) rfl ?_
      refine nl ?_
      refine At.thn (hK8 _ _ ?_); clear hK8
      refine Tri.cv (Cv.wk (.cons (t := 3) (Has.t rfl) (.cons (t := 4) (Has.t rfl) (.cons (t := 5) (Has.t rfl) (.cons (t := 7) (Has.t rfl) .nil))))) ?_
      refine Tri.ret ?_
      refine At.thr ?_
      refine rtN (.inl rfl) Try.results14 rfl rfl (.cell rfl (i := 3) rfl ty27 rfl ?_ (.tmp (Has.t' rfl ?_) .nil))
      · exact isZ_eq (if_neg (fun e => hG e.2)).symm
      · exact isB_eq (decide_eq_false (fun e => hG e.2)).symm
    · have hc2 := BP.f hc2
      have hG : Nat.gcd (zv m xs).natAbs (zv n ys).natAbs = 1 := (by omega)
      refine Tri.skip ?_
      refine At.thn (hK6 _ _ ?_); clear hK6
      refine Tri.seq fun K9 hK9 => ?_
      refine Tri.region ?_
      refine st (OK1.load (Has.t rfl) (i := 1) rfl ty27 rfl (Ss' := [_, _]) rfl) rfl ?_
      refine st (OK1.load (Has.t rfl) (i := 4) rfl ty27 rfl (Ss' := [_, _]) rfl) rfl ?_
      refine st (OK1.eq (OK1.call (modn_rest (by first | with_reducible assumption | omega | (simp only [val_words, zv_nf]; omega) | (simp only [val_words, zv_nf, Int.natAbs_natCast]; omega) | (simp only [val_words]; exact Nat.le_trans (nw_small' (by omega)) (by decide))) (by first | with_reducible assumption | omega | (simp only [val_words, zv_nf]; omega) | (simp only [val_words, zv_nf, Int.natAbs_natCast]; omega) | (simp only [val_words]; exact Nat.le_trans (nw_small' (by omega)) (by decide))) (by first | with_reducible assumption | omega | (simp only [val_words, zv_nf]; omega) | (simp only [val_words, zv_nf, Int.natAbs_natCast]; omega) | (simp only [val_words]; exact Nat.le_trans (nw_small' (by omega)) (by decide)))) (.cons (Has.t rfl) (.cons (Has.t rfl) .nil))) (by first | (simp only [val_words, zv_nf]; rfl) | rfl)) rfl ?_
      refine Ops.store (Has.t rfl) (Has.t rfl) (i := 3) rfl ty27 rfl rfl (Ss' := [_, _]) rfl (M' := [_, _, _, (some _, cellM [_, _]), _, _]) rfl ?_
      refine st (OK1.as (Has.cB true)) rfl ?_
      refine nl ?_
      refine At.thn (hK9 _ _ ?_); clear hK9
      refine Tri.cv (Cv.wk (.cons (t := 4) (Has.t rfl) (.cons (t := 5) (Has.t rfl) .nil))) ?_
      refine Tri.ret ?_
      refine rtN (.inl rfl) Try.results14 rfl rfl (.cell rfl (i := 3) rfl ty27 rfl ?_ (.tmp (Has.t' rfl ?_) .nil))
      · exact isZ_eq (by rw [if_pos (And.intro hP hG)]; rfl)
      · exact isB_eq (decide_eq_true (And.intro hP hG)).symm
theorem inv37 : inv 3 7 = 5 := by
  have h := inv_spec (A := 3) (m := 7) (by decide) (by decide)
  obtain ⟨h1, h2, k, hk⟩ := h
  generalize inv 3 7 = x at *
  omega
set_option maxHeartbeats 4000000 in
theorem law06_awake  : Ctr Try.prog 4 [] (isB true) := by
  refine Ctr.intro Try.func4 rfl (by kernel_rfl) Try.ntmps4 rfl fun w0 F0 => ?_
  refine Tri.cv (Cv.wk .nil) ?_
  have h3 : (List.length (words (3 : Int).natAbs)) ≤ 1 := nw_small' (by decide)
  have h5 : (List.length (words (5 : Int).natAbs)) ≤ 1 := nw_small' (by decide)
  have h7 : (List.length (words (7 : Int).natAbs)) ≤ 1 := nw_small' (by decide)
  have hv := inv37
  refine Tri.seq fun K1 hK1 => ?_
  refine Tri.region ?_
  refine st (OK1.as (Has.cB false)) rfl ?_
  refine nl ?_
  refine At.thn (hK1 _ _ ?_); clear hK1
  refine Tri.seq fun K2 hK2 => ?_
  refine Tri.region ?_
  refine st (OK1.call (zint_Of) (.cons (Has.cI 3 rfl) .nil)) rfl ?_
  refine st (OK1.call (zint_Of) (.cons (Has.cI 7 rfl) .nil)) rfl ?_
  refine st (OK1.eq (OK1.call (modn_Inverse (by first | with_reducible assumption | omega | (simp only [val_words, zv_nf]; omega) | (simp only [val_words, zv_nf, Int.natAbs_natCast]; omega) | (simp only [val_words]; exact Nat.le_trans (nw_small' (by omega)) (by decide))) (by first | with_reducible assumption | omega | (simp only [val_words, zv_nf]; omega) | (simp only [val_words, zv_nf, Int.natAbs_natCast]; omega) | (simp only [val_words]; exact Nat.le_trans (nw_small' (by omega)) (by decide)))) (.cons (Has.t rfl) (.cons (Has.t rfl) .nil))) ((by simp only [zv_nf]; rw [if_pos (show (0 : Int) < 7 ∧ Nat.gcd (3 : Int).natAbs (7 : Int).natAbs = 1 by decide), hv]))) rfl ?_
  refine st (OK1.mv (Has.t rfl)) rfl ?_
  refine st (OK1.ext (Has.t rfl) rfl) rfl ?_
  refine st (OK1.ext (Has.t rfl) rfl) rfl ?_
  refine Ops.alloc [isB false, SlM isU []] zero27 (fun _ _ => ⟨rfl, nilM _ _, trivial⟩) rfl fun b1 => ?_
  refine Ops.store (Has.t rfl) (Has.t rfl) (i := 0) rfl ty27 rfl rfl (Ss' := [_, _]) rfl (M' := [(some _, cellM [_, _])]) rfl ?_
  refine st (OK1.as (Has.t rfl)) rfl ?_
  refine nl ?_
  refine At.thn (hK2 _ _ ?_); clear hK2
  refine Tri.cv (Cv.wk (.cons (t := 0) (Has.t rfl) (.cons (t := 1) (Has.t rfl) (.cons (t := 2) (Has.t rfl) .nil)))) ?_
  refine Tri.seq fun K3 hK3 => ?_
  refine Tri.dr ?_
  refine DrG.st (i := 0) [] rfl rfl rfl (by kernel_rfl) (OKG.o rfl (OK1.mv (Has.t rfl))) ?_
  refine DrG.st (i := 1) [9] rfl rfl rfl (by kernel_rfl) (OKG.o rfl (OK1.mv (Has.t rfl))) ?_
  refine DrG.st (i := 2) [10] rfl rfl rfl (by kernel_rfl) (OKG.T rfl rfl rfl (fun hg => have hg' := BP.t hg; OK1.load (Has.t rfl) (i := 0) rfl ty27 rfl (Ss' := [_, _]) rfl)) ?_
  refine DrG.st (i := 3) [10] rfl rfl rfl (by kernel_rfl) (OKG.T rfl rfl rfl (fun hg => have hg' := BP.t hg; OK1.call (zint_Of) (.cons (Has.cI 5 rfl) .nil))) ?_
  refine DrG.fin (n := 4) mixed (by kernel_rfl) (by kernel_rfl) (by kernel_rfl) ?_
  refine Ops.cv (Cv.wk (.cons (t := 0) (Has.t rfl) (.cons (t := 1) (Has.t rfl) (.cons (t := 10) (Has.t rfl) (.cons (t := 11) (Has.t rfl) (.cons (t := 12) (Has.t rfl) .nil)))))) ?_
  refine stT rfl rfl (fun hg => have hg' := BP.t hg; OK1.eq (OK1.call (zint_Same (by first | with_reducible assumption | omega | (simp only [val_words, zv_nf]; omega) | (simp only [val_words, zv_nf, Int.natAbs_natCast]; omega) | (simp only [val_words]; exact Nat.le_trans (nw_small' (by omega)) (by decide))) (by first | with_reducible assumption | omega | (simp only [val_words, zv_nf]; omega) | (simp only [val_words, zv_nf, Int.natAbs_natCast]; omega) | (simp only [val_words]; exact Nat.le_trans (nw_small' (by omega)) (by decide)))) (.cons (Has.g rfl hg) (.cons (Has.g rfl hg) .nil))) (by first | (simp only [val_words, zv_nf]; rfl) | rfl)) rfl ?_
  refine st (OK1.pickAnd (Has.t rfl) (fun h => Has.g rfl h)) rfl ?_
  refine st (OK1.mv (Has.t rfl)) rfl ?_
  refine stT rfl rfl (fun hg => have hg' := BP.t hg; OK1.load (Has.t rfl) (i := 0) rfl ty27 rfl (Ss' := [_, _]) rfl) rfl ?_
  refine stT rfl rfl (fun hg => have hg' := BP.t hg; OK1.eq (OK1.call (zint_Sign (by first | with_reducible assumption | omega | (simp only [val_words, zv_nf]; omega) | (simp only [val_words, zv_nf, Int.natAbs_natCast]; omega) | (simp only [val_words]; exact Nat.le_trans (nw_small' (by omega)) (by decide)))) (.cons (Has.g rfl hg) .nil)) (by first | (simp only [val_words, zv_nf]; rfl) | rfl)) rfl ?_
  refine stT rfl rfl (fun hg => have hg' := BP.t hg; OK1.eqI (Has.g rfl hg) (Has.cI 1 rfl)) rfl ?_
  refine st (OK1.pickAnd (Has.t rfl) (fun h => Has.g rfl h)) rfl ?_
  refine st (OK1.as (Has.t rfl)) rfl ?_
  refine nl ?_
  refine At.thn (hK3 _ _ ?_); clear hK3
  refine Tri.cv (Cv.wk (.cons (t := 0) (Has.t rfl) .nil)) ?_
  refine Tri.ret ?_
  refine rt1 (.inl rfl) Try.results4 rfl (.tmp (Has.t' rfl ?_) .nil)
  all_goals (exact isB_eq (by decide))
end Go.Proofs.Ytbnhdbchoghkfaa
/- Contracts: what two classes have in common. -/
namespace Go.Proofs.Ytbnhdbchoghkfaa
open Go.En Go.RowKit
set_option linter.unusedVariables false
set_option maxRecDepth 10000
open Go.Nt
open Go.Pz
/-- what two classes have in common -/
def okC (c d : ((Bool × List Nat) × Bool × List Nat)) : Prop := Go.Cr.G (zv c.2.1 c.2.2) (zv d.2.1 d.2.2) ∣ zv d.1.1 d.1.2 - zv c.1.1 c.1.2
instance (c d : ((Bool × List Nat) × Bool × List Nat)) : Decidable (okC c d) := inferInstanceAs (Decidable (_ ∣ _))
def meetC (c d : ((Bool × List Nat) × Bool × List Nat)) : ((Bool × List Nat) × Bool × List Nat) := if okC c d then (nz (Go.Cr.mR (zv c.1.1 c.1.2) (zv c.2.1 c.2.2) (zv d.1.1 d.1.2) (zv d.2.1 d.2.2)), nz (Go.Cr.mM (zv c.2.1 c.2.2) (zv d.2.1 d.2.2))) else (nz 0, nz 0)
theorem tmod_dvd {g D : Int} (h : 0 < g) : (g ≠ 0 ∧ D.tmod g = 0) ↔ g ∣ D := ⟨fun e => Int.dvd_of_tmod_eq_zero e.2, fun e => ⟨by omega, Int.tmod_eq_zero_of_dvd e⟩⟩
set_option maxHeartbeats 4000000 in
theorem class_meet {c d : ((Bool × List Nat) × Bool × List Nat)} (h1 : 0 < zv c.2.1 c.2.2) (h2 : 0 < zv d.2.1 d.2.2) (hx1 : (List.length (words (val c.1.2))) ≤ 20000000) (hx2 : (List.length (words (val c.2.2))) ≤ 20000000) (hx3 : (List.length (words (val d.1.2))) ≤ 20000000) (hx4 : (List.length (words (val d.2.2))) ≤ 20000000) : Ctr Try.prog 20 [Flat [isB c.1.1, isWords c.1.2, isB c.2.1, isWords c.2.2], Flat [isB d.1.1, isWords d.1.2, isB d.2.1, isWords d.2.2]] (isTup [Flat (rc (meetC c d)), isB (decide (okC c d))]) := by
  refine Ctr.intro Try.func20 rfl (by kernel_rfl) Try.ntmps20 rfl fun w0 F0 => ?_
  refine Tri.cv (Cv.wk (.cons (t := 0) (Has.t rfl) (.cons (t := 1) (Has.t rfl) .nil))) ?_
  have ha := zv_nw c.1.1 c.1.2
  have hb := zv_nw c.2.1 c.2.2
  have hc := zv_nw d.1.1 d.1.2
  have hd := zv_nw d.2.1 d.2.2
  obtain ⟨m1, hm1⟩ : ∃ m1, m1 = zv c.2.1 c.2.2 := ⟨_, rfl⟩
  obtain ⟨m2, hm2⟩ : ∃ m2, m2 = zv d.2.1 d.2.2 := ⟨_, rfl⟩
  obtain ⟨r1, hr1⟩ : ∃ r1, r1 = zv c.1.1 c.1.2 := ⟨_, rfl⟩
  obtain ⟨r2, hr2⟩ : ∃ r2, r2 = zv d.1.1 d.1.2 := ⟨_, rfl⟩
  have hok : okC c d ↔ Go.Cr.G m1 m2 ∣ r2 - r1 := by unfold okC; rw [hm1, hm2, hr1, hr2]
  have hmt : meetC c d = if okC c d then (nz (Go.Cr.mR r1 m1 r2 m2), nz (Go.Cr.mM m1 m2)) else (nz 0, nz 0) := by unfold meetC; rw [hm1, hm2, hr1, hr2]
  rw [← hm1] at h1 hb
  rw [← hm2] at h2 hd
  rw [← hr1] at ha
  rw [← hr2] at hc
  obtain ⟨g, hg⟩ : ∃ g : Int, g = Go.Cr.G m1 m2 := ⟨_, rfl⟩
  have hg0 : 0 < g := by rw [hg]; exact Go.Cr.G_pos h1
  have hgw : (List.length (words g.natAbs)) ≤ 20000000 := by rw [hg]; show (List.length (words (((Nat.gcd m1.natAbs m2.natAbs : Nat) : Int)).natAbs)) ≤ _; rw [Int.natAbs_natCast]; exact Nat.le_trans (nw_mono (Nat.le_of_dvd (by omega) (Nat.gcd_dvd_left _ _))) (by omega)
  obtain ⟨x, hx⟩ : ∃ x, x = xg m1 m2 := ⟨_, rfl⟩
  have hxw : (List.length (words x.natAbs)) ≤ 20000000 := by rw [hx]; exact Nat.le_trans (nw_mono (xg_le (by omega))) (by omega)
  obtain ⟨D, hD⟩ : ∃ D, D = r2 - r1 := ⟨_, rfl⟩
  have hDw : (List.length (words D.natAbs)) ≤ 20000000 + 1 := by have := nz_sub r2 r1; rw [hD]; omega
  have htd := tmod_dvd (D := D) hg0
  obtain ⟨s, hs⟩ : ∃ s : Int, s = if g ≠ 0 ∧ D.tmod g = 0 then D.tdiv g else 0 := ⟨_, rfl⟩
  have hsw : (List.length (words s.natAbs)) ≤ 20000000 + 1 := by
    rw [hs]; split
    · have := nz_tdiv D g; omega
    · rw [Int.natAbs_zero, words_zero]; exact Nat.zero_le _
  have hv1 : g ≠ 0 ∧ m2.tmod g = 0 := (tmod_dvd hg0).2 (hg ▸ Go.Cr.G_right m1 m2)
  obtain ⟨v, hv⟩ : ∃ v : Int, v = m2.tdiv g := ⟨_, rfl⟩
  have hvw : (List.length (words v.natAbs)) ≤ 20000000 := by rw [hv]; have := nz_tdiv m2 g; omega
  have hv0 : 0 < v := by rw [hv, hg]; exact Go.Cr.mBy_pos h1 h2
  have hmul := nz_mul s x
  obtain ⟨k, hk⟩ : ∃ k : Int, k = s * x % v := ⟨_, rfl⟩
  have hkw : (List.length (words k.natAbs)) ≤ 20000000 := by rw [hk]; exact Nat.le_trans (nz_le (Int.emod_nonneg _ (by omega)) (Int.le_of_lt (Int.emod_lt_of_pos _ hv0))) hvw
  obtain ⟨M, hM⟩ : ∃ M : Int, M = m1 * v := ⟨_, rfl⟩
  have hM0 : 0 < M := by rw [hM]; exact Int.mul_pos h1 hv0
  have hMw : (List.length (words M.natAbs)) ≤ 2 * 20000000 := by rw [hM]; have := nz_mul m1 v; omega
  have hmk := nz_mul m1 k
  have hpl := nz_add r1 (m1 * k)
  refine Tri.seq fun K1 hK1 => ?_
  refine Tri.region ?_
  refine Ops.box (Has.t rfl) rfl fun b1 => ?_
  refine Ops.box (Has.t rfl) rfl fun b2 => ?_
  refine Ops.alloc [isB false, SlM isU [], isB false, SlM isU []] zero41 (fun _ _ => ⟨rfl, nilM _ _, rfl, nilM _ _, trivial⟩) rfl fun b3 => ?_
  refine st (OK1.as (Has.cB false)) rfl ?_
  refine nl ?_
  refine At.thn (hK1 _ _ ?_); clear hK1
  refine Tri.seq fun K2 hK2 => ?_
  refine Tri.region ?_
  refine st (OK1.fieldAddr (Has.t rfl) fld41_1 ty27) rfl ?_
  refine st (OK1.load (Has.t rfl) (i := 2) rfl ty27 rfl (Ss' := [_, _]) rfl) rfl ?_
  refine st (OK1.fieldAddr (Has.t rfl) fld41_1 ty27) rfl ?_
  refine st (OK1.load (Has.t rfl) (i := 1) rfl ty27 rfl (Ss' := [_, _]) rfl) rfl ?_
  refine st (OK1.eq (OK1.call (zint_Xgcd (by omega) (by omega) (by rw [← hm2]; omega)) (.cons (Has.t rfl) (.cons (Has.t rfl) .nil))) ((by rw [← hm1, ← hm2, ← hx, show ((Nat.gcd m1.natAbs m2.natAbs : Nat) : Int) = g from hg.symm]))) rfl ?_
  refine st (OK1.mv (Has.t rfl)) rfl ?_
  refine st (OK1.ext (Has.t rfl) rfl) rfl ?_
  refine st (OK1.ext (Has.t rfl) rfl) rfl ?_
  refine st (OK1.ext (Has.t rfl) rfl) rfl ?_
  refine Ops.alloc [isB false, SlM isU []] zero27 (fun _ _ => ⟨rfl, nilM _ _, trivial⟩) rfl fun b4 => ?_
  refine Ops.alloc [isB false, SlM isU []] zero27 (fun _ _ => ⟨rfl, nilM _ _, trivial⟩) rfl fun b5 => ?_
  refine Ops.alloc [isB false, SlM isU []] zero27 (fun _ _ => ⟨rfl, nilM _ _, trivial⟩) rfl fun b6 => ?_
  refine Ops.store (Has.t rfl) (Has.t rfl) (i := 2) rfl ty27 rfl rfl (Ss' := [_, _]) rfl (M' := [_, _, (some _, cellM [_, _]), _, _, _]) rfl ?_
  refine Ops.store (Has.t rfl) (Has.t rfl) (i := 1) rfl ty27 rfl rfl (Ss' := [_, _]) rfl (M' := [_, (some _, cellM [_, _]), _, _, _, _]) rfl ?_
  refine Ops.store (Has.t rfl) (Has.t rfl) (i := 0) rfl ty27 rfl rfl (Ss' := [_, _]) rfl (M' := [(some _, cellM [_, _]), _, _, _, _, _]) rfl ?_
  refine nl ?_
  refine At.thn (hK2 _ _ ?_); clear hK2
  refine Tri.cv (Cv.wk (.cons (t := 2) (Has.t rfl) (.cons (t := 3) (Has.t rfl) (.cons (t := 4) (Has.t rfl) (.cons (t := 5) (Has.t rfl) (.cons (t := 6) (Has.t rfl) (.cons (t := 7) (Has.t rfl) .nil))))))) ?_
  refine Tri.seq fun K3 hK3 => ?_
  refine Tri.drh [true, true, true, true, true, true] (Ms := [_, _, _, _, _, _]) rfl ?_
  refine DrH.st (i := 0) [] rfl rfl rfl (by kernel_rfl) (OKG.o rfl (OK1.fieldAddr (Has.t rfl) fld41_0 ty27)) ?_
  refine DrH.st (i := 1) [25] rfl rfl rfl (by kernel_rfl) (OKG.o rfl (OK1.load (Has.t rfl) (i := 4) rfl ty27 rfl (Ss' := [_, _]) rfl)) ?_
  refine DrH.st (i := 2) [] rfl rfl rfl (by kernel_rfl) (OKG.o rfl (OK1.fieldAddr (Has.t rfl) fld41_0 ty27)) ?_
  refine DrH.st (i := 3) [27] rfl rfl rfl (by kernel_rfl) (OKG.o rfl (OK1.load (Has.t rfl) (i := 5) rfl ty27 rfl (Ss' := [_, _]) rfl)) ?_
  refine DrH.st (i := 4) [26, 28] rfl rfl rfl (by kernel_rfl) (OKG.o rfl (OK1.eq (OK1.call (zint_Sub (by omega) (by omega)) (.cons (Has.t rfl) (.cons (Has.t rfl) .nil))) ((show isZ _ = isZ (D) from isZ_eq (by rw [hD, hr1, hr2]))))) ?_
  refine DrH.st (i := 5) [] rfl rfl rfl (by kernel_rfl) (OKG.o rfl (OK1.load (Has.t rfl) (i := 2) rfl ty27 rfl (Ss' := [_, _]) rfl)) ?_
  refine DrH.st (i := 6) [29, 30] rfl rfl rfl (by kernel_rfl) (OKG.o rfl (OK1.eq (OK1.call (zint_Exact (by first | omega | (rw [val_words]; omega)) (by first | omega | (rw [val_words]; omega))) (.cons (Has.t rfl) (.cons (Has.t rfl) .nil))) ((show isTup [isZ _, isB _] = isTup [isZ s, isB (decide (g ≠ 0 ∧ D.tmod g = 0))] from by simp only [zv_nf]; rw [hs])))) ?_
  refine DrH.st (i := 7) [31] rfl rfl rfl (by kernel_rfl) (OKG.o rfl (OK1.mv (Has.t rfl))) ?_
  refine DrH.st (i := 8) [24] rfl rfl rfl (by kernel_rfl) (OKG.o rfl (OK1.ext (Has.t rfl) rfl)) ?_
  refine DrH.st (i := 9) [24] rfl rfl rfl (by kernel_rfl) (OKG.o rfl (OK1.ext (Has.t rfl) rfl)) ?_
  refine DrH.als2 (n1 := 11) (ds := [9]) (zs := [[isB false, SlM isU []]]) rfl (.cons rfl rfl zero27 (fun _ _ => ⟨rfl, nilM _ _, trivial⟩) .nil) (.cons_cons _ (.cons_cons _ (.cons_cons _ (.cons_cons _ (.cons_cons _ (.cons_cons _ .slnil)))))) (Cs := [_]) rfl ?_
  refine DrN2.new [32] 0 (Ss' := [_, _]) (Cs' := [cellM [_, _]]) rfl (by kernel_rfl) (by kernel_rfl) rfl rfl rfl (by kernel_rfl) rfl (Has.t rfl) ty27 rfl rfl rfl rfl ?_
  refine DrN2.fin (n := 12) mixed rfl (by kernel_rfl) (by kernel_rfl) (by kernel_rfl) (fun bs hbs => ?_)
  obtain ⟨b7, rfl⟩ := len1 hbs
  refine Ops.memEq (M' := [_, _, _, _, _, _, _]) rfl ?_
  refine Ops.cv (Cv.wk (.cons (t := 2) (Has.t rfl) (.cons (t := 3) (Has.t rfl) (.cons (t := 4) (Has.t rfl) (.cons (t := 5) (Has.t rfl) (.cons (t := 6) (Has.t rfl) (.cons (t := 7) (Has.t rfl) (.cons (t := 33) (Has.t rfl) (.cons (t := 9) (Has.op rfl) .nil))))))))) ?_
  refine st (OK1.as (Has.t rfl)) rfl ?_
  refine nl ?_
  refine At.thn (hK3 _ _ ?_); clear hK3
  refine Tri.seq fun K4 hK4 => ?_
  refine Tri.seq fun K5 hK5 => ?_
  refine Tri.region ?_
  refine st (OK1.mv (Has.t rfl)) rfl ?_
  refine st (OK1.not (Has.t rfl)) rfl ?_
  refine nl ?_
  refine At.thn (hK5 _ _ ?_); clear hK5
  refine Tri.cond (Has.t rfl) (fun hc1 => ?_) (fun hc1 => ?_)
  · have hc1 := BP.t hc1
    have hN : ¬ okC c d := fun e => hc1 ((tmod_dvd hg0).2 (by rw [hg, hD]; exact hok.1 e))
    rw [if_neg hN] at hmt
    refine Tri.seq fun K6 hK6 => ?_
    refine Tri.region ?_
    refine st (OK1.build [isB false, SlM isU [], isB false, SlM isU []] pl41 zero41 (fun _ _ => ⟨rfl, nilM _ _, rfl, nilM _ _, trivial⟩) .nil (Z'' := [_, _, _, _]) rfl) rfl ?_
    refine Ops.store (Has.t rfl) (Has.t rfl) (i := 4) rfl ty41 rfl rfl (Ss' := [_, _, _, _]) rfl (M' := [_, _, _, _, (some _, cellM [_, _, _, _]), _, _]) rfl ?_
    refine st (OK1.as (Has.cB false)) rfl ?_
    refine nl ?_
    refine At.thn (hK6 _ _ ?_); clear hK6
    refine Tri.cv (Cv.wk (.cons (t := 2) (Has.t rfl) (.cons (t := 3) (Has.t rfl) (.cons (t := 4) (Has.t rfl) (.cons (t := 5) (Has.t rfl) (.cons (t := 6) (Has.t rfl) (.cons (t := 7) (Has.t rfl) (.cons (t := 9) (Has.t rfl) .nil)))))))) ?_
    refine Tri.ret ?_
    refine At.thr ?_
    refine rtN (.inl rfl) Try.results20 rfl rfl (.cell rfl (i := 4) rfl ty41 rfl ?_ (.tmp (Has.t' rfl ?_) .nil))
    · rw [hmt, nz_zero]
    · exact isB_eq (decide_eq_false hN).symm
  · have hc1 := BP.f hc1
    have hY : okC c d := hok.2 (by rw [← hg, ← hD]; exact (tmod_dvd hg0).1 hc1)
    have hsv : s = D.tdiv g := by rw [hs, if_pos hc1]
    have hkk : k = Go.Cr.mK r1 m1 r2 m2 := by rw [hk, hsv, hD, hg, hx, hv, hg]; rfl
    have hMM : M = Go.Cr.mM m1 m2 := by rw [hM, hv, hg]; rfl
    have hRR : (r1 + m1 * k) % M = Go.Cr.mR r1 m1 r2 m2 := by rw [hkk, hMM]; rfl
    rw [if_pos hY] at hmt
    refine Tri.skip ?_
    refine At.thn (hK4 _ _ ?_); clear hK4
    refine Tri.seq fun K7 hK7 => ?_
    refine Tri.region ?_
    refine st (OK1.fieldAddr (Has.t rfl) fld41_1 ty27) rfl ?_
    refine st (OK1.load (Has.t rfl) (i := 5) rfl ty27 rfl (Ss' := [_, _]) rfl) rfl ?_
    refine st (OK1.load (Has.t rfl) (i := 3) rfl ty27 rfl (Ss' := [_, _]) rfl) rfl ?_
    refine st (OK1.eq (OK1.call (zint_Exact (by first | omega | (rw [val_words]; omega)) (by first | omega | (rw [val_words]; omega))) (.cons (Has.t rfl) (.cons (Has.t rfl) .nil))) ((show isTup [isZ _, isB _] = isTup [isZ v, isB true] from by simp only [zv_nf]; rw [← hm2, if_pos hv1, decide_eq_true hv1, hv]))) rfl ?_
    refine st (OK1.mv (Has.t rfl)) rfl ?_
    refine st (OK1.ext (Has.t rfl) rfl) rfl ?_
    refine st (OK1.ext (Has.t rfl) rfl) rfl ?_
    refine Ops.alloc [isB false, SlM isU []] zero27 (fun _ _ => ⟨rfl, nilM _ _, trivial⟩) rfl fun b8 => ?_
    refine Ops.store (Has.t rfl) (Has.t rfl) (i := 0) rfl ty27 rfl rfl (Ss' := [_, _]) rfl (M' := [(some _, cellM [_, _]), _, _, _, _, _, _, _]) rfl ?_
    refine st (OK1.as (Has.t rfl)) rfl ?_
    refine nl ?_
    refine At.thn (hK7 _ _ ?_); clear hK7
    refine Tri.cv (Cv.wk (.cons (t := 2) (Has.t rfl) (.cons (t := 4) (Has.t rfl) (.cons (t := 5) (Has.t rfl) (.cons (t := 7) (Has.t rfl) (.cons (t := 9) (Has.t rfl) (.cons (t := 11) (Has.t rfl) .nil))))))) ?_
    refine Tri.seq fun K8 hK8 => ?_
    refine Tri.drh [true, true, true, true, true, true, true, true] (Ms := [_, _, _, _, _, _, _, _]) rfl ?_
    refine DrH.st (i := 0) [] rfl rfl rfl (by kernel_rfl) (OKG.o rfl (OK1.load (Has.t rfl) (i := 1) rfl ty27 rfl (Ss' := [_, _]) rfl)) ?_
    refine DrH.st (i := 1) [] rfl rfl rfl (by kernel_rfl) (OKG.o rfl (OK1.load (Has.t rfl) (i := 3) rfl ty27 rfl (Ss' := [_, _]) rfl)) ?_
    refine DrH.st (i := 2) [44, 45] rfl rfl rfl (by kernel_rfl) (OKG.o rfl (OK1.eq (OK1.call (zint_Mul (by first | omega | (rw [val_words]; omega)) (by first | omega | (rw [val_words]; omega))) (.cons (Has.t rfl) (.cons (Has.t rfl) .nil))) ((show isZ _ = isZ (s * x) from isZ_eq (by simp only [zv_nf]))))) ?_
    refine DrH.st (i := 3) [] rfl rfl rfl (by kernel_rfl) (OKG.o rfl (OK1.load (Has.t rfl) (i := 0) rfl ty27 rfl (Ss' := [_, _]) rfl)) ?_
    refine DrH.st (i := 4) [46, 47] rfl rfl rfl (by kernel_rfl) (OKG.o rfl (OK1.eq (OK1.call (modn_rest (by first | omega | (rw [val_words]; omega)) (by first | omega | (rw [val_words]; omega)) (by rw [zv_nf]; exact hv0)) (.cons (Has.t rfl) (.cons (Has.t rfl) .nil))) ((show isZ _ = isZ (k) from isZ_eq (by simp only [zv_nf]; exact hk.symm))))) ?_
    refine DrH.als2 (n1 := 6) (ds := [13]) (zs := [[isB false, SlM isU []]]) rfl (.cons rfl rfl zero27 (fun _ _ => ⟨rfl, nilM _ _, trivial⟩) .nil) (.cons_cons _ (.cons_cons _ (.cons_cons _ (.cons_cons _ (.cons_cons _ (.cons_cons _ (.cons_cons _ (.cons_cons _ .slnil)))))))) (Cs := [_]) rfl ?_
    refine DrN2.fin (n := 6) mixed rfl (by kernel_rfl) (by kernel_rfl) (by kernel_rfl) (fun bs hbs => ?_)
    obtain ⟨b9, rfl⟩ := len1 hbs
    refine Ops.memEq (M' := [_, _, _, _, _, _, _, _, _]) rfl ?_
    refine Ops.cv (Cv.wk (.cons (t := 2) (Has.t rfl) (.cons (t := 4) (Has.t rfl) (.cons (t := 5) (Has.t rfl) (.cons (t := 11) (Has.t rfl) (.cons (t := 48) (Has.t rfl) (.cons (t := 13) (Has.op rfl) .nil))))))) ?_
    refine Ops.store (Has.t rfl) (Has.t rfl) (i := 0) rfl ty27 rfl rfl (Ss' := [_, _]) rfl (M' := [(some _, cellM [_, _]), _, _, _, _, _, _, _, _]) rfl ?_
    refine nl ?_
    refine At.thn (hK8 _ _ ?_); clear hK8
    refine Tri.seq fun K9 hK9 => ?_
    refine Tri.region ?_
    refine st (OK1.fieldAddr (Has.t rfl) fld41_1 ty27) rfl ?_
    refine st (OK1.load (Has.t rfl) (i := 8) rfl ty27 rfl (Ss' := [_, _]) rfl) rfl ?_
    refine st (OK1.load (Has.t rfl) (i := 1) rfl ty27 rfl (Ss' := [_, _]) rfl) rfl ?_
    refine st (OK1.eq (OK1.call (zint_Mul (by first | omega | (rw [val_words]; omega)) (by first | omega | (rw [val_words]; omega))) (.cons (Has.t rfl) (.cons (Has.t rfl) .nil))) ((show isZ _ = isZ (M) from isZ_eq (by simp only [zv_nf]; rw [← hm1]; exact hM.symm)))) rfl ?_
    refine Ops.alloc [isB false, SlM isU []] zero27 (fun _ _ => ⟨rfl, nilM _ _, trivial⟩) rfl fun b10 => ?_
    refine Ops.store (Has.t rfl) (Has.t rfl) (i := 0) rfl ty27 rfl rfl (Ss' := [_, _]) rfl (M' := [(some _, cellM [_, _]), _, _, _, _, _, _, _, _, _]) rfl ?_
    refine nl ?_
    refine At.thn (hK9 _ _ ?_); clear hK9
    refine Tri.cv (Cv.wk (.cons (t := 2) (Has.t rfl) (.cons (t := 4) (Has.t rfl) (.cons (t := 5) (Has.t rfl) (.cons (t := 13) (Has.t rfl) (.cons (t := 14) (Has.t rfl) .nil)))))) ?_
    refine Tri.seq fun K10 hK10 => ?_
    refine Tri.dr ?_
    refine DrG.st (i := 0) [] rfl rfl rfl (by kernel_rfl) (OKG.o rfl (OK1.fieldAddr (Has.t rfl) fld41_0 ty27)) ?_
    refine DrG.st (i := 1) [53] rfl rfl rfl (by kernel_rfl) (OKG.o rfl (OK1.load (Has.t rfl) (i := 9) rfl ty27 rfl (Ss' := [_, _]) rfl)) ?_
    refine DrG.st (i := 2) [] rfl rfl rfl (by kernel_rfl) (OKG.o rfl (OK1.fieldAddr (Has.t rfl) fld41_1 ty27)) ?_
    refine DrG.st (i := 3) [55] rfl rfl rfl (by kernel_rfl) (OKG.o rfl (OK1.load (Has.t rfl) (i := 9) rfl ty27 rfl (Ss' := [_, _]) rfl)) ?_
    refine DrG.st (i := 4) [] rfl rfl rfl (by kernel_rfl) (OKG.o rfl (OK1.load (Has.t rfl) (i := 1) rfl ty27 rfl (Ss' := [_, _]) rfl)) ?_
    refine DrG.st (i := 5) [56, 57] rfl rfl rfl (by kernel_rfl) (OKG.o rfl (OK1.eq (OK1.call (zint_Mul (by first | omega | (rw [val_words]; omega)) (by first | omega | (rw [val_words]; omega))) (.cons (Has.t rfl) (.cons (Has.t rfl) .nil))) ((show isZ _ = isZ (m1 * k) from isZ_eq (by simp only [zv_nf]; rw [← hm1]))))) ?_
    refine DrG.st (i := 6) [54, 58] rfl rfl rfl (by kernel_rfl) (OKG.o rfl (OK1.eq (OK1.call (zint_Add (by first | omega | (rw [val_words]; omega)) (by first | omega | (rw [val_words]; omega))) (.cons (Has.t rfl) (.cons (Has.t rfl) .nil))) ((show isZ _ = isZ (r1 + m1 * k) from isZ_eq (by simp only [zv_nf]; rw [← hr1]))))) ?_
    refine DrG.st (i := 7) [] rfl rfl rfl (by kernel_rfl) (OKG.o rfl (OK1.load (Has.t rfl) (i := 0) rfl ty27 rfl (Ss' := [_, _]) rfl)) ?_
    refine DrG.st (i := 8) [59, 60] rfl rfl rfl (by kernel_rfl) (OKG.o rfl (OK1.eq (OK1.call (modn_rest (by first | omega | (rw [val_words]; omega)) (by first | omega | (rw [val_words]; omega)) (by rw [zv_nf]; exact hM0)) (.cons (Has.t rfl) (.cons (Has.t rfl) .nil))) ((show isZ _ = isZ ((r1 + m1 * k) % M) from isZ_eq (by simp only [zv_nf]))))) ?_
    refine DrG.st (i := 9) [] rfl rfl rfl (by kernel_rfl) (OKG.o rfl (OK1.load (Has.t rfl) (i := 0) rfl ty27 rfl (Ss' := [_, _]) rfl)) ?_
    refine DrG.fin (n := 10) mixed (by kernel_rfl) (by kernel_rfl) (by kernel_rfl) ?_
    refine Ops.cv (Cv.wk (.cons (t := 4) (Has.t rfl) (.cons (t := 5) (Has.t rfl) (.cons (t := 61) (Has.t rfl) (.cons (t := 62) (Has.t rfl) .nil))))) ?_
    refine st (OK1.build [isB false, SlM isU [], isB false, SlM isU []] pl41 zero41 (fun _ _ => ⟨rfl, nilM _ _, rfl, nilM _ _, trivial⟩) (.cons (Has.t rfl) rfl rfl rfl (.cons (Has.t rfl) rfl rfl rfl .nil)) (Z'' := [_, _, _, _]) rfl) rfl ?_
    refine Ops.store (Has.t rfl) (Has.t rfl) (i := 7) rfl ty41 rfl rfl (Ss' := [_, _, _, _]) rfl (M' := [_, _, _, _, _, _, _, (some _, cellM [_, _, _, _]), _, _]) rfl ?_
    refine st (OK1.as (Has.cB true)) rfl ?_
    refine nl ?_
    refine At.thn (hK10 _ _ ?_); clear hK10
    refine Tri.ret ?_
    refine rtN (.inl rfl) Try.results20 rfl rfl (.cell rfl (i := 7) rfl ty41 rfl ?_ (.tmp (Has.t' rfl ?_) .nil))
    · rw [hmt, ← hRR, ← hMM]
    · exact isB_eq (decide_eq_true hY).symm
end Go.Proofs.Ytbnhdbchoghkfaa
/- Contracts: what many classes have in common. -/
namespace Go.Proofs.Ytbnhdbchoghkfaa
open Go.En Go.RowKit
set_option linter.unusedVariables false
set_option maxRecDepth 10000
open Go.Nt
open Go.Pz
abbrev zi (xs : List (Bool × List Nat)) (i : Nat) : Int := zv (xs.getD i (false, [])).1 (xs.getD i (false, [])).2
abbrev rz (c : ((Bool × List Nat) × Bool × List Nat)) : Int := zv c.1.1 c.1.2
abbrev mz (c : ((Bool × List Nat) × Bool × List Nat)) : Int := zv c.2.1 c.2.2
/-- classes in one form, of which a number is in all just if it is one that is meant -/
def CI (P : Int → Prop) (L : Int) (cs : List ((Bool × List Nat) × Bool × List Nat)) : Prop := (∀ c ∈ cs, c = (nz (rz c), nz (mz c)) ∧ 0 < mz c ∧ 0 ≤ rz c ∧ rz c < mz c ∧ mz c ∣ L) ∧ ∀ x, (∀ c ∈ cs, mz c ∣ x - rz c) ↔ P x
theorem CI.perm {P : Int → Prop} {L : Int} {cs cs' : List ((Bool × List Nat) × Bool × List Nat)} (h : CI P L cs) (p : cs'.Perm cs) : CI P L cs' :=
  ⟨fun c hc => h.1 c (p.mem_iff.1 hc), fun x => ⟨fun g => (h.2 x).1 fun c hc => g c (p.mem_iff.2 hc), fun g c hc => (h.2 x).2 g c (p.mem_iff.1 hc)⟩⟩
theorem CI.size {P : Int → Prop} {L : Int} {cs : List ((Bool × List Nat) × Bool × List Nat)} (h : CI P L cs) (h0 : 0 < L) (hw : (List.length (words L.natAbs)) ≤ 20000000) {c : ((Bool × List Nat) × Bool × List Nat)} (hc : c ∈ cs) : (List.length (words (val c.1.2))) ≤ 20000000 ∧ (List.length (words (val c.2.2))) ≤ 20000000 := by
  obtain ⟨_, h1, h2, h3, h4⟩ := h.1 c hc
  have h5 := Int.le_of_dvd h0 h4
  have a : (List.length (words (rz c).natAbs)) = (List.length (words (val c.1.2))) := zv_nw c.1.1 c.1.2
  have b : (List.length (words (mz c).natAbs)) = (List.length (words (val c.2.2))) := zv_nw c.2.1 c.2.2
  have a1 := nw_mono (show (rz c).natAbs ≤ L.natAbs by omega)
  have b1 := nw_mono (show (mz c).natAbs ≤ L.natAbs by omega)
  omega
theorem CI.cb {P : Int → Prop} {L : Int} {cs : List ((Bool × List Nat) × Bool × List Nat)} (h : CI P L cs) (h0 : 0 < L) (hw : (List.length (words L.natAbs)) ≤ 20000000) : CB 100000000 cs := fun c hc => Nat.le_trans (h.size h0 hw hc).2 (by decide)
theorem CB.pop {K : Nat} {cs cs2 : List ((Bool × List Nat) × Bool × List Nat)} {a : ((Bool × List Nat) × Bool × List Nat)} (h : CB K cs) (p : (cs2 ++ [a]).Perm cs) : CB K cs2 := fun c hc => h c (p.mem_iff.1 (List.mem_append_left _ hc))
theorem pop_len {cs cs2 : List ((Bool × List Nat) × Bool × List Nat)} {a : ((Bool × List Nat) × Bool × List Nat)} (p : (cs2 ++ [a]).Perm cs) : cs2.length + 1 = cs.length := by
  have := p.length_eq
  rwa [List.length_append] at this
theorem CI.no {P : Int → Prop} {L : Int} {cs : List ((Bool × List Nat) × Bool × List Nat)} {a b : ((Bool × List Nat) × Bool × List Nat)} (h : CI P L (cs ++ [b] ++ [a])) (hn : ¬ okC a b) (x : Int) : ¬ P x := fun hx => by
  have g := (h.2 x).2 hx
  exact Go.Cr.meet_no hn x ⟨g a (List.mem_append_right _ (List.mem_singleton.2 rfl)), g b (List.mem_append_left _ (List.mem_append_right _ (List.mem_singleton.2 rfl)))⟩
theorem CI.meet {P : Int → Prop} {L : Int} {cs : List ((Bool × List Nat) × Bool × List Nat)} {a b : ((Bool × List Nat) × Bool × List Nat)} (h : CI P L (cs ++ [b] ++ [a])) (hy : okC a b) : CI P L (cs ++ [meetC a b]) := by
  have ha : a ∈ cs ++ [b] ++ [a] := List.mem_append_right _ (List.mem_singleton.2 rfl)
  have hb : b ∈ cs ++ [b] ++ [a] := List.mem_append_left _ (List.mem_append_right _ (List.mem_singleton.2 rfl))
  obtain ⟨_, a1, a2, a3, a4⟩ := h.1 a ha
  obtain ⟨_, b1, b2, b3, b4⟩ := h.1 b hb
  have e : meetC a b = (nz (Go.Cr.mR (rz a) (mz a) (rz b) (mz b)), nz (Go.Cr.mM (mz a) (mz b))) := if_pos hy
  have er : rz (meetC a b) = Go.Cr.mR (rz a) (mz a) (rz b) (mz b) := by rw [e]; exact zv_nf _
  have em : mz (meetC a b) = Go.Cr.mM (mz a) (mz b) := by rw [e]; exact zv_nf _
  obtain ⟨s1, s2, _, _⟩ := Go.Cr.mR_spec a1 b1 hy
  refine ⟨fun c hc => ?_, fun x => ?_⟩
  · rcases List.mem_append.1 hc with h1 | h1
    · exact h.1 c (List.mem_append_left _ (List.mem_append_left _ h1))
    · obtain rfl := List.mem_singleton.1 h1
      rw [er, em]
      exact ⟨e, Go.Cr.mM_pos a1 b1, s1, s2, Go.Cr.mM_least a1 b1 a4 b4⟩
  · rw [← h.2 x]
    have k := Go.Cr.meet_iff a1 b1 hy x
    constructor
    · intro g c hc
      have g1 := g _ (List.mem_append_right _ (List.mem_singleton.2 rfl))
      rw [er, em] at g1
      rcases List.mem_append.1 hc with h1 | h1
      · rcases List.mem_append.1 h1 with h2 | h2
        · exact g c (List.mem_append_left _ h2)
        · rw [List.mem_singleton.1 h2]; exact (k.2 g1).2
      · rw [List.mem_singleton.1 h1]; exact (k.2 g1).1
    · intro g c hc
      rcases List.mem_append.1 hc with h1 | h1
      · exact g c (List.mem_append_left _ (List.mem_append_left _ h1))
      · rw [List.mem_singleton.1 h1, er, em]; exact k.1 ⟨g a ha, g b hb⟩
theorem CI.one {P : Int → Prop} {L : Int} {cs cs2 : List ((Bool × List Nat) × Bool × List Nat)} {c : ((Bool × List Nat) × Bool × List Nat)} (h : CI P L cs) (hl : cs.length ≤ 1) (p : (cs2 ++ [c]).Perm cs) : ∃ r m : Int, c = (nz r, nz m) ∧ 0 ≤ r ∧ r < m ∧ ∀ x, m ∣ x - r ↔ P x := by
  have h1 := h.perm p
  have h2 := pop_len p
  have h3 : cs2 = [] := List.eq_nil_of_length_eq_zero (by omega)
  subst h3
  obtain ⟨a0, a1, a2, a3, _⟩ := h1.1 c (List.mem_singleton.2 rfl)
  refine ⟨rz c, mz c, a0, a2, a3, fun x => ?_⟩
  rw [← h1.2 x]
  exact ⟨fun g d hd => by rw [List.mem_singleton.1 hd]; exact g, fun g => g c (List.mem_singleton.2 rfl)⟩
/-- what is meant -/
def PR (xs ys : List (Bool × List Nat)) (n : Nat) (x : Int) : Prop := ∀ i, i < n → zi ys i ∣ x - zi xs i
def clL (xs ys : List (Bool × List Nat)) (i : Nat) : ((Bool × List Nat) × Bool × List Nat) := (nz (if 0 < zi ys i then zi xs i % zi ys i else 0), nz (zv false (ys.getD i (false, [])).2))
def csF (xs ys : List (Bool × List Nat)) (n : Nat) : List ((Bool × List Nat) × Bool × List Nat) := ((false, []), nz 1) :: (List.range n).map (clL xs ys)
theorem csF_succ (xs ys : List (Bool × List Nat)) (n : Nat) : csF xs ys (n + 1) = csF xs ys n ++ [clL xs ys n] := by
  unfold csF; rw [List.range_succ, List.map_append]; rfl
theorem csF_len (xs ys : List (Bool × List Nat)) (n : Nat) : (csF xs ys n).length = n + 1 := by
  unfold csF; rw [List.length_cons, List.length_map, List.length_range]
def LaP (ys : List (Bool × List Nat)) : Nat → Int
  | 0 => 1
  | n + 1 => LaP ys n * zi ys n
theorem LaP_pos {ys : List (Bool × List Nat)} : ∀ {n : Nat}, (∀ i, i < n → 0 < zi ys i) → 0 < LaP ys n
  | 0, _ => Int.one_pos
  | n + 1, h => Int.mul_pos (LaP_pos fun i hi => h i (by omega)) (h n (by omega))
theorem LaP_size {ys : List (Bool × List Nat)} {K : Nat} (hK : ∀ i, (List.length (words (val (ys.getD i (false, [])).2))) ≤ K) : ∀ n : Nat, (List.length (words (LaP ys n).natAbs)) ≤ 1 + n * K
  | 0 => by have := nz_one; show (List.length (words (1 : Int).natAbs)) ≤ _; omega
  | n + 1 => by
    have h1 := nz_mul (LaP ys n) (zi ys n)
    have h2 := LaP_size hK n
    have h3 : (List.length (words (zi ys n).natAbs)) = (List.length (words (val (ys.getD n (false, [])).2))) := zv_nw _ _
    have h4 := hK n
    have h5 : (n + 1) * K = n * K + K := Nat.succ_mul n K
    show (List.length (words (LaP ys n * zi ys n).natAbs)) ≤ _
    omega
theorem cl_rest {a m : Int} (h : 0 < m) (x : Int) : m ∣ x - a % m ↔ m ∣ x - a := by
  have e := Int.mul_ediv_add_emod a m
  have d : m ∣ a - a % m := ⟨a / m, by omega⟩
  constructor
  · intro g; have := Int.dvd_sub g d; rwa [show x - a % m - (a - a % m) = x - a by omega] at this
  · intro g; have := Int.dvd_add g d; rwa [show x - a + (a - a % m) = x - a % m by omega] at this
theorem csF_CI {xs ys : List (Bool × List Nat)} : ∀ {n : Nat}, (∀ i, i < n → 0 < zi ys i) → CI (PR xs ys n) (LaP ys n) (csF xs ys n)
  | 0, _ => by
    have e1 : mz (((false, []), nz 1) : ((Bool × List Nat) × Bool × List Nat)) = 1 := zv_nf 1
    have e0 : rz (((false, []), nz 1) : ((Bool × List Nat) × Bool × List Nat)) = 0 := by show zv (false, ([] : List Nat)).1 (false, []).2 = 0; rw [← nz_zero]; exact zv_nf 0
    refine ⟨fun c hc => ?_, fun x => ⟨fun _ i hi => absurd hi (Nat.not_lt_zero _), fun _ c hc => ?_⟩⟩
    · obtain rfl := List.mem_singleton.1 hc
      rw [e1, e0, nz_zero]
      exact ⟨rfl, by decide, by decide, by decide, Int.one_dvd _⟩
    · obtain rfl := List.mem_singleton.1 hc
      rw [e1]; exact Int.one_dvd _
  | n + 1, h => by
    obtain ⟨i1, i2⟩ := csF_CI (xs := xs) (n := n) fun i hi => h i (by omega)
    have hp := h n (by omega)
    have ev : zv false (ys.getD n (false, [])).2 = zi ys n := by
      have a1 : (zi ys n).natAbs = val (ys.getD n (false, [])).2 := zv_abs _ _
      have a2 := zv_abs false (ys.getD n (false, [])).2
      have a3 : 0 ≤ zv false (ys.getD n (false, [])).2 := by unfold zv; rw [if_neg (by decide)]; omega
      omega
    have em : mz (clL xs ys n) = zi ys n := by show zv (nz (zv false (ys.getD n (false, [])).2)).1 (nz (zv false (ys.getD n (false, [])).2)).2 = _; rw [ev]; exact zv_nf _
    have er : rz (clL xs ys n) = zi xs n % zi ys n := by show zv (nz (if 0 < zi ys n then zi xs n % zi ys n else 0)).1 (nz (if 0 < zi ys n then zi xs n % zi ys n else 0)).2 = _; rw [if_pos hp]; exact zv_nf _
    have ec : clL xs ys n = (nz (rz (clL xs ys n)), nz (mz (clL xs ys n))) := by rw [er, em]; unfold clL; rw [if_pos hp, ev]
    have hPL := LaP_pos (ys := ys) (n := n) fun i hi => h i (by omega)
    rw [csF_succ]
    refine ⟨fun c hc => ?_, fun x => ?_⟩
    · rcases List.mem_append.1 hc with h1 | h1
      · obtain ⟨a0, a1, a2, a3, a4⟩ := i1 c h1
        exact ⟨a0, a1, a2, a3, Int.dvd_trans a4 ⟨_, rfl⟩⟩
      · obtain rfl := List.mem_singleton.1 h1
        rw [er, em] at *
        exact ⟨ec, hp, Int.emod_nonneg _ (by omega), Int.emod_lt_of_pos _ hp, ⟨LaP ys n, Int.mul_comm _ _⟩⟩
    · constructor
      · intro g i hi
        rcases Nat.lt_or_ge i n with h1 | h1
        · exact (i2 x).1 (fun c hc => g c (List.mem_append_left _ hc)) i h1
        · obtain rfl : i = n := by omega
          have := g _ (List.mem_append_right _ (List.mem_singleton.2 rfl))
          rw [er, em] at this
          exact (cl_rest hp x).1 this
      · intro g c hc
        rcases List.mem_append.1 hc with h1 | h1
        · exact (i2 x).2 (fun i hi => g i (by omega)) c h1
        · rw [List.mem_singleton.1 h1, er, em]
          exact (cl_rest hp x).2 (g n (by omega))
/-- what is told of rests and moduli -/
def CrtR (xs ys : List (Bool × List Nat)) (r m e : Int) : Prop := (xs.length ≠ ys.length ∧ e = 2 ∧ r = 0 ∧ m = 0) ∨ xs.length = ys.length ∧ ((¬ (∀ i, i < ys.length → 0 < zi ys i) ∧ e = 1 ∧ r = 0 ∧ m = 0) ∨ (∀ i, i < ys.length → 0 < zi ys i) ∧ ((e = 10 ∧ r = 0 ∧ m = 0 ∧ ∀ x, ¬ PR xs ys ys.length x) ∨ (e = 0 ∧ 0 ≤ r ∧ r < m ∧ ∀ x, m ∣ x - r ↔ PR xs ys ys.length x)))
theorem pos_next {f : Nat → Int} {n i : Nat} (h : ∀ i, i < n → 0 < f i) (hn : 0 < f n) (hi : i < n + 1) : 0 < f i := by
  rcases Nat.lt_or_ge i n with g | g
  · exact h i g
  · obtain rfl : i = n := by omega
    exact hn
theorem perm_c3 {α : Type} (a b c p q u v : α) : [a, b, c, p, q, u, v].Perm ([p, q] ++ [a, b, c, u, v]) := by
  refine List.Perm.trans ?_ (List.perm_append_comm_assoc [a, b, c] [p, q] [u, v])
  exact List.Perm.refl _
set_option maxHeartbeats 4000000 in
theorem modn_Crt {xs ys : List (Bool × List Nat)} (hX : ∀ i, (List.length (words (val (xs.getD i (false, [])).2))) ≤ 1048576) (hY : ∀ i, (List.length (words (val (ys.getD i (false, [])).2))) ≤ 1048576) (hxl : xs.length ≤ 6) (hyl : ys.length ≤ 6) : CtrX Try.prog 5 [SlK 2 zc xs, SlK 2 zc ys] ([]) (fun S M => ∃ r m e : Int, S = isTup [isZ r, isZ m, isI e] ∧ M = [] ∧ CrtR xs ys r m e) := by
  refine CtrX.intro Try.func5 rfl (by kernel_rfl) Try.ntmps5 rfl fun w0 F0 => ?_
  refine Tri.cv (Cv.wk (.cons (t := 0) (Has.t rfl) (.cons (t := 1) (Has.t rfl) .nil))) ?_
  refine Tri.fact (Has.lenLt (Has.t (t := 0) rfl)) fun lt0 => ?_
  refine Tri.fact (Has.lenLt (Has.t (t := 1) rfl)) fun lt1 => ?_
  obtain ⟨L, hL⟩ : ∃ L, L = LaP ys ys.length := ⟨_, rfl⟩
  have hLw : (List.length (words L.natAbs)) ≤ 20000000 := by have h1 := LaP_size hY ys.length; have h2 : ys.length * 1048576 ≤ 6 * 1048576 := Nat.mul_le_mul_right _ hyl; rw [hL]; omega
  refine Tri.seq fun K1 hK1 => ?_
  refine Tri.region ?_
  refine Ops.alloc [isB false, SlM isU []] zero27 (fun _ _ => ⟨rfl, nilM _ _, trivial⟩) rfl fun b1 => ?_
  refine Ops.alloc [isB false, SlM isU []] zero27 (fun _ _ => ⟨rfl, nilM _ _, trivial⟩) rfl fun b2 => ?_
  refine st (OK1.as (Has.cI 0 rfl)) rfl ?_
  refine nl ?_
  refine At.thn (hK1 _ _ ?_); clear hK1
  refine Tri.seq fun K2 hK2 => ?_
  refine Tri.seq fun K3 hK3 => ?_
  refine Tri.region ?_
  refine st (OK1.mv (Has.t rfl)) rfl ?_
  refine st (OK1.len sl22 (Has.t rfl)) rfl ?_
  refine st (OK1.mv (Has.t rfl)) rfl ?_
  refine st (OK1.len sl22 (Has.t rfl)) rfl ?_
  refine st (OK1.neI (Has.t rfl) (Has.t rfl)) rfl ?_
  refine nl ?_
  refine At.thn (hK3 _ _ ?_); clear hK3
  refine Tri.cond (Has.t rfl) (fun hc1 => ?_) (fun hc1 => ?_)
  · have hc1 := BP.t hc1
    have hne : xs.length ≠ ys.length := by omega
    refine Tri.seq fun K4 hK4 => ?_
    refine Tri.region ?_
    refine st (OK1.build [isB false, SlM isU []] pl27 zero27 (fun _ _ => ⟨rfl, nilM _ _, trivial⟩) .nil (Z'' := [_, _]) rfl) rfl ?_
    refine st (OK1.build [isB false, SlM isU []] pl27 zero27 (fun _ _ => ⟨rfl, nilM _ _, trivial⟩) .nil (Z'' := [_, _]) rfl) rfl ?_
    refine Ops.store (Has.t rfl) (Has.t rfl) (i := 1) rfl ty27 rfl rfl (Ss' := [_, _]) rfl (M' := [_, (some _, cellM [_, _])]) rfl ?_
    refine Ops.store (Has.t rfl) (Has.t rfl) (i := 0) rfl ty27 rfl rfl (Ss' := [_, _]) rfl (M' := [(some _, cellM [_, _]), _]) rfl ?_
    refine st (OK1.as (Has.cI 2 rfl)) rfl ?_
    refine nl ?_
    refine At.thn (hK4 _ _ ?_); clear hK4
    refine Tri.cv (Cv.wk (.cons (t := 0) (Has.t rfl) (.cons (t := 1) (Has.t rfl) (.cons (t := 4) (Has.t rfl) (.cons (t := 5) (Has.t rfl) (.cons (t := 6) (Has.t rfl) .nil)))))) ?_
    refine Tri.ret ?_
    refine At.thr ?_
    refine rtXND (.cons _ (.cons _ .slnil)) (.inl rfl) Try.results5 rfl rfl (.cell rfl (i := 1) rfl ty27 rfl rfl (.cell rfl (i := 0) rfl ty27 rfl rfl (.tmp (Has.t rfl) .nil))) ?_
    exact ⟨0, 0, 2, (congrArg (fun z => isTup [z, z, isI 2]) isZ0), rfl, .inl ⟨hne, rfl, rfl, rfl⟩⟩
  · have hc1 := BP.f hc1
    have hle : xs.length = ys.length := by omega
    refine Tri.skip ?_
    refine At.thn (hK2 _ _ ?_); clear hK2
    refine Tri.cv (Cv.wk (.cons (t := 0) (Has.t rfl) (.cons (t := 1) (Has.t rfl) (.cons (t := 4) (Has.t rfl) (.cons (t := 5) (Has.t rfl) (.cons (t := 6) (Has.t rfl) .nil)))))) ?_
    refine Tri.seq fun K5 hK5 => ?_
    refine Tri.region ?_
    refine st (OK1.build [isB false, SlM isU []] pl27 zero27 (fun _ _ => ⟨rfl, nilM _ _, trivial⟩) .nil (Z'' := [_, _]) rfl) rfl ?_
    refine st (OK1.call (zint_Of) (.cons (Has.cI 1 rfl) .nil)) rfl ?_
    refine st (OK1.build [isB false, SlM isU [], isB false, SlM isU []] pl41 zero41 (fun _ _ => ⟨rfl, nilM _ _, rfl, nilM _ _, trivial⟩) (.cons (Has.t rfl) rfl rfl rfl (.cons (Has.t rfl) rfl rfl rfl .nil)) (Z'' := [_, _, _, _]) rfl) rfl ?_
    refine Ops.buildGK (fk := rc) (xs := [((false, []), nz 1)]) [isB false, SlM isU [], isB false, SlM isU []] sl43 ty41 zero41 (fun _ _ => ⟨rfl, nilM _ _, rfl, nilM _ _, trivial⟩) rfl rfl (.cons (Has.t rfl) rfl rfl rfl .nil) rfl rfl rfl rfl fun b3 => ?_
    refine Ops.memEq (M' := [grMK rc _ _, _, _]) rfl ?_
    refine Ops.box (Has.t rfl) rfl fun b4 => ?_
    refine st (OK1.as (Has.t rfl)) rfl ?_
    refine nl ?_
    refine At.thn (hK5 _ _ ?_); clear hK5
    refine Tri.cv (Cv.wk (.cons (t := 0) (Has.t rfl) (.cons (t := 1) (Has.t rfl) (.cons (t := 4) (Has.t rfl) (.cons (t := 5) (Has.t rfl) (.cons (t := 6) (Has.t rfl) (.cons (t := 7) (Has.t rfl) .nil))))))) ?_
    refine Tri.seq fun K6 hK6 => ?_
    refine Tri.seq fun K7 hK7 => ?_
    refine Tri.region ?_
    refine st (OK1.mv (Has.t rfl)) rfl ?_
    refine st (OK1.len sl22 (Has.t rfl)) rfl ?_
    refine st (OK1.mv (Has.cI 0 rfl)) rfl ?_
    refine nl ?_
    refine At.thn (hK7 _ _ ?_); clear hK7
    refine Tri.block ?_
    refine Tri.loopF [0, 4, 5, 7, 29, 30] (fun (z : { z : Gr ((Bool × List Nat) × Bool × List Nat) × Nat // z.2 ≤ ys.length ∧ ∀ i, i < z.2 → 0 < zi ys i }) => match z with | ⟨(g, n), hI⟩ => [(31, isI (n : Int))]) (fun M => fun (z : { z : Gr ((Bool × List Nat) × Bool × List Nat) × Nat // z.2 ≤ ys.length ∧ ∀ i, i < z.2 → 0 < zi ys i }) => match z with | ⟨(g, n), hI⟩ => [(some b4, cellM [isGr g (csF xs ys n).length]), grMK rc g (csF xs ys n), (some b2, cellM [isB false, SlM isU []]), (some b1, cellM [isB false, SlM isU []])]) (fun (z : { z : Gr ((Bool × List Nat) × Bool × List Nat) × Nat // z.2 ≤ ys.length ∧ ∀ i, i < z.2 → 0 < zi ys i }) => match z with | ⟨(g, n), hI⟩ => ys.length - n) (⟨(⟨some b3, 1, []⟩, 0), Nat.zero_le _, fun i hi => absurd hi (Nat.not_lt_zero _)⟩) (Cv.mem (.cons (t := 31) (Has.t' rfl ?_) (.cons (t := 0) (Has.t rfl) (.cons (t := 4) (Has.t rfl) (.cons (t := 5) (Has.t rfl) (.cons (t := 7) (Has.t rfl) (.cons (t := 29) (Has.t rfl) (.cons (t := 30) (Has.t rfl) .nil))))))) ?_) ?_
    · rfl
    · rfl
    rintro ⟨⟨g, n⟩, hI⟩ K8 hK8
    refine Tri.cv (Cv.wk (.cons (t := 31) (Has.t rfl) (.cons (t := 0) (Has.t rfl) (.cons (t := 4) (Has.t rfl) (.cons (t := 5) (Has.t rfl) (.cons (t := 7) (Has.t rfl) (.cons (t := 29) (Has.t rfl) (.cons (t := 30) (Has.t rfl) .nil)))))))) ?_
    refine Tri.memEq (M' := [(some b4, cellM [isGr g (csF xs ys n).length]), grMK rc g (csF xs ys n), (some b2, cellM [isB false, SlM isU []]), (some b1, cellM [isB false, SlM isU []])]) rfl ?_
    simp only [] at hI
    obtain ⟨hn, hpz⟩ := hI
    refine Tri.seq fun K9 hK9 => ?_
    refine Tri.region ?_
    refine st (OK1.ltI (Has.t rfl) (Has.t rfl)) rfl ?_
    refine nl ?_
    refine At.thn (hK9 _ _ ?_); clear hK9
    refine Tri.seq fun K10 hK10 => ?_
    refine Tri.cond (Has.t rfl) (fun hc2 => ?_) (fun hc2 => ?_)
    · have hc2 := BP.t hc2
      have hn1 : n < ys.length := by omega
      refine Tri.skip ?_
      refine At.thn (hK10 _ _ ?_); clear hK10
      refine Tri.seq fun K11 hK11 => ?_
      refine Tri.block ?_
      refine Tri.seq fun K12 hK12 => ?_
      refine Tri.region ?_
      refine st (OK1.mv (Has.t rfl)) rfl ?_
      refine st (OK1.ixK sl22 ty27 (Has.t rfl) (Has.t rfl) zc_len ⟨by omega, by omega⟩ (getD_some (d := (false, [])) (i := n) (by omega))) rfl ?_
      refine st (OK1.loadP (Has.t rfl) ty27 rfl (Ss' := [_, _]) rfl) rfl ?_
      refine Ops.alloc [isB false, SlM isU []] zero27 (fun _ _ => ⟨rfl, nilM _ _, trivial⟩) rfl fun b5 => ?_
      refine st (OK1.as (Has.t rfl)) rfl ?_
      refine Ops.store (Has.t rfl) (Has.t rfl) (i := 0) rfl ty27 rfl rfl (Ss' := [_, _]) rfl (M' := [(some _, cellM [_, _]), _, _, _, _]) rfl ?_
      refine nl ?_
      refine At.thn (hK12 _ _ ?_); clear hK12
      refine Tri.seq fun K13 hK13 => ?_
      refine Tri.drh [true, true, true, true, true] (Ms := [_, _, _, _, _]) rfl ?_
      refine DrH.st (i := 0) [] rfl rfl rfl (by kernel_rfl) (OKG.o rfl (OK1.mv (Has.t rfl))) ?_
      refine DrH.st (i := 1) [] rfl rfl rfl (by kernel_rfl) (OKG.o rfl (OK1.mv (Has.t rfl))) ?_
      refine DrH.st (i := 2) [37, 38] rfl rfl rfl (by kernel_rfl) (OKG.o rfl (OK1.ixK sl22 ty27 (Has.t rfl) (Has.t rfl) zc_len ⟨by omega, by omega⟩ (getD_some (d := (false, [])) (i := n) (by omega)))) ?_
      refine DrH.st (i := 3) [39] rfl rfl rfl (by kernel_rfl) (OKG.o rfl (OK1.loadP (Has.t rfl) ty27 rfl (Ss' := [_, _]) rfl)) ?_
      refine DrH.st (i := 4) [] rfl rfl rfl (by kernel_rfl) (OKG.o rfl (OK1.load (Has.t rfl) (i := 0) rfl ty27 rfl (Ss' := [_, _]) rfl)) ?_
      refine DrH.st (i := 5) [40, 41] rfl rfl rfl (by kernel_rfl) (OKG.o rfl (OK1.call (modn_Mod (by have := hX n; omega) (by have := hY n; omega)) (.cons (Has.t rfl) (.cons (Has.t rfl) .nil)))) ?_
      refine DrH.st (i := 6) [42] rfl rfl rfl (by kernel_rfl) (OKG.o rfl (OK1.mv (Has.t rfl))) ?_
      refine DrH.st (i := 7) [36] rfl rfl rfl (by kernel_rfl) (OKG.o rfl (OK1.ext (Has.t rfl) rfl)) ?_
      refine DrH.st (i := 8) [36] rfl rfl rfl (by kernel_rfl) (OKG.o rfl (OK1.ext (Has.t rfl) rfl)) ?_
      refine DrH.als2 (n1 := 10) (ds := [10]) (zs := [[isB false, SlM isU []]]) rfl (.cons rfl rfl zero27 (fun _ _ => ⟨rfl, nilM _ _, trivial⟩) .nil) (.cons_cons _ (.cons_cons _ (.cons_cons _ (.cons_cons _ (.cons_cons _ .slnil))))) (Cs := [_]) rfl ?_
      refine DrN2.new [43] 0 (Ss' := [_, _]) (Cs' := [cellM [_, _]]) rfl (by kernel_rfl) (by kernel_rfl) rfl rfl rfl (by kernel_rfl) rfl (Has.t rfl) ty27 rfl rfl rfl rfl ?_
      refine DrN2.fin (n := 11) mixed rfl (by kernel_rfl) (by kernel_rfl) (by kernel_rfl) (fun bs hbs => ?_)
      obtain ⟨b6, rfl⟩ := len1 hbs
      refine Ops.memEq (M' := [_, _, _, _, _, _]) rfl ?_
      refine Ops.cv (Cv.wk (.cons (t := 0) (Has.t rfl) (.cons (t := 4) (Has.t rfl) (.cons (t := 5) (Has.t rfl) (.cons (t := 7) (Has.t rfl) (.cons (t := 29) (Has.t rfl) (.cons (t := 30) (Has.t rfl) (.cons (t := 31) (Has.t rfl) (.cons (t := 32) (Has.t rfl) (.cons (t := 33) (Has.t rfl) (.cons (t := 34) (Has.t rfl) (.cons (t := 35) (Has.t rfl) (.cons (t := 9) (Has.t rfl) (.cons (t := 8) (Has.t rfl) (.cons (t := 37) (Has.t rfl) (.cons (t := 38) (Has.t rfl) (.cons (t := 39) (Has.t rfl) (.cons (t := 40) (Has.t rfl) (.cons (t := 41) (Has.t rfl) (.cons (t := 42) (Has.t rfl) (.cons (t := 36) (Has.t rfl) (.cons (t := 43) (Has.t rfl) (.cons (t := 44) (Has.t rfl) (.cons (t := 10) (Has.op rfl) .nil)))))))))))))))))))))))) ?_
      refine st (OK1.as (Has.t rfl)) rfl ?_
      refine nl ?_
      refine At.thn (hK13 _ _ ?_); clear hK13
      refine Tri.seq fun K14 hK14 => ?_
      refine Tri.seq fun K15 hK15 => ?_
      refine Tri.region ?_
      refine st (OK1.mv (Has.t rfl)) rfl ?_
      refine st (OK1.not (Has.t rfl)) rfl ?_
      refine nl ?_
      refine At.thn (hK15 _ _ ?_); clear hK15
      refine Tri.cond (Has.t rfl) (fun hc3 => ?_) (fun hc3 => ?_)
      · have hc3 := BP.t hc3
        have hbad : ¬ 0 < zi ys n := Int.not_lt.2 hc3
        refine Tri.seq fun K16 hK16 => ?_
        refine Tri.region ?_
        refine st (OK1.build [isB false, SlM isU []] pl27 zero27 (fun _ _ => ⟨rfl, nilM _ _, trivial⟩) .nil (Z'' := [_, _]) rfl) rfl ?_
        refine st (OK1.build [isB false, SlM isU []] pl27 zero27 (fun _ _ => ⟨rfl, nilM _ _, trivial⟩) .nil (Z'' := [_, _]) rfl) rfl ?_
        refine Ops.store (Has.t rfl) (Has.t rfl) (i := 5) rfl ty27 rfl rfl (Ss' := [_, _]) rfl (M' := [_, _, _, _, _, (some _, cellM [_, _])]) rfl ?_
        refine Ops.store (Has.t rfl) (Has.t rfl) (i := 4) rfl ty27 rfl rfl (Ss' := [_, _]) rfl (M' := [_, _, _, _, (some _, cellM [_, _]), _]) rfl ?_
        refine st (OK1.as (Has.cI 1 rfl)) rfl ?_
        refine nl ?_
        refine At.thn (hK16 _ _ ?_); clear hK16
        refine Tri.ret ?_
        refine At.thr ?_
        refine At.blr ?_
        refine At.thr ?_
        refine At.thr ?_
        refine At.blr ?_
        refine At.thr ?_
        refine rtXND (.cons _ (.cons _ (.cons _ (.cons _ (.cons _ (.cons _ .slnil)))))) (.inl rfl) Try.results5 rfl rfl (.cell rfl (i := 5) rfl ty27 rfl rfl (.cell rfl (i := 4) rfl ty27 rfl rfl (.tmp (Has.t rfl) .nil))) ?_
        exact ⟨0, 0, 1, (congrArg (fun z => isTup [z, z, isI 1]) isZ0), rfl, .inr ⟨hle, .inl ⟨fun h => hbad (h n hn1), rfl, rfl, rfl⟩⟩⟩
      · have hc3 := BP.f hc3
        have hgood : 0 < zi ys n := hc3
        refine Tri.skip ?_
        refine At.thn (hK14 _ _ ?_); clear hK14
        refine Tri.dry mixed ?_
        refine DrB.take (i := 0) rfl rfl rfl rfl (by kernel_rfl) (by kernel_rfl) (by kernel_rfl) (by kernel_rfl) (fun _ _ _ _ h => h) (OKY.mv (Has.t rfl)) ?_
        refine DrB.take (i := 1) rfl rfl rfl rfl (by kernel_rfl) (by kernel_rfl) (by kernel_rfl) (by kernel_rfl) (fun _ _ _ _ h => h) (OKY.mv (Has.t rfl)) ?_
        refine DrB.take (i := 2) rfl rfl rfl rfl (by kernel_rfl) (by kernel_rfl) (by kernel_rfl) (by kernel_rfl) (fun _ _ _ _ h => h) (OKY.nilc (Has.t rfl)) ?_
        refine DrB.take (i := 5) rfl rfl rfl rfl (by kernel_rfl) (by kernel_rfl) (by kernel_rfl) (by kernel_rfl) (fun _ _ _ _ h => h) (OKY.fieldAddr (Has.t rfl) fld27_1 ty25) ?_
        refine DrB.go [] ?_
        refine DrC.st (i := 3) [] rfl rfl rfl (by kernel_rfl) (by kernel_rfl) (OKG.o rfl (OK1.load1 (Has.t rfl) (i := 2) rfl ty43 rfl)) ?_
        refine DrC.st (i := 4) [] rfl rfl rfl (by kernel_rfl) (by kernel_rfl) (OKG.o rfl (OK1.load (Has.t rfl) (i := 0) rfl ty27 rfl (Ss' := [_, _]) rfl)) ?_
        refine DrC.st (i := 6) [] rfl rfl rfl (by kernel_rfl) (by kernel_rfl) (OKG.o rfl (OK1.load1 (Has.t rfl) (i := 1) rfl ty25 rfl)) ?_
        refine DrC.st (i := 7) [55] rfl rfl rfl (by kernel_rfl) (by kernel_rfl) (OKG.o rfl (OK1.call (zint_From (by have := hY n; omega)) (.cons (Has.t rfl) (.cons (Has.cB false) .nil)))) ?_
        refine DrC.st (i := 8) [53, 56] rfl rfl rfl (by kernel_rfl) (by kernel_rfl) (OKG.o rfl (OK1.build [isB false, SlM isU [], isB false, SlM isU []] pl41 zero41 (fun _ _ => ⟨rfl, nilM _ _, rfl, nilM _ _, trivial⟩) (.cons (Has.t rfl) rfl rfl rfl (.cons (Has.t rfl) rfl rfl rfl .nil)) (Z'' := [_, _, _, _]) rfl)) ?_
        refine DrC.st (i := 9) [57] rfl rfl rfl (by kernel_rfl) (by kernel_rfl) (OKG.o rfl (OK1.buildS [isB false, SlM isU [], isB false, SlM isU []] sl43 ty41 zero41 (fun _ _ => ⟨rfl, nilM _ _, rfl, nilM _ _, trivial⟩) rfl rfl (.cons (Has.t rfl) rfl rfl rfl .nil) rfl (S := SlK 4 rc [clL xs ys n]) rfl)) ?_
        refine DrC.fin [10, 11, 12] (by kernel_rfl) (by kernel_rfl) (fun _ _ _ _ _ h => h) (by kernel_rfl) (by kernel_rfl) (by kernel_rfl) (by kernel_rfl) (by kernel_rfl) (by kernel_rfl) (by kernel_rfl) (by kernel_rfl) (by kernel_rfl) ?_
        refine Ops.cv (Cv.wk (.cons (t := 0) (Has.t rfl) (.cons (t := 4) (Has.t rfl) (.cons (t := 5) (Has.t rfl) (.cons (t := 7) (Has.t rfl) (.cons (t := 29) (Has.t rfl) (.cons (t := 30) (Has.t rfl) (.cons (t := 31) (Has.t rfl) (.cons (t := 32) (Has.t rfl) (.cons (t := 33) (Has.t rfl) (.cons (t := 34) (Has.t rfl) (.cons (t := 35) (Has.t rfl) (.cons (t := 9) (Has.t rfl) (.cons (t := 8) (Has.t rfl) (.cons (t := 37) (Has.t rfl) (.cons (t := 38) (Has.t rfl) (.cons (t := 39) (Has.t rfl) (.cons (t := 40) (Has.t rfl) (.cons (t := 41) (Has.t rfl) (.cons (t := 42) (Has.t rfl) (.cons (t := 36) (Has.t rfl) (.cons (t := 43) (Has.t rfl) (.cons (t := 44) (Has.t rfl) (.cons (t := 10) (Has.t rfl) (.cons (t := 11) (Has.t rfl) (.cons (t := 45) (Has.t rfl) (.cons (t := 46) (Has.t rfl) (.cons (t := 49) (Has.t rfl) (.cons (t := 50) (Has.t rfl) (.cons (t := 51) (Has.t rfl) (.cons (t := 54) (Has.t rfl) (.cons (t := 52) (Has.t rfl) (.cons (t := 53) (Has.t rfl) (.cons (t := 55) (Has.t rfl) (.cons (t := 56) (Has.t rfl) (.cons (t := 57) (Has.t rfl) (.cons (t := 58) (Has.t rfl) .nil))))))))))))))))))))))))))))))))))))) ?_
        refine Ops.appendGK (fk := rc) (u := ((false, []), (false, []))) rc_len (by decide) (fun _ => inferInstance) sl43 ty41 zero41 (fun _ _ => ⟨rfl, nilM _ _, rfl, nilM _ _, trivial⟩) by41 (Has.t rfl) (i := 3) rfl (Has.t rfl) (by rw [csF_len]; simp only [List.length_cons, List.length_nil]; omega) (by simp) rfl fun gr1 => ?_
        refine Ops.memEq (M' := [_, _, _, grMK _ _ _, _, _]) rfl ?_
        refine st (OK1.nilc (Has.t rfl)) rfl ?_
        refine Ops.store (Has.t rfl) (Has.t rfl) (i := 2) rfl ty43 rfl rfl (Ss' := [_]) rfl (M' := [_, _, (some _, cellM [_]), _, _, _]) rfl ?_
        refine nl ?_
        refine At.bln ?_
        refine At.thn (hK11 _ _ ?_); clear hK11
        refine Tri.region ?_
        refine st (OK1.addI (Has.t rfl) (Has.cI 1 rfl) (by first | omega | assumption) (by first | omega | assumption)) rfl ?_
        refine st (OK1.mv (Has.t rfl)) rfl ?_
        refine nl ?_
        refine At.thn ?_
        refine hK8 (⟨(gr1, n + 1), by show n + 1 ≤ _; omega, fun i hi => pos_next hpz hgood hi⟩) _ _ ?_ (Cv.trans (Cv.drop ((.cons _ (.cons _ (.cons_cons _ (.cons_cons _ (.cons_cons _ (.cons_cons _ .slnil)))))))) (Cv.mem (.cons (t := 31) (Has.t' rfl ?_) (.cons (t := 0) (Has.t rfl) (.cons (t := 4) (Has.t rfl) (.cons (t := 5) (Has.t rfl) (.cons (t := 7) (Has.t rfl) (.cons (t := 29) (Has.t rfl) (.cons (t := 30) (Has.t rfl) .nil))))))) ?_))
        · show ys.length - (n + 1) < ys.length - n; omega
        · rfl
        · simp only [csF_succ, List.length_append]
    · have hc2 := BP.f hc2
      obtain rfl : n = ys.length := by omega
      have hL0 : 0 < L := by rw [hL]; exact LaP_pos hpz
      have hC0 := csF_CI (xs := xs) hpz
      rw [← hL] at hC0
      have hl0 := csF_len xs ys ys.length
      refine Tri.exit ?_
      refine At.the ?_
      refine At.the ?_
      refine At.blh ?_
      refine At.thn (hK6 _ _ ?_); clear hK6
      refine Tri.cv (Cv.wk (.cons (t := 4) (Has.t rfl) (.cons (t := 5) (Has.t rfl) (.cons (t := 7) (Has.t rfl) .nil)))) ?_
      refine Tri.seq fun K17 hK17 => ?_
      refine Tri.region ?_
      refine st (OK1.mv (Has.t rfl)) rfl ?_
      refine st (OK1.mkIf solid39 (Has.t rfl)) rfl ?_
      refine Ops.callX (heap_Init (hC0.cb hL0 hLw) (by omega)) (List.Perm.refl _) (.cons (Has.t rfl) .nil) rfl ?_
      rintro _ _ ⟨cs0, rfl, rfl, hp0⟩
      refine Ops.memEq (M' := [(some b4, cellM [isGr g cs0.length]), grMK rc g cs0, _, _]) rfl ?_
      refine nl ?_
      refine At.thn (hK17 _ _ ?_); clear hK17
      refine Tri.seq fun K18 hK18 => ?_
      refine Tri.block ?_
      refine Tri.loopF [4, 5, 7] (fun (z : { z : Gr ((Bool × List Nat) × Bool × List Nat) × List ((Bool × List Nat) × Bool × List Nat) // CI (PR xs ys ys.length) L z.2 ∧ 0 < z.2.length ∧ z.2.length ≤ 7 }) => match z with | ⟨(g, cs), hI⟩ => []) (fun M => fun (z : { z : Gr ((Bool × List Nat) × Bool × List Nat) × List ((Bool × List Nat) × Bool × List Nat) // CI (PR xs ys ys.length) L z.2 ∧ 0 < z.2.length ∧ z.2.length ≤ 7 }) => match z with | ⟨(g, cs), hI⟩ => [(some b4, cellM [isGr g (cs).length]), grMK rc g (cs), (some b2, cellM [isB false, SlM isU []]), (some b1, cellM [isB false, SlM isU []])]) (fun (z : { z : Gr ((Bool × List Nat) × Bool × List Nat) × List ((Bool × List Nat) × Bool × List Nat) // CI (PR xs ys ys.length) L z.2 ∧ 0 < z.2.length ∧ z.2.length ≤ 7 }) => match z with | ⟨(g, cs), hI⟩ => cs.length) (⟨(g, cs0), hC0.perm hp0, by have := hp0.length_eq; show 0 < cs0.length; omega, by have := hp0.length_eq; show cs0.length ≤ 7; omega⟩) (Cv.mem (.cons (t := 4) (Has.t rfl) (.cons (t := 5) (Has.t rfl) (.cons (t := 7) (Has.t rfl) .nil))) ?_) ?_
      · rfl
      rintro ⟨⟨g, cs⟩, hI⟩ K19 hK19
      refine Tri.cv (Cv.wk (.cons (t := 4) (Has.t rfl) (.cons (t := 5) (Has.t rfl) (.cons (t := 7) (Has.t rfl) .nil)))) ?_
      refine Tri.memEq (M' := [(some b4, cellM [isGr g (cs).length]), grMK rc g (cs), (some b2, cellM [isB false, SlM isU []]), (some b1, cellM [isB false, SlM isU []])]) rfl ?_
      simp only [] at hI
      obtain ⟨hCI, hcl0, hcl1⟩ := hI
      have hcb := hCI.cb hL0 hLw
      refine Tri.seq fun K20 hK20 => ?_
      refine Tri.seq fun K21 hK21 => ?_
      refine Tri.region ?_
      refine st (OK1.mv (Has.t rfl)) rfl ?_
      refine st (OK1.nilc (Has.t rfl)) rfl ?_
      refine st (OK1.load1 (Has.t rfl) (i := 0) rfl ty43 rfl) rfl ?_
      refine st (OK1.call (cls_Len) (.cons (Has.t rfl) .nil)) rfl ?_
      refine st (OK1.gtI (Has.t rfl) (Has.cI 1 rfl)) rfl ?_
      refine nl ?_
      refine At.thn (hK21 _ _ ?_); clear hK21
      refine Tri.cond (Has.t rfl) (fun hc4 => ?_) (fun hc4 => ?_)
      · have hc4 := BP.t hc4
        refine Tri.skip ?_
        refine At.thn (hK20 _ _ ?_); clear hK20
        refine Tri.block ?_
        refine Tri.seq fun K22 hK22 => ?_
        refine Tri.region ?_
        refine st (OK1.mv (Has.t rfl)) rfl ?_
        refine Ops.callX (modn_least hcb (by omega) (by omega)) (List.Perm.refl _) (.cons (Has.t rfl) .nil) rfl ?_
        rintro _ _ ⟨ga, ca, csa, rfl, rfl, hpa⟩
        have hla := pop_len hpa
        refine Ops.memEq (M' := [(some b4, cellM [isGr ga csa.length]), grMK rc ga csa, _, _]) rfl ?_
        refine st (OK1.mv (Has.t rfl)) rfl ?_
        refine Ops.callX (modn_least (hcb.pop hpa) (by omega) (by omega)) (List.Perm.refl _) (.cons (Has.t rfl) .nil) rfl ?_
        rintro _ _ ⟨gb, cb, csb, rfl, rfl, hpb⟩
        have hlb := pop_len hpb
        have hI1 := hCI.perm ((hpb.append_right [ca]).trans hpa)
        have hma : ca ∈ csb ++ [cb] ++ [ca] := List.mem_append_right _ (List.mem_singleton.2 rfl)
        have hmb : cb ∈ csb ++ [cb] ++ [ca] := List.mem_append_left _ (List.mem_append_right _ (List.mem_singleton.2 rfl))
        have hsa := hI1.1 _ hma
        have hsb := hI1.1 _ hmb
        have hza := hI1.size hL0 hLw hma
        have hzb := hI1.size hL0 hLw hmb
        refine Ops.memEq (M' := [(some b4, cellM [isGr gb csb.length]), grMK rc gb csb, _, _]) rfl ?_
        refine Ops.alloc [isB false, SlM isU [], isB false, SlM isU []] zero41 (fun _ _ => ⟨rfl, nilM _ _, rfl, nilM _ _, trivial⟩) rfl fun b7 => ?_
        refine Ops.alloc [isB false, SlM isU [], isB false, SlM isU []] zero41 (fun _ _ => ⟨rfl, nilM _ _, rfl, nilM _ _, trivial⟩) rfl fun b8 => ?_
        refine Ops.store (Has.t rfl) (Has.t rfl) (i := 1) rfl ty41 rfl rfl (Ss' := [_, _, _, _]) rfl (M' := [_, (some _, cellM [_, _, _, _]), _, _, _, _]) rfl ?_
        refine Ops.store (Has.t rfl) (Has.t rfl) (i := 0) rfl ty41 rfl rfl (Ss' := [_, _, _, _]) rfl (M' := [(some _, cellM [_, _, _, _]), _, _, _, _, _]) rfl ?_
        refine nl ?_
        refine At.thn (hK22 _ _ ?_); clear hK22
        refine Tri.seq fun K23 hK23 => ?_
        refine Tri.region ?_
        refine st (OK1.load (Has.t rfl) (i := 1) rfl ty41 rfl (Ss' := [_, _, _, _]) rfl) rfl ?_
        refine st (OK1.load (Has.t rfl) (i := 0) rfl ty41 rfl (Ss' := [_, _, _, _]) rfl) rfl ?_
        refine st (OK1.call (class_meet (c := ca) (d := cb) hsa.2.1 hsb.2.1 hza.1 hza.2 hzb.1 hzb.2) (.cons (Has.t rfl) (.cons (Has.t rfl) .nil))) rfl ?_
        refine st (OK1.mv (Has.t rfl)) rfl ?_
        refine st (OK1.ext (Has.t rfl) rfl) rfl ?_
        refine st (OK1.ext (Has.t rfl) rfl) rfl ?_
        refine Ops.alloc [isB false, SlM isU [], isB false, SlM isU []] zero41 (fun _ _ => ⟨rfl, nilM _ _, rfl, nilM _ _, trivial⟩) rfl fun b9 => ?_
        refine Ops.store (Has.t rfl) (Has.t rfl) (i := 0) rfl ty41 rfl rfl (Ss' := [_, _, _, _]) rfl (M' := [(some _, cellM [_, _, _, _]), _, _, _, _, _, _]) rfl ?_
        refine st (OK1.as (Has.t rfl)) rfl ?_
        refine nl ?_
        refine At.thn (hK23 _ _ ?_); clear hK23
        refine Tri.seq fun K24 hK24 => ?_
        refine Tri.seq fun K25 hK25 => ?_
        refine Tri.region ?_
        refine st (OK1.mv (Has.t rfl)) rfl ?_
        refine st (OK1.not (Has.t rfl)) rfl ?_
        refine nl ?_
        refine At.thn (hK25 _ _ ?_); clear hK25
        refine Tri.cond (Has.t rfl) (fun hc5 => ?_) (fun hc5 => ?_)
        · have hc5 := BP.t hc5
          have hno := hI1.no hc5
          refine Tri.seq fun K26 hK26 => ?_
          refine Tri.region ?_
          refine st (OK1.build [isB false, SlM isU []] pl27 zero27 (fun _ _ => ⟨rfl, nilM _ _, trivial⟩) .nil (Z'' := [_, _]) rfl) rfl ?_
          refine st (OK1.build [isB false, SlM isU []] pl27 zero27 (fun _ _ => ⟨rfl, nilM _ _, trivial⟩) .nil (Z'' := [_, _]) rfl) rfl ?_
          refine Ops.store (Has.t rfl) (Has.t rfl) (i := 6) rfl ty27 rfl rfl (Ss' := [_, _]) rfl (M' := [_, _, _, _, _, _, (some _, cellM [_, _])]) rfl ?_
          refine Ops.store (Has.t rfl) (Has.t rfl) (i := 5) rfl ty27 rfl rfl (Ss' := [_, _]) rfl (M' := [_, _, _, _, _, (some _, cellM [_, _]), _]) rfl ?_
          refine st (OK1.as (Has.cI 10 rfl)) rfl ?_
          refine nl ?_
          refine At.thn (hK26 _ _ ?_); clear hK26
          refine Tri.ret ?_
          refine At.thr ?_
          refine At.blr ?_
          refine At.thr ?_
          refine At.blr ?_
          refine At.thr ?_
          refine rtXND (.cons _ (.cons _ (.cons _ (.cons _ (.cons _ (.cons _ (.cons _ .slnil))))))) (.inl rfl) Try.results5 rfl rfl (.cell rfl (i := 6) rfl ty27 rfl rfl (.cell rfl (i := 5) rfl ty27 rfl rfl (.tmp (Has.t rfl) .nil))) ?_
          exact ⟨0, 0, 10, (congrArg (fun z => isTup [z, z, isI 10]) isZ0), rfl, .inr ⟨hle, .inr ⟨hpz, .inl ⟨rfl, rfl, rfl, hno⟩⟩⟩⟩
        · have hc5 := BP.f hc5
          have hyes := hI1.meet hc5
          refine Tri.skip ?_
          refine At.thn (hK24 _ _ ?_); clear hK24
          refine Tri.region ?_
          refine st (OK1.mv (Has.t rfl)) rfl ?_
          refine st (OK1.mkIf solid39 (Has.t rfl)) rfl ?_
          refine st (OK1.load (Has.t rfl) (i := 0) rfl ty41 rfl (Ss' := [_, _, _, _]) rfl) rfl ?_
          refine st (OK1.mkIf solid41 (Has.t rfl)) rfl ?_
          refine Ops.callX (heap_Push (c := meetC ca cb) ((hcb.pop hpa).pop hpb) (by omega) (Nat.le_trans (hyes.size hL0 hLw (List.mem_append_right _ (List.mem_singleton.2 rfl))).2 (by decide))) (perm_c3 _ _ _ _ _ _ _) (.cons (Has.t rfl) (.cons (Has.t rfl) .nil)) rfl ?_
          rintro _ _ ⟨gc, csc, rfl, rfl, hpc⟩
          have hlc := pop_len hpc.symm
          refine Ops.memEq (M' := [(some b4, cellM [isGr gc csc.length]), grMK rc gc csc, _, _, _, _, _]) rfl ?_
          refine nl ?_
          refine At.bln ?_
          refine At.thn ?_
          refine hK19 (⟨(gc, csc), hyes.perm hpc, by show 0 < csc.length; omega, by show csc.length ≤ 7; omega⟩) _ _ ?_ (Cv.trans (Cv.drop ((.cons_cons _ (.cons_cons _ (.cons _ (.cons _ (.cons _ (.cons_cons _ (.cons_cons _ .slnil))))))))) (Cv.mem (.cons (t := 4) (Has.t rfl) (.cons (t := 5) (Has.t rfl) (.cons (t := 7) (Has.t rfl) .nil))) ?_))
          · show csc.length < cs.length; omega
          · rfl
      · have hc4 := BP.f hc4
        refine Tri.exit ?_
        refine At.the ?_
        refine At.the ?_
        refine At.blh ?_
        refine At.thn (hK18 _ _ ?_); clear hK18
        refine Tri.cv (Cv.wk (.cons (t := 4) (Has.t rfl) (.cons (t := 5) (Has.t rfl) (.cons (t := 7) (Has.t rfl) .nil)))) ?_
        refine Tri.seq fun K27 hK27 => ?_
        refine Tri.region ?_
        refine st (OK1.mv (Has.t rfl)) rfl ?_
        refine Ops.callX (modn_least hcb (by omega) (by omega)) (List.Perm.refl _) (.cons (Has.t rfl) .nil) rfl ?_
        rintro _ _ ⟨ga, ca, csa, rfl, rfl, hpa⟩
        obtain ⟨r, m, rfl, hr0, hr1, hP⟩ := hCI.one (by omega) hpa
        refine Ops.memEq (M' := [(some b4, cellM [isGr ga csa.length]), grMK rc ga csa, _, _]) rfl ?_
        refine Ops.alloc [isB false, SlM isU [], isB false, SlM isU []] zero41 (fun _ _ => ⟨rfl, nilM _ _, rfl, nilM _ _, trivial⟩) rfl fun b10 => ?_
        refine Ops.store (Has.t rfl) (Has.t rfl) (i := 0) rfl ty41 rfl rfl (Ss' := [_, _, _, _]) rfl (M' := [(some _, cellM [_, _, _, _]), _, _, _, _]) rfl ?_
        refine nl ?_
        refine At.thn (hK27 _ _ ?_); clear hK27
        refine Tri.seq fun K28 hK28 => ?_
        refine Tri.drh [true, true, true, true, false] (Ms := [_, _, _, _]) rfl ?_
        refine DrH.st (i := 0) [] rfl rfl rfl (by kernel_rfl) (OKG.o rfl (OK1.fieldAddr (Has.t rfl) fld41_0 ty27)) ?_
        refine DrH.st (i := 1) [91] rfl rfl rfl (by kernel_rfl) (OKG.o rfl (OK1.load (Has.t rfl) (i := 0) rfl ty27 rfl (Ss' := [_, _]) rfl)) ?_
        refine DrH.st (i := 2) [] rfl rfl rfl (by kernel_rfl) (OKG.o rfl (OK1.fieldAddr (Has.t rfl) fld41_1 ty27)) ?_
        refine DrH.st (i := 3) [93] rfl rfl rfl (by kernel_rfl) (OKG.o rfl (OK1.load (Has.t rfl) (i := 0) rfl ty27 rfl (Ss' := [_, _]) rfl)) ?_
        refine DrH.mid2 (.cons_cons _ (.cons_cons _ (.cons_cons _ (.cons_cons _ (.cons _ .slnil))))) ?_
        refine DrN2.st0 [92] rfl rfl (by kernel_rfl) (by kernel_rfl) (StS.store (Has.t rfl) (Has.t rfl) (i := 4) rfl ty27 rfl rfl (Ss' := [_, _]) rfl (M' := [_, _, _, _, (some _, cellM [_, _])]) rfl) (.cons_cons _ (.cons_cons _ (.cons_cons _ (.cons_cons _ (.cons _ .slnil))))) ?_
        refine DrN2.fin0 (n := 5) mixed rfl (by kernel_rfl) (by kernel_rfl) (by kernel_rfl) ?_
        refine Ops.cv (Cv.wk (.cons (t := 4) (Has.t rfl) (.cons (t := 5) (Has.t rfl) (.cons (t := 94) (Has.t rfl) .nil)))) ?_
        refine Ops.store (Has.t rfl) (Has.t rfl) (i := 3) rfl ty27 rfl rfl (Ss' := [_, _]) rfl (M' := [_, _, _, (some _, cellM [_, _]), _]) rfl ?_
        refine st (OK1.as (Has.cI 0 rfl)) rfl ?_
        refine nl ?_
        refine At.thn (hK28 _ _ ?_); clear hK28
        refine Tri.ret ?_
        refine rtXND (.cons _ (.cons _ (.cons _ (.cons _ (.cons _ .slnil))))) (.inl rfl) Try.results5 rfl rfl (.cell rfl (i := 4) rfl ty27 rfl rfl (.cell rfl (i := 3) rfl ty27 rfl rfl (.tmp (Has.t rfl) .nil))) ?_
        exact ⟨r, m, 0, rfl, rfl, .inr ⟨hle, .inr ⟨hpz, .inr ⟨rfl, hr0, hr1, hP⟩⟩⟩⟩
end Go.Proofs.Ytbnhdbchoghkfaa
/- Rests that go together; what is told of them. -/
namespace Go.Proofs.Ytbnhdbchoghkfaa
open Go.En Go.RowKit
set_option linter.unusedVariables false
set_option maxRecDepth 10000
open Go.Nt
open Go.Pz
theorem sz_at {xs : List (Bool × List Nat)} (h : ∀ p ∈ xs, ∀ y ∈ p.2, y < 18446744073709551616) (i : Nat) : (List.length (words (val (xs.getD i (false, [])).2))) ≤ (xs.getD i (false, [])).2.length := by
  rcases Nat.lt_or_ge i xs.length with g | g
  · rw [List.getD_eq_getElem?_getD, List.getElem?_eq_getElem g]; exact nw_val (h _ (List.getElem_mem g))
  · rw [List.getD_eq_getElem?_getD, List.getElem?_eq_none g]; exact Nat.le_of_eq (congrArg List.length words_zero)
theorem ln_at {xs : List (Bool × List Nat)} {K : Nat} (h : ∀ p ∈ xs, p.2.length ≤ K) (i : Nat) : (xs.getD i (false, [])).2.length ≤ K := by
  rcases Nat.lt_or_ge i xs.length with g | g
  · rw [List.getD_eq_getElem?_getD, List.getElem?_eq_getElem g]; exact h _ (List.getElem_mem g)
  · rw [List.getD_eq_getElem?_getD, List.getElem?_eq_none g]; exact Nat.zero_le _
/-- two of the rests can't be together -/
def apN (xs ys : List (Bool × List Nat)) (i k : Nat) : Prop := ¬ Go.Cr.G (zi ys i) (zi ys k) ∣ zi xs i - zi xs k
instance (xs ys : List (Bool × List Nat)) (i k : Nat) : Decidable (apN xs ys i k) := inferInstanceAs (Decidable (¬ _))
def apO (xs ys : List (Bool × List Nat)) (n : Nat) : Prop := ∃ i, i < n ∧ ∃ k, k < i ∧ apN xs ys i k
def psO (ys : List (Bool × List Nat)) (n : Nat) : Prop := ∀ i, i < n → 0 < zi ys i
theorem crt_shape {xs ys : List (Bool × List Nat)} {r m e : Int} (hR : CrtR xs ys r m e) (hn : xs.length ≠ ys.length) : e = 2 ∧ r = 0 ∧ m = 0 := by
  rcases hR with ⟨_, h⟩ | ⟨h, _⟩
  · exact h
  · exact absurd h hn
theorem crt_bad {xs ys : List (Bool × List Nat)} {r m e : Int} (hR : CrtR xs ys r m e) (hn : xs.length = ys.length) {b a : Bool} (hb : b = false ↔ psO ys ys.length) (ha : b = false → (a = true ↔ apO xs ys ys.length)) (h : b = true ∨ a = true) : r = 0 ∧ m = 0 ∧ ((b = true ∧ e = 1) ∨ (b = false ∧ e = 10)) := by
  rcases hR with ⟨h1, _⟩ | ⟨_, ⟨h1, h2, h3, h4⟩ | ⟨h1, ⟨h2, h3, h4, _⟩ | ⟨h2, h3, h4, h5⟩⟩⟩
  · exact absurd hn h1
  · refine ⟨h3, h4, .inl ⟨?_, h2⟩⟩
    cases b with
    | true => rfl
    | false => exact absurd (hb.1 rfl) h1
  · exact ⟨h3, h4, .inr ⟨hb.2 h1, h2⟩⟩
  · have e := hb.2 h1
    subst e
    obtain ⟨i, hi, k, hk, g⟩ := (ha rfl).1 (h.resolve_left (by simp))
    have hx := (h5 r).1 (by rw [Int.sub_self]; exact Int.dvd_zero _)
    have g1 : ¬ Go.Cr.G (zi ys k) (zi ys i) ∣ zi xs i - zi xs k := by
      have : Go.Cr.G (zi ys k) (zi ys i) = Go.Cr.G (zi ys i) (zi ys k) := by show ((Nat.gcd _ _ : Nat) : Int) = ((Nat.gcd _ _ : Nat) : Int); rw [Nat.gcd_comm]
      rw [this]; exact g
    exact absurd ⟨hx k (by omega), hx i hi⟩ (Go.Cr.meet_no g1 r)
theorem crt_good {xs ys : List (Bool × List Nat)} {r m e : Int} (hR : CrtR xs ys r m e) (hn : xs.length = ys.length) (hb : psO ys ys.length) (ha : ¬ apO xs ys ys.length) : e = 0 ∧ 0 ≤ r ∧ r < m ∧ ∀ x, m ∣ x - r ↔ PR xs ys ys.length x := by
  rcases hR with ⟨h1, _⟩ | ⟨_, ⟨h1, _⟩ | ⟨_, ⟨_, _, _, h5⟩ | h⟩⟩
  · exact absurd hn h1
  · exact absurd hb h1
  · obtain ⟨x, _, _, hx, _⟩ := Go.Cr.crt_all (zi xs) (zi ys) ys.length hb fun i k hi hk => Decidable.byContradiction fun g => ha ⟨i, hi, k, hk, g⟩
    exact absurd (fun i hi => (hx i hi).1) (h5 x)
  · exact h
theorem crt_same {xs ys : List (Bool × List Nat)} {r m l : Int} (h0 : 0 ≤ r) (h1 : r < m) (hl : 0 < l) (h : ∀ x, m ∣ x - r ↔ PR xs ys ys.length x) (hd : ∀ d, l ∣ d ↔ ∀ i, i < ys.length → zi ys i ∣ d) : m = l := by
  have hr := (h r).1 (by rw [Int.sub_self]; exact Int.dvd_zero _)
  have key : ∀ d, m ∣ d ↔ ∀ i, i < ys.length → zi ys i ∣ d := fun d => by
    have := h (r + d)
    rw [show r + d - r = d by omega] at this
    rw [this]
    constructor
    · intro g i hi
      have := Int.dvd_sub (g i hi) (hr i hi)
      rwa [show r + d - zi xs i - (r - zi xs i) = d by omega] at this
    · intro g i hi
      have := Int.dvd_add (hr i hi) (g i hi)
      rwa [show r - zi xs i + d = r + d - zi xs i by omega] at this
  have a1 : m ∣ l := (key l).2 ((hd l).1 (Int.dvd_refl _))
  have a2 : l ∣ m := (hd m).2 ((key m).1 (Int.dvd_refl _))
  have b1 := Int.le_of_dvd hl a1
  have b2 := Int.le_of_dvd (show 0 < m by omega) a2
  omega
theorem crt_size {xs ys : List (Bool × List Nat)} {K : Nat} {r m : Int} (h0 : 0 ≤ r) (h1 : r < m) (hb : psO ys ys.length) (h : ∀ x, m ∣ x - r ↔ PR xs ys ys.length x) (hy : ∀ i, (List.length (words (val (ys.getD i (false, [])).2))) ≤ K) : (List.length (words r.natAbs)) ≤ 1 + ys.length * K ∧ (List.length (words m.natAbs)) ≤ 1 + ys.length * K := by
  have hr := (h r).1 (by rw [Int.sub_self]; exact Int.dvd_zero _)
  have hd : ∀ n i, i < n → zi ys i ∣ LaP ys n := fun n => by
    induction n with
    | zero => intro i hi; omega
    | succ n ih =>
      intro i hi
      rcases Nat.lt_or_ge i n with g | g
      · exact Int.dvd_trans (ih i g) ⟨_, rfl⟩
      · obtain rfl : i = n := by omega
        exact ⟨LaP ys i, Int.mul_comm _ _⟩
  have hm : m ∣ LaP ys ys.length := by
    have := (h (r + LaP ys ys.length)).2 fun i hi => by
      have := Int.dvd_add (hr i hi) (hd _ i hi)
      rwa [show r - zi xs i + LaP ys ys.length = r + LaP ys ys.length - zi xs i by omega] at this
    rwa [show r + LaP ys ys.length - r = LaP ys ys.length by omega] at this
  have hp := LaP_pos (n := ys.length) hb
  have h2 := LaP_size hy ys.length
  have h3 := Int.le_of_dvd hp hm
  have h4 := nw_mono (show m.natAbs ≤ (LaP ys ys.length).natAbs by omega)
  have h5 := nw_mono (show r.natAbs ≤ m.natAbs by omega)
  omega
theorem nw0 : (List.length (words (0 : Int).natAbs)) = 0 := congrArg List.length words_zero
theorem crt_sizeR {xs ys : List (Bool × List Nat)} {K : Nat} {r m e : Int} (hR : CrtR xs ys r m e) (hy : ∀ i, (List.length (words (val (ys.getD i (false, [])).2))) ≤ K) : (List.length (words r.natAbs)) ≤ 1 + ys.length * K ∧ (List.length (words m.natAbs)) ≤ 1 + ys.length * K := by
  have h0 := nw0
  rcases hR with ⟨_, _, h3, h4⟩ | ⟨_, ⟨_, _, h3, h4⟩ | ⟨hp, ⟨_, h3, h4, _⟩ | ⟨_, h5, h6, h7⟩⟩⟩
  · rw [h3, h4]; omega
  · rw [h3, h4]; omega
  · rw [h3, h4]; omega
  · exact crt_size h5 h6 hp h7 hy
theorem g_left {a : Int} (hp : 0 < a) (b : Int) : (List.length (words (Go.Cr.G a b).natAbs)) ≤ (List.length (words a.natAbs)) := by
  show (List.length (words (((Nat.gcd a.natAbs b.natAbs : Nat) : Int)).natAbs)) ≤ _
  rw [Int.natAbs_natCast]
  exact nw_mono (Nat.le_of_dvd (by omega) (Nat.gcd_dvd_left _ _))
theorem g_small {ys : List (Bool × List Nat)} {i : Nat} (hp : 0 < zi ys i) (h : (List.length (words (val (ys.getD i (false, [])).2))) ≤ 1) (b : Int) : (List.length (words (Go.Cr.G (zi ys i) b).natAbs)) ≤ 1 := by
  show (List.length (words (((Nat.gcd (zi ys i).natAbs b.natAbs : Nat) : Int)).natAbs)) ≤ 1
  rw [Int.natAbs_natCast]
  refine Nat.le_trans (nw_mono (Nat.le_of_dvd (by omega) (Nat.gcd_dvd_left _ _))) ?_
  have : (List.length (words (zi ys i).natAbs)) = (List.length (words (val (ys.getD i (false, [])).2))) := zv_nw _ _
  omega
/-- the least common multiple, one more -/
theorem lcm_next {ys : List (Bool × List Nat)} {l : Int} {n : Nat} (hl : 0 < l) (hM : 0 < zi ys n) (hd : ∀ d, l ∣ d ↔ ∀ i, i < n → zi ys i ∣ d) : (l * zi ys n).tdiv (Go.Cr.G l (zi ys n)) = Go.Cr.mM l (zi ys n) ∧ (Go.Cr.G l (zi ys n) ≠ 0 ∧ (l * zi ys n).tmod (Go.Cr.G l (zi ys n)) = 0) ∧ ∀ d, Go.Cr.mM l (zi ys n) ∣ d ↔ ∀ i, i < n + 1 → zi ys i ∣ d := by
  have hg := Go.Cr.G_pos (b := zi ys n) hl
  have he := Go.Cr.mBy_eq (m2 := zi ys n) hl
  have e : l * zi ys n = Go.Cr.G l (zi ys n) * Go.Cr.mM l (zi ys n) := by
    unfold Go.Cr.mM
    generalize Go.Cr.mBy l (zi ys n) = v at *
    generalize Go.Cr.G l (zi ys n) = g at *
    rw [he]; grind
  refine ⟨by rw [e]; exact Int.mul_tdiv_cancel_left _ (by omega), (tmod_dvd hg).2 ⟨_, e⟩, fun d => ⟨fun g i hi => ?_, fun g => Go.Cr.mM_least hl hM ((hd d).2 fun i hi => g i (by omega)) (g n (by omega))⟩⟩
  rcases Nat.lt_or_ge i n with h | h
  · exact (hd d).1 (Int.dvd_trans (Go.Cr.mM_left _ _) g) i h
  · obtain rfl : i = n := by omega
    exact Int.dvd_trans (Go.Cr.mM_right hl) g
theorem ps_next {ys : List (Bool × List Nat)} {n : Nat} {b : Bool} (hb : b = false ↔ psO ys n) : (b || decide (sgn (zi ys n) ≤ 0)) = false ↔ psO ys (n + 1) := by
  have hs := sgn_pos (zi ys n)
  rw [Bool.or_eq_false_iff, hb, decide_eq_false_iff_not]
  constructor
  · rintro ⟨h1, h2⟩ i hi
    exact pos_next h1 (hs.1 (by omega)) hi
  · intro h
    refine ⟨fun i hi => h i (by omega), fun h2 => ?_⟩
    have := hs.2 (h n (by omega))
    omega
theorem bo_left {a b : Bool} (h : (a || b) = false) : a = false := by cases a; rfl; simp at h
theorem ap_init {xs ys : List (Bool × List Nat)} {n : Nat} {a : Bool} {p : Prop} (h : a = true ↔ p) : a = true ↔ p ∨ ∃ k, k < 0 ∧ apN xs ys n k := by
  rw [h]
  exact ⟨.inl, fun g => g.elim id fun ⟨k, hk, _⟩ => absurd hk (Nat.not_lt_zero _)⟩
theorem len_next {xs ys : List (Bool × List Nat)} {n : Nat} (h : ∀ i, i < n → (ys.getD i (false, [])).2.length ≤ 1 ∧ (xs.getD i (false, [])).2.length ≤ 2) (hn : (ys.getD n (false, [])).2.length ≤ 1 ∧ (xs.getD n (false, [])).2.length ≤ 2) {i : Nat} (hi : i < n + 1) : (ys.getD i (false, [])).2.length ≤ 1 ∧ (xs.getD i (false, [])).2.length ≤ 2 := by
  rcases Nat.lt_or_ge i n with g | g
  · exact h i g
  · obtain rfl : i = n := by omega
    exact hn
theorem ap_exit {xs ys : List (Bool × List Nat)} {i k : Nat} {b c bd : Bool} {p : Prop} (HC : (i : Int) ≤ k ∨ b = true ∨ sgn (zi ys i) ≤ 0) (hk : k ≤ i) (hbd : bd = (b || decide (sgn (zi ys i) ≤ 0))) (hap : bd = false → (c = true ↔ p ∨ ∃ j, j < k ∧ apN xs ys i j)) (h : bd = false) : c = true ↔ p ∨ ∃ j, j < i ∧ apN xs ys i j := by
  rw [hbd, Bool.or_eq_false_iff, decide_eq_false_iff_not] at h
  obtain rfl : k = i := by
    rcases HC with g | g | g
    · omega
    · rw [h.1] at g; simp at g
    · exact absurd g h.2
  exact hap (by rw [hbd, h.1, decide_eq_false h.2]; rfl)
theorem ap_next {xs ys : List (Bool × List Nat)} {n : Nat} {a : Bool} (h : a = true ↔ apO xs ys n ∨ ∃ k, k < n ∧ apN xs ys n k) : a = true ↔ apO xs ys (n + 1) := by
  rw [h]
  constructor
  · rintro (⟨i, hi, k, hk, g⟩ | ⟨k, hk, g⟩)
    · exact ⟨i, by omega, k, hk, g⟩
    · exact ⟨n, by omega, k, hk, g⟩
  · rintro ⟨i, hi, k, hk, g⟩
    rcases Nat.lt_or_ge i n with c | c
    · exact .inl ⟨i, c, k, hk, g⟩
    · obtain rfl : i = n := by omega
      exact .inr ⟨k, hk, g⟩
theorem ap_step {xs ys : List (Bool × List Nat)} {n k : Nat} {a : Bool} {p : Prop} (h : a = true ↔ p ∨ ∃ j, j < k ∧ apN xs ys n j) : (a || !decide (Go.Cr.G (zi ys n) (zi ys k) ∣ zi xs n - zi xs k)) = true ↔ p ∨ ∃ j, j < k + 1 ∧ apN xs ys n j := by
  rw [Bool.or_eq_true, h, ← decide_not, decide_eq_true_iff]
  constructor
  · rintro ((h1 | ⟨j, hj, g⟩) | h2)
    · exact .inl h1
    · exact .inr ⟨j, by omega, g⟩
    · exact .inr ⟨k, by omega, h2⟩
  · rintro (h1 | ⟨j, hj, g⟩)
    · exact .inl (.inl h1)
    · rcases Nat.lt_or_ge j k with c | c
      · exact .inl (.inr ⟨j, c, g⟩)
      · obtain rfl : j = k := by omega
        exact .inr g
end Go.Proofs.Ytbnhdbchoghkfaa
/- A law of layer 6: rests and moduli, as a contract. -/
namespace Go.Proofs.Ytbnhdbchoghkfaa
open Go.En Go.RowKit
set_option linter.unusedVariables false
set_option maxRecDepth 10000
open Go.Nt
open Go.Pz
theorem getD_at2 {xs : List (Bool × List Nat)} {i : Nat} (h : i < xs.length) : xs[i]? = some (xs.getD i (false, [])) := by rw [List.getD_eq_getElem?_getD, List.getElem?_eq_getElem h]; rfl
set_option maxHeartbeats 4000000 in
theorem c_ModCrt (xs ys : List (Bool × List Nat)) (hxb : ∀ p ∈ xs, p.2.length ≤ 1048576) (hyb : ∀ p ∈ ys, p.2.length ≤ 1048576) : CtrX Try.prog 3 [SlK 2 zc xs, SlK 2 zc ys] ([]) (fun S M => S = isB true) := by
  refine CtrX.intro Try.func3 rfl (by kernel_rfl) Try.ntmps3 rfl fun w0 F0 => ?_
  refine Tri.cv (Cv.wk (.cons (t := 0) (Has.t rfl) (.cons (t := 1) (Has.t rfl) .nil))) ?_
  refine Tri.fact (Has.lenLt (Has.t (t := 0) rfl)) fun lt0 => ?_
  refine Tri.fact (Has.lenLt (Has.t (t := 1) rfl)) fun lt1 => ?_
  refine Tri.fact (Has.okP (Has.t (t := 0) rfl)) fun okp0 => ?_
  refine Tri.fact (Has.okP (Has.t (t := 1) rfl)) fun okp1 => ?_
  have hX : ∀ i, (List.length (words (val (xs.getD i (false, [])).2))) ≤ 1048576 := fun i => Nat.le_trans (sz_at (fun p hp => (okp0 p hp).1) i) (ln_at hxb i)
  have hY : ∀ i, (List.length (words (val (ys.getD i (false, [])).2))) ≤ 1048576 := fun i => Nat.le_trans (sz_at (fun p hp => (okp1 p hp).1) i) (ln_at hyb i)
  refine Tri.seq fun K1 hK1 => ?_
  refine Tri.region ?_
  refine st (OK1.as (Has.cB false)) rfl ?_
  refine nl ?_
  refine At.thn (hK1 _ _ ?_); clear hK1
  refine Tri.seq fun K2 hK2 => ?_
  refine Tri.seq fun K3 hK3 => ?_
  refine Tri.region ?_
  refine st (OK1.call (law06_awake) .nil) rfl ?_
  refine st (OK1.not (Has.t rfl)) rfl ?_
  refine st (OK1.mv (Has.t rfl)) rfl ?_
  refine stF rfl rfl (fun hg => have hg' := BP.t hg; OK1.mv (Has.t rfl)) rfl ?_
  refine stF rfl rfl (fun hg => have hg' := BP.t hg; OK1.len sl22 (Has.g rfl hg)) rfl ?_
  refine stF rfl rfl (fun hg => have hg' := BP.t hg; OK1.gtI (Has.g rfl hg) (Has.cI 6 rfl)) rfl ?_
  refine st (OK1.pickOr (Has.t rfl) (fun h => Has.g rfl (ng h))) rfl ?_
  refine st (OK1.mv (Has.t rfl)) rfl ?_
  refine stF rfl rfl (fun hg => have hg' := BP.t hg; OK1.mv (Has.t rfl)) rfl ?_
  refine stF rfl rfl (fun hg => have hg' := BP.t hg; OK1.len sl22 (Has.g rfl hg)) rfl ?_
  refine stF rfl rfl (fun hg => have hg' := BP.t hg; OK1.gtI (Has.g rfl hg) (Has.cI 6 rfl)) rfl ?_
  refine st (OK1.pickOr (Has.t rfl) (fun h => Has.g rfl (ng h))) rfl ?_
  refine nl ?_
  refine At.thn (hK3 _ _ ?_); clear hK3
  refine Tri.cv (Cv.wk (.cons (t := 0) (Has.t rfl) (.cons (t := 1) (Has.t rfl) (.cons (t := 4) (Has.t rfl) (.cons (t := 27) (Has.t rfl) .nil))))) ?_
  refine Tri.cond (Has.t rfl) (fun hc1 => ?_) (fun hc1 => ?_)
  · have hc1 := BP.t hc1
    skip
    refine Tri.seq fun K4 hK4 => ?_
    refine Tri.region ?_
    refine st (OK1.call (law06_awake) .nil) rfl ?_
    refine st (OK1.as (Has.t rfl)) rfl ?_
    refine nl ?_
    refine At.thn (hK4 _ _ ?_); clear hK4
    refine Tri.ret ?_
    refine At.thr ?_
    refine rtX1D .slnil (.inl rfl) Try.results3 rfl (.tmp (Has.t rfl) .nil) ?_
    exact rfl
  · have hc1 := BP.f hc1
    have hxl : xs.length ≤ 6 := by omega
    have hyl : ys.length ≤ 6 := by omega
    refine Tri.skip ?_
    refine At.thn (hK2 _ _ ?_); clear hK2
    refine Tri.seq fun K5 hK5 => ?_
    refine Tri.region ?_
    refine st (OK1.mv (Has.t rfl)) rfl ?_
    refine st (OK1.mv (Has.t rfl)) rfl ?_
    refine Ops.callX (modn_Crt hX hY hxl hyl) (List.Perm.refl _) (.cons (Has.t rfl) (.cons (Has.t rfl) .nil)) rfl ?_
    rintro _ _ ⟨r, q, e, rfl, rfl, hR⟩
    have hsz := crt_sizeR hR hY
    have hyl6 : ys.length * 1048576 ≤ 6 * 1048576 := Nat.mul_le_mul_right _ hyl
    have hrw : (List.length (words r.natAbs)) ≤ 20000000 := by omega
    have hqw : (List.length (words q.natAbs)) ≤ 20000000 := by omega
    refine Ops.memEq (M' := []) rfl ?_
    refine st (OK1.mv (Has.t rfl)) rfl ?_
    refine st (OK1.ext (Has.t rfl) rfl) rfl ?_
    refine st (OK1.ext (Has.t rfl) rfl) rfl ?_
    refine st (OK1.ext (Has.t rfl) rfl) rfl ?_
    refine Ops.alloc [isB false, SlM isU []] zero27 (fun _ _ => ⟨rfl, nilM _ _, trivial⟩) rfl fun b1 => ?_
    refine Ops.alloc [isB false, SlM isU []] zero27 (fun _ _ => ⟨rfl, nilM _ _, trivial⟩) rfl fun b2 => ?_
    refine Ops.store (Has.t rfl) (Has.t rfl) (i := 1) rfl ty27 rfl rfl (Ss' := [_, _]) rfl (M' := [_, (some _, cellM [_, _])]) rfl ?_
    refine Ops.store (Has.t rfl) (Has.t rfl) (i := 0) rfl ty27 rfl rfl (Ss' := [_, _]) rfl (M' := [(some _, cellM [_, _]), _]) rfl ?_
    refine st (OK1.as (Has.t rfl)) rfl ?_
    refine nl ?_
    refine At.thn (hK5 _ _ ?_); clear hK5
    refine Tri.cv (Cv.wk (.cons (t := 0) (Has.t rfl) (.cons (t := 1) (Has.t rfl) (.cons (t := 4) (Has.t rfl) (.cons (t := 5) (Has.t rfl) (.cons (t := 6) (Has.t rfl) (.cons (t := 7) (Has.t rfl) .nil))))))) ?_
    refine Tri.seq fun K6 hK6 => ?_
    refine Tri.seq fun K7 hK7 => ?_
    refine Tri.region ?_
    refine st (OK1.mv (Has.t rfl)) rfl ?_
    refine st (OK1.len sl22 (Has.t rfl)) rfl ?_
    refine st (OK1.mv (Has.t rfl)) rfl ?_
    refine st (OK1.len sl22 (Has.t rfl)) rfl ?_
    refine st (OK1.neI (Has.t rfl) (Has.t rfl)) rfl ?_
    refine nl ?_
    refine At.thn (hK7 _ _ ?_); clear hK7
    refine Tri.cond (Has.t rfl) (fun hc2 => ?_) (fun hc2 => ?_)
    · have hc2 := BP.t hc2
      have hne : xs.length ≠ ys.length := by omega
      refine Tri.seq fun K8 hK8 => ?_
      refine Tri.region ?_
      refine st (OK1.mv (Has.t rfl)) rfl ?_
      refine st (OK1.eqI (Has.t rfl) (Has.cI 2 rfl)) rfl ?_
      refine st (OK1.mv (Has.t rfl)) rfl ?_
      refine stT rfl rfl (fun hg => have hg' := BP.t hg; OK1.load (Has.t rfl) (i := 1) rfl ty27 rfl (Ss' := [_, _]) rfl) rfl ?_
      refine stT rfl rfl (fun hg => have hg' := BP.t hg; OK1.eq (OK1.call (zint_Sign (by first | with_reducible assumption | omega | (simp only [val_words, zv_nf]; omega))) (.cons (Has.g rfl hg) .nil)) (by first | (simp only [val_words, zv_nf]; rfl) | rfl)) rfl ?_
      refine stT rfl rfl (fun hg => have hg' := BP.t hg; OK1.eqI (Has.g rfl hg) (Has.cI 0 rfl)) rfl ?_
      refine st (OK1.pickAnd (Has.t rfl) (fun h => Has.g rfl h)) rfl ?_
      refine st (OK1.mv (Has.t rfl)) rfl ?_
      refine stT rfl rfl (fun hg => have hg' := BP.t hg; OK1.load (Has.t rfl) (i := 0) rfl ty27 rfl (Ss' := [_, _]) rfl) rfl ?_
      refine stT rfl rfl (fun hg => have hg' := BP.t hg; OK1.eq (OK1.call (zint_Sign (by first | with_reducible assumption | omega | (simp only [val_words, zv_nf]; omega))) (.cons (Has.g rfl hg) .nil)) (by first | (simp only [val_words, zv_nf]; rfl) | rfl)) rfl ?_
      refine stT rfl rfl (fun hg => have hg' := BP.t hg; OK1.eqI (Has.g rfl hg) (Has.cI 0 rfl)) rfl ?_
      refine st (OK1.pickAnd (Has.t rfl) (fun h => Has.g rfl h)) rfl ?_
      refine st (OK1.as (Has.t rfl)) rfl ?_
      refine nl ?_
      refine At.thn (hK8 _ _ ?_); clear hK8
      refine Tri.cv (Cv.wk (.cons (t := 0) (Has.t rfl) (.cons (t := 1) (Has.t rfl) (.cons (t := 4) (Has.t rfl) (.cons (t := 5) (Has.t rfl) (.cons (t := 6) (Has.t rfl) (.cons (t := 7) (Has.t rfl) .nil))))))) ?_
      refine Tri.ret ?_
      refine At.thr ?_
      refine rtX1D (.cons _ (.cons _ .slnil)) (.inl rfl) Try.results3 rfl (.tmp (Has.t rfl) .nil) ?_
      obtain ⟨rfl, rfl, rfl⟩ := crt_shape hR hne
      exact isB_eq (by decide)
    · have hc2 := BP.f hc2
      have hle : xs.length = ys.length := by omega
      refine Tri.skip ?_
      refine At.thn (hK6 _ _ ?_); clear hK6
      refine Tri.cv (Cv.wk (.cons (t := 0) (Has.t rfl) (.cons (t := 1) (Has.t rfl) (.cons (t := 4) (Has.t rfl) (.cons (t := 5) (Has.t rfl) (.cons (t := 6) (Has.t rfl) (.cons (t := 7) (Has.t rfl) .nil))))))) ?_
      refine Tri.seq fun K9 hK9 => ?_
      refine Tri.region ?_
      refine st (OK1.as (Has.cB false)) rfl ?_
      refine st (OK1.as (Has.cB false)) rfl ?_
      refine nl ?_
      refine At.thn (hK9 _ _ ?_); clear hK9
      refine Tri.seq fun K10 hK10 => ?_
      refine Tri.seq fun K11 hK11 => ?_
      refine Tri.region ?_
      refine st (OK1.as (Has.cI 0 rfl)) rfl ?_
      refine nl ?_
      refine At.thn (hK11 _ _ ?_); clear hK11
      refine Tri.block ?_
      refine Tri.loopF [0, 1, 5, 6, 7] (fun (z : { z : Nat × Bool × Bool // z.1 ≤ ys.length ∧ (∀ i, i < z.1 → (ys.getD i (false, [])).2.length ≤ 1 ∧ (xs.getD i (false, [])).2.length ≤ 2) ∧ (z.2.1 = false ↔ psO ys z.1) ∧ (z.2.1 = false → (z.2.2 = true ↔ apO xs ys z.1)) }) => match z with | ⟨(i, b, c), hI⟩ => [(10, isI (i : Int)), (8, isB b), (9, isB c)]) (fun M => fun (z : { z : Nat × Bool × Bool // z.1 ≤ ys.length ∧ (∀ i, i < z.1 → (ys.getD i (false, [])).2.length ≤ 1 ∧ (xs.getD i (false, [])).2.length ≤ 2) ∧ (z.2.1 = false ↔ psO ys z.1) ∧ (z.2.1 = false → (z.2.2 = true ↔ apO xs ys z.1)) }) => match z with | ⟨(i, b, c), hI⟩ => [zM b2 q, zM b1 r]) (fun (z : { z : Nat × Bool × Bool // z.1 ≤ ys.length ∧ (∀ i, i < z.1 → (ys.getD i (false, [])).2.length ≤ 1 ∧ (xs.getD i (false, [])).2.length ≤ 2) ∧ (z.2.1 = false ↔ psO ys z.1) ∧ (z.2.1 = false → (z.2.2 = true ↔ apO xs ys z.1)) }) => match z with | ⟨(i, b, c), hI⟩ => ys.length - i) (⟨(0, false, false), Nat.zero_le _, fun i hi => absurd hi (Nat.not_lt_zero _), ⟨fun _ i hi => absurd hi (Nat.not_lt_zero _), fun _ => rfl⟩, fun _ => ⟨fun h => (by simp at h), fun ⟨i, hi, _⟩ => absurd hi (Nat.not_lt_zero _)⟩⟩) (Cv.mem (.cons (t := 10) (Has.t' rfl ?_) (.cons (t := 8) (Has.t' rfl ?_) (.cons (t := 9) (Has.t' rfl ?_) (.cons (t := 0) (Has.t rfl) (.cons (t := 1) (Has.t rfl) (.cons (t := 5) (Has.t rfl) (.cons (t := 6) (Has.t rfl) (.cons (t := 7) (Has.t rfl) .nil)))))))) ?_) ?_
      · rfl
      · rfl
      · rfl
      · rfl
      rintro ⟨⟨i, b, c⟩, hI⟩ K12 hK12
      refine Tri.cv (Cv.wk (.cons (t := 10) (Has.t rfl) (.cons (t := 8) (Has.t rfl) (.cons (t := 9) (Has.t rfl) (.cons (t := 0) (Has.t rfl) (.cons (t := 1) (Has.t rfl) (.cons (t := 5) (Has.t rfl) (.cons (t := 6) (Has.t rfl) (.cons (t := 7) (Has.t rfl) .nil))))))))) ?_
      refine Tri.memEq (M' := [zM b2 q, zM b1 r]) rfl ?_
      simp only [] at hI
      obtain ⟨hi, hlen, hb, hc⟩ := hI
      refine Tri.seq fun K13 hK13 => ?_
      refine Tri.seq fun K14 hK14 => ?_
      refine Tri.region ?_
      refine st (OK1.mv (Has.t rfl)) rfl ?_
      refine st (OK1.mv (Has.t rfl)) rfl ?_
      refine st (OK1.len sl22 (Has.t rfl)) rfl ?_
      refine st (OK1.ltI (Has.t rfl) (Has.t rfl)) rfl ?_
      refine nl ?_
      refine At.thn (hK14 _ _ ?_); clear hK14
      refine Tri.cond (Has.t rfl) (fun hc3 => ?_) (fun hc3 => ?_)
      · have hc3 := BP.t hc3
        have hYi := hY i
        refine Tri.skip ?_
        refine At.thn (hK13 _ _ ?_); clear hK13
        refine Tri.seq fun K15 hK15 => ?_
        refine Tri.block ?_
        refine Tri.seq fun K16 hK16 => ?_
        refine Tri.seq fun K17 hK17 => ?_
        refine Tri.region ?_
        refine st (OK1.mv (Has.t rfl)) rfl ?_
        refine st (OK1.mv (Has.t rfl)) rfl ?_
        refine st (OK1.ixK sl22 ty27 (Has.t rfl) (Has.t rfl) zc_len ⟨by omega, by omega⟩ (getD_at2 (i := i) (by omega))) rfl ?_
        refine st (OK1.fieldAddrP (Has.t rfl) fld27_1 ty25 (Ss' := [_]) rfl) rfl ?_
        refine st (OK1.loadP1 (Has.t rfl) ty25) rfl ?_
        refine st (OK1.len sl25 (Has.t rfl)) rfl ?_
        refine st (OK1.gtI (Has.t rfl) (Has.cI 1 rfl)) rfl ?_
        refine st (OK1.mv (Has.t rfl)) rfl ?_
        refine stF rfl rfl (fun hg => have hg' := BP.t hg; OK1.mv (Has.t rfl)) rfl ?_
        refine stF rfl rfl (fun hg => have hg' := BP.t hg; OK1.mv (Has.t rfl)) rfl ?_
        refine stF rfl rfl (fun hg => have hg' := BP.t hg; OK1.ixK sl22 ty27 (Has.g rfl hg) (Has.g rfl hg) zc_len ⟨by omega, by omega⟩ (getD_some (d := (false, [])) (by first | omega | (simp only [Int.toNat_natCast, List.length_set]; omega)))) rfl ?_
        refine stF rfl rfl (fun hg => have hg' := BP.t hg; OK1.fieldAddrP (Has.g rfl hg) fld27_1 ty25 (Ss' := [_]) rfl) rfl ?_
        refine stF rfl rfl (fun hg => have hg' := BP.t hg; OK1.loadP1 (Has.g rfl hg) ty25) rfl ?_
        refine stF rfl rfl (fun hg => have hg' := BP.t hg; OK1.len sl25 (Has.g rfl hg)) rfl ?_
        refine stF rfl rfl (fun hg => have hg' := BP.t hg; OK1.gtI (Has.g rfl hg) (Has.cI 2 rfl)) rfl ?_
        refine st (OK1.pickOr (Has.t rfl) (fun h => Has.g rfl (ng h))) rfl ?_
        refine nl ?_
        refine At.thn (hK17 _ _ ?_); clear hK17
        refine Tri.cond (Has.t rfl) (fun hc4 => ?_) (fun hc4 => ?_)
        · have hc4 := BP.t hc4
          skip
          refine Tri.seq fun K18 hK18 => ?_
          refine Tri.region ?_
          refine st (OK1.as (Has.cB true)) rfl ?_
          refine nl ?_
          refine At.thn (hK18 _ _ ?_); clear hK18
          refine Tri.ret ?_
          refine At.thr ?_
          refine At.blr ?_
          refine At.thr ?_
          refine At.thr ?_
          refine At.blr ?_
          refine At.thr ?_
          refine rtX1D (.cons _ (.cons _ .slnil)) (.inl rfl) Try.results3 rfl (.tmp (Has.t rfl) .nil) ?_
          exact rfl
        · have hc4 := BP.f hc4
          have HL := hc4
          simp only [Int.toNat_natCast] at HL
          have hlen2 : ∀ j, j < i + 1 → (ys.getD j (false, [])).2.length ≤ 1 ∧ (xs.getD j (false, [])).2.length ≤ 2 := fun j hj => len_next hlen ⟨by omega, by omega⟩ hj
          obtain ⟨bd, hbd⟩ : ∃ bd, bd = (b || decide (sgn (zi ys i) ≤ 0)) := ⟨_, rfl⟩
          refine Tri.skip ?_
          refine At.thn (hK16 _ _ ?_); clear hK16
          refine Tri.seq fun K19 hK19 => ?_
          refine Tri.region ?_
          refine st (OK1.mv (Has.t rfl)) rfl ?_
          refine st (OK1.mv (Has.t rfl)) rfl ?_
          refine stF rfl rfl (fun hg => have hg' := BP.t hg; OK1.mv (Has.t rfl)) rfl ?_
          refine stF rfl rfl (fun hg => have hg' := BP.t hg; OK1.mv (Has.t rfl)) rfl ?_
          refine stF rfl rfl (fun hg => have hg' := BP.t hg; OK1.ixK sl22 ty27 (Has.g rfl hg) (Has.g rfl hg) zc_len ⟨by omega, by omega⟩ (getD_at2 (i := i) (by omega))) rfl ?_
          refine stF rfl rfl (fun hg => have hg' := BP.t hg; OK1.loadP (Has.g rfl hg) ty27 rfl (Ss' := [_, _]) rfl) rfl ?_
          refine stF rfl rfl (fun hg => have hg' := BP.t hg; OK1.call (zint_Sign (by first | with_reducible assumption | omega | (simp only [val_words, zv_nf]; omega))) (.cons (Has.g rfl hg) .nil)) rfl ?_
          refine stF rfl rfl (fun hg => have hg' := BP.t hg; OK1.leI (Has.g rfl hg) (Has.cI 0 rfl)) rfl ?_
          refine st (OK1.pickOr (Has.t rfl) (fun h => Has.g rfl (ng h))) rfl ?_
          refine st (OK1.as (Has.t rfl)) rfl ?_
          refine nl ?_
          refine At.thn (hK19 _ _ ?_); clear hK19
          refine Tri.seq fun K20 hK20 => ?_
          refine Tri.region ?_
          refine st (OK1.as (Has.cI 0 rfl)) rfl ?_
          refine nl ?_
          refine At.thn (hK20 _ _ ?_); clear hK20
          refine Tri.block ?_
          refine Tri.loopF [0, 1, 5, 6, 7, 10, 8, 53, 54, 55, 56, 59, 60, 61, 62, 63, 64, 65, 66, 67, 68, 69, 70, 71, 72, 73, 74, 75, 76, 77, 78, 79, 80, 81, 82, 83] (fun (z : { z : Nat × Bool // z.1 ≤ i ∧ (bd = false → (z.2 = true ↔ apO xs ys i ∨ ∃ k, k < z.1 ∧ apN xs ys i k)) }) => match z with | ⟨(k, c2), hK⟩ => [(11, isI (k : Int)), (9, isB c2)]) (fun M => fun (z : { z : Nat × Bool // z.1 ≤ i ∧ (bd = false → (z.2 = true ↔ apO xs ys i ∨ ∃ k, k < z.1 ∧ apN xs ys i k)) }) => match z with | ⟨(k, c2), hK⟩ => [zM b2 q, zM b1 r]) (fun (z : { z : Nat × Bool // z.1 ≤ i ∧ (bd = false → (z.2 = true ↔ apO xs ys i ∨ ∃ k, k < z.1 ∧ apN xs ys i k)) }) => match z with | ⟨(k, c2), hK⟩ => i - k) (⟨(0, c), Nat.zero_le _, fun h => ap_init (hc (bo_left (hbd.symm.trans h)))⟩) (Cv.mem (.cons (t := 11) (Has.t' rfl ?_) (.cons (t := 9) (Has.t' rfl ?_) (.cons (t := 0) (Has.t rfl) (.cons (t := 1) (Has.t rfl) (.cons (t := 5) (Has.t rfl) (.cons (t := 6) (Has.t rfl) (.cons (t := 7) (Has.t rfl) (.cons (t := 10) (Has.t rfl) (.cons (t := 8) (Has.t rfl) (.cons (t := 53) (Has.t rfl) (.cons (t := 54) (Has.t rfl) (.cons (t := 55) (Has.t rfl) (.cons (t := 56) (Has.t rfl) (.cons (t := 59) (Has.t rfl) (.cons (t := 60) (Has.t rfl) (.cons (t := 61) (Has.t rfl) (.cons (t := 62) (Has.t rfl) (.cons (t := 63) (Has.t rfl) (.cons (t := 64) (Has.t rfl) (.cons (t := 65) (Has.t rfl) (.cons (t := 66) (Has.t rfl) (.cons (t := 67) (Has.t rfl) (.cons (t := 68) (Has.t rfl) (.cons (t := 69) (Has.t rfl) (.cons (t := 70) (Has.t rfl) (.cons (t := 71) (Has.t rfl) (.cons (t := 72) (Has.t rfl) (.cons (t := 73) (Has.t rfl) (.cons (t := 74) (Has.t rfl) (.cons (t := 75) (Has.t rfl) (.cons (t := 76) (Has.t rfl) (.cons (t := 77) (Has.t rfl) (.cons (t := 78) (Has.t rfl) (.cons (t := 79) (Has.t rfl) (.cons (t := 80) (Has.t rfl) (.cons (t := 81) (Has.t rfl) (.cons (t := 82) (Has.t rfl) (.cons (t := 83) (Has.t rfl) .nil)))))))))))))))))))))))))))))))))))))) ?_) ?_
          · rfl
          · rfl
          · rfl
          rintro ⟨⟨k, c2⟩, hK⟩ K21 hK21
          refine Tri.cv (Cv.wk (.cons (t := 11) (Has.t rfl) (.cons (t := 9) (Has.t rfl) (.cons (t := 0) (Has.t rfl) (.cons (t := 1) (Has.t rfl) (.cons (t := 5) (Has.t rfl) (.cons (t := 6) (Has.t rfl) (.cons (t := 7) (Has.t rfl) (.cons (t := 10) (Has.t rfl) (.cons (t := 8) (Has.t rfl) (.cons (t := 53) (Has.t rfl) (.cons (t := 54) (Has.t rfl) (.cons (t := 55) (Has.t rfl) (.cons (t := 56) (Has.t rfl) (.cons (t := 59) (Has.t rfl) (.cons (t := 60) (Has.t rfl) (.cons (t := 61) (Has.t rfl) (.cons (t := 62) (Has.t rfl) (.cons (t := 63) (Has.t rfl) (.cons (t := 64) (Has.t rfl) (.cons (t := 65) (Has.t rfl) (.cons (t := 66) (Has.t rfl) (.cons (t := 67) (Has.t rfl) (.cons (t := 68) (Has.t rfl) (.cons (t := 69) (Has.t rfl) (.cons (t := 70) (Has.t rfl) (.cons (t := 71) (Has.t rfl) (.cons (t := 72) (Has.t rfl) (.cons (t := 73) (Has.t rfl) (.cons (t := 74) (Has.t rfl) (.cons (t := 75) (Has.t rfl) (.cons (t := 76) (Has.t rfl) (.cons (t := 77) (Has.t rfl) (.cons (t := 78) (Has.t rfl) (.cons (t := 79) (Has.t rfl) (.cons (t := 80) (Has.t rfl) (.cons (t := 81) (Has.t rfl) (.cons (t := 82) (Has.t rfl) (.cons (t := 83) (Has.t rfl) .nil))))))))))))))))))))))))))))))))))))))) ?_
          refine Tri.memEq (M' := [zM b2 q, zM b1 r]) rfl ?_
          simp only [] at hK
          obtain ⟨hk, hap⟩ := hK
          refine Tri.seq fun K22 hK22 => ?_
          refine Tri.seq fun K23 hK23 => ?_
          refine Tri.region ?_
          refine st (OK1.mv (Has.t rfl)) rfl ?_
          refine st (OK1.mv (Has.t rfl)) rfl ?_
          refine st (OK1.ltI (Has.t rfl) (Has.t rfl)) rfl ?_
          refine st (OK1.mv (Has.t rfl)) rfl ?_
          refine stT rfl rfl (fun hg => have hg' := BP.t hg; OK1.mv (Has.t rfl)) rfl ?_
          refine stT rfl rfl (fun hg => have hg' := BP.t hg; OK1.not (Has.g rfl hg)) rfl ?_
          refine st (OK1.pickAnd (Has.t rfl) (fun h => Has.g rfl h)) rfl ?_
          refine nl ?_
          refine At.thn (hK23 _ _ ?_); clear hK23
          refine Tri.cond (Has.t rfl) (fun hc5 => ?_) (fun hc5 => ?_)
          · have hc5 := BP.t hc5
            have hk1 : k < i := by omega
            have hpi : 0 < zi ys i := (sgn_pos _).1 hc5.2.2
            have hgw := g_small hpi (Nat.le_trans (sz_at (fun p hp => (okp1 p hp).1) i) (hlen2 i (by omega)).1) (zi ys k)
            have hYk := hY k
            refine Tri.skip ?_
            refine At.thn (hK22 _ _ ?_); clear hK22
            refine Tri.seq fun K24 hK24 => ?_
            refine Tri.block ?_
            refine Tri.dr ?_
            refine DrG.st (i := 0) [] rfl rfl rfl (by kernel_rfl) (OKG.o rfl (OK1.mv (Has.t rfl))) ?_
            refine DrG.st (i := 1) [93] rfl rfl rfl (by kernel_rfl) (OKG.o rfl (OK1.mv (Has.t rfl))) ?_
            refine DrG.st (i := 2) [94] rfl rfl rfl (by kernel_rfl) (OKG.F rfl rfl rfl (fun hg => have hg' := BP.t hg; OK1.mv (Has.t rfl))) ?_
            refine DrG.st (i := 3) [94] rfl rfl rfl (by kernel_rfl) (OKG.F rfl rfl rfl (fun hg => have hg' := BP.t hg; OK1.mv (Has.t rfl))) ?_
            refine DrG.st (i := 4) [94, 95, 96] rfl rfl rfl (by kernel_rfl) (OKG.F rfl rfl rfl (fun hg => have hg' := BP.t hg; OK1.ixK sl22 ty27 (Has.g rfl hg) (Has.g rfl hg) zc_len ⟨by omega, by omega⟩ (getD_at2 (i := i) (by omega)))) ?_
            refine DrG.st (i := 5) [94, 97] rfl rfl rfl (by kernel_rfl) (OKG.F rfl rfl rfl (fun hg => have hg' := BP.t hg; OK1.loadP (Has.g rfl hg) ty27 rfl (Ss' := [_, _]) rfl)) ?_
            refine DrG.st (i := 6) [94] rfl rfl rfl (by kernel_rfl) (OKG.F rfl rfl rfl (fun hg => have hg' := BP.t hg; OK1.mv (Has.t rfl))) ?_
            refine DrG.st (i := 7) [94] rfl rfl rfl (by kernel_rfl) (OKG.F rfl rfl rfl (fun hg => have hg' := BP.t hg; OK1.mv (Has.t rfl))) ?_
            refine DrG.st (i := 8) [94, 99, 100] rfl rfl rfl (by kernel_rfl) (OKG.F rfl rfl rfl (fun hg => have hg' := BP.t hg; OK1.ixK sl22 ty27 (Has.g rfl hg) (Has.g rfl hg) zc_len ⟨by omega, by omega⟩ (getD_at2 (i := k) (by omega)))) ?_
            refine DrG.st (i := 9) [94, 101] rfl rfl rfl (by kernel_rfl) (OKG.F rfl rfl rfl (fun hg => have hg' := BP.t hg; OK1.loadP (Has.g rfl hg) ty27 rfl (Ss' := [_, _]) rfl)) ?_
            refine DrG.st (i := 10) [94] rfl rfl rfl (by kernel_rfl) (OKG.F rfl rfl rfl (fun hg => have hg' := BP.t hg; OK1.mv (Has.t rfl))) ?_
            refine DrG.st (i := 11) [94] rfl rfl rfl (by kernel_rfl) (OKG.F rfl rfl rfl (fun hg => have hg' := BP.t hg; OK1.mv (Has.t rfl))) ?_
            refine DrG.st (i := 12) [94, 103, 104] rfl rfl rfl (by kernel_rfl) (OKG.F rfl rfl rfl (fun hg => have hg' := BP.t hg; OK1.ixK sl22 ty27 (Has.g rfl hg) (Has.g rfl hg) zc_len ⟨by omega, by omega⟩ (getD_at2 (i := i) (by omega)))) ?_
            refine DrG.st (i := 13) [94, 105] rfl rfl rfl (by kernel_rfl) (OKG.F rfl rfl rfl (fun hg => have hg' := BP.t hg; OK1.loadP (Has.g rfl hg) ty27 rfl (Ss' := [_, _]) rfl)) ?_
            refine DrG.st (i := 14) [94] rfl rfl rfl (by kernel_rfl) (OKG.F rfl rfl rfl (fun hg => have hg' := BP.t hg; OK1.mv (Has.t rfl))) ?_
            refine DrG.st (i := 15) [94] rfl rfl rfl (by kernel_rfl) (OKG.F rfl rfl rfl (fun hg => have hg' := BP.t hg; OK1.mv (Has.t rfl))) ?_
            refine DrG.st (i := 16) [94, 107, 108] rfl rfl rfl (by kernel_rfl) (OKG.F rfl rfl rfl (fun hg => have hg' := BP.t hg; OK1.ixK sl22 ty27 (Has.g rfl hg) (Has.g rfl hg) zc_len ⟨by omega, by omega⟩ (getD_at2 (i := k) (by omega)))) ?_
            refine DrG.st (i := 17) [94, 109] rfl rfl rfl (by kernel_rfl) (OKG.F rfl rfl rfl (fun hg => have hg' := BP.t hg; OK1.loadP (Has.g rfl hg) ty27 rfl (Ss' := [_, _]) rfl)) ?_
            refine DrG.st (i := 18) [94, 106, 110] rfl rfl rfl (by kernel_rfl) (OKG.F rfl rfl rfl (fun hg => have hg' := BP.t hg; OK1.eq (OK1.call (zint_Gcd (by first | with_reducible assumption | omega | (simp only [val_words, zv_nf]; omega)) (by first | with_reducible assumption | omega | (simp only [val_words, zv_nf]; omega))) (.cons (Has.g rfl hg) (.cons (Has.g rfl hg) .nil))) ((show isZ _ = isZ (Go.Cr.G (zi ys i) (zi ys k)) from isZ_eq (by show _ = ((Nat.gcd (zv _ _).natAbs (zv _ _).natAbs : Nat) : Int); rw [zv_abs, zv_abs]))))) ?_
            refine DrG.fin (n := 19) mixed (by kernel_rfl) (by kernel_rfl) (by kernel_rfl) ?_
            refine Ops.cv (Cv.wk (.cons (t := 0) (Has.t rfl) (.cons (t := 1) (Has.t rfl) (.cons (t := 5) (Has.t rfl) (.cons (t := 6) (Has.t rfl) (.cons (t := 7) (Has.t rfl) (.cons (t := 10) (Has.t rfl) (.cons (t := 8) (Has.t rfl) (.cons (t := 53) (Has.t rfl) (.cons (t := 54) (Has.t rfl) (.cons (t := 55) (Has.t rfl) (.cons (t := 56) (Has.t rfl) (.cons (t := 59) (Has.t rfl) (.cons (t := 60) (Has.t rfl) (.cons (t := 61) (Has.t rfl) (.cons (t := 62) (Has.t rfl) (.cons (t := 63) (Has.t rfl) (.cons (t := 64) (Has.t rfl) (.cons (t := 65) (Has.t rfl) (.cons (t := 66) (Has.t rfl) (.cons (t := 67) (Has.t rfl) (.cons (t := 68) (Has.t rfl) (.cons (t := 69) (Has.t rfl) (.cons (t := 70) (Has.t rfl) (.cons (t := 71) (Has.t rfl) (.cons (t := 72) (Has.t rfl) (.cons (t := 73) (Has.t rfl) (.cons (t := 74) (Has.t rfl) (.cons (t := 75) (Has.t rfl) (.cons (t := 76) (Has.t rfl) (.cons (t := 77) (Has.t rfl) (.cons (t := 78) (Has.t rfl) (.cons (t := 79) (Has.t rfl) (.cons (t := 80) (Has.t rfl) (.cons (t := 81) (Has.t rfl) (.cons (t := 82) (Has.t rfl) (.cons (t := 83) (Has.t rfl) (.cons (t := 11) (Has.t rfl) (.cons (t := 9) (Has.t rfl) (.cons (t := 84) (Has.t rfl) (.cons (t := 85) (Has.t rfl) (.cons (t := 86) (Has.t rfl) (.cons (t := 87) (Has.t rfl) (.cons (t := 88) (Has.t rfl) (.cons (t := 89) (Has.t rfl) (.cons (t := 90) (Has.t rfl) (.cons (t := 93) (Has.t rfl) (.cons (t := 94) (Has.t rfl) (.cons (t := 95) (Has.t rfl) (.cons (t := 96) (Has.t rfl) (.cons (t := 97) (Has.t rfl) (.cons (t := 98) (Has.t rfl) (.cons (t := 99) (Has.t rfl) (.cons (t := 100) (Has.t rfl) (.cons (t := 101) (Has.t rfl) (.cons (t := 102) (Has.t rfl) (.cons (t := 103) (Has.t rfl) (.cons (t := 104) (Has.t rfl) (.cons (t := 105) (Has.t rfl) (.cons (t := 106) (Has.t rfl) (.cons (t := 107) (Has.t rfl) (.cons (t := 108) (Has.t rfl) (.cons (t := 109) (Has.t rfl) (.cons (t := 110) (Has.t rfl) (.cons (t := 111) (Has.t rfl) .nil))))))))))))))))))))))))))))))))))))))))))))))))))))))))))))))))) ?_
            refine stF rfl rfl (fun hg => have hg' := BP.t hg; OK1.eq (OK1.call (ref06_Congruent (by have := (hlen2 i (by omega)).2; omega) (by have := (hlen2 k (by omega)).2; omega) (by omega) (by rw [zv_nf]; exact Go.Cr.G_pos hpi)) (.cons (Has.g rfl hg) (.cons (Has.g rfl hg) (.cons (Has.g rfl hg) .nil)))) ((show isB _ = isB (decide (Go.Cr.G (zi ys i) (zi ys k) ∣ zi xs i - zi xs k)) from isB_eq (decide_eq_decide.2 (by rw [zv_nf]))))) rfl ?_
            refine stF rfl rfl (fun hg => have hg' := BP.t hg; OK1.not (Has.g rfl hg)) rfl ?_
            refine st (OK1.pickOr (Has.t rfl) (fun h => Has.g rfl (ng h))) rfl ?_
            refine st (OK1.as (Has.t rfl)) rfl ?_
            refine nl ?_
            refine At.bln ?_
            refine At.thn (hK24 _ _ ?_); clear hK24
            refine Tri.region ?_
            refine st (OK1.mv (Has.t rfl)) rfl ?_
            refine st (OK1.addI (Has.t rfl) (Has.cI 1 rfl) (by first | with_reducible assumption | omega | (simp only [val_words, zv_nf]; omega)) (by first | with_reducible assumption | omega | (simp only [val_words, zv_nf]; omega))) rfl ?_
            refine st (OK1.as (Has.t rfl)) rfl ?_
            refine nl ?_
            refine At.thn ?_
            refine hK21 (⟨(k + 1, c2 || !decide (Go.Cr.G (zi ys i) (zi ys k) ∣ zi xs i - zi xs k)), by show k + 1 ≤ i; omega, fun h => ap_step (hap h)⟩) _ _ ?_ (Cv.mem (.cons (t := 11) (Has.t' rfl ?_) (.cons (t := 9) (Has.t' rfl ?_) (.cons (t := 0) (Has.t rfl) (.cons (t := 1) (Has.t rfl) (.cons (t := 5) (Has.t rfl) (.cons (t := 6) (Has.t rfl) (.cons (t := 7) (Has.t rfl) (.cons (t := 10) (Has.t rfl) (.cons (t := 8) (Has.t rfl) (.cons (t := 53) (Has.t rfl) (.cons (t := 54) (Has.t rfl) (.cons (t := 55) (Has.t rfl) (.cons (t := 56) (Has.t rfl) (.cons (t := 59) (Has.t rfl) (.cons (t := 60) (Has.t rfl) (.cons (t := 61) (Has.t rfl) (.cons (t := 62) (Has.t rfl) (.cons (t := 63) (Has.t rfl) (.cons (t := 64) (Has.t rfl) (.cons (t := 65) (Has.t rfl) (.cons (t := 66) (Has.t rfl) (.cons (t := 67) (Has.t rfl) (.cons (t := 68) (Has.t rfl) (.cons (t := 69) (Has.t rfl) (.cons (t := 70) (Has.t rfl) (.cons (t := 71) (Has.t rfl) (.cons (t := 72) (Has.t rfl) (.cons (t := 73) (Has.t rfl) (.cons (t := 74) (Has.t rfl) (.cons (t := 75) (Has.t rfl) (.cons (t := 76) (Has.t rfl) (.cons (t := 77) (Has.t rfl) (.cons (t := 78) (Has.t rfl) (.cons (t := 79) (Has.t rfl) (.cons (t := 80) (Has.t rfl) (.cons (t := 81) (Has.t rfl) (.cons (t := 82) (Has.t rfl) (.cons (t := 83) (Has.t rfl) .nil)))))))))))))))))))))))))))))))))))))) ?_)
            · show i - (k + 1) < i - k; omega
            · rfl
            · rfl
            · rfl
          · have hc5 := BP.f hc5
            have hap2 : bd = false → (c2 = true ↔ apO xs ys i ∨ ∃ k, k < i ∧ apN xs ys i k) := fun h => ap_exit hc5 hk hbd hap h
            refine Tri.exit ?_
            refine At.the ?_
            refine At.the ?_
            refine At.blh ?_
            refine At.bln ?_
            refine At.thn (hK15 _ _ ?_); clear hK15
            refine Tri.region ?_
            refine st (OK1.mv (Has.t rfl)) rfl ?_
            refine st (OK1.addI (Has.t rfl) (Has.cI 1 rfl) (by first | with_reducible assumption | omega | (simp only [val_words, zv_nf]; omega)) (by first | with_reducible assumption | omega | (simp only [val_words, zv_nf]; omega))) rfl ?_
            refine st (OK1.as (Has.t rfl)) rfl ?_
            refine nl ?_
            refine At.thn ?_
            refine hK12 (⟨(i + 1, bd, c2), by show i + 1 ≤ _; omega, hlen2, by show bd = false ↔ _; rw [hbd]; exact ps_next hb, fun h => ap_next (hap2 h)⟩) _ _ ?_ (Cv.mem (.cons (t := 10) (Has.t' rfl ?_) (.cons (t := 8) (Has.t' rfl ?_) (.cons (t := 9) (Has.t' rfl ?_) (.cons (t := 0) (Has.t rfl) (.cons (t := 1) (Has.t rfl) (.cons (t := 5) (Has.t rfl) (.cons (t := 6) (Has.t rfl) (.cons (t := 7) (Has.t rfl) .nil)))))))) ?_)
            · show ys.length - (i + 1) < ys.length - i; omega
            · exact isI_eq (by omega)
            · exact isB_eq hbd.symm
            · rfl
            · rfl
      · have hc3 := BP.f hc3
        obtain rfl : i = ys.length := by omega
        refine Tri.exit ?_
        refine At.the ?_
        refine At.the ?_
        refine At.blh ?_
        refine At.thn (hK10 _ _ ?_); clear hK10
        refine Tri.cv (Cv.wk (.cons (t := 0) (Has.t rfl) (.cons (t := 1) (Has.t rfl) (.cons (t := 5) (Has.t rfl) (.cons (t := 6) (Has.t rfl) (.cons (t := 7) (Has.t rfl) (.cons (t := 8) (Has.t rfl) (.cons (t := 9) (Has.t rfl) .nil)))))))) ?_
        refine Tri.seq fun K25 hK25 => ?_
        refine Tri.seq fun K26 hK26 => ?_
        refine Tri.region ?_
        refine st (OK1.mv (Has.t rfl)) rfl ?_
        refine st (OK1.mv (Has.t rfl)) rfl ?_
        refine stF rfl rfl (fun hg => have hg' := BP.t hg; OK1.mv (Has.t rfl)) rfl ?_
        refine st (OK1.pickOr (Has.t rfl) (fun h => Has.g rfl (ng h))) rfl ?_
        refine nl ?_
        refine At.thn (hK26 _ _ ?_); clear hK26
        refine Tri.cond (Has.t rfl) (fun hc6 => ?_) (fun hc6 => ?_)
        · have hc6 := BP.t hc6
          have HB : b = true ∨ c = true := hc6
          refine Tri.seq fun K27 hK27 => ?_
          refine Tri.region ?_
          refine st (OK1.mv (Has.t rfl)) rfl ?_
          refine st (OK1.eqI (Has.t rfl) (Has.cI 1 rfl)) rfl ?_
          refine st (OK1.mv (Has.t rfl)) rfl ?_
          refine st (OK1.eqB (du := un4) rfl (Has.t rfl) (Has.t rfl)) rfl ?_
          refine st (OK1.mv (Has.t rfl)) rfl ?_
          refine stT rfl rfl (fun hg => have hg' := BP.t hg; OK1.mv (Has.t rfl)) rfl ?_
          refine stT rfl rfl (fun hg => have hg' := BP.t hg; OK1.eqI (Has.g rfl hg) (Has.cI 10 rfl)) rfl ?_
          refine stT rfl rfl (fun hg => have hg' := BP.t hg; OK1.mv (Has.t rfl)) rfl ?_
          refine stT rfl rfl (fun hg => have hg' := BP.t hg; OK1.not (Has.g rfl hg)) rfl ?_
          refine stT rfl rfl (fun hg => have hg' := BP.t hg; OK1.eqB (du := un4) rfl (Has.g rfl hg) (Has.g rfl hg)) rfl ?_
          refine st (OK1.pickAnd (Has.t rfl) (fun h => Has.g rfl h)) rfl ?_
          refine st (OK1.mv (Has.t rfl)) rfl ?_
          refine stT rfl rfl (fun hg => have hg' := BP.t hg; OK1.load (Has.t rfl) (i := 1) rfl ty27 rfl (Ss' := [_, _]) rfl) rfl ?_
          refine stT rfl rfl (fun hg => have hg' := BP.t hg; OK1.eq (OK1.call (zint_Sign (by first | with_reducible assumption | omega | (simp only [val_words, zv_nf]; omega))) (.cons (Has.g rfl hg) .nil)) (by first | (simp only [val_words, zv_nf]; rfl) | rfl)) rfl ?_
          refine stT rfl rfl (fun hg => have hg' := BP.t hg; OK1.eqI (Has.g rfl hg) (Has.cI 0 rfl)) rfl ?_
          refine st (OK1.pickAnd (Has.t rfl) (fun h => Has.g rfl h)) rfl ?_
          refine st (OK1.mv (Has.t rfl)) rfl ?_
          refine stT rfl rfl (fun hg => have hg' := BP.t hg; OK1.load (Has.t rfl) (i := 0) rfl ty27 rfl (Ss' := [_, _]) rfl) rfl ?_
          refine stT rfl rfl (fun hg => have hg' := BP.t hg; OK1.eq (OK1.call (zint_Sign (by first | with_reducible assumption | omega | (simp only [val_words, zv_nf]; omega))) (.cons (Has.g rfl hg) .nil)) (by first | (simp only [val_words, zv_nf]; rfl) | rfl)) rfl ?_
          refine stT rfl rfl (fun hg => have hg' := BP.t hg; OK1.eqI (Has.g rfl hg) (Has.cI 0 rfl)) rfl ?_
          refine st (OK1.pickAnd (Has.t rfl) (fun h => Has.g rfl h)) rfl ?_
          refine st (OK1.as (Has.t rfl)) rfl ?_
          refine nl ?_
          refine At.thn (hK27 _ _ ?_); clear hK27
          refine Tri.cv (Cv.wk (.cons (t := 0) (Has.t rfl) (.cons (t := 1) (Has.t rfl) (.cons (t := 5) (Has.t rfl) (.cons (t := 6) (Has.t rfl) (.cons (t := 7) (Has.t rfl) (.cons (t := 4) (Has.t rfl) .nil))))))) ?_
          refine Tri.ret ?_
          refine At.thr ?_
          refine rtX1D (.cons _ (.cons _ .slnil)) (.inl rfl) Try.results3 rfl (.tmp (Has.t rfl) .nil) ?_
          obtain ⟨rfl, rfl, h⟩ := crt_bad hR hle hb hc HB
          rcases h with ⟨rfl, rfl⟩ | ⟨rfl, rfl⟩ <;> exact isB_eq (by decide)
        · have hc6 := BP.f hc6
          obtain ⟨hbf, hcf⟩ := hc6
          have hps := hb.1 hbf
          obtain ⟨rfl, h0, h1, hP⟩ := crt_good hR hle hps (fun h => by have := (hc hbf).2 h; rw [hcf] at this; simp at this)
          have hPr := (hP r).1 (by rw [Int.sub_self]; exact Int.dvd_zero _)
          have hY1 : ∀ i, i < ys.length → (List.length (words (val (ys.getD i (false, [])).2))) ≤ 1 := fun i hi => Nat.le_trans (sz_at (fun p hp => (okp1 p hp).1) i) (hlen i hi).1
          obtain ⟨hr7, hq7⟩ : (List.length (words r.natAbs)) ≤ 7 ∧ (List.length (words q.natAbs)) ≤ 7 := by
            have hY2 : ∀ i, (List.length (words (val (ys.getD i (false, [])).2))) ≤ 1 := fun i => by
              rcases Nat.lt_or_ge i ys.length with g | g
              · exact hY1 i g
              · rw [List.getD_eq_getElem?_getD, List.getElem?_eq_none g]; exact Nat.le_trans (Nat.le_of_eq (congrArg List.length words_zero)) (by decide)
            have := crt_sizeR hR hY2
            omega
          refine Tri.skip ?_
          refine At.thn (hK25 _ _ ?_); clear hK25
          refine Tri.cv (Cv.wk (.cons (t := 0) (Has.t rfl) (.cons (t := 1) (Has.t rfl) (.cons (t := 5) (Has.t rfl) (.cons (t := 6) (Has.t rfl) (.cons (t := 7) (Has.t rfl) .nil)))))) ?_
          refine Tri.seq fun K28 hK28 => ?_
          refine Tri.region ?_
          refine st (OK1.call (zint_Of) (.cons (Has.cI 1 rfl) .nil)) rfl ?_
          refine Ops.alloc [isB false, SlM isU []] zero27 (fun _ _ => ⟨rfl, nilM _ _, trivial⟩) rfl fun b3 => ?_
          refine Ops.store (Has.t rfl) (Has.t rfl) (i := 0) rfl ty27 rfl rfl (Ss' := [_, _]) rfl (M' := [(some _, cellM [_, _]), _, _]) rfl ?_
          refine nl ?_
          refine At.thn (hK28 _ _ ?_); clear hK28
          refine Tri.seq fun K29 hK29 => ?_
          refine Tri.seq fun K30 hK30 => ?_
          refine Tri.region ?_
          refine st (OK1.as (Has.cI 0 rfl)) rfl ?_
          refine nl ?_
          refine At.thn (hK30 _ _ ?_); clear hK30
          refine Tri.block ?_
          refine Tri.loopF [0, 1, 5, 6, 7, 12] (fun (z : { z : Nat × Int // z.1 ≤ ys.length ∧ 0 < z.2 ∧ (List.length (words z.2.natAbs)) ≤ z.1 + 1 ∧ ∀ d, z.2 ∣ d ↔ ∀ i, i < z.1 → zi ys i ∣ d }) => match z with | ⟨(i, l), hI⟩ => [(13, isI (i : Int))]) (fun M => fun (z : { z : Nat × Int // z.1 ≤ ys.length ∧ 0 < z.2 ∧ (List.length (words z.2.natAbs)) ≤ z.1 + 1 ∧ ∀ d, z.2 ∣ d ↔ ∀ i, i < z.1 → zi ys i ∣ d }) => match z with | ⟨(i, l), hI⟩ => [zM b3 l, zM b2 q, zM b1 r]) (fun (z : { z : Nat × Int // z.1 ≤ ys.length ∧ 0 < z.2 ∧ (List.length (words z.2.natAbs)) ≤ z.1 + 1 ∧ ∀ d, z.2 ∣ d ↔ ∀ i, i < z.1 → zi ys i ∣ d }) => match z with | ⟨(i, l), hI⟩ => ys.length - i) (⟨(0, 1), Nat.zero_le _, Int.one_pos, Nat.le_of_eq nz_one, fun d => ⟨fun _ i hi => absurd hi (Nat.not_lt_zero _), fun _ => Int.one_dvd _⟩⟩) (Cv.mem (.cons (t := 13) (Has.t' rfl ?_) (.cons (t := 0) (Has.t rfl) (.cons (t := 1) (Has.t rfl) (.cons (t := 5) (Has.t rfl) (.cons (t := 6) (Has.t rfl) (.cons (t := 7) (Has.t rfl) (.cons (t := 12) (Has.t rfl) .nil))))))) ?_) ?_
          · rfl
          · rfl
          rintro ⟨⟨i, l⟩, hI⟩ K31 hK31
          refine Tri.cv (Cv.wk (.cons (t := 13) (Has.t rfl) (.cons (t := 0) (Has.t rfl) (.cons (t := 1) (Has.t rfl) (.cons (t := 5) (Has.t rfl) (.cons (t := 6) (Has.t rfl) (.cons (t := 7) (Has.t rfl) (.cons (t := 12) (Has.t rfl) .nil)))))))) ?_
          refine Tri.memEq (M' := [zM b3 l, zM b2 q, zM b1 r]) rfl ?_
          simp only [] at hI
          obtain ⟨hi, hl0, hlw, hld⟩ := hI
          refine Tri.seq fun K32 hK32 => ?_
          refine Tri.seq fun K33 hK33 => ?_
          refine Tri.region ?_
          refine st (OK1.mv (Has.t rfl)) rfl ?_
          refine st (OK1.mv (Has.t rfl)) rfl ?_
          refine st (OK1.len sl22 (Has.t rfl)) rfl ?_
          refine st (OK1.ltI (Has.t rfl) (Has.t rfl)) rfl ?_
          refine nl ?_
          refine At.thn (hK33 _ _ ?_); clear hK33
          refine Tri.cond (Has.t rfl) (fun hc7 => ?_) (fun hc7 => ?_)
          · have hc7 := BP.t hc7
            have hi1 : i < ys.length := by omega
            have hMi := hps i hi1
            have hYi := hY1 i hi1
            have hln := lcm_next hl0 hMi hld
            have hgl := g_left hl0 (zi ys i)
            have hmw := nz_mul l (zi ys i)
            have hzw : (List.length (words (zi ys i).natAbs)) = (List.length (words (val (ys.getD i (false, [])).2))) := zv_nw _ _
            have hlw2 : (List.length (words (Go.Cr.mM l (zi ys i)).natAbs)) ≤ i + 1 + 1 := by rw [← hln.1]; have := nz_tdiv (l * zi ys i) (Go.Cr.G l (zi ys i)); omega
            refine Tri.skip ?_
            refine At.thn (hK32 _ _ ?_); clear hK32
            refine Tri.seq fun K34 hK34 => ?_
            refine Tri.block ?_
            refine Tri.seq fun K35 hK35 => ?_
            refine Tri.seq fun K36 hK36 => ?_
            refine Tri.dr ?_
            refine DrG.st (i := 0) [] rfl rfl rfl (by kernel_rfl) (OKG.o rfl (OK1.load (Has.t rfl) (i := 2) rfl ty27 rfl (Ss' := [_, _]) rfl)) ?_
            refine DrG.st (i := 1) [] rfl rfl rfl (by kernel_rfl) (OKG.o rfl (OK1.mv (Has.t rfl))) ?_
            refine DrG.st (i := 2) [] rfl rfl rfl (by kernel_rfl) (OKG.o rfl (OK1.mv (Has.t rfl))) ?_
            refine DrG.st (i := 3) [148, 149] rfl rfl rfl (by kernel_rfl) (OKG.o rfl (OK1.ixK sl22 ty27 (Has.t rfl) (Has.t rfl) zc_len ⟨by omega, by omega⟩ (getD_at2 (i := i) (by omega)))) ?_
            refine DrG.st (i := 4) [150] rfl rfl rfl (by kernel_rfl) (OKG.o rfl (OK1.loadP (Has.t rfl) ty27 rfl (Ss' := [_, _]) rfl)) ?_
            refine DrG.st (i := 5) [] rfl rfl rfl (by kernel_rfl) (OKG.o rfl (OK1.mv (Has.t rfl))) ?_
            refine DrG.st (i := 6) [] rfl rfl rfl (by kernel_rfl) (OKG.o rfl (OK1.mv (Has.t rfl))) ?_
            refine DrG.st (i := 7) [152, 153] rfl rfl rfl (by kernel_rfl) (OKG.o rfl (OK1.ixK sl22 ty27 (Has.t rfl) (Has.t rfl) zc_len ⟨by omega, by omega⟩ (getD_at2 (i := i) (by omega)))) ?_
            refine DrG.st (i := 8) [154] rfl rfl rfl (by kernel_rfl) (OKG.o rfl (OK1.loadP (Has.t rfl) ty27 rfl (Ss' := [_, _]) rfl)) ?_
            refine DrG.fin (n := 9) mixed (by kernel_rfl) (by kernel_rfl) (by kernel_rfl) ?_
            refine Ops.cv (Cv.wk (.cons (t := 0) (Has.t rfl) (.cons (t := 1) (Has.t rfl) (.cons (t := 5) (Has.t rfl) (.cons (t := 6) (Has.t rfl) (.cons (t := 7) (Has.t rfl) (.cons (t := 12) (Has.t rfl) (.cons (t := 13) (Has.t rfl) (.cons (t := 141) (Has.t rfl) (.cons (t := 142) (Has.t rfl) (.cons (t := 143) (Has.t rfl) (.cons (t := 144) (Has.t rfl) (.cons (t := 147) (Has.t rfl) (.cons (t := 148) (Has.t rfl) (.cons (t := 149) (Has.t rfl) (.cons (t := 150) (Has.t rfl) (.cons (t := 151) (Has.t rfl) (.cons (t := 152) (Has.t rfl) (.cons (t := 153) (Has.t rfl) (.cons (t := 154) (Has.t rfl) (.cons (t := 155) (Has.t rfl) .nil))))))))))))))))))))) ?_
            refine st (OK1.eq (OK1.call (ref06_Congruent (by omega) (by have := (hlen i (by omega)).2; omega) (by have := (hlen i (by omega)).1; omega) hMi) (.cons (Has.t rfl) (.cons (Has.t rfl) (.cons (Has.t rfl) .nil)))) ((show isB _ = isB true from isB_eq (decide_eq_true (by rw [zv_nf]; exact hPr i (by omega)))))) rfl ?_
            refine st (OK1.not (Has.t rfl)) rfl ?_
            refine nl ?_
            refine At.thn (hK36 _ _ ?_); clear hK36
            refine Tri.cond (Has.t rfl) (fun hc8 => ?_) (fun hc8 => ?_)
            · have hc8 := BP.t hc8
              simp at hc8
            · have hc8 := BP.f hc8
              skip
              refine Tri.skip ?_
              refine At.thn (hK35 _ _ ?_); clear hK35
              refine Tri.seq fun K37 hK37 => ?_
              refine Tri.drh [true, true, true] (Ms := [_, _, _]) rfl ?_
              refine DrH.st (i := 0) [] rfl rfl rfl (by kernel_rfl) (OKG.o rfl (OK1.load (Has.t rfl) (i := 0) rfl ty27 rfl (Ss' := [_, _]) rfl)) ?_
              refine DrH.st (i := 1) [] rfl rfl rfl (by kernel_rfl) (OKG.o rfl (OK1.mv (Has.t rfl))) ?_
              refine DrH.st (i := 2) [] rfl rfl rfl (by kernel_rfl) (OKG.o rfl (OK1.mv (Has.t rfl))) ?_
              refine DrH.st (i := 3) [160, 161] rfl rfl rfl (by kernel_rfl) (OKG.o rfl (OK1.ixK sl22 ty27 (Has.t rfl) (Has.t rfl) zc_len ⟨by omega, by omega⟩ (getD_at2 (i := i) (by omega)))) ?_
              refine DrH.st (i := 4) [162] rfl rfl rfl (by kernel_rfl) (OKG.o rfl (OK1.loadP (Has.t rfl) ty27 rfl (Ss' := [_, _]) rfl)) ?_
              refine DrH.st (i := 5) [159, 163] rfl rfl rfl (by kernel_rfl) (OKG.o rfl (OK1.eq (OK1.call (zint_Mul (by first | with_reducible assumption | omega | (simp only [val_words, zv_nf]; omega)) (by first | with_reducible assumption | omega | (simp only [val_words, zv_nf]; omega))) (.cons (Has.t rfl) (.cons (Has.t rfl) .nil))) ((show isZ _ = isZ (l * zi ys i) from isZ_eq (by rw [zv_nf]))))) ?_
              refine DrH.st (i := 6) [] rfl rfl rfl (by kernel_rfl) (OKG.o rfl (OK1.load (Has.t rfl) (i := 0) rfl ty27 rfl (Ss' := [_, _]) rfl)) ?_
              refine DrH.st (i := 7) [] rfl rfl rfl (by kernel_rfl) (OKG.o rfl (OK1.mv (Has.t rfl))) ?_
              refine DrH.st (i := 8) [] rfl rfl rfl (by kernel_rfl) (OKG.o rfl (OK1.mv (Has.t rfl))) ?_
              refine DrH.st (i := 9) [166, 167] rfl rfl rfl (by kernel_rfl) (OKG.o rfl (OK1.ixK sl22 ty27 (Has.t rfl) (Has.t rfl) zc_len ⟨by omega, by omega⟩ (getD_at2 (i := i) (by omega)))) ?_
              refine DrH.st (i := 10) [168] rfl rfl rfl (by kernel_rfl) (OKG.o rfl (OK1.loadP (Has.t rfl) ty27 rfl (Ss' := [_, _]) rfl)) ?_
              refine DrH.st (i := 11) [165, 169] rfl rfl rfl (by kernel_rfl) (OKG.o rfl (OK1.eq (OK1.call (zint_Gcd (by first | with_reducible assumption | omega | (simp only [val_words, zv_nf]; omega)) (by first | with_reducible assumption | omega | (simp only [val_words, zv_nf]; omega))) (.cons (Has.t rfl) (.cons (Has.t rfl) .nil))) ((show isZ _ = isZ (Go.Cr.G l (zi ys i)) from isZ_eq (by show _ = ((Nat.gcd l.natAbs (zv _ _).natAbs : Nat) : Int); rw [zv_abs, val_words]))))) ?_
              refine DrH.st (i := 12) [164, 170] rfl rfl rfl (by kernel_rfl) (OKG.o rfl (OK1.eq (OK1.call (zint_Exact (by first | with_reducible assumption | omega | (simp only [val_words, zv_nf]; omega)) (by first | with_reducible assumption | omega | (simp only [val_words, zv_nf]; omega))) (.cons (Has.t rfl) (.cons (Has.t rfl) .nil))) ((show isTup [isZ _, isB _] = isTup [isZ (Go.Cr.mM l (zi ys i)), isB true] from by simp only [zv_nf]; rw [if_pos hln.2.1, decide_eq_true hln.2.1, hln.1])))) ?_
              refine DrH.st (i := 13) [171] rfl rfl rfl (by kernel_rfl) (OKG.o rfl (OK1.mv (Has.t rfl))) ?_
              refine DrH.st (i := 14) [158] rfl rfl rfl (by kernel_rfl) (OKG.o rfl (OK1.ext (Has.t rfl) rfl)) ?_
              refine DrH.st (i := 15) [158] rfl rfl rfl (by kernel_rfl) (OKG.o rfl (OK1.ext (Has.t rfl) rfl)) ?_
              refine DrH.als2 (n1 := 17) (ds := [14]) (zs := [[isB false, SlM isU []]]) rfl (.cons rfl rfl zero27 (fun _ _ => ⟨rfl, nilM _ _, trivial⟩) .nil) (.cons_cons _ (.cons_cons _ (.cons_cons _ .slnil))) (Cs := [_]) rfl ?_
              refine DrN2.new [172] 0 (Ss' := [_, _]) (Cs' := [cellM [_, _]]) rfl (by kernel_rfl) (by kernel_rfl) rfl rfl rfl (by kernel_rfl) rfl (Has.t rfl) ty27 rfl rfl rfl rfl ?_
              refine DrN2.fin (n := 18) mixed rfl (by kernel_rfl) (by kernel_rfl) (by kernel_rfl) (fun bs hbs => ?_)
              obtain ⟨b4, rfl⟩ := len1 hbs
              refine Ops.memEq (M' := [_, _, _, _]) rfl ?_
              refine Ops.cv (Cv.wk (.cons (t := 0) (Has.t rfl) (.cons (t := 1) (Has.t rfl) (.cons (t := 5) (Has.t rfl) (.cons (t := 6) (Has.t rfl) (.cons (t := 7) (Has.t rfl) (.cons (t := 12) (Has.t rfl) (.cons (t := 13) (Has.t rfl) (.cons (t := 141) (Has.t rfl) (.cons (t := 142) (Has.t rfl) (.cons (t := 143) (Has.t rfl) (.cons (t := 144) (Has.t rfl) (.cons (t := 147) (Has.t rfl) (.cons (t := 148) (Has.t rfl) (.cons (t := 149) (Has.t rfl) (.cons (t := 150) (Has.t rfl) (.cons (t := 151) (Has.t rfl) (.cons (t := 152) (Has.t rfl) (.cons (t := 153) (Has.t rfl) (.cons (t := 154) (Has.t rfl) (.cons (t := 155) (Has.t rfl) (.cons (t := 156) (Has.t rfl) (.cons (t := 157) (Has.t rfl) (.cons (t := 159) (Has.t rfl) (.cons (t := 160) (Has.t rfl) (.cons (t := 161) (Has.t rfl) (.cons (t := 162) (Has.t rfl) (.cons (t := 163) (Has.t rfl) (.cons (t := 164) (Has.t rfl) (.cons (t := 165) (Has.t rfl) (.cons (t := 166) (Has.t rfl) (.cons (t := 167) (Has.t rfl) (.cons (t := 168) (Has.t rfl) (.cons (t := 169) (Has.t rfl) (.cons (t := 170) (Has.t rfl) (.cons (t := 171) (Has.t rfl) (.cons (t := 158) (Has.t rfl) (.cons (t := 172) (Has.t rfl) (.cons (t := 173) (Has.t rfl) (.cons (t := 14) (Has.op rfl) .nil)))))))))))))))))))))))))))))))))))))))) ?_
              refine st (OK1.as (Has.t rfl)) rfl ?_
              refine nl ?_
              refine At.thn (hK37 _ _ ?_); clear hK37
              refine Tri.region ?_
              refine st (OK1.load (Has.t rfl) (i := 0) rfl ty27 rfl (Ss' := [_, _]) rfl) rfl ?_
              refine Ops.store (Has.t rfl) (Has.t rfl) (i := 1) rfl ty27 rfl rfl (Ss' := [_, _]) rfl (M' := [_, (some _, cellM [_, _]), _, _]) rfl ?_
              refine nl ?_
              refine At.bln ?_
              refine At.thn (hK34 _ _ ?_); clear hK34
              refine Tri.region ?_
              refine st (OK1.mv (Has.t rfl)) rfl ?_
              refine st (OK1.addI (Has.t rfl) (Has.cI 1 rfl) (by first | with_reducible assumption | omega | (simp only [val_words, zv_nf]; omega)) (by first | with_reducible assumption | omega | (simp only [val_words, zv_nf]; omega))) rfl ?_
              refine st (OK1.as (Has.t rfl)) rfl ?_
              refine nl ?_
              refine At.thn ?_
              refine hK31 (⟨(i + 1, Go.Cr.mM l (zi ys i)), by show i + 1 ≤ _; omega, Go.Cr.mM_pos hl0 hMi, hlw2, hln.2.2⟩) _ _ ?_ (Cv.trans (Cv.drop ((.cons _ (.cons_cons _ (.cons_cons _ (.cons_cons _ .slnil)))))) (Cv.mem (.cons (t := 13) (Has.t' rfl ?_) (.cons (t := 0) (Has.t rfl) (.cons (t := 1) (Has.t rfl) (.cons (t := 5) (Has.t rfl) (.cons (t := 6) (Has.t rfl) (.cons (t := 7) (Has.t rfl) (.cons (t := 12) (Has.t rfl) .nil))))))) ?_))
              · show ys.length - (i + 1) < ys.length - i; omega
              · rfl
              · rfl
          · have hc7 := BP.f hc7
            obtain rfl : i = ys.length := by omega
            refine Tri.exit ?_
            refine At.the ?_
            refine At.the ?_
            refine At.blh ?_
            refine At.thn (hK29 _ _ ?_); clear hK29
            refine Tri.cv (Cv.wk (.cons (t := 5) (Has.t rfl) (.cons (t := 6) (Has.t rfl) (.cons (t := 7) (Has.t rfl) (.cons (t := 12) (Has.t rfl) .nil))))) ?_
            refine Tri.seq fun K38 hK38 => ?_
            refine Tri.region ?_
            refine st (OK1.mv (Has.t rfl)) rfl ?_
            refine st (OK1.eqI (Has.t rfl) (Has.cI 0 rfl)) rfl ?_
            refine st (OK1.mv (Has.t rfl)) rfl ?_
            refine stT rfl rfl (fun hg => have hg' := BP.t hg; OK1.load (Has.t rfl) (i := 1) rfl ty27 rfl (Ss' := [_, _]) rfl) rfl ?_
            refine stT rfl rfl (fun hg => have hg' := BP.t hg; OK1.load (Has.t rfl) (i := 0) rfl ty27 rfl (Ss' := [_, _]) rfl) rfl ?_
            refine stT rfl rfl (fun hg => have hg' := BP.t hg; OK1.eq (OK1.call (zint_Same (by first | with_reducible assumption | omega | (simp only [val_words, zv_nf]; omega)) (by first | with_reducible assumption | omega | (simp only [val_words, zv_nf]; omega))) (.cons (Has.g rfl hg) (.cons (Has.g rfl hg) .nil))) (by first | (simp only [val_words, zv_nf]; rfl) | rfl)) rfl ?_
            refine st (OK1.pickAnd (Has.t rfl) (fun h => Has.g rfl h)) rfl ?_
            refine st (OK1.mv (Has.t rfl)) rfl ?_
            refine stT rfl rfl (fun hg => have hg' := BP.t hg; OK1.load (Has.t rfl) (i := 2) rfl ty27 rfl (Ss' := [_, _]) rfl) rfl ?_
            refine stT rfl rfl (fun hg => have hg' := BP.t hg; OK1.load (Has.t rfl) (i := 1) rfl ty27 rfl (Ss' := [_, _]) rfl) rfl ?_
            refine stT rfl rfl (fun hg => have hg' := BP.t hg; OK1.eq (OK1.call (ref06_Within (by first | with_reducible assumption | omega | (simp only [val_words, zv_nf]; omega)) (by first | with_reducible assumption | omega | (simp only [val_words, zv_nf]; omega))) (.cons (Has.g rfl hg) (.cons (Has.g rfl hg) .nil))) (by first | (simp only [val_words, zv_nf]; rfl) | rfl)) rfl ?_
            refine st (OK1.pickAnd (Has.t rfl) (fun h => Has.g rfl h)) rfl ?_
            refine st (OK1.as (Has.t rfl)) rfl ?_
            refine nl ?_
            refine At.thn (hK38 _ _ ?_); clear hK38
            refine Tri.cv (Cv.wk (.cons (t := 4) (Has.t rfl) .nil)) ?_
            refine Tri.ret ?_
            refine rtX1D (.cons _ (.cons _ (.cons _ .slnil))) (.inl rfl) Try.results3 rfl (.tmp (Has.t rfl) .nil) ?_
            obtain rfl := crt_same h0 h1 hl0 hP hld
            exact isB_eq (by rw [decide_eq_true (And.intro h0 h1)]; simp)
theorem c_ModCrtU (xs ys : List (Bool × List Nat)) (hxb : ∀ p ∈ xs, p.2.length ≤ 1048576) (hyb : ∀ p ∈ ys, p.2.length ≤ 1048576) : Ctr Try.prog 3 [SlK 2 zc xs, SlK 2 zc ys] (isB true) := (c_ModCrt xs ys hxb hyb).toCtr fun S' M' hh => hh
end Go.Proofs.Ytbnhdbchoghkfaa
/- Slices of whole numbers that a law is handed. -/
namespace Go.En
open Go.RowKit Go.ChangeShapes Go.WideShapes Go.ChangeAt
set_option linter.unusedVariables false
theorem pair_get {α β : Type} (g h : α → β) : ∀ (l : List α) (j : Nat), (l.flatMap fun a => [g a, h a])[j]? = (l[j / 2]?).map (fun a => if j % 2 = 0 then g a else h a)
  | [], j => by simp
  | a :: l, 0 => by simp
  | a :: l, 1 => by simp
  | a :: l, j + 2 => by
    have := pair_get g h l j
    rw [show (j + 2) / 2 = j / 2 + 1 by omega, show (j + 2) % 2 = j % 2 by omega]
    simpa using this
section
variable {H : Type} {enc : TypeId × Value → H} {P : Program}
/-- a slice of signs with words -/
theorem open_Zs {W : World} {base : Nat} {T e tb ts T' : TypeId} {v : Value} {d : DataW H} {ps : List MemPlace} (hT : P.underlying T = some (.slice e)) (hfs : fsB P e = some [(tb, 0), (ts, 1)]) (hub : P.underlying tb = some .bool) (hu : P.underlying ts = some (.slice T')) (hu' : P.underlying T' = some (.int .u64)) (hc : P.cellsOf T' = 1) (hcb : P.cellsOf tb = 1) (hcs : P.cellsOf ts = 1) (hce : P.cellsOf e = 2)
    (hv : Value.okWide P W .any base T v) (h : DataW.Trod enc P W 0 (fun _ => true) true T v d ps) (hps : ∀ x ∈ ps, x.block < W.heap.size) : ∃ xs : List (Bool × List Nat), (isZs xs).h W (fun b => b < W.heap.size) v := by
  obtain ⟨a0, n0, c0, rfl⟩ := okWide_slice hT hv
  obtain ⟨fuel, hf⟩ := h
  obtain ⟨fs, hue, hsz, hget⟩ := fsB_spec hfs
  obtain ⟨f0, g0, rfl, e0⟩ := hget 0 tb 0 rfl
  obtain ⟨f1, g1, rfl, e1⟩ := hget 1 ts 1 rfl
  have hfs2 : fs = #[f0, f1] := by
    apply Array.ext'
    have hl : fs.toList.length = 2 := by simpa using hsz
    match hq : fs.toList, hl with
    | [p, q], _ =>
      have a0 : fs.toList[0]? = some f0 := by simpa using g0
      have a1 : fs.toList[1]? = some f1 := by simpa using g1
      rw [hq] at a0 a1
      simp at a0 a1
      rw [a0, a1]
  subst hfs2
  rcases Deep.open_slice_pairs hT hue hce e0 e1 hcb hcs hf with ⟨h1, _⟩ | ⟨a, len, cap, m, n, V0, V1, D0, D1, P0, P1, h1, _, hlc, hcm, hm, hx, hel⟩
  · have e : Value.slice a0 n0 c0 = .slice none 0 0 := by simpa [Value.cells] using h1
    rw [e]; exact ⟨[], nilK⟩
  · have e : Value.slice a0 n0 c0 = .slice (some a) len cap := by simpa [Value.cells] using h1
    rw [e]
    simp only [if_true] at hm
    subst m
    have hps' : ∀ i, i < cap → ∀ y ∈ P1 i, y.block < W.heap.size := fun i hi y hy => hps y (by
      have := (Prod.mk.inj hx).2
      rw [this]
      exact List.mem_append_right _ (List.mem_flatMap.2 ⟨i, List.mem_range.2 hi, List.mem_append_right _ hy⟩))
    obtain ⟨l, hl, hgl⟩ := list_of_get (p := fun i (x : Bool × List Nat) => V0 i = .bool x.1 ∧ (isWords x.2).h W (fun b => b < W.heap.size) (V1 i)) len (fun i hi => by
      obtain ⟨_, _, q0, q1⟩ := hel i (by omega)
      obtain ⟨b, hb, _⟩ := DataW.trod_bool hub q0
      obtain ⟨v, ws, hv1, hw⟩ := rd_row hu hu' hc word_of q1 (hps' i (by omega))
      obtain rfl : V1 i = v := by simpa using hv1
      exact ⟨(b, ws), by simpa using hb, hw⟩)
    refine ⟨l, some a, cap, by rw [hl], by rw [hl]; exact hlc, hcm, flat_len zc_len l, ?_⟩
    rcases Nat.eq_zero_or_pos len with h0 | h0
    · exact .inl (by omega)
    · have hc0 := (hel 0 (by omega)).1
      have hs : a.spot = none := by
        cases hsp : a.spot with
        | none => rfl
        | some s =>
          simp only [Addr.add, Nat.zero_mul, if_true] at hc0
          unfold World.cell? at hc0
          rw [hsp] at hc0
          split at hc0 <;> simp at hc0
      obtain ⟨b, off, sp⟩ := a
      simp only at hs
      subst hs
      right
      refine ⟨b, off, rfl, ?_, (List.range len).flatMap (fun i => [V0 i, V1 i]), ?_, fun j u hj => ?_⟩
      · have : MemPlace.cell b (off + 0) ∈ ps := by
          have := (Prod.mk.inj hx).2
          rw [this]
          exact List.mem_append_left _ (List.mem_map.2 ⟨0, by simp; omega, rfl⟩)
        exact hps _ this
      · have hlen2 : ((List.range len).flatMap fun i => [V0 i, V1 i]).length = len * 2 := by
          have := flat_len (fk := fun (i : Nat) => [isB true, isB true]) (k := 2) (fun _ => rfl) (List.range len)
          rw [List.length_flatMap] at this ⊢
          simpa using this
        refine all2_of_get (by rw [flat_len zc_len, hlen2, hl]) (fun j S v hS hv => ?_)
        have hz := pair_get (fun p : Bool × List Nat => isB p.1) (fun p => isWords p.2) l j
        rw [show (l.flatMap fun a => [isB a.1, isWords a.2]) = l.flatMap zc from rfl, hS] at hz
        have hw := pair_get V0 V1 (List.range len) j
        rw [hv] at hw
        have hj : j / 2 < l.length := by
          rcases Nat.lt_or_ge (j / 2) l.length with h | h
          · exact h
          · rw [List.getElem?_eq_none h] at hz; cases hz
        rw [List.getElem?_eq_getElem hj] at hz
        rw [List.getElem?_range (by omega)] at hw
        simp only [Option.map_some, Option.some.injEq] at hz hw
        obtain ⟨k1, k2⟩ := hgl (j / 2) hj
        subst hz; subst hw
        by_cases hp : j % 2 = 0
        · rw [if_pos hp, if_pos hp, k1]; rfl
        · rw [if_neg hp, if_neg hp]; exact k2
      · have hw := pair_get V0 V1 (List.range len) j
        rw [hj] at hw
        have hjl : j / 2 < len := by
          rcases Nat.lt_or_ge (j / 2) len with h | h
          · exact h
          · rw [List.getElem?_eq_none (by simpa using h)] at hw; cases hw
        rw [List.getElem?_range hjl] at hw
        simp only [Option.map_some, Option.some.injEq] at hw
        obtain ⟨q0, q1, _, _⟩ := hel (j / 2) (by omega)
        rw [add_mk] at q0
        rw [add_mk] at q1
        by_cases hp : j % 2 = 0
        · rw [if_pos hp] at hw; subst hw
          rw [show off + j = off + j / 2 * 2 by omega]; exact q0
        · rw [if_neg hp] at hw; subst hw
          rw [show off + j = off + (j / 2 * 2 + 1) by omega]; exact q1
end
end Go.En
/- A law where what comes in is of bounded bulk: the arguments' words are as few. -/
namespace Go.Proofs.Ytbnhdbchoghkfaa
open Go.En Go.RowKit Go.ChangeShapes Go.WideShapes Go.ChangeAt
set_option linter.unusedVariables false
theorem bulk_one {H : Type} (d : DataW H) : 1 ≤ Rows.uptoBulk d := by
  cases d with
  | lit l => cases l <;> simp [Rows.uptoBulk]
  | nil => simp [Rows.uptoBulk]
  | ptr d => simp [Rows.uptoBulk]
  | slice elems spare => simp [Rows.uptoBulk]
  | agg parts => simp [Rows.uptoBulk]
  | iface t d => simp [Rows.uptoBulk]
  | map entries => simp [Rows.uptoBulk]
  | held h => simp [Rows.uptoBulk]
theorem bulk_mem {H : Type} {d : DataW H} {l : List (DataW H)} (h : d ∈ l) : Rows.uptoBulk d ≤ Rows.uptoBulkAll l := by
  induction l with
  | nil => cases h
  | cons x r ih =>
    simp only [Rows.uptoBulkAll]
    rcases List.mem_cons.1 h with e | e
    · subst e; omega
    · have := ih e; omega
theorem bulk_len {H : Type} (l : List (DataW H)) : l.length ≤ Rows.uptoBulkAll l := by
  induction l with
  | nil => simp [Rows.uptoBulkAll]
  | cons x r ih => have := bulk_one x; simp only [Rows.uptoBulkAll, List.length_cons]; omega
section
variable {H : Type} {enc : TypeId × Value → H} {P : Program}
/-- what a law's arguments are, where they are of bounded bulk -/
def OpensU (P : Program) (fn : Func) (f : FuncId) : Prop := ∀ (H : Type) (enc : TypeId × Value → H) (W : World) (base : Nat) (args : Array Value) (ds : List (DataW H)) (ps : List MemPlace),
  (∀ (j : Nat) t v, fn.params[j]? = some t → args[j]? = some v → Value.okWide P W .any base t v) → DataW.TrodAll enc P W 0 (fun _ => true) true fn.params.toList args.toList ds ps →
  (∀ x ∈ ps, x.block < W.heap.size) → Rows.uptoSmall H ds = true → ∃ Ss, All2 Ss W (fun b => b < W.heap.size) args.toList ∧ Ctr P f Ss (isB true)
theorem lift_upto {C : Checked} {os : Os} {f : FuncId} {fn : Func} {s : ChangeSpec} {conds : List PathCond} {tb : TypeId} {F : Stop.Interp}
    (own : ownKnob C.prog.godebug = none) (started : os.Started) (noInit : C.prog.inits.idxOf? f = none) (hfn : C.prog.funcs[f]? = some fn)
    (witness : ∃ (w : World) (tape : Tape) (i : Input), w.os = os ∧ (w.forCall tape i).Shaped C.prog ∧ i.vars = [] ∧ Input.okWide C.prog (w.forCall tape i) .any w.heap.size f i ∧
      (Rows.OpenSpec.upto s).pre6 enc C.prog fn conds false (w.forCall tape i).memory i.args ∧ ({} : Assume).holds C.prog (lone (Frame.enter C.prog f i.args .normal) [] (w.forCall tape i)))
    (hl : laidOutB C.prog = true) (hpar : (fn.params.toList.all fun t => C.prog.readableRec t && decide (t < C.prog.types.size)) = true) (hvars : s.vars = [])
    (hres : fn.resultTypes = #[tb]) (htb : C.prog.underlying tb = some .bool)
    (hs : ∀ ds : List (DataW H), ds.length = fn.params.toList.length → s.fn H ds = { results := [.lit (.bool true)], args := ds }) (hopen : OpensU C.prog fn f) :
    ReturnsInHanded {} C os f .any ((Rows.OpenSpec.upto s).pre6 enc C.prog fn conds false) (((Rows.OpenSpec.upto s).at F).post enc C.prog fn false true false false) := by
  refine returnsInHanded_of_cond (C := C) (k := Rows.uptoSmall) rfl own started noInit hfn witness ?_
  intro W base args ds gs before hval hW hcnd hk _
  have hW' := hW
  obtain ⟨p, q, hA0, hV, rfl, hfz, hnd⟩ := hW
  have hA : DataW.TrodAll enc C.prog W 0 (fun _ => true) true fn.params.toList args.toList ds p := hA0
  have hv2 : (Rows.OpenSpec.upto s).vars = [] := hvars
  rw [hv2] at hV
  obtain ⟨rfl, rfl⟩ := trodVars_none hV
  have hlt : ∀ x ∈ p, x.block < W.heap.size := fun x hx => hW'.lt x (by simp [hx])
  rw [List.append_nil] at hk
  obtain ⟨Ss, h1, h2⟩ := hopen H enc W base args ds p hval hA hlt hk
  have hlen := trodAll_len hA
  refine (h2.2 W _ args.toList (fun _ h => h) h1).mono fun e W' => ?_
  rintro ⟨v, rfl, hk, hv⟩
  obtain rfl : v = .bool true := hv
  have bel := hk.below
  show ∃ v, _ = _ ∧ s.post enc C.prog fn false true false false W args v W'
  refine ⟨_, rfl, _, _, _, [], p, [], hW', ?_, ?_, ?_, ?_, fun h => by cases h⟩
  · rw [List.append_nil, hs ds hlen.2, hres]
    exact trodAll_mk1 (shut_bool htb _)
  · rw [List.append_nil, hs ds hlen.2]
    exact trodAll_below hl bel hpar hA hlt
  · rw [List.append_nil, hs ds hlen.2, hvars]; exact hV
  · exact bel.frame _
theorem bulk_row {W : World} {ts T' : TypeId} {fuel : Nat} {v : Value} {x : DataW H × List MemPlace} {F : Blk} {ws : List Nat} (hu : P.underlying ts = some (.slice T')) (h : DataW.trod enc P W 0 (fun _ => true) true fuel ts [v] = some x) (hw : (isWords ws).h W F v) : ws.length ≤ Rows.uptoBulk x.1 := by
  obtain ⟨a, cap, e, _⟩ := hw
  rcases Deep.open_slice hu h with ⟨h1, _⟩ | ⟨a', len, cap', m, n, D, Pl, h1, _, _, _, _, hx, _⟩
  · have h2 : v = .slice none 0 0 := by simpa using h1
    rw [e] at h2
    simp at h2
    have := h2.2.1
    rw [this]; exact Nat.zero_le _
  · have h2 : v = .slice (some a') len cap' := by simpa using h1
    rw [e] at h2
    simp at h2
    have h3 := h2.2.1
    rw [hx]
    simp only [Rows.uptoBulk]
    have := bulk_len ((List.range len).map D)
    rw [List.length_map, List.length_range] at this
    omega
/-- a slice of signs with words, of bounded bulk -/
theorem open_ZsB {W : World} {base : Nat} {T e tb ts T' : TypeId} {v : Value} {d : DataW H} {ps : List MemPlace} (hT : P.underlying T = some (.slice e)) (hfs : fsB P e = some [(tb, 0), (ts, 1)]) (hub : P.underlying tb = some .bool) (hu : P.underlying ts = some (.slice T')) (hu' : P.underlying T' = some (.int .u64)) (hc : P.cellsOf T' = 1) (hcb : P.cellsOf tb = 1) (hcs : P.cellsOf ts = 1) (hce : P.cellsOf e = 2)
    (hv : Value.okWide P W .any base T v) (h : DataW.Trod enc P W 0 (fun _ => true) true T v d ps) (hps : ∀ x ∈ ps, x.block < W.heap.size) : ∃ xs : List (Bool × List Nat), (isZs xs).h W (fun b => b < W.heap.size) v ∧ ∀ p ∈ xs, p.2.length ≤ Rows.uptoBulk d := by
  obtain ⟨xs, hxs⟩ := open_Zs hT hfs hub hu hu' hc hcb hcs hce hv h hps
  refine ⟨xs, hxs, ?_⟩
  obtain ⟨a0, cap0, e0, g1, g2, g3, g4⟩ := hxs
  obtain ⟨fuel, hf⟩ := h
  obtain ⟨fs, hue, hsz, hget⟩ := fsB_spec hfs
  obtain ⟨f0, k0, rfl, e0'⟩ := hget 0 tb 0 rfl
  obtain ⟨f1, k1, rfl, e1'⟩ := hget 1 ts 1 rfl
  have hfs2 : fs = #[f0, f1] := by
    apply Array.ext'
    have hl : fs.toList.length = 2 := by simpa using hsz
    match hq : fs.toList, hl with
    | [p, q], _ =>
      have a0 : fs.toList[0]? = some f0 := by simpa using k0
      have a1 : fs.toList[1]? = some f1 := by simpa using k1
      rw [hq] at a0 a1
      simp at a0 a1
      rw [a0, a1]
  subst hfs2
  intro p hp
  obtain ⟨i, hi, rfl⟩ := List.mem_iff_getElem.1 hp
  rcases g4 with g4 | ⟨b, off, e4, _, vs, hvs, hcell⟩
  · omega
  subst e4
  rcases Deep.open_slice_pairs hT hue hce e0' e1' hcb hcs hf with ⟨h1, _⟩ | ⟨a, len, cap, m, n, V0, V1, D0, D1, P0, P1, h1, _, hlc, hcm, hm, hx, hel⟩
  · rw [e0] at h1
    simp [Value.cells] at h1
  · rw [e0] at h1
    have h2 : Value.slice (some ⟨b, off, none⟩) xs.length cap0 = .slice (some a) len cap := by simpa [Value.cells] using h1
    simp at h2
    obtain ⟨ha, hlen, _⟩ := h2
    subst ha
    simp only [if_true] at hm
    subst m
    obtain ⟨_, q1, _, q3⟩ := hel i (by omega)
    have hlv := hvs.len
    rw [flat_len zc_len xs] at hlv
    obtain ⟨u, hu1, hu2⟩ := hvs.get (i * 2 + 1) (isWords xs[i].2) (by
      have := pair_get (fun p : Bool × List Nat => isB p.1) (fun p => isWords p.2) xs (i * 2 + 1)
      rw [show (xs.flatMap fun a => [isB a.1, isWords a.2]) = xs.flatMap zc from rfl] at this
      rw [this, show (i * 2 + 1) / 2 = i by omega, show (i * 2 + 1) % 2 = 1 by omega, List.getElem?_eq_getElem hi]; rfl)
    have hc2 := hcell (i * 2 + 1) u hu1
    rw [add_mk] at q1
    rw [q1] at hc2
    obtain rfl : V1 i = u := Option.some.inj hc2
    have hb := bulk_row hu q3 hu2
    have hd : d = .slice ((List.range len).map fun i => .agg [D0 i, D1 i]) ((List.range (cap - len)).map fun j => .agg [D0 (len + j), D1 (len + j)]) := (Prod.mk.inj hx).1
    rw [hd]
    simp only [Rows.uptoBulk]
    have hmem : DataW.agg [D0 i, D1 i] ∈ (List.range len).map fun i => DataW.agg [D0 i, D1 i] := List.mem_map.2 ⟨i, List.mem_range.2 (by omega), rfl⟩
    have h5 := bulk_mem hmem
    simp only [Rows.uptoBulk, Rows.uptoBulkAll] at h5
    simp only at hb
    omega
end
end Go.Proofs.Ytbnhdbchoghkfaa
/- A law of layer 6, as it is stated, where what comes in is of bounded bulk. -/
namespace Go.Proofs.Ytbnhdbchoghkfaa
open Go.En Go.RowKit
set_option linter.unusedVariables false
set_option maxRecDepth 10000
open Go.ChangeShapes
open Go.WideShapes
open Go.ChangeAt
open Go.Nt
open Go.Pz
theorem opens_ModCrt : OpensU Try.prog Try.f3 3 := by
  intro H enc W base args ds ps hval hA hlt hbk
  rw [Try.params3] at hA hval
  obtain ⟨v0, vs0, d0, ds0, p0, q0, hargs, rfl, rfl, h0, r0⟩ := trodAll_cons hA
  obtain ⟨v1, vs1, d1, ds1, p1, q1, rfl, rfl, rfl, h1, r1⟩ := trodAll_cons r0
  obtain ⟨rfl, rfl, rfl⟩ := trodAll_nil r1
  obtain rfl : args = #[v0, v1] := by cases args; simp_all
  have hbq : Rows.uptoBulkAll [d0, d1] ≤ 1048576 := of_decide_eq_true hbk
  simp only [Rows.uptoBulkAll] at hbq
  obtain ⟨x0, o0, w0⟩ := open_ZsB un22 fs27 un4 un25 un62 (by kernel_rfl) (by kernel_rfl) (by kernel_rfl) (by kernel_rfl) (hval 0 22 v0 rfl rfl) h0 (fun x hx => hlt x (by simp [hx]))
  have u0 : ∀ p ∈ x0, p.2.length ≤ 1048576 := fun p hp => Nat.le_trans (w0 p hp) (by omega)
  obtain ⟨x1, o1, w1⟩ := open_ZsB un22 fs27 un4 un25 un62 (by kernel_rfl) (by kernel_rfl) (by kernel_rfl) (by kernel_rfl) (hval 1 22 v1 rfl rfl) h1 (fun x hx => hlt x (by simp [hx]))
  have u1 : ∀ p ∈ x1, p.2.length ≤ 1048576 := fun p hp => Nat.le_trans (w1 p hp) (by omega)
  refine ⟨_, ?_, c_ModCrtU x0 x1 u0 u1⟩
  exact ⟨o0, o1, trivial⟩
theorem jn_ModCrt : Try.pinned.checked.prog.funcNamed Rows.modCrtUptoRow.func = some 3 := by kernel_rfl
theorem jf_ModCrt : joinedFacts Try.pinned.checked.prog 3 Try.f3 (Rows.OpenSpec.upto Rows.modCrtSpec).bare Rows.modCrtUptoRow = true := by kernel_rfl
theorem jl_ModCrt : laidOutB Try.checked.prog = true := by kernel_rfl
theorem modCrt_said : Rows.ModCrtUptoSaid :=
  OpenClaim.holds_of_cond 3 Try.f3 rfl rfl rfl rfl rfl rfl rfl ⟨rfl, rfl, rfl, rfl, rfl⟩ rfl rfl rfl rfl rfl jn_ModCrt Try.func3 jf_ModCrt
    (of_decide_eq_true (by kernel_rfl)) (by unfold Func.isWrapper; first | (rw [if_pos (by decide +kernel)]; kernel_rfl) | (rw [if_neg (by decide +kernel)]; exact ⟨rfl, rfl⟩))
    (fun os started H enc _ F => lift_upto (F := F) (C := Try.checked) (s := Rows.modCrtSpec) (by kernel_rfl) started (by kernel_rfl) Try.func3
      (OpenSpec.witness (enc := enc) (C := Try.checked) (s := (Rows.OpenSpec.upto Rows.modCrtSpec)) (k := Rows.uptoSmall) rfl false ⟨#[], #[.slice none 0 0, .slice none 0 0], []⟩ 8 (by kernel_rfl) (by kernel_rfl) (by kernel_rfl) (x := ([.nil, .nil], [], [])) (by kernel_rfl) rfl (by kernel_rfl))
      jl_ModCrt (by kernel_rfl) rfl rfl un4 (fun ds h => by match ds, h with | [d0, d1], _ => rfl) opens_ModCrt)
#print axioms modCrt_said
end Go.Proofs.Ytbnhdbchoghkfaa
