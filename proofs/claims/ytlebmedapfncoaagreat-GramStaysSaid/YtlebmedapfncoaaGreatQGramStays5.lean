/- Rules and contracts, part 5 of 6. -/
import Derived.Test.YtlebmedapfncoaaGreatQGramStays4
namespace Go.Proofs.YtlebmedapfncoaaGreat
open Go.En Go.RowKit
set_option maxRecDepth 10000
set_option maxHeartbeats 4000000
open Go.Nt
open Go.Pz
open Go.Mz
open Go.Dt
open Go.Ll
theorem lll_own {R K : Nat} {xs : List (Bool × List Nat)} (hx : Bd (vals xs) K) (hK : K ≤ 100000000) (hR : R ≤ 64) (hl : xs.length = R * R) (hs : ∀ i k, i < R → k < R → cf (vals xs) (i * R + k) = cf (vals xs) (k * R + i)) : Ctr Tryz.prog 91 [isM (R : Int) (R : Int) xs] (isB true) := by
 refine Ctr.i Tryz.func91 rfl Tryz.ntmps91 fun w0 F0 => .w [0] rfl ?_
 have hRR := side_le hR hR
 obtain ⟨T, hT⟩ : ∃ T, T = (tab (R * R) R fun i k => cf (vals xs) (k * R + i)) := ⟨_, rfl⟩
 have hTl : T.length = R * R := by rw [hT]; exact tab_len _ _ _
 have hTb : Bd T K := by rw [hT]; exact Bd_tab fun i k => hx _
 have hTv : T = vals xs := by rw [hT]; exact own_tab (by rw [vals_len, hl]) hs
 refine .sr fun k1 => .box (.t rfl) rfl fun b1 => st (.as (.cB false)) rfl (nkQ k1 (.sr fun k2 => st (.load (.t rfl) (i := 0) rfl ty24 rfl (Ss' := [_, _, _]) rfl) rfl (st (.eq (.call (zmat_Transpose hx (by omega) hR hR hl) (.cons (.t rfl) .nil)) ((show _ = isTup [isMz R R T, isI 0] from by rw [hT]))) rfl (stM rfl (st (.ext (.t rfl) rfl) rfl (st (.ext (.t rfl) rfl) rfl (.alloc [isI 0, isI 0, nilS] zero24 (fun _ _ => ⟨⟨rfl, by decide, by decide⟩, ⟨rfl, by decide, by decide⟩, rfl, trivial⟩) rfl fun b2 => .store (.t rfl) (.t rfl) (i := 0) rfl ty24 rfl rfl (Ss' := [_, _, _]) rfl (M' := [(some _, cellM [_, _, _]), _]) rfl (stM rfl (nkQ k2 (.w [1,2,3,4] rfl (.sr fun k3 => stM rfl (st (.eqI (.t rfl) (.cI 0 rfl)) rfl (stM rfl (stT rfl rfl (fun hg => .load (.t rfl) (i := 0) rfl ty24 rfl (Ss' := [_, _, _]) rfl) rfl (stT rfl rfl (fun hg => .load (.t rfl) (i := 1) rfl ty24 rfl (Ss' := [_, _, _]) rfl) rfl ?_)))))))))))))))
 refine stT rfl rfl (fun hg => have hg' := BP.t hg; OK1.eq (.call (zmat_Same (K := K) (by rw [vals_nz]; exact hTb) hx (by omega)) (.cons (Has.g rfl hg) (.cons (Has.g rfl hg) .nil))) ((show isB _ = isB true from isB_eq (by show (formB (R : Int) (R : Int) (T.map nz).length && formB (R : Int) (R : Int) xs.length && _ && _ && _) = true; rw [show formB (R : Int) (R : Int) (T.map nz).length = true from formB_true hR hR (by rw [List.length_map, hTl]), show formB (R : Int) (R : Int) xs.length = true from formB_true hR hR hl, vals_nz, hTv]; simp)))) rfl ?_
 refine st (.pickAnd (.t rfl) (fun h => Has.g rfl h)) rfl (stM rfl (nkQ k3 (.w [2] rfl (.ret (rt1 (.inl rfl) Tryz.results91 rfl (.tmp (Has.t' rfl ?_) .nil))))))
 all_goals (rfl)
theorem lll_entry {bw cu R K L : Nat} {gd : Gr (Bool × List Nat)} {gl gu : Gr Row} {ds : List Int} {ls : List Row} {m n : Bool} {ps qs : List Nat} {sw : Int} {xs : List (Bool × List Nat)} {i k : Nat} {r rk : Row} {X : Nat → Int} (hx : Bd (vals xs) L) (hL : L ≤ 100000000) (hR : R ≤ 64) (hl : xs.length = R * R) (hi : i < R) (hk : k < R) (hr : ls[i]? = some r) (hrk : ls[k]? = some rk) (hrl : k ≤ r.2.length) (hrkl : k ≤ rk.2.length) (hdl : k < ds.length) (hdb : Bd ds K) (hrb : Bd r.2 K) (hrkb : Bd rk.2 K) (hK : K ≤ 100000000) (hX0 : X 0 = cf (vals xs) (i * R + k)) (hX : ∀ j, j < k → cf ds j ≠ 0 ∧ cf ds j * X (j + 1) = cf ds (j + 1) * X j - cf r.2 j * cf rk.2 j) (hXb : ∀ j, j ≤ k → (List.length (words (X j).natAbs)) ≤ K) : CtrX Tryz.prog 92 [isPtr bw 0, isM (R : Int) (R : Int) xs, isI (i : Int), isI (k : Int)] (lw0 bw R gd gl gu (ds.map nz).length ls.length cu m n ps qs sw :: grMK zc gd (ds.map nz) :: grM rowV gl ls :: ls.map rowM) (fun S M => S = isZ (X k) ∧ M = lw0 bw R gd gl gu (ds.map nz).length ls.length cu m n ps qs sw :: grMK zc gd (ds.map nz) :: grM rowV gl ls :: ls.map rowM) := by
 refine CtrX.i Tryz.func92 rfl Tryz.ntmps92 fun w0 F0 => .w [0,1,2,3] rfl (.fact (Has.rngI (Has.t (t := 2) rfl)) fun lt2 => .fact (Has.rngI (Has.t (t := 3) rfl)) fun lt3 => ?_)
 have hdL : (ds.map nz).length = ds.length := List.length_map _
 have hrL : (r.2.map nz).length = r.2.length := List.length_map _
 have hrkL : (rk.2.map nz).length = rk.2.length := List.length_map _
 have hiL := some_lt hr
 have hkL := some_lt hrk
 refine .sr fun k1 => .box (.t rfl) rfl fun b1 => .alloc [isB false, SlM isU []] zero33 (fun _ _ => ⟨rfl, nilM _ _, trivial⟩) rfl fun b2 => nkQ k1 (.sr fun k2 => st (.load (.t rfl) (i := 1) rfl ty24 rfl (Ss' := [_, _, _]) rfl) rfl (stM rfl (stM rfl (st (.eq (.call (zmat_At (R := R) (C := R) (i := i) (k := k) hx (by omega) hR hR hl hi hk) (.cons (.t rfl) (.cons (.t rfl) (.cons (.t rfl) .nil)))) ((show isZ _ = isZ (X 0) from isZ_eq (by rw [hX0])))) rfl (.alloc [isB false, SlM isU []] zero33 (fun _ _ => ⟨rfl, nilM _ _, trivial⟩) rfl fun b3 => .store (.t rfl) (.t rfl) (i := 0) rfl ty33 rfl rfl (Ss' := [_, _]) rfl (M' := ((some _, cellM [_, _]) :: _ :: _ :: _ :: _ :: _ :: _)) rfl (nkQ k2 (.w [0,2,3,8,9] rfl (.sq fun k3 => .sr fun k4 => stM rfl (st (.mv (.cI 0 rfl)) rfl (nkQ k4 (.block (.loopF [0,2,3,8,9,15] (fun (z : { j : Nat // j ≤ k }) => match z with | ⟨j, hj⟩ => [(16, isI (j : Int))]) (fun M => fun (z : { j : Nat // j ≤ k }) => match z with | ⟨j, hj⟩ => (zM b3 (X j) :: (some b2, cellM [isB false, SlM isU []]) :: (some b1, cellM [isI (R : Int), isI (R : Int), SlK 2 zc xs]) :: lw0 bw R gd gl gu (ds.map nz).length ls.length cu m n ps qs sw :: grMK zc gd (ds.map nz) :: grM rowV gl ls :: ls.map rowM)) (fun (z : { j : Nat // j ≤ k }) => match z with | ⟨j, hj⟩ => k - j) (⟨0, Nat.zero_le _⟩) (Cv.mem (.c 16 rfl ?_ (.l [0,2,3,8,9,15] rfl)) ?_) ?_))))))))))))
 ·rfl
 ·rfl
 rintro ⟨j, hj⟩ K5 hK5
 refine .w [16,0,2,3,8,9,15] rfl (.memEq (M' := (zM b3 (X j) :: (some b2, cellM [isB false, SlM isU []]) :: (some b1, cellM [isI (R : Int), isI (R : Int), SlK 2 zc xs]) :: lw0 bw R gd gl gu (ds.map nz).length ls.length cu m n ps qs sw :: grMK zc gd (ds.map nz) :: grM rowV gl ls :: ls.map rowM)) rfl (.sr fun k6 => st (.ltI (.t rfl) (.t rfl)) rfl (nkQ k6 (.sq fun k7 => .cd rfl (fun hc1 => ?_) (fun hc1 => ?_)))))
 ·obtain ⟨hx1, hx2⟩ := hX j (by omega)
  have hXj := hXb j (by omega)
  have hXj1 := hXb (j + 1) (by omega)
  have hd0 := hdb j
  have hd1 := hdb (j + 1)
  have hr0 := hrb j
  have hk0 := hrkb j
  have m1 := nz_mul (cf ds (j + 1)) (X j)
  have m2 := nz_mul (cf r.2 j) (cf rk.2 j)
  have m3 := nz_sub (cf ds (j + 1) * X j) (cf r.2 j * cf rk.2 j)
  refine .skip (.nk k7 (.sq fun k8 => .block (.sr fun k9 => stM rfl (stM rfl (nkQ k9 (.dr (.m [] rfl (.so [19] rfl (.nilc (.t rfl)) (.so [20] rfl (.fieldAddr (.t rfl) fld87_1 ty22) (.so [21] rfl (.load1 (.t rfl) (i := 3) rfl ty22 rfl) (.m [] rfl (.so [23] rfl (.eq (.addI (.t rfl) (.cI 1 rfl) (by first | omega | assumption) (by first | omega | assumption)) ((show isI _ = isI ((j + 1 : Nat) : Int) from isI_eq (by omega)))) (.so [22,24] rfl (.ixGr sl22 ty33 (.t rfl) (.t rfl) (by omega)) ?_)))))))))))))
  refine .so [25] rfl (.loadGK zc_len (.t rfl) (i := 4) rfl ty33 (getZ (i := j + 1) (by omega))) (.so [] rfl (.load (.t rfl) (i := 0) rfl ty33 rfl (Ss' := [_, _]) rfl) (.so [26,27] rfl (.eq (.call (zint_Mul (by first | omega | (rw [val_words]; omega)) (by first | omega | (rw [val_words]; omega))) (.cons (.t rfl) (.cons (.t rfl) .nil))) ((show isZ _ = isZ (cf ds (j + 1) * X j) from isZ_eq (by (try simp only [zv_nz]); (try simp only [zv_nf]))))) ?_))
  refine .m [] rfl (.so [29] rfl (.nilc (.t rfl)) (.so [30] rfl (.fieldAddr (.t rfl) fld87_2 ty71) (.so [31] rfl (.load1 (.t rfl) (i := 3) rfl ty71 rfl) (.m [] rfl (.so [32,33] rfl (.ixGr sl71 ty22 (.t rfl) (.t rfl) (by omega)) ?_)))))
  refine .so [34] rfl (.loadGM (.t rfl) (i := 5) rfl ty22 hr) (.m [] rfl (.so [35,36] rfl (.ixGr sl22 ty33 (.t rfl) (.t rfl) (by omega)) ?_))
  refine .so [37] rfl (.loadGK zc_len (.t rfl) (i := 6 + i) (wkAt (pre := [_, _, _, _, _, _]) hr) ty33 (getZ (i := j) (by omega))) (.m [] rfl (.so [39] rfl (.nilc (.t rfl)) (.so [40] rfl (.fieldAddr (.t rfl) fld87_2 ty71) (.so [41] rfl (.load1 (.t rfl) (i := 3) rfl ty71 rfl) (.m [] rfl (.so [42,43] rfl (.ixGr sl71 ty22 (.t rfl) (.t rfl) (by omega)) ?_))))))
  refine .so [44] rfl (.loadGM (.t rfl) (i := 5) rfl ty22 hrk) (.m [] rfl (.so [45,46] rfl (.ixGr sl22 ty33 (.t rfl) (.t rfl) (by omega)) ?_))
  refine .so [47] rfl (.loadGK zc_len (.t rfl) (i := 6 + k) (wkAt (pre := [_, _, _, _, _, _]) hrk) ty33 (getZ (i := j) (by omega))) (.so [38,48] rfl (.eq (.call (zint_Mul (by first | omega | (rw [val_words]; omega)) (by first | omega | (rw [val_words]; omega))) (.cons (.t rfl) (.cons (.t rfl) .nil))) ((show isZ _ = isZ (cf r.2 j * cf rk.2 j) from isZ_eq (by (try simp only [zv_nz]); (try simp only [zv_nf]))))) ?_)
  refine .so [28,49] rfl (.eq (.call (zint_Sub (by first | omega | (rw [val_words]; omega)) (by first | omega | (rw [val_words]; omega))) (.cons (.t rfl) (.cons (.t rfl) .nil))) ((show isZ _ = isZ (cf ds (j + 1) * X j - cf r.2 j * cf rk.2 j) from isZ_eq (by (try simp only [zv_nz]); (try simp only [zv_nf]))))) ?_
  refine .m [] rfl (.so [51] rfl (.nilc (.t rfl)) (.so [52] rfl (.fieldAddr (.t rfl) fld87_1 ty22) (.so [53] rfl (.load1 (.t rfl) (i := 3) rfl ty22 rfl) (.m [] rfl (.so [54,55] rfl (.ixGr sl22 ty33 (.t rfl) (.t rfl) (by omega)) ?_)))))
  refine .so [56] rfl (.loadGK zc_len (.t rfl) (i := 4) rfl ty33 (getZ (i := j) (by omega))) (.fn (n := 39) mixed (.w [0,2,3,8,9,15,16,17,18,10,19,20,21,22,23,24,25,26,27,28,29,30,31,32,33,34,35,36,37,38,39,40,41,42,43,44,45,46,47,48,49,50,51,52,53,54,55,56,57] rfl (st (.eq (.call (lll_exact (by first | omega | (rw [val_words]; omega)) (by first | omega | (rw [val_words]; omega)) (by first | (rw [zv_nz]; exact hx1) | (rw [zv_nf]; exact hx1)) (by simp only [zv_nz, zv_nf]; exact ⟨X (j + 1), hx2.symm⟩)) (.cons (.t rfl) (.cons (.t rfl) .nil))) ((show isZ _ = isZ (X (j + 1)) from isZ_eq (by simp only [zv_nz, zv_nf]; rw [← hx2]; exact Int.mul_tdiv_cancel_left _ hx1)))) rfl ?_)))
  refine .store (.t rfl) (.t rfl) (i := 0) rfl ty33 rfl rfl (Ss' := [_, _]) rfl (M' := ((some _, cellM [_, _]) :: _ :: _ :: _ :: _ :: _ :: _)) rfl (nl (.bln (.nk k8 (.region (st (.addI (.t rfl) (.cI 1 rfl) (by first | omega | assumption) (by first | omega | assumption)) rfl (stM rfl (nl (.thn (hK5 (⟨j + 1, by omega⟩) _ _ ?_ (Cv.mem (.c 16 rfl ?_ (.l [0,2,3,8,9,15] rfl)) ?_))))))))))
  ·show k - (j + 1) < k - j; omega
  ·exact isI_eq (by omega)
  ·rfl
 ·obtain rfl : j = k := by omega
  refine .exit (.the (.the (.blh (.nk k3 (.w [8,9] rfl (.sr fun k10 => st (.load (.t rfl) (i := 0) rfl ty33 rfl (Ss' := [_, _]) rfl) rfl (.store (.t rfl) (.t rfl) (i := 1) rfl ty33 rfl rfl (Ss' := [_, _]) rfl (M' := (_ :: (some _, cellM [_, _]) :: _ :: _ :: _ :: _ :: _)) rfl (nkQ k10 (.ret (rtX1D (.cons _ (.cons _ (.cons _ (.cons_cons _ (.cons_cons _ (.cons_cons _ (List.Sublist.refl _))))))) (.inl rfl) Tryz.results92 rfl (.cell rfl (i := 1) rfl ty33 rfl rfl .nil) (⟨rfl, rfl⟩)))))))))))
end Go.Proofs.YtlebmedapfncoaaGreat
namespace Go.En
open Go.Nt Go.Pz Go.Mz Go.Dt Go.Ll
theorem rep_nz (R : Nat) : List.replicate R ((false, []) : Bool × List Nat) = (List.replicate R (0 : Int)).map nz := by rw [List.map_replicate, nz0']
theorem hdrU {β : Type} {l : List β} {x : β} {i : Nat} (h : l.length = i) : (l ++ [x])[i]? = some x := by
 subst h
 rw [List.getElem?_append_right (Nat.le_refl _), Nat.sub_self]; rfl
theorem perm_ent {β γ : Type} {f : γ → β} {w d l u B b' : β} {a : γ} {ls us : List γ} : (b' :: f a :: w :: d :: l :: u :: B :: (ls ++ us).map f).Perm ((w :: d :: l :: (ls ++ [a]).map f) ++ (b' :: u :: B :: us.map f)) := by
 rw [List.map_append, List.map_append]
 refine List.Perm.trans ?_ (List.perm_append_comm (l₁ := b' :: u :: B :: us.map f))
 show (b' :: f a :: w :: d :: l :: u :: B :: (ls.map f ++ us.map f)).Perm (b' :: u :: B :: (us.map f ++ (w :: d :: l :: (ls.map f ++ [f a]))))
 refine .cons _ ?_
 have h1 : (f a :: w :: d :: l :: u :: B :: (ls.map f ++ us.map f)).Perm (u :: B :: f a :: w :: d :: l :: (ls.map f ++ us.map f)) := by
  exact (List.perm_append_comm (l₁ := [f a, w, d, l]) (l₂ := [u, B])).append_right (ls.map f ++ us.map f)
 refine h1.trans (.cons _ (.cons _ ?_))
 have h2 : (f a :: w :: d :: l :: (ls.map f ++ us.map f)).Perm (w :: d :: l :: (ls.map f ++ [f a]) ++ us.map f) := by
  have : ([f a] ++ (w :: d :: l :: ls.map f)).Perm ((w :: d :: l :: ls.map f) ++ [f a]) := List.perm_append_comm
  have := this.append_right (us.map f)
  exact this
 exact h2.trans List.perm_append_comm
theorem m41_perm0 {d b u a l w B : Option Nat × MP} : [d, b, u, a, l, w, B].Perm [w, d, l, u, B, a, b] := by
 have h : ∀ x y : Nat, True := fun _ _ => trivial
 refine List.Perm.trans (l₂ := [w, d, b, u, a, l, B]) ?_ (.cons _ (.cons _ ?_))
 ·exact List.perm_append_comm (l₁ := [d, b, u, a, l]) (l₂ := [w]) |>.append_right [B]
 ·refine List.Perm.trans (l₂ := [l, b, u, a, B]) ?_ (.cons _ ?_)
  ·exact List.perm_append_comm (l₁ := [b, u, a]) (l₂ := [l]) |>.append_right [B]
  ·refine List.Perm.trans (l₂ := [u, b, a, B]) (.swap _ _ _) (.cons _ ?_)
   refine List.Perm.trans (l₂ := [B, b, a]) (List.perm_append_comm (l₁ := [b, a]) (l₂ := [B])) (.cons _ (.swap _ _ _))
theorem m41_perm1 {β γ : Type} {f : γ → β} {w d l u B : β} {a b : γ} {ls us : List γ} : (f b :: f a :: w :: d :: l :: u :: B :: (ls ++ us).map f).Perm (w :: d :: l :: u :: B :: ((ls ++ [a]) ++ (us ++ [b])).map f) := by
 have h1 : (f b :: f a :: w :: d :: l :: u :: B :: (ls ++ us).map f).Perm (w :: d :: l :: u :: B :: ((ls ++ us).map f ++ [f a, f b])) := by
  have : ([f b, f a] ++ (w :: d :: l :: u :: B :: (ls ++ us).map f)).Perm ((w :: d :: l :: u :: B :: (ls ++ us).map f) ++ [f b, f a]) := List.perm_append_comm
  refine this.trans ?_
  exact List.Perm.append_left (w :: d :: l :: u :: B :: (ls ++ us).map f) (.swap _ _ _)
 refine h1.trans (.cons _ (.cons _ (.cons _ (.cons _ (.cons _ ?_)))))
 rw [List.map_append, List.map_append, List.map_append, List.map_append, List.append_assoc, List.append_assoc]
 refine List.Perm.append_left _ ?_
 show (us.map f ++ ([f a] ++ [f b])).Perm ([f a] ++ (us.map f ++ [f b]))
 rw [← List.append_assoc, ← List.append_assoc]
 exact List.perm_append_comm.append_right _
theorem hd_eq {g : Gr Row} {l : List Row} {h : Gr (Bool × List Nat)} {x y : List Int} (e : x.length = y.length) : grM rowV g (l ++ [(h, x)]) = grM rowV g (l ++ [(h, y)]) := by
 have : rowV (h, x) = rowV (h, y) := by
  show isGr h (x.map nz).length = isGr h (y.map nz).length
  rw [List.length_map, List.length_map, e]
 unfold grM
 rw [List.map_append, List.map_append, List.map_append, List.map_append, List.map_cons, List.map_cons, this]
variable {w d B : Option Nat × MP} {R n0 i k b2 : Nat} {A : MatF} {gd a b : Gr (Bool × List Nat)} {g2 g3 : Gr Row} {ls us : List Row} {c1 : Nat} {S0 S1 S2 S3 S4 S5 : VP}
theorem m41_next0 : ([w, d, grM rowV g2 ([] ++ [(a, List.replicate R 0)]), grM rowV g3 ([] ++ [(b, List.replicate R 0)]), B, grMK zc a ((List.replicate R 0).map nz), grMK zc b (((List.replicate R 0).map nz).set 0 (nz 1))] : Mem) = w :: d :: grM rowV g2 ([] ++ [(a, lrow n0 R A 0 0)]) :: grM rowV g3 ([] ++ [(b, urow R 0)]) :: B :: (([] ++ [(a, lrow n0 R A 0 0)]) ++ ([] ++ [(b, urow R 0)])).map rowM := by
 rw [lrow_zero, hd_eq (g := g3) (h := b) (x := urow R 0) (y := List.replicate R 0) (by rw [urow_len, List.length_replicate])]
 have e : ((List.replicate R (0 : Int)).map nz).set 0 (nz 1) = (urow R 0).map nz := by unfold urow; rw [List.map_set]
 rw [e]; rfl
theorem m45_start : (grMK zc b (((List.replicate R 0).map nz).set i (nz 1)) :: grMK zc a ((List.replicate R 0).map nz) :: (some b2, cellM [S0, S1, isGr g2 (ls.length + [((a, List.replicate R 0) : Row)].length), isGr g3 (us.length + [((b, List.replicate R 0) : Row)].length), S2, S3, S4, S5, isI 0]) :: d :: grM rowV g2 (ls ++ [(a, List.replicate R 0)]) :: grM rowV g3 (us ++ [(b, List.replicate R 0)]) :: B :: (ls ++ us).map rowM : Mem) =
  grMK zc b ((urow R i).map nz) :: grMK zc a ((lrow n0 R A i 0).map nz) :: (some b2, cellM [S0, S1, isGr g2 (ls ++ [((a, lrow n0 R A i 0) : Row)]).length, isGr g3 (us ++ [((b, urow R i) : Row)]).length, S2, S3, S4, S5, isI 0]) :: d :: grM rowV g2 (ls ++ [(a, lrow n0 R A i 0)]) :: grM rowV g3 (us ++ [(b, urow R i)]) :: B :: (ls ++ us).map rowM := by
 rw [lrow_zero, hd_eq (g := g3) (h := b) (x := urow R i) (y := List.replicate R 0) (by rw [urow_len, List.length_replicate]), List.length_append, List.length_append]
 have e : ((List.replicate R (0 : Int)).map nz).set i (nz 1) = (urow R i).map nz := by unfold urow; rw [List.map_set]
 rw [e]; rfl
theorem m45_step {u : Option Nat × MP} (hk : k < R) : (u :: grMK zc a (((lrow n0 R A i k).map nz).set k (nz (xe n0 A i k k))) :: (some b2, cellM [S0, S1, isGr g2 (ls ++ [((a, lrow n0 R A i k) : Row)]).length, S2, S3, S4, S5, isWords [], isI 0]) :: d :: grM rowV g2 (ls ++ [(a, lrow n0 R A i k)]) :: w :: B :: (ls ++ us).map rowM : Mem) =
  u :: grMK zc a ((lrow n0 R A i (k + 1)).map nz) :: (some b2, cellM [S0, S1, isGr g2 (ls ++ [((a, lrow n0 R A i (k + 1)) : Row)]).length, S2, S3, S4, S5, isWords [], isI 0]) :: d :: grM rowV g2 (ls ++ [(a, lrow n0 R A i (k + 1))]) :: w :: B :: (ls ++ us).map rowM := by
 have e : ((lrow n0 R A i k).map nz).set k (nz (xe n0 A i k k)) = (lrow n0 R A i (k + 1)).map nz := by rw [← List.map_set, xe_lo, lrow_set hk]
 rw [e, hd_eq (g := g2) (h := a) (x := lrow n0 R A i (k + 1)) (y := lrow n0 R A i k) (by rw [lrow_len, lrow_len]), List.length_append, List.length_append]; rfl
theorem m41_next1 {ds : List Int} {x : Int} {l : Mem} : ((some b2, cellM [S0, isGr gd ((ds.map nz).length + [nz x].length), S1, S2, S3, isWords [], S4, S5, isI 0]) :: grMK zc gd (ds.map nz ++ [nz x]) :: l : Mem) = (some b2, cellM [S0, isGr gd ((ds ++ [x]).map nz).length, S1, S2, S3, isWords [], S4, S5, isI 0]) :: grMK zc gd ((ds ++ [x]).map nz) :: l := by
 rw [List.map_append, List.length_append]; rfl
theorem perm_box3 {β : Type} {a b c e x y z : β} {t : List β} : ((a :: b :: c :: e :: t) ++ [x, y, z]).Perm (a :: b :: c :: e :: x :: y :: z :: t) :=
 .cons _ (.cons _ (.cons _ (.cons _ List.perm_append_comm)))
theorem perm_box4 {β : Type} {a b c e x y z v : β} {t : List β} : ((a :: b :: c :: e :: t) ++ [x, y, z, v]).Perm (a :: b :: c :: e :: x :: y :: z :: v :: t) :=
 .cons _ (.cons _ (.cons _ (.cons _ List.perm_append_comm)))
theorem sub_run {β γ : Type} {f : γ → β} {a b c e x y z v : β} {ls us : List γ} : (a :: e :: (us.map f ++ [x])).Sublist ((a :: b :: c :: e :: (ls ++ us).map f) ++ [x, y, z, v]) := by
 refine .cons_cons _ (.cons _ (.cons _ (.cons_cons _ ?_)))
 refine List.Sublist.append ?_ (.cons_cons _ (List.nil_sublist _))
 rw [List.map_append]
 exact List.sublist_append_right _ _
theorem perm_run {β : Type} {a e x : β} {t : List β} : (a :: e :: (t ++ [x])).Perm (a :: e :: x :: t) := .cons _ (.cons _ List.perm_append_comm)
def flU (us : List Row) (i : Nat) : List Int := (us.take i).flatMap Prod.snd
theorem flU_zero (us : List Row) : flU us 0 = [] := rfl
theorem flU_succ {us : List Row} {i : Nat} {r : Row} (h : us[i]? = some r) : (flU us i).map nz ++ r.2.map nz = (flU us (i + 1)).map nz := by
 unfold flU
 rw [List.take_add_one, h, List.flatMap_append, List.map_append]
 simp
theorem flU_all {us : List Row} {i : Nat} (h : us.length ≤ i) : flU us i = us.flatMap Prod.snd := by unfold flU; rw [List.take_of_length_le h]
theorem flU_len {us : List Row} {R : Nat} (hr : ∀ r ∈ us, r.2.length = R) : ∀ i, i ≤ us.length → (flU us i).length = i * R
  | 0, _ => by rw [flU_zero, Nat.zero_mul]; rfl
  | i + 1, h => by
    have ih := flU_len hr i (by omega)
    obtain ⟨r, e⟩ : ∃ r, us[i]? = some r := ⟨_, List.getElem?_eq_getElem (by omega)⟩
    have h1 := congrArg List.length (flU_succ e)
    rw [List.length_append, List.length_map, List.length_map, List.length_map, ih, hr r (List.mem_of_getElem? e)] at h1
    rw [← h1, Nat.succ_mul]
theorem drop_cons {us : List Row} {i : Nat} {r : Row} (h : us[i]? = some r) : (us.drop i).map rowM = rowM r :: (us.drop (i + 1)).map rowM := by
 have hi : i < us.length := some_lt h
 rw [List.drop_eq_getElem_cons hi, List.map_cons]
 rw [List.getElem?_eq_getElem hi] at h
 rw [Option.some.inj h]
end Go.En
namespace Go.En
open Go.RowKit
section
variable {E : Env} {P : Program} {Γ : Ctx} {M : Mem} {ty : TypeId} {pos : String} {after : Array Edge} {gd : Option (Nat × Bool)} {d : Option Tmp}
 {ops : Array Oper} {Q : Exit → Act → World → Prop} {rest : List Oper}
def StG (E : Env) (P : Program) (Δ : Ctx) (M : Mem) (o : Oper) (S : VP) (M' : Mem) : Prop := o.guard = none ∧ ∀ a w F, Sat E Δ M a w F → ∀ (K : Act → World → Prop) (Q : Exit → Act → World → Prop),
 (∀ v w' F', (∀ b, F b → w'.heap[b]? = w.heap[b]?) → (∀ b, F b → F' b) → (∀ Γ'', Sat E Γ'' M a w F → Sat E Γ'' M' a w' F') → S.h w' F' v → K (a.put o.dst v) w') → o.wp P a w K Q
theorem StG.of {Δ : Ctx} {o : Oper} {S : VP} (hg : o.guard = none) (h : OK1 E P Δ M o S) : StG E P Δ M o S M :=
 ⟨hg, fun a w F s K Q hK => h a w F s K Q fun v w' F' ad hv => hK v w' F' (ad.same s.flt) ad.sub (fun Γ'' s'' => s''.adv ad) hv⟩
theorem StG.callX {Δ : Ctx} {g : FuncId} {xs : List Operand} {ts : Array TypeId} {args : List VP} {Mp Mr M1 : Mem} {R : VP → Mem → Prop} {d : Nat} {S0 : VP} (hf : CtrX P g args Mp R) (hp : M = Mp ++ Mr) (hx : HasL E Δ M xs args) (hR : ∀ S M', R S M' → S = S0 ∧ M' ++ Mr = M1) :
    StG E P Δ M ⟨some d, .call ⟨.value (.func g), xs.toArray, ts⟩, ty, pos, after, none⟩ S0 M1 := by
  subst hp
  refine ⟨rfl, fun a w F s K Q hK => ?_⟩
  unfold Oper.wp
  have hr : (execOp a.eval (⟨some d, .call ⟨.value (.func g), xs.toArray, ts⟩, ty, pos, after, none⟩ : Oper)).run P w = .ok (.enter g (xs.map a.eval).toArray) w := by
    have := run_enter hf.1 (xs.map a.eval).toArray w
    simpa [go_sem] using this
  rw [hr]
  have hargs := hx.all s
  have hapart := List.pairwise_append.1 s.mem.apart
  have hmp : MemIn Mp w F := ⟨hapart.1, fun b C hb => by
    obtain ⟨_, h2, h3, h4⟩ := s.mem.each b C (List.mem_append_left _ hb)
    exact ⟨h2, h3, h4⟩⟩
  refine (hf.2 w F _ s.flt hmp hargs).mono ?_
  rintro e w' ⟨v, S, M', F', rfl, hR', hk, hsub, hnew, hv, hap, heach⟩
  obtain ⟨rfl, rfl⟩ := hR S M' hR'
  have hW : ∀ b, b ∈ blks Mp → ¬ F b := fun b hb hF => by
    obtain ⟨C, hC⟩ := mem_blks.1 hb
    exact (hmp.each b C hC).2.1 hF
  have hsame : ∀ b, F b → w'.heap[b]? = w.heap[b]? := fun b hb => hk.block b (s.flt b hb) (fun h => hW b h hb)
  refine hK v w' F' hsame hsub (fun Γ'' s => ?_) hv
  have hown : ∀ b, b ∈ blks Mp → E.w0.heap.size ≤ b ∨ b ∈ E.W := fun b hb => by
    obtain ⟨C, hC⟩ := mem_blks.1 hb
    exact (s.mem.each b C (List.mem_append_left _ hC)).1
  have hrest : ∀ (b : Nat) (C : MP), (some b, C) ∈ Mr → b ∉ blks Mp ∧ b < w.heap.size := fun b C hb => by
    refine ⟨fun h => ?_, (s.mem.each b C (List.mem_append_right _ hb)).2.1⟩
    obtain ⟨C', hC'⟩ := mem_blks.1 h
    have := hapart.2.2 _ hC' _ hb
    rcases this with h | h
    · cases h
    · exact h rfl
  exact {
    defers := s.defers, size := s.size
    keep := by
      refine ⟨hk.os.trans s.keep.os, hk.tape.trans s.keep.tape, hk.output.trans s.keep.output, Nat.le_trans s.keep.size hk.size, fun k hk0 hkW => ?_⟩
      rw [hk.block k (Nat.lt_of_lt_of_le hk0 s.keep.size) (fun h => by rcases hown k h with h' | h'; omega; exact hkW h')]
      exact s.keep.block k hk0 hkW
    f0 := fun b h => hsub b (s.f0 b h)
    fnew := fun b h => by
      rcases hnew b h with h1 | h1
      · rcases s.fnew b h1 with h2 | h2
        · exact .inl h2
        · exact .inr ⟨h2.1, Nat.lt_of_lt_of_le h2.2 hk.size⟩
      · exact .inr ⟨Nat.le_trans s.keep.size h1.1, h1.2⟩
    flt := fun b h => by
      rcases hnew b h with h1 | h1
      · exact Nat.lt_of_lt_of_le (s.flt b h1) hk.size
      · exact h1.2
    slots := fun t S h => S.mono _ _ _ _ _ (s.slots t S h) hsame hsub
    mem := by
      refine ⟨List.pairwise_append.2 ⟨hap, hapart.2.1, ?_⟩, ?_⟩
      · rintro ⟨k, C⟩ h1 ⟨k', C'⟩ h2
        cases k with
        | none => exact .inl rfl
        | some b =>
          refine .inr fun e => ?_
          subst e
          obtain ⟨g1, _⟩ := heach b C h1
          obtain ⟨g2, g3⟩ := hrest b C' h2
          rcases g1 with g1 | g1
          · omega
          · exact g2 g1
      · intro b C hb
        rcases List.mem_append.1 hb with h | h
        · obtain ⟨g1, g2, g3, g4⟩ := heach b C h
          refine ⟨?_, g2, g3, g4⟩
          rcases g1 with g1 | g1
          · exact .inl (Nat.le_trans s.keep.size g1)
          · exact hown b g1
        · obtain ⟨g1, g2, g3, o, g4, g5⟩ := s.mem.each b C (List.mem_append_right _ h)
          obtain ⟨r1, r2⟩ := hrest b C h
          refine ⟨g1, Nat.lt_of_lt_of_le g2 hk.size, fun hF => ?_, o, (hk.block b g2 r1).trans g4, C.mono _ _ _ _ _ g5 hsame hsub⟩
          rcases hnew b hF with h1 | h1
          · exact g3 h1
          · omega }
theorem Sat.perm {a : Act} {w : World} {F : Blk} {M' : Mem} (h : M.Perm M') (s : Sat E Γ M a w F) : Sat E Γ M' a w F :=
 {s with mem := ⟨(h.pairwise_iff (fun {x y} hxy => by
  rcases hxy with h1 | h1
  ·by_cases h2 : y.1 = none
   ·exact .inl h2
   ·exact .inr (fun e => h2 (e.trans h1))
  ·exact .inr (fun e => h1 e.symm))).1 s.mem.apart, fun b C hb => s.mem.each b C (h.mem_iff.2 hb)⟩ }
theorem HasL.perm {xs : List Operand} {Ss : List VP} {M' : Mem} (h : M'.Perm M) (hx : HasL E Γ M xs Ss) : HasL E Γ M' xs Ss := by
 induction hx with
 | nil => exact .nil
 | cons h1 _ ih => exact .cons (fun a w F s => h1 a w F (s.perm h)) ih
theorem StG.callXP {Δ : Ctx} {g : FuncId} {xs : List Operand} {ts : Array TypeId} {args : List VP} {Mp Mr : Mem} {R : VP → Mem → Prop} {d : Nat} {S0 : VP} (hf : CtrX P g args Mp R) (hp : M.Perm (Mp ++ Mr)) (hx : HasL E Δ M xs args) (hR : ∀ S M', R S M' → S = S0 ∧ M' = Mp) :
  StG E P Δ M ⟨some d, .call ⟨.value (.func g), xs.toArray, ts⟩, ty, pos, after, none⟩ S0 M := by
 have h := StG.callX (ty := ty) (pos := pos) (after := after) (E := E) (Δ := Δ) (M := Mp ++ Mr) (Mr := Mr) (M1 := Mp ++ Mr) (d := d) (ts := ts) (S0 := S0) hf rfl (hx.perm hp.symm) fun S M' hh => by
  obtain ⟨h1, h2⟩ := hR S M' hh
  exact ⟨h1, by rw [h2]⟩
 refine ⟨rfl, fun a w F s K Q hK => h.2 a w F (s.perm hp) K Q fun v w' F' h1 h2 h3 h4 => hK v w' F' h1 h2 (fun Γ'' s'' => ?_) h4⟩
 exact (h3 Γ'' (s''.perm hp)).perm hp.symm
theorem StG.x {Δ : Ctx} {o : Oper} {S : VP} (h : StG E P Δ M o S M) : OKX E P ops Δ M o S := fun a w F s K Q hK => by
 rw [if_pos (by simp [Region.wanted, h.1])]
 exact .inl (h.2 a w F s K Q fun v w' F' h1 h2 h3 h4 => hK v w' F' ⟨h1, h2, h3⟩ h4)
theorem CtrX.imp {f : FuncId} {args : List VP} {M : Mem} {R R' : VP → Mem → Prop} (h : CtrX P f args M R) (hR : ∀ S M', R S M' → R' S M') : CtrX P f args M R' :=
 ⟨h.1, fun w F vs hF hM hargs => (h.2 w F vs hF hM hargs).mono (by
  rintro e w' ⟨v, S', M', F', rfl, hr, rest⟩
  exact ⟨v, S', M', F', rfl, hR S' M' hr, rest⟩)⟩
end
end Go.En
namespace Go.Dt
open RowF Go.Br Go.Pz
def choices : Nat → Nat → List (List Nat)
 | _, 0 => [[]]
 | 0, _ + 1 => []
 | m + 1, n + 1 => if m + 1 < n + 1 then [] else choices m (n + 1) ++ (choices m n).map (fun l => l ++ [m])
theorem choices_zero (m : Nat) : choices m 0 = [[]] := by cases m <;> rfl
theorem choices_nil {m n : Nat} (h : m < n) : choices m n = [] := by
  cases n with
  | zero => omega
  | succ n =>
    cases m with
    | zero => rfl
    | succ m => unfold choices; rw [if_pos h]
theorem choices_succ {m n : Nat} (h : n ≤ m) : choices (m + 1) (n + 1) = choices m (n + 1) ++ (choices m n).map (fun l => l ++ [m]) := by
 show (if _ then _ else _) = _
 rw [if_neg (by omega)]
theorem choices_spec : ∀ (m n : Nat) (Y : List Nat), Y ∈ choices m n → Y.length = n ∧ ∀ x ∈ Y, x < m
  | m, 0, Y, h => by
    rw [choices_zero] at h
    obtain rfl := List.mem_singleton.1 h
    exact ⟨rfl, by simp⟩
  | 0, _ + 1, Y, h => by cases h
  | m + 1, n + 1, Y, h => by
    by_cases hm : m + 1 < n + 1
    · rw [choices_nil hm] at h; cases h
    · rw [choices_succ (by omega)] at h
      rcases List.mem_append.1 h with h | h
      · obtain ⟨h1, h2⟩ := choices_spec m (n + 1) Y h
        exact ⟨h1, fun x hx => Nat.lt_succ_of_lt (h2 x hx)⟩
      · obtain ⟨Z, hZ, rfl⟩ := List.mem_map.1 h
        obtain ⟨h1, h2⟩ := choices_spec m n Z hZ
        refine ⟨by rw [List.length_append, h1]; rfl, fun x hx => ?_⟩
        rcases List.mem_append.1 hx with hx | hx
        · exact Nat.lt_succ_of_lt (h2 x hx)
        · rw [List.mem_singleton.1 hx]; exact Nat.lt_succ_self m
theorem choices_perm : ∀ (m n : Nat) (X : List Nat), X.Nodup → X.length = n → (∀ x ∈ X, x < m) → ∃ Y, Y ∈ choices m n ∧ Y.Perm X
  | m, 0, X, _, hl, _ => by
    obtain rfl := List.eq_nil_of_length_eq_zero hl
    exact ⟨[], by rw [choices_zero]; exact List.mem_singleton.2 rfl, List.Perm.refl _⟩
  | 0, n + 1, x :: X, _, _, h => absurd (h x (by simp)) (Nat.not_lt_zero _)
  | m + 1, n + 1, X, hd, hl, h => by
    by_cases hm : m ∈ X
    · have hp := List.perm_cons_erase hm
      have hd2 := (hp.nodup_iff.1 hd)
      obtain ⟨hd3, hd4⟩ := List.nodup_cons.1 hd2
      obtain ⟨Y, hY, hYp⟩ := choices_perm m n (X.erase m) hd4 (by rw [List.length_erase_of_mem hm, hl]; rfl) fun x hx => by
        have h1 := h x (List.mem_of_mem_erase hx)
        have h2 : x ≠ m := fun e => hd3 (e ▸ hx)
        omega
      have hnm : n ≤ m := by
        rcases Nat.lt_or_ge m n with h1 | h1
        · rw [choices_nil h1] at hY; cases hY
        · exact h1
      refine ⟨Y ++ [m], by rw [choices_succ hnm]; exact List.mem_append_right _ (List.mem_map.2 ⟨Y, hY, rfl⟩), ?_⟩
      exact (List.perm_append_singleton m Y).trans ((hYp.cons m).trans hp.symm)
    · obtain ⟨Y, hY, hYp⟩ := choices_perm m (n + 1) X hd hl fun x hx => by
        have h1 := h x hx
        have h2 : x ≠ m := fun e => hm (e ▸ hx)
        omega
      have hnm : n ≤ m := by
        rcases Nat.lt_or_ge m (n + 1) with h1 | h1
        · rw [choices_nil h1] at hY; cases hY
        · omega
      exact ⟨Y, by rw [choices_succ hnm]; exact List.mem_append_left _ hY, hYp⟩
end Go.Dt
namespace Go.En
open Go.RowKit Go.Dt Go.Pz Go.Nt Go.Mz
section
variable {P : Program} {α : Type} {f : α → VP}
theorem CtrX.freeze {g : FuncId} {args : List VP} {ys : List α} (h : CtrX P g args [] (fun S M => ∃ gr : Gr α, S = isGr gr ys.length ∧ M = [grM f gr ys])) : Ctr P g args (SlM f ys) :=
 ⟨h.1, fun w F vs hF hargs => (h.2 w F vs hF ⟨List.Pairwise.nil, by simp⟩ hargs).mono (by
  rintro e w' ⟨v, S', M', F', rfl, ⟨gr, rfl, rfl⟩, hk, hsub, hnew, hv, _, heach⟩
  refine ⟨v, rfl, hk, ?_⟩
  rcases hv with ⟨h1, h2, rfl⟩ | ⟨b, hob, rfl, h1, h2⟩
  ·obtain rfl : ys = [] := List.eq_nil_of_length_eq_zero h2
   exact nilM _ _
  ·obtain ⟨g1, g2, g3, o, g4, us, T, rfl, hu⟩ := heach b (cellM ((ys ++ gr.sp).map f)) (by unfold grM; rw [hob]; simp)
   have hb : fresh F w w' b := by
    rcases g1 with g1 | g1
    ·exact .inr ⟨g1, g2⟩
    ·exact absurd g1 (by simp [blks])
   rw [List.map_append] at hu
   have hu2 := hu.take ys.length
   rw [List.take_left' (by simp)] at hu2
   refine ⟨_, _, rfl, by omega, h2, by simp, .inr ⟨b, 0, rfl, hb, us.take ys.length, All2.mono (fun _ _ => rfl) hnew _ _ hu2, fun j u hj => ?_⟩⟩
   rw [Nat.zero_add]
   have hj2 : j < ys.length := by
    rcases Nat.lt_or_ge j ys.length with h | h
    ·exact h
    ·rw [List.getElem?_take_eq_none h] at hj; cases hj
   rw [List.getElem?_take_of_lt hj2] at hj
   simp [World.cell?, g4, hj])⟩
end
theorem rtXND {E : Env} {P : Program} {Γ : Ctx} {M M' : Mem} {fn : Func} {rs : List ResultVar} {Rs : List VP} {R : VP → Mem → Prop} {W : List Nat} {e : Exit} (hs : M'.Sublist M) (he : e = .ret ∨ e = .normal) (hr : fn.results = rs.toArray) (hn : Nat.beq rs.length 1 = false) (hw : E.W = W) (h : ResL E P Γ M rs Rs) (hR : R (isTup Rs) M') : At E Γ M (bodyPost P fn (RetX E.w0 E.F0 W R)) e := by
 intro a w F s
 obtain ⟨vs, h1, h2⟩ := run_results hr h s
 have hl : Rs.length = rs.length := by
  clear h1 h2 s a w F vs hR
  clear hn hr
  induction h with
  | nil => rfl
  | tmp _ _ ih => simp [ih]
  | cell _ _ _ _ _ _ ih => simp [ih]
  | cell1 _ _ _ _ _ ih => simp [ih]
 have hne : vs.length ≠ 1 := by rw [← h2.len, hl]; exact Nat.ne_of_beq_eq_false hn
 rw [dif_neg hne] at h1
 exact fin_retXD (S := isTup Rs) hs he s hw h1 ⟨vs, rfl, h2⟩ hR
end Go.En
namespace Go.En
open Go.RowKit
def CellsIn (w w' : World) : Prop := ∀ a c, w.cell? a = some c → w'.cell? a = some c
theorem CellsIn.refl (w : World) : CellsIn w w := fun _ _ h => h
theorem CellsIn.trans {a b c : World} (h : CellsIn a b) (k : CellsIn b c) : CellsIn a c := fun x v hx => k x v (h x v hx)
theorem CellsIn.of_heap {w w' : World} (h : ∀ (k : Nat) (o : Obj), w.heap[k]? = some o → w'.heap[k]? = some o) : CellsIn w w' := fun a c hc => by
 unfold World.cell? at hc ⊢
 cases ho : w.heap[a.block]? with
 | none => rw [ho] at hc; cases hc
 | some o => rw [ho] at hc; rw [h _ _ ho]; exact hc
inductive Calm {α : Type} : Sem α → Prop
 | pure (a : α) : Calm (.pure a)
 | load (m : Mode) (a : Addr) (k : Value → Sem α) (h : ∀ v, Calm (k v)) : Calm (.load m a k)
 | new (o : Obj) (k : Nat → Sem α) (h : ∀ n, Calm (k n)) : Calm (.new o k)
 | choose (q : Question) (k : Nat → Sem α) (h : ∀ n, Calm (k n)) : Calm (.choose q k)
 | program (k : Program → Sem α) (h : ∀ p, Calm (k p)) : Calm (.program k)
 | mark (m : Mark) (k : Sem α) (h : Calm k) : Calm (.mark m k)
 | halt (x : Halt) : Calm (.halt x)
theorem Calm.run {α : Type} {P : Program} {s : Sem α} (h : Calm s) : ∀ (w : World) (a : α) (w' : World), s.run P w = .ok a w' → CellsIn w w' := by
  induction h with
  | pure a => intro w a' w' e; cases e; exact CellsIn.refl _
  | load m a k _ ih =>
    intro w a' w' e
    unfold Sem.run at e
    split at e
    · exact ih _ w a' w' e
    · split at e
      · exact ih _ w a' w' e
      · cases e
  | new o k _ ih =>
    intro w a' w' e
    refine CellsIn.trans (CellsIn.of_heap fun k' o' ho => ?_) (ih _ _ a' w' e)
    have hk : k' < w.heap.size := by
      rcases Nat.lt_or_ge k' w.heap.size with h | h
      · exact h
      · rw [Array.getElem?_eq_none h] at ho; cases ho
    show (w.heap.push o)[k']? = some o'
    rw [Array.getElem?_push_lt hk, ← ho, Array.getElem?_eq_getElem hk]
  | choose q k _ ih =>
    intro w a' w' e
    unfold Sem.run at e
    split at e <;> first | exact ih _ w a' w' e | exact CellsIn.trans (b := { w with drawn := w.drawn + 1 }) (CellsIn.of_heap fun _ _ h => h) (ih _ _ a' w' e)
  | program k _ ih => intro w a' w' e; exact ih _ w a' w' e
  | mark m k _ ih => intro w a' w' e; exact ih w a' w' e
  | halt x => intro w a' w' e; cases e
theorem Calm.bind {α β : Type} {s : Sem α} {f : α → Sem β} (h : Calm s) (k : ∀ a, Calm (f a)) : Calm (s >>= f) := by
 show Calm (Sem.bind s f)
 induction h with
 | pure a => exact k a
 | load m a k' _ ih => exact .load m a _ ih
 | new o k' _ ih => exact .new o _ ih
 | choose q k' _ ih => exact .choose q _ ih
 | program k' _ ih => exact .program _ ih
 | mark m k' _ ih => exact .mark m _ ih
 | halt x => exact .halt x
theorem calm_pure {α : Type} (a : α) : Calm (Pure.pure a : Sem α) := .pure a
theorem calm_stuck {α : Type} (m : String) : Calm (stuck m : Sem α) := .halt _
theorem calm_unsupported {α : Type} (u : Unsupported) : Calm (unsupported u : Sem α) := .halt _
theorem calm_program : Calm Go.program := .program _ fun p => .pure p
theorem calm_typeInfo (t : TypeId) : Calm (typeInfo t) := by unfold typeInfo; exact calm_program.bind fun p => by split; exact calm_pure _; exact calm_stuck _
theorem calm_underlying (t : TypeId) : Calm (underlying t) := by unfold underlying; exact calm_program.bind fun p => by split; exact calm_pure _; exact calm_stuck _
theorem calm_sizeOf (t : TypeId) : Calm (sizeOf t) := by unfold sizeOf; exact (calm_typeInfo t).bind fun p => calm_pure _
theorem calm_zeroValue (t : TypeId) : Calm (zeroValue t) := by unfold zeroValue; exact (calm_typeInfo t).bind fun p => by split; exact calm_pure _; exact calm_unsupported _
theorem calm_isAgg (t : TypeId) : Calm (isAgg t) := by unfold isAgg; exact (calm_underlying t).bind fun p => by split <;> exact calm_pure _
theorem calm_sureAddr (v : Value) : Calm (Instr.sureAddr v) := by unfold Instr.sureAddr; split; exact calm_pure _; exact calm_stuck _
theorem calm_load (a : Addr) : Calm (Go.load a) := .load _ _ _ fun v => .pure v
theorem calm_loadCellsFrom (a : Addr) : ∀ (n i : Nat) (acc : Array Value), Calm (loadCellsFrom a i n acc)
 | 0, _, _ => calm_pure _
 | n + 1, i, acc => (calm_load _).bind fun v => calm_loadCellsFrom a n (i + 1) (acc.push v)
theorem calm_loadVar (t : TypeId) (a : Addr) : Calm (loadVar t a) := by
 unfold loadVar
 refine (calm_isAgg t).bind fun b => ?_
 split
 ·exact (calm_sizeOf t).bind fun n => (calm_loadCellsFrom a n 0 #[]).bind fun _ => calm_pure _
 ·exact calm_load a
theorem calm_loadAt (t : TypeId) (v : Value) : Calm (Instr.loadAt t v) := by unfold Instr.loadAt; exact (calm_sureAddr v).bind fun a => calm_loadVar t a
theorem calm_newRow (e : TypeId) (cs : Array Value) : Calm (newRow e cs) := by unfold newRow; exact Calm.bind (.new _ _ fun n => .pure n) fun _ => calm_pure _
theorem calm_goPanic {α : Type} (v : Value) : Calm (goPanic v : Sem α) := .halt _
theorem calm_runtimePanic {α : Type} (e : RuntimeError) : Calm (runtimePanic e : Sem α) := by
 unfold runtimePanic
 refine calm_program.bind fun p => ?_
 cases e <;> (first | exact calm_goPanic _ | (repeat' (first | exact calm_goPanic _ | exact calm_pure _ | exact calm_stuck _ | exact calm_unsupported _ | exact calm_program | exact calm_underlying _ | exact calm_zeroValue _ | exact calm_sizeOf _ | exact calm_newRow _ _ | exact (Calm.halt _) | split | refine Calm.bind ?_ fun _ => ?_)))
theorem calm_choose (q : Question) : Calm (Go.choose q) := .choose _ _ fun n => .pure n
theorem calm_askRoom (n : Nat) : Calm (askRoom n) := by unfold askRoom; split; exact .mark _ _ (.pure _); exact calm_pure _
theorem calm_asIntOf (v : Value) : Calm (asIntOf v) := by unfold asIntOf; split <;> first | exact calm_pure _ | exact calm_stuck _ | exact calm_unsupported _
theorem calm_asInt (v : Value) : Calm (asInt v) := by unfold asInt; exact (calm_asIntOf v).bind fun _ => calm_pure _
theorem calm_makeSlice (t : TypeId) (l c : Value) : Calm (Instr.makeSlice t l c) := by
 unfold Instr.makeSlice
 repeat' (first | exact calm_pure _ | exact calm_stuck _ | exact calm_underlying _ | exact calm_asInt _ | exact calm_typeInfo _ | exact calm_runtimePanic _ | exact calm_choose _ | exact calm_askRoom _ | exact calm_sizeOf _ | exact calm_zeroValue _ | exact calm_newRow _ _ | dsimp only | split | refine Calm.bind ?_ fun _ => ?_)
theorem calm_buildSlice (t : TypeId) (n : Nat) (ps : Array (Nat × Value)) : Calm (Instr.buildSlice t n ps) := by
 unfold Instr.buildSlice
 repeat' (first | exact calm_pure _ | exact calm_stuck _ | exact calm_unsupported _ | exact calm_underlying _ | exact calm_sizeOf _ | exact calm_zeroValue _ | exact calm_newRow _ _ | dsimp only | split | refine Calm.bind ?_ fun _ => ?_)
def calmB (o : Oper) : Bool := match o.op with
 | .load .. => true
 | .makeSlice .. => true
 | .buildSlice .. => true
 | .move .. => true
 | _ => false
theorem calm_run {o : Oper} (h : calmB o = true) {ρ : Operand → Value} {P : Program} {w w' : World} {n : Next} (hr : (execOp ρ o).run P w = .ok n w') : (∃ u, n = .value u) ∧ CellsIn w w' := by
 have key : ∀ {s : Sem Value}, Calm s → (do pure (Next.value (← s)) : Sem Next).run P w = .ok n w' → (∃ u, n = .value u) ∧ CellsIn w w' := fun {s} hs e => by
  refine ⟨?_, (hs.bind fun _ => calm_pure _).run _ _ _ e⟩
  rw [Sem.run_bind] at e
  cases hv : s.run P w with
  | ok v w1 => rw [hv] at e; exact ⟨v, by simp at e; exact e.1.symm⟩
  | halt x w1 => rw [hv] at e; simp at e
 obtain ⟨d, op, ty, pos, af, gd⟩ := o
 cases op <;> simp only [calmB] at h <;> first | cases h | skip
 ·simp only [execOp] at hr
  cases hr
  exact ⟨⟨_, rfl⟩, CellsIn.refl _⟩
 all_goals (simp only [execOp] at hr)
 ·exact key (calm_buildSlice _ _ _) hr
 ·exact key (calm_loadAt _ _) hr
 ·exact key (calm_makeSlice _ _ _) hr
section
variable {P : Program} {ops : Array Oper} {md : Region.Mode} {Q : Exit → Act → World → Prop}
def YieldsIn (P : Program) (w0 : World) (o : Oper) (v : Value) (a : Act) : Prop := ∀ w, CellsIn w0 w → (execOp a.eval o).run P w = .ok (.value v) w
theorem wpOp_putC {j : Nat} {oi oj : Oper} {v : Value} {w0 : World} (hj : ops[j]? = some oj) (hap : oi.apart ops oj = true) (hc : calmB oj = true)
    (hsi : ∀ cs b, oi.op ≠ .select cs b) (hsj : ∀ cs b, oj.op ≠ .select cs b)
    (hQ : ∀ c a w, Q (.panic c) (a.put oi.dst v) w → Q (.panic c) a w) {K : Act → World → Prop} {a : Act} {w : World}
    (hw0 : CellsIn w0 w) (hy : YieldsIn P w0 oi v a) (h : wpOp P ops Q j K (a.put oi.dst v) w) :
    wpOp P ops Q j (fun a' w' => (CellsIn w0 w' ∧ YieldsIn P w0 oi v a') ∧ K (a'.put oi.dst v) w') a w := by
  obtain ⟨h1, h2, h3⟩ := Oper.apart_spec hap
  have keep : ∀ u, YieldsIn P w0 oi v (a.put oj.dst u) := fun u w' hw' => by rw [execOp_put oi hsi a oj.dst u h3]; exact hy w' hw'
  unfold wpOp at *
  simp only [hj] at *
  rw [wanted_put oj a oi.dst v h1] at h
  split
  · rename_i hw
    simp only [hw, if_true] at h
    rcases h with h | ⟨hasks, hlets⟩
    case inr => exact .inr ⟨by unfold Oper.asks at *; rw [execOp_put oj hsj a oi.dst v h1] at hasks; exact hasks, hlets⟩
    refine .inl ?_
    unfold Oper.wp at *
    rw [execOp_put oj hsj a oi.dst v h1] at h
    cases hr : (execOp a.eval oj).run P w with
    | ok n w' =>
      obtain ⟨⟨u, rfl⟩, hci⟩ := calm_run hc hr
      rw [hr] at h
      simp only [Oper.upon] at h ⊢
      exact ⟨⟨hw0.trans hci, keep u⟩, by rw [← Act.put_comm a v u h2]; exact h⟩
    | halt x w' =>
      rw [hr] at h
      cases x <;> simp only [Oper.upon] at h ⊢
      case panic u => exact hQ _ _ _ h
  · rename_i hw
    simp only [hw] at h
    exact ⟨⟨hw0, keep _⟩, by rw [← Act.put_comm a v undef h2]; exact h⟩
theorem wpAny_firstC {i : Nat} {oi : Oper} {v : Value} {w0 : World} (hi : ops[i]? = some oi) (hg : oi.guard = none) (hsel : ∀ (j : Nat) (o : Oper) cs b, ops[j]? = some o → o.op ≠ .select cs b)
    (hQ : ∀ c a w, Q (.panic c) (a.put oi.dst v) w → Q (.panic c) a w) :
    ∀ (fuel : Nat) (listed : Array Bool) (a : Act) (w : World), CellsIn w0 w →
      (∀ j oj, ops[j]? = some oj → j ≠ i → listed.getD j true = false → (∀ e ∈ oj.after, Region.binds md e = true → e.on ≠ i) → oi.apart ops oj = true ∧ calmB oj = true) →
      i ∈ Region.ready md ops listed → YieldsIn P w0 oi v a →
      wpAny P md ops Q fuel (listed.setIfInBounds i true) (a.put oi.dst v) w → wpAny P md ops Q (fuel + 1) listed a w := by
  have self : ∀ {K : Act → World → Prop} {a : Act} {w : World}, CellsIn w0 w → YieldsIn P w0 oi v a → K (a.put oi.dst v) w → wpOp P ops Q i K a w := fun {K a w} hw hy hK => by
    unfold wpOp
    simp only [hi]
    rw [if_pos (by simp [Region.wanted, hg])]
    refine .inl ?_
    unfold Oper.wp
    rw [hy w hw]
    exact hK
  intro fuel
  induction fuel with
  | zero =>
    intro listed a w hw _ hr hy H
    refine ⟨fun h => (by rw [h] at hr; cases hr), fun j hj => ?_⟩
    by_cases hji : j = i
    · subst hji; exact self hw hy H
    · have := ready_mono hj hji
      rw [H.1] at this
      cases this
  | succ fuel ih =>
    intro listed a w hw hfree hr hy H
    refine ⟨fun h => (by rw [h] at hr; cases hr), fun j hj => ?_⟩
    by_cases hji : j = i
    · subst hji; exact self hw hy H
    · have h1 := H.2 j (ready_mono hj hji)
      obtain ⟨hjun, oj, hoj, hall⟩ := mem_ready.1 hj
      have hnot : ∀ e ∈ oj.after, Region.binds md e = true → e.on ≠ i := fun e he hb heq => by
        have h1 := hall e he hb
        have h0 := (mem_ready.1 hr).1
        rw [heq] at h1
        rcases Nat.lt_or_ge i listed.size with h' | h'
        · simp [h'] at h0 h1; rw [h0] at h1; cases h1
        · simp [Array.getElem?_eq_none h'] at h1
      obtain ⟨f1, f2⟩ := hfree j oj hoj hji hjun hnot
      have h2 := wpOp_putC hoj f1 f2 (fun cs b => hsel i oi cs b hi) (fun cs b => hsel j oj cs b hoj) hQ hw hy h1
      have hfree' : ∀ k ok, ops[k]? = some ok → k ≠ i → (listed.setIfInBounds j true).getD k true = false →
          (∀ e ∈ ok.after, Region.binds md e = true → e.on ≠ i) → oi.apart ops ok = true ∧ calmB ok = true := fun k ok hk hki hun hno => by
        refine hfree k ok hk hki ?_ hno
        by_cases hjk : j = k
        · subst hjk; exact hjun
        · rw [getD_set_ne true hjk] at hun; exact hun
      refine wpOp_mono (fun a' w' h3 => ih (listed.setIfInBounds j true) a' w' h3.1.1 hfree' (ready_mono hr (Ne.symm hji)) h3.1.2 ?_) h2
      rw [Array.setIfInBounds_comm _ _ hji]
      exact h3.2
end
def freeC (l : List Oper) (listed : Array Bool) (i : Nat) : Bool := match l[i]? with
 | none => false
 | some oi => (List.range l.length).all fun j => j == i || listed.getD j true || match l[j]? with
   | some oj => oj.after.any (fun e => Region.binds .any e && e.on == i) || (oi.apart l.toArray oj && calmB oj)
   | none => true
theorem freeC_spec {l : List Oper} {i : Nat} {oi : Oper} {listed : Array Bool} (hi : l[i]? = some oi) (h : freeC l listed i = true) (j : Nat) (oj : Oper)
  (hj : l[j]? = some oj) (hne : j ≠ i) (hun : listed.getD j true = false) (hno : ∀ e ∈ oj.after, Region.binds .any e = true → e.on ≠ i) : oi.apart l.toArray oj = true ∧ calmB oj = true := by
 simp only [freeC, hi, List.all_eq_true, List.mem_range] at h
 have h1 := h j (List.getElem?_eq_some_iff.1 hj).1
 simp only [hj, Bool.or_eq_true, beq_iff_eq, hne, false_or, hun, Bool.false_eq_true] at h1
 rcases h1 with h1 | h1
 ·obtain ⟨e, he, hb⟩ := Array.any_eq_true'.1 h1
  simp only [Bool.and_eq_true, beq_iff_eq] at hb
  exact absurd hb.2 (hno e he hb.1)
 ·simpa [Bool.and_eq_true] using h1
section
variable {E : Env} {P : Program} {Γ : Ctx} {M : Mem} {ty : TypeId} {pos : String} {after : Array Edge} {Q : Exit → Act → World → Prop}
def OKL (E : Env) (P : Program) (Γ : Ctx) (M : Mem) (o : Oper) (S : VP) : Prop :=
 ∀ a w F, Sat E Γ M a w F → ∃ v, (∀ w', CellsIn w w' → (execOp a.eval o).run P w' = .ok (.value v) w') ∧ S.h w F v
theorem DrB.tl {l : List Oper} {bs : List Nat} {d : Nat} {o : Oper} {S : VP} (i : Nat) (hi : l[i]? = some o) (hd : o.dst = some d) (hg : o.guard = none) (hn : Nat.blt d E.n = true)
  (hok : OKL E P Γ M o S) (k : DrB E P l ((d, S) :: Γ) M Q (bs ++ [i])) (hs : Region.noSelect l.toArray = true := by kernel_rfl)
  (hf : freeC l (arrOf l.length bs) i = true := by kernel_rfl) (hr : (Region.ready .any l.toArray (arrOf l.length bs)).contains i = true := by kernel_rfl) (hl : Nat.blt bs.length l.length = true := by kernel_rfl)
  (hQ : ∀ c a w v, Q (.panic c) (Act.put a (some d) v) w → Q (.panic c) a w := by exact fun _ _ _ _ h => h) : DrB E P l Γ M Q bs := by
 intro a w F s
 obtain ⟨v, hv, hS⟩ := hok a w F s
 have hd' : d < E.n := by simpa [Nat.blt_eq] using hn
 have hl' : bs.length < l.length := by simpa [Nat.blt_eq] using hl
 have hk := k (a.put (some d) v) w F (s.put hd' hS)
 obtain ⟨f, hfu⟩ : ∃ f, l.length - bs.length = f + 1 := ⟨l.length - bs.length - 1, by omega⟩
 rw [hfu]
 refine wpAny_firstC (i := i) (oi := o) (v := v) (w0 := w) (by simpa using hi) hg (Region.noSelect_spec hs) (fun c a w h => hQ c a w v (by rw [hd] at h; exact h)) f _ a w (CellsIn.refl w) (fun j oj hj => freeC_spec hi hf j oj (by simpa using hj)) (by simpa using hr) hv ?_
 rw [hd, ← arrOf_snoc]
 rw [List.length_append, List.length_singleton, show l.length - (bs.length + 1) = f by omega] at hk
 exact hk
theorem OKL.load1 {d : Option Tmp} {x : Operand} {b off i : Nat} {T : TypeId} {Ss : List VP} {S : VP} (hx : Has E Γ M x (isPtr b off)) (hM : M[i]? = some (some b, cellM Ss)) (hT : tyB P T = some (1, false))
  (hS : Ss[off]? = some S) : OKL E P Γ M ⟨d, .load T x, ty, pos, after, none⟩ S := fun a w F s => by
 obtain ⟨o, hb, vs, T', rfl, hv⟩ := mem_at s hM
 have h1 : a.eval x = .pointer (some ⟨b, off, none⟩) := hx a w F s
 obtain ⟨v, hv1, hv2⟩ := hv.get off S hS
 have hc : w.cell? ⟨b, off, none⟩ = some v := by simp [World.cell?, hb, hv1]
 refine ⟨v, fun w' hw' => ?_, hv2⟩
 simp only [execOp, h1, Instr.loadAt, Instr.sureAddr, loadVar, Sem.run_bind, Sem.run_pure, Result.andThen_ok, run_isAgg hT]
 simp [hw' _ _ hc]
end
end Go.En
namespace Go.En
open Go.RowKit
section
variable {E : Env} {P : Program} {Γ : Ctx} {M : Mem} {ty : TypeId} {pos : String} {after : Array Edge} {gd : Option (Nat × Bool)} {d : Option Tmp}
 {ops : Array Oper} {Q : Exit → Act → World → Prop} {rest : List Oper} {T T' : TypeId} {x y : Operand} {α : Type} {fk : α → List VP} {xs : List α} {k : Nat}
def SlE (k : Nat) (fk : α → List VP) (xs : List α) : VP := ⟨fun w F v => 0 < xs.length ∧ xs.length ≤ maxLen ∧ ∃ b vs, v = .slice (some ⟨b, 0, none⟩) xs.length xs.length ∧ F b ∧ All2 (xs.flatMap fk) w F vs ∧ ∀ (j : Nat) u, vs[j]? = some u → w.cell? ⟨b, j, none⟩ = some u,
 fun w w' F F' v h h1 h2 => by
  obtain ⟨g0, gm, b, vs, e, g1, g2, g3⟩ := h
  refine ⟨g0, gm, b, vs, e, h2 b g1, All2.mono h1 h2 _ _ g2, fun j u hj => ?_⟩
  have := g3 j u hj
  unfold World.cell? at this ⊢
  rw [h1 b g1]; exact this⟩
instance : One (SlE k fk xs) := ⟨fun w F v h => by obtain ⟨_, _, b, vs, rfl, _⟩ := h; rfl⟩
instance : Shape (SlE k fk xs) [SlE k fk xs] := .of_one inferInstance
theorem SlE.sl (w : World) (F : Blk) (v : Value) (h : (SlE k fk xs).h w F v) (hk : ∀ y, (fk y).length = k) : (SlK k fk xs).h w F v := by
 obtain ⟨g0, gm, b, vs, e, g1, g2, g3⟩ := h
 refine ⟨some ⟨b, 0, none⟩, xs.length, e, Nat.le_refl _, gm, flat_len hk xs, .inr ⟨b, 0, rfl, g1, vs, g2, fun j u hj => ?_⟩⟩
 rw [Nat.zero_add]; exact g3 j u hj
theorem OK1.buildSE {T e : TypeId} {n m : Nat} {g : Bool} {z : Value} {ps : List (Nat × Operand)} (Z : List VP) (xs : List α) (hT : slB P T = some e) (ht : tyB P e = some (m, g)) (hz : zeroB P e = some z) (hZ : ∀ w F, All2 Z w F ((List.replicate n z.cells.toList).flatten)) (hnm : Nat.ble (n * m) 1000 = true) (hn0 : Nat.beq (n * m) 0 = false)
    (h : Parts E Γ M (fun i => some (i * m, m)) Z ps (xs.flatMap fk)) (hl : Nat.beq (xs.flatMap fk).length (n * m) = true) (hx : n = xs.length) : OK1 E P Γ M ⟨d, .buildSlice T n ps.toArray, ty, pos, after, gd⟩ (SlE m fk xs) := by
  intro a w F s K Q hK
  have hu := slB_under hT
  have hnm' := Nat.le_of_ble_eq_true hnm
  have hn0' := Nat.ne_of_beq_eq_false hn0
  have hm : (n * z.cells.size) = n * m := by
    have h1 := (hZ w F).len
    have h2 := Nat.eq_of_beq_eq_true hl
    have h3 : (xs.flatMap fk).length = Z.length := by
      clear h1 h2 hK hZ hl
      generalize xs.flatMap fk = Z' at h
      induction h with
      | nil => rfl
      | @cons Z Z' i off k x S0 Ss r sh a1 a2 a3 a4 _ ih =>
        rw [ih, spliceV_eq _ _ _ (by have := Nat.le_of_ble_eq_true a4; have := Nat.eq_of_beq_eq_true a3; omega)]
        have := Nat.le_of_ble_eq_true a4; have := Nat.eq_of_beq_eq_true a3
        simp; omega
    simp at h1
    omega
  have hz0 : z.cells.size = m := by
    rcases Nat.eq_zero_or_pos n with h0 | h0
    · subst h0; simp at hn0'
    · exact Nat.eq_of_mul_eq_mul_left h0 hm
  have hfl : ((Array.range (n * m)).map fun j => z.cells[j % z.cells.size]!) = ((List.replicate n z.cells.toList).flatten).toArray := make_flat hz0
  obtain ⟨cells, h1, h2⟩ := h.fill s ((List.replicate n z.cells.toList).flatten).toArray (by simpa using hZ w F)
  have hr : (execOp a.eval (⟨d, .buildSlice T n ps.toArray, ty, pos, after, gd⟩ : Oper)).run P w = .ok (.value (.slice (some ⟨w.heap.size, 0, none⟩) n n)) { w with heap := w.heap.push (.cells cells e) } := by
    have hmap : (ps.toArray.map fun (p : Nat × Operand) => (p.1, a.eval p.2)).toList = ps.map fun p => (p.1, a.eval p.2) := by simp
    have hbig : ¬ n * m > 2 ^ 24 := by omega
    simp only [execOp, Instr.buildSlice, Sem.run_bind, run_under hu, Result.andThen_ok, run_size ht, if_neg hbig, if_neg hn0', run_zero hz, Sem.run_pure, hmap, hfl, h1, newRow, run_newObj]
  unfold Oper.wp
  rw [hr]
  have ad := alloc_new s (.cells cells e)
  have h2' := All2.mono (ad.same s.flt) ad.sub _ _ h2
  have hnp : 0 < n := by
    rcases Nat.eq_zero_or_pos n with h0 | h0
    · subst h0; simp at hn0'
    · exact h0
  have hmp : 0 < m := by
    rcases Nat.eq_zero_or_pos m with h0 | h0
    · subst h0; simp at hn0'
    · exact h0
  refine hK _ _ _ ad ⟨by omega, ?_, w.heap.size, cells.toList, by rw [hx], .inr rfl, h2', fun j u hj => ?_⟩
  · have := Nat.le_mul_of_pos_right n hmp
    rw [maxLen_eq]; omega
  · show World.cell? { w with heap := w.heap.push (.cells cells e) } ⟨w.heap.size, j, none⟩ = some u
    simp only [World.cell?, Array.getElem?_push_size]
    simpa using hj
theorem Ops.appendE {d : Nat} {e : TypeId} {g0 : Bool} {z : Value} {u : α} {ys zs : List α} (hk : ∀ y, (fk y).length = k) (hk0 : 0 < k) (hT : slB P T = some e) (ht : tyB P e = some (k, g0)) (hz : zeroB P e = some z) (hZ : ∀ w F, All2 (fk u) w F z.cells.toList) (hby : byLe P e 1024 = true)
  (hx : Has E Γ M x (SlE k fk ys)) (hy : Has E Γ M y (SlK k fk zs)) (hn' : ys.length + zs.length ≤ 4294967296) (h0 : 0 < zs.length) (hd : Nat.blt d E.n = true)
  (kk : ∀ g' : Gr α, Ops E P ops Q rest ((d, isGr g' (ys.length + zs.length)) :: Γ) (grMK fk g' (ys ++ zs) :: M)) :
  Ops E P ops Q (⟨some d, .call ⟨.builtin .append, #[x, y], #[T, T]⟩, ty, pos, after, none⟩ :: rest) Γ M := by
 intro a w F s
 refine wpList_plain rfl fun K hK => ?_
 have hd' : d < E.n := by simpa [Nat.blt_eq] using hd
 obtain ⟨a1, cap, e2, g1, g2, g3, g4⟩ := hy a w F s
 have hu := slB_under hT
 obtain ⟨inf, hi, hb⟩ : ∃ i, P.info? e = some i ∧ i.bytes ≤ 1024 := by
  unfold byLe at hby
  cases hi : P.info? e with
  | none => simp [hi] at hby
  | some i => rw [hi] at hby; exact ⟨i, rfl, Nat.le_of_ble_eq_true hby⟩
 have hsz : inf.size = k := by
  have := run_size (P := P) (w := w) ht
  simp [sizeOf, typeInfo, go_sem, hi] at this; exact this
 have hzz : inf.zero = some z := by unfold zeroB at hz; rw [hi] at hz; simpa using hz
 have hone : z.cells.size = k := by have := (hZ w F).len; rw [hk] at this; simpa using this.symm
 have hzs : ∀ k, (Builtin.zeroCells z.cells k).toList = (List.replicate k z.cells.toList).flatten := fun k => by
  unfold Builtin.zeroCells
  rw [make_flat rfl]
 have hall : ∀ c, All2 ((List.replicate c u).flatMap fk) w F ((List.replicate c z.cells.toList).flatten) := fun c => by rw [rep_flat]; exact (hZ w F).rep c
 rcases g4 with g4 | ⟨b1, off, rfl, hF, vs, hv, hc⟩
 ·omega
 have hlen := hv.ofFlat hk
 have hnews : ∀ j u, vs[j]? = some u → w.cell? ((⟨b1, off, none⟩ : Addr).add j) = some u := fun j u hj => by rw [add_mk]; exact hc j u hj
 have hnl : vs.length = zs.length * inf.size := by rw [hsz]; exact hlen
 obtain ⟨hy0, hym, b, us, e1, hFb, hus, hcu⟩ := hx a w F s
 have husl := hus.ofFlat hk
 have hml : ys.length + zs.length ≤ maxLen := by rw [maxLen_eq]; omega
 have hg : ys.length < ys.length + zs.length := by omega
 have hcell : ∀ j u, us[j]? = some u → w.cell? ((⟨b, 0, none⟩ : Addr).add j) = some u := fun j u hj => by
  rw [add_mk, Nat.zero_add]; exact hcu j u hj
 have hfit : Builtin.nextslicecap (ys.length + zs.length) ys.length * inf.bytes ≤ 281474976710656 := by
  have h1 := nextslicecap_le hg
  have h2 := Nat.mul_le_mul (Nat.le_trans h1 (show 2 * (ys.length + zs.length) ≤ 8589934592 by omega)) hb
  omega
 have hr := run_append_grow (P := P) w T ty e inf z hu hi hzz ⟨b, 0, none⟩ ys.length ys.length us (by rw [husl, hsz]) hcell ⟨b1, off, none⟩ zs.length cap vs hnl hnews hg (by omega) hfit
 have hf : K (a.put (some d) (.slice (some ⟨w.heap.size, 0, none⟩) (ys.length + zs.length) (grownCap w (ys.length + zs.length) ys.length e))) { w with heap := w.heap.push (.cells (us ++ vs ++ (Builtin.zeroCells z.cells (grownCap w (ys.length + zs.length) ys.length e - (ys.length + zs.length))).toList).toArray e), drawn := w.drawn + 1 } := by
  obtain ⟨cp, hcp⟩ : ∃ cp, cp = grownCap w (ys.length + zs.length) ys.length e := ⟨_, rfl⟩
  have h1 : ys.length + zs.length ≤ cp := by rw [hcp]; exact grownCap_ge _ _ _ _
  have h2 : cp ≤ maxLen := by rw [hcp]; exact grownCap_le_maxLen _ _ _ _ hml
  rw [← hcp]
  have hcs : All2 ((ys ++ zs ++ List.replicate (cp - (ys.length + zs.length)) u).flatMap fk) w F (us ++ vs ++ (Builtin.zeroCells z.cells (cp - (ys.length + zs.length))).toList) := by
   rw [List.flatMap_append, List.flatMap_append, hzs]; exact All2.append (All2.append hus hv) (hall _)
  have s1 := (s.adv (Adv.drew w F)).alloc (T := e) (All2.mono (w := w) (w' := { w with drawn := w.drawn + 1 }) (fun _ _ => rfl) (fun _ h => h) _ _ hcs)
  refine hK _ _ (kk ⟨some w.heap.size, cp, List.replicate (cp - (ys.length + zs.length)) u⟩ _ _ F (s1.put hd' (.inr ⟨_, rfl, rfl, ?_, h2⟩)))
  simp; omega
 have hr2 : (execOp a.eval (⟨some d, .call ⟨.builtin .append, #[x, y], #[T, T]⟩, ty, pos, after, none⟩ : Oper)).run P w = .ok (.value (.slice (some ⟨w.heap.size, 0, none⟩) (ys.length + zs.length) (grownCap w (ys.length + zs.length) ys.length e))) { w with heap := w.heap.push (.cells (us ++ vs ++ (Builtin.zeroCells z.cells (grownCap w (ys.length + zs.length) ys.length e - (ys.length + zs.length))).toList).toArray e), drawn := w.drawn + 1 } := by
  have earr : us.toArray ++ vs.toArray ++ Builtin.zeroCells z.cells (grownCap w (ys.length + zs.length) ys.length e - (ys.length + zs.length)) = (us ++ vs ++ (Builtin.zeroCells z.cells (grownCap w (ys.length + zs.length) ys.length e - (ys.length + zs.length))).toList).toArray := by apply Array.ext'; simp
  simp only [execOp, resolve, invoke, builtin, Sem.run_bind]
  rw [← earr]
  simp [e1, e2, Sem.run_bind, hr]
  first | rfl | exact ⟨rfl, rfl⟩ | done
 unfold Oper.wp
 rw [hr2]
 exact hf
end
end Go.En
namespace Go.Proofs.YtlebmedapfncoaaGreat
open Go.En Go.RowKit
set_option maxRecDepth 10000
set_option maxHeartbeats 4000000
open Go.Nt
open Go.Pz
open Go.Mz
open Go.Dt
open Go.Ll
theorem lll_entryZ {R K : Nat} {xs : List (Bool × List Nat)} (hx : Bd (vals xs) K) (hK : K ≤ 100000000) (hR1 : 1 ≤ R) (hR : R ≤ 64) (hl : xs.length = R * R) {bw : Nat} {x : Int} (hx0 : cf (vals xs) 0 = x) : Ctr Tryz.prog 92 [isPtr bw 0, isM (R : Int) (R : Int) xs, isI 0, isI 0] (isZ x) := by
 refine Ctr.i Tryz.func92 rfl Tryz.ntmps92 fun w0 F0 => .w [0,1,2,3] rfl (.fact (Has.rngI (Has.t (t := 2) rfl)) fun lt2 => .fact (Has.rngI (Has.t (t := 3) rfl)) fun lt3 => .sr fun k1 => .box (.t rfl) rfl fun b1 => .alloc [isB false, SlM isU []] zero33 (fun _ _ => ⟨rfl, nilM _ _, trivial⟩) rfl fun b2 => nkQ k1 (.sr fun k2 => st (.load (.t rfl) (i := 1) rfl ty24 rfl (Ss' := [_, _, _]) rfl) rfl (stM rfl (stM rfl (st (.eq (.call (zmat_At (R := R) (C := R) (i := 0) (k := 0) hx (by omega) hR hR hl (by omega) (by omega)) (.cons (.t rfl) (.cons (.t rfl) (.cons (.t rfl) .nil)))) ((show isZ _ = isZ x from isZ_eq (by rw [← hx0, Nat.zero_mul])))) rfl (.alloc [isB false, SlM isU []] zero33 (fun _ _ => ⟨rfl, nilM _ _, trivial⟩) rfl fun b3 => .store (.t rfl) (.t rfl) (i := 0) rfl ty33 rfl rfl (Ss' := [_, _]) rfl (M' := [(some _, cellM [_, _]), _, _]) rfl (nkQ k2 (.w [0,2,3,8,9] rfl (.sq fun k3 => .sr fun k4 => stM rfl (st (.mv (.cI 0 rfl)) rfl (nkQ k4 (.block (.loopF [0,2,3,8,9,15] (fun (_ : Unit) => [(16, isI 0)]) (fun M => fun (_ : Unit) => M) (fun (_ : Unit) => 0) (()) (Cv.mem (.c 16 rfl ?_ (.l [0,2,3,8,9,15] rfl)) ?_) ?_)))))))))))))
 ·rfl
 ·rfl
 rintro _ K5 hK5
 refine .w [16,0,2,3,8,9,15] rfl (.sr fun k6 => st (.ltI (.t rfl) (.t rfl)) rfl (nkQ k6 (.sq fun k7 => .cd rfl (fun hc1 => ?_) (fun hc1 => ?_))))
 ·exfalso; omega
 ·refine .exit (.the (.the (.blh (.nk k3 (.w [8,9] rfl (.sr fun k8 => st (.load (.t rfl) (i := 0) rfl ty33 rfl (Ss' := [_, _]) rfl) rfl (.store (.t rfl) (.t rfl) (i := 1) rfl ty33 rfl rfl (Ss' := [_, _]) rfl (M' := [_, (some _, cellM [_, _]), _]) rfl (nkQ k8 (.ret (rt1 (.inl rfl) Tryz.results92 rfl (.cell rfl (i := 1) rfl ty33 rfl ?_ .nil)))))))))))
  all_goals (rfl)
theorem lll_begun {n0 R K Kd : Nat} {A : MatF} {xs : List (Bool × List Nat)} (hx : Bd (vals xs) K) (hR1 : 1 ≤ R) (hR : R ≤ 64) (hl : xs.length = R * R) (hG : ∀ i k, i < R → k < R → cf (vals xs) (i * R + k) = ip n0 (A i) (A k)) (hgw : ∀ i k, (List.length (words (gram n0 A i k).natAbs)) ≤ K) (hpos : ∀ t, t ≤ R → 0 < gd n0 A t) (hKd : ∀ j, j ≤ R → (j + 1) * (K + (j + 1)) + 1 ≤ Kd) (hK : K ≤ 100000000) (hKK : Kd ≤ 100000000) : CtrX Tryz.prog 78 [isM (R : Int) (R : Int) xs] ([]) (fun S M => ∃ bw gd gl gu ds ls us, S = isTup [isPtr bw 0, isI 0] ∧ M = lwM bw R gd gl gu ds ls us false false [] [] 0 ∧ BG n0 R A R ds ls us) := by
 refine CtrX.i Tryz.func78 rfl Tryz.ntmps78 fun w0 F0 => .w [0] rfl ?_
 have hfo : formB (R : Int) (R : Int) xs.length = true := formB_true hR hR hl
 have hsy : ∀ i k, i < R → k < R → cf (vals xs) (i * R + k) = cf (vals xs) (k * R + i) := fun i k hi hk => by rw [hG i k hi hk, hG k i hk hi, ip_comm]
 have h00 : cf (vals xs) 0 = gd n0 A 1 := by have := hG 0 0 (by omega) (by omega); rw [Nat.zero_mul] at this; rw [this, ← xe_self, xe_zero]
 have hp1 := hpos 1 (by omega)
 have hx1 : (List.length (words (gd n0 A 1).natAbs)) ≤ K := by rw [← h00]; exact hx 0
 refine .sr fun k1 => .box (.t rfl) rfl fun b1 => st (.as Has.cP) rfl (st (.as (.cI 0 rfl)) rfl (nkQ k1 (.sq fun k2 => .block (.sr fun k3 => st (.load (.t rfl) (i := 0) rfl ty24 rfl (Ss' := [_, _, _]) rfl) rfl (st (.eq (.call (zmat_Formed) (.cons (.t rfl) .nil)) ((show isB _ = isB true from isB_eq (hfo)))) rfl (st (.not (.t rfl)) rfl (stM rfl (stF rfl rfl (fun hg => .fieldAddr (.t rfl) fld24_0 ty3) rfl (stF rfl rfl (fun hg => .load1 (Has.g rfl hg) (i := 0) rfl ty3 rfl) rfl (stF rfl rfl (fun hg => .fieldAddr (.t rfl) fld24_1 ty3) rfl (stF rfl rfl (fun hg => .load1 (Has.g rfl hg) (i := 0) rfl ty3 rfl) rfl (stF rfl rfl (fun hg => .neI (Has.g rfl hg) (Has.g rfl hg)) rfl (st (.pickOr (.t rfl) (fun h => Has.g rfl (ng h))) rfl (stM rfl (nkQ k3 (.w [1,2,3,8] rfl (.cd rfl (fun hc1 => ?_) (fun hc1 => ?_))))))))))))))))))
 ·exfalso; simp at hc1
 ·refine .sr fun k4 => st (.load (.t rfl) (i := 0) rfl ty24 rfl (Ss' := [_, _, _]) rfl) rfl (st (.call (lll_own hx hK hR hl hsy) (.cons (.t rfl) .nil)) rfl (st (.not (.t rfl)) rfl (stM rfl (nkQ k4 (.cd rfl (fun hc2 => ?_) (fun hc2 => ?_))))))
  ·exfalso; simp at hc2
  ·refine .skip (.bln (.nk k2 (.w [1,2,3] rfl (.sq fun k5 => .dr (.so [] rfl (.fieldAddr (.t rfl) fld24_0 ty3) (.so [23] rfl (.load1 (.t rfl) (i := 0) rfl ty3 rfl) (.so [] rfl (.call (zint_Of) (.cons (.cI 1 rfl) .nil)) (.so [25] rfl (.buildSE (fk := zc) [isB false, SlM isU []] ([nz 1]) sl22 ty33 zero33 (fun _ _ => ⟨rfl, nilM _ _, trivial⟩) rfl rfl (.cons (.t rfl) rfl rfl rfl .nil) rfl rfl) (.fn (n := 4) mixed (.w [1,2,3,24,26] rfl (st (.build [isI 0, nilS, nilS, nilS, isB false, SlM isU [], isB false, SlM isU [], isI 0] pl87 zero87 (fun _ _ => ⟨⟨rfl, by decide, by decide⟩, rfl, rfl, rfl, rfl, nilM _ _, rfl, nilM _ _, ⟨rfl, by decide, by decide⟩, trivial⟩) (.cons (.t rfl) rfl rfl rfl (.cons (.t rfl) rfl rfl rfl .nil)) (Z'' := [_, _, _, _, _, _, _, _, _]) rfl) rfl (.box (.t rfl) rfl fun b2 => stM rfl (nkQ k5 (.sq fun k6 => .sr fun k7 => st (.fieldAddr (.t rfl) fld24_0 ty3) rfl (st (.load1 (.t rfl) (i := 1) rfl ty3 rfl) rfl (st (.mv (.cI 0 rfl)) rfl (nkQ k7 (.w [1,2,3,4,30,31] rfl (.block (.loopF [1,4,30] (fun (z : Option { y : Nat × Gr (Bool × List Nat) × Gr Row × Gr Row × List Int × List Row × List Row // (1 ≤ y.1 ∧ y.1 ≤ R) ∧ BG n0 R A y.1 y.2.2.2.2.1 y.2.2.2.2.2.1 y.2.2.2.2.2.2 }) => match z with | none => [(31, isI 0)] | some ⟨(i, gd, gl, gu, ds, ls, us), _⟩ => [(31, isI (i : Int))]) (fun M => fun (z : Option { y : Nat × Gr (Bool × List Nat) × Gr Row × Gr Row × List Int × List Row × List Row // (1 ≤ y.1 ∧ y.1 ≤ R) ∧ BG n0 R A y.1 y.2.2.2.2.1 y.2.2.2.2.2.1 y.2.2.2.2.2.2 }) => match z with | none => [(some b2, cellM [isI (R : Int), SlE 2 zc [nz 1], nilS, nilS, isB false, SlM isU [], isB false, SlM isU [], isI 0]), (some b1, cellM [isI (R : Int), isI (R : Int), SlK 2 zc xs])] | some ⟨(i, gd, gl, gu, ds, ls, us), _⟩ => (some b2, cellM [isI (R : Int), isGr gd (ds.map nz).length, isGr gl ls.length, isGr gu us.length, isB false, isWords [], isB false, isWords [], isI 0]) :: grMK zc gd (ds.map nz) :: grM rowV gl ls :: grM rowV gu us :: (some b1, cellM [isI (R : Int), isI (R : Int), SlK 2 zc xs]) :: (ls ++ us).map rowM) (fun (z : Option { y : Nat × Gr (Bool × List Nat) × Gr Row × Gr Row × List Int × List Row × List Row // (1 ≤ y.1 ∧ y.1 ≤ R) ∧ BG n0 R A y.1 y.2.2.2.2.1 y.2.2.2.2.2.1 y.2.2.2.2.2.2 }) => match z with | none => R | some ⟨(i, _, _, _, _, _, _), _⟩ => R - i) (none) (Cv.mem (.c 31 rfl ?_ (.l [1,4,30] rfl)) ?_) ?_))))))))))))))))))))
   ·rfl
   ·rfl
   intro z K8 hK8
   rcases z with _ | ⟨⟨i, gd, gl, gu, ds, ls, us⟩, ⟨hi1, hiR⟩, hB⟩
   ·refine .w [31,1,4,30] rfl (.memEq (M' := [(some b2, cellM [isI (R : Int), SlE 2 zc [nz 1], nilS, nilS, isB false, SlM isU [], isB false, SlM isU [], isI 0]), (some b1, cellM [isI (R : Int), isI (R : Int), SlK 2 zc xs])]) rfl (.sr fun k9 => st (.ltI (.t rfl) (.t rfl)) rfl (nkQ k9 (.sq fun k10 => .cd rfl (fun hc3 => ?_) (fun hc3 => ?_)))))
    ·refine .skip (.nk k10 (.sq fun k11 => .block (.sr fun k12 => stM rfl (stM rfl (nkQ k12 (.sq fun k13 => .cv (Cv.growF (Row) (i := 0) (o := 2) rfl rfl rfl) (.memEq (M' := [grM rowV Gr.nil [], _, _]) rfl (.dry mixed (.u 0 rfl (.mv (.t rfl)) (.u 1 rfl (.mv (.t rfl)) (.u 2 rfl (.nilc (.t rfl)) (.u 3 rfl (.fieldAddr (.t rfl) fld87_2 ty71) (.u 5 rfl (.fieldAddr (.t rfl) fld24_0 ty3) (.tl 4 rfl rfl rfl rfl (OKL.load1 (.t rfl) (i := 1) rfl ty71 rfl) (.go [] (.fn [6,7,8,9,10,11,12] (.w [1,4,30,31,32,33,5,34,35,36,37,39,38] rfl (st (.load1 (.t rfl) (i := 2) rfl ty3 rfl) rfl (.makeK (fk := zc) (u := (false, [])) (n := R) (c := R) sl22 ty33 zero33 (fun _ _ => ⟨rfl, nilM _ _, trivial⟩) zc_len by33 (Has.t' rfl rfl) (Has.t' rfl rfl) (by omega) rfl fun b3 => .cv (Cv.trans (Cv.winRow (t := 41) (i := 0) (ys := (List.replicate R (0 : Int)).map nz) rfl rfl (rep_nz R) (by rw [List.length_map, List.length_replicate])) (Cv.memEq (M' := [(grMK zc (⟨some b3, R, []⟩ : Gr (Bool × List Nat)) ((List.replicate R (0 : Int)).map nz)), _, _, _]) rfl)) (st (.buildS [nilS] sl71 ty22 zero22 (fun _ _ => ⟨rfl, trivial⟩) rfl rfl (.cons (.t rfl) rfl rfl rfl .nil) rfl (S := SlM rowV [((⟨some b3, R, []⟩ : Gr (Bool × List Nat)), (List.replicate R (0 : Int)))]) rfl) rfl (.appendG (f := rowV) (u := (Gr.nil, [])) sl71 ty22 zero22 (fun _ _ => ⟨gr0, trivial⟩) (fun _ => inferInstance) by22 (.t rfl) (i := 1) rfl (.t rfl) (by simp only [List.length_cons, List.length_nil]; omega) (by simp) rfl fun gr2 => ?_)))))))))))))))))))))
     refine .memEq (M' := [_, grM _ _ _, _, _]) rfl (st (.nilc (.t rfl)) rfl (st (.fieldAddr (.t rfl) fld87_2 ty71) rfl (.store (.t rfl) (.t rfl) (i := 2) rfl ty71 rfl rfl (Ss' := [_, _, _, _, _, _, _, _, _]) rfl (M' := [_, _, (some _, cellM [_, _, _, _, _, _, _, _, _]), _]) rfl (nkQ k13 (.sq fun k14 => .cv (Cv.growF (Row) (i := 2) (o := 3) rfl rfl rfl) (.memEq (M' := [grM rowV Gr.nil [], _, _, _, _]) rfl (.dry mixed (.u 0 rfl (.mv (.t rfl)) (.u 1 rfl (.mv (.t rfl)) (.u 2 rfl (.nilc (.t rfl)) (.u 3 rfl (.fieldAddr (.t rfl) fld87_3 ty71) (.u 5 rfl (.fieldAddr (.t rfl) fld24_0 ty3) (.tl 4 rfl rfl rfl rfl (OKL.load1 (.t rfl) (i := 3) rfl ty71 rfl) (.go [] (.fn [6,7,8,9,10,11,12] (.w [1,4,30,31,32,33,5,34,35,36,37,39,38,40,41,42,43,44,45,46,47,48,49,51,50] rfl (st (.load1 (.t rfl) (i := 4) rfl ty3 rfl) rfl (.makeK (fk := zc) (u := (false, [])) (n := R) (c := R) sl22 ty33 zero33 (fun _ _ => ⟨rfl, nilM _ _, trivial⟩) zc_len by33 (Has.t' rfl rfl) (Has.t' rfl rfl) (by omega) rfl fun b4 => .cv (Cv.trans (Cv.winRow (t := 53) (i := 0) (ys := (List.replicate R (0 : Int)).map nz) rfl rfl (rep_nz R) (by rw [List.length_map, List.length_replicate])) (Cv.memEq (M' := [(grMK zc (⟨some b4, R, []⟩ : Gr (Bool × List Nat)) ((List.replicate R (0 : Int)).map nz)), _, _, _, _, _]) rfl)) (st (.buildS [nilS] sl71 ty22 zero22 (fun _ _ => ⟨rfl, trivial⟩) rfl rfl (.cons (.t rfl) rfl rfl rfl .nil) rfl (S := SlM rowV [((⟨some b4, R, []⟩ : Gr (Bool × List Nat)), (List.replicate R (0 : Int)))]) rfl) rfl (.appendG (f := rowV) (u := (Gr.nil, [])) sl71 ty22 zero22 (fun _ _ => ⟨gr0, trivial⟩) (fun _ => inferInstance) by22 (.t rfl) (i := 1) rfl (.t rfl) (by simp only [List.length_cons, List.length_nil]; omega) (by simp) rfl fun gr3 => ?_))))))))))))))))))))
     refine .memEq (M' := [_, grM _ _ _, _, _, _, _]) rfl (st (.nilc (.t rfl)) rfl (st (.fieldAddr (.t rfl) fld87_3 ty71) rfl (.store (.t rfl) (.t rfl) (i := 4) rfl ty71 rfl rfl (Ss' := [_, _, _, _, _, _, _, _, _]) rfl (M' := [_, _, _, _, (some _, cellM [_, _, _, _, _, _, _, _, _]), _]) rfl (nkQ k14 (.sq fun k15 => .dr (.m [] rfl (.so [58] rfl (.nilc (.t rfl)) (.so [59] rfl (.fieldAddr (.t rfl) fld87_3 ty71) (.so [60] rfl (.load1 (.t rfl) (i := 4) rfl ty71 rfl) (.m [] rfl ?_))))))))))
     refine .so [61,62] rfl (.ixGr sl71 ty22 (.t rfl) (.t rfl) ⟨by decide, by show (0 : Int) < 1; decide⟩) ?_
     refine .so [63] rfl (.loadGM (.t rfl) (i := 1) rfl ty22 rfl) (.m [] rfl (.so [] rfl (.call (zint_Of) (.cons (.cI 1 rfl) .nil)) (.fn (n := 9) mixed (.w [1,4,30,31,32,33,5,34,35,36,37,39,38,40,41,42,43,44,45,46,47,48,49,51,50,52,53,54,55,56,57,58,59,60,61,62,63,64,65,66] rfl ?_))))
     refine st (.ixGr sl22 ty33 (.t rfl) (.t rfl) ⟨by decide, by rw [List.length_map, List.length_replicate]; omega⟩) rfl ?_
     refine .storeGK (z := nz 1) zc_len (.t rfl) (.t rfl) (i := 0) rfl ty33 (by rw [List.length_map, List.length_replicate]; omega) (M' := [grMK _ _ _, _, _, _, _, _]) rfl ?_
     refine nkQ k15 (.sq fun k16 => .sr fun k17 => stM rfl (st (.mv (.cI 0 rfl)) rfl (nkQ k17 (.block (.loopF [1,4,30,31,32,33,5,34,35,36,37,39,38,40,41,42,43,44,45,46,47,48,49,51,50,52,53,54,55,56,57,58,59,60,61,62,63,64,65,66,67,68] (fun (_ : Unit) => [(69, isI 0)]) (fun M => fun (_ : Unit) => M) (fun (_ : Unit) => 0) (()) (Cv.mem (.c 69 rfl ?_ (.l [1,4,30,31,32,33,5,34,35,36,37,39,38,40,41,42,43,44,45,46,47,48,49,51,50,52,53,54,55,56,57,58,59,60,61,62,63,64,65,66,67,68] rfl)) ?_) ?_)))))
     ·rfl
     ·rfl
     rintro _ K18 hK18
     refine .w [69,1,4,30,31,32,33,5,34,35,36,37,39,38,40,41,42,43,44,45,46,47,48,49,51,50,52,53,54,55,56,57,58,59,60,61,62,63,64,65,66,67,68] rfl (.sr fun k19 => st (.ltI (.t rfl) (.t rfl)) rfl (nkQ k19 (.sq fun k20 => .cd rfl (fun hc4 => ?_) (fun hc4 => ?_))))
     ·exfalso; omega
     ·refine .exit (.the (.the (.blh (.nk k16 (.sr fun k21 => stM rfl (st (.load (.t rfl) (i := 5) rfl ty24 rfl (Ss' := [_, _, _]) rfl) rfl (stM rfl (stM rfl (st (.call (lll_entryZ hx hK hR1 hR hl h00) (.cons (.t rfl) (.cons (.t rfl) (.cons (.t rfl) (.cons (.t rfl) .nil))))) rfl (.alloc [isB false, SlM isU []] zero33 (fun _ _ => ⟨rfl, nilM _ _, trivial⟩) rfl fun b5 => .store (.t rfl) (.t rfl) (i := 0) rfl ty33 rfl rfl (Ss' := [_, _]) rfl (M' := [(some _, cellM [_, _]), _, _, _, _, _, _]) rfl (nkQ k21 (.sq fun k22 => .sr fun k23 => st (.load (.t rfl) (i := 0) rfl ty33 rfl (Ss' := [_, _]) rfl) rfl (st (.call (zint_Sign (by rw [val_words]; omega)) (.cons (.t rfl) .nil)) rfl ?_)))))))))))))
      refine st (.leI (.t rfl) (.cI 0 rfl)) rfl (nkQ k23 (.cd rfl (fun hc5 => ?_) (fun hc5 => ?_)))
      ·exfalso; rw [zv_nf] at hc5; rcases sgn_cases (gd n0 A 1) with h | h | h <;> omega
      ·refine .skip (.nk k22 (.dry mixed (.u 0 rfl (.mv (.t rfl)) (.u 1 rfl (.mv (.t rfl)) (.u 2 rfl (.nilc (.t rfl)) (.u 3 rfl (.fieldAddr (.t rfl) fld87_1 ty22) (.tl 4 rfl rfl rfl rfl (OKL.load1 (.t rfl) (i := 5) rfl ty22 rfl) (.go [] (.fn [5,6,7,8,9,10] (.w [1,4,30,31,32,33,5,34,35,36,37,39,38,40,41,42,43,44,45,46,47,48,49,51,50,52,53,54,55,56,57,58,59,60,61,62,63,64,65,66,67,68,69,70,87,88,89,90,91,7,92,93,94,95,96,97,98,99] rfl (st (.load (.t rfl) (i := 0) rfl ty33 rfl (Ss' := [_, _]) rfl) rfl (st (.buildS [isB false, SlM isU []] sl22 ty33 zero33 (fun _ _ => ⟨rfl, nilM _ _, trivial⟩) rfl rfl (.cons (.t rfl) rfl rfl rfl .nil) rfl (S := SlK 2 zc [nz (gd n0 A 1)]) rfl) rfl (.appendE (fk := zc) (u := (false, [])) zc_len (by decide) sl22 ty33 zero33 (fun _ _ => ⟨rfl, nilM _ _, trivial⟩) by33 (.t rfl) (.t rfl) (by simp only [List.length_cons, List.length_nil]; omega) (by simp) rfl fun gr4 => ?_)))))))))))))
       refine st (.nilc (.t rfl)) rfl (st (.fieldAddr (.t rfl) fld87_1 ty22) rfl (.store (.t rfl) (.t rfl) (i := 6) rfl ty22 rfl rfl (Ss' := [_, _, _, _, _, _, _, _, _]) rfl (M' := [_, _, _, _, _, _, (some _, cellM [_, _, _, _, _, _, _, _, _]), _]) rfl (nl (.bln (.nk k11 (.region (st (.addI (.t rfl) (.cI 1 rfl) (by first | omega | assumption) (by first | omega | assumption)) rfl (stM rfl (nl (.thn (hK8 (some ⟨(1, gr4, gr2, gr3, [1] ++ [gd n0 A 1], [] ++ [((⟨some b3, R, []⟩ : Gr (Bool × List Nat)), lrow n0 R A 0 0)], [] ++ [((⟨some b4, R, []⟩ : Gr (Bool × List Nat)), urow R 0)]), ⟨Nat.le_refl _, hR1⟩, (BG.first n0 R A).next _ _⟩) _ _ ?_ (Cv.trans (Cv.trans (Cv.drop (.cons_cons _ (.cons _ (List.Sublist.refl _)))) (Cv.perm m41_perm0)) (Cv.mem (.c 31 rfl ?_ (.l [1,4,30] rfl)) ?_)))))))))))))
       ·first | (show R - 1 < R; omega) | (show R - (i + 1) < R - i; omega)
       ·rfl
       ·exact m41_next0
    ·exfalso; omega
   ·refine .w [31,1,4,30] rfl (.memEq (M' := ((some b2, cellM [isI (R : Int), isGr gd (ds.map nz).length, isGr gl ls.length, isGr gu us.length, isB false, isWords [], isB false, isWords [], isI 0]) :: grMK zc gd (ds.map nz) :: grM rowV gl ls :: grM rowV gu us :: (some b1, cellM [isI (R : Int), isI (R : Int), SlK 2 zc xs]) :: (ls ++ us).map rowM)) rfl ?_)
    simp only [] at hi1 hiR hB
    have hll := hB.ll
    have hul := hB.ul
    have hdl := hB.dl
    have hdL : (ds.map nz).length = i + 1 := by rw [List.length_map, hdl]
    have hdb : Bd ds Kd := hB.dbK hiR hgw hKd
    have hlb : ∀ t, t < R → ∀ (k : Nat) {l : List Int}, l = lrow n0 R A t k → Bd l Kd := fun t ht k l e => e ▸ lrow_bd hgw hKd
    refine .sr fun k24 => st (.ltI (.t rfl) (.t rfl)) rfl (nkQ k24 (.sq fun k25 => .cd rfl (fun hc6 => ?_) (fun hc6 => ?_)))
    ·have hxiw : (List.length (words (xe n0 A i i i).natAbs)) ≤ Kd := Nat.le_trans (xe_nw hgw i i i) (hKd i (by omega))
     have hxip : 0 < (xe n0 A i i i) := hpos (i + 1) (by omega)
     refine .skip (.nk k25 (.sq fun k26 => .block (.sr fun k27 => stM rfl (stM rfl (nkQ k27 (.sq fun k28 => .dry mixed (.u 0 rfl (.mv (.t rfl)) (.u 1 rfl (.mv (.t rfl)) (.u 2 rfl (.nilc (.t rfl)) (.u 3 rfl (.fieldAddr (.t rfl) fld87_2 ty71) (.u 5 rfl (.fieldAddr (.t rfl) fld24_0 ty3) (.tl 4 rfl rfl rfl rfl (OKL.load1 (.t rfl) (i := 0) rfl ty71 rfl) (.go [] (.fn [6,7,8,9,10,11,12] (.w [1,4,30,31,32,33,5,34,35,36,37,39,38] rfl (st (.load1 (.t rfl) (i := 4) rfl ty3 rfl) rfl (.makeK (fk := zc) (u := (false, [])) (n := R) (c := R) sl22 ty33 zero33 (fun _ _ => ⟨rfl, nilM _ _, trivial⟩) zc_len by33 (Has.t' rfl rfl) (Has.t' rfl rfl) (by omega) rfl fun b6 => .cv (Cv.trans (Cv.winRow (t := 41) (i := 0) (ys := (List.replicate R (0 : Int)).map nz) rfl rfl (rep_nz R) (by rw [List.length_map, List.length_replicate])) (Cv.memEq (M' := ((grMK zc (⟨some b6, R, []⟩ : Gr (Bool × List Nat)) ((List.replicate R (0 : Int)).map nz)) :: _ :: _ :: _ :: _ :: _ :: _)) rfl)) (st (.buildS [nilS] sl71 ty22 zero22 (fun _ _ => ⟨rfl, trivial⟩) rfl rfl (.cons (.t rfl) rfl rfl rfl .nil) rfl (S := SlM rowV [((⟨some b6, R, []⟩ : Gr (Bool × List Nat)), (List.replicate R (0 : Int)))]) rfl) rfl (.appendG (f := rowV) (u := (Gr.nil, [])) sl71 ty22 zero22 (fun _ _ => ⟨gr0, trivial⟩) (fun _ => inferInstance) by22 (.t rfl) (i := 3) rfl (.t rfl) (by show ls.length + 1 ≤ _; omega) (by simp) rfl fun gr5 => ?_)))))))))))))))))))
     refine .memEq (M' := (_ :: _ :: _ :: grM _ _ _ :: _ :: _ :: _)) rfl (st (.nilc (.t rfl)) rfl (st (.fieldAddr (.t rfl) fld87_2 ty71) rfl (.store (.t rfl) (.t rfl) (i := 1) rfl ty71 rfl rfl (Ss' := [_, _, _, _, _, _, _, _, _]) rfl (M' := (_ :: (some _, cellM [_, _, _, _, _, _, _, _, _]) :: _ :: _ :: _ :: _ :: _)) rfl (nkQ k28 (.sq fun k29 => .dry mixed (.u 0 rfl (.mv (.t rfl)) (.u 1 rfl (.mv (.t rfl)) (.u 2 rfl (.nilc (.t rfl)) (.u 3 rfl (.fieldAddr (.t rfl) fld87_3 ty71) (.u 5 rfl (.fieldAddr (.t rfl) fld24_0 ty3) (.tl 4 rfl rfl rfl rfl (OKL.load1 (.t rfl) (i := 1) rfl ty71 rfl) (.go [] (.fn [6,7,8,9,10,11,12] (.w [1,4,30,31,32,33,5,34,35,36,37,39,38,40,41,42,43,44,45,46,47,48,49,51,50] rfl (st (.load1 (.t rfl) (i := 5) rfl ty3 rfl) rfl (.makeK (fk := zc) (u := (false, [])) (n := R) (c := R) sl22 ty33 zero33 (fun _ _ => ⟨rfl, nilM _ _, trivial⟩) zc_len by33 (Has.t' rfl rfl) (Has.t' rfl rfl) (by omega) rfl fun b7 => .cv (Cv.trans (Cv.winRow (t := 53) (i := 0) (ys := (List.replicate R (0 : Int)).map nz) rfl rfl (rep_nz R) (by rw [List.length_map, List.length_replicate])) (Cv.memEq (M' := ((grMK zc (⟨some b7, R, []⟩ : Gr (Bool × List Nat)) ((List.replicate R (0 : Int)).map nz)) :: _ :: _ :: _ :: _ :: _ :: _ :: _)) rfl)) (st (.buildS [nilS] sl71 ty22 zero22 (fun _ _ => ⟨rfl, trivial⟩) rfl rfl (.cons (.t rfl) rfl rfl rfl .nil) rfl (S := SlM rowV [((⟨some b7, R, []⟩ : Gr (Bool × List Nat)), (List.replicate R (0 : Int)))]) rfl) rfl (.appendG (f := rowV) (u := (Gr.nil, [])) sl71 ty22 zero22 (fun _ _ => ⟨gr0, trivial⟩) (fun _ => inferInstance) by22 (.t rfl) (i := 5) rfl (.t rfl) (by show us.length + 1 ≤ _; omega) (by simp) rfl fun gr6 => ?_))))))))))))))))))
     refine .memEq (M' := (_ :: _ :: _ :: _ :: _ :: grM _ _ _ :: _ :: _)) rfl (st (.nilc (.t rfl)) rfl (st (.fieldAddr (.t rfl) fld87_3 ty71) rfl (.store (.t rfl) (.t rfl) (i := 2) rfl ty71 rfl rfl (Ss' := [_, _, _, _, _, _, _, _, _]) rfl (M' := (_ :: _ :: (some _, cellM [_, _, _, _, _, _, _, _, _]) :: _ :: _ :: _ :: _ :: _)) rfl (nkQ k29 (.sq fun k30 => .dr (.m [] rfl (.so [58] rfl (.nilc (.t rfl)) (.so [59] rfl (.fieldAddr (.t rfl) fld87_3 ty71) (.so [60] rfl (.load1 (.t rfl) (i := 2) rfl ty71 rfl) (.m [] rfl ?_))))))))))
     refine .so [61,62] rfl (.ixGr sl71 ty22 (.t rfl) (.t rfl) ⟨by omega, by rw [hul]; show (i : Int) < ((i + 1 : Nat) : Int); omega⟩) ?_
     refine .so [63] rfl (.loadGM (.t rfl) (i := 5) rfl ty22 (hdrU hul)) (.m [] rfl (.so [] rfl (.call (zint_Of) (.cons (.cI 1 rfl) .nil)) (.fn (n := 9) mixed (.w [1,4,30,31,32,33,5,34,35,36,37,39,38,40,41,42,43,44,45,46,47,48,49,51,50,52,53,54,55,56,57,58,59,60,61,62,63,64,65,66] rfl ?_))))
     refine st (.ixGr sl22 ty33 (.t rfl) (.t rfl) ⟨by omega, by rw [List.length_map, List.length_replicate]; omega⟩) rfl ?_
     refine .storeGK (z := nz 1) zc_len (.t rfl) (.t rfl) (i := 0) rfl ty33 (by rw [List.length_map, List.length_replicate]; omega) (M' := (grMK _ _ _ :: _ :: _ :: _ :: _ :: _ :: _ :: _)) rfl ?_
     refine nkQ k30 (.sq fun k31 => .sr fun k32 => stM rfl (st (.mv (.cI 0 rfl)) rfl (nkQ k32 (.block (.loopF [1,4,30,31,32,33,5,34,35,36,37,39,38,40,41,42,43,44,45,46,47,48,49,51,50,52,53,54,55,56,57,58,59,60,61,62,63,64,65,66,67,68] (fun (z : { k : Nat // k ≤ i }) => match z with | ⟨k, hk⟩ => [(69, isI (k : Int))]) (fun M => fun (z : { k : Nat // k ≤ i }) => match z with | ⟨k, hk⟩ => (grMK zc (⟨some b7, R, []⟩ : Gr (Bool × List Nat)) ((urow R i).map nz) :: grMK zc (⟨some b6, R, []⟩ : Gr (Bool × List Nat)) ((lrow n0 R A i k).map nz) :: (some b2, cellM [isI (R : Int), isGr gd (ds.map nz).length, isGr gr5 (ls ++ [((⟨some b6, R, []⟩ : Gr (Bool × List Nat)), lrow n0 R A i k)]).length, isGr gr6 (us ++ [((⟨some b7, R, []⟩ : Gr (Bool × List Nat)), urow R i)]).length, isB false, isWords [], isB false, isWords [], isI 0]) :: grMK zc gd (ds.map nz) :: grM rowV gr5 (ls ++ [((⟨some b6, R, []⟩ : Gr (Bool × List Nat)), lrow n0 R A i k)]) :: grM rowV gr6 (us ++ [((⟨some b7, R, []⟩ : Gr (Bool × List Nat)), urow R i)]) :: (some b1, cellM [isI (R : Int), isI (R : Int), SlK 2 zc xs]) :: (ls ++ us).map rowM)) (fun (z : { k : Nat // k ≤ i }) => match z with | ⟨k, hk⟩ => i - k) (⟨0, Nat.zero_le _⟩) (Cv.mem (.c 69 rfl ?_ (.l [1,4,30,31,32,33,5,34,35,36,37,39,38,40,41,42,43,44,45,46,47,48,49,51,50,52,53,54,55,56,57,58,59,60,61,62,63,64,65,66,67,68] rfl)) ?_) ?_)))))
     ·rfl
     ·exact m45_start
     rintro ⟨k, hk⟩ K33 hK33
     refine .w [69,1,4,30,31,32,33,5,34,35,36,37,39,38,40,41,42,43,44,45,46,47,48,49,51,50,52,53,54,55,56,57,58,59,60,61,62,63,64,65,66,67,68] rfl (.memEq (M' := (grMK zc (⟨some b7, R, []⟩ : Gr (Bool × List Nat)) ((urow R i).map nz) :: grMK zc (⟨some b6, R, []⟩ : Gr (Bool × List Nat)) ((lrow n0 R A i k).map nz) :: (some b2, cellM [isI (R : Int), isGr gd (ds.map nz).length, isGr gr5 (ls ++ [((⟨some b6, R, []⟩ : Gr (Bool × List Nat)), lrow n0 R A i k)]).length, isGr gr6 (us ++ [((⟨some b7, R, []⟩ : Gr (Bool × List Nat)), urow R i)]).length, isB false, isWords [], isB false, isWords [], isI 0]) :: grMK zc gd (ds.map nz) :: grM rowV gr5 (ls ++ [((⟨some b6, R, []⟩ : Gr (Bool × List Nat)), lrow n0 R A i k)]) :: grM rowV gr6 (us ++ [((⟨some b7, R, []⟩ : Gr (Bool × List Nat)), urow R i)]) :: (some b1, cellM [isI (R : Int), isI (R : Int), SlK 2 zc xs]) :: (ls ++ us).map rowM)) rfl (.sr fun k34 => st (.ltI (.t rfl) (.t rfl)) rfl (nkQ k34 (.sq fun k35 => .cd rfl (fun hc7 => ?_) (fun hc7 => ?_)))))
     ·obtain ⟨rk, hrk⟩ : ∃ r, ls[k]? = some r := ⟨_, List.getElem?_eq_getElem (by omega)⟩
      have hrk2 := hB.lr hrk
      refine .skip (.nk k35 (.sq fun k36 => .block (.sr fun k37 => stM rfl (stM rfl (nkQ k37 (.dr (.m [] rfl (.so [72] rfl (.nilc (.t rfl)) (.so [73] rfl (.fieldAddr (.t rfl) fld87_2 ty71) (.so [74] rfl (.load1 (.t rfl) (i := 2) rfl ty71 rfl) (.m [] rfl ?_)))))))))))
      refine .so [75,76] rfl (.ixGr sl71 ty22 (.t rfl) (.t rfl) ⟨by omega, by rw [List.length_append, hll]; show (i : Int) < ((i + 1 : Nat) : Int); omega⟩) ?_
      refine .so [77] rfl (.loadGM (.t rfl) (i := 4) rfl ty22 (hdrU hll)) (.m [] rfl (.m [] rfl (.so [] rfl (.load (.t rfl) (i := 6) rfl ty24 rfl (Ss' := [_, _, _]) rfl) (.m [] rfl (.m [] rfl (.sx (i := 12) [80,81,82,83] rfl rfl rfl (by kernel_rfl) (StG.x (StG.callXP (lll_entry (bw := b2) (cu := (us ++ [((⟨some b7, R, []⟩ : Gr (Bool × List Nat)), urow R i)]).length) (gd := gd) (gl := gr5) (gu := gr6) (ds := ds) (ls := ls ++ [((⟨some b6, R, []⟩ : Gr (Bool × List Nat)), lrow n0 R A i k)]) (m := false) (n := false) (ps := []) (qs := []) (sw := 0) (i := i) (k := k) (r := ((⟨some b6, R, []⟩ : Gr (Bool × List Nat)), lrow n0 R A i k)) (rk := rk) (X := fun j => xe n0 A i k j) (K := Kd) (L := K) hx (by omega) hR hl (by omega) (by omega) (hdrU hll) ((List.getElem?_append_left (by omega)).trans hrk) (by rw [lrow_len]; omega) (by rw [hrk2, lrow_len]; omega) (by rw [hdl]; omega) hdb (hlb i (by omega) k rfl) (hlb k (by omega) k hrk2) (by omega) (by rw [xe_zero]; exact (hG i k (by omega) (by omega)).symm) (hB.stepE (by omega) hpos (by omega) (by omega) hrk2) (fun j hj => Nat.le_trans (xe_nw hgw i k j) (hKd j (by omega)))) (perm_ent (f := rowM) (a := ((⟨some b6, R, []⟩ : Gr (Bool × List Nat)), lrow n0 R A i k))) (.cons (.t rfl) (.cons (.t rfl) (.cons (.t rfl) (.cons (.t rfl) .nil)))) (by rintro _ _ ⟨rfl, rfl⟩; exact ⟨rfl, rfl⟩))) ?_))))))
      refine .fn (n := 13) mixed (.w [1,4,30,31,32,33,5,34,35,36,37,39,38,40,41,42,43,44,45,46,47,48,49,51,50,52,53,54,55,56,57,58,59,60,61,62,63,64,65,66,67,68,69,70,71,6,72,73,74,75,76,77,78,79,80,81,82,83,84] rfl ?_)
      refine st (.ixGr sl22 ty33 (.t rfl) (.t rfl) ⟨by omega, by rw [List.length_map, lrow_len]; omega⟩) rfl ?_
      refine .storeGK (z := nz (xe n0 A i k k)) zc_len (.t rfl) (.t rfl) (i := 1) rfl ty33 (by rw [List.length_map, lrow_len]; omega) (M' := (_ :: grMK _ _ _ :: _ :: _ :: _ :: _ :: _ :: _)) rfl ?_
      refine nl (.bln (.nk k36 (.region (st (.addI (.t rfl) (.cI 1 rfl) (by first | omega | assumption) (by first | omega | assumption)) rfl (stM rfl (nl (.thn (hK33 (⟨k + 1, by omega⟩) _ _ ?_ (Cv.mem (.c 69 rfl ?_ (.l [1,4,30,31,32,33,5,34,35,36,37,39,38,40,41,42,43,44,45,46,47,48,49,51,50,52,53,54,55,56,57,58,59,60,61,62,63,64,65,66,67,68] rfl)) ?_)))))))))
      ·show i - (k + 1) < i - k; omega
      ·exact isI_eq (by omega)
      ·exact m45_step (by omega)
     ·obtain rfl : i = k := by omega
      refine .exit (.the (.the (.blh (.nk k31 (.sr fun k38 => stM rfl (st (.load (.t rfl) (i := 6) rfl ty24 rfl (Ss' := [_, _, _]) rfl) rfl (stM rfl (stM rfl (.callX (lll_entry (bw := b2) (cu := (us ++ [((⟨some b7, R, []⟩ : Gr (Bool × List Nat)), urow R i)]).length) (gd := gd) (gl := gr5) (gu := gr6) (ds := ds) (ls := ls ++ [((⟨some b6, R, []⟩ : Gr (Bool × List Nat)), lrow n0 R A i i)]) (m := false) (n := false) (ps := []) (qs := []) (sw := 0) (i := i) (k := i) (r := ((⟨some b6, R, []⟩ : Gr (Bool × List Nat)), lrow n0 R A i i)) (rk := ((⟨some b6, R, []⟩ : Gr (Bool × List Nat)), lrow n0 R A i i)) (X := fun j => xe n0 A i i j) (K := Kd) (L := K) hx (by omega) hR hl (by omega) (by omega) (hdrU hll) (hdrU hll) (by rw [lrow_len]; omega) (by rw [lrow_len]; omega) (by rw [hdl]; omega) hdb (hlb i (by omega) i rfl) (hlb i (by omega) i rfl) (by omega) (by rw [xe_zero]; exact (hG i i (by omega) (by omega)).symm) (hB.stepE (by omega) hpos (by omega) (by omega) rfl) (fun j hj => Nat.le_trans (xe_nw hgw i i j) (hKd j (by omega)))) (perm_ent (f := rowM) (a := ((⟨some b6, R, []⟩ : Gr (Bool × List Nat)), lrow n0 R A i i))) (.cons (.t rfl) (.cons (.t rfl) (.cons (.t rfl) (.cons (.t rfl) .nil)))) rfl ?_)))))))))
      rintro _ _ ⟨rfl, rfl⟩
      refine .cv (Cv.perm (perm_ent (f := rowM) (a := ((⟨some b6, R, []⟩ : Gr (Bool × List Nat)), lrow n0 R A i i))).symm) (.alloc [isB false, SlM isU []] zero33 (fun _ _ => ⟨rfl, nilM _ _, trivial⟩) rfl fun b8 => .store (.t rfl) (.t rfl) (i := 0) rfl ty33 rfl rfl (Ss' := [_, _]) rfl (M' := ((some _, cellM [_, _]) :: _ :: _ :: _ :: _ :: _ :: _ :: _ :: _)) rfl (nkQ k38 (.sq fun k39 => .sr fun k40 => st (.load (.t rfl) (i := 0) rfl ty33 rfl (Ss' := [_, _]) rfl) rfl (st (.call (zint_Sign (by rw [val_words]; omega)) (.cons (.t rfl) .nil)) rfl ?_))))
      refine st (.leI (.t rfl) (.cI 0 rfl)) rfl (nkQ k40 (.cd rfl (fun hc8 => ?_) (fun hc8 => ?_)))
      ·exfalso; rw [zv_nf] at hc8; rcases sgn_cases (xe n0 A i i i) with h | h | h <;> omega
      ·refine .skip (.nk k39 (.dry mixed (.u 0 rfl (.mv (.t rfl)) (.u 1 rfl (.mv (.t rfl)) (.u 2 rfl (.nilc (.t rfl)) (.u 3 rfl (.fieldAddr (.t rfl) fld87_1 ty22) (.tl 4 rfl rfl rfl rfl (OKL.load1 (.t rfl) (i := 3) rfl ty22 rfl) (.go [] (.fn [5,6,7,8,9,10] (.w [1,4,30,31,32,33,5,34,35,36,37,39,38,40,41,42,43,44,45,46,47,48,49,51,50,52,53,54,55,56,57,58,59,60,61,62,63,64,65,66,67,68,69,70,87,88,89,90,91,7,92,93,94,95,96,97,98,99] rfl (st (.load (.t rfl) (i := 0) rfl ty33 rfl (Ss' := [_, _]) rfl) rfl (st (.buildS [isB false, SlM isU []] sl22 ty33 zero33 (fun _ _ => ⟨rfl, nilM _ _, trivial⟩) rfl rfl (.cons (.t rfl) rfl rfl rfl .nil) rfl (S := SlK 2 zc [nz (xe n0 A i i i)]) rfl) rfl (.appendGK (fk := zc) (u := (false, [])) zc_len (by decide) (fun _ => inferInstance) sl22 ty33 zero33 (fun _ _ => ⟨rfl, nilM _ _, trivial⟩) by33 (.t rfl) (i := 4) rfl (.t rfl) (by show (ds.map nz).length + 1 ≤ _; omega) (by simp) rfl fun gr7 => ?_)))))))))))))
       refine .memEq (M' := (_ :: _ :: _ :: _ :: grMK _ _ _ :: _ :: _ :: _ :: _)) rfl (st (.nilc (.t rfl)) rfl (st (.fieldAddr (.t rfl) fld87_1 ty22) rfl (.store (.t rfl) (.t rfl) (i := 3) rfl ty22 rfl rfl (Ss' := [_, _, _, _, _, _, _, _, _]) rfl (M' := (_ :: _ :: _ :: (some _, cellM [_, _, _, _, _, _, _, _, _]) :: _ :: _ :: _ :: _ :: _)) rfl (nl (.bln (.nk k26 (.region (st (.addI (.t rfl) (.cI 1 rfl) (by first | omega | assumption) (by first | omega | assumption)) rfl (stM rfl (nl (.thn ?_)))))))))))
       refine hK8 (some ⟨(i + 1, gr7, gr5, gr6, ds ++ [Go.Dt.gd n0 A (i + 1)], ls ++ [((⟨some b6, R, []⟩ : Gr (Bool × List Nat)), lrow n0 R A i i)], us ++ [((⟨some b7, R, []⟩ : Gr (Bool × List Nat)), urow R i)]), ⟨by show 1 ≤ i + 1; omega, by show i + 1 ≤ R; omega⟩, hB.next _ _⟩) _ _ ?_ (Cv.trans (Cv.trans (Cv.drop (.cons _ (List.Sublist.refl _))) (Cv.perm (m41_perm1 (f := rowM) (a := ((⟨some b6, R, []⟩ : Gr (Bool × List Nat)), lrow n0 R A i i)) (b := ((⟨some b7, R, []⟩ : Gr (Bool × List Nat)), urow R i))))) (Cv.mem (.c 31 rfl ?_ (.l [1,4,30] rfl)) ?_))
       ·first | (show R - 1 < R; omega) | (show R - (i + 1) < R - i; omega)
       ·exact isI_eq (by omega)
       ·exact m41_next1
    ·obtain rfl : R = i := by omega
     refine .exit (.the (.the (.blh (.nk k6 (.sr fun k41 => stM rfl (stM rfl (st (.as (.cI 0 rfl)) rfl (nkQ k41 (.w [2,3] rfl (.ret (rtXND (.cons_cons _ (.cons_cons _ (.cons_cons _ (.cons_cons _ (.cons _ (List.Sublist.refl _)))))) (.inl rfl) Tryz.results78 rfl rfl (.tmp (.t rfl) (.tmp (.t rfl) .nil)) (⟨b2, gd, gl, gu, ds, ls, us, rfl, rfl, hB⟩))))))))))))
end Go.Proofs.YtlebmedapfncoaaGreat
namespace Go.Proofs.YtlebmedapfncoaaGreat
open Go.En Go.RowKit
set_option maxRecDepth 10000
set_option maxHeartbeats 4000000
open Go.Nt
open Go.Pz
open Go.Mz
open Go.Dt
theorem lll_may {m n : Bool} {ps qs : List Nat} (hpw : (List.length (words (val ps))) ≤ 100000000) (hqw : (List.length (words (val qs))) ≤ 100000000) : Ctr Tryz.prog 77 [Flat [isB m, isWords ps], Flat [isB n, isWords qs]] (isB (decide (0 < sgn (zv n qs)) && decide (0 < cmpZ (zv m ps * 4) (zv n qs)) && decide (cmpZ (zv m ps) (zv n qs) < 0))) := by
 refine Ctr.i Tryz.func77 rfl Tryz.ntmps77 fun w0 F0 => .w [0,1] rfl (.fact (Has.okZ (Has.t (t := 0) rfl)) fun okz0 => .fact (Has.okZ (Has.t (t := 1) rfl)) fun okz1 => ?_)
 have hp4 := nz_mul (zv m ps) 4
 rw [zv_nw] at hp4
 have h4 : (List.length (words (4 : Int).natAbs)) ≤ 1 := nw_small' (by decide)
 refine .sr fun k1 => .box (.t rfl) rfl fun b1 => .box (.t rfl) rfl fun b2 => st (.as (.cB false)) rfl (nkQ k1 (.sq fun k2 => .dr (.so [] rfl (.load (.t rfl) (i := 0) rfl ty33 rfl (Ss' := [_, _]) rfl) (.so [5] rfl (.call (zint_Sign (by omega)) (.cons (.t rfl) .nil)) (.so [6] rfl (.gtI (.t rfl) (.cI 0 rfl)) (.m [7] rfl (.s [8] rfl rfl rfl (.T rfl rfl rfl (fun hg => .load (.t rfl) (i := 1) rfl ty33 rfl (Ss' := [_, _]) rfl)) (.s [8] rfl rfl rfl (.T rfl rfl rfl (fun hg => .call (zint_Of) (.cons (.cI 4 rfl) .nil))) ?_))))))))
 refine .s [8,9,10] rfl rfl rfl (.T rfl rfl rfl (fun hg => have hg' := BP.t hg; OK1.eq (.call (zint_Mul (by omega) (by rw [val_words]; omega)) (.cons (Has.g rfl hg) (.cons (Has.g rfl hg) .nil))) ((show isZ _ = isZ (zv m ps * 4) from isZ_eq (by simp only [zv_nf]))))) ?_
 refine .s [8] rfl rfl rfl (.T rfl rfl rfl (fun hg => .load (.t rfl) (i := 0) rfl ty33 rfl (Ss' := [_, _]) rfl)) ?_
 refine .s [8,11,12] rfl rfl rfl (.T rfl rfl rfl (fun hg => have hg' := BP.t hg; OK1.eq (.call (zint_Cmp (by rw [val_words]; omega) (by omega)) (.cons (Has.g rfl hg) (.cons (Has.g rfl hg) .nil))) ((show isI _ = isI (cmpZ (zv m ps * 4) (zv n qs)) from isI_eq (by rw [zv_nf]))))) ?_
 refine .s [8,13] rfl rfl rfl (.T rfl rfl rfl (fun hg => .gtI (Has.g rfl hg) (.cI 0 rfl))) (.so [8,14] rfl (.pickAnd (.t rfl) (fun h => Has.g rfl h)) (.m [15] rfl (.s [16] rfl rfl rfl (.T rfl rfl rfl (fun hg => .load (.t rfl) (i := 1) rfl ty33 rfl (Ss' := [_, _]) rfl)) (.s [16] rfl rfl rfl (.T rfl rfl rfl (fun hg => .load (.t rfl) (i := 0) rfl ty33 rfl (Ss' := [_, _]) rfl)) (.fn (n := 14) mixed (.w [4,16,17,18] rfl ?_))))))
 refine stT rfl rfl (fun hg => have hg' := BP.t hg; OK1.call (zint_Cmp (by omega) (by omega)) (.cons (Has.g rfl hg) (.cons (Has.g rfl hg) .nil))) rfl ?_
 refine stT rfl rfl (fun hg => .ltI (Has.g rfl hg) (.cI 0 rfl)) rfl (st (.pickAnd (.t rfl) (fun h => Has.g rfl h)) rfl (stM rfl (nkQ k2 (.w [4] rfl (.ret (rt1 (.inl rfl) Tryz.results77 rfl (.tmp (Has.t' rfl ?_) .nil)))))))
 all_goals (rfl)
end Go.Proofs.YtlebmedapfncoaaGreat
namespace Go.Proofs.YtlebmedapfncoaaGreat
open Go.En Go.RowKit
set_option maxRecDepth 10000
set_option maxHeartbeats 4000000
open Go.Nt
open Go.Pz
open Go.Mz
open Go.Dt
open Go.Ll
theorem lll_with {n0 R K Kd : Nat} {A : MatF} {xs : List (Bool × List Nat)} (hx : Bd (vals xs) K) (hR1 : 1 ≤ R) (hR : R ≤ 64) (hl : xs.length = R * R) (hG : ∀ i k, i < R → k < R → cf (vals xs) (i * R + k) = ip n0 (A i) (A k)) (hgw : ∀ i k, (List.length (words (gram n0 A i k).natAbs)) ≤ K) (hpos : ∀ t, t ≤ R → 0 < gd n0 A t) (hKd : ∀ j, j ≤ R → (j + 1) * (K + (j + 1)) + 1 ≤ Kd) (hK : K ≤ 100000000) (hKK : Kd ≤ 100000000) {m n : Bool} {ps qs : List Nat} (hpw : (List.length (words (val ps))) ≤ 1000) (hqw : (List.length (words (val qs))) ≤ 1000) (hmy : (decide (0 < sgn (zv n qs)) && decide (0 < cmpZ (zv m ps * 4) (zv n qs)) && decide (cmpZ (zv m ps) (zv n qs) < 0)) = true) : CtrX Tryz.prog 55 [isM (R : Int) (R : Int) xs, Flat [isB m, isWords ps], Flat [isB n, isWords qs]] ([]) (fun S M => ∃ bw gd gl gu ds ls us, S = isTup [isPtr bw 0, isI 0] ∧ M = lwM bw R gd gl gu ds ls us m n ps qs 0 ∧ BG n0 R A R ds ls us) := by
 refine CtrX.i Tryz.func55 rfl Tryz.ntmps55 fun w0 F0 => .w [0,1,2] rfl (.fact (Has.okZ (Has.t (t := 1) rfl)) fun okz1 => .fact (Has.okZ (Has.t (t := 2) rfl)) fun okz2 => ?_)
 have hfo : formB (R : Int) (R : Int) xs.length = true := formB_true hR hR hl
 refine .sr fun k1 => .box (.t rfl) rfl fun b1 => .box (.t rfl) rfl fun b2 => .box (.t rfl) rfl fun b3 => st (.as Has.cP) rfl (st (.as (.cI 0 rfl)) rfl (nkQ k1 (.sq fun k2 => .block (.sr fun k3 => st (.load (.t rfl) (i := 2) rfl ty24 rfl (Ss' := [_, _, _]) rfl) rfl (st (.eq (.call (zmat_Formed) (.cons (.t rfl) .nil)) ((show isB _ = isB true from isB_eq (hfo)))) rfl (st (.not (.t rfl)) rfl (stM rfl (stF rfl rfl (fun hg => .fieldAddr (.t rfl) fld24_0 ty3) rfl (stF rfl rfl (fun hg => .load1 (Has.g rfl hg) (i := 2) rfl ty3 rfl) rfl (stF rfl rfl (fun hg => .fieldAddr (.t rfl) fld24_1 ty3) rfl (stF rfl rfl (fun hg => .load1 (Has.g rfl hg) (i := 2) rfl ty3 rfl) rfl (stF rfl rfl (fun hg => .neI (Has.g rfl hg) (Has.g rfl hg)) rfl (st (.pickOr (.t rfl) (fun h => Has.g rfl (ng h))) rfl (stM rfl (nkQ k3 (.w [3,4,5,6,7,10] rfl (.cd rfl (fun hc1 => ?_) (fun hc1 => ?_))))))))))))))))))
 ·exfalso; simp at hc1
 ·refine .sr fun k4 => st (.load (.t rfl) (i := 1) rfl ty33 rfl (Ss' := [_, _]) rfl) rfl (st (.load (.t rfl) (i := 0) rfl ty33 rfl (Ss' := [_, _]) rfl) rfl (st (.eq (.call (lll_may (by omega) (by omega)) (.cons (.t rfl) (.cons (.t rfl) .nil))) ((show isB _ = isB true from isB_eq (hmy)))) rfl (st (.not (.t rfl)) rfl (stM rfl (nkQ k4 (.w [3,4,5,6,7,21] rfl (.cd rfl (fun hc2 => ?_) (fun hc2 => ?_))))))))
  ·exfalso; simp at hc2
  ·refine .skip (.bln (.nk k2 (.sr fun k5 => st (.load (.t rfl) (i := 2) rfl ty24 rfl (Ss' := [_, _, _]) rfl) rfl (.callX (lll_begun hx hR1 hR hl hG hgw hpos hKd hK hKK) (List.Perm.refl _) (.cons (.t rfl) .nil) rfl ?_))))
   rintro _ _ ⟨bw, gd, gl, gu, ds, ls, us, rfl, rfl, hB⟩
   refine .cv (Cv.perm perm_box3) (stM rfl (st (.ext (.t rfl) rfl) rfl (st (.ext (.t rfl) rfl) rfl (stM rfl (stM rfl (nkQ k5 (.w [4,5,6,7,8,9] rfl (.sq fun k6 => .sr fun k7 => stM rfl (st (.eqI (.t rfl) (.cI 0 rfl)) rfl (nkQ k7 (.cd rfl (fun hc3 => ?_) (fun hc3 => ?_))))))))))))
   ·refine .drhS (.cons _ (.cons_cons _ (.cons_cons _ (.cons_cons _ (.cons_cons _ (.cons_cons _ (.cons_cons _ (List.Sublist.refl _)))))))) (.m [] rfl (.m [] rfl (.so [] rfl (.load (.t rfl) (i := 4) rfl ty33 rfl (Ss' := [_, _]) rfl) (.so [] rfl (.load (.t rfl) (i := 3) rfl ty33 rfl (Ss' := [_, _]) rfl) (.so [33] rfl (.nilc (.t rfl)) (.so [37] rfl (.fieldAddr (.t rfl) fld87_4 ty33) (.mid2 (.cons _ (.cons_cons _ (.cons_cons _ (.cons_cons _ (.cons_cons _ (.cons_cons _ (.cons_cons _ (List.Sublist.refl _)))))))) (.st0 [35,38] rfl rfl (by kernel_rfl) (by kernel_rfl) (StS.store (.t rfl) (.t rfl) (i := 0) rfl ty33 rfl rfl (Ss' := [_, _, _, _, _, _, _, _, _]) rfl (M' := ((some _, cellM [_, _, _, _, _, _, _, _, _]) :: _ :: _ :: _ :: _ :: _ :: _ :: _)) rfl) (.cons _ (.cons_cons _ (.cons_cons _ (.cons_cons _ (.cons_cons _ (.cons_cons _ (.cons_cons _ (List.Sublist.refl _)))))))) (.fin0 (n := 7) mixed rfl (by kernel_rfl) (by kernel_rfl) (by kernel_rfl) (.w [6,7,8,9,34,36] rfl (st (.nilc (.t rfl)) rfl (st (.fieldAddr (.t rfl) fld87_5 ty33) rfl (.store (.t rfl) (.t rfl) (i := 0) rfl ty33 rfl rfl (Ss' := [_, _, _, _, _, _, _, _, _]) rfl (M' := ((some _, cellM [_, _, _, _, _, _, _, _, _]) :: _ :: _ :: _ :: _ :: _ :: _ :: _)) rfl (nkQ k6 (.sr fun k8 => stM rfl (stM rfl (stM rfl (stM rfl (nkQ k8 (.w [6,7] rfl (.ret (rtXND (.cons_cons _ (.cons_cons _ (.cons_cons _ (.cons_cons _ (.cons _ (.cons _ (.cons _ (List.Sublist.refl _)))))))) (.inl rfl) Tryz.results55 rfl rfl (.tmp (.t rfl) (.tmp (.t rfl) .nil)) (⟨bw, gd, gl, gu, ds, ls, us, rfl, rfl, hB⟩)))))))))))))))))))))))
   ·exact absurd rfl hc3
end Go.Proofs.YtlebmedapfncoaaGreat
namespace Go.Proofs.YtlebmedapfncoaaGreat
open Go.En Go.RowKit
set_option maxRecDepth 10000
set_option maxHeartbeats 4000000
open Go.Nt
open Go.Pz
open Go.Mz
theorem lll_swap {bw N K : Nat} {gd : Gr (Bool × List Nat)} {gl gu : Gr Row} {ds : List Int} {ls us : List Row} {m n : Bool} {ps qs : List Nat} {sw : Int} (hdl : ds.length = N + 1) (hdb : Bd ds K) (hll : ls.length = N) (hul : us.length = N) (hlr : ∀ r ∈ ls, r.2.length = N) (hur : ∀ r ∈ us, r.2.length = N) (hlb : ∀ r ∈ ls, Bd r.2 K) (hub : ∀ r ∈ us, Bd r.2 K) (hN : N ≤ 64) (hK : K ≤ 100000000) {s : Nat} {r0 r1 q0 q1 : Row} {e : Int} {X Y : Nat → Int} (h0 : ls[s]? = some r0) (h1 : ls[s + 1]? = some r1) (g0 : us[s]? = some q0) (g1 : us[s + 1]? = some q1) (hp1 : 0 < cf ds (s + 1)) (hp2 : 0 < cf ds (s + 2)) (he : cf ds (s + 1) * e = cf ds s * cf ds (s + 2) + cf r1.2 s * cf r1.2 s) (hXY : ∀ i r, s + 1 < i → ls[i]? = some r → cf ds (s + 1) * X i = cf ds (s + 2) * cf r.2 s - cf r1.2 s * cf r.2 (s + 1) ∧ cf ds (s + 2) * Y i = e * cf r.2 (s + 1) + cf r1.2 s * X i) (hXw : ∀ i, (List.length (words (X i).natAbs)) ≤ 5 * K + 10) (hew : (List.length (words e.natAbs)) ≤ 5 * K + 10) : CtrX Tryz.prog 81 [isPtr bw 0, isI ((s + 1 : Nat) : Int)] (lwM bw N gd gl gu ds ls us m n ps qs sw) (fun S M => ∃ ls' : List Row, S = isTup [] ∧ M = lwM bw N gd gl gu (ds.set (s + 1) e) ls' ((us.set (s + 1) q0).set s q1) m n ps qs (IntKind.i64.wrap (sw + 1)) ∧ ls' ++ ((us.set (s + 1) q0).set s q1) = swX s N X Y (swT N s s ls ((us.set (s + 1) q0).set s q1) r0 r1)) := by
 refine CtrX.i Tryz.func81 rfl Tryz.ntmps81 fun w0 F0 => .w [0,1] rfl (.fact (Has.rngI (Has.t (t := 1) rfl)) fun lt1 => ?_)
 have hk1 := some_lt h1
 have hk2 := some_lt g1
 have c0 := hlr r0 (List.mem_of_getElem? h0)
 have c1 := hlr r1 (List.mem_of_getElem? h1)
 have B0 := hlb r0 (List.mem_of_getElem? h0)
 have B1 := hlb r1 (List.mem_of_getElem? h1)
 have hd0 := hdb s
 have hd1 := hdb (s + 1)
 have hd2 := hdb (s + 2)
 have m1 := nz_mul (cf ds s) (cf ds (s + 2))
 have m2 := nz_mul (cf r1.2 s) (cf r1.2 s)
 have m3 := nz_add (cf ds s * cf ds (s + 2)) (cf r1.2 s * cf r1.2 s)
 have hB1s := B1 s
 have L0 : (r0.2.map nz).length = N := by rw [List.length_map, c0]
 have L1 : (r1.2.map nz).length = N := by rw [List.length_map, c1]
 have hdL : (ds.map nz).length = N + 1 := by rw [List.length_map, hdl]
 refine .sr fun k1 => stM rfl (st (.nilc (.t rfl)) rfl (st (.fieldAddr (.t rfl) fld87_6 ty3) rfl (st (.load1 (.t rfl) (i := 0) rfl ty3 rfl) rfl (st (.addW (.t rfl) (.cI 1 rfl)) rfl (st (.nilc (.t rfl)) rfl (st (.fieldAddr (.t rfl) fld87_6 ty3) rfl (.store (.t rfl) (.t rfl) (i := 0) rfl ty3 rfl rfl (Ss' := [_, _, _, _, _, _, _, _, _]) rfl (M' := ((some _, cellM [_, _, _, _, _, _, _, _, _]) :: _ :: _ :: _ :: _)) rfl (nkQ k1 (.w [0,1] rfl (.sq fun k2 => .dry mixed (.u 0 rfl (.mv (.t rfl)) (.u 1 rfl (.nilc (.t rfl)) (.u 2 rfl (.fieldAddr (.t rfl) fld87_3 ty71) (.u 4 rfl (.mv (.t rfl)) (.u 5 rfl (.mv (.t rfl)) (.u 6 rfl (.nilc (.t rfl)) (.u 7 rfl (.fieldAddr (.t rfl) fld87_3 ty71) (.u 9 rfl (.mv (.t rfl)) (.u 10 rfl (.eq (.subI (.t rfl) (.cI 1 rfl) (by first | omega | assumption) (by first | omega | assumption)) ((show isI _ = isI ((s : Nat) : Int) from isI_eq (by omega)))) (.u 11 rfl (.mv (.t rfl)) (.u 12 rfl (.nilc (.t rfl)) (.u 13 rfl (.fieldAddr (.t rfl) fld87_3 ty71) (.u 15 rfl (.mv (.t rfl)) (.u 16 rfl (.eq (.subI (.t rfl) (.cI 1 rfl) (by first | omega | assumption) (by first | omega | assumption)) ((show isI _ = isI ((s : Nat) : Int) from isI_eq (by omega)))) ?_))))))))))))))))))))))))
 refine .u 19 rfl (.mv (.t rfl)) (.u 20 rfl (.nilc (.t rfl)) (.u 21 rfl (.fieldAddr (.t rfl) fld87_3 ty71) (.u 23 rfl (.mv (.t rfl)) (.go [] (.so 3 [] rfl (.load1 (.t rfl) (i := 0) rfl ty71 rfl) (.so 8 [] rfl (.load1 (.t rfl) (i := 0) rfl ty71 rfl) (.so 14 [] rfl (.load1 (.t rfl) (i := 0) rfl ty71 rfl) (.so 17 [30] rfl (.ixGr sl71 ty22 (.t rfl) (.t rfl) (by omega)) ?_))))))))
 refine .so 18 [33] rfl (.loadGM (.t rfl) (i := 3) rfl ty22 g0) (.so 22 [] rfl (.load1 (.t rfl) (i := 0) rfl ty71 rfl) (.so 24 [38] rfl (.ixGr sl71 ty22 (.t rfl) (.t rfl) (by omega)) ?_))
 refine .so 25 [40] rfl (.loadGM (.t rfl) (i := 3) rfl ty22 g1) (.fn [26,27,28,29] (.w [0,1,20,26,19,24,34,41] rfl (st (.ixGr sl71 ty22 (.t rfl) (.t rfl) (by omega)) rfl (.storeGM (z := q0) (.t rfl) (.t rfl) (i := 3) rfl ty22 (by omega) (M' := (_ :: _ :: _ :: grM _ _ _ :: _)) rfl (st (.ixGr sl71 ty22 (.t rfl) (.t rfl) (by omega)) rfl (.storeGM (z := q1) (.t rfl) (.t rfl) (i := 3) rfl ty22 (by rw [List.length_set]; omega) (M' := (_ :: _ :: _ :: grM _ _ _ :: _)) rfl ?_))))))
 refine nkQ k2 (.w [0,1] rfl (.sq fun k3 => .sq fun k4 => .cv (Cv.perm (perm_tail (pre := [_, _, _, _]) (List.Perm.append_left ls (swap_perm g1 g0 (by omega))))) (.region (stM rfl (st (.eq (.subI (.t rfl) (.cI 1 rfl) (by first | omega | assumption) (by first | omega | assumption)) ((show isI _ = isI ((s : Nat) : Int) from isI_eq (by omega)))) rfl (st (.mv (.cI 0 rfl)) rfl (nkQ k4 (.block (.loopF [0,1,45] (fun (z : { j : Nat // j ≤ s }) => match z with | ⟨j, hj⟩ => [(46, isI (j : Int))]) (fun M => fun (z : { j : Nat // j ≤ s }) => match z with | ⟨j, hj⟩ => ((some bw, cellM [isI (N : Int), isGr gd (ds.map nz).length, isGr gl ls.length, isGr gu us.length, isB m, isWords ps, isB n, isWords qs, isI (IntKind.i64.wrap (sw + 1))]) :: grMK zc gd (ds.map nz) :: grM rowV gl ls :: grM rowV gu ((us.set (s + 1) q0).set s q1) :: (swT N s j ls ((us.set (s + 1) q0).set s q1) r0 r1).map rowM)) (fun (z : { j : Nat // j ≤ s }) => match z with | ⟨j, hj⟩ => s - j) (⟨0, Nat.zero_le _⟩) (Cv.mem (.c 46 rfl ?_ (.l [0,1,45] rfl)) ?_) ?_)))))))))
 ·rfl
 ·exact tail4 (swT_0 h0 h1 c0 c1)
 rintro ⟨j, hj⟩ K5 hK5
 refine .w [46,0,1,45] rfl (.memEq (M' := ((some bw, cellM [isI (N : Int), isGr gd (ds.map nz).length, isGr gl ls.length, isGr gu us.length, isB m, isWords ps, isB n, isWords qs, isI (IntKind.i64.wrap (sw + 1))]) :: grMK zc gd (ds.map nz) :: grM rowV gl ls :: grM rowV gu ((us.set (s + 1) q0).set s q1) :: (swT N s j ls ((us.set (s + 1) q0).set s q1) r0 r1).map rowM)) rfl ?_)
 have hs0 : ((swT N s j ls ((us.set (s + 1) q0).set s q1) r0 r1).set (s + 1) (r1.1, (stL N (cf r1.2) (cf r0.2) j).set j (cf r0.2 j)))[s]? = some (r0.1, stL N (cf r0.2) (cf r1.2) j) := (List.getElem?_set_ne (by omega)).trans (swT_s h1)
 refine .sr fun k6 => st (.ltI (.t rfl) (.t rfl)) rfl (nkQ k6 (.sq fun k7 => .cd rfl (fun hc1 => ?_) (fun hc1 => ?_)))
 ·refine .skip (.nk k7 (.sq fun k8 => .block (.sr fun k9 => stM rfl (stM rfl (nkQ k9 (.dry mixed (.u 0 rfl (.mv (.t rfl)) (.u 1 rfl (.nilc (.t rfl)) (.u 2 rfl (.fieldAddr (.t rfl) fld87_2 ty71) (.u 4 rfl (.mv (.t rfl)) (.u 7 rfl (.mv (.t rfl)) (.u 8 rfl (.mv (.t rfl)) (.u 9 rfl (.nilc (.t rfl)) (.u 10 rfl (.fieldAddr (.t rfl) fld87_2 ty71) (.u 12 rfl (.mv (.t rfl)) (.u 13 rfl (.eq (.subI (.t rfl) (.cI 1 rfl) (by first | omega | assumption) (by first | omega | assumption)) ((show isI _ = isI ((s : Nat) : Int) from isI_eq (by omega)))) (.u 16 rfl (.mv (.t rfl)) (.u 17 rfl (.mv (.t rfl)) (.u 18 rfl (.nilc (.t rfl)) (.u 19 rfl (.fieldAddr (.t rfl) fld87_2 ty71) (.u 21 rfl (.mv (.t rfl)) (.u 22 rfl (.eq (.subI (.t rfl) (.cI 1 rfl) (by first | omega | assumption) (by first | omega | assumption)) ((show isI _ = isI ((s : Nat) : Int) from isI_eq (by omega)))) (.u 25 rfl (.mv (.t rfl)) ?_)))))))))))))))))))))))
  refine .u 28 rfl (.mv (.t rfl)) (.u 29 rfl (.nilc (.t rfl)) (.u 30 rfl (.fieldAddr (.t rfl) fld87_2 ty71) (.u 32 rfl (.mv (.t rfl)) (.u 35 rfl (.mv (.t rfl)) (.go [] (.so 3 [] rfl (.load1 (.t rfl) (i := 0) rfl ty71 rfl) (.so 5 [52] rfl (.ixGr sl71 ty22 (.t rfl) (.t rfl) (by omega)) ?_)))))))
  refine .so 6 [54] rfl (.loadGM (.t rfl) (i := 2) rfl ty22 h1) (.so 11 [] rfl (.load1 (.t rfl) (i := 0) rfl ty71 rfl) (.so 14 [60] rfl (.ixGr sl71 ty22 (.t rfl) (.t rfl) (by omega)) ?_))
  refine .so 15 [63] rfl (.loadGM (.t rfl) (i := 2) rfl ty22 h0) (.so 20 [] rfl (.load1 (.t rfl) (i := 0) rfl ty71 rfl) (.so 23 [69] rfl (.ixGr sl71 ty22 (.t rfl) (.t rfl) (by omega)) ?_))
  refine .so 24 [72] rfl (.loadGM (.t rfl) (i := 2) rfl ty22 h0) (.so 26 [73] rfl (.ixGr sl22 ty33 (.t rfl) (.t rfl) (by omega)) ?_)
  refine .so 27 [75] rfl (.loadGK zc_len (.t rfl) (i := 4 + s) (wkAt (pre := [_, _, _, _]) (r := (r0.1, stL N (cf r0.2) (cf r1.2) j)) (swT_s h1)) ty33 (stL_at (by omega))) (.so 31 [] rfl (.load1 (.t rfl) (i := 0) rfl ty71 rfl) (.so 33 [80] rfl (.ixGr sl71 ty22 (.t rfl) (.t rfl) (by omega)) ?_))
  refine .so 34 [82] rfl (.loadGM (.t rfl) (i := 2) rfl ty22 h1) (.so 36 [83] rfl (.ixGr sl22 ty33 (.t rfl) (.t rfl) (by omega)) ?_)
  refine .so 37 [85] rfl (.loadGK zc_len (.t rfl) (i := 4 + (s + 1)) (wkAt (pre := [_, _, _, _]) (r := (r1.1, stL N (cf r1.2) (cf r0.2) j)) (swT_t h1)) ty33 (stL_at (by omega))) (.fn [38,39,40,41] (.w [0,1,45,46,47,48,4,49,50,51,53,56,57,58,59,61,62,65,66,67,68,70,71,74,77,78,79,81,84,52,54,55,60,63,64,69,72,73,75,76,80,82,83,85,86] rfl (st (.ixGr sl22 ty33 (.t rfl) (.t rfl) (by omega)) rfl (.storeGK (z := nz (cf r0.2 j)) zc_len (.t rfl) (.t rfl) (i := 4 + (s + 1)) (wkAt (pre := [_, _, _, _]) (r := (r1.1, stL N (cf r1.2) (cf r0.2) j)) (swT_t h1)) ty33 (by rw [List.length_map, stL_len]; omega) (M' := (_ :: _ :: _ :: _ :: ((swT N s j ls ((us.set (s + 1) q0).set s q1) r0 r1).set (s + 1) (r1.1, (stL N (cf r1.2) (cf r0.2) j).set j (cf r0.2 j))).map rowM)) (wkSt (pre := [_, _, _, _]) (r := (r1.1, stL N (cf r1.2) (cf r0.2) j)) (swT_t h1)) ?_))))
  refine st (.ixGr sl22 ty33 (.t rfl) (.t rfl) (by omega)) rfl (.storeGK (z := nz (cf r1.2 j)) zc_len (.t rfl) (.t rfl) (i := 4 + s) (wkAt (pre := [_, _, _, _]) (r := (r0.1, stL N (cf r0.2) (cf r1.2) j)) hs0) ty33 (by rw [List.length_map, stL_len]; omega) (M' := (_ :: _ :: _ :: _ :: (((swT N s j ls ((us.set (s + 1) q0).set s q1) r0 r1).set (s + 1) (r1.1, (stL N (cf r1.2) (cf r0.2) j).set j (cf r0.2 j))).set s (r0.1, (stL N (cf r0.2) (cf r1.2) j).set j (cf r1.2 j))).map rowM)) (wkSt (pre := [_, _, _, _]) (r := (r0.1, stL N (cf r0.2) (cf r1.2) j)) hs0) ?_)
  refine nl (.bln (.nk k8 (.region (st (.addI (.t rfl) (.cI 1 rfl) (by first | omega | assumption) (by first | omega | assumption)) rfl (stM rfl (nl (.thn (hK5 (⟨j + 1, by omega⟩) _ _ ?_ (Cv.mem (.c 46 rfl ?_ (.l [0,1,45] rfl)) ?_)))))))))
  ·show s - (j + 1) < s - j; omega
  ·exact isI_eq (by omega)
  ·exact tail4 (swT_step (by omega) h1)
 ·have hjs : s = j := by omega
  subst hjs
  refine .exit (.the (.the (.blh (.nk k3 (.sr fun k10 => stM rfl (st (.nilc (.t rfl)) rfl (st (.fieldAddr (.t rfl) fld87_2 ty71) rfl (st (.load1 (.t rfl) (i := 0) rfl ty71 rfl) rfl (stM rfl (st (.ixGr sl71 ty22 (.t rfl) (.t rfl) (by omega)) rfl (st (.loadGM (.t rfl) (i := 2) rfl ty22 h1) rfl (stM rfl (st (.eq (.subI (.t rfl) (.cI 1 rfl) (by first | omega | assumption) (by first | omega | assumption)) ((show isI _ = isI ((s : Nat) : Int) from isI_eq (by omega)))) rfl (st (.ixGr sl22 ty33 (.t rfl) (.t rfl) (by omega)) rfl (st (.loadGK zc_len (.t rfl) (i := 4 + (s + 1)) (wkAt (pre := [_, _, _, _]) (r := (r1.1, stL N (cf r1.2) (cf r0.2) s)) (swT_t h1)) ty33 (stL_at (by omega))) rfl (.alloc [isB false, SlM isU []] zero33 (fun _ _ => ⟨rfl, nilM _ _, trivial⟩) rfl fun b1 => .store (.t rfl) (.t rfl) (i := 0) rfl ty33 rfl rfl (Ss' := [_, _]) rfl (M' := ((some _, cellM [_, _]) :: _ :: _ :: _ :: _ :: _)) rfl (nkQ k10 (.w [0,1,5] rfl (.sq fun k11 => .drhS (.cons_cons _ (.cons_cons _ (.cons_cons _ (.cons_cons _ (.cons_cons _ (List.Sublist.refl _)))))) (.m [] rfl (.so [101] rfl (.nilc (.t rfl)) (.so [102] rfl (.fieldAddr (.t rfl) fld87_1 ty22) (.so [103] rfl (.load1 (.t rfl) (i := 1) rfl ty22 rfl) (.m [] rfl (.so [105] rfl (.eq (.subI (.t rfl) (.cI 1 rfl) (by first | omega | assumption) (by first | omega | assumption)) ((show isI _ = isI ((s : Nat) : Int) from isI_eq (by omega)))) ?_)))))))))))))))))))))))))
  refine .so [104,106] rfl (.ixGr sl22 ty33 (.t rfl) (.t rfl) (by omega)) ?_
  refine .so [107] rfl (.loadGK zc_len (.t rfl) (i := 2) rfl ty33 (getZ (i := s) (by omega))) (.m [] rfl (.so [109] rfl (.nilc (.t rfl)) (.so [110] rfl (.fieldAddr (.t rfl) fld87_1 ty22) (.so [111] rfl (.load1 (.t rfl) (i := 1) rfl ty22 rfl) (.m [] rfl (.so [113] rfl (.eq (.addI (.t rfl) (.cI 1 rfl) (by first | omega | assumption) (by first | omega | assumption)) ((show isI _ = isI ((s + 2 : Nat) : Int) from isI_eq (by omega)))) (.so [112,114] rfl (.ixGr sl22 ty33 (.t rfl) (.t rfl) (by omega)) ?_)))))))
  refine .so [115] rfl (.loadGK zc_len (.t rfl) (i := 2) rfl ty33 (getZ (i := s + 2) (by omega))) (.so [108,116] rfl (.eq (.call (zint_Mul (by first | omega | (rw [val_words]; omega)) (by first | omega | (rw [val_words]; omega))) (.cons (.t rfl) (.cons (.t rfl) .nil))) ((show isZ _ = isZ (cf ds s * cf ds (s + 2)) from isZ_eq (by (try simp only [zv_nz]); (try simp only [zv_nf]))))) ?_)
  refine .so [] rfl (.load (.t rfl) (i := 0) rfl ty33 rfl (Ss' := [_, _]) rfl) (.so [] rfl (.load (.t rfl) (i := 0) rfl ty33 rfl (Ss' := [_, _]) rfl) (.so [118,119] rfl (.eq (.call (zint_Mul (by first | omega | (rw [val_words]; omega)) (by first | omega | (rw [val_words]; omega))) (.cons (.t rfl) (.cons (.t rfl) .nil))) ((show isZ _ = isZ (cf r1.2 s * cf r1.2 s) from isZ_eq (by (try simp only [zv_nz]); (try simp only [zv_nf]))))) ?_))
  refine .so [117,120] rfl (.eq (.call (zint_Add (by first | omega | (rw [val_words]; omega)) (by first | omega | (rw [val_words]; omega))) (.cons (.t rfl) (.cons (.t rfl) .nil))) ((show isZ _ = isZ (cf ds s * cf ds (s + 2) + cf r1.2 s * cf r1.2 s) from isZ_eq (by (try simp only [zv_nz]); (try simp only [zv_nf]))))) ?_
  refine .m [] rfl (.so [122] rfl (.nilc (.t rfl)) (.so [123] rfl (.fieldAddr (.t rfl) fld87_1 ty22) (.so [124] rfl (.load1 (.t rfl) (i := 1) rfl ty22 rfl) (.m [] rfl (.so [125,126] rfl (.ixGr sl22 ty33 (.t rfl) (.t rfl) (by omega)) ?_)))))
  refine .so [127] rfl (.loadGK zc_len (.t rfl) (i := 2) rfl ty33 (getZ (i := s + 1) (by omega))) (.so [121,128] rfl (.eq (.call (lll_exact (by first | omega | (rw [val_words]; omega)) (by first | omega | (rw [val_words]; omega)) (by first | (rw [zv_nz]; omega) | (rw [zv_nf]; omega)) (by simp only [zv_nz, zv_nf]; exact ⟨e, he.symm⟩)) (.cons (.t rfl) (.cons (.t rfl) .nil))) ((show isZ _ = isZ (e) from isZ_eq (by simp only [zv_nz, zv_nf]; rw [← he]; exact Int.mul_tdiv_cancel_left _ (by omega))))) ?_)
  refine .als2 (n1 := 30) (ds := [6]) (zs := [[isB false, SlM isU []]]) rfl (.cons rfl rfl zero33 (fun _ _ => ⟨rfl, nilM _ _, trivial⟩) .nil) (.cons_cons _ (.cons_cons _ (.cons_cons _ (.cons_cons _ (.cons_cons _ (List.Sublist.refl _)))))) (Cs := [_]) rfl (.fn (n := 30) mixed rfl (fun bs hbs => ?_))
  obtain ⟨b2, rfl⟩ := len1 hbs
  refine .memEq (M' := (_ :: _ :: _ :: _ :: _ :: _ :: _)) rfl (.cv (Cv.wk (.k 0 rfl (.k 1 rfl (.k 5 rfl (.k 129 rfl (.cons (t := 6) (Has.op rfl) .nil)))))) (.store (.t rfl) (.t rfl) (i := 0) rfl ty33 rfl rfl (Ss' := [_, _]) rfl (M' := ((some _, cellM [_, _]) :: _ :: _ :: _ :: _ :: _ :: _)) rfl (nkQ k11 (.sq fun k12 => .sr fun k13 => stM rfl (st (.eq (.addI (.t rfl) (.cI 1 rfl) (by first | omega | assumption) (by first | omega | assumption)) ((show isI _ = isI ((s + 2 : Nat) : Int) from isI_eq (by omega)))) rfl (stM rfl (nkQ k13 (.block (.loopF [0,1,5,6] (fun (z : { i : Nat // s + 2 ≤ i ∧ i ≤ N }) => match z with | ⟨i, hi⟩ => [(7, isI (i : Int))]) (fun M => fun (z : { i : Nat // s + 2 ≤ i ∧ i ≤ N }) => match z with | ⟨i, hi⟩ => (zM b2 e :: zM b1 (cf r1.2 s) :: (some bw, cellM [isI (N : Int), isGr gd (ds.map nz).length, isGr gl ls.length, isGr gu us.length, isB m, isWords ps, isB n, isWords qs, isI (IntKind.i64.wrap (sw + 1))]) :: grMK zc gd (ds.map nz) :: grM rowV gl ls :: grM rowV gu ((us.set (s + 1) q0).set s q1) :: (swX s i X Y (swT N s s ls ((us.set (s + 1) q0).set s q1) r0 r1)).map rowM)) (fun (z : { i : Nat // s + 2 ≤ i ∧ i ≤ N }) => match z with | ⟨i, hi⟩ => N - i) (⟨s + 2, Nat.le_refl _, by omega⟩) (Cv.mem (.c 7 rfl ?_ (.l [0,1,5,6] rfl)) ?_) ?_)))))))))
  ·rfl
  ·exact tail6 (swX_0 (i := s + 2) (Nat.le_refl _)).symm
  rintro ⟨i, hi1, hi2⟩ K14 hK14
  refine .w [7,0,1,5,6] rfl (.memEq (M' := (zM b2 e :: zM b1 (cf r1.2 s) :: (some bw, cellM [isI (N : Int), isGr gd (ds.map nz).length, isGr gl ls.length, isGr gu us.length, isB m, isWords ps, isB n, isWords qs, isI (IntKind.i64.wrap (sw + 1))]) :: grMK zc gd (ds.map nz) :: grM rowV gl ls :: grM rowV gu ((us.set (s + 1) q0).set s q1) :: (swX s i X Y (swT N s s ls ((us.set (s + 1) q0).set s q1) r0 r1)).map rowM)) rfl (.sq fun k15 => .sr fun k16 => stM rfl (stM rfl (st (.nilc (.t rfl)) rfl (st (.fieldAddr (.t rfl) fld87_0 ty3) rfl (st (.load1 (.t rfl) (i := 2) rfl ty3 rfl) rfl (st (.ltI (.t rfl) (.t rfl)) rfl (nkQ k16 (.cd rfl (fun hc2 => ?_) (fun hc2 => ?_))))))))))
  ·obtain ⟨r, hr⟩ : ∃ r, ls[i]? = some r := ⟨_, List.getElem?_eq_getElem (by omega)⟩
   have hrC := hlr r (List.mem_of_getElem? hr)
   have hrB := hlb r (List.mem_of_getElem? hr)
   have hrB0 := hrB s
   have hrB1 := hrB (s + 1)
   have hrL : (r.2.map nz).length = N := by rw [List.length_map, hrC]
   have hrT : (swT N s s ls ((us.set (s + 1) q0).set s q1) r0 r1)[i]? = some r := (swT_ne (by omega) (by omega)).trans (lwL hr)
   have hrX : (swX s i X Y (swT N s s ls ((us.set (s + 1) q0).set s q1) r0 r1))[i]? = some r := swX_at hrT (.inl (Nat.le_refl _))
   obtain ⟨hx1, hx2⟩ := hXY i r (by omega) hr
   have hXi := hXw i
   have n1 := nz_mul (cf ds (s + 2)) (cf r.2 s)
   have n2 := nz_mul (cf r1.2 s) (cf r.2 (s + 1))
   have n3 := nz_sub (cf ds (s + 2) * cf r.2 s) (cf r1.2 s * cf r.2 (s + 1))
   have n4 := nz_mul e (cf r.2 (s + 1))
   have n5 := nz_mul (cf r1.2 s) (X i)
   have n6 := nz_add (e * cf r.2 (s + 1)) (cf r1.2 s * X i)
   have hrS : ((swX s i X Y (swT N s s ls ((us.set (s + 1) q0).set s q1) r0 r1)).set i (r.1, r.2.set (s + 1) (X i)))[i]? = some (r.1, r.2.set (s + 1) (X i)) := List.getElem?_set_self (some_lt hrX)
   have hcX : cf (r.2.set (s + 1) (X i)) (s + 1) = X i := by unfold cf; rw [List.getD_eq_getElem?_getD, List.getElem?_set_self (by omega)]; rfl
   refine .skip (.nk k15 (.sq fun k17 => .block (.sr fun k18 => stM rfl (st (.nilc (.t rfl)) rfl (st (.fieldAddr (.t rfl) fld87_2 ty71) rfl (st (.load1 (.t rfl) (i := 2) rfl ty71 rfl) rfl (stM rfl (st (.ixGr sl71 ty22 (.t rfl) (.t rfl) (by omega)) rfl (st (.loadGM (.t rfl) (i := 4) rfl ty22 hr) rfl (stM rfl (st (.ixGr sl22 ty33 (.t rfl) (.t rfl) (by omega)) rfl (st (.loadGK zc_len (.t rfl) (i := 6 + i) (wkAt (pre := [_, _, _, _, _, _]) (r := r) hrX) ty33 (getZ (i := s + 1) (by omega))) rfl (.alloc [isB false, SlM isU []] zero33 (fun _ _ => ⟨rfl, nilM _ _, trivial⟩) rfl fun b3 => .store (.t rfl) (.t rfl) (i := 0) rfl ty33 rfl rfl (Ss' := [_, _]) rfl (M' := ((some _, cellM [_, _]) :: _ :: _ :: _ :: _ :: _ :: _ :: _)) rfl (nkQ k18 (.sq fun k19 => .dry mixed (.u 0 rfl (.mv (.t rfl)) (.u 1 rfl (.nilc (.t rfl)) (.u 2 rfl (.fieldAddr (.t rfl) fld87_2 ty71) (.u 4 rfl (.mv (.t rfl)) (.u 7 rfl (.mv (.t rfl)) (.u 8 rfl (.mv (.t rfl)) (.u 9 rfl (.nilc (.t rfl)) (.u 10 rfl (.fieldAddr (.t rfl) fld87_1 ty22) (.u 12 rfl (.mv (.t rfl)) ?_))))))))))))))))))))))))
   refine .u 13 rfl (.eq (.addI (.t rfl) (.cI 1 rfl) (by first | omega | assumption) (by first | omega | assumption)) ((show isI _ = isI ((s + 2 : Nat) : Int) from isI_eq (by omega)))) (.u 16 rfl (.mv (.t rfl)) (.u 17 rfl (.nilc (.t rfl)) (.u 18 rfl (.fieldAddr (.t rfl) fld87_2 ty71) (.u 20 rfl (.mv (.t rfl)) (.u 23 rfl (.mv (.t rfl)) (.u 24 rfl (.eq (.subI (.t rfl) (.cI 1 rfl) (by first | omega | assumption) (by first | omega | assumption)) ((show isI _ = isI ((s : Nat) : Int) from isI_eq (by omega)))) (.u 32 rfl (.mv (.t rfl)) (.u 33 rfl (.nilc (.t rfl)) (.u 34 rfl (.fieldAddr (.t rfl) fld87_1 ty22) (.u 36 rfl (.mv (.t rfl)) (.go [] (.so 3 [] rfl (.load1 (.t rfl) (i := 3) rfl ty71 rfl) (.so 5 [153] rfl (.ixGr sl71 ty22 (.t rfl) (.t rfl) (by omega)) ?_)))))))))))))
   refine .so 6 [155] rfl (.loadGM (.t rfl) (i := 5) rfl ty22 hr) (.so 11 [] rfl (.load1 (.t rfl) (i := 3) rfl ty22 rfl) (.so 14 [161] rfl (.ixGr sl22 ty33 (.t rfl) (.t rfl) (by omega)) ?_))
   refine .so 15 [164] rfl (.loadGK zc_len (.t rfl) (i := 4) rfl ty33 (getZ (i := s + 2) (by omega))) (.so 19 [] rfl (.load1 (.t rfl) (i := 3) rfl ty71 rfl) (.so 21 [169] rfl (.ixGr sl71 ty22 (.t rfl) (.t rfl) (by omega)) ?_))
   refine .so 22 [171] rfl (.loadGM (.t rfl) (i := 5) rfl ty22 hr) (.so 25 [172] rfl (.ixGr sl22 ty33 (.t rfl) (.t rfl) (by omega)) ?_)
   refine .so 26 [175] rfl (.loadGK zc_len (.t rfl) (i := 7 + i) (wkAt (pre := [_, _, _, _, _, _, _]) (r := r) hrX) ty33 (getZ (i := s) (by omega))) (.so 27 [165,176] rfl (.eq (.call (zint_Mul (by first | omega | (rw [val_words]; omega)) (by first | omega | (rw [val_words]; omega))) (.cons (.t rfl) (.cons (.t rfl) .nil))) ((show isZ _ = isZ (cf ds (s + 2) * cf r.2 s) from isZ_eq (by (try simp only [zv_nz]); (try simp only [zv_nf]))))) ?_)
   refine .so 28 [] rfl (.load (.t rfl) (i := 2) rfl ty33 rfl (Ss' := [_, _]) rfl) (.so 29 [] rfl (.load (.t rfl) (i := 0) rfl ty33 rfl (Ss' := [_, _]) rfl) (.so 30 [178,179] rfl (.eq (.call (zint_Mul (by first | omega | (rw [val_words]; omega)) (by first | omega | (rw [val_words]; omega))) (.cons (.t rfl) (.cons (.t rfl) .nil))) ((show isZ _ = isZ (cf r1.2 s * cf r.2 (s + 1)) from isZ_eq (by (try simp only [zv_nz]); (try simp only [zv_nf]))))) ?_))
   refine .so 31 [177,180] rfl (.eq (.call (zint_Sub (by first | omega | (rw [val_words]; omega)) (by first | omega | (rw [val_words]; omega))) (.cons (.t rfl) (.cons (.t rfl) .nil))) ((show isZ _ = isZ (cf ds (s + 2) * cf r.2 s - cf r1.2 s * cf r.2 (s + 1)) from isZ_eq (by (try simp only [zv_nz]); (try simp only [zv_nf]))))) ?_
   refine .so 35 [] rfl (.load1 (.t rfl) (i := 3) rfl ty22 rfl) (.so 37 [185] rfl (.ixGr sl22 ty33 (.t rfl) (.t rfl) (by omega)) ?_)
   refine .so 38 [187] rfl (.loadGK zc_len (.t rfl) (i := 4) rfl ty33 (getZ (i := s + 1) (by omega))) (.so 39 [181,188] rfl (.eq (.call (lll_exact (by first | omega | (rw [val_words]; omega)) (by first | omega | (rw [val_words]; omega)) (by first | (rw [zv_nz]; omega) | (rw [zv_nf]; omega)) (by simp only [zv_nz, zv_nf]; exact ⟨X i, hx1.symm⟩)) (.cons (.t rfl) (.cons (.t rfl) .nil))) ((show isZ _ = Flat (zc (nz (X i))) from isZ_eq (by simp only [zv_nz, zv_nf]; rw [← hx1]; exact Int.mul_tdiv_cancel_left _ (by omega))))) ?_)
   refine .fn [40,41] (.w [0,1,5,6,7,132,133,134,135,136,137,140,141,142,143,144,145,146,147,148,149,8,150,151,152,154,157,158,159,160,162,163,166,167,168,170,173,174,182,183,184,186,153,155,156,161,164,165,169,171,172,175,176,177,178,179,180,181,185,187,188,189] rfl (st (.ixGr sl22 ty33 (.t rfl) (.t rfl) (by omega)) rfl (.storeGK (z := nz (X i)) zc_len (.t rfl) (.t rfl) (i := 7 + i) (wkAt (pre := [_, _, _, _, _, _, _]) (r := r) hrX) ty33 (by omega) (M' := (_ :: _ :: _ :: _ :: _ :: _ :: _ :: ((swX s i X Y (swT N s s ls ((us.set (s + 1) q0).set s q1) r0 r1)).set i (r.1, r.2.set (s + 1) (X i))).map rowM)) (wkSt (pre := [_, _, _, _, _, _, _]) (r := r) hrX) (nkQ k19 (.dry mixed (.u 0 rfl (.mv (.t rfl)) (.u 1 rfl (.nilc (.t rfl)) (.u 2 rfl (.fieldAddr (.t rfl) fld87_2 ty71) (.u 4 rfl (.mv (.t rfl)) (.u 7 rfl (.mv (.t rfl)) (.u 8 rfl (.eq (.subI (.t rfl) (.cI 1 rfl) (by first | omega | assumption) (by first | omega | assumption)) ((show isI _ = isI ((s : Nat) : Int) from isI_eq (by omega)))) (.u 13 rfl (.mv (.t rfl)) (.u 14 rfl (.nilc (.t rfl)) (.u 15 rfl (.fieldAddr (.t rfl) fld87_2 ty71) (.u 17 rfl (.mv (.t rfl)) (.u 20 rfl (.mv (.t rfl)) (.u 25 rfl (.mv (.t rfl)) (.u 26 rfl (.nilc (.t rfl)) (.u 27 rfl (.fieldAddr (.t rfl) fld87_1 ty22) (.u 29 rfl (.mv (.t rfl)) (.u 30 rfl (.eq (.addI (.t rfl) (.cI 1 rfl) (by first | omega | assumption) (by first | omega | assumption)) ((show isI _ = isI ((s + 2 : Nat) : Int) from isI_eq (by omega)))) (.go [] (.so 3 [] rfl (.load1 (.t rfl) (i := 3) rfl ty71 rfl) (.so 5 [194] rfl (.ixGr sl71 ty22 (.t rfl) (.t rfl) (by omega)) ?_))))))))))))))))))))))))
   refine .so 6 [196] rfl (.loadGM (.t rfl) (i := 5) rfl ty22 hr) (.so 9 [] rfl (.load (.t rfl) (i := 1) rfl ty33 rfl (Ss' := [_, _]) rfl) (.so 10 [] rfl (.load (.t rfl) (i := 0) rfl ty33 rfl (Ss' := [_, _]) rfl) (.so 11 [200,201] rfl (.eq (.call (zint_Mul (by first | omega | (rw [val_words]; omega)) (by first | omega | (rw [val_words]; omega))) (.cons (.t rfl) (.cons (.t rfl) .nil))) ((show isZ _ = isZ (e * cf r.2 (s + 1)) from isZ_eq (by (try simp only [zv_nz]); (try simp only [zv_nf]))))) ?_)))
   refine .so 12 [] rfl (.load (.t rfl) (i := 2) rfl ty33 rfl (Ss' := [_, _]) rfl) (.so 16 [] rfl (.load1 (.t rfl) (i := 3) rfl ty71 rfl) (.so 18 [207] rfl (.ixGr sl71 ty22 (.t rfl) (.t rfl) (by omega)) ?_))
   refine .so 19 [209] rfl (.loadGM (.t rfl) (i := 5) rfl ty22 hr) (.so 21 [210] rfl (.ixGr sl22 ty33 (.t rfl) (.t rfl) (by omega)) ?_)
   refine .so 22 [212] rfl (.loadGK zc_len (.t rfl) (i := 7 + i) (wkAt (pre := [_, _, _, _, _, _, _]) (r := (r.1, r.2.set (s + 1) (X i))) hrS) ty33 (getZ (i := s + 1) (by rw [List.length_set]; omega))) ?_
   refine .so 23 [203,213] rfl (.eq (.call (zint_Mul (by first | omega | (rw [val_words]; omega)) (by rw [val_words, hcX]; omega)) (.cons (.t rfl) (.cons (.t rfl) .nil))) ((show isZ _ = isZ (cf r1.2 s * X i) from isZ_eq (by (try simp only [zv_nz]); (try simp only [zv_nf]); rw [hcX])))) ?_
   refine .so 24 [202,214] rfl (.eq (.call (zint_Add (by first | omega | (rw [val_words]; omega)) (by first | omega | (rw [val_words]; omega))) (.cons (.t rfl) (.cons (.t rfl) .nil))) ((show isZ _ = isZ (e * cf r.2 (s + 1) + cf r1.2 s * X i) from isZ_eq (by (try simp only [zv_nz]); (try simp only [zv_nf]))))) ?_
   refine .so 28 [] rfl (.load1 (.t rfl) (i := 3) rfl ty22 rfl) (.so 31 [219] rfl (.ixGr sl22 ty33 (.t rfl) (.t rfl) (by omega)) ?_)
   refine .so 32 [222] rfl (.loadGK zc_len (.t rfl) (i := 4) rfl ty33 (getZ (i := s + 2) (by omega))) (.so 33 [215,223] rfl (.eq (.call (lll_exact (by first | omega | (rw [val_words]; omega)) (by first | omega | (rw [val_words]; omega)) (by first | (rw [zv_nz]; omega) | (rw [zv_nf]; omega)) (by simp only [zv_nz, zv_nf]; exact ⟨Y i, hx2.symm⟩)) (.cons (.t rfl) (.cons (.t rfl) .nil))) ((show isZ _ = Flat (zc (nz (Y i))) from isZ_eq (by simp only [zv_nz, zv_nf]; rw [← hx2]; exact Int.mul_tdiv_cancel_left _ (by omega))))) ?_)
   refine .fn [34,35] (.w [0,1,5,6,7,132,133,134,135,136,137,140,141,142,143,144,145,146,147,148,149,8,150,151,152,154,157,158,159,160,162,163,166,167,168,170,173,174,182,183,184,186,153,155,156,161,164,165,169,171,172,175,176,177,178,179,180,181,185,187,188,189,190,191,192,193,195,198,199,204,205,206,208,211,216,217,218,220,221,194,196,197,200,201,202,203,207,209,210,212,213,214,215,219,222,223,224] rfl (st (.ixGr sl22 ty33 (.t rfl) (.t rfl) (by omega)) rfl (.storeGK (z := nz (Y i)) zc_len (.t rfl) (.t rfl) (i := 7 + i) (wkAt (pre := [_, _, _, _, _, _, _]) (r := (r.1, r.2.set (s + 1) (X i))) hrS) ty33 (by rw [List.length_map, List.length_set]; omega) (M' := (_ :: _ :: _ :: _ :: _ :: _ :: _ :: (((swX s i X Y (swT N s s ls ((us.set (s + 1) q0).set s q1) r0 r1)).set i (r.1, r.2.set (s + 1) (X i))).set i (r.1, (r.2.set (s + 1) (X i)).set s (Y i))).map rowM)) (wkSt (pre := [_, _, _, _, _, _, _]) (r := (r.1, r.2.set (s + 1) (X i))) hrS) ?_)))
   refine nl (.bln (.nk k17 (.region (stM rfl (st (.addI (.t rfl) (.cI 1 rfl) (by first | omega | assumption) (by first | omega | assumption)) rfl (stM rfl (nl (.thn (hK14 (⟨i + 1, by omega, by omega⟩) _ _ ?_ (Cv.trans (Cv.drop ((.cons _ (.cons_cons _ (.cons_cons _ (.cons_cons _ (.cons_cons _ (.cons_cons _ (.cons_cons _ (List.Sublist.refl _)))))))))) (Cv.mem (.c 7 rfl ?_ (.l [0,1,5,6] rfl)) ?_)))))))))))
   ·show N - (i + 1) < N - i; omega
   ·exact isI_eq (by omega)
   ·exact tail6 (by rw [List.set_set, swX_step hrT (by omega)])
  ·have hiN : N = i := by omega
   refine .exit (.the (.the (.blh (.nk k12 (.w [0,1,6] rfl (.dr (.m [] rfl (.so [226] rfl (.nilc (.t rfl)) (.so [227] rfl (.fieldAddr (.t rfl) fld87_1 ty22) (.so [228] rfl (.load1 (.t rfl) (i := 2) rfl ty22 rfl) (.m [] rfl (.so [] rfl (.load (.t rfl) (i := 0) rfl ty33 rfl (Ss' := [_, _]) rfl) (.fn (n := 6) mixed (.w [229,230,231] rfl (st (.ixGr sl22 ty33 (.t rfl) (.t rfl) (by omega)) rfl (.storeGK (z := nz e) zc_len (.t rfl) (.t rfl) (i := 3) rfl ty33 (by omega) (M' := (_ :: _ :: _ :: grMK _ _ _ :: _ :: _ :: _)) rfl (nl (rtX0D (.cons _ (.cons _ (.cons_cons _ (.cons_cons _ (.cons_cons _ (.cons_cons _ (List.Sublist.refl _))))))) (.inr rfl) Tryz.results81 rfl ?_))))))))))))))))))
   subst hiN
   obtain ⟨ls', e1, e2, e3⟩ := swX_fin (us := ((us.set (s + 1) q0).set s q1)) (j := s) (X := X) (Y := Y) hll h0 h1 c0 c1
   exact ⟨ls', rfl, lwS_fin (by rw [List.length_set, List.length_set]) e2 e3 e1, e1⟩
theorem lll_lessen {bw N K : Nat} {gd : Gr (Bool × List Nat)} {gl gu : Gr Row} {ds : List Int} {ls us : List Row} {m n : Bool} {ps qs : List Nat} {sw : Int} (hdl : ds.length = N + 1) (hdb : Bd ds K) (hll : ls.length = N) (hul : us.length = N) (hlr : ∀ r ∈ ls, r.2.length = N) (hur : ∀ r ∈ us, r.2.length = N) (hlb : ∀ r ∈ ls, Bd r.2 K) (hub : ∀ r ∈ us, Bd r.2 K) (hN : N ≤ 64) (hK : K ≤ 100000000) {i k : Nat} {r rk q qk : Row} (hi : ls[i]? = some r) (hrk : ls[k]? = some rk) (ui : us[i]? = some q) (uk : us[k]? = some qk) (hki : k < i) (hp : 0 < cf ds (k + 1)) : CtrX Tryz.prog 79 [isPtr bw 0, isI (i : Int), isI (k : Int)] (lwM bw N gd gl gu ds ls us m n ps qs sw) (fun S M => ∃ ls' us', S = isTup [] ∧ M = lwM bw N gd gl gu ds ls' us' m n ps qs sw ∧ LessR N i k ds ls us r rk q qk ls' us') := by
 refine CtrX.i Tryz.func79 rfl Tryz.ntmps79 fun w0 F0 => .w [0,1,2] rfl (.fact (Has.rngI (Has.t (t := 1) rfl)) fun lt1 => .fact (Has.rngI (Has.t (t := 2) rfl)) fun lt2 => ?_)
 have hiL : i < ls.length := by
  rcases Nat.lt_or_ge i ls.length with g | g
  ·exact g
  ·rw [List.getElem?_eq_none g] at hi; cases hi
 have hrC := hlr r (List.mem_of_getElem? hi)
 have hrB := hlb r (List.mem_of_getElem? hi)
 have hrL : (r.2.map nz).length = N := by rw [List.length_map, hrC]
 have hsC := hlr rk (List.mem_of_getElem? hrk)
 have hsB := hlb rk (List.mem_of_getElem? hrk)
 have hsL : (rk.2.map nz).length = N := by rw [List.length_map, hsC]
 have hqC := hur q (List.mem_of_getElem? ui)
 have hqB := hub q (List.mem_of_getElem? ui)
 have hqL : (q.2.map nz).length = N := by rw [List.length_map, hqC]
 have htC := hur qk (List.mem_of_getElem? uk)
 have htB := hub qk (List.mem_of_getElem? uk)
 have htL : (qk.2.map nz).length = N := by rw [List.length_map, htC]
 have hdB := hdb (k + 1)
 have hdL : (ds.map nz).length = N + 1 := by rw [List.length_map, hdl]
 obtain ⟨c, hc⟩ : ∃ c, c = rndZ (cf r.2 k) (cf ds (k + 1)) := ⟨_, rfl⟩
 have hcw : (List.length (words c.natAbs)) ≤ K + 2 := by
  rw [hc]
  have h1 := nw_mono (Int.natAbs_ediv_le_natAbs (cf r.2 k + cf r.2 k + cf ds (k + 1)) (cf ds (k + 1) + cf ds (k + 1)))
  have h2 := nz_add (cf r.2 k) (cf r.2 k)
  have h3 := nz_add (cf r.2 k + cf r.2 k) (cf ds (k + 1))
  have h4 := hrB k
  unfold rndZ; omega
 obtain ⟨x, hx⟩ : ∃ x, x = cf r.2 k - c * cf ds (k + 1) := ⟨_, rfl⟩
 have hrk1 := hrB k
 have hcd := nz_mul c (cf ds (k + 1))
 refine .sq fun k1 => .sr fun k2 => stM rfl (stM rfl (stM rfl (.callX (lll_small hdl hdb hll hul hlr hur hlb hub hN hK hi (by omega)) (perm0 _) (.cons (.t rfl) (.cons (.t rfl) (.cons (.t rfl) .nil))) rfl ?_)))
 rintro _ _ ⟨rfl, rfl⟩
 refine .memEq (M' := lwM bw N gd gl gu ds ls us m n ps qs sw) (List.append_nil _) (nkQ k2 (.cd rfl (fun hc1 => ?_) (fun hc1 => ?_)))
 ·have HS := hc1
  refine .ret (.thr (rtX0D (.cons_cons _ (.cons_cons _ (.cons_cons _ (.cons_cons _ (List.Sublist.refl _))))) (.inl rfl) Tryz.results79 rfl (⟨ls, us, rfl, rfl, .inl ⟨HS, rfl, rfl⟩⟩)))
 ·have HS := hc1
  refine .skip (.nk k1 (.sq fun k3 => .drhS (.cons_cons _ (.cons_cons _ (.cons_cons _ (.cons_cons _ (List.Sublist.refl _))))) (.m [] rfl (.so [15] rfl (.nilc (.t rfl)) (.so [16] rfl (.fieldAddr (.t rfl) fld87_2 ty71) (.so [17] rfl (.load1 (.t rfl) (i := 0) rfl ty71 rfl) (.m [] rfl (.so [18,19] rfl (.ixGr sl71 ty22 (.t rfl) (.t rfl) (by omega)) ?_))))))))
  refine .so [20] rfl (.loadGM (.t rfl) (i := 2) rfl ty22 hi) (.m [] rfl (.so [21,22] rfl (.ixGr sl22 ty33 (.t rfl) (.t rfl) (by omega)) ?_))
  refine .so [23] rfl (.loadGK zc_len (.t rfl) (i := 4 + i) (wkAt (pre := [_, _, _, _]) (lwL hi)) ty33 (getZ (i := k) (by omega))) (.m [] rfl (.so [25] rfl (.nilc (.t rfl)) (.so [26] rfl (.fieldAddr (.t rfl) fld87_1 ty22) (.so [27] rfl (.load1 (.t rfl) (i := 0) rfl ty22 rfl) (.m [] rfl (.so [29] rfl (.eq (.addI (.t rfl) (.cI 1 rfl) (by first | omega | assumption) (by first | omega | assumption)) ((show isI _ = isI ((k + 1 : Nat) : Int) from isI_eq (by omega)))) (.so [28,30] rfl (.ixGr sl22 ty33 (.t rfl) (.t rfl) (by omega)) ?_)))))))
  refine .so [31] rfl (.loadGK zc_len (.t rfl) (i := 1) rfl ty33 (getZ (i := k + 1) (by omega))) ?_
  refine .so [24,32] rfl (.eq (.call (zint_Round (by first | omega | (rw [val_words]; omega)) (by first | omega | (rw [val_words]; omega)) (by rw [zv_nz]; exact hp)) (.cons (.t rfl) (.cons (.t rfl) .nil))) ((show isTup [isZ _, isB _] = isTup [isZ c, isB true] from by simp only [zv_nf]; rw [hc]; rfl))) ?_
  refine .m [33] rfl (.so [14] rfl (.ext (.t rfl) rfl) (.so [14] rfl (.ext (.t rfl) rfl) (.als2 (n1 := 23) (ds := [6]) (zs := [[isB false, SlM isU []]]) rfl (.cons rfl rfl zero33 (fun _ _ => ⟨rfl, nilM _ _, trivial⟩) .nil) (.cons_cons _ (.cons_cons _ (.cons_cons _ (.cons_cons _ (List.Sublist.refl _))))) (Cs := [_]) rfl (.new [34] 0 (Ss' := [_, _]) (Cs' := [cellM [_, _]]) rfl (by kernel_rfl) (by kernel_rfl) rfl rfl rfl (by kernel_rfl) rfl (.t rfl) ty33 rfl rfl rfl rfl (.fn (n := 24) mixed rfl (fun bs hbs => ?_))))))
  obtain ⟨b1, rfl⟩ := len1 hbs
  refine .memEq (M' := (_ :: _ :: _ :: _ :: _ :: _)) rfl (.cv (Cv.wk (.k 0 rfl (.k 1 rfl (.k 2 rfl (.k 35 rfl (.cons (t := 6) (Has.op rfl) .nil)))))) (stM rfl (nkQ k3 (.sq fun k4 => .sr fun k5 => stM rfl (st (.nilc (.t rfl)) rfl (st (.fieldAddr (.t rfl) fld87_0 ty3) rfl (st (.load1 (.t rfl) (i := 1) rfl ty3 rfl) rfl (st (.mv (.cI 0 rfl)) rfl (nkQ k5 (.w [0,1,2,6,39,40] rfl (.block (.loopF [0,1,2,6,39] (fun (z : { j : Nat // j ≤ N }) => match z with | ⟨j, hj⟩ => [(40, isI (j : Int))]) (fun M => fun (z : { j : Nat // j ≤ N }) => match z with | ⟨j, hj⟩ => (zM b1 c :: lw0 bw N gd gl gu (ds.map nz).length ls.length us.length m n ps qs sw :: grMK zc gd (ds.map nz) :: grM rowV gl ls :: grM rowV gu us :: ((ls ++ us).set (ls.length + i) (q.1, stL N (cf q.2) (fun j => cf q.2 j - c * cf qk.2 j) j)).map rowM)) (fun (z : { j : Nat // j ≤ N }) => match z with | ⟨j, hj⟩ => N - j) (⟨0, Nat.zero_le _⟩) (Cv.mem (.c 40 rfl ?_ (.l [0,1,2,6,39] rfl)) ?_) ?_))))))))))))
  ·rfl
  ·exact tail5 (set_eq (b := (q.1, stL N (cf q.2) (fun j => cf q.2 j - c * cf qk.2 j) 0)) (lwU ui) (by rw [stL_zero _ hqC]))
  rintro ⟨j, hj⟩ K6 hK6
  refine .w [40,0,1,2,6,39] rfl (.memEq (M' := (zM b1 c :: lw0 bw N gd gl gu (ds.map nz).length ls.length us.length m n ps qs sw :: grMK zc gd (ds.map nz) :: grM rowV gl ls :: grM rowV gu us :: ((ls ++ us).set (ls.length + i) (q.1, stL N (cf q.2) (fun j => cf q.2 j - c * cf qk.2 j) j)).map rowM)) rfl ?_)
  have hqj := hqB j
  have htj := htB j
  have hm1 := nz_mul c (cf qk.2 j)
  have hset : ((ls ++ us).set (ls.length + i) (q.1, stL N (cf q.2) (fun j => cf q.2 j - c * cf qk.2 j) j))[ls.length + i]? = some (q.1, stL N (cf q.2) (fun j => cf q.2 j - c * cf qk.2 j) j) := List.getElem?_set_self (by rw [List.length_append]; omega)
  have hsetk : ((ls ++ us).set (ls.length + i) (q.1, stL N (cf q.2) (fun j => cf q.2 j - c * cf qk.2 j) j))[ls.length + k]? = some qk := (List.getElem?_set_ne (by omega)).trans (lwU uk)
  refine .sr fun k7 => st (.ltI (.t rfl) (.t rfl)) rfl (nkQ k7 (.sq fun k8 => .cd rfl (fun hc2 => ?_) (fun hc2 => ?_)))
  ·refine .skip (.nk k8 (.sq fun k9 => .block (.sr fun k10 => stM rfl (stM rfl (nkQ k10 (.dry mixed (.u 0 rfl (.mv (.t rfl)) (.u 1 rfl (.nilc (.t rfl)) (.u 2 rfl (.fieldAddr (.t rfl) fld87_3 ty71) (.u 4 rfl (.mv (.t rfl)) (.u 7 rfl (.mv (.t rfl)) (.u 8 rfl (.mv (.t rfl)) (.u 9 rfl (.nilc (.t rfl)) (.u 10 rfl (.fieldAddr (.t rfl) fld87_3 ty71) (.u 12 rfl (.mv (.t rfl)) (.u 15 rfl (.mv (.t rfl)) (.u 19 rfl (.mv (.t rfl)) (.u 20 rfl (.nilc (.t rfl)) (.u 21 rfl (.fieldAddr (.t rfl) fld87_3 ty71) (.u 23 rfl (.mv (.t rfl)) (.u 26 rfl (.mv (.t rfl)) (.go [] (.so 3 [] rfl (.load1 (.t rfl) (i := 1) rfl ty71 rfl) ?_)))))))))))))))))))))))
   refine .so 5 [46] rfl (.ixGr sl71 ty22 (.t rfl) (.t rfl) (by omega)) ?_
   refine .so 6 [48] rfl (.loadGM (.t rfl) (i := 4) rfl ty22 ui) (.so 11 [] rfl (.load1 (.t rfl) (i := 1) rfl ty71 rfl) (.so 13 [54] rfl (.ixGr sl71 ty22 (.t rfl) (.t rfl) (by omega)) ?_))
   refine .so 14 [56] rfl (.loadGM (.t rfl) (i := 4) rfl ty22 ui) (.so 16 [57] rfl (.ixGr sl22 ty33 (.t rfl) (.t rfl) (by omega)) ?_)
   refine .so 17 [59] rfl (.loadGK zc_len (.t rfl) (i := 5 + (ls.length + i)) (wkAt (pre := [_, _, _, _, _]) (r := (q.1, stL N (cf q.2) (fun j => cf q.2 j - c * cf qk.2 j) j)) hset) ty33 (stL_at (by omega))) (.so 18 [] rfl (.load (.t rfl) (i := 0) rfl ty33 rfl (Ss' := [_, _]) rfl) (.so 22 [] rfl (.load1 (.t rfl) (i := 1) rfl ty71 rfl) (.so 24 [65] rfl (.ixGr sl71 ty22 (.t rfl) (.t rfl) (by omega)) ?_)))
   refine .so 25 [67] rfl (.loadGM (.t rfl) (i := 4) rfl ty22 uk) (.so 27 [68] rfl (.ixGr sl22 ty33 (.t rfl) (.t rfl) (by omega)) ?_)
   refine .so 28 [70] rfl (.loadGK zc_len (.t rfl) (i := 5 + (ls.length + k)) (wkAt (pre := [_, _, _, _, _]) hsetk) ty33 (getZ (i := j) (by omega))) (.so 29 [61,71] rfl (.eq (.call (zint_Mul (by first | omega | (rw [val_words]; omega)) (by first | omega | (rw [val_words]; omega))) (.cons (.t rfl) (.cons (.t rfl) .nil))) ((show isZ _ = isZ (c * cf qk.2 j) from isZ_eq (by (try simp only [zv_nz]); (try simp only [zv_nf]))))) ?_)
   refine .so 30 [60,72] rfl (.eq (.call (zint_Sub (by first | omega | (rw [val_words]; omega)) (by first | omega | (rw [val_words]; omega))) (.cons (.t rfl) (.cons (.t rfl) .nil))) ((show isZ _ = Flat (zc (nz (cf q.2 j - c * cf qk.2 j))) from isZ_eq (by (try simp only [zv_nz]); (try simp only [zv_nf]))))) ?_
   refine .fn [31,32] (.w [0,1,2,6,39,40,41,42,8,43,44,45,47,50,51,52,53,55,58,62,63,64,66,69,46,48,49,54,56,57,59,60,61,65,67,68,70,71,72,73] rfl (st (.ixGr sl22 ty33 (.t rfl) (.t rfl) (by omega)) rfl (.storeGK (z := nz (cf q.2 j - c * cf qk.2 j)) zc_len (.t rfl) (.t rfl) (i := 5 + (ls.length + i)) (wkAt (pre := [_, _, _, _, _]) (r := (q.1, stL N (cf q.2) (fun j => cf q.2 j - c * cf qk.2 j) j)) hset) ty33 (by rw [List.length_map, stL_len]; omega) (M' := (_ :: _ :: _ :: _ :: _ :: ((ls ++ us).set (ls.length + i) (q.1, stL N (cf q.2) (fun j => cf q.2 j - c * cf qk.2 j) (j + 1))).map rowM)) (wkStore (pre := [_, _, _, _, _]) (X := (q.1, stL N (cf q.2) (fun j => cf q.2 j - c * cf qk.2 j) j)) hset (stL_set (by omega))) ?_)))
   refine nl (.bln (.nk k9 (.region (st (.addI (.t rfl) (.cI 1 rfl) (by first | omega | assumption) (by first | omega | assumption)) rfl (stM rfl (nl (.thn (hK6 (⟨j + 1, by omega⟩) _ _ ?_ (Cv.mem (.c 40 rfl ?_ (.l [0,1,2,6,39] rfl)) ?_)))))))))
   ·show N - (j + 1) < N - j; omega
   ·exact isI_eq (by omega)
   ·rfl
  ·have hjN : N = j := by omega
   subst hjN
   have hseti : ((ls ++ us).set (ls.length + i) (q.1, stL N (cf q.2) (fun j => cf q.2 j - c * cf qk.2 j) N))[i]? = some r := (List.getElem?_set_ne (by omega)).trans (lwL hi)
   refine .exit (.the (.the (.blh (.nk k4 (.sq fun k11 => .dry mixed (.u 0 rfl (.mv (.t rfl)) (.u 1 rfl (.nilc (.t rfl)) (.u 2 rfl (.fieldAddr (.t rfl) fld87_2 ty71) (.u 4 rfl (.mv (.t rfl)) (.u 7 rfl (.mv (.t rfl)) (.u 8 rfl (.mv (.t rfl)) (.u 9 rfl (.nilc (.t rfl)) (.u 10 rfl (.fieldAddr (.t rfl) fld87_2 ty71) (.u 12 rfl (.mv (.t rfl)) (.u 15 rfl (.mv (.t rfl)) (.u 19 rfl (.mv (.t rfl)) (.u 20 rfl (.nilc (.t rfl)) (.u 21 rfl (.fieldAddr (.t rfl) fld87_1 ty22) (.u 23 rfl (.mv (.t rfl)) (.go [] (.so 3 [] rfl (.load1 (.t rfl) (i := 1) rfl ty71 rfl) (.so 5 [79] rfl (.ixGr sl71 ty22 (.t rfl) (.t rfl) (by omega)) ?_))))))))))))))))))))))
   refine .so 6 [81] rfl (.loadGM (.t rfl) (i := 3) rfl ty22 hi) (.so 11 [] rfl (.load1 (.t rfl) (i := 1) rfl ty71 rfl) (.so 13 [87] rfl (.ixGr sl71 ty22 (.t rfl) (.t rfl) (by omega)) ?_))
   refine .so 14 [89] rfl (.loadGM (.t rfl) (i := 3) rfl ty22 hi) (.so 16 [90] rfl (.ixGr sl22 ty33 (.t rfl) (.t rfl) (by omega)) ?_)
   refine .so 17 [92] rfl (.loadGK zc_len (.t rfl) (i := 5 + i) (wkAt (pre := [_, _, _, _, _]) hseti) ty33 (getZ (i := k) (by omega))) (.so 18 [] rfl (.load (.t rfl) (i := 0) rfl ty33 rfl (Ss' := [_, _]) rfl) (.so 22 [] rfl (.load1 (.t rfl) (i := 1) rfl ty22 rfl) (.so 24 [] rfl (.eq (.addI (.t rfl) (.cI 1 rfl) (by first | omega | assumption) (by first | omega | assumption)) ((show isI _ = isI ((k + 1 : Nat) : Int) from isI_eq (by omega)))) (.so 25 [98,100] rfl (.ixGr sl22 ty33 (.t rfl) (.t rfl) (by omega)) ?_))))
   refine .so 26 [101] rfl (.loadGK zc_len (.t rfl) (i := 2) rfl ty33 (getZ (i := k + 1) (by omega))) (.so 27 [94,102] rfl (.eq (.call (zint_Mul (by first | omega | (rw [val_words]; omega)) (by first | omega | (rw [val_words]; omega))) (.cons (.t rfl) (.cons (.t rfl) .nil))) ((show isZ _ = isZ (c * cf ds (k + 1)) from isZ_eq (by (try simp only [zv_nz]); (try simp only [zv_nf]))))) ?_)
   refine .so 28 [93,103] rfl (.eq (.call (zint_Sub (by first | omega | (rw [val_words]; omega)) (by first | omega | (rw [val_words]; omega))) (.cons (.t rfl) (.cons (.t rfl) .nil))) ((show isZ _ = Flat (zc (nz x)) from isZ_eq (by rw [hx]; (try simp only [zv_nz]); (try simp only [zv_nf]))))) ?_
   refine .fn [29,30] (.w [0,1,2,6,83,82,104] rfl (st (.ixGr sl22 ty33 (.t rfl) (.t rfl) (by omega)) rfl (.storeGK (z := nz x) zc_len (.t rfl) (.t rfl) (i := 5 + i) (wkAt (pre := [_, _, _, _, _]) (r := r) hseti) ty33 (by omega) (M' := (_ :: _ :: _ :: _ :: _ :: (((ls ++ us).set (ls.length + i) (q.1, stL N (cf q.2) (fun j => cf q.2 j - c * cf qk.2 j) N)).set i (r.1, r.2.set k x)).map rowM)) (wkSt (pre := [_, _, _, _, _]) hseti) (nkQ k11 (.sr fun k12 => stM rfl (st (.mv (.cI 0 rfl)) rfl (nkQ k12 (.block (.loopF [0,1,2,6,106] (fun (z : { j : Nat // j ≤ k }) => match z with | ⟨j, hj⟩ => [(107, isI (j : Int))]) (fun M => fun (z : { j : Nat // j ≤ k }) => match z with | ⟨j, hj⟩ => (zM b1 c :: lw0 bw N gd gl gu (ds.map nz).length ls.length us.length m n ps qs sw :: grMK zc gd (ds.map nz) :: grM rowV gl ls :: grM rowV gu us :: (((ls ++ us).set (ls.length + i) (q.1, stL N (cf q.2) (fun j => cf q.2 j - c * cf qk.2 j) N)).set i (r.1, stL N (cf (r.2.set k x)) (fun j => cf (r.2.set k x) j - c * cf rk.2 j) j)).map rowM)) (fun (z : { j : Nat // j ≤ k }) => match z with | ⟨j, hj⟩ => k - j) (⟨0, Nat.zero_le _⟩) (Cv.mem (.c 107 rfl ?_ (.l [0,1,2,6,106] rfl)) ?_) ?_)))))))))
   ·rfl
   ·exact tail5 (by rw [stL_zero _ (by rw [List.length_set]; exact hrC)])
   rintro ⟨j, hj⟩ K13 hK13
   refine .w [107,0,1,2,6,106] rfl (.memEq (M' := (zM b1 c :: lw0 bw N gd gl gu (ds.map nz).length ls.length us.length m n ps qs sw :: grMK zc gd (ds.map nz) :: grM rowV gl ls :: grM rowV gu us :: (((ls ++ us).set (ls.length + i) (q.1, stL N (cf q.2) (fun j => cf q.2 j - c * cf qk.2 j) N)).set i (r.1, stL N (cf (r.2.set k x)) (fun j => cf (r.2.set k x) j - c * cf rk.2 j) j)).map rowM)) rfl ?_)
   have hrj := hrB j
   have hsj := hsB j
   have hm1 := nz_mul c (cf rk.2 j)
   have hset2 : (((ls ++ us).set (ls.length + i) (q.1, stL N (cf q.2) (fun j => cf q.2 j - c * cf qk.2 j) N)).set i (r.1, stL N (cf (r.2.set k x)) (fun j => cf (r.2.set k x) j - c * cf rk.2 j) j))[i]? = some (r.1, stL N (cf (r.2.set k x)) (fun j => cf (r.2.set k x) j - c * cf rk.2 j) j) := List.getElem?_set_self (by rw [List.length_set, List.length_append]; omega)
   have hset2k : (((ls ++ us).set (ls.length + i) (q.1, stL N (cf q.2) (fun j => cf q.2 j - c * cf qk.2 j) N)).set i (r.1, stL N (cf (r.2.set k x)) (fun j => cf (r.2.set k x) j - c * cf rk.2 j) j))[k]? = some rk := (List.getElem?_set_ne (by omega)).trans ((List.getElem?_set_ne (by omega)).trans (lwL hrk))
   refine .sr fun k14 => st (.ltI (.t rfl) (.t rfl)) rfl (nkQ k14 (.sq fun k15 => .cd rfl (fun hc3 => ?_) (fun hc3 => ?_)))
   ·have hxj : (List.length (words (cf (r.2.set k x) j).natAbs)) ≤ K := by rw [cf_set_ne (by omega)]; exact hrB j
    refine .skip (.nk k15 (.sq fun k16 => .block (.sr fun k17 => stM rfl (stM rfl (nkQ k17 (.dry mixed (.u 0 rfl (.mv (.t rfl)) (.u 1 rfl (.nilc (.t rfl)) (.u 2 rfl (.fieldAddr (.t rfl) fld87_2 ty71) (.u 4 rfl (.mv (.t rfl)) (.u 7 rfl (.mv (.t rfl)) (.u 8 rfl (.mv (.t rfl)) (.u 9 rfl (.nilc (.t rfl)) (.u 10 rfl (.fieldAddr (.t rfl) fld87_2 ty71) (.u 12 rfl (.mv (.t rfl)) (.u 15 rfl (.mv (.t rfl)) (.u 19 rfl (.mv (.t rfl)) (.u 20 rfl (.nilc (.t rfl)) (.u 21 rfl (.fieldAddr (.t rfl) fld87_2 ty71) (.u 23 rfl (.mv (.t rfl)) (.u 26 rfl (.mv (.t rfl)) (.go [] (.so 3 [] rfl (.load1 (.t rfl) (i := 1) rfl ty71 rfl) ?_)))))))))))))))))))))))
    refine .so 5 [113] rfl (.ixGr sl71 ty22 (.t rfl) (.t rfl) (by omega)) ?_
    refine .so 6 [115] rfl (.loadGM (.t rfl) (i := 3) rfl ty22 hi) (.so 11 [] rfl (.load1 (.t rfl) (i := 1) rfl ty71 rfl) (.so 13 [121] rfl (.ixGr sl71 ty22 (.t rfl) (.t rfl) (by omega)) ?_))
    refine .so 14 [123] rfl (.loadGM (.t rfl) (i := 3) rfl ty22 hi) (.so 16 [124] rfl (.ixGr sl22 ty33 (.t rfl) (.t rfl) (by omega)) ?_)
    refine .so 17 [126] rfl (.loadGK zc_len (.t rfl) (i := 5 + i) (wkAt (pre := [_, _, _, _, _]) (r := (r.1, stL N (cf (r.2.set k x)) (fun j => cf (r.2.set k x) j - c * cf rk.2 j) j)) hset2) ty33 (stL_at (by omega))) (.so 18 [] rfl (.load (.t rfl) (i := 0) rfl ty33 rfl (Ss' := [_, _]) rfl) (.so 22 [] rfl (.load1 (.t rfl) (i := 1) rfl ty71 rfl) (.so 24 [132] rfl (.ixGr sl71 ty22 (.t rfl) (.t rfl) (by omega)) ?_)))
    refine .so 25 [134] rfl (.loadGM (.t rfl) (i := 3) rfl ty22 hrk) (.so 27 [135] rfl (.ixGr sl22 ty33 (.t rfl) (.t rfl) (by omega)) ?_)
    refine .so 28 [137] rfl (.loadGK zc_len (.t rfl) (i := 5 + k) (wkAt (pre := [_, _, _, _, _]) hset2k) ty33 (getZ (i := j) (by omega))) (.so 29 [128,138] rfl (.eq (.call (zint_Mul (by first | omega | (rw [val_words]; omega)) (by first | omega | (rw [val_words]; omega))) (.cons (.t rfl) (.cons (.t rfl) .nil))) ((show isZ _ = isZ (c * cf rk.2 j) from isZ_eq (by (try simp only [zv_nz]); (try simp only [zv_nf]))))) ?_)
    refine .so 30 [127,139] rfl (.eq (.call (zint_Sub (by first | omega | (rw [val_words]; omega)) (by first | omega | (rw [val_words]; omega))) (.cons (.t rfl) (.cons (.t rfl) .nil))) ((show isZ _ = Flat (zc (nz (cf (r.2.set k x) j - c * cf rk.2 j))) from isZ_eq (by (try simp only [zv_nz]); (try simp only [zv_nf]))))) ?_
    refine .fn [31,32] (.w [0,1,2,6,106,107,108,109,9,110,111,112,114,117,118,119,120,122,125,129,130,131,133,136,113,115,116,121,123,124,126,127,128,132,134,135,137,138,139,140] rfl (st (.ixGr sl22 ty33 (.t rfl) (.t rfl) (by omega)) rfl (.storeGK (z := nz (cf (r.2.set k x) j - c * cf rk.2 j)) zc_len (.t rfl) (.t rfl) (i := 5 + i) (wkAt (pre := [_, _, _, _, _]) (r := (r.1, stL N (cf (r.2.set k x)) (fun j => cf (r.2.set k x) j - c * cf rk.2 j) j)) hset2) ty33 (by rw [List.length_map, stL_len]; omega) (M' := (_ :: _ :: _ :: _ :: _ :: (((ls ++ us).set (ls.length + i) (q.1, stL N (cf q.2) (fun j => cf q.2 j - c * cf qk.2 j) N)).set i (r.1, stL N (cf (r.2.set k x)) (fun j => cf (r.2.set k x) j - c * cf rk.2 j) (j + 1))).map rowM)) (wkStore (pre := [_, _, _, _, _]) (X := (r.1, stL N (cf (r.2.set k x)) (fun j => cf (r.2.set k x) j - c * cf rk.2 j) j)) hset2 (stL_set (by omega))) ?_)))
    refine nl (.bln (.nk k16 (.region (st (.addI (.t rfl) (.cI 1 rfl) (by first | omega | assumption) (by first | omega | assumption)) rfl (stM rfl (nl (.thn (hK13 (⟨j + 1, by omega⟩) _ _ ?_ (Cv.mem (.c 107 rfl ?_ (.l [0,1,2,6,106] rfl)) ?_)))))))))
    ·show k - (j + 1) < k - j; omega
    ·exact isI_eq (by omega)
    ·rfl
   ·refine .exit (.the (.the (.blh (rtX0D (.cons _ (.cons_cons _ (.cons_cons _ (.cons_cons _ (.cons_cons _ (List.Sublist.refl _)))))) (.inr rfl) Tryz.results79 rfl ?_))))
    exact ⟨_, _, rfl, lw_fin hi ui (by rw [stL_len, hrC]) (by rw [stL_len, hqC]), .inr ⟨HS, by rw [← hc, ← hx, show j = k by omega]; rfl, by rw [← hc]; rfl⟩⟩
end Go.Proofs.YtlebmedapfncoaaGreat
namespace Go.Proofs.YtlebmedapfncoaaGreat
open Go.En Go.RowKit
set_option maxRecDepth 10000
set_option maxHeartbeats 4000000
open Go.Nt
open Go.Pz
open Go.Mz
open Go.Dt
open Go.Ll
theorem lll_run {bw n0 R K : Nat} {gd : Gr (Bool × List Nat)} {gl gu : Gr Row} {ds : List Int} {ls us : List Row} {m n : Bool} {ps qs : List Nat} {B : MatF} {D N Q : Int} {d0 : Nat → Int} {w0 : MatF} (hz : SZ n0 R K B D N Q d0 w0) (h : RS n0 R B D N (zv m ps) (zv n qs) ds (ls.map Prod.snd) (us.map Prod.snd) 0 ds ls us 1 1) (hR : R ≤ 64) (hK : K ≤ 100000000) (hpw : (List.length (words (val ps))) ≤ 1000) (hqw : (List.length (words (val qs))) ≤ 1000) (hq : 0 < zv n qs) (hpq : zv m ps < zv n qs) : CtrX Tryz.prog 56 [isPtr bw 0] (lwM bw R gd gl gu ds ls us m n ps qs 0) (fun S M => ∃ (c : Nat) (ds' : List Int) (ls' us' : List Row) (k : Nat), S = isTup [] ∧ M = lwM bw R gd gl gu ds' ls' us' m n ps qs (IntKind.i64.wrap (c : Int)) ∧ R ≤ k ∧ RS n0 R B D N (zv m ps) (zv n qs) ds (ls.map Prod.snd) (us.map Prod.snd) c ds' ls' us' k k) := by
 refine CtrX.i Tryz.func56 rfl Tryz.ntmps56 fun w0 F0 => .w [0] rfl (.sr fun k1 => st (.as (.cI 1 rfl)) rfl (nkQ k1 (.block (.loopF [0] (fun (z : { z : Nat × List Int × List Row × List Row × Nat // (1 ≤ z.2.2.2.2 ∧ z.2.2.2.2 ≤ max 1 R) ∧ RS n0 R B D N (zv m ps) (zv n qs) ds (ls.map Prod.snd) (us.map Prod.snd) z.1 z.2.1 z.2.2.1 z.2.2.2.1 z.2.2.2.2 z.2.2.2.2 }) => match z with | ⟨(c, ds1, ls1, us1, k), hI⟩ => [(2, isI (k : Int))]) (fun M => fun (z : { z : Nat × List Int × List Row × List Row × Nat // (1 ≤ z.2.2.2.2 ∧ z.2.2.2.2 ≤ max 1 R) ∧ RS n0 R B D N (zv m ps) (zv n qs) ds (ls.map Prod.snd) (us.map Prod.snd) z.1 z.2.1 z.2.2.1 z.2.2.2.1 z.2.2.2.2 z.2.2.2.2 }) => match z with | ⟨(c, ds1, ls1, us1, k), hI⟩ => (lwM bw R gd gl gu ds1 ls1 us1 m n ps qs (IntKind.i64.wrap (c : Int)))) (fun (z : { z : Nat × List Int × List Row × List Row × Nat // (1 ≤ z.2.2.2.2 ∧ z.2.2.2.2 ≤ max 1 R) ∧ RS n0 R B D N (zv m ps) (zv n qs) ds (ls.map Prod.snd) (us.map Prod.snd) z.1 z.2.1 z.2.2.1 z.2.2.2.1 z.2.2.2.2 z.2.2.2.2 }) => match z with | ⟨(c, ds1, ls1, us1, k), hI⟩ => muR R ds1 k) (⟨(0, ds, ls, us, 1), ⟨Nat.le_refl _, Nat.le_max_left _ _⟩, h⟩) (Cv.mem (.c 2 rfl ?_ (.l [0] rfl)) ?_) ?_))))
 ·rfl
 ·rfl
 rintro ⟨⟨c, ds1, ls1, us1, k⟩, hI⟩ K2 hK2
 refine .w [2,0] rfl (.memEq (M' := (lwM bw R gd gl gu ds1 ls1 us1 m n ps qs (IntKind.i64.wrap (c : Int)))) rfl ?_)
 simp only [] at hI
 obtain ⟨⟨hk1, hkR⟩, hI⟩ := hI
 obtain ⟨s, rfl⟩ : ∃ s, k = s + 1 := ⟨k - 1, by omega⟩
 have hll1 := hI.ll
 have hul1 := hI.ul
 refine .sq fun k3 => .sr fun k4 => stM rfl (stM rfl (st (.nilc (.t rfl)) rfl (st (.fieldAddr (.t rfl) fld87_0 ty3) rfl (st (.load1 (.t rfl) (i := 0) rfl ty3 rfl) rfl (st (.ltI (.t rfl) (.t rfl)) rfl (nkQ k4 (.cd rfl (fun hc1 => ?_) (fun hc1 => ?_))))))))
 ·have hsR : s + 1 < R := by omega
  obtain ⟨r, hr⟩ : ∃ r, ls1[s + 1]? = some r := ⟨_, List.getElem?_eq_getElem (by omega)⟩
  obtain ⟨r', hr'⟩ : ∃ r, ls1[s]? = some r := ⟨_, List.getElem?_eq_getElem (by omega)⟩
  obtain ⟨q, hq_⟩ : ∃ r, us1[s + 1]? = some r := ⟨_, List.getElem?_eq_getElem (by omega)⟩
  obtain ⟨q', hq'⟩ : ∃ r, us1[s]? = some r := ⟨_, List.getElem?_eq_getElem (by omega)⟩
  refine .skip (.nk k3 (.block (.sr fun k5 => stM rfl (stM rfl (stM rfl (st (.eq (.subI (.t rfl) (.cI 1 rfl) (by first | omega | assumption) (by first | omega | assumption)) ((show isI _ = isI ((s : Nat) : Int) from isI_eq (by omega)))) rfl (.callX (lll_lessen (k := s) hI.dl (hI.db hz) hI.ll hI.ul hI.hlr hI.hur (hI.lb hz) (hI.ub hz) hR hK hr hr' hq_ hq' (by omega) (hI.dp (by omega))) (perm0 _) (.cons (.t rfl) (.cons (.t rfl) (.cons (.t rfl) .nil))) rfl ?_)))))))
  rintro _ _ ⟨ls2, us2, rfl, rfl, hL⟩
  obtain ⟨h2, hk2⟩ := hI.less (by omega) hsR hr hr' hq_ hq' hL
  have hll2 := h2.ll
  have hul2 := h2.ul
  obtain ⟨r2, hr2⟩ : ∃ r, ls2[s + 1]? = some r := ⟨_, List.getElem?_eq_getElem (by omega)⟩
  obtain ⟨r2', hr2'⟩ : ∃ r, ls2[s]? = some r := ⟨_, List.getElem?_eq_getElem (by omega)⟩
  obtain ⟨q2, hq2⟩ : ∃ r, us2[s + 1]? = some r := ⟨_, List.getElem?_eq_getElem (by omega)⟩
  obtain ⟨q2', hq2'⟩ : ∃ r, us2[s]? = some r := ⟨_, List.getElem?_eq_getElem (by omega)⟩
  refine .memEq (M' := lwM bw R gd gl gu ds1 ls2 us2 m n ps qs (IntKind.i64.wrap (c : Int))) (List.append_nil _) (nkQ k5 (.sq fun k6 => .sr fun k7 => stM rfl (stM rfl (.callX (lll_stands h2.dl (h2.db hz) h2.ll h2.ul h2.hlr h2.hur (h2.lb hz) (h2.ub hz) hR hK hr2 hpw hqw) (perm0 _) (.cons (.t rfl) (.cons (.t rfl) .nil)) rfl ?_))))
  rintro _ _ ⟨rfl, rfl⟩
  refine .memEq (M' := lwM bw R gd gl gu ds1 ls2 us2 m n ps qs (IntKind.i64.wrap (c : Int))) (List.append_nil _) (st (.not (.t rfl)) rfl (nkQ k7 (.cd rfl (fun hc2 => ?_) (fun hc2 => ?_))))
  ·have hst : ¬ StB (zv m ps) (zv n qs) ds1 (ls2.map Prod.snd) s := by
    unfold StB
    rw [mL_map hr2]
    simpa using hc2
   obtain ⟨e, X, Y, hde, hXY, hXw, hew, hel, hfin⟩ := h2.swap hz hsR hr2' hr2 hq2' hq2 hq hpq hst
   refine .sr fun k8 => stM rfl (stM rfl (.callX (lll_swap h2.dl (h2.db hz) h2.ll h2.ul h2.hlr h2.hur (h2.lb hz) (h2.ub hz) hR hK hr2' hr2 hq2' hq2 (h2.dp (by omega)) (h2.dp (by omega)) hde hXY hXw hew) (perm0 _) (.cons (.t rfl) (.cons (.t rfl) .nil)) rfl ?_))
   rintro _ _ ⟨ls3, rfl, rfl, hsx⟩
   have h3 := hfin ls3 hsx
   refine .memEq (M' := lwM bw R gd gl gu (ds1.set (s + 1) e) ls3 ((us2.set (s + 1) q2').set s q2) m n ps qs (IntKind.i64.wrap (IntKind.i64.wrap (c : Int) + 1))) (List.append_nil _) (nkQ k8 (.sr fun k9 => stM rfl (st (.subI (.t rfl) (.cI 1 rfl) (by first | omega | assumption) (by first | omega | assumption)) rfl (st (.eq (.maxI (.cI 1 rfl) (.t rfl)) ((show isI _ = isI ((max 1 s : Nat) : Int) from isI_eq (by omega)))) rfl (stM rfl (nkQ k9 (.exit (.the (.blh (.thn ?_))))))))))
   refine hK2 (⟨(c + 1, ds1.set (s + 1) e, ls3, (us2.set (s + 1) q2').set s q2, max 1 s), ⟨Nat.le_max_left _ _, by show max 1 s ≤ max 1 R; omega⟩, h3⟩) _ _ ?_ (Cv.mem (.c 2 rfl ?_ (.l [0] rfl)) ?_)
   ·first | exact muR_swap h2 hsR hel | exact muR_next hsR
   ·exact isI_eq (by omega)
   ·first | rfl | (rw [wrap_next])
  ·have hst : StB (zv m ps) (zv n qs) ds1 (ls2.map Prod.snd) s := by
    unfold StB
    rw [mL_map hr2]
    simpa using hc2
   refine .skip (.nk k6 (.sq fun k10 => .sr fun k11 => stM rfl (st (.subI (.t rfl) (.cI 2 rfl) (by first | omega | assumption) (by first | omega | assumption)) rfl (stM rfl (nkQ k11 (.block (.loopF [0,2,4,5,6,7,8,9,10,11,12,13,15,16,17,18,25,26] (fun (z : { z : Nat × List Row × List Row // z.1 ≤ s ∧ RS n0 R B D N (zv m ps) (zv n qs) ds (ls.map Prod.snd) (us.map Prod.snd) c ds1 z.2.1 z.2.2 (s + 1) z.1 ∧ StB (zv m ps) (zv n qs) ds1 (z.2.1.map Prod.snd) s }) => match z with | ⟨(jj, ls4, us4), hJ⟩ => [(3, isI ((jj : Int) - 1))]) (fun M => fun (z : { z : Nat × List Row × List Row // z.1 ≤ s ∧ RS n0 R B D N (zv m ps) (zv n qs) ds (ls.map Prod.snd) (us.map Prod.snd) c ds1 z.2.1 z.2.2 (s + 1) z.1 ∧ StB (zv m ps) (zv n qs) ds1 (z.2.1.map Prod.snd) s }) => match z with | ⟨(jj, ls4, us4), hJ⟩ => (lwM bw R gd gl gu ds1 ls4 us4 m n ps qs (IntKind.i64.wrap (c : Int)))) (fun (z : { z : Nat × List Row × List Row // z.1 ≤ s ∧ RS n0 R B D N (zv m ps) (zv n qs) ds (ls.map Prod.snd) (us.map Prod.snd) c ds1 z.2.1 z.2.2 (s + 1) z.1 ∧ StB (zv m ps) (zv n qs) ds1 (z.2.1.map Prod.snd) s }) => match z with | ⟨(jj, ls4, us4), hJ⟩ => jj) (⟨(s, ls2, us2), Nat.le_refl _, h2, hst⟩) (Cv.mem (.c 3 rfl ?_ (.l [0,2,4,5,6,7,8,9,10,11,12,13,15,16,17,18,25,26] rfl)) ?_) ?_)))))))
   ·exact isI_eq (by omega)
   ·rfl
   rintro ⟨⟨jj, ls4, us4⟩, hJ⟩ K12 hK12
   refine .w [3,0,2,4,5,6,7,8,9,10,11,12,13,15,16,17,18,25,26] rfl (.memEq (M' := (lwM bw R gd gl gu ds1 ls4 us4 m n ps qs (IntKind.i64.wrap (c : Int)))) rfl ?_)
   simp only [] at hJ
   obtain ⟨hjs, hJ, hst4⟩ := hJ
   have hll4 := hJ.ll
   have hul4 := hJ.ul
   refine .sq fun k13 => .sr fun k14 => stM rfl (st (.geI (.t rfl) (.cI 0 rfl)) rfl (nkQ k14 (.cd rfl (fun hc3 => ?_) (fun hc3 => ?_))))
   ·obtain ⟨i, rfl⟩ : ∃ i, jj = i + 1 := ⟨jj - 1, by omega⟩
    obtain ⟨r, hr⟩ : ∃ r, ls4[s + 1]? = some r := ⟨_, List.getElem?_eq_getElem (by omega)⟩
    obtain ⟨r', hr'⟩ : ∃ r, ls4[i]? = some r := ⟨_, List.getElem?_eq_getElem (by omega)⟩
    obtain ⟨q, hq_⟩ : ∃ r, us4[s + 1]? = some r := ⟨_, List.getElem?_eq_getElem (by omega)⟩
    obtain ⟨q', hq'⟩ : ∃ r, us4[i]? = some r := ⟨_, List.getElem?_eq_getElem (by omega)⟩
    refine .skip (.nk k13 (.sq fun k15 => .block (.region (stM rfl (stM rfl (st (.eq (.mv (.t rfl)) ((show isI _ = isI ((i : Nat) : Int) from isI_eq (by omega)))) rfl (.callX (lll_lessen (k := i) hJ.dl (hJ.db hz) hJ.ll hJ.ul hJ.hlr hJ.hur (hJ.lb hz) (hJ.ub hz) hR hK hr hr' hq_ hq' (by omega) (hJ.dp (by omega))) (perm0 _) (.cons (.t rfl) (.cons (.t rfl) (.cons (.t rfl) .nil))) rfl ?_)))))))
    rintro _ _ ⟨ls5, us5, rfl, rfl, hL⟩
    obtain ⟨h5, hk5⟩ := hJ.less (by omega) hsR hr hr' hq_ hq' hL
    refine .memEq (M' := lwM bw R gd gl gu ds1 ls5 us5 m n ps qs (IntKind.i64.wrap (c : Int))) (List.append_nil _) (nl (.bln (.nk k15 (.region (stM rfl (st (.subI (.t rfl) (.cI 1 rfl) (by first | omega | assumption) (by first | omega | assumption)) rfl (stM rfl (nl (.thn ?_)))))))))
    refine hK12 (⟨(i, ls5, us5), by show i ≤ s; omega, h5, hst4.of (hk5 s (by omega))⟩) _ _ ?_ (Cv.mem (.c 3 rfl ?_ (.l [0,2,4,5,6,7,8,9,10,11,12,13,15,16,17,18,25,26] rfl)) ?_)
    ·show i < i + 1; omega
    ·exact isI_eq (by omega)
    ·rfl
   ·obtain rfl : jj = 0 := by omega
    have hfin4 := hJ.next hsR (fun s' hs' => by obtain rfl : s = s' := (by omega); exact hst4)
    refine .exit (.the (.the (.blh (.nk k10 (.region (stM rfl (st (.addI (.t rfl) (.cI 1 rfl) (by first | omega | assumption) (by first | omega | assumption)) rfl (stM rfl (nl (.bln (.thn ?_)))))))))))
    refine hK2 (⟨(c, ds1, ls4, us4, s + 2), ⟨by show 1 ≤ s + 2; omega, by show s + 2 ≤ max 1 R; omega⟩, hfin4⟩) _ _ ?_ (Cv.mem (.c 2 rfl ?_ (.l [0] rfl)) ?_)
    ·first | exact muR_swap h2 hsR hel | exact muR_next hsR
    ·exact isI_eq (by omega)
    ·first | rfl | (rw [wrap_next])
 ·refine .exit (.the (.the (.blh (rtX0D (.cons_cons _ (.cons_cons _ (.cons_cons _ (.cons_cons _ (List.Sublist.refl _))))) (.inr rfl) Tryz.results56 rfl (⟨c, ds1, ls1, us1, s + 1, rfl, rfl, by omega, hI⟩)))))
theorem fl_step {R i : Nat} {us : List Row} {r : Row} {g : Gr (Bool × List Nat)} {b5 : Nat} {a b d : Option Nat × MP} {t : Mem} (hr : us[i]? = some r) : (grMK zc g ((flU us i).map nz ++ r.2.map nz) :: (some b5, cellM [isI (R : Int), isI (R : Int), isGr g (((flU us i).map nz).length + (r.2.map nz).length)]) :: a :: b :: d :: t : Mem) = grMK zc g ((flU us (i + 1)).map nz) :: (some b5, cellM [isI (R : Int), isI (R : Int), isGr g ((flU us (i + 1)).map nz).length]) :: a :: b :: d :: t := by
 rw [← flU_succ hr, List.length_append]
theorem lll_Reduce {n0 R K Kd : Nat} {A : MatF} {xs : List (Bool × List Nat)} (hx : Bd (vals xs) K) (hR1 : 1 ≤ R) (hR : R ≤ 64) (hl : xs.length = R * R) (hG : ∀ i k, i < R → k < R → cf (vals xs) (i * R + k) = ip n0 (A i) (A k)) (hgw : ∀ i k, (List.length (words (gram n0 A i k).natAbs)) ≤ K) (hpos : ∀ t, t ≤ R → 0 < gd n0 A t) (hKd : ∀ j, j ≤ R → (j + 1) * (K + (j + 1)) + 1 ≤ Kd) (hK : K ≤ 100000000) (hKK : Kd ≤ 100000000) {m n : Bool} {ps qs : List Nat} (hpw : (List.length (words (val ps))) ≤ 1000) (hqw : (List.length (words (val qs))) ≤ 1000) (hmy : (decide (0 < sgn (zv n qs)) && decide (0 < cmpZ (zv m ps * 4) (zv n qs)) && decide (cmpZ (zv m ps) (zv n qs) < 0)) = true) (hq : 0 < zv n qs) (hpq : zv m ps < zv n qs) {D N Q : Int} {Ku : Nat} (hz : SZ n0 R Ku A D N Q (Dt.gd n0 A) (gw n0 A)) (hKu : Ku ≤ 100000000) (hN : ((R : Nat) : Int) * D ≤ N) (hN1 : 1 ≤ N) : CtrX Tryz.prog 33 [isM (R : Int) (R : Int) xs, Flat [isB m, isWords ps], Flat [isB n, isWords qs]] ([]) (fun S M => ∃ (c : Nat) (ds' : List Int) (ls' us' : List Row) (k : Nat), S = isTup [isMz R R (us'.flatMap Prod.snd), isI (IntKind.i64.wrap (c : Int)), isI 0] ∧ M = [] ∧ R ≤ k ∧ RS n0 R A D N (zv m ps) (zv n qs) ((List.range (R + 1)).map (Dt.gd n0 A)) ((List.range R).map fun t => lrow n0 R A t t) ((List.range R).map (urow R)) c ds' ls' us' k k) := by
 refine CtrX.i Tryz.func33 rfl Tryz.ntmps33 fun w0 F0 => .w [0,1,2] rfl (.fact (Has.okZ (Has.t (t := 1) rfl)) fun okz1 => .fact (Has.okZ (Has.t (t := 2) rfl)) fun okz2 => .sr fun k1 => .box (.t rfl) rfl fun b1 => .box (.t rfl) rfl fun b2 => .box (.t rfl) rfl fun b3 => .alloc [isI 0, isI 0, nilS] zero24 (fun _ _ => ⟨⟨rfl, by decide, by decide⟩, ⟨rfl, by decide, by decide⟩, rfl, trivial⟩) rfl fun b4 => st (.as (.cI 0 rfl)) rfl (st (.as (.cI 0 rfl)) rfl (nkQ k1 (.sr fun k2 => st (.load (.t rfl) (i := 3) rfl ty24 rfl (Ss' := [_, _, _]) rfl) rfl (st (.load (.t rfl) (i := 2) rfl ty33 rfl (Ss' := [_, _]) rfl) rfl (st (.load (.t rfl) (i := 1) rfl ty33 rfl (Ss' := [_, _]) rfl) rfl (.callX (lll_with hx hR1 hR hl hG hgw hpos hKd hK hKK hpw hqw hmy) (List.Perm.refl _) (.cons (.t rfl) (.cons (.t rfl) (.cons (.t rfl) .nil))) rfl ?_)))))))
 rintro _ _ ⟨bw, gd, gl, gu, ds, ls, us, rfl, rfl, hB⟩
 refine .cv (Cv.perm perm_box4) ?_
 have hS0 := hB.rs (p := zv m ps) (q := zv n qs) hpos hz.hd0 hN hN1 hz.hB
 refine stM rfl (st (.ext (.t rfl) rfl) rfl (st (.ext (.t rfl) rfl) rfl (stM rfl (stM rfl (nkQ k2 (.w [6,7,8,9,10] rfl (.sq fun k3 => .sr fun k4 => stM rfl (st (.neI (.t rfl) (.cI 0 rfl)) rfl (nkQ k4 (.cd rfl (fun hc1 => ?_) (fun hc1 => ?_)))))))))))
 ·exact absurd rfl hc1
 ·refine .skip (.nk k3 (.sr fun k5 => stM rfl (.callX (lll_run hz hS0 hR hKu hpw hqw hq hpq) perm_box4.symm (.cons (.t rfl) .nil) rfl ?_)))
  rintro _ _ ⟨c, ds', ls', us', k, rfl, rfl, hRk, hS⟩
  refine .cv (Cv.trans (Cv.drop sub_run) (Cv.perm perm_run)) ?_
  have hul := hS.ul
  rw [hB.hd, hB.hl, hB.hu] at hS
  refine nkQ k5 (.w [6,7,8,9] rfl (.sq fun k6 => .drhS (.cons_cons _ (.cons_cons _ (.cons_cons _ (List.Sublist.refl _)))) (.m [] rfl (.so [27] rfl (.nilc (.t rfl)) (.so [28] rfl (.fieldAddr (.t rfl) fld87_0 ty3) (.so [29] rfl (.load1 (.t rfl) (i := 0) rfl ty3 rfl) (.m [] rfl (.so [31] rfl (.nilc (.t rfl)) (.so [32] rfl (.fieldAddr (.t rfl) fld87_0 ty3) (.so [33] rfl (.load1 (.t rfl) (i := 0) rfl ty3 rfl) (.so [30,34] rfl (.build [isI 0, isI 0, nilS] pl24 zero24 (fun _ _ => ⟨⟨rfl, by decide, by decide⟩, ⟨rfl, by decide, by decide⟩, rfl, trivial⟩) (.cons (.t rfl) rfl rfl rfl (.cons (.t rfl) rfl rfl rfl .nil)) (Z'' := [_, _, _]) rfl) (.als2 (n1 := 10) (ds := [11]) (zs := [[isI 0, isI 0, nilS]]) rfl (.cons rfl rfl zero24 (fun _ _ => ⟨⟨rfl, by decide, by decide⟩, ⟨rfl, by decide, by decide⟩, rfl, trivial⟩) .nil) (.cons_cons _ (.cons_cons _ (.cons_cons _ (List.Sublist.refl _)))) (Cs := [_]) rfl (.fn (n := 10) mixed rfl (fun bs hbs => ?_))))))))))))))
  obtain ⟨b5, rfl⟩ := len1 hbs
  refine .memEq (M' := (_ :: _ :: _ :: _ :: _)) rfl (.cv (Cv.wk (.k 6 rfl (.k 7 rfl (.k 8 rfl (.k 9 rfl (.k 35 rfl (.cons (t := 11) (Has.op rfl) .nil))))))) (.store (.t rfl) (.t rfl) (i := 0) rfl ty24 rfl rfl (Ss' := [_, _, _]) rfl (M' := ((some _, cellM [_, _, _]) :: _ :: _ :: _ :: _)) rfl (nkQ k6 (.sq fun k7 => .sq fun k8 => .cv (Cv.growF (Bool × List Nat) (i := 0) (o := 2) rfl rfl rfl) (.memEq (M' := (grMK zc Gr.nil [] :: _ :: _ :: _ :: _ :: _)) rfl (.region (stM rfl (st (.nilc (.t rfl)) rfl (st (.fieldAddr (.t rfl) fld87_3 ty71) rfl (st (.load1 (.t rfl) (i := 2) rfl ty71 rfl) rfl (st (.len sl71 (.t rfl)) rfl (st (.mv (.cI 0 rfl)) rfl (nkQ k8 (.block (.loopF [6,7,8,9,11,39,40] (fun (z : { z : Nat × Gr (Bool × List Nat) // z.1 ≤ us'.length }) => match z with | ⟨(i, g), hi⟩ => [(41, isI (i : Int))]) (fun M => fun (z : { z : Nat × Gr (Bool × List Nat) // z.1 ≤ us'.length }) => match z with | ⟨(i, g), hi⟩ => (grMK zc g ((flU us' i).map nz) :: (some b5, cellM [isI (R : Int), isI (R : Int), isGr g ((flU us' i).map nz).length]) :: (some bw, cellM [isI (R : Int), isGr gd (ds'.map nz).length, isGr gl ls'.length, isGr gu us'.length, isB m, isWords ps, isB n, isWords qs, isI (IntKind.i64.wrap (c : Int))]) :: grM rowV gu us' :: (some b4, cellM [isI 0, isI 0, nilS]) :: (us'.drop i).map rowM)) (fun (z : { z : Nat × Gr (Bool × List Nat) // z.1 ≤ us'.length }) => match z with | ⟨(i, g), hi⟩ => us'.length - i) (⟨(0, Gr.nil), Nat.zero_le _⟩) (Cv.mem (.c 41 rfl ?_ (.l [6,7,8,9,11,39,40] rfl)) ?_) ?_)))))))))))))))
  ·rfl
  ·rfl
  rintro ⟨⟨i, g⟩, hi⟩ K9 hK9
  refine .w [41,6,7,8,9,11,39,40] rfl (.memEq (M' := (grMK zc g ((flU us' i).map nz) :: (some b5, cellM [isI (R : Int), isI (R : Int), isGr g ((flU us' i).map nz).length]) :: (some bw, cellM [isI (R : Int), isGr gd (ds'.map nz).length, isGr gl ls'.length, isGr gu us'.length, isB m, isWords ps, isB n, isWords qs, isI (IntKind.i64.wrap (c : Int))]) :: grM rowV gu us' :: (some b4, cellM [isI 0, isI 0, nilS]) :: (us'.drop i).map rowM)) rfl ?_)
  simp only [] at hi
  have hfll := flU_len hS.hur i hi
  have hiR2 := Nat.mul_le_mul hi (Nat.le_refl R)
  have hRR := side_le hR hR
  rw [hul] at hiR2
  refine .sr fun k10 => st (.ltI (.t rfl) (.t rfl)) rfl (nkQ k10 (.sq fun k11 => .cd rfl (fun hc2 => ?_) (fun hc2 => ?_)))
  ·obtain ⟨r, hr⟩ : ∃ r, us'[i]? = some r := ⟨_, List.getElem?_eq_getElem (by omega)⟩
   have hrR := hS.hur r (List.mem_of_getElem? hr)
   refine .skip (.nk k11 (.sq fun k12 => .block (.sr fun k13 => st (.ixGr sl71 ty22 (.t rfl) (.t rfl) (by omega)) rfl (st (.loadGM (.t rfl) (i := 3) rfl ty22 hr) rfl (stM rfl (nkQ k13 (.region (st (.fieldAddr (.t rfl) fld24_2 ty22) rfl (st (.load1 (.t rfl) (i := 1) rfl ty22 rfl) rfl (stM rfl (.cv (Cv.trans (Cv.memEq (M' := _ :: _ :: _ :: _ :: _ :: rowM r :: (us'.drop (i + 1)).map rowM) (by rw [drop_cons hr])) (Cv.trans (Cv.freezeGK (t := 47) (i := 5) (ys := r.2.map nz) zc_len rfl rfl rfl) (Cv.memEq (M' := _ :: _ :: _ :: _ :: _ :: (us'.drop (i + 1)).map rowM) rfl))) (.appendGK (fk := zc) (u := (false, [])) zc_len (by decide) (fun _ => inferInstance) sl22 ty33 zero33 (fun _ _ => ⟨rfl, nilM _ _, trivial⟩) by33 (.t rfl) (i := 0) rfl (.t rfl) (by rw [List.length_map, List.length_map, hfll, hrR]; omega) (by rw [List.length_map, hrR]; omega) rfl fun gr1 => ?_))))))))))))
   refine .memEq (M' := (grMK _ _ _ :: _ :: _ :: _ :: _ :: _)) rfl (st (.fieldAddr (.t rfl) fld24_2 ty22) rfl (.store (.t rfl) (.t rfl) (i := 1) rfl ty22 rfl rfl (Ss' := [_, _, _]) rfl (M' := (_ :: (some _, cellM [_, _, _]) :: _ :: _ :: _ :: _)) rfl (nl (.bln (.nk k12 (.region (st (.addI (.t rfl) (.cI 1 rfl) (by first | omega | assumption) (by first | omega | assumption)) rfl (stM rfl (nl (.thn ?_))))))))))
   refine hK9 (⟨(i + 1, gr1), by show i + 1 ≤ us'.length; omega⟩) _ _ ?_ (Cv.mem (.c 41 rfl ?_ (.l [6,7,8,9,11,39,40] rfl)) ?_)
   ·show us'.length - (i + 1) < us'.length - i; omega
   ·exact isI_eq (by omega)
   ·exact fl_step hr
  ·have hiR : i = us'.length := by omega
   have hfl := flU_all (us := us') (i := i) (by omega)
   refine .exit (.the (.the (.blh (.nk k7 (.sq fun k14 => .cv (Cv.freezeF (k := 2) (i := 0) (j := 0) (o := 2) rfl rfl rfl rfl (gr_lenK zc_len) (gr_takeK zc_len) (Ss' := [_, _, SlK 2 zc ((flU us' i).map nz)]) rfl) (.memEq (M' := ((some _, cellM [_, _, SlK 2 zc ((flU us' i).map nz)]) :: _ :: _ :: _ :: _)) rfl (.w [6,7,8,9,11,39,40,41,42] rfl (.cv (Cv.memEq (M' := [_, _, _, _]) (by rw [List.drop_eq_nil_of_le (by omega)]; rfl)) ?_))))))))
   refine .drh [true, true, true, false] (Ms := [_, _, _]) rfl (.so [] rfl (.load (.t rfl) (i := 0) rfl ty24 rfl (Ss' := [_, _, _]) rfl) (.m [] rfl (.so [52] rfl (.nilc (.t rfl)) (.so [53] rfl (.fieldAddr (.t rfl) fld87_6 ty3) (.so [54] rfl (.load1 (.t rfl) (i := 1) rfl ty3 rfl) (.mid2 (.cons_cons _ (.cons_cons _ (.cons_cons _ (.cons _ .slnil)))) (.st0 [51] rfl rfl (by kernel_rfl) (by kernel_rfl) (StS.store (.t rfl) (.t rfl) (i := 3) rfl ty24 rfl rfl (Ss' := [_, _, _]) rfl (M' := [_, _, _, (some _, cellM [_, _, _])]) rfl) (.cons_cons _ (.cons_cons _ (.cons_cons _ (.cons _ .slnil)))) (.fin0 (n := 6) mixed rfl (by kernel_rfl) (by kernel_rfl) (by kernel_rfl) (.w [6,7,8,55] rfl (stM rfl (st (.as (.cI 0 rfl)) rfl (nkQ k14 (.ret (rtXND (.cons _ (.cons _ (.cons _ (.cons _ .slnil)))) (.inl rfl) Tryz.results33 rfl rfl (.cell rfl (i := 3) rfl ty24 rfl rfl (.tmp (.t rfl) (.tmp (.t rfl) .nil))) (⟨c, ds', ls', us', k, by rw [← hfl], rfl, hRk, hS⟩)))))))))))))))
theorem lll_begun0 {xs : List (Bool × List Nat)} (hl : xs.length = 0) : CtrX Tryz.prog 78 [isM 0 0 xs] ([]) (fun S M => ∃ bw, S = isTup [isPtr bw 0, isI 0] ∧ M = [(some bw, cellM [isI 0, SlE 2 zc [nz 1], nilS, nilS, isB false, SlM isU [], isB false, SlM isU [], isI 0])]) := by
 refine CtrX.i Tryz.func78 rfl Tryz.ntmps78 fun w0 F0 => .w [0] rfl ?_
 have hfo : formB (0 : Int) (0 : Int) xs.length = true := formB_true (R := 0) (C := 0) (by decide) (by decide) hl
 have hb0 : Bd (vals xs) 0 := by obtain rfl := List.eq_nil_of_length_eq_zero hl; exact Bd.nil 0
 refine .sr fun k1 => .box (.t rfl) rfl fun b1 => st (.as Has.cP) rfl (st (.as (.cI 0 rfl)) rfl (nkQ k1 (.sq fun k2 => .block (.sr fun k3 => st (.load (.t rfl) (i := 0) rfl ty24 rfl (Ss' := [_, _, _]) rfl) rfl (st (.eq (.call (zmat_Formed) (.cons (.t rfl) .nil)) ((show isB _ = isB true from isB_eq (hfo)))) rfl (st (.not (.t rfl)) rfl (stM rfl (stF rfl rfl (fun hg => .fieldAddr (.t rfl) fld24_0 ty3) rfl (stF rfl rfl (fun hg => .load1 (Has.g rfl hg) (i := 0) rfl ty3 rfl) rfl (stF rfl rfl (fun hg => .fieldAddr (.t rfl) fld24_1 ty3) rfl (stF rfl rfl (fun hg => .load1 (Has.g rfl hg) (i := 0) rfl ty3 rfl) rfl (stF rfl rfl (fun hg => .neI (Has.g rfl hg) (Has.g rfl hg)) rfl (st (.pickOr (.t rfl) (fun h => Has.g rfl (ng h))) rfl (stM rfl (nkQ k3 (.w [1,2,3,8] rfl (.cd rfl (fun hc1 => ?_) (fun hc1 => ?_))))))))))))))))))
 ·exfalso; simp at hc1
 ·refine .sr fun k4 => st (.load (.t rfl) (i := 0) rfl ty24 rfl (Ss' := [_, _, _]) rfl) rfl (st (.call (lll_own (R := 0) hb0 (by decide) (by decide) hl (fun i k hi => absurd hi (Nat.not_lt_zero _))) (.cons (.t rfl) .nil)) rfl (st (.not (.t rfl)) rfl (stM rfl (nkQ k4 (.cd rfl (fun hc2 => ?_) (fun hc2 => ?_))))))
  ·exfalso; simp at hc2
  ·refine .skip (.bln (.nk k2 (.w [1,2,3] rfl (.sq fun k5 => .dr (.so [] rfl (.fieldAddr (.t rfl) fld24_0 ty3) (.so [23] rfl (.load1 (.t rfl) (i := 0) rfl ty3 rfl) (.so [] rfl (.call (zint_Of) (.cons (.cI 1 rfl) .nil)) (.so [25] rfl (.buildSE (fk := zc) [isB false, SlM isU []] ([nz 1]) sl22 ty33 zero33 (fun _ _ => ⟨rfl, nilM _ _, trivial⟩) rfl rfl (.cons (.t rfl) rfl rfl rfl .nil) rfl rfl) (.fn (n := 4) mixed (.w [1,2,3,24,26] rfl (st (.build [isI 0, nilS, nilS, nilS, isB false, SlM isU [], isB false, SlM isU [], isI 0] pl87 zero87 (fun _ _ => ⟨⟨rfl, by decide, by decide⟩, rfl, rfl, rfl, rfl, nilM _ _, rfl, nilM _ _, ⟨rfl, by decide, by decide⟩, trivial⟩) (.cons (.t rfl) rfl rfl rfl (.cons (.t rfl) rfl rfl rfl .nil)) (Z'' := [_, _, _, _, _, _, _, _, _]) rfl) rfl (.box (.t rfl) rfl fun b2 => stM rfl (nkQ k5 (.sq fun k6 => .sr fun k7 => st (.fieldAddr (.t rfl) fld24_0 ty3) rfl (st (.load1 (.t rfl) (i := 1) rfl ty3 rfl) rfl (st (.mv (.cI 0 rfl)) rfl (nkQ k7 (.w [1,2,3,4,30,31] rfl (.block (.loopF [1,4,30] (fun (_ : Unit) => [(31, isI 0)]) (fun M => fun (_ : Unit) => M) (fun (_ : Unit) => 0) (()) (Cv.mem (.c 31 rfl ?_ (.l [1,4,30] rfl)) ?_) ?_))))))))))))))))))))
   ·rfl
   ·rfl
   rintro _ K8 hK8
   refine .w [31,1,4,30] rfl (.sr fun k9 => st (.ltI (.t rfl) (.t rfl)) rfl (nkQ k9 (.sq fun k10 => .cd rfl (fun hc3 => ?_) (fun hc3 => ?_))))
   ·exfalso; omega
   ·refine .exit (.the (.the (.blh (.nk k6 (.sr fun k11 => stM rfl (stM rfl (st (.as (.cI 0 rfl)) rfl (nkQ k11 (.w [2,3] rfl (.ret (rtXND (.cons_cons _ (.cons _ .slnil)) (.inl rfl) Tryz.results78 rfl rfl (.tmp (.t rfl) (.tmp (.t rfl) .nil)) (⟨b2, rfl, rfl⟩))))))))))))
theorem lll_with0 {xs : List (Bool × List Nat)} (hl : xs.length = 0) {m n : Bool} {ps qs : List Nat} (hpw : (List.length (words (val ps))) ≤ 1000) (hqw : (List.length (words (val qs))) ≤ 1000) (hmy : (decide (0 < sgn (zv n qs)) && decide (0 < cmpZ (zv m ps * 4) (zv n qs)) && decide (cmpZ (zv m ps) (zv n qs) < 0)) = true) : CtrX Tryz.prog 55 [isM 0 0 xs, Flat [isB m, isWords ps], Flat [isB n, isWords qs]] ([]) (fun S M => ∃ bw, S = isTup [isPtr bw 0, isI 0] ∧ M = [(some bw, cellM [isI 0, SlE 2 zc [nz 1], nilS, nilS, isB m, isWords ps, isB n, isWords qs, isI 0])]) := by
 refine CtrX.i Tryz.func55 rfl Tryz.ntmps55 fun w0 F0 => .w [0,1,2] rfl (.fact (Has.okZ (Has.t (t := 1) rfl)) fun okz1 => .fact (Has.okZ (Has.t (t := 2) rfl)) fun okz2 => ?_)
 have hfo : formB (0 : Int) (0 : Int) xs.length = true := formB_true (R := 0) (C := 0) (by decide) (by decide) hl
 refine .sr fun k1 => .box (.t rfl) rfl fun b1 => .box (.t rfl) rfl fun b2 => .box (.t rfl) rfl fun b3 => st (.as Has.cP) rfl (st (.as (.cI 0 rfl)) rfl (nkQ k1 (.sq fun k2 => .block (.sr fun k3 => st (.load (.t rfl) (i := 2) rfl ty24 rfl (Ss' := [_, _, _]) rfl) rfl (st (.eq (.call (zmat_Formed) (.cons (.t rfl) .nil)) ((show isB _ = isB true from isB_eq (hfo)))) rfl (st (.not (.t rfl)) rfl (stM rfl (stF rfl rfl (fun hg => .fieldAddr (.t rfl) fld24_0 ty3) rfl (stF rfl rfl (fun hg => .load1 (Has.g rfl hg) (i := 2) rfl ty3 rfl) rfl (stF rfl rfl (fun hg => .fieldAddr (.t rfl) fld24_1 ty3) rfl (stF rfl rfl (fun hg => .load1 (Has.g rfl hg) (i := 2) rfl ty3 rfl) rfl (stF rfl rfl (fun hg => .neI (Has.g rfl hg) (Has.g rfl hg)) rfl (st (.pickOr (.t rfl) (fun h => Has.g rfl (ng h))) rfl (stM rfl (nkQ k3 (.w [3,4,5,6,7,10] rfl (.cd rfl (fun hc1 => ?_) (fun hc1 => ?_))))))))))))))))))
 ·exfalso; simp at hc1
 ·refine .sr fun k4 => st (.load (.t rfl) (i := 1) rfl ty33 rfl (Ss' := [_, _]) rfl) rfl (st (.load (.t rfl) (i := 0) rfl ty33 rfl (Ss' := [_, _]) rfl) rfl (st (.eq (.call (lll_may (by omega) (by omega)) (.cons (.t rfl) (.cons (.t rfl) .nil))) ((show isB _ = isB true from isB_eq (hmy)))) rfl (st (.not (.t rfl)) rfl (stM rfl (nkQ k4 (.w [3,4,5,6,7,21] rfl (.cd rfl (fun hc2 => ?_) (fun hc2 => ?_))))))))
  ·exfalso; simp at hc2
  ·refine .skip (.bln (.nk k2 (.sr fun k5 => st (.load (.t rfl) (i := 2) rfl ty24 rfl (Ss' := [_, _, _]) rfl) rfl (.callX (lll_begun0 hl) (List.Perm.refl _) (.cons (.t rfl) .nil) rfl ?_))))
   rintro _ _ ⟨bw, rfl, rfl⟩
   refine .memEq (M' := [(some bw, cellM [isI 0, SlE 2 zc [nz 1], nilS, nilS, isB false, SlM isU [], isB false, SlM isU [], isI 0]), (some b3, cellM [isB n, isWords qs]), (some b2, cellM [isB m, isWords ps]), (some b1, cellM [isI 0, isI 0, SlK 2 zc xs])]) rfl (stM rfl (st (.ext (.t rfl) rfl) rfl (st (.ext (.t rfl) rfl) rfl (stM rfl (stM rfl (nkQ k5 (.w [4,5,6,7,8,9] rfl (.sq fun k6 => .sr fun k7 => stM rfl (st (.eqI (.t rfl) (.cI 0 rfl)) rfl (nkQ k7 (.cd rfl (fun hc3 => ?_) (fun hc3 => ?_))))))))))))
   ·refine .drh [false, true, true, true] (Ms := [_, _, _]) rfl (.m [] rfl (.m [] rfl (.so [] rfl (.load (.t rfl) (i := 1) rfl ty33 rfl (Ss' := [_, _]) rfl) (.so [] rfl (.load (.t rfl) (i := 0) rfl ty33 rfl (Ss' := [_, _]) rfl) (.so [33] rfl (.nilc (.t rfl)) (.so [37] rfl (.fieldAddr (.t rfl) fld87_4 ty33) (.mid2 (.cons _ (.cons_cons _ (.cons_cons _ (.cons_cons _ .slnil)))) (.st0 [35,38] rfl rfl (by kernel_rfl) (by kernel_rfl) (StS.store (.t rfl) (.t rfl) (i := 0) rfl ty33 rfl rfl (Ss' := [_, _, _, _, _, _, _, _, _]) rfl (M' := [(some _, cellM [_, _, _, _, _, _, _, _, _]), _, _, _]) rfl) (.cons _ (.cons_cons _ (.cons_cons _ (.cons_cons _ .slnil)))) (.fin0 (n := 7) mixed rfl (by kernel_rfl) (by kernel_rfl) (by kernel_rfl) (.w [6,7,8,9,34,36] rfl (st (.nilc (.t rfl)) rfl (st (.fieldAddr (.t rfl) fld87_5 ty33) rfl (.store (.t rfl) (.t rfl) (i := 0) rfl ty33 rfl rfl (Ss' := [_, _, _, _, _, _, _, _, _]) rfl (M' := [(some _, cellM [_, _, _, _, _, _, _, _, _]), _, _, _]) rfl (nkQ k6 (.sr fun k8 => stM rfl (stM rfl (stM rfl (stM rfl (nkQ k8 (.w [6,7] rfl (.ret (rtXND (.cons_cons _ (.cons _ (.cons _ (.cons _ .slnil)))) (.inl rfl) Tryz.results55 rfl rfl (.tmp (.t rfl) (.tmp (.t rfl) .nil)) (⟨bw, rfl, rfl⟩)))))))))))))))))))))))
   ·exact absurd rfl hc3
theorem lll_run0 {bw : Nat} {m n : Bool} {ps qs : List Nat} : CtrX Tryz.prog 56 [isPtr bw 0] ([(some bw, cellM [isI 0, SlE 2 zc [nz 1], nilS, nilS, isB m, isWords ps, isB n, isWords qs, isI 0])]) (fun S M => S = isTup [] ∧ M = [(some bw, cellM [isI 0, SlE 2 zc [nz 1], nilS, nilS, isB m, isWords ps, isB n, isWords qs, isI 0])]) := by
 refine CtrX.i Tryz.func56 rfl Tryz.ntmps56 fun w0 F0 => .w [0] rfl (.sr fun k1 => st (.as (.cI 1 rfl)) rfl (nkQ k1 (.block (.loopF [0] (fun (_ : Unit) => [(2, isI 1)]) (fun M => fun (_ : Unit) => M) (fun (_ : Unit) => 0) (()) (Cv.mem (.c 2 rfl ?_ (.l [0] rfl)) ?_) ?_))))
 ·rfl
 ·rfl
 rintro _ K2 hK2
 refine .w [2,0] rfl (.sq fun k3 => .sr fun k4 => stM rfl (stM rfl (st (.nilc (.t rfl)) rfl (st (.fieldAddr (.t rfl) fld87_0 ty3) rfl (st (.load1 (.t rfl) (i := 0) rfl ty3 rfl) rfl (st (.ltI (.t rfl) (.t rfl)) rfl (nkQ k4 (.cd rfl (fun hc1 => ?_) (fun hc1 => ?_)))))))))
 ·exfalso; omega
 ·refine .exit (.the (.the (.blh (rtX0 (.inr rfl) Tryz.results56 rfl (⟨rfl, rfl⟩)))))
theorem lll_Reduce0 {xs : List (Bool × List Nat)} (hl : xs.length = 0) {m n : Bool} {ps qs : List Nat} (hpw : (List.length (words (val ps))) ≤ 1000) (hqw : (List.length (words (val qs))) ≤ 1000) (hmy : (decide (0 < sgn (zv n qs)) && decide (0 < cmpZ (zv m ps * 4) (zv n qs)) && decide (cmpZ (zv m ps) (zv n qs) < 0)) = true) : CtrX Tryz.prog 33 [isM 0 0 xs, Flat [isB m, isWords ps], Flat [isB n, isWords qs]] ([]) (fun S M => S = isTup [isM0, isI 0, isI 0] ∧ M = []) := by
 refine CtrX.i Tryz.func33 rfl Tryz.ntmps33 fun w0 F0 => .w [0,1,2] rfl (.fact (Has.okZ (Has.t (t := 1) rfl)) fun okz1 => .fact (Has.okZ (Has.t (t := 2) rfl)) fun okz2 => .sr fun k1 => .box (.t rfl) rfl fun b1 => .box (.t rfl) rfl fun b2 => .box (.t rfl) rfl fun b3 => .alloc [isI 0, isI 0, SlK 2 zc ([] : List (Bool × List Nat))] zero24 (fun _ _ => ⟨⟨rfl, by decide, by decide⟩, ⟨rfl, by decide, by decide⟩, nilK, trivial⟩) rfl fun b4 => st (.as (.cI 0 rfl)) rfl (st (.as (.cI 0 rfl)) rfl (nkQ k1 (.sr fun k2 => st (.load (.t rfl) (i := 3) rfl ty24 rfl (Ss' := [_, _, _]) rfl) rfl (st (.load (.t rfl) (i := 2) rfl ty33 rfl (Ss' := [_, _]) rfl) rfl (st (.load (.t rfl) (i := 1) rfl ty33 rfl (Ss' := [_, _]) rfl) rfl (.callX (lll_with0 hl hpw hqw hmy) (List.Perm.refl _) (.cons (.t rfl) (.cons (.t rfl) (.cons (.t rfl) .nil))) rfl ?_)))))))
 rintro _ _ ⟨bw, rfl, rfl⟩
 refine .memEq (M' := [(some bw, cellM [isI 0, SlE 2 zc [nz 1], nilS, nilS, isB m, isWords ps, isB n, isWords qs, isI 0]), (some b4, cellM [isI 0, isI 0, SlK 2 zc []]), (some b3, cellM [isB n, isWords qs]), (some b2, cellM [isB m, isWords ps]), (some b1, cellM [isI 0, isI 0, SlK 2 zc xs])]) rfl (stM rfl (st (.ext (.t rfl) rfl) rfl (st (.ext (.t rfl) rfl) rfl (stM rfl (stM rfl (nkQ k2 (.w [6,7,8,9,10] rfl (.sq fun k3 => .sr fun k4 => stM rfl (st (.neI (.t rfl) (.cI 0 rfl)) rfl (nkQ k4 (.cd rfl (fun hc1 => ?_) (fun hc1 => ?_))))))))))))
 ·exact absurd rfl hc1
 ·refine .skip (.nk k3 (.sr fun k5 => stM rfl (.callX lll_run0 (List.Perm.refl _) (.cons (.t rfl) .nil) rfl ?_)))
  rintro _ _ ⟨rfl, rfl⟩
  refine .memEq (M' := [(some bw, cellM [isI 0, SlE 2 zc [nz 1], nilS, nilS, isB m, isWords ps, isB n, isWords qs, isI 0]), (some b4, cellM [isI 0, isI 0, SlK 2 zc []]), (some b3, cellM [isB n, isWords qs]), (some b2, cellM [isB m, isWords ps]), (some b1, cellM [isI 0, isI 0, SlK 2 zc xs])]) rfl (nkQ k5 (.w [6,7,8,9] rfl (.sq fun k6 => .drh [true, true, true, true, true] (Ms := [_, _, _, _, _]) rfl (.m [] rfl (.so [27] rfl (.nilc (.t rfl)) (.so [28] rfl (.fieldAddr (.t rfl) fld87_0 ty3) (.so [29] rfl (.load1 (.t rfl) (i := 0) rfl ty3 rfl) (.m [] rfl (.so [31] rfl (.nilc (.t rfl)) (.so [32] rfl (.fieldAddr (.t rfl) fld87_0 ty3) (.so [33] rfl (.load1 (.t rfl) (i := 0) rfl ty3 rfl) (.so [30,34] rfl (.build [isI 0, isI 0, SlK 2 zc ([] : List (Bool × List Nat))] pl24 zero24 (fun _ _ => ⟨⟨rfl, by decide, by decide⟩, ⟨rfl, by decide, by decide⟩, nilK, trivial⟩) (.cons (.t rfl) rfl rfl rfl (.cons (.t rfl) rfl rfl rfl .nil)) (Z'' := [_, _, _]) rfl) (.als2 (n1 := 10) (ds := [11]) (zs := [[isI 0, isI 0, SlK 2 zc ([] : List (Bool × List Nat))]]) rfl (.cons rfl rfl zero24 (fun _ _ => ⟨⟨rfl, by decide, by decide⟩, ⟨rfl, by decide, by decide⟩, nilK, trivial⟩) .nil) (.cons_cons _ (.cons_cons _ (.cons_cons _ (.cons_cons _ (.cons_cons _ .slnil))))) (Cs := [_]) rfl (.fn (n := 10) mixed rfl (fun bs hbs => ?_)))))))))))))))
  obtain ⟨b5, rfl⟩ := len1 hbs
  refine .memEq (M' := [_, _, _, _, _, _]) rfl (.cv (Cv.wk (.k 6 rfl (.k 7 rfl (.k 8 rfl (.k 9 rfl (.k 35 rfl (.cons (t := 11) (Has.op rfl) .nil))))))) (.store (.t rfl) (.t rfl) (i := 0) rfl ty24 rfl rfl (Ss' := [_, _, _]) rfl (M' := [(some _, cellM [_, _, _]), _, _, _, _, _]) rfl (nkQ k6 (.sq fun k7 => .sr fun k8 => stM rfl (st (.nilc (.t rfl)) rfl (st (.fieldAddr (.t rfl) fld87_3 ty71) rfl (st (.load1 (.t rfl) (i := 1) rfl ty71 rfl) rfl (st (.len sl71 (.t rfl)) rfl (st (.mv (.cI 0 rfl)) rfl (nkQ k8 (.block (.loopF [6,7,8,9,11,39,40] (fun (_ : Unit) => [(41, isI 0)]) (fun M => fun (_ : Unit) => M) (fun (_ : Unit) => 0) (()) (Cv.mem (.c 41 rfl ?_ (.l [6,7,8,9,11,39,40] rfl)) ?_) ?_))))))))))))
  ·rfl
  ·rfl
  rintro _ K9 hK9
  refine .w [41,6,7,8,9,11,39,40] rfl (.sr fun k10 => st (.ltI (.t rfl) (.t rfl)) rfl (nkQ k10 (.sq fun k11 => .cd rfl (fun hc2 => ?_) (fun hc2 => ?_))))
  ·exfalso; omega
  ·refine .exit (.the (.the (.blh (.nk k7 (.sq fun k12 => .drh [true, true, false, true, true, true] (Ms := [_, _, _, _, _]) rfl (.so [] rfl (.load (.t rfl) (i := 0) rfl ty24 rfl (Ss' := [_, _, _]) rfl) (.m [] rfl (.so [52] rfl (.nilc (.t rfl)) (.so [53] rfl (.fieldAddr (.t rfl) fld87_6 ty3) (.so [54] rfl (.load1 (.t rfl) (i := 1) rfl ty3 rfl) (.mid2 (.cons_cons _ (.cons_cons _ (.cons _ (.cons_cons _ (.cons_cons _ (.cons_cons _ .slnil)))))) (.st0 [51] rfl rfl (by kernel_rfl) (by kernel_rfl) (StS.store (.t rfl) (.t rfl) (i := 2) rfl ty24 rfl rfl (Ss' := [_, _, _]) rfl (M' := [_, _, (some _, cellM [_, _, _]), _, _, _]) rfl) (.cons_cons _ (.cons_cons _ (.cons _ (.cons_cons _ (.cons_cons _ (.cons_cons _ .slnil)))))) (.fin0 (n := 6) mixed rfl (by kernel_rfl) (by kernel_rfl) (by kernel_rfl) (.w [6,7,8,55] rfl (stM rfl (st (.as (.cI 0 rfl)) rfl (nkQ k12 (.ret (rtXND (.cons _ (.cons _ (.cons _ (.cons _ (.cons _ (.cons _ .slnil)))))) (.inl rfl) Tryz.results33 rfl rfl (.cell rfl (i := 2) rfl ty24 rfl rfl (.tmp (.t rfl) (.tmp (.t rfl) .nil))) (⟨rfl, rfl⟩))))))))))))))))))))
end Go.Proofs.YtlebmedapfncoaaGreat
namespace Go.Ch
open Go.Dt Go.Dt.RowF
/-! ### polynomials as functions -/
def pe (c : Nat → Int) (d : Nat) (x : Int) : Int := sm d fun i => c i * x ^ i
theorem pe_left (c : Nat → Int) (d : Nat) (x : Int) : pe c (d + 1) x = c 0 + x * pe (fun i => c (i + 1)) d x := by
 unfold pe
 rw [sm_left, Int.pow_zero, Int.mul_one, ← sm_smul]
 congr 1
 exact sm_congr fun i _ => by rw [Int.pow_succ]; grind
theorem pe_lin (x y : Int) (c e : Nat → Int) (d : Nat) (z : Int) : pe (fun i => x * c i + y * e i) d z = x * pe c d z + y * pe e d z := by
 unfold pe
 rw [← sm_lin]
 exact sm_congr fun i _ => by grind
theorem pe_succ (c : Nat → Int) (d : Nat) (x : Int) : pe c (d + 1) x = pe c d x + c d * x ^ d := rfl
theorem pe_congr {c e : Nat → Int} {d : Nat} (h : ∀ i, i < d → c i = e i) (x : Int) : pe c d x = pe e d x := sm_congr fun i hi => by rw [h i hi]
def PL (n : Nat) (f : Int → Int) (t : Int) : Prop := ∃ c : Nat → Int, (∀ x, f x = pe c (n + 1) x) ∧ c n = t
theorem PL.const (a : Int) : PL 0 (fun _ => a) a := ⟨fun _ => a, fun x => by show a = 0 + a * x ^ 0; rw [Int.pow_zero]; omega, rfl⟩
theorem PL.up {n : Nat} {f : Int → Int} {t : Int} (h : PL n f t) : PL (n + 1) f 0 := by
 obtain ⟨c, hc, _⟩ := h
 refine ⟨fun i => if i ≤ n then c i else 0, fun x => ?_, if_neg (by omega)⟩
 rw [pe_succ, if_neg (by omega), Int.zero_mul, Int.add_zero, hc]
 exact pe_congr (fun i hi => (if_pos (by omega)).symm) x
theorem PL.lin {n : Nat} {f g : Int → Int} {s t : Int} (a b : Int) (hf : PL n f s) (hg : PL n g t) : PL n (fun x => a * f x + b * g x) (a * s + b * t) := by
 obtain ⟨c, hc, rfl⟩ := hf
 obtain ⟨e, he, rfl⟩ := hg
 exact ⟨fun i => a * c i + b * e i, fun x => by dsimp only; rw [pe_lin, hc, he], rfl⟩
theorem PL.shift {n : Nat} {f : Int → Int} {t : Int} (h : PL n f t) : PL (n + 1) (fun x => x * f x) t := by
 obtain ⟨c, hc, rfl⟩ := h
 refine ⟨fun i => if i = 0 then 0 else c (i - 1), fun x => ?_, by dsimp only; rw [if_neg (by omega)]; rfl⟩
 dsimp only
 rw [pe_left, if_pos rfl, Int.zero_add, hc]
 congr 1
theorem PL.mul {n : Nat} {g : Int → Int} {t : Int} (a b : Int) (h : PL n g t) : PL (n + 1) (fun x => (a * x + b) * g x) (a * t) := by
 have := PL.lin a b h.shift h.up
 rw [Int.mul_zero, Int.add_zero] at this
 obtain ⟨c, hc, ht⟩ := this
 exact ⟨c, fun x => by rw [← hc]; dsimp only; grind, ht⟩
theorem PL.zero (n : Nat) : PL n (fun _ => 0) 0 := ⟨fun _ => 0, fun x => by unfold pe; rw [sm_zero fun i _ => Int.zero_mul _], rfl⟩
theorem PL.sum {n : Nat} {f : Nat → Int → Int} {t : Nat → Int} : ∀ {m : Nat}, (∀ k, k < m → PL n (f k) (t k)) → PL n (fun x => sm m fun k => f k x) (sm m t)
  | 0, _ => PL.zero n
  | m + 1, h => by
    have h1 := PL.sum (m := m) fun k hk => h k (by omega)
    have h2 := PL.lin 1 1 h1 (h m (by omega))
    obtain ⟨c, hc, ht⟩ := h2
    exact ⟨c, fun x => by rw [← hc]; dsimp only; show sm m (fun k => f k x) + f m x = _; omega, by rw [ht]; show _ = sm m t + t m; omega⟩
theorem PL.det : ∀ (n : Nat) (a b : MatF), PL n (fun x => Go.Dt.det n fun i j => a i j * x + b i j) (Go.Dt.det n a)
  | 0, a, b => PL.const 1
  | n + 1, a, b => by
    have h : PL (n + 1) (fun x => sm (n + 1) fun k => sg k * ((a 0 k * x + b 0 k) * Go.Dt.det n fun i j => a (i + 1) (skip k j) * x + b (i + 1) (skip k j))) (sm (n + 1) fun k => sg k * (a 0 k * Go.Dt.det n fun i j => a (i + 1) (skip k j))) :=
      PL.sum (f := fun k x => sg k * ((a 0 k * x + b 0 k) * Go.Dt.det n fun i j => a (i + 1) (skip k j) * x + b (i + 1) (skip k j))) (t := fun k => sg k * (a 0 k * Go.Dt.det n fun i j => a (i + 1) (skip k j))) fun k _ => by
        have h1 := PL.lin (sg k) 0 (PL.mul (a 0 k) (b 0 k) (PL.det n (fun i j => a (i + 1) (skip k j)) fun i j => b (i + 1) (skip k j))) (PL.zero (n + 1))
        obtain ⟨c, hc, ht⟩ := h1
        exact ⟨c, fun x => by rw [← hc]; dsimp only; omega, by rw [ht]; omega⟩
    exact h
/-! ### the characteristic polynomial -/
def xm (A : MatF) (x : Int) : MatF := fun i j => one i j * x + -(A i j)
theorem cp_ex (n : Nat) (A : MatF) : ∃ c : Nat → Int, (∀ x, det n (xm A x) = pe c (n + 1) x) ∧ c n = 1 := by
 have := PL.det n one fun i j => -(A i j)
 rw [det_one] at this
 exact this
noncomputable def cp (n : Nat) (A : MatF) : Nat → Int := Classical.choose (cp_ex n A)
/-! ### the trace -/
end Go.Ch
namespace Go.Tr
open Go.Nt Go.Pz Go.Mz Go.En Go.Hn Go.Hp Go.Dt Go.Br Go.Ch
theorem run_last {s0 : BS} (h0 : s0.ps = []) : ∀ {c : Nat} {s : BS}, BRun s0 c s → s.ps.length ≤ c ∧ (c ≤ s.ps.length → 0 < c → ∃ r, s.rows[c - 1]? = some r ∧ cf r (c - 1) = s.last) := by
  intro c s h
  induction h with
  | zero => exact ⟨by rw [h0]; exact Nat.le_refl _, fun _ h => absurd h (Nat.lt_irrefl _)⟩
  | @step c s s' h hs ih =>
    rcases hs with ⟨rfl, _⟩ | ⟨i, r, t, sw, hti, hi, ht, hne, hsw, k1, k2, k3, k4, k5⟩
    · exact ⟨Nat.le_succ_of_le ih.1, fun h => by have := ih.1; omega⟩
    · refine ⟨by rw [k3, List.length_append]; have := ih.1; show _ + 1 ≤ _; omega, fun hc _ => ?_⟩
      rw [k3, List.length_append] at hc
      change c + 1 ≤ s.ps.length + 1 at hc
      have e : s.ps.length = c := by have := ih.1; omega
      refine ⟨r, ?_, by rw [k4]; rfl⟩
      rw [Nat.add_sub_cancel, k2 c, if_neg (by omega), hsw]
      have hil : i < s.rows.length := Go.Hn.lt_of_some hi
      have htl : s.ps.length < s.rows.length := Go.Hn.lt_of_some ht
      split
      · next h => rw [← e, ← h]; exact hi
      · rw [← e]; exact List.getElem?_set_self (by rw [List.length_set]; exact htl)
def MulB (R C K : Nat) (L : List Int) (b : Int) : Prop := 0 < b ∧ (List.length (words b.natAbs)) ≤ (K + 1) * 2 ^ R ∧ C ≤ R ∧ ∃ q : List Nat, q.length = C ∧ (∀ x ∈ q, x < R) ∧ q.Nodup ∧ b = ((mn (mf C L) q (List.range C).reverse).natAbs : Int)
theorem run_mul {R C K : Nat} {L : List Int} {rs : List Row} {ps : List Nat} {last : Int} {odd : Bool} (h : RunI ⟨rowsOf R C L, [], 1, false⟩ C K R C rs ps last odd) (hp : ps.length = C) : MulB R C K L ((last.natAbs : Nat) : Int) ∧ (0 < C → ∃ r, rs[C - 1]? = some r ∧ cf r.2 (C - 1) = last) := by
  obtain ⟨q, hq⟩ := BI.all (BI.start (mf C L) (R := R) (C := C) (L := L) fun _ _ _ _ => rfl) h.run (Nat.le_refl _)
  have hps : ps = List.range C := hq.psl.eq_of_length_le (by rw [List.length_range]; exact Nat.le_of_eq hp.symm)
  have hl := hq.hl
  have h0 := hq.h0
  change last = mn (mf C L) (q.take ps.length).reverse ps.reverse at hl
  change last ≠ 0 at h0
  have hR : ps.length ≤ R := hq.hps
  refine ⟨⟨by omega, ?_, by omega, (q.take ps.length).reverse, ?_, fun x hx => hq.lt x (List.mem_of_mem_take (List.mem_reverse.1 hx)), (List.reverse_perm _).nodup_iff.2 (hq.nd.sublist (List.take_sublist _ _)), ?_⟩, fun hC => ?_⟩
  · rw [Int.natAbs_natCast]
    have h1 := h.hl
    have h2 : (K + 1) * 2 ^ ps.length ≤ (K + 1) * 2 ^ R := Nat.mul_le_mul_left _ (Nat.pow_le_pow_right (by decide) hR)
    omega
  · rw [List.length_reverse, List.length_take, hq.hq]; omega
  · rw [← hps, ← hl]
  · obtain ⟨r, hr, e⟩ := (run_last (s0 := ⟨rowsOf R C L, [], 1, false⟩) rfl h.run).2 (Nat.le_of_eq hp.symm) hC
    change (rs.map Prod.snd)[C - 1]? = some r at hr
    rw [List.getElem?_map] at hr
    cases h1 : rs[C - 1]? with
    | none => rw [h1] at hr; cases hr
    | some r1 =>
      rw [h1] at hr
      obtain rfl := Option.some.inj hr
      exact ⟨r1, rfl, e⟩
end Go.Tr
namespace Go.Tr
open Go.Nt Go.Pz Go.Mz Go.En Go.Hn Go.Hp Go.Dt
theorem mn_perm_abs (A : MatF) {cs l1 l2 : List Nat} (h : l1.Perm l2) : ∀ pre : List Nat, (mn A (pre ++ l1) cs).natAbs = (mn A (pre ++ l2) cs).natAbs := by
  induction h with
  | nil => exact fun pre => rfl
  | cons x h ih =>
    intro pre
    have := ih (pre ++ [x])
    rw [List.append_assoc, List.append_assoc] at this; exact this
  | swap x y l =>
    intro pre
    have hlen : (pre ++ y :: x :: l).length = (pre ++ x :: y :: l).length := by simp
    have hp : pre.length + 1 < (pre ++ x :: y :: l).length := by simp only [List.length_append, List.length_cons]; omega
    have hR := det_rowF (pre ++ x :: y :: l).length
    have ea : ∀ (a b : Nat), (pre ++ a :: b :: l).getD pre.length 0 = a := fun a b => by
      rw [List.getD, List.getElem?_append_right (Nat.le_refl _), Nat.sub_self]; rfl
    have eb : ∀ (a b : Nat), (pre ++ a :: b :: l).getD (pre.length + 1) 0 = b := fun a b => by
      rw [List.getD, List.getElem?_append_right (by omega), show pre.length + 1 - pre.length = 1 by omega]; rfl
    have ec : ∀ (i : Nat), i ≠ pre.length → i ≠ pre.length + 1 → (pre ++ y :: x :: l).getD i 0 = (pre ++ x :: y :: l).getD i 0 := fun i h1 h2 => by
      rw [List.getD, List.getD]
      rcases Nat.lt_or_ge i pre.length with h3 | h3
      · rw [List.getElem?_append_left h3, List.getElem?_append_left h3]
      · obtain ⟨d, rfl⟩ : ∃ d, i = pre.length + (d + 2) := ⟨i - pre.length - 2, by omega⟩
        rw [List.getElem?_append_right (by omega), List.getElem?_append_right (by omega), Nat.add_sub_cancel_left]; rfl
    have e1 : sub A (pre ++ x :: y :: l) cs = setr (setr (sub A (pre ++ x :: y :: l) cs) pre.length (sub A (pre ++ x :: y :: l) cs pre.length)) (pre.length + 1) (sub A (pre ++ x :: y :: l) cs (pre.length + 1)) := by rw [RowF.set_self, RowF.set_self]
    have e2 : sub A (pre ++ y :: x :: l) cs = setr (setr (sub A (pre ++ x :: y :: l) cs) pre.length (sub A (pre ++ x :: y :: l) cs (pre.length + 1))) (pre.length + 1) (sub A (pre ++ x :: y :: l) cs pre.length) := by
      funext i j
      unfold setr
      by_cases h2 : i = pre.length + 1
      · rw [if_pos h2, h2]; unfold sub; rw [eb, ea]
      · rw [if_neg h2]
        by_cases h1 : i = pre.length
        · rw [if_pos h1, h1]; unfold sub; rw [ea, eb]
        · rw [if_neg h1]; unfold sub; rw [ec i h1 h2]
    unfold mn
    rw [hlen, e2, hR.swap _ (by omega) hp (by omega), ← e1, Int.natAbs_neg]
  | trans _ _ ih1 ih2 => exact fun pre => (ih1 pre).trans (ih2 pre)
theorem mn_abs {A : MatF} {cs l1 l2 : List Nat} (h : l1.Perm l2) : (mn A l1 cs).natAbs = (mn A l2 cs).natAbs := mn_perm_abs A h []
theorem getD_rng {n j : Nat} (h : j < n) : (List.range n).getD j 0 = j := by rw [List.getD, List.getElem?_range h]; rfl
theorem mn_rng {A : MatF} {Y : List Nat} {C : Nat} (hY : Y.length = C) : mn A Y (List.range C) = det C fun i j => A (Y.getD i 0) j := by
 unfold mn; rw [hY]; exact det_congr fun i j _ hj => by unfold sub; rw [getD_rng hj]
theorem sm_dvd {g : Int} {f : Nat → Int} : ∀ {n : Nat}, (∀ i, i < n → g ∣ f i) → g ∣ sm n f
 | 0, _ => ⟨0, (Int.mul_zero g).symm⟩
 | n + 1, h => Int.dvd_add (sm_dvd fun i hi => h i (by omega)) (h n (by omega))
theorem nodup_rng {C : Nat} {f : Nat → Nat} (h : ∀ i j, i < C → j < C → f i = f j → i = j) : ((List.range C).map f).Nodup := by
 refine List.pairwise_map.2 (List.Pairwise.imp_of_mem (fun {a b} ha hb hab e => hab (h a b (List.mem_range.1 ha) (List.mem_range.1 hb) e)) List.nodup_range)
theorem all_rows {A : MatF} {R C : Nat} {g : Int} (h : ∀ Y, Y ∈ choices R C → g ∣ mn A Y (List.range C)) {f : Nat → Nat} (hf : ∀ i, i < C → f i < R) : g ∣ det C fun i j => A (f i) j := by
 obtain ⟨l, hl⟩ : ∃ l, l = (List.range C).map f := ⟨_, rfl⟩
 have hll : l.length = C := by rw [hl, List.length_map, List.length_range]
 have hld : ∀ i, i < C → l.getD i 0 = f i := fun i hi => by rw [hl, List.getD, List.getElem?_map, List.getElem?_range hi]; rfl
 have e : (det C fun i j => A (f i) j) = mn A l (List.range C) := by
  rw [mn_rng hll]; exact det_congr fun i j hi _ => by rw [hld i hi]
 by_cases hn : ∀ i j, i < C → j < C → f i = f j → i = j
 ·obtain ⟨Y, hY, hp⟩ := choices_perm R C l (by rw [hl]; exact nodup_rng hn) hll (fun x hx => by rw [hl] at hx; obtain ⟨i, hi, rfl⟩ := List.mem_map.1 hx; exact hf i (List.mem_range.1 hi))
  rw [e, ← Int.dvd_natAbs, ← mn_abs hp, Int.dvd_natAbs]
  exact h Y hY
 ·obtain ⟨i, j, hi, hj, he, hne⟩ : ∃ i j, i < C ∧ j < C ∧ f i = f j ∧ i ≠ j := by
   refine Classical.byContradiction fun hno => hn fun i j hi hj he => Classical.byContradiction fun hne => hno ⟨i, j, hi, hj, he, hne⟩
  rw [(det_rowF C).eqr hi hj hne fun k _ => by show A (f i) k = A (f j) k; rw [he]]
  exact ⟨0, (Int.mul_zero g).symm⟩
theorem span_rows {A : MatF} {R C : Nat} {g : Int} (h : ∀ Y, Y ∈ choices R C → g ∣ mn A Y (List.range C)) : ∀ t : Nat, t ≤ C → ∀ B : MatF, (∀ i, i < t → SpZ R C A (B i)) → (∀ i, t ≤ i → i < C → ∃ k, k < R ∧ B i = A k) → g ∣ det C B
  | 0, _, B, _, h2 => by
    have hf : ∀ i, ∃ k, i < C → k < R ∧ B i = A k := fun i => by
      by_cases hi : i < C
      · obtain ⟨k, hk⟩ := h2 i (Nat.zero_le _) hi; exact ⟨k, fun _ => hk⟩
      · exact ⟨0, fun h => absurd h hi⟩
    rw [show det C B = det C fun i j => A (Classical.choose (hf i)) j from det_congr fun i j hi _ => congrFun (Classical.choose_spec (hf i) hi).2 j]
    exact all_rows h fun i hi => (Classical.choose_spec (hf i) hi).1
  | t + 1, ht, B, h1, h2 => by
    obtain ⟨c, hc⟩ := h1 t (Nat.lt_succ_self t)
    have e : det C B = sm R fun k => c k * det C (setr B t (A k)) := by
      rw [← (det_rowF C).sum B (r := t) (by omega) c A R]
      refine det_congr fun i j hi hj => ?_
      unfold setr
      split
      · next e => rw [e]; exact hc j hj
      · rfl
    rw [e]
    refine sm_dvd fun k hk => Int.dvd_trans (span_rows h t (by omega) (setr B t (A k)) (fun i hi => by rw [RowF.set_ne _ (by omega)]; exact h1 i (by omega)) fun i hi hiC => ?_) ⟨c k, Int.mul_comm _ _⟩
    by_cases e : i = t
    · subst e; exact ⟨k, hk, RowF.set_at _ _ _⟩
    · rw [RowF.set_ne _ e]; exact h2 i (by omega) hiC
/-! ### fewer pivots than columns -/
end Go.Tr
namespace Go.Hp
open Go.Dt Go.Nt Go.En Go.Mz Go.Tr Go.Pz
variable {R P C : Nat} {L H : MatF} {B : Int}
theorem sm_absL {f g : Nat → Int} : ∀ m : Nat, (∀ s, s < m → -(g s) ≤ f s ∧ f s ≤ g s) → -(Dt.sm m g) ≤ Dt.sm m f ∧ Dt.sm m f ≤ Dt.sm m g
  | 0, _ => by show -(0 : Int) ≤ 0 ∧ (0 : Int) ≤ 0; omega
  | m + 1, h => by
    have h1 := sm_absL m fun s hs => h s (by omega)
    have h2 := h m (by omega)
    show -(Dt.sm m g + g m) ≤ Dt.sm m f + f m ∧ Dt.sm m f + f m ≤ Dt.sm m g + g m
    omega
theorem sm_two_pow (B : Int) : ∀ m : Nat, (Dt.sm m fun r => 2 ^ r * B) + B = 2 ^ m * B
  | 0 => by show (0 : Int) + B = 2 ^ 0 * B; rw [Int.pow_zero]; omega
  | m + 1 => by
    have := sm_two_pow B m
    show (Dt.sm m fun r => 2 ^ r * B) + 2 ^ m * B + B = 2 ^ (m + 1) * B
    rw [Int.pow_succ]
    have : (2 : Int) ^ m * 2 * B = 2 ^ m * B + 2 ^ m * B := by grind
    omega
theorem herm_coef (hF : HermF P C H) (h1 : ∀ i, i < P → fc C (H i) < C) (hB : 0 ≤ B) {v : Nat → Int} {w : Nat → Int} (hv : ∀ k, k < C → v k = Dt.sm P fun m => w m * H m k) (hb : ∀ k, k < C → -B ≤ v k ∧ v k ≤ B) :
    ∀ m : Nat, m < P → -(2 ^ m * B) ≤ w m ∧ w m ≤ 2 ^ m * B := fun m => by
  induction m using Nat.strongRecOn with
  | _ m ih =>
    intro hm
    have hp := h1 m hm
    have hpos := (hF m hm hp).2.1
    have e := hv _ hp
    have hvb := hb _ hp
    obtain ⟨p, hpp⟩ : ∃ p, p = fc C (H m) := ⟨_, rfl⟩
    rw [← hpp] at e hvb hpos
    have e2 : (Dt.sm P fun r => w r * H r p) = (Dt.sm m fun r => w r * H r p) + w m * H m p := by
      have hz : ∀ r, m + 1 ≤ r → r < P → (fun r => w r * H r p) r = 0 := fun r hr hrP => by
        show w r * H r p = 0
        rw [hF.later (i := m) (j := r) (by omega) hrP hp (by rw [hpp]; exact Nat.le_refl _), Int.mul_zero]
      rw [sm_less (P := m + 1) (R := P) (by omega) hz]; rfl
    rw [e2] at e
    have h2 := sm_absL (f := fun r => w r * H r p) (g := fun r => H m p * (2 ^ r * B)) m fun r hr => by
      have hw := ih r hr (by omega)
      obtain ⟨x0, x1⟩ := (hF m hm hp).2.2 r hr
      rw [← hpp] at x0 x1
      show -(H m p * (2 ^ r * B)) ≤ w r * H r p ∧ w r * H r p ≤ H m p * (2 ^ r * B)
      obtain ⟨T, hT⟩ : ∃ T, T = 2 ^ r * B := ⟨_, rfl⟩
      have hT0 : 0 ≤ T := by rw [hT]; exact Int.mul_nonneg (Int.le_of_lt (Int.pow_pos (by decide))) hB
      rw [← hT] at hw ⊢
      generalize w r = x at *
      generalize H r p = y at *
      generalize H m p = z at *
      have a1 := Int.mul_nonneg (show 0 ≤ T - x by omega) x0
      have a2 := Int.mul_nonneg (show 0 ≤ T + x by omega) x0
      have a3 := Int.mul_nonneg hT0 (show 0 ≤ z - y by omega)
      constructor <;> grind
    rw [sm_smul] at h2
    have h3 := sm_two_pow B m
    obtain ⟨S, hS⟩ : ∃ S, S = Dt.sm m fun r => 2 ^ r * B := ⟨_, rfl⟩
    rw [← hS] at h2 h3
    obtain ⟨X, hX⟩ : ∃ X, X = (2 : Int) ^ m * B := ⟨_, rfl⟩
    rw [← hX] at h3 ⊢
    generalize (Dt.sm m fun r => w r * H r p) = s at *
    generalize H m p = z at *
    generalize w m = x at *
    have h4 : B ≤ z * B := by have : 1 * B ≤ z * B := Int.mul_le_mul_of_nonneg_right (by omega) hB; omega
    have h5 : z * S + z * B = z * X := by rw [← Int.mul_add, h3]
    have h6 : -(z * X) ≤ x * z ∧ x * z ≤ z * X := by omega
    constructor
    · rcases Int.lt_or_le x (-X) with g | g
      · exfalso
        have := Int.mul_lt_mul_of_pos_right g hpos
        have : -X * z = -(z * X) := by grind
        omega
      · exact g
    · rcases Int.lt_or_le X x with g | g
      · exfalso
        have := Int.mul_lt_mul_of_pos_right g hpos
        have : X * z = z * X := Int.mul_comm _ _
        omega
      · exact g
theorem herm_cramer (hF : HermF P C H) (h1 : ∀ i, i < P → fc C (H i) < C) (hE : Eqv R P C L H) :
    ∃ (V : MatF) (Y : Nat → Nat), (∀ i k, i < R → k < C → L i k = Dt.sm P fun m => V i m * H m k) ∧ (∀ i, i < P → Y i < R) ∧ det P (fun m i => V (Y i) m) ≠ 0 ∧
      ∀ m j, m < P → j < C → det P (setr (fun m i => V (Y i) m) m fun i => L (Y i) j) = H m j * det P (fun m i => V (Y i) m) := by
  have hV : ∀ i, ∃ c : Nat → Int, i < R → ∀ k, k < C → L i k = Dt.sm P fun m => c m * H m k := fun i => by
    by_cases hi : i < R
    · obtain ⟨c, hc⟩ := hE.1 i hi
      exact ⟨c, fun _ => hc⟩
    · exact ⟨fun _ => 0, fun h => absurd h hi⟩
  obtain ⟨V, hVm⟩ : ∃ V : MatF, ∀ i, i < R → ∀ k, k < C → L i k = Dt.sm P fun m => V i m * H m k := ⟨fun i => Classical.choose (hV i), fun i hi => Classical.choose_spec (hV i) hi⟩
  -- the identity's rows are sums of the coefficients' rows
  have hI : ∀ m, m < P → SpZ R P V (one m) := fun m hm => by
    obtain ⟨c, hc⟩ := hE.2 m hm
    have h0 : ∀ k, k < C → (Dt.sm P fun r => ((Dt.sm R fun i => c i * V i r) - one m r) * H r k) = 0 := fun k hk => by
      have e1 : (Dt.sm P fun r => ((Dt.sm R fun i => c i * V i r) - one m r) * H r k) = 1 * (Dt.sm P fun r => (Dt.sm R fun i => c i * V i r) * H r k) + (-1) * Dt.sm P fun r => one m r * H r k := by
        rw [← sm_lin]
        exact sm_congr fun r _ => by grind
      have e2 : (Dt.sm P fun r => one m r * H r k) = H m k := by
        have := sm_pick1 (fun r => H r k) hm
        rw [← this]
        refine sm_congr fun r _ => ?_
        unfold one
        by_cases g : r = m
        · subst g; rfl
        · rw [if_neg (fun e => g e.symm), if_neg g]
      have e3 : (Dt.sm P fun r => (Dt.sm R fun i => c i * V i r) * H r k) = Dt.sm R fun i => c i * L i k := by
        have : (Dt.sm P fun r => (Dt.sm R fun i => c i * V i r) * H r k) = Dt.sm P fun r => Dt.sm R fun i => c i * (V i r * H r k) := sm_congr fun r _ => by
          rw [Int.mul_comm, ← sm_smul]
          exact sm_congr fun i _ => by grind
        rw [this, sm_swap]
        refine sm_congr fun i hi => ?_
        rw [hVm i hi k hk, ← sm_smul]
      rw [e1, e2, e3, ← hc k hk]; omega
    have := herm_indep hF (Nat.le_refl P) h1 (fun i a b => absurd b (by omega)) h0
    exact ⟨c, fun r hr => by have := this r hr; omega⟩
  obtain ⟨Yl, hY, hne⟩ : ∃ Yl, Yl ∈ choices R P ∧ mn V Yl (List.range P) ≠ 0 := by
    refine Classical.byContradiction fun hno => ?_
    have hall : ∀ Y, Y ∈ choices R P → (0 : Int) ∣ mn V Y (List.range P) := fun Y hY => by
      have : mn V Y (List.range P) = 0 := Classical.byContradiction fun h => hno ⟨Y, hY, h⟩
      rw [this]; exact ⟨0, rfl⟩
    have := span_rows hall P (Nat.le_refl _) one (fun i hi => hI i hi) (fun i a b => absurd b (by omega))
    rw [det_one] at this
    obtain ⟨c, hc⟩ := this
    omega
  obtain ⟨hYl, hYR⟩ := choices_spec R P Yl hY
  rw [mn_rng hYl] at hne
  have hYi : ∀ i, i < P → Yl.getD i 0 < R := fun i hi => hYR _ (getD_mem (by omega))
  have hne' : det P (fun m i => V (Yl.getD i 0) m) ≠ 0 := by
    have e := det_tr P fun i j => V (Yl.getD i 0) j
    rw [← e] at hne; exact hne
  refine ⟨V, fun i => Yl.getD i 0, fun i k hi hk => hVm i hi k hk, hYi, hne', fun m j hm hj => ?_⟩
  have e1 : det P (setr (fun m i => V (Yl.getD i 0) m) m fun i => L (Yl.getD i 0) j) = det P (setr (fun m i => V (Yl.getD i 0) m) m fun i => Dt.sm P fun k => H k j * (fun m i => V (Yl.getD i 0) m) k i) := by
    refine det_congr fun a i ha hi => ?_
    unfold setr
    split
    · show L (Yl.getD i 0) j = Dt.sm P fun k => H k j * V (Yl.getD i 0) k
      rw [hVm _ (hYi i hi) j hj]
      exact sm_congr fun k _ => Int.mul_comm _ _
    · rfl
  rw [e1, (det_rowF P).sum _ hm (fun k => H k j) (fun m i => V (Yl.getD i 0) m) P, sm_one (c := m) hm fun k hk hkm => ?_, RowF.set_self]
  rw [(det_rowF P).eqr hm hk (fun e => hkm e.symm) fun i hi => by rw [RowF.set_at, RowF.set_ne _ hkm], Int.mul_zero]
theorem lt_W_of {K : Nat} {x : Int} (h : (List.length (words x.natAbs)) ≤ K) : -((W : Int) ^ K) ≤ x ∧ x ≤ (W : Int) ^ K := by
 have h1 := nw_lt x.natAbs
 have h2 : W ^ (List.length (words x.natAbs)) ≤ W ^ K := Nat.pow_le_pow_right (by decide) h
 have h3 : ((W ^ K : Nat) : Int) = (W : Int) ^ K := Int.natCast_pow _ _
 rw [← h3]
 omega
theorem herm_nw {K : Nat} (hP : P ≤ 63) (hF : HermF P C H) (h1 : ∀ i, i < P → fc C (H i) < C) (hE : Eqv R P C L H) (hb : ∀ i k, (List.length (words (L i k).natAbs)) ≤ K) {m j : Nat} (hm : m < P) (hj : j < C) : (List.length (words (H m j).natAbs)) ≤ P * (K + 2 + P) + 1 := by
 obtain ⟨V, Y, g1, g2, g3, g4⟩ := herm_cramer hF h1 hE
 have hVb : ∀ i r, i < R → r < P → (List.length (words (V i r).natAbs)) ≤ K + 2 := fun i r hi hr => by
  have hc := herm_coef hF h1 (B := (W : Int) ^ K) (Int.le_of_lt (Int.pow_pos (by decide))) (fun k hk => g1 i k hi hk) (fun k _ => lt_W_of (hb i k)) r hr
  refine nw_le ?_
  have h2 : (2 : Int) ^ r * (W : Int) ^ K = ((2 ^ r * W ^ K : Nat) : Int) := by rw [Int.natCast_mul, Int.natCast_pow, Int.natCast_pow]; rfl
  rw [h2] at hc
  have h3 : 2 ^ r < W := Nat.lt_of_lt_of_le (Nat.pow_lt_pow_right (by decide) (show r < 64 by omega)) (by decide)
  have h4 : 2 ^ r * W ^ K ≤ W * W ^ K := Nat.mul_le_mul_right _ (Nat.le_of_lt h3)
  have h5 : W ^ (K + 2) = W * (W * W ^ K) := by rw [Nat.pow_succ, Nat.pow_succ]; grind
  have h6 : 1 ≤ W ^ K := Nat.pow_pos (by decide)
  have h7 : 2 * (W * W ^ K) ≤ W * (W * W ^ K) := Nat.mul_le_mul_right _ (by decide)
  have h8 : 1 * 1 ≤ W * W ^ K := Nat.mul_le_mul (by decide) h6
  omega
 have e := g4 m j hm hj
 have hT := det_nw (A := fun a i => if a < P ∧ i < P then setr (fun m i => V (Y i) m) m (fun i => L (Y i) j) a i else 0) (K := K + 2) (fun a i => by
  show (List.length (words (Int.natAbs (if a < P ∧ i < P then _ else 0)))) ≤ _
  split
  ·rename_i g
   show (List.length (words (Int.natAbs (if a = m then L (Y i) j else V (Y i) a)))) ≤ _
   split
   ·exact Nat.le_trans (hb _ _) (by omega)
   ·exact hVb _ _ (g2 i g.2) g.1
  ·rw [Int.natAbs_zero, words_zero]; exact Nat.zero_le _) P
 have e2 : det P (fun a i => if a < P ∧ i < P then setr (fun m i => V (Y i) m) m (fun i => L (Y i) j) a i else 0) = det P (setr (fun m i => V (Y i) m) m fun i => L (Y i) j) := det_congr fun a i ha hi => if_pos ⟨ha, hi⟩
 rw [e2, e] at hT
 refine Nat.le_trans (nw_mono ?_) hT
 rw [Int.natAbs_mul]
 exact Nat.le_mul_of_pos_right _ (by omega)
end Go.Hp
namespace Go.Ll
open Go.Dt Go.Hp Go.Pz Go.En Go.Nt Go.Mz
/-! ### the lattice stays -/
theorem lsM_eqv {n R : Nat} {A : MatF} {i k : Nat} (hi : i < R) (hk : k < i) (c : Int) : Eqv R R n (lsM A i k c) A := by
 refine ⟨fun r hr => ?_, fun r hr => lsM_span hk hi r hr⟩
 by_cases e : r = i
 ·subst e
  exact ((SpZ.row (R := R) (W := n) A hr).comb 1 (-c) (SpZ.row A (show k < R by omega))).congr fun j _ => by
   unfold lsM; rw [if_pos rfl]; grind
 ·exact (SpZ.row A hr).congr fun j _ => by unfold lsM; rw [if_neg e]
theorem swM_swM (A : MatF) (s : Nat) : swM (swM A s) s = A := by
 funext r
 by_cases e1 : r = s
 ·subst e1; rw [swM_s, swM_t]
 ·by_cases e2 : r = s + 1
  ·subst e2; rw [swM_t, swM_s]
  ·rw [swM_ne _ e1 e2, swM_ne _ e1 e2]
theorem swM_eqv {n R : Nat} {A : MatF} {s : Nat} (hs : s + 1 < R) : Eqv R R n (swM A s) A :=
 ⟨fun r hr => by have := swM_span (n := n) (A := swM A s) (s := s) (t := R) (.inl hs) r hr; rwa [swM_swM] at this, fun r hr => swM_span (.inl hs) r hr⟩
theorem LR.eqv {n R : Nat} {B : MatF} {D N p q : Int} {ds0 : List Int} {L0 U0 : List (List Int)} {c : Nat} {ds : List Int} {L U : List (List Int)} {k : Nat} (h : LR n R B D N p q ds0 L0 U0 c ds L U k) {n' : Nat} {B' : MatF} (h0 : Eqv R R n' (uB R U0 B') B') : Eqv R R n' (uB R U B') B' := by
 induction h with
 | start => exact h0
 | less h hj hjk hk hr hrk hu huk hrR ih => rw [uB_less hu huk]; exact (lsM_eqv hk hjk _).trans ih
 | swap h hj hs h0' h1 hn he0 he hde hl hj' hd ih => rw [uB_swap h0' h1]; exact (swM_eqv hs).trans ih
 | next h hj hk hst ih => exact ih
/-! ### rows that hang on none of each other have minors above 0 -/
theorem gd_pos {n R : Nat} {A : MatF} (h : ∀ a : Nat → Int, (∀ k, k < n → (Dt.sm R fun i => a i * A i k) = 0) → ∀ i, i < R → a i = 0) : ∀ t, t ≤ R → 0 < gd n A t
  | 0, _ => by show 0 < mn _ (rl 0) (rl 0); exact (by decide : (0 : Int) < 1)
  | t + 1, ht => by
    have ih := gd_pos h t (by omega)
    have h3 := gw_sq n A t
    have h4 := ip_nonneg n (gw n A t)
    rw [h3] at h4
    rcases Int.lt_trichotomy 0 (gd n A (t + 1)) with g | g | g
    · exact g
    · exfalso
      rw [← g, Int.mul_zero] at h3
      have hz := ip_zero h3
      have hsp := gw_span n A t
      obtain ⟨c, hc⟩ := hsp
      have := h (fun i => if i < t then c i else if i = t then gd n A t else 0) (fun k hk => by
        have h5 : 1 * gw n A t k + -gd n A t * A t k = Dt.sm t fun i => c i * A i k := hc k hk
        rw [hz k hk] at h5
        have e : (Dt.sm R fun i => (if i < t then c i else if i = t then gd n A t else 0) * A i k) = (Dt.sm t fun i => c i * A i k) + gd n A t * A t k := by
          have h6 : ∀ r, t + 1 ≤ r → r < R → (fun i => (if i < t then c i else if i = t then gd n A t else 0) * A i k) r = 0 := fun r h7 h8 => by
            show (if r < t then c r else if r = t then gd n A t else 0) * A r k = 0
            rw [if_neg (by omega), if_neg (by omega), Int.zero_mul]
          rw [sm_less (P := t + 1) (R := R) ht h6]
          show (Dt.sm t _) + (if t < t then c t else if t = t then gd n A t else 0) * A t k = _
          rw [if_neg (by omega), if_pos rfl, sm_congr fun i hi => by rw [if_pos hi]]
        rw [e, ← h5]; grind) t (by omega)
      rw [if_neg (by omega), if_pos rfl] at this
      omega
    · exfalso
      have := Int.mul_neg_of_pos_of_neg ih g
      omega
/-! ### sizes -/
def szD (n R : Nat) (A : MatF) : Int := Dt.sm (R + 1) (gd n A)
def szN (n R : Nat) (A : MatF) : Int := ((R : Nat) : Int) * szD n R A + (Dt.sm R fun i => ip n (A i) (A i)) + 1
def szQ (n R : Nat) (A : MatF) : Int := szD n R A * szD n R A * (szN n R A * (10 * (szD n R A * szD n R A * szN n R A)) ^ R)
theorem sm_one_le {f : Nat → Int} : ∀ {m : Nat}, (∀ i, i < m → 0 ≤ f i) → ∀ i, i < m → f i ≤ Dt.sm m f
  | 0, _, i, hi => by omega
  | m + 1, h, i, hi => by
    show f i ≤ Dt.sm m f + f m
    have h1 := sm_nonneg (f := f) (n := m) fun i hi => h i (by omega)
    have h2 := h m (by omega)
    rcases Nat.lt_or_ge i m with g | g
    · have := sm_one_le (f := f) (m := m) (fun i hi => h i (by omega)) i g; omega
    · obtain rfl : i = m := by omega
      omega
section
variable {n R : Nat} {A : MatF} (hpos : ∀ t, t ≤ R → 0 < gd n A t)
include hpos
theorem szD_ge : ∀ t, t ≤ R → gd n A t ≤ szD n R A := fun t ht => sm_one_le (fun i hi => Int.le_of_lt (hpos i (by omega))) t (by omega)
theorem szD_pos : 1 ≤ szD n R A := by have h1 := szD_ge hpos 0 (Nat.zero_le _); have h2 := hpos 0 (Nat.zero_le _); omega
theorem szN_ge : ((R : Nat) : Int) * szD n R A ≤ szN n R A ∧ 1 ≤ szN n R A ∧ ∀ i, i < R → ip n (A i) (A i) ≤ szN n R A := by
 have h1 := szD_pos hpos
 have h2 : 0 ≤ ((R : Nat) : Int) * szD n R A := Int.mul_nonneg (by omega) (by omega)
 have h3 : 0 ≤ Dt.sm R fun i => ip n (A i) (A i) := sm_nonneg fun i _ => ip_nonneg n (A i)
 unfold szN
 refine ⟨by omega, by omega, fun i hi => ?_⟩
 have := sm_one_le (f := fun i => ip n (A i) (A i)) (m := R) (fun i _ => ip_nonneg n (A i)) i hi
 omega
theorem szQ_pos : 1 ≤ szQ n R A := by
 have h1 := szD_pos hpos
 have h2 := (szN_ge hpos).2.1
 have hf : 1 ≤ 10 * (szD n R A * szD n R A * szN n R A) := by
  have := Int.mul_pos (Int.mul_pos (show 0 < szD n R A by omega) (show 0 < szD n R A by omega)) (show 0 < szN n R A by omega)
  omega
 have h3 := pow_ge hf R
 have h4 := Int.mul_pos (Int.mul_pos (show 0 < szD n R A by omega) (show 0 < szD n R A by omega)) (Int.mul_pos (show 0 < szN n R A by omega) (show 0 < (10 * (szD n R A * szD n R A * szN n R A)) ^ R by omega))
 unfold szQ; omega
theorem SZ.made {K : Nat} (hK : (List.length (words ((szQ n R A * ((R : Int) + 1)) ^ (R + 1)).natAbs)) ≤ K) : SZ n R K A (szD n R A) (szN n R A) (szQ n R A) (gd n A) (gw n A) where
 od := OD.made n R A hpos
 hd0 := szD_ge hpos
 hB := (szN_ge hpos).2.2
 hQ1 := szQ_pos hpos
 hQ := by
  have h1 := szQ_pos hpos
  have h2 : 1 * szQ n R A ≤ szQ n R A * szQ n R A := Int.mul_le_mul_of_nonneg_right h1 (by omega)
  show szQ n R A ≤ _
  omega
 hK := hK
end
theorem nz_pow (x : Int) : ∀ m : Nat, (List.length (words (x ^ m).natAbs)) ≤ m * (List.length (words x.natAbs)) + 1
  | 0 => by rw [Int.pow_zero]; exact Nat.le_trans (show (List.length (words (1 : Int).natAbs)) ≤ 1 from nw_small' (by decide)) (by omega)
  | m + 1 => by
    have h1 := nz_pow x m
    have h2 := nz_mul (x ^ m) x
    rw [Int.pow_succ, Nat.succ_mul]; omega
theorem gram_nw {n K : Nat} {A : MatF} (h : ∀ i k, (List.length (words (A i k).natAbs)) ≤ K) (i k : Nat) : (List.length (words (gram n A i k).natAbs)) ≤ K + K + n := by
 refine sm_nw (fun j => ?_) n
 have h1 := nz_mul (A i j) (A k j)
 have h2 := h i j
 have h3 := h k j
 show (List.length (words (A i j * A k j).natAbs)) ≤ _
 omega
theorem gd_nw {n K : Nat} {A : MatF} (h : ∀ i k, (List.length (words (gram n A i k).natAbs)) ≤ K) (t : Nat) : (List.length (words (gd n A t).natAbs)) ≤ t * (K + t) + 1 := by
 cases t with
 | zero => exact Nat.le_trans (show (List.length (words (1 : Int).natAbs)) ≤ 1 from nw_small' (by decide)) (by omega)
 | succ s => rw [← xe_self]; exact xe_nw h s s s
theorem sz_nw {n R K : Nat} {A : MatF} (hR : R ≤ 4) (h : ∀ i k, (List.length (words (gram n A i k).natAbs)) ≤ K) :
  (List.length (words (szD n R A).natAbs)) ≤ 4 * K + 22 ∧ (List.length (words (szN n R A).natAbs)) ≤ 4 * K + 25 ∧ (List.length (words ((szQ n R A * ((R : Int) + 1)) ^ (R + 1)).natAbs)) ≤ 300 * K + 2000 := by
 have h1 : (List.length (words (szD n R A).natAbs)) ≤ 4 * K + 22 := by
  have e : szD n R A = Dt.sm (R + 1) fun t => if t ≤ R then gd n A t else 0 := sm_congr fun t ht => by rw [if_pos (by omega)]
  have h2 := sm_nw (f := fun t => if t ≤ R then gd n A t else 0) (K := 4 * K + 17) (fun t => by
   show (List.length (words (Int.natAbs (if t ≤ R then gd n A t else 0)))) ≤ _
   split
   ·rename_i g
    have h3 := gd_nw h t
    have h4 : t * (K + t) ≤ 4 * (K + 4) := Nat.mul_le_mul (by omega) (by omega)
    omega
   ·rw [Int.natAbs_zero, words_zero]; exact Nat.zero_le _) (R + 1)
  rw [e]; omega
 have hR1 : (List.length (words ((R : Nat) : Int).natAbs)) ≤ 1 := nw_small' (by omega)
 have hR2 : (List.length (words ((R : Int) + 1).natAbs)) ≤ 1 := nw_small' (by omega)
 have h10 : (List.length (words (10 : Int).natAbs)) ≤ 1 := nw_small' (by decide)
 have h01 : (List.length (words (1 : Int).natAbs)) ≤ 1 := nw_small' (by decide)
 have h2 : (List.length (words (szN n R A).natAbs)) ≤ 4 * K + 25 := by
  have a1 := nz_mul ((R : Nat) : Int) (szD n R A)
  have a2 := sm_nw (f := fun i => ip n (A i) (A i)) (K := K) (fun i => h i i) R
  have a3 := nz_add (((R : Nat) : Int) * szD n R A) (Dt.sm R fun i => ip n (A i) (A i))
  have a4 := nz_add (((R : Nat) : Int) * szD n R A + Dt.sm R fun i => ip n (A i) (A i)) 1
  unfold szN
  omega
 refine ⟨h1, h2, ?_⟩
 have b1 := nz_mul (szD n R A) (szD n R A)
 have b2 := nz_mul (szD n R A * szD n R A) (szN n R A)
 have b3 := nz_mul 10 (szD n R A * szD n R A * szN n R A)
 have b4 := nz_pow (10 * (szD n R A * szD n R A * szN n R A)) R
 have b5 := nz_mul (szN n R A) ((10 * (szD n R A * szD n R A * szN n R A)) ^ R)
 have b6 := nz_mul (szD n R A * szD n R A) (szN n R A * (10 * (szD n R A * szD n R A * szN n R A)) ^ R)
 have b7 := nz_mul (szQ n R A) ((R : Int) + 1)
 have b8 := nz_pow (szQ n R A * ((R : Int) + 1)) (R + 1)
 have c1 : R * (List.length (words (10 * (szD n R A * szD n R A * szN n R A)).natAbs)) ≤ 4 * (List.length (words (10 * (szD n R A * szD n R A * szN n R A)).natAbs)) := Nat.mul_le_mul_right _ hR
 have c2 : (R + 1) * (List.length (words (szQ n R A * ((R : Int) + 1)).natAbs)) ≤ 5 * (List.length (words (szQ n R A * ((R : Int) + 1)).natAbs)) := Nat.mul_le_mul_right _ (by omega)
 have e : szQ n R A = szD n R A * szD n R A * (szN n R A * (10 * (szD n R A * szD n R A * szN n R A)) ^ R) := rfl
 rw [← e] at b6
 omega
end Go.Ll
namespace Go.Ll
open Go.Dt Go.Hp Go.Pz Go.En Go.Nt Go.Mz Go.Hn
theorem flat_cf {us : List Row} {P : Nat} : ∀ {i : Nat} {r : Row}, (∀ r ∈ us, r.2.length = P) → us[i]? = some r → ∀ j, j < P → cf (us.flatMap Prod.snd) (i * P + j) = cf r.2 j := by
  induction us with
  | nil => intro i r _ h; cases h
  | cons u us ih =>
    intro i r hl h j hj
    have hu : u.2.length = P := hl u List.mem_cons_self
    show cf (u.2 ++ us.flatMap Prod.snd) (i * P + j) = _
    unfold cf
    rw [List.getD_eq_getElem?_getD]
    cases i with
    | zero =>
      obtain rfl : u = r := by simpa using h
      rw [Nat.zero_mul, Nat.zero_add, List.getElem?_append_left (by omega), List.getD_eq_getElem?_getD]
    | succ i =>
      have h' : us[i]? = some r := by simpa using h
      have := ih (fun r hr => hl r (List.mem_cons_of_mem _ hr)) h' j hj
      rw [Nat.succ_mul, List.getElem?_append_right (by omega), show i * P + P + j - u.2.length = i * P + j by omega, ← List.getD_eq_getElem?_getD]
      exact this
theorem flat_len {us : List Row} {P : Nat} (hl : ∀ r ∈ us, r.2.length = P) : (us.flatMap Prod.snd).length = us.length * P := by
 have := flU_len hl us.length (Nat.le_refl _)
 rwa [flU_all (Nat.le_refl _)] at this
theorem flat_bd {us : List Row} {P K : Nat} (hl : ∀ r ∈ us, r.2.length = P) (hb : ∀ r ∈ us, Bd r.2 K) : Bd (us.flatMap Prod.snd) K := fun t => by
 rcases Nat.lt_or_ge t (us.length * P) with g | g
 ·obtain ⟨i, j, hi, hj, rfl⟩ := place_of g
  obtain ⟨r, hr⟩ : ∃ r, us[i]? = some r := ⟨_, List.getElem?_eq_getElem hi⟩
  rw [flat_cf hl hr j hj]
  exact hb r (List.mem_of_getElem? hr) j
 ·rw [cf_out (by rw [flat_len hl]; exact g), Int.natAbs_zero, words_zero]; exact Nat.zero_le _
abbrev latF (R C : Nat) (L : List Int) : MatF := mf C (latL R C L)
abbrev rkL (R C : Nat) (L : List Int) : Nat := (pivL C (mf C (hL R C L)) R).length
variable {R C K : Nat} {L : List Int}
theorem rk_le : rkL R C L ≤ R := pivL_len _ _ _
theorem latL_len : (latL R C L).length = rkL R C L * C := tab_len _ _ _
theorem lat_piv (hb : Bd L K) : ∀ i, i < rkL R C L → fc C (latF R C L i) < C := fun i hi => by
 obtain ⟨P, h1, h2, h3, h4⟩ := herm_piv (hL_form (R := R) (C := C) hb)
 have hP : rkL R C L = P := by show (pivL C (mf C (hL R C L)) R).length = P; rw [h4, List.length_map, List.length_range]
 rw [fc_congr (g := mf C (hL R C L) i) fun k hk => latL_at hi hk]
 exact h2 i (by omega)
theorem lat_pos (hb : Bd L K) : ∀ t, t ≤ rkL R C L → 0 < gd C (latF R C L) t :=
 gd_pos fun a h0 => herm_indep (latL_form hb) (Nat.le_refl _) (lat_piv hb) (fun i h1 h2 => absurd h2 (by omega)) h0
theorem lat_small (hb : Bd L K) (hR : R ≤ 4) : Bd (latL R C L) (4 * K + 25) := fun t => by
 rcases Nat.lt_or_ge t (rkL R C L * C) with g | g
 ·obtain ⟨i, j, hi, hj, rfl⟩ := place_of g
  have h1 : (List.length (words (latF R C L i j).natAbs)) ≤ rkL R C L * (K + 2 + rkL R C L) + 1 := herm_nw (Nat.le_trans rk_le (by omega)) (latL_form hb) (lat_piv hb) (latL_eqv hb) (fun i k => hb _) hi hj
  have h2 := rk_le (R := R) (C := C) (L := L)
  have h3 : rkL R C L * (K + 2 + rkL R C L) ≤ 4 * (K + 2 + 4) := Nat.mul_le_mul (by omega) (by omega)
  show (List.length (words (latF R C L i j).natAbs)) ≤ _
  omega
 ·rw [cf_out (by rw [latL_len]; exact g), Int.natAbs_zero, words_zero]; exact Nat.zero_le _
theorem lat_gram (hb : Bd L K) (hR : R ≤ 4) (hC : C ≤ 4) (i k : Nat) : (List.length (words (gram C (latF R C L) i k).natAbs)) ≤ 8 * K + 54 := by
 have := gram_nw (n := C) (A := latF R C L) (K := 4 * K + 25) (fun i k => lat_small hb hR _) i k
 omega
theorem gm_ip {P i k : Nat} {M : List Int} (hi : i < P) (hk : k < P) : cf (gmL P C M) (i * P + k) = ip C (mf C M i) (mf C M k) := by
 unfold gmL
 rw [cf_tab' _ hk (place_lt hi hk)]
 unfold gmF
 rw [dotS_sm]; rfl
structure GR (R C : Nat) (L : List Int) (p q : Int) (c : Nat) (ds : List Int) (ls us : List Row) (k : Nat) (Ml Wl : List Int) : Prop where
 hk : rkL R C L ≤ k
 rs : RS C (rkL R C L) (latF R C L) (szD C (rkL R C L) (latF R C L)) (szN C (rkL R C L) (latF R C L)) p q ((List.range (rkL R C L + 1)).map (gd C (latF R C L))) ((List.range (rkL R C L)).map fun t => lrow C (rkL R C L) (latF R C L) t t) ((List.range (rkL R C L)).map (urow (rkL R C L))) c ds ls us k k
 ml : Ml = stkL (R - rkL R C L) (rkL R C L) C (tab ((R - rkL R C L) * C) C fun i k => cf (hL R C L) ((rkL R C L + i) * C + k)) (tab (rkL R C L * C) C fun i k => dotS (fun j => cf (us.flatMap Prod.snd) (i * rkL R C L + j)) (fun j => cf (latL R C L) (j * C + k)) (rkL R C L))
 wl : Wl = stkL (R - rkL R C L) (rkL R C L) R (tab ((R - rkL R C L) * R) R fun i k => cf (uL R C L) ((rkL R C L + i) * R + k)) (tab (rkL R C L * R) R fun i k => dotS (fun j => cf (us.flatMap Prod.snd) (i * rkL R C L + j)) (fun j => cf (tab (rkL R C L * R) R fun i k => cf (uL R C L) ((0 + i) * R + k)) (j * R + k)) (rkL R C L))
variable {p q : Int} {c : Nat} {ds : List Int} {ls us : List Row} {k : Nat} {Ml Wl : List Int}
theorem GR.len (h : GR R C L p q c ds ls us k Ml Wl) : Ml.length = R * C := by
 rw [h.ml]; unfold stkL; rw [tab_len, Nat.sub_add_cancel rk_le]
theorem stk_cf {r r' C i k : Nat} {A B : List Int} (hi : i < r + r') (hk : k < C) : mf C (stkL r r' C A B) i k = if i < r then cf A (i * C + k) else cf B ((i - r) * C + k) := by
 show cf _ (i * C + k) = _
 unfold stkL
 rw [cf_tab' _ hk (place_lt hi hk)]
theorem GR.zero (h : GR R C L p q c ds ls us k Ml Wl) (hb : Bd L K) {i j : Nat} (hi : i < R - rkL R C L) (hj : j < C) : mf C Ml i j = 0 := by
 rw [h.ml, stk_cf (by omega) hj, if_pos hi, cf_tab' _ hj (place_lt hi hj)]
 obtain ⟨P, h1, h2, h3, h4⟩ := herm_piv (hL_form (R := R) (C := C) hb)
 have hP : rkL R C L = P := by show (pivL C (mf C (hL R C L)) R).length = P; rw [h4, List.length_map, List.length_range]
 have h5 := h3 (rkL R C L + i) (by omega) (by omega)
 exact fc_zero (f := mf C (hL R C L) (rkL R C L + i)) (C := C) (by omega)
theorem GR.row (h : GR R C L p q c ds ls us k Ml Wl) {i j : Nat} (hi : i < rkL R C L) (hj : j < C) : mf C Ml (R - rkL R C L + i) j = uB (rkL R C L) (us.map Prod.snd) (latF R C L) i j := by
 rw [h.ml, stk_cf (by omega) hj, if_neg (by omega), Nat.add_sub_cancel_left, cf_tab' _ hj (place_lt hi hj), dotS_sm]
 obtain ⟨r, hr⟩ : ∃ r, us[i]? = some r := ⟨_, List.getElem?_eq_getElem (by rw [h.rs.ul]; exact hi)⟩
 refine sm_congr fun t ht => ?_
 show cf (us.flatMap Prod.snd) (i * rkL R C L + t) * latF R C L t j = mL (us.map Prod.snd) i t * latF R C L t j
 rw [flat_cf h.rs.hur hr t ht, mL_map hr]
theorem uB_start {P n : Nat} {B : MatF} : Eqv P P n (uB P ((List.range P).map (urow P)) B) B := Eqv.of_eq fun i k hi hk => by
 have e : ∀ r, mL ((List.range P).map (urow P)) i r = if r = i then 1 else 0 := fun r => by
  rw [mL_at (r := urow P i) (by rw [List.getElem?_map, List.getElem?_range hi]; rfl), urow_cf hi]
 show (Dt.sm P fun r => mL ((List.range P).map (urow P)) i r * B r k) = _
 rw [sm_congr fun r _ => by rw [e r]]
 exact sm_pick1 (fun r => B r k) hi
theorem GR.eqv (h : GR R C L p q c ds ls us k Ml Wl) {n' : Nat} {B' : MatF} : Eqv (rkL R C L) (rkL R C L) n' (uB (rkL R C L) (us.map Prod.snd) B') B' := h.rs.lr.eqv uB_start
theorem GR.lat (h : GR R C L p q c ds ls us k Ml Wl) (hb : Bd L K) : Eqv (rkL R C L) R C (fun i => mf C Ml (R - rkL R C L + i)) (mf C L) :=
 ((Eqv.of_eq fun i k hi hk => h.row hi hk).trans h.eqv).trans (latL_eqv hb).symm
theorem GR.small (h : GR R C L p q c ds ls us k Ml Wl) {i : Nat} (hi : i < rkL R C L) : ip C (uB (rkL R C L) (us.map Prod.snd) (latF R C L) i) (uB (rkL R C L) (us.map Prod.snd) (latF R C L) i) ≤ szN C (rkL R C L) (latF R C L) := by
 obtain ⟨w, hw⟩ := h.rs.ex
 exact hw.nrm i hi (by have := h.hk; omega)
theorem le_ip {n : Nat} (u : Nat → Int) {j : Nat} (hj : j < n) : ((u j).natAbs : Int) ≤ ip n u u := by
 have h1 := sm_one_le (f := fun k => u k * u k) (m := n) (fun i _ => sq_nonneg _) j hj
 have h2 : ((u j).natAbs : Int) ≤ u j * u j := by
  rw [← Int.natAbs_mul_self]
  rcases Nat.eq_zero_or_pos (u j).natAbs with g | g
  ·rw [g]; decide
  ·have : 1 * ((u j).natAbs : Int) ≤ ((u j).natAbs : Int) * ((u j).natAbs : Int) := Int.mul_le_mul_of_nonneg_right (by omega) (by omega)
   omega
 exact Int.le_trans h2 h1
theorem GR.bd (h : GR R C L p q c ds ls us k Ml Wl) (hb : Bd L K) (hR : R ≤ 4) (hC : C ≤ 4) : Bd Ml (32 * K + 241) := fun t => by
 rcases Nat.lt_or_ge t (R * C) with g | g
 ·obtain ⟨i, j, hi, hj, rfl⟩ := place_of g
  show (List.length (words (mf C Ml i j).natAbs)) ≤ _
  rcases Nat.lt_or_ge i (R - rkL R C L) with g | g
  ·rw [h.zero hb g hj, Int.natAbs_zero, words_zero]; exact Nat.zero_le _
  ·obtain ⟨i', rfl⟩ : ∃ i', i = R - rkL R C L + i' := ⟨i - (R - rkL R C L), by omega⟩
   have hi' : i' < rkL R C L := by have := rk_le (R := R) (C := C) (L := L); omega
   rw [h.row hi' hj]
   have h1 := le_ip (n := C) (uB (rkL R C L) (us.map Prod.snd) (latF R C L) i') hj
   have h2 := h.small hi'
   have h3 := (sz_nw (n := C) (R := rkL R C L) (A := latF R C L) (K := 8 * K + 54) (Nat.le_trans rk_le hR) (lat_gram hb hR hC)).2.1
   refine Nat.le_trans (nw_mono ?_) (Nat.le_trans h3 (by omega))
   omega
 ·rw [cf_out (by rw [h.len]; exact g), Int.natAbs_zero, words_zero]; exact Nat.zero_le _
theorem GR.nz (h : GR R C L p q c ds ls us k Ml Wl) {i : Nat} (hi : i < rkL R C L) : ∃ j, j < C ∧ mf C Ml (R - rkL R C L + i) j ≠ 0 := by
 refine Classical.byContradiction fun hno => ?_
 obtain ⟨w, hw⟩ := h.rs.ex
 have h1 := hw.li.od.nx i hi
 have h2 := hw.li.od.pos (i + 1) (by omega)
 rw [← h1, ip_comm, ip_congr (u' := fun _ => 0) fun j hj => by
  rw [← h.row hi hj]; exact Classical.byContradiction fun hne => hno ⟨j, hj, hne⟩] at h2
 have : ip C (fun _ => 0) (w i) = 0 := sm_zero fun _ _ => Int.zero_mul _
 omega
end Go.Ll
namespace Go.Proofs.YtlebmedapfncoaaGreat
open Go.En Go.RowKit
set_option maxRecDepth 10000
open Go.Nt
open Go.Pz
open Go.Mz
open Go.Hn
open Go.Hp
open Go.Dt
open Go.Ll
theorem lll_ReduceA {n0 R K : Nat} {A : MatF} {xs : List (Bool × List Nat)} (hx : Bd (vals xs) K) (hR : R ≤ 4) (hl : xs.length = R * R) (hG : ∀ i k, i < R → k < R → cf (vals xs) (i * R + k) = ip n0 (A i) (A k)) (hgw : ∀ i k, (List.length (words (gram n0 A i k).natAbs)) ≤ K) (hpos : ∀ t, t ≤ R → 0 < Dt.gd n0 A t) (hK : K ≤ 3000) {m n : Bool} {ps qs : List Nat} (hpw : (List.length (words (val ps))) ≤ 1000) (hqw : (List.length (words (val qs))) ≤ 1000) (hmy : (decide (0 < sgn (zv n qs)) && decide (0 < cmpZ (zv m ps * 4) (zv n qs)) && decide (cmpZ (zv m ps) (zv n qs) < 0)) = true) (hq : 0 < zv n qs) (hpq : zv m ps < zv n qs) :
  CtrX Tryz.prog 33 [isM (R : Int) (R : Int) xs, Flat [isB m, isWords ps], Flat [isB n, isWords qs]] [] (fun S M => ∃ (c : Nat) (ds' : List Int) (ls' us' : List Row) (k : Nat), S = isTup [isMz R R (us'.flatMap Prod.snd), isI (IntKind.i64.wrap (c : Int)), isI 0] ∧ M = [] ∧ R ≤ k ∧ RS n0 R A (szD n0 R A) (szN n0 R A) (zv m ps) (zv n qs) ((List.range (R + 1)).map (Dt.gd n0 A)) ((List.range R).map fun t => lrow n0 R A t t) ((List.range R).map (urow R)) c ds' ls' us' k k) := by
 rcases Nat.eq_zero_or_pos R with h0 | h0
 ·subst h0
  refine (lll_Reduce0 (by omega) hpw hqw hmy).imp ?_
  rintro S M ⟨rfl, hM⟩
  exact ⟨0, [1], [], [], 1, rfl, hM, Nat.zero_le _, (BG.first n0 0 A).rs hpos (szD_ge hpos) (szN_ge hpos).1 (szN_ge hpos).2.1 (szN_ge hpos).2.2⟩
 ·have hz := SZ.made (K := 300 * K + 2000) hpos (sz_nw hR hgw).2.2
  exact lll_Reduce (Kd := 5 * (K + 5) + 1) hx h0 (by omega) hl hG hgw hpos (fun j hj => by have : (j + 1) * (K + (j + 1)) ≤ 5 * (K + 5) := Nat.mul_le_mul (by omega) (by omega); omega) (by omega) (by omega) hpw hqw hmy hq hpq hz (by omega) (szN_ge hpos).1 (szN_ge hpos).2.1
end Go.Proofs.YtlebmedapfncoaaGreat
namespace Go.Proofs.YtlebmedapfncoaaGreat
open Go.En Go.RowKit
set_option maxRecDepth 10000
set_option maxHeartbeats 4000000
open Go.Nt
open Go.Pz
open Go.Mz
open Go.Hn
theorem hnf_begun {R C K : Nat} {xs : List (Bool × List Nat)} (hx : Bd (vals xs) K) (hK : K ≤ 4000000000) (hR : R ≤ 64) (hC : C ≤ 64) (hl : xs.length = R * C) : CtrX Tryz.prog 43 [isM (R : Int) (C : Int) xs] ([]) (fun S M => ∃ bw gt, S = isPtr bw 0 ∧ M = hwM bw gt (rows0 C R (vals xs) R) C 0) := by
 refine CtrX.i Tryz.func43 rfl Tryz.ntmps43 fun w0 F0 => .w [0] rfl (.sr fun k1 => .box (.t rfl) rfl fun b1 => st (.as Has.cP) rfl (nkQ k1 (.sr fun k2 => st (.fieldAddr (.t rfl) fld24_1 ty3) rfl (st (.load1 (.t rfl) (i := 0) rfl ty3 rfl) rfl (st (.build [nilS, isI 0, isI 0] pl73 zero73 (fun _ _ => ⟨rfl, ⟨rfl, by decide, by decide⟩, ⟨rfl, by decide, by decide⟩, trivial⟩) (.cons (.t rfl) rfl rfl rfl .nil) (Z'' := [_, _, _]) rfl) rfl (.box (.t rfl) rfl fun b2 => stM rfl (nkQ k2 (.w [1,2,3] rfl (.sq fun k3 => .sq fun k4 => .cv (Cv.growF (List Int) (i := 0) (o := 0) rfl rfl rfl) (.memEq (M' := [grM isP Gr.nil [], _, _]) rfl (.region (st (.fieldAddr (.t rfl) fld24_0 ty3) rfl (st (.load1 (.t rfl) (i := 2) rfl ty3 rfl) rfl (st (.mv (.cI 0 rfl)) rfl (nkQ k4 (.block (.loopF [1,2,3,12] (fun (z : { z : Nat × Gr (List Int) // z.1 ≤ R }) => match z with | ⟨(i, gt), hI⟩ => [(13, isI (i : Int))]) (fun M => fun (z : { z : Nat × Gr (List Int) // z.1 ≤ R }) => match z with | ⟨(i, gt), hI⟩ => (grM isP gt (rows0 C R (vals xs) i) :: (some b2, cellM [isGr gt (rows0 C R (vals xs) i).length, isI (C : Int), isI 0]) :: (some b1, cellM [isI (R : Int), isI (C : Int), SlK 2 zc xs]) :: [])) (fun (z : { z : Nat × Gr (List Int) // z.1 ≤ R }) => match z with | ⟨(i, gt), hI⟩ => R - i) (⟨(0, Gr.nil), Nat.zero_le _⟩) (Cv.mem (.c 13 rfl ?_ (.l [1,2,3,12] rfl)) ?_) ?_)))))))))))))))))
 ·rfl
 ·rfl
 rintro ⟨⟨i, gt⟩, hI⟩ K5 hK5
 refine .w [13,1,2,3,12] rfl (.memEq (M' := (grM isP gt (rows0 C R (vals xs) i) :: (some b2, cellM [isGr gt (rows0 C R (vals xs) i).length, isI (C : Int), isI 0]) :: (some b1, cellM [isI (R : Int), isI (C : Int), SlK 2 zc xs]) :: [])) rfl ?_)
 simp only [] at hI
 have hrl := rows0_len C R (vals xs) i
 refine .sr fun k6 => st (.ltI (.t rfl) (.t rfl)) rfl (nkQ k6 (.sq fun k7 => .cd rfl (fun hc1 => ?_) (fun hc1 => ?_)))
 ·refine .skip (.nk k7 (.sq fun k8 => .block (.sr fun k9 => stM rfl (stM rfl (nkQ k9 (.sr fun k10 => st (.fieldAddr (.t rfl) fld24_1 ty3) rfl (st (.load1 (.t rfl) (i := 2) rfl ty3 rfl) rfl (st (.fieldAddr (.t rfl) fld24_0 ty3) rfl (st (.load1 (.t rfl) (i := 2) rfl ty3 rfl) rfl (st (.eq (.addI (.t rfl) (.t rfl) (by omega) (by omega)) ((show isI _ = isI ((C + R : Nat) : Int) from isI_eq (by omega)))) rfl (.makeK (fk := zc) (u := (false, [])) (n := (C + R)) (c := (C + R)) sl22 ty33 zero33 (fun _ _ => ⟨rfl, nilM _ _, trivial⟩) zc_len by33 (Has.t' rfl rfl) (Has.t' rfl rfl) (by omega) rfl fun b3 => stM rfl (nkQ k10 (.sq fun k11 => .sr fun k12 => st (.fieldAddr (.t rfl) fld24_1 ty3) rfl (st (.load1 (.t rfl) (i := 3) rfl ty3 rfl) rfl (st (.mv (.cI 0 rfl)) rfl (nkQ k12 (.block (.loopF [1,2,3,12,13,14,15,4,16,17,18,19,20,21,5,22,23] (fun (z : { k : Nat // k ≤ C }) => match z with | ⟨k, hk⟩ => [(24, isI (k : Int))]) (fun M => fun (z : { k : Nat // k ≤ C }) => match z with | ⟨k, hk⟩ => ((some b3, cellM ((fill ((row0 C R (vals xs) i).map nz) k (false, [])).flatMap zc)) :: grM isP gt (rows0 C R (vals xs) i) :: (some b2, cellM [isGr gt (rows0 C R (vals xs) i).length, isI (C : Int), isI 0]) :: (some b1, cellM [isI (R : Int), isI (C : Int), SlK 2 zc xs]) :: [])) (fun (z : { k : Nat // k ≤ C }) => match z with | ⟨k, hk⟩ => C - k) (⟨0, Nat.zero_le _⟩) (Cv.mem (.c 24 rfl ?_ (.l [1,2,3,12,13,14,15,4,16,17,18,19,20,21,5,22,23] rfl)) ?_) ?_))))))))))))))))))
  ·rfl
  ·exact memZ_eq (by rw [fill_zero, List.length_map, row0_len])
  rintro ⟨k, hk⟩ K13 hK13
  refine .w [24,1,2,3,12,13,14,15,4,16,17,18,19,20,21,5,22,23] rfl (.memEq (M' := ((some b3, cellM ((fill ((row0 C R (vals xs) i).map nz) k (false, [])).flatMap zc)) :: grM isP gt (rows0 C R (vals xs) i) :: (some b2, cellM [isGr gt (rows0 C R (vals xs) i).length, isI (C : Int), isI 0]) :: (some b1, cellM [isI (R : Int), isI (C : Int), SlK 2 zc xs]) :: [])) rfl ?_)
  have hf := fill_len ((row0 C R (vals xs) i).map nz) k (false, []) (by rw [List.length_map, row0_len]; omega)
  rw [List.length_map, row0_len] at hf
  refine .sr fun k14 => st (.ltI (.t rfl) (.t rfl)) rfl (nkQ k14 (.sq fun k15 => .cd rfl (fun hc2 => ?_) (fun hc2 => ?_)))
  ·refine .skip (.nk k15 (.sq fun k16 => .block (.sr fun k17 => stM rfl (stM rfl (nkQ k17 (.region (stM rfl (stM rfl (st (.load (.t rfl) (i := 3) rfl ty24 rfl (Ss' := [_, _, _]) rfl) rfl (stM rfl (stM rfl (st (.call (zmat_At hx hK hR hC hl (i := i) (k := k) (by omega) (by omega)) (.cons (.t rfl) (.cons (.t rfl) (.cons (.t rfl) .nil)))) rfl (st (.eq (.ixWin sl22 ty33 (.t rfl) (.t rfl) (by omega)) (isPtr_eq (by exact ixo2))) rfl (.storeK (z := nz (cf (vals xs) (i * C + k))) zc_len (.t rfl) (.t rfl) (i := 0) rfl ty33 (by simp only [Int.toNat_natCast]; omega) (M' := [(_, _), _, _, _]) rfl ?_))))))))))))))
   refine nl (.bln (.nk k16 (.region (st (.addI (.t rfl) (.cI 1 rfl) (by omega) (by omega)) rfl (stM rfl (nl (.thn (hK13 (⟨k + 1, by omega⟩) _ _ ?_ (Cv.mem (.c 24 rfl ?_ (.l [1,2,3,12,13,14,15,4,16,17,18,19,20,21,5,22,23] rfl)) ?_)))))))))
   ·show C - (k + 1) < C - k; omega
   ·exact isI_eq (by omega)
   ·exact memF_eq (row0_at (by omega))
  ·refine .exit (.the (.the (.blh (.nk k11 (.sq fun k18 => .dr (.m [] rfl (.so [] rfl (.fieldAddr (.t rfl) fld24_1 ty3) (.so [36] rfl (.load1 (.t rfl) (i := 3) rfl ty3 rfl) (.m [] rfl (.so [37,38] rfl (.eq (.addI (.t rfl) (.t rfl) (by omega) (by omega)) ((show isI _ = isI ((C + i : Nat) : Int) from isI_eq (by omega)))) (.so [] rfl (.eq (.call (zint_Of) (.cons (.cI 1 rfl) .nil)) ((show isZ 1 = Flat (zc (nz 1)) from rfl))) (.fn (n := 6) mixed (.w [1,2,3,12,13,14,15,4,16,17,18,19,20,21,5,22,23,24,25,35,36,37,38,39,40] rfl (st (.eq (.ixWin sl22 ty33 (.t rfl) (.t rfl) (by omega)) (isPtr_eq (by exact ixo2))) rfl (.storeK (z := nz 1) zc_len (.t rfl) (.t rfl) (i := 0) rfl ty33 (by simp only [Int.toNat_natCast]; omega) (M' := [(_, _), _, _, _]) rfl ?_)))))))))))))))
   refine nkQ k18 (.cv (Cv.freezeK (t := 5) (i := 0) (ys := (row0 C R (vals xs) i).map nz) zc_len rfl rfl rfl (by rw [List.length_set]; omega) (row0_fill (by omega) (by omega) rfl)) ?_)
   refine .memEq (M' := [_, _, _]) rfl (.w [1,2,3,12,13,14,15,4,16,17,18,19,20,5,22,23,24,25,36,37,38,39,40] rfl (.region (stM rfl (stM rfl (st (.nilc (.t rfl)) rfl (st (.fieldAddr (.t rfl) fld73_0 ty71) rfl (st (.load1 (.t rfl) (i := 1) rfl ty71 rfl) rfl (stM rfl (st (.buildS [nilS] sl71 ty22 zero22 (fun _ _ => ⟨rfl, trivial⟩) rfl rfl (.cons (.t rfl) rfl rfl rfl .nil) rfl (S := SlM isP [row0 C R (vals xs) i]) rfl) rfl (.appendG (f := isP) (u := ([] : List Int)) sl71 ty22 zero22 (fun _ _ => ⟨nilK, trivial⟩) (fun _ => inferInstance) by22 (.t rfl) (i := 0) rfl (.t rfl) (by rw [hrl]; show i + 1 ≤ _; omega) (by simp) rfl fun gr1 => ?_))))))))))
   refine .memEq (M' := [grM _ _ _, _, _]) rfl (st (.nilc (.t rfl)) rfl (st (.fieldAddr (.t rfl) fld73_0 ty71) rfl (.store (.t rfl) (.t rfl) (i := 1) rfl ty71 rfl rfl (Ss' := [_, _, _]) rfl (M' := [_, (some _, cellM [_, _, _]), _]) rfl (nl (.bln (.nk k8 (.region (st (.addI (.t rfl) (.cI 1 rfl) (by omega) (by omega)) rfl (stM rfl (nl (.thn ?_)))))))))))
   refine hK5 (⟨(i + 1, gr1), by show i + 1 ≤ R; omega⟩) _ _ ?_ (Cv.mem (.c 13 rfl ?_ (.l [1,2,3,12] rfl)) ?_)
   ·show R - (i + 1) < R - i; omega
   ·exact isI_eq (by omega)
   ·show _ = ([grM isP gr1 (rows0 C R (vals xs) (i + 1)), (some b2, cellM [isGr gr1 (rows0 C R (vals xs) (i + 1)).length, isI (C : Int), isI 0]), _] : Mem); rw [← rows0_succ, List.length_append]
 ·refine .exit (.the (.the (.blh (.nk k3 (.sq fun k19 => .cv (Cv.drop ((.cons_cons _ (.cons_cons _ (.cons _ .slnil))))) (.w [2,3,12,13,14] rfl (.cv (Cv.perm (List.Perm.swap _ _ _)) (.region (stM rfl (stM rfl (nkQ k19 (.w [2] rfl (.ret (rtX1 (.inl rfl) Tryz.results43 rfl (.tmp (.t rfl) .nil) ?_))))))))))))))
  exact ⟨b2, gt, rfl, by obtain rfl : i = R := (by omega); rfl⟩
theorem hnf_join {bw C : Nat} {gt : Gr (List Int)} {rs : List (List Int)} {t i col W P K : Nat} (hrow : ∀ r ∈ rs, r.length = W) (hti : t < i) (hi : i < rs.length) (hc : col < W) (hW : W ≤ 128) (hR : rs.length ≤ 64) (hpB : ∀ r ∈ rs, Bd r P) (hqB : Bd (rs.getD i []) K) (hPK : P + K ≤ 90000000) : CtrX Tryz.prog 66 [isPtr bw 0, isI (i : Int), isI (col : Int)] (hwM bw gt rs C t) (fun S M => S = isTup [] ∧ M = hwM bw gt (jn rs t i col) C t) := by
 refine CtrX.i Tryz.func66 rfl Tryz.ntmps66 fun w0 F0 => .w [0,1,2] rfl (.fact (Has.rngI (Has.t (t := 1) rfl)) fun lt1 => .fact (Has.rngI (Has.t (t := 2) rfl)) fun lt2 => ?_)
 obtain ⟨p, hp⟩ : ∃ p, rs[t]? = some p := ⟨_, List.getElem?_eq_getElem (by omega)⟩
 obtain ⟨q, hq⟩ : ∃ q, rs[i]? = some q := ⟨_, List.getElem?_eq_getElem hi⟩
 have hpl := hrow p (List.mem_of_getElem? hp)
 have hql := hrow q (List.mem_of_getElem? hq)
 rw [getD_of hq] at hqB
 have hpP := hpB p (List.mem_of_getElem? hp)
 have hpc := hpP col
 have hqc := hqB col
 have hxn := xgx_nw (cf p col) (cf q col) hqc
 have hyn := xgy_nw (cf p col) (cf q col) hpc
 have hgn : (List.length (words (xgg (cf p col) (cf q col)).natAbs)) ≤ P + K := by
  unfold xgg
  rw [Int.natAbs_natCast]
  refine Nat.le_trans (nw_mono (gcd_le_max _ _)) ?_
  have := nw_max (cf p col).natAbs (cf q col).natAbs
  omega
 have hun := nz_tdiv (cf p col) (xgg (cf p col) (cf q col))
 have hvn := nz_tdiv (cf q col) (xgg (cf p col) (cf q col))
 refine .sq fun k1 => .dr (.m [] rfl (.so [15] rfl (.nilc (.t rfl)) (.so [16] rfl (.fieldAddr (.t rfl) fld73_0 ty71) (.so [17] rfl (.load1 (.t rfl) (i := 0) rfl ty71 rfl) (.m [] rfl (.so [19] rfl (.nilc (.t rfl)) (.so [20] rfl (.fieldAddr (.t rfl) fld73_2 ty3) (.so [21] rfl (.load1 (.t rfl) (i := 0) rfl ty3 rfl) (.so [18,22] rfl (.ixGr sl71 ty22 (.t rfl) (.t rfl) (by omega)) ?_)))))))))
 refine .so [23] rfl (.loadGM (.t rfl) (i := 1) rfl ty22 hp) (.m [] rfl (.so [25] rfl (.nilc (.t rfl)) (.so [26] rfl (.fieldAddr (.t rfl) fld73_0 ty71) (.so [27] rfl (.load1 (.t rfl) (i := 0) rfl ty71 rfl) (.m [] rfl (.so [28,29] rfl (.ixGr sl71 ty22 (.t rfl) (.t rfl) (by omega)) ?_))))))
 refine .so [30] rfl (.loadGM (.t rfl) (i := 1) rfl ty22 hq) (.m [24] rfl (.fn (n := 18) mixed (.w [0,1,2,31,6] rfl (stM rfl (nkQ k1 (.sq fun k2 => .drh [true, true] (Ms := [_, _]) rfl (.m [] rfl (.m [] rfl ?_))))))))
 refine .so [33,34] rfl (.ixK sl22 ty33 (.t rfl) (.t rfl) zc_len ⟨by omega, by rw [List.length_map]; omega⟩ (getZ (i := col) (by omega))) ?_
 refine .so [35] rfl (.loadP (.t rfl) ty33 rfl (Ss' := [_, _]) rfl) (.m [] rfl (.m [] rfl ?_))
 refine .so [37,38] rfl (.ixK sl22 ty33 (.t rfl) (.t rfl) zc_len ⟨by omega, by rw [List.length_map]; omega⟩ (getZ (i := col) (by omega))) ?_
 refine .so [39] rfl (.loadP (.t rfl) ty33 rfl (Ss' := [_, _]) rfl) (.so [36,40] rfl (.eq (.call (zint_XgcdA (by rw [val_words]; omega) (by rw [val_words]; omega)) (.cons (.t rfl) (.cons (.t rfl) .nil))) ((show _ = isTup [isZ (xgg (cf p col) (cf q col)), isZ (xgx (cf p col) (cf q col)), isZ (xgy (cf p col) (cf q col))] from by simp only [zv_nz, zv_nf]))) ?_)
 refine .m [41] rfl (.so [32] rfl (.ext (.t rfl) rfl) (.so [32] rfl (.ext (.t rfl) rfl) (.so [32] rfl (.ext (.t rfl) rfl) (.als2 (n1 := 16) (ds := [8,9,10]) (zs := [[isB false, SlM isU []], [isB false, SlM isU []], [isB false, SlM isU []]]) rfl (.cons rfl rfl zero33 (fun _ _ => ⟨rfl, nilM _ _, trivial⟩) (.cons rfl rfl zero33 (fun _ _ => ⟨rfl, nilM _ _, trivial⟩) (.cons rfl rfl zero33 (fun _ _ => ⟨rfl, nilM _ _, trivial⟩) .nil))) (.cons_cons _ (.cons_cons _ .slnil)) (Cs := [_, _, _]) rfl (.new [42] 0 (Ss' := [_, _]) (Cs' := [cellM [_, _], _, _]) rfl (by kernel_rfl) (by kernel_rfl) rfl rfl rfl (by kernel_rfl) rfl (.t rfl) ty33 rfl rfl rfl rfl (.new [43] 1 (Ss' := [_, _]) (Cs' := [_, cellM [_, _], _]) rfl (by kernel_rfl) (by kernel_rfl) rfl rfl rfl (by kernel_rfl) rfl (.t rfl) ty33 rfl rfl rfl rfl (.fn (n := 18) mixed rfl (fun bs hbs => ?_))))))))
 obtain ⟨b1, b2, b3, rfl⟩ := len3 hbs
 refine .memEq (M' := [_, _, _, _, _]) rfl (.cv (Cv.wk (.k 0 rfl (.k 1 rfl (.k 2 rfl (.k 6 rfl (.k 7 rfl (.k 44 rfl (.cons (t := 8) (Has.op rfl) (.cons (t := 9) (Has.op rfl) (.cons (t := 10) (Has.op rfl) .nil)))))))))) (.store (.t rfl) (.t rfl) (i := 2) rfl ty33 rfl rfl (Ss' := [_, _]) rfl (M' := [_, _, (some _, cellM [_, _]), _, _]) rfl (nkQ k2 (.sq fun k3 => .sr fun k4 => st (.load (.t rfl) (i := 0) rfl ty33 rfl (Ss' := [_, _]) rfl) rfl (st (.eq (.call (zint_Sign (by rw [val_words]; omega)) (.cons (.t rfl) .nil)) ((show _ = isI (sgn (xgg (cf p col) (cf q col))) from by rw [zv_nf]))) rfl ?_)))))
 refine st (.eqI (.t rfl) (.cI 0 rfl)) rfl (nkQ k4 (.cd rfl (fun hc1 => ?_) (fun hc1 => ?_)))
 ·have hg0 := (sgn_eq0 _).1 hc1
  refine .ret (.thr (rtX0D (.cons _ (.cons _ (.cons _ (.cons_cons _ (.cons_cons _ .slnil))))) (.inl rfl) Tryz.results66 rfl (⟨rfl, hwM_eq (jn_no hp hq hg0).symm (by rw [jn_len])⟩)))
 ·have hg0 : ¬ (xgg (cf p col) (cf q col)) = 0 := fun e => hc1 ((sgn_eq0 _).2 e)
  refine .skip (.nk k3 (.sq fun k5 => .drh [true, true, true, true, true] (Ms := [_, _, _, _, _]) rfl (.m [] rfl (.m [] rfl ?_))))
  refine .so [49,50] rfl (.ixK sl22 ty33 (.t rfl) (.t rfl) zc_len ⟨by omega, by rw [List.length_map]; omega⟩ (getZ (i := col) (by omega))) ?_
  refine .so [51] rfl (.loadP (.t rfl) ty33 rfl (Ss' := [_, _]) rfl) (.so [] rfl (.load (.t rfl) (i := 0) rfl ty33 rfl (Ss' := [_, _]) rfl) (.so [52,53] rfl (.call (zint_Exact (by rw [val_words]; omega) (by rw [val_words]; omega)) (.cons (.t rfl) (.cons (.t rfl) .nil))) ?_))
  refine .m [54] rfl (.so [48] rfl (.eq (.ext (.t rfl) rfl) ((show _ = isZ ((cf p col).tdiv (xgg (cf p col) (cf q col))) from isZ_eq (by simp only [zv_nz, zv_nf]; exact if_pos ⟨hg0, Int.tmod_eq_zero_of_dvd (xgg_left _ _)⟩)))) ?_)
  refine .so [48] rfl (.ext (.t rfl) rfl) (.als2 (n1 := 10) (ds := [11]) (zs := [[isB false, SlM isU []]]) rfl (.cons rfl rfl zero33 (fun _ _ => ⟨rfl, nilM _ _, trivial⟩) .nil) (.cons_cons _ (.cons_cons _ (.cons_cons _ (.cons_cons _ (.cons_cons _ .slnil))))) (Cs := [_]) rfl (.new [55] 0 (Ss' := [_, _]) (Cs' := [cellM [_, _]]) rfl (by kernel_rfl) (by kernel_rfl) rfl rfl rfl (by kernel_rfl) rfl (.t rfl) ty33 rfl rfl rfl rfl (.fn (n := 11) mixed rfl (fun bs hbs => ?_))))
  obtain ⟨b4, rfl⟩ := len1 hbs
  refine .memEq (M' := [_, _, _, _, _, _]) rfl (.cv (Cv.wk (.k 0 rfl (.k 1 rfl (.k 2 rfl (.k 6 rfl (.k 7 rfl (.k 8 rfl (.k 9 rfl (.k 10 rfl (.k 56 rfl (.cons (t := 11) (Has.op rfl) .nil))))))))))) (stM rfl (nkQ k5 (.sq fun k6 => .drh [true, true, true, true, true, true] (Ms := [_, _, _, _, _, _]) rfl (.m [] rfl (.m [] rfl ?_))))))
  refine .so [58,59] rfl (.ixK sl22 ty33 (.t rfl) (.t rfl) zc_len ⟨by omega, by rw [List.length_map]; omega⟩ (getZ (i := col) (by omega))) ?_
  refine .so [60] rfl (.loadP (.t rfl) ty33 rfl (Ss' := [_, _]) rfl) (.so [] rfl (.load (.t rfl) (i := 1) rfl ty33 rfl (Ss' := [_, _]) rfl) (.so [61,62] rfl (.call (zint_Exact (by rw [val_words]; omega) (by rw [val_words]; omega)) (.cons (.t rfl) (.cons (.t rfl) .nil))) ?_))
  refine .m [63] rfl (.so [57] rfl (.eq (.ext (.t rfl) rfl) ((show _ = isZ ((cf q col).tdiv (xgg (cf p col) (cf q col))) from isZ_eq (by simp only [zv_nz, zv_nf]; exact if_pos ⟨hg0, Int.tmod_eq_zero_of_dvd (xgg_right _ _)⟩)))) ?_)
  refine .so [57] rfl (.ext (.t rfl) rfl) (.als2 (n1 := 10) (ds := [13]) (zs := [[isB false, SlM isU []]]) rfl (.cons rfl rfl zero33 (fun _ _ => ⟨rfl, nilM _ _, trivial⟩) .nil) (.cons_cons _ (.cons_cons _ (.cons_cons _ (.cons_cons _ (.cons_cons _ (.cons_cons _ .slnil)))))) (Cs := [_]) rfl (.new [64] 0 (Ss' := [_, _]) (Cs' := [cellM [_, _]]) rfl (by kernel_rfl) (by kernel_rfl) rfl rfl rfl (by kernel_rfl) rfl (.t rfl) ty33 rfl rfl rfl rfl (.fn (n := 11) mixed rfl (fun bs hbs => ?_))))
  obtain ⟨b5, rfl⟩ := len1 hbs
  refine .memEq (M' := [_, _, _, _, _, _, _]) rfl (.cv (Cv.wk (.k 0 rfl (.k 1 rfl (.k 6 rfl (.k 7 rfl (.k 9 rfl (.k 10 rfl (.k 11 rfl (.k 65 rfl (.cons (t := 13) (Has.op rfl) .nil)))))))))) (stM rfl (nkQ k6 (.dry mixed (.u 0 rfl (.mv (.t rfl)) (.u 1 rfl (.nilc (.t rfl)) (.u 2 rfl (.fieldAddr (.t rfl) fld73_0 ty71) (.u 4 rfl (.mv (.t rfl)) (.u 5 rfl (.nilc (.t rfl)) (.u 6 rfl (.fieldAddr (.t rfl) fld73_2 ty3) (.u 8 rfl (.mv (.t rfl)) (.u 9 rfl (.nilc (.t rfl)) (.u 10 rfl (.fieldAddr (.t rfl) fld73_0 ty71) (.u 12 rfl (.mv (.t rfl)) (.u 14 rfl (.mv (.t rfl)) (.u 16 rfl (.mv (.t rfl)) (.u 20 rfl (.mv (.t rfl)) (.u 22 rfl (.mv (.t rfl)) (.go [] (.so 3 [] rfl (.load1 (.t rfl) (i := 5) rfl ty71 rfl) (.so 7 [] rfl (.load1 (.t rfl) (i := 5) rfl ty3 rfl) (.so 11 [] rfl (.load1 (.t rfl) (i := 5) rfl ty71 rfl) (.so 13 [] rfl (.load (.t rfl) (i := 3) rfl ty33 rfl (Ss' := [_, _]) rfl) (.so 15 [] rfl (.load (.t rfl) (i := 4) rfl ty33 rfl (Ss' := [_, _]) rfl) ?_))))))))))))))))))))))))
  refine .so 17 [79,81] rfl (.eq (.call (hnf_mixed (A := K + 1) (B := P + 2) (K := P) (L := K) (by rw [val_words]; omega) (by rw [vals_nz]; exact hpP) (by rw [val_words]; omega) (by rw [vals_nz]; exact hqB) (by omega) (by omega) (by rw [List.length_map, List.length_map]; omega) (by rw [List.length_map]; omega)) (.cons (.t rfl) (.cons (.t rfl) (.cons (.t rfl) (.cons (.t rfl) .nil))))) ((show _ = isP (mx2 (xgx (cf p col) (cf q col)) p (xgy (cf p col) (cf q col)) q) from isPl_eq (by simp only [zv_nf, vals_nz])))) ?_
  refine .so 18 [] rfl (.load (.t rfl) (i := 0) rfl ty33 rfl (Ss' := [_, _]) rfl) (.so 19 [84] rfl (.call (zint_Neg (by rw [val_words]; omega)) (.cons (.t rfl) .nil)) ?_)
  refine .so 21 [] rfl (.load (.t rfl) (i := 1) rfl ty33 rfl (Ss' := [_, _]) rfl) (.so 23 [85,87] rfl (.eq (.call (hnf_mixed (A := K) (B := P) (K := P) (L := K) (by rw [val_words, zv_nf, Int.natAbs_neg]; omega) (by rw [vals_nz]; exact hpP) (by rw [val_words]; omega) (by rw [vals_nz]; exact hqB) (by omega) (by omega) (by rw [List.length_map, List.length_map]; omega) (by rw [List.length_map]; omega)) (.cons (.t rfl) (.cons (.t rfl) (.cons (.t rfl) (.cons (.t rfl) .nil))))) ((show _ = isP (mx2 (-((cf q col).tdiv (xgg (cf p col) (cf q col)))) p ((cf p col).tdiv (xgg (cf p col) (cf q col))) q) from isPl_eq (by simp only [zv_nf, vals_nz])))) ?_)
  refine .fn [24,25,26,27] (.w [78,69,73,77,83,89] rfl (st (.ixGr sl71 ty22 (.t rfl) (.t rfl) (by omega)) rfl (.storeGM (z := mx2 (xgx (cf p col) (cf q col)) p (xgy (cf p col) (cf q col)) q) (.t rfl) (.t rfl) (i := 6) rfl ty22 (by omega) (M' := [_, _, _, _, _, _, grM _ _ _]) rfl (st (.ixGr sl71 ty22 (.t rfl) (.t rfl) (by omega)) rfl (.storeGM (z := mx2 (-((cf q col).tdiv (xgg (cf p col) (cf q col)))) p ((cf p col).tdiv (xgg (cf p col) (cf q col))) q) (.t rfl) (.t rfl) (i := 6) rfl ty22 (by rw [List.length_set]; omega) (M' := [_, _, _, _, _, _, grM _ _ _]) rfl ?_)))))
  refine nl (rtX0D (.cons _ (.cons _ (.cons _ (.cons _ (.cons _ (.cons_cons _ (.cons_cons _ .slnil))))))) (.inr rfl) Tryz.results66 rfl (⟨rfl, hwM_eq (jn_go hp hq hg0).symm (by rw [jn_len])⟩))
theorem hnf_reduce {bw C : Nat} {gt : Gr (List Int)} {rs : List (List Int)} {t col W P : Nat} (hrow : ∀ r ∈ rs, r.length = W) (ht : t < rs.length) (hc : col < W) (hW : W ≤ 128) (hR : rs.length ≤ 64) (hpB : ∀ r ∈ rs, Bd r P) (hP : P ≤ 90000000) (h0 : 0 < cf (rs.getD t []) col) : CtrX Tryz.prog 67 [isPtr bw 0, isI (col : Int)] (hwM bw gt rs C t) (fun S M => S = isTup [] ∧ M = hwM bw gt (rds rs t col t) C t) := by
 refine CtrX.i Tryz.func67 rfl Tryz.ntmps67 fun w0 F0 => .w [0,1] rfl (.fact (Has.rngI (Has.t (t := 1) rfl)) fun lt1 => ?_)
 obtain ⟨b, hb⟩ : ∃ b, rs[t]? = some b := ⟨_, List.getElem?_eq_getElem ht⟩
 have hbl := hrow b (List.mem_of_getElem? hb)
 rw [getD_of hb] at h0
 have hbP := hpB b (List.mem_of_getElem? hb)
 have hbc := hbP col
 refine .sq fun k1 => .dr (.m [] rfl (.so [9] rfl (.nilc (.t rfl)) (.so [10] rfl (.fieldAddr (.t rfl) fld73_0 ty71) (.so [11] rfl (.load1 (.t rfl) (i := 0) rfl ty71 rfl) (.m [] rfl (.so [13] rfl (.nilc (.t rfl)) (.so [14] rfl (.fieldAddr (.t rfl) fld73_2 ty3) (.so [15] rfl (.load1 (.t rfl) (i := 0) rfl ty3 rfl) (.fn (n := 8) mixed (.w [0,1,12,16] rfl (st (.ixGr sl71 ty22 (.t rfl) (.t rfl) (by omega)) rfl (st (.loadGM (.t rfl) (i := 1) rfl ty22 hb) rfl (stM rfl (nkQ k1 (.sr fun k2 => stM rfl (st (.nilc (.t rfl)) rfl (st (.fieldAddr (.t rfl) fld73_2 ty3) rfl (st (.load1 (.t rfl) (i := 0) rfl ty3 rfl) rfl (st (.mv (.cI 0 rfl)) rfl (nkQ k2 (.w [0,1,4,22,23] rfl (.block (.loopF [0,1,4,22] (fun (z : { i : Nat // i ≤ t }) => match z with | ⟨i, hi⟩ => [(23, isI (i : Int))]) (fun M => fun (z : { i : Nat // i ≤ t }) => match z with | ⟨i, hi⟩ => hwM bw gt (rds rs t col i) C t) (fun (z : { i : Nat // i ≤ t }) => match z with | ⟨i, hi⟩ => t - i) (⟨0, Nat.zero_le _⟩) (Cv.mem (.c 23 rfl ?_ (.l [0,1,4,22] rfl)) ?_) ?_)))))))))))))))))))))))
 ·rfl
 ·rfl
 rintro ⟨i, hi⟩ K3 hK3
 refine .w [23,0,1,4,22] rfl (.memEq (M' := hwM bw gt (rds rs t col i) C t) rfl ?_)
 have hlen := rds_len rs t col i
 have hb2 : (rds rs t col i)[t]? = some b := (rds_off hi).trans hb
 refine .sr fun k4 => st (.ltI (.t rfl) (.t rfl)) rfl (nkQ k4 (.sq fun k5 => .cd rfl (fun hc1 => ?_) (fun hc1 => ?_)))
 ·obtain ⟨r, hr⟩ : ∃ r, rs[i]? = some r := ⟨_, List.getElem?_eq_getElem (by omega)⟩
  have hr2 : (rds rs t col i)[i]? = some r := (rds_off (Nat.le_refl _)).trans hr
  have hrl := hrow r (List.mem_of_getElem? hr)
  have hrP := hpB r (List.mem_of_getElem? hr)
  have hrc := hrP col
  have hdn := div_nw h0 hrc
  have h1 := nz_one
  refine .skip (.nk k5 (.sq fun k6 => .block (.sr fun k7 => stM rfl (stM rfl (nkQ k7 (.sq fun k8 => .drh [true, true] (Ms := [_, _]) rfl (.m [] rfl (.so [27] rfl (.nilc (.t rfl)) (.so [28] rfl (.fieldAddr (.t rfl) fld73_0 ty71) (.so [29] rfl (.load1 (.t rfl) (i := 0) rfl ty71 rfl) (.m [] rfl (.so [30,31] rfl (.ixGr sl71 ty22 (.t rfl) (.t rfl) (by omega)) ?_))))))))))))
  refine .so [32] rfl (.loadGM (.t rfl) (i := 1) rfl ty22 hr2) (.m [] rfl ?_)
  refine .so [33,34] rfl (.ixK sl22 ty33 (.t rfl) (.t rfl) zc_len ⟨by omega, by rw [List.length_map]; omega⟩ (getZ (i := col) (by omega))) ?_
  refine .so [35] rfl (.loadP (.t rfl) ty33 rfl (Ss' := [_, _]) rfl) (.m [] rfl (.m [] rfl ?_))
  refine .so [37,38] rfl (.ixK sl22 ty33 (.t rfl) (.t rfl) zc_len ⟨by omega, by rw [List.length_map]; omega⟩ (getZ (i := col) (by omega))) ?_
  refine .so [39] rfl (.loadP (.t rfl) ty33 rfl (Ss' := [_, _]) rfl) (.so [36,40] rfl (.eq (.call (zint_Floor (by rw [val_words]; omega) (by rw [val_words]; omega) (by simp only [zv_nf, zv_nz]; exact h0)) (.cons (.t rfl) (.cons (.t rfl) .nil))) ((show _ = isTup [isZ (cf r col / cf b col), isZ (cf r col % cf b col), isB true] from by simp only [zv_nz, zv_nf]))) ?_)
  refine .m [41] rfl (.so [26] rfl (.ext (.t rfl) rfl) (.so [26] rfl (.ext (.t rfl) rfl) (.so [26] rfl (.ext (.t rfl) rfl) (.als2 (n1 := 21) (ds := [6,7]) (zs := [[isB false, SlM isU []], [isB false, SlM isU []]]) rfl (.cons rfl rfl zero33 (fun _ _ => ⟨rfl, nilM _ _, trivial⟩) (.cons rfl rfl zero33 (fun _ _ => ⟨rfl, nilM _ _, trivial⟩) .nil)) (.cons_cons _ (.cons_cons _ .slnil)) (Cs := [_, _]) rfl (.new [42] 0 (Ss' := [_, _]) (Cs' := [cellM [_, _], _]) rfl (by kernel_rfl) (by kernel_rfl) rfl rfl rfl (by kernel_rfl) rfl (.t rfl) ty33 rfl rfl rfl rfl (.new [43] 1 (Ss' := [_, _]) (Cs' := [_, cellM [_, _]]) rfl (by kernel_rfl) (by kernel_rfl) rfl rfl rfl (by kernel_rfl) rfl (.t rfl) ty33 rfl rfl rfl rfl (.fn (n := 23) mixed rfl (fun bs hbs => ?_))))))))
  obtain ⟨b1, b2, rfl⟩ := len2 hbs
  refine .memEq (M' := [_, _, _, _]) rfl (.cv (Cv.wk (.k 0 rfl (.k 1 rfl (.k 4 rfl (.k 22 rfl (.k 23 rfl (.k 24 rfl (.k 25 rfl (.k 5 rfl (.k 27 rfl (.k 28 rfl (.k 29 rfl (.k 30 rfl (.k 31 rfl (.k 32 rfl (.k 33 rfl (.k 34 rfl (.k 35 rfl (.k 36 rfl (.k 37 rfl (.k 38 rfl (.k 39 rfl (.k 40 rfl (.k 41 rfl (.k 26 rfl (.k 42 rfl (.k 43 rfl (.k 44 rfl (.cons (t := 6) (Has.op rfl) (.cons (t := 7) (Has.op rfl) .nil)))))))))))))))))))))))))))))) (stM rfl (nkQ k8 (.dry mixed (.u 0 rfl (.mv (.t rfl)) (.u 1 rfl (.nilc (.t rfl)) (.u 2 rfl (.fieldAddr (.t rfl) fld73_0 ty71) (.u 4 rfl (.mv (.t rfl)) (.u 6 rfl (.mv (.t rfl)) (.u 7 rfl (.nilc (.t rfl)) (.u 8 rfl (.fieldAddr (.t rfl) fld73_0 ty71) (.u 10 rfl (.mv (.t rfl)) (.u 15 rfl (.mv (.t rfl)) (.go [] (.so 3 [] rfl (.load1 (.t rfl) (i := 2) rfl ty71 rfl) (.so 5 [] rfl (.call (zint_Of) (.cons (.cI 1 rfl) .nil)) (.so 9 [] rfl (.load1 (.t rfl) (i := 2) rfl ty71 rfl) (.so 11 [54] rfl (.ixGr sl71 ty22 (.t rfl) (.t rfl) (by omega)) ?_))))))))))))))))))
  refine .so 12 [56] rfl (.loadGM (.t rfl) (i := 3) rfl ty22 hr2) (.so 13 [] rfl (.load (.t rfl) (i := 0) rfl ty33 rfl (Ss' := [_, _]) rfl) (.so 14 [58] rfl (.call (zint_Neg (by rw [val_words]; omega)) (.cons (.t rfl) .nil)) ?_))
  refine .so 16 [50,57,59] rfl (.eq (.call (hnf_mixed (A := 1) (B := P) (K := P) (L := P) (by rw [val_words]; omega) (by rw [vals_nz]; exact hrP) (by rw [val_words, zv_nf, Int.natAbs_neg]; omega) (by rw [vals_nz]; exact hbP) (by omega) (by omega) (by rw [List.length_map, List.length_map]; omega) (by rw [List.length_map]; omega)) (.cons (.t rfl) (.cons (.t rfl) (.cons (.t rfl) (.cons (.t rfl) .nil))))) ((show _ = isP (mx2 1 r (-(cf r col / cf b col)) b) from isPl_eq (by simp only [zv_nf, vals_nz])))) ?_
  refine .fn [17,18] (.w [0,1,4,22,23,24,25,5,27,28,29,30,31,32,33,34,35,36,37,38,39,40,41,26,42,43,44,6,7,45,46,47,49,51,52,53,55,60,48,50,54,56,57,58,59,61] rfl (st (.ixGr sl71 ty22 (.t rfl) (.t rfl) (by omega)) rfl (.storeGM (z := mx2 1 r (-(cf r col / cf b col)) b) (.t rfl) (.t rfl) (i := 3) rfl ty22 (by omega) (M' := [_, _, _, grM _ _ _]) rfl (nl (.bln (.nk k6 (.region (st (.addI (.t rfl) (.cI 1 rfl) (by omega) (by omega)) rfl (stM rfl (nl (.thn (hK3 (⟨i + 1, by omega⟩) _ _ ?_ (Cv.trans (Cv.drop ((.cons _ (.cons _ (.cons_cons _ (.cons_cons _ .slnil)))))) (Cv.mem (.c 23 rfl ?_ (.l [0,1,4,22] rfl)) ?_))))))))))))))
  ·show t - (i + 1) < t - i; omega
  ·exact isI_eq (by omega)
  ·exact hwM_eq (rd_go hr2 hb2).symm (by show _ = (rds rs t col (i + 1)).length; rw [hlen, rds_len])
 ·refine .exit (.the (.the (.blh (rtX0D (.cons_cons _ (.cons_cons _ .slnil)) (.inr rfl) Tryz.results67 rfl (⟨rfl, by rw [show t = i by omega]⟩)))))
theorem hnf_column {bw C : Nat} {gt : Gr (List Int)} {rs : List (List Int)} {t col W K : Nat} (hrow : ∀ r ∈ rs, r.length = W) (ht : t < rs.length) (hc : col < W) (hW : W ≤ 128) (hR : rs.length ≤ 64) (hb : ∀ r ∈ rs, Bd r K) (hK : (K + 3) * (rs.length + 2) ≤ 80000000) : CtrX Tryz.prog 44 [isPtr bw 0, isI (col : Int)] (hwM bw gt rs C t) (fun S M => S = isTup [] ∧ M = hwM bw gt (hcol ⟨rs, t⟩ col).rows C (hcol ⟨rs, t⟩ col).top) := by
 refine CtrX.i Tryz.func44 rfl Tryz.ntmps44 fun w0 F0 => .w [0,1] rfl (.fact (Has.rngI (Has.t (t := 1) rfl)) fun lt1 => ?_)
 obtain ⟨N, hN⟩ : ∃ N, N = rs.length - (t + 1) := ⟨_, rfl⟩
 obtain ⟨P, hP⟩ : ∃ P, P = K + N * (K + 3) := ⟨_, rfl⟩
 have hK1 : (K + 3) * (rs.length + 2) = rs.length * (K + 3) + 2 * (K + 3) := by rw [Nat.mul_add, Nat.mul_comm (K + 3) rs.length, Nat.mul_comm (K + 3) 2]
 have hK2 : N * (K + 3) ≤ rs.length * (K + 3) := Nat.mul_le_mul_right _ (by omega)
 have hcl : hcol ⟨rs, t⟩ col = if cf ((jns rs t col N).getD t []) col = 0 then ⟨jns rs t col N, t⟩ else ⟨rds (hsg (jns rs t col N) t col) t col t, t + 1⟩ := by rw [hN]; rfl
 have hlenA := jns_len rs t col N
 obtain ⟨p, hp⟩ : ∃ p, (jns rs t col N)[t]? = some p := ⟨_, List.getElem?_eq_getElem (by omega)⟩
 have hrowA := jns_row hrow ht (col := col) N
 have hbA : ∀ r ∈ jns rs t col N, Bd r P := by rw [hP]; exact jns_bd hb N
 have hpl := hrowA p (List.mem_of_getElem? hp)
 have hpP := hbA p (List.mem_of_getElem? hp)
 have hpc := hpP col
 rw [getD_of hp] at hcl
 refine .sq fun k1 => .sr fun k2 => stM rfl (st (.nilc (.t rfl)) rfl (st (.fieldAddr (.t rfl) fld73_2 ty3) rfl (st (.load1 (.t rfl) (i := 0) rfl ty3 rfl) rfl (st (.addI (.t rfl) (.cI 1 rfl) (by omega) (by omega)) rfl (stM rfl (nkQ k2 (.w [0,1,4] rfl (.block (.loopF [0,1] (fun (z : { n : Nat // n ≤ N }) => match z with | ⟨n, hn⟩ => [(4, isI ((t + 1 + n : Nat) : Int))]) (fun M => fun (z : { n : Nat // n ≤ N }) => match z with | ⟨n, hn⟩ => hwM bw gt (jns rs t col n) C t) (fun (z : { n : Nat // n ≤ N }) => match z with | ⟨n, hn⟩ => N - n) (⟨0, Nat.zero_le _⟩) (Cv.mem (.c 4 rfl ?_ (.l [0,1] rfl)) ?_) ?_)))))))))
 ·exact isI_eq (by omega)
 ·rfl
 rintro ⟨n, hn⟩ K3 hK3
 refine .w [4,0,1] rfl (.memEq (M' := hwM bw gt (jns rs t col n) C t) rfl ?_)
 have hlen := jns_len rs t col n
 have hnK : n * (K + 3) ≤ N * (K + 3) := Nat.mul_le_mul_right _ hn
 refine .sq fun k4 => .sr fun k5 => stM rfl (stM rfl (st (.nilc (.t rfl)) rfl (st (.fieldAddr (.t rfl) fld73_0 ty71) rfl (st (.load1 (.t rfl) (i := 0) rfl ty71 rfl) rfl (st (.len sl71 (.t rfl)) rfl (st (.ltI (.t rfl) (.t rfl)) rfl (nkQ k5 (.cd rfl (fun hc1 => ?_) (fun hc1 => ?_)))))))))
 ·refine .skip (.nk k4 (.sq fun k6 => .block (.region (stM rfl (stM rfl (stM rfl (.callX (hnf_join (rs := jns rs t col n) (i := t + 1 + n) (col := col) (P := K + n * (K + 3)) (K := K) (jns_row hrow ht n) (by omega) (by omega) hc hW (by omega) (jns_bd hb n) (by rw [show (jns rs t col n).getD (t + 1 + n) [] = rs.getD (t + 1 + n) [] from by rw [List.getD, jns_far (Nat.le_refl _)]; rfl]; exact getD_bd hb _) (by omega)) (List.Perm.refl _) (.cons (.t rfl) (.cons (.t rfl) (.cons (.t rfl) .nil))) rfl ?_)))))))
  rintro _ _ ⟨rfl, rfl⟩
  refine .memEq (M' := hwM bw gt (jns rs t col (n + 1)) C t) rfl (nl (.bln (.nk k6 (.region (stM rfl (st (.addI (.t rfl) (.cI 1 rfl) (by omega) (by omega)) rfl (stM rfl (nl (.thn (hK3 (⟨n + 1, by omega⟩) _ _ ?_ (Cv.mem (.c 4 rfl ?_ (.l [0,1] rfl)) ?_)))))))))))
  ·show N - (n + 1) < N - n; omega
  ·exact isI_eq (by omega)
  ·rfl
 ·have hnN : N = n := (by omega)
  subst hnN
  refine .exit (.the (.the (.blh (.nk k1 (.w [0,1] rfl (.cutF [0,1] (fun (z : { c : List (List Int) // c = hsg (jns rs t col N) t col ∧ ¬ cf p col = 0 }) => match z with | ⟨c, hcs⟩ => []) (fun M => fun (z : { c : List (List Int) // c = hsg (jns rs t col N) t col ∧ ¬ cf p col = 0 }) => match z with | ⟨c, hcs⟩ => hwM bw gt c C t) (fun K7 hK7 => ?_) ?_))))))
  ·refine .sq fun k8 => .dr (.m [] rfl (.so [23] rfl (.nilc (.t rfl)) (.so [24] rfl (.fieldAddr (.t rfl) fld73_0 ty71) (.so [25] rfl (.load1 (.t rfl) (i := 0) rfl ty71 rfl) (.m [] rfl (.so [27] rfl (.nilc (.t rfl)) (.so [28] rfl (.fieldAddr (.t rfl) fld73_2 ty3) (.so [29] rfl (.load1 (.t rfl) (i := 0) rfl ty3 rfl) (.so [26,30] rfl (.ixGr sl71 ty22 (.t rfl) (.t rfl) (by omega)) ?_)))))))))
   refine .so [31] rfl (.loadGM (.t rfl) (i := 1) rfl ty22 hp) (.m [] rfl (.fn (n := 11) mixed (.w [0,1,32,33] rfl ?_)))
   refine st (.ixK sl22 ty33 (.t rfl) (.t rfl) zc_len ⟨by omega, by rw [List.length_map]; omega⟩ (getZ (i := col) (by omega))) rfl ?_
   refine st (.loadP (.t rfl) ty33 rfl (Ss' := [_, _]) rfl) rfl ?_
   refine st (.eq (.call (zint_Sign (by rw [val_words]; omega)) (.cons (.t rfl) .nil)) ((show _ = isI (sgn (cf p col)) from by first | (rw [zv_nf]; done) | (rw [zv_nz]; done) | rfl))) rfl ?_
   refine nkQ k8 (.block (.sr fun k9 => st (.eqI (.t rfl) (.cI 0 rfl)) rfl (stM rfl (nkQ k9 (.w [0,1,36,37] rfl (.cd rfl (fun hc2 => ?_) (fun hc2 => ?_)))))))
   ·have h0 : cf p col = 0 := (sgn_eq0 _).1 hc2
    refine .ret (.blr (.thr (rtX0 (.inl rfl) Tryz.results44 rfl (⟨rfl, by rw [hcl, if_pos h0]⟩))))
   ·have h0 : ¬ cf p col = 0 := fun e => hc2 ((sgn_eq0 _).2 e)
    refine .sr fun k10 => st (.eqI (.t rfl) (.cI (-1) rfl)) rfl (stM rfl (nkQ k10 (.cd rfl (fun hc3 => ?_) (fun hc3 => ?_))))
    ·have hl0 : cf p col < 0 := (sgn_lt _).1 (by omega)
     refine .dry mixed (.u 0 rfl (.mv (.t rfl)) (.u 1 rfl (.nilc (.t rfl)) (.u 2 rfl (.fieldAddr (.t rfl) fld73_0 ty71) (.u 4 rfl (.mv (.t rfl)) (.u 5 rfl (.nilc (.t rfl)) (.u 6 rfl (.fieldAddr (.t rfl) fld73_2 ty3) (.u 9 rfl (.mv (.t rfl)) (.u 10 rfl (.nilc (.t rfl)) (.u 11 rfl (.fieldAddr (.t rfl) fld73_0 ty71) (.u 13 rfl (.mv (.t rfl)) (.u 14 rfl (.nilc (.t rfl)) (.u 15 rfl (.fieldAddr (.t rfl) fld73_2 ty3) (.u 20 rfl (.mv (.t rfl)) (.u 21 rfl (.nilc (.t rfl)) (.u 22 rfl (.fieldAddr (.t rfl) fld73_0 ty71) (.u 24 rfl (.mv (.t rfl)) (.u 25 rfl (.nilc (.t rfl)) (.u 26 rfl (.fieldAddr (.t rfl) fld73_2 ty3) (.go [] (.so 3 [] rfl (.load1 (.t rfl) (i := 0) rfl ty71 rfl) (.so 7 [] rfl (.load1 (.t rfl) (i := 0) rfl ty3 rfl) (.so 8 [] rfl (.call (zint_Of) (.cons (.cI (-1) rfl) .nil)) (.so 12 [] rfl (.load1 (.t rfl) (i := 0) rfl ty71 rfl) (.so 16 [] rfl (.load1 (.t rfl) (i := 0) rfl ty3 rfl) ?_))))))))))))))))))))))))
     refine .so 17 [53,57] rfl (.ixGr sl71 ty22 (.t rfl) (.t rfl) (by omega)) ?_
     refine .so 18 [58] rfl (.loadGM (.t rfl) (i := 1) rfl ty22 hp) (.so 19 [] rfl (.build [isB false, SlM isU []] pl33 zero33 (fun _ _ => ⟨rfl, nilM _ _, trivial⟩) .nil (Z'' := [_, _]) rfl) (.so 23 [] rfl (.load1 (.t rfl) (i := 0) rfl ty71 rfl) (.so 27 [] rfl (.load1 (.t rfl) (i := 0) rfl ty3 rfl) (.so 28 [64,68] rfl (.ixGr sl71 ty22 (.t rfl) (.t rfl) (by omega)) ?_))))
     refine .so 29 [69] rfl (.loadGM (.t rfl) (i := 1) rfl ty22 hp) (.so 30 [49,59,60,70] rfl (.eq (.call (hnf_mixed (A := 1) (B := 1) (K := P) (L := P) (by rw [val_words]; exact nw_small' (by decide)) (by rw [vals_nz]; exact hpP) (by exact nw_small' (by decide)) (by rw [vals_nz]; exact hpP) (by omega) (by omega) rfl (by rw [List.length_map]; omega)) (.cons (.t rfl) (.cons (.t rfl) (.cons (.t rfl) (.cons (.t rfl) .nil))))) ((show _ = isP (mx2 (-1) p 0 p) from isPl_eq (by simp only [zv_nf, vals_nz]; rfl)))) ?_)
     refine .fn [31,32] (.w [0,1,44,48,71] rfl (st (.ixGr sl71 ty22 (.t rfl) (.t rfl) (by omega)) rfl (.storeGM (z := mx2 (-1) p 0 p) (.t rfl) (.t rfl) (i := 1) rfl ty22 (by omega) (M' := [_, grM _ _ _]) rfl (nl (.bln (.thn (hK7 (⟨_, rfl, h0⟩) _ _ (Cv.mem (.l [0,1] rfl) ?_))))))))
     ·exact hwM_eq (by unfold hsg; rw [getD_of hp, if_pos hl0]; rfl) (by rw [hsg_len])
    ·have hl0 : ¬ cf p col < 0 := fun e => by rcases sgn_cases (cf p col) with h | h | h <;> omega
     refine .skip (.bln (.thn (hK7 (⟨_, rfl, h0⟩) _ _ (Cv.mem (.l [0,1] rfl) ?_))))
     ·exact hwM_eq (by unfold hsg; rw [getD_of hp, if_neg hl0]) (by rw [hsg_len])
  rintro ⟨c, hcs, h0⟩
  refine .w [0,1] rfl (.memEq (M' := hwM bw gt c C t) rfl ?_)
  subst hcs
  have hpos := hsg_pos hp h0
  refine .sr fun k11 => stM rfl (stM rfl (.callX (hnf_reduce (rs := hsg (jns rs t col N) t col) (col := col) (P := P) (hsg_row hrowA (by omega)) (by rw [hsg_len]; omega) hc hW (by rw [hsg_len]; omega) (hsg_bd hbA) (by omega) hpos) (List.Perm.refl _) (.cons (.t rfl) (.cons (.t rfl) .nil)) rfl ?_))
  rintro _ _ ⟨rfl, rfl⟩
  refine .memEq (M' := hwM bw gt (rds (hsg (jns rs t col N) t col) t col t) C t) rfl (nkQ k11 (.region (stM rfl (st (.nilc (.t rfl)) rfl (st (.fieldAddr (.t rfl) fld73_2 ty3) rfl (st (.load1 (.t rfl) (i := 0) rfl ty3 rfl) rfl (st (.addI (.t rfl) (.cI 1 rfl) (by omega) (by omega)) rfl (st (.nilc (.t rfl)) rfl (st (.fieldAddr (.t rfl) fld73_2 ty3) rfl (.store (.t rfl) (.t rfl) (i := 0) rfl ty3 rfl rfl (Ss' := [_, _, _]) rfl (M' := [(some _, cellM [_, _, _]), _]) rfl (nl (rtX0 (.inr rfl) Tryz.results44 rfl (⟨rfl, (hwM_top (top' := t + 1) (by omega)).trans (by rw [hcl, if_neg h0])⟩)))))))))))))
theorem hnf_part {rs : List (List Int)} {W lo hi : Nat} {c tp : Int} (hrow : ∀ r ∈ rs, r.length = W) (h1 : lo ≤ hi) (h2 : hi ≤ W) (hW : W ≤ 128) (hR : rs.length ≤ 64) : Ctr Tryz.prog 45 [PtrL [SlM isP rs, isI c, isI tp], isI (lo : Int), isI (hi : Int)] (isMz rs.length (hi - lo) (flatP lo hi rs)) := by
 refine Ctr.i Tryz.func45 rfl Tryz.ntmps45 fun w0 F0 => .w [0,1,2] rfl (.fact (Has.rngI (Has.t (t := 1) rfl)) fun lt1 => .fact (Has.rngI (Has.t (t := 2) rfl)) fun lt2 => ?_)
 have hmx : ∀ i, i ≤ rs.length → (flatP lo hi (rs.take i)).length ≤ 8192 := fun i hi' => by
  rw [flatP_len (rs := rs.take i) h1 h2 (fun r hr => hrow r (List.mem_of_mem_take hr)), List.length_take]
  exact Nat.le_trans (Nat.mul_le_mul (show _ ≤ 64 by omega) (show hi - lo ≤ 128 by omega)) (by decide)
 refine .sr fun k1 => .alloc [isI 0, isI 0, nilS] zero24 (fun _ _ => ⟨⟨rfl, by decide, by decide⟩, ⟨rfl, by decide, by decide⟩, rfl, trivial⟩) rfl fun b1 => nkQ k1 (.sr fun k2 => stM rfl (st (.nilcP (.t rfl)) rfl (st (.fieldAddrP (.t rfl) fld73_0 ty71 (Ss' := [_, _, _]) rfl) rfl (st (.loadP1 (.t rfl) ty71) rfl (st (.len sl71 (.t rfl)) rfl (stM rfl (stM rfl (st (.eq (.subI (.t rfl) (.t rfl) (by omega) (by omega)) ((show isI _ = isI ((hi - lo : Nat) : Int) from isI_eq (by omega)))) rfl (st (.build [isI 0, isI 0, nilS] pl24 zero24 (fun _ _ => ⟨⟨rfl, by decide, by decide⟩, ⟨rfl, by decide, by decide⟩, rfl, trivial⟩) (.cons (.t rfl) rfl rfl rfl (.cons (.t rfl) rfl rfl rfl .nil)) (Z'' := [_, _, _]) rfl) rfl (.alloc [isI 0, isI 0, nilS] zero24 (fun _ _ => ⟨⟨rfl, by decide, by decide⟩, ⟨rfl, by decide, by decide⟩, rfl, trivial⟩) rfl fun b2 => .store (.t rfl) (.t rfl) (i := 0) rfl ty24 rfl rfl (Ss' := [_, _, _]) rfl (M' := [(some _, cellM [_, _, _]), _]) rfl (nkQ k2 (.w [0,1,2,6,7] rfl (.sq fun k3 => .sq fun k4 => .cv (Cv.growF (Bool × List Nat) (i := 0) (o := 2) rfl rfl rfl) (.memEq (M' := [grMK zc Gr.nil [], _, _]) rfl (.region (stM rfl (st (.nilcP (.t rfl)) rfl (st (.fieldAddrP (.t rfl) fld73_0 ty71 (Ss' := [_, _, _]) rfl) rfl (st (.loadP1 (.t rfl) ty71) rfl (st (.len sl71 (.t rfl)) rfl (st (.mv (.cI 0 rfl)) rfl (nkQ k4 (.block ?_)))))))))))))))))))))))
 refine .loopF [1,2,6,7,22,23] (fun (z : { z : Nat × Gr (Bool × List Nat) // z.1 ≤ rs.length }) => match z with | ⟨(i, g), hI⟩ => [(24, isI (i : Int))]) (fun M => fun (z : { z : Nat × Gr (Bool × List Nat) // z.1 ≤ rs.length }) => match z with | ⟨(i, g), hI⟩ => [grMK zc g ((flatP lo hi (rs.take i)).map nz), (some b2, cellM [isI (rs.length : Int), isI ((hi - lo : Nat) : Int), isGr g ((flatP lo hi (rs.take i)).map nz).length]), (some b1, cellM [isI 0, isI 0, nilS])]) (fun (z : { z : Nat × Gr (Bool × List Nat) // z.1 ≤ rs.length }) => match z with | ⟨(i, g), hI⟩ => rs.length - i) (⟨(0, Gr.nil), Nat.zero_le _⟩) (Cv.mem (.c 24 rfl ?_ (.l [1,2,6,7,22,23] rfl)) ?_) ?_
 ·rfl
 ·rfl
 rintro ⟨⟨i, g⟩, hI⟩ K5 hK5
 refine .w [24,1,2,6,7,22,23] rfl (.memEq (M' := [grMK zc g ((flatP lo hi (rs.take i)).map nz), (some b2, cellM [isI (rs.length : Int), isI ((hi - lo : Nat) : Int), isGr g ((flatP lo hi (rs.take i)).map nz).length]), (some b1, cellM [isI 0, isI 0, nilS])]) rfl ?_)
 simp only [] at hI
 have hfl := hmx i hI
 refine .sr fun k6 => st (.ltI (.t rfl) (.t rfl)) rfl (nkQ k6 (.sq fun k7 => .cd rfl (fun hc1 => ?_) (fun hc1 => ?_)))
 ·obtain ⟨r, hr⟩ : ∃ r, rs[i]? = some r := ⟨_, List.getElem?_eq_getElem (by omega)⟩
  have hrW := hrow r (List.mem_of_getElem? hr)
  have hrm : (((r.take hi).drop lo).map nz).length = hi - lo := by rw [List.length_map, List.length_drop, List.length_take]; omega
  refine .skip (.nk k7 (.sq fun k8 => .block (.sr fun k9 => st (.ixP sl71 ty22 (.t rfl) (.t rfl) (by omega) hr) rfl (st (.loadP1 (.t rfl) ty22) rfl (stM rfl (nkQ k9 (.dry mixed (.u 0 rfl (.fieldAddr (.t rfl) fld24_2 ty22) (.u 2 rfl (.mv (.t rfl)) (.u 3 rfl (.mv (.t rfl)) (.u 4 rfl (.mv (.t rfl)) (.go [] (.so 1 [] rfl (.load1 (.t rfl) (i := 1) rfl ty22 rfl) ?_)))))))))))))
  refine .so 5 [] rfl (.eq (.slLHK sl22 ty33 zc_len (.t rfl) (.t rfl) (.t rfl) ⟨by omega, by omega, by rw [List.length_map]; omega⟩) ((show _ = SlK 2 zc (((r.take hi).drop lo).map nz) from SlK_eq (by rw [List.map_drop, List.map_take]; rfl)))) ?_
  refine .fn [6,7,8] (.w [1,2,6,7,22,23,24,25,26,27,9,28,30,31,32,29,33] rfl (.appendGK0 (fk := zc) (u := (false, [])) zc_len (by decide) (fun _ => inferInstance) sl22 ty33 zero33 (fun _ _ => ⟨rfl, nilM _ _, trivial⟩) by33 (.t rfl) (i := 0) rfl (.t rfl) (by rw [List.length_map, hrm]; omega) rfl fun gr1 => ?_))
  refine .memEq (M' := [grMK _ _ _, _, _]) rfl (st (.fieldAddr (.t rfl) fld24_2 ty22) rfl (.store (.t rfl) (.t rfl) (i := 1) rfl ty22 rfl rfl (Ss' := [_, _, _]) rfl (M' := [_, (some _, cellM [_, _, _]), _]) rfl (nl (.bln (.nk k8 (.region (st (.addI (.t rfl) (.cI 1 rfl) (by omega) (by omega)) rfl (stM rfl (nl (.thn ?_))))))))))
  refine hK5 (⟨(i + 1, gr1), by show i + 1 ≤ rs.length; omega⟩) _ _ ?_ (Cv.mem (.c 24 rfl ?_ (.l [1,2,6,7,22,23] rfl)) ?_)
  ·show rs.length - (i + 1) < rs.length - i; omega
  ·exact isI_eq (by omega)
  ·exact grF_eq (by rw [flatP_succ hr, List.map_append, List.length_append]) (by rw [flatP_succ hr, List.map_append])
 ·refine .exit (.the (.the (.blh (.nk k3 (.w [6,7] rfl (.sq fun k10 => .cv (Cv.freezeF (k := 2) (i := 0) (j := 0) (o := 2) rfl rfl rfl rfl (gr_lenK zc_len) (gr_takeK zc_len) (Ss' := [_, _, SlK 2 zc ((flatP lo hi (rs.take i)).map nz)]) rfl) (.memEq (M' := [(some _, cellM [_, _, SlK 2 zc ((flatP lo hi (rs.take i)).map nz)]), _]) rfl (.w [6,7] rfl (.region (st (.load (.t rfl) (i := 0) rfl ty24 rfl (Ss' := [_, _, _]) rfl) rfl (.store (.t rfl) (.t rfl) (i := 1) rfl ty24 rfl rfl (Ss' := [_, _, _]) rfl (M' := [_, (some _, cellM [_, _, _])]) rfl (nkQ k10 (.ret (rt1 (.inl rfl) Tryz.results45 rfl (.cell rfl (i := 1) rfl ty24 rfl ?_ .nil)))))))))))))))
  all_goals (exact isMz_eq (by rw [List.take_of_length_le (by omega)]))
end Go.Proofs.YtlebmedapfncoaaGreat
namespace Go.Proofs.YtlebmedapfncoaaGreat
open Go.En Go.RowKit
set_option maxRecDepth 10000
set_option maxHeartbeats 4000000
open Go.Nt
open Go.Pz
open Go.Mz
open Go.Hn
open Go.Hp
open Go.Dt
theorem hm_step {bw C c : Nat} {gt : Gr (List Int)} {s : HS} {m : Mem} (h : (hred s c).top < (hred s c).rows.length) : (hw0 bw gt (hcol (hred s c) c).rows.length C (hcol (hred s c) c).top :: grM isP gt (hcol (hred s c) c).rows :: m : Mem) = hw0 bw gt (hred s (c + 1)).rows.length C (hred s (c + 1)).top :: grM isP gt (hred s (c + 1)).rows :: m := by
 have e : hred s (c + 1) = hcol (hred s c) c := if_pos h
 rw [e]
theorem col_bq {K R a : Nat} (h : K + 4 ≤ a) (h2 : a * (R + 2) ≤ 80000000) : (a - 3 + 3) * (R + 2) ≤ 80000000 := by rw [Nat.sub_add_cancel (by omega)]; exact h2
theorem isMzp_eq {R C : Nat} {L : List Int} {s : HS} (hlen : s.rows.length = R) (h : s = hrm R C L) : isMz s.rows.length (C - 0) (flatP 0 C s.rows) = isMz R C (flatP 0 C (hrm R C L).rows) := by rw [hlen, h]; rfl
theorem isMzq_eq {R C : Nat} {L : List Int} {s : HS} (hlen : s.rows.length = R) (h : s = hrm R C L) : isMz s.rows.length (C + R - C) (flatP C (C + R) s.rows) = isMz R R (flatP C (C + R) (hrm R C L).rows) := by rw [hlen, h, Nat.add_sub_cancel_left]
theorem hnf_HermiteQ {R C K : Nat} {xs : List (Bool × List Nat)} (hx : Bd (vals xs) K) (hK : hq R (K + 4) (hrk R C (vals xs)) * (R + 2) ≤ 80000000) (hR : R ≤ 64) (hC : C ≤ 64) (hl : xs.length = R * C) : Ctr Tryz.prog 25 [isM (R : Int) (C : Int) xs] (isTup [isMz R C (flatP 0 C (hrm R C (vals xs)).rows), isMz R R (flatP C (C + R) (hrm R C (vals xs)).rows), isI 0]) := by
 refine Ctr.i Tryz.func25 rfl Tryz.ntmps25 fun w0 F0 => .w [0] rfl ?_
 have hfo := formB_true hR hC hl
 have hok := hred_ok (rows0_ok (R := R) (C := C) hx)
 have hbq := hred_hq (rows0_ok (R := R) (C := C) hx) rfl
 have hqs : ∀ c, c ≤ C → hq R (K + 4) (hred ⟨rows0 C R (vals xs) R, 0⟩ c).top * (R + 2) ≤ 80000000 := fun c hc => Nat.le_trans (Nat.mul_le_mul_right _ (hq_mono (hred_mono (rows0_ok (R := R) (C := C) hx) hc) (hok C).top)) hK
 have hp0 : K + 4 ≤ 80000000 := Nat.le_trans (Nat.le_mul_of_pos_right _ (Nat.succ_pos (R + 1))) (hqs 0 (Nat.zero_le _))
 obtain ⟨n0, hn0⟩ : ∃ n0 : Nat, n0 = R := ⟨_, rfl⟩
 refine .sr fun k1 => .box (.t rfl) rfl fun b1 => .alloc [isI 0, isI 0, nilS] zero24 (fun _ _ => ⟨⟨rfl, by decide, by decide⟩, ⟨rfl, by decide, by decide⟩, rfl, trivial⟩) rfl fun b2 => .alloc [isI 0, isI 0, nilS] zero24 (fun _ _ => ⟨⟨rfl, by decide, by decide⟩, ⟨rfl, by decide, by decide⟩, rfl, trivial⟩) rfl fun b3 => st (.as (.cI 0 rfl)) rfl (nkQ k1 (.sq fun k2 => .sr fun k3 => st (.load (.t rfl) (i := 2) rfl ty24 rfl (Ss' := [_, _, _]) rfl) rfl (st (.eq (.call (zmat_Formed) (.cons (.t rfl) .nil)) ((show isB _ = isB true from isB_eq hfo))) rfl (st (.not (.t rfl)) rfl (nkQ k3 (.cd rfl (fun hc1 => ?_) (fun hc1 => ?_)))))))
 ·simp at hc1
 ·refine .skip (.nk k2 (.sr fun k4 => st (.load (.t rfl) (i := 2) rfl ty24 rfl (Ss' := [_, _, _]) rfl) rfl (.callX (hnf_begun hx (by omega) hR hC hl) (List.Perm.refl _) (.cons (.t rfl) .nil) rfl ?_)))
  rintro _ _ ⟨bw, gt, rfl, rfl⟩
  refine .memEq (M' := [hw0 bw gt (rows0 C R (vals xs) R).length C 0, grM isP gt (rows0 C R (vals xs) R), _, _, _]) rfl (stM rfl (nkQ k4 (.w [1,2,3,4,5] rfl (.sq fun k5 => .sr fun k6 => st (.as (.cI 0 rfl)) rfl (nkQ k6 (.block (.loopF [1,2,3,4,5] (fun (z : { c : Nat // c ≤ C }) => match z with | ⟨c, hc⟩ => [(6, isI (c : Int))]) (fun M => fun (z : { c : Nat // c ≤ C }) => match z with | ⟨c, hc⟩ => [hw0 bw gt (hred ⟨rows0 C R (vals xs) R, 0⟩ c).rows.length C (hred ⟨rows0 C R (vals xs) R, 0⟩ c).top, grM isP gt (hred ⟨rows0 C R (vals xs) R, 0⟩ c).rows, (some b3, cellM [isI 0, isI 0, nilS]), (some b2, cellM [isI 0, isI 0, nilS]), (some b1, cellM [isI (R : Int), isI (C : Int), SlK 2 zc xs])]) (fun (z : { c : Nat // c ≤ C }) => match z with | ⟨c, hc⟩ => C - c) (⟨0, Nat.zero_le _⟩) (Cv.mem (.c 6 rfl ?_ (.l [1,2,3,4,5] rfl)) ?_) ?_)))))))
  ·rfl
  ·rfl
  rintro ⟨c, hc⟩ K7 hK7
  refine .w [6,1,2,3,4,5] rfl (.memEq (M' := [hw0 bw gt (hred ⟨rows0 C R (vals xs) R, 0⟩ c).rows.length C (hred ⟨rows0 C R (vals xs) R, 0⟩ c).top, grM isP gt (hred ⟨rows0 C R (vals xs) R, 0⟩ c).rows, (some b3, cellM [isI 0, isI 0, nilS]), (some b2, cellM [isI 0, isI 0, nilS]), (some b1, cellM [isI (R : Int), isI (C : Int), SlK 2 zc xs])]) rfl ?_)
  have hoc := hok c
  have hlen := hoc.len
  have htop := hoc.top
  have hpc := hqs c hc
  refine .sq fun k8 => .sq fun k9 => .dr (.m [] rfl (.so [] rfl (.fieldAddr (.t rfl) fld24_1 ty3) (.so [15] rfl (.load1 (.t rfl) (i := 4) rfl ty3 rfl) (.so [14,16] rfl (.ltI (.t rfl) (.t rfl)) (.m [17] rfl (.s [18] rfl rfl rfl (.T rfl rfl rfl (fun hg => .mv (.t rfl))) (.s [18,19] rfl rfl rfl (.T rfl rfl rfl (fun hg => .nilc (Has.g rfl hg))) (.s [18,20] rfl rfl rfl (.T rfl rfl rfl (fun hg => .fieldAddr (Has.g rfl hg) fld73_2 ty3)) (.s [18,21] rfl rfl rfl (.T rfl rfl rfl (fun hg => .load1 (Has.g rfl hg) (i := 0) rfl ty3 rfl)) (.s [18] rfl rfl rfl (.T rfl rfl rfl (fun hg => .fieldAddr (.t rfl) fld24_0 ty3)) (.s [18,23] rfl rfl rfl (.T rfl rfl rfl (fun hg => .load1 (Has.g rfl hg) (i := 4) rfl ty3 rfl)) (.fn (n := 11) mixed (.w [1,2,3,4,5,6,14,15,16,17,18,19,20,21,22,23,24] rfl (stT rfl rfl (fun hg => .ltI (Has.g rfl hg) (Has.g rfl hg)) rfl (st (.pickAnd (.t rfl) (fun h => Has.g rfl h)) rfl (nkQ k9 (.cd rfl (fun hc2 => ?_) (fun hc2 => ?_))))))))))))))))))
  ·obtain ⟨hc1', hc2'⟩ := hc2
   refine .skip (.nk k8 (.sq fun k10 => .block (.region (stM rfl (stM rfl (.callX (hnf_column (rs := (hred ⟨rows0 C R (vals xs) R, 0⟩ c).rows) (t := (hred ⟨rows0 C R (vals xs) R, 0⟩ c).top) (col := c) (W := C + R) (K := hq R (K + 4) (hred ⟨rows0 C R (vals xs) R, 0⟩ c).top - 3) hoc.row (by omega) (by omega) (by omega) (by omega) (hbq c) (by rw [hlen]; exact col_bq (hq_ge htop) hpc)) (List.Perm.refl _) (.cons (.t rfl) (.cons (.t rfl) .nil)) rfl ?_))))))
   rintro _ _ ⟨rfl, rfl⟩
   refine .memEq (M' := [hw0 bw gt (hcol (hred ⟨rows0 C R (vals xs) R, 0⟩ c) c).rows.length C (hcol (hred ⟨rows0 C R (vals xs) R, 0⟩ c) c).top, grM isP gt (hcol (hred ⟨rows0 C R (vals xs) R, 0⟩ c) c).rows, _, _, _]) rfl (nl (.bln (.nk k10 (.region (stM rfl (st (.addI (.t rfl) (.cI 1 rfl) (by omega) (by omega)) rfl (stM rfl (nl (.thn (hK7 (⟨c + 1, by omega⟩) _ _ ?_ (Cv.mem (.c 6 rfl ?_ (.l [1,2,3,4,5] rfl)) ?_)))))))))))
   ·show C - (c + 1) < C - c; omega
   ·exact isI_eq (by omega)
   ·exact hm_step (show (hred ⟨rows0 C R (vals xs) R, 0⟩ c).top < _ by omega)
  ·have hst := hred_stop (rows0_ok (R := R) (C := C) hx) hc (show ¬ (c < C ∧ _) from fun h => by omega)
   refine .exit (.the (.the (.blh (.nk k5 (.w [1,2,3,4,5] rfl (.sq fun k11 => .cv (Cv.freezeF (k := 1) (i := 1) (j := 0) (o := 0) rfl rfl rfl rfl gr_lenM gr_takeM (Ss' := [SlM isP ((hred ⟨rows0 C R (vals xs) R, 0⟩ c).rows), _, _]) rfl) (.memEq (M' := [(some _, cellM [SlM isP ((hred ⟨rows0 C R (vals xs) R, 0⟩ c).rows), _, _]), _, _, _]) rfl (.w [1,2,3,4,5] rfl (.cv (Cv.freezeBox (t := 5) (i := 0) rfl rfl rfl) (.memEq (M' := [_, _, _]) rfl (.w [1,2,3,4,5] rfl (.dr (.m [] rfl (.so [] rfl (.fieldAddr (.t rfl) fld24_1 ty3) (.so [33] rfl (.load1 (.t rfl) (i := 2) rfl ty3 rfl) (.so [32,34] rfl (.call (hnf_part (lo := 0) (hi := C) hoc.row (by omega) (by omega) (by omega) (by omega)) (.cons (.t rfl) (.cons (.cI 0 rfl) (.cons (.t rfl) .nil)))) (.m [] rfl (.so [] rfl (.fieldAddr (.t rfl) fld24_1 ty3) (.so [37] rfl (.load1 (.t rfl) (i := 2) rfl ty3 rfl) (.so [] rfl (.fieldAddr (.t rfl) fld24_1 ty3) (.so [39] rfl (.load1 (.t rfl) (i := 2) rfl ty3 rfl) (.so [] rfl (.fieldAddr (.t rfl) fld24_0 ty3) (.so [41] rfl (.load1 (.t rfl) (i := 2) rfl ty3 rfl) ?_)))))))))))))))))))))))
   refine .so [40,42] rfl (.eq (.addI (.t rfl) (.t rfl) (by omega) (by omega)) ((show isI _ = isI ((C + R : Nat) : Int) from isI_eq (by omega)))) (.fn (n := 12) mixed (.w [2,3,4,35,36,38,43] rfl (st (.call (hnf_part (lo := C) (hi := C + R) hoc.row (by omega) (by omega) (by omega) (by omega)) (.cons (.t rfl) (.cons (.t rfl) (.cons (.t rfl) .nil)))) rfl (.store (.t rfl) (.t rfl) (i := 1) rfl ty24 rfl rfl (Ss' := [_, _, _]) rfl (M' := [_, (some _, cellM [_, _, _]), _]) rfl (.store (.t rfl) (.t rfl) (i := 0) rfl ty24 rfl rfl (Ss' := [_, _, _]) rfl (M' := [(some _, cellM [_, _, _]), _, _]) rfl (st (.as (.cI 0 rfl)) rfl (nkQ k11 (.w [2,3,4] rfl (.ret (rtN (.inl rfl) Tryz.results25 rfl rfl (.cell rfl (i := 1) rfl ty24 rfl ?_ (.cell rfl (i := 0) rfl ty24 rfl ?_ (.tmp (Has.t' rfl ?_) .nil)))))))))))))
   ·exact isMzp_eq hlen hst.symm
   ·exact isMzq_eq hlen hst.symm
   ·rfl
theorem hnf_Hermite {R C K : Nat} {xs : List (Bool × List Nat)} (hx : Bd (vals xs) K) (hK : (K + 4) * (R + 2) ^ C ≤ 1000000) (hR : R ≤ 64) (hC : C ≤ 64) (hl : xs.length = R * C) : Ctr Tryz.prog 25 [isM (R : Int) (C : Int) xs] (isTup [isMz R C (flatP 0 C (hrm R C (vals xs)).rows), isMz R R (flatP C (C + R) (hrm R C (vals xs)).rows), isI 0]) := hnf_HermiteQ hx (hq_ask hx hR hK) hR hC hl
end Go.Proofs.YtlebmedapfncoaaGreat
