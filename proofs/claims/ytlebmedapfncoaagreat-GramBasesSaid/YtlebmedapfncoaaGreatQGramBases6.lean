/- The law GramBases, as it is stated, of the given program, for every input; no condition. -/
import Derived.Test.YtlebmedapfncoaaGreatQGramBases5
import Derived.Deep.SlicePairs
import Derived.Test.YtlebmedapfncoaaGreatRows
namespace Go.Proofs.YtlebmedapfncoaaGreat
open Go.En Go.RowKit
set_option maxRecDepth 10000
set_option maxHeartbeats 4000000
open Go.Nt
open Go.Pz
open Go.Mz
open Go.Hn
open Go.Hp
open Go.Dt
open Go.Ll
theorem dG {R C K : Nat} {xs : List (Bool × List Nat)} (hx : Bd (zF xs) K) (hK : K ≤ 280) (hR : R ≤ 4) (hC : C ≤ 4) (hl : xs.length = R * C) {m n : Bool} {ps qs : List Nat} (hpw : (List.length (zA (val ps))) ≤ 1000) (hqw : (List.length (zA (val qs))) ≤ 1000) (hmy : (decide (0 < sgn (zv n qs)) && decide (0 < xB (zv m ps * 4) (zv n qs)) && decide (xB (zv m ps) (zv n qs) < 0)) = true) (hq : 0 < zv n qs) (hpq : zv m ps < zv n qs) : CtrX Tryz.prog 15 [isM (R : Int) (C : Int) xs, zu [isB m, zD ps], zu [isB n, zD qs]] ([]) (fun S M => ∃ (c : Nat) (ds' : List Int) (ls' us' : List Row) (k : Nat) (Ml Wl : List Int), S = zW [xQ R C Ml, xQ R R Wl, isI (IntKind.i64.wrap (c : Int)), isI 0] ∧ M = [] ∧ GR R C (zF xs) (zv m ps) (zv n qs) c ds' ls' us' k Ml Wl) := by
 refine CtrX.i Tryz.func15 rfl Tryz.ntmps15 fun w0 F0 => .w [0,1,2] rfl (.fact (Has.okZ (Has.t (t := 1) rfl)) fun okz1 => .fact (Has.okZ (Has.t (t := 2) rfl)) fun okz2 => ?_)
 have hPR := br (R := R) (C := C) (L := zF xs)
 obtain ⟨P, hP⟩ : ∃ P, P = rkL R C (zF xs) := ⟨_, rfl⟩
 rw [← hP] at hPR
 have hh1 : (K + 4) * (R + 2) ^ C ≤ 368064 := Nat.le_trans (Nat.mul_le_mul (show K + 4 ≤ 284 by omega) (Nat.le_trans (Nat.pow_le_pow_left (show R + 2 ≤ 6 by omega) C) (Nat.pow_le_pow_right (by decide) hC))) (by decide)
 have hR64 : R ≤ 64 := by omega
 have hC64 : C ≤ 64 := by omega
 have hP64 : P ≤ 64 := by omega
 obtain ⟨Hl, hHl⟩ : ∃ l, l = hL R C (zF xs) := ⟨_, rfl⟩
 have hHn : (Hl.map nz).length = R * C := by rw [List.length_map, hHl]; exact nT hx
 have hHb : Bd (zF (Hl.map nz)) 368064 := by rw [zT, hHl]; exact (zGX hx).mono hh1
 obtain ⟨Ul, hUl⟩ : ∃ l, l = uL R C (zF xs) := ⟨_, rfl⟩
 have hUn : (Ul.map nz).length = R * R := by rw [List.length_map, hUl]; exact zCZ hx
 have hUb : Bd (zF (Ul.map nz)) 368064 := by rw [zT, hUl]; exact (zFZ hx).mono hh1
 obtain ⟨Ll, hLl⟩ : ∃ l, l = fI R C (zF xs) := ⟨_, rfl⟩
 have hLt : Ll = tab (P * C) C fun i k => cf Hl ((0 + i) * C + k) := by rw [hLl, hP, hHl]; rfl
 have hLn : (Ll.map nz).length = P * C := by rw [List.length_map, hLt, qe]
 have hLb : Bd (zF (Ll.map nz)) (4 * K + 25) := by rw [zT, hLl]; exact ge hx hR
 obtain ⟨Gl, hGl⟩ : ∃ l, l = gmL P C Ll := ⟨_, rfl⟩
 have hGn : (Gl.map nz).length = P * P := by rw [List.length_map, hGl, zBB]
 have hGb : Bd (zF (Gl.map nz)) (8 * K + 54) := by rw [zT, hGl]; exact (zEX (by rw [zT] at hLb; exact hLb)).mono (by omega)
 have hGi : ∀ i k, i < P → k < P → cf (zF (Gl.map nz)) (i * P + k) = ip C (vB R C (zF xs) i) (vB R C (zF xs) k) := fun i k hi hk => by rw [zT, hGl, zGZ hi hk, hLl]
 obtain ⟨U0, hU0⟩ : ∃ l, l = tab (P * R) R fun i k => cf Ul ((0 + i) * R + k) := ⟨_, rfl⟩
 have hU0n : (U0.map nz).length = P * R := by rw [List.length_map, hU0, qe]
 have hU0b : Bd (zF (U0.map nz)) 368064 := by rw [zT] at hUb; rw [zT, hU0]; exact ve fun i k => hUb _
 obtain ⟨Zl, hZl⟩ : ∃ l, l = tab ((R - P) * C) C fun i k => cf Hl ((P + i) * C + k) := ⟨_, rfl⟩
 have hZn : (Zl.map nz).length = (R - P) * C := by rw [List.length_map, hZl, qe]
 have hZb : Bd (zF (Zl.map nz)) 2000000 := by rw [zT] at hHb; rw [zT, hZl]; exact ve fun i k => Nat.le_trans (hHb _) (by decide)
 obtain ⟨Nl, hNl⟩ : ∃ l, l = tab ((R - P) * R) R fun i k => cf Ul ((P + i) * R + k) := ⟨_, rfl⟩
 have hNn : (Nl.map nz).length = (R - P) * R := by rw [List.length_map, hNl, qe]
 have hNb : Bd (zF (Nl.map nz)) 2000000 := by rw [zT] at hUb; rw [zT, hNl]; exact ve fun i k => Nat.le_trans (hUb _) (by decide)
 refine .sr fun k1 => .box (.t rfl) rfl fun b1 => .box (.t rfl) rfl fun b2 => .box (.t rfl) rfl fun b3 => .alloc [isI 0, isI 0, zw] zf (fun _ _ => ⟨⟨rfl, by decide, by decide⟩, ⟨rfl, by decide, by decide⟩, rfl, trivial⟩) rfl fun b4 => .alloc [isI 0, isI 0, zw] zf (fun _ _ => ⟨⟨rfl, by decide, by decide⟩, ⟨rfl, by decide, by decide⟩, rfl, trivial⟩) rfl fun b5 => st (.as (.cI 0 rfl)) rfl (st (.as (.cI 0 rfl)) rfl (nkQ k1 (.sr fun k2 => st (.load (.t rfl) (i := 4) rfl zO rfl (Ss' := [_, _, _]) rfl) rfl ?_)))
 refine st (.eq (.call (lg hx (by omega) hR64 hC64 hl) (.cons (.t rfl) .nil)) ((show _ = zW [xQ R C Hl, xQ R R Ul, isI 0] from by rw [hHl, hUl]; rfl))) rfl ?_
 refine stM rfl (st (.ext (.t rfl) rfl) rfl (st (.ext (.t rfl) rfl) rfl (st (.ext (.t rfl) rfl) rfl (.alloc [isI 0, isI 0, zw] zf (fun _ _ => ⟨⟨rfl, by decide, by decide⟩, ⟨rfl, by decide, by decide⟩, rfl, trivial⟩) rfl fun b6 => .alloc [isI 0, isI 0, zw] zf (fun _ _ => ⟨⟨rfl, by decide, by decide⟩, ⟨rfl, by decide, by decide⟩, rfl, trivial⟩) rfl fun b7 => .store (.t rfl) (.t rfl) (i := 1) rfl zO rfl rfl (Ss' := [_, _, _]) rfl (M' := [_, (some _, zC [_, _, _]), _, _, _, _, _]) rfl (.store (.t rfl) (.t rfl) (i := 0) rfl zO rfl rfl (Ss' := [_, _, _]) rfl (M' := [(some _, zC [_, _, _]), _, _, _, _, _, _]) rfl (stM rfl (nkQ k2 (.w [4,5,6,7,8,9,10,11,12] rfl (.sq fun k3 => .sr fun k4 => stM rfl (st (.neI (.t rfl) (.cI 0 rfl)) rfl (nkQ k4 (.cd rfl (fun hc1 => ?_) (fun hc1 => ?_)))))))))))))
 ·exfalso; omega
 ·refine .skip (.nk k3 (.sr fun k5 => st (.load (.t rfl) (i := 1) rfl zO rfl (Ss' := [_, _, _]) rfl) rfl (st (.call (fM (K := 368064) hHb (by decide) hR64 hC64 hHn) (.cons (.t rfl) .nil)) rfl (st (.eq (.len wm (.t rfl)) ((show isI _ = isI (P : Int) from zG (by rw [jz, zT, hHl, hP])))) rfl (stM rfl (nkQ k5 (.w [4,5,6,7,8,9,10,11,12,13] rfl (.sr fun k6 => st (.load (.t rfl) (i := 1) rfl zO rfl (Ss' := [_, _, _]) rfl) rfl (stM rfl (st (.eq (.call (jK (lo := 0) (hi := P) (K := 368064) hHb (by decide) hR64 hC64 hHn (Nat.zero_le _) hPR) (.cons (.t rfl) (.cons (.cI 0 rfl) (.cons (.t rfl) .nil)))) ((show _ = zW [xQ P C Ll, isI 0] from by rw [zT, hLt, Nat.sub_zero]))) rfl (st (.ext (.t rfl) rfl) rfl (st (.ext (.t rfl) rfl) rfl (st (.call xa (.cons (.t rfl) (.cons (.t rfl) .nil))) rfl (.alloc [isI 0, isI 0, zw] zf (fun _ _ => ⟨⟨rfl, by decide, by decide⟩, ⟨rfl, by decide, by decide⟩, rfl, trivial⟩) rfl fun b8 => .store (.t rfl) (.t rfl) (i := 0) rfl zO rfl rfl (Ss' := [_, _, _]) rfl (M' := [(some _, zC [_, _, _]), _, _, _, _, _, _, _]) rfl (nkQ k6 (.w [4,5,6,7,8,9,10,11,12,13,14] rfl (.sr fun k7 => st (.load (.t rfl) (i := 0) rfl zO rfl (Ss' := [_, _, _]) rfl) rfl (st (.eq (.call (zAZ (R := P) (C := C) (K := 4 * K + 25) hLb (by omega) hP64 hC64 hLn) (.cons (.t rfl) .nil)) ((show _ = zW [xQ P P Gl, isI 0] from by rw [zT, hGl]))) rfl (st (.ext (.t rfl) rfl) rfl (st (.ext (.t rfl) rfl) rfl (st (.call xa (.cons (.t rfl) (.cons (.t rfl) .nil))) rfl (.alloc [isI 0, isI 0, zw] zf (fun _ _ => ⟨⟨rfl, by decide, by decide⟩, ⟨rfl, by decide, by decide⟩, rfl, trivial⟩) rfl fun b9 => .store (.t rfl) (.t rfl) (i := 0) rfl zO rfl rfl (Ss' := [_, _, _]) rfl (M' := [(some _, zC [_, _, _]), _, _, _, _, _, _, _, _]) rfl (nkQ k7 (.w [4,5,6,7,8,9,10,11,12,13,14,15] rfl (.sr fun k8 => st (.load (.t rfl) (i := 0) rfl zO rfl (Ss' := [_, _, _]) rfl) rfl ?_)))))))))))))))))))))))))
  refine st (.load (.t rfl) (i := 7) rfl zE rfl (Ss' := [_, _]) rfl) rfl (st (.load (.t rfl) (i := 6) rfl zE rfl (Ss' := [_, _]) rfl) rfl (.callX (lT (n0 := C) (R := P) (K := 8 * K + 54) (A := vB R C (zF xs)) hGb (by omega) hGn hGi (fG hx hR hC) (fun t ht => ov hx t (by rw [← hP]; exact ht)) (by omega) hpw hqw hmy hq hpq) (List.Perm.refl _) (.cons (.t rfl) (.cons (.t rfl) (.cons (.t rfl) .nil))) rfl ?_))
  rintro _ _ ⟨c, ds', ls', us', k, rfl, rfl, hPk, hS⟩
  rw [hP] at hS
  have hSz := SZ.made (K := 300 * (8 * K + 54) + 2000) (ov (R := R) (C := C) hx) (sM (Nat.le_trans br hR) (fG hx hR hC)).2.2
  have hub := hS.ub hSz
  have hur := hS.hur
  have hul := hS.ul
  rw [← hP] at hur hul
  obtain ⟨Vl, hVl⟩ : ∃ l, l = us'.flatMap Prod.snd := ⟨_, rfl⟩
  rw [← hVl]
  have hVn : (Vl.map nz).length = P * P := by rw [List.length_map, hVl, xS hur, hul]
  have hVb : Bd (zF (Vl.map nz)) 700000 := by rw [zT, hVl]; exact (zBD hur hub).mono (by omega)
  obtain ⟨Rw, hRw⟩ : ∃ l, l = tab (P * C) C fun i k => jG (fun j => cf Vl (i * P + j)) (fun j => cf Ll (j * C + k)) P := ⟨_, rfl⟩
  have hRn : (Rw.map nz).length = P * C := by rw [List.length_map, hRw, qe]
  have hVb' := hVb
  rw [zT] at hVb'
  have hRb : Bd (zF (Rw.map nz)) 2000000 := by rw [zT, hRw]; exact ve fun i k => Nat.le_trans (bG (K := 700000) (L := 4 * K + 25) (fun _ => hVb' _) (fun _ => by have := hLb; rw [zT] at this; exact this _) P) (by omega)
  obtain ⟨By, hBy⟩ : ∃ l, l = tab (P * R) R fun i k => jG (fun j => cf Vl (i * P + j)) (fun j => cf U0 (j * R + k)) P := ⟨_, rfl⟩
  have hBn : (By.map nz).length = P * R := by rw [List.length_map, hBy, qe]
  have hBb : Bd (zF (By.map nz)) 2000000 := by rw [zT, hBy]; exact ve fun i k => Nat.le_trans (bG (K := 700000) (L := 368064) (fun _ => hVb' _) (fun _ => by have := hU0b; rw [zT] at this; exact this _) P) (by omega)
  refine stM rfl (st (.ext (.t rfl) rfl) rfl (st (.ext (.t rfl) rfl) rfl (st (.ext (.t rfl) rfl) rfl (.alloc [isI 0, isI 0, zw] zf (fun _ _ => ⟨⟨rfl, by decide, by decide⟩, ⟨rfl, by decide, by decide⟩, rfl, trivial⟩) rfl fun b10 => .store (.t rfl) (.t rfl) (i := 0) rfl zO rfl rfl (Ss' := [_, _, _]) rfl (M' := [(some _, zC [_, _, _]), _, _, _, _, _, _, _, _, _]) rfl (stM rfl (stM rfl (nkQ k8 (.w [6,7,8,9,10,11,12,13,14,16,17] rfl (.sq fun k9 => .sr fun k10 => stM rfl (st (.neI (.t rfl) (.cI 0 rfl)) rfl (nkQ k10 (.cd rfl (fun hc2 => ?_) (fun hc2 => ?_)))))))))))))
  ·exfalso; omega
  ·refine .skip (.nk k9 (.sr fun k11 => st (.load (.t rfl) (i := 0) rfl zO rfl (Ss' := [_, _, _]) rfl) rfl (st (.load (.t rfl) (i := 2) rfl zO rfl (Ss' := [_, _, _]) rfl) rfl (st (.eq (.call (eI (R := P) (C := P) (D := C) (K := 700000) (L := 4 * K + 25) hVb hLb (by omega) hP64 hP64 hC64 hVn hLn) (.cons (.t rfl) (.cons (.t rfl) .nil))) ((show _ = zW [xQ P C Rw, isI 0] from by rw [zT, zT, hRw]))) rfl (st (.ext (.t rfl) rfl) rfl (st (.ext (.t rfl) rfl) rfl (st (.call xa (.cons (.t rfl) (.cons (.t rfl) .nil))) rfl (.alloc [isI 0, isI 0, zw] zf (fun _ _ => ⟨⟨rfl, by decide, by decide⟩, ⟨rfl, by decide, by decide⟩, rfl, trivial⟩) rfl fun b11 => .store (.t rfl) (.t rfl) (i := 0) rfl zO rfl rfl (Ss' := [_, _, _]) rfl (M' := [(some _, zC [_, _, _]), _, _, _, _, _, _, _, _, _, _]) rfl (nkQ k11 (.w [6,7,8,9,10,11,13,16,17,18] rfl (.sq fun k12 => .drh [true, true, true, true, true, true, true, true, true, true, true] (Ms := [_, _, _, _, _, _, _, _, _, _, _]) rfl (.so [] rfl (.load (.t rfl) (i := 1) rfl zO rfl (Ss' := [_, _, _]) rfl) (.so [] rfl (.load (.t rfl) (i := 4) rfl zO rfl (Ss' := [_, _, _]) rfl) (.m [] rfl (.so [67,68] rfl (.eq (.call (jK (lo := 0) (hi := P) (K := 368064) hUb (by decide) hR64 hR64 hUn (Nat.zero_le _) hPR) (.cons (.t rfl) (.cons (.cI 0 rfl) (.cons (.t rfl) .nil)))) ((show _ = zW [xQ P R U0, isI 0] from by rw [zT, hU0, Nat.sub_zero]))) (.so [69] rfl (.ext (.t rfl) rfl) (.so [69] rfl (.ext (.t rfl) rfl) (.so [70,71] rfl (.call xa (.cons (.t rfl) (.cons (.t rfl) .nil))) (.so [66,72] rfl (.eq (.call (eI (R := P) (C := P) (D := R) (K := 700000) (L := 368064) hVb hU0b (by omega) hP64 hP64 hR64 hVn hU0n) (.cons (.t rfl) (.cons (.t rfl) .nil))) ((show _ = zW [xQ P R By, isI 0] from by rw [zT, zT, hBy]))) (.so [73] rfl (.ext (.t rfl) rfl) (.so [73] rfl (.ext (.t rfl) rfl) (.so [74,75] rfl (.call xa (.cons (.t rfl) (.cons (.t rfl) .nil))) (.als2 (n1 := 12) (ds := [19]) (zs := [[isI 0, isI 0, zw]]) rfl (.cons rfl rfl zf (fun _ _ => ⟨⟨rfl, by decide, by decide⟩, ⟨rfl, by decide, by decide⟩, rfl, trivial⟩) .nil) (.cons_cons _ (.cons_cons _ (.cons_cons _ (.cons_cons _ (.cons_cons _ (.cons_cons _ (.cons_cons _ (.cons_cons _ (.cons_cons _ (.cons_cons _ (.cons_cons _ .slnil))))))))))) (Cs := [_]) rfl (.fn (n := 12) zY rfl (fun bs hbs => ?_)))))))))))))))))))))))))
   obtain ⟨b12, rfl⟩ := cl hbs
   refine .memEq (M' := [_, _, _, _, _, _, _, _, _, _, _, _]) rfl (.cv (Cv.wk (.k 6 rfl (.k 7 rfl (.k 8 rfl (.k 9 rfl (.k 10 rfl (.k 11 rfl (.k 13 rfl (.k 17 rfl (.k 18 rfl (.k 76 rfl (.cons (t := 19) (Has.op rfl) .nil)))))))))))) (.store (.t rfl) (.t rfl) (i := 0) rfl zO rfl rfl (Ss' := [_, _, _]) rfl (M' := [(some _, zC [_, _, _]), _, _, _, _, _, _, _, _, _, _, _]) rfl (nkQ k12 (.sr fun k13 => st (.load (.t rfl) (i := 6) rfl zO rfl (Ss' := [_, _, _]) rfl) rfl (stM rfl (st (.fieldAddr (.t rfl) zZ ty3) rfl (st (.load1 (.t rfl) (i := 6) rfl ty3 rfl) rfl (st (.eq (.call (jK (lo := P) (hi := R) (K := 368064) hHb (by decide) hR64 hC64 hHn hPR (Nat.le_refl _)) (.cons (.t rfl) (.cons (.t rfl) (.cons (.t rfl) .nil)))) ((show _ = zW [xQ (R - P) C Zl, isI 0] from by rw [zT, hZl]))) rfl (st (.ext (.t rfl) rfl) rfl (st (.ext (.t rfl) rfl) rfl (st (.call xa (.cons (.t rfl) (.cons (.t rfl) .nil))) rfl (.alloc [isI 0, isI 0, zw] zf (fun _ _ => ⟨⟨rfl, by decide, by decide⟩, ⟨rfl, by decide, by decide⟩, rfl, trivial⟩) rfl fun b13 => .store (.t rfl) (.t rfl) (i := 0) rfl zO rfl rfl (Ss' := [_, _, _]) rfl (M' := [(some _, zC [_, _, _]), _, _, _, _, _, _, _, _, _, _, _, _]) rfl (nkQ k13 (.w [6,7,8,9,11,13,17,18,19,20] rfl (.sr fun k14 => st (.load (.t rfl) (i := 6) rfl zO rfl (Ss' := [_, _, _]) rfl) rfl (stM rfl (st (.fieldAddr (.t rfl) zZ ty3) rfl (st (.load1 (.t rfl) (i := 6) rfl ty3 rfl) rfl (st (.eq (.call (jK (lo := P) (hi := R) (K := 368064) hUb (by decide) hR64 hR64 hUn hPR (Nat.le_refl _)) (.cons (.t rfl) (.cons (.t rfl) (.cons (.t rfl) .nil)))) ((show _ = zW [xQ (R - P) R Nl, isI 0] from by rw [zT, hNl]))) rfl (st (.ext (.t rfl) rfl) rfl (st (.ext (.t rfl) rfl) rfl (st (.call xa (.cons (.t rfl) (.cons (.t rfl) .nil))) rfl (.alloc [isI 0, isI 0, zw] zf (fun _ _ => ⟨⟨rfl, by decide, by decide⟩, ⟨rfl, by decide, by decide⟩, rfl, trivial⟩) rfl fun b14 => .store (.t rfl) (.t rfl) (i := 0) rfl zO rfl rfl (Ss' := [_, _, _]) rfl (M' := [(some _, zC [_, _, _]), _, _, _, _, _, _, _, _, _, _, _, _, _]) rfl (nkQ k14 (.w [6,7,8,9,17,18,19,20,21] rfl (.sq fun k15 => .drh [true, true, true, true, true, true, true, true, true, false, false, true, true, true] (Ms := [_, _, _, _, _, _, _, _, _, _, _, _]) rfl (.so [] rfl (.load (.t rfl) (i := 1) rfl zO rfl (Ss' := [_, _, _]) rfl) ?_)))))))))))))))))))))))))))
   refine .so [] rfl (.load (.t rfl) (i := 3) rfl zO rfl (Ss' := [_, _, _]) rfl) (.so [93,94] rfl (.eq (.call (eH (R := R - P) (R' := P) (C := C) (K := 2000000) hZb hRb (by decide) (by omega) hC64 hZn hRn) (.cons (.t rfl) (.cons (.t rfl) .nil))) ((show _ = zW [xQ R C (iO (R - P) P C Zl Rw), isI 0] from by rw [zT, zT, Nat.sub_add_cancel hPR]))) (.so [95] rfl (.ext (.t rfl) rfl) (.so [95] rfl (.ext (.t rfl) rfl) (.so [96,97] rfl (.call xa (.cons (.t rfl) (.cons (.t rfl) .nil))) (.so [] rfl (.load (.t rfl) (i := 0) rfl zO rfl (Ss' := [_, _, _]) rfl) (.so [] rfl (.load (.t rfl) (i := 2) rfl zO rfl (Ss' := [_, _, _]) rfl) (.so [99,100] rfl (.eq (.call (eH (R := R - P) (R' := P) (C := R) (K := 2000000) hNb hBb (by decide) (by omega) hR64 hNn hBn) (.cons (.t rfl) (.cons (.t rfl) .nil))) ((show _ = zW [xQ R R (iO (R - P) P R Nl By), isI 0] from by rw [zT, zT, Nat.sub_add_cancel hPR]))) (.so [101] rfl (.ext (.t rfl) rfl) (.so [101] rfl (.ext (.t rfl) rfl) (.so [102,103] rfl (.call xa (.cons (.t rfl) (.cons (.t rfl) .nil))) (.m [] rfl (.mid2 (.cons_cons _ (.cons_cons _ (.cons_cons _ (.cons_cons _ (.cons_cons _ (.cons_cons _ (.cons_cons _ (.cons_cons _ (.cons_cons _ (.cons _ (.cons _ (.cons_cons _ (.cons_cons _ (.cons_cons _ .slnil)))))))))))))) (.st0 [98] rfl rfl (by kernel_rfl) (by kernel_rfl) (StS.store (.t rfl) (.t rfl) (i := 10) rfl zO rfl rfl (Ss' := [_, _, _]) rfl (M' := [_, _, _, _, _, _, _, _, _, _, (some _, zC [_, _, _]), _, _, _]) rfl) (.cons_cons _ (.cons_cons _ (.cons_cons _ (.cons_cons _ (.cons_cons _ (.cons_cons _ (.cons_cons _ (.cons_cons _ (.cons_cons _ (.cons _ (.cons _ (.cons_cons _ (.cons_cons _ (.cons_cons _ .slnil)))))))))))))) (.st0 [104] rfl rfl (by kernel_rfl) (by kernel_rfl) (StS.store (.t rfl) (.t rfl) (i := 9) rfl zO rfl rfl (Ss' := [_, _, _]) rfl (M' := [_, _, _, _, _, _, _, _, _, (some _, zC [_, _, _]), _, _, _, _]) rfl) (.cons_cons _ (.cons_cons _ (.cons_cons _ (.cons_cons _ (.cons_cons _ (.cons_cons _ (.cons_cons _ (.cons_cons _ (.cons_cons _ (.cons _ (.cons _ (.cons_cons _ (.cons_cons _ (.cons_cons _ .slnil)))))))))))))) (.fin0 (n := 15) zY rfl (by kernel_rfl) (by kernel_rfl) (by kernel_rfl) (.w [6,7,8,9,105] rfl (stM rfl (st (.as (.cI 0 rfl)) rfl (nkQ k15 (.ret (dC (.cons _ (.cons _ (.cons _ (.cons _ (.cons _ (.cons _ (.cons _ (.cons _ (.cons _ (.cons _ (.cons _ (.cons _ (.cons _ (.cons _ .slnil)))))))))))))) (.inl rfl) Tryz.results15 rfl rfl (.cell rfl (i := 10) rfl zO rfl rfl (.cell rfl (i := 9) rfl zO rfl rfl (.tmp (.t rfl) (.tmp (.t rfl) .nil)))) ?_)))))))))))))))))))))
   exact ⟨c, ds', ls', us', k, _, _, rfl, rfl, ⟨by rw [← hP]; exact hPk, hS, by rw [← hP, hZl, hRw, hVl, hLl, hHl], by rw [← hP, hNl, hBy, hVl, hU0, hUl]⟩⟩
end Go.Proofs.YtlebmedapfncoaaGreat
namespace Go.Gs
open Go.En Go.Pz Go.Nt Go.Mz Go.Hp Go.Dt Go.Br
theorem ut (s : BS) (c : Nat) : ∃ s', yB c s s' := by
 by_cases h : ∀ (j : Nat) (r : List Int), s.ps.length ≤ j → s.rows[j]? = some r → cf r c = 0
 ·exact ⟨s, .inl ⟨rfl, h⟩⟩
 ·obtain ⟨i, r, h1, h2, h3⟩ : ∃ (i : Nat) (r : List Int), s.ps.length ≤ i ∧ s.rows[i]? = some r ∧ cf r c ≠ 0 :=
   Classical.byContradiction fun hn => h fun j r g1 g2 => Classical.byContradiction fun g3 => hn ⟨j, r, g1, g2, g3⟩
  have hi := wt h2
  obtain ⟨t, ht⟩ : ∃ t, s.rows[s.ps.length]? = some t := ⟨_, List.getElem?_eq_getElem (by omega)⟩
  obtain ⟨sw, hsw⟩ : ∃ sw, sw = if i = s.ps.length then s.rows else (s.rows.set i t).set s.ps.length r := ⟨_, rfl⟩
  have hl : sw.length = s.rows.length := by rw [hsw]; split <;> simp
  refine ⟨⟨sw.mapIdx fun j row => if s.ps.length < j then clrL r row c s.last else row, s.ps ++ [c], cf r c, if i = s.ps.length then s.odd else !s.odd⟩, .inr ⟨i, r, t, sw, h1, h2, ht, h3, hsw, ?_, fun j => ?_, rfl, rfl, rfl⟩⟩
  ·rw [List.length_mapIdx, hl]
  ·rw [List.getElem?_mapIdx]
   split
   ·rename_i e; simp [e]
   ·rename_i e; simp [e]
theorem pV (s0 : BS) : ∀ c, ∃ s, BRun s0 c s
  | 0 => ⟨s0, .zero⟩
  | c + 1 => by
    obtain ⟨s, h⟩ := pV s0 c
    obtain ⟨s', h'⟩ := ut s c
    exact ⟨s', h.step h'⟩
theorem zHF (R C : Nat) (L : List Int) : ∃ s q, BI (mf C L) R C C s q ∧ s.ps = pivs (mf C L) R C := by
 have h0 := BI.start (mf C L) (R := R) (C := C) (L := L) fun i k _ _ => rfl
 obtain ⟨s, h⟩ := pV ⟨rowsOf R C L, [], 1, false⟩ C
 obtain ⟨q, hq⟩ := h0.all h (Nat.le_refl _)
 exact ⟨s, q, hq, h0.pivs rfl h (Nat.le_refl _)⟩
end Go.Gs
namespace Go.Ll
open Go.Dt Go.Hp Go.Pz Go.En Go.Nt Go.Mz Go.Hn Go.Gs Go.Tr
theorem tF {f : Nat → Int} : ∀ {t : Nat}, (∀ i, i < t → 0 < f i) → 0 < pd t f
 | 0, _ => (by decide : (0 : Int) < 1)
 | t + 1, h => Int.mul_pos (tF fun i hi => h i (by omega)) (h t (by omega))
theorem rC {R C K : Nat} {L : List Int} (hb : Bd L K) : (pivs (mf C L) R C).length = rkL R C L := by
 obtain ⟨s, q, hB, hp⟩ := zHF R C L
 rw [← hp]
 obtain ⟨rs, hrs⟩ : ∃ rs, rs = (q.take s.ps.length).reverse := ⟨_, rfl⟩
 obtain ⟨cs, hcs⟩ : ∃ cs, cs = s.ps.reverse := ⟨_, rfl⟩
 have hrl : rs.length = s.ps.length := by rw [hrs, List.length_reverse, List.length_take, hB.hq]; have := hB.hps; omega
 have hcl : cs.length = s.ps.length := by rw [hcs, List.length_reverse]
 have hD : mn (mf C L) rs cs ≠ 0 := by rw [hrs, hcs, ← hB.hl]; exact hB.h0
 have hrR : ∀ i, i < rs.length → rs.getD i 0 < R := fun i hi => by
  have h2 := va hi
  rw [hrs, List.mem_reverse, ← hrs] at h2
  exact hB.lt _ (List.mem_of_mem_take h2)
 have hcC : ∀ j, j < cs.length → cs.getD j 0 < C := fun j hj => by
  have h2 := va hj
  rw [hcs, List.mem_reverse, ← hcs] at h2
  exact List.mem_range.1 (hB.psl.subset h2)
 have hE := fH (R := R) (C := C) hb
 refine Nat.le_antisymm ?_ ?_
 ·refine Nat.le_of_not_lt fun hlt => hD ?_
  obtain ⟨t, ht⟩ : ∃ t, rs.length = t + 1 := ⟨rs.length - 1, by omega⟩
  have hV : ∀ i, ∃ c : Nat → Int, i < rs.length → ∀ k, k < C → mf C L (rs.getD i 0) k = Dt.sm (rkL R C L) fun m => c m * vB R C L m k := fun i => by
   by_cases hi : i < rs.length
   ·obtain ⟨c, hc⟩ := hE.1 _ (hrR i hi)
    exact ⟨c, fun _ => hc⟩
   ·exact ⟨fun _ => 0, fun h => absurd h hi⟩
  unfold mn
  rw [ht]
  refine kL (D := 1) (by decide) (e := fun i r => if r < rkL R C L then Classical.choose (hV i) r else 0) (V := fun r j => vB R C L r (cs.getD j 0)) fun i j hi hj => ?_
  rw [Int.one_mul]
  show mf C L (rs.getD i 0) (cs.getD j 0) = _
  rw [Classical.choose_spec (hV i) (by omega) _ (hcC j (by omega))]
  have hz : ∀ r, rkL R C L ≤ r → r < t → (fun r => (if r < rkL R C L then Classical.choose (hV i) r else 0) * vB R C L r (cs.getD j 0)) r = 0 := fun r h1 _ => by
   show (if r < rkL R C L then _ else 0) * _ = _
   rw [if_neg (by omega), Int.zero_mul]
  rw [dY (P := rkL R C L) (R := t) (by omega) hz]
  exact zV fun r hr => by rw [if_pos hr]
 ·refine Nat.le_of_not_lt fun hlt => ?_
  have h0 : ∀ i k, i < R → k < C → mn (mf C L) (i :: rs) (k :: cs) = 0 := fun i k hi hk => by
   have hm : i ∈ q := hB.pm.mem_iff.2 (List.mem_range.2 hi)
   obtain ⟨j, hj, he⟩ := List.getElem_of_mem hm
   rcases Nat.lt_or_ge j s.ps.length with g | g
   ·refine tQ _ ?_ k
    rw [hrs, List.mem_reverse]
    exact List.mem_of_getElem? (i := j) (by rw [List.getElem?_take, if_pos g, List.getElem?_eq_getElem hj, he])
   ·obtain ⟨r, hr⟩ : ∃ r, s.rows[j]? = some r := ⟨_, List.getElem?_eq_getElem (by rw [hB.hR, ← hB.hq]; exact hj)⟩
    have h1 := hB.row j r g hr k hk
    have h2 : q.getD j 0 = i := by rw [List.getD_eq_getElem?_getD, List.getElem?_eq_getElem hj, he]; rfl
    rw [hB.zero j r g hr k hk, h2, ← hrs, ← hcs] at h1
    exact h1.symm
  have hzero : det (rs.length + 1) (fun m j => vB R C L m (fc C (vB R C L j))) = 0 := by
   have hV : ∀ m, ∃ c : Nat → Int, m < rkL R C L → ∀ k, k < C → vB R C L m k = Dt.sm R fun i => c i * mf C L i k := fun m => by
    by_cases hm : m < rkL R C L
    ·obtain ⟨c, hc⟩ := hE.2 m hm
     exact ⟨c, fun _ => hc⟩
    ·exact ⟨fun _ => 0, fun h => absurd h hm⟩
   refine kL (D := mn (mf C L) rs cs) hD (e := fun m r => -(Dt.sm R fun i => Classical.choose (hV m) i * ec (mf C L) rs cs i r)) (V := fun r j => mf C L (rs.getD r 0) (fc C (vB R C L j))) fun m j hm hj => ?_
   have hk := cH hb j (show j < rkL R C L by omega)
   rw [Classical.choose_spec (hV m) (by omega) _ hk, ← vF]
   obtain ⟨k, hkk⟩ : ∃ k, k = fc C (vB R C L j) := ⟨_, rfl⟩
   rw [← hkk] at hk ⊢
   obtain ⟨c, hc⟩ : ∃ c, c = Classical.choose (hV m) := ⟨_, rfl⟩
   rw [← hc]
   have e1 : (Dt.sm R fun i => mn (mf C L) rs cs * (c i * mf C L i k)) = Dt.sm R fun i => Dt.sm rs.length fun r => -(c i * ec (mf C L) rs cs i r * mf C L (rs.getD r 0) k) := zV fun i hi => by
    have h1 := h0 i k hi hk
    rw [cj] at h1
    have h2 : (Dt.sm rs.length fun r => -(c i * ec (mf C L) rs cs i r * mf C L (rs.getD r 0) k)) = -(c i) * Dt.sm rs.length fun r => ec (mf C L) rs cs i r * mf C L (rs.getD r 0) k := by
     rw [← vF]
     exact zV fun r _ => by grind
    rw [h2]
    generalize (Dt.sm rs.length fun r => ec (mf C L) rs cs i r * mf C L (rs.getD r 0) k) = S at *
    grind
   rw [e1, dX]
   refine zV fun r _ => ?_
   have h3 : (Dt.sm R fun i => -(c i * ec (mf C L) rs cs i r * mf C L (rs.getD r 0) k)) = (-(mf C L (rs.getD r 0) k)) * Dt.sm R fun i => c i * ec (mf C L) rs cs i r := by
    rw [← vF]
    exact zV fun i _ => by grind
   rw [h3]; grind
  rw [hO _ _ fun i j hji hi => ?_] at hzero
  ·have := tF (f := fun i => vB R C L i (fc C (vB R C L i))) (t := rs.length + 1) fun i hi => (bC hb i (show i < rkL R C L by omega) (cH hb i (show i < rkL R C L by omega))).2.1
   omega
  ·exact (bC hb).later hji (show i < rkL R C L by omega) (cH hb j (show j < rkL R C L by omega)) (Nat.le_refl _)
structure BS (R C K : Nat) (L Bl : List Int) : Prop where
 len : Bl.length = rkL R C L * C
 bd : Bd Bl (32 * K + 241)
 eqv : Eqv (rkL R C L) R C (mf C Bl) (mf C L)
theorem GR.basis {R C K : Nat} {L : List Int} {p q : Int} {c : Nat} {ds : List Int} {ls us : List Row} {k : Nat} {Ml Wl : List Int} (h : GR R C L p q c ds ls us k Ml Wl) (hb : Bd L K) (hR : R ≤ 4) (hC : C ≤ 4) :
  BS R C K L (tab (rkL R C L * C) C fun i k => cf Ml ((R - rkL R C L + i) * C + k)) where
 len := qe _ _ _
 bd := ve fun i k => h.bd hb hR hC _
 eqv := (Eqv.of_eq fun i k hi hk => by show cf _ (i * C + k) = mf C Ml (R - rkL R C L + i) k; rw [xf _ hk (qN hi hk)]; rfl).trans (h.lat hb)
theorem ss {C i : Nat} {L : List Int} : tab ((i + 1 - i) * C) C (fun a k => cf L ((i + a) * C + k)) = Hp.rowL C L i := by
 rw [Nat.add_sub_cancel_left, Nat.one_mul]
 refine fU (by rw [qe, Hp.rowL_len]) fun j hj => ?_
 rw [qe] at hj
 have h1 := xf (N := C) (C := C) (i := 0) (k := j) (fun a k => cf L ((i + a) * C + k)) hj (by omega)
 rw [Nat.zero_mul, Nat.zero_add] at h1
 rw [h1, jI hj]; rfl
theorem ke {C i : Nat} {L : List Int} : (!decide (0 ≤ fir C (cf (Hp.rowL C L i)))) = true ↔ ∀ k, k < C → mf C L i k = 0 := by
 constructor
 ·intro h k hk
  rw [← jI hk]
  have h1 : ¬ 0 ≤ fir C (cf (Hp.rowL C L i)) := by simpa using h
  have h2 := kF (show fir C (cf (Hp.rowL C L i)) < 0 by omega)
  exact xu (C := C) (by omega)
 ·intro h
  rw [kG fun j hj => by rw [jI hj]; exact h j hj]; decide
end Go.Ll
namespace Go.Hp
open Go.Dt Go.Hn Go.Pz Go.Nt Go.Mz Go.En
/-! ### multiples, columns -/
/-! ### meets -/
/-! ### sizes of small ones -/
/-! ### what becomes noughts -/
def qm (L : List Int) : Bool := decide (∀ j, j < L.length → cf L j = 0)
end Go.Hp
namespace Go.Proofs.YtlebmedapfncoaaGreat
open Go.En Go.RowKit
set_option maxRecDepth 10000
set_option maxHeartbeats 4000000
open Go.Nt
open Go.Pz
open Go.Mz
open Go.Hn
open Go.Hp
open Go.Dt
theorem zET {R C K : Nat} {xs : List (Bool × List Nat)} (hx : Bd (zF xs) K) (hK : K ≤ 400000000) (hR : R ≤ 64) (hC : C ≤ 64) (hl : xs.length = R * C) : Ctr Tryz.prog 46 [isM (R : Int) (C : Int) xs] (isB (gj R C (mf C (zF xs)))) := by
 refine Ctr.i Tryz.func46 rfl Tryz.ntmps46 fun w0 F0 => .w [0] rfl ?_
 have hRC := qi hR hC
 have hfo := qE hR hC hl
 refine .sr fun k1 => .box (.t rfl) rfl fun b1 => st (.as (.cB false)) rfl (nkQ k1 (.sq fun k2 => .sr fun k3 => st (.load (.t rfl) (i := 0) rfl zO rfl (Ss' := [_, _, _]) rfl) rfl (st (.eq (.call (qA) (.cons (.t rfl) .nil)) ((show isB _ = isB true from zg (hfo)))) rfl (st (.not (.t rfl)) rfl (nkQ k3 (.cd rfl (fun hc1 => ?_) (fun hc1 => ?_)))))))
 ·exfalso; simp at hc1
 ·refine .skip (.nk k2 (.sr fun k4 => st (.as (.cI (-1) rfl)) rfl (st (.as (.cB false)) rfl (nkQ k4 (.sq fun k5 => .sr fun k6 => st (.fieldAddr (.t rfl) zZ ty3) rfl (st (.load1 (.t rfl) (i := 0) rfl ty3 rfl) rfl (st (.mv (.cI 0 rfl)) rfl (nkQ k6 (.w [1,2,3,4,14,15] rfl (.block (.loopF [1,14] (fun (z : { z : Nat × Int × Bool // z.1 ≤ R ∧ HermF z.1 C (mf C (zF xs)) ∧ (z.2.2 = true → 0 < z.1 ∧ fc C ((mf C (zF xs)) (z.1 - 1)) = C) ∧ (z.2.2 = false → z.2.1 = if z.1 = 0 then -1 else ((fc C ((mf C (zF xs)) (z.1 - 1)) : Nat) : Int)) }) => match z with | ⟨(i, last, ended), hI⟩ => [(15, isI (i : Int)), (3, isI last), (4, isB ended)]) (fun M => fun (z : { z : Nat × Int × Bool // z.1 ≤ R ∧ HermF z.1 C (mf C (zF xs)) ∧ (z.2.2 = true → 0 < z.1 ∧ fc C ((mf C (zF xs)) (z.1 - 1)) = C) ∧ (z.2.2 = false → z.2.1 = if z.1 = 0 then -1 else ((fc C ((mf C (zF xs)) (z.1 - 1)) : Nat) : Int)) }) => match z with | ⟨(i, last, ended), hI⟩ => M) (fun (z : { z : Nat × Int × Bool // z.1 ≤ R ∧ HermF z.1 C (mf C (zF xs)) ∧ (z.2.2 = true → 0 < z.1 ∧ fc C ((mf C (zF xs)) (z.1 - 1)) = C) ∧ (z.2.2 = false → z.2.1 = if z.1 = 0 then -1 else ((fc C ((mf C (zF xs)) (z.1 - 1)) : Nat) : Int)) }) => match z with | ⟨(i, last, ended), hI⟩ => R - i) (⟨(0, -1, false), Nat.zero_le _, fun i hi => absurd hi (Nat.not_lt_zero _), fun h => (by cases h), fun _ => rfl⟩) (Cv.mem (.c 15 rfl ?_ (.c 3 rfl ?_ (.c 4 rfl ?_ (.l [1,14] rfl)))) ?_) ?_)))))))))))
  ·rfl
  ·rfl
  ·rfl
  ·rfl
  rintro ⟨⟨i, last, ended⟩, hI⟩ K7 hK7
  refine .w [15,3,4,1,14] rfl ?_
  simp only [] at hI
  obtain ⟨hi, hF, hE1, hE2⟩ := hI
  refine .sr fun k8 => st (.ltI (.t rfl) (.t rfl)) rfl (nkQ k8 (.sq fun k9 => .cd rfl (fun hc2 => ?_) (fun hc2 => ?_)))
  ·refine .skip (.nk k9 (.sq fun k10 => .block (.sr fun k11 => stM rfl (stM rfl (nkQ k11 (.sr fun k12 => st (.load (.t rfl) (i := 0) rfl zO rfl (Ss' := [_, _, _]) rfl) rfl (stM rfl (st (.call (gh (i := i) hx hK hR hC hl (by omega)) (.cons (.t rfl) (.cons (.t rfl) .nil))) rfl (stM rfl (nkQ k12 (.sq fun k13 => .sr fun k14 => stM rfl (st (.ltI (.t rfl) (.cI 0 rfl)) rfl (nkQ k14 (.cd rfl (fun hc3 => ?_) (fun hc3 => ?_)))))))))))))))
   ·have hfk := kF (by omega)
    refine .sr fun k15 => st (.as (.cB true)) rfl (nkQ k15 (.exit (.the (.blh (.nk k10 (.region (st (.addI (.t rfl) (.cI 1 rfl) (by first | omega | assumption) (by first | omega | assumption)) rfl (stM rfl (nl (.thn ?_))))))))))
    refine hK7 (⟨(i + 1, last, true), by show i + 1 ≤ R; omega, hF.snoc (fun hc => absurd hc hfk), fun _ => ⟨Nat.succ_pos _, by have := mC ((mf C (zF xs)) i) C; show (fc C ((mf C (zF xs)) i)) = C; omega⟩, fun h => (by cases h)⟩) _ _ ?_ (Cv.mem (.c 15 rfl ?_ (.c 3 rfl ?_ (.c 4 rfl ?_ (.l [1,14] rfl)))) ?_)
    ·show R - (i + 1) < R - i; omega
    ·exact zG (by omega)
    ·rfl
    ·rfl
    ·rfl
   ·have hfk := uO (by omega)
    have hbx : (List.length (zA ((mf C (zF xs)) i (fc C ((mf C (zF xs)) i))).natAbs)) ≤ K := hx _
    have hne := mB hfk
    refine .skip (.nk k13 (.sr fun k16 => st (.load (.t rfl) (i := 0) rfl zO rfl (Ss' := [_, _, _]) rfl) rfl (stM rfl (st (.eq (.mv (.t rfl)) ((show _ = isI ((fc C ((mf C (zF xs)) i)) : Int) from zG (if_pos hfk)))) rfl (st (.eq (.call (wh (i := i) (k := (fc C ((mf C (zF xs)) i))) hx (by omega) hR hC hl (by omega) hfk) (.cons (.t rfl) (.cons (.t rfl) (.cons (.t rfl) .nil)))) ((show _ = isZ ((mf C (zF xs)) i (fc C ((mf C (zF xs)) i))) from rfl))) rfl (.alloc [isB false, SlM isU []] zJ (fun _ _ => ⟨rfl, nilM _ _, trivial⟩) rfl fun b2 => .store (.t rfl) (.t rfl) (i := 0) rfl zE rfl rfl (Ss' := [_, _]) rfl (M' := [(some _, zC [_, _]), _]) rfl (nkQ k16 (.sq fun k17 => .sr fun k18 => stM rfl (stM rfl (stF rfl rfl (fun hg => .eq (.mv (.t rfl)) ((show _ = isI ((fc C ((mf C (zF xs)) i)) : Int) from zG (if_pos hfk)))) rfl (stF rfl rfl (fun hg => .mv (.t rfl)) rfl (stF rfl rfl (fun hg => .leI (Has.g rfl hg) (Has.g rfl hg)) rfl (st (.pickOr (.t rfl) (fun h => Has.g rfl (ng h))) rfl (stM rfl (stF rfl rfl (fun hg => .load (.t rfl) (i := 0) rfl zE rfl (Ss' := [_, _]) rfl) rfl ?_)))))))))))))))
    refine stF rfl rfl (fun hg => have hg' := BP.t hg; OK1.eq (.call (qD (by rw [zB]; omega)) (.cons (Has.g rfl hg) .nil)) ((show _ = isI (sgn ((mf C (zF xs)) i (fc C ((mf C (zF xs)) i)))) from zG (by rw [zK])))) rfl ?_
    refine stF rfl rfl (fun hg => .ltI (Has.g rfl hg) (.cI 0 rfl)) rfl (st (.pickOr (.t rfl) (fun h => Has.g rfl (ng h))) rfl (nkQ k18 (.cd rfl (fun hc4 => ?_) (fun hc4 => ?_))))
    ·have HX131 := hc4
     refine .sr fun k19 => st (.as (.cB false)) rfl (nkQ k19 (.ret (.thr (.blr (.thr (.thr (.blr (.thr (rt1 (.inl rfl) Tryz.results46 rfl (.tmp (Has.t' rfl ?_) .nil))))))))))
     all_goals (exact zg (lk fun hh => nN (by omega) hfk hh hE1 hE2 (by simpa [or_assoc] using HX131)))
    ·have hen : ended = false := by simpa using hc4.1.1
     have hpos : 0 < (mf C (zF xs)) i (fc C ((mf C (zF xs)) i)) := by
      have h2 := mt (jy ((mf C (zF xs)) i (fc C ((mf C (zF xs)) i)))).2
      omega
     refine .skip (.nk k17 (.sq fun k20 => .sr fun k21 => stM rfl (st (.mv (.cI 0 rfl)) rfl (nkQ k21 (.block (.loopF [1,14,15,3,4,16,17,5,18,19,20,6,21,22,23,24,25,26,7,27,28,29,30,31,32,33,34,35,36,37,38] (fun (z : { r : Nat // r ≤ i ∧ ∀ j, j < r → 0 ≤ (mf C (zF xs)) j (fc C ((mf C (zF xs)) i)) ∧ (mf C (zF xs)) j (fc C ((mf C (zF xs)) i)) < (mf C (zF xs)) i (fc C ((mf C (zF xs)) i)) }) => match z with | ⟨r, hI2⟩ => [(39, isI (r : Int))]) (fun M => fun (z : { r : Nat // r ≤ i ∧ ∀ j, j < r → 0 ≤ (mf C (zF xs)) j (fc C ((mf C (zF xs)) i)) ∧ (mf C (zF xs)) j (fc C ((mf C (zF xs)) i)) < (mf C (zF xs)) i (fc C ((mf C (zF xs)) i)) }) => match z with | ⟨r, hI2⟩ => M) (fun (z : { r : Nat // r ≤ i ∧ ∀ j, j < r → 0 ≤ (mf C (zF xs)) j (fc C ((mf C (zF xs)) i)) ∧ (mf C (zF xs)) j (fc C ((mf C (zF xs)) i)) < (mf C (zF xs)) i (fc C ((mf C (zF xs)) i)) }) => match z with | ⟨r, hI2⟩ => i - r) (⟨0, Nat.zero_le _, fun j hj => absurd hj (Nat.not_lt_zero _)⟩) (Cv.mem (.c 39 rfl ?_ (.l [1,14,15,3,4,16,17,5,18,19,20,6,21,22,23,24,25,26,7,27,28,29,30,31,32,33,34,35,36,37,38] rfl)) ?_) ?_))))))
     ·rfl
     ·rfl
     rintro ⟨r, hr, hI2⟩ K22 hK22
     refine .w [39,1,14,15,3,4,16,17,5,18,19,20,6,21,22,23,24,25,26,7,27,28,29,30,31,32,33,34,35,36,37,38] rfl (.sr fun k23 => st (.ltI (.t rfl) (.t rfl)) rfl (nkQ k23 (.sq fun k24 => .cd rfl (fun hc5 => ?_) (fun hc5 => ?_))))
     ·have hbr : (List.length (zA ((mf C (zF xs)) r (fc C ((mf C (zF xs)) i))).natAbs)) ≤ K := hx _
      refine .skip (.nk k24 (.sq fun k25 => .block (.sr fun k26 => stM rfl (stM rfl (nkQ k26 (.sr fun k27 => st (.load (.t rfl) (i := 1) rfl zO rfl (Ss' := [_, _, _]) rfl) rfl (stM rfl (st (.eq (.mv (.t rfl)) ((show _ = isI ((fc C ((mf C (zF xs)) i)) : Int) from zG (if_pos hfk)))) rfl (st (.eq (.call (wh (i := r) (k := (fc C ((mf C (zF xs)) i))) hx (by omega) hR hC hl (by omega) hfk) (.cons (.t rfl) (.cons (.t rfl) (.cons (.t rfl) .nil)))) ((show _ = isZ ((mf C (zF xs)) r (fc C ((mf C (zF xs)) i))) from rfl))) rfl (.alloc [isB false, SlM isU []] zJ (fun _ _ => ⟨rfl, nilM _ _, trivial⟩) rfl fun b3 => .store (.t rfl) (.t rfl) (i := 0) rfl zE rfl rfl (Ss' := [_, _]) rfl (M' := [(some _, zC [_, _]), _, _]) rfl (nkQ k27 (.sr fun k28 => st (.load (.t rfl) (i := 0) rfl zE rfl (Ss' := [_, _]) rfl) rfl (st (.eq (.call (qD (by rw [zB]; omega)) (.cons (.t rfl) .nil)) ((show _ = isI (sgn ((mf C (zF xs)) r (fc C ((mf C (zF xs)) i)))) from zG (by rw [zK])))) rfl ?_)))))))))))))
      refine st (.ltI (.t rfl) (.cI 0 rfl)) rfl (stM rfl (stF rfl rfl (fun hg => .load (.t rfl) (i := 0) rfl zE rfl (Ss' := [_, _]) rfl) rfl (stF rfl rfl (fun hg => .load (.t rfl) (i := 1) rfl zE rfl (Ss' := [_, _]) rfl) rfl ?_)))
      refine stF rfl rfl (fun hg => have hg' := BP.t hg; OK1.eq (.call (wK (by rw [zB]; omega) (by rw [zB]; omega)) (.cons (Has.g rfl hg) (.cons (Has.g rfl hg) .nil))) ((show _ = isI (xB ((mf C (zF xs)) r (fc C ((mf C (zF xs)) i))) ((mf C (zF xs)) i (fc C ((mf C (zF xs)) i)))) from zG (by rw [zK, zK])))) rfl ?_
      refine stF rfl rfl (fun hg => .geI (Has.g rfl hg) (.cI 0 rfl)) rfl (st (.pickOr (.t rfl) (fun h => Has.g rfl (ng h))) rfl (nkQ k28 (.cd rfl (fun hc6 => ?_) (fun hc6 => ?_))))
      ·refine .sr fun k29 => st (.as (.cB false)) rfl (nkQ k29 (.ret (.blr (.thr (.thr (.blr (.thr (.blr (.thr (.thr (.blr (.thr (rt1 (.inl rfl) Tryz.results46 rfl (.tmp (Has.t' rfl ?_) .nil))))))))))))))
       all_goals (exact zg (lk fun hh => by have hsl := jy ((mf C (zF xs)) r (fc C ((mf C (zF xs)) i))); have hcz := jf ((mf C (zF xs)) r (fc C ((mf C (zF xs)) i))) ((mf C (zF xs)) i (fc C ((mf C (zF xs)) i))); have hx1 := (hh i (by omega) hfk).2.2 r (by omega); omega))
      ·have hrow : 0 ≤ (mf C (zF xs)) r (fc C ((mf C (zF xs)) i)) ∧ (mf C (zF xs)) r (fc C ((mf C (zF xs)) i)) < (mf C (zF xs)) i (fc C ((mf C (zF xs)) i)) := by
        have h1 := mt (jy ((mf C (zF xs)) r (fc C ((mf C (zF xs)) i)))).2
        have h2 := jf ((mf C (zF xs)) r (fc C ((mf C (zF xs)) i))) ((mf C (zF xs)) i (fc C ((mf C (zF xs)) i)))
        omega
       refine .skip (.bln (.nk k25 (.region (st (.addI (.t rfl) (.cI 1 rfl) (by first | omega | assumption) (by first | omega | assumption)) rfl (stM rfl (nl (.thn ?_)))))))
       refine hK22 (⟨r + 1, by omega, fun j hj => by rcases Nat.lt_or_ge j r with h | h; exact hI2 j h; obtain rfl : j = r := (by omega); exact hrow⟩) _ _ ?_ (Cv.trans (Cv.drop ((.cons _ (.cons_cons _ (.cons_cons _ .slnil))))) (Cv.mem (.c 39 rfl ?_ (.l [1,14,15,3,4,16,17,5,18,19,20,6,21,22,23,24,25,26,7,27,28,29,30,31,32,33,34,35,36,37,38] rfl)) ?_))
       ·show i - (r + 1) < i - r; omega
       ·exact zG (by omega)
       ·rfl
     ·refine .exit (.the (.the (.blh (.nk k20 (.region (st (.eq (.mv (.t rfl)) ((show _ = isI ((fc C ((mf C (zF xs)) i)) : Int) from zG (if_pos hfk)))) rfl (stM rfl (nl (.bln (.nk k10 (.region (st (.addI (.t rfl) (.cI 1 rfl) (by first | omega | assumption) (by first | omega | assumption)) rfl (stM rfl (nl (.thn ?_)))))))))))))))
      refine hK7 (⟨(i + 1, ((fc C ((mf C (zF xs)) i)) : Int), ended), by show i + 1 ≤ R; omega, hF.snoc (fun _ => ⟨fun h0 => by have := hE2 hen; rw [if_neg (by omega)] at this; omega, hpos, fun r' hr' => hI2 r' (by omega)⟩), fun h => (by subst hen; cases h), fun _ => by show ((fc C ((mf C (zF xs)) i)) : Int) = if i + 1 = 0 then -1 else _; rw [if_neg (by omega)]; rfl⟩) _ _ ?_ (Cv.trans (Cv.drop ((.cons _ (.cons_cons _ .slnil)))) (Cv.mem (.c 15 rfl ?_ (.c 3 rfl ?_ (.c 4 rfl ?_ (.l [1,14] rfl)))) ?_))
      ·show R - (i + 1) < R - i; omega
      ·exact zG (by omega)
      ·rfl
      ·rfl
      ·rfl
  ·refine .exit (.the (.the (.blh (.nk k5 (.cv (Cv.wk .nil) (.sr fun k30 => st (.as (.cB true)) rfl (nkQ k30 (.ret (rt1 (.inl rfl) Tryz.results46 rfl (.tmp (Has.t' rfl ?_) .nil))))))))))
   all_goals (exact zg (rb (by rw [show R = i by omega]; exact hF)))
theorem uh {xs : List (Bool × List Nat)} (hx : xs.length ≤ 4294967296) : Ctr Tryz.prog 47 [SlK 2 zc xs] (SlK 2 zc xs) := by
 refine Ctr.i Tryz.func47 rfl Tryz.ntmps47 fun w0 F0 => .w [0] rfl (.fact (Has.lenLt (Has.t (t := 0) rfl)) fun lt0 => .sr fun k1 => st (.as (.cWK (k := 2) (fk := zc))) rfl (nkQ k1 (.sq fun k2 => .sr fun k3 => stM rfl (.eqNilK zp (.t rfl) rfl fun bn1 hn1 => nkQ k3 (.cd rfl (fun hc2 => ?_) (fun hc2 => ?_))))))
 ·refine .sr fun k4 => st (.as (.cWK (k := 2) (fk := zc))) rfl (nkQ k4 (.ret (.thr (rt1 (.inl rfl) Tryz.results47 rfl (.tmp (Has.t' rfl ?_) .nil)))))
  all_goals (rw [hn1 hc2])
 ·refine .skip (.nk k2 (.sr fun k5 => .buildS0 zp zE rfl (stM rfl (st (.appendZK zp zE zJ bY (.t rfl) (.t rfl) (by first | omega | assumption)) rfl (stM rfl (nkQ k5 (.w [2] rfl (.ret (rt1 (.inl rfl) Tryz.results47 rfl (.tmp (Has.t' rfl ?_) .nil))))))))))
  all_goals (rfl)
theorem wN {xs : List (Bool × List Nat)} {K : Nat} (hx : Bd (zF xs) K) : Ctr Tryz.prog 39 [SlK 2 zc xs, bR (ι := { p : Bool × List Nat // (List.length (zA (val p.2))) ≤ K }) Tryz.prog (fun p => [zu (zc p.1)]) (fun p => isB (decide (zv p.1.1 p.1.2 ≠ 0)))] (isB (decide (0 ≤ fir xs.length (cf (zF xs))))) := by
 refine Ctr.i Tryz.func39 rfl Tryz.ntmps39 fun w0 F0 => .w [0,1] rfl (.fact (Has.lenLt (Has.t (t := 0) rfl)) fun lt0 => .sr fun k1 => st (.as (.cB false)) rfl (nkQ k1 (.sr fun k2 => stM rfl (stM rfl (st (.call (bN hx) (.cons (.t rfl) (.cons (.t rfl) .nil))) rfl (st (.geI (.t rfl) (.cI 0 rfl)) rfl (stM rfl (nkQ k2 (.w [4] rfl (.ret (rt1 (.inl rfl) Tryz.results39 rfl (.tmp (Has.t' rfl ?_) .nil))))))))))))
 all_goals (rfl)
theorem cM {m : Bool} {xs : List Nat} (hx : (List.length (zA (val xs))) < 4294700000) : Ctr Tryz.prog 51 [zu [isB m, zD xs]] (isB (decide (zv m xs ≠ 0))) := by
 refine Ctr.i Tryz.func51 rfl Tryz.ntmps51 fun w0 F0 => .w [0] rfl (.fact (Has.okZ (Has.t (t := 0) rfl)) fun okz0 => .sr fun k1 => .box (.t rfl) rfl fun b1 => st (.as (.cB false)) rfl (nkQ k1 (.sr fun k2 => st (.load (.t rfl) (i := 0) rfl zE rfl (Ss' := [_, _]) rfl) rfl (st (.call (qD (by omega)) (.cons (.t rfl) .nil)) rfl (st (.neI (.t rfl) (.cI 0 rfl)) rfl (stM rfl (nkQ k2 (.w [2] rfl (.ret (rt1 (.inl rfl) Tryz.results51 rfl (.tmp (Has.t' rfl ?_) .nil)))))))))))
 all_goals (exact zg (by simp [xN]))
theorem dP {R C K Kv : Nat} {xs vs : List (Bool × List Nat)} (hx : Bd (zF xs) K) (hR : R ≤ 64) (hC : C ≤ 64) (hl : xs.length = R * C) (hv : Bd (zF vs) Kv) (hvl : vs.length = C) (hK : Kv + (R + 1) * (K + 2) ≤ 100000000) (hF : HermF R C (mf C (zF xs))) : Ctr Tryz.prog 26 [isM (R : Int) (C : Int) xs, SlK 2 zc vs] (zW [isP (if spB R C (mf C (zF xs)) (cf (zF vs)) = true then coL R C (vr C (mf C (zF xs)) R).length (zF xs) (zF vs) else []), isI (if spB R C (mf C (zF xs)) (cf (zF vs)) = true then 0 else 10)]) := by
 refine Ctr.i Tryz.func26 rfl Tryz.ntmps26 fun w0 F0 => .w [0,1] rfl (.fact (Has.lenLt (Has.t (t := 1) rfl)) fun lt1 => ?_)
 have hRC := qi hR hC
 have hK1 : K + 2 ≤ (R + 1) * (K + 2) := Nat.le_mul_of_pos_left _ (Nat.succ_pos R)
 have hfo := qE hR hC hl
 obtain ⟨P, hP, hp1, hp2, hpl⟩ := aW hF
 have hPl : (vr C (mf C (zF xs)) R).length = P := by rw [hpl, List.length_map, List.length_range]
 rw [hPl]
 have hpv := jz ((List.range P).map fun i => fc C ((mf C (zF xs)) i))
 rw [List.length_map, List.length_range] at hpv
 have hvv : (zF vs).length = C := by rw [qx]; exact hvl
 have hpos : ∀ i, i < P → 0 < (mf C (zF xs)) i (fc C ((mf C (zF xs)) i)) := fun i hi => (hF i (by omega) (hp1 i hi)).2.1
 refine .sr fun k1 => .box (.t rfl) rfl fun b1 => st (.as (.cWK (k := 2) (fk := zc))) rfl (st (.as (.cI 0 rfl)) rfl (nkQ k1 (.sq fun k2 => .block (.sr fun k3 => st (.load (.t rfl) (i := 0) rfl zO rfl (Ss' := [_, _, _]) rfl) rfl (st (.eq (.call (qA) (.cons (.t rfl) .nil)) ((show isB _ = isB true from zg (hfo)))) rfl (st (.not (.t rfl)) rfl (stM rfl (stF rfl rfl (fun hg => .mv (.t rfl)) rfl (stF rfl rfl (fun hg => .len zp (Has.g rfl hg)) rfl (stF rfl rfl (fun hg => .fieldAddr (.t rfl) zo ty3) rfl (stF rfl rfl (fun hg => .load1 (Has.g rfl hg) (i := 0) rfl ty3 rfl) rfl (stF rfl rfl (fun hg => .neI (Has.g rfl hg) (Has.g rfl hg)) rfl (st (.pickOr (.t rfl) (fun h => Has.g rfl (ng h))) rfl (stM rfl (nkQ k3 (.w [1,2,4,5,14] rfl (.cd rfl (fun hc1 => ?_) (fun hc1 => ?_))))))))))))))))))
 ·exfalso; omega
 ·refine .sr fun k4 => st (.load (.t rfl) (i := 0) rfl zO rfl (Ss' := [_, _, _]) rfl) rfl (st (.eq (.call (zET (K := K) hx (by omega) hR hC hl) (.cons (.t rfl) .nil)) ((show isB _ = isB true from zg (cm.2 hF)))) rfl (st (.not (.t rfl)) rfl (stM rfl (nkQ k4 (.cd rfl (fun hc2 => ?_) (fun hc2 => ?_))))))
  ·exfalso; simp at hc2
  ·refine .skip (.bln (.nk k2 (.w [1,2,4,5] rfl (.sr fun k5 => stM rfl (st (.call (uh (by omega)) (.cons (.t rfl) .nil)) rfl (stM rfl (nkQ k5 (.sr fun k6 => st (.fieldAddr (.t rfl) zZ ty3) rfl (st (.load1 (.t rfl) (i := 0) rfl ty3 rfl) rfl (.makeK (fk := zc) (u := (false, [])) (n := R) (c := R) zp zE zJ (fun _ _ => ⟨rfl, nilM _ _, trivial⟩) zL bY (Has.t' rfl rfl) (Has.t' rfl rfl) (by omega) rfl fun b2 => stM rfl (nkQ k6 (.w [2,4,5,6,7] rfl (.sq fun k7 => .sr fun k8 => st (.load (.t rfl) (i := 1) rfl zO rfl (Ss' := [_, _, _]) rfl) rfl (st (.eq (.call (fM (K := K) hx (by omega) hR hC hl) (.cons (.t rfl) .nil)) ((show _ = SlM isI (pv ((List.range P).map fun i => fc C ((mf C (zF xs)) i))) from by rw [hpl]))) rfl (st (.eq (.len wm (.t rfl)) ((show isI _ = isI (P : Int) from zG (by rw [hpv])))) rfl (st (.mv (.cI 0 rfl)) rfl (nkQ k8 (.block (.loopF [2,4,5,7,35,36] (fun (z : { z : Nat × List (Bool × List Nat) // z.1 ≤ P ∧ zF z.2 = crs C (zF xs) (zF vs) z.1 }) => match z with | ⟨(n, ys), hI⟩ => [(37, isI (n : Int)), (6, SlK 2 zc ys)]) (fun M => fun (z : { z : Nat × List (Bool × List Nat) // z.1 ≤ P ∧ zF z.2 = crs C (zF xs) (zF vs) z.1 }) => match z with | ⟨(n, ys), hI⟩ => [(some b2, zC ((fill ((coL R C P (zF xs) (zF vs)).map nz) n (false, [])).flatMap zc)), (some b1, zC [isI (R : Int), isI (C : Int), SlK 2 zc xs])]) (fun (z : { z : Nat × List (Bool × List Nat) // z.1 ≤ P ∧ zF z.2 = crs C (zF xs) (zF vs) z.1 }) => match z with | ⟨(n, ys), hI⟩ => P - n) (⟨(0, vs), Nat.zero_le _, rfl⟩) (Cv.mem (.c 37 rfl ?_ (.c 6 rfl ?_ (.l [2,4,5,7,35,36] rfl))) ?_) ?_)))))))))))))))))))
   ·rfl
   ·rfl
   ·exact ii (by rw [cr, List.length_map, bI])
   rintro ⟨⟨n, ys⟩, hI⟩ K9 hK9
   refine .w [37,6,2,4,5,7,35,36] rfl (.memEq (M' := [(some b2, zC ((fill ((coL R C P (zF xs) (zF vs)).map nz) n (false, [])).flatMap zc)), (some b1, zC [isI (R : Int), isI (C : Int), SlK 2 zc xs])]) rfl ?_)
   simp only [] at hI
   obtain ⟨hn, hyv⟩ := hI
   have hyl : ys.length = C := by rw [← qx, hyv]; exact kM hvv n
   have hnK : n * (K + 2) ≤ (R + 1) * (K + 2) := Nat.mul_le_mul_right _ (by omega)
   have hyb : Bd (zF ys) (Kv + n * (K + 2)) := by rw [hyv]; exact uX hx hv n fun i hi => hpos i (by omega)
   refine .sr fun k10 => st (.ltI (.t rfl) (.t rfl)) rfl (nkQ k10 (.sq fun k11 => .cd rfl (fun hc3 => ?_) (fun hc3 => ?_)))
   ·have hnP : n < P := (by omega)
    have hfn := hp1 n hnP
    have hpl1 : (n + 1) * C ≤ R * C := Nat.mul_le_mul_right _ (show n + 1 ≤ R by omega)
    have hpl2 : (n + 1) * C = n * C + C := Nat.succ_mul _ _
    have hc1 : ((n : Int) * (C : Int)) = ((n * C : Nat) : Int) := (Int.natCast_mul n C).symm
    have hc2 : (((n : Int) + 1) * (C : Int)) = (((n + 1) * C : Nat) : Int) := by rw [Int.natCast_mul]; rfl
    obtain ⟨rw', hrw'⟩ : ∃ r, r = (xs.take ((n + 1) * C)).drop (n * C) := ⟨_, rfl⟩
    have hrv : zF rw' = Go.Hp.rowL C (zF xs) n := by rw [hrw']; exact oU (by omega)
    have hrl : rw'.length = C := by rw [← qx, hrv, Go.Hp.rowL_len]
    have hrc : ∀ k, k < C → cf (zF rw') k = (mf C (zF xs)) n k := fun k hk => by rw [hrv]; exact jI hk
    have hrb : Bd (zF rw') K := fun k => by
     rcases Nat.lt_or_ge k C with h | h
     ·rw [hrc k h]; exact hx _
     ·rw [vn (by rw [qx]; omega), Int.natAbs_zero, zH]; exact Nat.zero_le _
    have hpn : (pv ((List.range P).map fun i => fc C ((mf C (zF xs)) i)))[n]? = some (((fc C ((mf C (zF xs)) n)) : Nat) : Int) := by unfold pv; rw [List.getElem?_map, List.getElem?_map, List.getElem?_range hnP]; rfl
    have hcn : (List.length (zA (crn C (zF xs) (zF vs) n).natAbs)) ≤ Kv + n * (K + 2) := by unfold crn; rw [← hyv]; exact kJ (hpos n hnP) (hyb _)
    refine .skip (.nk k11 (.sq fun k12 => .block (.sr fun k13 => stM rfl (st (.ixP wm ty3 (.t rfl) (.t rfl) (by omega) hpn) rfl (st (.loadP1 (.t rfl) ty3) rfl (stM rfl (stM rfl (nkQ k13 (.sr fun k14 => st (.fieldAddr (.t rfl) qX zN) rfl (st (.load1 (.t rfl) (i := 1) rfl zN rfl) rfl (stM rfl (st (.fieldAddr (.t rfl) zo ty3) rfl (st (.load1 (.t rfl) (i := 1) rfl ty3 rfl) rfl (st (.eq (.mulI (.t rfl) (.t rfl) (by first | omega | (rw [hc1]; omega) | (rw [hc2]; omega)) (by first | omega | (rw [hc1]; omega) | (rw [hc2]; omega))) ((show isI _ = isI ((n * C : Nat) : Int) from zG hc1))) rfl ?_))))))))))))))
    refine stM rfl (st (.addI (.t rfl) (.cI 1 rfl) (by first | omega | (rw [hc1]; omega) | (rw [hc2]; omega)) (by first | omega | (rw [hc1]; omega) | (rw [hc2]; omega))) rfl ?_)
    refine st (.fieldAddr (.t rfl) zo ty3) rfl (st (.load1 (.t rfl) (i := 1) rfl ty3 rfl) rfl (st (.eq (.mulI (.t rfl) (.t rfl) (by first | omega | (rw [hc1]; omega) | (rw [hc2]; omega)) (by first | omega | (rw [hc1]; omega) | (rw [hc2]; omega))) ((show isI _ = isI (((n + 1) * C : Nat) : Int) from zG hc2))) rfl ?_))
    refine st (.eq (.slLHK zp zE zL (.t rfl) (.t rfl) (.t rfl) ⟨by omega, by omega, by omega⟩) ((show _ = SlK 2 zc rw' from kU (by rw [hrw']; rfl)))) rfl ?_
    refine stM rfl (nkQ k14 (.sq fun k15 => .drh [true, true] (Ms := [_, _]) rfl (.m [] rfl (.m [] rfl (.so [55,56] rfl (.ixK zp zE (.t rfl) (.t rfl) zL (by omega) (getD_some (d := (false, [])) (by first | omega | (simp only [Int.toNat_natCast, List.length_set]; omega)))) ?_)))))
    refine .so [57] rfl (.loadP (.t rfl) zE rfl (Ss' := [_, _]) rfl) (.m [] rfl (.m [] rfl (.so [59,60] rfl (.ixK zp zE (.t rfl) (.t rfl) zL (by omega) (getD_some (d := (false, [])) (by first | omega | (simp only [Int.toNat_natCast, List.length_set]; omega)))) ?_)))
    refine .so [61] rfl (.loadP (.t rfl) zE rfl (Ss' := [_, _]) rfl) ?_
    refine .so [58,62] rfl (.eq (.call (bS (by show (List.length (zA (val (ys.getD (fc C ((mf C (zF xs)) n)) (false, [])).2))) < _; have := hyb.raw (fc C ((mf C (zF xs)) n)); omega) (by show (List.length (zA (val (rw'.getD (fc C ((mf C (zF xs)) n)) (false, [])).2))) < _; have := hrb.raw (fc C ((mf C (zF xs)) n)); omega) (by show 0 < zv (rw'.getD (fc C ((mf C (zF xs)) n)) (false, [])).1 (rw'.getD (fc C ((mf C (zF xs)) n)) (false, [])).2; rw [← qb, hrc _ hfn]; exact hpos n hnP)) (.cons (.t rfl) (.cons (.t rfl) .nil))) ((show _ = zW [isZ (crn C (zF xs) (zF vs) n), isZ (cf (crs C (zF xs) (zF vs) n) (fc C ((mf C (zF xs)) n)) % (mf C (zF xs)) n (fc C ((mf C (zF xs)) n))), isB true] from by rw [show (mf C (zF xs)) n (fc C ((mf C (zF xs)) n)) = cf (zF rw') (fc C ((mf C (zF xs)) n)) from (hrc _ hfn).symm, show (crn C (zF xs) (zF vs) n) = cf (zF ys) (fc C ((mf C (zF xs)) n)) / cf (zF rw') (fc C ((mf C (zF xs)) n)) from by unfold crn; rw [hyv, hrc _ hfn], ← hyv, qb, qb]; rfl))) ?_
    refine .m [63] rfl (.so [54] rfl (.ext (.t rfl) rfl) (.so [54] rfl (.ext (.t rfl) rfl) (.so [54] rfl (.ext (.t rfl) rfl) (.als2 (n1 := 15) (ds := [11,12]) (zs := [[isB false, SlM isU []], [isB false, SlM isU []]]) rfl (.cons rfl rfl zJ (fun _ _ => ⟨rfl, nilM _ _, trivial⟩) (.cons rfl rfl zJ (fun _ _ => ⟨rfl, nilM _ _, trivial⟩) .nil)) (.cons_cons _ (.cons_cons _ .slnil)) (Cs := [_, _]) rfl (.new [64] 0 (Ss' := [_, _]) (Cs' := [zC [_, _], _]) rfl (by kernel_rfl) (by kernel_rfl) rfl rfl rfl (by kernel_rfl) rfl (.t rfl) zE rfl rfl rfl rfl (.new [65] 1 (Ss' := [_, _]) (Cs' := [_, zC [_, _]]) rfl (by kernel_rfl) (by kernel_rfl) rfl rfl rfl (by kernel_rfl) rfl (.t rfl) zE rfl rfl rfl rfl (.fn (n := 17) zY rfl (fun bs hbs => ?_))))))))
    obtain ⟨b3, b4, rfl⟩ := zAJ hbs
    refine .memEq (M' := [_, _, _, _]) rfl (.cv (Cv.wk (.k 2 rfl (.k 4 rfl (.k 5 rfl (.k 7 rfl (.k 35 rfl (.k 36 rfl (.k 37 rfl (.k 6 rfl (.k 38 rfl (.k 39 rfl (.k 40 rfl (.k 41 rfl (.k 8 rfl (.k 9 rfl (.k 42 rfl (.k 43 rfl (.k 44 rfl (.k 45 rfl (.k 46 rfl (.k 47 rfl (.k 48 rfl (.k 49 rfl (.k 50 rfl (.k 51 rfl (.k 52 rfl (.k 53 rfl (.k 10 rfl (.k 55 rfl (.k 56 rfl (.k 57 rfl (.k 58 rfl (.k 59 rfl (.k 60 rfl (.k 61 rfl (.k 62 rfl (.k 63 rfl (.k 54 rfl (.k 64 rfl (.k 65 rfl (.k 66 rfl (.cons (t := 11) (Has.op rfl) (.cons (t := 12) (Has.op rfl) .nil))))))))))))))))))))))))))))))))))))))))))) (stM rfl (nkQ k15 (.dry zY (.u 0 rfl (.mv (.t rfl)) (.u 1 rfl (.mv (.t rfl)) (.u 3 rfl (.mv (.t rfl)) (.u 6 rfl (.mv (.t rfl)) (.w [2,4,5,7,35,36,37,38,39,40,41,8,9,42,43,44,45,46,47,48,49,50,51,52,53,10,55,56,57,58,59,60,61,62,63,54,64,65,66,11,12,13,67,68,70,73] rfl (.go [] (.so 2 [] rfl (.call (qt) (.cons (.cI 1 rfl) .nil)) (.so 4 [] rfl (.load (.t rfl) (i := 0) rfl zE rfl (Ss' := [_, _]) rfl) (.so 5 [71] rfl (.call (jQ (by rw [zB]; omega)) (.cons (.t rfl) .nil)) ?_)))))))))))))
    refine .so 7 [69,72] rfl (.eq (.call (wZ (A := 1) (B := Kv + n * (K + 2)) (K := Kv + n * (K + 2)) (L := K) (by rw [zB]; exact qF (by decide)) hyb (by rw [zB, zK, Int.natAbs_neg]; exact hcn) hrb (by omega) (by omega) (by omega) (by omega)) (.cons (.t rfl) (.cons (.t rfl) (.cons (.t rfl) (.cons (.t rfl) .nil))))) ((show _ = isP (crs C (zF xs) (zF vs) (n + 1)) from ww (by simp only [zK]; rw [hyv, hrv]; rfl)))) ?_
    refine .so 8 [] rfl (.eq (.load (.t rfl) (i := 0) rfl zE rfl (Ss' := [_, _]) rfl) ((show _ = zu (zc (nz (crn C (zF xs) (zF vs) n))) from rfl))) (.m 9 [74] rfl (.fn [10,11] (.w [2,4,5,7,35,36,37,38,39,40,41,8,9,42,43,44,45,46,47,48,49,50,51,52,53,10,55,56,57,58,59,60,61,62,63,54,64,65,66,11,12,67,68,70,73,69,71,72,74,75,6] rfl (st (.eq (.ixWin zp zE (.t rfl) (.t rfl) (by omega)) (qB (by first | exact wX | exact zAM | exact dN))) rfl (.storeK (z := nz (crn C (zF xs) (zF vs) n)) zL (.t rfl) (.t rfl) (i := 2) rfl zE (by rw [wd _ _ _ (by rw [List.length_map, bI]; omega), List.length_map, bI]; simp only [Int.toNat_natCast]; omega) (M' := [_, _, (_, _), _]) rfl ?_)))))
    refine nl (.bln (.nk k12 (.region (st (.addI (.t rfl) (.cI 1 rfl) (by first | omega | assumption) (by first | omega | assumption)) rfl (stM rfl (nl (.thn ?_)))))))
    refine hK9 (⟨(n + 1, (crs C (zF xs) (zF vs) (n + 1)).map nz), by show n + 1 ≤ P; omega, zT _⟩) _ _ ?_ (Cv.trans (Cv.drop ((.cons _ (.cons _ (.cons_cons _ (.cons_cons _ .slnil)))))) (Cv.mem (.c 37 rfl ?_ (.c 6 rfl ?_ (.l [2,4,5,7,35,36] rfl))) ?_))
    ·show P - (n + 1) < P - n; omega
    ·exact zG (by omega)
    ·rfl
    ·exact ik (zFK (by omega) hP)
   ·refine .exit (.the (.the (.blh (.nk k7 (.w [4,5,7,6] rfl (.sq fun k16 => .sr fun k17 => stM rfl (st (.eq (.call (wN (K := Kv + n * (K + 2)) hyb) (.cons (.t rfl) (.cons (Has.fn (fun p => cM (Nat.lt_of_le_of_lt p.2 (by omega)))) .nil))) ((show _ = isB (!spB R C (mf C (zF xs)) (cf (zF vs))) from zg (by rw [hyl, hyv, show n = P by omega]; exact zAK hF hvv hP hp1 hp2)))) rfl ?_)))))))
    refine nkQ k17 (.cd rfl (fun hc4 => ?_) (fun hc4 => ?_))
    ·have hsp : ¬ spB R C (mf C (zF xs)) (cf (zF vs)) = true := by simpa using hc4
     refine .sr fun k18 => st (.as (.cWK (k := 2) (fk := zc))) rfl (st (.as (.cI 10 rfl)) rfl (nkQ k18 (.ret (.thr (rtN (.inl rfl) Tryz.results26 rfl rfl (.tmp (Has.t' rfl ?_) (.tmp (Has.t' rfl ?_) .nil)))))))
     ·rw [if_neg hsp]; rfl
     ·exact zG (by rw [if_neg hsp])
    ·have hsp : spB R C (mf C (zF xs)) (cf (zF vs)) = true := by simpa using hc4
     refine .skip (.nk k16 (.sq fun k19 => .cv (Cv.freezeK (t := 7) (i := 0) (ys := (coL R C P (zF xs) (zF vs)).map nz) zL rfl rfl rfl (by rw [wd _ _ _ (by rw [List.length_map, bI]; omega), List.length_map, bI]; omega) (uZ hP (by omega) rfl)) ?_))
     refine .memEq (M' := [_]) rfl (.w [4,5,7,6,78,79] rfl (.region (stM rfl (stM rfl (st (.as (.cI 0 rfl)) rfl (nkQ k19 (.w [4,5] rfl (.ret (rtN (.inl rfl) Tryz.results26 rfl rfl (.tmp (Has.t' rfl ?_) (.tmp (Has.t' rfl ?_) .nil)))))))))))
     ·exact ww (by rw [if_pos hsp])
     ·exact zG (by rw [if_pos hsp])
end Go.Proofs.YtlebmedapfncoaaGreat
namespace Go.Proofs.YtlebmedapfncoaaGreat
open Go.En Go.RowKit
set_option maxRecDepth 10000
set_option maxHeartbeats 4000000
open Go.Nt
open Go.Pz
open Go.Mz
open Go.Hn
open Go.Hp
open Go.Dt
open Go.Ch
theorem kX {m : Bool} {xs : List Nat} (hx : (List.length (zA (val xs))) < 4294700000) : Ctr Tryz.prog 40 [zu [isB m, zD xs]] (isB (decide (zv m xs ≠ 0))) := by
 refine Ctr.i Tryz.func40 rfl Tryz.ntmps40 fun w0 F0 => .w [0] rfl (.fact (Has.okZ (Has.t (t := 0) rfl)) fun okz0 => .sr fun k1 => .box (.t rfl) rfl fun b1 => st (.as (.cB false)) rfl (nkQ k1 (.sr fun k2 => st (.load (.t rfl) (i := 0) rfl zE rfl (Ss' := [_, _]) rfl) rfl (st (.call (qD (by omega)) (.cons (.t rfl) .nil)) rfl (st (.neI (.t rfl) (.cI 0 rfl)) rfl (stM rfl (nkQ k2 (.w [2] rfl (.ret (rt1 (.inl rfl) Tryz.results40 rfl (.tmp (Has.t' rfl ?_) .nil)))))))))))
 all_goals (exact zg (by simp [xN]))
end Go.Proofs.YtlebmedapfncoaaGreat
namespace Go.Proofs.YtlebmedapfncoaaGreat
open Go.En Go.RowKit
set_option maxRecDepth 10000
set_option maxHeartbeats 4000000
open Go.Nt
open Go.Pz
open Go.Mz
open Go.Hn
open Go.Hp
open Go.Dt
open Go.Ll
theorem zDM {C i K : Nat} {L : List Int} (h : Bd L K) : Bd (Go.Hp.rowL C L i) K := fun k => by
 unfold Go.Hp.rowL
 rw [vd]
 split
 ·exact h _
 ·rw [Int.natAbs_zero, zH]; exact Nat.zero_le _
theorem zDQ : rkL 2 1 (zF ([1,1].map nz)) = 1 := by
 show (vr 1 (mf 1 (hL 2 1 (zF ([1,1].map nz)))) 2).length = 1
 rw [zT, zHV]
 have := congrArg List.length zFA
 rwa [jz] at this
theorem mU {r c : Int} {xs : List (Bool × List Nat)} {K : Nat} (hx : Bd (zF xs) K) (hK : K ≤ 400000000) (hf : xV r c xs.length = true) : Ctr Tryz.prog 19 [isM r c xs] (isB (!decide (0 ≤ fir xs.length (cf (zF xs))))) := by
 refine Ctr.i Tryz.func19 rfl Tryz.ntmps19 fun w0 F0 => .w [0] rfl (.sr fun k1 => .box (.t rfl) rfl fun b1 => st (.as (.cB false)) rfl (nkQ k1 (.sr fun k2 => st (.load (.t rfl) (i := 0) rfl zO rfl (Ss' := [_, _, _]) rfl) rfl (st (.eq (.call (qA) (.cons (.t rfl) .nil)) ((show isB _ = isB true from zg (hf)))) rfl (stM rfl (stT rfl rfl (fun hg => .fieldAddr (.t rfl) qX zN) rfl (stT rfl rfl (fun hg => .load1 (Has.g rfl hg) (i := 0) rfl zN rfl) rfl ?_)))))))
 refine stT rfl rfl (fun hg => have hg' := BP.t hg; OK1.call (wN (K := K) hx) (.cons (Has.g rfl hg) (.cons (Has.fn (fun p => kX (Nat.lt_of_le_of_lt p.2 (by omega)))) .nil))) rfl ?_
 refine stT rfl rfl (fun hg => .not (Has.g rfl hg)) rfl (st (.pickAnd (.t rfl) (fun h => Has.g rfl h)) rfl (stM rfl (nkQ k2 (.w [2] rfl (.ret (rt1 (.inl rfl) Tryz.results19 rfl (.tmp (Has.t' rfl ?_) .nil)))))))
 all_goals (rfl)
theorem nV {R C K : Nat} {xs : List (Bool × List Nat)} (hx : Bd (zF xs) K) (hK : K ≤ 280) (hR : R ≤ 4) (hC : C ≤ 4) (hl : xs.length = R * C) {m n : Bool} {ps qs : List Nat} (hpw : (List.length (zA (val ps))) ≤ 1000) (hqw : (List.length (zA (val qs))) ≤ 1000) (hmy : (decide (0 < sgn (zv n qs)) && decide (0 < xB (zv m ps * 4) (zv n qs)) && decide (xB (zv m ps) (zv n qs) < 0)) = true) (hq : 0 < zv n qs) (hpq : zv m ps < zv n qs) : CtrX Tryz.prog 7 [isM (R : Int) (C : Int) xs, zu [isB m, zD ps], zu [isB n, zD qs]] ([]) (fun S M => ∃ Bl : List Int, S = zW [xQ (rkL R C (zF xs)) C Bl, isI 0] ∧ M = [] ∧ BS R C K (zF xs) Bl) := by
 refine CtrX.i Tryz.func7 rfl Tryz.ntmps7 fun w0 F0 => .w [0,1,2] rfl (.fact (Has.okZ (Has.t (t := 1) rfl)) fun okz1 => .fact (Has.okZ (Has.t (t := 2) rfl)) fun okz2 => ?_)
 have hPR := br (R := R) (C := C) (L := zF xs)
 obtain ⟨P, hP⟩ : ∃ P, P = rkL R C (zF xs) := ⟨_, rfl⟩
 rw [← hP] at hPR
 have hR64 : R ≤ 64 := by omega
 have hC64 : C ≤ 64 := by omega
 refine .sr fun k1 => .box (.t rfl) rfl fun b1 => .box (.t rfl) rfl fun b2 => .box (.t rfl) rfl fun b3 => .alloc [isI 0, isI 0, zw] zf (fun _ _ => ⟨⟨rfl, by decide, by decide⟩, ⟨rfl, by decide, by decide⟩, rfl, trivial⟩) rfl fun b4 => st (.as (.cI 0 rfl)) rfl (nkQ k1 (.sr fun k2 => st (.load (.t rfl) (i := 3) rfl zO rfl (Ss' := [_, _, _]) rfl) rfl (st (.load (.t rfl) (i := 2) rfl zE rfl (Ss' := [_, _]) rfl) rfl (st (.load (.t rfl) (i := 1) rfl zE rfl (Ss' := [_, _]) rfl) rfl (.callX (dG hx hK hR hC hl hpw hqw hmy hq hpq) (List.Perm.refl _) (.cons (.t rfl) (.cons (.t rfl) (.cons (.t rfl) .nil))) rfl ?_)))))
 rintro _ _ ⟨c, ds', ls', us', k, Ml, Wl, rfl, rfl, hG⟩
 have hMb : Bd (zF (Ml.map nz)) 10000 := by rw [zT]; exact (hG.bd hx hR hC).mono (by omega)
 have hMl : (Ml.map nz).length = R * C := by rw [List.length_map]; exact hG.len
 refine stM rfl (st (.ext (.t rfl) rfl) rfl (st (.ext (.t rfl) rfl) rfl (st (.ext (.t rfl) rfl) rfl (st (.ext (.t rfl) rfl) rfl (.alloc [isI 0, isI 0, zw] zf (fun _ _ => ⟨⟨rfl, by decide, by decide⟩, ⟨rfl, by decide, by decide⟩, rfl, trivial⟩) rfl fun b5 => .alloc [isI 0, isI 0, zw] zf (fun _ _ => ⟨⟨rfl, by decide, by decide⟩, ⟨rfl, by decide, by decide⟩, rfl, trivial⟩) rfl fun b6 => .store (.t rfl) (.t rfl) (i := 1) rfl zO rfl rfl (Ss' := [_, _, _]) rfl (M' := [_, (some _, zC [_, _, _]), _, _, _, _]) rfl (.store (.t rfl) (.t rfl) (i := 0) rfl zO rfl rfl (Ss' := [_, _, _]) rfl (M' := [(some _, zC [_, _, _]), _, _, _, _, _]) rfl (stM rfl (stM rfl (nkQ k2 (.w [6,7,8,11] rfl (.sq fun k3 => .sr fun k4 => stM rfl (st (.neI (.t rfl) (.cI 0 rfl)) rfl (nkQ k4 (.cd rfl (fun hc1 => ?_) (fun hc1 => ?_)))))))))))))))
 ·exact absurd rfl hc1
 ·refine .skip (.nk k3 (.sr fun k5 => st (.as (.cI 0 rfl)) rfl (nkQ k5 (.sq fun k6 => .block (.loopF [6,7,8] (fun (z : { i : Nat // i ≤ R - P }) => match z with | ⟨i, hi⟩ => [(12, isI (i : Int))]) (fun M => fun (z : { i : Nat // i ≤ R - P }) => match z with | ⟨i, hi⟩ => M) (fun (z : { i : Nat // i ≤ R - P }) => match z with | ⟨i, hi⟩ => R - i) (⟨0, Nat.zero_le _⟩) (Cv.mem (.c 12 rfl ?_ (.l [6,7,8] rfl)) ?_) ?_)))))
  ·rfl
  ·rfl
  rintro ⟨i, hi⟩ K7 hK7
  refine .w [12,6,7,8] rfl (.sq fun k8 => .sr fun k9 => stM rfl (st (.fieldAddr (.t rfl) zZ ty3) rfl (st (.load1 (.t rfl) (i := 1) rfl ty3 rfl) rfl (st (.ltI (.t rfl) (.t rfl)) rfl (stM rfl (stT rfl rfl (fun hg => .load (.t rfl) (i := 1) rfl zO rfl (Ss' := [_, _, _]) rfl) rfl (stT rfl rfl (fun hg => .mv (.t rfl)) rfl (stT rfl rfl (fun hg => .mv (.t rfl)) rfl ?_))))))))
  refine stT rfl rfl (fun hg => have hg' := BP.t hg; OK1.eq (.addI (Has.g rfl hg) (.cI 1 rfl) (by first | omega | assumption) (by first | omega | assumption)) ((show isI _ = isI ((i + 1 : Nat) : Int) from zG (by omega)))) rfl ?_
  refine stT rfl rfl (fun hg => have hg' := BP.t hg; OK1.eq (.call (jK (lo := i) (hi := i + 1) (K := 10000) hMb (by decide) hR64 hC64 hMl (by omega) (by omega)) (.cons (Has.g rfl hg) (.cons (Has.g rfl hg) (.cons (Has.g rfl hg) .nil)))) ((show _ = zW [xQ ((1 : Nat)) C (Go.Hp.rowL C Ml i), isI 0] from by rw [zT, ss, Nat.add_sub_cancel_left]))) rfl ?_
  refine stT rfl rfl (fun hg => .ext (Has.g rfl hg) rfl) rfl (stT rfl rfl (fun hg => .ext (Has.g rfl hg) rfl) rfl (stT rfl rfl (fun hg => .call (xa (r := ((1 : Nat) : Int)) (c := (C : Int)) (l := Go.Hp.rowL C Ml i)) (.cons (Has.g rfl hg) (.cons (Has.g rfl hg) .nil))) rfl ?_))
  refine stT rfl rfl (fun hg => have hg' := BP.t hg; OK1.eq (.call (mU (r := ((1 : Nat) : Int)) (c := (C : Int)) (xs := ((Go.Hp.rowL C Ml i).map nz)) (K := 10000) (by rw [zT]; exact zDM (by rw [zT] at hMb; exact hMb)) (by decide) (qE (by decide) hC64 (by rw [List.length_map, Go.Hp.rowL_len, Nat.one_mul]))) (.cons (Has.g rfl hg) .nil)) ((show _ = isB (!decide (0 ≤ fir C (cf (Go.Hp.rowL C Ml i)))) from by rw [zT, List.length_map, Go.Hp.rowL_len]))) rfl ?_
  refine st (.pickAnd (.t rfl) (fun h => Has.g rfl h)) rfl (nkQ k9 (.cd rfl (fun hc2 => ?_) (fun hc2 => ?_)))
  ·have hc22 : (i : Int) < (R : Int) ∧ (!decide (0 ≤ fir C (cf (Go.Hp.rowL C Ml i)))) = true := by simpa using hc2
   have hi1 : i + 1 ≤ R - P := by
    have h1 := ke.1 hc22.2
    refine Nat.lt_of_not_le fun hle => ?_
    obtain ⟨j, hj, hne⟩ := hG.nz (i := i - (R - P)) (by rw [← hP]; omega)
    rw [← hP, show R - P + (i - (R - P)) = i by omega] at hne
    exact hne (h1 j hj)
   refine .skip (.nk k8 (.block (.region (stM rfl (st (.addI (.t rfl) (.cI 1 rfl) (by first | omega | assumption) (by first | omega | assumption)) rfl (stM rfl (nl (.bln (.thn (hK7 (⟨i + 1, hi1⟩) _ _ ?_ (Cv.mem (.c 12 rfl ?_ (.l [6,7,8] rfl)) ?_)))))))))))
   ·show R - (i + 1) < R - i; omega
   ·exact zG (by omega)
   ·rfl
  ·have hiE : i = R - P := by
    refine Nat.le_antisymm hi (Nat.le_of_not_lt fun hlt => ?_)
    have h1 : (!decide (0 ≤ fir C (cf (Go.Hp.rowL C Ml i)))) = true := ke.2 fun k hk => hG.zero hx (by rw [← hP]; exact hlt) hk
    have h2 : ¬ 0 ≤ fir C (cf (Go.Hp.rowL C Ml i)) := by simpa using h1
    rcases hc2 with h | h
    ·omega
    ·exact h2 h
   refine .exit (.the (.the (.blh (.nk k6 (.w [6,7,8,12] rfl (.sr fun k10 => st (.load (.t rfl) (i := 1) rfl zO rfl (Ss' := [_, _, _]) rfl) rfl (stM rfl (st (.fieldAddr (.t rfl) zZ ty3) rfl (st (.load1 (.t rfl) (i := 1) rfl ty3 rfl) rfl (st (.eq (.call (jK (lo := i) (hi := R) (K := 10000) hMb (by decide) hR64 hC64 hMl (by omega) (Nat.le_refl _)) (.cons (.t rfl) (.cons (.t rfl) (.cons (.t rfl) .nil)))) ((show _ = zW [xQ P C (tab (P * C) C fun i k => cf Ml ((R - P + i) * C + k)), isI 0] from by rw [zT, show i = R - P by omega, show R - (R - P) = P by omega]))) rfl (st (.ext (.t rfl) rfl) rfl (st (.ext (.t rfl) rfl) rfl (.store (.t rfl) (.t rfl) (i := 2) rfl zO rfl rfl (Ss' := [_, _, _]) rfl (M' := [_, _, (some _, zC [_, _, _]), _, _, _]) rfl (stM rfl (nkQ k10 (.w [6,7] rfl (.ret (dC (.cons _ (.cons _ (.cons _ (.cons _ (.cons _ (.cons _ .slnil)))))) (.inl rfl) Tryz.results7 rfl rfl (.cell rfl (i := 2) rfl zO rfl rfl (.tmp (.t rfl) .nil)) ?_))))))))))))))))))
   exact ⟨_, by rw [← hP], rfl, by have := hG.basis hx hR hC; rw [← hP] at this; exact this⟩
theorem dQ {r c : Int} {xs : List (Bool × List Nat)} {m n : Bool} {ps qs : List Nat} (hf : xV r c xs.length = false) : Ctr Tryz.prog 15 [isM r c xs, zu [isB m, zD ps], zu [isB n, zD qs]] (zW [rW, rW, isI 0, isI 2]) := by
 refine Ctr.i Tryz.func15 rfl Tryz.ntmps15 fun w0 F0 => .w [0,1,2] rfl (.fact (Has.okZ (Has.t (t := 1) rfl)) fun okz1 => .fact (Has.okZ (Has.t (t := 2) rfl)) fun okz2 => .sr fun k1 => .box (.t rfl) rfl fun b1 => .box (.t rfl) rfl fun b2 => .box (.t rfl) rfl fun b3 => .alloc [isI 0, isI 0, SlK 2 zc ([] : List (Bool × List Nat))] zf (fun _ _ => ⟨⟨rfl, by decide, by decide⟩, ⟨rfl, by decide, by decide⟩, wB, trivial⟩) rfl fun b4 => .alloc [isI 0, isI 0, SlK 2 zc ([] : List (Bool × List Nat))] zf (fun _ _ => ⟨⟨rfl, by decide, by decide⟩, ⟨rfl, by decide, by decide⟩, wB, trivial⟩) rfl fun b5 => st (.as (.cI 0 rfl)) rfl (st (.as (.cI 0 rfl)) rfl (nkQ k1 (.sr fun k2 => st (.load (.t rfl) (i := 4) rfl zO rfl (Ss' := [_, _, _]) rfl) rfl (st (.call (dO hf) (.cons (.t rfl) .nil)) rfl (stM rfl (st (.ext (.t rfl) rfl) rfl (st (.ext (.t rfl) rfl) rfl (st (.ext (.t rfl) rfl) rfl (.alloc [isI 0, isI 0, SlK 2 zc ([] : List (Bool × List Nat))] zf (fun _ _ => ⟨⟨rfl, by decide, by decide⟩, ⟨rfl, by decide, by decide⟩, wB, trivial⟩) rfl fun b6 => .alloc [isI 0, isI 0, SlK 2 zc ([] : List (Bool × List Nat))] zf (fun _ _ => ⟨⟨rfl, by decide, by decide⟩, ⟨rfl, by decide, by decide⟩, wB, trivial⟩) rfl fun b7 => .store (.t rfl) (.t rfl) (i := 1) rfl zO rfl rfl (Ss' := [_, _, _]) rfl (M' := [_, (some _, zC [_, _, _]), _, _, _, _, _]) rfl (.store (.t rfl) (.t rfl) (i := 0) rfl zO rfl rfl (Ss' := [_, _, _]) rfl (M' := [(some _, zC [_, _, _]), _, _, _, _, _, _]) rfl (stM rfl (nkQ k2 (.w [4,5,6,7,8,9,10,11,12] rfl (.sq fun k3 => .sr fun k4 => stM rfl ?_)))))))))))))))
 refine st (.neI (.t rfl) (.cI 0 rfl)) rfl (nkQ k4 (.cd rfl (fun hc1 => ?_) (fun hc1 => ?_)))
 ·refine .sr fun k5 => st (.build [isI 0, isI 0, SlK 2 zc ([] : List (Bool × List Nat))] eo zf (fun _ _ => ⟨⟨rfl, by decide, by decide⟩, ⟨rfl, by decide, by decide⟩, wB, trivial⟩) .nil (Z'' := [_, _, _]) rfl) rfl (st (.build [isI 0, isI 0, SlK 2 zc ([] : List (Bool × List Nat))] eo zf (fun _ _ => ⟨⟨rfl, by decide, by decide⟩, ⟨rfl, by decide, by decide⟩, wB, trivial⟩) .nil (Z'' := [_, _, _]) rfl) rfl (stM rfl (.store (.t rfl) (.t rfl) (i := 3) rfl zO rfl rfl (Ss' := [_, _, _]) rfl (M' := [_, _, _, (some _, zC [_, _, _]), _, _, _]) rfl (.store (.t rfl) (.t rfl) (i := 2) rfl zO rfl rfl (Ss' := [_, _, _]) rfl (M' := [_, _, (some _, zC [_, _, _]), _, _, _, _]) rfl (st (.as (.cI 0 rfl)) rfl (stM rfl (nkQ k5 (.w [4,5,6,7,8,9,10,11,12] rfl (.ret (.thr (rtN (.inl rfl) Tryz.results15 rfl rfl (.cell rfl (i := 3) rfl zO rfl ?_ (.cell rfl (i := 2) rfl zO rfl ?_ (.tmp (Has.t' rfl ?_) (.tmp (Has.t' rfl ?_) .nil)))))))))))))))
  ·rfl
  ·rfl
  ·rfl
  ·rfl
 ·exfalso; omega
theorem fQ {r c : Int} {xs : List (Bool × List Nat)} {m n : Bool} {ps qs : List Nat} (hf : xV r c xs.length = false) : Ctr Tryz.prog 7 [isM r c xs, zu [isB m, zD ps], zu [isB n, zD qs]] (zW [rW, isI 2]) := by
 refine Ctr.i Tryz.func7 rfl Tryz.ntmps7 fun w0 F0 => .w [0,1,2] rfl (.fact (Has.okZ (Has.t (t := 1) rfl)) fun okz1 => .fact (Has.okZ (Has.t (t := 2) rfl)) fun okz2 => .sr fun k1 => .box (.t rfl) rfl fun b1 => .box (.t rfl) rfl fun b2 => .box (.t rfl) rfl fun b3 => .alloc [isI 0, isI 0, SlK 2 zc ([] : List (Bool × List Nat))] zf (fun _ _ => ⟨⟨rfl, by decide, by decide⟩, ⟨rfl, by decide, by decide⟩, wB, trivial⟩) rfl fun b4 => st (.as (.cI 0 rfl)) rfl (nkQ k1 (.sr fun k2 => st (.load (.t rfl) (i := 3) rfl zO rfl (Ss' := [_, _, _]) rfl) rfl (st (.load (.t rfl) (i := 2) rfl zE rfl (Ss' := [_, _]) rfl) rfl (st (.load (.t rfl) (i := 1) rfl zE rfl (Ss' := [_, _]) rfl) rfl (st (.call (dQ hf) (.cons (.t rfl) (.cons (.t rfl) (.cons (.t rfl) .nil)))) rfl (stM rfl (st (.ext (.t rfl) rfl) rfl (st (.ext (.t rfl) rfl) rfl (st (.ext (.t rfl) rfl) rfl (st (.ext (.t rfl) rfl) rfl (.alloc [isI 0, isI 0, SlK 2 zc ([] : List (Bool × List Nat))] zf (fun _ _ => ⟨⟨rfl, by decide, by decide⟩, ⟨rfl, by decide, by decide⟩, wB, trivial⟩) rfl fun b5 => .alloc [isI 0, isI 0, SlK 2 zc ([] : List (Bool × List Nat))] zf (fun _ _ => ⟨⟨rfl, by decide, by decide⟩, ⟨rfl, by decide, by decide⟩, wB, trivial⟩) rfl fun b6 => .store (.t rfl) (.t rfl) (i := 1) rfl zO rfl rfl (Ss' := [_, _, _]) rfl (M' := [_, (some _, zC [_, _, _]), _, _, _, _]) rfl (.store (.t rfl) (.t rfl) (i := 0) rfl zO rfl rfl (Ss' := [_, _, _]) rfl (M' := [(some _, zC [_, _, _]), _, _, _, _, _]) rfl (stM rfl (stM rfl (nkQ k2 (.w [6,7,8,11] rfl (.sq fun k3 => .sr fun k4 => stM rfl ?_))))))))))))))))))
 refine st (.neI (.t rfl) (.cI 0 rfl)) rfl (nkQ k4 (.cd rfl (fun hc1 => ?_) (fun hc1 => ?_)))
 ·refine .sr fun k5 => st (.build [isI 0, isI 0, SlK 2 zc ([] : List (Bool × List Nat))] eo zf (fun _ _ => ⟨⟨rfl, by decide, by decide⟩, ⟨rfl, by decide, by decide⟩, wB, trivial⟩) .nil (Z'' := [_, _, _]) rfl) rfl (stM rfl (.store (.t rfl) (.t rfl) (i := 2) rfl zO rfl rfl (Ss' := [_, _, _]) rfl (M' := [_, _, (some _, zC [_, _, _]), _, _, _]) rfl (stM rfl (nkQ k5 (.w [6,7,8] rfl (.ret (.thr (rtN (.inl rfl) Tryz.results7 rfl rfl (.cell rfl (i := 2) rfl zO rfl ?_ (.tmp (Has.t' rfl ?_) .nil))))))))))
  ·rfl
  ·rfl
 ·exfalso; omega
end Go.Proofs.YtlebmedapfncoaaGreat
namespace Go.Proofs.YtlebmedapfncoaaGreat
open Go.En Go.RowKit
set_option maxRecDepth 10000
set_option maxHeartbeats 4000000
open Go.Nt
open Go.Pz
open Go.Mz
open Go.Dt
theorem aQ {m : Int} : Ctr Tryz.prog 72 [isI m, isI 0] (SlM jd (zR 0 0)) := by
 refine Ctr.i Tryz.func72 rfl Tryz.ntmps72 fun w0 F0 => .w [0,1] rfl (.fact (Has.rngI (Has.t (t := 0) rfl)) fun lt0 => .fact (Has.rngI (Has.t (t := 1) rfl)) fun lt1 => .sr fun k1 => st (.as (.cW (f := isI))) rfl (nkQ k1 (.sq fun k2 => .sr fun k3 => stM rfl (st (.eqI (.t rfl) (.cI 0 rfl)) rfl (nkQ k3 (.cd rfl (fun hc1 => ?_) (fun hc1 => ?_)))))))
 ·refine .sr fun k4 => st (.buildS [zw] mj me mZ (fun _ _ => ⟨rfl, trivial⟩) rfl rfl (.cons (.cW (f := isI)) rfl rfl rfl .nil) rfl (S := SlM jd [[]]) rfl) rfl (stM rfl (nkQ k4 (.ret (.thr (rt1 (.inl rfl) Tryz.results72 rfl (.tmp (Has.t' rfl ?_) .nil))))))
  all_goals (rfl)
 ·exact absurd rfl hc1
theorem aP {m n : Nat} (hm : m < n + 1) (hb : n ≤ 64) : CtrX Tryz.prog 72 [isI (m : Int), isI ((n + 1 : Nat) : Int)] ([]) (fun S M => ∃ gr : Gr (List Nat), S = zj gr (zR (m) (n + 1)).length ∧ M = [grM jd gr (zR (m) (n + 1))]) := by
 refine CtrX.i Tryz.func72 rfl Tryz.ntmps72 fun w0 F0 => .w [0,1] rfl (.fact (Has.rngI (Has.t (t := 0) rfl)) fun lt0 => .fact (Has.rngI (Has.t (t := 1) rfl)) fun lt1 => .sr fun k1 => st (.as (.cW (f := fun l => zD l))) rfl (nkQ k1 (.sq fun k2 => .sr fun k3 => stM rfl (st (.eqI (.t rfl) (.cI 0 rfl)) rfl (nkQ k3 (.cd rfl (fun hc1 => ?_) (fun hc1 => ?_)))))))
 ·exfalso; omega
 ·refine .skip (.nk k2 (.sq fun k4 => .sr fun k5 => stM rfl (stM rfl (st (.ltI (.t rfl) (.t rfl)) rfl (nkQ k5 (.cd rfl (fun hc2 => ?_) (fun hc2 => ?_)))))))
  ·refine .sr fun k6 => .cv (Cv.grow0 (α := List Nat) jd) (st (.as (Has.cGr (α := List Nat))) rfl (nkQ k6 (.w [0,1,4] rfl (.ret (.thr (yg (.inl rfl) Tryz.results72 rfl (.tmp (.t rfl) .nil) ?_))))))
   exact ⟨Gr.nil, by rw [vT hm]; rfl, by rw [vT hm]⟩
  ·exfalso; omega
theorem eg {m n : Nat} (hm : n ≤ m) (hb : m ≤ 16) (ihO : CtrX Tryz.prog 72 [isI (m : Int), isI ((n + 1 : Nat) : Int)] [] (fun S M => ∃ gr : Gr (List Nat), S = zj gr (zR (m) (n + 1)).length ∧ M = [grM jd gr (zR (m) (n + 1))])) (ihL : Ctr Tryz.prog 72 [isI (m : Int), isI (n : Int)] (SlM jd (zR m n))) : CtrX Tryz.prog 72 [isI ((m + 1 : Nat) : Int), isI ((n + 1 : Nat) : Int)] ([]) (fun S M => ∃ gr : Gr (List Nat), S = zj gr (zR (m + 1) (n + 1)).length ∧ M = [grM jd gr (zR (m + 1) (n + 1))]) := by
 refine CtrX.i Tryz.func72 rfl Tryz.ntmps72 fun w0 F0 => .w [0,1] rfl (.fact (Has.rngI (Has.t (t := 0) rfl)) fun lt0 => .fact (Has.rngI (Has.t (t := 1) rfl)) fun lt1 => ?_)
 have hlu := zBT m n
 have hcl := vU m n
 have h2m := Nat.pow_le_pow_right (show 0 < 2 by decide) hb
 refine .sr fun k1 => st (.as (.cW (f := fun l => zD l))) rfl (nkQ k1 (.sq fun k2 => .sr fun k3 => stM rfl (st (.eqI (.t rfl) (.cI 0 rfl)) rfl (nkQ k3 (.cd rfl (fun hc1 => ?_) (fun hc1 => ?_))))))
 ·exfalso; omega
 ·refine .skip (.nk k2 (.sq fun k4 => .sr fun k5 => stM rfl (stM rfl (st (.ltI (.t rfl) (.t rfl)) rfl (nkQ k5 (.cd rfl (fun hc2 => ?_) (fun hc2 => ?_)))))))
  ·exfalso; omega
  ·refine .skip (.nk k4 (.w [0,1,4] rfl (.sr fun k6 => stM rfl (st (.eq (.subI (.t rfl) (.cI 1 rfl) (by omega) (by omega)) ((show isI _ = isI (m : Int) from zG (by omega)))) rfl (stM rfl (.callX ihO (List.Perm.refl _) (.cons (.t rfl) (.cons (.t rfl) .nil)) rfl ?_))))))
   rintro _ _ ⟨g0, rfl, rfl⟩
   refine .memEq (M' := [grM jd g0 (zR m (n + 1))]) (List.append_nil _) (stM rfl (nkQ k6 (.sr fun k7 => stM rfl (st (.eq (.subI (.t rfl) (.cI 1 rfl) (by omega) (by omega)) ((show isI _ = isI (m : Int) from zG (by omega)))) rfl (stM rfl (st (.eq (.subI (.t rfl) (.cI 1 rfl) (by omega) (by omega)) ((show isI _ = isI (n : Int) from zG (by omega)))) rfl (st (.call ihL (.cons (.t rfl) (.cons (.t rfl) .nil))) rfl (stM rfl (nkQ k7 (.w [0,4,5,6] rfl (.sq fun k8 => .sr fun k9 => st (.as (.cI 0 rfl)) rfl (nkQ k9 (.block (.loopF [0,4,6] (fun (z : { z : Nat × Gr (List Nat) // z.1 ≤ (zR m n).length }) => match z with | ⟨(i, g), hI⟩ => [(7, isI (i : Int)), (5, zj g (chU m n i).length)]) (fun M => fun (z : { z : Nat × Gr (List Nat) // z.1 ≤ (zR m n).length }) => match z with | ⟨(i, g), hI⟩ => [grM jd g (chU m n i)]) (fun (z : { z : Nat × Gr (List Nat) // z.1 ≤ (zR m n).length }) => match z with | ⟨(i, g), hI⟩ => (zR m n).length - i) (⟨(0, g0), Nat.zero_le _⟩) (Cv.mem (.c 7 rfl ?_ (.c 5 rfl ?_ (.l [0,4,6] rfl))) ?_) ?_))))))))))))))
   ·rfl
   ·exact dt (by rw [mH])
   ·exact kA (mH _ _).symm
   rintro ⟨⟨i, g⟩, hI⟩ K10 hK10
   refine .w [7,5,0,4,6] rfl (.memEq (M' := [grM jd g (chU m n i)]) rfl ?_)
   simp only [] at hI
   refine .sq fun k11 => .sr fun k12 => stM rfl (stM rfl (st (.len mj (.t rfl)) rfl (st (.ltI (.t rfl) (.t rfl)) rfl (nkQ k12 (.cd rfl (fun hc3 => ?_) (fun hc3 => ?_))))))
   ·obtain ⟨Y, hY⟩ : ∃ Y, (zR m n)[i]? = some Y := ⟨_, List.getElem?_eq_getElem (by omega)⟩
    have hYl := (xv m n Y (List.mem_of_getElem? hY)).1
    have hpY := jz Y
    have hlui := hlu i
    refine .skip (.nk k11 (.sq fun k13 => .block (.sr fun k14 => .cv (Cv.grow0 (α := Int) isI) (st (.as (Has.cGr (α := Int))) rfl (nkQ k14 (.sr fun k15 => stM rfl (stM rfl (stM rfl (st (.ixP mj me (.t rfl) (.t rfl) (by omega) hY) rfl (st (.loadP1 (.t rfl) me) rfl (.appendG0 (f := isI) (u := 0) wm ty3 cx (fun _ _ => ⟨⟨rfl, by decide, by decide⟩, trivial⟩) (fun _ => inferInstance) by3 (.t rfl) (i := 0) rfl (.t rfl) (by simp only [List.length_nil]; omega) rfl fun gr1 => ?_)))))))))))
    refine .memEq (M' := [grM _ _ _, _]) rfl (stM rfl (nkQ k15 (.sr fun k16 => stM rfl (stM rfl (st (.eq (.subI (.t rfl) (.cI 1 rfl) (by omega) (by omega)) ((show isI _ = isI (m : Int) from zG (by omega)))) rfl (st (.buildS [isI 0] wm ty3 cx (fun _ _ => ⟨⟨rfl, by decide, by decide⟩, trivial⟩) rfl rfl (.cons (.t rfl) rfl rfl rfl .nil) rfl (S := SlM isI [(m : Int)]) rfl) rfl (.appendG (f := isI) (u := 0) wm ty3 cx (fun _ _ => ⟨⟨rfl, by decide, by decide⟩, trivial⟩) (fun _ => inferInstance) by3 (.t rfl) (i := 0) rfl (.t rfl) (by simp only [List.length_append, List.length_nil, List.length_cons]; omega) (by simp) rfl fun gr2 => ?_)))))))
    refine .memEq (M' := [grM _ _ _, _]) rfl (.cv (Cv.freezeGn (t := 40) (i := 0) (ys := pv Y ++ [(m : Int)]) rfl rfl rfl (by simp)) ?_)
    refine .memEq (M' := [_]) rfl (.w [0,4,6,7,5,24,25,26,27,31,32,33,34,37,38,39,40] rfl (stM rfl (nkQ k16 (.region (stM rfl (st (.eq (.mv (.t rfl)) ((show _ = jd (Y ++ [m]) from qH (iZ _ _)))) rfl (st (.buildS [zw] mj me mZ (fun _ _ => ⟨rfl, trivial⟩) rfl rfl (.cons (.t rfl) rfl rfl rfl .nil) rfl (S := SlM jd [Y ++ [m]]) rfl) rfl (.appendG (f := jd) (u := ([] : List Nat)) mj me mZ (fun _ _ => ⟨nilM _ _, trivial⟩) (fun _ => inferInstance) by55 (.t rfl) (i := 0) rfl (.t rfl) (by show (chU m n i).length + 1 ≤ _; omega) (by simp) rfl fun gr3 => ?_))))))))
    refine .memEq (M' := [grM _ _ _]) rfl (stM rfl (nl (.bln (.nk k13 (.region (stM rfl (st (.addI (.t rfl) (.cI 1 rfl) (by omega) (by omega)) rfl (stM rfl (nl (.thn ?_))))))))))
    refine hK10 (⟨(i + 1, gr3), by show i + 1 ≤ _; omega⟩) _ _ ?_ (Cv.mem (.c 7 rfl ?_ (.c 5 rfl ?_ (.l [0,4,6] rfl))) ?_)
    ·show (zR m n).length - (i + 1) < (zR m n).length - i; omega
    ·exact zG (by omega)
    ·exact dt (by rw [← mI hY, List.length_append])
    ·exact kA (mI hY)
   ·refine .exit (.the (.the (.blh (.nk k8 (.w [4,5] rfl (.sr fun k17 => stM rfl (stM rfl (nkQ k17 (.ret (yg (.inl rfl) Tryz.results72 rfl (.tmp (.t rfl) .nil) (⟨g, by rw [pS hm (by omega)], by rw [pS hm (by omega)]⟩)))))))))))
theorem jZ : ∀ m : Nat, m ≤ 16 → ∀ n : Nat, n ≤ 64 → CtrX Tryz.prog 72 [isI (m : Int), isI ((n + 1 : Nat) : Int)] [] (fun S M => ∃ gr : Gr (List Nat), S = zj gr (zR m (n + 1)).length ∧ M = [grM jd gr (zR m (n + 1))])
  | 0, _, n, hn => aP (Nat.succ_pos _) hn
  | m + 1, hm, n, hn => by
    by_cases h : m + 1 < n + 1
    · exact aP h hn
    · refine eg (by omega) (by omega) (jZ m (by omega) n hn) ?_
      cases n with
      | zero => rw [vb]; exact aQ
      | succ n => exact (jZ m (by omega) n (by omega)).freeze
theorem fw {m n : Nat} (hm : m ≤ 16) (hn : n ≤ 64) : Ctr Tryz.prog 72 [isI (m : Int), isI (n : Int)] (SlM jd (zR m n)) := by
 cases n with
 | zero => rw [vb]; exact aQ
 | succ n => exact (jZ m hm n (by omega)).freeze
theorem mw {R C : Nat} {xs : List (Bool × List Nat)} {rs cs : List Nat} (hR : R ≤ 64) (hC : C ≤ 64) (hl : xs.length = R * C) (hr : ∀ x ∈ rs, x < R) (hc : ∀ x ∈ cs, x < C) (hrl : rs.length ≤ 64) (hcl : cs.length ≤ 64) : Ctr Tryz.prog 74 [isM (R : Int) (C : Int) xs, jd rs, jd cs] (isM (rs.length : Int) (cs.length : Int) (xU (rs.length * cs.length) cs.length (ptG C xs rs cs))) := by
 refine Ctr.i Tryz.func74 rfl Tryz.ntmps74 fun w0 F0 => .w [0,1,2] rfl ?_
 have hRC := qi hR hC
 have hrc := qi hrl hcl
 have hprs := jz rs
 have hpcs := jz cs
 refine .sr fun k1 => .box (.t rfl) rfl fun b1 => .alloc [isI 0, isI 0, zw] zf (fun _ _ => ⟨⟨rfl, by decide, by decide⟩, ⟨rfl, by decide, by decide⟩, rfl, trivial⟩) rfl fun b2 => nkQ k1 (.sr fun k2 => stM rfl (st (.eq (.len wm (.t rfl)) ((show isI _ = isI (rs.length : Int) from zG (by rw [hprs])))) rfl (stM rfl (st (.eq (.len wm (.t rfl)) ((show isI _ = isI (cs.length : Int) from zG (by rw [hpcs])))) rfl (st (.build [isI 0, isI 0, zw] eo zf (fun _ _ => ⟨⟨rfl, by decide, by decide⟩, ⟨rfl, by decide, by decide⟩, rfl, trivial⟩) (.cons (.t rfl) rfl rfl rfl (.cons (.t rfl) rfl rfl rfl .nil)) (Z'' := [_, _, _]) rfl) rfl (.alloc [isI 0, isI 0, zw] zf (fun _ _ => ⟨⟨rfl, by decide, by decide⟩, ⟨rfl, by decide, by decide⟩, rfl, trivial⟩) rfl fun b3 => .store (.t rfl) (.t rfl) (i := 0) rfl zO rfl rfl (Ss' := [_, _, _]) rfl (M' := [(some _, zC [_, _, _]), _, _]) rfl (nkQ k2 (.w [1,2,3,6,7] rfl (.sq fun k3 => .sq fun k4 => .cv (Cv.growF (Bool × List Nat) (i := 0) (o := 2) rfl rfl rfl) (.memEq (M' := [zz zc Gr.nil [], _, _, _]) rfl (.region (st (.as (.cI 0 rfl)) rfl (nkQ k4 (.block (.loopF [1,2,3,6,7] (fun (z : { z : Nat × Gr (Bool × List Nat) // z.1 ≤ rs.length }) => match z with | ⟨(i, g), hI⟩ => [(8, isI (i : Int))]) (fun M => fun (z : { z : Nat × Gr (Bool × List Nat) // z.1 ≤ rs.length }) => match z with | ⟨(i, g), hI⟩ => [zz zc g (xU (i * cs.length + 0) cs.length (ptG C xs rs cs)), (some b3, zC [isI (rs.length : Int), isI (cs.length : Int), zj g (xU (i * cs.length + 0) cs.length (ptG C xs rs cs)).length]), (some b2, zC [isI 0, isI 0, zw]), (some b1, zC [isI (R : Int), isI (C : Int), SlK 2 zc xs])]) (fun (z : { z : Nat × Gr (Bool × List Nat) // z.1 ≤ rs.length }) => match z with | ⟨(i, g), hI⟩ => rs.length - i) (⟨(0, Gr.nil), Nat.zero_le _⟩) (Cv.mem (.c 8 rfl ?_ (.l [1,2,3,6,7] rfl)) ?_) ?_)))))))))))))))
 ·rfl
 ·exact wx (n := 0) (ys := []) (by rw [vA, Nat.zero_mul]) (show [] = xU (0 * cs.length + 0) _ _ by rw [Nat.zero_mul]; rfl)
 rintro ⟨⟨i, g⟩, hI⟩ K5 hK5
 refine .w [8,1,2,3,6,7] rfl (.memEq (M' := [zz zc g (xU (i * cs.length + 0) cs.length (ptG C xs rs cs)), (some b3, zC [isI (rs.length : Int), isI (cs.length : Int), zj g (xU (i * cs.length + 0) cs.length (ptG C xs rs cs)).length]), (some b2, zC [isI 0, isI 0, zw]), (some b1, zC [isI (R : Int), isI (C : Int), SlK 2 zc xs])]) rfl ?_)
 simp only [] at hI
 refine .sq fun k6 => .sr fun k7 => stM rfl (stM rfl (st (.eq (.len wm (.t rfl)) ((show isI _ = isI (rs.length : Int) from zG (by rw [hprs])))) rfl (st (.ltI (.t rfl) (.t rfl)) rfl (nkQ k7 (.cd rfl (fun hc1 => ?_) (fun hc1 => ?_))))))
 ·refine .skip (.nk k6 (.sq fun k8 => .block (.sr fun k9 => st (.as (.cI 0 rfl)) rfl (nkQ k9 (.block (.loopF [1,2,3,6,7,8,15,16,17,18] (fun (z : { z : Nat × Gr (Bool × List Nat) // z.1 ≤ cs.length }) => match z with | ⟨(k, g2), hK⟩ => [(9, isI (k : Int))]) (fun M => fun (z : { z : Nat × Gr (Bool × List Nat) // z.1 ≤ cs.length }) => match z with | ⟨(k, g2), hK⟩ => [zz zc g2 (xU (i * cs.length + k) cs.length (ptG C xs rs cs)), (some b3, zC [isI (rs.length : Int), isI (cs.length : Int), zj g2 (xU (i * cs.length + k) cs.length (ptG C xs rs cs)).length]), (some b2, zC [isI 0, isI 0, zw]), (some b1, zC [isI (R : Int), isI (C : Int), SlK 2 zc xs])]) (fun (z : { z : Nat × Gr (Bool × List Nat) // z.1 ≤ cs.length }) => match z with | ⟨(k, g2), hK⟩ => cs.length - k) (⟨(0, g), Nat.zero_le _⟩) (Cv.mem (.c 9 rfl ?_ (.l [1,2,3,6,7,8,15,16,17,18] rfl)) ?_) ?_))))))
  ·rfl
  ·rfl
  rintro ⟨⟨k, g2⟩, hK⟩ K10 hK10
  refine .w [9,1,2,3,6,7,8,15,16,17,18] rfl (.memEq (M' := [zz zc g2 (xU (i * cs.length + k) cs.length (ptG C xs rs cs)), (some b3, zC [isI (rs.length : Int), isI (cs.length : Int), zj g2 (xU (i * cs.length + k) cs.length (ptG C xs rs cs)).length]), (some b2, zC [isI 0, isI 0, zw]), (some b1, zC [isI (R : Int), isI (C : Int), SlK 2 zc xs])]) rfl ?_)
  simp only [] at hK
  refine .sq fun k11 => .sr fun k12 => stM rfl (stM rfl (st (.eq (.len wm (.t rfl)) ((show isI _ = isI (cs.length : Int) from zG (by rw [hpcs])))) rfl (st (.ltI (.t rfl) (.t rfl)) rfl (nkQ k12 (.cd rfl (fun hc2 => ?_) (fun hc2 => ?_))))))
  ·have h1 := hr _ (va (show i < rs.length by omega))
   have h2 := hc _ (va (show k < cs.length by omega))
   have hpl := qN h1 h2
   have hpl2 := qN (show i < rs.length by omega) (show k < cs.length by omega)
   refine .skip (.nk k11 (.sq fun k13 => .block (.dry zY (.u 0 rfl (.fieldAddr (.t rfl) qX zN) (.u 3 rfl (.mv (.t rfl)) (.u 4 rfl (.mv (.t rfl)) (.u 7 rfl (.mv (.t rfl)) (.u 8 rfl (.mv (.t rfl)) (.go [] (.so 1 [] rfl (.load1 (.t rfl) (i := 1) rfl zN rfl) (.so 2 [] rfl (.load (.t rfl) (i := 3) rfl zO rfl (Ss' := [_, _, _]) rfl) (.so 5 [] rfl (.ixP wm ty3 (.t rfl) (.t rfl) (by omega) (oY (show i < rs.length by omega))) (.so 6 [32] rfl (.loadP1 (.t rfl) ty3) (.so 9 [] rfl (.ixP wm ty3 (.t rfl) (.t rfl) (by omega) (oY (show k < cs.length by omega))) (.so 10 [36] rfl (.loadP1 (.t rfl) ty3) (.so 11 [29,33,37] rfl (.eq (.call (eh (i := rs.getD i 0) (k := cs.getD k 0) (by omega) (by omega)) (.cons (.t rfl) (.cons (.t rfl) (.cons (.t rfl) .nil)))) ((show _ = zu (zc (ptG C xs rs cs i k)) from rfl))) (.so 12 [38] rfl (.buildS [isB false, SlM isU []] zp zE zJ (fun _ _ => ⟨rfl, nilM _ _, trivial⟩) rfl rfl (.cons (.t rfl) rfl rfl rfl .nil) rfl (S := SlK 2 zc [ptG C xs rs cs i k]) rfl) (.fn [13,14,15] (.w [1,2,3,6,7,8,15,16,17,18,9,21,22,23,24,27,30,31,34,35,28,29,32,33,36,37,38,39] rfl (.appendGK (fk := zc) (u := (false, [])) zL (by decide) (fun _ => inferInstance) zp zE zJ (fun _ _ => ⟨rfl, nilM _ _, trivial⟩) bY (.t rfl) (i := 0) rfl (.t rfl) (by rw [vA, List.length_singleton]; omega) (by simp) rfl fun gr1 => ?_))))))))))))))))))))
   refine .memEq (M' := [zz _ _ _, _, _, _]) rfl (st (.fieldAddr (.t rfl) qX zN) rfl (.store (.t rfl) (.t rfl) (i := 1) rfl zN rfl rfl (Ss' := [_, _, _]) rfl (M' := [_, (some _, zC [_, _, _]), _, _]) rfl (nl (.bln (.nk k13 (.region (stM rfl (st (.addI (.t rfl) (.cI 1 rfl) (by omega) (by omega)) rfl (stM rfl (nl (.thn ?_)))))))))))
   refine hK10 (⟨(k + 1, gr1), by show k + 1 ≤ cs.length; omega⟩) _ _ ?_ (Cv.mem (.c 9 rfl ?_ (.l [1,2,3,6,7,8,15,16,17,18] rfl)) ?_)
   ·show cs.length - (k + 1) < cs.length - k; omega
   ·exact zG (by omega)
   ·exact wx (by rw [← cb _ (show k < cs.length by omega), List.length_append]) (by rw [← cb _ (show k < cs.length by omega)])
  ·refine .exit (.the (.the (.blh (.bln (.nk k8 (.region (stM rfl (st (.addI (.t rfl) (.cI 1 rfl) (by omega) (by omega)) rfl (stM rfl (nl (.thn ?_)))))))))))
   have hkC : k = cs.length := by omega
   refine hK5 (⟨(i + 1, g2), by show i + 1 ≤ rs.length; omega⟩) _ _ ?_ (Cv.mem (.c 8 rfl ?_ (.l [1,2,3,6,7] rfl)) ?_)
   ·show rs.length - (i + 1) < rs.length - i; omega
   ·exact zG (by omega)
   ·exact wx (by rw [hkC, Nat.succ_mul, Nat.add_zero]) (by rw [hkC, Nat.succ_mul, Nat.add_zero])
 ·refine .exit (.the (.the (.blh (.nk k3 (.w [6,7] rfl (.sq fun k14 => .cv (Cv.freezeF (k := 2) (i := 0) (j := 0) (o := 2) rfl rfl rfl rfl (cO zL) (aX zL) (Ss' := [_, _, SlK 2 zc (xU (i * cs.length + 0) cs.length (ptG C xs rs cs))]) rfl) (.memEq (M' := [(some _, zC [_, _, SlK 2 zc (xU (i * cs.length + 0) cs.length (ptG C xs rs cs))]), _, _]) rfl (.w [6,7] rfl (.region (st (.load (.t rfl) (i := 0) rfl zO rfl (Ss' := [_, _, _]) rfl) rfl (.store (.t rfl) (.t rfl) (i := 1) rfl zO rfl rfl (Ss' := [_, _, _]) rfl (M' := [_, (some _, zC [_, _, _]), _]) rfl (nkQ k14 (.ret (rt1 (.inl rfl) Tryz.results74 rfl (.cell rfl (i := 1) rfl zO rfl ?_ .nil)))))))))))))))
  all_goals (rw [Nat.add_zero, show i = rs.length by omega])
theorem mu {R C K : Nat} {xs : List (Bool × List Nat)} (hx : Bd (zF xs) K) (hK : K ≤ 10000) (hR : R ≤ 16) (hC : C ≤ 16) (hl : xs.length = R * C) {cols : List Nat} (hc : ∀ x ∈ cols, x < C) (hcl : cols.length ≤ 64) : Ctr Tryz.prog 52 [isM (R : Int) (C : Int) xs, jd cols] (isB (aG (mf C (zF xs)) R cols)) := by
 refine Ctr.i Tryz.func52 rfl Tryz.ntmps52 fun w0 F0 => .w [0,1] rfl ?_
 have hpc := jz cols
 have hchl := vU R cols.length
 have h2m := Nat.pow_le_pow_right (show 0 < 2 by decide) hR
 refine .sr fun k1 => .box (.t rfl) rfl fun b1 => st (.as (.cB false)) rfl (nkQ k1 (.sr fun k2 => st (.fieldAddr (.t rfl) zZ ty3) rfl (st (.load1 (.t rfl) (i := 0) rfl ty3 rfl) rfl (stM rfl (st (.eq (.len wm (.t rfl)) ((show isI _ = isI (cols.length : Int) from zG (by rw [hpc])))) rfl (st (.call (fw hR hcl) (.cons (.t rfl) (.cons (.t rfl) .nil))) rfl (stM rfl (nkQ k2 (.w [1,2,4,5] rfl (.sq fun k3 => .sr fun k4 => st (.as (.cI 0 rfl)) rfl (nkQ k4 (.block (.loopF [1,2,5] (fun (z : { i : Nat // i ≤ (zR R cols.length).length ∧ ∀ j, j < i → mn (mf C (zF xs)) ((zR R cols.length).getD j []) cols = 0 }) => match z with | ⟨i, hI⟩ => [(6, isI (i : Int))]) (fun M => fun (z : { i : Nat // i ≤ (zR R cols.length).length ∧ ∀ j, j < i → mn (mf C (zF xs)) ((zR R cols.length).getD j []) cols = 0 }) => match z with | ⟨i, hI⟩ => M) (fun (z : { i : Nat // i ≤ (zR R cols.length).length ∧ ∀ j, j < i → mn (mf C (zF xs)) ((zR R cols.length).getD j []) cols = 0 }) => match z with | ⟨i, hI⟩ => (zR R cols.length).length - i) (⟨0, Nat.zero_le _, fun j hj => absurd hj (Nat.not_lt_zero _)⟩) (Cv.mem (.c 6 rfl ?_ (.l [1,2,5] rfl)) ?_) ?_)))))))))))))
 ·rfl
 ·rfl
 rintro ⟨i, hi, hq⟩ K5 hK5
 refine .w [6,1,2,5] rfl (.sq fun k6 => .sr fun k7 => stM rfl (stM rfl (st (.len mj (.t rfl)) rfl (st (.ltI (.t rfl) (.t rfl)) rfl (nkQ k7 (.cd rfl (fun hc1 => ?_) (fun hc1 => ?_)))))))
 ·have hil : i < (zR R cols.length).length := (by omega)
  have hYmem : ((zR R cols.length).getD i []) ∈ zR R cols.length := by rw [List.getD, List.getElem?_eq_getElem hil]; exact List.getElem_mem _
  have hYs := xv R cols.length ((zR R cols.length).getD i []) hYmem
  obtain ⟨hYl, hYm⟩ := hYs
  have hdw := zGQ (C := C) hx ((zR R cols.length).getD i []) cols
  have hK2 : ((zR R cols.length).getD i []).length * (K + ((zR R cols.length).getD i []).length) ≤ 64 * (10000 + 64) := Nat.mul_le_mul (by omega) (by omega)
  refine .skip (.nk k6 (.sq fun k8 => .block (.sq fun k9 => .dr (.so [] rfl (.load (.t rfl) (i := 0) rfl zO rfl (Ss' := [_, _, _]) rfl) (.m [] rfl (.m [] rfl (.so [19,20] rfl (.ixP mj me (.t rfl) (.t rfl) (by omega) (getD_some (d := []) (by omega))) (.so [21] rfl (.eq (.loadP1 (.t rfl) me) ((show _ = jd ((zR R cols.length).getD i []) from rfl))) (.m [] rfl (.fn (n := 6) zY (.w [1,2,5,6,12,13,14,15,18,19,20,21,22,23] rfl (st (.eq (.call (mw (by omega) (by omega) hl hYm hc (by omega) hcl) (.cons (.t rfl) (.cons (.t rfl) (.cons (.t rfl) .nil)))) ((show _ = isM (cols.length : Int) (cols.length : Int) (xU (cols.length * cols.length) cols.length (ptG C xs ((zR R cols.length).getD i []) cols)) from by rw [hYl]))) rfl (st (.eq (.call (rA (K := K) (zGK hx _) (by omega) hcl (vA _ _ _)) (.cons (.t rfl) .nil)) ((show _ = isZ (mn (mf C (zF xs)) ((zR R cols.length).getD i []) cols) from zS (zGJ hYl)))) rfl (st (.eq (.call (qD (by rw [zB]; omega)) (.cons (.t rfl) .nil)) ((show _ = isI (sgn (mn (mf C (zF xs)) ((zR R cols.length).getD i []) cols)) from zG (by rw [zK])))) rfl ?_))))))))))))))
  refine st (.neI (.t rfl) (.cI 0 rfl)) rfl (nkQ k9 (.cd rfl (fun hc2 => ?_) (fun hc2 => ?_)))
  ·have hne : mn (mf C (zF xs)) ((zR R cols.length).getD i []) cols ≠ 0 := fun e => hc2 ((xN _).2 e)
   refine .sr fun k10 => st (.as (.cB true)) rfl (nkQ k10 (.ret (.blr (.thr (.thr (.blr (.thr (rt1 (.inl rfl) Tryz.results52 rfl (.tmp (Has.t' rfl ?_) .nil)))))))))
   all_goals (exact zg (pt hYmem hne))
  ·have heq : mn (mf C (zF xs)) ((zR R cols.length).getD i []) cols = 0 := (xN _).1 hc2
   refine .skip (.bln (.nk k8 (.region (stM rfl (st (.addI (.t rfl) (.cI 1 rfl) (by omega) (by omega)) rfl (stM rfl (nl (.thn ?_))))))))
   refine hK5 (⟨i + 1, by omega, fun j hj => by rcases Nat.lt_or_ge j i with h | h; exact hq j h; obtain rfl : j = i := (by omega); exact heq⟩) _ _ ?_ (Cv.mem (.c 6 rfl ?_ (.l [1,2,5] rfl)) ?_)
   ·show (zR R cols.length).length - (i + 1) < (zR R cols.length).length - i; omega
   ·exact zG (by omega)
   ·rfl
 ·refine .exit (.the (.the (.blh (.nk k3 (.cv (Cv.wk .nil) (.sr fun k11 => st (.as (.cB false)) rfl (nkQ k11 (.ret (rt1 (.inl rfl) Tryz.results52 rfl (.tmp (Has.t' rfl ?_) .nil))))))))))
  all_goals (exact zg (sS fun j hj => hq j (by omega)))
theorem iX {R C K : Nat} {xs : List (Bool × List Nat)} (hx : Bd (zF xs) K) (hK : K ≤ 10000) (hR : R ≤ 16) (hC : C ≤ 16) (hl : xs.length = R * C) : Ctr Tryz.prog 27 [isM (R : Int) (C : Int) xs] (jd (pivs (mf C (zF xs)) R C)) := by
 refine Ctr.i Tryz.func27 rfl Tryz.ntmps27 fun w0 F0 => .w [0] rfl (.sr fun k1 => .box (.t rfl) rfl fun b1 => st (.as (.cW (f := isI))) rfl (nkQ k1 (.sr fun k2 => st (.as (.cW (f := isI))) rfl (nkQ k2 (.sq fun k3 => .sr fun k4 => st (.as (.cI 0 rfl)) rfl (nkQ k4 (.block (.loopF [1,2] (fun (z : { k : Nat // k ≤ C }) => match z with | ⟨k, hk⟩ => [(4, isI (k : Int)), (3, jd (pivs (mf C (zF xs)) R k))]) (fun M => fun (z : { k : Nat // k ≤ C }) => match z with | ⟨k, hk⟩ => M) (fun (z : { k : Nat // k ≤ C }) => match z with | ⟨k, hk⟩ => C - k) (⟨0, Nat.zero_le _⟩) (Cv.mem (.c 4 rfl ?_ (.c 3 rfl ?_ (.l [1,2] rfl))) ?_) ?_))))))))
 ·rfl
 ·rfl
 ·rfl
 rintro ⟨k, hk⟩ K5 hK5
 refine .w [4,3,1,2] rfl ?_
 obtain ⟨hpk, hpl⟩ := oZ (mf C (zF xs)) R k
 have hpv := jz (pivs (mf C (zF xs)) R k)
 refine .sq fun k6 => .sr fun k7 => stM rfl (st (.fieldAddr (.t rfl) zo ty3) rfl (st (.load1 (.t rfl) (i := 0) rfl ty3 rfl) rfl (st (.ltI (.t rfl) (.t rfl)) rfl (nkQ k7 (.cd rfl (fun hc1 => ?_) (fun hc1 => ?_))))))
 ·refine .skip (.nk k6 (.sq fun k8 => .block (.sr fun k9 => .cv (Cv.grow0 (α := Int) isI) (st (.as (Has.cGr (α := Int))) rfl (nkQ k9 (.sr fun k10 => stM rfl (stM rfl (.appendG0 (f := isI) (u := 0) wm ty3 cx (fun _ _ => ⟨⟨rfl, by decide, by decide⟩, trivial⟩) (fun _ => inferInstance) by3 (.t rfl) (i := 0) rfl (.t rfl) (by simp only [List.length_nil]; omega) rfl fun gr1 => ?_))))))))
  refine .memEq (M' := [grM _ _ _, _]) rfl (stM rfl (nkQ k10 (.sr fun k11 => stM rfl (stM rfl (st (.buildS [isI 0] wm ty3 cx (fun _ _ => ⟨⟨rfl, by decide, by decide⟩, trivial⟩) rfl rfl (.cons (.t rfl) rfl rfl rfl .nil) rfl (S := SlM isI [(k : Int)]) rfl) rfl (.appendG (f := isI) (u := 0) wm ty3 cx (fun _ _ => ⟨⟨rfl, by decide, by decide⟩, trivial⟩) (fun _ => inferInstance) by3 (.t rfl) (i := 0) rfl (.t rfl) (by simp only [List.length_append, List.length_nil, List.length_cons]; omega) (by simp) rfl fun gr2 => ?_))))))
  refine .memEq (M' := [grM _ _ _, _]) rfl (.cv (Cv.freezeGn (t := 18) (i := 0) (ys := pv (pivs (mf C (zF xs)) R k) ++ [(k : Int)]) rfl rfl rfl (by simp)) ?_)
  refine .memEq (M' := [_]) rfl (.w [1,2,4,3,6,7,8,9,13,16,17,18] rfl (stM rfl (nkQ k11 (.sr fun k12 => st (.load (.t rfl) (i := 0) rfl zO rfl (Ss' := [_, _, _]) rfl) rfl (st (.eq (.mv (.t rfl)) ((show _ = jd ((pivs (mf C (zF xs)) R k) ++ [k]) from qH (iZ _ _)))) rfl ?_)))))
  refine st (.call (mu hx hK hR hC hl (cols := (pivs (mf C (zF xs)) R k) ++ [k]) (fun x hx' => by rcases List.mem_append.1 hx' with h | h; exact Nat.lt_trans (hpk x h) (by omega); rw [List.mem_singleton.1 h]; omega) (by rw [List.length_append]; show _ + 1 ≤ _; omega)) (.cons (.t rfl) (.cons (.t rfl) .nil))) rfl ?_
  refine nkQ k12 (.cd rfl (fun hc2 => ?_) (fun hc2 => ?_))
  ·have HS := hc2
   refine .region (st (.eq (.mv (.t rfl)) ((show _ = jd ((pivs (mf C (zF xs)) R k) ++ [k]) from qH (iZ _ _)))) rfl (stM rfl (nl (.bln (.nk k8 (.region (stM rfl (st (.addI (.t rfl) (.cI 1 rfl) (by omega) (by omega)) rfl (stM rfl (nl (.thn (hK5 (⟨k + 1, by omega⟩) _ _ ?_ (Cv.mem (.c 4 rfl ?_ (.c 3 rfl ?_ (.l [1,2] rfl))) ?_)))))))))))))
   ·show C - (k + 1) < C - k; omega
   ·exact zG (by omega)
   ·exact qH (congrArg pv (if_pos HS).symm)
   ·rfl
  ·have HS : ¬ aG (mf C (zF xs)) R ((pivs (mf C (zF xs)) R k) ++ [k]) = true := by simpa using hc2
   refine .skip (.bln (.nk k8 (.region (stM rfl (st (.addI (.t rfl) (.cI 1 rfl) (by omega) (by omega)) rfl (stM rfl (nl (.thn (hK5 (⟨k + 1, by omega⟩) _ _ ?_ (Cv.mem (.c 4 rfl ?_ (.c 3 rfl ?_ (.l [1,2] rfl))) ?_))))))))))
   ·show C - (k + 1) < C - k; omega
   ·exact zG (by omega)
   ·exact qH (congrArg pv (if_neg HS).symm)
   ·rfl
 ·refine .exit (.the (.the (.blh (.nk k3 (.w [2,3] rfl (.sr fun k13 => stM rfl (stM rfl (nkQ k13 (.ret (rt1 (.inl rfl) Tryz.results27 rfl (.tmp (Has.t' rfl ?_) .nil)))))))))))
  all_goals (rw [show k = C by omega])
end Go.Proofs.YtlebmedapfncoaaGreat
namespace Go.Proofs.YtlebmedapfncoaaGreat
open Go.En Go.RowKit
set_option maxRecDepth 10000
set_option maxHeartbeats 4000000
open Go.Nt
open Go.Pz
open Go.Mz
open Go.Hn
open Go.Hp
open Go.Dt
theorem lf {R R' C K Ka : Nat} {xs ys : List (Bool × List Nat)} (hx : Bd (zF xs) Ka) (hy : Bd (zF ys) K) (hK : hq R' (K + 4) (hrk R' C (zF ys)) * (R' + 2) ≤ 80000000) (hKc : Ka + (R' + 1) * (hq R' (K + 4) (hrk R' C (zF ys)) + 2) ≤ 100000000) (hR : R ≤ 64) (hR' : R' ≤ 64) (hC : C ≤ 64) (hl : xs.length = R * C) (hyl : ys.length = R' * C) : Ctr Tryz.prog 11 [isM (R : Int) (C : Int) xs, isM (R' : Int) (C : Int) ys] (zW [isB (pj R R' C (mf C (zF xs)) (mf C (zF ys))), isI 0]) := by
 refine Ctr.i Tryz.func11 rfl Tryz.ntmps11 fun w0 F0 => .w [0,1] rfl ?_
 have hRC := qi hR hC
 have hRC' := qi hR' hC
 have hfo := qE hR hC hl
 have hfo' := qE hR' hC hyl
 obtain ⟨Hl, hHl⟩ : ∃ Hl, Hl = hL R' C (zF ys) := ⟨_, rfl⟩
 have hLl : (Hl.map nz).length = R' * C := by rw [List.length_map, hHl]; exact nT hy
 obtain ⟨B, hB⟩ : ∃ B, B = hq R' (K + 4) (hrk R' C (zF ys)) := ⟨_, rfl⟩
 have hLb : Bd (zF (Hl.map nz)) B := by rw [zT, hHl, hB]; exact zGW hy
 rw [← hB] at hKc
 have hLf : HermF R' C (mf C (zF (Hl.map nz))) := by rw [zT, hHl]; exact bE hy
 refine .sr fun k1 => .box (.t rfl) rfl fun b1 => .box (.t rfl) rfl fun b2 => st (.as (.cB false)) rfl (st (.as (.cI 0 rfl)) rfl (nkQ k1 (.sq fun k2 => .sr fun k3 => st (.load (.t rfl) (i := 1) rfl zO rfl (Ss' := [_, _, _]) rfl) rfl (st (.eq (.call (qA) (.cons (.t rfl) .nil)) ((show isB _ = isB true from zg (hfo)))) rfl (st (.not (.t rfl)) rfl (stM rfl (stF rfl rfl (fun hg => .load (.t rfl) (i := 0) rfl zO rfl (Ss' := [_, _, _]) rfl) rfl (stF rfl rfl (fun hg => .eq (.call (qA) (.cons (Has.g rfl hg) .nil)) ((show isB _ = isB true from zg (hfo')))) rfl (stF rfl rfl (fun hg => .not (Has.g rfl hg)) rfl (st (.pickOr (.t rfl) (fun h => Has.g rfl (ng h))) rfl (stM rfl (stF rfl rfl (fun hg => .fieldAddr (.t rfl) zo ty3) rfl (stF rfl rfl (fun hg => .load1 (Has.g rfl hg) (i := 1) rfl ty3 rfl) rfl (stF rfl rfl (fun hg => .fieldAddr (.t rfl) zo ty3) rfl (stF rfl rfl (fun hg => .load1 (Has.g rfl hg) (i := 0) rfl ty3 rfl) rfl (stF rfl rfl (fun hg => .neI (Has.g rfl hg) (Has.g rfl hg)) rfl (st (.pickOr (.t rfl) (fun h => Has.g rfl (ng h))) rfl (nkQ k3 (.w [2,3,4,5,26] rfl (.cd rfl (fun hc1 => ?_) (fun hc1 => ?_)))))))))))))))))))))
 ·exfalso; simp at hc1
 ·refine .skip (.nk k2 (.sr fun k4 => st (.load (.t rfl) (i := 0) rfl zO rfl (Ss' := [_, _, _]) rfl) rfl ?_))
  refine st (.eq (.call (cL hy hK hR' hC hyl) (.cons (.t rfl) .nil)) ((show _ = zW [xQ R' C Hl, xQ R' R' (uL R' C (zF ys)), isI 0] from by rw [hHl]; rfl))) rfl ?_
  refine stM rfl (st (.ext (.t rfl) rfl) rfl (st (.ext (.t rfl) rfl) rfl (st (.ext (.t rfl) rfl) rfl (.alloc [isI 0, isI 0, zw] zf (fun _ _ => ⟨⟨rfl, by decide, by decide⟩, ⟨rfl, by decide, by decide⟩, rfl, trivial⟩) rfl fun b3 => .alloc [isI 0, isI 0, zw] zf (fun _ _ => ⟨⟨rfl, by decide, by decide⟩, ⟨rfl, by decide, by decide⟩, rfl, trivial⟩) rfl fun b4 => .store (.t rfl) (.t rfl) (i := 1) rfl zO rfl rfl (Ss' := [_, _, _]) rfl (M' := [_, (some _, zC [_, _, _]), _, _]) rfl (.store (.t rfl) (.t rfl) (i := 0) rfl zO rfl rfl (Ss' := [_, _, _]) rfl (M' := [(some _, zC [_, _, _]), _, _, _]) rfl (stM rfl (nkQ k4 (.w [2,4,5,6,8] rfl (.sq fun k5 => .sr fun k6 => stM rfl (st (.neI (.t rfl) (.cI 0 rfl)) rfl (nkQ k6 (.cd rfl (fun hc2 => ?_) (fun hc2 => ?_)))))))))))))
  ·exact absurd rfl hc2
  ·refine .skip (.nk k5 (.sq fun k7 => .sr fun k8 => st (.fieldAddr (.t rfl) zZ ty3) rfl (st (.load1 (.t rfl) (i := 3) rfl ty3 rfl) rfl (st (.mv (.cI 0 rfl)) rfl (nkQ k8 (.block (.loopF [2,6,37] (fun (z : { i : Nat // i ≤ R ∧ ∀ j, j < i → SpZ R' C (mf C (zF ys)) (mf C (zF xs) j) }) => match z with | ⟨i, hI⟩ => [(38, isI (i : Int))]) (fun M => fun (z : { i : Nat // i ≤ R ∧ ∀ j, j < i → SpZ R' C (mf C (zF ys)) (mf C (zF xs) j) }) => match z with | ⟨i, hI⟩ => M) (fun (z : { i : Nat // i ≤ R ∧ ∀ j, j < i → SpZ R' C (mf C (zF ys)) (mf C (zF xs) j) }) => match z with | ⟨i, hI⟩ => R - i) (⟨0, Nat.zero_le _, fun j hj => absurd hj (Nat.not_lt_zero _)⟩) (Cv.mem (.c 38 rfl ?_ (.l [2,6,37] rfl)) ?_) ?_)))))))
   ·rfl
   ·rfl
   rintro ⟨i, hi, hq⟩ K9 hK9
   refine .w [38,2,6,37] rfl (.sr fun k10 => st (.ltI (.t rfl) (.t rfl)) rfl (nkQ k10 (.sq fun k11 => .cd rfl (fun hc3 => ?_) (fun hc3 => ?_))))
   ·have hiR : i < R := (by omega)
    have hpl1 : (i + 1) * C ≤ R * C := Nat.mul_le_mul_right _ hiR
    have hpl2 : (i + 1) * C = i * C + C := Nat.succ_mul _ _
    have hc1 : ((i : Int) * (C : Int)) = ((i * C : Nat) : Int) := (Int.natCast_mul i C).symm
    have hc2 : (((i : Int) + 1) * (C : Int)) = (((i + 1) * C : Nat) : Int) := by rw [Int.natCast_mul]; rfl
    obtain ⟨rw', hrw'⟩ : ∃ r, r = (xs.take ((i + 1) * C)).drop (i * C) := ⟨_, rfl⟩
    have hrv : zF rw' = Go.Hp.rowL C (zF xs) i := by rw [hrw']; exact oU (by omega)
    have hrl : rw'.length = C := by rw [← qx, hrv, Go.Hp.rowL_len]
    have hrb : Bd (zF rw') Ka := fun k => by
     rcases Nat.lt_or_ge k C with h | h
     ·rw [hrv, jI h]; exact hx _
     ·rw [vn (by rw [qx]; omega), Int.natAbs_zero, zH]; exact Nat.zero_le _
    obtain ⟨Xc, hXc⟩ : ∃ X, X = if spB R' C (mf C (zF (Hl.map nz))) (cf (zF rw')) = true then coL R' C (vr C (mf C (zF (Hl.map nz))) R').length (zF (Hl.map nz)) (zF rw') else [] := ⟨_, rfl⟩
    obtain ⟨ec, hec⟩ : ∃ e : Int, e = if spB R' C (mf C (zF (Hl.map nz))) (cf (zF rw')) = true then 0 else 10 := ⟨_, rfl⟩
    have hspi : spB R' C (mf C (zF (Hl.map nz))) (cf (zF rw')) = true ↔ SpZ R' C (mf C (zF ys)) (mf C (zF xs) i) := by rw [zT, hHl, hrv]; exact zDF hy
    refine .skip (.nk k11 (.sq fun k12 => .block (.sr fun k13 => stM rfl (stM rfl (nkQ k13 (.sq fun k14 => .dr (.so [] rfl (.load (.t rfl) (i := 1) rfl zO rfl (Ss' := [_, _, _]) rfl) (.so [] rfl (.fieldAddr (.t rfl) qX zN) (.so [43] rfl (.load1 (.t rfl) (i := 3) rfl zN rfl) (.m [] rfl (.so [] rfl (.fieldAddr (.t rfl) zo ty3) (.so [46] rfl (.load1 (.t rfl) (i := 3) rfl ty3 rfl) (.so [45,47] rfl (.eq (.mulI (.t rfl) (.t rfl) (by first | omega | (rw [hc1]; omega) | (rw [hc2]; omega)) (by first | omega | (rw [hc1]; omega) | (rw [hc2]; omega))) ((show isI _ = isI ((i * C : Nat) : Int) from zG hc1))) ?_)))))))))))))
    refine .m [] rfl (.so [49] rfl (.addI (.t rfl) (.cI 1 rfl) (by first | omega | (rw [hc1]; omega) | (rw [hc2]; omega)) (by first | omega | (rw [hc1]; omega) | (rw [hc2]; omega))) ?_)
    refine .so [] rfl (.fieldAddr (.t rfl) zo ty3) (.so [51] rfl (.load1 (.t rfl) (i := 3) rfl ty3 rfl) (.so [50,52] rfl (.eq (.mulI (.t rfl) (.t rfl) (by first | omega | (rw [hc1]; omega) | (rw [hc2]; omega)) (by first | omega | (rw [hc1]; omega) | (rw [hc2]; omega))) ((show isI _ = isI (((i + 1) * C : Nat) : Int) from zG hc2))) ?_))
    refine .so [44,48,53] rfl (.eq (.slLHK zp zE zL (.t rfl) (.t rfl) (.t rfl) ⟨by omega, by omega, by omega⟩) ((show _ = SlK 2 zc rw' from kU (by rw [hrw']; rfl)))) ?_
    refine .so [42,54] rfl (.eq (.call (dP (K := B) (Kv := Ka) (vs := rw') hLb hR' hC hLl hrb hrl (by omega) hLf) (.cons (.t rfl) (.cons (.t rfl) .nil))) ((show _ = zW [isP Xc, isI ec] from by rw [hXc, hec]))) (.m [55] rfl (.so [41] rfl (.ext (.t rfl) rfl) (.so [41] rfl (.ext (.t rfl) rfl) (.m [56] rfl (.fn (n := 18) zY (.w [2,6,37,38,39,40,9,42,43,44,45,46,47,48,49,50,51,52,53,54,55,41,56,57] rfl (stM rfl (nkQ k14 (.sr fun k15 => stM rfl (st (.neI (.t rfl) (.cI 0 rfl)) rfl (nkQ k15 (.cd rfl (fun hc4 => ?_) (fun hc4 => ?_)))))))))))))
    ·have hno : ¬ SpZ R' C (mf C (zF ys)) (mf C (zF xs) i) := fun h => by rw [if_pos (hspi.2 h)] at hec; exact hc4 hec
     refine .sr fun k16 => st (.as (.cB false)) rfl (st (.as (.cI 0 rfl)) rfl (nkQ k16 (.ret (.blr (.thr (.thr (.blr (.thr (rtN (.inl rfl) Tryz.results11 rfl rfl (.tmp (Has.t' rfl ?_) (.tmp (Has.t' rfl ?_) .nil)))))))))))
     ·exact zg (yM fun h => hno (h i hiR)).symm
     ·rfl
    ·have hyes : SpZ R' C (mf C (zF ys)) (mf C (zF xs) i) := hspi.1 (Classical.byContradiction fun h => by rw [if_neg h] at hec; omega)
     refine .skip (.bln (.nk k12 (.region (st (.addI (.t rfl) (.cI 1 rfl) (by first | omega | assumption) (by first | omega | assumption)) rfl (stM rfl (nl (.thn ?_)))))))
     refine hK9 (⟨i + 1, by omega, fun j hj => by rcases Nat.lt_or_ge j i with h | h; exact hq j h; obtain rfl : j = i := (by omega); exact hyes⟩) _ _ ?_ (Cv.mem (.c 38 rfl ?_ (.l [2,6,37] rfl)) ?_)
     ·show R - (i + 1) < R - i; omega
     ·exact zG (by omega)
     ·rfl
   ·refine .exit (.the (.the (.blh (.nk k7 (.cv (Cv.wk .nil) (.sr fun k17 => st (.as (.cB true)) rfl (st (.as (.cI 0 rfl)) rfl (nkQ k17 (.ret (rtN (.inl rfl) Tryz.results11 rfl rfl (.tmp (Has.t' rfl ?_) (.tmp (Has.t' rfl ?_) .nil))))))))))))
    ·exact zg (bi.2 fun j hj => hq j (by omega)).symm
    ·rfl
end Go.Proofs.YtlebmedapfncoaaGreat
namespace Go.En
open Go.RowKit Go.Pz Go.Mz
section
variable {E : Env} {P : Program} {Γ : Ctx} {M : Mem} {Q : Exit → Act → World → Prop} {c : Code}
def exZ (p : List Int → Prop) : VP := ⟨fun w F v => ∃ l, p l ∧ (SlK 2 zc (l.map nz)).h w F v, fun w w' F F' v h a b => by
 obtain ⟨l, h1, h2⟩ := h; exact ⟨l, h1, (SlK 2 zc (l.map nz)).mono _ _ _ _ _ h2 a b⟩⟩
def exI : VP := ⟨fun w F v => ∃ z, (isI z).h w F v, fun w w' F F' v h a b => by
 obtain ⟨z, h⟩ := h; exact ⟨z, (isI z).mono _ _ _ _ _ h a b⟩⟩
instance {p : List Int → Prop} : One (exZ p) := ⟨fun w F v h => by
 obtain ⟨l, _, h⟩ := h; exact One.one (S := SlK 2 zc (l.map nz)) w F v h⟩
instance {p : List Int → Prop} : Shape (exZ p) [exZ p] := .of_one inferInstance
instance : One exI := ⟨fun w F v h => by
 obtain ⟨z, h⟩ := h; exact One.one (S := isI z) w F v h⟩
instance : Shape exI [exI] := .of_one inferInstance
theorem CtrX.toEx {f : FuncId} {args : List VP} {R : VP → Mem → Prop} {S : VP} (h : CtrX P f args [] R) (hR : ∀ S' M', R S' M' → ∀ w F v, S'.h w F v → S.h w F v) : Ctr P f args S :=
 ⟨h.1, fun w F vs hF hargs => (h.2 w F vs hF ⟨List.Pairwise.nil, by simp⟩ hargs).mono (by
  rintro e w' ⟨v, S', M', F', rfl, hr, hk, hsub, hnew, hv, _⟩
  exact ⟨v, rfl, hk, S.mono _ _ _ _ _ (hR S' M' hr _ _ _ hv) (fun _ _ => rfl) hnew⟩)⟩
theorem na {A B : VP} {p : List Int → Prop} {l : List Int} (hl : p l) : ∀ w F v, (zu [A, B, SlK 2 zc (l.map nz)]).h w F v → (zu [A, B, exZ p]).h w F v := fun w F v h => by
 obtain ⟨vs, e, h⟩ := h
 match vs, h with
 | [x, y, z], ⟨h1, h2, h3, _⟩ => exact ⟨[x, y, z], e, h1, h2, ⟨l, hl, h3⟩, trivial⟩
theorem zBI {A A' B : VP} (hA : ∀ w F v, A.h w F v → A'.h w F v) : ∀ w F v, (zW [A, B]).h w F v → (zW [A', B]).h w F v := fun w F v h => by
 obtain ⟨vs, e, h⟩ := h
 match vs, h with
 | [x, y], ⟨h1, h2, _⟩ => exact ⟨[x, y], e, hA _ _ _ h1, h2, trivial⟩
theorem zBH {A A' B B' : VP} {z : Int} {D : VP} (hA : ∀ w F v, A.h w F v → A'.h w F v) (hB : ∀ w F v, B.h w F v → B'.h w F v) : ∀ w F v, (zW [A, B, isI z, D]).h w F v → (zW [A', B', exI, D]).h w F v := fun w F v h => by
 obtain ⟨vs, e, h⟩ := h
 match vs, h with
 | [x, y, t, u], ⟨h1, h2, h3, h4, _⟩ => exact ⟨[x, y, t, u], e, hA _ _ _ h1, hB _ _ _ h2, ⟨z, h3⟩, h4, trivial⟩
theorem Tri.opZ {b : Nat} {A B : VP} {p : List Int → Prop} {M0 : Mem} (h : ∀ l, p l → Tri E P c Γ ((some b, zC [A, B, SlK 2 zc (l.map nz)]) :: M0) Q) : Tri E P c Γ ((some b, zC [A, B, exZ p]) :: M0) Q := by
 intro a w F s
 obtain ⟨h1, h2, h3, o, h4, vs, T, e, hv⟩ := s.mem.each b _ List.mem_cons_self
 obtain ⟨x, y, z, rfl, g1, g2, l, hl, g3⟩ : ∃ x y z, vs = [x, y, z] ∧ A.h w F x ∧ B.h w F y ∧ ∃ l, p l ∧ (SlK 2 zc (l.map nz)).h w F z := by
  match vs, hv with
  | [x, y, z], ⟨g1, g2, ⟨l, hl, g3⟩, _⟩ => exact ⟨x, y, z, rfl, g1, g2, l, hl, g3⟩
 refine h l hl a w F { s with mem := ⟨?_, fun k C hk => ?_⟩ }
 ·have := List.pairwise_cons.1 s.mem.apart
  exact List.pairwise_cons.2 ⟨fun q hq => this.1 q hq, this.2⟩
 ·rcases List.mem_cons.1 hk with e' | hk
  ·cases e'
   exact ⟨h1, h2, h3, o, h4, [x, y, z], T, e, g1, g2, g3, trivial⟩
  ·exact s.mem.each k C (List.mem_cons_of_mem _ hk)
end
end Go.En
namespace Go.Proofs.YtlebmedapfncoaaGreat
open Go.En Go.RowKit
set_option maxRecDepth 10000
set_option maxHeartbeats 4000000
open Go.Nt
open Go.Pz
open Go.Mz
open Go.Hn
open Go.Hp
open Go.Dt
open Go.Ll
theorem rp : Ctr Tryz.prog 15 [isM 2 1 ([1,1].map nz), isZ 3, isZ 4] (zW [zu [isI 2, isI 1, exZ (fun l => Bd l 300 ∧ l.length = 2 * 1 ∧ cf l (0 * 1 + 0) = 0 ∧ cf l (1 * 1 + 0) ≠ 0)], zu [isI 2, isI 2, exZ fun _ => True], exI, isI 0]) := by
 have hb11 : Bd (zF ([1,1].map nz)) 1 := by rw [zT]; exact zFB
 have h3 : (List.length (zA (3 : Int).natAbs)) ≤ 1 := qF (by decide)
 have h4 : (List.length (zA (4 : Int).natAbs)) ≤ 1 := qF (by decide)
 refine (dG (R := 2) (C := 1) (K := 1) (xs := [1,1].map nz) hb11 (by decide) (by decide) (by decide) rfl (by rw [zB]; omega) (by rw [zB]; omega) (by simp only [zK]; decide) (by rw [zK]; decide) (by simp only [zK]; decide)).toEx ?_
 rintro _ _ ⟨c, ds', ls', us', k, Ml, Wl, rfl, rfl, hG⟩
 refine zBH (na ⟨(hG.bd hb11 (by decide) (by decide)).mono (by decide), hG.len, hG.zero hb11 (i := 0) (j := 0) (by rw [zDQ]; decide) (by decide), ?_⟩) (na trivial)
 obtain ⟨j, hj, hne⟩ := hG.nz (i := 0) (by rw [zDQ]; decide)
 obtain rfl : j = 0 := by omega
 rw [zDQ] at hne
 exact hne
theorem ln {R C K : Nat} {xs : List (Bool × List Nat)} (hx : Bd (zF xs) K) (hK : K ≤ 280) (hR : R ≤ 4) (hC : C ≤ 4) (hl : xs.length = R * C) {m n : Bool} {ps qs : List Nat} (hpw : (List.length (zA (val ps))) ≤ 1000) (hqw : (List.length (zA (val qs))) ≤ 1000) (hmy : (decide (0 < sgn (zv n qs)) && decide (0 < xB (zv m ps * 4) (zv n qs)) && decide (xB (zv m ps) (zv n qs) < 0)) = true) (hq : 0 < zv n qs) (hpq : zv m ps < zv n qs) : Ctr Tryz.prog 7 [isM (R : Int) (C : Int) xs, zu [isB m, zD ps], zu [isB n, zD qs]] (zW [zu [isI ((rkL R C (zF xs) : Nat) : Int), isI (C : Int), exZ (BS R C K (zF xs))], isI 0]) :=
 (nV hx hK hR hC hl hpw hqw hmy hq hpq).toEx (by
  rintro _ _ ⟨Bl, rfl, rfl, hBS⟩
  exact zBI (na hBS))
theorem jD  : Ctr Tryz.prog 5 [] (isB true) := by
 refine Ctr.i Tryz.func5 rfl Tryz.ntmps5 fun w0 F0 => .cv (Cv.wk .nil) (.sr fun k1 => st (.as (.cB false)) rfl (nkQ k1 (.sr fun k2 => st (.buildS [isI 0, isI 0] zDH ty2 zFV (fun _ _ => ⟨⟨rfl, by decide, by decide⟩, ⟨rfl, by decide, by decide⟩, trivial⟩) rfl rfl (.cons (.cI 1 rfl) rfl rfl rfl (.cons (.cI 1 rfl) rfl rfl rfl .nil)) rfl (S := SlM isI [_, _]) rfl) rfl (st (.eq (.call (yE (R := 2) (C := 1) (l := [1,1]) (by decide) (by decide) rfl (by decide)) (.cons (.cI 2 rfl) (.cons (.cI 1 rfl) (.cons (.t rfl) .nil)))) ((show _ = zW [xQ 2 1 [1,1], isI 0] from by rw [zEZ]))) rfl (stM rfl (st (.ext (.t rfl) rfl) rfl (st (.ext (.t rfl) rfl) rfl (.alloc [isI 0, isI 0, zw] zf (fun _ _ => ⟨⟨rfl, by decide, by decide⟩, ⟨rfl, by decide, by decide⟩, rfl, trivial⟩) rfl fun b1 => .store (.t rfl) (.t rfl) (i := 0) rfl zO rfl rfl (Ss' := [_, _, _]) rfl (M' := [(some _, zC [_, _, _])]) rfl (stM rfl (nkQ k2 (.w [0,1] rfl (.sq fun k3 => .drh [true] (Ms := [_]) rfl (.so [] rfl (.load (.t rfl) (i := 0) rfl zO rfl (Ss' := [_, _, _]) rfl) (.so [] rfl (.call (qt) (.cons (.cI 3 rfl) .nil)) (.so [] rfl (.call (qt) (.cons (.cI 4 rfl) .nil)) (.so [13,14,15] rfl (.call rp (.cons (.t rfl) (.cons (.t rfl) (.cons (.t rfl) .nil)))) (.m [16] rfl (.so [12] rfl (.ext (.t rfl) rfl) (.so [12] rfl (.ext (.t rfl) rfl) (.so [12] rfl (.ext (.t rfl) rfl) (.so [12] rfl (.ext (.t rfl) rfl) (.als2 (n1 := 11) (ds := [3,4]) (zs := [[isI 0, isI 0, zw], [isI 0, isI 0, zw]]) rfl (.cons rfl rfl zf (fun _ _ => ⟨⟨rfl, by decide, by decide⟩, ⟨rfl, by decide, by decide⟩, rfl, trivial⟩) (.cons rfl rfl zf (fun _ _ => ⟨⟨rfl, by decide, by decide⟩, ⟨rfl, by decide, by decide⟩, rfl, trivial⟩) .nil)) (.cons_cons _ .slnil) (Cs := [_, _]) rfl ?_))))))))))))))))))))))
 refine .new [17] 0 (Ss' := [_, _, _]) (Cs' := [zC [_, _, _], _]) rfl (by kernel_rfl) (by kernel_rfl) rfl rfl rfl (by kernel_rfl) rfl (.t rfl) zO rfl rfl rfl rfl (.new [18] 1 (Ss' := [_, _, _]) (Cs' := [_, zC [_, _, _]]) rfl (by kernel_rfl) (by kernel_rfl) rfl rfl rfl (by kernel_rfl) rfl (.t rfl) zO rfl rfl rfl rfl (.asg [19] rfl rfl (by kernel_rfl) (by kernel_rfl) (by kernel_rfl) (.o rfl (.as (.t rfl))) (.cons_cons _ .slnil) (.fn (n := 14) zY rfl (fun bs hbs => ?_))))
 obtain ⟨b2, b3, rfl⟩ := zAJ hbs
 refine .memEq (M' := [_, _, _]) rfl (.cv (Cv.wk (.k 0 rfl (.k 20 rfl (.cons (t := 3) (Has.op rfl) (.cons (t := 4) (Has.op rfl) .nil))))) (stM rfl (nkQ k3 (.sq fun k4 => .opZ fun Ml hMl0 => ?_))))
 obtain ⟨hMb', hMl1, e0, e1⟩ := hMl0
 have hMb : Bd (zF (Ml.map nz)) 300 := by rw [zT]; exact hMb'
 have hMl : (Ml.map nz).length = 2 * 1 := by rw [List.length_map]; exact hMl1
 refine .region (stM rfl (st (.eqI (.t rfl) (.cI 0 rfl)) rfl (stM rfl (stT rfl rfl (fun hg => .fieldAddr (.t rfl) zZ ty3) rfl (stT rfl rfl (fun hg => .load1 (Has.g rfl hg) (i := 0) rfl ty3 rfl) rfl (stT rfl rfl (fun hg => .eqI (Has.g rfl hg) (.cI 2 rfl)) rfl (st (.pickAnd (.t rfl) (fun h => Has.g rfl h)) rfl (stM rfl (stT rfl rfl (fun hg => .fieldAddr (.t rfl) zZ ty3) rfl (stT rfl rfl (fun hg => .load1 (Has.g rfl hg) (i := 1) rfl ty3 rfl) rfl (stT rfl rfl (fun hg => .eqI (Has.g rfl hg) (.cI 2 rfl)) rfl (st (.pickAnd (.t rfl) (fun h => Has.g rfl h)) rfl (stM rfl (stT rfl rfl (fun hg => .load (.t rfl) (i := 0) rfl zO rfl (Ss' := [_, _, _]) rfl) rfl ?_))))))))))))))
 refine stT rfl rfl (fun hg => have hg' := BP.t hg; OK1.eq (.call (wh (R := 2) (C := 1) (i := 0) (k := 0) (K := 300) (xs := Ml.map nz) hMb (by decide) (by decide) (by decide) hMl (by decide) (by decide)) (.cons (Has.g rfl hg) (.cons (.cI 0 rfl) (.cons (.cI 0 rfl) .nil)))) ((show _ = isZ (cf Ml (0 * 1 + 0)) from zS (by rw [zT])))) rfl ?_
 refine stT rfl rfl (fun hg => have hg' := BP.t hg; OK1.eq (.call (qD (by rw [zB]; have := hMb' (0 * 1 + 0); omega)) (.cons (Has.g rfl hg) .nil)) ((show isI _ = isI 0 from zG (by rw [zK, e0]; rfl)))) rfl ?_
 refine stT rfl rfl (fun hg => .eqI (Has.g rfl hg) (.cI 0 rfl)) rfl (st (.pickAnd (.t rfl) (fun h => Has.g rfl h)) rfl (stM rfl (stT rfl rfl (fun hg => .load (.t rfl) (i := 0) rfl zO rfl (Ss' := [_, _, _]) rfl) rfl ?_)))
 refine stT rfl rfl (fun hg => have hg' := BP.t hg; OK1.eq (.call (wh (R := 2) (C := 1) (i := 1) (k := 0) (K := 300) (xs := Ml.map nz) hMb (by decide) (by decide) (by decide) hMl (by decide) (by decide)) (.cons (Has.g rfl hg) (.cons (.cI 1 rfl) (.cons (.cI 0 rfl) .nil)))) ((show _ = isZ (cf Ml (1 * 1 + 0)) from zS (by rw [zT])))) rfl ?_
 refine stT rfl rfl (fun hg => have hg' := BP.t hg; OK1.eq (.call (qD (by rw [zB]; have := hMb' (1 * 1 + 0); omega)) (.cons (Has.g rfl hg) .nil)) ((show isI _ = isI (sgn (cf Ml (1 * 1 + 0))) from zG (by rw [zK])))) rfl ?_
 refine stT rfl rfl (fun hg => .neI (Has.g rfl hg) (.cI 0 rfl)) rfl (st (.eq (.pickAnd (.t rfl) (fun h => Has.g rfl h)) ((show isB _ = isB true from zg (by simp [xN, e1])))) rfl (stM rfl (nkQ k4 (.w [0] rfl (.ret (rt1 (.inl rfl) Tryz.results5 rfl (.tmp (Has.t' rfl ?_) .nil)))))))
 all_goals (rfl)
theorem tS {z : Int} (h1 : 26 ≤ z) (h2 : z ≤ 99) : (decide (0 < sgn 100) && decide (0 < xB (z * 4) 100) && decide (xB z 100 < 0)) = true := by
 have e1 : xB (z * 4) 100 = 1 := by unfold xB; rw [if_neg (by omega), if_pos (by omega)]
 have e2 : xB z 100 = -1 := by unfold xB; rw [if_pos (by omega)]
 rw [e1, e2]; decide
theorem gR {K R C : Nat} (hK : K ≤ 275) (hR : R ≤ 4) (hC : C ≤ 4) : (K + 4) * (R + 2) ^ C ≤ 1000000 :=
 Nat.le_trans (Nat.mul_le_mul (show K + 4 ≤ 279 by omega) (Nat.le_trans (Nat.pow_le_pow_left (show R + 2 ≤ 6 by omega) C) (Nat.pow_le_pow_right (by decide) hC))) (by decide)
theorem dF {R R' C Ka K : Nat} {xs ys : List (Bool × List Nat)} (hx : Bd (zF xs) Ka) (hy : Bd (zF ys) K) (hKa : Ka ≤ 10000) (hK : K ≤ 275) (hR : R ≤ 4) (hR' : R' ≤ 4) (hC : C ≤ 4) (hl : xs.length = R * C) (hyl : ys.length = R' * C) : Ctr Tryz.prog 11 [isM (R : Int) (C : Int) xs, isM (R' : Int) (C : Int) ys] (zW [isB (pj R R' C (mf C (zF xs)) (mf C (zF ys))), isI 0]) :=
 lf hx hy (tj hy (by omega) (gR hK hR' hC)) (by
  have h1 := nQ (R := R') (K := K + 4) (hrk R' C (zF ys))
  have h2 := Nat.mul_le_mul_left (K + 4) (Nat.pow_le_pow_right (show 0 < R' + 2 by omega) (oz (R := R') (C := C) hy))
  have h4 := gR hK hR' hC
  have h3 : (R' + 1) * (hq R' (K + 4) (hrk R' C (zF ys)) + 2) ≤ 5 * (1000000 + 2) := Nat.mul_le_mul (by omega) (by omega)
  omega) (by omega) (by omega) (by omega) hl hyl
theorem ky {R C K : Nat} {xs : List (Bool × List Nat)} (hx : Bd (zF xs) K) (hK : K ≤ 10000) (hR : R ≤ 16) (hC : C ≤ 16) (hl : xs.length = R * C) : Ctr Tryz.prog 13 [isM (R : Int) (C : Int) xs] (isI (rkL R C (zF xs) : Int)) := by
 refine Ctr.i Tryz.func13 rfl Tryz.ntmps13 fun w0 F0 => .w [0] rfl (.sr fun k1 => .box (.t rfl) rfl fun b1 => st (.as (.cI 0 rfl)) rfl (nkQ k1 (.sr fun k2 => st (.load (.t rfl) (i := 0) rfl zO rfl (Ss' := [_, _, _]) rfl) rfl (st (.call (iX hx hK hR hC hl) (.cons (.t rfl) .nil)) rfl (st (.len wm (.t rfl)) rfl (stM rfl (nkQ k2 (.w [2] rfl (.ret (rt1 (.inl rfl) Tryz.results13 rfl (.tmp (Has.t' rfl ?_) .nil)))))))))))
 all_goals (exact zG (by rw [jz, rC hx]))
theorem dS (r c : Int) (xs : List (Bool × List Nat)) (p : Nat) (hf : xV r c xs.length = false) : CtrX Tryz.prog 3 [isM r c xs, isK .u8 (p : Int)] ([]) (fun S M => S = isB true) := by
 refine CtrX.i Tryz.func3 rfl Tryz.ntmps3 fun w0 F0 => .w [0,1] rfl (.fact (Has.rngK (Has.t (t := 1) rfl)) fun ltp => ?_)
 have ltq := ltp.2
 simp only [IntKind.min, IntKind.max, IntKind.signed, IntKind.bits] at ltp
 obtain ⟨a, ha⟩ : ∃ a : Int, a = 26 + (p : Int) % 74 := ⟨_, rfl⟩
 have ha1 : 26 ≤ a := by omega
 have ha2 : a ≤ 99 := by omega
 have haw : (List.length (zA a.natAbs)) ≤ 1 := qF (by omega)
 have h100 : (List.length (zA (100 : Int).natAbs)) ≤ 1 := qF (by decide)
 have hmay := tS ha1 ha2
 refine .sr fun k1 => .box (.t rfl) rfl fun b1 => st (.as (.cB false)) rfl (nkQ k1 (.sq fun k2 => .sr fun k3 => st (.call jD .nil) rfl (st (.not (.t rfl)) rfl (stM rfl (stF rfl rfl (fun hg => .load (.t rfl) (i := 0) rfl zO rfl (Ss' := [_, _, _]) rfl) rfl (stF rfl rfl (fun hg => .call (gQ) (.cons (Has.g rfl hg) (.cons (.cI 4 rfl) (.cons (.cI 1 rfl) .nil)))) rfl (stF rfl rfl (fun hg => .not (Has.g rfl hg)) rfl (st (.pickOr (.t rfl) (fun h => Has.g rfl (ng h))) rfl (nkQ k3 (.w [1,2,4,17] rfl (.cd rfl (fun hc1 => ?_) (fun hc1 => ?_))))))))))))
 ·refine .sr fun k4 => st (.call jD .nil) rfl (stM rfl (nkQ k4 (.ret (.thr (gM (.cons _ .slnil) (.inl rfl) Tryz.results3 rfl (.tmp (.t rfl) .nil) (rfl))))))
 ·refine .skip (.nk k2 (.sq fun k5 => .drh [true] (Ms := [_]) rfl (.so [] rfl (.load (.t rfl) (i := 0) rfl zO rfl (Ss' := [_, _, _]) rfl) (.m [] rfl (.so [21] rfl (.remK (.t rfl) (.cK .u8 74 rfl) (by first | omega | assumption) (by first | omega | assumption) (by first | omega | assumption)) (.so [22] rfl (.convKI un5 un3 (.t rfl) (by first | omega | assumption) (by first | omega | assumption)) (.so [23] rfl (.eq (.addI (.cI 26 rfl) (.t rfl) (by first | omega | assumption) (by first | omega | assumption)) ((show isI _ = isI a from zG (by omega)))) (.so [24] rfl (.call (qt) (.cons (.t rfl) .nil)) (.so [] rfl (.call (qt) (.cons (.cI 100 rfl) .nil)) (.so [20,25,26] rfl (.call (fQ hf) (.cons (.t rfl) (.cons (.t rfl) (.cons (.t rfl) .nil)))) (.m [27] rfl (.so [19] rfl (.ext (.t rfl) rfl) (.so [19] rfl (.ext (.t rfl) rfl) (.als2 (n1 := 12) (ds := [5]) (zs := [[isI 0, isI 0, zw]]) rfl (.cons rfl rfl zf (fun _ _ => ⟨⟨rfl, by decide, by decide⟩, ⟨rfl, by decide, by decide⟩, rfl, trivial⟩) .nil) (.cons_cons _ .slnil) (Cs := [_]) rfl (.new [28] 0 (Ss' := [_, _, _]) (Cs' := [zC [_, _, _]]) rfl (by kernel_rfl) (by kernel_rfl) rfl rfl rfl (by kernel_rfl) rfl (.t rfl) zO rfl rfl rfl rfl (.fn (n := 13) zY rfl (fun bs hbs => ?_)))))))))))))))))
  obtain ⟨b2, rfl⟩ := cl hbs
  refine .memEq (M' := [_, _]) rfl (.cv (Cv.wk (.k 2 rfl (.k 4 rfl (.k 29 rfl (.cons (t := 5) (Has.op rfl) .nil))))) (stM rfl (nkQ k5 (.sq fun k6 => .sr fun k7 => st (.load (.t rfl) (i := 1) rfl zO rfl (Ss' := [_, _, _]) rfl) rfl (st (.eq (.call (wn) (.cons (.t rfl) .nil)) ((show isB _ = isB false from zg (hf)))) rfl (st (.not (.t rfl)) rfl (nkQ k7 (.cd rfl (fun hc2 => ?_) (fun hc2 => ?_)))))))))
  ·refine .sr fun k8 => stM rfl (st (.eqI (.t rfl) (.cI 2 rfl)) rfl (stM rfl (stT rfl rfl (fun hg => .load (.t rfl) (i := 0) rfl zO rfl (Ss' := [_, _, _]) rfl) rfl (stT rfl rfl (fun hg => .call (my (r := 0) (c := 0) (xs := [])) (.cons (Has.g rfl hg) .nil)) rfl (st (.pickAnd (.t rfl) (fun h => Has.g rfl h)) rfl (stM rfl (nkQ k8 (.w [2,4,5,6] rfl (.ret (.thr (gM (.cons _ (.cons _ .slnil)) (.inl rfl) Tryz.results3 rfl (.tmp (.t rfl) .nil) (rfl))))))))))))
  ·exfalso; simp at hc2
theorem fe (R C : Nat) (xs : List (Bool × List Nat)) (hR : R ≤ 64) (hC : C ≤ 64) (hl : xs.length = R * C) (p : Nat) : CtrX Tryz.prog 3 [isM (R : Int) (C : Int) xs, isK .u8 (p : Int)] ([]) (fun S M => S = isB true) := by
 refine CtrX.i Tryz.func3 rfl Tryz.ntmps3 fun w0 F0 => .w [0,1] rfl (.fact (Has.okM (Has.t (t := 0) rfl)) fun okp0 => ?_)
 have hfo := qE hR hC hl
 refine .fact (Has.rngK (Has.t (t := 1) rfl)) fun ltp => ?_
 have ltq := ltp.2
 simp only [IntKind.min, IntKind.max, IntKind.signed, IntKind.bits] at ltp
 obtain ⟨a, ha⟩ : ∃ a : Int, a = 26 + (p : Int) % 74 := ⟨_, rfl⟩
 have ha1 : 26 ≤ a := by omega
 have ha2 : a ≤ 99 := by omega
 have haw : (List.length (zA a.natAbs)) ≤ 1 := qF (by omega)
 have h100 : (List.length (zA (100 : Int).natAbs)) ≤ 1 := qF (by decide)
 have hmay := tS ha1 ha2
 refine .sr fun k1 => .box (.t rfl) rfl fun b1 => st (.as (.cB false)) rfl (nkQ k1 (.sq fun k2 => .sr fun k3 => st (.call jD .nil) rfl (st (.not (.t rfl)) rfl (stM rfl (stF rfl rfl (fun hg => .load (.t rfl) (i := 0) rfl zO rfl (Ss' := [_, _, _]) rfl) rfl (stF rfl rfl (fun hg => .call (gQ) (.cons (Has.g rfl hg) (.cons (.cI 4 rfl) (.cons (.cI 1 rfl) .nil)))) rfl (stF rfl rfl (fun hg => .not (Has.g rfl hg)) rfl (st (.pickOr (.t rfl) (fun h => Has.g rfl (ng h))) rfl (nkQ k3 (.w [1,2,4,17] rfl (.cd rfl (fun hc1 => ?_) (fun hc1 => ?_))))))))))))
 ·refine .sr fun k4 => st (.call jD .nil) rfl (stM rfl (nkQ k4 (.ret (.thr (gM (.cons _ .slnil) (.inl rfl) Tryz.results3 rfl (.tmp (.t rfl) .nil) (rfl))))))
 ·have HF0 : ((R : Int) ≤ 4 ∧ (C : Int) ≤ 4) ∧ kH xs 100 1 = true := (by simpa [and_assoc] using hc1)
  obtain ⟨⟨hR5, hC5⟩, HF⟩ := HF0
  obtain ⟨hl0, hb⟩ := zBG (N := 100) (K := 1) okp0 HF rfl rfl (by decide)
  have hR4 : R ≤ 4 := by omega
  have hC4 : C ≤ 4 := by omega
  have hPR := br (R := R) (C := C) (L := zF xs)
  obtain ⟨P, hP⟩ : ∃ P, P = rkL R C (zF xs) := ⟨_, rfl⟩
  rw [← hP] at hPR
  refine .skip (.nk k2 (.sq fun k5 => .drh [true] (Ms := [_]) rfl (.so [] rfl (.load (.t rfl) (i := 0) rfl zO rfl (Ss' := [_, _, _]) rfl) (.m [] rfl (.so [21] rfl (.remK (.t rfl) (.cK .u8 74 rfl) (by first | omega | assumption) (by first | omega | assumption) (by first | omega | assumption)) (.so [22] rfl (.convKI un5 un3 (.t rfl) (by first | omega | assumption) (by first | omega | assumption)) (.so [23] rfl (.eq (.addI (.cI 26 rfl) (.t rfl) (by first | omega | assumption) (by first | omega | assumption)) ((show isI _ = isI a from zG (by omega)))) (.so [24] rfl (.call (qt) (.cons (.t rfl) .nil)) (.so [] rfl (.call (qt) (.cons (.cI 100 rfl) .nil)) (.so [20,25,26] rfl (.eq (.call (ln (K := 1) hb (by decide) hR4 hC4 hl (by rw [zB]; omega) (by rw [zB]; omega) (by simp only [zK]; exact hmay) (by rw [zK]; decide) (by simp only [zK]; omega)) (.cons (.t rfl) (.cons (.t rfl) (.cons (.t rfl) .nil)))) ((show _ = zW [zu [isI (P : Int), isI (C : Int), exZ (BS R C 1 (zF xs))], isI 0] from by rw [hP]))) ?_))))))))))
  refine .m [27] rfl (.so [19] rfl (.ext (.t rfl) rfl) (.so [19] rfl (.ext (.t rfl) rfl) (.als2 (n1 := 12) (ds := [5]) (zs := [[isI 0, isI 0, zw]]) rfl (.cons rfl rfl zf (fun _ _ => ⟨⟨rfl, by decide, by decide⟩, ⟨rfl, by decide, by decide⟩, rfl, trivial⟩) .nil) (.cons_cons _ .slnil) (Cs := [_]) rfl (.new [28] 0 (Ss' := [_, _, _]) (Cs' := [zC [_, _, _]]) rfl (by kernel_rfl) (by kernel_rfl) rfl rfl rfl (by kernel_rfl) rfl (.t rfl) zO rfl rfl rfl rfl (.fn (n := 13) zY rfl (fun bs hbs => ?_))))))
  obtain ⟨b2, rfl⟩ := cl hbs
  refine .memEq (M' := [_, _]) rfl (.cv (Cv.wk (.k 2 rfl (.k 4 rfl (.k 29 rfl (.cons (t := 5) (Has.op rfl) .nil))))) (stM rfl (nkQ k5 (.sq fun k6 => .sq fun k7 => .opZ fun Bl hBS => ?_))))
  have hBb : Bd (zF (Bl.map nz)) 275 := by rw [zT]; exact hBS.bd.mono (by decide)
  have hBl : (Bl.map nz).length = P * C := by rw [List.length_map, hP]; exact hBS.len
  have hBe := hBS.eqv
  rw [← hP] at hBe
  refine .region (st (.load (.t rfl) (i := 1) rfl zO rfl (Ss' := [_, _, _]) rfl) rfl (st (.eq (.call (wn) (.cons (.t rfl) .nil)) ((show isB _ = isB true from zg (hfo)))) rfl (st (.not (.t rfl)) rfl (nkQ k7 (.cd rfl (fun hc2 => ?_) (fun hc2 => ?_))))))
  ·exfalso; simp at hc2
  ·refine .skip (.nk k6 (.sr fun k8 => st (.load (.t rfl) (i := 0) rfl zO rfl (Ss' := [_, _, _]) rfl) rfl (st (.load (.t rfl) (i := 1) rfl zO rfl (Ss' := [_, _, _]) rfl) rfl (st (.eq (.call (dF (R := P) (R' := R) (C := C) (Ka := 275) (K := 1) hBb hb (by decide) (by decide) (by omega) hR4 hC4 hBl hl) (.cons (.t rfl) (.cons (.t rfl) .nil))) ((show _ = zW [isB true, isI 0] from by rw [zT, bi.2 hBe.1]))) rfl (stM rfl (st (.ext (.t rfl) rfl) rfl (st (.ext (.t rfl) rfl) rfl (stM rfl (stM rfl (nkQ k8 (.w [2,4,5,6,7,8] rfl (.sr fun k9 => st (.load (.t rfl) (i := 1) rfl zO rfl (Ss' := [_, _, _]) rfl) rfl (st (.load (.t rfl) (i := 0) rfl zO rfl (Ss' := [_, _, _]) rfl) rfl (st (.eq (.call (dF (R := R) (R' := P) (C := C) (Ka := 1) (K := 275) hb hBb (by decide) (by decide) hR4 (by omega) hC4 hl hBl) (.cons (.t rfl) (.cons (.t rfl) .nil))) ((show _ = zW [isB true, isI 0] from by rw [zT, bi.2 hBe.2]))) rfl (stM rfl (st (.ext (.t rfl) rfl) rfl (st (.ext (.t rfl) rfl) rfl (stM rfl (stM rfl (nkQ k9 (.w [2,4,5,6,7,8,9,10] rfl (.sq fun k10 => .dr (.m [] rfl (.so [51] rfl (.eqI (.t rfl) (.cI 0 rfl)) (.m [52] rfl (.s [53] rfl rfl rfl (.T rfl rfl rfl (fun hg => .mv (.t rfl))) (.s [53,54] rfl rfl rfl (.T rfl rfl rfl (fun hg => .eqI (Has.g rfl hg) (.cI 0 rfl))) (.so [53,55] rfl (.pickAnd (.t rfl) (fun h => Has.g rfl h)) (.m [56] rfl ?_)))))))))))))))))))))))))))))
   refine .s [57] rfl rfl rfl (.T rfl rfl rfl (fun hg => .mv (.t rfl))) (.s [57,58] rfl rfl rfl (.T rfl rfl rfl (fun hg => .eqI (Has.g rfl hg) (.cI 0 rfl))) (.so [57,59] rfl (.pickAnd (.t rfl) (fun h => Has.g rfl h)) (.m [60] rfl (.s [61] rfl rfl rfl (.T rfl rfl rfl (fun hg => .mv (.t rfl))) (.so [61,62] rfl (.pickAnd (.t rfl) (fun h => Has.g rfl h)) (.m [63] rfl (.s [64] rfl rfl rfl (.T rfl rfl rfl (fun hg => .mv (.t rfl))) (.so [64,65] rfl (.pickAnd (.t rfl) (fun h => Has.g rfl h)) (.m [66] rfl (.s [67] rfl rfl rfl (.T rfl rfl rfl (fun hg => .load (.t rfl) (i := 0) rfl zO rfl (Ss' := [_, _, _]) rfl)) ?_))))))))))
   refine .s [67,68] rfl rfl rfl (.T rfl rfl rfl (fun hg => have hg' := BP.t hg; OK1.eq (.call (iY (l := Bl) (by rw [zT] at hBb; exact hBb) (by decide) (by rw [List.length_map] at hBl; rw [hBl]; exact Nat.le_trans (Nat.mul_le_mul (show P ≤ 4 by omega) hC4) (by decide))) (.cons (Has.g rfl hg) .nil)) ((show isB _ = isB true from zg (qE (by omega) hC (by rw [List.length_map] at hBl; exact hBl)))))) ?_
   refine .so [67,69] rfl (.pickAnd (.t rfl) (fun h => Has.g rfl h)) (.m [70] rfl (.s [71] rfl rfl rfl (.T rfl rfl rfl (fun hg => .fieldAddr (.t rfl) zZ ty3)) (.s [71,72] rfl rfl rfl (.T rfl rfl rfl (fun hg => .load1 (Has.g rfl hg) (i := 0) rfl ty3 rfl)) (.s [71] rfl rfl rfl (.T rfl rfl rfl (fun hg => .load (.t rfl) (i := 1) rfl zO rfl (Ss' := [_, _, _]) rfl)) ?_))))
   refine .s [71,74] rfl rfl rfl (.T rfl rfl rfl (fun hg => have hg' := BP.t hg; OK1.eq (.call (ky hb (by decide) (by omega) (by omega) hl) (.cons (Has.g rfl hg) .nil)) ((show isI _ = isI (P : Int) from zG (by rw [hP]))))) ?_
   refine .fn (n := 25) zY (.w [4,71,73,75] rfl (stT rfl rfl (fun hg => .eqI (Has.g rfl hg) (Has.g rfl hg)) rfl (st (.pickAnd (.t rfl) (fun h => Has.g rfl h)) rfl (stM rfl (nkQ k10 (.w [4] rfl (.ret (gM (.cons _ (.cons _ .slnil)) (.inl rfl) Tryz.results3 rfl (.tmp (.t rfl) .nil) (zg (by simp))))))))))
theorem mN (r c : Int) (xs : List (Bool × List Nat)) (p : Nat) : Ctr Tryz.prog 3 [isM r c xs, isK .u8 (p : Int)] (isB true) := by
  cases h : xV r c xs.length with
  | true =>
    obtain ⟨R, C, rfl, rfl, h1, h2, h3⟩ := gv.1 h
    exact (fe R C xs h1 h2 h3 p).toCtr fun S' M' hh => hh
  | false => exact (dS r c xs p h).toCtr fun S' M' hh => hh
end Go.Proofs.YtlebmedapfncoaaGreat
namespace Go.En
open Go.RowKit Go.ChangeShapes Go.WideShapes Go.ChangeAt
theorem cC {α β : Type} (g h : α → β) : ∀ (l : List α) (j : Nat), (l.flatMap fun a => [g a, h a])[j]? = (l[j / 2]?).map (fun a => if j % 2 = 0 then g a else h a)
  | [], j => by simp
  | a :: l, 0 => by simp
  | a :: l, 1 => by simp
  | a :: l, j + 2 => by
    have := cC g h l j
    rw [show (j + 2) / 2 = j / 2 + 1 by omega, show (j + 2) % 2 = j % 2 by omega]
    simpa using this
section
variable {H : Type} {enc : TypeId × Value → H} {P : Program}
end
end Go.En
namespace Go.En
open Go.RowKit Go.ChangeShapes Go.WideShapes Go.ChangeAt
section
variable {H : Type} {enc : TypeId × Value → H} {P : Program}
theorem zGH {W : World} {T e tb ts T' : TypeId} {fuel : Nat} {cs : List Value} {x : DataW H × List MemPlace} (hT : P.underlying T = some (.slice e)) (hfs : fsB P e = some [(tb, 0), (ts, 1)]) (hub : P.underlying tb = some .bool) (hu : P.underlying ts = some (.slice T')) (hu' : P.underlying T' = some (.int .u64)) (hc : P.cellsOf T' = 1) (hcb : P.cellsOf tb = 1) (hcs : P.cellsOf ts = 1) (hce : P.cellsOf e = 2)
    (hf : DataW.trod enc P W 0 (fun _ => true) true fuel T cs = some x) (hps : ∀ y ∈ x.2, y.block < W.heap.size) : ∃ (v : Value) (xs : List (Bool × List Nat)), cs = [v] ∧ (zHS xs).h W (fun b => b < W.heap.size) v := by
  obtain ⟨d, ps⟩ := x
  obtain ⟨fs, hue, hsz, hget⟩ := lw hfs
  obtain ⟨f0, g0, rfl, e0⟩ := hget 0 tb 0 rfl
  obtain ⟨f1, g1, rfl, e1⟩ := hget 1 ts 1 rfl
  have hfs2 : fs = #[f0, f1] := by
    apply Array.ext'
    have hl : fs.toList.length = 2 := by simpa using hsz
    match hq : fs.toList, hl with
    | [p, q], _ =>
      have a0 : fs.toList[0]? = some f0 := by simpa using g0
      have a1 : fs.toList[1]? = some f1 := by simpa using g1
      rw [hq] at a0 a1
      simp at a0 a1
      rw [a0, a1]
  subst hfs2
  rcases Deep.open_slice_pairs hT hue hce e0 e1 hcb hcs hf with ⟨h1, _⟩ | ⟨a, len, cap, m, n, V0, V1, D0, D1, P0, P1, h1, _, hlc, hcm, hm, hx, hel⟩
  · exact ⟨_, [], h1, wB⟩
  · simp only [if_true] at hm
    subst m
    have hps' : ∀ i, i < cap → ∀ y ∈ P1 i, y.block < W.heap.size := fun i hi y hy => hps y (by
      have := (Prod.mk.inj hx).2
      rw [this]
      exact List.mem_append_right _ (List.mem_flatMap.2 ⟨i, List.mem_range.2 hi, List.mem_append_right _ hy⟩))
    obtain ⟨l, hl, hgl⟩ := aV (p := fun i (x : Bool × List Nat) => V0 i = .bool x.1 ∧ (zD x.2).h W (fun b => b < W.heap.size) (V1 i)) len (fun i hi => by
      obtain ⟨_, _, q0, q1⟩ := hel i (by omega)
      obtain ⟨b, hb, _⟩ := DataW.trod_bool hub q0
      obtain ⟨v, ws, hv1, hw⟩ := zDR hu hu' hc yK q1 (hps' i (by omega))
      obtain rfl : V1 i = v := by simpa using hv1
      exact ⟨(b, ws), by simpa using hb, hw⟩)
    refine ⟨_, l, h1, some a, cap, by rw [hl], by rw [hl]; exact hlc, hcm, xS zL l, ?_⟩
    rcases Nat.eq_zero_or_pos len with h0 | h0
    · exact .inl (by omega)
    · have hc0 := (hel 0 (by omega)).1
      have hs : a.spot = none := by
        cases hsp : a.spot with
        | none => rfl
        | some s =>
          simp only [Addr.add, Nat.zero_mul, if_true] at hc0
          unfold World.cell? at hc0
          rw [hsp] at hc0
          split at hc0 <;> simp at hc0
      obtain ⟨b, off, sp⟩ := a
      simp only at hs
      subst hs
      right
      refine ⟨b, off, rfl, ?_, (List.range len).flatMap (fun i => [V0 i, V1 i]), ?_, fun j u hj => ?_⟩
      · have : MemPlace.cell b (off + 0) ∈ ps := by
          have := (Prod.mk.inj hx).2
          rw [this]
          exact List.mem_append_left _ (List.mem_map.2 ⟨0, by simp; omega, rfl⟩)
        exact hps _ this
      · have hlen2 : ((List.range len).flatMap fun i => [V0 i, V1 i]).length = len * 2 := by
          have := xS (fk := fun (i : Nat) => [isB true, isB true]) (k := 2) (fun _ => rfl) (List.range len)
          rw [List.length_flatMap] at this ⊢
          simpa using this
        refine ae (by rw [xS zL, hlen2, hl]) (fun j S v hS hv => ?_)
        have hz := cC (fun p : Bool × List Nat => isB p.1) (fun p => zD p.2) l j
        rw [show (l.flatMap fun a => [isB a.1, zD a.2]) = l.flatMap zc from rfl, hS] at hz
        have hw := cC V0 V1 (List.range len) j
        rw [hv] at hw
        have hj : j / 2 < l.length := by
          rcases Nat.lt_or_ge (j / 2) l.length with h | h
          · exact h
          · rw [List.getElem?_eq_none h] at hz; cases hz
        rw [List.getElem?_eq_getElem hj] at hz
        rw [List.getElem?_range (by omega)] at hw
        simp only [Option.map_some, Option.some.injEq] at hz hw
        obtain ⟨k1, k2⟩ := hgl (j / 2) hj
        subst hz; subst hw
        by_cases hp : j % 2 = 0
        · rw [if_pos hp, if_pos hp, k1]; rfl
        · rw [if_neg hp, if_neg hp]; exact k2
      · have hw := cC V0 V1 (List.range len) j
        rw [hj] at hw
        have hjl : j / 2 < len := by
          rcases Nat.lt_or_ge (j / 2) len with h | h
          · exact h
          · rw [List.getElem?_eq_none (by simpa using h)] at hw; cases hw
        rw [List.getElem?_range hjl] at hw
        simp only [Option.map_some, Option.some.injEq] at hw
        obtain ⟨q0, q1, _, _⟩ := hel (j / 2) (by omega)
        rw [xF] at q0
        rw [xF] at q1
        by_cases hp : j % 2 = 0
        · rw [if_pos hp] at hw; subst hw
          rw [show off + j = off + j / 2 * 2 by omega]; exact q0
        · rw [if_neg hp] at hw; subst hw
          rw [show off + j = off + (j / 2 * 2 + 1) by omega]; exact q1
theorem zEB {W : World} {base : Nat} {T ti tm e tb ts T' : TypeId} {v : Value} {d : DataW H} {ps : List MemPlace} (hfM : fsB P T = some [(ti, 0), (ti, 1), (tm, 2)]) (hui : P.underlying ti = some (.int .i64)) (hT : P.underlying tm = some (.slice e)) (hfs : fsB P e = some [(tb, 0), (ts, 1)]) (hub : P.underlying tb = some .bool) (hu : P.underlying ts = some (.slice T')) (hu' : P.underlying T' = some (.int .u64)) (hc : P.cellsOf T' = 1) (hcb : P.cellsOf tb = 1) (hcs : P.cellsOf ts = 1) (hce : P.cellsOf e = 2)
    (hci : P.cellsOf ti = 1) (hcm : P.cellsOf tm = 1) (hcT : P.cellsOf T = 3) (hv : Value.okWide P W .any base T v) (h : DataW.Trod enc P W 0 (fun _ => true) true T v d ps) (hps : ∀ x ∈ ps, x.block < W.heap.size) : ∃ x : Int × Int × List (Bool × List Nat), (isM x.1 x.2.1 x.2.2).h W (fun b => b < W.heap.size) v := by
  obtain ⟨fs, huT, hsz, hget⟩ := lw hfM
  have hv' := hv
  simp only [Value.okWide, huT] at hv'
  obtain ⟨cs, rfl, _, _⟩ := hv'
  obtain ⟨fuel, hf⟩ := h
  obtain ⟨xs, m, _, hx, hl, hxl, hfe⟩ := DataW.trod_struct huT hf
  simp [Value.cells] at hl hx
  obtain ⟨f0, g0, rfl, e0⟩ := hget 0 ti 0 rfl
  obtain ⟨f1, g1, k1, e1⟩ := hget 1 _ 1 rfl
  obtain ⟨f2, g2, rfl, e2⟩ := hget 2 tm 2 rfl
  have h0 := hfe 0 f0 g0
  have h1 := hfe 1 f1 g1
  have h2 := hfe 2 f2 g2
  rw [List.getElem?_eq_getElem (by rw [hxl, hsz]; simp)] at h0 h1 h2
  rw [e0, hci] at h0
  rw [e1, k1, hci] at h1
  rw [e2, hcm] at h2
  obtain ⟨r, hr, hr1, hr2⟩ := zGI hui h0
  obtain ⟨c, hc1, hc2, hc3⟩ := zGI hui h1
  obtain ⟨u, ws, hu1, hw⟩ := zGH hT hfs hub hu hu' hc hcb hcs hce h2 (fun y hy => hps y (by
    rw [hx.2]
    exact List.mem_flatMap.2 ⟨_, List.getElem_mem _, hy⟩))
  refine ⟨(r, c, ws), cs.toList, by simp, ?_⟩
  have hcs2 : cs.toList = [.int .i64 r, .int .i64 c, u] := by
    have hlen : cs.toList.length = 3 := by rw [← hcT]; simpa using hl
    match hq : cs.toList, hlen with
    | [p, q, t], _ =>
      have a1 : [p] = [Value.int .i64 r] := by have := hr; simpa [Value.cells, hq] using this
      have a2 : [q] = [Value.int .i64 c] := by have := hc1; simpa [Value.cells, hq] using this
      have a3 : [t] = [u] := by have := hu1; simpa [Value.cells, hq] using this
      rw [List.cons.inj a1 |>.1, List.cons.inj a2 |>.1, List.cons.inj a3 |>.1]
  rw [hcs2]
  exact ⟨⟨rfl, hr1, hr2⟩, ⟨rfl, hc2, hc3⟩, hw, trivial⟩
end
end Go.En
namespace Go.Proofs.YtlebmedapfncoaaGreat
open Go.En Go.RowKit
set_option maxRecDepth 10000
open Go.ChangeShapes
open Go.WideShapes
open Go.ChangeAt
open Go.Nt
open Go.Pz
open Go.Mz
theorem dK : zCN Tryz.prog Tryz.f3 3 := by
 intro H enc W base args ds ps hval hA hlt
 rw [Tryz.params3] at hA hval
 obtain ⟨v0, vs0, d0, ds0, p0, q0, hargs, rfl, rfl, h0, r0⟩ := trodAll_cons hA
 obtain ⟨v1, vs1, d1, ds1, p1, q1, rfl, rfl, rfl, h1, r1⟩ := trodAll_cons r0
 obtain ⟨rfl, rfl, rfl⟩ := trodAll_nil r1
 obtain rfl : args = #[v0, v1] := by cases args; simp_all
 obtain ⟨x0, o0⟩ := zEB zHX un3 zHJ zHW un4 zHI yQ (by kernel_rfl) (by kernel_rfl) (by kernel_rfl) (by kernel_rfl) (by kernel_rfl) (by kernel_rfl) (by kernel_rfl) (hval 0 24 v0 rfl rfl) h0 (fun x hx => hlt x (by simp [hx]))
 obtain ⟨x1, o1⟩ := zEA un5 rfl (hval 1 5 v1 rfl rfl) h1
 refine ⟨_, ?_, mN x0.1 x0.2.1 x0.2.2 x1⟩
 exact ⟨o0, o1 _, trivial⟩
theorem ir : Tryz.pinned.checked.prog.funcNamed Rows.gramBasesRow.func = some 3 := by kernel_rfl
theorem iv : joinedFacts Tryz.pinned.checked.prog 3 Tryz.f3 Rows.gramBasesSpec Rows.gramBasesRow = true := by kernel_rfl
theorem iu : laidOutB Tryz.checked.prog = true := by kernel_rfl
theorem gramBases_said : Rows.GramBasesSaid :=
 OpenClaim.holds_of_wide 3 Tryz.f3 rfl rfl rfl rfl rfl rfl rfl ⟨rfl, rfl, rfl, rfl, rfl⟩ rfl rfl rfl rfl rfl ir Tryz.func3 iv
  (of_decide_eq_true (by kernel_rfl)) (by unfold Func.isWrapper; first | (rw [if_pos (by decide +kernel)]; kernel_rfl) | (rw [if_neg (by decide +kernel)]; exact ⟨rfl, rfl⟩))
  (fun os started H enc _ => tY (C := Tryz.checked) (s := Rows.gramBasesSpec) (by kernel_rfl) started (by kernel_rfl) Tryz.func3
   (ChangeSpec.witness6 (enc := enc) (C := Tryz.checked) false ⟨#[], #[.agg #[.int .i64 0, .int .i64 0, .slice none 0 0], .int .u8 0], []⟩ 8 (by kernel_rfl) (by kernel_rfl) (by kernel_rfl) (by kernel_rfl))
   iu (by kernel_rfl) rfl rfl un4 (fun ds h => by match ds, h with | [d0, d1], _ => rfl) dK)
#print axioms gramBases_said
end Go.Proofs.YtlebmedapfncoaaGreat
