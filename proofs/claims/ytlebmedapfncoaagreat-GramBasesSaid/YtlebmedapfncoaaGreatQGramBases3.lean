/- Rules and contracts, part 3 of 6. -/
import Derived.Test.YtlebmedapfncoaaGreatQGramBases2
import Derived.ChangeSlices
import Derived.Test.YtlebmedapfncoaaGreatProg
import Derived.KernelRfl
namespace Go.En
open Go.RowKit Go.ChangeShapes Go.WideShapes Go.ChangeAt
section
variable {H : Type} {enc : TypeId × Value → H} {P : Program}
theorem zDR {α : Type} {f : α → VP} {W : World} {T T' : TypeId} {k : IntKind} {fuel : Nat} {cs : List Value} {x : DataW H × List MemPlace} (hu : P.underlying T = some (.slice T')) (hu' : P.underlying T' = some (.int k)) (hc : P.cellsOf T' = 1)
    (hf : ∀ z, rng k z → ∃ a, ∀ w F, (f a).h w F (.int k z)) (h : DataW.trod enc P W 0 (fun _ => true) true fuel T cs = some x) (hps : ∀ y ∈ x.2, y.block < W.heap.size) : ∃ (v : Value) (xs : List α), cs = [v] ∧ (SlM f xs).h W (fun b => b < W.heap.size) v := by
  rcases open_ints hu hu' hc h with ⟨h1, _⟩ | ⟨a, len, cap, zs, h1, h2, h3, h4, h5, h6, h7, h8⟩
  · exact ⟨_, [], h1, nilM _ _⟩
  · simp only [if_true] at h5
    obtain ⟨l, hl, hget⟩ := aV (p := fun i (x : α) => ∀ w F, (f x).h w F (.int k (zs.getD i 0))) len (fun i hi => by
      have hz : zs.getD i 0 ∈ zs := by
        have : i < zs.length := by omega
        simp [List.getD, this]
      exact hf _ (by simpa [Lit.wf, rng] using h8 _ hz))
    refine ⟨_, l, h1, some a, cap, by rw [hl], by rw [hl]; exact h3, h4, by simp, ?_⟩
    rcases Nat.eq_zero_or_pos len with h0 | h0
    · exact .inl (by omega)
    · have hc0 := h7 0 (by omega)
      have hs : a.spot = none := by
        cases hsp : a.spot with
        | none => rfl
        | some s =>
          simp only [Addr.add, if_true] at hc0
          unfold World.cell? at hc0
          rw [hsp] at hc0
          split at hc0 <;> simp at hc0
      obtain ⟨b, off, sp⟩ := a
      simp only at hs
      subst hs
      right
      refine ⟨b, off, rfl, ?_, (List.range len).map (fun i => .int k (zs.getD i 0)), ?_, fun j u hj => ?_⟩
      · have : MemPlace.cell b (off + 0) ∈ x.2 := by
          rw [h6]
          exact List.mem_map.2 ⟨0, by simp; omega, rfl⟩
        exact hps _ this
      · refine ae (by simp [hl]) (fun i S v hS hv => ?_)
        have hi : i < l.length := by
          rcases Nat.lt_or_ge i l.length with h | h
          · exact h
          · rw [List.getElem?_eq_none (by simpa using h)] at hS; cases hS
        rw [List.getElem?_map, List.getElem?_eq_getElem hi] at hS
        rw [List.getElem?_map, List.getElem?_range (by omega)] at hv
        simp at hS hv
        subst hS; subst hv
        simpa [List.getD] using hget i hi W (fun b => b < W.heap.size)
      · have hjl : j < len := by
          rcases Nat.lt_or_ge j len with h | h
          · exact h
          · rw [List.getElem?_eq_none (by simpa using h)] at hj; cases hj
        rw [List.getElem?_map, List.getElem?_range hjl] at hj
        simp at hj
        subst hj
        have := h7 j (by omega)
        rw [xF] at this
        simpa [List.getD] using this
theorem yK (z : Int) (h : rng .u64 z) : ∃ n : Nat, ∀ w F, (isU n).h w F (.int .u64 z) := by
 obtain ⟨h1, h2⟩ := h
 simp [IntKind.min, IntKind.max, IntKind.signed, IntKind.bits] at h1 h2
 refine ⟨z.toNat, fun w F => ⟨?_, by omega⟩⟩
 rw [Int.toNat_of_nonneg h1]
def fsB (P : Program) (T : TypeId) : Option (List (TypeId × Nat)) := match P.underlying T with
 | some (.struct fs) => some (fs.toList.map fun f => (f.type, f.offset))
 | _ => none
theorem lw {T : TypeId} {l : List (TypeId × Nat)} (h : fsB P T = some l) : ∃ fs, P.underlying T = some (.struct fs) ∧ fs.size = l.length ∧ ∀ (i t o : Nat), l[i]? = some (t, o) → ∃ f, fs[i]? = some f ∧ f.type = t ∧ f.offset = o := by
  unfold fsB at h
  split at h
  · rename_i fs hu
    obtain rfl := Option.some.inj h
    refine ⟨fs, hu, by simp, fun i t o hi => ?_⟩
    rw [List.getElem?_map] at hi
    cases hf : fs.toList[i]? with
    | none => rw [hf] at hi; cases hi
    | some f =>
      rw [hf] at hi
      simp at hi
      exact ⟨f, by simpa using hf, hi.1, hi.2⟩
  · cases h
end
end Go.En
namespace Go.Proofs.YtlebmedapfncoaaGreat
open Go.En
theorem uq : jJ Tryz.prog 22 1024 = true := by kernel_rfl
theorem by3 : jJ Tryz.prog 3 1024 = true := by kernel_rfl
theorem bY : jJ Tryz.prog 33 1024 = true := by kernel_rfl
theorem ff : jJ Tryz.prog 50 1024 = true := by kernel_rfl
theorem by55 : jJ Tryz.prog 55 1024 = true := by kernel_rfl
theorem vk : IsExt Tryz.prog 96 add64Entry := ⟨⟨Tryz.f96, Tryz.func96, by kernel_rfl, by kernel_rfl, by kernel_rfl, by kernel_rfl⟩⟩
theorem ct : IsExt Tryz.prog 97 zDB := ⟨⟨Tryz.f97, Tryz.func97, by kernel_rfl, by kernel_rfl, by kernel_rfl, by kernel_rfl⟩⟩
theorem zZ : wb Tryz.prog 24 0 = some (0, 3) := by kernel_rfl
theorem zo : wb Tryz.prog 24 1 = some (1, 3) := by kernel_rfl
theorem qX : wb Tryz.prog 24 2 = some (2, 22) := by kernel_rfl
theorem xJ : wb Tryz.prog 33 0 = some (0, 4) := by kernel_rfl
theorem qa : wb Tryz.prog 33 1 = some (1, 31) := by kernel_rfl
theorem xI : wb Tryz.prog 73 0 = some (0, 71) := by kernel_rfl
theorem vH : wb Tryz.prog 73 2 = some (2, 3) := by kernel_rfl
theorem jr : wb Tryz.prog 87 0 = some (0, 3) := by kernel_rfl
theorem qw : wb Tryz.prog 87 1 = some (1, 22) := by kernel_rfl
theorem qW : wb Tryz.prog 87 2 = some (2, 71) := by kernel_rfl
theorem xX : wb Tryz.prog 87 3 = some (3, 71) := by kernel_rfl
theorem kD : wb Tryz.prog 87 4 = some (4, 33) := by kernel_rfl
theorem kC : wb Tryz.prog 87 5 = some (6, 33) := by kernel_rfl
theorem eB : wb Tryz.prog 87 6 = some (8, 3) := by kernel_rfl
theorem zHX : fsB Tryz.prog 24 = some [(3, 0), (3, 1), (22, 2)] := by kernel_rfl
theorem zHW : fsB Tryz.prog 33 = some [(4, 0), (31, 1)] := by kernel_rfl
theorem zY : Tryz.prog.follows .mixedOrders = true := by kernel_rfl
theorem eo : plB Tryz.prog 24 = some [(0, 1), (1, 1), (2, 1)] := by kernel_rfl
theorem tC : plB Tryz.prog 33 = some [(0, 1), (1, 1)] := by kernel_rfl
theorem zHO : plB Tryz.prog 73 = some [(0, 1), (1, 1), (2, 1)] := by kernel_rfl
theorem zGM : plB Tryz.prog 87 = some [(0, 1), (1, 1), (2, 1), (3, 1), (4, 2), (6, 2), (8, 1)] := by kernel_rfl
theorem zp : slB Tryz.prog 22 = some 33 := by kernel_rfl
theorem ze : slB Tryz.prog 31 = some 50 := by kernel_rfl
theorem wm : slB Tryz.prog 55 = some 3 := by kernel_rfl
theorem zDH : slB Tryz.prog 57 = some 2 := by kernel_rfl
theorem qd : slB Tryz.prog 71 = some 22 := by kernel_rfl
theorem mj : slB Tryz.prog 94 = some 55 := by kernel_rfl
theorem ty2 : tyB Tryz.prog 2 = some (1, false) := by kernel_rfl
theorem zN : tyB Tryz.prog 22 = some (1, false) := by kernel_rfl
theorem zO : tyB Tryz.prog 24 = some (3, true) := by kernel_rfl
theorem ty3 : tyB Tryz.prog 3 = some (1, false) := by kernel_rfl
theorem xA : tyB Tryz.prog 31 = some (1, false) := by kernel_rfl
theorem zE : tyB Tryz.prog 33 = some (2, true) := by kernel_rfl
theorem ty4 : tyB Tryz.prog 4 = some (1, false) := by kernel_rfl
theorem zi : tyB Tryz.prog 50 = some (1, false) := by kernel_rfl
theorem me : tyB Tryz.prog 55 = some (1, false) := by kernel_rfl
theorem zGA : tyB Tryz.prog 57 = some (1, false) := by kernel_rfl
theorem zk : tyB Tryz.prog 71 = some (1, false) := by kernel_rfl
theorem sI : Tryz.prog.underlying 103 = some (.int .u64) := by kernel_rfl
theorem un2 : Tryz.prog.underlying 2 = some (.int .i64) := by kernel_rfl
theorem zHJ : Tryz.prog.underlying 22 = some (.slice 33) := by kernel_rfl
theorem un3 : Tryz.prog.underlying 3 = some (.int .i64) := by kernel_rfl
theorem zHI : Tryz.prog.underlying 31 = some (.slice 50) := by kernel_rfl
theorem un4 : Tryz.prog.underlying 4 = some .bool := by kernel_rfl
theorem un5 : Tryz.prog.underlying 5 = some (.int .u8) := by kernel_rfl
theorem yQ : Tryz.prog.underlying 50 = some (.int .u64) := by kernel_rfl
theorem un9 : Tryz.prog.underlying 9 = some .string := by kernel_rfl
theorem zFV : qm Tryz.prog 2 = some (.int .i64 0) := by kernel_rfl
theorem jx : qm Tryz.prog 22 = some (.slice none 0 0) := by kernel_rfl
theorem zf : qm Tryz.prog 24 = some (.agg #[.int .i64 0, .int .i64 0, .slice none 0 0]) := by kernel_rfl
theorem cx : qm Tryz.prog 3 = some (.int .i64 0) := by kernel_rfl
theorem zJ : qm Tryz.prog 33 = some (.agg #[.bool false, .slice none 0 0]) := by kernel_rfl
theorem vx : qm Tryz.prog 50 = some (.int .u64 0) := by kernel_rfl
theorem mZ : qm Tryz.prog 55 = some (.slice none 0 0) := by kernel_rfl
theorem zCT : qm Tryz.prog 73 = some (.agg #[.slice none 0 0, .int .i64 0, .int .i64 0]) := by kernel_rfl
theorem rv : qm Tryz.prog 87 = some (.agg #[.int .i64 0, .slice none 0 0, .slice none 0 0, .slice none 0 0, .bool false, .slice none 0 0, .bool false, .slice none 0 0, .int .i64 0]) := by kernel_rfl
end Go.Proofs.YtlebmedapfncoaaGreat
namespace Go.Proofs.YtlebmedapfncoaaGreat
open Go.En Go.RowKit
set_option maxRecDepth 10000
set_option maxHeartbeats 4000000
open Go.Nt
theorem bZ {x y : Nat} : Ctr Tryz.prog 121 [isU x, isU y] (zW [isU (x * y / 18446744073709551616), isU (x * y % 18446744073709551616)]) := by
 refine Ctr.i Tryz.func121 rfl Tryz.ntmps121 fun w0 F0 => .w [0,1] rfl (.fact (Has.ltU (Has.t (t := 0) rfl)) fun lt0 => .fact (Has.ltU (Has.t (t := 1) rfl)) fun lt1 => ?_)
 have hf := lJ lt0 lt1
 have hx1 : x / 2 ^ 32 < 4294967296 := by omega
 have hy1 : y / 2 ^ 32 < 4294967296 := by omega
 refine .sr fun k1 => st (.as (.cU 0 rfl)) rfl (st (.as (.cU 0 rfl)) rfl (nkQ k1 (.sr fun k2 => stM rfl (st (.eq (.andU (.t rfl) (.cU 4294967295 rfl)) (zU (Nat.and_two_pow_sub_one_eq_mod _ 32))) rfl (stM rfl (nkQ k2 (.sr fun k3 => stM rfl (st (.shrUU (.t rfl) (.cU 32 rfl) (by omega)) rfl (stM rfl (nkQ k3 (.sr fun k4 => stM rfl (st (.eq (.andU (.t rfl) (.cU 4294967295 rfl)) (zU (Nat.and_two_pow_sub_one_eq_mod _ 32))) rfl (stM rfl (nkQ k4 (.w [0,1,4,5,6,7,8] rfl (.sr fun k5 => stM rfl (st (.shrUU (.t rfl) (.cU 32 rfl) (by omega)) rfl (stM rfl (nkQ k5 (.sr fun k6 => stM rfl (stM rfl (st (.mulU' (.t rfl) (.t rfl) (by omega)) rfl (stM rfl (nkQ k6 (.w [0,1,4,5,6,7,8,9,10] rfl ?_)))))))))))))))))))))))))
 refine .sr fun k7 => stM rfl (stM rfl (st (.mulU' (.t rfl) (.t rfl) (by omega)) rfl (stM rfl (st (.shrUU (.t rfl) (.cU 32 rfl) (by omega)) rfl (st (.addU' (.t rfl) (.t rfl) (by omega)) rfl (stM rfl (nkQ k7 (.w [0,1,4,5,6,7,9,11] rfl (.sr fun k8 => stM rfl (st (.eq (.andU (.t rfl) (.cU 4294967295 rfl)) (zU (Nat.and_two_pow_sub_one_eq_mod _ 32))) rfl (stM rfl (nkQ k8 (.sr fun k9 => stM rfl (st (.shrUU (.t rfl) (.cU 32 rfl) (by omega)) rfl (stM rfl (nkQ k9 (.w [0,1,4,5,6,7,9,12,13] rfl (.sr fun k10 => stM rfl (stM rfl (stM rfl (st (.mulU' (.t rfl) (.t rfl) (by omega)) rfl (st (.addU' (.t rfl) (.t rfl) (by omega)) rfl (stM rfl (nkQ k10 (.w [0,1,4,5,7,9,12,13] rfl (.sr fun k11 => stM rfl (stM rfl (st (.mulU' (.t rfl) (.t rfl) (by omega)) rfl ?_))))))))))))))))))))))))))))
 refine stM rfl (st (.addU' (.t rfl) (.t rfl) (by omega)) rfl (stM rfl (st (.shrUU (.t rfl) (.cU 32 rfl) (by omega)) rfl (st (.addU' (.t rfl) (.t rfl) (by omega)) rfl (stM rfl (nkQ k11 (.w [0,1,4,5] rfl (.sr fun k12 => stM rfl (stM rfl (st (.mulU (.t rfl) (.t rfl)) rfl (stM rfl (nkQ k12 (.w [4,5] rfl (.ret (rtN (.inl rfl) Tryz.results121 rfl rfl (.tmp (Has.t' rfl ?_) (.tmp (Has.t' rfl ?_) .nil)))))))))))))))))
 ·exact zU (tP x y)
 ·rfl
theorem ro {xs : List Nat} (hx : xs.length ≤ 4294967296) : Ctr Tryz.prog 65 [zD xs] (zD xs) := by
 refine Ctr.i Tryz.func65 rfl Tryz.ntmps65 fun w0 F0 => .w [0] rfl (.fact (Has.lenLt (Has.t (t := 0) rfl)) fun lt0 => .fact (Has.okW (Has.t (t := 0) rfl)) fun ok0 => .sr fun k1 => st (.as (.cW (f := isU))) rfl (nkQ k1 (.sq fun k2 => .sr fun k3 => stM rfl (.eqNil ze (.t rfl) rfl fun bn1 hn1 => nkQ k3 (.cd rfl (fun hc2 => ?_) (fun hc2 => ?_))))))
 ·refine .sr fun k4 => st (.as (.cW (f := isU))) rfl (nkQ k4 (.ret (.thr (rt1 (.inl rfl) Tryz.results65 rfl (.tmp (Has.t' rfl ?_) .nil)))))
  all_goals (rw [hn1 hc2])
 ·refine .skip (.nk k2 (.sr fun k5 => .buildS0 ze zi rfl (stM rfl (st (.appendZM ze zi vx ff (.t rfl) (.t rfl) (by omega)) rfl (stM rfl (nkQ k5 (.w [2] rfl (.ret (rt1 (.inl rfl) Tryz.results65 rfl (.tmp (Has.t' rfl ?_) .nil))))))))))
  all_goals (rfl)
theorem xH {xs : List Nat} : Ctr Tryz.prog 61 [zD xs] (zD (zA (val xs))) := by
 refine Ctr.i Tryz.func61 rfl Tryz.ntmps61 fun w0 F0 => .w [0] rfl (.fact (Has.lenLt (Has.t (t := 0) rfl)) fun lt0 => .fact (Has.okW (Has.t (t := 0) rfl)) fun ok0 => .sr fun k1 => st (.as (.cW (f := isU))) rfl (nkQ k1 (.sr fun k2 => stM rfl (st (.len ze (.t rfl)) rfl (stM rfl (nkQ k2 (.sq fun k3 => .block (.loopF [0,2] (fun (z : { k : Nat // k ≤ xs.length ∧ ∀ i, k ≤ i → xs.getD i 0 = 0 }) => match z with | ⟨k, hI⟩ => [(3, isI (k : Int))]) (fun M => fun (z : { k : Nat // k ≤ xs.length ∧ ∀ i, k ≤ i → xs.getD i 0 = 0 }) => match z with | ⟨k, hI⟩ => M) (fun (z : { k : Nat // k ≤ xs.length ∧ ∀ i, k ≤ i → xs.getD i 0 = 0 }) => match z with | ⟨k, hI⟩ => k) (⟨xs.length, Nat.le_refl _, fun i hi => by simp [List.getD, List.getElem?_eq_none hi]⟩) (Cv.mem (.c 3 rfl ?_ (.l [0,2] rfl)) ?_) ?_))))))))
 ·rfl
 ·rfl
 rintro ⟨k, hk, hz⟩ K4 hK4
 refine .w [3,0,2] rfl ?_
 have ek : ((k : Int) - 1).toNat = k - 1 := by omega
 refine .sq fun k5 => .sr fun k6 => stM rfl (st (.gtI (.t rfl) (.cI 0 rfl)) rfl (stM rfl (stT rfl rfl (fun hg => .mv (.t rfl)) rfl (stT rfl rfl (fun hg => .mv (.t rfl)) rfl ?_))))
 refine stT rfl rfl (fun hg => have hg' := BP.t hg; OK1.subI (Has.g rfl hg) (.cI 1 rfl) (by omega) (by omega)) rfl ?_
 refine stT rfl rfl (fun hg => have hg' := BP.t hg; OK1.ixP ze zi (Has.g rfl hg) (Has.g rfl hg) (by omega) (getD_some (d := 0) (by omega))) rfl ?_
 refine stT rfl rfl (fun hg => .loadP1 (Has.g rfl hg) zi) rfl (stT rfl rfl (fun hg => .eqU (Has.g rfl hg) (.cU 0 rfl)) rfl (st (.pickAnd (.t rfl) (fun h => Has.g rfl h)) rfl (nkQ k6 (.cd rfl (fun hc1 => ?_) (fun hc1 => ?_)))))
 ·refine .skip (.nk k5 (.block (.region (stM rfl (st (.subI (.t rfl) (.cI 1 rfl) (by omega) (by omega)) rfl (stM rfl (nl (.bln (.thn ?_)))))))))
  refine hK4 (⟨k - 1, by omega, fun i hi => by rcases Nat.lt_or_ge i k with h | h; (have e : i = k - 1 := by omega); (rw [e, ← ek]; exact hc1.2); exact hz i h⟩) _ _ ?_ (Cv.mem (.c 3 rfl ?_ (.l [0,2] rfl)) ?_)
  ·show k - 1 < k; omega
  ·exact zG (by omega)
  ·rfl
 ·refine .exit (.the (.the (.blh (.nk k3 (.w [0,2,3] rfl (.sr fun k7 => stM rfl (stM rfl (st (.slHM ze zi (.t rfl) (.t rfl) (by omega)) rfl (stM rfl (nkQ k7 (.w [2] rfl (.ret (rt1 (.inl rfl) Tryz.results61 rfl (.tmp (Has.t' rfl ?_) .nil))))))))))))))
  all_goals (exact qH (fq ok0 hk hz (by rcases hc1 with h | h; left; omega; right; rwa [ek] at h)))
theorem vL {xs : List Nat} : Ctr Tryz.prog 64 [zD xs] (zD (zA (val xs))) := by
 refine Ctr.i Tryz.func64 rfl Tryz.ntmps64 fun w0 F0 => .w [0] rfl (.fact (Has.lenLt (Has.t (t := 0) rfl)) fun lt0 => .fact (Has.okW (Has.t (t := 0) rfl)) fun ok0 => .sr fun k1 => st (.as (.cW (f := isU))) rfl (nkQ k1 (.sr fun k2 => stM rfl (st (.call (xH) (.cons (.t rfl) .nil)) rfl (stM rfl (nkQ k2 (.sq fun k3 => .sr fun k4 => stM rfl (st (.len ze (.t rfl)) rfl (st (.eqI (.t rfl) (.cI 0 rfl)) rfl (nkQ k4 (.cd rfl (fun hc1 => ?_) (fun hc1 => ?_))))))))))))
 ·refine .sr fun k5 => st (.as (.cW (f := isU))) rfl (nkQ k5 (.w [0,2] rfl (.ret (.thr (rt1 (.inl rfl) Tryz.results64 rfl (.tmp (Has.t' rfl ?_) .nil))))))
  all_goals (exact qH (List.eq_nil_of_length_eq_zero (by omega)).symm)
 ·refine .skip (.nk k3 (.w [0,2] rfl (.sr fun k6 => stM rfl (stM rfl (nkQ k6 (.ret (rt1 (.inl rfl) Tryz.results64 rfl (.tmp (Has.t' rfl ?_) .nil))))))))
  all_goals (rfl)
theorem nD {x : Nat} : Ctr Tryz.prog 23 [isU x] (zD (zA x)) := by
 refine Ctr.i Tryz.func23 rfl Tryz.ntmps23 fun w0 F0 => .w [0] rfl (.fact (Has.ltU (Has.t (t := 0) rfl)) fun lt0 => .sr fun k1 => st (.as (.cW (f := isU))) rfl (nkQ k1 (.sq fun k2 => .sr fun k3 => stM rfl (st (.eqU (.t rfl) (.cU 0 rfl)) rfl (nkQ k3 (.cd rfl (fun hc1 => ?_) (fun hc1 => ?_)))))))
 ·refine .sr fun k4 => st (.as (.cW (f := isU))) rfl (nkQ k4 (.ret (.thr (rt1 (.inl rfl) Tryz.results23 rfl (.tmp (Has.t' rfl ?_) .nil)))))
  all_goals (exact qH (by rw [hc1, zH]))
 ·refine .skip (.nk k2 (.sr fun k5 => stM rfl (st (.buildS [isU 0] ze zi vx (fun _ _ => ⟨⟨rfl, by decide⟩, trivial⟩) rfl rfl (.cons (.t rfl) rfl rfl rfl .nil) rfl (S := zD [_]) rfl) rfl (stM rfl (nkQ k5 (.w [2] rfl (.ret (rt1 (.inl rfl) Tryz.results23 rfl (.tmp (Has.t' rfl ?_) .nil)))))))))
  all_goals (exact qH (by rw [cy lt0, if_neg (by omega)]))
theorem vt {xs : List Nat} (hx : (List.length (zA (val xs))) ≤ 4294967296) : Ctr Tryz.prog 42 [zD xs] (zD (zA (val xs))) := by
 refine Ctr.i Tryz.func42 rfl Tryz.ntmps42 fun w0 F0 => .w [0] rfl (.fact (Has.lenLt (Has.t (t := 0) rfl)) fun lt0 => .fact (Has.okW (Has.t (t := 0) rfl)) fun ok0 => .sr fun k1 => st (.as (.cW (f := isU))) rfl (nkQ k1 (.sr fun k2 => stM rfl (st (.call (xH) (.cons (.t rfl) .nil)) rfl (st (.call (ro (by omega)) (.cons (.t rfl) .nil)) rfl (st (.call (vL) (.cons (.t rfl) .nil)) rfl (stM rfl (nkQ k2 (.w [2] rfl (.ret (rt1 (.inl rfl) Tryz.results42 rfl (.tmp (Has.t' rfl ?_) .nil))))))))))))
 all_goals (rw [zB])
theorem df {xs ys : List Nat} : Ctr Tryz.prog 87 [zD xs, zD ys] (isI (aC (val xs) (val ys))) := by
 refine Ctr.i Tryz.func87 rfl Tryz.ntmps87 fun w0 F0 => .w [0,1] rfl (.fact (Has.lenLt (Has.t (t := 0) rfl)) fun lt0 => .fact (Has.okW (Has.t (t := 0) rfl)) fun ok0 => .fact (Has.lenLt (Has.t (t := 1) rfl)) fun lt1 => .fact (Has.okW (Has.t (t := 1) rfl)) fun ok1 => ?_)
 have n0 : (zA (val xs)).length ≤ xs.length := cg ok0
 have n1 : (zA (val ys)).length ≤ ys.length := cg ok1
 refine .sr fun k1 => st (.as (.cI 0 rfl)) rfl (nkQ k1 (.sr fun k2 => stM rfl (st (.call (xH) (.cons (.t rfl) .nil)) rfl (stM rfl (st (.call (xH) (.cons (.t rfl) .nil)) rfl (stM rfl (stM rfl (nkQ k2 (.sq fun k3 => .sr fun k4 => stM rfl (st (.len ze (.t rfl)) rfl (stM rfl (st (.len ze (.t rfl)) rfl (st (.neI (.t rfl) (.t rfl)) rfl (nkQ k4 (.w [0,1,4,14] rfl (.cd rfl (fun hc1 => ?_) (fun hc1 => ?_)))))))))))))))))
 ·refine .sq fun k5 => .sr fun k6 => stM rfl (st (.len ze (.t rfl)) rfl (stM rfl (st (.len ze (.t rfl)) rfl (st (.ltI (.t rfl) (.t rfl)) rfl (nkQ k6 (.w [0,1,4,19] rfl (.cd rfl (fun hc2 => ?_) (fun hc2 => ?_))))))))
  ·refine .sr fun k7 => st (.as (.cI (-1) rfl)) rfl (nkQ k7 (.ret (.thr (.thr (rt1 (.inl rfl) Tryz.results87 rfl (.tmp (Has.t' rfl ?_) .nil))))))
   all_goals (exact zG (nh (show (zA _).length < (zA _).length by omega)))
  ·refine .skip (.nk k5 (.sr fun k8 => st (.as (.cI 1 rfl)) rfl (nkQ k8 (.ret (.thr (rt1 (.inl rfl) Tryz.results87 rfl (.tmp (Has.t' rfl ?_) .nil)))))))
   all_goals (exact zG (ni (show (zA _).length < (zA _).length by omega)))
 ·refine .skip (.nk k3 (.sq fun k9 => .sr fun k10 => stM rfl (st (.len ze (.t rfl)) rfl (st (.subI (.t rfl) (.cI 1 rfl) (by omega) (by omega)) rfl (stM rfl (nkQ k10 (.block (.loopF [0,1] (fun (z : { k : Nat // k ≤ (zA (val xs)).length ∧ val xs / W ^ k = val ys / W ^ k }) => match z with | ⟨k, hI⟩ => [(5, isI ((k : Int) - 1))]) (fun M => fun (z : { k : Nat // k ≤ (zA (val xs)).length ∧ val xs / W ^ k = val ys / W ^ k }) => match z with | ⟨k, hI⟩ => M) (fun (z : { k : Nat // k ≤ (zA (val xs)).length ∧ val xs / W ^ k = val ys / W ^ k }) => match z with | ⟨k, hI⟩ => k) (⟨(zA (val xs)).length, Nat.le_refl _, rn (show (zA _).length = (zA _).length by omega)⟩) (Cv.mem (.c 5 rfl ?_ (.l [0,1] rfl)) ?_) ?_))))))))
  ·rfl
  ·rfl
  rintro ⟨k, hk, he⟩ K11 hK11
  refine .w [5,0,1] rfl ?_
  have ek : ((k : Int) - 1).toNat = k - 1 := by omega
  refine .sq fun k12 => .sr fun k13 => stM rfl (st (.geI (.t rfl) (.cI 0 rfl)) rfl (nkQ k13 (.cd rfl (fun hc3 => ?_) (fun hc3 => ?_))))
  ·refine .skip (.nk k12 (.sq fun k14 => .block (.block (.sq fun k15 => .dr (.m [] rfl (.m [] rfl (.so [28,29] rfl (.ixP ze zi (.t rfl) (.t rfl) (by omega) (getD_some (d := 0) (by omega))) (.so [30] rfl (.loadP1 (.t rfl) zi) (.m [] rfl (.m [] rfl (.so [32,33] rfl (.ixP ze zi (.t rfl) (.t rfl) (by omega) (getD_some (d := 0) (by omega))) (.so [34] rfl (.loadP1 (.t rfl) zi) (.fn (n := 8) zY (.w [0,1,5,23,24,28,29,30,31,32,33,34,35] rfl (st (.ltU (.t rfl) (.t rfl)) rfl (stM rfl (nkQ k15 (.cd rfl (fun hc4 => ?_) (fun hc4 => ?_)))))))))))))))))))
   ·refine .sr fun k16 => st (.as (.cI (-1) rfl)) rfl (nkQ k16 (.ret (.blr (.blr (.thr (.thr (.blr (.thr (rt1 (.inl rfl) Tryz.results87 rfl (.tmp (Has.t' rfl ?_) .nil))))))))))
    all_goals (rw [ek] at hc4; exact zG (zFL (by omega) he hc4))
   ·refine .sq fun k17 => .dr (.m [] rfl (.m [] rfl (.so [38,39] rfl (.ixP ze zi (.t rfl) (.t rfl) (by omega) (getD_some (d := 0) (by omega))) (.so [40] rfl (.loadP1 (.t rfl) zi) (.m [] rfl (.m [] rfl (.so [42,43] rfl (.ixP ze zi (.t rfl) (.t rfl) (by omega) (getD_some (d := 0) (by omega))) (.so [44] rfl (.loadP1 (.t rfl) zi) (.fn (n := 8) zY (.w [0,1,5,23,24,28,29,30,31,32,33,34,35,36,27,38,39,40,41,42,43,44,45] rfl (st (.gtU (.t rfl) (.t rfl)) rfl (stM rfl (nkQ k17 (.cd rfl (fun hc5 => ?_) (fun hc5 => ?_)))))))))))))))
    ·refine .sr fun k18 => st (.as (.cI 1 rfl)) rfl (nkQ k18 (.ret (.blr (.blr (.thr (.thr (.blr (.thr (rt1 (.inl rfl) Tryz.results87 rfl (.tmp (Has.t' rfl ?_) .nil))))))))))
     all_goals (rw [ek] at hc5; exact zG (zFM (by omega) he hc5))
    ·refine .skip (.bln (.bln (.nk k14 (.region (stM rfl (st (.subI (.t rfl) (.cI 1 rfl) (by omega) (by omega)) rfl (stM rfl (nl (.thn (hK11 (⟨k - 1, by omega, uc (by omega) he (by rw [ek] at hc4 hc5; omega)⟩) _ _ ?_ (Cv.mem (.c 5 rfl ?_ (.l [0,1] rfl)) ?_)))))))))))
     ·show k - 1 < k; omega
     ·exact zG (by show _ = ((k - 1 : Nat) : Int) - 1; omega)
     ·rfl
  ·refine .exit (.the (.the (.blh (.nk k9 (.cv (Cv.wk .nil) (.sr fun k19 => st (.as (.cI 0 rfl)) rfl (nkQ k19 (.ret (rt1 (.inl rfl) Tryz.results87 rfl (.tmp (Has.t' rfl ?_) .nil))))))))))
   all_goals (exact zG (zFN he (by omega)))
theorem cE {xs ys : List Nat} (hx : (List.length (zA (val xs))) < 4294967296) (hy : (List.length (zA (val ys))) < 4294967296) : Ctr Tryz.prog 82 [zD xs, zD ys] (zD (zA (val xs + val ys))) := by
 refine Ctr.i Tryz.func82 rfl Tryz.ntmps82 fun w0 F0 => .w [0,1] rfl (.fact (Has.lenLt (Has.t (t := 0) rfl)) fun lt0 => .fact (Has.okW (Has.t (t := 0) rfl)) fun ok0 => .fact (Has.lenLt (Has.t (t := 1) rfl)) fun lt1 => .fact (Has.okW (Has.t (t := 1) rfl)) fun ok1 => .sr fun k1 => st (.as (.cW (f := isU))) rfl (nkQ k1 (.sr fun k2 => stM rfl (st (.call (xH) (.cons (.t rfl) .nil)) rfl (stM rfl (st (.call (xH) (.cons (.t rfl) .nil)) rfl (stM rfl (stM rfl (nkQ k2 (.cutF [4] (fun (z : { z : Nat × Nat // z.1 + z.2 = val xs + val ys ∧ (List.length (zA z.2)) ≤ (List.length (zA z.1)) ∧ (List.length (zA z.1)) < 4294967296 }) => match z with | ⟨(p, q), hI⟩ => [(0, zD (zA p)), (1, zD (zA q))]) (fun M => fun (z : { z : Nat × Nat // z.1 + z.2 = val xs + val ys ∧ (List.length (zA z.2)) ≤ (List.length (zA z.1)) ∧ (List.length (zA z.1)) < 4294967296 }) => match z with | ⟨(p, q), hI⟩ => M) (fun K3 hK3 => ?_) ?_))))))))))
 ·refine .sr fun k4 => stM rfl (st (.len ze (.t rfl)) rfl (stM rfl (st (.len ze (.t rfl)) rfl (st (.ltI (.t rfl) (.t rfl)) rfl (nkQ k4 (.w [0,1,4,17] rfl (.cd rfl (fun hc1 => ?_) (fun hc1 => ?_))))))))
  ·refine .region (stM rfl (stM rfl (stM rfl (stM rfl (nl (.thn ?_))))))
   refine hK3 (⟨(val ys, val xs), Nat.add_comm _ _, by simp only []; omega, hy⟩) _ _ (Cv.mem (.c 0 rfl ?_ (.c 1 rfl ?_ (.l [4] rfl))) ?_)
   ·rfl
   ·rfl
   ·rfl
  ·refine .skip (.thn ?_)
   refine hK3 (⟨(val xs, val ys), rfl, by simp only []; omega, hx⟩) _ _ (Cv.mem (.c 0 rfl ?_ (.c 1 rfl ?_ (.l [4] rfl))) ?_)
   ·rfl
   ·rfl
   ·rfl
 rintro ⟨⟨p, q⟩, hI1, hI2, hI3⟩
 refine .w [0,1,4] rfl ?_
 simp only [] at hI1 hI2 hI3
 refine .sr fun k5 => stM rfl (st (.len ze (.t rfl)) rfl (st (.addI (.t rfl) (.cI 1 rfl) (by omega) (by omega)) rfl (.make (f := isU) (u := 0) (n := (List.length (zA p)) + 1) (c := (List.length (zA p)) + 1) ze zi vx (fun _ _ => ⟨⟨rfl, by decide⟩, trivial⟩) ff (Has.t' rfl rfl) (Has.t' rfl rfl) (by omega) rfl fun b1 => stM rfl (nkQ k5 (.sr fun k6 => st (.as (.cU 0 rfl)) rfl (nkQ k6 (.sq fun k7 => .sr fun k8 => stM rfl (st (.len ze (.t rfl)) rfl (st (.mv (.cI 0 rfl)) rfl (nkQ k8 (.w [4,0,1,5,6,25,26] rfl (.block (.loopF [4,0,1,5,25] (fun (z : { i : Nat // i ≤ (List.length (zA p)) }) => match z with | ⟨i, hI⟩ => [(26, isI (i : Int)), (6, isU (car p q i))]) (fun M => fun (z : { i : Nat // i ≤ (List.length (zA p)) }) => match z with | ⟨i, hI⟩ => [(some b1, zC (List.map isU (xG (p + q) i ((List.length (zA p)) + 1))))]) (fun (z : { i : Nat // i ≤ (List.length (zA p)) }) => match z with | ⟨i, hI⟩ => (List.length (zA p)) - i) (⟨0, Nat.zero_le _⟩) (Cv.mem (.c 26 rfl ?_ (.c 6 rfl ?_ (.l [4,0,1,5,25] rfl))) ?_) ?_)))))))))))))
 ·rfl
 ·exact zU (mJ _ _)
 ·exact qo (bT _ _)
 rintro ⟨i, hI⟩ K9 hK9
 refine .w [26,6,4,0,1,5,25] rfl (.memEq (M' := [(some b1, zC (List.map isU (xG (p + q) i ((List.length (zA p)) + 1))))]) rfl ?_)
 have wl : (xG (p + q) i ((List.length (zA p)) + 1)).length = (List.length (zA p)) + 1 := ai (by omega)
 refine .sr fun k10 => st (.ltI (.t rfl) (.t rfl)) rfl (nkQ k10 (.sq fun k11 => .cd rfl (fun hc2 => ?_) (fun hc2 => ?_)))
 ·refine .skip (.nk k11 (.sq fun k12 => .block (.sr fun k13 => stM rfl (stM rfl (nkQ k13 (.sr fun k14 => st (.as (.cU 0 rfl)) rfl (nkQ k14 (.cutF [4,0,1,5,25,26,6,27,28,7] (fun (_ : Unit) => [(8, isU (dig q i))]) (fun M => fun (_ : Unit) => M) (fun K15 hK15 => ?_) ?_))))))))
  ·refine .sr fun k16 => stM rfl (stM rfl (st (.len ze (.t rfl)) rfl (st (.ltI (.t rfl) (.t rfl)) rfl (nkQ k16 (.cd rfl (fun hc3 => ?_) (fun hc3 => ?_))))))
   ·refine .region (stM rfl (stM rfl (st (.ixP ze zi (.t rfl) (.t rfl) (by omega) (getD_some (d := 0) (by omega))) rfl (st (.loadP1 (.t rfl) zi) rfl (stM rfl (nl (.thn (hK15 (()) _ _ (Cv.mem (.c 8 rfl ?_ (.l [4,0,1,5,25,26,6,27,28,7] rfl)) ?_)))))))))
    ·first | exact zU (qC _ _) | exact zU (wg (by omega)).symm
    ·rfl
   ·refine .skip (.thn (hK15 (()) _ _ (Cv.mem (.c 8 rfl ?_ (.l [4,0,1,5,25,26,6,27,28,7] rfl)) ?_)))
    ·first | exact zU (qC _ _) | exact zU (wg (by omega)).symm
    ·rfl
  rintro _
  refine .w [8,4,0,1,5,25,26,6,27,28,7] rfl (.region (stM rfl (stM rfl (stM rfl (stM rfl (st (.ixP ze zi (.t rfl) (.t rfl) (by omega) (getD_some (d := 0) (by omega))) rfl (st (.eq (.loadP1 (.t rfl) zi) (zU (qC _ i))) rfl (stM rfl (stM rfl (st (.add64 vk (.t rfl) (.t rfl) (.t rfl) (by exact nn _ _ _) ⟨(by exact qr _ _), (by exact qr _ _)⟩) rfl (stM rfl (st (.ext (.t rfl) rfl) rfl (st (.ext (.t rfl) rfl) rfl (st (.eq (.ixWin ze zi (.t rfl) (.t rfl) (by omega)) (qB (by exact wX))) rfl (.storeM (.t rfl) (.t rfl) (i := 0) rfl zi (by omega) (M' := [(_, _)]) rfl (stM rfl (nl (.bln (.nk k12 (.region (st (.addI (.t rfl) (.cI 1 rfl) (by omega) (by omega)) rfl (stM rfl (nl (.thn (hK9 (⟨i + 1, by omega⟩) _ _ ?_ (Cv.mem (.c 26 rfl ?_ (.c 6 rfl ?_ (.l [4,0,1,5,25] rfl))) ?_))))))))))))))))))))))))))
  ·show (List.length (zA p)) - (i + 1) < (List.length (zA p)) - i; omega
  ·rfl
  ·exact zU (pX _ _ _)
  ·exact qo (wL (by omega) (kT _ _ _))
 ·refine .exit (.the (.the (.blh (.nk k7 (.sr fun k17 => stM rfl (stM rfl (st (.len ze (.t rfl)) rfl (stM rfl (st (.eq (.ixWin ze zi (.t rfl) (.t rfl) (by omega)) (qB (by exact wX))) rfl (.storeM (.t rfl) (.t rfl) (i := 0) rfl zi (by omega) (M' := [(_, _)]) rfl (nkQ k17 (.w [4,5] rfl (.sq fun k18 => .cv (Cv.freeze' (t := 5) (i := 0) (ys := zQ ((List.length (zA p)) + 1) (p + q)) rfl rfl rfl (by simp; omega) (uI (by omega) (by omega) (zBZ (vR (by omega)) (vR (by omega))))) ?_)))))))))))))
  refine .memEq (M' := []) rfl (.w [4,5] rfl (.region (stM rfl (st (.call (vL) (.cons (.t rfl) .nil)) rfl (stM rfl (nkQ k18 (.ret (rt1 (.inl rfl) Tryz.results82 rfl (.tmp (Has.t' rfl ?_) .nil)))))))))
  all_goals (exact qH (by rw [qj (uy (qy p) (vR hI2)), hI1]))
theorem ie {xs ys : List Nat} (hx : (List.length (zA (val xs))) < 4294967296) : Ctr Tryz.prog 83 [zD xs, zD ys] (zW [zD (zA (val xs - val ys)), isB (decide (val ys ≤ val xs))]) := by
 refine Ctr.i Tryz.func83 rfl Tryz.ntmps83 fun w0 F0 => .w [0,1] rfl (.fact (Has.lenLt (Has.t (t := 0) rfl)) fun lt0 => .fact (Has.okW (Has.t (t := 0) rfl)) fun ok0 => .fact (Has.lenLt (Has.t (t := 1) rfl)) fun lt1 => .fact (Has.okW (Has.t (t := 1) rfl)) fun ok1 => .sr fun k1 => st (.as (.cW (f := isU))) rfl (st (.as (.cB false)) rfl (nkQ k1 (.sq fun k2 => .sr fun k3 => stM rfl (stM rfl (st (.call (df) (.cons (.t rfl) (.cons (.t rfl) .nil))) rfl (st (.ltI (.t rfl) (.cI 0 rfl)) rfl (nkQ k3 (.cd rfl (fun hc1 => ?_) (fun hc1 => ?_))))))))))
 ·have hlt := cS.1 hc1
  refine .sr fun k4 => st (.as (.cW (f := isU))) rfl (st (.as (.cB false)) rfl (nkQ k4 (.ret (.thr (rtN (.inl rfl) Tryz.results83 rfl rfl (.tmp (Has.t' rfl ?_) (.tmp (Has.t' rfl ?_) .nil)))))))
  ·exact qH (by rw [Nat.sub_eq_zero_of_le (Nat.le_of_lt hlt), zH])
  ·exact zg (by simp; omega)
 ·have hle : val ys ≤ val xs := Nat.le_of_not_lt (fun h => by have := cS.2 h; omega)
  have hnw := qI hle
  refine .skip (.nk k2 (.sr fun k5 => stM rfl (st (.call (xH) (.cons (.t rfl) .nil)) rfl (stM rfl (st (.call (xH) (.cons (.t rfl) .nil)) rfl (stM rfl (stM rfl (nkQ k5 (.w [0,1,4,5] rfl (.sr fun k6 => stM rfl (st (.len ze (.t rfl)) rfl (.make (f := isU) (u := 0) (n := (List.length (zA (val xs)))) (c := (List.length (zA (val xs)))) ze zi vx (fun _ _ => ⟨⟨rfl, by decide⟩, trivial⟩) ff (Has.t' rfl rfl) (Has.t' rfl rfl) (by omega) rfl fun b1 => stM rfl (nkQ k6 (.sr fun k7 => st (.as (.cU 0 rfl)) rfl (nkQ k7 (.sq fun k8 => .sr fun k9 => stM rfl (st (.len ze (.t rfl)) rfl (st (.mv (.cI 0 rfl)) rfl (nkQ k9 (.block (.loopF [0,1,4,5,6,22] (fun (z : { i : Nat // i ≤ (List.length (zA (val xs))) }) => match z with | ⟨i, hI⟩ => [(23, isI (i : Int)), (7, isU (bor (val xs) (val ys) i))]) (fun M => fun (z : { i : Nat // i ≤ (List.length (zA (val xs))) }) => match z with | ⟨i, hI⟩ => [(some b1, zC (List.map isU (xG (val xs - val ys) i ((List.length (zA (val xs)))))))]) (fun (z : { i : Nat // i ≤ (List.length (zA (val xs))) }) => match z with | ⟨i, hI⟩ => (List.length (zA (val xs))) - i) (⟨0, Nat.zero_le _⟩) (Cv.mem (.c 23 rfl ?_ (.c 7 rfl ?_ (.l [0,1,4,5,6,22] rfl))) ?_) ?_)))))))))))))))))))))
  ·rfl
  ·exact zU (mO _ _)
  ·exact qo (bT _ _)
  rintro ⟨i, hI⟩ K10 hK10
  refine .w [23,7,0,1,4,5,6,22] rfl (.memEq (M' := [(some b1, zC (List.map isU (xG (val xs - val ys) i ((List.length (zA (val xs)))))))]) rfl ?_)
  have wl : (xG (val xs - val ys) i ((List.length (zA (val xs))))).length = (List.length (zA (val xs))) := ai (by omega)
  refine .sr fun k11 => st (.ltI (.t rfl) (.t rfl)) rfl (nkQ k11 (.sq fun k12 => .cd rfl (fun hc2 => ?_) (fun hc2 => ?_)))
  ·refine .skip (.nk k12 (.sq fun k13 => .block (.sr fun k14 => stM rfl (stM rfl (nkQ k14 (.sr fun k15 => st (.as (.cU 0 rfl)) rfl (nkQ k15 (.cutF [0,1,4,5,6,22,23,7,24,25,8] (fun (_ : Unit) => [(9, isU (dig (val ys) i))]) (fun M => fun (_ : Unit) => M) (fun K16 hK16 => ?_) ?_))))))))
   ·refine .sr fun k17 => stM rfl (stM rfl (st (.len ze (.t rfl)) rfl (st (.ltI (.t rfl) (.t rfl)) rfl (nkQ k17 (.cd rfl (fun hc3 => ?_) (fun hc3 => ?_))))))
    ·refine .region (stM rfl (stM rfl (st (.ixP ze zi (.t rfl) (.t rfl) (by omega) (getD_some (d := 0) (by omega))) rfl (st (.loadP1 (.t rfl) zi) rfl (stM rfl (nl (.thn (hK16 (()) _ _ (Cv.mem (.c 9 rfl ?_ (.l [0,1,4,5,6,22,23,7,24,25,8] rfl)) ?_)))))))))
     ·first | exact zU (qC _ _) | exact zU (wg (by omega)).symm
     ·rfl
    ·refine .skip (.thn (hK16 (()) _ _ (Cv.mem (.c 9 rfl ?_ (.l [0,1,4,5,6,22,23,7,24,25,8] rfl)) ?_)))
     ·first | exact zU (qC _ _) | exact zU (wg (by omega)).symm
     ·rfl
   rintro _
   refine .w [9,0,1,4,5,6,22,23,7,24,25,8] rfl (.region (stM rfl (stM rfl (stM rfl (stM rfl (st (.ixP ze zi (.t rfl) (.t rfl) (by omega) (getD_some (d := 0) (by omega))) rfl (st (.eq (.loadP1 (.t rfl) zi) (zU (qC _ i))) rfl (stM rfl (stM rfl (st (.sub64 ct (.t rfl) (.t rfl) (.t rfl) (by exact kQ _ _ _) ⟨(by exact qr _ _), (by exact qr _ _)⟩) rfl (stM rfl (st (.ext (.t rfl) rfl) rfl (st (.ext (.t rfl) rfl) rfl (st (.eq (.ixWin ze zi (.t rfl) (.t rfl) (by omega)) (qB (by exact wX))) rfl (.storeM (.t rfl) (.t rfl) (i := 0) rfl zi (by omega) (M' := [(_, _)]) rfl (stM rfl (nl (.bln (.nk k13 (.region (st (.addI (.t rfl) (.cI 1 rfl) (by omega) (by omega)) rfl (stM rfl (nl (.thn (hK10 (⟨i + 1, by omega⟩) _ _ ?_ (Cv.mem (.c 23 rfl ?_ (.c 7 rfl ?_ (.l [0,1,4,5,6,22] rfl))) ?_))))))))))))))))))))))))))
   ·show (List.length (zA (val xs))) - (i + 1) < (List.length (zA (val xs))) - i; omega
   ·rfl
   ·exact zU (cX _ _ _)
   ·exact qo (wL (by omega) (oK hle _))
  ·refine .exit (.the (.the (.blh (.nk k8 (.w [4,5,6] rfl (.sq fun k18 => .cv (Cv.freeze' (t := 6) (i := 0) (ys := zQ ((List.length (zA (val xs)))) (val xs - val ys)) rfl rfl rfl (by simp; omega) (gp (by omega))) ?_))))))
   refine .memEq (M' := []) rfl (.w [4,5,6] rfl (.region (stM rfl (st (.call (vL) (.cons (.t rfl) .nil)) rfl (stM rfl (st (.as (.cB true)) rfl (nkQ k18 (.ret (rtN (.inl rfl) Tryz.results83 rfl rfl (.tmp (Has.t' rfl ?_) (.tmp (Has.t' rfl ?_) .nil)))))))))))
   ·exact qH (by rw [qj (yX (qy _))])
   ·exact zg (by simp; omega)
set_option maxHeartbeats 2000000 in
theorem yv {N A x o n c m : Nat} (h1 : (List.length (zA A)) + 1 ≤ n) (h2 : o + n ≤ m) (h3 : N / W ^ o < W ^ (List.length (zA A))) : CtrM Tryz.prog 112 (fun b0 => [qR b0 o n c, zD (zA A), isU x]) (zC (List.map isU (zQ m N))) (zC (List.map isU (zQ m (N + W ^ o * (A * x))))) (fun b0 => zW []) := by
 refine CtrM.intro Tryz.func112 rfl (by kernel_rfl) Tryz.ntmps112 (fun _ => rfl) fun w0 F0 b0 => .w [0,1,2] rfl (.fact (Has.lenLt (Has.t (t := 0) rfl)) fun lt0 => .fact (Has.winLe (Has.t (t := 0) rfl)) fun lw0 => .fact (Has.lenLt (Has.t (t := 1) rfl)) fun lt1 => .fact (Has.okW (Has.t (t := 1) rfl)) fun ok1 => .fact (Has.ltU (Has.t (t := 2) rfl)) fun lt2 => .sr fun k1 => st (.as (.cU 0 rfl)) rfl (nkQ k1 (.sq fun k2 => .sr fun k3 => stM rfl (st (.len ze (.t rfl)) rfl (st (.mv (.cI 0 rfl)) rfl (nkQ k3 (.block (.loopF [0,1,2,12,13] (fun (z : { i : Nat // i ≤ (List.length (zA A)) }) => match z with | ⟨i, hI⟩ => [(14, isI (i : Int)), (6, isU (wD (N / W ^ o) A x i))]) (fun M => fun (z : { i : Nat // i ≤ (List.length (zA A)) }) => match z with | ⟨i, hI⟩ => [(some b0, zC (List.map isU (mix (o + i) (N + W ^ o * (A * x)) N m)))]) (fun (z : { i : Nat // i ≤ (List.length (zA A)) }) => match z with | ⟨i, hI⟩ => (List.length (zA A)) - i) (⟨0, Nat.zero_le _⟩) (Cv.mem (.c 14 rfl ?_ (.c 6 rfl ?_ (.l [0,1,2,12,13] rfl))) ?_) ?_))))))))
 ·rfl
 ·exact zU (gW _ _ _)
 ·exact qo (wV (by omega) (dB _ _ _))
 rintro ⟨i, hI⟩ K4 hK4
 refine .w [14,6,0,1,2,12,13] rfl (.memEq (M' := [(some b0, zC (List.map isU (mix (o + i) (N + W ^ o * (A * x)) N m)))]) rfl ?_)
 have wl : (mix (o + i) (N + W ^ o * (A * x)) N m).length = m := jB (by omega)
 have hrow := sk lt2 (qr A i) (qr (N / W ^ o) i) (Nat.lt_of_le_of_lt (cF (N / W ^ o) A x i) lt2) (qr _ _) (dD (N / W ^ o) A x i)
 have hcl := Nat.lt_of_le_of_lt (cF (N / W ^ o) A x i) lt2
 refine .sr fun k5 => st (.ltI (.t rfl) (.t rfl)) rfl (nkQ k5 (.sq fun k6 => .cd rfl (fun hc1 => ?_) (fun hc1 => ?_)))
 ·refine .skip (.nk k6 (.sq fun k7 => .block (.sr fun k8 => stM rfl (st (.ixP ze zi (.t rfl) (.t rfl) (by omega) (getD_some (d := 0) (by omega))) rfl (st (.eq (.loadP1 (.t rfl) zi) (zU (qC _ i))) rfl (stM rfl (stM rfl (nkQ k8 (.sr fun k9 => stM rfl (stM rfl (st (.call (bZ) (.cons (.t rfl) (.cons (.t rfl) .nil))) rfl (stM rfl (st (.ext (.t rfl) rfl) rfl (st (.ext (.t rfl) rfl) rfl (stM rfl (stM rfl (nkQ k9 (.sr fun k10 => st (.as (.cU 0 rfl)) rfl (nkQ k10 (.sr fun k11 => stM rfl (stM rfl (stM rfl (st (.eq (.ixWin ze zi (.t rfl) (.t rfl) (by omega)) (qB (by exact dN))) rfl (st (.eq (.load1 (.t rfl) (i := 0) rfl zi (map_some (getD_some (d := 0) (by omega)))) (zU (mr (by omega)))) rfl (st (.add64 vk (.t rfl) (.t rfl) (.cU 0 rfl) (by omega) ⟨(by omega), (by exact qr _ _)⟩) rfl (stM rfl (st (.ext (.t rfl) rfl) rfl (st (.ext (.t rfl) rfl) rfl (stM rfl (stM rfl ?_))))))))))))))))))))))))))))))
  refine nkQ k11 (.sr fun k12 => stM rfl (stM rfl (st (.addU' (.t rfl) (.t rfl) (by omega)) rfl (stM rfl (nkQ k12 (.sr fun k13 => stM rfl (stM rfl (st (.add64 vk (.t rfl) (.t rfl) (.cU 0 rfl) (by omega) ⟨(by omega), (by omega)⟩) rfl (stM rfl (st (.ext (.t rfl) rfl) rfl (st (.ext (.t rfl) rfl) rfl (stM rfl (stM rfl (nkQ k13 (.region (stM rfl (stM rfl (stM rfl (stM rfl (stM rfl (st (.addU' (.t rfl) (.t rfl) (by omega)) rfl (st (.eq (.ixWin ze zi (.t rfl) (.t rfl) (by omega)) (qB (by exact dN))) rfl (.storeM (.t rfl) (.t rfl) (i := 0) rfl zi (by omega) (M' := [(_, _)]) rfl (stM rfl (nl (.bln (.nk k7 (.region (st (.addI (.t rfl) (.cI 1 rfl) (by omega) (by omega)) rfl (stM rfl (nl (.thn ?_))))))))))))))))))))))))))))))))
  refine hK4 (⟨i + 1, by omega⟩) _ _ ?_ (Cv.mem (.c 14 rfl ?_ (.c 6 rfl ?_ (.l [0,1,2,12,13] rfl))) ?_)
  ·show (List.length (zA A)) - (i + 1) < (List.length (zA A)) - i; omega
  ·rfl
  ·exact zU hrow.2.1
  ·exact qo (sn (by omega) hrow.1)
 ·refine .exit (.the (.the (.blh (.nk k2 (.w [0,1,6] rfl (.region (stM rfl (stM rfl (st (.len ze (.t rfl)) rfl (stM rfl (st (.eq (.ixWin ze zi (.t rfl) (.t rfl) (by omega)) (qB (by exact dN))) rfl (.storeM (.t rfl) (.t rfl) (i := 0) rfl zi (by omega) (M' := [(_, _)]) rfl (nl (zGF (.inr rfl) Tryz.results112 rfl (i := 0) ?_))))))))))))))
  all_goals (obtain rfl : i = (List.length (zA A)) := (by omega); exact ij (zDN rfl (by omega) h3 (qy A) lt2))
theorem yx {xs ys : List Nat} (hx : (List.length (zA (val xs))) + (List.length (zA (val ys))) < 4294967296) : Ctr Tryz.prog 98 [zD xs, zD ys] (zD (zA (val xs * val ys))) := by
 refine Ctr.i Tryz.func98 rfl Tryz.ntmps98 fun w0 F0 => .w [0,1] rfl (.fact (Has.lenLt (Has.t (t := 0) rfl)) fun lt0 => .fact (Has.okW (Has.t (t := 0) rfl)) fun ok0 => .fact (Has.lenLt (Has.t (t := 1) rfl)) fun lt1 => .fact (Has.okW (Has.t (t := 1) rfl)) fun ok1 => .sr fun k1 => st (.as (.cW (f := isU))) rfl (nkQ k1 (.sr fun k2 => stM rfl (st (.call (xH) (.cons (.t rfl) .nil)) rfl (stM rfl (st (.call (xH) (.cons (.t rfl) .nil)) rfl (stM rfl (stM rfl (nkQ k2 (.sr fun k3 => stM rfl (st (.len ze (.t rfl)) rfl (stM rfl (st (.len ze (.t rfl)) rfl (st (.addI (.t rfl) (.t rfl) (by omega) (by omega)) rfl (st (.addI (.t rfl) (.cI 1 rfl) (by omega) (by omega)) rfl (.make (f := isU) (u := 0) (n := (List.length (zA (val xs))) + (List.length (zA (val ys))) + 1) (c := (List.length (zA (val xs))) + (List.length (zA (val ys))) + 1) ze zi vx (fun _ _ => ⟨⟨rfl, by decide⟩, trivial⟩) ff (Has.t' rfl rfl) (Has.t' rfl rfl) (by omega) rfl fun b1 => stM rfl (nkQ k3 (.w [0,1,4,5] rfl (.sq fun k4 => .sr fun k5 => stM rfl (st (.len ze (.t rfl)) rfl (st (.mv (.cI 0 rfl)) rfl ?_)))))))))))))))))))))
 refine nkQ k5 (.block (.loopF [0,4,5,19,20] (fun (z : { i : Nat // i ≤ (List.length (zA (val ys))) }) => match z with | ⟨i, hI⟩ => [(21, isI (i : Int))]) (fun M => fun (z : { i : Nat // i ≤ (List.length (zA (val ys))) }) => match z with | ⟨i, hI⟩ => [(some b1, zC (List.map isU (zQ ((List.length (zA (val xs))) + (List.length (zA (val ys))) + 1) (val xs * (val ys % W ^ i)))))]) (fun (z : { i : Nat // i ≤ (List.length (zA (val ys))) }) => match z with | ⟨i, hI⟩ => (List.length (zA (val ys))) - i) (⟨0, Nat.zero_le _⟩) (Cv.mem (.c 21 rfl ?_ (.l [0,4,5,19,20] rfl)) ?_) ?_))
 ·rfl
 ·exact qo (rJ _ _ _)
 rintro ⟨i, hI⟩ K6 hK6
 refine .w [21,0,4,5,19,20] rfl (.memEq (M' := [(some b1, zC (List.map isU (zQ ((List.length (zA (val xs))) + (List.length (zA (val ys))) + 1) (val xs * (val ys % W ^ i)))))]) rfl ?_)
 have wl : (zQ ((List.length (zA (val xs))) + (List.length (zA (val ys))) + 1) (val xs * (val ys % W ^ i))).length = (List.length (zA (val xs))) + (List.length (zA (val ys))) + 1 := zt _ _
 refine .sr fun k7 => st (.ltI (.t rfl) (.t rfl)) rfl (nkQ k7 (.sq fun k8 => .cd rfl (fun hc1 => ?_) (fun hc1 => ?_)))
 ·refine .skip (.nk k8 (.sq fun k9 => .block (.sr fun k10 => stM rfl (st (.ixP ze zi (.t rfl) (.t rfl) (by omega) (getD_some (d := 0) (by omega))) rfl (st (.eq (.loadP1 (.t rfl) zi) (zU (qC _ i))) rfl (stM rfl (stM rfl (nkQ k10 (.region (stM rfl (stM rfl (st (.eq (.slLWin ze zi (.t rfl) (.t rfl) ⟨by omega, by omega, by omega⟩) (fK (by exact wX) rfl rfl)) rfl (stM rfl (stM rfl (.callM (yv (m := (List.length (zA (val xs))) + (List.length (zA (val ys))) + 1) (N := val xs * (val ys % W ^ i)) (by simp only [Int.toNat_natCast]; omega) (by simp only [Int.toNat_natCast]; omega) (zEH (qy _))) (i := 0) rfl (.cons (.t rfl) (.cons (.t rfl) (.cons (.t rfl) .nil))) rfl (M' := [(_, _)]) rfl ?_)))))))))))))))
  refine nl (.bln (.nk k9 (.region (st (.addI (.t rfl) (.cI 1 rfl) (by omega) (by omega)) rfl (stM rfl (nl (.thn (hK6 (⟨i + 1, by omega⟩) _ _ ?_ (Cv.mem (.c 21 rfl ?_ (.l [0,4,5,19,20] rfl)) ?_)))))))))
  ·show (List.length (zA (val ys))) - (i + 1) < (List.length (zA (val ys))) - i; omega
  ·rfl
  ·exact qo (by rw [ci])
 ·refine .exit (.the (.the (.blh (.nk k4 (.w [4,5] rfl (.sq fun k11 => .cv (Cv.freeze' (t := 5) (i := 0) (ys := zQ ((List.length (zA (val xs))) + (List.length (zA (val ys))) + 1) (val xs * (val ys % W ^ i))) rfl rfl rfl (by simp; omega) (wy (zt _ _).symm)) ?_))))))
  refine .memEq (M' := []) rfl (.w [4,5] rfl (.region (stM rfl (st (.call (vL) (.cons (.t rfl) .nil)) rfl (stM rfl (nkQ k11 (.ret (rt1 (.inl rfl) Tryz.results98 rfl (.tmp (Has.t' rfl ?_) .nil)))))))))
  all_goals (obtain rfl : i = (List.length (zA (val ys))) := (by omega); exact qH (zEG rfl))
theorem og {xs : List Nat} {k : Nat} (hk : k ≤ 1048576) (hx : (List.length (zA (val xs))) < 4294900000) : Ctr Tryz.prog 108 [zD xs, isI (k : Int)] (zW [zD (zA (val xs * 2 ^ k)), isB true]) := by
 refine Ctr.i Tryz.func108 rfl Tryz.ntmps108 fun w0 F0 => .w [0,1] rfl (.fact (Has.lenLt (Has.t (t := 0) rfl)) fun lt0 => .fact (Has.okW (Has.t (t := 0) rfl)) fun ok0 => .fact (Has.rngI (Has.t (t := 1) rfl)) fun lt1 => ?_)
 have e1 : ((k : Int) / 64) = ((k / 64 : Nat) : Int) := by omega
 have e2 : ((k : Int) % 64).toNat = k % 64 := by omega
 refine .sr fun k1 => st (.as (.cW (f := isU))) rfl (st (.as (.cB false)) rfl (nkQ k1 (.sq fun k2 => .sr fun k3 => stM rfl (st (.ltI (.t rfl) (.cI 0 rfl)) rfl (stM rfl (stF rfl rfl (fun hg => .mv (.t rfl)) rfl (stF rfl rfl (fun hg => .gtI (Has.g rfl hg) (.cI 1048576 rfl)) rfl (st (.pickOr (.t rfl) (fun h => Has.g rfl (ng h))) rfl (nkQ k3 (.w [0,1,4,5,16] rfl (.cd rfl (fun hc1 => ?_) (fun hc1 => ?_))))))))))))
 ·exfalso; first | omega | contradiction | (revert hc1; simp)
 ·refine .skip (.nk k2 (.sr fun k4 => stM rfl (st (.call (xH) (.cons (.t rfl) .nil)) rfl (stM rfl (nkQ k4 (.sr fun k5 => stM rfl (st (.eq (.quoI (.t rfl) (.cI 64 rfl) (by omega) (by omega) (by omega)) (zG e1)) rfl (stM rfl (st (.remI (.t rfl) (.cI 64 rfl) (by omega) (by omega) (by omega)) rfl (st (.eq (.convIU un3 sI (.t rfl) (by omega) (by omega)) (zU e2)) rfl (stM rfl (stM rfl (nkQ k5 (.w [0,4,5,6,7] rfl (.sr fun k6 => stM rfl (st (.len ze (.t rfl)) rfl (stM rfl (st (.addI (.t rfl) (.t rfl) (by omega) (by omega)) rfl (st (.addI (.t rfl) (.cI 1 rfl) (by omega) (by omega)) rfl (.make (f := isU) (u := 0) (n := (List.length (zA (val xs))) + k / 64 + 1) (c := (List.length (zA (val xs))) + k / 64 + 1) ze zi vx (fun _ _ => ⟨⟨rfl, by decide⟩, trivial⟩) ff (Has.t' rfl rfl) (Has.t' rfl rfl) (by omega) rfl fun b1 => stM rfl (nkQ k6 (.w [0,4,5,6,7,8] rfl (.sq fun k7 => .sr fun k8 => stM rfl (st (.len ze (.t rfl)) rfl (st (.mv (.cI 0 rfl)) rfl (nkQ k8 ?_))))))))))))))))))))))))))
  refine .block (.loopF [4,5,6,7,8,30,31] (fun (z : { i : Nat // i ≤ (List.length (zA (val xs))) }) => match z with | ⟨i, hI⟩ => [(32, isI (i : Int))]) (fun M => fun (z : { i : Nat // i ≤ (List.length (zA (val xs))) }) => match z with | ⟨i, hI⟩ => [(some b1, zC (List.map isU (zQ ((List.length (zA (val xs))) + k / 64 + 1) (val xs % W ^ i * 2 ^ k))))]) (fun (z : { i : Nat // i ≤ (List.length (zA (val xs))) }) => match z with | ⟨i, hI⟩ => (List.length (zA (val xs))) - i) (⟨0, Nat.zero_le _⟩) (Cv.mem (.c 32 rfl ?_ (.l [4,5,6,7,8,30,31] rfl)) ?_) ?_)
  ·rfl
  ·exact qo (sc _ _ _)
  rintro ⟨i, hI⟩ K9 hK9
  refine .w [32,4,5,6,7,8,30,31] rfl (.memEq (M' := [(some b1, zC (List.map isU (zQ ((List.length (zA (val xs))) + k / 64 + 1) (val xs % W ^ i * 2 ^ k))))]) rfl ?_)
  have wl : (zQ ((List.length (zA (val xs))) + k / 64 + 1) (val xs % W ^ i * 2 ^ k)).length = (List.length (zA (val xs))) + k / 64 + 1 := zt _ _
  have ek : (((k / 64 : Nat) : Int) + (i : Int)).toNat = k / 64 + i := by omega
  refine .sr fun k10 => st (.ltI (.t rfl) (.t rfl)) rfl (nkQ k10 (.sq fun k11 => .cd rfl (fun hc2 => ?_) (fun hc2 => ?_)))
  ·refine .skip (.nk k11 (.sq fun k12 => .block (.sr fun k13 => stM rfl (st (.ixP ze zi (.t rfl) (.t rfl) (by omega) (getD_some (d := 0) (by omega))) rfl (st (.eq (.loadP1 (.t rfl) zi) (zU (qC _ i))) rfl (stM rfl (stM rfl (nkQ k13 (.sr fun k14 => stM rfl (stM rfl (stM rfl (st (.addI (.t rfl) (.t rfl) (by omega) (by omega)) rfl (st (.eq (.ixWin ze zi (.t rfl) (.t rfl) (by omega)) (qB (by exact wX))) rfl (st (.eq (.load1 (.t rfl) (i := 0) rfl zi (map_some (getD_some (d := 0) (by omega)))) ((show isU _ = isU (val xs % W ^ i * 2 ^ k / W ^ (k / 64 + i)) from zU (by rw [ek]; exact yb (by omega))))) rfl ?_))))))))))))))
   refine stM rfl (stM rfl (st (.shlUU (.t rfl) (.t rfl) (by exact True.intro)) rfl (st (.orU (.t rfl) (.t rfl)) rfl (st (.eq (.ixWin ze zi (.t rfl) (.t rfl) (by omega)) (qB (by exact wX))) rfl (.storeM (.t rfl) (.t rfl) (i := 0) rfl zi (by omega) (M' := [(_, _)]) rfl (nkQ k14 (.sr fun k15 => stM rfl (st (.gtU (.t rfl) (.cU 0 rfl)) rfl (nkQ k15 (.cd rfl (fun hc3 => ?_) (fun hc3 => ?_)))))))))))
   ·refine .region (stM rfl (stM rfl (stM rfl (st (.addI (.t rfl) (.t rfl) (by omega) (by omega)) rfl (st (.addI (.t rfl) (.cI 1 rfl) (by omega) (by omega)) rfl (stM rfl (stM rfl (st (.subU' (.cU 64 rfl) (.t rfl) (by omega) (by omega)) rfl (st (.shrUU (.t rfl) (.t rfl) (by exact qr _ _)) rfl (st (.eq (.ixWin ze zi (.t rfl) (.t rfl) (by omega)) (qB (by exact wX))) rfl (.storeM (.t rfl) (.t rfl) (i := 0) rfl zi (by simp only [Int.toNat_natCast, List.length_set, List.length_replicate]; omega) (M' := [(_, _)]) rfl ?_)))))))))))
    refine nl (.bln (.nk k12 (.region (st (.addI (.t rfl) (.cI 1 rfl) (by omega) (by omega)) rfl (stM rfl (nl (.thn (hK9 (⟨i + 1, by omega⟩) _ _ ?_ (Cv.mem (.c 32 rfl ?_ (.l [4,5,6,7,8,30,31] rfl)) ?_)))))))))
    ·show (List.length (zA (val xs))) - (i + 1) < (List.length (zA (val xs))) - i; omega
    ·rfl
    ·exact qo (by rw [ek, ko (by omega) rfl]; exact sa (by omega) (by omega) (by omega) rfl)
   ·refine .skip (.bln (.nk k12 (.region (st (.addI (.t rfl) (.cI 1 rfl) (by omega) (by omega)) rfl (stM rfl (nl (.thn (hK9 (⟨i + 1, by omega⟩) _ _ ?_ (Cv.mem (.c 32 rfl ?_ (.l [4,5,6,7,8,30,31] rfl)) ?_)))))))))
    ·show (List.length (zA (val xs))) - (i + 1) < (List.length (zA (val xs))) - i; omega
    ·rfl
    ·exact qo (by rw [ek, ko (by omega) rfl]; exact sb (by omega) (by omega))
  ·refine .exit (.the (.the (.blh (.nk k7 (.w [4,5,8] rfl (.sq fun k16 => .cv (Cv.freeze' (t := 8) (i := 0) (ys := zQ ((List.length (zA (val xs))) + k / 64 + 1) (val xs % W ^ i * 2 ^ k)) rfl rfl rfl (by simp; omega) (wy (by rw [wl]))) ?_))))))
   refine .memEq (M' := []) rfl (.w [4,5,8] rfl (.region (stM rfl (st (.call (vL) (.cons (.t rfl) .nil)) rfl (stM rfl (st (.as (.cB true)) rfl (nkQ k16 (.ret (rtN (.inl rfl) Tryz.results108 rfl rfl (.tmp (Has.t' rfl ?_) (.tmp (Has.t' rfl ?_) .nil)))))))))))
   ·obtain rfl : i = (List.length (zA (val xs))) := (by omega); exact qH (zDI rfl)
   ·rfl
theorem yw {xs : List Nat} {k : Nat} (hk : k < 9223372036854775808) (hx : (List.length (zA (val xs))) < 4294900000) : Ctr Tryz.prog 110 [zD xs, isI (k : Int)] (zW [zD (zA (val xs / 2 ^ k)), isB true]) := by
 refine Ctr.i Tryz.func110 rfl Tryz.ntmps110 fun w0 F0 => .w [0,1] rfl (.fact (Has.lenLt (Has.t (t := 0) rfl)) fun lt0 => .fact (Has.okW (Has.t (t := 0) rfl)) fun ok0 => .fact (Has.rngI (Has.t (t := 1) rfl)) fun lt1 => ?_)
 have e1 : ((k : Int) / 64) = ((k / 64 : Nat) : Int) := by omega
 have e2 : ((k : Int) % 64).toNat = k % 64 := by omega
 have nX := zED (val xs) (k / 64)
 refine .sr fun k1 => st (.as (.cW (f := isU))) rfl (st (.as (.cB false)) rfl (nkQ k1 (.sq fun k2 => .sr fun k3 => stM rfl (st (.ltI (.t rfl) (.cI 0 rfl)) rfl (nkQ k3 (.cd rfl (fun hc1 => ?_) (fun hc1 => ?_)))))))
 ·exfalso; first | omega | contradiction | (revert hc1; simp)
 ·refine .skip (.nk k2 (.sr fun k4 => stM rfl (st (.call (xH) (.cons (.t rfl) .nil)) rfl (stM rfl (nkQ k4 (.sr fun k5 => stM rfl (st (.eq (.quoI (.t rfl) (.cI 64 rfl) (by omega) (by omega) (by omega)) (zG e1)) rfl (stM rfl (st (.remI (.t rfl) (.cI 64 rfl) (by omega) (by omega) (by omega)) rfl (st (.eq (.convIU un3 sI (.t rfl) (by omega) (by omega)) (zU e2)) rfl (stM rfl (stM rfl (nkQ k5 (.w [0,4,5,6,7] rfl (.sq fun k6 => .sr fun k7 => stM rfl (stM rfl (st (.len ze (.t rfl)) rfl (st (.geI (.t rfl) (.t rfl)) rfl (nkQ k7 (.cd rfl (fun hc2 => ?_) (fun hc2 => ?_)))))))))))))))))))))
  ·refine .sr fun k8 => st (.as (.cW (f := isU))) rfl (st (.as (.cB true)) rfl (nkQ k8 (.ret (.thr (rtN (.inl rfl) Tryz.results110 rfl rfl (.tmp (Has.t' rfl ?_) (.tmp (Has.t' rfl ?_) .nil)))))))
   ·exact qH (sZ (by omega))
   ·rfl
  ·refine .skip (.nk k6 (.sr fun k9 => stM rfl (stM rfl (st (.eq (.slLM ze zi (.t rfl) (.t rfl) (by omega)) (qH (fV (val xs) (k / 64)))) rfl (stM rfl (nkQ k9 (.w [0,4,5,7] rfl (.sr fun k10 => stM rfl (st (.len ze (.t rfl)) rfl (.make (f := isU) (u := 0) (n := (List.length (zA (val xs / W ^ (k / 64))))) (c := (List.length (zA (val xs / W ^ (k / 64))))) ze zi vx (fun _ _ => ⟨⟨rfl, by decide⟩, trivial⟩) ff (Has.t' rfl rfl) (Has.t' rfl rfl) (by omega) rfl fun b1 => stM rfl (nkQ k10 (.sq fun k11 => .sr fun k12 => stM rfl (st (.len ze (.t rfl)) rfl (st (.mv (.cI 0 rfl)) rfl (nkQ k12 (.block (.loopF [0,4,5,7,8,30,31] (fun (z : { i : Nat // i ≤ (List.length (zA (val xs / W ^ (k / 64)))) }) => match z with | ⟨i, hI⟩ => [(32, isI (i : Int))]) (fun M => fun (z : { i : Nat // i ≤ (List.length (zA (val xs / W ^ (k / 64)))) }) => match z with | ⟨i, hI⟩ => [(some b1, zC (List.map isU (xG ((val xs / W ^ (k / 64)) / 2 ^ (k % 64)) i ((List.length (zA (val xs / W ^ (k / 64))))))))]) (fun (z : { i : Nat // i ≤ (List.length (zA (val xs / W ^ (k / 64)))) }) => match z with | ⟨i, hI⟩ => (List.length (zA (val xs / W ^ (k / 64)))) - i) (⟨0, Nat.zero_le _⟩) (Cv.mem (.c 32 rfl ?_ (.l [0,4,5,7,8,30,31] rfl)) ?_) ?_)))))))))))))))))
   ·rfl
   ·exact qo (bT _ _)
   rintro ⟨i, hI⟩ K13 hK13
   refine .w [32,0,4,5,7,8,30,31] rfl (.memEq (M' := [(some b1, zC (List.map isU (xG ((val xs / W ^ (k / 64)) / 2 ^ (k % 64)) i ((List.length (zA (val xs / W ^ (k / 64))))))))]) rfl ?_)
   have wl : (xG ((val xs / W ^ (k / 64)) / 2 ^ (k % 64)) i ((List.length (zA (val xs / W ^ (k / 64)))))).length = (List.length (zA (val xs / W ^ (k / 64)))) := ai (by omega)
   refine .sr fun k14 => st (.ltI (.t rfl) (.t rfl)) rfl (nkQ k14 (.sq fun k15 => .cd rfl (fun hc3 => ?_) (fun hc3 => ?_)))
   ·refine .skip (.nk k15 (.sq fun k16 => .block (.sr fun k17 => stM rfl (st (.ixP ze zi (.t rfl) (.t rfl) (by omega) (getD_some (d := 0) (by omega))) rfl (st (.eq (.loadP1 (.t rfl) zi) (zU (qC _ i))) rfl (stM rfl (stM rfl (nkQ k17 (.sr fun k18 => stM rfl (stM rfl (stM rfl (stM rfl (st (.shrUU (.t rfl) (.t rfl) (by exact qr _ _)) rfl (st (.eq (.ixWin ze zi (.t rfl) (.t rfl) (by omega)) (qB (by exact wX))) rfl (.storeM (.t rfl) (.t rfl) (i := 0) rfl zi (by omega) (M' := [(_, _)]) rfl (nkQ k18 (.sr fun k19 => stM rfl (st (.gtU (.t rfl) (.cU 0 rfl)) rfl (stM rfl (stT rfl rfl (fun hg => .mv (.t rfl)) rfl ?_))))))))))))))))))))
    refine stT rfl rfl (fun hg => have hg' := BP.t hg; OK1.addI (Has.g rfl hg) (.cI 1 rfl) (by omega) (by omega)) rfl ?_
    refine stT rfl rfl (fun hg => .mv (.t rfl)) rfl (stT rfl rfl (fun hg => .len ze (Has.g rfl hg)) rfl (stT rfl rfl (fun hg => .ltI (Has.g rfl hg) (Has.g rfl hg)) rfl (st (.pickAnd (.t rfl) (fun h => Has.g rfl h)) rfl (nkQ k19 (.cd rfl (fun hc4 => ?_) (fun hc4 => ?_))))))
    ·refine .dr (.m [] rfl (.m [] rfl (.so [52,53] rfl (.eq (.ixWin ze zi (.t rfl) (.t rfl) (by omega)) (qB (by exact wX))) (.so [54] rfl (.load1 (.t rfl) (i := 0) rfl zi (map_some (getD_some (d := 0) (by simp only [Int.toNat_natCast, List.length_set]; omega)))) ?_))))
     refine .m [] rfl (.m [] rfl (.so [57] rfl (.addI (.t rfl) (.cI 1 rfl) (by omega) (by omega)) ?_))
     refine .so [56,58] rfl (.ixP ze zi (.t rfl) (.t rfl) (by omega) (getD_some (d := 0) (by omega))) (.so [59] rfl (.eq (.loadP1 (.t rfl) zi) ((show isU _ = isU (dig (val xs / W ^ (k / 64)) (i + 1)) from zU (qC _ (i + 1))))) (.m [] rfl (.so [61] rfl (.subU' (.cU 64 rfl) (.t rfl) (by omega) (by omega)) ?_)))
     refine .so [60,62] rfl (.shlUU (.t rfl) (.t rfl) (by exact True.intro)) (.fn (n := 12) zY (.w [0,4,5,7,8,30,31,32,33,34,35,36,9,10,37,38,39,40,41,42,43,44,45,46,47,48,49,50,51,52,53,54,55,56,57,58,59,60,61,62,63] rfl (st (.orU (.t rfl) (.t rfl)) rfl (st (.eq (.ixWin ze zi (.t rfl) (.t rfl) (by omega)) (qB (by exact wX))) rfl (.storeM (.t rfl) (.t rfl) (i := 0) rfl zi (by simp only [Int.toNat_natCast, List.length_set, List.length_replicate]; omega) (M' := [(_, _)]) rfl ?_)))))
     refine nl (.bln (.nk k16 (.region (st (.addI (.t rfl) (.cI 1 rfl) (by omega) (by omega)) rfl (stM rfl (nl (.thn (hK13 (⟨i + 1, by omega⟩) _ _ ?_ (Cv.mem (.c 32 rfl ?_ (.l [0,4,5,7,8,30,31] rfl)) ?_)))))))))
     ·show (List.length (zA (val xs / W ^ (k / 64)))) - (i + 1) < (List.length (zA (val xs / W ^ (k / 64)))) - i; omega
     ·rfl
     ·exact qo (pu (by omega) (by omega))
    ·refine .skip (.bln (.nk k16 (.region (st (.addI (.t rfl) (.cI 1 rfl) (by omega) (by omega)) rfl (stM rfl (nl (.thn (hK13 (⟨i + 1, by omega⟩) _ _ ?_ (Cv.mem (.c 32 rfl ?_ (.l [0,4,5,7,8,30,31] rfl)) ?_)))))))))
     ·show (List.length (zA (val xs / W ^ (k / 64)))) - (i + 1) < (List.length (zA (val xs / W ^ (k / 64)))) - i; omega
     ·rfl
     ·exact qo (pw (by omega) (by omega) rfl (by omega))
   ·refine .exit (.the (.the (.blh (.nk k11 (.w [4,5,8] rfl (.sq fun k20 => .cv (Cv.freeze' (t := 8) (i := 0) (ys := zQ ((List.length (zA (val xs / W ^ (k / 64))))) ((val xs / W ^ (k / 64)) / 2 ^ (k % 64))) rfl rfl rfl (by simp; omega) (gp (by omega))) ?_))))))
    refine .memEq (M' := []) rfl (.w [4,5,8] rfl (.region (stM rfl (st (.call (vL) (.cons (.t rfl) .nil)) rfl (stM rfl (st (.as (.cB true)) rfl (nkQ k20 (.ret (rtN (.inl rfl) Tryz.results110 rfl rfl (.tmp (Has.t' rfl ?_) (.tmp (Has.t' rfl ?_) .nil)))))))))))
    ·exact qH (ya rfl)
    ·rfl
theorem nj {xs : List Nat} (hx : xs.length ≤ 4294967296) : CtrO Tryz.prog 65 [zD xs] isU 0 xs := by
 refine CtrO.intro Tryz.func65 rfl (by kernel_rfl) Tryz.ntmps65 rfl fun w0 F0 => .w [0] rfl (.fact (Has.lenLt (Has.t (t := 0) rfl)) fun lt0 => .fact (Has.okW (Has.t (t := 0) rfl)) fun ok0 => .sr fun k1 => st (.as (.cW (f := isU))) rfl (nkQ k1 (.sq fun k2 => .sr fun k3 => stM rfl (.eqNil ze (.t rfl) rfl fun bn1 hn1 => nkQ k3 (.cd rfl (fun hc2 => ?_) (fun hc2 => ?_))))))
 ·refine .sr fun k4 => st (.as (.cW (f := isU))) rfl (nkQ k4 (.ret (.thr (zDL (.inl rfl) Tryz.results65 rfl ?_ (.tmp (Has.t' rfl ?_) .nil)))))
  ·exact hn1 hc2
  ·rfl
 ·refine .skip (.nk k2 (.sr fun k5 => .buildS0 ze zi rfl (stM rfl (.appendO (f := isU) (u := 0) ze zi vx (fun _ _ => ⟨⟨rfl, by decide⟩, trivial⟩) ff (.t rfl) (.t rfl) (by omega) rfl (fun hO3 => ?_) (fun hO3 b1 cb1 jb1 => ?_)))))
  ·refine stM rfl (nkQ k5 (.w [2] rfl (.ret (zDL (.inl rfl) Tryz.results65 rfl ?_ (.tmp (Has.t' rfl ?_) .nil)))))
   ·exact hO3
   ·rfl
  ·refine stM rfl (nkQ k5 (.w [2] rfl (.ret (zGE (.inl rfl) Tryz.results65 rfl ?_ (b := b1) (c := cb1) (k := jb1) (i := 0) ?_ (.tmp (Has.t' rfl ?_) .nil)))))
   ·exact hO3
   ·rfl
   ·rfl
theorem rH {A k c : Nat} (hA : A ≠ 0) : CtrM Tryz.prog 61 (fun b0 => [qR b0 0 ((List.length (zA A))) c]) (zC (List.map isU (zA A ++ List.replicate k 0))) (zC (List.map isU (zA A ++ List.replicate k 0))) (fun b0 => qR b0 0 ((List.length (zA A))) c) := by
 refine CtrM.intro Tryz.func61 rfl (by kernel_rfl) Tryz.ntmps61 (fun _ => rfl) fun w0 F0 b0 => .w [0] rfl (.fact (Has.lenLt (Has.t (t := 0) rfl)) fun lt0 => .fact (Has.winLe (Has.t (t := 0) rfl)) fun lw0 => ?_)
 have nA := wA hA
 refine .sr fun k1 => st (.as (.cW (f := isU))) rfl (nkQ k1 (.sr fun k2 => stM rfl (st (.len ze (.t rfl)) rfl (stM rfl (nkQ k2 (.sq fun k3 => .block (.loopF [0,2] (fun (_ : Unit) => [(3, isI ((List.length (zA A)) : Int))]) (fun M => fun (_ : Unit) => M) (fun (_ : Unit) => 0) (()) (Cv.mem (.c 3 rfl ?_ (.l [0,2] rfl)) ?_) ?_)))))))
 ·rfl
 ·rfl
 rintro _ K4 hK4
 refine .w [3,0,2] rfl (.sq fun k5 => .sr fun k6 => stM rfl (st (.gtI (.t rfl) (.cI 0 rfl)) rfl (stM rfl (stT rfl rfl (fun hg => .mv (.t rfl)) rfl (stT rfl rfl (fun hg => .mv (.t rfl)) rfl ?_)))))
 refine stT rfl rfl (fun hg => have hg' := BP.t hg; OK1.subI (Has.g rfl hg) (.cI 1 rfl) (by omega) (by omega)) rfl ?_
 refine stT rfl rfl (fun hg => have hg' := BP.t hg; OK1.eq (.ixWin ze zi (Has.g rfl hg) (Has.g rfl hg) (by omega)) (qB (by exact wX))) rfl ?_
 refine stT rfl rfl (fun hg => have hg' := BP.t hg; OK1.load1 (Has.g rfl hg) (i := 0) rfl zi (map_some (getD_some (d := 0) (by simp only [List.length_append]; omega)))) rfl ?_
 refine stT rfl rfl (fun hg => .eqU (Has.g rfl hg) (.cU 0 rfl)) rfl (st (.pickAnd (.t rfl) (fun h => Has.g rfl h)) rfl (nkQ k6 (.cd rfl (fun hc1 => ?_) (fun hc1 => ?_))))
 ·exact absurd hc1.2 (zHL hA)
 ·refine .exit (.the (.the (.blh (.nk k3 (.w [0,2,3] rfl (.sr fun k7 => stM rfl (stM rfl (st (.slHWin ze zi (.t rfl) (.t rfl) ⟨by omega, by omega, by omega⟩) rfl (stM rfl (nkQ k7 (.w [2] rfl (.ret (yh (.inl rfl) Tryz.results61 rfl (i := 0) ?_ (.tmp (Has.t' rfl ?_) .nil))))))))))))))
  all_goals (rfl)
theorem lE {A k c : Nat} (hA : A ≠ 0) : CtrM Tryz.prog 64 (fun b0 => [qR b0 0 ((List.length (zA A))) c]) (zC (List.map isU (zA A ++ List.replicate k 0))) (zC (List.map isU (zA A ++ List.replicate k 0))) (fun b0 => qR b0 0 ((List.length (zA A))) c) := by
 refine CtrM.intro Tryz.func64 rfl (by kernel_rfl) Tryz.ntmps64 (fun _ => rfl) fun w0 F0 b0 => .w [0] rfl (.fact (Has.lenLt (Has.t (t := 0) rfl)) fun lt0 => .fact (Has.winLe (Has.t (t := 0) rfl)) fun lw0 => ?_)
 have nA := wA hA
 refine .sr fun k1 => st (.as (.cW (f := isU))) rfl (nkQ k1 (.sr fun k2 => stM rfl (.callM (rH hA) (i := 0) rfl (.cons (.t rfl) .nil) rfl (M' := [(_, _)]) rfl (stM rfl (nkQ k2 (.sq fun k3 => .sr fun k4 => stM rfl (st (.len ze (.t rfl)) rfl (st (.eqI (.t rfl) (.cI 0 rfl)) rfl (nkQ k4 (.cd rfl (fun hc1 => ?_) (fun hc1 => ?_)))))))))))
 ·exfalso; first | omega | contradiction | (revert hc1; simp)
 ·refine .skip (.nk k3 (.w [0,2] rfl (.sr fun k5 => stM rfl (stM rfl (nkQ k5 (.ret (yh (.inl rfl) Tryz.results64 rfl (i := 0) ?_ (.tmp (Has.t' rfl ?_) .nil))))))))
  all_goals (rfl)
theorem rI {xs : List Nat} (hx : (List.length (zA (val xs))) ≤ 4294967296) : CtrO Tryz.prog 42 [zD xs] isU 0 (zA (val xs)) := by
 refine CtrO.intro Tryz.func42 rfl (by kernel_rfl) Tryz.ntmps42 rfl fun w0 F0 => .w [0] rfl (.fact (Has.lenLt (Has.t (t := 0) rfl)) fun lt0 => .fact (Has.okW (Has.t (t := 0) rfl)) fun ok0 => .sr fun k1 => st (.as (.cW (f := isU))) rfl (nkQ k1 (.sr fun k2 => stM rfl (st (.call (xH) (.cons (.t rfl) .nil)) rfl (.callO (nj hx) (.cons (.t rfl) .nil) rfl (fun hO1 => ?_) (fun hO1 b1 cb1 jb1 => ?_))))))
 ·refine st (.call (vL (xs := [])) (.cons (.t rfl) .nil)) rfl (stM rfl (nkQ k2 (.w [2] rfl (.ret (zDL (.inl rfl) Tryz.results42 rfl ?_ (.tmp (Has.t' rfl ?_) .nil))))))
  ·exact hO1
  ·exact qH zH
 ·refine .callM (lE (sC hO1)) (i := 0) rfl (.cons (.t rfl) .nil) rfl (M' := [(_, _)]) rfl (stM rfl (nkQ k2 (.w [2] rfl (.ret (zGE (.inl rfl) Tryz.results42 rfl ?_ (b := b1) (c := cb1) (k := jb1) (i := 0) ?_ (.tmp (Has.t' rfl ?_) .nil))))))
  ·exact hO1
  ·rfl
  ·rfl
theorem fg {x : Nat} : Ctr Tryz.prog 62 [isU x] (isI (bitLen x : Int)) := by
 refine Ctr.i Tryz.func62 rfl Tryz.ntmps62 fun w0 F0 => .w [0] rfl (.fact (Has.ltU (Has.t (t := 0) rfl)) fun lt0 => .sr fun k1 => st (.as (.cI 0 rfl)) rfl (nkQ k1 (.cutF [] (fun (z : { z : Nat × Nat // bitLen x = z.2 + bitLen z.1 ∧ z.1 < 4294967296 ∧ z.2 ≤ 32 }) => match z with | ⟨(y, n), hI⟩ => [(0, isU y), (2, isI (n : Int))]) (fun M => fun (z : { z : Nat × Nat // bitLen x = z.2 + bitLen z.1 ∧ z.1 < 4294967296 ∧ z.2 ≤ 32 }) => match z with | ⟨(y, n), hI⟩ => M) (fun K2 hK2 => ?_) ?_)))
 ·refine .sr fun k3 => stM rfl (st (.geU (.t rfl) (.cU 4294967296 rfl)) rfl (nkQ k3 (.cd rfl (fun hc1 => ?_) (fun hc1 => ?_))))
  ·refine .sr fun k4 => stM rfl (st (.shrUU (.t rfl) (.cU 32 rfl) (by omega)) rfl (stM rfl (nkQ k4 (.region (st (.as (.cI 32 rfl)) rfl (nl (.thn ?_)))))))
   refine hK2 (⟨(x / 2 ^ 32, 32), by have := bitLen_shift x 32 (by omega); exact this, by show x / 2 ^ 32 < _; omega, Nat.le_refl _⟩) _ _ (Cv.mem (.c 0 rfl ?_ (.c 2 rfl ?_ .nil)) ?_)
   ·rfl
   ·rfl
   ·rfl
  ·refine .skip (.thn ?_)
   refine hK2 (⟨(x, 0), (Nat.zero_add _).symm, by show x < _; omega, Nat.zero_le _⟩) _ _ (Cv.mem (.c 0 rfl ?_ (.c 2 rfl ?_ .nil)) ?_)
   ·rfl
   ·rfl
   ·rfl
 rintro ⟨⟨y, n⟩, h1, h2, h3⟩
 refine .w [0,2] rfl ?_
 simp only [] at h1 h2 h3
 refine .cutF [] (fun (z : { z : Nat × Nat // bitLen x = z.2 + bitLen z.1 ∧ z.1 < 65536 ∧ z.2 ≤ 48 }) => match z with | ⟨(y, n), hI⟩ => [(0, isU y), (2, isI (n : Int))]) (fun M => fun (z : { z : Nat × Nat // bitLen x = z.2 + bitLen z.1 ∧ z.1 < 65536 ∧ z.2 ≤ 48 }) => match z with | ⟨(y, n), hI⟩ => M) (fun K5 hK5 => ?_) ?_
 ·refine .sr fun k6 => stM rfl (st (.geU (.t rfl) (.cU 65536 rfl)) rfl (nkQ k6 (.cd rfl (fun hc2 => ?_) (fun hc2 => ?_))))
  ·refine .sr fun k7 => stM rfl (st (.shrUU (.t rfl) (.cU 16 rfl) (by omega)) rfl (stM rfl (nkQ k7 (.region (stM rfl (st (.addI (.t rfl) (.cI 16 rfl) (by omega) (by omega)) rfl (stM rfl (nl (.thn ?_)))))))))
   refine hK5 (⟨(y / 2 ^ 16, n + 16), by have := bitLen_shift y 16 (by omega); show bitLen x = n + 16 + bitLen (y / 2 ^ 16); omega, by show y / 2 ^ 16 < _; omega, by show n + 16 ≤ _; omega⟩) _ _ (Cv.mem (.c 0 rfl ?_ (.c 2 rfl ?_ .nil)) ?_)
   ·rfl
   ·rfl
   ·rfl
  ·refine .skip (.thn ?_)
   refine hK5 (⟨(y, n), h1, by show y < _; omega, by show n ≤ _; omega⟩) _ _ (Cv.mem (.c 0 rfl ?_ (.c 2 rfl ?_ .nil)) ?_)
   ·rfl
   ·rfl
   ·rfl
 rintro ⟨⟨y, n⟩, h1, h2, h3⟩
 refine .w [0,2] rfl ?_
 simp only [] at h1 h2 h3
 refine .cutF [] (fun (z : { z : Nat × Nat // bitLen x = z.2 + bitLen z.1 ∧ z.1 < 256 ∧ z.2 ≤ 56 }) => match z with | ⟨(y, n), hI⟩ => [(0, isU y), (2, isI (n : Int))]) (fun M => fun (z : { z : Nat × Nat // bitLen x = z.2 + bitLen z.1 ∧ z.1 < 256 ∧ z.2 ≤ 56 }) => match z with | ⟨(y, n), hI⟩ => M) (fun K8 hK8 => ?_) ?_
 ·refine .sr fun k9 => stM rfl (st (.geU (.t rfl) (.cU 256 rfl)) rfl (nkQ k9 (.cd rfl (fun hc3 => ?_) (fun hc3 => ?_))))
  ·refine .sr fun k10 => stM rfl (st (.shrUU (.t rfl) (.cU 8 rfl) (by omega)) rfl (stM rfl (nkQ k10 (.region (stM rfl (st (.addI (.t rfl) (.cI 8 rfl) (by omega) (by omega)) rfl (stM rfl (nl (.thn ?_)))))))))
   refine hK8 (⟨(y / 2 ^ 8, n + 8), by have := bitLen_shift y 8 (by omega); show bitLen x = n + 8 + bitLen (y / 2 ^ 8); omega, by show y / 2 ^ 8 < _; omega, by show n + 8 ≤ _; omega⟩) _ _ (Cv.mem (.c 0 rfl ?_ (.c 2 rfl ?_ .nil)) ?_)
   ·rfl
   ·rfl
   ·rfl
  ·refine .skip (.thn ?_)
   refine hK8 (⟨(y, n), h1, by show y < _; omega, by show n ≤ _; omega⟩) _ _ (Cv.mem (.c 0 rfl ?_ (.c 2 rfl ?_ .nil)) ?_)
   ·rfl
   ·rfl
   ·rfl
 rintro ⟨⟨y, n⟩, h1, h2, h3⟩
 refine .w [0,2] rfl ?_
 simp only [] at h1 h2 h3
 have h8 := bitLen_le8 y h2
 have hy : Int.toNat (y : Int) = y := rfl
 refine .sr fun k11 => stM rfl (stM rfl (st (.convUu8 yQ un5 (.t rfl) (by omega)) rfl (st (.eq (.idxStr un9 (.t rfl) (by omega) ⟨(show Int.toNat (y : Int) < 256 by omega), len8tab_get _ _⟩) ((show isK .u8 _ = isK .u8 ((bitLen y : Nat) : Int) from rfl))) rfl (st (.convKI un5 un3 (.t rfl) (by omega) (by omega)) rfl (st (.addI (.t rfl) (.t rfl) (by omega) (by omega)) rfl (stM rfl (nkQ k11 (.w [2] rfl (.ret (rt1 (.inl rfl) Tryz.results62 rfl (.tmp (Has.t' rfl ?_) .nil)))))))))))
 all_goals (exact zG (by omega))
theorem iC {x : Nat} : Ctr Tryz.prog 107 [isU x] (isI ((64 - bitLen x : Nat) : Int)) := by
 refine Ctr.i Tryz.func107 rfl Tryz.ntmps107 fun w0 F0 => .w [0] rfl (.fact (Has.ltU (Has.t (t := 0) rfl)) fun lt0 => ?_)
 have h64 := ab lt0
 refine .sr fun k1 => st (.as (.cI 0 rfl)) rfl (nkQ k1 (.sr fun k2 => stM rfl (st (.call (fg) (.cons (.t rfl) .nil)) rfl (st (.subI (.cI 64 rfl) (.t rfl) (by omega) (by omega)) rfl (stM rfl (nkQ k2 (.ret (rt1 (.inl rfl) Tryz.results107 rfl (.tmp (Has.t' rfl ?_) .nil)))))))))
 all_goals (exact zG (by omega))
theorem fh {hi lo y : Nat} (h : hi < y) : Ctr Tryz.prog 114 [isU hi, isU lo, isU y] (zW [isU ((hi * 18446744073709551616 + lo) / y), isU ((hi * 18446744073709551616 + lo) % y)]) := by
 refine Ctr.i Tryz.func114 rfl Tryz.ntmps114 fun w0 F0 => .w [0,1,2] rfl (.fact (Has.ltU (Has.t (t := 0) rfl)) fun lt0 => .fact (Has.ltU (Has.t (t := 1) rfl)) fun lt1 => .fact (Has.ltU (Has.t (t := 2) rfl)) fun lt2 => ?_)
 obtain ⟨s, Y, A, U1, U0, v1, v0, hs, hY, D⟩ := d64 lt1 lt2 h
 have hs64 := D.ks
 have hYl := D.yl
 have hAl := D.al
 have hV1 := D.hv.a
 have hV1' := D.hv.b
 have hV0 := D.hv.c
 have hU1 := D.hv.f
 have hU0 := D.hv2.f
 have hR1 := D.r1
 have hR0 := D.r0
 have hQ1 := D.q1
 have hQ0 := D.q0
 have dv := Nat.div_mul_le_self A v1
 have dv2 := Nat.div_mul_le_self ((A * 4294967296 + U1) % Y) v1
 refine .sr fun k1 => st (.as (.cU 0 rfl)) rfl (st (.as (.cU 0 rfl)) rfl (nkQ k1 (.sq fun k2 => .sr fun k3 => stM rfl (st (.eqU (.t rfl) (.cU 0 rfl)) rfl (nkQ k3 (.cd rfl (fun hc1 => ?_) (fun hc1 => ?_)))))))
 ·exfalso; first | omega | contradiction | (revert hc1; simp)
 ·refine .skip (.nk k2 (.sq fun k4 => .sr fun k5 => stM rfl (stM rfl (st (.leU (.t rfl) (.t rfl)) rfl (nkQ k5 (.cd rfl (fun hc2 => ?_) (fun hc2 => ?_)))))))
  ·exfalso; first | omega | contradiction | (revert hc2; simp)
  ·refine .skip (.nk k4 (.w [0,1,2,6,7] rfl (.sq fun k6 => .sr fun k7 => stM rfl (st (.eqU (.t rfl) (.cU 0 rfl)) rfl (nkQ k7 (.cd rfl (fun hc3 => ?_) (fun hc3 => ?_)))))))
   ·refine .sq fun k8 => .w [0,1,2,7,26,27] rfl (.dr (.m [] rfl (.m [] rfl (.so [28,29] rfl (.quoU (.t rfl) (.t rfl) (by with_reducible assumption) (by with_reducible assumption)) (.m [] rfl (.m [] rfl (.so [31,32] rfl (.remU (.t rfl) (.t rfl) (by with_reducible assumption) (by with_reducible assumption)) (.m [30] rfl (.fn (n := 7) zY (.w [0,1,2,7,33,6] rfl (stM rfl (nkQ k8 (.ret (.thr (rtN (.inl rfl) Tryz.results114 rfl rfl (.tmp (Has.t' rfl ?_) (.tmp (Has.t' rfl ?_) .nil)))))))))))))))))
    ·exact zU (by rw [hc3, Nat.zero_mul, Nat.zero_add])
    ·exact zU (by rw [hc3, Nat.zero_mul, Nat.zero_add])
   ·refine .skip (.nk k6 (.sr fun k9 => stM rfl (st (.call (iC) (.cons (.t rfl) .nil)) rfl (st (.eq (.convIU un3 sI (.t rfl) (by omega) (by omega)) ((show isU _ = isU s from zU (by omega)))) rfl (stM rfl (nkQ k9 (.w [0,1,2,6,7,8] rfl (.sr fun k10 => stM rfl (stM rfl (st (.eq (.shlUU (.t rfl) (.t rfl) (by with_reducible exact True.intro)) ((show isU _ = isU Y from zU (by rw [← hY]; exact Nat.mod_eq_of_lt D.yl)))) rfl ?_))))))))))
    refine stM rfl (nkQ k10 (.sr fun k11 => stM rfl (st (.eq (.shrUU (.t rfl) (.cU 32 rfl) (by with_reducible assumption)) ((show isU _ = isU v1 from zU (by have := D.kv1; omega)))) rfl ?_)))
    refine stM rfl (nkQ k11 (.w [0,1,2,6,7,8,9] rfl (.sr fun k12 => stM rfl (st (.eq (.andU (.t rfl) (.cU 4294967295 rfl)) ((show isU _ = isU v0 from zU ((Nat.and_two_pow_sub_one_eq_mod _ 32).trans (by have := D.kv0; omega))))) rfl ?_))))
    refine stM rfl (nkQ k12 (.sr fun k13 => stM rfl (stM rfl (st (.shlUU (.t rfl) (.t rfl) (by with_reducible exact True.intro)) rfl (stM rfl (stM rfl (st (.subU' (.cU 64 rfl) (.t rfl) (by with_reducible assumption) (by omega)) rfl (st (.shrUU (.t rfl) (.t rfl) (by with_reducible assumption)) rfl (st (.eq (.orU (.t rfl) (.t rfl)) ((show isU _ = isU A from zU D.un32))) rfl (stM rfl (nkQ k13 (.w [1,2,6,7,8,9,10,11] rfl (.sr fun k14 => stM rfl (stM rfl (st (.shlUU (.t rfl) (.t rfl) (by with_reducible exact True.intro)) rfl (stM rfl (nkQ k14 (.sr fun k15 => stM rfl (st (.eq (.shrUU (.t rfl) (.cU 32 rfl) (by omega)) ((show isU _ = isU U1 from zU (by have := D.u1; omega)))) rfl ?_)))))))))))))))))))
    refine stM rfl (nkQ k15 (.w [2,6,7,8,9,10,11,12,13] rfl (.sr fun k16 => stM rfl (st (.eq (.andU (.t rfl) (.cU 4294967295 rfl)) ((show isU _ = isU U0 from zU ((Nat.and_two_pow_sub_one_eq_mod _ 32).trans (by have := D.u0; omega))))) rfl ?_))))
    refine stM rfl (nkQ k16 (.sr fun k17 => stM rfl (stM rfl (st (.quoU (.t rfl) (.t rfl) (by omega) (by with_reducible assumption)) rfl (stM rfl (nkQ k17 (.w [2,6,7,8,9,10,11,13,14,15] rfl (.sr fun k18 => stM rfl (stM rfl (stM rfl (st (.mulU' (.t rfl) (.t rfl) (by omega)) rfl (st (.subU' (.t rfl) (.t rfl) (by with_reducible assumption) (by with_reducible assumption)) rfl (stM rfl (nkQ k18 (.w [2,6,7,8,9,10,11,13,14,15,16] rfl (.cutF [2,6,7,8,9,10,11,13,14] (fun (_ : Unit) => [(15, isU ((A * 4294967296 + U1) / Y))]) (fun M => fun (_ : Unit) => M) (fun K19 hK19 => ?_) ?_))))))))))))))))
    ·refine .block (.loopF [2,6,7,8,9,10,11,13,14] (fun (z : { z : Nat × Nat // Gs A U1 v1 v0 z.1 z.2 }) => match z with | ⟨(q, r), hI⟩ => [(15, isU q), (16, isU r)]) (fun M => fun (z : { z : Nat × Nat // Gs A U1 v1 v0 z.1 z.2 }) => match z with | ⟨(q, r), hI⟩ => M) (fun (z : { z : Nat × Nat // Gs A U1 v1 v0 z.1 z.2 }) => match z with | ⟨(q, r), hI⟩ => q) (⟨(A / v1, A - A / v1 * v1), Gs.start D.hv⟩) (Cv.mem (.c 15 rfl ?_ (.c 16 rfl ?_ (.l [2,6,7,8,9,10,11,13,14] rfl))) ?_) ?_)
     ·rfl
     ·rfl
     ·rfl
     rintro ⟨⟨q, r⟩, g⟩ K20 hK20
     refine .w [15,16,2,6,7,8,9,10,11,13,14] rfl ?_
     simp only [] at g
     have gq := g.q
     have gr := g.r
     have hv0 := D.hv.c
     have hv1 := D.hv.b
     have hu1 := D.hv.f
     refine .sq fun k21 => .sr fun k22 => stM rfl (st (.geU (.t rfl) (.cU 4294967296 rfl)) rfl (stM rfl (stF rfl rfl (fun hg => .mv (.t rfl)) rfl (stF rfl rfl (fun hg => .mv (.t rfl)) rfl ?_))))
     refine stF rfl rfl (fun hg => have hg' := BP.t hg; OK1.mulU' (Has.g rfl hg) (Has.g rfl hg) (by exact tM (by omega) (by omega))) rfl ?_
     refine stF rfl rfl (fun hg => .mv (.t rfl)) rfl ?_
     refine stF rfl rfl (fun hg => have hg' := BP.t hg; OK1.mulU' (.cU 4294967296 rfl) (Has.g rfl hg) (by omega)) rfl ?_
     refine stF rfl rfl (fun hg => .mv (.t rfl)) rfl ?_
     refine stF rfl rfl (fun hg => have hg' := BP.t hg; OK1.addU' (Has.g rfl hg) (Has.g rfl hg) (by omega)) rfl ?_
     refine stF rfl rfl (fun hg => .gtU (Has.g rfl hg) (Has.g rfl hg)) rfl (st (.pickOr (.t rfl) (fun h => Has.g rfl (ng h))) rfl (nkQ k22 (.cd rfl (fun hc4 => ?_) (fun hc4 => ?_))))
     ·have hn := Gs.next D.hv g hc4
      refine .skip (.nk k21 (.block (.sr fun k23 => stM rfl (st (.subU' (.t rfl) (.cU 1 rfl) (by omega) (by omega)) rfl (stM rfl (nkQ k23 (.sr fun k24 => stM rfl (stM rfl (st (.addU' (.t rfl) (.t rfl) (by omega)) rfl (stM rfl (nkQ k24 (.sr fun k25 => stM rfl (st (.geU (.t rfl) (.cU 4294967296 rfl)) rfl (nkQ k25 (.cd rfl (fun hc5 => ?_) (fun hc5 => ?_))))))))))))))))
      ·refine .exit (.blm rfl (.the (.blh (.thn (hK19 (()) _ _ (Cv.mem (.c 15 rfl ?_ (.l [2,6,7,8,9,10,11,13,14] rfl)) ?_))))))
       ·exact zU ((Gs.exit2 D.hv hn.1 hn.2.1 hn.2.2.1 (by omega)).trans (by rw [D.kY]))
       ·rfl
      ·refine .skip (.bln (.thn ?_))
       refine hK20 (⟨(q - 1, r + v1), hn.1, hn.2.1, by show q - 1 ≤ _; omega, by show r + v1 < _; omega⟩) _ _ ?_ (Cv.mem (.c 15 rfl ?_ (.c 16 rfl ?_ (.l [2,6,7,8,9,10,11,13,14] rfl))) ?_)
       ·show q - 1 < q; omega
       ·rfl
       ·rfl
       ·rfl
     ·refine .exit (.the (.the (.blh (.thn (hK19 (()) _ _ (Cv.mem (.c 15 rfl ?_ (.l [2,6,7,8,9,10,11,13,14] rfl)) ?_))))))
      ·exact zU ((Gs.exit D.hv g (by omega)).trans (by rw [D.kY]))
      ·rfl
    rintro _
    refine .w [15,2,6,7,8,9,10,11,13,14] rfl (.sr fun k26 => stM rfl (st (.mulU (.t rfl) (.cU 4294967296 rfl)) rfl (stM rfl (st (.addU (.t rfl) (.t rfl)) rfl (stM rfl (stM rfl (st (.mulU (.t rfl) (.t rfl)) rfl (st (.eq (.subU (.t rfl) (.t rfl) (by omega)) ((show isU _ = isU ((A * 4294967296 + U1) % Y) from zU (ny (ne _ _) hR1 hU1)))) rfl (stM rfl (nkQ k26 (.w [2,6,7,8,9,10,14,15,17] rfl (.sr fun k27 => stM rfl (stM rfl (st (.quoU (.t rfl) (.t rfl) (by omega) (by with_reducible assumption)) rfl (stM rfl (nkQ k27 (.sr fun k28 => stM rfl (stM rfl (stM rfl (st (.mulU' (.t rfl) (.t rfl) (by with_reducible exact Nat.lt_of_le_of_lt (Nat.div_mul_le_self _ _) hR1)) rfl (st (.subU' (.t rfl) (.t rfl) (by with_reducible assumption) (by with_reducible assumption)) rfl (stM rfl (nkQ k28 (.w [2,6,7,8,9,10,14,15,17,18,16] rfl (.cutF [2,6,7,8,14,15,17] (fun (_ : Unit) => [(18, isU ((((A * 4294967296 + U1) % Y) * 4294967296 + U0) / Y))]) (fun M => fun (_ : Unit) => M) (fun K29 hK29 => ?_) ?_)))))))))))))))))))))))))
    ·refine .block (.loopF [2,6,7,8,9,10,14,15,17] (fun (z : { z : Nat × Nat // Gs ((A * 4294967296 + U1) % Y) U0 v1 v0 z.1 z.2 }) => match z with | ⟨(q, r), hI⟩ => [(18, isU q), (16, isU r)]) (fun M => fun (z : { z : Nat × Nat // Gs ((A * 4294967296 + U1) % Y) U0 v1 v0 z.1 z.2 }) => match z with | ⟨(q, r), hI⟩ => M) (fun (z : { z : Nat × Nat // Gs ((A * 4294967296 + U1) % Y) U0 v1 v0 z.1 z.2 }) => match z with | ⟨(q, r), hI⟩ => q) (⟨(((A * 4294967296 + U1) % Y) / v1, ((A * 4294967296 + U1) % Y) - ((A * 4294967296 + U1) % Y) / v1 * v1), Gs.start D.hv2⟩) (Cv.mem (.c 18 rfl ?_ (.c 16 rfl ?_ (.l [2,6,7,8,9,10,14,15,17] rfl))) ?_) ?_)
     ·rfl
     ·rfl
     ·rfl
     rintro ⟨⟨q, r⟩, g⟩ K30 hK30
     refine .w [18,16,2,6,7,8,9,10,14,15,17] rfl ?_
     simp only [] at g
     have gq := g.q
     have gr := g.r
     have hv0 := D.hv2.c
     have hv1 := D.hv2.b
     have hu1 := D.hv2.f
     refine .sq fun k31 => .sr fun k32 => stM rfl (st (.geU (.t rfl) (.cU 4294967296 rfl)) rfl (stM rfl (stF rfl rfl (fun hg => .mv (.t rfl)) rfl (stF rfl rfl (fun hg => .mv (.t rfl)) rfl ?_))))
     refine stF rfl rfl (fun hg => have hg' := BP.t hg; OK1.mulU' (Has.g rfl hg) (Has.g rfl hg) (by exact tM (by omega) (by omega))) rfl ?_
     refine stF rfl rfl (fun hg => .mv (.t rfl)) rfl ?_
     refine stF rfl rfl (fun hg => have hg' := BP.t hg; OK1.mulU' (.cU 4294967296 rfl) (Has.g rfl hg) (by omega)) rfl ?_
     refine stF rfl rfl (fun hg => .mv (.t rfl)) rfl ?_
     refine stF rfl rfl (fun hg => have hg' := BP.t hg; OK1.addU' (Has.g rfl hg) (Has.g rfl hg) (by omega)) rfl ?_
     refine stF rfl rfl (fun hg => .gtU (Has.g rfl hg) (Has.g rfl hg)) rfl (st (.pickOr (.t rfl) (fun h => Has.g rfl (ng h))) rfl (nkQ k32 (.cd rfl (fun hc6 => ?_) (fun hc6 => ?_))))
     ·have hn := Gs.next D.hv2 g hc6
      refine .skip (.nk k31 (.block (.sr fun k33 => stM rfl (st (.subU' (.t rfl) (.cU 1 rfl) (by omega) (by omega)) rfl (stM rfl (nkQ k33 (.sr fun k34 => stM rfl (stM rfl (st (.addU' (.t rfl) (.t rfl) (by omega)) rfl (stM rfl (nkQ k34 (.sr fun k35 => stM rfl (st (.geU (.t rfl) (.cU 4294967296 rfl)) rfl (nkQ k35 (.cd rfl (fun hc7 => ?_) (fun hc7 => ?_))))))))))))))))
      ·refine .exit (.blm rfl (.the (.blh (.thn (hK29 (()) _ _ (Cv.mem (.c 18 rfl ?_ (.l [2,6,7,8,14,15,17] rfl)) ?_))))))
       ·exact zU ((Gs.exit2 D.hv2 hn.1 hn.2.1 hn.2.2.1 (by omega)).trans (by rw [D.kY]))
       ·rfl
      ·refine .skip (.bln (.thn ?_))
       refine hK30 (⟨(q - 1, r + v1), hn.1, hn.2.1, by show q - 1 ≤ _; omega, by show r + v1 < _; omega⟩) _ _ ?_ (Cv.mem (.c 18 rfl ?_ (.c 16 rfl ?_ (.l [2,6,7,8,9,10,14,15,17] rfl))) ?_)
       ·show q - 1 < q; omega
       ·rfl
       ·rfl
       ·rfl
     ·refine .exit (.the (.the (.blh (.thn (hK29 (()) _ _ (Cv.mem (.c 18 rfl ?_ (.l [2,6,7,8,14,15,17] rfl)) ?_))))))
      ·exact zU ((Gs.exit D.hv2 g (by omega)).trans (by rw [D.kY]))
      ·rfl
    rintro _
    refine .w [18,2,6,7,8,14,15,17] rfl (.sr fun k36 => stM rfl (st (.mulU (.t rfl) (.cU 4294967296 rfl)) rfl (stM rfl (st (.addU (.t rfl) (.t rfl)) rfl (stM rfl (st (.mulU (.t rfl) (.cU 4294967296 rfl)) rfl (stM rfl (st (.addU (.t rfl) (.t rfl)) rfl (stM rfl (stM rfl (st (.mulU (.t rfl) (.t rfl)) rfl (st (.eq (.subU (.t rfl) (.t rfl) (by omega)) ((show isU _ = isU ((((A * 4294967296 + U1) % Y) * 4294967296 + U0) % Y) from zU (ny (ne _ _) hR0 hU0)))) rfl (stM rfl (st (.shrUU (.t rfl) (.t rfl) (by with_reducible assumption)) rfl (stM rfl (stM rfl (nkQ k36 (.w [6,7] rfl (.ret (rtN (.inl rfl) Tryz.results114 rfl rfl (.tmp (Has.t' rfl ?_) (.tmp (Has.t' rfl ?_) .nil))))))))))))))))))))))
    ·exact zU (Eq.trans (yJ hQ1 hQ0) D.quo)
    ·exact zU D.rem
theorem rm {xs : List Nat} {x : Nat} (hx : (List.length (zA (val xs))) < 4294900000) : Ctr Tryz.prog 106 [zD xs, isU x] (zW [zD (zA (val xs / x)), isU (if x = 0 then 0 else val xs % x), isB (decide (x ≠ 0))]) := by
 refine Ctr.i Tryz.func106 rfl Tryz.ntmps106 fun w0 F0 => .w [0,1] rfl (.fact (Has.lenLt (Has.t (t := 0) rfl)) fun lt0 => .fact (Has.okW (Has.t (t := 0) rfl)) fun ok0 => .fact (Has.ltU (Has.t (t := 1) rfl)) fun lt1 => .sr fun k1 => st (.as (.cW (f := isU))) rfl (st (.as (.cU 0 rfl)) rfl (st (.as (.cB false)) rfl (nkQ k1 (.sq fun k2 => .sr fun k3 => stM rfl (st (.eqU (.t rfl) (.cU 0 rfl)) rfl (nkQ k3 (.cd rfl (fun hc1 => ?_) (fun hc1 => ?_)))))))))
 ·refine .sr fun k4 => st (.as (.cW (f := isU))) rfl (st (.as (.cU 0 rfl)) rfl (st (.as (.cB false)) rfl (nkQ k4 (.ret (.thr (rtN (.inl rfl) Tryz.results106 rfl rfl (.tmp (Has.t' rfl ?_) (.tmp (Has.t' rfl ?_) (.tmp (Has.t' rfl ?_) .nil)))))))))
  ·exact qH (by rw [hc1, Nat.div_zero, zH])
  ·exact zU (by rw [if_pos hc1])
  ·exact zg (by simp [hc1])
 ·refine .skip (.nk k2 (.sr fun k5 => stM rfl (.callO (rI (by omega)) (.cons (.t rfl) .nil) rfl (fun hO2 => ?_) (fun hO2 b1 cb1 jb1 => ?_))))
  ·refine stM rfl (nkQ k5 (.sr fun k6 => st (.as (.cU 0 rfl)) rfl (nkQ k6 (.sq fun k7 => .sr fun k8 => stM rfl (st (.len ze (.t rfl)) rfl (st (.subI (.t rfl) (.cI 1 rfl) (by omega) (by simp only [List.length_nil]; omega)) rfl ?_))))))
   refine stM rfl (nkQ k8 (.w [0,1,4,5,6,7,8] rfl (.block (.loopF [0,1,4,5,6] (fun (_ : Unit) => [(8, isI (-1)), (7, isU 0)]) (fun M => fun (_ : Unit) => M) (fun (_ : Unit) => 0) (()) (Cv.mem (.c 8 rfl ?_ (.c 7 rfl ?_ (.l [0,1,4,5,6] rfl))) ?_) ?_))))
   ·rfl
   ·rfl
   ·rfl
   rintro _ K9 hK9
   refine .w [8,7,0,1,4,5,6] rfl (.sq fun k10 => .sr fun k11 => stM rfl (st (.geI (.t rfl) (.cI 0 rfl)) rfl (nkQ k11 (.cd rfl (fun hc3 => ?_) (fun hc3 => ?_)))))
   ·exfalso; first | omega | contradiction | (revert hc3; simp)
   ·refine .exit (.the (.the (.blh (.nk k7 (.sr fun k12 => stM rfl (st (.call (vt (by show (zA 0).length ≤ _; rw [zH]; exact Nat.zero_le _)) (.cons (.t rfl) .nil)) rfl ?_))))))
    refine stM rfl (stM rfl (stM rfl (st (.as (.cB true)) rfl (nkQ k12 (.w [4,5,6] rfl (.ret (rtN (.inl rfl) Tryz.results106 rfl rfl (.tmp (Has.t' rfl ?_) (.tmp (Has.t' rfl ?_) (.tmp (Has.t' rfl ?_) .nil))))))))))
    ·exact qH (by rw [wr hO2, Nat.zero_div]; rfl)
    ·exact zU (by rw [if_neg hc1, wr hO2, Nat.zero_mod])
    ·exact zg (by simp [hc1])
  ·refine stM rfl (nkQ k5 (.sr fun k13 => st (.as (.cU 0 rfl)) rfl (nkQ k13 (.sq fun k14 => .sr fun k15 => stM rfl (st (.len ze (.t rfl)) rfl (st (.subI (.t rfl) (.cI 1 rfl) (by omega) (by omega)) rfl (stM rfl (nkQ k15 (.w [0,1,4,5,6,7,8] rfl (.block (.loopF [0,1,4,5,6] (fun (z : { k : Nat // k ≤ (List.length (zA (val xs))) }) => match z with | ⟨k, hI⟩ => [(8, isI ((k : Int) - 1)), (7, isU (val xs / W ^ k % x))]) (fun M => fun (z : { k : Nat // k ≤ (List.length (zA (val xs))) }) => match z with | ⟨k, hI⟩ => [(some b1, zC (List.map isU (mix k (val xs) (val xs / x) ((List.length (zA (val xs)))) ++ List.replicate jb1 0)))]) (fun (z : { k : Nat // k ≤ (List.length (zA (val xs))) }) => match z with | ⟨k, hI⟩ => k) (⟨(List.length (zA (val xs))), Nat.le_refl _⟩) (Cv.mem (.c 8 rfl ?_ (.c 7 rfl ?_ (.l [0,1,4,5,6] rfl))) ?_) ?_)))))))))))
   ·rfl
   ·exact zU (by rw [Nat.div_eq_of_lt (qy _), Nat.zero_mod])
   ·exact qo (mi _ _ _)
   rintro ⟨k, hI⟩ K16 hK16
   refine .w [8,7,0,1,4,5,6] rfl (.memEq (M' := [(some b1, zC (List.map isU (mix k (val xs) (val xs / x) ((List.length (zA (val xs)))) ++ List.replicate jb1 0)))]) rfl ?_)
   have wl : (mix k (val xs) (val xs / x) ((List.length (zA (val xs)))) ++ List.replicate jb1 0).length = (List.length (zA (val xs))) + jb1 := by rw [List.length_append, jB hI, List.length_replicate]
   have ek : ((k : Int) - 1).toNat = k - 1 := by omega
   refine .sq fun k17 => .sr fun k18 => stM rfl (st (.geI (.t rfl) (.cI 0 rfl)) rfl (nkQ k18 (.cd rfl (fun hc4 => ?_) (fun hc4 => ?_))))
   ·refine .skip (.nk k17 (.sq fun k19 => .block (.region (stM rfl (stM rfl (stM rfl (stM rfl (stM rfl (st (.eq (.ixWin ze zi (.t rfl) (.t rfl) (by omega)) (qB (by exact wX))) rfl (st (.eq (.load1 (.t rfl) (i := 0) rfl zi (map_some (getD_some (d := 0) (by omega)))) ((show isU _ = isU (dig (val xs) (k - 1)) from zU (by rw [ek, lu (by rw [jB hI]; omega), zAC (by omega)])))) rfl ?_))))))))))
    refine stM rfl (st (.call (fh (Nat.mod_lt _ (by omega))) (.cons (.t rfl) (.cons (.t rfl) (.cons (.t rfl) .nil)))) rfl (stM rfl (st (.ext (.t rfl) rfl) rfl (st (.ext (.t rfl) rfl) rfl (st (.eq (.ixWin ze zi (.t rfl) (.t rfl) (by omega)) (qB (by exact wX))) rfl (.storeM (.t rfl) (.t rfl) (i := 0) rfl zi (by omega) (M' := [(_, _)]) rfl (stM rfl (nl (.bln (.nk k19 (.region (stM rfl (st (.subI (.t rfl) (.cI 1 rfl) (by omega) (by omega)) rfl (stM rfl (nl (.thn ?_))))))))))))))))
    have hs := eS (A := val xs) (x := x) (by omega) (by omega : 0 < k)
    refine hK16 (⟨k - 1, by omega⟩) _ _ ?_ (Cv.mem (.c 8 rfl ?_ (.c 7 rfl ?_ (.l [0,1,4,5,6] rfl))) ?_)
    ·show k - 1 < k; omega
    ·exact zG (by show _ = ((k - 1 : Nat) : Int) - 1; omega)
    ·exact zU hs.2
    ·exact qo (by rw [ek]; exact lO (by omega) hI hs.1)
   ·refine .exit (.the (.the (.blh (.nk k14 (.sq fun k20 => .cv (Cv.freeze' (t := 0) (i := 0) (ys := zQ ((List.length (zA (val xs)))) (val xs / x)) rfl rfl rfl (by omega) (by obtain rfl : k = 0 := (by omega); exact sT rfl)) ?_)))))
    refine .memEq (M' := []) rfl (.w [0,1,4,5,6,8,7,16,17] rfl (.region (stM rfl (st (.call (vt (by rw [xk]; exact zEE (by omega))) (.cons (.t rfl) .nil)) rfl ?_))))
    refine stM rfl (stM rfl (stM rfl (st (.as (.cB true)) rfl (nkQ k20 (.w [4,5,6] rfl (.ret (rtN (.inl rfl) Tryz.results106 rfl rfl (.tmp (Has.t' rfl ?_) (.tmp (Has.t' rfl ?_) (.tmp (Has.t' rfl ?_) .nil))))))))))
    ·exact qH (ph _ _)
    ·obtain rfl : k = 0 := (by omega); exact zU (by rw [if_neg hc1, Nat.pow_zero, Nat.div_one])
    ·exact zg (by simp [hc1])
theorem rj {u2 u1 u0 v1 v0 : Nat} (h : 0 < v1) : Ctr Tryz.prog 115 [isU u2, isU u1, isU u0, isU v1, isU v0] (isU (gss u2 u1 u0 v1 v0)) := by
 refine Ctr.i Tryz.func115 rfl Tryz.ntmps115 fun w0 F0 => .w [0,1,2,3,4] rfl (.fact (Has.ltU (Has.t (t := 0) rfl)) fun lt0 => .fact (Has.ltU (Has.t (t := 1) rfl)) fun lt1 => .fact (Has.ltU (Has.t (t := 2) rfl)) fun lt2 => .fact (Has.ltU (Has.t (t := 3) rfl)) fun lt3 => .fact (Has.ltU (Has.t (t := 4) rfl)) fun lt4 => .sr fun k1 => st (.as (.cU 0 rfl)) rfl (nkQ k1 (.sq fun k2 => .sr fun k3 => stM rfl (stM rfl (st (.gtU (.t rfl) (.t rfl)) rfl (nkQ k3 (.cd rfl (fun hc1 => ?_) (fun hc1 => ?_))))))))
 ·refine .sr fun k4 => st (.as (.cU 18446744073709551615 rfl)) rfl (nkQ k4 (.ret (.thr (rt1 (.inl rfl) Tryz.results115 rfl (.tmp (Has.t' rfl ?_) .nil)))))
  all_goals (exact zU (zAX hc1 lt4 h))
 ·refine .skip (.nk k2 (.sr fun k5 => st (.as (.cU 18446744073709551615 rfl)) rfl (st (.as (.cU 0 rfl)) rfl (st (.as (.cU 0 rfl)) rfl (nkQ k5 (.cutF [2,3,4,10] (fun (z : { z : Nat × Nat // Gw u2 u1 u0 v1 v0 z.1 z.2 }) => match z with | ⟨(q, r), hI⟩ => [(11, isU q), (12, isU (r % 18446744073709551616)), (13, isU (r / 18446744073709551616))]) (fun M => fun (z : { z : Nat × Nat // Gw u2 u1 u0 v1 v0 z.1 z.2 }) => match z with | ⟨(q, r), hI⟩ => M) (fun K6 hK6 => ?_) ?_))))))
  ·refine .sr fun k7 => stM rfl (stM rfl (st (.eqU (.t rfl) (.t rfl)) rfl (nkQ k7 (.w [0,1,2,3,4,10,11,12,13,21] rfl (.cd rfl (fun hc2 => ?_) (fun hc2 => ?_))))))
   ·refine .region (stM rfl (stM rfl (st (.add64 vk (.t rfl) (.t rfl) (.cU 0 rfl) (by omega) ⟨(by with_reducible assumption), (by with_reducible assumption)⟩) rfl (stM rfl (st (.ext (.t rfl) rfl) rfl (st (.ext (.t rfl) rfl) rfl (stM rfl (stM rfl (nl (.thn (hK6 (⟨(18446744073709551615, u1 + v1), Gw.same hc2 lt1 lt3⟩) _ _ (Cv.mem (.c 11 rfl ?_ (.c 12 rfl ?_ (.c 13 rfl ?_ (.l [2,3,4,10] rfl)))) ?_))))))))))))
    ·rfl
    ·rfl
    ·rfl
    ·rfl
   ·refine .region (stM rfl (stM rfl (stM rfl (st (.call (fh (by omega)) (.cons (.t rfl) (.cons (.t rfl) (.cons (.t rfl) .nil)))) rfl (stM rfl (st (.ext (.t rfl) rfl) rfl (st (.ext (.t rfl) rfl) rfl (stM rfl (stM rfl (nl (.thn ?_)))))))))))
    have hm := Nat.mod_lt (u2 * 18446744073709551616 + u1) h
    refine hK6 (⟨((u2 * 18446744073709551616 + u1) / v1, (u2 * 18446744073709551616 + u1) % v1), Gw.start (by omega) lt1 lt2 lt3⟩) _ _ (Cv.mem (.c 11 rfl ?_ (.c 12 rfl ?_ (.c 13 rfl ?_ (.l [2,3,4,10] rfl)))) ?_)
    ·rfl
    ·exact zU (Nat.mod_eq_of_lt (by omega)).symm
    ·exact zU (Nat.div_eq_of_lt (by omega)).symm
    ·rfl
  rintro ⟨⟨q, r⟩, g⟩
  refine .w [11,12,13,2,3,4,10] rfl ?_
  simp only [] at g
  refine .sq fun k8 => .block (.loopF [2,3,4,10] (fun (z : { z : Nat × Nat // Gw u2 u1 u0 v1 v0 z.1 z.2 }) => match z with | ⟨(q, r), hI⟩ => [(11, isU q), (12, isU (r % 18446744073709551616)), (13, isU (r / 18446744073709551616))]) (fun M => fun (z : { z : Nat × Nat // Gw u2 u1 u0 v1 v0 z.1 z.2 }) => match z with | ⟨(q, r), hI⟩ => M) (fun (z : { z : Nat × Nat // Gw u2 u1 u0 v1 v0 z.1 z.2 }) => match z with | ⟨(q, r), hI⟩ => q) (⟨(q, r), g⟩) (Cv.mem (.c 11 rfl ?_ (.c 12 rfl ?_ (.c 13 rfl ?_ (.l [2,3,4,10] rfl)))) ?_) ?_)
  ·rfl
  ·rfl
  ·rfl
  ·rfl
  rintro ⟨⟨q, r⟩, g⟩ K9 hK9
  refine .w [11,12,13,2,3,4,10] rfl ?_
  simp only [] at g
  have gq := g.q
  have gr := g.r
  refine .sq fun k10 => .sr fun k11 => stM rfl (st (.eqU (.t rfl) (.cU 0 rfl)) rfl (nkQ k11 (.cd rfl (fun hc3 => ?_) (fun hc3 => ?_))))
  ·refine .skip (.nk k10 (.block (.sr fun k12 => stM rfl (stM rfl (st (.call bZ (.cons (.t rfl) (.cons (.t rfl) .nil))) rfl (stM rfl (st (.ext (.t rfl) rfl) rfl (st (.ext (.t rfl) rfl) rfl (stM rfl (stM rfl (nkQ k12 (.sq fun k13 => .sr fun k14 => stM rfl (stM rfl (st (.ltU (.t rfl) (.t rfl)) rfl (stM rfl (stF rfl rfl (fun hg => .mv (.t rfl)) rfl (stF rfl rfl (fun hg => .mv (.t rfl)) rfl (stF rfl rfl (fun hg => .eqU (Has.g rfl hg) (Has.g rfl hg)) rfl (stF rfl rfl (fun hg => .mv (Has.g rfl hg)) rfl (iP rfl rfl (fun hg => .mv (.t rfl)) rfl (iP rfl rfl (fun hg => .mv (.t rfl)) rfl (iP rfl rfl (fun hg => .leU (Has.g rfl hg) (Has.g rfl hg)) rfl (stF rfl rfl (fun hg => .pickAnd (Has.g rfl hg) (fun h => Has.g rfl (ga hg h))) rfl (st (.pickOr (.t rfl) (fun h => Has.g rfl (ng h))) rfl (nkQ k14 (.cd rfl (fun hc4 => ?_) (fun hc4 => ?_)))))))))))))))))))))))))))
   ·have ht := (oG (p := q * v0) (r := r % 18446744073709551616) (u0 := u0) (by omega) lt2).1 hc4
    rw [Nat.mod_eq_of_lt (show r < 18446744073709551616 by omega)] at ht
    refine .exit (.the (.blm rfl (.the (.blh (.nk k8 (.w [10,11] rfl (.sr fun k15 => stM rfl (stM rfl (nkQ k15 (.ret (rt1 (.inl rfl) Tryz.results115 rfl (.tmp (Has.t' rfl ?_) .nil))))))))))))
    all_goals (exact zU (g.exit h ht))
   ·have ht : ¬ _ := fun hh => absurd ((oG (p := q * v0) (r := r % 18446744073709551616) (u0 := u0) (by omega) lt2).2 hh) (by omega)
    have hn := Gw.next h lt3 g (by omega) (by omega)
    refine .skip (.nk k13 (.sr fun k16 => stM rfl (st (.subU' (.t rfl) (.cU 1 rfl) (by omega) (by omega)) rfl (stM rfl (nkQ k16 (.region (stM rfl (stM rfl (st (.add64 vk (.t rfl) (.t rfl) (.cU 0 rfl) (by omega) ⟨(by omega), (by with_reducible assumption)⟩) rfl (stM rfl (st (.ext (.t rfl) rfl) rfl (st (.ext (.t rfl) rfl) rfl (stM rfl (stM rfl (nl (.bln (.thn (hK9 (⟨(q - 1, r + v1), hn.1⟩) _ _ ?_ (Cv.mem (.c 11 rfl ?_ (.c 12 rfl ?_ (.c 13 rfl ?_ (.l [2,3,4,10] rfl)))) ?_)))))))))))))))))))
    ·show q - 1 < q; have := hn.2; omega
    ·rfl
    ·exact zU (by show (r % _ + v1 + 0) % _ = (r + v1) % _; omega)
    ·exact zU (by show (r % _ + v1 + 0) / _ = (r + v1) / _; omega)
    ·rfl
  ·refine .exit (.the (.the (.blh (.nk k8 (.w [10,11] rfl (.sr fun k17 => stM rfl (stM rfl (nkQ k17 (.ret (rt1 (.inl rfl) Tryz.results115 rfl (.tmp (Has.t' rfl ?_) .nil)))))))))))
   all_goals (exact zU (g.exit2 h lt4 (by omega)))
end Go.Proofs.YtlebmedapfncoaaGreat
namespace Go.Proofs.YtlebmedapfncoaaGreat
open Go.En Go.RowKit
set_option maxRecDepth 10000
open Go.Nt
set_option maxHeartbeats 2000000 in
theorem uT {N v q o c m : Nat} (h2 : o + ((List.length (zA v)) + 1) ≤ m) (h3 : N / W ^ o < W ^ ((List.length (zA v)) + 1)) : CtrM Tryz.prog 116 (fun b0 => [qR b0 o ((List.length (zA v)) + 1) c, zD (zA v), isU q]) (zC (List.map isU (zQ m N))) (zC (List.map isU (zQ m (N % W ^ o + W ^ o * (jm (N / W ^ o) (v * q) ((List.length (zA v)) + 1)))))) (fun b0 => isB (decide (N / W ^ o < v * q))) := by
 refine CtrM.intro Tryz.func116 rfl (by kernel_rfl) Tryz.ntmps116 (fun _ => rfl) fun w0 F0 b0 => .w [0,1,2] rfl (.fact (Has.lenLt (Has.t (t := 0) rfl)) fun lt0 => .fact (Has.winLe (Has.t (t := 0) rfl)) fun lw0 => .fact (Has.lenLt (Has.t (t := 1) rfl)) fun lt1 => .fact (Has.okW (Has.t (t := 1) rfl)) fun ok1 => .fact (Has.ltU (Has.t (t := 2) rfl)) fun lt2 => .sr fun k1 => st (.as (.cB false)) rfl (nkQ k1 (.sr fun k2 => st (.as (.cU 0 rfl)) rfl (st (.as (.cU 0 rfl)) rfl (nkQ k2 (.sq fun k3 => .sr fun k4 => stM rfl (st (.len ze (.t rfl)) rfl (st (.mv (.cI 0 rfl)) rfl (nkQ k4 (.block (.loopF [0,1,2,6,14,15] (fun (z : { i : Nat // i ≤ (List.length (zA v)) }) => match z with | ⟨i, hI⟩ => [(16, isI (i : Int)), (7, isU (wD 0 v q i)), (8, isU (bor (N / W ^ o) (v * q) i))]) (fun M => fun (z : { i : Nat // i ≤ (List.length (zA v)) }) => match z with | ⟨i, hI⟩ => [(some b0, zC (List.map isU (mix (o + i) (N % W ^ o + W ^ o * (jm (N / W ^ o) (v * q) ((List.length (zA v)) + 1))) N m)))]) (fun (z : { i : Nat // i ≤ (List.length (zA v)) }) => match z with | ⟨i, hI⟩ => (List.length (zA v)) - i) (⟨0, Nat.zero_le _⟩) (Cv.mem (.c 16 rfl ?_ (.c 7 rfl ?_ (.c 8 rfl ?_ (.l [0,1,2,6,14,15] rfl)))) ?_) ?_)))))))))))
 ·rfl
 ·exact zU (gW _ _ _)
 ·exact zU (mO _ _)
 ·exact qo (wV (by omega) (iJ _ _ _))
 rintro ⟨i, hI⟩ K5 hK5
 refine .w [16,7,8,0,1,2,6,14,15] rfl (.memEq (M' := [(some b0, zC (List.map isU (mix (o + i) (N % W ^ o + W ^ o * (jm (N / W ^ o) (v * q) ((List.length (zA v)) + 1))) N m)))]) rfl ?_)
 have wl : (mix (o + i) (N % W ^ o + W ^ o * (jm (N / W ^ o) (v * q) ((List.length (zA v)) + 1))) N m).length = m := jB (by omega)
 have hcl := Nat.lt_of_le_of_lt (cF 0 v q i) lt2
 have hrow := pn lt2 (qr v i) hcl (qr _ _) (gT v q i)
 refine .sr fun k6 => st (.ltI (.t rfl) (.t rfl)) rfl (nkQ k6 (.sq fun k7 => .cd rfl (fun hc1 => ?_) (fun hc1 => ?_)))
 ·refine .skip (.nk k7 (.sq fun k8 => .block (.sr fun k9 => stM rfl (st (.ixP ze zi (.t rfl) (.t rfl) (by omega) (getD_some (d := 0) (by omega))) rfl (st (.eq (.loadP1 (.t rfl) zi) (zU (qC _ i))) rfl (stM rfl (stM rfl (nkQ k9 (.sr fun k10 => stM rfl (stM rfl (st (.call (bZ) (.cons (.t rfl) (.cons (.t rfl) .nil))) rfl (stM rfl (st (.ext (.t rfl) rfl) rfl (st (.ext (.t rfl) rfl) rfl (stM rfl (stM rfl (nkQ k10 (.sr fun k11 => st (.as (.cU 0 rfl)) rfl (nkQ k11 (.sr fun k12 => stM rfl (stM rfl (st (.add64 vk (.t rfl) (.t rfl) (.cU 0 rfl) (by omega) ⟨(by omega), (by with_reducible assumption)⟩) rfl (stM rfl (st (.ext (.t rfl) rfl) rfl (st (.ext (.t rfl) rfl) rfl (stM rfl (stM rfl (nkQ k12 (.sr fun k13 => stM rfl (stM rfl (st (.addU' (.t rfl) (.t rfl) (by omega)) rfl ?_)))))))))))))))))))))))))))))))
  refine stM rfl (nkQ k13 (.region (stM rfl (stM rfl (stM rfl (stM rfl (st (.eq (.ixWin ze zi (.t rfl) (.t rfl) (by omega)) (qB (by exact dN))) rfl (st (.eq (.load1 (.t rfl) (i := 0) rfl zi (map_some (getD_some (d := 0) (by omega)))) (zU (mr (by omega)))) rfl (stM rfl (stM rfl (st (.sub64 ct (.t rfl) (.t rfl) (.t rfl) (by with_reducible exact kQ _ _ _) ⟨(by with_reducible exact qr _ _), (by omega)⟩) rfl (stM rfl (st (.ext (.t rfl) rfl) rfl (st (.ext (.t rfl) rfl) rfl (st (.eq (.ixWin ze zi (.t rfl) (.t rfl) (by omega)) (qB (by exact dN))) rfl (.storeM (.t rfl) (.t rfl) (i := 0) rfl zi (by omega) (M' := [(_, _)]) rfl (stM rfl (nl (.bln (.nk k8 (.region (st (.addI (.t rfl) (.cI 1 rfl) (by omega) (by omega)) rfl (stM rfl (nl (.thn (hK5 (⟨i + 1, by omega⟩) _ _ ?_ (Cv.mem (.c 16 rfl ?_ (.c 7 rfl ?_ (.c 8 rfl ?_ (.l [0,1,2,6,14,15] rfl)))) ?_)))))))))))))))))))))))))))
  ·show (List.length (zA v)) - (i + 1) < (List.length (zA v)) - i; omega
  ·rfl
  ·exact zU hrow.2.1
  ·exact zU (by rw [hrow.1]; exact cX _ _ _)
  ·exact qo (iK (by omega) (by rw [hrow.1]; exact sG (oB (qy v) lt2) (by omega)))
 ·refine .exit (.the (.the (.blh (.nk k3 (.w [0,1,6,7,8] rfl (.sr fun k14 => stM rfl (stM rfl (st (.len ze (.t rfl)) rfl (stM rfl (stM rfl (st (.len ze (.t rfl)) rfl (st (.eq (.ixWin ze zi (.t rfl) (.t rfl) (by omega)) (qB (by exact dN))) rfl (st (.eq (.load1 (.t rfl) (i := 0) rfl zi (map_some (getD_some (d := 0) (by omega)))) ((zU (oV (j := (List.length (zA v))) (by omega) (by omega))))) rfl (stM rfl (stM rfl (st (.sub64 (l := dig (N / W ^ o) ((List.length (zA v)))) (m := wD 0 v q i) (c := bor (N / W ^ o) (v * q) i) ct (.t rfl) (.t rfl) (.t rfl) (kQ _ _ _) ⟨qr _ _, hcl⟩) rfl (stM rfl (st (.ext (.t rfl) rfl) rfl (st (.ext (.t rfl) rfl) rfl (st (.eq (.ixWin ze zi (.t rfl) (.t rfl) (by omega)) (qB (by exact dN))) rfl (.storeM (.t rfl) (.t rfl) (i := 0) rfl zi (by omega) (M' := [(_, _)]) rfl (stM rfl (nkQ k14 (.w [6,8] rfl (.sr fun k15 => stM rfl (st (.neU (.t rfl) (.cU 0 rfl)) rfl (stM rfl (nkQ k15 (.ret (yh (.inl rfl) Tryz.results116 rfl (i := 0) ?_ (.tmp (Has.t' rfl ?_) .nil)))))))))))))))))))))))))))))))
  ·obtain rfl : i = (List.length (zA v)) := (by omega); exact ij ((iK (by omega) (yR (qy v) lt2)).trans (sF (by omega) h3 (kj _ _ _)))
  ·obtain rfl : i = (List.length (zA v)) := (by omega); exact zg (yS (qy v) lt2 h3)
set_option maxHeartbeats 2000000 in
theorem uV {N v o c m : Nat} (h2 : o + ((List.length (zA v)) + 1) ≤ m) (h3 : N / W ^ o < W ^ ((List.length (zA v)) + 1)) : CtrM Tryz.prog 117 (fun b0 => [qR b0 o ((List.length (zA v)) + 1) c, zD (zA v)]) (zC (List.map isU (zQ m N))) (zC (List.map isU (zQ m (N % W ^ o + W ^ o * (fp (N / W ^ o) v ((List.length (zA v)) + 1)))))) (fun b0 => zW []) := by
 refine CtrM.intro Tryz.func117 rfl (by kernel_rfl) Tryz.ntmps117 (fun _ => rfl) fun w0 F0 b0 => .w [0,1] rfl (.fact (Has.lenLt (Has.t (t := 0) rfl)) fun lt0 => .fact (Has.winLe (Has.t (t := 0) rfl)) fun lw0 => .fact (Has.lenLt (Has.t (t := 1) rfl)) fun lt1 => .fact (Has.okW (Has.t (t := 1) rfl)) fun ok1 => .sr fun k1 => st (.as (.cU 0 rfl)) rfl (nkQ k1 (.sq fun k2 => .sr fun k3 => stM rfl (st (.len ze (.t rfl)) rfl (st (.mv (.cI 0 rfl)) rfl (nkQ k3 (.block (.loopF [0,1,7,8] (fun (z : { i : Nat // i ≤ (List.length (zA v)) }) => match z with | ⟨i, hI⟩ => [(9, isI (i : Int)), (4, isU (car (N / W ^ o) v i))]) (fun M => fun (z : { i : Nat // i ≤ (List.length (zA v)) }) => match z with | ⟨i, hI⟩ => [(some b0, zC (List.map isU (mix (o + i) (N % W ^ o + W ^ o * (fp (N / W ^ o) v ((List.length (zA v)) + 1))) N m)))]) (fun (z : { i : Nat // i ≤ (List.length (zA v)) }) => match z with | ⟨i, hI⟩ => (List.length (zA v)) - i) (⟨0, Nat.zero_le _⟩) (Cv.mem (.c 9 rfl ?_ (.c 4 rfl ?_ (.l [0,1,7,8] rfl))) ?_) ?_))))))))
 ·rfl
 ·exact zU (mJ _ _)
 ·exact qo (wV (by omega) (iJ _ _ _))
 rintro ⟨i, hI⟩ K4 hK4
 refine .w [9,4,0,1,7,8] rfl (.memEq (M' := [(some b0, zC (List.map isU (mix (o + i) (N % W ^ o + W ^ o * (fp (N / W ^ o) v ((List.length (zA v)) + 1))) N m)))]) rfl ?_)
 have wl : (mix (o + i) (N % W ^ o + W ^ o * (fp (N / W ^ o) v ((List.length (zA v)) + 1))) N m).length = m := jB (by omega)
 refine .sr fun k5 => st (.ltI (.t rfl) (.t rfl)) rfl (nkQ k5 (.sq fun k6 => .cd rfl (fun hc1 => ?_) (fun hc1 => ?_)))
 ·refine .skip (.nk k6 (.sq fun k7 => .block (.sr fun k8 => stM rfl (st (.ixP ze zi (.t rfl) (.t rfl) (by omega) (getD_some (d := 0) (by omega))) rfl (st (.eq (.loadP1 (.t rfl) zi) (zU (qC _ i))) rfl (stM rfl (stM rfl (nkQ k8 (.region (stM rfl (stM rfl (stM rfl (stM rfl (st (.eq (.ixWin ze zi (.t rfl) (.t rfl) (by omega)) (qB (by exact dN))) rfl (st (.eq (.load1 (.t rfl) (i := 0) rfl zi (map_some (getD_some (d := 0) (by omega)))) (zU (mr (by omega)))) rfl (stM rfl (stM rfl (st (.add64 vk (.t rfl) (.t rfl) (.t rfl) (by with_reducible exact nn _ _ _) ⟨(by with_reducible exact qr _ _), (by with_reducible exact qr _ _)⟩) rfl (stM rfl (st (.ext (.t rfl) rfl) rfl (st (.ext (.t rfl) rfl) rfl (st (.eq (.ixWin ze zi (.t rfl) (.t rfl) (by omega)) (qB (by exact dN))) rfl (.storeM (.t rfl) (.t rfl) (i := 0) rfl zi (by omega) (M' := [(_, _)]) rfl (stM rfl (nl (.bln (.nk k7 (.region (st (.addI (.t rfl) (.cI 1 rfl) (by omega) (by omega)) rfl (stM rfl (nl ?_)))))))))))))))))))))))))))))))
  refine .thn (hK4 (⟨i + 1, by omega⟩) _ _ ?_ (Cv.mem (.c 9 rfl ?_ (.c 4 rfl ?_ (.l [0,1,7,8] rfl))) ?_))
  ·show (List.length (zA v)) - (i + 1) < (List.length (zA v)) - i; omega
  ·rfl
  ·exact zU (pX _ _ _)
  ·exact qo (iK (by omega) (sB (by omega)))
 ·refine .exit (.the (.the (.blh (.nk k2 (.region (stM rfl (stM rfl (st (.len ze (.t rfl)) rfl (st (.eq (.ixWin ze zi (.t rfl) (.t rfl) (by omega)) (qB (by exact dN))) rfl (st (.eq (.load1 (.t rfl) (i := 0) rfl zi (map_some (getD_some (d := 0) (by omega)))) ((zU (oV (j := (List.length (zA v))) (by omega) (by omega))))) rfl (stM rfl (st (.addU (.t rfl) (.t rfl)) rfl (st (.eq (.ixWin ze zi (.t rfl) (.t rfl) (by omega)) (qB (by exact dN))) rfl (.storeM (.t rfl) (.t rfl) (i := 0) rfl zi (by omega) (M' := [(_, _)]) rfl (nl (zGF (.inr rfl) Tryz.results117 rfl (i := 0) ?_))))))))))))))))
  all_goals (obtain rfl : i = (List.length (zA v)) := (by omega); exact ij ((iK (by omega) (zBX (qy v))).trans (sF (by omega) h3 (yH _ _ _))))
end Go.Proofs.YtlebmedapfncoaaGreat
namespace Go.Proofs.YtlebmedapfncoaaGreat
open Go.En Go.RowKit
set_option maxRecDepth 10000
set_option maxHeartbeats 4000000
open Go.Nt
theorem uU {N v c m : Nat} (hn : 2 ≤ (List.length (zA v))) (hm : (List.length (zA v)) < m) (hM : m ≤ 4294967296) (hN : N < v * W ^ (m - (List.length (zA v)))) : CtrM Tryz.prog 109 (fun b0 => [qR b0 0 m c, zD (zA v)]) (zC (List.map isU (zQ m N))) (zC (List.map isU (zQ m (left N v 0)))) (fun b0 => zD (zQ (m - (List.length (zA v))) (N / v))) := by
 refine CtrM.intro Tryz.func109 rfl (by kernel_rfl) Tryz.ntmps109 (fun _ => rfl) fun w0 F0 b0 => .w [0,1] rfl (.fact (Has.lenLt (Has.t (t := 0) rfl)) fun lt0 => .fact (Has.winLe (Has.t (t := 0) rfl)) fun lw0 => .fact (Has.lenLt (Has.t (t := 1) rfl)) fun lt1 => .fact (Has.okW (Has.t (t := 1) rfl)) fun ok1 => .sr fun k1 => st (.as (.cW (f := isU))) rfl (nkQ k1 (.sr fun k2 => stM rfl (st (.len ze (.t rfl)) rfl (stM rfl (nkQ k2 (.sr fun k3 => stM rfl (st (.len ze (.t rfl)) rfl (stM rfl (st (.eq (.subI (.t rfl) (.t rfl) (by omega) (by omega)) ((show isI _ = isI ((m - (List.length (zA v)) : Nat) : Int) from zG (by omega)))) rfl (.make (f := isU) (u := 0) (n := m - (List.length (zA v))) (c := m - (List.length (zA v))) ze zi vx (fun _ _ => ⟨⟨rfl, by decide⟩, trivial⟩) ff (Has.t' rfl rfl) (Has.t' rfl rfl) (by omega) rfl fun b1 => stM rfl (nkQ k3 (.w [0,1,4,5,6] rfl (.sq fun k4 => .sr fun k5 => stM rfl (st (.len ze (.t rfl)) rfl (st (.subI (.t rfl) (.cI 1 rfl) (by omega) (by omega)) rfl (stM rfl (nkQ k5 (.block (.loopF [0,1,4,5,6] (fun (z : { k : Nat // k ≤ m - (List.length (zA v)) }) => match z with | ⟨k, hI⟩ => [(7, isI ((k : Int) - 1))]) (fun M => fun (z : { k : Nat // k ≤ m - (List.length (zA v)) }) => match z with | ⟨k, hI⟩ => [(some b1, zC (List.map isU (mix k 0 (N / v) (m - (List.length (zA v)))))), (some b0, zC (List.map isU (zQ m (left N v k))))]) (fun (z : { k : Nat // k ≤ m - (List.length (zA v)) }) => match z with | ⟨k, hI⟩ => k) (⟨m - (List.length (zA v)), Nat.le_refl _⟩) (Cv.mem (.c 7 rfl ?_ (.l [0,1,4,5,6] rfl)) ?_) ?_))))))))))))))))))))
 ·rfl
 ·exact il (tH _ _) (by rw [ta hN])
 rintro ⟨k, hI⟩ K6 hK6
 refine .w [7,0,1,4,5,6] rfl (.memEq (M' := [(some b1, zC (List.map isU (mix k 0 (N / v) (m - (List.length (zA v)))))), (some b0, zC (List.map isU (zQ m (left N v k))))]) rfl ?_)
 have wl : (zQ m (left N v k)).length = m := zt _ _
 have wl2 : (mix k 0 (N / v) (m - (List.length (zA v)))).length = m - (List.length (zA v)) := jB hI
 refine .sq fun k7 => .sr fun k8 => stM rfl (st (.geI (.t rfl) (.cI 0 rfl)) rfl (nkQ k8 (.cd rfl (fun hc1 => ?_) (fun hc1 => ?_))))
 ·obtain ⟨j, rfl⟩ : ∃ j, k = j + 1 := ⟨k - 1, by omega⟩
  obtain ⟨k2, hk2⟩ : ∃ k2, (List.length (zA v)) = k2 + 2 := ⟨(List.length (zA v)) - 2, by omega⟩
  have ej : (((j + 1 : Nat) : Int) - 1) = (j : Int) := by omega
  obtain ⟨g, hg⟩ : ∃ g, g = gss (dig (left N v (j + 1) / W ^ j) (k2 + 2)) (dig (left N v (j + 1) / W ^ j) (k2 + 1)) (dig (left N v (j + 1) / W ^ j) k2) (dig v (k2 + 1)) (dig v k2) := ⟨_, rfl⟩
  have hgl : g < 18446744073709551616 := hg ▸ zEU _ _ _ _ _
  have R := kx hk2 hg hgl
  refine .skip (.nk k7 (.sq fun k9 => .block (.sq fun k10 => .dr (.m [] rfl (.so [] rfl (.eq (.mv (.t rfl)) ((zG ej))) (.m [] rfl (.so [25,26] rfl (.addI (.t rfl) (.t rfl) (by omega) (by omega)) ?_)))))))
  refine .so [24,27] rfl (.eq (.ixWin ze zi (.t rfl) (.t rfl) (by omega)) (qB (by exact wX))) (.so [28] rfl (.eq (.load1 (.t rfl) (i := 1) rfl zi (map_some (getD_some (d := 0) (by omega)))) ((show isU _ = isU (dig (left N v (j + 1) / W ^ j) (k2 + 2)) from zU (zFC (by omega) (by omega))))) (.m [] rfl (.so [] rfl (.eq (.mv (.t rfl)) ((zG ej))) (.m [] rfl (.so [31,32] rfl (.addI (.t rfl) (.t rfl) (by omega) (by omega)) ?_)))))
  refine .so [33] rfl (.subI (.t rfl) (.cI 1 rfl) (by omega) (by omega)) ?_
  refine .so [30,34] rfl (.eq (.ixWin ze zi (.t rfl) (.t rfl) (by omega)) (qB (by exact wX))) (.so [35] rfl (.eq (.load1 (.t rfl) (i := 1) rfl zi (map_some (getD_some (d := 0) (by omega)))) ((show isU _ = isU (dig (left N v (j + 1) / W ^ j) (k2 + 1)) from zU (zFC (by omega) (by omega))))) (.m [] rfl (.so [] rfl (.eq (.mv (.t rfl)) ((zG ej))) (.m [] rfl (.so [38,39] rfl (.addI (.t rfl) (.t rfl) (by omega) (by omega)) ?_)))))
  refine .so [40] rfl (.subI (.t rfl) (.cI 2 rfl) (by omega) (by omega)) ?_
  refine .so [37,41] rfl (.eq (.ixWin ze zi (.t rfl) (.t rfl) (by omega)) (qB (by exact wX))) (.so [42] rfl (.eq (.load1 (.t rfl) (i := 1) rfl zi (map_some (getD_some (d := 0) (by omega)))) ((show isU _ = isU (dig (left N v (j + 1) / W ^ j) (k2)) from zU (zFC (by omega) (by omega))))) (.m [] rfl (.m [] rfl (.so [45] rfl (.subI (.t rfl) (.cI 1 rfl) (by omega) (by omega)) ?_))))
  refine .so [44,46] rfl (.ixP ze zi (.t rfl) (.t rfl) (by omega) (getD_some (d := 0) (by omega))) (.so [47] rfl (.eq (.loadP1 (.t rfl) zi) ((show isU _ = isU (dig v (k2 + 1)) from zU (zBC (by omega))))) (.m [] rfl (.m [] rfl (.so [50] rfl (.subI (.t rfl) (.cI 2 rfl) (by omega) (by omega)) ?_))))
  refine .so [49,51] rfl (.ixP ze zi (.t rfl) (.t rfl) (by omega) (getD_some (d := 0) (by omega))) (.so [52] rfl (.eq (.loadP1 (.t rfl) zi) ((show isU _ = isU (dig v k2) from zU (zBC (by omega))))) (.fn (n := 30) zY (.w [0,1,4,5,6,7,20,21,24,25,26,27,28,29,30,31,32,33,34,35,36,37,38,39,40,41,42,43,44,45,46,47,48,49,50,51,52,53] rfl (st (.eq (.call (rj R.hd) (.cons (.t rfl) (.cons (.t rfl) (.cons (.t rfl) (.cons (.t rfl) (.cons (.t rfl) .nil)))))) ((show isU _ = isU g from zU hg.symm))) rfl (stM rfl (nkQ k10 (.sr fun k11 => stM rfl (st (.eq (.mv (.t rfl)) ((zG ej))) rfl (st (.eq (.mv (.t rfl)) ((zG ej))) rfl (stM rfl (st (.addI (.t rfl) (.t rfl) (by omega) (by omega)) rfl (st (.addI (.t rfl) (.cI 1 rfl) (by omega) (by omega)) rfl (st (.eq (.eq (.slLHWin ze zi (.t rfl) (.t rfl) (.t rfl) ⟨by omega, by omega, by omega, by omega⟩) (fK (by exact wX) rfl rfl)) ((show qR _ _ _ _ = qR b0 j ((List.length (zA v)) + 1) (c - j) from fK (by omega) (by omega) (by omega)))) rfl (stM rfl (nkQ k11 (.sq fun k12 => .sr fun k13 => stM rfl (stM rfl (stM rfl (.callM (uT (N := left N v (j + 1)) (o := j) (v := v) (q := g) (m := m) (by omega) R.hw) (i := 1) rfl (.cons (.t rfl) (.cons (.t rfl) (.cons (.t rfl) .nil))) rfl (M' := [_, (_, _)]) rfl (nkQ k13 (.cd rfl (fun hc2 => ?_) (fun hc2 => ?_))))))))))))))))))))))
  ·have hbk := R.bk hc2
   have hg1 := hbk.2.1
   refine .sr fun k14 => stM rfl (st (.subU' (.t rfl) (.cU 1 rfl) (by with_reducible assumption) (by with_reducible assumption)) rfl (stM rfl (nkQ k14 (.region (stM rfl (stM rfl (.callM (uV (N := left N v (j + 1) % W ^ j + W ^ j * jm (left N v (j + 1) / W ^ j) (v * g) ((List.length (zA v)) + 1)) (o := j) (m := m) (by omega) (by rw [bh]; exact kj _ _ _)) (i := 1) rfl (.cons (.t rfl) (.cons (.t rfl) .nil)) rfl (M' := [_, (_, _)]) rfl ?_)))))))
   refine nkQ k12 (.region (stM rfl (st (.eq (.mv (.t rfl)) ((zG ej))) rfl (stM rfl (st (.eq (.ixWin ze zi (.t rfl) (.t rfl) (by omega)) (qB (by exact wX))) rfl (.storeM (.t rfl) (.t rfl) (i := 0) rfl zi (by omega) (M' := [(_, _), _]) rfl (nl (.bln (.nk k9 (.region (stM rfl (st (.subI (.t rfl) (.cI 1 rfl) (by omega) (by omega)) rfl (stM rfl (nl (.thn (hK6 (⟨j, by omega⟩) _ _ ?_ (Cv.mem (.c 7 rfl ?_ (.l [0,1,4,5,6] rfl)) ?_)))))))))))))))))
   ·show j < j + 1; omega
   ·exact zG (by show (((j + 1 : Nat) : Int) - 1) - 1 = (j : Int) - 1; omega)
   ·exact il (gV (k := j + 1) (by omega) hI hbk.1) (gE hbk.2.2)
  ·have hfi := R.fine (by omega)
   refine .skip (.nk k12 (.region (stM rfl (st (.eq (.mv (.t rfl)) ((zG ej))) rfl (stM rfl (st (.eq (.ixWin ze zi (.t rfl) (.t rfl) (by omega)) (qB (by exact wX))) rfl (.storeM (.t rfl) (.t rfl) (i := 0) rfl zi (by omega) (M' := [(_, _), _]) rfl (nl (.bln (.nk k9 (.region (stM rfl (st (.subI (.t rfl) (.cI 1 rfl) (by omega) (by omega)) rfl (stM rfl (nl (.thn (hK6 (⟨j, by omega⟩) _ _ ?_ (Cv.mem (.c 7 rfl ?_ (.l [0,1,4,5,6] rfl)) ?_))))))))))))))))))
   ·show j < j + 1; omega
   ·exact zG (by show (((j + 1 : Nat) : Int) - 1) - 1 = (j : Int) - 1; omega)
   ·exact il (gV (k := j + 1) (by omega) hI hfi.1) (gE hfi.2)
 ·refine .exit (.the (.the (.blh (.nk k4 (.w [4,6] rfl (.sq fun k15 => .cv (Cv.freezeM (t := 6) (i := 0) (j := 1) (ys := zQ (m - (List.length (zA v))) (N / v)) rfl rfl rfl rfl rfl (by omega) (by obtain rfl : k = 0 := (by omega); rw [zDY]; exact wy (zt _ _).symm)) ?_))))))
  refine .memEq (M' := [_]) rfl (.w [4,6] rfl (.region (stM rfl (stM rfl (nkQ k15 (.ret (yh (.inl rfl) Tryz.results109 rfl (i := 0) ?_ (.tmp (Has.t' rfl ?_) .nil))))))))
  ·obtain rfl : k = 0 := (by omega); rfl
  ·rfl
theorem tI {B : Nat} (h : (List.length (zA B)) = 1) : (zA B).getD 0 0 = B := by
 rw [qC, aA, Nat.pow_zero, Nat.div_one, Nat.mod_eq_of_lt (dL (by omega))]
theorem uv {A : Nat} (h : (List.length (zA A)) ≠ 0) : 64 * (((List.length (zA A)) : Int) - 1) + ((bitLen (dig A ((List.length (zA A)) - 1)) : Nat) : Int) = ((bitLen A : Nat) : Int) := by
 have hA : A ≠ 0 := fun e => h (by rw [e, zH]; rfl)
 have := nr hA
 omega
theorem nc {xs ys : List Nat} (hx : (List.length (zA (val xs))) < 4294800000) (hy : (List.length (zA (val ys))) < 4294800000) : Ctr Tryz.prog 88 [zD xs, zD ys] (zW [zD (zA (val xs / val ys)), zD (zA (if val ys = 0 then 0 else val xs % val ys)), isB (decide (val ys ≠ 0))]) := by
 refine Ctr.i Tryz.func88 rfl Tryz.ntmps88 fun w0 F0 => .w [0,1] rfl (.fact (Has.lenLt (Has.t (t := 0) rfl)) fun lt0 => .fact (Has.okW (Has.t (t := 0) rfl)) fun ok0 => .fact (Has.lenLt (Has.t (t := 1) rfl)) fun lt1 => .fact (Has.okW (Has.t (t := 1) rfl)) fun ok1 => .sr fun k1 => st (.as (.cW (f := isU))) rfl (st (.as (.cW (f := isU))) rfl (st (.as (.cB false)) rfl (nkQ k1 (.sr fun k2 => stM rfl (st (.eq (.call (vt (by omega)) (.cons (.t rfl) .nil)) (by rfl)) rfl (stM rfl (st (.eq (.call (vt (by omega)) (.cons (.t rfl) .nil)) (by rfl)) rfl (stM rfl (stM rfl (nkQ k2 (.sq fun k3 => .block (.sr fun k4 => stM rfl (st (.len ze (.t rfl)) rfl (st (.eqI (.t rfl) (.cI 0 rfl)) rfl (stM rfl (nkQ k4 (.w [0,1,4,5,6,23] rfl (.cd rfl (fun hc1 => ?_) (fun hc1 => ?_))))))))))))))))))))
 ·refine .sr fun k5 => st (.as (.cW (f := isU))) rfl (st (.as (.cW (f := isU))) rfl (st (.as (.cB false)) rfl (nkQ k5 (.ret (.blr (.thr (rtN (.inl rfl) Tryz.results88 rfl rfl (.tmp (Has.t' rfl ?_) (.tmp (Has.t' rfl ?_) (.tmp (Has.t' rfl ?_) .nil))))))))))
  ·exact qH (by rw [bK (A := val ys) (by omega), Nat.div_zero, zH])
  ·exact qH (by rw [if_pos (bK (A := val ys) (by omega)), zH])
  ·exact zg (by simp [bK (show (List.length (zA (val ys))) = 0 by omega)])
 ·refine .sr fun k6 => stM rfl (stM rfl (st (.eq (.call (df) (.cons (.t rfl) (.cons (.t rfl) .nil))) (by simp only [zB]; rfl)) rfl ?_))
  refine st (.ltI (.t rfl) (.cI 0 rfl)) rfl (stM rfl (nkQ k6 (.w [0,1,4,5,6,27] rfl (.cd rfl (fun hc2 => ?_) (fun hc2 => ?_)))))
  ·have hlt := cS.1 hc2
   refine .sr fun k7 => stM rfl (st (.as (.cW (f := isU))) rfl (stM rfl (st (.as (.cB true)) rfl (nkQ k7 (.ret (.blr (.thr (rtN (.inl rfl) Tryz.results88 rfl rfl (.tmp (Has.t' rfl ?_) (.tmp (Has.t' rfl ?_) (.tmp (Has.t' rfl ?_) .nil)))))))))))
   ·exact qH (by rw [Nat.div_eq_of_lt hlt, zH])
   ·exact qH (by rw [if_neg (by omega), Nat.mod_eq_of_lt hlt])
   ·exact zg (by simp; omega)
  ·have hle : val ys ≤ val xs := Nat.le_of_not_lt (fun h => by have := cS.2 h; omega)
   refine .sr fun k8 => stM rfl (st (.len ze (.t rfl)) rfl (st (.eqI (.t rfl) (.cI 1 rfl)) rfl (stM rfl (nkQ k8 (.cd rfl (fun hc3 => ?_) (fun hc3 => ?_))))))
   ·have hB : val ys ≠ 0 := fun e => by rw [e, zH] at hc1; simp at hc1
    refine .sr fun k9 => stM rfl (stM rfl (st (.ixP ze zi (.t rfl) (.cI 0 rfl) (by omega) (getD_some (d := 0) (by omega))) rfl (st (.eq (.loadP1 (.t rfl) zi) ((show isU _ = isU (val ys) from zU (tI (by omega))))) rfl (st (.eq (.call (rm (by simp only [zB]; omega)) (.cons (.t rfl) (.cons (.t rfl) .nil))) (by simp only [zB]; rfl)) rfl ?_))))
    refine stM rfl (st (.ext (.t rfl) rfl) rfl (st (.ext (.t rfl) rfl) rfl (st (.ext (.t rfl) rfl) rfl (stM rfl (stM rfl (stM rfl (nkQ k9 (.w [0,1,4,5,6,7,8] rfl (.sr fun k10 => stM rfl (stM rfl (st (.call (nD) (.cons (.t rfl) .nil)) rfl (stM rfl (stM rfl (st (.as (.cB true)) rfl (nkQ k10 (.w [0,1,4,5,6] rfl (.ret (.blr (.thr (rtN (.inl rfl) Tryz.results88 rfl rfl (.tmp (Has.t' rfl ?_) (.tmp (Has.t' rfl ?_) (.tmp (Has.t' rfl ?_) .nil)))))))))))))))))))))))
    ·rfl
    ·rfl
    ·exact zg (by simp [hB])
   ·have hB : val ys ≠ 0 := fun e => by rw [e, zH] at hc1; simp at hc1
    obtain ⟨k, hk⟩ : ∃ k, k = 64 - bitLen (dig (val ys) ((List.length (zA (val ys))) - 1)) := ⟨_, rfl⟩
    have D := dm hB hle hk
    have Dk := D.k64
    have Dv := D.v
    have Dw := D.w
    have Dl := D.le
    refine .skip (.bln (.nk k3 (.w [0,1,4,5,6] rfl (.sr fun k11 => stM rfl (stM rfl (st (.len ze (.t rfl)) rfl (st (.subI (.t rfl) (.cI 1 rfl) (by omega) (by omega)) rfl (st (.ixP ze zi (.t rfl) (.t rfl) (by omega) (getD_some (d := 0) (by omega))) rfl (st (.eq (.loadP1 (.t rfl) zi) ((show isU _ = isU (dig (val ys) ((List.length (zA (val ys))) - 1)) from zU (zBC (by omega))))) rfl (st (.eq (.call (iC) (.cons (.t rfl) .nil)) ((show isI _ = isI ((k : Nat) : Int) from zG (by rw [hk])))) rfl (stM rfl (nkQ k11 (.w [0,1,4,5,6,10] rfl (.sr fun k12 => stM rfl (stM rfl (st (.eq (.call (og (by omega) (by rw [zB]; omega)) (.cons (.t rfl) (.cons (.t rfl) .nil))) (by simp only [zB]; rfl)) rfl ?_))))))))))))))))
    refine stM rfl (st (.ext (.t rfl) rfl) rfl (st (.ext (.t rfl) rfl) rfl (stM rfl (stM rfl (nkQ k12 (.w [0,4,5,6,10,11] rfl (.sr fun k13 => stM rfl (stM rfl (st (.eq (.call (og (by omega) (by rw [zB]; omega)) (.cons (.t rfl) (.cons (.t rfl) .nil))) (by simp only [zB]; rfl)) rfl ?_)))))))))
    refine stM rfl (st (.ext (.t rfl) rfl) rfl (st (.ext (.t rfl) rfl) rfl (stM rfl (stM rfl (nkQ k13 (.w [0,4,5,6,10,11,13] rfl (.sr fun k14 => stM rfl (st (.len ze (.t rfl)) rfl (st (.addI (.t rfl) (.cI 1 rfl) (by omega) (by omega)) rfl (.make (f := isU) (u := 0) (n := (List.length (zA (val xs))) + 1) (c := (List.length (zA (val xs))) + 1) ze zi vx (fun _ _ => ⟨⟨rfl, by decide⟩, trivial⟩) ff (Has.t' rfl rfl) (Has.t' rfl rfl) (by omega) rfl fun b1 => stM rfl (nkQ k14 (.w [4,5,6,10,11,13,15] rfl (.sr fun k15 => stM rfl (stM rfl (.copyW ze zi (fun _ => inferInstance) (.t rfl) (.t rfl) (i := 0) rfl ⟨Dw, by simp⟩ rfl (M' := [(some b1, zC (List.map isU (zQ ((List.length (zA (val xs))) + 1) (val xs * 2 ^ k))))]) (qo (nf Dw)) (nkQ k15 (.sr fun k16 => stM rfl (stM rfl (.callM (uU (N := val xs * 2 ^ k) (v := val ys * 2 ^ k) (m := (List.length (zA (val xs))) + 1) (by omega) (by omega) (by omega) D.lt) (i := 0) rfl (.cons (.t rfl) (.cons (.t rfl) .nil)) rfl (M' := [(_, _)]) rfl (stM rfl (nkQ k16 (.w [4,5,6,10,15,16] rfl (.sq fun k17 => .cv (Cv.freeze' (t := 15) (i := 0) (ys := zQ ((List.length (zA (val xs))) + 1) (left (val xs * 2 ^ k) (val ys * 2 ^ k) 0)) rfl rfl rfl (by simp [zt]) (wy (zt _ _).symm)) (.memEq (M' := []) rfl (.w [4,5,6,10,15,16] rfl ?_)))))))))))))))))))))))))
    refine .region (stM rfl ?_)
    refine stM rfl (st (.call (yw (by omega) (by have := bP ((List.length (zA (val xs))) + 1) (left (val xs * 2 ^ k) (val ys * 2 ^ k) 0); omega)) (.cons (.t rfl) (.cons (.t rfl) .nil))) rfl ?_)
    refine stM rfl (st (.ext (.t rfl) rfl) rfl (st (.ext (.t rfl) rfl) rfl (stM rfl (stM rfl (nkQ k17 (.w [4,5,6,16,17] rfl (.sr fun k18 => stM rfl ?_)))))))
    refine st (.call (vt (by have := bP ((List.length (zA (val xs))) + 1 - (List.length (zA (val ys * 2 ^ k)))) (val xs * 2 ^ k / (val ys * 2 ^ k)); omega)) (.cons (.t rfl) .nil)) rfl ?_
    refine stM rfl (stM rfl (stM rfl (st (.as (.cB true)) rfl (nkQ k18 (.w [4,5,6] rfl (.ret (rtN (.inl rfl) Tryz.results88 rfl rfl (.tmp (Has.t' rfl ?_) (.tmp (Has.t' rfl ?_) (.tmp (Has.t' rfl ?_) .nil))))))))))
    ·exact qH (zFG hB D rfl rfl)
    ·exact qH (by rw [if_neg hB, zBK hB D rfl])
    ·exact zg (by simp [hB])
theorem tL {xs : List Nat} (hx : (List.length (zA (val xs))) < 4294967296) : Ctr Tryz.prog 36 [zD xs] (isI ((bitLen (val xs) : Nat) : Int)) := by
 refine Ctr.i Tryz.func36 rfl Tryz.ntmps36 fun w0 F0 => .w [0] rfl (.fact (Has.lenLt (Has.t (t := 0) rfl)) fun lt0 => .fact (Has.okW (Has.t (t := 0) rfl)) fun ok0 => .sr fun k1 => st (.as (.cI 0 rfl)) rfl (nkQ k1 (.sr fun k2 => stM rfl (st (.call (xH) (.cons (.t rfl) .nil)) rfl (stM rfl (nkQ k2 (.sq fun k3 => .sr fun k4 => stM rfl (st (.len ze (.t rfl)) rfl (st (.eqI (.t rfl) (.cI 0 rfl)) rfl (nkQ k4 (.cd rfl (fun hc1 => ?_) (fun hc1 => ?_))))))))))))
 ·refine .sr fun k5 => st (.as (.cI 0 rfl)) rfl (nkQ k5 (.w [0,2] rfl (.ret (.thr (rt1 (.inl rfl) Tryz.results36 rfl (.tmp (Has.t' rfl ?_) .nil))))))
  all_goals (exact zG (by rw [bK (A := val xs) (by omega)]; rfl))
 ·have hb := uv (A := val xs) (by omega)
  have hd := ab (qr (val xs) ((List.length (zA (val xs))) - 1))
  refine .skip (.nk k3 (.w [0,2] rfl (.sr fun k6 => stM rfl (st (.len ze (.t rfl)) rfl (st (.subI (.t rfl) (.cI 1 rfl) (by omega) (by omega)) rfl (st (.mulI (.cI 64 rfl) (.t rfl) (by omega) (by omega)) rfl (stM rfl (stM rfl (st (.len ze (.t rfl)) rfl (st (.subI (.t rfl) (.cI 1 rfl) (by omega) (by omega)) rfl (st (.ixP ze zi (.t rfl) (.t rfl) (by omega) (getD_some (d := 0) (by omega))) rfl (st (.eq (.loadP1 (.t rfl) zi) ((show isU _ = isU (dig (val xs) ((List.length (zA (val xs))) - 1)) from zU (zBC (by omega))))) rfl (st (.call (fg) (.cons (.t rfl) .nil)) rfl (st (.addI (.t rfl) (.t rfl) (by omega) (by omega)) rfl (stM rfl (nkQ k6 (.w [2] rfl (.ret (rt1 (.inl rfl) Tryz.results36 rfl (.tmp (Has.t' rfl ?_) .nil))))))))))))))))))))
  all_goals (exact zG (by omega))
theorem nW (a b : Nat) : Nat.gcd a b ≤ max a b := by
 rcases Nat.eq_zero_or_pos a with h | h
 ·subst h; rw [Nat.gcd_zero_left]; exact Nat.le_max_right _ _
 ·exact Nat.le_trans (Nat.gcd_le_left b h) (Nat.le_max_left _ _)
theorem ic (a b : Nat) : (List.length (zA (max a b))) ≤ max ((List.length (zA a))) ((List.length (zA b))) := by
 rcases Nat.le_total a b with h | h
 ·rw [Nat.max_eq_right h]; omega
 ·rw [Nat.max_eq_left h]; omega
def upW (n : Nat) (xs : List Nat) : List Nat := if xs.length = 0 then [] else List.replicate n 0 ++ xs
theorem yO {n : Nat} {xs : List Nat} (h : xs.length = 0) : [] = upW n xs := by unfold upW; rw [if_pos h]
theorem yP {n : Nat} {xs : List Nat} (h : xs.length ≠ 0) : List.replicate n 0 ++ xs = upW n xs := by unfold upW; rw [if_neg h]
theorem iL (n : Nat) (xs : List Nat) : val (upW n xs) = W ^ n * val xs := by
 unfold upW
 split
 ·rename_i h; rw [List.eq_nil_of_length_eq_zero h]; rfl
 ·rw [jT, xz, List.length_replicate, Nat.zero_add]
theorem sH {n : Nat} {xs : List Nat} (h : Ok xs) : (List.length (zA (val (upW n xs)))) ≤ n + xs.length := by
 rw [iL]
 refine aS ?_
 rw [Nat.pow_add]
 exact Nat.mul_lt_mul_of_pos_left (mb h) (zy n)
theorem yr {xs : List Nat} (h : Ok xs) (n : Nat) : Ok (xs.take n) := fun x hx => h x (List.mem_of_mem_take hx)
theorem yt {xs : List Nat} (h : Ok xs) (n : Nat) : Ok (xs.drop n) := fun x hx => h x (List.mem_of_mem_drop hx)
theorem oq (a n : Nat) : (List.length (zA (val ((zA a).take n)))) ≤ min n ((List.length (zA a))) := by
 have := cg (yr (aK a) n)
 rwa [List.length_take] at this
theorem lh (a n : Nat) : (List.length (zA (val ((zA a).drop n)))) ≤ (List.length (zA a)) - n := by
 have := cg (yt (aK a) n)
 rwa [List.length_drop] at this
theorem tz (a n : Nat) : val ((zA a).take n) + W ^ n * val ((zA a).drop n) = a := by
 rcases Nat.lt_or_ge n (zA a).length with h | h
 ·have e := jT ((zA a).take n) ((zA a).drop n)
  rw [List.take_append_drop, zB, List.length_take, Nat.min_eq_left (Nat.le_of_lt h)] at e
  exact e.symm
 ·rw [List.take_of_length_le h, List.drop_eq_nil_of_le h, zB]; exact Nat.add_zero _
theorem zHR (p q r s n : Nat) : p * r + W ^ n * ((p + q) * (r + s) - p * r - q * s) + W ^ (2 * n) * (q * s) = (p + W ^ n * q) * (r + W ^ n * s) := by
 have e : (p + q) * (r + s) - p * r - q * s = p * s + q * r := by
  rw [Nat.add_mul, Nat.mul_add, Nat.mul_add]; omega
 rw [e, Nat.two_mul, Nat.pow_add]
 generalize W ^ n = w
 simp only [Nat.add_mul, Nat.mul_add, Nat.mul_assoc, Nat.mul_left_comm, Nat.mul_comm, Nat.add_assoc, Nat.add_left_comm, Nat.add_comm]
theorem oh {xs : List Nat} {n : Nat} : Ctr Tryz.prog 99 [zD xs, isI (n : Int)] (zD (xs.take n)) := by
 refine Ctr.i Tryz.func99 rfl Tryz.ntmps99 fun w0 F0 => .w [0,1] rfl (.fact (Has.lenLt (Has.t (t := 0) rfl)) fun lt0 => .fact (Has.okW (Has.t (t := 0) rfl)) fun ok0 => .fact (Has.rngI (Has.t (t := 1) rfl)) fun lt1 => .sr fun k1 => st (.as (.cW (f := isU))) rfl (nkQ k1 (.sq fun k2 => .sr fun k3 => stM rfl (st (.len ze (.t rfl)) rfl (stM rfl (st (.leI (.t rfl) (.t rfl)) rfl (nkQ k3 (.cd rfl (fun hc1 => ?_) (fun hc1 => ?_)))))))))
 ·refine .sr fun k4 => stM rfl (stM rfl (nkQ k4 (.w [0,1,4] rfl (.ret (.thr (rt1 (.inl rfl) Tryz.results99 rfl (.tmp (Has.t' rfl ?_) .nil)))))))
  all_goals (exact qH (List.take_of_length_le (by omega)).symm)
 ·refine .skip (.nk k2 (.sr fun k5 => stM rfl (stM rfl (st (.slHM ze zi (.t rfl) (.t rfl) (by omega)) rfl (stM rfl (nkQ k5 (.w [4] rfl (.ret (rt1 (.inl rfl) Tryz.results99 rfl (.tmp (Has.t' rfl ?_) .nil))))))))))
  all_goals (exact qH (by rw [Int.toNat_natCast]))
theorem aU {xs : List Nat} {n : Nat} : Ctr Tryz.prog 100 [zD xs, isI (n : Int)] (zD (xs.drop n)) := by
 refine Ctr.i Tryz.func100 rfl Tryz.ntmps100 fun w0 F0 => .w [0,1] rfl (.fact (Has.lenLt (Has.t (t := 0) rfl)) fun lt0 => .fact (Has.okW (Has.t (t := 0) rfl)) fun ok0 => .fact (Has.rngI (Has.t (t := 1) rfl)) fun lt1 => .sr fun k1 => st (.as (.cW (f := isU))) rfl (nkQ k1 (.sq fun k2 => .sr fun k3 => stM rfl (st (.len ze (.t rfl)) rfl (stM rfl (st (.leI (.t rfl) (.t rfl)) rfl (nkQ k3 (.cd rfl (fun hc1 => ?_) (fun hc1 => ?_)))))))))
 ·refine .sr fun k4 => st (.as (.cW (f := isU))) rfl (nkQ k4 (.ret (.thr (rt1 (.inl rfl) Tryz.results100 rfl (.tmp (Has.t' rfl ?_) .nil)))))
  all_goals (exact qH (List.drop_eq_nil_of_le (by omega)).symm)
 ·refine .skip (.nk k2 (.sr fun k5 => stM rfl (stM rfl (st (.slLM ze zi (.t rfl) (.t rfl) (by omega)) rfl (stM rfl (nkQ k5 (.w [4] rfl (.ret (rt1 (.inl rfl) Tryz.results100 rfl (.tmp (Has.t' rfl ?_) .nil))))))))))
  all_goals (exact qH (by rw [Int.toNat_natCast]))
theorem lG {xs ys : List Nat} (hx : (List.length (zA (val xs))) < 4294967296) : Ctr Tryz.prog 101 [zD xs, zD ys] (zD (zA (val xs - val ys))) := by
 refine Ctr.i Tryz.func101 rfl Tryz.ntmps101 fun w0 F0 => .w [0,1] rfl (.fact (Has.lenLt (Has.t (t := 0) rfl)) fun lt0 => .fact (Has.okW (Has.t (t := 0) rfl)) fun ok0 => .fact (Has.lenLt (Has.t (t := 1) rfl)) fun lt1 => .fact (Has.okW (Has.t (t := 1) rfl)) fun ok1 => .sr fun k1 => st (.as (.cW (f := isU))) rfl (nkQ k1 (.sr fun k2 => stM rfl (stM rfl (st (.call (ie (by with_reducible assumption)) (.cons (.t rfl) (.cons (.t rfl) .nil))) rfl (stM rfl (st (.ext (.t rfl) rfl) rfl (st (.ext (.t rfl) rfl) rfl (stM rfl (stM rfl (nkQ k2 (.w [4,5] rfl (.sr fun k3 => stM rfl (stM rfl (nkQ k3 (.ret (rt1 (.inl rfl) Tryz.results101 rfl (.tmp (Has.t' rfl ?_) .nil))))))))))))))))))
 all_goals (rfl)
theorem zEF {xs : List Nat} {n : Nat} (hn : n + xs.length ≤ 4294967296) : Ctr Tryz.prog 113 [zD xs, isI (n : Int)] (zD (upW n xs)) := by
 refine Ctr.i Tryz.func113 rfl Tryz.ntmps113 fun w0 F0 => .w [0,1] rfl (.fact (Has.lenLt (Has.t (t := 0) rfl)) fun lt0 => .fact (Has.okW (Has.t (t := 0) rfl)) fun ok0 => .fact (Has.rngI (Has.t (t := 1) rfl)) fun lt1 => .sr fun k1 => st (.as (.cW (f := isU))) rfl (nkQ k1 (.sq fun k2 => .sr fun k3 => stM rfl (st (.len ze (.t rfl)) rfl (st (.eqI (.t rfl) (.cI 0 rfl)) rfl (nkQ k3 (.cd rfl (fun hc1 => ?_) (fun hc1 => ?_))))))))
 ·refine .sr fun k4 => st (.as (.cW (f := isU))) rfl (nkQ k4 (.ret (.thr (rt1 (.inl rfl) Tryz.results113 rfl (.tmp (Has.t' rfl ?_) .nil)))))
  all_goals (exact qH (yO (by omega)))
 ·refine .skip (.nk k2 (.sr fun k5 => stM rfl (stM rfl (stM rfl (st (.len ze (.t rfl)) rfl (st (.eq (.addI (.t rfl) (.t rfl) (by omega) (by omega)) ((show isI _ = isI ((n + xs.length : Nat) : Int) from zG (by omega)))) rfl (.make (f := isU) (u := 0) (n := n) (c := n + xs.length) ze zi vx (fun _ _ => ⟨⟨rfl, by decide⟩, trivial⟩) ff (Has.t' rfl rfl) (Has.t' rfl rfl) (by omega) rfl fun b1 => stM rfl (.cv (Cv.winGrM (f := isU) (t := 13) (i := 0) (ys := List.replicate n 0) rfl rfl (by simp) (by simp) (by simp)) ?_))))))))
  refine .memEq (M' := [grM _ _ _]) rfl (.appendG (f := isU) (u := 0) ze zi vx (fun _ _ => ⟨⟨rfl, by decide⟩, trivial⟩) (fun _ => inferInstance) ff (.t rfl) (i := 0) rfl (.t rfl) (by rw [List.length_replicate]; exact hn) (by omega) rfl fun gr1 => ?_)
  refine .memEq (M' := [grM _ _ _]) rfl (.cv (Cv.freezeGn (t := 15) (i := 0) (ys := List.replicate n 0 ++ xs) rfl rfl rfl (by simp)) ?_)
  refine .memEq (M' := []) rfl (.w [0,1,4,5,6,7,8,9,10,11,12,14,15] rfl (stM rfl (nkQ k5 (.w [4] rfl (.ret (rt1 (.inl rfl) Tryz.results113 rfl (.tmp (Has.t' rfl ?_) .nil)))))))
  all_goals (exact qH (yP (by omega)))
theorem nF {xs ys zs : List Nat} {n : Nat} (hx : (List.length (zA (val xs))) ≤ 2100000000) (hn : n ≤ 1000000000) (hy : ys.length ≤ 2000000000) (hz : zs.length ≤ 2000000000) : Ctr Tryz.prog 102 [zD xs, zD ys, zD zs, isI (n : Int)] (zD (zA (val xs + W ^ n * val ys + W ^ (2 * n) * val zs))) := by
 refine Ctr.i Tryz.func102 rfl Tryz.ntmps102 fun w0 F0 => .w [0,1,2,3] rfl (.fact (Has.lenLt (Has.t (t := 0) rfl)) fun lt0 => .fact (Has.okW (Has.t (t := 0) rfl)) fun ok0 => .fact (Has.lenLt (Has.t (t := 1) rfl)) fun lt1 => .fact (Has.okW (Has.t (t := 1) rfl)) fun ok1 => .fact (Has.lenLt (Has.t (t := 2) rfl)) fun lt2 => .fact (Has.okW (Has.t (t := 2) rfl)) fun ok2 => .fact (Has.rngI (Has.t (t := 3) rfl)) fun lt3 => ?_)
 have u1 := sH (n := n) ok1
 have u2 := sH (n := 2 * n) ok2
 have h1 := jN (val xs) (val (upW n ys))
 refine .sr fun k1 => st (.as (.cW (f := isU))) rfl (nkQ k1 (.sr fun k2 => st (.as (Has.fn (ι := { p : List Nat × Nat // p.2 + p.1.length ≤ 4294967296 }) (As := fun p => [zD p.1.1, isI (p.1.2 : Int)]) (R := fun p => zD (upW p.1.2 p.1.1)) (fun p => zEF p.2))) rfl (nkQ k2 (.sr fun k3 => stM rfl (stM rfl (stM rfl ?_))))))
 refine stM rfl (st (.callV ⟨(ys, n), by show n + ys.length ≤ _; omega⟩ (.t rfl) (.cons (.t rfl) (.cons (.t rfl) .nil))) rfl ?_)
 refine st (.call (cE (by omega) (by simp only [zB]; omega)) (.cons (.t rfl) (.cons (.t rfl) .nil))) rfl ?_
 refine stM rfl (stM rfl (stM rfl (st (.eq (.mulI (.cI 2 rfl) (.t rfl) (by omega) (by omega)) ((show isI _ = isI ((2 * n : Nat) : Int) from zG (by omega)))) rfl ?_)))
 refine st (.callV ⟨(zs, 2 * n), by show 2 * n + zs.length ≤ _; omega⟩ (.t rfl) (.cons (.t rfl) (.cons (.t rfl) .nil))) rfl ?_
 refine st (.call (cE (by simp only [zB]; omega) (by simp only [zB]; omega)) (.cons (.t rfl) (.cons (.t rfl) .nil))) rfl ?_
 refine stM rfl (nkQ k3 (.w [8] rfl (.ret (rt1 (.inl rfl) Tryz.results102 rfl (.tmp (Has.t' rfl ?_) .nil)))))
 all_goals (exact qH (by rw [zB, iL, iL]))
theorem dE {xs ys : List Nat} (hx : (List.length (zA (val xs))) ≤ 1000000000) (hy : (List.length (zA (val ys))) ≤ 1000000000) (IH : ∀ us vs : List Nat, max ((List.length (zA (val us)))) ((List.length (zA (val vs)))) < max ((List.length (zA (val xs)))) ((List.length (zA (val ys)))) → (List.length (zA (val us))) ≤ 1000000000 → (List.length (zA (val vs))) ≤ 1000000000 → Ctr Tryz.prog 84 [zD us, zD vs] (zD (zA (val us * val vs)))) : Ctr Tryz.prog 84 [zD xs, zD ys] (zD (zA (val xs * val ys))) := by
 refine Ctr.i Tryz.func84 rfl Tryz.ntmps84 fun w0 F0 => .w [0,1] rfl (.fact (Has.lenLt (Has.t (t := 0) rfl)) fun lt0 => .fact (Has.okW (Has.t (t := 0) rfl)) fun ok0 => .fact (Has.lenLt (Has.t (t := 1) rfl)) fun lt1 => .fact (Has.okW (Has.t (t := 1) rfl)) fun ok1 => ?_)
 obtain ⟨N, hN⟩ : ∃ N, N = (max ((List.length (zA (val xs)))) ((List.length (zA (val ys)))) + 1) / 2 := ⟨_, rfl⟩
 have kp := oq (val xs) N
 have kq := lh (val xs) N
 have kr := oq (val ys) N
 have ks := lh (val ys) N
 have ka := jN (val ((zA (val xs)).take N)) (val ((zA (val xs)).drop N))
 have kb := jN (val ((zA (val ys)).take N)) (val ((zA (val ys)).drop N))
 have ea := tz (val xs) N
 have eb := tz (val ys) N
 obtain ⟨p, hp⟩ : ∃ p, p = (zA (val xs)).take N := ⟨_, rfl⟩
 obtain ⟨q, hq⟩ : ∃ q, q = (zA (val xs)).drop N := ⟨_, rfl⟩
 obtain ⟨r, hr⟩ : ∃ r, r = (zA (val ys)).take N := ⟨_, rfl⟩
 obtain ⟨s, hs⟩ : ∃ s, s = (zA (val ys)).drop N := ⟨_, rfl⟩
 rw [← hp] at kp ka ea
 rw [← hq] at kq ka ea
 rw [← hr] at kr kb eb
 rw [← hs] at ks kb eb
 have kpr := wT (val p) (val r)
 have kqs := wT (val q) (val s)
 have kc := wT (val p + val q) (val r + val s)
 have kc2 := qI (Nat.sub_le ((val p + val q) * (val r + val s)) (val p * val r))
 have kc3 := qI (Nat.sub_le ((val p + val q) * (val r + val s) - val p * val r) (val q * val s))
 refine .sr fun k1 => st (.as (.cW (f := isU))) rfl (nkQ k1 (.sr fun k2 => stM rfl (st (.eq (.call (vt (by omega)) (.cons (.t rfl) .nil)) (by rfl)) rfl (stM rfl (st (.eq (.call (vt (by omega)) (.cons (.t rfl) .nil)) (by rfl)) rfl (stM rfl (stM rfl (nkQ k2 (.sq fun k3 => .sr fun k4 => stM rfl (st (.len ze (.t rfl)) rfl (stM rfl (st (.len ze (.t rfl)) rfl (st (.minI (.t rfl) (.t rfl)) rfl (st (.leI (.t rfl) (.cI 8 rfl)) rfl (nkQ k4 (.w [0,1,4,22] rfl (.cd rfl (fun hc1 => ?_) (fun hc1 => ?_))))))))))))))))))
 ·have HM : (List.length (zA (val xs))) ≤ 8 ∨ (List.length (zA (val ys))) ≤ 8 := (by revert hc1; split <;> intro hc1 <;> omega)
  refine .sr fun k5 => stM rfl (stM rfl (st (.eq (.call (yx (by simp only [zB]; omega)) (.cons (.t rfl) (.cons (.t rfl) .nil))) (by simp only [zB]; rfl)) rfl ?_))
  refine stM rfl (nkQ k5 (.ret (.thr (rt1 (.inl rfl) Tryz.results84 rfl (.tmp (Has.t' rfl ?_) .nil)))))
  all_goals (rfl)
 ·have HM : 8 < (List.length (zA (val xs))) ∧ 8 < (List.length (zA (val ys))) := (by revert hc1; split <;> intro hc1 <;> omega)
  refine .skip (.nk k3 (.sr fun k6 => stM rfl (st (.len ze (.t rfl)) rfl (stM rfl (st (.len ze (.t rfl)) rfl (st (.maxI (.t rfl) (.t rfl)) rfl (st (.addI (.t rfl) (.cI 1 rfl) (by omega) (by omega)) rfl (st (.eq (.quoI (.t rfl) (.cI 2 rfl) (by omega) (by omega) (by omega)) ((show isI _ = isI (N : Int) from zG (by rw [hN]; split <;> omega)))) rfl ?_))))))))
  refine stM rfl (nkQ k6 (.w [0,1,4,5] rfl (.sr fun k7 => stM rfl (stM rfl (st (.eq (.call (oh) (.cons (.t rfl) (.cons (.t rfl) .nil))) ((show zD ((zA (val xs)).take N) = zD p from qH hp.symm))) rfl (stM rfl (stM rfl (st (.eq (.call (aU) (.cons (.t rfl) (.cons (.t rfl) .nil))) ((show zD ((zA (val xs)).drop N) = zD q from qH hq.symm))) rfl (stM rfl (stM rfl (st (.eq (.call (oh) (.cons (.t rfl) (.cons (.t rfl) .nil))) ((show zD ((zA (val ys)).take N) = zD r from qH hr.symm))) rfl (stM rfl (stM rfl (st (.eq (.call (aU) (.cons (.t rfl) (.cons (.t rfl) .nil))) ((show zD ((zA (val ys)).drop N) = zD s from qH hs.symm))) rfl (stM rfl (stM rfl (stM rfl (stM rfl (nkQ k7 (.w [4,5,6,7,8,9] rfl (.sr fun k8 => stM rfl (stM rfl (st (.call (IH _ _ (by omega) (by omega) (by omega)) (.cons (.t rfl) (.cons (.t rfl) .nil))) rfl (stM rfl (stM rfl (st (.call (IH _ _ (by omega) (by omega) (by omega)) (.cons (.t rfl) (.cons (.t rfl) .nil))) rfl (stM rfl (stM rfl (nkQ k8 (.w [4,5,6,7,8,9,10,11] rfl (.sr fun k9 => stM rfl (stM rfl (st (.eq (.call (cE (by omega) (by omega)) (.cons (.t rfl) (.cons (.t rfl) .nil))) ((show zD (zA (val p + val q)) = _ from rfl))) rfl (stM rfl (stM rfl ?_)))))))))))))))))))))))))))))))))))
  refine st (.call (cE (by omega) (by omega)) (.cons (.t rfl) (.cons (.t rfl) .nil))) rfl (st (.eq (.call (IH _ _ (by simp only [zB]; omega) (by simp only [zB]; omega) (by simp only [zB]; omega)) (.cons (.t rfl) (.cons (.t rfl) .nil))) ((show zD _ = zD (zA ((val p + val q) * (val r + val s))) from qH (by rw [zB, zB])))) rfl ?_)
  refine stM rfl (st (.eq (.call (lG (by simp only [zB]; omega)) (.cons (.t rfl) (.cons (.t rfl) .nil))) ((show zD _ = zD (zA ((val p + val q) * (val r + val s) - val p * val r)) from qH (by rw [zB, zB])))) rfl ?_)
  refine stM rfl (st (.eq (.call (lG (by simp only [zB]; omega)) (.cons (.t rfl) (.cons (.t rfl) .nil))) ((show zD _ = zD (zA ((val p + val q) * (val r + val s) - val p * val r - val q * val s)) from qH (by rw [zB, zB])))) rfl ?_)
  refine stM rfl (nkQ k9 (.w [4,5,10,11,12] rfl (.sr fun k10 => stM rfl (stM rfl (stM rfl (stM rfl (st (.call (nF (by simp only [zB]; omega) (by omega) (by omega) (by omega)) (.cons (.t rfl) (.cons (.t rfl) (.cons (.t rfl) (.cons (.t rfl) .nil))))) rfl ?_)))))))
  refine stM rfl (nkQ k10 (.w [4] rfl (.ret (rt1 (.inl rfl) Tryz.results84 rfl (.tmp (Has.t' rfl ?_) .nil)))))
  all_goals (exact qH (by simp only [zB]; rw [zHR, ea, eb]))
theorem yz : ∀ {xs ys : List Nat}, (List.length (zA (val xs))) ≤ 1000000000 → (List.length (zA (val ys))) ≤ 1000000000 → Ctr Tryz.prog 84 [zD xs, zD ys] (zD (zA (val xs * val ys))) := by
 have h : ∀ N, ∀ xs ys : List Nat, max ((List.length (zA (val xs)))) ((List.length (zA (val ys)))) ≤ N → (List.length (zA (val xs))) ≤ 1000000000 → (List.length (zA (val ys))) ≤ 1000000000 → Ctr Tryz.prog 84 [zD xs, zD ys] (zD (zA (val xs * val ys))) := by
  intro N
  induction N with
  | zero => intro xs ys h hx hy; exact dE hx hy (fun us vs hl => absurd hl (by omega))
  | succ N ih => intro xs ys h hx hy; exact dE hx hy (fun us vs hl => ih us vs (by omega))
 intro xs ys hx hy
 exact h _ xs ys (Nat.le_refl _) hx hy
theorem qu {xs : List Nat} {m : Bool} (hx : (List.length (zA (val xs))) ≤ 4294967296) : Ctr Tryz.prog 22 [zD xs, isB m] (isZ (zv m xs)) := by
 refine Ctr.i Tryz.func22 rfl Tryz.ntmps22 fun w0 F0 => .w [0,1] rfl (.fact (Has.lenLt (Has.t (t := 0) rfl)) fun lt0 => .fact (Has.okW (Has.t (t := 0) rfl)) fun ok0 => .sr fun k1 => .alloc [isB false, SlM isU []] zJ (fun _ _ => ⟨rfl, nilM _ _, trivial⟩) rfl fun b1 => nkQ k1 (.sr fun k2 => stM rfl (st (.call (vt (by with_reducible assumption)) (.cons (.t rfl) .nil)) rfl (stM rfl (nkQ k2 (.sr fun k3 => stM rfl (stM rfl (stT rfl rfl (fun hg => .mv (.t rfl)) rfl (stT rfl rfl (fun hg => .len ze (Has.g rfl hg)) rfl (stT rfl rfl (fun hg => .gtI (Has.g rfl hg) (.cI 0 rfl)) rfl (st (.pickAnd (.t rfl) (fun h => Has.g rfl h)) rfl (stM rfl (st (.build [isB false, SlM isU []] tC zJ (fun _ _ => ⟨rfl, nilM _ _, trivial⟩) (.cons (.t rfl) rfl rfl rfl (.cons (.t rfl) rfl rfl rfl .nil)) (Z'' := [_, _]) rfl) rfl (.store (.t rfl) (.t rfl) (i := 0) rfl zE rfl rfl (Ss' := [_, _]) rfl (M' := [(some _, zC [_, _])]) rfl (nkQ k3 (.w [4] rfl (.ret (rt1 (.inl rfl) Tryz.results22 rfl (.cell rfl (i := 0) rfl zE rfl ?_ .nil)))))))))))))))))))
 ·exact te (uJ m xs) (by rw [aI])
theorem qt {x : Int} : Ctr Tryz.prog 8 [isI x] (isZ x) := by
 refine Ctr.i Tryz.func8 rfl Tryz.ntmps8 fun w0 F0 => .w [0] rfl (.fact (Has.rngI (Has.t (t := 0) rfl)) fun lt0 => .sr fun k1 => .alloc [isB false, SlM isU []] zJ (fun _ _ => ⟨rfl, nilM _ _, trivial⟩) rfl fun b1 => nkQ k1 (.sq fun k2 => .sr fun k3 => stM rfl (st (.ltI (.t rfl) (.cI 0 rfl)) rfl (nkQ k3 (.cd rfl (fun hc1 => ?_) (fun hc1 => ?_))))))
 ·have hN : x < 0 := hc1
  refine .sr fun k4 => stM rfl (st (.convIUw un2 yQ (.t rfl)) rfl (st (.eq (.negU (.t rfl) (by omega)) ((show isU _ = isU x.natAbs from zU (tK hc1 (by omega))))) rfl (st (.call (nD) (.cons (.t rfl) .nil)) rfl (st (.call (qu (by simp only [zB]; exact Nat.le_trans (qF (by omega)) (by decide))) (.cons (.t rfl) (.cons (.cB true) .nil))) rfl ?_))))
  refine .store (.t rfl) (.t rfl) (i := 0) rfl zE rfl rfl (Ss' := [_, _]) rfl (M' := [(some _, zC [_, _])]) rfl (nkQ k4 (.w [0,2] rfl (.ret (.thr (rt1 (.inl rfl) Tryz.results8 rfl (.cell rfl (i := 0) rfl zE rfl ?_ .nil))))))
  ·exact zS (by rw [co, if_pos rfl]; omega)
 ·have hN : 0 ≤ x := (by omega)
  refine .skip (.nk k2 (.sr fun k5 => stM rfl (st (.eq (.convIU un2 yQ (.t rfl) (by with_reducible assumption) (by omega)) ((show isU _ = isU x.natAbs from zU (by omega)))) rfl (st (.call (nD) (.cons (.t rfl) .nil)) rfl (st (.call (qu (by simp only [zB]; exact Nat.le_trans (qF (by omega)) (by decide))) (.cons (.t rfl) (.cons (.cB false) .nil))) rfl ?_)))))
  refine .store (.t rfl) (.t rfl) (i := 0) rfl zE rfl rfl (Ss' := [_, _]) rfl (M' := [(some _, zC [_, _])]) rfl (nkQ k5 (.w [2] rfl (.ret (rt1 (.inl rfl) Tryz.results8 rfl (.cell rfl (i := 0) rfl zE rfl ?_ .nil)))))
  ·exact zS (by rw [co, if_neg (by decide)]; omega)
theorem qD {m : Bool} {xs : List Nat} (hx : (List.length (zA (val xs))) < 4294900000) : Ctr Tryz.prog 16 [zu [isB m, zD xs]] (isI (sgn (zv m xs))) := by
 refine Ctr.i Tryz.func16 rfl Tryz.ntmps16 fun w0 F0 => .w [0] rfl (.fact (Has.okZ (Has.t (t := 0) rfl)) fun okz0 => .sr fun k1 => .box (.t rfl) rfl fun b1 => st (.as (.cI 0 rfl)) rfl (nkQ k1 (.sq fun k2 => .block (.sr fun k3 => st (.fieldAddr (.t rfl) qa xA) rfl (st (.load1 (.t rfl) (i := 0) rfl xA rfl) rfl (st (.call (tL (by omega)) (.cons (.t rfl) .nil)) rfl (st (.eqI (.t rfl) (.cI 0 rfl)) rfl (stM rfl (nkQ k3 (.w [1,2,3] rfl (.cd rfl (fun hc1 => ?_) (fun hc1 => ?_))))))))))))
 ·refine .sr fun k4 => st (.as (.cI 0 rfl)) rfl (nkQ k4 (.ret (.blr (.thr (rt1 (.inl rfl) Tryz.results16 rfl (.tmp (Has.t' rfl ?_) .nil))))))
  all_goals (exact zG (sd hc1))
 ·refine .sr fun k5 => st (.fieldAddr (.t rfl) xJ ty4) rfl (st (.load1 (.t rfl) (i := 0) rfl ty4 rfl) rfl (stM rfl (nkQ k5 (.cd rfl (fun hc2 => ?_) (fun hc2 => ?_)))))
  ·have HM := hc2
   refine .sr fun k6 => st (.as (.cI (-1) rfl)) rfl (nkQ k6 (.w [2] rfl (.ret (.blr (.thr (rt1 (.inl rfl) Tryz.results16 rfl (.tmp (Has.t' rfl ?_) .nil)))))))
   all_goals (exact zG (by rw [← se hc1, if_pos HM]))
  ·have HM := hc2
   refine .skip (.bln (.nk k2 (.w [2] rfl (.sr fun k7 => st (.as (.cI 1 rfl)) rfl (nkQ k7 (.ret (rt1 (.inl rfl) Tryz.results16 rfl (.tmp (Has.t' rfl ?_) .nil))))))))
   all_goals (exact zG (by rw [← se hc1, if_neg (by rw [HM]; decide)]))
theorem wK {m n : Bool} {xs ys : List Nat} (hx : (List.length (zA (val xs))) < 4294700000) (hy : (List.length (zA (val ys))) < 4294700000) : Ctr Tryz.prog 68 [zu [isB m, zD xs], zu [isB n, zD ys]] (isI (xB (zv m xs) (zv n ys))) := by
 refine Ctr.i Tryz.func68 rfl Tryz.ntmps68 fun w0 F0 => .w [0,1] rfl (.fact (Has.okZ (Has.t (t := 0) rfl)) fun okz0 => .fact (Has.okZ (Has.t (t := 1) rfl)) fun okz1 => .sr fun k1 => .box (.t rfl) rfl fun b1 => .box (.t rfl) rfl fun b2 => st (.as (.cI 0 rfl)) rfl (nkQ k1 (.sq fun k2 => .dr (.so [] rfl (.load (.t rfl) (i := 1) rfl zE rfl (Ss' := [_, _]) rfl) (.so [7] rfl (.call (qD (by omega)) (.cons (.t rfl) .nil)) (.so [] rfl (.load (.t rfl) (i := 0) rfl zE rfl (Ss' := [_, _]) rfl) (.fn (n := 3) zY (.w [2,3,4,8,9] rfl (st (.call (qD (by omega)) (.cons (.t rfl) .nil)) rfl (stM rfl (stM rfl (nkQ k2 (.sq fun k3 => .block (.sr fun k4 => stM rfl (stM rfl (st (.ltI (.t rfl) (.t rfl)) rfl (stM rfl (nkQ k4 (.w [2,3,4,5,6,11] rfl ?_)))))))))))))))))))
 refine .cd rfl (fun hc1 => ?_) (fun hc1 => ?_)
 ·refine .sr fun k5 => st (.as (.cI (-1) rfl)) rfl (nkQ k5 (.ret (.blr (.thr (rt1 (.inl rfl) Tryz.results68 rfl (.tmp (Has.t' rfl ?_) .nil))))))
  all_goals (exact zG (zBR hc1))
 ·refine .sr fun k6 => stM rfl (stM rfl (st (.gtI (.t rfl) (.t rfl)) rfl (stM rfl (nkQ k6 (.w [2,3,4,5,15] rfl (.cd rfl (fun hc2 => ?_) (fun hc2 => ?_)))))))
  ·refine .sr fun k7 => st (.as (.cI 1 rfl)) rfl (nkQ k7 (.ret (.blr (.thr (rt1 (.inl rfl) Tryz.results68 rfl (.tmp (Has.t' rfl ?_) .nil))))))
   all_goals (exact zG (zBS hc2))
  ·refine .sr fun k8 => stM rfl (st (.ltI (.t rfl) (.cI 0 rfl)) rfl (stM rfl (nkQ k8 (.cd rfl (fun hc3 => ?_) (fun hc3 => ?_)))))
   ·refine .sr fun k9 => st (.fieldAddr (.t rfl) qa xA) rfl (st (.load1 (.t rfl) (i := 0) rfl xA rfl) rfl (st (.fieldAddr (.t rfl) qa xA) rfl (st (.load1 (.t rfl) (i := 1) rfl xA rfl) rfl (st (.call (df) (.cons (.t rfl) (.cons (.t rfl) .nil))) rfl (stM rfl (nkQ k9 (.w [2,3,4] rfl (.ret (.blr (.thr (rt1 (.inl rfl) Tryz.results68 rfl (.tmp (Has.t' rfl ?_) .nil))))))))))))
    all_goals (exact zG (ue hc3 (by omega) (by omega)))
   ·refine .skip (.bln (.nk k3 (.w [2,3,4] rfl (.sr fun k10 => st (.fieldAddr (.t rfl) qa xA) rfl (st (.load1 (.t rfl) (i := 1) rfl xA rfl) rfl (st (.fieldAddr (.t rfl) qa xA) rfl (st (.load1 (.t rfl) (i := 0) rfl xA rfl) rfl (st (.call (df) (.cons (.t rfl) (.cons (.t rfl) .nil))) rfl (stM rfl (nkQ k10 (.w [4] rfl (.ret (rt1 (.inl rfl) Tryz.results68 rfl (.tmp (Has.t' rfl ?_) .nil))))))))))))))
    all_goals (exact zG (ud (by omega) (by omega) (by omega)))
theorem pc {m n : Bool} {xs ys : List Nat} (hx : (List.length (zA (val xs))) < 4294700000) (hy : (List.length (zA (val ys))) < 4294700000) : Ctr Tryz.prog 120 [zu [isB m, zD xs], zu [isB n, zD ys]] (isB (decide (zv m xs = zv n ys))) := by
 refine Ctr.i Tryz.func120 rfl Tryz.ntmps120 fun w0 F0 => .w [0,1] rfl (.fact (Has.okZ (Has.t (t := 0) rfl)) fun okz0 => .fact (Has.okZ (Has.t (t := 1) rfl)) fun okz1 => .sr fun k1 => .box (.t rfl) rfl fun b1 => .box (.t rfl) rfl fun b2 => st (.as (.cB false)) rfl (nkQ k1 (.sr fun k2 => st (.load (.t rfl) (i := 1) rfl zE rfl (Ss' := [_, _]) rfl) rfl (st (.load (.t rfl) (i := 0) rfl zE rfl (Ss' := [_, _]) rfl) rfl (st (.call (wK (by with_reducible assumption) (by with_reducible assumption)) (.cons (.t rfl) (.cons (.t rfl) .nil))) rfl (st (.eqI (.t rfl) (.cI 0 rfl)) rfl (stM rfl (nkQ k2 (.w [4] rfl (.ret (rt1 (.inl rfl) Tryz.results120 rfl (.tmp (Has.t' rfl ?_) .nil))))))))))))
 all_goals (exact zg (uf _ _))
theorem jQ {m : Bool} {xs : List Nat} (hx : (List.length (zA (val xs))) < 4294900000) : Ctr Tryz.prog 50 [zu [isB m, zD xs]] (isZ (-(zv m xs))) := by
 refine Ctr.i Tryz.func50 rfl Tryz.ntmps50 fun w0 F0 => .w [0] rfl (.fact (Has.okZ (Has.t (t := 0) rfl)) fun okz0 => .sr fun k1 => .box (.t rfl) rfl fun b1 => .alloc [isB false, SlM isU []] zJ (fun _ _ => ⟨rfl, nilM _ _, trivial⟩) rfl fun b2 => nkQ k1 (.sr fun k2 => st (.fieldAddr (.t rfl) qa xA) rfl (st (.load1 (.t rfl) (i := 1) rfl xA rfl) rfl (st (.fieldAddr (.t rfl) xJ ty4) rfl (st (.load1 (.t rfl) (i := 1) rfl ty4 rfl) rfl (st (.not (.t rfl)) rfl (st (.call (qu (by omega)) (.cons (.t rfl) (.cons (.t rfl) .nil))) rfl (.store (.t rfl) (.t rfl) (i := 0) rfl zE rfl rfl (Ss' := [_, _]) rfl (M' := [(some _, zC [_, _]), _]) rfl (nkQ k2 (.w [2] rfl (.ret (rt1 (.inl rfl) Tryz.results50 rfl (.cell rfl (i := 0) rfl zE rfl ?_ .nil)))))))))))))
 ·exact zS (zCQ m xs)
theorem eJ {m : Bool} {xs : List Nat} (hx : (List.length (zA (val xs))) < 4294900000) : Ctr Tryz.prog 103 [zu [isB m, zD xs]] (isZ (((zv m xs).natAbs : Nat) : Int)) := by
 refine Ctr.i Tryz.func103 rfl Tryz.ntmps103 fun w0 F0 => .w [0] rfl (.fact (Has.okZ (Has.t (t := 0) rfl)) fun okz0 => .sr fun k1 => .box (.t rfl) rfl fun b1 => .alloc [isB false, SlM isU []] zJ (fun _ _ => ⟨rfl, nilM _ _, trivial⟩) rfl fun b2 => nkQ k1 (.sr fun k2 => st (.fieldAddr (.t rfl) qa xA) rfl (st (.load1 (.t rfl) (i := 1) rfl xA rfl) rfl (st (.call (qu (by omega)) (.cons (.t rfl) (.cons (.cB false) .nil))) rfl (.store (.t rfl) (.t rfl) (i := 0) rfl zE rfl rfl (Ss' := [_, _]) rfl (M' := [(some _, zC [_, _]), _]) rfl (nkQ k2 (.w [2] rfl (.ret (rt1 (.inl rfl) Tryz.results103 rfl (.cell rfl (i := 0) rfl zE rfl ?_ .nil))))))))))
 ·exact zS (by rw [aI]; exact eF xs)
theorem xC {m n : Bool} {xs ys : List Nat} (hx : (List.length (zA (val xs))) < 4294700000) (hy : (List.length (zA (val ys))) < 4294700000) : Ctr Tryz.prog 58 [zu [isB m, zD xs], zu [isB n, zD ys]] (isZ (zv m xs + zv n ys)) := by
 refine Ctr.i Tryz.func58 rfl Tryz.ntmps58 fun w0 F0 => .w [0,1] rfl (.fact (Has.okZ (Has.t (t := 0) rfl)) fun okz0 => .fact (Has.okZ (Has.t (t := 1) rfl)) fun okz1 => ?_)
 have ha := jN (val xs) (val ys)
 have hb := qI (Nat.sub_le (val xs) (val ys))
 have hd := qI (Nat.sub_le (val ys) (val xs))
 refine .sr fun k1 => .box (.t rfl) rfl fun b1 => .box (.t rfl) rfl fun b2 => .alloc [isB false, SlM isU []] zJ (fun _ _ => ⟨rfl, nilM _ _, trivial⟩) rfl fun b3 => nkQ k1 (.sq fun k2 => .sr fun k3 => st (.fieldAddr (.t rfl) xJ ty4) rfl (st (.load1 (.t rfl) (i := 2) rfl ty4 rfl) rfl (st (.fieldAddr (.t rfl) xJ ty4) rfl (st (.load1 (.t rfl) (i := 1) rfl ty4 rfl) rfl (st (.eqB (du := un4) rfl (.t rfl) (.t rfl)) rfl (nkQ k3 (.w [2,3,4,13] rfl (.cd rfl (fun hc1 => ?_) (fun hc1 => ?_)))))))))
 ·have HM : m = n := eq_of_beq hc1
  refine .sq fun k4 => .dr (.so [] rfl (.fieldAddr (.t rfl) qa xA) (.so [14] rfl (.load1 (.t rfl) (i := 2) rfl xA rfl) (.so [] rfl (.fieldAddr (.t rfl) qa xA) (.so [16] rfl (.load1 (.t rfl) (i := 1) rfl xA rfl) (.so [15,17] rfl (.call (cE (by omega) (by omega)) (.cons (.t rfl) (.cons (.t rfl) .nil))) (.so [] rfl (.fieldAddr (.t rfl) xJ ty4) (.so [19] rfl (.load1 (.t rfl) (i := 2) rfl ty4 rfl) (.fn (n := 7) zY (.w [2,3,4,18,20] rfl (st (.call (qu (by simp only [zB, zK]; omega)) (.cons (.t rfl) (.cons (.t rfl) .nil))) rfl ?_))))))))))
  refine .store (.t rfl) (.t rfl) (i := 0) rfl zE rfl rfl (Ss' := [_, _]) rfl (M' := [(some _, zC [_, _]), _, _]) rfl (nkQ k4 (.ret (.thr (rt1 (.inl rfl) Tryz.results58 rfl (.cell rfl (i := 0) rfl zE rfl ?_ .nil)))))
  ·exact zS (kW HM xs ys).symm
 ·have HM : m ≠ n := fun e => by rw [e] at hc1; simp at hc1
  refine .skip (.nk k2 (.sq fun k5 => .sr fun k6 => st (.fieldAddr (.t rfl) qa xA) rfl (st (.load1 (.t rfl) (i := 2) rfl xA rfl) rfl (st (.fieldAddr (.t rfl) qa xA) rfl (st (.load1 (.t rfl) (i := 1) rfl xA rfl) rfl (st (.call (ie (by omega)) (.cons (.t rfl) (.cons (.t rfl) .nil))) rfl (stM rfl (st (.ext (.t rfl) rfl) rfl (st (.ext (.t rfl) rfl) rfl (stM rfl (stM rfl (nkQ k6 (.w [2,3,4,5,6] rfl (.sr fun k7 => stM rfl (nkQ k7 (.cd rfl (fun hc2 => ?_) (fun hc2 => ?_)))))))))))))))))
  ·have HL : val ys ≤ val xs := hc2
   refine .sr fun k8 => stM rfl (st (.fieldAddr (.t rfl) xJ ty4) rfl (st (.load1 (.t rfl) (i := 2) rfl ty4 rfl) rfl (st (.call (qu (by simp only [zB, zK]; omega)) (.cons (.t rfl) (.cons (.t rfl) .nil))) rfl ?_)))
   refine .store (.t rfl) (.t rfl) (i := 0) rfl zE rfl rfl (Ss' := [_, _]) rfl (M' := [(some _, zC [_, _]), _, _]) rfl (nkQ k8 (.w [2,3,4] rfl (.ret (.thr (rt1 (.inl rfl) Tryz.results58 rfl (.cell rfl (i := 0) rfl zE rfl ?_ .nil))))))
   ·exact zS (eG HM HL).symm
  ·have HL : ¬ val ys ≤ val xs := (by omega)
   refine .skip (.nk k5 (.sr fun k9 => st (.fieldAddr (.t rfl) qa xA) rfl (st (.load1 (.t rfl) (i := 1) rfl xA rfl) rfl (st (.fieldAddr (.t rfl) qa xA) rfl (st (.load1 (.t rfl) (i := 2) rfl xA rfl) rfl (st (.call (ie (by omega)) (.cons (.t rfl) (.cons (.t rfl) .nil))) rfl (stM rfl (st (.ext (.t rfl) rfl) rfl (st (.ext (.t rfl) rfl) rfl (stM rfl (stM rfl (nkQ k9 (.w [3,4,7] rfl (.sr fun k10 => stM rfl (st (.fieldAddr (.t rfl) xJ ty4) rfl (st (.load1 (.t rfl) (i := 1) rfl ty4 rfl) rfl (st (.call (qu (by simp only [zB, zK]; omega)) (.cons (.t rfl) (.cons (.t rfl) .nil))) rfl ?_)))))))))))))))))
   refine .store (.t rfl) (.t rfl) (i := 0) rfl zE rfl rfl (Ss' := [_, _]) rfl (M' := [(some _, zC [_, _]), _, _]) rfl (nkQ k10 (.w [4] rfl (.ret (rt1 (.inl rfl) Tryz.results58 rfl (.cell rfl (i := 0) rfl zE rfl ?_ .nil)))))
   ·exact zS (by rw [Int.add_comm]; exact (eG (fun e => HM e.symm) (by omega)).symm)
theorem xy {m n : Bool} {xs ys : List Nat} (hx : (List.length (zA (val xs))) < 4294700000) (hy : (List.length (zA (val ys))) < 4294700000) : Ctr Tryz.prog 70 [zu [isB m, zD xs], zu [isB n, zD ys]] (isZ (zv m xs - zv n ys)) := by
 refine Ctr.i Tryz.func70 rfl Tryz.ntmps70 fun w0 F0 => .w [0,1] rfl (.fact (Has.okZ (Has.t (t := 0) rfl)) fun okz0 => .fact (Has.okZ (Has.t (t := 1) rfl)) fun okz1 => .sr fun k1 => .box (.t rfl) rfl fun b1 => .box (.t rfl) rfl fun b2 => .alloc [isB false, SlM isU []] zJ (fun _ _ => ⟨rfl, nilM _ _, trivial⟩) rfl fun b3 => nkQ k1 (.sq fun k2 => .dr (.so [] rfl (.load (.t rfl) (i := 2) rfl zE rfl (Ss' := [_, _]) rfl) (.so [] rfl (.load (.t rfl) (i := 1) rfl zE rfl (Ss' := [_, _]) rfl) (.so [6] rfl (.call (jQ (by omega)) (.cons (.t rfl) .nil)) (.fn (n := 3) zY (.w [4,5,7] rfl (st (.call (xC (by omega) (by simp only [zB]; rw [Int.natAbs_neg, aI]; omega)) (.cons (.t rfl) (.cons (.t rfl) .nil))) rfl ?_))))))))
 refine .store (.t rfl) (.t rfl) (i := 0) rfl zE rfl rfl (Ss' := [_, _]) rfl (M' := [(some _, zC [_, _]), _, _]) rfl (nkQ k2 (.ret (rt1 (.inl rfl) Tryz.results70 rfl (.cell rfl (i := 0) rfl zE rfl ?_ .nil))))
 ·exact zS (by rw [zK]; omega)
theorem qP {m n : Bool} {xs ys : List Nat} (hx : (List.length (zA (val xs))) ≤ 1000000000) (hy : (List.length (zA (val ys))) ≤ 1000000000) : Ctr Tryz.prog 59 [zu [isB m, zD xs], zu [isB n, zD ys]] (isZ (zv m xs * zv n ys)) := by
 refine Ctr.i Tryz.func59 rfl Tryz.ntmps59 fun w0 F0 => .w [0,1] rfl (.fact (Has.okZ (Has.t (t := 0) rfl)) fun okz0 => .fact (Has.okZ (Has.t (t := 1) rfl)) fun okz1 => ?_)
 have hm := wT (val xs) (val ys)
 refine .sr fun k1 => .box (.t rfl) rfl fun b1 => .box (.t rfl) rfl fun b2 => .alloc [isB false, SlM isU []] zJ (fun _ _ => ⟨rfl, nilM _ _, trivial⟩) rfl fun b3 => nkQ k1 (.sq fun k2 => .dr (.so [] rfl (.fieldAddr (.t rfl) qa xA) (.so [5] rfl (.load1 (.t rfl) (i := 2) rfl xA rfl) (.so [] rfl (.fieldAddr (.t rfl) qa xA) (.so [7] rfl (.load1 (.t rfl) (i := 1) rfl xA rfl) (.so [6,8] rfl (.call (yz hx hy) (.cons (.t rfl) (.cons (.t rfl) .nil))) (.so [] rfl (.fieldAddr (.t rfl) xJ ty4) (.so [10] rfl (.load1 (.t rfl) (i := 2) rfl ty4 rfl) (.so [] rfl (.fieldAddr (.t rfl) xJ ty4) (.so [12] rfl (.load1 (.t rfl) (i := 1) rfl ty4 rfl) (.so [11,13] rfl (.neB (du := un4) rfl (.t rfl) (.t rfl)) (.fn (n := 10) zY (.w [4,9,14] rfl (st (.call (qu (by simp only [zB, zK]; omega)) (.cons (.t rfl) (.cons (.t rfl) .nil))) rfl ?_))))))))))))))
 refine .store (.t rfl) (.t rfl) (i := 0) rfl zE rfl rfl (Ss' := [_, _]) rfl (M' := [(some _, zC [_, _]), _, _]) rfl (nkQ k2 (.ret (rt1 (.inl rfl) Tryz.results59 rfl (.cell rfl (i := 0) rfl zE rfl ?_ .nil))))
 ·exact zS (zCS m n xs ys).symm
theorem bc {m n : Bool} {xs ys : List Nat} (hx : (List.length (zA (val xs))) < 4294700000) (hy : (List.length (zA (val ys))) < 4294700000) : Ctr Tryz.prog 69 [zu [isB m, zD xs], zu [isB n, zD ys]] (zW [isZ ((zv m xs).tdiv (zv n ys)), isZ (if zv n ys = 0 then 0 else (zv m xs).tmod (zv n ys)), isB (decide (zv n ys ≠ 0))]) := by
 refine Ctr.i Tryz.func69 rfl Tryz.ntmps69 fun w0 F0 => .w [0,1] rfl (.fact (Has.okZ (Has.t (t := 0) rfl)) fun okz0 => .fact (Has.okZ (Has.t (t := 1) rfl)) fun okz1 => ?_)
 have ha := qI (Nat.div_le_self (val xs) (val ys))
 have hb : (List.length (zA (if val ys = 0 then 0 else val xs % val ys))) ≤ (List.length (zA (val xs))) := qI (by split; exact Nat.zero_le _; exact Nat.mod_le _ _)
 refine .sr fun k1 => .box (.t rfl) rfl fun b1 => .box (.t rfl) rfl fun b2 => .alloc [isB false, SlM isU []] zJ (fun _ _ => ⟨rfl, nilM _ _, trivial⟩) rfl fun b3 => .alloc [isB false, SlM isU []] zJ (fun _ _ => ⟨rfl, nilM _ _, trivial⟩) rfl fun b4 => st (.as (.cB false)) rfl (nkQ k1 (.sr fun k2 => st (.fieldAddr (.t rfl) qa xA) rfl (st (.load1 (.t rfl) (i := 3) rfl xA rfl) rfl (st (.fieldAddr (.t rfl) qa xA) rfl (st (.load1 (.t rfl) (i := 2) rfl xA rfl) rfl (st (.call (nc (by omega) (by omega)) (.cons (.t rfl) (.cons (.t rfl) .nil))) rfl (stM rfl (st (.ext (.t rfl) rfl) rfl (st (.ext (.t rfl) rfl) rfl (st (.ext (.t rfl) rfl) rfl (stM rfl (stM rfl (stM rfl (nkQ k2 (.w [2,3,4,5,6,7,8,9] rfl (.sq fun k3 => .drh [false, false, true, true] (Ms := [_, _]) rfl (.m [] rfl (.so [] rfl (.fieldAddr (.t rfl) xJ ty4) (.so [20] rfl (.load1 (.t rfl) (i := 1) rfl ty4 rfl) (.so [] rfl (.fieldAddr (.t rfl) xJ ty4) (.so [22] rfl (.load1 (.t rfl) (i := 0) rfl ty4 rfl) (.so [21,23] rfl (.neB (du := un4) rfl (.t rfl) (.t rfl)) (.so [19,24] rfl (.call (qu (by simp only [zB, zK]; omega)) (.cons (.t rfl) (.cons (.t rfl) .nil))) ?_)))))))))))))))))))))))
 refine .m [] rfl (.so [] rfl (.fieldAddr (.t rfl) xJ ty4) (.so [27] rfl (.load1 (.t rfl) (i := 1) rfl ty4 rfl) (.so [26,28] rfl (.call (qu (by simp only [zB, zK]; omega)) (.cons (.t rfl) (.cons (.t rfl) .nil))) ?_)))
 refine .m [] rfl (.mid2 (.cons _ (.cons _ (.cons_cons _ (.cons_cons _ .slnil)))) (.st0 [25] rfl rfl (by kernel_rfl) (by kernel_rfl) (StS.store (.t rfl) (.t rfl) (i := 1) rfl zE rfl rfl (Ss' := [_, _]) rfl (M' := [_, (some _, zC [_, _]), _, _]) rfl) (.cons _ (.cons _ (.cons_cons _ (.cons_cons _ .slnil)))) (.st0 [29] rfl rfl (by kernel_rfl) (by kernel_rfl) (StS.store (.t rfl) (.t rfl) (i := 0) rfl zE rfl rfl (Ss' := [_, _]) rfl (M' := [(some _, zC [_, _]), _, _, _]) rfl) (.cons _ (.cons _ (.cons_cons _ (.cons_cons _ .slnil)))) (.fin0 (n := 14) zY rfl (by kernel_rfl) (by kernel_rfl) (by kernel_rfl) (.w [4,5,6,30] rfl (stM rfl (nkQ k3 (.ret (rtN (.inl rfl) Tryz.results69 rfl rfl (.cell rfl (i := 1) rfl zE rfl ?_ (.cell rfl (i := 0) rfl zE rfl ?_ (.tmp (Has.t' rfl ?_) .nil))))))))))))
 ·exact zS (yD m n xs ys).symm
 ·exact zS (sz m n xs ys)
 ·exact zg (zGP n ys)
theorem bb  : Ctr Tryz.prog 71 [] (isZ 1) := by
 refine Ctr.i Tryz.func71 rfl Tryz.ntmps71 fun w0 F0 => .cv (Cv.wk .nil) (.sr fun k1 => .alloc [isB false, SlM isU []] zJ (fun _ _ => ⟨rfl, nilM _ _, trivial⟩) rfl fun b1 => nkQ k1 (.sr fun k2 => st (.call (qt) (.cons (.cI 1 rfl) .nil)) rfl (.store (.t rfl) (.t rfl) (i := 0) rfl zE rfl rfl (Ss' := [_, _]) rfl (M' := [(some _, zC [_, _])]) rfl (nkQ k2 (.ret (rt1 (.inl rfl) Tryz.results71 rfl (.cell rfl (i := 0) rfl zE rfl ?_ .nil)))))))
 all_goals (rfl)
theorem kd {m n : Bool} {xs ys : List Nat} (hx : (List.length (zA (val xs))) < 4294700000) (hy : (List.length (zA (val ys))) < 4294700000) : Ctr Tryz.prog 105 [zu [isB m, zD xs], zu [isB n, zD ys]] (zW [isZ (zv m xs / zv n ys), isZ (if zv n ys = 0 then 0 else zv m xs % zv n ys), isB (decide (zv n ys ≠ 0))]) := by
 refine Ctr.i Tryz.func105 rfl Tryz.ntmps105 fun w0 F0 => .w [0,1] rfl (.fact (Has.okZ (Has.t (t := 0) rfl)) fun okz0 => .fact (Has.okZ (Has.t (t := 1) rfl)) fun okz1 => ?_)
 have ha := jp (zv m xs) (zv n ys)
 have hb := tJ (zv m xs) (zv n ys)
 have hxx := vV m xs
 have hyy := vV n ys
 have h1 := ez
 refine .sr fun k1 => .box (.t rfl) rfl fun b1 => .box (.t rfl) rfl fun b2 => .alloc [isB false, SlM isU []] zJ (fun _ _ => ⟨rfl, nilM _ _, trivial⟩) rfl fun b3 => .alloc [isB false, SlM isU []] zJ (fun _ _ => ⟨rfl, nilM _ _, trivial⟩) rfl fun b4 => st (.as (.cB false)) rfl (nkQ k1 (.sr fun k2 => st (.load (.t rfl) (i := 3) rfl zE rfl (Ss' := [_, _]) rfl) rfl (st (.load (.t rfl) (i := 2) rfl zE rfl (Ss' := [_, _]) rfl) rfl (st (.call (bc (by with_reducible assumption) (by with_reducible assumption)) (.cons (.t rfl) (.cons (.t rfl) .nil))) rfl (stM rfl (st (.ext (.t rfl) rfl) rfl (st (.ext (.t rfl) rfl) rfl (st (.ext (.t rfl) rfl) rfl (.alloc [isB false, SlM isU []] zJ (fun _ _ => ⟨rfl, nilM _ _, trivial⟩) rfl fun b5 => .alloc [isB false, SlM isU []] zJ (fun _ _ => ⟨rfl, nilM _ _, trivial⟩) rfl fun b6 => .store (.t rfl) (.t rfl) (i := 1) rfl zE rfl rfl (Ss' := [_, _]) rfl (M' := [_, (some _, zC [_, _]), _, _, _, _]) rfl (.store (.t rfl) (.t rfl) (i := 0) rfl zE rfl rfl (Ss' := [_, _]) rfl (M' := [(some _, zC [_, _]), _, _, _, _, _]) rfl (stM rfl (nkQ k2 (.w [3,4,5,6,7,8,9] rfl (.sq fun k3 => .block (.sr fun k4 => stM rfl (st (.not (.t rfl)) rfl (stM rfl (stF rfl rfl (fun hg => .load (.t rfl) (i := 0) rfl zE rfl (Ss' := [_, _]) rfl) rfl ?_))))))))))))))))))
 refine stF rfl rfl (fun hg => have hg' := BP.t hg; OK1.eq (.call (qD (by simp only [zB, zK]; omega)) (.cons (Has.g rfl hg) .nil)) (by simp only [zB, zK]; rfl)) rfl ?_
 refine stF rfl rfl (fun hg => .geI (Has.g rfl hg) (.cI 0 rfl)) rfl (st (.pickOr (.t rfl) (fun h => Has.g rfl (ng h))) rfl (stM rfl (nkQ k4 (.w [3,4,5,6,7,8,9,17] rfl (.cd rfl (fun hc1 => ?_) (fun hc1 => ?_))))))
 ·have HE := zHD hc1
  refine .sq fun k5 => .drh [true, true, false, false, true, true] (Ms := [_, _, _, _]) rfl (.so [] rfl (.load (.t rfl) (i := 1) rfl zE rfl (Ss' := [_, _]) rfl) (.so [] rfl (.load (.t rfl) (i := 0) rfl zE rfl (Ss' := [_, _]) rfl) (.m [] rfl (.mid2 (.cons_cons _ (.cons_cons _ (.cons _ (.cons _ (.cons_cons _ (.cons_cons _ .slnil)))))) (.st0 [25] rfl rfl (by kernel_rfl) (by kernel_rfl) (StS.store (.t rfl) (.t rfl) (i := 3) rfl zE rfl rfl (Ss' := [_, _]) rfl (M' := [_, _, _, (some _, zC [_, _]), _, _]) rfl) (.cons_cons _ (.cons_cons _ (.cons _ (.cons _ (.cons_cons _ (.cons_cons _ .slnil)))))) (.st0 [26] rfl rfl (by kernel_rfl) (by kernel_rfl) (StS.store (.t rfl) (.t rfl) (i := 2) rfl zE rfl rfl (Ss' := [_, _]) rfl (M' := [_, _, (some _, zC [_, _]), _, _, _]) rfl) (.cons_cons _ (.cons_cons _ (.cons _ (.cons _ (.cons_cons _ (.cons_cons _ .slnil)))))) (.fin0 (n := 5) zY rfl (by kernel_rfl) (by kernel_rfl) (by kernel_rfl) (.w [3,4,5,6,7,8,27] rfl (stM rfl (nkQ k5 (.ret (.blr (.thr (rtN (.inl rfl) Tryz.results105 rfl rfl (.cell rfl (i := 3) rfl zE rfl ?_ (.cell rfl (i := 2) rfl zE rfl ?_ (.tmp (Has.t' rfl ?_) .nil)))))))))))))))))
  ·exact zS HE.1
  ·exact zS HE.2
  ·rfl
 ·have HE := hc1
  refine .sr fun k6 => st (.load (.t rfl) (i := 4) rfl zE rfl (Ss' := [_, _]) rfl) rfl (st (.call (qD (by omega)) (.cons (.t rfl) .nil)) rfl (st (.gtI (.t rfl) (.cI 0 rfl)) rfl (stM rfl (nkQ k6 (.w [3,4,5,6,7,8,28] rfl (.cd rfl (fun hc2 => ?_) (fun hc2 => ?_)))))))
  ·have HE2 := zHC HE hc2
   refine .sq fun k7 => .dr (.so [] rfl (.load (.t rfl) (i := 1) rfl zE rfl (Ss' := [_, _]) rfl) (.so [] rfl (.call (bb) .nil) (.so [32,33] rfl (.eq (.call (xy (by simp only [zB, zK]; omega) (by simp only [zB, zK]; omega)) (.cons (.t rfl) (.cons (.t rfl) .nil))) (by simp only [zB, zK]; rfl)) ?_)))
   refine .so [] rfl (.load (.t rfl) (i := 0) rfl zE rfl (Ss' := [_, _]) rfl) (.so [] rfl (.load (.t rfl) (i := 4) rfl zE rfl (Ss' := [_, _]) rfl) (.fn (n := 5) zY (.w [3,4,5,6,7,8,34,35,36] rfl (st (.eq (.call (xC (by simp only [zB, zK]; omega) (by with_reducible assumption)) (.cons (.t rfl) (.cons (.t rfl) .nil))) (by simp only [zB, zK]; rfl)) rfl ?_))))
   refine .store (.t rfl) (.t rfl) (i := 3) rfl zE rfl rfl (Ss' := [_, _]) rfl (M' := [_, _, _, (some _, zC [_, _]), _, _]) rfl (.store (.t rfl) (.t rfl) (i := 2) rfl zE rfl rfl (Ss' := [_, _]) rfl (M' := [_, _, (some _, zC [_, _]), _, _, _]) rfl (st (.as (.cB true)) rfl (nkQ k7 (.ret (.blr (.thr (rtN (.inl rfl) Tryz.results105 rfl rfl (.cell rfl (i := 3) rfl zE rfl ?_ (.cell rfl (i := 2) rfl zE rfl ?_ (.tmp (Has.t' rfl ?_) .nil))))))))))
   ·exact zS HE2.1
   ·exact zS HE2.2
   ·exact zg (decide_eq_true HE.1).symm
  ·have HE2 := zHY HE hc2
   refine .skip (.bln (.nk k3 (.sq fun k8 => .dr (.so [] rfl (.load (.t rfl) (i := 1) rfl zE rfl (Ss' := [_, _]) rfl) (.so [] rfl (.call (bb) .nil) (.so [38,39] rfl (.eq (.call (xC (by simp only [zB, zK]; omega) (by simp only [zB, zK]; omega)) (.cons (.t rfl) (.cons (.t rfl) .nil))) (by simp only [zB, zK]; rfl)) ?_))))))
   refine .so [] rfl (.load (.t rfl) (i := 0) rfl zE rfl (Ss' := [_, _]) rfl) (.so [] rfl (.load (.t rfl) (i := 4) rfl zE rfl (Ss' := [_, _]) rfl) (.fn (n := 5) zY (.w [4,5,6,40,41,42] rfl (st (.eq (.call (xy (by simp only [zB, zK]; omega) (by with_reducible assumption)) (.cons (.t rfl) (.cons (.t rfl) .nil))) (by simp only [zB, zK]; rfl)) rfl ?_))))
   refine .store (.t rfl) (.t rfl) (i := 3) rfl zE rfl rfl (Ss' := [_, _]) rfl (M' := [_, _, _, (some _, zC [_, _]), _, _]) rfl (.store (.t rfl) (.t rfl) (i := 2) rfl zE rfl rfl (Ss' := [_, _]) rfl (M' := [_, _, (some _, zC [_, _]), _, _, _]) rfl (st (.as (.cB true)) rfl (nkQ k8 (.ret (rtN (.inl rfl) Tryz.results105 rfl rfl (.cell rfl (i := 3) rfl zE rfl ?_ (.cell rfl (i := 2) rfl zE rfl ?_ (.tmp (Has.t' rfl ?_) .nil))))))))
   ·exact zS HE2.1
   ·exact zS HE2.2
   ·exact zg (decide_eq_true HE.1).symm
theorem jS {m n : Bool} {xs ys : List Nat} (hx : (List.length (zA (val xs))) < 4294700000) (hy : (List.length (zA (val ys))) < 4294700000) : Ctr Tryz.prog 86 [zu [isB m, zD xs], zu [isB n, zD ys]] (zW [isZ (if zv n ys ≠ 0 ∧ (zv m xs).tmod (zv n ys) = 0 then (zv m xs).tdiv (zv n ys) else 0), isB (decide (zv n ys ≠ 0 ∧ (zv m xs).tmod (zv n ys) = 0))]) := by
 refine Ctr.i Tryz.func86 rfl Tryz.ntmps86 fun w0 F0 => .w [0,1] rfl (.fact (Has.okZ (Has.t (t := 0) rfl)) fun okz0 => .fact (Has.okZ (Has.t (t := 1) rfl)) fun okz1 => ?_)
 have ha := jp (zv m xs) (zv n ys)
 have hb := tJ (zv m xs) (zv n ys)
 have hxx := vV m xs
 have hyy := vV n ys
 have h1 := ez
 refine .sr fun k1 => .box (.t rfl) rfl fun b1 => .box (.t rfl) rfl fun b2 => .alloc [isB false, SlM isU []] zJ (fun _ _ => ⟨rfl, nilM _ _, trivial⟩) rfl fun b3 => st (.as (.cB false)) rfl (nkQ k1 (.sr fun k2 => st (.load (.t rfl) (i := 2) rfl zE rfl (Ss' := [_, _]) rfl) rfl (st (.load (.t rfl) (i := 1) rfl zE rfl (Ss' := [_, _]) rfl) rfl (st (.call (bc (by with_reducible assumption) (by with_reducible assumption)) (.cons (.t rfl) (.cons (.t rfl) .nil))) rfl (stM rfl (st (.ext (.t rfl) rfl) rfl (st (.ext (.t rfl) rfl) rfl (st (.ext (.t rfl) rfl) rfl (.alloc [isB false, SlM isU []] zJ (fun _ _ => ⟨rfl, nilM _ _, trivial⟩) rfl fun b4 => .alloc [isB false, SlM isU []] zJ (fun _ _ => ⟨rfl, nilM _ _, trivial⟩) rfl fun b5 => .store (.t rfl) (.t rfl) (i := 1) rfl zE rfl rfl (Ss' := [_, _]) rfl (M' := [_, (some _, zC [_, _]), _, _, _]) rfl (.store (.t rfl) (.t rfl) (i := 0) rfl zE rfl rfl (Ss' := [_, _]) rfl (M' := [(some _, zC [_, _]), _, _, _, _]) rfl (stM rfl (nkQ k2 (.w [4,5,6,7,8] rfl (.sq fun k3 => .sr fun k4 => stM rfl (st (.not (.t rfl)) rfl (stM rfl (stF rfl rfl (fun hg => .load (.t rfl) (i := 0) rfl zE rfl (Ss' := [_, _]) rfl) rfl ?_)))))))))))))))))
 refine stF rfl rfl (fun hg => have hg' := BP.t hg; OK1.eq (.call (qD (by simp only [zB, zK]; omega)) (.cons (Has.g rfl hg) .nil)) (by simp only [zB, zK]; rfl)) rfl ?_
 refine stF rfl rfl (fun hg => .neI (Has.g rfl hg) (.cI 0 rfl)) rfl (st (.pickOr (.t rfl) (fun h => Has.g rfl (ng h))) rfl (nkQ k4 (.w [4,5,6,22] rfl (.cd rfl (fun hc1 => ?_) (fun hc1 => ?_)))))
 ·have HE := zHB hc1
  refine .sr fun k5 => st (.eq (.build [isB false, SlM isU []] tC zJ (fun _ _ => ⟨rfl, nilM _ _, trivial⟩) .nil (Z'' := [_, _]) rfl) (zER)) rfl (.store (.t rfl) (.t rfl) (i := 2) rfl zE rfl rfl (Ss' := [_, _]) rfl (M' := [_, _, (some _, zC [_, _]), _, _]) rfl (st (.as (.cB false)) rfl (nkQ k5 (.ret (.thr (rtN (.inl rfl) Tryz.results86 rfl rfl (.cell rfl (i := 2) rfl zE rfl ?_ (.tmp (Has.t' rfl ?_) .nil))))))))
  ·exact zS (if_neg HE).symm
  ·exact zg (decide_eq_false HE).symm
 ·have HE := zFE hc1
  refine .skip (.nk k3 (.sr fun k6 => st (.load (.t rfl) (i := 1) rfl zE rfl (Ss' := [_, _]) rfl) rfl (.store (.t rfl) (.t rfl) (i := 2) rfl zE rfl rfl (Ss' := [_, _]) rfl (M' := [_, _, (some _, zC [_, _]), _, _]) rfl (st (.as (.cB true)) rfl (nkQ k6 (.ret (rtN (.inl rfl) Tryz.results86 rfl rfl (.cell rfl (i := 2) rfl zE rfl ?_ (.tmp (Has.t' rfl ?_) .nil)))))))))
  ·exact zS (if_pos HE).symm
  ·exact zg (decide_eq_true HE).symm
theorem fm {m n : Bool} {xs ys : List Nat} (hx : (List.length (zA (val xs))) ≤ 100000000) (hy : (List.length (zA (val ys))) ≤ 100000000) : Ctr Tryz.prog 104 [zu [isB m, zD xs], zu [isB n, zD ys]] (zW [isZ (cof (zv m xs) (zv n ys) 1 0).1, isZ (cof (zv m xs) (zv n ys) 1 0).2]) := by
 refine Ctr.i Tryz.func104 rfl Tryz.ntmps104 fun w0 F0 => .w [0,1] rfl (.fact (Has.okZ (Has.t (t := 0) rfl)) fun okz0 => .fact (Has.okZ (Has.t (t := 1) rfl)) fun okz1 => ?_)
 have hxx := vV m xs
 have hyy := vV n ys
 refine .sr fun k1 => .box (.t rfl) rfl fun b1 => .box (.t rfl) rfl fun b2 => .alloc [isB false, SlM isU []] zJ (fun _ _ => ⟨rfl, nilM _ _, trivial⟩) rfl fun b3 => .alloc [isB false, SlM isU []] zJ (fun _ _ => ⟨rfl, nilM _ _, trivial⟩) rfl fun b4 => nkQ k1 (.sr fun k2 => st (.call (bb) .nil) rfl (st (.eq (.build [isB false, SlM isU []] tC zJ (fun _ _ => ⟨rfl, nilM _ _, trivial⟩) .nil (Z'' := [_, _]) rfl) (zER)) rfl (.alloc [isB false, SlM isU []] zJ (fun _ _ => ⟨rfl, nilM _ _, trivial⟩) rfl fun b5 => .alloc [isB false, SlM isU []] zJ (fun _ _ => ⟨rfl, nilM _ _, trivial⟩) rfl fun b6 => .store (.t rfl) (.t rfl) (i := 1) rfl zE rfl rfl (Ss' := [_, _]) rfl (M' := [_, (some _, zC [_, _]), _, _, _, _]) rfl (.store (.t rfl) (.t rfl) (i := 0) rfl zE rfl rfl (Ss' := [_, _]) rfl (M' := [(some _, zC [_, _]), _, _, _, _, _]) rfl (nkQ k2 (.sq fun k3 => .dr (.so [] rfl (.fieldAddr (.t rfl) qa xA) (.so [13] rfl (.load1 (.t rfl) (i := 5) rfl xA rfl) (.so [] rfl (.fieldAddr (.t rfl) xJ ty4) (.so [15] rfl (.load1 (.t rfl) (i := 5) rfl ty4 rfl) (.so [14,16] rfl (.call (qu (by omega)) (.cons (.t rfl) (.cons (.t rfl) .nil))) (.so [] rfl (.fieldAddr (.t rfl) qa xA) (.so [18] rfl (.load1 (.t rfl) (i := 4) rfl xA rfl) (.so [] rfl (.fieldAddr (.t rfl) xJ ty4) (.so [20] rfl (.load1 (.t rfl) (i := 4) rfl ty4 rfl) (.fn (n := 9) zY (.w [2,3,4,5,6,7,17,19,21] rfl ?_)))))))))))))))))
 refine st (.call (qu (by omega)) (.cons (.t rfl) (.cons (.t rfl) .nil))) rfl (.store (.t rfl) (.t rfl) (i := 5) rfl zE rfl rfl (Ss' := [_, _]) rfl (M' := [_, _, _, _, _, (some _, zC [_, _])]) rfl (.store (.t rfl) (.t rfl) (i := 4) rfl zE rfl rfl (Ss' := [_, _]) rfl (M' := [_, _, _, _, (some _, zC [_, _]), _]) rfl (nkQ k3 (.sq fun k4 => .block (.loopF [2,3,4,5,6,7] (fun (z : { z : Int × Int × Int × Int × Nat × Nat // Cf (zv m xs) (zv n ys) z.1 z.2.1 z.2.2.1 z.2.2.2.1 z.2.2.2.2.1 z.2.2.2.2.2 ∧ cof z.1 z.2.1 z.2.2.1 z.2.2.2.1 = cof (zv m xs) (zv n ys) 1 0 }) => match z with | ⟨(a, b, x, nx, X, Y), hI⟩ => []) (fun M => fun (z : { z : Int × Int × Int × Int × Nat × Nat // Cf (zv m xs) (zv n ys) z.1 z.2.1 z.2.2.1 z.2.2.2.1 z.2.2.2.2.1 z.2.2.2.2.2 ∧ cof z.1 z.2.1 z.2.2.1 z.2.2.2.1 = cof (zv m xs) (zv n ys) 1 0 }) => match z with | ⟨(a, b, x, nx, X, Y), hI⟩ => [zM b6 nx, zM b5 x, (some b4, zC [isB false, SlM isU []]), (some b3, zC [isB false, SlM isU []]), zM b2 b, zM b1 a]) (fun (z : { z : Int × Int × Int × Int × Nat × Nat // Cf (zv m xs) (zv n ys) z.1 z.2.1 z.2.2.1 z.2.2.2.1 z.2.2.2.2.1 z.2.2.2.2.2 ∧ cof z.1 z.2.1 z.2.2.1 z.2.2.2.1 = cof (zv m xs) (zv n ys) 1 0 }) => match z with | ⟨(a, b, x, nx, X, Y), hI⟩ => b.natAbs) (⟨(zv m xs, zv n ys, 1, 0, 1, 0), Cf.start _ _, rfl⟩) (Cv.mem (.l [2,3,4,5,6,7] rfl) ?_) ?_)))))
 ·rfl
 rintro ⟨⟨a, b, x, nx, X, Y⟩, hI⟩ K5 hK5
 refine .w [2,3,4,5,6,7] rfl (.memEq (M' := [zM b6 nx, zM b5 x, (some b4, zC [isB false, SlM isU []]), (some b3, zC [isB false, SlM isU []]), zM b2 b, zM b1 a]) rfl ?_)
 simp only [] at hI
 obtain ⟨hC, hcof⟩ := hI
 have za := Nat.le_trans (qI hC.a1) (ic _ _)
 have zb := qI hC.b1
 have zx := Nat.le_trans (qI (Nat.le_trans hC.x hC.X1)) (ic _ _)
 have zn := qI (Nat.le_trans hC.y hC.Y1)
 have h1 := ib
 have zq := jp a b
 have zr := oe a b
 refine .sq fun k6 => .sr fun k7 => st (.load (.t rfl) (i := 4) rfl zE rfl (Ss' := [_, _]) rfl) rfl (st (.eq (.call (qD (by simp only [zB, zK]; omega)) (.cons (.t rfl) .nil)) (by simp only [zB, zK]; rfl)) rfl ?_)
 refine st (.neI (.t rfl) (.cI 0 rfl)) rfl (nkQ k7 (.cd rfl (fun hc1 => ?_) (fun hc1 => ?_)))
 ·have hb : b ≠ 0 := fun e => hc1 (by rw [xN]; exact e)
  have zm := qJ (a.tdiv b) nx
  refine .skip (.nk k6 (.block (.sr fun k8 => st (.load (.t rfl) (i := 5) rfl zE rfl (Ss' := [_, _]) rfl) rfl (st (.load (.t rfl) (i := 4) rfl zE rfl (Ss' := [_, _]) rfl) rfl (st (.eq (.call (bc (by simp only [zB, zK]; omega) (by simp only [zB, zK]; omega)) (.cons (.t rfl) (.cons (.t rfl) .nil))) (by simp only [zB, zK]; rfl)) rfl ?_)))))
  refine stM rfl (st (.ext (.t rfl) rfl) rfl (st (.ext (.t rfl) rfl) rfl (st (.ext (.t rfl) rfl) rfl (.alloc [isB false, SlM isU []] zJ (fun _ _ => ⟨rfl, nilM _ _, trivial⟩) rfl fun b7 => .alloc [isB false, SlM isU []] zJ (fun _ _ => ⟨rfl, nilM _ _, trivial⟩) rfl fun b8 => .store (.t rfl) (.t rfl) (i := 1) rfl zE rfl rfl (Ss' := [_, _]) rfl (M' := [_, (some _, zC [_, _]), _, _, _, _, _, _]) rfl (.store (.t rfl) (.t rfl) (i := 0) rfl zE rfl rfl (Ss' := [_, _]) rfl (M' := [(some _, zC [_, _]), _, _, _, _, _, _, _]) rfl (stM rfl (nkQ k8 (.sq fun k9 => .drh [true, true, true, true, true, true, true, false] (Ms := [_, _, _, _, _, _, _]) rfl (.so [] rfl (.load (.t rfl) (i := 6) rfl zE rfl (Ss' := [_, _]) rfl) (.so [] rfl (.load (.t rfl) (i := 0) rfl zE rfl (Ss' := [_, _]) rfl) (.mid2 (.cons_cons _ (.cons_cons _ (.cons_cons _ (.cons_cons _ (.cons_cons _ (.cons_cons _ (.cons_cons _ (.cons _ .slnil)))))))) (.st0 [33] rfl rfl (by kernel_rfl) (by kernel_rfl) (StS.store (.t rfl) (.t rfl) (i := 7) rfl zE rfl rfl (Ss' := [_, _]) rfl (M' := [_, _, _, _, _, _, _, (some _, zC [_, _])]) rfl) (.cons_cons _ (.cons_cons _ (.cons_cons _ (.cons_cons _ (.cons_cons _ (.cons_cons _ (.cons_cons _ (.cons _ .slnil)))))))) (.fin0 (n := 3) zY rfl (by kernel_rfl) (by kernel_rfl) (by kernel_rfl) (.w [2,3,4,5,6,7,23,24,25,27,28,29,26,30,31,32,8,9,33,34] rfl (.store (.t rfl) (.t rfl) (i := 6) rfl zE rfl rfl (Ss' := [_, _]) rfl (M' := [_, _, _, _, _, _, (some _, zC [_, _]), _]) rfl (nkQ k9 (.dr (.so [] rfl (.load (.t rfl) (i := 2) rfl zE rfl (Ss' := [_, _]) rfl) (.so [] rfl (.load (.t rfl) (i := 3) rfl zE rfl (Ss' := [_, _]) rfl) (.so [] rfl (.load (.t rfl) (i := 1) rfl zE rfl (Ss' := [_, _]) rfl) (.so [] rfl (.load (.t rfl) (i := 2) rfl zE rfl (Ss' := [_, _]) rfl) (.so [37,38] rfl (.eq (.call (qP (by simp only [zB, zK]; omega) (by simp only [zB, zK]; omega)) (.cons (.t rfl) (.cons (.t rfl) .nil))) (by simp only [zB, zK]; rfl)) ?_))))))))))))))))))))))
  refine .so [36,39] rfl (.eq (.call (xy (by simp only [zB, zK]; omega) (by simp only [zB, zK]; omega)) (.cons (.t rfl) (.cons (.t rfl) .nil))) (by simp only [zB, zK]; rfl)) ?_
  refine .fn (n := 6) zY (.w [2,3,4,5,6,7,23,24,25,27,28,29,26,30,31,32,8,9,33,34,35,36,37,38,39,40] rfl (.store (.t rfl) (.t rfl) (i := 3) rfl zE rfl rfl (Ss' := [_, _]) rfl (M' := [_, _, _, (some _, zC [_, _]), _, _, _, _]) rfl (.store (.t rfl) (.t rfl) (i := 2) rfl zE rfl rfl (Ss' := [_, _]) rfl (M' := [_, _, (some _, zC [_, _]), _, _, _, _, _]) rfl (nl (.bln (.thn (hK5 (⟨(b, a.tmod b, nx, x - a.tdiv b * nx, Y, X + (a.tdiv b).natAbs * Y), hC.step hb, by rw [← hcof, mF hb]⟩) _ _ ?_ (Cv.trans (Cv.drop ((.cons _ (.cons _ (.cons_cons _ (.cons_cons _ (.cons_cons _ (.cons_cons _ (.cons_cons _ (.cons_cons _ .slnil)))))))))) (Cv.mem (.l [2,3,4,5,6,7] rfl) ?_)))))))))
  ·show (a.tmod b).natAbs < b.natAbs; rw [Int.natAbs_tmod]; exact Nat.mod_lt _ (by omega)
  ·simp only [if_neg hb]
 ·have hb : b = 0 := (xN _).1 (by omega)
  refine .exit (.the (.the (.blh (.nk k4 (.w [2,4,5,6] rfl (.sq fun k10 => .sr fun k11 => st (.load (.t rfl) (i := 5) rfl zE rfl (Ss' := [_, _]) rfl) rfl (st (.eq (.call (qD (by simp only [zB, zK]; omega)) (.cons (.t rfl) .nil)) (by simp only [zB, zK]; rfl)) rfl ?_)))))))
  refine st (.ltI (.t rfl) (.cI 0 rfl)) rfl (nkQ k11 (.cd rfl (fun hc2 => ?_) (fun hc2 => ?_)))
  ·have ha : a < 0 := (jy _).1 hc2
   refine .sq fun k12 => .dr (.so [] rfl (.load (.t rfl) (i := 5) rfl zE rfl (Ss' := [_, _]) rfl) (.so [44] rfl (.eq (.call (jQ (by simp only [zB, zK]; omega)) (.cons (.t rfl) .nil)) (by simp only [zB, zK]; rfl)) ?_))
   refine .so [] rfl (.load (.t rfl) (i := 1) rfl zE rfl (Ss' := [_, _]) rfl) (.fn (n := 3) zY (.w [2,4,5,6,45,46] rfl (st (.eq (.call (jQ (by simp only [zB, zK]; omega)) (.cons (.t rfl) .nil)) (by simp only [zB, zK]; rfl)) rfl ?_)))
   refine .store (.t rfl) (.t rfl) (i := 3) rfl zE rfl rfl (Ss' := [_, _]) rfl (M' := [_, _, _, (some _, zC [_, _]), _, _]) rfl (.store (.t rfl) (.t rfl) (i := 2) rfl zE rfl rfl (Ss' := [_, _]) rfl (M' := [_, _, (some _, zC [_, _]), _, _, _]) rfl (nkQ k12 (.ret (.thr (rtN (.inl rfl) Tryz.results104 rfl rfl (.cell rfl (i := 3) rfl zE rfl ?_ (.cell rfl (i := 2) rfl zE rfl ?_ .nil)))))))
   ·subst hb; exact zS (by rw [← hcof, aY, if_pos ha])
   ·subst hb; exact zS (by rw [← hcof, aY, if_pos ha])
  ·have ha : ¬ a < 0 := fun e => by have := (jy a).2 e; omega
   refine .skip (.nk k10 (.sq fun k13 => .drh [true, true, true, false, true, true] (Ms := [_, _, _, _, _]) rfl (.so [] rfl (.load (.t rfl) (i := 4) rfl zE rfl (Ss' := [_, _]) rfl) (.so [] rfl (.load (.t rfl) (i := 1) rfl zE rfl (Ss' := [_, _]) rfl) (.mid2 (.cons_cons _ (.cons_cons _ (.cons_cons _ (.cons _ (.cons_cons _ (.cons_cons _ .slnil)))))) (.st0 [48] rfl rfl (by kernel_rfl) (by kernel_rfl) (StS.store (.t rfl) (.t rfl) (i := 3) rfl zE rfl rfl (Ss' := [_, _]) rfl (M' := [_, _, _, (some _, zC [_, _]), _, _]) rfl) (.cons_cons _ (.cons_cons _ (.cons_cons _ (.cons _ (.cons_cons _ (.cons_cons _ .slnil)))))) (.fin0 (n := 3) zY rfl (by kernel_rfl) (by kernel_rfl) (by kernel_rfl) (.w [4,5,49] rfl (.store (.t rfl) (.t rfl) (i := 2) rfl zE rfl rfl (Ss' := [_, _]) rfl (M' := [_, _, (some _, zC [_, _]), _, _, _]) rfl (nkQ k13 (.ret (rtN (.inl rfl) Tryz.results104 rfl rfl (.cell rfl (i := 3) rfl zE rfl ?_ (.cell rfl (i := 2) rfl zE rfl ?_ .nil))))))))))))))
   ·subst hb; exact zS (by rw [← hcof, aY, if_neg ha])
   ·subst hb; exact zS (by rw [← hcof, aY, if_neg ha])
end Go.Proofs.YtlebmedapfncoaaGreat
namespace Go.Proofs.YtlebmedapfncoaaGreat
open Go.En Go.RowKit
set_option maxRecDepth 10000
set_option maxHeartbeats 4000000
open Go.Nt
open Go.Pz
open Go.Mz
theorem rT {bw N K : Nat} {gd : Gr (Bool × List Nat)} {gl gu : Gr Row} {ds : List Int} {ls us : List Row} {m n : Bool} {ps qs : List Nat} {sw : Int} (hdl : ds.length = N + 1) (hdb : Bd ds K) (hll : ls.length = N) (hul : us.length = N) (hlr : ∀ r ∈ ls, r.2.length = N) (hur : ∀ r ∈ us, r.2.length = N) (hlb : ∀ r ∈ ls, Bd r.2 K) (hub : ∀ r ∈ us, Bd r.2 K) (hN : N ≤ 64) (hK : K ≤ 100000000) {i k : Nat} {r : Row} (hi : ls[i]? = some r) (hk : k < N) : CtrX Tryz.prog 93 [qU bw 0, isI (i : Int), isI (k : Int)] (lwM bw N gd gl gu ds ls us m n ps qs sw) (fun S M => S = isB (smZ (cf r.2 k) (cf ds (k + 1))) ∧ M = lwM bw N gd gl gu ds ls us m n ps qs sw) := by
 refine CtrX.i Tryz.func93 rfl Tryz.ntmps93 fun w0 F0 => .w [0,1,2] rfl (.fact (Has.rngI (Has.t (t := 1) rfl)) fun lt1 => .fact (Has.rngI (Has.t (t := 2) rfl)) fun lt2 => ?_)
 have hrC := hlr r (List.mem_of_getElem? hi)
 have hrB := hlb r (List.mem_of_getElem? hi) k
 have hrL : (r.2.map nz).length = N := by rw [List.length_map, hrC]
 have hdB := hdb (k + 1)
 have hiL : i < ls.length := by
  rcases Nat.lt_or_ge i ls.length with g | g
  ·exact g
  ·rw [List.getElem?_eq_none g] at hi; cases hi
 have ha := xn (cf r.2 k) (cf r.2 k)
 have hdL : (ds.map nz).length = N + 1 := by rw [List.length_map, hdl]
 refine .sr fun k1 => st (.as (.cB false)) rfl (nkQ k1 (.sq fun k2 => .dr (.m [] rfl (.so [7] rfl (.nilc (.t rfl)) (.so [8] rfl (.fieldAddr (.t rfl) qW zk) (.so [9] rfl (.load1 (.t rfl) (i := 0) rfl zk rfl) (.m [] rfl (.so [10,11] rfl (.ixGr qd zN (.t rfl) (.t rfl) (by omega)) ?_))))))))
 refine .so [12] rfl (.loadGM (.t rfl) (i := 2) rfl zN hi) (.m [] rfl (.so [13,14] rfl (.ixGr zp zE (.t rfl) (.t rfl) (by omega)) ?_))
 refine .so [15] rfl (.loadGK zL (.t rfl) (i := 4 + i) (jA (pre := [_, _, _, _]) (lwL hi)) zE (xc (i := k) (by omega))) (.m [] rfl (.so [17] rfl (.nilc (.t rfl)) (.so [18] rfl (.fieldAddr (.t rfl) qW zk) (.so [19] rfl (.load1 (.t rfl) (i := 0) rfl zk rfl) (.m [] rfl (.so [20,21] rfl (.ixGr qd zN (.t rfl) (.t rfl) (by omega)) ?_))))))
 refine .so [22] rfl (.loadGM (.t rfl) (i := 2) rfl zN hi) (.m [] rfl (.so [23,24] rfl (.ixGr zp zE (.t rfl) (.t rfl) (by omega)) ?_))
 refine .so [25] rfl (.loadGK zL (.t rfl) (i := 4 + i) (jA (pre := [_, _, _, _]) (lwL hi)) zE (xc (i := k) (by omega))) (.so [16,26] rfl (.eq (.call (xC (by rw [zB]; omega) (by rw [zB]; omega)) (.cons (.t rfl) (.cons (.t rfl) .nil))) ((show isZ _ = isZ (cf r.2 k + cf r.2 k) from zS (by (try simp only [qO]); (try simp only [zK]))))) ?_)
 refine .so [27] rfl (.eq (.call (eJ (by rw [zB]; omega)) (.cons (.t rfl) .nil)) ((show isZ _ = isZ ((((cf r.2 k + cf r.2 k).natAbs : Nat) : Int)) from zS (by (try simp only [qO]); (try simp only [zK]))))) ?_
 refine .m [] rfl (.so [29] rfl (.nilc (.t rfl)) (.so [30] rfl (.fieldAddr (.t rfl) qw zN) (.so [31] rfl (.load1 (.t rfl) (i := 0) rfl zN rfl) (.m [] rfl (.so [33] rfl (.eq (.addI (.t rfl) (.cI 1 rfl) (by omega) (by omega)) ((show isI _ = isI ((k + 1 : Nat) : Int) from zG (by omega)))) (.so [32,34] rfl (.ixGr zp zE (.t rfl) (.t rfl) (by omega)) ?_))))))
 refine .so [35] rfl (.loadGK zL (.t rfl) (i := 1) rfl zE (xc (i := k + 1) (by omega))) (.fn (n := 30) zY (.w [6,28,36] rfl (st (.eq (.call (wK (by rw [zB]; rw [Int.natAbs_natCast]; omega) (by rw [zB]; omega)) (.cons (.t rfl) (.cons (.t rfl) .nil))) ((show isI _ = isI (xB (((cf r.2 k + cf r.2 k).natAbs : Nat) : Int) (cf ds (k + 1))) from zG (by (try simp only [qO]); (try simp only [zK]))))) rfl ?_)))
 refine st (.leI (.t rfl) (.cI 0 rfl)) rfl (stM rfl (nkQ k2 (.ret (yg (.inl rfl) Tryz.results93 rfl (.tmp (.t rfl) .nil) (⟨rfl, rfl⟩)))))
end Go.Proofs.YtlebmedapfncoaaGreat
namespace Go.Proofs.YtlebmedapfncoaaGreat
open Go.En Go.RowKit
set_option maxRecDepth 10000
set_option maxHeartbeats 4000000
open Go.Nt
theorem pb {m n : Bool} {xs ys : List Nat} (hx : (List.length (zA (val xs))) ≤ 100000000) (hy : (List.length (zA (val ys))) ≤ 100000000) (hb : zv n ys ≠ 0) : Ctr Tryz.prog 85 [zu [isB m, zD xs], zu [isB n, zD ys]] (zW [isZ ((Nat.gcd (zv m xs).natAbs (zv n ys).natAbs : Nat) : Int), isZ (xg (zv m xs) (zv n ys)), isZ (if zv n ys ≠ 0 ∧ (((Nat.gcd (zv m xs).natAbs (zv n ys).natAbs : Nat) : Int) - xg (zv m xs) (zv n ys) * zv m xs).tmod (zv n ys) = 0 then (((Nat.gcd (zv m xs).natAbs (zv n ys).natAbs : Nat) : Int) - xg (zv m xs) (zv n ys) * zv m xs).tdiv (zv n ys) else 0)]) := by
 refine Ctr.i Tryz.func85 rfl Tryz.ntmps85 fun w0 F0 => .w [0,1] rfl (.fact (Has.okZ (Has.t (t := 0) rfl)) fun okz0 => .fact (Has.okZ (Has.t (t := 1) rfl)) fun okz1 => ?_)
 have hxx := vV m xs
 have hyy := vV n ys
 have h1 := ez
 have hcof := eD (zv m xs) (zv n ys)
 have hg1 := hcof.1
 obtain ⟨g, hge⟩ : ∃ g : Int, g = ((Nat.gcd (zv m xs).natAbs (zv n ys).natAbs : Nat) : Int) := ⟨_, rfl⟩
 have hgn : (List.length (zA g.natAbs)) ≤ 100000000 := by rw [hge, Int.natAbs_natCast]; exact Nat.le_trans (qI (Nat.gcd_le_right _ (by omega))) (by omega)
 obtain ⟨c, hce⟩ : ∃ c, c = (cof (zv m xs) (zv n ys) 1 0).2 := ⟨_, rfl⟩
 have hcn : (List.length (zA c.natAbs)) ≤ 100000000 := by rw [hce]; exact Nat.le_trans (qI hcof.2.2) (Nat.le_trans (ic _ _) (by have := ib; omega))
 obtain ⟨sp, hst⟩ : ∃ sp : Int, sp = ((zv n ys).natAbs : Int) / g := ⟨_, rfl⟩
 have hsp : 0 < sp := by rw [hst, hge]; exact km hb
 have hsn : (List.length (zA sp.natAbs)) ≤ 100000000 := by rw [hst, hge]; exact Nat.le_trans (qI (oL _ _)) (by omega)
 obtain ⟨x, hxe⟩ : ∃ x, x = xg (zv m xs) (zv n ys) := ⟨_, rfl⟩
 have hxn : (List.length (zA x.natAbs)) ≤ 100000000 := by rw [hxe]; exact Nat.le_trans (qI (rz hb)) (by omega)
 have hm := qJ x (zv m xs)
 have hs := ey g (x * zv m xs)
 have hx2 : c % sp = x := by rw [hxe, hce, hst, hge]; rfl
 refine .sr fun k1 => .box (.t rfl) rfl fun b1 => .box (.t rfl) rfl fun b2 => .alloc [isB false, SlM isU []] zJ (fun _ _ => ⟨rfl, nilM _ _, trivial⟩) rfl fun b3 => .alloc [isB false, SlM isU []] zJ (fun _ _ => ⟨rfl, nilM _ _, trivial⟩) rfl fun b4 => .alloc [isB false, SlM isU []] zJ (fun _ _ => ⟨rfl, nilM _ _, trivial⟩) rfl fun b5 => nkQ k1 (.sq fun k2 => .sr fun k3 => st (.load (.t rfl) (i := 3) rfl zE rfl (Ss' := [_, _]) rfl) rfl (st (.call (qD (by omega)) (.cons (.t rfl) .nil)) rfl (st (.eqI (.t rfl) (.cI 0 rfl)) rfl (nkQ k3 (.cd rfl (fun hc1 => ?_) (fun hc1 => ?_))))))
 ·exact absurd ((xN _).1 hc1) hb
 ·refine .skip (.nk k2 (.w [2,3,4,5,6] rfl (.sr fun k4 => st (.load (.t rfl) (i := 4) rfl zE rfl (Ss' := [_, _]) rfl) rfl (st (.load (.t rfl) (i := 3) rfl zE rfl (Ss' := [_, _]) rfl) rfl (st (.eq (.call (fm (by with_reducible assumption) (by with_reducible assumption)) (.cons (.t rfl) (.cons (.t rfl) .nil))) ((show zW [isZ _, isZ _] = zW [isZ g, isZ c] from by rw [hce, hge, hg1]))) rfl (stM rfl (st (.ext (.t rfl) rfl) rfl (st (.ext (.t rfl) rfl) rfl (.alloc [isB false, SlM isU []] zJ (fun _ _ => ⟨rfl, nilM _ _, trivial⟩) rfl fun b6 => .alloc [isB false, SlM isU []] zJ (fun _ _ => ⟨rfl, nilM _ _, trivial⟩) rfl fun b7 => .store (.t rfl) (.t rfl) (i := 1) rfl zE rfl rfl (Ss' := [_, _]) rfl (M' := [_, (some _, zC [_, _]), _, _, _, _, _]) rfl (.store (.t rfl) (.t rfl) (i := 0) rfl zE rfl rfl (Ss' := [_, _]) rfl (M' := [(some _, zC [_, _]), _, _, _, _, _, _]) rfl (nkQ k4 (.w [2,3,4,5,6,7,8] rfl (.sq fun k5 => .drh [true, true, true, true, true, true, true] (Ms := [_, _, _, _, _, _, _]) rfl (.so [] rfl (.load (.t rfl) (i := 5) rfl zE rfl (Ss' := [_, _]) rfl) (.so [29] rfl (.call (eJ (by omega)) (.cons (.t rfl) .nil)) (.so [] rfl (.load (.t rfl) (i := 1) rfl zE rfl (Ss' := [_, _]) rfl) ?_))))))))))))))))
  refine .so [30,31] rfl (.eq (.call (jS (by simp only [zB, zK, Int.natAbs_natCast]; omega) (by simp only [zB, zK]; omega)) (.cons (.t rfl) (.cons (.t rfl) .nil))) ((by simp only [zK]; rw [show (if g ≠ 0 ∧ (((zv n ys).natAbs : Nat) : Int).tmod g = 0 then (((zv n ys).natAbs : Nat) : Int).tdiv g else 0) = sp from by rw [hst, hge, ← hg1]; exact (yF hb).trans (by rw [hg1])]))) ?_
  refine .m [32] rfl (.so [28] rfl (.ext (.t rfl) rfl) (.so [28] rfl (.ext (.t rfl) rfl) (.als2 (n1 := 8) (ds := [9]) (zs := [[isB false, SlM isU []]]) rfl (.cons rfl rfl zJ (fun _ _ => ⟨rfl, nilM _ _, trivial⟩) .nil) (.cons_cons _ (.cons_cons _ (.cons_cons _ (.cons_cons _ (.cons_cons _ (.cons_cons _ (.cons_cons _ .slnil))))))) (Cs := [_]) rfl (.new [33] 0 (Ss' := [_, _]) (Cs' := [zC [_, _]]) rfl (by kernel_rfl) (by kernel_rfl) rfl rfl rfl (by kernel_rfl) rfl (.t rfl) zE rfl rfl rfl rfl (.fn (n := 9) zY rfl (fun bs hbs => ?_))))))
  obtain ⟨b8, rfl⟩ := cl hbs
  refine .memEq (M' := [_, _, _, _, _, _, _, _]) rfl (.cv (Cv.wk (.k 2 rfl (.k 3 rfl (.k 4 rfl (.k 5 rfl (.k 6 rfl (.k 7 rfl (.k 8 rfl (.k 34 rfl (.cons (t := 9) (Has.op rfl) .nil)))))))))) (stM rfl (nkQ k5 (.sr fun k6 => st (.load (.t rfl) (i := 1) rfl zE rfl (Ss' := [_, _]) rfl) rfl (st (.load (.t rfl) (i := 0) rfl zE rfl (Ss' := [_, _]) rfl) rfl (st (.eq (.call (kd (by simp only [zB, zK]; omega) (by simp only [zB, zK]; omega)) (.cons (.t rfl) (.cons (.t rfl) .nil))) ((by simp only [zK]; rw [if_neg (show ¬ sp = 0 by omega), hx2]))) rfl ?_))))))
  refine stM rfl (st (.ext (.t rfl) rfl) rfl (st (.ext (.t rfl) rfl) rfl (st (.ext (.t rfl) rfl) rfl (.store (.t rfl) (.t rfl) (i := 1) rfl zE rfl rfl (Ss' := [_, _]) rfl (M' := [_, (some _, zC [_, _]), _, _, _, _, _, _]) rfl (nkQ k6 (.w [2,3,4,5,6,7,8] rfl (.sq fun k7 => .drh [true, true, true, true, true, true, true, true] (Ms := [_, _, _, _, _, _, _, _]) rfl (.so [] rfl (.load (.t rfl) (i := 2) rfl zE rfl (Ss' := [_, _]) rfl) (.so [] rfl (.load (.t rfl) (i := 1) rfl zE rfl (Ss' := [_, _]) rfl) (.so [] rfl (.load (.t rfl) (i := 7) rfl zE rfl (Ss' := [_, _]) rfl) (.so [44,45] rfl (.eq (.call (qP (by simp only [zB, zK]; omega) (by omega)) (.cons (.t rfl) (.cons (.t rfl) .nil))) (by simp only [zB, zK]; rfl)) ?_)))))))))))
  refine .so [43,46] rfl (.eq (.call (xy (by simp only [zB, zK]; omega) (by simp only [zB, zK]; omega)) (.cons (.t rfl) (.cons (.t rfl) .nil))) (by simp only [zB, zK]; rfl)) ?_
  refine .so [] rfl (.load (.t rfl) (i := 6) rfl zE rfl (Ss' := [_, _]) rfl) (.so [47,48] rfl (.eq (.call (jS (by simp only [zB, zK]; omega) (by omega)) (.cons (.t rfl) (.cons (.t rfl) .nil))) (by simp only [zB, zK]; rfl)) ?_)
  refine .m [49] rfl (.so [42] rfl (.ext (.t rfl) rfl) (.so [42] rfl (.ext (.t rfl) rfl) (.als2 (n1 := 11) (ds := [11]) (zs := [[isB false, SlM isU []]]) rfl (.cons rfl rfl zJ (fun _ _ => ⟨rfl, nilM _ _, trivial⟩) .nil) (.cons_cons _ (.cons_cons _ (.cons_cons _ (.cons_cons _ (.cons_cons _ (.cons_cons _ (.cons_cons _ (.cons_cons _ .slnil)))))))) (Cs := [_]) rfl (.new [50] 0 (Ss' := [_, _]) (Cs' := [zC [_, _]]) rfl (by kernel_rfl) (by kernel_rfl) rfl rfl rfl (by kernel_rfl) rfl (.t rfl) zE rfl rfl rfl rfl (.fn (n := 12) zY rfl (fun bs hbs => ?_))))))
  obtain ⟨b9, rfl⟩ := cl hbs
  refine .memEq (M' := [_, _, _, _, _, _, _, _, _]) rfl (.cv (Cv.wk (.k 4 rfl (.k 5 rfl (.k 6 rfl (.k 7 rfl (.k 8 rfl (.k 51 rfl (.cons (t := 11) (Has.op rfl) .nil)))))))) (stM rfl (nkQ k7 (.sq fun k8 => .drh [true, true, true, true, true, false, false, true, true] (Ms := [_, _, _, _, _, _, _]) rfl (.so [] rfl (.load (.t rfl) (i := 3) rfl zE rfl (Ss' := [_, _]) rfl) (.so [] rfl (.load (.t rfl) (i := 2) rfl zE rfl (Ss' := [_, _]) rfl) (.so [] rfl (.load (.t rfl) (i := 0) rfl zE rfl (Ss' := [_, _]) rfl) (.mid2 (.cons_cons _ (.cons_cons _ (.cons_cons _ (.cons_cons _ (.cons_cons _ (.cons _ (.cons _ (.cons_cons _ (.cons_cons _ .slnil))))))))) (.st0 [52] rfl rfl (by kernel_rfl) (by kernel_rfl) (StS.store (.t rfl) (.t rfl) (i := 6) rfl zE rfl rfl (Ss' := [_, _]) rfl (M' := [_, _, _, _, _, _, (some _, zC [_, _]), _, _]) rfl) (.cons_cons _ (.cons_cons _ (.cons_cons _ (.cons_cons _ (.cons_cons _ (.cons _ (.cons _ (.cons_cons _ (.cons_cons _ .slnil))))))))) (.st0 [53] rfl rfl (by kernel_rfl) (by kernel_rfl) (StS.store (.t rfl) (.t rfl) (i := 5) rfl zE rfl rfl (Ss' := [_, _]) rfl (M' := [_, _, _, _, _, (some _, zC [_, _]), _, _, _]) rfl) (.cons_cons _ (.cons_cons _ (.cons_cons _ (.cons_cons _ (.cons_cons _ (.cons _ (.cons _ (.cons_cons _ (.cons_cons _ .slnil))))))))) (.fin0 (n := 5) zY rfl (by kernel_rfl) (by kernel_rfl) (by kernel_rfl) (.w [4,5,6,54] rfl (.store (.t rfl) (.t rfl) (i := 4) rfl zE rfl rfl (Ss' := [_, _]) rfl (M' := [_, _, _, _, (some _, zC [_, _]), _, _, _, _]) rfl (nkQ k8 (.ret (rtN (.inl rfl) Tryz.results85 rfl rfl (.cell rfl (i := 6) rfl zE rfl ?_ (.cell rfl (i := 5) rfl zE rfl ?_ (.cell rfl (i := 4) rfl zE rfl ?_ .nil)))))))))))))))))))
  ·exact zS hge
  ·exact zS hxe
  ·exact zS (by rw [hge, hxe])
end Go.Proofs.YtlebmedapfncoaaGreat
namespace Go.Proofs.YtlebmedapfncoaaGreat
open Go.En Go.RowKit
set_option maxRecDepth 10000
set_option maxHeartbeats 4000000
open Go.Nt
open Go.Pz
open Go.Mz
theorem wI {n : Int} : Ctr Tryz.prog 28 [isI n] (isB (decide (0 ≤ n) && decide (n ≤ 64))) := by
 refine Ctr.i Tryz.func28 rfl Tryz.ntmps28 fun w0 F0 => .w [0] rfl (.fact (Has.rngI (Has.t (t := 0) rfl)) fun lt0 => .sr fun k1 => st (.as (.cB false)) rfl (nkQ k1 (.sr fun k2 => stM rfl (st (.geI (.t rfl) (.cI 0 rfl)) rfl (stM rfl (stT rfl rfl (fun hg => .mv (.t rfl)) rfl (stT rfl rfl (fun hg => .leI (Has.g rfl hg) (.cI 64 rfl)) rfl (st (.pickAnd (.t rfl) (fun h => Has.g rfl h)) rfl (stM rfl (nkQ k2 (.w [2] rfl (.ret (rt1 (.inl rfl) Tryz.results28 rfl (.tmp (Has.t' rfl ?_) .nil))))))))))))))
 all_goals (rfl)
theorem qA {r c : Int} {xs : List (Bool × List Nat)} : Ctr Tryz.prog 24 [isM r c xs] (isB (xV r c xs.length)) := by
 refine Ctr.i Tryz.func24 rfl Tryz.ntmps24 fun w0 F0 => .w [0] rfl (.sr fun k1 => .box (.t rfl) rfl fun b1 => st (.as (.cB false)) rfl (nkQ k1 (.sr fun k2 => st (.fieldAddr (.t rfl) zZ ty3) rfl (st (.load1 (.t rfl) (i := 0) rfl ty3 rfl) rfl (st (.call (wI) (.cons (.t rfl) .nil)) rfl (stM rfl (stT rfl rfl (fun hg => .fieldAddr (.t rfl) zo ty3) rfl (stT rfl rfl (fun hg => .load1 (Has.g rfl hg) (i := 0) rfl ty3 rfl) rfl (stT rfl rfl (fun hg => .call (wI) (.cons (Has.g rfl hg) .nil)) rfl (st (.pickAnd (.t rfl) (fun h => Has.g rfl h)) rfl (stM rfl (stT rfl rfl (fun hg => .fieldAddr (.t rfl) qX zN) rfl (stT rfl rfl (fun hg => .load1 (Has.g rfl hg) (i := 0) rfl zN rfl) rfl (stT rfl rfl (fun hg => .len zp (Has.g rfl hg)) rfl (stT rfl rfl (fun hg => .fieldAddr (.t rfl) zZ ty3) rfl (stT rfl rfl (fun hg => .load1 (Has.g rfl hg) (i := 0) rfl ty3 rfl) rfl (stT rfl rfl (fun hg => .fieldAddr (.t rfl) zo ty3) rfl (stT rfl rfl (fun hg => .load1 (Has.g rfl hg) (i := 0) rfl ty3 rfl) rfl ?_))))))))))))))))))
 refine stT rfl rfl (fun hg => have hg' := BP.t hg; OK1.mulI (Has.g rfl hg) (Has.g rfl hg) (by have := dh ⟨hg'.1, hg'.2⟩; omega) (by have := dh ⟨hg'.1, hg'.2⟩; omega)) rfl ?_
 refine stT rfl rfl (fun hg => .eqI (Has.g rfl hg) (Has.g rfl hg)) rfl (st (.pickAnd (.t rfl) (fun h => Has.g rfl h)) rfl (stM rfl (nkQ k2 (.w [2] rfl (.ret (rt1 (.inl rfl) Tryz.results24 rfl (.tmp (Has.t' rfl ?_) .nil)))))))
 all_goals (rfl)
theorem jP {r : Int} {C i k : Nat} {xs : List (Bool × List Nat)} (hx : xs.length ≤ 4096) (hl : i * C + k < xs.length) : Ctr Tryz.prog 38 [isM r (C : Int) xs, isI (i : Int), isI (k : Int)] (zu (zc (xs.getD (i * C + k) (false, [])))) := by
 refine Ctr.i Tryz.func38 rfl Tryz.ntmps38 fun w0 F0 => .w [0,1,2] rfl (.fact (Has.rngI (Has.t (t := 1) rfl)) fun lt1 => .fact (Has.rngI (Has.t (t := 2) rfl)) fun lt2 => ?_)
 have hcp : ((i : Int) * (C : Int)) = ((i * C : Nat) : Int) := (Int.natCast_mul i C).symm
 refine .sr fun k1 => .box (.t rfl) rfl fun b1 => .alloc [isB false, SlM isU []] zJ (fun _ _ => ⟨rfl, nilM _ _, trivial⟩) rfl fun b2 => nkQ k1 (.sr fun k2 => st (.fieldAddr (.t rfl) qX zN) rfl (st (.load1 (.t rfl) (i := 1) rfl zN rfl) rfl (stM rfl (st (.fieldAddr (.t rfl) zo ty3) rfl (st (.load1 (.t rfl) (i := 1) rfl ty3 rfl) rfl (st (.eq (.mulI (.t rfl) (.t rfl) (by omega) (by omega)) ((show isI _ = isI ((i * C : Nat) : Int) from zG hcp))) rfl (stM rfl (st (.eq (.addI (.t rfl) (.t rfl) (by omega) (by omega)) ((show isI _ = isI ((i * C + k : Nat) : Int) from zG (by omega)))) rfl (st (.ixK zp zE (.t rfl) (.t rfl) zL (by omega) (getD_some (d := (false, [])) (by omega))) rfl (st (.loadP (.t rfl) zE rfl (Ss' := [_, _]) rfl) rfl (.store (.t rfl) (.t rfl) (i := 0) rfl zE rfl rfl (Ss' := [_, _]) rfl (M' := [(some _, zC [_, _]), _]) rfl (nkQ k2 (.w [6] rfl (.ret (rt1 (.inl rfl) Tryz.results38 rfl (.cell rfl (i := 0) rfl zE rfl ?_ .nil))))))))))))))))
 all_goals (rfl)
theorem ru {r c i : Int} {xs : List (Bool × List Nat)} : Ctr Tryz.prog 37 [isM r c xs, isI i] (isB (decide (0 ≤ i) && decide (i < r))) := by
 refine Ctr.i Tryz.func37 rfl Tryz.ntmps37 fun w0 F0 => .w [0,1] rfl (.fact (Has.rngI (Has.t (t := 1) rfl)) fun lt1 => .sr fun k1 => .box (.t rfl) rfl fun b1 => st (.as (.cB false)) rfl (nkQ k1 (.sr fun k2 => stM rfl (st (.geI (.t rfl) (.cI 0 rfl)) rfl (stM rfl (stT rfl rfl (fun hg => .mv (.t rfl)) rfl (stT rfl rfl (fun hg => .fieldAddr (.t rfl) zZ ty3) rfl (stT rfl rfl (fun hg => .load1 (Has.g rfl hg) (i := 0) rfl ty3 rfl) rfl (stT rfl rfl (fun hg => .ltI (Has.g rfl hg) (Has.g rfl hg)) rfl (st (.pickAnd (.t rfl) (fun h => Has.g rfl h)) rfl (stM rfl (nkQ k2 (.w [4] rfl (.ret (rt1 (.inl rfl) Tryz.results37 rfl (.tmp (Has.t' rfl ?_) .nil))))))))))))))))
 all_goals (rfl)
theorem wJ {R C : Nat} {f : Nat → Nat → Bool × List Nat} (hR : R ≤ 64) (hC : C ≤ 64) (hf : ∀ i k, i < R → k < C → (List.length (zA (val (f i k).2))) ≤ 4294967296) : Ctr Tryz.prog 29 [isI (R : Int), isI (C : Int), zHT Tryz.prog R C f] (xQ R C (tab (R * C) C fun i k => zv (f i k).1 (f i k).2)) := by
 refine Ctr.i Tryz.func29 rfl Tryz.ntmps29 fun w0 F0 => .w [0,1,2] rfl (.fact (Has.rngI (Has.t (t := 0) rfl)) fun lt0 => .fact (Has.rngI (Has.t (t := 1) rfl)) fun lt1 => ?_)
 have hRC := qi hR hC
 obtain ⟨G, hG⟩ : ∃ G : Nat → Nat → Int, G = fun i k => zv (f i k).1 (f i k).2 := ⟨_, rfl⟩
 rw [← hG]
 refine .sr fun k1 => .alloc [isI 0, isI 0, zw] zf (fun _ _ => ⟨⟨rfl, by decide, by decide⟩, ⟨rfl, by decide, by decide⟩, rfl, trivial⟩) rfl fun b1 => nkQ k1 (.sr fun k2 => stM rfl (stM rfl (st (.build [isI 0, isI 0, zw] eo zf (fun _ _ => ⟨⟨rfl, by decide, by decide⟩, ⟨rfl, by decide, by decide⟩, rfl, trivial⟩) (.cons (.t rfl) rfl rfl rfl (.cons (.t rfl) rfl rfl rfl .nil)) (Z'' := [_, _, _]) rfl) rfl (.alloc [isI 0, isI 0, zw] zf (fun _ _ => ⟨⟨rfl, by decide, by decide⟩, ⟨rfl, by decide, by decide⟩, rfl, trivial⟩) rfl fun b2 => .store (.t rfl) (.t rfl) (i := 0) rfl zO rfl rfl (Ss' := [_, _, _]) rfl (M' := [(some _, zC [_, _, _]), _]) rfl (nkQ k2 (.sq fun k3 => .sq fun k4 => .cv (Cv.growF (Bool × List Nat) (i := 0) (o := 2) rfl rfl rfl) (.memEq (M' := [zz zc Gr.nil [], _, _]) rfl (.region (stM rfl (st (.mv (.cI 0 rfl)) rfl (nkQ k4 (.block (.loopF [1,2,6,7,14] (fun (z : { z : Nat × Gr (Bool × List Nat) // z.1 ≤ R }) => match z with | ⟨(i, g), hI⟩ => [(15, isI (i : Int))]) (fun M => fun (z : { z : Nat × Gr (Bool × List Nat) // z.1 ≤ R }) => match z with | ⟨(i, g), hI⟩ => [zz zc g ((tab (i * C + 0) C G).map nz), (some b2, zC [isI (R : Int), isI (C : Int), zj g ((tab (i * C + 0) C G).map nz).length]), (some b1, zC [isI 0, isI 0, zw])]) (fun (z : { z : Nat × Gr (Bool × List Nat) // z.1 ≤ R }) => match z with | ⟨(i, g), hI⟩ => R - i) (⟨(0, Gr.nil), Nat.zero_le _⟩) (Cv.mem (.c 15 rfl ?_ (.l [1,2,6,7,14] rfl)) ?_) ?_)))))))))))))
 ·rfl
 ·exact kB (n := 0) (ys := []) (by rw [List.length_map, qe, Nat.zero_mul]) (show [] = (tab (0 * C + 0) C G).map nz by rw [Nat.zero_mul]; rfl)
 rintro ⟨⟨i, g⟩, hI⟩ K5 hK5
 refine .w [15,1,2,6,7,14] rfl (.memEq (M' := [zz zc g ((tab (i * C + 0) C G).map nz), (some b2, zC [isI (R : Int), isI (C : Int), zj g ((tab (i * C + 0) C G).map nz).length]), (some b1, zC [isI 0, isI 0, zw])]) rfl ?_)
 simp only [] at hI
 refine .sr fun k6 => st (.ltI (.t rfl) (.t rfl)) rfl (nkQ k6 (.sq fun k7 => .cd rfl (fun hc1 => ?_) (fun hc1 => ?_)))
 ·refine .skip (.nk k7 (.sq fun k8 => .block (.sr fun k9 => stM rfl (stM rfl (nkQ k9 (.sr fun k10 => stM rfl (st (.mv (.cI 0 rfl)) rfl (nkQ k10 (.block (.loopF [1,2,6,7,14,15,16,17,8,18] (fun (z : { z : Nat × Gr (Bool × List Nat) // z.1 ≤ C }) => match z with | ⟨(k, g2), hK⟩ => [(19, isI (k : Int))]) (fun M => fun (z : { z : Nat × Gr (Bool × List Nat) // z.1 ≤ C }) => match z with | ⟨(k, g2), hK⟩ => [zz zc g2 ((tab (i * C + k) C G).map nz), (some b2, zC [isI (R : Int), isI (C : Int), zj g2 ((tab (i * C + k) C G).map nz).length]), (some b1, zC [isI 0, isI 0, zw])]) (fun (z : { z : Nat × Gr (Bool × List Nat) // z.1 ≤ C }) => match z with | ⟨(k, g2), hK⟩ => C - k) (⟨(0, g), Nat.zero_le _⟩) (Cv.mem (.c 19 rfl ?_ (.l [1,2,6,7,14,15,16,17,8,18] rfl)) ?_) ?_))))))))))
  ·rfl
  ·rfl
  rintro ⟨⟨k, g2⟩, hK⟩ K11 hK11
  refine .w [19,1,2,6,7,14,15,16,17,8,18] rfl (.memEq (M' := [zz zc g2 ((tab (i * C + k) C G).map nz), (some b2, zC [isI (R : Int), isI (C : Int), zj g2 ((tab (i * C + k) C G).map nz).length]), (some b1, zC [isI 0, isI 0, zw])]) rfl ?_)
  simp only [] at hK
  refine .sr fun k12 => st (.ltI (.t rfl) (.t rfl)) rfl (nkQ k12 (.sq fun k13 => .cd rfl (fun hc2 => ?_) (fun hc2 => ?_)))
  ·refine .skip (.nk k13 (.sq fun k14 => .block (.sr fun k15 => stM rfl (stM rfl (nkQ k15 (.sr fun k16 => stM rfl (stM rfl (stM rfl (st (.callV ⟨(i, k), by omega, by omega⟩ (.t rfl) (.cons (.t rfl) (.cons (.t rfl) .nil))) rfl (.alloc [isB false, SlM isU []] zJ (fun _ _ => ⟨rfl, nilM _ _, trivial⟩) rfl fun b3 => .store (.t rfl) (.t rfl) (i := 0) rfl zE rfl rfl (Ss' := [_, _]) rfl (M' := [(some _, zC [_, _]), _, _, _]) rfl (nkQ k16 (.dr (.so [] rfl (.fieldAddr (.t rfl) qX zN) (.so [26] rfl (.load1 (.t rfl) (i := 2) rfl zN rfl) (.so [] rfl (.fieldAddr (.t rfl) qa xA) (.so [28] rfl (.load1 (.t rfl) (i := 0) rfl xA rfl) (.so [] rfl (.fieldAddr (.t rfl) xJ ty4) (.so [30] rfl (.load1 (.t rfl) (i := 0) rfl ty4 rfl) (.so [29,31] rfl (.eq (.call (qu (hf i k (by omega) (by omega))) (.cons (.t rfl) (.cons (.t rfl) .nil))) ((show isZ _ = zu (zc (nz (G i k))) from zS (by rw [hG])))) (.so [32] rfl (.buildS [isB false, SlM isU []] zp zE zJ (fun _ _ => ⟨rfl, nilM _ _, trivial⟩) rfl rfl (.cons (.t rfl) rfl rfl rfl .nil) rfl (S := SlK 2 zc [nz (G i k)]) rfl) (.fn (n := 8) zY (.w [1,2,6,7,14,15,16,17,8,18,19,20,21,9,22,23,24,25,10,26,27,28,29,30,31,32,33] rfl (.appendGK (fk := zc) (u := (false, [])) zL (by decide) (fun _ => inferInstance) zp zE zJ (fun _ _ => ⟨rfl, nilM _ _, trivial⟩) bY (.t rfl) (i := 1) rfl (.t rfl) (by have hpl := qN (show i < R by omega) (show k < C by omega); rw [List.length_map, qe]; show i * C + k + 1 ≤ _; omega) (by simp) rfl fun gr1 => ?_)))))))))))))))))))))))
   refine .memEq (M' := [_, zz _ _ _, _, _]) rfl (st (.fieldAddr (.t rfl) qX zN) rfl (.store (.t rfl) (.t rfl) (i := 2) rfl zN rfl rfl (Ss' := [_, _, _]) rfl (M' := [_, _, (some _, zC [_, _, _]), _]) rfl (nl (.bln (.nk k14 (.region (st (.addI (.t rfl) (.cI 1 rfl) (by omega) (by omega)) rfl (stM rfl (nl (.thn ?_))))))))))
   have hpl := qN (show i < R by omega) (show k < C by omega)
   refine hK11 (⟨(k + 1, gr1), by show k + 1 ≤ C; omega⟩) _ _ ?_ (Cv.trans (Cv.drop ((.cons _ (.cons_cons _ (.cons_cons _ (.cons_cons _ .slnil)))))) (Cv.mem (.c 19 rfl ?_ (.l [1,2,6,7,14,15,16,17,8,18] rfl)) ?_))
   ·show C - (k + 1) < C - k; omega
   ·exact zG (by omega)
   ·exact kB (by rw [← eM G (show k < C by omega), List.map_append, List.length_append]; rfl) (by rw [← eM G (show k < C by omega), List.map_append]; rfl)
  ·refine .exit (.the (.the (.blh (.bln (.nk k8 (.region (st (.addI (.t rfl) (.cI 1 rfl) (by omega) (by omega)) rfl (stM rfl (nl (.thn ?_))))))))))
   have hkC : k = C := by omega
   subst hkC
   refine hK5 (⟨(i + 1, g2), by show i + 1 ≤ R; omega⟩) _ _ ?_ (Cv.mem (.c 15 rfl ?_ (.l [1,2,6,7,14] rfl)) ?_)
   ·show R - (i + 1) < R - i; omega
   ·exact zG (by omega)
   ·exact kB (by rw [eO]) (by rw [eO])
 ·refine .exit (.the (.the (.blh (.nk k3 (.w [6,7] rfl (.sq fun k17 => .cv (Cv.freezeF (k := 2) (i := 0) (j := 0) (o := 2) rfl rfl rfl rfl (cO zL) (aX zL) (Ss' := [_, _, SlK 2 zc ((tab (i * C + 0) C G).map nz)]) rfl) (.memEq (M' := [(some _, zC [_, _, SlK 2 zc ((tab (i * C + 0) C G).map nz)]), _]) rfl (.w [6,7] rfl (.region (st (.load (.t rfl) (i := 0) rfl zO rfl (Ss' := [_, _, _]) rfl) rfl (.store (.t rfl) (.t rfl) (i := 1) rfl zO rfl rfl (Ss' := [_, _, _]) rfl (M' := [_, (some _, zC [_, _, _])]) rfl (nkQ k17 (.ret (rt1 (.inl rfl) Tryz.results29 rfl (.cell rfl (i := 1) rfl zO rfl ?_ .nil)))))))))))))))
  all_goals (rw [Nat.add_zero, show i = R by omega])
theorem pa {C i k : Nat} {l : List Int} (hx : l.length ≤ 4096) (hl : i * C + k < l.length) : Ctr Tryz.prog 30 [isI (i : Int), isI (k : Int), aD [SlM isI l], aD [isI (C : Int)]] (isZ (cf l (i * C + k))) := by
 refine Ctr.i Tryz.func30 rfl Tryz.ntmps30 fun w0 F0 => .w [0,1,2,3] rfl (.fact (Has.rngI (Has.t (t := 0) rfl)) fun lt0 => .fact (Has.rngI (Has.t (t := 1) rfl)) fun lt1 => ?_)
 have hcp : ((i : Int) * (C : Int)) = ((i * C : Nat) : Int) := (Int.natCast_mul i C).symm
 refine .sr fun k1 => .alloc [isB false, SlM isU []] zJ (fun _ _ => ⟨rfl, nilM _ _, trivial⟩) rfl fun b1 => nkQ k1 (.sr fun k2 => st (.loadP1 (.t rfl) zGA) rfl (stM rfl (st (.loadP1 (.t rfl) ty3) rfl (st (.eq (.mulI (.t rfl) (.t rfl) (by omega) (by omega)) ((show isI _ = isI ((i * C : Nat) : Int) from zG hcp))) rfl (stM rfl (st (.eq (.addI (.t rfl) (.t rfl) (by omega) (by omega)) ((show isI _ = isI ((i * C + k : Nat) : Int) from zG (by omega)))) rfl (st (.ixP zDH ty2 (.t rfl) (.t rfl) (by omega) (getD_some (d := 0) (by omega))) rfl (st (.loadP1 (.t rfl) ty2) rfl (st (.call (qt) (.cons (.t rfl) .nil)) rfl (.store (.t rfl) (.t rfl) (i := 0) rfl zE rfl rfl (Ss' := [_, _]) rfl (M' := [(some _, zC [_, _])]) rfl (nkQ k2 (.w [6] rfl (.ret (rt1 (.inl rfl) Tryz.results30 rfl (.cell rfl (i := 0) rfl zE rfl ?_ .nil)))))))))))))))
 all_goals (rfl)
theorem yE {R C : Nat} {l : List Int} (hR : R ≤ 64) (hC : C ≤ 64) (hl : l.length = R * C) (hb : ∀ y ∈ l, -9223372036854775808 ≤ y ∧ y < 9223372036854775808) : Ctr Tryz.prog 14 [isI (R : Int), isI (C : Int), SlM isI l] (zW [xQ R C (tab (R * C) C fun i k => cf l (i * C + k)), isI 0]) := by
 refine Ctr.i Tryz.func14 rfl Tryz.ntmps14 fun w0 F0 => .w [0,1,2] rfl (.fact (Has.rngI (Has.t (t := 0) rfl)) fun lt0 => .fact (Has.rngI (Has.t (t := 1) rfl)) fun lt1 => .fact (Has.lenLt (Has.t (t := 2) rfl)) fun lt2 => ?_)
 have hRC := qi hR hC
 have hcp : ((R : Int) * (C : Int)) = ((R * C : Nat) : Int) := (Int.natCast_mul R C).symm
 refine .sr fun k1 => .box (.t rfl) rfl fun b1 => .box (.t rfl) rfl fun b2 => .alloc [isI 0, isI 0, zw] zf (fun _ _ => ⟨⟨rfl, by decide, by decide⟩, ⟨rfl, by decide, by decide⟩, rfl, trivial⟩) rfl fun b3 => st (.as (.cI 0 rfl)) rfl (nkQ k1 (.sq fun k2 => .block (.sr fun k3 => stM rfl (st (.call (wI) (.cons (.t rfl) .nil)) rfl (st (.not (.t rfl)) rfl (stM rfl (stF rfl rfl (fun hg => .load1 (.t rfl) (i := 2) rfl ty3 rfl) rfl (stF rfl rfl (fun hg => .call (wI) (.cons (Has.g rfl hg) .nil)) rfl (stF rfl rfl (fun hg => .not (Has.g rfl hg)) rfl (st (.pickOr (.t rfl) (fun h => Has.g rfl (ng h))) rfl (stM rfl (nkQ k3 (.w [0,4,5,6,7,8] rfl (.cd rfl (fun hc1 => ?_) (fun hc1 => ?_)))))))))))))))
 ·omega
 ·refine .sr fun k4 => st (.load1 (.t rfl) (i := 1) rfl zGA rfl) rfl (st (.len zDH (.t rfl)) rfl (stM rfl (st (.load1 (.t rfl) (i := 2) rfl ty3 rfl) rfl (st (.mulI (.t rfl) (.t rfl) (by rw [hcp]; omega) (by rw [hcp]; omega)) rfl ?_))))
  refine st (.neI (.t rfl) (.t rfl)) rfl (stM rfl (nkQ k4 (.w [0,4,5,6,7,18] rfl (.cd rfl (fun hc2 => ?_) (fun hc2 => ?_)))))
  ·rw [hcp] at hc2; omega
  ·refine .skip (.bln (.nk k2 (.sr fun k5 => stM rfl (st (.load1 (.t rfl) (i := 2) rfl ty3 rfl) rfl (.cv (Cv.freezeBox (t := 5) (i := 1) rfl rfl rfl) (.memEq (M' := [_, _]) rfl (.w [0,4,5,6,7,18,26,27] rfl (.cv (Cv.freezeBox (t := 4) (i := 1) rfl rfl rfl) (.memEq (M' := [_]) rfl (.w [0,4,5,6,7,18,26,27] rfl (st (.makeFn (ι := PI R C) (As := fun p => [isI (p.1.1 : Int), isI (p.1.2 : Int)]) (R := fun p => zu (zc (nz (cf l (p.1.1 * C + p.1.2))))) (fun p => pa (by omega) (by rw [hl]; exact qN p.2.1 p.2.2)) .nil (.cons (.t rfl) (.cons (.t rfl) .nil))) rfl ?_)))))))))))
   refine st (.call (wJ (f := fun i k => nz (cf l (i * C + k))) hR hC (fun i k _ _ => by rw [zB]; exact Nat.le_trans (zFQ hb _) (by decide))) (.cons (.t rfl) (.cons (.t rfl) (.cons (.t rfl) .nil)))) rfl ?_
   refine .store (.t rfl) (.t rfl) (i := 0) rfl zO rfl rfl (Ss' := [_, _, _]) rfl (M' := [(some _, zC [_, _, _])]) rfl (st (.as (.cI 0 rfl)) rfl (nkQ k5 (.w [6,7] rfl (.ret (rtN (.inl rfl) Tryz.results14 rfl rfl (.cell rfl (i := 0) rfl zO rfl ?_ (.tmp (Has.t' rfl ?_) .nil)))))))
   ·exact bD (by rw [zvz fun i k => cf l (i * C + k)])
   ·rfl
theorem wh {R C i k : Nat} {xs : List (Bool × List Nat)} {K : Nat} (hx : Bd (zF xs) K) (hK : K ≤ 4000000000) (hR : R ≤ 64) (hC : C ≤ 64) (hl : xs.length = R * C) (hi : i < R) (hk : k < C) : Ctr Tryz.prog 17 [isM (R : Int) (C : Int) xs, isI (i : Int), isI (k : Int)] (isZ (cf (zF xs) (i * C + k))) := by
 refine Ctr.i Tryz.func17 rfl Tryz.ntmps17 fun w0 F0 => .w [0,1,2] rfl (.fact (Has.rngI (Has.t (t := 1) rfl)) fun lt1 => .fact (Has.rngI (Has.t (t := 2) rfl)) fun lt2 => ?_)
 have hRC := qi hR hC
 have hpl := qN hi hk
 have hfo := qE hR hC hl
 have hxr := hx.raw (i * C + k)
 refine .sr fun k1 => .box (.t rfl) rfl fun b1 => .alloc [isB false, SlM isU []] zJ (fun _ _ => ⟨rfl, nilM _ _, trivial⟩) rfl fun b2 => nkQ k1 (.sq fun k2 => .sr fun k3 => st (.load (.t rfl) (i := 1) rfl zO rfl (Ss' := [_, _, _]) rfl) rfl (st (.eq (.call (qA) (.cons (.t rfl) .nil)) ((show isB _ = isB true from zg hfo))) rfl (st (.not (.t rfl)) rfl (stM rfl (stF rfl rfl (fun hg => .load (.t rfl) (i := 1) rfl zO rfl (Ss' := [_, _, _]) rfl) rfl (stF rfl rfl (fun hg => .mv (.t rfl)) rfl (stF rfl rfl (fun hg => .call (ru) (.cons (Has.g rfl hg) (.cons (Has.g rfl hg) .nil))) rfl (stF rfl rfl (fun hg => .not (Has.g rfl hg)) rfl (st (.pickOr (.t rfl) (fun h => Has.g rfl (ng h))) rfl (stM rfl (stF rfl rfl (fun hg => .mv (.t rfl)) rfl (stF rfl rfl (fun hg => .ltI (Has.g rfl hg) (.cI 0 rfl)) rfl (st (.pickOr (.t rfl) (fun h => Has.g rfl (ng h))) rfl (stM rfl (stF rfl rfl (fun hg => .mv (.t rfl)) rfl (stF rfl rfl (fun hg => .fieldAddr (.t rfl) zo ty3) rfl (stF rfl rfl (fun hg => .load1 (Has.g rfl hg) (i := 1) rfl ty3 rfl) rfl (stF rfl rfl (fun hg => .geI (Has.g rfl hg) (Has.g rfl hg)) rfl (st (.pickOr (.t rfl) (fun h => Has.g rfl (ng h))) rfl (nkQ k3 (.w [1,2,3,6,26] rfl ?_)))))))))))))))))))))
 refine .cd rfl (fun hc1 => ?_) (fun hc1 => ?_)
 ·simp at hc1; omega
 ·refine .skip (.nk k2 (.sr fun k4 => st (.load (.t rfl) (i := 1) rfl zO rfl (Ss' := [_, _, _]) rfl) rfl (stM rfl (stM rfl (st (.call (jP (i := i) (k := k) (by omega) (by omega)) (.cons (.t rfl) (.cons (.t rfl) (.cons (.t rfl) .nil)))) rfl (.alloc [isB false, SlM isU []] zJ (fun _ _ => ⟨rfl, nilM _ _, trivial⟩) rfl fun b3 => .store (.t rfl) (.t rfl) (i := 0) rfl zE rfl rfl (Ss' := [_, _]) rfl (M' := [(some _, zC [_, _]), _, _]) rfl (nkQ k4 (.w [6,7] rfl (.sr fun k5 => st (.fieldAddr (.t rfl) qa xA) rfl (st (.load1 (.t rfl) (i := 0) rfl xA rfl) rfl (st (.fieldAddr (.t rfl) xJ ty4) rfl (st (.load1 (.t rfl) (i := 0) rfl ty4 rfl) rfl (st (.call (qu (by omega)) (.cons (.t rfl) (.cons (.t rfl) .nil))) rfl (.store (.t rfl) (.t rfl) (i := 1) rfl zE rfl rfl (Ss' := [_, _]) rfl (M' := [_, (some _, zC [_, _]), _]) rfl (nkQ k5 (.w [6] rfl (.ret (rt1 (.inl rfl) Tryz.results17 rfl (.cell rfl (i := 1) rfl zE rfl ?_ .nil)))))))))))))))))))
  all_goals (exact zS (by rw [qb]))
theorem mV {R C D i k K L : Nat} {xs ys : List (Bool × List Nat)} (hx : Bd (zF xs) K) (hy : Bd (zF ys) L) (hK : K + L ≤ 400000000) (hC : C ≤ 64) (hxl : xs.length = R * C) (hyl : ys.length = C * D) (hxm : xs.length ≤ 4096) (hym : ys.length ≤ 4096) (hi : i < R) (hk : k < D) : Ctr Tryz.prog 57 [isI (i : Int), isI (k : Int), ptM (R : Int) (C : Int) xs, ptM (C : Int) (D : Int) ys] (isZ (jG (fun j => cf (zF xs) (i * C + j)) (fun j => cf (zF ys) (j * D + k)) C)) := by
 refine Ctr.i Tryz.func57 rfl Tryz.ntmps57 fun w0 F0 => .w [0,1,2,3] rfl (.fact (Has.rngI (Has.t (t := 0) rfl)) fun lt0 => .fact (Has.rngI (Has.t (t := 1) rfl)) fun lt1 => ?_)
 obtain ⟨f, hf⟩ : ∃ f : Nat → Int, f = fun j => cf (zF xs) (i * C + j) := ⟨_, rfl⟩
 obtain ⟨g, hg⟩ : ∃ g : Nat → Int, g = fun j => cf (zF ys) (j * D + k) := ⟨_, rfl⟩
 rw [← hf, ← hg]
 refine .sr fun k1 => .alloc [isB false, SlM isU []] zJ (fun _ _ => ⟨rfl, nilM _ _, trivial⟩) rfl fun b1 => nkQ k1 (.sr fun k2 => .alloc [isB false, SlM isU []] zJ (fun _ _ => ⟨rfl, nilM _ _, trivial⟩) rfl fun b2 => nkQ k2 (.sq fun k3 => .sr fun k4 => st (.fieldAddrP (.t rfl) zo ty3 (Ss' := [_, _]) rfl) rfl (st (.loadP1 (.t rfl) ty3) rfl (st (.mv (.cI 0 rfl)) rfl (nkQ k4 (.block (.loopF [0,1,2,3,6,7,10] (fun (z : { j : Nat // j ≤ C }) => match z with | ⟨j, hj⟩ => [(11, isI (j : Int))]) (fun M => fun (z : { j : Nat // j ≤ C }) => match z with | ⟨j, hj⟩ => [zM b2 (jG f g j), (some b1, zC [isB false, SlM isU []])]) (fun (z : { j : Nat // j ≤ C }) => match z with | ⟨j, hj⟩ => C - j) (⟨0, Nat.zero_le _⟩) (Cv.mem (.c 11 rfl ?_ (.l [0,1,2,3,6,7,10] rfl)) ?_) ?_)))))))
 ·rfl
 ·exact zM0
 rintro ⟨j, hj⟩ K5 hK5
 refine .w [11,0,1,2,3,6,7,10] rfl (.memEq (M' := [zM b2 (jG f g j), (some b1, zC [isB false, SlM isU []])]) rfl ?_)
 have hds := bG (f := f) (g := g) (K := K) (L := L) (fun j => by rw [hf]; exact hx _) (fun j => by rw [hg]; exact hy _) j
 refine .sr fun k6 => st (.ltI (.t rfl) (.t rfl)) rfl (nkQ k6 (.sq fun k7 => .cd rfl (fun hc1 => ?_) (fun hc1 => ?_)))
 ·have hj2 : j < C := (by omega)
  have hp1 := qN hi hj2
  have hp2 := qN hj2 hk
  have hxr := hx.raw (i * C + j)
  have hyr := hy.raw (j * D + k)
  have hfj : f j = cf (zF xs) (i * C + j) := by rw [hf]
  have hgj : g j = cf (zF ys) (j * D + k) := by rw [hg]
  have hfk := hx (i * C + j)
  have hgk := hy (j * D + k)
  have hmm := qJ (f j) (g j)
  rw [← hfj] at hfk
  rw [← hgj] at hgk
  refine .skip (.nk k7 (.sq fun k8 => .block (.sr fun k9 => stM rfl (stM rfl (nkQ k9 (.dr (.so [] rfl (.load (.t rfl) (i := 0) rfl zE rfl (Ss' := [_, _]) rfl) (.so [] rfl (.loadP (.t rfl) zO rfl (Ss' := [_, _, _]) rfl) (.m [] rfl (.m [] rfl (.so [15,16,17] rfl (.call (jP (i := i) (k := j) hxm (by omega)) (.cons (.t rfl) (.cons (.t rfl) (.cons (.t rfl) .nil)))) (.so [] rfl (.loadP (.t rfl) zO rfl (Ss' := [_, _, _]) rfl) (.m [] rfl (.m [] rfl (.so [19,20,21] rfl (.call (jP (i := j) (k := k) hym (by omega)) (.cons (.t rfl) (.cons (.t rfl) (.cons (.t rfl) .nil)))) (.so [18,22] rfl (.eq (.call (qP (by omega) (by omega)) (.cons (.t rfl) (.cons (.t rfl) .nil))) ((show isZ _ = isZ (f j * g j) from zS (by rw [hfj, hgj, qb, qb])))) (.fn (n := 10) zY (.w [0,1,2,3,6,7,10,11,12,13,8,14,15,16,17,18,19,20,21,22,23] rfl (st (.eq (.call (xC (by rw [zB]; omega) (by rw [zB]; omega)) (.cons (.t rfl) (.cons (.t rfl) .nil))) ((show isZ _ = isZ (jG f g j + f j * g j) from zS (by simp only [zK])))) rfl ?_)))))))))))))))))))
  refine .store (.t rfl) (.t rfl) (i := 0) rfl zE rfl rfl (Ss' := [_, _]) rfl (M' := [(some _, zC [_, _]), _]) rfl (nl (.bln (.nk k8 (.region (st (.addI (.t rfl) (.cI 1 rfl) (by omega) (by omega)) rfl (stM rfl (nl (.thn (hK5 (⟨j + 1, by omega⟩) _ _ ?_ (Cv.mem (.c 11 rfl ?_ (.l [0,1,2,3,6,7,10] rfl)) ?_))))))))))
  ·show C - (j + 1) < C - j; omega
  ·exact zG (by omega)
  ·rfl
 ·refine .exit (.the (.the (.blh (.nk k3 (.w [6,7] rfl (.sr fun k10 => st (.load (.t rfl) (i := 0) rfl zE rfl (Ss' := [_, _]) rfl) rfl (.store (.t rfl) (.t rfl) (i := 1) rfl zE rfl rfl (Ss' := [_, _]) rfl (M' := [_, (some _, zC [_, _])]) rfl (nkQ k10 (.ret (rt1 (.inl rfl) Tryz.results57 rfl (.cell rfl (i := 1) rfl zE rfl ?_ .nil)))))))))))
  all_goals (exact zS (by rw [show j = C by omega]))
theorem eI {R C D K L : Nat} {xs ys : List (Bool × List Nat)} (hx : Bd (zF xs) K) (hy : Bd (zF ys) L) (hK : K + L ≤ 400000000) (hR : R ≤ 64) (hC : C ≤ 64) (hD : D ≤ 64) (hxl : xs.length = R * C) (hyl : ys.length = C * D) : Ctr Tryz.prog 34 [isM (R : Int) (C : Int) xs, isM (C : Int) (D : Int) ys] (zW [xQ R D (tab (R * D) D fun i k => jG (fun j => cf (zF xs) (i * C + j)) (fun j => cf (zF ys) (j * D + k)) C), isI 0]) := by
 refine Ctr.i Tryz.func34 rfl Tryz.ntmps34 fun w0 F0 => .w [0,1] rfl ?_
 have h1 := qi hR hC
 have h2 := qi hC hD
 have hf1 := qE hR hC hxl
 have hf2 := qE hC hD hyl
 refine .sr fun k1 => .box (.t rfl) rfl fun b1 => .box (.t rfl) rfl fun b2 => .alloc [isI 0, isI 0, zw] zf (fun _ _ => ⟨⟨rfl, by decide, by decide⟩, ⟨rfl, by decide, by decide⟩, rfl, trivial⟩) rfl fun b3 => st (.as (.cI 0 rfl)) rfl (nkQ k1 (.sq fun k2 => .sr fun k3 => st (.load (.t rfl) (i := 2) rfl zO rfl (Ss' := [_, _, _]) rfl) rfl (st (.eq (.call (qA) (.cons (.t rfl) .nil)) ((show isB _ = isB true from zg hf1))) rfl (st (.not (.t rfl)) rfl (stM rfl (stF rfl rfl (fun hg => .load (.t rfl) (i := 1) rfl zO rfl (Ss' := [_, _, _]) rfl) rfl (stF rfl rfl (fun hg => .eq (.call (qA) (.cons (Has.g rfl hg) .nil)) ((show isB _ = isB true from zg hf2))) rfl (stF rfl rfl (fun hg => .not (Has.g rfl hg)) rfl (st (.pickOr (.t rfl) (fun h => Has.g rfl (ng h))) rfl (stM rfl (stF rfl rfl (fun hg => .fieldAddr (.t rfl) zo ty3) rfl (stF rfl rfl (fun hg => .load1 (Has.g rfl hg) (i := 2) rfl ty3 rfl) rfl (stF rfl rfl (fun hg => .fieldAddr (.t rfl) zZ ty3) rfl (stF rfl rfl (fun hg => .load1 (Has.g rfl hg) (i := 1) rfl ty3 rfl) rfl (stF rfl rfl (fun hg => .neI (Has.g rfl hg) (Has.g rfl hg)) rfl (st (.pickOr (.t rfl) (fun h => Has.g rfl (ng h))) rfl (nkQ k3 (.w [2,3,4,5,20] rfl (.cd rfl (fun hc1 => ?_) (fun hc1 => ?_))))))))))))))))))))
 ·simp at hc1
 ·refine .skip (.nk k2 (.sr fun k4 => st (.fieldAddr (.t rfl) zZ ty3) rfl (st (.load1 (.t rfl) (i := 2) rfl ty3 rfl) rfl (st (.fieldAddr (.t rfl) zo ty3) rfl (st (.load1 (.t rfl) (i := 1) rfl ty3 rfl) rfl (.cv (Cv.freezeBox (t := 2) (i := 2) rfl rfl rfl) (.memEq (M' := [_, _]) rfl (.w [2,3,4,5,20,23,24,25] rfl (.cv (Cv.freezeBox (t := 3) (i := 1) rfl rfl rfl) (.memEq (M' := [_]) rfl (.w [2,3,4,5,20,23,25] rfl (st (.makeFn (ι := PI R D) (As := fun p => [isI (p.1.1 : Int), isI (p.1.2 : Int)]) (R := fun p => zu (zc (nz (jG (fun j => cf (zF xs) (p.1.1 * C + j)) (fun j => cf (zF ys) (j * D + p.1.2)) C)))) (fun p => mV hx hy hK hC hxl hyl (by omega) (by omega) p.2.1 p.2.2) .nil (.cons (.t rfl) (.cons (.t rfl) .nil))) rfl ?_))))))))))))
  refine st (.call (wJ (f := fun i k => nz (jG (fun j => cf (zF xs) (i * C + j)) (fun j => cf (zF ys) (j * D + k)) C)) hR hD (fun i k _ _ => by rw [zB]; have := bG (f := fun j => cf (zF xs) (i * C + j)) (g := fun j => cf (zF ys) (j * D + k)) (fun j => hx _) (fun j => hy _) C; omega)) (.cons (.t rfl) (.cons (.t rfl) (.cons (.t rfl) .nil)))) rfl ?_
  refine .store (.t rfl) (.t rfl) (i := 0) rfl zO rfl rfl (Ss' := [_, _, _]) rfl (M' := [(some _, zC [_, _, _])]) rfl (st (.as (.cI 0 rfl)) rfl (nkQ k4 (.w [4,5] rfl (.ret (rtN (.inl rfl) Tryz.results34 rfl rfl (.cell rfl (i := 0) rfl zO rfl ?_ (.tmp (Has.t' rfl ?_) .nil)))))))
  ·exact bD (by rw [zvz fun i k => jG (fun j => cf (zF xs) (i * C + j)) (fun j => cf (zF ys) (j * D + k)) C])
  ·rfl
theorem cZ {R C i k : Nat} {xs : List (Bool × List Nat)} (hxl : xs.length = R * C) (hxm : xs.length ≤ 4096) (hi : i < C) (hk : k < R) : Ctr Tryz.prog 76 [isI (i : Int), isI (k : Int), ptM (R : Int) (C : Int) xs] (zu (zc (xs.getD (k * C + i) (false, [])))) := by
 refine Ctr.i Tryz.func76 rfl Tryz.ntmps76 fun w0 F0 => .w [0,1,2] rfl (.fact (Has.rngI (Has.t (t := 0) rfl)) fun lt0 => .fact (Has.rngI (Has.t (t := 1) rfl)) fun lt1 => ?_)
 have hp := qN hk hi
 refine .sr fun k1 => .alloc [isB false, SlM isU []] zJ (fun _ _ => ⟨rfl, nilM _ _, trivial⟩) rfl fun b1 => nkQ k1 (.sr fun k2 => st (.loadP (.t rfl) zO rfl (Ss' := [_, _, _]) rfl) rfl (stM rfl (stM rfl (st (.call (jP (i := k) (k := i) hxm (by omega)) (.cons (.t rfl) (.cons (.t rfl) (.cons (.t rfl) .nil)))) rfl (.store (.t rfl) (.t rfl) (i := 0) rfl zE rfl rfl (Ss' := [_, _]) rfl (M' := [(some _, zC [_, _])]) rfl (nkQ k2 (.w [5] rfl (.ret (rt1 (.inl rfl) Tryz.results76 rfl (.cell rfl (i := 0) rfl zE rfl ?_ .nil))))))))))
 all_goals (rfl)
theorem aJ {R C K : Nat} {xs : List (Bool × List Nat)} (hx : Bd (zF xs) K) (hK : K ≤ 400000000) (hR : R ≤ 64) (hC : C ≤ 64) (hxl : xs.length = R * C) : Ctr Tryz.prog 54 [isM (R : Int) (C : Int) xs] (zW [xQ C R (tab (C * R) R fun i k => cf (zF xs) (k * C + i)), isI 0]) := by
 refine Ctr.i Tryz.func54 rfl Tryz.ntmps54 fun w0 F0 => .w [0] rfl ?_
 have h1 := qi hR hC
 have hf1 := qE hR hC hxl
 refine .sr fun k1 => .box (.t rfl) rfl fun b1 => .alloc [isI 0, isI 0, zw] zf (fun _ _ => ⟨⟨rfl, by decide, by decide⟩, ⟨rfl, by decide, by decide⟩, rfl, trivial⟩) rfl fun b2 => st (.as (.cI 0 rfl)) rfl (nkQ k1 (.sq fun k2 => .sr fun k3 => st (.load (.t rfl) (i := 1) rfl zO rfl (Ss' := [_, _, _]) rfl) rfl (st (.eq (.call (qA) (.cons (.t rfl) .nil)) ((show isB _ = isB true from zg hf1))) rfl (st (.not (.t rfl)) rfl (nkQ k3 (.cd rfl (fun hc1 => ?_) (fun hc1 => ?_)))))))
 ·simp at hc1
 ·refine .skip (.nk k2 (.sr fun k4 => st (.fieldAddr (.t rfl) zo ty3) rfl (st (.load1 (.t rfl) (i := 1) rfl ty3 rfl) rfl (st (.fieldAddr (.t rfl) zZ ty3) rfl (st (.load1 (.t rfl) (i := 1) rfl ty3 rfl) rfl (.cv (Cv.freezeBox (t := 1) (i := 1) rfl rfl rfl) (.memEq (M' := [_]) rfl (.w [0,1,2,3,4,5,6,9,11] rfl (st (.makeFn (ι := PI C R) (As := fun p => [isI (p.1.1 : Int), isI (p.1.2 : Int)]) (R := fun p => zu (zc (xs.getD (p.1.2 * C + p.1.1) (false, [])))) (fun p => cZ hxl (by omega) p.2.1 p.2.2) .nil (.cons (.t rfl) .nil)) rfl (st (.call (wJ (f := fun i k => xs.getD (k * C + i) (false, [])) hC hR (fun i k _ _ => Nat.le_trans (hx.raw _) (by omega))) (.cons (.t rfl) (.cons (.t rfl) (.cons (.t rfl) .nil)))) rfl (.store (.t rfl) (.t rfl) (i := 0) rfl zO rfl rfl (Ss' := [_, _, _]) rfl (M' := [(some _, zC [_, _, _])]) rfl (st (.as (.cI 0 rfl)) rfl (nkQ k4 (.w [2,3] rfl (.ret (rtN (.inl rfl) Tryz.results54 rfl rfl (.cell rfl (i := 0) rfl zO rfl ?_ (.tmp (Has.t' rfl ?_) .nil))))))))))))))))))
  ·exact bD (by congr 1; funext i k; rw [qb])
  ·rfl
end Go.Proofs.YtlebmedapfncoaaGreat
namespace Go.Proofs.YtlebmedapfncoaaGreat
open Go.En Go.RowKit
set_option maxRecDepth 10000
set_option maxHeartbeats 4000000
open Go.Nt
open Go.Pz
open Go.Mz
open Go.Hn
theorem bS {m n : Bool} {xs ys : List Nat} (hx : (List.length (zA (val xs))) < 4294700000) (hy : (List.length (zA (val ys))) < 4294700000) (hp : 0 < zv n ys) : Ctr Tryz.prog 48 [zu [isB m, zD xs], zu [isB n, zD ys]] (zW [isZ (zv m xs / zv n ys), isZ (zv m xs % zv n ys), isB true]) := by
 refine Ctr.i Tryz.func48 rfl Tryz.ntmps48 fun w0 F0 => .w [0,1] rfl (.fact (Has.okZ (Has.t (t := 0) rfl)) fun okz0 => .fact (Has.okZ (Has.t (t := 1) rfl)) fun okz1 => ?_)
 have ha := jp (zv m xs) (zv n ys)
 have hb := tJ (zv m xs) (zv n ys)
 have hxx := vV m xs
 have hyy := vV n ys
 have h1 := ez
 have hs1 : sgn (zv n ys) = 1 := by rcases qS (zv n ys) with h | h | h <;> omega
 have hr := gL (if zv n ys = 0 then 0 else (zv m xs).tmod (zv n ys))
 refine .sr fun k1 => .box (.t rfl) rfl fun b1 => .box (.t rfl) rfl fun b2 => .alloc [isB false, SlM isU []] zJ (fun _ _ => ⟨rfl, nilM _ _, trivial⟩) rfl fun b3 => .alloc [isB false, SlM isU []] zJ (fun _ _ => ⟨rfl, nilM _ _, trivial⟩) rfl fun b4 => st (.as (.cB false)) rfl (nkQ k1 (.sr fun k2 => st (.load (.t rfl) (i := 3) rfl zE rfl (Ss' := [_, _]) rfl) rfl (st (.load (.t rfl) (i := 2) rfl zE rfl (Ss' := [_, _]) rfl) rfl (st (.call (bc (by with_reducible assumption) (by with_reducible assumption)) (.cons (.t rfl) (.cons (.t rfl) .nil))) rfl (stM rfl (st (.ext (.t rfl) rfl) rfl (st (.ext (.t rfl) rfl) rfl (st (.ext (.t rfl) rfl) rfl (.alloc [isB false, SlM isU []] zJ (fun _ _ => ⟨rfl, nilM _ _, trivial⟩) rfl fun b5 => .alloc [isB false, SlM isU []] zJ (fun _ _ => ⟨rfl, nilM _ _, trivial⟩) rfl fun b6 => .store (.t rfl) (.t rfl) (i := 1) rfl zE rfl rfl (Ss' := [_, _]) rfl (M' := [_, (some _, zC [_, _]), _, _, _, _]) rfl (.store (.t rfl) (.t rfl) (i := 0) rfl zE rfl rfl (Ss' := [_, _]) rfl (M' := [(some _, zC [_, _]), _, _, _, _, _]) rfl (stM rfl (nkQ k2 (.w [3,4,5,6,7,8,9] rfl (.sq fun k3 => .sq fun k4 => .dr (.m [] rfl (.m [17] rfl (.s [18] rfl rfl rfl (.T rfl rfl rfl (fun hg => .load (.t rfl) (i := 0) rfl zE rfl (Ss' := [_, _]) rfl)) ?_)))))))))))))))))
 refine .s [18,19] rfl rfl rfl (.T rfl rfl rfl (fun hg => have hg' := BP.t hg; OK1.eq (.call (qD (by simp only [zB, zK]; omega)) (.cons (Has.g rfl hg) .nil)) (by simp only [zB, zK]; rfl))) ?_
 refine .s [18] rfl rfl rfl (.T rfl rfl rfl (fun hg => .load (.t rfl) (i := 4) rfl zE rfl (Ss' := [_, _]) rfl)) (.fn (n := 5) zY (.w [3,4,5,6,7,8,9,18,20,21] rfl ?_))
 refine stT rfl rfl (fun hg => have hg' := BP.t hg; OK1.eq (.call (qD (by omega)) (.cons (Has.g rfl hg) .nil)) ((show isI _ = isI 1 from zG hs1))) rfl ?_
 refine stT rfl rfl (fun hg => have hg' := BP.t hg; OK1.mulI (Has.g rfl hg) (Has.g rfl hg) (by omega) (by omega)) rfl ?_
 refine stT rfl rfl (fun hg => .ltI (Has.g rfl hg) (.cI 0 rfl)) rfl (st (.pickAnd (.t rfl) (fun h => Has.g rfl h)) rfl (nkQ k4 (.w [3,4,5,6,7,8,9,25] rfl (.cd rfl (fun hc1 => ?_) (fun hc1 => ?_)))))
 ·have HE := zHC (x := zv m xs) (y := zv n ys) ⟨hc1.1, by have := hc1.2; omega⟩ ((iT _).2 hp)
  refine .dr (.so [] rfl (.load (.t rfl) (i := 1) rfl zE rfl (Ss' := [_, _]) rfl) (.so [] rfl (.call (bb) .nil) (.so [26,27] rfl (.eq (.call (xy (by simp only [zB, zK]; omega) (by simp only [zB, zK]; omega)) (.cons (.t rfl) (.cons (.t rfl) .nil))) (by simp only [zB, zK]; rfl)) ?_)))
  refine .so [] rfl (.load (.t rfl) (i := 0) rfl zE rfl (Ss' := [_, _]) rfl) (.so [] rfl (.load (.t rfl) (i := 4) rfl zE rfl (Ss' := [_, _]) rfl) (.fn (n := 5) zY (.w [4,5,6,7,8,9,28,29,30] rfl (st (.eq (.call (xC (by simp only [zB, zK]; omega) (by with_reducible assumption)) (.cons (.t rfl) (.cons (.t rfl) .nil))) (by simp only [zB, zK]; rfl)) rfl ?_))))
  refine .store (.t rfl) (.t rfl) (i := 1) rfl zE rfl rfl (Ss' := [_, _]) rfl (M' := [_, (some _, zC [_, _]), _, _, _, _]) rfl (.store (.t rfl) (.t rfl) (i := 0) rfl zE rfl rfl (Ss' := [_, _]) rfl (M' := [(some _, zC [_, _]), _, _, _, _, _]) rfl (nkQ k3 (.sq fun k5 => .drh [true, true, false, false, true, true] (Ms := [_, _, _, _]) rfl (.so [] rfl (.load (.t rfl) (i := 1) rfl zE rfl (Ss' := [_, _]) rfl) (.so [] rfl (.load (.t rfl) (i := 0) rfl zE rfl (Ss' := [_, _]) rfl) (.m [] rfl (.mid2 (.cons_cons _ (.cons_cons _ (.cons _ (.cons _ (.cons_cons _ (.cons_cons _ .slnil)))))) (.st0 [32] rfl rfl (by kernel_rfl) (by kernel_rfl) (StS.store (.t rfl) (.t rfl) (i := 3) rfl zE rfl rfl (Ss' := [_, _]) rfl (M' := [_, _, _, (some _, zC [_, _]), _, _]) rfl) (.cons_cons _ (.cons_cons _ (.cons _ (.cons _ (.cons_cons _ (.cons_cons _ .slnil)))))) (.st0 [33] rfl rfl (by kernel_rfl) (by kernel_rfl) (StS.store (.t rfl) (.t rfl) (i := 2) rfl zE rfl rfl (Ss' := [_, _]) rfl (M' := [_, _, (some _, zC [_, _]), _, _, _]) rfl) (.cons_cons _ (.cons_cons _ (.cons _ (.cons _ (.cons_cons _ (.cons_cons _ .slnil)))))) (.fin0 (n := 5) zY rfl (by kernel_rfl) (by kernel_rfl) (by kernel_rfl) (.w [4,5,6,34] rfl (stM rfl (nkQ k5 (.ret (rtN (.inl rfl) Tryz.results48 rfl rfl (.cell rfl (i := 3) rfl zE rfl ?_ (.cell rfl (i := 2) rfl zE rfl ?_ (.tmp (Has.t' rfl ?_) .nil))))))))))))))))))
  ·exact zS HE.1
  ·exact zS (HE.2.trans (if_neg (by omega)))
  ·exact zg (decide_eq_true (by omega))
 ·have HE := zHD (x := zv m xs) (y := zv n ys) (hc1.imp id fun h => by omega)
  refine .skip (.nk k3 (.sq fun k6 => .drh [true, true, false, false, true, true] (Ms := [_, _, _, _]) rfl (.so [] rfl (.load (.t rfl) (i := 1) rfl zE rfl (Ss' := [_, _]) rfl) (.so [] rfl (.load (.t rfl) (i := 0) rfl zE rfl (Ss' := [_, _]) rfl) (.m [] rfl (.mid2 (.cons_cons _ (.cons_cons _ (.cons _ (.cons _ (.cons_cons _ (.cons_cons _ .slnil)))))) (.st0 [32] rfl rfl (by kernel_rfl) (by kernel_rfl) (StS.store (.t rfl) (.t rfl) (i := 3) rfl zE rfl rfl (Ss' := [_, _]) rfl (M' := [_, _, _, (some _, zC [_, _]), _, _]) rfl) (.cons_cons _ (.cons_cons _ (.cons _ (.cons _ (.cons_cons _ (.cons_cons _ .slnil)))))) (.st0 [33] rfl rfl (by kernel_rfl) (by kernel_rfl) (StS.store (.t rfl) (.t rfl) (i := 2) rfl zE rfl rfl (Ss' := [_, _]) rfl (M' := [_, _, (some _, zC [_, _]), _, _, _]) rfl) (.cons_cons _ (.cons_cons _ (.cons _ (.cons _ (.cons_cons _ (.cons_cons _ .slnil)))))) (.fin0 (n := 5) zY rfl (by kernel_rfl) (by kernel_rfl) (by kernel_rfl) (.w [4,5,6,34] rfl (stM rfl (nkQ k6 (.ret (rtN (.inl rfl) Tryz.results48 rfl rfl (.cell rfl (i := 3) rfl zE rfl ?_ (.cell rfl (i := 2) rfl zE rfl ?_ (.tmp (Has.t' rfl ?_) .nil)))))))))))))))))
  ·exact zS HE.1
  ·exact zS (HE.2.trans (if_neg (by omega)))
  ·exact zg (decide_eq_true (by omega))
theorem mX {m n : Bool} {xs ys : List Nat} (hx : (List.length (zA (val xs))) ≤ 100000000) (hy : (List.length (zA (val ys))) ≤ 100000000) (hb : zv n ys = 0) : Ctr Tryz.prog 85 [zu [isB m, zD xs], zu [isB n, zD ys]] (zW [isZ (xgg (zv m xs) (zv n ys)), isZ (sgn (zv m xs)), isZ 0]) := by
 refine Ctr.i Tryz.func85 rfl Tryz.ntmps85 fun w0 F0 => .w [0,1] rfl (.fact (Has.okZ (Has.t (t := 0) rfl)) fun okz0 => .fact (Has.okZ (Has.t (t := 1) rfl)) fun okz1 => .sr fun k1 => .box (.t rfl) rfl fun b1 => .box (.t rfl) rfl fun b2 => .alloc [isB false, SlM isU []] zJ (fun _ _ => ⟨rfl, nilM _ _, trivial⟩) rfl fun b3 => .alloc [isB false, SlM isU []] zJ (fun _ _ => ⟨rfl, nilM _ _, trivial⟩) rfl fun b4 => .alloc [isB false, SlM isU []] zJ (fun _ _ => ⟨rfl, nilM _ _, trivial⟩) rfl fun b5 => nkQ k1 (.sq fun k2 => .sr fun k3 => st (.load (.t rfl) (i := 3) rfl zE rfl (Ss' := [_, _]) rfl) rfl (st (.call (qD (by omega)) (.cons (.t rfl) .nil)) rfl (st (.eqI (.t rfl) (.cI 0 rfl)) rfl (nkQ k3 (.cd rfl (fun hc1 => ?_) (fun hc1 => ?_)))))))
 ·refine .sq fun k4 => .drh [true, false, false, true, true] (Ms := [_, _, _]) rfl (.so [] rfl (.load (.t rfl) (i := 2) rfl zE rfl (Ss' := [_, _]) rfl) (.so [16] rfl (.call (eJ (by omega)) (.cons (.t rfl) .nil)) (.so [] rfl (.load (.t rfl) (i := 2) rfl zE rfl (Ss' := [_, _]) rfl) (.so [18] rfl (.call (qD (by omega)) (.cons (.t rfl) .nil)) (.so [19] rfl (.call (qt) (.cons (.t rfl) .nil)) (.so [] rfl (.eq (.build [isB false, SlM isU []] tC zJ (fun _ _ => ⟨rfl, nilM _ _, trivial⟩) .nil (Z'' := [_, _]) rfl) (zER)) (.mid2 (.cons_cons _ (.cons _ (.cons _ (.cons_cons _ (.cons_cons _ .slnil))))) (.st0 [17] rfl rfl (by kernel_rfl) (by kernel_rfl) (StS.store (.t rfl) (.t rfl) (i := 2) rfl zE rfl rfl (Ss' := [_, _]) rfl (M' := [_, _, (some _, zC [_, _]), _, _]) rfl) (.cons_cons _ (.cons _ (.cons _ (.cons_cons _ (.cons_cons _ .slnil))))) (.st0 [20] rfl rfl (by kernel_rfl) (by kernel_rfl) (StS.store (.t rfl) (.t rfl) (i := 1) rfl zE rfl rfl (Ss' := [_, _]) rfl (M' := [_, (some _, zC [_, _]), _, _, _]) rfl) (.cons_cons _ (.cons _ (.cons _ (.cons_cons _ (.cons_cons _ .slnil))))) (.fin0 (n := 8) zY rfl (by kernel_rfl) (by kernel_rfl) (by kernel_rfl) (.w [2,3,4,5,6,21] rfl (.store (.t rfl) (.t rfl) (i := 0) rfl zE rfl rfl (Ss' := [_, _]) rfl (M' := [(some _, zC [_, _]), _, _, _, _]) rfl (nkQ k4 (.ret (.thr (rtN (.inl rfl) Tryz.results85 rfl rfl (.cell rfl (i := 2) rfl zE rfl ?_ (.cell rfl (i := 1) rfl zE rfl ?_ (.cell rfl (i := 0) rfl zE rfl ?_ .nil)))))))))))))))))))
  ·exact zS (by rw [hb]; unfold xgg; rw [show (0 : Int).natAbs = 0 from rfl, Nat.gcd_zero_right])
  ·rfl
  ·rfl
 ·exact absurd ((xN _).2 hb) hc1
theorem mW {m n : Bool} {xs ys : List Nat} (hx : (List.length (zA (val xs))) ≤ 100000000) (hy : (List.length (zA (val ys))) ≤ 100000000) : Ctr Tryz.prog 85 [zu [isB m, zD xs], zu [isB n, zD ys]] (zW [isZ (xgg (zv m xs) (zv n ys)), isZ (xgx (zv m xs) (zv n ys)), isZ (xgy (zv m xs) (zv n ys))]) := by
 by_cases hb : zv n ys = 0
 ·have h := mX (m := m) hx hy hb
  unfold xgx xgy
  rw [if_pos hb, if_pos hb]
  exact h
 ·have h := pb (m := m) hx hy hb
  have e := zCU (a := zv m xs) hb
  unfold xgx
  rw [if_neg hb, ← e]
  exact h
theorem wZ {m n : Bool} {us ws : List Nat} {xs ys : List (Bool × List Nat)} {A B K L : Nat} (ha : (List.length (zA (val us))) ≤ A) (hx : Bd (zF xs) K) (hb : (List.length (zA (val ws))) ≤ B) (hy : Bd (zF ys) L) (h1 : A + K ≤ 400000000) (h2 : B + L ≤ 400000000) (hl : ys.length = xs.length) (hn : xs.length ≤ 1000000) : Ctr Tryz.prog 49 [zu [isB m, zD us], SlK 2 zc xs, zu [isB n, zD ws], SlK 2 zc ys] (isP (mx2 (zv m us) (zF xs) (zv n ws) (zF ys))) := by
 refine Ctr.i Tryz.func49 rfl Tryz.ntmps49 fun w0 F0 => .w [0,1,2,3] rfl (.fact (Has.okZ (Has.t (t := 0) rfl)) fun okz0 => .fact (Has.lenLt (Has.t (t := 1) rfl)) fun lt1 => .fact (Has.okZ (Has.t (t := 2) rfl)) fun okz2 => .fact (Has.lenLt (Has.t (t := 3) rfl)) fun lt3 => ?_)
 obtain ⟨F, hF⟩ : ∃ F, F = mx2 (zv m us) (zF xs) (zv n ws) (zF ys) := ⟨_, rfl⟩
 have hFl : F.length = xs.length := by rw [hF, ax, qx]
 have hea := vV m us
 have heb := vV n ws
 refine .sr fun k1 => .box (.t rfl) rfl fun b1 => .box (.t rfl) rfl fun b2 => st (.as (.cWK (k := 2) (fk := zc))) rfl (nkQ k1 (.sr fun k2 => stM rfl (st (.len zp (.t rfl)) rfl (.makeK (fk := zc) (u := (false, [])) (n := xs.length) (c := xs.length) zp zE zJ (fun _ _ => ⟨rfl, nilM _ _, trivial⟩) zL bY (Has.t' rfl rfl) (Has.t' rfl rfl) (by omega) rfl fun b3 => stM rfl (nkQ k2 (.w [1,3,4,6,8,9] rfl (.sq fun k3 => .sr fun k4 => stM rfl (st (.len zp (.t rfl)) rfl (st (.mv (.cI 0 rfl)) rfl (nkQ k4 (.block (.loopF [1,3,4,6,8,9,15] (fun (z : { k : Nat // k ≤ xs.length }) => match z with | ⟨k, hk⟩ => [(16, isI (k : Int))]) (fun M => fun (z : { k : Nat // k ≤ xs.length }) => match z with | ⟨k, hk⟩ => [(some b3, zC ((fill (F.map nz) k (false, [])).flatMap zc)), (some b2, zC [isB n, SlM isU ws]), (some b1, zC [isB m, SlM isU us])]) (fun (z : { k : Nat // k ≤ xs.length }) => match z with | ⟨k, hk⟩ => xs.length - k) (⟨0, Nat.zero_le _⟩) (Cv.mem (.c 16 rfl ?_ (.l [1,3,4,6,8,9,15] rfl)) ?_) ?_))))))))))))
 ·rfl
 ·exact ii (by rw [cr, List.length_map, hFl])
 rintro ⟨k, hk⟩ K5 hK5
 refine .w [16,1,3,4,6,8,9,15] rfl (.memEq (M' := [(some b3, zC ((fill (F.map nz) k (false, [])).flatMap zc)), (some b2, zC [isB n, SlM isU ws]), (some b1, zC [isB m, SlM isU us])]) rfl (.sr fun k6 => st (.ltI (.t rfl) (.t rfl)) rfl (nkQ k6 (.sq fun k7 => .cd rfl (fun hc1 => ?_) (fun hc1 => ?_)))))
 ·have hxr := hx.raw k
  have hyr := hy.raw k
  have hxk := hx k
  have hyk := hy k
  have hm1 := qJ (zv m us) (cf (zF xs) k)
  have hm2 := qJ (zv n ws) (cf (zF ys) k)
  refine .skip (.nk k7 (.sq fun k8 => .block (.sr fun k9 => stM rfl (stM rfl (nkQ k9 (.dr (.m [] rfl (.m [] rfl (.so [] rfl (.load (.t rfl) (i := 2) rfl zE rfl (Ss' := [_, _]) rfl) (.m [] rfl (.m [] rfl (.so [22,23] rfl (.ixK zp zE (.t rfl) (.t rfl) zL (by omega) (getD_some (d := (false, [])) (by omega))) (.so [24] rfl (.loadP (.t rfl) zE rfl (Ss' := [_, _]) rfl) ?_)))))))))))))
  refine .so [21,25] rfl (.eq (.call (qP (by omega) (by show (List.length (zA (val (xs.getD k (false, [])).2))) ≤ _; omega)) (.cons (.t rfl) (.cons (.t rfl) .nil))) ((show isZ _ = isZ (zv m us * cf (zF xs) k) from zS (by rw [qb]; rfl)))) ?_
  refine .so [] rfl (.load (.t rfl) (i := 1) rfl zE rfl (Ss' := [_, _]) rfl) (.m [] rfl (.m [] rfl (.so [28,29] rfl (.ixK zp zE (.t rfl) (.t rfl) zL (by omega) (getD_some (d := (false, [])) (by omega))) (.so [30] rfl (.loadP (.t rfl) zE rfl (Ss' := [_, _]) rfl) ?_))))
  refine .so [27,31] rfl (.eq (.call (qP (by omega) (by show (List.length (zA (val (ys.getD k (false, [])).2))) ≤ _; omega)) (.cons (.t rfl) (.cons (.t rfl) .nil))) ((show isZ _ = isZ (zv n ws * cf (zF ys) k) from zS (by rw [qb]; rfl)))) ?_
  refine .so [26,32] rfl (.eq (.call (xC (by rw [zB]; omega) (by rw [zB]; omega)) (.cons (.t rfl) (.cons (.t rfl) .nil))) ((show isZ _ = zu (zc (nz (zv m us * cf (zF xs) k + zv n ws * cf (zF ys) k))) from zS (by rw [zK, zK])))) ?_
  refine .fn (n := 15) zY (.w [1,3,4,6,8,9,15,16,17,18,10,19,20,21,22,23,24,25,26,27,28,29,30,31,32,33] rfl (st (.eq (.ixWin zp zE (.t rfl) (.t rfl) (by omega)) (qB (by exact zAM))) rfl (.storeK (z := nz (zv m us * cf (zF xs) k + zv n ws * cf (zF ys) k)) zL (.t rfl) (.t rfl) (i := 0) rfl zE (by rw [wd _ _ _ (by rw [List.length_map]; omega), List.length_map]; omega) (M' := [(_, _), _, _]) rfl ?_)))
  refine nl (.bln (.nk k8 (.region (st (.addI (.t rfl) (.cI 1 rfl) (by omega) (by omega)) rfl (stM rfl (nl (.thn (hK5 (⟨k + 1, by omega⟩) _ _ ?_ (Cv.mem (.c 16 rfl ?_ (.l [1,3,4,6,8,9,15] rfl)) ?_)))))))))
  ·show xs.length - (k + 1) < xs.length - k; omega
  ·exact zG (by omega)
  ·exact ik (by rw [List.getElem?_map, hF]; unfold mx2; rw [List.getElem?_map, List.getElem?_range (by rw [qx]; omega)]; rfl)
 ·refine .exit (.the (.the (.blh (.nk k3 (.w [8,9] rfl (.sq fun k10 => .cv (Cv.freezeK (t := 9) (i := 0) (ys := F.map nz) zL rfl rfl rfl (by rw [wd _ _ _ (by rw [List.length_map]; omega), List.length_map]; omega) (rg (by rw [List.length_map]; omega) (by rw [List.length_map, hFl]))) ?_))))))
  refine .memEq (M' := [_, _]) rfl (.w [8,9] rfl (.region (stM rfl (stM rfl (nkQ k10 (.ret (rt1 (.inl rfl) Tryz.results49 rfl (.tmp (Has.t' rfl ?_) .nil))))))))
  all_goals (exact ww hF)
end Go.Proofs.YtlebmedapfncoaaGreat
namespace Go.En
open Go.RowKit Go.Nt Go.Pz
def qs (q : Rat) : Nat := max ((List.length (zA q.num.natAbs))) ((List.length (zA q.den)))
/-! ### signs, order -/
end Go.En
namespace Go.Proofs.YtlebmedapfncoaaGreat
open Go.En Go.RowKit
set_option maxRecDepth 10000
set_option maxHeartbeats 4000000
open Go.Nt
open Go.Pz
theorem mY {m n : Bool} {xs ys : List Nat} (hx : (List.length (zA (val xs))) ≤ 1000000000) (hy : (List.length (zA (val ys))) ≤ 1000000000) (hp : 0 < zv n ys) : Ctr Tryz.prog 94 [zu [isB m, zD xs], zu [isB n, zD ys]] (zW [isZ ((zv m xs + zv m xs + zv n ys) / (zv n ys + zv n ys)), isB true]) := by
 refine Ctr.i Tryz.func94 rfl Tryz.ntmps94 fun w0 F0 => .w [0,1] rfl (.fact (Has.okZ (Has.t (t := 0) rfl)) fun okz0 => .fact (Has.okZ (Has.t (t := 1) rfl)) fun okz1 => ?_)
 have ha := vV m xs
 have hb := vV n ys
 have h1 := xn (zv m xs) (zv m xs)
 have h2 := xn (zv m xs + zv m xs) (zv n ys)
 have h3 := xn (zv n ys) (zv n ys)
 refine .sr fun k1 => .box (.t rfl) rfl fun b1 => .box (.t rfl) rfl fun b2 => .alloc [isB false, SlM isU []] zJ (fun _ _ => ⟨rfl, nilM _ _, trivial⟩) rfl fun b3 => st (.as (.cB false)) rfl (nkQ k1 (.sq fun k2 => .sr fun k3 => st (.load (.t rfl) (i := 1) rfl zE rfl (Ss' := [_, _]) rfl) rfl (st (.call (qD (by omega)) (.cons (.t rfl) .nil)) rfl (st (.ltI (.t rfl) (.cI 0 rfl)) rfl (nkQ k3 (.cd rfl (fun hc1 => ?_) (fun hc1 => ?_)))))))
 ·exfalso; have := (jy _).1 hc1; omega
 ·refine .skip (.nk k2 (.w [2,3,4,5] rfl (.sq fun k4 => .drh [true, true, true] (Ms := [_, _, _]) rfl (.so [] rfl (.load (.t rfl) (i := 2) rfl zE rfl (Ss' := [_, _]) rfl) (.so [] rfl (.load (.t rfl) (i := 2) rfl zE rfl (Ss' := [_, _]) rfl) (.so [17,18] rfl (.call (xC (by omega) (by omega)) (.cons (.t rfl) (.cons (.t rfl) .nil))) (.so [] rfl (.load (.t rfl) (i := 1) rfl zE rfl (Ss' := [_, _]) rfl) (.so [19,20] rfl (.eq (.call (xC (by rw [zB]; omega) (by omega)) (.cons (.t rfl) (.cons (.t rfl) .nil))) ((show isZ _ = isZ (zv m xs + zv m xs + zv n ys) from zS (by simp only [zK])))) ?_))))))))
  refine .so [] rfl (.load (.t rfl) (i := 1) rfl zE rfl (Ss' := [_, _]) rfl) (.so [] rfl (.load (.t rfl) (i := 1) rfl zE rfl (Ss' := [_, _]) rfl) (.so [22,23] rfl (.call (xC (by omega) (by omega)) (.cons (.t rfl) (.cons (.t rfl) .nil))) (.so [21,24] rfl (.eq (.call (bS (by rw [zB]; omega) (by rw [zB]; omega) (by rw [zK]; omega)) (.cons (.t rfl) (.cons (.t rfl) .nil))) ((show zW [isZ _, isZ _, isB true] = zW [isZ ((zv m xs + zv m xs + zv n ys) / (zv n ys + zv n ys)), isZ ((zv m xs + zv m xs + zv n ys) % (zv n ys + zv n ys)), isB true] from by simp only [zK]))) ?_)))
  refine .m [25] rfl (.so [16] rfl (.ext (.t rfl) rfl) (.so [16] rfl (.ext (.t rfl) rfl) (.so [16] rfl (.ext (.t rfl) rfl) (.als2 (n1 := 15) (ds := [6,7]) (zs := [[isB false, SlM isU []], [isB false, SlM isU []]]) rfl (.cons rfl rfl zJ (fun _ _ => ⟨rfl, nilM _ _, trivial⟩) (.cons rfl rfl zJ (fun _ _ => ⟨rfl, nilM _ _, trivial⟩) .nil)) (.cons_cons _ (.cons_cons _ (.cons_cons _ .slnil))) (Cs := [_, _]) rfl (.new [26] 0 (Ss' := [_, _]) (Cs' := [zC [_, _], _]) rfl (by kernel_rfl) (by kernel_rfl) rfl rfl rfl (by kernel_rfl) rfl (.t rfl) zE rfl rfl rfl rfl (.new [27] 1 (Ss' := [_, _]) (Cs' := [_, zC [_, _]]) rfl (by kernel_rfl) (by kernel_rfl) rfl rfl rfl (by kernel_rfl) rfl (.t rfl) zE rfl rfl rfl rfl (.fn (n := 17) zY rfl (fun bs hbs => ?_))))))))
  obtain ⟨b4, b5, rfl⟩ := zAJ hbs
  refine .memEq (M' := [_, _, _, _, _]) rfl (.cv (Cv.wk (.k 4 rfl (.k 5 rfl (.k 28 rfl (.cons (t := 6) (Has.op rfl) .nil))))) (stM rfl (nkQ k4 (.sr fun k5 => st (.load (.t rfl) (i := 0) rfl zE rfl (Ss' := [_, _]) rfl) rfl (stM rfl (.store (.t rfl) (.t rfl) (i := 2) rfl zE rfl rfl (Ss' := [_, _]) rfl (M' := [_, _, (some _, zC [_, _]), _, _]) rfl (stM rfl (nkQ k5 (.w [4,5] rfl (.ret (rtN (.inl rfl) Tryz.results94 rfl rfl (.cell rfl (i := 2) rfl zE rfl ?_ (.tmp (Has.t' rfl ?_) .nil)))))))))))))
  ·rfl
  ·rfl
end Go.Proofs.YtlebmedapfncoaaGreat
namespace Go.Proofs.YtlebmedapfncoaaGreat
open Go.En Go.RowKit
set_option maxRecDepth 10000
set_option maxHeartbeats 4000000
open Go.Nt
open Go.Pz
open Go.Mz
theorem nI {bw N K : Nat} {gd : Gr (Bool × List Nat)} {gl gu : Gr Row} {ds : List Int} {ls us : List Row} {m n : Bool} {ps qs : List Nat} {sw : Int} (hdl : ds.length = N + 1) (hdb : Bd ds K) (hll : ls.length = N) (hul : us.length = N) (hlr : ∀ r ∈ ls, r.2.length = N) (hur : ∀ r ∈ us, r.2.length = N) (hlb : ∀ r ∈ ls, Bd r.2 K) (hub : ∀ r ∈ us, Bd r.2 K) (hN : N ≤ 64) (hK : K ≤ 100000000) {s : Nat} {r : Row} (hi : ls[s + 1]? = some r) (hpw : (List.length (zA (val ps))) ≤ 1000) (hqw : (List.length (zA (val qs))) ≤ 1000) : CtrX Tryz.prog 80 [qU bw 0, isI ((s + 1 : Nat) : Int)] (lwM bw N gd gl gu ds ls us m n ps qs sw) (fun S M => S = isB (decide (0 ≤ xB (zv n qs * (cf ds s * cf ds (s + 2) + cf r.2 s * cf r.2 s)) (zv m ps * (cf ds (s + 1) * cf ds (s + 1))))) ∧ M = lwM bw N gd gl gu ds ls us m n ps qs sw) := by
 refine CtrX.i Tryz.func80 rfl Tryz.ntmps80 fun w0 F0 => .w [0,1] rfl (.fact (Has.rngI (Has.t (t := 1) rfl)) fun lt1 => ?_)
 have hrC := hlr r (List.mem_of_getElem? hi)
 have hrB := hlb r (List.mem_of_getElem? hi) s
 have hrL : (r.2.map nz).length = N := by rw [List.length_map, hrC]
 have hiL : s + 1 < ls.length := by
  rcases Nat.lt_or_ge (s + 1) ls.length with g | g
  ·exact g
  ·rw [List.getElem?_eq_none g] at hi; cases hi
 have hd0 := hdb s
 have hd1 := hdb (s + 1)
 have hd2 := hdb (s + 2)
 have hpz := vV m ps
 have hqz := vV n qs
 have m1 := qJ (cf ds s) (cf ds (s + 2))
 have m2 := qJ (cf r.2 s) (cf r.2 s)
 have m3 := xn (cf ds s * cf ds (s + 2)) (cf r.2 s * cf r.2 s)
 have m4 := qJ (cf ds (s + 1)) (cf ds (s + 1))
 have m5 := qJ (zv n qs) (cf ds s * cf ds (s + 2) + cf r.2 s * cf r.2 s)
 have m6 := qJ (zv m ps) (cf ds (s + 1) * cf ds (s + 1))
 have hdL : (ds.map nz).length = N + 1 := by rw [List.length_map, hdl]
 refine .sr fun k1 => st (.as (.cB false)) rfl (nkQ k1 (.sr fun k2 => stM rfl (st (.nilc (.t rfl)) rfl (st (.fieldAddr (.t rfl) qW zk) rfl (st (.load1 (.t rfl) (i := 0) rfl zk rfl) rfl (stM rfl (st (.ixGr qd zN (.t rfl) (.t rfl) (by omega)) rfl (st (.loadGM (.t rfl) (i := 2) rfl zN hi) rfl (stM rfl (st (.eq (.subI (.t rfl) (.cI 1 rfl) (by first | omega | assumption) (by first | omega | assumption)) ((show isI _ = isI ((s : Nat) : Int) from zG (by omega)))) rfl (st (.ixGr zp zE (.t rfl) (.t rfl) (by omega)) rfl (st (.loadGK zL (.t rfl) (i := 4 + (s + 1)) (jA (pre := [_, _, _, _]) (lwL hi)) zE (xc (i := s) (by omega))) rfl (.alloc [isB false, SlM isU []] zJ (fun _ _ => ⟨rfl, nilM _ _, trivial⟩) rfl fun b1 => .store (.t rfl) (.t rfl) (i := 0) rfl zE rfl rfl (Ss' := [_, _]) rfl (M' := ((some _, zC [_, _]) :: _ :: _ :: _ :: _ :: _)) rfl (nkQ k2 (.w [0,1,4,5] rfl (.sq fun k3 => .drhS (.cons_cons _ (.cons_cons _ (.cons_cons _ (.cons_cons _ (.cons_cons _ (List.Sublist.refl _)))))) (.m [] rfl (.so [18] rfl (.nilc (.t rfl)) (.so [19] rfl (.fieldAddr (.t rfl) qw zN) (.so [20] rfl (.load1 (.t rfl) (i := 1) rfl zN rfl) (.m [] rfl (.so [22] rfl (.eq (.subI (.t rfl) (.cI 1 rfl) (by first | omega | assumption) (by first | omega | assumption)) ((show isI _ = isI ((s : Nat) : Int) from zG (by omega)))) (.so [21,23] rfl (.ixGr zp zE (.t rfl) (.t rfl) (by omega)) ?_)))))))))))))))))))))))
 refine .so [24] rfl (.loadGK zL (.t rfl) (i := 2) rfl zE (xc (i := s) (by omega))) (.m [] rfl (.so [26] rfl (.nilc (.t rfl)) (.so [27] rfl (.fieldAddr (.t rfl) qw zN) (.so [28] rfl (.load1 (.t rfl) (i := 1) rfl zN rfl) (.m [] rfl (.so [30] rfl (.eq (.addI (.t rfl) (.cI 1 rfl) (by first | omega | assumption) (by first | omega | assumption)) ((show isI _ = isI ((s + 2 : Nat) : Int) from zG (by omega)))) (.so [29,31] rfl (.ixGr zp zE (.t rfl) (.t rfl) (by omega)) ?_)))))))
 refine .so [32] rfl (.loadGK zL (.t rfl) (i := 2) rfl zE (xc (i := s + 2) (by omega))) (.so [25,33] rfl (.eq (.call (qP (by first | omega | (rw [zB]; omega)) (by first | omega | (rw [zB]; omega))) (.cons (.t rfl) (.cons (.t rfl) .nil))) ((show isZ _ = isZ (cf ds s * cf ds (s + 2)) from zS (by (try simp only [qO]); (try simp only [zK]))))) ?_)
 refine .so [] rfl (.load (.t rfl) (i := 0) rfl zE rfl (Ss' := [_, _]) rfl) (.so [] rfl (.load (.t rfl) (i := 0) rfl zE rfl (Ss' := [_, _]) rfl) (.so [35,36] rfl (.eq (.call (qP (by first | omega | (rw [zB]; omega)) (by first | omega | (rw [zB]; omega))) (.cons (.t rfl) (.cons (.t rfl) .nil))) ((show isZ _ = isZ (cf r.2 s * cf r.2 s) from zS (by (try simp only [qO]); (try simp only [zK]))))) ?_))
 refine .so [34,37] rfl (.eq (.call (xC (by first | omega | (rw [zB]; omega)) (by first | omega | (rw [zB]; omega))) (.cons (.t rfl) (.cons (.t rfl) .nil))) ((show isZ _ = isZ (cf ds s * cf ds (s + 2) + cf r.2 s * cf r.2 s) from zS (by (try simp only [qO]); (try simp only [zK]))))) ?_
 refine .als2 (n1 := 22) (ds := [6]) (zs := [[isB false, SlM isU []]]) rfl (.cons rfl rfl zJ (fun _ _ => ⟨rfl, nilM _ _, trivial⟩) .nil) (.cons_cons _ (.cons_cons _ (.cons_cons _ (.cons_cons _ (.cons_cons _ (List.Sublist.refl _)))))) (Cs := [_]) rfl (.fn (n := 22) zY rfl (fun bs hbs => ?_))
 obtain ⟨b2, rfl⟩ := cl hbs
 refine .memEq (M' := (_ :: _ :: _ :: _ :: _ :: _ :: _)) rfl (.cv (Cv.wk (.k 0 rfl (.k 1 rfl (.k 4 rfl (.k 38 rfl (.cons (t := 6) (Has.op rfl) .nil)))))) (.store (.t rfl) (.t rfl) (i := 0) rfl zE rfl rfl (Ss' := [_, _]) rfl (M' := ((some _, zC [_, _]) :: _ :: _ :: _ :: _ :: _ :: _)) rfl (nkQ k3 (.sq fun k4 => .dr (.m [] rfl (.so [39] rfl (.nilc (.t rfl)) (.so [40] rfl (.fieldAddr (.t rfl) kC zE) (.so [41] rfl (.load (.t rfl) (i := 2) rfl zE rfl (Ss' := [_, _]) rfl) (.so [] rfl (.load (.t rfl) (i := 0) rfl zE rfl (Ss' := [_, _]) rfl) (.so [42,43] rfl (.eq (.call (qP (by first | omega | (rw [zB]; omega)) (by first | omega | (rw [zB]; omega))) (.cons (.t rfl) (.cons (.t rfl) .nil))) ((show isZ _ = isZ (zv n qs * (cf ds s * cf ds (s + 2) + cf r.2 s * cf r.2 s)) from zS (by (try simp only [qO]); (try simp only [zK]))))) ?_))))))))))
 refine .m [] rfl (.so [45] rfl (.nilc (.t rfl)) (.so [46] rfl (.fieldAddr (.t rfl) kD zE) (.so [47] rfl (.load (.t rfl) (i := 2) rfl zE rfl (Ss' := [_, _]) rfl) (.m [] rfl (.so [49] rfl (.nilc (.t rfl)) (.so [50] rfl (.fieldAddr (.t rfl) qw zN) (.so [51] rfl (.load1 (.t rfl) (i := 2) rfl zN rfl) (.m [] rfl (.so [52,53] rfl (.ixGr zp zE (.t rfl) (.t rfl) (by omega)) ?_)))))))))
 refine .so [54] rfl (.loadGK zL (.t rfl) (i := 3) rfl zE (xc (i := s + 1) (by omega))) (.m [] rfl (.so [56] rfl (.nilc (.t rfl)) (.so [57] rfl (.fieldAddr (.t rfl) qw zN) (.so [58] rfl (.load1 (.t rfl) (i := 2) rfl zN rfl) (.m [] rfl (.so [59,60] rfl (.ixGr zp zE (.t rfl) (.t rfl) (by omega)) ?_))))))
 refine .so [61] rfl (.loadGK zL (.t rfl) (i := 3) rfl zE (xc (i := s + 1) (by omega))) (.so [55,62] rfl (.eq (.call (qP (by first | omega | (rw [zB]; omega)) (by first | omega | (rw [zB]; omega))) (.cons (.t rfl) (.cons (.t rfl) .nil))) ((show isZ _ = isZ (cf ds (s + 1) * cf ds (s + 1)) from zS (by (try simp only [qO]); (try simp only [zK]))))) ?_)
 refine .fn (n := 25) zY (.w [4,44,48,63] rfl (st (.eq (.call (qP (by first | omega | (rw [zB]; omega)) (by first | omega | (rw [zB]; omega))) (.cons (.t rfl) (.cons (.t rfl) .nil))) ((show isZ _ = isZ (zv m ps * (cf ds (s + 1) * cf ds (s + 1))) from zS (by (try simp only [qO]); (try simp only [zK]))))) rfl ?_))
 refine st (.eq (.call (wK (by first | omega | (rw [zB]; omega)) (by first | omega | (rw [zB]; omega))) (.cons (.t rfl) (.cons (.t rfl) .nil))) ((show isI _ = isI (xB (zv n qs * (cf ds s * cf ds (s + 2) + cf r.2 s * cf r.2 s)) (zv m ps * (cf ds (s + 1) * cf ds (s + 1)))) from zG (by (try simp only [qO]); (try simp only [zK]))))) rfl ?_
 refine st (.geI (.t rfl) (.cI 0 rfl)) rfl (stM rfl (nkQ k4 (.w [4] rfl (.ret (gM (.cons _ (.cons _ (.cons_cons _ (.cons_cons _ (.cons_cons _ (.cons_cons _ (List.Sublist.refl _))))))) (.inl rfl) Tryz.results80 rfl (.tmp (.t rfl) .nil) (⟨rfl, rfl⟩))))))
theorem bB {m n : Bool} {xs ys : List Nat} (hx : (List.length (zA (val xs))) < 4294700000) (hy : (List.length (zA (val ys))) < 4294700000) (h0 : zv n ys ≠ 0) (hd : zv n ys ∣ zv m xs) : Ctr Tryz.prog 95 [zu [isB m, zD xs], zu [isB n, zD ys]] (isZ ((zv m xs).tdiv (zv n ys))) := by
 refine Ctr.i Tryz.func95 rfl Tryz.ntmps95 fun w0 F0 => .w [0,1] rfl (.fact (Has.okZ (Has.t (t := 0) rfl)) fun okz0 => .fact (Has.okZ (Has.t (t := 1) rfl)) fun okz1 => ?_)
 have hE : zv n ys ≠ 0 ∧ (zv m xs).tmod (zv n ys) = 0 := ⟨h0, Int.tmod_eq_zero_of_dvd hd⟩
 refine .sr fun k1 => .box (.t rfl) rfl fun b1 => .box (.t rfl) rfl fun b2 => .alloc [isB false, SlM isU []] zJ (fun _ _ => ⟨rfl, nilM _ _, trivial⟩) rfl fun b3 => nkQ k1 (.sr fun k2 => st (.load (.t rfl) (i := 2) rfl zE rfl (Ss' := [_, _]) rfl) rfl (st (.load (.t rfl) (i := 1) rfl zE rfl (Ss' := [_, _]) rfl) rfl (st (.call (jS (by first | omega | assumption) (by first | omega | assumption)) (.cons (.t rfl) (.cons (.t rfl) .nil))) rfl (stM rfl (st (.ext (.t rfl) rfl) rfl (st (.ext (.t rfl) rfl) rfl (.alloc [isB false, SlM isU []] zJ (fun _ _ => ⟨rfl, nilM _ _, trivial⟩) rfl fun b4 => .store (.t rfl) (.t rfl) (i := 0) rfl zE rfl rfl (Ss' := [_, _]) rfl (M' := [(some _, zC [_, _]), _, _, _]) rfl (stM rfl (nkQ k2 (.w [4,5] rfl (.sr fun k3 => st (.load (.t rfl) (i := 0) rfl zE rfl (Ss' := [_, _]) rfl) rfl (.store (.t rfl) (.t rfl) (i := 1) rfl zE rfl rfl (Ss' := [_, _]) rfl (M' := [_, (some _, zC [_, _]), _, _]) rfl (nkQ k3 (.ret (rt1 (.inl rfl) Tryz.results95 rfl (.cell rfl (i := 1) rfl zE rfl ?_ .nil))))))))))))))))
 all_goals (exact zS (if_pos hE))
end Go.Proofs.YtlebmedapfncoaaGreat
namespace Go.Dt
abbrev zI : Type := Nat → Nat → Int
def sm : Nat → (Nat → Int) → Int
 | 0, _ => 0
 | n + 1, f => sm n f + f n
theorem zV {f g : Nat → Int} : ∀ {n : Nat}, (∀ i, i < n → f i = g i) → sm n f = sm n g
  | 0, _ => rfl
  | n + 1, h => by
    show sm n f + f n = sm n g + g n
    rw [zV (n := n) fun i hi => h i (by omega), h n (by omega)]
theorem xd {f : Nat → Int} {n : Nat} (h : ∀ i, i < n → f i = 0) : sm n f = 0 := by
 have e : sm n f = sm n (fun _ => 0) := zV h
 rw [e]
 induction n with
 | zero => rfl
 | succ n ih => show sm n _ + 0 = 0; rw [ih (fun i hi => h i (by omega)) (zV fun i hi => h i (by omega))]; rfl
theorem jY (x y : Int) (f g : Nat → Int) : ∀ n : Nat, sm n (fun i => x * f i + y * g i) = x * sm n f + y * sm n g
  | 0 => by show (0 : Int) = x * 0 + y * 0; omega
  | n + 1 => by
    show sm n _ + (x * f n + y * g n) = x * (sm n f + f n) + y * (sm n g + g n)
    rw [jY x y f g n, Int.mul_add, Int.mul_add]; omega
theorem vF (x : Int) (f : Nat → Int) (n : Nat) : sm n (fun i => x * f i) = x * sm n f := by
 have h := jY x 0 f f n
 rw [Int.zero_mul, Int.add_zero] at h
 rw [← h]
 exact zV fun i _ => by rw [Int.zero_mul, Int.add_zero]
theorem iR (f g : Nat → Int) (n : Nat) : sm n (fun i => f i + g i) = sm n f + sm n g := by
 have h := jY 1 1 f g n
 rw [Int.one_mul, Int.one_mul] at h
 rw [← h]
 exact zV fun i _ => by rw [Int.one_mul, Int.one_mul]
theorem wj {f : Nat → Int} {n c : Nat} (hc : c < n) (h : ∀ i, i < n → i ≠ c → f i = 0) : sm n f = f c := by
  induction n with
  | zero => omega
  | succ n ih =>
    show sm n f + f n = f c
    by_cases e : c = n
    · subst e
      rw [xd fun i hi => h i (by omega) (by omega)]; omega
    · rw [ih (by omega) fun i hi => h i (by omega), h n (by omega) (by omega)]; omega
theorem zDG {f : Nat → Int} {n c : Nat} (hc : c + 1 < n) (h2 : f c + f (c + 1) = 0) (h : ∀ i, i < n → i ≠ c → i ≠ c + 1 → f i = 0) : sm n f = 0 := by
  induction n with
  | zero => omega
  | succ n ih =>
    show sm n f + f n = 0
    by_cases e : c + 1 = n
    · subst e
      rw [wj (c := c) (by omega) fun i hi hne => h i (by omega) hne (by omega)]; exact h2
    · rw [ih (by omega) fun i hi => h i (by omega), h n (by omega) (by omega) (by omega)]; rfl
theorem dX (f : Nat → Nat → Int) (m : Nat) : ∀ n : Nat, sm n (fun i => sm m fun j => f i j) = sm m (fun j => sm n fun i => f i j)
  | 0 => (xd fun _ _ => rfl).symm
  | n + 1 => by
    show sm n _ + sm m _ = sm m fun j => sm n (fun i => f i j) + f n j
    rw [dX f m n, ← iR]
def sg (k : Nat) : Int := if k % 2 = 1 then -1 else 1
theorem oQ (k : Nat) : sg (k + 1) = - sg k := by
 unfold sg
 rcases Nat.mod_two_eq_zero_or_one k with h | h
 ·rw [if_pos (by omega), if_neg (by omega)]
 ·rw [if_neg (by omega), if_pos h]; rfl
def skip (k j : Nat) : Nat := if j < k then j else j + 1
def xE (k j : Nat) : Nat := if j < k then j else j - 1
theorem yY (k j : Nat) : skip k j ≠ k := by unfold skip; split <;> omega
theorem kl (k j : Nat) : xE k (skip k j) = j := by unfold xE skip; (repeat' split) <;> omega
theorem jo {k j : Nat} (h : j ≠ k) : skip k (xE k j) = j := by unfold xE skip; (repeat' split) <;> omega
theorem yZ {k j n : Nat} (h : j < n) : skip k j < n + 1 := by unfold skip; split <;> omega
theorem aj {k j n : Nat} (h : j < n + 1) (hk : k < n + 1) (hne : j ≠ k) : xE k j < n := by unfold xE; split <;> omega
theorem oN {k j c : Nat} (h : c ≠ k) : skip k j = c ↔ j = xE k c := ⟨fun e => by rw [← e, kl], fun e => by rw [e, jo h]⟩
def det : Nat → zI → Int
 | 0, _ => 1
 | n + 1, A => sm (n + 1) fun k => sg k * (A 0 k * det n fun i j => A (i + 1) (skip k j))
theorem vD (n : Nat) (A : zI) : det (n + 1) A = sm (n + 1) fun k => sg k * (A 0 k * det n fun i j => A (i + 1) (skip k j)) := rfl
theorem qG : ∀ {n : Nat} {A B : zI}, (∀ i j, i < n → j < n → A i j = B i j) → det n A = det n B
  | 0, _, _, _ => rfl
  | n + 1, A, B, h => zV fun k hk => by
    rw [h 0 k (by omega) hk, qG (n := n) fun i j hi hj => h (i + 1) (skip k j) (by omega) (yZ hj)]
def iU (A : zI) (c : Nat) (v : Nat → Int) : zI := fun i j => if j = c then v i else A i j
def zl (A : zI) (r : Nat) (v : Nat → Int) : zI := fun i j => if i = r then v j else A i j
theorem eY (A : zI) (c : Nat) (v : Nat → Int) {k : Nat} (h : c ≠ k) : (fun i j => iU A c v (i + 1) (skip k j)) = iU (fun i j => A (i + 1) (skip k j)) (xE k c) (fun i => v (i + 1)) := by
 funext i j
 unfold iU
 by_cases e : j = xE k c
 ·rw [if_pos e, if_pos ((oN h).2 e)]
 ·rw [if_neg e, if_neg fun e2 => e ((oN h).1 e2)]
theorem eX (A : zI) (k : Nat) (v : Nat → Int) : (fun i j => iU A k v (i + 1) (skip k j)) = fun i j => A (i + 1) (skip k j) := by
 funext i j
 exact if_neg (yY k j)
theorem pL (x y : Int) (u v : Nat → Int) : ∀ {n : Nat} (A : zI) (c : Nat), c < n → det n (iU A c fun i => x * u i + y * v i) = x * det n (iU A c u) + y * det n (iU A c v)
  | 0, _, _, h => by omega
  | n + 1, A, c, h => by
    rw [vD, vD, vD, ← jY]
    refine zV fun k hk => ?_
    by_cases e : k = c
    · subst e
      rw [eX, eX, eX]
      have h1 : ∀ w : Nat → Int, iU A k w 0 k = w 0 := fun w => if_pos rfl
      rw [h1, h1, h1]
      generalize det n (fun i j => A (i + 1) (skip k j)) = d
      generalize sg k = s
      rw [Int.add_mul, Int.mul_add, Int.mul_assoc, Int.mul_assoc, Int.mul_left_comm s x, Int.mul_left_comm s y]
    · have hc : c ≠ k := fun e2 => e e2.symm
      rw [eY _ _ _ hc, eY _ _ _ hc, eY _ _ _ hc, pL x y _ _ _ _ (aj h hk hc)]
      have h1 : ∀ w : Nat → Int, iU A c w 0 k = A 0 k := fun w => if_neg e
      rw [h1, h1, h1]
      generalize sg k = s
      generalize A 0 k = a
      rw [Int.mul_add, Int.mul_add, Int.mul_left_comm a x, Int.mul_left_comm a y, Int.mul_left_comm s x, Int.mul_left_comm s y]
theorem dH : ∀ {n : Nat} (A : zI) (c : Nat), c + 1 < n → (∀ i, i < n → A i c = A i (c + 1)) → det n A = 0
  | 0, _, _, h, _ => by omega
  | n + 1, A, c, h, hA => by
    rw [vD]
    refine zDG h ?_ fun k hk h1 h2 => ?_
    · rw [← hA 0 (by omega), oQ]
      have e : det n (fun i j => A (i + 1) (skip c j)) = det n (fun i j => A (i + 1) (skip (c + 1) j)) := qG fun i j hi hj => by
        unfold skip
        by_cases e1 : j < c
        · rw [if_pos e1, if_pos (by omega)]
        · rw [if_neg e1]
          by_cases e2 : j < c + 1
          · rw [if_pos e2]
            obtain rfl : j = c := by omega
            exact (hA (i + 1) (by omega)).symm
          · rw [if_neg e2]
      rw [e, Int.neg_mul]; omega
    · have hu : xE k (c + 1) = xE k c + 1 := by unfold xE; split <;> split <;> omega
      rw [dH (n := n) _ (xE k c) (by have := aj h hk (fun e => h2 e.symm); omega) fun i hi => ?_, Int.mul_zero, Int.mul_zero]
      rw [← hu, jo (fun e => h1 e.symm), jo (fun e => h2 e.symm)]
      exact hA (i + 1) (by omega)
def one : zI := fun i j => if i = j then 1 else 0
theorem cR : ∀ n : Nat, det n one = 1
  | 0 => rfl
  | n + 1 => by
    rw [vD, wj (c := 0) (by omega) fun k hk hne => ?_]
    · have e : det n (fun i j => one (i + 1) (skip 0 j)) = det n one := qG fun i j _ _ => by
        unfold one skip
        repeat' split
        all_goals omega
      rw [e, cR n]; rfl
    · have e : one 0 k = 0 := if_neg (by omega)
      rw [e, Int.zero_mul, Int.mul_zero]
structure RowF (n : Nat) (F : zI → Int) : Prop where
 congr : ∀ {A B : zI}, (∀ i j, i < n → j < n → A i j = B i j) → F A = F B
 lin : ∀ (A : zI) (r : Nat) (x y : Int) (u v : Nat → Int), r < n → F (zl A r fun j => x * u j + y * v j) = x * F (zl A r u) + y * F (zl A r v)
 alt : ∀ (A : zI) (r : Nat), r + 1 < n → (∀ j, j < n → A r j = A (r + 1) j) → F A = 0
namespace RowF
variable {n : Nat} {F : zI → Int}
theorem set_self (A : zI) (r : Nat) : zl A r (A r) = A := by
 funext i j; unfold zl; split
 ·rename_i e; rw [e]
 ·rfl
theorem set_set (A : zI) (r : Nat) (u v : Nat → Int) : zl (zl A r u) r v = zl A r v := by
 funext i j; unfold zl; split <;> rfl
theorem wO (A : zI) {r s : Nat} (h : r ≠ s) (u v : Nat → Int) : zl (zl A r u) s v = zl (zl A s v) r u := by
 funext i j; unfold zl
 by_cases e1 : i = s
 ·rw [if_pos e1, if_neg (by omega), if_pos e1]
 ·rw [if_neg e1, if_neg e1]
theorem set_at (A : zI) (r : Nat) (u : Nat → Int) : zl A r u r = u := by funext j; exact if_pos rfl
theorem set_ne (A : zI) {r s : Nat} (h : s ≠ r) (u : Nat → Int) : zl A r u s = A s := by funext j; exact if_neg h
theorem zero (h : RowF n F) {A : zI} {r : Nat} (hr : r < n) (hz : ∀ j, j < n → A r j = 0) : F A = 0 := by
 have e : F A = F (zl A r fun j => 0 * A r j + 0 * A r j) := h.congr fun i j _ hj => by
  unfold zl; split
  ·rename_i e; show _ = 0 * A r j + 0 * A r j; rw [e, hz j hj]; rfl
  ·rfl
 rw [e, h.lin A r 0 0 _ _ hr]; omega
theorem add (h : RowF n F) (A : zI) {r : Nat} (hr : r < n) (u v : Nat → Int) : F (zl A r fun j => u j + v j) = F (zl A r u) + F (zl A r v) := by
 have e := h.lin A r 1 1 u v hr
 rw [Int.one_mul, Int.one_mul] at e
 rw [← e]
 congr 2; funext j; omega
theorem smul (h : RowF n F) (A : zI) {r : Nat} (hr : r < n) (x : Int) (u : Nat → Int) : F (zl A r fun j => x * u j) = x * F (zl A r u) := by
 have e := h.lin A r x 0 u u hr
 rw [Int.zero_mul, Int.add_zero] at e
 rw [← e]
 congr 2; funext j; omega
theorem sum (h : RowF n F) (A : zI) {r : Nat} (hr : r < n) (c : Nat → Int) (u : Nat → Nat → Int) : ∀ m : Nat, F (zl A r fun j => sm m fun k => c k * u k j) = sm m fun k => c k * F (zl A r (u k))
  | 0 => h.zero (A := zl A r _) hr fun j _ => by rw [set_at]; rfl
  | m + 1 => by
    show F (zl A r fun j => sm m (fun k => c k * u k j) + c m * u m j) = _
    rw [h.add A hr, sum h A hr c u m, h.smul A hr]; rfl
theorem two (h : RowF n F) (A : zI) {r s : Nat} (hr : r < n) (hs : s < n) (hne : r ≠ s) (heq : ∀ u : Nat → Int, F (zl (zl A r u) s u) = 0) (u v : Nat → Int) : F (zl (zl A r u) s v) = - F (zl (zl A r v) s u) := by
 have e := heq fun j => u j + v j
 rw [h.add _ hs, wO _ hne, wO _ hne, h.add _ hr, h.add _ hr, ← wO _ hne, ← wO _ hne, ← wO _ hne, ← wO _ hne, heq u, heq v] at e
 omega
theorem swap1 (h : RowF n F) (A : zI) {r : Nat} (hr : r + 1 < n) (u v : Nat → Int) : F (zl (zl A r u) (r + 1) v) = - F (zl (zl A r v) (r + 1) u) :=
 h.two A (by omega) hr (by omega) (fun u => h.alt _ r hr fun j _ => by rw [set_at, set_ne _ (by omega), set_at]) u v
theorem same (h : RowF n F) : ∀ (d : Nat) (A : zI) (r : Nat), r + 1 + d < n → (∀ j, j < n → A r j = A (r + 1 + d) j) → F A = 0
  | 0, A, r, hr, hA => h.alt A r hr hA
  | d + 1, A, r, hr, hA => by
    have e : A = zl (zl A (r + 1 + d) (A (r + 1 + d))) (r + 1 + d + 1) (A (r + 1 + d + 1)) := by rw [set_self, set_self]
    rw [e, h.swap1 A (by omega), same h d _ r (by omega) fun j hj => ?_]
    · rfl
    · rw [set_ne _ (by omega), set_ne _ (by omega), set_ne _ (by omega), set_at, hA j hj]; rfl
theorem eqr (h : RowF n F) {A : zI} {r s : Nat} (hr : r < n) (hs : s < n) (hne : r ≠ s) (hA : ∀ j, j < n → A r j = A s j) : F A = 0 := by
 rcases Nat.lt_or_gt_of_ne hne with hl | hl
 ·obtain ⟨d, rfl⟩ : ∃ d, s = r + 1 + d := ⟨s - r - 1, by omega⟩
  exact h.same d A r hs hA
 ·obtain ⟨d, rfl⟩ : ∃ d, r = s + 1 + d := ⟨r - s - 1, by omega⟩
  exact h.same d A s hr fun j hj => (hA j hj).symm
theorem swap (h : RowF n F) (A : zI) {r s : Nat} (hr : r < n) (hs : s < n) (hne : r ≠ s) (u v : Nat → Int) : F (zl (zl A r u) s v) = - F (zl (zl A r v) s u) :=
 h.two A hr hs hne (fun u => h.eqr hr hs hne fun j _ => by rw [set_at, set_ne _ hne, set_at]) u v
theorem addrow (h : RowF n F) (A : zI) {r s : Nat} (hr : r < n) (hs : s < n) (hne : r ≠ s) (x : Int) : F (zl A r fun j => A r j + x * A s j) = F A := by
 rw [h.add A hr, set_self, h.smul A hr, h.eqr hr hs hne (A := zl A r (A s)) fun j _ => by rw [set_at, set_ne _ (fun e => hne e.symm)]]; omega
def ins (k : Nat) (B : zI) : zI := fun i j => if i = 0 then (if j = k then 1 else 0) else if j = k then 0 else B (i - 1) (xE k j)
theorem lY (k : Nat) (B : zI) (j : Nat) : ins k B 0 j = if j = k then 1 else 0 := rfl
theorem vC (k : Nat) (B : zI) (i j : Nat) : ins k B (i + 1) j = if j = k then 0 else B i (xE k j) := rfl
theorem zAO (k : Nat) (B : zI) (r : Nat) (v : Nat → Int) : ins k (zl B r v) = zl (ins k B) (r + 1) (fun j => if j = k then 0 else v (xE k j)) := by
  funext i j
  cases i with
  | zero => exact (if_neg (by omega)).symm
  | succ i =>
    show _ = if i + 1 = r + 1 then (if j = k then 0 else v (xE k j)) else ins k B (i + 1) j
    rw [vC, vC]
    unfold zl
    by_cases e : i = r
    · rw [if_pos (c := i + 1 = r + 1) (by omega), if_pos e]
    · rw [if_neg (c := i + 1 = r + 1) (by omega), if_neg e]
theorem insF {F : zI → Int} (h : RowF (n + 1) F) {k : Nat} (hk : k < n + 1) : RowF n fun B => F (ins k B) where
  congr {A B} e := h.congr fun i j hi hj => by
    cases i with
    | zero => rfl
    | succ i =>
      rw [vC, vC]
      by_cases h1 : j = k
      · rw [if_pos h1, if_pos h1]
      · rw [if_neg h1, if_neg h1]; exact e _ _ (by omega) (aj hj hk h1)
  lin A r x y u v hr := by
    simp only [zAO]
    rw [← h.lin _ (r + 1) x y _ _ (by omega)]
    congr 2; funext j; split
    · omega
    · rfl
  alt A r hr e := h.alt _ (r + 1) (by omega) fun j hj => by
    rw [vC, vC]
    split
    · rfl
    · rename_i h1; exact e _ (aj hj hk h1)
theorem ox (h : RowF (n + 1) F) : ∀ k : Nat, k < n + 1 → F (ins k one) = sg k * F one
  | 0, _ => by
    have e : F (ins 0 one) = F one := h.congr fun i j _ _ => by
      unfold ins one xE
      repeat' split
      all_goals omega
    rw [e]; show _ = 1 * _; omega
  | k + 1, hk => by
    have ih := ox h k (by omega)
    have e1 : ins k one = zl (zl (ins k one) 0 (ins k one 0)) (k + 1) (ins k one (k + 1)) := by rw [set_self, set_self]
    have e2 : F (ins (k + 1) one) = F (zl (zl (ins k one) 0 (ins k one (k + 1))) (k + 1) (ins k one 0)) := h.congr fun i j hi hj => by
      unfold zl
      by_cases hik : i = k + 1
      · rw [if_pos hik, hik, lY, vC]
        unfold one xE
        repeat' split
        all_goals omega
      · rw [if_neg hik]
        cases i with
        | zero =>
          rw [if_pos rfl, lY, vC]
          unfold one xE
          repeat' split
          all_goals omega
        | succ i =>
          rw [if_neg (by omega), vC, vC]
          unfold one xE
          repeat' split
          all_goals omega
    have e3 : F (ins (k + 1) one) = - F (ins k one) := by rw [e2, h.swap _ (by omega) hk (by omega), ← e1]
    rw [e3, ih, oQ, Int.neg_mul]
def mG (A : zI) (k m : Nat) : zI := fun i j => if i = 0 then (if j = k then 1 else 0) else if j = k ∧ i ≤ m then 0 else A i j
theorem ug (h : RowF (n + 1) F) (A : zI) {k : Nat} (hk : k < n + 1) : ∀ m : Nat, m ≤ n → F (mG A k m) = F (mG A k 0)
  | 0, _ => rfl
  | m + 1, hm => by
    rw [← ug h A hk m (by omega), ← h.addrow (mG A k m) (r := m + 1) (s := 0) (by omega) (by omega) (by omega) (- A (m + 1) k)]
    refine h.congr fun i j hi hj => ?_
    unfold zl
    by_cases e : i = m + 1
    · rw [if_pos e, e]
      show (if j = k ∧ m + 1 ≤ m + 1 then 0 else A (m + 1) j) = (if j = k ∧ m + 1 ≤ m then 0 else A (m + 1) j) + -A (m + 1) k * (if j = k then 1 else 0)
      by_cases h1 : j = k
      · rw [h1, if_pos ⟨rfl, Nat.le_refl _⟩, if_neg (by omega), if_pos rfl]; omega
      · rw [if_neg (by omega), if_neg (by omega), if_neg h1]; omega
    · rw [if_neg e]
      unfold mG
      split
      · rfl
      · by_cases h1 : j = k ∧ i ≤ m
        · rw [if_pos h1, if_pos ⟨h1.1, by omega⟩]
        · rw [if_neg h1, if_neg (by omega)]
end RowF
open RowF
theorem RowF.uniq : ∀ {n : Nat} {F : zI → Int}, RowF n F → ∀ A : zI, F A = F one * det n A
  | 0, F, h, A => by
    rw [show det 0 A = 1 from rfl, Int.mul_one]
    exact h.congr fun i j hi => by omega
  | n + 1, F, h, A => by
    have e1 : F A = F (zl A 0 fun j => sm (n + 1) fun k => A 0 k * (if j = k then 1 else 0)) := h.congr fun i j hi hj => by
      unfold zl; split
      · rename_i e
        show _ = sm (n + 1) fun k => A 0 k * (if j = k then 1 else 0)
        rw [e, wj (c := j) hj fun k _ hne => by rw [if_neg (fun e => hne e.symm), Int.mul_zero], if_pos rfl, Int.mul_one]
      · rfl
    rw [e1, h.sum A (by omega) (fun k => A 0 k) (fun k j => if j = k then 1 else 0), vD, ← vF]
    refine zV fun k hk => ?_
    have e2 : F (zl A 0 fun j => if j = k then 1 else 0) = F (mG A k 0) := h.congr fun i j _ _ => by
      unfold zl mG; split
      · rfl
      · rw [if_neg (by omega)]
    have e3 : F (mG A k n) = F (ins k fun i j => A (i + 1) (skip k j)) := h.congr fun i j hi hj => by
      unfold mG ins
      split
      · rfl
      · rename_i h0
        by_cases h1 : j = k
        · rw [if_pos ⟨h1, by omega⟩, if_pos h1]
        · rw [if_neg (by omega), if_neg h1]
          show A i j = A (i - 1 + 1) (skip k (xE k j))
          rw [jo h1, show i - 1 + 1 = i by omega]
    have e4 := RowF.uniq (h.insF hk) fun i j => A (i + 1) (skip k j)
    simp only [ox h k hk] at e4
    rw [e2, ← ug h A hk n (Nat.le_refl _), e3, e4]
    generalize det n (fun i j => A (i + 1) (skip k j)) = d
    generalize A 0 k = a
    generalize sg k = s
    generalize F one = f
    rw [Int.mul_left_comm f s, Int.mul_left_comm f a, Int.mul_assoc, Int.mul_left_comm a s]
def tr (A : zI) : zI := fun i j => A j i
theorem iA (n : Nat) : RowF n fun A => det n (tr A) where
 congr e := qG fun i j hi hj => e j i hj hi
 lin A r x y u v hr := pL x y u v (tr A) r hr
 alt A r hr e := dH (tr A) r hr e
theorem aB (n : Nat) (A : zI) : det n (tr A) = det n A := by
 have h := (iA n).uniq A
 have e : det n (tr one) = 1 := by
  rw [← cR n]
  exact qG fun i j _ _ => by
   unfold tr one
   repeat' split
   all_goals omega
 rw [h, e, Int.one_mul]
theorem xD (n : Nat) : RowF n (det n) := by
 have e : det n = fun A => det n (tr A) := funext fun A => (aB n A).symm
 rw [e]; exact iA n
def lI (n : Nat) (A B : zI) : zI := fun i j => sm n fun k => A i k * B k j
theorem tO (n : Nat) (A B : zI) (r : Nat) (v : Nat → Int) : lI n (zl A r v) B = zl (lI n A B) r fun j => sm n fun k => v k * B k j := by
 funext i j
 unfold lI zl
 split <;> rfl
theorem rK (n m : Nat) (B : zI) : RowF n fun A => det n (lI n A B) where
 congr e := qG fun i j hi hj => zV fun k hk => by rw [e i k hi hk]
 lin A r x y u v hr := by
  simp only [tO]
  rw [← (xD n).lin _ r x y _ _ hr]
  congr 2; funext j
  rw [← jY]
  exact zV fun k _ => by rw [Int.add_mul, Int.mul_assoc, Int.mul_assoc]
 alt A r hr e := (xD n).alt _ r hr fun j hj => zV fun k hk => by rw [e k hk]
theorem zBO (n : Nat) (A B : zI) : det n (lI n A B) = det n A * det n B := by
 have h := (rK n n B).uniq A
 have e : det n (lI n one B) = det n B := qG fun i j hi _ => by
  unfold lI one
  rw [wj (c := i) hi fun k _ hne => by rw [if_neg (fun e => hne e.symm), Int.zero_mul], if_pos rfl, Int.one_mul]
 rw [h, e, Int.mul_comm]
end Go.Dt
namespace Go.Dt
open RowF
theorem ar (f : Nat → Int) : ∀ n : Nat, sm (n + 1) f = f 0 + sm n (fun i => f (i + 1))
  | 0 => by show (0 : Int) + f 0 = f 0 + 0; omega
  | n + 1 => by
    show sm (n + 1) f + f (n + 1) = f 0 + (sm n (fun i => f (i + 1)) + f (n + 1))
    rw [ar f n]; omega
def sub (A : zI) (rs cs : List Nat) : zI := fun i j => A (rs.getD i 0) (cs.getD j 0)
def mn (A : zI) (rs cs : List Nat) : Int := det rs.length (sub A rs cs)
theorem fy {n : Nat} {A : zI} {c d : Nat} (hc : c < n) (hd : d < n) (hne : c ≠ d) (h : ∀ i, i < n → A i c = A i d) : det n A = 0 := by
 rw [← aB]; exact (xD n).eqr (A := tr A) hc hd hne h
theorem cw {n : Nat} {N : zI} (h : ∀ j, j < n → N 0 (j + 1) = 0) : det (n + 1) N = N 0 0 * det n (fun i j => N (i + 1) (j + 1)) := by
 rw [vD, ar, xd fun j hj => by rw [h j hj, Int.zero_mul, Int.mul_zero]]
 have e : (fun i j => N (i + 1) (skip 0 j)) = fun i j => N (i + 1) (j + 1) := by
  funext i j; unfold skip; rw [if_neg (by omega)]
 rw [e]; show 1 * _ + 0 = _; omega
theorem va {l : List Nat} {j : Nat} (h : j < l.length) : l.getD j 0 ∈ l := by
 rw [List.getD, List.getElem?_eq_getElem h]; exact List.getElem_mem h
theorem fC {l : List Nat} {k : Nat} (h : k ∈ l) : ∃ j, j < l.length ∧ l.getD j 0 = k := by
 obtain ⟨j, hj, e⟩ := List.mem_iff_getElem.1 h
 exact ⟨j, hj, by rw [List.getD, List.getElem?_eq_getElem hj]; exact e⟩
def ec (A : zI) (rs cs : List Nat) (i r : Nat) : Int := sg (r + 1) * det rs.length (fun p q => A ((i :: rs).getD (skip (r + 1) q) 0) (cs.getD p 0))
theorem cj (A : zI) (rs cs : List Nat) (i k : Nat) : mn A (i :: rs) (k :: cs) = mn A rs cs * A i k + sm rs.length fun r => ec A rs cs i r * A (rs.getD r 0) k := by
 show det (rs.length + 1) _ = _
 rw [← aB, vD, ar]
 have e0 : det rs.length (fun p q => tr (sub A (i :: rs) (k :: cs)) (p + 1) (skip 0 q)) = mn A rs cs := by
  unfold mn
  rw [← aB (A := sub A rs cs)]
  refine congrArg _ ?_
  funext p q
  unfold skip
  rw [if_neg (by omega)]; rfl
 rw [e0]
 have e1 : sg 0 * (tr (sub A (i :: rs) (k :: cs)) 0 0 * mn A rs cs) = mn A rs cs * A i k := by
  show 1 * (A i k * _) = _
  rw [Int.one_mul, Int.mul_comm]
 rw [e1]
 refine congrArg _ (zV fun r _ => ?_)
 show sg (r + 1) * (A (rs.getD r 0) k * det rs.length (fun p q => A ((i :: rs).getD (skip (r + 1) q) 0) (cs.getD p 0))) = _
 unfold ec
 rw [Int.mul_comm (A (rs.getD r 0) k), Int.mul_assoc]
theorem nG (A : zI) {rs cs : List Nat} (hl : cs.length = rs.length) (i : Nat) {k : Nat} (hk : k ∈ cs) : mn A (i :: rs) (k :: cs) = 0 := by
 obtain ⟨j, hj, e⟩ := fC hk
 refine fy (c := 0) (d := j + 1) (by show 0 < rs.length + 1; omega) (by show j + 1 < rs.length + 1; omega) (by omega) fun p _ => ?_
 show A _ k = A _ (cs.getD j 0)
 rw [e]
theorem tQ (A : zI) {rs cs : List Nat} {i : Nat} (hi : i ∈ rs) (k : Nat) : mn A (i :: rs) (k :: cs) = 0 := by
 obtain ⟨j, hj, e⟩ := fC hi
 refine (xD _).eqr (r := 0) (s := j + 1) (by show 0 < rs.length + 1; omega) (by show j + 1 < rs.length + 1; omega) (by omega) fun q _ => ?_
 show A i _ = A (rs.getD j 0) _
 rw [e]
theorem RowF.comb {n : Nat} {F : zI → Int} (h : RowF n F) (A : zI) {r : Nat} (hr : r < n) (D : Int) (e : Nat → Int) (f : Nat → Nat) (m : Nat) (hf : ∀ p, p < m → f p < n ∧ f p ≠ r) :
  F (zl A r fun j => D * A r j + sm m fun p => e p * A (f p) j) = D * F A := by
 rw [h.add A hr, h.smul A hr, set_self, h.sum A hr e (fun p => A (f p)), xd fun p hp => ?_]
 ·omega
 ·obtain ⟨h1, h2⟩ := hf p hp
  rw [h.eqr hr h1 (fun e => h2 e.symm) (A := zl A r (A (f p))) fun j _ => by rw [set_at, set_ne _ h2], Int.mul_zero]
theorem zEI (A : zI) {rs cs : List Nat} (hl : cs.length = rs.length) (i1 i2 k1 k2 : Nat) :
  mn A rs cs * (mn A rs cs * mn A (i1 :: i2 :: rs) (k1 :: k2 :: cs)) = mn A rs cs * (mn A (i1 :: rs) (k1 :: cs) * mn A (i2 :: rs) (k2 :: cs) - mn A (i1 :: rs) (k2 :: cs) * mn A (i2 :: rs) (k1 :: cs)) := by
 obtain ⟨t, ht⟩ : ∃ t, t = rs.length := ⟨_, rfl⟩
 obtain ⟨M, hM⟩ : ∃ M, M = sub A (i1 :: i2 :: rs) (k1 :: k2 :: cs) := ⟨_, rfl⟩
 obtain ⟨w, hw⟩ : ∃ w : Nat → Nat → Int, w = fun i j => mn A (i :: rs) ((k1 :: k2 :: cs).getD j 0 :: cs) := ⟨_, rfl⟩
 have hR := xD (t + 2)
 have h1 : w i1 = fun j => mn A rs cs * M 0 j + sm t fun p => ec A rs cs i1 p * M (p + 2) j := by
  rw [hw, hM, ht]; funext j; exact cj A rs cs i1 _
 have h2 : w i2 = fun j => mn A rs cs * M 1 j + sm t fun p => ec A rs cs i2 p * M (p + 2) j := by
  rw [hw, hM, ht]; funext j; exact cj A rs cs i2 _
 have g1 : det (t + 2) (zl M 0 (w i1)) = mn A rs cs * det (t + 2) M := by
  rw [h1]; exact hR.comb M (r := 0) (by omega) (mn A rs cs) (ec A rs cs i1) (fun p => p + 2) t (fun p hp => ⟨by omega, by omega⟩)
 have g2 : det (t + 2) (zl (zl M 0 (w i1)) 1 (w i2)) = mn A rs cs * det (t + 2) (zl M 0 (w i1)) := by
  have e : w i2 = fun j => mn A rs cs * zl M 0 (w i1) 1 j + sm t fun p => ec A rs cs i2 p * zl M 0 (w i1) (p + 2) j := by
   rw [h2]; funext j
   rw [set_ne M (by omega)]
   refine congrArg _ (zV fun p _ => ?_)
   rw [set_ne M (by omega)]
  rw [congrArg (zl (zl M 0 (w i1)) 1) e]
  exact hR.comb (zl M 0 (w i1)) (r := 1) (by omega) (mn A rs cs) (ec A rs cs i2) (fun p => p + 2) t (fun p hp => ⟨by omega, by omega⟩)
 have hz : ∀ i j, j < t → w i (j + 2) = 0 := fun i j hj => by
  rw [hw]; exact nG A hl i (va (by omega))
 have e3 : mn A (i1 :: i2 :: rs) (k1 :: k2 :: cs) = det (t + 2) M := by rw [hM, ht]; rfl
 have e4 : ∀ i, w i 0 = mn A (i :: rs) (k1 :: cs) := fun i => by rw [hw]; rfl
 have e5 : ∀ i, w i 1 = mn A (i :: rs) (k2 :: cs) := fun i => by rw [hw]; rfl
 rw [e3, ← g1, ← g2, ← e4, ← e5, ← e5, ← e4, vD, ar, ar, xd fun j hj => ?_]
 ·have d0 : det (t + 1) (fun i j => zl (zl M 0 (w i1)) 1 (w i2) (i + 1) (skip 0 j)) = w i2 1 * mn A rs cs := by
   rw [cw fun j hj => ?_]
   ·have : (fun i j => zl (zl M 0 (w i1)) 1 (w i2) (i + 1 + 1) (skip 0 (j + 1))) = sub A rs cs := by
     rw [hM]; rfl
    rw [this, ht]; rfl
   ·exact hz i2 j hj
  have d1 : det (t + 1) (fun i j => zl (zl M 0 (w i1)) 1 (w i2) (i + 1) (skip 1 j)) = w i2 0 * mn A rs cs := by
   have s1 : ∀ j, skip 1 (j + 1) = j + 2 := fun j => by unfold skip; rw [if_neg (by omega)]
   rw [cw fun j hj => ?_]
   ·have : (fun i j => zl (zl M 0 (w i1)) 1 (w i2) (i + 1 + 1) (skip 1 (j + 1))) = sub A rs cs := by
     funext i j
     rw [s1, hM]; rfl
    rw [this, ht]; rfl
   ·show w i2 (skip 1 (j + 1)) = 0
    rw [s1]; exact hz i2 j hj
  show sg 0 * (zl (zl M 0 (w i1)) 1 (w i2) 0 0 * _) + (sg 1 * (zl (zl M 0 (w i1)) 1 (w i2) 0 1 * _) + 0) = _
  rw [d0, show (0 + 1 : Nat) = 1 from rfl, d1]
  show 1 * (w i1 0 * (w i2 1 * mn A rs cs)) + (-1 * (w i1 1 * (w i2 0 * mn A rs cs)) + 0) = mn A rs cs * (w i1 0 * w i2 1 - w i1 1 * w i2 0)
  rw [Int.mul_sub, ← Int.mul_assoc (w i1 0), ← Int.mul_assoc (w i1 1), Int.mul_comm (mn A rs cs), Int.mul_comm (mn A rs cs)]
  omega
 ·show sg (j + 1 + 1) * (w i1 (j + 2) * _) = 0
  rw [hz i1 j hj, Int.zero_mul, Int.mul_zero]
theorem om (A : zI) {rs cs : List Nat} (hl : cs.length = rs.length) (h0 : mn A rs cs ≠ 0) (i1 i2 k1 k2 : Nat) :
  mn A (i1 :: rs) (k1 :: cs) * mn A (i2 :: rs) (k2 :: cs) - mn A (i1 :: rs) (k2 :: cs) * mn A (i2 :: rs) (k1 :: cs) = mn A rs cs * mn A (i1 :: i2 :: rs) (k1 :: k2 :: cs) :=
 (Int.eq_of_mul_eq_mul_left h0 (zEI A hl i1 i2 k1 k2)).symm
theorem zBN (n : Nat) (A : zI) : det n (fun i j => A (n - 1 - i) (n - 1 - j)) = det n A := by
 have hF : RowF n fun A : zI => det n (fun i j => A (n - 1 - i) (n - 1 - j)) := {
  congr := fun e => qG fun i j hi hj => e _ _ (by omega) (by omega)
  lin := fun A r x y u v hr => by
   have e : ∀ w : Nat → Int, (fun i j => zl A r w (n - 1 - i) (n - 1 - j)) = fun i j => if n - 1 - i = r then w (n - 1 - j) else A (n - 1 - i) (n - 1 - j) := fun w => rfl
   have e2 : ∀ w : Nat → Int, det n (fun i j => zl A r w (n - 1 - i) (n - 1 - j)) = det n (zl (fun i j => A (n - 1 - i) (n - 1 - j)) (n - 1 - r) fun j => w (n - 1 - j)) := fun w => qG fun i j hi hj => by
    unfold zl
    by_cases h : n - 1 - i = r
    ·rw [if_pos h, if_pos (by omega)]
    ·rw [if_neg h, if_neg (by omega)]
   rw [e2, e2, e2]
   exact (xD n).lin _ (n - 1 - r) x y _ _ (by omega)
  alt := fun A r hr e => (xD n).eqr (r := n - 1 - r) (s := n - 1 - (r + 1)) (by omega) (by omega) (by omega) fun j hj => by
   show A (n - 1 - (n - 1 - r)) _ = A (n - 1 - (n - 1 - (r + 1))) _
   rw [show n - 1 - (n - 1 - r) = r by omega, show n - 1 - (n - 1 - (r + 1)) = r + 1 by omega]
   exact e _ (by omega) }
 have h := hF.uniq A
 have e : det n (fun i j => one (n - 1 - i) (n - 1 - j)) = 1 := by
  rw [← cR n]
  exact qG fun i j _ _ => by
   unfold one
   repeat' split
   all_goals omega
 rw [h, e, Int.one_mul]
theorem lq (l : List Nat) {i : Nat} (h : i < l.length) : l.reverse.getD i 0 = l.getD (l.length - 1 - i) 0 := by
 rw [List.getD, List.getD, List.getElem?_reverse h]
theorem zEJ (A : zI) {rs cs : List Nat} (hl : cs.length = rs.length) : mn A rs.reverse cs.reverse = mn A rs cs := by
 unfold mn
 rw [List.length_reverse, ← zBN _ (sub A rs cs)]
 refine qG fun i j hi hj => ?_
 unfold sub
 rw [lq _ hi, lq _ (by omega), hl]
theorem uW (D : Int) {n : Nat} (A : zI) : det n (fun i j => D * A i j) = D ^ n * det n A := by
  have key : ∀ m : Nat, m ≤ n → det n (fun i j => if i < m then D * A i j else A i j) = D ^ m * det n A := by
    intro m
    induction m with
    | zero =>
      intro _
      rw [Int.pow_zero, Int.one_mul]
      exact qG fun i j _ _ => if_neg (by omega)
    | succ m ih =>
      intro hm
      have e : det n (fun i j => if i < m + 1 then D * A i j else A i j) = det n (zl (fun i j => if i < m then D * A i j else A i j) m fun j => D * A m j) := qG fun i j _ _ => by
        unfold zl
        by_cases h : i = m
        · rw [if_pos h, if_pos (by omega), h]
        · rw [if_neg h]
          show _ = if i < m then D * A i j else A i j
          by_cases h2 : i < m
          · rw [if_pos h2, if_pos (by omega)]
          · rw [if_neg h2, if_neg (by omega)]
      have e2 : zl (fun i j => if i < m then D * A i j else A i j) m (fun j => A m j) = fun i j => if i < m then D * A i j else A i j := by
        funext i j
        unfold zl
        by_cases h : i = m
        · rw [if_pos h, if_neg (by omega), h]
        · rw [if_neg h]
      rw [e, (xD n).smul _ (by omega), e2, ih (by omega), Int.pow_succ, Int.mul_comm (D ^ m) D, Int.mul_assoc]
  rw [← key n (Nat.le_refl _)]
  exact qG fun i j hi _ => (if_pos hi).symm
theorem kL {t : Nat} {A : zI} {D : Int} (hD : D ≠ 0) {e : Nat → Nat → Int} {V : zI} (h : ∀ i j, i < t + 1 → j < t + 1 → D * A i j = sm t fun r => e i r * V r j) : det (t + 1) A = 0 := by
 have h1 : det (t + 1) (fun i j => D * A i j) = 0 := by
  have e1 : det (t + 1) (fun i j => D * A i j) = det (t + 1) (lI (t + 1) (fun i r => if r < t then e i r else 0) V) := qG fun i j hi hj => by
   rw [h i j hi hj]
   show _ = sm t (fun k => (if k < t then e i k else 0) * V k j) + (if t < t then e i t else 0) * V t j
   rw [if_neg (c := t < t) (by omega), Int.zero_mul, Int.add_zero]
   exact zV fun r hr => by rw [if_pos hr]
  rw [e1, zBO, ← aB, (xD (t + 1)).zero (r := t) (by omega) fun j _ => ?_, Int.zero_mul]
  show (if t < t then _ else (0 : Int)) = 0
  rw [if_neg (by omega)]
 rw [uW] at h1
 rcases Int.mul_eq_zero.1 h1 with h2 | h2
 ·exact absurd h2 (Int.pow_ne_zero hD)
 ·exact h2
theorem zAB (A : zI) {cs l1 l2 : List Nat} (h : l1.Perm l2) : ∀ pre : List Nat, mn A (pre ++ l1) cs ≠ 0 → mn A (pre ++ l2) cs ≠ 0 := by
  induction h with
  | nil => exact fun pre h => h
  | cons x h ih =>
    intro pre k
    have := ih (pre ++ [x]) (by rw [List.append_assoc]; exact k)
    rw [List.append_assoc] at this; exact this
  | swap x y l =>
    intro pre k h0
    refine k ?_
    have hlen : (pre ++ y :: x :: l).length = (pre ++ x :: y :: l).length := by simp
    have hp : pre.length + 1 < (pre ++ x :: y :: l).length := by simp only [List.length_append, List.length_cons]; omega
    have hR := xD (pre ++ x :: y :: l).length
    have ea : ∀ (a b : Nat), (pre ++ a :: b :: l).getD pre.length 0 = a := fun a b => by
      rw [List.getD, List.getElem?_append_right (Nat.le_refl _), Nat.sub_self]; rfl
    have eb : ∀ (a b : Nat), (pre ++ a :: b :: l).getD (pre.length + 1) 0 = b := fun a b => by
      rw [List.getD, List.getElem?_append_right (by omega), show pre.length + 1 - pre.length = 1 by omega]; rfl
    have ec : ∀ (i : Nat), i ≠ pre.length → i ≠ pre.length + 1 → (pre ++ y :: x :: l).getD i 0 = (pre ++ x :: y :: l).getD i 0 := fun i h1 h2 => by
      rw [List.getD, List.getD]
      rcases Nat.lt_or_ge i pre.length with h3 | h3
      · rw [List.getElem?_append_left h3, List.getElem?_append_left h3]
      · obtain ⟨d, rfl⟩ : ∃ d, i = pre.length + (d + 2) := ⟨i - pre.length - 2, by omega⟩
        rw [List.getElem?_append_right (by omega), List.getElem?_append_right (by omega), Nat.add_sub_cancel_left]; rfl
    have e1 : sub A (pre ++ x :: y :: l) cs = zl (zl (sub A (pre ++ x :: y :: l) cs) pre.length (sub A (pre ++ x :: y :: l) cs pre.length)) (pre.length + 1) (sub A (pre ++ x :: y :: l) cs (pre.length + 1)) := by rw [set_self, set_self]
    have e2 : sub A (pre ++ y :: x :: l) cs = zl (zl (sub A (pre ++ x :: y :: l) cs) pre.length (sub A (pre ++ x :: y :: l) cs (pre.length + 1))) (pre.length + 1) (sub A (pre ++ x :: y :: l) cs pre.length) := by
      funext i j
      unfold zl
      by_cases h2 : i = pre.length + 1
      · rw [if_pos h2, h2]; unfold sub; rw [eb, ea]
      · rw [if_neg h2]
        by_cases h1 : i = pre.length
        · rw [if_pos h1, h1]; unfold sub; rw [ea, eb]
        · rw [if_neg h1]; unfold sub; rw [ec i h1 h2]
    unfold mn at h0 ⊢
    rw [hlen, e2, hR.swap _ (by omega) hp (by omega), ← e1, h0]; rfl
  | trans _ _ ih1 ih2 => exact fun pre k => ih2 pre (ih1 pre k)
end Go.Dt
