/- Rules and contracts, part 5 of 6. -/
import Derived.Test.YtcfobalbkhgdmaaGreatQZcharMins4
namespace Go.Tr
open Go.Nt Go.Pz Go.Mz Go.En Go.Hn Go.Hp Go.Dt Go.Br Go.Ch
theorem run_last {s0 : BS} (h0 : s0.ps = []) : ∀ {c : Nat} {s : BS}, BRun s0 c s → s.ps.length ≤ c ∧ (c ≤ s.ps.length → 0 < c → ∃ r, s.rows[c - 1]? = some r ∧ cf r (c - 1) = s.last) := by
  intro c s h
  induction h with
  | zero => exact ⟨by rw [h0]; exact Nat.le_refl _, fun _ h => absurd h (Nat.lt_irrefl _)⟩
  | @step c s s' h hs ih =>
    rcases hs with ⟨rfl, _⟩ | ⟨i, r, t, sw, hti, hi, ht, hne, hsw, k1, k2, k3, k4, k5⟩
    · exact ⟨Nat.le_succ_of_le ih.1, fun h => by have := ih.1; omega⟩
    · refine ⟨by rw [k3, List.length_append]; have := ih.1; show _ + 1 ≤ _; omega, fun hc _ => ?_⟩
      rw [k3, List.length_append] at hc
      change c + 1 ≤ s.ps.length + 1 at hc
      have e : s.ps.length = c := by have := ih.1; omega
      refine ⟨r, ?_, by rw [k4]; rfl⟩
      rw [Nat.add_sub_cancel, k2 c, if_neg (by omega), hsw]
      have hil : i < s.rows.length := Go.Hn.lt_of_some hi
      have htl : s.ps.length < s.rows.length := Go.Hn.lt_of_some ht
      split
      · next h => rw [← e, ← h]; exact hi
      · rw [← e]; exact List.getElem?_set_self (by rw [List.length_set]; exact htl)
def MulB (R C K : Nat) (L : List Int) (b : Int) : Prop := 0 < b ∧ (List.length (words b.natAbs)) ≤ (K + 1) * 2 ^ R ∧ C ≤ R ∧ ∃ q : List Nat, q.length = C ∧ (∀ x ∈ q, x < R) ∧ q.Nodup ∧ b = ((mn (mf C L) q (List.range C).reverse).natAbs : Int)
theorem run_mul {R C K : Nat} {L : List Int} {rs : List Row} {ps : List Nat} {last : Int} {odd : Bool} (h : RunI ⟨rowsOf R C L, [], 1, false⟩ C K R C rs ps last odd) (hp : ps.length = C) : MulB R C K L ((last.natAbs : Nat) : Int) ∧ (0 < C → ∃ r, rs[C - 1]? = some r ∧ cf r.2 (C - 1) = last) := by
  obtain ⟨q, hq⟩ := BI.all (BI.start (mf C L) (R := R) (C := C) (L := L) fun _ _ _ _ => rfl) h.run (Nat.le_refl _)
  have hps : ps = List.range C := hq.psl.eq_of_length_le (by rw [List.length_range]; exact Nat.le_of_eq hp.symm)
  have hl := hq.hl
  have h0 := hq.h0
  change last = mn (mf C L) (q.take ps.length).reverse ps.reverse at hl
  change last ≠ 0 at h0
  have hR : ps.length ≤ R := hq.hps
  refine ⟨⟨by omega, ?_, by omega, (q.take ps.length).reverse, ?_, fun x hx => hq.lt x (List.mem_of_mem_take (List.mem_reverse.1 hx)), (List.reverse_perm _).nodup_iff.2 (hq.nd.sublist (List.take_sublist _ _)), ?_⟩, fun hC => ?_⟩
  · rw [Int.natAbs_natCast]
    have h1 := h.hl
    have h2 : (K + 1) * 2 ^ ps.length ≤ (K + 1) * 2 ^ R := Nat.mul_le_mul_left _ (Nat.pow_le_pow_right (by decide) hR)
    omega
  · rw [List.length_reverse, List.length_take, hq.hq]; omega
  · rw [← hps, ← hl]
  · obtain ⟨r, hr, e⟩ := (run_last (s0 := ⟨rowsOf R C L, [], 1, false⟩) rfl h.run).2 (Nat.le_of_eq hp.symm) hC
    change (rs.map Prod.snd)[C - 1]? = some r at hr
    rw [List.getElem?_map] at hr
    cases h1 : rs[C - 1]? with
    | none => rw [h1] at hr; cases hr
    | some r1 =>
      rw [h1] at hr
      obtain rfl := Option.some.inj hr
      exact ⟨r1, rfl, e⟩
end Go.Tr
namespace Go.Tr
open Go.Nt Go.Pz Go.Mz Go.En Go.Hn Go.Hp Go.Dt
abbrev un (b : Int) (j : Nat) : Nat → Int := fun k => if k = j then b else 0
def HasB (b : Int) (n : Nat) (rows : List (List Int)) : Prop := ∀ j, j < n → SpZ n n (E rows) (un b j)
end Go.Tr
namespace Go.Dt
open RowF
def ip (n : Nat) (u v : Nat → Int) : Int := sm n fun k => u k * v k
def gram (n : Nat) (A : MatF) : MatF := fun i j => ip n (A i) (A j)
def rl : Nat → List Nat
 | 0 => []
 | t + 1 => t :: rl t
def gd (n : Nat) (A : MatF) (t : Nat) : Int := mn (gram n A) (rl t) (rl t)
def gp (n : Nat) (A : MatF) (t : Nat) : Nat → Int := fun k => 0 * A t k + sm t fun r => ec (gram n A) (rl t) (rl t) t r * A ((rl t).getD r 0) k
end Go.Dt
namespace Go.Gs
open Go.En Go.Pz Go.Nt Go.Mz Go.Hp Go.Dt Go.Br
theorem bstep_ex (s : BS) (c : Nat) : ∃ s', BStep c s s' := by
 by_cases h : ∀ (j : Nat) (r : List Int), s.ps.length ≤ j → s.rows[j]? = some r → cf r c = 0
 ·exact ⟨s, .inl ⟨rfl, h⟩⟩
 ·obtain ⟨i, r, h1, h2, h3⟩ : ∃ (i : Nat) (r : List Int), s.ps.length ≤ i ∧ s.rows[i]? = some r ∧ cf r c ≠ 0 :=
   Classical.byContradiction fun hn => h fun j r g1 g2 => Classical.byContradiction fun g3 => hn ⟨j, r, g1, g2, g3⟩
  have hi := lt_some h2
  obtain ⟨t, ht⟩ : ∃ t, s.rows[s.ps.length]? = some t := ⟨_, List.getElem?_eq_getElem (by omega)⟩
  obtain ⟨sw, hsw⟩ : ∃ sw, sw = if i = s.ps.length then s.rows else (s.rows.set i t).set s.ps.length r := ⟨_, rfl⟩
  have hl : sw.length = s.rows.length := by rw [hsw]; split <;> simp
  refine ⟨⟨sw.mapIdx fun j row => if s.ps.length < j then clrL r row c s.last else row, s.ps ++ [c], cf r c, if i = s.ps.length then s.odd else !s.odd⟩, .inr ⟨i, r, t, sw, h1, h2, ht, h3, hsw, ?_, fun j => ?_, rfl, rfl, rfl⟩⟩
  ·rw [List.length_mapIdx, hl]
  ·rw [List.getElem?_mapIdx]
   split
   ·rename_i e; simp [e]
   ·rename_i e; simp [e]
theorem brun_ex (s0 : BS) : ∀ c, ∃ s, BRun s0 c s
  | 0 => ⟨s0, .zero⟩
  | c + 1 => by
    obtain ⟨s, h⟩ := brun_ex s0 c
    obtain ⟨s', h'⟩ := bstep_ex s c
    exact ⟨s', h.step h'⟩
theorem bi_ex (R C : Nat) (L : List Int) : ∃ s q, BI (mf C L) R C C s q ∧ s.ps = pivs (mf C L) R C := by
 have h0 := BI.start (mf C L) (R := R) (C := C) (L := L) fun i k _ _ => rfl
 obtain ⟨s, h⟩ := brun_ex ⟨rowsOf R C L, [], 1, false⟩ C
 obtain ⟨q, hq⟩ := h0.all h (Nat.le_refl _)
 exact ⟨s, q, hq, h0.pivs rfl h (Nat.le_refl _)⟩
def DepR (R C : Nat) (A : MatF) : Prop := ∃ (i : Nat) (c : Nat → Int), i < R ∧ c i ≠ 0 ∧ ∀ k, k < C → (sm R fun a => c a * A a k) = 0
theorem rank_dep {R C : Nat} {L : List Int} (h : (pivs (mf C L) R C).length < R) : DepR R C (mf C L) := by
 obtain ⟨s, q, hb, hp⟩ := bi_ex R C L
 rw [← hp] at h
 obtain ⟨r, hr⟩ : ∃ r, s.rows[s.ps.length]? = some r := ⟨_, List.getElem?_eq_getElem (by rw [hb.hR]; exact h)⟩
 obtain ⟨rs, hrs⟩ : ∃ rs, rs = (q.take s.ps.length).reverse := ⟨_, rfl⟩
 obtain ⟨i, hi⟩ : ∃ i, i = q.getD s.ps.length 0 := ⟨_, rfl⟩
 have hqi : q[s.ps.length]? = some i := by rw [hi]; exact some_getD (by rw [hb.hq]; exact h)
 have hiR : i < R := hb.lt i (List.mem_of_getElem? hqi)
 have hno : ∀ p, p < rs.length → rs.getD p 0 ≠ i := fun p hp e => by
  have h1 := getD_mem hp
  rw [e, hrs, List.mem_reverse] at h1
  have h2 := List.getElem_of_mem h1
  obtain ⟨p', hp', he⟩ := h2
  rw [List.length_take] at hp'
  rw [List.getElem_take] at he
  have h3 := hb.nd
  have h4 : q[s.ps.length]'(by rw [hb.hq]; exact h) = i := by
   rw [List.getElem?_eq_getElem (by rw [hb.hq]; exact h)] at hqi; exact Option.some.inj hqi
  exact List.pairwise_iff_getElem.1 h3 p' s.ps.length (by omega) (by rw [hb.hq]; exact h) (by omega) (he.trans h4.symm)
 have hD : mn (mf C L) rs s.ps.reverse ≠ 0 := by rw [hrs, ← hb.hl]; exact hb.h0
 obtain ⟨D, hDe⟩ : ∃ D, D = mn (mf C L) rs s.ps.reverse := ⟨_, rfl⟩
 obtain ⟨e, he⟩ : ∃ e, e = ec (mf C L) rs s.ps.reverse i := ⟨_, rfl⟩
 have hz : ∀ k, k < C → D * mf C L i k + (sm rs.length fun r => e r * mf C L (rs.getD r 0) k) = 0 := fun k hk => by
  have h1 := hb.row s.ps.length r (Nat.le_refl _) hr k hk
  rw [hb.zero s.ps.length r (Nat.le_refl _) hr k hk, ← hrs, ← hi, mn_exp, ← hDe, ← he] at h1
  exact h1.symm
 refine ⟨i, fun a => (if a = i then D else 0) + sm rs.length fun r => if rs.getD r 0 = a then e r else 0, hiR, ?_, fun k hk => ?_⟩
 ·show (if i = i then D else 0) + _ ≠ 0
  rw [if_pos rfl, sm_zero fun p hp => if_neg (hno p hp), hDe]
  simpa using hD
 ·have h1 : ∀ a, ((if a = i then D else 0) + sm rs.length fun r => if rs.getD r 0 = a then e r else 0) * mf C L a k = (if a = i then D * mf C L a k else 0) + sm rs.length fun r => if rs.getD r 0 = a then e r * mf C L a k else 0 := fun a => by
   rw [Int.add_mul, Int.mul_comm (sm _ _), ← sm_smul]
   congr 1
   ·split <;> simp
   ·refine sm_congr fun p _ => ?_
    split
    ·rw [Int.mul_comm]
    ·simp
  rw [show (sm R fun a => ((if a = i then D else 0) + sm rs.length fun r => if rs.getD r 0 = a then e r else 0) * mf C L a k) = sm R fun a => (if a = i then D * mf C L a k else 0) + sm rs.length fun r => if rs.getD r 0 = a then e r * mf C L a k else 0 from sm_congr fun a _ => h1 a]
  rw [sm_add, sm_one hiR (fun a _ ha => if_neg ha), if_pos rfl, sm_swap]
  rw [show (sm rs.length fun j => sm R fun a => if rs.getD j 0 = a then e j * mf C L a k else 0) = sm rs.length fun r => e r * mf C L (rs.getD r 0) k from sm_congr fun p hp => by
   have hpR : rs.getD p 0 < R := by
    have h2 := getD_mem hp
    rw [hrs, List.mem_reverse] at h2
    rw [← hrs] at h2
    exact hb.lt _ (List.mem_of_mem_take h2)
   rw [sm_one hpR fun a _ ha => if_neg fun e => ha e.symm, if_pos rfl]]
  exact hz k hk
end Go.Gs
namespace Go.Mi
open Go.Gs Go.En Go.Mu Go.Qe Go.Dt Go.Pz Go.Nt Go.Mz Go.Ch Go.Hp
def fpL (n : Nat) (L : List Int) (d : Nat) : List Int := (List.range d).flatMap (pwL n L)
theorem fpL_succ (n : Nat) (L : List Int) (d : Nat) : fpL n L (d + 1) = fpL n L d ++ pwL n L d := by unfold fpL; rw [List.range_succ, List.flatMap_append]; simp
theorem fpL_len (n : Nat) (L : List Int) : ∀ d, (fpL n L d).length = d * (n * n)
 | 0 => by rw [Nat.zero_mul]; rfl
 | d + 1 => by rw [fpL_succ, List.length_append, fpL_len n L d, pwL_len, Nat.succ_mul]
theorem fpL_at {n : Nat} {L : List Int} {k u : Nat} (hu : u < n * n) : ∀ {d : Nat}, k < d → cf (fpL n L d) (k * (n * n) + u) = pe n L k u
  | 0, h => absurd h (Nat.not_lt_zero _)
  | d + 1, h => by
    have hl := fpL_len n L d
    rw [fpL_succ]
    unfold cf
    rw [List.getD_eq_getElem?_getD, List.getElem?_append]
    by_cases e : k = d
    · subst e
      rw [if_neg (by omega), hl, Nat.add_sub_cancel_left, ← List.getD_eq_getElem?_getD]; rfl
    · have hlt : k * (n * n) + u < d * (n * n) := place_lt (show k < d by omega) hu
      rw [if_pos (by omega), ← List.getD_eq_getElem?_getD]
      exact fpL_at hu (by omega)
theorem fpL_bd {n K : Nat} {L : List Int} (h : Bd L K) (d : Nat) : Bd (fpL n L d) (1 + d * (K + n)) := fun i => by
 rcases Nat.lt_or_ge i (d * (n * n)) with hi | hi
 ·obtain ⟨k, u, hk, hu, rfl⟩ := place_of hi
  rw [fpL_at hu hk]
  exact (pwL_bd h k).mono (Nat.add_le_add_left (Nat.mul_le_mul_right _ (by omega)) _) u
 ·rw [cf_high (by rw [fpL_len]; exact hi), Int.natAbs_zero, words_zero]; exact Nat.zero_le _
section
variable {n d : Nat} {L : List Int} {x : Nat → Int}
theorem MinI.sum (h : MinI (pe n L) (n * n) d x) {u : Nat} (hu : u < n * n) : (sm d fun k => pe n L k u * x k) = pe n L d u := by
 have := h.eq u hu
 rw [dotQ_int] at this
 exact Rat.intCast_inj.1 this
theorem MinI.rank (h : MinI (pe n L) (n * n) d x) : ¬ (pivs (mf (n * n) (fpL n L d)) d (n * n)).length < d := fun hlt => by
 obtain ⟨i, c, hi, hc, hz⟩ := rank_dep hlt
 have := h.ind (fun k => ((c k : Int) : Rat)) (fun u hu => by
  rw [dotQ_int]
  have h2 := hz u hu
  rw [sm_congr (g := fun a => pe n L a u * c a) fun a ha => by show c a * cf (fpL n L d) (a * (n * n) + u) = _; rw [fpL_at hu ha, Int.mul_comm]] at h2
  rw [h2]; rfl) i hi
 exact hc (Rat.intCast_eq_zero_iff.1 this)
theorem MinI.nought (h : MinI (pe n L) (n * n) d x) (j : Nat) : cf (vlL n L (mnL x d) (d + 1)) j = 0 := by
 rcases Nat.lt_or_ge j (n * n) with hj | hj
 ·rw [vlL_at n L _ _ hj]
  show (sm d fun m => cf (mnL x d) m * cf (pwL n L m) j) + cf (mnL x d) d * cf (pwL n L d) j = 0
  rw [mnL_top, Int.one_mul, sm_congr (g := fun m => -1 * (pe n L m j * x m)) fun m hm => by rw [mnL_at hm]; show -(x m) * pe n L m j = _; grind, sm_smul, h.sum hj]
  show -1 * pe n L d j + pe n L d j = 0
  omega
 ·exact cf_high (by rw [vlL_len]; exact hj)
theorem mnL_ne (x : Nat → Int) (d : Nat) : pnorm (mnL x d) ≠ [] := fun e => by
 have := norm_nil.1 e d
 rw [mnL_top] at this
 exact absurd this (by decide)
theorem mnL_norm (x : Nat → Int) (d : Nat) : pnorm (mnL x d) = mnL x d := normal_iff.2 (.inr (by rw [mnL_len, Nat.add_sub_cancel, mnL_top]; decide))
theorem mnL_div {t : List Int} (h : ∀ i, cf (chL n L) i = mul (cf t) (cf (mnL x d)) i) : (exq (chL n L) (mnL x d)).isSome = true := by
 obtain ⟨r, hr, _⟩ := exq_complete (mnL_ne x d) h (N := t.length) fun i hi => cf_high hi
 rw [hr]; rfl
theorem mnL_bd {K : Nat} (hL : Bd L K) (h : MinI (pe n L) (n * n) d x) : Bd (mnL x d) (8 ^ d * (1 + d * (K + n))) := fun i => by
 have h1 : 1 ≤ 8 ^ d * (1 + d * (K + n)) := Nat.mul_pos (Nat.pow_pos (by decide)) (by omega)
 rcases Nat.lt_trichotomy i d with e | e | e
 ·rw [mnL_at e, Int.natAbs_neg]; exact pe_min_nw hL h e
 ·subst e; rw [mnL_top]; exact Nat.le_trans (nw_small' (by decide)) h1
 ·rw [cf_high (by rw [mnL_len]; omega), Int.natAbs_zero, words_zero]; exact Nat.zero_le _
end
end Go.Mi
namespace Go.Proofs.YtcfobalbkhgdmaaGreat
open Go.En Go.RowKit
set_option maxRecDepth 10000
set_option maxHeartbeats 4000000
open Go.Nt
open Go.Pz
open Go.Mz
open Go.Hn
open Go.Hp
open Go.Dt
open Go.Ch
open Go.Mi
theorem ref26_Flat {n K N : Nat} {xs : List (Bool × List Nat)} (hx : Bd (vals xs) K) (hB : 1 + N * (K + n) + K + n ≤ 900) (hn : n ≤ 8) (hN : N ≤ 64) (hl : xs.length = n * n) : Ctr Tryz.prog 24 [isM (n : Int) (n : Int) xs, isI (N : Int)] (isMz N (n * n) (fpL n (vals xs) N)) := by
 refine Ctr.intro Tryz.func24 rfl (by kernel_rfl) Tryz.ntmps24 rfl fun w0 F0 => .cv (Cv.wk (.l [0, 1] rfl)) (.fact (Has.rngI (Has.t (t := 1) rfl)) fun lt1 => ?_)
 have hn64 : n ≤ 64 := (by omega)
 have hRC := side_le hn64 hn64
 have hnn : n * n ≤ 64 := Nat.mul_le_mul hn hn
 refine .seq fun _ k1 => .region (.box (.t rfl) rfl fun b1 => .alloc [isI 0, isI 0, nilS] zero27 (fun _ _ => ⟨⟨rfl, by decide, by decide⟩, ⟨rfl, by decide, by decide⟩, rfl, trivial⟩) rfl fun b2 => nl (.thn (k1 _ _ (.seq fun _ k2 => .region (st (.mv (.t rfl)) rfl (st (.fieldAddr (.t rfl) fld27_0 ty3) rfl (st (.load1 (.t rfl) (i := 1) rfl ty3 rfl) rfl (st (.fieldAddr (.t rfl) fld27_0 ty3) rfl (st (.load1 (.t rfl) (i := 1) rfl ty3 rfl) rfl (st (.eq (.mulI (.t rfl) (.t rfl) (by first | omega | assumption) (by first | omega | assumption)) ((show isI _ = isI ((n * n : Nat) : Int) from isI_eq (Int.natCast_mul n n).symm))) rfl (st (.build [isI 0, isI 0, nilS] pl27 zero27 (fun _ _ => ⟨⟨rfl, by decide, by decide⟩, ⟨rfl, by decide, by decide⟩, rfl, trivial⟩) (.cons (.t rfl) rfl rfl rfl (.cons (.t rfl) rfl rfl rfl .nil)) (Z'' := [_, _, _]) rfl) rfl (.alloc [isI 0, isI 0, nilS] zero27 (fun _ _ => ⟨⟨rfl, by decide, by decide⟩, ⟨rfl, by decide, by decide⟩, rfl, trivial⟩) rfl fun b3 => .store (.t rfl) (.t rfl) (i := 0) rfl ty27 rfl rfl (Ss' := [_, _, _]) rfl (M' := [(some _, cellM [_, _, _]), _, _]) rfl (nl (.thn (k2 _ _ (.cv (Cv.wk (.l [1, 2, 4, 5] rfl)) (.seq fun _ k3 => .seq fun _ k4 => .cv (Cv.growF (Bool × List Nat) (i := 0) (o := 2) rfl rfl rfl) (.memEq (M' := [grMK zc Gr.nil [], _, _, _]) rfl (.region (st (.as (.cI 0 rfl)) rfl (nl (.thn (k4 _ _ (.block (.loopF [1, 2, 4, 5] (fun (z : { z : Nat × Gr (Bool × List Nat) // z.1 ≤ N }) => match z with | ⟨(i, g), hI⟩ => [(6, isI (i : Int))]) (fun M => fun (z : { z : Nat × Gr (Bool × List Nat) // z.1 ≤ N }) => match z with | ⟨(i, g), hI⟩ => [grMK zc g ((fpL n (vals xs) i).map nz), (some b3, cellM [isI (N : Int), isI ((n * n : Nat) : Int), isGr g ((fpL n (vals xs) i).map nz).length]), (some b2, cellM [isI 0, isI 0, nilS]), (some b1, cellM [isI (n : Int), isI (n : Int), SlK 2 zc xs])]) (fun (z : { z : Nat × Gr (Bool × List Nat) // z.1 ≤ N }) => match z with | ⟨(i, g), hI⟩ => N - i) (⟨(0, Gr.nil), Nat.zero_le _⟩) (Cv.mem (.c 6 rfl ?_ (.l [1, 2, 4, 5] rfl)) ?_) ?_)))))))))))))))))))))))))
 ·rfl
 ·rfl
 rintro ⟨⟨i, g⟩, hI⟩ K5 hK5
 refine .cv (Cv.wk (.l [6, 1, 2, 4, 5] rfl)) (.memEq (M' := [grMK zc g ((fpL n (vals xs) i).map nz), (some b3, cellM [isI (N : Int), isI ((n * n : Nat) : Int), isGr g ((fpL n (vals xs) i).map nz).length]), (some b2, cellM [isI 0, isI 0, nilS]), (some b1, cellM [isI (n : Int), isI (n : Int), SlK 2 zc xs])]) rfl ?_)
 simp only [] at hI
 have him : i * (K + n) ≤ N * (K + n) := Nat.mul_le_mul_right _ hI
 have hfl := fpL_len n (vals xs) i
 have hpl := pwL_len n (vals xs) i
 have hin : i * (n * n) ≤ 64 * 64 := Nat.mul_le_mul (by omega) hnn
 refine .seq fun _ k6 => .seq fun _ k7 => .region (st (.mv (.t rfl)) rfl (st (.mv (.t rfl)) rfl (st (.ltI (.t rfl) (.t rfl)) rfl (nl (.thn (k7 _ _ (.cond (.t rfl) (fun hc1 => ?_) (fun hc1 => ?_))))))))
 ·have hc1 := BP.t hc1
  refine .skip (.thn (k6 _ _ (.seq fun _ k8 => .block (.dr (.s [] rfl rfl rfl (.o rfl (.fieldAddr (.t rfl) fld27_2 ty22)) (.s [19] rfl rfl rfl (.o rfl (.load1 (.t rfl) (i := 1) rfl ty22 rfl)) (.s [] rfl rfl rfl (.o rfl (.load (.t rfl) (i := 3) rfl ty27 rfl (Ss' := [_, _, _]) rfl)) (.s [] rfl rfl rfl (.o rfl (.mv (.t rfl))) (.s [21, 22] rfl rfl rfl (.o rfl (.call (ref26_Power (N := i) hx (by omega) hn64 hl) (.cons (.t rfl) (.cons (.t rfl) .nil)))) (.s [23] rfl rfl rfl (.o rfl (.field1 (.t rfl) fld27_2 ty22 rfl)) (.fin (n := 6) mixed (by kernel_rfl) (by kernel_rfl) (by kernel_rfl) (.cv (Cv.wk (.l [1, 2, 4, 5, 6, 14, 15, 16, 19, 20, 21, 22, 23, 24] rfl)) (.appendGK0 (fk := zc) (u := (false, [])) zc_len (by decide) (fun _ => inferInstance) sl22 ty36 zero36 (fun _ _ => ⟨rfl, nilM _ _, trivial⟩) by36 (.t rfl) (i := 0) rfl (.t rfl) (by rw [List.length_map, List.length_map, hfl, hpl]; omega) rfl fun gr1 => ?_)))))))))))))
  refine .memEq (M' := [grMK _ _ _, _, _, _]) rfl (st (.fieldAddr (.t rfl) fld27_2 ty22) rfl (.store (.t rfl) (.t rfl) (i := 1) rfl ty22 rfl rfl (Ss' := [_, _, _]) rfl (M' := [_, (some _, cellM [_, _, _]), _, _]) rfl (nl (.bln (.thn (k8 _ _ (.region (st (.mv (.t rfl)) rfl (st (.addI (.t rfl) (.cI 1 rfl) (by first | omega | assumption) (by first | omega | assumption)) rfl (st (.as (.t rfl)) rfl (nl (.thn ?_))))))))))))
  refine hK5 (⟨(i + 1, gr1), by show i + 1 ≤ N; omega⟩) _ _ ?_ (Cv.mem (.c 6 rfl ?_ (.l [1, 2, 4, 5] rfl)) ?_)
  ·show N - (i + 1) < N - i; omega
  ·exact isI_eq (by omega)
  ·exact grF_eq (by rw [fpL_succ, List.map_append, List.length_append]) (by rw [fpL_succ, List.map_append])
 ·have hc1 := BP.f hc1
  refine .exit (.the (.the (.blh (.thn (k3 _ _ (.cv (Cv.wk (.l [4, 5] rfl)) (.seq fun _ k9 => .cv (Cv.freezeF (k := 2) (i := 0) (j := 0) (o := 2) rfl rfl rfl rfl (gr_lenK zc_len) (gr_takeK zc_len) (Ss' := [_, _, SlK 2 zc ((fpL n (vals xs) i).map nz)]) rfl) (.memEq (M' := [(some _, cellM [_, _, SlK 2 zc ((fpL n (vals xs) i).map nz)]), _, _]) rfl (.cv (Cv.wk (.l [4, 5] rfl)) (.region (st (.load (.t rfl) (i := 0) rfl ty27 rfl (Ss' := [_, _, _]) rfl) rfl (.store (.t rfl) (.t rfl) (i := 1) rfl ty27 rfl rfl (Ss' := [_, _, _]) rfl (M' := [_, (some _, cellM [_, _, _]), _]) rfl (nl (.thn (k9 _ _ (.ret (rt1 (.inl rfl) Tryz.results24 rfl (.cell rfl (i := 1) rfl ty27 rfl ?_ .nil))))))))))))))))))
  all_goals (rw [show N = i by omega])
end Go.Proofs.YtcfobalbkhgdmaaGreat
namespace Go.Proofs.YtcfobalbkhgdmaaGreat
open Go.En Go.RowKit
set_option maxRecDepth 10000
set_option maxHeartbeats 4000000
open Go.Nt
open Go.Pz
theorem rat_Of {m : Bool} {xs : List Nat} (hx : (List.length (words (val xs))) ≤ 4000000000) : Ctr Tryz.prog 82 [Flat [isB m, isWords xs]] (isQ ((zv m xs : Int) : Rat)) := by
 refine Ctr.intro Tryz.func82 rfl (by kernel_rfl) Tryz.ntmps82 rfl fun w0 F0 => .cv (Cv.wk (.l [0] rfl)) (.fact (Has.okZ (Has.t (t := 0) rfl)) fun okz0 => .seq fun _ k1 => .region (.box (.t rfl) rfl fun b1 => .alloc [isB false, SlM isU [], isB false, SlM isU []] zero75 (fun _ _ => ⟨rfl, nilM _ _, rfl, nilM _ _, trivial⟩) rfl fun b2 => nl (.thn (k1 _ _ (.seq fun _ k2 => .region (st (.fieldAddr (.t rfl) fld36_1 ty34) rfl (st (.load1 (.t rfl) (i := 1) rfl ty34 rfl) rfl (st (.fieldAddr (.t rfl) fld36_0 ty4) rfl (st (.load1 (.t rfl) (i := 1) rfl ty4 rfl) rfl (st (.call (zint_From (by omega)) (.cons (.t rfl) (.cons (.t rfl) .nil))) rfl (st (.call (zint_Of) (.cons (.cI 1 rfl) .nil)) rfl (st (.build [isB false, SlM isU [], isB false, SlM isU []] pl75 zero75 (fun _ _ => ⟨rfl, nilM _ _, rfl, nilM _ _, trivial⟩) (.cons (.t rfl) rfl rfl rfl (.cons (.t rfl) rfl rfl rfl .nil)) (Z'' := [_, _, _, _]) rfl) rfl (.store (.t rfl) (.t rfl) (i := 0) rfl ty75 rfl rfl (Ss' := [_, _, _, _]) rfl (M' := [(some _, cellM [_, _, _, _]), _]) rfl (nl (.thn (k2 _ _ (.cv (Cv.wk (.l [2] rfl)) (.ret (rt1 (.inl rfl) Tryz.results82 rfl (.cell rfl (i := 0) rfl ty75 rfl ?_ .nil))))))))))))))))))))
 all_goals (rfl)
theorem rat_Make {m n : Bool} {xs ys : List Nat} (hx : (List.length (words (val xs))) ≤ 4000000000) (hy : (List.length (words (val ys))) ≤ 4000000000) (h0 : zv n ys ≠ 0) : Ctr Tryz.prog 109 [Flat [isB m, isWords xs], Flat [isB n, isWords ys]] (isTup [isQ (Rat.divInt (zv m xs) (zv n ys)), isB true]) := by
 refine Ctr.intro Tryz.func109 rfl (by kernel_rfl) Tryz.ntmps109 rfl fun w0 F0 => .cv (Cv.wk (.l [0, 1] rfl)) (.fact (Has.okZ (Has.t (t := 0) rfl)) fun okz0 => .fact (Has.okZ (Has.t (t := 1) rfl)) fun okz1 => ?_)
 have ha := zv_nw m xs
 have hb := zv_nw n ys
 obtain ⟨q, hqd⟩ : ∃ q, q = (Rat.divInt (zv m xs) (zv n ys)) := ⟨_, rfl⟩
 rw [← hqd]
 refine .seq fun _ k1 => .region (.box (.t rfl) rfl fun b1 => .box (.t rfl) rfl fun b2 => .alloc [isB false, SlM isU [], isB false, SlM isU []] zero75 (fun _ _ => ⟨rfl, nilM _ _, rfl, nilM _ _, trivial⟩) rfl fun b3 => st (.as (.cB false)) rfl (nl (.thn (k1 _ _ (.seq fun _ k2 => .seq fun _ k3 => .region (st (.load (.t rfl) (i := 1) rfl ty36 rfl (Ss' := [_, _]) rfl) rfl (st (.call (zint_Sign (by omega)) (.cons (.t rfl) .nil)) rfl (st (.eqI (.t rfl) (.cI 0 rfl)) rfl (nl (.thn (k3 _ _ (.cond (.t rfl) (fun hc1 => ?_) (fun hc1 => ?_)))))))))))))
 ·have hc1 := BP.t hc1
  exact absurd ((sgn_eq0 _).1 hc1) h0
 ·have hc1 := BP.f hc1
  skip
  refine .skip (.thn (k2 _ _ (.cv (Cv.wk (.l [2, 3, 4, 5] rfl)) (.seq fun _ k4 => .seq fun _ k5 => .region (st (.load (.t rfl) (i := 1) rfl ty36 rfl (Ss' := [_, _]) rfl) rfl (st (.call (zint_Sign (by omega)) (.cons (.t rfl) .nil)) rfl (st (.ltI (.t rfl) (.cI 0 rfl)) rfl (nl (.thn (k5 _ _ (.cond (.t rfl) (fun hc2 => ?_) (fun hc2 => ?_))))))))))))
  ·have hc2 := BP.t hc2
   have hc2' := (sgn_lt _).1 hc2
   obtain ⟨N, hN⟩ : ∃ N, N = -(zv m xs) := ⟨_, rfl⟩
   obtain ⟨D, hD⟩ : ∃ D, D = -(zv n ys) := ⟨_, rfl⟩
   have hZ1 : zv m xs = -N := by omega
   have hZ2 : zv n ys = -D := by omega
   have hD0 : 0 < D := by omega
   have hR1 : val xs = N.natAbs := by have := zv_abs m xs; omega
   have hR2 : val ys = D.natAbs := by have := zv_abs n ys; omega
   have hNw : (List.length (words N.natAbs)) ≤ 4000000000 := by rw [← hR1]; exact hx
   have hDw : (List.length (words D.natAbs)) ≤ 4000000000 := by rw [← hR2]; exact hy
   obtain ⟨hq1, hq2, hq3, hq4⟩ := mk_num (N := N) hD0 (q := q) (hqd.trans (by rw [hZ1, hZ2]; try exact Rat.neg_divInt_neg _ _))
   have hgw : (List.length (words (Nat.gcd N.natAbs D.natAbs))) ≤ 4000000000 := Nat.le_trans (nw_mono (Nat.le_of_dvd (by omega) (Nat.gcd_dvd_right _ _))) hDw
   obtain ⟨g, hg⟩ : ∃ g : Int, g = ((Nat.gcd N.natAbs D.natAbs : Nat) : Int) := ⟨_, rfl⟩
   have hgw2 : (List.length (words g.natAbs)) ≤ 4000000000 := by rw [hg, Int.natAbs_natCast]; exact hgw
   rw [← hg] at hq1 hq2 hq3 hq4
   refine .dr (.s [] rfl rfl rfl (.o rfl (.load (.t rfl) (i := 2) rfl ty36 rfl (Ss' := [_, _]) rfl)) (.s [14] rfl rfl rfl (.o rfl (.call (zint_Neg (by omega)) (.cons (.t rfl) .nil))) (.s [] rfl rfl rfl (.o rfl (.load (.t rfl) (i := 1) rfl ty36 rfl (Ss' := [_, _]) rfl)) (.fin (n := 3) mixed (by kernel_rfl) (by kernel_rfl) (by kernel_rfl) (.cv (Cv.wk (.l [2, 3, 4, 5, 15, 16] rfl)) (st (.call (zint_Neg (by omega)) (.cons (.t rfl) .nil)) rfl (.store (.t rfl) (.t rfl) (i := 2) rfl ty36 rfl rfl (Ss' := [_, _]) rfl (M' := [_, _, (some _, cellM [_, _])]) rfl (.store (.t rfl) (.t rfl) (i := 1) rfl ty36 rfl rfl (Ss' := [_, _]) rfl (M' := [_, (some _, cellM [_, _]), _]) rfl (nl (.thn (k4 _ _ (.seq fun _ k6 => .region (st (.load (.t rfl) (i := 2) rfl ty36 rfl (Ss' := [_, _]) rfl) rfl (st (.load (.t rfl) (i := 1) rfl ty36 rfl (Ss' := [_, _]) rfl) rfl (st (.eq (.call (zint_Gcd (by simp only [val_words, zv_nf, hZ1, hZ2, hR1, hR2, Int.neg_neg]; omega) (by simp only [val_words, zv_nf, hZ1, hZ2, hR1, hR2, Int.neg_neg]; omega)) (.cons (.t rfl) (.cons (.t rfl) .nil))) ((show isZ _ = isZ g from isZ_eq (by rw [hg]; simp only [val_words, zv_nf, hZ1, hZ2, hR1, hR2, Int.neg_neg])))) rfl ?_)))))))))))))))
   refine .alloc [isB false, SlM isU []] zero36 (fun _ _ => ⟨rfl, nilM _ _, trivial⟩) rfl fun b4 => .store (.t rfl) (.t rfl) (i := 0) rfl ty36 rfl rfl (Ss' := [_, _]) rfl (M' := [(some _, cellM [_, _]), _, _, _]) rfl (nl (.thn (k6 _ _ (.cv (Cv.wk (.l [2, 3, 4, 5, 6] rfl)) (.seq fun _ k7 => .region (st (.load (.t rfl) (i := 3) rfl ty36 rfl (Ss' := [_, _]) rfl) rfl ?_))))))
   refine st (.load (.t rfl) (i := 0) rfl ty36 rfl (Ss' := [_, _]) rfl) rfl (st (.eq (.call (zint_Exact (by simp only [val_words, zv_nf, hZ1, hZ2, hR1, hR2, Int.neg_neg]; omega) (by simp only [val_words, zv_nf, hZ1, hZ2, hR1, hR2, Int.neg_neg]; omega)) (.cons (.t rfl) (.cons (.t rfl) .nil))) ((show isTup [isZ _, isB _] = isTup [isZ (q.num), isB true] from by simp only [val_words, zv_nf, hZ1, hZ2, hR1, hR2, Int.neg_neg]; rw [if_pos hq1, decide_eq_true hq1, hq2]))) rfl ?_)
   refine st (.mv (.t rfl)) rfl (st (.ext (.t rfl) rfl) rfl (st (.ext (.t rfl) rfl) rfl (.store (.t rfl) (.t rfl) (i := 3) rfl ty36 rfl rfl (Ss' := [_, _]) rfl (M' := [_, _, _, (some _, cellM [_, _])]) rfl (nl (.thn (k7 _ _ (.cv (Cv.wk (.l [2, 3, 4, 5, 6] rfl)) (.seq fun _ k8 => .region (st (.load (.t rfl) (i := 2) rfl ty36 rfl (Ss' := [_, _]) rfl) rfl ?_)))))))))
   refine st (.load (.t rfl) (i := 0) rfl ty36 rfl (Ss' := [_, _]) rfl) rfl (st (.eq (.call (zint_Exact (by simp only [val_words, zv_nf, hZ1, hZ2, hR1, hR2, Int.neg_neg]; omega) (by simp only [val_words, zv_nf, hZ1, hZ2, hR1, hR2, Int.neg_neg]; omega)) (.cons (.t rfl) (.cons (.t rfl) .nil))) ((show isTup [isZ _, isB _] = isTup [isZ ((q.den : Nat) : Int), isB true] from by simp only [val_words, zv_nf, hZ1, hZ2, hR1, hR2, Int.neg_neg]; rw [if_pos hq3, decide_eq_true hq3, hq4]))) rfl ?_)
   refine st (.mv (.t rfl)) rfl (st (.ext (.t rfl) rfl) rfl (st (.ext (.t rfl) rfl) rfl (.store (.t rfl) (.t rfl) (i := 2) rfl ty36 rfl rfl (Ss' := [_, _]) rfl (M' := [_, _, (some _, cellM [_, _]), _]) rfl (nl (.thn (k8 _ _ (.cv (Cv.wk (.l [2, 3, 4, 5] rfl)) (.seq fun _ k9 => .region (st (.load (.t rfl) (i := 3) rfl ty36 rfl (Ss' := [_, _]) rfl) rfl (st (.load (.t rfl) (i := 2) rfl ty36 rfl (Ss' := [_, _]) rfl) rfl (st (.build [isB false, SlM isU [], isB false, SlM isU []] pl75 zero75 (fun _ _ => ⟨rfl, nilM _ _, rfl, nilM _ _, trivial⟩) (.cons (.t rfl) rfl rfl rfl (.cons (.t rfl) rfl rfl rfl .nil)) (Z'' := [_, _, _, _]) rfl) rfl (.store (.t rfl) (.t rfl) (i := 1) rfl ty75 rfl rfl (Ss' := [_, _, _, _]) rfl (M' := [_, (some _, cellM [_, _, _, _]), _, _]) rfl (st (.as (.cB true)) rfl (nl (.thn (k9 _ _ (.cv (Cv.wk (.l [4, 5] rfl)) (.ret (rtN (.inl rfl) Tryz.results109 rfl rfl (.cell rfl (i := 1) rfl ty75 rfl ?_ (.tmp (Has.t' rfl ?_) .nil)))))))))))))))))))))
   ·rfl
   ·rfl
  ·have hc2 := BP.f hc2
   have hc2' : 0 ≤ zv n ys := by rcases sgn_cases (zv n ys) with h | h | h <;> omega
   obtain ⟨N, hN⟩ : ∃ N, N = zv m xs := ⟨_, rfl⟩
   obtain ⟨D, hD⟩ : ∃ D, D = zv n ys := ⟨_, rfl⟩
   have hZ1 : zv m xs = N := by omega
   have hZ2 : zv n ys = D := by omega
   have hD0 : 0 < D := by omega
   have hR1 : val xs = N.natAbs := by have := zv_abs m xs; omega
   have hR2 : val ys = D.natAbs := by have := zv_abs n ys; omega
   have hNw : (List.length (words N.natAbs)) ≤ 4000000000 := by rw [← hR1]; exact hx
   have hDw : (List.length (words D.natAbs)) ≤ 4000000000 := by rw [← hR2]; exact hy
   obtain ⟨hq1, hq2, hq3, hq4⟩ := mk_num (N := N) hD0 (q := q) (hqd.trans (by rw [hZ1, hZ2]; try exact Rat.neg_divInt_neg _ _))
   have hgw : (List.length (words (Nat.gcd N.natAbs D.natAbs))) ≤ 4000000000 := Nat.le_trans (nw_mono (Nat.le_of_dvd (by omega) (Nat.gcd_dvd_right _ _))) hDw
   obtain ⟨g, hg⟩ : ∃ g : Int, g = ((Nat.gcd N.natAbs D.natAbs : Nat) : Int) := ⟨_, rfl⟩
   have hgw2 : (List.length (words g.natAbs)) ≤ 4000000000 := by rw [hg, Int.natAbs_natCast]; exact hgw
   rw [← hg] at hq1 hq2 hq3 hq4
   refine .skip (.thn (k4 _ _ (.seq fun _ k10 => .region (st (.load (.t rfl) (i := 2) rfl ty36 rfl (Ss' := [_, _]) rfl) rfl (st (.load (.t rfl) (i := 1) rfl ty36 rfl (Ss' := [_, _]) rfl) rfl (st (.eq (.call (zint_Gcd (by omega) (by omega)) (.cons (.t rfl) (.cons (.t rfl) .nil))) ((show isZ _ = isZ g from isZ_eq (by rw [hg]; simp only [val_words, zv_nf, hZ1, hZ2, hR1, hR2, Int.neg_neg])))) rfl ?_))))))
   refine .alloc [isB false, SlM isU []] zero36 (fun _ _ => ⟨rfl, nilM _ _, trivial⟩) rfl fun b5 => .store (.t rfl) (.t rfl) (i := 0) rfl ty36 rfl rfl (Ss' := [_, _]) rfl (M' := [(some _, cellM [_, _]), _, _, _]) rfl (nl (.thn (k10 _ _ (.cv (Cv.wk (.l [2, 3, 4, 5, 6] rfl)) (.seq fun _ k11 => .region (st (.load (.t rfl) (i := 3) rfl ty36 rfl (Ss' := [_, _]) rfl) rfl ?_))))))
   refine st (.load (.t rfl) (i := 0) rfl ty36 rfl (Ss' := [_, _]) rfl) rfl (st (.eq (.call (zint_Exact (by omega) (by simp only [val_words, zv_nf, hZ1, hZ2, hR1, hR2, Int.neg_neg]; omega)) (.cons (.t rfl) (.cons (.t rfl) .nil))) ((show isTup [isZ _, isB _] = isTup [isZ (q.num), isB true] from by simp only [val_words, zv_nf, hZ1, hZ2, hR1, hR2, Int.neg_neg]; rw [if_pos hq1, decide_eq_true hq1, hq2]))) rfl ?_)
   refine st (.mv (.t rfl)) rfl (st (.ext (.t rfl) rfl) rfl (st (.ext (.t rfl) rfl) rfl (.store (.t rfl) (.t rfl) (i := 3) rfl ty36 rfl rfl (Ss' := [_, _]) rfl (M' := [_, _, _, (some _, cellM [_, _])]) rfl (nl (.thn (k11 _ _ (.cv (Cv.wk (.l [2, 3, 4, 5, 6] rfl)) (.seq fun _ k12 => .region (st (.load (.t rfl) (i := 2) rfl ty36 rfl (Ss' := [_, _]) rfl) rfl ?_)))))))))
   refine st (.load (.t rfl) (i := 0) rfl ty36 rfl (Ss' := [_, _]) rfl) rfl (st (.eq (.call (zint_Exact (by omega) (by simp only [val_words, zv_nf, hZ1, hZ2, hR1, hR2, Int.neg_neg]; omega)) (.cons (.t rfl) (.cons (.t rfl) .nil))) ((show isTup [isZ _, isB _] = isTup [isZ ((q.den : Nat) : Int), isB true] from by simp only [val_words, zv_nf, hZ1, hZ2, hR1, hR2, Int.neg_neg]; rw [if_pos hq3, decide_eq_true hq3, hq4]))) rfl ?_)
   refine st (.mv (.t rfl)) rfl (st (.ext (.t rfl) rfl) rfl (st (.ext (.t rfl) rfl) rfl (.store (.t rfl) (.t rfl) (i := 2) rfl ty36 rfl rfl (Ss' := [_, _]) rfl (M' := [_, _, (some _, cellM [_, _]), _]) rfl (nl (.thn (k12 _ _ (.cv (Cv.wk (.l [2, 3, 4, 5] rfl)) (.seq fun _ k13 => .region (st (.load (.t rfl) (i := 3) rfl ty36 rfl (Ss' := [_, _]) rfl) rfl (st (.load (.t rfl) (i := 2) rfl ty36 rfl (Ss' := [_, _]) rfl) rfl (st (.build [isB false, SlM isU [], isB false, SlM isU []] pl75 zero75 (fun _ _ => ⟨rfl, nilM _ _, rfl, nilM _ _, trivial⟩) (.cons (.t rfl) rfl rfl rfl (.cons (.t rfl) rfl rfl rfl .nil)) (Z'' := [_, _, _, _]) rfl) rfl (.store (.t rfl) (.t rfl) (i := 1) rfl ty75 rfl rfl (Ss' := [_, _, _, _]) rfl (M' := [_, (some _, cellM [_, _, _, _]), _, _]) rfl (st (.as (.cB true)) rfl (nl (.thn (k13 _ _ (.cv (Cv.wk (.l [4, 5] rfl)) (.ret (rtN (.inl rfl) Tryz.results109 rfl rfl (.cell rfl (i := 1) rfl ty75 rfl ?_ (.tmp (Has.t' rfl ?_) .nil)))))))))))))))))))))
   ·rfl
   ·rfl
theorem rat_norm {m n : Bool} {xs ys : List Nat} (hx : (List.length (words (val xs))) ≤ 4000000000) (hy : (List.length (words (val ys))) ≤ 4000000000) (h0 : zv n ys ≠ 0) : Ctr Tryz.prog 83 [Flat [isB m, isWords xs, isB n, isWords ys]] (isQ (Rat.divInt (zv m xs) (zv n ys))) := by
 refine Ctr.intro Tryz.func83 rfl (by kernel_rfl) Tryz.ntmps83 rfl fun w0 F0 => .cv (Cv.wk (.l [0] rfl)) (.seq fun _ k1 => .region (.box (.t rfl) rfl fun b1 => .alloc [isB false, SlM isU [], isB false, SlM isU []] zero75 (fun _ _ => ⟨rfl, nilM _ _, rfl, nilM _ _, trivial⟩) rfl fun b2 => nl (.thn (k1 _ _ (.seq fun _ k2 => .region (st (.fieldAddr (.t rfl) fld75_0 ty36) rfl (st (.load (.t rfl) (i := 1) rfl ty36 rfl (Ss' := [_, _]) rfl) rfl (st (.fieldAddr (.t rfl) fld75_1 ty36) rfl (st (.load (.t rfl) (i := 1) rfl ty36 rfl (Ss' := [_, _]) rfl) rfl (st (.call (rat_Make (m := m) (n := n) (xs := xs) (ys := ys) hx hy h0) (.cons (.t rfl) (.cons (.t rfl) .nil))) rfl (st (.mv (.t rfl)) rfl (st (.ext (.t rfl) rfl) rfl (st (.ext (.t rfl) rfl) rfl (.alloc [isB false, SlM isU [], isB false, SlM isU []] zero75 (fun _ _ => ⟨rfl, nilM _ _, rfl, nilM _ _, trivial⟩) rfl fun b3 => .store (.t rfl) (.t rfl) (i := 0) rfl ty75 rfl rfl (Ss' := [_, _, _, _]) rfl (M' := [(some _, cellM [_, _, _, _]), _, _]) rfl (st (.as (.t rfl)) rfl (nl (.thn (k2 _ _ (.cv (Cv.wk (.l [2, 3] rfl)) (.seq fun _ k3 => .region (st (.load (.t rfl) (i := 0) rfl ty75 rfl (Ss' := [_, _, _, _]) rfl) rfl (.store (.t rfl) (.t rfl) (i := 1) rfl ty75 rfl rfl (Ss' := [_, _, _, _]) rfl (M' := [_, (some _, cellM [_, _, _, _]), _]) rfl (nl (.thn (k3 _ _ (.ret (rt1 (.inl rfl) Tryz.results83 rfl (.cell rfl (i := 1) rfl ty75 rfl ?_ .nil))))))))))))))))))))))))))))
 all_goals (rfl)
theorem rat_normQ {q : Rat} (hq : qs q ≤ 4000000000) : Ctr Tryz.prog 83 [isQ q] (isQ q) := by
 have h := rat_norm (m := decide (q.num < 0)) (n := decide ((q.den : Int) < 0)) (xs := words q.num.natAbs) (ys := words ((q.den : Int)).natAbs) (by rw [val_words]; exact qs_num hq) (by rw [val_words]; exact qs_dn hq) (by rw [zv_nf]; exact den_ne q)
 rw [zv_nf, zv_nf, Rat.num_divInt_den] at h
 exact h
theorem rat_normR {x y : Int} (hx : (List.length (words x.natAbs)) ≤ 4000000000) (hy : (List.length (words y.natAbs)) ≤ 4000000000) (h0 : y ≠ 0) : Ctr Tryz.prog 83 [Flat [isB (decide (x < 0)), SlM isU (words x.natAbs), isB (decide (y < 0)), SlM isU (words y.natAbs)]] (isQ (Rat.divInt x y)) := by
 have h := rat_norm (m := decide (x < 0)) (n := decide (y < 0)) (xs := words x.natAbs) (ys := words y.natAbs) (by rw [val_words]; exact hx) (by rw [val_words]; exact hy) (by rw [zv_nf]; exact h0)
 rw [zv_nf, zv_nf] at h
 exact h
theorem rat_MakeZ {x y : Int} (hx : (List.length (words x.natAbs)) ≤ 4000000000) (hy : (List.length (words y.natAbs)) ≤ 4000000000) (h0 : y ≠ 0) : Ctr Tryz.prog 109 [isZ x, isZ y] (isTup [isQ (Rat.divInt x y), isB true]) := by
 have h := rat_Make (m := decide (x < 0)) (n := decide (y < 0)) (xs := words x.natAbs) (ys := words y.natAbs) (by rw [val_words]; exact hx) (by rw [val_words]; exact hy) (by rw [zv_nf]; exact h0)
 rw [zv_nf, zv_nf] at h
 exact h
theorem rat_Add {p q : Rat} {A B : Nat} (hp : qs p ≤ A) (hq : qs q ≤ B) (hAB : A + B ≤ 1000000000) : Ctr Tryz.prog 108 [isQ p, isQ q] (isQ (p + q)) := by
 refine Ctr.intro Tryz.func108 rfl (by kernel_rfl) Tryz.ntmps108 rfl fun w0 F0 => .cv (Cv.wk (.l [0, 1] rfl)) ?_
 have g1 := qs_num hp
 have g2 := qs_dn hp
 have g3 := qs_num hq
 have g4 := qs_dn hq
 have m1 := nz_mul p.num q.den
 have m2 := nz_mul q.num p.den
 have m3 := nz_mul p.den q.den
 have m4 := nz_add (p.num * q.den) (q.num * p.den)
 refine .seq fun _ k1 => .region (.box (.t rfl) rfl fun b1 => .box (.t rfl) rfl fun b2 => .alloc [isB false, SlM isU [], isB false, SlM isU []] zero75 (fun _ _ => ⟨rfl, nilM _ _, rfl, nilM _ _, trivial⟩) rfl fun b3 => nl (.thn (k1 _ _ (.seq fun _ k2 => .dr (.s [] rfl rfl rfl (.o rfl (.load (.t rfl) (i := 2) rfl ty75 rfl (Ss' := [_, _, _, _]) rfl)) (.s [5] rfl rfl rfl (.o rfl (.call (rat_normQ (q := p) (by omega)) (.cons (.t rfl) .nil))) (.s [] rfl rfl rfl (.o rfl (.load (.t rfl) (i := 1) rfl ty75 rfl (Ss' := [_, _, _, _]) rfl)) (.fin (n := 3) mixed (by kernel_rfl) (by kernel_rfl) (by kernel_rfl) (.cv (Cv.wk (.l [2, 3, 4, 6, 7] rfl)) (st (.call (rat_normQ (q := q) (by omega)) (.cons (.t rfl) .nil)) rfl (.store (.t rfl) (.t rfl) (i := 2) rfl ty75 rfl rfl (Ss' := [_, _, _, _]) rfl (M' := [_, _, (some _, cellM [_, _, _, _])]) rfl (.store (.t rfl) (.t rfl) (i := 1) rfl ty75 rfl rfl (Ss' := [_, _, _, _]) rfl (M' := [_, (some _, cellM [_, _, _, _]), _]) rfl (nl (.thn (k2 _ _ (.seq fun _ k3 => .dr (.s [] rfl rfl rfl (.o rfl (.fieldAddr (.t rfl) fld75_0 ty36)) (.s [9] rfl rfl rfl (.o rfl (.load (.t rfl) (i := 2) rfl ty36 rfl (Ss' := [_, _]) rfl)) (.s [] rfl rfl rfl (.o rfl (.fieldAddr (.t rfl) fld75_1 ty36)) (.s [11] rfl rfl rfl (.o rfl (.load (.t rfl) (i := 1) rfl ty36 rfl (Ss' := [_, _]) rfl)) (.s [10, 12] rfl rfl rfl (.o rfl (.eq (.call (zint_Mul (by rw [val_words]; omega) (by rw [val_words]; omega)) (.cons (.t rfl) (.cons (.t rfl) .nil))) ((show isZ _ = isZ (p.num * q.den) from isZ_eq (by simp only [zv_nf]))))) ?_)))))))))))))))))))))
 refine .s [] rfl rfl rfl (.o rfl (.fieldAddr (.t rfl) fld75_0 ty36)) (.s [14] rfl rfl rfl (.o rfl (.load (.t rfl) (i := 1) rfl ty36 rfl (Ss' := [_, _]) rfl)) (.s [] rfl rfl rfl (.o rfl (.fieldAddr (.t rfl) fld75_1 ty36)) (.s [16] rfl rfl rfl (.o rfl (.load (.t rfl) (i := 2) rfl ty36 rfl (Ss' := [_, _]) rfl)) (.s [15, 17] rfl rfl rfl (.o rfl (.eq (.call (zint_Mul (by rw [val_words]; omega) (by rw [val_words]; omega)) (.cons (.t rfl) (.cons (.t rfl) .nil))) ((show isZ _ = isZ (q.num * p.den) from isZ_eq (by simp only [zv_nf]))))) ?_))))
 refine .s [13, 18] rfl rfl rfl (.o rfl (.eq (.call (zint_Add (by rw [val_words]; omega) (by rw [val_words]; omega)) (.cons (.t rfl) (.cons (.t rfl) .nil))) ((show isZ _ = isZ (p.num * q.den + q.num * p.den) from isZ_eq (by simp only [zv_nf]))))) ?_
 refine .s [] rfl rfl rfl (.o rfl (.fieldAddr (.t rfl) fld75_1 ty36)) (.s [20] rfl rfl rfl (.o rfl (.load (.t rfl) (i := 2) rfl ty36 rfl (Ss' := [_, _]) rfl)) (.s [] rfl rfl rfl (.o rfl (.fieldAddr (.t rfl) fld75_1 ty36)) (.s [22] rfl rfl rfl (.o rfl (.load (.t rfl) (i := 1) rfl ty36 rfl (Ss' := [_, _]) rfl)) (.fin (n := 15) mixed (by kernel_rfl) (by kernel_rfl) (by kernel_rfl) (.cv (Cv.wk (.l [4, 19, 21, 23] rfl)) (st (.eq (.call (zint_Mul (by rw [val_words]; omega) (by rw [val_words]; omega)) (.cons (.t rfl) (.cons (.t rfl) .nil))) ((show isZ _ = isZ (p.den * q.den) from isZ_eq (by simp only [zv_nf])))) rfl ?_))))))
 refine st (.build [isB false, SlM isU [], isB false, SlM isU []] pl75 zero75 (fun _ _ => ⟨rfl, nilM _ _, rfl, nilM _ _, trivial⟩) (.cons (.t rfl) rfl rfl rfl (.cons (.t rfl) rfl rfl rfl .nil)) (Z'' := [_, _, _, _]) rfl) rfl (st (.eq (.call (rat_normR (x := p.num * q.den + q.num * p.den) (y := p.den * q.den) (by omega) (by omega) (Int.mul_ne_zero (den_ne p) (den_ne q))) (.cons (.t rfl) .nil)) ((isQ_eq (add_divInt p q)))) rfl (.store (.t rfl) (.t rfl) (i := 0) rfl ty75 rfl rfl (Ss' := [_, _, _, _]) rfl (M' := [(some _, cellM [_, _, _, _]), _, _]) rfl (nl (.thn (k3 _ _ (.cv (Cv.wk (.l [4] rfl)) (.ret (rt1 (.inl rfl) Tryz.results108 rfl (.cell rfl (i := 0) rfl ty75 rfl ?_ .nil)))))))))
 all_goals (rfl)
theorem rat_Mul {p q : Rat} {A B : Nat} (hp : qs p ≤ A) (hq : qs q ≤ B) (hAB : A + B ≤ 1000000000) : Ctr Tryz.prog 129 [isQ p, isQ q] (isQ (p * q)) := by
 refine Ctr.intro Tryz.func129 rfl (by kernel_rfl) Tryz.ntmps129 rfl fun w0 F0 => .cv (Cv.wk (.l [0, 1] rfl)) ?_
 have g1 := qs_num hp
 have g2 := qs_dn hp
 have g3 := qs_num hq
 have g4 := qs_dn hq
 have m1 := nz_mul p.num q.num
 have m3 := nz_mul p.den q.den
 refine .seq fun _ k1 => .region (.box (.t rfl) rfl fun b1 => .box (.t rfl) rfl fun b2 => .alloc [isB false, SlM isU [], isB false, SlM isU []] zero75 (fun _ _ => ⟨rfl, nilM _ _, rfl, nilM _ _, trivial⟩) rfl fun b3 => nl (.thn (k1 _ _ (.seq fun _ k2 => .dr (.s [] rfl rfl rfl (.o rfl (.load (.t rfl) (i := 2) rfl ty75 rfl (Ss' := [_, _, _, _]) rfl)) (.s [5] rfl rfl rfl (.o rfl (.call (rat_normQ (q := p) (by omega)) (.cons (.t rfl) .nil))) (.s [] rfl rfl rfl (.o rfl (.load (.t rfl) (i := 1) rfl ty75 rfl (Ss' := [_, _, _, _]) rfl)) (.fin (n := 3) mixed (by kernel_rfl) (by kernel_rfl) (by kernel_rfl) (.cv (Cv.wk (.l [2, 3, 4, 6, 7] rfl)) (st (.call (rat_normQ (q := q) (by omega)) (.cons (.t rfl) .nil)) rfl (.store (.t rfl) (.t rfl) (i := 2) rfl ty75 rfl rfl (Ss' := [_, _, _, _]) rfl (M' := [_, _, (some _, cellM [_, _, _, _])]) rfl (.store (.t rfl) (.t rfl) (i := 1) rfl ty75 rfl rfl (Ss' := [_, _, _, _]) rfl (M' := [_, (some _, cellM [_, _, _, _]), _]) rfl (nl (.thn (k2 _ _ (.seq fun _ k3 => .dr (.s [] rfl rfl rfl (.o rfl (.fieldAddr (.t rfl) fld75_0 ty36)) (.s [9] rfl rfl rfl (.o rfl (.load (.t rfl) (i := 2) rfl ty36 rfl (Ss' := [_, _]) rfl)) (.s [] rfl rfl rfl (.o rfl (.fieldAddr (.t rfl) fld75_0 ty36)) (.s [11] rfl rfl rfl (.o rfl (.load (.t rfl) (i := 1) rfl ty36 rfl (Ss' := [_, _]) rfl)) (.s [10, 12] rfl rfl rfl (.o rfl (.eq (.call (zint_Mul (by rw [val_words]; omega) (by rw [val_words]; omega)) (.cons (.t rfl) (.cons (.t rfl) .nil))) ((show isZ _ = isZ (p.num * q.num) from isZ_eq (by simp only [zv_nf]))))) ?_)))))))))))))))))))))
 refine .s [] rfl rfl rfl (.o rfl (.fieldAddr (.t rfl) fld75_1 ty36)) (.s [14] rfl rfl rfl (.o rfl (.load (.t rfl) (i := 2) rfl ty36 rfl (Ss' := [_, _]) rfl)) (.s [] rfl rfl rfl (.o rfl (.fieldAddr (.t rfl) fld75_1 ty36)) (.s [16] rfl rfl rfl (.o rfl (.load (.t rfl) (i := 1) rfl ty36 rfl (Ss' := [_, _]) rfl)) (.fin (n := 9) mixed (by kernel_rfl) (by kernel_rfl) (by kernel_rfl) (.cv (Cv.wk (.l [4, 13, 15, 17] rfl)) (st (.eq (.call (zint_Mul (by rw [val_words]; omega) (by rw [val_words]; omega)) (.cons (.t rfl) (.cons (.t rfl) .nil))) ((show isZ _ = isZ (p.den * q.den) from isZ_eq (by simp only [zv_nf])))) rfl ?_))))))
 refine st (.build [isB false, SlM isU [], isB false, SlM isU []] pl75 zero75 (fun _ _ => ⟨rfl, nilM _ _, rfl, nilM _ _, trivial⟩) (.cons (.t rfl) rfl rfl rfl (.cons (.t rfl) rfl rfl rfl .nil)) (Z'' := [_, _, _, _]) rfl) rfl (st (.eq (.call (rat_normR (x := p.num * q.num) (y := p.den * q.den) (by omega) (by omega) (Int.mul_ne_zero (den_ne p) (den_ne q))) (.cons (.t rfl) .nil)) ((isQ_eq (mul_divInt p q)))) rfl (.store (.t rfl) (.t rfl) (i := 0) rfl ty75 rfl rfl (Ss' := [_, _, _, _]) rfl (M' := [(some _, cellM [_, _, _, _]), _, _]) rfl (nl (.thn (k3 _ _ (.cv (Cv.wk (.l [4] rfl)) (.ret (rt1 (.inl rfl) Tryz.results129 rfl (.cell rfl (i := 0) rfl ty75 rfl ?_ .nil)))))))))
 all_goals (rfl)
theorem rat_Quo {p q : Rat} {A B : Nat} (hp : qs p ≤ A) (hq : qs q ≤ B) (hAB : A + B ≤ 1000000000) (h0 : q ≠ 0) : Ctr Tryz.prog 127 [isQ p, isQ q] (isTup [isQ (p / q), isB true]) := by
 refine Ctr.intro Tryz.func127 rfl (by kernel_rfl) Tryz.ntmps127 rfl fun w0 F0 => .cv (Cv.wk (.l [0, 1] rfl)) ?_
 have g1 := qs_num hp
 have g2 := qs_dn hp
 have g3 := qs_num hq
 have g4 := qs_dn hq
 have m1 := nz_mul p.num q.den
 have m3 := nz_mul p.den q.num
 refine .seq fun _ k1 => .region (.box (.t rfl) rfl fun b1 => .box (.t rfl) rfl fun b2 => .alloc [isB false, SlM isU [], isB false, SlM isU []] zero75 (fun _ _ => ⟨rfl, nilM _ _, rfl, nilM _ _, trivial⟩) rfl fun b3 => st (.as (.cB false)) rfl (nl (.thn (k1 _ _ (.seq fun _ k2 => .dr (.s [] rfl rfl rfl (.o rfl (.load (.t rfl) (i := 2) rfl ty75 rfl (Ss' := [_, _, _, _]) rfl)) (.s [6] rfl rfl rfl (.o rfl (.call (rat_normQ (q := p) (by omega)) (.cons (.t rfl) .nil))) (.s [] rfl rfl rfl (.o rfl (.load (.t rfl) (i := 1) rfl ty75 rfl (Ss' := [_, _, _, _]) rfl)) (.fin (n := 3) mixed (by kernel_rfl) (by kernel_rfl) (by kernel_rfl) (.cv (Cv.wk (.l [2, 3, 4, 5, 7, 8] rfl)) (st (.call (rat_normQ (q := q) (by omega)) (.cons (.t rfl) .nil)) rfl (.store (.t rfl) (.t rfl) (i := 2) rfl ty75 rfl rfl (Ss' := [_, _, _, _]) rfl (M' := [_, _, (some _, cellM [_, _, _, _])]) rfl (.store (.t rfl) (.t rfl) (i := 1) rfl ty75 rfl rfl (Ss' := [_, _, _, _]) rfl (M' := [_, (some _, cellM [_, _, _, _]), _]) rfl (nl (.thn (k2 _ _ (.seq fun _ k3 => .dr (.s [] rfl rfl rfl (.o rfl (.fieldAddr (.t rfl) fld75_0 ty36)) (.s [10] rfl rfl rfl (.o rfl (.load (.t rfl) (i := 2) rfl ty36 rfl (Ss' := [_, _]) rfl)) (.s [] rfl rfl rfl (.o rfl (.fieldAddr (.t rfl) fld75_1 ty36)) (.s [12] rfl rfl rfl (.o rfl (.load (.t rfl) (i := 1) rfl ty36 rfl (Ss' := [_, _]) rfl)) (.s [11, 13] rfl rfl rfl (.o rfl (.eq (.call (zint_Mul (by rw [val_words]; omega) (by rw [val_words]; omega)) (.cons (.t rfl) (.cons (.t rfl) .nil))) ((show isZ _ = isZ (p.num * q.den) from isZ_eq (by simp only [zv_nf]))))) ?_))))))))))))))))))))))
 refine .s [] rfl rfl rfl (.o rfl (.fieldAddr (.t rfl) fld75_1 ty36)) (.s [15] rfl rfl rfl (.o rfl (.load (.t rfl) (i := 2) rfl ty36 rfl (Ss' := [_, _]) rfl)) (.s [] rfl rfl rfl (.o rfl (.fieldAddr (.t rfl) fld75_0 ty36)) (.s [17] rfl rfl rfl (.o rfl (.load (.t rfl) (i := 1) rfl ty36 rfl (Ss' := [_, _]) rfl)) (.s [16, 18] rfl rfl rfl (.o rfl (.eq (.call (zint_Mul (by rw [val_words]; omega) (by rw [val_words]; omega)) (.cons (.t rfl) (.cons (.t rfl) .nil))) ((show isZ _ = isZ (p.den * q.num) from isZ_eq (by simp only [zv_nf]))))) ?_))))
 refine .s [14, 19] rfl rfl rfl (.o rfl (.eq (.call (rat_MakeZ (x := p.num * q.den) (y := p.den * q.num) (by omega) (by omega) (Int.mul_ne_zero (den_ne p) (num_ne h0))) (.cons (.t rfl) (.cons (.t rfl) .nil))) ((show _ = isTup [isQ (p / q), isB true] from by rw [quo_divInt])))) (.s [20] rfl rfl rfl (.o rfl (.ext (.t rfl) rfl)) (.s [20] rfl rfl rfl (.o rfl (.ext (.t rfl) rfl)) (.fin (n := 13) mixed (by kernel_rfl) (by kernel_rfl) (by kernel_rfl) (.cv (Cv.wk (.l [4, 5, 21, 22] rfl)) (.store (.t rfl) (.t rfl) (i := 0) rfl ty75 rfl rfl (Ss' := [_, _, _, _]) rfl (M' := [(some _, cellM [_, _, _, _]), _, _]) rfl (st (.as (.t rfl)) rfl (nl (.thn (k3 _ _ (.ret (rtN (.inl rfl) Tryz.results127 rfl rfl (.cell rfl (i := 0) rfl ty75 rfl ?_ (.tmp (Has.t' rfl ?_) .nil)))))))))))))
 ·rfl
 ·rfl
theorem rat_Neg {q : Rat} {A : Nat} (hq : qs q ≤ A) (hA : A ≤ 1000000000) : Ctr Tryz.prog 147 [isQ q] (isQ (-q)) := by
 refine Ctr.intro Tryz.func147 rfl (by kernel_rfl) Tryz.ntmps147 rfl fun w0 F0 => .cv (Cv.wk (.l [0] rfl)) ?_
 have g3 := qs_num hq
 have g4 := qs_dn hq
 refine .seq fun _ k1 => .region (.box (.t rfl) rfl fun b1 => .alloc [isB false, SlM isU [], isB false, SlM isU []] zero75 (fun _ _ => ⟨rfl, nilM _ _, rfl, nilM _ _, trivial⟩) rfl fun b2 => nl (.thn (k1 _ _ (.seq fun _ k2 => .region (st (.load (.t rfl) (i := 1) rfl ty75 rfl (Ss' := [_, _, _, _]) rfl) rfl (st (.call (rat_normQ (q := q) (by omega)) (.cons (.t rfl) .nil)) rfl (.store (.t rfl) (.t rfl) (i := 1) rfl ty75 rfl rfl (Ss' := [_, _, _, _]) rfl (M' := [_, (some _, cellM [_, _, _, _])]) rfl (nl (.thn (k2 _ _ (.seq fun _ k3 => .dr (.s [] rfl rfl rfl (.o rfl (.fieldAddr (.t rfl) fld75_0 ty36)) (.s [5] rfl rfl rfl (.o rfl (.load (.t rfl) (i := 1) rfl ty36 rfl (Ss' := [_, _]) rfl)) (.s [6] rfl rfl rfl (.o rfl (.eq (.call (zint_Neg (by rw [val_words]; omega)) (.cons (.t rfl) .nil)) ((show isZ _ = isZ (-q.num) from isZ_eq (by simp only [zv_nf]))))) ?_))))))))))))))
 refine .s [] rfl rfl rfl (.o rfl (.fieldAddr (.t rfl) fld75_1 ty36)) (.s [8] rfl rfl rfl (.o rfl (.load (.t rfl) (i := 1) rfl ty36 rfl (Ss' := [_, _]) rfl)) (.fin (n := 5) mixed (by kernel_rfl) (by kernel_rfl) (by kernel_rfl) (.cv (Cv.wk (.l [2, 7, 9] rfl)) (st (.build [isB false, SlM isU [], isB false, SlM isU []] pl75 zero75 (fun _ _ => ⟨rfl, nilM _ _, rfl, nilM _ _, trivial⟩) (.cons (.t rfl) rfl rfl rfl (.cons (.t rfl) rfl rfl rfl .nil)) (Z'' := [_, _, _, _]) rfl) rfl (.store (.t rfl) (.t rfl) (i := 0) rfl ty75 rfl rfl (Ss' := [_, _, _, _]) rfl (M' := [(some _, cellM [_, _, _, _]), _]) rfl (nl (.thn (k3 _ _ (.ret (rt1 (.inl rfl) Tryz.results147 rfl (.cell rfl (i := 0) rfl ty75 rfl ?_ .nil)))))))))))
 all_goals (rfl)
theorem rat_Sub {p q : Rat} {A B : Nat} (hp : qs p ≤ A) (hq : qs q ≤ B) (hAB : A + B ≤ 1000000000) : Ctr Tryz.prog 141 [isQ p, isQ q] (isQ (p - q)) := by
 refine Ctr.intro Tryz.func141 rfl (by kernel_rfl) Tryz.ntmps141 rfl fun w0 F0 => .cv (Cv.wk (.l [0, 1] rfl)) (.seq fun _ k1 => .region (.box (.t rfl) rfl fun b1 => .box (.t rfl) rfl fun b2 => .alloc [isB false, SlM isU [], isB false, SlM isU []] zero75 (fun _ _ => ⟨rfl, nilM _ _, rfl, nilM _ _, trivial⟩) rfl fun b3 => nl (.thn (k1 _ _ (.seq fun _ k2 => .dr (.s [] rfl rfl rfl (.o rfl (.load (.t rfl) (i := 2) rfl ty75 rfl (Ss' := [_, _, _, _]) rfl)) (.s [] rfl rfl rfl (.o rfl (.load (.t rfl) (i := 1) rfl ty75 rfl (Ss' := [_, _, _, _]) rfl)) (.s [6] rfl rfl rfl (.o rfl (.call (rat_Neg hq (by omega)) (.cons (.t rfl) .nil))) (.fin (n := 3) mixed (by kernel_rfl) (by kernel_rfl) (by kernel_rfl) (.cv (Cv.wk (.l [4, 5, 7] rfl)) (st (.eq (.call (rat_Add hp (qs_neg hq) hAB) (.cons (.t rfl) (.cons (.t rfl) .nil))) ((isQ_eq (Rat.sub_eq_add_neg p q).symm))) rfl (.store (.t rfl) (.t rfl) (i := 0) rfl ty75 rfl rfl (Ss' := [_, _, _, _]) rfl (M' := [(some _, cellM [_, _, _, _]), _, _]) rfl (nl (.thn (k2 _ _ (.ret (rt1 (.inl rfl) Tryz.results141 rfl (.cell rfl (i := 0) rfl ty75 rfl ?_ .nil))))))))))))))))))
 all_goals (rfl)
theorem rat_Sign {q : Rat} {A : Nat} (hq : qs q ≤ A) (hA : A ≤ 2000000000) : Ctr Tryz.prog 77 [isQ q] (isI (sgn q.num)) := by
 refine Ctr.intro Tryz.func77 rfl (by kernel_rfl) Tryz.ntmps77 rfl fun w0 F0 => .cv (Cv.wk (.l [0] rfl)) ?_
 have g3 := qs_num hq
 have g4 := qs_dn hq
 have hd := den_pos q
 have hsd : sgn ((q.den : Nat) : Int) = 1 := by rcases sgn_cases ((q.den : Nat) : Int) with h | h | h <;> omega
 have hsr := sgn_range q.num
 refine .seq fun _ k1 => .region (.box (.t rfl) rfl fun b1 => st (.as (.cI 0 rfl)) rfl (nl (.thn (k1 _ _ (.seq fun _ k2 => .dr (.s [] rfl rfl rfl (.o rfl (.fieldAddr (.t rfl) fld75_0 ty36)) (.s [3] rfl rfl rfl (.o rfl (.load (.t rfl) (i := 0) rfl ty36 rfl (Ss' := [_, _]) rfl)) (.s [4] rfl rfl rfl (.o rfl (.eq (.call (zint_Sign (by rw [val_words]; omega)) (.cons (.t rfl) .nil)) ((show isI _ = isI (sgn q.num) from isI_eq (by rw [zv_nf]))))) ?_))))))))
 refine .s [] rfl rfl rfl (.o rfl (.fieldAddr (.t rfl) fld75_1 ty36)) (.s [6] rfl rfl rfl (.o rfl (.load (.t rfl) (i := 0) rfl ty36 rfl (Ss' := [_, _]) rfl)) (.fin (n := 5) mixed (by kernel_rfl) (by kernel_rfl) (by kernel_rfl) (.cv (Cv.wk (.l [2, 5, 7] rfl)) (st (.eq (.call (zint_Sign (by rw [val_words]; omega)) (.cons (.t rfl) .nil)) ((show isI _ = isI 1 from isI_eq (by rw [zv_nf, hsd])))) rfl ?_))))
 refine st (.mulI (.t rfl) (.t rfl) (by omega) (by omega)) rfl (st (.as (.t rfl)) rfl (nl (.thn (k2 _ _ (.ret (rt1 (.inl rfl) Tryz.results77 rfl (.tmp (Has.t' rfl ?_) .nil)))))))
 all_goals (exact isI_eq (Int.mul_one _))
theorem rat_Whole {q : Rat} {A : Nat} (hq : qs q ≤ A) (hA : A ≤ 1000000000) (hd : q.den = 1) : Ctr Tryz.prog 42 [isQ q] (isTup [isZ q.num, isB true]) := by
 refine Ctr.intro Tryz.func42 rfl (by kernel_rfl) Tryz.ntmps42 rfl fun w0 F0 => .cv (Cv.wk (.l [0] rfl)) ?_
 have g3 := qs_num hq
 have g4 := qs_dn hq
 have h1w : (List.length (words (1 : Int).natAbs)) ≤ 1 := nw_small' (by decide)
 refine .seq fun _ k1 => .region (.box (.t rfl) rfl fun b1 => .alloc [isB false, SlM isU []] zero36 (fun _ _ => ⟨rfl, nilM _ _, trivial⟩) rfl fun b2 => st (.as (.cB false)) rfl (nl (.thn (k1 _ _ (.seq fun _ k2 => .region (st (.load (.t rfl) (i := 1) rfl ty75 rfl (Ss' := [_, _, _, _]) rfl) rfl (st (.call (rat_normQ (q := q) (by omega)) (.cons (.t rfl) .nil)) rfl (.store (.t rfl) (.t rfl) (i := 1) rfl ty75 rfl rfl (Ss' := [_, _, _, _]) rfl (M' := [_, (some _, cellM [_, _, _, _])]) rfl (nl (.thn (k2 _ _ (.seq fun _ k3 => .seq fun _ k4 => .dr (.s [] rfl rfl rfl (.o rfl (.fieldAddr (.t rfl) fld75_1 ty36)) (.s [6] rfl rfl rfl (.o rfl (.load (.t rfl) (i := 1) rfl ty36 rfl (Ss' := [_, _]) rfl)) (.s [] rfl rfl rfl (.o rfl (.call (zint_Of) (.cons (.cI 1 rfl) .nil))) (.fin (n := 3) mixed (by kernel_rfl) (by kernel_rfl) (by kernel_rfl) (.cv (Cv.wk (.l [1, 2, 3, 7, 8] rfl)) (st (.eq (.call (zint_Same (by rw [val_words]; omega) (by rw [val_words]; omega)) (.cons (.t rfl) (.cons (.t rfl) .nil))) ((show isB _ = isB true from isB_eq (decide_eq_true (by simp only [zv_nf]; rw [hd]; rfl))))) rfl ?_))))))))))))))))))
 refine st (.not (.t rfl)) rfl (nl (.thn (k4 _ _ (.cond (.t rfl) (fun hc1 => ?_) (fun hc1 => ?_)))))
 ·have hc1 := BP.t hc1
  exfalso; simp at hc1
 ·have hc1 := BP.f hc1
  skip
  refine .skip (.thn (k3 _ _ (.seq fun _ k5 => .region (st (.fieldAddr (.t rfl) fld75_0 ty36) rfl (st (.load (.t rfl) (i := 1) rfl ty36 rfl (Ss' := [_, _]) rfl) rfl (.store (.t rfl) (.t rfl) (i := 0) rfl ty36 rfl rfl (Ss' := [_, _]) rfl (M' := [(some _, cellM [_, _]), _]) rfl (st (.as (.cB true)) rfl (nl (.thn (k5 _ _ (.cv (Cv.wk (.l [2, 3] rfl)) (.ret (rtN (.inl rfl) Tryz.results42 rfl rfl (.cell rfl (i := 0) rfl ty36 rfl ?_ (.tmp (Has.t' rfl ?_) .nil)))))))))))))))
  ·rfl
  ·rfl
end Go.Proofs.YtcfobalbkhgdmaaGreat
namespace Go.Proofs.YtcfobalbkhgdmaaGreat
open Go.En Go.RowKit
set_option maxRecDepth 10000
set_option maxHeartbeats 4000000
open Go.Nt
open Go.Pz
open Go.Mz
open Go.Mu
open Go.Qe
theorem qmat_zero  : Ctr Tryz.prog 81 [] (isQ 0) := by
 refine Ctr.intro Tryz.func81 rfl (by kernel_rfl) Tryz.ntmps81 rfl fun w0 F0 => .cv (Cv.wk .nil) (.seq fun _ k1 => .region (.alloc [isB false, SlM isU [], isB false, SlM isU []] zero75 (fun _ _ => ⟨rfl, nilM _ _, rfl, nilM _ _, trivial⟩) rfl fun b1 => nl (.thn (k1 _ _ (.seq fun _ k2 => .region (st (.build [isB false, SlM isU []] pl36 zero36 (fun _ _ => ⟨rfl, nilM _ _, trivial⟩) .nil (Z'' := [_, _]) rfl) rfl (st (.call (rat_Of (by exact Nat.le_trans (Nat.le_of_eq (congrArg _ words_zero)) (by decide))) (.cons (.t rfl) .nil)) rfl (.store (.t rfl) (.t rfl) (i := 0) rfl ty75 rfl rfl (Ss' := [_, _, _, _]) rfl (M' := [(some _, cellM [_, _, _, _])]) rfl (nl (.thn (k2 _ _ (.ret (rt1 (.inl rfl) Tryz.results81 rfl (.cell rfl (i := 0) rfl ty75 rfl ?_ .nil))))))))))))))
 all_goals (exact isQ_eq (by rfl))
theorem qmat_one  : Ctr Tryz.prog 128 [] (isQ 1) := by
 refine Ctr.intro Tryz.func128 rfl (by kernel_rfl) Tryz.ntmps128 rfl fun w0 F0 => .cv (Cv.wk .nil) (.seq fun _ k1 => .region (.alloc [isB false, SlM isU [], isB false, SlM isU []] zero75 (fun _ _ => ⟨rfl, nilM _ _, rfl, nilM _ _, trivial⟩) rfl fun b1 => nl (.thn (k1 _ _ (.seq fun _ k2 => .region (st (.call (zint_Of) (.cons (.cI 1 rfl) .nil)) rfl (st (.call (rat_Of (by rw [val_words]; exact Nat.le_trans (nw_small' (by decide)) (by decide))) (.cons (.t rfl) .nil)) rfl ?_)))))))
 refine .store (.t rfl) (.t rfl) (i := 0) rfl ty75 rfl rfl (Ss' := [_, _, _, _]) rfl (M' := [(some _, cellM [_, _, _, _])]) rfl (nl (.thn (k2 _ _ (.ret (rt1 (.inl rfl) Tryz.results128 rfl (.cell rfl (i := 0) rfl ty75 rfl ?_ .nil))))))
 all_goals (exact isQ_eq (by rw [zv_nf]; rfl))
theorem qmat_Formed {r c : Int} {L : List Rat} : Ctr Tryz.prog 73 [isMQ r c L] (isB (formB r c (L.map nq).length)) := by
 refine Ctr.intro Tryz.func73 rfl (by kernel_rfl) Tryz.ntmps73 rfl fun w0 F0 => .cv (Cv.wk (.l [0] rfl)) (.seq fun _ k1 => .region (.box (.t rfl) rfl fun b1 => st (.as (.cB false)) rfl (nl (.thn (k1 _ _ (.seq fun _ k2 => .region (st (.fieldAddr (.t rfl) fld70_0 ty3) rfl (st (.load1 (.t rfl) (i := 0) rfl ty3 rfl) rfl (st (.geI (.t rfl) (.cI 0 rfl)) rfl (st (.mv (.t rfl)) rfl (stT rfl rfl (fun hg => .fieldAddr (.t rfl) fld70_0 ty3) rfl (stT rfl rfl (fun hg => .load1 (Has.g rfl hg) (i := 0) rfl ty3 rfl) rfl (stT rfl rfl (fun hg => .leI (Has.g rfl hg) (.cI 64 rfl)) rfl (st (.pickAnd (.t rfl) (fun h => Has.g rfl h)) rfl (st (.mv (.t rfl)) rfl (stT rfl rfl (fun hg => .fieldAddr (.t rfl) fld70_1 ty3) rfl (stT rfl rfl (fun hg => .load1 (Has.g rfl hg) (i := 0) rfl ty3 rfl) rfl (stT rfl rfl (fun hg => .geI (Has.g rfl hg) (.cI 0 rfl)) rfl (st (.pickAnd (.t rfl) (fun h => Has.g rfl h)) rfl (st (.mv (.t rfl)) rfl (stT rfl rfl (fun hg => .fieldAddr (.t rfl) fld70_1 ty3) rfl (stT rfl rfl (fun hg => .load1 (Has.g rfl hg) (i := 0) rfl ty3 rfl) rfl (stT rfl rfl (fun hg => .leI (Has.g rfl hg) (.cI 64 rfl)) rfl (st (.pickAnd (.t rfl) (fun h => Has.g rfl h)) rfl (st (.mv (.t rfl)) rfl (stT rfl rfl (fun hg => .fieldAddr (.t rfl) fld70_2 ty68) rfl (stT rfl rfl (fun hg => .load1 (Has.g rfl hg) (i := 0) rfl ty68 rfl) rfl ?_)))))))))))))))))))))))))))
 refine stT rfl rfl (fun hg => .len sl68 (Has.g rfl hg)) rfl (stT rfl rfl (fun hg => .fieldAddr (.t rfl) fld70_0 ty3) rfl (stT rfl rfl (fun hg => .load1 (Has.g rfl hg) (i := 0) rfl ty3 rfl) rfl (stT rfl rfl (fun hg => .fieldAddr (.t rfl) fld70_1 ty3) rfl (stT rfl rfl (fun hg => .load1 (Has.g rfl hg) (i := 0) rfl ty3 rfl) rfl ?_))))
 refine stT rfl rfl (fun hg => have hg' := BP.t hg; OK1.mulI (Has.g rfl hg) (Has.g rfl hg) (by have := mul_bnd (r := r) (c := c) ⟨hg'.1.1, hg'.1.2, hg'.2⟩; omega) (by have := mul_bnd (r := r) (c := c) ⟨hg'.1.1, hg'.1.2, hg'.2⟩; omega)) rfl ?_
 refine stT rfl rfl (fun hg => .eqI (Has.g rfl hg) (Has.g rfl hg)) rfl (st (.pickAnd (.t rfl) (fun h => Has.g rfl h)) rfl (st (.as (.t rfl)) rfl (nl (.thn (k2 _ _ (.cv (Cv.wk (.l [2] rfl)) (.ret (rt1 (.inl rfl) Tryz.results73 rfl (.tmp (Has.t' rfl ?_) .nil)))))))))
 all_goals (exact isB_eq (by unfold formB; simp [Bool.and_assoc]))
theorem qmat_get {r : Int} {C i k : Nat} {L : List Rat} (hx : L.length ≤ 4096) (hl : i * C + k < L.length) : Ctr Tryz.prog 140 [isMQ r (C : Int) L, isI (i : Int), isI (k : Int)] (isQ (qf L (i * C + k))) := by
 refine Ctr.intro Tryz.func140 rfl (by kernel_rfl) Tryz.ntmps140 rfl fun w0 F0 => .cv (Cv.wk (.l [0, 1, 2] rfl)) (.fact (Has.rngI (Has.t (t := 1) rfl)) fun lt1 => .fact (Has.rngI (Has.t (t := 2) rfl)) fun lt2 => ?_)
 have hcp : ((i : Int) * (C : Int)) = ((i * C : Nat) : Int) := (Int.natCast_mul i C).symm
 have hml : (L.map nq).length = L.length := List.length_map _
 refine .seq fun _ k1 => .region (.box (.t rfl) rfl fun b1 => .alloc [isB false, SlM isU [], isB false, SlM isU []] zero75 (fun _ _ => ⟨rfl, nilM _ _, rfl, nilM _ _, trivial⟩) rfl fun b2 => nl (.thn (k1 _ _ (.seq fun _ k2 => .region (st (.fieldAddr (.t rfl) fld70_2 ty68) rfl (st (.load1 (.t rfl) (i := 1) rfl ty68 rfl) rfl (st (.mv (.t rfl)) rfl (st (.fieldAddr (.t rfl) fld70_1 ty3) rfl (st (.load1 (.t rfl) (i := 1) rfl ty3 rfl) rfl (st (.eq (.mulI (.t rfl) (.t rfl) (by first | omega | (rw [hcp]; omega)) (by first | omega | (rw [hcp]; omega))) ((show isI _ = isI ((i * C : Nat) : Int) from isI_eq hcp))) rfl ?_))))))))))
 refine st (.mv (.t rfl)) rfl (st (.eq (.addI (.t rfl) (.t rfl) (by first | omega | (rw [hcp]; omega)) (by first | omega | (rw [hcp]; omega))) ((show isI _ = isI ((i * C + k : Nat) : Int) from isI_eq (by omega)))) rfl ?_)
 refine st (.ixK sl68 ty75 (.t rfl) (.t rfl) rc_len ⟨by omega, by omega⟩ (getQ hl)) rfl (st (.loadP (.t rfl) ty75 rfl (Ss' := [_, _, _, _]) rfl) rfl (.store (.t rfl) (.t rfl) (i := 0) rfl ty75 rfl rfl (Ss' := [_, _, _, _]) rfl (M' := [(some _, cellM [_, _, _, _]), _]) rfl (nl (.thn (k2 _ _ (.cv (Cv.wk (.l [6] rfl)) (.ret (rt1 (.inl rfl) Tryz.results140 rfl (.cell rfl (i := 0) rfl ty75 rfl ?_ .nil)))))))))
 all_goals (rfl)
theorem qmat_made {R C K : Nat} {f : Nat → Nat → Rat} (hR : R ≤ 64) (hC : C ≤ 64) (hf : ∀ i k, i < R → k < C → qs (f i k) ≤ K) (hK : K ≤ 900000000) : Ctr Tryz.prog 78 [isI (R : Int), isI (C : Int), isAtQ Tryz.prog R C f] (isMQ R C (tabQ (R * C) C f)) := by
 refine Ctr.intro Tryz.func78 rfl (by kernel_rfl) Tryz.ntmps78 rfl fun w0 F0 => .cv (Cv.wk (.l [0, 1, 2] rfl)) (.fact (Has.rngI (Has.t (t := 0) rfl)) fun lt0 => .fact (Has.rngI (Has.t (t := 1) rfl)) fun lt1 => ?_)
 have hRC := side_le hR hC
 refine .seq fun _ k1 => .region (.alloc [isI 0, isI 0, nilS] zero70 (fun _ _ => ⟨⟨rfl, by decide, by decide⟩, ⟨rfl, by decide, by decide⟩, rfl, trivial⟩) rfl fun b1 => nl (.thn (k1 _ _ (.seq fun _ k2 => .region (st (.mv (.t rfl)) rfl (st (.mv (.t rfl)) rfl (st (.build [isI 0, isI 0, nilS] pl70 zero70 (fun _ _ => ⟨⟨rfl, by decide, by decide⟩, ⟨rfl, by decide, by decide⟩, rfl, trivial⟩) (.cons (.t rfl) rfl rfl rfl (.cons (.t rfl) rfl rfl rfl .nil)) (Z'' := [_, _, _]) rfl) rfl (.alloc [isI 0, isI 0, nilS] zero70 (fun _ _ => ⟨⟨rfl, by decide, by decide⟩, ⟨rfl, by decide, by decide⟩, rfl, trivial⟩) rfl fun b2 => .store (.t rfl) (.t rfl) (i := 0) rfl ty70 rfl rfl (Ss' := [_, _, _]) rfl (M' := [(some _, cellM [_, _, _]), _]) rfl (nl (.thn (k2 _ _ (.seq fun _ k3 => .seq fun _ k4 => .cv (Cv.growF ((Bool × List Nat) × Bool × List Nat) (i := 0) (o := 2) rfl rfl rfl) (.memEq (M' := [grMK rc Gr.nil [], _, _]) rfl (.region (st (.mv (.t rfl)) rfl (st (.mv (.cI 0 rfl)) rfl (nl (.thn (k4 _ _ (.block (.loopF [1, 2, 6, 7, 13] (fun (z : { z : Nat × Gr ((Bool × List Nat) × Bool × List Nat) // z.1 ≤ R }) => match z with | ⟨(i, g), hI⟩ => [(14, isI (i : Int))]) (fun M => fun (z : { z : Nat × Gr ((Bool × List Nat) × Bool × List Nat) // z.1 ≤ R }) => match z with | ⟨(i, g), hI⟩ => [grMK rc g ((tabQ (i * C + 0) C f).map nq), (some b2, cellM [isI (R : Int), isI (C : Int), isGr g ((tabQ (i * C + 0) C f).map nq).length]), (some b1, cellM [isI 0, isI 0, nilS])]) (fun (z : { z : Nat × Gr ((Bool × List Nat) × Bool × List Nat) // z.1 ≤ R }) => match z with | ⟨(i, g), hI⟩ => R - i) (⟨(0, Gr.nil), Nat.zero_le _⟩) (Cv.mem (.c 14 rfl ?_ (.l [1, 2, 6, 7, 13] rfl)) ?_) ?_)))))))))))))))))))))
 ·rfl
 ·exact grFq_eq (n := 0) (ys := []) (by rw [List.length_map, tabQ_len, Nat.zero_mul]) (show [] = (tabQ (0 * C + 0) C f).map nq by rw [Nat.zero_mul]; rfl)
 rintro ⟨⟨i, g⟩, hI⟩ K5 hK5
 refine .cv (Cv.wk (.l [14, 1, 2, 6, 7, 13] rfl)) (.memEq (M' := [grMK rc g ((tabQ (i * C + 0) C f).map nq), (some b2, cellM [isI (R : Int), isI (C : Int), isGr g ((tabQ (i * C + 0) C f).map nq).length]), (some b1, cellM [isI 0, isI 0, nilS])]) rfl ?_)
 simp only [] at hI
 refine .seq fun _ k6 => .region (st (.ltI (.t rfl) (.t rfl)) rfl (nl (.thn (k6 _ _ (.seq fun _ k7 => .cond (.t rfl) (fun hc1 => ?_) (fun hc1 => ?_))))))
 ·have hc1 := BP.t hc1
  refine .skip (.thn (k7 _ _ (.seq fun _ k8 => .block (.seq fun _ k9 => .region (st (.mv (.t rfl)) rfl (st (.as (.t rfl)) rfl (nl (.thn (k9 _ _ (.seq fun _ k10 => .region (st (.mv (.t rfl)) rfl (st (.mv (.cI 0 rfl)) rfl (nl (.thn (k10 _ _ (.block (.loopF [1, 2, 6, 7, 13, 14, 15, 16, 8, 17] (fun (z : { z : Nat × Gr ((Bool × List Nat) × Bool × List Nat) // z.1 ≤ C }) => match z with | ⟨(k, g2), hK2⟩ => [(18, isI (k : Int))]) (fun M => fun (z : { z : Nat × Gr ((Bool × List Nat) × Bool × List Nat) // z.1 ≤ C }) => match z with | ⟨(k, g2), hK2⟩ => [grMK rc g2 ((tabQ (i * C + k) C f).map nq), (some b2, cellM [isI (R : Int), isI (C : Int), isGr g2 ((tabQ (i * C + k) C f).map nq).length]), (some b1, cellM [isI 0, isI 0, nilS])]) (fun (z : { z : Nat × Gr ((Bool × List Nat) × Bool × List Nat) // z.1 ≤ C }) => match z with | ⟨(k, g2), hK2⟩ => C - k) (⟨(0, g), Nat.zero_le _⟩) (Cv.mem (.c 18 rfl ?_ (.l [1, 2, 6, 7, 13, 14, 15, 16, 8, 17] rfl)) ?_) ?_)))))))))))))))))
  ·rfl
  ·rfl
  rintro ⟨⟨k, g2⟩, hK2⟩ K11 hK11
  refine .cv (Cv.wk (.l [18, 1, 2, 6, 7, 13, 14, 15, 16, 8, 17] rfl)) (.memEq (M' := [grMK rc g2 ((tabQ (i * C + k) C f).map nq), (some b2, cellM [isI (R : Int), isI (C : Int), isGr g2 ((tabQ (i * C + k) C f).map nq).length]), (some b1, cellM [isI 0, isI 0, nilS])]) rfl ?_)
  simp only [] at hK2
  refine .seq fun _ k12 => .region (st (.ltI (.t rfl) (.t rfl)) rfl (nl (.thn (k12 _ _ (.seq fun _ k13 => .cond (.t rfl) (fun hc2 => ?_) (fun hc2 => ?_))))))
  ·have hc2 := BP.t hc2
   refine .skip (.thn (k13 _ _ (.seq fun _ k14 => .block (.seq fun _ k15 => .region (st (.mv (.t rfl)) rfl (st (.as (.t rfl)) rfl (nl (.thn (k15 _ _ (.dr (.s [] rfl rfl rfl (.o rfl (.fieldAddr (.t rfl) fld70_2 ty68)) (.s [21] rfl rfl rfl (.o rfl (.load1 (.t rfl) (i := 1) rfl ty68 rfl)) (.s [] rfl rfl rfl (.o rfl (.mv (.t rfl))) (.s [] rfl rfl rfl (.o rfl (.mv (.t rfl))) (.s [] rfl rfl rfl (.o rfl (.mv (.t rfl))) (.s [23, 24, 25] rfl rfl rfl (.o rfl (.callV ⟨(i, k), by omega, by omega⟩ (.t rfl) (.cons (.t rfl) (.cons (.t rfl) .nil)))) (.s [] rfl rfl rfl (.o rfl (.call (qmat_zero) .nil)) (.s [26, 27] rfl rfl rfl (.o rfl (.eq (.call (rat_Add (hf i k (by omega) (by omega)) qs_zero (by omega)) (.cons (.t rfl) (.cons (.t rfl) .nil))) ((show isQ _ = Flat (rc (nq (f i k))) from isQ_eq (Rat.add_zero _))))) (.s [28] rfl rfl rfl (.o rfl (.buildS [isB false, SlM isU [], isB false, SlM isU []] sl68 ty75 zero75 (fun _ _ => ⟨rfl, nilM _ _, rfl, nilM _ _, trivial⟩) rfl rfl (.cons (.t rfl) rfl rfl rfl .nil) rfl (S := SlK 4 rc [nq (f i k)]) rfl)) (.fin (n := 9) mixed (by kernel_rfl) (by kernel_rfl) (by kernel_rfl) (.cv (Cv.wk (.l [1, 2, 6, 7, 13, 14, 15, 16, 8, 17, 18, 19, 20, 9, 21, 22, 23, 24, 25, 26, 27, 28, 29] rfl)) (.appendGK (fk := rc) (u := ((false, []), (false, []))) rc_len (by decide) (fun _ => inferInstance) sl68 ty75 zero75 (fun _ _ => ⟨rfl, nilM _ _, rfl, nilM _ _, trivial⟩) by75 (.t rfl) (i := 0) rfl (.t rfl) (by have hpl := place_lt (show i < R by omega) (show k < C by omega); rw [List.length_map, tabQ_len]; show i * C + k + 1 ≤ _; omega) (by simp) rfl fun gr1 => ?_))))))))))))))))))))))
   refine .memEq (M' := [grMK _ _ _, _, _]) rfl (st (.fieldAddr (.t rfl) fld70_2 ty68) rfl (.store (.t rfl) (.t rfl) (i := 1) rfl ty68 rfl rfl (Ss' := [_, _, _]) rfl (M' := [_, (some _, cellM [_, _, _]), _]) rfl (nl (.bln (.thn (k14 _ _ (.region (st (.addI (.t rfl) (.cI 1 rfl) (by first | omega | assumption) (by first | omega | assumption)) rfl (st (.mv (.t rfl)) rfl (nl (.thn ?_)))))))))))
   have hpl := place_lt (show i < R by omega) (show k < C by omega)
   refine hK11 (⟨(k + 1, gr1), by show k + 1 ≤ C; omega⟩) _ _ ?_ (Cv.mem (.c 18 rfl ?_ (.l [1, 2, 6, 7, 13, 14, 15, 16, 8, 17] rfl)) ?_)
   ·show C - (k + 1) < C - k; omega
   ·exact isI_eq (by omega)
   ·exact grFq_eq (by rw [← tabQ_succ f (show k < C by omega), List.map_append, List.length_append]; rfl) (by rw [← tabQ_succ f (show k < C by omega), List.map_append]; rfl)
  ·have hc2 := BP.f hc2
   refine .exit (.the (.the (.blh (.bln (.thn (k8 _ _ (.region (st (.addI (.t rfl) (.cI 1 rfl) (by first | omega | assumption) (by first | omega | assumption)) rfl (st (.mv (.t rfl)) rfl (nl (.thn ?_)))))))))))
   have hkC : k = C := by omega
   subst hkC
   refine hK5 (⟨(i + 1, g2), by show i + 1 ≤ R; omega⟩) _ _ ?_ (Cv.mem (.c 14 rfl ?_ (.l [1, 2, 6, 7, 13] rfl)) ?_)
   ·show R - (i + 1) < R - i; omega
   ·exact isI_eq (by omega)
   ·exact grFq_eq (by rw [tabQ_next]) (by rw [tabQ_next])
 ·have hc1 := BP.f hc1
  refine .exit (.the (.the (.blh (.thn (k3 _ _ (.cv (Cv.wk (.l [6, 7] rfl)) (.seq fun _ k16 => .cv (Cv.freezeF (k := 4) (i := 0) (j := 0) (o := 2) rfl rfl rfl rfl (gr_lenK rc_len) (gr_takeK rc_len) (Ss' := [_, _, SlK 4 rc ((tabQ (i * C + 0) C f).map nq)]) rfl) (.memEq (M' := [(some _, cellM [_, _, SlK 4 rc ((tabQ (i * C + 0) C f).map nq)]), _]) rfl (.cv (Cv.wk (.l [6, 7] rfl)) (.region (st (.load (.t rfl) (i := 0) rfl ty70 rfl (Ss' := [_, _, _]) rfl) rfl (.store (.t rfl) (.t rfl) (i := 1) rfl ty70 rfl rfl (Ss' := [_, _, _]) rfl (M' := [_, (some _, cellM [_, _, _])]) rfl (nl (.thn (k16 _ _ (.ret (rt1 (.inl rfl) Tryz.results78 rfl (.cell rfl (i := 1) rfl ty70 rfl ?_ .nil))))))))))))))))))
  all_goals (rw [Nat.add_zero, show i = R by omega])
theorem qmat_At {R C K : Nat} {L : List Rat} (hx : QB L K) (hK : K ≤ 900000000) (hR : R ≤ 64) (hC : C ≤ 64) (hl : L.length = R * C) {i k : Nat} (hi : i < R) (hk : k < C) : Ctr Tryz.prog 124 [isMQ (R : Int) (C : Int) L, isI (i : Int), isI (k : Int)] (isQ (qf L (i * C + k))) := by
 refine Ctr.intro Tryz.func124 rfl (by kernel_rfl) Tryz.ntmps124 rfl fun w0 F0 => .cv (Cv.wk (.l [0, 1, 2] rfl)) (.fact (Has.rngI (Has.t (t := 1) rfl)) fun lt1 => .fact (Has.rngI (Has.t (t := 2) rfl)) fun lt2 => ?_)
 have hRC := side_le hR hC
 have hfo := formB_true hR hC (show (L.map nq).length = R * C by rw [List.length_map]; exact hl)
 have hpl := place_lt hi hk
 refine .seq fun _ k1 => .region (.box (.t rfl) rfl fun b1 => .alloc [isB false, SlM isU [], isB false, SlM isU []] zero75 (fun _ _ => ⟨rfl, nilM _ _, rfl, nilM _ _, trivial⟩) rfl fun b2 => nl (.thn (k1 _ _ (.seq fun _ k2 => .seq fun _ k3 => .region (st (.load (.t rfl) (i := 1) rfl ty70 rfl (Ss' := [_, _, _]) rfl) rfl (st (.eq (.call (qmat_Formed) (.cons (.t rfl) .nil)) ((show isB _ = isB true from isB_eq (hfo)))) rfl (st (.not (.t rfl)) rfl (st (.mv (.t rfl)) rfl (stF rfl rfl (fun hg => .mv (.t rfl)) rfl (stF rfl rfl (fun hg => .ltI (Has.g rfl hg) (.cI 0 rfl)) rfl (st (.pickOr (.t rfl) (fun h => Has.g rfl (ng h))) rfl (st (.mv (.t rfl)) rfl (stF rfl rfl (fun hg => .mv (.t rfl)) rfl (stF rfl rfl (fun hg => .fieldAddr (.t rfl) fld70_0 ty3) rfl (stF rfl rfl (fun hg => .load1 (Has.g rfl hg) (i := 1) rfl ty3 rfl) rfl (stF rfl rfl (fun hg => .geI (Has.g rfl hg) (Has.g rfl hg)) rfl (st (.pickOr (.t rfl) (fun h => Has.g rfl (ng h))) rfl (st (.mv (.t rfl)) rfl (stF rfl rfl (fun hg => .mv (.t rfl)) rfl (stF rfl rfl (fun hg => .ltI (Has.g rfl hg) (.cI 0 rfl)) rfl (st (.pickOr (.t rfl) (fun h => Has.g rfl (ng h))) rfl (st (.mv (.t rfl)) rfl (stF rfl rfl (fun hg => .mv (.t rfl)) rfl (stF rfl rfl (fun hg => .fieldAddr (.t rfl) fld70_1 ty3) rfl (stF rfl rfl (fun hg => .load1 (Has.g rfl hg) (i := 1) rfl ty3 rfl) rfl ?_)))))))))))))))))))))))))
 refine stF rfl rfl (fun hg => .geI (Has.g rfl hg) (Has.g rfl hg)) rfl (st (.pickOr (.t rfl) (fun h => Has.g rfl (ng h))) rfl (nl (.thn (k3 _ _ (.cv (Cv.wk (.l [1, 2, 3, 6, 29] rfl)) (.cond (.t rfl) (fun hc1 => ?_) (fun hc1 => ?_)))))))
 ·have hc1 := BP.t hc1
  exfalso; simp at hc1; omega
 ·have hc1 := BP.f hc1
  refine .skip (.thn (k2 _ _ (.seq fun _ k4 => .region (st (.load (.t rfl) (i := 1) rfl ty70 rfl (Ss' := [_, _, _]) rfl) rfl (st (.mv (.t rfl)) rfl (st (.mv (.t rfl)) rfl (st (.call (qmat_get (i := i) (k := k) (by omega) (by omega)) (.cons (.t rfl) (.cons (.t rfl) (.cons (.t rfl) .nil)))) rfl (st (.call (qmat_zero) .nil) rfl (st (.eq (.call (rat_Add (hx _) qs_zero (by omega)) (.cons (.t rfl) (.cons (.t rfl) .nil))) ((isQ_eq (Rat.add_zero _)))) rfl (.store (.t rfl) (.t rfl) (i := 0) rfl ty75 rfl rfl (Ss' := [_, _, _, _]) rfl (M' := [(some _, cellM [_, _, _, _]), _]) rfl (nl (.thn (k4 _ _ (.cv (Cv.wk (.l [6] rfl)) (.ret (rt1 (.inl rfl) Tryz.results124 rfl (.cell rfl (i := 0) rfl ty75 rfl ?_ .nil)))))))))))))))))
  all_goals (rfl)
end Go.Proofs.YtcfobalbkhgdmaaGreat
namespace Go.Proofs.YtcfobalbkhgdmaaGreat
open Go.En Go.RowKit
set_option maxRecDepth 10000
set_option maxHeartbeats 4000000
open Go.Nt
open Go.Pz
open Go.Mz
open Go.Qe
open Go.Mi
theorem flQ_row {ls : List (Int × Int × List Int)} {i : Nat} : flQ (ls.map fun p => p.2.2) i ++ ((ls.map fun p => p.2.2).take ls.length).map (fun a => ((cf a i : Int) : Rat)) = flQ (ls.map fun p => p.2.2) (i + 1) := by
 rw [List.take_of_length_le (by rw [List.length_map]; exact Nat.le_refl _), flQ_succ]
theorem flQ_take {ls : List (Int × Int × List Int)} {i k : Nat} {p : Int × Int × List Int} (h : ls[k]? = some p) : ((ls.map fun p => p.2.2).take (k + 1)).map (fun a => ((cf a i : Int) : Rat)) = ((ls.map fun p => p.2.2).take k).map (fun a => ((cf a i : Int) : Rat)) ++ [((cf p.2.2 i : Int) : Rat)] := by
 rw [List.take_add_one, List.getElem?_map, h, List.map_append]; rfl
theorem zchar_flat {N K : Nat} {ls : List (Int × Int × List Int)} (hb : ∀ p ∈ ls, Bd p.2.2 K) (hl : ∀ p ∈ ls, p.2.2.length = N) (hK : K ≤ 4000000000) (hN : N ≤ 64) (hn : ls.length ≤ 64) : Ctr Tryz.prog 41 [SlK 3 mc ls, isI (N : Int)] (isMQ N ls.length (flQ (ls.map fun p => p.2.2) N)) := by
 refine Ctr.intro Tryz.func41 rfl (by kernel_rfl) Tryz.ntmps41 rfl fun w0 F0 => .cv (Cv.wk (.l [0, 1] rfl)) (.fact (Has.lenLt (Has.t (t := 0) rfl)) fun lt0 => .fact (Has.rngI (Has.t (t := 1) rfl)) fun lt1 => ?_)
 have hLl : (ls.map fun p => p.2.2).length = ls.length := List.length_map _
 refine .seq fun _ k1 => .region (.alloc [isI 0, isI 0, nilS] zero70 (fun _ _ => ⟨⟨rfl, by decide, by decide⟩, ⟨rfl, by decide, by decide⟩, rfl, trivial⟩) rfl fun b1 => nl (.thn (k1 _ _ (.seq fun _ k2 => .region (st (.mv (.t rfl)) rfl (st (.mv (.t rfl)) rfl (st (.len sl65 (.t rfl)) rfl (st (.build [isI 0, isI 0, nilS] pl70 zero70 (fun _ _ => ⟨⟨rfl, by decide, by decide⟩, ⟨rfl, by decide, by decide⟩, rfl, trivial⟩) (.cons (.t rfl) rfl rfl rfl (.cons (.t rfl) rfl rfl rfl .nil)) (Z'' := [_, _, _]) rfl) rfl (.alloc [isI 0, isI 0, nilS] zero70 (fun _ _ => ⟨⟨rfl, by decide, by decide⟩, ⟨rfl, by decide, by decide⟩, rfl, trivial⟩) rfl fun b2 => .store (.t rfl) (.t rfl) (i := 0) rfl ty70 rfl rfl (Ss' := [_, _, _]) rfl (M' := [(some _, cellM [_, _, _]), _]) rfl (nl (.thn (k2 _ _ (.seq fun _ k3 => .seq fun _ k4 => .cv (Cv.growF ((Bool × List Nat) × Bool × List Nat) (i := 0) (o := 2) rfl rfl rfl) (.memEq (M' := [grMK rc Gr.nil [], _, _]) rfl (.region (st (.mv (.t rfl)) rfl (st (.mv (.cI 0 rfl)) rfl (nl (.thn (k4 _ _ (.cv (Cv.wk (.l [0, 4, 5, 13, 14] rfl)) (.block (.loopF [0, 4, 5, 13] (fun (z : { z : Nat × Gr ((Bool × List Nat) × Bool × List Nat) // z.1 ≤ N }) => match z with | ⟨(i, g), hI⟩ => [(14, isI (i : Int))]) (fun M => fun (z : { z : Nat × Gr ((Bool × List Nat) × Bool × List Nat) // z.1 ≤ N }) => match z with | ⟨(i, g), hI⟩ => [grMK rc g ((flQ (ls.map fun p => p.2.2) i).map nq), (some b2, cellM [isI (N : Int), isI (ls.length : Int), isGr g ((flQ (ls.map fun p => p.2.2) i).map nq).length]), (some b1, cellM [isI 0, isI 0, nilS])]) (fun (z : { z : Nat × Gr ((Bool × List Nat) × Bool × List Nat) // z.1 ≤ N }) => match z with | ⟨(i, g), hI⟩ => N - i) (⟨(0, Gr.nil), Nat.zero_le _⟩) (Cv.mem (.c 14 rfl ?_ (.l [0, 4, 5, 13] rfl)) ?_) ?_)))))))))))))))))))))))
 ·rfl
 ·rfl
 rintro ⟨⟨i, g⟩, hI⟩ K5 hK5
 refine .cv (Cv.wk (.l [14, 0, 4, 5, 13] rfl)) (.memEq (M' := [grMK rc g ((flQ (ls.map fun p => p.2.2) i).map nq), (some b2, cellM [isI (N : Int), isI (ls.length : Int), isGr g ((flQ (ls.map fun p => p.2.2) i).map nq).length]), (some b1, cellM [isI 0, isI 0, nilS])]) rfl ?_)
 simp only [] at hI
 refine .seq fun _ k6 => .region (st (.ltI (.t rfl) (.t rfl)) rfl (nl (.thn (k6 _ _ (.seq fun _ k7 => .cond (.t rfl) (fun hc1 => ?_) (fun hc1 => ?_))))))
 ·have hc1 := BP.t hc1
  refine .skip (.thn (k7 _ _ (.seq fun _ k8 => .block (.seq fun _ k9 => .region (st (.mv (.t rfl)) rfl (st (.as (.t rfl)) rfl (nl (.thn (k9 _ _ (.seq fun _ k10 => .region (st (.mv (.t rfl)) rfl (st (.len sl65 (.t rfl)) rfl (st (.mv (.cI 0 rfl)) rfl (nl (.thn (k10 _ _ (.block (.loopF [0, 4, 5, 13, 14, 15, 16, 6, 17, 18] (fun (z : { z : Nat × Gr ((Bool × List Nat) × Bool × List Nat) // z.1 ≤ ls.length }) => match z with | ⟨(k, g2), hK2⟩ => [(19, isI (k : Int))]) (fun M => fun (z : { z : Nat × Gr ((Bool × List Nat) × Bool × List Nat) // z.1 ≤ ls.length }) => match z with | ⟨(k, g2), hK2⟩ => [grMK rc g2 ((flQ (ls.map fun p => p.2.2) i ++ ((ls.map fun p => p.2.2).take k).map fun a => ((cf a i : Int) : Rat)).map nq), (some b2, cellM [isI (N : Int), isI (ls.length : Int), isGr g2 ((flQ (ls.map fun p => p.2.2) i ++ ((ls.map fun p => p.2.2).take k).map fun a => ((cf a i : Int) : Rat)).map nq).length]), (some b1, cellM [isI 0, isI 0, nilS])]) (fun (z : { z : Nat × Gr ((Bool × List Nat) × Bool × List Nat) // z.1 ≤ ls.length }) => match z with | ⟨(k, g2), hK2⟩ => ls.length - k) (⟨(0, g), Nat.zero_le _⟩) (Cv.mem (.c 19 rfl ?_ (.l [0, 4, 5, 13, 14, 15, 16, 6, 17, 18] rfl)) ?_) ?_))))))))))))))))))
  ·rfl
  ·exact grFq_eq (by rw [List.take_zero, List.map_nil, List.append_nil]) (by rw [List.take_zero, List.map_nil, List.append_nil])
  rintro ⟨⟨k, g2⟩, hK2⟩ K11 hK11
  refine .cv (Cv.wk (.l [19, 0, 4, 5, 13, 14, 15, 16, 6, 17, 18] rfl)) (.memEq (M' := [grMK rc g2 ((flQ (ls.map fun p => p.2.2) i ++ ((ls.map fun p => p.2.2).take k).map fun a => ((cf a i : Int) : Rat)).map nq), (some b2, cellM [isI (N : Int), isI (ls.length : Int), isGr g2 ((flQ (ls.map fun p => p.2.2) i ++ ((ls.map fun p => p.2.2).take k).map fun a => ((cf a i : Int) : Rat)).map nq).length]), (some b1, cellM [isI 0, isI 0, nilS])]) rfl ?_)
  simp only [] at hK2
  refine .seq fun _ k12 => .region (st (.ltI (.t rfl) (.t rfl)) rfl (nl (.thn (k12 _ _ (.seq fun _ k13 => .cond (.t rfl) (fun hc2 => ?_) (fun hc2 => ?_))))))
  ·have hc2 := BP.t hc2
   obtain ⟨p, hp⟩ : ∃ p, ls[k]? = some p := ⟨_, List.getElem?_eq_getElem (by omega)⟩
   have hpm := List.mem_of_getElem? hp
   have hpb := hb p hpm
   have hpl := hl p hpm
   have hpz : (p.2.2.map nz).length = N := by rw [List.length_map]; exact hpl
   refine .skip (.thn (k13 _ _ (.seq fun _ k14 => .block (.seq fun _ k15 => .region (st (.ixK sl65 ty27 (.t rfl) (.t rfl) mc_len ⟨by omega, by omega⟩ hp) rfl (st (.loadP (.t rfl) ty27 rfl (Ss' := [_, _, _]) rfl) rfl (.alloc [isI 0, isI 0, nilS] zero27 (fun _ _ => ⟨⟨rfl, by decide, by decide⟩, ⟨rfl, by decide, by decide⟩, rfl, trivial⟩) rfl fun b3 => .store (.t rfl) (.t rfl) (i := 0) rfl ty27 rfl rfl (Ss' := [_, _, _]) rfl (M' := [(some _, cellM [_, _, _]), _, _, _]) rfl (nl (.thn (k15 _ _ (.dr (.s [] rfl rfl rfl (.o rfl (.fieldAddr (.t rfl) fld70_2 ty68)) (.s [23] rfl rfl rfl (.o rfl (.load1 (.t rfl) (i := 2) rfl ty68 rfl)) (.s [] rfl rfl rfl (.o rfl (.fieldAddr (.t rfl) fld27_2 ty22)) (.s [25] rfl rfl rfl (.o rfl (.load1 (.t rfl) (i := 0) rfl ty22 rfl)) (.s [] rfl rfl rfl (.o rfl (.mv (.t rfl))) (.s [26, 27] rfl rfl rfl (.o rfl (.ixK sl22 ty36 (.t rfl) (.t rfl) zc_len ⟨by omega, by omega⟩ (getZ (i := i) (by omega)))) (.s [28] rfl rfl rfl (.o rfl (.loadP (.t rfl) ty36 rfl (Ss' := [_, _]) rfl)) (.s [29] rfl rfl rfl (.o rfl (.eq (.call (rat_Of (by rw [val_words]; have := hpb i; omega)) (.cons (.t rfl) .nil)) ((show isQ _ = Flat (rc (nq ((cf p.2.2 i : Int) : Rat))) from isQ_eq (by rw [zv_nf]))))) ?_)))))))))))))))))))
   refine .s [30] rfl rfl rfl (.o rfl (.buildS [isB false, SlM isU [], isB false, SlM isU []] sl68 ty75 zero75 (fun _ _ => ⟨rfl, nilM _ _, rfl, nilM _ _, trivial⟩) rfl rfl (.cons (.t rfl) rfl rfl rfl .nil) rfl (S := SlK 4 rc [nq ((cf p.2.2 i : Int) : Rat)]) rfl)) (.fin (n := 9) mixed (by kernel_rfl) (by kernel_rfl) (by kernel_rfl) (.cv (Cv.wk (.l [0, 4, 5, 13, 14, 15, 16, 6, 17, 18, 19, 20, 21, 22, 8, 23, 24, 25, 26, 27, 28, 29, 30, 31] rfl)) (.appendGK (fk := rc) (u := ((false, []), (false, []))) rc_len (by decide) (fun _ => inferInstance) sl68 ty75 zero75 (fun _ _ => ⟨rfl, nilM _ _, rfl, nilM _ _, trivial⟩) by75 (.t rfl) (i := 1) rfl (.t rfl) (by simp only [List.length_map, List.length_append, flQ_len, List.length_take, List.length_singleton]; have h1 : i * ls.length ≤ 64 * 64 := Nat.mul_le_mul (by omega) hn; omega) (by simp) rfl fun gr1 => ?_)))
   refine .memEq (M' := [_, grMK _ _ _, _, _]) rfl (st (.fieldAddr (.t rfl) fld70_2 ty68) rfl (.store (.t rfl) (.t rfl) (i := 2) rfl ty68 rfl rfl (Ss' := [_, _, _]) rfl (M' := [_, _, (some _, cellM [_, _, _]), _]) rfl (nl (.bln (.thn (k14 _ _ (.region (st (.addI (.t rfl) (.cI 1 rfl) (by first | omega | assumption) (by first | omega | assumption)) rfl (st (.mv (.t rfl)) rfl (nl (.thn ?_)))))))))))
   refine hK11 (⟨(k + 1, gr1), by show k + 1 ≤ ls.length; omega⟩) _ _ ?_ (Cv.trans (Cv.drop ((.cons _ (.cons_cons _ (.cons_cons _ (.cons_cons _ .slnil)))))) (Cv.mem (.c 19 rfl ?_ (.l [0, 4, 5, 13, 14, 15, 16, 6, 17, 18] rfl)) ?_))
   ·show ls.length - (k + 1) < ls.length - k; omega
   ·exact isI_eq (by omega)
   ·exact grFq_eq (by rw [flQ_take hp]; simp only [List.length_map, List.length_append, List.length_singleton]; omega) (by rw [flQ_take hp]; simp only [List.map_append, List.append_assoc, List.map_cons, List.map_nil])
  ·have hc2 := BP.f hc2
   refine .exit (.the (.the (.blh (.bln (.thn (k8 _ _ (.region (st (.addI (.t rfl) (.cI 1 rfl) (by first | omega | assumption) (by first | omega | assumption)) rfl (st (.mv (.t rfl)) rfl (nl (.thn ?_)))))))))))
   have hkC : k = ls.length := by omega
   subst hkC
   refine hK5 (⟨(i + 1, g2), by show i + 1 ≤ N; omega⟩) _ _ ?_ (Cv.mem (.c 14 rfl ?_ (.l [0, 4, 5, 13] rfl)) ?_)
   ·show N - (i + 1) < N - i; omega
   ·exact isI_eq (by omega)
   ·exact grFq_eq (by rw [flQ_row]) (by rw [flQ_row])
 ·have hc1 := BP.f hc1
  refine .exit (.the (.the (.blh (.thn (k3 _ _ (.seq fun _ k16 => .cv (Cv.freezeF (k := 4) (i := 0) (j := 0) (o := 2) rfl rfl rfl rfl (gr_lenK rc_len) (gr_takeK rc_len) (Ss' := [_, _, SlK 4 rc ((flQ (ls.map fun p => p.2.2) i).map nq)]) rfl) (.memEq (M' := [(some _, cellM [_, _, SlK 4 rc ((flQ (ls.map fun p => p.2.2) i).map nq)]), _]) rfl (.cv (Cv.wk (.l [0, 4, 5, 13, 14, 15] rfl)) (.region (st (.load (.t rfl) (i := 0) rfl ty70 rfl (Ss' := [_, _, _]) rfl) rfl (.store (.t rfl) (.t rfl) (i := 1) rfl ty70 rfl rfl (Ss' := [_, _, _]) rfl (M' := [_, (some _, cellM [_, _, _])]) rfl (nl (.thn (k16 _ _ (.cv (Cv.wk (.l [4] rfl)) (.ret (rt1 (.inl rfl) Tryz.results41 rfl (.cell rfl (i := 1) rfl ty70 rfl ?_ .nil))))))))))))))))))
  all_goals (rw [show i = N by omega])
end Go.Proofs.YtcfobalbkhgdmaaGreat
namespace Go.Proofs.YtcfobalbkhgdmaaGreat
open Go.En Go.RowKit
set_option maxRecDepth 10000
set_option maxHeartbeats 4000000
open Go.Nt
open Go.Pz
open Go.Mz
open Go.Mu
open Go.Qe
open Go.Mi
theorem zchar_flatX {N K : Nat} {ls : List (Int × Int × List Int)} (hb : ∀ p ∈ ls, Bd p.2.2 K) (hl : ∀ p ∈ ls, p.2.2.length = N) (hK : K ≤ 4000000000) (hN : N ≤ 64) (hn : ls.length ≤ 64) {gl : Gr (Int × Int × List Int)} : CtrX Tryz.prog 41 [isGr gl ls.length, isI (N : Int)] ([grMK mc gl ls]) (fun S M => S = isMQ N ls.length (flQ (ls.map fun p => p.2.2) N) ∧ M = [grMK mc gl ls]) := by
 refine CtrX.intro Tryz.func41 rfl (by kernel_rfl) Tryz.ntmps41 rfl fun w0 F0 => .cv (Cv.wk (.l [0, 1] rfl)) (.fact (Has.rngI (Has.t (t := 1) rfl)) fun lt1 => ?_)
 have hLl : (ls.map fun p => p.2.2).length = ls.length := List.length_map _
 refine .seq fun _ k1 => .region (.alloc [isI 0, isI 0, nilS] zero70 (fun _ _ => ⟨⟨rfl, by decide, by decide⟩, ⟨rfl, by decide, by decide⟩, rfl, trivial⟩) rfl fun b1 => nl (.thn (k1 _ _ (.seq fun _ k2 => .region (st (.mv (.t rfl)) rfl (st (.mv (.t rfl)) rfl (st (.len sl65 (.t rfl)) rfl (st (.build [isI 0, isI 0, nilS] pl70 zero70 (fun _ _ => ⟨⟨rfl, by decide, by decide⟩, ⟨rfl, by decide, by decide⟩, rfl, trivial⟩) (.cons (.t rfl) rfl rfl rfl (.cons (.t rfl) rfl rfl rfl .nil)) (Z'' := [_, _, _]) rfl) rfl (.alloc [isI 0, isI 0, nilS] zero70 (fun _ _ => ⟨⟨rfl, by decide, by decide⟩, ⟨rfl, by decide, by decide⟩, rfl, trivial⟩) rfl fun b2 => .store (.t rfl) (.t rfl) (i := 0) rfl ty70 rfl rfl (Ss' := [_, _, _]) rfl (M' := [(some _, cellM [_, _, _]), _, _]) rfl (nl (.thn (k2 _ _ (.seq fun _ k3 => .seq fun _ k4 => .cv (Cv.growF ((Bool × List Nat) × Bool × List Nat) (i := 0) (o := 2) rfl rfl rfl) (.memEq (M' := [grMK rc Gr.nil [], _, _, _]) rfl (.region (st (.mv (.t rfl)) rfl (st (.mv (.cI 0 rfl)) rfl (nl (.thn (k4 _ _ (.cv (Cv.wk (.l [0, 4, 5, 13, 14] rfl)) (.block (.loopF [0, 4, 5, 13] (fun (z : { z : Nat × Gr ((Bool × List Nat) × Bool × List Nat) // z.1 ≤ N }) => match z with | ⟨(i, g), hI⟩ => [(14, isI (i : Int))]) (fun M => fun (z : { z : Nat × Gr ((Bool × List Nat) × Bool × List Nat) // z.1 ≤ N }) => match z with | ⟨(i, g), hI⟩ => [grMK rc g ((flQ (ls.map fun p => p.2.2) i).map nq), (some b2, cellM [isI (N : Int), isI (ls.length : Int), isGr g ((flQ (ls.map fun p => p.2.2) i).map nq).length]), (some b1, cellM [isI 0, isI 0, nilS]), grMK mc gl ls]) (fun (z : { z : Nat × Gr ((Bool × List Nat) × Bool × List Nat) // z.1 ≤ N }) => match z with | ⟨(i, g), hI⟩ => N - i) (⟨(0, Gr.nil), Nat.zero_le _⟩) (Cv.mem (.c 14 rfl ?_ (.l [0, 4, 5, 13] rfl)) ?_) ?_)))))))))))))))))))))))
 ·rfl
 ·rfl
 rintro ⟨⟨i, g⟩, hI⟩ K5 hK5
 refine .cv (Cv.wk (.l [14, 0, 4, 5, 13] rfl)) (.memEq (M' := [grMK rc g ((flQ (ls.map fun p => p.2.2) i).map nq), (some b2, cellM [isI (N : Int), isI (ls.length : Int), isGr g ((flQ (ls.map fun p => p.2.2) i).map nq).length]), (some b1, cellM [isI 0, isI 0, nilS]), grMK mc gl ls]) rfl ?_)
 simp only [] at hI
 refine .seq fun _ k6 => .region (st (.ltI (.t rfl) (.t rfl)) rfl (nl (.thn (k6 _ _ (.seq fun _ k7 => .cond (.t rfl) (fun hc1 => ?_) (fun hc1 => ?_))))))
 ·have hc1 := BP.t hc1
  refine .skip (.thn (k7 _ _ (.seq fun _ k8 => .block (.seq fun _ k9 => .region (st (.mv (.t rfl)) rfl (st (.as (.t rfl)) rfl (nl (.thn (k9 _ _ (.seq fun _ k10 => .region (st (.mv (.t rfl)) rfl (st (.len sl65 (.t rfl)) rfl (st (.mv (.cI 0 rfl)) rfl (nl (.thn (k10 _ _ (.block (.loopF [0, 4, 5, 13, 14, 15, 16, 6, 17, 18] (fun (z : { z : Nat × Gr ((Bool × List Nat) × Bool × List Nat) // z.1 ≤ ls.length }) => match z with | ⟨(k, g2), hK2⟩ => [(19, isI (k : Int))]) (fun M => fun (z : { z : Nat × Gr ((Bool × List Nat) × Bool × List Nat) // z.1 ≤ ls.length }) => match z with | ⟨(k, g2), hK2⟩ => [grMK rc g2 ((flQ (ls.map fun p => p.2.2) i ++ ((ls.map fun p => p.2.2).take k).map fun a => ((cf a i : Int) : Rat)).map nq), (some b2, cellM [isI (N : Int), isI (ls.length : Int), isGr g2 ((flQ (ls.map fun p => p.2.2) i ++ ((ls.map fun p => p.2.2).take k).map fun a => ((cf a i : Int) : Rat)).map nq).length]), (some b1, cellM [isI 0, isI 0, nilS]), grMK mc gl ls]) (fun (z : { z : Nat × Gr ((Bool × List Nat) × Bool × List Nat) // z.1 ≤ ls.length }) => match z with | ⟨(k, g2), hK2⟩ => ls.length - k) (⟨(0, g), Nat.zero_le _⟩) (Cv.mem (.c 19 rfl ?_ (.l [0, 4, 5, 13, 14, 15, 16, 6, 17, 18] rfl)) ?_) ?_))))))))))))))))))
  ·rfl
  ·exact grFq_eq (by rw [List.take_zero, List.map_nil, List.append_nil]) (by rw [List.take_zero, List.map_nil, List.append_nil])
  rintro ⟨⟨k, g2⟩, hK2⟩ K11 hK11
  refine .cv (Cv.wk (.l [19, 0, 4, 5, 13, 14, 15, 16, 6, 17, 18] rfl)) (.memEq (M' := [grMK rc g2 ((flQ (ls.map fun p => p.2.2) i ++ ((ls.map fun p => p.2.2).take k).map fun a => ((cf a i : Int) : Rat)).map nq), (some b2, cellM [isI (N : Int), isI (ls.length : Int), isGr g2 ((flQ (ls.map fun p => p.2.2) i ++ ((ls.map fun p => p.2.2).take k).map fun a => ((cf a i : Int) : Rat)).map nq).length]), (some b1, cellM [isI 0, isI 0, nilS]), grMK mc gl ls]) rfl ?_)
  simp only [] at hK2
  refine .seq fun _ k12 => .region (st (.ltI (.t rfl) (.t rfl)) rfl (nl (.thn (k12 _ _ (.seq fun _ k13 => .cond (.t rfl) (fun hc2 => ?_) (fun hc2 => ?_))))))
  ·have hc2 := BP.t hc2
   obtain ⟨p, hp⟩ : ∃ p, ls[k]? = some p := ⟨_, List.getElem?_eq_getElem (by omega)⟩
   have hpm := List.mem_of_getElem? hp
   have hpb := hb p hpm
   have hpl := hl p hpm
   have hpz : (p.2.2.map nz).length = N := by rw [List.length_map]; exact hpl
   refine .skip (.thn (k13 _ _ (.seq fun _ k14 => .block (.seq fun _ k15 => .region (st (.ixGr sl65 ty27 (.t rfl) (.t rfl) ⟨by omega, by omega⟩) rfl (st (.loadGK mc_len (.t rfl) (i := 3) rfl ty27 hp) rfl (.alloc [isI 0, isI 0, nilS] zero27 (fun _ _ => ⟨⟨rfl, by decide, by decide⟩, ⟨rfl, by decide, by decide⟩, rfl, trivial⟩) rfl fun b3 => .store (.t rfl) (.t rfl) (i := 0) rfl ty27 rfl rfl (Ss' := [_, _, _]) rfl (M' := [(some _, cellM [_, _, _]), _, _, _, _]) rfl (nl (.thn (k15 _ _ (.dr (.s [] rfl rfl rfl (.o rfl (.fieldAddr (.t rfl) fld70_2 ty68)) (.s [23] rfl rfl rfl (.o rfl (.load1 (.t rfl) (i := 2) rfl ty68 rfl)) (.s [] rfl rfl rfl (.o rfl (.fieldAddr (.t rfl) fld27_2 ty22)) (.s [25] rfl rfl rfl (.o rfl (.load1 (.t rfl) (i := 0) rfl ty22 rfl)) (.s [] rfl rfl rfl (.o rfl (.mv (.t rfl))) (.s [26, 27] rfl rfl rfl (.o rfl (.ixK sl22 ty36 (.t rfl) (.t rfl) zc_len ⟨by omega, by omega⟩ (getZ (i := i) (by omega)))) (.s [28] rfl rfl rfl (.o rfl (.loadP (.t rfl) ty36 rfl (Ss' := [_, _]) rfl)) (.s [29] rfl rfl rfl (.o rfl (.eq (.call (rat_Of (by rw [val_words]; have := hpb i; omega)) (.cons (.t rfl) .nil)) ((show isQ _ = Flat (rc (nq ((cf p.2.2 i : Int) : Rat))) from isQ_eq (by rw [zv_nf]))))) ?_)))))))))))))))))))
   refine .s [30] rfl rfl rfl (.o rfl (.buildS [isB false, SlM isU [], isB false, SlM isU []] sl68 ty75 zero75 (fun _ _ => ⟨rfl, nilM _ _, rfl, nilM _ _, trivial⟩) rfl rfl (.cons (.t rfl) rfl rfl rfl .nil) rfl (S := SlK 4 rc [nq ((cf p.2.2 i : Int) : Rat)]) rfl)) (.fin (n := 9) mixed (by kernel_rfl) (by kernel_rfl) (by kernel_rfl) (.cv (Cv.wk (.l [0, 4, 5, 13, 14, 15, 16, 6, 17, 18, 19, 20, 21, 22, 8, 23, 24, 25, 26, 27, 28, 29, 30, 31] rfl)) (.appendGK (fk := rc) (u := ((false, []), (false, []))) rc_len (by decide) (fun _ => inferInstance) sl68 ty75 zero75 (fun _ _ => ⟨rfl, nilM _ _, rfl, nilM _ _, trivial⟩) by75 (.t rfl) (i := 1) rfl (.t rfl) (by simp only [List.length_map, List.length_append, flQ_len, List.length_take, List.length_singleton]; have h1 : i * ls.length ≤ 64 * 64 := Nat.mul_le_mul (by omega) hn; omega) (by simp) rfl fun gr1 => ?_)))
   refine .memEq (M' := [_, grMK _ _ _, _, _, _]) rfl (st (.fieldAddr (.t rfl) fld70_2 ty68) rfl (.store (.t rfl) (.t rfl) (i := 2) rfl ty68 rfl rfl (Ss' := [_, _, _]) rfl (M' := [_, _, (some _, cellM [_, _, _]), _, _]) rfl (nl (.bln (.thn (k14 _ _ (.region (st (.addI (.t rfl) (.cI 1 rfl) (by first | omega | assumption) (by first | omega | assumption)) rfl (st (.mv (.t rfl)) rfl (nl (.thn ?_)))))))))))
   refine hK11 (⟨(k + 1, gr1), by show k + 1 ≤ ls.length; omega⟩) _ _ ?_ (Cv.trans (Cv.drop ((.cons _ (.cons_cons _ (.cons_cons _ (.cons_cons _ (.cons_cons _ .slnil))))))) (Cv.mem (.c 19 rfl ?_ (.l [0, 4, 5, 13, 14, 15, 16, 6, 17, 18] rfl)) ?_))
   ·show ls.length - (k + 1) < ls.length - k; omega
   ·exact isI_eq (by omega)
   ·exact grFq_eq (by rw [flQ_take hp]; simp only [List.length_map, List.length_append, List.length_singleton]; omega) (by rw [flQ_take hp]; simp only [List.map_append, List.append_assoc, List.map_cons, List.map_nil])
  ·have hc2 := BP.f hc2
   refine .exit (.the (.the (.blh (.bln (.thn (k8 _ _ (.region (st (.addI (.t rfl) (.cI 1 rfl) (by first | omega | assumption) (by first | omega | assumption)) rfl (st (.mv (.t rfl)) rfl (nl (.thn ?_)))))))))))
   have hkC : k = ls.length := by omega
   subst hkC
   refine hK5 (⟨(i + 1, g2), by show i + 1 ≤ N; omega⟩) _ _ ?_ (Cv.mem (.c 14 rfl ?_ (.l [0, 4, 5, 13] rfl)) ?_)
   ·show N - (i + 1) < N - i; omega
   ·exact isI_eq (by omega)
   ·exact grFq_eq (by rw [flQ_row]) (by rw [flQ_row])
 ·have hc1 := BP.f hc1
  refine .exit (.the (.the (.blh (.thn (k3 _ _ (.seq fun _ k16 => .cv (Cv.freezeFw (k := 4) (i := 0) (j := 0) (o := 2) (inBlks (.cons _ (.cons _ (.cons_cons _ .slnil)))) rfl rfl rfl (gr_lenK rc_len) (gr_takeK rc_len) (Ss' := [_, _, SlK 4 rc ((flQ (ls.map fun p => p.2.2) i).map nq)]) rfl) (.memEq (M' := [(some _, cellM [_, _, SlK 4 rc ((flQ (ls.map fun p => p.2.2) i).map nq)]), _, _]) rfl (.cv (Cv.wk (.l [0, 4, 5, 13, 14, 15] rfl)) (.region (st (.load (.t rfl) (i := 0) rfl ty70 rfl (Ss' := [_, _, _]) rfl) rfl (.store (.t rfl) (.t rfl) (i := 1) rfl ty70 rfl rfl (Ss' := [_, _, _]) rfl (M' := [_, (some _, cellM [_, _, _]), _]) rfl (nl (.thn (k16 _ _ (.cv (Cv.wk (.l [4] rfl)) (.ret (rtX1D (.cons _ (.cons _ (.cons_cons _ .slnil))) (.inl rfl) Tryz.results41 rfl (.cell rfl (i := 1) rfl ty70 rfl rfl .nil) (⟨by rw [show i = N by omega], rfl⟩))))))))))))))))))
end Go.Proofs.YtcfobalbkhgdmaaGreat
namespace Go.Proofs.YtcfobalbkhgdmaaGreat
open Go.En Go.RowKit
set_option maxRecDepth 10000
set_option maxHeartbeats 4000000
open Go.Nt
open Go.Pz
open Go.Mz
open Go.Mu
open Go.Qe
theorem len_snoc {α : Type} {l : List α} {x : α} : (l ++ [x]).length = l.length + 1 := List.length_append
theorem perm_end4q {x a b c d : Option Nat × MP} {t : Mem} : (x :: a :: b :: c :: d :: t).Perm (a :: b :: c :: d :: (t ++ [x])) := by
 have h : (x :: (a :: b :: c :: d :: t)).Perm ((a :: b :: c :: d :: t) ++ [x]) := (List.perm_append_singleton x (a :: b :: c :: d :: t)).symm
 exact h
theorem qmat_begun {R C D K : Nat} {xs ys : List Rat} (hx : QB xs K) (hy : QB ys K) (hK : K ≤ 900000000) (hR : R ≤ 64) (hC : C ≤ 64) (hD : D ≤ 64) (hxl : xs.length = R * C) (hyl : ys.length = R * D) : CtrX Tryz.prog 105 [isMQ R C xs, isMQ R D ys] ([]) (fun S M => ∃ bw gt rs, S = isPtr bw 0 ∧ M = wkMQ bw Gr.nil gt rs C [] ∧ rs.map Prod.snd = rowsQ R C D xs ys) := by
 refine CtrX.intro Tryz.func105 rfl (by kernel_rfl) Tryz.ntmps105 rfl fun w0 F0 => .cv (Cv.wk (.l [0, 1] rfl)) ?_
 have h1 := side_le hR hC
 have h2 := side_le hR hD
 refine .seq fun _ k1 => .region (.box (.t rfl) rfl fun b1 => .box (.t rfl) rfl fun b2 => st (.as Has.cP) rfl (nl (.thn (k1 _ _ (.seq fun _ k2 => .region (st (.fieldAddr (.t rfl) fld70_1 ty3) rfl (st (.load1 (.t rfl) (i := 1) rfl ty3 rfl) rfl (st (.build [nilS, isI 0, nilS] pl106 zero106 (fun _ _ => ⟨rfl, ⟨rfl, by decide, by decide⟩, rfl, trivial⟩) (.cons (.t rfl) rfl rfl rfl .nil) (Z'' := [_, _, _]) rfl) rfl (.box (.t rfl) rfl fun b3 => st (.as (.t rfl)) rfl (nl (.thn (k2 _ _ (.cv (Cv.wk (.l [2, 3, 4, 5] rfl)) (.seq fun _ k3 => .seq fun _ k4 => .cv (Cv.growF (RowQ) (i := 0) (o := 0) rfl rfl rfl) (.memEq (M' := [grM rowVQ Gr.nil [], _, _, _]) rfl (.region (st (.fieldAddr (.t rfl) fld70_0 ty3) rfl (st (.load1 (.t rfl) (i := 3) rfl ty3 rfl) rfl (st (.mv (.cI 0 rfl)) rfl (nl (.thn (k4 _ _ (.block (.memEq (M' := (_ :: _ :: _ :: _ :: ([] : List RowQ).map rowMQ)) rfl (.loopF [2, 3, 4, 5, 15] (fun (z : { z : Nat × Gr RowQ × List RowQ // z.1 ≤ R ∧ z.2.2.map Prod.snd = rowsQ z.1 C D xs ys }) => match z with | ⟨(i, gt, rs), hI⟩ => [(16, isI (i : Int))]) (fun M => fun (z : { z : Nat × Gr RowQ × List RowQ // z.1 ≤ R ∧ z.2.2.map Prod.snd = rowsQ z.1 C D xs ys }) => match z with | ⟨(i, gt, rs), hI⟩ => (grM rowVQ gt rs :: (some b3, cellM [isGr gt rs.length, isI (C : Int), nilS]) :: (some b2, cellM [isI (R : Int), isI (D : Int), isQs ys]) :: (some b1, cellM [isI (R : Int), isI (C : Int), isQs xs]) :: rs.map rowMQ)) (fun (z : { z : Nat × Gr RowQ × List RowQ // z.1 ≤ R ∧ z.2.2.map Prod.snd = rowsQ z.1 C D xs ys }) => match z with | ⟨(i, gt, rs), hI⟩ => R - i) (⟨(0, Gr.nil, []), Nat.zero_le _, rfl⟩) (Cv.mem (.c 16 rfl ?_ (.l [2, 3, 4, 5, 15] rfl)) ?_) ?_)))))))))))))))))))))))))
 ·rfl
 ·rfl
 rintro ⟨⟨i, gt, rs⟩, hI⟩ K5 hK5
 refine .cv (Cv.wk (.l [16, 2, 3, 4, 5, 15] rfl)) (.memEq (M' := (grM rowVQ gt rs :: (some b3, cellM [isGr gt rs.length, isI (C : Int), nilS]) :: (some b2, cellM [isI (R : Int), isI (D : Int), isQs ys]) :: (some b1, cellM [isI (R : Int), isI (C : Int), isQs xs]) :: rs.map rowMQ)) rfl ?_)
 simp only [] at hI
 obtain ⟨hi, hrs⟩ := hI
 have hrl : rs.length = i := by have := congrArg List.length hrs; rwa [List.length_map, rowsQ_len] at this
 refine .seq fun _ k6 => .region (st (.ltI (.t rfl) (.t rfl)) rfl (nl (.thn (k6 _ _ (.seq fun _ k7 => .cond (.t rfl) (fun hc1 => ?_) (fun hc1 => ?_))))))
 ·have hc1 := BP.t hc1
  refine .skip (.thn (k7 _ _ (.seq fun _ k8 => .block (.seq fun _ k9 => .region (st (.mv (.t rfl)) rfl (st (.as (.t rfl)) rfl (nl (.thn (k9 _ _ (.seq fun _ k10 => .region (.cv (Cv.grow0K (α := (Bool × List Nat) × Bool × List Nat) rc) (st (.as (Has.cGr (α := (Bool × List Nat) × Bool × List Nat))) rfl (nl (.thn (k10 _ _ (.seq fun _ k11 => .seq fun _ k12 => .region (st (.fieldAddr (.t rfl) fld70_1 ty3) rfl (st (.load1 (.t rfl) (i := 4) rfl ty3 rfl) rfl (st (.mv (.cI 0 rfl)) rfl (nl (.thn (k12 _ _ (.block (.loopF [2, 3, 4, 5, 15, 16, 17, 18, 6, 19, 20] (fun (z : { z : Nat × Gr ((Bool × List Nat) × Bool × List Nat) // z.1 ≤ C }) => match z with | ⟨(k, g), hK1⟩ => [(21, isI (k : Int)), (7, isGr g (((List.range k).map fun k => qf xs (i * C + k)).map nq).length)]) (fun M => fun (z : { z : Nat × Gr ((Bool × List Nat) × Bool × List Nat) // z.1 ≤ C }) => match z with | ⟨(k, g), hK1⟩ => (grMK rc g (((List.range k).map fun k => qf xs (i * C + k)).map nq) :: grM rowVQ gt rs :: (some b3, cellM [isGr gt rs.length, isI (C : Int), nilS]) :: (some b2, cellM [isI (R : Int), isI (D : Int), isQs ys]) :: (some b1, cellM [isI (R : Int), isI (C : Int), isQs xs]) :: rs.map rowMQ)) (fun (z : { z : Nat × Gr ((Bool × List Nat) × Bool × List Nat) // z.1 ≤ C }) => match z with | ⟨(k, g), hK1⟩ => C - k) (⟨(0, Gr.nil), Nat.zero_le _⟩) (Cv.mem (.c 21 rfl ?_ (.c 7 rfl ?_ (.l [2, 3, 4, 5, 15, 16, 17, 18, 6, 19, 20] rfl))) ?_) ?_))))))))))))))))))))))))
  ·rfl
  ·rfl
  ·rfl
  rintro ⟨⟨k, g⟩, hK1⟩ K13 hK13
  refine .cv (Cv.wk (.l [21, 7, 2, 3, 4, 5, 15, 16, 17, 18, 6, 19, 20] rfl)) (.memEq (M' := (grMK rc g (((List.range k).map fun k => qf xs (i * C + k)).map nq) :: grM rowVQ gt rs :: (some b3, cellM [isGr gt rs.length, isI (C : Int), nilS]) :: (some b2, cellM [isI (R : Int), isI (D : Int), isQs ys]) :: (some b1, cellM [isI (R : Int), isI (C : Int), isQs xs]) :: rs.map rowMQ)) rfl ?_)
  simp only [] at hK1
  refine .seq fun _ k14 => .region (st (.ltI (.t rfl) (.t rfl)) rfl (nl (.thn (k14 _ _ (.seq fun _ k15 => .cond (.t rfl) (fun hc2 => ?_) (fun hc2 => ?_))))))
  ·have hc2 := BP.t hc2
   have hpl := place_lt (show i < R by omega) (show k < C by omega)
   refine .skip (.thn (k15 _ _ (.seq fun _ k16 => .block (.seq fun _ k17 => .region (st (.mv (.t rfl)) rfl (st (.as (.t rfl)) rfl (nl (.thn (k17 _ _ (.region (st (.mv (.t rfl)) rfl (st (.load (.t rfl) (i := 4) rfl ty70 rfl (Ss' := [_, _, _]) rfl) rfl (st (.mv (.t rfl)) rfl (st (.mv (.t rfl)) rfl (st (.call (qmat_At (i := i) (k := k) hx hK hR hC hxl (by omega) (by omega)) (.cons (.t rfl) (.cons (.t rfl) (.cons (.t rfl) .nil)))) rfl (st (.buildS [isB false, SlM isU [], isB false, SlM isU []] sl68 ty75 zero75 (fun _ _ => ⟨rfl, nilM _ _, rfl, nilM _ _, trivial⟩) rfl rfl (.cons (.t rfl) rfl rfl rfl .nil) rfl (S := SlK 4 rc [nq (qf xs (i * C + k))]) rfl) rfl (.appendGK (fk := rc) (u := ((false, []), (false, []))) rc_len (by decide) (fun _ => inferInstance) sl68 ty75 zero75 (fun _ _ => ⟨rfl, nilM _ _, rfl, nilM _ _, trivial⟩) by75 (.t rfl) (i := 0) rfl (.t rfl) (by rw [List.length_map, List.length_map, List.length_range]; show k + 1 ≤ _; omega) (by simp) rfl fun gr1 => ?_)))))))))))))))))
   refine .memEq (M' := (grMK _ _ _ :: _ :: _ :: _ :: _ :: _)) rfl (st (.as (.t rfl)) rfl (nl (.bln (.thn (k16 _ _ (.region (st (.addI (.t rfl) (.cI 1 rfl) (by first | omega | assumption) (by first | omega | assumption)) rfl (st (.mv (.t rfl)) rfl (nl (.thn ?_))))))))))
   have hpl := place_lt (show i < R by omega) (show k < C by omega)
   refine hK13 (⟨(k + 1, gr1), by show k + 1 ≤ C; omega⟩) _ _ ?_ (Cv.mem (.c 21 rfl ?_ (.c 7 rfl ?_ (.l [2, 3, 4, 5, 15, 16, 17, 18, 6, 19, 20] rfl))) ?_)
   ·show C - (k + 1) < C - k; omega
   ·exact isI_eq (by omega)
   ·exact isGr_eq (by rw [List.range_succ, List.map_append, List.map_append, List.length_append]; rfl)
   ·exact grMK_eq (by rw [List.range_succ, List.map_append, List.map_append]; rfl)
  ·have hc2 := BP.f hc2
   refine .exit (.the (.the (.blh (.thn (k11 _ _ (.seq fun _ k18 => .seq fun _ k19 => .region (st (.fieldAddr (.t rfl) fld70_1 ty3) rfl (st (.load1 (.t rfl) (i := 3) rfl ty3 rfl) rfl (st (.mv (.cI 0 rfl)) rfl (nl (.thn (k19 _ _ (.block (.loopF [2, 3, 4, 5, 15, 16, 17, 18, 6, 19, 20, 21, 22, 32, 33] (fun (z : { z : Nat × Gr ((Bool × List Nat) × Bool × List Nat) // z.1 ≤ D }) => match z with | ⟨(k2, g2), hK2⟩ => [(34, isI (k2 : Int)), (7, isGr g2 ((((List.range C).map fun k => qf xs (i * C + k)) ++ ((List.range k2).map fun k => qf ys (i * D + k))).map nq).length)]) (fun M => fun (z : { z : Nat × Gr ((Bool × List Nat) × Bool × List Nat) // z.1 ≤ D }) => match z with | ⟨(k2, g2), hK2⟩ => (grMK rc g2 ((((List.range C).map fun k => qf xs (i * C + k)) ++ ((List.range k2).map fun k => qf ys (i * D + k))).map nq) :: grM rowVQ gt rs :: (some b3, cellM [isGr gt rs.length, isI (C : Int), nilS]) :: (some b2, cellM [isI (R : Int), isI (D : Int), isQs ys]) :: (some b1, cellM [isI (R : Int), isI (C : Int), isQs xs]) :: rs.map rowMQ)) (fun (z : { z : Nat × Gr ((Bool × List Nat) × Bool × List Nat) // z.1 ≤ D }) => match z with | ⟨(k2, g2), hK2⟩ => D - k2) (⟨(0, g), Nat.zero_le _⟩) (Cv.mem (.c 34 rfl ?_ (.c 7 rfl ?_ (.l [2, 3, 4, 5, 15, 16, 17, 18, 6, 19, 20, 21, 22, 32, 33] rfl))) ?_) ?_))))))))))))))
   ·rfl
   ·exact isGr_eq (by rw [show k = C by omega, List.range_zero, List.map_nil, List.append_nil])
   ·exact grMK_eq (by rw [show k = C by omega, List.range_zero, List.map_nil, List.append_nil])
   rintro ⟨⟨k2, g2⟩, hK2⟩ K20 hK20
   refine .cv (Cv.wk (.l [34, 7, 2, 3, 4, 5, 15, 16, 17, 18, 6, 19, 20, 21, 22, 32, 33] rfl)) (.memEq (M' := (grMK rc g2 ((((List.range C).map fun k => qf xs (i * C + k)) ++ ((List.range k2).map fun k => qf ys (i * D + k))).map nq) :: grM rowVQ gt rs :: (some b3, cellM [isGr gt rs.length, isI (C : Int), nilS]) :: (some b2, cellM [isI (R : Int), isI (D : Int), isQs ys]) :: (some b1, cellM [isI (R : Int), isI (C : Int), isQs xs]) :: rs.map rowMQ)) rfl ?_)
   simp only [] at hK2
   refine .seq fun _ k21 => .region (st (.ltI (.t rfl) (.t rfl)) rfl (nl (.thn (k21 _ _ (.seq fun _ k22 => .cond (.t rfl) (fun hc3 => ?_) (fun hc3 => ?_))))))
   ·have hc3 := BP.t hc3
    have hpl := place_lt (show i < R by omega) (show k2 < D by omega)
    refine .skip (.thn (k22 _ _ (.seq fun _ k23 => .block (.seq fun _ k24 => .region (st (.mv (.t rfl)) rfl (st (.as (.t rfl)) rfl (nl (.thn (k24 _ _ (.region (st (.mv (.t rfl)) rfl (st (.load (.t rfl) (i := 3) rfl ty70 rfl (Ss' := [_, _, _]) rfl) rfl (st (.mv (.t rfl)) rfl (st (.mv (.t rfl)) rfl (st (.call (qmat_At (i := i) (k := k2) hy hK hR hD hyl (by omega) (by omega)) (.cons (.t rfl) (.cons (.t rfl) (.cons (.t rfl) .nil)))) rfl (st (.buildS [isB false, SlM isU [], isB false, SlM isU []] sl68 ty75 zero75 (fun _ _ => ⟨rfl, nilM _ _, rfl, nilM _ _, trivial⟩) rfl rfl (.cons (.t rfl) rfl rfl rfl .nil) rfl (S := SlK 4 rc [nq (qf ys (i * D + k2))]) rfl) rfl (.appendGK (fk := rc) (u := ((false, []), (false, []))) rc_len (by decide) (fun _ => inferInstance) sl68 ty75 zero75 (fun _ _ => ⟨rfl, nilM _ _, rfl, nilM _ _, trivial⟩) by75 (.t rfl) (i := 0) rfl (.t rfl) (by rw [List.length_map, List.length_append, List.length_map, List.length_map, List.length_range, List.length_range]; show C + k2 + 1 ≤ _; omega) (by simp) rfl fun gr1 => ?_)))))))))))))))))
    refine .memEq (M' := (grMK _ _ _ :: _ :: _ :: _ :: _ :: _)) rfl (st (.as (.t rfl)) rfl (nl (.bln (.thn (k23 _ _ (.region (st (.addI (.t rfl) (.cI 1 rfl) (by first | omega | assumption) (by first | omega | assumption)) rfl (st (.mv (.t rfl)) rfl (nl (.thn ?_))))))))))
    refine hK20 (⟨(k2 + 1, gr1), by show k2 + 1 ≤ D; omega⟩) _ _ ?_ (Cv.mem (.c 34 rfl ?_ (.c 7 rfl ?_ (.l [2, 3, 4, 5, 15, 16, 17, 18, 6, 19, 20, 21, 22, 32, 33] rfl))) ?_)
    ·show D - (k2 + 1) < D - k2; omega
    ·exact isI_eq (by omega)
    ·exact isGr_eq (by simp only [List.length_append, List.length_map, List.length_range, List.length_singleton]; omega)
    ·exact grMK_eq (by rw [List.range_succ]; simp only [List.map_append, List.append_assoc]; rfl)
   ·have hc3 := BP.f hc3
    refine .exit (.the (.the (.blh (.thn (k18 _ _ (.region (st (.mv (.t rfl)) rfl (st (.mv (.t rfl)) rfl (st (.nilc (.t rfl)) rfl (st (.fieldAddr (.t rfl) fld106_0 ty104) rfl (st (.load1 (.t rfl) (i := 2) rfl ty104 rfl) rfl (st (.mv (.t rfl)) rfl (st (.buildS [nilS] sl104 ty68 zero68 (fun _ _ => ⟨rfl, trivial⟩) rfl rfl (.cons (.t rfl) rfl rfl rfl .nil) rfl (S := SlM rowVQ [(g2, ((List.range C).map fun k => qf xs (i * C + k)) ++ ((List.range k2).map fun k => qf ys (i * D + k)))]) rfl) rfl (.appendG (f := rowVQ) (u := (Gr.nil, [])) sl104 ty68 zero68 (fun _ _ => ⟨gr0, trivial⟩) (fun _ => inferInstance) by68 (.t rfl) (i := 1) rfl (.t rfl) (by rw [hrl]; show i + 1 ≤ _; omega) (by simp) rfl fun gr1 => ?_))))))))))))))
    refine .memEq (M' := (_ :: grM _ _ _ :: _ :: _ :: _ :: _)) rfl (st (.nilc (.t rfl)) rfl (st (.fieldAddr (.t rfl) fld106_0 ty104) rfl (.store (.t rfl) (.t rfl) (i := 2) rfl ty104 rfl rfl (Ss' := [_, _, _]) rfl (M' := (_ :: _ :: (some _, cellM [_, _, _]) :: _ :: _ :: _)) rfl (nl (.bln (.thn (k8 _ _ (.region (st (.addI (.t rfl) (.cI 1 rfl) (by first | omega | assumption) (by first | omega | assumption)) rfl (st (.mv (.t rfl)) rfl (nl (.thn ?_))))))))))))
    have hkD : D = k2 := by omega
    subst hkD
    refine hK5 (⟨(i + 1, gr1, rs ++ [(g2, ((List.range C).map fun k => qf xs (i * C + k)) ++ ((List.range D).map fun k => qf ys (i * D + k)))]), by show i + 1 ≤ R; omega, by show (rs ++ [(g2, ((List.range C).map fun k => qf xs (i * C + k)) ++ ((List.range D).map fun k => qf ys (i * D + k)))]).map Prod.snd = _; rw [List.map_append, hrs, rowsQ_succ]; rfl⟩) _ _ ?_ (Cv.trans (Cv.perm perm_end4q) (Cv.mem (.c 16 rfl ?_ (.l [2, 3, 4, 5, 15] rfl)) ?_))
    ·show R - (i + 1) < R - i; omega
    ·exact isI_eq (by omega)
    ·show _ = grM rowVQ gr1 (rs ++ [_]) :: (some b3, cellM [isGr gr1 (rs ++ [_]).length, _, _]) :: _ :: _ :: (rs ++ [_]).map rowMQ; rw [List.map_append (f := rowMQ), len_snoc]; rfl
 ·have hc1 := BP.f hc1
  refine .exit (.the (.the (.blh (.thn (k3 _ _ (.cv (Cv.wk (.l [4, 5] rfl)) (.seq fun _ k25 => .cv (Cv.growF (Int) (i := 1) (o := 2) rfl rfl rfl) (.memEq (M' := (grM isI Gr.nil [] :: _ :: _ :: _ :: _ :: _)) rfl (.cv (Cv.drop ((.cons_cons _ (.cons_cons _ (.cons_cons _ (.cons _ (.cons _ (List.Sublist.refl _)))))))) (.cv (Cv.wk (.l [4, 5] rfl)) (.cv (Cv.perm perm_rot) (.region (st (.mv (.t rfl)) rfl (st (.as (.t rfl)) rfl (nl (.thn (k25 _ _ (.ret (rtX1 (.inl rfl) Tryz.results105 rfl (.tmp (.t rfl) .nil) ?_)))))))))))))))))))
  exact ⟨b3, gt, rs, rfl, rfl, by obtain rfl : i = R := (by omega); exact hrs⟩
theorem takeQ_set {X Y : List Rat} {c : Rat} {k : Nat} (h : k < X.length) : (mxQ (lsQ X Y c) X k).set k (qf X k - c * qf Y k) = mxQ (lsQ X Y c) X (k + 1) := by
 rw [← lsQ_at h]; exact mxQ_set (lsQ_len _ _ _) h
theorem qmat_take {bw C0 K : Nat} {gp : Gr Int} {gt : Gr RowQ} {rs : List RowQ} {ps : List Nat} {i t : Nat} {c : Rat} {r b : RowQ} (hrb : QB r.2 K) (hbb : QB b.2 (4 * K)) (hcb : qs c ≤ K) (hK : K ≤ 100000000) (hi : rs[i]? = some r) (ht : rs[t]? = some b) (hne : i ≠ t) (hl : b.2.length = r.2.length) (hrl : r.2.length ≤ 128) : CtrX Tryz.prog 130 [isGr r.1 (r.2.map nq).length, isGr b.1 (b.2.map nq).length, isQ c] (wkMQ bw gp gt rs C0 ps) (fun S M => S = isTup [] ∧ M = wkMQ bw gp gt (rs.set i (r.1, lsQ r.2 b.2 c)) C0 ps) := by
 refine CtrX.intro Tryz.func130 rfl (by kernel_rfl) Tryz.ntmps130 rfl fun w0 F0 => .cv (Cv.wk (.l [0, 1, 2] rfl)) ?_
 have hil : i < rs.length := (List.getElem?_eq_some_iff.1 hi).1
 have hrm : (r.2.map nq).length = r.2.length := List.length_map _
 have hbm : (b.2.map nq).length = b.2.length := List.length_map _
 refine .seq fun _ k1 => .region (.box (.t rfl) rfl fun b1 => nl (.thn (k1 _ _ (.seq fun _ k2 => .cv (Cv.freezeBoxX (t := 5) rfl rfl rfl) (.cv (Cv.wk (.l [0, 1, 2, 5] rfl)) (.region (st (.mv (.t rfl)) rfl (st (.len sl68 (.t rfl)) rfl (st (.mv (.cI 0 rfl)) rfl (nl (.thn (k2 _ _ (.block (.loopF [0, 1, 5, 8] (fun (z : { k : Nat // k ≤ r.2.length }) => match z with | ⟨k, hk⟩ => [(9, isI (k : Int))]) (fun M => fun (z : { k : Nat // k ≤ r.2.length }) => match z with | ⟨k, hk⟩ => (wk0Q bw gp gt rs.length C0 ps :: grM isI gp (pv ps) :: grM rowVQ gt rs :: (rs.set i (r.1, mxQ (lsQ r.2 b.2 c) r.2 k)).map rowMQ)) (fun (z : { k : Nat // k ≤ r.2.length }) => match z with | ⟨k, hk⟩ => r.2.length - k) (⟨0, Nat.zero_le _⟩) (Cv.mem (.c 9 rfl ?_ (.l [0, 1, 5, 8] rfl)) ?_) ?_))))))))))))))
 ·rfl
 ·exact mixQ_start (pre := [_, _, _]) hi
 rintro ⟨k, hk⟩ K3 hK3
 refine .cv (Cv.wk (.l [9, 0, 1, 5, 8] rfl)) (.memEq (M' := (wk0Q bw gp gt rs.length C0 ps :: grM isI gp (pv ps) :: grM rowVQ gt rs :: (rs.set i (r.1, mxQ (lsQ r.2 b.2 c) r.2 k)).map rowMQ)) rfl ?_)
 have hset : (rs.set i (r.1, mxQ (lsQ r.2 b.2 c) r.2 k))[i]? = some (r.1, mxQ (lsQ r.2 b.2 c) r.2 k) := List.getElem?_set_self hil
 have hset0 : (rs.set i (r.1, mxQ (lsQ r.2 b.2 c) r.2 k))[t]? = some b := (List.getElem?_set_ne hne).trans ht
 have hmx : ((mxQ (lsQ r.2 b.2 c) r.2 k).map nq).length = r.2.length := by rw [List.length_map, mxQ_len (lsQ_len _ _ _) hk]
 refine .seq fun _ k4 => .region (st (.ltI (.t rfl) (.t rfl)) rfl (nl (.thn (k4 _ _ (.seq fun _ k5 => .cond (.t rfl) (fun hc1 => ?_) (fun hc1 => ?_))))))
 ·have hc1 := BP.t hc1
  refine .skip (.thn (k5 _ _ (.seq fun _ k6 => .block (.seq fun _ k7 => .region (st (.mv (.t rfl)) rfl (st (.as (.t rfl)) rfl (nl (.thn (k7 _ _ (.dr (.s [] rfl rfl rfl (.o rfl (.mv (.t rfl))) (.s [] rfl rfl rfl (.o rfl (.mv (.t rfl))) (.s [] rfl rfl rfl (.o rfl (.mv (.t rfl))) (.s [] rfl rfl rfl (.o rfl (.mv (.t rfl))) (.s [14, 15] rfl rfl rfl (.o rfl (.ixGr sl68 ty75 (.t rfl) (.t rfl) ⟨by omega, by omega⟩)) ?_)))))))))))))))
  refine .s [16] rfl rfl rfl (.o rfl (.loadGK rc_len (.t rfl) (i := 3 + i) (wkAtQ (pre := [_, _, _]) (r := (r.1, mxQ (lsQ r.2 b.2 c) r.2 k)) hset) ty75 (mxQ_at (lsQ_len _ _ _) (by omega)))) (.s [] rfl rfl rfl (.o rfl (.loadP (.t rfl) ty75 rfl (Ss' := [_, _, _, _]) rfl)) (.s [] rfl rfl rfl (.o rfl (.mv (.t rfl))) (.s [] rfl rfl rfl (.o rfl (.mv (.t rfl))) (.s [19, 20] rfl rfl rfl (.o rfl (.ixGr sl68 ty75 (.t rfl) (.t rfl) ⟨by omega, by omega⟩)) ?_))))
  refine .s [21] rfl rfl rfl (.o rfl (.loadGK rc_len (.t rfl) (i := 3 + t) (wkAtQ (pre := [_, _, _]) hset0) ty75 (getQ (i := k) (by omega)))) (.s [18, 22] rfl rfl rfl (.o rfl (.call (rat_Mul hcb (hbb k) (by omega)) (.cons (.t rfl) (.cons (.t rfl) .nil)))) (.s [17, 23] rfl rfl rfl (.o rfl (.call (rat_Sub (hrb k) (qs_mul hcb (hbb k)) (by omega)) (.cons (.t rfl) (.cons (.t rfl) .nil)))) (.fin (n := 13) mixed (by kernel_rfl) (by kernel_rfl) (by kernel_rfl) (.cv (Cv.wk (.l [0, 1, 5, 8, 9, 10, 11, 6, 12, 13, 14, 15, 16, 17, 18, 19, 20, 21, 22, 23, 24] rfl)) (st (.ixGr sl68 ty75 (.t rfl) (.t rfl) ⟨by omega, by omega⟩) rfl (.storeGK (z := nq (qf r.2 k - c * qf b.2 k)) rc_len (.t rfl) (.t rfl) (i := 3 + i) (wkAtQ (pre := [_, _, _]) (r := (r.1, mxQ (lsQ r.2 b.2 c) r.2 k)) hset) ty75 (by rw [List.length_map, mxQ_len (lsQ_len _ _ _) (by omega)]; omega) (M' := (_ :: _ :: _ :: (rs.set i (r.1, mxQ (lsQ r.2 b.2 c) r.2 (k + 1))).map rowMQ)) (wkStoreQ (pre := [_, _, _]) (X := (r.1, mxQ (lsQ r.2 b.2 c) r.2 k)) hset (takeQ_set (by omega))) ?_))))))
  refine nl (.bln (.thn (k6 _ _ (.region (st (.addI (.t rfl) (.cI 1 rfl) (by first | omega | assumption) (by first | omega | assumption)) rfl (st (.mv (.t rfl)) rfl (nl (.thn (hK3 (⟨k + 1, by omega⟩) _ _ ?_ (Cv.mem (.c 9 rfl ?_ (.l [0, 1, 5, 8] rfl)) ?_))))))))))
  ·show r.2.length - (k + 1) < r.2.length - k; omega
  ·exact isI_eq (by omega)
  ·rfl
 ·have hc1 := BP.f hc1
  refine .exit (.the (.the (.blh (rtX0 (.inr rfl) Tryz.results130 rfl (⟨rfl, wkQ_take hi (lsQ_len _ _ _) (by omega)⟩)))))
theorem sl_IndexFuncQ {W K : Nat} {xs : List (List Rat)} {t : List Rat → Bool} (hx : ∀ r ∈ xs, r.length = W ∧ QB r K) : Ctr Tryz.prog 125 [SlM isQs xs, isFun (ι := { r : List Rat // r.length = W ∧ QB r K }) Tryz.prog (fun p => [isQs p.1]) (fun p => isB (t p.1))] (isI (ixf t xs)) := by
 refine Ctr.intro Tryz.func125 rfl (by kernel_rfl) Tryz.ntmps125 rfl fun w0 F0 => .cv (Cv.wk (.l [0, 1] rfl)) (.fact (Has.lenLt (Has.t (t := 0) rfl)) fun lt0 => .seq fun _ k1 => .region (st (.as (.cI 0 rfl)) rfl (nl (.thn (k1 _ _ (.seq fun _ k2 => .seq fun _ k3 => .region (st (.mv (.t rfl)) rfl (st (.len sl104 (.t rfl)) rfl (st (.mv (.cI 0 rfl)) rfl (nl (.thn (k3 _ _ (.block (.loopF [0, 1, 7] (fun (z : { i : Nat // i ≤ xs.length ∧ ∀ j, j < i → t (xs.getD j []) = false }) => match z with | ⟨i, hI⟩ => [(8, isI (i : Int))]) (fun M => fun (z : { i : Nat // i ≤ xs.length ∧ ∀ j, j < i → t (xs.getD j []) = false }) => match z with | ⟨i, hI⟩ => M) (fun (z : { i : Nat // i ≤ xs.length ∧ ∀ j, j < i → t (xs.getD j []) = false }) => match z with | ⟨i, hI⟩ => xs.length - i) (⟨0, Nat.zero_le _, fun j hj => absurd hj (Nat.not_lt_zero _)⟩) (Cv.mem (.c 8 rfl ?_ (.l [0, 1, 7] rfl)) ?_) ?_))))))))))))))
 ·rfl
 ·rfl
 rintro ⟨i, hi, hq⟩ K4 hK4
 refine .cv (Cv.wk (.l [8, 0, 1, 7] rfl)) (.seq fun _ k5 => .region (st (.ltI (.t rfl) (.t rfl)) rfl (nl (.thn (k5 _ _ (.seq fun _ k6 => .cond (.t rfl) (fun hc1 => ?_) (fun hc1 => ?_)))))))
 ·have hc1 := BP.t hc1
  refine .skip (.thn (k6 _ _ (.seq fun _ k7 => .block (.seq fun _ k8 => .region (st (.mv (.t rfl)) rfl (st (.as (.t rfl)) rfl (nl (.thn (k8 _ _ (.seq fun _ k9 => .region (st (.mv (.t rfl)) rfl (st (.mv (.t rfl)) rfl (st (.mv (.t rfl)) rfl (st (.ixP sl104 ty68 (.t rfl) (.t rfl) ⟨by omega, by omega⟩ (getD_some (d := []) (by first | omega | (simp only [Int.toNat_natCast, List.length_set]; omega)))) rfl ?_))))))))))))))
  refine st (.loadP1 (.t rfl) ty68) rfl (st (.callV ⟨xs.getD i [], hx _ (by rw [List.getD, List.getElem?_eq_getElem (by omega)]; exact List.getElem_mem _)⟩ (.t rfl) (.cons (.t rfl) .nil)) rfl ?_)
  refine nl (.thn (k9 _ _ (.cond (.t rfl) (fun hc2 => ?_) (fun hc2 => ?_))))
  ·have hc2 := BP.t hc2
   have HQ := hc2
   refine .seq fun _ k10 => .region (st (.mv (.t rfl)) rfl (st (.as (.t rfl)) rfl (nl (.thn (k10 _ _ (.ret (.blr (.thr (.thr (.blr (.thr (rt1 (.inl rfl) Tryz.results125 rfl (.tmp (Has.t' rfl ?_) .nil)))))))))))))
   all_goals (exact isI_eq (ixf_at (d := []) (by omega) hq (by simpa using HQ)))
  ·have hc2 := BP.f hc2
   have HQ := hc2
   refine .skip (.bln (.thn (k7 _ _ (.region (st (.addI (.t rfl) (.cI 1 rfl) (by first | omega | assumption) (by first | omega | assumption)) rfl (st (.mv (.t rfl)) rfl (nl (.thn ?_))))))))
   refine hK4 (⟨i + 1, by omega, fun j hj => by rcases Nat.lt_or_ge j i with h | h; exact hq j h; obtain rfl : j = i := (by omega); simpa using HQ⟩) _ _ ?_ (Cv.mem (.c 8 rfl ?_ (.l [0, 1, 7] rfl)) ?_)
   ·show xs.length - (i + 1) < xs.length - i; omega
   ·exact isI_eq (by omega)
   ·rfl
 ·have hc1 := BP.f hc1
  refine .exit (.the (.the (.blh (.thn (k2 _ _ (.cv (Cv.wk .nil) (.seq fun _ k11 => .region (st (.as (.cI (-1) rfl)) rfl (nl (.thn (k11 _ _ (.ret (rt1 (.inl rfl) Tryz.results125 rfl (.tmp (Has.t' rfl ?_) .nil))))))))))))))
  all_goals (exact isI_eq (ixf_none (d := []) (i := i) (by omega) hq))
theorem qmat_column_1 {col K : Nat} {r : List Rat} (hb : QB r K) (hK : K ≤ 900000000) (hc : col < r.length) (hl : r.length ≤ 128) : Ctr Tryz.prog 126 [isQs r, PtrL [isI (col : Int)]] (isB (nzQ col r)) := by
 refine Ctr.intro Tryz.func126 rfl (by kernel_rfl) Tryz.ntmps126 rfl fun w0 F0 => .cv (Cv.wk (.l [0, 1] rfl)) ?_
 have hrm : (r.map nq).length = r.length := List.length_map _
 refine .seq fun _ k1 => .region (st (.as (.cB false)) rfl (nl (.thn (k1 _ _ (.seq fun _ k2 => .region (st (.mv (.t rfl)) rfl (st (.loadP1 (.t rfl) ty3) rfl (st (.ixK sl68 ty75 (.t rfl) (.t rfl) rc_len ⟨by omega, by omega⟩ (getQ hc)) rfl (st (.loadP (.t rfl) ty75 rfl (Ss' := [_, _, _, _]) rfl) rfl (st (.call (rat_Sign (hb col) (by omega)) (.cons (.t rfl) .nil)) rfl (st (.neI (.t rfl) (.cI 0 rfl)) rfl (st (.as (.t rfl)) rfl (nl (.thn (k2 _ _ (.cv (Cv.wk (.l [3] rfl)) (.ret (rt1 (.inl rfl) Tryz.results126 rfl (.tmp (Has.t' rfl ?_) .nil)))))))))))))))))))
 all_goals (exact isB_eq (by simp [nzQ, sgn_eq0, Rat.num_eq_zero]))
section
variable {E : Env} {Γ : Ctx} {M : Mem}
theorem Cv.freezeBoxY {t b : Nat} {Ss : List VP} {M0 : Mem} (hW : ∀ k, k ∈ E.W → k ∈ blks M0) (ht : En.look Γ t = some (isPtr b 0)) (hM : M = (some b, cellM Ss) :: M0) : Cv E Γ M ((t, PtrL Ss) :: Γ) M0 := by
  subst hM
  intro a w F s
  obtain ⟨h1, h2, h3, ob, h4, vs, T', rfl, hv⟩ := s.mem.each b _ List.mem_cons_self
  have hp := List.pairwise_cons.1 s.mem.apart
  have hne : ∀ (k : Nat) (C : MP), (some k, C) ∈ M0 → k ≠ b := fun k C hk e => by
    subst e
    rcases hp.1 _ hk with h | h
    · cases h
    · exact h rfl
  refine ⟨fun k => F k ∨ k = b, ?_⟩
  have hsub : ∀ k, F k → (F k ∨ k = b) := fun k hk => .inl hk
  have hbW : E.w0.heap.size ≤ b := h1.resolve_right (by
    intro hb
    obtain ⟨C, hC⟩ := mem_blks.1 (hW b hb)
    exact hne b C hC rfl)
  have e1 : a.tmps.getD t undef = .pointer (some ⟨b, 0, none⟩) := s.slots t _ ht
  refine { defers := s.defers, size := s.size, keep := s.keep, f0 := fun k hk => .inl (s.f0 k hk), fnew := ?_, flt := ?_, slots := ?_, mem := ⟨hp.2, ?_⟩ }
  · rintro k (hk | rfl)
    · exact s.fnew k hk
    · exact .inr ⟨hbW, h2⟩
  · rintro k (hk | rfl)
    · exact s.flt k hk
    · exact h2
  · intro t' S' ht'
    simp only [En.look] at ht'
    cases hb : Nat.beq t t' with
    | false => rw [hb] at ht'; exact S'.mono _ _ _ _ _ (s.slots t' S' ht') (fun _ _ => rfl) hsub
    | true =>
      rw [hb] at ht'
      obtain rfl : PtrL Ss = S' := by simpa using ht'
      obtain rfl := Nat.eq_of_beq_eq_true hb
      refine ⟨b, 0, e1, .inr rfl, vs, All2.mono (fun _ _ => rfl) hsub _ _ hv, fun j u hj => ?_⟩
      simp [World.cell?, h4, hj]
  · intro k C hk
    obtain ⟨g1, g2, g3, o2, g4, g5⟩ := s.mem.each k C (List.mem_cons_of_mem _ hk)
    exact ⟨g1, g2, fun h => h.elim g3 (hne k C hk), o2, g4, C.mono _ _ _ _ _ g5 (fun _ _ => rfl) hsub⟩
end
theorem wkQ_blks {bw C0 k : Nat} {gp : Gr Int} {gt : Gr RowQ} {rs rs1 : List RowQ} {ps : List Nat} (h : rs1.Perm rs) (hk : k ∈ blks (wkMQ bw gp gt rs C0 ps)) : k ∈ blks (wkMQ bw gp gt rs1 C0 ps) := by
 obtain ⟨C, hC⟩ := mem_blks.1 hk
 rcases List.mem_cons.1 hC with e | hC
 ·have e1 : some k = some bw := congrArg Prod.fst e
  exact mem_blks.2 ⟨(wk0Q bw gp gt rs1.length C0 ps).2, List.mem_cons.2 (.inl (by rw [e1]))⟩
 rcases List.mem_cons.1 hC with e | hC
 ·have e1 : some k = gp.ob := congrArg Prod.fst e
  exact mem_blks.2 ⟨(grM isI gp (pv ps)).2, List.mem_cons_of_mem _ (List.mem_cons.2 (.inl (by rw [e1]; rfl)))⟩
 rcases List.mem_cons.1 hC with e | hC
 ·have e1 : some k = gt.ob := congrArg Prod.fst e
  exact mem_blks.2 ⟨(grM rowVQ gt rs1).2, List.mem_cons_of_mem _ (List.mem_cons_of_mem _ (List.mem_cons.2 (.inl (by rw [e1]; rfl))))⟩
 ·exact mem_blks.2 ⟨C, List.mem_cons_of_mem _ (List.mem_cons_of_mem _ (List.mem_cons_of_mem _ ((h.map rowMQ).mem_iff.2 hC)))⟩
theorem ixq_yes {α : Type} {q : α → Bool} {xs : List α} {z : Int} (h : z = ixf q xs) (hz : ¬ z < 0) : ∃ n : Nat, z = n ∧ n = ixn q xs ∧ n < xs.length := by
 unfold ixf at h
 by_cases h1 : ixn q xs < xs.length
 ·rw [if_pos h1] at h; exact ⟨_, h, rfl, h1⟩
 ·rw [if_neg h1] at h; omega
theorem ixq_no {α : Type} {q : α → Bool} {xs : List α} {z : Int} (h : z = ixf q xs) (hz : z < 0) : ¬ ixn q xs < xs.length := fun h1 => by
 unfold ixf at h
 rw [if_pos h1] at h; omega
theorem scQ_set {X : List Rat} {c : Rat} {k : Nat} (h : k < X.length) : (mxQ (scQ X c) X k).set k (qf X k * c) = mxQ (scQ X c) X (k + 1) := by
 rw [← scQ_at h]; exact mxQ_set (scQ_len _ _) h
theorem qmat_column {bw C0 K : Nat} {gp : Gr Int} {gt : Gr RowQ} {rs : List RowQ} {ps : List Nat} {col W : Nat} (hrow : ∀ r ∈ rs, r.2.length = W) (hqb : ∀ r ∈ rs, QB r.2 K) (hK1 : 1 ≤ K) (hK : K ≤ 100000000) (hcol : col < W) (hW : W ≤ 128) (hR : rs.length ≤ 64) (hpl : ps.length ≤ rs.length) : CtrX Tryz.prog 106 [isPtr bw 0, isI (col : Int)] (wkMQ bw gp gt rs C0 ps) (fun S M => ∃ gp' rs', S = isTup [] ∧ M = wkMQ bw gp' gt rs' C0 (qcol ⟨rs.map Prod.snd, ps⟩ col).ps ∧ rs'.map Prod.snd = (qcol ⟨rs.map Prod.snd, ps⟩ col).rows) := by
 refine CtrX.intro Tryz.func106 rfl (by kernel_rfl) Tryz.ntmps106 rfl fun w0 F0 => .cv (Cv.wk (.l [0, 1] rfl)) (.fact (Has.rngI (Has.t (t := 1) rfl)) fun lt1 => ?_)
 have hpv := pv_len ps
 obtain ⟨z0, hz0⟩ : ∃ z0 : Int, z0 = ixf (nzQ col) ((rs.map Prod.snd).drop ps.length) := ⟨_, rfl⟩
 have hxr : ∀ r ∈ (rs.map Prod.snd).drop ps.length, r.length = W ∧ QB r K := fun r hr => by obtain ⟨x, hx, rfl⟩ := List.mem_map.1 (List.mem_of_mem_drop hr); exact ⟨hrow x hx, hqb x hx⟩
 refine .seq fun _ k1 => .region (.box (.t rfl) rfl fun b1 => nl (.thn (k1 _ _ (.seq fun _ k2 => .region (st (.mv (.t rfl)) rfl (st (.nilc (.t rfl)) rfl (st (.fieldAddr (.t rfl) fld106_2 ty91) rfl (st (.load1 (.t rfl) (i := 1) rfl ty91 rfl) rfl (st (.len sl91 (.t rfl)) rfl (st (.eq (.as (.t rfl)) ((show isI _ = isI (ps.length : Int) from isI_eq (by omega)))) rfl (nl (.thn (k2 _ _ (.cv (Cv.wk (.l [0, 3, 4] rfl)) (.seq fun _ k3 => .region (st (.mv (.t rfl)) rfl (st (.nilc (.t rfl)) rfl (st (.fieldAddr (.t rfl) fld106_0 ty104) rfl (st (.load1 (.t rfl) (i := 1) rfl ty104 rfl) rfl (st (.mv (.t rfl)) rfl (st (.slGrL sl104 ty68 (.t rfl) (.t rfl) ⟨by omega, by omega⟩) rfl (.cv (Cv.freezeBoxX (t := 3) rfl rfl rfl) (.cv (Cv.wk (.l [0, 3, 4, 17, 18, 19, 20, 21, 22] rfl)) (st (.makeFn (ι := { r : List Rat // r.length = W ∧ QB r K }) (As := fun p => [isQs p.1]) (R := fun p => isB (nzQ col p.1)) (fun p => qmat_column_1 p.2.2 (by omega) (by rw [p.2.1]; exact hcol) (by rw [p.2.1]; exact hW)) .nil (.cons (.t rfl) .nil)) rfl ?_))))))))))))))))))))))))
 refine st (.eq (.callB (sl_IndexFuncQ hxr) (.cons (HasB.rowsQ (pre := [_, _]) (.t rfl) rfl rfl) (.cons (HasB.of (.t rfl)) .nil))) ((show isI _ = isI z0 from isI_eq hz0.symm))) rfl (st (.as (.t rfl)) rfl (nl (.thn (k3 _ _ (.cv (Cv.wk (.l [0, 3, 4, 5] rfl)) (.seq fun _ k4 => .seq fun _ k5 => .region (st (.mv (.t rfl)) rfl (st (.ltI (.t rfl) (.cI 0 rfl)) rfl (nl (.thn (k5 _ _ (.cond (.t rfl) (fun hc1 => ?_) (fun hc1 => ?_)))))))))))))
 ·have hc1 := BP.t hc1
  have KC0 := hc1
  refine .ret (.thr (rtX0 (.inl rfl) Tryz.results106 rfl (⟨gp, rs, rfl, by rw [qcol_no (s := ⟨rs.map Prod.snd, ps⟩) (ixq_no hz0 KC0)], by rw [qcol_no (s := ⟨rs.map Prod.snd, ps⟩) (ixq_no hz0 KC0)]⟩)))
 ·have hc1 := BP.f hc1
  obtain ⟨n0, rfl, hn0, hn1⟩ := ixq_yes hz0 (by omega)
  rw [List.length_drop, List.length_map] at hn1
  obtain ⟨rt, hrt⟩ : ∃ rt, rs[ps.length]? = some rt := ⟨_, List.getElem?_eq_getElem (by omega)⟩
  obtain ⟨ri, hri⟩ : ∃ ri, rs[ps.length + n0]? = some ri := ⟨_, List.getElem?_eq_getElem (by omega)⟩
  refine .skip (.thn (k4 _ _ (.seq fun _ k6 => .dry mixed (.tk 0 rfl rfl rfl rfl (OKY.mv (.t rfl)) (.tk 1 rfl rfl rfl rfl (OKY.nilc (.t rfl)) (.tk 2 rfl rfl rfl rfl (OKY.fieldAddr (.t rfl) fld106_0 ty104) (.tk 4 rfl rfl rfl rfl (OKY.mv (.t rfl)) (.tk 5 rfl rfl rfl rfl (OKY.mv (.t rfl)) (.tk 6 rfl rfl rfl rfl (OKY.nilc (.t rfl)) (.tk 7 rfl rfl rfl rfl (OKY.fieldAddr (.t rfl) fld106_0 ty104) (.tk 9 rfl rfl rfl rfl (OKY.mv (.t rfl)) (.tk 10 rfl rfl rfl rfl (OKY.mv (.t rfl)) (.tk 11 rfl rfl rfl rfl (OKY.eq (OKY.addI (.t rfl) (.t rfl) (by first | omega | assumption) (by first | omega | assumption)) ((show isI _ = isI ((ps.length + n0 : Nat) : Int) from isI_eq (by omega)))) (.tk 12 rfl rfl rfl rfl (OKY.mv (.t rfl)) (.tk 13 rfl rfl rfl rfl (OKY.nilc (.t rfl)) (.tk 14 rfl rfl rfl rfl (OKY.fieldAddr (.t rfl) fld106_0 ty104) (.tk 16 rfl rfl rfl rfl (OKY.mv (.t rfl)) (.tk 17 rfl rfl rfl rfl (OKY.mv (.t rfl)) (.tk 18 rfl rfl rfl rfl (OKY.eq (OKY.addI (.t rfl) (.t rfl) (by first | omega | assumption) (by first | omega | assumption)) ((show isI _ = isI ((ps.length + n0 : Nat) : Int) from isI_eq (by omega)))) (.tk 21 rfl rfl rfl rfl (OKY.mv (.t rfl)) (.tk 22 rfl rfl rfl rfl (OKY.nilc (.t rfl)) (.tk 23 rfl rfl rfl rfl (OKY.fieldAddr (.t rfl) fld106_0 ty104) (.tk 25 rfl rfl rfl rfl (OKY.mv (.t rfl)) (.go [] ?_))))))))))))))))))))))))
  refine .s 3 [] rfl rfl rfl (.o rfl (.load1 (.t rfl) (i := 0) rfl ty104 rfl)) (.s 8 [] rfl rfl rfl (.o rfl (.load1 (.t rfl) (i := 0) rfl ty104 rfl)) (.s 15 [] rfl rfl rfl (.o rfl (.load1 (.t rfl) (i := 0) rfl ty104 rfl)) (.s 19 [42] rfl rfl rfl (.o rfl (.ixGr sl104 ty68 (.t rfl) (.t rfl) ⟨by omega, by omega⟩)) ?_)))
  refine .s 20 [46] rfl rfl rfl (.o rfl (.loadGM (.t rfl) (i := 2) rfl ty68 hri)) (.s 24 [] rfl rfl rfl (.o rfl (.load1 (.t rfl) (i := 0) rfl ty104 rfl)) (.s 26 [51] rfl rfl rfl (.o rfl (.ixGr sl104 ty68 (.t rfl) (.t rfl) ⟨by omega, by omega⟩)) ?_))
  refine .s 27 [53] rfl rfl rfl (.o rfl (.loadGM (.t rfl) (i := 2) rfl ty68 hrt)) (.fin [28, 29, 30, 31] (by kernel_rfl) (by kernel_rfl) (fun _ _ _ _ _ h => h) (by kernel_rfl) (by kernel_rfl) (by kernel_rfl) (by kernel_rfl) (by kernel_rfl) (by kernel_rfl) (by kernel_rfl) (by kernel_rfl) (by kernel_rfl) (.cv (Cv.wk (.l [0, 3, 4, 31, 38, 30, 35, 47, 54] rfl)) (st (.ixGr sl104 ty68 (.t rfl) (.t rfl) ⟨by omega, by omega⟩) rfl (.storeGM (z := ri) (.t rfl) (.t rfl) (i := 2) rfl ty68 (by omega) (M' := (_ :: _ :: grM _ _ _ :: _)) rfl (st (.ixGr sl104 ty68 (.t rfl) (.t rfl) ⟨by omega, by omega⟩) rfl (.storeGM (z := rt) (.t rfl) (.t rfl) (i := 2) rfl ty68 (by rw [List.length_set]; omega) (M' := (_ :: _ :: grM _ _ _ :: _)) rfl ?_))))))
  refine nl (.thn (k6 _ _ (.cv (Cv.wk (.l [0, 3, 4] rfl)) (.seq fun _ k7 => ?_))))
  obtain ⟨rs1, hrs1⟩ : ∃ rs1, rs1 = (rs.set ps.length ri).set (ps.length + n0) rt := ⟨_, rfl⟩
  have hl1 : rs1.length = rs.length := by rw [hrs1, List.length_set, List.length_set]
  have hrow1 : ∀ r ∈ rs1, r.2.length = W := by rw [hrs1]; exact swQ_rows hrow hri hrt
  have hqb1 : ∀ r ∈ rs1, QB r.2 K := by rw [hrs1]; exact swQ_qb hqb hri hrt
  have hm1 : rs1.map Prod.snd = swQ (rs.map Prod.snd) ps.length n0 := by rw [hrs1]; exact swQ_map hri hrt
  obtain ⟨b, hb⟩ : ∃ b, rs1[ps.length]? = some b := ⟨_, List.getElem?_eq_getElem (by omega)⟩
  have hbW := hrow1 b (List.mem_of_getElem? hb)
  have hbB := hqb1 b (List.mem_of_getElem? hb)
  have hbm : (b.2.map nq).length = W := by rw [List.length_map]; exact hbW
  have htl : ps.length < rs1.length := (List.getElem?_eq_some_iff.1 hb).1
  have hb0 : qf b.2 col ≠ 0 := by
   have hx := ixn_yes (q := nzQ col) (d := []) (xs := (rs.map Prod.snd).drop ps.length) (by rw [List.length_drop, List.length_map, ← hn0]; exact hn1)
   rw [← hn0, List.getD_eq_getElem?_getD, List.getElem?_drop, List.getElem?_map, hri] at hx
   have hbe : b = ri := by
    by_cases e0 : n0 = 0
    ·subst e0
     rw [hrs1, Nat.add_zero, List.set_set, List.getElem?_set_self (by omega)] at hb
     have e1 : rt = ri := by rw [Nat.add_zero] at hri; exact Option.some.inj (hrt.symm.trans hri)
     rw [← Option.some.inj hb, e1]
    ·rw [hrs1, List.getElem?_set_ne (by omega), List.getElem?_set_self (by omega)] at hb
     exact (Option.some.inj hb).symm
   rw [hbe]
   simpa using hx
  refine .cv (Cv.perm (perm_tailQ (pre := [_, _, _]) (swQ_perm hri hrt))) (.memEq (M' := wkMQ bw gp gt rs1 C0 ps) (by subst hrs1; exact wkQ_len (by rw [List.length_set, List.length_set])) ?_)
  refine .region (st (.mv (.t rfl)) rfl (st (.nilc (.t rfl)) rfl (st (.fieldAddr (.t rfl) fld106_0 ty104) rfl (st (.load1 (.t rfl) (i := 0) rfl ty104 rfl) rfl (st (.mv (.t rfl)) rfl (st (.ixGr sl104 ty68 (.t rfl) (.t rfl) ⟨by omega, by omega⟩) rfl (st (.loadGM (.t rfl) (i := 2) rfl ty68 hb) rfl (st (.as (.t rfl)) rfl (nl (.thn (k7 _ _ (.cv (Cv.wk (.l [0, 3, 4, 6] rfl)) (.seq fun _ k8 => .drhS (.cons_cons _ (.cons_cons _ (.cons_cons _ (List.Sublist.refl _)))) (.s [] rfl rfl rfl (.o rfl (.call qmat_one .nil)) (.s [] rfl rfl rfl (.o rfl (.mv (.t rfl))) (.s [] rfl rfl rfl (.o rfl (.loadP1 (.t rfl) ty3)) (.s [66, 67] rfl rfl rfl (.o rfl (.ixGr sl68 ty75 (.t rfl) (.t rfl) ⟨by omega, by omega⟩)) ?_)))))))))))))))))
  refine .s [68] rfl rfl rfl (.o rfl (.loadGK rc_len (.t rfl) (i := 3 + ps.length) (wkAtQ (pre := [_, _, _]) hb) ty75 (getQ (i := col) (by omega)))) (.s [65, 69] rfl rfl rfl (.o rfl (.call (rat_Quo qs_one (hbB col) (by omega) hb0) (.cons (.t rfl) (.cons (.t rfl) .nil)))) (.s [70] rfl rfl rfl (.o rfl (.mv (.t rfl))) (.s [64] rfl rfl rfl (.o rfl (.ext (.t rfl) rfl)) (.s [64] rfl rfl rfl (.o rfl (.ext (.t rfl) rfl)) (.als2 (n1 := 10) (ds := [7]) (zs := [[isB false, SlM isU [], isB false, SlM isU []]]) rfl (.cons rfl rfl zero75 (fun _ _ => ⟨rfl, nilM _ _, rfl, nilM _ _, trivial⟩) .nil) (.cons_cons _ (.cons_cons _ (.cons_cons _ (List.Sublist.refl _)))) (Cs := [_]) rfl (.new [71] 0 (Ss' := [_, _, _, _]) (Cs' := [cellM [_, _, _, _]]) rfl (by kernel_rfl) (by kernel_rfl) rfl rfl rfl (by kernel_rfl) rfl (.t rfl) ty75 rfl rfl rfl rfl (.fin (n := 11) mixed rfl (by kernel_rfl) (by kernel_rfl) (by kernel_rfl) (fun bs hbs => ?_))))))))
  obtain ⟨b2, rfl⟩ := len1 hbs
  refine .memEq (M' := (_ :: _ :: _ :: _ :: _)) rfl (.cv (Cv.wk (.k 0 rfl (.k 3 rfl (.k 4 rfl (.k 6 rfl (.k 72 rfl (.cons (t := 7) (Has.op rfl) .nil))))))) (st (.as (.t rfl)) rfl (nl (.thn (k8 _ _ (.seq fun _ k9 => .seq fun _ k10 => .cv (Cv.freezeBoxY (t := 7) (fun k hk => wkQ_blks (by rw [hrs1]; exact swQ_perm hri hrt) hk) rfl rfl) ?_))))))
  refine .region (st (.mv (.t rfl)) rfl (st (.len sl68 (.t rfl)) rfl (st (.mv (.cI 0 rfl)) rfl (nl (.thn (k10 _ _ (.block (.loopF [0, 3, 4, 6, 7, 74] (fun (z : { k : Nat // k ≤ b.2.length }) => match z with | ⟨k, hk⟩ => [(75, isI (k : Int))]) (fun M => fun (z : { k : Nat // k ≤ b.2.length }) => match z with | ⟨k, hk⟩ => (wk0Q bw gp gt rs1.length C0 ps :: grM isI gp (pv ps) :: grM rowVQ gt rs1 :: (rs1.set ps.length (b.1, mxQ (scQ b.2 (1 / qf b.2 col)) b.2 k)).map rowMQ)) (fun (z : { k : Nat // k ≤ b.2.length }) => match z with | ⟨k, hk⟩ => b.2.length - k) (⟨0, Nat.zero_le _⟩) (Cv.mem (.c 75 rfl ?_ (.l [0, 3, 4, 6, 7, 74] rfl)) ?_) ?_))))))))
  ·rfl
  ·exact mixQ_start (pre := [_, _, _]) hb
  rintro ⟨k, hk⟩ K11 hK11
  refine .cv (Cv.wk (.l [75, 0, 3, 4, 6, 7, 74] rfl)) (.memEq (M' := (wk0Q bw gp gt rs1.length C0 ps :: grM isI gp (pv ps) :: grM rowVQ gt rs1 :: (rs1.set ps.length (b.1, mxQ (scQ b.2 (1 / qf b.2 col)) b.2 k)).map rowMQ)) rfl ?_)
  have hset : (rs1.set ps.length (b.1, mxQ (scQ b.2 (1 / qf b.2 col)) b.2 k))[ps.length]? = some (b.1, mxQ (scQ b.2 (1 / qf b.2 col)) b.2 k) := List.getElem?_set_self htl
  have hmx : ((mxQ (scQ b.2 (1 / qf b.2 col)) b.2 k).map nq).length = b.2.length := by rw [List.length_map, mxQ_len (scQ_len _ _) hk]
  refine .seq fun _ k12 => .region (st (.ltI (.t rfl) (.t rfl)) rfl (nl (.thn (k12 _ _ (.seq fun _ k13 => .cond (.t rfl) (fun hc2 => ?_) (fun hc2 => ?_))))))
  ·have hc2 := BP.t hc2
   refine .skip (.thn (k13 _ _ (.seq fun _ k14 => .block (.seq fun _ k15 => .region (st (.mv (.t rfl)) rfl (st (.as (.t rfl)) rfl (nl (.thn (k15 _ _ (.dr (.s [] rfl rfl rfl (.o rfl (.mv (.t rfl))) (.s [] rfl rfl rfl (.o rfl (.mv (.t rfl))) (.s [] rfl rfl rfl (.o rfl (.mv (.t rfl))) (.s [] rfl rfl rfl (.o rfl (.mv (.t rfl))) (.s [80, 81] rfl rfl rfl (.o rfl (.ixGr sl68 ty75 (.t rfl) (.t rfl) ⟨by omega, by omega⟩)) ?_)))))))))))))))
   refine .s [82] rfl rfl rfl (.o rfl (.loadGK rc_len (.t rfl) (i := 3 + ps.length) (wkAtQ (pre := [_, _, _]) (r := (b.1, mxQ (scQ b.2 (1 / qf b.2 col)) b.2 k)) hset) ty75 (mxQ_at (scQ_len _ _) (by omega)))) (.s [] rfl rfl rfl (.o rfl (.loadP (.t rfl) ty75 rfl (Ss' := [_, _, _, _]) rfl)) (.s [83, 84] rfl rfl rfl (.o rfl (.call (rat_Mul (hbB k) (qs_quo qs_one (hbB col)) (by omega)) (.cons (.t rfl) (.cons (.t rfl) .nil)))) (.fin (n := 8) mixed (by kernel_rfl) (by kernel_rfl) (by kernel_rfl) (.cv (Cv.wk (.l [0, 3, 4, 6, 7, 74, 75, 76, 77, 9, 78, 79, 80, 81, 82, 83, 84, 85] rfl)) (st (.ixGr sl68 ty75 (.t rfl) (.t rfl) ⟨by omega, by omega⟩) rfl (.storeGK (z := nq (qf b.2 k * (1 / qf b.2 col))) rc_len (.t rfl) (.t rfl) (i := 3 + ps.length) (wkAtQ (pre := [_, _, _]) (r := (b.1, mxQ (scQ b.2 (1 / qf b.2 col)) b.2 k)) hset) ty75 (by rw [List.length_map, mxQ_len (scQ_len _ _) (by omega)]; omega) (M' := (_ :: _ :: _ :: (rs1.set ps.length (b.1, mxQ (scQ b.2 (1 / qf b.2 col)) b.2 (k + 1))).map rowMQ)) (wkStoreQ (pre := [_, _, _]) (X := (b.1, mxQ (scQ b.2 (1 / qf b.2 col)) b.2 k)) hset (scQ_set (by omega))) ?_))))))
   refine nl (.bln (.thn (k14 _ _ (.region (st (.addI (.t rfl) (.cI 1 rfl) (by first | omega | assumption) (by first | omega | assumption)) rfl (st (.mv (.t rfl)) rfl (nl (.thn (hK11 (⟨k + 1, by omega⟩) _ _ ?_ (Cv.mem (.c 75 rfl ?_ (.l [0, 3, 4, 6, 7, 74] rfl)) ?_))))))))))
   ·show b.2.length - (k + 1) < b.2.length - k; omega
   ·exact isI_eq (by omega)
   ·rfl
  ·have hc2 := BP.f hc2
   refine .exit (.the (.the (.blh (.thn (k9 _ _ (.seq fun _ k16 => .seq fun _ k17 => .region (st (.mv (.t rfl)) rfl (st (.nilc (.t rfl)) rfl (st (.fieldAddr (.t rfl) fld106_0 ty104) rfl (st (.load1 (.t rfl) (i := 0) rfl ty104 rfl) rfl (st (.len sl104 (.t rfl)) rfl (st (.mv (.cI 0 rfl)) rfl (nl (.thn (k17 _ _ (.cv (Cv.wk (.l [0, 3, 4, 6, 91, 92, 93] rfl)) (.block (.loopF [0, 3, 4, 6, 91, 92] (fun (z : { z : Nat × List RowQ // z.1 ≤ rs1.length ∧ TakQ rs1 ps.length col (scQ b.2 (1 / qf b.2 col)) z.1 z.2 }) => match z with | ⟨(r, rs3), hI⟩ => [(93, isI (r : Int))]) (fun M => fun (z : { z : Nat × List RowQ // z.1 ≤ rs1.length ∧ TakQ rs1 ps.length col (scQ b.2 (1 / qf b.2 col)) z.1 z.2 }) => match z with | ⟨(r, rs3), hI⟩ => wkMQ bw gp gt rs3 C0 ps) (fun (z : { z : Nat × List RowQ // z.1 ≤ rs1.length ∧ TakQ rs1 ps.length col (scQ b.2 (1 / qf b.2 col)) z.1 z.2 }) => match z with | ⟨(r, rs3), hI⟩ => rs1.length - r) (⟨(0, rs1.set ps.length (b.1, scQ b.2 (1 / qf b.2 col))), Nat.zero_le _, TakQ.start hb⟩) (Cv.mem (.c 93 rfl ?_ (.l [0, 3, 4, 6, 91, 92] rfl)) ?_) ?_))))))))))))))))))
   ·rfl
   ·exact (wkQ_round hb (scQ_len _ _) (by omega)).trans (wkQ_len (by rw [List.length_set]))
   rintro ⟨⟨r, rs3⟩, hI⟩ K18 hK18
   refine .cv (Cv.wk (.l [93, 0, 3, 4, 6, 91, 92] rfl)) (.memEq (M' := wkMQ bw gp gt rs3 C0 ps) rfl ?_)
   simp only [] at hI
   obtain ⟨hr0, hT⟩ := hI
   have hl3 := hT.len
   refine .seq fun _ k19 => .region (st (.ltI (.t rfl) (.t rfl)) rfl (nl (.thn (k19 _ _ (.seq fun _ k20 => .cond (.t rfl) (fun hc3 => ?_) (fun hc3 => ?_))))))
   ·have hc3 := BP.t hc3
    obtain ⟨x, hr⟩ : ∃ x, rs3[r]? = some x := ⟨_, List.getElem?_eq_getElem (by omega)⟩
    refine .skip (.thn (k20 _ _ (.seq fun _ k21 => .block (.seq fun _ k22 => .region (st (.mv (.t rfl)) rfl (st (.ixGr sl104 ty68 (.t rfl) (.t rfl) ⟨by omega, by omega⟩) rfl (st (.loadGM (.t rfl) (i := 2) rfl ty68 hr) rfl (st (.as (.t rfl)) rfl (st (.as (.t rfl)) rfl (nl (.thn (k22 _ _ (.seq fun _ k23 => .region (st (.mv (.t rfl)) rfl (st (.mv (.t rfl)) rfl (st (.neI (.t rfl) (.t rfl)) rfl (nl (.thn (k23 _ _ (.cond (.t rfl) (fun hc4 => ?_) (fun hc4 => ?_)))))))))))))))))))))
    ·have hc4 := BP.t hc4
     have hrt2 : r ≠ ps.length := (by omega)
     have hb3 : rs3[ps.length]? = some (b.1, scQ b.2 (1 / qf b.2 col)) := hT.top hb
     have hxr2 : rs1[r]? = some x := hT.here (by omega) hr hrt2
     have hxW : x.2.length = W := hrow1 x (List.mem_of_getElem? hxr2)
     have hxb : QB x.2 K := hqb1 x (List.mem_of_getElem? hxr2)
     have hxm : (x.2.map nq).length = W := by rw [List.length_map]; exact hxW
     refine .region (st (.mv (.t rfl)) rfl (st (.eq (.mv (.t rfl)) ((show isGr b.1 (b.2.map nq).length = isGr b.1 ((scQ b.2 (1 / qf b.2 col)).map nq).length from isGr_eq (by rw [List.length_map, List.length_map, scQ_len])))) rfl (st (.mv (.t rfl)) rfl (st (.loadP1 (.t rfl) ty3) rfl (st (.ixGr sl68 ty75 (.t rfl) (.t rfl) ⟨by omega, by omega⟩) rfl (st (.loadGK rc_len (.t rfl) (i := 3 + r) (wkAtQ (pre := [_, _, _]) hr) ty75 (getQ (i := col) (by omega))) rfl (.callX (qmat_take (K := K) (i := r) (t := ps.length) (c := qf x.2 col) (r := x) (b := (b.1, scQ b.2 (1 / qf b.2 col))) hxb ((scQ_qb hbB (qs_quo qs_one (hbB col))).mono (by omega)) (hxb col) hK hr hb3 hrt2 (by rw [scQ_len]; omega) (by omega)) (perm0 _) (.cons (.t rfl) (.cons (.t rfl) (.cons (.t rfl) .nil))) rfl ?_)))))))
     rintro _ _ ⟨rfl, rfl⟩
     refine .memEq (M' := wkMQ bw gp gt (rs3.set r (x.1, lsQ x.2 (scQ b.2 (1 / qf b.2 col)) (qf x.2 col))) C0 ps) (List.append_nil _) (nl (.bln (.thn (k21 _ _ (.region (st (.addI (.t rfl) (.cI 1 rfl) (by first | omega | assumption) (by first | omega | assumption)) rfl (st (.mv (.t rfl)) rfl (nl (.thn ?_)))))))))
     refine hK18 (⟨(r + 1, rs3.set r (x.1, lsQ x.2 (scQ b.2 (1 / qf b.2 col)) (qf x.2 col))), by show r + 1 ≤ _; omega, hT.step (by omega) hr hrt2⟩) _ _ ?_ (Cv.mem (.c 93 rfl ?_ (.l [0, 3, 4, 6, 91, 92] rfl)) ?_)
     ·show rs1.length - (r + 1) < rs1.length - r; omega
     ·exact isI_eq (by omega)
     ·rfl
    ·have hc4 := BP.f hc4
     have hrt2 : r = ps.length := (by omega)
     refine .skip (.bln (.thn (k21 _ _ (.region (st (.addI (.t rfl) (.cI 1 rfl) (by first | omega | assumption) (by first | omega | assumption)) rfl (st (.mv (.t rfl)) rfl (nl (.thn ?_))))))))
     refine hK18 (⟨(r + 1, rs3), by show r + 1 ≤ _; omega, hT.skip (by omega)⟩) _ _ ?_ (Cv.mem (.c 93 rfl ?_ (.l [0, 3, 4, 6, 91, 92] rfl)) ?_)
     ·show rs1.length - (r + 1) < rs1.length - r; omega
     ·exact isI_eq (by omega)
     ·rfl
   ·have hc3 := BP.f hc3
    refine .exit (.the (.the (.blh (.thn (k16 _ _ (.cv (Cv.wk (.l [0, 3] rfl)) (.dry mixed (.tk 0 rfl rfl rfl rfl (OKY.mv (.t rfl)) (.tk 1 rfl rfl rfl rfl (OKY.mv (.t rfl)) (.tk 2 rfl rfl rfl rfl (OKY.nilc (.t rfl)) (.tk 3 rfl rfl rfl rfl (OKY.fieldAddr (.t rfl) fld106_2 ty91) (.go [] (.s 4 [] rfl rfl rfl (.o rfl (.load1 (.t rfl) (i := 0) rfl ty91 rfl)) (.s 5 [] rfl rfl rfl (.o rfl (.loadP1 (.t rfl) ty3)) (.s 6 [114] rfl rfl rfl (.o rfl (.buildS [isI 0] sl91 ty3 zero3 (fun _ _ => ⟨⟨rfl, by decide, by decide⟩, trivial⟩) rfl rfl (.cons (.t rfl) rfl rfl rfl .nil) rfl (S := SlM isI [(col : Int)]) rfl)) (.fin [7, 8, 9, 10] (by kernel_rfl) (by kernel_rfl) (fun _ _ _ _ _ h => h) (by kernel_rfl) (by kernel_rfl) (by kernel_rfl) (by kernel_rfl) (by kernel_rfl) (by kernel_rfl) (by kernel_rfl) (by kernel_rfl) (by kernel_rfl) (.cv (Cv.wk (.l [109, 113, 115] rfl)) (.appendG (f := isI) (u := 0) sl91 ty3 zero3 (fun _ _ => ⟨⟨rfl, by decide, by decide⟩, trivial⟩) (fun _ => inferInstance) by3 (.t rfl) (i := 1) rfl (.t rfl) (by rw [hpv]; show ps.length + 1 ≤ _; omega) (by simp) rfl fun gr1 => ?_))))))))))))))))))
    refine .memEq (M' := (_ :: grM _ _ _ :: _ :: _)) rfl (st (.nilc (.t rfl)) rfl (st (.fieldAddr (.t rfl) fld106_2 ty91) rfl (.store (.t rfl) (.t rfl) (i := 0) rfl ty91 rfl rfl (Ss' := [_, _, _]) rfl (M' := ((some _, cellM [_, _, _]) :: _ :: _ :: _)) rfl (nl (rtX0 (.inr rfl) Tryz.results106 rfl ?_)))))
    have hfc := qcol_did hn0 hn1 hm1 hb (hT.mono (by omega))
    exact ⟨gr1, rs3, rfl, (wkQ_app rfl rfl).trans (by rw [hfc]), by rw [hfc]⟩
theorem qmat_reduced {R C D K : Nat} {xs ys : List Rat} (hx : QB xs K) (hy : QB ys K) (hK1 : 1 ≤ K) (hK : 8 ^ C * K ≤ 100000000) (hR : R ≤ 64) (hC : C ≤ 64) (hD : D ≤ 64) (hxl : xs.length = R * C) (hyl : ys.length = R * D) : Ctr Tryz.prog 74 [isMQ R C xs, isMQ R D ys] (wkFQ C (qred ⟨rowsQ R C D xs ys, []⟩ C)) := by
 refine Ctr.intro Tryz.func74 rfl (by kernel_rfl) Tryz.ntmps74 rfl fun w0 F0 => .cv (Cv.wk (.l [0, 1] rfl)) ?_
 have hK9 : K ≤ 8 ^ C * K := Nat.le_mul_of_pos_left _ (Nat.pow_pos (by decide))
 refine .seq fun _ k1 => .region (.box (.t rfl) rfl fun b1 => .box (.t rfl) rfl fun b2 => st (.as Has.cP) rfl (nl (.thn (k1 _ _ (.seq fun _ k2 => .region (st (.load (.t rfl) (i := 1) rfl ty70 rfl (Ss' := [_, _, _]) rfl) rfl (st (.load (.t rfl) (i := 0) rfl ty70 rfl (Ss' := [_, _, _]) rfl) rfl (.cv (Cv.drop ((.cons _ (.cons _ .slnil)))) (.cv (Cv.wk (.l [0, 1, 4, 7, 8] rfl)) (.callX (qmat_begun hx hy (by omega) hR hC hD hxl hyl) (List.Perm.refl _) (.cons (.t rfl) (.cons (.t rfl) .nil)) rfl ?_))))))))))
 rintro _ _ ⟨bw, gt, rs0, rfl, rfl, hrs0⟩
 refine .memEq (M' := wkMQ bw Gr.nil gt rs0 C []) (List.append_nil _) (st (.as (.t rfl)) rfl (nl (.thn (k2 _ _ (.cv (Cv.wk (.l [4, 5] rfl)) (.seq fun _ k3 => .seq fun _ k4 => .region (st (.as (.cI 0 rfl)) rfl (nl (.thn (k4 _ _ (.block (.loopF [4, 5] (fun (z : { z : Nat × Gr Int × List RowQ // z.1 ≤ C ∧ z.2.2.map Prod.snd = (qred ⟨rowsQ R C D xs ys, []⟩ z.1).rows }) => match z with | ⟨(c, gp, rs), hI⟩ => [(6, isI (c : Int))]) (fun M => fun (z : { z : Nat × Gr Int × List RowQ // z.1 ≤ C ∧ z.2.2.map Prod.snd = (qred ⟨rowsQ R C D xs ys, []⟩ z.1).rows }) => match z with | ⟨(c, gp, rs), hI⟩ => wkMQ bw gp gt rs C (qred ⟨rowsQ R C D xs ys, []⟩ c).ps) (fun (z : { z : Nat × Gr Int × List RowQ // z.1 ≤ C ∧ z.2.2.map Prod.snd = (qred ⟨rowsQ R C D xs ys, []⟩ z.1).rows }) => match z with | ⟨(c, gp, rs), hI⟩ => C - c) (⟨(0, Gr.nil, rs0), Nat.zero_le _, hrs0⟩) (Cv.mem (.c 6 rfl ?_ (.l [4, 5] rfl)) ?_) ?_))))))))))))
 ·rfl
 ·rfl
 rintro ⟨⟨c, gp, rs⟩, hI⟩ K5 hK5
 refine .cv (Cv.wk (.l [6, 4, 5] rfl)) (.memEq (M' := wkMQ bw gp gt rs C (qred ⟨rowsQ R C D xs ys, []⟩ c).ps) rfl ?_)
 simp only [] at hI
 obtain ⟨hc, hrs⟩ := hI
 have hok := (qred_QI (W := C + D) (rowsQ_len R C D xs ys) (fun r hr => rowsQ_row hr) c (by omega)).1
 have hrl : rs.length = R := by rw [← List.length_map (f := Prod.snd), hrs]; exact hok.len
 have hpl := hok.ps
 have hpv := pv_len (qred ⟨rowsQ R C D xs ys, []⟩ c).ps
 have hrow : ∀ r ∈ rs, r.2.length = C + D := fun r hr => hok.row r.2 (by rw [← hrs]; exact List.mem_map.2 ⟨r, hr, rfl⟩)
 have hqb : ∀ r ∈ rs, QB r.2 (8 ^ c * K) := fun r hr => qred_qb (W := C + D) (rowsQ_len R C D xs ys) (fun r hr => rowsQ_row hr) hK1 (fun r hr => rowsQ_qb hx hy hK1 hr) c (by omega) r.2 (by rw [← hrs]; exact List.mem_map.2 ⟨r, hr, rfl⟩)
 have hKc : 8 ^ c * K ≤ 8 ^ C * K := Nat.mul_le_mul_right _ (Nat.pow_le_pow_right (by decide) hc)
 refine .seq fun _ k6 => .seq fun _ k7 => .dr (.s [] rfl rfl rfl (.o rfl (.mv (.t rfl))) (.s [] rfl rfl rfl (.o rfl (.mv (.t rfl))) (.s [11] rfl rfl rfl (.o rfl (.nilc (.t rfl))) (.s [12] rfl rfl rfl (.o rfl (.fieldAddr (.t rfl) fld106_1 ty3)) (.s [13] rfl rfl rfl (.o rfl (.load1 (.t rfl) (i := 0) rfl ty3 rfl)) (.s [10, 14] rfl rfl rfl (.o rfl (.ltI (.t rfl) (.t rfl))) (.s [15] rfl rfl rfl (.o rfl (.mv (.t rfl))) (.s [16] rfl rfl rfl (.T rfl rfl rfl (fun hg => .mv (.t rfl))) (.s [16, 17] rfl rfl rfl (.T rfl rfl rfl (fun hg => .nilc (Has.g rfl hg))) (.s [16, 18] rfl rfl rfl (.T rfl rfl rfl (fun hg => .fieldAddr (Has.g rfl hg) fld106_2 ty91)) (.s [16, 19] rfl rfl rfl (.T rfl rfl rfl (fun hg => .load1 (Has.g rfl hg) (i := 0) rfl ty91 rfl)) (.s [16, 20] rfl rfl rfl (.T rfl rfl rfl (fun hg => .len sl91 (Has.g rfl hg))) (.s [16] rfl rfl rfl (.T rfl rfl rfl (fun hg => .mv (.t rfl))) (.s [16, 22] rfl rfl rfl (.T rfl rfl rfl (fun hg => .nilc (Has.g rfl hg))) (.s [16, 23] rfl rfl rfl (.T rfl rfl rfl (fun hg => .fieldAddr (Has.g rfl hg) fld106_0 ty104)) (.s [16, 24] rfl rfl rfl (.T rfl rfl rfl (fun hg => .load1 (Has.g rfl hg) (i := 0) rfl ty104 rfl)) (.s [16, 25] rfl rfl rfl (.T rfl rfl rfl (fun hg => .len sl104 (Has.g rfl hg))) (.fin (n := 17) mixed (by kernel_rfl) (by kernel_rfl) (by kernel_rfl) (.cv (Cv.wk (.l [4, 5, 6, 10, 11, 12, 13, 14, 15, 16, 17, 18, 19, 20, 21, 22, 23, 24, 25, 26] rfl)) (stT rfl rfl (fun hg => .ltI (Has.g rfl hg) (Has.g rfl hg)) rfl (st (.pickAnd (.t rfl) (fun h => Has.g rfl h)) rfl (nl (.thn (k7 _ _ ?_))))))))))))))))))))))))
 refine .cond (.t rfl) (fun hc1 => ?_) (fun hc1 => ?_)
 ·have hc1 := BP.t hc1
  refine .skip (.thn (k6 _ _ (.seq fun _ k8 => .block (.region (st (.mv (.t rfl)) rfl (st (.mv (.t rfl)) rfl (.callX (qmat_column (K := 8 ^ c * K) (col := c) (W := C + D) hrow hqb (Nat.mul_pos (Nat.pow_pos (by decide)) hK1) (by omega) (by omega) (by omega) (by omega) (by omega)) (perm0 _) (.cons (.t rfl) (.cons (.t rfl) .nil)) rfl ?_)))))))
  rintro _ _ ⟨gp2, rs2, rfl, rfl, hrs2⟩
  refine .memEq (M' := wkMQ bw gp2 gt rs2 C (qcol ⟨rs.map Prod.snd, (qred ⟨rowsQ R C D xs ys, []⟩ c).ps⟩ c).ps) (List.append_nil _) (nl (.bln (.thn (k8 _ _ (.region (st (.mv (.t rfl)) rfl (st (.addI (.t rfl) (.cI 1 rfl) (by first | omega | assumption) (by first | omega | assumption)) rfl (st (.as (.t rfl)) rfl (nl (.thn ?_))))))))))
  rw [hrs] at hrs2
  refine hK5 (⟨(c + 1, gp2, rs2), by show c + 1 ≤ C; omega, hrs2⟩) _ _ ?_ (Cv.mem (.c 6 rfl ?_ (.l [4, 5] rfl)) ?_)
  ·show C - (c + 1) < C - c; omega
  ·exact isI_eq (by omega)
  ·rw [hrs]; rfl
 ·have hc1 := BP.f hc1
  refine .exit (.the (.the (.blh (.thn (k3 _ _ (.cv (Cv.wk (.l [4, 5] rfl)) (.seq fun _ k9 => .cv (Cv.freezeWkQ (t := 5) rfl rfl) (.region (st (.mv (.t rfl)) rfl (st (.as (.t rfl)) rfl (nl (.thn (k9 _ _ (.ret (rt1 (.inl rfl) Tryz.results74 rfl (.tmp (Has.t' rfl ?_) .nil))))))))))))))))
  all_goals (rw [hrs, qred_stop hc (by rw [← hrs, List.length_map]; omega)])
theorem sl_IndexIQ {xs : List Int} {v : Int} : Ctr Tryz.prog 80 [SlM isI xs, isI v] (isI (ixf (fun x => decide (v = x)) xs)) := by
 refine Ctr.intro Tryz.func80 rfl (by kernel_rfl) Tryz.ntmps80 rfl fun w0 F0 => .cv (Cv.wk (.l [0, 1] rfl)) (.fact (Has.lenLt (Has.t (t := 0) rfl)) fun lt0 => .fact (Has.rngI (Has.t (t := 1) rfl)) fun lt1 => .seq fun _ k1 => .region (st (.as (.cI 0 rfl)) rfl (nl (.thn (k1 _ _ (.seq fun _ k2 => .seq fun _ k3 => .region (st (.mv (.t rfl)) rfl (st (.len sl91 (.t rfl)) rfl (st (.mv (.cI 0 rfl)) rfl (nl (.thn (k3 _ _ (.block (.loopF [0, 1, 7] (fun (z : { i : Nat // i ≤ xs.length ∧ ∀ j, j < i → decide (v = xs.getD j 0) = false }) => match z with | ⟨i, hI⟩ => [(8, isI (i : Int))]) (fun M => fun (z : { i : Nat // i ≤ xs.length ∧ ∀ j, j < i → decide (v = xs.getD j 0) = false }) => match z with | ⟨i, hI⟩ => M) (fun (z : { i : Nat // i ≤ xs.length ∧ ∀ j, j < i → decide (v = xs.getD j 0) = false }) => match z with | ⟨i, hI⟩ => xs.length - i) (⟨0, Nat.zero_le _, fun j hj => absurd hj (Nat.not_lt_zero _)⟩) (Cv.mem (.c 8 rfl ?_ (.l [0, 1, 7] rfl)) ?_) ?_))))))))))))))
 ·rfl
 ·rfl
 rintro ⟨i, hi, hq⟩ K4 hK4
 refine .cv (Cv.wk (.l [8, 0, 1, 7] rfl)) (.seq fun _ k5 => .region (st (.ltI (.t rfl) (.t rfl)) rfl (nl (.thn (k5 _ _ (.seq fun _ k6 => .cond (.t rfl) (fun hc1 => ?_) (fun hc1 => ?_)))))))
 ·have hc1 := BP.t hc1
  refine .skip (.thn (k6 _ _ (.seq fun _ k7 => .block (.seq fun _ k8 => .region (st (.mv (.t rfl)) rfl (st (.as (.t rfl)) rfl (nl (.thn (k8 _ _ (.seq fun _ k9 => .region (st (.mv (.t rfl)) rfl (st (.mv (.t rfl)) rfl (st (.mv (.t rfl)) rfl (st (.ixP sl91 ty3 (.t rfl) (.t rfl) ⟨by omega, by omega⟩ (getD_some (d := 0) (by first | omega | (simp only [Int.toNat_natCast, List.length_set]; omega)))) rfl ?_))))))))))))))
  refine st (.loadP1 (.t rfl) ty3) rfl (st (.eqI (.t rfl) (.t rfl)) rfl (nl (.thn (k9 _ _ (.cond (.t rfl) (fun hc2 => ?_) (fun hc2 => ?_))))))
  ·have hc2 := BP.t hc2
   have HQ := hc2
   refine .seq fun _ k10 => .region (st (.mv (.t rfl)) rfl (st (.as (.t rfl)) rfl (nl (.thn (k10 _ _ (.ret (.blr (.thr (.thr (.blr (.thr (rt1 (.inl rfl) Tryz.results80 rfl (.tmp (Has.t' rfl ?_) .nil)))))))))))))
   all_goals (exact isI_eq (ixf_at (q := fun x => decide (v = x)) (d := 0) (by omega) hq (by simpa using HQ)))
  ·have hc2 := BP.f hc2
   have HQ := hc2
   refine .skip (.bln (.thn (k7 _ _ (.region (st (.addI (.t rfl) (.cI 1 rfl) (by first | omega | assumption) (by first | omega | assumption)) rfl (st (.mv (.t rfl)) rfl (nl (.thn ?_))))))))
   refine hK4 (⟨i + 1, by omega, fun j hj => by rcases Nat.lt_or_ge j i with h | h; exact hq j h; obtain rfl : j = i := (by omega); simpa using HQ⟩) _ _ ?_ (Cv.mem (.c 8 rfl ?_ (.l [0, 1, 7] rfl)) ?_)
   ·show xs.length - (i + 1) < xs.length - i; omega
   ·exact isI_eq (by omega)
   ·rfl
 ·have hc1 := BP.f hc1
  refine .exit (.the (.the (.blh (.thn (k2 _ _ (.cv (Cv.wk .nil) (.seq fun _ k11 => .region (st (.as (.cI (-1) rfl)) rfl (nl (.thn (k11 _ _ (.ret (rt1 (.inl rfl) Tryz.results80 rfl (.tmp (Has.t' rfl ?_) .nil))))))))))))))
  all_goals (exact isI_eq (ixf_none (q := fun x => decide (v = x)) (d := 0) (i := i) (by omega) hq))
theorem sl_IndexFuncR1 {K : Nat} {L : List Rat} {t : Rat → Bool} (hb : QB L K) (hl : L.length ≤ 128) : Ctr Tryz.prog 107 [isQs L, isFun (ι := { q : Rat // qs q ≤ K }) Tryz.prog (fun p => [isQ p.1]) (fun p => isB (t p.1))] (isI (ixf t L)) := by
 refine Ctr.intro Tryz.func107 rfl (by kernel_rfl) Tryz.ntmps107 rfl fun w0 F0 => .cv (Cv.wk (.l [0, 1] rfl)) ?_
 have hml : (L.map nq).length = L.length := List.length_map _
 refine .seq fun _ k1 => .region (st (.as (.cI 0 rfl)) rfl (nl (.thn (k1 _ _ (.seq fun _ k2 => .seq fun _ k3 => .region (st (.mv (.t rfl)) rfl (st (.len sl68 (.t rfl)) rfl (st (.mv (.cI 0 rfl)) rfl (nl (.thn (k3 _ _ (.block (.loopF [0, 1, 7] (fun (z : { i : Nat // i ≤ L.length ∧ ∀ j, j < i → t (L.getD j 0) = false }) => match z with | ⟨i, hI⟩ => [(8, isI (i : Int))]) (fun M => fun (z : { i : Nat // i ≤ L.length ∧ ∀ j, j < i → t (L.getD j 0) = false }) => match z with | ⟨i, hI⟩ => M) (fun (z : { i : Nat // i ≤ L.length ∧ ∀ j, j < i → t (L.getD j 0) = false }) => match z with | ⟨i, hI⟩ => L.length - i) (⟨0, Nat.zero_le _, fun j hj => absurd hj (Nat.not_lt_zero _)⟩) (Cv.mem (.c 8 rfl ?_ (.l [0, 1, 7] rfl)) ?_) ?_)))))))))))))
 ·rfl
 ·rfl
 rintro ⟨i, hi, hq⟩ K4 hK4
 refine .cv (Cv.wk (.l [8, 0, 1, 7] rfl)) (.seq fun _ k5 => .region (st (.ltI (.t rfl) (.t rfl)) rfl (nl (.thn (k5 _ _ (.seq fun _ k6 => .cond (.t rfl) (fun hc1 => ?_) (fun hc1 => ?_)))))))
 ·have hc1 := BP.t hc1
  refine .skip (.thn (k6 _ _ (.seq fun _ k7 => .block (.seq fun _ k8 => .region (st (.mv (.t rfl)) rfl (st (.as (.t rfl)) rfl (nl (.thn (k8 _ _ (.seq fun _ k9 => .region (st (.mv (.t rfl)) rfl (st (.mv (.t rfl)) rfl (st (.mv (.t rfl)) rfl (st (.ixK sl68 ty75 (.t rfl) (.t rfl) rc_len ⟨by omega, by omega⟩ (getQ (i := i) (by omega))) rfl (st (.loadP (.t rfl) ty75 rfl (Ss' := [_, _, _, _]) rfl) rfl (st (.callV ⟨qf L i, hb i⟩ (.t rfl) (.cons (.t rfl) .nil)) rfl (nl (.thn (k9 _ _ (.cond (.t rfl) (fun hc2 => ?_) (fun hc2 => ?_)))))))))))))))))))))
  ·have hc2 := BP.t hc2
   have HQ : t (L.getD i 0) = true := hc2
   refine .seq fun _ k10 => .region (st (.mv (.t rfl)) rfl (st (.as (.t rfl)) rfl (nl (.thn (k10 _ _ (.ret (.blr (.thr (.thr (.blr (.thr (rt1 (.inl rfl) Tryz.results107 rfl (.tmp (Has.t' rfl ?_) .nil)))))))))))))
   all_goals (exact isI_eq (ixf_at (d := 0) (by omega) hq HQ))
  ·have hc2 := BP.f hc2
   have HQ : t (L.getD i 0) = false := hc2
   refine .skip (.bln (.thn (k7 _ _ (.region (st (.addI (.t rfl) (.cI 1 rfl) (by first | omega | assumption) (by first | omega | assumption)) rfl (st (.mv (.t rfl)) rfl (nl (.thn ?_))))))))
   refine hK4 (⟨i + 1, by omega, fun j hj => by rcases Nat.lt_or_ge j i with h | h; exact hq j h; obtain rfl : j = i := (by omega); exact HQ⟩) _ _ ?_ (Cv.mem (.c 8 rfl ?_ (.l [0, 1, 7] rfl)) ?_)
   ·show L.length - (i + 1) < L.length - i; omega
   ·exact isI_eq (by omega)
   ·rfl
 ·have hc1 := BP.f hc1
  refine .exit (.the (.the (.blh (.thn (k2 _ _ (.cv (Cv.wk .nil) (.seq fun _ k11 => .region (st (.as (.cI (-1) rfl)) rfl (nl (.thn (k11 _ _ (.ret (rt1 (.inl rfl) Tryz.results107 rfl (.tmp (Has.t' rfl ?_) .nil))))))))))))))
  all_goals (exact isI_eq (ixf_none (d := 0) (i := i) (by omega) hq))
theorem sl_ContainsFuncQ {K : Nat} {L : List Rat} {t : Rat → Bool} (hb : QB L K) (hl : L.length ≤ 128) : Ctr Tryz.prog 75 [isQs L, isFun (ι := { q : Rat // qs q ≤ K }) Tryz.prog (fun p => [isQ p.1]) (fun p => isB (t p.1))] (isB (decide (0 ≤ ixf t L))) := by
 refine Ctr.intro Tryz.func75 rfl (by kernel_rfl) Tryz.ntmps75 rfl fun w0 F0 => .cv (Cv.wk (.l [0, 1] rfl)) (.seq fun _ k1 => .region (st (.as (.cB false)) rfl (nl (.thn (k1 _ _ (.seq fun _ k2 => .region (st (.mv (.t rfl)) rfl (st (.mv (.t rfl)) rfl (st (.call (sl_IndexFuncR1 hb hl) (.cons (.t rfl) (.cons (.t rfl) .nil))) rfl (st (.geI (.t rfl) (.cI 0 rfl)) rfl (st (.as (.t rfl)) rfl (nl (.thn (k2 _ _ (.cv (Cv.wk (.l [4] rfl)) (.ret (rt1 (.inl rfl) Tryz.results75 rfl (.tmp (Has.t' rfl ?_) .nil))))))))))))))))))
 all_goals (rfl)
theorem qmat_Solve_1 {q : Rat} {K : Nat} (hq : qs q ≤ K) (hK : K ≤ 900000000) : Ctr Tryz.prog 76 [isQ q] (isB (nzr q)) := by
 refine Ctr.intro Tryz.func76 rfl (by kernel_rfl) Tryz.ntmps76 rfl fun w0 F0 => .cv (Cv.wk (.l [0] rfl)) (.seq fun _ k1 => .region (.box (.t rfl) rfl fun b1 => st (.as (.cB false)) rfl (nl (.thn (k1 _ _ (.seq fun _ k2 => .region (st (.load (.t rfl) (i := 0) rfl ty75 rfl (Ss' := [_, _, _, _]) rfl) rfl (st (.call (rat_Sign hq (by omega)) (.cons (.t rfl) .nil)) rfl (st (.neI (.t rfl) (.cI 0 rfl)) rfl (st (.as (.t rfl)) rfl (nl (.thn (k2 _ _ (.cv (Cv.wk (.l [2] rfl)) (.ret (rt1 (.inl rfl) Tryz.results76 rfl (.tmp (Has.t' rfl ?_) .nil)))))))))))))))))
 all_goals (exact isB_eq (by simp [nzr, sgn_eq0, Rat.num_eq_zero]))
theorem qmat_Solve_2 {R C W K i k : Nat} {s : QS} (hs : s.rows.length = R) (hw : ∀ r ∈ s.rows, r.length = W) {r : Int} {xs : List Rat} (hps : s.ps.length ≤ R) (hC : C ≤ 64) (hk : C + k < W) (hW : W ≤ 128) : Ctr Tryz.prog 79 [isI (i : Int), isI (k : Int), PtrL [wkFQ C s], ptMQ r (C : Int) xs] (isQ (solQ s C i k)) := by
 refine Ctr.intro Tryz.func79 rfl (by kernel_rfl) Tryz.ntmps79 rfl fun w0 F0 => .cv (Cv.wk (.l [0, 1, 2, 3] rfl)) (.fact (Has.rngI (Has.t (t := 0) rfl)) fun lt0 => .fact (Has.rngI (Has.t (t := 1) rfl)) fun lt1 => ?_)
 obtain ⟨z0, hz0⟩ : ∃ z0 : Int, z0 = ixf (fun x => decide ((i : Int) = x)) (pv s.ps) := ⟨_, rfl⟩
 have hpv := pv_len s.ps
 refine .seq fun _ k1 => .region (.alloc [isB false, SlM isU [], isB false, SlM isU []] zero75 (fun _ _ => ⟨rfl, nilM _ _, rfl, nilM _ _, trivial⟩) rfl fun b1 => nl (.thn (k1 _ _ (.seq fun _ k2 => .seq fun _ k3 => .region (st (.loadP1 (.t rfl) ty102) rfl (st (.nilcP (.t rfl)) rfl (st (.fieldAddrP (.t rfl) fld106_2 ty91 (Ss' := [_]) rfl) rfl (st (.loadP1 (.t rfl) ty91) rfl (st (.mv (.t rfl)) rfl (st (.eq (.call (sl_IndexIQ) (.cons (.t rfl) (.cons (.t rfl) .nil))) ((show isI _ = isI z0 from isI_eq hz0.symm))) rfl (st (.as (.t rfl)) rfl (nl (.thn (k3 _ _ (.cv (Cv.wk (.l [1, 2, 3, 6, 7] rfl)) (.seq fun _ k4 => .region (st (.mv (.t rfl)) rfl (st (.geI (.t rfl) (.cI 0 rfl)) rfl (nl (.thn (k4 _ _ (.cond (.t rfl) (fun hc1 => ?_) (fun hc1 => ?_)))))))))))))))))))))))
 ·have hc1 := BP.t hc1
  obtain ⟨n0, rfl, hn0, hn1⟩ := ixq_yes hz0 (by omega)
  have hidx : idxQ s.ps i = n0 := hn0.symm
  have hrl : (s.rows.getD n0 []).length = W := hw _ (by rw [List.getD, List.getElem?_eq_getElem (by omega)]; exact List.getElem_mem _)
  have hrm : ((s.rows.getD n0 []).map nq).length = W := by rw [List.length_map]; exact hrl
  refine .seq fun _ k5 => .dr (.s [] rfl rfl rfl (.o rfl (.loadP1 (.t rfl) ty102)) (.s [16] rfl rfl rfl (.o rfl (.nilcP (.t rfl))) (.s [17] rfl rfl rfl (.o rfl (.fieldAddrP (.t rfl) fld106_0 ty104 (Ss' := [_, _, _]) rfl)) (.s [18] rfl rfl rfl (.o rfl (.loadP1 (.t rfl) ty104)) (.s [] rfl rfl rfl (.o rfl (.mv (.t rfl))) (.s [19, 20] rfl rfl rfl (.o rfl (.ixP sl104 ty68 (.t rfl) (.t rfl) ⟨by omega, by omega⟩ (getD_some (d := []) (by first | omega | (simp only [Int.toNat_natCast, List.length_set]; omega))))) ?_))))))
  refine .s [21] rfl rfl rfl (.o rfl (.eq (.loadP1 (.t rfl) ty68) ((show isQs _ = isQs (s.rows.getD n0 []) from rfl)))) (.s [] rfl rfl rfl (.o rfl (.fieldAddrP (.t rfl) fld70_1 ty3 (Ss' := [_, _]) rfl)) (.s [23] rfl rfl rfl (.o rfl (.loadP1 (.t rfl) ty3)) (.s [] rfl rfl rfl (.o rfl (.mv (.t rfl))) (.s [24, 25] rfl rfl rfl (.o rfl (.eq (.addI (.t rfl) (.t rfl) (by first | omega | assumption) (by first | omega | assumption)) ((show isI _ = isI ((C + k : Nat) : Int) from isI_eq (by omega))))) (.fin (n := 11) mixed (by kernel_rfl) (by kernel_rfl) (by kernel_rfl) (.cv (Cv.wk (.l [6, 22, 26] rfl)) (st (.ixK sl68 ty75 (.t rfl) (.t rfl) rc_len ⟨by omega, by omega⟩ (getQ (i := C + k) (by omega))) rfl (st (.loadP (.t rfl) ty75 rfl (Ss' := [_, _, _, _]) rfl) rfl (.store (.t rfl) (.t rfl) (i := 0) rfl ty75 rfl rfl (Ss' := [_, _, _, _]) rfl (M' := [(some _, cellM [_, _, _, _])]) rfl (nl (.thn (k5 _ _ (.ret (.thr (rt1 (.inl rfl) Tryz.results79 rfl (.cell rfl (i := 0) rfl ty75 rfl ?_ .nil))))))))))))))))
  all_goals (exact isQ_eq (by unfold solQ; rw [hidx, if_pos (by omega)]; rfl))
 ·have hc1 := BP.f hc1
  have hidx : ¬ idxQ s.ps i < s.ps.length := fun h => ixq_no hz0 (by omega) (by rw [hpv]; exact h)
  refine .skip (.thn (k2 _ _ (.cv (Cv.wk (.l [6] rfl)) (.seq fun _ k6 => .region (st (.call (qmat_zero) .nil) rfl (.store (.t rfl) (.t rfl) (i := 0) rfl ty75 rfl rfl (Ss' := [_, _, _, _]) rfl (M' := [(some _, cellM [_, _, _, _])]) rfl (nl (.thn (k6 _ _ (.ret (rt1 (.inl rfl) Tryz.results79 rfl (.cell rfl (i := 0) rfl ty75 rfl ?_ .nil))))))))))))
  all_goals (exact isQ_eq (by unfold solQ; rw [if_neg hidx]))
theorem ixq_lt {α : Type} {q : α → Bool} {xs : List α} (h : 0 ≤ ixf q xs) : ixn q xs < xs.length := Classical.byContradiction fun h1 => by
 unfold ixf at h
 rw [if_neg h1] at h; omega
theorem ixq_of_lt {α : Type} {q : α → Bool} {xs : List α} (h : ixn q xs < xs.length) : 0 ≤ ixf q xs := by
 unfold ixf
 rw [if_pos h]; omega
theorem qmat_Solve {R C D K : Nat} {xs ys : List Rat} (hx : QB xs K) (hy : QB ys K) (hK1 : 1 ≤ K) (hK : 8 ^ C * K ≤ 100000000) (hR : R ≤ 64) (hC : C ≤ 64) (hD : D ≤ 64) (hxl : xs.length = R * C) (hyl : ys.length = R * D) (hgood : ¬ badQ (redQ R C D xs ys) C) : Ctr Tryz.prog 40 [isMQ R C xs, isMQ R D ys] (isTup [isMQ C D (tabQ (C * D) D fun i k => solQ (redQ R C D xs ys) C i k), isI 0]) := by
 refine Ctr.intro Tryz.func40 rfl (by kernel_rfl) Tryz.ntmps40 rfl fun w0 F0 => .cv (Cv.wk (.l [0, 1] rfl)) ?_
 have hRC := side_le hR hC
 have hRD := side_le hR hD
 have hf1 := formB_true hR hC (show (xs.map nq).length = R * C by rw [List.length_map]; exact hxl)
 have hf2 := formB_true hR hD (show (ys.map nq).length = R * D by rw [List.length_map]; exact hyl)
 have hok := (qred_QI (W := C + D) (rowsQ_len R C D xs ys) (fun r hr => rowsQ_row hr) C (by omega)).1
 have hqa := qred_qb (W := C + D) (rowsQ_len R C D xs ys) (fun r hr => rowsQ_row hr) hK1 (fun r hr => rowsQ_qb hx hy hK1 hr) C (by omega)
 obtain ⟨s, hs⟩ : ∃ s, s = redQ R C D xs ys := ⟨_, rfl⟩
 have hok1 : s.rows.length = R := by rw [hs]; exact hok.len
 have hok2 : ∀ r ∈ s.rows, r.length = C + D := by rw [hs]; exact hok.row
 have hok3 : s.ps.length ≤ R := by rw [hs]; exact hok.ps
 have hok4 : ∀ r ∈ s.rows, QB r (8 ^ C * K) := by rw [hs]; exact hqa
 have hpv := pv_len s.ps
 have hsq : ∀ i k, qs (solQ s C i k) ≤ 8 ^ C * K := fun i k => by
  have h1 : 1 ≤ 8 ^ C * K := Nat.mul_pos (Nat.pow_pos (by decide)) hK1
  unfold solQ
  split
  ·exact hok4 _ (getD_mem (by omega)) _
  ·exact Nat.le_trans qs_zero h1
 rw [← hs]
 rw [← hs] at hgood
 refine .seq fun _ k1 => .region (.box (.t rfl) rfl fun b1 => .box (.t rfl) rfl fun b2 => .alloc [isI 0, isI 0, nilS] zero70 (fun _ _ => ⟨⟨rfl, by decide, by decide⟩, ⟨rfl, by decide, by decide⟩, rfl, trivial⟩) rfl fun b3 => st (.as (.cI 0 rfl)) rfl (nl (.thn (k1 _ _ (.seq fun _ k2 => .seq fun _ k3 => .region (st (.load (.t rfl) (i := 2) rfl ty70 rfl (Ss' := [_, _, _]) rfl) rfl (st (.eq (.call (qmat_Formed) (.cons (.t rfl) .nil)) ((show isB _ = isB true from isB_eq (hf1)))) rfl (st (.not (.t rfl)) rfl (st (.mv (.t rfl)) rfl (stF rfl rfl (fun hg => .load (.t rfl) (i := 1) rfl ty70 rfl (Ss' := [_, _, _]) rfl) rfl (stF rfl rfl (fun hg => .eq (.call (qmat_Formed) (.cons (Has.g rfl hg) .nil)) ((show isB _ = isB true from isB_eq (hf2)))) rfl (stF rfl rfl (fun hg => .not (Has.g rfl hg)) rfl (st (.pickOr (.t rfl) (fun h => Has.g rfl (ng h))) rfl (st (.mv (.t rfl)) rfl (stF rfl rfl (fun hg => .fieldAddr (.t rfl) fld70_0 ty3) rfl (stF rfl rfl (fun hg => .load1 (Has.g rfl hg) (i := 2) rfl ty3 rfl) rfl (stF rfl rfl (fun hg => .fieldAddr (.t rfl) fld70_0 ty3) rfl (stF rfl rfl (fun hg => .load1 (Has.g rfl hg) (i := 1) rfl ty3 rfl) rfl (stF rfl rfl (fun hg => .neI (Has.g rfl hg) (Has.g rfl hg)) rfl (st (.pickOr (.t rfl) (fun h => Has.g rfl (ng h))) rfl (nl (.thn (k3 _ _ (.cv (Cv.wk (.l [2, 3, 4, 5, 23] rfl)) (.cond (.t rfl) (fun hc1 => ?_) (fun hc1 => ?_))))))))))))))))))))))))))
 ·have hc1 := BP.t hc1
  exfalso; simp at hc1
 ·have hc1 := BP.f hc1
  refine .skip (.thn (k2 _ _ (.seq fun _ k4 => .region (st (.load (.t rfl) (i := 2) rfl ty70 rfl (Ss' := [_, _, _]) rfl) rfl ?_))))
  refine st (.load (.t rfl) (i := 1) rfl ty70 rfl (Ss' := [_, _, _]) rfl) rfl (st (.eq (.call (qmat_reduced hx hy hK1 hK hR hC hD hxl hyl) (.cons (.t rfl) (.cons (.t rfl) .nil))) ((show wkFQ C _ = wkFQ C s from by rw [hs]; rfl))) rfl ?_)
  refine .alloc [nilP] zero102 (fun _ _ => ⟨rfl, trivial⟩) rfl fun b4 => .store (.t rfl) (.t rfl) (i := 0) rfl ty102 rfl rfl (Ss' := [_]) rfl (M' := [(some _, cellM [_]), _, _, _]) rfl (nl (.thn (k4 _ _ (.seq fun _ k5 => .seq fun _ k6 => .dr (.s [] rfl rfl rfl (.o rfl (.load1 (.t rfl) (i := 0) rfl ty102 rfl)) (.s [28] rfl rfl rfl (.o rfl (.nilcP (.t rfl))) (.s [29] rfl rfl rfl (.o rfl (.fieldAddrP (.t rfl) fld106_0 ty104 (Ss' := [_, _, _]) rfl)) (.s [30] rfl rfl rfl (.o rfl (.loadP1 (.t rfl) ty104)) (.s [] rfl rfl rfl (.o rfl (.load1 (.t rfl) (i := 0) rfl ty102 rfl)) (.s [32] rfl rfl rfl (.o rfl (.nilcP (.t rfl))) (.s [33] rfl rfl rfl (.o rfl (.fieldAddrP (.t rfl) fld106_2 ty91 (Ss' := [_]) rfl)) (.s [34] rfl rfl rfl (.o rfl (.loadP1 (.t rfl) ty91)) (.s [35] rfl rfl rfl (.o rfl (.len sl91 (.t rfl))) ?_)))))))))))))
  refine .s [31, 36] rfl rfl rfl (.o rfl (.eq (.slLM sl104 ty68 (.t rfl) (.t rfl) ⟨by omega, by omega⟩) ((show SlM isQs _ = SlM isQs (s.rows.drop s.ps.length) from by rw [← hpv]; rfl)))) ?_
  refine .s [37] rfl rfl rfl (.o rfl (.len sl104 (.t rfl))) (.s [] rfl rfl rfl (.o rfl (.mv (.cI 0 rfl))) (.fin (n := 12) mixed (by kernel_rfl) (by kernel_rfl) (by kernel_rfl) (.cv (Cv.wk (.l [2, 3, 4, 5, 6, 37, 38, 39] rfl)) (nl (.thn (k6 _ _ (.block (.loopF [2, 3, 4, 6, 37, 38] (fun (z : { i : Nat // i ≤ (s.rows.drop s.ps.length).length }) => match z with | ⟨i, hI⟩ => [(39, isI (i : Int))]) (fun M => fun (z : { i : Nat // i ≤ (s.rows.drop s.ps.length).length }) => match z with | ⟨i, hI⟩ => M) (fun (z : { i : Nat // i ≤ (s.rows.drop s.ps.length).length }) => match z with | ⟨i, hI⟩ => (s.rows.drop s.ps.length).length - i) (⟨0, Nat.zero_le _⟩) (Cv.mem (.c 39 rfl ?_ (.l [2, 3, 4, 6, 37, 38] rfl)) ?_) ?_))))))))
  ·rfl
  ·rfl
  rintro ⟨i, hi⟩ K7 hK7
  refine .cv (Cv.wk (.l [39, 2, 3, 4, 6, 37, 38] rfl)) (.seq fun _ k8 => .region (st (.ltI (.t rfl) (.t rfl)) rfl (nl (.thn (k8 _ _ (.seq fun _ k9 => .cond (.t rfl) (fun hc2 => ?_) (fun hc2 => ?_)))))))
  ·have hc2 := BP.t hc2
   have hdl : (s.rows.drop s.ps.length).length = R - s.ps.length := by rw [List.length_drop, hok1]
   have hrm : (s.rows.drop s.ps.length).getD i [] ∈ s.rows.drop s.ps.length := getD_mem (by omega)
   have hrl := hok2 _ (List.mem_of_mem_drop hrm)
   have hrq := hok4 _ (List.mem_of_mem_drop hrm)
   have hrlm : (((s.rows.drop s.ps.length).getD i []).map nq).length = C + D := by rw [List.length_map]; exact hrl
   have hdq : ∀ c, QB (((s.rows.drop s.ps.length).getD i []).drop c) (8 ^ C * K) := fun c j => by unfold qf; rw [List.getD_eq_getElem?_getD, List.getElem?_drop, ← List.getD_eq_getElem?_getD]; exact hrq _
   refine .skip (.thn (k9 _ _ (.seq fun _ k10 => .block (.seq fun _ k11 => .region (st (.ixP sl104 ty68 (.t rfl) (.t rfl) ⟨by omega, by omega⟩ (getD_some (d := []) (by first | omega | (simp only [Int.toNat_natCast, List.length_set]; omega)))) rfl ?_)))))
   refine st (.eq (.loadP1 (.t rfl) ty68) ((show isQs _ = isQs ((s.rows.drop s.ps.length).getD i []) from rfl))) rfl (st (.as (.t rfl)) rfl (nl (.thn (k11 _ _ (.seq fun _ k12 => .region (st (.mv (.t rfl)) rfl (st (.fieldAddr (.t rfl) fld70_1 ty3) rfl (st (.load1 (.t rfl) (i := 3) rfl ty3 rfl) rfl (st (.eq (.slLK sl68 ty75 rc_len (.t rfl) (.t rfl) ⟨by omega, by omega⟩) ((show SlK 4 rc ((((s.rows.drop s.ps.length).getD i []).map nq).drop C) = isQs (((s.rows.drop s.ps.length).getD i []).drop C) from by rw [← List.map_drop]))) rfl (st (.eq (.call (sl_ContainsFuncQ (t := nzr) (hdq C) (by rw [List.length_drop]; omega)) (.cons (.t rfl) (.cons (Has.fn (ι := { q : Rat // qs q ≤ 8 ^ C * K }) (As := fun p => [isQ p.1]) (R := fun p => isB (nzr p.1)) (fun p => qmat_Solve_1 p.2 (by omega))) .nil))) ((show isB _ = isB (decide (0 ≤ ixf nzr (((s.rows.drop s.ps.length).getD i []).drop C))) from rfl))) rfl ?_))))))))))
   refine nl (.thn (k12 _ _ (.cond (.t rfl) (fun hc3 => ?_) (fun hc3 => ?_))))
   ·have hc3 := BP.t hc3
    exact absurd ⟨_, hrm, ixq_lt hc3⟩ hgood
   ·have hc3 := BP.f hc3
    refine .skip (.bln (.thn (k10 _ _ (.region (st (.addI (.t rfl) (.cI 1 rfl) (by first | omega | assumption) (by first | omega | assumption)) rfl (st (.mv (.t rfl)) rfl (nl (.thn (hK7 (⟨i + 1, by omega⟩) _ _ ?_ (Cv.mem (.c 39 rfl ?_ (.l [2, 3, 4, 6, 37, 38] rfl)) ?_))))))))))
    ·show (s.rows.drop s.ps.length).length - (i + 1) < (s.rows.drop s.ps.length).length - i; omega
    ·exact isI_eq (by omega)
    ·rfl
  ·have hc2 := BP.f hc2
   refine .exit (.the (.the (.blh (.thn (k5 _ _ (.seq fun _ k13 => .region (st (.fieldAddr (.t rfl) fld70_1 ty3) rfl (st (.load1 (.t rfl) (i := 3) rfl ty3 rfl) rfl (st (.fieldAddr (.t rfl) fld70_1 ty3) rfl (st (.load1 (.t rfl) (i := 2) rfl ty3 rfl) rfl (.cv (Cv.freezeBox (t := 6) (i := 0) rfl rfl rfl) (.memEq (M' := [_, _, _]) rfl (.cv (Cv.wk (.l [2, 3, 4, 6, 37, 38, 39, 40, 50, 51, 52, 53] rfl)) (.cv (Cv.freezeBox (t := 2) (i := 2) rfl rfl rfl) (.memEq (M' := [_, _]) rfl (.cv (Cv.wk (.l [2, 3, 4, 6, 37, 38, 39, 40, 51, 52, 53] rfl)) (st (.makeFn (ι := PI C D) (As := fun p => [isI (p.1.1 : Int), isI (p.1.2 : Int)]) (R := fun p => isQ (solQ s C p.1.1 p.1.2)) (fun p => qmat_Solve_2 (K := 0) hok1 hok2 hok3 hC (by have := p.2.2; omega) (by omega)) .nil (.cons (.t rfl) (.cons (.t rfl) .nil))) rfl ?_)))))))))))))))))
   refine st (.call (qmat_made (f := fun i k => solQ s C i k) hC hD (fun i k _ _ => hsq i k) (by omega)) (.cons (.t rfl) (.cons (.t rfl) (.cons (.t rfl) .nil)))) rfl (.store (.t rfl) (.t rfl) (i := 0) rfl ty70 rfl rfl (Ss' := [_, _, _]) rfl (M' := [(some _, cellM [_, _, _]), _]) rfl (st (.as (.cI 0 rfl)) rfl (nl (.thn (k13 _ _ (.cv (Cv.wk (.l [4, 5] rfl)) (.ret (rtN (.inl rfl) Tryz.results40 rfl rfl (.cell rfl (i := 0) rfl ty70 rfl ?_ (.tmp (Has.t' rfl ?_) .nil))))))))))
   ·rfl
   ·rfl
theorem qmat_Solve_none {R C D K : Nat} {xs ys : List Rat} (hx : QB xs K) (hy : QB ys K) (hK1 : 1 ≤ K) (hK : 8 ^ C * K ≤ 100000000) (hR : R ≤ 64) (hC : C ≤ 64) (hD : D ≤ 64) (hxl : xs.length = R * C) (hyl : ys.length = R * D) (hbad : badQ (redQ R C D xs ys) C) : Ctr Tryz.prog 40 [isMQ R C xs, isMQ R D ys] (isTup [isMQ 0 0 ([] : List Rat), isI 10]) := by
 refine Ctr.intro Tryz.func40 rfl (by kernel_rfl) Tryz.ntmps40 rfl fun w0 F0 => .cv (Cv.wk (.l [0, 1] rfl)) ?_
 have hRC := side_le hR hC
 have hRD := side_le hR hD
 have hf1 := formB_true hR hC (show (xs.map nq).length = R * C by rw [List.length_map]; exact hxl)
 have hf2 := formB_true hR hD (show (ys.map nq).length = R * D by rw [List.length_map]; exact hyl)
 have hok := (qred_QI (W := C + D) (rowsQ_len R C D xs ys) (fun r hr => rowsQ_row hr) C (by omega)).1
 have hqa := qred_qb (W := C + D) (rowsQ_len R C D xs ys) (fun r hr => rowsQ_row hr) hK1 (fun r hr => rowsQ_qb hx hy hK1 hr) C (by omega)
 obtain ⟨s, hs⟩ : ∃ s, s = redQ R C D xs ys := ⟨_, rfl⟩
 have hok1 : s.rows.length = R := by rw [hs]; exact hok.len
 have hok2 : ∀ r ∈ s.rows, r.length = C + D := by rw [hs]; exact hok.row
 have hok3 : s.ps.length ≤ R := by rw [hs]; exact hok.ps
 have hok4 : ∀ r ∈ s.rows, QB r (8 ^ C * K) := by rw [hs]; exact hqa
 have hpv := pv_len s.ps
 have hsq : ∀ i k, qs (solQ s C i k) ≤ 8 ^ C * K := fun i k => by
  have h1 : 1 ≤ 8 ^ C * K := Nat.mul_pos (Nat.pow_pos (by decide)) hK1
  unfold solQ
  split
  ·exact hok4 _ (getD_mem (by omega)) _
  ·exact Nat.le_trans qs_zero h1
 rw [← hs] at hbad
 refine .seq fun _ k1 => .region (.box (.t rfl) rfl fun b1 => .box (.t rfl) rfl fun b2 => .alloc [isI 0, isI 0, SlK 4 rc ([] : List ((Bool × List Nat) × Bool × List Nat))] zero70 (fun _ _ => ⟨⟨rfl, by decide, by decide⟩, ⟨rfl, by decide, by decide⟩, nilK, trivial⟩) rfl fun b3 => st (.as (.cI 0 rfl)) rfl (nl (.thn (k1 _ _ (.seq fun _ k2 => .seq fun _ k3 => .region (st (.load (.t rfl) (i := 2) rfl ty70 rfl (Ss' := [_, _, _]) rfl) rfl (st (.eq (.call (qmat_Formed) (.cons (.t rfl) .nil)) ((show isB _ = isB true from isB_eq (hf1)))) rfl (st (.not (.t rfl)) rfl (st (.mv (.t rfl)) rfl (stF rfl rfl (fun hg => .load (.t rfl) (i := 1) rfl ty70 rfl (Ss' := [_, _, _]) rfl) rfl (stF rfl rfl (fun hg => .eq (.call (qmat_Formed) (.cons (Has.g rfl hg) .nil)) ((show isB _ = isB true from isB_eq (hf2)))) rfl (stF rfl rfl (fun hg => .not (Has.g rfl hg)) rfl (st (.pickOr (.t rfl) (fun h => Has.g rfl (ng h))) rfl (st (.mv (.t rfl)) rfl (stF rfl rfl (fun hg => .fieldAddr (.t rfl) fld70_0 ty3) rfl (stF rfl rfl (fun hg => .load1 (Has.g rfl hg) (i := 2) rfl ty3 rfl) rfl (stF rfl rfl (fun hg => .fieldAddr (.t rfl) fld70_0 ty3) rfl (stF rfl rfl (fun hg => .load1 (Has.g rfl hg) (i := 1) rfl ty3 rfl) rfl (stF rfl rfl (fun hg => .neI (Has.g rfl hg) (Has.g rfl hg)) rfl (st (.pickOr (.t rfl) (fun h => Has.g rfl (ng h))) rfl (nl (.thn (k3 _ _ (.cv (Cv.wk (.l [2, 3, 4, 5, 23] rfl)) (.cond (.t rfl) (fun hc1 => ?_) (fun hc1 => ?_))))))))))))))))))))))))))
 ·have hc1 := BP.t hc1
  exfalso; simp at hc1
 ·have hc1 := BP.f hc1
  refine .skip (.thn (k2 _ _ (.seq fun _ k4 => .region (st (.load (.t rfl) (i := 2) rfl ty70 rfl (Ss' := [_, _, _]) rfl) rfl ?_))))
  refine st (.load (.t rfl) (i := 1) rfl ty70 rfl (Ss' := [_, _, _]) rfl) rfl (st (.eq (.call (qmat_reduced hx hy hK1 hK hR hC hD hxl hyl) (.cons (.t rfl) (.cons (.t rfl) .nil))) ((show wkFQ C _ = wkFQ C s from by rw [hs]; rfl))) rfl ?_)
  refine .alloc [nilP] zero102 (fun _ _ => ⟨rfl, trivial⟩) rfl fun b4 => .store (.t rfl) (.t rfl) (i := 0) rfl ty102 rfl rfl (Ss' := [_]) rfl (M' := [(some _, cellM [_]), _, _, _]) rfl (nl (.thn (k4 _ _ (.seq fun _ k5 => .seq fun _ k6 => .dr (.s [] rfl rfl rfl (.o rfl (.load1 (.t rfl) (i := 0) rfl ty102 rfl)) (.s [28] rfl rfl rfl (.o rfl (.nilcP (.t rfl))) (.s [29] rfl rfl rfl (.o rfl (.fieldAddrP (.t rfl) fld106_0 ty104 (Ss' := [_, _, _]) rfl)) (.s [30] rfl rfl rfl (.o rfl (.loadP1 (.t rfl) ty104)) (.s [] rfl rfl rfl (.o rfl (.load1 (.t rfl) (i := 0) rfl ty102 rfl)) (.s [32] rfl rfl rfl (.o rfl (.nilcP (.t rfl))) (.s [33] rfl rfl rfl (.o rfl (.fieldAddrP (.t rfl) fld106_2 ty91 (Ss' := [_]) rfl)) (.s [34] rfl rfl rfl (.o rfl (.loadP1 (.t rfl) ty91)) (.s [35] rfl rfl rfl (.o rfl (.len sl91 (.t rfl))) ?_)))))))))))))
  refine .s [31, 36] rfl rfl rfl (.o rfl (.eq (.slLM sl104 ty68 (.t rfl) (.t rfl) ⟨by omega, by omega⟩) ((show SlM isQs _ = SlM isQs (s.rows.drop s.ps.length) from by rw [← hpv]; rfl)))) ?_
  refine .s [37] rfl rfl rfl (.o rfl (.len sl104 (.t rfl))) (.s [] rfl rfl rfl (.o rfl (.mv (.cI 0 rfl))) (.fin (n := 12) mixed (by kernel_rfl) (by kernel_rfl) (by kernel_rfl) (.cv (Cv.wk (.l [2, 3, 4, 5, 6, 37, 38, 39] rfl)) (nl (.thn (k6 _ _ (.block (.loopF [2, 3, 4, 6, 37, 38] (fun (z : { i : Nat // i ≤ (s.rows.drop s.ps.length).length ∧ ∀ j, j < i → ¬ ixn nzr (((s.rows.drop s.ps.length).getD j []).drop C) < (((s.rows.drop s.ps.length).getD j []).drop C).length }) => match z with | ⟨i, hI⟩ => [(39, isI (i : Int))]) (fun M => fun (z : { i : Nat // i ≤ (s.rows.drop s.ps.length).length ∧ ∀ j, j < i → ¬ ixn nzr (((s.rows.drop s.ps.length).getD j []).drop C) < (((s.rows.drop s.ps.length).getD j []).drop C).length }) => match z with | ⟨i, hI⟩ => M) (fun (z : { i : Nat // i ≤ (s.rows.drop s.ps.length).length ∧ ∀ j, j < i → ¬ ixn nzr (((s.rows.drop s.ps.length).getD j []).drop C) < (((s.rows.drop s.ps.length).getD j []).drop C).length }) => match z with | ⟨i, hI⟩ => (s.rows.drop s.ps.length).length - i) (⟨0, Nat.zero_le _, fun j hj => absurd hj (Nat.not_lt_zero _)⟩) (Cv.mem (.c 39 rfl ?_ (.l [2, 3, 4, 6, 37, 38] rfl)) ?_) ?_))))))))
  ·rfl
  ·rfl
  rintro ⟨i, hi, hq2⟩ K7 hK7
  refine .cv (Cv.wk (.l [39, 2, 3, 4, 6, 37, 38] rfl)) (.seq fun _ k8 => .region (st (.ltI (.t rfl) (.t rfl)) rfl (nl (.thn (k8 _ _ (.seq fun _ k9 => .cond (.t rfl) (fun hc2 => ?_) (fun hc2 => ?_)))))))
  ·have hc2 := BP.t hc2
   have hdl : (s.rows.drop s.ps.length).length = R - s.ps.length := by rw [List.length_drop, hok1]
   have hrm : (s.rows.drop s.ps.length).getD i [] ∈ s.rows.drop s.ps.length := getD_mem (by omega)
   have hrl := hok2 _ (List.mem_of_mem_drop hrm)
   have hrq := hok4 _ (List.mem_of_mem_drop hrm)
   have hrlm : (((s.rows.drop s.ps.length).getD i []).map nq).length = C + D := by rw [List.length_map]; exact hrl
   have hdq : ∀ c, QB (((s.rows.drop s.ps.length).getD i []).drop c) (8 ^ C * K) := fun c j => by unfold qf; rw [List.getD_eq_getElem?_getD, List.getElem?_drop, ← List.getD_eq_getElem?_getD]; exact hrq _
   refine .skip (.thn (k9 _ _ (.seq fun _ k10 => .block (.seq fun _ k11 => .region (st (.ixP sl104 ty68 (.t rfl) (.t rfl) ⟨by omega, by omega⟩ (getD_some (d := []) (by first | omega | (simp only [Int.toNat_natCast, List.length_set]; omega)))) rfl ?_)))))
   refine st (.eq (.loadP1 (.t rfl) ty68) ((show isQs _ = isQs ((s.rows.drop s.ps.length).getD i []) from rfl))) rfl (st (.as (.t rfl)) rfl (nl (.thn (k11 _ _ (.seq fun _ k12 => .region (st (.mv (.t rfl)) rfl (st (.fieldAddr (.t rfl) fld70_1 ty3) rfl (st (.load1 (.t rfl) (i := 3) rfl ty3 rfl) rfl (st (.eq (.slLK sl68 ty75 rc_len (.t rfl) (.t rfl) ⟨by omega, by omega⟩) ((show SlK 4 rc ((((s.rows.drop s.ps.length).getD i []).map nq).drop C) = isQs (((s.rows.drop s.ps.length).getD i []).drop C) from by rw [← List.map_drop]))) rfl (st (.eq (.call (sl_ContainsFuncQ (t := nzr) (hdq C) (by rw [List.length_drop]; omega)) (.cons (.t rfl) (.cons (Has.fn (ι := { q : Rat // qs q ≤ 8 ^ C * K }) (As := fun p => [isQ p.1]) (R := fun p => isB (nzr p.1)) (fun p => qmat_Solve_1 p.2 (by omega))) .nil))) ((show isB _ = isB (decide (0 ≤ ixf nzr (((s.rows.drop s.ps.length).getD i []).drop C))) from rfl))) rfl ?_))))))))))
   refine nl (.thn (k12 _ _ (.cond (.t rfl) (fun hc3 => ?_) (fun hc3 => ?_))))
   ·have hc3 := BP.t hc3
    skip
    refine .seq fun _ k13 => .region (st (.build [isI 0, isI 0, SlK 4 rc ([] : List ((Bool × List Nat) × Bool × List Nat))] pl70 zero70 (fun _ _ => ⟨⟨rfl, by decide, by decide⟩, ⟨rfl, by decide, by decide⟩, nilK, trivial⟩) .nil (Z'' := [_, _, _]) rfl) rfl (.store (.t rfl) (.t rfl) (i := 1) rfl ty70 rfl rfl (Ss' := [_, _, _]) rfl (M' := [_, (some _, cellM [_, _, _]), _, _]) rfl (st (.as (.cI 10 rfl)) rfl (nl (.thn (k13 _ _ (.ret (.blr (.thr (.thr (.blr (.thr (rtN (.inl rfl) Tryz.results40 rfl rfl (.cell rfl (i := 1) rfl ty70 rfl ?_ (.tmp (Has.t' rfl ?_) .nil)))))))))))))))
    ·rfl
    ·rfl
   ·have hc3 := BP.f hc3
    have HQ := hc3
    refine .skip (.bln (.thn (k10 _ _ (.region (st (.addI (.t rfl) (.cI 1 rfl) (by first | omega | assumption) (by first | omega | assumption)) rfl (st (.mv (.t rfl)) rfl (nl (.thn ?_))))))))
    refine hK7 (⟨i + 1, by omega, fun j hj => by rcases Nat.lt_or_ge j i with h | h; exact hq2 j h; obtain rfl : j = i := (by omega); exact fun h => by have := ixq_of_lt h; omega⟩) _ _ ?_ (Cv.mem (.c 39 rfl ?_ (.l [2, 3, 4, 6, 37, 38] rfl)) ?_)
    ·show (s.rows.drop s.ps.length).length - (i + 1) < (s.rows.drop s.ps.length).length - i; omega
    ·exact isI_eq (by omega)
    ·rfl
  ·have hc2 := BP.f hc2
   exfalso; obtain ⟨x, hx9, hx2⟩ := hbad; obtain ⟨j, hj⟩ := List.mem_iff_getElem?.1 hx9; exact hq2 j (by have := (List.getElem?_eq_some_iff.1 hj).1; omega) (by rw [List.getD, hj]; exact hx2)
end Go.Proofs.YtcfobalbkhgdmaaGreat
namespace Go.En
open Go.RowKit
section
variable {E : Env} {P : Program} {Γ : Ctx} {M : Mem} {ty : TypeId} {pos : String} {after : Array Edge} {gd : Option (Nat × Bool)} {d : Option Tmp}
 {ops : Array Oper} {Q : Exit → Act → World → Prop} {rest : List Oper}
theorem callX_wp {Δ : Ctx} {g : FuncId} {xs : List Operand} {ts : Array TypeId} {args : List VP} {Mp Mr : Mem} {R : VP → Mem → Prop} {d : Nat} (hf : CtrX P g args Mp R) (hx : HasL E Δ (Mp ++ Mr) xs args) {a : Act} {w : World} {F : Blk} (s : Sat E Δ (Mp ++ Mr) a w F) {K : Act → World → Prop} {Q : Exit → Act → World → Prop}
    (hK : ∀ v w' F' S M', R S M' → (∀ b, F b → w'.heap[b]? = w.heap[b]?) → (∀ b, F b → F' b) → (∀ Γ'' M1, Sat E Γ'' (Mp ++ M1) a w F → Sat E Γ'' (M' ++ M1) a w' F') → S.h w' F' v → K (a.put (some d) v) w') :
    (⟨some d, .call ⟨.value (.func g), xs.toArray, ts⟩, ty, pos, after, none⟩ : Oper).wp P a w K Q := by
  unfold Oper.wp
  have hr : (execOp a.eval (⟨some d, .call ⟨.value (.func g), xs.toArray, ts⟩, ty, pos, after, none⟩ : Oper)).run P w = .ok (.enter g (xs.map a.eval).toArray) w := by
    have := run_enter hf.1 (xs.map a.eval).toArray w
    simpa [go_sem] using this
  rw [hr]
  have hargs := hx.all s
  have hapart := List.pairwise_append.1 s.mem.apart
  have hmp : MemIn Mp w F := ⟨hapart.1, fun b C hb => by
    obtain ⟨_, h2, h3, h4⟩ := s.mem.each b C (List.mem_append_left _ hb)
    exact ⟨h2, h3, h4⟩⟩
  refine (hf.2 w F _ s.flt hmp hargs).mono ?_
  rintro e w' ⟨v, S, M', F', rfl, hR', hk, hsub, hnew, hv, hap, heach⟩
  have hW : ∀ b, b ∈ blks Mp → ¬ F b := fun b hb hF => by
    obtain ⟨C, hC⟩ := mem_blks.1 hb
    exact (hmp.each b C hC).2.1 hF
  have hsame : ∀ b, F b → w'.heap[b]? = w.heap[b]? := fun b hb => hk.block b (s.flt b hb) (fun h => hW b h hb)
  refine hK v w' F' S M' hR' hsame hsub (fun Γ'' M1 s => ?_) hv
  have hapart := List.pairwise_append.1 s.mem.apart
  have hown : ∀ b, b ∈ blks Mp → E.w0.heap.size ≤ b ∨ b ∈ E.W := fun b hb => by
    obtain ⟨C, hC⟩ := mem_blks.1 hb
    exact (s.mem.each b C (List.mem_append_left _ hC)).1
  have hrest : ∀ (b : Nat) (C : MP), (some b, C) ∈ M1 → b ∉ blks Mp ∧ b < w.heap.size := fun b C hb => by
    refine ⟨fun h => ?_, (s.mem.each b C (List.mem_append_right _ hb)).2.1⟩
    obtain ⟨C', hC'⟩ := mem_blks.1 h
    have := hapart.2.2 _ hC' _ hb
    rcases this with h | h
    · cases h
    · exact h rfl
  exact {
    defers := s.defers, size := s.size
    keep := by
      refine ⟨hk.os.trans s.keep.os, hk.tape.trans s.keep.tape, hk.output.trans s.keep.output, Nat.le_trans s.keep.size hk.size, fun k hk0 hkW => ?_⟩
      rw [hk.block k (Nat.lt_of_lt_of_le hk0 s.keep.size) (fun h => by rcases hown k h with h' | h'; omega; exact hkW h')]
      exact s.keep.block k hk0 hkW
    f0 := fun b h => hsub b (s.f0 b h)
    fnew := fun b h => by
      rcases hnew b h with h1 | h1
      · rcases s.fnew b h1 with h2 | h2
        · exact .inl h2
        · exact .inr ⟨h2.1, Nat.lt_of_lt_of_le h2.2 hk.size⟩
      · exact .inr ⟨Nat.le_trans s.keep.size h1.1, h1.2⟩
    flt := fun b h => by
      rcases hnew b h with h1 | h1
      · exact Nat.lt_of_lt_of_le (s.flt b h1) hk.size
      · exact h1.2
    slots := fun t S h => S.mono _ _ _ _ _ (s.slots t S h) hsame hsub
    mem := by
      refine ⟨List.pairwise_append.2 ⟨hap, hapart.2.1, ?_⟩, ?_⟩
      · rintro ⟨k, C⟩ h1 ⟨k', C'⟩ h2
        cases k with
        | none => exact .inl rfl
        | some b =>
          refine .inr fun e => ?_
          subst e
          obtain ⟨g1, _⟩ := heach b C h1
          obtain ⟨g2, g3⟩ := hrest b C' h2
          rcases g1 with g1 | g1
          · omega
          · exact g2 g1
      · intro b C hb
        rcases List.mem_append.1 hb with h | h
        · obtain ⟨g1, g2, g3, g4⟩ := heach b C h
          refine ⟨?_, g2, g3, g4⟩
          rcases g1 with g1 | g1
          · exact .inl (Nat.le_trans s.keep.size g1)
          · exact hown b g1
        · obtain ⟨g1, g2, g3, o, g4, g5⟩ := s.mem.each b C (List.mem_append_right _ h)
          obtain ⟨r1, r2⟩ := hrest b C h
          refine ⟨g1, Nat.lt_of_lt_of_le g2 hk.size, fun hF => ?_, o, (hk.block b g2 r1).trans g4, C.mono _ _ _ _ _ g5 hsame hsub⟩
          rcases hnew b hF with h1 | h1
          · exact g3 h1
          · omega }
theorem Sat.perm {a : Act} {w : World} {F : Blk} {M' : Mem} (h : M.Perm M') (s : Sat E Γ M a w F) : Sat E Γ M' a w F :=
 {s with mem := ⟨(h.pairwise_iff (fun {x y} hxy => by
  rcases hxy with h1 | h1
  ·by_cases h2 : y.1 = none
   ·exact .inl h2
   ·exact .inr (fun e => h2 (e.trans h1))
  ·exact .inr (fun e => h1 e.symm))).1 s.mem.apart, fun b C hb => s.mem.each b C (h.mem_iff.2 hb)⟩ }
theorem HasL.perm {xs : List Operand} {Ss : List VP} {M' : Mem} (h : M'.Perm M) (hx : HasL E Γ M xs Ss) : HasL E Γ M' xs Ss := by
 induction hx with
 | nil => exact .nil
 | cons h1 _ ih => exact .cons (fun a w F s => h1 a w F (s.perm h)) ih
theorem OKX.call {Δ : Ctx} {g : FuncId} {xs : List Operand} {ts : Array TypeId} {args : List VP} {Mp Mr : Mem} {R : VP → Mem → Prop} {d : Nat} {S0 : VP} (hf : CtrX P g args Mp R) (hp : M.Perm (Mp ++ Mr)) (hx : HasL E Δ M xs args) (hR : ∀ S M', R S M' → S = S0 ∧ M' = Mp) :
  OKX E P ops Δ M ⟨some d, .call ⟨.value (.func g), xs.toArray, ts⟩, ty, pos, after, none⟩ S0 := fun a w F s K Q hK => by
 refine (if_pos (c := Region.wanted _ _) (by simp [Region.wanted])).mpr ?_
 refine .inl (callX_wp hf (hx.perm hp.symm) (s.perm hp) fun v w' F' S M' hR' h1 h2 h3 hv => ?_)
 obtain ⟨rfl, rfl⟩ := hR S M' hR'
 refine hK v w' F' ⟨h1, h2, fun Γ'' M1 hs s1 => ?_⟩ hv
 obtain ⟨Rr, hRr⟩ := hs.exists_perm_append
 have hq : M1.Perm (M' ++ (Mr ++ Rr)) := by rw [← List.append_assoc]; exact hRr.trans (hp.append_right Rr)
 exact (h3 Γ'' _ (s1.perm hq)).perm hq.symm
theorem CtrX.imp {f : FuncId} {args : List VP} {M : Mem} {R R' : VP → Mem → Prop} (h : CtrX P f args M R) (hR : ∀ S M', R S M' → R' S M') : CtrX P f args M R' :=
 ⟨h.1, fun w F vs hF hM hargs => (h.2 w F vs hF hM hargs).mono (by
  rintro e w' ⟨v, S', M', F', rfl, hr, rest⟩
  exact ⟨v, S', M', F', rfl, hR S' M' hr, rest⟩)⟩
end
end Go.En
namespace Go.Proofs.YtcfobalbkhgdmaaGreat
open Go.En Go.RowKit
set_option maxRecDepth 10000
set_option maxHeartbeats 4000000
open Go.Nt
open Go.Pz
open Go.Mz
open Go.Hn
open Go.Hp
open Go.Dt
open Go.Ch
open Go.Mi
open Go.Mu
open Go.Qe
theorem qmat_SolveM {N d K : Nat} {ls : List (Int × Int × List Int)} {m : List Int} {P : Nat → Nat → Int} {x : Nat → Int} (hmin : MinI P N d x) (hd : ls.length ≤ d) (hN : N ≤ 64) (hd64 : d ≤ 64) (hP : ∀ k u, k < (ls.map fun p => p.2.2).length → u < N → cf ((ls.map fun p => p.2.2).getD k []) u = P k u) (hm : ∀ u, u < N → cf m u = P (ls.map fun p => p.2.2).length u) (hb : ∀ p ∈ ls, Bd p.2.2 K) (hmb : Bd m K) (hK1 : 1 ≤ K) (hK : 8 ^ d * K ≤ 100000000) :
  Ctr Tryz.prog 40 [isMQ N ls.length (flQ (ls.map fun p => p.2.2) N), isMQ N 1 (flQ [m] N)] (isTup [isMQ (if ls.length < d then 0 else ls.length) (if ls.length < d then 0 else 1) (if ls.length < d then [] else xsQ x d), isI (if ls.length < d then 10 else 0)]) := by
 have hl : (ls.map fun p => p.2.2).length = ls.length := List.length_map _
 have hKC := pw_size hd hK
 have hx := flQ_qb (l := ls.map fun p => p.2.2) (fun a ha => by obtain ⟨p, hp, rfl⟩ := List.mem_map.1 ha; exact hb p hp) hK1 N
 have hy := flQ_qb (l := [m]) (fun a ha => by obtain rfl := List.mem_singleton.1 ha; exact hmb) hK1 N
 have h1 := flQ_len (ls.map fun p => p.2.2) N
 have h2 := flQ_len [m] N
 rw [← hl]
 rw [← hl] at hd hKC
 by_cases h : (ls.map fun p => p.2.2).length < d
 ·rw [if_pos h, if_pos h, if_pos h, if_pos h]
  exact qmat_Solve_none hx hy hK1 hKC hN (by omega) (by decide) h1 h2 (min_lt hmin h hP hm)
 ·have he : (ls.map fun p => p.2.2).length = d := by omega
  rw [if_neg h, if_neg h, if_neg h, if_neg h, ← min_sol hmin he hP hm]
  exact qmat_Solve hx hy hK1 hKC hN (by omega) (by decide) h1 h2 (min_eq hmin he hP hm).1
theorem zchar_Min {n K d : Nat} {x : Nat → Int} {xs : List (Bool × List Nat)} (hx : Bd (vals xs) K) (hn : n ≤ 8) (hl : xs.length = n * n) (hmin : MinI (pe n (vals xs)) (n * n) d x) (hd64 : d ≤ 64) (hS : 8 ^ d * (1 + d * (K + n)) ≤ 100000000) : Ctr Tryz.prog 13 [isM (n : Int) (n : Int) xs] (isTup [isP (mnL x d), isI 0]) := by
 refine Ctr.intro Tryz.func13 rfl (by kernel_rfl) Tryz.ntmps13 rfl fun w0 F0 => .cv (Cv.wk (.l [0] rfl)) ?_
 have hn64 : n ≤ 64 := (by omega)
 have hRC := side_le hn64 hn64
 have hnn : n * n ≤ 64 := Nat.mul_le_mul hn hn
 have hfo := formB_true hn64 hn64 hl
 have hfs : (formB (n : Int) (n : Int) xs.length && decide ((n : Int) = (n : Int))) = true := by rw [hfo]; simp
 have hS0 := pw_size0 hS
 have hKs : K ≤ (1 + d * (K + n)) ∨ d = 0 := by rcases Nat.eq_zero_or_pos d with h | h; exact .inr h; exact .inl (by have := Nat.le_mul_of_pos_left (K + n) h; omega)
 have hpb : ∀ j, j ≤ d → Bd (pwL n (vals xs) j) (1 + d * (K + n)) := fun j hj => (pwL_bd hx j).mono (Nat.add_le_add_left (Nat.mul_le_mul_right _ hj) _)
 refine .seq fun _ k1 => .region (.box (.t rfl) rfl fun b1 => st (.as (.cWK (k := 2) (fk := zc))) rfl (st (.as (.cI 0 rfl)) rfl (nl (.thn (k1 _ _ (.seq fun _ k2 => .seq fun _ k3 => .region (st (.load (.t rfl) (i := 0) rfl ty27 rfl (Ss' := [_, _, _]) rfl) rfl (st (.eq (.call (zchar_square) (.cons (.t rfl) .nil)) ((show isB _ = isB true from isB_eq (hfs)))) rfl (st (.not (.t rfl)) rfl (nl (.thn (k3 _ _ (.cond (.t rfl) (fun hc1 => ?_) (fun hc1 => ?_))))))))))))))
 ·have hc1 := BP.t hc1
  exfalso; simp at hc1
 ·have hc1 := BP.f hc1
  refine .skip (.thn (k2 _ _ (.seq fun _ k4 => .region (st (.fieldAddr (.t rfl) fld27_0 ty3) rfl (st (.load1 (.t rfl) (i := 0) rfl ty3 rfl) rfl (st (.fieldAddr (.t rfl) fld27_0 ty3) rfl (st (.load1 (.t rfl) (i := 0) rfl ty3 rfl) rfl (st (.eq (.mulI (.t rfl) (.t rfl) (by first | omega | assumption) (by first | omega | assumption)) ((show isI _ = isI ((n * n : Nat) : Int) from isI_eq (Int.natCast_mul n n).symm))) rfl (st (.as (.t rfl)) rfl (nl (.thn (k4 _ _ (.cv (Cv.wk (.l [1, 2, 3, 4] rfl)) (.seq fun _ k5 => .seq fun _ k6 => .region (st (.fieldAddr (.t rfl) fld27_0 ty3) rfl (st (.load1 (.t rfl) (i := 0) rfl ty3 rfl) rfl (st (.gtI (.t rfl) (.cI 8 rfl)) rfl (nl (.thn (k6 _ _ (.cond (.t rfl) (fun hc2 => ?_) (fun hc2 => ?_))))))))))))))))))))))
  ·have hc2 := BP.t hc2
   exfalso; omega
  ·have hc2 := BP.f hc2
   refine .skip (.thn (k5 _ _ (.seq fun _ k7 => .region (.cv (Cv.grow0K (α := Int × Int × List Int) mc) (st (.as (Has.cGr (α := Int × Int × List Int))) rfl (nl (.thn (k7 _ _ (.seq fun _ k8 => .region (st (.fieldAddr (.t rfl) fld27_0 ty3) rfl (st (.load1 (.t rfl) (i := 1) rfl ty3 rfl) rfl (st (.call (zmat_Identity hn64) (.cons (.t rfl) .nil)) rfl (st (.ext (.t rfl) rfl) rfl (st (.ext (.t rfl) rfl) rfl (st (.call (zchar_must) (.cons (.t rfl) (.cons (.t rfl) .nil))) rfl (.alloc [isI 0, isI 0, nilS] zero27 (fun _ _ => ⟨⟨rfl, by decide, by decide⟩, ⟨rfl, by decide, by decide⟩, rfl, trivial⟩) rfl fun b2 => .store (.t rfl) (.t rfl) (i := 0) rfl ty27 rfl rfl (Ss' := [_, _, _]) rfl (M' := [(some _, cellM [_, _, _]), _, _]) rfl (nl (.thn (k8 _ _ (.cv (Cv.wk (.l [1, 2, 3, 4, 5, 6] rfl)) (.block (.cv (Cv.freezeBox (t := 6) (i := 0) rfl rfl rfl) (.memEq (M' := [_, _]) rfl (.cv (Cv.wk (.l [1, 2, 3, 4, 5, 6] rfl)) (.loopF [1, 4] (fun (z : { z : Nat × Gr (Int × Int × List Int) // z.1 ≤ d }) => match z with | ⟨(k, gl), hI⟩ => [(5, isGr gl (lsK n (vals xs) k).length), (6, PtrL [isI (n : Int), isI (n : Int), isP (pwL n (vals xs) k)])]) (fun M => fun (z : { z : Nat × Gr (Int × Int × List Int) // z.1 ≤ d }) => match z with | ⟨(k, gl), hI⟩ => [grMK mc gl (lsK n (vals xs) k), (some b1, cellM [isI (n : Int), isI (n : Int), SlK 2 zc xs])]) (fun (z : { z : Nat × Gr (Int × Int × List Int) // z.1 ≤ d }) => match z with | ⟨(k, gl), hI⟩ => d - k) (⟨(0, Gr.nil), Nat.zero_le _⟩) (Cv.mem (.c 5 rfl ?_ (.c 6 rfl ?_ (.l [1, 4] rfl))) ?_) ?_)))))))))))))))))))))))))
   ·rfl
   ·rfl
   ·rfl
   rintro ⟨⟨k, gl⟩, hI⟩ K9 hK9
   refine .cv (Cv.wk (.l [5, 6, 1, 4] rfl)) (.memEq (M' := [grMK mc gl (lsK n (vals xs) k), (some b1, cellM [isI (n : Int), isI (n : Int), SlK 2 zc xs])]) rfl ?_)
   simp only [] at hI
   refine .seq fun _ k10 => .block (.seq fun _ k11 => .drh [true, true] (Ms := [_, _]) rfl (.s [] rfl rfl rfl (.o rfl (.mv (.t rfl))) (.s [] rfl rfl rfl (.o rfl (.mv (.t rfl))) ?_)))
   refine .sx (i := 2) [42, 43] rfl rfl rfl (by kernel_rfl) (OKX.call (zchar_flatX (K := (1 + d * (K + n))) (ls := lsK n (vals xs) k) (gl := gl) (N := n * n) (fun p hp => by obtain ⟨j, hj, e⟩ := lsK_mem hp; rw [e]; exact hpb j (by omega)) (fun p hp => by obtain ⟨j, hj, e⟩ := lsK_mem hp; rw [e]; exact pwL_len _ _ _) (by omega) hnn (by rw [lsK_len]; omega)) (List.Perm.refl _) (.cons (.t rfl) (.cons (.t rfl) .nil)) (by rintro _ _ ⟨rfl, rfl⟩; exact ⟨rfl, rfl⟩)) ?_
   refine .s [] rfl rfl rfl (.o rfl (.loadP (.t rfl) ty27 rfl (Ss' := [_, _, _]) rfl)) (.s [45] rfl rfl rfl (.o rfl (.buildS [isI 0, isI 0, nilS] sl65 ty27 zero27 (fun _ _ => ⟨⟨rfl, by decide, by decide⟩, ⟨rfl, by decide, by decide⟩, rfl, trivial⟩) rfl rfl (.cons (.t rfl) rfl rfl rfl .nil) rfl (S := SlK 3 mc [((n : Int), (n : Int), pwL n (vals xs) k)]) rfl)) (.s [] rfl rfl rfl (.o rfl (.mv (.t rfl))) ?_))
   refine .s [46, 47] rfl rfl rfl (.o rfl (.eq (.call (zchar_flat (K := (1 + d * (K + n))) (ls := [((n : Int), (n : Int), pwL n (vals xs) k)]) (fun p hp => by obtain rfl := List.mem_singleton.1 hp; exact hpb k hI) (fun p hp => by obtain rfl := List.mem_singleton.1 hp; exact pwL_len _ _ _) (by omega) hnn (show 1 ≤ 64 by decide)) (.cons (.t rfl) (.cons (.t rfl) .nil))) ((show _ = isMQ ((n * n : Nat) : Int) 1 (flQ [pwL n (vals xs) k] (n * n)) from rfl)))) ?_
   refine .s [44, 48] rfl rfl rfl (.o rfl (.call (qmat_SolveM (ls := lsK n (vals xs) k) (m := pwL n (vals xs) k) (K := (1 + d * (K + n))) hmin (by rw [lsK_len]; exact hI) hnn hd64 (fun j u hj hu => lsK_at hj) (fun u hu => by rw [lsK_vals, pws_len]; rfl) (fun p hp => by obtain ⟨j, hj, e⟩ := lsK_mem hp; rw [e]; exact hpb j (by omega)) (hpb k hI) (by omega) hS) (.cons (.t rfl) (.cons (.t rfl) .nil)))) ?_
   refine .s [49] rfl rfl rfl (.o rfl (.mv (.t rfl))) (.s [41] rfl rfl rfl (.o rfl (.ext (.t rfl) rfl)) (.s [41] rfl rfl rfl (.o rfl (.ext (.t rfl) rfl)) (.als2 (n1 := 12) (ds := [7]) (zs := [[isI 0, isI 0, nilS]]) rfl (.cons rfl rfl zero70 (fun _ _ => ⟨⟨rfl, by decide, by decide⟩, ⟨rfl, by decide, by decide⟩, rfl, trivial⟩) .nil) (.cons_cons _ (.cons_cons _ .slnil)) (Cs := [_]) rfl (.new [50] 0 (Ss' := [_, _, _]) (Cs' := [cellM [_, _, _]]) rfl (by kernel_rfl) (by kernel_rfl) rfl rfl rfl (by kernel_rfl) rfl (.t rfl) ty70 rfl rfl rfl rfl (.fin (n := 13) mixed rfl (by kernel_rfl) (by kernel_rfl) (by kernel_rfl) (fun bs hbs => ?_))))))
   obtain ⟨b3, rfl⟩ := len1 hbs
   refine .memEq (M' := [_, _, _]) rfl (.cv (Cv.wk (.k 1 rfl (.k 4 rfl (.k 5 rfl (.k 6 rfl (.k 42 rfl (.k 43 rfl (.k 44 rfl (.k 45 rfl (.k 46 rfl (.k 47 rfl (.k 48 rfl (.k 49 rfl (.k 41 rfl (.k 50 rfl (.k 51 rfl (.cons (t := 7) (Has.op rfl) .nil))))))))))))))))) (st (.as (.t rfl)) rfl (nl (.thn (k11 _ _ (.seq fun _ k12 => .seq fun _ k13 => .region (st (.mv (.t rfl)) rfl (st (.eqI (.t rfl) (.cI 0 rfl)) rfl (nl (.thn (k13 _ _ (.cond (.t rfl) (fun hc3 => ?_) (fun hc3 => ?_)))))))))))))
   ·have hc3 := BP.t hc3
    have hnd : ¬ (lsK n (vals xs) k).length < d := fun h => by rw [if_pos h] at hc3; exact absurd hc3 (by decide)
    have hkd : k = d := by rw [lsK_len] at hnd; omega
    refine .seq fun _ k14 => .region (.cv (Cv.grow0K (α := Bool × List Nat) zc) (st (.as (Has.cGr (α := Bool × List Nat))) rfl (nl (.thn (k14 _ _ (.seq fun _ k15 => .seq fun _ k16 => .region (st (.fieldAddr (.t rfl) fld70_2 ty68) rfl (st (.eq (.load1 (.t rfl) (i := 1) rfl ty68 rfl) ((show _ = isQs (xsQ x d) from isQs_eq (if_neg hnd)))) rfl (st (.eq (.len sl68 (.t rfl)) ((show isI _ = isI (d : Int) from isI_eq (by rw [List.length_map, xsQ_len])))) rfl (st (.mv (.cI 0 rfl)) rfl (nl (.thn (k16 _ _ (.block (.loopF [1, 4, 5, 6, 42, 43, 44, 45, 46, 47, 48, 49, 41, 50, 51, 7, 8, 52, 53, 54, 55, 56] (fun (z : { z : Nat × Gr (Bool × List Nat) // z.1 ≤ d }) => match z with | ⟨(j, g9), hJ⟩ => [(57, isI (j : Int)), (9, isGr g9 ((ngL x j).map nz).length)]) (fun M => fun (z : { z : Nat × Gr (Bool × List Nat) // z.1 ≤ d }) => match z with | ⟨(j, g9), hJ⟩ => [grMK zc g9 ((ngL x j).map nz), (some b3, cellM [isI (if (lsK n (vals xs) k).length < d then 0 else ((lsK n (vals xs) k).length : Int)), isI (if (lsK n (vals xs) k).length < d then 0 else 1), isQs (if (lsK n (vals xs) k).length < d then [] else xsQ x d)]), grMK mc gl (lsK n (vals xs) k), (some b1, cellM [isI (n : Int), isI (n : Int), SlK 2 zc xs])]) (fun (z : { z : Nat × Gr (Bool × List Nat) // z.1 ≤ d }) => match z with | ⟨(j, g9), hJ⟩ => d - j) (⟨(0, Gr.nil), Nat.zero_le _⟩) (Cv.mem (.c 57 rfl ?_ (.c 9 rfl ?_ (.l [1, 4, 5, 6, 42, 43, 44, 45, 46, 47, 48, 49, 41, 50, 51, 7, 8, 52, 53, 54, 55, 56] rfl))) ?_) ?_)))))))))))))))
    ·rfl
    ·rfl
    ·rfl
    rintro ⟨⟨j, g9⟩, hJ⟩ K17 hK17
    refine .cv (Cv.wk (.l [57, 9, 1, 4, 5, 6, 42, 43, 44, 45, 46, 47, 48, 49, 41, 50, 51, 7, 8, 52, 53, 54, 55, 56] rfl)) (.memEq (M' := [grMK zc g9 ((ngL x j).map nz), (some b3, cellM [isI (if (lsK n (vals xs) k).length < d then 0 else ((lsK n (vals xs) k).length : Int)), isI (if (lsK n (vals xs) k).length < d then 0 else 1), isQs (if (lsK n (vals xs) k).length < d then [] else xsQ x d)]), grMK mc gl (lsK n (vals xs) k), (some b1, cellM [isI (n : Int), isI (n : Int), SlK 2 zc xs])]) rfl ?_)
    simp only [] at hJ
    refine .seq fun _ k18 => .region (st (.ltI (.t rfl) (.t rfl)) rfl (nl (.thn (k18 _ _ (.seq fun _ k19 => .cond (.t rfl) (fun hc4 => ?_) (fun hc4 => ?_))))))
    ·have hc4 := BP.t hc4
     have hj : j < d := (by omega)
     have hxl : ((xsQ x d).map nq).length = d := by rw [List.length_map, xsQ_len]
     have hjw := pe_min_nw hx hmin hj
     have hjq := pe_min_qs hx hmin hj
     have hjn := ngL_len x j
     refine .skip (.thn (k19 _ _ (.seq fun _ k20 => .block (.seq fun _ k21 => .region (st (.ixK sl68 ty75 (.t rfl) (.t rfl) rc_len ⟨by omega, by omega⟩ (getQ (i := j) (by rw [xsQ_len]; exact hj))) rfl ?_)))))
     refine st (.loadP (.t rfl) ty75 rfl (Ss' := [_, _, _, _]) rfl) rfl (.alloc [isB false, SlM isU [], isB false, SlM isU []] zero75 (fun _ _ => ⟨rfl, nilM _ _, rfl, nilM _ _, trivial⟩) rfl fun b4 => .store (.t rfl) (.t rfl) (i := 0) rfl ty75 rfl rfl (Ss' := [_, _, _, _]) rfl (M' := [(some _, cellM [_, _, _, _]), _, _, _, _]) rfl (nl (.thn (k21 _ _ (.seq fun _ k22 => .region (st (.load (.t rfl) (i := 0) rfl ty75 rfl (Ss' := [_, _, _, _]) rfl) rfl (st (.eq (.call (rat_Whole (q := qf (xsQ x d) j) (A := 8 ^ d * (1 + d * (K + n))) (by rw [xsQ_at hj]; exact hjq) (by omega) (by rw [xsQ_at hj, Rat.den_intCast])) (.cons (.t rfl) .nil)) ((show isTup [isZ _, isB _] = isTup [isZ (x j), isB true] from by rw [xsQ_at hj, Rat.num_intCast]))) rfl ?_)))))))
     refine st (.mv (.t rfl)) rfl (st (.ext (.t rfl) rfl) rfl (st (.ext (.t rfl) rfl) rfl (.alloc [isB false, SlM isU []] zero36 (fun _ _ => ⟨rfl, nilM _ _, trivial⟩) rfl fun b5 => .store (.t rfl) (.t rfl) (i := 0) rfl ty36 rfl rfl (Ss' := [_, _]) rfl (M' := [(some _, cellM [_, _]), _, _, _, _, _]) rfl (st (.as (.t rfl)) rfl (nl (.thn (k22 _ _ (.region (st (.mv (.t rfl)) rfl (st (.load (.t rfl) (i := 0) rfl ty36 rfl (Ss' := [_, _]) rfl) rfl (st (.eq (.call (zint_Neg (by rw [val_words]; omega)) (.cons (.t rfl) .nil)) ((show isZ _ = Flat (zc (nz (-(x j)))) from isZ_eq (by simp only [zv_nz, zv_nf])))) rfl ?_)))))))))))
     refine st (.buildS [isB false, SlM isU []] sl23 ty36 zero36 (fun _ _ => ⟨rfl, nilM _ _, trivial⟩) rfl rfl (.cons (.t rfl) rfl rfl rfl .nil) rfl (S := SlK 2 zc [nz (-(x j))]) rfl) rfl (.appendGK (fk := zc) (u := (false, [])) zc_len (by decide) (fun _ => inferInstance) sl23 ty36 zero36 (fun _ _ => ⟨rfl, nilM _ _, trivial⟩) by36 (.t rfl) (i := 2) rfl (.t rfl) (by simp only [List.length_map, hjn, List.length_singleton]; omega) (by simp) rfl fun gn2 => ?_)
     refine .memEq (M' := [_, _, grMK _ _ _, _, _, _]) rfl (st (.as (.t rfl)) rfl (nl (.bln (.thn (k20 _ _ (.region (st (.addI (.t rfl) (.cI 1 rfl) (by first | omega | assumption) (by first | omega | assumption)) rfl (st (.mv (.t rfl)) rfl (nl (.thn ?_))))))))))
     refine hK17 (⟨(j + 1, gn2), by show j + 1 ≤ d; omega⟩) _ _ ?_ (Cv.trans (Cv.drop ((.cons _ (.cons _ (.cons_cons _ (.cons_cons _ (.cons_cons _ (.cons_cons _ .slnil)))))))) (Cv.mem (.c 57 rfl ?_ (.c 9 rfl ?_ (.l [1, 4, 5, 6, 42, 43, 44, 45, 46, 47, 48, 49, 41, 50, 51, 7, 8, 52, 53, 54, 55, 56] rfl))) ?_))
     ·show d - (j + 1) < d - j; omega
     ·exact isI_eq (by omega)
     ·exact isGr_eq (by rw [ngL_succ, List.map_append, List.length_append]; rfl)
     ·exact memK_eq (by rw [ngL_succ, List.map_append]; rfl)
    ·have hc4 := BP.f hc4
     obtain rfl : j = d := (by omega)
     have hjn := ngL_len x j
     refine .exit (.the (.the (.blh (.thn (k15 _ _ (.seq fun _ k23 => .region (st (.mv (.t rfl)) rfl (st (.call (zint_Of) (.cons (.cI 1 rfl) .nil)) rfl (st (.buildS [isB false, SlM isU []] sl23 ty36 zero36 (fun _ _ => ⟨rfl, nilM _ _, trivial⟩) rfl rfl (.cons (.t rfl) rfl rfl rfl .nil) rfl (S := SlK 2 zc [nz 1]) rfl) rfl (.appendGK (fk := zc) (u := (false, [])) zc_len (by decide) (fun _ => inferInstance) sl23 ty36 zero36 (fun _ _ => ⟨rfl, nilM _ _, trivial⟩) by36 (.t rfl) (i := 0) rfl (.t rfl) (by simp only [List.length_map, hjn, List.length_singleton]; omega) (by simp) rfl fun gn3 => ?_))))))))))
     refine .memEq (M' := [grMK _ _ _, _, _, _]) rfl (.cv (Cv.freezeGKn (t := 75) (i := 0) (ys := (ngL x j).map nz ++ [nz 1]) zc_len rfl rfl rfl (by simp)) ?_)
     refine .memEq (M' := [_, _, _]) rfl (.cv (Cv.wk (.l [1, 4, 5, 6, 42, 43, 44, 45, 46, 47, 48, 49, 41, 50, 51, 7, 8, 52, 53, 54, 55, 56, 57, 58, 73, 74, 75] rfl)) (st (.as (.t rfl)) rfl (st (.as (.cI 0 rfl)) rfl (nl (.thn (k23 _ _ (.ret (.thr (.blr (.thr (.thr (.blr (rtN (.inl rfl) Tryz.results13 rfl rfl (.tmp (Has.t' rfl ?_) (.tmp (Has.t' rfl ?_) .nil)))))))))))))))
     ·exact SlK_eq (mnL_ng _ _)
     ·rfl
   ·have hc3 := BP.f hc3
    have hkd : k < d := Classical.byContradiction fun h => hc3 (if_neg (by rw [lsK_len]; exact h))
    refine .skip (.thn (k12 _ _ (.region (st (.mv (.t rfl)) rfl (st (.loadP (.t rfl) ty27 rfl (Ss' := [_, _, _]) rfl) rfl (st (.buildS [isI 0, isI 0, nilS] sl65 ty27 zero27 (fun _ _ => ⟨⟨rfl, by decide, by decide⟩, ⟨rfl, by decide, by decide⟩, rfl, trivial⟩) rfl rfl (.cons (.t rfl) rfl rfl rfl .nil) rfl (S := SlK 3 mc [((n : Int), (n : Int), pwL n (vals xs) k)]) rfl) rfl (.appendGK (fk := mc) (u := (0, 0, [])) mc_len (by decide) (fun _ => inferInstance) sl65 ty27 zero27 (fun _ _ => ⟨⟨rfl, by decide, by decide⟩, ⟨rfl, by decide, by decide⟩, nilK, trivial⟩) by27 (.t rfl) (i := 1) rfl (.t rfl) (by rw [lsK_len]; simp only [List.length_singleton]; omega) (by simp) rfl fun gl2 => ?_)))))))
    refine .memEq (M' := [_, grMK _ _ _, _]) rfl (st (.as (.t rfl)) rfl (nl (.bln (.thn (k10 _ _ (.seq fun _ k24 => .seq fun _ k25 => .region (st (.loadP (.t rfl) ty27 rfl (Ss' := [_, _, _]) rfl) rfl (nl (.thn (k25 _ _ (.region (.alloc [isI 0, isI 0, nilS] zero27 (fun _ _ => ⟨⟨rfl, by decide, by decide⟩, ⟨rfl, by decide, by decide⟩, rfl, trivial⟩) rfl fun b6 => .store (.t rfl) (.t rfl) (i := 0) rfl ty27 rfl rfl (Ss' := [_, _, _]) rfl (M' := [(some _, cellM [_, _, _]), _, _, _]) rfl (nl (.thn (k24 _ _ (.region (st (.load (.t rfl) (i := 0) rfl ty27 rfl (Ss' := [_, _, _]) rfl) rfl ?_)))))))))))))))))
    refine st (.load (.t rfl) (i := 3) rfl ty27 rfl (Ss' := [_, _, _]) rfl) rfl (st (.eq (.call (zmat_Mul (R := n) (C := n) (D := n) (K := (1 + d * (K + n))) (L := K) (xs := (pwL n (vals xs) k).map nz) (ys := xs) (by rw [vals_nz]; exact hpb k hI) hx (by omega) hn64 hn64 hn64 (by rw [List.length_map, pwL_len]) hl) (.cons (.t rfl) (.cons (.t rfl) .nil))) ((show _ = isTup [isMz n n (pwL n (vals xs) (k + 1)), isI 0] from by rw [vals_nz]; rfl))) rfl ?_)
    refine st (.ext (.t rfl) rfl) rfl (st (.ext (.t rfl) rfl) rfl (st (.call (zchar_must) (.cons (.t rfl) (.cons (.t rfl) .nil))) rfl (.store (.t rfl) (.t rfl) (i := 0) rfl ty27 rfl rfl (Ss' := [_, _, _]) rfl (M' := [(some _, cellM [_, _, _]), _, _, _]) rfl (nl (.thn ?_)))))
    refine hK9 (⟨(k + 1, gl2), by show k + 1 ≤ d; omega⟩) _ _ ?_ (Cv.trans (Cv.trans (Cv.drop (.cons_cons _ (.cons _ (.cons_cons _ (.cons_cons _ .slnil))))) (Cv.freezeBox (t := 6) (i := 0) rfl rfl rfl)) (Cv.mem (.c 5 rfl ?_ (.c 6 rfl ?_ (.l [1, 4] rfl))) ?_))
    ·show d - (k + 1) < d - k; omega
    ·exact isGr_eq (by rw [lsK_succ, List.length_append])
    ·rfl
    ·exact memK_eq (by rw [lsK_succ])
theorem zchar_Min_bad {r c : Int} {xs : List (Bool × List Nat)} (hf : (formB r c xs.length && decide (r = c)) = false) : Ctr Tryz.prog 13 [isM r c xs] (isTup [SlK 2 zc ([] : List (Bool × List Nat)), isI 2]) := by
 refine Ctr.intro Tryz.func13 rfl (by kernel_rfl) Tryz.ntmps13 rfl fun w0 F0 => .cv (Cv.wk (.l [0] rfl)) (.seq fun _ k1 => .region (.box (.t rfl) rfl fun b1 => st (.as (.cWK (k := 2) (fk := zc))) rfl (st (.as (.cI 0 rfl)) rfl (nl (.thn (k1 _ _ (.seq fun _ k2 => .seq fun _ k3 => .region (st (.load (.t rfl) (i := 0) rfl ty27 rfl (Ss' := [_, _, _]) rfl) rfl (st (.eq (.call (zchar_square) (.cons (.t rfl) .nil)) ((show isB _ = isB false from isB_eq (hf)))) rfl (st (.not (.t rfl)) rfl (nl (.thn (k3 _ _ (.cond (.t rfl) (fun hc1 => ?_) (fun hc1 => ?_)))))))))))))))
 ·have hc1 := BP.t hc1
  refine .seq fun _ k4 => .region (st (.as (.cWK (k := 2) (fk := zc))) rfl (st (.as (.cI 2 rfl)) rfl (nl (.thn (k4 _ _ (.ret (.thr (rtN (.inl rfl) Tryz.results13 rfl rfl (.tmp (Has.t' rfl ?_) (.tmp (Has.t' rfl ?_) .nil))))))))))
  ·rfl
  ·rfl
 ·have hc1 := BP.f hc1
  exfalso; simp at hc1
end Go.Proofs.YtcfobalbkhgdmaaGreat
namespace Go.Proofs.YtcfobalbkhgdmaaGreat
open Go.En Go.RowKit
set_option maxRecDepth 10000
set_option maxHeartbeats 4000000
open Go.Nt
open Go.Pz
open Go.Mz
open Go.Hn
open Go.Hp
open Go.Dt
open Go.Ch
def vF (n : Nat) (L q : List Int) (i k : Nat) : List Int := (List.range (n * n)).map fun j => sm (if j < k then i + 1 else i) fun m => cf q m * cf (pwL n L m) j
theorem vF_len (n : Nat) (L q : List Int) (i k : Nat) : (vF n L q i k).length = n * n := by unfold vF; rw [List.length_map, List.length_range]
theorem vF_at (n : Nat) (L q : List Int) (i k : Nat) {j : Nat} (h : j < n * n) : cf (vF n L q i k) j = sm (if j < k then i + 1 else i) fun m => cf q m * cf (pwL n L m) j := by unfold vF; rw [cf_tab, if_pos h]
theorem vF_zero (n : Nat) (L q : List Int) : (vF n L q 0 0).map nz = List.replicate (n * n) (false, []) := by
 refine List.ext_getElem? fun j => ?_
 rcases Nat.lt_or_ge j (n * n) with h | h
 ·rw [getZ (by rw [vF_len]; exact h), vF_at n L q 0 0 h, if_neg (by omega), List.getElem?_replicate, if_pos h]
  show some (nz 0) = _
  rw [nz_zero]
 ·rw [List.getElem?_eq_none (by rw [List.length_map, vF_len]; exact h), List.getElem?_eq_none (by rw [List.length_replicate]; exact h)]
theorem vF_set {n i k : Nat} (L q : List Int) (h : k < n * n) : ((vF n L q i k).map nz).set k (nz (cf (vF n L q i k) k + cf q i * cf (pwL n L i) k)) = (vF n L q i (k + 1)).map nz := by
 refine List.ext_getElem? fun j => ?_
 rcases Nat.lt_or_ge j (n * n) with g | g
 ·rw [getZ (l := vF n L q i (k + 1)) (by rw [vF_len]; exact g), vF_at n L q i (k + 1) g]
  by_cases e : k = j
  ·subst e
   rw [List.getElem?_set_self (by rw [List.length_map, vF_len]; exact h), vF_at n L q i k h, if_neg (by omega), if_pos (by omega)]; rfl
  ·rw [List.getElem?_set_ne e, getZ (by rw [vF_len]; exact g), vF_at n L q i k g]
   by_cases g2 : j < k
   ·rw [if_pos g2, if_pos (by omega)]
   ·rw [if_neg g2, if_neg (by omega)]
 ·rw [List.getElem?_eq_none (by rw [List.length_set, List.length_map, vF_len]; exact g), List.getElem?_eq_none (by rw [List.length_map, vF_len]; exact g)]
theorem vF_next (n : Nat) (L q : List Int) (i : Nat) : vF n L q i (n * n) = vF n L q (i + 1) 0 := by
 unfold vF
 refine List.map_congr_left fun j hj => ?_
 rw [if_pos (List.mem_range.1 hj), if_neg (by omega)]
theorem vF_done (n : Nat) (L q : List Int) (d : Nat) : vF n L q d 0 = vlL n L q d := ext_cf (by rw [vF_len, vlL_len]) fun j hj => by
 rw [vF_len] at hj
 rw [vF_at n L q d 0 hj, if_neg (by omega), vlL_at n L q d hj]
theorem vF_nw {n K Q i k : Nat} {L q : List Int} (hL : Bd L K) (hq : Bd q Q) (j : Nat) : (List.length (words (cf (vF n L q i k) j).natAbs)) ≤ Q + (1 + i * (K + n)) + i + 1 := by
  unfold vF
  rw [cf_tab]
  split
  · have key : ∀ t, t ≤ i + 1 → (List.length (words (sm t fun m => cf q m * cf (pwL n L m) j).natAbs)) ≤ Q + (1 + i * (K + n)) + t := by
      intro t
      induction t with
      | zero => intro _; show (List.length (words (0 : Int).natAbs)) ≤ _; rw [Int.natAbs_zero, words_zero]; exact Nat.zero_le _
      | succ t ih =>
        intro ht
        have h1 := ih (by omega)
        have h2 := nz_mul (cf q t) (cf (pwL n L t) j)
        have h3 := hq t
        have h4 := pwL_bd (n := n) hL t j
        have h5 : t * (K + n) ≤ i * (K + n) := Nat.mul_le_mul_right _ (by omega)
        have h6 := nz_add (sm t fun m => cf q m * cf (pwL n L m) j) (cf q t * cf (pwL n L t) j)
        show (List.length (words ((sm t fun m => cf q m * cf (pwL n L m) j) + cf q t * cf (pwL n L t) j).natAbs)) ≤ _
        omega
    have := key (if j < k then i + 1 else i) (by split <;> omega)
    refine Nat.le_trans this ?_
    split <;> omega
  · rw [Int.natAbs_zero, words_zero]; exact Nat.zero_le _
theorem ref26_Value {n K Q : Nat} {xs qs : List (Bool × List Nat)} (hx : Bd (vals xs) K) (hq : Bd (vals qs) Q) (hB : Q ≤ 100000 ∧ qs.length * (K + n) + qs.length + K + n + 5 ≤ 900) (hn : n ≤ 64) (hl : xs.length = n * n) : Ctr Tryz.prog 21 [SlK 2 zc qs, isM (n : Int) (n : Int) xs] (isP (vlL n (vals xs) (vals qs) qs.length)) := by
 refine Ctr.intro Tryz.func21 rfl (by kernel_rfl) Tryz.ntmps21 rfl fun w0 F0 => .cv (Cv.wk (.l [0, 1] rfl)) (.fact (Has.lenLt (Has.t (t := 0) rfl)) fun lt0 => ?_)
 have hRC := side_le hn hn
 have hcp : ((n : Int) * (n : Int)) = ((n * n : Nat) : Int) := (Int.natCast_mul n n).symm
 refine .seq fun _ k1 => .region (.box (.t rfl) rfl fun b1 => st (.as (.cWK (k := 2) (fk := zc))) rfl (nl (.thn (k1 _ _ (.seq fun _ k2 => .region (st (.fieldAddr (.t rfl) fld27_0 ty3) rfl (st (.load1 (.t rfl) (i := 0) rfl ty3 rfl) rfl (st (.fieldAddr (.t rfl) fld27_0 ty3) rfl (st (.load1 (.t rfl) (i := 0) rfl ty3 rfl) rfl (st (.eq (.mulI (.t rfl) (.t rfl) (by first | omega | (rw [hcp]; omega)) (by first | omega | (rw [hcp]; omega))) ((show isI _ = isI ((n * n : Nat) : Int) from isI_eq hcp))) rfl ?_))))))))))
 refine .makeK (fk := zc) (u := (false, [])) (n := n * n) (c := n * n) sl22 ty36 zero36 (fun _ _ => ⟨rfl, nilM _ _, trivial⟩) zc_len by36 (Has.t' rfl rfl) (Has.t' rfl rfl) ⟨by omega, by omega⟩ rfl fun b2 => st (.as (.t rfl)) rfl (nl (.thn (k2 _ _ (.cv (Cv.wk (.l [0, 3, 4, 5] rfl)) (.seq fun _ k3 => .seq fun _ k4 => .region (st (.as (.cI 0 rfl)) rfl (nl (.thn (k4 _ _ (.block (.loopF [0, 3, 4, 5] (fun (z : { i : Nat // i ≤ qs.length }) => match z with | ⟨i, hi⟩ => [(6, isI (i : Int))]) (fun M => fun (z : { i : Nat // i ≤ qs.length }) => match z with | ⟨i, hi⟩ => [(some b2, cellM (((vF n (vals xs) (vals qs) i 0).map nz).flatMap zc)), (some b1, cellM [isI (n : Int), isI (n : Int), SlK 2 zc xs])]) (fun (z : { i : Nat // i ≤ qs.length }) => match z with | ⟨i, hi⟩ => qs.length - i) (⟨0, Nat.zero_le _⟩) (Cv.mem (.c 6 rfl ?_ (.l [0, 3, 4, 5] rfl)) ?_) ?_)))))))))))
 ·rfl
 ·exact memZ_eq (vF_zero n _ _).symm
 rintro ⟨i, hi⟩ K5 hK5
 refine .cv (Cv.wk (.l [6, 0, 3, 4, 5] rfl)) (.memEq (M' := [(some b2, cellM (((vF n (vals xs) (vals qs) i 0).map nz).flatMap zc)), (some b1, cellM [isI (n : Int), isI (n : Int), SlK 2 zc xs])]) rfl ?_)
 have him : i * (K + n) ≤ qs.length * (K + n) := Nat.mul_le_mul_right _ hi
 have hpb := pwL_bd (n := n) hx i
 have hpl := pwL_len n (vals xs) i
 have hpm : ((pwL n (vals xs) i).map nz).length = n * n := by rw [List.length_map]; exact hpl
 have hqi := hq i
 have hqr := hq.raw i
 refine .seq fun _ k6 => .seq fun _ k7 => .region (st (.mv (.t rfl)) rfl (st (.mv (.t rfl)) rfl (st (.len sl22 (.t rfl)) rfl (st (.ltI (.t rfl) (.t rfl)) rfl (nl (.thn (k7 _ _ (.cond (.t rfl) (fun hc1 => ?_) (fun hc1 => ?_)))))))))
 ·have hc1 := BP.t hc1
  refine .skip (.thn (k6 _ _ (.seq fun _ k8 => .block (.seq fun _ k9 => .region (st (.load (.t rfl) (i := 1) rfl ty27 rfl (Ss' := [_, _, _]) rfl) rfl (st (.mv (.t rfl)) rfl (st (.call (ref26_Power (N := i) hx (by omega) hn hl) (.cons (.t rfl) (.cons (.t rfl) .nil))) rfl (.alloc [isI 0, isI 0, nilS] zero27 (fun _ _ => ⟨⟨rfl, by decide, by decide⟩, ⟨rfl, by decide, by decide⟩, rfl, trivial⟩) rfl fun b3 => .store (.t rfl) (.t rfl) (i := 0) rfl ty27 rfl rfl (Ss' := [_, _, _]) rfl (M' := [(some _, cellM [_, _, _]), _, _]) rfl (nl (.thn (k9 _ _ (.seq fun _ k10 => .region (st (.as (.cI 0 rfl)) rfl (nl (.thn (k10 _ _ (.block (.loopF [0, 3, 4, 5, 6, 15, 16, 17, 18, 21, 22, 23, 7] (fun (z : { k : Nat // k ≤ n * n }) => match z with | ⟨k, hk⟩ => [(8, isI (k : Int))]) (fun M => fun (z : { k : Nat // k ≤ n * n }) => match z with | ⟨k, hk⟩ => [(some b3, cellM [isI (n : Int), isI (n : Int), SlK 2 zc ((pwL n (vals xs) i).map nz)]), (some b2, cellM (((vF n (vals xs) (vals qs) i k).map nz).flatMap zc)), (some b1, cellM [isI (n : Int), isI (n : Int), SlK 2 zc xs])]) (fun (z : { k : Nat // k ≤ n * n }) => match z with | ⟨k, hk⟩ => n * n - k) (⟨0, Nat.zero_le _⟩) (Cv.mem (.c 8 rfl ?_ (.l [0, 3, 4, 5, 6, 15, 16, 17, 18, 21, 22, 23, 7] rfl)) ?_) ?_))))))))))))))))))
  ·rfl
  ·rfl
  rintro ⟨k, hk⟩ K11 hK11
  refine .cv (Cv.wk (.l [8, 0, 3, 4, 5, 6, 15, 16, 17, 18, 21, 22, 23, 7] rfl)) (.memEq (M' := [(some b3, cellM [isI (n : Int), isI (n : Int), SlK 2 zc ((pwL n (vals xs) i).map nz)]), (some b2, cellM (((vF n (vals xs) (vals qs) i k).map nz).flatMap zc)), (some b1, cellM [isI (n : Int), isI (n : Int), SlK 2 zc xs])]) rfl ?_)
  have hvl := vF_len n (vals xs) (vals qs) i k
  have hvw := vF_nw (n := n) (i := i) (k := k) hx hq k
  have hpk := hpb k
  refine .seq fun _ k12 => .seq fun _ k13 => .region (st (.mv (.t rfl)) rfl (st (.mv (.t rfl)) rfl (st (.len sl22 (.t rfl)) rfl (st (.ltI (.t rfl) (.t rfl)) rfl (nl (.thn (k13 _ _ (.cond (.t rfl) (fun hc2 => ?_) (fun hc2 => ?_)))))))))
  ·have hc2 := BP.t hc2
   have hmm := nz_mul (cf (vals qs) i) (cf (pwL n (vals xs) i) k)
   refine .skip (.thn (k12 _ _ (.seq fun _ k14 => .block (.dr (.s [] rfl rfl rfl (.o rfl (.mv (.t rfl))) (.s [] rfl rfl rfl (.o rfl (.mv (.t rfl))) (.s [] rfl rfl rfl (.o rfl (.mv (.t rfl))) (.s [] rfl rfl rfl (.o rfl (.mv (.t rfl))) (.s [32, 33] rfl rfl rfl (.o rfl (.eq (.ixWin sl22 ty36 (.t rfl) (.t rfl) ⟨by omega, by omega⟩) (isPtr_eq (by first | exact ixo0 | exact ixo2 | exact ixo1)))) (.s [34] rfl rfl rfl (.o rfl (.loadK zc_len (.t rfl) (i := 1) rfl ty36 (getZ (i := k) (by omega)))) (.s [] rfl rfl rfl (.o rfl (.mv (.t rfl))) (.s [] rfl rfl rfl (.o rfl (.mv (.t rfl))) (.s [36, 37] rfl rfl rfl (.o rfl (.ixK sl22 ty36 (.t rfl) (.t rfl) zc_len ⟨by omega, by omega⟩ (getD_some (d := (false, [])) (by first | omega | (simp only [Int.toNat_natCast, List.length_set]; omega))))) ?_)))))))))))))
   refine .s [38] rfl rfl rfl (.o rfl (.loadP (.t rfl) ty36 rfl (Ss' := [_, _]) rfl)) (.s [] rfl rfl rfl (.o rfl (.fieldAddr (.t rfl) fld27_2 ty22)) (.s [40] rfl rfl rfl (.o rfl (.load1 (.t rfl) (i := 0) rfl ty22 rfl)) (.s [] rfl rfl rfl (.o rfl (.mv (.t rfl))) (.s [41, 42] rfl rfl rfl (.o rfl (.ixK sl22 ty36 (.t rfl) (.t rfl) zc_len ⟨by omega, by omega⟩ (getZ (i := k) (by omega)))) (.s [43] rfl rfl rfl (.o rfl (.loadP (.t rfl) ty36 rfl (Ss' := [_, _]) rfl)) (.s [39, 44] rfl rfl rfl (.o rfl (.eq (.call (zint_Mul (by simp only [Int.toNat_natCast]; omega) (by rw [val_words]; omega)) (.cons (.t rfl) (.cons (.t rfl) .nil))) ((show isZ _ = isZ (cf (vals qs) i * cf (pwL n (vals xs) i) k) from isZ_eq (by rw [cf_vals, zv_nz]; rfl))))) ?_))))))
   refine .s [35, 45] rfl rfl rfl (.o rfl (.eq (.call (zint_Add (by rw [val_words]; omega) (by rw [val_words]; omega)) (.cons (.t rfl) (.cons (.t rfl) .nil))) ((show isZ _ = isZ (cf (vF n (vals xs) (vals qs) i k) k + cf (vals qs) i * cf (pwL n (vals xs) i) k) from isZ_eq (by simp only [zv_nf, zv_nz]))))) ?_
   refine .fin (n := 17) mixed (by kernel_rfl) (by kernel_rfl) (by kernel_rfl) (.cv (Cv.wk (.l [0, 3, 4, 5, 6, 15, 16, 17, 18, 21, 22, 23, 7, 8, 24, 25, 26, 27, 30, 31, 32, 33, 34, 35, 36, 37, 38, 39, 40, 41, 42, 43, 44, 45, 46] rfl)) (st (.eq (.ixWin sl22 ty36 (.t rfl) (.t rfl) ⟨by omega, by omega⟩) (isPtr_eq (by first | exact ixo0 | exact ixo2 | exact ixo1))) rfl (.storeK (z := nz (cf (vF n (vals xs) (vals qs) i k) k + cf (vals qs) i * cf (pwL n (vals xs) i) k)) zc_len (.t rfl) (.t rfl) (i := 1) rfl ty36 (by rw [List.length_map, hvl]; show k < _; omega) (M' := [_, (_, _), _]) rfl ?_)))
   refine nl (.bln (.thn (k14 _ _ (.region (st (.mv (.t rfl)) rfl (st (.addI (.t rfl) (.cI 1 rfl) (by first | omega | assumption) (by first | omega | assumption)) rfl (st (.as (.t rfl)) rfl (nl (.thn (hK11 (⟨k + 1, by omega⟩) _ _ ?_ (Cv.mem (.c 8 rfl ?_ (.l [0, 3, 4, 5, 6, 15, 16, 17, 18, 21, 22, 23, 7] rfl)) ?_)))))))))))
   ·show n * n - (k + 1) < n * n - k; omega
   ·exact isI_eq (by omega)
   ·exact congrArg (List.cons _) (memZ_eq (vF_set _ _ (by omega)))
  ·have hc2 := BP.f hc2
   skip
   refine .exit (.the (.the (.blh (.bln (.thn (k8 _ _ (.region (st (.mv (.t rfl)) rfl (st (.addI (.t rfl) (.cI 1 rfl) (by first | omega | assumption) (by first | omega | assumption)) rfl (st (.as (.t rfl)) rfl (nl (.thn ?_))))))))))))
   obtain rfl : k = n * n := (by omega)
   refine hK5 (⟨i + 1, by omega⟩) _ _ ?_ (Cv.trans (Cv.drop ((.cons _ (.cons_cons _ (.cons_cons _ .slnil))))) (Cv.mem (.c 6 rfl ?_ (.l [0, 3, 4, 5] rfl)) ?_))
   ·show qs.length - (i + 1) < qs.length - i; omega
   ·exact isI_eq (by omega)
   ·exact memZ_eq (by rw [vF_next])
 ·have hc1 := BP.f hc1
  refine .exit (.the (.the (.blh (.thn (k3 _ _ (.cv (Cv.wk (.l [4, 5] rfl)) (.seq fun _ k15 => .cv (Cv.freezeK (t := 5) (i := 0) (ys := (vlL n (vals xs) (vals qs) qs.length).map nz) zc_len rfl rfl rfl (by rw [List.length_map, vF_len]; omega) (by rw [List.take_of_length_le (by rw [List.length_map, vF_len]; exact Nat.le_refl _), show i = qs.length by omega, vF_done])) ?_)))))))
  refine .memEq (M' := [_]) rfl (.cv (Cv.wk (.l [4, 5] rfl)) (.region (st (.mv (.t rfl)) rfl (st (.as (.t rfl)) rfl (nl (.thn (k15 _ _ (.ret (rt1 (.inl rfl) Tryz.results21 rfl (.tmp (Has.t' rfl ?_) .nil))))))))))
  all_goals (rfl)
end Go.Proofs.YtcfobalbkhgdmaaGreat
namespace Go.Proofs.YtcfobalbkhgdmaaGreat
open Go.En Go.RowKit
set_option maxRecDepth 10000
set_option maxHeartbeats 4000000
open Go.Nt
open Go.Pz
open Go.Mz
open Go.Hn
open Go.Hp
open Go.Dt
theorem zmat_Scale_1 {C i k K : Nat} {r0 : Int} {xs : List (Bool × List Nat)} {m : Bool} {ws : List Nat} (hx : Bd (vals xs) K) (hK : K ≤ 400000000) (hw : (List.length (words (val ws))) ≤ 1000) (hxm : xs.length ≤ 4096) (hp : i * C + k < xs.length) : Ctr Tryz.prog 100 [isI (i : Int), isI (k : Int), ptM r0 (C : Int) xs, PtrL [isB m, isWords ws]] (Flat (zc (nz (cf (vals xs) (i * C + k) * zv m ws)))) := by
 refine Ctr.intro Tryz.func100 rfl (by kernel_rfl) Tryz.ntmps100 rfl fun w0 F0 => .cv (Cv.wk (.l [0, 1, 2, 3] rfl)) (.fact (Has.rngI (Has.t (t := 0) rfl)) fun lt0 => .fact (Has.rngI (Has.t (t := 1) rfl)) fun lt1 => ?_)
 have hxr := hx.raw (i * C + k)
 refine .seq fun _ k1 => .region (.alloc [isB false, SlM isU []] zero36 (fun _ _ => ⟨rfl, nilM _ _, trivial⟩) rfl fun b1 => nl (.thn (k1 _ _ (.seq fun _ k2 => .dr (.s [] rfl rfl rfl (.o rfl (.loadP (.t rfl) ty27 rfl (Ss' := [_, _, _]) rfl)) (.s [] rfl rfl rfl (.o rfl (.mv (.t rfl))) (.s [] rfl rfl rfl (.o rfl (.mv (.t rfl))) (.s [7, 8, 9] rfl rfl rfl (.o rfl (.call (zmat_get (i := i) (k := k) hxm hp) (.cons (.t rfl) (.cons (.t rfl) (.cons (.t rfl) .nil))))) (.s [] rfl rfl rfl (.o rfl (.loadP (.t rfl) ty36 rfl (Ss' := [_, _]) rfl)) (.fin (n := 5) mixed (by kernel_rfl) (by kernel_rfl) (by kernel_rfl) (.cv (Cv.wk (.l [6, 10, 11] rfl)) (st (.call (zint_Mul (by omega) (by omega)) (.cons (.t rfl) (.cons (.t rfl) .nil))) rfl (.store (.t rfl) (.t rfl) (i := 0) rfl ty36 rfl rfl (Ss' := [_, _]) rfl (M' := [(some _, cellM [_, _])]) rfl (nl (.thn (k2 _ _ (.ret (rt1 (.inl rfl) Tryz.results100 rfl (.cell rfl (i := 0) rfl ty36 rfl ?_ .nil)))))))))))))))))))
 all_goals (exact isZ_eq (by rw [cf_vals]))
theorem zmat_Scale {R C K : Nat} {xs : List (Bool × List Nat)} {m : Bool} {ws : List Nat} (hx : Bd (vals xs) K) (hK : K ≤ 400000000) (hw : (List.length (words (val ws))) ≤ 1000) (hR : R ≤ 64) (hC : C ≤ 64) (hl : xs.length = R * C) : Ctr Tryz.prog 67 [isM (R : Int) (C : Int) xs, Flat [isB m, isWords ws]] (isTup [isMz R C (sclL R C (zv m ws) (vals xs)), isI 0]) := by
 refine Ctr.intro Tryz.func67 rfl (by kernel_rfl) Tryz.ntmps67 rfl fun w0 F0 => .cv (Cv.wk (.l [0, 1] rfl)) (.fact (Has.okZ (Has.t (t := 1) rfl)) fun okz1 => ?_)
 have hRC := side_le hR hC
 have hfo := formB_true hR hC hl
 refine .seq fun _ k1 => .region (.box (.t rfl) rfl fun b1 => .box (.t rfl) rfl fun b2 => .alloc [isI 0, isI 0, nilS] zero27 (fun _ _ => ⟨⟨rfl, by decide, by decide⟩, ⟨rfl, by decide, by decide⟩, rfl, trivial⟩) rfl fun b3 => st (.as (.cI 0 rfl)) rfl (nl (.thn (k1 _ _ (.seq fun _ k2 => .seq fun _ k3 => .region (st (.load (.t rfl) (i := 2) rfl ty27 rfl (Ss' := [_, _, _]) rfl) rfl (st (.eq (.call (zmat_Formed) (.cons (.t rfl) .nil)) ((show isB _ = isB true from isB_eq (hfo)))) rfl (st (.not (.t rfl)) rfl (nl (.thn (k3 _ _ (.cond (.t rfl) (fun hc1 => ?_) (fun hc1 => ?_)))))))))))))
 ·have hc1 := BP.t hc1
  exfalso; simp at hc1
 ·have hc1 := BP.f hc1
  refine .skip (.thn (k2 _ _ (.cv (Cv.wk (.l [2, 3, 4, 5] rfl)) (.seq fun _ k4 => .region (st (.fieldAddr (.t rfl) fld27_0 ty3) rfl (st (.load1 (.t rfl) (i := 2) rfl ty3 rfl) rfl (st (.fieldAddr (.t rfl) fld27_1 ty3) rfl (st (.load1 (.t rfl) (i := 2) rfl ty3 rfl) rfl (.cv (Cv.freezeBox (t := 2) (i := 2) rfl rfl rfl) (.memEq (M' := [_, _]) rfl (.cv (Cv.wk (.l [2, 3, 4, 5, 11, 13] rfl)) (.cv (Cv.freezeBox (t := 3) (i := 1) rfl rfl rfl) (.memEq (M' := [_]) rfl (.cv (Cv.wk (.l [2, 3, 4, 5, 11, 13] rfl)) (st (.makeFn (ι := PI R C) (As := fun p => [isI (p.1.1 : Int), isI (p.1.2 : Int)]) (R := fun p => Flat (zc (nz (cf (vals xs) (p.1.1 * C + p.1.2) * zv m ws)))) (fun p => zmat_Scale_1 hx hK hw (by omega) (by have := place_lt p.2.1 p.2.2; omega)) .nil (.cons (.t rfl) (.cons (.t rfl) .nil))) rfl ?_)))))))))))))))
  refine st (.call (zmat_made (f := fun i k => nz (cf (vals xs) (i * C + k) * zv m ws)) hR hC (fun i k _ _ => by rw [val_words]; have h1 := nz_mul (cf (vals xs) (i * C + k)) (zv m ws); have h2 := hx (i * C + k); have h3 := zv_nw m ws; omega)) (.cons (.t rfl) (.cons (.t rfl) (.cons (.t rfl) .nil)))) rfl ?_
  refine .store (.t rfl) (.t rfl) (i := 0) rfl ty27 rfl rfl (Ss' := [_, _, _]) rfl (M' := [(some _, cellM [_, _, _])]) rfl (st (.as (.cI 0 rfl)) rfl (nl (.thn (k4 _ _ (.cv (Cv.wk (.l [4, 5] rfl)) (.ret (rtN (.inl rfl) Tryz.results67 rfl rfl (.cell rfl (i := 0) rfl ty27 rfl ?_ (.tmp (Has.t' rfl ?_) .nil)))))))))
  ·exact isMz_eq (by rw [zvz fun i k => cf (vals xs) (i * C + k) * zv m ws]; rfl)
  ·rfl
end Go.Proofs.YtcfobalbkhgdmaaGreat
namespace Go.Proofs.YtcfobalbkhgdmaaGreat
open Go.En Go.RowKit
set_option maxRecDepth 10000
set_option maxHeartbeats 4000000
open Go.Nt
open Go.Pz
open Go.Mz
open Go.Hn
open Go.Hp
open Go.Dt
open Go.Ch
theorem exact_mul {k : Nat} (h : 1 ≤ k) (c : Int) : (if (k : Int) ≠ 0 ∧ ((k : Int) * c).tmod (k : Int) = 0 then ((k : Int) * c).tdiv (k : Int) else 0) = c := by
 rw [if_pos ⟨by omega, Int.mul_tmod_right _ _⟩]
 exact Int.mul_tdiv_cancel_left _ (by omega)
theorem qF_fz {n k : Nat} {L : List Int} (h : k = n + 1) : (qF n L k).take (n + 1) = (chL n L).map nz := by
 subst h
 rw [List.take_of_length_le (by rw [qF_len]; exact Nat.le_refl _), qF_done]
theorem memQ_eq {b : Nat} {x : Option Nat × MP} {a c : List (Bool × List Nat)} {r : Mem} (h : a = c) : (x :: (some b, cellM (a.flatMap zc)) :: r : Mem) = x :: (some b, cellM (c.flatMap zc)) :: r := by subst h; rfl
theorem fl_first (n : Nat) (L : List Int) : oneL n = flM n L (min 1 n) := by
 rcases Nat.eq_zero_or_pos n with h | h
 ·subst h; rfl
 ·rw [Nat.min_eq_left h, fl_one h]
theorem zchar_steps {n K : Nat} {xs : List (Bool × List Nat)} (hx : Bd (vals xs) K) (hB : K + flB n K n + 2 * n ≤ 900) (hn : n ≤ 64) (hl : xs.length = n * n) : Ctr Tryz.prog 36 [isM (n : Int) (n : Int) xs] (isTup [isP (chL n (vals xs)), isMz n n (flM n (vals xs) n)]) := by
 refine Ctr.intro Tryz.func36 rfl (by kernel_rfl) Tryz.ntmps36 rfl fun w0 F0 => .cv (Cv.wk (.l [0] rfl)) ?_
 have hRC := side_le hn hn
 have hOb : Bd (vals ((oneL n).map nz)) 1 := by rw [vals_nz]; exact oneL_bd n
 have hOl : ((oneL n).map nz).length = n * n := by rw [List.length_map, oneL_len]
 have hcb := chL_bd (n := n) hx
 refine .seq fun _ k1 => .region (.box (.t rfl) rfl fun b1 => st (.as (.cWK (k := 2) (fk := zc))) rfl (.alloc [isI 0, isI 0, nilS] zero27 (fun _ _ => ⟨⟨rfl, by decide, by decide⟩, ⟨rfl, by decide, by decide⟩, rfl, trivial⟩) rfl fun b2 => nl (.thn (k1 _ _ (.seq fun _ k2 => .region (st (.fieldAddr (.t rfl) fld27_0 ty3) rfl (st (.load1 (.t rfl) (i := 1) rfl ty3 rfl) rfl (st (.as (.t rfl)) rfl (nl (.thn (k2 _ _ (.seq fun _ k3 => .region (st (.mv (.t rfl)) rfl (st (.call (zmat_Identity hn) (.cons (.t rfl) .nil)) rfl (st (.ext (.t rfl) rfl) rfl (st (.ext (.t rfl) rfl) rfl (st (.call (zchar_must) (.cons (.t rfl) (.cons (.t rfl) .nil))) rfl (.alloc [isI 0, isI 0, nilS] zero27 (fun _ _ => ⟨⟨rfl, by decide, by decide⟩, ⟨rfl, by decide, by decide⟩, rfl, trivial⟩) rfl fun b3 => .store (.t rfl) (.t rfl) (i := 0) rfl ty27 rfl rfl (Ss' := [_, _, _]) rfl (M' := [(some _, cellM [_, _, _]), _, _]) rfl (nl (.thn (k3 _ _ (.cv (Cv.wk (.l [1, 2, 3, 4, 5] rfl)) (.seq fun _ k4 => .region (st (.mv (.t rfl)) rfl (st (.eq (.addI (.t rfl) (.cI 1 rfl) (by first | omega | assumption) (by first | omega | assumption)) ((show isI _ = isI ((n + 1 : Nat) : Int) from isI_eq (by omega)))) rfl (.makeK (fk := zc) (u := (false, [])) (n := (n + 1)) (c := (n + 1)) sl23 ty36 zero36 (fun _ _ => ⟨rfl, nilM _ _, trivial⟩) zc_len by36 (Has.t' rfl rfl) (Has.t' rfl rfl) ⟨by omega, by omega⟩ rfl fun b4 => st (.as (.t rfl)) rfl (nl (.thn (k4 _ _ (.seq fun _ k5 => .region (st (.mv (.t rfl)) rfl (st (.mv (.t rfl)) rfl (st (.eq (.call (zint_Of) (.cons (.cI 1 rfl) .nil)) ((show isZ 1 = Flat (zc (nz 1)) from rfl))) rfl (st (.eq (.ixWin sl23 ty36 (.t rfl) (.t rfl) ⟨by omega, by omega⟩) (isPtr_eq (by first | exact ixo0 | exact ixo2 | exact ixo1))) rfl (.storeK (z := nz 1) zc_len (.t rfl) (.t rfl) (i := 0) rfl ty36 (by simp only [Int.toNat_natCast, List.length_replicate]; omega) (M' := [(_, _), _, _, _]) rfl ?_)))))))))))))))))))))))))))))))))))
 refine nl (.thn (k5 _ _ (.cv (Cv.wk (.l [1, 2, 3, 4, 5, 6] rfl)) (.seq fun _ k6 => .region (st (.load (.t rfl) (i := 1) rfl ty27 rfl (Ss' := [_, _, _]) rfl) rfl (.alloc [isI 0, isI 0, nilS] zero27 (fun _ _ => ⟨⟨rfl, by decide, by decide⟩, ⟨rfl, by decide, by decide⟩, rfl, trivial⟩) rfl fun b5 => .store (.t rfl) (.t rfl) (i := 0) rfl ty27 rfl rfl (Ss' := [_, _, _]) rfl (M' := [(some _, cellM [_, _, _]), _, _, _, _]) rfl (nl (.thn (k6 _ _ (.seq fun _ k7 => .seq fun _ k8 => .region (st (.as (.cI 1 rfl)) rfl (nl (.thn (k8 _ _ (.block ?_)))))))))))))))
 refine .loopF [1, 2, 3, 4, 5, 6, 7] (fun (z : { z : Nat × List Int // 1 ≤ z.1 ∧ z.1 ≤ n + 1 ∧ z.2 = flM n (vals xs) (min z.1 n) }) => match z with | ⟨(k, Mk), hI⟩ => [(8, isI (k : Int))]) (fun M => fun (z : { z : Nat × List Int // 1 ≤ z.1 ∧ z.1 ≤ n + 1 ∧ z.2 = flM n (vals xs) (min z.1 n) }) => match z with | ⟨(k, Mk), hI⟩ => [(some b5, cellM [isI (n : Int), isI (n : Int), SlK 2 zc (Mk.map nz)]), (some b4, cellM ((qF n (vals xs) k).flatMap zc)), (some b3, cellM [isI (n : Int), isI (n : Int), SlK 2 zc ((oneL n).map nz)]), (some b2, cellM [isI 0, isI 0, nilS]), (some b1, cellM [isI (n : Int), isI (n : Int), SlK 2 zc xs])]) (fun (z : { z : Nat × List Int // 1 ≤ z.1 ∧ z.1 ≤ n + 1 ∧ z.2 = flM n (vals xs) (min z.1 n) }) => match z with | ⟨(k, Mk), hI⟩ => n + 1 - k) (⟨(1, oneL n), Nat.le_refl _, by show 1 ≤ n + 1; omega, fl_first n _⟩) (Cv.mem (.c 8 rfl ?_ (.l [1, 2, 3, 4, 5, 6, 7] rfl)) ?_) ?_
 ·exact isI_eq (by omega)
 ·exact memQ_eq (qF_one n _)
 rintro ⟨⟨k, Mk⟩, hI⟩ K9 hK9
 refine .cv (Cv.wk (.l [8, 1, 2, 3, 4, 5, 6, 7] rfl)) (.memEq (M' := [(some b5, cellM [isI (n : Int), isI (n : Int), SlK 2 zc (Mk.map nz)]), (some b4, cellM ((qF n (vals xs) k).flatMap zc)), (some b3, cellM [isI (n : Int), isI (n : Int), SlK 2 zc ((oneL n).map nz)]), (some b2, cellM [isI 0, isI 0, nilS]), (some b1, cellM [isI (n : Int), isI (n : Int), SlK 2 zc xs])]) rfl ?_)
 simp only [] at hI
 obtain ⟨hk1, hk2, hMk⟩ := hI
 obtain ⟨cK, hcK⟩ : ∃ c, c = flC n (vals xs) k := ⟨_, rfl⟩
 have hMl : Mk.length = n * n := by rw [hMk]; exact flM_len _ _ _
 refine .seq fun _ k10 => .seq fun _ k11 => .region (st (.mv (.t rfl)) rfl (st (.mv (.t rfl)) rfl (st (.leI (.t rfl) (.t rfl)) rfl (nl (.thn (k11 _ _ (.cond (.t rfl) (fun hc1 => ?_) (fun hc1 => ?_))))))))
 ·have hc1 := BP.t hc1
  have hkn : k ≤ n := (by omega)
  have hMk2 : Mk = flM n (vals xs) k := by rw [hMk, Nat.min_eq_left hkn]
  have hMb : Bd Mk (flB n K n) := by rw [hMk2]; exact (fl_bd hx k hk1 hkn).mono (by unfold flB; exact Nat.add_le_add_left (Nat.mul_le_mul_right _ (by omega)) _)
  obtain ⟨Am, hAm⟩ : ∃ X, X = prdL n (vals xs) Mk := ⟨_, rfl⟩
  have hAb : Bd Am (K + flB n K n + n) := by rw [hAm]; exact prdL_bd hx hMb
  have hAl : Am.length = n * n := by rw [hAm]; exact prdL_len _ _ _
  have htr : trcL n Am n = -((k : Int) * cK) := by rw [hAm, hMk2, hcK]; exact fl_tr hk1 hkn
  have hcb2 : (List.length (words cK.natAbs)) ≤ K + flB n K n + 2 * n := by rw [hcK]; exact fl_cbd hx (by rw [← hMk2]; exact hMb) hk1 hkn
  have hts : (List.length (words (trcL n Am n).natAbs)) ≤ K + flB n K n + n + n := sm_nw (fun i => hAb _) n
  rw [htr, Int.natAbs_neg] at hts
  have hkw : (List.length (words ((k : Int)).natAbs)) ≤ 1 := nw_small' (by omega)
  refine .skip (.thn (k10 _ _ (.seq fun _ k12 => .block (.seq fun _ k13 => .region (st (.load (.t rfl) (i := 4) rfl ty27 rfl (Ss' := [_, _, _]) rfl) rfl ?_)))))
  refine st (.load (.t rfl) (i := 0) rfl ty27 rfl (Ss' := [_, _, _]) rfl) rfl (st (.eq (.call (zmat_Mul (R := n) (C := n) (D := n) (K := K) (L := flB n K n) (ys := Mk.map nz) hx (by rw [vals_nz]; exact hMb) (by omega) hn hn hn hl (by rw [List.length_map]; exact hMl)) (.cons (.t rfl) (.cons (.t rfl) .nil))) ((show _ = isTup [isMz n n Am, isI 0] from by rw [vals_nz, hAm]; rfl))) rfl ?_)
  refine st (.ext (.t rfl) rfl) rfl (st (.ext (.t rfl) rfl) rfl (st (.call (zchar_must) (.cons (.t rfl) (.cons (.t rfl) .nil))) rfl (.alloc [isI 0, isI 0, nilS] zero27 (fun _ _ => ⟨⟨rfl, by decide, by decide⟩, ⟨rfl, by decide, by decide⟩, rfl, trivial⟩) rfl fun b6 => .store (.t rfl) (.t rfl) (i := 0) rfl ty27 rfl rfl (Ss' := [_, _, _]) rfl (M' := [(some _, cellM [_, _, _]), _, _, _, _, _]) rfl (nl (.thn (k13 _ _ (.seq fun _ k14 => .region (st (.load (.t rfl) (i := 0) rfl ty27 rfl (Ss' := [_, _, _]) rfl) rfl (st (.eq (.call (zchar_trace (K := K + flB n K n + n) (xs := Am.map nz) (by rw [vals_nz]; exact hAb) (by omega) hn (by rw [List.length_map]; exact hAl)) (.cons (.t rfl) .nil)) ((show _ = isZ (-((k : Int) * cK)) from isZ_eq (by rw [vals_nz, htr])))) rfl ?_)))))))))
  refine st (.eq (.call (zint_Neg (by rw [val_words, Int.natAbs_neg]; omega)) (.cons (.t rfl) .nil)) ((show _ = isZ ((k : Int) * cK) from isZ_eq (by simp only [zv_nf, zv_nz]; omega)))) rfl ?_
  refine st (.mv (.t rfl)) rfl (st (.call (zint_Of) (.cons (.t rfl) .nil)) rfl (st (.call (zint_Exact (by rw [val_words]; omega) (by rw [val_words]; omega)) (.cons (.t rfl) (.cons (.t rfl) .nil))) rfl ?_))
  refine st (.mv (.t rfl)) rfl (st (.eq (.ext (.t rfl) rfl) ((show _ = isZ cK from isZ_eq (by simp only [zv_nf, zv_nz]; exact exact_mul hk1 cK)))) rfl ?_)
  refine st (.ext (.t rfl) rfl) rfl (.alloc [isB false, SlM isU []] zero36 (fun _ _ => ⟨rfl, nilM _ _, trivial⟩) rfl fun b7 => .store (.t rfl) (.t rfl) (i := 0) rfl ty36 rfl rfl (Ss' := [_, _]) rfl (M' := [(some _, cellM [_, _]), _, _, _, _, _, _]) rfl (st (.as (.t rfl)) rfl (nl (.thn (k14 _ _ (.seq fun _ k15 => .region (st (.mv (.t rfl)) rfl (st (.mv (.t rfl)) rfl (st (.mv (.t rfl)) rfl (st (.eq (.subI (.t rfl) (.t rfl) (by first | omega | assumption) (by first | omega | assumption)) ((show isI _ = isI ((n - k : Nat) : Int) from isI_eq (by omega)))) rfl (st (.load (.t rfl) (i := 0) rfl ty36 rfl (Ss' := [_, _]) rfl) rfl (st (.eq (.ixWin sl23 ty36 (.t rfl) (.t rfl) ⟨by omega, by omega⟩) (isPtr_eq (by first | exact ixo0 | exact ixo2 | exact ixo1))) rfl (.storeK (z := nz cK) zc_len (.t rfl) (.t rfl) (i := 3) rfl ty36 (by rw [qF_len]; simp only [Int.toNat_natCast]; omega) (M' := [_, _, _, (_, _), _, _, _]) rfl ?_)))))))))))))
  refine nl (.thn (k15 _ _ (.seq fun _ k16 => .region (st (.mv (.t rfl)) rfl (st (.mv (.t rfl)) rfl (st (.ltI (.t rfl) (.t rfl)) rfl (nl (.thn (k16 _ _ (.cond (.t rfl) (fun hc2 => ?_) (fun hc2 => ?_)))))))))))
  ·have hc2 := BP.t hc2
   refine .dr (.s [] rfl rfl rfl (.o rfl (.load (.t rfl) (i := 1) rfl ty27 rfl (Ss' := [_, _, _]) rfl)) (.s [] rfl rfl rfl (.o rfl (.load (.t rfl) (i := 4) rfl ty27 rfl (Ss' := [_, _, _]) rfl)) (.s [] rfl rfl rfl (.o rfl (.load (.t rfl) (i := 0) rfl ty36 rfl (Ss' := [_, _]) rfl)) ?_)))
   refine .s [57, 58] rfl rfl rfl (.o rfl (.eq (.call (zmat_Scale (R := n) (C := n) (K := 1) hOb (by decide) (by rw [val_words]; omega) hn hn hOl) (.cons (.t rfl) (.cons (.t rfl) .nil))) ((show _ = isTup [isMz n n (sclL n n cK (oneL n)), isI 0] from by rw [vals_nz]; first | rw [zv_nf] | rw [zv_nz])))) ?_
   refine .s [59] rfl rfl rfl (.o rfl (.ext (.t rfl) rfl)) (.s [59] rfl rfl rfl (.o rfl (.ext (.t rfl) rfl)) (.s [60, 61] rfl rfl rfl (.o rfl (.call (zchar_must) (.cons (.t rfl) (.cons (.t rfl) .nil)))) (.s [56, 62] rfl rfl rfl (.o rfl (.eq (.call (zmat_Add (K := 1000) (xs := Am.map nz) (ys := (sclL n n cK (oneL n)).map nz) (by rw [vals_nz]; exact hAb.mono (by omega)) (by rw [vals_nz]; exact (scl_one_bd hcb2).mono (by omega)) (by decide) hn (by rw [List.length_map]; exact hAl) (by rw [List.length_map, sclL_len])) (.cons (.t rfl) (.cons (.t rfl) .nil))) ((show _ = isTup [isMz n n (sumL n Am (sclL n n cK (oneL n))), isI 0] from by rw [vals_nz, vals_nz])))) ?_)))
   refine .s [63] rfl rfl rfl (.o rfl (.ext (.t rfl) rfl)) (.s [63] rfl rfl rfl (.o rfl (.ext (.t rfl) rfl)) (.fin (n := 10) mixed (by kernel_rfl) (by kernel_rfl) (by kernel_rfl) (.cv (Cv.wk (.l [1, 2, 3, 4, 5, 6, 7, 8, 27, 28, 29, 32, 33, 34, 35, 36, 37, 9, 39, 40, 41, 42, 43, 44, 38, 45, 46, 10, 47, 48, 49, 50, 51, 52, 53, 54, 55, 56, 57, 58, 59, 60, 61, 62, 63, 64, 65] rfl)) (st (.call (zchar_must) (.cons (.t rfl) (.cons (.t rfl) .nil))) rfl (.store (.t rfl) (.t rfl) (i := 2) rfl ty27 rfl rfl (Ss' := [_, _, _]) rfl (M' := [_, _, (some _, cellM [_, _, _]), _, _, _, _]) rfl (nl (.bln (.thn (k12 _ _ (.region (st (.mv (.t rfl)) rfl (st (.addI (.t rfl) (.cI 1 rfl) (by first | omega | assumption) (by first | omega | assumption)) rfl (st (.as (.t rfl)) rfl (nl (.thn ?_)))))))))))))))
   refine hK9 (⟨(k + 1, sumL n Am (sclL n n cK (oneL n))), by show 1 ≤ k + 1; omega, by show k + 1 ≤ n + 1; omega, by show _ = flM n (vals xs) (min (k + 1) n); rw [hAm, hMk2, hcK, Nat.min_eq_left (by omega)]; exact fl_next hk1 (by omega)⟩) _ _ ?_ (Cv.trans (Cv.drop ((.cons _ (.cons _ (.cons_cons _ (.cons_cons _ (.cons_cons _ (.cons_cons _ (.cons_cons _ .slnil))))))))) (Cv.mem (.c 8 rfl ?_ (.l [1, 2, 3, 4, 5, 6, 7] rfl)) ?_))
   ·show n + 1 - (k + 1) < n + 1 - k; omega
   ·exact isI_eq (by omega)
   ·exact memQ_eq (by rw [Int.toNat_natCast, hcK]; exact qF_set hkn)
  ·have hc2 := BP.f hc2
   refine .skip (.bln (.thn (k12 _ _ (.region (st (.mv (.t rfl)) rfl (st (.addI (.t rfl) (.cI 1 rfl) (by first | omega | assumption) (by first | omega | assumption)) rfl (st (.as (.t rfl)) rfl (nl (.thn ?_)))))))))
   refine hK9 (⟨(k + 1, Mk), by show 1 ≤ k + 1; omega, by show k + 1 ≤ n + 1; omega, by show _ = flM n (vals xs) (min (k + 1) n); rw [hMk, Nat.min_eq_right (by omega), Nat.min_eq_right (by omega)]⟩) _ _ ?_ (Cv.trans (Cv.drop ((.cons _ (.cons _ (.cons_cons _ (.cons_cons _ (.cons_cons _ (.cons_cons _ (.cons_cons _ .slnil))))))))) (Cv.mem (.c 8 rfl ?_ (.l [1, 2, 3, 4, 5, 6, 7] rfl)) ?_))
   ·show n + 1 - (k + 1) < n + 1 - k; omega
   ·exact isI_eq (by omega)
   ·exact memQ_eq (by rw [Int.toNat_natCast, hcK]; exact qF_set hkn)
 ·have hc1 := BP.f hc1
  have hkn : k = n + 1 := (by omega)
  refine .exit (.the (.the (.blh (.thn (k7 _ _ (.cv (Cv.wk (.l [2, 3, 6, 7] rfl)) (.seq fun _ k17 => .cv (Cv.freezeK (t := 6) (i := 1) (ys := (chL n (vals xs)).map nz) zc_len rfl rfl rfl (by rw [qF_len]; omega) (qF_fz hkn)) ?_)))))))
  refine .memEq (M' := [_, _, _, _]) rfl (.cv (Cv.wk (.l [2, 3, 6, 7] rfl)) (.cv (Cv.wk (.l [3, 6, 7] rfl)) (.dr (.s [] rfl rfl rfl (.o rfl (.mv (.t rfl))) (.s [67] rfl rfl rfl (.o rfl (.eq (.call (zpoly_Norm (K := 1000) (by rw [vals_nz]; exact hcb.mono (by omega)) (by decide) (by rw [List.length_map, chL_len]; omega)) (.cons (.t rfl) .nil)) ((show _ = isP (chL n (vals xs)) from isPl_eq (by rw [vals_nz, chL_norm]))))) ?_)))))
  refine .s [] rfl rfl rfl (.o rfl (.load (.t rfl) (i := 0) rfl ty27 rfl (Ss' := [_, _, _]) rfl)) (.s [68] rfl rfl rfl (.o rfl (.as (.t rfl))) (.fin (n := 4) mixed (by kernel_rfl) (by kernel_rfl) (by kernel_rfl) (.cv (Cv.wk (.l [3, 69, 2] rfl)) (.store (.t rfl) (.t rfl) (i := 2) rfl ty27 rfl rfl (Ss' := [_, _, _]) rfl (M' := [_, _, (some _, cellM [_, _, _]), _]) rfl (nl (.thn (k17 _ _ (.ret (rtN (.inl rfl) Tryz.results36 rfl rfl (.tmp (Has.t' rfl ?_) (.cell rfl (i := 2) rfl ty27 rfl ?_ .nil)))))))))))
  ·rfl
  ·exact isMz_eq (by rw [hMk, hkn, Nat.min_eq_right (by omega)])
theorem zchar_Char {n K : Nat} {xs : List (Bool × List Nat)} (hx : Bd (vals xs) K) (hB : K + flB n K n + 2 * n ≤ 900) (hn : n ≤ 64) (hl : xs.length = n * n) : Ctr Tryz.prog 12 [isM (n : Int) (n : Int) xs] (isTup [isP (chL n (vals xs)), isI 0]) := by
 refine Ctr.intro Tryz.func12 rfl (by kernel_rfl) Tryz.ntmps12 rfl fun w0 F0 => .cv (Cv.wk (.l [0] rfl)) ?_
 have hfo := formB_true hn hn hl
 have hfs : (formB (n : Int) (n : Int) xs.length && decide ((n : Int) = (n : Int))) = true := by rw [hfo]; simp
 refine .seq fun _ k1 => .region (.box (.t rfl) rfl fun b1 => st (.as (.cWK (k := 2) (fk := zc))) rfl (st (.as (.cI 0 rfl)) rfl (nl (.thn (k1 _ _ (.seq fun _ k2 => .seq fun _ k3 => .region (st (.load (.t rfl) (i := 0) rfl ty27 rfl (Ss' := [_, _, _]) rfl) rfl (st (.eq (.call (zchar_square) (.cons (.t rfl) .nil)) ((show isB _ = isB true from isB_eq (hfs)))) rfl (st (.not (.t rfl)) rfl (nl (.thn (k3 _ _ (.cond (.t rfl) (fun hc1 => ?_) (fun hc1 => ?_))))))))))))))
 ·have hc1 := BP.t hc1
  exfalso; simp at hc1
 ·have hc1 := BP.f hc1
  refine .skip (.thn (k2 _ _ (.seq fun _ k4 => .region (st (.load (.t rfl) (i := 0) rfl ty27 rfl (Ss' := [_, _, _]) rfl) rfl (st (.call (zchar_steps hx hB hn hl) (.cons (.t rfl) .nil)) rfl (st (.mv (.t rfl)) rfl (st (.ext (.t rfl) rfl) rfl (st (.ext (.t rfl) rfl) rfl (.alloc [isI 0, isI 0, nilS] zero27 (fun _ _ => ⟨⟨rfl, by decide, by decide⟩, ⟨rfl, by decide, by decide⟩, rfl, trivial⟩) rfl fun b2 => st (.as (.t rfl)) rfl (.store (.t rfl) (.t rfl) (i := 0) rfl ty27 rfl rfl (Ss' := [_, _, _]) rfl (M' := [(some _, cellM [_, _, _]), _]) rfl (nl (.thn (k4 _ _ (.cv (Cv.wk (.l [2, 3, 4] rfl)) (.seq fun _ k5 => .region (st (.mv (.t rfl)) rfl (st (.as (.t rfl)) rfl (st (.as (.cI 0 rfl)) rfl (nl (.thn (k5 _ _ (.ret (rtN (.inl rfl) Tryz.results12 rfl rfl (.tmp (Has.t' rfl ?_) (.tmp (Has.t' rfl ?_) .nil)))))))))))))))))))))))))
  ·rfl
  ·rfl
theorem aw26_b : Bd [1, 2, 3, 4] 1 := bd64 (by decide)
theorem aw26_tab : tab (2 * 2) 2 (fun i k => cf [1, 2, 3, 4] (i * 2 + k)) = [1, 2, 3, 4] := by decide
theorem aw26_q : Bd [-2, -5, 1] 1 := bd64 (by decide)
theorem aw26_n : pnorm [-2, -5, 1] = [-2, -5, 1] := by decide
theorem aw26_s : psub [-2, -5, 1] [-2, -5, 1] = [] := by decide
theorem det_2 (A : MatF) : det 2 A = A 0 0 * A 1 1 - A 0 1 * A 1 0 := by
 show 0 + 1 * (A 0 0 * (0 + 1 * (A 1 1 * 1))) + (-1) * (A 0 1 * (0 + 1 * (A 1 0 * 1))) = _
 grind
theorem aw26 : chL 2 [1, 2, 3, 4] = [-2, -5, 1] := by
 have h : ∀ i, i < 3 → cp 2 (mf 2 [1, 2, 3, 4]) i = cf [-2, -5, 1] i := pe_inj fun x => by
  rw [← cp_ev, det_2]
  show (1 * x + -1) * (1 * x + -4) - (0 * x + -2) * (0 * x + -3) = 0 + -2 * x ^ 0 + -5 * x ^ 1 + 1 * x ^ 2
  grind
 unfold chL
 show [cp 2 (mf 2 [1, 2, 3, 4]) 0, cp 2 (mf 2 [1, 2, 3, 4]) 1, cp 2 (mf 2 [1, 2, 3, 4]) 2] = _
 rw [h 0 (by decide), h 1 (by decide), h 2 (by decide)]; rfl
theorem law26_square {r c : Int} {xs : List (Bool × List Nat)} : Ctr Tryz.prog 18 [isM r c xs] (isB (formB r c xs.length && decide (r = c))) := by
 refine Ctr.intro Tryz.func18 rfl (by kernel_rfl) Tryz.ntmps18 rfl fun w0 F0 => .cv (Cv.wk (.l [0] rfl)) (.seq fun _ k1 => .region (.box (.t rfl) rfl fun b1 => st (.as (.cB false)) rfl (nl (.thn (k1 _ _ (.seq fun _ k2 => .region (st (.load (.t rfl) (i := 0) rfl ty27 rfl (Ss' := [_, _, _]) rfl) rfl (st (.call (ref11_Formed) (.cons (.t rfl) .nil)) rfl (st (.mv (.t rfl)) rfl (stT rfl rfl (fun hg => .fieldAddr (.t rfl) fld27_0 ty3) rfl (stT rfl rfl (fun hg => .load1 (Has.g rfl hg) (i := 0) rfl ty3 rfl) rfl (stT rfl rfl (fun hg => .fieldAddr (.t rfl) fld27_1 ty3) rfl (stT rfl rfl (fun hg => .load1 (Has.g rfl hg) (i := 0) rfl ty3 rfl) rfl (stT rfl rfl (fun hg => .eqI (Has.g rfl hg) (Has.g rfl hg)) rfl (st (.pickAnd (.t rfl) (fun h => Has.g rfl h)) rfl (st (.as (.t rfl)) rfl (nl (.thn (k2 _ _ (.cv (Cv.wk (.l [2] rfl)) (.ret (rt1 (.inl rfl) Tryz.results18 rfl (.tmp (Has.t' rfl ?_) .nil)))))))))))))))))))))))
 all_goals (rfl)
theorem law26_awake  : Ctr Tryz.prog 5 [] (isB true) := by
 refine Ctr.intro Tryz.func5 rfl (by kernel_rfl) Tryz.ntmps5 rfl fun w0 F0 => .cv (Cv.wk .nil) (.seq fun _ k1 => .region (st (.as (.cB false)) rfl (nl (.thn (k1 _ _ (.seq fun _ k2 => .region (st (.buildS [isI 0, isI 0, isI 0, isI 0] sl94 ty2 zero2 (fun _ _ => ⟨⟨rfl, by decide, by decide⟩, ⟨rfl, by decide, by decide⟩, ⟨rfl, by decide, by decide⟩, ⟨rfl, by decide, by decide⟩, trivial⟩) rfl rfl (.cons (.cI 1 rfl) rfl rfl rfl (.cons (.cI 2 rfl) rfl rfl rfl (.cons (.cI 3 rfl) rfl rfl rfl (.cons (.cI 4 rfl) rfl rfl rfl .nil)))) rfl (S := SlM isI [_, _, _, _]) rfl) rfl (st (.eq (.call (zmat_Of (R := 2) (C := 2) (l := [1, 2, 3, 4]) (by decide) (by decide) rfl (by decide)) (.cons (.cI 2 rfl) (.cons (.cI 2 rfl) (.cons (.t rfl) .nil)))) ((show isTup [isMz 2 2 _, isI 0] = isTup [isMz 2 2 [1, 2, 3, 4], isI 0] from by rw [aw26_tab]))) rfl (st (.mv (.t rfl)) rfl (st (.ext (.t rfl) rfl) rfl (st (.ext (.t rfl) rfl) rfl (.alloc [isI 0, isI 0, nilS] zero27 (fun _ _ => ⟨⟨rfl, by decide, by decide⟩, ⟨rfl, by decide, by decide⟩, rfl, trivial⟩) rfl fun b1 => .store (.t rfl) (.t rfl) (i := 0) rfl ty27 rfl rfl (Ss' := [_, _, _]) rfl (M' := [(some _, cellM [_, _, _])]) rfl (st (.as (.t rfl)) rfl (nl (.thn (k2 _ _ (.cv (Cv.wk (.l [0, 1] rfl)) (.seq fun _ k3 => .region (st (.load (.t rfl) (i := 0) rfl ty27 rfl (Ss' := [_, _, _]) rfl) rfl (st (.eq (.call (zchar_Char (n := 2) (K := 1) (xs := [1, 2, 3, 4].map nz) (by rw [vals_nz]; exact aw26_b) (by decide) (by decide) rfl) (.cons (.t rfl) .nil)) ((show _ = isTup [isP [-2, -5, 1], isI 0] from by rw [vals_nz, aw26]))) rfl ?_))))))))))))))))))))
 refine st (.mv (.t rfl)) rfl (st (.ext (.t rfl) rfl) rfl (st (.ext (.t rfl) rfl) rfl (st (.as (.t rfl)) rfl (st (.as (.t rfl)) rfl (nl (.thn (k3 _ _ (.cv (Cv.wk (.l [0, 3, 4] rfl)) (.seq fun _ k4 => .region (st (.mv (.t rfl)) rfl (st (.eqI (.t rfl) (.cI 0 rfl)) rfl (st (.mv (.t rfl)) rfl (stT rfl rfl (fun hg => .mv (.t rfl)) rfl ?_)))))))))))))
 refine stT rfl rfl (fun hg => have hg' := BP.t hg; OK1.buildS [isI 0, isI 0, isI 0] sl94 ty2 zero2 (fun _ _ => ⟨⟨rfl, by decide, by decide⟩, ⟨rfl, by decide, by decide⟩, ⟨rfl, by decide, by decide⟩, trivial⟩) rfl rfl (.cons (.cI (-2) rfl) rfl rfl rfl (.cons (.cI (-5) rfl) rfl rfl rfl (.cons (.cI 1 rfl) rfl rfl rfl .nil))) rfl (S := SlM isI [_, _, _]) rfl) rfl ?_
 refine stT rfl rfl (fun hg => have hg' := BP.t hg; OK1.eq (.call (zpoly_Of (by decide)) (.cons (Has.g rfl hg) .nil)) ((show _ = isP [-2, -5, 1] from isPl_eq aw26_n))) rfl ?_
 refine stT rfl rfl (fun hg => have hg' := BP.t hg; OK1.eq (.call (zpoly_Same (K := 1) (by rw [vals_nz]; exact aw26_q) (by rw [vals_nz]; exact aw26_q) (by decide) (by decide) (by decide)) (.cons (Has.g rfl hg) (.cons (Has.g rfl hg) .nil))) ((show isB _ = isB true from isB_eq (decide_eq_true (by rw [vals_nz]; exact aw26_s))))) rfl ?_
 refine st (.pickAnd (.t rfl) (fun h => Has.g rfl h)) rfl (st (.mv (.t rfl)) rfl (stT rfl rfl (fun hg => .mv (.t rfl)) rfl (stT rfl rfl (fun hg => .len sl23 (Has.g rfl hg)) rfl (stT rfl rfl (fun hg => .eqI (Has.g rfl hg) (.cI 3 rfl)) rfl (st (.pickAnd (.t rfl) (fun h => Has.g rfl h)) rfl (st (.as (.t rfl)) rfl (nl (.thn (k4 _ _ (.cv (Cv.wk (.l [0] rfl)) (.ret (rt1 (.inl rfl) Tryz.results5 rfl (.tmp (Has.t' rfl ?_) .nil)))))))))))))
 all_goals (rfl)
end Go.Proofs.YtcfobalbkhgdmaaGreat
namespace Go.Proofs.YtcfobalbkhgdmaaGreat
open Go.En Go.RowKit
set_option maxRecDepth 10000
set_option maxHeartbeats 4000000
open Go.Nt
open Go.Pz
open Go.Mz
open Go.Hn
open Go.Hp
open Go.Dt
theorem ref17_Zero {xs : List (Bool × List Nat)} {K : Nat} (hx : Bd (vals xs) K) (hK : K ≤ 400000000) : Ctr Tryz.prog 20 [SlK 2 zc xs] (isB (zeroB (vals xs))) := by
 refine Ctr.intro Tryz.func20 rfl (by kernel_rfl) Tryz.ntmps20 rfl fun w0 F0 => .cv (Cv.wk (.l [0] rfl)) (.fact (Has.lenLt (Has.t (t := 0) rfl)) fun lt0 => .seq fun _ k1 => .region (st (.as (.cB false)) rfl (nl (.thn (k1 _ _ (.seq fun _ k2 => .seq fun _ k3 => .region (st (.as (.cI 0 rfl)) rfl (nl (.thn (k3 _ _ (.block (.loopF [0] (fun (z : { i : Nat // i ≤ xs.length ∧ ∀ j, j < i → cf (vals xs) j = 0 }) => match z with | ⟨i, hI⟩ => [(3, isI (i : Int))]) (fun M => fun (z : { i : Nat // i ≤ xs.length ∧ ∀ j, j < i → cf (vals xs) j = 0 }) => match z with | ⟨i, hI⟩ => M) (fun (z : { i : Nat // i ≤ xs.length ∧ ∀ j, j < i → cf (vals xs) j = 0 }) => match z with | ⟨i, hI⟩ => xs.length - i) (⟨0, Nat.zero_le _, fun j hj => absurd hj (Nat.not_lt_zero _)⟩) (Cv.mem (.c 3 rfl ?_ (.l [0] rfl)) ?_) ?_))))))))))))
 ·rfl
 ·rfl
 rintro ⟨i, hi, hq⟩ K4 hK4
 refine .cv (Cv.wk (.l [3, 0] rfl)) ?_
 have hxr := hx.raw (i : Int).toNat
 refine .seq fun _ k5 => .seq fun _ k6 => .region (st (.mv (.t rfl)) rfl (st (.mv (.t rfl)) rfl (st (.len sl22 (.t rfl)) rfl (st (.ltI (.t rfl) (.t rfl)) rfl (nl (.thn (k6 _ _ (.cond (.t rfl) (fun hc1 => ?_) (fun hc1 => ?_)))))))))
 ·have hc1 := BP.t hc1
  refine .skip (.thn (k5 _ _ (.seq fun _ k7 => .block (.seq fun _ k8 => .region (st (.mv (.t rfl)) rfl (st (.mv (.t rfl)) rfl (st (.ixK sl22 ty36 (.t rfl) (.t rfl) zc_len ⟨by omega, by omega⟩ (getD_some (d := (false, [])) (by first | omega | (simp only [Int.toNat_natCast, List.length_set]; omega)))) rfl ?_)))))))
  refine st (.loadP (.t rfl) ty36 rfl (Ss' := [_, _]) rfl) rfl (st (.eq (.call (zint_Sign (by omega)) (.cons (.t rfl) .nil)) ((show _ = isI (sgn (cf (vals xs) i)) from isI_eq (by rw [cf_vals]; rfl)))) rfl ?_)
  refine st (.neI (.t rfl) (.cI 0 rfl)) rfl (nl (.thn (k8 _ _ (.cond (.t rfl) (fun hc2 => ?_) (fun hc2 => ?_)))))
  ·have hc2 := BP.t hc2
   have HQ : ¬ cf (vals xs) i = 0 := fun e => hc2 ((sgn_eq0 _).2 e)
   refine .seq fun _ k9 => .region (st (.as (.cB false)) rfl (nl (.thn (k9 _ _ (.ret (.blr (.thr (.thr (.blr (.thr (rt1 (.inl rfl) Tryz.results20 rfl (.tmp (Has.t' rfl ?_) .nil))))))))))))
   all_goals (exact isB_eq (zeroB_no (by rw [vals_len]; omega) HQ))
  ·have hc2 := BP.f hc2
   have HQ : cf (vals xs) i = 0 := (sgn_eq0 _).1 hc2
   refine .skip (.bln (.thn (k7 _ _ (.region (st (.mv (.t rfl)) rfl (st (.addI (.t rfl) (.cI 1 rfl) (by first | omega | assumption) (by first | omega | assumption)) rfl (st (.as (.t rfl)) rfl (nl (.thn ?_)))))))))
   refine hK4 (⟨i + 1, by omega, fun j hj => by rcases Nat.lt_or_ge j i with h | h; exact hq j h; obtain rfl : j = i := (by omega); exact HQ⟩) _ _ ?_ (Cv.mem (.c 3 rfl ?_ (.l [0] rfl)) ?_)
   ·show xs.length - (i + 1) < xs.length - i; omega
   ·exact isI_eq (by omega)
   ·rfl
 ·have hc1 := BP.f hc1
  refine .exit (.the (.the (.blh (.thn (k2 _ _ (.cv (Cv.wk .nil) (.seq fun _ k10 => .region (st (.as (.cB true)) rfl (nl (.thn (k10 _ _ (.ret (rt1 (.inl rfl) Tryz.results20 rfl (.tmp (Has.t' rfl ?_) .nil))))))))))))))
  all_goals (exact isB_eq (zeroB_iff.2 fun j hj => hq j (by rw [vals_len] at hj; omega)).symm)
end Go.Proofs.YtcfobalbkhgdmaaGreat
namespace Go.Proofs.YtcfobalbkhgdmaaGreat
open Go.En Go.RowKit
set_option maxRecDepth 10000
set_option maxHeartbeats 4000000
open Go.Nt
open Go.Pz
open Go.Mz
theorem bareiss_begun {R C K : Nat} {xs : List (Bool × List Nat)} (hx : Bd (vals xs) K) (hK : K ≤ 4000000000) (hR : R ≤ 64) (hC : C ≤ 64) (hl : xs.length = R * C) : CtrX Tryz.prog 93 [isM (R : Int) (C : Int) xs] ([]) (fun S M => ∃ bw gt rs, S = isPtr bw 0 ∧ M = wkM bw Gr.nil gt rs C [] 1 false ∧ rs.map Prod.snd = rowsOf R C (vals xs)) := by
 refine CtrX.intro Tryz.func93 rfl (by kernel_rfl) Tryz.ntmps93 rfl fun w0 F0 => .cv (Cv.wk (.l [0] rfl)) (.seq fun _ k1 => .region (.box (.t rfl) rfl fun b1 => st (.as Has.cP) rfl (nl (.thn (k1 _ _ (.seq fun _ k2 => .dr (.s [] rfl rfl rfl (.o rfl (.fieldAddr (.t rfl) fld27_1 ty3)) (.s [7] rfl rfl rfl (.o rfl (.load1 (.t rfl) (i := 0) rfl ty3 rfl)) (.s [] rfl rfl rfl (.o rfl (.call (zint_Of) (.cons (.cI 1 rfl) .nil))) (.fin (n := 3) mixed (by kernel_rfl) (by kernel_rfl) (by kernel_rfl) (.cv (Cv.wk (.l [1, 2, 8, 9] rfl)) (st (.build [nilS, isI 0, nilS, isB false, SlM isU [], isB false] pl93 zero93 (fun _ _ => ⟨rfl, ⟨rfl, by decide, by decide⟩, rfl, rfl, nilM _ _, rfl, trivial⟩) (.cons (.t rfl) rfl rfl rfl (.cons (.t rfl) rfl rfl rfl .nil)) (Z'' := [_, _, _, _, _, _]) rfl) rfl (.box (.t rfl) rfl fun b2 => st (.as (.t rfl)) rfl (nl (.thn (k2 _ _ (.seq fun _ k3 => .seq fun _ k4 => .cv (Cv.growF (Row) (i := 0) (o := 0) rfl rfl rfl) (.memEq (M' := [grM rowV Gr.nil [], _, _]) rfl (.region (st (.fieldAddr (.t rfl) fld27_0 ty3) rfl (st (.load1 (.t rfl) (i := 2) rfl ty3 rfl) rfl (st (.mv (.cI 0 rfl)) rfl (nl (.thn (k4 _ _ (.cv (Cv.wk (.l [1, 2, 3, 13, 14] rfl)) (.block ?_)))))))))))))))))))))))))))
 refine .memEq (M' := (_ :: _ :: _ :: ([] : List Row).map rowM)) rfl (.loopF [1, 2, 3, 13] (fun (z : { z : Nat × Gr Row × List Row // z.1 ≤ R ∧ z.2.2.map Prod.snd = rowsOf z.1 C (vals xs) }) => match z with | ⟨(i, gt, rs), hI⟩ => [(14, isI (i : Int))]) (fun M => fun (z : { z : Nat × Gr Row × List Row // z.1 ≤ R ∧ z.2.2.map Prod.snd = rowsOf z.1 C (vals xs) }) => match z with | ⟨(i, gt, rs), hI⟩ => (grM rowV gt rs :: (some b2, cellM [isGr gt rs.length, isI (C : Int), nilS, isB (decide ((1 : Int) < 0)), SlM isU (words (1 : Int).natAbs), isB false]) :: (some b1, cellM [isI (R : Int), isI (C : Int), SlK 2 zc xs]) :: rs.map rowM)) (fun (z : { z : Nat × Gr Row × List Row // z.1 ≤ R ∧ z.2.2.map Prod.snd = rowsOf z.1 C (vals xs) }) => match z with | ⟨(i, gt, rs), hI⟩ => R - i) (⟨(0, Gr.nil, []), Nat.zero_le _, rfl⟩) (Cv.mem (.c 14 rfl ?_ (.l [1, 2, 3, 13] rfl)) ?_) ?_)
 ·rfl
 ·rfl
 rintro ⟨⟨i, gt, rs⟩, hI⟩ K5 hK5
 refine .cv (Cv.wk (.l [14, 1, 2, 3, 13] rfl)) (.memEq (M' := (grM rowV gt rs :: (some b2, cellM [isGr gt rs.length, isI (C : Int), nilS, isB (decide ((1 : Int) < 0)), SlM isU (words (1 : Int).natAbs), isB false]) :: (some b1, cellM [isI (R : Int), isI (C : Int), SlK 2 zc xs]) :: rs.map rowM)) rfl ?_)
 simp only [] at hI
 obtain ⟨hi, hrs⟩ := hI
 have hrl : rs.length = i := by have := congrArg List.length hrs; rwa [List.length_map, rowsOf_len] at this
 refine .seq fun _ k6 => .region (st (.ltI (.t rfl) (.t rfl)) rfl (nl (.thn (k6 _ _ (.seq fun _ k7 => .cond (.t rfl) (fun hc1 => ?_) (fun hc1 => ?_))))))
 ·have hc1 := BP.t hc1
  refine .skip (.thn (k7 _ _ (.seq fun _ k8 => .block (.seq fun _ k9 => .region (st (.mv (.t rfl)) rfl (st (.as (.t rfl)) rfl (nl (.thn (k9 _ _ (.seq fun _ k10 => .region (.cv (Cv.grow0K (α := Bool × List Nat) zc) (st (.as (Has.cGr (α := Bool × List Nat))) rfl (nl (.thn (k10 _ _ (.seq fun _ k11 => .seq fun _ k12 => .region (st (.fieldAddr (.t rfl) fld27_1 ty3) rfl (st (.load1 (.t rfl) (i := 3) rfl ty3 rfl) rfl (st (.mv (.cI 0 rfl)) rfl (nl (.thn (k12 _ _ (.block (.loopF [1, 2, 3, 13, 14, 15, 16, 4, 17, 18] (fun (z : { z : Nat × Gr (Bool × List Nat) // z.1 ≤ C }) => match z with | ⟨(k, g), hK2⟩ => [(19, isI (k : Int)), (5, isGr g (((List.range k).map fun k => cf (vals xs) (i * C + k)).map nz).length)]) (fun M => fun (z : { z : Nat × Gr (Bool × List Nat) // z.1 ≤ C }) => match z with | ⟨(k, g), hK2⟩ => (grMK zc g (((List.range k).map fun k => cf (vals xs) (i * C + k)).map nz) :: grM rowV gt rs :: (some b2, cellM [isGr gt rs.length, isI (C : Int), nilS, isB (decide ((1 : Int) < 0)), SlM isU (words (1 : Int).natAbs), isB false]) :: (some b1, cellM [isI (R : Int), isI (C : Int), SlK 2 zc xs]) :: rs.map rowM)) (fun (z : { z : Nat × Gr (Bool × List Nat) // z.1 ≤ C }) => match z with | ⟨(k, g), hK2⟩ => C - k) (⟨(0, Gr.nil), Nat.zero_le _⟩) (Cv.mem (.c 19 rfl ?_ (.c 5 rfl ?_ (.l [1, 2, 3, 13, 14, 15, 16, 4, 17, 18] rfl))) ?_) ?_))))))))))))))))))))))))
  ·rfl
  ·rfl
  ·rfl
  rintro ⟨⟨k, g⟩, hK2⟩ K13 hK13
  refine .cv (Cv.wk (.l [19, 5, 1, 2, 3, 13, 14, 15, 16, 4, 17, 18] rfl)) (.memEq (M' := (grMK zc g (((List.range k).map fun k => cf (vals xs) (i * C + k)).map nz) :: grM rowV gt rs :: (some b2, cellM [isGr gt rs.length, isI (C : Int), nilS, isB (decide ((1 : Int) < 0)), SlM isU (words (1 : Int).natAbs), isB false]) :: (some b1, cellM [isI (R : Int), isI (C : Int), SlK 2 zc xs]) :: rs.map rowM)) rfl ?_)
  simp only [] at hK2
  refine .seq fun _ k14 => .region (st (.ltI (.t rfl) (.t rfl)) rfl (nl (.thn (k14 _ _ (.seq fun _ k15 => .cond (.t rfl) (fun hc2 => ?_) (fun hc2 => ?_))))))
  ·have hc2 := BP.t hc2
   refine .skip (.thn (k15 _ _ (.seq fun _ k16 => .block (.seq fun _ k17 => .region (st (.mv (.t rfl)) rfl (st (.as (.t rfl)) rfl (nl (.thn (k17 _ _ (.region (st (.mv (.t rfl)) rfl (st (.load (.t rfl) (i := 3) rfl ty27 rfl (Ss' := [_, _, _]) rfl) rfl (st (.mv (.t rfl)) rfl (st (.mv (.t rfl)) rfl (st (.call (zmat_At hx hK hR hC hl (i := i) (k := k) (by omega) (by omega)) (.cons (.t rfl) (.cons (.t rfl) (.cons (.t rfl) .nil)))) rfl (st (.buildS [isB false, SlM isU []] sl22 ty36 zero36 (fun _ _ => ⟨rfl, nilM _ _, trivial⟩) rfl rfl (.cons (.t rfl) rfl rfl rfl .nil) rfl (S := SlK 2 zc [nz (cf (vals xs) (i * C + k))]) rfl) rfl (.appendGK (fk := zc) (u := (false, [])) zc_len (by decide) (fun _ => inferInstance) sl22 ty36 zero36 (fun _ _ => ⟨rfl, nilM _ _, trivial⟩) by36 (.t rfl) (i := 0) rfl (.t rfl) (by rw [List.length_map, List.length_map, List.length_range]; show k + 1 ≤ _; omega) (by simp) rfl fun gr1 => ?_)))))))))))))))))
   refine .memEq (M' := (grMK _ _ _ :: _ :: _ :: _ :: _)) rfl (st (.as (.t rfl)) rfl (nl (.bln (.thn (k16 _ _ (.region (st (.addI (.t rfl) (.cI 1 rfl) (by first | omega | assumption) (by first | omega | assumption)) rfl (st (.mv (.t rfl)) rfl (nl (.thn ?_))))))))))
   refine hK13 (⟨(k + 1, gr1), by show k + 1 ≤ C; omega⟩) _ _ ?_ (Cv.mem (.c 19 rfl ?_ (.c 5 rfl ?_ (.l [1, 2, 3, 13, 14, 15, 16, 4, 17, 18] rfl))) ?_)
   ·show C - (k + 1) < C - k; omega
   ·exact isI_eq (by omega)
   ·exact isGr_eq (by rw [range_succ_nz, List.length_append])
   ·exact grMK_eq (range_succ_nz _ _).symm
  ·have hc2 := BP.f hc2
   refine .exit (.the (.the (.blh (.thn (k11 _ _ (.region (st (.mv (.t rfl)) rfl (st (.mv (.t rfl)) rfl (st (.nilc (.t rfl)) rfl (st (.fieldAddr (.t rfl) fld93_0 ty90) rfl (st (.load1 (.t rfl) (i := 2) rfl ty90 rfl) rfl (st (.mv (.t rfl)) rfl (st (.buildS [nilS] sl90 ty22 zero22 (fun _ _ => ⟨rfl, trivial⟩) rfl rfl (.cons (.t rfl) rfl rfl rfl .nil) rfl (S := SlM rowV [(g, ((List.range k).map fun k => cf (vals xs) (i * C + k)))]) rfl) rfl (.appendG (f := rowV) (u := (Gr.nil, [])) sl90 ty22 zero22 (fun _ _ => ⟨gr0, trivial⟩) (fun _ => inferInstance) by22 (.t rfl) (i := 1) rfl (.t rfl) (by rw [hrl]; show i + 1 ≤ _; omega) (by simp) rfl fun gr1 => ?_))))))))))))))
   refine .memEq (M' := (_ :: grM _ _ _ :: _ :: _ :: _)) rfl (st (.nilc (.t rfl)) rfl (st (.fieldAddr (.t rfl) fld93_0 ty90) rfl (.store (.t rfl) (.t rfl) (i := 2) rfl ty90 rfl rfl (Ss' := [_, _, _, _, _, _]) rfl (M' := (_ :: _ :: (some _, cellM [_, _, _, _, _, _]) :: _ :: _)) rfl (nl (.bln (.thn (k8 _ _ (.region (st (.addI (.t rfl) (.cI 1 rfl) (by first | omega | assumption) (by first | omega | assumption)) rfl (st (.mv (.t rfl)) rfl (nl (.thn ?_))))))))))))
   have hkC : C = k := by omega
   subst hkC
   refine hK5 (⟨(i + 1, gr1, rs ++ [(g, ((List.range C).map fun k => cf (vals xs) (i * C + k)))]), by show i + 1 ≤ R; omega, by show (rs ++ [(g, ((List.range C).map fun k => cf (vals xs) (i * C + k)))]).map Prod.snd = _; rw [List.map_append, hrs, rowsOf_succ]; rfl⟩) _ _ ?_ (Cv.trans (Cv.perm perm_end) (Cv.mem (.c 14 rfl ?_ (.l [1, 2, 3, 13] rfl)) ?_))
   ·show R - (i + 1) < R - i; omega
   ·exact isI_eq (by omega)
   ·show _ = grM rowV gr1 (rs ++ [_]) :: (some b2, cellM [isGr gr1 (rs ++ [_]).length, _, _, _, _, _]) :: _ :: (rs ++ [_]).map rowM; rw [List.map_append, List.length_append]; rfl
 ·have hc1 := BP.f hc1
  refine .exit (.the (.the (.blh (.thn (k3 _ _ (.seq fun _ k18 => .cv (Cv.growF (Int) (i := 1) (o := 2) rfl rfl rfl) (.memEq (M' := (grM isI Gr.nil [] :: _ :: _ :: _ :: _)) rfl (.cv (Cv.drop ((.cons_cons _ (.cons_cons _ (.cons_cons _ (.cons _ (List.Sublist.refl _))))))) (.cv (Cv.wk (.l [2, 3, 13, 14, 15] rfl)) (.cv (Cv.perm perm_rot) (.region (st (.mv (.t rfl)) rfl (st (.as (.t rfl)) rfl (nl (.thn (k18 _ _ (.cv (Cv.wk (.l [2] rfl)) (.ret (rtX1 (.inl rfl) Tryz.results93 rfl (.tmp (.t rfl) .nil) ?_)))))))))))))))))))
  exact ⟨b2, gt, rs, rfl, rfl, by obtain rfl : i = R := (by omega); exact hrs⟩
theorem bareiss_find {bw C : Nat} {gp : Gr Int} {gt : Gr Row} {rs : List Row} {ps : List Nat} {last : Int} {odd : Bool} {K : Nat} (hrow : ∀ r ∈ rs, r.2.length = C) (hb : ∀ r ∈ rs, Bd r.2 K) (hC : C ≤ 64) (hR : rs.length ≤ 64) (hpl : ps.length ≤ 64) {col : Nat} (hcol : col < C) (hK : K ≤ 400000000) : CtrX Tryz.prog 120 [isPtr bw 0, isI (col : Int)] (wkM bw gp gt rs C ps last odd) (fun S M => ∃ rs' odd' ok, S = isB ok ∧ M = wkM bw gp gt rs' C ps last odd' ∧ FindR rs ps.length col odd rs' odd' ok) := by
 refine CtrX.intro Tryz.func120 rfl (by kernel_rfl) Tryz.ntmps120 rfl fun w0 F0 => .cv (Cv.wk (.l [0, 1] rfl)) (.fact (Has.rngI (Has.t (t := 1) rfl)) fun lt1 => ?_)
 have hpv := pv_len ps
 refine .seq fun _ k1 => .region (st (.as (.cB false)) rfl (nl (.thn (k1 _ _ (.seq fun _ k2 => .region (st (.mv (.t rfl)) rfl (st (.nilc (.t rfl)) rfl (st (.fieldAddr (.t rfl) fld93_2 ty91) rfl (st (.load1 (.t rfl) (i := 0) rfl ty91 rfl) rfl (st (.eq (.len sl91 (.t rfl)) ((show isI _ = isI (ps.length : Int) from isI_eq (by omega)))) rfl (st (.eq (.as (.t rfl)) ((show isI _ = isI (ps.length : Int) from isI_eq (by omega)))) rfl (nl (.thn (k2 _ _ (.cv (Cv.wk (.l [0, 1, 4, 5] rfl)) (.seq fun _ k3 => .seq fun _ k4 => .region (st (.mv (.t rfl)) rfl (st (.as (.t rfl)) rfl (nl (.thn (k4 _ _ (.block (.loopF [0, 1, 5] (fun (z : { i : Nat // ps.length ≤ i ∧ (i ≤ rs.length ∨ i = ps.length) ∧ ∀ (j : Nat) (r : Row), ps.length ≤ j → j < i → rs[j]? = some r → cf r.2 col = 0 }) => match z with | ⟨i, hi⟩ => [(6, isI (i : Int))]) (fun M => fun (z : { i : Nat // ps.length ≤ i ∧ (i ≤ rs.length ∨ i = ps.length) ∧ ∀ (j : Nat) (r : Row), ps.length ≤ j → j < i → rs[j]? = some r → cf r.2 col = 0 }) => match z with | ⟨i, hi⟩ => M) (fun (z : { i : Nat // ps.length ≤ i ∧ (i ≤ rs.length ∨ i = ps.length) ∧ ∀ (j : Nat) (r : Row), ps.length ≤ j → j < i → rs[j]? = some r → cf r.2 col = 0 }) => match z with | ⟨i, hi⟩ => rs.length - i) (⟨ps.length, Nat.le_refl _, .inr rfl, fun j r h1 h2 => absurd h2 (by omega)⟩) (Cv.mem (.c 6 rfl ?_ (.l [0, 1, 5] rfl)) ?_) ?_)))))))))))))))))))))))
 ·exact isI_eq (by omega)
 ·rfl
 rintro ⟨i, hi, hi2, hz⟩ K5 hK5
 refine .cv (Cv.wk (.l [6, 0, 1, 5] rfl)) (.seq fun _ k6 => .seq fun _ k7 => .region (st (.mv (.t rfl)) rfl (st (.mv (.t rfl)) rfl (st (.nilc (.t rfl)) rfl (st (.fieldAddr (.t rfl) fld93_0 ty90) rfl (st (.load1 (.t rfl) (i := 0) rfl ty90 rfl) rfl (st (.len sl90 (.t rfl)) rfl (st (.ltI (.t rfl) (.t rfl)) rfl (nl (.thn (k7 _ _ (.cond (.t rfl) (fun hc1 => ?_) (fun hc1 => ?_)))))))))))))
 ·have hc1 := BP.t hc1
  obtain ⟨r, hr⟩ : ∃ r, rs[i]? = some r := ⟨_, List.getElem?_eq_getElem (by omega)⟩
  have hrC := hrow r (List.mem_of_getElem? hr)
  have hrB := hb r (List.mem_of_getElem? hr)
  have hrL : (r.2.map nz).length = C := by rw [List.length_map, hrC]
  refine .skip (.thn (k6 _ _ (.seq fun _ k8 => .block (.seq fun _ k9 => .region (st (.mv (.t rfl)) rfl (st (.nilc (.t rfl)) rfl (st (.fieldAddr (.t rfl) fld93_0 ty90) rfl (st (.load1 (.t rfl) (i := 0) rfl ty90 rfl) rfl (st (.mv (.t rfl)) rfl (st (.ixGr sl90 ty22 (.t rfl) (.t rfl) ⟨by omega, by omega⟩) rfl (st (.loadGM (.t rfl) (i := 2) rfl ty22 hr) rfl (st (.mv (.t rfl)) rfl (st (.ixGr sl22 ty36 (.t rfl) (.t rfl) ⟨by omega, by omega⟩) rfl (st (.loadGK zc_len (.t rfl) (i := 3 + i) (wkAt (pre := [_, _, _]) hr) ty36 (getZ (i := col) (by omega))) rfl (st (.eq (.call (zint_Sign (by rw [val_words]; have := hrB col; omega)) (.cons (.t rfl) .nil)) ((show isI _ = isI (sgn (cf r.2 col)) from isI_eq (by rw [zv_nz])))) rfl ?_)))))))))))))))
  refine st (.neI (.t rfl) (.cI 0 rfl)) rfl (nl (.thn (k9 _ _ (.cond (.t rfl) (fun hc2 => ?_) (fun hc2 => ?_)))))
  ·have hc2 := BP.t hc2
   have he : cf r.2 col ≠ 0 := fun e => hc2 ((sgn_eq0 _).2 e)
   refine .seq fun _ k10 => .seq fun _ k11 => .region (st (.mv (.t rfl)) rfl (st (.mv (.t rfl)) rfl (st (.neI (.t rfl) (.t rfl)) rfl (nl (.thn (k11 _ _ (.cond (.t rfl) (fun hc3 => ?_) (fun hc3 => ?_))))))))
   ·have hc3 := BP.t hc3
    obtain ⟨rt, hrt⟩ : ∃ rt, rs[ps.length]? = some rt := ⟨_, List.getElem?_eq_getElem (by omega)⟩
    have hne : i ≠ ps.length := fun e => hc3 (congrArg Nat.cast e)
    refine .seq fun _ k12 => .dry mixed (.tk 0 rfl rfl rfl rfl (OKY.mv (.t rfl)) (.tk 1 rfl rfl rfl rfl (OKY.nilc (.t rfl)) (.tk 2 rfl rfl rfl rfl (OKY.fieldAddr (.t rfl) fld93_0 ty90) (.tk 4 rfl rfl rfl rfl (OKY.mv (.t rfl)) (.tk 5 rfl rfl rfl rfl (OKY.mv (.t rfl)) (.tk 6 rfl rfl rfl rfl (OKY.nilc (.t rfl)) (.tk 7 rfl rfl rfl rfl (OKY.fieldAddr (.t rfl) fld93_0 ty90) (.tk 9 rfl rfl rfl rfl (OKY.mv (.t rfl)) (.tk 10 rfl rfl rfl rfl (OKY.mv (.t rfl)) (.tk 11 rfl rfl rfl rfl (OKY.nilc (.t rfl)) (.tk 12 rfl rfl rfl rfl (OKY.fieldAddr (.t rfl) fld93_0 ty90) (.tk 14 rfl rfl rfl rfl (OKY.mv (.t rfl)) (.tk 17 rfl rfl rfl rfl (OKY.mv (.t rfl)) (.tk 18 rfl rfl rfl rfl (OKY.nilc (.t rfl)) (.tk 19 rfl rfl rfl rfl (OKY.fieldAddr (.t rfl) fld93_0 ty90) (.tk 21 rfl rfl rfl rfl (OKY.mv (.t rfl)) (.go [] (.s 3 [] rfl rfl rfl (.o rfl (.load1 (.t rfl) (i := 0) rfl ty90 rfl)) (.s 8 [] rfl rfl rfl (.o rfl (.load1 (.t rfl) (i := 0) rfl ty90 rfl)) (.s 13 [] rfl rfl rfl (.o rfl (.load1 (.t rfl) (i := 0) rfl ty90 rfl)) (.s 15 [50] rfl rfl rfl (.o rfl (.ixGr sl90 ty22 (.t rfl) (.t rfl) ⟨by omega, by omega⟩)) ?_)))))))))))))))))))))
    refine .s 16 [52] rfl rfl rfl (.o rfl (.loadGM (.t rfl) (i := 2) rfl ty22 hrt)) (.s 20 [] rfl rfl rfl (.o rfl (.load1 (.t rfl) (i := 0) rfl ty90 rfl)) (.s 22 [57] rfl rfl rfl (.o rfl (.ixGr sl90 ty22 (.t rfl) (.t rfl) ⟨by omega, by omega⟩)) ?_))
    refine .s 23 [59] rfl rfl rfl (.o rfl (.loadGM (.t rfl) (i := 2) rfl ty22 hr)) (.fin [24, 25, 26, 27] (by kernel_rfl) (by kernel_rfl) (fun _ _ _ _ _ h => h) (by kernel_rfl) (by kernel_rfl) (by kernel_rfl) (by kernel_rfl) (by kernel_rfl) (by kernel_rfl) (by kernel_rfl) (by kernel_rfl) (by kernel_rfl) (.cv (Cv.wk (.l [0, 1, 5, 6, 13, 14, 15, 16, 17, 18, 19, 22, 23, 24, 25, 26, 27, 28, 29, 30, 31, 32, 33, 34, 35, 36, 37, 38, 39, 41, 42, 43, 44, 46, 47, 48, 49, 51, 54, 55, 56, 58, 40, 45, 50, 52, 53, 57, 59, 60] rfl)) (st (.ixGr sl90 ty22 (.t rfl) (.t rfl) ⟨by omega, by omega⟩) rfl (.storeGM (z := rt) (.t rfl) (.t rfl) (i := 2) rfl ty22 (by omega) (M' := (_ :: _ :: grM _ _ _ :: _)) rfl (st (.ixGr sl90 ty22 (.t rfl) (.t rfl) ⟨by omega, by omega⟩) rfl (.storeGM (z := r) (.t rfl) (.t rfl) (i := 2) rfl ty22 (by rw [List.length_set]; omega) (M' := (_ :: _ :: grM _ _ _ :: _)) rfl ?_))))))
    refine nl (.thn (k12 _ _ (.region (st (.mv (.t rfl)) rfl (st (.mv (.t rfl)) rfl (st (.nilc (.t rfl)) rfl (st (.fieldAddr (.t rfl) fld93_4 ty4) rfl (st (.load1 (.t rfl) (i := 0) rfl ty4 rfl) rfl (st (.not (.t rfl)) rfl (st (.nilc (.t rfl)) rfl (st (.fieldAddr (.t rfl) fld93_4 ty4) rfl (.store (.t rfl) (.t rfl) (i := 0) rfl ty4 rfl rfl (Ss' := [_, _, _, _, _, _]) rfl (M' := ((some _, cellM [_, _, _, _, _, _]) :: _ :: _ :: _)) rfl (nl (.thn (k10 _ _ (.seq fun _ k13 => .cv (Cv.perm (perm_tail (pre := [_, _, _]) (swap_perm hr hrt hne))) (.region (st (.as (.cB true)) rfl (nl (.thn (k13 _ _ (.ret (.blr (.thr (.thr (.blr (.thr (rtX1 (.inl rfl) Tryz.results120 rfl (.tmp (.t rfl) .nil) ?_))))))))))))))))))))))))))))
    exact ⟨_, _, true, rfl, wkM_len (by rw [List.length_set, List.length_set]), .inr ⟨rfl, i, r, rt, by omega, hr, hrt, he, hz, by rw [if_neg hne]; rfl, by rw [if_neg hne]⟩⟩
   ·have hc3 := BP.f hc3
    have hie : i = ps.length := by omega
    refine .skip (.thn (k10 _ _ (.seq fun _ k14 => .region (st (.as (.cB true)) rfl (nl (.thn (k14 _ _ (.ret (.blr (.thr (.thr (.blr (.thr (rtX1 (.inl rfl) Tryz.results120 rfl (.tmp (.t rfl) .nil) (⟨_, _, true, rfl, rfl, .inr ⟨rfl, i, r, r, by omega, hr, hie ▸ hr, he, hz, by rw [if_pos hie], by rw [if_pos hie]⟩⟩)))))))))))))))
  ·have hc2 := BP.f hc2
   have he : cf r.2 col = 0 := (sgn_eq0 _).1 hc2
   refine .skip (.bln (.thn (k8 _ _ (.region (st (.mv (.t rfl)) rfl (st (.addI (.t rfl) (.cI 1 rfl) (by first | omega | assumption) (by first | omega | assumption)) rfl (st (.as (.t rfl)) rfl (nl (.thn ?_)))))))))
   refine hK5 (⟨i + 1, by omega, .inl (by omega), fun j r' h1 h2 h3 => by rcases Nat.lt_or_ge j i with h | h; exact hz j r' h1 h h3; obtain rfl : j = i := (by omega); rw [hr] at h3; obtain rfl := Option.some.inj h3; exact he⟩) _ _ ?_ (Cv.mem (.c 6 rfl ?_ (.l [0, 1, 5] rfl)) ?_)
   ·show rs.length - (i + 1) < rs.length - i; omega
   ·exact isI_eq (by omega)
   ·rfl
 ·have hc1 := BP.f hc1
  skip
  refine .exit (.the (.the (.blh (.thn (k3 _ _ (.cv (Cv.wk .nil) (.seq fun _ k15 => .region (st (.as (.cB false)) rfl (nl (.thn (k15 _ _ (.ret (rtX1 (.inl rfl) Tryz.results120 rfl (.tmp (.t rfl) .nil) ?_)))))))))))))
  exact ⟨_, _, false, rfl, rfl, .inl ⟨rfl, rfl, rfl, fun j r h1 h2 => by rcases Nat.lt_or_ge j i with h | h; exact hz j r h1 h h2; rw [List.getElem?_eq_none (by omega)] at h2; cases h2⟩⟩
end Go.Proofs.YtcfobalbkhgdmaaGreat
