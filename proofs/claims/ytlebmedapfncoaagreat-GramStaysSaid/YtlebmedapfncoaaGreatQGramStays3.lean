/- Rules and contracts, part 3 of 6. -/
import Derived.Test.YtlebmedapfncoaaGreatQGramStays2
import Derived.ProofKit
import Derived.OpenShut
import Derived.ChangeOld
import Derived.Carry
import Derived.ChangeSlices
import Derived.Test.YtlebmedapfncoaaGreatProg
import Derived.KernelRfl
namespace Go.En
open Go.Nt Go.Pz Go.Mz
abbrev Row : Type := Gr (Bool × List Nat) × List Int
abbrev rowV (r : Row) : VP := isGr r.1 (r.2.map nz).length
abbrev rowM (r : Row) : Option Nat × MP := grMK zc r.1 (r.2.map nz)
def pv (ps : List Nat) : List Int := ps.map fun (n : Nat) => (n : Int)
theorem pv_len (ps : List Nat) : (pv ps).length = ps.length := List.length_map _
theorem wkAt {pre : Mem} {rs : List Row} {i : Nat} {r : Row} (h : rs[i]? = some r) : (pre ++ rs.map rowM)[pre.length + i]? = some (rowM r) := by
 rw [List.getElem?_append_right (by omega), Nat.add_sub_cancel_left, List.getElem?_map, h]; rfl
theorem wkSt {pre : Mem} {rs : List Row} {i j : Nat} {r : Row} {v : Int} (h : rs[i]? = some r) : (pre ++ rs.map rowM).set (pre.length + i) (grMK zc r.1 ((r.2.map nz).set j (nz v))) = pre ++ (rs.set i (r.1, r.2.set j v)).map rowM := by
 rw [List.set_append_right _ _ (by omega), Nat.add_sub_cancel_left, ← List.map_set, List.map_set (f := rowM)]
def rowsOf (R C : Nat) (L : List Int) : List (List Int) := (List.range R).map fun i => (List.range C).map fun k => cf L (i * C + k)
theorem rowsOf_len (R C : Nat) (L : List Int) : (rowsOf R C L).length = R := by unfold rowsOf; rw [List.length_map, List.length_range]
theorem swap_perm {β : Type} {l : List β} {i j : Nat} {a b : β} (hi : l[i]? = some a) (hj : l[j]? = some b) (hne : i ≠ j) : ((l.set i b).set j a).Perm l := by
  have hil : i < l.length := by
    rcases Nat.lt_or_ge i l.length with h | h
    · exact h
    · rw [List.getElem?_eq_none h] at hi; cases hi
  have hjl : j < l.length := by
    rcases Nat.lt_or_ge j l.length with h | h
    · exact h
    · rw [List.getElem?_eq_none h] at hj; cases hj
  have p1 : ∀ (m : List β) (k : Nat) (x : β), m[k]? = some x → m.Perm (x :: m.eraseIdx k) := by
    intro m
    induction m with
    | nil => intro k x h; simp at h
    | cons y m ih =>
      intro k x h
      cases k with
      | zero =>
        obtain rfl : y = x := by simpa using h
        exact List.Perm.refl _
      | succ k => exact ((ih k x (by simpa using h)).cons y).trans (List.Perm.swap x y _)
  have q1 := p1 l i a hi
  have q2 := p1 (l.set i b) i b (List.getElem?_set_self hil)
  rw [List.eraseIdx_set_eq] at q2
  have q3 := p1 (l.set i b) j b (by rw [List.getElem?_set_ne hne]; exact hj)
  have q4 := p1 ((l.set i b).set j a) j a (List.getElem?_set_self (by rw [List.length_set]; exact hjl))
  rw [List.eraseIdx_set_eq] at q4
  have q5 : ((l.set i b).eraseIdx j).Perm (l.eraseIdx i) := (q3.symm.trans q2).cons_inv
  exact q4.trans ((q5.cons a).trans q1.symm)
theorem perm_tail {pre : Mem} {rs rs' : List Row} (h : rs'.Perm rs) : (pre ++ rs.map rowM).Perm (pre ++ rs'.map rowM) := (h.symm.map rowM).append_left pre
def FindR (rs : List Row) (top col : Nat) (odd : Bool) (rs' : List Row) (odd' ok : Bool) : Prop :=
 (ok = false ∧ rs' = rs ∧ odd' = odd ∧ ∀ (j : Nat) (r : Row), top ≤ j → rs[j]? = some r → cf r.2 col = 0) ∨
 (ok = true ∧ ∃ (i : Nat) (r t : Row), top ≤ i ∧ rs[i]? = some r ∧ rs[top]? = some t ∧ cf r.2 col ≠ 0 ∧ (∀ (j : Nat) (r' : Row), top ≤ j → j < i → rs[j]? = some r' → cf r'.2 col = 0) ∧
  rs' = (if i = top then rs else (rs.set i t).set top r) ∧ odd' = if i = top then odd else !odd)
def exQ (x l : Int) : Int := if l ≠ 0 ∧ x.tmod l = 0 then x.tdiv l else 0
def clr (p row : List Int) (col : Nat) (last : Int) (k : Nat) : Int := exQ (cf row k * cf p col - cf row col * cf p k) last
def clrL (p row : List Int) (col : Nat) (last : Int) : List Int := (List.range row.length).map (clr p row col last)
def mixR (p row : List Int) (col : Nat) (last : Int) (k : Nat) : List Int := (clrL p row col last).take k ++ row.drop k
theorem clrL_len (p row : List Int) (col : Nat) (last : Int) : (clrL p row col last).length = row.length := by unfold clrL; rw [List.length_map, List.length_range]
theorem mixR_zero (p row : List Int) (col : Nat) (last : Int) : mixR p row col last 0 = row := by unfold mixR; rw [List.take_zero, List.drop_zero]; rfl
theorem set_same {β : Type} {l : List β} {i : Nat} {x : β} (h : l[i]? = some x) : l.set i x = l := by
 have hi : i < l.length := by
  rcases Nat.lt_or_ge i l.length with h' | h'
  ·exact h'
  ·rw [List.getElem?_eq_none h'] at h; cases h
 have e : l[i] = x := by rw [List.getElem?_eq_getElem hi] at h; exact Option.some.inj h
 subst e
 exact List.set_getElem_self hi
theorem tail4 {a b c d : Option Nat × MP} {rs rs' : List Row} (h : rs = rs') : (a :: b :: c :: d :: rs.map rowM : Mem) = a :: b :: c :: d :: rs'.map rowM := h ▸ rfl
theorem mix_start {rs : List Row} {i col : Nat} {r : Row} {p : List Int} {last : Int} (h : rs[i]? = some r) : rs = rs.set i (r.1, mixR p r.2 col last 0) := by rw [mixR_zero]; exact (set_same h).symm
theorem wkStore {pre : Mem} {rs : List Row} {X : Row} {i j : Nat} {v : Int} {L : List Int} (h : (rs.set i X)[i]? = some X) (e : X.2.set j v = L) :
  (pre ++ (rs.set i X).map rowM).set (pre.length + i) (grMK zc X.1 ((X.2.map nz).set j (nz v))) = pre ++ (rs.set i (X.1, L)).map rowM := by
 rw [wkSt h, e, List.set_set]
theorem tab_set {gt : Gr Row} {rs : List Row} {i : Nat} {r : Row} {L : List Int} (h : rs[i]? = some r) (hl : L.length = r.2.length) : grM rowV gt (rs.set i (r.1, L)) = grM rowV gt rs := by
 unfold grM
 have e : (rs.set i (r.1, L)).map rowV = rs.map rowV := by
  rw [List.map_set]
  refine set_same ?_
  rw [List.getElem?_map, h]
  show some (isGr r.1 (r.2.map nz).length) = some (isGr r.1 (L.map nz).length)
  rw [List.length_map, List.length_map, hl]
 rw [List.map_append, List.map_append, e]
end Go.En
namespace Go.Hn
open Go.Nt Go.Pz Go.Mz Go.En
def mx2 (x : Int) (p : List Int) (y : Int) (q : List Int) : List Int := (List.range p.length).map fun k => x * cf p k + y * cf q k
theorem mx2_len (x : Int) (p : List Int) (y : Int) (q : List Int) : (mx2 x p y q).length = p.length := by unfold mx2; rw [List.length_map, List.length_range]
theorem cf_mx2 {x : Int} {p : List Int} {y : Int} {q : List Int} (h : q.length = p.length) (k : Nat) : cf (mx2 x p y q) k = x * cf p k + y * cf q k := by
 unfold mx2
 rw [cf_tab]
 split
 ·rfl
 ·rw [cf_high (l := p) (by omega), cf_high (l := q) (by omega)]; omega
theorem Bd_mx2 {x y : Int} {p q : List Int} {A B K L N : Nat} (hx : (List.length (words x.natAbs)) ≤ A) (hp : Bd p K) (hy : (List.length (words y.natAbs)) ≤ B) (hq : Bd q L) (h1 : A + K + 1 ≤ N) (h2 : B + L + 1 ≤ N) : Bd (mx2 x p y q) N := fun k => by
 unfold mx2
 rw [cf_tab]
 split
 ·have e1 := nz_add (x * cf p k) (y * cf q k)
  have e2 := nz_mul x (cf p k)
  have e3 := nz_mul y (cf q k)
  have e4 := hp k
  have e5 := hq k
  omega
 ·rw [Int.natAbs_zero, words_zero]; exact Nat.zero_le _
def xgg (a b : Int) : Int := (Nat.gcd a.natAbs b.natAbs : Nat)
def xgx (a b : Int) : Int := if b = 0 then sgn a else xg a b
def xgy (a b : Int) : Int := if b = 0 then 0 else (xgg a b - xg a b * a).tdiv b
theorem xgg_nn (a b : Int) : 0 ≤ xgg a b := Int.natCast_nonneg _
theorem xgg_zero {a b : Int} : xgg a b = 0 ↔ a = 0 ∧ b = 0 := by
 unfold xgg
 constructor
 ·intro h
  have h1 : Nat.gcd a.natAbs b.natAbs = 0 := by omega
  have := Nat.gcd_eq_zero_iff.1 h1
  omega
 ·rintro ⟨rfl, rfl⟩; rfl
theorem xgg_left (a b : Int) : xgg a b ∣ a := Int.natAbs_dvd_natAbs.1 (by unfold xgg; rw [Int.natAbs_natCast]; exact Nat.gcd_dvd_left _ _)
theorem xgg_right (a b : Int) : xgg a b ∣ b := Int.natAbs_dvd_natAbs.1 (by unfold xgg; rw [Int.natAbs_natCast]; exact Nat.gcd_dvd_right _ _)
theorem xg_dvd {a b : Int} (h : b ≠ 0) : b ∣ xgg a b - xg a b * a := by
 have hc := (cof_all a b).2.1
 rw [(cof_all a b).1] at hc
 show b ∣ ((Nat.gcd a.natAbs b.natAbs : Nat) : Int) - xg a b * a
 unfold xg
 obtain ⟨u, hu⟩ := hc
 have hg := xgg_left a b
 have hg2 := xgg_right a b
 obtain ⟨v, hv⟩ := hg
 obtain ⟨w, hw⟩ := hg2
 have hgp : 0 < xgg a b := by
  have := xgg_nn a b
  rcases Int.lt_or_eq_of_le this with h1 | h1
  ·exact h1
  ·exact absurd (xgg_zero.1 h1.symm).2 h
 change xgg a b - (cof a b 1 0).2 * a = b * u at hu
 show b ∣ xgg a b - (cof a b 1 0).2 % ((b.natAbs : Int) / xgg a b) * a
 generalize (cof a b 1 0).2 = c at *
 generalize hG : xgg a b = g at *
 have e1 : (b.natAbs : Int) / g = (w.natAbs : Int) := by
  have : (b.natAbs : Int) = g * (w.natAbs : Int) := by
   rw [hw, Int.natAbs_mul, Int.natCast_mul]
   rw [show ((g.natAbs : Nat) : Int) = g by omega]
  rw [this, Int.mul_ediv_cancel_left _ (by omega)]
 rw [e1]
 have e2 := Int.emod_add_mul_ediv c (w.natAbs : Int)
 obtain ⟨s, hs⟩ : ∃ s : Int, (w.natAbs : Int) = w * s := by
  rcases Int.natAbs_eq w with h1 | h1
  ·exact ⟨1, by omega⟩
  ·exact ⟨-1, by omega⟩
 refine ⟨u + s * (c / (w.natAbs : Int)) * v, ?_⟩
 have e3 : c % (w.natAbs : Int) = c - w * s * (c / (w.natAbs : Int)) := by rw [hs] at e2 ⊢; omega
 rw [e3]
 generalize c / (w.natAbs : Int) = t
 have hb : b * (u + s * t * v) = b * u + (g * w) * s * t * v := by rw [← hw]; grind
 rw [hb, ← hu]
 have ha : a = g * v := hv
 grind
theorem xg_bezout (a b : Int) : xgx a b * a + xgy a b * b = xgg a b := by
 unfold xgx xgy
 by_cases h : b = 0
 ·rw [if_pos h, if_pos h, h]
  unfold xgg
  rw [show (0 : Int).natAbs = 0 from rfl, Nat.gcd_zero_right]
  rcases sgn_cases a with ⟨e, e2⟩ | ⟨e, e2⟩ | ⟨e, e2⟩ <;> rw [e] <;> omega
 ·rw [if_neg h, if_neg h]
  obtain ⟨q, hq⟩ := xg_dvd (a := a) h
  rw [hq, Int.mul_tdiv_cancel_left _ h]
  have : b * q = q * b := Int.mul_comm _ _
  omega
theorem xgy_ex {a b : Int} (h : b ≠ 0) : (if b ≠ 0 ∧ (xgg a b - xg a b * a).tmod b = 0 then (xgg a b - xg a b * a).tdiv b else 0) = xgy a b := by
 rw [if_pos ⟨h, Int.tmod_eq_zero_of_dvd (xg_dvd h)⟩]
 unfold xgy
 rw [if_neg h]
theorem xgx_nw (a b : Int) {K : Nat} (hb : (List.length (words b.natAbs)) ≤ K) : (List.length (words (xgx a b).natAbs)) ≤ K + 1 := by
 unfold xgx
 split
 ·have : (List.length (words (sgn a).natAbs)) ≤ 1 := nw_small' (by have := sgn_range a; omega)
  omega
 ·rename_i h
  exact Nat.le_trans (nw_mono (xg_le h)) (by omega)
theorem tdiv_abs {x b : Int} {m : Nat} (hb : b ≠ 0) (h : x.natAbs ≤ b.natAbs * m) : (x.tdiv b).natAbs ≤ m := by
 rw [Int.natAbs_tdiv]
 exact Nat.div_le_of_le_mul h
theorem xgy_nw (a b : Int) {K : Nat} (ha : (List.length (words a.natAbs)) ≤ K) : (List.length (words (xgy a b).natAbs)) ≤ K + 2 := by
 unfold xgy
 split
 ·rw [Int.natAbs_zero, words_zero]; exact Nat.zero_le _
 ·rename_i h
  have h1 : ((xgg a b - xg a b * a).tdiv b).natAbs ≤ 1 + a.natAbs := by
   refine tdiv_abs h ?_
   have e1 := Int.natAbs_sub_le (xgg a b) (xg a b * a)
   have e2 : (xgg a b).natAbs ≤ b.natAbs := by unfold xgg; rw [Int.natAbs_natCast]; exact Nat.gcd_le_right _ (by omega)
   rw [Int.natAbs_mul] at e1
   have e3 := Nat.mul_le_mul_right a.natAbs (xg_le (A := a) h)
   rw [Nat.mul_add, Nat.mul_one]
   omega
  refine Nat.le_trans (nw_mono h1) (Nat.le_trans (nw_add_le _ _) ?_)
  have := nw_one
  omega
/-! ### the steps -/
def jn (rs : List (List Int)) (t i col : Nat) : List (List Int) :=
 if xgg (cf (rs.getD t []) col) (cf (rs.getD i []) col) = 0 then rs else
 (rs.set t (mx2 (xgx (cf (rs.getD t []) col) (cf (rs.getD i []) col)) (rs.getD t []) (xgy (cf (rs.getD t []) col) (cf (rs.getD i []) col)) (rs.getD i []))).set i
  (mx2 (-((cf (rs.getD i []) col).tdiv (xgg (cf (rs.getD t []) col) (cf (rs.getD i []) col)))) (rs.getD t []) ((cf (rs.getD t []) col).tdiv (xgg (cf (rs.getD t []) col) (cf (rs.getD i []) col))) (rs.getD i []))
theorem getD_of {α : Type} {l : List α} {i : Nat} {x d : α} (h : l[i]? = some x) : l.getD i d = x := by rw [List.getD, h]; rfl
theorem lt_of_some {α : Type} {l : List α} {i : Nat} {x : α} (h : l[i]? = some x) : i < l.length := by
 rcases Nat.lt_or_ge i l.length with h1 | h1
 ·exact h1
 ·rw [List.getElem?_eq_none h1] at h; cases h
theorem jn_no {rs : List (List Int)} {t i col : Nat} {p q : List Int} (hp : rs[t]? = some p) (hq : rs[i]? = some q) (h : xgg (cf p col) (cf q col) = 0) : jn rs t i col = rs := by
 unfold jn
 rw [getD_of hp, getD_of hq, if_pos h]
theorem jn_go {rs : List (List Int)} {t i col : Nat} {p q : List Int} (hp : rs[t]? = some p) (hq : rs[i]? = some q) (h : ¬ xgg (cf p col) (cf q col) = 0) : jn rs t i col =
  (rs.set t (mx2 (xgx (cf p col) (cf q col)) p (xgy (cf p col) (cf q col)) q)).set i (mx2 (-((cf q col).tdiv (xgg (cf p col) (cf q col)))) p ((cf p col).tdiv (xgg (cf p col) (cf q col))) q) := by
 unfold jn
 rw [getD_of hp, getD_of hq, if_neg h]
def jns (rs : List (List Int)) (t col : Nat) : Nat → List (List Int)
 | 0 => rs
 | n + 1 => jn (jns rs t col n) t (t + 1 + n) col
def rd (rs : List (List Int)) (t i col : Nat) : List (List Int) := rs.set i (mx2 1 (rs.getD i []) (-(cf (rs.getD i []) col / cf (rs.getD t []) col)) (rs.getD t []))
def rds (rs : List (List Int)) (t col : Nat) : Nat → List (List Int)
 | 0 => rs
 | n + 1 => rd (rds rs t col n) t n col
def hsg (rs : List (List Int)) (t col : Nat) : List (List Int) := if cf (rs.getD t []) col < 0 then rs.set t (mx2 (-1) (rs.getD t []) 0 (rs.getD t [])) else rs
structure HS where
 rows : List (List Int)
 top : Nat
def hjs (s : HS) (col : Nat) : List (List Int) := jns s.rows s.top col (s.rows.length - (s.top + 1))
def hcol (s : HS) (col : Nat) : HS := if cf ((hjs s col).getD s.top []) col = 0 then ⟨hjs s col, s.top⟩ else ⟨rds (hsg (hjs s col) s.top col) s.top col s.top, s.top + 1⟩
def hred (s : HS) : Nat → HS
 | 0 => s
 | c + 1 => if (hred s c).top < (hred s c).rows.length then hcol (hred s c) c else hred s c
def row0 (C R : Nat) (L : List Int) (i : Nat) : List Int := (List.range (C + R)).map fun k => if k < C then cf L (i * C + k) else if k = C + i then 1 else 0
def rows0 (C R : Nat) (L : List Int) (n : Nat) : List (List Int) := (List.range n).map (row0 C R L)
def hrm (R C : Nat) (L : List Int) : HS := hred ⟨rows0 C R L R, 0⟩ C
/-! ### sizes -/
theorem jn_len (rs : List (List Int)) (t i col : Nat) : (jn rs t i col).length = rs.length := by unfold jn; split <;> simp
theorem jns_len (rs : List (List Int)) (t col : Nat) : ∀ n, (jns rs t col n).length = rs.length
 | 0 => rfl
 | n + 1 => (jn_len _ _ _ _).trans (jns_len rs t col n)
theorem rd_len (rs : List (List Int)) (t i col : Nat) : (rd rs t i col).length = rs.length := by unfold rd; simp
theorem rds_len (rs : List (List Int)) (t col : Nat) : ∀ n, (rds rs t col n).length = rs.length
 | 0 => rfl
 | n + 1 => (rd_len _ _ _ _).trans (rds_len rs t col n)
theorem hsg_len (rs : List (List Int)) (t col : Nat) : (hsg rs t col).length = rs.length := by unfold hsg; split <;> simp
theorem jns_off {rs : List (List Int)} {t col j : Nat} (hj : j < t) : ∀ n, (jns rs t col n)[j]? = rs[j]?
  | 0 => rfl
  | n + 1 => by
    show (jn _ _ _ _)[j]? = _
    unfold jn
    split
    · exact jns_off hj n
    · rw [List.getElem?_set_ne (by omega), List.getElem?_set_ne (by omega)]; exact jns_off hj n
theorem jns_far {rs : List (List Int)} {t col : Nat} : ∀ {n j : Nat}, t + 1 + n ≤ j → (jns rs t col n)[j]? = rs[j]?
  | 0, _, _ => rfl
  | n + 1, j, hj => by
    show (jn _ _ _ _)[j]? = _
    unfold jn
    split
    · exact jns_far (by omega)
    · rw [List.getElem?_set_ne (by omega), List.getElem?_set_ne (by omega)]; exact jns_far (by omega)
theorem rds_off {rs : List (List Int)} {t col : Nat} : ∀ {n j : Nat}, n ≤ j → (rds rs t col n)[j]? = rs[j]?
  | 0, _, _ => rfl
  | n + 1, j, hj => by
    show (rd _ _ _ _)[j]? = _
    unfold rd
    rw [List.getElem?_set_ne (by omega)]; exact rds_off (by omega)
theorem all_set {α : Type} {P : α → Prop} {l : List α} {i : Nat} {x : α} (h : ∀ r ∈ l, P r) (hx : P x) : ∀ r ∈ l.set i x, P r := fun r hr => by
 rcases List.mem_or_eq_of_mem_set hr with h1 | rfl
 ·exact h r h1
 ·exact hx
theorem all_getD {P : List Int → Prop} {l : List (List Int)} {i : Nat} (h : ∀ r ∈ l, P r) (hi : i < l.length) : P (l.getD i []) := by
 rw [List.getD, List.getElem?_eq_getElem hi]; exact h _ (List.getElem_mem _)
theorem jn_row {rs : List (List Int)} {t i col W : Nat} (h : ∀ r ∈ rs, r.length = W) (ht : t < rs.length) : ∀ r ∈ jn rs t i col, r.length = W := by
 unfold jn
 split
 ·exact h
 ·have e := all_getD h ht
  exact all_set (all_set h (by rw [mx2_len, e])) (by rw [mx2_len, e])
theorem jns_row {rs : List (List Int)} {t col W : Nat} (h : ∀ r ∈ rs, r.length = W) (ht : t < rs.length) : ∀ n, ∀ r ∈ jns rs t col n, r.length = W
 | 0 => h
 | n + 1 => jn_row (jns_row h ht n) (by rw [jns_len]; exact ht)
theorem rds_row {rs : List (List Int)} {t col W : Nat} (h : ∀ r ∈ rs, r.length = W) (ht : t < rs.length) : ∀ n, n ≤ t → ∀ r ∈ rds rs t col n, r.length = W
  | 0, _ => h
  | n + 1, hn => by
    have ih := rds_row h ht (col := col) n (by omega)
    exact all_set ih (by rw [mx2_len]; exact all_getD ih (by rw [rds_len]; omega))
theorem hsg_row {rs : List (List Int)} {t col W : Nat} (h : ∀ r ∈ rs, r.length = W) (ht : t < rs.length) : ∀ r ∈ hsg rs t col, r.length = W := by
 unfold hsg
 split
 ·exact all_set h (by rw [mx2_len]; exact all_getD h ht)
 ·exact h
theorem hcol_len (s : HS) (col : Nat) : (hcol s col).rows.length = s.rows.length := by
 unfold hcol hjs
 split
 ·exact jns_len _ _ _ _
 ·show (rds _ _ _ _).length = _
  rw [rds_len, hsg_len, jns_len]
theorem hcol_top (s : HS) (col : Nat) (h : s.top < s.rows.length) : (hcol s col).top ≤ s.rows.length := by
 unfold hcol
 split
 ·show s.top ≤ _; omega
 ·show s.top + 1 ≤ _; omega
theorem hcol_row {s : HS} {W : Nat} (col : Nat) (h : s.top < s.rows.length) (hr : ∀ r ∈ s.rows, r.length = W) : ∀ r ∈ (hcol s col).rows, r.length = W := by
 unfold hcol hjs
 split
 ·exact jns_row hr h _
 ·exact rds_row (hsg_row (jns_row hr h _) (by rw [jns_len]; exact h)) (by rw [hsg_len, jns_len]; exact h) _ (Nat.le_refl _)
/-! ### how great the numbers get -/
theorem div_nw {a b : Int} (hb : 0 < b) {K : Nat} (h : (List.length (words a.natAbs)) ≤ K) : (List.length (words (a / b).natAbs)) ≤ K := by
 refine Nat.le_trans (nw_mono ?_) h
 have h1 : 0 ≤ a ∨ a < 0 := by omega
 rcases h1 with h1 | h1
 ·have h2 := Int.ediv_le_self (b := b) (a := a) h1
  have h3 := Int.ediv_nonneg h1 (by omega : 0 ≤ b)
  omega
 ·have h2 : a ≤ a / b := by
   rw [Int.le_ediv_iff_mul_le hb]
   have := Int.mul_le_mul_of_nonneg_left (show (1 : Int) ≤ b by omega) (show 0 ≤ -a by omega)
   rw [Int.neg_mul, Int.neg_mul, Int.mul_one] at this
   omega
  have h3 : a / b < 0 := Int.ediv_neg_of_neg_of_pos h1 hb
  omega
theorem mx2_neg {p : List Int} {K : Nat} (h : Bd p K) : Bd (mx2 (-1) p 0 p) K := fun k => by
 unfold mx2
 rw [cf_tab]
 split
 ·rw [show -1 * cf p k + 0 * cf p k = -(cf p k) by omega, Int.natAbs_neg]; exact h k
 ·rw [Int.natAbs_zero, words_zero]; exact Nat.zero_le _
theorem jn_bd {rs : List (List Int)} {t i col P K : Nat} (ht : Bd (rs.getD t []) P) (hi : Bd (rs.getD i []) K) (h : ∀ r ∈ rs, Bd r P) : ∀ r ∈ jn rs t i col, Bd r (P + (K + 3)) := by
 unfold jn
 split
 ·exact fun r hr => (h r hr).mono (by omega)
 ·refine all_set (all_set (fun r hr => (h r hr).mono (by omega)) ?_) ?_
  ·exact Bd_mx2 (xgx_nw _ _ (hi col)) ht (xgy_nw _ _ (ht col)) hi (by omega) (by omega)
  ·refine Bd_mx2 (A := K) (B := P) ?_ ht ?_ hi (by omega) (by omega)
   ·rw [Int.natAbs_neg]; exact Nat.le_trans (nz_tdiv _ _) (hi col)
   ·exact Nat.le_trans (nz_tdiv _ _) (ht col)
theorem getD_bd {rs : List (List Int)} {K : Nat} (h : ∀ r ∈ rs, Bd r K) (i : Nat) : Bd (rs.getD i []) K := by
 rcases Nat.lt_or_ge i rs.length with h1 | h1
 ·exact all_getD h h1
 ·rw [List.getD, List.getElem?_eq_none h1]; exact Bd.nil K
theorem jns_bd {rs : List (List Int)} {t col K : Nat} (h : ∀ r ∈ rs, Bd r K) : ∀ n, ∀ r ∈ jns rs t col n, Bd r (K + n * (K + 3))
  | 0 => fun r hr => (h r hr).mono (by omega)
  | n + 1 => fun r hr => by
    have ih := jns_bd (t := t) (col := col) h n
    have e : (jns rs t col n).getD (t + 1 + n) [] = rs.getD (t + 1 + n) [] := by rw [List.getD, jns_far (Nat.le_refl _)]; rfl
    refine (jn_bd (getD_bd ih t) (by rw [e]; exact getD_bd h _) ih r hr).mono ?_
    rw [Nat.succ_mul]; omega
theorem hsg_bd {rs : List (List Int)} {t col K : Nat} (h : ∀ r ∈ rs, Bd r K) : ∀ r ∈ hsg rs t col, Bd r K := by
 unfold hsg
 split
 ·exact all_set h (mx2_neg (getD_bd h t))
 ·exact h
theorem rds_bd {rs : List (List Int)} {t col K P : Nat} (hb : 0 < cf (rs.getD t []) col) (ht : Bd (rs.getD t []) P) (hl : ∀ i, i < t → Bd (rs.getD i []) K) (hP : ∀ r ∈ rs, Bd r P) (hKP : K ≤ P) : ∀ n, n ≤ t → ∀ r ∈ rds rs t col n, Bd r (P + K + 2)
  | 0, _ => fun r hr => (hP r hr).mono (by omega)
  | n + 1, hn => by
    have ih := rds_bd hb ht hl hP hKP n (by omega)
    have e1 : (rds rs t col n).getD t [] = rs.getD t [] := by rw [List.getD, rds_off (by omega)]; rfl
    have e2 : (rds rs t col n).getD n [] = rs.getD n [] := by rw [List.getD, rds_off (Nat.le_refl _)]; rfl
    show ∀ r ∈ rd _ _ _ _, _
    unfold rd
    rw [e1, e2]
    have hn2 := hl n (by omega)
    have h1 : (List.length (words (1 : Int).natAbs)) ≤ 1 := nw_small' (by decide)
    exact all_set ih (Bd_mx2 (A := 1) (B := K) h1 hn2 (by rw [Int.natAbs_neg]; exact div_nw hb (hn2 col)) ht (by omega) (by omega))
theorem hcol_bd {s : HS} {K : Nat} (col : Nat) (ht : s.top < s.rows.length) (h : ∀ r ∈ s.rows, Bd r K) : ∀ r ∈ (hcol s col).rows, Bd r ((K + 3) * (s.rows.length + 2) - 3) := by
 have hm : (K + 3) * (s.rows.length + 2) = K * s.rows.length + 2 * K + 3 * s.rows.length + 6 := by rw [Nat.add_mul, Nat.mul_add, Nat.mul_add]; omega
 have hm2 : (s.rows.length - (s.top + 1)) * (K + 3) ≤ s.rows.length * (K + 3) := Nat.mul_le_mul_right _ (by omega)
 have hm3 : s.rows.length * (K + 3) = K * s.rows.length + 3 * s.rows.length := by rw [Nat.mul_add, Nat.mul_comm s.rows.length K, Nat.mul_comm s.rows.length 3]
 have hj := jns_bd (t := s.top) (col := col) h (s.rows.length - (s.top + 1))
 unfold hcol hjs
 split
 ·exact fun r hr => (hj r hr).mono (by omega)
 ·rename_i h0
  have hg := hsg_bd (t := s.top) (col := col) hj
  have htj : s.top < (jns s.rows s.top col (s.rows.length - (s.top + 1))).length := by rw [jns_len]; exact ht
  have hpos : 0 < cf ((hsg (jns s.rows s.top col (s.rows.length - (s.top + 1))) s.top col).getD s.top []) col := by
   unfold hsg
   split
   ·rename_i h1
    rw [List.getD, List.getElem?_set_self htj]
    show 0 < cf (mx2 _ _ _ _) col
    rw [cf_mx2 rfl]; omega
   ·rename_i h1; omega
  have hlow : ∀ i, i < s.top → Bd ((hsg (jns s.rows s.top col (s.rows.length - (s.top + 1))) s.top col).getD i []) K := fun i hi => by
   have e : (hsg (jns s.rows s.top col (s.rows.length - (s.top + 1))) s.top col).getD i [] = s.rows.getD i [] := by
    unfold hsg
    split
    ·rw [List.getD, List.getElem?_set_ne (by omega), jns_off hi]; rfl
    ·rw [List.getD, jns_off hi]; rfl
   rw [e]; exact getD_bd h i
  exact fun r hr => (rds_bd hpos (getD_bd hg _) hlow hg (by omega) s.top (Nat.le_refl _) r hr).mono (by omega)
theorem hsg_pos {rs : List (List Int)} {t col : Nat} {p : List Int} (hp : rs[t]? = some p) (h0 : ¬ cf p col = 0) : 0 < cf ((hsg rs t col).getD t []) col := by
 unfold hsg
 rw [getD_of hp]
 split
 ·rw [List.getD, List.getElem?_set_self (lt_of_some hp)]
  show 0 < cf (mx2 _ _ _ _) col
  rw [cf_mx2 rfl]; omega
 ·rw [getD_of hp]; omega
structure HOk (R W K : Nat) (s : HS) : Prop where
 len : s.rows.length = R
 top : s.top ≤ R
 row : ∀ r ∈ s.rows, r.length = W
 bd : ∀ r ∈ s.rows, Bd r K
theorem hred_ok {R W K : Nat} {s : HS} (h : HOk R W K s) : ∀ c, HOk R W ((K + 3) * (R + 2) ^ c - 3) (hred s c)
  | 0 => ⟨h.len, h.top, h.row, fun r hr => (h.bd r hr).mono (by rw [Nat.pow_zero]; omega)⟩
  | c + 1 => by
    have ih := hred_ok h c
    have hp : 1 ≤ (R + 2) ^ c := Nat.one_le_pow _ _ (by omega)
    have hp2 := Nat.mul_le_mul_left (K + 3) hp
    have e : (K + 3) * (R + 2) ^ (c + 1) = (K + 3) * (R + 2) ^ c * (R + 2) := by rw [Nat.pow_succ, Nat.mul_assoc]
    have e2 : (K + 3) * (R + 2) ^ c ≤ (K + 3) * (R + 2) ^ c * (R + 2) := Nat.le_mul_of_pos_right _ (by omega)
    show HOk R W _ (if _ then _ else _)
    split
    · rename_i ht
      refine ⟨(hcol_len _ _).trans ih.len, ?_, hcol_row c ht ih.row, fun r hr => ?_⟩
      · have := hcol_top (hred s c) c ht; rwa [ih.len] at this
      · have := hcol_bd c ht ih.bd r hr
        rw [ih.len] at this
        refine this.mono ?_
        rw [e, show (K + 3) * (R + 2) ^ c - 3 + 3 = (K + 3) * (R + 2) ^ c by omega]
        exact Nat.le_refl _
    · exact ⟨ih.len, ih.top, ih.row, fun r hr => (ih.bd r hr).mono (by omega)⟩
theorem hred_stop {R W K : Nat} {s : HS} (h : HOk R W K s) {c : Nat} : ∀ {C : Nat}, c ≤ C → ¬ (c < C ∧ (hred s c).top < R) → hred s C = hred s c
  | C, hc, hn => by
    by_cases e : c = C
    · rw [e]
    · have ht : ¬ (hred s c).top < R := fun h2 => hn ⟨by omega, h2⟩
      have key : ∀ n, hred s (c + n) = hred s c := by
        intro n
        induction n with
        | zero => rfl
        | succ n ih =>
          show (if (hred s (c + n)).top < (hred s (c + n)).rows.length then hcol (hred s (c + n)) (c + n) else hred s (c + n)) = hred s c
          rw [ih, (hred_ok h c).len, if_neg ht]
      have := key (C - c)
      rwa [show c + (C - c) = C by omega] at this
theorem row0_len (C R : Nat) (L : List Int) (i : Nat) : (row0 C R L i).length = C + R := by unfold row0; rw [List.length_map, List.length_range]
theorem rows0_len (C R : Nat) (L : List Int) (n : Nat) : (rows0 C R L n).length = n := by unfold rows0; rw [List.length_map, List.length_range]
theorem rows0_succ (C R : Nat) (L : List Int) (n : Nat) : rows0 C R L n ++ [row0 C R L n] = rows0 C R L (n + 1) := by unfold rows0; rw [List.range_succ, List.map_append]; rfl
theorem row0_bd {C R K : Nat} {L : List Int} (h : Bd L K) (i : Nat) : Bd (row0 C R L i) (K + 1) := fun k => by
 unfold row0
 rw [cf_tab]
 have h1 : (List.length (words (1 : Int).natAbs)) ≤ 1 := nw_small' (by decide)
 have h0 : (List.length (words (0 : Int).natAbs)) ≤ 0 := by rw [Int.natAbs_zero, words_zero]; exact Nat.le_refl _
 have := h (i * C + k)
 (repeat' split) <;> omega
theorem rows0_ok {R C K : Nat} {L : List Int} (h : Bd L K) : HOk R (C + R) (K + 1) ⟨rows0 C R L R, 0⟩ where
 len := rows0_len _ _ _ _
 top := Nat.zero_le _
 row r hr := by
  obtain ⟨i, _, rfl⟩ := List.mem_map.1 hr
  exact row0_len _ _ _ _
 bd r hr := by
  obtain ⟨i, _, rfl⟩ := List.mem_map.1 hr
  exact row0_bd h i
theorem row0_at {C R : Nat} {L : List Int} {i k : Nat} (h : k < C) : ((row0 C R L i).map nz)[k]? = some (nz (cf L (i * C + k))) := by
 rw [List.getElem?_map]
 unfold row0
 rw [List.getElem?_map, List.getElem?_range (by omega)]
 show some (nz (if k < C then _ else _)) = _
 rw [if_pos h]
theorem row0_fill {C R : Nat} {L : List Int} {i n k : Nat} (hi : i < R) (hk : k = C) (hn : n = C + R) : ((fill ((row0 C R L i).map nz) k (false, [])).set (C + i) (nz 1)).take n = (row0 C R L i).map nz := by
 subst hk
 have hl : ((row0 k R L i).map nz).length = k + R := by rw [List.length_map, row0_len]
 refine List.ext_getElem? fun j => ?_
 rcases Nat.lt_or_ge j (k + R) with hj | hj
 ·rw [List.getElem?_take_of_lt (by omega)]
  have hr : ((row0 k R L i).map nz)[j]? = some (nz (if j < k then cf L (i * k + j) else if j = k + i then 1 else 0)) := by
   rw [List.getElem?_map]
   unfold row0
   rw [List.getElem?_map, List.getElem?_range hj]; rfl
  rw [hr]
  by_cases e : j = k + i
  ·subst e
   rw [List.getElem?_set_self (by rw [fill_len _ _ _ (by omega)]; omega), if_neg (by omega), if_pos rfl]
  ·rw [List.getElem?_set_ne (fun h => e h.symm)]
   unfold fill
   by_cases h2 : j < k
   ·rw [List.getElem?_append_left (by rw [List.length_take]; omega), List.getElem?_take_of_lt h2, hr]
   ·rw [List.getElem?_append_right (by rw [List.length_take]; omega), List.length_take, List.getElem?_replicate, if_pos (by omega), if_neg h2, if_neg e, nz_zero]
 ·rw [List.getElem?_eq_none (by rw [List.length_take]; omega), List.getElem?_eq_none (by omega)]
theorem rd_go {rs : List (List Int)} {t i col : Nat} {r b : List Int} (hr : rs[i]? = some r) (hb : rs[t]? = some b) : rd rs t i col = rs.set i (mx2 1 r (-(cf r col / cf b col)) b) := by unfold rd; rw [getD_of hr, getD_of hb]
/-! ### parts of rows, put together -/
def flatP (lo hi : Nat) (rs : List (List Int)) : List Int := rs.flatMap fun r => (r.take hi).drop lo
theorem flatP_succ {lo hi i : Nat} {rs : List (List Int)} {r : List Int} (h : rs[i]? = some r) : flatP lo hi (rs.take (i + 1)) = flatP lo hi (rs.take i) ++ (r.take hi).drop lo := by
 unfold flatP
 rw [List.take_add_one, h, List.flatMap_append]
 simp
theorem flatP_len {lo hi W : Nat} (h1 : lo ≤ hi) (h2 : hi ≤ W) : ∀ {rs : List (List Int)}, (∀ r ∈ rs, r.length = W) → (flatP lo hi rs).length = rs.length * (hi - lo)
  | [], _ => by simp [flatP]
  | r :: rs, h => by
    have ih := flatP_len h1 h2 (rs := rs) fun r hr => h r (List.mem_cons_of_mem _ hr)
    have hr := h r List.mem_cons_self
    show ((r.take hi).drop lo ++ flatP lo hi rs).length = _
    rw [List.length_append, ih, List.length_drop, List.length_take, List.length_cons, Nat.succ_mul]
    omega
theorem flatP_tab {lo hi W : Nat} {rs : List (List Int)} (h1 : lo ≤ hi) (h2 : hi ≤ W) (h : ∀ r ∈ rs, r.length = W) : flatP lo hi rs = tab (rs.length * (hi - lo)) (hi - lo) fun i k => cf (rs.getD i []) (lo + k) := by
  have key : ∀ n, n ≤ rs.length → flatP lo hi (rs.take n) = tab (n * (hi - lo) + 0) (hi - lo) fun i k => cf (rs.getD i []) (lo + k) := by
    intro n
    induction n with
    | zero => intro _; simp [flatP, tab]
    | succ n ih =>
      intro hn
      have hr := List.getElem?_eq_getElem (show n < rs.length by omega)
      have hW := h rs[n] (List.getElem_mem _)
      rw [List.take_add_one, hr]
      show (rs.take n ++ [rs[n]]).flatMap _ = _
      rw [List.flatMap_append]
      show flatP lo hi (rs.take n) ++ _ = _
      rw [ih (by omega), ← tab_next]
      have e : ∀ m, m ≤ hi - lo → tab (n * (hi - lo) + 0) (hi - lo) (fun i k => cf (rs.getD i []) (lo + k)) ++ ((rs[n].drop lo).take m) = tab (n * (hi - lo) + m) (hi - lo) fun i k => cf (rs.getD i []) (lo + k) := by
        intro m
        induction m with
        | zero => intro _; simp
        | succ m im =>
          intro hm
          rw [← tab_succ _ (show m < hi - lo by omega), ← im (by omega), List.append_assoc, List.take_add_one, List.getElem?_drop, List.getElem?_eq_getElem (by omega)]
          congr 2
          show [_] = [_]
          rw [getD_of hr]
          unfold cf
          rw [List.getD, List.getElem?_eq_getElem (by omega)]; rfl
      have e2 := e (hi - lo) (Nat.le_refl _)
      rw [← e2]
      congr 1
      show (rs[n].take hi).drop lo ++ [] = _
      rw [List.append_nil, List.drop_take]
  have := key rs.length (Nat.le_refl _)
  rwa [List.take_length, Nat.add_zero] at this
end Go.Hn
namespace Go.En
open Go.RowKit Go.Nt Go.Pz Go.Mz
section
variable {E : Env} {P : Program} {Γ : Ctx} {M M' : Mem}
theorem fin_retXD {fn : Func} {R : VP → Mem → Prop} {S : VP} {W : List Nat} {e : Exit} {a : Act} {w : World} {F : Blk} (hs : M'.Sublist M) (he : e = .ret ∨ e = .normal) (s : Sat E Γ M a w F) (hw : E.W = W) {v : Value} (hv : (results fn a.tmps).run P w = .ok v w) (hS : S.h w F v) (hR : R S M') :
  bodyPost P fn (RetX E.w0 E.F0 W R) e a w := fin_retX he (s.sub hs) hw hv hS hR
theorem rtX1D {fn : Func} {r : ResultVar} {R : VP → Mem → Prop} {S : VP} {W : List Nat} {e : Exit} (hs : M'.Sublist M) (he : e = .ret ∨ e = .normal) (hr : fn.results = #[r]) (hw : E.W = W) (h : ResL E P Γ M [r] [S]) (hR : R S M') : At E Γ M (bodyPost P fn (RetX E.w0 E.F0 W R)) e := by
 intro a w F s
 obtain ⟨vs, h1, h2⟩ := run_results hr h s
 match vs, h2 with
 | [v], h2 => exact fin_retXD hs he s hw (by simpa using h1) h2.1 hR
 | [], h2 => exact h2.elim
 | _ :: _ :: _, h2 => exact h2.2.elim
theorem rtX0D {fn : Func} {R : VP → Mem → Prop} {W : List Nat} {e : Exit} (hs : M'.Sublist M) (he : e = .ret ∨ e = .normal) (hr : fn.results = #[]) (hw : E.W = W) (hR : R (isTup []) M') : At E Γ M (bodyPost P fn (RetX E.w0 E.F0 W R)) e := by
 intro a w F s
 obtain ⟨vs, h1, h2⟩ := run_results (rs := []) hr .nil s
 cases vs with
 | nil => exact fin_retXD hs he s hw (by simpa using h1) (S := isTup []) ⟨[], rfl, trivial⟩ hR
 | cons => exact h2.elim
theorem OK1.slLHK {ty : TypeId} {pos : String} {after : Array Edge} {gd : Option (Nat × Bool)} {d : Option Tmp} {T : TypeId} {x y y2 : Operand} {α : Type} {fk : α → List VP} {xs : List α} {k : Nat} {e : TypeId} {g : Bool} {z z2 : Int} (hT : slB P T = some e) (ht : tyB P e = some (k, g)) (hk : ∀ y, (fk y).length = k) (hx : Has E Γ M x (SlK k fk xs)) (hy : Has E Γ M y (isI z)) (hy2 : Has E Γ M y2 (isI z2)) (h : 0 ≤ z ∧ z ≤ z2 ∧ z2 ≤ xs.length) :
  OK1 E P Γ M ⟨d, .slice T x (some y) (some y2) none, ty, pos, after, gd⟩ (SlK k fk ((xs.take z2.toNat).drop z.toNat)) :=
 OK1.slG (l := z.toNat) (h := z2.toNat) hT ht hx (fun a w F s cap hc => by
  simp only [Instr.sliceBounds, Option.map_some, evI hy a w F s, evI hy2 a w F s, Sem.run_bind, Sem.run_pure, Result.andThen_ok, run_bound (show 0 ≤ z2 by omega) (show z2 ≤ (cap : Int) by omega),
   run_bound h.1 (show z ≤ (z2.toNat : Int) by omega)]) (by omega) (by omega)
  (SlK_of (by rw [List.length_drop, List.length_take, Nat.min_eq_left (by omega)]) (by rw [flat_part hk]))
end
section
variable {E : Env} {P : Program} {Γ : Ctx} {M : Mem} {ty : TypeId} {pos : String} {after : Array Edge} {gd : Option (Nat × Bool)} {d : Option Tmp}
 {ops : Array Oper} {Q : Exit → Act → World → Prop} {rest : List Oper} {T T' : TypeId} {x y : Operand} {α : Type} {fk : α → List VP} {xs : List α} {k : Nat}
theorem Ops.eqNilK {d : Nat} {e : TypeId} (hT : slB P T = some e) (hx : Has E Γ M x (SlK k fk xs)) (hd : Nat.blt d E.n = true)
  (kk : ∀ b, (b = true → xs = []) → Ops E P ops Q rest ((d, isB b) :: Γ) M) : Ops E P ops Q (⟨some d, .binOp .eql T x (.const (.slice none 0 0)) T', ty, pos, after, none⟩ :: rest) Γ M := by
 intro a w F s
 refine wpList_plain rfl fun K hK => ?_
 unfold Oper.wp
 obtain ⟨a0, cap, e1, g1, g2, g3, g4⟩ := hx a w F s
 have hu := slB_under hT
 have key : ∀ n, (Op.equalIn (n + 1) T (.slice a0 xs.length cap) (.slice none 0 0)).run P w = .ok a0.isNone w := by
  intro n
  cases a0 <;> simp [Op.equalIn, Sem.run_bind, run_under hu]
 have hq : (Op.equal T (.slice a0 xs.length cap) (.slice none 0 0)).run P w = .ok a0.isNone w := key 9999
 have hr : (execOp a.eval (⟨some d, .binOp .eql T x (.const (.slice none 0 0)) T', ty, pos, after, none⟩ : Oper)).run P w = .ok (.value (.bool a0.isNone)) w := by
  have ec : a.eval (.const (.slice none 0 0)) = .slice none 0 0 := rfl
  simp only [execOp, e1, ec, eqGuard, binOp, Sem.run_bind]
  simp [hq, Sem.run_bind]
 rw [hr]
 have hd' : d < E.n := by simpa [Nat.blt_eq] using hd
 refine hK _ _ (kk a0.isNone (fun h => ?_) _ _ F (s.put hd' rfl))
 rcases g4 with g4 | ⟨b, off, rfl, _⟩
 ·exact List.eq_nil_of_length_eq_zero g4
 ·simp at h
theorem DrB.cv {Γ' : Ctx} {l : List Oper} {bs : List Nat} (c : Cv E Γ M Γ' M) (h : DrB E P l Γ' M Q bs) : DrB E P l Γ M Q bs := fun a w F s => by
 obtain ⟨F', s'⟩ := c a w F s
 exact h a w F' s'
theorem DrB.w {l : List Oper} {bs : List Nat} {Γ' : Ctx} (ts : List Nat) (h : keepl Γ ts = some Γ') (k : DrB E P l Γ' M Q bs) : DrB E P l Γ M Q bs := .cv (.wk (.l ts h)) k
theorem OK1.appendZK {e : TypeId} {g : Bool} {z : Value} (hT : slB P T = some e) (ht : tyB P e = some (2, g)) (hz : zeroB P e = some z) (hby : byLe P e 1024 = true) (hx : Has E Γ M x zcap) (hy : Has E Γ M y (SlK 2 fk xs)) (hn : xs.length ≤ 4294967296) :
  OK1 E P Γ M ⟨d, .call ⟨.builtin .append, #[x, y], #[T, T]⟩, ty, pos, after, gd⟩ (SlK 2 fk xs) := OK1.appendZ (m := 1) hT ht hz hby hx hy hn
end
abbrev hw0 (bw : Nat) (gt : Gr (List Int)) (n C top : Nat) : Option Nat × MP := (some bw, cellM [isGr gt n, isI (C : Int), isI (top : Int)])
abbrev hwM (bw : Nat) (gt : Gr (List Int)) (rs : List (List Int)) (C top : Nat) : Mem := [hw0 bw gt rs.length C top, grM isP gt rs]
theorem hwM_eq {bw C n top : Nat} {gt : Gr (List Int)} {rs rs' : List (List Int)} (h : rs = rs') (hn : n = rs'.length) : ([hw0 bw gt n C top, grM isP gt rs] : Mem) = hwM bw gt rs' C top := by subst h; subst hn; rfl
theorem hwM_top {bw C top' : Nat} {gt : Gr (List Int)} {rs : List (List Int)} {z : Int} (h : z = (top' : Int)) : ([(some bw, cellM [isGr gt rs.length, isI (C : Int), isI z]), grM isP gt rs] : Mem) = hwM bw gt rs C top' := by subst h; rfl
theorem isPl_eq {L L' : List Int} (h : L = L') : isP L = isP L' := h ▸ rfl
end Go.En
namespace Go.Br
open Go.Nt Go.Pz
structure BS where
 rows : List (List Int)
 ps : List Nat
 last : Int
 odd : Bool
def BStep (c : Nat) (s s' : BS) : Prop :=
  (s' = s ∧ ∀ (j : Nat) (r : List Int), s.ps.length ≤ j → s.rows[j]? = some r → cf r c = 0) ∨
  ∃ (i : Nat) (r t : List Int) (sw : List (List Int)), s.ps.length ≤ i ∧ s.rows[i]? = some r ∧ s.rows[s.ps.length]? = some t ∧ cf r c ≠ 0 ∧ sw = (if i = s.ps.length then s.rows else (s.rows.set i t).set s.ps.length r) ∧
    s'.rows.length = s.rows.length ∧ (∀ j : Nat, s'.rows[j]? = if s.ps.length < j then (sw[j]?).map (fun row => Go.En.clrL r row c s.last) else sw[j]?) ∧ s'.ps = s.ps ++ [c] ∧ s'.last = cf r c ∧ s'.odd = if i = s.ps.length then s.odd else !s.odd
inductive BRun (s0 : BS) : Nat → BS → Prop
 | zero : BRun s0 0 s0
 | step {c : Nat} {s s' : BS} : BRun s0 c s → BStep c s s' → BRun s0 (c + 1) s'
theorem BRun.full {s0 s : BS} {c : Nat} (h : BRun s0 c s) (hf : s.rows.length ≤ s.ps.length) : ∀ d, BRun s0 (c + d) s
 | 0 => h
 | d + 1 => (BRun.full h hf d).step (.inl ⟨rfl, fun j r hj hr => by rw [List.getElem?_eq_none (by omega)] at hr; cases hr⟩)
end Go.Br
namespace Go.En
open Go.Nt Go.Pz Go.Br
structure RunI (s0 : BS) (C K R c : Nat) (rs : List Row) (ps : List Nat) (last : Int) (odd : Bool) : Prop where
 hc : c ≤ C
 hlen : rs.length = R
 hrow : ∀ r ∈ rs, r.2.length = C
 hps : ps.length ≤ R
 hb : ∀ r ∈ rs, Bd r.2 ((K + 1) * 2 ^ ps.length - 1)
 hl : (List.length (words last.natAbs)) ≤ (K + 1) * 2 ^ ps.length - 1
 run : BRun s0 c ⟨rs.map Prod.snd, ps, last, odd⟩
theorem RunI.no {s0 : BS} {C K R c : Nat} {rs rs2 : List Row} {ps : List Nat} {last : Int} {odd odd2 : Bool} (h : RunI s0 C K R c rs ps last odd) (hc : c < C) (hF : FindR rs ps.length c odd rs2 odd2 false) : RunI s0 C K R (c + 1) rs2 ps last odd2 := by
  rcases hF with ⟨_, rfl, rfl, hz⟩ | ⟨h0, _⟩
  · refine ⟨hc, h.hlen, h.hrow, h.hps, h.hb, h.hl, h.run.step (.inl ⟨rfl, fun j r hj hr => ?_⟩)⟩
    rw [List.getElem?_map] at hr
    cases hq : rs2[j]? with
    | none => rw [hq] at hr; cases hr
    | some q =>
      rw [hq] at hr
      obtain rfl : q.2 = r := by simpa using hr
      exact hz j q hj hq
  · cases h0
theorem RunI.fin {s0 : BS} {C K R c : Nat} {rs : List Row} {ps : List Nat} {last : Int} {odd : Bool} (h : RunI s0 C K R c rs ps last odd) (he : C ≤ c ∨ R ≤ ps.length) : RunI s0 C K R C rs ps last odd := by
 rcases he with he | he
 ·obtain rfl : C = c := Nat.le_antisymm he h.hc
  exact h
 ·refine ⟨Nat.le_refl _, h.hlen, h.hrow, h.hps, h.hb, h.hl, ?_⟩
  have := h.run.full (by show (rs.map Prod.snd).length ≤ ps.length; rw [List.length_map, h.hlen]; exact he) (C - c)
  rwa [show c + (C - c) = C by have := h.hc; omega] at this
theorem perm0 (M : Mem) : M.Perm (M ++ []) := by rw [List.append_nil]
end Go.En
namespace Go.En
open Go.RowKit Go.Nt Go.Pz
section
variable {E : Env} {P : Program} {Γ : Ctx} {M : Mem}
theorem All2.conv {α : Type} {f g : α → VP} {w : World} {F : Blk} : ∀ {xs : List α} {Us : List VP} {vs : List Value}, (∀ x ∈ xs, ∀ v, (f x).h w F v → (g x).h w F v) → All2 (xs.map f ++ Us) w F vs → All2 (xs.map g ++ Us) w F vs
 | [], Us, vs, _, h => h
 | x :: xs, Us, v :: vs, hc, h => ⟨hc x (by simp) v h.1, All2.conv (fun y hy => hc y (by simp [hy])) h.2⟩
 | _ :: _, _, [], _, h => h.elim
end
end Go.En
namespace Go.En
open Go.RowKit
section
variable {E : Env} {P : Program} {Γ : Ctx} {M : Mem} {ty : TypeId} {pos : String} {after : Array Edge} {gd : Option (Nat × Bool)} {d : Option Tmp}
 {ops : Array Oper} {Q : Exit → Act → World → Prop} {rest : List Oper} {T T' : TypeId} {x y : Operand} {α : Type} {f : α → VP} {xs : List α}
theorem OKY.eq {o : Oper} {S S' : VP} (h : OKY E P Γ M o S) (e : S = S') : OKY E P Γ M o S' := e ▸ h
theorem OKY.addI {d : Option Tmp} {i j : Int} (hx : Has E Γ M x (isI i)) (hy : Has E Γ M y (isI j)) (h1 : -9223372036854775808 ≤ i + j) (h2 : i + j < 9223372036854775808) : OKY E P Γ M ⟨d, .binOp .add T x y T', ty, pos, after, none⟩ (isI (i + j)) := fun a w F s => by
 refine ⟨.int .i64 (i + j), fun w' => ?_, isI_of h1 h2 w F⟩
 have g1 := evI hx a w F s
 have g2 := evI hy a w F s
 have g3 := run_add (P := P) (T := T) .i64 i j w'
 simp only [execOp, g1, g2]
 simp [go_sem, g3]
 exact wrap_i64 h1 h2
end
end Go.En
namespace Go.En
open Go.RowKit Go.Nt Go.Pz
section
variable {E : Env} {P : Program} {Γ : Ctx} {M : Mem} {ops : Array Oper} {Q : Exit → Act → World → Prop} {rest : List Oper}
theorem Has.wk {x : Operand} {S S' : VP} (h : Has E Γ M x S) (k : ∀ w F v, S.h w F v → S'.h w F v) : Has E Γ M x S' := fun a w F s => k _ _ _ (h a w F s)
theorem OK1.wk {o : Oper} {S S' : VP} (h : OK1 E P Γ M o S) (k : ∀ w F v, S.h w F v → S'.h w F v) : OK1 E P Γ M o S' := fun a w F s K Q hK => h a w F s K Q fun v w' F' ad hv => hK v w' F' ad (k _ _ _ hv)
theorem OKY.wk {o : Oper} {S S' : VP} (h : OKY E P Γ M o S) (k : ∀ w F v, S.h w F v → S'.h w F v) : OKY E P Γ M o S' := fun a w F s => by
 obtain ⟨v, h1, h2⟩ := h a w F s
 exact ⟨v, h1, k _ _ _ h2⟩
theorem Cv.memEq {M' : Mem} (h : M = M') : Cv E Γ M Γ M' := h ▸ Cv.refl
theorem Cv.winRow {t b n i : Nat} {xs ys : List (Bool × List Nat)} (ht : look Γ t = some (isWin b 0 n n)) (hM : M[i]? = some (some b, cellM (xs.flatMap zc))) (hy : xs = ys) (hl : ys.length = n) :
  Cv E Γ M ((t, isGr (⟨some b, n, []⟩ : Gr (Bool × List Nat)) ys.length) :: Γ) (M.set i (grMK zc ⟨some b, n, []⟩ ys)) := by
 subst hy
 have h := Cv.winGrK (E := E) (fk := zc) (ys := xs) ht hM (by omega) hl (by rw [List.take_of_length_le (by omega)])
 rwa [List.drop_eq_nil_of_le (by omega)] at h
end
end Go.En
namespace Go.En
open Go.Nt Go.Pz Go.Mz
abbrev lw0 (bw N : Nat) (gd : Gr (Bool × List Nat)) (gl gu : Gr Row) (c1 c2 c3 : Nat) (m n : Bool) (ps qs : List Nat) (z : Int) : Option Nat × MP := (some bw, cellM [isI (N : Int), isGr gd c1, isGr gl c2, isGr gu c3, isB m, isWords ps, isB n, isWords qs, isI z])
abbrev lwM (bw N : Nat) (gd : Gr (Bool × List Nat)) (gl gu : Gr Row) (ds : List Int) (ls us : List Row) (m n : Bool) (ps qs : List Nat) (z : Int) : Mem := lw0 bw N gd gl gu (ds.map nz).length ls.length us.length m n ps qs z :: grMK zc gd (ds.map nz) :: grM rowV gl ls :: grM rowV gu us :: (ls ++ us).map rowM
theorem lwL {ls us : List Row} {i : Nat} {r : Row} (h : ls[i]? = some r) : (ls ++ us)[i]? = some r := by
 have hi : i < ls.length := by
  rcases Nat.lt_or_ge i ls.length with g | g
  ·exact g
  ·rw [List.getElem?_eq_none g] at h; cases h
 rw [List.getElem?_append_left hi]; exact h
theorem lwU {ls us : List Row} {i : Nat} {r : Row} (h : us[i]? = some r) : (ls ++ us)[ls.length + i]? = some r := by
 rw [List.getElem?_append_right (by omega), Nat.add_sub_cancel_left]; exact h
def smZ (x d : Int) : Bool := decide (cmpZ (((x + x).natAbs : Nat) : Int) d ≤ 0)
def stL (N : Nat) (f g : Nat → Int) (j : Nat) : List Int := (List.range N).map fun k => if k < j then g k else f k
theorem stL_len (N : Nat) (f g : Nat → Int) (j : Nat) : (stL N f g j).length = N := by unfold stL; rw [List.length_map, List.length_range]
theorem stL_get {N : Nat} {f g : Nat → Int} {j k : Nat} (h : k < N) : (stL N f g j)[k]? = some (if k < j then g k else f k) := by unfold stL; rw [List.getElem?_map, List.getElem?_range h]; rfl
theorem stL_cf {N : Nat} {f g : Nat → Int} {j k : Nat} (h : k < N) : cf (stL N f g j) k = if k < j then g k else f k := by
 have := stL_get (f := f) (g := g) (j := j) h
 rw [getElem_cf (by rw [stL_len]; exact h)] at this
 exact Option.some.inj this
theorem stL_at {N : Nat} {f g : Nat → Int} {j : Nat} (h : j < N) : ((stL N f g j).map nz)[j]? = some (nz (f j)) := by rw [List.getElem?_map, stL_get h, if_neg (Nat.lt_irrefl j)]; rfl
theorem stL_set {N : Nat} {f g : Nat → Int} {j : Nat} (h : j < N) : (stL N f g j).set j (g j) = stL N f g (j + 1) := by
 refine List.ext_getElem? fun k => ?_
 rcases Nat.lt_or_ge k N with hk | hk
 ·rw [stL_get hk]
  by_cases e : j = k
  ·subst e
   rw [List.getElem?_set_self (by rw [stL_len]; exact h), if_pos (Nat.lt_succ_self j)]
  ·rw [List.getElem?_set_ne e, stL_get hk]
   by_cases g1 : k < j
   ·rw [if_pos g1, if_pos (by omega)]
   ·rw [if_neg g1, if_neg (by omega)]
 ·rw [List.getElem?_eq_none (by rw [List.length_set, stL_len]; exact hk), List.getElem?_eq_none (by rw [stL_len]; exact hk)]
theorem stL_zero {N : Nat} {q : List Int} (g : Nat → Int) (h : q.length = N) : stL N (cf q) g 0 = q := by
 refine List.ext_getElem? fun k => ?_
 rcases Nat.lt_or_ge k N with hk | hk
 ·rw [stL_get hk, if_neg (Nat.not_lt_zero _), getElem_cf (by omega)]
 ·rw [List.getElem?_eq_none (by rw [stL_len]; exact hk), List.getElem?_eq_none (by omega)]
theorem set_eq {β : Type} {l : List β} {i : Nat} {a b : β} (h : l[i]? = some a) (e : a = b) : l = l.set i b := by
 subst e
 refine List.ext_getElem? fun k => ?_
 by_cases g : i = k
 ·subst g
  rw [h, List.getElem?_set_self]
  rcases Nat.lt_or_ge i l.length with c | c
  ·exact c
  ·rw [List.getElem?_eq_none c] at h; cases h
 ·rw [List.getElem?_set_ne g]
theorem lwS {ls us : List Row} {i : Nat} (X Y : Row) (hi : i < ls.length) : ((ls ++ us).set (ls.length + i) X).set i Y = ls.set i Y ++ us.set i X := by
 rw [List.set_append_right _ _ (by omega), Nat.add_sub_cancel_left, List.set_append_left _ _ hi]
theorem cf_set_ne {l : List Int} {k j : Nat} {x : Int} (h : k ≠ j) : cf (l.set k x) j = cf l j := by
 unfold cf
 rw [List.getD_eq_getElem?_getD, List.getD_eq_getElem?_getD, List.getElem?_set_ne h]
theorem tail5 {a b c d e : Option Nat × MP} {rs rs' : List Row} (h : rs = rs') : (a :: b :: c :: d :: e :: rs.map rowM : Mem) = a :: b :: c :: d :: e :: rs'.map rowM := h ▸ rfl
def rndZ (x d : Int) : Int := (x + x + d) / (d + d)
def lesU (N : Nat) (q qk : List Int) (c : Int) : List Int := stL N (cf q) (fun j => cf q j - c * cf qk j) N
def lesL (N k : Nat) (r rk : List Int) (c x : Int) : List Int := stL N (cf (r.set k x)) (fun j => cf (r.set k x) j - c * cf rk j) k
def LessR (N i k : Nat) (ds : List Int) (ls us : List Row) (r rk q qk : Row) (ls' us' : List Row) : Prop :=
 (smZ (cf r.2 k) (cf ds (k + 1)) = true ∧ ls' = ls ∧ us' = us) ∨ (smZ (cf r.2 k) (cf ds (k + 1)) = false ∧ ls' = ls.set i (r.1, lesL N k r.2 rk.2 (rndZ (cf r.2 k) (cf ds (k + 1))) (cf r.2 k - rndZ (cf r.2 k) (cf ds (k + 1)) * cf ds (k + 1))) ∧ us' = us.set i (q.1, lesU N q.2 qk.2 (rndZ (cf r.2 k) (cf ds (k + 1)))))
theorem lw_fin {bw N : Nat} {gd : Gr (Bool × List Nat)} {gl gu : Gr Row} {ds : List Int} {ls us : List Row} {m n : Bool} {ps qs : List Nat} {z : Int} {i : Nat} {r q : Row} {L U : List Int} (hi : ls[i]? = some r) (ui : us[i]? = some q) (hL : L.length = r.2.length) (hU : U.length = q.2.length) :
  (lw0 bw N gd gl gu (ds.map nz).length ls.length us.length m n ps qs z :: grMK zc gd (ds.map nz) :: grM rowV gl ls :: grM rowV gu us :: (((ls ++ us).set (ls.length + i) (q.1, U)).set i (r.1, L)).map rowM : Mem) = lwM bw N gd gl gu ds (ls.set i (r.1, L)) (us.set i (q.1, U)) m n ps qs z := by
 have hil : i < ls.length := by
  rcases Nat.lt_or_ge i ls.length with g | g
  ·exact g
  ·rw [List.getElem?_eq_none g] at hi; cases hi
 rw [lwS _ _ hil]
 unfold lwM
 rw [tab_set hi hL, tab_set ui hU, List.length_set, List.length_set]
theorem wrap_64 (z : Int) : -9223372036854775808 ≤ IntKind.i64.wrap z ∧ IntKind.i64.wrap z < 9223372036854775808 := by
 simp [IntKind.wrap, IntKind.signed, IntKind.bits]
 omega
section
variable {E : Env} {P : Program} {Γ : Ctx} {M : Mem} {x y : Operand} {d : Option Tmp} {T T' : TypeId} {ty : TypeId} {pos : String} {after : Array Edge} {gd : Option (Nat × Bool)}
theorem OK1.addW {i j : Int} (hx : Has E Γ M x (isI i)) (hy : Has E Γ M y (isI j)) : OK1 E P Γ M ⟨d, .binOp .add T x y T', ty, pos, after, gd⟩ (isI (IntKind.i64.wrap (i + j))) :=
 .bin (evI hx) (evI hy) (run_add _ _ _) (fun w F => isI_of (wrap_64 _).1 (wrap_64 _).2 w F)
end
end Go.En
namespace Go.En
open Go.RowKit Go.ChangeShapes Go.WideShapes Go.ChangeAt
section
variable {H : Type} {enc : TypeId × Value → H} {P : Program}
theorem trodAll_below (hl : laidOutB P = true) {W W' : World} (hb : Below W.heap.size W W') : ∀ {ts : List TypeId} {vs : List Value} {ds : List (DataW H)} {ps : List MemPlace},
    (ts.all fun t => P.readableRec t && decide (t < P.types.size)) = true → DataW.TrodAll enc P W 0 (fun _ => true) true ts vs ds ps → (∀ x ∈ ps, x.block < W.heap.size) →
    DataW.TrodAll enc P W' 0 (fun b => decide (b < W.heap.size)) true ts vs ds ps
  | [], vs, ds, ps, _, h, _ => by
    obtain ⟨rfl, rfl, rfl⟩ := trodAll_nil h; exact trodAll_mk0
  | t :: ts, vs, ds, ps, hr, h, hp => by
    obtain ⟨v, vs', d, ds', p, q, rfl, rfl, rfl, h1, h2⟩ := trodAll_cons h
    simp only [List.all_cons, Bool.and_eq_true] at hr
    exact trodAll_cons_mk (Below.trod hl hr.1.1 (of_decide_eq_true hr.1.2) h1 hb (fun x hx => hp x (by simp [hx]))) (trodAll_below hl hb hr.2 h2 (fun x hx => hp x (by simp [hx])))
theorem trodAll_len : ∀ {ts : List TypeId} {vs : List Value} {ds : List (DataW H)} {ps : List MemPlace} {W : World} {base : Nat} {sp : Nat → Bool} {hd : Bool}, DataW.TrodAll enc P W base sp hd ts vs ds ps → vs.length = ts.length ∧ ds.length = ts.length
  | [], vs, ds, ps, _, _, _, _, h => by obtain ⟨rfl, rfl, rfl⟩ := trodAll_nil h; exact ⟨rfl, rfl⟩
  | t :: ts, vs, ds, ps, _, _, _, _, h => by
    obtain ⟨v, vs', d, ds', p, q, rfl, rfl, rfl, h1, h2⟩ := trodAll_cons h
    have := trodAll_len h2
    exact ⟨by simp [this.1], by simp [this.2]⟩
def Opens (P : Program) (fn : Func) (f : FuncId) : Prop := ∀ (H : Type) (enc : TypeId × Value → H) (W : World) (base : Nat) (args : Array Value) (ds : List (DataW H)) (ps : List MemPlace),
 (∀ (j : Nat) t v, fn.params[j]? = some t → args[j]? = some v → Value.okWide P W .any base t v) → DataW.TrodAll enc P W 0 (fun _ => true) true fn.params.toList args.toList ds ps →
 (∀ x ∈ ps, x.block < W.heap.size) → ∃ Ss, All2 Ss W (fun b => b < W.heap.size) args.toList ∧ Ctr P f Ss (isB true)
theorem lift_law {C : Checked} {os : Os} {f : FuncId} {fn : Func} {s : ChangeSpec} {conds : List PathCond} {tb : TypeId}
  (own : ownKnob C.prog.godebug = none) (started : os.Started) (noInit : C.prog.inits.idxOf? f = none) (hfn : C.prog.funcs[f]? = some fn)
  (witness : ∃ (w : World) (tape : Tape) (i : Input), w.os = os ∧ (w.forCall tape i).Shaped C.prog ∧ i.vars = [] ∧ Input.okWide C.prog (w.forCall tape i) .any w.heap.size f i ∧
   s.pre6 enc C.prog fn conds false (w.forCall tape i).memory i.args ∧ ({} : Assume).holds C.prog (lone (Frame.enter C.prog f i.args .normal) [] (w.forCall tape i)))
  (hl : laidOutB C.prog = true) (hpar : (fn.params.toList.all fun t => C.prog.readableRec t && decide (t < C.prog.types.size)) = true) (hvars : s.vars = [])
  (hres : fn.resultTypes = #[tb]) (htb : C.prog.underlying tb = some .bool)
  (hs : ∀ ds : List (DataW H), ds.length = fn.params.toList.length → s.fn H ds = { results := [.lit (.bool true)], args := ds }) (hopen : Opens C.prog fn f) :
  ReturnsInHanded {} C os f .any (s.pre6 enc C.prog fn conds false) (s.post enc C.prog fn false true false false) := by
 refine returnsInHanded_of_change (C := C) own started noInit hfn witness ?_
 intro W base args ds gs before hval hW hcnd _
 have hW' := hW
 obtain ⟨p, q, hA0, hV, rfl, hfz, hnd⟩ := hW
 have hA : DataW.TrodAll enc C.prog W 0 (fun _ => true) true fn.params.toList args.toList ds p := hA0
 rw [hvars] at hV
 obtain ⟨rfl, rfl⟩ := trodVars_none hV
 have hlt : ∀ x ∈ p, x.block < W.heap.size := fun x hx => hW'.lt x (by simp [hx])
 obtain ⟨Ss, h1, h2⟩ := hopen H enc W base args ds p hval hA hlt
 have hlen := trodAll_len hA
 refine (h2.2 W _ args.toList (fun _ h => h) h1).mono fun e W' => ?_
 rintro ⟨v, rfl, hk, hv⟩
 obtain rfl : v = .bool true := hv
 have bel := hk.below
 refine ⟨_, rfl, _, _, _, [], p, [], hW', ?_, ?_, ?_, ?_, fun h => by cases h⟩
 ·rw [List.append_nil, hs ds hlen.2, hres]
  exact trodAll_mk1 (shut_bool htb _)
 ·rw [List.append_nil, hs ds hlen.2]
  exact trodAll_below hl bel hpar hA hlt
 ·rw [List.append_nil, hs ds hlen.2, hvars]; exact hV
 ·exact bel.frame _
theorem open_K {W : World} {base : Nat} {T : TypeId} {k : IntKind} {v : Value} {d : DataW H} {ps : List MemPlace} (hu : P.underlying T = some (.int k)) (hv : Value.okWide P W .any base T v)
  (h : DataW.Trod enc P W 0 (fun _ => true) true T v d ps) : ∃ z, v = .int k z ∧ rng k z := by
 obtain ⟨n, rfl, _, _, hw⟩ := open_int hu hv h
 exact ⟨n, rfl, by simpa [Lit.wf, rng] using hw⟩
theorem open_N {W : World} {base : Nat} {T : TypeId} {k : IntKind} {v : Value} {d : DataW H} {ps : List MemPlace} (hu : P.underlying T = some (.int k)) (hk : k.min = 0) (hv : Value.okWide P W .any base T v)
  (h : DataW.Trod enc P W 0 (fun _ => true) true T v d ps) : ∃ n : Nat, ∀ F, (isK k (n : Int)).h W F v := by
 obtain ⟨z, rfl, h1, h2⟩ := open_K hu hv h
 rw [hk] at h1
 exact ⟨z.toNat, fun F => ⟨by rw [Int.toNat_of_nonneg h1], by rw [Int.toNat_of_nonneg h1]; exact ⟨by rw [hk]; exact h1, h2⟩⟩⟩
theorem rd_K {w : World} {sp : Nat → Bool} {fuel : Nat} {T : TypeId} {k : IntKind} {cs : List Value} {x : DataW H × List MemPlace} (hu : P.underlying T = some (.int k)) (h : DataW.trod enc P w 0 sp true fuel T cs = some x) :
  ∃ z, cs = [.int k z] ∧ rng k z := by
 obtain ⟨n, hc, _, hw⟩ := DataW.trod_int hu h
 exact ⟨n, hc, by simpa [Lit.wf, rng] using hw⟩
theorem rd_I {w : World} {sp : Nat → Bool} {fuel : Nat} {T : TypeId} {cs : List Value} {x : DataW H × List MemPlace} (hu : P.underlying T = some (.int .i64)) (h : DataW.trod enc P w 0 sp true fuel T cs = some x) :
  ∃ z : Int, cs = [.int .i64 z] ∧ -9223372036854775808 ≤ z ∧ z < 9223372036854775808 := by
 obtain ⟨z, rfl, h1, h2⟩ := rd_K hu h
 simp [IntKind.min, IntKind.max, IntKind.signed, IntKind.bits] at h1 h2
 exact ⟨z, rfl, by omega, by omega⟩
theorem list_of_get {α : Type} {p : Nat → α → Prop} : ∀ (n : Nat), (∀ i, i < n → ∃ a, p i a) → ∃ l : List α, l.length = n ∧ ∀ i (h : i < l.length), p i l[i]
  | 0, _ => ⟨[], rfl, fun i h => absurd h (by simp)⟩
  | n + 1, h => by
    obtain ⟨l, h1, h2⟩ := list_of_get n (fun i hi => h i (by omega))
    obtain ⟨a, ha⟩ := h n (by omega)
    refine ⟨l ++ [a], by simp [h1], fun i hi => ?_⟩
    rcases Nat.lt_or_ge i l.length with h3 | h3
    · rw [List.getElem_append_left h3]; exact h2 i h3
    · have : i = n := by simp at hi; omega
      subst this
      rw [List.getElem_append_right h3]; simpa [h1] using ha
theorem all2_of_get : ∀ {Ss : List VP} {w : World} {F : Blk} {vs : List Value}, Ss.length = vs.length → (∀ (i : Nat) (S : VP) (v : Value), Ss[i]? = some S → vs[i]? = some v → S.h w F v) → All2 Ss w F vs
 | [], _, _, [], _, _ => trivial
 | S :: Ss, _, _, v :: vs, hl, h => ⟨h 0 S v rfl rfl, all2_of_get (by simpa using hl) (fun i S' v' h1 h2 => h (i + 1) S' v' (by simpa using h1) (by simpa using h2))⟩
 | [], _, _, _ :: _, hl, _ => by simp at hl
 | _ :: _, _, _, [], hl, _ => by simp at hl
end
end Go.En
namespace Go.En
open Go.RowKit Go.ChangeShapes Go.WideShapes Go.ChangeAt
section
variable {H : Type} {enc : TypeId × Value → H} {P : Program}
theorem rd_row {α : Type} {f : α → VP} {W : World} {T T' : TypeId} {k : IntKind} {fuel : Nat} {cs : List Value} {x : DataW H × List MemPlace} (hu : P.underlying T = some (.slice T')) (hu' : P.underlying T' = some (.int k)) (hc : P.cellsOf T' = 1)
    (hf : ∀ z, rng k z → ∃ a, ∀ w F, (f a).h w F (.int k z)) (h : DataW.trod enc P W 0 (fun _ => true) true fuel T cs = some x) (hps : ∀ y ∈ x.2, y.block < W.heap.size) : ∃ (v : Value) (xs : List α), cs = [v] ∧ (SlM f xs).h W (fun b => b < W.heap.size) v := by
  rcases open_ints hu hu' hc h with ⟨h1, _⟩ | ⟨a, len, cap, zs, h1, h2, h3, h4, h5, h6, h7, h8⟩
  · exact ⟨_, [], h1, nilM _ _⟩
  · simp only [if_true] at h5
    obtain ⟨l, hl, hget⟩ := list_of_get (p := fun i (x : α) => ∀ w F, (f x).h w F (.int k (zs.getD i 0))) len (fun i hi => by
      have hz : zs.getD i 0 ∈ zs := by
        have : i < zs.length := by omega
        simp [List.getD, this]
      exact hf _ (by simpa [Lit.wf, rng] using h8 _ hz))
    refine ⟨_, l, h1, some a, cap, by rw [hl], by rw [hl]; exact h3, h4, by simp, ?_⟩
    rcases Nat.eq_zero_or_pos len with h0 | h0
    · exact .inl (by omega)
    · have hc0 := h7 0 (by omega)
      have hs : a.spot = none := by
        cases hsp : a.spot with
        | none => rfl
        | some s =>
          simp only [Addr.add, if_true] at hc0
          unfold World.cell? at hc0
          rw [hsp] at hc0
          split at hc0 <;> simp at hc0
      obtain ⟨b, off, sp⟩ := a
      simp only at hs
      subst hs
      right
      refine ⟨b, off, rfl, ?_, (List.range len).map (fun i => .int k (zs.getD i 0)), ?_, fun j u hj => ?_⟩
      · have : MemPlace.cell b (off + 0) ∈ x.2 := by
          rw [h6]
          exact List.mem_map.2 ⟨0, by simp; omega, rfl⟩
        exact hps _ this
      · refine all2_of_get (by simp [hl]) (fun i S v hS hv => ?_)
        have hi : i < l.length := by
          rcases Nat.lt_or_ge i l.length with h | h
          · exact h
          · rw [List.getElem?_eq_none (by simpa using h)] at hS; cases hS
        rw [List.getElem?_map, List.getElem?_eq_getElem hi] at hS
        rw [List.getElem?_map, List.getElem?_range (by omega)] at hv
        simp at hS hv
        subst hS; subst hv
        simpa [List.getD] using hget i hi W (fun b => b < W.heap.size)
      · have hjl : j < len := by
          rcases Nat.lt_or_ge j len with h | h
          · exact h
          · rw [List.getElem?_eq_none (by simpa using h)] at hj; cases hj
        rw [List.getElem?_map, List.getElem?_range hjl] at hj
        simp at hj
        subst hj
        have := h7 j (by omega)
        rw [add_mk] at this
        simpa [List.getD] using this
theorem word_of (z : Int) (h : rng .u64 z) : ∃ n : Nat, ∀ w F, (isU n).h w F (.int .u64 z) := by
 obtain ⟨h1, h2⟩ := h
 simp [IntKind.min, IntKind.max, IntKind.signed, IntKind.bits] at h1 h2
 refine ⟨z.toNat, fun w F => ⟨?_, by omega⟩⟩
 rw [Int.toNat_of_nonneg h1]
def fsB (P : Program) (T : TypeId) : Option (List (TypeId × Nat)) := match P.underlying T with
 | some (.struct fs) => some (fs.toList.map fun f => (f.type, f.offset))
 | _ => none
theorem fsB_spec {T : TypeId} {l : List (TypeId × Nat)} (h : fsB P T = some l) : ∃ fs, P.underlying T = some (.struct fs) ∧ fs.size = l.length ∧ ∀ (i t o : Nat), l[i]? = some (t, o) → ∃ f, fs[i]? = some f ∧ f.type = t ∧ f.offset = o := by
  unfold fsB at h
  split at h
  · rename_i fs hu
    obtain rfl := Option.some.inj h
    refine ⟨fs, hu, by simp, fun i t o hi => ?_⟩
    rw [List.getElem?_map] at hi
    cases hf : fs.toList[i]? with
    | none => rw [hf] at hi; cases hi
    | some f =>
      rw [hf] at hi
      simp at hi
      exact ⟨f, by simpa using hf, hi.1, hi.2⟩
  · cases h
end
end Go.En
namespace Go.Proofs.YtlebmedapfncoaaGreat
open Go.En
theorem by22 : byLe Tryz.prog 22 1024 = true := by kernel_rfl
theorem by3 : byLe Tryz.prog 3 1024 = true := by kernel_rfl
theorem by33 : byLe Tryz.prog 33 1024 = true := by kernel_rfl
theorem by50 : byLe Tryz.prog 50 1024 = true := by kernel_rfl
theorem ext_add64 : IsExt Tryz.prog 96 add64Entry := ⟨⟨Tryz.f96, Tryz.func96, by kernel_rfl, by kernel_rfl, by kernel_rfl, by kernel_rfl⟩⟩
theorem ext_sub64 : IsExt Tryz.prog 97 subE := ⟨⟨Tryz.f97, Tryz.func97, by kernel_rfl, by kernel_rfl, by kernel_rfl, by kernel_rfl⟩⟩
theorem fld24_0 : fldB Tryz.prog 24 0 = some (0, 3) := by kernel_rfl
theorem fld24_1 : fldB Tryz.prog 24 1 = some (1, 3) := by kernel_rfl
theorem fld24_2 : fldB Tryz.prog 24 2 = some (2, 22) := by kernel_rfl
theorem fld33_0 : fldB Tryz.prog 33 0 = some (0, 4) := by kernel_rfl
theorem fld33_1 : fldB Tryz.prog 33 1 = some (1, 31) := by kernel_rfl
theorem fld73_0 : fldB Tryz.prog 73 0 = some (0, 71) := by kernel_rfl
theorem fld73_2 : fldB Tryz.prog 73 2 = some (2, 3) := by kernel_rfl
theorem fld87_0 : fldB Tryz.prog 87 0 = some (0, 3) := by kernel_rfl
theorem fld87_1 : fldB Tryz.prog 87 1 = some (1, 22) := by kernel_rfl
theorem fld87_2 : fldB Tryz.prog 87 2 = some (2, 71) := by kernel_rfl
theorem fld87_3 : fldB Tryz.prog 87 3 = some (3, 71) := by kernel_rfl
theorem fld87_4 : fldB Tryz.prog 87 4 = some (4, 33) := by kernel_rfl
theorem fld87_5 : fldB Tryz.prog 87 5 = some (6, 33) := by kernel_rfl
theorem fld87_6 : fldB Tryz.prog 87 6 = some (8, 3) := by kernel_rfl
theorem fs24 : fsB Tryz.prog 24 = some [(3, 0), (3, 1), (22, 2)] := by kernel_rfl
theorem fs33 : fsB Tryz.prog 33 = some [(4, 0), (31, 1)] := by kernel_rfl
theorem mixed : Tryz.prog.follows .mixedOrders = true := by kernel_rfl
theorem pl24 : plB Tryz.prog 24 = some [(0, 1), (1, 1), (2, 1)] := by kernel_rfl
theorem pl33 : plB Tryz.prog 33 = some [(0, 1), (1, 1)] := by kernel_rfl
theorem pl73 : plB Tryz.prog 73 = some [(0, 1), (1, 1), (2, 1)] := by kernel_rfl
theorem pl87 : plB Tryz.prog 87 = some [(0, 1), (1, 1), (2, 1), (3, 1), (4, 2), (6, 2), (8, 1)] := by kernel_rfl
theorem sl22 : slB Tryz.prog 22 = some 33 := by kernel_rfl
theorem sl31 : slB Tryz.prog 31 = some 50 := by kernel_rfl
theorem sl55 : slB Tryz.prog 55 = some 3 := by kernel_rfl
theorem sl57 : slB Tryz.prog 57 = some 2 := by kernel_rfl
theorem sl71 : slB Tryz.prog 71 = some 22 := by kernel_rfl
theorem ty2 : tyB Tryz.prog 2 = some (1, false) := by kernel_rfl
theorem ty22 : tyB Tryz.prog 22 = some (1, false) := by kernel_rfl
theorem ty24 : tyB Tryz.prog 24 = some (3, true) := by kernel_rfl
theorem ty3 : tyB Tryz.prog 3 = some (1, false) := by kernel_rfl
theorem ty31 : tyB Tryz.prog 31 = some (1, false) := by kernel_rfl
theorem ty33 : tyB Tryz.prog 33 = some (2, true) := by kernel_rfl
theorem ty4 : tyB Tryz.prog 4 = some (1, false) := by kernel_rfl
theorem ty50 : tyB Tryz.prog 50 = some (1, false) := by kernel_rfl
theorem ty57 : tyB Tryz.prog 57 = some (1, false) := by kernel_rfl
theorem ty71 : tyB Tryz.prog 71 = some (1, false) := by kernel_rfl
theorem un103 : Tryz.prog.underlying 103 = some (.int .u64) := by kernel_rfl
theorem un2 : Tryz.prog.underlying 2 = some (.int .i64) := by kernel_rfl
theorem un22 : Tryz.prog.underlying 22 = some (.slice 33) := by kernel_rfl
theorem un3 : Tryz.prog.underlying 3 = some (.int .i64) := by kernel_rfl
theorem un31 : Tryz.prog.underlying 31 = some (.slice 50) := by kernel_rfl
theorem un4 : Tryz.prog.underlying 4 = some .bool := by kernel_rfl
theorem un5 : Tryz.prog.underlying 5 = some (.int .u8) := by kernel_rfl
theorem un50 : Tryz.prog.underlying 50 = some (.int .u64) := by kernel_rfl
theorem un9 : Tryz.prog.underlying 9 = some .string := by kernel_rfl
theorem zero2 : zeroB Tryz.prog 2 = some (.int .i64 0) := by kernel_rfl
theorem zero22 : zeroB Tryz.prog 22 = some (.slice none 0 0) := by kernel_rfl
theorem zero24 : zeroB Tryz.prog 24 = some (.agg #[.int .i64 0, .int .i64 0, .slice none 0 0]) := by kernel_rfl
theorem zero3 : zeroB Tryz.prog 3 = some (.int .i64 0) := by kernel_rfl
theorem zero33 : zeroB Tryz.prog 33 = some (.agg #[.bool false, .slice none 0 0]) := by kernel_rfl
theorem zero50 : zeroB Tryz.prog 50 = some (.int .u64 0) := by kernel_rfl
theorem zero73 : zeroB Tryz.prog 73 = some (.agg #[.slice none 0 0, .int .i64 0, .int .i64 0]) := by kernel_rfl
theorem zero87 : zeroB Tryz.prog 87 = some (.agg #[.int .i64 0, .slice none 0 0, .slice none 0 0, .slice none 0 0, .bool false, .slice none 0 0, .bool false, .slice none 0 0, .int .i64 0]) := by kernel_rfl
end Go.Proofs.YtlebmedapfncoaaGreat
namespace Go.Proofs.YtlebmedapfncoaaGreat
open Go.En Go.RowKit
set_option maxRecDepth 10000
set_option maxHeartbeats 4000000
open Go.Nt
theorem bits_Mul64 {x y : Nat} : Ctr Tryz.prog 121 [isU x, isU y] (isTup [isU (x * y / 18446744073709551616), isU (x * y % 18446744073709551616)]) := by
 refine Ctr.i Tryz.func121 rfl Tryz.ntmps121 fun w0 F0 => .w [0,1] rfl (.fact (Has.ltU (Has.t (t := 0) rfl)) fun lt0 => .fact (Has.ltU (Has.t (t := 1) rfl)) fun lt1 => ?_)
 have hf := mul64_facts lt0 lt1
 have hx1 : x / 2 ^ 32 < 4294967296 := by omega
 have hy1 : y / 2 ^ 32 < 4294967296 := by omega
 refine .sr fun k1 => st (.as (.cU 0 rfl)) rfl (st (.as (.cU 0 rfl)) rfl (nkQ k1 (.sr fun k2 => stM rfl (st (.eq (.andU (.t rfl) (.cU 4294967295 rfl)) (isU_eq (Nat.and_two_pow_sub_one_eq_mod _ 32))) rfl (stM rfl (nkQ k2 (.sr fun k3 => stM rfl (st (.shrUU (.t rfl) (.cU 32 rfl) (by omega)) rfl (stM rfl (nkQ k3 (.sr fun k4 => stM rfl (st (.eq (.andU (.t rfl) (.cU 4294967295 rfl)) (isU_eq (Nat.and_two_pow_sub_one_eq_mod _ 32))) rfl (stM rfl (nkQ k4 (.w [0,1,4,5,6,7,8] rfl (.sr fun k5 => stM rfl (st (.shrUU (.t rfl) (.cU 32 rfl) (by omega)) rfl (stM rfl (nkQ k5 (.sr fun k6 => stM rfl (stM rfl (st (.mulU' (.t rfl) (.t rfl) (by omega)) rfl (stM rfl (nkQ k6 (.w [0,1,4,5,6,7,8,9,10] rfl ?_)))))))))))))))))))))))))
 refine .sr fun k7 => stM rfl (stM rfl (st (.mulU' (.t rfl) (.t rfl) (by omega)) rfl (stM rfl (st (.shrUU (.t rfl) (.cU 32 rfl) (by omega)) rfl (st (.addU' (.t rfl) (.t rfl) (by omega)) rfl (stM rfl (nkQ k7 (.w [0,1,4,5,6,7,9,11] rfl (.sr fun k8 => stM rfl (st (.eq (.andU (.t rfl) (.cU 4294967295 rfl)) (isU_eq (Nat.and_two_pow_sub_one_eq_mod _ 32))) rfl (stM rfl (nkQ k8 (.sr fun k9 => stM rfl (st (.shrUU (.t rfl) (.cU 32 rfl) (by omega)) rfl (stM rfl (nkQ k9 (.w [0,1,4,5,6,7,9,12,13] rfl (.sr fun k10 => stM rfl (stM rfl (stM rfl (st (.mulU' (.t rfl) (.t rfl) (by omega)) rfl (st (.addU' (.t rfl) (.t rfl) (by omega)) rfl (stM rfl (nkQ k10 (.w [0,1,4,5,7,9,12,13] rfl (.sr fun k11 => stM rfl (stM rfl (st (.mulU' (.t rfl) (.t rfl) (by omega)) rfl ?_))))))))))))))))))))))))))))
 refine stM rfl (st (.addU' (.t rfl) (.t rfl) (by omega)) rfl (stM rfl (st (.shrUU (.t rfl) (.cU 32 rfl) (by omega)) rfl (st (.addU' (.t rfl) (.t rfl) (by omega)) rfl (stM rfl (nkQ k11 (.w [0,1,4,5] rfl (.sr fun k12 => stM rfl (stM rfl (st (.mulU (.t rfl) (.t rfl)) rfl (stM rfl (nkQ k12 (.w [4,5] rfl (.ret (rtN (.inl rfl) Tryz.results121 rfl rfl (.tmp (Has.t' rfl ?_) (.tmp (Has.t' rfl ?_) .nil)))))))))))))))))
 ·exact isU_eq (mul64_hi x y)
 ·rfl
theorem clone_Nat {xs : List Nat} (hx : xs.length ≤ 4294967296) : Ctr Tryz.prog 65 [isWords xs] (isWords xs) := by
 refine Ctr.i Tryz.func65 rfl Tryz.ntmps65 fun w0 F0 => .w [0] rfl (.fact (Has.lenLt (Has.t (t := 0) rfl)) fun lt0 => .fact (Has.okW (Has.t (t := 0) rfl)) fun ok0 => .sr fun k1 => st (.as (.cW (f := isU))) rfl (nkQ k1 (.sq fun k2 => .sr fun k3 => stM rfl (.eqNil sl31 (.t rfl) rfl fun bn1 hn1 => nkQ k3 (.cd rfl (fun hc2 => ?_) (fun hc2 => ?_))))))
 ·refine .sr fun k4 => st (.as (.cW (f := isU))) rfl (nkQ k4 (.ret (.thr (rt1 (.inl rfl) Tryz.results65 rfl (.tmp (Has.t' rfl ?_) .nil)))))
  all_goals (rw [hn1 hc2])
 ·refine .skip (.nk k2 (.sr fun k5 => .buildS0 sl31 ty50 rfl (stM rfl (st (.appendZM sl31 ty50 zero50 by50 (.t rfl) (.t rfl) (by omega)) rfl (stM rfl (nkQ k5 (.w [2] rfl (.ret (rt1 (.inl rfl) Tryz.results65 rfl (.tmp (Has.t' rfl ?_) .nil))))))))))
  all_goals (rfl)
theorem nat_trim {xs : List Nat} : Ctr Tryz.prog 61 [isWords xs] (isWords (words (val xs))) := by
 refine Ctr.i Tryz.func61 rfl Tryz.ntmps61 fun w0 F0 => .w [0] rfl (.fact (Has.lenLt (Has.t (t := 0) rfl)) fun lt0 => .fact (Has.okW (Has.t (t := 0) rfl)) fun ok0 => .sr fun k1 => st (.as (.cW (f := isU))) rfl (nkQ k1 (.sr fun k2 => stM rfl (st (.len sl31 (.t rfl)) rfl (stM rfl (nkQ k2 (.sq fun k3 => .block (.loopF [0,2] (fun (z : { k : Nat // k ≤ xs.length ∧ ∀ i, k ≤ i → xs.getD i 0 = 0 }) => match z with | ⟨k, hI⟩ => [(3, isI (k : Int))]) (fun M => fun (z : { k : Nat // k ≤ xs.length ∧ ∀ i, k ≤ i → xs.getD i 0 = 0 }) => match z with | ⟨k, hI⟩ => M) (fun (z : { k : Nat // k ≤ xs.length ∧ ∀ i, k ≤ i → xs.getD i 0 = 0 }) => match z with | ⟨k, hI⟩ => k) (⟨xs.length, Nat.le_refl _, fun i hi => by simp [List.getD, List.getElem?_eq_none hi]⟩) (Cv.mem (.c 3 rfl ?_ (.l [0,2] rfl)) ?_) ?_))))))))
 ·rfl
 ·rfl
 rintro ⟨k, hk, hz⟩ K4 hK4
 refine .w [3,0,2] rfl ?_
 have ek : ((k : Int) - 1).toNat = k - 1 := by omega
 refine .sq fun k5 => .sr fun k6 => stM rfl (st (.gtI (.t rfl) (.cI 0 rfl)) rfl (stM rfl (stT rfl rfl (fun hg => .mv (.t rfl)) rfl (stT rfl rfl (fun hg => .mv (.t rfl)) rfl ?_))))
 refine stT rfl rfl (fun hg => have hg' := BP.t hg; OK1.subI (Has.g rfl hg) (.cI 1 rfl) (by omega) (by omega)) rfl ?_
 refine stT rfl rfl (fun hg => have hg' := BP.t hg; OK1.ixP sl31 ty50 (Has.g rfl hg) (Has.g rfl hg) (by omega) (getD_some (d := 0) (by omega))) rfl ?_
 refine stT rfl rfl (fun hg => .loadP1 (Has.g rfl hg) ty50) rfl (stT rfl rfl (fun hg => .eqU (Has.g rfl hg) (.cU 0 rfl)) rfl (st (.pickAnd (.t rfl) (fun h => Has.g rfl h)) rfl (nkQ k6 (.cd rfl (fun hc1 => ?_) (fun hc1 => ?_)))))
 ·refine .skip (.nk k5 (.block (.region (stM rfl (st (.subI (.t rfl) (.cI 1 rfl) (by omega) (by omega)) rfl (stM rfl (nl (.bln (.thn ?_)))))))))
  refine hK4 (⟨k - 1, by omega, fun i hi => by rcases Nat.lt_or_ge i k with h | h; (have e : i = k - 1 := by omega); (rw [e, ← ek]; exact hc1.2); exact hz i h⟩) _ _ ?_ (Cv.mem (.c 3 rfl ?_ (.l [0,2] rfl)) ?_)
  ·show k - 1 < k; omega
  ·exact isI_eq (by omega)
  ·rfl
 ·refine .exit (.the (.the (.blh (.nk k3 (.w [0,2,3] rfl (.sr fun k7 => stM rfl (stM rfl (st (.slHM sl31 ty50 (.t rfl) (.t rfl) (by omega)) rfl (stM rfl (nkQ k7 (.w [2] rfl (.ret (rt1 (.inl rfl) Tryz.results61 rfl (.tmp (Has.t' rfl ?_) .nil))))))))))))))
  all_goals (exact SlM_eq (words_of_take ok0 hk hz (by rcases hc1 with h | h; left; omega; right; rwa [ek] at h)))
theorem nat_normal {xs : List Nat} : Ctr Tryz.prog 64 [isWords xs] (isWords (words (val xs))) := by
 refine Ctr.i Tryz.func64 rfl Tryz.ntmps64 fun w0 F0 => .w [0] rfl (.fact (Has.lenLt (Has.t (t := 0) rfl)) fun lt0 => .fact (Has.okW (Has.t (t := 0) rfl)) fun ok0 => .sr fun k1 => st (.as (.cW (f := isU))) rfl (nkQ k1 (.sr fun k2 => stM rfl (st (.call (nat_trim) (.cons (.t rfl) .nil)) rfl (stM rfl (nkQ k2 (.sq fun k3 => .sr fun k4 => stM rfl (st (.len sl31 (.t rfl)) rfl (st (.eqI (.t rfl) (.cI 0 rfl)) rfl (nkQ k4 (.cd rfl (fun hc1 => ?_) (fun hc1 => ?_))))))))))))
 ·refine .sr fun k5 => st (.as (.cW (f := isU))) rfl (nkQ k5 (.w [0,2] rfl (.ret (.thr (rt1 (.inl rfl) Tryz.results64 rfl (.tmp (Has.t' rfl ?_) .nil))))))
  all_goals (exact SlM_eq (List.eq_nil_of_length_eq_zero (by omega)).symm)
 ·refine .skip (.nk k3 (.w [0,2] rfl (.sr fun k6 => stM rfl (stM rfl (nkQ k6 (.ret (rt1 (.inl rfl) Tryz.results64 rfl (.tmp (Has.t' rfl ?_) .nil))))))))
  all_goals (rfl)
theorem nat_Of {x : Nat} : Ctr Tryz.prog 23 [isU x] (isWords (words x)) := by
 refine Ctr.i Tryz.func23 rfl Tryz.ntmps23 fun w0 F0 => .w [0] rfl (.fact (Has.ltU (Has.t (t := 0) rfl)) fun lt0 => .sr fun k1 => st (.as (.cW (f := isU))) rfl (nkQ k1 (.sq fun k2 => .sr fun k3 => stM rfl (st (.eqU (.t rfl) (.cU 0 rfl)) rfl (nkQ k3 (.cd rfl (fun hc1 => ?_) (fun hc1 => ?_)))))))
 ·refine .sr fun k4 => st (.as (.cW (f := isU))) rfl (nkQ k4 (.ret (.thr (rt1 (.inl rfl) Tryz.results23 rfl (.tmp (Has.t' rfl ?_) .nil)))))
  all_goals (exact SlM_eq (by rw [hc1, words_zero]))
 ·refine .skip (.nk k2 (.sr fun k5 => stM rfl (st (.buildS [isU 0] sl31 ty50 zero50 (fun _ _ => ⟨⟨rfl, by decide⟩, trivial⟩) rfl rfl (.cons (.t rfl) rfl rfl rfl .nil) rfl (S := isWords [_]) rfl) rfl (stM rfl (nkQ k5 (.w [2] rfl (.ret (rt1 (.inl rfl) Tryz.results23 rfl (.tmp (Has.t' rfl ?_) .nil)))))))))
  all_goals (exact SlM_eq (by rw [words_small lt0, if_neg (by omega)]))
theorem nat_Norm {xs : List Nat} (hx : (List.length (words (val xs))) ≤ 4294967296) : Ctr Tryz.prog 42 [isWords xs] (isWords (words (val xs))) := by
 refine Ctr.i Tryz.func42 rfl Tryz.ntmps42 fun w0 F0 => .w [0] rfl (.fact (Has.lenLt (Has.t (t := 0) rfl)) fun lt0 => .fact (Has.okW (Has.t (t := 0) rfl)) fun ok0 => .sr fun k1 => st (.as (.cW (f := isU))) rfl (nkQ k1 (.sr fun k2 => stM rfl (st (.call (nat_trim) (.cons (.t rfl) .nil)) rfl (st (.call (clone_Nat (by omega)) (.cons (.t rfl) .nil)) rfl (st (.call (nat_normal) (.cons (.t rfl) .nil)) rfl (stM rfl (nkQ k2 (.w [2] rfl (.ret (rt1 (.inl rfl) Tryz.results42 rfl (.tmp (Has.t' rfl ?_) .nil))))))))))))
 all_goals (rw [val_words])
theorem nat_Cmp {xs ys : List Nat} : Ctr Tryz.prog 87 [isWords xs, isWords ys] (isI (cmpN (val xs) (val ys))) := by
 refine Ctr.i Tryz.func87 rfl Tryz.ntmps87 fun w0 F0 => .w [0,1] rfl (.fact (Has.lenLt (Has.t (t := 0) rfl)) fun lt0 => .fact (Has.okW (Has.t (t := 0) rfl)) fun ok0 => .fact (Has.lenLt (Has.t (t := 1) rfl)) fun lt1 => .fact (Has.okW (Has.t (t := 1) rfl)) fun ok1 => ?_)
 have n0 : (words (val xs)).length ≤ xs.length := nw_val ok0
 have n1 : (words (val ys)).length ≤ ys.length := nw_val ok1
 refine .sr fun k1 => st (.as (.cI 0 rfl)) rfl (nkQ k1 (.sr fun k2 => stM rfl (st (.call (nat_trim) (.cons (.t rfl) .nil)) rfl (stM rfl (st (.call (nat_trim) (.cons (.t rfl) .nil)) rfl (stM rfl (stM rfl (nkQ k2 (.sq fun k3 => .sr fun k4 => stM rfl (st (.len sl31 (.t rfl)) rfl (stM rfl (st (.len sl31 (.t rfl)) rfl (st (.neI (.t rfl) (.t rfl)) rfl (nkQ k4 (.w [0,1,4,14] rfl (.cd rfl (fun hc1 => ?_) (fun hc1 => ?_)))))))))))))))))
 ·refine .sq fun k5 => .sr fun k6 => stM rfl (st (.len sl31 (.t rfl)) rfl (stM rfl (st (.len sl31 (.t rfl)) rfl (st (.ltI (.t rfl) (.t rfl)) rfl (nkQ k6 (.w [0,1,4,19] rfl (.cd rfl (fun hc2 => ?_) (fun hc2 => ?_))))))))
  ·refine .sr fun k7 => st (.as (.cI (-1) rfl)) rfl (nkQ k7 (.ret (.thr (.thr (rt1 (.inl rfl) Tryz.results87 rfl (.tmp (Has.t' rfl ?_) .nil))))))
   all_goals (exact isI_eq (cmp_len_lt (show (words _).length < (words _).length by omega)))
  ·refine .skip (.nk k5 (.sr fun k8 => st (.as (.cI 1 rfl)) rfl (nkQ k8 (.ret (.thr (rt1 (.inl rfl) Tryz.results87 rfl (.tmp (Has.t' rfl ?_) .nil)))))))
   all_goals (exact isI_eq (cmp_len_gt (show (words _).length < (words _).length by omega)))
 ·refine .skip (.nk k3 (.sq fun k9 => .sr fun k10 => stM rfl (st (.len sl31 (.t rfl)) rfl (st (.subI (.t rfl) (.cI 1 rfl) (by omega) (by omega)) rfl (stM rfl (nkQ k10 (.block (.loopF [0,1] (fun (z : { k : Nat // k ≤ (words (val xs)).length ∧ val xs / W ^ k = val ys / W ^ k }) => match z with | ⟨k, hI⟩ => [(5, isI ((k : Int) - 1))]) (fun M => fun (z : { k : Nat // k ≤ (words (val xs)).length ∧ val xs / W ^ k = val ys / W ^ k }) => match z with | ⟨k, hI⟩ => M) (fun (z : { k : Nat // k ≤ (words (val xs)).length ∧ val xs / W ^ k = val ys / W ^ k }) => match z with | ⟨k, hI⟩ => k) (⟨(words (val xs)).length, Nat.le_refl _, cmp_start (show (words _).length = (words _).length by omega)⟩) (Cv.mem (.c 5 rfl ?_ (.l [0,1] rfl)) ?_) ?_))))))))
  ·rfl
  ·rfl
  rintro ⟨k, hk, he⟩ K11 hK11
  refine .w [5,0,1] rfl ?_
  have ek : ((k : Int) - 1).toNat = k - 1 := by omega
  refine .sq fun k12 => .sr fun k13 => stM rfl (st (.geI (.t rfl) (.cI 0 rfl)) rfl (nkQ k13 (.cd rfl (fun hc3 => ?_) (fun hc3 => ?_))))
  ·refine .skip (.nk k12 (.sq fun k14 => .block (.block (.sq fun k15 => .dr (.m [] rfl (.m [] rfl (.so [28,29] rfl (.ixP sl31 ty50 (.t rfl) (.t rfl) (by omega) (getD_some (d := 0) (by omega))) (.so [30] rfl (.loadP1 (.t rfl) ty50) (.m [] rfl (.m [] rfl (.so [32,33] rfl (.ixP sl31 ty50 (.t rfl) (.t rfl) (by omega) (getD_some (d := 0) (by omega))) (.so [34] rfl (.loadP1 (.t rfl) ty50) (.fn (n := 8) mixed (.w [0,1,5,23,24,28,29,30,31,32,33,34,35] rfl (st (.ltU (.t rfl) (.t rfl)) rfl (stM rfl (nkQ k15 (.cd rfl (fun hc4 => ?_) (fun hc4 => ?_)))))))))))))))))))
   ·refine .sr fun k16 => st (.as (.cI (-1) rfl)) rfl (nkQ k16 (.ret (.blr (.blr (.thr (.thr (.blr (.thr (rt1 (.inl rfl) Tryz.results87 rfl (.tmp (Has.t' rfl ?_) .nil))))))))))
    all_goals (rw [ek] at hc4; exact isI_eq (cmp_lt (by omega) he hc4))
   ·refine .sq fun k17 => .dr (.m [] rfl (.m [] rfl (.so [38,39] rfl (.ixP sl31 ty50 (.t rfl) (.t rfl) (by omega) (getD_some (d := 0) (by omega))) (.so [40] rfl (.loadP1 (.t rfl) ty50) (.m [] rfl (.m [] rfl (.so [42,43] rfl (.ixP sl31 ty50 (.t rfl) (.t rfl) (by omega) (getD_some (d := 0) (by omega))) (.so [44] rfl (.loadP1 (.t rfl) ty50) (.fn (n := 8) mixed (.w [0,1,5,23,24,28,29,30,31,32,33,34,35,36,27,38,39,40,41,42,43,44,45] rfl (st (.gtU (.t rfl) (.t rfl)) rfl (stM rfl (nkQ k17 (.cd rfl (fun hc5 => ?_) (fun hc5 => ?_)))))))))))))))
    ·refine .sr fun k18 => st (.as (.cI 1 rfl)) rfl (nkQ k18 (.ret (.blr (.blr (.thr (.thr (.blr (.thr (rt1 (.inl rfl) Tryz.results87 rfl (.tmp (Has.t' rfl ?_) .nil))))))))))
     all_goals (rw [ek] at hc5; exact isI_eq (cmp_gt (by omega) he hc5))
    ·refine .skip (.bln (.bln (.nk k14 (.region (stM rfl (st (.subI (.t rfl) (.cI 1 rfl) (by omega) (by omega)) rfl (stM rfl (nl (.thn (hK11 (⟨k - 1, by omega, cmp_step (by omega) he (by rw [ek] at hc4 hc5; omega)⟩) _ _ ?_ (Cv.mem (.c 5 rfl ?_ (.l [0,1] rfl)) ?_)))))))))))
     ·show k - 1 < k; omega
     ·exact isI_eq (by show _ = ((k - 1 : Nat) : Int) - 1; omega)
     ·rfl
  ·refine .exit (.the (.the (.blh (.nk k9 (.cv (Cv.wk .nil) (.sr fun k19 => st (.as (.cI 0 rfl)) rfl (nkQ k19 (.ret (rt1 (.inl rfl) Tryz.results87 rfl (.tmp (Has.t' rfl ?_) .nil))))))))))
   all_goals (exact isI_eq (cmp_eq he (by omega)))
theorem nat_Add {xs ys : List Nat} (hx : (List.length (words (val xs))) < 4294967296) (hy : (List.length (words (val ys))) < 4294967296) : Ctr Tryz.prog 82 [isWords xs, isWords ys] (isWords (words (val xs + val ys))) := by
 refine Ctr.i Tryz.func82 rfl Tryz.ntmps82 fun w0 F0 => .w [0,1] rfl (.fact (Has.lenLt (Has.t (t := 0) rfl)) fun lt0 => .fact (Has.okW (Has.t (t := 0) rfl)) fun ok0 => .fact (Has.lenLt (Has.t (t := 1) rfl)) fun lt1 => .fact (Has.okW (Has.t (t := 1) rfl)) fun ok1 => .sr fun k1 => st (.as (.cW (f := isU))) rfl (nkQ k1 (.sr fun k2 => stM rfl (st (.call (nat_trim) (.cons (.t rfl) .nil)) rfl (stM rfl (st (.call (nat_trim) (.cons (.t rfl) .nil)) rfl (stM rfl (stM rfl (nkQ k2 (.cutF [4] (fun (z : { z : Nat × Nat // z.1 + z.2 = val xs + val ys ∧ (List.length (words z.2)) ≤ (List.length (words z.1)) ∧ (List.length (words z.1)) < 4294967296 }) => match z with | ⟨(p, q), hI⟩ => [(0, isWords (words p)), (1, isWords (words q))]) (fun M => fun (z : { z : Nat × Nat // z.1 + z.2 = val xs + val ys ∧ (List.length (words z.2)) ≤ (List.length (words z.1)) ∧ (List.length (words z.1)) < 4294967296 }) => match z with | ⟨(p, q), hI⟩ => M) (fun K3 hK3 => ?_) ?_))))))))))
 ·refine .sr fun k4 => stM rfl (st (.len sl31 (.t rfl)) rfl (stM rfl (st (.len sl31 (.t rfl)) rfl (st (.ltI (.t rfl) (.t rfl)) rfl (nkQ k4 (.w [0,1,4,17] rfl (.cd rfl (fun hc1 => ?_) (fun hc1 => ?_))))))))
  ·refine .region (stM rfl (stM rfl (stM rfl (stM rfl (nl (.thn ?_))))))
   refine hK3 (⟨(val ys, val xs), Nat.add_comm _ _, by simp only []; omega, hy⟩) _ _ (Cv.mem (.c 0 rfl ?_ (.c 1 rfl ?_ (.l [4] rfl))) ?_)
   ·rfl
   ·rfl
   ·rfl
  ·refine .skip (.thn ?_)
   refine hK3 (⟨(val xs, val ys), rfl, by simp only []; omega, hx⟩) _ _ (Cv.mem (.c 0 rfl ?_ (.c 1 rfl ?_ (.l [4] rfl))) ?_)
   ·rfl
   ·rfl
   ·rfl
 rintro ⟨⟨p, q⟩, hI1, hI2, hI3⟩
 refine .w [0,1,4] rfl ?_
 simp only [] at hI1 hI2 hI3
 refine .sr fun k5 => stM rfl (st (.len sl31 (.t rfl)) rfl (st (.addI (.t rfl) (.cI 1 rfl) (by omega) (by omega)) rfl (.make (f := isU) (u := 0) (n := (List.length (words p)) + 1) (c := (List.length (words p)) + 1) sl31 ty50 zero50 (fun _ _ => ⟨⟨rfl, by decide⟩, trivial⟩) by50 (Has.t' rfl rfl) (Has.t' rfl rfl) (by omega) rfl fun b1 => stM rfl (nkQ k5 (.sr fun k6 => st (.as (.cU 0 rfl)) rfl (nkQ k6 (.sq fun k7 => .sr fun k8 => stM rfl (st (.len sl31 (.t rfl)) rfl (st (.mv (.cI 0 rfl)) rfl (nkQ k8 (.w [4,0,1,5,6,25,26] rfl (.block (.loopF [4,0,1,5,25] (fun (z : { i : Nat // i ≤ (List.length (words p)) }) => match z with | ⟨i, hI⟩ => [(26, isI (i : Int)), (6, isU (car p q i))]) (fun M => fun (z : { i : Nat // i ≤ (List.length (words p)) }) => match z with | ⟨i, hI⟩ => [(some b1, cellM (List.map isU (wpart (p + q) i ((List.length (words p)) + 1))))]) (fun (z : { i : Nat // i ≤ (List.length (words p)) }) => match z with | ⟨i, hI⟩ => (List.length (words p)) - i) (⟨0, Nat.zero_le _⟩) (Cv.mem (.c 26 rfl ?_ (.c 6 rfl ?_ (.l [4,0,1,5,25] rfl))) ?_) ?_)))))))))))))
 ·rfl
 ·exact isU_eq (car_zero _ _)
 ·exact memL_eq (wpart_zero _ _)
 rintro ⟨i, hI⟩ K9 hK9
 refine .w [26,6,4,0,1,5,25] rfl (.memEq (M' := [(some b1, cellM (List.map isU (wpart (p + q) i ((List.length (words p)) + 1))))]) rfl ?_)
 have wl : (wpart (p + q) i ((List.length (words p)) + 1)).length = (List.length (words p)) + 1 := wpart_len (by omega)
 refine .sr fun k10 => st (.ltI (.t rfl) (.t rfl)) rfl (nkQ k10 (.sq fun k11 => .cd rfl (fun hc2 => ?_) (fun hc2 => ?_)))
 ·refine .skip (.nk k11 (.sq fun k12 => .block (.sr fun k13 => stM rfl (stM rfl (nkQ k13 (.sr fun k14 => st (.as (.cU 0 rfl)) rfl (nkQ k14 (.cutF [4,0,1,5,25,26,6,27,28,7] (fun (_ : Unit) => [(8, isU (dig q i))]) (fun M => fun (_ : Unit) => M) (fun K15 hK15 => ?_) ?_))))))))
  ·refine .sr fun k16 => stM rfl (stM rfl (st (.len sl31 (.t rfl)) rfl (st (.ltI (.t rfl) (.t rfl)) rfl (nkQ k16 (.cd rfl (fun hc3 => ?_) (fun hc3 => ?_))))))
   ·refine .region (stM rfl (stM rfl (st (.ixP sl31 ty50 (.t rfl) (.t rfl) (by omega) (getD_some (d := 0) (by omega))) rfl (st (.loadP1 (.t rfl) ty50) rfl (stM rfl (nl (.thn (hK15 (()) _ _ (Cv.mem (.c 8 rfl ?_ (.l [4,0,1,5,25,26,6,27,28,7] rfl)) ?_)))))))))
    ·first | exact isU_eq (getD_words _ _) | exact isU_eq (dig_zero (by omega)).symm
    ·rfl
   ·refine .skip (.thn (hK15 (()) _ _ (Cv.mem (.c 8 rfl ?_ (.l [4,0,1,5,25,26,6,27,28,7] rfl)) ?_)))
    ·first | exact isU_eq (getD_words _ _) | exact isU_eq (dig_zero (by omega)).symm
    ·rfl
  rintro _
  refine .w [8,4,0,1,5,25,26,6,27,28,7] rfl (.region (stM rfl (stM rfl (stM rfl (stM rfl (st (.ixP sl31 ty50 (.t rfl) (.t rfl) (by omega) (getD_some (d := 0) (by omega))) rfl (st (.eq (.loadP1 (.t rfl) ty50) (isU_eq (getD_words _ i))) rfl (stM rfl (stM rfl (st (.add64 ext_add64 (.t rfl) (.t rfl) (.t rfl) (by exact car_le _ _ _) ⟨(by exact dig_lt _ _), (by exact dig_lt _ _)⟩) rfl (stM rfl (st (.ext (.t rfl) rfl) rfl (st (.ext (.t rfl) rfl) rfl (st (.eq (.ixWin sl31 ty50 (.t rfl) (.t rfl) (by omega)) (isPtr_eq (by exact ixo0))) rfl (.storeM (.t rfl) (.t rfl) (i := 0) rfl ty50 (by omega) (M' := [(_, _)]) rfl (stM rfl (nl (.bln (.nk k12 (.region (st (.addI (.t rfl) (.cI 1 rfl) (by omega) (by omega)) rfl (stM rfl (nl (.thn (hK9 (⟨i + 1, by omega⟩) _ _ ?_ (Cv.mem (.c 26 rfl ?_ (.c 6 rfl ?_ (.l [4,0,1,5,25] rfl))) ?_))))))))))))))))))))))))))
  ·show (List.length (words p)) - (i + 1) < (List.length (words p)) - i; omega
  ·rfl
  ·exact isU_eq (add_car _ _ _)
  ·exact memL_eq (wpart_set (by omega) (add_dig _ _ _))
 ·refine .exit (.the (.the (.blh (.nk k7 (.sr fun k17 => stM rfl (stM rfl (st (.len sl31 (.t rfl)) rfl (stM rfl (st (.eq (.ixWin sl31 ty50 (.t rfl) (.t rfl) (by omega)) (isPtr_eq (by exact ixo0))) rfl (.storeM (.t rfl) (.t rfl) (i := 0) rfl ty50 (by omega) (M' := [(_, _)]) rfl (nkQ k17 (.w [4,5] rfl (.sq fun k18 => .cv (Cv.freeze' (t := 5) (i := 0) (ys := wordsN ((List.length (words p)) + 1) (p + q)) rfl rfl rfl (by simp; omega) (fz_wpart (by omega) (by omega) (add_top (lt_pow_of (by omega)) (lt_pow_of (by omega))))) ?_)))))))))))))
  refine .memEq (M' := []) rfl (.w [4,5] rfl (.region (stM rfl (st (.call (nat_normal) (.cons (.t rfl) .nil)) rfl (stM rfl (nkQ k18 (.ret (rt1 (.inl rfl) Tryz.results82 rfl (.tmp (Has.t' rfl ?_) .nil)))))))))
  all_goals (exact SlM_eq (by rw [words_val_wordsN (add_lt (nw_lt p) (lt_pow_of hI2)), hI1]))
theorem nat_Sub {xs ys : List Nat} (hx : (List.length (words (val xs))) < 4294967296) : Ctr Tryz.prog 83 [isWords xs, isWords ys] (isTup [isWords (words (val xs - val ys)), isB (decide (val ys ≤ val xs))]) := by
 refine Ctr.i Tryz.func83 rfl Tryz.ntmps83 fun w0 F0 => .w [0,1] rfl (.fact (Has.lenLt (Has.t (t := 0) rfl)) fun lt0 => .fact (Has.okW (Has.t (t := 0) rfl)) fun ok0 => .fact (Has.lenLt (Has.t (t := 1) rfl)) fun lt1 => .fact (Has.okW (Has.t (t := 1) rfl)) fun ok1 => .sr fun k1 => st (.as (.cW (f := isU))) rfl (st (.as (.cB false)) rfl (nkQ k1 (.sq fun k2 => .sr fun k3 => stM rfl (stM rfl (st (.call (nat_Cmp) (.cons (.t rfl) (.cons (.t rfl) .nil))) rfl (st (.ltI (.t rfl) (.cI 0 rfl)) rfl (nkQ k3 (.cd rfl (fun hc1 => ?_) (fun hc1 => ?_))))))))))
 ·have hlt := cmpN_neg.1 hc1
  refine .sr fun k4 => st (.as (.cW (f := isU))) rfl (st (.as (.cB false)) rfl (nkQ k4 (.ret (.thr (rtN (.inl rfl) Tryz.results83 rfl rfl (.tmp (Has.t' rfl ?_) (.tmp (Has.t' rfl ?_) .nil)))))))
  ·exact SlM_eq (by rw [Nat.sub_eq_zero_of_le (Nat.le_of_lt hlt), words_zero])
  ·exact isB_eq (by simp; omega)
 ·have hle : val ys ≤ val xs := Nat.le_of_not_lt (fun h => by have := cmpN_neg.2 h; omega)
  have hnw := nw_mono hle
  refine .skip (.nk k2 (.sr fun k5 => stM rfl (st (.call (nat_trim) (.cons (.t rfl) .nil)) rfl (stM rfl (st (.call (nat_trim) (.cons (.t rfl) .nil)) rfl (stM rfl (stM rfl (nkQ k5 (.w [0,1,4,5] rfl (.sr fun k6 => stM rfl (st (.len sl31 (.t rfl)) rfl (.make (f := isU) (u := 0) (n := (List.length (words (val xs)))) (c := (List.length (words (val xs)))) sl31 ty50 zero50 (fun _ _ => ⟨⟨rfl, by decide⟩, trivial⟩) by50 (Has.t' rfl rfl) (Has.t' rfl rfl) (by omega) rfl fun b1 => stM rfl (nkQ k6 (.sr fun k7 => st (.as (.cU 0 rfl)) rfl (nkQ k7 (.sq fun k8 => .sr fun k9 => stM rfl (st (.len sl31 (.t rfl)) rfl (st (.mv (.cI 0 rfl)) rfl (nkQ k9 (.block (.loopF [0,1,4,5,6,22] (fun (z : { i : Nat // i ≤ (List.length (words (val xs))) }) => match z with | ⟨i, hI⟩ => [(23, isI (i : Int)), (7, isU (bor (val xs) (val ys) i))]) (fun M => fun (z : { i : Nat // i ≤ (List.length (words (val xs))) }) => match z with | ⟨i, hI⟩ => [(some b1, cellM (List.map isU (wpart (val xs - val ys) i ((List.length (words (val xs)))))))]) (fun (z : { i : Nat // i ≤ (List.length (words (val xs))) }) => match z with | ⟨i, hI⟩ => (List.length (words (val xs))) - i) (⟨0, Nat.zero_le _⟩) (Cv.mem (.c 23 rfl ?_ (.c 7 rfl ?_ (.l [0,1,4,5,6,22] rfl))) ?_) ?_)))))))))))))))))))))
  ·rfl
  ·exact isU_eq (bor_zero _ _)
  ·exact memL_eq (wpart_zero _ _)
  rintro ⟨i, hI⟩ K10 hK10
  refine .w [23,7,0,1,4,5,6,22] rfl (.memEq (M' := [(some b1, cellM (List.map isU (wpart (val xs - val ys) i ((List.length (words (val xs)))))))]) rfl ?_)
  have wl : (wpart (val xs - val ys) i ((List.length (words (val xs))))).length = (List.length (words (val xs))) := wpart_len (by omega)
  refine .sr fun k11 => st (.ltI (.t rfl) (.t rfl)) rfl (nkQ k11 (.sq fun k12 => .cd rfl (fun hc2 => ?_) (fun hc2 => ?_)))
  ·refine .skip (.nk k12 (.sq fun k13 => .block (.sr fun k14 => stM rfl (stM rfl (nkQ k14 (.sr fun k15 => st (.as (.cU 0 rfl)) rfl (nkQ k15 (.cutF [0,1,4,5,6,22,23,7,24,25,8] (fun (_ : Unit) => [(9, isU (dig (val ys) i))]) (fun M => fun (_ : Unit) => M) (fun K16 hK16 => ?_) ?_))))))))
   ·refine .sr fun k17 => stM rfl (stM rfl (st (.len sl31 (.t rfl)) rfl (st (.ltI (.t rfl) (.t rfl)) rfl (nkQ k17 (.cd rfl (fun hc3 => ?_) (fun hc3 => ?_))))))
    ·refine .region (stM rfl (stM rfl (st (.ixP sl31 ty50 (.t rfl) (.t rfl) (by omega) (getD_some (d := 0) (by omega))) rfl (st (.loadP1 (.t rfl) ty50) rfl (stM rfl (nl (.thn (hK16 (()) _ _ (Cv.mem (.c 9 rfl ?_ (.l [0,1,4,5,6,22,23,7,24,25,8] rfl)) ?_)))))))))
     ·first | exact isU_eq (getD_words _ _) | exact isU_eq (dig_zero (by omega)).symm
     ·rfl
    ·refine .skip (.thn (hK16 (()) _ _ (Cv.mem (.c 9 rfl ?_ (.l [0,1,4,5,6,22,23,7,24,25,8] rfl)) ?_)))
     ·first | exact isU_eq (getD_words _ _) | exact isU_eq (dig_zero (by omega)).symm
     ·rfl
   rintro _
   refine .w [9,0,1,4,5,6,22,23,7,24,25,8] rfl (.region (stM rfl (stM rfl (stM rfl (stM rfl (st (.ixP sl31 ty50 (.t rfl) (.t rfl) (by omega) (getD_some (d := 0) (by omega))) rfl (st (.eq (.loadP1 (.t rfl) ty50) (isU_eq (getD_words _ i))) rfl (stM rfl (stM rfl (st (.sub64 ext_sub64 (.t rfl) (.t rfl) (.t rfl) (by exact bor_le _ _ _) ⟨(by exact dig_lt _ _), (by exact dig_lt _ _)⟩) rfl (stM rfl (st (.ext (.t rfl) rfl) rfl (st (.ext (.t rfl) rfl) rfl (st (.eq (.ixWin sl31 ty50 (.t rfl) (.t rfl) (by omega)) (isPtr_eq (by exact ixo0))) rfl (.storeM (.t rfl) (.t rfl) (i := 0) rfl ty50 (by omega) (M' := [(_, _)]) rfl (stM rfl (nl (.bln (.nk k13 (.region (st (.addI (.t rfl) (.cI 1 rfl) (by omega) (by omega)) rfl (stM rfl (nl (.thn (hK10 (⟨i + 1, by omega⟩) _ _ ?_ (Cv.mem (.c 23 rfl ?_ (.c 7 rfl ?_ (.l [0,1,4,5,6,22] rfl))) ?_))))))))))))))))))))))))))
   ·show (List.length (words (val xs))) - (i + 1) < (List.length (words (val xs))) - i; omega
   ·rfl
   ·exact isU_eq (bor_succ _ _ _)
   ·exact memL_eq (wpart_set (by omega) (sub_dig hle _))
  ·refine .exit (.the (.the (.blh (.nk k8 (.w [4,5,6] rfl (.sq fun k18 => .cv (Cv.freeze' (t := 6) (i := 0) (ys := wordsN ((List.length (words (val xs)))) (val xs - val ys)) rfl rfl rfl (by simp; omega) (fz_wpart' (by omega))) ?_))))))
   refine .memEq (M' := []) rfl (.w [4,5,6] rfl (.region (stM rfl (st (.call (nat_normal) (.cons (.t rfl) .nil)) rfl (stM rfl (st (.as (.cB true)) rfl (nkQ k18 (.ret (rtN (.inl rfl) Tryz.results83 rfl rfl (.tmp (Has.t' rfl ?_) (.tmp (Has.t' rfl ?_) .nil)))))))))))
   ·exact SlM_eq (by rw [words_val_wordsN (sub_lt' (nw_lt _))])
   ·exact isB_eq (by simp; omega)
set_option maxHeartbeats 2000000 in
theorem nat_row {N A x o n c m : Nat} (h1 : (List.length (words A)) + 1 ≤ n) (h2 : o + n ≤ m) (h3 : N / W ^ o < W ^ (List.length (words A))) : CtrM Tryz.prog 112 (fun b0 => [isWin b0 o n c, isWords (words A), isU x]) (cellM (List.map isU (wordsN m N))) (cellM (List.map isU (wordsN m (N + W ^ o * (A * x))))) (fun b0 => isTup []) := by
 refine CtrM.intro Tryz.func112 rfl (by kernel_rfl) Tryz.ntmps112 (fun _ => rfl) fun w0 F0 b0 => .w [0,1,2] rfl (.fact (Has.lenLt (Has.t (t := 0) rfl)) fun lt0 => .fact (Has.winLe (Has.t (t := 0) rfl)) fun lw0 => .fact (Has.lenLt (Has.t (t := 1) rfl)) fun lt1 => .fact (Has.okW (Has.t (t := 1) rfl)) fun ok1 => .fact (Has.ltU (Has.t (t := 2) rfl)) fun lt2 => .sr fun k1 => st (.as (.cU 0 rfl)) rfl (nkQ k1 (.sq fun k2 => .sr fun k3 => stM rfl (st (.len sl31 (.t rfl)) rfl (st (.mv (.cI 0 rfl)) rfl (nkQ k3 (.block (.loopF [0,1,2,12,13] (fun (z : { i : Nat // i ≤ (List.length (words A)) }) => match z with | ⟨i, hI⟩ => [(14, isI (i : Int)), (6, isU (mcar (N / W ^ o) A x i))]) (fun M => fun (z : { i : Nat // i ≤ (List.length (words A)) }) => match z with | ⟨i, hI⟩ => [(some b0, cellM (List.map isU (mix (o + i) (N + W ^ o * (A * x)) N m)))]) (fun (z : { i : Nat // i ≤ (List.length (words A)) }) => match z with | ⟨i, hI⟩ => (List.length (words A)) - i) (⟨0, Nat.zero_le _⟩) (Cv.mem (.c 14 rfl ?_ (.c 6 rfl ?_ (.l [0,1,2,12,13] rfl))) ?_) ?_))))))))
 ·rfl
 ·exact isU_eq (mcar_zero _ _ _)
 ·exact memL_eq (mix_start (by omega) (shifted_mod _ _ _))
 rintro ⟨i, hI⟩ K4 hK4
 refine .w [14,6,0,1,2,12,13] rfl (.memEq (M' := [(some b0, cellM (List.map isU (mix (o + i) (N + W ^ o * (A * x)) N m)))]) rfl ?_)
 have wl : (mix (o + i) (N + W ^ o * (A * x)) N m).length = m := mix_len (by omega)
 have hrow := row_word lt2 (dig_lt A i) (dig_lt (N / W ^ o) i) (Nat.lt_of_le_of_lt (mcar_le (N / W ^ o) A x i) lt2) (dig_lt _ _) (mul_step_eq (N / W ^ o) A x i)
 have hcl := Nat.lt_of_le_of_lt (mcar_le (N / W ^ o) A x i) lt2
 refine .sr fun k5 => st (.ltI (.t rfl) (.t rfl)) rfl (nkQ k5 (.sq fun k6 => .cd rfl (fun hc1 => ?_) (fun hc1 => ?_)))
 ·refine .skip (.nk k6 (.sq fun k7 => .block (.sr fun k8 => stM rfl (st (.ixP sl31 ty50 (.t rfl) (.t rfl) (by omega) (getD_some (d := 0) (by omega))) rfl (st (.eq (.loadP1 (.t rfl) ty50) (isU_eq (getD_words _ i))) rfl (stM rfl (stM rfl (nkQ k8 (.sr fun k9 => stM rfl (stM rfl (st (.call (bits_Mul64) (.cons (.t rfl) (.cons (.t rfl) .nil))) rfl (stM rfl (st (.ext (.t rfl) rfl) rfl (st (.ext (.t rfl) rfl) rfl (stM rfl (stM rfl (nkQ k9 (.sr fun k10 => st (.as (.cU 0 rfl)) rfl (nkQ k10 (.sr fun k11 => stM rfl (stM rfl (stM rfl (st (.eq (.ixWin sl31 ty50 (.t rfl) (.t rfl) (by omega)) (isPtr_eq (by exact ixo1))) rfl (st (.eq (.load1 (.t rfl) (i := 0) rfl ty50 (map_some (getD_some (d := 0) (by omega)))) (isU_eq (rowGet (by omega)))) rfl (st (.add64 ext_add64 (.t rfl) (.t rfl) (.cU 0 rfl) (by omega) ⟨(by omega), (by exact dig_lt _ _)⟩) rfl (stM rfl (st (.ext (.t rfl) rfl) rfl (st (.ext (.t rfl) rfl) rfl (stM rfl (stM rfl ?_))))))))))))))))))))))))))))))
  refine nkQ k11 (.sr fun k12 => stM rfl (stM rfl (st (.addU' (.t rfl) (.t rfl) (by omega)) rfl (stM rfl (nkQ k12 (.sr fun k13 => stM rfl (stM rfl (st (.add64 ext_add64 (.t rfl) (.t rfl) (.cU 0 rfl) (by omega) ⟨(by omega), (by omega)⟩) rfl (stM rfl (st (.ext (.t rfl) rfl) rfl (st (.ext (.t rfl) rfl) rfl (stM rfl (stM rfl (nkQ k13 (.region (stM rfl (stM rfl (stM rfl (stM rfl (stM rfl (st (.addU' (.t rfl) (.t rfl) (by omega)) rfl (st (.eq (.ixWin sl31 ty50 (.t rfl) (.t rfl) (by omega)) (isPtr_eq (by exact ixo1))) rfl (.storeM (.t rfl) (.t rfl) (i := 0) rfl ty50 (by omega) (M' := [(_, _)]) rfl (stM rfl (nl (.bln (.nk k7 (.region (st (.addI (.t rfl) (.cI 1 rfl) (by omega) (by omega)) rfl (stM rfl (nl (.thn ?_))))))))))))))))))))))))))))))))
  refine hK4 (⟨i + 1, by omega⟩) _ _ ?_ (Cv.mem (.c 14 rfl ?_ (.c 6 rfl ?_ (.l [0,1,2,12,13] rfl))) ?_)
  ·show (List.length (words A)) - (i + 1) < (List.length (words A)) - i; omega
  ·rfl
  ·exact isU_eq hrow.2.1
  ·exact memL_eq (rowPut (by omega) hrow.1)
 ·refine .exit (.the (.the (.blh (.nk k2 (.w [0,1,6] rfl (.region (stM rfl (stM rfl (st (.len sl31 (.t rfl)) rfl (stM rfl (st (.eq (.ixWin sl31 ty50 (.t rfl) (.t rfl) (by omega)) (isPtr_eq (by exact ixo1))) rfl (.storeM (.t rfl) (.t rfl) (i := 0) rfl ty50 (by omega) (M' := [(_, _)]) rfl (nl (rtM0 (.inr rfl) Tryz.results112 rfl (i := 0) ?_))))))))))))))
  all_goals (obtain rfl : i = (List.length (words A)) := (by omega); exact memU_eq (rowEnd rfl (by omega) h3 (nw_lt A) lt2))
theorem nat_Mul {xs ys : List Nat} (hx : (List.length (words (val xs))) + (List.length (words (val ys))) < 4294967296) : Ctr Tryz.prog 98 [isWords xs, isWords ys] (isWords (words (val xs * val ys))) := by
 refine Ctr.i Tryz.func98 rfl Tryz.ntmps98 fun w0 F0 => .w [0,1] rfl (.fact (Has.lenLt (Has.t (t := 0) rfl)) fun lt0 => .fact (Has.okW (Has.t (t := 0) rfl)) fun ok0 => .fact (Has.lenLt (Has.t (t := 1) rfl)) fun lt1 => .fact (Has.okW (Has.t (t := 1) rfl)) fun ok1 => .sr fun k1 => st (.as (.cW (f := isU))) rfl (nkQ k1 (.sr fun k2 => stM rfl (st (.call (nat_trim) (.cons (.t rfl) .nil)) rfl (stM rfl (st (.call (nat_trim) (.cons (.t rfl) .nil)) rfl (stM rfl (stM rfl (nkQ k2 (.sr fun k3 => stM rfl (st (.len sl31 (.t rfl)) rfl (stM rfl (st (.len sl31 (.t rfl)) rfl (st (.addI (.t rfl) (.t rfl) (by omega) (by omega)) rfl (st (.addI (.t rfl) (.cI 1 rfl) (by omega) (by omega)) rfl (.make (f := isU) (u := 0) (n := (List.length (words (val xs))) + (List.length (words (val ys))) + 1) (c := (List.length (words (val xs))) + (List.length (words (val ys))) + 1) sl31 ty50 zero50 (fun _ _ => ⟨⟨rfl, by decide⟩, trivial⟩) by50 (Has.t' rfl rfl) (Has.t' rfl rfl) (by omega) rfl fun b1 => stM rfl (nkQ k3 (.w [0,1,4,5] rfl (.sq fun k4 => .sr fun k5 => stM rfl (st (.len sl31 (.t rfl)) rfl (st (.mv (.cI 0 rfl)) rfl ?_)))))))))))))))))))))
 refine nkQ k5 (.block (.loopF [0,4,5,19,20] (fun (z : { i : Nat // i ≤ (List.length (words (val ys))) }) => match z with | ⟨i, hI⟩ => [(21, isI (i : Int))]) (fun M => fun (z : { i : Nat // i ≤ (List.length (words (val ys))) }) => match z with | ⟨i, hI⟩ => [(some b1, cellM (List.map isU (wordsN ((List.length (words (val xs))) + (List.length (words (val ys))) + 1) (val xs * (val ys % W ^ i)))))]) (fun (z : { i : Nat // i ≤ (List.length (words (val ys))) }) => match z with | ⟨i, hI⟩ => (List.length (words (val ys))) - i) (⟨0, Nat.zero_le _⟩) (Cv.mem (.c 21 rfl ?_ (.l [0,4,5,19,20] rfl)) ?_) ?_))
 ·rfl
 ·exact memL_eq (mulStart' _ _ _)
 rintro ⟨i, hI⟩ K6 hK6
 refine .w [21,0,4,5,19,20] rfl (.memEq (M' := [(some b1, cellM (List.map isU (wordsN ((List.length (words (val xs))) + (List.length (words (val ys))) + 1) (val xs * (val ys % W ^ i)))))]) rfl ?_)
 have wl : (wordsN ((List.length (words (val xs))) + (List.length (words (val ys))) + 1) (val xs * (val ys % W ^ i))).length = (List.length (words (val xs))) + (List.length (words (val ys))) + 1 := wordsN_len _ _
 refine .sr fun k7 => st (.ltI (.t rfl) (.t rfl)) rfl (nkQ k7 (.sq fun k8 => .cd rfl (fun hc1 => ?_) (fun hc1 => ?_)))
 ·refine .skip (.nk k8 (.sq fun k9 => .block (.sr fun k10 => stM rfl (st (.ixP sl31 ty50 (.t rfl) (.t rfl) (by omega) (getD_some (d := 0) (by omega))) rfl (st (.eq (.loadP1 (.t rfl) ty50) (isU_eq (getD_words _ i))) rfl (stM rfl (stM rfl (nkQ k10 (.region (stM rfl (stM rfl (st (.eq (.slLWin sl31 ty50 (.t rfl) (.t rfl) ⟨by omega, by omega, by omega⟩) (isWin_eq (by exact ixo0) rfl rfl)) rfl (stM rfl (stM rfl (.callM (nat_row (m := (List.length (words (val xs))) + (List.length (words (val ys))) + 1) (N := val xs * (val ys % W ^ i)) (by simp only [Int.toNat_natCast]; omega) (by simp only [Int.toNat_natCast]; omega) (mulDiv (nw_lt _))) (i := 0) rfl (.cons (.t rfl) (.cons (.t rfl) (.cons (.t rfl) .nil))) rfl (M' := [(_, _)]) rfl ?_)))))))))))))))
  refine nl (.bln (.nk k9 (.region (st (.addI (.t rfl) (.cI 1 rfl) (by omega) (by omega)) rfl (stM rfl (nl (.thn (hK6 (⟨i + 1, by omega⟩) _ _ ?_ (Cv.mem (.c 21 rfl ?_ (.l [0,4,5,19,20] rfl)) ?_)))))))))
  ·show (List.length (words (val ys))) - (i + 1) < (List.length (words (val ys))) - i; omega
  ·rfl
  ·exact memL_eq (by rw [mod_pow_succ_mul])
 ·refine .exit (.the (.the (.blh (.nk k4 (.w [4,5] rfl (.sq fun k11 => .cv (Cv.freeze' (t := 5) (i := 0) (ys := wordsN ((List.length (words (val xs))) + (List.length (words (val ys))) + 1) (val xs * (val ys % W ^ i))) rfl rfl rfl (by simp; omega) (freeze_all (wordsN_len _ _).symm)) ?_))))))
  refine .memEq (M' := []) rfl (.w [4,5] rfl (.region (stM rfl (st (.call (nat_normal) (.cons (.t rfl) .nil)) rfl (stM rfl (nkQ k11 (.ret (rt1 (.inl rfl) Tryz.results98 rfl (.tmp (Has.t' rfl ?_) .nil)))))))))
  all_goals (obtain rfl : i = (List.length (words (val ys))) := (by omega); exact SlM_eq (mulEnd rfl))
theorem nat_Shl {xs : List Nat} {k : Nat} (hk : k ≤ 1048576) (hx : (List.length (words (val xs))) < 4294900000) : Ctr Tryz.prog 108 [isWords xs, isI (k : Int)] (isTup [isWords (words (val xs * 2 ^ k)), isB true]) := by
 refine Ctr.i Tryz.func108 rfl Tryz.ntmps108 fun w0 F0 => .w [0,1] rfl (.fact (Has.lenLt (Has.t (t := 0) rfl)) fun lt0 => .fact (Has.okW (Has.t (t := 0) rfl)) fun ok0 => .fact (Has.rngI (Has.t (t := 1) rfl)) fun lt1 => ?_)
 have e1 : ((k : Int) / 64) = ((k / 64 : Nat) : Int) := by omega
 have e2 : ((k : Int) % 64).toNat = k % 64 := by omega
 refine .sr fun k1 => st (.as (.cW (f := isU))) rfl (st (.as (.cB false)) rfl (nkQ k1 (.sq fun k2 => .sr fun k3 => stM rfl (st (.ltI (.t rfl) (.cI 0 rfl)) rfl (stM rfl (stF rfl rfl (fun hg => .mv (.t rfl)) rfl (stF rfl rfl (fun hg => .gtI (Has.g rfl hg) (.cI 1048576 rfl)) rfl (st (.pickOr (.t rfl) (fun h => Has.g rfl (ng h))) rfl (nkQ k3 (.w [0,1,4,5,16] rfl (.cd rfl (fun hc1 => ?_) (fun hc1 => ?_))))))))))))
 ·exfalso; first | omega | contradiction | (revert hc1; simp)
 ·refine .skip (.nk k2 (.sr fun k4 => stM rfl (st (.call (nat_trim) (.cons (.t rfl) .nil)) rfl (stM rfl (nkQ k4 (.sr fun k5 => stM rfl (st (.eq (.quoI (.t rfl) (.cI 64 rfl) (by omega) (by omega) (by omega)) (isI_eq e1)) rfl (stM rfl (st (.remI (.t rfl) (.cI 64 rfl) (by omega) (by omega) (by omega)) rfl (st (.eq (.convIU un3 un103 (.t rfl) (by omega) (by omega)) (isU_eq e2)) rfl (stM rfl (stM rfl (nkQ k5 (.w [0,4,5,6,7] rfl (.sr fun k6 => stM rfl (st (.len sl31 (.t rfl)) rfl (stM rfl (st (.addI (.t rfl) (.t rfl) (by omega) (by omega)) rfl (st (.addI (.t rfl) (.cI 1 rfl) (by omega) (by omega)) rfl (.make (f := isU) (u := 0) (n := (List.length (words (val xs))) + k / 64 + 1) (c := (List.length (words (val xs))) + k / 64 + 1) sl31 ty50 zero50 (fun _ _ => ⟨⟨rfl, by decide⟩, trivial⟩) by50 (Has.t' rfl rfl) (Has.t' rfl rfl) (by omega) rfl fun b1 => stM rfl (nkQ k6 (.w [0,4,5,6,7,8] rfl (.sq fun k7 => .sr fun k8 => stM rfl (st (.len sl31 (.t rfl)) rfl (st (.mv (.cI 0 rfl)) rfl (nkQ k8 ?_))))))))))))))))))))))))))
  refine .block (.loopF [4,5,6,7,8,30,31] (fun (z : { i : Nat // i ≤ (List.length (words (val xs))) }) => match z with | ⟨i, hI⟩ => [(32, isI (i : Int))]) (fun M => fun (z : { i : Nat // i ≤ (List.length (words (val xs))) }) => match z with | ⟨i, hI⟩ => [(some b1, cellM (List.map isU (wordsN ((List.length (words (val xs))) + k / 64 + 1) (val xs % W ^ i * 2 ^ k))))]) (fun (z : { i : Nat // i ≤ (List.length (words (val xs))) }) => match z with | ⟨i, hI⟩ => (List.length (words (val xs))) - i) (⟨0, Nat.zero_le _⟩) (Cv.mem (.c 32 rfl ?_ (.l [4,5,6,7,8,30,31] rfl)) ?_) ?_)
  ·rfl
  ·exact memL_eq (shlStart _ _ _)
  rintro ⟨i, hI⟩ K9 hK9
  refine .w [32,4,5,6,7,8,30,31] rfl (.memEq (M' := [(some b1, cellM (List.map isU (wordsN ((List.length (words (val xs))) + k / 64 + 1) (val xs % W ^ i * 2 ^ k))))]) rfl ?_)
  have wl : (wordsN ((List.length (words (val xs))) + k / 64 + 1) (val xs % W ^ i * 2 ^ k)).length = (List.length (words (val xs))) + k / 64 + 1 := wordsN_len _ _
  have ek : (((k / 64 : Nat) : Int) + (i : Int)).toNat = k / 64 + i := by omega
  refine .sr fun k10 => st (.ltI (.t rfl) (.t rfl)) rfl (nkQ k10 (.sq fun k11 => .cd rfl (fun hc2 => ?_) (fun hc2 => ?_)))
  ·refine .skip (.nk k11 (.sq fun k12 => .block (.sr fun k13 => stM rfl (st (.ixP sl31 ty50 (.t rfl) (.t rfl) (by omega) (getD_some (d := 0) (by omega))) rfl (st (.eq (.loadP1 (.t rfl) ty50) (isU_eq (getD_words _ i))) rfl (stM rfl (stM rfl (nkQ k13 (.sr fun k14 => stM rfl (stM rfl (stM rfl (st (.addI (.t rfl) (.t rfl) (by omega) (by omega)) rfl (st (.eq (.ixWin sl31 ty50 (.t rfl) (.t rfl) (by omega)) (isPtr_eq (by exact ixo0))) rfl (st (.eq (.load1 (.t rfl) (i := 0) rfl ty50 (map_some (getD_some (d := 0) (by omega)))) ((show isU _ = isU (val xs % W ^ i * 2 ^ k / W ^ (k / 64 + i)) from isU_eq (by rw [ek]; exact shl_get (by omega))))) rfl ?_))))))))))))))
   refine stM rfl (stM rfl (st (.shlUU (.t rfl) (.t rfl) (by exact True.intro)) rfl (st (.orU (.t rfl) (.t rfl)) rfl (st (.eq (.ixWin sl31 ty50 (.t rfl) (.t rfl) (by omega)) (isPtr_eq (by exact ixo0))) rfl (.storeM (.t rfl) (.t rfl) (i := 0) rfl ty50 (by omega) (M' := [(_, _)]) rfl (nkQ k14 (.sr fun k15 => stM rfl (st (.gtU (.t rfl) (.cU 0 rfl)) rfl (nkQ k15 (.cd rfl (fun hc3 => ?_) (fun hc3 => ?_)))))))))))
   ·refine .region (stM rfl (stM rfl (stM rfl (st (.addI (.t rfl) (.t rfl) (by omega) (by omega)) rfl (st (.addI (.t rfl) (.cI 1 rfl) (by omega) (by omega)) rfl (stM rfl (stM rfl (st (.subU' (.cU 64 rfl) (.t rfl) (by omega) (by omega)) rfl (st (.shrUU (.t rfl) (.t rfl) (by exact dig_lt _ _)) rfl (st (.eq (.ixWin sl31 ty50 (.t rfl) (.t rfl) (by omega)) (isPtr_eq (by exact ixo0))) rfl (.storeM (.t rfl) (.t rfl) (i := 0) rfl ty50 (by simp only [Int.toNat_natCast, List.length_set, List.length_replicate]; omega) (M' := [(_, _)]) rfl ?_)))))))))))
    refine nl (.bln (.nk k12 (.region (st (.addI (.t rfl) (.cI 1 rfl) (by omega) (by omega)) rfl (stM rfl (nl (.thn (hK9 (⟨i + 1, by omega⟩) _ _ ?_ (Cv.mem (.c 32 rfl ?_ (.l [4,5,6,7,8,30,31] rfl)) ?_)))))))))
    ·show (List.length (words (val xs))) - (i + 1) < (List.length (words (val xs))) - i; omega
    ·rfl
    ·exact memL_eq (by rw [ek, shl_set1 (by omega) rfl]; exact shl_set2 (by omega) (by omega) (by omega) rfl)
   ·refine .skip (.bln (.nk k12 (.region (st (.addI (.t rfl) (.cI 1 rfl) (by omega) (by omega)) rfl (stM rfl (nl (.thn (hK9 (⟨i + 1, by omega⟩) _ _ ?_ (Cv.mem (.c 32 rfl ?_ (.l [4,5,6,7,8,30,31] rfl)) ?_)))))))))
    ·show (List.length (words (val xs))) - (i + 1) < (List.length (words (val xs))) - i; omega
    ·rfl
    ·exact memL_eq (by rw [ek, shl_set1 (by omega) rfl]; exact shl_end0 (by omega) (by omega))
  ·refine .exit (.the (.the (.blh (.nk k7 (.w [4,5,8] rfl (.sq fun k16 => .cv (Cv.freeze' (t := 8) (i := 0) (ys := wordsN ((List.length (words (val xs))) + k / 64 + 1) (val xs % W ^ i * 2 ^ k)) rfl rfl rfl (by simp; omega) (freeze_all (by rw [wl]))) ?_))))))
   refine .memEq (M' := []) rfl (.w [4,5,8] rfl (.region (stM rfl (st (.call (nat_normal) (.cons (.t rfl) .nil)) rfl (stM rfl (st (.as (.cB true)) rfl (nkQ k16 (.ret (rtN (.inl rfl) Tryz.results108 rfl rfl (.tmp (Has.t' rfl ?_) (.tmp (Has.t' rfl ?_) .nil)))))))))))
   ·obtain rfl : i = (List.length (words (val xs))) := (by omega); exact SlM_eq (shlEnd rfl)
   ·rfl
theorem nat_Shr {xs : List Nat} {k : Nat} (hk : k < 9223372036854775808) (hx : (List.length (words (val xs))) < 4294900000) : Ctr Tryz.prog 110 [isWords xs, isI (k : Int)] (isTup [isWords (words (val xs / 2 ^ k)), isB true]) := by
 refine Ctr.i Tryz.func110 rfl Tryz.ntmps110 fun w0 F0 => .w [0,1] rfl (.fact (Has.lenLt (Has.t (t := 0) rfl)) fun lt0 => .fact (Has.okW (Has.t (t := 0) rfl)) fun ok0 => .fact (Has.rngI (Has.t (t := 1) rfl)) fun lt1 => ?_)
 have e1 : ((k : Int) / 64) = ((k / 64 : Nat) : Int) := by omega
 have e2 : ((k : Int) % 64).toNat = k % 64 := by omega
 have nX := nw_div (val xs) (k / 64)
 refine .sr fun k1 => st (.as (.cW (f := isU))) rfl (st (.as (.cB false)) rfl (nkQ k1 (.sq fun k2 => .sr fun k3 => stM rfl (st (.ltI (.t rfl) (.cI 0 rfl)) rfl (nkQ k3 (.cd rfl (fun hc1 => ?_) (fun hc1 => ?_)))))))
 ·exfalso; first | omega | contradiction | (revert hc1; simp)
 ·refine .skip (.nk k2 (.sr fun k4 => stM rfl (st (.call (nat_trim) (.cons (.t rfl) .nil)) rfl (stM rfl (nkQ k4 (.sr fun k5 => stM rfl (st (.eq (.quoI (.t rfl) (.cI 64 rfl) (by omega) (by omega) (by omega)) (isI_eq e1)) rfl (stM rfl (st (.remI (.t rfl) (.cI 64 rfl) (by omega) (by omega) (by omega)) rfl (st (.eq (.convIU un3 un103 (.t rfl) (by omega) (by omega)) (isU_eq e2)) rfl (stM rfl (stM rfl (nkQ k5 (.w [0,4,5,6,7] rfl (.sq fun k6 => .sr fun k7 => stM rfl (stM rfl (st (.len sl31 (.t rfl)) rfl (st (.geI (.t rfl) (.t rfl)) rfl (nkQ k7 (.cd rfl (fun hc2 => ?_) (fun hc2 => ?_)))))))))))))))))))))
  ·refine .sr fun k8 => st (.as (.cW (f := isU))) rfl (st (.as (.cB true)) rfl (nkQ k8 (.ret (.thr (rtN (.inl rfl) Tryz.results110 rfl rfl (.tmp (Has.t' rfl ?_) (.tmp (Has.t' rfl ?_) .nil)))))))
   ·exact SlM_eq (shr_none (by omega))
   ·rfl
  ·refine .skip (.nk k6 (.sr fun k9 => stM rfl (stM rfl (st (.eq (.slLM sl31 ty50 (.t rfl) (.t rfl) (by omega)) (SlM_eq (drop_words (val xs) (k / 64)))) rfl (stM rfl (nkQ k9 (.w [0,4,5,7] rfl (.sr fun k10 => stM rfl (st (.len sl31 (.t rfl)) rfl (.make (f := isU) (u := 0) (n := (List.length (words (val xs / W ^ (k / 64))))) (c := (List.length (words (val xs / W ^ (k / 64))))) sl31 ty50 zero50 (fun _ _ => ⟨⟨rfl, by decide⟩, trivial⟩) by50 (Has.t' rfl rfl) (Has.t' rfl rfl) (by omega) rfl fun b1 => stM rfl (nkQ k10 (.sq fun k11 => .sr fun k12 => stM rfl (st (.len sl31 (.t rfl)) rfl (st (.mv (.cI 0 rfl)) rfl (nkQ k12 (.block (.loopF [0,4,5,7,8,30,31] (fun (z : { i : Nat // i ≤ (List.length (words (val xs / W ^ (k / 64)))) }) => match z with | ⟨i, hI⟩ => [(32, isI (i : Int))]) (fun M => fun (z : { i : Nat // i ≤ (List.length (words (val xs / W ^ (k / 64)))) }) => match z with | ⟨i, hI⟩ => [(some b1, cellM (List.map isU (wpart ((val xs / W ^ (k / 64)) / 2 ^ (k % 64)) i ((List.length (words (val xs / W ^ (k / 64))))))))]) (fun (z : { i : Nat // i ≤ (List.length (words (val xs / W ^ (k / 64)))) }) => match z with | ⟨i, hI⟩ => (List.length (words (val xs / W ^ (k / 64)))) - i) (⟨0, Nat.zero_le _⟩) (Cv.mem (.c 32 rfl ?_ (.l [0,4,5,7,8,30,31] rfl)) ?_) ?_)))))))))))))))))
   ·rfl
   ·exact memL_eq (wpart_zero _ _)
   rintro ⟨i, hI⟩ K13 hK13
   refine .w [32,0,4,5,7,8,30,31] rfl (.memEq (M' := [(some b1, cellM (List.map isU (wpart ((val xs / W ^ (k / 64)) / 2 ^ (k % 64)) i ((List.length (words (val xs / W ^ (k / 64))))))))]) rfl ?_)
   have wl : (wpart ((val xs / W ^ (k / 64)) / 2 ^ (k % 64)) i ((List.length (words (val xs / W ^ (k / 64)))))).length = (List.length (words (val xs / W ^ (k / 64)))) := wpart_len (by omega)
   refine .sr fun k14 => st (.ltI (.t rfl) (.t rfl)) rfl (nkQ k14 (.sq fun k15 => .cd rfl (fun hc3 => ?_) (fun hc3 => ?_)))
   ·refine .skip (.nk k15 (.sq fun k16 => .block (.sr fun k17 => stM rfl (st (.ixP sl31 ty50 (.t rfl) (.t rfl) (by omega) (getD_some (d := 0) (by omega))) rfl (st (.eq (.loadP1 (.t rfl) ty50) (isU_eq (getD_words _ i))) rfl (stM rfl (stM rfl (nkQ k17 (.sr fun k18 => stM rfl (stM rfl (stM rfl (stM rfl (st (.shrUU (.t rfl) (.t rfl) (by exact dig_lt _ _)) rfl (st (.eq (.ixWin sl31 ty50 (.t rfl) (.t rfl) (by omega)) (isPtr_eq (by exact ixo0))) rfl (.storeM (.t rfl) (.t rfl) (i := 0) rfl ty50 (by omega) (M' := [(_, _)]) rfl (nkQ k18 (.sr fun k19 => stM rfl (st (.gtU (.t rfl) (.cU 0 rfl)) rfl (stM rfl (stT rfl rfl (fun hg => .mv (.t rfl)) rfl ?_))))))))))))))))))))
    refine stT rfl rfl (fun hg => have hg' := BP.t hg; OK1.addI (Has.g rfl hg) (.cI 1 rfl) (by omega) (by omega)) rfl ?_
    refine stT rfl rfl (fun hg => .mv (.t rfl)) rfl (stT rfl rfl (fun hg => .len sl31 (Has.g rfl hg)) rfl (stT rfl rfl (fun hg => .ltI (Has.g rfl hg) (Has.g rfl hg)) rfl (st (.pickAnd (.t rfl) (fun h => Has.g rfl h)) rfl (nkQ k19 (.cd rfl (fun hc4 => ?_) (fun hc4 => ?_))))))
    ·refine .dr (.m [] rfl (.m [] rfl (.so [52,53] rfl (.eq (.ixWin sl31 ty50 (.t rfl) (.t rfl) (by omega)) (isPtr_eq (by exact ixo0))) (.so [54] rfl (.load1 (.t rfl) (i := 0) rfl ty50 (map_some (getD_some (d := 0) (by simp only [Int.toNat_natCast, List.length_set]; omega)))) ?_))))
     refine .m [] rfl (.m [] rfl (.so [57] rfl (.addI (.t rfl) (.cI 1 rfl) (by omega) (by omega)) ?_))
     refine .so [56,58] rfl (.ixP sl31 ty50 (.t rfl) (.t rfl) (by omega) (getD_some (d := 0) (by omega))) (.so [59] rfl (.eq (.loadP1 (.t rfl) ty50) ((show isU _ = isU (dig (val xs / W ^ (k / 64)) (i + 1)) from isU_eq (getD_words _ (i + 1))))) (.m [] rfl (.so [61] rfl (.subU' (.cU 64 rfl) (.t rfl) (by omega) (by omega)) ?_)))
     refine .so [60,62] rfl (.shlUU (.t rfl) (.t rfl) (by exact True.intro)) (.fn (n := 12) mixed (.w [0,4,5,7,8,30,31,32,33,34,35,36,9,10,37,38,39,40,41,42,43,44,45,46,47,48,49,50,51,52,53,54,55,56,57,58,59,60,61,62,63] rfl (st (.orU (.t rfl) (.t rfl)) rfl (st (.eq (.ixWin sl31 ty50 (.t rfl) (.t rfl) (by omega)) (isPtr_eq (by exact ixo0))) rfl (.storeM (.t rfl) (.t rfl) (i := 0) rfl ty50 (by simp only [Int.toNat_natCast, List.length_set, List.length_replicate]; omega) (M' := [(_, _)]) rfl ?_)))))
     refine nl (.bln (.nk k16 (.region (st (.addI (.t rfl) (.cI 1 rfl) (by omega) (by omega)) rfl (stM rfl (nl (.thn (hK13 (⟨i + 1, by omega⟩) _ _ ?_ (Cv.mem (.c 32 rfl ?_ (.l [0,4,5,7,8,30,31] rfl)) ?_)))))))))
     ·show (List.length (words (val xs / W ^ (k / 64)))) - (i + 1) < (List.length (words (val xs / W ^ (k / 64)))) - i; omega
     ·rfl
     ·exact memL_eq (shr_step2 (by omega) (by omega))
    ·refine .skip (.bln (.nk k16 (.region (st (.addI (.t rfl) (.cI 1 rfl) (by omega) (by omega)) rfl (stM rfl (nl (.thn (hK13 (⟨i + 1, by omega⟩) _ _ ?_ (Cv.mem (.c 32 rfl ?_ (.l [0,4,5,7,8,30,31] rfl)) ?_)))))))))
     ·show (List.length (words (val xs / W ^ (k / 64)))) - (i + 1) < (List.length (words (val xs / W ^ (k / 64)))) - i; omega
     ·rfl
     ·exact memL_eq (shr_step1 (by omega) (by omega) rfl (by omega))
   ·refine .exit (.the (.the (.blh (.nk k11 (.w [4,5,8] rfl (.sq fun k20 => .cv (Cv.freeze' (t := 8) (i := 0) (ys := wordsN ((List.length (words (val xs / W ^ (k / 64))))) ((val xs / W ^ (k / 64)) / 2 ^ (k % 64))) rfl rfl rfl (by simp; omega) (fz_wpart' (by omega))) ?_))))))
    refine .memEq (M' := []) rfl (.w [4,5,8] rfl (.region (stM rfl (st (.call (nat_normal) (.cons (.t rfl) .nil)) rfl (stM rfl (st (.as (.cB true)) rfl (nkQ k20 (.ret (rtN (.inl rfl) Tryz.results110 rfl rfl (.tmp (Has.t' rfl ?_) (.tmp (Has.t' rfl ?_) .nil)))))))))))
    ·exact SlM_eq (shr_end rfl)
    ·rfl
theorem clone_NatO {xs : List Nat} (hx : xs.length ≤ 4294967296) : CtrO Tryz.prog 65 [isWords xs] isU 0 xs := by
 refine CtrO.intro Tryz.func65 rfl (by kernel_rfl) Tryz.ntmps65 rfl fun w0 F0 => .w [0] rfl (.fact (Has.lenLt (Has.t (t := 0) rfl)) fun lt0 => .fact (Has.okW (Has.t (t := 0) rfl)) fun ok0 => .sr fun k1 => st (.as (.cW (f := isU))) rfl (nkQ k1 (.sq fun k2 => .sr fun k3 => stM rfl (.eqNil sl31 (.t rfl) rfl fun bn1 hn1 => nkQ k3 (.cd rfl (fun hc2 => ?_) (fun hc2 => ?_))))))
 ·refine .sr fun k4 => st (.as (.cW (f := isU))) rfl (nkQ k4 (.ret (.thr (rtO0 (.inl rfl) Tryz.results65 rfl ?_ (.tmp (Has.t' rfl ?_) .nil)))))
  ·exact hn1 hc2
  ·rfl
 ·refine .skip (.nk k2 (.sr fun k5 => .buildS0 sl31 ty50 rfl (stM rfl (.appendO (f := isU) (u := 0) sl31 ty50 zero50 (fun _ _ => ⟨⟨rfl, by decide⟩, trivial⟩) by50 (.t rfl) (.t rfl) (by omega) rfl (fun hO3 => ?_) (fun hO3 b1 cb1 jb1 => ?_)))))
  ·refine stM rfl (nkQ k5 (.w [2] rfl (.ret (rtO0 (.inl rfl) Tryz.results65 rfl ?_ (.tmp (Has.t' rfl ?_) .nil)))))
   ·exact hO3
   ·rfl
  ·refine stM rfl (nkQ k5 (.w [2] rfl (.ret (rtO1 (.inl rfl) Tryz.results65 rfl ?_ (b := b1) (c := cb1) (k := jb1) (i := 0) ?_ (.tmp (Has.t' rfl ?_) .nil)))))
   ·exact hO3
   ·rfl
   ·rfl
theorem nat_trimW {A k c : Nat} (hA : A ≠ 0) : CtrM Tryz.prog 61 (fun b0 => [isWin b0 0 ((List.length (words A))) c]) (cellM (List.map isU (words A ++ List.replicate k 0))) (cellM (List.map isU (words A ++ List.replicate k 0))) (fun b0 => isWin b0 0 ((List.length (words A))) c) := by
 refine CtrM.intro Tryz.func61 rfl (by kernel_rfl) Tryz.ntmps61 (fun _ => rfl) fun w0 F0 b0 => .w [0] rfl (.fact (Has.lenLt (Has.t (t := 0) rfl)) fun lt0 => .fact (Has.winLe (Has.t (t := 0) rfl)) fun lw0 => ?_)
 have nA := nw_pos hA
 refine .sr fun k1 => st (.as (.cW (f := isU))) rfl (nkQ k1 (.sr fun k2 => stM rfl (st (.len sl31 (.t rfl)) rfl (stM rfl (nkQ k2 (.sq fun k3 => .block (.loopF [0,2] (fun (_ : Unit) => [(3, isI ((List.length (words A)) : Int))]) (fun M => fun (_ : Unit) => M) (fun (_ : Unit) => 0) (()) (Cv.mem (.c 3 rfl ?_ (.l [0,2] rfl)) ?_) ?_)))))))
 ·rfl
 ·rfl
 rintro _ K4 hK4
 refine .w [3,0,2] rfl (.sq fun k5 => .sr fun k6 => stM rfl (st (.gtI (.t rfl) (.cI 0 rfl)) rfl (stM rfl (stT rfl rfl (fun hg => .mv (.t rfl)) rfl (stT rfl rfl (fun hg => .mv (.t rfl)) rfl ?_)))))
 refine stT rfl rfl (fun hg => have hg' := BP.t hg; OK1.subI (Has.g rfl hg) (.cI 1 rfl) (by omega) (by omega)) rfl ?_
 refine stT rfl rfl (fun hg => have hg' := BP.t hg; OK1.eq (.ixWin sl31 ty50 (Has.g rfl hg) (Has.g rfl hg) (by omega)) (isPtr_eq (by exact ixo0))) rfl ?_
 refine stT rfl rfl (fun hg => have hg' := BP.t hg; OK1.load1 (Has.g rfl hg) (i := 0) rfl ty50 (map_some (getD_some (d := 0) (by simp only [List.length_append]; omega)))) rfl ?_
 refine stT rfl rfl (fun hg => .eqU (Has.g rfl hg) (.cU 0 rfl)) rfl (st (.pickAnd (.t rfl) (fun h => Has.g rfl h)) rfl (nkQ k6 (.cd rfl (fun hc1 => ?_) (fun hc1 => ?_))))
 ·exact absurd hc1.2 (topW hA)
 ·refine .exit (.the (.the (.blh (.nk k3 (.w [0,2,3] rfl (.sr fun k7 => stM rfl (stM rfl (st (.slHWin sl31 ty50 (.t rfl) (.t rfl) ⟨by omega, by omega, by omega⟩) rfl (stM rfl (nkQ k7 (.w [2] rfl (.ret (rtM1 (.inl rfl) Tryz.results61 rfl (i := 0) ?_ (.tmp (Has.t' rfl ?_) .nil))))))))))))))
  all_goals (rfl)
theorem nat_normalW {A k c : Nat} (hA : A ≠ 0) : CtrM Tryz.prog 64 (fun b0 => [isWin b0 0 ((List.length (words A))) c]) (cellM (List.map isU (words A ++ List.replicate k 0))) (cellM (List.map isU (words A ++ List.replicate k 0))) (fun b0 => isWin b0 0 ((List.length (words A))) c) := by
 refine CtrM.intro Tryz.func64 rfl (by kernel_rfl) Tryz.ntmps64 (fun _ => rfl) fun w0 F0 b0 => .w [0] rfl (.fact (Has.lenLt (Has.t (t := 0) rfl)) fun lt0 => .fact (Has.winLe (Has.t (t := 0) rfl)) fun lw0 => ?_)
 have nA := nw_pos hA
 refine .sr fun k1 => st (.as (.cW (f := isU))) rfl (nkQ k1 (.sr fun k2 => stM rfl (.callM (nat_trimW hA) (i := 0) rfl (.cons (.t rfl) .nil) rfl (M' := [(_, _)]) rfl (stM rfl (nkQ k2 (.sq fun k3 => .sr fun k4 => stM rfl (st (.len sl31 (.t rfl)) rfl (st (.eqI (.t rfl) (.cI 0 rfl)) rfl (nkQ k4 (.cd rfl (fun hc1 => ?_) (fun hc1 => ?_)))))))))))
 ·exfalso; first | omega | contradiction | (revert hc1; simp)
 ·refine .skip (.nk k3 (.w [0,2] rfl (.sr fun k5 => stM rfl (stM rfl (nkQ k5 (.ret (rtM1 (.inl rfl) Tryz.results64 rfl (i := 0) ?_ (.tmp (Has.t' rfl ?_) .nil))))))))
  all_goals (rfl)
theorem nat_NormO {xs : List Nat} (hx : (List.length (words (val xs))) ≤ 4294967296) : CtrO Tryz.prog 42 [isWords xs] isU 0 (words (val xs)) := by
 refine CtrO.intro Tryz.func42 rfl (by kernel_rfl) Tryz.ntmps42 rfl fun w0 F0 => .w [0] rfl (.fact (Has.lenLt (Has.t (t := 0) rfl)) fun lt0 => .fact (Has.okW (Has.t (t := 0) rfl)) fun ok0 => .sr fun k1 => st (.as (.cW (f := isU))) rfl (nkQ k1 (.sr fun k2 => stM rfl (st (.call (nat_trim) (.cons (.t rfl) .nil)) rfl (.callO (clone_NatO hx) (.cons (.t rfl) .nil) rfl (fun hO1 => ?_) (fun hO1 b1 cb1 jb1 => ?_))))))
 ·refine st (.call (nat_normal (xs := [])) (.cons (.t rfl) .nil)) rfl (stM rfl (nkQ k2 (.w [2] rfl (.ret (rtO0 (.inl rfl) Tryz.results42 rfl ?_ (.tmp (Has.t' rfl ?_) .nil))))))
  ·exact hO1
  ·exact SlM_eq words_zero
 ·refine .callM (nat_normalW (words_ne hO1)) (i := 0) rfl (.cons (.t rfl) .nil) rfl (M' := [(_, _)]) rfl (stM rfl (nkQ k2 (.w [2] rfl (.ret (rtO1 (.inl rfl) Tryz.results42 rfl ?_ (b := b1) (c := cb1) (k := jb1) (i := 0) ?_ (.tmp (Has.t' rfl ?_) .nil))))))
  ·exact hO1
  ·rfl
  ·rfl
theorem bits_Len64 {x : Nat} : Ctr Tryz.prog 62 [isU x] (isI (bitLen x : Int)) := by
 refine Ctr.i Tryz.func62 rfl Tryz.ntmps62 fun w0 F0 => .w [0] rfl (.fact (Has.ltU (Has.t (t := 0) rfl)) fun lt0 => .sr fun k1 => st (.as (.cI 0 rfl)) rfl (nkQ k1 (.cutF [] (fun (z : { z : Nat × Nat // bitLen x = z.2 + bitLen z.1 ∧ z.1 < 4294967296 ∧ z.2 ≤ 32 }) => match z with | ⟨(y, n), hI⟩ => [(0, isU y), (2, isI (n : Int))]) (fun M => fun (z : { z : Nat × Nat // bitLen x = z.2 + bitLen z.1 ∧ z.1 < 4294967296 ∧ z.2 ≤ 32 }) => match z with | ⟨(y, n), hI⟩ => M) (fun K2 hK2 => ?_) ?_)))
 ·refine .sr fun k3 => stM rfl (st (.geU (.t rfl) (.cU 4294967296 rfl)) rfl (nkQ k3 (.cd rfl (fun hc1 => ?_) (fun hc1 => ?_))))
  ·refine .sr fun k4 => stM rfl (st (.shrUU (.t rfl) (.cU 32 rfl) (by omega)) rfl (stM rfl (nkQ k4 (.region (st (.as (.cI 32 rfl)) rfl (nl (.thn ?_)))))))
   refine hK2 (⟨(x / 2 ^ 32, 32), by have := bitLen_shift x 32 (by omega); exact this, by show x / 2 ^ 32 < _; omega, Nat.le_refl _⟩) _ _ (Cv.mem (.c 0 rfl ?_ (.c 2 rfl ?_ .nil)) ?_)
   ·rfl
   ·rfl
   ·rfl
  ·refine .skip (.thn ?_)
   refine hK2 (⟨(x, 0), (Nat.zero_add _).symm, by show x < _; omega, Nat.zero_le _⟩) _ _ (Cv.mem (.c 0 rfl ?_ (.c 2 rfl ?_ .nil)) ?_)
   ·rfl
   ·rfl
   ·rfl
 rintro ⟨⟨y, n⟩, h1, h2, h3⟩
 refine .w [0,2] rfl ?_
 simp only [] at h1 h2 h3
 refine .cutF [] (fun (z : { z : Nat × Nat // bitLen x = z.2 + bitLen z.1 ∧ z.1 < 65536 ∧ z.2 ≤ 48 }) => match z with | ⟨(y, n), hI⟩ => [(0, isU y), (2, isI (n : Int))]) (fun M => fun (z : { z : Nat × Nat // bitLen x = z.2 + bitLen z.1 ∧ z.1 < 65536 ∧ z.2 ≤ 48 }) => match z with | ⟨(y, n), hI⟩ => M) (fun K5 hK5 => ?_) ?_
 ·refine .sr fun k6 => stM rfl (st (.geU (.t rfl) (.cU 65536 rfl)) rfl (nkQ k6 (.cd rfl (fun hc2 => ?_) (fun hc2 => ?_))))
  ·refine .sr fun k7 => stM rfl (st (.shrUU (.t rfl) (.cU 16 rfl) (by omega)) rfl (stM rfl (nkQ k7 (.region (stM rfl (st (.addI (.t rfl) (.cI 16 rfl) (by omega) (by omega)) rfl (stM rfl (nl (.thn ?_)))))))))
   refine hK5 (⟨(y / 2 ^ 16, n + 16), by have := bitLen_shift y 16 (by omega); show bitLen x = n + 16 + bitLen (y / 2 ^ 16); omega, by show y / 2 ^ 16 < _; omega, by show n + 16 ≤ _; omega⟩) _ _ (Cv.mem (.c 0 rfl ?_ (.c 2 rfl ?_ .nil)) ?_)
   ·rfl
   ·rfl
   ·rfl
  ·refine .skip (.thn ?_)
   refine hK5 (⟨(y, n), h1, by show y < _; omega, by show n ≤ _; omega⟩) _ _ (Cv.mem (.c 0 rfl ?_ (.c 2 rfl ?_ .nil)) ?_)
   ·rfl
   ·rfl
   ·rfl
 rintro ⟨⟨y, n⟩, h1, h2, h3⟩
 refine .w [0,2] rfl ?_
 simp only [] at h1 h2 h3
 refine .cutF [] (fun (z : { z : Nat × Nat // bitLen x = z.2 + bitLen z.1 ∧ z.1 < 256 ∧ z.2 ≤ 56 }) => match z with | ⟨(y, n), hI⟩ => [(0, isU y), (2, isI (n : Int))]) (fun M => fun (z : { z : Nat × Nat // bitLen x = z.2 + bitLen z.1 ∧ z.1 < 256 ∧ z.2 ≤ 56 }) => match z with | ⟨(y, n), hI⟩ => M) (fun K8 hK8 => ?_) ?_
 ·refine .sr fun k9 => stM rfl (st (.geU (.t rfl) (.cU 256 rfl)) rfl (nkQ k9 (.cd rfl (fun hc3 => ?_) (fun hc3 => ?_))))
  ·refine .sr fun k10 => stM rfl (st (.shrUU (.t rfl) (.cU 8 rfl) (by omega)) rfl (stM rfl (nkQ k10 (.region (stM rfl (st (.addI (.t rfl) (.cI 8 rfl) (by omega) (by omega)) rfl (stM rfl (nl (.thn ?_)))))))))
   refine hK8 (⟨(y / 2 ^ 8, n + 8), by have := bitLen_shift y 8 (by omega); show bitLen x = n + 8 + bitLen (y / 2 ^ 8); omega, by show y / 2 ^ 8 < _; omega, by show n + 8 ≤ _; omega⟩) _ _ (Cv.mem (.c 0 rfl ?_ (.c 2 rfl ?_ .nil)) ?_)
   ·rfl
   ·rfl
   ·rfl
  ·refine .skip (.thn ?_)
   refine hK8 (⟨(y, n), h1, by show y < _; omega, by show n ≤ _; omega⟩) _ _ (Cv.mem (.c 0 rfl ?_ (.c 2 rfl ?_ .nil)) ?_)
   ·rfl
   ·rfl
   ·rfl
 rintro ⟨⟨y, n⟩, h1, h2, h3⟩
 refine .w [0,2] rfl ?_
 simp only [] at h1 h2 h3
 have h8 := bitLen_le8 y h2
 have hy : Int.toNat (y : Int) = y := rfl
 refine .sr fun k11 => stM rfl (stM rfl (st (.convUu8 un50 un5 (.t rfl) (by omega)) rfl (st (.eq (.idxStr un9 (.t rfl) (by omega) ⟨(show Int.toNat (y : Int) < 256 by omega), len8tab_get _ _⟩) ((show isK .u8 _ = isK .u8 ((bitLen y : Nat) : Int) from rfl))) rfl (st (.convKI un5 un3 (.t rfl) (by omega) (by omega)) rfl (st (.addI (.t rfl) (.t rfl) (by omega) (by omega)) rfl (stM rfl (nkQ k11 (.w [2] rfl (.ret (rt1 (.inl rfl) Tryz.results62 rfl (.tmp (Has.t' rfl ?_) .nil)))))))))))
 all_goals (exact isI_eq (by omega))
theorem bits_LZ64 {x : Nat} : Ctr Tryz.prog 107 [isU x] (isI ((64 - bitLen x : Nat) : Int)) := by
 refine Ctr.i Tryz.func107 rfl Tryz.ntmps107 fun w0 F0 => .w [0] rfl (.fact (Has.ltU (Has.t (t := 0) rfl)) fun lt0 => ?_)
 have h64 := bitLen_le64 lt0
 refine .sr fun k1 => st (.as (.cI 0 rfl)) rfl (nkQ k1 (.sr fun k2 => stM rfl (st (.call (bits_Len64) (.cons (.t rfl) .nil)) rfl (st (.subI (.cI 64 rfl) (.t rfl) (by omega) (by omega)) rfl (stM rfl (nkQ k2 (.ret (rt1 (.inl rfl) Tryz.results107 rfl (.tmp (Has.t' rfl ?_) .nil)))))))))
 all_goals (exact isI_eq (by omega))
theorem bits_Div64 {hi lo y : Nat} (h : hi < y) : Ctr Tryz.prog 114 [isU hi, isU lo, isU y] (isTup [isU ((hi * 18446744073709551616 + lo) / y), isU ((hi * 18446744073709551616 + lo) % y)]) := by
 refine Ctr.i Tryz.func114 rfl Tryz.ntmps114 fun w0 F0 => .w [0,1,2] rfl (.fact (Has.ltU (Has.t (t := 0) rfl)) fun lt0 => .fact (Has.ltU (Has.t (t := 1) rfl)) fun lt1 => .fact (Has.ltU (Has.t (t := 2) rfl)) fun lt2 => ?_)
 obtain ⟨s, Y, A, U1, U0, v1, v0, hs, hY, D⟩ := d64 lt1 lt2 h
 have hs64 := D.ks
 have hYl := D.yl
 have hAl := D.al
 have hV1 := D.hv.a
 have hV1' := D.hv.b
 have hV0 := D.hv.c
 have hU1 := D.hv.f
 have hU0 := D.hv2.f
 have hR1 := D.r1
 have hR0 := D.r0
 have hQ1 := D.q1
 have hQ0 := D.q0
 have dv := Nat.div_mul_le_self A v1
 have dv2 := Nat.div_mul_le_self ((A * 4294967296 + U1) % Y) v1
 refine .sr fun k1 => st (.as (.cU 0 rfl)) rfl (st (.as (.cU 0 rfl)) rfl (nkQ k1 (.sq fun k2 => .sr fun k3 => stM rfl (st (.eqU (.t rfl) (.cU 0 rfl)) rfl (nkQ k3 (.cd rfl (fun hc1 => ?_) (fun hc1 => ?_)))))))
 ·exfalso; first | omega | contradiction | (revert hc1; simp)
 ·refine .skip (.nk k2 (.sq fun k4 => .sr fun k5 => stM rfl (stM rfl (st (.leU (.t rfl) (.t rfl)) rfl (nkQ k5 (.cd rfl (fun hc2 => ?_) (fun hc2 => ?_)))))))
  ·exfalso; first | omega | contradiction | (revert hc2; simp)
  ·refine .skip (.nk k4 (.w [0,1,2,6,7] rfl (.sq fun k6 => .sr fun k7 => stM rfl (st (.eqU (.t rfl) (.cU 0 rfl)) rfl (nkQ k7 (.cd rfl (fun hc3 => ?_) (fun hc3 => ?_)))))))
   ·refine .sq fun k8 => .w [0,1,2,7,26,27] rfl (.dr (.m [] rfl (.m [] rfl (.so [28,29] rfl (.quoU (.t rfl) (.t rfl) (by with_reducible assumption) (by with_reducible assumption)) (.m [] rfl (.m [] rfl (.so [31,32] rfl (.remU (.t rfl) (.t rfl) (by with_reducible assumption) (by with_reducible assumption)) (.m [30] rfl (.fn (n := 7) mixed (.w [0,1,2,7,33,6] rfl (stM rfl (nkQ k8 (.ret (.thr (rtN (.inl rfl) Tryz.results114 rfl rfl (.tmp (Has.t' rfl ?_) (.tmp (Has.t' rfl ?_) .nil)))))))))))))))))
    ·exact isU_eq (by rw [hc3, Nat.zero_mul, Nat.zero_add])
    ·exact isU_eq (by rw [hc3, Nat.zero_mul, Nat.zero_add])
   ·refine .skip (.nk k6 (.sr fun k9 => stM rfl (st (.call (bits_LZ64) (.cons (.t rfl) .nil)) rfl (st (.eq (.convIU un3 un103 (.t rfl) (by omega) (by omega)) ((show isU _ = isU s from isU_eq (by omega)))) rfl (stM rfl (nkQ k9 (.w [0,1,2,6,7,8] rfl (.sr fun k10 => stM rfl (stM rfl (st (.eq (.shlUU (.t rfl) (.t rfl) (by with_reducible exact True.intro)) ((show isU _ = isU Y from isU_eq (by rw [← hY]; exact Nat.mod_eq_of_lt D.yl)))) rfl ?_))))))))))
    refine stM rfl (nkQ k10 (.sr fun k11 => stM rfl (st (.eq (.shrUU (.t rfl) (.cU 32 rfl) (by with_reducible assumption)) ((show isU _ = isU v1 from isU_eq (by have := D.kv1; omega)))) rfl ?_)))
    refine stM rfl (nkQ k11 (.w [0,1,2,6,7,8,9] rfl (.sr fun k12 => stM rfl (st (.eq (.andU (.t rfl) (.cU 4294967295 rfl)) ((show isU _ = isU v0 from isU_eq ((Nat.and_two_pow_sub_one_eq_mod _ 32).trans (by have := D.kv0; omega))))) rfl ?_))))
    refine stM rfl (nkQ k12 (.sr fun k13 => stM rfl (stM rfl (st (.shlUU (.t rfl) (.t rfl) (by with_reducible exact True.intro)) rfl (stM rfl (stM rfl (st (.subU' (.cU 64 rfl) (.t rfl) (by with_reducible assumption) (by omega)) rfl (st (.shrUU (.t rfl) (.t rfl) (by with_reducible assumption)) rfl (st (.eq (.orU (.t rfl) (.t rfl)) ((show isU _ = isU A from isU_eq D.un32))) rfl (stM rfl (nkQ k13 (.w [1,2,6,7,8,9,10,11] rfl (.sr fun k14 => stM rfl (stM rfl (st (.shlUU (.t rfl) (.t rfl) (by with_reducible exact True.intro)) rfl (stM rfl (nkQ k14 (.sr fun k15 => stM rfl (st (.eq (.shrUU (.t rfl) (.cU 32 rfl) (by omega)) ((show isU _ = isU U1 from isU_eq (by have := D.u1; omega)))) rfl ?_)))))))))))))))))))
    refine stM rfl (nkQ k15 (.w [2,6,7,8,9,10,11,12,13] rfl (.sr fun k16 => stM rfl (st (.eq (.andU (.t rfl) (.cU 4294967295 rfl)) ((show isU _ = isU U0 from isU_eq ((Nat.and_two_pow_sub_one_eq_mod _ 32).trans (by have := D.u0; omega))))) rfl ?_))))
    refine stM rfl (nkQ k16 (.sr fun k17 => stM rfl (stM rfl (st (.quoU (.t rfl) (.t rfl) (by omega) (by with_reducible assumption)) rfl (stM rfl (nkQ k17 (.w [2,6,7,8,9,10,11,13,14,15] rfl (.sr fun k18 => stM rfl (stM rfl (stM rfl (st (.mulU' (.t rfl) (.t rfl) (by omega)) rfl (st (.subU' (.t rfl) (.t rfl) (by with_reducible assumption) (by with_reducible assumption)) rfl (stM rfl (nkQ k18 (.w [2,6,7,8,9,10,11,13,14,15,16] rfl (.cutF [2,6,7,8,9,10,11,13,14] (fun (_ : Unit) => [(15, isU ((A * 4294967296 + U1) / Y))]) (fun M => fun (_ : Unit) => M) (fun K19 hK19 => ?_) ?_))))))))))))))))
    ·refine .block (.loopF [2,6,7,8,9,10,11,13,14] (fun (z : { z : Nat × Nat // Gs A U1 v1 v0 z.1 z.2 }) => match z with | ⟨(q, r), hI⟩ => [(15, isU q), (16, isU r)]) (fun M => fun (z : { z : Nat × Nat // Gs A U1 v1 v0 z.1 z.2 }) => match z with | ⟨(q, r), hI⟩ => M) (fun (z : { z : Nat × Nat // Gs A U1 v1 v0 z.1 z.2 }) => match z with | ⟨(q, r), hI⟩ => q) (⟨(A / v1, A - A / v1 * v1), Gs.start D.hv⟩) (Cv.mem (.c 15 rfl ?_ (.c 16 rfl ?_ (.l [2,6,7,8,9,10,11,13,14] rfl))) ?_) ?_)
     ·rfl
     ·rfl
     ·rfl
     rintro ⟨⟨q, r⟩, g⟩ K20 hK20
     refine .w [15,16,2,6,7,8,9,10,11,13,14] rfl ?_
     simp only [] at g
     have gq := g.q
     have gr := g.r
     have hv0 := D.hv.c
     have hv1 := D.hv.b
     have hu1 := D.hv.f
     refine .sq fun k21 => .sr fun k22 => stM rfl (st (.geU (.t rfl) (.cU 4294967296 rfl)) rfl (stM rfl (stF rfl rfl (fun hg => .mv (.t rfl)) rfl (stF rfl rfl (fun hg => .mv (.t rfl)) rfl ?_))))
     refine stF rfl rfl (fun hg => have hg' := BP.t hg; OK1.mulU' (Has.g rfl hg) (Has.g rfl hg) (by exact mul_bb (by omega) (by omega))) rfl ?_
     refine stF rfl rfl (fun hg => .mv (.t rfl)) rfl ?_
     refine stF rfl rfl (fun hg => have hg' := BP.t hg; OK1.mulU' (.cU 4294967296 rfl) (Has.g rfl hg) (by omega)) rfl ?_
     refine stF rfl rfl (fun hg => .mv (.t rfl)) rfl ?_
     refine stF rfl rfl (fun hg => have hg' := BP.t hg; OK1.addU' (Has.g rfl hg) (Has.g rfl hg) (by omega)) rfl ?_
     refine stF rfl rfl (fun hg => .gtU (Has.g rfl hg) (Has.g rfl hg)) rfl (st (.pickOr (.t rfl) (fun h => Has.g rfl (ng h))) rfl (nkQ k22 (.cd rfl (fun hc4 => ?_) (fun hc4 => ?_))))
     ·have hn := Gs.next D.hv g hc4
      refine .skip (.nk k21 (.block (.sr fun k23 => stM rfl (st (.subU' (.t rfl) (.cU 1 rfl) (by omega) (by omega)) rfl (stM rfl (nkQ k23 (.sr fun k24 => stM rfl (stM rfl (st (.addU' (.t rfl) (.t rfl) (by omega)) rfl (stM rfl (nkQ k24 (.sr fun k25 => stM rfl (st (.geU (.t rfl) (.cU 4294967296 rfl)) rfl (nkQ k25 (.cd rfl (fun hc5 => ?_) (fun hc5 => ?_))))))))))))))))
      ·refine .exit (.blm rfl (.the (.blh (.thn (hK19 (()) _ _ (Cv.mem (.c 15 rfl ?_ (.l [2,6,7,8,9,10,11,13,14] rfl)) ?_))))))
       ·exact isU_eq ((Gs.exit2 D.hv hn.1 hn.2.1 hn.2.2.1 (by omega)).trans (by rw [D.kY]))
       ·rfl
      ·refine .skip (.bln (.thn ?_))
       refine hK20 (⟨(q - 1, r + v1), hn.1, hn.2.1, by show q - 1 ≤ _; omega, by show r + v1 < _; omega⟩) _ _ ?_ (Cv.mem (.c 15 rfl ?_ (.c 16 rfl ?_ (.l [2,6,7,8,9,10,11,13,14] rfl))) ?_)
       ·show q - 1 < q; omega
       ·rfl
       ·rfl
       ·rfl
     ·refine .exit (.the (.the (.blh (.thn (hK19 (()) _ _ (Cv.mem (.c 15 rfl ?_ (.l [2,6,7,8,9,10,11,13,14] rfl)) ?_))))))
      ·exact isU_eq ((Gs.exit D.hv g (by omega)).trans (by rw [D.kY]))
      ·rfl
    rintro _
    refine .w [15,2,6,7,8,9,10,11,13,14] rfl (.sr fun k26 => stM rfl (st (.mulU (.t rfl) (.cU 4294967296 rfl)) rfl (stM rfl (st (.addU (.t rfl) (.t rfl)) rfl (stM rfl (stM rfl (st (.mulU (.t rfl) (.t rfl)) rfl (st (.eq (.subU (.t rfl) (.t rfl) (by omega)) ((show isU _ = isU ((A * 4294967296 + U1) % Y) from isU_eq (wrapSub (divMul _ _) hR1 hU1)))) rfl (stM rfl (nkQ k26 (.w [2,6,7,8,9,10,14,15,17] rfl (.sr fun k27 => stM rfl (stM rfl (st (.quoU (.t rfl) (.t rfl) (by omega) (by with_reducible assumption)) rfl (stM rfl (nkQ k27 (.sr fun k28 => stM rfl (stM rfl (stM rfl (st (.mulU' (.t rfl) (.t rfl) (by with_reducible exact Nat.lt_of_le_of_lt (Nat.div_mul_le_self _ _) hR1)) rfl (st (.subU' (.t rfl) (.t rfl) (by with_reducible assumption) (by with_reducible assumption)) rfl (stM rfl (nkQ k28 (.w [2,6,7,8,9,10,14,15,17,18,16] rfl (.cutF [2,6,7,8,14,15,17] (fun (_ : Unit) => [(18, isU ((((A * 4294967296 + U1) % Y) * 4294967296 + U0) / Y))]) (fun M => fun (_ : Unit) => M) (fun K29 hK29 => ?_) ?_)))))))))))))))))))))))))
    ·refine .block (.loopF [2,6,7,8,9,10,14,15,17] (fun (z : { z : Nat × Nat // Gs ((A * 4294967296 + U1) % Y) U0 v1 v0 z.1 z.2 }) => match z with | ⟨(q, r), hI⟩ => [(18, isU q), (16, isU r)]) (fun M => fun (z : { z : Nat × Nat // Gs ((A * 4294967296 + U1) % Y) U0 v1 v0 z.1 z.2 }) => match z with | ⟨(q, r), hI⟩ => M) (fun (z : { z : Nat × Nat // Gs ((A * 4294967296 + U1) % Y) U0 v1 v0 z.1 z.2 }) => match z with | ⟨(q, r), hI⟩ => q) (⟨(((A * 4294967296 + U1) % Y) / v1, ((A * 4294967296 + U1) % Y) - ((A * 4294967296 + U1) % Y) / v1 * v1), Gs.start D.hv2⟩) (Cv.mem (.c 18 rfl ?_ (.c 16 rfl ?_ (.l [2,6,7,8,9,10,14,15,17] rfl))) ?_) ?_)
     ·rfl
     ·rfl
     ·rfl
     rintro ⟨⟨q, r⟩, g⟩ K30 hK30
     refine .w [18,16,2,6,7,8,9,10,14,15,17] rfl ?_
     simp only [] at g
     have gq := g.q
     have gr := g.r
     have hv0 := D.hv2.c
     have hv1 := D.hv2.b
     have hu1 := D.hv2.f
     refine .sq fun k31 => .sr fun k32 => stM rfl (st (.geU (.t rfl) (.cU 4294967296 rfl)) rfl (stM rfl (stF rfl rfl (fun hg => .mv (.t rfl)) rfl (stF rfl rfl (fun hg => .mv (.t rfl)) rfl ?_))))
     refine stF rfl rfl (fun hg => have hg' := BP.t hg; OK1.mulU' (Has.g rfl hg) (Has.g rfl hg) (by exact mul_bb (by omega) (by omega))) rfl ?_
     refine stF rfl rfl (fun hg => .mv (.t rfl)) rfl ?_
     refine stF rfl rfl (fun hg => have hg' := BP.t hg; OK1.mulU' (.cU 4294967296 rfl) (Has.g rfl hg) (by omega)) rfl ?_
     refine stF rfl rfl (fun hg => .mv (.t rfl)) rfl ?_
     refine stF rfl rfl (fun hg => have hg' := BP.t hg; OK1.addU' (Has.g rfl hg) (Has.g rfl hg) (by omega)) rfl ?_
     refine stF rfl rfl (fun hg => .gtU (Has.g rfl hg) (Has.g rfl hg)) rfl (st (.pickOr (.t rfl) (fun h => Has.g rfl (ng h))) rfl (nkQ k32 (.cd rfl (fun hc6 => ?_) (fun hc6 => ?_))))
     ·have hn := Gs.next D.hv2 g hc6
      refine .skip (.nk k31 (.block (.sr fun k33 => stM rfl (st (.subU' (.t rfl) (.cU 1 rfl) (by omega) (by omega)) rfl (stM rfl (nkQ k33 (.sr fun k34 => stM rfl (stM rfl (st (.addU' (.t rfl) (.t rfl) (by omega)) rfl (stM rfl (nkQ k34 (.sr fun k35 => stM rfl (st (.geU (.t rfl) (.cU 4294967296 rfl)) rfl (nkQ k35 (.cd rfl (fun hc7 => ?_) (fun hc7 => ?_))))))))))))))))
      ·refine .exit (.blm rfl (.the (.blh (.thn (hK29 (()) _ _ (Cv.mem (.c 18 rfl ?_ (.l [2,6,7,8,14,15,17] rfl)) ?_))))))
       ·exact isU_eq ((Gs.exit2 D.hv2 hn.1 hn.2.1 hn.2.2.1 (by omega)).trans (by rw [D.kY]))
       ·rfl
      ·refine .skip (.bln (.thn ?_))
       refine hK30 (⟨(q - 1, r + v1), hn.1, hn.2.1, by show q - 1 ≤ _; omega, by show r + v1 < _; omega⟩) _ _ ?_ (Cv.mem (.c 18 rfl ?_ (.c 16 rfl ?_ (.l [2,6,7,8,9,10,14,15,17] rfl))) ?_)
       ·show q - 1 < q; omega
       ·rfl
       ·rfl
       ·rfl
     ·refine .exit (.the (.the (.blh (.thn (hK29 (()) _ _ (Cv.mem (.c 18 rfl ?_ (.l [2,6,7,8,14,15,17] rfl)) ?_))))))
      ·exact isU_eq ((Gs.exit D.hv2 g (by omega)).trans (by rw [D.kY]))
      ·rfl
    rintro _
    refine .w [18,2,6,7,8,14,15,17] rfl (.sr fun k36 => stM rfl (st (.mulU (.t rfl) (.cU 4294967296 rfl)) rfl (stM rfl (st (.addU (.t rfl) (.t rfl)) rfl (stM rfl (st (.mulU (.t rfl) (.cU 4294967296 rfl)) rfl (stM rfl (st (.addU (.t rfl) (.t rfl)) rfl (stM rfl (stM rfl (st (.mulU (.t rfl) (.t rfl)) rfl (st (.eq (.subU (.t rfl) (.t rfl) (by omega)) ((show isU _ = isU ((((A * 4294967296 + U1) % Y) * 4294967296 + U0) % Y) from isU_eq (wrapSub (divMul _ _) hR0 hU0)))) rfl (stM rfl (st (.shrUU (.t rfl) (.t rfl) (by with_reducible assumption)) rfl (stM rfl (stM rfl (nkQ k36 (.w [6,7] rfl (.ret (rtN (.inl rfl) Tryz.results114 rfl rfl (.tmp (Has.t' rfl ?_) (.tmp (Has.t' rfl ?_) .nil))))))))))))))))))))))
    ·exact isU_eq (Eq.trans (wrapAdd hQ1 hQ0) D.quo)
    ·exact isU_eq D.rem
theorem div_Small {xs : List Nat} {x : Nat} (hx : (List.length (words (val xs))) < 4294900000) : Ctr Tryz.prog 106 [isWords xs, isU x] (isTup [isWords (words (val xs / x)), isU (if x = 0 then 0 else val xs % x), isB (decide (x ≠ 0))]) := by
 refine Ctr.i Tryz.func106 rfl Tryz.ntmps106 fun w0 F0 => .w [0,1] rfl (.fact (Has.lenLt (Has.t (t := 0) rfl)) fun lt0 => .fact (Has.okW (Has.t (t := 0) rfl)) fun ok0 => .fact (Has.ltU (Has.t (t := 1) rfl)) fun lt1 => .sr fun k1 => st (.as (.cW (f := isU))) rfl (st (.as (.cU 0 rfl)) rfl (st (.as (.cB false)) rfl (nkQ k1 (.sq fun k2 => .sr fun k3 => stM rfl (st (.eqU (.t rfl) (.cU 0 rfl)) rfl (nkQ k3 (.cd rfl (fun hc1 => ?_) (fun hc1 => ?_)))))))))
 ·refine .sr fun k4 => st (.as (.cW (f := isU))) rfl (st (.as (.cU 0 rfl)) rfl (st (.as (.cB false)) rfl (nkQ k4 (.ret (.thr (rtN (.inl rfl) Tryz.results106 rfl rfl (.tmp (Has.t' rfl ?_) (.tmp (Has.t' rfl ?_) (.tmp (Has.t' rfl ?_) .nil)))))))))
  ·exact SlM_eq (by rw [hc1, Nat.div_zero, words_zero])
  ·exact isU_eq (by rw [if_pos hc1])
  ·exact isB_eq (by simp [hc1])
 ·refine .skip (.nk k2 (.sr fun k5 => stM rfl (.callO (nat_NormO (by omega)) (.cons (.t rfl) .nil) rfl (fun hO2 => ?_) (fun hO2 b1 cb1 jb1 => ?_))))
  ·refine stM rfl (nkQ k5 (.sr fun k6 => st (.as (.cU 0 rfl)) rfl (nkQ k6 (.sq fun k7 => .sr fun k8 => stM rfl (st (.len sl31 (.t rfl)) rfl (st (.subI (.t rfl) (.cI 1 rfl) (by omega) (by simp only [List.length_nil]; omega)) rfl ?_))))))
   refine stM rfl (nkQ k8 (.w [0,1,4,5,6,7,8] rfl (.block (.loopF [0,1,4,5,6] (fun (_ : Unit) => [(8, isI (-1)), (7, isU 0)]) (fun M => fun (_ : Unit) => M) (fun (_ : Unit) => 0) (()) (Cv.mem (.c 8 rfl ?_ (.c 7 rfl ?_ (.l [0,1,4,5,6] rfl))) ?_) ?_))))
   ·rfl
   ·rfl
   ·rfl
   rintro _ K9 hK9
   refine .w [8,7,0,1,4,5,6] rfl (.sq fun k10 => .sr fun k11 => stM rfl (st (.geI (.t rfl) (.cI 0 rfl)) rfl (nkQ k11 (.cd rfl (fun hc3 => ?_) (fun hc3 => ?_)))))
   ·exfalso; first | omega | contradiction | (revert hc3; simp)
   ·refine .exit (.the (.the (.blh (.nk k7 (.sr fun k12 => stM rfl (st (.call (nat_Norm (by show (words 0).length ≤ _; rw [words_zero]; exact Nat.zero_le _)) (.cons (.t rfl) .nil)) rfl ?_))))))
    refine stM rfl (stM rfl (stM rfl (st (.as (.cB true)) rfl (nkQ k12 (.w [4,5,6] rfl (.ret (rtN (.inl rfl) Tryz.results106 rfl rfl (.tmp (Has.t' rfl ?_) (.tmp (Has.t' rfl ?_) (.tmp (Has.t' rfl ?_) .nil))))))))))
    ·exact SlM_eq (by rw [of_words_nil hO2, Nat.zero_div]; rfl)
    ·exact isU_eq (by rw [if_neg hc1, of_words_nil hO2, Nat.zero_mod])
    ·exact isB_eq (by simp [hc1])
  ·refine stM rfl (nkQ k5 (.sr fun k13 => st (.as (.cU 0 rfl)) rfl (nkQ k13 (.sq fun k14 => .sr fun k15 => stM rfl (st (.len sl31 (.t rfl)) rfl (st (.subI (.t rfl) (.cI 1 rfl) (by omega) (by omega)) rfl (stM rfl (nkQ k15 (.w [0,1,4,5,6,7,8] rfl (.block (.loopF [0,1,4,5,6] (fun (z : { k : Nat // k ≤ (List.length (words (val xs))) }) => match z with | ⟨k, hI⟩ => [(8, isI ((k : Int) - 1)), (7, isU (val xs / W ^ k % x))]) (fun M => fun (z : { k : Nat // k ≤ (List.length (words (val xs))) }) => match z with | ⟨k, hI⟩ => [(some b1, cellM (List.map isU (mix k (val xs) (val xs / x) ((List.length (words (val xs)))) ++ List.replicate jb1 0)))]) (fun (z : { k : Nat // k ≤ (List.length (words (val xs))) }) => match z with | ⟨k, hI⟩ => k) (⟨(List.length (words (val xs))), Nat.le_refl _⟩) (Cv.mem (.c 8 rfl ?_ (.c 7 rfl ?_ (.l [0,1,4,5,6] rfl))) ?_) ?_)))))))))))
   ·rfl
   ·exact isU_eq (by rw [Nat.div_eq_of_lt (nw_lt _), Nat.zero_mod])
   ·exact memL_eq (smallStart _ _ _)
   rintro ⟨k, hI⟩ K16 hK16
   refine .w [8,7,0,1,4,5,6] rfl (.memEq (M' := [(some b1, cellM (List.map isU (mix k (val xs) (val xs / x) ((List.length (words (val xs)))) ++ List.replicate jb1 0)))]) rfl ?_)
   have wl : (mix k (val xs) (val xs / x) ((List.length (words (val xs)))) ++ List.replicate jb1 0).length = (List.length (words (val xs))) + jb1 := by rw [List.length_append, mix_len hI, List.length_replicate]
   have ek : ((k : Int) - 1).toNat = k - 1 := by omega
   refine .sq fun k17 => .sr fun k18 => stM rfl (st (.geI (.t rfl) (.cI 0 rfl)) rfl (nkQ k18 (.cd rfl (fun hc4 => ?_) (fun hc4 => ?_))))
   ·refine .skip (.nk k17 (.sq fun k19 => .block (.region (stM rfl (stM rfl (stM rfl (stM rfl (stM rfl (st (.eq (.ixWin sl31 ty50 (.t rfl) (.t rfl) (by omega)) (isPtr_eq (by exact ixo0))) rfl (st (.eq (.load1 (.t rfl) (i := 0) rfl ty50 (map_some (getD_some (d := 0) (by omega)))) ((show isU _ = isU (dig (val xs) (k - 1)) from isU_eq (by rw [ek, getD_app (by rw [mix_len hI]; omega), mix_low (by omega)])))) rfl ?_))))))))))
    refine stM rfl (st (.call (bits_Div64 (Nat.mod_lt _ (by omega))) (.cons (.t rfl) (.cons (.t rfl) (.cons (.t rfl) .nil)))) rfl (stM rfl (st (.ext (.t rfl) rfl) rfl (st (.ext (.t rfl) rfl) rfl (st (.eq (.ixWin sl31 ty50 (.t rfl) (.t rfl) (by omega)) (isPtr_eq (by exact ixo0))) rfl (.storeM (.t rfl) (.t rfl) (i := 0) rfl ty50 (by omega) (M' := [(_, _)]) rfl (stM rfl (nl (.bln (.nk k19 (.region (stM rfl (st (.subI (.t rfl) (.cI 1 rfl) (by omega) (by omega)) rfl (stM rfl (nl (.thn ?_))))))))))))))))
    have hs := small_step (A := val xs) (x := x) (by omega) (by omega : 0 < k)
    refine hK16 (⟨k - 1, by omega⟩) _ _ ?_ (Cv.mem (.c 8 rfl ?_ (.c 7 rfl ?_ (.l [0,1,4,5,6] rfl))) ?_)
    ·show k - 1 < k; omega
    ·exact isI_eq (by show _ = ((k - 1 : Nat) : Int) - 1; omega)
    ·exact isU_eq hs.2
    ·exact memL_eq (by rw [ek]; exact mix_down (by omega) hI hs.1)
   ·refine .exit (.the (.the (.blh (.nk k14 (.sq fun k20 => .cv (Cv.freeze' (t := 0) (i := 0) (ys := wordsN ((List.length (words (val xs)))) (val xs / x)) rfl rfl rfl (by omega) (by obtain rfl : k = 0 := (by omega); exact smallEnd rfl)) ?_)))))
    refine .memEq (M' := []) rfl (.w [0,1,4,5,6,8,7,16,17] rfl (.region (stM rfl (st (.call (nat_Norm (by rw [val_wordsN]; exact normLe (by omega))) (.cons (.t rfl) .nil)) rfl ?_))))
    refine stM rfl (stM rfl (stM rfl (st (.as (.cB true)) rfl (nkQ k20 (.w [4,5,6] rfl (.ret (rtN (.inl rfl) Tryz.results106 rfl rfl (.tmp (Has.t' rfl ?_) (.tmp (Has.t' rfl ?_) (.tmp (Has.t' rfl ?_) .nil))))))))))
    ·exact SlM_eq (words_quo _ _)
    ·obtain rfl : k = 0 := (by omega); exact isU_eq (by rw [if_neg hc1, Nat.pow_zero, Nat.div_one])
    ·exact isB_eq (by simp [hc1])
theorem div_guess {u2 u1 u0 v1 v0 : Nat} (h : 0 < v1) : Ctr Tryz.prog 115 [isU u2, isU u1, isU u0, isU v1, isU v0] (isU (gss u2 u1 u0 v1 v0)) := by
 refine Ctr.i Tryz.func115 rfl Tryz.ntmps115 fun w0 F0 => .w [0,1,2,3,4] rfl (.fact (Has.ltU (Has.t (t := 0) rfl)) fun lt0 => .fact (Has.ltU (Has.t (t := 1) rfl)) fun lt1 => .fact (Has.ltU (Has.t (t := 2) rfl)) fun lt2 => .fact (Has.ltU (Has.t (t := 3) rfl)) fun lt3 => .fact (Has.ltU (Has.t (t := 4) rfl)) fun lt4 => .sr fun k1 => st (.as (.cU 0 rfl)) rfl (nkQ k1 (.sq fun k2 => .sr fun k3 => stM rfl (stM rfl (st (.gtU (.t rfl) (.t rfl)) rfl (nkQ k3 (.cd rfl (fun hc1 => ?_) (fun hc1 => ?_))))))))
 ·refine .sr fun k4 => st (.as (.cU 18446744073709551615 rfl)) rfl (nkQ k4 (.ret (.thr (rt1 (.inl rfl) Tryz.results115 rfl (.tmp (Has.t' rfl ?_) .nil)))))
  all_goals (exact isU_eq (gss_max hc1 lt4 h))
 ·refine .skip (.nk k2 (.sr fun k5 => st (.as (.cU 18446744073709551615 rfl)) rfl (st (.as (.cU 0 rfl)) rfl (st (.as (.cU 0 rfl)) rfl (nkQ k5 (.cutF [2,3,4,10] (fun (z : { z : Nat × Nat // Gw u2 u1 u0 v1 v0 z.1 z.2 }) => match z with | ⟨(q, r), hI⟩ => [(11, isU q), (12, isU (r % 18446744073709551616)), (13, isU (r / 18446744073709551616))]) (fun M => fun (z : { z : Nat × Nat // Gw u2 u1 u0 v1 v0 z.1 z.2 }) => match z with | ⟨(q, r), hI⟩ => M) (fun K6 hK6 => ?_) ?_))))))
  ·refine .sr fun k7 => stM rfl (stM rfl (st (.eqU (.t rfl) (.t rfl)) rfl (nkQ k7 (.w [0,1,2,3,4,10,11,12,13,21] rfl (.cd rfl (fun hc2 => ?_) (fun hc2 => ?_))))))
   ·refine .region (stM rfl (stM rfl (st (.add64 ext_add64 (.t rfl) (.t rfl) (.cU 0 rfl) (by omega) ⟨(by with_reducible assumption), (by with_reducible assumption)⟩) rfl (stM rfl (st (.ext (.t rfl) rfl) rfl (st (.ext (.t rfl) rfl) rfl (stM rfl (stM rfl (nl (.thn (hK6 (⟨(18446744073709551615, u1 + v1), Gw.same hc2 lt1 lt3⟩) _ _ (Cv.mem (.c 11 rfl ?_ (.c 12 rfl ?_ (.c 13 rfl ?_ (.l [2,3,4,10] rfl)))) ?_))))))))))))
    ·rfl
    ·rfl
    ·rfl
    ·rfl
   ·refine .region (stM rfl (stM rfl (stM rfl (st (.call (bits_Div64 (by omega)) (.cons (.t rfl) (.cons (.t rfl) (.cons (.t rfl) .nil)))) rfl (stM rfl (st (.ext (.t rfl) rfl) rfl (st (.ext (.t rfl) rfl) rfl (stM rfl (stM rfl (nl (.thn ?_)))))))))))
    have hm := Nat.mod_lt (u2 * 18446744073709551616 + u1) h
    refine hK6 (⟨((u2 * 18446744073709551616 + u1) / v1, (u2 * 18446744073709551616 + u1) % v1), Gw.start (by omega) lt1 lt2 lt3⟩) _ _ (Cv.mem (.c 11 rfl ?_ (.c 12 rfl ?_ (.c 13 rfl ?_ (.l [2,3,4,10] rfl)))) ?_)
    ·rfl
    ·exact isU_eq (Nat.mod_eq_of_lt (by omega)).symm
    ·exact isU_eq (Nat.div_eq_of_lt (by omega)).symm
    ·rfl
  rintro ⟨⟨q, r⟩, g⟩
  refine .w [11,12,13,2,3,4,10] rfl ?_
  simp only [] at g
  refine .sq fun k8 => .block (.loopF [2,3,4,10] (fun (z : { z : Nat × Nat // Gw u2 u1 u0 v1 v0 z.1 z.2 }) => match z with | ⟨(q, r), hI⟩ => [(11, isU q), (12, isU (r % 18446744073709551616)), (13, isU (r / 18446744073709551616))]) (fun M => fun (z : { z : Nat × Nat // Gw u2 u1 u0 v1 v0 z.1 z.2 }) => match z with | ⟨(q, r), hI⟩ => M) (fun (z : { z : Nat × Nat // Gw u2 u1 u0 v1 v0 z.1 z.2 }) => match z with | ⟨(q, r), hI⟩ => q) (⟨(q, r), g⟩) (Cv.mem (.c 11 rfl ?_ (.c 12 rfl ?_ (.c 13 rfl ?_ (.l [2,3,4,10] rfl)))) ?_) ?_)
  ·rfl
  ·rfl
  ·rfl
  ·rfl
  rintro ⟨⟨q, r⟩, g⟩ K9 hK9
  refine .w [11,12,13,2,3,4,10] rfl ?_
  simp only [] at g
  have gq := g.q
  have gr := g.r
  refine .sq fun k10 => .sr fun k11 => stM rfl (st (.eqU (.t rfl) (.cU 0 rfl)) rfl (nkQ k11 (.cd rfl (fun hc3 => ?_) (fun hc3 => ?_))))
  ·refine .skip (.nk k10 (.block (.sr fun k12 => stM rfl (stM rfl (st (.call bits_Mul64 (.cons (.t rfl) (.cons (.t rfl) .nil))) rfl (stM rfl (st (.ext (.t rfl) rfl) rfl (st (.ext (.t rfl) rfl) rfl (stM rfl (stM rfl (nkQ k12 (.sq fun k13 => .sr fun k14 => stM rfl (stM rfl (st (.ltU (.t rfl) (.t rfl)) rfl (stM rfl (stF rfl rfl (fun hg => .mv (.t rfl)) rfl (stF rfl rfl (fun hg => .mv (.t rfl)) rfl (stF rfl rfl (fun hg => .eqU (Has.g rfl hg) (Has.g rfl hg)) rfl (stF rfl rfl (fun hg => .mv (Has.g rfl hg)) rfl (stGT rfl rfl (fun hg => .mv (.t rfl)) rfl (stGT rfl rfl (fun hg => .mv (.t rfl)) rfl (stGT rfl rfl (fun hg => .leU (Has.g rfl hg) (Has.g rfl hg)) rfl (stF rfl rfl (fun hg => .pickAnd (Has.g rfl hg) (fun h => Has.g rfl (ga hg h))) rfl (st (.pickOr (.t rfl) (fun h => Has.g rfl (ng h))) rfl (nkQ k14 (.cd rfl (fun hc4 => ?_) (fun hc4 => ?_)))))))))))))))))))))))))))
   ·have ht := (test_le (p := q * v0) (r := r % 18446744073709551616) (u0 := u0) (by omega) lt2).1 hc4
    rw [Nat.mod_eq_of_lt (show r < 18446744073709551616 by omega)] at ht
    refine .exit (.the (.blm rfl (.the (.blh (.nk k8 (.w [10,11] rfl (.sr fun k15 => stM rfl (stM rfl (nkQ k15 (.ret (rt1 (.inl rfl) Tryz.results115 rfl (.tmp (Has.t' rfl ?_) .nil))))))))))))
    all_goals (exact isU_eq (g.exit h ht))
   ·have ht : ¬ _ := fun hh => absurd ((test_le (p := q * v0) (r := r % 18446744073709551616) (u0 := u0) (by omega) lt2).2 hh) (by omega)
    have hn := Gw.next h lt3 g (by omega) (by omega)
    refine .skip (.nk k13 (.sr fun k16 => stM rfl (st (.subU' (.t rfl) (.cU 1 rfl) (by omega) (by omega)) rfl (stM rfl (nkQ k16 (.region (stM rfl (stM rfl (st (.add64 ext_add64 (.t rfl) (.t rfl) (.cU 0 rfl) (by omega) ⟨(by omega), (by with_reducible assumption)⟩) rfl (stM rfl (st (.ext (.t rfl) rfl) rfl (st (.ext (.t rfl) rfl) rfl (stM rfl (stM rfl (nl (.bln (.thn (hK9 (⟨(q - 1, r + v1), hn.1⟩) _ _ ?_ (Cv.mem (.c 11 rfl ?_ (.c 12 rfl ?_ (.c 13 rfl ?_ (.l [2,3,4,10] rfl)))) ?_)))))))))))))))))))
    ·show q - 1 < q; have := hn.2; omega
    ·rfl
    ·exact isU_eq (by show (r % _ + v1 + 0) % _ = (r + v1) % _; omega)
    ·exact isU_eq (by show (r % _ + v1 + 0) / _ = (r + v1) / _; omega)
    ·rfl
  ·refine .exit (.the (.the (.blh (.nk k8 (.w [10,11] rfl (.sr fun k17 => stM rfl (stM rfl (nkQ k17 (.ret (rt1 (.inl rfl) Tryz.results115 rfl (.tmp (Has.t' rfl ?_) .nil)))))))))))
   all_goals (exact isU_eq (g.exit2 h lt4 (by omega)))
end Go.Proofs.YtlebmedapfncoaaGreat
namespace Go.Proofs.YtlebmedapfncoaaGreat
open Go.En Go.RowKit
set_option maxRecDepth 10000
open Go.Nt
set_option maxHeartbeats 2000000 in
theorem div_take {N v q o c m : Nat} (h2 : o + ((List.length (words v)) + 1) ≤ m) (h3 : N / W ^ o < W ^ ((List.length (words v)) + 1)) : CtrM Tryz.prog 116 (fun b0 => [isWin b0 o ((List.length (words v)) + 1) c, isWords (words v), isU q]) (cellM (List.map isU (wordsN m N))) (cellM (List.map isU (wordsN m (N % W ^ o + W ^ o * (wdiff (N / W ^ o) (v * q) ((List.length (words v)) + 1)))))) (fun b0 => isB (decide (N / W ^ o < v * q))) := by
 refine CtrM.intro Tryz.func116 rfl (by kernel_rfl) Tryz.ntmps116 (fun _ => rfl) fun w0 F0 b0 => .w [0,1,2] rfl (.fact (Has.lenLt (Has.t (t := 0) rfl)) fun lt0 => .fact (Has.winLe (Has.t (t := 0) rfl)) fun lw0 => .fact (Has.lenLt (Has.t (t := 1) rfl)) fun lt1 => .fact (Has.okW (Has.t (t := 1) rfl)) fun ok1 => .fact (Has.ltU (Has.t (t := 2) rfl)) fun lt2 => .sr fun k1 => st (.as (.cB false)) rfl (nkQ k1 (.sr fun k2 => st (.as (.cU 0 rfl)) rfl (st (.as (.cU 0 rfl)) rfl (nkQ k2 (.sq fun k3 => .sr fun k4 => stM rfl (st (.len sl31 (.t rfl)) rfl (st (.mv (.cI 0 rfl)) rfl (nkQ k4 (.block (.loopF [0,1,2,6,14,15] (fun (z : { i : Nat // i ≤ (List.length (words v)) }) => match z with | ⟨i, hI⟩ => [(16, isI (i : Int)), (7, isU (mcar 0 v q i)), (8, isU (bor (N / W ^ o) (v * q) i))]) (fun M => fun (z : { i : Nat // i ≤ (List.length (words v)) }) => match z with | ⟨i, hI⟩ => [(some b0, cellM (List.map isU (mix (o + i) (N % W ^ o + W ^ o * (wdiff (N / W ^ o) (v * q) ((List.length (words v)) + 1))) N m)))]) (fun (z : { i : Nat // i ≤ (List.length (words v)) }) => match z with | ⟨i, hI⟩ => (List.length (words v)) - i) (⟨0, Nat.zero_le _⟩) (Cv.mem (.c 16 rfl ?_ (.c 7 rfl ?_ (.c 8 rfl ?_ (.l [0,1,2,6,14,15] rfl)))) ?_) ?_)))))))))))
 ·rfl
 ·exact isU_eq (mcar_zero _ _ _)
 ·exact isU_eq (bor_zero _ _)
 ·exact memL_eq (mix_start (by omega) (win_mod _ _ _))
 rintro ⟨i, hI⟩ K5 hK5
 refine .w [16,7,8,0,1,2,6,14,15] rfl (.memEq (M' := [(some b0, cellM (List.map isU (mix (o + i) (N % W ^ o + W ^ o * (wdiff (N / W ^ o) (v * q) ((List.length (words v)) + 1))) N m)))]) rfl ?_)
 have wl : (mix (o + i) (N % W ^ o + W ^ o * (wdiff (N / W ^ o) (v * q) ((List.length (words v)) + 1))) N m).length = m := mix_len (by omega)
 have hcl := Nat.lt_of_le_of_lt (mcar_le 0 v q i) lt2
 have hrow := take_word lt2 (dig_lt v i) hcl (dig_lt _ _) (mul_step0 v q i)
 refine .sr fun k6 => st (.ltI (.t rfl) (.t rfl)) rfl (nkQ k6 (.sq fun k7 => .cd rfl (fun hc1 => ?_) (fun hc1 => ?_)))
 ·refine .skip (.nk k7 (.sq fun k8 => .block (.sr fun k9 => stM rfl (st (.ixP sl31 ty50 (.t rfl) (.t rfl) (by omega) (getD_some (d := 0) (by omega))) rfl (st (.eq (.loadP1 (.t rfl) ty50) (isU_eq (getD_words _ i))) rfl (stM rfl (stM rfl (nkQ k9 (.sr fun k10 => stM rfl (stM rfl (st (.call (bits_Mul64) (.cons (.t rfl) (.cons (.t rfl) .nil))) rfl (stM rfl (st (.ext (.t rfl) rfl) rfl (st (.ext (.t rfl) rfl) rfl (stM rfl (stM rfl (nkQ k10 (.sr fun k11 => st (.as (.cU 0 rfl)) rfl (nkQ k11 (.sr fun k12 => stM rfl (stM rfl (st (.add64 ext_add64 (.t rfl) (.t rfl) (.cU 0 rfl) (by omega) ⟨(by omega), (by with_reducible assumption)⟩) rfl (stM rfl (st (.ext (.t rfl) rfl) rfl (st (.ext (.t rfl) rfl) rfl (stM rfl (stM rfl (nkQ k12 (.sr fun k13 => stM rfl (stM rfl (st (.addU' (.t rfl) (.t rfl) (by omega)) rfl ?_)))))))))))))))))))))))))))))))
  refine stM rfl (nkQ k13 (.region (stM rfl (stM rfl (stM rfl (stM rfl (st (.eq (.ixWin sl31 ty50 (.t rfl) (.t rfl) (by omega)) (isPtr_eq (by exact ixo1))) rfl (st (.eq (.load1 (.t rfl) (i := 0) rfl ty50 (map_some (getD_some (d := 0) (by omega)))) (isU_eq (rowGet (by omega)))) rfl (stM rfl (stM rfl (st (.sub64 ext_sub64 (.t rfl) (.t rfl) (.t rfl) (by with_reducible exact bor_le _ _ _) ⟨(by with_reducible exact dig_lt _ _), (by omega)⟩) rfl (stM rfl (st (.ext (.t rfl) rfl) rfl (st (.ext (.t rfl) rfl) rfl (st (.eq (.ixWin sl31 ty50 (.t rfl) (.t rfl) (by omega)) (isPtr_eq (by exact ixo1))) rfl (.storeM (.t rfl) (.t rfl) (i := 0) rfl ty50 (by omega) (M' := [(_, _)]) rfl (stM rfl (nl (.bln (.nk k8 (.region (st (.addI (.t rfl) (.cI 1 rfl) (by omega) (by omega)) rfl (stM rfl (nl (.thn (hK5 (⟨i + 1, by omega⟩) _ _ ?_ (Cv.mem (.c 16 rfl ?_ (.c 7 rfl ?_ (.c 8 rfl ?_ (.l [0,1,2,6,14,15] rfl)))) ?_)))))))))))))))))))))))))))
  ·show (List.length (words v)) - (i + 1) < (List.length (words v)) - i; omega
  ·rfl
  ·exact isU_eq hrow.2.1
  ·exact isU_eq (by rw [hrow.1]; exact bor_succ _ _ _)
  ·exact memL_eq (winPut (by omega) (by rw [hrow.1]; exact wd_dig (vq_lt (nw_lt v) lt2) (by omega)))
 ·refine .exit (.the (.the (.blh (.nk k3 (.w [0,1,6,7,8] rfl (.sr fun k14 => stM rfl (stM rfl (st (.len sl31 (.t rfl)) rfl (stM rfl (stM rfl (st (.len sl31 (.t rfl)) rfl (st (.eq (.ixWin sl31 ty50 (.t rfl) (.t rfl) (by omega)) (isPtr_eq (by exact ixo1))) rfl (st (.eq (.load1 (.t rfl) (i := 0) rfl ty50 (map_some (getD_some (d := 0) (by omega)))) ((isU_eq (rowGet' (j := (List.length (words v))) (by omega) (by omega))))) rfl (stM rfl (stM rfl (st (.sub64 (l := dig (N / W ^ o) ((List.length (words v)))) (m := mcar 0 v q i) (c := bor (N / W ^ o) (v * q) i) ext_sub64 (.t rfl) (.t rfl) (.t rfl) (bor_le _ _ _) ⟨dig_lt _ _, hcl⟩) rfl (stM rfl (st (.ext (.t rfl) rfl) rfl (st (.ext (.t rfl) rfl) rfl (st (.eq (.ixWin sl31 ty50 (.t rfl) (.t rfl) (by omega)) (isPtr_eq (by exact ixo1))) rfl (.storeM (.t rfl) (.t rfl) (i := 0) rfl ty50 (by omega) (M' := [(_, _)]) rfl (stM rfl (nkQ k14 (.w [6,8] rfl (.sr fun k15 => stM rfl (st (.neU (.t rfl) (.cU 0 rfl)) rfl (stM rfl (nkQ k15 (.ret (rtM1 (.inl rfl) Tryz.results116 rfl (i := 0) ?_ (.tmp (Has.t' rfl ?_) .nil)))))))))))))))))))))))))))))))
  ·obtain rfl : i = (List.length (words v)) := (by omega); exact memU_eq ((winPut (by omega) (takeTop (nw_lt v) lt2)).trans (winEnd (by omega) h3 (wdiff_lt _ _ _)))
  ·obtain rfl : i = (List.length (words v)) := (by omega); exact isB_eq (takeBor (nw_lt v) lt2 h3)
set_option maxHeartbeats 2000000 in
theorem div_back {N v o c m : Nat} (h2 : o + ((List.length (words v)) + 1) ≤ m) (h3 : N / W ^ o < W ^ ((List.length (words v)) + 1)) : CtrM Tryz.prog 117 (fun b0 => [isWin b0 o ((List.length (words v)) + 1) c, isWords (words v)]) (cellM (List.map isU (wordsN m N))) (cellM (List.map isU (wordsN m (N % W ^ o + W ^ o * (wsum (N / W ^ o) v ((List.length (words v)) + 1)))))) (fun b0 => isTup []) := by
 refine CtrM.intro Tryz.func117 rfl (by kernel_rfl) Tryz.ntmps117 (fun _ => rfl) fun w0 F0 b0 => .w [0,1] rfl (.fact (Has.lenLt (Has.t (t := 0) rfl)) fun lt0 => .fact (Has.winLe (Has.t (t := 0) rfl)) fun lw0 => .fact (Has.lenLt (Has.t (t := 1) rfl)) fun lt1 => .fact (Has.okW (Has.t (t := 1) rfl)) fun ok1 => .sr fun k1 => st (.as (.cU 0 rfl)) rfl (nkQ k1 (.sq fun k2 => .sr fun k3 => stM rfl (st (.len sl31 (.t rfl)) rfl (st (.mv (.cI 0 rfl)) rfl (nkQ k3 (.block (.loopF [0,1,7,8] (fun (z : { i : Nat // i ≤ (List.length (words v)) }) => match z with | ⟨i, hI⟩ => [(9, isI (i : Int)), (4, isU (car (N / W ^ o) v i))]) (fun M => fun (z : { i : Nat // i ≤ (List.length (words v)) }) => match z with | ⟨i, hI⟩ => [(some b0, cellM (List.map isU (mix (o + i) (N % W ^ o + W ^ o * (wsum (N / W ^ o) v ((List.length (words v)) + 1))) N m)))]) (fun (z : { i : Nat // i ≤ (List.length (words v)) }) => match z with | ⟨i, hI⟩ => (List.length (words v)) - i) (⟨0, Nat.zero_le _⟩) (Cv.mem (.c 9 rfl ?_ (.c 4 rfl ?_ (.l [0,1,7,8] rfl))) ?_) ?_))))))))
 ·rfl
 ·exact isU_eq (car_zero _ _)
 ·exact memL_eq (mix_start (by omega) (win_mod _ _ _))
 rintro ⟨i, hI⟩ K4 hK4
 refine .w [9,4,0,1,7,8] rfl (.memEq (M' := [(some b0, cellM (List.map isU (mix (o + i) (N % W ^ o + W ^ o * (wsum (N / W ^ o) v ((List.length (words v)) + 1))) N m)))]) rfl ?_)
 have wl : (mix (o + i) (N % W ^ o + W ^ o * (wsum (N / W ^ o) v ((List.length (words v)) + 1))) N m).length = m := mix_len (by omega)
 refine .sr fun k5 => st (.ltI (.t rfl) (.t rfl)) rfl (nkQ k5 (.sq fun k6 => .cd rfl (fun hc1 => ?_) (fun hc1 => ?_)))
 ·refine .skip (.nk k6 (.sq fun k7 => .block (.sr fun k8 => stM rfl (st (.ixP sl31 ty50 (.t rfl) (.t rfl) (by omega) (getD_some (d := 0) (by omega))) rfl (st (.eq (.loadP1 (.t rfl) ty50) (isU_eq (getD_words _ i))) rfl (stM rfl (stM rfl (nkQ k8 (.region (stM rfl (stM rfl (stM rfl (stM rfl (st (.eq (.ixWin sl31 ty50 (.t rfl) (.t rfl) (by omega)) (isPtr_eq (by exact ixo1))) rfl (st (.eq (.load1 (.t rfl) (i := 0) rfl ty50 (map_some (getD_some (d := 0) (by omega)))) (isU_eq (rowGet (by omega)))) rfl (stM rfl (stM rfl (st (.add64 ext_add64 (.t rfl) (.t rfl) (.t rfl) (by with_reducible exact car_le _ _ _) ⟨(by with_reducible exact dig_lt _ _), (by with_reducible exact dig_lt _ _)⟩) rfl (stM rfl (st (.ext (.t rfl) rfl) rfl (st (.ext (.t rfl) rfl) rfl (st (.eq (.ixWin sl31 ty50 (.t rfl) (.t rfl) (by omega)) (isPtr_eq (by exact ixo1))) rfl (.storeM (.t rfl) (.t rfl) (i := 0) rfl ty50 (by omega) (M' := [(_, _)]) rfl (stM rfl (nl (.bln (.nk k7 (.region (st (.addI (.t rfl) (.cI 1 rfl) (by omega) (by omega)) rfl (stM rfl (nl ?_)))))))))))))))))))))))))))))))
  refine .thn (hK4 (⟨i + 1, by omega⟩) _ _ ?_ (Cv.mem (.c 9 rfl ?_ (.c 4 rfl ?_ (.l [0,1,7,8] rfl))) ?_))
  ·show (List.length (words v)) - (i + 1) < (List.length (words v)) - i; omega
  ·rfl
  ·exact isU_eq (add_car _ _ _)
  ·exact memL_eq (winPut (by omega) (ws_dig (by omega)))
 ·refine .exit (.the (.the (.blh (.nk k2 (.region (stM rfl (stM rfl (st (.len sl31 (.t rfl)) rfl (st (.eq (.ixWin sl31 ty50 (.t rfl) (.t rfl) (by omega)) (isPtr_eq (by exact ixo1))) rfl (st (.eq (.load1 (.t rfl) (i := 0) rfl ty50 (map_some (getD_some (d := 0) (by omega)))) ((isU_eq (rowGet' (j := (List.length (words v))) (by omega) (by omega))))) rfl (stM rfl (st (.addU (.t rfl) (.t rfl)) rfl (st (.eq (.ixWin sl31 ty50 (.t rfl) (.t rfl) (by omega)) (isPtr_eq (by exact ixo1))) rfl (.storeM (.t rfl) (.t rfl) (i := 0) rfl ty50 (by omega) (M' := [(_, _)]) rfl (nl (rtM0 (.inr rfl) Tryz.results117 rfl (i := 0) ?_))))))))))))))))
  all_goals (obtain rfl : i = (List.length (words v)) := (by omega); exact memU_eq ((winPut (by omega) (backTop (nw_lt v))).trans (winEnd (by omega) h3 (wsum_lt _ _ _))))
end Go.Proofs.YtlebmedapfncoaaGreat
namespace Go.Proofs.YtlebmedapfncoaaGreat
open Go.En Go.RowKit
set_option maxRecDepth 10000
set_option maxHeartbeats 4000000
open Go.Nt
theorem div_long {N v c m : Nat} (hn : 2 ≤ (List.length (words v))) (hm : (List.length (words v)) < m) (hM : m ≤ 4294967296) (hN : N < v * W ^ (m - (List.length (words v)))) : CtrM Tryz.prog 109 (fun b0 => [isWin b0 0 m c, isWords (words v)]) (cellM (List.map isU (wordsN m N))) (cellM (List.map isU (wordsN m (left N v 0)))) (fun b0 => isWords (wordsN (m - (List.length (words v))) (N / v))) := by
 refine CtrM.intro Tryz.func109 rfl (by kernel_rfl) Tryz.ntmps109 (fun _ => rfl) fun w0 F0 b0 => .w [0,1] rfl (.fact (Has.lenLt (Has.t (t := 0) rfl)) fun lt0 => .fact (Has.winLe (Has.t (t := 0) rfl)) fun lw0 => .fact (Has.lenLt (Has.t (t := 1) rfl)) fun lt1 => .fact (Has.okW (Has.t (t := 1) rfl)) fun ok1 => .sr fun k1 => st (.as (.cW (f := isU))) rfl (nkQ k1 (.sr fun k2 => stM rfl (st (.len sl31 (.t rfl)) rfl (stM rfl (nkQ k2 (.sr fun k3 => stM rfl (st (.len sl31 (.t rfl)) rfl (stM rfl (st (.eq (.subI (.t rfl) (.t rfl) (by omega) (by omega)) ((show isI _ = isI ((m - (List.length (words v)) : Nat) : Int) from isI_eq (by omega)))) rfl (.make (f := isU) (u := 0) (n := m - (List.length (words v))) (c := m - (List.length (words v))) sl31 ty50 zero50 (fun _ _ => ⟨⟨rfl, by decide⟩, trivial⟩) by50 (Has.t' rfl rfl) (Has.t' rfl rfl) (by omega) rfl fun b1 => stM rfl (nkQ k3 (.w [0,1,4,5,6] rfl (.sq fun k4 => .sr fun k5 => stM rfl (st (.len sl31 (.t rfl)) rfl (st (.subI (.t rfl) (.cI 1 rfl) (by omega) (by omega)) rfl (stM rfl (nkQ k5 (.block (.loopF [0,1,4,5,6] (fun (z : { k : Nat // k ≤ m - (List.length (words v)) }) => match z with | ⟨k, hI⟩ => [(7, isI ((k : Int) - 1))]) (fun M => fun (z : { k : Nat // k ≤ m - (List.length (words v)) }) => match z with | ⟨k, hI⟩ => [(some b1, cellM (List.map isU (mix k 0 (N / v) (m - (List.length (words v)))))), (some b0, cellM (List.map isU (wordsN m (left N v k))))]) (fun (z : { k : Nat // k ≤ m - (List.length (words v)) }) => match z with | ⟨k, hI⟩ => k) (⟨m - (List.length (words v)), Nat.le_refl _⟩) (Cv.mem (.c 7 rfl ?_ (.l [0,1,4,5,6] rfl)) ?_) ?_))))))))))))))))))))
 ·rfl
 ·exact mem2_eq (outStart _ _) (by rw [left_top hN])
 rintro ⟨k, hI⟩ K6 hK6
 refine .w [7,0,1,4,5,6] rfl (.memEq (M' := [(some b1, cellM (List.map isU (mix k 0 (N / v) (m - (List.length (words v)))))), (some b0, cellM (List.map isU (wordsN m (left N v k))))]) rfl ?_)
 have wl : (wordsN m (left N v k)).length = m := wordsN_len _ _
 have wl2 : (mix k 0 (N / v) (m - (List.length (words v)))).length = m - (List.length (words v)) := mix_len hI
 refine .sq fun k7 => .sr fun k8 => stM rfl (st (.geI (.t rfl) (.cI 0 rfl)) rfl (nkQ k8 (.cd rfl (fun hc1 => ?_) (fun hc1 => ?_))))
 ·obtain ⟨j, rfl⟩ : ∃ j, k = j + 1 := ⟨k - 1, by omega⟩
  obtain ⟨k2, hk2⟩ : ∃ k2, (List.length (words v)) = k2 + 2 := ⟨(List.length (words v)) - 2, by omega⟩
  have ej : (((j + 1 : Nat) : Int) - 1) = (j : Int) := by omega
  obtain ⟨g, hg⟩ : ∃ g, g = gss (dig (left N v (j + 1) / W ^ j) (k2 + 2)) (dig (left N v (j + 1) / W ^ j) (k2 + 1)) (dig (left N v (j + 1) / W ^ j) k2) (dig v (k2 + 1)) (dig v k2) := ⟨_, rfl⟩
  have hgl : g < 18446744073709551616 := hg ▸ gss_lt _ _ _ _ _
  have R := round hk2 hg hgl
  refine .skip (.nk k7 (.sq fun k9 => .block (.sq fun k10 => .dr (.m [] rfl (.so [] rfl (.eq (.mv (.t rfl)) ((isI_eq ej))) (.m [] rfl (.so [25,26] rfl (.addI (.t rfl) (.t rfl) (by omega) (by omega)) ?_)))))))
  refine .so [24,27] rfl (.eq (.ixWin sl31 ty50 (.t rfl) (.t rfl) (by omega)) (isPtr_eq (by exact ixo0))) (.so [28] rfl (.eq (.load1 (.t rfl) (i := 1) rfl ty50 (map_some (getD_some (d := 0) (by omega)))) ((show isU _ = isU (dig (left N v (j + 1) / W ^ j) (k2 + 2)) from isU_eq (getW (by omega) (by omega))))) (.m [] rfl (.so [] rfl (.eq (.mv (.t rfl)) ((isI_eq ej))) (.m [] rfl (.so [31,32] rfl (.addI (.t rfl) (.t rfl) (by omega) (by omega)) ?_)))))
  refine .so [33] rfl (.subI (.t rfl) (.cI 1 rfl) (by omega) (by omega)) ?_
  refine .so [30,34] rfl (.eq (.ixWin sl31 ty50 (.t rfl) (.t rfl) (by omega)) (isPtr_eq (by exact ixo0))) (.so [35] rfl (.eq (.load1 (.t rfl) (i := 1) rfl ty50 (map_some (getD_some (d := 0) (by omega)))) ((show isU _ = isU (dig (left N v (j + 1) / W ^ j) (k2 + 1)) from isU_eq (getW (by omega) (by omega))))) (.m [] rfl (.so [] rfl (.eq (.mv (.t rfl)) ((isI_eq ej))) (.m [] rfl (.so [38,39] rfl (.addI (.t rfl) (.t rfl) (by omega) (by omega)) ?_)))))
  refine .so [40] rfl (.subI (.t rfl) (.cI 2 rfl) (by omega) (by omega)) ?_
  refine .so [37,41] rfl (.eq (.ixWin sl31 ty50 (.t rfl) (.t rfl) (by omega)) (isPtr_eq (by exact ixo0))) (.so [42] rfl (.eq (.load1 (.t rfl) (i := 1) rfl ty50 (map_some (getD_some (d := 0) (by omega)))) ((show isU _ = isU (dig (left N v (j + 1) / W ^ j) (k2)) from isU_eq (getW (by omega) (by omega))))) (.m [] rfl (.m [] rfl (.so [45] rfl (.subI (.t rfl) (.cI 1 rfl) (by omega) (by omega)) ?_))))
  refine .so [44,46] rfl (.ixP sl31 ty50 (.t rfl) (.t rfl) (by omega) (getD_some (d := 0) (by omega))) (.so [47] rfl (.eq (.loadP1 (.t rfl) ty50) ((show isU _ = isU (dig v (k2 + 1)) from isU_eq (getV (by omega))))) (.m [] rfl (.m [] rfl (.so [50] rfl (.subI (.t rfl) (.cI 2 rfl) (by omega) (by omega)) ?_))))
  refine .so [49,51] rfl (.ixP sl31 ty50 (.t rfl) (.t rfl) (by omega) (getD_some (d := 0) (by omega))) (.so [52] rfl (.eq (.loadP1 (.t rfl) ty50) ((show isU _ = isU (dig v k2) from isU_eq (getV (by omega))))) (.fn (n := 30) mixed (.w [0,1,4,5,6,7,20,21,24,25,26,27,28,29,30,31,32,33,34,35,36,37,38,39,40,41,42,43,44,45,46,47,48,49,50,51,52,53] rfl (st (.eq (.call (div_guess R.hd) (.cons (.t rfl) (.cons (.t rfl) (.cons (.t rfl) (.cons (.t rfl) (.cons (.t rfl) .nil)))))) ((show isU _ = isU g from isU_eq hg.symm))) rfl (stM rfl (nkQ k10 (.sr fun k11 => stM rfl (st (.eq (.mv (.t rfl)) ((isI_eq ej))) rfl (st (.eq (.mv (.t rfl)) ((isI_eq ej))) rfl (stM rfl (st (.addI (.t rfl) (.t rfl) (by omega) (by omega)) rfl (st (.addI (.t rfl) (.cI 1 rfl) (by omega) (by omega)) rfl (st (.eq (.eq (.slLHWin sl31 ty50 (.t rfl) (.t rfl) (.t rfl) ⟨by omega, by omega, by omega, by omega⟩) (isWin_eq (by exact ixo0) rfl rfl)) ((show isWin _ _ _ _ = isWin b0 j ((List.length (words v)) + 1) (c - j) from isWin_eq (by omega) (by omega) (by omega)))) rfl (stM rfl (nkQ k11 (.sq fun k12 => .sr fun k13 => stM rfl (stM rfl (stM rfl (.callM (div_take (N := left N v (j + 1)) (o := j) (v := v) (q := g) (m := m) (by omega) R.hw) (i := 1) rfl (.cons (.t rfl) (.cons (.t rfl) (.cons (.t rfl) .nil))) rfl (M' := [_, (_, _)]) rfl (nkQ k13 (.cd rfl (fun hc2 => ?_) (fun hc2 => ?_))))))))))))))))))))))
  ·have hbk := R.bk hc2
   have hg1 := hbk.2.1
   refine .sr fun k14 => stM rfl (st (.subU' (.t rfl) (.cU 1 rfl) (by with_reducible assumption) (by with_reducible assumption)) rfl (stM rfl (nkQ k14 (.region (stM rfl (stM rfl (.callM (div_back (N := left N v (j + 1) % W ^ j + W ^ j * wdiff (left N v (j + 1) / W ^ j) (v * g) ((List.length (words v)) + 1)) (o := j) (m := m) (by omega) (by rw [win_div]; exact wdiff_lt _ _ _)) (i := 1) rfl (.cons (.t rfl) (.cons (.t rfl) .nil)) rfl (M' := [_, (_, _)]) rfl ?_)))))))
   refine nkQ k12 (.region (stM rfl (st (.eq (.mv (.t rfl)) ((isI_eq ej))) rfl (stM rfl (st (.eq (.ixWin sl31 ty50 (.t rfl) (.t rfl) (by omega)) (isPtr_eq (by exact ixo0))) rfl (.storeM (.t rfl) (.t rfl) (i := 0) rfl ty50 (by omega) (M' := [(_, _), _]) rfl (nl (.bln (.nk k9 (.region (stM rfl (st (.subI (.t rfl) (.cI 1 rfl) (by omega) (by omega)) rfl (stM rfl (nl (.thn (hK6 (⟨j, by omega⟩) _ _ ?_ (Cv.mem (.c 7 rfl ?_ (.l [0,1,4,5,6] rfl)) ?_)))))))))))))))))
   ·show j < j + 1; omega
   ·exact isI_eq (by show (((j + 1 : Nat) : Int) - 1) - 1 = (j : Int) - 1; omega)
   ·exact mem2_eq (mix_down' (k := j + 1) (by omega) hI hbk.1) (wordsN_eq hbk.2.2)
  ·have hfi := R.fine (by omega)
   refine .skip (.nk k12 (.region (stM rfl (st (.eq (.mv (.t rfl)) ((isI_eq ej))) rfl (stM rfl (st (.eq (.ixWin sl31 ty50 (.t rfl) (.t rfl) (by omega)) (isPtr_eq (by exact ixo0))) rfl (.storeM (.t rfl) (.t rfl) (i := 0) rfl ty50 (by omega) (M' := [(_, _), _]) rfl (nl (.bln (.nk k9 (.region (stM rfl (st (.subI (.t rfl) (.cI 1 rfl) (by omega) (by omega)) rfl (stM rfl (nl (.thn (hK6 (⟨j, by omega⟩) _ _ ?_ (Cv.mem (.c 7 rfl ?_ (.l [0,1,4,5,6] rfl)) ?_))))))))))))))))))
   ·show j < j + 1; omega
   ·exact isI_eq (by show (((j + 1 : Nat) : Int) - 1) - 1 = (j : Int) - 1; omega)
   ·exact mem2_eq (mix_down' (k := j + 1) (by omega) hI hfi.1) (wordsN_eq hfi.2)
 ·refine .exit (.the (.the (.blh (.nk k4 (.w [4,6] rfl (.sq fun k15 => .cv (Cv.freezeM (t := 6) (i := 0) (j := 1) (ys := wordsN (m - (List.length (words v))) (N / v)) rfl rfl rfl rfl rfl (by omega) (by obtain rfl : k = 0 := (by omega); rw [outEnd]; exact freeze_all (wordsN_len _ _).symm)) ?_))))))
  refine .memEq (M' := [_]) rfl (.w [4,6] rfl (.region (stM rfl (stM rfl (nkQ k15 (.ret (rtM1 (.inl rfl) Tryz.results109 rfl (i := 0) ?_ (.tmp (Has.t' rfl ?_) .nil))))))))
  ·obtain rfl : k = 0 := (by omega); rfl
  ·rfl
theorem one_word {B : Nat} (h : (List.length (words B)) = 1) : (words B).getD 0 0 = B := by
 rw [getD_words, dig_def, Nat.pow_zero, Nat.div_one, Nat.mod_eq_of_lt (lt_of_nw_le_one (by omega))]
theorem bits_int {A : Nat} (h : (List.length (words A)) ≠ 0) : 64 * (((List.length (words A)) : Int) - 1) + ((bitLen (dig A ((List.length (words A)) - 1)) : Nat) : Int) = ((bitLen A : Nat) : Int) := by
 have hA : A ≠ 0 := fun e => h (by rw [e, words_zero]; rfl)
 have := bits_words hA
 omega
theorem div_DivMod {xs ys : List Nat} (hx : (List.length (words (val xs))) < 4294800000) (hy : (List.length (words (val ys))) < 4294800000) : Ctr Tryz.prog 88 [isWords xs, isWords ys] (isTup [isWords (words (val xs / val ys)), isWords (words (if val ys = 0 then 0 else val xs % val ys)), isB (decide (val ys ≠ 0))]) := by
 refine Ctr.i Tryz.func88 rfl Tryz.ntmps88 fun w0 F0 => .w [0,1] rfl (.fact (Has.lenLt (Has.t (t := 0) rfl)) fun lt0 => .fact (Has.okW (Has.t (t := 0) rfl)) fun ok0 => .fact (Has.lenLt (Has.t (t := 1) rfl)) fun lt1 => .fact (Has.okW (Has.t (t := 1) rfl)) fun ok1 => .sr fun k1 => st (.as (.cW (f := isU))) rfl (st (.as (.cW (f := isU))) rfl (st (.as (.cB false)) rfl (nkQ k1 (.sr fun k2 => stM rfl (st (.eq (.call (nat_Norm (by omega)) (.cons (.t rfl) .nil)) (by rfl)) rfl (stM rfl (st (.eq (.call (nat_Norm (by omega)) (.cons (.t rfl) .nil)) (by rfl)) rfl (stM rfl (stM rfl (nkQ k2 (.sq fun k3 => .block (.sr fun k4 => stM rfl (st (.len sl31 (.t rfl)) rfl (st (.eqI (.t rfl) (.cI 0 rfl)) rfl (stM rfl (nkQ k4 (.w [0,1,4,5,6,23] rfl (.cd rfl (fun hc1 => ?_) (fun hc1 => ?_))))))))))))))))))))
 ·refine .sr fun k5 => st (.as (.cW (f := isU))) rfl (st (.as (.cW (f := isU))) rfl (st (.as (.cB false)) rfl (nkQ k5 (.ret (.blr (.thr (rtN (.inl rfl) Tryz.results88 rfl rfl (.tmp (Has.t' rfl ?_) (.tmp (Has.t' rfl ?_) (.tmp (Has.t' rfl ?_) .nil))))))))))
  ·exact SlM_eq (by rw [bits_zero (A := val ys) (by omega), Nat.div_zero, words_zero])
  ·exact SlM_eq (by rw [if_pos (bits_zero (A := val ys) (by omega)), words_zero])
  ·exact isB_eq (by simp [bits_zero (show (List.length (words (val ys))) = 0 by omega)])
 ·refine .sr fun k6 => stM rfl (stM rfl (st (.eq (.call (nat_Cmp) (.cons (.t rfl) (.cons (.t rfl) .nil))) (by simp only [val_words]; rfl)) rfl ?_))
  refine st (.ltI (.t rfl) (.cI 0 rfl)) rfl (stM rfl (nkQ k6 (.w [0,1,4,5,6,27] rfl (.cd rfl (fun hc2 => ?_) (fun hc2 => ?_)))))
  ·have hlt := cmpN_neg.1 hc2
   refine .sr fun k7 => stM rfl (st (.as (.cW (f := isU))) rfl (stM rfl (st (.as (.cB true)) rfl (nkQ k7 (.ret (.blr (.thr (rtN (.inl rfl) Tryz.results88 rfl rfl (.tmp (Has.t' rfl ?_) (.tmp (Has.t' rfl ?_) (.tmp (Has.t' rfl ?_) .nil)))))))))))
   ·exact SlM_eq (by rw [Nat.div_eq_of_lt hlt, words_zero])
   ·exact SlM_eq (by rw [if_neg (by omega), Nat.mod_eq_of_lt hlt])
   ·exact isB_eq (by simp; omega)
  ·have hle : val ys ≤ val xs := Nat.le_of_not_lt (fun h => by have := cmpN_neg.2 h; omega)
   refine .sr fun k8 => stM rfl (st (.len sl31 (.t rfl)) rfl (st (.eqI (.t rfl) (.cI 1 rfl)) rfl (stM rfl (nkQ k8 (.cd rfl (fun hc3 => ?_) (fun hc3 => ?_))))))
   ·have hB : val ys ≠ 0 := fun e => by rw [e, words_zero] at hc1; simp at hc1
    refine .sr fun k9 => stM rfl (stM rfl (st (.ixP sl31 ty50 (.t rfl) (.cI 0 rfl) (by omega) (getD_some (d := 0) (by omega))) rfl (st (.eq (.loadP1 (.t rfl) ty50) ((show isU _ = isU (val ys) from isU_eq (one_word (by omega))))) rfl (st (.eq (.call (div_Small (by simp only [val_words]; omega)) (.cons (.t rfl) (.cons (.t rfl) .nil))) (by simp only [val_words]; rfl)) rfl ?_))))
    refine stM rfl (st (.ext (.t rfl) rfl) rfl (st (.ext (.t rfl) rfl) rfl (st (.ext (.t rfl) rfl) rfl (stM rfl (stM rfl (stM rfl (nkQ k9 (.w [0,1,4,5,6,7,8] rfl (.sr fun k10 => stM rfl (stM rfl (st (.call (nat_Of) (.cons (.t rfl) .nil)) rfl (stM rfl (stM rfl (st (.as (.cB true)) rfl (nkQ k10 (.w [0,1,4,5,6] rfl (.ret (.blr (.thr (rtN (.inl rfl) Tryz.results88 rfl rfl (.tmp (Has.t' rfl ?_) (.tmp (Has.t' rfl ?_) (.tmp (Has.t' rfl ?_) .nil)))))))))))))))))))))))
    ·rfl
    ·rfl
    ·exact isB_eq (by simp [hB])
   ·have hB : val ys ≠ 0 := fun e => by rw [e, words_zero] at hc1; simp at hc1
    obtain ⟨k, hk⟩ : ∃ k, k = 64 - bitLen (dig (val ys) ((List.length (words (val ys))) - 1)) := ⟨_, rfl⟩
    have D := dm hB hle hk
    have Dk := D.k64
    have Dv := D.v
    have Dw := D.w
    have Dl := D.le
    refine .skip (.bln (.nk k3 (.w [0,1,4,5,6] rfl (.sr fun k11 => stM rfl (stM rfl (st (.len sl31 (.t rfl)) rfl (st (.subI (.t rfl) (.cI 1 rfl) (by omega) (by omega)) rfl (st (.ixP sl31 ty50 (.t rfl) (.t rfl) (by omega) (getD_some (d := 0) (by omega))) rfl (st (.eq (.loadP1 (.t rfl) ty50) ((show isU _ = isU (dig (val ys) ((List.length (words (val ys))) - 1)) from isU_eq (getV (by omega))))) rfl (st (.eq (.call (bits_LZ64) (.cons (.t rfl) .nil)) ((show isI _ = isI ((k : Nat) : Int) from isI_eq (by rw [hk])))) rfl (stM rfl (nkQ k11 (.w [0,1,4,5,6,10] rfl (.sr fun k12 => stM rfl (stM rfl (st (.eq (.call (nat_Shl (by omega) (by rw [val_words]; omega)) (.cons (.t rfl) (.cons (.t rfl) .nil))) (by simp only [val_words]; rfl)) rfl ?_))))))))))))))))
    refine stM rfl (st (.ext (.t rfl) rfl) rfl (st (.ext (.t rfl) rfl) rfl (stM rfl (stM rfl (nkQ k12 (.w [0,4,5,6,10,11] rfl (.sr fun k13 => stM rfl (stM rfl (st (.eq (.call (nat_Shl (by omega) (by rw [val_words]; omega)) (.cons (.t rfl) (.cons (.t rfl) .nil))) (by simp only [val_words]; rfl)) rfl ?_)))))))))
    refine stM rfl (st (.ext (.t rfl) rfl) rfl (st (.ext (.t rfl) rfl) rfl (stM rfl (stM rfl (nkQ k13 (.w [0,4,5,6,10,11,13] rfl (.sr fun k14 => stM rfl (st (.len sl31 (.t rfl)) rfl (st (.addI (.t rfl) (.cI 1 rfl) (by omega) (by omega)) rfl (.make (f := isU) (u := 0) (n := (List.length (words (val xs))) + 1) (c := (List.length (words (val xs))) + 1) sl31 ty50 zero50 (fun _ _ => ⟨⟨rfl, by decide⟩, trivial⟩) by50 (Has.t' rfl rfl) (Has.t' rfl rfl) (by omega) rfl fun b1 => stM rfl (nkQ k14 (.w [4,5,6,10,11,13,15] rfl (.sr fun k15 => stM rfl (stM rfl (.copyW sl31 ty50 (fun _ => inferInstance) (.t rfl) (.t rfl) (i := 0) rfl ⟨Dw, by simp⟩ rfl (M' := [(some b1, cellM (List.map isU (wordsN ((List.length (words (val xs))) + 1) (val xs * 2 ^ k))))]) (memL_eq (copy_words Dw)) (nkQ k15 (.sr fun k16 => stM rfl (stM rfl (.callM (div_long (N := val xs * 2 ^ k) (v := val ys * 2 ^ k) (m := (List.length (words (val xs))) + 1) (by omega) (by omega) (by omega) D.lt) (i := 0) rfl (.cons (.t rfl) (.cons (.t rfl) .nil)) rfl (M' := [(_, _)]) rfl (stM rfl (nkQ k16 (.w [4,5,6,10,15,16] rfl (.sq fun k17 => .cv (Cv.freeze' (t := 15) (i := 0) (ys := wordsN ((List.length (words (val xs))) + 1) (left (val xs * 2 ^ k) (val ys * 2 ^ k) 0)) rfl rfl rfl (by simp [wordsN_len]) (freeze_all (wordsN_len _ _).symm)) (.memEq (M' := []) rfl (.w [4,5,6,10,15,16] rfl ?_)))))))))))))))))))))))))
    refine .region (stM rfl ?_)
    refine stM rfl (st (.call (nat_Shr (by omega) (by have := nw_val_wordsN ((List.length (words (val xs))) + 1) (left (val xs * 2 ^ k) (val ys * 2 ^ k) 0); omega)) (.cons (.t rfl) (.cons (.t rfl) .nil))) rfl ?_)
    refine stM rfl (st (.ext (.t rfl) rfl) rfl (st (.ext (.t rfl) rfl) rfl (stM rfl (stM rfl (nkQ k17 (.w [4,5,6,16,17] rfl (.sr fun k18 => stM rfl ?_)))))))
    refine st (.call (nat_Norm (by have := nw_val_wordsN ((List.length (words (val xs))) + 1 - (List.length (words (val ys * 2 ^ k)))) (val xs * 2 ^ k / (val ys * 2 ^ k)); omega)) (.cons (.t rfl) .nil)) rfl ?_
    refine stM rfl (stM rfl (stM rfl (st (.as (.cB true)) rfl (nkQ k18 (.w [4,5,6] rfl (.ret (rtN (.inl rfl) Tryz.results88 rfl rfl (.tmp (Has.t' rfl ?_) (.tmp (Has.t' rfl ?_) (.tmp (Has.t' rfl ?_) .nil))))))))))
    ·exact SlM_eq (dm_quo hB D rfl rfl)
    ·exact SlM_eq (by rw [if_neg hB, dm_rest hB D rfl])
    ·exact isB_eq (by simp [hB])
theorem nat_Bits {xs : List Nat} (hx : (List.length (words (val xs))) < 4294967296) : Ctr Tryz.prog 36 [isWords xs] (isI ((bitLen (val xs) : Nat) : Int)) := by
 refine Ctr.i Tryz.func36 rfl Tryz.ntmps36 fun w0 F0 => .w [0] rfl (.fact (Has.lenLt (Has.t (t := 0) rfl)) fun lt0 => .fact (Has.okW (Has.t (t := 0) rfl)) fun ok0 => .sr fun k1 => st (.as (.cI 0 rfl)) rfl (nkQ k1 (.sr fun k2 => stM rfl (st (.call (nat_trim) (.cons (.t rfl) .nil)) rfl (stM rfl (nkQ k2 (.sq fun k3 => .sr fun k4 => stM rfl (st (.len sl31 (.t rfl)) rfl (st (.eqI (.t rfl) (.cI 0 rfl)) rfl (nkQ k4 (.cd rfl (fun hc1 => ?_) (fun hc1 => ?_))))))))))))
 ·refine .sr fun k5 => st (.as (.cI 0 rfl)) rfl (nkQ k5 (.w [0,2] rfl (.ret (.thr (rt1 (.inl rfl) Tryz.results36 rfl (.tmp (Has.t' rfl ?_) .nil))))))
  all_goals (exact isI_eq (by rw [bits_zero (A := val xs) (by omega)]; rfl))
 ·have hb := bits_int (A := val xs) (by omega)
  have hd := bitLen_le64 (dig_lt (val xs) ((List.length (words (val xs))) - 1))
  refine .skip (.nk k3 (.w [0,2] rfl (.sr fun k6 => stM rfl (st (.len sl31 (.t rfl)) rfl (st (.subI (.t rfl) (.cI 1 rfl) (by omega) (by omega)) rfl (st (.mulI (.cI 64 rfl) (.t rfl) (by omega) (by omega)) rfl (stM rfl (stM rfl (st (.len sl31 (.t rfl)) rfl (st (.subI (.t rfl) (.cI 1 rfl) (by omega) (by omega)) rfl (st (.ixP sl31 ty50 (.t rfl) (.t rfl) (by omega) (getD_some (d := 0) (by omega))) rfl (st (.eq (.loadP1 (.t rfl) ty50) ((show isU _ = isU (dig (val xs) ((List.length (words (val xs))) - 1)) from isU_eq (getV (by omega))))) rfl (st (.call (bits_Len64) (.cons (.t rfl) .nil)) rfl (st (.addI (.t rfl) (.t rfl) (by omega) (by omega)) rfl (stM rfl (nkQ k6 (.w [2] rfl (.ret (rt1 (.inl rfl) Tryz.results36 rfl (.tmp (Has.t' rfl ?_) .nil))))))))))))))))))))
  all_goals (exact isI_eq (by omega))
theorem gcd_le_max (a b : Nat) : Nat.gcd a b ≤ max a b := by
 rcases Nat.eq_zero_or_pos a with h | h
 ·subst h; rw [Nat.gcd_zero_left]; exact Nat.le_max_right _ _
 ·exact Nat.le_trans (Nat.gcd_le_left b h) (Nat.le_max_left _ _)
theorem nw_max (a b : Nat) : (List.length (words (max a b))) ≤ max ((List.length (words a))) ((List.length (words b))) := by
 rcases Nat.le_total a b with h | h
 ·rw [Nat.max_eq_right h]; omega
 ·rw [Nat.max_eq_left h]; omega
def upW (n : Nat) (xs : List Nat) : List Nat := if xs.length = 0 then [] else List.replicate n 0 ++ xs
theorem upW_nil {n : Nat} {xs : List Nat} (h : xs.length = 0) : [] = upW n xs := by unfold upW; rw [if_pos h]
theorem upW_app {n : Nat} {xs : List Nat} (h : xs.length ≠ 0) : List.replicate n 0 ++ xs = upW n xs := by unfold upW; rw [if_neg h]
theorem upW_val (n : Nat) (xs : List Nat) : val (upW n xs) = W ^ n * val xs := by
 unfold upW
 split
 ·rename_i h; rw [List.eq_nil_of_length_eq_zero h]; rfl
 ·rw [val_append, val_replicate, List.length_replicate, Nat.zero_add]
theorem upW_nw {n : Nat} {xs : List Nat} (h : Ok xs) : (List.length (words (val (upW n xs)))) ≤ n + xs.length := by
 rw [upW_val]
 refine nw_le ?_
 rw [Nat.pow_add]
 exact Nat.mul_lt_mul_of_pos_left (val_lt h) (pow_pos' n)
theorem ok_take {xs : List Nat} (h : Ok xs) (n : Nat) : Ok (xs.take n) := fun x hx => h x (List.mem_of_mem_take hx)
theorem ok_drop {xs : List Nat} (h : Ok xs) (n : Nat) : Ok (xs.drop n) := fun x hx => h x (List.mem_of_mem_drop hx)
theorem lowW_nw (a n : Nat) : (List.length (words (val ((words a).take n)))) ≤ min n ((List.length (words a))) := by
 have := nw_val (ok_take (words_ok a) n)
 rwa [List.length_take] at this
theorem highW_nw (a n : Nat) : (List.length (words (val ((words a).drop n)))) ≤ (List.length (words a)) - n := by
 have := nw_val (ok_drop (words_ok a) n)
 rwa [List.length_drop] at this
theorem halves (a n : Nat) : val ((words a).take n) + W ^ n * val ((words a).drop n) = a := by
 rcases Nat.lt_or_ge n (words a).length with h | h
 ·have e := val_append ((words a).take n) ((words a).drop n)
  rw [List.take_append_drop, val_words, List.length_take, Nat.min_eq_left (Nat.le_of_lt h)] at e
  exact e.symm
 ·rw [List.take_of_length_le h, List.drop_eq_nil_of_le h, val_words]; exact Nat.add_zero _
theorem kara (p q r s n : Nat) : p * r + W ^ n * ((p + q) * (r + s) - p * r - q * s) + W ^ (2 * n) * (q * s) = (p + W ^ n * q) * (r + W ^ n * s) := by
 have e : (p + q) * (r + s) - p * r - q * s = p * s + q * r := by
  rw [Nat.add_mul, Nat.mul_add, Nat.mul_add]; omega
 rw [e, Nat.two_mul, Nat.pow_add]
 generalize W ^ n = w
 simp only [Nat.add_mul, Nat.mul_add, Nat.mul_assoc, Nat.mul_left_comm, Nat.mul_comm, Nat.add_assoc, Nat.add_left_comm, Nat.add_comm]
theorem mul_low {xs : List Nat} {n : Nat} : Ctr Tryz.prog 99 [isWords xs, isI (n : Int)] (isWords (xs.take n)) := by
 refine Ctr.i Tryz.func99 rfl Tryz.ntmps99 fun w0 F0 => .w [0,1] rfl (.fact (Has.lenLt (Has.t (t := 0) rfl)) fun lt0 => .fact (Has.okW (Has.t (t := 0) rfl)) fun ok0 => .fact (Has.rngI (Has.t (t := 1) rfl)) fun lt1 => .sr fun k1 => st (.as (.cW (f := isU))) rfl (nkQ k1 (.sq fun k2 => .sr fun k3 => stM rfl (st (.len sl31 (.t rfl)) rfl (stM rfl (st (.leI (.t rfl) (.t rfl)) rfl (nkQ k3 (.cd rfl (fun hc1 => ?_) (fun hc1 => ?_)))))))))
 ·refine .sr fun k4 => stM rfl (stM rfl (nkQ k4 (.w [0,1,4] rfl (.ret (.thr (rt1 (.inl rfl) Tryz.results99 rfl (.tmp (Has.t' rfl ?_) .nil)))))))
  all_goals (exact SlM_eq (List.take_of_length_le (by omega)).symm)
 ·refine .skip (.nk k2 (.sr fun k5 => stM rfl (stM rfl (st (.slHM sl31 ty50 (.t rfl) (.t rfl) (by omega)) rfl (stM rfl (nkQ k5 (.w [4] rfl (.ret (rt1 (.inl rfl) Tryz.results99 rfl (.tmp (Has.t' rfl ?_) .nil))))))))))
  all_goals (exact SlM_eq (by rw [Int.toNat_natCast]))
theorem mul_high {xs : List Nat} {n : Nat} : Ctr Tryz.prog 100 [isWords xs, isI (n : Int)] (isWords (xs.drop n)) := by
 refine Ctr.i Tryz.func100 rfl Tryz.ntmps100 fun w0 F0 => .w [0,1] rfl (.fact (Has.lenLt (Has.t (t := 0) rfl)) fun lt0 => .fact (Has.okW (Has.t (t := 0) rfl)) fun ok0 => .fact (Has.rngI (Has.t (t := 1) rfl)) fun lt1 => .sr fun k1 => st (.as (.cW (f := isU))) rfl (nkQ k1 (.sq fun k2 => .sr fun k3 => stM rfl (st (.len sl31 (.t rfl)) rfl (stM rfl (st (.leI (.t rfl) (.t rfl)) rfl (nkQ k3 (.cd rfl (fun hc1 => ?_) (fun hc1 => ?_)))))))))
 ·refine .sr fun k4 => st (.as (.cW (f := isU))) rfl (nkQ k4 (.ret (.thr (rt1 (.inl rfl) Tryz.results100 rfl (.tmp (Has.t' rfl ?_) .nil)))))
  all_goals (exact SlM_eq (List.drop_eq_nil_of_le (by omega)).symm)
 ·refine .skip (.nk k2 (.sr fun k5 => stM rfl (stM rfl (st (.slLM sl31 ty50 (.t rfl) (.t rfl) (by omega)) rfl (stM rfl (nkQ k5 (.w [4] rfl (.ret (rt1 (.inl rfl) Tryz.results100 rfl (.tmp (Has.t' rfl ?_) .nil))))))))))
  all_goals (exact SlM_eq (by rw [Int.toNat_natCast]))
theorem mul_less {xs ys : List Nat} (hx : (List.length (words (val xs))) < 4294967296) : Ctr Tryz.prog 101 [isWords xs, isWords ys] (isWords (words (val xs - val ys))) := by
 refine Ctr.i Tryz.func101 rfl Tryz.ntmps101 fun w0 F0 => .w [0,1] rfl (.fact (Has.lenLt (Has.t (t := 0) rfl)) fun lt0 => .fact (Has.okW (Has.t (t := 0) rfl)) fun ok0 => .fact (Has.lenLt (Has.t (t := 1) rfl)) fun lt1 => .fact (Has.okW (Has.t (t := 1) rfl)) fun ok1 => .sr fun k1 => st (.as (.cW (f := isU))) rfl (nkQ k1 (.sr fun k2 => stM rfl (stM rfl (st (.call (nat_Sub (by with_reducible assumption)) (.cons (.t rfl) (.cons (.t rfl) .nil))) rfl (stM rfl (st (.ext (.t rfl) rfl) rfl (st (.ext (.t rfl) rfl) rfl (stM rfl (stM rfl (nkQ k2 (.w [4,5] rfl (.sr fun k3 => stM rfl (stM rfl (nkQ k3 (.ret (rt1 (.inl rfl) Tryz.results101 rfl (.tmp (Has.t' rfl ?_) .nil))))))))))))))))))
 all_goals (rfl)
theorem mul_up {xs : List Nat} {n : Nat} (hn : n + xs.length ≤ 4294967296) : Ctr Tryz.prog 113 [isWords xs, isI (n : Int)] (isWords (upW n xs)) := by
 refine Ctr.i Tryz.func113 rfl Tryz.ntmps113 fun w0 F0 => .w [0,1] rfl (.fact (Has.lenLt (Has.t (t := 0) rfl)) fun lt0 => .fact (Has.okW (Has.t (t := 0) rfl)) fun ok0 => .fact (Has.rngI (Has.t (t := 1) rfl)) fun lt1 => .sr fun k1 => st (.as (.cW (f := isU))) rfl (nkQ k1 (.sq fun k2 => .sr fun k3 => stM rfl (st (.len sl31 (.t rfl)) rfl (st (.eqI (.t rfl) (.cI 0 rfl)) rfl (nkQ k3 (.cd rfl (fun hc1 => ?_) (fun hc1 => ?_))))))))
 ·refine .sr fun k4 => st (.as (.cW (f := isU))) rfl (nkQ k4 (.ret (.thr (rt1 (.inl rfl) Tryz.results113 rfl (.tmp (Has.t' rfl ?_) .nil)))))
  all_goals (exact SlM_eq (upW_nil (by omega)))
 ·refine .skip (.nk k2 (.sr fun k5 => stM rfl (stM rfl (stM rfl (st (.len sl31 (.t rfl)) rfl (st (.eq (.addI (.t rfl) (.t rfl) (by omega) (by omega)) ((show isI _ = isI ((n + xs.length : Nat) : Int) from isI_eq (by omega)))) rfl (.make (f := isU) (u := 0) (n := n) (c := n + xs.length) sl31 ty50 zero50 (fun _ _ => ⟨⟨rfl, by decide⟩, trivial⟩) by50 (Has.t' rfl rfl) (Has.t' rfl rfl) (by omega) rfl fun b1 => stM rfl (.cv (Cv.winGrM (f := isU) (t := 13) (i := 0) (ys := List.replicate n 0) rfl rfl (by simp) (by simp) (by simp)) ?_))))))))
  refine .memEq (M' := [grM _ _ _]) rfl (.appendG (f := isU) (u := 0) sl31 ty50 zero50 (fun _ _ => ⟨⟨rfl, by decide⟩, trivial⟩) (fun _ => inferInstance) by50 (.t rfl) (i := 0) rfl (.t rfl) (by rw [List.length_replicate]; exact hn) (by omega) rfl fun gr1 => ?_)
  refine .memEq (M' := [grM _ _ _]) rfl (.cv (Cv.freezeGn (t := 15) (i := 0) (ys := List.replicate n 0 ++ xs) rfl rfl rfl (by simp)) ?_)
  refine .memEq (M' := []) rfl (.w [0,1,4,5,6,7,8,9,10,11,12,14,15] rfl (stM rfl (nkQ k5 (.w [4] rfl (.ret (rt1 (.inl rfl) Tryz.results113 rfl (.tmp (Has.t' rfl ?_) .nil)))))))
  all_goals (exact SlM_eq (upW_app (by omega)))
theorem mul_joined {xs ys zs : List Nat} {n : Nat} (hx : (List.length (words (val xs))) ≤ 2100000000) (hn : n ≤ 1000000000) (hy : ys.length ≤ 2000000000) (hz : zs.length ≤ 2000000000) : Ctr Tryz.prog 102 [isWords xs, isWords ys, isWords zs, isI (n : Int)] (isWords (words (val xs + W ^ n * val ys + W ^ (2 * n) * val zs))) := by
 refine Ctr.i Tryz.func102 rfl Tryz.ntmps102 fun w0 F0 => .w [0,1,2,3] rfl (.fact (Has.lenLt (Has.t (t := 0) rfl)) fun lt0 => .fact (Has.okW (Has.t (t := 0) rfl)) fun ok0 => .fact (Has.lenLt (Has.t (t := 1) rfl)) fun lt1 => .fact (Has.okW (Has.t (t := 1) rfl)) fun ok1 => .fact (Has.lenLt (Has.t (t := 2) rfl)) fun lt2 => .fact (Has.okW (Has.t (t := 2) rfl)) fun ok2 => .fact (Has.rngI (Has.t (t := 3) rfl)) fun lt3 => ?_)
 have u1 := upW_nw (n := n) ok1
 have u2 := upW_nw (n := 2 * n) ok2
 have h1 := nw_add_le (val xs) (val (upW n ys))
 refine .sr fun k1 => st (.as (.cW (f := isU))) rfl (nkQ k1 (.sr fun k2 => st (.as (Has.fn (ι := { p : List Nat × Nat // p.2 + p.1.length ≤ 4294967296 }) (As := fun p => [isWords p.1.1, isI (p.1.2 : Int)]) (R := fun p => isWords (upW p.1.2 p.1.1)) (fun p => mul_up p.2))) rfl (nkQ k2 (.sr fun k3 => stM rfl (stM rfl (stM rfl ?_))))))
 refine stM rfl (st (.callV ⟨(ys, n), by show n + ys.length ≤ _; omega⟩ (.t rfl) (.cons (.t rfl) (.cons (.t rfl) .nil))) rfl ?_)
 refine st (.call (nat_Add (by omega) (by simp only [val_words]; omega)) (.cons (.t rfl) (.cons (.t rfl) .nil))) rfl ?_
 refine stM rfl (stM rfl (stM rfl (st (.eq (.mulI (.cI 2 rfl) (.t rfl) (by omega) (by omega)) ((show isI _ = isI ((2 * n : Nat) : Int) from isI_eq (by omega)))) rfl ?_)))
 refine st (.callV ⟨(zs, 2 * n), by show 2 * n + zs.length ≤ _; omega⟩ (.t rfl) (.cons (.t rfl) (.cons (.t rfl) .nil))) rfl ?_
 refine st (.call (nat_Add (by simp only [val_words]; omega) (by simp only [val_words]; omega)) (.cons (.t rfl) (.cons (.t rfl) .nil))) rfl ?_
 refine stM rfl (nkQ k3 (.w [8] rfl (.ret (rt1 (.inl rfl) Tryz.results102 rfl (.tmp (Has.t' rfl ?_) .nil)))))
 all_goals (exact SlM_eq (by rw [val_words, upW_val, upW_val]))
theorem mul_MulStep {xs ys : List Nat} (hx : (List.length (words (val xs))) ≤ 1000000000) (hy : (List.length (words (val ys))) ≤ 1000000000) (IH : ∀ us vs : List Nat, max ((List.length (words (val us)))) ((List.length (words (val vs)))) < max ((List.length (words (val xs)))) ((List.length (words (val ys)))) → (List.length (words (val us))) ≤ 1000000000 → (List.length (words (val vs))) ≤ 1000000000 → Ctr Tryz.prog 84 [isWords us, isWords vs] (isWords (words (val us * val vs)))) : Ctr Tryz.prog 84 [isWords xs, isWords ys] (isWords (words (val xs * val ys))) := by
 refine Ctr.i Tryz.func84 rfl Tryz.ntmps84 fun w0 F0 => .w [0,1] rfl (.fact (Has.lenLt (Has.t (t := 0) rfl)) fun lt0 => .fact (Has.okW (Has.t (t := 0) rfl)) fun ok0 => .fact (Has.lenLt (Has.t (t := 1) rfl)) fun lt1 => .fact (Has.okW (Has.t (t := 1) rfl)) fun ok1 => ?_)
 obtain ⟨N, hN⟩ : ∃ N, N = (max ((List.length (words (val xs)))) ((List.length (words (val ys)))) + 1) / 2 := ⟨_, rfl⟩
 have kp := lowW_nw (val xs) N
 have kq := highW_nw (val xs) N
 have kr := lowW_nw (val ys) N
 have ks := highW_nw (val ys) N
 have ka := nw_add_le (val ((words (val xs)).take N)) (val ((words (val xs)).drop N))
 have kb := nw_add_le (val ((words (val ys)).take N)) (val ((words (val ys)).drop N))
 have ea := halves (val xs) N
 have eb := halves (val ys) N
 obtain ⟨p, hp⟩ : ∃ p, p = (words (val xs)).take N := ⟨_, rfl⟩
 obtain ⟨q, hq⟩ : ∃ q, q = (words (val xs)).drop N := ⟨_, rfl⟩
 obtain ⟨r, hr⟩ : ∃ r, r = (words (val ys)).take N := ⟨_, rfl⟩
 obtain ⟨s, hs⟩ : ∃ s, s = (words (val ys)).drop N := ⟨_, rfl⟩
 rw [← hp] at kp ka ea
 rw [← hq] at kq ka ea
 rw [← hr] at kr kb eb
 rw [← hs] at ks kb eb
 have kpr := nw_mul_le (val p) (val r)
 have kqs := nw_mul_le (val q) (val s)
 have kc := nw_mul_le (val p + val q) (val r + val s)
 have kc2 := nw_mono (Nat.sub_le ((val p + val q) * (val r + val s)) (val p * val r))
 have kc3 := nw_mono (Nat.sub_le ((val p + val q) * (val r + val s) - val p * val r) (val q * val s))
 refine .sr fun k1 => st (.as (.cW (f := isU))) rfl (nkQ k1 (.sr fun k2 => stM rfl (st (.eq (.call (nat_Norm (by omega)) (.cons (.t rfl) .nil)) (by rfl)) rfl (stM rfl (st (.eq (.call (nat_Norm (by omega)) (.cons (.t rfl) .nil)) (by rfl)) rfl (stM rfl (stM rfl (nkQ k2 (.sq fun k3 => .sr fun k4 => stM rfl (st (.len sl31 (.t rfl)) rfl (stM rfl (st (.len sl31 (.t rfl)) rfl (st (.minI (.t rfl) (.t rfl)) rfl (st (.leI (.t rfl) (.cI 8 rfl)) rfl (nkQ k4 (.w [0,1,4,22] rfl (.cd rfl (fun hc1 => ?_) (fun hc1 => ?_))))))))))))))))))
 ·have HM : (List.length (words (val xs))) ≤ 8 ∨ (List.length (words (val ys))) ≤ 8 := (by revert hc1; split <;> intro hc1 <;> omega)
  refine .sr fun k5 => stM rfl (stM rfl (st (.eq (.call (nat_Mul (by simp only [val_words]; omega)) (.cons (.t rfl) (.cons (.t rfl) .nil))) (by simp only [val_words]; rfl)) rfl ?_))
  refine stM rfl (nkQ k5 (.ret (.thr (rt1 (.inl rfl) Tryz.results84 rfl (.tmp (Has.t' rfl ?_) .nil)))))
  all_goals (rfl)
 ·have HM : 8 < (List.length (words (val xs))) ∧ 8 < (List.length (words (val ys))) := (by revert hc1; split <;> intro hc1 <;> omega)
  refine .skip (.nk k3 (.sr fun k6 => stM rfl (st (.len sl31 (.t rfl)) rfl (stM rfl (st (.len sl31 (.t rfl)) rfl (st (.maxI (.t rfl) (.t rfl)) rfl (st (.addI (.t rfl) (.cI 1 rfl) (by omega) (by omega)) rfl (st (.eq (.quoI (.t rfl) (.cI 2 rfl) (by omega) (by omega) (by omega)) ((show isI _ = isI (N : Int) from isI_eq (by rw [hN]; split <;> omega)))) rfl ?_))))))))
  refine stM rfl (nkQ k6 (.w [0,1,4,5] rfl (.sr fun k7 => stM rfl (stM rfl (st (.eq (.call (mul_low) (.cons (.t rfl) (.cons (.t rfl) .nil))) ((show isWords ((words (val xs)).take N) = isWords p from SlM_eq hp.symm))) rfl (stM rfl (stM rfl (st (.eq (.call (mul_high) (.cons (.t rfl) (.cons (.t rfl) .nil))) ((show isWords ((words (val xs)).drop N) = isWords q from SlM_eq hq.symm))) rfl (stM rfl (stM rfl (st (.eq (.call (mul_low) (.cons (.t rfl) (.cons (.t rfl) .nil))) ((show isWords ((words (val ys)).take N) = isWords r from SlM_eq hr.symm))) rfl (stM rfl (stM rfl (st (.eq (.call (mul_high) (.cons (.t rfl) (.cons (.t rfl) .nil))) ((show isWords ((words (val ys)).drop N) = isWords s from SlM_eq hs.symm))) rfl (stM rfl (stM rfl (stM rfl (stM rfl (nkQ k7 (.w [4,5,6,7,8,9] rfl (.sr fun k8 => stM rfl (stM rfl (st (.call (IH _ _ (by omega) (by omega) (by omega)) (.cons (.t rfl) (.cons (.t rfl) .nil))) rfl (stM rfl (stM rfl (st (.call (IH _ _ (by omega) (by omega) (by omega)) (.cons (.t rfl) (.cons (.t rfl) .nil))) rfl (stM rfl (stM rfl (nkQ k8 (.w [4,5,6,7,8,9,10,11] rfl (.sr fun k9 => stM rfl (stM rfl (st (.eq (.call (nat_Add (by omega) (by omega)) (.cons (.t rfl) (.cons (.t rfl) .nil))) ((show isWords (words (val p + val q)) = _ from rfl))) rfl (stM rfl (stM rfl ?_)))))))))))))))))))))))))))))))))))
  refine st (.call (nat_Add (by omega) (by omega)) (.cons (.t rfl) (.cons (.t rfl) .nil))) rfl (st (.eq (.call (IH _ _ (by simp only [val_words]; omega) (by simp only [val_words]; omega) (by simp only [val_words]; omega)) (.cons (.t rfl) (.cons (.t rfl) .nil))) ((show isWords _ = isWords (words ((val p + val q) * (val r + val s))) from SlM_eq (by rw [val_words, val_words])))) rfl ?_)
  refine stM rfl (st (.eq (.call (mul_less (by simp only [val_words]; omega)) (.cons (.t rfl) (.cons (.t rfl) .nil))) ((show isWords _ = isWords (words ((val p + val q) * (val r + val s) - val p * val r)) from SlM_eq (by rw [val_words, val_words])))) rfl ?_)
  refine stM rfl (st (.eq (.call (mul_less (by simp only [val_words]; omega)) (.cons (.t rfl) (.cons (.t rfl) .nil))) ((show isWords _ = isWords (words ((val p + val q) * (val r + val s) - val p * val r - val q * val s)) from SlM_eq (by rw [val_words, val_words])))) rfl ?_)
  refine stM rfl (nkQ k9 (.w [4,5,10,11,12] rfl (.sr fun k10 => stM rfl (stM rfl (stM rfl (stM rfl (st (.call (mul_joined (by simp only [val_words]; omega) (by omega) (by omega) (by omega)) (.cons (.t rfl) (.cons (.t rfl) (.cons (.t rfl) (.cons (.t rfl) .nil))))) rfl ?_)))))))
  refine stM rfl (nkQ k10 (.w [4] rfl (.ret (rt1 (.inl rfl) Tryz.results84 rfl (.tmp (Has.t' rfl ?_) .nil)))))
  all_goals (exact SlM_eq (by simp only [val_words]; rw [kara, ea, eb]))
theorem mul_Mul : ∀ {xs ys : List Nat}, (List.length (words (val xs))) ≤ 1000000000 → (List.length (words (val ys))) ≤ 1000000000 → Ctr Tryz.prog 84 [isWords xs, isWords ys] (isWords (words (val xs * val ys))) := by
 have h : ∀ N, ∀ xs ys : List Nat, max ((List.length (words (val xs)))) ((List.length (words (val ys)))) ≤ N → (List.length (words (val xs))) ≤ 1000000000 → (List.length (words (val ys))) ≤ 1000000000 → Ctr Tryz.prog 84 [isWords xs, isWords ys] (isWords (words (val xs * val ys))) := by
  intro N
  induction N with
  | zero => intro xs ys h hx hy; exact mul_MulStep hx hy (fun us vs hl => absurd hl (by omega))
  | succ N ih => intro xs ys h hx hy; exact mul_MulStep hx hy (fun us vs hl => ih us vs (by omega))
 intro xs ys hx hy
 exact h _ xs ys (Nat.le_refl _) hx hy
theorem zint_From {xs : List Nat} {m : Bool} (hx : (List.length (words (val xs))) ≤ 4294967296) : Ctr Tryz.prog 22 [isWords xs, isB m] (isZ (zv m xs)) := by
 refine Ctr.i Tryz.func22 rfl Tryz.ntmps22 fun w0 F0 => .w [0,1] rfl (.fact (Has.lenLt (Has.t (t := 0) rfl)) fun lt0 => .fact (Has.okW (Has.t (t := 0) rfl)) fun ok0 => .sr fun k1 => .alloc [isB false, SlM isU []] zero33 (fun _ _ => ⟨rfl, nilM _ _, trivial⟩) rfl fun b1 => nkQ k1 (.sr fun k2 => stM rfl (st (.call (nat_Norm (by with_reducible assumption)) (.cons (.t rfl) .nil)) rfl (stM rfl (nkQ k2 (.sr fun k3 => stM rfl (stM rfl (stT rfl rfl (fun hg => .mv (.t rfl)) rfl (stT rfl rfl (fun hg => .len sl31 (Has.g rfl hg)) rfl (stT rfl rfl (fun hg => .gtI (Has.g rfl hg) (.cI 0 rfl)) rfl (st (.pickAnd (.t rfl) (fun h => Has.g rfl h)) rfl (stM rfl (st (.build [isB false, SlM isU []] pl33 zero33 (fun _ _ => ⟨rfl, nilM _ _, trivial⟩) (.cons (.t rfl) rfl rfl rfl (.cons (.t rfl) rfl rfl rfl .nil)) (Z'' := [_, _]) rfl) rfl (.store (.t rfl) (.t rfl) (i := 0) rfl ty33 rfl rfl (Ss' := [_, _]) rfl (M' := [(some _, cellM [_, _])]) rfl (nkQ k3 (.w [4] rfl (.ret (rt1 (.inl rfl) Tryz.results22 rfl (.cell rfl (i := 0) rfl ty33 rfl ?_ .nil)))))))))))))))))))
 ·exact isZ_of (from_neg m xs) (by rw [zv_abs])
theorem zint_Of {x : Int} : Ctr Tryz.prog 8 [isI x] (isZ x) := by
 refine Ctr.i Tryz.func8 rfl Tryz.ntmps8 fun w0 F0 => .w [0] rfl (.fact (Has.rngI (Has.t (t := 0) rfl)) fun lt0 => .sr fun k1 => .alloc [isB false, SlM isU []] zero33 (fun _ _ => ⟨rfl, nilM _ _, trivial⟩) rfl fun b1 => nkQ k1 (.sq fun k2 => .sr fun k3 => stM rfl (st (.ltI (.t rfl) (.cI 0 rfl)) rfl (nkQ k3 (.cd rfl (fun hc1 => ?_) (fun hc1 => ?_))))))
 ·have hN : x < 0 := hc1
  refine .sr fun k4 => stM rfl (st (.convIUw un2 un50 (.t rfl)) rfl (st (.eq (.negU (.t rfl) (by omega)) ((show isU _ = isU x.natAbs from isU_eq (neg_word hc1 (by omega))))) rfl (st (.call (nat_Of) (.cons (.t rfl) .nil)) rfl (st (.call (zint_From (by simp only [val_words]; exact Nat.le_trans (nw_small' (by omega)) (by decide))) (.cons (.t rfl) (.cons (.cB true) .nil))) rfl ?_))))
  refine .store (.t rfl) (.t rfl) (i := 0) rfl ty33 rfl rfl (Ss' := [_, _]) rfl (M' := [(some _, cellM [_, _])]) rfl (nkQ k4 (.w [0,2] rfl (.ret (.thr (rt1 (.inl rfl) Tryz.results8 rfl (.cell rfl (i := 0) rfl ty33 rfl ?_ .nil))))))
  ·exact isZ_eq (by rw [from_word, if_pos rfl]; omega)
 ·have hN : 0 ≤ x := (by omega)
  refine .skip (.nk k2 (.sr fun k5 => stM rfl (st (.eq (.convIU un2 un50 (.t rfl) (by with_reducible assumption) (by omega)) ((show isU _ = isU x.natAbs from isU_eq (by omega)))) rfl (st (.call (nat_Of) (.cons (.t rfl) .nil)) rfl (st (.call (zint_From (by simp only [val_words]; exact Nat.le_trans (nw_small' (by omega)) (by decide))) (.cons (.t rfl) (.cons (.cB false) .nil))) rfl ?_)))))
  refine .store (.t rfl) (.t rfl) (i := 0) rfl ty33 rfl rfl (Ss' := [_, _]) rfl (M' := [(some _, cellM [_, _])]) rfl (nkQ k5 (.w [2] rfl (.ret (rt1 (.inl rfl) Tryz.results8 rfl (.cell rfl (i := 0) rfl ty33 rfl ?_ .nil)))))
  ·exact isZ_eq (by rw [from_word, if_neg (by decide)]; omega)
theorem zint_Sign {m : Bool} {xs : List Nat} (hx : (List.length (words (val xs))) < 4294900000) : Ctr Tryz.prog 16 [Flat [isB m, isWords xs]] (isI (sgn (zv m xs))) := by
 refine Ctr.i Tryz.func16 rfl Tryz.ntmps16 fun w0 F0 => .w [0] rfl (.fact (Has.okZ (Has.t (t := 0) rfl)) fun okz0 => .sr fun k1 => .box (.t rfl) rfl fun b1 => st (.as (.cI 0 rfl)) rfl (nkQ k1 (.sq fun k2 => .block (.sr fun k3 => st (.fieldAddr (.t rfl) fld33_1 ty31) rfl (st (.load1 (.t rfl) (i := 0) rfl ty31 rfl) rfl (st (.call (nat_Bits (by omega)) (.cons (.t rfl) .nil)) rfl (st (.eqI (.t rfl) (.cI 0 rfl)) rfl (stM rfl (nkQ k3 (.w [1,2,3] rfl (.cd rfl (fun hc1 => ?_) (fun hc1 => ?_))))))))))))
 ·refine .sr fun k4 => st (.as (.cI 0 rfl)) rfl (nkQ k4 (.ret (.blr (.thr (rt1 (.inl rfl) Tryz.results16 rfl (.tmp (Has.t' rfl ?_) .nil))))))
  all_goals (exact isI_eq (sgn_zero hc1))
 ·refine .sr fun k5 => st (.fieldAddr (.t rfl) fld33_0 ty4) rfl (st (.load1 (.t rfl) (i := 0) rfl ty4 rfl) rfl (stM rfl (nkQ k5 (.cd rfl (fun hc2 => ?_) (fun hc2 => ?_)))))
  ·have HM := hc2
   refine .sr fun k6 => st (.as (.cI (-1) rfl)) rfl (nkQ k6 (.w [2] rfl (.ret (.blr (.thr (rt1 (.inl rfl) Tryz.results16 rfl (.tmp (Has.t' rfl ?_) .nil)))))))
   all_goals (exact isI_eq (by rw [← sgn_of hc1, if_pos HM]))
  ·have HM := hc2
   refine .skip (.bln (.nk k2 (.w [2] rfl (.sr fun k7 => st (.as (.cI 1 rfl)) rfl (nkQ k7 (.ret (rt1 (.inl rfl) Tryz.results16 rfl (.tmp (Has.t' rfl ?_) .nil))))))))
   all_goals (exact isI_eq (by rw [← sgn_of hc1, if_neg (by rw [HM]; decide)]))
theorem zint_Cmp {m n : Bool} {xs ys : List Nat} (hx : (List.length (words (val xs))) < 4294700000) (hy : (List.length (words (val ys))) < 4294700000) : Ctr Tryz.prog 68 [Flat [isB m, isWords xs], Flat [isB n, isWords ys]] (isI (cmpZ (zv m xs) (zv n ys))) := by
 refine Ctr.i Tryz.func68 rfl Tryz.ntmps68 fun w0 F0 => .w [0,1] rfl (.fact (Has.okZ (Has.t (t := 0) rfl)) fun okz0 => .fact (Has.okZ (Has.t (t := 1) rfl)) fun okz1 => .sr fun k1 => .box (.t rfl) rfl fun b1 => .box (.t rfl) rfl fun b2 => st (.as (.cI 0 rfl)) rfl (nkQ k1 (.sq fun k2 => .dr (.so [] rfl (.load (.t rfl) (i := 1) rfl ty33 rfl (Ss' := [_, _]) rfl) (.so [7] rfl (.call (zint_Sign (by omega)) (.cons (.t rfl) .nil)) (.so [] rfl (.load (.t rfl) (i := 0) rfl ty33 rfl (Ss' := [_, _]) rfl) (.fn (n := 3) mixed (.w [2,3,4,8,9] rfl (st (.call (zint_Sign (by omega)) (.cons (.t rfl) .nil)) rfl (stM rfl (stM rfl (nkQ k2 (.sq fun k3 => .block (.sr fun k4 => stM rfl (stM rfl (st (.ltI (.t rfl) (.t rfl)) rfl (stM rfl (nkQ k4 (.w [2,3,4,5,6,11] rfl ?_)))))))))))))))))))
 refine .cd rfl (fun hc1 => ?_) (fun hc1 => ?_)
 ·refine .sr fun k5 => st (.as (.cI (-1) rfl)) rfl (nkQ k5 (.ret (.blr (.thr (rt1 (.inl rfl) Tryz.results68 rfl (.tmp (Has.t' rfl ?_) .nil))))))
  all_goals (exact isI_eq (cmpZ_lt hc1))
 ·refine .sr fun k6 => stM rfl (stM rfl (st (.gtI (.t rfl) (.t rfl)) rfl (stM rfl (nkQ k6 (.w [2,3,4,5,15] rfl (.cd rfl (fun hc2 => ?_) (fun hc2 => ?_)))))))
  ·refine .sr fun k7 => st (.as (.cI 1 rfl)) rfl (nkQ k7 (.ret (.blr (.thr (rt1 (.inl rfl) Tryz.results68 rfl (.tmp (Has.t' rfl ?_) .nil))))))
   all_goals (exact isI_eq (cmpZ_gt hc2))
  ·refine .sr fun k8 => stM rfl (st (.ltI (.t rfl) (.cI 0 rfl)) rfl (stM rfl (nkQ k8 (.cd rfl (fun hc3 => ?_) (fun hc3 => ?_)))))
   ·refine .sr fun k9 => st (.fieldAddr (.t rfl) fld33_1 ty31) rfl (st (.load1 (.t rfl) (i := 0) rfl ty31 rfl) rfl (st (.fieldAddr (.t rfl) fld33_1 ty31) rfl (st (.load1 (.t rfl) (i := 1) rfl ty31 rfl) rfl (st (.call (nat_Cmp) (.cons (.t rfl) (.cons (.t rfl) .nil))) rfl (stM rfl (nkQ k9 (.w [2,3,4] rfl (.ret (.blr (.thr (rt1 (.inl rfl) Tryz.results68 rfl (.tmp (Has.t' rfl ?_) .nil))))))))))))
    all_goals (exact isI_eq (cmpZ_neg hc3 (by omega) (by omega)))
   ·refine .skip (.bln (.nk k3 (.w [2,3,4] rfl (.sr fun k10 => st (.fieldAddr (.t rfl) fld33_1 ty31) rfl (st (.load1 (.t rfl) (i := 1) rfl ty31 rfl) rfl (st (.fieldAddr (.t rfl) fld33_1 ty31) rfl (st (.load1 (.t rfl) (i := 0) rfl ty31 rfl) rfl (st (.call (nat_Cmp) (.cons (.t rfl) (.cons (.t rfl) .nil))) rfl (stM rfl (nkQ k10 (.w [4] rfl (.ret (rt1 (.inl rfl) Tryz.results68 rfl (.tmp (Has.t' rfl ?_) .nil))))))))))))))
    all_goals (exact isI_eq (cmpZ_pos (by omega) (by omega) (by omega)))
theorem zint_Same {m n : Bool} {xs ys : List Nat} (hx : (List.length (words (val xs))) < 4294700000) (hy : (List.length (words (val ys))) < 4294700000) : Ctr Tryz.prog 120 [Flat [isB m, isWords xs], Flat [isB n, isWords ys]] (isB (decide (zv m xs = zv n ys))) := by
 refine Ctr.i Tryz.func120 rfl Tryz.ntmps120 fun w0 F0 => .w [0,1] rfl (.fact (Has.okZ (Has.t (t := 0) rfl)) fun okz0 => .fact (Has.okZ (Has.t (t := 1) rfl)) fun okz1 => .sr fun k1 => .box (.t rfl) rfl fun b1 => .box (.t rfl) rfl fun b2 => st (.as (.cB false)) rfl (nkQ k1 (.sr fun k2 => st (.load (.t rfl) (i := 1) rfl ty33 rfl (Ss' := [_, _]) rfl) rfl (st (.load (.t rfl) (i := 0) rfl ty33 rfl (Ss' := [_, _]) rfl) rfl (st (.call (zint_Cmp (by with_reducible assumption) (by with_reducible assumption)) (.cons (.t rfl) (.cons (.t rfl) .nil))) rfl (st (.eqI (.t rfl) (.cI 0 rfl)) rfl (stM rfl (nkQ k2 (.w [4] rfl (.ret (rt1 (.inl rfl) Tryz.results120 rfl (.tmp (Has.t' rfl ?_) .nil))))))))))))
 all_goals (exact isB_eq (cmpZ_eq0 _ _))
theorem zint_Neg {m : Bool} {xs : List Nat} (hx : (List.length (words (val xs))) < 4294900000) : Ctr Tryz.prog 50 [Flat [isB m, isWords xs]] (isZ (-(zv m xs))) := by
 refine Ctr.i Tryz.func50 rfl Tryz.ntmps50 fun w0 F0 => .w [0] rfl (.fact (Has.okZ (Has.t (t := 0) rfl)) fun okz0 => .sr fun k1 => .box (.t rfl) rfl fun b1 => .alloc [isB false, SlM isU []] zero33 (fun _ _ => ⟨rfl, nilM _ _, trivial⟩) rfl fun b2 => nkQ k1 (.sr fun k2 => st (.fieldAddr (.t rfl) fld33_1 ty31) rfl (st (.load1 (.t rfl) (i := 1) rfl ty31 rfl) rfl (st (.fieldAddr (.t rfl) fld33_0 ty4) rfl (st (.load1 (.t rfl) (i := 1) rfl ty4 rfl) rfl (st (.not (.t rfl)) rfl (st (.call (zint_From (by omega)) (.cons (.t rfl) (.cons (.t rfl) .nil))) rfl (.store (.t rfl) (.t rfl) (i := 0) rfl ty33 rfl rfl (Ss' := [_, _]) rfl (M' := [(some _, cellM [_, _]), _]) rfl (nkQ k2 (.w [2] rfl (.ret (rt1 (.inl rfl) Tryz.results50 rfl (.cell rfl (i := 0) rfl ty33 rfl ?_ .nil)))))))))))))
 ·exact isZ_eq (zv_not m xs)
theorem zint_Abs {m : Bool} {xs : List Nat} (hx : (List.length (words (val xs))) < 4294900000) : Ctr Tryz.prog 103 [Flat [isB m, isWords xs]] (isZ (((zv m xs).natAbs : Nat) : Int)) := by
 refine Ctr.i Tryz.func103 rfl Tryz.ntmps103 fun w0 F0 => .w [0] rfl (.fact (Has.okZ (Has.t (t := 0) rfl)) fun okz0 => .sr fun k1 => .box (.t rfl) rfl fun b1 => .alloc [isB false, SlM isU []] zero33 (fun _ _ => ⟨rfl, nilM _ _, trivial⟩) rfl fun b2 => nkQ k1 (.sr fun k2 => st (.fieldAddr (.t rfl) fld33_1 ty31) rfl (st (.load1 (.t rfl) (i := 1) rfl ty31 rfl) rfl (st (.call (zint_From (by omega)) (.cons (.t rfl) (.cons (.cB false) .nil))) rfl (.store (.t rfl) (.t rfl) (i := 0) rfl ty33 rfl rfl (Ss' := [_, _]) rfl (M' := [(some _, cellM [_, _]), _]) rfl (nkQ k2 (.w [2] rfl (.ret (rt1 (.inl rfl) Tryz.results103 rfl (.cell rfl (i := 0) rfl ty33 rfl ?_ .nil))))))))))
 ·exact isZ_eq (by rw [zv_abs]; exact zv_false xs)
theorem zint_Add {m n : Bool} {xs ys : List Nat} (hx : (List.length (words (val xs))) < 4294700000) (hy : (List.length (words (val ys))) < 4294700000) : Ctr Tryz.prog 58 [Flat [isB m, isWords xs], Flat [isB n, isWords ys]] (isZ (zv m xs + zv n ys)) := by
 refine Ctr.i Tryz.func58 rfl Tryz.ntmps58 fun w0 F0 => .w [0,1] rfl (.fact (Has.okZ (Has.t (t := 0) rfl)) fun okz0 => .fact (Has.okZ (Has.t (t := 1) rfl)) fun okz1 => ?_)
 have ha := nw_add_le (val xs) (val ys)
 have hb := nw_mono (Nat.sub_le (val xs) (val ys))
 have hd := nw_mono (Nat.sub_le (val ys) (val xs))
 refine .sr fun k1 => .box (.t rfl) rfl fun b1 => .box (.t rfl) rfl fun b2 => .alloc [isB false, SlM isU []] zero33 (fun _ _ => ⟨rfl, nilM _ _, trivial⟩) rfl fun b3 => nkQ k1 (.sq fun k2 => .sr fun k3 => st (.fieldAddr (.t rfl) fld33_0 ty4) rfl (st (.load1 (.t rfl) (i := 2) rfl ty4 rfl) rfl (st (.fieldAddr (.t rfl) fld33_0 ty4) rfl (st (.load1 (.t rfl) (i := 1) rfl ty4 rfl) rfl (st (.eqB (du := un4) rfl (.t rfl) (.t rfl)) rfl (nkQ k3 (.w [2,3,4,13] rfl (.cd rfl (fun hc1 => ?_) (fun hc1 => ?_)))))))))
 ·have HM : m = n := eq_of_beq hc1
  refine .sq fun k4 => .dr (.so [] rfl (.fieldAddr (.t rfl) fld33_1 ty31) (.so [14] rfl (.load1 (.t rfl) (i := 2) rfl ty31 rfl) (.so [] rfl (.fieldAddr (.t rfl) fld33_1 ty31) (.so [16] rfl (.load1 (.t rfl) (i := 1) rfl ty31 rfl) (.so [15,17] rfl (.call (nat_Add (by omega) (by omega)) (.cons (.t rfl) (.cons (.t rfl) .nil))) (.so [] rfl (.fieldAddr (.t rfl) fld33_0 ty4) (.so [19] rfl (.load1 (.t rfl) (i := 2) rfl ty4 rfl) (.fn (n := 7) mixed (.w [2,3,4,18,20] rfl (st (.call (zint_From (by simp only [val_words, zv_nf]; omega)) (.cons (.t rfl) (.cons (.t rfl) .nil))) rfl ?_))))))))))
  refine .store (.t rfl) (.t rfl) (i := 0) rfl ty33 rfl rfl (Ss' := [_, _]) rfl (M' := [(some _, cellM [_, _]), _, _]) rfl (nkQ k4 (.ret (.thr (rt1 (.inl rfl) Tryz.results58 rfl (.cell rfl (i := 0) rfl ty33 rfl ?_ .nil)))))
  ·exact isZ_eq (zv_add_same HM xs ys).symm
 ·have HM : m ≠ n := fun e => by rw [e] at hc1; simp at hc1
  refine .skip (.nk k2 (.sq fun k5 => .sr fun k6 => st (.fieldAddr (.t rfl) fld33_1 ty31) rfl (st (.load1 (.t rfl) (i := 2) rfl ty31 rfl) rfl (st (.fieldAddr (.t rfl) fld33_1 ty31) rfl (st (.load1 (.t rfl) (i := 1) rfl ty31 rfl) rfl (st (.call (nat_Sub (by omega)) (.cons (.t rfl) (.cons (.t rfl) .nil))) rfl (stM rfl (st (.ext (.t rfl) rfl) rfl (st (.ext (.t rfl) rfl) rfl (stM rfl (stM rfl (nkQ k6 (.w [2,3,4,5,6] rfl (.sr fun k7 => stM rfl (nkQ k7 (.cd rfl (fun hc2 => ?_) (fun hc2 => ?_)))))))))))))))))
  ·have HL : val ys ≤ val xs := hc2
   refine .sr fun k8 => stM rfl (st (.fieldAddr (.t rfl) fld33_0 ty4) rfl (st (.load1 (.t rfl) (i := 2) rfl ty4 rfl) rfl (st (.call (zint_From (by simp only [val_words, zv_nf]; omega)) (.cons (.t rfl) (.cons (.t rfl) .nil))) rfl ?_)))
   refine .store (.t rfl) (.t rfl) (i := 0) rfl ty33 rfl rfl (Ss' := [_, _]) rfl (M' := [(some _, cellM [_, _]), _, _]) rfl (nkQ k8 (.w [2,3,4] rfl (.ret (.thr (rt1 (.inl rfl) Tryz.results58 rfl (.cell rfl (i := 0) rfl ty33 rfl ?_ .nil))))))
   ·exact isZ_eq (zv_add_sub HM HL).symm
  ·have HL : ¬ val ys ≤ val xs := (by omega)
   refine .skip (.nk k5 (.sr fun k9 => st (.fieldAddr (.t rfl) fld33_1 ty31) rfl (st (.load1 (.t rfl) (i := 1) rfl ty31 rfl) rfl (st (.fieldAddr (.t rfl) fld33_1 ty31) rfl (st (.load1 (.t rfl) (i := 2) rfl ty31 rfl) rfl (st (.call (nat_Sub (by omega)) (.cons (.t rfl) (.cons (.t rfl) .nil))) rfl (stM rfl (st (.ext (.t rfl) rfl) rfl (st (.ext (.t rfl) rfl) rfl (stM rfl (stM rfl (nkQ k9 (.w [3,4,7] rfl (.sr fun k10 => stM rfl (st (.fieldAddr (.t rfl) fld33_0 ty4) rfl (st (.load1 (.t rfl) (i := 1) rfl ty4 rfl) rfl (st (.call (zint_From (by simp only [val_words, zv_nf]; omega)) (.cons (.t rfl) (.cons (.t rfl) .nil))) rfl ?_)))))))))))))))))
   refine .store (.t rfl) (.t rfl) (i := 0) rfl ty33 rfl rfl (Ss' := [_, _]) rfl (M' := [(some _, cellM [_, _]), _, _]) rfl (nkQ k10 (.w [4] rfl (.ret (rt1 (.inl rfl) Tryz.results58 rfl (.cell rfl (i := 0) rfl ty33 rfl ?_ .nil)))))
   ·exact isZ_eq (by rw [Int.add_comm]; exact (zv_add_sub (fun e => HM e.symm) (by omega)).symm)
theorem zint_Sub {m n : Bool} {xs ys : List Nat} (hx : (List.length (words (val xs))) < 4294700000) (hy : (List.length (words (val ys))) < 4294700000) : Ctr Tryz.prog 70 [Flat [isB m, isWords xs], Flat [isB n, isWords ys]] (isZ (zv m xs - zv n ys)) := by
 refine Ctr.i Tryz.func70 rfl Tryz.ntmps70 fun w0 F0 => .w [0,1] rfl (.fact (Has.okZ (Has.t (t := 0) rfl)) fun okz0 => .fact (Has.okZ (Has.t (t := 1) rfl)) fun okz1 => .sr fun k1 => .box (.t rfl) rfl fun b1 => .box (.t rfl) rfl fun b2 => .alloc [isB false, SlM isU []] zero33 (fun _ _ => ⟨rfl, nilM _ _, trivial⟩) rfl fun b3 => nkQ k1 (.sq fun k2 => .dr (.so [] rfl (.load (.t rfl) (i := 2) rfl ty33 rfl (Ss' := [_, _]) rfl) (.so [] rfl (.load (.t rfl) (i := 1) rfl ty33 rfl (Ss' := [_, _]) rfl) (.so [6] rfl (.call (zint_Neg (by omega)) (.cons (.t rfl) .nil)) (.fn (n := 3) mixed (.w [4,5,7] rfl (st (.call (zint_Add (by omega) (by simp only [val_words]; rw [Int.natAbs_neg, zv_abs]; omega)) (.cons (.t rfl) (.cons (.t rfl) .nil))) rfl ?_))))))))
 refine .store (.t rfl) (.t rfl) (i := 0) rfl ty33 rfl rfl (Ss' := [_, _]) rfl (M' := [(some _, cellM [_, _]), _, _]) rfl (nkQ k2 (.ret (rt1 (.inl rfl) Tryz.results70 rfl (.cell rfl (i := 0) rfl ty33 rfl ?_ .nil))))
 ·exact isZ_eq (by rw [zv_nf]; omega)
theorem zint_Mul {m n : Bool} {xs ys : List Nat} (hx : (List.length (words (val xs))) ≤ 1000000000) (hy : (List.length (words (val ys))) ≤ 1000000000) : Ctr Tryz.prog 59 [Flat [isB m, isWords xs], Flat [isB n, isWords ys]] (isZ (zv m xs * zv n ys)) := by
 refine Ctr.i Tryz.func59 rfl Tryz.ntmps59 fun w0 F0 => .w [0,1] rfl (.fact (Has.okZ (Has.t (t := 0) rfl)) fun okz0 => .fact (Has.okZ (Has.t (t := 1) rfl)) fun okz1 => ?_)
 have hm := nw_mul_le (val xs) (val ys)
 refine .sr fun k1 => .box (.t rfl) rfl fun b1 => .box (.t rfl) rfl fun b2 => .alloc [isB false, SlM isU []] zero33 (fun _ _ => ⟨rfl, nilM _ _, trivial⟩) rfl fun b3 => nkQ k1 (.sq fun k2 => .dr (.so [] rfl (.fieldAddr (.t rfl) fld33_1 ty31) (.so [5] rfl (.load1 (.t rfl) (i := 2) rfl ty31 rfl) (.so [] rfl (.fieldAddr (.t rfl) fld33_1 ty31) (.so [7] rfl (.load1 (.t rfl) (i := 1) rfl ty31 rfl) (.so [6,8] rfl (.call (mul_Mul hx hy) (.cons (.t rfl) (.cons (.t rfl) .nil))) (.so [] rfl (.fieldAddr (.t rfl) fld33_0 ty4) (.so [10] rfl (.load1 (.t rfl) (i := 2) rfl ty4 rfl) (.so [] rfl (.fieldAddr (.t rfl) fld33_0 ty4) (.so [12] rfl (.load1 (.t rfl) (i := 1) rfl ty4 rfl) (.so [11,13] rfl (.neB (du := un4) rfl (.t rfl) (.t rfl)) (.fn (n := 10) mixed (.w [4,9,14] rfl (st (.call (zint_From (by simp only [val_words, zv_nf]; omega)) (.cons (.t rfl) (.cons (.t rfl) .nil))) rfl ?_))))))))))))))
 refine .store (.t rfl) (.t rfl) (i := 0) rfl ty33 rfl rfl (Ss' := [_, _]) rfl (M' := [(some _, cellM [_, _]), _, _]) rfl (nkQ k2 (.ret (rt1 (.inl rfl) Tryz.results59 rfl (.cell rfl (i := 0) rfl ty33 rfl ?_ .nil))))
 ·exact isZ_eq (zv_mul m n xs ys).symm
theorem zint_Quo {m n : Bool} {xs ys : List Nat} (hx : (List.length (words (val xs))) < 4294700000) (hy : (List.length (words (val ys))) < 4294700000) : Ctr Tryz.prog 69 [Flat [isB m, isWords xs], Flat [isB n, isWords ys]] (isTup [isZ ((zv m xs).tdiv (zv n ys)), isZ (if zv n ys = 0 then 0 else (zv m xs).tmod (zv n ys)), isB (decide (zv n ys ≠ 0))]) := by
 refine Ctr.i Tryz.func69 rfl Tryz.ntmps69 fun w0 F0 => .w [0,1] rfl (.fact (Has.okZ (Has.t (t := 0) rfl)) fun okz0 => .fact (Has.okZ (Has.t (t := 1) rfl)) fun okz1 => ?_)
 have ha := nw_mono (Nat.div_le_self (val xs) (val ys))
 have hb : (List.length (words (if val ys = 0 then 0 else val xs % val ys))) ≤ (List.length (words (val xs))) := nw_mono (by split; exact Nat.zero_le _; exact Nat.mod_le _ _)
 refine .sr fun k1 => .box (.t rfl) rfl fun b1 => .box (.t rfl) rfl fun b2 => .alloc [isB false, SlM isU []] zero33 (fun _ _ => ⟨rfl, nilM _ _, trivial⟩) rfl fun b3 => .alloc [isB false, SlM isU []] zero33 (fun _ _ => ⟨rfl, nilM _ _, trivial⟩) rfl fun b4 => st (.as (.cB false)) rfl (nkQ k1 (.sr fun k2 => st (.fieldAddr (.t rfl) fld33_1 ty31) rfl (st (.load1 (.t rfl) (i := 3) rfl ty31 rfl) rfl (st (.fieldAddr (.t rfl) fld33_1 ty31) rfl (st (.load1 (.t rfl) (i := 2) rfl ty31 rfl) rfl (st (.call (div_DivMod (by omega) (by omega)) (.cons (.t rfl) (.cons (.t rfl) .nil))) rfl (stM rfl (st (.ext (.t rfl) rfl) rfl (st (.ext (.t rfl) rfl) rfl (st (.ext (.t rfl) rfl) rfl (stM rfl (stM rfl (stM rfl (nkQ k2 (.w [2,3,4,5,6,7,8,9] rfl (.sq fun k3 => .drh [false, false, true, true] (Ms := [_, _]) rfl (.m [] rfl (.so [] rfl (.fieldAddr (.t rfl) fld33_0 ty4) (.so [20] rfl (.load1 (.t rfl) (i := 1) rfl ty4 rfl) (.so [] rfl (.fieldAddr (.t rfl) fld33_0 ty4) (.so [22] rfl (.load1 (.t rfl) (i := 0) rfl ty4 rfl) (.so [21,23] rfl (.neB (du := un4) rfl (.t rfl) (.t rfl)) (.so [19,24] rfl (.call (zint_From (by simp only [val_words, zv_nf]; omega)) (.cons (.t rfl) (.cons (.t rfl) .nil))) ?_)))))))))))))))))))))))
 refine .m [] rfl (.so [] rfl (.fieldAddr (.t rfl) fld33_0 ty4) (.so [27] rfl (.load1 (.t rfl) (i := 1) rfl ty4 rfl) (.so [26,28] rfl (.call (zint_From (by simp only [val_words, zv_nf]; omega)) (.cons (.t rfl) (.cons (.t rfl) .nil))) ?_)))
 refine .m [] rfl (.mid2 (.cons _ (.cons _ (.cons_cons _ (.cons_cons _ .slnil)))) (.st0 [25] rfl rfl (by kernel_rfl) (by kernel_rfl) (StS.store (.t rfl) (.t rfl) (i := 1) rfl ty33 rfl rfl (Ss' := [_, _]) rfl (M' := [_, (some _, cellM [_, _]), _, _]) rfl) (.cons _ (.cons _ (.cons_cons _ (.cons_cons _ .slnil)))) (.st0 [29] rfl rfl (by kernel_rfl) (by kernel_rfl) (StS.store (.t rfl) (.t rfl) (i := 0) rfl ty33 rfl rfl (Ss' := [_, _]) rfl (M' := [(some _, cellM [_, _]), _, _, _]) rfl) (.cons _ (.cons _ (.cons_cons _ (.cons_cons _ .slnil)))) (.fin0 (n := 14) mixed rfl (by kernel_rfl) (by kernel_rfl) (by kernel_rfl) (.w [4,5,6,30] rfl (stM rfl (nkQ k3 (.ret (rtN (.inl rfl) Tryz.results69 rfl rfl (.cell rfl (i := 1) rfl ty33 rfl ?_ (.cell rfl (i := 0) rfl ty33 rfl ?_ (.tmp (Has.t' rfl ?_) .nil))))))))))))
 ·exact isZ_eq (zv_tdiv m n xs ys).symm
 ·exact isZ_eq (quo_rest m n xs ys)
 ·exact isB_eq (ne_zv n ys)
theorem zint_one  : Ctr Tryz.prog 71 [] (isZ 1) := by
 refine Ctr.i Tryz.func71 rfl Tryz.ntmps71 fun w0 F0 => .cv (Cv.wk .nil) (.sr fun k1 => .alloc [isB false, SlM isU []] zero33 (fun _ _ => ⟨rfl, nilM _ _, trivial⟩) rfl fun b1 => nkQ k1 (.sr fun k2 => st (.call (zint_Of) (.cons (.cI 1 rfl) .nil)) rfl (.store (.t rfl) (.t rfl) (i := 0) rfl ty33 rfl rfl (Ss' := [_, _]) rfl (M' := [(some _, cellM [_, _])]) rfl (nkQ k2 (.ret (rt1 (.inl rfl) Tryz.results71 rfl (.cell rfl (i := 0) rfl ty33 rfl ?_ .nil)))))))
 all_goals (rfl)
theorem zint_Euclid {m n : Bool} {xs ys : List Nat} (hx : (List.length (words (val xs))) < 4294700000) (hy : (List.length (words (val ys))) < 4294700000) : Ctr Tryz.prog 105 [Flat [isB m, isWords xs], Flat [isB n, isWords ys]] (isTup [isZ (zv m xs / zv n ys), isZ (if zv n ys = 0 then 0 else zv m xs % zv n ys), isB (decide (zv n ys ≠ 0))]) := by
 refine Ctr.i Tryz.func105 rfl Tryz.ntmps105 fun w0 F0 => .w [0,1] rfl (.fact (Has.okZ (Has.t (t := 0) rfl)) fun okz0 => .fact (Has.okZ (Has.t (t := 1) rfl)) fun okz1 => ?_)
 have ha := nz_tdiv (zv m xs) (zv n ys)
 have hb := nz_if (zv m xs) (zv n ys)
 have hxx := zv_nw m xs
 have hyy := zv_nw n ys
 have h1 := nz_one
 refine .sr fun k1 => .box (.t rfl) rfl fun b1 => .box (.t rfl) rfl fun b2 => .alloc [isB false, SlM isU []] zero33 (fun _ _ => ⟨rfl, nilM _ _, trivial⟩) rfl fun b3 => .alloc [isB false, SlM isU []] zero33 (fun _ _ => ⟨rfl, nilM _ _, trivial⟩) rfl fun b4 => st (.as (.cB false)) rfl (nkQ k1 (.sr fun k2 => st (.load (.t rfl) (i := 3) rfl ty33 rfl (Ss' := [_, _]) rfl) rfl (st (.load (.t rfl) (i := 2) rfl ty33 rfl (Ss' := [_, _]) rfl) rfl (st (.call (zint_Quo (by with_reducible assumption) (by with_reducible assumption)) (.cons (.t rfl) (.cons (.t rfl) .nil))) rfl (stM rfl (st (.ext (.t rfl) rfl) rfl (st (.ext (.t rfl) rfl) rfl (st (.ext (.t rfl) rfl) rfl (.alloc [isB false, SlM isU []] zero33 (fun _ _ => ⟨rfl, nilM _ _, trivial⟩) rfl fun b5 => .alloc [isB false, SlM isU []] zero33 (fun _ _ => ⟨rfl, nilM _ _, trivial⟩) rfl fun b6 => .store (.t rfl) (.t rfl) (i := 1) rfl ty33 rfl rfl (Ss' := [_, _]) rfl (M' := [_, (some _, cellM [_, _]), _, _, _, _]) rfl (.store (.t rfl) (.t rfl) (i := 0) rfl ty33 rfl rfl (Ss' := [_, _]) rfl (M' := [(some _, cellM [_, _]), _, _, _, _, _]) rfl (stM rfl (nkQ k2 (.w [3,4,5,6,7,8,9] rfl (.sq fun k3 => .block (.sr fun k4 => stM rfl (st (.not (.t rfl)) rfl (stM rfl (stF rfl rfl (fun hg => .load (.t rfl) (i := 0) rfl ty33 rfl (Ss' := [_, _]) rfl) rfl ?_))))))))))))))))))
 refine stF rfl rfl (fun hg => have hg' := BP.t hg; OK1.eq (.call (zint_Sign (by simp only [val_words, zv_nf]; omega)) (.cons (Has.g rfl hg) .nil)) (by simp only [val_words, zv_nf]; rfl)) rfl ?_
 refine stF rfl rfl (fun hg => .geI (Has.g rfl hg) (.cI 0 rfl)) rfl (st (.pickOr (.t rfl) (fun h => Has.g rfl (ng h))) rfl (stM rfl (nkQ k4 (.w [3,4,5,6,7,8,9,17] rfl (.cd rfl (fun hc1 => ?_) (fun hc1 => ?_))))))
 ·have HE := euc0 hc1
  refine .sq fun k5 => .drh [true, true, false, false, true, true] (Ms := [_, _, _, _]) rfl (.so [] rfl (.load (.t rfl) (i := 1) rfl ty33 rfl (Ss' := [_, _]) rfl) (.so [] rfl (.load (.t rfl) (i := 0) rfl ty33 rfl (Ss' := [_, _]) rfl) (.m [] rfl (.mid2 (.cons_cons _ (.cons_cons _ (.cons _ (.cons _ (.cons_cons _ (.cons_cons _ .slnil)))))) (.st0 [25] rfl rfl (by kernel_rfl) (by kernel_rfl) (StS.store (.t rfl) (.t rfl) (i := 3) rfl ty33 rfl rfl (Ss' := [_, _]) rfl (M' := [_, _, _, (some _, cellM [_, _]), _, _]) rfl) (.cons_cons _ (.cons_cons _ (.cons _ (.cons _ (.cons_cons _ (.cons_cons _ .slnil)))))) (.st0 [26] rfl rfl (by kernel_rfl) (by kernel_rfl) (StS.store (.t rfl) (.t rfl) (i := 2) rfl ty33 rfl rfl (Ss' := [_, _]) rfl (M' := [_, _, (some _, cellM [_, _]), _, _, _]) rfl) (.cons_cons _ (.cons_cons _ (.cons _ (.cons _ (.cons_cons _ (.cons_cons _ .slnil)))))) (.fin0 (n := 5) mixed rfl (by kernel_rfl) (by kernel_rfl) (by kernel_rfl) (.w [3,4,5,6,7,8,27] rfl (stM rfl (nkQ k5 (.ret (.blr (.thr (rtN (.inl rfl) Tryz.results105 rfl rfl (.cell rfl (i := 3) rfl ty33 rfl ?_ (.cell rfl (i := 2) rfl ty33 rfl ?_ (.tmp (Has.t' rfl ?_) .nil)))))))))))))))))
  ·exact isZ_eq HE.1
  ·exact isZ_eq HE.2
  ·rfl
 ·have HE := hc1
  refine .sr fun k6 => st (.load (.t rfl) (i := 4) rfl ty33 rfl (Ss' := [_, _]) rfl) rfl (st (.call (zint_Sign (by omega)) (.cons (.t rfl) .nil)) rfl (st (.gtI (.t rfl) (.cI 0 rfl)) rfl (stM rfl (nkQ k6 (.w [3,4,5,6,7,8,28] rfl (.cd rfl (fun hc2 => ?_) (fun hc2 => ?_)))))))
  ·have HE2 := euc1 HE hc2
   refine .sq fun k7 => .dr (.so [] rfl (.load (.t rfl) (i := 1) rfl ty33 rfl (Ss' := [_, _]) rfl) (.so [] rfl (.call (zint_one) .nil) (.so [32,33] rfl (.eq (.call (zint_Sub (by simp only [val_words, zv_nf]; omega) (by simp only [val_words, zv_nf]; omega)) (.cons (.t rfl) (.cons (.t rfl) .nil))) (by simp only [val_words, zv_nf]; rfl)) ?_)))
   refine .so [] rfl (.load (.t rfl) (i := 0) rfl ty33 rfl (Ss' := [_, _]) rfl) (.so [] rfl (.load (.t rfl) (i := 4) rfl ty33 rfl (Ss' := [_, _]) rfl) (.fn (n := 5) mixed (.w [3,4,5,6,7,8,34,35,36] rfl (st (.eq (.call (zint_Add (by simp only [val_words, zv_nf]; omega) (by with_reducible assumption)) (.cons (.t rfl) (.cons (.t rfl) .nil))) (by simp only [val_words, zv_nf]; rfl)) rfl ?_))))
   refine .store (.t rfl) (.t rfl) (i := 3) rfl ty33 rfl rfl (Ss' := [_, _]) rfl (M' := [_, _, _, (some _, cellM [_, _]), _, _]) rfl (.store (.t rfl) (.t rfl) (i := 2) rfl ty33 rfl rfl (Ss' := [_, _]) rfl (M' := [_, _, (some _, cellM [_, _]), _, _, _]) rfl (st (.as (.cB true)) rfl (nkQ k7 (.ret (.blr (.thr (rtN (.inl rfl) Tryz.results105 rfl rfl (.cell rfl (i := 3) rfl ty33 rfl ?_ (.cell rfl (i := 2) rfl ty33 rfl ?_ (.tmp (Has.t' rfl ?_) .nil))))))))))
   ·exact isZ_eq HE2.1
   ·exact isZ_eq HE2.2
   ·exact isB_eq (decide_eq_true HE.1).symm
  ·have HE2 := euc2 HE hc2
   refine .skip (.bln (.nk k3 (.sq fun k8 => .dr (.so [] rfl (.load (.t rfl) (i := 1) rfl ty33 rfl (Ss' := [_, _]) rfl) (.so [] rfl (.call (zint_one) .nil) (.so [38,39] rfl (.eq (.call (zint_Add (by simp only [val_words, zv_nf]; omega) (by simp only [val_words, zv_nf]; omega)) (.cons (.t rfl) (.cons (.t rfl) .nil))) (by simp only [val_words, zv_nf]; rfl)) ?_))))))
   refine .so [] rfl (.load (.t rfl) (i := 0) rfl ty33 rfl (Ss' := [_, _]) rfl) (.so [] rfl (.load (.t rfl) (i := 4) rfl ty33 rfl (Ss' := [_, _]) rfl) (.fn (n := 5) mixed (.w [4,5,6,40,41,42] rfl (st (.eq (.call (zint_Sub (by simp only [val_words, zv_nf]; omega) (by with_reducible assumption)) (.cons (.t rfl) (.cons (.t rfl) .nil))) (by simp only [val_words, zv_nf]; rfl)) rfl ?_))))
   refine .store (.t rfl) (.t rfl) (i := 3) rfl ty33 rfl rfl (Ss' := [_, _]) rfl (M' := [_, _, _, (some _, cellM [_, _]), _, _]) rfl (.store (.t rfl) (.t rfl) (i := 2) rfl ty33 rfl rfl (Ss' := [_, _]) rfl (M' := [_, _, (some _, cellM [_, _]), _, _, _]) rfl (st (.as (.cB true)) rfl (nkQ k8 (.ret (rtN (.inl rfl) Tryz.results105 rfl rfl (.cell rfl (i := 3) rfl ty33 rfl ?_ (.cell rfl (i := 2) rfl ty33 rfl ?_ (.tmp (Has.t' rfl ?_) .nil))))))))
   ·exact isZ_eq HE2.1
   ·exact isZ_eq HE2.2
   ·exact isB_eq (decide_eq_true HE.1).symm
theorem zint_Exact {m n : Bool} {xs ys : List Nat} (hx : (List.length (words (val xs))) < 4294700000) (hy : (List.length (words (val ys))) < 4294700000) : Ctr Tryz.prog 86 [Flat [isB m, isWords xs], Flat [isB n, isWords ys]] (isTup [isZ (if zv n ys ≠ 0 ∧ (zv m xs).tmod (zv n ys) = 0 then (zv m xs).tdiv (zv n ys) else 0), isB (decide (zv n ys ≠ 0 ∧ (zv m xs).tmod (zv n ys) = 0))]) := by
 refine Ctr.i Tryz.func86 rfl Tryz.ntmps86 fun w0 F0 => .w [0,1] rfl (.fact (Has.okZ (Has.t (t := 0) rfl)) fun okz0 => .fact (Has.okZ (Has.t (t := 1) rfl)) fun okz1 => ?_)
 have ha := nz_tdiv (zv m xs) (zv n ys)
 have hb := nz_if (zv m xs) (zv n ys)
 have hxx := zv_nw m xs
 have hyy := zv_nw n ys
 have h1 := nz_one
 refine .sr fun k1 => .box (.t rfl) rfl fun b1 => .box (.t rfl) rfl fun b2 => .alloc [isB false, SlM isU []] zero33 (fun _ _ => ⟨rfl, nilM _ _, trivial⟩) rfl fun b3 => st (.as (.cB false)) rfl (nkQ k1 (.sr fun k2 => st (.load (.t rfl) (i := 2) rfl ty33 rfl (Ss' := [_, _]) rfl) rfl (st (.load (.t rfl) (i := 1) rfl ty33 rfl (Ss' := [_, _]) rfl) rfl (st (.call (zint_Quo (by with_reducible assumption) (by with_reducible assumption)) (.cons (.t rfl) (.cons (.t rfl) .nil))) rfl (stM rfl (st (.ext (.t rfl) rfl) rfl (st (.ext (.t rfl) rfl) rfl (st (.ext (.t rfl) rfl) rfl (.alloc [isB false, SlM isU []] zero33 (fun _ _ => ⟨rfl, nilM _ _, trivial⟩) rfl fun b4 => .alloc [isB false, SlM isU []] zero33 (fun _ _ => ⟨rfl, nilM _ _, trivial⟩) rfl fun b5 => .store (.t rfl) (.t rfl) (i := 1) rfl ty33 rfl rfl (Ss' := [_, _]) rfl (M' := [_, (some _, cellM [_, _]), _, _, _]) rfl (.store (.t rfl) (.t rfl) (i := 0) rfl ty33 rfl rfl (Ss' := [_, _]) rfl (M' := [(some _, cellM [_, _]), _, _, _, _]) rfl (stM rfl (nkQ k2 (.w [4,5,6,7,8] rfl (.sq fun k3 => .sr fun k4 => stM rfl (st (.not (.t rfl)) rfl (stM rfl (stF rfl rfl (fun hg => .load (.t rfl) (i := 0) rfl ty33 rfl (Ss' := [_, _]) rfl) rfl ?_)))))))))))))))))
 refine stF rfl rfl (fun hg => have hg' := BP.t hg; OK1.eq (.call (zint_Sign (by simp only [val_words, zv_nf]; omega)) (.cons (Has.g rfl hg) .nil)) (by simp only [val_words, zv_nf]; rfl)) rfl ?_
 refine stF rfl rfl (fun hg => .neI (Has.g rfl hg) (.cI 0 rfl)) rfl (st (.pickOr (.t rfl) (fun h => Has.g rfl (ng h))) rfl (nkQ k4 (.w [4,5,6,22] rfl (.cd rfl (fun hc1 => ?_) (fun hc1 => ?_)))))
 ·have HE := ex_no hc1
  refine .sr fun k5 => st (.eq (.build [isB false, SlM isU []] pl33 zero33 (fun _ _ => ⟨rfl, nilM _ _, trivial⟩) .nil (Z'' := [_, _]) rfl) (isZ0)) rfl (.store (.t rfl) (.t rfl) (i := 2) rfl ty33 rfl rfl (Ss' := [_, _]) rfl (M' := [_, _, (some _, cellM [_, _]), _, _]) rfl (st (.as (.cB false)) rfl (nkQ k5 (.ret (.thr (rtN (.inl rfl) Tryz.results86 rfl rfl (.cell rfl (i := 2) rfl ty33 rfl ?_ (.tmp (Has.t' rfl ?_) .nil))))))))
  ·exact isZ_eq (if_neg HE).symm
  ·exact isB_eq (decide_eq_false HE).symm
 ·have HE := ex_yes hc1
  refine .skip (.nk k3 (.sr fun k6 => st (.load (.t rfl) (i := 1) rfl ty33 rfl (Ss' := [_, _]) rfl) rfl (.store (.t rfl) (.t rfl) (i := 2) rfl ty33 rfl rfl (Ss' := [_, _]) rfl (M' := [_, _, (some _, cellM [_, _]), _, _]) rfl (st (.as (.cB true)) rfl (nkQ k6 (.ret (rtN (.inl rfl) Tryz.results86 rfl rfl (.cell rfl (i := 2) rfl ty33 rfl ?_ (.tmp (Has.t' rfl ?_) .nil)))))))))
  ·exact isZ_eq (if_pos HE).symm
  ·exact isB_eq (decide_eq_true HE).symm
theorem zint_cofactor {m n : Bool} {xs ys : List Nat} (hx : (List.length (words (val xs))) ≤ 100000000) (hy : (List.length (words (val ys))) ≤ 100000000) : Ctr Tryz.prog 104 [Flat [isB m, isWords xs], Flat [isB n, isWords ys]] (isTup [isZ (cof (zv m xs) (zv n ys) 1 0).1, isZ (cof (zv m xs) (zv n ys) 1 0).2]) := by
 refine Ctr.i Tryz.func104 rfl Tryz.ntmps104 fun w0 F0 => .w [0,1] rfl (.fact (Has.okZ (Has.t (t := 0) rfl)) fun okz0 => .fact (Has.okZ (Has.t (t := 1) rfl)) fun okz1 => ?_)
 have hxx := zv_nw m xs
 have hyy := zv_nw n ys
 refine .sr fun k1 => .box (.t rfl) rfl fun b1 => .box (.t rfl) rfl fun b2 => .alloc [isB false, SlM isU []] zero33 (fun _ _ => ⟨rfl, nilM _ _, trivial⟩) rfl fun b3 => .alloc [isB false, SlM isU []] zero33 (fun _ _ => ⟨rfl, nilM _ _, trivial⟩) rfl fun b4 => nkQ k1 (.sr fun k2 => st (.call (zint_one) .nil) rfl (st (.eq (.build [isB false, SlM isU []] pl33 zero33 (fun _ _ => ⟨rfl, nilM _ _, trivial⟩) .nil (Z'' := [_, _]) rfl) (isZ0)) rfl (.alloc [isB false, SlM isU []] zero33 (fun _ _ => ⟨rfl, nilM _ _, trivial⟩) rfl fun b5 => .alloc [isB false, SlM isU []] zero33 (fun _ _ => ⟨rfl, nilM _ _, trivial⟩) rfl fun b6 => .store (.t rfl) (.t rfl) (i := 1) rfl ty33 rfl rfl (Ss' := [_, _]) rfl (M' := [_, (some _, cellM [_, _]), _, _, _, _]) rfl (.store (.t rfl) (.t rfl) (i := 0) rfl ty33 rfl rfl (Ss' := [_, _]) rfl (M' := [(some _, cellM [_, _]), _, _, _, _, _]) rfl (nkQ k2 (.sq fun k3 => .dr (.so [] rfl (.fieldAddr (.t rfl) fld33_1 ty31) (.so [13] rfl (.load1 (.t rfl) (i := 5) rfl ty31 rfl) (.so [] rfl (.fieldAddr (.t rfl) fld33_0 ty4) (.so [15] rfl (.load1 (.t rfl) (i := 5) rfl ty4 rfl) (.so [14,16] rfl (.call (zint_From (by omega)) (.cons (.t rfl) (.cons (.t rfl) .nil))) (.so [] rfl (.fieldAddr (.t rfl) fld33_1 ty31) (.so [18] rfl (.load1 (.t rfl) (i := 4) rfl ty31 rfl) (.so [] rfl (.fieldAddr (.t rfl) fld33_0 ty4) (.so [20] rfl (.load1 (.t rfl) (i := 4) rfl ty4 rfl) (.fn (n := 9) mixed (.w [2,3,4,5,6,7,17,19,21] rfl ?_)))))))))))))))))
 refine st (.call (zint_From (by omega)) (.cons (.t rfl) (.cons (.t rfl) .nil))) rfl (.store (.t rfl) (.t rfl) (i := 5) rfl ty33 rfl rfl (Ss' := [_, _]) rfl (M' := [_, _, _, _, _, (some _, cellM [_, _])]) rfl (.store (.t rfl) (.t rfl) (i := 4) rfl ty33 rfl rfl (Ss' := [_, _]) rfl (M' := [_, _, _, _, (some _, cellM [_, _]), _]) rfl (nkQ k3 (.sq fun k4 => .block (.loopF [2,3,4,5,6,7] (fun (z : { z : Int × Int × Int × Int × Nat × Nat // Cf (zv m xs) (zv n ys) z.1 z.2.1 z.2.2.1 z.2.2.2.1 z.2.2.2.2.1 z.2.2.2.2.2 ∧ cof z.1 z.2.1 z.2.2.1 z.2.2.2.1 = cof (zv m xs) (zv n ys) 1 0 }) => match z with | ⟨(a, b, x, nx, X, Y), hI⟩ => []) (fun M => fun (z : { z : Int × Int × Int × Int × Nat × Nat // Cf (zv m xs) (zv n ys) z.1 z.2.1 z.2.2.1 z.2.2.2.1 z.2.2.2.2.1 z.2.2.2.2.2 ∧ cof z.1 z.2.1 z.2.2.1 z.2.2.2.1 = cof (zv m xs) (zv n ys) 1 0 }) => match z with | ⟨(a, b, x, nx, X, Y), hI⟩ => [zM b6 nx, zM b5 x, (some b4, cellM [isB false, SlM isU []]), (some b3, cellM [isB false, SlM isU []]), zM b2 b, zM b1 a]) (fun (z : { z : Int × Int × Int × Int × Nat × Nat // Cf (zv m xs) (zv n ys) z.1 z.2.1 z.2.2.1 z.2.2.2.1 z.2.2.2.2.1 z.2.2.2.2.2 ∧ cof z.1 z.2.1 z.2.2.1 z.2.2.2.1 = cof (zv m xs) (zv n ys) 1 0 }) => match z with | ⟨(a, b, x, nx, X, Y), hI⟩ => b.natAbs) (⟨(zv m xs, zv n ys, 1, 0, 1, 0), Cf.start _ _, rfl⟩) (Cv.mem (.l [2,3,4,5,6,7] rfl) ?_) ?_)))))
 ·rfl
 rintro ⟨⟨a, b, x, nx, X, Y⟩, hI⟩ K5 hK5
 refine .w [2,3,4,5,6,7] rfl (.memEq (M' := [zM b6 nx, zM b5 x, (some b4, cellM [isB false, SlM isU []]), (some b3, cellM [isB false, SlM isU []]), zM b2 b, zM b1 a]) rfl ?_)
 simp only [] at hI
 obtain ⟨hC, hcof⟩ := hI
 have za := Nat.le_trans (nw_mono hC.a1) (nw_max _ _)
 have zb := nw_mono hC.b1
 have zx := Nat.le_trans (nw_mono (Nat.le_trans hC.x hC.X1)) (nw_max _ _)
 have zn := nw_mono (Nat.le_trans hC.y hC.Y1)
 have h1 := nw_one
 have zq := nz_tdiv a b
 have zr := nz_tmod a b
 refine .sq fun k6 => .sr fun k7 => st (.load (.t rfl) (i := 4) rfl ty33 rfl (Ss' := [_, _]) rfl) rfl (st (.eq (.call (zint_Sign (by simp only [val_words, zv_nf]; omega)) (.cons (.t rfl) .nil)) (by simp only [val_words, zv_nf]; rfl)) rfl ?_)
 refine st (.neI (.t rfl) (.cI 0 rfl)) rfl (nkQ k7 (.cd rfl (fun hc1 => ?_) (fun hc1 => ?_)))
 ·have hb : b ≠ 0 := fun e => hc1 (by rw [sgn_eq0]; exact e)
  have zm := nz_mul (a.tdiv b) nx
  refine .skip (.nk k6 (.block (.sr fun k8 => st (.load (.t rfl) (i := 5) rfl ty33 rfl (Ss' := [_, _]) rfl) rfl (st (.load (.t rfl) (i := 4) rfl ty33 rfl (Ss' := [_, _]) rfl) rfl (st (.eq (.call (zint_Quo (by simp only [val_words, zv_nf]; omega) (by simp only [val_words, zv_nf]; omega)) (.cons (.t rfl) (.cons (.t rfl) .nil))) (by simp only [val_words, zv_nf]; rfl)) rfl ?_)))))
  refine stM rfl (st (.ext (.t rfl) rfl) rfl (st (.ext (.t rfl) rfl) rfl (st (.ext (.t rfl) rfl) rfl (.alloc [isB false, SlM isU []] zero33 (fun _ _ => ⟨rfl, nilM _ _, trivial⟩) rfl fun b7 => .alloc [isB false, SlM isU []] zero33 (fun _ _ => ⟨rfl, nilM _ _, trivial⟩) rfl fun b8 => .store (.t rfl) (.t rfl) (i := 1) rfl ty33 rfl rfl (Ss' := [_, _]) rfl (M' := [_, (some _, cellM [_, _]), _, _, _, _, _, _]) rfl (.store (.t rfl) (.t rfl) (i := 0) rfl ty33 rfl rfl (Ss' := [_, _]) rfl (M' := [(some _, cellM [_, _]), _, _, _, _, _, _, _]) rfl (stM rfl (nkQ k8 (.sq fun k9 => .drh [true, true, true, true, true, true, true, false] (Ms := [_, _, _, _, _, _, _]) rfl (.so [] rfl (.load (.t rfl) (i := 6) rfl ty33 rfl (Ss' := [_, _]) rfl) (.so [] rfl (.load (.t rfl) (i := 0) rfl ty33 rfl (Ss' := [_, _]) rfl) (.mid2 (.cons_cons _ (.cons_cons _ (.cons_cons _ (.cons_cons _ (.cons_cons _ (.cons_cons _ (.cons_cons _ (.cons _ .slnil)))))))) (.st0 [33] rfl rfl (by kernel_rfl) (by kernel_rfl) (StS.store (.t rfl) (.t rfl) (i := 7) rfl ty33 rfl rfl (Ss' := [_, _]) rfl (M' := [_, _, _, _, _, _, _, (some _, cellM [_, _])]) rfl) (.cons_cons _ (.cons_cons _ (.cons_cons _ (.cons_cons _ (.cons_cons _ (.cons_cons _ (.cons_cons _ (.cons _ .slnil)))))))) (.fin0 (n := 3) mixed rfl (by kernel_rfl) (by kernel_rfl) (by kernel_rfl) (.w [2,3,4,5,6,7,23,24,25,27,28,29,26,30,31,32,8,9,33,34] rfl (.store (.t rfl) (.t rfl) (i := 6) rfl ty33 rfl rfl (Ss' := [_, _]) rfl (M' := [_, _, _, _, _, _, (some _, cellM [_, _]), _]) rfl (nkQ k9 (.dr (.so [] rfl (.load (.t rfl) (i := 2) rfl ty33 rfl (Ss' := [_, _]) rfl) (.so [] rfl (.load (.t rfl) (i := 3) rfl ty33 rfl (Ss' := [_, _]) rfl) (.so [] rfl (.load (.t rfl) (i := 1) rfl ty33 rfl (Ss' := [_, _]) rfl) (.so [] rfl (.load (.t rfl) (i := 2) rfl ty33 rfl (Ss' := [_, _]) rfl) (.so [37,38] rfl (.eq (.call (zint_Mul (by simp only [val_words, zv_nf]; omega) (by simp only [val_words, zv_nf]; omega)) (.cons (.t rfl) (.cons (.t rfl) .nil))) (by simp only [val_words, zv_nf]; rfl)) ?_))))))))))))))))))))))
  refine .so [36,39] rfl (.eq (.call (zint_Sub (by simp only [val_words, zv_nf]; omega) (by simp only [val_words, zv_nf]; omega)) (.cons (.t rfl) (.cons (.t rfl) .nil))) (by simp only [val_words, zv_nf]; rfl)) ?_
  refine .fn (n := 6) mixed (.w [2,3,4,5,6,7,23,24,25,27,28,29,26,30,31,32,8,9,33,34,35,36,37,38,39,40] rfl (.store (.t rfl) (.t rfl) (i := 3) rfl ty33 rfl rfl (Ss' := [_, _]) rfl (M' := [_, _, _, (some _, cellM [_, _]), _, _, _, _]) rfl (.store (.t rfl) (.t rfl) (i := 2) rfl ty33 rfl rfl (Ss' := [_, _]) rfl (M' := [_, _, (some _, cellM [_, _]), _, _, _, _, _]) rfl (nl (.bln (.thn (hK5 (⟨(b, a.tmod b, nx, x - a.tdiv b * nx, Y, X + (a.tdiv b).natAbs * Y), hC.step hb, by rw [← hcof, cof_step hb]⟩) _ _ ?_ (Cv.trans (Cv.drop ((.cons _ (.cons _ (.cons_cons _ (.cons_cons _ (.cons_cons _ (.cons_cons _ (.cons_cons _ (.cons_cons _ .slnil)))))))))) (Cv.mem (.l [2,3,4,5,6,7] rfl) ?_)))))))))
  ·show (a.tmod b).natAbs < b.natAbs; rw [Int.natAbs_tmod]; exact Nat.mod_lt _ (by omega)
  ·simp only [if_neg hb]
 ·have hb : b = 0 := (sgn_eq0 _).1 (by omega)
  refine .exit (.the (.the (.blh (.nk k4 (.w [2,4,5,6] rfl (.sq fun k10 => .sr fun k11 => st (.load (.t rfl) (i := 5) rfl ty33 rfl (Ss' := [_, _]) rfl) rfl (st (.eq (.call (zint_Sign (by simp only [val_words, zv_nf]; omega)) (.cons (.t rfl) .nil)) (by simp only [val_words, zv_nf]; rfl)) rfl ?_)))))))
  refine st (.ltI (.t rfl) (.cI 0 rfl)) rfl (nkQ k11 (.cd rfl (fun hc2 => ?_) (fun hc2 => ?_)))
  ·have ha : a < 0 := (sgn_lt _).1 hc2
   refine .sq fun k12 => .dr (.so [] rfl (.load (.t rfl) (i := 5) rfl ty33 rfl (Ss' := [_, _]) rfl) (.so [44] rfl (.eq (.call (zint_Neg (by simp only [val_words, zv_nf]; omega)) (.cons (.t rfl) .nil)) (by simp only [val_words, zv_nf]; rfl)) ?_))
   refine .so [] rfl (.load (.t rfl) (i := 1) rfl ty33 rfl (Ss' := [_, _]) rfl) (.fn (n := 3) mixed (.w [2,4,5,6,45,46] rfl (st (.eq (.call (zint_Neg (by simp only [val_words, zv_nf]; omega)) (.cons (.t rfl) .nil)) (by simp only [val_words, zv_nf]; rfl)) rfl ?_)))
   refine .store (.t rfl) (.t rfl) (i := 3) rfl ty33 rfl rfl (Ss' := [_, _]) rfl (M' := [_, _, _, (some _, cellM [_, _]), _, _]) rfl (.store (.t rfl) (.t rfl) (i := 2) rfl ty33 rfl rfl (Ss' := [_, _]) rfl (M' := [_, _, (some _, cellM [_, _]), _, _, _]) rfl (nkQ k12 (.ret (.thr (rtN (.inl rfl) Tryz.results104 rfl rfl (.cell rfl (i := 3) rfl ty33 rfl ?_ (.cell rfl (i := 2) rfl ty33 rfl ?_ .nil)))))))
   ·subst hb; exact isZ_eq (by rw [← hcof, cof_zero, if_pos ha])
   ·subst hb; exact isZ_eq (by rw [← hcof, cof_zero, if_pos ha])
  ·have ha : ¬ a < 0 := fun e => by have := (sgn_lt a).2 e; omega
   refine .skip (.nk k10 (.sq fun k13 => .drh [true, true, true, false, true, true] (Ms := [_, _, _, _, _]) rfl (.so [] rfl (.load (.t rfl) (i := 4) rfl ty33 rfl (Ss' := [_, _]) rfl) (.so [] rfl (.load (.t rfl) (i := 1) rfl ty33 rfl (Ss' := [_, _]) rfl) (.mid2 (.cons_cons _ (.cons_cons _ (.cons_cons _ (.cons _ (.cons_cons _ (.cons_cons _ .slnil)))))) (.st0 [48] rfl rfl (by kernel_rfl) (by kernel_rfl) (StS.store (.t rfl) (.t rfl) (i := 3) rfl ty33 rfl rfl (Ss' := [_, _]) rfl (M' := [_, _, _, (some _, cellM [_, _]), _, _]) rfl) (.cons_cons _ (.cons_cons _ (.cons_cons _ (.cons _ (.cons_cons _ (.cons_cons _ .slnil)))))) (.fin0 (n := 3) mixed rfl (by kernel_rfl) (by kernel_rfl) (by kernel_rfl) (.w [4,5,49] rfl (.store (.t rfl) (.t rfl) (i := 2) rfl ty33 rfl rfl (Ss' := [_, _]) rfl (M' := [_, _, (some _, cellM [_, _]), _, _, _]) rfl (nkQ k13 (.ret (rtN (.inl rfl) Tryz.results104 rfl rfl (.cell rfl (i := 3) rfl ty33 rfl ?_ (.cell rfl (i := 2) rfl ty33 rfl ?_ .nil))))))))))))))
   ·subst hb; exact isZ_eq (by rw [← hcof, cof_zero, if_neg ha])
   ·subst hb; exact isZ_eq (by rw [← hcof, cof_zero, if_neg ha])
end Go.Proofs.YtlebmedapfncoaaGreat
namespace Go.Proofs.YtlebmedapfncoaaGreat
open Go.En Go.RowKit
set_option maxRecDepth 10000
set_option maxHeartbeats 4000000
open Go.Nt
open Go.Pz
open Go.Mz
theorem lll_small {bw N K : Nat} {gd : Gr (Bool × List Nat)} {gl gu : Gr Row} {ds : List Int} {ls us : List Row} {m n : Bool} {ps qs : List Nat} {sw : Int} (hdl : ds.length = N + 1) (hdb : Bd ds K) (hll : ls.length = N) (hul : us.length = N) (hlr : ∀ r ∈ ls, r.2.length = N) (hur : ∀ r ∈ us, r.2.length = N) (hlb : ∀ r ∈ ls, Bd r.2 K) (hub : ∀ r ∈ us, Bd r.2 K) (hN : N ≤ 64) (hK : K ≤ 100000000) {i k : Nat} {r : Row} (hi : ls[i]? = some r) (hk : k < N) : CtrX Tryz.prog 93 [isPtr bw 0, isI (i : Int), isI (k : Int)] (lwM bw N gd gl gu ds ls us m n ps qs sw) (fun S M => S = isB (smZ (cf r.2 k) (cf ds (k + 1))) ∧ M = lwM bw N gd gl gu ds ls us m n ps qs sw) := by
 refine CtrX.i Tryz.func93 rfl Tryz.ntmps93 fun w0 F0 => .w [0,1,2] rfl (.fact (Has.rngI (Has.t (t := 1) rfl)) fun lt1 => .fact (Has.rngI (Has.t (t := 2) rfl)) fun lt2 => ?_)
 have hrC := hlr r (List.mem_of_getElem? hi)
 have hrB := hlb r (List.mem_of_getElem? hi) k
 have hrL : (r.2.map nz).length = N := by rw [List.length_map, hrC]
 have hdB := hdb (k + 1)
 have hiL : i < ls.length := by
  rcases Nat.lt_or_ge i ls.length with g | g
  ·exact g
  ·rw [List.getElem?_eq_none g] at hi; cases hi
 have ha := nz_add (cf r.2 k) (cf r.2 k)
 have hdL : (ds.map nz).length = N + 1 := by rw [List.length_map, hdl]
 refine .sr fun k1 => st (.as (.cB false)) rfl (nkQ k1 (.sq fun k2 => .dr (.m [] rfl (.so [7] rfl (.nilc (.t rfl)) (.so [8] rfl (.fieldAddr (.t rfl) fld87_2 ty71) (.so [9] rfl (.load1 (.t rfl) (i := 0) rfl ty71 rfl) (.m [] rfl (.so [10,11] rfl (.ixGr sl71 ty22 (.t rfl) (.t rfl) (by omega)) ?_))))))))
 refine .so [12] rfl (.loadGM (.t rfl) (i := 2) rfl ty22 hi) (.m [] rfl (.so [13,14] rfl (.ixGr sl22 ty33 (.t rfl) (.t rfl) (by omega)) ?_))
 refine .so [15] rfl (.loadGK zc_len (.t rfl) (i := 4 + i) (wkAt (pre := [_, _, _, _]) (lwL hi)) ty33 (getZ (i := k) (by omega))) (.m [] rfl (.so [17] rfl (.nilc (.t rfl)) (.so [18] rfl (.fieldAddr (.t rfl) fld87_2 ty71) (.so [19] rfl (.load1 (.t rfl) (i := 0) rfl ty71 rfl) (.m [] rfl (.so [20,21] rfl (.ixGr sl71 ty22 (.t rfl) (.t rfl) (by omega)) ?_))))))
 refine .so [22] rfl (.loadGM (.t rfl) (i := 2) rfl ty22 hi) (.m [] rfl (.so [23,24] rfl (.ixGr sl22 ty33 (.t rfl) (.t rfl) (by omega)) ?_))
 refine .so [25] rfl (.loadGK zc_len (.t rfl) (i := 4 + i) (wkAt (pre := [_, _, _, _]) (lwL hi)) ty33 (getZ (i := k) (by omega))) (.so [16,26] rfl (.eq (.call (zint_Add (by rw [val_words]; omega) (by rw [val_words]; omega)) (.cons (.t rfl) (.cons (.t rfl) .nil))) ((show isZ _ = isZ (cf r.2 k + cf r.2 k) from isZ_eq (by (try simp only [zv_nz]); (try simp only [zv_nf]))))) ?_)
 refine .so [27] rfl (.eq (.call (zint_Abs (by rw [val_words]; omega)) (.cons (.t rfl) .nil)) ((show isZ _ = isZ ((((cf r.2 k + cf r.2 k).natAbs : Nat) : Int)) from isZ_eq (by (try simp only [zv_nz]); (try simp only [zv_nf]))))) ?_
 refine .m [] rfl (.so [29] rfl (.nilc (.t rfl)) (.so [30] rfl (.fieldAddr (.t rfl) fld87_1 ty22) (.so [31] rfl (.load1 (.t rfl) (i := 0) rfl ty22 rfl) (.m [] rfl (.so [33] rfl (.eq (.addI (.t rfl) (.cI 1 rfl) (by omega) (by omega)) ((show isI _ = isI ((k + 1 : Nat) : Int) from isI_eq (by omega)))) (.so [32,34] rfl (.ixGr sl22 ty33 (.t rfl) (.t rfl) (by omega)) ?_))))))
 refine .so [35] rfl (.loadGK zc_len (.t rfl) (i := 1) rfl ty33 (getZ (i := k + 1) (by omega))) (.fn (n := 30) mixed (.w [6,28,36] rfl (st (.eq (.call (zint_Cmp (by rw [val_words]; rw [Int.natAbs_natCast]; omega) (by rw [val_words]; omega)) (.cons (.t rfl) (.cons (.t rfl) .nil))) ((show isI _ = isI (cmpZ (((cf r.2 k + cf r.2 k).natAbs : Nat) : Int) (cf ds (k + 1))) from isI_eq (by (try simp only [zv_nz]); (try simp only [zv_nf]))))) rfl ?_)))
 refine st (.leI (.t rfl) (.cI 0 rfl)) rfl (stM rfl (nkQ k2 (.ret (rtX1 (.inl rfl) Tryz.results93 rfl (.tmp (.t rfl) .nil) (⟨rfl, rfl⟩)))))
end Go.Proofs.YtlebmedapfncoaaGreat
namespace Go.Proofs.YtlebmedapfncoaaGreat
open Go.En Go.RowKit
set_option maxRecDepth 10000
set_option maxHeartbeats 4000000
open Go.Nt
theorem zint_Xgcd {m n : Bool} {xs ys : List Nat} (hx : (List.length (words (val xs))) ≤ 100000000) (hy : (List.length (words (val ys))) ≤ 100000000) (hb : zv n ys ≠ 0) : Ctr Tryz.prog 85 [Flat [isB m, isWords xs], Flat [isB n, isWords ys]] (isTup [isZ ((Nat.gcd (zv m xs).natAbs (zv n ys).natAbs : Nat) : Int), isZ (xg (zv m xs) (zv n ys)), isZ (if zv n ys ≠ 0 ∧ (((Nat.gcd (zv m xs).natAbs (zv n ys).natAbs : Nat) : Int) - xg (zv m xs) (zv n ys) * zv m xs).tmod (zv n ys) = 0 then (((Nat.gcd (zv m xs).natAbs (zv n ys).natAbs : Nat) : Int) - xg (zv m xs) (zv n ys) * zv m xs).tdiv (zv n ys) else 0)]) := by
 refine Ctr.i Tryz.func85 rfl Tryz.ntmps85 fun w0 F0 => .w [0,1] rfl (.fact (Has.okZ (Has.t (t := 0) rfl)) fun okz0 => .fact (Has.okZ (Has.t (t := 1) rfl)) fun okz1 => ?_)
 have hxx := zv_nw m xs
 have hyy := zv_nw n ys
 have h1 := nz_one
 have hcof := cof_all (zv m xs) (zv n ys)
 have hg1 := hcof.1
 obtain ⟨g, hge⟩ : ∃ g : Int, g = ((Nat.gcd (zv m xs).natAbs (zv n ys).natAbs : Nat) : Int) := ⟨_, rfl⟩
 have hgn : (List.length (words g.natAbs)) ≤ 100000000 := by rw [hge, Int.natAbs_natCast]; exact Nat.le_trans (nw_mono (Nat.gcd_le_right _ (by omega))) (by omega)
 obtain ⟨c, hce⟩ : ∃ c, c = (cof (zv m xs) (zv n ys) 1 0).2 := ⟨_, rfl⟩
 have hcn : (List.length (words c.natAbs)) ≤ 100000000 := by rw [hce]; exact Nat.le_trans (nw_mono hcof.2.2) (Nat.le_trans (nw_max _ _) (by have := nw_one; omega))
 obtain ⟨sp, hst⟩ : ∃ sp : Int, sp = ((zv n ys).natAbs : Int) / g := ⟨_, rfl⟩
 have hsp : 0 < sp := by rw [hst, hge]; exact step_pos hb
 have hsn : (List.length (words sp.natAbs)) ≤ 100000000 := by rw [hst, hge]; exact Nat.le_trans (nw_mono (step_le _ _)) (by omega)
 obtain ⟨x, hxe⟩ : ∃ x, x = xg (zv m xs) (zv n ys) := ⟨_, rfl⟩
 have hxn : (List.length (words x.natAbs)) ≤ 100000000 := by rw [hxe]; exact Nat.le_trans (nw_mono (xg_le hb)) (by omega)
 have hm := nz_mul x (zv m xs)
 have hs := nz_sub g (x * zv m xs)
 have hx2 : c % sp = x := by rw [hxe, hce, hst, hge]; rfl
 refine .sr fun k1 => .box (.t rfl) rfl fun b1 => .box (.t rfl) rfl fun b2 => .alloc [isB false, SlM isU []] zero33 (fun _ _ => ⟨rfl, nilM _ _, trivial⟩) rfl fun b3 => .alloc [isB false, SlM isU []] zero33 (fun _ _ => ⟨rfl, nilM _ _, trivial⟩) rfl fun b4 => .alloc [isB false, SlM isU []] zero33 (fun _ _ => ⟨rfl, nilM _ _, trivial⟩) rfl fun b5 => nkQ k1 (.sq fun k2 => .sr fun k3 => st (.load (.t rfl) (i := 3) rfl ty33 rfl (Ss' := [_, _]) rfl) rfl (st (.call (zint_Sign (by omega)) (.cons (.t rfl) .nil)) rfl (st (.eqI (.t rfl) (.cI 0 rfl)) rfl (nkQ k3 (.cd rfl (fun hc1 => ?_) (fun hc1 => ?_))))))
 ·exact absurd ((sgn_eq0 _).1 hc1) hb
 ·refine .skip (.nk k2 (.w [2,3,4,5,6] rfl (.sr fun k4 => st (.load (.t rfl) (i := 4) rfl ty33 rfl (Ss' := [_, _]) rfl) rfl (st (.load (.t rfl) (i := 3) rfl ty33 rfl (Ss' := [_, _]) rfl) rfl (st (.eq (.call (zint_cofactor (by with_reducible assumption) (by with_reducible assumption)) (.cons (.t rfl) (.cons (.t rfl) .nil))) ((show isTup [isZ _, isZ _] = isTup [isZ g, isZ c] from by rw [hce, hge, hg1]))) rfl (stM rfl (st (.ext (.t rfl) rfl) rfl (st (.ext (.t rfl) rfl) rfl (.alloc [isB false, SlM isU []] zero33 (fun _ _ => ⟨rfl, nilM _ _, trivial⟩) rfl fun b6 => .alloc [isB false, SlM isU []] zero33 (fun _ _ => ⟨rfl, nilM _ _, trivial⟩) rfl fun b7 => .store (.t rfl) (.t rfl) (i := 1) rfl ty33 rfl rfl (Ss' := [_, _]) rfl (M' := [_, (some _, cellM [_, _]), _, _, _, _, _]) rfl (.store (.t rfl) (.t rfl) (i := 0) rfl ty33 rfl rfl (Ss' := [_, _]) rfl (M' := [(some _, cellM [_, _]), _, _, _, _, _, _]) rfl (nkQ k4 (.w [2,3,4,5,6,7,8] rfl (.sq fun k5 => .drh [true, true, true, true, true, true, true] (Ms := [_, _, _, _, _, _, _]) rfl (.so [] rfl (.load (.t rfl) (i := 5) rfl ty33 rfl (Ss' := [_, _]) rfl) (.so [29] rfl (.call (zint_Abs (by omega)) (.cons (.t rfl) .nil)) (.so [] rfl (.load (.t rfl) (i := 1) rfl ty33 rfl (Ss' := [_, _]) rfl) ?_))))))))))))))))
  refine .so [30,31] rfl (.eq (.call (zint_Exact (by simp only [val_words, zv_nf, Int.natAbs_natCast]; omega) (by simp only [val_words, zv_nf]; omega)) (.cons (.t rfl) (.cons (.t rfl) .nil))) ((by simp only [zv_nf]; rw [show (if g ≠ 0 ∧ (((zv n ys).natAbs : Nat) : Int).tmod g = 0 then (((zv n ys).natAbs : Nat) : Int).tdiv g else 0) = sp from by rw [hst, hge, ← hg1]; exact (xg_step hb).trans (by rw [hg1])]))) ?_
  refine .m [32] rfl (.so [28] rfl (.ext (.t rfl) rfl) (.so [28] rfl (.ext (.t rfl) rfl) (.als2 (n1 := 8) (ds := [9]) (zs := [[isB false, SlM isU []]]) rfl (.cons rfl rfl zero33 (fun _ _ => ⟨rfl, nilM _ _, trivial⟩) .nil) (.cons_cons _ (.cons_cons _ (.cons_cons _ (.cons_cons _ (.cons_cons _ (.cons_cons _ (.cons_cons _ .slnil))))))) (Cs := [_]) rfl (.new [33] 0 (Ss' := [_, _]) (Cs' := [cellM [_, _]]) rfl (by kernel_rfl) (by kernel_rfl) rfl rfl rfl (by kernel_rfl) rfl (.t rfl) ty33 rfl rfl rfl rfl (.fn (n := 9) mixed rfl (fun bs hbs => ?_))))))
  obtain ⟨b8, rfl⟩ := len1 hbs
  refine .memEq (M' := [_, _, _, _, _, _, _, _]) rfl (.cv (Cv.wk (.k 2 rfl (.k 3 rfl (.k 4 rfl (.k 5 rfl (.k 6 rfl (.k 7 rfl (.k 8 rfl (.k 34 rfl (.cons (t := 9) (Has.op rfl) .nil)))))))))) (stM rfl (nkQ k5 (.sr fun k6 => st (.load (.t rfl) (i := 1) rfl ty33 rfl (Ss' := [_, _]) rfl) rfl (st (.load (.t rfl) (i := 0) rfl ty33 rfl (Ss' := [_, _]) rfl) rfl (st (.eq (.call (zint_Euclid (by simp only [val_words, zv_nf]; omega) (by simp only [val_words, zv_nf]; omega)) (.cons (.t rfl) (.cons (.t rfl) .nil))) ((by simp only [zv_nf]; rw [if_neg (show ¬ sp = 0 by omega), hx2]))) rfl ?_))))))
  refine stM rfl (st (.ext (.t rfl) rfl) rfl (st (.ext (.t rfl) rfl) rfl (st (.ext (.t rfl) rfl) rfl (.store (.t rfl) (.t rfl) (i := 1) rfl ty33 rfl rfl (Ss' := [_, _]) rfl (M' := [_, (some _, cellM [_, _]), _, _, _, _, _, _]) rfl (nkQ k6 (.w [2,3,4,5,6,7,8] rfl (.sq fun k7 => .drh [true, true, true, true, true, true, true, true] (Ms := [_, _, _, _, _, _, _, _]) rfl (.so [] rfl (.load (.t rfl) (i := 2) rfl ty33 rfl (Ss' := [_, _]) rfl) (.so [] rfl (.load (.t rfl) (i := 1) rfl ty33 rfl (Ss' := [_, _]) rfl) (.so [] rfl (.load (.t rfl) (i := 7) rfl ty33 rfl (Ss' := [_, _]) rfl) (.so [44,45] rfl (.eq (.call (zint_Mul (by simp only [val_words, zv_nf]; omega) (by omega)) (.cons (.t rfl) (.cons (.t rfl) .nil))) (by simp only [val_words, zv_nf]; rfl)) ?_)))))))))))
  refine .so [43,46] rfl (.eq (.call (zint_Sub (by simp only [val_words, zv_nf]; omega) (by simp only [val_words, zv_nf]; omega)) (.cons (.t rfl) (.cons (.t rfl) .nil))) (by simp only [val_words, zv_nf]; rfl)) ?_
  refine .so [] rfl (.load (.t rfl) (i := 6) rfl ty33 rfl (Ss' := [_, _]) rfl) (.so [47,48] rfl (.eq (.call (zint_Exact (by simp only [val_words, zv_nf]; omega) (by omega)) (.cons (.t rfl) (.cons (.t rfl) .nil))) (by simp only [val_words, zv_nf]; rfl)) ?_)
  refine .m [49] rfl (.so [42] rfl (.ext (.t rfl) rfl) (.so [42] rfl (.ext (.t rfl) rfl) (.als2 (n1 := 11) (ds := [11]) (zs := [[isB false, SlM isU []]]) rfl (.cons rfl rfl zero33 (fun _ _ => ⟨rfl, nilM _ _, trivial⟩) .nil) (.cons_cons _ (.cons_cons _ (.cons_cons _ (.cons_cons _ (.cons_cons _ (.cons_cons _ (.cons_cons _ (.cons_cons _ .slnil)))))))) (Cs := [_]) rfl (.new [50] 0 (Ss' := [_, _]) (Cs' := [cellM [_, _]]) rfl (by kernel_rfl) (by kernel_rfl) rfl rfl rfl (by kernel_rfl) rfl (.t rfl) ty33 rfl rfl rfl rfl (.fn (n := 12) mixed rfl (fun bs hbs => ?_))))))
  obtain ⟨b9, rfl⟩ := len1 hbs
  refine .memEq (M' := [_, _, _, _, _, _, _, _, _]) rfl (.cv (Cv.wk (.k 4 rfl (.k 5 rfl (.k 6 rfl (.k 7 rfl (.k 8 rfl (.k 51 rfl (.cons (t := 11) (Has.op rfl) .nil)))))))) (stM rfl (nkQ k7 (.sq fun k8 => .drh [true, true, true, true, true, false, false, true, true] (Ms := [_, _, _, _, _, _, _]) rfl (.so [] rfl (.load (.t rfl) (i := 3) rfl ty33 rfl (Ss' := [_, _]) rfl) (.so [] rfl (.load (.t rfl) (i := 2) rfl ty33 rfl (Ss' := [_, _]) rfl) (.so [] rfl (.load (.t rfl) (i := 0) rfl ty33 rfl (Ss' := [_, _]) rfl) (.mid2 (.cons_cons _ (.cons_cons _ (.cons_cons _ (.cons_cons _ (.cons_cons _ (.cons _ (.cons _ (.cons_cons _ (.cons_cons _ .slnil))))))))) (.st0 [52] rfl rfl (by kernel_rfl) (by kernel_rfl) (StS.store (.t rfl) (.t rfl) (i := 6) rfl ty33 rfl rfl (Ss' := [_, _]) rfl (M' := [_, _, _, _, _, _, (some _, cellM [_, _]), _, _]) rfl) (.cons_cons _ (.cons_cons _ (.cons_cons _ (.cons_cons _ (.cons_cons _ (.cons _ (.cons _ (.cons_cons _ (.cons_cons _ .slnil))))))))) (.st0 [53] rfl rfl (by kernel_rfl) (by kernel_rfl) (StS.store (.t rfl) (.t rfl) (i := 5) rfl ty33 rfl rfl (Ss' := [_, _]) rfl (M' := [_, _, _, _, _, (some _, cellM [_, _]), _, _, _]) rfl) (.cons_cons _ (.cons_cons _ (.cons_cons _ (.cons_cons _ (.cons_cons _ (.cons _ (.cons _ (.cons_cons _ (.cons_cons _ .slnil))))))))) (.fin0 (n := 5) mixed rfl (by kernel_rfl) (by kernel_rfl) (by kernel_rfl) (.w [4,5,6,54] rfl (.store (.t rfl) (.t rfl) (i := 4) rfl ty33 rfl rfl (Ss' := [_, _]) rfl (M' := [_, _, _, _, (some _, cellM [_, _]), _, _, _, _]) rfl (nkQ k8 (.ret (rtN (.inl rfl) Tryz.results85 rfl rfl (.cell rfl (i := 6) rfl ty33 rfl ?_ (.cell rfl (i := 5) rfl ty33 rfl ?_ (.cell rfl (i := 4) rfl ty33 rfl ?_ .nil)))))))))))))))))))
  ·exact isZ_eq hge
  ·exact isZ_eq hxe
  ·exact isZ_eq (by rw [hge, hxe])
end Go.Proofs.YtlebmedapfncoaaGreat
namespace Go.Proofs.YtlebmedapfncoaaGreat
open Go.En Go.RowKit
set_option maxRecDepth 10000
set_option maxHeartbeats 4000000
open Go.Nt
open Go.Pz
open Go.Mz
theorem zmat_side {n : Int} : Ctr Tryz.prog 28 [isI n] (isB (decide (0 ≤ n) && decide (n ≤ 64))) := by
 refine Ctr.i Tryz.func28 rfl Tryz.ntmps28 fun w0 F0 => .w [0] rfl (.fact (Has.rngI (Has.t (t := 0) rfl)) fun lt0 => .sr fun k1 => st (.as (.cB false)) rfl (nkQ k1 (.sr fun k2 => stM rfl (st (.geI (.t rfl) (.cI 0 rfl)) rfl (stM rfl (stT rfl rfl (fun hg => .mv (.t rfl)) rfl (stT rfl rfl (fun hg => .leI (Has.g rfl hg) (.cI 64 rfl)) rfl (st (.pickAnd (.t rfl) (fun h => Has.g rfl h)) rfl (stM rfl (nkQ k2 (.w [2] rfl (.ret (rt1 (.inl rfl) Tryz.results28 rfl (.tmp (Has.t' rfl ?_) .nil))))))))))))))
 all_goals (rfl)
theorem zmat_Formed {r c : Int} {xs : List (Bool × List Nat)} : Ctr Tryz.prog 24 [isM r c xs] (isB (formB r c xs.length)) := by
 refine Ctr.i Tryz.func24 rfl Tryz.ntmps24 fun w0 F0 => .w [0] rfl (.sr fun k1 => .box (.t rfl) rfl fun b1 => st (.as (.cB false)) rfl (nkQ k1 (.sr fun k2 => st (.fieldAddr (.t rfl) fld24_0 ty3) rfl (st (.load1 (.t rfl) (i := 0) rfl ty3 rfl) rfl (st (.call (zmat_side) (.cons (.t rfl) .nil)) rfl (stM rfl (stT rfl rfl (fun hg => .fieldAddr (.t rfl) fld24_1 ty3) rfl (stT rfl rfl (fun hg => .load1 (Has.g rfl hg) (i := 0) rfl ty3 rfl) rfl (stT rfl rfl (fun hg => .call (zmat_side) (.cons (Has.g rfl hg) .nil)) rfl (st (.pickAnd (.t rfl) (fun h => Has.g rfl h)) rfl (stM rfl (stT rfl rfl (fun hg => .fieldAddr (.t rfl) fld24_2 ty22) rfl (stT rfl rfl (fun hg => .load1 (Has.g rfl hg) (i := 0) rfl ty22 rfl) rfl (stT rfl rfl (fun hg => .len sl22 (Has.g rfl hg)) rfl (stT rfl rfl (fun hg => .fieldAddr (.t rfl) fld24_0 ty3) rfl (stT rfl rfl (fun hg => .load1 (Has.g rfl hg) (i := 0) rfl ty3 rfl) rfl (stT rfl rfl (fun hg => .fieldAddr (.t rfl) fld24_1 ty3) rfl (stT rfl rfl (fun hg => .load1 (Has.g rfl hg) (i := 0) rfl ty3 rfl) rfl ?_))))))))))))))))))
 refine stT rfl rfl (fun hg => have hg' := BP.t hg; OK1.mulI (Has.g rfl hg) (Has.g rfl hg) (by have := mul_bnd ⟨hg'.1, hg'.2⟩; omega) (by have := mul_bnd ⟨hg'.1, hg'.2⟩; omega)) rfl ?_
 refine stT rfl rfl (fun hg => .eqI (Has.g rfl hg) (Has.g rfl hg)) rfl (st (.pickAnd (.t rfl) (fun h => Has.g rfl h)) rfl (stM rfl (nkQ k2 (.w [2] rfl (.ret (rt1 (.inl rfl) Tryz.results24 rfl (.tmp (Has.t' rfl ?_) .nil)))))))
 all_goals (rfl)
theorem zmat_get {r : Int} {C i k : Nat} {xs : List (Bool × List Nat)} (hx : xs.length ≤ 4096) (hl : i * C + k < xs.length) : Ctr Tryz.prog 38 [isM r (C : Int) xs, isI (i : Int), isI (k : Int)] (Flat (zc (xs.getD (i * C + k) (false, [])))) := by
 refine Ctr.i Tryz.func38 rfl Tryz.ntmps38 fun w0 F0 => .w [0,1,2] rfl (.fact (Has.rngI (Has.t (t := 1) rfl)) fun lt1 => .fact (Has.rngI (Has.t (t := 2) rfl)) fun lt2 => ?_)
 have hcp : ((i : Int) * (C : Int)) = ((i * C : Nat) : Int) := (Int.natCast_mul i C).symm
 refine .sr fun k1 => .box (.t rfl) rfl fun b1 => .alloc [isB false, SlM isU []] zero33 (fun _ _ => ⟨rfl, nilM _ _, trivial⟩) rfl fun b2 => nkQ k1 (.sr fun k2 => st (.fieldAddr (.t rfl) fld24_2 ty22) rfl (st (.load1 (.t rfl) (i := 1) rfl ty22 rfl) rfl (stM rfl (st (.fieldAddr (.t rfl) fld24_1 ty3) rfl (st (.load1 (.t rfl) (i := 1) rfl ty3 rfl) rfl (st (.eq (.mulI (.t rfl) (.t rfl) (by omega) (by omega)) ((show isI _ = isI ((i * C : Nat) : Int) from isI_eq hcp))) rfl (stM rfl (st (.eq (.addI (.t rfl) (.t rfl) (by omega) (by omega)) ((show isI _ = isI ((i * C + k : Nat) : Int) from isI_eq (by omega)))) rfl (st (.ixK sl22 ty33 (.t rfl) (.t rfl) zc_len (by omega) (getD_some (d := (false, [])) (by omega))) rfl (st (.loadP (.t rfl) ty33 rfl (Ss' := [_, _]) rfl) rfl (.store (.t rfl) (.t rfl) (i := 0) rfl ty33 rfl rfl (Ss' := [_, _]) rfl (M' := [(some _, cellM [_, _]), _]) rfl (nkQ k2 (.w [6] rfl (.ret (rt1 (.inl rfl) Tryz.results38 rfl (.cell rfl (i := 0) rfl ty33 rfl ?_ .nil))))))))))))))))
 all_goals (rfl)
theorem zmat_has {r c i : Int} {xs : List (Bool × List Nat)} : Ctr Tryz.prog 37 [isM r c xs, isI i] (isB (decide (0 ≤ i) && decide (i < r))) := by
 refine Ctr.i Tryz.func37 rfl Tryz.ntmps37 fun w0 F0 => .w [0,1] rfl (.fact (Has.rngI (Has.t (t := 1) rfl)) fun lt1 => .sr fun k1 => .box (.t rfl) rfl fun b1 => st (.as (.cB false)) rfl (nkQ k1 (.sr fun k2 => stM rfl (st (.geI (.t rfl) (.cI 0 rfl)) rfl (stM rfl (stT rfl rfl (fun hg => .mv (.t rfl)) rfl (stT rfl rfl (fun hg => .fieldAddr (.t rfl) fld24_0 ty3) rfl (stT rfl rfl (fun hg => .load1 (Has.g rfl hg) (i := 0) rfl ty3 rfl) rfl (stT rfl rfl (fun hg => .ltI (Has.g rfl hg) (Has.g rfl hg)) rfl (st (.pickAnd (.t rfl) (fun h => Has.g rfl h)) rfl (stM rfl (nkQ k2 (.w [4] rfl (.ret (rt1 (.inl rfl) Tryz.results37 rfl (.tmp (Has.t' rfl ?_) .nil))))))))))))))))
 all_goals (rfl)
theorem zmat_made {R C : Nat} {f : Nat → Nat → Bool × List Nat} (hR : R ≤ 64) (hC : C ≤ 64) (hf : ∀ i k, i < R → k < C → (List.length (words (val (f i k).2))) ≤ 4294967296) : Ctr Tryz.prog 29 [isI (R : Int), isI (C : Int), isAt Tryz.prog R C f] (isMz R C (tab (R * C) C fun i k => zv (f i k).1 (f i k).2)) := by
 refine Ctr.i Tryz.func29 rfl Tryz.ntmps29 fun w0 F0 => .w [0,1,2] rfl (.fact (Has.rngI (Has.t (t := 0) rfl)) fun lt0 => .fact (Has.rngI (Has.t (t := 1) rfl)) fun lt1 => ?_)
 have hRC := side_le hR hC
 obtain ⟨G, hG⟩ : ∃ G : Nat → Nat → Int, G = fun i k => zv (f i k).1 (f i k).2 := ⟨_, rfl⟩
 rw [← hG]
 refine .sr fun k1 => .alloc [isI 0, isI 0, nilS] zero24 (fun _ _ => ⟨⟨rfl, by decide, by decide⟩, ⟨rfl, by decide, by decide⟩, rfl, trivial⟩) rfl fun b1 => nkQ k1 (.sr fun k2 => stM rfl (stM rfl (st (.build [isI 0, isI 0, nilS] pl24 zero24 (fun _ _ => ⟨⟨rfl, by decide, by decide⟩, ⟨rfl, by decide, by decide⟩, rfl, trivial⟩) (.cons (.t rfl) rfl rfl rfl (.cons (.t rfl) rfl rfl rfl .nil)) (Z'' := [_, _, _]) rfl) rfl (.alloc [isI 0, isI 0, nilS] zero24 (fun _ _ => ⟨⟨rfl, by decide, by decide⟩, ⟨rfl, by decide, by decide⟩, rfl, trivial⟩) rfl fun b2 => .store (.t rfl) (.t rfl) (i := 0) rfl ty24 rfl rfl (Ss' := [_, _, _]) rfl (M' := [(some _, cellM [_, _, _]), _]) rfl (nkQ k2 (.sq fun k3 => .sq fun k4 => .cv (Cv.growF (Bool × List Nat) (i := 0) (o := 2) rfl rfl rfl) (.memEq (M' := [grMK zc Gr.nil [], _, _]) rfl (.region (stM rfl (st (.mv (.cI 0 rfl)) rfl (nkQ k4 (.block (.loopF [1,2,6,7,14] (fun (z : { z : Nat × Gr (Bool × List Nat) // z.1 ≤ R }) => match z with | ⟨(i, g), hI⟩ => [(15, isI (i : Int))]) (fun M => fun (z : { z : Nat × Gr (Bool × List Nat) // z.1 ≤ R }) => match z with | ⟨(i, g), hI⟩ => [grMK zc g ((tab (i * C + 0) C G).map nz), (some b2, cellM [isI (R : Int), isI (C : Int), isGr g ((tab (i * C + 0) C G).map nz).length]), (some b1, cellM [isI 0, isI 0, nilS])]) (fun (z : { z : Nat × Gr (Bool × List Nat) // z.1 ≤ R }) => match z with | ⟨(i, g), hI⟩ => R - i) (⟨(0, Gr.nil), Nat.zero_le _⟩) (Cv.mem (.c 15 rfl ?_ (.l [1,2,6,7,14] rfl)) ?_) ?_)))))))))))))
 ·rfl
 ·exact grF_eq (n := 0) (ys := []) (by rw [List.length_map, tab_len, Nat.zero_mul]) (show [] = (tab (0 * C + 0) C G).map nz by rw [Nat.zero_mul]; rfl)
 rintro ⟨⟨i, g⟩, hI⟩ K5 hK5
 refine .w [15,1,2,6,7,14] rfl (.memEq (M' := [grMK zc g ((tab (i * C + 0) C G).map nz), (some b2, cellM [isI (R : Int), isI (C : Int), isGr g ((tab (i * C + 0) C G).map nz).length]), (some b1, cellM [isI 0, isI 0, nilS])]) rfl ?_)
 simp only [] at hI
 refine .sr fun k6 => st (.ltI (.t rfl) (.t rfl)) rfl (nkQ k6 (.sq fun k7 => .cd rfl (fun hc1 => ?_) (fun hc1 => ?_)))
 ·refine .skip (.nk k7 (.sq fun k8 => .block (.sr fun k9 => stM rfl (stM rfl (nkQ k9 (.sr fun k10 => stM rfl (st (.mv (.cI 0 rfl)) rfl (nkQ k10 (.block (.loopF [1,2,6,7,14,15,16,17,8,18] (fun (z : { z : Nat × Gr (Bool × List Nat) // z.1 ≤ C }) => match z with | ⟨(k, g2), hK⟩ => [(19, isI (k : Int))]) (fun M => fun (z : { z : Nat × Gr (Bool × List Nat) // z.1 ≤ C }) => match z with | ⟨(k, g2), hK⟩ => [grMK zc g2 ((tab (i * C + k) C G).map nz), (some b2, cellM [isI (R : Int), isI (C : Int), isGr g2 ((tab (i * C + k) C G).map nz).length]), (some b1, cellM [isI 0, isI 0, nilS])]) (fun (z : { z : Nat × Gr (Bool × List Nat) // z.1 ≤ C }) => match z with | ⟨(k, g2), hK⟩ => C - k) (⟨(0, g), Nat.zero_le _⟩) (Cv.mem (.c 19 rfl ?_ (.l [1,2,6,7,14,15,16,17,8,18] rfl)) ?_) ?_))))))))))
  ·rfl
  ·rfl
  rintro ⟨⟨k, g2⟩, hK⟩ K11 hK11
  refine .w [19,1,2,6,7,14,15,16,17,8,18] rfl (.memEq (M' := [grMK zc g2 ((tab (i * C + k) C G).map nz), (some b2, cellM [isI (R : Int), isI (C : Int), isGr g2 ((tab (i * C + k) C G).map nz).length]), (some b1, cellM [isI 0, isI 0, nilS])]) rfl ?_)
  simp only [] at hK
  refine .sr fun k12 => st (.ltI (.t rfl) (.t rfl)) rfl (nkQ k12 (.sq fun k13 => .cd rfl (fun hc2 => ?_) (fun hc2 => ?_)))
  ·refine .skip (.nk k13 (.sq fun k14 => .block (.sr fun k15 => stM rfl (stM rfl (nkQ k15 (.sr fun k16 => stM rfl (stM rfl (stM rfl (st (.callV ⟨(i, k), by omega, by omega⟩ (.t rfl) (.cons (.t rfl) (.cons (.t rfl) .nil))) rfl (.alloc [isB false, SlM isU []] zero33 (fun _ _ => ⟨rfl, nilM _ _, trivial⟩) rfl fun b3 => .store (.t rfl) (.t rfl) (i := 0) rfl ty33 rfl rfl (Ss' := [_, _]) rfl (M' := [(some _, cellM [_, _]), _, _, _]) rfl (nkQ k16 (.dr (.so [] rfl (.fieldAddr (.t rfl) fld24_2 ty22) (.so [26] rfl (.load1 (.t rfl) (i := 2) rfl ty22 rfl) (.so [] rfl (.fieldAddr (.t rfl) fld33_1 ty31) (.so [28] rfl (.load1 (.t rfl) (i := 0) rfl ty31 rfl) (.so [] rfl (.fieldAddr (.t rfl) fld33_0 ty4) (.so [30] rfl (.load1 (.t rfl) (i := 0) rfl ty4 rfl) (.so [29,31] rfl (.eq (.call (zint_From (hf i k (by omega) (by omega))) (.cons (.t rfl) (.cons (.t rfl) .nil))) ((show isZ _ = Flat (zc (nz (G i k))) from isZ_eq (by rw [hG])))) (.so [32] rfl (.buildS [isB false, SlM isU []] sl22 ty33 zero33 (fun _ _ => ⟨rfl, nilM _ _, trivial⟩) rfl rfl (.cons (.t rfl) rfl rfl rfl .nil) rfl (S := SlK 2 zc [nz (G i k)]) rfl) (.fn (n := 8) mixed (.w [1,2,6,7,14,15,16,17,8,18,19,20,21,9,22,23,24,25,10,26,27,28,29,30,31,32,33] rfl (.appendGK (fk := zc) (u := (false, [])) zc_len (by decide) (fun _ => inferInstance) sl22 ty33 zero33 (fun _ _ => ⟨rfl, nilM _ _, trivial⟩) by33 (.t rfl) (i := 1) rfl (.t rfl) (by have hpl := place_lt (show i < R by omega) (show k < C by omega); rw [List.length_map, tab_len]; show i * C + k + 1 ≤ _; omega) (by simp) rfl fun gr1 => ?_)))))))))))))))))))))))
   refine .memEq (M' := [_, grMK _ _ _, _, _]) rfl (st (.fieldAddr (.t rfl) fld24_2 ty22) rfl (.store (.t rfl) (.t rfl) (i := 2) rfl ty22 rfl rfl (Ss' := [_, _, _]) rfl (M' := [_, _, (some _, cellM [_, _, _]), _]) rfl (nl (.bln (.nk k14 (.region (st (.addI (.t rfl) (.cI 1 rfl) (by omega) (by omega)) rfl (stM rfl (nl (.thn ?_))))))))))
   have hpl := place_lt (show i < R by omega) (show k < C by omega)
   refine hK11 (⟨(k + 1, gr1), by show k + 1 ≤ C; omega⟩) _ _ ?_ (Cv.trans (Cv.drop ((.cons _ (.cons_cons _ (.cons_cons _ (.cons_cons _ .slnil)))))) (Cv.mem (.c 19 rfl ?_ (.l [1,2,6,7,14,15,16,17,8,18] rfl)) ?_))
   ·show C - (k + 1) < C - k; omega
   ·exact isI_eq (by omega)
   ·exact grF_eq (by rw [← tab_succ G (show k < C by omega), List.map_append, List.length_append]; rfl) (by rw [← tab_succ G (show k < C by omega), List.map_append]; rfl)
  ·refine .exit (.the (.the (.blh (.bln (.nk k8 (.region (st (.addI (.t rfl) (.cI 1 rfl) (by omega) (by omega)) rfl (stM rfl (nl (.thn ?_))))))))))
   have hkC : k = C := by omega
   subst hkC
   refine hK5 (⟨(i + 1, g2), by show i + 1 ≤ R; omega⟩) _ _ ?_ (Cv.mem (.c 15 rfl ?_ (.l [1,2,6,7,14] rfl)) ?_)
   ·show R - (i + 1) < R - i; omega
   ·exact isI_eq (by omega)
   ·exact grF_eq (by rw [tab_next]) (by rw [tab_next])
 ·refine .exit (.the (.the (.blh (.nk k3 (.w [6,7] rfl (.sq fun k17 => .cv (Cv.freezeF (k := 2) (i := 0) (j := 0) (o := 2) rfl rfl rfl rfl (gr_lenK zc_len) (gr_takeK zc_len) (Ss' := [_, _, SlK 2 zc ((tab (i * C + 0) C G).map nz)]) rfl) (.memEq (M' := [(some _, cellM [_, _, SlK 2 zc ((tab (i * C + 0) C G).map nz)]), _]) rfl (.w [6,7] rfl (.region (st (.load (.t rfl) (i := 0) rfl ty24 rfl (Ss' := [_, _, _]) rfl) rfl (.store (.t rfl) (.t rfl) (i := 1) rfl ty24 rfl rfl (Ss' := [_, _, _]) rfl (M' := [_, (some _, cellM [_, _, _])]) rfl (nkQ k17 (.ret (rt1 (.inl rfl) Tryz.results29 rfl (.cell rfl (i := 1) rfl ty24 rfl ?_ .nil)))))))))))))))
  all_goals (rw [Nat.add_zero, show i = R by omega])
end Go.Proofs.YtlebmedapfncoaaGreat
