/- Rules and contracts, part 2 of 5. -/
import Derived.Test.YthkdmhaafanjlaaGreatQGramOf1
import Derived.ProofKit
import Derived.OpenShut
import Derived.ChangeOld
import Derived.Carry
import Derived.ChangeSlices
import Derived.Test.YthkdmhaafanjlaaGreatProg
import Derived.KernelRfl
import Derived.Laws.MathBits
namespace Go.En
open Go.RowKit
section
variable {E : Env} {P : Program} {Γ : Ctx} {M : Mem} {ty : TypeId} {pos : String} {after : Array Edge} {gd : Option (Nat × Bool)} {d : Option Tmp}
 {ops : Array Oper} {Q : Exit → Act → World → Prop} {rest : List Oper}
def isOP (o : Option Nat) : VP := .pure fun v => ∀ b, o = some b → v = .pointer (some ⟨b, 0, none⟩)
def gctx : List Nat → List (Option Nat) → Ctx
 | d :: ds, o :: B => (d, isOP o) :: gctx ds B
 | _, _ => []
def gmem : List MP → List (Option Nat) → Mem
 | C :: Cs, o :: B => (o, C) :: gmem Cs B
 | _, _ => []
theorem Has.op {t b : Nat} (h : look Γ t = some (isOP (some b))) : Has E Γ M (.tmp t) (isPtr b 0) := fun a w F s => s.slots t _ h b rfl
theorem look_gctx_at : ∀ (ds : List Nat) (B : List (Option Nat)) (t : Nat) (S : VP), look (gctx ds B) t = some S → ∃ (j : Nat) (o : Option Nat), ds[j]? = some t ∧ B[j]? = some o ∧ S = isOP o
  | [], B, t, S, h => by simp [gctx, look] at h
  | d :: ds, [], t, S, h => by simp [gctx, look] at h
  | d :: ds, o :: B, t, S, h => by
    simp only [gctx, look] at h
    cases hb : Nat.beq d t with
    | true => rw [hb] at h; simp at h; exact ⟨0, o, by simp [Nat.eq_of_beq_eq_true hb], rfl, h.symm⟩
    | false => rw [hb] at h; obtain ⟨j, o', h1, h2, h3⟩ := look_gctx_at ds B t S h; exact ⟨j + 1, o', by simpa using h1, by simpa using h2, h3⟩
theorem look_gctx (ds : List Nat) (B : List (Option Nat)) (t : Nat) (S : VP) (h : look (gctx ds B) t = some S) : ∃ j : Nat, ds[j]? = some t := by
 obtain ⟨j, o, h1, _⟩ := look_gctx_at ds B t S h; exact ⟨j, h1⟩
theorem look_gctx_set : ∀ (ds : List Nat) (B : List (Option Nat)) (j b : Nat) (t : Nat) (S : VP), look (gctx ds (B.set j (some b))) t = some S → (ds[j]? = some t ∧ S = isOP (some b)) ∨ look (gctx ds B) t = some S
  | [], B, j, b, t, S, h => by simp [gctx, look] at h
  | d :: ds, [], j, b, t, S, h => by simp [gctx, look] at h
  | d :: ds, o :: B, 0, b, t, S, h => by
    simp only [List.set_cons_zero, gctx, look] at h ⊢
    cases hb : Nat.beq d t with
    | true => rw [hb] at h; simp at h; exact .inl ⟨by simp [Nat.eq_of_beq_eq_true hb], h.symm⟩
    | false => rw [hb] at h; exact .inr h
  | d :: ds, o :: B, j + 1, b, t, S, h => by
    simp only [List.set_cons_succ, gctx, look] at h ⊢
    cases hb : Nat.beq d t with
    | true => rw [hb] at h; exact .inr h
    | false =>
      rw [hb] at h
      rcases look_gctx_set ds B j b t S h with h1 | h1
      · exact .inl ⟨by simpa using h1.1, h1.2⟩
      · exact .inr h1
theorem gmem_set : ∀ (Cs : List MP) (B : List (Option Nat)) (q b : Nat) {n : Nat} {M : Mem} {C : MP}, B.length = n → Cs.length = n → Cs[q]? = some C → q < n → (gmem Cs B ++ M).set q (some b, C) = gmem Cs (B.set q (some b)) ++ M
  | [], B, q, b, n, M, C, h1, h2, h3, h4 => by simp at h3
  | C0 :: Cs, [], q, b, n, M, C, h1, h2, h3, h4 => by simp at h1; omega
  | C0 :: Cs, o :: B, 0, b, n, M, C, h1, h2, h3, h4 => by simp at h3; subst h3; rfl
  | C0 :: Cs, o :: B, q + 1, b, n, M, C, h1, h2, h3, h4 => by
    obtain ⟨n, rfl⟩ : ∃ k, n = k + 1 := ⟨n - 1, by omega⟩
    have := gmem_set Cs B q b (n := n) (M := M) (C := C) (by simpa using h1) (by simpa using h2) (by simpa using h3) (by omega)
    simp only [gmem, List.cons_append, List.set_cons_succ, this]
theorem all_some : ∀ {B : List (Option Nat)}, (∀ (j : Nat) (o : Option Nat), B[j]? = some o → o ≠ none) → ∃ bs : List Nat, bs.length = B.length ∧ B = bs.map some
  | [], _ => ⟨[], rfl, rfl⟩
  | none :: B, h => absurd rfl (h 0 none rfl)
  | some b :: B, h => by
    obtain ⟨bs, h1, h2⟩ := all_some (B := B) fun j o hj => h (j + 1) o (by simpa using hj)
    exact ⟨b :: bs, by simp [h1], by rw [h2]; rfl⟩
structure AlAt (E : Env) (P : Program) (l : List Oper) (n0 n1 k : Nat) (ds : List Nat) (Cs : Nat → List MP) (j : Nat) : Prop where
 full : ∃ (d : Nat) (T : TypeId) (z : Value) (Zs : List VP) (ty : TypeId) (pos : String) (after : Array Edge), ds[j]? = some d ∧ l[n0 + j]? = some ⟨some d, .alloc T, ty, pos, after, none⟩ ∧ d < E.n ∧ zeroB P T = some z ∧ (∀ w F, All2 Zs w F z.cells.toList) ∧
  ∀ m, m ≤ k → (Cs m)[j]? = some (cellM Zs) ∨ ∃ m', m' < m ∧ (((masks l [])[n1 + m']?).getD 0).testBit (n0 + j) = true
theorem AlAt.ex {l : List Oper} {n0 n1 k : Nat} {ds : List Nat} {Cs : Nat → List MP} {j : Nat} (h : AlAt E P l n0 n1 k ds Cs j) : ∃ (d : Nat) (T : TypeId) (z : Value) (ty : TypeId) (pos : String) (after : Array Edge), ds[j]? = some d ∧ l[n0 + j]? = some ⟨some d, .alloc T, ty, pos, after, none⟩ ∧ True := by
 obtain ⟨d, T, z, Zs, ty, pos, after, q1, q2, _⟩ := h.full; exact ⟨d, T, z, ty, pos, after, q1, q2, trivial⟩
structure MidD (E : Env) (P : Program) (l : List Oper) (Γ : Ctx) (Ss : List VP) (n1 : Nat) (ds : List Nat) (m : Nat) (Cs : List MP) (M : Mem) (Cs' : List MP) (M' : Mem) : Prop where
 ex : ∃ (o : Oper) (Δ : Ctx) (req : List Nat), l[n1 + m]? = some o ∧ o.dst = none ∧
  (∀ t S, look Δ t = some S → (∃ (j : Nat) (oj : Oper), (((masks l [])[n1 + m]?).getD 0).testBit j = true ∧ l[j]? = some oj ∧ oj.dst = some t ∧ Ss[j]? = some S) ∨ look Γ t = some S) ∧
  (∀ j, j < m → (((masks l [])[n1 + m]?).getD 0).testBit (n1 + j) = true) ∧ (∀ j ∈ req, j < ds.length ∧ (((masks l [])[n1 + m]?).getD 0).testBit (n1 - ds.length + j) = true) ∧
  ∀ B : List (Option Nat), B.length = ds.length → (∀ j ∈ req, ∃ b, B[j]? = some (some b)) → StS E P (Δ ++ gctx ds B) (gmem Cs B ++ M) o (gmem Cs' B ++ M')
theorem phaseD {l : List Oper} {n0 n1 k : Nat} {Ss : List VP} {Ms : Mem} {ds : List Nat} {Cs : Nat → List MP} {f : Nat → Mem} (hn1 : n1 = n0 + ds.length) (hD : Dr E P l Γ Ms n0 Ss) (hsub : ∀ m, m ≤ k → Ms.Sublist (f m)) (hmid : ∀ m, m < k → MidD E P l Γ Ss n1 ds m (Cs m) (f m) (Cs (m + 1)) (f (m + 1)))
    (hCl : ∀ m, m ≤ k → (Cs m).length = ds.length) (hal : ∀ j, j < ds.length → AlAt E P l n0 n1 k ds Cs j)
    (hap : apartB l n1 Γ = true) (htl : tailB l (n1 + k) = true) (hnl : n1 + k ≤ l.length) (kk : ∀ bs : List Nat, bs.length = ds.length → Ops E P l.toArray Q (l.drop (n1 + k)) (dctx (l.take n0) Ss ++ (gctx ds (bs.map some) ++ Γ)) (gmem (Cs k) (bs.map some) ++ f k)) :
    ∀ (fuel : Nat) (listed : Array Bool) (a : Act) (w : World) (F : Blk) (m : Nat) (B : List (Option Nat)), m ≤ k → B.length = ds.length → (∀ j o, B[j]? = some o → (o = none ↔ listed.getD (n0 + j) false = false)) → listed.toList.countP (· == false) ≤ fuel → listed.size = l.length →
    (∀ j, n1 + m ≤ j → j < l.length → listed.getD j true = false) → (∀ j, n1 ≤ j → j < n1 + m → listed.getD j true = true) → Closed l (fun j => listed.getD j false = true) → Sat E (gctx ds B ++ Γ) (gmem (Cs m) B ++ f m) a w F → Done l Ss (fun j => listed.getD j false = true) a w F →
    wpAny P .any l.toArray Q fuel listed a w := by
  obtain ⟨hlen, hat⟩ := hD.at
  have hsp := tailB_spec htl
  have gd : ∀ (listed : Array Bool) j, j < listed.size → listed.getD j true = listed.getD j false := fun listed j hj => by simp [hj]
  have hapart : ∀ i d, i < n1 → (l[i]?).bind (·.dst) = some d → (∀ t S, look Γ t = some S → t ≠ d) ∧ ∀ j e, j < n1 → j ≠ i → (l[j]?).bind (·.dst) = some e → e ≠ d := by
    intro i d hi hd
    unfold apartB at hap
    rw [List.all_eq_true] at hap
    have h1 := hap i (by simpa using hi)
    rw [hd] at h1
    simp only [Bool.and_eq_true] at h1
    refine ⟨look_none h1.1, fun j e hj hne he => ?_⟩
    have h2 := List.all_eq_true.1 h1.2 j (by simpa using hj)
    rw [he] at h2
    simp only [Bool.or_eq_true, Bool.not_eq_true'] at h2
    rcases h2 with h2 | h2
    · exact absurd (Nat.eq_of_beq_eq_true h2).symm hne
    · exact fun e' => Nat.ne_of_beq_eq_false h2 e'.symm
  have hend : ∀ (fuel : Nat) (listed : Array Bool) (a : Act) (w : World) (F : Blk) (m : Nat) (B : List (Option Nat)), m ≤ k → B.length = ds.length → (∀ j o, B[j]? = some o → (o = none ↔ listed.getD (n0 + j) false = false)) → listed.toList.countP (· == false) ≤ fuel → listed.size = l.length →
      (∀ j, n1 + m ≤ j → j < l.length → listed.getD j true = false) → Closed l (fun j => listed.getD j false = true) → Sat E (gctx ds B ++ Γ) (gmem (Cs m) B ++ f m) a w F → Done l Ss (fun j => listed.getD j false = true) a w F →
      (∀ j, j < n1 + k → j < l.length → listed.getD j true = true) → wpAny P .any l.toArray Q fuel listed a w := by
    intro fuel listed a w F m B hm hBl hB hcnt hsz htail hc s hdone hall
    obtain rfl : m = k := by
      rcases Nat.lt_or_ge m k with h | h
      · have h1 := htail (n1 + m) (Nat.le_refl _) (by omega)
        have h2 := hall (n1 + m) (by omega) (by omega)
        rw [h1] at h2; cases h2
      · omega
    have hge := count_ge hsz htail
    obtain ⟨bs, hbl, hbe⟩ := all_some (B := B) (fun j o hj => by
      intro e
      have hjl : j < ds.length := by
        rcases Nat.lt_or_ge j B.length with h | h
        · omega
        · rw [List.getElem?_eq_none h] at hj; cases hj
      have h1 := (hB j o hj).1 e
      have h2 := hall (n0 + j) (by omega) (by omega)
      rw [gd listed (n0 + j) (by omega), h1] at h2; cases h2)
    subst hbe
    refine phaseB htl fuel (n1 + m) listed a w (Nat.le_refl _) (by omega) hsz hall htail hc (kk bs (by simpa using hBl) a w F (s.wider ?_))
    intro t S ht
    rw [look_append] at ht
    cases hl : look (dctx (l.take n0) Ss) t with
    | none => rw [hl] at ht; exact s.slots t S (by simpa using ht)
    | some S' =>
      rw [hl] at ht
      obtain rfl : S' = S := by simpa using ht
      obtain ⟨j, o, h1, h2, h3⟩ := look_dctx _ _ _ _ hl
      have hj : j < n0 := by
        rcases Nat.lt_or_ge j n0 with h' | h'
        · exact h'
        · rw [List.getElem?_eq_none (by omega)] at h3; cases h3
      rw [List.getElem?_take_of_lt hj] at h1
      exact hdone j o t S' (by have h4 := hall j (by omega) (by omega); rw [gd listed j (by omega)] at h4; exact h4) h1 h2 h3
  intro fuel
  induction fuel with
  | zero =>
    intro listed a w F m B hm hBl hB hcnt hsz htail hmids hc s hdone
    refine hend 0 listed a w F m B hm hBl hB hcnt hsz htail hc s hdone fun j hj hjl => ?_
    have hlt : j < listed.size := by omega
    have h0 : listed.toList.countP (· == false) = 0 := by omega
    rw [List.countP_eq_zero] at h0
    have := h0 listed[j] (by simp)
    simp [hlt]
    simpa using this
  | succ fuel ih =>
    intro listed a w F m B hm hBl hB hcnt hsz htail hmids hc s hdone
    by_cases hall : ∀ j, j < n1 + k → j < l.length → listed.getD j true = true
    · exact hend _ listed a w F m B hm hBl hB hcnt hsz htail hc s hdone hall
    · have hex : ∃ j, j < n1 + k ∧ listed.getD j true = false := by
        refine Classical.byContradiction fun hno => hall fun j hj _ => ?_
        cases hb : listed.getD j true with
        | true => rfl
        | false => exact absurd ⟨j, hj, hb⟩ hno
      refine ⟨fun hr => ?_, fun i hi => ?_⟩
      · obtain ⟨j, ⟨hj1, hj2⟩, hmin⟩ := exists_least hex
        have : j ∈ Region.ready .any l.toArray listed := by
          rw [mem_ready]
          have hjl : j < l.length := by omega
          refine ⟨hj2, l[j], by simp [hjl], fun e he hb => ?_⟩
          have hlt := hsp.1 j _ (List.getElem?_eq_getElem hjl) e he hb
          cases hbb : listed.getD e.on true with
          | true => rw [gd listed e.on (by omega)] at hbb; exact hbb
          | false => have := hmin e.on ⟨by omega, hbb⟩; omega
        rw [hr] at this; simp at this
      · have hi' := hi
        rw [mem_ready] at hi
        obtain ⟨g1, o, g2, g3⟩ := hi
        have g2' : l[i]? = some o := by simpa using g2
        have hil : i < l.length := by
          rcases Nat.lt_or_ge i l.length with h' | h'
          · exact h'
          · rw [List.getElem?_eq_none h'] at g2'; cases g2'
        have hin : i < n1 + k := by
          rcases Nat.lt_or_ge i (n1 + k) with h' | h'
          · exact h'
          · obtain ⟨j, hj1, hj2⟩ := hex
            obtain ⟨q, hq, hb⟩ := hsp.2 i hil h' j (by omega)
            have := reach hc i o g2' g3 j q hq hb
            have e : listed.getD j false = true := this
            rw [← gd listed j (by omega), hj2] at e; cases e
        have hmask : i < (masks l []).length := by rw [masks_len]; simpa using hil
        have hcount : (listed.setIfInBounds i true).toList.countP (· == false) ≤ fuel := by
          have hlt : i < listed.toList.length := by simp; omega
          have hli : listed.toList[i] = false := by
            have : i < listed.size := by omega
            simp [this] at g1; simpa using g1
          rw [Array.toList_setIfInBounds, List.countP_set hlt]
          rw [hli]
          have hpos : 0 < listed.toList.countP (· == false) := List.countP_pos_iff.2 ⟨false, by rw [← hli]; exact List.getElem_mem _, rfl⟩
          simp only [beq_self_eq_true, if_true]
          show _ - 1 + 0 ≤ fuel
          omega
        have hclosed : Closed l (fun j => (listed.setIfInBounds i true).getD j false = true) := by
          intro j oj hj hL e he hb
          by_cases ek : j = i
          · subst ek
            rw [g2'] at hj; obtain rfl := Option.some.inj hj
            exact getD_set_true (g3 e he hb)
          · exact getD_set_true (hc j oj hj (by
              have hL' : (listed.setIfInBounds i true).getD j false = true := hL
              rwa [getD_set_ne false (fun h => ek h.symm)] at hL') e he hb)
        have hΓs : ∀ t S, look Γ t = some S → S.h w F (a.tmps.getD t undef) := fun t S ht => by
          refine s.slots t S ?_
          rw [look_append]
          cases hl : look (gctx ds B) t with
          | none => simpa using ht
          | some S' =>
            obtain ⟨j, hj⟩ := look_gctx _ _ _ _ hl
            obtain ⟨ap1, _⟩ := hapart (n0 + j) t (by
              rcases Nat.lt_or_ge j ds.length with h | h
              · omega
              · rw [List.getElem?_eq_none h] at hj; cases hj) (by
              have hjl : j < ds.length := by
                rcases Nat.lt_or_ge j ds.length with h | h
                · exact h
                · rw [List.getElem?_eq_none h] at hj; cases hj
              obtain ⟨d, T, z, ty, pos, after, q1, q2, _⟩ := (hal j hjl).ex
              rw [q2]; rw [hj] at q1; obtain rfl := Option.some.inj q1; rfl)
            exact absurd rfl (ap1 t S ht)
        have hctx : ∀ Δ : Ctx, (∀ t S, look Δ t = some S → (∃ (j : Nat) (oj : Oper), (((masks l [])[i]?).getD 0).testBit j = true ∧ l[j]? = some oj ∧ oj.dst = some t ∧ Ss[j]? = some S) ∨ look Γ t = some S) →
            ∀ t S, look Δ t = some S → S.h w F (a.tmps.getD t undef) := by
          intro Δ a6 t S' ht
          rcases a6 t S' ht with ⟨j, oj, b0, b1, b2, b3⟩ | h
          · rw [List.getElem?_eq_getElem hmask] at b0
            exact hdone j oj t S' (reach hc i o g2' g3 j _ (List.getElem?_eq_getElem hmask) (by simpa using b0)) b1 b2 b3
          · exact hΓs t S' h
        have ho : l.toArray[i]? = some o := by simpa using g2'
        have hBset : ∀ (i' : Nat), i' = i → (∀ j, j < ds.length → n0 + j ≠ i') → ∀ j o, B[j]? = some o → (o = none ↔ (listed.setIfInBounds i true).getD (n0 + j) false = false) := by
          intro i' hi' hne j o' hj
          subst hi'
          have hjl : j < ds.length := by
            rcases Nat.lt_or_ge j B.length with h | h
            · omega
            · rw [List.getElem?_eq_none h] at hj; cases hj
          rw [getD_set_ne false (fun e => hne j hjl e.symm)]
          exact hB j o' hj
        rcases Nat.lt_or_ge i n0 with hin1 | hin1
        · obtain ⟨o', d, S, Δ, a1, a2, a3, a4, a6, a7⟩ := hat i hin1
          rw [g2'] at a1; obtain rfl := Option.some.inj a1
          have hbind : (l[i]?).bind (·.dst) = some d := by rw [g2']; exact a2
          obtain ⟨ap1, ap2⟩ := hapart i d (by omega) hbind
          have ap3 : ∀ t S, look (gctx ds B ++ Γ) t = some S → t ≠ d := fun t S ht => by
            rw [look_append] at ht
            cases hl : look (gctx ds B) t with
            | none => rw [hl] at ht; exact ap1 t S (by simpa using ht)
            | some S' =>
              obtain ⟨j, hj⟩ := look_gctx _ _ _ _ hl
              have hjl : j < ds.length := by
                rcases Nat.lt_or_ge j ds.length with h | h
                · exact h
                · rw [List.getElem?_eq_none h] at hj; cases hj
              obtain ⟨d', T, z, ty, pos, after, q1, q2, _⟩ := (hal j hjl).ex
              rw [hj] at q1; obtain rfl := Option.some.inj q1
              exact ap2 (n0 + j) t (by omega) (by omega) (by rw [q2]; rfl)
          have hsat : Sat E Δ Ms a w F := (s.wider (hctx Δ a6)).sub ((hsub m hm).trans (List.sublist_append_right _ _))
          have hstep := a7 a w F hsat (wpAny P .any l.toArray Q fuel (listed.setIfInBounds i true)) Q
          have hgo : ∀ v w' F', Adv w F w' F' → S.h w' F' v → wpAny P .any l.toArray Q fuel (listed.setIfInBounds i true) (a.put o.dst v) w' := by
            intro v w' F' ad hv
            rw [a2]
            have s1 := s.adv ad
            refine ih _ _ w' F' m B hm hBl (hBset i rfl (fun j _ => by omega)) hcount (by simp [hsz]) (fun j hj hjl => ?_) (fun j h1 h2 => ?_) hclosed (s1.putOut a3 v ap3) ?_
            · rw [getD_set_ne true (by omega)]; exact htail j hj hjl
            · rw [getD_set_ne true (by omega)]; exact hmids j h1 h2
            · intro j oj dj Sj hL hj hdj hSj
              rw [getD_put (by rw [s1.size]; exact a3)]
              by_cases ek : j = i
              · subst ek
                rw [g2'] at hj; obtain rfl := Option.some.inj hj
                rw [a2] at hdj; obtain rfl := Option.some.inj hdj
                rw [a4] at hSj; obtain rfl := Option.some.inj hSj
                rw [if_pos rfl]; exact hv
              · have hjn : j < n0 := by
                  rcases Nat.lt_or_ge j n0 with h' | h'
                  · exact h'
                  · rw [List.getElem?_eq_none (by omega)] at hSj; cases hSj
                have hne := ap2 j dj (by omega) ek (by rw [hj]; exact hdj)
                rw [if_neg (fun e => hne e.symm)]
                refine Sj.mono _ _ _ _ _ (hdone j oj dj Sj ?_ hj hdj hSj) (ad.same s.flt) ad.sub
                have hL' : (listed.setIfInBounds i true).getD j false = true := hL
                rwa [getD_set_ne false (fun h => ek h.symm)] at hL'
          have hres := hstep hgo
          unfold wpOp
          rw [ho]
          exact hres
        · rcases Nat.lt_or_ge i n1 with hin2 | hin2
          · -- a new block
            obtain ⟨q, rfl⟩ : ∃ q, i = n0 + q := ⟨i - n0, by omega⟩
            have hql : q < ds.length := by omega
            obtain ⟨d, T, z, Zs, ty, pos, after, q1, q2, q3, q4, q5, q6⟩ := (hal q hql).full
            rw [g2'] at q2; obtain rfl := Option.some.inj q2
            obtain ⟨ap1, ap2⟩ := hapart (n0 + q) d (by omega) (by rw [g2']; rfl)
            have hBq : B[q]? = some none := by
              have hlt : q < B.length := by omega
              have h1 := (hB q B[q] (List.getElem?_eq_getElem hlt)).2 (by rw [← gd listed (n0 + q) (by omega)]; exact g1)
              rw [List.getElem?_eq_getElem hlt, h1]
            have hCq : (Cs m)[q]? = some (cellM Zs) := by
              rcases q6 m hm with h | ⟨m', hm', hb⟩
              · exact h
              · have hml : n1 + m' < l.length := by omega
                have hL : listed.getD (n1 + m') false = true := by rw [← gd listed (n1 + m') (by omega)]; exact hmids _ (by omega) (by omega)
                have hmk2 : n1 + m' < (masks l []).length := by rw [masks_len]; simpa using hml
                rw [List.getElem?_eq_getElem hmk2] at hb
                have := reach hc (n1 + m') _ (List.getElem?_eq_getElem hml) (fun e he hb' => hc (n1 + m') _ (List.getElem?_eq_getElem hml) hL e he hb') (n0 + q) _ (List.getElem?_eq_getElem hmk2) (by simpa using hb)
                have e : listed.getD (n0 + q) false = true := this
                rw [← gd listed (n0 + q) (by omega), g1] at e; cases e
            unfold wpOp
            rw [ho]
            show if Region.wanted _ (yielded l.toArray a.tmps) then _ else _
            rw [if_pos (by simp [Region.wanted])]
            refine .inl ?_
            unfold Oper.wp
            have hr : (execOp a.eval (⟨some d, .alloc T, ty, pos, after, none⟩ : Oper)).run P w = .ok (.value (.pointer (some ⟨w.heap.size, 0, none⟩))) { w with heap := w.heap.push (.cells z.cells T) } := by
              have := run_zero (w := w) q4
              simp only [execOp, Instr.alloc, newVar, newRow, newObj, Sem.run_bind, this, Result.andThen_ok]
              simp [go_sem]; rfl
            rw [hr]
            show wpAny P .any l.toArray Q fuel (listed.setIfInBounds (n0 + q) true) (a.put (some d) _) _
            have ad : Adv w F { w with heap := w.heap.push (.cells z.cells T) } F := ⟨Keep.alloc _ _ _, fun _ h => h, fun _ h => .inl h⟩
            have s1 := (s.alloc (T := T) (q5 w F)).swap (i := q)
            have hM : (gmem (Cs m) B ++ f m).set q (some w.heap.size, cellM Zs) = gmem (Cs m) (B.set q (some w.heap.size)) ++ f m := gmem_set _ _ _ _ hBl (hCl m hm) hCq hql
            rw [hM] at s1
            refine ih _ _ _ F m (B.set q (some w.heap.size)) hm (by simp [hBl]) (fun j o' hj => ?_) hcount (by simp [hsz]) (fun j hj hjl => ?_) (fun j h1 h2 => ?_) hclosed ?_ ?_
            · by_cases e : j = q
              · subst e
                rw [List.getElem?_set_self (by omega)] at hj
                obtain rfl := Option.some.inj hj
                have : n0 + j < listed.size := by omega
                simp [this]
              · rw [List.getElem?_set_ne (fun h => e h.symm)] at hj
                rw [getD_set_ne false (by omega)]
                exact hB j o' hj
            · rw [getD_set_ne true (by omega)]; exact htail j hj hjl
            · rw [getD_set_ne true (by omega)]; exact hmids j h1 h2
            · have hsz2 : d < a.tmps.size := by rw [s1.size]; exact q3
              have hslots : ∀ t S, look (gctx ds (B.set q (some w.heap.size)) ++ Γ) t = some S → S.h { w with heap := w.heap.push (.cells z.cells T) } F ((a.put (some d) (.pointer (some ⟨w.heap.size, 0, none⟩))).tmps.getD t undef) := by
                intro t S ht
                rw [getD_put hsz2]
                rw [look_append] at ht
                cases hl : look (gctx ds (B.set q (some w.heap.size))) t with
                | none =>
                  rw [hl] at ht
                  have ht' : look Γ t = some S := by simpa using ht
                  rw [if_neg (fun e => ap1 t S ht' e.symm)]
                  exact S.mono _ _ _ _ _ (hΓs t S ht') (ad.same s.flt) ad.sub
                | some S' =>
                  rw [hl] at ht
                  obtain rfl : S' = S := by simpa using ht
                  rcases look_gctx_set _ _ _ _ _ _ hl with ⟨e1, e2⟩ | h
                  · rw [q1] at e1; obtain rfl := Option.some.inj e1
                    rw [if_pos rfl, e2]
                    intro b hb
                    obtain rfl := Option.some.inj hb; rfl
                  · by_cases e : d = t
                    · subst e
                      rw [if_pos rfl]
                      obtain ⟨j, o', h1, h2, h3⟩ := look_gctx_at _ _ _ _ h
                      have hjq : j = q := by
                        refine Classical.byContradiction fun hne => ?_
                        have hjl : j < ds.length := by
                          rcases Nat.lt_or_ge j ds.length with h | h
                          · exact h
                          · rw [List.getElem?_eq_none h] at h1; cases h1
                        obtain ⟨d', T', z', ty', pos', after', r1, r2, _⟩ := (hal j hjl).ex
                        rw [h1] at r1; obtain rfl := Option.some.inj r1
                        exact ap2 (n0 + j) d (by omega) (by omega) (by rw [r2]; rfl) rfl
                      subst hjq
                      rw [hBq] at h2; obtain rfl := Option.some.inj h2
                      rw [h3]
                      intro b hb; cases hb
                    · rw [if_neg e]
                      exact S'.mono _ _ _ _ _ (s.slots t S' (by rw [look_append, h]; rfl)) (ad.same s.flt) ad.sub
              exact { defers := s1.defers, size := by simp [Act.put, s1.size], keep := s1.keep, f0 := s1.f0, fnew := s1.fnew, flt := s1.flt, mem := s1.mem, slots := hslots }
            · intro j oj dj Sj hL hj hdj hSj
              have hjn : j < n0 := by
                rcases Nat.lt_or_ge j n0 with h' | h'
                · exact h'
                · rw [List.getElem?_eq_none (by omega)] at hSj; cases hSj
              have hne := ap2 j dj (by omega) (by omega) (by rw [hj]; exact hdj)
              rw [getD_put (by rw [s1.size]; exact q3), if_neg (fun e => hne e.symm)]
              refine Sj.mono _ _ _ _ _ (hdone j oj dj Sj ?_ hj hdj hSj) (ad.same s.flt) ad.sub
              have hL' : (listed.setIfInBounds (n0 + q) true).getD j false = true := hL
              rwa [getD_set_ne false (by omega)] at hL'
          -- a store: the next one of the row
          have him : n1 + m ≤ i := by
            rcases Nat.lt_or_ge i (n1 + m) with h | h
            · rw [hmids i hin2 h] at g1; cases g1
            · exact h
          have hieq : i = n1 + m := by
            rcases Nat.lt_or_ge (n1 + m) i with h | h
            · obtain ⟨o', Δ, req, b1, b2, b3, b4, b5⟩ := (hmid (i - n1) (by omega)).ex
              have hb := b4 m (by omega)
              rw [show n1 + (i - n1) = i by omega, List.getElem?_eq_getElem hmask] at hb
              have := reach hc i o g2' g3 (n1 + m) _ (List.getElem?_eq_getElem hmask) (by simpa using hb)
              have e : listed.getD (n1 + m) false = true := this
              rw [← gd listed (n1 + m) (by omega), htail (n1 + m) (Nat.le_refl _) (by omega)] at e; cases e
            · omega
          subst hieq
          have hmk : m < k := by omega
          obtain ⟨o', Δ, req, b1, b2, b3, b4, b7, b8⟩ := (hmid m hmk).ex
          rw [g2'] at b1; obtain rfl := Option.some.inj b1
          have hreq : ∀ j ∈ req, ∃ b, B[j]? = some (some b) := fun j hj => by
            obtain ⟨hjl, hb⟩ := b7 j hj
            rw [show n1 - ds.length + j = n0 + j by omega] at hb
            rw [List.getElem?_eq_getElem hmask] at hb
            have hL : listed.getD (n0 + j) false = true := reach hc (n1 + m) o g2' g3 (n0 + j) _ (List.getElem?_eq_getElem hmask) (by simpa using hb)
            have hlt : j < B.length := by omega
            cases hBj : B[j] with
            | none =>
              have := (hB j none (by rw [List.getElem?_eq_getElem hlt, hBj])).1 rfl
              rw [hL] at this; cases this
            | some b => exact ⟨b, by rw [List.getElem?_eq_getElem hlt, hBj]⟩
          obtain ⟨b5, b6⟩ := b8 B hBl hreq
          have hsat : Sat E (Δ ++ gctx ds B) (gmem (Cs m) B ++ f m) a w F := s.wider (fun t S ht => by
            rw [look_append] at ht
            cases hl : look Δ t with
            | some S' =>
              rw [hl] at ht
              obtain rfl : S' = S := by simpa using ht
              exact hctx Δ b3 t S' hl
            | none =>
              rw [hl] at ht
              have ht' : look (gctx ds B) t = some S := by simpa using ht
              exact s.slots t S (by rw [look_append, ht']; rfl))
          have hgo : ∀ w', (∀ b, F b → w'.heap[b]? = w.heap[b]?) → (∀ Γ'', Sat E Γ'' (gmem (Cs m) B ++ f m) a w F → Sat E Γ'' (gmem (Cs (m + 1)) B ++ f (m + 1)) a w' F) → wpAny P .any l.toArray Q fuel (listed.setIfInBounds (n1 + m) true) a w' := by
            intro w' hF hS
            refine ih _ _ w' F (m + 1) B hmk hBl (hBset _ rfl (fun j hj => by omega)) hcount (by simp [hsz]) (fun j hj hjl => ?_) (fun j h1 h2 => ?_) hclosed (hS _ s) ?_
            · rw [getD_set_ne true (by omega)]; exact htail j (by omega) hjl
            · by_cases e : j = n1 + m
              · subst e
                have : n1 + m < listed.size := by omega
                simp [this]
              · rw [getD_set_ne true (by omega)]; exact hmids j h1 (by omega)
            · intro j oj dj Sj hL hj hdj hSj
              have hjn : j < n0 := by
                rcases Nat.lt_or_ge j n0 with h' | h'
                · exact h'
                · rw [List.getElem?_eq_none (by omega)] at hSj; cases hSj
              refine Sj.mono _ _ _ _ _ (hdone j oj dj Sj ?_ hj hdj hSj) hF (fun _ h => h)
              have hL' : (listed.setIfInBounds (n1 + m) true).getD j false = true := hL
              rwa [getD_set_ne false (by omega)] at hL'
          unfold wpOp
          rw [ho]
          show if Region.wanted o (yielded l.toArray a.tmps) then _ else _
          rw [if_pos (by simp [Region.wanted, b5])]
          exact .inl (b6 a w F hsat _ Q hgo)
inductive Als (E : Env) (P : Program) (l : List Oper) : Nat → List Nat → List (List VP) → Prop
 | nil {i : Nat} : Als E P l i [] []
 | cons {i d : Nat} {T : TypeId} {z : Value} {Zs : List VP} {ds : List Nat} {zs : List (List VP)} {ty : TypeId} {pos : String} {after : Array Edge} (h1 : l[i]? = some ⟨some d, .alloc T, ty, pos, after, none⟩) (h2 : Nat.blt d E.n = true)
   (h3 : zeroB P T = some z) (h4 : ∀ w F, All2 Zs w F z.cells.toList) (r : Als E P l (i + 1) ds zs) : Als E P l i (d :: ds) (Zs :: zs)
theorem Als.len {l : List Oper} : ∀ {i : Nat} {ds : List Nat} {zs : List (List VP)}, Als E P l i ds zs → zs.length = ds.length
 | _, _, _, .nil => rfl
 | _, _, _, .cons _ _ _ _ r => congrArg (· + 1) r.len
theorem Als.at {l : List Oper} : ∀ {i : Nat} {ds : List Nat} {zs : List (List VP)}, Als E P l i ds zs → ∀ q, q < ds.length → ∃ (d : Nat) (T : TypeId) (z : Value) (Zs : List VP) (ty : TypeId) (pos : String) (after : Array Edge), ds[q]? = some d ∧ l[i + q]? = some ⟨some d, .alloc T, ty, pos, after, none⟩ ∧ d < E.n ∧ zeroB P T = some z ∧ (∀ w F, All2 Zs w F z.cells.toList) ∧ zs[q]? = some Zs
  | _, _, _, .nil, q, h => by simp at h
  | i, _, _, .cons h1 h2 h3 h4 r, 0, _ => ⟨_, _, _, _, _, _, _, rfl, h1, by simpa [Nat.blt_eq] using h2, h3, h4, rfl⟩
  | i, _, _, .cons h1 h2 h3 h4 r, q + 1, h => by
    obtain ⟨d, T, z, Zs, ty, pos, after, a1, a2, a3, a4, a5, a6⟩ := r.at q (by simpa using h)
    exact ⟨d, T, z, Zs, ty, pos, after, by simpa using a1, by rw [show i + (q + 1) = i + 1 + q by omega]; exact a2, a3, a4, a5, by simpa using a6⟩
def DrN (E : Env) (P : Program) (id : Nat) (l : List Oper) (Γ : Ctx) (M Ms : Mem) (Q : Exit → Act → World → Prop) (n0 n1 : Nat) (ds : List Nat) (zs : List (List VP)) (Θ : Ctx) (m : Nat) (Cs : List MP) (Mc : Mem) : Prop :=
  ∀ (Ss : List VP) (CF : Nat → List MP) (f : Nat → Mem), Dr E P l Γ Ms n0 Ss → (∀ t S, look Θ t = some S → ∃ (j : Nat) (o : Oper), j < n0 ∧ l[j]? = some o ∧ o.dst = some t ∧ Ss[j]? = some S) → n1 = n0 + ds.length → Als E P l n0 ds zs →
    CF 0 = zs.map cellM → f 0 = M → CF m = Cs → f m = Mc → (∀ j, j ≤ m → Ms.Sublist (f j)) → (∀ j, j ≤ m → (CF j).length = ds.length) → (∀ j, j < m → MidD E P l Γ Ss n1 ds j (CF j) (f j) (CF (j + 1)) (f (j + 1))) →
    (∀ q, q < ds.length → ∀ j, j ≤ m → (CF j)[q]? = (zs.map cellM)[q]? ∨ ∃ m', m' < j ∧ (((masks l [])[n1 + m']?).getD 0).testBit (n0 + q) = true) → Tri E P (.region id l.toArray true) Γ M Q
theorem DrH.als {id n0 n1 : Nat} {l : List Oper} {Θ : Ctx} {Ms : Mem} {ds : List Nat} {zs : List (List VP)} {Cs : List MP} (hn : n1 = n0 + ds.length) (ha : Als E P l n0 ds zs) (hs : Ms.Sublist M) (hC : zs.map cellM = Cs) (k : DrN E P id l Γ M Ms Q n0 n1 ds zs Θ 0 Cs M) : DrH E P id l Γ M Ms Q n0 Θ := by
 intro Ss hD hΘ
 subst hC
 refine k Ss (fun _ => zs.map cellM) (fun _ => M) hD hΘ hn ha rfl rfl rfl rfl (fun j hj => hs) (fun j hj => by simp [ha.len]) (fun j hj => absurd hj (by omega)) (fun q hq j hj => .inl rfl)
theorem look_left {A B : Ctx} {t : Nat} {S : VP} (h : look A t = some S) : look (A ++ B) t = some S := by rw [look_append, h]; rfl
theorem Has.up {Δ X : Ctx} {M' : Mem} {y : Operand} {S : VP} (h : Has E Δ [] y S) : Has E (Δ ++ X) M' y S := fun a w F s => h a w F ((s.wider fun t S ht => s.slots t S (look_left ht)).sub (List.nil_sublist _))
theorem gmem_at : ∀ (Cs : List MP) (B : List (Option Nat)) (q : Nat) {o : Option Nat} {C : MP} {M : Mem}, B[q]? = some o → Cs[q]? = some C → (gmem Cs B ++ M)[q]? = some (o, C)
  | [], B, q, o, C, M, h1, h2 => by simp at h2
  | C0 :: Cs, [], q, o, C, M, h1, h2 => by simp at h1
  | C0 :: Cs, o0 :: B, 0, o, C, M, h1, h2 => by simp at h1 h2; subst h1; subst h2; rfl
  | C0 :: Cs, o0 :: B, q + 1, o, C, M, h1, h2 => by
    have := gmem_at Cs B q (M := M) (by simpa using h1) (by simpa using h2)
    simpa [gmem] using this
theorem gmem_setC : ∀ (Cs : List MP) (B : List (Option Nat)) (q : Nat) {o : Option Nat} {C : MP} {M : Mem}, B[q]? = some o → (gmem Cs B ++ M).set q (o, C) = gmem (Cs.set q C) B ++ M ∨ Cs.length ≤ q
  | [], B, q, o, C, M, h1 => .inr (by simp)
  | C0 :: Cs, [], q, o, C, M, h1 => by simp at h1
  | C0 :: Cs, o0 :: B, 0, o, C, M, h1 => by simp at h1; subst h1; exact .inl rfl
  | C0 :: Cs, o0 :: B, q + 1, o, C, M, h1 => by
    rcases gmem_setC Cs B q (C := C) (M := M) (by simpa using h1) with h | h
    · exact .inl (by simp only [gmem, List.cons_append, List.set_cons_succ, h])
    · exact .inr (by simpa using h)
theorem look_gctx_of : ∀ (ds : List Nat) (B : List (Option Nat)) (q d : Nat) (o : Option Nat), (∀ i, i < q → ds[i]? ≠ some d) → ds[q]? = some d → B[q]? = some o → look (gctx ds B) d = some (isOP o)
  | [], B, q, d, o, h0, h1, h2 => by simp at h1
  | e :: ds, [], q, d, o, h0, h1, h2 => by simp at h2
  | e :: ds, o' :: B, 0, d, o, h0, h1, h2 => by simp at h1 h2; subst h1; subst h2; simp [gctx, look, nbeq_self]
  | e :: ds, o' :: B, q + 1, d, o, h0, h1, h2 => by
    have hne : Nat.beq e d = false := by
      cases hb : Nat.beq e d with
      | false => rfl
      | true => exact absurd (by simp [Nat.eq_of_beq_eq_true hb]) (h0 0 (by omega))
    simp only [gctx, look, hne]
    exact look_gctx_of ds B q d o (fun i hi => by simpa using h0 (i + 1) (by omega)) (by simpa using h1) (by simpa using h2)
theorem DrN.new {id n0 n1 m : Nat} {l : List Oper} {Θ : Ctx} {Ms Mc : Mem} {ds : List Nat} {zs : List (List VP)} {Cs Cs' : List MP} (ts : List Nat) (j : Nat) {dj n : Nat} {g : Bool} {T : TypeId} {y : Operand} {Ss0 Ss1 Ss' : List VP} {S : VP} [sh : Shape S Ss1] [o1 : Ones Ss1]
    (h1 : l[n1 + m]? = some ⟨none, .store T (.tmp dj) y, ty, pos, after, none⟩) (h4 : behindB l (n1 + m) ts = true) (hc : chainB l n1 m = true) (hdj : ds[j]? = some dj) (hfirst : ((List.range j).all fun i => !Nat.beq (ds.getD i 0) dj) = true) (hno : look (keepc ts Θ ++ Γ) dj = none)
    (hb : (((masks l [])[n1 + m]?).getD 0).testBit (n1 - ds.length + j) = true) (hC : Cs[j]? = some (cellM Ss0)) (hy : Has E (keepc ts Θ ++ Γ) [] y S) (hT : tyB P T = some (n, g)) (hn : Nat.beq Ss1.length n = true) (hl : Nat.ble (0 + n) Ss0.length = true)
    (hS : Ss0.take 0 ++ Ss1 ++ Ss0.drop (0 + n) = Ss') (hCs : Cs.set j (cellM Ss') = Cs') (k : DrN E P id l Γ M Ms Q n0 n1 ds zs Θ (m + 1) Cs' Mc) : DrN E P id l Γ M Ms Q n0 n1 ds zs Θ m Cs Mc := by
  intro Ss CF f hD hΘ hn1 hal hC0 hf0 hCm hfm hsub hlen hmid hq
  have hjl : j < ds.length := by
    rcases Nat.lt_or_ge j ds.length with h | h
    · exact h
    · rw [List.getElem?_eq_none h] at hdj; cases hdj
  have hCl : Cs.length = ds.length := by rw [← hCm]; exact hlen m (Nat.le_refl _)
  refine k Ss (fun i => if i = m + 1 then Cs' else CF i) (fun i => if i = m + 1 then Mc else f i) hD hΘ hn1 hal (by simp [hC0]) (by simp [hf0]) (by simp) (by simp) (fun i hi => ?_) (fun i hi => ?_) (fun i hi => ?_) (fun q hql i hi => ?_)
  · show Ms.Sublist (if i = m + 1 then Mc else f i)
    split
    · rw [← hfm]; exact hsub m (Nat.le_refl _)
    · exact hsub i (by omega)
  · show (if i = m + 1 then Cs' else CF i).length = _
    split
    · rw [← hCs, List.length_set, hCl]
    · exact hlen i (by omega)
  · show MidD E P l Γ Ss n1 ds i (if i = m + 1 then Cs' else CF i) (if i = m + 1 then Mc else f i) (if i + 1 = m + 1 then Cs' else CF (i + 1)) (if i + 1 = m + 1 then Mc else f (i + 1))
    rw [if_neg (by omega), if_neg (by omega)]
    by_cases e : i = m
    · subst e
      rw [if_pos rfl, if_pos rfl, hfm, hCm]
      refine ⟨_, keepc ts Θ ++ Γ, [j], h1, rfl, fun t S' ht => ?_, fun i' hi' => ?_, fun j' hj' => ?_, fun B hBl hreq => ?_⟩
      · rw [look_append] at ht
        cases hl2 : look (keepc ts Θ) t with
        | none => rw [hl2] at ht; exact .inr (by simpa using ht)
        | some S'' =>
          rw [hl2] at ht
          obtain rfl : S'' = S' := by simpa using ht
          obtain ⟨hm2, hl3⟩ := look_keepc _ _ _ hl2
          obtain ⟨i', oj, b0, b1, b2, b3⟩ := hΘ t S'' hl3
          refine .inl ⟨i', oj, ?_, b1, b2, b3⟩
          have := List.all_eq_true.1 h4 i' (by simp; omega)
          rw [b1] at this
          simp only [Option.bind_some, b2, Bool.or_eq_true] at this
          rcases this with h | h
          · exact h
          · have := List.all_eq_true.1 h t hm2
            simp [Nat.beq_refl] at this
      · exact List.all_eq_true.1 hc i' (by simpa using hi')
      · obtain rfl : j' = j := by simpa using hj'
        exact ⟨hjl, hb⟩
      · obtain ⟨b, hBj⟩ := hreq j (by simp)
        have hlk : look ((keepc ts Θ ++ Γ) ++ gctx ds B) dj = some (isOP (some b)) := by
          rw [look_append, hno]
          refine look_gctx_of ds B j dj (some b) (fun i' hi' e => ?_) hdj hBj
          have := List.all_eq_true.1 hfirst i' (by simpa using hi')
          rw [List.getD, e] at this
          simp [nbeq_self] at this
        refine StS.store (b := b) (off := 0) (i := j) (Ss := Ss0) (Ss' := Ss') (Has.op hlk) (Has.up hy) (gmem_at _ _ _ hBj hC) hT hn hl hS ?_
        rcases gmem_setC Cs B j (C := cellM Ss') (M := Mc) hBj with h | h
        · rw [h, hCs]
        · omega
    · rw [if_neg (by omega), if_neg (by omega)]
      exact hmid i (by omega)
  · show (if i = m + 1 then Cs' else CF i)[q]? = _ ∨ _
    by_cases e : i = m + 1
    · rw [if_pos e]
      by_cases ej : q = j
      · subst ej
        refine .inr ⟨m, by omega, ?_⟩
        rwa [show n1 - ds.length + q = n0 + q by omega] at hb
      · rw [← hCs, List.getElem?_set_ne (fun h => ej h.symm), ← hCm]
        rcases hq q hql m (Nat.le_refl _) with h | ⟨m', hm', hb'⟩
        · exact .inl h
        · exact .inr ⟨m', by omega, hb'⟩
    · rw [if_neg e]
      exact hq q hql i (by omega)
theorem DrN.fin {id n0 n1 m n : Nat} {l : List Oper} {Θ : Ctx} {Ms Mc : Mem} {ds : List Nat} {zs : List (List VP)} {Cs : List MP} (hm : P.follows .mixedOrders = true) (hn : n = n1 + m) (hap : apartB l n1 Γ = true) (htl : tailB l n = true) (hnl : Nat.ble n l.length = true)
    (k : ∀ bs : List Nat, bs.length = ds.length → Ops E P l.toArray Q (l.drop n) (Θ ++ (gctx ds (bs.map some) ++ Γ)) (gmem Cs (bs.map some) ++ Mc)) : DrN E P id l Γ M Ms Q n0 n1 ds zs Θ m Cs Mc := by
  intro Ss CF f hD hΘ hn1 hal hC0 hf0 hCm hfm hsub hlen hmid hq
  subst hn
  have hnl' := Nat.le_of_ble_eq_true hnl
  have hap1 : ∀ i d, i < n1 → (l[i]?).bind (·.dst) = some d → (∀ t S, look Γ t = some S → t ≠ d) ∧ ∀ j e, j < n1 → j ≠ i → (l[j]?).bind (·.dst) = some e → e ≠ d := by
    intro i d hi hd
    have h1 := List.all_eq_true.1 hap i (by simpa using hi)
    rw [hd] at h1
    simp only [Bool.and_eq_true] at h1
    refine ⟨look_none h1.1, fun j e hj hne he => ?_⟩
    have h2 := List.all_eq_true.1 h1.2 j (by simpa using hj)
    rw [he] at h2
    simp only [Bool.or_eq_true, Bool.not_eq_true'] at h2
    rcases h2 with h2 | h2
    · exact absurd (Nat.eq_of_beq_eq_true h2).symm hne
    · exact fun e' => Nat.ne_of_beq_eq_false h2 e'.symm
  have hk : ∀ bs : List Nat, bs.length = ds.length → Ops E P l.toArray Q (l.drop (n1 + m)) (dctx (l.take n0) Ss ++ (gctx ds (bs.map some) ++ Γ)) (gmem (CF m) (bs.map some) ++ f m) := by
    intro bs hbs
    rw [hfm, hCm]
    refine fun a w F s => k bs hbs a w F (s.wider fun t S ht => ?_)
    rw [look_append] at ht
    cases hl : look Θ t with
    | none =>
      rw [hl] at ht
      have ht' : look (gctx ds (bs.map some) ++ Γ) t = some S := by simpa using ht
      have hno : look (dctx (l.take n0) Ss) t = none := by
        cases hd : look (dctx (l.take n0) Ss) t with
        | none => rfl
        | some S' =>
          obtain ⟨j, o, b1, b2, b3⟩ := look_dctx _ _ _ _ hd
          have hj : j < n0 := by
            rcases Nat.lt_or_ge j n0 with h' | h'
            · exact h'
            · rw [List.getElem?_eq_none (by simp; omega)] at b1; cases b1
          rw [List.getElem?_take_of_lt hj] at b1
          obtain ⟨p1, p2⟩ := hap1 j t (by omega) (by rw [b1]; exact b2)
          rw [look_append] at ht'
          cases hg : look (gctx ds (bs.map some)) t with
          | none => rw [hg] at ht'; exact absurd rfl (p1 t S (by simpa using ht'))
          | some S'' =>
            obtain ⟨q, hq'⟩ := look_gctx _ _ _ _ hg
            have hql : q < ds.length := by
              rcases Nat.lt_or_ge q ds.length with h | h
              · exact h
              · rw [List.getElem?_eq_none h] at hq'; cases hq'
            obtain ⟨d, T, z, Zs, ty, pos, after, a1, a2, _⟩ := hal.at q hql
            rw [hq'] at a1; obtain rfl := Option.some.inj a1
            exact absurd rfl (p2 (n0 + q) t (by omega) (by omega) (by rw [a2]; rfl))
      exact s.slots t S (by rw [look_append, hno]; simpa using ht')
    | some S' =>
      rw [hl] at ht
      obtain rfl : S' = S := by simpa using ht
      obtain ⟨j, o, b0, b1, b2, b3⟩ := hΘ t S' hl
      have hex : ∀ (l' : List Oper) (Ss' : List VP) (j : Nat), (l'[j]?).bind (·.dst) = some t → Ss'[j]? = some S' → (∀ j', j' ≠ j → (l'[j']?).bind (·.dst) ≠ some t) → look (dctx l' Ss') t = some S' := by
        intro l'
        induction l' with
        | nil => intro Ss' j h; simp at h
        | cons o' l' ih =>
          intro Ss' j h1 h2 h3
          cases Ss' with
          | nil => simp at h2
          | cons T Ss' =>
            cases j with
            | zero =>
              simp at h1 h2
              subst h2
              simp [dctx, h1, look]
            | succ j =>
              have hrec := ih Ss' j (by simpa using h1) (by simpa using h2) (fun j' hj' => by simpa using h3 (j' + 1) (by omega))
              have h0 := h3 0 (by omega)
              simp at h0
              simp only [dctx]
              cases hd : o'.dst with
              | none => exact hrec
              | some d' =>
                simp only [look]
                have hne : Nat.beq d' t = false := by
                  cases hb : Nat.beq d' t with
                  | false => rfl
                  | true => exact absurd (by rw [hd, Nat.eq_of_beq_eq_true hb]) h0
                rw [hne]; exact hrec
      have hlk := hex (l.take n0) Ss j (by rw [List.getElem?_take_of_lt b0, b1]; exact b2) b3 (fun j' hj' he => by
        have hj'n : j' < n0 := by
          rcases Nat.lt_or_ge j' n0 with h' | h'
          · exact h'
          · rw [List.getElem?_eq_none (by simp; omega)] at he; simp at he
        rw [List.getElem?_take_of_lt hj'n] at he
        exact (hap1 j t (by omega) (by rw [b1]; exact b2)).2 j' t (by omega) hj' he rfl)
      exact s.slots t S' (by rw [look_append, hlk]; rfl)
  intro a w F s
  refine wp_region_any hm ?_
  have s1 := s.adv (Adv.drew w F)
  have hzl := hal.len
  refine phaseD hn1 hD hsub hmid hlen (fun q hql => ?_) hap htl hnl' hk _ _ a _ F 0 (List.replicate ds.length none) (Nat.zero_le _) (by simp) (fun j o hj => ?_) ?_ (by simp) (fun j hj hjl => ?_) (fun j h1 h2 => absurd h2 (by omega)) ?_ ?_ ?_
  · obtain ⟨d, T, z, Zs, ty, pos, after, a1, a2, a3, a4, a5, a6⟩ := hal.at q hql
    refine ⟨d, T, z, Zs, ty, pos, after, a1, a2, a3, a4, a5, fun m' hm' => ?_⟩
    have := hq q hql m' hm'
    rw [List.getElem?_map, a6] at this
    simpa using this
  · have hjl : j < ds.length := by
      rcases Nat.lt_or_ge j ds.length with h | h
      · exact h
      · rw [List.getElem?_eq_none (by simpa using h)] at hj; cases hj
    rw [List.getElem?_replicate, if_pos hjl] at hj
    obtain rfl := Option.some.inj hj
    have : n0 + j < l.length := by omega
    simp [this]
  · simp
    exact Nat.le_trans List.countP_le_length (by simp)
  · have : j < l.length := hjl
    simp [this]
  · intro i o hi hL
    simp [Array.getD_eq_getD_getElem?, Array.getElem?_replicate] at hL
    split at hL <;> simp at hL
  · rw [hf0, hC0]
    have hgn : ∀ (Cs : List MP) (k : Nat), ∀ x ∈ gmem Cs (List.replicate k none), x.1 = none := by
      intro Cs
      induction Cs with
      | nil => intro k x hx; simp [gmem] at hx
      | cons C Cs ih =>
        intro k x hx
        cases k with
        | zero => simp [gmem] at hx
        | succ k =>
          rw [List.replicate_succ] at hx
          simp only [gmem, List.mem_cons] at hx
          rcases hx with rfl | hx
          · rfl
          · exact ih k x hx
    have hgc : ∀ (ds : List Nat) (k : Nat) t S, look (gctx ds (List.replicate k none)) t = some S → S = isOP none := by
      intro ds k t S h
      obtain ⟨j, o, h1, h2, h3⟩ := look_gctx_at _ _ _ _ h
      rw [List.getElem?_replicate] at h2
      split at h2
      · obtain rfl := Option.some.inj h2; exact h3
      · cases h2
    refine { s1 with slots := fun t S ht => ?_, mem := ⟨?_, fun b C hb => ?_⟩ }
    · rw [look_append] at ht
      cases hl : look (gctx ds (List.replicate ds.length none)) t with
      | none => rw [hl] at ht; exact s1.slots t S (by simpa using ht)
      | some S' =>
        rw [hl] at ht
        obtain rfl : S' = S := by simpa using ht
        rw [hgc _ _ _ _ hl]
        intro b hb; cases hb
    · rw [List.pairwise_append]
      refine ⟨?_, s1.mem.apart, fun x hx y hy => .inl (hgn _ _ x hx)⟩
      exact List.Pairwise.imp_of_mem (R := fun _ _ => True) (fun hx _ _ => .inl (hgn _ _ _ hx)) (List.pairwise_of_forall (fun _ _ => trivial))
    · rcases List.mem_append.1 hb with h | h
      · have := hgn _ _ _ h; cases this
      · exact s1.mem.each b C h
  · intro j o d S hL
    simp [Array.getD_eq_getD_getElem?, Array.getElem?_replicate] at hL
    split at hL <;> simp at hL
theorem len1 {bs : List Nat} (h : bs.length = 1) : ∃ a, bs = [a] := by match bs, h with | [a], _ => exact ⟨a, rfl⟩
theorem len2 {bs : List Nat} (h : bs.length = 2) : ∃ a b, bs = [a, b] := by match bs, h with | [a, b], _ => exact ⟨a, b, rfl⟩
theorem len3 {bs : List Nat} (h : bs.length = 3) : ∃ a b c, bs = [a, b, c] := by match bs, h with | [a, b, c], _ => exact ⟨a, b, c, rfl⟩
end
end Go.En
namespace Go.En
open Go.RowKit
section
variable {E : Env} {P : Program} {Γ : Ctx} {M : Mem} {ty : TypeId} {pos : String} {after : Array Edge} {gd : Option (Nat × Bool)} {d : Option Tmp}
 {ops : Array Oper} {Q : Exit → Act → World → Prop} {rest : List Oper}
structure MidD2 (E : Env) (P : Program) (l : List Oper) (Γ : Ctx) (Ss : List VP) (n1 : Nat) (ds : List Nat) (m : Nat) (Cs : List MP) (M : Mem) (Cs' : List MP) (M' : Mem) : Prop where
 ex : ∃ (o : Oper) (Δ : Ctx) (req : List Nat), l[n1 + m]? = some o ∧
  (∀ t S, look Δ t = some S → (∃ (j : Nat) (oj : Oper), (((masks l [])[n1 + m]?).getD 0).testBit j = true ∧ l[j]? = some oj ∧ oj.dst = some t ∧ Ss[j]? = some S) ∨ look Γ t = some S) ∧
  (∀ j, j < m → (((masks l [])[n1 + m]?).getD 0).testBit (n1 + j) = true) ∧ (∀ j ∈ req, j < ds.length ∧ (((masks l [])[n1 + m]?).getD 0).testBit (n1 - ds.length + j) = true) ∧
  ((o.dst = none ∧ ∀ B : List (Option Nat), B.length = ds.length → (∀ j ∈ req, ∃ b, B[j]? = some (some b)) → StS E P (Δ ++ gctx ds B) (gmem Cs B ++ M) o (gmem Cs' B ++ M')) ∨ ∃ d S, o.dst = some d ∧ d < E.n ∧ Cs' = Cs ∧ M' = M ∧ OKG E P l.toArray Δ [] o S)
theorem phaseD2 {l : List Oper} {n0 n1 k : Nat} {Ss : List VP} {Ms : Mem} {ds : List Nat} {Cs : Nat → List MP} {f : Nat → Mem} (hn1 : n1 = n0 + ds.length) (hD : Dr E P l Γ Ms n0 Ss) (hsub : ∀ m, m ≤ k → Ms.Sublist (f m)) (hmid : ∀ m, m < k → MidD2 E P l Γ Ss n1 ds m (Cs m) (f m) (Cs (m + 1)) (f (m + 1)))
    (hCl : ∀ m, m ≤ k → (Cs m).length = ds.length) (hal : ∀ j, j < ds.length → AlAt E P l n0 n1 k ds Cs j)
    (hap : apartB l (n1 + k) Γ = true) (htl : tailB l (n1 + k) = true) (hnl : n1 + k ≤ l.length) (kk : ∀ bs : List Nat, bs.length = ds.length → Ops E P l.toArray Q (l.drop (n1 + k)) (dctx (l.take n0) Ss ++ (gctx ds (bs.map some) ++ Γ)) (gmem (Cs k) (bs.map some) ++ f k)) :
    ∀ (fuel : Nat) (listed : Array Bool) (a : Act) (w : World) (F : Blk) (m : Nat) (B : List (Option Nat)), m ≤ k → B.length = ds.length → (∀ j o, B[j]? = some o → (o = none ↔ listed.getD (n0 + j) false = false)) → listed.toList.countP (· == false) ≤ fuel → listed.size = l.length →
    (∀ j, n1 + m ≤ j → j < l.length → listed.getD j true = false) → (∀ j, n1 ≤ j → j < n1 + m → listed.getD j true = true) → Closed l (fun j => listed.getD j false = true) → Sat E (gctx ds B ++ Γ) (gmem (Cs m) B ++ f m) a w F → Done l Ss (fun j => listed.getD j false = true) a w F →
    wpAny P .any l.toArray Q fuel listed a w := by
  obtain ⟨hlen, hat⟩ := hD.at
  have hsp := tailB_spec htl
  have gd : ∀ (listed : Array Bool) j, j < listed.size → listed.getD j true = listed.getD j false := fun listed j hj => by simp [hj]
  have hapart : ∀ i d, i < n1 + k → (l[i]?).bind (·.dst) = some d → (∀ t S, look Γ t = some S → t ≠ d) ∧ ∀ j e, j < n1 + k → j ≠ i → (l[j]?).bind (·.dst) = some e → e ≠ d := by
    intro i d hi hd
    unfold apartB at hap
    rw [List.all_eq_true] at hap
    have h1 := hap i (by simpa using hi)
    rw [hd] at h1
    simp only [Bool.and_eq_true] at h1
    refine ⟨look_none h1.1, fun j e hj hne he => ?_⟩
    have h2 := List.all_eq_true.1 h1.2 j (by simpa using hj)
    rw [he] at h2
    simp only [Bool.or_eq_true, Bool.not_eq_true'] at h2
    rcases h2 with h2 | h2
    · exact absurd (Nat.eq_of_beq_eq_true h2).symm hne
    · exact fun e' => Nat.ne_of_beq_eq_false h2 e'.symm
  have hend : ∀ (fuel : Nat) (listed : Array Bool) (a : Act) (w : World) (F : Blk) (m : Nat) (B : List (Option Nat)), m ≤ k → B.length = ds.length → (∀ j o, B[j]? = some o → (o = none ↔ listed.getD (n0 + j) false = false)) → listed.toList.countP (· == false) ≤ fuel → listed.size = l.length →
      (∀ j, n1 + m ≤ j → j < l.length → listed.getD j true = false) → Closed l (fun j => listed.getD j false = true) → Sat E (gctx ds B ++ Γ) (gmem (Cs m) B ++ f m) a w F → Done l Ss (fun j => listed.getD j false = true) a w F →
      (∀ j, j < n1 + k → j < l.length → listed.getD j true = true) → wpAny P .any l.toArray Q fuel listed a w := by
    intro fuel listed a w F m B hm hBl hB hcnt hsz htail hc s hdone hall
    obtain rfl : m = k := by
      rcases Nat.lt_or_ge m k with h | h
      · have h1 := htail (n1 + m) (Nat.le_refl _) (by omega)
        have h2 := hall (n1 + m) (by omega) (by omega)
        rw [h1] at h2; cases h2
      · omega
    have hge := count_ge hsz htail
    obtain ⟨bs, hbl, hbe⟩ := all_some (B := B) (fun j o hj => by
      intro e
      have hjl : j < ds.length := by
        rcases Nat.lt_or_ge j B.length with h | h
        · omega
        · rw [List.getElem?_eq_none h] at hj; cases hj
      have h1 := (hB j o hj).1 e
      have h2 := hall (n0 + j) (by omega) (by omega)
      rw [gd listed (n0 + j) (by omega), h1] at h2; cases h2)
    subst hbe
    refine phaseB htl fuel (n1 + m) listed a w (Nat.le_refl _) (by omega) hsz hall htail hc (kk bs (by simpa using hBl) a w F (s.wider ?_))
    intro t S ht
    rw [look_append] at ht
    cases hl : look (dctx (l.take n0) Ss) t with
    | none => rw [hl] at ht; exact s.slots t S (by simpa using ht)
    | some S' =>
      rw [hl] at ht
      obtain rfl : S' = S := by simpa using ht
      obtain ⟨j, o, h1, h2, h3⟩ := look_dctx _ _ _ _ hl
      have hj : j < n0 := by
        rcases Nat.lt_or_ge j n0 with h' | h'
        · exact h'
        · rw [List.getElem?_eq_none (by omega)] at h3; cases h3
      rw [List.getElem?_take_of_lt hj] at h1
      exact hdone j o t S' (by have h4 := hall j (by omega) (by omega); rw [gd listed j (by omega)] at h4; exact h4) h1 h2 h3
  intro fuel
  induction fuel with
  | zero =>
    intro listed a w F m B hm hBl hB hcnt hsz htail hmids hc s hdone
    refine hend 0 listed a w F m B hm hBl hB hcnt hsz htail hc s hdone fun j hj hjl => ?_
    have hlt : j < listed.size := by omega
    have h0 : listed.toList.countP (· == false) = 0 := by omega
    rw [List.countP_eq_zero] at h0
    have := h0 listed[j] (by simp)
    simp [hlt]
    simpa using this
  | succ fuel ih =>
    intro listed a w F m B hm hBl hB hcnt hsz htail hmids hc s hdone
    by_cases hall : ∀ j, j < n1 + k → j < l.length → listed.getD j true = true
    · exact hend _ listed a w F m B hm hBl hB hcnt hsz htail hc s hdone hall
    · have hex : ∃ j, j < n1 + k ∧ listed.getD j true = false := by
        refine Classical.byContradiction fun hno => hall fun j hj _ => ?_
        cases hb : listed.getD j true with
        | true => rfl
        | false => exact absurd ⟨j, hj, hb⟩ hno
      refine ⟨fun hr => ?_, fun i hi => ?_⟩
      · obtain ⟨j, ⟨hj1, hj2⟩, hmin⟩ := exists_least hex
        have : j ∈ Region.ready .any l.toArray listed := by
          rw [mem_ready]
          have hjl : j < l.length := by omega
          refine ⟨hj2, l[j], by simp [hjl], fun e he hb => ?_⟩
          have hlt := hsp.1 j _ (List.getElem?_eq_getElem hjl) e he hb
          cases hbb : listed.getD e.on true with
          | true => rw [gd listed e.on (by omega)] at hbb; exact hbb
          | false => have := hmin e.on ⟨by omega, hbb⟩; omega
        rw [hr] at this; simp at this
      · have hi' := hi
        rw [mem_ready] at hi
        obtain ⟨g1, o, g2, g3⟩ := hi
        have g2' : l[i]? = some o := by simpa using g2
        have hil : i < l.length := by
          rcases Nat.lt_or_ge i l.length with h' | h'
          · exact h'
          · rw [List.getElem?_eq_none h'] at g2'; cases g2'
        have hin : i < n1 + k := by
          rcases Nat.lt_or_ge i (n1 + k) with h' | h'
          · exact h'
          · obtain ⟨j, hj1, hj2⟩ := hex
            obtain ⟨q, hq, hb⟩ := hsp.2 i hil h' j (by omega)
            have := reach hc i o g2' g3 j q hq hb
            have e : listed.getD j false = true := this
            rw [← gd listed j (by omega), hj2] at e; cases e
        have hmask : i < (masks l []).length := by rw [masks_len]; simpa using hil
        have hcount : (listed.setIfInBounds i true).toList.countP (· == false) ≤ fuel := by
          have hlt : i < listed.toList.length := by simp; omega
          have hli : listed.toList[i] = false := by
            have : i < listed.size := by omega
            simp [this] at g1; simpa using g1
          rw [Array.toList_setIfInBounds, List.countP_set hlt]
          rw [hli]
          have hpos : 0 < listed.toList.countP (· == false) := List.countP_pos_iff.2 ⟨false, by rw [← hli]; exact List.getElem_mem _, rfl⟩
          simp only [beq_self_eq_true, if_true]
          show _ - 1 + 0 ≤ fuel
          omega
        have hclosed : Closed l (fun j => (listed.setIfInBounds i true).getD j false = true) := by
          intro j oj hj hL e he hb
          by_cases ek : j = i
          · subst ek
            rw [g2'] at hj; obtain rfl := Option.some.inj hj
            exact getD_set_true (g3 e he hb)
          · exact getD_set_true (hc j oj hj (by
              have hL' : (listed.setIfInBounds i true).getD j false = true := hL
              rwa [getD_set_ne false (fun h => ek h.symm)] at hL') e he hb)
        have hΓs : ∀ t S, look Γ t = some S → S.h w F (a.tmps.getD t undef) := fun t S ht => by
          refine s.slots t S ?_
          rw [look_append]
          cases hl : look (gctx ds B) t with
          | none => simpa using ht
          | some S' =>
            obtain ⟨j, hj⟩ := look_gctx _ _ _ _ hl
            obtain ⟨ap1, _⟩ := hapart (n0 + j) t (by
              rcases Nat.lt_or_ge j ds.length with h | h
              · omega
              · rw [List.getElem?_eq_none h] at hj; cases hj) (by
              have hjl : j < ds.length := by
                rcases Nat.lt_or_ge j ds.length with h | h
                · exact h
                · rw [List.getElem?_eq_none h] at hj; cases hj
              obtain ⟨d, T, z, ty, pos, after, q1, q2, _⟩ := (hal j hjl).ex
              rw [q2]; rw [hj] at q1; obtain rfl := Option.some.inj q1; rfl)
            exact absurd rfl (ap1 t S ht)
        have hctx : ∀ Δ : Ctx, (∀ t S, look Δ t = some S → (∃ (j : Nat) (oj : Oper), (((masks l [])[i]?).getD 0).testBit j = true ∧ l[j]? = some oj ∧ oj.dst = some t ∧ Ss[j]? = some S) ∨ look Γ t = some S) →
            ∀ t S, look Δ t = some S → S.h w F (a.tmps.getD t undef) := by
          intro Δ a6 t S' ht
          rcases a6 t S' ht with ⟨j, oj, b0, b1, b2, b3⟩ | h
          · rw [List.getElem?_eq_getElem hmask] at b0
            exact hdone j oj t S' (reach hc i o g2' g3 j _ (List.getElem?_eq_getElem hmask) (by simpa using b0)) b1 b2 b3
          · exact hΓs t S' h
        have ho : l.toArray[i]? = some o := by simpa using g2'
        have hBset : ∀ (i' : Nat), i' = i → (∀ j, j < ds.length → n0 + j ≠ i') → ∀ j o, B[j]? = some o → (o = none ↔ (listed.setIfInBounds i true).getD (n0 + j) false = false) := by
          intro i' hi' hne j o' hj
          subst hi'
          have hjl : j < ds.length := by
            rcases Nat.lt_or_ge j B.length with h | h
            · omega
            · rw [List.getElem?_eq_none h] at hj; cases hj
          rw [getD_set_ne false (fun e => hne j hjl e.symm)]
          exact hB j o' hj
        rcases Nat.lt_or_ge i n0 with hin1 | hin1
        · obtain ⟨o', d, S, Δ, a1, a2, a3, a4, a6, a7⟩ := hat i hin1
          rw [g2'] at a1; obtain rfl := Option.some.inj a1
          have hbind : (l[i]?).bind (·.dst) = some d := by rw [g2']; exact a2
          obtain ⟨ap1, ap2⟩ := hapart i d (by omega) hbind
          have ap3 : ∀ t S, look (gctx ds B ++ Γ) t = some S → t ≠ d := fun t S ht => by
            rw [look_append] at ht
            cases hl : look (gctx ds B) t with
            | none => rw [hl] at ht; exact ap1 t S (by simpa using ht)
            | some S' =>
              obtain ⟨j, hj⟩ := look_gctx _ _ _ _ hl
              have hjl : j < ds.length := by
                rcases Nat.lt_or_ge j ds.length with h | h
                · exact h
                · rw [List.getElem?_eq_none h] at hj; cases hj
              obtain ⟨d', T, z, ty, pos, after, q1, q2, _⟩ := (hal j hjl).ex
              rw [hj] at q1; obtain rfl := Option.some.inj q1
              exact ap2 (n0 + j) t (by omega) (by omega) (by rw [q2]; rfl)
          have hsat : Sat E Δ Ms a w F := (s.wider (hctx Δ a6)).sub ((hsub m hm).trans (List.sublist_append_right _ _))
          have hstep := a7 a w F hsat (wpAny P .any l.toArray Q fuel (listed.setIfInBounds i true)) Q
          have hgo : ∀ v w' F', Adv w F w' F' → S.h w' F' v → wpAny P .any l.toArray Q fuel (listed.setIfInBounds i true) (a.put o.dst v) w' := by
            intro v w' F' ad hv
            rw [a2]
            have s1 := s.adv ad
            refine ih _ _ w' F' m B hm hBl (hBset i rfl (fun j _ => by omega)) hcount (by simp [hsz]) (fun j hj hjl => ?_) (fun j h1 h2 => ?_) hclosed (s1.putOut a3 v ap3) ?_
            · rw [getD_set_ne true (by omega)]; exact htail j hj hjl
            · rw [getD_set_ne true (by omega)]; exact hmids j h1 h2
            · intro j oj dj Sj hL hj hdj hSj
              rw [getD_put (by rw [s1.size]; exact a3)]
              by_cases ek : j = i
              · subst ek
                rw [g2'] at hj; obtain rfl := Option.some.inj hj
                rw [a2] at hdj; obtain rfl := Option.some.inj hdj
                rw [a4] at hSj; obtain rfl := Option.some.inj hSj
                rw [if_pos rfl]; exact hv
              · have hjn : j < n0 := by
                  rcases Nat.lt_or_ge j n0 with h' | h'
                  · exact h'
                  · rw [List.getElem?_eq_none (by omega)] at hSj; cases hSj
                have hne := ap2 j dj (by omega) ek (by rw [hj]; exact hdj)
                rw [if_neg (fun e => hne e.symm)]
                refine Sj.mono _ _ _ _ _ (hdone j oj dj Sj ?_ hj hdj hSj) (ad.same s.flt) ad.sub
                have hL' : (listed.setIfInBounds i true).getD j false = true := hL
                rwa [getD_set_ne false (fun h => ek h.symm)] at hL'
          have hres := hstep hgo
          unfold wpOp
          rw [ho]
          exact hres
        · rcases Nat.lt_or_ge i n1 with hin2 | hin2
          · -- a new block
            obtain ⟨q, rfl⟩ : ∃ q, i = n0 + q := ⟨i - n0, by omega⟩
            have hql : q < ds.length := by omega
            obtain ⟨d, T, z, Zs, ty, pos, after, q1, q2, q3, q4, q5, q6⟩ := (hal q hql).full
            rw [g2'] at q2; obtain rfl := Option.some.inj q2
            obtain ⟨ap1, ap2⟩ := hapart (n0 + q) d (by omega) (by rw [g2']; rfl)
            have hBq : B[q]? = some none := by
              have hlt : q < B.length := by omega
              have h1 := (hB q B[q] (List.getElem?_eq_getElem hlt)).2 (by rw [← gd listed (n0 + q) (by omega)]; exact g1)
              rw [List.getElem?_eq_getElem hlt, h1]
            have hCq : (Cs m)[q]? = some (cellM Zs) := by
              rcases q6 m hm with h | ⟨m', hm', hb⟩
              · exact h
              · have hml : n1 + m' < l.length := by omega
                have hL : listed.getD (n1 + m') false = true := by rw [← gd listed (n1 + m') (by omega)]; exact hmids _ (by omega) (by omega)
                have hmk2 : n1 + m' < (masks l []).length := by rw [masks_len]; simpa using hml
                rw [List.getElem?_eq_getElem hmk2] at hb
                have := reach hc (n1 + m') _ (List.getElem?_eq_getElem hml) (fun e he hb' => hc (n1 + m') _ (List.getElem?_eq_getElem hml) hL e he hb') (n0 + q) _ (List.getElem?_eq_getElem hmk2) (by simpa using hb)
                have e : listed.getD (n0 + q) false = true := this
                rw [← gd listed (n0 + q) (by omega), g1] at e; cases e
            unfold wpOp
            rw [ho]
            show if Region.wanted _ (yielded l.toArray a.tmps) then _ else _
            rw [if_pos (by simp [Region.wanted])]
            refine .inl ?_
            unfold Oper.wp
            have hr : (execOp a.eval (⟨some d, .alloc T, ty, pos, after, none⟩ : Oper)).run P w = .ok (.value (.pointer (some ⟨w.heap.size, 0, none⟩))) { w with heap := w.heap.push (.cells z.cells T) } := by
              have := run_zero (w := w) q4
              simp only [execOp, Instr.alloc, newVar, newRow, newObj, Sem.run_bind, this, Result.andThen_ok]
              simp [go_sem]; rfl
            rw [hr]
            show wpAny P .any l.toArray Q fuel (listed.setIfInBounds (n0 + q) true) (a.put (some d) _) _
            have ad : Adv w F { w with heap := w.heap.push (.cells z.cells T) } F := ⟨Keep.alloc _ _ _, fun _ h => h, fun _ h => .inl h⟩
            have s1 := (s.alloc (T := T) (q5 w F)).swap (i := q)
            have hM : (gmem (Cs m) B ++ f m).set q (some w.heap.size, cellM Zs) = gmem (Cs m) (B.set q (some w.heap.size)) ++ f m := gmem_set _ _ _ _ hBl (hCl m hm) hCq hql
            rw [hM] at s1
            refine ih _ _ _ F m (B.set q (some w.heap.size)) hm (by simp [hBl]) (fun j o' hj => ?_) hcount (by simp [hsz]) (fun j hj hjl => ?_) (fun j h1 h2 => ?_) hclosed ?_ ?_
            · by_cases e : j = q
              · subst e
                rw [List.getElem?_set_self (by omega)] at hj
                obtain rfl := Option.some.inj hj
                have : n0 + j < listed.size := by omega
                simp [this]
              · rw [List.getElem?_set_ne (fun h => e h.symm)] at hj
                rw [getD_set_ne false (by omega)]
                exact hB j o' hj
            · rw [getD_set_ne true (by omega)]; exact htail j hj hjl
            · rw [getD_set_ne true (by omega)]; exact hmids j h1 h2
            · have hsz2 : d < a.tmps.size := by rw [s1.size]; exact q3
              have hslots : ∀ t S, look (gctx ds (B.set q (some w.heap.size)) ++ Γ) t = some S → S.h { w with heap := w.heap.push (.cells z.cells T) } F ((a.put (some d) (.pointer (some ⟨w.heap.size, 0, none⟩))).tmps.getD t undef) := by
                intro t S ht
                rw [getD_put hsz2]
                rw [look_append] at ht
                cases hl : look (gctx ds (B.set q (some w.heap.size))) t with
                | none =>
                  rw [hl] at ht
                  have ht' : look Γ t = some S := by simpa using ht
                  rw [if_neg (fun e => ap1 t S ht' e.symm)]
                  exact S.mono _ _ _ _ _ (hΓs t S ht') (ad.same s.flt) ad.sub
                | some S' =>
                  rw [hl] at ht
                  obtain rfl : S' = S := by simpa using ht
                  rcases look_gctx_set _ _ _ _ _ _ hl with ⟨e1, e2⟩ | h
                  · rw [q1] at e1; obtain rfl := Option.some.inj e1
                    rw [if_pos rfl, e2]
                    intro b hb
                    obtain rfl := Option.some.inj hb; rfl
                  · by_cases e : d = t
                    · subst e
                      rw [if_pos rfl]
                      obtain ⟨j, o', h1, h2, h3⟩ := look_gctx_at _ _ _ _ h
                      have hjq : j = q := by
                        refine Classical.byContradiction fun hne => ?_
                        have hjl : j < ds.length := by
                          rcases Nat.lt_or_ge j ds.length with h | h
                          · exact h
                          · rw [List.getElem?_eq_none h] at h1; cases h1
                        obtain ⟨d', T', z', ty', pos', after', r1, r2, _⟩ := (hal j hjl).ex
                        rw [h1] at r1; obtain rfl := Option.some.inj r1
                        exact ap2 (n0 + j) d (by omega) (by omega) (by rw [r2]; rfl) rfl
                      subst hjq
                      rw [hBq] at h2; obtain rfl := Option.some.inj h2
                      rw [h3]
                      intro b hb; cases hb
                    · rw [if_neg e]
                      exact S'.mono _ _ _ _ _ (s.slots t S' (by rw [look_append, h]; rfl)) (ad.same s.flt) ad.sub
              exact { defers := s1.defers, size := by simp [Act.put, s1.size], keep := s1.keep, f0 := s1.f0, fnew := s1.fnew, flt := s1.flt, mem := s1.mem, slots := hslots }
            · intro j oj dj Sj hL hj hdj hSj
              have hjn : j < n0 := by
                rcases Nat.lt_or_ge j n0 with h' | h'
                · exact h'
                · rw [List.getElem?_eq_none (by omega)] at hSj; cases hSj
              have hne := ap2 j dj (by omega) (by omega) (by rw [hj]; exact hdj)
              rw [getD_put (by rw [s1.size]; exact q3), if_neg (fun e => hne e.symm)]
              refine Sj.mono _ _ _ _ _ (hdone j oj dj Sj ?_ hj hdj hSj) (ad.same s.flt) ad.sub
              have hL' : (listed.setIfInBounds (n0 + q) true).getD j false = true := hL
              rwa [getD_set_ne false (by omega)] at hL'
          -- a store: the next one of the row
          have him : n1 + m ≤ i := by
            rcases Nat.lt_or_ge i (n1 + m) with h | h
            · rw [hmids i hin2 h] at g1; cases g1
            · exact h
          have hieq : i = n1 + m := by
            rcases Nat.lt_or_ge (n1 + m) i with h | h
            · obtain ⟨o', Δ, req, b1, b3, b4, b5⟩ := (hmid (i - n1) (by omega)).ex
              have hb := b4 m (by omega)
              rw [show n1 + (i - n1) = i by omega, List.getElem?_eq_getElem hmask] at hb
              have := reach hc i o g2' g3 (n1 + m) _ (List.getElem?_eq_getElem hmask) (by simpa using hb)
              have e : listed.getD (n1 + m) false = true := this
              rw [← gd listed (n1 + m) (by omega), htail (n1 + m) (Nat.le_refl _) (by omega)] at e; cases e
            · omega
          subst hieq
          have hmk : m < k := by omega
          obtain ⟨o', Δ, req, b1, b3, b4, b7, b8⟩ := (hmid m hmk).ex
          rw [g2'] at b1; obtain rfl := Option.some.inj b1
          have hreq : ∀ j ∈ req, ∃ b, B[j]? = some (some b) := fun j hj => by
            obtain ⟨hjl, hb⟩ := b7 j hj
            rw [show n1 - ds.length + j = n0 + j by omega] at hb
            rw [List.getElem?_eq_getElem hmask] at hb
            have hL : listed.getD (n0 + j) false = true := reach hc (n1 + m) o g2' g3 (n0 + j) _ (List.getElem?_eq_getElem hmask) (by simpa using hb)
            have hlt : j < B.length := by omega
            cases hBj : B[j] with
            | none =>
              have := (hB j none (by rw [List.getElem?_eq_getElem hlt, hBj])).1 rfl
              rw [hL] at this; cases this
            | some b => exact ⟨b, by rw [List.getElem?_eq_getElem hlt, hBj]⟩
          rcases b8 with ⟨b2, b8⟩ | ⟨d, S, e1, e2, e3, e4, e5⟩
          rotate_left
          · obtain ⟨ap1, ap2⟩ := hapart (n1 + m) d (by omega) (by rw [g2']; exact e1)
            have ap3 : ∀ t S, look (gctx ds B ++ Γ) t = some S → t ≠ d := fun t S ht => by
              rw [look_append] at ht
              cases hl : look (gctx ds B) t with
              | none => rw [hl] at ht; exact ap1 t S (by simpa using ht)
              | some S' =>
                obtain ⟨j, hj⟩ := look_gctx _ _ _ _ hl
                have hjl : j < ds.length := by
                  rcases Nat.lt_or_ge j ds.length with h | h
                  · exact h
                  · rw [List.getElem?_eq_none h] at hj; cases hj
                obtain ⟨d', T, z, ty, pos, after, q1, q2, _⟩ := (hal j hjl).ex
                rw [hj] at q1; obtain rfl := Option.some.inj q1
                exact ap2 (n0 + j) t (by omega) (by omega) (by rw [q2]; rfl)
            have hsat : Sat E Δ [] a w F := (s.wider (hctx Δ b3)).sub (List.nil_sublist _)
            have hstep := e5 a w F hsat (wpAny P .any l.toArray Q fuel (listed.setIfInBounds (n1 + m) true)) Q
            have hgo : ∀ v w' F', Adv w F w' F' → S.h w' F' v → wpAny P .any l.toArray Q fuel (listed.setIfInBounds (n1 + m) true) (a.put o.dst v) w' := by
              intro v w' F' ad hv
              rw [e1]
              have s1 := s.adv ad
              refine ih _ _ w' F' (m + 1) B hmk hBl (hBset _ rfl (fun j hj => by omega)) hcount (by simp [hsz]) (fun j hj hjl => ?_) (fun j h1 h2 => ?_) hclosed (by rw [e3, e4]; exact s1.putOut e2 v ap3) ?_
              · rw [getD_set_ne true (by omega)]; exact htail j (by omega) hjl
              · by_cases e : j = n1 + m
                · subst e
                  have : n1 + m < listed.size := by omega
                  simp [this]
                · rw [getD_set_ne true (by omega)]; exact hmids j h1 (by omega)
              · intro j oj dj Sj hL hj hdj hSj
                have hjn : j < n0 := by
                  rcases Nat.lt_or_ge j n0 with h' | h'
                  · exact h'
                  · rw [List.getElem?_eq_none (by omega)] at hSj; cases hSj
                have hne := ap2 j dj (by omega) (by omega) (by rw [hj]; exact hdj)
                rw [getD_put (by rw [s1.size]; exact e2), if_neg (fun e => hne e.symm)]
                refine Sj.mono _ _ _ _ _ (hdone j oj dj Sj ?_ hj hdj hSj) (ad.same s.flt) ad.sub
                have hL' : (listed.setIfInBounds (n1 + m) true).getD j false = true := hL
                rwa [getD_set_ne false (by omega)] at hL'
            have hres := hstep hgo
            unfold wpOp
            rw [ho]
            exact hres
          obtain ⟨b5, b6⟩ := b8 B hBl hreq
          have hsat : Sat E (Δ ++ gctx ds B) (gmem (Cs m) B ++ f m) a w F := s.wider (fun t S ht => by
            rw [look_append] at ht
            cases hl : look Δ t with
            | some S' =>
              rw [hl] at ht
              obtain rfl : S' = S := by simpa using ht
              exact hctx Δ b3 t S' hl
            | none =>
              rw [hl] at ht
              have ht' : look (gctx ds B) t = some S := by simpa using ht
              exact s.slots t S (by rw [look_append, ht']; rfl))
          have hgo : ∀ w', (∀ b, F b → w'.heap[b]? = w.heap[b]?) → (∀ Γ'', Sat E Γ'' (gmem (Cs m) B ++ f m) a w F → Sat E Γ'' (gmem (Cs (m + 1)) B ++ f (m + 1)) a w' F) → wpAny P .any l.toArray Q fuel (listed.setIfInBounds (n1 + m) true) a w' := by
            intro w' hF hS
            refine ih _ _ w' F (m + 1) B hmk hBl (hBset _ rfl (fun j hj => by omega)) hcount (by simp [hsz]) (fun j hj hjl => ?_) (fun j h1 h2 => ?_) hclosed (hS _ s) ?_
            · rw [getD_set_ne true (by omega)]; exact htail j (by omega) hjl
            · by_cases e : j = n1 + m
              · subst e
                have : n1 + m < listed.size := by omega
                simp [this]
              · rw [getD_set_ne true (by omega)]; exact hmids j h1 (by omega)
            · intro j oj dj Sj hL hj hdj hSj
              have hjn : j < n0 := by
                rcases Nat.lt_or_ge j n0 with h' | h'
                · exact h'
                · rw [List.getElem?_eq_none (by omega)] at hSj; cases hSj
              refine Sj.mono _ _ _ _ _ (hdone j oj dj Sj ?_ hj hdj hSj) hF (fun _ h => h)
              have hL' : (listed.setIfInBounds (n1 + m) true).getD j false = true := hL
              rwa [getD_set_ne false (by omega)] at hL'
          unfold wpOp
          rw [ho]
          show if Region.wanted o (yielded l.toArray a.tmps) then _ else _
          rw [if_pos (by simp [Region.wanted, b5])]
          exact .inl (b6 a w F hsat _ Q hgo)
def DrN2 (E : Env) (P : Program) (id : Nat) (l : List Oper) (Γ : Ctx) (M Ms : Mem) (Q : Exit → Act → World → Prop) (n0 n1 : Nat) (ds : List Nat) (zs : List (List VP)) (Θ : Ctx) (m : Nat) (Cs : List MP) (Mc : Mem) : Prop :=
  ∀ (Ss : List VP) (CF : Nat → List MP) (f : Nat → Mem), Dr E P l Γ Ms n0 Ss → (∀ t S, look Θ t = some S → ∃ (j : Nat) (o : Oper), j < n0 ∧ l[j]? = some o ∧ o.dst = some t ∧ Ss[j]? = some S) → n1 = n0 + ds.length → Als E P l n0 ds zs →
    CF 0 = zs.map cellM → f 0 = M → CF m = Cs → f m = Mc → (∀ j, j ≤ m → Ms.Sublist (f j)) → (∀ j, j ≤ m → (CF j).length = ds.length) → (∀ j, j < m → MidD2 E P l Γ Ss n1 ds j (CF j) (f j) (CF (j + 1)) (f (j + 1))) →
    (∀ q, q < ds.length → ∀ j, j ≤ m → (CF j)[q]? = (zs.map cellM)[q]? ∨ ∃ m', m' < j ∧ (((masks l [])[n1 + m']?).getD 0).testBit (n0 + q) = true) → Tri E P (.region id l.toArray true) Γ M Q
theorem DrH.als2 {id n0 n1 : Nat} {l : List Oper} {Θ : Ctx} {Ms : Mem} {ds : List Nat} {zs : List (List VP)} {Cs : List MP} (hn : n1 = n0 + ds.length) (ha : Als E P l n0 ds zs) (hs : Ms.Sublist M) (hC : zs.map cellM = Cs) (k : DrN2 E P id l Γ M Ms Q n0 n1 ds zs Θ 0 Cs M) : DrH E P id l Γ M Ms Q n0 Θ := by
 intro Ss hD hΘ
 subst hC
 refine k Ss (fun _ => zs.map cellM) (fun _ => M) hD hΘ hn ha rfl rfl rfl rfl (fun j hj => hs) (fun j hj => by simp [ha.len]) (fun j hj => absurd hj (by omega)) (fun q hq j hj => .inl rfl)
theorem DrN2.new {id n0 n1 m : Nat} {l : List Oper} {Θ : Ctx} {Ms Mc : Mem} {ds : List Nat} {zs : List (List VP)} {Cs Cs' : List MP} (ts : List Nat) (j : Nat) {dj n : Nat} {g : Bool} {T : TypeId} {y : Operand} {Ss0 Ss1 Ss' : List VP} {S : VP} [sh : Shape S Ss1] [o1 : Ones Ss1]
    (h1 : l[n1 + m]? = some ⟨none, .store T (.tmp dj) y, ty, pos, after, none⟩) (h4 : behindB l (n1 + m) ts = true) (hc : chainB l n1 m = true) (hdj : ds[j]? = some dj) (hfirst : ((List.range j).all fun i => !Nat.beq (ds.getD i 0) dj) = true) (hno : look (keepc ts Θ ++ Γ) dj = none)
    (hb : (((masks l [])[n1 + m]?).getD 0).testBit (n1 - ds.length + j) = true) (hC : Cs[j]? = some (cellM Ss0)) (hy : Has E (keepc ts Θ ++ Γ) [] y S) (hT : tyB P T = some (n, g)) (hn : Nat.beq Ss1.length n = true) (hl : Nat.ble (0 + n) Ss0.length = true)
    (hS : Ss0.take 0 ++ Ss1 ++ Ss0.drop (0 + n) = Ss') (hCs : Cs.set j (cellM Ss') = Cs') (k : DrN2 E P id l Γ M Ms Q n0 n1 ds zs Θ (m + 1) Cs' Mc) : DrN2 E P id l Γ M Ms Q n0 n1 ds zs Θ m Cs Mc := by
  intro Ss CF f hD hΘ hn1 hal hC0 hf0 hCm hfm hsub hlen hmid hq
  have hjl : j < ds.length := by
    rcases Nat.lt_or_ge j ds.length with h | h
    · exact h
    · rw [List.getElem?_eq_none h] at hdj; cases hdj
  have hCl : Cs.length = ds.length := by rw [← hCm]; exact hlen m (Nat.le_refl _)
  refine k Ss (fun i => if i = m + 1 then Cs' else CF i) (fun i => if i = m + 1 then Mc else f i) hD hΘ hn1 hal (by simp [hC0]) (by simp [hf0]) (by simp) (by simp) (fun i hi => ?_) (fun i hi => ?_) (fun i hi => ?_) (fun q hql i hi => ?_)
  · show Ms.Sublist (if i = m + 1 then Mc else f i)
    split
    · rw [← hfm]; exact hsub m (Nat.le_refl _)
    · exact hsub i (by omega)
  · show (if i = m + 1 then Cs' else CF i).length = _
    split
    · rw [← hCs, List.length_set, hCl]
    · exact hlen i (by omega)
  · show MidD2 E P l Γ Ss n1 ds i (if i = m + 1 then Cs' else CF i) (if i = m + 1 then Mc else f i) (if i + 1 = m + 1 then Cs' else CF (i + 1)) (if i + 1 = m + 1 then Mc else f (i + 1))
    rw [if_neg (by omega), if_neg (by omega)]
    by_cases e : i = m
    · subst e
      rw [if_pos rfl, if_pos rfl, hfm, hCm]
      refine ⟨_, keepc ts Θ ++ Γ, [j], h1, fun t S' ht => ?_, fun i' hi' => ?_, fun j' hj' => ?_, .inl ⟨rfl, fun B hBl hreq => ?_⟩⟩
      · rw [look_append] at ht
        cases hl2 : look (keepc ts Θ) t with
        | none => rw [hl2] at ht; exact .inr (by simpa using ht)
        | some S'' =>
          rw [hl2] at ht
          obtain rfl : S'' = S' := by simpa using ht
          obtain ⟨hm2, hl3⟩ := look_keepc _ _ _ hl2
          obtain ⟨i', oj, b0, b1, b2, b3⟩ := hΘ t S'' hl3
          refine .inl ⟨i', oj, ?_, b1, b2, b3⟩
          have := List.all_eq_true.1 h4 i' (by simp; omega)
          rw [b1] at this
          simp only [Option.bind_some, b2, Bool.or_eq_true] at this
          rcases this with h | h
          · exact h
          · have := List.all_eq_true.1 h t hm2
            simp [Nat.beq_refl] at this
      · exact List.all_eq_true.1 hc i' (by simpa using hi')
      · obtain rfl : j' = j := by simpa using hj'
        exact ⟨hjl, hb⟩
      · obtain ⟨b, hBj⟩ := hreq j (by simp)
        have hlk : look ((keepc ts Θ ++ Γ) ++ gctx ds B) dj = some (isOP (some b)) := by
          rw [look_append, hno]
          refine look_gctx_of ds B j dj (some b) (fun i' hi' e => ?_) hdj hBj
          have := List.all_eq_true.1 hfirst i' (by simpa using hi')
          rw [List.getD, e] at this
          simp [nbeq_self] at this
        refine StS.store (b := b) (off := 0) (i := j) (Ss := Ss0) (Ss' := Ss') (Has.op hlk) (Has.up hy) (gmem_at _ _ _ hBj hC) hT hn hl hS ?_
        rcases gmem_setC Cs B j (C := cellM Ss') (M := Mc) hBj with h | h
        · rw [h, hCs]
        · omega
    · rw [if_neg (by omega), if_neg (by omega)]
      exact hmid i (by omega)
  · show (if i = m + 1 then Cs' else CF i)[q]? = _ ∨ _
    by_cases e : i = m + 1
    · rw [if_pos e]
      by_cases ej : q = j
      · subst ej
        refine .inr ⟨m, by omega, ?_⟩
        rwa [show n1 - ds.length + q = n0 + q by omega] at hb
      · rw [← hCs, List.getElem?_set_ne (fun h => ej h.symm), ← hCm]
        rcases hq q hql m (Nat.le_refl _) with h | ⟨m', hm', hb'⟩
        · exact .inl h
        · exact .inr ⟨m', by omega, hb'⟩
    · rw [if_neg e]
      exact hq q hql i (by omega)
theorem DrN2.asg {id n0 n1 m : Nat} {l : List Oper} {Θ : Ctx} {Ms Mc : Mem} {ds : List Nat} {zs : List (List VP)} {Cs : List MP} (ts : List Nat) {S : VP} {o : Oper} {d : Nat}
    (h1 : l[n1 + m]? = some o) (h2 : o.dst = some d) (h3 : Nat.blt d E.n = true) (h4 : behindB l (n1 + m) ts = true) (hc : chainB l n1 m = true) (h5 : OKG E P l.toArray (keepc ts Θ ++ Γ) [] o S) (hs : Ms.Sublist Mc) (k : DrN2 E P id l Γ M Ms Q n0 n1 ds zs Θ (m + 1) Cs Mc) : DrN2 E P id l Γ M Ms Q n0 n1 ds zs Θ m Cs Mc := by
  intro Ss CF f hD hΘ hn1 hal hC0 hf0 hCm hfm hsub hlen hmid hq
  have hCl : Cs.length = ds.length := by rw [← hCm]; exact hlen m (Nat.le_refl _)
  refine k Ss (fun i => if i = m + 1 then Cs else CF i) (fun i => if i = m + 1 then Mc else f i) hD hΘ hn1 hal (by simp [hC0]) (by simp [hf0]) (by simp) (by simp) (fun i hi => ?_) (fun i hi => ?_) (fun i hi => ?_) (fun q hql i hi => ?_)
  · show Ms.Sublist (if i = m + 1 then Mc else f i)
    split
    · exact hs
    · exact hsub i (by omega)
  · show (if i = m + 1 then Cs else CF i).length = _
    split
    · exact hCl
    · exact hlen i (by omega)
  · skip
    show MidD2 E P l Γ Ss n1 ds i (if i = m + 1 then Cs else CF i) (if i = m + 1 then Mc else f i) (if i + 1 = m + 1 then Cs else CF (i + 1)) (if i + 1 = m + 1 then Mc else f (i + 1))
    rw [if_neg (by omega), if_neg (by omega)]
    by_cases e : i = m
    · subst e
      rw [if_pos rfl, if_pos rfl, hfm, hCm]
      refine ⟨_, keepc ts Θ ++ Γ, [], h1, fun t S' ht => ?_, fun i' hi' => ?_, fun j' hj' => absurd hj' (by simp), .inr ⟨_, S, h2, by simpa [Nat.blt_eq] using h3, rfl, rfl, h5⟩⟩
      · rw [look_append] at ht
        cases hl2 : look (keepc ts Θ) t with
        | none => rw [hl2] at ht; exact .inr (by simpa using ht)
        | some S'' =>
          rw [hl2] at ht
          obtain rfl : S'' = S' := by simpa using ht
          obtain ⟨hm2, hl3⟩ := look_keepc _ _ _ hl2
          obtain ⟨i', oj, b0, b1, b2, b3⟩ := hΘ t S'' hl3
          refine .inl ⟨i', oj, ?_, b1, b2, b3⟩
          have := List.all_eq_true.1 h4 i' (by simp; omega)
          rw [b1] at this
          simp only [Option.bind_some, b2, Bool.or_eq_true] at this
          rcases this with h | h
          · exact h
          · have := List.all_eq_true.1 h t hm2
            simp [Nat.beq_refl] at this
      · exact List.all_eq_true.1 hc i' (by simpa using hi')
    · rw [if_neg (by omega), if_neg (by omega)]
      exact hmid i (by omega)
  · show (if i = m + 1 then Cs else CF i)[q]? = _ ∨ _
    by_cases e : i = m + 1
    · rw [if_pos e, ← hCm]
      rcases hq q hql m (Nat.le_refl _) with h | ⟨m', hm', hb'⟩
      · exact .inl h
      · exact .inr ⟨m', by omega, hb'⟩
    · rw [if_neg e]
      exact hq q hql i (by omega)
theorem DrN2.fin {id n0 n1 m n : Nat} {l : List Oper} {Θ : Ctx} {Ms Mc : Mem} {ds : List Nat} {zs : List (List VP)} {Cs : List MP} (hm : P.follows .mixedOrders = true) (hn : n = n1 + m) (hap : apartB l n Γ = true) (htl : tailB l n = true) (hnl : Nat.ble n l.length = true)
    (k : ∀ bs : List Nat, bs.length = ds.length → Ops E P l.toArray Q (l.drop n) (Θ ++ (gctx ds (bs.map some) ++ Γ)) (gmem Cs (bs.map some) ++ Mc)) : DrN2 E P id l Γ M Ms Q n0 n1 ds zs Θ m Cs Mc := by
  intro Ss CF f hD hΘ hn1 hal hC0 hf0 hCm hfm hsub hlen hmid hq
  subst hn
  have hnl' := Nat.le_of_ble_eq_true hnl
  have hap1 : ∀ i d, i < n1 + m → (l[i]?).bind (·.dst) = some d → (∀ t S, look Γ t = some S → t ≠ d) ∧ ∀ j e, j < n1 + m → j ≠ i → (l[j]?).bind (·.dst) = some e → e ≠ d := by
    intro i d hi hd
    have h1 := List.all_eq_true.1 hap i (by simpa using hi)
    rw [hd] at h1
    simp only [Bool.and_eq_true] at h1
    refine ⟨look_none h1.1, fun j e hj hne he => ?_⟩
    have h2 := List.all_eq_true.1 h1.2 j (by simpa using hj)
    rw [he] at h2
    simp only [Bool.or_eq_true, Bool.not_eq_true'] at h2
    rcases h2 with h2 | h2
    · exact absurd (Nat.eq_of_beq_eq_true h2).symm hne
    · exact fun e' => Nat.ne_of_beq_eq_false h2 e'.symm
  have hk : ∀ bs : List Nat, bs.length = ds.length → Ops E P l.toArray Q (l.drop (n1 + m)) (dctx (l.take n0) Ss ++ (gctx ds (bs.map some) ++ Γ)) (gmem (CF m) (bs.map some) ++ f m) := by
    intro bs hbs
    rw [hfm, hCm]
    refine fun a w F s => k bs hbs a w F (s.wider fun t S ht => ?_)
    rw [look_append] at ht
    cases hl : look Θ t with
    | none =>
      rw [hl] at ht
      have ht' : look (gctx ds (bs.map some) ++ Γ) t = some S := by simpa using ht
      have hno : look (dctx (l.take n0) Ss) t = none := by
        cases hd : look (dctx (l.take n0) Ss) t with
        | none => rfl
        | some S' =>
          obtain ⟨j, o, b1, b2, b3⟩ := look_dctx _ _ _ _ hd
          have hj : j < n0 := by
            rcases Nat.lt_or_ge j n0 with h' | h'
            · exact h'
            · rw [List.getElem?_eq_none (by simp; omega)] at b1; cases b1
          rw [List.getElem?_take_of_lt hj] at b1
          obtain ⟨p1, p2⟩ := hap1 j t (by omega) (by rw [b1]; exact b2)
          rw [look_append] at ht'
          cases hg : look (gctx ds (bs.map some)) t with
          | none => rw [hg] at ht'; exact absurd rfl (p1 t S (by simpa using ht'))
          | some S'' =>
            obtain ⟨q, hq'⟩ := look_gctx _ _ _ _ hg
            have hql : q < ds.length := by
              rcases Nat.lt_or_ge q ds.length with h | h
              · exact h
              · rw [List.getElem?_eq_none h] at hq'; cases hq'
            obtain ⟨d, T, z, Zs, ty, pos, after, a1, a2, _⟩ := hal.at q hql
            rw [hq'] at a1; obtain rfl := Option.some.inj a1
            exact absurd rfl (p2 (n0 + q) t (by omega) (by omega) (by rw [a2]; rfl))
      exact s.slots t S (by rw [look_append, hno]; simpa using ht')
    | some S' =>
      rw [hl] at ht
      obtain rfl : S' = S := by simpa using ht
      obtain ⟨j, o, b0, b1, b2, b3⟩ := hΘ t S' hl
      have hex : ∀ (l' : List Oper) (Ss' : List VP) (j : Nat), (l'[j]?).bind (·.dst) = some t → Ss'[j]? = some S' → (∀ j', j' ≠ j → (l'[j']?).bind (·.dst) ≠ some t) → look (dctx l' Ss') t = some S' := by
        intro l'
        induction l' with
        | nil => intro Ss' j h; simp at h
        | cons o' l' ih =>
          intro Ss' j h1 h2 h3
          cases Ss' with
          | nil => simp at h2
          | cons T Ss' =>
            cases j with
            | zero =>
              simp at h1 h2
              subst h2
              simp [dctx, h1, look]
            | succ j =>
              have hrec := ih Ss' j (by simpa using h1) (by simpa using h2) (fun j' hj' => by simpa using h3 (j' + 1) (by omega))
              have h0 := h3 0 (by omega)
              simp at h0
              simp only [dctx]
              cases hd : o'.dst with
              | none => exact hrec
              | some d' =>
                simp only [look]
                have hne : Nat.beq d' t = false := by
                  cases hb : Nat.beq d' t with
                  | false => rfl
                  | true => exact absurd (by rw [hd, Nat.eq_of_beq_eq_true hb]) h0
                rw [hne]; exact hrec
      have hlk := hex (l.take n0) Ss j (by rw [List.getElem?_take_of_lt b0, b1]; exact b2) b3 (fun j' hj' he => by
        have hj'n : j' < n0 := by
          rcases Nat.lt_or_ge j' n0 with h' | h'
          · exact h'
          · rw [List.getElem?_eq_none (by simp; omega)] at he; simp at he
        rw [List.getElem?_take_of_lt hj'n] at he
        exact (hap1 j t (by omega) (by rw [b1]; exact b2)).2 j' t (by omega) hj' he rfl)
      exact s.slots t S' (by rw [look_append, hlk]; rfl)
  intro a w F s
  refine wp_region_any hm ?_
  have s1 := s.adv (Adv.drew w F)
  have hzl := hal.len
  refine phaseD2 hn1 hD hsub hmid hlen (fun q hql => ?_) hap htl hnl' hk _ _ a _ F 0 (List.replicate ds.length none) (Nat.zero_le _) (by simp) (fun j o hj => ?_) ?_ (by simp) (fun j hj hjl => ?_) (fun j h1 h2 => absurd h2 (by omega)) ?_ ?_ ?_
  · obtain ⟨d, T, z, Zs, ty, pos, after, a1, a2, a3, a4, a5, a6⟩ := hal.at q hql
    refine ⟨d, T, z, Zs, ty, pos, after, a1, a2, a3, a4, a5, fun m' hm' => ?_⟩
    have := hq q hql m' hm'
    rw [List.getElem?_map, a6] at this
    simpa using this
  · have hjl : j < ds.length := by
      rcases Nat.lt_or_ge j ds.length with h | h
      · exact h
      · rw [List.getElem?_eq_none (by simpa using h)] at hj; cases hj
    rw [List.getElem?_replicate, if_pos hjl] at hj
    obtain rfl := Option.some.inj hj
    have : n0 + j < l.length := by omega
    simp [this]
  · simp
    exact Nat.le_trans List.countP_le_length (by simp)
  · have : j < l.length := hjl
    simp [this]
  · intro i o hi hL
    simp [Array.getD_eq_getD_getElem?, Array.getElem?_replicate] at hL
    split at hL <;> simp at hL
  · rw [hf0, hC0]
    have hgn : ∀ (Cs : List MP) (k : Nat), ∀ x ∈ gmem Cs (List.replicate k none), x.1 = none := by
      intro Cs
      induction Cs with
      | nil => intro k x hx; simp [gmem] at hx
      | cons C Cs ih =>
        intro k x hx
        cases k with
        | zero => simp [gmem] at hx
        | succ k =>
          rw [List.replicate_succ] at hx
          simp only [gmem, List.mem_cons] at hx
          rcases hx with rfl | hx
          · rfl
          · exact ih k x hx
    have hgc : ∀ (ds : List Nat) (k : Nat) t S, look (gctx ds (List.replicate k none)) t = some S → S = isOP none := by
      intro ds k t S h
      obtain ⟨j, o, h1, h2, h3⟩ := look_gctx_at _ _ _ _ h
      rw [List.getElem?_replicate] at h2
      split at h2
      · obtain rfl := Option.some.inj h2; exact h3
      · cases h2
    refine { s1 with slots := fun t S ht => ?_, mem := ⟨?_, fun b C hb => ?_⟩ }
    · rw [look_append] at ht
      cases hl : look (gctx ds (List.replicate ds.length none)) t with
      | none => rw [hl] at ht; exact s1.slots t S (by simpa using ht)
      | some S' =>
        rw [hl] at ht
        obtain rfl : S' = S := by simpa using ht
        rw [hgc _ _ _ _ hl]
        intro b hb; cases hb
    · rw [List.pairwise_append]
      refine ⟨?_, s1.mem.apart, fun x hx y hy => .inl (hgn _ _ x hx)⟩
      exact List.Pairwise.imp_of_mem (R := fun _ _ => True) (fun hx _ _ => .inl (hgn _ _ _ hx)) (List.pairwise_of_forall (fun _ _ => trivial))
    · rcases List.mem_append.1 hb with h | h
      · have := hgn _ _ _ h; cases this
      · exact s1.mem.each b C h
  · intro j o d S hL
    simp [Array.getD_eq_getD_getElem?, Array.getElem?_replicate] at hL
    split at hL <;> simp at hL
end
end Go.En
namespace Go.En
open Go.RowKit Go.ChangeShapes Go.WideShapes Go.ChangeAt
section
variable {H : Type} {enc : TypeId × Value → H} {P : Program}
theorem trodAll_below (hl : laidOutB P = true) {W W' : World} (hb : Below W.heap.size W W') : ∀ {ts : List TypeId} {vs : List Value} {ds : List (DataW H)} {ps : List MemPlace},
    (ts.all fun t => P.readableRec t && decide (t < P.types.size)) = true → DataW.TrodAll enc P W 0 (fun _ => true) true ts vs ds ps → (∀ x ∈ ps, x.block < W.heap.size) →
    DataW.TrodAll enc P W' 0 (fun b => decide (b < W.heap.size)) true ts vs ds ps
  | [], vs, ds, ps, _, h, _ => by
    obtain ⟨rfl, rfl, rfl⟩ := trodAll_nil h; exact trodAll_mk0
  | t :: ts, vs, ds, ps, hr, h, hp => by
    obtain ⟨v, vs', d, ds', p, q, rfl, rfl, rfl, h1, h2⟩ := trodAll_cons h
    simp only [List.all_cons, Bool.and_eq_true] at hr
    exact trodAll_cons_mk (Below.trod hl hr.1.1 (of_decide_eq_true hr.1.2) h1 hb (fun x hx => hp x (by simp [hx]))) (trodAll_below hl hb hr.2 h2 (fun x hx => hp x (by simp [hx])))
theorem trodAll_len : ∀ {ts : List TypeId} {vs : List Value} {ds : List (DataW H)} {ps : List MemPlace} {W : World} {base : Nat} {sp : Nat → Bool} {hd : Bool}, DataW.TrodAll enc P W base sp hd ts vs ds ps → vs.length = ts.length ∧ ds.length = ts.length
  | [], vs, ds, ps, _, _, _, _, h => by obtain ⟨rfl, rfl, rfl⟩ := trodAll_nil h; exact ⟨rfl, rfl⟩
  | t :: ts, vs, ds, ps, _, _, _, _, h => by
    obtain ⟨v, vs', d, ds', p, q, rfl, rfl, rfl, h1, h2⟩ := trodAll_cons h
    have := trodAll_len h2
    exact ⟨by simp [this.1], by simp [this.2]⟩
def Opens (P : Program) (fn : Func) (f : FuncId) : Prop := ∀ (H : Type) (enc : TypeId × Value → H) (W : World) (base : Nat) (args : Array Value) (ds : List (DataW H)) (ps : List MemPlace),
 (∀ (j : Nat) t v, fn.params[j]? = some t → args[j]? = some v → Value.okWide P W .any base t v) → DataW.TrodAll enc P W 0 (fun _ => true) true fn.params.toList args.toList ds ps →
 (∀ x ∈ ps, x.block < W.heap.size) → ∃ Ss, All2 Ss W (fun b => b < W.heap.size) args.toList ∧ Ctr P f Ss (isB true)
theorem lift_law {C : Checked} {os : Os} {f : FuncId} {fn : Func} {s : ChangeSpec} {conds : List PathCond} {tb : TypeId}
  (own : ownKnob C.prog.godebug = none) (started : os.Started) (noInit : C.prog.inits.idxOf? f = none) (hfn : C.prog.funcs[f]? = some fn)
  (witness : ∃ (w : World) (tape : Tape) (i : Input), w.os = os ∧ (w.forCall tape i).Shaped C.prog ∧ i.vars = [] ∧ Input.okWide C.prog (w.forCall tape i) .any w.heap.size f i ∧
   s.pre6 enc C.prog fn conds false (w.forCall tape i).memory i.args ∧ ({} : Assume).holds C.prog (lone (Frame.enter C.prog f i.args .normal) [] (w.forCall tape i)))
  (hl : laidOutB C.prog = true) (hpar : (fn.params.toList.all fun t => C.prog.readableRec t && decide (t < C.prog.types.size)) = true) (hvars : s.vars = [])
  (hres : fn.resultTypes = #[tb]) (htb : C.prog.underlying tb = some .bool)
  (hs : ∀ ds : List (DataW H), ds.length = fn.params.toList.length → s.fn H ds = { results := [.lit (.bool true)], args := ds }) (hopen : Opens C.prog fn f) :
  ReturnsInHanded {} C os f .any (s.pre6 enc C.prog fn conds false) (s.post enc C.prog fn false true false false) := by
 refine returnsInHanded_of_change (C := C) own started noInit hfn witness ?_
 intro W base args ds gs before hval hW hcnd _
 have hW' := hW
 obtain ⟨p, q, hA0, hV, rfl, hfz, hnd⟩ := hW
 have hA : DataW.TrodAll enc C.prog W 0 (fun _ => true) true fn.params.toList args.toList ds p := hA0
 rw [hvars] at hV
 obtain ⟨rfl, rfl⟩ := trodVars_none hV
 have hlt : ∀ x ∈ p, x.block < W.heap.size := fun x hx => hW'.lt x (by simp [hx])
 obtain ⟨Ss, h1, h2⟩ := hopen H enc W base args ds p hval hA hlt
 have hlen := trodAll_len hA
 refine (h2.2 W _ args.toList (fun _ h => h) h1).mono fun e W' => ?_
 rintro ⟨v, rfl, hk, hv⟩
 obtain rfl : v = .bool true := hv
 have bel := hk.below
 refine ⟨_, rfl, _, _, _, [], p, [], hW', ?_, ?_, ?_, ?_, fun h => by cases h⟩
 ·rw [List.append_nil, hs ds hlen.2, hres]
  exact trodAll_mk1 (shut_bool htb _)
 ·rw [List.append_nil, hs ds hlen.2]
  exact trodAll_below hl bel hpar hA hlt
 ·rw [List.append_nil, hs ds hlen.2, hvars]; exact hV
 ·exact bel.frame _
theorem rd_K {w : World} {sp : Nat → Bool} {fuel : Nat} {T : TypeId} {k : IntKind} {cs : List Value} {x : DataW H × List MemPlace} (hu : P.underlying T = some (.int k)) (h : DataW.trod enc P w 0 sp true fuel T cs = some x) :
  ∃ z, cs = [.int k z] ∧ rng k z := by
 obtain ⟨n, hc, _, hw⟩ := DataW.trod_int hu h
 exact ⟨n, hc, by simpa [Lit.wf, rng] using hw⟩
theorem rd_I {w : World} {sp : Nat → Bool} {fuel : Nat} {T : TypeId} {cs : List Value} {x : DataW H × List MemPlace} (hu : P.underlying T = some (.int .i64)) (h : DataW.trod enc P w 0 sp true fuel T cs = some x) :
  ∃ z : Int, cs = [.int .i64 z] ∧ -9223372036854775808 ≤ z ∧ z < 9223372036854775808 := by
 obtain ⟨z, rfl, h1, h2⟩ := rd_K hu h
 simp [IntKind.min, IntKind.max, IntKind.signed, IntKind.bits] at h1 h2
 exact ⟨z, rfl, by omega, by omega⟩
theorem list_of_get {α : Type} {p : Nat → α → Prop} : ∀ (n : Nat), (∀ i, i < n → ∃ a, p i a) → ∃ l : List α, l.length = n ∧ ∀ i (h : i < l.length), p i l[i]
  | 0, _ => ⟨[], rfl, fun i h => absurd h (by simp)⟩
  | n + 1, h => by
    obtain ⟨l, h1, h2⟩ := list_of_get n (fun i hi => h i (by omega))
    obtain ⟨a, ha⟩ := h n (by omega)
    refine ⟨l ++ [a], by simp [h1], fun i hi => ?_⟩
    rcases Nat.lt_or_ge i l.length with h3 | h3
    · rw [List.getElem_append_left h3]; exact h2 i h3
    · have : i = n := by simp at hi; omega
      subst this
      rw [List.getElem_append_right h3]; simpa [h1] using ha
theorem all2_of_get : ∀ {Ss : List VP} {w : World} {F : Blk} {vs : List Value}, Ss.length = vs.length → (∀ (i : Nat) (S : VP) (v : Value), Ss[i]? = some S → vs[i]? = some v → S.h w F v) → All2 Ss w F vs
 | [], _, _, [], _, _ => trivial
 | S :: Ss, _, _, v :: vs, hl, h => ⟨h 0 S v rfl rfl, all2_of_get (by simpa using hl) (fun i S' v' h1 h2 => h (i + 1) S' v' (by simpa using h1) (by simpa using h2))⟩
 | [], _, _, _ :: _, hl, _ => by simp at hl
 | _ :: _, _, _, [], hl, _ => by simp at hl
end
end Go.En
namespace Go.En
open Go.RowKit Go.ChangeShapes Go.WideShapes Go.ChangeAt
section
variable {H : Type} {enc : TypeId × Value → H} {P : Program}
theorem rd_row {α : Type} {f : α → VP} {W : World} {T T' : TypeId} {k : IntKind} {fuel : Nat} {cs : List Value} {x : DataW H × List MemPlace} (hu : P.underlying T = some (.slice T')) (hu' : P.underlying T' = some (.int k)) (hc : P.cellsOf T' = 1)
    (hf : ∀ z, rng k z → ∃ a, ∀ w F, (f a).h w F (.int k z)) (h : DataW.trod enc P W 0 (fun _ => true) true fuel T cs = some x) (hps : ∀ y ∈ x.2, y.block < W.heap.size) : ∃ (v : Value) (xs : List α), cs = [v] ∧ (SlM f xs).h W (fun b => b < W.heap.size) v := by
  rcases open_ints hu hu' hc h with ⟨h1, _⟩ | ⟨a, len, cap, zs, h1, h2, h3, h4, h5, h6, h7, h8⟩
  · exact ⟨_, [], h1, nilM _ _⟩
  · simp only [if_true] at h5
    obtain ⟨l, hl, hget⟩ := list_of_get (p := fun i (x : α) => ∀ w F, (f x).h w F (.int k (zs.getD i 0))) len (fun i hi => by
      have hz : zs.getD i 0 ∈ zs := by
        have : i < zs.length := by omega
        simp [List.getD, this]
      exact hf _ (by simpa [Lit.wf, rng] using h8 _ hz))
    refine ⟨_, l, h1, some a, cap, by rw [hl], by rw [hl]; exact h3, h4, by simp, ?_⟩
    rcases Nat.eq_zero_or_pos len with h0 | h0
    · exact .inl (by omega)
    · have hc0 := h7 0 (by omega)
      have hs : a.spot = none := by
        cases hsp : a.spot with
        | none => rfl
        | some s =>
          simp only [Addr.add, if_true] at hc0
          unfold World.cell? at hc0
          rw [hsp] at hc0
          split at hc0 <;> simp at hc0
      obtain ⟨b, off, sp⟩ := a
      simp only at hs
      subst hs
      right
      refine ⟨b, off, rfl, ?_, (List.range len).map (fun i => .int k (zs.getD i 0)), ?_, fun j u hj => ?_⟩
      · have : MemPlace.cell b (off + 0) ∈ x.2 := by
          rw [h6]
          exact List.mem_map.2 ⟨0, by simp; omega, rfl⟩
        exact hps _ this
      · refine all2_of_get (by simp [hl]) (fun i S v hS hv => ?_)
        have hi : i < l.length := by
          rcases Nat.lt_or_ge i l.length with h | h
          · exact h
          · rw [List.getElem?_eq_none (by simpa using h)] at hS; cases hS
        rw [List.getElem?_map, List.getElem?_eq_getElem hi] at hS
        rw [List.getElem?_map, List.getElem?_range (by omega)] at hv
        simp at hS hv
        subst hS; subst hv
        simpa [List.getD] using hget i hi W (fun b => b < W.heap.size)
      · have hjl : j < len := by
          rcases Nat.lt_or_ge j len with h | h
          · exact h
          · rw [List.getElem?_eq_none (by simpa using h)] at hj; cases hj
        rw [List.getElem?_map, List.getElem?_range hjl] at hj
        simp at hj
        subst hj
        have := h7 j (by omega)
        rw [add_mk] at this
        simpa [List.getD] using this
theorem word_of (z : Int) (h : rng .u64 z) : ∃ n : Nat, ∀ w F, (isU n).h w F (.int .u64 z) := by
 obtain ⟨h1, h2⟩ := h
 simp [IntKind.min, IntKind.max, IntKind.signed, IntKind.bits] at h1 h2
 refine ⟨z.toNat, fun w F => ⟨?_, by omega⟩⟩
 rw [Int.toNat_of_nonneg h1]
def fsB (P : Program) (T : TypeId) : Option (List (TypeId × Nat)) := match P.underlying T with
 | some (.struct fs) => some (fs.toList.map fun f => (f.type, f.offset))
 | _ => none
theorem fsB_spec {T : TypeId} {l : List (TypeId × Nat)} (h : fsB P T = some l) : ∃ fs, P.underlying T = some (.struct fs) ∧ fs.size = l.length ∧ ∀ (i t o : Nat), l[i]? = some (t, o) → ∃ f, fs[i]? = some f ∧ f.type = t ∧ f.offset = o := by
  unfold fsB at h
  split at h
  · rename_i fs hu
    obtain rfl := Option.some.inj h
    refine ⟨fs, hu, by simp, fun i t o hi => ?_⟩
    rw [List.getElem?_map] at hi
    cases hf : fs.toList[i]? with
    | none => rw [hf] at hi; cases hi
    | some f =>
      rw [hf] at hi
      simp at hi
      exact ⟨f, by simpa using hf, hi.1, hi.2⟩
  · cases h
end
end Go.En
namespace Go.Proofs.YthkdmhaafanjlaaGreat
open Go.En
theorem by22 : byLe Tryz.prog 22 1024 = true := by kernel_rfl
theorem by3 : byLe Tryz.prog 3 1024 = true := by kernel_rfl
theorem by31 : byLe Tryz.prog 31 1024 = true := by kernel_rfl
theorem by39 : byLe Tryz.prog 39 1024 = true := by kernel_rfl
theorem ext_add64 : IsExt Tryz.prog 241 add64Entry := ⟨⟨Tryz.f241, Tryz.func241, by kernel_rfl, by kernel_rfl, by kernel_rfl, by kernel_rfl⟩⟩
theorem ext_sub64 : IsExt Tryz.prog 242 subE := ⟨⟨Tryz.f242, Tryz.func242, by kernel_rfl, by kernel_rfl, by kernel_rfl, by kernel_rfl⟩⟩
theorem fld185_0 : fldB Tryz.prog 185 0 = some (0, 151) := by kernel_rfl
theorem fld185_2 : fldB Tryz.prog 185 2 = some (2, 3) := by kernel_rfl
theorem fld226_0 : fldB Tryz.prog 226 0 = some (0, 3) := by kernel_rfl
theorem fld226_1 : fldB Tryz.prog 226 1 = some (1, 22) := by kernel_rfl
theorem fld226_2 : fldB Tryz.prog 226 2 = some (2, 151) := by kernel_rfl
theorem fld226_3 : fldB Tryz.prog 226 3 = some (3, 151) := by kernel_rfl
theorem fld226_4 : fldB Tryz.prog 226 4 = some (4, 31) := by kernel_rfl
theorem fld226_5 : fldB Tryz.prog 226 5 = some (6, 31) := by kernel_rfl
theorem fld226_6 : fldB Tryz.prog 226 6 = some (8, 3) := by kernel_rfl
theorem fld24_0 : fldB Tryz.prog 24 0 = some (0, 3) := by kernel_rfl
theorem fld24_1 : fldB Tryz.prog 24 1 = some (1, 3) := by kernel_rfl
theorem fld24_2 : fldB Tryz.prog 24 2 = some (2, 22) := by kernel_rfl
theorem fld31_0 : fldB Tryz.prog 31 0 = some (0, 4) := by kernel_rfl
theorem fld31_1 : fldB Tryz.prog 31 1 = some (1, 29) := by kernel_rfl
theorem fs24 : fsB Tryz.prog 24 = some [(3, 0), (3, 1), (22, 2)] := by kernel_rfl
theorem fs31 : fsB Tryz.prog 31 = some [(4, 0), (29, 1)] := by kernel_rfl
theorem mixed : Tryz.prog.follows .mixedOrders = true := by kernel_rfl
theorem pl185 : plB Tryz.prog 185 = some [(0, 1), (1, 1), (2, 1)] := by kernel_rfl
theorem pl226 : plB Tryz.prog 226 = some [(0, 1), (1, 1), (2, 1), (3, 1), (4, 2), (6, 2), (8, 1)] := by kernel_rfl
theorem pl24 : plB Tryz.prog 24 = some [(0, 1), (1, 1), (2, 1)] := by kernel_rfl
theorem pl31 : plB Tryz.prog 31 = some [(0, 1), (1, 1)] := by kernel_rfl
theorem sl108 : slB Tryz.prog 108 = some 3 := by kernel_rfl
theorem sl151 : slB Tryz.prog 151 = some 22 := by kernel_rfl
theorem sl174 : slB Tryz.prog 174 = some 2 := by kernel_rfl
theorem sl22 : slB Tryz.prog 22 = some 31 := by kernel_rfl
theorem sl29 : slB Tryz.prog 29 = some 39 := by kernel_rfl
theorem ty151 : tyB Tryz.prog 151 = some (1, false) := by kernel_rfl
theorem ty174 : tyB Tryz.prog 174 = some (1, false) := by kernel_rfl
theorem ty2 : tyB Tryz.prog 2 = some (1, false) := by kernel_rfl
theorem ty22 : tyB Tryz.prog 22 = some (1, false) := by kernel_rfl
theorem ty24 : tyB Tryz.prog 24 = some (3, true) := by kernel_rfl
theorem ty29 : tyB Tryz.prog 29 = some (1, false) := by kernel_rfl
theorem ty3 : tyB Tryz.prog 3 = some (1, false) := by kernel_rfl
theorem ty31 : tyB Tryz.prog 31 = some (2, true) := by kernel_rfl
theorem ty39 : tyB Tryz.prog 39 = some (1, false) := by kernel_rfl
theorem ty4 : tyB Tryz.prog 4 = some (1, false) := by kernel_rfl
theorem un2 : Tryz.prog.underlying 2 = some (.int .i64) := by kernel_rfl
theorem un22 : Tryz.prog.underlying 22 = some (.slice 31) := by kernel_rfl
theorem un264 : Tryz.prog.underlying 264 = some (.int .u64) := by kernel_rfl
theorem un29 : Tryz.prog.underlying 29 = some (.slice 39) := by kernel_rfl
theorem un3 : Tryz.prog.underlying 3 = some (.int .i64) := by kernel_rfl
theorem un39 : Tryz.prog.underlying 39 = some (.int .u64) := by kernel_rfl
theorem un4 : Tryz.prog.underlying 4 = some .bool := by kernel_rfl
theorem un5 : Tryz.prog.underlying 5 = some (.int .u8) := by kernel_rfl
theorem un9 : Tryz.prog.underlying 9 = some .string := by kernel_rfl
theorem zero185 : zeroB Tryz.prog 185 = some (.agg #[.slice none 0 0, .int .i64 0, .int .i64 0]) := by kernel_rfl
theorem zero2 : zeroB Tryz.prog 2 = some (.int .i64 0) := by kernel_rfl
theorem zero22 : zeroB Tryz.prog 22 = some (.slice none 0 0) := by kernel_rfl
theorem zero226 : zeroB Tryz.prog 226 = some (.agg #[.int .i64 0, .slice none 0 0, .slice none 0 0, .slice none 0 0, .bool false, .slice none 0 0, .bool false, .slice none 0 0, .int .i64 0]) := by kernel_rfl
theorem zero24 : zeroB Tryz.prog 24 = some (.agg #[.int .i64 0, .int .i64 0, .slice none 0 0]) := by kernel_rfl
theorem zero3 : zeroB Tryz.prog 3 = some (.int .i64 0) := by kernel_rfl
theorem zero31 : zeroB Tryz.prog 31 = some (.agg #[.bool false, .slice none 0 0]) := by kernel_rfl
theorem zero39 : zeroB Tryz.prog 39 = some (.int .u64 0) := by kernel_rfl
end Go.Proofs.YthkdmhaafanjlaaGreat
namespace Go.Nt
abbrev W : Nat := 18446744073709551616
def val : List Nat → Nat
 | [] => 0
 | x :: xs => x + W * val xs
def wordsN : Nat → Nat → List Nat
 | 0, _ => []
 | k + 1, n => n % W :: wordsN k (n / W)
def words (n : Nat) : List Nat := if h : n = 0 then [] else n % W :: words (n / W)
termination_by n
decreasing_by exact Nat.div_lt_self (Nat.pos_of_ne_zero h) (by decide)
def Ok (xs : List Nat) : Prop := ∀ x ∈ xs, x < W
theorem words_zero : words 0 = [] := by unfold words; simp
theorem words_pos {n : Nat} (h : n ≠ 0) : words n = n % W :: words (n / W) := by rw [words]; simp [h]
theorem nw_zero : (List.length (words 0)) = 0 := by rw [words_zero]; rfl
theorem nw_pos {n : Nat} (h : n ≠ 0) : (List.length (words n)) = (List.length (words (n / W))) + 1 := by rw [words_pos h]; rfl
theorem val_words (n : Nat) : val (words n) = n := by
  induction n using Nat.strongRecOn with
  | _ n ih =>
    by_cases h : n = 0
    · subst h; rw [words_zero]; rfl
    · rw [words_pos h, val, ih _ (Nat.div_lt_self (Nat.pos_of_ne_zero h) (by decide))]
      have := Nat.mod_add_div n W; omega
theorem words_ok (n : Nat) : Ok (words n) := by
  induction n using Nat.strongRecOn with
  | _ n ih =>
    by_cases h : n = 0
    · subst h; rw [words_zero]; intro x hx; simp at hx
    · rw [words_pos h]; intro x hx
      rcases List.mem_cons.1 hx with rfl | hx
      · exact Nat.mod_lt _ (by decide)
      · exact ih _ (Nat.div_lt_self (Nat.pos_of_ne_zero h) (by decide)) x hx
theorem wordsN_len : ∀ (k n : Nat), (wordsN k n).length = k
 | 0, _ => rfl
 | k + 1, n => by simp [wordsN, wordsN_len k]
theorem wordsN_ok : ∀ (k n : Nat), Ok (wordsN k n)
  | 0, _ => fun x hx => by simp [wordsN] at hx
  | k + 1, n => fun x hx => by
    rcases List.mem_cons.1 hx with rfl | hx
    · exact Nat.mod_lt _ (by decide)
    · exact wordsN_ok k _ x hx
theorem val_wordsN : ∀ (k n : Nat), val (wordsN k n) = n % W ^ k
  | 0, n => by simp [wordsN, val, Nat.mod_one]
  | k + 1, n => by
    rw [wordsN, val, val_wordsN k, Nat.pow_succ, Nat.mul_comm (W ^ k) W, Nat.mod_mul]
theorem val_lt {xs : List Nat} (h : Ok xs) : val xs < W ^ xs.length := by
  induction xs with
  | nil => simp [val]
  | cons x xs ih =>
    have h1 := h x (by simp)
    have h2 := ih (fun y hy => h y (by simp [hy]))
    rw [val, List.length_cons, Nat.pow_succ]
    have : W * val xs + W ≤ W * W ^ xs.length := by rw [← Nat.mul_succ]; exact Nat.mul_le_mul_left _ h2
    rw [Nat.mul_comm (W ^ xs.length)]; omega
theorem val_append (xs ys : List Nat) : val (xs ++ ys) = val xs + W ^ xs.length * val ys := by
 induction xs with
 | nil => simp [val]
 | cons x xs ih => rw [List.cons_append, val, ih, val, List.length_cons, Nat.pow_succ]; grind
theorem ok_append {xs ys : List Nat} (h : Ok xs) (k : Ok ys) : Ok (xs ++ ys) := fun x hx => by
 rcases List.mem_append.1 hx with h1 | h1
 ·exact h x h1
 ·exact k x h1
theorem val_inj : ∀ {xs ys : List Nat}, Ok xs → Ok ys → xs.length = ys.length → val xs = val ys → xs = ys
  | [], [], _, _, _, _ => rfl
  | x :: xs, y :: ys, h1, h2, hl, hv => by
    have hx := h1 x (by simp)
    have hy := h2 y (by simp)
    simp only [val] at hv
    have e : x = y := by
      have := congrArg (· % W) hv
      simp only [Nat.add_mul_mod_self_left] at this
      rwa [Nat.mod_eq_of_lt hx, Nat.mod_eq_of_lt hy] at this
    subst e
    have e2 : val xs = val ys := Nat.eq_of_mul_eq_mul_left (by decide : 0 < W) (by omega)
    rw [val_inj (fun z hz => h1 z (by simp [hz])) (fun z hz => h2 z (by simp [hz])) (by simpa using hl) e2]
theorem eq_wordsN {xs : List Nat} {k n : Nat} (h : Ok xs) (hl : xs.length = k) (hv : val xs = n % W ^ k) : xs = wordsN k n :=
 val_inj h (wordsN_ok _ _) (by rw [hl, wordsN_len]) (by rw [hv, val_wordsN])
theorem nw_lt (n : Nat) : n < W ^ (List.length (words n)) := by have := val_lt (words_ok n); rwa [val_words] at this
theorem nw_le {n k : Nat} (h : n < W ^ k) : (List.length (words n)) ≤ k := by
  induction k generalizing n with
  | zero => have : n = 0 := by simpa using h
            subst this; rw [nw_zero]; exact Nat.le_refl _
  | succ k ih =>
    by_cases h0 : n = 0
    · subst h0; rw [nw_zero]; omega
    · rw [nw_pos h0]
      have : n / W < W ^ k := by rw [Nat.div_lt_iff_lt_mul (by decide)]; rwa [Nat.pow_succ] at h
      have := ih this; omega
theorem nw_mono {m n : Nat} (h : m ≤ n) : (List.length (words m)) ≤ (List.length (words n)) := nw_le (Nat.lt_of_le_of_lt h (nw_lt n))
theorem le_of_nw {n : Nat} (h : n ≠ 0) : W ^ ((List.length (words n)) - 1) ≤ n := by
 apply Classical.byContradiction; intro hc
 have := nw_le (Nat.lt_of_not_le hc)
 have := nw_pos h; omega
theorem nw_val {xs : List Nat} (h : Ok xs) : (List.length (words (val xs))) ≤ xs.length := nw_le (val_lt h)
def dig (n i : Nat) : Nat := n / W ^ i % W
theorem dig_lt (n i : Nat) : dig n i < W := Nat.mod_lt _ (by decide)
theorem getD_words (n i : Nat) : (words n).getD i 0 = dig n i := by
  induction i generalizing n with
  | zero =>
    by_cases h : n = 0
    · subst h; rw [words_zero]; simp [dig]
    · rw [words_pos h]; simp [dig]
  | succ i ih =>
    by_cases h : n = 0
    · subst h; rw [words_zero]; simp [dig]
    · rw [words_pos h, List.getD_cons_succ, ih, dig, dig, Nat.div_div_eq_div_mul, Nat.pow_succ, Nat.mul_comm W]
theorem getD_val {xs : List Nat} (h : Ok xs) (i : Nat) : xs.getD i 0 = dig (val xs) i := by
  induction xs generalizing i with
  | nil => simp [dig, val]
  | cons x xs ih =>
    have hx := h x (by simp)
    cases i with
    | zero => simp [dig, val, Nat.mod_eq_of_lt hx]
    | succ i =>
      rw [List.getD_cons_succ, ih (fun y hy => h y (by simp [hy])), dig, dig, val, Nat.pow_succ, Nat.mul_comm (W ^ i), ← Nat.div_div_eq_div_mul]
      rw [Nat.add_mul_div_left _ _ (by decide), Nat.div_eq_of_lt hx, Nat.zero_add]
theorem wordsN_succ (k n : Nat) : wordsN (k + 1) n = wordsN k n ++ [dig n k] := by
  induction k generalizing n with
  | zero => simp [wordsN, dig]
  | succ k ih =>
    rw [wordsN, ih, wordsN, List.cons_append, dig, dig, Nat.div_div_eq_div_mul, Nat.pow_succ, Nat.mul_comm W]
theorem mod_succ (n k : Nat) : n % W ^ (k + 1) = n % W ^ k + W ^ k * dig n k := by
 rw [Nat.pow_succ, Nat.mod_mul, dig]
theorem words_wordsN (n : Nat) : words n = wordsN ((List.length (words n))) n := eq_wordsN (words_ok n) rfl (by rw [val_words, Nat.mod_eq_of_lt (nw_lt n)])
theorem dig_top {n : Nat} (h : n ≠ 0) : dig n ((List.length (words n)) - 1) ≠ 0 := by
 intro h0
 have h1 := le_of_nw h
 have h2 := nw_lt n
 have e : (List.length (words n)) - 1 + 1 = (List.length (words n)) := by have := nw_pos h; omega
 have h3 : n / W ^ ((List.length (words n)) - 1) < W := by rw [Nat.div_lt_iff_lt_mul (Nat.pow_pos (by decide)), Nat.mul_comm, ← Nat.pow_succ]; rwa [show ((List.length (words n)) - 1).succ = (List.length (words n)) from e]
 rw [dig, Nat.mod_eq_of_lt h3] at h0
 have := (Nat.div_eq_zero_iff.1 h0).resolve_left (Nat.ne_of_gt (Nat.pow_pos (by decide)))
 omega
theorem dig_zero {n i : Nat} (h : (List.length (words n)) ≤ i) : dig n i = 0 := by
 rw [dig, Nat.div_eq_of_lt (Nat.lt_of_lt_of_le (nw_lt n) (Nat.pow_le_pow_right (by decide) h))]; rfl
theorem words_of_take {xs : List Nat} {k : Nat} (h : Ok xs) (hk : k ≤ xs.length) (h0 : ∀ i, k ≤ i → xs.getD i 0 = 0) (ht : k = 0 ∨ xs.getD (k - 1) 0 ≠ 0) : xs.take k = words (val xs) := by
  have hv : val xs < W ^ k := by
    clear ht
    induction xs generalizing k with
    | nil => simp [val]; exact Nat.pow_pos (by decide)
    | cons x xs ih =>
      cases k with
      | zero =>
        have hx := h0 0 (Nat.le_refl _)
        simp at hx
        have := ih (fun y hy => h y (by simp [hy])) (Nat.zero_le _) (fun i _ => by simpa using h0 (i + 1) (by omega))
        simp at this
        simp [val, hx, this]
      | succ k =>
        have := ih (fun y hy => h y (by simp [hy])) (by simpa using hk) (fun i hi => by simpa using h0 (i + 1) (by omega))
        have hx := h x (by simp)
        rw [val, Nat.pow_succ, Nat.mul_comm (W ^ k)]
        have h3 : W * val xs + W ≤ W * W ^ k := by rw [← Nat.mul_succ]; exact Nat.mul_le_mul_left _ this
        omega
  have hn : (List.length (words (val xs))) = k := by
    have h1 := nw_le hv
    rcases ht with rfl | ht
    · omega
    · rcases Nat.lt_or_ge ((List.length (words (val xs)))) k with h2 | h2
      · exfalso; apply ht; rw [getD_val h]; exact dig_zero (by omega)
      · omega
  have hok : Ok (xs.take k) := fun x hx => h x (List.mem_of_mem_take hx)
  have htv : val (xs.take k) = val xs := by
    have e := val_append (xs.take k) (xs.drop k)
    rw [List.take_append_drop] at e
    have hlen : (xs.take k).length = k := by simp; omega
    rw [hlen] at e
    have hd : val (xs.drop k) = 0 := by
      rcases Nat.eq_zero_or_pos (val (xs.drop k)) with h1 | h1
      · exact h1
      · have := Nat.le_mul_of_pos_right (W ^ k) h1; omega
    rw [hd] at e; omega
  rw [words_wordsN, hn]
  exact eq_wordsN hok (by simp; omega) (by rw [htv, Nat.mod_eq_of_lt hv])
theorem words_small {n : Nat} (h : n < W) : words n = if n = 0 then [] else [n] := by
 by_cases h0 : n = 0
 ·subst h0; rw [words_zero]; rfl
 ·rw [if_neg h0, words_pos h0, Nat.mod_eq_of_lt h, Nat.div_eq_of_lt h, words_zero]
theorem lt_of_nw_le_one {n : Nat} (h : (List.length (words n)) ≤ 1) : n < W := by
 have := nw_lt n
 have h2 : W ^ (List.length (words n)) ≤ W ^ 1 := Nat.pow_le_pow_right (by decide) h
 simp at h2; omega
theorem val_replicate (k : Nat) : val (List.replicate k 0) = 0 := by
 induction k with
 | zero => rfl
 | succ k ih => rw [List.replicate_succ, val, ih]; rfl
def cmpN (m n : Nat) : Int := if m < n then -1 else if n < m then 1 else 0
end Go.Nt
namespace Go.Nt
theorem mul32 {a b : Nat} (ha : a < 4294967296) (hb : b < 4294967296) : a * b ≤ 18446744065119617025 := by
 have : a * b ≤ 4294967295 * 4294967295 := Nat.mul_le_mul (by omega) (by omega)
 omega
theorem mul64_facts {x y : Nat} (hx : x < 18446744073709551616) (hy : y < 18446744073709551616) :
  x % 2 ^ 32 * (y % 2 ^ 32) ≤ 18446744065119617025 ∧ x / 2 ^ 32 * (y % 2 ^ 32) ≤ 18446744065119617025 ∧ x % 2 ^ 32 * (y / 2 ^ 32) ≤ 18446744065119617025 ∧ x / 2 ^ 32 * (y / 2 ^ 32) ≤ 18446744065119617025 :=
 ⟨mul32 (by omega) (by omega), mul32 (by omega) (by omega), mul32 (by omega) (by omega), mul32 (by omega) (by omega)⟩
theorem mul64_hi (x y : Nat) : x / 2 ^ 32 * (y / 2 ^ 32) + (x / 2 ^ 32 * (y % 2 ^ 32) + x % 2 ^ 32 * (y % 2 ^ 32) / 2 ^ 32) / 2 ^ 32 +
  ((x / 2 ^ 32 * (y % 2 ^ 32) + x % 2 ^ 32 * (y % 2 ^ 32) / 2 ^ 32) % 2 ^ 32 + x % 2 ^ 32 * (y / 2 ^ 32)) / 2 ^ 32 = x * y / 18446744073709551616 := by
 have hx : x = x % 2 ^ 32 + 4294967296 * (x / 2 ^ 32) := by omega
 have hy : y = y % 2 ^ 32 + 4294967296 * (y / 2 ^ 32) := by omega
 generalize x / 2 ^ 32 = x1 at *
 generalize y / 2 ^ 32 = y1 at *
 generalize x % 2 ^ 32 = x0 at *
 generalize y % 2 ^ 32 = y0 at *
 have e : x * y = x0 * y0 + 4294967296 * (x1 * y0 + x0 * y1) + 18446744073709551616 * (x1 * y1) := by rw [hx, hy]; grind
 rw [e]
 generalize x0 * y0 = p at *
 generalize x1 * y0 = q at *
 generalize x0 * y1 = r at *
 generalize x1 * y1 = s at *
 omega
theorem cmp_start {m n : Nat} (h : (List.length (words m)) = (List.length (words n))) : m / W ^ (List.length (words m)) = n / W ^ (List.length (words m)) := by
 rw [Nat.div_eq_of_lt (nw_lt m), h, Nat.div_eq_of_lt (nw_lt n)]
theorem div_pow_succ (n k : Nat) (hk : 0 < k) : n / W ^ (k - 1) = W * (n / W ^ k) + dig n (k - 1) := by
 have e : W ^ k = W ^ (k - 1) * W := by rw [← Nat.pow_succ]; congr 1; omega
 rw [e, ← Nat.div_div_eq_div_mul, dig]
 exact (Nat.div_add_mod _ _).symm
theorem cmp_step {m n k : Nat} (hk : 0 < k) (h : m / W ^ k = n / W ^ k) (hd : (words m).getD (k - 1) 0 = (words n).getD (k - 1) 0) : m / W ^ (k - 1) = n / W ^ (k - 1) := by
 rw [getD_words, getD_words] at hd
 rw [div_pow_succ m k hk, div_pow_succ n k hk, h, hd]
theorem lt_of_div {m n k : Nat} (h : m / W ^ k < n / W ^ k) : m < n := by
 apply Classical.byContradiction; intro hc
 have := Nat.div_le_div_right (c := W ^ k) (Nat.le_of_not_lt hc); omega
theorem cmp_lt {m n k : Nat} (hk : 0 < k) (h : m / W ^ k = n / W ^ k) (hd : (words m).getD (k - 1) 0 < (words n).getD (k - 1) 0) : -1 = cmpN m n := by
 rw [getD_words, getD_words] at hd
 have : m < n := lt_of_div (k := k - 1) (by rw [div_pow_succ m k hk, div_pow_succ n k hk, h]; omega)
 unfold cmpN; rw [if_pos this]
theorem cmp_gt {m n k : Nat} (hk : 0 < k) (h : m / W ^ k = n / W ^ k) (hd : (words n).getD (k - 1) 0 < (words m).getD (k - 1) 0) : 1 = cmpN m n := by
 rw [getD_words, getD_words] at hd
 have : n < m := lt_of_div (k := k - 1) (by rw [div_pow_succ m k hk, div_pow_succ n k hk, h]; omega)
 unfold cmpN; rw [if_neg (by omega), if_pos this]
theorem cmp_eq {m n k : Nat} (h : m / W ^ k = n / W ^ k) (hk : k = 0) : 0 = cmpN m n := by
 subst hk; simp at h; subst h; simp [cmpN]
theorem lt_of_nw {m n : Nat} (h : (List.length (words m)) < (List.length (words n))) : m < n := by
 apply Classical.byContradiction; intro hc
 have := nw_mono (Nat.le_of_not_lt hc); omega
theorem cmp_len_lt {m n : Nat} (h : (List.length (words m)) < (List.length (words n))) : -1 = cmpN m n := by unfold cmpN; rw [if_pos (lt_of_nw h)]
theorem cmp_len_gt {m n : Nat} (h : (List.length (words n)) < (List.length (words m))) : 1 = cmpN m n := by have := lt_of_nw h; unfold cmpN; rw [if_neg (by omega), if_pos this]
end Go.Nt
namespace Go.Proofs.YthkdmhaafanjlaaGreat
open Go.En Go.RowKit
set_option maxRecDepth 10000
set_option maxHeartbeats 4000000
open Go.Nt
theorem bits_Mul64 {x y : Nat} : Ctr Tryz.prog 289 [isU x, isU y] (isTup [isU (x * y / 18446744073709551616), isU (x * y % 18446744073709551616)]) := by
 refine Ctr.intro Tryz.func289 rfl (by kernel_rfl) Tryz.ntmps289 rfl fun w0 F0 => .cv (Cv.wk (.l [0, 1] rfl)) (.fact (Has.ltU (Has.t (t := 0) rfl)) fun lt0 => .fact (Has.ltU (Has.t (t := 1) rfl)) fun lt1 => ?_)
 have hf := mul64_facts lt0 lt1
 have hx1 : x / 2 ^ 32 < 4294967296 := by omega
 have hy1 : y / 2 ^ 32 < 4294967296 := by omega
 refine .seq fun _ k1 => .region (st (.as (.cU 0 rfl)) rfl (st (.as (.cU 0 rfl)) rfl (nl (.thn (k1 _ _ (.seq fun _ k2 => .region (st (.mv (.t rfl)) rfl (st (.eq (.andU (.t rfl) (.cU 4294967295 rfl)) (isU_eq (Nat.and_two_pow_sub_one_eq_mod _ 32))) rfl (st (.as (.t rfl)) rfl (nl (.thn (k2 _ _ (.seq fun _ k3 => .region (st (.mv (.t rfl)) rfl (st (.shrUU (.t rfl) (.cU 32 rfl) (by first | omega | assumption)) rfl (st (.as (.t rfl)) rfl (nl (.thn (k3 _ _ (.seq fun _ k4 => .region (st (.mv (.t rfl)) rfl (st (.eq (.andU (.t rfl) (.cU 4294967295 rfl)) (isU_eq (Nat.and_two_pow_sub_one_eq_mod _ 32))) rfl (st (.as (.t rfl)) rfl (nl (.thn (k4 _ _ (.cv (Cv.wk (.l [0, 1, 4, 5, 6, 7, 8] rfl)) (.seq fun _ k5 => .region (st (.mv (.t rfl)) rfl (st (.shrUU (.t rfl) (.cU 32 rfl) (by first | omega | assumption)) rfl (st (.as (.t rfl)) rfl (nl (.thn (k5 _ _ (.seq fun _ k6 => .region (st (.mv (.t rfl)) rfl (st (.mv (.t rfl)) rfl (st (.mulU' (.t rfl) (.t rfl) (by first | omega | assumption)) rfl (st (.as (.t rfl)) rfl (nl (.thn (k6 _ _ (.cv (Cv.wk (.l [0, 1, 4, 5, 6, 7, 8, 9, 10] rfl)) ?_)))))))))))))))))))))))))))))))))))))))))))
 refine .seq fun _ k7 => .region (st (.mv (.t rfl)) rfl (st (.mv (.t rfl)) rfl (st (.mulU' (.t rfl) (.t rfl) (by first | omega | assumption)) rfl (st (.mv (.t rfl)) rfl (st (.shrUU (.t rfl) (.cU 32 rfl) (by first | omega | assumption)) rfl (st (.addU' (.t rfl) (.t rfl) (by first | omega | assumption)) rfl (st (.as (.t rfl)) rfl (nl (.thn (k7 _ _ (.cv (Cv.wk (.l [0, 1, 4, 5, 6, 7, 9, 11] rfl)) (.seq fun _ k8 => .region (st (.mv (.t rfl)) rfl (st (.eq (.andU (.t rfl) (.cU 4294967295 rfl)) (isU_eq (Nat.and_two_pow_sub_one_eq_mod _ 32))) rfl (st (.as (.t rfl)) rfl (nl (.thn (k8 _ _ (.seq fun _ k9 => .region (st (.mv (.t rfl)) rfl (st (.shrUU (.t rfl) (.cU 32 rfl) (by first | omega | assumption)) rfl (st (.as (.t rfl)) rfl (nl (.thn (k9 _ _ (.cv (Cv.wk (.l [0, 1, 4, 5, 6, 7, 9, 12, 13] rfl)) (.seq fun _ k10 => .region (st (.mv (.t rfl)) rfl (st (.mv (.t rfl)) rfl (st (.mv (.t rfl)) rfl (st (.mulU' (.t rfl) (.t rfl) (by first | omega | assumption)) rfl (st (.addU' (.t rfl) (.t rfl) (by first | omega | assumption)) rfl (st (.as (.t rfl)) rfl (nl (.thn (k10 _ _ (.cv (Cv.wk (.l [0, 1, 4, 5, 7, 9, 12, 13] rfl)) (.seq fun _ k11 => .region (st (.mv (.t rfl)) rfl (st (.mv (.t rfl)) rfl (st (.mulU' (.t rfl) (.t rfl) (by first | omega | assumption)) rfl ?_)))))))))))))))))))))))))))))))))))))))))
 refine st (.mv (.t rfl)) rfl (st (.addU' (.t rfl) (.t rfl) (by first | omega | assumption)) rfl (st (.mv (.t rfl)) rfl (st (.shrUU (.t rfl) (.cU 32 rfl) (by first | omega | assumption)) rfl (st (.addU' (.t rfl) (.t rfl) (by first | omega | assumption)) rfl (st (.as (.t rfl)) rfl (nl (.thn (k11 _ _ (.cv (Cv.wk (.l [0, 1, 4, 5] rfl)) (.seq fun _ k12 => .region (st (.mv (.t rfl)) rfl (st (.mv (.t rfl)) rfl (st (.mulU (.t rfl) (.t rfl)) rfl (st (.as (.t rfl)) rfl (nl (.thn (k12 _ _ (.cv (Cv.wk (.l [4, 5] rfl)) (.ret (rtN (.inl rfl) Tryz.results289 rfl rfl (.tmp (Has.t' rfl ?_) (.tmp (Has.t' rfl ?_) .nil))))))))))))))))))))))
 ·exact isU_eq (mul64_hi x y)
 ·rfl
theorem clone_Nat {xs : List Nat} (hx : xs.length ≤ 4294967296) : Ctr Tryz.prog 234 [isWords xs] (isWords xs) := by
 refine Ctr.intro Tryz.func234 rfl (by kernel_rfl) Tryz.ntmps234 rfl fun w0 F0 => .cv (Cv.wk (.l [0] rfl)) (.fact (Has.lenLt (Has.t (t := 0) rfl)) fun lt0 => .fact (Has.okW (Has.t (t := 0) rfl)) fun ok0 => .seq fun _ k1 => .region (st (.as (.cW (f := isU))) rfl (nl (.thn (k1 _ _ (.seq fun _ k2 => .seq fun _ k3 => .region (st (.mv (.t rfl)) rfl (.eqNil sl29 (.t rfl) rfl fun bn1 hn1 => nl (.thn (k3 _ _ (.cond (.t rfl) (fun hc2 => ?_) (fun hc2 => ?_))))))))))))
 ·have hc2 := BP.t hc2
  refine .seq fun _ k4 => .region (st (.as (.cW (f := isU))) rfl (nl (.thn (k4 _ _ (.ret (.thr (rt1 (.inl rfl) Tryz.results234 rfl (.tmp (Has.t' rfl ?_) .nil))))))))
  all_goals (rw [hn1 hc2])
 ·have hc2 := BP.f hc2
  refine .skip (.thn (k2 _ _ (.seq fun _ k5 => .region (.buildS0 sl29 ty39 rfl (st (.mv (.t rfl)) rfl (st (.appendZM sl29 ty39 zero39 by39 (.t rfl) (.t rfl) (by first | omega | assumption)) rfl (st (.as (.t rfl)) rfl (nl (.thn (k5 _ _ (.cv (Cv.wk (.l [2] rfl)) (.ret (rt1 (.inl rfl) Tryz.results234 rfl (.tmp (Has.t' rfl ?_) .nil))))))))))))))
  all_goals (rfl)
theorem nat_trim {xs : List Nat} : Ctr Tryz.prog 217 [isWords xs] (isWords (words (val xs))) := by
 refine Ctr.intro Tryz.func217 rfl (by kernel_rfl) Tryz.ntmps217 rfl fun w0 F0 => .cv (Cv.wk (.l [0] rfl)) (.fact (Has.lenLt (Has.t (t := 0) rfl)) fun lt0 => .fact (Has.okW (Has.t (t := 0) rfl)) fun ok0 => .seq fun _ k1 => .region (st (.as (.cW (f := isU))) rfl (nl (.thn (k1 _ _ (.seq fun _ k2 => .region (st (.mv (.t rfl)) rfl (st (.len sl29 (.t rfl)) rfl (st (.as (.t rfl)) rfl (nl (.thn (k2 _ _ (.seq fun _ k3 => .block (.loopF [0, 2] (fun (z : { k : Nat // k ≤ xs.length ∧ ∀ i, k ≤ i → xs.getD i 0 = 0 }) => match z with | ⟨k, hI⟩ => [(3, isI (k : Int))]) (fun M => fun (z : { k : Nat // k ≤ xs.length ∧ ∀ i, k ≤ i → xs.getD i 0 = 0 }) => match z with | ⟨k, hI⟩ => M) (fun (z : { k : Nat // k ≤ xs.length ∧ ∀ i, k ≤ i → xs.getD i 0 = 0 }) => match z with | ⟨k, hI⟩ => k) (⟨xs.length, Nat.le_refl _, fun i hi => by simp [List.getD, List.getElem?_eq_none hi]⟩) (Cv.mem (.c 3 rfl ?_ (.l [0, 2] rfl)) ?_) ?_))))))))))))))
 ·rfl
 ·rfl
 rintro ⟨k, hk, hz⟩ K4 hK4
 refine .cv (Cv.wk (.l [3, 0, 2] rfl)) ?_
 have ek : ((k : Int) - 1).toNat = k - 1 := by omega
 refine .seq fun _ k5 => .seq fun _ k6 => .region (st (.mv (.t rfl)) rfl (st (.gtI (.t rfl) (.cI 0 rfl)) rfl (st (.mv (.t rfl)) rfl ?_)))
 refine stT rfl rfl (fun hg => have hg' := BP.t hg; OK1.mv (.t rfl)) rfl ?_
 refine stT rfl rfl (fun hg => have hg' := BP.t hg; OK1.mv (.t rfl)) rfl ?_
 refine stT rfl rfl (fun hg => have hg' := BP.t hg; OK1.subI (Has.g rfl hg) (.cI 1 rfl) (by first | omega | assumption) (by first | omega | assumption)) rfl ?_
 refine stT rfl rfl (fun hg => have hg' := BP.t hg; OK1.ixP sl29 ty39 (Has.g rfl hg) (Has.g rfl hg) ⟨by omega, by omega⟩ (getD_some (d := 0) (by omega))) rfl ?_
 refine stT rfl rfl (fun hg => have hg' := BP.t hg; OK1.loadP1 (Has.g rfl hg) ty39) rfl ?_
 refine stT rfl rfl (fun hg => have hg' := BP.t hg; OK1.eqU (Has.g rfl hg) (.cU 0 rfl)) rfl ?_
 refine st (.pickAnd (.t rfl) (fun h => Has.g rfl h)) rfl (nl (.thn (k6 _ _ (.cond (.t rfl) (fun hc1 => ?_) (fun hc1 => ?_)))))
 ·have hc1 := BP.t hc1
  refine .skip (.thn (k5 _ _ (.block (.region (st (.mv (.t rfl)) rfl (st (.subI (.t rfl) (.cI 1 rfl) (by first | omega | assumption) (by first | omega | assumption)) rfl (st (.as (.t rfl)) rfl (nl (.bln (.thn ?_))))))))))
  refine hK4 (⟨k - 1, by omega, fun i hi => by rcases Nat.lt_or_ge i k with h | h; (have e : i = k - 1 := by omega); (rw [e, ← ek]; exact hc1.2); exact hz i h⟩) _ _ ?_ (Cv.mem (.c 3 rfl ?_ (.l [0, 2] rfl)) ?_)
  ·show k - 1 < k; omega
  ·exact isI_eq (by omega)
  ·rfl
 ·have hc1 := BP.f hc1
  refine .exit (.the (.the (.blh (.thn (k3 _ _ (.cv (Cv.wk (.l [0, 2, 3] rfl)) (.seq fun _ k7 => .region (st (.mv (.t rfl)) rfl (st (.mv (.t rfl)) rfl (st (.slHM sl29 ty39 (.t rfl) (.t rfl) ⟨by omega, by omega⟩) rfl (st (.as (.t rfl)) rfl (nl (.thn (k7 _ _ (.cv (Cv.wk (.l [2] rfl)) (.ret (rt1 (.inl rfl) Tryz.results217 rfl (.tmp (Has.t' rfl ?_) .nil))))))))))))))))))
  all_goals (exact SlM_eq (words_of_take ok0 hk hz (by rcases hc1 with h | h; left; omega; right; rwa [ek] at h)))
theorem nat_normal {xs : List Nat} : Ctr Tryz.prog 233 [isWords xs] (isWords (words (val xs))) := by
 refine Ctr.intro Tryz.func233 rfl (by kernel_rfl) Tryz.ntmps233 rfl fun w0 F0 => .cv (Cv.wk (.l [0] rfl)) (.fact (Has.lenLt (Has.t (t := 0) rfl)) fun lt0 => .fact (Has.okW (Has.t (t := 0) rfl)) fun ok0 => .seq fun _ k1 => .region (st (.as (.cW (f := isU))) rfl (nl (.thn (k1 _ _ (.seq fun _ k2 => .region (st (.mv (.t rfl)) rfl (st (.call (nat_trim) (.cons (.t rfl) .nil)) rfl (st (.as (.t rfl)) rfl (nl (.thn (k2 _ _ (.seq fun _ k3 => .seq fun _ k4 => .region (st (.mv (.t rfl)) rfl (st (.len sl29 (.t rfl)) rfl (st (.eqI (.t rfl) (.cI 0 rfl)) rfl (nl (.thn (k4 _ _ (.cond (.t rfl) (fun hc1 => ?_) (fun hc1 => ?_)))))))))))))))))))))
 ·have hc1 := BP.t hc1
  refine .seq fun _ k5 => .region (st (.as (.cW (f := isU))) rfl (nl (.thn (k5 _ _ (.cv (Cv.wk (.l [0, 2] rfl)) (.ret (.thr (rt1 (.inl rfl) Tryz.results233 rfl (.tmp (Has.t' rfl ?_) .nil)))))))))
  all_goals (exact SlM_eq (List.eq_nil_of_length_eq_zero (by omega)).symm)
 ·have hc1 := BP.f hc1
  refine .skip (.thn (k3 _ _ (.cv (Cv.wk (.l [0, 2] rfl)) (.seq fun _ k6 => .region (st (.mv (.t rfl)) rfl (st (.as (.t rfl)) rfl (nl (.thn (k6 _ _ (.ret (rt1 (.inl rfl) Tryz.results233 rfl (.tmp (Has.t' rfl ?_) .nil))))))))))))
  all_goals (rfl)
theorem nat_Of {x : Nat} : Ctr Tryz.prog 103 [isU x] (isWords (words x)) := by
 refine Ctr.intro Tryz.func103 rfl (by kernel_rfl) Tryz.ntmps103 rfl fun w0 F0 => .cv (Cv.wk (.l [0] rfl)) (.fact (Has.ltU (Has.t (t := 0) rfl)) fun lt0 => .seq fun _ k1 => .region (st (.as (.cW (f := isU))) rfl (nl (.thn (k1 _ _ (.seq fun _ k2 => .seq fun _ k3 => .region (st (.mv (.t rfl)) rfl (st (.eqU (.t rfl) (.cU 0 rfl)) rfl (nl (.thn (k3 _ _ (.cond (.t rfl) (fun hc1 => ?_) (fun hc1 => ?_)))))))))))))
 ·have hc1 := BP.t hc1
  refine .seq fun _ k4 => .region (st (.as (.cW (f := isU))) rfl (nl (.thn (k4 _ _ (.ret (.thr (rt1 (.inl rfl) Tryz.results103 rfl (.tmp (Has.t' rfl ?_) .nil))))))))
  all_goals (exact SlM_eq (by first | rw [hc1, words_zero] | rw [words_small lt0, if_neg (by omega)]))
 ·have hc1 := BP.f hc1
  refine .skip (.thn (k2 _ _ (.seq fun _ k5 => .region (st (.mv (.t rfl)) rfl (st (.buildS [isU 0] sl29 ty39 zero39 (fun _ _ => ⟨⟨rfl, by decide⟩, trivial⟩) rfl rfl (.cons (.t rfl) rfl rfl rfl .nil) rfl (S := isWords [_]) rfl) rfl (st (.as (.t rfl)) rfl (nl (.thn (k5 _ _ (.cv (Cv.wk (.l [2] rfl)) (.ret (rt1 (.inl rfl) Tryz.results103 rfl (.tmp (Has.t' rfl ?_) .nil)))))))))))))
  all_goals (exact SlM_eq (by first | rw [hc1, words_zero] | rw [words_small lt0, if_neg (by omega)]))
theorem nat_Norm {xs : List Nat} (hx : (List.length (words (val xs))) ≤ 4294967296) : Ctr Tryz.prog 172 [isWords xs] (isWords (words (val xs))) := by
 refine Ctr.intro Tryz.func172 rfl (by kernel_rfl) Tryz.ntmps172 rfl fun w0 F0 => .cv (Cv.wk (.l [0] rfl)) (.fact (Has.lenLt (Has.t (t := 0) rfl)) fun lt0 => .fact (Has.okW (Has.t (t := 0) rfl)) fun ok0 => .seq fun _ k1 => .region (st (.as (.cW (f := isU))) rfl (nl (.thn (k1 _ _ (.seq fun _ k2 => .region (st (.mv (.t rfl)) rfl (st (.call (nat_trim) (.cons (.t rfl) .nil)) rfl (st (.call (clone_Nat (by first | omega | assumption)) (.cons (.t rfl) .nil)) rfl (st (.call (nat_normal) (.cons (.t rfl) .nil)) rfl (st (.as (.t rfl)) rfl (nl (.thn (k2 _ _ (.cv (Cv.wk (.l [2] rfl)) (.ret (rt1 (.inl rfl) Tryz.results172 rfl (.tmp (Has.t' rfl ?_) .nil))))))))))))))))))
 all_goals (rw [val_words])
theorem nat_Cmp {xs ys : List Nat} : Ctr Tryz.prog 150 [isWords xs, isWords ys] (isI (cmpN (val xs) (val ys))) := by
 refine Ctr.intro Tryz.func150 rfl (by kernel_rfl) Tryz.ntmps150 rfl fun w0 F0 => .cv (Cv.wk (.l [0, 1] rfl)) (.fact (Has.lenLt (Has.t (t := 0) rfl)) fun lt0 => .fact (Has.okW (Has.t (t := 0) rfl)) fun ok0 => .fact (Has.lenLt (Has.t (t := 1) rfl)) fun lt1 => .fact (Has.okW (Has.t (t := 1) rfl)) fun ok1 => ?_)
 have n0 : (words (val xs)).length ≤ xs.length := nw_val ok0
 have n1 : (words (val ys)).length ≤ ys.length := nw_val ok1
 refine .seq fun _ k1 => .region (st (.as (.cI 0 rfl)) rfl (nl (.thn (k1 _ _ (.seq fun _ k2 => .region (st (.mv (.t rfl)) rfl (st (.call (nat_trim) (.cons (.t rfl) .nil)) rfl (st (.mv (.t rfl)) rfl (st (.call (nat_trim) (.cons (.t rfl) .nil)) rfl (st (.as (.t rfl)) rfl (st (.as (.t rfl)) rfl (nl (.thn (k2 _ _ (.seq fun _ k3 => .seq fun _ k4 => .region (st (.mv (.t rfl)) rfl (st (.len sl29 (.t rfl)) rfl (st (.mv (.t rfl)) rfl (st (.len sl29 (.t rfl)) rfl (st (.neI (.t rfl) (.t rfl)) rfl (nl (.thn (k4 _ _ (.cv (Cv.wk (.l [0, 1, 4, 14] rfl)) (.cond (.t rfl) (fun hc1 => ?_) (fun hc1 => ?_))))))))))))))))))))))))))
 ·have hc1 := BP.t hc1
  refine .seq fun _ k5 => .seq fun _ k6 => .region (st (.mv (.t rfl)) rfl (st (.len sl29 (.t rfl)) rfl (st (.mv (.t rfl)) rfl (st (.len sl29 (.t rfl)) rfl (st (.ltI (.t rfl) (.t rfl)) rfl (nl (.thn (k6 _ _ (.cv (Cv.wk (.l [0, 1, 4, 19] rfl)) (.cond (.t rfl) (fun hc2 => ?_) (fun hc2 => ?_)))))))))))
  ·have hc2 := BP.t hc2
   refine .seq fun _ k7 => .region (st (.as (.cI (-1) rfl)) rfl (nl (.thn (k7 _ _ (.ret (.thr (.thr (rt1 (.inl rfl) Tryz.results150 rfl (.tmp (Has.t' rfl ?_) .nil)))))))))
   all_goals (exact isI_eq (cmp_len_lt (show (words _).length < (words _).length by omega)))
  ·have hc2 := BP.f hc2
   refine .skip (.thn (k5 _ _ (.seq fun _ k8 => .region (st (.as (.cI 1 rfl)) rfl (nl (.thn (k8 _ _ (.ret (.thr (rt1 (.inl rfl) Tryz.results150 rfl (.tmp (Has.t' rfl ?_) .nil)))))))))))
   all_goals (exact isI_eq (cmp_len_gt (show (words _).length < (words _).length by omega)))
 ·have hc1 := BP.f hc1
  refine .skip (.thn (k3 _ _ (.seq fun _ k9 => .seq fun _ k10 => .region (st (.mv (.t rfl)) rfl (st (.len sl29 (.t rfl)) rfl (st (.subI (.t rfl) (.cI 1 rfl) (by first | omega | assumption) (by first | omega | assumption)) rfl (st (.as (.t rfl)) rfl (nl (.thn (k10 _ _ (.block (.loopF [0, 1] (fun (z : { k : Nat // k ≤ (words (val xs)).length ∧ val xs / W ^ k = val ys / W ^ k }) => match z with | ⟨k, hI⟩ => [(5, isI ((k : Int) - 1))]) (fun M => fun (z : { k : Nat // k ≤ (words (val xs)).length ∧ val xs / W ^ k = val ys / W ^ k }) => match z with | ⟨k, hI⟩ => M) (fun (z : { k : Nat // k ≤ (words (val xs)).length ∧ val xs / W ^ k = val ys / W ^ k }) => match z with | ⟨k, hI⟩ => k) (⟨(words (val xs)).length, Nat.le_refl _, cmp_start (show (words _).length = (words _).length by omega)⟩) (Cv.mem (.c 5 rfl ?_ (.l [0, 1] rfl)) ?_) ?_))))))))))))
  ·rfl
  ·rfl
  rintro ⟨k, hk, he⟩ K11 hK11
  refine .cv (Cv.wk (.l [5, 0, 1] rfl)) ?_
  have ek : ((k : Int) - 1).toNat = k - 1 := by omega
  refine .seq fun _ k12 => .seq fun _ k13 => .region (st (.mv (.t rfl)) rfl (st (.geI (.t rfl) (.cI 0 rfl)) rfl (nl (.thn (k13 _ _ (.cond (.t rfl) (fun hc3 => ?_) (fun hc3 => ?_)))))))
  ·have hc3 := BP.t hc3
   refine .skip (.thn (k12 _ _ (.seq fun _ k14 => .block (.block (.seq fun _ k15 => .dr (.s [] rfl rfl rfl (.o rfl (.mv (.t rfl))) (.s [] rfl rfl rfl (.o rfl (.mv (.t rfl))) (.s [28, 29] rfl rfl rfl (.o rfl (.ixP sl29 ty39 (.t rfl) (.t rfl) ⟨by omega, by omega⟩ (getD_some (d := 0) (by omega)))) (.s [30] rfl rfl rfl (.o rfl (.loadP1 (.t rfl) ty39)) (.s [] rfl rfl rfl (.o rfl (.mv (.t rfl))) (.s [] rfl rfl rfl (.o rfl (.mv (.t rfl))) (.s [32, 33] rfl rfl rfl (.o rfl (.ixP sl29 ty39 (.t rfl) (.t rfl) ⟨by omega, by omega⟩ (getD_some (d := 0) (by omega)))) (.s [34] rfl rfl rfl (.o rfl (.loadP1 (.t rfl) ty39)) (.fin (n := 8) mixed (by kernel_rfl) (by kernel_rfl) (by kernel_rfl) (.cv (Cv.wk (.l [0, 1, 5, 23, 24, 28, 29, 30, 31, 32, 33, 34, 35] rfl)) (st (.ltU (.t rfl) (.t rfl)) rfl (st (.as (.t rfl)) rfl (nl (.thn (k15 _ _ (.cond (.t rfl) (fun hc4 => ?_) (fun hc4 => ?_))))))))))))))))))))))
   ·have hc4 := BP.t hc4
    refine .seq fun _ k16 => .region (st (.as (.cI (-1) rfl)) rfl (nl (.thn (k16 _ _ (.ret (.blr (.blr (.thr (.thr (.blr (.thr (rt1 (.inl rfl) Tryz.results150 rfl (.tmp (Has.t' rfl ?_) .nil)))))))))))))
    all_goals (rw [ek] at hc4; exact isI_eq (cmp_lt (by omega) he hc4))
   ·have hc4 := BP.f hc4
    refine .seq fun _ k17 => .dr (.s [] rfl rfl rfl (.o rfl (.mv (.t rfl))) (.s [] rfl rfl rfl (.o rfl (.mv (.t rfl))) (.s [38, 39] rfl rfl rfl (.o rfl (.ixP sl29 ty39 (.t rfl) (.t rfl) ⟨by omega, by omega⟩ (getD_some (d := 0) (by omega)))) (.s [40] rfl rfl rfl (.o rfl (.loadP1 (.t rfl) ty39)) (.s [] rfl rfl rfl (.o rfl (.mv (.t rfl))) (.s [] rfl rfl rfl (.o rfl (.mv (.t rfl))) (.s [42, 43] rfl rfl rfl (.o rfl (.ixP sl29 ty39 (.t rfl) (.t rfl) ⟨by omega, by omega⟩ (getD_some (d := 0) (by omega)))) (.s [44] rfl rfl rfl (.o rfl (.loadP1 (.t rfl) ty39)) (.fin (n := 8) mixed (by kernel_rfl) (by kernel_rfl) (by kernel_rfl) (.cv (Cv.wk (.l [0, 1, 5, 23, 24, 28, 29, 30, 31, 32, 33, 34, 35, 36, 27, 38, 39, 40, 41, 42, 43, 44, 45] rfl)) (st (.gtU (.t rfl) (.t rfl)) rfl (st (.as (.t rfl)) rfl (nl (.thn (k17 _ _ (.cond (.t rfl) (fun hc5 => ?_) (fun hc5 => ?_)))))))))))))))))
    ·have hc5 := BP.t hc5
     refine .seq fun _ k18 => .region (st (.as (.cI 1 rfl)) rfl (nl (.thn (k18 _ _ (.ret (.blr (.blr (.thr (.thr (.blr (.thr (rt1 (.inl rfl) Tryz.results150 rfl (.tmp (Has.t' rfl ?_) .nil)))))))))))))
     all_goals (rw [ek] at hc5; exact isI_eq (cmp_gt (by omega) he hc5))
    ·have hc5 := BP.f hc5
     refine .skip (.bln (.bln (.thn (k14 _ _ (.region (st (.mv (.t rfl)) rfl (st (.subI (.t rfl) (.cI 1 rfl) (by first | omega | assumption) (by first | omega | assumption)) rfl (st (.as (.t rfl)) rfl (nl (.thn (hK11 (⟨k - 1, by omega, cmp_step (by omega) he (by rw [ek] at hc4 hc5; omega)⟩) _ _ ?_ (Cv.mem (.c 5 rfl ?_ (.l [0, 1] rfl)) ?_))))))))))))
     ·show k - 1 < k; omega
     ·exact isI_eq (by show _ = ((k - 1 : Nat) : Int) - 1; omega)
     ·rfl
  ·have hc3 := BP.f hc3
   refine .exit (.the (.the (.blh (.thn (k9 _ _ (.cv (Cv.wk .nil) (.seq fun _ k19 => .region (st (.as (.cI 0 rfl)) rfl (nl (.thn (k19 _ _ (.ret (rt1 (.inl rfl) Tryz.results150 rfl (.tmp (Has.t' rfl ?_) .nil))))))))))))))
   all_goals (exact isI_eq (cmp_eq he (by omega)))
end Go.Proofs.YthkdmhaafanjlaaGreat
namespace Go.Nt
def wpart (N i m : Nat) : List Nat := wordsN i N ++ List.replicate (m - i) 0
theorem wpart_zero (N m : Nat) : List.replicate m 0 = wpart N 0 m := rfl
theorem wpart_len {N i m : Nat} (h : i ≤ m) : (wpart N i m).length = m := by simp [wpart, wordsN_len]; omega
theorem wpart_full (N m : Nat) : wpart N m m = wordsN m N := by simp [wpart]
theorem wpart_set {N i m d : Nat} (h : i < m) (hd : d = dig N i) : (wpart N i m).set i d = wpart N (i + 1) m := by
 subst hd
 unfold wpart
 rw [List.set_append_right _ _ (by rw [wordsN_len]; exact Nat.le_refl _), wordsN_len, Nat.sub_self, wordsN_succ]
 have : m - i = (m - (i + 1)) + 1 := by omega
 rw [this, List.replicate_succ, List.set_cons_zero]
 simp
theorem words_val_wordsN {N k : Nat} (h : N < W ^ k) : words (val (wordsN k N)) = words N := by rw [val_wordsN, Nat.mod_eq_of_lt h]
theorem pow_pos' (k : Nat) : 0 < W ^ k := Nat.pow_pos (by decide)
theorem pow_le_pow' {a b : Nat} (h : a ≤ b) : W ^ a ≤ W ^ b := Nat.pow_le_pow_right (by decide) h
theorem lt_pow_of {n k : Nat} (h : (List.length (words n)) ≤ k) : n < W ^ k := Nat.lt_of_lt_of_le (nw_lt n) (pow_le_pow' h)
def car (p q i : Nat) : Nat := (p % W ^ i + q % W ^ i) / W ^ i
theorem car_zero (p q : Nat) : 0 = car p q 0 := by simp [car, Nat.mod_one]
theorem car_le (p q i : Nat) : car p q i ≤ 1 := by
 have h1 := Nat.mod_lt p (pow_pos' i)
 have h2 := Nat.mod_lt q (pow_pos' i)
 have : car p q i < 2 := by unfold car; rw [Nat.div_lt_iff_lt_mul (pow_pos' i)]; omega
 omega
theorem add_eq (p q i : Nat) : (p + q) / W ^ i = p / W ^ i + q / W ^ i + car p q i := by
 have h1 := Nat.mod_add_div p (W ^ i)
 have h2 := Nat.mod_add_div q (W ^ i)
 have e : p + q = (p % W ^ i + q % W ^ i) + W ^ i * (p / W ^ i + q / W ^ i) := by rw [Nat.mul_add]; omega
 rw [e, Nat.add_mul_div_left _ _ (pow_pos' i)]
 unfold car; omega
theorem div_succ (n i : Nat) : n / W ^ i = W * (n / W ^ (i + 1)) + dig n i := by
 have := div_pow_succ n (i + 1) (by omega); simpa using this
theorem add_dig (p q i : Nat) : (dig p i + dig q i + car p q i) % W = dig (p + q) i := by
 rw [show dig (p + q) i = (p + q) / W ^ i % W from rfl, add_eq]
 unfold dig
 generalize p / W ^ i = a
 generalize q / W ^ i = b
 generalize car p q i = c
 unfold W; omega
theorem add_car (p q i : Nat) : (dig p i + dig q i + car p q i) / W = car p q (i + 1) := by
 have h1 := add_eq p q i
 have h2 := add_eq p q (i + 1)
 have h3 := div_succ p i
 have h4 := div_succ q i
 have h5 := div_succ (p + q) i
 have h6 := add_dig p q i
 generalize car p q i = c at *
 generalize car p q (i + 1) = c' at *
 generalize p / W ^ (i + 1) = a' at *
 generalize q / W ^ (i + 1) = b' at *
 generalize (p + q) / W ^ (i + 1) = s' at *
 generalize p / W ^ i = a at *
 generalize q / W ^ i = b at *
 generalize (p + q) / W ^ i = s at *
 unfold W at *; omega
theorem add_top {p q k : Nat} (hp : p < W ^ k) (hq : q < W ^ k) : car p q k = dig (p + q) k := by
 have h := add_eq p q k
 rw [Nat.div_eq_of_lt hp, Nat.div_eq_of_lt hq] at h
 have := car_le p q k
 unfold dig; rw [h]; simp only [Nat.zero_add]; rw [Nat.mod_eq_of_lt (Nat.lt_of_le_of_lt this (by decide))]
theorem add_lt {p q k : Nat} (hp : p < W ^ k) (hq : q < W ^ k) : p + q < W ^ (k + 1) := by
 rw [Nat.pow_succ]; generalize W ^ k = w at *; unfold W; omega
def bor (p q i : Nat) : Nat := if p % W ^ i < q % W ^ i then 1 else 0
theorem bor_zero (p q : Nat) : 0 = bor p q 0 := by simp [bor, Nat.mod_one]
theorem bor_le (p q i : Nat) : bor p q i ≤ 1 := by unfold bor; split <;> omega
theorem bor_succ (p q i : Nat) : (if dig p i < dig q i + bor p q i then 1 else 0) = bor p q (i + 1) := by
 have h1 := mod_succ p i
 have h2 := mod_succ q i
 have h3 := Nat.mod_lt p (pow_pos' i)
 have h4 := Nat.mod_lt q (pow_pos' i)
 unfold bor
 rw [h1, h2]
 generalize p % W ^ i = a at *
 generalize q % W ^ i = b at *
 generalize dig p i = x at *
 generalize dig q i = y at *
 generalize W ^ i = w at *
 rcases Nat.lt_trichotomy x y with h | h | h
 ·have : w * x + w ≤ w * y := by rw [← Nat.mul_succ]; exact Nat.mul_le_mul_left _ h
  rw [if_pos (by omega), if_pos (by omega)]
 ·subst h
  by_cases hab : a < b
  ·rw [if_pos hab, if_pos (by omega), if_pos (by omega)]
  ·rw [if_neg hab, if_neg (by omega), if_neg (by omega)]
 ·have : w * y + w ≤ w * x := by rw [← Nat.mul_succ]; exact Nat.mul_le_mul_left _ h
  rw [if_neg (by split <;> omega), if_neg (by omega)]
theorem sub_eq {p q : Nat} (h : q ≤ p) (i : Nat) : (p - q) / W ^ i + q / W ^ i + bor p q i = p / W ^ i := by
 have h1 := Nat.mod_add_div p (W ^ i)
 have h2 := Nat.mod_add_div q (W ^ i)
 have h3 := Nat.mod_lt p (pow_pos' i)
 have h4 := Nat.mod_lt q (pow_pos' i)
 have h5 := Nat.mod_add_div (p - q) (W ^ i)
 have h6 := Nat.mod_lt (p - q) (pow_pos' i)
 unfold bor
 generalize p % W ^ i = a at *
 generalize q % W ^ i = b at *
 generalize (p - q) % W ^ i = c at *
 generalize p / W ^ i = x at *
 generalize q / W ^ i = y at *
 generalize (p - q) / W ^ i = z at *
 have hw := pow_pos' i
 generalize W ^ i = w at *
 have e : c + w * z + (b + w * y) = a + w * x := by omega
 have e2 : c + b + w * (z + y) = a + w * x := by rw [Nat.mul_add]; omega
 split
 ·have hz : w * (z + y) < w * x := by
   apply Classical.byContradiction; intro hc
   have : c + b ≤ a := by omega
   omega
  have h7 : z + y < x := Nat.lt_of_mul_lt_mul_left hz
  have h8 : x ≤ z + y + 1 := by
   apply Classical.byContradiction; intro hc
   have : w * (z + y + 2) ≤ w * x := Nat.mul_le_mul_left _ (by omega)
   rw [Nat.mul_add] at this; omega
  omega
 ·have h7 : z + y < x + 1 := by
   apply Nat.lt_of_mul_lt_mul_left (a := w); rw [Nat.mul_add w x]; omega
  have h8 : x < z + y + 1 := by
   apply Classical.byContradiction; intro hc
   have : w * (z + y + 1) ≤ w * x := Nat.mul_le_mul_left _ (by omega)
   rw [Nat.mul_add w (z + y)] at this
   omega
  omega
theorem sub_dig {p q : Nat} (h : q ≤ p) (i : Nat) : (dig p i + W - dig q i - bor p q i) % W = dig (p - q) i := by
 have h1 := sub_eq h i
 have h2 := sub_eq h (i + 1)
 have h3 := div_succ p i
 have h4 := div_succ q i
 have h5 := div_succ (p - q) i
 have h6 := bor_succ p q i
 have h7 := dig_lt (p - q) i
 have h8 := dig_lt p i
 have h9 := dig_lt q i
 have := bor_le p q i
 generalize p / W ^ (i + 1) = a' at *
 generalize q / W ^ (i + 1) = b' at *
 generalize (p - q) / W ^ (i + 1) = s' at *
 generalize p / W ^ i = a at *
 generalize q / W ^ i = b at *
 generalize (p - q) / W ^ i = s at *
 generalize bor p q i = e at *
 generalize bor p q (i + 1) = e' at *
 unfold W at *
 split at h6 <;> omega
theorem fz_wpart {N i m d k : Nat} (hk : i + 1 = m) (hi : k = i) (hd : d = dig N i) : (((wpart N i m).set k d).drop 0).take m = wordsN m N := by
 subst hi
 rw [wpart_set (by omega) hd, hk, wpart_full, List.drop_zero]
 exact List.take_of_length_le (by rw [wordsN_len]; exact Nat.le_refl _)
theorem fz_wpart' {N i m : Nat} (hk : i = m) : ((wpart N i m).drop 0).take m = wordsN m N := by
 subst hk
 rw [wpart_full, List.drop_zero]
 exact List.take_of_length_le (by rw [wordsN_len]; exact Nat.le_refl _)
theorem cmpN_neg {m n : Nat} : cmpN m n < 0 ↔ m < n := by unfold cmpN; split <;> (try split) <;> omega
theorem sub_lt' {p q k : Nat} (h : p < W ^ k) : p - q < W ^ k := by omega
def mix (k N' N m : Nat) : List Nat := wordsN k N' ++ wordsN (m - k) (N / W ^ k)
theorem mix_len {k N' N m : Nat} (h : k ≤ m) : (mix k N' N m).length = m := by simp [mix, wordsN_len]; omega
theorem wordsN_getD : ∀ {k N j : Nat}, j < k → (wordsN k N).getD j 0 = dig N j
  | k + 1, N, 0, _ => by simp [wordsN, dig]
  | k + 1, N, j + 1, h => by
    rw [wordsN, List.getD_cons_succ, wordsN_getD (by omega), dig, dig, Nat.div_div_eq_div_mul, Nat.pow_succ, Nat.mul_comm W]
theorem mix_getD {k N' N m j : Nat} (h : k ≤ j) (hj : j < m) : (mix k N' N m).getD j 0 = dig N j := by
 unfold mix
 rw [List.getD_eq_getElem?_getD, List.getElem?_append_right (by rw [wordsN_len]; exact h), wordsN_len, ← List.getD_eq_getElem?_getD, wordsN_getD (by omega), dig, dig,
  Nat.div_div_eq_div_mul, ← Nat.pow_add]
 congr 3; omega
theorem mix_set {k N' N m d j : Nat} (h : k < m) (hj : j = k) (hd : d = dig N' k) : (mix k N' N m).set j d = mix (k + 1) N' N m := by
 subst hd hj
 unfold mix
 rw [List.set_append_right _ _ (by rw [wordsN_len]; exact Nat.le_refl _), wordsN_len, Nat.sub_self, wordsN_succ]
 have : m - j = (m - (j + 1)) + 1 := by omega
 rw [this, wordsN, List.set_cons_zero, Nat.div_div_eq_div_mul, ← Nat.pow_succ]
 simp
theorem wordsN_mod : ∀ {k N N' : Nat}, N % W ^ k = N' % W ^ k → wordsN k N = wordsN k N'
 | k, N, N', h => eq_wordsN (wordsN_ok _ _) (wordsN_len _ _) (by rw [val_wordsN, h])
theorem mix_wordsN {k N m : Nat} (h : k ≤ m) : mix k N N m = wordsN m N := by
 refine eq_wordsN ?_ (mix_len h) ?_
 ·exact ok_append (wordsN_ok _ _) (wordsN_ok _ _)
 ·unfold mix
  rw [val_append, val_wordsN, val_wordsN, wordsN_len]
  obtain ⟨j, rfl⟩ : ∃ j, m = k + j := ⟨m - k, by omega⟩
  rw [Nat.add_sub_cancel_left, Nat.pow_add, Nat.mod_mul]
theorem mix_start {k N' N m : Nat} (h : k ≤ m) (he : N' % W ^ k = N % W ^ k) : wordsN m N = mix k N' N m := by
 rw [← mix_wordsN h]; unfold mix; rw [wordsN_mod he]
theorem mix_end {k N' N m : Nat} (h : k ≤ m) (he : N / W ^ k = N' / W ^ k) : mix k N' N m = wordsN m N' := by
 rw [← mix_wordsN h]; unfold mix; rw [he]
def mcar (n A x i : Nat) : Nat := (n % W ^ i + A % W ^ i * x) / W ^ i
theorem mcar_zero (n A x : Nat) : 0 = mcar n A x 0 := by simp [mcar, Nat.mod_one]
theorem mcar_le (n A x i : Nat) : mcar n A x i ≤ x := by
 have h1 := Nat.mod_lt n (pow_pos' i)
 have h2 : A % W ^ i + 1 ≤ W ^ i := Nat.mod_lt A (pow_pos' i)
 have h3 := Nat.mul_le_mul_right x h2
 rw [Nat.succ_mul] at h3
 have : mcar n A x i < x + 1 := by unfold mcar; rw [Nat.div_lt_iff_lt_mul (pow_pos' i), Nat.add_mul, Nat.one_mul, Nat.mul_comm x]; omega
 omega
theorem mcar_lt (n A x : Nat) {i : Nat} (h : x < 18446744073709551616) : mcar n A x i < 18446744073709551616 := Nat.lt_of_le_of_lt (mcar_le n A x i) h
theorem mul_sum (n A x i : Nat) : (n + A * x) / W ^ i = n / W ^ i + A / W ^ i * x + mcar n A x i := by
 have h1 := Nat.mod_add_div n (W ^ i)
 have h2 := Nat.mod_add_div A (W ^ i)
 have e : n + A * x = (n % W ^ i + A % W ^ i * x) + W ^ i * (n / W ^ i + A / W ^ i * x) := by
  have : A * x = A % W ^ i * x + W ^ i * (A / W ^ i * x) := by
   rw [← Nat.mul_assoc, ← Nat.add_mul, h2]
  rw [Nat.mul_add, this]; omega
 rw [e, Nat.add_mul_div_left _ _ (pow_pos' i)]
 unfold mcar; omega
theorem mul_step_eq (n A x i : Nat) : dig n i + dig A i * x + mcar n A x i = dig (n + A * x) i + W * mcar n A x (i + 1) := by
 have h1 := mul_sum n A x i
 have h2 := mul_sum n A x (i + 1)
 have h3 := div_succ n i
 have h4 := div_succ A i
 have h5 := div_succ (n + A * x) i
 rw [h4, Nat.add_mul, Nat.mul_assoc] at h1
 generalize A / W ^ (i + 1) * x = a' at *
 generalize dig A i * x = e at *
 generalize (n + A * x) / W ^ (i + 1) = s' at *
 generalize (n + A * x) / W ^ i = s at *
 generalize n / W ^ (i + 1) = b' at *
 generalize n / W ^ i = b at *
 generalize dig (n + A * x) i = t at *
 generalize mcar n A x (i + 1) = u at *
 generalize mcar n A x i = v at *
 subst h2 h3
 rw [h1, Nat.mul_add, Nat.mul_add] at h5
 omega
theorem dig_add_pow (N n o i : Nat) (h : N / W ^ o = n) : dig N (o + i) = dig n i := by
 subst h; rw [dig, dig, Nat.div_div_eq_div_mul, ← Nat.pow_add]
theorem shifted (N o D : Nat) : (N + W ^ o * D) / W ^ o = N / W ^ o + D := Nat.add_mul_div_left _ _ (pow_pos' o)
theorem shifted_mod (N o D : Nat) : (N + W ^ o * D) % W ^ o = N % W ^ o := Nat.add_mul_mod_self_left _ _ _
theorem mul_top {n A x k : Nat} (hn : n < W ^ k) (hA : A < W ^ k) : (n + A * x) / W ^ k = mcar n A x k := by
 rw [mul_sum, Nat.div_eq_of_lt hn, Nat.div_eq_of_lt hA]; omega
theorem row_word {x y o c t u : Nat} (hx : x < W) (hy : y < W) (ho : o < W) (hc : c < W) (ht : t < W) (he : o + y * x + c = t + W * u) :
  ((x * y % 18446744073709551616 + o) % 18446744073709551616 + c) % 18446744073709551616 = t ∧
   x * y / 18446744073709551616 + (x * y % 18446744073709551616 + o) / 18446744073709551616 + ((x * y % 18446744073709551616 + o) % 18446744073709551616 + c) / 18446744073709551616 = u ∧ u < 18446744073709551616 := by
 have hxy : x * y ≤ 18446744073709551615 * 18446744073709551615 := Nat.mul_le_mul (by unfold W at hx; omega) (by unfold W at hy; omega)
 rw [Nat.mul_comm y x] at he
 generalize x * y = p at *
 unfold W at *
 omega
theorem mod_pow_succ_mul (A B i : Nat) : A * (B % W ^ (i + 1)) = A * (B % W ^ i) + W ^ i * (A * dig B i) := by
 rw [mod_succ, Nat.mul_add]; congr 1; rw [Nat.mul_left_comm]
theorem mul_lt_pow {A B i k : Nat} (hA : A < W ^ k) : A * (B % W ^ i) < W ^ (i + k) := by
 have hB := Nat.mod_lt B (pow_pos' i)
 rw [Nat.add_comm, Nat.pow_add]
 exact Nat.mul_lt_mul'' hA hB
theorem rowGet {N' N m o i : Nat} (h : o + i < m) : (mix (o + i) N' N m).getD (o + i) 0 = dig (N / W ^ o) i := by
 rw [mix_getD (Nat.le_refl _) h, dig_add_pow _ _ _ _ rfl]
theorem rowPut {N A x m o i d : Nat} (h : o + i < m) (hd : d = dig (N / W ^ o + A * x) i) : (mix (o + i) (N + W ^ o * (A * x)) N m).set (o + i) d = mix (o + (i + 1)) (N + W ^ o * (A * x)) N m :=
 mix_set h rfl (by rw [hd, dig_add_pow _ _ _ _ (shifted _ _ _)])
theorem div_pow_add (N o k : Nat) : N / W ^ (o + k) = N / W ^ o / W ^ k := by rw [Nat.pow_add, Nat.div_div_eq_div_mul]
theorem rowEnd {N A x m o i k : Nat} (hk : k = i) (hm : o + i + 1 ≤ m) (hn : N / W ^ o < W ^ i) (hA : A < W ^ i) (hx : x < W) :
  (mix (o + i) (N + W ^ o * (A * x)) N m).set (o + k) (mcar (N / W ^ o) A x i) = wordsN m (N + W ^ o * (A * x)) := by
 subst hk
 have h1 := mul_top (x := x) hn hA
 have h2 := mcar_le (N / W ^ o) A x k
 rw [rowPut (by omega) (by rw [dig, h1, Nat.mod_eq_of_lt (by omega)])]
 refine mix_end (by omega) ?_
 have e1 : N / W ^ (o + (k + 1)) = 0 := by rw [div_pow_add]; exact Nat.div_eq_of_lt (Nat.lt_of_lt_of_le hn (pow_le_pow' (Nat.le_succ k)))
 have e2 : (N + W ^ o * (A * x)) / W ^ (o + (k + 1)) = 0 := by
  rw [div_pow_add, shifted, Nat.pow_succ, ← Nat.div_div_eq_div_mul, h1]; exact Nat.div_eq_of_lt (by omega)
 rw [e1, e2]
theorem mulStart (A m : Nat) : List.replicate m 0 = wordsN m (A * (val [] % W ^ 0)) := by
 refine eq_wordsN (fun x hx => ?_) (by simp) ?_
 ·rw [List.mem_replicate] at hx; rw [hx.2]; decide
 ·rw [val_replicate]; simp [Nat.mod_one]
theorem mulStart' (A B m : Nat) : List.replicate m 0 = wordsN m (A * (B % W ^ 0)) := by
 rw [mulStart A m]; simp [Nat.mod_one]
theorem mulDiv {A B i k : Nat} (hA : A < W ^ k) : A * (B % W ^ i) / W ^ i < W ^ k := by
 rw [Nat.div_lt_iff_lt_mul (pow_pos' i), ← Nat.pow_add, Nat.add_comm]; exact mul_lt_pow hA
theorem mulEnd {A B m : Nat} (h : (List.length (words A)) + (List.length (words B)) + 1 = m) : words (val (wordsN m (A * (B % W ^ (List.length (words B)))))) = words (A * B) := by
 rw [Nat.mod_eq_of_lt (nw_lt B), words_val_wordsN]
 have h1 := nw_lt A
 have h2 := nw_lt B
 have h3 : A * B < W ^ (List.length (words A)) * W ^ (List.length (words B)) := Nat.mul_lt_mul'' h1 h2
 rw [← Nat.pow_add] at h3
 exact Nat.lt_of_lt_of_le h3 (pow_le_pow' (by omega))
end Go.Nt
namespace Go.Proofs.YthkdmhaafanjlaaGreat
open Go.En Go.RowKit
set_option maxRecDepth 10000
set_option maxHeartbeats 4000000
open Go.Nt
theorem nat_Add {xs ys : List Nat} (hx : (List.length (words (val xs))) < 4294967296) (hy : (List.length (words (val ys))) < 4294967296) : Ctr Tryz.prog 187 [isWords xs, isWords ys] (isWords (words (val xs + val ys))) := by
 refine Ctr.intro Tryz.func187 rfl (by kernel_rfl) Tryz.ntmps187 rfl fun w0 F0 => .cv (Cv.wk (.l [0, 1] rfl)) (.fact (Has.lenLt (Has.t (t := 0) rfl)) fun lt0 => .fact (Has.okW (Has.t (t := 0) rfl)) fun ok0 => .fact (Has.lenLt (Has.t (t := 1) rfl)) fun lt1 => .fact (Has.okW (Has.t (t := 1) rfl)) fun ok1 => .seq fun _ k1 => .region (st (.as (.cW (f := isU))) rfl (nl (.thn (k1 _ _ (.seq fun _ k2 => .region (st (.mv (.t rfl)) rfl (st (.call (nat_trim) (.cons (.t rfl) .nil)) rfl (st (.mv (.t rfl)) rfl (st (.call (nat_trim) (.cons (.t rfl) .nil)) rfl (st (.as (.t rfl)) rfl (st (.as (.t rfl)) rfl (nl (.thn (k2 _ _ (.cutF [4] (fun (z : { z : Nat × Nat // z.1 + z.2 = val xs + val ys ∧ (List.length (words z.2)) ≤ (List.length (words z.1)) ∧ (List.length (words z.1)) < 4294967296 }) => match z with | ⟨(p, q), hI⟩ => [(0, isWords (words p)), (1, isWords (words q))]) (fun M => fun (z : { z : Nat × Nat // z.1 + z.2 = val xs + val ys ∧ (List.length (words z.2)) ≤ (List.length (words z.1)) ∧ (List.length (words z.1)) < 4294967296 }) => match z with | ⟨(p, q), hI⟩ => M) (fun K3 hK3 => ?_) ?_))))))))))))))))
 ·skip
  refine .seq fun _ k4 => .region (st (.mv (.t rfl)) rfl (st (.len sl29 (.t rfl)) rfl (st (.mv (.t rfl)) rfl (st (.len sl29 (.t rfl)) rfl (st (.ltI (.t rfl) (.t rfl)) rfl (nl (.thn (k4 _ _ (.cv (Cv.wk (.l [0, 1, 4, 17] rfl)) (.cond (.t rfl) (fun hc1 => ?_) (fun hc1 => ?_)))))))))))
  ·have hc1 := BP.t hc1
   refine .region (st (.mv (.t rfl)) rfl (st (.mv (.t rfl)) rfl (st (.as (.t rfl)) rfl (st (.as (.t rfl)) rfl (nl (.thn ?_))))))
   refine hK3 (⟨(val ys, val xs), Nat.add_comm _ _, by simp only []; omega, hy⟩) _ _ (Cv.mem (.c 0 rfl ?_ (.c 1 rfl ?_ (.l [4] rfl))) ?_)
   ·rfl
   ·rfl
   ·rfl
  ·have hc1 := BP.f hc1
   refine .skip (.thn ?_)
   refine hK3 (⟨(val xs, val ys), rfl, by simp only []; omega, hx⟩) _ _ (Cv.mem (.c 0 rfl ?_ (.c 1 rfl ?_ (.l [4] rfl))) ?_)
   ·rfl
   ·rfl
   ·rfl
 rintro ⟨⟨p, q⟩, hI1, hI2, hI3⟩
 refine .cv (Cv.wk (.l [0, 1, 4] rfl)) ?_
 simp only [] at hI1 hI2 hI3
 refine .seq fun _ k5 => .region (st (.mv (.t rfl)) rfl (st (.len sl29 (.t rfl)) rfl (st (.addI (.t rfl) (.cI 1 rfl) (by first | omega | assumption | exact True.intro | exact dig_lt _ _ | exact car_le _ _ _ | exact bor_le _ _ _) (by first | omega | assumption | exact True.intro | exact dig_lt _ _ | exact car_le _ _ _ | exact bor_le _ _ _)) rfl (.make (f := isU) (u := 0) (n := (List.length (words p)) + 1) (c := (List.length (words p)) + 1) sl29 ty39 zero39 (fun _ _ => ⟨⟨rfl, by decide⟩, trivial⟩) by39 (Has.t' rfl rfl) (Has.t' rfl rfl) ⟨by omega, by omega⟩ rfl fun b1 => st (.as (.t rfl)) rfl (nl (.thn (k5 _ _ (.seq fun _ k6 => .region (st (.as (.cU 0 rfl)) rfl (nl (.thn (k6 _ _ (.seq fun _ k7 => .seq fun _ k8 => .region (st (.mv (.t rfl)) rfl (st (.len sl29 (.t rfl)) rfl (st (.mv (.cI 0 rfl)) rfl (nl (.thn (k8 _ _ (.cv (Cv.wk (.l [4, 0, 1, 5, 6, 25, 26] rfl)) (.block (.loopF [4, 0, 1, 5, 25] (fun (z : { i : Nat // i ≤ (List.length (words p)) }) => match z with | ⟨i, hI⟩ => [(26, isI (i : Int)), (6, isU (car p q i))]) (fun M => fun (z : { i : Nat // i ≤ (List.length (words p)) }) => match z with | ⟨i, hI⟩ => [(some b1, cellM (List.map isU (wpart (p + q) i ((List.length (words p)) + 1))))]) (fun (z : { i : Nat // i ≤ (List.length (words p)) }) => match z with | ⟨i, hI⟩ => (List.length (words p)) - i) (⟨0, Nat.zero_le _⟩) (Cv.mem (.c 26 rfl ?_ (.c 6 rfl ?_ (.l [4, 0, 1, 5, 25] rfl))) ?_) ?_))))))))))))))))))))))
 ·rfl
 ·exact isU_eq (car_zero _ _)
 ·exact memL_eq (wpart_zero _ _)
 rintro ⟨i, hI⟩ K9 hK9
 refine .cv (Cv.wk (.l [26, 6, 4, 0, 1, 5, 25] rfl)) (.memEq (M' := [(some b1, cellM (List.map isU (wpart (p + q) i ((List.length (words p)) + 1))))]) rfl ?_)
 have wl : (wpart (p + q) i ((List.length (words p)) + 1)).length = (List.length (words p)) + 1 := wpart_len (by omega)
 refine .seq fun _ k10 => .region (st (.ltI (.t rfl) (.t rfl)) rfl (nl (.thn (k10 _ _ (.seq fun _ k11 => .cond (.t rfl) (fun hc2 => ?_) (fun hc2 => ?_))))))
 ·have hc2 := BP.t hc2
  refine .skip (.thn (k11 _ _ (.seq fun _ k12 => .block (.seq fun _ k13 => .region (st (.mv (.t rfl)) rfl (st (.as (.t rfl)) rfl (nl (.thn (k13 _ _ (.seq fun _ k14 => .region (st (.as (.cU 0 rfl)) rfl (nl (.thn (k14 _ _ (.cutF [4, 0, 1, 5, 25, 26, 6, 27, 28, 7] (fun (_ : Unit) => [(8, isU (dig q i))]) (fun M => fun (_ : Unit) => M) (fun K15 hK15 => ?_) ?_)))))))))))))))
  ·skip
   refine .seq fun _ k16 => .region (st (.mv (.t rfl)) rfl (st (.mv (.t rfl)) rfl (st (.len sl29 (.t rfl)) rfl (st (.ltI (.t rfl) (.t rfl)) rfl (nl (.thn (k16 _ _ (.cond (.t rfl) (fun hc3 => ?_) (fun hc3 => ?_)))))))))
   ·have hc3 := BP.t hc3
    refine .region (st (.mv (.t rfl)) rfl (st (.mv (.t rfl)) rfl (st (.ixP sl29 ty39 (.t rfl) (.t rfl) ⟨by omega, by omega⟩ (getD_some (d := 0) (by first | omega | (simp only [Int.toNat_natCast, List.length_set]; omega)))) rfl ?_)))
    refine st (.loadP1 (.t rfl) ty39) rfl (st (.as (.t rfl)) rfl (nl (.thn (hK15 (()) _ _ (Cv.mem (.c 8 rfl ?_ (.l [4, 0, 1, 5, 25, 26, 6, 27, 28, 7] rfl)) ?_)))))
    ·first | exact isU_eq (getD_words _ _) | exact isU_eq (dig_zero (by omega)).symm
    ·rfl
   ·have hc3 := BP.f hc3
    refine .skip (.thn (hK15 (()) _ _ (Cv.mem (.c 8 rfl ?_ (.l [4, 0, 1, 5, 25, 26, 6, 27, 28, 7] rfl)) ?_)))
    ·first | exact isU_eq (getD_words _ _) | exact isU_eq (dig_zero (by omega)).symm
    ·rfl
  rintro _
  refine .cv (Cv.wk (.l [8, 4, 0, 1, 5, 25, 26, 6, 27, 28, 7] rfl)) (.region (st (.mv (.t rfl)) rfl (st (.mv (.t rfl)) rfl (st (.mv (.t rfl)) rfl (st (.mv (.t rfl)) rfl (st (.ixP sl29 ty39 (.t rfl) (.t rfl) ⟨by omega, by omega⟩ (getD_some (d := 0) (by first | omega | (simp only [Int.toNat_natCast, List.length_set]; omega)))) rfl ?_))))))
  refine st (.eq (.loadP1 (.t rfl) ty39) (isU_eq (getD_words _ i))) rfl (st (.mv (.t rfl)) rfl (st (.mv (.t rfl)) rfl (st (.add64 ext_add64 (.t rfl) (.t rfl) (.t rfl) (by first | omega | assumption | exact True.intro | exact dig_lt _ _ | exact car_le _ _ _ | exact bor_le _ _ _) ⟨(by first | omega | assumption | exact True.intro | exact dig_lt _ _ | exact car_le _ _ _ | exact bor_le _ _ _), (by first | omega | assumption | exact True.intro | exact dig_lt _ _ | exact car_le _ _ _ | exact bor_le _ _ _)⟩) rfl (st (.mv (.t rfl)) rfl (st (.ext (.t rfl) rfl) rfl (st (.ext (.t rfl) rfl) rfl (st (.eq (.ixWin sl29 ty39 (.t rfl) (.t rfl) ⟨by omega, by omega⟩) (isPtr_eq (by first | exact ixo0 | exact ixo2 | exact ixo1))) rfl (.storeM (.t rfl) (.t rfl) (i := 0) rfl ty39 (by first | omega | (simp only [Int.toNat_natCast, List.length_set, List.length_replicate]; omega)) (M' := [(_, _)]) rfl ?_))))))))
  refine st (.as (.t rfl)) rfl (nl (.bln (.thn (k12 _ _ (.region (st (.addI (.t rfl) (.cI 1 rfl) (by first | omega | assumption | exact True.intro | exact dig_lt _ _ | exact car_le _ _ _ | exact bor_le _ _ _) (by first | omega | assumption | exact True.intro | exact dig_lt _ _ | exact car_le _ _ _ | exact bor_le _ _ _)) rfl (st (.mv (.t rfl)) rfl (nl (.thn (hK9 (⟨i + 1, by omega⟩) _ _ ?_ (Cv.mem (.c 26 rfl ?_ (.c 6 rfl ?_ (.l [4, 0, 1, 5, 25] rfl))) ?_)))))))))))
  ·show (List.length (words p)) - (i + 1) < (List.length (words p)) - i; omega
  ·rfl
  ·exact isU_eq (add_car _ _ _)
  ·exact memL_eq (wpart_set (by omega) (add_dig _ _ _))
 ·have hc2 := BP.f hc2
  refine .exit (.the (.the (.blh (.thn (k7 _ _ (.seq fun _ k17 => .region (st (.mv (.t rfl)) rfl (st (.mv (.t rfl)) rfl (st (.len sl29 (.t rfl)) rfl (st (.mv (.t rfl)) rfl (st (.eq (.ixWin sl29 ty39 (.t rfl) (.t rfl) ⟨by omega, by omega⟩) (isPtr_eq (by first | exact ixo0 | exact ixo2 | exact ixo1))) rfl (.storeM (.t rfl) (.t rfl) (i := 0) rfl ty39 (by first | omega | (simp only [Int.toNat_natCast, List.length_set, List.length_replicate]; omega)) (M' := [(_, _)]) rfl ?_))))))))))))
  refine nl (.thn (k17 _ _ (.cv (Cv.wk (.l [4, 5] rfl)) (.seq fun _ k18 => .cv (Cv.freeze' (t := 5) (i := 0) (ys := wordsN ((List.length (words p)) + 1) (p + q)) rfl rfl rfl (by simp; omega) (fz_wpart (by omega) (by omega) (add_top (lt_pow_of (by omega)) (lt_pow_of (by omega))))) ?_))))
  refine .memEq (M' := []) rfl (.cv (Cv.wk (.l [4, 5] rfl)) (.region (st (.mv (.t rfl)) rfl (st (.call (nat_normal) (.cons (.t rfl) .nil)) rfl (st (.as (.t rfl)) rfl (nl (.thn (k18 _ _ (.ret (rt1 (.inl rfl) Tryz.results187 rfl (.tmp (Has.t' rfl ?_) .nil)))))))))))
  all_goals (exact SlM_eq (by rw [words_val_wordsN (add_lt (nw_lt p) (lt_pow_of hI2)), hI1]))
theorem nat_Sub {xs ys : List Nat} (hx : (List.length (words (val xs))) < 4294967296) : Ctr Tryz.prog 188 [isWords xs, isWords ys] (isTup [isWords (words (val xs - val ys)), isB (decide (val ys ≤ val xs))]) := by
 refine Ctr.intro Tryz.func188 rfl (by kernel_rfl) Tryz.ntmps188 rfl fun w0 F0 => .cv (Cv.wk (.l [0, 1] rfl)) (.fact (Has.lenLt (Has.t (t := 0) rfl)) fun lt0 => .fact (Has.okW (Has.t (t := 0) rfl)) fun ok0 => .fact (Has.lenLt (Has.t (t := 1) rfl)) fun lt1 => .fact (Has.okW (Has.t (t := 1) rfl)) fun ok1 => .seq fun _ k1 => .region (st (.as (.cW (f := isU))) rfl (st (.as (.cB false)) rfl (nl (.thn (k1 _ _ (.seq fun _ k2 => .seq fun _ k3 => .region (st (.mv (.t rfl)) rfl (st (.mv (.t rfl)) rfl (st (.call (nat_Cmp) (.cons (.t rfl) (.cons (.t rfl) .nil))) rfl (st (.ltI (.t rfl) (.cI 0 rfl)) rfl (nl (.thn (k3 _ _ (.cond (.t rfl) (fun hc1 => ?_) (fun hc1 => ?_))))))))))))))))
 ·have hc1 := BP.t hc1
  have hlt := cmpN_neg.1 hc1
  refine .seq fun _ k4 => .region (st (.as (.cW (f := isU))) rfl (st (.as (.cB false)) rfl (nl (.thn (k4 _ _ (.ret (.thr (rtN (.inl rfl) Tryz.results188 rfl rfl (.tmp (Has.t' rfl ?_) (.tmp (Has.t' rfl ?_) .nil))))))))))
  ·exact SlM_eq (by rw [Nat.sub_eq_zero_of_le (Nat.le_of_lt hlt), words_zero])
  ·exact isB_eq (by simp; omega)
 ·have hc1 := BP.f hc1
  have hle : val ys ≤ val xs := Nat.le_of_not_lt (fun h => by have := cmpN_neg.2 h; omega)
  have hnw := nw_mono hle
  refine .skip (.thn (k2 _ _ (.seq fun _ k5 => .region (st (.mv (.t rfl)) rfl (st (.call (nat_trim) (.cons (.t rfl) .nil)) rfl (st (.mv (.t rfl)) rfl (st (.call (nat_trim) (.cons (.t rfl) .nil)) rfl (st (.as (.t rfl)) rfl (st (.as (.t rfl)) rfl (nl (.thn (k5 _ _ (.cv (Cv.wk (.l [0, 1, 4, 5] rfl)) (.seq fun _ k6 => .region (st (.mv (.t rfl)) rfl (st (.len sl29 (.t rfl)) rfl (.make (f := isU) (u := 0) (n := (List.length (words (val xs)))) (c := (List.length (words (val xs)))) sl29 ty39 zero39 (fun _ _ => ⟨⟨rfl, by decide⟩, trivial⟩) by39 (Has.t' rfl rfl) (Has.t' rfl rfl) ⟨by omega, by omega⟩ rfl fun b1 => st (.as (.t rfl)) rfl (nl (.thn (k6 _ _ (.seq fun _ k7 => .region (st (.as (.cU 0 rfl)) rfl (nl (.thn (k7 _ _ (.seq fun _ k8 => .seq fun _ k9 => .region (st (.mv (.t rfl)) rfl (st (.len sl29 (.t rfl)) rfl (st (.mv (.cI 0 rfl)) rfl (nl (.thn (k9 _ _ (.block (.loopF [0, 1, 4, 5, 6, 22] (fun (z : { i : Nat // i ≤ (List.length (words (val xs))) }) => match z with | ⟨i, hI⟩ => [(23, isI (i : Int)), (7, isU (bor (val xs) (val ys) i))]) (fun M => fun (z : { i : Nat // i ≤ (List.length (words (val xs))) }) => match z with | ⟨i, hI⟩ => [(some b1, cellM (List.map isU (wpart (val xs - val ys) i ((List.length (words (val xs)))))))]) (fun (z : { i : Nat // i ≤ (List.length (words (val xs))) }) => match z with | ⟨i, hI⟩ => (List.length (words (val xs))) - i) (⟨0, Nat.zero_le _⟩) (Cv.mem (.c 23 rfl ?_ (.c 7 rfl ?_ (.l [0, 1, 4, 5, 6, 22] rfl))) ?_) ?_))))))))))))))))))))))))))))))))))
  ·rfl
  ·exact isU_eq (bor_zero _ _)
  ·exact memL_eq (wpart_zero _ _)
  rintro ⟨i, hI⟩ K10 hK10
  refine .cv (Cv.wk (.l [23, 7, 0, 1, 4, 5, 6, 22] rfl)) (.memEq (M' := [(some b1, cellM (List.map isU (wpart (val xs - val ys) i ((List.length (words (val xs)))))))]) rfl ?_)
  have wl : (wpart (val xs - val ys) i ((List.length (words (val xs))))).length = (List.length (words (val xs))) := wpart_len (by omega)
  refine .seq fun _ k11 => .region (st (.ltI (.t rfl) (.t rfl)) rfl (nl (.thn (k11 _ _ (.seq fun _ k12 => .cond (.t rfl) (fun hc2 => ?_) (fun hc2 => ?_))))))
  ·have hc2 := BP.t hc2
   refine .skip (.thn (k12 _ _ (.seq fun _ k13 => .block (.seq fun _ k14 => .region (st (.mv (.t rfl)) rfl (st (.as (.t rfl)) rfl (nl (.thn (k14 _ _ (.seq fun _ k15 => .region (st (.as (.cU 0 rfl)) rfl (nl (.thn (k15 _ _ (.cutF [0, 1, 4, 5, 6, 22, 23, 7, 24, 25, 8] (fun (_ : Unit) => [(9, isU (dig (val ys) i))]) (fun M => fun (_ : Unit) => M) (fun K16 hK16 => ?_) ?_)))))))))))))))
   ·skip
    refine .seq fun _ k17 => .region (st (.mv (.t rfl)) rfl (st (.mv (.t rfl)) rfl (st (.len sl29 (.t rfl)) rfl (st (.ltI (.t rfl) (.t rfl)) rfl (nl (.thn (k17 _ _ (.cond (.t rfl) (fun hc3 => ?_) (fun hc3 => ?_)))))))))
    ·have hc3 := BP.t hc3
     refine .region (st (.mv (.t rfl)) rfl (st (.mv (.t rfl)) rfl (st (.ixP sl29 ty39 (.t rfl) (.t rfl) ⟨by omega, by omega⟩ (getD_some (d := 0) (by first | omega | (simp only [Int.toNat_natCast, List.length_set]; omega)))) rfl ?_)))
     refine st (.loadP1 (.t rfl) ty39) rfl (st (.as (.t rfl)) rfl (nl (.thn (hK16 (()) _ _ (Cv.mem (.c 9 rfl ?_ (.l [0, 1, 4, 5, 6, 22, 23, 7, 24, 25, 8] rfl)) ?_)))))
     ·first | exact isU_eq (getD_words _ _) | exact isU_eq (dig_zero (by omega)).symm
     ·rfl
    ·have hc3 := BP.f hc3
     refine .skip (.thn (hK16 (()) _ _ (Cv.mem (.c 9 rfl ?_ (.l [0, 1, 4, 5, 6, 22, 23, 7, 24, 25, 8] rfl)) ?_)))
     ·first | exact isU_eq (getD_words _ _) | exact isU_eq (dig_zero (by omega)).symm
     ·rfl
   rintro _
   refine .cv (Cv.wk (.l [9, 0, 1, 4, 5, 6, 22, 23, 7, 24, 25, 8] rfl)) (.region (st (.mv (.t rfl)) rfl (st (.mv (.t rfl)) rfl (st (.mv (.t rfl)) rfl (st (.mv (.t rfl)) rfl (st (.ixP sl29 ty39 (.t rfl) (.t rfl) ⟨by omega, by omega⟩ (getD_some (d := 0) (by first | omega | (simp only [Int.toNat_natCast, List.length_set]; omega)))) rfl ?_))))))
   refine st (.eq (.loadP1 (.t rfl) ty39) (isU_eq (getD_words _ i))) rfl (st (.mv (.t rfl)) rfl (st (.mv (.t rfl)) rfl (st (.sub64 ext_sub64 (.t rfl) (.t rfl) (.t rfl) (by first | omega | assumption | exact True.intro | exact dig_lt _ _ | exact car_le _ _ _ | exact bor_le _ _ _) ⟨(by first | omega | assumption | exact True.intro | exact dig_lt _ _ | exact car_le _ _ _ | exact bor_le _ _ _), (by first | omega | assumption | exact True.intro | exact dig_lt _ _ | exact car_le _ _ _ | exact bor_le _ _ _)⟩) rfl (st (.mv (.t rfl)) rfl (st (.ext (.t rfl) rfl) rfl (st (.ext (.t rfl) rfl) rfl (st (.eq (.ixWin sl29 ty39 (.t rfl) (.t rfl) ⟨by omega, by omega⟩) (isPtr_eq (by first | exact ixo0 | exact ixo2 | exact ixo1))) rfl (.storeM (.t rfl) (.t rfl) (i := 0) rfl ty39 (by first | omega | (simp only [Int.toNat_natCast, List.length_set, List.length_replicate]; omega)) (M' := [(_, _)]) rfl ?_))))))))
   refine st (.as (.t rfl)) rfl (nl (.bln (.thn (k13 _ _ (.region (st (.addI (.t rfl) (.cI 1 rfl) (by first | omega | assumption | exact True.intro | exact dig_lt _ _ | exact car_le _ _ _ | exact bor_le _ _ _) (by first | omega | assumption | exact True.intro | exact dig_lt _ _ | exact car_le _ _ _ | exact bor_le _ _ _)) rfl (st (.mv (.t rfl)) rfl (nl (.thn (hK10 (⟨i + 1, by omega⟩) _ _ ?_ (Cv.mem (.c 23 rfl ?_ (.c 7 rfl ?_ (.l [0, 1, 4, 5, 6, 22] rfl))) ?_)))))))))))
   ·show (List.length (words (val xs))) - (i + 1) < (List.length (words (val xs))) - i; omega
   ·rfl
   ·exact isU_eq (bor_succ _ _ _)
   ·exact memL_eq (wpart_set (by omega) (sub_dig hle _))
  ·have hc2 := BP.f hc2
   refine .exit (.the (.the (.blh (.thn (k8 _ _ (.cv (Cv.wk (.l [4, 5, 6] rfl)) (.seq fun _ k18 => .cv (Cv.freeze' (t := 6) (i := 0) (ys := wordsN ((List.length (words (val xs)))) (val xs - val ys)) rfl rfl rfl (by simp; omega) (fz_wpart' (by omega))) ?_)))))))
   refine .memEq (M' := []) rfl (.cv (Cv.wk (.l [4, 5, 6] rfl)) (.region (st (.mv (.t rfl)) rfl (st (.call (nat_normal) (.cons (.t rfl) .nil)) rfl (st (.as (.t rfl)) rfl (st (.as (.cB true)) rfl (nl (.thn (k18 _ _ (.ret (rtN (.inl rfl) Tryz.results188 rfl rfl (.tmp (Has.t' rfl ?_) (.tmp (Has.t' rfl ?_) .nil)))))))))))))
   ·exact SlM_eq (by rw [words_val_wordsN (sub_lt' (nw_lt _))])
   ·exact isB_eq (by simp; omega)
set_option maxHeartbeats 2000000 in
theorem nat_row {N A x o n c m : Nat} (h1 : (List.length (words A)) + 1 ≤ n) (h2 : o + n ≤ m) (h3 : N / W ^ o < W ^ (List.length (words A))) : CtrM Tryz.prog 273 (fun b0 => [isWin b0 o n c, isWords (words A), isU x]) (cellM (List.map isU (wordsN m N))) (cellM (List.map isU (wordsN m (N + W ^ o * (A * x))))) (fun b0 => isTup []) := by
 refine CtrM.intro Tryz.func273 rfl (by kernel_rfl) Tryz.ntmps273 (fun _ => rfl) fun w0 F0 b0 => .cv (Cv.wk (.l [0, 1, 2] rfl)) (.fact (Has.lenLt (Has.t (t := 0) rfl)) fun lt0 => .fact (Has.winLe (Has.t (t := 0) rfl)) fun lw0 => .fact (Has.lenLt (Has.t (t := 1) rfl)) fun lt1 => .fact (Has.okW (Has.t (t := 1) rfl)) fun ok1 => .fact (Has.ltU (Has.t (t := 2) rfl)) fun lt2 => .seq fun _ k1 => .region (st (.as (.cU 0 rfl)) rfl (nl (.thn (k1 _ _ (.seq fun _ k2 => .seq fun _ k3 => .region (st (.mv (.t rfl)) rfl (st (.len sl29 (.t rfl)) rfl (st (.mv (.cI 0 rfl)) rfl (nl (.thn (k3 _ _ (.block (.loopF [0, 1, 2, 12, 13] (fun (z : { i : Nat // i ≤ (List.length (words A)) }) => match z with | ⟨i, hI⟩ => [(14, isI (i : Int)), (6, isU (mcar (N / W ^ o) A x i))]) (fun M => fun (z : { i : Nat // i ≤ (List.length (words A)) }) => match z with | ⟨i, hI⟩ => [(some b0, cellM (List.map isU (mix (o + i) (N + W ^ o * (A * x)) N m)))]) (fun (z : { i : Nat // i ≤ (List.length (words A)) }) => match z with | ⟨i, hI⟩ => (List.length (words A)) - i) (⟨0, Nat.zero_le _⟩) (Cv.mem (.c 14 rfl ?_ (.c 6 rfl ?_ (.l [0, 1, 2, 12, 13] rfl))) ?_) ?_))))))))))))))
 ·rfl
 ·exact isU_eq (mcar_zero _ _ _)
 ·exact memL_eq (mix_start (by omega) (shifted_mod _ _ _))
 rintro ⟨i, hI⟩ K4 hK4
 refine .cv (Cv.wk (.l [14, 6, 0, 1, 2, 12, 13] rfl)) (.memEq (M' := [(some b0, cellM (List.map isU (mix (o + i) (N + W ^ o * (A * x)) N m)))]) rfl ?_)
 have wl : (mix (o + i) (N + W ^ o * (A * x)) N m).length = m := mix_len (by omega)
 have hrow := row_word lt2 (dig_lt A i) (dig_lt (N / W ^ o) i) (Nat.lt_of_le_of_lt (mcar_le (N / W ^ o) A x i) lt2) (dig_lt _ _) (mul_step_eq (N / W ^ o) A x i)
 have hcl := Nat.lt_of_le_of_lt (mcar_le (N / W ^ o) A x i) lt2
 refine .seq fun _ k5 => .region (st (.ltI (.t rfl) (.t rfl)) rfl (nl (.thn (k5 _ _ (.seq fun _ k6 => .cond (.t rfl) (fun hc1 => ?_) (fun hc1 => ?_))))))
 ·have hc1 := BP.t hc1
  refine .skip (.thn (k6 _ _ (.seq fun _ k7 => .block (.seq fun _ k8 => .region (st (.mv (.t rfl)) rfl (st (.ixP sl29 ty39 (.t rfl) (.t rfl) ⟨by omega, by omega⟩ (getD_some (d := 0) (by first | omega | (simp only [Int.toNat_natCast, List.length_set]; omega)))) rfl ?_))))))
  refine st (.eq (.loadP1 (.t rfl) ty39) (isU_eq (getD_words _ i))) rfl (st (.as (.t rfl)) rfl (st (.as (.t rfl)) rfl (nl (.thn (k8 _ _ (.seq fun _ k9 => .region (st (.mv (.t rfl)) rfl (st (.mv (.t rfl)) rfl (st (.call (bits_Mul64) (.cons (.t rfl) (.cons (.t rfl) .nil))) rfl (st (.mv (.t rfl)) rfl (st (.ext (.t rfl) rfl) rfl (st (.ext (.t rfl) rfl) rfl (st (.as (.t rfl)) rfl (st (.as (.t rfl)) rfl (nl (.thn (k9 _ _ (.seq fun _ k10 => .region (st (.as (.cU 0 rfl)) rfl (nl (.thn (k10 _ _ (.seq fun _ k11 => .region (st (.mv (.t rfl)) rfl (st (.mv (.t rfl)) rfl (st (.mv (.t rfl)) rfl (st (.eq (.ixWin sl29 ty39 (.t rfl) (.t rfl) ⟨by omega, by omega⟩) (isPtr_eq (by first | exact ixo0 | exact ixo2 | exact ixo1))) rfl (st (.eq (.load1 (.t rfl) (i := 0) rfl ty39 (map_some (getD_some (d := 0) (by first | omega | (simp only [Int.toNat_natCast, List.length_set]; omega))))) (isU_eq (rowGet (by omega)))) rfl ?_))))))))))))))))))))))))))))
  refine st (.add64 ext_add64 (.t rfl) (.t rfl) (.cU 0 rfl) (by first | omega | assumption | exact True.intro | exact dig_lt _ _ | exact mcar_lt _ _ _ lt2) ⟨(by first | omega | assumption | exact True.intro | exact dig_lt _ _ | exact mcar_lt _ _ _ lt2), (by first | omega | assumption | exact True.intro | exact dig_lt _ _ | exact mcar_lt _ _ _ lt2)⟩) rfl (st (.mv (.t rfl)) rfl (st (.ext (.t rfl) rfl) rfl (st (.ext (.t rfl) rfl) rfl (st (.as (.t rfl)) rfl (st (.as (.t rfl)) rfl (nl (.thn (k11 _ _ (.seq fun _ k12 => .region (st (.mv (.t rfl)) rfl (st (.mv (.t rfl)) rfl (st (.addU' (.t rfl) (.t rfl) (by first | omega | assumption | exact True.intro | exact dig_lt _ _ | exact mcar_lt _ _ _ lt2)) rfl (st (.as (.t rfl)) rfl (nl (.thn (k12 _ _ (.seq fun _ k13 => .region (st (.mv (.t rfl)) rfl (st (.mv (.t rfl)) rfl (st (.add64 ext_add64 (.t rfl) (.t rfl) (.cU 0 rfl) (by first | omega | assumption | exact True.intro | exact dig_lt _ _ | exact mcar_lt _ _ _ lt2) ⟨(by first | omega | assumption | exact True.intro | exact dig_lt _ _ | exact mcar_lt _ _ _ lt2), (by first | omega | assumption | exact True.intro | exact dig_lt _ _ | exact mcar_lt _ _ _ lt2)⟩) rfl (st (.mv (.t rfl)) rfl (st (.ext (.t rfl) rfl) rfl (st (.ext (.t rfl) rfl) rfl (st (.as (.t rfl)) rfl (st (.as (.t rfl)) rfl (nl (.thn (k13 _ _ (.region (st (.mv (.t rfl)) rfl (st (.mv (.t rfl)) rfl (st (.mv (.t rfl)) rfl (st (.mv (.t rfl)) rfl (st (.mv (.t rfl)) rfl (st (.addU' (.t rfl) (.t rfl) (by first | omega | assumption | exact True.intro | exact dig_lt _ _ | exact mcar_lt _ _ _ lt2)) rfl (st (.eq (.ixWin sl29 ty39 (.t rfl) (.t rfl) ⟨by omega, by omega⟩) (isPtr_eq (by first | exact ixo0 | exact ixo2 | exact ixo1))) rfl (.storeM (.t rfl) (.t rfl) (i := 0) rfl ty39 (by first | omega | (simp only [Int.toNat_natCast, List.length_set, List.length_replicate]; omega)) (M' := [(_, _)]) rfl ?_)))))))))))))))))))))))))))))))))))))
  refine st (.as (.t rfl)) rfl (nl (.bln (.thn (k7 _ _ (.region (st (.addI (.t rfl) (.cI 1 rfl) (by first | omega | assumption | exact True.intro | exact dig_lt _ _ | exact mcar_lt _ _ _ lt2) (by first | omega | assumption | exact True.intro | exact dig_lt _ _ | exact mcar_lt _ _ _ lt2)) rfl (st (.mv (.t rfl)) rfl (nl (.thn (hK4 (⟨i + 1, by omega⟩) _ _ ?_ (Cv.mem (.c 14 rfl ?_ (.c 6 rfl ?_ (.l [0, 1, 2, 12, 13] rfl))) ?_)))))))))))
  ·show (List.length (words A)) - (i + 1) < (List.length (words A)) - i; omega
  ·rfl
  ·exact isU_eq hrow.2.1
  ·exact memL_eq (rowPut (by omega) hrow.1)
 ·have hc1 := BP.f hc1
  refine .exit (.the (.the (.blh (.thn (k2 _ _ (.cv (Cv.wk (.l [0, 1, 6] rfl)) (.region (st (.mv (.t rfl)) rfl (st (.mv (.t rfl)) rfl (st (.len sl29 (.t rfl)) rfl (st (.mv (.t rfl)) rfl (st (.eq (.ixWin sl29 ty39 (.t rfl) (.t rfl) ⟨by omega, by omega⟩) (isPtr_eq (by first | exact ixo0 | exact ixo2 | exact ixo1))) rfl (.storeM (.t rfl) (.t rfl) (i := 0) rfl ty39 (by first | omega | (simp only [Int.toNat_natCast, List.length_set, List.length_replicate]; omega)) (M' := [(_, _)]) rfl ?_)))))))))))))
  refine nl (rtM0 (.inr rfl) Tryz.results273 rfl (i := 0) ?_)
  all_goals (obtain rfl : i = (List.length (words A)) := (by omega); exact memU_eq (rowEnd rfl (by omega) h3 (nw_lt A) lt2))
theorem nat_Mul {xs ys : List Nat} (hx : (List.length (words (val xs))) + (List.length (words (val ys))) < 4294967296) : Ctr Tryz.prog 243 [isWords xs, isWords ys] (isWords (words (val xs * val ys))) := by
 refine Ctr.intro Tryz.func243 rfl (by kernel_rfl) Tryz.ntmps243 rfl fun w0 F0 => .cv (Cv.wk (.l [0, 1] rfl)) (.fact (Has.lenLt (Has.t (t := 0) rfl)) fun lt0 => .fact (Has.okW (Has.t (t := 0) rfl)) fun ok0 => .fact (Has.lenLt (Has.t (t := 1) rfl)) fun lt1 => .fact (Has.okW (Has.t (t := 1) rfl)) fun ok1 => .seq fun _ k1 => .region (st (.as (.cW (f := isU))) rfl (nl (.thn (k1 _ _ (.seq fun _ k2 => .region (st (.mv (.t rfl)) rfl (st (.call (nat_trim) (.cons (.t rfl) .nil)) rfl (st (.mv (.t rfl)) rfl (st (.call (nat_trim) (.cons (.t rfl) .nil)) rfl (st (.as (.t rfl)) rfl (st (.as (.t rfl)) rfl (nl (.thn (k2 _ _ (.seq fun _ k3 => .region (st (.mv (.t rfl)) rfl (st (.len sl29 (.t rfl)) rfl (st (.mv (.t rfl)) rfl (st (.len sl29 (.t rfl)) rfl (st (.addI (.t rfl) (.t rfl) (by first | omega | assumption | exact True.intro | exact dig_lt _ _ | exact car_le _ _ _ | exact bor_le _ _ _) (by first | omega | assumption | exact True.intro | exact dig_lt _ _ | exact car_le _ _ _ | exact bor_le _ _ _)) rfl (st (.addI (.t rfl) (.cI 1 rfl) (by first | omega | assumption | exact True.intro | exact dig_lt _ _ | exact car_le _ _ _ | exact bor_le _ _ _) (by first | omega | assumption | exact True.intro | exact dig_lt _ _ | exact car_le _ _ _ | exact bor_le _ _ _)) rfl (.make (f := isU) (u := 0) (n := (List.length (words (val xs))) + (List.length (words (val ys))) + 1) (c := (List.length (words (val xs))) + (List.length (words (val ys))) + 1) sl29 ty39 zero39 (fun _ _ => ⟨⟨rfl, by decide⟩, trivial⟩) by39 (Has.t' rfl rfl) (Has.t' rfl rfl) ⟨by omega, by omega⟩ rfl fun b1 => st (.as (.t rfl)) rfl (nl (.thn (k3 _ _ (.cv (Cv.wk (.l [0, 1, 4, 5] rfl)) (.seq fun _ k4 => .seq fun _ k5 => .region (st (.mv (.t rfl)) rfl (st (.len sl29 (.t rfl)) rfl (st (.mv (.cI 0 rfl)) rfl ?_)))))))))))))))))))))))))))))))
 refine nl (.thn (k5 _ _ (.block (.loopF [0, 4, 5, 19, 20] (fun (z : { i : Nat // i ≤ (List.length (words (val ys))) }) => match z with | ⟨i, hI⟩ => [(21, isI (i : Int))]) (fun M => fun (z : { i : Nat // i ≤ (List.length (words (val ys))) }) => match z with | ⟨i, hI⟩ => [(some b1, cellM (List.map isU (wordsN ((List.length (words (val xs))) + (List.length (words (val ys))) + 1) (val xs * (val ys % W ^ i)))))]) (fun (z : { i : Nat // i ≤ (List.length (words (val ys))) }) => match z with | ⟨i, hI⟩ => (List.length (words (val ys))) - i) (⟨0, Nat.zero_le _⟩) (Cv.mem (.c 21 rfl ?_ (.l [0, 4, 5, 19, 20] rfl)) ?_) ?_))))
 ·rfl
 ·exact memL_eq (mulStart' _ _ _)
 rintro ⟨i, hI⟩ K6 hK6
 refine .cv (Cv.wk (.l [21, 0, 4, 5, 19, 20] rfl)) (.memEq (M' := [(some b1, cellM (List.map isU (wordsN ((List.length (words (val xs))) + (List.length (words (val ys))) + 1) (val xs * (val ys % W ^ i)))))]) rfl ?_)
 have wl : (wordsN ((List.length (words (val xs))) + (List.length (words (val ys))) + 1) (val xs * (val ys % W ^ i))).length = (List.length (words (val xs))) + (List.length (words (val ys))) + 1 := wordsN_len _ _
 refine .seq fun _ k7 => .region (st (.ltI (.t rfl) (.t rfl)) rfl (nl (.thn (k7 _ _ (.seq fun _ k8 => .cond (.t rfl) (fun hc1 => ?_) (fun hc1 => ?_))))))
 ·have hc1 := BP.t hc1
  refine .skip (.thn (k8 _ _ (.seq fun _ k9 => .block (.seq fun _ k10 => .region (st (.mv (.t rfl)) rfl (st (.ixP sl29 ty39 (.t rfl) (.t rfl) ⟨by omega, by omega⟩ (getD_some (d := 0) (by first | omega | (simp only [Int.toNat_natCast, List.length_set]; omega)))) rfl ?_))))))
  refine st (.eq (.loadP1 (.t rfl) ty39) (isU_eq (getD_words _ i))) rfl (st (.as (.t rfl)) rfl (st (.as (.t rfl)) rfl (nl (.thn (k10 _ _ (.region (st (.mv (.t rfl)) rfl (st (.mv (.t rfl)) rfl (st (.eq (.slLWin sl29 ty39 (.t rfl) (.t rfl) ⟨by omega, by omega, by omega⟩) (isWin_eq (by first | exact ixo0 | exact ixo1) rfl rfl)) rfl (st (.mv (.t rfl)) rfl (st (.mv (.t rfl)) rfl (.callM (nat_row (m := (List.length (words (val xs))) + (List.length (words (val ys))) + 1) (N := val xs * (val ys % W ^ i)) (by simp only [Int.toNat_natCast]; omega) (by simp only [Int.toNat_natCast]; omega) (mulDiv (nw_lt _))) (i := 0) rfl (.cons (.t rfl) (.cons (.t rfl) (.cons (.t rfl) .nil))) rfl (M' := [(_, _)]) rfl ?_))))))))))))
  refine nl (.bln (.thn (k9 _ _ (.region (st (.addI (.t rfl) (.cI 1 rfl) (by first | omega | assumption | exact True.intro | exact dig_lt _ _ | exact car_le _ _ _ | exact bor_le _ _ _) (by first | omega | assumption | exact True.intro | exact dig_lt _ _ | exact car_le _ _ _ | exact bor_le _ _ _)) rfl (st (.mv (.t rfl)) rfl (nl (.thn (hK6 (⟨i + 1, by omega⟩) _ _ ?_ (Cv.mem (.c 21 rfl ?_ (.l [0, 4, 5, 19, 20] rfl)) ?_))))))))))
  ·show (List.length (words (val ys))) - (i + 1) < (List.length (words (val ys))) - i; omega
  ·rfl
  ·exact memL_eq (by rw [mod_pow_succ_mul])
 ·have hc1 := BP.f hc1
  refine .exit (.the (.the (.blh (.thn (k4 _ _ (.cv (Cv.wk (.l [4, 5] rfl)) (.seq fun _ k11 => .cv (Cv.freeze' (t := 5) (i := 0) (ys := wordsN ((List.length (words (val xs))) + (List.length (words (val ys))) + 1) (val xs * (val ys % W ^ i))) rfl rfl rfl (by simp; omega) (freeze_all (wordsN_len _ _).symm)) ?_)))))))
  refine .memEq (M' := []) rfl (.cv (Cv.wk (.l [4, 5] rfl)) (.region (st (.mv (.t rfl)) rfl (st (.call (nat_normal) (.cons (.t rfl) .nil)) rfl (st (.as (.t rfl)) rfl (nl (.thn (k11 _ _ (.ret (rt1 (.inl rfl) Tryz.results243 rfl (.tmp (Has.t' rfl ?_) .nil)))))))))))
  all_goals (obtain rfl : i = (List.length (words (val ys))) := (by omega); exact SlM_eq (mulEnd rfl))
end Go.Proofs.YthkdmhaafanjlaaGreat
namespace Go.Nt
theorem or_add {a b r : Nat} (h : a < 2 ^ r) : a ||| 2 ^ r * b = a + 2 ^ r * b := by
 rw [Nat.or_comm, ← Nat.two_pow_add_eq_or_of_lt h, Nat.add_comm]
theorem add_or {a b r : Nat} (h : b < 2 ^ r) : b ||| a * 2 ^ r = b + a * 2 ^ r := by rw [Nat.mul_comm a]; exact or_add h
theorem two64 {r : Nat} (h : r ≤ 64) : 2 ^ (64 - r) * 2 ^ r = W := by
 rw [← Nat.pow_add, Nat.sub_add_cancel h]
theorem pow_split (k : Nat) : 2 ^ k = W ^ (k / 64) * 2 ^ (k % 64) := by
 have : W = 2 ^ 64 := rfl
 rw [this, ← Nat.pow_mul, ← Nat.pow_add]; congr 1; omega
theorem mul_mod_W {d r : Nat} (h : r ≤ 64) : d * 2 ^ r % W = d % 2 ^ (64 - r) * 2 ^ r := by
 rw [← two64 h, Nat.mul_mod_mul_right]
theorem mod_mul_lt {d r : Nat} (h : r ≤ 64) : d % 2 ^ (64 - r) * 2 ^ r + 2 ^ r ≤ W := by
 have : d % 2 ^ (64 - r) + 1 ≤ 2 ^ (64 - r) := Nat.mod_lt _ (Nat.pow_pos (by decide))
 rw [← two64 h, ← Nat.succ_mul]; exact Nat.mul_le_mul_right _ this
theorem shl_word {n d r : Nat} (hr : r ≤ 64) (hn : n < 2 ^ r) : n ||| d * 2 ^ r % W = (n + d * 2 ^ r) % W ∧ (n + d * 2 ^ r) / W = d / 2 ^ (64 - r) := by
 have h1 := mul_mod_W (d := d) hr
 have h2 := mod_mul_lt (d := d) hr
 have h3 : d * 2 ^ r / W = d / 2 ^ (64 - r) := by rw [← two64 hr, Nat.mul_div_mul_right _ _ (Nat.pow_pos (by decide))]
 rw [h1, add_or hn]
 rw [← h1] at h2 ⊢
 generalize d * 2 ^ r = D at *
 generalize 2 ^ r = p at *
 rw [← h3]
 clear h1 h3
 unfold W at *
 constructor <;> omega
theorem shl_next (A k i : Nat) : A % W ^ (i + 1) * 2 ^ k = A % W ^ i * 2 ^ k + W ^ (k / 64 + i) * (dig A i * 2 ^ (k % 64)) := by
 rw [mod_succ, Nat.add_mul]
 congr 1
 rw [pow_split k, Nat.pow_add]
 generalize 2 ^ (k % 64) = r
 generalize W ^ (k / 64) = w
 grind
theorem shl_low (A k i : Nat) : A % W ^ i * 2 ^ k / W ^ (k / 64 + i) < 2 ^ (k % 64) := by
 have h := Nat.mod_lt A (pow_pos' i)
 rw [Nat.div_lt_iff_lt_mul (pow_pos' _), pow_split k, Nat.pow_add]
 have hw := pow_pos' (k / 64)
 have hr : 0 < 2 ^ (k % 64) := Nat.pow_pos (by decide)
 generalize 2 ^ (k % 64) = r at *
 generalize W ^ (k / 64) = w at *
 have : A % W ^ i * (w * r) < W ^ i * (w * r) := Nat.mul_lt_mul_of_pos_right h (Nat.mul_pos hw hr)
 have e : r * (w * W ^ i) = W ^ i * (w * r) := by grind
 rw [e]; exact this
theorem shl_low_W {A k i : Nat} : A % W ^ i * 2 ^ k / W ^ (k / 64 + i) < W :=
 Nat.lt_of_lt_of_le (shl_low A k i) (by have := Nat.pow_le_pow_right (n := 2) (by decide) (by omega : k % 64 ≤ 64); simpa [W] using this)
theorem shl_get {A k i m : Nat} (h : k / 64 + i < m) : (wordsN m (A % W ^ i * 2 ^ k)).getD (k / 64 + i) 0 = A % W ^ i * 2 ^ k / W ^ (k / 64 + i) := by
 rw [wordsN_getD h, dig, Nat.mod_eq_of_lt shl_low_W]
theorem div_succ' (N k : Nat) : N / W ^ (k + 1) = N / W ^ k / W := by rw [Nat.pow_succ, Nat.div_div_eq_div_mul]
theorem dig_def (n i : Nat) : dig n i = n / W ^ i % W := rfl
theorem shl_hi {A k i : Nat} : (A % W ^ (i + 1) * 2 ^ k) / W ^ (k / 64 + i + 1) = dig A i / 2 ^ (64 - k % 64) := by
 rw [div_succ', shl_next, shifted, (shl_word (by omega) (shl_low A k i)).2]
theorem shl_set1 {A k i m v : Nat} (h : k / 64 + i < m) (hv : v = A % W ^ i * 2 ^ k / W ^ (k / 64 + i) ||| dig A i * 2 ^ (k % 64) % W) :
  (wordsN m (A % W ^ i * 2 ^ k)).set (k / 64 + i) v = mix (k / 64 + i + 1) (A % W ^ (i + 1) * 2 ^ k) (A % W ^ i * 2 ^ k) m := by
 rw [mix_start (Nat.le_of_lt h) (N' := A % W ^ (i + 1) * 2 ^ k) (by rw [shl_next, shifted_mod]), mix_set h rfl]
 rw [hv, (shl_word (by omega) (shl_low A k i)).1, dig_def (A % W ^ (i + 1) * 2 ^ k), shl_next, shifted]
theorem shl_end0 {A k i m : Nat} (h : k / 64 + i < m) (hk : k % 64 = 0) : mix (k / 64 + i + 1) (A % W ^ (i + 1) * 2 ^ k) (A % W ^ i * 2 ^ k) m = wordsN m (A % W ^ (i + 1) * 2 ^ k) := by
 refine mix_end h ?_
 rw [shl_hi, div_succ', Nat.div_eq_of_lt shl_low_W, hk, Nat.div_eq_of_lt]
 have := dig_lt A i
 simpa [W] using this
theorem shl_set2 {A k i m v j : Nat} (h : k / 64 + i + 1 < m) (hj : j = k / 64 + i + 1) (hk : 0 < k % 64) (hv : v = dig A i / 2 ^ (64 - k % 64)) :
  (mix (k / 64 + i + 1) (A % W ^ (i + 1) * 2 ^ k) (A % W ^ i * 2 ^ k) m).set j v = wordsN m (A % W ^ (i + 1) * 2 ^ k) := by
 have h1 : dig A i / 2 ^ (64 - k % 64) < W := Nat.lt_of_le_of_lt (Nat.div_le_self _ _) (dig_lt A i)
 rw [mix_set h hj (by rw [hv, dig_def (A % W ^ (i + 1) * 2 ^ k), shl_hi, Nat.mod_eq_of_lt h1])]
 refine mix_end h ?_
 rw [div_succ' _ (k / 64 + i + 1), div_succ' _ (k / 64 + i + 1), shl_hi, Nat.div_eq_of_lt h1, div_succ', Nat.div_eq_of_lt shl_low_W, Nat.zero_div]
theorem shlStart (A k m : Nat) : List.replicate m 0 = wordsN m (A % W ^ 0 * 2 ^ k) := by
 rw [Nat.pow_zero, Nat.mod_one, Nat.zero_mul]
 exact eq_wordsN (fun x hx => by rw [List.mem_replicate] at hx; rw [hx.2]; decide) (by simp) (by rw [val_replicate]; simp)
theorem pow2_le (k : Nat) : 2 ^ k ≤ W ^ (k / 64 + 1) := by
 rw [pow_split, Nat.pow_succ]
 refine Nat.mul_le_mul_left _ ?_
 have := Nat.pow_le_pow_right (n := 2) (by decide) (by omega : k % 64 ≤ 64); simpa [W] using this
theorem shlEnd {A k m : Nat} (h : (List.length (words A)) + k / 64 + 1 = m) : words (val (wordsN m (A % W ^ (List.length (words A)) * 2 ^ k))) = words (A * 2 ^ k) := by
 rw [Nat.mod_eq_of_lt (nw_lt A), words_val_wordsN]
 rw [← h, Nat.add_assoc, Nat.pow_add]
 have h1 := nw_lt A
 exact Nat.lt_of_lt_of_le (Nat.mul_lt_mul_of_pos_right h1 (Nat.pow_pos (by decide))) (Nat.mul_le_mul_left _ (pow2_le k))
theorem shr_dig (X i : Nat) {r : Nat} (hr : r ≤ 64) : dig X i / 2 ^ r ||| dig X (i + 1) * 2 ^ (64 - r) % W = dig (X / 2 ^ r) i := by
 have e1 : X / 2 ^ r / W ^ i = X / W ^ i / 2 ^ r := by rw [Nat.div_div_eq_div_mul, Nat.mul_comm, ← Nat.div_div_eq_div_mul]
 have h0 := dig_lt X i
 have e2 := div_succ X i
 have e3 := div_succ X (i + 1)
 have e4 := two64 hr
 have h4 : 64 - (64 - r) = r := by omega
 have h5 := mul_mod_W (d := dig X (i + 1)) (r := 64 - r) (by omega)
 rw [show dig (X / 2 ^ r) i = X / 2 ^ r / W ^ i % W from rfl, e1, e2, e3]
 have hp : 0 < 2 ^ r := Nat.pow_pos (by decide)
 have h6 : dig X i / 2 ^ r < 2 ^ (64 - r) := by rw [Nat.div_lt_iff_lt_mul hp, e4]; exact h0
 have h7 := mod_mul_lt (d := dig X (i + 1)) (r := 64 - r) (by omega)
 rw [h5, add_or h6, ← h5]
 rw [← h5] at h7
 have e5 : (W * (W * (X / W ^ (i + 1 + 1)) + dig X (i + 1)) + dig X i) / 2 ^ r = dig X i / 2 ^ r + dig X (i + 1) * 2 ^ (64 - r) + W * (X / W ^ (i + 1 + 1) * 2 ^ (64 - r)) := by
  have : W * (W * (X / W ^ (i + 1 + 1)) + dig X (i + 1)) + dig X i = dig X i + 2 ^ r * (2 ^ (64 - r) * (W * (X / W ^ (i + 1 + 1)) + dig X (i + 1))) := by
   rw [← Nat.mul_assoc, Nat.mul_comm (2 ^ r), e4]; omega
  rw [this, Nat.add_mul_div_left _ _ hp]
  generalize 2 ^ (64 - r) = q at *
  generalize X / W ^ (i + 1 + 1) = y
  generalize dig X (i + 1) = z
  generalize dig X i / 2 ^ r = t
  grind
 rw [e5, Nat.add_mul_mod_self_left]
 generalize dig X (i + 1) * 2 ^ (64 - r) = D at *
 generalize dig X i / 2 ^ r = t at *
 generalize 2 ^ (64 - r) = q at *
 clear e1 e2 e3 e4 e5 h5
 unfold W at *
 omega
theorem drop_words (A w : Nat) : (words A).drop w = words (A / W ^ w) := by
  induction w generalizing A with
  | zero => simp
  | succ w ih =>
    by_cases h : A = 0
    · subst h; rw [words_zero]; simp [words_zero]
    · rw [words_pos h, List.drop_succ_cons, ih, Nat.div_div_eq_div_mul, Nat.pow_succ, Nat.mul_comm W]
theorem nw_div (A w : Nat) : (List.length (words (A / W ^ w))) = (List.length (words A)) - w := by rw [← drop_words]; simp
theorem div_split (A k : Nat) : A / W ^ (k / 64) / 2 ^ (k % 64) = A / 2 ^ k := by rw [pow_split k, Nat.div_div_eq_div_mul]
theorem shr_set2 {N i m v e : Nat} (h : i < m) (hv : v ||| e = dig N i) : ((wpart N i m).set i v).set i ((((wpart N i m).set i v).getD i 0) ||| e) = wpart N (i + 1) m := by
 have hl : (wpart N i m).length = m := wpart_len (by omega)
 have e1 : ((wpart N i m).set i v).getD i 0 = v := by
  rw [List.getD_eq_getElem?_getD, List.getElem?_set_self (by rw [hl]; exact h)]; rfl
 rw [e1, List.set_set, wpart_set h hv]
theorem shr_step2 {X i m r : Nat} (hr : r < 64) (h : i < m) : ((wpart (X / 2 ^ r) i m).set i (dig X i / 2 ^ r)).set i ((((wpart (X / 2 ^ r) i m).set i (dig X i / 2 ^ r)).getD i 0) ||| dig X (i + 1) * 2 ^ (64 - r) % W) = wpart (X / 2 ^ r) (i + 1) m :=
 shr_set2 h (shr_dig X i (by omega))
theorem shr_step1 {X i m r : Nat} (hr : r < 64) (h : i < m) (hm : m = (List.length (words X))) (h0 : 0 < r → m ≤ i + 1) : (wpart (X / 2 ^ r) i m).set i (dig X i / 2 ^ r) = wpart (X / 2 ^ r) (i + 1) m := by
 refine wpart_set h ?_
 rw [← shr_dig X i (Nat.le_of_lt hr)]
 rcases Nat.eq_zero_or_pos r with h1 | h1
 ·subst h1
  have : dig X (i + 1) * 2 ^ (64 - 0) % W = 0 := by show _ * W % W = 0; exact Nat.mul_mod_left _ _
  rw [this, Nat.or_zero]
 ·rw [dig_zero (n := X) (i := i + 1) (by rw [← hm]; exact h0 h1)]; simp
theorem shr_none {A k : Nat} (h : (List.length (words A)) ≤ k / 64) : [] = words (A / 2 ^ k) := by
 rw [← div_split, Nat.div_eq_of_lt (lt_pow_of h), Nat.zero_div, words_zero]
theorem shr_end {A k m : Nat} (h : m = (List.length (words (A / W ^ (k / 64))))) : words (val (wordsN m (A / W ^ (k / 64) / 2 ^ (k % 64)))) = words (A / 2 ^ k) := by
 rw [words_val_wordsN, div_split]
 exact Nat.lt_of_le_of_lt (Nat.div_le_self _ _) (h ▸ nw_lt _)
theorem topW {A k : Nat} (hA : A ≠ 0) : ¬ (words A ++ List.replicate k 0).getD ((((List.length (words A)) : Nat) : Int) - 1).toNat 0 = 0 := by
 intro h
 have n1 := nw_pos hA
 have e : ((((List.length (words A)) : Nat) : Int) - 1).toNat = (List.length (words A)) - 1 := by omega
 rw [e, List.getD_eq_getElem?_getD, List.getElem?_append_left (by omega), ← List.getD_eq_getElem?_getD, getD_words] at h
 exact dig_top hA h
theorem words_ne {A : Nat} (h : words A ≠ []) : A ≠ 0 := fun e => h (by rw [e, words_zero])
end Go.Nt
namespace Go.Proofs.YthkdmhaafanjlaaGreat
open Go.En Go.RowKit
set_option maxRecDepth 10000
set_option maxHeartbeats 4000000
open Go.Nt
theorem nat_Shl {xs : List Nat} {k : Nat} (hk : k ≤ 1048576) (hx : (List.length (words (val xs))) < 4294900000) : Ctr Tryz.prog 277 [isWords xs, isI (k : Int)] (isTup [isWords (words (val xs * 2 ^ k)), isB true]) := by
 refine Ctr.intro Tryz.func277 rfl (by kernel_rfl) Tryz.ntmps277 rfl fun w0 F0 => .cv (Cv.wk (.l [0, 1] rfl)) (.fact (Has.lenLt (Has.t (t := 0) rfl)) fun lt0 => .fact (Has.okW (Has.t (t := 0) rfl)) fun ok0 => .fact (Has.rngI (Has.t (t := 1) rfl)) fun lt1 => ?_)
 have e1 : ((k : Int) / 64) = ((k / 64 : Nat) : Int) := by omega
 have e2 : ((k : Int) % 64).toNat = k % 64 := by omega
 refine .seq fun _ k1 => .region (st (.as (.cW (f := isU))) rfl (st (.as (.cB false)) rfl (nl (.thn (k1 _ _ (.seq fun _ k2 => .seq fun _ k3 => .region (st (.mv (.t rfl)) rfl (st (.ltI (.t rfl) (.cI 0 rfl)) rfl (st (.mv (.t rfl)) rfl ?_)))))))))
 refine stF rfl rfl (fun hg => have hg' := BP.t hg; OK1.mv (.t rfl)) rfl ?_
 refine stF rfl rfl (fun hg => have hg' := BP.t hg; OK1.gtI (Has.g rfl hg) (.cI 1048576 rfl)) rfl ?_
 refine st (.pickOr (.t rfl) (fun h => Has.g rfl (ng h))) rfl (nl (.thn (k3 _ _ (.cv (Cv.wk (.l [0, 1, 4, 5, 16] rfl)) (.cond (.t rfl) (fun hc1 => ?_) (fun hc1 => ?_))))))
 ·have hc1 := BP.t hc1
  exfalso; first | omega | contradiction | (revert hc1; simp)
 ·have hc1 := BP.f hc1
  refine .skip (.thn (k2 _ _ (.seq fun _ k4 => .region (st (.mv (.t rfl)) rfl (st (.call (nat_trim) (.cons (.t rfl) .nil)) rfl (st (.as (.t rfl)) rfl (nl (.thn (k4 _ _ (.seq fun _ k5 => .region (st (.mv (.t rfl)) rfl (st (.eq (.quoI (.t rfl) (.cI 64 rfl) (by first | omega | assumption | exact True.intro | exact dig_lt _ _ | exact car_le _ _ _ | exact bor_le _ _ _) (by first | omega | assumption | exact True.intro | exact dig_lt _ _ | exact car_le _ _ _ | exact bor_le _ _ _) (by first | omega | assumption | exact True.intro | exact dig_lt _ _ | exact car_le _ _ _ | exact bor_le _ _ _)) (isI_eq e1)) rfl (st (.mv (.t rfl)) rfl (st (.remI (.t rfl) (.cI 64 rfl) (by first | omega | assumption | exact True.intro | exact dig_lt _ _ | exact car_le _ _ _ | exact bor_le _ _ _) (by first | omega | assumption | exact True.intro | exact dig_lt _ _ | exact car_le _ _ _ | exact bor_le _ _ _) (by first | omega | assumption | exact True.intro | exact dig_lt _ _ | exact car_le _ _ _ | exact bor_le _ _ _)) rfl (st (.eq (.convIU un3 un264 (.t rfl) (by first | omega | assumption | exact True.intro | exact dig_lt _ _ | exact car_le _ _ _ | exact bor_le _ _ _) (by first | omega | assumption | exact True.intro | exact dig_lt _ _ | exact car_le _ _ _ | exact bor_le _ _ _)) (isU_eq e2)) rfl (st (.as (.t rfl)) rfl (st (.as (.t rfl)) rfl (nl (.thn (k5 _ _ (.cv (Cv.wk (.l [0, 4, 5, 6, 7] rfl)) (.seq fun _ k6 => .region (st (.mv (.t rfl)) rfl (st (.len sl29 (.t rfl)) rfl (st (.mv (.t rfl)) rfl (st (.addI (.t rfl) (.t rfl) (by first | omega | assumption | exact True.intro | exact dig_lt _ _ | exact car_le _ _ _ | exact bor_le _ _ _) (by first | omega | assumption | exact True.intro | exact dig_lt _ _ | exact car_le _ _ _ | exact bor_le _ _ _)) rfl (st (.addI (.t rfl) (.cI 1 rfl) (by first | omega | assumption | exact True.intro | exact dig_lt _ _ | exact car_le _ _ _ | exact bor_le _ _ _) (by first | omega | assumption | exact True.intro | exact dig_lt _ _ | exact car_le _ _ _ | exact bor_le _ _ _)) rfl (.make (f := isU) (u := 0) (n := (List.length (words (val xs))) + k / 64 + 1) (c := (List.length (words (val xs))) + k / 64 + 1) sl29 ty39 zero39 (fun _ _ => ⟨⟨rfl, by decide⟩, trivial⟩) by39 (Has.t' rfl rfl) (Has.t' rfl rfl) ⟨by omega, by omega⟩ rfl fun b1 => st (.as (.t rfl)) rfl (nl (.thn (k6 _ _ (.cv (Cv.wk (.l [0, 4, 5, 6, 7, 8] rfl)) (.seq fun _ k7 => .seq fun _ k8 => .region (st (.mv (.t rfl)) rfl (st (.len sl29 (.t rfl)) rfl (st (.mv (.cI 0 rfl)) rfl (nl (.thn (k8 _ _ ?_)))))))))))))))))))))))))))))))))))))))
  refine .block (.loopF [4, 5, 6, 7, 8, 30, 31] (fun (z : { i : Nat // i ≤ (List.length (words (val xs))) }) => match z with | ⟨i, hI⟩ => [(32, isI (i : Int))]) (fun M => fun (z : { i : Nat // i ≤ (List.length (words (val xs))) }) => match z with | ⟨i, hI⟩ => [(some b1, cellM (List.map isU (wordsN ((List.length (words (val xs))) + k / 64 + 1) (val xs % W ^ i * 2 ^ k))))]) (fun (z : { i : Nat // i ≤ (List.length (words (val xs))) }) => match z with | ⟨i, hI⟩ => (List.length (words (val xs))) - i) (⟨0, Nat.zero_le _⟩) (Cv.mem (.c 32 rfl ?_ (.l [4, 5, 6, 7, 8, 30, 31] rfl)) ?_) ?_)
  ·rfl
  ·exact memL_eq (shlStart _ _ _)
  rintro ⟨i, hI⟩ K9 hK9
  refine .cv (Cv.wk (.l [32, 4, 5, 6, 7, 8, 30, 31] rfl)) (.memEq (M' := [(some b1, cellM (List.map isU (wordsN ((List.length (words (val xs))) + k / 64 + 1) (val xs % W ^ i * 2 ^ k))))]) rfl ?_)
  have wl : (wordsN ((List.length (words (val xs))) + k / 64 + 1) (val xs % W ^ i * 2 ^ k)).length = (List.length (words (val xs))) + k / 64 + 1 := wordsN_len _ _
  have ek : (((k / 64 : Nat) : Int) + (i : Int)).toNat = k / 64 + i := by omega
  refine .seq fun _ k10 => .region (st (.ltI (.t rfl) (.t rfl)) rfl (nl (.thn (k10 _ _ (.seq fun _ k11 => .cond (.t rfl) (fun hc2 => ?_) (fun hc2 => ?_))))))
  ·have hc2 := BP.t hc2
   refine .skip (.thn (k11 _ _ (.seq fun _ k12 => .block (.seq fun _ k13 => .region (st (.mv (.t rfl)) rfl (st (.ixP sl29 ty39 (.t rfl) (.t rfl) ⟨by omega, by omega⟩ (getD_some (d := 0) (by first | omega | (simp only [Int.toNat_natCast, List.length_set]; omega)))) rfl ?_))))))
   refine st (.eq (.loadP1 (.t rfl) ty39) (isU_eq (getD_words _ i))) rfl (st (.as (.t rfl)) rfl (st (.as (.t rfl)) rfl (nl (.thn (k13 _ _ (.seq fun _ k14 => .region (st (.mv (.t rfl)) rfl (st (.mv (.t rfl)) rfl (st (.mv (.t rfl)) rfl (st (.addI (.t rfl) (.t rfl) (by first | omega | assumption | exact True.intro | exact dig_lt _ _ | exact car_le _ _ _ | exact bor_le _ _ _) (by first | omega | assumption | exact True.intro | exact dig_lt _ _ | exact car_le _ _ _ | exact bor_le _ _ _)) rfl (st (.eq (.ixWin sl29 ty39 (.t rfl) (.t rfl) ⟨by omega, by omega⟩) (isPtr_eq (by first | exact ixo0 | exact ixo2 | exact ixo1))) rfl (st (.eq (.load1 (.t rfl) (i := 0) rfl ty39 (map_some (getD_some (d := 0) (by first | omega | (simp only [Int.toNat_natCast, List.length_set]; omega))))) ((show isU _ = isU (val xs % W ^ i * 2 ^ k / W ^ (k / 64 + i)) from isU_eq (by rw [ek]; exact shl_get (by omega))))) rfl ?_))))))))))))
   refine st (.mv (.t rfl)) rfl (st (.mv (.t rfl)) rfl (st (.shlUU (.t rfl) (.t rfl) (by first | omega | assumption | exact True.intro | exact dig_lt _ _ | exact car_le _ _ _ | exact bor_le _ _ _)) rfl (st (.orU (.t rfl) (.t rfl)) rfl (st (.eq (.ixWin sl29 ty39 (.t rfl) (.t rfl) ⟨by omega, by omega⟩) (isPtr_eq (by first | exact ixo0 | exact ixo2 | exact ixo1))) rfl (.storeM (.t rfl) (.t rfl) (i := 0) rfl ty39 (by first | omega | (simp only [Int.toNat_natCast, List.length_set, List.length_replicate]; omega)) (M' := [(_, _)]) rfl ?_)))))
   refine nl (.thn (k14 _ _ (.seq fun _ k15 => .region (st (.mv (.t rfl)) rfl (st (.gtU (.t rfl) (.cU 0 rfl)) rfl (nl (.thn (k15 _ _ (.cond (.t rfl) (fun hc3 => ?_) (fun hc3 => ?_))))))))))
   ·have hc3 := BP.t hc3
    refine .region (st (.mv (.t rfl)) rfl (st (.mv (.t rfl)) rfl (st (.mv (.t rfl)) rfl (st (.addI (.t rfl) (.t rfl) (by first | omega | assumption | exact True.intro | exact dig_lt _ _ | exact car_le _ _ _ | exact bor_le _ _ _) (by first | omega | assumption | exact True.intro | exact dig_lt _ _ | exact car_le _ _ _ | exact bor_le _ _ _)) rfl (st (.addI (.t rfl) (.cI 1 rfl) (by first | omega | assumption | exact True.intro | exact dig_lt _ _ | exact car_le _ _ _ | exact bor_le _ _ _) (by first | omega | assumption | exact True.intro | exact dig_lt _ _ | exact car_le _ _ _ | exact bor_le _ _ _)) rfl (st (.mv (.t rfl)) rfl (st (.mv (.t rfl)) rfl (st (.subU' (.cU 64 rfl) (.t rfl) (by first | omega | assumption | exact True.intro | exact dig_lt _ _ | exact car_le _ _ _ | exact bor_le _ _ _) (by first | omega | assumption | exact True.intro | exact dig_lt _ _ | exact car_le _ _ _ | exact bor_le _ _ _)) rfl (st (.shrUU (.t rfl) (.t rfl) (by first | omega | assumption | exact True.intro | exact dig_lt _ _ | exact car_le _ _ _ | exact bor_le _ _ _)) rfl (st (.eq (.ixWin sl29 ty39 (.t rfl) (.t rfl) ⟨by omega, by omega⟩) (isPtr_eq (by first | exact ixo0 | exact ixo2 | exact ixo1))) rfl (.storeM (.t rfl) (.t rfl) (i := 0) rfl ty39 (by first | omega | (simp only [Int.toNat_natCast, List.length_set, List.length_replicate]; omega)) (M' := [(_, _)]) rfl ?_)))))))))))
    refine nl (.bln (.thn (k12 _ _ (.region (st (.addI (.t rfl) (.cI 1 rfl) (by first | omega | assumption | exact True.intro | exact dig_lt _ _ | exact car_le _ _ _ | exact bor_le _ _ _) (by first | omega | assumption | exact True.intro | exact dig_lt _ _ | exact car_le _ _ _ | exact bor_le _ _ _)) rfl (st (.mv (.t rfl)) rfl (nl (.thn (hK9 (⟨i + 1, by omega⟩) _ _ ?_ (Cv.mem (.c 32 rfl ?_ (.l [4, 5, 6, 7, 8, 30, 31] rfl)) ?_))))))))))
    ·show (List.length (words (val xs))) - (i + 1) < (List.length (words (val xs))) - i; omega
    ·rfl
    ·exact memL_eq (by rw [ek, shl_set1 (by omega) rfl]; exact shl_set2 (by omega) (by omega) (by omega) rfl)
   ·have hc3 := BP.f hc3
    refine .skip (.bln (.thn (k12 _ _ (.region (st (.addI (.t rfl) (.cI 1 rfl) (by first | omega | assumption | exact True.intro | exact dig_lt _ _ | exact car_le _ _ _ | exact bor_le _ _ _) (by first | omega | assumption | exact True.intro | exact dig_lt _ _ | exact car_le _ _ _ | exact bor_le _ _ _)) rfl (st (.mv (.t rfl)) rfl (nl (.thn (hK9 (⟨i + 1, by omega⟩) _ _ ?_ (Cv.mem (.c 32 rfl ?_ (.l [4, 5, 6, 7, 8, 30, 31] rfl)) ?_))))))))))
    ·show (List.length (words (val xs))) - (i + 1) < (List.length (words (val xs))) - i; omega
    ·rfl
    ·exact memL_eq (by rw [ek, shl_set1 (by omega) rfl]; exact shl_end0 (by omega) (by omega))
  ·have hc2 := BP.f hc2
   refine .exit (.the (.the (.blh (.thn (k7 _ _ (.cv (Cv.wk (.l [4, 5, 8] rfl)) (.seq fun _ k16 => .cv (Cv.freeze' (t := 8) (i := 0) (ys := wordsN ((List.length (words (val xs))) + k / 64 + 1) (val xs % W ^ i * 2 ^ k)) rfl rfl rfl (by simp; omega) (freeze_all (by rw [wl]))) ?_)))))))
   refine .memEq (M' := []) rfl (.cv (Cv.wk (.l [4, 5, 8] rfl)) (.region (st (.mv (.t rfl)) rfl (st (.call (nat_normal) (.cons (.t rfl) .nil)) rfl (st (.as (.t rfl)) rfl (st (.as (.cB true)) rfl (nl (.thn (k16 _ _ (.ret (rtN (.inl rfl) Tryz.results277 rfl rfl (.tmp (Has.t' rfl ?_) (.tmp (Has.t' rfl ?_) .nil)))))))))))))
   ·obtain rfl : i = (List.length (words (val xs))) := (by omega); exact SlM_eq (shlEnd rfl)
   ·rfl
theorem nat_Shr {xs : List Nat} {k : Nat} (hk : k < 9223372036854775808) (hx : (List.length (words (val xs))) < 4294900000) : Ctr Tryz.prog 279 [isWords xs, isI (k : Int)] (isTup [isWords (words (val xs / 2 ^ k)), isB true]) := by
 refine Ctr.intro Tryz.func279 rfl (by kernel_rfl) Tryz.ntmps279 rfl fun w0 F0 => .cv (Cv.wk (.l [0, 1] rfl)) (.fact (Has.lenLt (Has.t (t := 0) rfl)) fun lt0 => .fact (Has.okW (Has.t (t := 0) rfl)) fun ok0 => .fact (Has.rngI (Has.t (t := 1) rfl)) fun lt1 => ?_)
 have e1 : ((k : Int) / 64) = ((k / 64 : Nat) : Int) := by omega
 have e2 : ((k : Int) % 64).toNat = k % 64 := by omega
 have nX := nw_div (val xs) (k / 64)
 refine .seq fun _ k1 => .region (st (.as (.cW (f := isU))) rfl (st (.as (.cB false)) rfl (nl (.thn (k1 _ _ (.seq fun _ k2 => .seq fun _ k3 => .region (st (.mv (.t rfl)) rfl (st (.ltI (.t rfl) (.cI 0 rfl)) rfl (nl (.thn (k3 _ _ (.cond (.t rfl) (fun hc1 => ?_) (fun hc1 => ?_)))))))))))))
 ·have hc1 := BP.t hc1
  exfalso; first | omega | contradiction | (revert hc1; simp)
 ·have hc1 := BP.f hc1
  refine .skip (.thn (k2 _ _ (.seq fun _ k4 => .region (st (.mv (.t rfl)) rfl (st (.call (nat_trim) (.cons (.t rfl) .nil)) rfl (st (.as (.t rfl)) rfl (nl (.thn (k4 _ _ (.seq fun _ k5 => .region (st (.mv (.t rfl)) rfl (st (.eq (.quoI (.t rfl) (.cI 64 rfl) (by first | omega | assumption | exact True.intro | exact dig_lt _ _ | exact car_le _ _ _ | exact bor_le _ _ _) (by first | omega | assumption | exact True.intro | exact dig_lt _ _ | exact car_le _ _ _ | exact bor_le _ _ _) (by first | omega | assumption | exact True.intro | exact dig_lt _ _ | exact car_le _ _ _ | exact bor_le _ _ _)) (isI_eq e1)) rfl (st (.mv (.t rfl)) rfl (st (.remI (.t rfl) (.cI 64 rfl) (by first | omega | assumption | exact True.intro | exact dig_lt _ _ | exact car_le _ _ _ | exact bor_le _ _ _) (by first | omega | assumption | exact True.intro | exact dig_lt _ _ | exact car_le _ _ _ | exact bor_le _ _ _) (by first | omega | assumption | exact True.intro | exact dig_lt _ _ | exact car_le _ _ _ | exact bor_le _ _ _)) rfl (st (.eq (.convIU un3 un264 (.t rfl) (by first | omega | assumption | exact True.intro | exact dig_lt _ _ | exact car_le _ _ _ | exact bor_le _ _ _) (by first | omega | assumption | exact True.intro | exact dig_lt _ _ | exact car_le _ _ _ | exact bor_le _ _ _)) (isU_eq e2)) rfl (st (.as (.t rfl)) rfl (st (.as (.t rfl)) rfl (nl (.thn (k5 _ _ (.cv (Cv.wk (.l [0, 4, 5, 6, 7] rfl)) (.seq fun _ k6 => .seq fun _ k7 => .region (st (.mv (.t rfl)) rfl (st (.mv (.t rfl)) rfl (st (.len sl29 (.t rfl)) rfl (st (.geI (.t rfl) (.t rfl)) rfl (nl (.thn (k7 _ _ (.cond (.t rfl) (fun hc2 => ?_) (fun hc2 => ?_)))))))))))))))))))))))))))))))
  ·have hc2 := BP.t hc2
   refine .seq fun _ k8 => .region (st (.as (.cW (f := isU))) rfl (st (.as (.cB true)) rfl (nl (.thn (k8 _ _ (.ret (.thr (rtN (.inl rfl) Tryz.results279 rfl rfl (.tmp (Has.t' rfl ?_) (.tmp (Has.t' rfl ?_) .nil))))))))))
   ·exact SlM_eq (shr_none (by omega))
   ·rfl
  ·have hc2 := BP.f hc2
   refine .skip (.thn (k6 _ _ (.seq fun _ k9 => .region (st (.mv (.t rfl)) rfl (st (.mv (.t rfl)) rfl (st (.eq (.slLM sl29 ty39 (.t rfl) (.t rfl) ⟨by omega, by omega⟩) (SlM_eq (drop_words (val xs) (k / 64)))) rfl (st (.as (.t rfl)) rfl (nl (.thn (k9 _ _ (.cv (Cv.wk (.l [0, 4, 5, 7] rfl)) (.seq fun _ k10 => .region (st (.mv (.t rfl)) rfl (st (.len sl29 (.t rfl)) rfl (.make (f := isU) (u := 0) (n := (List.length (words (val xs / W ^ (k / 64))))) (c := (List.length (words (val xs / W ^ (k / 64))))) sl29 ty39 zero39 (fun _ _ => ⟨⟨rfl, by decide⟩, trivial⟩) by39 (Has.t' rfl rfl) (Has.t' rfl rfl) ⟨by omega, by omega⟩ rfl fun b1 => st (.as (.t rfl)) rfl (nl (.thn (k10 _ _ (.seq fun _ k11 => .seq fun _ k12 => .region (st (.mv (.t rfl)) rfl (st (.len sl29 (.t rfl)) rfl (st (.mv (.cI 0 rfl)) rfl (nl (.thn (k12 _ _ (.block (.loopF [0, 4, 5, 7, 8, 30, 31] (fun (z : { i : Nat // i ≤ (List.length (words (val xs / W ^ (k / 64)))) }) => match z with | ⟨i, hI⟩ => [(32, isI (i : Int))]) (fun M => fun (z : { i : Nat // i ≤ (List.length (words (val xs / W ^ (k / 64)))) }) => match z with | ⟨i, hI⟩ => [(some b1, cellM (List.map isU (wpart ((val xs / W ^ (k / 64)) / 2 ^ (k % 64)) i ((List.length (words (val xs / W ^ (k / 64))))))))]) (fun (z : { i : Nat // i ≤ (List.length (words (val xs / W ^ (k / 64)))) }) => match z with | ⟨i, hI⟩ => (List.length (words (val xs / W ^ (k / 64)))) - i) (⟨0, Nat.zero_le _⟩) (Cv.mem (.c 32 rfl ?_ (.l [0, 4, 5, 7, 8, 30, 31] rfl)) ?_) ?_)))))))))))))))))))))))))))
   ·rfl
   ·exact memL_eq (wpart_zero _ _)
   rintro ⟨i, hI⟩ K13 hK13
   refine .cv (Cv.wk (.l [32, 0, 4, 5, 7, 8, 30, 31] rfl)) (.memEq (M' := [(some b1, cellM (List.map isU (wpart ((val xs / W ^ (k / 64)) / 2 ^ (k % 64)) i ((List.length (words (val xs / W ^ (k / 64))))))))]) rfl ?_)
   have wl : (wpart ((val xs / W ^ (k / 64)) / 2 ^ (k % 64)) i ((List.length (words (val xs / W ^ (k / 64)))))).length = (List.length (words (val xs / W ^ (k / 64)))) := wpart_len (by omega)
   refine .seq fun _ k14 => .region (st (.ltI (.t rfl) (.t rfl)) rfl (nl (.thn (k14 _ _ (.seq fun _ k15 => .cond (.t rfl) (fun hc3 => ?_) (fun hc3 => ?_))))))
   ·have hc3 := BP.t hc3
    refine .skip (.thn (k15 _ _ (.seq fun _ k16 => .block (.seq fun _ k17 => .region (st (.mv (.t rfl)) rfl (st (.ixP sl29 ty39 (.t rfl) (.t rfl) ⟨by omega, by omega⟩ (getD_some (d := 0) (by first | omega | (simp only [Int.toNat_natCast, List.length_set]; omega)))) rfl ?_))))))
    refine st (.eq (.loadP1 (.t rfl) ty39) (isU_eq (getD_words _ i))) rfl (st (.as (.t rfl)) rfl (st (.as (.t rfl)) rfl (nl (.thn (k17 _ _ (.seq fun _ k18 => .region (st (.mv (.t rfl)) rfl (st (.mv (.t rfl)) rfl (st (.mv (.t rfl)) rfl (st (.mv (.t rfl)) rfl (st (.shrUU (.t rfl) (.t rfl) (by first | omega | assumption | exact True.intro | exact dig_lt _ _ | exact car_le _ _ _ | exact bor_le _ _ _)) rfl (st (.eq (.ixWin sl29 ty39 (.t rfl) (.t rfl) ⟨by omega, by omega⟩) (isPtr_eq (by first | exact ixo0 | exact ixo2 | exact ixo1))) rfl (.storeM (.t rfl) (.t rfl) (i := 0) rfl ty39 (by first | omega | (simp only [Int.toNat_natCast, List.length_set, List.length_replicate]; omega)) (M' := [(_, _)]) rfl ?_)))))))))))))
    refine nl (.thn (k18 _ _ (.seq fun _ k19 => .region (st (.mv (.t rfl)) rfl (st (.gtU (.t rfl) (.cU 0 rfl)) rfl (st (.mv (.t rfl)) rfl ?_))))))
    refine stT rfl rfl (fun hg => have hg' := BP.t hg; OK1.mv (.t rfl)) rfl ?_
    refine stT rfl rfl (fun hg => have hg' := BP.t hg; OK1.addI (Has.g rfl hg) (.cI 1 rfl) (by first | omega | assumption | exact True.intro | exact dig_lt _ _ | exact car_le _ _ _ | exact bor_le _ _ _) (by first | omega | assumption | exact True.intro | exact dig_lt _ _ | exact car_le _ _ _ | exact bor_le _ _ _)) rfl ?_
    refine stT rfl rfl (fun hg => have hg' := BP.t hg; OK1.mv (.t rfl)) rfl ?_
    refine stT rfl rfl (fun hg => have hg' := BP.t hg; OK1.len sl29 (Has.g rfl hg)) rfl ?_
    refine stT rfl rfl (fun hg => have hg' := BP.t hg; OK1.ltI (Has.g rfl hg) (Has.g rfl hg)) rfl ?_
    refine st (.pickAnd (.t rfl) (fun h => Has.g rfl h)) rfl (nl (.thn (k19 _ _ (.cond (.t rfl) (fun hc4 => ?_) (fun hc4 => ?_)))))
    ·have hc4 := BP.t hc4
     refine .dr (.s [] rfl rfl rfl (.o rfl (.mv (.t rfl))) (.s [] rfl rfl rfl (.o rfl (.mv (.t rfl))) (.s [52, 53] rfl rfl rfl (.o rfl (.eq (.ixWin sl29 ty39 (.t rfl) (.t rfl) ⟨by omega, by omega⟩) (isPtr_eq (by first | exact ixo0 | exact ixo2 | exact ixo1)))) (.s [54] rfl rfl rfl (.o rfl (.load1 (.t rfl) (i := 0) rfl ty39 (map_some (getD_some (d := 0) (by first | omega | (simp only [Int.toNat_natCast, List.length_set]; omega)))))) ?_))))
     refine .s [] rfl rfl rfl (.o rfl (.mv (.t rfl))) (.s [] rfl rfl rfl (.o rfl (.mv (.t rfl))) (.s [57] rfl rfl rfl (.o rfl (.addI (.t rfl) (.cI 1 rfl) (by first | omega | assumption | exact True.intro | exact dig_lt _ _ | exact car_le _ _ _ | exact bor_le _ _ _) (by first | omega | assumption | exact True.intro | exact dig_lt _ _ | exact car_le _ _ _ | exact bor_le _ _ _))) (.s [56, 58] rfl rfl rfl (.o rfl (.ixP sl29 ty39 (.t rfl) (.t rfl) ⟨by omega, by omega⟩ (getD_some (d := 0) (by first | omega | (simp only [Int.toNat_natCast, List.length_set]; omega))))) ?_)))
     refine .s [59] rfl rfl rfl (.o rfl (.eq (.loadP1 (.t rfl) ty39) ((show isU _ = isU (dig (val xs / W ^ (k / 64)) (i + 1)) from isU_eq (getD_words _ (i + 1)))))) (.s [] rfl rfl rfl (.o rfl (.mv (.t rfl))) (.s [61] rfl rfl rfl (.o rfl (.subU' (.cU 64 rfl) (.t rfl) (by first | omega | assumption | exact True.intro | exact dig_lt _ _ | exact car_le _ _ _ | exact bor_le _ _ _) (by first | omega | assumption | exact True.intro | exact dig_lt _ _ | exact car_le _ _ _ | exact bor_le _ _ _))) (.s [60, 62] rfl rfl rfl (.o rfl (.shlUU (.t rfl) (.t rfl) (by first | omega | assumption | exact True.intro | exact dig_lt _ _ | exact car_le _ _ _ | exact bor_le _ _ _))) (.fin (n := 12) mixed (by kernel_rfl) (by kernel_rfl) (by kernel_rfl) (.cv (Cv.wk (.l [0, 4, 5, 7, 8, 30, 31, 32, 33, 34, 35, 36, 9, 10, 37, 38, 39, 40, 41, 42, 43, 44, 45, 46, 47, 48, 49, 50, 51, 52, 53, 54, 55, 56, 57, 58, 59, 60, 61, 62, 63] rfl)) (st (.orU (.t rfl) (.t rfl)) rfl (st (.eq (.ixWin sl29 ty39 (.t rfl) (.t rfl) ⟨by omega, by omega⟩) (isPtr_eq (by first | exact ixo0 | exact ixo2 | exact ixo1))) rfl (.storeM (.t rfl) (.t rfl) (i := 0) rfl ty39 (by first | omega | (simp only [Int.toNat_natCast, List.length_set, List.length_replicate]; omega)) (M' := [(_, _)]) rfl ?_))))))))
     refine nl (.bln (.thn (k16 _ _ (.region (st (.addI (.t rfl) (.cI 1 rfl) (by first | omega | assumption | exact True.intro | exact dig_lt _ _ | exact car_le _ _ _ | exact bor_le _ _ _) (by first | omega | assumption | exact True.intro | exact dig_lt _ _ | exact car_le _ _ _ | exact bor_le _ _ _)) rfl (st (.mv (.t rfl)) rfl (nl (.thn (hK13 (⟨i + 1, by omega⟩) _ _ ?_ (Cv.mem (.c 32 rfl ?_ (.l [0, 4, 5, 7, 8, 30, 31] rfl)) ?_))))))))))
     ·show (List.length (words (val xs / W ^ (k / 64)))) - (i + 1) < (List.length (words (val xs / W ^ (k / 64)))) - i; omega
     ·rfl
     ·exact memL_eq (shr_step2 (by omega) (by omega))
    ·have hc4 := BP.f hc4
     refine .skip (.bln (.thn (k16 _ _ (.region (st (.addI (.t rfl) (.cI 1 rfl) (by first | omega | assumption | exact True.intro | exact dig_lt _ _ | exact car_le _ _ _ | exact bor_le _ _ _) (by first | omega | assumption | exact True.intro | exact dig_lt _ _ | exact car_le _ _ _ | exact bor_le _ _ _)) rfl (st (.mv (.t rfl)) rfl (nl (.thn (hK13 (⟨i + 1, by omega⟩) _ _ ?_ (Cv.mem (.c 32 rfl ?_ (.l [0, 4, 5, 7, 8, 30, 31] rfl)) ?_))))))))))
     ·show (List.length (words (val xs / W ^ (k / 64)))) - (i + 1) < (List.length (words (val xs / W ^ (k / 64)))) - i; omega
     ·rfl
     ·exact memL_eq (shr_step1 (by omega) (by omega) rfl (by omega))
   ·have hc3 := BP.f hc3
    refine .exit (.the (.the (.blh (.thn (k11 _ _ (.cv (Cv.wk (.l [4, 5, 8] rfl)) (.seq fun _ k20 => .cv (Cv.freeze' (t := 8) (i := 0) (ys := wordsN ((List.length (words (val xs / W ^ (k / 64))))) ((val xs / W ^ (k / 64)) / 2 ^ (k % 64))) rfl rfl rfl (by simp; omega) (fz_wpart' (by omega))) ?_)))))))
    refine .memEq (M' := []) rfl (.cv (Cv.wk (.l [4, 5, 8] rfl)) (.region (st (.mv (.t rfl)) rfl (st (.call (nat_normal) (.cons (.t rfl) .nil)) rfl (st (.as (.t rfl)) rfl (st (.as (.cB true)) rfl (nl (.thn (k20 _ _ (.ret (rtN (.inl rfl) Tryz.results279 rfl rfl (.tmp (Has.t' rfl ?_) (.tmp (Has.t' rfl ?_) .nil)))))))))))))
    ·exact SlM_eq (shr_end rfl)
    ·rfl
theorem clone_NatO {xs : List Nat} (hx : xs.length ≤ 4294967296) : CtrO Tryz.prog 234 [isWords xs] isU 0 xs := by
 refine CtrO.intro Tryz.func234 rfl (by kernel_rfl) Tryz.ntmps234 rfl fun w0 F0 => .cv (Cv.wk (.l [0] rfl)) (.fact (Has.lenLt (Has.t (t := 0) rfl)) fun lt0 => .fact (Has.okW (Has.t (t := 0) rfl)) fun ok0 => .seq fun _ k1 => .region (st (.as (.cW (f := isU))) rfl (nl (.thn (k1 _ _ (.seq fun _ k2 => .seq fun _ k3 => .region (st (.mv (.t rfl)) rfl (.eqNil sl29 (.t rfl) rfl fun bn1 hn1 => nl (.thn (k3 _ _ (.cond (.t rfl) (fun hc2 => ?_) (fun hc2 => ?_))))))))))))
 ·have hc2 := BP.t hc2
  refine .seq fun _ k4 => .region (st (.as (.cW (f := isU))) rfl (nl (.thn (k4 _ _ (.ret (.thr (rtO0 (.inl rfl) Tryz.results234 rfl ?_ (.tmp (Has.t' rfl ?_) .nil))))))))
  ·exact hn1 hc2
  ·rfl
 ·have hc2 := BP.f hc2
  refine .skip (.thn (k2 _ _ (.seq fun _ k5 => .region (.buildS0 sl29 ty39 rfl (st (.mv (.t rfl)) rfl (.appendO (f := isU) (u := 0) sl29 ty39 zero39 (fun _ _ => ⟨⟨rfl, by decide⟩, trivial⟩) by39 (.t rfl) (.t rfl) (by first | omega | assumption) rfl (fun hO3 => ?_) (fun hO3 b1 cb1 jb1 => ?_)))))))
  ·skip
   refine st (.as (.t rfl)) rfl (nl (.thn (k5 _ _ (.cv (Cv.wk (.l [2] rfl)) (.ret (rtO0 (.inl rfl) Tryz.results234 rfl ?_ (.tmp (Has.t' rfl ?_) .nil)))))))
   ·exact hO3
   ·rfl
  ·skip
   refine st (.as (.t rfl)) rfl (nl (.thn (k5 _ _ (.cv (Cv.wk (.l [2] rfl)) (.ret (rtO1 (.inl rfl) Tryz.results234 rfl ?_ (b := b1) (c := cb1) (k := jb1) (i := 0) ?_ (.tmp (Has.t' rfl ?_) .nil)))))))
   ·exact hO3
   ·rfl
   ·rfl
theorem nat_trimW {A k c : Nat} (hA : A ≠ 0) : CtrM Tryz.prog 217 (fun b0 => [isWin b0 0 ((List.length (words A))) c]) (cellM (List.map isU (words A ++ List.replicate k 0))) (cellM (List.map isU (words A ++ List.replicate k 0))) (fun b0 => isWin b0 0 ((List.length (words A))) c) := by
 refine CtrM.intro Tryz.func217 rfl (by kernel_rfl) Tryz.ntmps217 (fun _ => rfl) fun w0 F0 b0 => .cv (Cv.wk (.l [0] rfl)) (.fact (Has.lenLt (Has.t (t := 0) rfl)) fun lt0 => .fact (Has.winLe (Has.t (t := 0) rfl)) fun lw0 => ?_)
 have nA := nw_pos hA
 refine .seq fun _ k1 => .region (st (.as (.cW (f := isU))) rfl (nl (.thn (k1 _ _ (.seq fun _ k2 => .region (st (.mv (.t rfl)) rfl (st (.len sl29 (.t rfl)) rfl (st (.as (.t rfl)) rfl (nl (.thn (k2 _ _ (.seq fun _ k3 => .block (.loopF [0, 2] (fun (_ : Unit) => [(3, isI ((List.length (words A)) : Int))]) (fun M => fun (_ : Unit) => M) (fun (_ : Unit) => 0) (()) (Cv.mem (.c 3 rfl ?_ (.l [0, 2] rfl)) ?_) ?_)))))))))))))
 ·rfl
 ·rfl
 rintro _ K4 hK4
 refine .cv (Cv.wk (.l [3, 0, 2] rfl)) (.seq fun _ k5 => .seq fun _ k6 => .region (st (.mv (.t rfl)) rfl (st (.gtI (.t rfl) (.cI 0 rfl)) rfl (st (.mv (.t rfl)) rfl ?_))))
 refine stT rfl rfl (fun hg => have hg' := BP.t hg; OK1.mv (.t rfl)) rfl ?_
 refine stT rfl rfl (fun hg => have hg' := BP.t hg; OK1.mv (.t rfl)) rfl ?_
 refine stT rfl rfl (fun hg => have hg' := BP.t hg; OK1.subI (Has.g rfl hg) (.cI 1 rfl) (by first | omega | assumption) (by first | omega | assumption)) rfl ?_
 refine stT rfl rfl (fun hg => have hg' := BP.t hg; OK1.eq (.ixWin sl29 ty39 (Has.g rfl hg) (Has.g rfl hg) ⟨by omega, by omega⟩) (isPtr_eq (by first | exact ixo0 | exact ixo2 | exact ixo1))) rfl ?_
 refine stT rfl rfl (fun hg => have hg' := BP.t hg; OK1.load1 (Has.g rfl hg) (i := 0) rfl ty39 (map_some (getD_some (d := 0) (by simp only [List.length_append]; omega)))) rfl ?_
 refine stT rfl rfl (fun hg => have hg' := BP.t hg; OK1.eqU (Has.g rfl hg) (.cU 0 rfl)) rfl ?_
 refine st (.pickAnd (.t rfl) (fun h => Has.g rfl h)) rfl (nl (.thn (k6 _ _ (.cond (.t rfl) (fun hc1 => ?_) (fun hc1 => ?_)))))
 ·have hc1 := BP.t hc1
  exact absurd hc1.2 (topW hA)
 ·have hc1 := BP.f hc1
  refine .exit (.the (.the (.blh (.thn (k3 _ _ (.cv (Cv.wk (.l [0, 2, 3] rfl)) (.seq fun _ k7 => .region (st (.mv (.t rfl)) rfl (st (.mv (.t rfl)) rfl (st (.slHWin sl29 ty39 (.t rfl) (.t rfl) ⟨by omega, by omega, by omega⟩) rfl (st (.as (.t rfl)) rfl (nl (.thn (k7 _ _ (.cv (Cv.wk (.l [2] rfl)) (.ret (rtM1 (.inl rfl) Tryz.results217 rfl (i := 0) ?_ (.tmp (Has.t' rfl ?_) .nil))))))))))))))))))
  all_goals (rfl)
theorem nat_normalW {A k c : Nat} (hA : A ≠ 0) : CtrM Tryz.prog 233 (fun b0 => [isWin b0 0 ((List.length (words A))) c]) (cellM (List.map isU (words A ++ List.replicate k 0))) (cellM (List.map isU (words A ++ List.replicate k 0))) (fun b0 => isWin b0 0 ((List.length (words A))) c) := by
 refine CtrM.intro Tryz.func233 rfl (by kernel_rfl) Tryz.ntmps233 (fun _ => rfl) fun w0 F0 b0 => .cv (Cv.wk (.l [0] rfl)) (.fact (Has.lenLt (Has.t (t := 0) rfl)) fun lt0 => .fact (Has.winLe (Has.t (t := 0) rfl)) fun lw0 => ?_)
 have nA := nw_pos hA
 refine .seq fun _ k1 => .region (st (.as (.cW (f := isU))) rfl (nl (.thn (k1 _ _ (.seq fun _ k2 => .region (st (.mv (.t rfl)) rfl (.callM (nat_trimW hA) (i := 0) rfl (.cons (.t rfl) .nil) rfl (M' := [(_, _)]) rfl (st (.as (.t rfl)) rfl (nl (.thn (k2 _ _ (.seq fun _ k3 => .seq fun _ k4 => .region (st (.mv (.t rfl)) rfl (st (.len sl29 (.t rfl)) rfl (st (.eqI (.t rfl) (.cI 0 rfl)) rfl (nl (.thn (k4 _ _ (.cond (.t rfl) (fun hc1 => ?_) (fun hc1 => ?_))))))))))))))))))))
 ·have hc1 := BP.t hc1
  exfalso; first | omega | contradiction | (revert hc1; simp)
 ·have hc1 := BP.f hc1
  refine .skip (.thn (k3 _ _ (.cv (Cv.wk (.l [0, 2] rfl)) (.seq fun _ k5 => .region (st (.mv (.t rfl)) rfl (st (.as (.t rfl)) rfl (nl (.thn (k5 _ _ (.ret (rtM1 (.inl rfl) Tryz.results233 rfl (i := 0) ?_ (.tmp (Has.t' rfl ?_) .nil))))))))))))
  all_goals (rfl)
theorem nat_NormO {xs : List Nat} (hx : (List.length (words (val xs))) ≤ 4294967296) : CtrO Tryz.prog 172 [isWords xs] isU 0 (words (val xs)) := by
 refine CtrO.intro Tryz.func172 rfl (by kernel_rfl) Tryz.ntmps172 rfl fun w0 F0 => .cv (Cv.wk (.l [0] rfl)) (.fact (Has.lenLt (Has.t (t := 0) rfl)) fun lt0 => .fact (Has.okW (Has.t (t := 0) rfl)) fun ok0 => .seq fun _ k1 => .region (st (.as (.cW (f := isU))) rfl (nl (.thn (k1 _ _ (.seq fun _ k2 => .region (st (.mv (.t rfl)) rfl (st (.call (nat_trim) (.cons (.t rfl) .nil)) rfl (.callO (clone_NatO hx) (.cons (.t rfl) .nil) rfl (fun hO1 => ?_) (fun hO1 b1 cb1 jb1 => ?_))))))))))
 ·skip
  refine st (.call (nat_normal (xs := [])) (.cons (.t rfl) .nil)) rfl (st (.as (.t rfl)) rfl (nl (.thn (k2 _ _ (.cv (Cv.wk (.l [2] rfl)) (.ret (rtO0 (.inl rfl) Tryz.results172 rfl ?_ (.tmp (Has.t' rfl ?_) .nil))))))))
  ·exact hO1
  ·exact SlM_eq words_zero
 ·skip
  refine .callM (nat_normalW (words_ne hO1)) (i := 0) rfl (.cons (.t rfl) .nil) rfl (M' := [(_, _)]) rfl (st (.as (.t rfl)) rfl (nl (.thn (k2 _ _ (.cv (Cv.wk (.l [2] rfl)) (.ret (rtO1 (.inl rfl) Tryz.results172 rfl ?_ (b := b1) (c := cb1) (k := jb1) (i := 0) ?_ (.tmp (Has.t' rfl ?_) .nil))))))))
  ·exact hO1
  ·rfl
  ·rfl
end Go.Proofs.YthkdmhaafanjlaaGreat
namespace Go.Nt
theorem bitLen_le64 {x : Nat} (h : x < 18446744073709551616) : bitLen x ≤ 64 := by
 have h1 := (bitLen_spec x).2
 rcases Nat.lt_or_ge 64 (bitLen x) with h2 | h2
 ·have h3 : x ≠ 0 := by intro e; subst e; simp [bitLen] at h2
  have h4 := h1 h3
  have h5 : 2 ^ 64 ≤ 2 ^ (bitLen x - 1) := Nat.pow_le_pow_right (by decide) (by omega)
  omega
 ·exact h2
theorem bitLen_pos {x : Nat} (h : x ≠ 0) : 0 < bitLen x := by unfold bitLen; rw [if_neg h]; omega
theorem lead {y s : Nat} (hy : y < 18446744073709551616) (h0 : y ≠ 0) (hs : s = 64 - bitLen y) : 9223372036854775808 ≤ y * 2 ^ s ∧ y * 2 ^ s < 18446744073709551616 := by
 have h1 := bitLen_spec y
 have h2 := bitLen_le64 hy
 have h3 := bitLen_pos h0
 have h4 := h1.2 h0
 constructor
 ·have : 2 ^ (bitLen y - 1) * 2 ^ s ≤ y * 2 ^ s := Nat.mul_le_mul_right _ h4
  rw [← Nat.pow_add, show bitLen y - 1 + s = 63 by omega] at this
  exact this
 ·have : y * 2 ^ s < 2 ^ bitLen y * 2 ^ s := Nat.mul_lt_mul_of_pos_right h1.1 (Nat.pow_pos (by decide))
  rw [← Nat.pow_add, show bitLen y + s = 64 by omega] at this
  exact this
structure Gs (u u1 v1 v0 q r : Nat) : Prop where
 e : u = q * v1 + r
 le : (u * 4294967296 + u1) / (v1 * 4294967296 + v0) ≤ q
 q : q ≤ 4294967297
 r : r < 4294967296
structure Hv (u u1 v1 v0 : Nat) : Prop where
 a : 2147483648 ≤ v1
 b : v1 < 4294967296
 c : v0 < 4294967296
 d : u < v1 * 4294967296 + v0
 f : u1 < 4294967296
theorem Gs.start {u u1 v1 v0 : Nat} (h : Hv u u1 v1 v0) : Gs u u1 v1 v0 (u / v1) (u - u / v1 * v1) := by
 obtain ⟨h1, h2, h3, h4, h5⟩ := h
 have e1 := Nat.div_add_mod u v1
 have e2 := Nat.mod_lt u (show 0 < v1 by omega)
 rw [Nat.mul_comm] at e1
 refine ⟨by omega, ?_, ?_, by omega⟩
 ·rw [Nat.le_div_iff_mul_le (by omega)]
  have h6 := Nat.div_mul_le_self (u * 4294967296 + u1) (v1 * 4294967296 + v0)
  generalize (u * 4294967296 + u1) / (v1 * 4294967296 + v0) = Q at *
  rw [Nat.mul_add, ← Nat.mul_assoc] at h6
  generalize Q * v1 = p at *
  generalize Q * v0 = p' at *
  omega
 ·rcases Nat.lt_or_ge 4294967297 (u / v1) with h6 | h6
  ·have : 4294967298 * v1 ≤ u / v1 * v1 := Nat.mul_le_mul_right _ h6
   omega
  ·exact h6
theorem Gs.next {u u1 v1 v0 q r : Nat} (h : Hv u u1 v1 v0) (g : Gs u u1 v1 v0 q r) (hc : 4294967296 ≤ q ∨ 4294967296 * r + u1 < q * v0) :
  u = (q - 1) * v1 + (r + v1) ∧ (u * 4294967296 + u1) / (v1 * 4294967296 + v0) ≤ q - 1 ∧ q - 1 ≤ 4294967296 ∧ 1 ≤ q := by
 obtain ⟨h1, h2, h3, h4, h5⟩ := h
 obtain ⟨g1, g2, g3, g4⟩ := g
 have hq : 1 ≤ q := by
  rcases hc with hc | hc
  ·omega
  ·rcases Nat.eq_zero_or_pos q with h | h
   ·subst h; omega
   ·exact h
 have hlt : (u * 4294967296 + u1) / (v1 * 4294967296 + v0) < q := by
  rw [Nat.div_lt_iff_lt_mul (by omega), Nat.mul_add, ← Nat.mul_assoc]
  rcases hc with hc | hc
  ·have h6 : 4294967296 * (v1 * 4294967296 + v0) ≤ q * (v1 * 4294967296 + v0) := Nat.mul_le_mul_right _ hc
   rw [Nat.mul_add q, ← Nat.mul_assoc] at h6
   omega
  ·omega
 refine ⟨?_, by omega, by omega, hq⟩
 obtain ⟨k, rfl⟩ : ∃ k, q = k + 1 := ⟨q - 1, by omega⟩
 rw [Nat.succ_mul] at g1
 simp only [Nat.add_sub_cancel]
 omega
theorem Gs.exit {u u1 v1 v0 q r : Nat} (h : Hv u u1 v1 v0) (g : Gs u u1 v1 v0 q r) (hc : q * v0 ≤ 4294967296 * r + u1) : q = (u * 4294967296 + u1) / (v1 * 4294967296 + v0) := by
 obtain ⟨h1, h2, h3, h4, h5⟩ := h
 obtain ⟨g1, g2, g3, g4⟩ := g
 refine Nat.le_antisymm ?_ g2
 rw [Nat.le_div_iff_mul_le (by omega), Nat.mul_add, ← Nat.mul_assoc]
 omega
theorem Gs.exit2 {u u1 v1 v0 q r : Nat} (h : Hv u u1 v1 v0) (g1 : u = q * v1 + r) (g2 : (u * 4294967296 + u1) / (v1 * 4294967296 + v0) ≤ q) (g3 : q ≤ 4294967296) (hr : 4294967296 ≤ r) :
  q = (u * 4294967296 + u1) / (v1 * 4294967296 + v0) := by
 obtain ⟨h1, h2, h3, h4, h5⟩ := h
 refine Nat.le_antisymm ?_ g2
 rw [Nat.le_div_iff_mul_le (by omega), Nat.mul_add, ← Nat.mul_assoc]
 have : q * v0 ≤ 4294967296 * 4294967295 := Nat.mul_le_mul g3 (by omega)
 omega
theorem mul_bb {q v : Nat} (h1 : q < 4294967296) (h2 : v < 4294967296) : q * v < 18446744073709551616 := Nat.mul_lt_mul'' h1 h2
theorem wrapSub {a u p r : Nat} (h : a * 4294967296 + u = p + r) (hr : r < 18446744073709551616) (hp : u < 4294967296) :
  ((a * 4294967296 % 18446744073709551616 + u) % 18446744073709551616 + (18446744073709551616 - p % 18446744073709551616)) % 18446744073709551616 = r := by omega
theorem wrapAdd {q1 q0 : Nat} (h1 : q1 < 4294967296) (h0 : q0 < 4294967296) : (q1 * 4294967296 % 18446744073709551616 + q0) % 18446744073709551616 = q1 * 4294967296 + q0 := by omega
theorem divMul (t y : Nat) : t = t / y * y + t % y := by have := Nat.div_add_mod t y; rw [Nat.mul_comm] at this; omega
structure D64 (hi lo y s Y A U1 U0 v1 v0 : Nat) : Prop where
 ks : s ≤ 64
 yl : Y < 18446744073709551616
 un32 : hi * 2 ^ s % 18446744073709551616 ||| lo / 2 ^ (64 - s) = A
 al : A < 18446744073709551616
 kv1 : Y / 4294967296 = v1
 kv0 : Y % 4294967296 = v0
 u1 : lo * 2 ^ s % 18446744073709551616 / 4294967296 = U1
 u0 : lo * 2 ^ s % 18446744073709551616 % 4294967296 = U0
 hv : Hv A U1 v1 v0
 kY : v1 * 4294967296 + v0 = Y
 hv2 : Hv ((A * 4294967296 + U1) % Y) U0 v1 v0
 q1 : (A * 4294967296 + U1) / Y < 4294967296
 q0 : ((A * 4294967296 + U1) % Y * 4294967296 + U0) / Y < 4294967296
 r1 : (A * 4294967296 + U1) % Y < 18446744073709551616
 r0 : ((A * 4294967296 + U1) % Y * 4294967296 + U0) % Y < 18446744073709551616
 quo : (A * 4294967296 + U1) / Y * 4294967296 + ((A * 4294967296 + U1) % Y * 4294967296 + U0) / Y = (hi * 18446744073709551616 + lo) / y
 rem : ((A * 4294967296 + U1) % Y * 4294967296 + U0) % Y / 2 ^ s = (hi * 18446744073709551616 + lo) % y
theorem mkHv {u Y n : Nat} (h : u < Y) (h1 : 9223372036854775808 ≤ Y) (h2 : Y < 18446744073709551616) (h3 : n < 4294967296) : Hv u n (Y / 4294967296) (Y % 4294967296) :=
 ⟨by omega, by omega, by omega, by omega, h3⟩
theorem splitY (Y : Nat) : Y / 4294967296 * 4294967296 + Y % 4294967296 = Y := by omega
theorem d64 {hi lo y : Nat} (hlo : lo < 18446744073709551616) (hy : y < 18446744073709551616) (h : hi < y) :
  ∃ s Y A U1 U0 v1 v0, s = 64 - bitLen y ∧ Y = y * 2 ^ s ∧ D64 hi lo y s Y A U1 U0 v1 v0 := by
 obtain ⟨s, hs⟩ : ∃ s, s = 64 - bitLen y := ⟨_, rfl⟩
 have hl := lead hy (by omega) hs
 have hs64 : s ≤ 64 := by omega
 have hp : 0 < 2 ^ s := Nat.pow_pos (by decide)
 have hd : lo / 2 ^ (64 - s) < 2 ^ s := by
  rw [Nat.div_lt_iff_lt_mul (Nat.pow_pos (by decide)), Nat.mul_comm, two64 hs64]; exact hlo
 have hsw := shl_word (d := hi) hs64 hd
 have h1 : hi * 2 ^ s + 2 ^ s ≤ y * 2 ^ s := by rw [← Nat.succ_mul]; exact Nat.mul_le_mul_right _ h
 have h32 : hi * 2 ^ s % 18446744073709551616 ||| lo / 2 ^ (64 - s) = lo / 2 ^ (64 - s) + hi * 2 ^ s := by
  rw [Nat.or_comm]
  refine hsw.1.trans (Nat.mod_eq_of_lt ?_)
  unfold W; omega
 obtain ⟨Y, hY⟩ : ∃ Y, Y = y * 2 ^ s := ⟨_, rfl⟩
 have hlo2 : lo * 2 ^ s / 18446744073709551616 = lo / 2 ^ (64 - s) := by
  have := two64 hs64
  rw [show (18446744073709551616 : Nat) = W from rfl, ← this, Nat.mul_div_mul_right _ _ hp]
 have eN : (hi * 18446744073709551616 + lo) * 2 ^ s = (lo / 2 ^ (64 - s) + hi * 2 ^ s) * 18446744073709551616 + lo * 2 ^ s % 18446744073709551616 := by
  have := Nat.div_add_mod (lo * 2 ^ s) 18446744073709551616
  rw [hlo2] at this
  rw [Nat.add_mul, Nat.mul_right_comm, Nat.add_mul]; omega
 have eq1 : (hi * 18446744073709551616 + lo) * 2 ^ s / Y = (hi * 18446744073709551616 + lo) / y := by rw [hY, Nat.mul_div_mul_right _ _ hp]
 have er1 : (hi * 18446744073709551616 + lo) * 2 ^ s % Y = (hi * 18446744073709551616 + lo) % y * 2 ^ s := by rw [hY, Nat.mul_mod_mul_right]
 rw [eN] at eq1 er1
 rw [← hY] at hl h1
 obtain ⟨A, hA⟩ : ∃ A, A = lo / 2 ^ (64 - s) + hi * 2 ^ s := ⟨_, rfl⟩
 rw [← hA] at h32 eq1 er1
 have hAY : A < Y := by omega
 have hn0 : lo * 2 ^ s % 18446744073709551616 < 18446744073709551616 := Nat.mod_lt _ (by decide)
 obtain ⟨n0, hn⟩ : ∃ n0, n0 = lo * 2 ^ s % 18446744073709551616 := ⟨_, rfl⟩
 rw [← hn] at eq1 er1 hn0
 have hT : (A * 4294967296 + n0 / 4294967296) % Y < Y := Nat.mod_lt _ (by omega)
 have eT := Nat.div_add_mod (A * 4294967296 + n0 / 4294967296) Y
 have e3 : A * 18446744073709551616 + n0 = (A * 4294967296 + n0 / 4294967296) % Y * 4294967296 + n0 % 4294967296 + Y * ((A * 4294967296 + n0 / 4294967296) / Y * 4294967296) := by
  rw [← Nat.mul_assoc]; omega
 rw [e3, Nat.add_mul_div_left _ _ (by omega)] at eq1
 rw [e3, Nat.add_mul_mod_self_left] at er1
 have hq1 : (A * 4294967296 + n0 / 4294967296) / Y < 4294967296 := by
  rw [Nat.div_lt_iff_lt_mul (by omega)]; omega
 have hq0 : ((A * 4294967296 + n0 / 4294967296) % Y * 4294967296 + n0 % 4294967296) / Y < 4294967296 := by
  rw [Nat.div_lt_iff_lt_mul (by omega)]; omega
 have hr0 := Nat.mod_lt ((A * 4294967296 + n0 / 4294967296) % Y * 4294967296 + n0 % 4294967296) (by omega : Y > 0)
 have b0 : n0 % 4294967296 < 4294967296 := Nat.mod_lt _ (by decide)
 have b1 : n0 / 4294967296 < 4294967296 := by rw [Nat.div_lt_iff_lt_mul (by decide)]; exact hn0
 refine ⟨s, Y, A, n0 / 4294967296, n0 % 4294967296, Y / 4294967296, Y % 4294967296, hs, hY, ⟨hs64, hl.2, h32, Nat.lt_trans hAY hl.2, rfl, rfl, by rw [hn], by rw [hn], mkHv hAY hl.1 hl.2 b1, splitY Y, mkHv hT hl.1 hl.2 b0, hq1, hq0, Nat.lt_trans hT hl.2, Nat.lt_trans hr0 hl.2, ?_, ?_⟩⟩
 ·rw [← eq1, Nat.add_comm]
 ·rw [er1, Nat.mul_div_cancel _ hp]
/-! ### division by a word -/
theorem smallStart (A Q j : Nat) : words A ++ List.replicate j 0 = mix ((List.length (words A))) A Q ((List.length (words A))) ++ List.replicate j 0 := by
 congr 1
 unfold mix
 rw [Nat.sub_self]
 conv => lhs; rw [words_wordsN]
 simp [wordsN]
theorem getD_app {xs ys : List Nat} {i : Nat} (h : i < xs.length) : (xs ++ ys).getD i 0 = xs.getD i 0 := by
 rw [List.getD_eq_getElem?_getD, List.getElem?_append_left h, ← List.getD_eq_getElem?_getD]
theorem mix_low {k N' N m j : Nat} (h : j < k) : (mix k N' N m).getD j 0 = dig N' j := by
 unfold mix; rw [getD_app (by rw [wordsN_len]; exact h), wordsN_getD h]
theorem mix_down {A Q m j k d : Nat} (hk : 0 < k) (hm : k ≤ m) (hd : d = dig Q (k - 1)) : (mix k A Q m ++ List.replicate j 0).set (k - 1) d = mix (k - 1) A Q m ++ List.replicate j 0 := by
 obtain ⟨i, rfl⟩ : ∃ i, k = i + 1 := ⟨k - 1, by omega⟩
 simp only [Nat.add_sub_cancel] at *
 rw [List.set_append_left _ _ (by rw [mix_len hm]; omega)]
 congr 1
 unfold mix
 rw [List.set_append_left _ _ (by rw [wordsN_len]; omega), wordsN_succ, List.set_append_right _ _ (by rw [wordsN_len]; exact Nat.le_refl _), wordsN_len, Nat.sub_self, List.set_cons_zero, hd]
 have : m - i = (m - (i + 1)) + 1 := by omega
 rw [this, wordsN, Nat.div_div_eq_div_mul, ← Nat.pow_succ]
 simp [dig]
theorem quo_word {r d x : Nat} (hx : 0 < x) (h : r < x) (hd : d < 18446744073709551616) : (r * 18446744073709551616 + d) / x < 18446744073709551616 := by
 rw [Nat.div_lt_iff_lt_mul hx]; omega
theorem small_step {A x k : Nat} (hx : 0 < x) (hk : 0 < k) : (A / W ^ k % x * 18446744073709551616 + dig A (k - 1)) / x = dig (A / x) (k - 1) ∧ (A / W ^ k % x * 18446744073709551616 + dig A (k - 1)) % x = A / W ^ (k - 1) % x := by
 have e := div_pow_succ A k hk
 have hd := dig_lt A (k - 1)
 have h1 := Nat.div_add_mod (A / W ^ k) x
 have h2 := Nat.mod_lt (A / W ^ k) hx
 have e2 : A / W ^ (k - 1) = (A / W ^ k % x * 18446744073709551616 + dig A (k - 1)) + x * (18446744073709551616 * (A / W ^ k / x)) := by
  rw [e, Nat.mul_left_comm]
  generalize x * (A / W ^ k / x) = p at *
  unfold W at *
  omega
 constructor
 ·rw [dig_def (A / x), Nat.div_div_eq_div_mul, Nat.mul_comm x, ← Nat.div_div_eq_div_mul, e2, Nat.add_mul_div_left _ _ hx, show W = 18446744073709551616 from rfl, Nat.add_mul_mod_self_left]
  symm
  apply Nat.mod_eq_of_lt
  exact quo_word hx h2 hd
 ·rw [e2, Nat.add_mul_mod_self_left]
theorem smallEnd {A x j n : Nat} (hn : n = (List.length (words A))) : ((mix 0 A (A / x) ((List.length (words A))) ++ List.replicate j 0).drop 0).take n = wordsN ((List.length (words A))) (A / x) := by
 subst hn
 rw [List.drop_zero, List.take_left' (by rw [mix_len (Nat.zero_le _)])]
 simp [mix, wordsN]
theorem words_quo (A x : Nat) : words (val (wordsN ((List.length (words A))) (A / x))) = words (A / x) := words_val_wordsN (Nat.lt_of_le_of_lt (Nat.div_le_self _ _) (nw_lt A))
theorem normLe {A x B : Nat} (h : (List.length (words A)) ≤ B) : (List.length (words (A / x % W ^ (List.length (words A))))) ≤ B := Nat.le_trans (nw_mono (Nat.le_trans (Nat.mod_le _ _) (Nat.div_le_self _ _))) h
theorem of_words_nil {A : Nat} (h : words A = []) : A = 0 := by rw [← val_words A, h]; rfl
end Go.Nt
namespace Go.Proofs.YthkdmhaafanjlaaGreat
open Go.En Go.RowKit
set_option maxRecDepth 10000
set_option maxHeartbeats 4000000
open Go.Nt
theorem bits_Len64 {x : Nat} : Ctr Tryz.prog 218 [isU x] (isI (bitLen x : Int)) := by
 refine Ctr.intro Tryz.func218 rfl (by kernel_rfl) Tryz.ntmps218 rfl fun w0 F0 => .cv (Cv.wk (.l [0] rfl)) (.fact (Has.ltU (Has.t (t := 0) rfl)) fun lt0 => .seq fun _ k1 => .region (st (.as (.cI 0 rfl)) rfl (nl (.thn (k1 _ _ (.cutF [] (fun (z : { z : Nat × Nat // bitLen x = z.2 + bitLen z.1 ∧ z.1 < 4294967296 ∧ z.2 ≤ 32 }) => match z with | ⟨(y, n), hI⟩ => [(0, isU y), (2, isI (n : Int))]) (fun M => fun (z : { z : Nat × Nat // bitLen x = z.2 + bitLen z.1 ∧ z.1 < 4294967296 ∧ z.2 ≤ 32 }) => match z with | ⟨(y, n), hI⟩ => M) (fun K2 hK2 => ?_) ?_))))))
 ·skip
  refine .seq fun _ k3 => .region (st (.mv (.t rfl)) rfl (st (.geU (.t rfl) (.cU 4294967296 rfl)) rfl (nl (.thn (k3 _ _ (.cond (.t rfl) (fun hc1 => ?_) (fun hc1 => ?_)))))))
  ·have hc1 := BP.t hc1
   refine .seq fun _ k4 => .region (st (.mv (.t rfl)) rfl (st (.shrUU (.t rfl) (.cU 32 rfl) (by first | omega | assumption)) rfl (st (.as (.t rfl)) rfl (nl (.thn (k4 _ _ (.region (st (.as (.cI 32 rfl)) rfl (nl (.thn ?_))))))))))
   refine hK2 (⟨(x / 2 ^ 32, 32), by have := bitLen_shift x 32 (by omega); exact this, by show x / 2 ^ 32 < _; omega, Nat.le_refl _⟩) _ _ (Cv.mem (.c 0 rfl ?_ (.c 2 rfl ?_ .nil)) ?_)
   ·rfl
   ·rfl
   ·rfl
  ·have hc1 := BP.f hc1
   refine .skip (.thn ?_)
   refine hK2 (⟨(x, 0), (Nat.zero_add _).symm, by show x < _; omega, Nat.zero_le _⟩) _ _ (Cv.mem (.c 0 rfl ?_ (.c 2 rfl ?_ .nil)) ?_)
   ·rfl
   ·rfl
   ·rfl
 rintro ⟨⟨y, n⟩, h1, h2, h3⟩
 refine .cv (Cv.wk (.l [0, 2] rfl)) ?_
 simp only [] at h1 h2 h3
 refine .cutF [] (fun (z : { z : Nat × Nat // bitLen x = z.2 + bitLen z.1 ∧ z.1 < 65536 ∧ z.2 ≤ 48 }) => match z with | ⟨(y, n), hI⟩ => [(0, isU y), (2, isI (n : Int))]) (fun M => fun (z : { z : Nat × Nat // bitLen x = z.2 + bitLen z.1 ∧ z.1 < 65536 ∧ z.2 ≤ 48 }) => match z with | ⟨(y, n), hI⟩ => M) (fun K5 hK5 => ?_) ?_
 ·skip
  refine .seq fun _ k6 => .region (st (.mv (.t rfl)) rfl (st (.geU (.t rfl) (.cU 65536 rfl)) rfl (nl (.thn (k6 _ _ (.cond (.t rfl) (fun hc2 => ?_) (fun hc2 => ?_)))))))
  ·have hc2 := BP.t hc2
   refine .seq fun _ k7 => .region (st (.mv (.t rfl)) rfl (st (.shrUU (.t rfl) (.cU 16 rfl) (by first | omega | assumption)) rfl (st (.as (.t rfl)) rfl (nl (.thn (k7 _ _ (.region (st (.mv (.t rfl)) rfl (st (.addI (.t rfl) (.cI 16 rfl) (by first | omega | assumption) (by first | omega | assumption)) rfl (st (.as (.t rfl)) rfl (nl (.thn ?_))))))))))))
   refine hK5 (⟨(y / 2 ^ 16, n + 16), by have := bitLen_shift y 16 (by omega); show bitLen x = n + 16 + bitLen (y / 2 ^ 16); omega, by show y / 2 ^ 16 < _; omega, by show n + 16 ≤ _; omega⟩) _ _ (Cv.mem (.c 0 rfl ?_ (.c 2 rfl ?_ .nil)) ?_)
   ·rfl
   ·rfl
   ·rfl
  ·have hc2 := BP.f hc2
   refine .skip (.thn ?_)
   refine hK5 (⟨(y, n), h1, by show y < _; omega, by show n ≤ _; omega⟩) _ _ (Cv.mem (.c 0 rfl ?_ (.c 2 rfl ?_ .nil)) ?_)
   ·rfl
   ·rfl
   ·rfl
 rintro ⟨⟨y, n⟩, h1, h2, h3⟩
 refine .cv (Cv.wk (.l [0, 2] rfl)) ?_
 simp only [] at h1 h2 h3
 refine .cutF [] (fun (z : { z : Nat × Nat // bitLen x = z.2 + bitLen z.1 ∧ z.1 < 256 ∧ z.2 ≤ 56 }) => match z with | ⟨(y, n), hI⟩ => [(0, isU y), (2, isI (n : Int))]) (fun M => fun (z : { z : Nat × Nat // bitLen x = z.2 + bitLen z.1 ∧ z.1 < 256 ∧ z.2 ≤ 56 }) => match z with | ⟨(y, n), hI⟩ => M) (fun K8 hK8 => ?_) ?_
 ·skip
  refine .seq fun _ k9 => .region (st (.mv (.t rfl)) rfl (st (.geU (.t rfl) (.cU 256 rfl)) rfl (nl (.thn (k9 _ _ (.cond (.t rfl) (fun hc3 => ?_) (fun hc3 => ?_)))))))
  ·have hc3 := BP.t hc3
   refine .seq fun _ k10 => .region (st (.mv (.t rfl)) rfl (st (.shrUU (.t rfl) (.cU 8 rfl) (by first | omega | assumption)) rfl (st (.as (.t rfl)) rfl (nl (.thn (k10 _ _ (.region (st (.mv (.t rfl)) rfl (st (.addI (.t rfl) (.cI 8 rfl) (by first | omega | assumption) (by first | omega | assumption)) rfl (st (.as (.t rfl)) rfl (nl (.thn ?_))))))))))))
   refine hK8 (⟨(y / 2 ^ 8, n + 8), by have := bitLen_shift y 8 (by omega); show bitLen x = n + 8 + bitLen (y / 2 ^ 8); omega, by show y / 2 ^ 8 < _; omega, by show n + 8 ≤ _; omega⟩) _ _ (Cv.mem (.c 0 rfl ?_ (.c 2 rfl ?_ .nil)) ?_)
   ·rfl
   ·rfl
   ·rfl
  ·have hc3 := BP.f hc3
   refine .skip (.thn ?_)
   refine hK8 (⟨(y, n), h1, by show y < _; omega, by show n ≤ _; omega⟩) _ _ (Cv.mem (.c 0 rfl ?_ (.c 2 rfl ?_ .nil)) ?_)
   ·rfl
   ·rfl
   ·rfl
 rintro ⟨⟨y, n⟩, h1, h2, h3⟩
 refine .cv (Cv.wk (.l [0, 2] rfl)) ?_
 simp only [] at h1 h2 h3
 have h8 := bitLen_le8 y h2
 have hy : Int.toNat (y : Int) = y := rfl
 refine .seq fun _ k11 => .region (st (.mv (.t rfl)) rfl (st (.mv (.t rfl)) rfl (st (.convUu8 un39 un5 (.t rfl) (by first | omega | assumption)) rfl (st (.eq (.idxStr un9 (.t rfl) (by omega) ⟨(show Int.toNat (y : Int) < 256 by omega), len8tab_get _ _⟩) ((show isK .u8 _ = isK .u8 ((bitLen y : Nat) : Int) from rfl))) rfl (st (.convKI un5 un3 (.t rfl) (by first | omega | assumption) (by first | omega | assumption)) rfl (st (.addI (.t rfl) (.t rfl) (by first | omega | assumption) (by first | omega | assumption)) rfl (st (.as (.t rfl)) rfl (nl (.thn (k11 _ _ (.cv (Cv.wk (.l [2] rfl)) (.ret (rt1 (.inl rfl) Tryz.results218 rfl (.tmp (Has.t' rfl ?_) .nil))))))))))))))
 all_goals (exact isI_eq (by omega))
theorem bits_LZ64 {x : Nat} : Ctr Tryz.prog 276 [isU x] (isI ((64 - bitLen x : Nat) : Int)) := by
 refine Ctr.intro Tryz.func276 rfl (by kernel_rfl) Tryz.ntmps276 rfl fun w0 F0 => .cv (Cv.wk (.l [0] rfl)) (.fact (Has.ltU (Has.t (t := 0) rfl)) fun lt0 => ?_)
 have h64 := bitLen_le64 lt0
 refine .seq fun _ k1 => .region (st (.as (.cI 0 rfl)) rfl (nl (.thn (k1 _ _ (.seq fun _ k2 => .region (st (.mv (.t rfl)) rfl (st (.call (bits_Len64) (.cons (.t rfl) .nil)) rfl (st (.subI (.cI 64 rfl) (.t rfl) (by first | omega | assumption) (by first | omega | assumption)) rfl (st (.as (.t rfl)) rfl (nl (.thn (k2 _ _ (.ret (rt1 (.inl rfl) Tryz.results276 rfl (.tmp (Has.t' rfl ?_) .nil)))))))))))))))
 all_goals (exact isI_eq (by omega))
theorem bits_Div64 {hi lo y : Nat} (h : hi < y) : Ctr Tryz.prog 290 [isU hi, isU lo, isU y] (isTup [isU ((hi * 18446744073709551616 + lo) / y), isU ((hi * 18446744073709551616 + lo) % y)]) := by
 refine Ctr.intro Tryz.func290 rfl (by kernel_rfl) Tryz.ntmps290 rfl fun w0 F0 => .cv (Cv.wk (.l [0, 1, 2] rfl)) (.fact (Has.ltU (Has.t (t := 0) rfl)) fun lt0 => .fact (Has.ltU (Has.t (t := 1) rfl)) fun lt1 => .fact (Has.ltU (Has.t (t := 2) rfl)) fun lt2 => ?_)
 obtain ⟨s, Y, A, U1, U0, v1, v0, hs, hY, D⟩ := d64 lt1 lt2 h
 have hs64 := D.ks
 have hYl := D.yl
 have hAl := D.al
 have hV1 := D.hv.a
 have hV1' := D.hv.b
 have hV0 := D.hv.c
 have hU1 := D.hv.f
 have hU0 := D.hv2.f
 have hR1 := D.r1
 have hR0 := D.r0
 have hQ1 := D.q1
 have hQ0 := D.q0
 have dv := Nat.div_mul_le_self A v1
 have dv2 := Nat.div_mul_le_self ((A * 4294967296 + U1) % Y) v1
 refine .seq fun _ k1 => .region (st (.as (.cU 0 rfl)) rfl (st (.as (.cU 0 rfl)) rfl (nl (.thn (k1 _ _ (.seq fun _ k2 => .seq fun _ k3 => .region (st (.mv (.t rfl)) rfl (st (.eqU (.t rfl) (.cU 0 rfl)) rfl (nl (.thn (k3 _ _ (.cond (.t rfl) (fun hc1 => ?_) (fun hc1 => ?_)))))))))))))
 ·have hc1 := BP.t hc1
  exfalso; first | omega | contradiction | (revert hc1; simp)
 ·have hc1 := BP.f hc1
  refine .skip (.thn (k2 _ _ (.seq fun _ k4 => .seq fun _ k5 => .region (st (.mv (.t rfl)) rfl (st (.mv (.t rfl)) rfl (st (.leU (.t rfl) (.t rfl)) rfl (nl (.thn (k5 _ _ (.cond (.t rfl) (fun hc2 => ?_) (fun hc2 => ?_)))))))))))
  ·have hc2 := BP.t hc2
   exfalso; first | omega | contradiction | (revert hc2; simp)
  ·have hc2 := BP.f hc2
   refine .skip (.thn (k4 _ _ (.cv (Cv.wk (.l [0, 1, 2, 6, 7] rfl)) (.seq fun _ k6 => .seq fun _ k7 => .region (st (.mv (.t rfl)) rfl (st (.eqU (.t rfl) (.cU 0 rfl)) rfl (nl (.thn (k7 _ _ (.cond (.t rfl) (fun hc3 => ?_) (fun hc3 => ?_)))))))))))
   ·have hc3 := BP.t hc3
    refine .seq fun _ k8 => .cv (Cv.wk (.l [0, 1, 2, 7, 26, 27] rfl)) (.dr (.s [] rfl rfl rfl (.o rfl (.mv (.t rfl))) (.s [] rfl rfl rfl (.o rfl (.mv (.t rfl))) (.s [28, 29] rfl rfl rfl (.o rfl (.quoU (.t rfl) (.t rfl) (by first | with_reducible exact True.intro | with_reducible assumption | with_reducible exact Nat.div_mul_le_self _ _ | with_reducible exact Nat.lt_of_le_of_lt (Nat.div_mul_le_self _ _) hR1 | omega | exact mul_bb (by omega) (by omega)) (by first | with_reducible exact True.intro | with_reducible assumption | with_reducible exact Nat.div_mul_le_self _ _ | with_reducible exact Nat.lt_of_le_of_lt (Nat.div_mul_le_self _ _) hR1 | omega | exact mul_bb (by omega) (by omega)))) (.s [] rfl rfl rfl (.o rfl (.mv (.t rfl))) (.s [] rfl rfl rfl (.o rfl (.mv (.t rfl))) (.s [31, 32] rfl rfl rfl (.o rfl (.remU (.t rfl) (.t rfl) (by first | with_reducible exact True.intro | with_reducible assumption | with_reducible exact Nat.div_mul_le_self _ _ | with_reducible exact Nat.lt_of_le_of_lt (Nat.div_mul_le_self _ _) hR1 | omega | exact mul_bb (by omega) (by omega)) (by first | with_reducible exact True.intro | with_reducible assumption | with_reducible exact Nat.div_mul_le_self _ _ | with_reducible exact Nat.lt_of_le_of_lt (Nat.div_mul_le_self _ _) hR1 | omega | exact mul_bb (by omega) (by omega)))) (.s [30] rfl rfl rfl (.o rfl (.as (.t rfl))) (.fin (n := 7) mixed (by kernel_rfl) (by kernel_rfl) (by kernel_rfl) (.cv (Cv.wk (.l [0, 1, 2, 7, 33, 6] rfl)) (st (.as (.t rfl)) rfl (nl (.thn (k8 _ _ (.ret (.thr (rtN (.inl rfl) Tryz.results290 rfl rfl (.tmp (Has.t' rfl ?_) (.tmp (Has.t' rfl ?_) .nil)))))))))))))))))))
    ·exact isU_eq (by rw [hc3, Nat.zero_mul, Nat.zero_add])
    ·exact isU_eq (by rw [hc3, Nat.zero_mul, Nat.zero_add])
   ·have hc3 := BP.f hc3
    refine .skip (.thn (k6 _ _ (.seq fun _ k9 => .region (st (.mv (.t rfl)) rfl (st (.call (bits_LZ64) (.cons (.t rfl) .nil)) rfl (st (.eq (.convIU un3 un264 (.t rfl) (by first | with_reducible exact True.intro | with_reducible assumption | with_reducible exact Nat.div_mul_le_self _ _ | with_reducible exact Nat.lt_of_le_of_lt (Nat.div_mul_le_self _ _) hR1 | omega | exact mul_bb (by omega) (by omega)) (by first | with_reducible exact True.intro | with_reducible assumption | with_reducible exact Nat.div_mul_le_self _ _ | with_reducible exact Nat.lt_of_le_of_lt (Nat.div_mul_le_self _ _) hR1 | omega | exact mul_bb (by omega) (by omega))) ((show isU _ = isU s from isU_eq (by omega)))) rfl (st (.as (.t rfl)) rfl (nl (.thn (k9 _ _ (.cv (Cv.wk (.l [0, 1, 2, 6, 7, 8] rfl)) (.seq fun _ k10 => .region (st (.mv (.t rfl)) rfl (st (.mv (.t rfl)) rfl (st (.eq (.shlUU (.t rfl) (.t rfl) (by first | with_reducible exact True.intro | with_reducible assumption | with_reducible exact Nat.div_mul_le_self _ _ | with_reducible exact Nat.lt_of_le_of_lt (Nat.div_mul_le_self _ _) hR1 | omega | exact mul_bb (by omega) (by omega))) ((show isU _ = isU Y from isU_eq (by rw [← hY]; exact Nat.mod_eq_of_lt D.yl)))) rfl ?_)))))))))))))))
    refine st (.as (.t rfl)) rfl (nl (.thn (k10 _ _ (.seq fun _ k11 => .region (st (.mv (.t rfl)) rfl (st (.eq (.shrUU (.t rfl) (.cU 32 rfl) (by first | with_reducible exact True.intro | with_reducible assumption | with_reducible exact Nat.div_mul_le_self _ _ | with_reducible exact Nat.lt_of_le_of_lt (Nat.div_mul_le_self _ _) hR1 | omega | exact mul_bb (by omega) (by omega))) ((show isU _ = isU v1 from isU_eq (by have := D.kv1; omega)))) rfl ?_))))))
    refine st (.as (.t rfl)) rfl (nl (.thn (k11 _ _ (.cv (Cv.wk (.l [0, 1, 2, 6, 7, 8, 9] rfl)) (.seq fun _ k12 => .region (st (.mv (.t rfl)) rfl (st (.eq (.andU (.t rfl) (.cU 4294967295 rfl)) ((show isU _ = isU v0 from isU_eq ((Nat.and_two_pow_sub_one_eq_mod _ 32).trans (by have := D.kv0; omega))))) rfl ?_)))))))
    refine st (.as (.t rfl)) rfl (nl (.thn (k12 _ _ (.seq fun _ k13 => .region (st (.mv (.t rfl)) rfl (st (.mv (.t rfl)) rfl (st (.shlUU (.t rfl) (.t rfl) (by first | with_reducible exact True.intro | with_reducible assumption | with_reducible exact Nat.div_mul_le_self _ _ | with_reducible exact Nat.lt_of_le_of_lt (Nat.div_mul_le_self _ _) hR1 | omega | exact mul_bb (by omega) (by omega))) rfl (st (.mv (.t rfl)) rfl (st (.mv (.t rfl)) rfl (st (.subU' (.cU 64 rfl) (.t rfl) (by first | with_reducible exact True.intro | with_reducible assumption | with_reducible exact Nat.div_mul_le_self _ _ | with_reducible exact Nat.lt_of_le_of_lt (Nat.div_mul_le_self _ _) hR1 | omega | exact mul_bb (by omega) (by omega)) (by first | with_reducible exact True.intro | with_reducible assumption | with_reducible exact Nat.div_mul_le_self _ _ | with_reducible exact Nat.lt_of_le_of_lt (Nat.div_mul_le_self _ _) hR1 | omega | exact mul_bb (by omega) (by omega))) rfl (st (.shrUU (.t rfl) (.t rfl) (by first | with_reducible exact True.intro | with_reducible assumption | with_reducible exact Nat.div_mul_le_self _ _ | with_reducible exact Nat.lt_of_le_of_lt (Nat.div_mul_le_self _ _) hR1 | omega | exact mul_bb (by omega) (by omega))) rfl (st (.eq (.orU (.t rfl) (.t rfl)) ((show isU _ = isU A from isU_eq D.un32))) rfl (st (.as (.t rfl)) rfl (nl (.thn (k13 _ _ (.cv (Cv.wk (.l [1, 2, 6, 7, 8, 9, 10, 11] rfl)) (.seq fun _ k14 => .region (st (.mv (.t rfl)) rfl (st (.mv (.t rfl)) rfl (st (.shlUU (.t rfl) (.t rfl) (by first | with_reducible exact True.intro | with_reducible assumption | with_reducible exact Nat.div_mul_le_self _ _ | with_reducible exact Nat.lt_of_le_of_lt (Nat.div_mul_le_self _ _) hR1 | omega | exact mul_bb (by omega) (by omega))) rfl (st (.as (.t rfl)) rfl (nl (.thn (k14 _ _ (.seq fun _ k15 => .region (st (.mv (.t rfl)) rfl (st (.eq (.shrUU (.t rfl) (.cU 32 rfl) (by first | with_reducible exact True.intro | with_reducible assumption | with_reducible exact Nat.div_mul_le_self _ _ | with_reducible exact Nat.lt_of_le_of_lt (Nat.div_mul_le_self _ _) hR1 | omega | exact mul_bb (by omega) (by omega))) ((show isU _ = isU U1 from isU_eq (by have := D.u1; omega)))) rfl ?_))))))))))))))))))))))))))))
    refine st (.as (.t rfl)) rfl (nl (.thn (k15 _ _ (.cv (Cv.wk (.l [2, 6, 7, 8, 9, 10, 11, 12, 13] rfl)) (.seq fun _ k16 => .region (st (.mv (.t rfl)) rfl (st (.eq (.andU (.t rfl) (.cU 4294967295 rfl)) ((show isU _ = isU U0 from isU_eq ((Nat.and_two_pow_sub_one_eq_mod _ 32).trans (by have := D.u0; omega))))) rfl ?_)))))))
    refine st (.as (.t rfl)) rfl (nl (.thn (k16 _ _ (.seq fun _ k17 => .region (st (.mv (.t rfl)) rfl (st (.mv (.t rfl)) rfl (st (.quoU (.t rfl) (.t rfl) (by first | with_reducible exact True.intro | with_reducible assumption | with_reducible exact Nat.div_mul_le_self _ _ | with_reducible exact Nat.lt_of_le_of_lt (Nat.div_mul_le_self _ _) hR1 | omega | exact mul_bb (by omega) (by omega)) (by first | with_reducible exact True.intro | with_reducible assumption | with_reducible exact Nat.div_mul_le_self _ _ | with_reducible exact Nat.lt_of_le_of_lt (Nat.div_mul_le_self _ _) hR1 | omega | exact mul_bb (by omega) (by omega))) rfl (st (.as (.t rfl)) rfl (nl (.thn (k17 _ _ (.cv (Cv.wk (.l [2, 6, 7, 8, 9, 10, 11, 13, 14, 15] rfl)) (.seq fun _ k18 => .region (st (.mv (.t rfl)) rfl (st (.mv (.t rfl)) rfl (st (.mv (.t rfl)) rfl (st (.mulU' (.t rfl) (.t rfl) (by first | with_reducible exact True.intro | with_reducible assumption | with_reducible exact Nat.div_mul_le_self _ _ | with_reducible exact Nat.lt_of_le_of_lt (Nat.div_mul_le_self _ _) hR1 | omega | exact mul_bb (by omega) (by omega))) rfl (st (.subU' (.t rfl) (.t rfl) (by first | with_reducible exact True.intro | with_reducible assumption | with_reducible exact Nat.div_mul_le_self _ _ | with_reducible exact Nat.lt_of_le_of_lt (Nat.div_mul_le_self _ _) hR1 | omega | exact mul_bb (by omega) (by omega)) (by first | with_reducible exact True.intro | with_reducible assumption | with_reducible exact Nat.div_mul_le_self _ _ | with_reducible exact Nat.lt_of_le_of_lt (Nat.div_mul_le_self _ _) hR1 | omega | exact mul_bb (by omega) (by omega))) rfl (st (.as (.t rfl)) rfl (nl (.thn (k18 _ _ (.cv (Cv.wk (.l [2, 6, 7, 8, 9, 10, 11, 13, 14, 15, 16] rfl)) (.cutF [2, 6, 7, 8, 9, 10, 11, 13, 14] (fun (_ : Unit) => [(15, isU ((A * 4294967296 + U1) / Y))]) (fun M => fun (_ : Unit) => M) (fun K19 hK19 => ?_) ?_))))))))))))))))))))))))
    ·skip
     refine .block (.loopF [2, 6, 7, 8, 9, 10, 11, 13, 14] (fun (z : { z : Nat × Nat // Gs A U1 v1 v0 z.1 z.2 }) => match z with | ⟨(q, r), hI⟩ => [(15, isU q), (16, isU r)]) (fun M => fun (z : { z : Nat × Nat // Gs A U1 v1 v0 z.1 z.2 }) => match z with | ⟨(q, r), hI⟩ => M) (fun (z : { z : Nat × Nat // Gs A U1 v1 v0 z.1 z.2 }) => match z with | ⟨(q, r), hI⟩ => q) (⟨(A / v1, A - A / v1 * v1), Gs.start D.hv⟩) (Cv.mem (.c 15 rfl ?_ (.c 16 rfl ?_ (.l [2, 6, 7, 8, 9, 10, 11, 13, 14] rfl))) ?_) ?_)
     ·rfl
     ·rfl
     ·rfl
     rintro ⟨⟨q, r⟩, g⟩ K20 hK20
     refine .cv (Cv.wk (.l [15, 16, 2, 6, 7, 8, 9, 10, 11, 13, 14] rfl)) ?_
     simp only [] at g
     have gq := g.q
     have gr := g.r
     have hv0 := D.hv.c
     have hv1 := D.hv.b
     have hu1 := D.hv.f
     refine .seq fun _ k21 => .seq fun _ k22 => .region (st (.mv (.t rfl)) rfl (st (.geU (.t rfl) (.cU 4294967296 rfl)) rfl (st (.mv (.t rfl)) rfl ?_)))
     refine stF rfl rfl (fun hg => have hg' := BP.t hg; OK1.mv (.t rfl)) rfl ?_
     refine stF rfl rfl (fun hg => have hg' := BP.t hg; OK1.mv (.t rfl)) rfl ?_
     refine stF rfl rfl (fun hg => have hg' := BP.t hg; OK1.mulU' (Has.g rfl hg) (Has.g rfl hg) (by first | with_reducible exact True.intro | with_reducible assumption | with_reducible exact Nat.div_mul_le_self _ _ | with_reducible exact Nat.lt_of_le_of_lt (Nat.div_mul_le_self _ _) hR1 | omega | exact mul_bb (by omega) (by omega))) rfl ?_
     refine stF rfl rfl (fun hg => have hg' := BP.t hg; OK1.mv (.t rfl)) rfl ?_
     refine stF rfl rfl (fun hg => have hg' := BP.t hg; OK1.mulU' (.cU 4294967296 rfl) (Has.g rfl hg) (by first | with_reducible exact True.intro | with_reducible assumption | with_reducible exact Nat.div_mul_le_self _ _ | with_reducible exact Nat.lt_of_le_of_lt (Nat.div_mul_le_self _ _) hR1 | omega | exact mul_bb (by omega) (by omega))) rfl ?_
     refine stF rfl rfl (fun hg => have hg' := BP.t hg; OK1.mv (.t rfl)) rfl ?_
     refine stF rfl rfl (fun hg => have hg' := BP.t hg; OK1.addU' (Has.g rfl hg) (Has.g rfl hg) (by first | with_reducible exact True.intro | with_reducible assumption | with_reducible exact Nat.div_mul_le_self _ _ | with_reducible exact Nat.lt_of_le_of_lt (Nat.div_mul_le_self _ _) hR1 | omega | exact mul_bb (by omega) (by omega))) rfl ?_
     refine stF rfl rfl (fun hg => have hg' := BP.t hg; OK1.gtU (Has.g rfl hg) (Has.g rfl hg)) rfl ?_
     refine st (.pickOr (.t rfl) (fun h => Has.g rfl (ng h))) rfl (nl (.thn (k22 _ _ (.cond (.t rfl) (fun hc4 => ?_) (fun hc4 => ?_)))))
     ·have hc4 := BP.t hc4
      have hn := Gs.next D.hv g hc4
      refine .skip (.thn (k21 _ _ (.block (.seq fun _ k23 => .region (st (.mv (.t rfl)) rfl (st (.subU' (.t rfl) (.cU 1 rfl) (by first | with_reducible exact True.intro | with_reducible assumption | with_reducible exact Nat.div_mul_le_self _ _ | with_reducible exact Nat.lt_of_le_of_lt (Nat.div_mul_le_self _ _) hR1 | omega | exact mul_bb (by omega) (by omega)) (by first | with_reducible exact True.intro | with_reducible assumption | with_reducible exact Nat.div_mul_le_self _ _ | with_reducible exact Nat.lt_of_le_of_lt (Nat.div_mul_le_self _ _) hR1 | omega | exact mul_bb (by omega) (by omega))) rfl (st (.as (.t rfl)) rfl (nl (.thn (k23 _ _ (.seq fun _ k24 => .region (st (.mv (.t rfl)) rfl (st (.mv (.t rfl)) rfl (st (.addU' (.t rfl) (.t rfl) (by first | with_reducible exact True.intro | with_reducible assumption | with_reducible exact Nat.div_mul_le_self _ _ | with_reducible exact Nat.lt_of_le_of_lt (Nat.div_mul_le_self _ _) hR1 | omega | exact mul_bb (by omega) (by omega))) rfl (st (.as (.t rfl)) rfl (nl (.thn (k24 _ _ (.seq fun _ k25 => .region (st (.mv (.t rfl)) rfl (st (.geU (.t rfl) (.cU 4294967296 rfl)) rfl (nl (.thn (k25 _ _ (.cond (.t rfl) (fun hc5 => ?_) (fun hc5 => ?_))))))))))))))))))))))))))
      ·have hc5 := BP.t hc5
       refine .exit (.blm rfl (.the (.blh (.thn (hK19 (()) _ _ (Cv.mem (.c 15 rfl ?_ (.l [2, 6, 7, 8, 9, 10, 11, 13, 14] rfl)) ?_))))))
       ·exact isU_eq ((Gs.exit2 D.hv hn.1 hn.2.1 hn.2.2.1 (by omega)).trans (by rw [D.kY]))
       ·rfl
      ·have hc5 := BP.f hc5
       refine .skip (.bln (.thn ?_))
       refine hK20 (⟨(q - 1, r + v1), hn.1, hn.2.1, by show q - 1 ≤ _; omega, by show r + v1 < _; omega⟩) _ _ ?_ (Cv.mem (.c 15 rfl ?_ (.c 16 rfl ?_ (.l [2, 6, 7, 8, 9, 10, 11, 13, 14] rfl))) ?_)
       ·show q - 1 < q; omega
       ·rfl
       ·rfl
       ·rfl
     ·have hc4 := BP.f hc4
      refine .exit (.the (.the (.blh (.thn (hK19 (()) _ _ (Cv.mem (.c 15 rfl ?_ (.l [2, 6, 7, 8, 9, 10, 11, 13, 14] rfl)) ?_))))))
      ·exact isU_eq ((Gs.exit D.hv g (by omega)).trans (by rw [D.kY]))
      ·rfl
    rintro _
    refine .cv (Cv.wk (.l [15, 2, 6, 7, 8, 9, 10, 11, 13, 14] rfl)) (.seq fun _ k26 => .region (st (.mv (.t rfl)) rfl (st (.mulU (.t rfl) (.cU 4294967296 rfl)) rfl (st (.mv (.t rfl)) rfl (st (.addU (.t rfl) (.t rfl)) rfl (st (.mv (.t rfl)) rfl (st (.mv (.t rfl)) rfl (st (.mulU (.t rfl) (.t rfl)) rfl (st (.eq (.subU (.t rfl) (.t rfl) (by first | with_reducible exact True.intro | with_reducible assumption | with_reducible exact Nat.div_mul_le_self _ _ | with_reducible exact Nat.lt_of_le_of_lt (Nat.div_mul_le_self _ _) hR1 | omega | exact mul_bb (by omega) (by omega))) ((show isU _ = isU ((A * 4294967296 + U1) % Y) from isU_eq (wrapSub (divMul _ _) hR1 hU1)))) rfl (st (.as (.t rfl)) rfl (nl (.thn (k26 _ _ (.cv (Cv.wk (.l [2, 6, 7, 8, 9, 10, 14, 15, 17] rfl)) (.seq fun _ k27 => .region (st (.mv (.t rfl)) rfl (st (.mv (.t rfl)) rfl (st (.quoU (.t rfl) (.t rfl) (by first | with_reducible exact True.intro | with_reducible assumption | with_reducible exact Nat.div_mul_le_self _ _ | with_reducible exact Nat.lt_of_le_of_lt (Nat.div_mul_le_self _ _) hR1 | omega | exact mul_bb (by omega) (by omega)) (by first | with_reducible exact True.intro | with_reducible assumption | with_reducible exact Nat.div_mul_le_self _ _ | with_reducible exact Nat.lt_of_le_of_lt (Nat.div_mul_le_self _ _) hR1 | omega | exact mul_bb (by omega) (by omega))) rfl (st (.as (.t rfl)) rfl (nl (.thn (k27 _ _ (.seq fun _ k28 => .region (st (.mv (.t rfl)) rfl (st (.mv (.t rfl)) rfl (st (.mv (.t rfl)) rfl (st (.mulU' (.t rfl) (.t rfl) (by first | with_reducible exact True.intro | with_reducible assumption | with_reducible exact Nat.div_mul_le_self _ _ | with_reducible exact Nat.lt_of_le_of_lt (Nat.div_mul_le_self _ _) hR1 | omega | exact mul_bb (by omega) (by omega))) rfl (st (.subU' (.t rfl) (.t rfl) (by first | with_reducible exact True.intro | with_reducible assumption | with_reducible exact Nat.div_mul_le_self _ _ | with_reducible exact Nat.lt_of_le_of_lt (Nat.div_mul_le_self _ _) hR1 | omega | exact mul_bb (by omega) (by omega)) (by first | with_reducible exact True.intro | with_reducible assumption | with_reducible exact Nat.div_mul_le_self _ _ | with_reducible exact Nat.lt_of_le_of_lt (Nat.div_mul_le_self _ _) hR1 | omega | exact mul_bb (by omega) (by omega))) rfl (st (.as (.t rfl)) rfl (nl (.thn (k28 _ _ (.cv (Cv.wk (.l [2, 6, 7, 8, 9, 10, 14, 15, 17, 18, 16] rfl)) (.cutF [2, 6, 7, 8, 14, 15, 17] (fun (_ : Unit) => [(18, isU ((((A * 4294967296 + U1) % Y) * 4294967296 + U0) / Y))]) (fun M => fun (_ : Unit) => M) (fun K29 hK29 => ?_) ?_))))))))))))))))))))))))))))))))))
    ·skip
     refine .block (.loopF [2, 6, 7, 8, 9, 10, 14, 15, 17] (fun (z : { z : Nat × Nat // Gs ((A * 4294967296 + U1) % Y) U0 v1 v0 z.1 z.2 }) => match z with | ⟨(q, r), hI⟩ => [(18, isU q), (16, isU r)]) (fun M => fun (z : { z : Nat × Nat // Gs ((A * 4294967296 + U1) % Y) U0 v1 v0 z.1 z.2 }) => match z with | ⟨(q, r), hI⟩ => M) (fun (z : { z : Nat × Nat // Gs ((A * 4294967296 + U1) % Y) U0 v1 v0 z.1 z.2 }) => match z with | ⟨(q, r), hI⟩ => q) (⟨(((A * 4294967296 + U1) % Y) / v1, ((A * 4294967296 + U1) % Y) - ((A * 4294967296 + U1) % Y) / v1 * v1), Gs.start D.hv2⟩) (Cv.mem (.c 18 rfl ?_ (.c 16 rfl ?_ (.l [2, 6, 7, 8, 9, 10, 14, 15, 17] rfl))) ?_) ?_)
     ·rfl
     ·rfl
     ·rfl
     rintro ⟨⟨q, r⟩, g⟩ K30 hK30
     refine .cv (Cv.wk (.l [18, 16, 2, 6, 7, 8, 9, 10, 14, 15, 17] rfl)) ?_
     simp only [] at g
     have gq := g.q
     have gr := g.r
     have hv0 := D.hv2.c
     have hv1 := D.hv2.b
     have hu1 := D.hv2.f
     refine .seq fun _ k31 => .seq fun _ k32 => .region (st (.mv (.t rfl)) rfl (st (.geU (.t rfl) (.cU 4294967296 rfl)) rfl (st (.mv (.t rfl)) rfl ?_)))
     refine stF rfl rfl (fun hg => have hg' := BP.t hg; OK1.mv (.t rfl)) rfl ?_
     refine stF rfl rfl (fun hg => have hg' := BP.t hg; OK1.mv (.t rfl)) rfl ?_
     refine stF rfl rfl (fun hg => have hg' := BP.t hg; OK1.mulU' (Has.g rfl hg) (Has.g rfl hg) (by first | with_reducible exact True.intro | with_reducible assumption | with_reducible exact Nat.div_mul_le_self _ _ | with_reducible exact Nat.lt_of_le_of_lt (Nat.div_mul_le_self _ _) hR1 | omega | exact mul_bb (by omega) (by omega))) rfl ?_
     refine stF rfl rfl (fun hg => have hg' := BP.t hg; OK1.mv (.t rfl)) rfl ?_
     refine stF rfl rfl (fun hg => have hg' := BP.t hg; OK1.mulU' (.cU 4294967296 rfl) (Has.g rfl hg) (by first | with_reducible exact True.intro | with_reducible assumption | with_reducible exact Nat.div_mul_le_self _ _ | with_reducible exact Nat.lt_of_le_of_lt (Nat.div_mul_le_self _ _) hR1 | omega | exact mul_bb (by omega) (by omega))) rfl ?_
     refine stF rfl rfl (fun hg => have hg' := BP.t hg; OK1.mv (.t rfl)) rfl ?_
     refine stF rfl rfl (fun hg => have hg' := BP.t hg; OK1.addU' (Has.g rfl hg) (Has.g rfl hg) (by first | with_reducible exact True.intro | with_reducible assumption | with_reducible exact Nat.div_mul_le_self _ _ | with_reducible exact Nat.lt_of_le_of_lt (Nat.div_mul_le_self _ _) hR1 | omega | exact mul_bb (by omega) (by omega))) rfl ?_
     refine stF rfl rfl (fun hg => have hg' := BP.t hg; OK1.gtU (Has.g rfl hg) (Has.g rfl hg)) rfl ?_
     refine st (.pickOr (.t rfl) (fun h => Has.g rfl (ng h))) rfl (nl (.thn (k32 _ _ (.cond (.t rfl) (fun hc6 => ?_) (fun hc6 => ?_)))))
     ·have hc6 := BP.t hc6
      have hn := Gs.next D.hv2 g hc6
      refine .skip (.thn (k31 _ _ (.block (.seq fun _ k33 => .region (st (.mv (.t rfl)) rfl (st (.subU' (.t rfl) (.cU 1 rfl) (by first | with_reducible exact True.intro | with_reducible assumption | with_reducible exact Nat.div_mul_le_self _ _ | with_reducible exact Nat.lt_of_le_of_lt (Nat.div_mul_le_self _ _) hR1 | omega | exact mul_bb (by omega) (by omega)) (by first | with_reducible exact True.intro | with_reducible assumption | with_reducible exact Nat.div_mul_le_self _ _ | with_reducible exact Nat.lt_of_le_of_lt (Nat.div_mul_le_self _ _) hR1 | omega | exact mul_bb (by omega) (by omega))) rfl (st (.as (.t rfl)) rfl (nl (.thn (k33 _ _ (.seq fun _ k34 => .region (st (.mv (.t rfl)) rfl (st (.mv (.t rfl)) rfl (st (.addU' (.t rfl) (.t rfl) (by first | with_reducible exact True.intro | with_reducible assumption | with_reducible exact Nat.div_mul_le_self _ _ | with_reducible exact Nat.lt_of_le_of_lt (Nat.div_mul_le_self _ _) hR1 | omega | exact mul_bb (by omega) (by omega))) rfl (st (.as (.t rfl)) rfl (nl (.thn (k34 _ _ (.seq fun _ k35 => .region (st (.mv (.t rfl)) rfl (st (.geU (.t rfl) (.cU 4294967296 rfl)) rfl (nl (.thn (k35 _ _ (.cond (.t rfl) (fun hc7 => ?_) (fun hc7 => ?_))))))))))))))))))))))))))
      ·have hc7 := BP.t hc7
       refine .exit (.blm rfl (.the (.blh (.thn (hK29 (()) _ _ (Cv.mem (.c 18 rfl ?_ (.l [2, 6, 7, 8, 14, 15, 17] rfl)) ?_))))))
       ·exact isU_eq ((Gs.exit2 D.hv2 hn.1 hn.2.1 hn.2.2.1 (by omega)).trans (by rw [D.kY]))
       ·rfl
      ·have hc7 := BP.f hc7
       refine .skip (.bln (.thn ?_))
       refine hK30 (⟨(q - 1, r + v1), hn.1, hn.2.1, by show q - 1 ≤ _; omega, by show r + v1 < _; omega⟩) _ _ ?_ (Cv.mem (.c 18 rfl ?_ (.c 16 rfl ?_ (.l [2, 6, 7, 8, 9, 10, 14, 15, 17] rfl))) ?_)
       ·show q - 1 < q; omega
       ·rfl
       ·rfl
       ·rfl
     ·have hc6 := BP.f hc6
      refine .exit (.the (.the (.blh (.thn (hK29 (()) _ _ (Cv.mem (.c 18 rfl ?_ (.l [2, 6, 7, 8, 14, 15, 17] rfl)) ?_))))))
      ·exact isU_eq ((Gs.exit D.hv2 g (by omega)).trans (by rw [D.kY]))
      ·rfl
    rintro _
    refine .cv (Cv.wk (.l [18, 2, 6, 7, 8, 14, 15, 17] rfl)) (.seq fun _ k36 => .region (st (.mv (.t rfl)) rfl (st (.mulU (.t rfl) (.cU 4294967296 rfl)) rfl (st (.mv (.t rfl)) rfl (st (.addU (.t rfl) (.t rfl)) rfl (st (.mv (.t rfl)) rfl (st (.mulU (.t rfl) (.cU 4294967296 rfl)) rfl (st (.mv (.t rfl)) rfl (st (.addU (.t rfl) (.t rfl)) rfl (st (.mv (.t rfl)) rfl (st (.mv (.t rfl)) rfl (st (.mulU (.t rfl) (.t rfl)) rfl (st (.eq (.subU (.t rfl) (.t rfl) (by first | with_reducible exact True.intro | with_reducible assumption | with_reducible exact Nat.div_mul_le_self _ _ | with_reducible exact Nat.lt_of_le_of_lt (Nat.div_mul_le_self _ _) hR1 | omega | exact mul_bb (by omega) (by omega))) ((show isU _ = isU ((((A * 4294967296 + U1) % Y) * 4294967296 + U0) % Y) from isU_eq (wrapSub (divMul _ _) hR0 hU0)))) rfl (st (.mv (.t rfl)) rfl (st (.shrUU (.t rfl) (.t rfl) (by first | with_reducible exact True.intro | with_reducible assumption | with_reducible exact Nat.div_mul_le_self _ _ | with_reducible exact Nat.lt_of_le_of_lt (Nat.div_mul_le_self _ _) hR1 | omega | exact mul_bb (by omega) (by omega))) rfl (st (.as (.t rfl)) rfl (st (.as (.t rfl)) rfl (nl (.thn (k36 _ _ (.cv (Cv.wk (.l [6, 7] rfl)) (.ret (rtN (.inl rfl) Tryz.results290 rfl rfl (.tmp (Has.t' rfl ?_) (.tmp (Has.t' rfl ?_) .nil)))))))))))))))))))))))))
    ·exact isU_eq (Eq.trans (wrapAdd hQ1 hQ0) D.quo)
    ·exact isU_eq D.rem
end Go.Proofs.YthkdmhaafanjlaaGreat
namespace Go.Nt
set_option maxRecDepth 8000
def gss (u2 u1 u0 v1 v0 : Nat) : Nat := min (((u2 * 18446744073709551616 + u1) * 18446744073709551616 + u0) / (v1 * 18446744073709551616 + v0)) 18446744073709551615
structure Gw (u2 u1 u0 v1 v0 q r : Nat) : Prop where
 e : u2 * 18446744073709551616 + u1 = q * v1 + r
 le : gss u2 u1 u0 v1 v0 ≤ q
 q : q ≤ 18446744073709551615
 r : r < 36893488147419103232
theorem gss_max {u2 u1 u0 v1 v0 : Nat} (h : v1 < u2) (h0 : v0 < 18446744073709551616) (h1 : 0 < v1) : 18446744073709551615 = gss u2 u1 u0 v1 v0 := by
 unfold gss
 rw [Nat.min_eq_right]
 rw [Nat.le_div_iff_mul_le (by omega)]
 omega
theorem low_le {p p' t u0 w : Nat} (h : p * w + p' ≤ t * w + u0) (h0 : u0 < w) : p ≤ t := by
 apply Nat.le_of_lt_succ
 apply Nat.lt_of_mul_lt_mul_right (a := w)
 rw [Nat.succ_mul]; omega
theorem low_lt {p p' r u0 w : Nat} (h : r * w + u0 < p') : (p + r) * w + u0 < p * w + p' := by rw [Nat.add_mul]; omega
theorem Gw.same {u2 u1 u0 v1 v0 : Nat} (h : u2 = v1) (h1 : u1 < 18446744073709551616) (h2 : v1 < 18446744073709551616) : Gw u2 u1 u0 v1 v0 18446744073709551615 (u1 + v1) :=
 ⟨by omega, Nat.min_le_right _ _, Nat.le_refl _, by omega⟩
theorem Gw.start {u2 u1 u0 v1 v0 : Nat} (h : u2 < v1) (h1 : u1 < 18446744073709551616) (h0 : u0 < 18446744073709551616) (h2 : v1 < 18446744073709551616) :
  Gw u2 u1 u0 v1 v0 ((u2 * 18446744073709551616 + u1) / v1) ((u2 * 18446744073709551616 + u1) % v1) := by
 have e1 := divMul (u2 * 18446744073709551616 + u1) v1
 have e2 := Nat.mod_lt (u2 * 18446744073709551616 + u1) (show 0 < v1 by omega)
 refine ⟨e1, ?_, ?_, by omega⟩
 ·refine Nat.le_trans (Nat.min_le_left _ _) ?_
  rw [Nat.le_div_iff_mul_le (by omega)]
  have h6 := Nat.div_mul_le_self ((u2 * 18446744073709551616 + u1) * 18446744073709551616 + u0) (v1 * 18446744073709551616 + v0)
  rw [Nat.mul_add, ← Nat.mul_assoc] at h6
  exact low_le h6 h0
 ·exact Nat.le_of_lt_succ (quo_word (r := u2) (d := u1) (by omega) h h1)
theorem Gw.next {u2 u1 u0 v1 v0 q r : Nat} (h1 : 0 < v1) (h2 : v1 < 18446744073709551616) (g : Gw u2 u1 u0 v1 v0 q r) (hr : r < 18446744073709551616) (hc : r * 18446744073709551616 + u0 < q * v0) :
  Gw u2 u1 u0 v1 v0 (q - 1) (r + v1) ∧ 1 ≤ q := by
 obtain ⟨g1, g2, g3, g4⟩ := g
 have hq : 1 ≤ q := by
  rcases Nat.eq_zero_or_pos q with h | h
  ·subst h; omega
  ·exact h
 have hlt : ((u2 * 18446744073709551616 + u1) * 18446744073709551616 + u0) / (v1 * 18446744073709551616 + v0) < q := by
  rw [Nat.div_lt_iff_lt_mul (by omega), Nat.mul_add, ← Nat.mul_assoc, g1]
  exact low_lt hc
 refine ⟨⟨?_, ?_, by omega, by omega⟩, hq⟩
 ·obtain ⟨k, rfl⟩ : ∃ k, q = k + 1 := ⟨q - 1, by omega⟩
  rw [Nat.succ_mul] at g1
  simp only [Nat.add_sub_cancel]
  omega
 ·exact Nat.le_trans (Nat.min_le_left _ _) (by omega)
theorem Gw.exit {u2 u1 u0 v1 v0 q r : Nat} (h1 : 0 < v1) (g : Gw u2 u1 u0 v1 v0 q r) (hc : q * v0 ≤ r * 18446744073709551616 + u0) : q = gss u2 u1 u0 v1 v0 := by
 obtain ⟨g1, g2, g3, g4⟩ := g
 refine Nat.le_antisymm ?_ g2
 refine Nat.le_min.2 ⟨?_, g3⟩
 rw [Nat.le_div_iff_mul_le (by omega), Nat.mul_add, ← Nat.mul_assoc, g1]
 omega
theorem Gw.exit2 {u2 u1 u0 v1 v0 q r : Nat} (h1 : 0 < v1) (g : Gw u2 u1 u0 v1 v0 q r) (h0 : v0 < 18446744073709551616) (hr : 18446744073709551616 ≤ r) : q = gss u2 u1 u0 v1 v0 := by
 refine g.exit h1 ?_
 have : q * v0 ≤ 18446744073709551615 * 18446744073709551615 := Nat.mul_le_mul g.q (by omega)
 omega
theorem test_le {p r u0 : Nat} (hr : r < 18446744073709551616) (hu : u0 < 18446744073709551616) : (p / 18446744073709551616 < r ∨ p / 18446744073709551616 = r ∧ p % 18446744073709551616 ≤ u0) ↔ p ≤ r * 18446744073709551616 + u0 := by omega
/-! ### a multiple taken away, in place -/
theorem dig_nil (i : Nat) : dig 0 i = 0 := by unfold dig; simp
theorem mul_step0 (A x i : Nat) : dig A i * x + mcar 0 A x i = dig (A * x) i + W * mcar 0 A x (i + 1) := by
 have := mul_step_eq 0 A x i
 rw [dig_nil, Nat.zero_add, Nat.zero_add] at this; exact this
theorem take_word {x y c t u : Nat} (hx : x < W) (hy : y < W) (hc : c < W) (ht : t < W) (he : y * x + c = t + W * u) :
  (x * y % 18446744073709551616 + c + 0) % 18446744073709551616 = t ∧ x * y / 18446744073709551616 + (x * y % 18446744073709551616 + c + 0) / 18446744073709551616 = u ∧ u < 18446744073709551616 := by
 have hxy : x * y ≤ 18446744073709551615 * 18446744073709551615 := Nat.mul_le_mul (by unfold W at hx; omega) (by unfold W at hy; omega)
 rw [Nat.mul_comm y x] at he
 generalize x * y = p at *
 unfold W at *
 omega
theorem dig_mod {X i j : Nat} (h : j < i) : dig (X % W ^ i) j = dig X j := by
 obtain ⟨k, rfl⟩ : ∃ k, i = j + 1 + k := ⟨i - (j + 1), by omega⟩
 rw [dig, dig, Nat.add_assoc, Nat.pow_add, Nat.mod_mul_right_div_self, Nat.pow_add, Nat.pow_one, Nat.mod_mul_right_mod]
theorem pow_dvd' {i k : Nat} (h : i ≤ k) : W ^ k = W ^ i * W ^ (k - i) := by rw [← Nat.pow_add]; congr 1; omega
theorem dig_add_high {w k i : Nat} (h : i < k) : dig (w + W ^ k) i = dig w i := by
 rw [dig, dig, pow_dvd' (Nat.le_of_lt h), Nat.add_mul_div_left _ _ (pow_pos' i), pow_dvd' (show 1 ≤ k - i by omega), Nat.pow_one, Nat.add_mul_mod_self_left]
theorem bor_add_high {w p k i : Nat} (h : i ≤ k) : bor (w + W ^ k) p i = bor w p i := by
 unfold bor; rw [pow_dvd' h, Nat.add_mul_mod_self_left]
def wdiff (w p k : Nat) : Nat := (w + W ^ k - p) % W ^ k
theorem wd_dig {w p k i : Nat} (hp : p < W ^ k) (h : i < k) : (dig w i + W - dig p i - bor w p i) % W = dig (wdiff w p k) i := by
 have := sub_dig (p := w + W ^ k) (q := p) (by omega) i
 rw [dig_add_high h, bor_add_high (Nat.le_of_lt h)] at this
 rw [this, wdiff, dig_mod h]
theorem bor_top {w p k : Nat} (hw : w < W ^ k) (hp : p < W ^ k) : bor w p k = if w < p then 1 else 0 := by
 unfold bor; rw [Nat.mod_eq_of_lt hw, Nat.mod_eq_of_lt hp]
theorem win_div (N o D : Nat) : (N % W ^ o + W ^ o * D) / W ^ o = D := by
 rw [Nat.add_mul_div_left _ _ (pow_pos' o), Nat.div_eq_of_lt (Nat.mod_lt _ (pow_pos' o)), Nat.zero_add]
theorem win_mod (N o D : Nat) : (N % W ^ o + W ^ o * D) % W ^ o = N % W ^ o := by rw [Nat.add_mul_mod_self_left, Nat.mod_mod]
theorem winPut {N m o i d D : Nat} (h : o + i < m) (hd : d = dig D i) : (mix (o + i) (N % W ^ o + W ^ o * D) N m).set (o + i) d = mix (o + (i + 1)) (N % W ^ o + W ^ o * D) N m :=
 mix_set h rfl (by rw [hd, dig_add_pow _ _ _ _ (win_div _ _ _)])
theorem winEnd {N m o k D : Nat} (hm : o + k ≤ m) (hn : N / W ^ o < W ^ k) (hD : D < W ^ k) : mix (o + k) (N % W ^ o + W ^ o * D) N m = wordsN m (N % W ^ o + W ^ o * D) := by
 refine mix_end hm ?_
 rw [div_pow_add, div_pow_add, win_div, Nat.div_eq_of_lt hn, Nat.div_eq_of_lt hD]
theorem wdiff_lt (w p k : Nat) : wdiff w p k < W ^ k := Nat.mod_lt _ (pow_pos' k)
theorem mcar_top {v q k : Nat} (hv : v < W ^ k) (hq : q < W) : mcar 0 v q k = dig (v * q) k := by
 have h := mul_top (n := 0) (x := q) (pow_pos' k) hv
 rw [Nat.zero_add] at h
 rw [dig_def, h, Nat.mod_eq_of_lt (Nat.lt_of_le_of_lt (mcar_le _ _ _ _) hq)]
theorem vq_lt {v q k : Nat} (hv : v < W ^ k) (hq : q < W) : v * q < W ^ (k + 1) := by rw [Nat.pow_succ]; exact Nat.mul_lt_mul'' hv hq
theorem rowGet' {N' N m o i j : Nat} (h : i ≤ j) (hj : o + j < m) : (mix (o + i) N' N m).getD (o + j) 0 = dig (N / W ^ o) j := by
 rw [mix_getD (Nat.add_le_add_left h o) hj, dig_add_pow _ _ _ _ rfl]
theorem takeTop {w v q k : Nat} (hv : v < W ^ k) (hq : q < W) : (dig w k + W - mcar 0 v q k - bor w (v * q) k) % W = dig (wdiff w (v * q) (k + 1)) k := by
 rw [mcar_top hv hq]; exact wd_dig (vq_lt hv hq) (Nat.lt_succ_self k)
theorem takeBor {w v q k : Nat} (hv : v < W ^ k) (hq : q < W) (hw : w < W ^ (k + 1)) : (!decide ((if dig w k < mcar 0 v q k + bor w (v * q) k then 1 else 0) = 0)) = decide (w < v * q) := by
 rw [mcar_top hv hq, bor_succ, bor_top hw (vq_lt hv hq)]
 by_cases h : w < v * q <;> simp [h]
def wsum (w p k : Nat) : Nat := (w + p) % W ^ k
theorem wsum_lt (w p k : Nat) : wsum w p k < W ^ k := Nat.mod_lt _ (pow_pos' k)
theorem ws_dig {w p k i : Nat} (h : i < k) : (dig w i + dig p i + car w p i) % W = dig (wsum w p k) i := by rw [add_dig, wsum, dig_mod h]
theorem backTop {w v k : Nat} (hv : v < W ^ k) : (dig w k + car w v k) % W = dig (wsum w v (k + 1)) k := by
 have h := ws_dig (w := w) (p := v) (Nat.lt_succ_self k)
 rw [show dig v k = 0 from by rw [dig, Nat.div_eq_of_lt hv]; rfl, Nat.add_zero] at h
 exact h
end Go.Nt
