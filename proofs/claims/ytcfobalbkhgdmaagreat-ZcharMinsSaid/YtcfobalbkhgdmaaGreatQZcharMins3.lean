/- Rules and contracts, part 3 of 6. -/
import Derived.Test.YtcfobalbkhgdmaaGreatQZcharMins2
namespace Go.En
open Go.RowKit
section
variable {E : Env} {P : Program} {Γ : Ctx} {M : Mem} {ty : TypeId} {pos : String} {after : Array Edge} {gd : Option (Nat × Bool)} {d : Option Tmp}
 {ops : Array Oper} {Q : Exit → Act → World → Prop} {rest : List Oper}
structure MidD2 (E : Env) (P : Program) (l : List Oper) (Γ : Ctx) (Ss : List VP) (n1 : Nat) (ds : List Nat) (m : Nat) (Cs : List MP) (M : Mem) (Cs' : List MP) (M' : Mem) : Prop where
 ex : ∃ (o : Oper) (Δ : Ctx) (req : List Nat), l[n1 + m]? = some o ∧
  (∀ t S, look Δ t = some S → (∃ (j : Nat) (oj : Oper), (((masks l [])[n1 + m]?).getD 0).testBit j = true ∧ l[j]? = some oj ∧ oj.dst = some t ∧ Ss[j]? = some S) ∨ look Γ t = some S) ∧
  (∀ j, j < m → (((masks l [])[n1 + m]?).getD 0).testBit (n1 + j) = true) ∧ (∀ j ∈ req, j < ds.length ∧ (((masks l [])[n1 + m]?).getD 0).testBit (n1 - ds.length + j) = true) ∧
  ((o.dst = none ∧ ∀ B : List (Option Nat), B.length = ds.length → (∀ j ∈ req, ∃ b, B[j]? = some (some b)) → StS E P (Δ ++ gctx ds B) (gmem Cs B ++ M) o (gmem Cs' B ++ M')) ∨ ∃ d S, o.dst = some d ∧ d < E.n ∧ Cs' = Cs ∧ M' = M ∧ OKG E P l.toArray Δ [] o S)
theorem phaseD2 {l : List Oper} {n0 n1 k : Nat} {Ss : List VP} {Ms : Mem} {ds : List Nat} {Cs : Nat → List MP} {f : Nat → Mem} (hn1 : n1 = n0 + ds.length) (hD : DrW E P l Γ Ms n0 Ss) (hsub : ∀ m, m ≤ k → Ms.Sublist (f m)) (hmid : ∀ m, m < k → MidD2 E P l Γ Ss n1 ds m (Cs m) (f m) (Cs (m + 1)) (f (m + 1)))
    (hCl : ∀ m, m ≤ k → (Cs m).length = ds.length) (hal : ∀ j, j < ds.length → AlAt E P l n0 n1 k ds Cs j)
    (hap : apartB l (n1 + k) Γ = true) (htl : tailB l (n1 + k) = true) (hnl : n1 + k ≤ l.length) (kk : ∀ bs : List Nat, bs.length = ds.length → Ops E P l.toArray Q (l.drop (n1 + k)) (dctx (l.take n0) Ss ++ (gctx ds (bs.map some) ++ Γ)) (gmem (Cs k) (bs.map some) ++ f k)) :
    ∀ (fuel : Nat) (listed : Array Bool) (a : Act) (w : World) (F : Blk) (m : Nat) (B : List (Option Nat)), m ≤ k → B.length = ds.length → (∀ j o, B[j]? = some o → (o = none ↔ listed.getD (n0 + j) false = false)) → listed.toList.countP (· == false) ≤ fuel → listed.size = l.length →
    (∀ j, n1 + m ≤ j → j < l.length → listed.getD j true = false) → (∀ j, n1 ≤ j → j < n1 + m → listed.getD j true = true) → Closed l (fun j => listed.getD j false = true) → Sat E (gctx ds B ++ Γ) (gmem (Cs m) B ++ f m) a w F → Done l Ss (fun j => listed.getD j false = true) a w F →
    wpAny P .any l.toArray Q fuel listed a w := by
  obtain ⟨hlen, hat⟩ := hD.at
  have hsp := tailB_spec htl
  have gd : ∀ (listed : Array Bool) j, j < listed.size → listed.getD j true = listed.getD j false := fun listed j hj => by simp [hj]
  have hapart : ∀ i d, i < n1 + k → (l[i]?).bind (·.dst) = some d → (∀ t S, look Γ t = some S → t ≠ d) ∧ ∀ j e, j < n1 + k → j ≠ i → (l[j]?).bind (·.dst) = some e → e ≠ d := by
    intro i d hi hd
    unfold apartB at hap
    rw [List.all_eq_true] at hap
    have h1 := hap i (by simpa using hi)
    rw [hd] at h1
    simp only [Bool.and_eq_true] at h1
    refine ⟨look_none h1.1, fun j e hj hne he => ?_⟩
    have h2 := List.all_eq_true.1 h1.2 j (by simpa using hj)
    rw [he] at h2
    simp only [Bool.or_eq_true, Bool.not_eq_true'] at h2
    rcases h2 with h2 | h2
    · exact absurd (Nat.eq_of_beq_eq_true h2).symm hne
    · exact fun e' => Nat.ne_of_beq_eq_false h2 e'.symm
  have hend : ∀ (fuel : Nat) (listed : Array Bool) (a : Act) (w : World) (F : Blk) (m : Nat) (B : List (Option Nat)), m ≤ k → B.length = ds.length → (∀ j o, B[j]? = some o → (o = none ↔ listed.getD (n0 + j) false = false)) → listed.toList.countP (· == false) ≤ fuel → listed.size = l.length →
      (∀ j, n1 + m ≤ j → j < l.length → listed.getD j true = false) → Closed l (fun j => listed.getD j false = true) → Sat E (gctx ds B ++ Γ) (gmem (Cs m) B ++ f m) a w F → Done l Ss (fun j => listed.getD j false = true) a w F →
      (∀ j, j < n1 + k → j < l.length → listed.getD j true = true) → wpAny P .any l.toArray Q fuel listed a w := by
    intro fuel listed a w F m B hm hBl hB hcnt hsz htail hc s hdone hall
    obtain rfl : m = k := by
      rcases Nat.lt_or_ge m k with h | h
      · have h1 := htail (n1 + m) (Nat.le_refl _) (by omega)
        have h2 := hall (n1 + m) (by omega) (by omega)
        rw [h1] at h2; cases h2
      · omega
    have hge := count_ge hsz htail
    obtain ⟨bs, hbl, hbe⟩ := all_some (B := B) (fun j o hj => by
      intro e
      have hjl : j < ds.length := by
        rcases Nat.lt_or_ge j B.length with h | h
        · omega
        · rw [List.getElem?_eq_none h] at hj; cases hj
      have h1 := (hB j o hj).1 e
      have h2 := hall (n0 + j) (by omega) (by omega)
      rw [gd listed (n0 + j) (by omega), h1] at h2; cases h2)
    subst hbe
    refine phaseB htl fuel (n1 + m) listed a w (Nat.le_refl _) (by omega) hsz hall htail hc (kk bs (by simpa using hBl) a w F (s.wider ?_))
    intro t S ht
    rw [look_append] at ht
    cases hl : look (dctx (l.take n0) Ss) t with
    | none => rw [hl] at ht; exact s.slots t S (by simpa using ht)
    | some S' =>
      rw [hl] at ht
      obtain rfl : S' = S := by simpa using ht
      obtain ⟨j, o, h1, h2, h3⟩ := look_dctx _ _ _ _ hl
      have hj : j < n0 := by
        rcases Nat.lt_or_ge j n0 with h' | h'
        · exact h'
        · rw [List.getElem?_eq_none (by omega)] at h3; cases h3
      rw [List.getElem?_take_of_lt hj] at h1
      exact hdone j o t S' (by have h4 := hall j (by omega) (by omega); rw [gd listed j (by omega)] at h4; exact h4) h1 h2 h3
  intro fuel
  induction fuel with
  | zero =>
    intro listed a w F m B hm hBl hB hcnt hsz htail hmids hc s hdone
    refine hend 0 listed a w F m B hm hBl hB hcnt hsz htail hc s hdone fun j hj hjl => ?_
    have hlt : j < listed.size := by omega
    have h0 : listed.toList.countP (· == false) = 0 := by omega
    rw [List.countP_eq_zero] at h0
    have := h0 listed[j] (by simp)
    simp [hlt]
    simpa using this
  | succ fuel ih =>
    intro listed a w F m B hm hBl hB hcnt hsz htail hmids hc s hdone
    by_cases hall : ∀ j, j < n1 + k → j < l.length → listed.getD j true = true
    · exact hend _ listed a w F m B hm hBl hB hcnt hsz htail hc s hdone hall
    · have hex : ∃ j, j < n1 + k ∧ listed.getD j true = false := by
        refine Classical.byContradiction fun hno => hall fun j hj _ => ?_
        cases hb : listed.getD j true with
        | true => rfl
        | false => exact absurd ⟨j, hj, hb⟩ hno
      refine ⟨fun hr => ?_, fun i hi => ?_⟩
      · obtain ⟨j, ⟨hj1, hj2⟩, hmin⟩ := exists_least hex
        have : j ∈ Region.ready .any l.toArray listed := by
          rw [mem_ready]
          have hjl : j < l.length := by omega
          refine ⟨hj2, l[j], by simp [hjl], fun e he hb => ?_⟩
          have hlt := hsp.1 j _ (List.getElem?_eq_getElem hjl) e he hb
          cases hbb : listed.getD e.on true with
          | true => rw [gd listed e.on (by omega)] at hbb; exact hbb
          | false => have := hmin e.on ⟨by omega, hbb⟩; omega
        rw [hr] at this; simp at this
      · have hi' := hi
        rw [mem_ready] at hi
        obtain ⟨g1, o, g2, g3⟩ := hi
        have g2' : l[i]? = some o := by simpa using g2
        have hil : i < l.length := by
          rcases Nat.lt_or_ge i l.length with h' | h'
          · exact h'
          · rw [List.getElem?_eq_none h'] at g2'; cases g2'
        have hin : i < n1 + k := by
          rcases Nat.lt_or_ge i (n1 + k) with h' | h'
          · exact h'
          · obtain ⟨j, hj1, hj2⟩ := hex
            obtain ⟨q, hq, hb⟩ := hsp.2 i hil h' j (by omega)
            have := reach hc i o g2' g3 j q hq hb
            have e : listed.getD j false = true := this
            rw [← gd listed j (by omega), hj2] at e; cases e
        have hmask : i < (masks l []).length := by rw [masks_len]; simpa using hil
        have hcount : (listed.setIfInBounds i true).toList.countP (· == false) ≤ fuel := by
          have hlt : i < listed.toList.length := by simp; omega
          have hli : listed.toList[i] = false := by
            have : i < listed.size := by omega
            simp [this] at g1; simpa using g1
          rw [Array.toList_setIfInBounds, List.countP_set hlt]
          rw [hli]
          have hpos : 0 < listed.toList.countP (· == false) := List.countP_pos_iff.2 ⟨false, by rw [← hli]; exact List.getElem_mem _, rfl⟩
          simp only [beq_self_eq_true, if_true]
          show _ - 1 + 0 ≤ fuel
          omega
        have hclosed : Closed l (fun j => (listed.setIfInBounds i true).getD j false = true) := by
          intro j oj hj hL e he hb
          by_cases ek : j = i
          · subst ek
            rw [g2'] at hj; obtain rfl := Option.some.inj hj
            exact getD_set_true (g3 e he hb)
          · exact getD_set_true (hc j oj hj (by
              have hL' : (listed.setIfInBounds i true).getD j false = true := hL
              rwa [getD_set_ne false (fun h => ek h.symm)] at hL') e he hb)
        have hΓs : ∀ t S, look Γ t = some S → S.h w F (a.tmps.getD t undef) := fun t S ht => by
          refine s.slots t S ?_
          rw [look_append]
          cases hl : look (gctx ds B) t with
          | none => simpa using ht
          | some S' =>
            obtain ⟨j, hj⟩ := look_gctx _ _ _ _ hl
            obtain ⟨ap1, _⟩ := hapart (n0 + j) t (by
              rcases Nat.lt_or_ge j ds.length with h | h
              · omega
              · rw [List.getElem?_eq_none h] at hj; cases hj) (by
              have hjl : j < ds.length := by
                rcases Nat.lt_or_ge j ds.length with h | h
                · exact h
                · rw [List.getElem?_eq_none h] at hj; cases hj
              obtain ⟨d, T, z, ty, pos, after, q1, q2, _⟩ := (hal j hjl).ex
              rw [q2]; rw [hj] at q1; obtain rfl := Option.some.inj q1; rfl)
            exact absurd rfl (ap1 t S ht)
        have hctx : ∀ Δ : Ctx, (∀ t S, look Δ t = some S → (∃ (j : Nat) (oj : Oper), (((masks l [])[i]?).getD 0).testBit j = true ∧ l[j]? = some oj ∧ oj.dst = some t ∧ Ss[j]? = some S) ∨ look Γ t = some S) →
            ∀ t S, look Δ t = some S → S.h w F (a.tmps.getD t undef) := by
          intro Δ a6 t S' ht
          rcases a6 t S' ht with ⟨j, oj, b0, b1, b2, b3⟩ | h
          · rw [List.getElem?_eq_getElem hmask] at b0
            exact hdone j oj t S' (reach hc i o g2' g3 j _ (List.getElem?_eq_getElem hmask) (by simpa using b0)) b1 b2 b3
          · exact hΓs t S' h
        have ho : l.toArray[i]? = some o := by simpa using g2'
        have hBset : ∀ (i' : Nat), i' = i → (∀ j, j < ds.length → n0 + j ≠ i') → ∀ j o, B[j]? = some o → (o = none ↔ (listed.setIfInBounds i true).getD (n0 + j) false = false) := by
          intro i' hi' hne j o' hj
          subst hi'
          have hjl : j < ds.length := by
            rcases Nat.lt_or_ge j B.length with h | h
            · omega
            · rw [List.getElem?_eq_none h] at hj; cases hj
          rw [getD_set_ne false (fun e => hne j hjl e.symm)]
          exact hB j o' hj
        rcases Nat.lt_or_ge i n0 with hin1 | hin1
        · obtain ⟨o', d, S, Δ, a1, a2, a3, a4, a6, a7⟩ := hat i hin1
          rw [g2'] at a1; obtain rfl := Option.some.inj a1
          have hbind : (l[i]?).bind (·.dst) = some d := by rw [g2']; exact a2
          obtain ⟨ap1, ap2⟩ := hapart i d (by omega) hbind
          have ap3 : ∀ t S, look (gctx ds B ++ Γ) t = some S → t ≠ d := fun t S ht => by
            rw [look_append] at ht
            cases hl : look (gctx ds B) t with
            | none => rw [hl] at ht; exact ap1 t S (by simpa using ht)
            | some S' =>
              obtain ⟨j, hj⟩ := look_gctx _ _ _ _ hl
              have hjl : j < ds.length := by
                rcases Nat.lt_or_ge j ds.length with h | h
                · exact h
                · rw [List.getElem?_eq_none h] at hj; cases hj
              obtain ⟨d', T, z, ty, pos, after, q1, q2, _⟩ := (hal j hjl).ex
              rw [hj] at q1; obtain rfl := Option.some.inj q1
              exact ap2 (n0 + j) t (by omega) (by omega) (by rw [q2]; rfl)
          have hsat : Sat E Δ Ms a w F := (s.wider (hctx Δ a6)).sub ((hsub m hm).trans (List.sublist_append_right _ _))
          have hstep := a7 a w F hsat (wpAny P .any l.toArray Q fuel (listed.setIfInBounds i true)) Q
          have hgo : ∀ v w' F', AdvX E Ms a w F w' F' → S.h w' F' v → wpAny P .any l.toArray Q fuel (listed.setIfInBounds i true) (a.put o.dst v) w' := by
            intro v w' F' ad hv
            rw [a2]
            have s1 := ad.adv _ _ ((hsub m hm).trans (List.sublist_append_right _ _)) s
            refine ih _ _ w' F' m B hm hBl (hBset i rfl (fun j _ => by omega)) hcount (by simp [hsz]) (fun j hj hjl => ?_) (fun j h1 h2 => ?_) hclosed (s1.putOut a3 v ap3) ?_
            · rw [getD_set_ne true (by omega)]; exact htail j hj hjl
            · rw [getD_set_ne true (by omega)]; exact hmids j h1 h2
            · intro j oj dj Sj hL hj hdj hSj
              rw [getD_put (by rw [s1.size]; exact a3)]
              by_cases ek : j = i
              · subst ek
                rw [g2'] at hj; obtain rfl := Option.some.inj hj
                rw [a2] at hdj; obtain rfl := Option.some.inj hdj
                rw [a4] at hSj; obtain rfl := Option.some.inj hSj
                rw [if_pos rfl]; exact hv
              · have hjn : j < n0 := by
                  rcases Nat.lt_or_ge j n0 with h' | h'
                  · exact h'
                  · rw [List.getElem?_eq_none (by omega)] at hSj; cases hSj
                have hne := ap2 j dj (by omega) ek (by rw [hj]; exact hdj)
                rw [if_neg (fun e => hne e.symm)]
                refine Sj.mono _ _ _ _ _ (hdone j oj dj Sj ?_ hj hdj hSj) ad.same ad.sub
                have hL' : (listed.setIfInBounds i true).getD j false = true := hL
                rwa [getD_set_ne false (fun h => ek h.symm)] at hL'
          have hres := hstep hgo
          unfold wpOp
          rw [ho]
          exact hres
        · rcases Nat.lt_or_ge i n1 with hin2 | hin2
          · -- a new block
            obtain ⟨q, rfl⟩ : ∃ q, i = n0 + q := ⟨i - n0, by omega⟩
            have hql : q < ds.length := by omega
            obtain ⟨d, T, z, Zs, ty, pos, after, q1, q2, q3, q4, q5, q6⟩ := (hal q hql).full
            rw [g2'] at q2; obtain rfl := Option.some.inj q2
            obtain ⟨ap1, ap2⟩ := hapart (n0 + q) d (by omega) (by rw [g2']; rfl)
            have hBq : B[q]? = some none := by
              have hlt : q < B.length := by omega
              have h1 := (hB q B[q] (List.getElem?_eq_getElem hlt)).2 (by rw [← gd listed (n0 + q) (by omega)]; exact g1)
              rw [List.getElem?_eq_getElem hlt, h1]
            have hCq : (Cs m)[q]? = some (cellM Zs) := by
              rcases q6 m hm with h | ⟨m', hm', hb⟩
              · exact h
              · have hml : n1 + m' < l.length := by omega
                have hL : listed.getD (n1 + m') false = true := by rw [← gd listed (n1 + m') (by omega)]; exact hmids _ (by omega) (by omega)
                have hmk2 : n1 + m' < (masks l []).length := by rw [masks_len]; simpa using hml
                rw [List.getElem?_eq_getElem hmk2] at hb
                have := reach hc (n1 + m') _ (List.getElem?_eq_getElem hml) (fun e he hb' => hc (n1 + m') _ (List.getElem?_eq_getElem hml) hL e he hb') (n0 + q) _ (List.getElem?_eq_getElem hmk2) (by simpa using hb)
                have e : listed.getD (n0 + q) false = true := this
                rw [← gd listed (n0 + q) (by omega), g1] at e; cases e
            unfold wpOp
            rw [ho]
            show if Region.wanted _ (yielded l.toArray a.tmps) then _ else _
            rw [if_pos (by simp [Region.wanted])]
            refine .inl ?_
            unfold Oper.wp
            have hr : (execOp a.eval (⟨some d, .alloc T, ty, pos, after, none⟩ : Oper)).run P w = .ok (.value (.pointer (some ⟨w.heap.size, 0, none⟩))) { w with heap := w.heap.push (.cells z.cells T) } := by
              have := run_zero (w := w) q4
              simp only [execOp, Instr.alloc, newVar, newRow, newObj, Sem.run_bind, this, Result.andThen_ok]
              simp [go_sem]; rfl
            rw [hr]
            show wpAny P .any l.toArray Q fuel (listed.setIfInBounds (n0 + q) true) (a.put (some d) _) _
            have ad : Adv w F { w with heap := w.heap.push (.cells z.cells T) } F := ⟨Keep.alloc _ _ _, fun _ h => h, fun _ h => .inl h⟩
            have s1 := (s.alloc (T := T) (q5 w F)).swap (i := q)
            have hM : (gmem (Cs m) B ++ f m).set q (some w.heap.size, cellM Zs) = gmem (Cs m) (B.set q (some w.heap.size)) ++ f m := gmem_set _ _ _ _ hBl (hCl m hm) hCq hql
            rw [hM] at s1
            refine ih _ _ _ F m (B.set q (some w.heap.size)) hm (by simp [hBl]) (fun j o' hj => ?_) hcount (by simp [hsz]) (fun j hj hjl => ?_) (fun j h1 h2 => ?_) hclosed ?_ ?_
            · by_cases e : j = q
              · subst e
                rw [List.getElem?_set_self (by omega)] at hj
                obtain rfl := Option.some.inj hj
                have : n0 + j < listed.size := by omega
                simp [this]
              · rw [List.getElem?_set_ne (fun h => e h.symm)] at hj
                rw [getD_set_ne false (by omega)]
                exact hB j o' hj
            · rw [getD_set_ne true (by omega)]; exact htail j hj hjl
            · rw [getD_set_ne true (by omega)]; exact hmids j h1 h2
            · have hsz2 : d < a.tmps.size := by rw [s1.size]; exact q3
              have hslots : ∀ t S, look (gctx ds (B.set q (some w.heap.size)) ++ Γ) t = some S → S.h { w with heap := w.heap.push (.cells z.cells T) } F ((a.put (some d) (.pointer (some ⟨w.heap.size, 0, none⟩))).tmps.getD t undef) := by
                intro t S ht
                rw [getD_put hsz2]
                rw [look_append] at ht
                cases hl : look (gctx ds (B.set q (some w.heap.size))) t with
                | none =>
                  rw [hl] at ht
                  have ht' : look Γ t = some S := by simpa using ht
                  rw [if_neg (fun e => ap1 t S ht' e.symm)]
                  exact S.mono _ _ _ _ _ (hΓs t S ht') (ad.same s.flt) ad.sub
                | some S' =>
                  rw [hl] at ht
                  obtain rfl : S' = S := by simpa using ht
                  rcases look_gctx_set _ _ _ _ _ _ hl with ⟨e1, e2⟩ | h
                  · rw [q1] at e1; obtain rfl := Option.some.inj e1
                    rw [if_pos rfl, e2]
                    intro b hb
                    obtain rfl := Option.some.inj hb; rfl
                  · by_cases e : d = t
                    · subst e
                      rw [if_pos rfl]
                      obtain ⟨j, o', h1, h2, h3⟩ := look_gctx_at _ _ _ _ h
                      have hjq : j = q := by
                        refine Classical.byContradiction fun hne => ?_
                        have hjl : j < ds.length := by
                          rcases Nat.lt_or_ge j ds.length with h | h
                          · exact h
                          · rw [List.getElem?_eq_none h] at h1; cases h1
                        obtain ⟨d', T', z', ty', pos', after', r1, r2, _⟩ := (hal j hjl).ex
                        rw [h1] at r1; obtain rfl := Option.some.inj r1
                        exact ap2 (n0 + j) d (by omega) (by omega) (by rw [r2]; rfl) rfl
                      subst hjq
                      rw [hBq] at h2; obtain rfl := Option.some.inj h2
                      rw [h3]
                      intro b hb; cases hb
                    · rw [if_neg e]
                      exact S'.mono _ _ _ _ _ (s.slots t S' (by rw [look_append, h]; rfl)) (ad.same s.flt) ad.sub
              exact { defers := s1.defers, size := by simp [Act.put, s1.size], keep := s1.keep, f0 := s1.f0, fnew := s1.fnew, flt := s1.flt, mem := s1.mem, slots := hslots }
            · intro j oj dj Sj hL hj hdj hSj
              have hjn : j < n0 := by
                rcases Nat.lt_or_ge j n0 with h' | h'
                · exact h'
                · rw [List.getElem?_eq_none (by omega)] at hSj; cases hSj
              have hne := ap2 j dj (by omega) (by omega) (by rw [hj]; exact hdj)
              rw [getD_put (by rw [s1.size]; exact q3), if_neg (fun e => hne e.symm)]
              refine Sj.mono _ _ _ _ _ (hdone j oj dj Sj ?_ hj hdj hSj) (ad.same s.flt) ad.sub
              have hL' : (listed.setIfInBounds (n0 + q) true).getD j false = true := hL
              rwa [getD_set_ne false (by omega)] at hL'
          -- a store: the next one of the row
          have him : n1 + m ≤ i := by
            rcases Nat.lt_or_ge i (n1 + m) with h | h
            · rw [hmids i hin2 h] at g1; cases g1
            · exact h
          have hieq : i = n1 + m := by
            rcases Nat.lt_or_ge (n1 + m) i with h | h
            · obtain ⟨o', Δ, req, b1, b3, b4, b5⟩ := (hmid (i - n1) (by omega)).ex
              have hb := b4 m (by omega)
              rw [show n1 + (i - n1) = i by omega, List.getElem?_eq_getElem hmask] at hb
              have := reach hc i o g2' g3 (n1 + m) _ (List.getElem?_eq_getElem hmask) (by simpa using hb)
              have e : listed.getD (n1 + m) false = true := this
              rw [← gd listed (n1 + m) (by omega), htail (n1 + m) (Nat.le_refl _) (by omega)] at e; cases e
            · omega
          subst hieq
          have hmk : m < k := by omega
          obtain ⟨o', Δ, req, b1, b3, b4, b7, b8⟩ := (hmid m hmk).ex
          rw [g2'] at b1; obtain rfl := Option.some.inj b1
          have hreq : ∀ j ∈ req, ∃ b, B[j]? = some (some b) := fun j hj => by
            obtain ⟨hjl, hb⟩ := b7 j hj
            rw [show n1 - ds.length + j = n0 + j by omega] at hb
            rw [List.getElem?_eq_getElem hmask] at hb
            have hL : listed.getD (n0 + j) false = true := reach hc (n1 + m) o g2' g3 (n0 + j) _ (List.getElem?_eq_getElem hmask) (by simpa using hb)
            have hlt : j < B.length := by omega
            cases hBj : B[j] with
            | none =>
              have := (hB j none (by rw [List.getElem?_eq_getElem hlt, hBj])).1 rfl
              rw [hL] at this; cases this
            | some b => exact ⟨b, by rw [List.getElem?_eq_getElem hlt, hBj]⟩
          rcases b8 with ⟨b2, b8⟩ | ⟨d, S, e1, e2, e3, e4, e5⟩
          rotate_left
          · obtain ⟨ap1, ap2⟩ := hapart (n1 + m) d (by omega) (by rw [g2']; exact e1)
            have ap3 : ∀ t S, look (gctx ds B ++ Γ) t = some S → t ≠ d := fun t S ht => by
              rw [look_append] at ht
              cases hl : look (gctx ds B) t with
              | none => rw [hl] at ht; exact ap1 t S (by simpa using ht)
              | some S' =>
                obtain ⟨j, hj⟩ := look_gctx _ _ _ _ hl
                have hjl : j < ds.length := by
                  rcases Nat.lt_or_ge j ds.length with h | h
                  · exact h
                  · rw [List.getElem?_eq_none h] at hj; cases hj
                obtain ⟨d', T, z, ty, pos, after, q1, q2, _⟩ := (hal j hjl).ex
                rw [hj] at q1; obtain rfl := Option.some.inj q1
                exact ap2 (n0 + j) t (by omega) (by omega) (by rw [q2]; rfl)
            have hsat : Sat E Δ [] a w F := (s.wider (hctx Δ b3)).sub (List.nil_sublist _)
            have hstep := e5 a w F hsat (wpAny P .any l.toArray Q fuel (listed.setIfInBounds (n1 + m) true)) Q
            have hgo : ∀ v w' F', Adv w F w' F' → S.h w' F' v → wpAny P .any l.toArray Q fuel (listed.setIfInBounds (n1 + m) true) (a.put o.dst v) w' := by
              intro v w' F' ad hv
              rw [e1]
              have s1 := s.adv ad
              refine ih _ _ w' F' (m + 1) B hmk hBl (hBset _ rfl (fun j hj => by omega)) hcount (by simp [hsz]) (fun j hj hjl => ?_) (fun j h1 h2 => ?_) hclosed (by rw [e3, e4]; exact s1.putOut e2 v ap3) ?_
              · rw [getD_set_ne true (by omega)]; exact htail j (by omega) hjl
              · by_cases e : j = n1 + m
                · subst e
                  have : n1 + m < listed.size := by omega
                  simp [this]
                · rw [getD_set_ne true (by omega)]; exact hmids j h1 (by omega)
              · intro j oj dj Sj hL hj hdj hSj
                have hjn : j < n0 := by
                  rcases Nat.lt_or_ge j n0 with h' | h'
                  · exact h'
                  · rw [List.getElem?_eq_none (by omega)] at hSj; cases hSj
                have hne := ap2 j dj (by omega) (by omega) (by rw [hj]; exact hdj)
                rw [getD_put (by rw [s1.size]; exact e2), if_neg (fun e => hne e.symm)]
                refine Sj.mono _ _ _ _ _ (hdone j oj dj Sj ?_ hj hdj hSj) (ad.same s.flt) ad.sub
                have hL' : (listed.setIfInBounds (n1 + m) true).getD j false = true := hL
                rwa [getD_set_ne false (by omega)] at hL'
            have hres := hstep hgo
            unfold wpOp
            rw [ho]
            exact hres
          obtain ⟨b5, b6⟩ := b8 B hBl hreq
          have hsat : Sat E (Δ ++ gctx ds B) (gmem (Cs m) B ++ f m) a w F := s.wider (fun t S ht => by
            rw [look_append] at ht
            cases hl : look Δ t with
            | some S' =>
              rw [hl] at ht
              obtain rfl : S' = S := by simpa using ht
              exact hctx Δ b3 t S' hl
            | none =>
              rw [hl] at ht
              have ht' : look (gctx ds B) t = some S := by simpa using ht
              exact s.slots t S (by rw [look_append, ht']; rfl))
          have hgo : ∀ w', (∀ b, F b → w'.heap[b]? = w.heap[b]?) → (∀ Γ'', Sat E Γ'' (gmem (Cs m) B ++ f m) a w F → Sat E Γ'' (gmem (Cs (m + 1)) B ++ f (m + 1)) a w' F) → wpAny P .any l.toArray Q fuel (listed.setIfInBounds (n1 + m) true) a w' := by
            intro w' hF hS
            refine ih _ _ w' F (m + 1) B hmk hBl (hBset _ rfl (fun j hj => by omega)) hcount (by simp [hsz]) (fun j hj hjl => ?_) (fun j h1 h2 => ?_) hclosed (hS _ s) ?_
            · rw [getD_set_ne true (by omega)]; exact htail j (by omega) hjl
            · by_cases e : j = n1 + m
              · subst e
                have : n1 + m < listed.size := by omega
                simp [this]
              · rw [getD_set_ne true (by omega)]; exact hmids j h1 (by omega)
            · intro j oj dj Sj hL hj hdj hSj
              have hjn : j < n0 := by
                rcases Nat.lt_or_ge j n0 with h' | h'
                · exact h'
                · rw [List.getElem?_eq_none (by omega)] at hSj; cases hSj
              refine Sj.mono _ _ _ _ _ (hdone j oj dj Sj ?_ hj hdj hSj) hF (fun _ h => h)
              have hL' : (listed.setIfInBounds (n1 + m) true).getD j false = true := hL
              rwa [getD_set_ne false (by omega)] at hL'
          unfold wpOp
          rw [ho]
          show if Region.wanted o (yielded l.toArray a.tmps) then _ else _
          rw [if_pos (by simp [Region.wanted, b5])]
          exact .inl (b6 a w F hsat _ Q hgo)
def DrN2 (E : Env) (P : Program) (id : Nat) (l : List Oper) (Γ : Ctx) (M Ms : Mem) (Q : Exit → Act → World → Prop) (n0 n1 : Nat) (ds : List Nat) (zs : List (List VP)) (Θ : Ctx) (m : Nat) (Cs : List MP) (Mc : Mem) : Prop :=
  ∀ (Ss : List VP) (CF : Nat → List MP) (f : Nat → Mem), DrW E P l Γ Ms n0 Ss → (∀ t S, look Θ t = some S → ∃ (j : Nat) (o : Oper), j < n0 ∧ l[j]? = some o ∧ o.dst = some t ∧ Ss[j]? = some S) → n1 = n0 + ds.length → Als E P l n0 ds zs →
    CF 0 = zs.map cellM → f 0 = M → CF m = Cs → f m = Mc → (∀ j, j ≤ m → Ms.Sublist (f j)) → (∀ j, j ≤ m → (CF j).length = ds.length) → (∀ j, j < m → MidD2 E P l Γ Ss n1 ds j (CF j) (f j) (CF (j + 1)) (f (j + 1))) →
    (∀ q, q < ds.length → ∀ j, j ≤ m → (CF j)[q]? = (zs.map cellM)[q]? ∨ ∃ m', m' < j ∧ (((masks l [])[n1 + m']?).getD 0).testBit (n0 + q) = true) → Tri E P (.region id l.toArray true) Γ M Q
theorem DrH.als2 {id n0 n1 : Nat} {l : List Oper} {Θ : Ctx} {Ms : Mem} {ds : List Nat} {zs : List (List VP)} {Cs : List MP} (hn : n1 = n0 + ds.length) (ha : Als E P l n0 ds zs) (hs : Ms.Sublist M) (hC : zs.map cellM = Cs) (k : DrN2 E P id l Γ M Ms Q n0 n1 ds zs Θ 0 Cs M) : DrH E P id l Γ M Ms Q n0 Θ := by
 intro Ss hD hΘ
 subst hC
 refine k Ss (fun _ => zs.map cellM) (fun _ => M) hD hΘ hn ha rfl rfl rfl rfl (fun j hj => hs) (fun j hj => by simp [ha.len]) (fun j hj => absurd hj (by omega)) (fun q hq j hj => .inl rfl)
theorem DrN2.new {id n0 n1 m : Nat} {l : List Oper} {Θ : Ctx} {Ms Mc : Mem} {ds : List Nat} {zs : List (List VP)} {Cs Cs' : List MP} (ts : List Nat) (j : Nat) {dj n : Nat} {g : Bool} {T : TypeId} {y : Operand} {Ss0 Ss1 Ss' : List VP} {S : VP} [sh : Shape S Ss1] [o1 : Ones Ss1]
    (h1 : l[n1 + m]? = some ⟨none, .store T (.tmp dj) y, ty, pos, after, none⟩) (h4 : behindB l (n1 + m) ts = true) (hc : chainB l n1 m = true) (hdj : ds[j]? = some dj) (hfirst : ((List.range j).all fun i => !Nat.beq (ds.getD i 0) dj) = true) (hno : look (keepc ts Θ ++ Γ) dj = none)
    (hb : (((masks l [])[n1 + m]?).getD 0).testBit (n1 - ds.length + j) = true) (hC : Cs[j]? = some (cellM Ss0)) (hy : Has E (keepc ts Θ ++ Γ) [] y S) (hT : tyB P T = some (n, g)) (hn : Nat.beq Ss1.length n = true) (hl : Nat.ble (0 + n) Ss0.length = true)
    (hS : Ss0.take 0 ++ Ss1 ++ Ss0.drop (0 + n) = Ss') (hCs : Cs.set j (cellM Ss') = Cs') (k : DrN2 E P id l Γ M Ms Q n0 n1 ds zs Θ (m + 1) Cs' Mc) : DrN2 E P id l Γ M Ms Q n0 n1 ds zs Θ m Cs Mc := by
  intro Ss CF f hD hΘ hn1 hal hC0 hf0 hCm hfm hsub hlen hmid hq
  have hjl : j < ds.length := by
    rcases Nat.lt_or_ge j ds.length with h | h
    · exact h
    · rw [List.getElem?_eq_none h] at hdj; cases hdj
  have hCl : Cs.length = ds.length := by rw [← hCm]; exact hlen m (Nat.le_refl _)
  refine k Ss (fun i => if i = m + 1 then Cs' else CF i) (fun i => if i = m + 1 then Mc else f i) hD hΘ hn1 hal (by simp [hC0]) (by simp [hf0]) (by simp) (by simp) (fun i hi => ?_) (fun i hi => ?_) (fun i hi => ?_) (fun q hql i hi => ?_)
  · show Ms.Sublist (if i = m + 1 then Mc else f i)
    split
    · rw [← hfm]; exact hsub m (Nat.le_refl _)
    · exact hsub i (by omega)
  · show (if i = m + 1 then Cs' else CF i).length = _
    split
    · rw [← hCs, List.length_set, hCl]
    · exact hlen i (by omega)
  · show MidD2 E P l Γ Ss n1 ds i (if i = m + 1 then Cs' else CF i) (if i = m + 1 then Mc else f i) (if i + 1 = m + 1 then Cs' else CF (i + 1)) (if i + 1 = m + 1 then Mc else f (i + 1))
    rw [if_neg (by omega), if_neg (by omega)]
    by_cases e : i = m
    · subst e
      rw [if_pos rfl, if_pos rfl, hfm, hCm]
      refine ⟨_, keepc ts Θ ++ Γ, [j], h1, fun t S' ht => ?_, fun i' hi' => ?_, fun j' hj' => ?_, .inl ⟨rfl, fun B hBl hreq => ?_⟩⟩
      · rw [look_append] at ht
        cases hl2 : look (keepc ts Θ) t with
        | none => rw [hl2] at ht; exact .inr (by simpa using ht)
        | some S'' =>
          rw [hl2] at ht
          obtain rfl : S'' = S' := by simpa using ht
          obtain ⟨hm2, hl3⟩ := look_keepc _ _ _ hl2
          obtain ⟨i', oj, b0, b1, b2, b3⟩ := hΘ t S'' hl3
          refine .inl ⟨i', oj, ?_, b1, b2, b3⟩
          have := List.all_eq_true.1 h4 i' (by simp; omega)
          rw [b1] at this
          simp only [Option.bind_some, b2, Bool.or_eq_true] at this
          rcases this with h | h
          · exact h
          · have := List.all_eq_true.1 h t hm2
            simp [Nat.beq_refl] at this
      · exact List.all_eq_true.1 hc i' (by simpa using hi')
      · obtain rfl : j' = j := by simpa using hj'
        exact ⟨hjl, hb⟩
      · obtain ⟨b, hBj⟩ := hreq j (by simp)
        have hlk : look ((keepc ts Θ ++ Γ) ++ gctx ds B) dj = some (isOP (some b)) := by
          rw [look_append, hno]
          refine look_gctx_of ds B j dj (some b) (fun i' hi' e => ?_) hdj hBj
          have := List.all_eq_true.1 hfirst i' (by simpa using hi')
          rw [List.getD, e] at this
          simp [nbeq_self] at this
        refine StS.store (b := b) (off := 0) (i := j) (Ss := Ss0) (Ss' := Ss') (Has.op hlk) (Has.up hy) (gmem_at _ _ _ hBj hC) hT hn hl hS ?_
        rcases gmem_setC Cs B j (C := cellM Ss') (M := Mc) hBj with h | h
        · rw [h, hCs]
        · omega
    · rw [if_neg (by omega), if_neg (by omega)]
      exact hmid i (by omega)
  · show (if i = m + 1 then Cs' else CF i)[q]? = _ ∨ _
    by_cases e : i = m + 1
    · rw [if_pos e]
      by_cases ej : q = j
      · subst ej
        refine .inr ⟨m, by omega, ?_⟩
        rwa [show n1 - ds.length + q = n0 + q by omega] at hb
      · rw [← hCs, List.getElem?_set_ne (fun h => ej h.symm), ← hCm]
        rcases hq q hql m (Nat.le_refl _) with h | ⟨m', hm', hb'⟩
        · exact .inl h
        · exact .inr ⟨m', by omega, hb'⟩
    · rw [if_neg e]
      exact hq q hql i (by omega)
theorem DrN2.old {id n0 n1 m : Nat} {l : List Oper} {Θ : Ctx} {Ms Mc M' : Mem} {ds : List Nat} {zs : List (List VP)} {Cs : List MP} (ts : List Nat) {b off i n : Nat} {g : Bool} {T : TypeId} {x y : Operand} {Ss0 Ss1 Ss' : List VP} {S : VP} [sh : Shape S Ss1] [o1 : Ones Ss1]
    (h1 : l[n1 + m]? = some ⟨none, .store T x y, ty, pos, after, none⟩) (h4 : behindB l (n1 + m) ts = true) (hc : chainB l n1 m = true) (hx : Has E (keepc ts Θ ++ Γ) [] x (isPtr b off)) (hy : Has E (keepc ts Θ ++ Γ) [] y S)
    (hM : Mc[i]? = some (some b, cellM Ss0)) (hT : tyB P T = some (n, g)) (hn : Nat.beq Ss1.length n = true) (hl : Nat.ble (off + n) Ss0.length = true)
    (hS : Ss0.take off ++ Ss1 ++ Ss0.drop (off + n) = Ss') (hM' : Mc.set i (some b, cellM Ss') = M') (hs : Ms.Sublist M') (k : DrN2 E P id l Γ M Ms Q n0 n1 ds zs Θ (m + 1) Cs M') : DrN2 E P id l Γ M Ms Q n0 n1 ds zs Θ m Cs Mc := by
  intro Ss CF f hD hΘ hn1 hal hC0 hf0 hCm hfm hsub hlen hmid hq
  have hCl : Cs.length = ds.length := by rw [← hCm]; exact hlen m (Nat.le_refl _)
  refine k Ss (fun i => if i = m + 1 then Cs else CF i) (fun i => if i = m + 1 then M' else f i) hD hΘ hn1 hal (by simp [hC0]) (by simp [hf0]) (by simp) (by simp) (fun i hi => ?_) (fun i hi => ?_) (fun i hi => ?_) (fun q hql i hi => ?_)
  · show Ms.Sublist (if i = m + 1 then M' else f i)
    split
    · exact hs
    · exact hsub i (by omega)
  · show (if i = m + 1 then Cs else CF i).length = _
    split
    · exact hCl
    · exact hlen i (by omega)
  · rename_i i'
    show MidD2 E P l Γ Ss n1 ds i (if i = m + 1 then Cs else CF i) (if i = m + 1 then M' else f i) (if i + 1 = m + 1 then Cs else CF (i + 1)) (if i + 1 = m + 1 then M' else f (i + 1))
    rw [if_neg (by omega), if_neg (by omega)]
    by_cases e : i = m
    · subst e
      rw [if_pos rfl, if_pos rfl, hfm, hCm]
      refine ⟨_, keepc ts Θ ++ Γ, [], h1, fun t S' ht => ?_, fun i' hi' => ?_, fun j' hj' => absurd hj' (by simp), .inl ⟨rfl, fun B hBl hreq => ?_⟩⟩
      · rw [look_append] at ht
        cases hl2 : look (keepc ts Θ) t with
        | none => rw [hl2] at ht; exact .inr (by simpa using ht)
        | some S'' =>
          rw [hl2] at ht
          obtain rfl : S'' = S' := by simpa using ht
          obtain ⟨hm2, hl3⟩ := look_keepc _ _ _ hl2
          obtain ⟨i', oj, b0, b1, b2, b3⟩ := hΘ t S'' hl3
          refine .inl ⟨i', oj, ?_, b1, b2, b3⟩
          have := List.all_eq_true.1 h4 i' (by simp; omega)
          rw [b1] at this
          simp only [Option.bind_some, b2, Bool.or_eq_true] at this
          rcases this with h | h
          · exact h
          · have := List.all_eq_true.1 h t hm2
            simp [Nat.beq_refl] at this
      · exact List.all_eq_true.1 hc i' (by simpa using hi')
      · have hgl := gmem_len Cs B (by omega)
        refine StS.store (b := b) (off := off) (i := B.length + i') (Ss := Ss0) (Ss' := Ss') (Has.up hx) (Has.up hy) ?_ hT hn hl hS ?_
        · rw [List.getElem?_append_right (by omega), hgl, Nat.add_sub_cancel_left]; exact hM
        · rw [List.set_append_right _ _ (by omega), hgl, Nat.add_sub_cancel_left, hM']
    · rw [if_neg (by omega), if_neg (by omega)]
      exact hmid i (by omega)
  · show (if i = m + 1 then Cs else CF i)[q]? = _ ∨ _
    by_cases e : i = m + 1
    · rw [if_pos e, ← hCm]
      rcases hq q hql m (Nat.le_refl _) with h | ⟨m', hm', hb'⟩
      · exact .inl h
      · exact .inr ⟨m', by omega, hb'⟩
    · rw [if_neg e]
      exact hq q hql i (by omega)
theorem DrN2.fin {id n0 n1 m n : Nat} {l : List Oper} {Θ : Ctx} {Ms Mc : Mem} {ds : List Nat} {zs : List (List VP)} {Cs : List MP} (hm : P.follows .mixedOrders = true) (hn : n = n1 + m) (hap : apartB l n Γ = true) (htl : tailB l n = true) (hnl : Nat.ble n l.length = true)
    (k : ∀ bs : List Nat, bs.length = ds.length → Ops E P l.toArray Q (l.drop n) (Θ ++ (gctx ds (bs.map some) ++ Γ)) (gmem Cs (bs.map some) ++ Mc)) : DrN2 E P id l Γ M Ms Q n0 n1 ds zs Θ m Cs Mc := by
  intro Ss CF f hD hΘ hn1 hal hC0 hf0 hCm hfm hsub hlen hmid hq
  subst hn
  have hnl' := Nat.le_of_ble_eq_true hnl
  have hap1 : ∀ i d, i < n1 + m → (l[i]?).bind (·.dst) = some d → (∀ t S, look Γ t = some S → t ≠ d) ∧ ∀ j e, j < n1 + m → j ≠ i → (l[j]?).bind (·.dst) = some e → e ≠ d := by
    intro i d hi hd
    have h1 := List.all_eq_true.1 hap i (by simpa using hi)
    rw [hd] at h1
    simp only [Bool.and_eq_true] at h1
    refine ⟨look_none h1.1, fun j e hj hne he => ?_⟩
    have h2 := List.all_eq_true.1 h1.2 j (by simpa using hj)
    rw [he] at h2
    simp only [Bool.or_eq_true, Bool.not_eq_true'] at h2
    rcases h2 with h2 | h2
    · exact absurd (Nat.eq_of_beq_eq_true h2).symm hne
    · exact fun e' => Nat.ne_of_beq_eq_false h2 e'.symm
  have hk : ∀ bs : List Nat, bs.length = ds.length → Ops E P l.toArray Q (l.drop (n1 + m)) (dctx (l.take n0) Ss ++ (gctx ds (bs.map some) ++ Γ)) (gmem (CF m) (bs.map some) ++ f m) := by
    intro bs hbs
    rw [hfm, hCm]
    refine fun a w F s => k bs hbs a w F (s.wider fun t S ht => ?_)
    rw [look_append] at ht
    cases hl : look Θ t with
    | none =>
      rw [hl] at ht
      have ht' : look (gctx ds (bs.map some) ++ Γ) t = some S := by simpa using ht
      have hno : look (dctx (l.take n0) Ss) t = none := by
        cases hd : look (dctx (l.take n0) Ss) t with
        | none => rfl
        | some S' =>
          obtain ⟨j, o, b1, b2, b3⟩ := look_dctx _ _ _ _ hd
          have hj : j < n0 := by
            rcases Nat.lt_or_ge j n0 with h' | h'
            · exact h'
            · rw [List.getElem?_eq_none (by simp; omega)] at b1; cases b1
          rw [List.getElem?_take_of_lt hj] at b1
          obtain ⟨p1, p2⟩ := hap1 j t (by omega) (by rw [b1]; exact b2)
          rw [look_append] at ht'
          cases hg : look (gctx ds (bs.map some)) t with
          | none => rw [hg] at ht'; exact absurd rfl (p1 t S (by simpa using ht'))
          | some S'' =>
            obtain ⟨q, hq'⟩ := look_gctx _ _ _ _ hg
            have hql : q < ds.length := by
              rcases Nat.lt_or_ge q ds.length with h | h
              · exact h
              · rw [List.getElem?_eq_none h] at hq'; cases hq'
            obtain ⟨d, T, z, Zs, ty, pos, after, a1, a2, _⟩ := hal.at q hql
            rw [hq'] at a1; obtain rfl := Option.some.inj a1
            exact absurd rfl (p2 (n0 + q) t (by omega) (by omega) (by rw [a2]; rfl))
      exact s.slots t S (by rw [look_append, hno]; simpa using ht')
    | some S' =>
      rw [hl] at ht
      obtain rfl : S' = S := by simpa using ht
      obtain ⟨j, o, b0, b1, b2, b3⟩ := hΘ t S' hl
      have hex : ∀ (l' : List Oper) (Ss' : List VP) (j : Nat), (l'[j]?).bind (·.dst) = some t → Ss'[j]? = some S' → (∀ j', j' ≠ j → (l'[j']?).bind (·.dst) ≠ some t) → look (dctx l' Ss') t = some S' := by
        intro l'
        induction l' with
        | nil => intro Ss' j h; simp at h
        | cons o' l' ih =>
          intro Ss' j h1 h2 h3
          cases Ss' with
          | nil => simp at h2
          | cons T Ss' =>
            cases j with
            | zero =>
              simp at h1 h2
              subst h2
              simp [dctx, h1, look]
            | succ j =>
              have hrec := ih Ss' j (by simpa using h1) (by simpa using h2) (fun j' hj' => by simpa using h3 (j' + 1) (by omega))
              have h0 := h3 0 (by omega)
              simp at h0
              simp only [dctx]
              cases hd : o'.dst with
              | none => exact hrec
              | some d' =>
                simp only [look]
                have hne : Nat.beq d' t = false := by
                  cases hb : Nat.beq d' t with
                  | false => rfl
                  | true => exact absurd (by rw [hd, Nat.eq_of_beq_eq_true hb]) h0
                rw [hne]; exact hrec
      have hlk := hex (l.take n0) Ss j (by rw [List.getElem?_take_of_lt b0, b1]; exact b2) b3 (fun j' hj' he => by
        have hj'n : j' < n0 := by
          rcases Nat.lt_or_ge j' n0 with h' | h'
          · exact h'
          · rw [List.getElem?_eq_none (by simp; omega)] at he; simp at he
        rw [List.getElem?_take_of_lt hj'n] at he
        exact (hap1 j t (by omega) (by rw [b1]; exact b2)).2 j' t (by omega) hj' he rfl)
      exact s.slots t S' (by rw [look_append, hlk]; rfl)
  intro a w F s
  refine wp_region_any hm ?_
  have s1 := s.adv (Adv.drew w F)
  have hzl := hal.len
  refine phaseD2 hn1 hD hsub hmid hlen (fun q hql => ?_) hap htl hnl' hk _ _ a _ F 0 (List.replicate ds.length none) (Nat.zero_le _) (by simp) (fun j o hj => ?_) ?_ (by simp) (fun j hj hjl => ?_) (fun j h1 h2 => absurd h2 (by omega)) ?_ ?_ ?_
  · obtain ⟨d, T, z, Zs, ty, pos, after, a1, a2, a3, a4, a5, a6⟩ := hal.at q hql
    refine ⟨d, T, z, Zs, ty, pos, after, a1, a2, a3, a4, a5, fun m' hm' => ?_⟩
    have := hq q hql m' hm'
    rw [List.getElem?_map, a6] at this
    simpa using this
  · have hjl : j < ds.length := by
      rcases Nat.lt_or_ge j ds.length with h | h
      · exact h
      · rw [List.getElem?_eq_none (by simpa using h)] at hj; cases hj
    rw [List.getElem?_replicate, if_pos hjl] at hj
    obtain rfl := Option.some.inj hj
    have : n0 + j < l.length := by omega
    simp [this]
  · simp
    exact Nat.le_trans List.countP_le_length (by simp)
  · have : j < l.length := hjl
    simp [this]
  · intro i o hi hL
    simp [Array.getD_eq_getD_getElem?, Array.getElem?_replicate] at hL
    split at hL <;> simp at hL
  · rw [hf0, hC0]
    have hgn : ∀ (Cs : List MP) (k : Nat), ∀ x ∈ gmem Cs (List.replicate k none), x.1 = none := by
      intro Cs
      induction Cs with
      | nil => intro k x hx; simp [gmem] at hx
      | cons C Cs ih =>
        intro k x hx
        cases k with
        | zero => simp [gmem] at hx
        | succ k =>
          rw [List.replicate_succ] at hx
          simp only [gmem, List.mem_cons] at hx
          rcases hx with rfl | hx
          · rfl
          · exact ih k x hx
    have hgc : ∀ (ds : List Nat) (k : Nat) t S, look (gctx ds (List.replicate k none)) t = some S → S = isOP none := by
      intro ds k t S h
      obtain ⟨j, o, h1, h2, h3⟩ := look_gctx_at _ _ _ _ h
      rw [List.getElem?_replicate] at h2
      split at h2
      · obtain rfl := Option.some.inj h2; exact h3
      · cases h2
    refine { s1 with slots := fun t S ht => ?_, mem := ⟨?_, fun b C hb => ?_⟩ }
    · rw [look_append] at ht
      cases hl : look (gctx ds (List.replicate ds.length none)) t with
      | none => rw [hl] at ht; exact s1.slots t S (by simpa using ht)
      | some S' =>
        rw [hl] at ht
        obtain rfl : S' = S := by simpa using ht
        rw [hgc _ _ _ _ hl]
        intro b hb; cases hb
    · rw [List.pairwise_append]
      refine ⟨?_, s1.mem.apart, fun x hx y hy => .inl (hgn _ _ x hx)⟩
      exact List.Pairwise.imp_of_mem (R := fun _ _ => True) (fun hx _ _ => .inl (hgn _ _ _ hx)) (List.pairwise_of_forall (fun _ _ => trivial))
    · rcases List.mem_append.1 hb with h | h
      · have := hgn _ _ _ h; cases this
      · exact s1.mem.each b C h
  · intro j o d S hL
    simp [Array.getD_eq_getD_getElem?, Array.getElem?_replicate] at hL
    split at hL <;> simp at hL
theorem DrH.mid2 {id n0 : Nat} {l : List Oper} {Θ : Ctx} {Ms : Mem} (hs : Ms.Sublist M) (k : DrN2 E P id l Γ M Ms Q n0 n0 [] [] Θ 0 [] M) : DrH E P id l Γ M Ms Q n0 Θ := DrH.als2 (ds := []) (zs := []) rfl .nil hs rfl k
theorem DrN2.st0 {id n1 m : Nat} {l : List Oper} {Θ : Ctx} {Ms Mc M' : Mem} {o : Oper} (ts : List Nat) (h1 : l[n1 + m]? = some o) (h2 : o.dst = none) (h4 : behindB l (n1 + m) ts = true) (hc : chainB l n1 m = true)
    (h5 : StS E P (keepc ts Θ ++ Γ) Mc o M') (hs : Ms.Sublist M') (k : DrN2 E P id l Γ M Ms Q n1 n1 [] [] Θ (m + 1) [] M') : DrN2 E P id l Γ M Ms Q n1 n1 [] [] Θ m [] Mc := by
  intro Ss CF f hD hΘ hn1 hal hC0 hf0 hCm hfm hsub hlen hmid hq
  have hCl : ([] : List MP).length = ([] : List Nat).length := rfl
  refine k Ss (fun i => if i = m + 1 then [] else CF i) (fun i => if i = m + 1 then M' else f i) hD hΘ hn1 hal (by simp [hC0]) (by simp [hf0]) (by simp) (by simp) (fun i hi => ?_) (fun i hi => ?_) (fun i hi => ?_) (fun q hql i hi => ?_)
  · show Ms.Sublist (if i = m + 1 then M' else f i)
    split
    · exact hs
    · exact hsub i (by omega)
  · show (if i = m + 1 then [] else CF i).length = _
    split
    · exact hCl
    · exact hlen i (by omega)
  · skip
    show MidD2 E P l Γ Ss n1 [] i (if i = m + 1 then [] else CF i) (if i = m + 1 then M' else f i) (if i + 1 = m + 1 then [] else CF (i + 1)) (if i + 1 = m + 1 then M' else f (i + 1))
    rw [if_neg (by omega), if_neg (by omega)]
    by_cases e : i = m
    · subst e
      rw [if_pos rfl, if_pos rfl, hfm, hCm]
      refine ⟨_, keepc ts Θ ++ Γ, [], h1, fun t S' ht => ?_, fun i' hi' => ?_, fun j' hj' => absurd hj' (by simp), .inl ⟨h2, fun B hBl hreq => by
        obtain rfl := List.eq_nil_of_length_eq_zero hBl
        show StS E P ((keepc ts Θ ++ Γ) ++ []) _ o _
        rw [List.append_nil]; exact h5⟩⟩
      · rw [look_append] at ht
        cases hl2 : look (keepc ts Θ) t with
        | none => rw [hl2] at ht; exact .inr (by simpa using ht)
        | some S'' =>
          rw [hl2] at ht
          obtain rfl : S'' = S' := by simpa using ht
          obtain ⟨hm2, hl3⟩ := look_keepc _ _ _ hl2
          obtain ⟨i', oj, b0, b1, b2, b3⟩ := hΘ t S'' hl3
          refine .inl ⟨i', oj, ?_, b1, b2, b3⟩
          have := List.all_eq_true.1 h4 i' (by simp; omega)
          rw [b1] at this
          simp only [Option.bind_some, b2, Bool.or_eq_true] at this
          rcases this with h | h
          · exact h
          · have := List.all_eq_true.1 h t hm2
            simp [Nat.beq_refl] at this
      · exact List.all_eq_true.1 hc i' (by simpa using hi')
    · rw [if_neg (by omega), if_neg (by omega)]
      exact hmid i (by omega)
  · show (if i = m + 1 then [] else CF i)[q]? = _ ∨ _
    by_cases e : i = m + 1
    · rw [if_pos e, ← hCm]
      rcases hq q hql m (Nat.le_refl _) with h | ⟨m', hm', hb'⟩
      · exact .inl h
      · exact .inr ⟨m', by omega, hb'⟩
    · rw [if_neg e]
      exact hq q hql i (by omega)
theorem DrN2.fin0 {id n1 m n : Nat} {l : List Oper} {Θ : Ctx} {Ms Mc : Mem} (hm : P.follows .mixedOrders = true) (hn : n = n1 + m) (hap : apartB l n Γ = true) (htl : tailB l n = true) (hnl : Nat.ble n l.length = true)
  (k : Ops E P l.toArray Q (l.drop n) (Θ ++ Γ) Mc) : DrN2 E P id l Γ M Ms Q n1 n1 [] [] Θ m [] Mc := DrN2.fin hm hn hap htl hnl fun bs hbs => by
 obtain rfl := List.eq_nil_of_length_eq_zero hbs
 exact k
end
end Go.En
namespace Go.Nt
theorem zv_zero (n : Bool) (xs : List Nat) : zv n xs = 0 ↔ val xs = 0 := by unfold zv; split <;> omega
theorem from_neg (m : Bool) (xs : List Nat) : (m && decide (0 < (((List.length (words (val xs))) : Nat) : Int))) = decide (zv m xs < 0) := by
 rw [zv_neg]
 congr 1
 apply decide_eq_decide.2
 constructor
 ·intro h e; rw [e, words_zero] at h; simp at h
 ·intro h; have := nw_pos h; omega
theorem from_word (m : Bool) (n : Nat) : zv m (words n) = if m = true then -(n : Int) else (n : Int) := by unfold zv; rw [val_words]
theorem neg_word {x : Int} (h : x < 0) (h2 : -9223372036854775808 ≤ x) : (18446744073709551616 - (x % 18446744073709551616).toNat) % 18446744073709551616 = x.natAbs := by omega
theorem sgn_zero {n : Bool} {xs : List Nat} (h : ((bitLen (val xs) : Nat) : Int) = 0) : 0 = sgn (zv n xs) := by
 have h2 : val xs = 0 := by
  rcases Nat.eq_zero_or_pos (val xs) with e | e
  ·exact e
  ·have := bitLen_pos (x := val xs) (by omega); omega
 unfold sgn; rw [if_pos ((zv_zero n xs).2 h2)]
theorem sgn_of {n : Bool} {xs : List Nat} (h : ¬ ((bitLen (val xs) : Nat) : Int) = 0) : (if n = true then -1 else 1) = sgn (zv n xs) := by
 have h2 : val xs ≠ 0 := fun e => h (by rw [e]; rfl)
 cases n
 ·have e : zv false xs = (val xs : Int) := zv_false xs
  show (1 : Int) = sgn (zv false xs)
  rw [e]; unfold sgn; rw [if_neg (by omega), if_neg (by omega)]
 ·have e : zv true xs = -(val xs : Int) := by unfold zv; rw [if_pos rfl]
  show (-1 : Int) = sgn (zv true xs)
  rw [e]; unfold sgn; rw [if_neg (by omega), if_pos (by omega)]
theorem sgn_cases (z : Int) : (sgn z = 0 ∧ z = 0) ∨ (sgn z = -1 ∧ z < 0) ∨ (sgn z = 1 ∧ 0 < z) := by
 unfold sgn; split
 ·exact .inl ⟨rfl, by assumption⟩
 ·split
  ·exact .inr (.inl ⟨rfl, by assumption⟩)
  ·exact .inr (.inr ⟨rfl, by omega⟩)
theorem sgn_range (z : Int) : -1 ≤ sgn z ∧ sgn z ≤ 1 := by rcases sgn_cases z with h | h | h <;> omega
theorem cmpZ_lt {x y : Int} (h : sgn x < sgn y) : -1 = cmpZ x y := by
 have : x < y := by rcases sgn_cases x with h1 | h1 | h1 <;> rcases sgn_cases y with h2 | h2 | h2 <;> omega
 unfold cmpZ; rw [if_pos this]
theorem cmpZ_gt {x y : Int} (h : sgn y < sgn x) : 1 = cmpZ x y := by
 have : y < x := by rcases sgn_cases x with h1 | h1 | h1 <;> rcases sgn_cases y with h2 | h2 | h2 <;> omega
 unfold cmpZ; rw [if_neg (by omega), if_pos this]
theorem cmpN_cases (a b : Nat) : (a < b ∧ cmpN a b = -1) ∨ (b < a ∧ cmpN a b = 1) ∨ (a = b ∧ cmpN a b = 0) := by
 unfold cmpN; split
 ·exact .inl ⟨by assumption, rfl⟩
 ·split
  ·exact .inr (.inl ⟨by assumption, rfl⟩)
  ·exact .inr (.inr ⟨by omega, rfl⟩)
theorem cmpZ_cases (x y : Int) : (x < y ∧ cmpZ x y = -1) ∨ (y < x ∧ cmpZ x y = 1) ∨ (x = y ∧ cmpZ x y = 0) := by
 unfold cmpZ; split
 ·exact .inl ⟨by assumption, rfl⟩
 ·split
  ·exact .inr (.inl ⟨by assumption, rfl⟩)
  ·exact .inr (.inr ⟨by omega, rfl⟩)
theorem cmpZ_neg {m n : Bool} {xs ys : List Nat} (h1 : sgn (zv m xs) < 0) (h2 : ¬ sgn (zv m xs) < sgn (zv n ys)) (h3 : ¬ sgn (zv n ys) < sgn (zv m xs)) : cmpN (val ys) (val xs) = cmpZ (zv m xs) (zv n ys) := by
 have hx := zv_abs m xs
 have hy := zv_abs n ys
 generalize zv m xs = x at *
 generalize zv n ys = y at *
 rcases sgn_cases x with c | c | c <;> rcases sgn_cases y with d | d | d <;> rcases cmpN_cases (val ys) (val xs) with e | e | e <;> rcases cmpZ_cases x y with f | f | f <;> omega
theorem cmpZ_pos {m n : Bool} {xs ys : List Nat} (h1 : ¬ sgn (zv m xs) < 0) (h2 : ¬ sgn (zv m xs) < sgn (zv n ys)) (h3 : ¬ sgn (zv n ys) < sgn (zv m xs)) : cmpN (val xs) (val ys) = cmpZ (zv m xs) (zv n ys) := by
 have hx := zv_abs m xs
 have hy := zv_abs n ys
 generalize zv m xs = x at *
 generalize zv n ys = y at *
 rcases sgn_cases x with c | c | c <;> rcases sgn_cases y with d | d | d <;> rcases cmpN_cases (val xs) (val ys) with e | e | e <;> rcases cmpZ_cases x y with f | f | f <;> omega
theorem cmpZ_eq0 (x y : Int) : decide (cmpZ x y = 0) = decide (x = y) := by
 apply decide_eq_decide.2
 rcases cmpZ_cases x y with h | h | h <;> omega
theorem sgn_eq0 (z : Int) : sgn z = 0 ↔ z = 0 := by rcases sgn_cases z with h | h | h <;> omega
theorem sgn_lt (z : Int) : sgn z < 0 ↔ z < 0 := by rcases sgn_cases z with h | h | h <;> omega
theorem quo_rest (m n : Bool) (xs ys : List Nat) : zv m (words (if val ys = 0 then 0 else val xs % val ys)) = if zv n ys = 0 then 0 else (zv m xs).tmod (zv n ys) := by
 by_cases h : val ys = 0
 ·rw [if_pos h, if_pos ((zv_zero n ys).2 h), from_word]; simp
 ·rw [if_neg h, if_neg (fun e => h ((zv_zero n ys).1 e)), zv_tmod]
theorem ne_zv (n : Bool) (ys : List Nat) : decide (val ys ≠ 0) = decide (zv n ys ≠ 0) := decide_eq_decide.2 (not_congr (zv_zero n ys).symm)
theorem ex_no {x y : Int} (h : ¬ y ≠ 0 ∨ ¬ sgn (if y = 0 then 0 else x.tmod y) = 0) : ¬ (y ≠ 0 ∧ x.tmod y = 0) := by
 rintro ⟨h1, h2⟩
 rcases h with h | h
 ·exact h h1
 ·rw [if_neg h1, sgn_eq0] at h; exact h h2
theorem ex_yes {x y : Int} (h : y ≠ 0 ∧ sgn (if y = 0 then 0 else x.tmod y) = 0) : y ≠ 0 ∧ x.tmod y = 0 := by
 obtain ⟨h1, h2⟩ := h
 rw [if_neg h1, sgn_eq0] at h2
 exact ⟨h1, h2⟩
theorem nz_if (x y : Int) : (List.length (words (if y = 0 then 0 else x.tmod y).natAbs)) ≤ (List.length (words x.natAbs)) := by
 split
 ·rw [Int.natAbs_zero, words_zero]; exact Nat.zero_le _
 ·exact nz_tmod x y
theorem nz_one : (List.length (words (1 : Int).natAbs)) = 1 := nw_one
end Go.Nt
namespace Go.Nt
def dv (n : Bool) (xs : List Nat) : Int := if n = true then -(dval xs : Int) else (dval xs : Int)
/-! ### lines of a product -/
end Go.Nt
namespace Go.Nt
def xg (A B : Int) : Int := (cof A B 1 0).2 % ((B.natAbs : Int) / ((Nat.gcd A.natAbs B.natAbs : Nat) : Int))
/-! ### powers -/
/-! ### Euclid's steps are few -/
/-! ### the elements of a field -/
theorem toNat_lt {z : Int} {p : Nat} (hp : 0 < p) : (z % (p : Int)).toNat < p := by
 have h1 := Int.emod_nonneg z (show (p : Int) ≠ 0 by omega)
 have h2 := Int.emod_lt_of_pos z (show 0 < (p : Int) by omega)
 omega
end Go.Nt
namespace Go.En
open Go.RowKit Go.Nt
abbrev isZ (z : Int) : VP := Flat [isB (decide (z < 0)), SlM isU (words z.natAbs)]
abbrev zM (k : Nat) (z : Int) : Option Nat × MP := (some k, cellM [isB (decide (z < 0)), SlM isU (words z.natAbs)])
theorem isZ_eq {z z' : Int} (h : z = z') : isZ z = isZ z' := h ▸ rfl
theorem isZ_of {n : Bool} {xs : List Nat} {z : Int} (h : n = decide (z < 0)) (h2 : xs = words z.natAbs) : Flat [isB n, SlM isU xs] = isZ z := by subst h; subst h2; rfl
theorem isZ0 : Flat [isB false, SlM isU []] = isZ 0 := isZ_of (by decide) (by rw [Int.natAbs_zero, words_zero])
section
variable {E : Env} {P : Program} {Γ : Ctx} {M : Mem} {x : Operand}
theorem Has.okZ {n : Bool} {xs : List Nat} (h : Has E Γ M x (Flat [isB n, SlM isU xs])) : ∀ a w F, Sat E Γ M a w F → (∀ y ∈ xs, y < 18446744073709551616) ∧ xs.length ≤ 9223372036854775807 := by
 intro a w F s
 obtain ⟨vs, e, hv⟩ := h a w F s
 obtain ⟨v, hv1, hv2⟩ := hv.get 1 (SlM isU xs) rfl
 obtain ⟨ad, cap, e, g1, g2, g3, g4⟩ := hv2
 refine ⟨fun y hy => ?_, by rw [maxLen_eq] at g2; omega⟩
 obtain ⟨i, hi, rfl⟩ := List.mem_iff_getElem.1 hy
 rcases g4 with g4 | ⟨b, off, _, _, vs, hv, _⟩
 ·omega
 ·obtain ⟨v, _, h2⟩ := hv.get i (isU xs[i]) (by simp [hi])
  exact h2.2
theorem Has.lt2 {a b : Nat} (h : Has E Γ M x (Flat [isU a, isU b])) : ∀ ac w F, Sat E Γ M ac w F → a < 18446744073709551616 ∧ b < 18446744073709551616 := by
 intro ac w F s
 obtain ⟨vs, e, hv⟩ := h ac w F s
 obtain ⟨v, hv1, hv2⟩ := hv.get 0 (isU a) rfl
 obtain ⟨v', hv3, hv4⟩ := hv.get 1 (isU b) rfl
 exact ⟨hv2.2, hv4.2⟩
end
end Go.En
namespace Go.Proofs.YtcfobalbkhgdmaaGreat
open Go.En Go.RowKit
set_option maxRecDepth 10000
set_option maxHeartbeats 4000000
open Go.Nt
theorem zint_From {xs : List Nat} {m : Bool} (hx : (List.length (words (val xs))) ≤ 4294967296) : Ctr Tryz.prog 33 [isWords xs, isB m] (isZ (zv m xs)) := by
 refine Ctr.intro Tryz.func33 rfl (by kernel_rfl) Tryz.ntmps33 rfl fun w0 F0 => .cv (Cv.wk (.l [0, 1] rfl)) (.fact (Has.lenLt (Has.t (t := 0) rfl)) fun lt0 => .fact (Has.okW (Has.t (t := 0) rfl)) fun ok0 => .seq fun _ k1 => .region (.alloc [isB false, SlM isU []] zero36 (fun _ _ => ⟨rfl, nilM _ _, trivial⟩) rfl fun b1 => nl (.thn (k1 _ _ (.seq fun _ k2 => .region (st (.mv (.t rfl)) rfl (st (.call (nat_Norm (by with_reducible assumption)) (.cons (.t rfl) .nil)) rfl (st (.as (.t rfl)) rfl (nl (.thn (k2 _ _ (.seq fun _ k3 => .region (st (.mv (.t rfl)) rfl (st (.mv (.t rfl)) rfl (stT rfl rfl (fun hg => .mv (.t rfl)) rfl (stT rfl rfl (fun hg => .len sl34 (Has.g rfl hg)) rfl (stT rfl rfl (fun hg => .gtI (Has.g rfl hg) (.cI 0 rfl)) rfl (st (.pickAnd (.t rfl) (fun h => Has.g rfl h)) rfl (st (.mv (.t rfl)) rfl (st (.build [isB false, SlM isU []] pl36 zero36 (fun _ _ => ⟨rfl, nilM _ _, trivial⟩) (.cons (.t rfl) rfl rfl rfl (.cons (.t rfl) rfl rfl rfl .nil)) (Z'' := [_, _]) rfl) rfl (.store (.t rfl) (.t rfl) (i := 0) rfl ty36 rfl rfl (Ss' := [_, _]) rfl (M' := [(some _, cellM [_, _])]) rfl (nl (.thn (k3 _ _ (.cv (Cv.wk (.l [4] rfl)) (.ret (rt1 (.inl rfl) Tryz.results33 rfl (.cell rfl (i := 0) rfl ty36 rfl ?_ .nil))))))))))))))))))))))))))))
 ·exact isZ_of (from_neg m xs) (by rw [zv_abs])
theorem zint_Of {x : Int} : Ctr Tryz.prog 10 [isI x] (isZ x) := by
 refine Ctr.intro Tryz.func10 rfl (by kernel_rfl) Tryz.ntmps10 rfl fun w0 F0 => .cv (Cv.wk (.l [0] rfl)) (.fact (Has.rngI (Has.t (t := 0) rfl)) fun lt0 => .seq fun _ k1 => .region (.alloc [isB false, SlM isU []] zero36 (fun _ _ => ⟨rfl, nilM _ _, trivial⟩) rfl fun b1 => nl (.thn (k1 _ _ (.seq fun _ k2 => .seq fun _ k3 => .region (st (.mv (.t rfl)) rfl (st (.ltI (.t rfl) (.cI 0 rfl)) rfl (nl (.thn (k3 _ _ (.cond (.t rfl) (fun hc1 => ?_) (fun hc1 => ?_))))))))))))
 ·have hc1 := BP.t hc1
  have hN : x < 0 := hc1
  refine .seq fun _ k4 => .region (st (.mv (.t rfl)) rfl (st (.convIUw un2 un62 (.t rfl)) rfl (st (.eq (.negU (.t rfl) (by omega)) ((show isU _ = isU x.natAbs from isU_eq (neg_word hc1 (by omega))))) rfl (st (.call (nat_Of) (.cons (.t rfl) .nil)) rfl (st (.call (zint_From (by simp only [val_words]; exact Nat.le_trans (nw_small' (by omega)) (by decide))) (.cons (.t rfl) (.cons (.cB true) .nil))) rfl ?_)))))
  refine .store (.t rfl) (.t rfl) (i := 0) rfl ty36 rfl rfl (Ss' := [_, _]) rfl (M' := [(some _, cellM [_, _])]) rfl (nl (.thn (k4 _ _ (.cv (Cv.wk (.l [0, 2] rfl)) (.ret (.thr (rt1 (.inl rfl) Tryz.results10 rfl (.cell rfl (i := 0) rfl ty36 rfl ?_ .nil))))))))
  ·exact isZ_eq (by rw [from_word, if_pos rfl]; omega)
 ·have hc1 := BP.f hc1
  have hN : 0 ≤ x := (by omega)
  refine .skip (.thn (k2 _ _ (.seq fun _ k5 => .region (st (.mv (.t rfl)) rfl (st (.eq (.convIU un2 un62 (.t rfl) (by with_reducible assumption) (by omega)) ((show isU _ = isU x.natAbs from isU_eq (by omega)))) rfl (st (.call (nat_Of) (.cons (.t rfl) .nil)) rfl (st (.call (zint_From (by simp only [val_words]; exact Nat.le_trans (nw_small' (by omega)) (by decide))) (.cons (.t rfl) (.cons (.cB false) .nil))) rfl ?_)))))))
  refine .store (.t rfl) (.t rfl) (i := 0) rfl ty36 rfl rfl (Ss' := [_, _]) rfl (M' := [(some _, cellM [_, _])]) rfl (nl (.thn (k5 _ _ (.cv (Cv.wk (.l [2] rfl)) (.ret (rt1 (.inl rfl) Tryz.results10 rfl (.cell rfl (i := 0) rfl ty36 rfl ?_ .nil)))))))
  ·exact isZ_eq (by rw [from_word, if_neg (by decide)]; omega)
theorem zint_Sign {m : Bool} {xs : List Nat} (hx : (List.length (words (val xs))) < 4294900000) : Ctr Tryz.prog 49 [Flat [isB m, isWords xs]] (isI (sgn (zv m xs))) := by
 refine Ctr.intro Tryz.func49 rfl (by kernel_rfl) Tryz.ntmps49 rfl fun w0 F0 => .cv (Cv.wk (.l [0] rfl)) (.fact (Has.okZ (Has.t (t := 0) rfl)) fun okz0 => .seq fun _ k1 => .region (.box (.t rfl) rfl fun b1 => st (.as (.cI 0 rfl)) rfl (nl (.thn (k1 _ _ (.seq fun _ k2 => .block (.seq fun _ k3 => .region (st (.fieldAddr (.t rfl) fld36_1 ty34) rfl (st (.load1 (.t rfl) (i := 0) rfl ty34 rfl) rfl (st (.call (nat_Bits (by omega)) (.cons (.t rfl) .nil)) rfl (st (.eqI (.t rfl) (.cI 0 rfl)) rfl (st (.as (.t rfl)) rfl (nl (.thn (k3 _ _ (.cv (Cv.wk (.l [1, 2, 3] rfl)) (.cond (.t rfl) (fun hc1 => ?_) (fun hc1 => ?_))))))))))))))))))
 ·have hc1 := BP.t hc1
  refine .seq fun _ k4 => .region (st (.as (.cI 0 rfl)) rfl (nl (.thn (k4 _ _ (.ret (.blr (.thr (rt1 (.inl rfl) Tryz.results49 rfl (.tmp (Has.t' rfl ?_) .nil)))))))))
  all_goals (exact isI_eq (sgn_zero hc1))
 ·have hc1 := BP.f hc1
  refine .seq fun _ k5 => .region (st (.fieldAddr (.t rfl) fld36_0 ty4) rfl (st (.load1 (.t rfl) (i := 0) rfl ty4 rfl) rfl (st (.as (.t rfl)) rfl (nl (.thn (k5 _ _ (.cond (.t rfl) (fun hc2 => ?_) (fun hc2 => ?_))))))))
  ·have hc2 := BP.t hc2
   have HM := hc2
   refine .seq fun _ k6 => .region (st (.as (.cI (-1) rfl)) rfl (nl (.thn (k6 _ _ (.cv (Cv.wk (.l [2] rfl)) (.ret (.blr (.thr (rt1 (.inl rfl) Tryz.results49 rfl (.tmp (Has.t' rfl ?_) .nil))))))))))
   all_goals (exact isI_eq (by rw [← sgn_of hc1, if_pos HM]))
  ·have hc2 := BP.f hc2
   have HM := hc2
   refine .skip (.bln (.thn (k2 _ _ (.cv (Cv.wk (.l [2] rfl)) (.seq fun _ k7 => .region (st (.as (.cI 1 rfl)) rfl (nl (.thn (k7 _ _ (.ret (rt1 (.inl rfl) Tryz.results49 rfl (.tmp (Has.t' rfl ?_) .nil))))))))))))
   all_goals (exact isI_eq (by rw [← sgn_of hc1, if_neg (by rw [HM]; decide)]))
theorem zint_Cmp {m n : Bool} {xs ys : List Nat} (hx : (List.length (words (val xs))) < 4294700000) (hy : (List.length (words (val ys))) < 4294700000) : Ctr Tryz.prog 32 [Flat [isB m, isWords xs], Flat [isB n, isWords ys]] (isI (cmpZ (zv m xs) (zv n ys))) := by
 refine Ctr.intro Tryz.func32 rfl (by kernel_rfl) Tryz.ntmps32 rfl fun w0 F0 => .cv (Cv.wk (.l [0, 1] rfl)) (.fact (Has.okZ (Has.t (t := 0) rfl)) fun okz0 => .fact (Has.okZ (Has.t (t := 1) rfl)) fun okz1 => .seq fun _ k1 => .region (.box (.t rfl) rfl fun b1 => .box (.t rfl) rfl fun b2 => st (.as (.cI 0 rfl)) rfl (nl (.thn (k1 _ _ (.seq fun _ k2 => .dr (.s [] rfl rfl rfl (.o rfl (.load (.t rfl) (i := 1) rfl ty36 rfl (Ss' := [_, _]) rfl)) (.s [7] rfl rfl rfl (.o rfl (.call (zint_Sign (by omega)) (.cons (.t rfl) .nil))) (.s [] rfl rfl rfl (.o rfl (.load (.t rfl) (i := 0) rfl ty36 rfl (Ss' := [_, _]) rfl)) (.fin (n := 3) mixed (by kernel_rfl) (by kernel_rfl) (by kernel_rfl) (.cv (Cv.wk (.l [2, 3, 4, 8, 9] rfl)) (st (.call (zint_Sign (by omega)) (.cons (.t rfl) .nil)) rfl (st (.as (.t rfl)) rfl (st (.as (.t rfl)) rfl (nl (.thn (k2 _ _ (.seq fun _ k3 => .block (.seq fun _ k4 => .region (st (.mv (.t rfl)) rfl (st (.mv (.t rfl)) rfl (st (.ltI (.t rfl) (.t rfl)) rfl (st (.as (.t rfl)) rfl (nl (.thn (k4 _ _ (.cv (Cv.wk (.l [2, 3, 4, 5, 6, 11] rfl)) ?_)))))))))))))))))))))))))))
 refine .cond (.t rfl) (fun hc1 => ?_) (fun hc1 => ?_)
 ·have hc1 := BP.t hc1
  refine .seq fun _ k5 => .region (st (.as (.cI (-1) rfl)) rfl (nl (.thn (k5 _ _ (.ret (.blr (.thr (rt1 (.inl rfl) Tryz.results32 rfl (.tmp (Has.t' rfl ?_) .nil)))))))))
  all_goals (exact isI_eq (cmpZ_lt hc1))
 ·have hc1 := BP.f hc1
  refine .seq fun _ k6 => .region (st (.mv (.t rfl)) rfl (st (.mv (.t rfl)) rfl (st (.gtI (.t rfl) (.t rfl)) rfl (st (.as (.t rfl)) rfl (nl (.thn (k6 _ _ (.cv (Cv.wk (.l [2, 3, 4, 5, 15] rfl)) (.cond (.t rfl) (fun hc2 => ?_) (fun hc2 => ?_))))))))))
  ·have hc2 := BP.t hc2
   refine .seq fun _ k7 => .region (st (.as (.cI 1 rfl)) rfl (nl (.thn (k7 _ _ (.ret (.blr (.thr (rt1 (.inl rfl) Tryz.results32 rfl (.tmp (Has.t' rfl ?_) .nil)))))))))
   all_goals (exact isI_eq (cmpZ_gt hc2))
  ·have hc2 := BP.f hc2
   refine .seq fun _ k8 => .region (st (.mv (.t rfl)) rfl (st (.ltI (.t rfl) (.cI 0 rfl)) rfl (st (.as (.t rfl)) rfl (nl (.thn (k8 _ _ (.cond (.t rfl) (fun hc3 => ?_) (fun hc3 => ?_))))))))
   ·have hc3 := BP.t hc3
    refine .seq fun _ k9 => .region (st (.fieldAddr (.t rfl) fld36_1 ty34) rfl (st (.load1 (.t rfl) (i := 0) rfl ty34 rfl) rfl (st (.fieldAddr (.t rfl) fld36_1 ty34) rfl (st (.load1 (.t rfl) (i := 1) rfl ty34 rfl) rfl (st (.call (nat_Cmp) (.cons (.t rfl) (.cons (.t rfl) .nil))) rfl (st (.as (.t rfl)) rfl (nl (.thn (k9 _ _ (.cv (Cv.wk (.l [2, 3, 4] rfl)) (.ret (.blr (.thr (rt1 (.inl rfl) Tryz.results32 rfl (.tmp (Has.t' rfl ?_) .nil)))))))))))))))
    all_goals (exact isI_eq (cmpZ_neg hc3 (by omega) (by omega)))
   ·have hc3 := BP.f hc3
    refine .skip (.bln (.thn (k3 _ _ (.cv (Cv.wk (.l [2, 3, 4] rfl)) (.seq fun _ k10 => .region (st (.fieldAddr (.t rfl) fld36_1 ty34) rfl (st (.load1 (.t rfl) (i := 1) rfl ty34 rfl) rfl (st (.fieldAddr (.t rfl) fld36_1 ty34) rfl (st (.load1 (.t rfl) (i := 0) rfl ty34 rfl) rfl (st (.call (nat_Cmp) (.cons (.t rfl) (.cons (.t rfl) .nil))) rfl (st (.as (.t rfl)) rfl (nl (.thn (k10 _ _ (.cv (Cv.wk (.l [4] rfl)) (.ret (rt1 (.inl rfl) Tryz.results32 rfl (.tmp (Has.t' rfl ?_) .nil))))))))))))))))))
    all_goals (exact isI_eq (cmpZ_pos (by omega) (by omega) (by omega)))
theorem zint_Same {m n : Bool} {xs ys : List Nat} (hx : (List.length (words (val xs))) < 4294700000) (hy : (List.length (words (val ys))) < 4294700000) : Ctr Tryz.prog 9 [Flat [isB m, isWords xs], Flat [isB n, isWords ys]] (isB (decide (zv m xs = zv n ys))) := by
 refine Ctr.intro Tryz.func9 rfl (by kernel_rfl) Tryz.ntmps9 rfl fun w0 F0 => .cv (Cv.wk (.l [0, 1] rfl)) (.fact (Has.okZ (Has.t (t := 0) rfl)) fun okz0 => .fact (Has.okZ (Has.t (t := 1) rfl)) fun okz1 => .seq fun _ k1 => .region (.box (.t rfl) rfl fun b1 => .box (.t rfl) rfl fun b2 => st (.as (.cB false)) rfl (nl (.thn (k1 _ _ (.seq fun _ k2 => .region (st (.load (.t rfl) (i := 1) rfl ty36 rfl (Ss' := [_, _]) rfl) rfl (st (.load (.t rfl) (i := 0) rfl ty36 rfl (Ss' := [_, _]) rfl) rfl (st (.call (zint_Cmp (by with_reducible assumption) (by with_reducible assumption)) (.cons (.t rfl) (.cons (.t rfl) .nil))) rfl (st (.eqI (.t rfl) (.cI 0 rfl)) rfl (st (.as (.t rfl)) rfl (nl (.thn (k2 _ _ (.cv (Cv.wk (.l [4] rfl)) (.ret (rt1 (.inl rfl) Tryz.results9 rfl (.tmp (Has.t' rfl ?_) .nil))))))))))))))))))
 all_goals (exact isB_eq (cmpZ_eq0 _ _))
theorem zint_Neg {m : Bool} {xs : List Nat} (hx : (List.length (words (val xs))) < 4294900000) : Ctr Tryz.prog 43 [Flat [isB m, isWords xs]] (isZ (-(zv m xs))) := by
 refine Ctr.intro Tryz.func43 rfl (by kernel_rfl) Tryz.ntmps43 rfl fun w0 F0 => .cv (Cv.wk (.l [0] rfl)) (.fact (Has.okZ (Has.t (t := 0) rfl)) fun okz0 => .seq fun _ k1 => .region (.box (.t rfl) rfl fun b1 => .alloc [isB false, SlM isU []] zero36 (fun _ _ => ⟨rfl, nilM _ _, trivial⟩) rfl fun b2 => nl (.thn (k1 _ _ (.seq fun _ k2 => .region (st (.fieldAddr (.t rfl) fld36_1 ty34) rfl (st (.load1 (.t rfl) (i := 1) rfl ty34 rfl) rfl (st (.fieldAddr (.t rfl) fld36_0 ty4) rfl (st (.load1 (.t rfl) (i := 1) rfl ty4 rfl) rfl (st (.not (.t rfl)) rfl (st (.call (zint_From (by omega)) (.cons (.t rfl) (.cons (.t rfl) .nil))) rfl (.store (.t rfl) (.t rfl) (i := 0) rfl ty36 rfl rfl (Ss' := [_, _]) rfl (M' := [(some _, cellM [_, _]), _]) rfl (nl (.thn (k2 _ _ (.cv (Cv.wk (.l [2] rfl)) (.ret (rt1 (.inl rfl) Tryz.results43 rfl (.cell rfl (i := 0) rfl ty36 rfl ?_ .nil)))))))))))))))))))
 ·exact isZ_eq (zv_not m xs)
theorem zint_Add {m n : Bool} {xs ys : List Nat} (hx : (List.length (words (val xs))) < 4294700000) (hy : (List.length (words (val ys))) < 4294700000) : Ctr Tryz.prog 51 [Flat [isB m, isWords xs], Flat [isB n, isWords ys]] (isZ (zv m xs + zv n ys)) := by
 refine Ctr.intro Tryz.func51 rfl (by kernel_rfl) Tryz.ntmps51 rfl fun w0 F0 => .cv (Cv.wk (.l [0, 1] rfl)) (.fact (Has.okZ (Has.t (t := 0) rfl)) fun okz0 => .fact (Has.okZ (Has.t (t := 1) rfl)) fun okz1 => ?_)
 have ha := nw_add_le (val xs) (val ys)
 have hb := nw_mono (Nat.sub_le (val xs) (val ys))
 have hd := nw_mono (Nat.sub_le (val ys) (val xs))
 refine .seq fun _ k1 => .region (.box (.t rfl) rfl fun b1 => .box (.t rfl) rfl fun b2 => .alloc [isB false, SlM isU []] zero36 (fun _ _ => ⟨rfl, nilM _ _, trivial⟩) rfl fun b3 => nl (.thn (k1 _ _ (.seq fun _ k2 => .seq fun _ k3 => .region (st (.fieldAddr (.t rfl) fld36_0 ty4) rfl (st (.load1 (.t rfl) (i := 2) rfl ty4 rfl) rfl (st (.fieldAddr (.t rfl) fld36_0 ty4) rfl (st (.load1 (.t rfl) (i := 1) rfl ty4 rfl) rfl (st (.eqB (du := un4) rfl (.t rfl) (.t rfl)) rfl (nl (.thn (k3 _ _ (.cv (Cv.wk (.l [2, 3, 4, 13] rfl)) (.cond (.t rfl) (fun hc1 => ?_) (fun hc1 => ?_)))))))))))))))
 ·have hc1 := BP.t hc1
  have HM : m = n := eq_of_beq hc1
  refine .seq fun _ k4 => .dr (.s [] rfl rfl rfl (.o rfl (.fieldAddr (.t rfl) fld36_1 ty34)) (.s [14] rfl rfl rfl (.o rfl (.load1 (.t rfl) (i := 2) rfl ty34 rfl)) (.s [] rfl rfl rfl (.o rfl (.fieldAddr (.t rfl) fld36_1 ty34)) (.s [16] rfl rfl rfl (.o rfl (.load1 (.t rfl) (i := 1) rfl ty34 rfl)) (.s [15, 17] rfl rfl rfl (.o rfl (.call (nat_Add (by omega) (by omega)) (.cons (.t rfl) (.cons (.t rfl) .nil)))) (.s [] rfl rfl rfl (.o rfl (.fieldAddr (.t rfl) fld36_0 ty4)) (.s [19] rfl rfl rfl (.o rfl (.load1 (.t rfl) (i := 2) rfl ty4 rfl)) (.fin (n := 7) mixed (by kernel_rfl) (by kernel_rfl) (by kernel_rfl) (.cv (Cv.wk (.l [2, 3, 4, 18, 20] rfl)) (st (.call (zint_From (by simp only [val_words, zv_nf]; omega)) (.cons (.t rfl) (.cons (.t rfl) .nil))) rfl ?_))))))))))
  refine .store (.t rfl) (.t rfl) (i := 0) rfl ty36 rfl rfl (Ss' := [_, _]) rfl (M' := [(some _, cellM [_, _]), _, _]) rfl (nl (.thn (k4 _ _ (.ret (.thr (rt1 (.inl rfl) Tryz.results51 rfl (.cell rfl (i := 0) rfl ty36 rfl ?_ .nil)))))))
  ·exact isZ_eq (zv_add_same HM xs ys).symm
 ·have hc1 := BP.f hc1
  have HM : m ≠ n := fun e => by rw [e] at hc1; simp at hc1
  refine .skip (.thn (k2 _ _ (.seq fun _ k5 => .seq fun _ k6 => .region (st (.fieldAddr (.t rfl) fld36_1 ty34) rfl (st (.load1 (.t rfl) (i := 2) rfl ty34 rfl) rfl (st (.fieldAddr (.t rfl) fld36_1 ty34) rfl (st (.load1 (.t rfl) (i := 1) rfl ty34 rfl) rfl (st (.call (nat_Sub (by omega)) (.cons (.t rfl) (.cons (.t rfl) .nil))) rfl (st (.mv (.t rfl)) rfl (st (.ext (.t rfl) rfl) rfl (st (.ext (.t rfl) rfl) rfl (st (.as (.t rfl)) rfl (st (.as (.t rfl)) rfl (nl (.thn (k6 _ _ (.cv (Cv.wk (.l [2, 3, 4, 5, 6] rfl)) (.seq fun _ k7 => .region (st (.mv (.t rfl)) rfl (nl (.thn (k7 _ _ (.cond (.t rfl) (fun hc2 => ?_) (fun hc2 => ?_))))))))))))))))))))))))
  ·have hc2 := BP.t hc2
   have HL : val ys ≤ val xs := hc2
   refine .seq fun _ k8 => .region (st (.mv (.t rfl)) rfl (st (.fieldAddr (.t rfl) fld36_0 ty4) rfl (st (.load1 (.t rfl) (i := 2) rfl ty4 rfl) rfl (st (.call (zint_From (by simp only [val_words, zv_nf]; omega)) (.cons (.t rfl) (.cons (.t rfl) .nil))) rfl ?_))))
   refine .store (.t rfl) (.t rfl) (i := 0) rfl ty36 rfl rfl (Ss' := [_, _]) rfl (M' := [(some _, cellM [_, _]), _, _]) rfl (nl (.thn (k8 _ _ (.cv (Cv.wk (.l [2, 3, 4] rfl)) (.ret (.thr (rt1 (.inl rfl) Tryz.results51 rfl (.cell rfl (i := 0) rfl ty36 rfl ?_ .nil))))))))
   ·exact isZ_eq (zv_add_sub HM HL).symm
  ·have hc2 := BP.f hc2
   have HL : ¬ val ys ≤ val xs := (by omega)
   refine .skip (.thn (k5 _ _ (.seq fun _ k9 => .region (st (.fieldAddr (.t rfl) fld36_1 ty34) rfl (st (.load1 (.t rfl) (i := 1) rfl ty34 rfl) rfl (st (.fieldAddr (.t rfl) fld36_1 ty34) rfl (st (.load1 (.t rfl) (i := 2) rfl ty34 rfl) rfl (st (.call (nat_Sub (by omega)) (.cons (.t rfl) (.cons (.t rfl) .nil))) rfl (st (.mv (.t rfl)) rfl (st (.ext (.t rfl) rfl) rfl (st (.ext (.t rfl) rfl) rfl (st (.as (.t rfl)) rfl (st (.as (.t rfl)) rfl (nl (.thn (k9 _ _ (.cv (Cv.wk (.l [3, 4, 7] rfl)) (.seq fun _ k10 => .region (st (.mv (.t rfl)) rfl (st (.fieldAddr (.t rfl) fld36_0 ty4) rfl (st (.load1 (.t rfl) (i := 1) rfl ty4 rfl) rfl (st (.call (zint_From (by simp only [val_words, zv_nf]; omega)) (.cons (.t rfl) (.cons (.t rfl) .nil))) rfl ?_))))))))))))))))))))))
   refine .store (.t rfl) (.t rfl) (i := 0) rfl ty36 rfl rfl (Ss' := [_, _]) rfl (M' := [(some _, cellM [_, _]), _, _]) rfl (nl (.thn (k10 _ _ (.cv (Cv.wk (.l [4] rfl)) (.ret (rt1 (.inl rfl) Tryz.results51 rfl (.cell rfl (i := 0) rfl ty36 rfl ?_ .nil)))))))
   ·exact isZ_eq (by rw [Int.add_comm]; exact (zv_add_sub (fun e => HM e.symm) (by omega)).symm)
theorem zint_Sub {m n : Bool} {xs ys : List Nat} (hx : (List.length (words (val xs))) < 4294700000) (hy : (List.length (words (val ys))) < 4294700000) : Ctr Tryz.prog 31 [Flat [isB m, isWords xs], Flat [isB n, isWords ys]] (isZ (zv m xs - zv n ys)) := by
 refine Ctr.intro Tryz.func31 rfl (by kernel_rfl) Tryz.ntmps31 rfl fun w0 F0 => .cv (Cv.wk (.l [0, 1] rfl)) (.fact (Has.okZ (Has.t (t := 0) rfl)) fun okz0 => .fact (Has.okZ (Has.t (t := 1) rfl)) fun okz1 => .seq fun _ k1 => .region (.box (.t rfl) rfl fun b1 => .box (.t rfl) rfl fun b2 => .alloc [isB false, SlM isU []] zero36 (fun _ _ => ⟨rfl, nilM _ _, trivial⟩) rfl fun b3 => nl (.thn (k1 _ _ (.seq fun _ k2 => .dr (.s [] rfl rfl rfl (.o rfl (.load (.t rfl) (i := 2) rfl ty36 rfl (Ss' := [_, _]) rfl)) (.s [] rfl rfl rfl (.o rfl (.load (.t rfl) (i := 1) rfl ty36 rfl (Ss' := [_, _]) rfl)) (.s [6] rfl rfl rfl (.o rfl (.call (zint_Neg (by omega)) (.cons (.t rfl) .nil))) (.fin (n := 3) mixed (by kernel_rfl) (by kernel_rfl) (by kernel_rfl) (.cv (Cv.wk (.l [4, 5, 7] rfl)) (st (.call (zint_Add (by omega) (by simp only [val_words]; rw [Int.natAbs_neg, zv_abs]; omega)) (.cons (.t rfl) (.cons (.t rfl) .nil))) rfl ?_)))))))))))
 refine .store (.t rfl) (.t rfl) (i := 0) rfl ty36 rfl rfl (Ss' := [_, _]) rfl (M' := [(some _, cellM [_, _]), _, _]) rfl (nl (.thn (k2 _ _ (.ret (rt1 (.inl rfl) Tryz.results31 rfl (.cell rfl (i := 0) rfl ty36 rfl ?_ .nil))))))
 ·exact isZ_eq (by rw [zv_nf]; omega)
theorem zint_Mul {m n : Bool} {xs ys : List Nat} (hx : (List.length (words (val xs))) ≤ 1000000000) (hy : (List.length (words (val ys))) ≤ 1000000000) : Ctr Tryz.prog 52 [Flat [isB m, isWords xs], Flat [isB n, isWords ys]] (isZ (zv m xs * zv n ys)) := by
 refine Ctr.intro Tryz.func52 rfl (by kernel_rfl) Tryz.ntmps52 rfl fun w0 F0 => .cv (Cv.wk (.l [0, 1] rfl)) (.fact (Has.okZ (Has.t (t := 0) rfl)) fun okz0 => .fact (Has.okZ (Has.t (t := 1) rfl)) fun okz1 => ?_)
 have hm := nw_mul_le (val xs) (val ys)
 refine .seq fun _ k1 => .region (.box (.t rfl) rfl fun b1 => .box (.t rfl) rfl fun b2 => .alloc [isB false, SlM isU []] zero36 (fun _ _ => ⟨rfl, nilM _ _, trivial⟩) rfl fun b3 => nl (.thn (k1 _ _ (.seq fun _ k2 => .dr (.s [] rfl rfl rfl (.o rfl (.fieldAddr (.t rfl) fld36_1 ty34)) (.s [5] rfl rfl rfl (.o rfl (.load1 (.t rfl) (i := 2) rfl ty34 rfl)) (.s [] rfl rfl rfl (.o rfl (.fieldAddr (.t rfl) fld36_1 ty34)) (.s [7] rfl rfl rfl (.o rfl (.load1 (.t rfl) (i := 1) rfl ty34 rfl)) (.s [6, 8] rfl rfl rfl (.o rfl (.call (mul_Mul hx hy) (.cons (.t rfl) (.cons (.t rfl) .nil)))) (.s [] rfl rfl rfl (.o rfl (.fieldAddr (.t rfl) fld36_0 ty4)) (.s [10] rfl rfl rfl (.o rfl (.load1 (.t rfl) (i := 2) rfl ty4 rfl)) (.s [] rfl rfl rfl (.o rfl (.fieldAddr (.t rfl) fld36_0 ty4)) (.s [12] rfl rfl rfl (.o rfl (.load1 (.t rfl) (i := 1) rfl ty4 rfl)) (.s [11, 13] rfl rfl rfl (.o rfl (.neB (du := un4) rfl (.t rfl) (.t rfl))) (.fin (n := 10) mixed (by kernel_rfl) (by kernel_rfl) (by kernel_rfl) (.cv (Cv.wk (.l [4, 9, 14] rfl)) (st (.call (zint_From (by simp only [val_words, zv_nf]; omega)) (.cons (.t rfl) (.cons (.t rfl) .nil))) rfl ?_)))))))))))))))))
 refine .store (.t rfl) (.t rfl) (i := 0) rfl ty36 rfl rfl (Ss' := [_, _]) rfl (M' := [(some _, cellM [_, _]), _, _]) rfl (nl (.thn (k2 _ _ (.ret (rt1 (.inl rfl) Tryz.results52 rfl (.cell rfl (i := 0) rfl ty36 rfl ?_ .nil))))))
 ·exact isZ_eq (zv_mul m n xs ys).symm
theorem zint_Quo {m n : Bool} {xs ys : List Nat} (hx : (List.length (words (val xs))) < 4294700000) (hy : (List.length (words (val ys))) < 4294700000) : Ctr Tryz.prog 91 [Flat [isB m, isWords xs], Flat [isB n, isWords ys]] (isTup [isZ ((zv m xs).tdiv (zv n ys)), isZ (if zv n ys = 0 then 0 else (zv m xs).tmod (zv n ys)), isB (decide (zv n ys ≠ 0))]) := by
 refine Ctr.intro Tryz.func91 rfl (by kernel_rfl) Tryz.ntmps91 rfl fun w0 F0 => .cv (Cv.wk (.l [0, 1] rfl)) (.fact (Has.okZ (Has.t (t := 0) rfl)) fun okz0 => .fact (Has.okZ (Has.t (t := 1) rfl)) fun okz1 => ?_)
 have ha := nw_mono (Nat.div_le_self (val xs) (val ys))
 have hb : (List.length (words (if val ys = 0 then 0 else val xs % val ys))) ≤ (List.length (words (val xs))) := nw_mono (by split; exact Nat.zero_le _; exact Nat.mod_le _ _)
 refine .seq fun _ k1 => .region (.box (.t rfl) rfl fun b1 => .box (.t rfl) rfl fun b2 => .alloc [isB false, SlM isU []] zero36 (fun _ _ => ⟨rfl, nilM _ _, trivial⟩) rfl fun b3 => .alloc [isB false, SlM isU []] zero36 (fun _ _ => ⟨rfl, nilM _ _, trivial⟩) rfl fun b4 => st (.as (.cB false)) rfl (nl (.thn (k1 _ _ (.seq fun _ k2 => .region (st (.fieldAddr (.t rfl) fld36_1 ty34) rfl (st (.load1 (.t rfl) (i := 3) rfl ty34 rfl) rfl (st (.fieldAddr (.t rfl) fld36_1 ty34) rfl (st (.load1 (.t rfl) (i := 2) rfl ty34 rfl) rfl (st (.call (div_DivMod (by omega) (by omega)) (.cons (.t rfl) (.cons (.t rfl) .nil))) rfl (st (.mv (.t rfl)) rfl (st (.ext (.t rfl) rfl) rfl (st (.ext (.t rfl) rfl) rfl (st (.ext (.t rfl) rfl) rfl (st (.as (.t rfl)) rfl (st (.as (.t rfl)) rfl (st (.as (.t rfl)) rfl (nl (.thn (k2 _ _ (.cv (Cv.wk (.l [2, 3, 4, 5, 6, 7, 8, 9] rfl)) (.seq fun _ k3 => .drh [false, false, true, true] (Ms := [_, _]) rfl (.s [] rfl rfl rfl (.o rfl (.mv (.t rfl))) (.s [] rfl rfl rfl (.o rfl (.fieldAddr (.t rfl) fld36_0 ty4)) (.s [20] rfl rfl rfl (.o rfl (.load1 (.t rfl) (i := 1) rfl ty4 rfl)) (.s [] rfl rfl rfl (.o rfl (.fieldAddr (.t rfl) fld36_0 ty4)) (.s [22] rfl rfl rfl (.o rfl (.load1 (.t rfl) (i := 0) rfl ty4 rfl)) (.s [21, 23] rfl rfl rfl (.o rfl (.neB (du := un4) rfl (.t rfl) (.t rfl))) (.s [19, 24] rfl rfl rfl (.o rfl (.call (zint_From (by simp only [val_words, zv_nf]; omega)) (.cons (.t rfl) (.cons (.t rfl) .nil)))) ?_)))))))))))))))))))))))))))))
 refine .s [] rfl rfl rfl (.o rfl (.mv (.t rfl))) (.s [] rfl rfl rfl (.o rfl (.fieldAddr (.t rfl) fld36_0 ty4)) (.s [27] rfl rfl rfl (.o rfl (.load1 (.t rfl) (i := 1) rfl ty4 rfl)) (.s [26, 28] rfl rfl rfl (.o rfl (.call (zint_From (by simp only [val_words, zv_nf]; omega)) (.cons (.t rfl) (.cons (.t rfl) .nil)))) ?_)))
 refine .s [] rfl rfl rfl (.o rfl (.mv (.t rfl))) (.mid2 (.cons _ (.cons _ (.cons_cons _ (.cons_cons _ .slnil)))) (.st0 [25] rfl rfl (by kernel_rfl) (by kernel_rfl) (StS.store (.t rfl) (.t rfl) (i := 1) rfl ty36 rfl rfl (Ss' := [_, _]) rfl (M' := [_, (some _, cellM [_, _]), _, _]) rfl) (.cons _ (.cons _ (.cons_cons _ (.cons_cons _ .slnil)))) (.st0 [29] rfl rfl (by kernel_rfl) (by kernel_rfl) (StS.store (.t rfl) (.t rfl) (i := 0) rfl ty36 rfl rfl (Ss' := [_, _]) rfl (M' := [(some _, cellM [_, _]), _, _, _]) rfl) (.cons _ (.cons _ (.cons_cons _ (.cons_cons _ .slnil)))) (.fin0 (n := 14) mixed rfl (by kernel_rfl) (by kernel_rfl) (by kernel_rfl) (.cv (Cv.wk (.l [4, 5, 6, 30] rfl)) (st (.as (.t rfl)) rfl (nl (.thn (k3 _ _ (.ret (rtN (.inl rfl) Tryz.results91 rfl rfl (.cell rfl (i := 1) rfl ty36 rfl ?_ (.cell rfl (i := 0) rfl ty36 rfl ?_ (.tmp (Has.t' rfl ?_) .nil))))))))))))))
 ·exact isZ_eq (zv_tdiv m n xs ys).symm
 ·exact isZ_eq (quo_rest m n xs ys)
 ·exact isB_eq (ne_zv n ys)
theorem zint_Exact {m n : Bool} {xs ys : List Nat} (hx : (List.length (words (val xs))) < 4294700000) (hy : (List.length (words (val ys))) < 4294700000) : Ctr Tryz.prog 53 [Flat [isB m, isWords xs], Flat [isB n, isWords ys]] (isTup [isZ (if zv n ys ≠ 0 ∧ (zv m xs).tmod (zv n ys) = 0 then (zv m xs).tdiv (zv n ys) else 0), isB (decide (zv n ys ≠ 0 ∧ (zv m xs).tmod (zv n ys) = 0))]) := by
 refine Ctr.intro Tryz.func53 rfl (by kernel_rfl) Tryz.ntmps53 rfl fun w0 F0 => .cv (Cv.wk (.l [0, 1] rfl)) (.fact (Has.okZ (Has.t (t := 0) rfl)) fun okz0 => .fact (Has.okZ (Has.t (t := 1) rfl)) fun okz1 => ?_)
 have ha := nz_tdiv (zv m xs) (zv n ys)
 have hb := nz_if (zv m xs) (zv n ys)
 have hxx := zv_nw m xs
 have hyy := zv_nw n ys
 have h1 := nz_one
 refine .seq fun _ k1 => .region (.box (.t rfl) rfl fun b1 => .box (.t rfl) rfl fun b2 => .alloc [isB false, SlM isU []] zero36 (fun _ _ => ⟨rfl, nilM _ _, trivial⟩) rfl fun b3 => st (.as (.cB false)) rfl (nl (.thn (k1 _ _ (.seq fun _ k2 => .region (st (.load (.t rfl) (i := 2) rfl ty36 rfl (Ss' := [_, _]) rfl) rfl (st (.load (.t rfl) (i := 1) rfl ty36 rfl (Ss' := [_, _]) rfl) rfl (st (.call (zint_Quo (by with_reducible assumption) (by with_reducible assumption)) (.cons (.t rfl) (.cons (.t rfl) .nil))) rfl (st (.mv (.t rfl)) rfl (st (.ext (.t rfl) rfl) rfl (st (.ext (.t rfl) rfl) rfl (st (.ext (.t rfl) rfl) rfl (.alloc [isB false, SlM isU []] zero36 (fun _ _ => ⟨rfl, nilM _ _, trivial⟩) rfl fun b4 => .alloc [isB false, SlM isU []] zero36 (fun _ _ => ⟨rfl, nilM _ _, trivial⟩) rfl fun b5 => .store (.t rfl) (.t rfl) (i := 1) rfl ty36 rfl rfl (Ss' := [_, _]) rfl (M' := [_, (some _, cellM [_, _]), _, _, _]) rfl (.store (.t rfl) (.t rfl) (i := 0) rfl ty36 rfl rfl (Ss' := [_, _]) rfl (M' := [(some _, cellM [_, _]), _, _, _, _]) rfl (st (.as (.t rfl)) rfl (nl (.thn (k2 _ _ (.cv (Cv.wk (.l [4, 5, 6, 7, 8] rfl)) (.seq fun _ k3 => .seq fun _ k4 => .region (st (.mv (.t rfl)) rfl (st (.not (.t rfl)) rfl (st (.mv (.t rfl)) rfl (stF rfl rfl (fun hg => .load (.t rfl) (i := 0) rfl ty36 rfl (Ss' := [_, _]) rfl) rfl ?_))))))))))))))))))))))))
 refine stF rfl rfl (fun hg => have hg' := BP.t hg; OK1.eq (.call (zint_Sign (by simp only [val_words, zv_nf]; omega)) (.cons (Has.g rfl hg) .nil)) (by simp only [val_words, zv_nf]; rfl)) rfl ?_
 refine stF rfl rfl (fun hg => .neI (Has.g rfl hg) (.cI 0 rfl)) rfl (st (.pickOr (.t rfl) (fun h => Has.g rfl (ng h))) rfl (nl (.thn (k4 _ _ (.cv (Cv.wk (.l [4, 5, 6, 22] rfl)) (.cond (.t rfl) (fun hc1 => ?_) (fun hc1 => ?_)))))))
 ·have hc1 := BP.t hc1
  have HE := ex_no hc1
  refine .seq fun _ k5 => .region (st (.eq (.build [isB false, SlM isU []] pl36 zero36 (fun _ _ => ⟨rfl, nilM _ _, trivial⟩) .nil (Z'' := [_, _]) rfl) (isZ0)) rfl (.store (.t rfl) (.t rfl) (i := 2) rfl ty36 rfl rfl (Ss' := [_, _]) rfl (M' := [_, _, (some _, cellM [_, _]), _, _]) rfl (st (.as (.cB false)) rfl (nl (.thn (k5 _ _ (.ret (.thr (rtN (.inl rfl) Tryz.results53 rfl rfl (.cell rfl (i := 2) rfl ty36 rfl ?_ (.tmp (Has.t' rfl ?_) .nil)))))))))))
  ·exact isZ_eq (if_neg HE).symm
  ·exact isB_eq (decide_eq_false HE).symm
 ·have hc1 := BP.f hc1
  have HE := ex_yes hc1
  refine .skip (.thn (k3 _ _ (.seq fun _ k6 => .region (st (.load (.t rfl) (i := 1) rfl ty36 rfl (Ss' := [_, _]) rfl) rfl (.store (.t rfl) (.t rfl) (i := 2) rfl ty36 rfl rfl (Ss' := [_, _]) rfl (M' := [_, _, (some _, cellM [_, _]), _, _]) rfl (st (.as (.cB true)) rfl (nl (.thn (k6 _ _ (.ret (rtN (.inl rfl) Tryz.results53 rfl rfl (.cell rfl (i := 2) rfl ty36 rfl ?_ (.tmp (Has.t' rfl ?_) .nil)))))))))))))
  ·exact isZ_eq (if_pos HE).symm
  ·exact isB_eq (decide_eq_true HE).symm
theorem zint_Gcd {m n : Bool} {xs ys : List Nat} (hx : (List.length (words (val xs))) < 4294700000) (hy : (List.length (words (val ys))) < 4294700000) : Ctr Tryz.prog 101 [Flat [isB m, isWords xs], Flat [isB n, isWords ys]] (isZ ((Nat.gcd (val xs) (val ys) : Nat) : Int)) := by
 refine Ctr.intro Tryz.func101 rfl (by kernel_rfl) Tryz.ntmps101 rfl fun w0 F0 => .cv (Cv.wk (.l [0, 1] rfl)) (.fact (Has.okZ (Has.t (t := 0) rfl)) fun okz0 => .fact (Has.okZ (Has.t (t := 1) rfl)) fun okz1 => ?_)
 have hg := Nat.le_trans (nw_mono (gcd_le_max (val xs) (val ys))) (nw_max _ _)
 refine .seq fun _ k1 => .region (.box (.t rfl) rfl fun b1 => .box (.t rfl) rfl fun b2 => .alloc [isB false, SlM isU []] zero36 (fun _ _ => ⟨rfl, nilM _ _, trivial⟩) rfl fun b3 => nl (.thn (k1 _ _ (.seq fun _ k2 => .region (st (.fieldAddr (.t rfl) fld36_1 ty34) rfl (st (.load1 (.t rfl) (i := 2) rfl ty34 rfl) rfl (st (.fieldAddr (.t rfl) fld36_1 ty34) rfl (st (.load1 (.t rfl) (i := 1) rfl ty34 rfl) rfl (st (.call (div_Gcd (by omega) (by omega)) (.cons (.t rfl) (.cons (.t rfl) .nil))) rfl (st (.call (zint_From (by simp only [val_words, zv_nf]; omega)) (.cons (.t rfl) (.cons (.cB false) .nil))) rfl ?_))))))))))
 refine .store (.t rfl) (.t rfl) (i := 0) rfl ty36 rfl rfl (Ss' := [_, _]) rfl (M' := [(some _, cellM [_, _]), _, _]) rfl (nl (.thn (k2 _ _ (.cv (Cv.wk (.l [4] rfl)) (.ret (rt1 (.inl rfl) Tryz.results101 rfl (.cell rfl (i := 0) rfl ty36 rfl ?_ .nil)))))))
 ·exact isZ_eq (by rw [from_word, if_neg (by decide)])
end Go.Proofs.YtcfobalbkhgdmaaGreat
namespace Go.Pz
def cf (l : List Int) (i : Nat) : Int := l.getD i 0
theorem cf_nil (i : Nat) : cf [] i = 0 := rfl
theorem cf_zero (a : Int) (l : List Int) : cf (a :: l) 0 = a := rfl
theorem cf_succ (a : Int) (l : List Int) (i : Nat) : cf (a :: l) (i + 1) = cf l i := rfl
theorem cf_high {l : List Int} {i : Nat} (h : l.length ≤ i) : cf l i = 0 := by
 unfold cf; rw [List.getD, List.getElem?_eq_none h]; rfl
def pnorm : List Int → List Int
 | [] => []
 | a :: l => if pnorm l = [] ∧ a = 0 then [] else a :: pnorm l
theorem cf_norm : ∀ (l : List Int) (i : Nat), cf (pnorm l) i = cf l i
  | [], i => rfl
  | a :: l, i => by
    unfold pnorm
    split
    · rename_i h
      cases i with
      | zero => rw [cf_zero, h.2]; rfl
      | succ i => rw [cf_succ, ← cf_norm l i, h.1]; rfl
    · cases i with
      | zero => rfl
      | succ i => rw [cf_succ, cf_succ, cf_norm l i]
theorem norm_nil {l : List Int} : pnorm l = [] ↔ ∀ i, cf l i = 0 := by
  constructor
  · intro h i; rw [← cf_norm, h]; rfl
  · induction l with
    | nil => intro _; rfl
    | cons a l ih =>
      intro h
      unfold pnorm
      rw [if_pos ⟨ih fun i => h (i + 1), h 0⟩]
theorem norm_ext : ∀ {a b : List Int}, (∀ i, cf a i = cf b i) → pnorm a = pnorm b
  | [], b, h => (norm_nil.2 fun i => (h i).symm).symm
  | x :: a, [], h => norm_nil.2 h
  | x :: a, y :: b, h => by
    have h1 : x = y := h 0
    have h2 := norm_ext fun i => h (i + 1)
    unfold pnorm
    rw [h1, h2]
theorem norm_norm (l : List Int) : pnorm (pnorm l) = pnorm l := norm_ext (cf_norm l)
theorem norm_len (l : List Int) : (pnorm l).length ≤ l.length := by
  induction l with
  | nil => exact Nat.le_refl _
  | cons a l ih =>
    unfold pnorm
    split
    · simp
    · simp; exact ih
theorem norm_last : ∀ {l : List Int}, pnorm l ≠ [] → cf l ((pnorm l).length - 1) ≠ 0
  | [], h => absurd rfl h
  | a :: l, h => by
    unfold pnorm at h ⊢
    by_cases hc : pnorm l = [] ∧ a = 0
    · rw [if_pos hc] at h; exact absurd rfl h
    · rw [if_neg hc]
      by_cases hl : pnorm l = []
      · rw [hl]; exact fun e => hc ⟨hl, e⟩
      · have hp : 0 < (pnorm l).length := List.length_pos_iff.2 hl
        rw [List.length_cons, Nat.add_sub_cancel, show (pnorm l).length = ((pnorm l).length - 1) + 1 by omega, cf_succ]
        exact norm_last hl
theorem take_norm : ∀ {l : List Int} {n : Nat}, (n = 0 ∨ cf l (n - 1) ≠ 0) → (∀ i, n ≤ i → cf l i = 0) → l.take n = pnorm l
  | l, 0, _, h => by rw [norm_nil.2 fun i => h i (Nat.zero_le _)]; rfl
  | [], n + 1, h0, _ => by rcases h0 with h0 | h0 <;> first | omega | exact absurd rfl h0
  | a :: l, n + 1, h0, h => by
    have h1 : cf (a :: l) n ≠ 0 := h0.resolve_left (by omega)
    have h2 : l.take n = pnorm l := take_norm (by
      rcases Nat.eq_zero_or_pos n with e | e
      · exact .inl e
      · right; rw [show n = (n - 1) + 1 by omega, cf_succ] at h1; exact h1) fun i hi => h (i + 1) (by omega)
    have h3 : pnorm (a :: l) = if pnorm l = [] ∧ a = 0 then [] else a :: pnorm l := rfl
    rw [List.take_succ_cons, h2, h3, if_neg]
    rintro ⟨g1, g2⟩
    rcases Nat.eq_zero_or_pos n with e | e
    · subst e; exact h1 g2
    · rw [show n = (n - 1) + 1 by omega, cf_succ, norm_nil.1 g1] at h1
      exact h1 rfl
def mul (f g : Nat → Int) : Nat → Int
 | 0 => f 0 * g 0
 | n + 1 => f 0 * g (n + 1) + mul (fun i => f (i + 1)) g n
theorem mul_congr {f f' g g' : Nat → Int} (h : ∀ i, f i = f' i) (k : ∀ i, g i = g' i) : ∀ n, mul f g n = mul f' g' n := by
 obtain rfl : f = f' := funext h
 obtain rfl : g = g' := funext k
 intro n; rfl
theorem mul_back : ∀ (n : Nat) (f g : Nat → Int), mul f g (n + 1) = mul f (fun i => g (i + 1)) n + f (n + 1) * g 0
  | 0, f, g => rfl
  | n + 1, f, g => by
    have h := mul_back n (fun i => f (i + 1)) g
    show f 0 * g (n + 2) + mul (fun i => f (i + 1)) g (n + 1) = (f 0 * g (n + 2) + mul (fun i => f (i + 1)) (fun i => g (i + 1)) n) + f (n + 2) * g 0
    rw [h]
    show _ = _ + f (n + 1 + 1) * g 0
    exact (Int.add_assoc _ _ _).symm
theorem mul_comm : ∀ (n : Nat) (f g : Nat → Int), mul f g n = mul g f n
  | 0, f, g => Int.mul_comm _ _
  | n + 1, f, g => by
    rw [mul_back, mul_comm n f, Int.mul_comm (f (n + 1))]
    show _ = g 0 * f (n + 1) + mul (fun i => g (i + 1)) f n
    omega
theorem add_mul (f f' g : Nat → Int)  (n : Nat) : mul (fun i => f i + f' i) g n = mul f g n + mul f' g n := by
    induction n generalizing f f' with
    | zero => exact Int.add_mul _ _ _
    | succ n ih =>
      have h := ih (fun i => f (i + 1)) (fun i => f' (i + 1))
      have e := Int.add_mul (f 0) (f' 0) (g (n + 1))
      show (f 0 + f' 0) * g (n + 1) + mul (fun i => f (i + 1) + f' (i + 1)) g n = _
      rw [h, e]
      show _ = (f 0 * g (n + 1) + mul (fun i => f (i + 1)) g n) + (f' 0 * g (n + 1) + mul (fun i => f' (i + 1)) g n)
      omega
theorem smul_mul (c : Int) (f g : Nat → Int)  (n : Nat) : mul (fun i => c * f i) g n = c * mul f g n := by
    induction n generalizing f with
    | zero => exact Int.mul_assoc _ _ _
    | succ n ih =>
      have h := ih (fun i => f (i + 1))
      show c * f 0 * g (n + 1) + mul (fun i => c * f (i + 1)) g n = c * (f 0 * g (n + 1) + mul (fun i => f (i + 1)) g n)
      rw [h, Int.mul_add, Int.mul_assoc]
theorem mul_add (f g g' : Nat → Int) (n : Nat) : mul f (fun i => g i + g' i) n = mul f g n + mul f g' n := by
 rw [mul_comm, add_mul, mul_comm n g, mul_comm n g']
theorem mul_smul (c : Int) (f g : Nat → Int) (n : Nat) : mul f (fun i => c * g i) n = c * mul f g n := by
 rw [mul_comm, smul_mul, mul_comm n g]
theorem mul_assoc (f g h : Nat → Int)  (n : Nat) : mul (mul f g) h n = mul f (mul g h) n := by
    induction n generalizing f g with
    | zero => exact Int.mul_assoc _ _ _
    | succ n ih =>
      show f 0 * g 0 * h (n + 1) + mul (fun i => f 0 * g (i + 1) + mul (fun i => f (i + 1)) g i) h n = f 0 * (g 0 * h (n + 1) + mul (fun i => g (i + 1)) h n) + mul (fun i => f (i + 1)) (mul g h) n
      rw [add_mul, smul_mul, ih, Int.mul_add, Int.mul_assoc]
      omega
theorem zero_mul (g : Nat → Int) (n : Nat) : mul (fun _ => 0) g n = 0 := by
 have h := smul_mul 0 (fun _ => 0) g n
 exact h.trans (Int.zero_mul _)
theorem mul_high : ∀ {n A B : Nat} {f g : Nat → Int}, (∀ i, A ≤ i → f i = 0) → (∀ i, B ≤ i → g i = 0) → A + B ≤ n + 1 → mul f g n = 0
  | n, 0, B, f, g, hf, hg, h => by rw [mul_congr (f' := fun _ => 0) (fun i => hf i (Nat.zero_le _)) (fun _ => rfl), zero_mul]
  | 0, A + 1, B, f, g, hf, hg, h => by
    show f 0 * g 0 = 0
    rw [hg 0 (by omega), Int.mul_zero]
  | n + 1, A + 1, B, f, g, hf, hg, h => by
    show f 0 * g (n + 1) + mul (fun i => f (i + 1)) g n = 0
    rw [mul_high (A := A) (B := B) (fun i hi => hf (i + 1) (by omega)) hg (by omega), hg (n + 1) (by omega), Int.mul_zero]
    rfl
theorem mul_top : ∀ {A B : Nat} {f g : Nat → Int}, (∀ i, A < i → f i = 0) → (∀ i, B < i → g i = 0) → mul f g (A + B) = f A * g B
  | 0, 0, f, g, _, _ => rfl
  | 0, B + 1, f, g, hf, hg => by
    rw [Nat.zero_add]
    show f 0 * g (B + 1) + mul (fun i => f (i + 1)) g B = _
    rw [mul_congr (f' := fun _ => 0) (fun i => hf (i + 1) (by omega)) (fun _ => rfl), zero_mul]; omega
  | A + 1, B, f, g, hf, hg => by
    rw [show A + 1 + B = (A + B) + 1 by omega]
    show f 0 * g (A + B + 1) + mul (fun i => f (i + 1)) g (A + B) = _
    rw [mul_top (fun i hi => hf (i + 1) (by omega)) hg, hg (A + B + 1) (by omega)]
    omega
end Go.Pz
namespace Go.En
open Go.RowKit Go.Nt Go.Pz
abbrev nz (z : Int) : Bool × List Nat := (decide (z < 0), words z.natAbs)
def vals (xs : List (Bool × List Nat)) : List Int := xs.map fun p => zv p.1 p.2
abbrev isP (l : List Int) : VP := SlK 2 zc (l.map nz)
theorem isP_eq {l l' : List Int} (h : l = l') : isP l = isP l' := h ▸ rfl
theorem nz_zero : nz 0 = (false, []) := by
 show (decide ((0 : Int) < 0), words (Int.natAbs 0)) = (false, [])
 rw [Int.natAbs_zero, words_zero]; rfl
theorem vals_nz (l : List Int) : vals (l.map nz) = l := by
 unfold vals
 rw [List.map_map]
 conv => rhs; rw [← List.map_id l]
 exact List.map_congr_left fun z _ => zv_nf z
theorem vals_len (xs : List (Bool × List Nat)) : (vals xs).length = xs.length := by unfold vals; rw [List.length_map]
theorem zv_dflt : zv false [] = 0 := by rw [zv_false]; rfl
theorem cf_vals (xs : List (Bool × List Nat)) (i : Nat) : cf (vals xs) i = zv (xs.getD i (false, [])).1 (xs.getD i (false, [])).2 := by
 unfold cf vals
 rw [List.getD, List.getD, List.getElem?_map]
 cases xs[i]? with
 | none => exact zv_dflt.symm
 | some p => rfl
def fill {β : Type} (l : List β) (i : Nat) (z : β) : List β := l.take i ++ List.replicate (l.length - i) z
theorem fill_zero {β : Type} (l : List β) (z : β) : fill l 0 z = List.replicate l.length z := by simp [fill]
theorem fill_all {β : Type} (l : List β) (z : β) : fill l l.length z = l := by simp [fill]
theorem fill_len {β : Type} (l : List β) (i : Nat) (z : β) (h : i ≤ l.length) : (fill l i z).length = l.length := by
 unfold fill; rw [List.length_append, List.length_take, List.length_replicate]; omega
theorem fill_set {β : Type} (l : List β) (i : Nat) (z x : β) (h : l[i]? = some x) : (fill l i z).set i x = fill l (i + 1) z := by
 have hi : i < l.length := by
  rcases Nat.lt_or_ge i l.length with h1 | h1
  ·exact h1
  ·rw [List.getElem?_eq_none h1] at h; cases h
 rw [List.getElem?_eq_getElem hi] at h
 unfold fill
 rw [List.set_append_right _ _ (by rw [List.length_take]; omega), List.length_take, Nat.min_eq_left (by omega), Nat.sub_self, show l.length - i = (l.length - (i + 1)) + 1 by omega, List.replicate_succ, List.set_cons_zero,
  List.take_succ_eq_append_getElem hi, List.append_assoc, Option.some.inj h]; rfl
section
variable {E : Env} {P : Program} {Γ : Ctx} {M : Mem} {x : Operand}
end
end Go.En
namespace Go.Pz
theorem cf_tab (n : Nat) (f : Nat → Int) (i : Nat) : cf ((List.range n).map f) i = if i < n then f i else 0 := by
 unfold cf
 rw [List.getD, List.getElem?_map]
 by_cases h : i < n
 ·rw [List.getElem?_range h, if_pos h]; rfl
 ·rw [List.getElem?_eq_none (by simpa using h), if_neg h]; rfl
def both (op : Int → Int → Int) (a b : List Int) : List Int := pnorm ((List.range (max a.length b.length)).map fun i => op (cf a i) (cf b i))
theorem cf_both {op : Int → Int → Int} (h : op 0 0 = 0) (a b : List Int) (i : Nat) : cf (both op a b) i = op (cf a i) (cf b i) := by
 unfold both
 rw [cf_norm, cf_tab]
 split
 ·rfl
 ·rw [cf_high (l := a) (by omega), cf_high (l := b) (by omega), h]
def padd (a b : List Int) : List Int := both (fun x y => x + y) a b
def psub (a b : List Int) : List Int := both (fun x y => x - y) a b
theorem cf_add (a b : List Int) (i : Nat) : cf (padd a b) i = cf a i + cf b i := cf_both (by rfl) a b i
theorem cf_sub (a b : List Int) (i : Nat) : cf (psub a b) i = cf a i - cf b i := cf_both (by rfl) a b i
def pscale (a : List Int) (c : Int) : List Int := pnorm (a.map fun x => x * c)
theorem cf_map (a : List Int) (c : Int) (i : Nat) : cf (a.map fun x => x * c) i = cf a i * c := by
 unfold cf
 rw [List.getD, List.getD, List.getElem?_map]
 cases a[i]? with
 | none => exact (Int.zero_mul c).symm
 | some x => rfl
theorem cf_scale (a : List Int) (c : Int) (i : Nat) : cf (pscale a c) i = cf a i * c := by unfold pscale; rw [cf_norm, cf_map]
def pshift (a : List Int) (n : Nat) : List Int := List.replicate n 0 ++ a
theorem cf_shift (a : List Int) (n i : Nat) : cf (pshift a n) i = if i < n then 0 else cf a (i - n) := by
 unfold cf pshift
 rw [List.getD]
 by_cases h : i < n
 ·rw [List.getElem?_append_left (by simpa using h), if_pos h, List.getElem?_replicate, if_pos h]; rfl
 ·rw [List.getElem?_append_right (by simpa using Nat.le_of_not_lt h), if_neg h, List.length_replicate]; rfl
def rows (f g : Nat → Int) : Nat → Nat → Int
 | 0, _ => 0
 | i + 1, n => rows f g i n + if i ≤ n then f i * g (n - i) else 0
theorem rows_front (f g : Nat → Int) : ∀ i n, rows f g (i + 1) (n + 1) = f 0 * g (n + 1) + rows (fun j => f (j + 1)) g i n
  | 0, n => by
    show 0 + (if 0 ≤ n + 1 then f 0 * g (n + 1 - 0) else 0) = f 0 * g (n + 1) + 0
    rw [if_pos (Nat.zero_le _), Int.zero_add, Int.add_zero]; rfl
  | i + 1, n => by
    have h := rows_front f g i n
    show rows f g (i + 1) (n + 1) + (if i + 1 ≤ n + 1 then f (i + 1) * g (n + 1 - (i + 1)) else 0) = f 0 * g (n + 1) + (rows (fun j => f (j + 1)) g i n + if i ≤ n then f (i + 1) * g (n - i) else 0)
    rw [h, Int.add_assoc]
    congr 2
    by_cases hi : i ≤ n
    · rw [if_pos hi, if_pos (by omega), Nat.succ_sub_succ]
    · rw [if_neg hi, if_neg (by omega)]
theorem rows_zero (f g : Nat → Int) : ∀ i, rows f g (i + 1) 0 = f 0 * g 0
  | 0 => by show 0 + (if 0 ≤ 0 then f 0 * g (0 - 0) else 0) = _; rw [if_pos (Nat.le_refl _), Int.zero_add]
  | i + 1 => by
    show rows f g (i + 1) 0 + (if i + 1 ≤ 0 then _ else 0) = _
    rw [rows_zero f g i, if_neg (by omega), Int.add_zero]
theorem mul_rows : ∀ (n : Nat) (f g : Nat → Int), mul f g n = rows f g (n + 1) n
  | 0, f, g => (rows_zero f g 0).symm
  | n + 1, f, g => by
    rw [rows_front, ← mul_rows n]; rfl
theorem rows_more (f g : Nat → Int) {A n : Nat} (h : ∀ i, A ≤ i → i ≤ n → f i = 0) : ∀ d, rows f g (A + d) n = rows f g A n
  | 0 => rfl
  | d + 1 => by
    show rows f g (A + d) n + (if A + d ≤ n then f (A + d) * g (n - (A + d)) else 0) = _
    rw [rows_more f g h d]
    split
    · rename_i hd; rw [h _ (by omega) hd, Int.zero_mul, Int.add_zero]
    · rw [Int.add_zero]
theorem rows_all {f g : Nat → Int} {A : Nat} (h : ∀ i, A ≤ i → f i = 0) (n : Nat) : rows f g A n = mul f g n := by
 rw [mul_rows]
 rcases Nat.le_total A (n + 1) with h1 | h1
 ·have := rows_more f g (n := n) (fun i hi _ => h i hi) (n + 1 - A)
  rw [show A + (n + 1 - A) = n + 1 by omega] at this
  exact this.symm
 ·have := rows_more f g (A := n + 1) (n := n) (fun i hi hn => by omega) (A - (n + 1))
  rwa [show n + 1 + (A - (n + 1)) = A by omega] at this
def pmul (a b : List Int) : List Int := if pnorm a = [] ∨ pnorm b = [] then [] else pnorm ((List.range ((pnorm a).length + (pnorm b).length - 1)).map fun n => mul (cf a) (cf b) n)
theorem high_norm {l : List Int} {i : Nat} (h : (pnorm l).length ≤ i) : cf l i = 0 := by rw [← cf_norm]; exact cf_high h
theorem cf_pmul (a b : List Int) (n : Nat) : cf (pmul a b) n = mul (cf a) (cf b) n := by
 unfold pmul
 split
 ·rename_i h
  rcases h with h | h
  ·rw [mul_congr (f' := fun _ => 0) (norm_nil.1 h) (fun _ => rfl), zero_mul]; rfl
  ·rw [mul_comm, mul_congr (f' := fun _ => 0) (norm_nil.1 h) (fun _ => rfl), zero_mul]; rfl
 ·rename_i h
  rw [cf_norm, cf_tab]
  split
  ·rfl
  ·have h1 : 0 < (pnorm a).length := List.length_pos_iff.2 fun e => h (.inl e)
   exact (mul_high (A := (pnorm a).length) (B := (pnorm b).length) (fun i hi => high_norm hi) (fun i hi => high_norm hi) (by omega)).symm
def rowV (f g : Nat → Int) (i k n : Nat) : Int := rows f g i n + if i ≤ n ∧ n < i + k then f i * g (n - i) else 0
end Go.Pz
namespace Go.Pz
theorem mul_zero (f : Nat → Int) (n : Nat) : mul f (fun _ => 0) n = 0 := by rw [mul_comm, zero_mul]
theorem mul_shift : ∀ (n : Nat) (c : Int) (g : Nat → Int) (i : Nat), mul (cf (pshift [c] n)) g i = if i < n then 0 else c * g (i - n)
  | 0, c, g, i => by
    rw [if_neg (by omega)]
    cases i with
    | zero => rfl
    | succ i =>
      show c * g (i + 1) + mul (fun j => cf (pshift [c] 0) (j + 1)) g i = c * g (i + 1)
      rw [show mul (fun j => cf (pshift [c] 0) (j + 1)) g i = 0 from (mul_congr (f' := fun _ => 0) (fun j => rfl) (fun _ => rfl) i).trans (zero_mul g i), Int.add_zero]
  | n + 1, c, g, 0 => by
    rw [if_pos (by omega)]
    show cf (pshift [c] (n + 1)) 0 * g 0 = 0
    rw [cf_shift, if_pos (by omega), Int.zero_mul]
  | n + 1, c, g, i + 1 => by
    show cf (pshift [c] (n + 1)) 0 * g (i + 1) + mul (fun j => cf (pshift [c] (n + 1)) (j + 1)) g i = _
    rw [cf_shift, if_pos (by omega), Int.zero_mul, Int.zero_add, show mul (fun j => cf (pshift [c] (n + 1)) (j + 1)) g i = mul (cf (pshift [c] n)) g i from mul_congr (fun j => rfl) (fun _ => rfl) i, mul_shift n c g i, Nat.succ_sub_succ]
    by_cases h : i < n
    · rw [if_pos h, if_pos (by omega)]
    · rw [if_neg h, if_neg (by omega)]
def pseudoGo (lead : Int) (b : List Int) : Nat → List Int → List Int → List Int × List Int
 | 0, q, a => (q, a)
 | n + 1, q, a => pseudoGo lead b n (padd (pscale q lead) (pshift [cf a (n + b.length - 1)] n)) (psub (pscale a lead) (pshift (pscale b (cf a (n + b.length - 1))) n))
theorem pseudoGo_spec {lead : Int} {b : List Int} (hb : 0 < b.length) (hl : lead = cf b (b.length - 1)) (a0 : Nat → Int) : ∀ (n : Nat) (c : Int) (q a : List Int), (∀ i, mul (cf q) (cf b) i + cf a i = c * a0 i) → (∀ i, n + b.length - 1 ≤ i → cf a i = 0) →
    (∀ i, mul (cf (pseudoGo lead b n q a).1) (cf b) i + cf (pseudoGo lead b n q a).2 i = lead ^ n * c * a0 i) ∧ ∀ i, b.length - 1 ≤ i → cf (pseudoGo lead b n q a).2 i = 0
  | 0, c, q, a, h1, h2 => ⟨fun i => by rw [Int.pow_zero, Int.one_mul]; exact h1 i, fun i hi => h2 i (by omega)⟩
  | n + 1, c, q, a, h1, h2 => by
    obtain ⟨t, ht⟩ : ∃ t, t = cf a (n + b.length - 1) := ⟨_, rfl⟩
    have hs : ∀ i, cf (pshift (pscale b t) n) i = if i < n then 0 else t * cf b (i - n) := fun i => by
      rw [cf_shift]; split
      · rfl
      · rw [cf_scale, Int.mul_comm]
    have k := pseudoGo_spec hb hl a0 n (lead * c) (padd (pscale q lead) (pshift [t] n)) (psub (pscale a lead) (pshift (pscale b t) n)) (fun i => by
      rw [cf_sub, cf_scale, hs, mul_congr (f' := fun j => lead * cf q j + cf (pshift [t] n) j) (fun j => by rw [cf_add, cf_scale, Int.mul_comm]) (fun _ => rfl), add_mul, smul_mul, mul_shift]
      have := congrArg (fun z => lead * z) (h1 i)
      simp only [Int.mul_add] at this
      rw [Int.mul_comm (cf a i), Int.mul_assoc, ← this]
      omega) (fun i hi => by
      rw [cf_sub, cf_scale, hs, if_neg (by omega)]
      rcases Nat.lt_or_ge (n + b.length - 1) i with h | h
      · rw [h2 i (by omega), cf_high (l := b) (by omega), Int.zero_mul, Int.mul_zero]; rfl
      · obtain rfl : i = n + b.length - 1 := by omega
        rw [← ht, show n + b.length - 1 - n = b.length - 1 by omega, ← hl, Int.sub_self])
    have e : pseudoGo lead b (n + 1) q a = pseudoGo lead b n (padd (pscale q lead) (pshift [t] n)) (psub (pscale a lead) (pshift (pscale b t) n)) := by rw [ht]; rfl
    rw [e]
    refine ⟨fun i => ?_, k.2⟩
    rw [k.1 i, Int.pow_succ, ← Int.mul_assoc]
def pseudo (a b : List Int) : List Int × List Int := pseudoGo (cf (pnorm b) ((pnorm b).length - 1)) (pnorm b) ((pnorm a).length + 1 - (pnorm b).length) [] (pnorm a)
theorem pseudo_spec {a b : List Int} (hb : pnorm b ≠ []) : (∀ i, mul (cf (pseudo a b).1) (cf b) i + cf (pseudo a b).2 i = cf (pnorm b) ((pnorm b).length - 1) ^ ((pnorm a).length + 1 - (pnorm b).length) * cf a i) ∧
  ∀ i, (pnorm b).length - 1 ≤ i → cf (pseudo a b).2 i = 0 := by
 have hp : 0 < (pnorm b).length := List.length_pos_iff.2 hb
 have h := pseudoGo_spec (lead := cf (pnorm b) ((pnorm b).length - 1)) (b := pnorm b) hp rfl (cf a) ((pnorm a).length + 1 - (pnorm b).length) 1 [] (pnorm a) (fun i => by
  rw [show mul (cf []) (cf (pnorm b)) i = 0 from (mul_congr (f' := fun _ => 0) (fun j => rfl) (fun _ => rfl) i).trans (zero_mul _ i), Int.zero_add, Int.one_mul, cf_norm]) (fun i hi => cf_high (by omega))
 refine ⟨fun i => ?_, h.2⟩
 have := h.1 i
 rw [Int.mul_one, mul_congr (g' := cf b) (fun _ => rfl) (cf_norm b)] at this
 exact this
end Go.Pz
namespace Go.Pz
def exactGo (lead : Int) (b : List Int) : Nat → List Int → List Int → Option (List Int)
 | 0, q, a => if pnorm a = [] then some (pnorm q) else none
 | n + 1, q, a => if (cf a (n + b.length - 1)).tmod lead = 0 then exactGo lead b n ((cf a (n + b.length - 1)).tdiv lead :: q) (psub a (pshift (pscale b ((cf a (n + b.length - 1)).tdiv lead)) n)) else none
theorem cf_part (b : List Int) (t : Int) (n i : Nat) : cf (pshift (pscale b t) n) i = mul (cf (pshift [t] n)) (cf b) i := by
 rw [cf_shift, mul_shift]
 split
 ·rfl
 ·rw [cf_scale, Int.mul_comm]
theorem exactGo_complete {lead : Int} {b : List Int} (hb : 0 < b.length) (hl : lead = cf b (b.length - 1)) (h0 : lead ≠ 0) : ∀ (n : Nat) (q a : List Int) (f : Nat → Int), (∀ i, cf a i = mul f (cf b) i) → (∀ i, n ≤ i → f i = 0) →
    ∃ r, exactGo lead b n q a = some (pnorm r) ∧ ∀ i, cf r i = if i < n then f i else cf q (i - n)
  | 0, q, a, f, h1, h2 => by
    refine ⟨q, ?_, fun i => by rw [if_neg (by omega)]; rfl⟩
    unfold exactGo
    rw [if_pos (norm_nil.2 fun i => by rw [h1]; exact (mul_congr (fun j => h2 j (Nat.zero_le _)) (fun _ => rfl) i).trans (zero_mul _ i))]
  | n + 1, q, a, f, h1, h2 => by
    have htop : cf a (n + b.length - 1) = f n * lead := by
      rw [h1, show n + b.length - 1 = n + (b.length - 1) by omega, mul_top (fun i hi => h2 i (by omega)) (fun i hi => cf_high (by omega)), hl]
    have hd : (f n * lead).tdiv lead = f n := Int.mul_tdiv_cancel _ h0
    obtain ⟨r, hr1, hr2⟩ := exactGo_complete hb hl h0 n (f n :: q) (psub a (pshift (pscale b (f n)) n)) (fun i => if i < n then f i else 0) (fun i => by
      rw [cf_sub, cf_part, h1]
      have : mul f (cf b) i = mul (fun j => (if j < n then f j else 0) + cf (pshift [f n] n) j) (cf b) i := mul_congr (fun j => by
        rw [cf_shift]
        by_cases h : j < n
        · rw [if_pos h, if_pos h, Int.add_zero]
        · rw [if_neg h, if_neg h, Int.zero_add]
          rcases Nat.lt_or_ge n j with h3 | h3
          · rw [h2 j (by omega), show j - n = (j - n - 1) + 1 by omega]; rfl
          · obtain rfl : j = n := by omega
            rw [Nat.sub_self]; rfl) (fun _ => rfl) i
      rw [this, add_mul]; omega) (fun i hi => if_neg (by omega))
    refine ⟨r, ?_, fun i => ?_⟩
    · unfold exactGo
      rw [htop, if_pos (Int.mul_tmod_left _ _), hd]
      exact hr1
    · rw [hr2]
      by_cases h : i < n
      · rw [if_pos h, if_pos h, if_pos (by omega)]
      · rw [if_neg h]
        by_cases h3 : i < n + 1
        · rw [if_pos h3, show i - n = 0 by omega, cf_zero]; congr 1; omega
        · rw [if_neg h3, show i - n = (i - (n + 1)) + 1 by omega, cf_succ]
end Go.Pz
namespace Go.Pz
open Go.Nt Go.En
def Bd (l : List Int) (K : Nat) : Prop := ∀ i, (List.length (words (cf l i).natAbs)) ≤ K
theorem Bd.mono {l : List Int} {K L : Nat} (h : Bd l K) (hk : K ≤ L) : Bd l L := fun i => Nat.le_trans (h i) hk
theorem Bd.norm {l : List Int} {K : Nat} (h : Bd l K) : Bd (pnorm l) K := fun i => by rw [cf_norm]; exact h i
theorem Bd.nil (K : Nat) : Bd [] K := fun i => by rw [cf_nil, Int.natAbs_zero, words_zero]; exact Nat.zero_le _
theorem Bd.add {a b : List Int} {K : Nat} (h : Bd a K) (k : Bd b K) : Bd (padd a b) (K + 1) := fun i => by
 rw [cf_add]
 have := nz_add (cf a i) (cf b i)
 have := h i
 have := k i
 omega
theorem Bd.sub {a b : List Int} {K : Nat} (h : Bd a K) (k : Bd b K) : Bd (psub a b) (K + 1) := fun i => by
 rw [cf_sub]
 have := nz_sub (cf a i) (cf b i)
 have := h i
 have := k i
 omega
theorem Bd.scale {a : List Int} {c : Int} {K L : Nat} (h : Bd a K) (k : (List.length (words c.natAbs)) ≤ L) : Bd (pscale a c) (K + L) := fun i => by
 rw [cf_scale]
 have := nz_mul (cf a i) c
 have := h i
 omega
theorem Bd.shift {a : List Int} {K : Nat} (h : Bd a K) (n : Nat) : Bd (pshift a n) K := fun i => by
 rw [cf_shift]
 split
 ·rw [Int.natAbs_zero, words_zero]; exact Nat.zero_le _
 ·exact h _
theorem rows_nw {a b : List Int} {K L : Nat} (h : Bd a K) (k : Bd b L) : ∀ i n, (List.length (words (rows (cf a) (cf b) i n).natAbs)) ≤ K + L + i
  | 0, n => by
    show (List.length (words (Int.natAbs 0))) ≤ _
    rw [Int.natAbs_zero, words_zero]; exact Nat.zero_le _
  | i + 1, n => by
    show (List.length (words (rows (cf a) (cf b) i n + if i ≤ n then cf a i * cf b (n - i) else 0).natAbs)) ≤ _
    have h1 := rows_nw h k i n
    have h2 : (List.length (words (if i ≤ n then cf a i * cf b (n - i) else 0).natAbs)) ≤ K + L := by
      split
      · have := nz_mul (cf a i) (cf b (n - i))
        have := h i
        have := k (n - i)
        omega
      · rw [Int.natAbs_zero, words_zero]; exact Nat.zero_le _
    have := nz_add (rows (cf a) (cf b) i n) (if i ≤ n then cf a i * cf b (n - i) else 0)
    omega
theorem Bd.mul {a b : List Int} {K L : Nat} (h : Bd a K) (k : Bd b L) : Bd (pmul a b) (K + L + a.length) := fun n => by
 rw [cf_pmul, ← rows_all (A := a.length) (fun i hi => cf_high hi)]
 exact rows_nw h k _ _
theorem Bd.raw {xs : List (Bool × List Nat)} {K : Nat} (h : Bd (vals xs) K) (i : Nat) : (List.length (words (val (xs.getD i (false, [])).2))) ≤ K := by
 have := h i
 rwa [cf_vals, zv_nw] at this
end Go.Pz
namespace Go.En
open Go.Nt Go.Pz
def PR (K : Nat) : Type := { p : (Bool × List Nat) × (Bool × List Nat) // (List.length (words (val p.1.2))) ≤ K ∧ (List.length (words (val p.2.2))) ≤ K }
abbrev isOp (P : Program) (K : Nat) (op : Int → Int → Int) : VP := isFun (ι := PR K) P (fun p => [Flat (zc p.1.1), Flat (zc p.1.2)]) (fun p => isZ (op (zv p.1.1.1 p.1.1.2) (zv p.1.2.1 p.1.2.2)))
theorem getD_takeZ {β : Type} {l : List β} {d : β} {i n : Nat} (h : i < n) : (l.take n).getD i d = l.getD i d := by
 rw [List.getD, List.getD, List.getElem?_take_of_lt h]
theorem memF_eq {b : Option Nat} {l : List (Bool × List Nat)} {i : Nat} {z x : Bool × List Nat} {r : Mem} (h : l[i]? = some x) : ((b, cellM (((fill l i z).set i x).flatMap zc)) :: r : Mem) = (b, cellM ((fill l (i + 1) z).flatMap zc)) :: r := by rw [fill_set _ _ _ _ h]
theorem memZ_eq {b : Option Nat} {l l' : List (Bool × List Nat)} {r : Mem} (h : l = l') : ((b, cellM (l.flatMap zc)) :: r : Mem) = (b, cellM (l'.flatMap zc)) :: r := h ▸ rfl
theorem getElem_cf {l : List Int} {i : Nat} (h : i < l.length) : l[i]? = some (cf l i) := by
 unfold cf; rw [List.getD, List.getElem?_eq_getElem h]; rfl
theorem getD_nz (l : List Int) (i : Nat) : (l.map nz).getD i (false, []) = nz (cf l i) := by
 unfold cf
 rw [List.getD, List.getD, List.getElem?_map]
 cases l[i]? with
 | none => exact nz_zero.symm
 | some z => rfl
theorem fill_done {β : Type} {l : List β} {i n : Nat} {z : β} (h : i = l.length) (hn : n = l.length) : (fill l i z).take n = l := by
 subst h; subst hn; rw [fill_all, List.take_length]
theorem take_map_succ (l : List Int) (i : Nat) (h : i < l.length) : (l.take i).map nz ++ [nz (cf l i)] = (l.take (i + 1)).map nz := by
 rw [List.take_succ_eq_append_getElem h, List.map_append]
 unfold cf
 rw [List.getD, List.getElem?_eq_getElem h]; rfl
end Go.En
namespace Go.Gf
def ch : Nat → Nat → Nat
 | _, 0 => 1
 | 0, _ + 1 => 0
 | n + 1, k + 1 => ch n k + ch n (k + 1)
def S (a n : Nat) : Nat → Nat
 | 0 => 0
 | m + 1 => S a n m + ch n m * a ^ m
def Prime (p : Nat) : Prop := 2 ≤ p ∧ ∀ d, d ∣ p → d = 1 ∨ d = p
theorem Prime.coprime {p k : Nat} (hp : Prime p) (h : ¬ p ∣ k) : Nat.Coprime p k := by
 rcases hp.2 (Nat.gcd p k) (Nat.gcd_dvd_left p k) with e | e
 ·exact e
 ·exact absurd (e ▸ Nat.gcd_dvd_right p k) h
theorem Prime.dvd_mul {p a b : Nat} (hp : Prime p) (h : p ∣ a * b) : p ∣ a ∨ p ∣ b := by
 by_cases ha : p ∣ a
 ·exact .inl ha
 ·exact .inr ((hp.coprime ha).dvd_of_dvd_mul_left h)
theorem prime_two : Prime 2 := ⟨by omega, fun d hd => by have := Nat.le_of_dvd (by omega) hd; rcases Nat.eq_zero_or_pos d with h | h; subst h; simp at hd; omega⟩
end Go.Gf
namespace Go.Gf
end Go.Gf
namespace Go.Gf
theorem half (y : Nat) {k : Nat} (hk : 0 < k) : y / 2 ^ (k - 1) = 2 * (y / 2 ^ k) + y / 2 ^ (k - 1) % 2 := by
 have : y / 2 ^ k = y / 2 ^ (k - 1) / 2 := by
  rw [Nat.div_div_eq_div_mul, ← Nat.pow_succ]; congr 2; omega
 omega
theorem mul_step0 {x y p k o : Nat} (hk : 0 < k) (h : o = x * (y / 2 ^ k) % p) (hb : ¬ y / 2 ^ (k - 1) % 2 = 1) : 2 * o % p = x * (y / 2 ^ (k - 1)) % p := by
 have e := half y hk
 rw [h, Nat.mul_mod_mod]
 congr 1
 rw [e, show y / 2 ^ (k - 1) % 2 = 0 by omega]; grind
end Go.Gf
namespace Go.Gf
end Go.Gf
namespace Go.Gf
end Go.Gf
namespace Go.Pz
open Go.Gf
def cont (l : List Int) : Nat := l.foldl (fun g x => Nat.gcd g x.natAbs) 0
theorem dvd_fold (d : Nat) : ∀ (l : List Int) (g : Nat), d ∣ l.foldl (fun g x => Nat.gcd g x.natAbs) g ↔ d ∣ g ∧ ∀ x ∈ l, d ∣ x.natAbs
  | [], g => by simp
  | a :: l, g => by
    rw [List.foldl_cons, dvd_fold d l, Nat.dvd_gcd_iff]
    simp only [List.mem_cons, forall_eq_or_imp]
    exact ⟨fun h => ⟨h.1.1, h.1.2, h.2⟩, fun h => ⟨⟨h.1, h.2.1⟩, h.2.2⟩⟩
theorem dvd_cont {d : Nat} {l : List Int} : d ∣ cont l ↔ ∀ i, d ∣ (cf l i).natAbs := by
 unfold cont
 rw [dvd_fold]
 constructor
 ·rintro ⟨_, h⟩ i
  unfold cf
  rw [List.getD]
  cases e : l[i]? with
  | none => exact Nat.dvd_zero d
  | some x => exact h x (List.mem_of_getElem? e)
 ·intro h
  refine ⟨Nat.dvd_zero d, fun x hx => ?_⟩
  obtain ⟨i, hi, rfl⟩ := List.mem_iff_getElem.1 hx
  have := h i
  unfold cf at this
  rwa [List.getD, List.getElem?_eq_getElem hi] at this
theorem cont_dvd (l : List Int) (i : Nat) : (cont l : Int) ∣ cf l i := by
 have := dvd_cont.1 (Nat.dvd_refl (cont l)) i
 exact Int.ofNat_dvd_left.2 this
theorem cont_eq {l l' : List Int} (h : ∀ i, (cf l i).natAbs = (cf l' i).natAbs) : cont l = cont l' :=
 Nat.dvd_antisymm (dvd_cont.2 fun i => by rw [← h]; exact dvd_cont.1 (Nat.dvd_refl _) i) (dvd_cont.2 fun i => by rw [h]; exact dvd_cont.1 (Nat.dvd_refl _) i)
theorem cont_zero {l : List Int} : cont l = 0 ↔ ∀ i, cf l i = 0 := by
 constructor
 ·intro h i
  have := dvd_cont.1 (Nat.dvd_refl (cont l)) i
  rw [h] at this
  have := Nat.zero_dvd.1 this
  omega
 ·intro h
  exact Nat.zero_dvd.1 (dvd_cont.2 fun i => by rw [h i]; exact Nat.dvd_zero 0)
theorem prime_dvd : ∀ n, 2 ≤ n → ∃ p, Prime p ∧ p ∣ n := by
  intro n
  induction n using Nat.strongRecOn with
  | ind n ih =>
    intro h
    by_cases hp : Prime n
    · exact ⟨n, hp, Nat.dvd_refl n⟩
    · have : ∃ d, d ∣ n ∧ d ≠ 1 ∧ d ≠ n := Classical.byContradiction fun hn => hp ⟨h, fun d hd => Classical.byContradiction fun hk => hn ⟨d, hd, fun e => hk (.inl e), fun e => hk (.inr e)⟩⟩
      obtain ⟨d, h1, h2, h3⟩ := this
      have hle := Nat.le_of_dvd (by omega) h1
      have h0 : d ≠ 0 := fun e => by rw [e] at h1; have := Nat.zero_dvd.1 h1; omega
      obtain ⟨p, h4, h5⟩ := ih d (by omega) (by omega)
      exact ⟨p, h4, Nat.dvd_trans h5 h1⟩
theorem mul_first (p : Int) : ∀ (j i : Nat) (f g : Nat → Int), (∀ k, k < i → p ∣ f k) → (∀ k, k < j → p ∣ g k) → p ∣ mul f g (i + j) - f i * g j
  | 0, 0, f, g, _, _ => by show p ∣ f 0 * g 0 - f 0 * g 0; rw [Int.sub_self]; exact Int.dvd_zero p
  | 0, i + 1, f, g, hf, _ => by
    have h := mul_first p 0 i (fun k => f (k + 1)) g (fun k hk => hf (k + 1) (by omega)) (fun k hk => by omega)
    show p ∣ f 0 * g (i + 1) + mul (fun k => f (k + 1)) g i - f (i + 1) * g 0
    have h0 : p ∣ f 0 * g (i + 1) := Int.dvd_trans (hf 0 (by omega)) (Int.dvd_mul_right _ _)
    have := Int.dvd_add h0 h
    rwa [← Int.add_sub_assoc] at this
  | j + 1, i, f, g, hf, hg => by
    have h := mul_first p j i f (fun k => g (k + 1)) hf (fun k hk => hg (k + 1) (by omega))
    rw [show i + (j + 1) = (i + j) + 1 by omega, mul_back]
    have h0 : p ∣ f (i + j + 1) * g 0 := Int.dvd_trans (hg 0 (by omega)) (Int.dvd_mul_left _ _)
    have := Int.dvd_add h h0
    rwa [show mul f (fun k => g (k + 1)) (i + j) - f i * g (j + 1) + f (i + j + 1) * g 0 = mul f (fun k => g (k + 1)) (i + j) + f (i + j + 1) * g 0 - f i * g (j + 1) by omega] at this
theorem first_of {P : Nat → Prop} (h : ¬ ∀ i, P i) : ∃ i, ¬ P i ∧ ∀ k, k < i → P k := by
  obtain ⟨n, hn⟩ : ∃ n, ¬ P n := Classical.byContradiction fun hk => h fun i => Classical.byContradiction fun hi => hk ⟨i, hi⟩
  induction n using Nat.strongRecOn with
  | ind n ih =>
    by_cases hc : ∀ k, k < n → P k
    · exact ⟨n, hn, hc⟩
    · obtain ⟨k, hk⟩ : ∃ k, ¬ (k < n → P k) := Classical.byContradiction fun hk => hc fun i => Classical.byContradiction fun hi => hk ⟨i, hi⟩
      exact ih k (Nat.lt_of_not_le fun hle => hk fun hlt => absurd hlt (by omega)) fun hp => hk fun _ => hp
theorem prime_mul {p : Nat} (hp : Prime p) {f g : Nat → Int} (h : ∀ n, (p : Int) ∣ mul f g n) : (∀ i, (p : Int) ∣ f i) ∨ (∀ i, (p : Int) ∣ g i) := by
 refine Classical.byContradiction fun hc => ?_
 obtain ⟨i, hi, hi'⟩ := first_of fun e => hc (.inl e)
 obtain ⟨j, hj, hj'⟩ := first_of fun e => hc (.inr e)
 have h1 := mul_first (p : Int) j i f g hi' hj'
 have h2 : (p : Int) ∣ f i * g j := by
  have := Int.dvd_sub (h (i + j)) h1
  rwa [show mul f g (i + j) - (mul f g (i + j) - f i * g j) = f i * g j by omega] at this
 have h3 : p ∣ (f i).natAbs * (g j).natAbs := by rw [← Int.natAbs_mul]; exact Int.ofNat_dvd_left.1 h2
 rcases hp.dvd_mul h3 with e | e
 ·exact hi (Int.ofNat_dvd_left.2 e)
 ·exact hj (Int.ofNat_dvd_left.2 e)
theorem cont_mul {a b c : List Int} (h : ∀ n, cf c n = mul (cf a) (cf b) n) : cont c = cont a * cont b := by
 by_cases ha : cont a = 0
 ·rw [ha, Nat.zero_mul]
  exact cont_zero.2 fun n => by rw [h]; exact (mul_congr (cont_zero.1 ha) (fun _ => rfl) n).trans (zero_mul _ n)
 by_cases hb : cont b = 0
 ·rw [hb, Nat.mul_zero]
  exact cont_zero.2 fun n => by rw [h, mul_comm]; exact (mul_congr (cont_zero.1 hb) (fun _ => rfl) n).trans (zero_mul _ n)
 have ea : ∀ i, cf a i = (cont a : Int) * (cf a i / (cont a : Int)) := fun i => (Int.mul_ediv_cancel' (cont_dvd a i)).symm
 have eb : ∀ i, cf b i = (cont b : Int) * (cf b i / (cont b : Int)) := fun i => (Int.mul_ediv_cancel' (cont_dvd b i)).symm
 have hc : ∀ n, cf c n = ((cont a * cont b : Nat) : Int) * mul (fun i => cf a i / (cont a : Int)) (fun i => cf b i / (cont b : Int)) n := fun n => by
  rw [h, mul_congr ea eb n, smul_mul, mul_smul, ← Int.mul_assoc, Int.natCast_mul]
 have hpos : 0 < cont a * cont b := Nat.mul_pos (by omega) (by omega)
 obtain ⟨e, he⟩ : cont a * cont b ∣ cont c := dvd_cont.2 fun n => by
  rw [hc n, Int.natAbs_mul, Int.natAbs_natCast]; exact Nat.dvd_mul_right _ _
 by_cases h1 : e = 1
 ·rw [he, h1, Nat.mul_one]
 exfalso
 -- a prime that divides what is left
 obtain ⟨p, hp, hpe⟩ : ∃ p, Prime p ∧ p ∣ e := by
  rcases Nat.eq_zero_or_pos e with h0 | h0
  ·exact ⟨2, prime_two, h0 ▸ Nat.dvd_zero 2⟩
  ·exact prime_dvd e (by omega)
 have hall : ∀ n, (p : Int) ∣ mul (fun i => cf a i / (cont a : Int)) (fun i => cf b i / (cont b : Int)) n := fun n => by
  have h2 := dvd_cont.1 (Nat.dvd_refl (cont c)) n
  rw [he, hc n, Int.natAbs_mul, Int.natAbs_natCast] at h2
  exact Int.ofNat_dvd_left.2 (Nat.dvd_trans hpe (Nat.dvd_of_mul_dvd_mul_left hpos h2))
 have hbad : ∀ (l : List Int), cont l ≠ 0 → ¬ ∀ i, (p : Int) ∣ cf l i / (cont l : Int) := fun l hl hd => by
  have h3 : cont l * p ∣ cont l := dvd_cont.2 fun i => by
   have h4 : cf l i = (cont l : Int) * (cf l i / (cont l : Int)) := (Int.mul_ediv_cancel' (cont_dvd l i)).symm
   rw [h4, Int.natAbs_mul, Int.natAbs_natCast]
   exact Nat.mul_dvd_mul_left _ (Int.ofNat_dvd_left.1 (hd i))
  have h5 := Nat.le_of_dvd (by omega) h3
  have h6 : cont l * 2 ≤ cont l * p := Nat.mul_le_mul_left _ hp.1
  omega
 rcases prime_mul hp hall with h3 | h3
 ·exact hbad a ha h3
 ·exact hbad b hb h3
end Go.Pz
namespace Go.Pz
open Go.Nt Go.En
theorem both_len (op : Int → Int → Int) (a b : List Int) : (both op a b).length ≤ max a.length b.length := by
 unfold both; exact Nat.le_trans (norm_len _) (by rw [List.length_map, List.length_range]; exact Nat.le_refl _)
theorem scale_len (a : List Int) (c : Int) : (pscale a c).length ≤ a.length := by
 unfold pscale; exact Nat.le_trans (norm_len _) (by rw [List.length_map]; exact Nat.le_refl _)
theorem shift_len (a : List Int) (n : Nat) : (pshift a n).length = n + a.length := by unfold pshift; rw [List.length_append, List.length_replicate]
theorem both_norm (op : Int → Int → Int) (a b : List Int) : pnorm (both op a b) = both op a b := norm_norm _
theorem zv_nz (z : Int) : zv (nz z).1 (nz z).2 = z := zv_nf z
theorem Bd.one {z : Int} {K : Nat} (h : (List.length (words z.natAbs)) ≤ K) : Bd [z] K := fun i => by
 cases i with
 | zero => exact h
 | succ i => rw [cf_succ, cf_nil, Int.natAbs_zero, words_zero]; exact Nat.zero_le _
theorem Bd.cons {z : Int} {l : List Int} {K : Nat} (h : (List.length (words z.natAbs)) ≤ K) (k : Bd l K) : Bd (z :: l) K := fun i => by
 cases i with
 | zero => exact h
 | succ i => exact k i
theorem step_mul (K m0 n L : Nat) (h : n + 1 ≤ m0) : K + (m0 - n) * (L + 1) = K + (m0 - (n + 1)) * (L + 1) + L + 1 := by
 have e : m0 - n = (m0 - (n + 1)) + 1 := by omega
 rw [e, Nat.succ_mul]; omega
structure ExI (lead : Int) (B A : List Int) (K L m0 m : Nat) (q a : List Int) : Prop where
 le : m ≤ m0
 go : exactGo lead B m q a = exactGo lead B m0 [] A
 bq : Bd q (K + m0 * (L + 1))
 ba : Bd a (K + (m0 - m) * (L + 1))
 lq : q.length = m0 - m
 la : a.length ≤ A.length
 na : pnorm a = a
theorem ExI.start {lead : Int} {B A : List Int} {K L m0 : Nat} (hA : Bd A K) (hn : pnorm A = A) : ExI lead B A K L m0 m0 [] A :=
 ⟨Nat.le_refl _, rfl, Bd.nil _, hA.mono (by omega), by simp, Nat.le_refl _, hn⟩
theorem ExI.bnd {lead : Int} {B A : List Int} {K L m0 m : Nat} {q a : List Int} (p : ExI lead B A K L m0 m q a) : Bd a (K + m0 * (L + 1)) := by
 have h : (m0 - m) * (L + 1) ≤ m0 * (L + 1) := Nat.mul_le_mul_right _ (Nat.sub_le _ _)
 exact p.ba.mono (by omega)
theorem ExI.step {lead : Int} {B A : List Int} {K L m0 n : Nat} {q a : List Int} (p : ExI lead B A K L m0 (n + 1) q a) (hB : Bd B L) (hm : m0 + B.length ≤ A.length + 1) (hd : (cf a (n + B.length - 1)).tmod lead = 0) :
  ExI lead B A K L m0 n ((cf a (n + B.length - 1)).tdiv lead :: q) (psub a (pshift (pscale B ((cf a (n + B.length - 1)).tdiv lead)) n)) := by
 have e := step_mul K m0 n L p.le
 have hs := p.ba (n + B.length - 1)
 have ht : (List.length (words ((cf a (n + B.length - 1)).tdiv lead).natAbs)) ≤ K + (m0 - (n + 1)) * (L + 1) := Nat.le_trans (nz_tdiv _ _) hs
 refine ⟨Nat.le_of_succ_le p.le, ?_, ?_, ?_, ?_, ?_, both_norm _ _ _⟩
 ·rw [← p.go]
  show _ = (if _ then _ else _)
  rw [if_pos hd]
 ·exact Bd.cons (Nat.le_trans (nz_tdiv _ _) (p.bnd _)) p.bq
 ·rw [e]
  exact Bd.sub (p.ba.mono (by omega)) (((hB.scale ht).shift n).mono (by omega))
 ·have := p.lq; have := p.le; rw [List.length_cons]; omega
 ·have h1 := both_len (fun x y => x - y) a (pshift (pscale B ((cf a (n + B.length - 1)).tdiv lead)) n)
  have h3 := shift_len (pscale B ((cf a (n + B.length - 1)).tdiv lead)) n
  have h4 := scale_len B ((cf a (n + B.length - 1)).tdiv lead)
  have h5 := p.la
  have h6 := p.le
  exact Nat.le_trans h1 (by omega)
def exq (a b : List Int) : Option (List Int) := if pnorm b = [] then none else exactGo (cf (pnorm b) ((pnorm b).length - 1)) (pnorm b) ((pnorm a).length + 1 - (pnorm b).length) [] (pnorm a)
theorem exq_nil {a b : List Int} (h : pnorm b = []) : exq a b = none := by unfold exq; rw [if_pos h]
theorem ExI.no {a b : List Int} {K L m0 n : Nat} {q r : List Int} (hb : pnorm b ≠ []) (hm : m0 = (pnorm a).length + 1 - (pnorm b).length) (p : ExI (cf (pnorm b) ((pnorm b).length - 1)) (pnorm b) (pnorm a) K L m0 (n + 1) q r)
  (h : ¬ (cf r (n + (pnorm b).length - 1)).tmod (cf (pnorm b) ((pnorm b).length - 1)) = 0) : exq a b = none := by
 unfold exq
 rw [if_neg hb, ← hm, ← p.go]
 exact if_neg h
theorem ExI.done {a b : List Int} {K L m0 : Nat} {q r : List Int} (hb : pnorm b ≠ []) (hm : m0 = (pnorm a).length + 1 - (pnorm b).length) (p : ExI (cf (pnorm b) ((pnorm b).length - 1)) (pnorm b) (pnorm a) K L m0 0 q r) :
  exq a b = if r = [] then some (pnorm q) else none := by
 unfold exq
 rw [if_neg hb, ← hm, ← p.go]
 show (if pnorm r = [] then _ else _) = _
 rw [p.na]
theorem lead_ne {b : List Int} (h : pnorm b ≠ []) : cf (pnorm b) ((pnorm b).length - 1) ≠ 0 := by rw [cf_norm]; exact norm_last h
theorem rep_set {β : Type} (z x : β) (l : List β) (n : Nat) : (List.replicate (n + 1) z ++ l).set n x = List.replicate n z ++ x :: l := by
  induction n with
  | zero => rfl
  | succ n ih =>
    show z :: (List.replicate (n + 1) z ++ l).set n x = _
    rw [ih]; rfl
def scont (l : List Int) : Int := if cf l (l.length - 1) < 0 then -(cont l : Int) else (cont l : Int)
theorem scont_abs (l : List Int) : (scont l).natAbs = cont l := by unfold scont; split <;> omega
def prim (l : List Int) : List Int := (pnorm l).map fun x => x.tdiv (scont (pnorm l))
theorem scont_dvd (l : List Int) (i : Nat) : scont l ∣ cf l i := by
 have h := cont_dvd l i
 unfold scont; split
 ·exact Int.neg_dvd.2 h
 ·exact h
theorem cf_mapt (l : List Int) (c : Int) (i : Nat) : cf (l.map fun x => x.tdiv c) i = (cf l i).tdiv c := by
 unfold cf; rw [List.getD, List.getD, List.getElem?_map]
 cases l[i]? with
 | none => exact (Int.zero_tdiv c).symm
 | some z => rfl
theorem cf_prim (l : List Int) (i : Nat) : cf (prim l) i = (cf l i).tdiv (scont (pnorm l)) := by unfold prim; rw [cf_mapt, cf_norm]
theorem prim_back (l : List Int) (i : Nat) : cf (prim l) i * scont (pnorm l) = cf l i := by
 rw [cf_prim]
 have := scont_dvd (pnorm l) i
 rw [cf_norm] at this
 exact Int.tdiv_mul_cancel this
end Go.Pz
namespace Go.En
open Go.Nt Go.Pz
theorem zM0 {k : Nat} {r : Mem} : ((some k, cellM [isB false, SlM isU []]) :: r : Mem) = zM k 0 :: r := by
 show _ = (some k, cellM [isB (decide ((0 : Int) < 0)), SlM isU (words (0 : Int).natAbs)]) :: r
 rw [Int.natAbs_zero, words_zero]; rfl
theorem zc_eq {p q : Bool × List Nat} (h : p = q) : Flat (zc p) = Flat (zc q) := h ▸ rfl
theorem isP_nil {l : List Int} (h : l = []) : SlK 2 zc ([] : List (Bool × List Nat)) = isP l := by subst h; rfl
theorem getZ {l : List Int} {i : Nat} (h : i < l.length) : (l.map nz)[i]? = some (nz (cf l i)) := by rw [List.getElem?_map, getElem_cf h]; rfl
theorem exEq {x y x' y' : Int} (h : x = x') (k : y = y') : isTup [isZ (if y ≠ 0 ∧ x.tmod y = 0 then x.tdiv y else 0), isB (decide (y ≠ 0 ∧ x.tmod y = 0))] = isTup [isZ (if y' ≠ 0 ∧ x'.tmod y' = 0 then x'.tdiv y' else 0), isB (decide (y' ≠ 0 ∧ x'.tmod y' = 0))] := by subst h; subst k; rfl
theorem bd64 {l : List Int} (h : ∀ y ∈ l, -9223372036854775808 ≤ y ∧ y < 9223372036854775808) : Bd l 1 := fun i => by
 rcases Nat.lt_or_ge i l.length with hi | hi
 ·have := h (cf l i) (List.mem_of_getElem? (getElem_cf hi))
  exact nw_small' (by omega)
 ·rw [cf_high hi, Int.natAbs_zero, words_zero]; exact Nat.zero_le _
theorem Has.okI {E : Env} {Γ : Ctx} {M : Mem} {x : Operand} {xs : List Int} (h : Has E Γ M x (SlM isI xs)) : ∀ a w F, Sat E Γ M a w F → ∀ y ∈ xs, -9223372036854775808 ≤ y ∧ y < 9223372036854775808 := by
 intro a w F s y hy
 obtain ⟨ad, cap, e, g1, g2, g3, g4⟩ := h a w F s
 obtain ⟨i, hi, rfl⟩ := List.mem_iff_getElem.1 hy
 rcases g4 with g4 | ⟨b, off, _, _, vs, hv, _⟩
 ·omega
 ·obtain ⟨v, _, h2⟩ := hv.get i (isI xs[i]) (by simp [hi])
  exact ⟨h2.2.1, h2.2.2⟩
end Go.En
namespace Go.En
open Go.RowKit
section
variable {E : Env} {P : Program} {Γ : Ctx} {M : Mem} {ty : TypeId} {pos : String} {after : Array Edge}
 {ops : Array Oper} {Q : Exit → Act → World → Prop} {rest : List Oper}
theorem any_one {l : List Oper} {i fuel : Nat} {o : Oper} {listed : Array Bool} {a : Act} {w : World} (hr : ∀ j, j ∈ Region.ready .any l.toArray listed → j = i) (hi : i ∈ Region.ready .any l.toArray listed) (ho : l[i]? = some o)
  (hl : wpList P l.toArray Q (o :: rest) a w) (hn : ∀ a w, wpList P l.toArray Q rest a w → wpAny P .any l.toArray Q fuel (listed.setIfInBounds i true) a w) : wpAny P .any l.toArray Q (fuel + 1) listed a w := by
 refine ⟨fun h0 => ?_, fun j hj => ?_⟩
 ·rw [h0] at hi; simp at hi
 ·obtain rfl := hr j hj
  have ho' : l.toArray[j]? = some o := by simpa using ho
  unfold wpOp
  rw [ho']
  simp only []
  unfold wpList at hl
  split
  ·rename_i hw; rw [if_pos hw] at hl; exact hl.imp (Oper.wp_mono hn) id
  ·rename_i hw; rw [if_neg hw] at hl; exact hn _ _ hl
end
end Go.En
namespace Go.Mz
open Go.Pz Go.Nt Go.En
def tab (N C : Nat) (g : Nat → Nat → Int) : List Int := (List.range N).map fun j => g (j / C) (j % C)
theorem tab_len (N C : Nat) (g : Nat → Nat → Int) : (tab N C g).length = N := by unfold tab; rw [List.length_map, List.length_range]
theorem divmod {C i k : Nat} (h : k < C) : (i * C + k) / C = i ∧ (i * C + k) % C = k := by
 have hC : 0 < C := by omega
 constructor
 ·rw [Nat.mul_comm, Nat.mul_add_div hC, Nat.div_eq_of_lt h, Nat.add_zero]
 ·rw [Nat.mul_comm, Nat.mul_add_mod, Nat.mod_eq_of_lt h]
theorem cf_tab' {N C i k : Nat} (g : Nat → Nat → Int) (hk : k < C) (hN : i * C + k < N) : cf (tab N C g) (i * C + k) = g i k := by
 unfold tab
 rw [cf_tab, if_pos hN, (divmod hk).1, (divmod hk).2]
theorem tab_succ {C i k : Nat} (g : Nat → Nat → Int) (hk : k < C) : tab (i * C + k) C g ++ [g i k] = tab (i * C + (k + 1)) C g := by
 unfold tab
 rw [← Nat.add_assoc, List.range_succ, List.map_append, List.map_singleton, (divmod hk).1, (divmod hk).2]
theorem tab_next {C i : Nat} (g : Nat → Nat → Int) : tab (i * C + C) C g = tab ((i + 1) * C + 0) C g := by rw [Nat.add_zero, Nat.succ_mul]
theorem place_lt {R C i k : Nat} (hi : i < R) (hk : k < C) : i * C + k < R * C := by
 have : (i + 1) * C ≤ R * C := Nat.mul_le_mul_right C hi
 rw [Nat.succ_mul] at this; omega
theorem side_le {R C : Nat} (hR : R ≤ 64) (hC : C ≤ 64) : R * C ≤ 4096 := Nat.le_trans (Nat.mul_le_mul hR hC) (by decide)
theorem Bd_tab {N C K : Nat} {g : Nat → Nat → Int} (h : ∀ i k, (List.length (words (g i k).natAbs)) ≤ K) : Bd (tab N C g) K := fun i => by
 unfold Go.Mz.tab
 rw [cf_tab]
 split
 ·exact h _ _
 ·rw [Int.natAbs_zero, words_zero]; exact Nat.zero_le _
def formB (r c : Int) (n : Nat) : Bool := (decide (0 ≤ r) && decide (r ≤ 64)) && (decide (0 ≤ c) && decide (c ≤ 64)) && decide ((n : Int) = r * c)
theorem formB_iff {r c : Int} {n : Nat} : formB r c n = true ↔ ∃ R C : Nat, r = R ∧ c = C ∧ R ≤ 64 ∧ C ≤ 64 ∧ n = R * C := by
 unfold formB
 simp only [Bool.and_eq_true, decide_eq_true_eq]
 constructor
 ·rintro ⟨⟨⟨h1, h2⟩, h3, h4⟩, h5⟩
  refine ⟨r.toNat, c.toNat, by omega, by omega, by omega, by omega, ?_⟩
  have : (n : Int) = (r.toNat * c.toNat : Nat) := by rw [h5, Int.natCast_mul]; congr 1 <;> omega
  omega
 ·rintro ⟨R, C, rfl, rfl, h1, h2, rfl⟩
  exact ⟨⟨⟨by omega, by omega⟩, by omega, by omega⟩, by rw [Int.natCast_mul]⟩
theorem formB_true {R C n : Nat} (h1 : R ≤ 64) (h2 : C ≤ 64) (h : n = R * C) : formB (R : Int) (C : Int) n = true := formB_iff.2 ⟨R, C, rfl, rfl, h1, h2, h⟩
theorem mul_bnd {r c : Int} (h : (0 ≤ r ∧ r ≤ 64) ∧ (0 ≤ c ∧ c ≤ 64)) : 0 ≤ r * c ∧ r * c ≤ 4096 := by
 refine ⟨Int.mul_nonneg h.1.1 h.2.1, ?_⟩
 have h1 : r * c ≤ 64 * c := Int.mul_le_mul_of_nonneg_right h.1.2 h.2.1
 omega
def dotS (f g : Nat → Int) : Nat → Int
 | 0 => 0
 | n + 1 => dotS f g n + f n * g n
theorem dotS_nw {f g : Nat → Int} {K L : Nat} (h : ∀ i, (List.length (words (f i).natAbs)) ≤ K) (k : ∀ i, (List.length (words (g i).natAbs)) ≤ L) : ∀ n, (List.length (words (dotS f g n).natAbs)) ≤ K + L + n
  | 0 => by show (List.length (words (Int.natAbs 0))) ≤ _; rw [Int.natAbs_zero, words_zero]; exact Nat.zero_le _
  | n + 1 => by
    have h1 := dotS_nw h k n
    have h2 := nz_mul (f n) (g n)
    have h3 := h n
    have h4 := k n
    have h5 := nz_add (dotS f g n) (f n * g n)
    show (List.length (words (dotS f g n + f n * g n).natAbs)) ≤ _
    omega
end Go.Mz
namespace Go.En
open Go.Nt Go.Pz Go.Mz
abbrev PI (R C : Nat) : Type := { p : Nat × Nat // p.1 < R ∧ p.2 < C }
abbrev isAt (P : Program) (R C : Nat) (f : Nat → Nat → Bool × List Nat) : VP := isFun (ι := PI R C) P (fun p => [isI (p.1.1 : Int), isI (p.1.2 : Int)]) (fun p => Flat (zc (f p.1.1 p.1.2)))
abbrev isM (r c : Int) (xs : List (Bool × List Nat)) : VP := Flat [isI r, isI c, SlK 2 zc xs]
abbrev isMz (R C : Nat) (L : List Int) : VP := Flat [isI (R : Int), isI (C : Int), isP L]
abbrev ptM (r c : Int) (xs : List (Bool × List Nat)) : VP := PtrL [isI r, isI c, SlK 2 zc xs]
theorem isMz_eq {R C : Nat} {L L' : List Int} (h : L = L') : isMz R C L = isMz R C L' := h ▸ rfl
theorem grF_eq {α : Type} {fk : α → List VP} {g : Gr α} {ys ys' : List α} {n : Nat} {b : Nat} {A B : VP} {r : Mem} (hn : n = ys'.length) (h : ys = ys') : (grMK fk g ys :: (some b, cellM [A, B, isGr g n]) :: r : Mem) = grMK fk g ys' :: (some b, cellM [A, B, isGr g ys'.length]) :: r := by subst h; subst hn; rfl
theorem zvz (f : Nat → Nat → Int) : (fun i k => zv (nz (f i k)).1 (nz (f i k)).2) = f := by funext i k; exact zv_nz _
end Go.En
namespace Go.Proofs.YtcfobalbkhgdmaaGreat
open Go.En Go.RowKit
set_option maxRecDepth 10000
set_option maxHeartbeats 4000000
open Go.Nt
open Go.Pz
open Go.Mz
theorem zmat_side {n : Int} : Ctr Tryz.prog 59 [isI n] (isB (decide (0 ≤ n) && decide (n ≤ 64))) := by
 refine Ctr.intro Tryz.func59 rfl (by kernel_rfl) Tryz.ntmps59 rfl fun w0 F0 => .cv (Cv.wk (.l [0] rfl)) (.fact (Has.rngI (Has.t (t := 0) rfl)) fun lt0 => .seq fun _ k1 => .region (st (.as (.cB false)) rfl (nl (.thn (k1 _ _ (.seq fun _ k2 => .region (st (.mv (.t rfl)) rfl (st (.geI (.t rfl) (.cI 0 rfl)) rfl (st (.mv (.t rfl)) rfl (stT rfl rfl (fun hg => .mv (.t rfl)) rfl (stT rfl rfl (fun hg => .leI (Has.g rfl hg) (.cI 64 rfl)) rfl (st (.pickAnd (.t rfl) (fun h => Has.g rfl h)) rfl (st (.as (.t rfl)) rfl (nl (.thn (k2 _ _ (.cv (Cv.wk (.l [2] rfl)) (.ret (rt1 (.inl rfl) Tryz.results59 rfl (.tmp (Has.t' rfl ?_) .nil))))))))))))))))))))
 all_goals (rfl)
theorem zmat_Formed {r c : Int} {xs : List (Bool × List Nat)} : Ctr Tryz.prog 46 [isM r c xs] (isB (formB r c xs.length)) := by
 refine Ctr.intro Tryz.func46 rfl (by kernel_rfl) Tryz.ntmps46 rfl fun w0 F0 => .cv (Cv.wk (.l [0] rfl)) (.seq fun _ k1 => .region (.box (.t rfl) rfl fun b1 => st (.as (.cB false)) rfl (nl (.thn (k1 _ _ (.seq fun _ k2 => .region (st (.fieldAddr (.t rfl) fld27_0 ty3) rfl (st (.load1 (.t rfl) (i := 0) rfl ty3 rfl) rfl (st (.call (zmat_side) (.cons (.t rfl) .nil)) rfl (st (.mv (.t rfl)) rfl (stT rfl rfl (fun hg => .fieldAddr (.t rfl) fld27_1 ty3) rfl (stT rfl rfl (fun hg => .load1 (Has.g rfl hg) (i := 0) rfl ty3 rfl) rfl (stT rfl rfl (fun hg => .call (zmat_side) (.cons (Has.g rfl hg) .nil)) rfl (st (.pickAnd (.t rfl) (fun h => Has.g rfl h)) rfl (st (.mv (.t rfl)) rfl (stT rfl rfl (fun hg => .fieldAddr (.t rfl) fld27_2 ty22) rfl (stT rfl rfl (fun hg => .load1 (Has.g rfl hg) (i := 0) rfl ty22 rfl) rfl (stT rfl rfl (fun hg => .len sl22 (Has.g rfl hg)) rfl (stT rfl rfl (fun hg => .fieldAddr (.t rfl) fld27_0 ty3) rfl (stT rfl rfl (fun hg => .load1 (Has.g rfl hg) (i := 0) rfl ty3 rfl) rfl (stT rfl rfl (fun hg => .fieldAddr (.t rfl) fld27_1 ty3) rfl (stT rfl rfl (fun hg => .load1 (Has.g rfl hg) (i := 0) rfl ty3 rfl) rfl ?_))))))))))))))))))))))
 refine stT rfl rfl (fun hg => have hg' := BP.t hg; OK1.mulI (Has.g rfl hg) (Has.g rfl hg) (by have := mul_bnd ⟨hg'.1, hg'.2⟩; omega) (by have := mul_bnd ⟨hg'.1, hg'.2⟩; omega)) rfl ?_
 refine stT rfl rfl (fun hg => .eqI (Has.g rfl hg) (Has.g rfl hg)) rfl (st (.pickAnd (.t rfl) (fun h => Has.g rfl h)) rfl (st (.as (.t rfl)) rfl (nl (.thn (k2 _ _ (.cv (Cv.wk (.l [2] rfl)) (.ret (rt1 (.inl rfl) Tryz.results46 rfl (.tmp (Has.t' rfl ?_) .nil)))))))))
 all_goals (rfl)
theorem zmat_get {r : Int} {C i k : Nat} {xs : List (Bool × List Nat)} (hx : xs.length ≤ 4096) (hl : i * C + k < xs.length) : Ctr Tryz.prog 48 [isM r (C : Int) xs, isI (i : Int), isI (k : Int)] (Flat (zc (xs.getD (i * C + k) (false, [])))) := by
 refine Ctr.intro Tryz.func48 rfl (by kernel_rfl) Tryz.ntmps48 rfl fun w0 F0 => .cv (Cv.wk (.l [0, 1, 2] rfl)) (.fact (Has.rngI (Has.t (t := 1) rfl)) fun lt1 => .fact (Has.rngI (Has.t (t := 2) rfl)) fun lt2 => ?_)
 have hcp : ((i : Int) * (C : Int)) = ((i * C : Nat) : Int) := (Int.natCast_mul i C).symm
 refine .seq fun _ k1 => .region (.box (.t rfl) rfl fun b1 => .alloc [isB false, SlM isU []] zero36 (fun _ _ => ⟨rfl, nilM _ _, trivial⟩) rfl fun b2 => nl (.thn (k1 _ _ (.seq fun _ k2 => .region (st (.fieldAddr (.t rfl) fld27_2 ty22) rfl (st (.load1 (.t rfl) (i := 1) rfl ty22 rfl) rfl (st (.mv (.t rfl)) rfl (st (.fieldAddr (.t rfl) fld27_1 ty3) rfl (st (.load1 (.t rfl) (i := 1) rfl ty3 rfl) rfl (st (.eq (.mulI (.t rfl) (.t rfl) (by omega) (by omega)) ((show isI _ = isI ((i * C : Nat) : Int) from isI_eq hcp))) rfl (st (.mv (.t rfl)) rfl (st (.eq (.addI (.t rfl) (.t rfl) (by omega) (by omega)) ((show isI _ = isI ((i * C + k : Nat) : Int) from isI_eq (by omega)))) rfl (st (.ixK sl22 ty36 (.t rfl) (.t rfl) zc_len ⟨by omega, by omega⟩ (getD_some (d := (false, [])) (by omega))) rfl (st (.loadP (.t rfl) ty36 rfl (Ss' := [_, _]) rfl) rfl (.store (.t rfl) (.t rfl) (i := 0) rfl ty36 rfl rfl (Ss' := [_, _]) rfl (M' := [(some _, cellM [_, _]), _]) rfl (nl (.thn (k2 _ _ (.cv (Cv.wk (.l [6] rfl)) (.ret (rt1 (.inl rfl) Tryz.results48 rfl (.cell rfl (i := 0) rfl ty36 rfl ?_ .nil))))))))))))))))))))))
 all_goals (rfl)
theorem zmat_has {r c i : Int} {xs : List (Bool × List Nat)} : Ctr Tryz.prog 47 [isM r c xs, isI i] (isB (decide (0 ≤ i) && decide (i < r))) := by
 refine Ctr.intro Tryz.func47 rfl (by kernel_rfl) Tryz.ntmps47 rfl fun w0 F0 => .cv (Cv.wk (.l [0, 1] rfl)) (.fact (Has.rngI (Has.t (t := 1) rfl)) fun lt1 => .seq fun _ k1 => .region (.box (.t rfl) rfl fun b1 => st (.as (.cB false)) rfl (nl (.thn (k1 _ _ (.seq fun _ k2 => .region (st (.mv (.t rfl)) rfl (st (.geI (.t rfl) (.cI 0 rfl)) rfl (st (.mv (.t rfl)) rfl (stT rfl rfl (fun hg => .mv (.t rfl)) rfl (stT rfl rfl (fun hg => .fieldAddr (.t rfl) fld27_0 ty3) rfl (stT rfl rfl (fun hg => .load1 (Has.g rfl hg) (i := 0) rfl ty3 rfl) rfl (stT rfl rfl (fun hg => .ltI (Has.g rfl hg) (Has.g rfl hg)) rfl (st (.pickAnd (.t rfl) (fun h => Has.g rfl h)) rfl (st (.as (.t rfl)) rfl (nl (.thn (k2 _ _ (.cv (Cv.wk (.l [4] rfl)) (.ret (rt1 (.inl rfl) Tryz.results47 rfl (.tmp (Has.t' rfl ?_) .nil))))))))))))))))))))))
 all_goals (rfl)
theorem zmat_made {R C : Nat} {f : Nat → Nat → Bool × List Nat} (hR : R ≤ 64) (hC : C ≤ 64) (hf : ∀ i k, i < R → k < C → (List.length (words (val (f i k).2))) ≤ 4294967296) : Ctr Tryz.prog 60 [isI (R : Int), isI (C : Int), isAt Tryz.prog R C f] (isMz R C (tab (R * C) C fun i k => zv (f i k).1 (f i k).2)) := by
 refine Ctr.intro Tryz.func60 rfl (by kernel_rfl) Tryz.ntmps60 rfl fun w0 F0 => .cv (Cv.wk (.l [0, 1, 2] rfl)) (.fact (Has.rngI (Has.t (t := 0) rfl)) fun lt0 => .fact (Has.rngI (Has.t (t := 1) rfl)) fun lt1 => ?_)
 have hRC := side_le hR hC
 obtain ⟨G, hG⟩ : ∃ G : Nat → Nat → Int, G = fun i k => zv (f i k).1 (f i k).2 := ⟨_, rfl⟩
 rw [← hG]
 refine .seq fun _ k1 => .region (.alloc [isI 0, isI 0, nilS] zero27 (fun _ _ => ⟨⟨rfl, by decide, by decide⟩, ⟨rfl, by decide, by decide⟩, rfl, trivial⟩) rfl fun b1 => nl (.thn (k1 _ _ (.seq fun _ k2 => .region (st (.mv (.t rfl)) rfl (st (.mv (.t rfl)) rfl (st (.build [isI 0, isI 0, nilS] pl27 zero27 (fun _ _ => ⟨⟨rfl, by decide, by decide⟩, ⟨rfl, by decide, by decide⟩, rfl, trivial⟩) (.cons (.t rfl) rfl rfl rfl (.cons (.t rfl) rfl rfl rfl .nil)) (Z'' := [_, _, _]) rfl) rfl (.alloc [isI 0, isI 0, nilS] zero27 (fun _ _ => ⟨⟨rfl, by decide, by decide⟩, ⟨rfl, by decide, by decide⟩, rfl, trivial⟩) rfl fun b2 => .store (.t rfl) (.t rfl) (i := 0) rfl ty27 rfl rfl (Ss' := [_, _, _]) rfl (M' := [(some _, cellM [_, _, _]), _]) rfl (nl (.thn (k2 _ _ (.seq fun _ k3 => .seq fun _ k4 => .cv (Cv.growF (Bool × List Nat) (i := 0) (o := 2) rfl rfl rfl) (.memEq (M' := [grMK zc Gr.nil [], _, _]) rfl (.region (st (.mv (.t rfl)) rfl (st (.mv (.cI 0 rfl)) rfl (nl (.thn (k4 _ _ (.block (.loopF [1, 2, 6, 7, 14] (fun (z : { z : Nat × Gr (Bool × List Nat) // z.1 ≤ R }) => match z with | ⟨(i, g), hI⟩ => [(15, isI (i : Int))]) (fun M => fun (z : { z : Nat × Gr (Bool × List Nat) // z.1 ≤ R }) => match z with | ⟨(i, g), hI⟩ => [grMK zc g ((tab (i * C + 0) C G).map nz), (some b2, cellM [isI (R : Int), isI (C : Int), isGr g ((tab (i * C + 0) C G).map nz).length]), (some b1, cellM [isI 0, isI 0, nilS])]) (fun (z : { z : Nat × Gr (Bool × List Nat) // z.1 ≤ R }) => match z with | ⟨(i, g), hI⟩ => R - i) (⟨(0, Gr.nil), Nat.zero_le _⟩) (Cv.mem (.c 15 rfl ?_ (.l [1, 2, 6, 7, 14] rfl)) ?_) ?_)))))))))))))))))))))
 ·rfl
 ·exact grF_eq (n := 0) (ys := []) (by rw [List.length_map, tab_len, Nat.zero_mul]) (show [] = (tab (0 * C + 0) C G).map nz by rw [Nat.zero_mul]; rfl)
 rintro ⟨⟨i, g⟩, hI⟩ K5 hK5
 refine .cv (Cv.wk (.l [15, 1, 2, 6, 7, 14] rfl)) (.memEq (M' := [grMK zc g ((tab (i * C + 0) C G).map nz), (some b2, cellM [isI (R : Int), isI (C : Int), isGr g ((tab (i * C + 0) C G).map nz).length]), (some b1, cellM [isI 0, isI 0, nilS])]) rfl ?_)
 simp only [] at hI
 refine .seq fun _ k6 => .region (st (.ltI (.t rfl) (.t rfl)) rfl (nl (.thn (k6 _ _ (.seq fun _ k7 => .cond (.t rfl) (fun hc1 => ?_) (fun hc1 => ?_))))))
 ·have hc1 := BP.t hc1
  refine .skip (.thn (k7 _ _ (.seq fun _ k8 => .block (.seq fun _ k9 => .region (st (.mv (.t rfl)) rfl (st (.as (.t rfl)) rfl (nl (.thn (k9 _ _ (.seq fun _ k10 => .region (st (.mv (.t rfl)) rfl (st (.mv (.cI 0 rfl)) rfl (nl (.thn (k10 _ _ (.block (.loopF [1, 2, 6, 7, 14, 15, 16, 17, 8, 18] (fun (z : { z : Nat × Gr (Bool × List Nat) // z.1 ≤ C }) => match z with | ⟨(k, g2), hK⟩ => [(19, isI (k : Int))]) (fun M => fun (z : { z : Nat × Gr (Bool × List Nat) // z.1 ≤ C }) => match z with | ⟨(k, g2), hK⟩ => [grMK zc g2 ((tab (i * C + k) C G).map nz), (some b2, cellM [isI (R : Int), isI (C : Int), isGr g2 ((tab (i * C + k) C G).map nz).length]), (some b1, cellM [isI 0, isI 0, nilS])]) (fun (z : { z : Nat × Gr (Bool × List Nat) // z.1 ≤ C }) => match z with | ⟨(k, g2), hK⟩ => C - k) (⟨(0, g), Nat.zero_le _⟩) (Cv.mem (.c 19 rfl ?_ (.l [1, 2, 6, 7, 14, 15, 16, 17, 8, 18] rfl)) ?_) ?_)))))))))))))))))
  ·rfl
  ·rfl
  rintro ⟨⟨k, g2⟩, hK⟩ K11 hK11
  refine .cv (Cv.wk (.l [19, 1, 2, 6, 7, 14, 15, 16, 17, 8, 18] rfl)) (.memEq (M' := [grMK zc g2 ((tab (i * C + k) C G).map nz), (some b2, cellM [isI (R : Int), isI (C : Int), isGr g2 ((tab (i * C + k) C G).map nz).length]), (some b1, cellM [isI 0, isI 0, nilS])]) rfl ?_)
  simp only [] at hK
  refine .seq fun _ k12 => .region (st (.ltI (.t rfl) (.t rfl)) rfl (nl (.thn (k12 _ _ (.seq fun _ k13 => .cond (.t rfl) (fun hc2 => ?_) (fun hc2 => ?_))))))
  ·have hc2 := BP.t hc2
   refine .skip (.thn (k13 _ _ (.seq fun _ k14 => .block (.seq fun _ k15 => .region (st (.mv (.t rfl)) rfl (st (.as (.t rfl)) rfl (nl (.thn (k15 _ _ (.seq fun _ k16 => .region (st (.mv (.t rfl)) rfl (st (.mv (.t rfl)) rfl (st (.mv (.t rfl)) rfl (st (.callV ⟨(i, k), by omega, by omega⟩ (.t rfl) (.cons (.t rfl) (.cons (.t rfl) .nil))) rfl (.alloc [isB false, SlM isU []] zero36 (fun _ _ => ⟨rfl, nilM _ _, trivial⟩) rfl fun b3 => .store (.t rfl) (.t rfl) (i := 0) rfl ty36 rfl rfl (Ss' := [_, _]) rfl (M' := [(some _, cellM [_, _]), _, _, _]) rfl (nl (.thn (k16 _ _ (.dr (.s [] rfl rfl rfl (.o rfl (.fieldAddr (.t rfl) fld27_2 ty22)) (.s [26] rfl rfl rfl (.o rfl (.load1 (.t rfl) (i := 2) rfl ty22 rfl)) (.s [] rfl rfl rfl (.o rfl (.fieldAddr (.t rfl) fld36_1 ty34)) (.s [28] rfl rfl rfl (.o rfl (.load1 (.t rfl) (i := 0) rfl ty34 rfl)) (.s [] rfl rfl rfl (.o rfl (.fieldAddr (.t rfl) fld36_0 ty4)) (.s [30] rfl rfl rfl (.o rfl (.load1 (.t rfl) (i := 0) rfl ty4 rfl)) (.s [29, 31] rfl rfl rfl (.o rfl (.eq (.call (zint_From (hf i k (by omega) (by omega))) (.cons (.t rfl) (.cons (.t rfl) .nil))) ((show isZ _ = Flat (zc (nz (G i k))) from isZ_eq (by rw [hG]))))) (.s [32] rfl rfl rfl (.o rfl (.buildS [isB false, SlM isU []] sl22 ty36 zero36 (fun _ _ => ⟨rfl, nilM _ _, trivial⟩) rfl rfl (.cons (.t rfl) rfl rfl rfl .nil) rfl (S := SlK 2 zc [nz (G i k)]) rfl)) (.fin (n := 8) mixed (by kernel_rfl) (by kernel_rfl) (by kernel_rfl) (.cv (Cv.wk (.l [1, 2, 6, 7, 14, 15, 16, 17, 8, 18, 19, 20, 21, 9, 22, 23, 24, 25, 10, 26, 27, 28, 29, 30, 31, 32, 33] rfl)) (.appendGK (fk := zc) (u := (false, [])) zc_len (by decide) (fun _ => inferInstance) sl22 ty36 zero36 (fun _ _ => ⟨rfl, nilM _ _, trivial⟩) by36 (.t rfl) (i := 1) rfl (.t rfl) (by have hpl := place_lt (show i < R by omega) (show k < C by omega); rw [List.length_map, tab_len]; show i * C + k + 1 ≤ _; omega) (by simp) rfl fun gr1 => ?_))))))))))))))))))))))))))))))
   refine .memEq (M' := [_, grMK _ _ _, _, _]) rfl (st (.fieldAddr (.t rfl) fld27_2 ty22) rfl (.store (.t rfl) (.t rfl) (i := 2) rfl ty22 rfl rfl (Ss' := [_, _, _]) rfl (M' := [_, _, (some _, cellM [_, _, _]), _]) rfl (nl (.bln (.thn (k14 _ _ (.region (st (.addI (.t rfl) (.cI 1 rfl) (by omega) (by omega)) rfl (st (.mv (.t rfl)) rfl (nl (.thn ?_)))))))))))
   have hpl := place_lt (show i < R by omega) (show k < C by omega)
   refine hK11 (⟨(k + 1, gr1), by show k + 1 ≤ C; omega⟩) _ _ ?_ (Cv.trans (Cv.drop ((.cons _ (.cons_cons _ (.cons_cons _ (.cons_cons _ .slnil)))))) (Cv.mem (.c 19 rfl ?_ (.l [1, 2, 6, 7, 14, 15, 16, 17, 8, 18] rfl)) ?_))
   ·show C - (k + 1) < C - k; omega
   ·exact isI_eq (by omega)
   ·exact grF_eq (by rw [← tab_succ G (show k < C by omega), List.map_append, List.length_append]; rfl) (by rw [← tab_succ G (show k < C by omega), List.map_append]; rfl)
  ·have hc2 := BP.f hc2
   refine .exit (.the (.the (.blh (.bln (.thn (k8 _ _ (.region (st (.addI (.t rfl) (.cI 1 rfl) (by omega) (by omega)) rfl (st (.mv (.t rfl)) rfl (nl (.thn ?_)))))))))))
   have hkC : k = C := by omega
   subst hkC
   refine hK5 (⟨(i + 1, g2), by show i + 1 ≤ R; omega⟩) _ _ ?_ (Cv.mem (.c 15 rfl ?_ (.l [1, 2, 6, 7, 14] rfl)) ?_)
   ·show R - (i + 1) < R - i; omega
   ·exact isI_eq (by omega)
   ·exact grF_eq (by rw [tab_next]) (by rw [tab_next])
 ·have hc1 := BP.f hc1
  refine .exit (.the (.the (.blh (.thn (k3 _ _ (.cv (Cv.wk (.l [6, 7] rfl)) (.seq fun _ k17 => .cv (Cv.freezeF (k := 2) (i := 0) (j := 0) (o := 2) rfl rfl rfl rfl (gr_lenK zc_len) (gr_takeK zc_len) (Ss' := [_, _, SlK 2 zc ((tab (i * C + 0) C G).map nz)]) rfl) (.memEq (M' := [(some _, cellM [_, _, SlK 2 zc ((tab (i * C + 0) C G).map nz)]), _]) rfl (.cv (Cv.wk (.l [6, 7] rfl)) (.region (st (.load (.t rfl) (i := 0) rfl ty27 rfl (Ss' := [_, _, _]) rfl) rfl (.store (.t rfl) (.t rfl) (i := 1) rfl ty27 rfl rfl (Ss' := [_, _, _]) rfl (M' := [_, (some _, cellM [_, _, _])]) rfl (nl (.thn (k17 _ _ (.ret (rt1 (.inl rfl) Tryz.results60 rfl (.cell rfl (i := 1) rfl ty27 rfl ?_ .nil))))))))))))))))))
  all_goals (rw [Nat.add_zero, show i = R by omega])
theorem zmat_Of_1 {C i k : Nat} {l : List Int} (hx : l.length ≤ 4096) (hl : i * C + k < l.length) : Ctr Tryz.prog 61 [isI (i : Int), isI (k : Int), PtrL [SlM isI l], PtrL [isI (C : Int)]] (isZ (cf l (i * C + k))) := by
 refine Ctr.intro Tryz.func61 rfl (by kernel_rfl) Tryz.ntmps61 rfl fun w0 F0 => .cv (Cv.wk (.l [0, 1, 2, 3] rfl)) (.fact (Has.rngI (Has.t (t := 0) rfl)) fun lt0 => .fact (Has.rngI (Has.t (t := 1) rfl)) fun lt1 => ?_)
 have hcp : ((i : Int) * (C : Int)) = ((i * C : Nat) : Int) := (Int.natCast_mul i C).symm
 refine .seq fun _ k1 => .region (.alloc [isB false, SlM isU []] zero36 (fun _ _ => ⟨rfl, nilM _ _, trivial⟩) rfl fun b1 => nl (.thn (k1 _ _ (.seq fun _ k2 => .region (st (.loadP1 (.t rfl) ty94) rfl (st (.mv (.t rfl)) rfl (st (.loadP1 (.t rfl) ty3) rfl (st (.eq (.mulI (.t rfl) (.t rfl) (by omega) (by omega)) ((show isI _ = isI ((i * C : Nat) : Int) from isI_eq hcp))) rfl (st (.mv (.t rfl)) rfl (st (.eq (.addI (.t rfl) (.t rfl) (by omega) (by omega)) ((show isI _ = isI ((i * C + k : Nat) : Int) from isI_eq (by omega)))) rfl (st (.ixP sl94 ty2 (.t rfl) (.t rfl) ⟨by omega, by omega⟩ (getD_some (d := 0) (by omega))) rfl (st (.loadP1 (.t rfl) ty2) rfl (st (.call (zint_Of) (.cons (.t rfl) .nil)) rfl (.store (.t rfl) (.t rfl) (i := 0) rfl ty36 rfl rfl (Ss' := [_, _]) rfl (M' := [(some _, cellM [_, _])]) rfl (nl (.thn (k2 _ _ (.cv (Cv.wk (.l [6] rfl)) (.ret (rt1 (.inl rfl) Tryz.results61 rfl (.cell rfl (i := 0) rfl ty36 rfl ?_ .nil)))))))))))))))))))))
 all_goals (rfl)
theorem zmat_Of {R C : Nat} {l : List Int} (hR : R ≤ 64) (hC : C ≤ 64) (hl : l.length = R * C) (hb : ∀ y ∈ l, -9223372036854775808 ≤ y ∧ y < 9223372036854775808) : Ctr Tryz.prog 25 [isI (R : Int), isI (C : Int), SlM isI l] (isTup [isMz R C (tab (R * C) C fun i k => cf l (i * C + k)), isI 0]) := by
 refine Ctr.intro Tryz.func25 rfl (by kernel_rfl) Tryz.ntmps25 rfl fun w0 F0 => .cv (Cv.wk (.l [0, 1, 2] rfl)) (.fact (Has.rngI (Has.t (t := 0) rfl)) fun lt0 => .fact (Has.rngI (Has.t (t := 1) rfl)) fun lt1 => .fact (Has.lenLt (Has.t (t := 2) rfl)) fun lt2 => ?_)
 have hRC := side_le hR hC
 have hcp : ((R : Int) * (C : Int)) = ((R * C : Nat) : Int) := (Int.natCast_mul R C).symm
 refine .seq fun _ k1 => .region (.box (.t rfl) rfl fun b1 => .box (.t rfl) rfl fun b2 => .alloc [isI 0, isI 0, nilS] zero27 (fun _ _ => ⟨⟨rfl, by decide, by decide⟩, ⟨rfl, by decide, by decide⟩, rfl, trivial⟩) rfl fun b3 => st (.as (.cI 0 rfl)) rfl (nl (.thn (k1 _ _ (.seq fun _ k2 => .block (.seq fun _ k3 => .region (st (.mv (.t rfl)) rfl (st (.call (zmat_side) (.cons (.t rfl) .nil)) rfl (st (.not (.t rfl)) rfl (st (.mv (.t rfl)) rfl (stF rfl rfl (fun hg => .load1 (.t rfl) (i := 2) rfl ty3 rfl) rfl (stF rfl rfl (fun hg => .call (zmat_side) (.cons (Has.g rfl hg) .nil)) rfl (stF rfl rfl (fun hg => .not (Has.g rfl hg)) rfl (st (.pickOr (.t rfl) (fun h => Has.g rfl (ng h))) rfl (st (.as (.t rfl)) rfl (nl (.thn (k3 _ _ (.cv (Cv.wk (.l [0, 4, 5, 6, 7, 8] rfl)) (.cond (.t rfl) (fun hc1 => ?_) (fun hc1 => ?_)))))))))))))))))))))
 ·have hc1 := BP.t hc1
  omega
 ·have hc1 := BP.f hc1
  refine .seq fun _ k4 => .region (st (.load1 (.t rfl) (i := 1) rfl ty94 rfl) rfl (st (.len sl94 (.t rfl)) rfl (st (.mv (.t rfl)) rfl (st (.load1 (.t rfl) (i := 2) rfl ty3 rfl) rfl (st (.mulI (.t rfl) (.t rfl) (by rw [hcp]; omega) (by rw [hcp]; omega)) rfl ?_)))))
  refine st (.neI (.t rfl) (.t rfl)) rfl (st (.as (.t rfl)) rfl (nl (.thn (k4 _ _ (.cv (Cv.wk (.l [0, 4, 5, 6, 7, 18] rfl)) (.cond (.t rfl) (fun hc2 => ?_) (fun hc2 => ?_)))))))
  ·have hc2 := BP.t hc2
   rw [hcp] at hc2; omega
  ·have hc2 := BP.f hc2
   refine .skip (.bln (.thn (k2 _ _ (.seq fun _ k5 => .region (st (.mv (.t rfl)) rfl (st (.load1 (.t rfl) (i := 2) rfl ty3 rfl) rfl (.cv (Cv.freezeBox (t := 5) (i := 1) rfl rfl rfl) (.memEq (M' := [_, _]) rfl (.cv (Cv.wk (.l [0, 4, 5, 6, 7, 18, 26, 27] rfl)) (.cv (Cv.freezeBox (t := 4) (i := 1) rfl rfl rfl) (.memEq (M' := [_]) rfl (.cv (Cv.wk (.l [0, 4, 5, 6, 7, 18, 26, 27] rfl)) (st (.makeFn (ι := PI R C) (As := fun p => [isI (p.1.1 : Int), isI (p.1.2 : Int)]) (R := fun p => Flat (zc (nz (cf l (p.1.1 * C + p.1.2))))) (fun p => zmat_Of_1 (by omega) (by rw [hl]; exact place_lt p.2.1 p.2.2)) .nil (.cons (.t rfl) (.cons (.t rfl) .nil))) rfl ?_)))))))))))))
   refine st (.call (zmat_made (f := fun i k => nz (cf l (i * C + k))) hR hC (fun i k _ _ => by rw [val_words]; exact Nat.le_trans (bd64 hb _) (by decide))) (.cons (.t rfl) (.cons (.t rfl) (.cons (.t rfl) .nil)))) rfl ?_
   refine .store (.t rfl) (.t rfl) (i := 0) rfl ty27 rfl rfl (Ss' := [_, _, _]) rfl (M' := [(some _, cellM [_, _, _])]) rfl (st (.as (.cI 0 rfl)) rfl (nl (.thn (k5 _ _ (.cv (Cv.wk (.l [6, 7] rfl)) (.ret (rtN (.inl rfl) Tryz.results25 rfl rfl (.cell rfl (i := 0) rfl ty27 rfl ?_ (.tmp (Has.t' rfl ?_) .nil)))))))))
   ·exact isMz_eq (by rw [zvz fun i k => cf l (i * C + k)])
   ·rfl
theorem zmat_At {R C i k : Nat} {xs : List (Bool × List Nat)} {K : Nat} (hx : Bd (vals xs) K) (hK : K ≤ 4000000000) (hR : R ≤ 64) (hC : C ≤ 64) (hl : xs.length = R * C) (hi : i < R) (hk : k < C) : Ctr Tryz.prog 16 [isM (R : Int) (C : Int) xs, isI (i : Int), isI (k : Int)] (isZ (cf (vals xs) (i * C + k))) := by
 refine Ctr.intro Tryz.func16 rfl (by kernel_rfl) Tryz.ntmps16 rfl fun w0 F0 => .cv (Cv.wk (.l [0, 1, 2] rfl)) (.fact (Has.rngI (Has.t (t := 1) rfl)) fun lt1 => .fact (Has.rngI (Has.t (t := 2) rfl)) fun lt2 => ?_)
 have hRC := side_le hR hC
 have hpl := place_lt hi hk
 have hfo := formB_true hR hC hl
 have hxr := hx.raw (i * C + k)
 refine .seq fun _ k1 => .region (.box (.t rfl) rfl fun b1 => .alloc [isB false, SlM isU []] zero36 (fun _ _ => ⟨rfl, nilM _ _, trivial⟩) rfl fun b2 => nl (.thn (k1 _ _ (.seq fun _ k2 => .seq fun _ k3 => .region (st (.load (.t rfl) (i := 1) rfl ty27 rfl (Ss' := [_, _, _]) rfl) rfl (st (.eq (.call (zmat_Formed) (.cons (.t rfl) .nil)) ((show isB _ = isB true from isB_eq hfo))) rfl (st (.not (.t rfl)) rfl (st (.mv (.t rfl)) rfl (stF rfl rfl (fun hg => .load (.t rfl) (i := 1) rfl ty27 rfl (Ss' := [_, _, _]) rfl) rfl (stF rfl rfl (fun hg => .mv (.t rfl)) rfl (stF rfl rfl (fun hg => .call (zmat_has) (.cons (Has.g rfl hg) (.cons (Has.g rfl hg) .nil))) rfl (stF rfl rfl (fun hg => .not (Has.g rfl hg)) rfl (st (.pickOr (.t rfl) (fun h => Has.g rfl (ng h))) rfl (st (.mv (.t rfl)) rfl (stF rfl rfl (fun hg => .mv (.t rfl)) rfl (stF rfl rfl (fun hg => .ltI (Has.g rfl hg) (.cI 0 rfl)) rfl (st (.pickOr (.t rfl) (fun h => Has.g rfl (ng h))) rfl (st (.mv (.t rfl)) rfl (stF rfl rfl (fun hg => .mv (.t rfl)) rfl (stF rfl rfl (fun hg => .fieldAddr (.t rfl) fld27_1 ty3) rfl (stF rfl rfl (fun hg => .load1 (Has.g rfl hg) (i := 1) rfl ty3 rfl) rfl (stF rfl rfl (fun hg => .geI (Has.g rfl hg) (Has.g rfl hg)) rfl (st (.pickOr (.t rfl) (fun h => Has.g rfl (ng h))) rfl (nl (.thn (k3 _ _ (.cv (Cv.wk (.l [1, 2, 3, 6, 26] rfl)) ?_)))))))))))))))))))))))))))
 refine .cond (.t rfl) (fun hc1 => ?_) (fun hc1 => ?_)
 ·have hc1 := BP.t hc1
  simp at hc1; omega
 ·have hc1 := BP.f hc1
  refine .skip (.thn (k2 _ _ (.seq fun _ k4 => .region (st (.load (.t rfl) (i := 1) rfl ty27 rfl (Ss' := [_, _, _]) rfl) rfl (st (.mv (.t rfl)) rfl (st (.mv (.t rfl)) rfl (st (.call (zmat_get (i := i) (k := k) (by omega) (by omega)) (.cons (.t rfl) (.cons (.t rfl) (.cons (.t rfl) .nil)))) rfl (.alloc [isB false, SlM isU []] zero36 (fun _ _ => ⟨rfl, nilM _ _, trivial⟩) rfl fun b3 => .store (.t rfl) (.t rfl) (i := 0) rfl ty36 rfl rfl (Ss' := [_, _]) rfl (M' := [(some _, cellM [_, _]), _, _]) rfl (nl (.thn (k4 _ _ (.cv (Cv.wk (.l [6, 7] rfl)) (.seq fun _ k5 => .region (st (.fieldAddr (.t rfl) fld36_1 ty34) rfl (st (.load1 (.t rfl) (i := 0) rfl ty34 rfl) rfl (st (.fieldAddr (.t rfl) fld36_0 ty4) rfl (st (.load1 (.t rfl) (i := 0) rfl ty4 rfl) rfl (st (.call (zint_From (by omega)) (.cons (.t rfl) (.cons (.t rfl) .nil))) rfl (.store (.t rfl) (.t rfl) (i := 1) rfl ty36 rfl rfl (Ss' := [_, _]) rfl (M' := [_, (some _, cellM [_, _]), _]) rfl (nl (.thn (k5 _ _ (.cv (Cv.wk (.l [6] rfl)) (.ret (rt1 (.inl rfl) Tryz.results16 rfl (.cell rfl (i := 1) rfl ty36 rfl ?_ .nil))))))))))))))))))))))))))
  all_goals (exact isZ_eq (by rw [cf_vals]))
theorem zmat_Mul_1 {R C D i k K L : Nat} {xs ys : List (Bool × List Nat)} (hx : Bd (vals xs) K) (hy : Bd (vals ys) L) (hK : K + L ≤ 400000000) (hC : C ≤ 64) (hxl : xs.length = R * C) (hyl : ys.length = C * D) (hxm : xs.length ≤ 4096) (hym : ys.length ≤ 4096) (hi : i < R) (hk : k < D) : Ctr Tryz.prog 72 [isI (i : Int), isI (k : Int), ptM (R : Int) (C : Int) xs, ptM (C : Int) (D : Int) ys] (isZ (dotS (fun j => cf (vals xs) (i * C + j)) (fun j => cf (vals ys) (j * D + k)) C)) := by
 refine Ctr.intro Tryz.func72 rfl (by kernel_rfl) Tryz.ntmps72 rfl fun w0 F0 => .cv (Cv.wk (.l [0, 1, 2, 3] rfl)) (.fact (Has.rngI (Has.t (t := 0) rfl)) fun lt0 => .fact (Has.rngI (Has.t (t := 1) rfl)) fun lt1 => ?_)
 obtain ⟨f, hf⟩ : ∃ f : Nat → Int, f = fun j => cf (vals xs) (i * C + j) := ⟨_, rfl⟩
 obtain ⟨g, hg⟩ : ∃ g : Nat → Int, g = fun j => cf (vals ys) (j * D + k) := ⟨_, rfl⟩
 rw [← hf, ← hg]
 refine .seq fun _ k1 => .region (.alloc [isB false, SlM isU []] zero36 (fun _ _ => ⟨rfl, nilM _ _, trivial⟩) rfl fun b1 => nl (.thn (k1 _ _ (.seq fun _ k2 => .region (.alloc [isB false, SlM isU []] zero36 (fun _ _ => ⟨rfl, nilM _ _, trivial⟩) rfl fun b2 => nl (.thn (k2 _ _ (.seq fun _ k3 => .seq fun _ k4 => .region (st (.fieldAddrP (.t rfl) fld27_1 ty3 (Ss' := [_, _]) rfl) rfl (st (.loadP1 (.t rfl) ty3) rfl (st (.mv (.cI 0 rfl)) rfl (nl (.thn (k4 _ _ (.block (.loopF [0, 1, 2, 3, 6, 7, 10] (fun (z : { j : Nat // j ≤ C }) => match z with | ⟨j, hj⟩ => [(11, isI (j : Int))]) (fun M => fun (z : { j : Nat // j ≤ C }) => match z with | ⟨j, hj⟩ => [zM b2 (dotS f g j), (some b1, cellM [isB false, SlM isU []])]) (fun (z : { j : Nat // j ≤ C }) => match z with | ⟨j, hj⟩ => C - j) (⟨0, Nat.zero_le _⟩) (Cv.mem (.c 11 rfl ?_ (.l [0, 1, 2, 3, 6, 7, 10] rfl)) ?_) ?_))))))))))))))))
 ·rfl
 ·exact zM0
 rintro ⟨j, hj⟩ K5 hK5
 refine .cv (Cv.wk (.l [11, 0, 1, 2, 3, 6, 7, 10] rfl)) (.memEq (M' := [zM b2 (dotS f g j), (some b1, cellM [isB false, SlM isU []])]) rfl ?_)
 have hds := dotS_nw (f := f) (g := g) (K := K) (L := L) (fun j => by rw [hf]; exact hx _) (fun j => by rw [hg]; exact hy _) j
 refine .seq fun _ k6 => .region (st (.ltI (.t rfl) (.t rfl)) rfl (nl (.thn (k6 _ _ (.seq fun _ k7 => .cond (.t rfl) (fun hc1 => ?_) (fun hc1 => ?_))))))
 ·have hc1 := BP.t hc1
  have hj2 : j < C := (by omega)
  have hp1 := place_lt hi hj2
  have hp2 := place_lt hj2 hk
  have hxr := hx.raw (i * C + j)
  have hyr := hy.raw (j * D + k)
  have hfj : f j = cf (vals xs) (i * C + j) := by rw [hf]
  have hgj : g j = cf (vals ys) (j * D + k) := by rw [hg]
  have hfk := hx (i * C + j)
  have hgk := hy (j * D + k)
  have hmm := nz_mul (f j) (g j)
  rw [← hfj] at hfk
  rw [← hgj] at hgk
  refine .skip (.thn (k7 _ _ (.seq fun _ k8 => .block (.seq fun _ k9 => .region (st (.mv (.t rfl)) rfl (st (.as (.t rfl)) rfl (nl (.thn (k9 _ _ (.dr (.s [] rfl rfl rfl (.o rfl (.load (.t rfl) (i := 0) rfl ty36 rfl (Ss' := [_, _]) rfl)) (.s [] rfl rfl rfl (.o rfl (.loadP (.t rfl) ty27 rfl (Ss' := [_, _, _]) rfl)) (.s [] rfl rfl rfl (.o rfl (.mv (.t rfl))) (.s [] rfl rfl rfl (.o rfl (.mv (.t rfl))) (.s [15, 16, 17] rfl rfl rfl (.o rfl (.call (zmat_get (i := i) (k := j) hxm (by omega)) (.cons (.t rfl) (.cons (.t rfl) (.cons (.t rfl) .nil))))) (.s [] rfl rfl rfl (.o rfl (.loadP (.t rfl) ty27 rfl (Ss' := [_, _, _]) rfl)) (.s [] rfl rfl rfl (.o rfl (.mv (.t rfl))) (.s [] rfl rfl rfl (.o rfl (.mv (.t rfl))) (.s [19, 20, 21] rfl rfl rfl (.o rfl (.call (zmat_get (i := j) (k := k) hym (by omega)) (.cons (.t rfl) (.cons (.t rfl) (.cons (.t rfl) .nil))))) (.s [18, 22] rfl rfl rfl (.o rfl (.eq (.call (zint_Mul (by omega) (by omega)) (.cons (.t rfl) (.cons (.t rfl) .nil))) ((show isZ _ = isZ (f j * g j) from isZ_eq (by rw [hfj, hgj, cf_vals, cf_vals]))))) (.fin (n := 10) mixed (by kernel_rfl) (by kernel_rfl) (by kernel_rfl) (.cv (Cv.wk (.l [0, 1, 2, 3, 6, 7, 10, 11, 12, 13, 8, 14, 15, 16, 17, 18, 19, 20, 21, 22, 23] rfl)) (st (.eq (.call (zint_Add (by rw [val_words]; omega) (by rw [val_words]; omega)) (.cons (.t rfl) (.cons (.t rfl) .nil))) ((show isZ _ = isZ (dotS f g j + f j * g j) from isZ_eq (by simp only [zv_nf])))) rfl ?_)))))))))))))))))))))))
  refine .store (.t rfl) (.t rfl) (i := 0) rfl ty36 rfl rfl (Ss' := [_, _]) rfl (M' := [(some _, cellM [_, _]), _]) rfl (nl (.bln (.thn (k8 _ _ (.region (st (.addI (.t rfl) (.cI 1 rfl) (by omega) (by omega)) rfl (st (.mv (.t rfl)) rfl (nl (.thn (hK5 (⟨j + 1, by omega⟩) _ _ ?_ (Cv.mem (.c 11 rfl ?_ (.l [0, 1, 2, 3, 6, 7, 10] rfl)) ?_)))))))))))
  ·show C - (j + 1) < C - j; omega
  ·exact isI_eq (by omega)
  ·rfl
 ·have hc1 := BP.f hc1
  refine .exit (.the (.the (.blh (.thn (k3 _ _ (.cv (Cv.wk (.l [6, 7] rfl)) (.seq fun _ k10 => .region (st (.load (.t rfl) (i := 0) rfl ty36 rfl (Ss' := [_, _]) rfl) rfl (.store (.t rfl) (.t rfl) (i := 1) rfl ty36 rfl rfl (Ss' := [_, _]) rfl (M' := [_, (some _, cellM [_, _])]) rfl (nl (.thn (k10 _ _ (.ret (rt1 (.inl rfl) Tryz.results72 rfl (.cell rfl (i := 1) rfl ty36 rfl ?_ .nil)))))))))))))))
  all_goals (exact isZ_eq (by rw [show j = C by omega]))
theorem zmat_Mul {R C D K L : Nat} {xs ys : List (Bool × List Nat)} (hx : Bd (vals xs) K) (hy : Bd (vals ys) L) (hK : K + L ≤ 400000000) (hR : R ≤ 64) (hC : C ≤ 64) (hD : D ≤ 64) (hxl : xs.length = R * C) (hyl : ys.length = C * D) : Ctr Tryz.prog 39 [isM (R : Int) (C : Int) xs, isM (C : Int) (D : Int) ys] (isTup [isMz R D (tab (R * D) D fun i k => dotS (fun j => cf (vals xs) (i * C + j)) (fun j => cf (vals ys) (j * D + k)) C), isI 0]) := by
 refine Ctr.intro Tryz.func39 rfl (by kernel_rfl) Tryz.ntmps39 rfl fun w0 F0 => .cv (Cv.wk (.l [0, 1] rfl)) ?_
 have h1 := side_le hR hC
 have h2 := side_le hC hD
 have hf1 := formB_true hR hC hxl
 have hf2 := formB_true hC hD hyl
 refine .seq fun _ k1 => .region (.box (.t rfl) rfl fun b1 => .box (.t rfl) rfl fun b2 => .alloc [isI 0, isI 0, nilS] zero27 (fun _ _ => ⟨⟨rfl, by decide, by decide⟩, ⟨rfl, by decide, by decide⟩, rfl, trivial⟩) rfl fun b3 => st (.as (.cI 0 rfl)) rfl (nl (.thn (k1 _ _ (.seq fun _ k2 => .seq fun _ k3 => .region (st (.load (.t rfl) (i := 2) rfl ty27 rfl (Ss' := [_, _, _]) rfl) rfl (st (.eq (.call (zmat_Formed) (.cons (.t rfl) .nil)) ((show isB _ = isB true from isB_eq hf1))) rfl (st (.not (.t rfl)) rfl (st (.mv (.t rfl)) rfl (stF rfl rfl (fun hg => .load (.t rfl) (i := 1) rfl ty27 rfl (Ss' := [_, _, _]) rfl) rfl (stF rfl rfl (fun hg => .eq (.call (zmat_Formed) (.cons (Has.g rfl hg) .nil)) ((show isB _ = isB true from isB_eq hf2))) rfl (stF rfl rfl (fun hg => .not (Has.g rfl hg)) rfl (st (.pickOr (.t rfl) (fun h => Has.g rfl (ng h))) rfl (st (.mv (.t rfl)) rfl (stF rfl rfl (fun hg => .fieldAddr (.t rfl) fld27_1 ty3) rfl (stF rfl rfl (fun hg => .load1 (Has.g rfl hg) (i := 2) rfl ty3 rfl) rfl (stF rfl rfl (fun hg => .fieldAddr (.t rfl) fld27_0 ty3) rfl (stF rfl rfl (fun hg => .load1 (Has.g rfl hg) (i := 1) rfl ty3 rfl) rfl (stF rfl rfl (fun hg => .neI (Has.g rfl hg) (Has.g rfl hg)) rfl (st (.pickOr (.t rfl) (fun h => Has.g rfl (ng h))) rfl (nl (.thn (k3 _ _ (.cv (Cv.wk (.l [2, 3, 4, 5, 20] rfl)) (.cond (.t rfl) (fun hc1 => ?_) (fun hc1 => ?_))))))))))))))))))))))))))
 ·have hc1 := BP.t hc1
  simp at hc1
 ·have hc1 := BP.f hc1
  refine .skip (.thn (k2 _ _ (.seq fun _ k4 => .region (st (.fieldAddr (.t rfl) fld27_0 ty3) rfl (st (.load1 (.t rfl) (i := 2) rfl ty3 rfl) rfl (st (.fieldAddr (.t rfl) fld27_1 ty3) rfl (st (.load1 (.t rfl) (i := 1) rfl ty3 rfl) rfl (.cv (Cv.freezeBox (t := 2) (i := 2) rfl rfl rfl) (.memEq (M' := [_, _]) rfl (.cv (Cv.wk (.l [2, 3, 4, 5, 20, 23, 24, 25] rfl)) (.cv (Cv.freezeBox (t := 3) (i := 1) rfl rfl rfl) (.memEq (M' := [_]) rfl (.cv (Cv.wk (.l [2, 3, 4, 5, 20, 23, 25] rfl)) (st (.makeFn (ι := PI R D) (As := fun p => [isI (p.1.1 : Int), isI (p.1.2 : Int)]) (R := fun p => Flat (zc (nz (dotS (fun j => cf (vals xs) (p.1.1 * C + j)) (fun j => cf (vals ys) (j * D + p.1.2)) C)))) (fun p => zmat_Mul_1 hx hy hK hC hxl hyl (by omega) (by omega) p.2.1 p.2.2) .nil (.cons (.t rfl) (.cons (.t rfl) .nil))) rfl ?_))))))))))))))
  refine st (.call (zmat_made (f := fun i k => nz (dotS (fun j => cf (vals xs) (i * C + j)) (fun j => cf (vals ys) (j * D + k)) C)) hR hD (fun i k _ _ => by rw [val_words]; have := dotS_nw (f := fun j => cf (vals xs) (i * C + j)) (g := fun j => cf (vals ys) (j * D + k)) (fun j => hx _) (fun j => hy _) C; omega)) (.cons (.t rfl) (.cons (.t rfl) (.cons (.t rfl) .nil)))) rfl ?_
  refine .store (.t rfl) (.t rfl) (i := 0) rfl ty27 rfl rfl (Ss' := [_, _, _]) rfl (M' := [(some _, cellM [_, _, _])]) rfl (st (.as (.cI 0 rfl)) rfl (nl (.thn (k4 _ _ (.cv (Cv.wk (.l [4, 5] rfl)) (.ret (rtN (.inl rfl) Tryz.results39 rfl rfl (.cell rfl (i := 0) rfl ty27 rfl ?_ (.tmp (Has.t' rfl ?_) .nil)))))))))
  ·exact isMz_eq (by rw [zvz fun i k => dotS (fun j => cf (vals xs) (i * C + j)) (fun j => cf (vals ys) (j * D + k)) C])
  ·rfl
end Go.Proofs.YtcfobalbkhgdmaaGreat
namespace Go.Dt
abbrev MatF : Type := Nat → Nat → Int
def sm : Nat → (Nat → Int) → Int
 | 0, _ => 0
 | n + 1, f => sm n f + f n
theorem sm_congr {f g : Nat → Int} : ∀ {n : Nat}, (∀ i, i < n → f i = g i) → sm n f = sm n g
  | 0, _ => rfl
  | n + 1, h => by
    show sm n f + f n = sm n g + g n
    rw [sm_congr (n := n) fun i hi => h i (by omega), h n (by omega)]
theorem sm_zero {f : Nat → Int} {n : Nat} (h : ∀ i, i < n → f i = 0) : sm n f = 0 := by
 have e : sm n f = sm n (fun _ => 0) := sm_congr h
 rw [e]
 induction n with
 | zero => rfl
 | succ n ih => show sm n _ + 0 = 0; rw [ih (fun i hi => h i (by omega)) (sm_congr fun i hi => h i (by omega))]; rfl
theorem sm_lin (x y : Int) (f g : Nat → Int) : ∀ n : Nat, sm n (fun i => x * f i + y * g i) = x * sm n f + y * sm n g
  | 0 => by show (0 : Int) = x * 0 + y * 0; omega
  | n + 1 => by
    show sm n _ + (x * f n + y * g n) = x * (sm n f + f n) + y * (sm n g + g n)
    rw [sm_lin x y f g n, Int.mul_add, Int.mul_add]; omega
theorem sm_smul (x : Int) (f : Nat → Int) (n : Nat) : sm n (fun i => x * f i) = x * sm n f := by
 have h := sm_lin x 0 f f n
 rw [Int.zero_mul, Int.add_zero] at h
 rw [← h]
 exact sm_congr fun i _ => by rw [Int.zero_mul, Int.add_zero]
theorem sm_add (f g : Nat → Int) (n : Nat) : sm n (fun i => f i + g i) = sm n f + sm n g := by
 have h := sm_lin 1 1 f g n
 rw [Int.one_mul, Int.one_mul] at h
 rw [← h]
 exact sm_congr fun i _ => by rw [Int.one_mul, Int.one_mul]
theorem sm_one {f : Nat → Int} {n c : Nat} (hc : c < n) (h : ∀ i, i < n → i ≠ c → f i = 0) : sm n f = f c := by
  induction n with
  | zero => omega
  | succ n ih =>
    show sm n f + f n = f c
    by_cases e : c = n
    · subst e
      rw [sm_zero fun i hi => h i (by omega) (by omega)]; omega
    · rw [ih (by omega) fun i hi => h i (by omega), h n (by omega) (by omega)]; omega
theorem sm_two {f : Nat → Int} {n c : Nat} (hc : c + 1 < n) (h2 : f c + f (c + 1) = 0) (h : ∀ i, i < n → i ≠ c → i ≠ c + 1 → f i = 0) : sm n f = 0 := by
  induction n with
  | zero => omega
  | succ n ih =>
    show sm n f + f n = 0
    by_cases e : c + 1 = n
    · subst e
      rw [sm_one (c := c) (by omega) fun i hi hne => h i (by omega) hne (by omega)]; exact h2
    · rw [ih (by omega) fun i hi => h i (by omega), h n (by omega) (by omega) (by omega)]; rfl
theorem sm_swap (f : Nat → Nat → Int) (m : Nat) : ∀ n : Nat, sm n (fun i => sm m fun j => f i j) = sm m (fun j => sm n fun i => f i j)
  | 0 => (sm_zero fun _ _ => rfl).symm
  | n + 1 => by
    show sm n _ + sm m _ = sm m fun j => sm n (fun i => f i j) + f n j
    rw [sm_swap f m n, ← sm_add]
def sg (k : Nat) : Int := if k % 2 = 1 then -1 else 1
theorem sg_succ (k : Nat) : sg (k + 1) = - sg k := by
 unfold sg
 rcases Nat.mod_two_eq_zero_or_one k with h | h
 ·rw [if_pos (by omega), if_neg (by omega)]
 ·rw [if_neg (by omega), if_pos h]; rfl
def skip (k j : Nat) : Nat := if j < k then j else j + 1
def unskip (k j : Nat) : Nat := if j < k then j else j - 1
theorem skip_ne (k j : Nat) : skip k j ≠ k := by unfold skip; split <;> omega
theorem unskip_skip (k j : Nat) : unskip k (skip k j) = j := by unfold unskip skip; (repeat' split) <;> omega
theorem skip_unskip {k j : Nat} (h : j ≠ k) : skip k (unskip k j) = j := by unfold unskip skip; (repeat' split) <;> omega
theorem skip_lt {k j n : Nat} (h : j < n) : skip k j < n + 1 := by unfold skip; split <;> omega
theorem unskip_lt {k j n : Nat} (h : j < n + 1) (hk : k < n + 1) (hne : j ≠ k) : unskip k j < n := by unfold unskip; split <;> omega
theorem skip_eq {k j c : Nat} (h : c ≠ k) : skip k j = c ↔ j = unskip k c := ⟨fun e => by rw [← e, unskip_skip], fun e => by rw [e, skip_unskip h]⟩
def det : Nat → MatF → Int
 | 0, _ => 1
 | n + 1, A => sm (n + 1) fun k => sg k * (A 0 k * det n fun i j => A (i + 1) (skip k j))
theorem det_succ (n : Nat) (A : MatF) : det (n + 1) A = sm (n + 1) fun k => sg k * (A 0 k * det n fun i j => A (i + 1) (skip k j)) := rfl
theorem det_congr : ∀ {n : Nat} {A B : MatF}, (∀ i j, i < n → j < n → A i j = B i j) → det n A = det n B
  | 0, _, _, _ => rfl
  | n + 1, A, B, h => sm_congr fun k hk => by
    rw [h 0 k (by omega) hk, det_congr (n := n) fun i j hi hj => h (i + 1) (skip k j) (by omega) (skip_lt hj)]
def setc (A : MatF) (c : Nat) (v : Nat → Int) : MatF := fun i j => if j = c then v i else A i j
def setr (A : MatF) (r : Nat) (v : Nat → Int) : MatF := fun i j => if i = r then v j else A i j
theorem setc_min (A : MatF) (c : Nat) (v : Nat → Int) {k : Nat} (h : c ≠ k) : (fun i j => setc A c v (i + 1) (skip k j)) = setc (fun i j => A (i + 1) (skip k j)) (unskip k c) (fun i => v (i + 1)) := by
 funext i j
 unfold setc
 by_cases e : j = unskip k c
 ·rw [if_pos e, if_pos ((skip_eq h).2 e)]
 ·rw [if_neg e, if_neg fun e2 => e ((skip_eq h).1 e2)]
theorem setc_off (A : MatF) (k : Nat) (v : Nat → Int) : (fun i j => setc A k v (i + 1) (skip k j)) = fun i j => A (i + 1) (skip k j) := by
 funext i j
 exact if_neg (skip_ne k j)
theorem det_col (x y : Int) (u v : Nat → Int) : ∀ {n : Nat} (A : MatF) (c : Nat), c < n → det n (setc A c fun i => x * u i + y * v i) = x * det n (setc A c u) + y * det n (setc A c v)
  | 0, _, _, h => by omega
  | n + 1, A, c, h => by
    rw [det_succ, det_succ, det_succ, ← sm_lin]
    refine sm_congr fun k hk => ?_
    by_cases e : k = c
    · subst e
      rw [setc_off, setc_off, setc_off]
      have h1 : ∀ w : Nat → Int, setc A k w 0 k = w 0 := fun w => if_pos rfl
      rw [h1, h1, h1]
      generalize det n (fun i j => A (i + 1) (skip k j)) = d
      generalize sg k = s
      rw [Int.add_mul, Int.mul_add, Int.mul_assoc, Int.mul_assoc, Int.mul_left_comm s x, Int.mul_left_comm s y]
    · have hc : c ≠ k := fun e2 => e e2.symm
      rw [setc_min _ _ _ hc, setc_min _ _ _ hc, setc_min _ _ _ hc, det_col x y _ _ _ _ (unskip_lt h hk hc)]
      have h1 : ∀ w : Nat → Int, setc A c w 0 k = A 0 k := fun w => if_neg e
      rw [h1, h1, h1]
      generalize sg k = s
      generalize A 0 k = a
      rw [Int.mul_add, Int.mul_add, Int.mul_left_comm a x, Int.mul_left_comm a y, Int.mul_left_comm s x, Int.mul_left_comm s y]
theorem det_cols_eq : ∀ {n : Nat} (A : MatF) (c : Nat), c + 1 < n → (∀ i, i < n → A i c = A i (c + 1)) → det n A = 0
  | 0, _, _, h, _ => by omega
  | n + 1, A, c, h, hA => by
    rw [det_succ]
    refine sm_two h ?_ fun k hk h1 h2 => ?_
    · rw [← hA 0 (by omega), sg_succ]
      have e : det n (fun i j => A (i + 1) (skip c j)) = det n (fun i j => A (i + 1) (skip (c + 1) j)) := det_congr fun i j hi hj => by
        unfold skip
        by_cases e1 : j < c
        · rw [if_pos e1, if_pos (by omega)]
        · rw [if_neg e1]
          by_cases e2 : j < c + 1
          · rw [if_pos e2]
            obtain rfl : j = c := by omega
            exact (hA (i + 1) (by omega)).symm
          · rw [if_neg e2]
      rw [e, Int.neg_mul]; omega
    · have hu : unskip k (c + 1) = unskip k c + 1 := by unfold unskip; split <;> split <;> omega
      rw [det_cols_eq (n := n) _ (unskip k c) (by have := unskip_lt h hk (fun e => h2 e.symm); omega) fun i hi => ?_, Int.mul_zero, Int.mul_zero]
      rw [← hu, skip_unskip (fun e => h1 e.symm), skip_unskip (fun e => h2 e.symm)]
      exact hA (i + 1) (by omega)
def one : MatF := fun i j => if i = j then 1 else 0
theorem det_one : ∀ n : Nat, det n one = 1
  | 0 => rfl
  | n + 1 => by
    rw [det_succ, sm_one (c := 0) (by omega) fun k hk hne => ?_]
    · have e : det n (fun i j => one (i + 1) (skip 0 j)) = det n one := det_congr fun i j _ _ => by
        unfold one skip
        repeat' split
        all_goals omega
      rw [e, det_one n]; rfl
    · have e : one 0 k = 0 := if_neg (by omega)
      rw [e, Int.zero_mul, Int.mul_zero]
structure RowF (n : Nat) (F : MatF → Int) : Prop where
 congr : ∀ {A B : MatF}, (∀ i j, i < n → j < n → A i j = B i j) → F A = F B
 lin : ∀ (A : MatF) (r : Nat) (x y : Int) (u v : Nat → Int), r < n → F (setr A r fun j => x * u j + y * v j) = x * F (setr A r u) + y * F (setr A r v)
 alt : ∀ (A : MatF) (r : Nat), r + 1 < n → (∀ j, j < n → A r j = A (r + 1) j) → F A = 0
namespace RowF
variable {n : Nat} {F : MatF → Int}
theorem set_self (A : MatF) (r : Nat) : setr A r (A r) = A := by
 funext i j; unfold setr; split
 ·rename_i e; rw [e]
 ·rfl
theorem set_set (A : MatF) (r : Nat) (u v : Nat → Int) : setr (setr A r u) r v = setr A r v := by
 funext i j; unfold setr; split <;> rfl
theorem set_comm (A : MatF) {r s : Nat} (h : r ≠ s) (u v : Nat → Int) : setr (setr A r u) s v = setr (setr A s v) r u := by
 funext i j; unfold setr
 by_cases e1 : i = s
 ·rw [if_pos e1, if_neg (by omega), if_pos e1]
 ·rw [if_neg e1, if_neg e1]
theorem set_at (A : MatF) (r : Nat) (u : Nat → Int) : setr A r u r = u := by funext j; exact if_pos rfl
theorem set_ne (A : MatF) {r s : Nat} (h : s ≠ r) (u : Nat → Int) : setr A r u s = A s := by funext j; exact if_neg h
theorem zero (h : RowF n F) {A : MatF} {r : Nat} (hr : r < n) (hz : ∀ j, j < n → A r j = 0) : F A = 0 := by
 have e : F A = F (setr A r fun j => 0 * A r j + 0 * A r j) := h.congr fun i j _ hj => by
  unfold setr; split
  ·rename_i e; show _ = 0 * A r j + 0 * A r j; rw [e, hz j hj]; rfl
  ·rfl
 rw [e, h.lin A r 0 0 _ _ hr]; omega
theorem add (h : RowF n F) (A : MatF) {r : Nat} (hr : r < n) (u v : Nat → Int) : F (setr A r fun j => u j + v j) = F (setr A r u) + F (setr A r v) := by
 have e := h.lin A r 1 1 u v hr
 rw [Int.one_mul, Int.one_mul] at e
 rw [← e]
 congr 2; funext j; omega
theorem smul (h : RowF n F) (A : MatF) {r : Nat} (hr : r < n) (x : Int) (u : Nat → Int) : F (setr A r fun j => x * u j) = x * F (setr A r u) := by
 have e := h.lin A r x 0 u u hr
 rw [Int.zero_mul, Int.add_zero] at e
 rw [← e]
 congr 2; funext j; omega
theorem sum (h : RowF n F) (A : MatF) {r : Nat} (hr : r < n) (c : Nat → Int) (u : Nat → Nat → Int) : ∀ m : Nat, F (setr A r fun j => sm m fun k => c k * u k j) = sm m fun k => c k * F (setr A r (u k))
  | 0 => h.zero (A := setr A r _) hr fun j _ => by rw [set_at]; rfl
  | m + 1 => by
    show F (setr A r fun j => sm m (fun k => c k * u k j) + c m * u m j) = _
    rw [h.add A hr, sum h A hr c u m, h.smul A hr]; rfl
theorem two (h : RowF n F) (A : MatF) {r s : Nat} (hr : r < n) (hs : s < n) (hne : r ≠ s) (heq : ∀ u : Nat → Int, F (setr (setr A r u) s u) = 0) (u v : Nat → Int) : F (setr (setr A r u) s v) = - F (setr (setr A r v) s u) := by
 have e := heq fun j => u j + v j
 rw [h.add _ hs, set_comm _ hne, set_comm _ hne, h.add _ hr, h.add _ hr, ← set_comm _ hne, ← set_comm _ hne, ← set_comm _ hne, ← set_comm _ hne, heq u, heq v] at e
 omega
theorem swap1 (h : RowF n F) (A : MatF) {r : Nat} (hr : r + 1 < n) (u v : Nat → Int) : F (setr (setr A r u) (r + 1) v) = - F (setr (setr A r v) (r + 1) u) :=
 h.two A (by omega) hr (by omega) (fun u => h.alt _ r hr fun j _ => by rw [set_at, set_ne _ (by omega), set_at]) u v
theorem same (h : RowF n F) : ∀ (d : Nat) (A : MatF) (r : Nat), r + 1 + d < n → (∀ j, j < n → A r j = A (r + 1 + d) j) → F A = 0
  | 0, A, r, hr, hA => h.alt A r hr hA
  | d + 1, A, r, hr, hA => by
    have e : A = setr (setr A (r + 1 + d) (A (r + 1 + d))) (r + 1 + d + 1) (A (r + 1 + d + 1)) := by rw [set_self, set_self]
    rw [e, h.swap1 A (by omega), same h d _ r (by omega) fun j hj => ?_]
    · rfl
    · rw [set_ne _ (by omega), set_ne _ (by omega), set_ne _ (by omega), set_at, hA j hj]; rfl
theorem eqr (h : RowF n F) {A : MatF} {r s : Nat} (hr : r < n) (hs : s < n) (hne : r ≠ s) (hA : ∀ j, j < n → A r j = A s j) : F A = 0 := by
 rcases Nat.lt_or_gt_of_ne hne with hl | hl
 ·obtain ⟨d, rfl⟩ : ∃ d, s = r + 1 + d := ⟨s - r - 1, by omega⟩
  exact h.same d A r hs hA
 ·obtain ⟨d, rfl⟩ : ∃ d, r = s + 1 + d := ⟨r - s - 1, by omega⟩
  exact h.same d A s hr fun j hj => (hA j hj).symm
theorem swap (h : RowF n F) (A : MatF) {r s : Nat} (hr : r < n) (hs : s < n) (hne : r ≠ s) (u v : Nat → Int) : F (setr (setr A r u) s v) = - F (setr (setr A r v) s u) :=
 h.two A hr hs hne (fun u => h.eqr hr hs hne fun j _ => by rw [set_at, set_ne _ hne, set_at]) u v
theorem addrow (h : RowF n F) (A : MatF) {r s : Nat} (hr : r < n) (hs : s < n) (hne : r ≠ s) (x : Int) : F (setr A r fun j => A r j + x * A s j) = F A := by
 rw [h.add A hr, set_self, h.smul A hr, h.eqr hr hs hne (A := setr A r (A s)) fun j _ => by rw [set_at, set_ne _ (fun e => hne e.symm)]]; omega
def ins (k : Nat) (B : MatF) : MatF := fun i j => if i = 0 then (if j = k then 1 else 0) else if j = k then 0 else B (i - 1) (unskip k j)
theorem ins_zero (k : Nat) (B : MatF) (j : Nat) : ins k B 0 j = if j = k then 1 else 0 := rfl
theorem ins_succ (k : Nat) (B : MatF) (i j : Nat) : ins k B (i + 1) j = if j = k then 0 else B i (unskip k j) := rfl
theorem ins_set (k : Nat) (B : MatF) (r : Nat) (v : Nat → Int) : ins k (setr B r v) = setr (ins k B) (r + 1) (fun j => if j = k then 0 else v (unskip k j)) := by
  funext i j
  cases i with
  | zero => exact (if_neg (by omega)).symm
  | succ i =>
    show _ = if i + 1 = r + 1 then (if j = k then 0 else v (unskip k j)) else ins k B (i + 1) j
    rw [ins_succ, ins_succ]
    unfold setr
    by_cases e : i = r
    · rw [if_pos (c := i + 1 = r + 1) (by omega), if_pos e]
    · rw [if_neg (c := i + 1 = r + 1) (by omega), if_neg e]
theorem insF {F : MatF → Int} (h : RowF (n + 1) F) {k : Nat} (hk : k < n + 1) : RowF n fun B => F (ins k B) where
  congr {A B} e := h.congr fun i j hi hj => by
    cases i with
    | zero => rfl
    | succ i =>
      rw [ins_succ, ins_succ]
      by_cases h1 : j = k
      · rw [if_pos h1, if_pos h1]
      · rw [if_neg h1, if_neg h1]; exact e _ _ (by omega) (unskip_lt hj hk h1)
  lin A r x y u v hr := by
    simp only [ins_set]
    rw [← h.lin _ (r + 1) x y _ _ (by omega)]
    congr 2; funext j; split
    · omega
    · rfl
  alt A r hr e := h.alt _ (r + 1) (by omega) fun j hj => by
    rw [ins_succ, ins_succ]
    split
    · rfl
    · rename_i h1; exact e _ (unskip_lt hj hk h1)
theorem ins_one (h : RowF (n + 1) F) : ∀ k : Nat, k < n + 1 → F (ins k one) = sg k * F one
  | 0, _ => by
    have e : F (ins 0 one) = F one := h.congr fun i j _ _ => by
      unfold ins one unskip
      repeat' split
      all_goals omega
    rw [e]; show _ = 1 * _; omega
  | k + 1, hk => by
    have ih := ins_one h k (by omega)
    have e1 : ins k one = setr (setr (ins k one) 0 (ins k one 0)) (k + 1) (ins k one (k + 1)) := by rw [set_self, set_self]
    have e2 : F (ins (k + 1) one) = F (setr (setr (ins k one) 0 (ins k one (k + 1))) (k + 1) (ins k one 0)) := h.congr fun i j hi hj => by
      unfold setr
      by_cases hik : i = k + 1
      · rw [if_pos hik, hik, ins_zero, ins_succ]
        unfold one unskip
        repeat' split
        all_goals omega
      · rw [if_neg hik]
        cases i with
        | zero =>
          rw [if_pos rfl, ins_zero, ins_succ]
          unfold one unskip
          repeat' split
          all_goals omega
        | succ i =>
          rw [if_neg (by omega), ins_succ, ins_succ]
          unfold one unskip
          repeat' split
          all_goals omega
    have e3 : F (ins (k + 1) one) = - F (ins k one) := by rw [e2, h.swap _ (by omega) hk (by omega), ← e1]
    rw [e3, ih, sg_succ, Int.neg_mul]
def clrd (A : MatF) (k m : Nat) : MatF := fun i j => if i = 0 then (if j = k then 1 else 0) else if j = k ∧ i ≤ m then 0 else A i j
theorem clrd_F (h : RowF (n + 1) F) (A : MatF) {k : Nat} (hk : k < n + 1) : ∀ m : Nat, m ≤ n → F (clrd A k m) = F (clrd A k 0)
  | 0, _ => rfl
  | m + 1, hm => by
    rw [← clrd_F h A hk m (by omega), ← h.addrow (clrd A k m) (r := m + 1) (s := 0) (by omega) (by omega) (by omega) (- A (m + 1) k)]
    refine h.congr fun i j hi hj => ?_
    unfold setr
    by_cases e : i = m + 1
    · rw [if_pos e, e]
      show (if j = k ∧ m + 1 ≤ m + 1 then 0 else A (m + 1) j) = (if j = k ∧ m + 1 ≤ m then 0 else A (m + 1) j) + -A (m + 1) k * (if j = k then 1 else 0)
      by_cases h1 : j = k
      · rw [h1, if_pos ⟨rfl, Nat.le_refl _⟩, if_neg (by omega), if_pos rfl]; omega
      · rw [if_neg (by omega), if_neg (by omega), if_neg h1]; omega
    · rw [if_neg e]
      unfold clrd
      split
      · rfl
      · by_cases h1 : j = k ∧ i ≤ m
        · rw [if_pos h1, if_pos ⟨h1.1, by omega⟩]
        · rw [if_neg h1, if_neg (by omega)]
end RowF
open RowF
theorem RowF.uniq : ∀ {n : Nat} {F : MatF → Int}, RowF n F → ∀ A : MatF, F A = F one * det n A
  | 0, F, h, A => by
    rw [show det 0 A = 1 from rfl, Int.mul_one]
    exact h.congr fun i j hi => by omega
  | n + 1, F, h, A => by
    have e1 : F A = F (setr A 0 fun j => sm (n + 1) fun k => A 0 k * (if j = k then 1 else 0)) := h.congr fun i j hi hj => by
      unfold setr; split
      · rename_i e
        show _ = sm (n + 1) fun k => A 0 k * (if j = k then 1 else 0)
        rw [e, sm_one (c := j) hj fun k _ hne => by rw [if_neg (fun e => hne e.symm), Int.mul_zero], if_pos rfl, Int.mul_one]
      · rfl
    rw [e1, h.sum A (by omega) (fun k => A 0 k) (fun k j => if j = k then 1 else 0), det_succ, ← sm_smul]
    refine sm_congr fun k hk => ?_
    have e2 : F (setr A 0 fun j => if j = k then 1 else 0) = F (clrd A k 0) := h.congr fun i j _ _ => by
      unfold setr clrd; split
      · rfl
      · rw [if_neg (by omega)]
    have e3 : F (clrd A k n) = F (ins k fun i j => A (i + 1) (skip k j)) := h.congr fun i j hi hj => by
      unfold clrd ins
      split
      · rfl
      · rename_i h0
        by_cases h1 : j = k
        · rw [if_pos ⟨h1, by omega⟩, if_pos h1]
        · rw [if_neg (by omega), if_neg h1]
          show A i j = A (i - 1 + 1) (skip k (unskip k j))
          rw [skip_unskip h1, show i - 1 + 1 = i by omega]
    have e4 := RowF.uniq (h.insF hk) fun i j => A (i + 1) (skip k j)
    simp only [ins_one h k hk] at e4
    rw [e2, ← clrd_F h A hk n (Nat.le_refl _), e3, e4]
    generalize det n (fun i j => A (i + 1) (skip k j)) = d
    generalize A 0 k = a
    generalize sg k = s
    generalize F one = f
    rw [Int.mul_left_comm f s, Int.mul_left_comm f a, Int.mul_assoc, Int.mul_left_comm a s]
def tr (A : MatF) : MatF := fun i j => A j i
theorem detT_rowF (n : Nat) : RowF n fun A => det n (tr A) where
 congr e := det_congr fun i j hi hj => e j i hj hi
 lin A r x y u v hr := det_col x y u v (tr A) r hr
 alt A r hr e := det_cols_eq (tr A) r hr e
theorem det_tr (n : Nat) (A : MatF) : det n (tr A) = det n A := by
 have h := (detT_rowF n).uniq A
 have e : det n (tr one) = 1 := by
  rw [← det_one n]
  exact det_congr fun i j _ _ => by
   unfold tr one
   repeat' split
   all_goals omega
 rw [h, e, Int.one_mul]
theorem det_rowF (n : Nat) : RowF n (det n) := by
 have e : det n = fun A => det n (tr A) := funext fun A => (det_tr n A).symm
 rw [e]; exact detT_rowF n
def mulM (n : Nat) (A B : MatF) : MatF := fun i j => sm n fun k => A i k * B k j
theorem mulM_set (n : Nat) (A B : MatF) (r : Nat) (v : Nat → Int) : mulM n (setr A r v) B = setr (mulM n A B) r fun j => sm n fun k => v k * B k j := by
 funext i j
 unfold mulM setr
 split <;> rfl
theorem mulM_rowF (n m : Nat) (B : MatF) : RowF n fun A => det n (mulM n A B) where
 congr e := det_congr fun i j hi hj => sm_congr fun k hk => by rw [e i k hi hk]
 lin A r x y u v hr := by
  simp only [mulM_set]
  rw [← (det_rowF n).lin _ r x y _ _ hr]
  congr 2; funext j
  rw [← sm_lin]
  exact sm_congr fun k _ => by rw [Int.add_mul, Int.mul_assoc, Int.mul_assoc]
 alt A r hr e := (det_rowF n).alt _ r hr fun j hj => sm_congr fun k hk => by rw [e k hk]
theorem det_mul (n : Nat) (A B : MatF) : det n (mulM n A B) = det n A * det n B := by
 have h := (mulM_rowF n n B).uniq A
 have e : det n (mulM n one B) = det n B := det_congr fun i j hi _ => by
  unfold mulM one
  rw [sm_one (c := i) hi fun k _ hne => by rw [if_neg (fun e => hne e.symm), Int.zero_mul], if_pos rfl, Int.one_mul]
 rw [h, e, Int.mul_comm]
end Go.Dt
namespace Go.Dt
open RowF
theorem sm_left (f : Nat → Int) : ∀ n : Nat, sm (n + 1) f = f 0 + sm n (fun i => f (i + 1))
  | 0 => by show (0 : Int) + f 0 = f 0 + 0; omega
  | n + 1 => by
    show sm (n + 1) f + f (n + 1) = f 0 + (sm n (fun i => f (i + 1)) + f (n + 1))
    rw [sm_left f n]; omega
def sub (A : MatF) (rs cs : List Nat) : MatF := fun i j => A (rs.getD i 0) (cs.getD j 0)
def mn (A : MatF) (rs cs : List Nat) : Int := det rs.length (sub A rs cs)
theorem det_cols_same {n : Nat} {A : MatF} {c d : Nat} (hc : c < n) (hd : d < n) (hne : c ≠ d) (h : ∀ i, i < n → A i c = A i d) : det n A = 0 := by
 rw [← det_tr]; exact (det_rowF n).eqr (A := tr A) hc hd hne h
theorem det_first {n : Nat} {N : MatF} (h : ∀ j, j < n → N 0 (j + 1) = 0) : det (n + 1) N = N 0 0 * det n (fun i j => N (i + 1) (j + 1)) := by
 rw [det_succ, sm_left, sm_zero fun j hj => by rw [h j hj, Int.zero_mul, Int.mul_zero]]
 have e : (fun i j => N (i + 1) (skip 0 j)) = fun i j => N (i + 1) (j + 1) := by
  funext i j; unfold skip; rw [if_neg (by omega)]
 rw [e]; show 1 * _ + 0 = _; omega
theorem getD_mem {l : List Nat} {j : Nat} (h : j < l.length) : l.getD j 0 ∈ l := by
 rw [List.getD, List.getElem?_eq_getElem h]; exact List.getElem_mem h
theorem mem_getD {l : List Nat} {k : Nat} (h : k ∈ l) : ∃ j, j < l.length ∧ l.getD j 0 = k := by
 obtain ⟨j, hj, e⟩ := List.mem_iff_getElem.1 h
 exact ⟨j, hj, by rw [List.getD, List.getElem?_eq_getElem hj]; exact e⟩
def ec (A : MatF) (rs cs : List Nat) (i r : Nat) : Int := sg (r + 1) * det rs.length (fun p q => A ((i :: rs).getD (skip (r + 1) q) 0) (cs.getD p 0))
theorem mn_exp (A : MatF) (rs cs : List Nat) (i k : Nat) : mn A (i :: rs) (k :: cs) = mn A rs cs * A i k + sm rs.length fun r => ec A rs cs i r * A (rs.getD r 0) k := by
 show det (rs.length + 1) _ = _
 rw [← det_tr, det_succ, sm_left]
 have e0 : det rs.length (fun p q => tr (sub A (i :: rs) (k :: cs)) (p + 1) (skip 0 q)) = mn A rs cs := by
  unfold mn
  rw [← det_tr (A := sub A rs cs)]
  refine congrArg _ ?_
  funext p q
  unfold skip
  rw [if_neg (by omega)]; rfl
 rw [e0]
 have e1 : sg 0 * (tr (sub A (i :: rs) (k :: cs)) 0 0 * mn A rs cs) = mn A rs cs * A i k := by
  show 1 * (A i k * _) = _
  rw [Int.one_mul, Int.mul_comm]
 rw [e1]
 refine congrArg _ (sm_congr fun r _ => ?_)
 show sg (r + 1) * (A (rs.getD r 0) k * det rs.length (fun p q => A ((i :: rs).getD (skip (r + 1) q) 0) (cs.getD p 0))) = _
 unfold ec
 rw [Int.mul_comm (A (rs.getD r 0) k), Int.mul_assoc]
theorem mn_col (A : MatF) {rs cs : List Nat} (hl : cs.length = rs.length) (i : Nat) {k : Nat} (hk : k ∈ cs) : mn A (i :: rs) (k :: cs) = 0 := by
 obtain ⟨j, hj, e⟩ := mem_getD hk
 refine det_cols_same (c := 0) (d := j + 1) (by show 0 < rs.length + 1; omega) (by show j + 1 < rs.length + 1; omega) (by omega) fun p _ => ?_
 show A _ k = A _ (cs.getD j 0)
 rw [e]
theorem mn_row (A : MatF) {rs cs : List Nat} {i : Nat} (hi : i ∈ rs) (k : Nat) : mn A (i :: rs) (k :: cs) = 0 := by
 obtain ⟨j, hj, e⟩ := mem_getD hi
 refine (det_rowF _).eqr (r := 0) (s := j + 1) (by show 0 < rs.length + 1; omega) (by show j + 1 < rs.length + 1; omega) (by omega) fun q _ => ?_
 show A i _ = A (rs.getD j 0) _
 rw [e]
theorem RowF.comb {n : Nat} {F : MatF → Int} (h : RowF n F) (A : MatF) {r : Nat} (hr : r < n) (D : Int) (e : Nat → Int) (f : Nat → Nat) (m : Nat) (hf : ∀ p, p < m → f p < n ∧ f p ≠ r) :
  F (setr A r fun j => D * A r j + sm m fun p => e p * A (f p) j) = D * F A := by
 rw [h.add A hr, h.smul A hr, set_self, h.sum A hr e (fun p => A (f p)), sm_zero fun p hp => ?_]
 ·omega
 ·obtain ⟨h1, h2⟩ := hf p hp
  rw [h.eqr hr h1 (fun e => h2 e.symm) (A := setr A r (A (f p))) fun j _ => by rw [set_at, set_ne _ h2], Int.mul_zero]
theorem mn_two (A : MatF) {rs cs : List Nat} (hl : cs.length = rs.length) (i1 i2 k1 k2 : Nat) :
  mn A rs cs * (mn A rs cs * mn A (i1 :: i2 :: rs) (k1 :: k2 :: cs)) = mn A rs cs * (mn A (i1 :: rs) (k1 :: cs) * mn A (i2 :: rs) (k2 :: cs) - mn A (i1 :: rs) (k2 :: cs) * mn A (i2 :: rs) (k1 :: cs)) := by
 obtain ⟨t, ht⟩ : ∃ t, t = rs.length := ⟨_, rfl⟩
 obtain ⟨M, hM⟩ : ∃ M, M = sub A (i1 :: i2 :: rs) (k1 :: k2 :: cs) := ⟨_, rfl⟩
 obtain ⟨w, hw⟩ : ∃ w : Nat → Nat → Int, w = fun i j => mn A (i :: rs) ((k1 :: k2 :: cs).getD j 0 :: cs) := ⟨_, rfl⟩
 have hR := det_rowF (t + 2)
 have h1 : w i1 = fun j => mn A rs cs * M 0 j + sm t fun p => ec A rs cs i1 p * M (p + 2) j := by
  rw [hw, hM, ht]; funext j; exact mn_exp A rs cs i1 _
 have h2 : w i2 = fun j => mn A rs cs * M 1 j + sm t fun p => ec A rs cs i2 p * M (p + 2) j := by
  rw [hw, hM, ht]; funext j; exact mn_exp A rs cs i2 _
 have g1 : det (t + 2) (setr M 0 (w i1)) = mn A rs cs * det (t + 2) M := by
  rw [h1]; exact hR.comb M (r := 0) (by omega) (mn A rs cs) (ec A rs cs i1) (fun p => p + 2) t (fun p hp => ⟨by omega, by omega⟩)
 have g2 : det (t + 2) (setr (setr M 0 (w i1)) 1 (w i2)) = mn A rs cs * det (t + 2) (setr M 0 (w i1)) := by
  have e : w i2 = fun j => mn A rs cs * setr M 0 (w i1) 1 j + sm t fun p => ec A rs cs i2 p * setr M 0 (w i1) (p + 2) j := by
   rw [h2]; funext j
   rw [set_ne M (by omega)]
   refine congrArg _ (sm_congr fun p _ => ?_)
   rw [set_ne M (by omega)]
  rw [congrArg (setr (setr M 0 (w i1)) 1) e]
  exact hR.comb (setr M 0 (w i1)) (r := 1) (by omega) (mn A rs cs) (ec A rs cs i2) (fun p => p + 2) t (fun p hp => ⟨by omega, by omega⟩)
 have hz : ∀ i j, j < t → w i (j + 2) = 0 := fun i j hj => by
  rw [hw]; exact mn_col A hl i (getD_mem (by omega))
 have e3 : mn A (i1 :: i2 :: rs) (k1 :: k2 :: cs) = det (t + 2) M := by rw [hM, ht]; rfl
 have e4 : ∀ i, w i 0 = mn A (i :: rs) (k1 :: cs) := fun i => by rw [hw]; rfl
 have e5 : ∀ i, w i 1 = mn A (i :: rs) (k2 :: cs) := fun i => by rw [hw]; rfl
 rw [e3, ← g1, ← g2, ← e4, ← e5, ← e5, ← e4, det_succ, sm_left, sm_left, sm_zero fun j hj => ?_]
 ·have d0 : det (t + 1) (fun i j => setr (setr M 0 (w i1)) 1 (w i2) (i + 1) (skip 0 j)) = w i2 1 * mn A rs cs := by
   rw [det_first fun j hj => ?_]
   ·have : (fun i j => setr (setr M 0 (w i1)) 1 (w i2) (i + 1 + 1) (skip 0 (j + 1))) = sub A rs cs := by
     rw [hM]; rfl
    rw [this, ht]; rfl
   ·exact hz i2 j hj
  have d1 : det (t + 1) (fun i j => setr (setr M 0 (w i1)) 1 (w i2) (i + 1) (skip 1 j)) = w i2 0 * mn A rs cs := by
   have s1 : ∀ j, skip 1 (j + 1) = j + 2 := fun j => by unfold skip; rw [if_neg (by omega)]
   rw [det_first fun j hj => ?_]
   ·have : (fun i j => setr (setr M 0 (w i1)) 1 (w i2) (i + 1 + 1) (skip 1 (j + 1))) = sub A rs cs := by
     funext i j
     rw [s1, hM]; rfl
    rw [this, ht]; rfl
   ·show w i2 (skip 1 (j + 1)) = 0
    rw [s1]; exact hz i2 j hj
  show sg 0 * (setr (setr M 0 (w i1)) 1 (w i2) 0 0 * _) + (sg 1 * (setr (setr M 0 (w i1)) 1 (w i2) 0 1 * _) + 0) = _
  rw [d0, show (0 + 1 : Nat) = 1 from rfl, d1]
  show 1 * (w i1 0 * (w i2 1 * mn A rs cs)) + (-1 * (w i1 1 * (w i2 0 * mn A rs cs)) + 0) = mn A rs cs * (w i1 0 * w i2 1 - w i1 1 * w i2 0)
  rw [Int.mul_sub, ← Int.mul_assoc (w i1 0), ← Int.mul_assoc (w i1 1), Int.mul_comm (mn A rs cs), Int.mul_comm (mn A rs cs)]
  omega
 ·show sg (j + 1 + 1) * (w i1 (j + 2) * _) = 0
  rw [hz i1 j hj, Int.zero_mul, Int.mul_zero]
theorem mn_step (A : MatF) {rs cs : List Nat} (hl : cs.length = rs.length) (h0 : mn A rs cs ≠ 0) (i1 i2 k1 k2 : Nat) :
  mn A (i1 :: rs) (k1 :: cs) * mn A (i2 :: rs) (k2 :: cs) - mn A (i1 :: rs) (k2 :: cs) * mn A (i2 :: rs) (k1 :: cs) = mn A rs cs * mn A (i1 :: i2 :: rs) (k1 :: k2 :: cs) :=
 (Int.eq_of_mul_eq_mul_left h0 (mn_two A hl i1 i2 k1 k2)).symm
theorem det_rev (n : Nat) (A : MatF) : det n (fun i j => A (n - 1 - i) (n - 1 - j)) = det n A := by
 have hF : RowF n fun A : MatF => det n (fun i j => A (n - 1 - i) (n - 1 - j)) := {
  congr := fun e => det_congr fun i j hi hj => e _ _ (by omega) (by omega)
  lin := fun A r x y u v hr => by
   have e : ∀ w : Nat → Int, (fun i j => setr A r w (n - 1 - i) (n - 1 - j)) = fun i j => if n - 1 - i = r then w (n - 1 - j) else A (n - 1 - i) (n - 1 - j) := fun w => rfl
   have e2 : ∀ w : Nat → Int, det n (fun i j => setr A r w (n - 1 - i) (n - 1 - j)) = det n (setr (fun i j => A (n - 1 - i) (n - 1 - j)) (n - 1 - r) fun j => w (n - 1 - j)) := fun w => det_congr fun i j hi hj => by
    unfold setr
    by_cases h : n - 1 - i = r
    ·rw [if_pos h, if_pos (by omega)]
    ·rw [if_neg h, if_neg (by omega)]
   rw [e2, e2, e2]
   exact (det_rowF n).lin _ (n - 1 - r) x y _ _ (by omega)
  alt := fun A r hr e => (det_rowF n).eqr (r := n - 1 - r) (s := n - 1 - (r + 1)) (by omega) (by omega) (by omega) fun j hj => by
   show A (n - 1 - (n - 1 - r)) _ = A (n - 1 - (n - 1 - (r + 1))) _
   rw [show n - 1 - (n - 1 - r) = r by omega, show n - 1 - (n - 1 - (r + 1)) = r + 1 by omega]
   exact e _ (by omega) }
 have h := hF.uniq A
 have e : det n (fun i j => one (n - 1 - i) (n - 1 - j)) = 1 := by
  rw [← det_one n]
  exact det_congr fun i j _ _ => by
   unfold one
   repeat' split
   all_goals omega
 rw [h, e, Int.one_mul]
theorem getD_rev (l : List Nat) {i : Nat} (h : i < l.length) : l.reverse.getD i 0 = l.getD (l.length - 1 - i) 0 := by
 rw [List.getD, List.getD, List.getElem?_reverse h]
theorem mn_rev (A : MatF) {rs cs : List Nat} (hl : cs.length = rs.length) : mn A rs.reverse cs.reverse = mn A rs cs := by
 unfold mn
 rw [List.length_reverse, ← det_rev _ (sub A rs cs)]
 refine det_congr fun i j hi hj => ?_
 unfold sub
 rw [getD_rev _ hi, getD_rev _ (by omega), hl]
theorem det_smul (D : Int) {n : Nat} (A : MatF) : det n (fun i j => D * A i j) = D ^ n * det n A := by
  have key : ∀ m : Nat, m ≤ n → det n (fun i j => if i < m then D * A i j else A i j) = D ^ m * det n A := by
    intro m
    induction m with
    | zero =>
      intro _
      rw [Int.pow_zero, Int.one_mul]
      exact det_congr fun i j _ _ => if_neg (by omega)
    | succ m ih =>
      intro hm
      have e : det n (fun i j => if i < m + 1 then D * A i j else A i j) = det n (setr (fun i j => if i < m then D * A i j else A i j) m fun j => D * A m j) := det_congr fun i j _ _ => by
        unfold setr
        by_cases h : i = m
        · rw [if_pos h, if_pos (by omega), h]
        · rw [if_neg h]
          show _ = if i < m then D * A i j else A i j
          by_cases h2 : i < m
          · rw [if_pos h2, if_pos (by omega)]
          · rw [if_neg h2, if_neg (by omega)]
      have e2 : setr (fun i j => if i < m then D * A i j else A i j) m (fun j => A m j) = fun i j => if i < m then D * A i j else A i j := by
        funext i j
        unfold setr
        by_cases h : i = m
        · rw [if_pos h, if_neg (by omega), h]
        · rw [if_neg h]
      rw [e, (det_rowF n).smul _ (by omega), e2, ih (by omega), Int.pow_succ, Int.mul_comm (D ^ m) D, Int.mul_assoc]
  rw [← key n (Nat.le_refl _)]
  exact det_congr fun i j hi _ => (if_pos hi).symm
theorem det_few {t : Nat} {A : MatF} {D : Int} (hD : D ≠ 0) {e : Nat → Nat → Int} {V : MatF} (h : ∀ i j, i < t + 1 → j < t + 1 → D * A i j = sm t fun r => e i r * V r j) : det (t + 1) A = 0 := by
 have h1 : det (t + 1) (fun i j => D * A i j) = 0 := by
  have e1 : det (t + 1) (fun i j => D * A i j) = det (t + 1) (mulM (t + 1) (fun i r => if r < t then e i r else 0) V) := det_congr fun i j hi hj => by
   rw [h i j hi hj]
   show _ = sm t (fun k => (if k < t then e i k else 0) * V k j) + (if t < t then e i t else 0) * V t j
   rw [if_neg (c := t < t) (by omega), Int.zero_mul, Int.add_zero]
   exact sm_congr fun r hr => by rw [if_pos hr]
  rw [e1, det_mul, ← det_tr, (det_rowF (t + 1)).zero (r := t) (by omega) fun j _ => ?_, Int.zero_mul]
  show (if t < t then _ else (0 : Int)) = 0
  rw [if_neg (by omega)]
 rw [det_smul] at h1
 rcases Int.mul_eq_zero.1 h1 with h2 | h2
 ·exact absurd h2 (Int.pow_ne_zero hD)
 ·exact h2
theorem mn_perm (A : MatF) {cs l1 l2 : List Nat} (h : l1.Perm l2) : ∀ pre : List Nat, mn A (pre ++ l1) cs ≠ 0 → mn A (pre ++ l2) cs ≠ 0 := by
  induction h with
  | nil => exact fun pre h => h
  | cons x h ih =>
    intro pre k
    have := ih (pre ++ [x]) (by rw [List.append_assoc]; exact k)
    rw [List.append_assoc] at this; exact this
  | swap x y l =>
    intro pre k h0
    refine k ?_
    have hlen : (pre ++ y :: x :: l).length = (pre ++ x :: y :: l).length := by simp
    have hp : pre.length + 1 < (pre ++ x :: y :: l).length := by simp only [List.length_append, List.length_cons]; omega
    have hR := det_rowF (pre ++ x :: y :: l).length
    have ea : ∀ (a b : Nat), (pre ++ a :: b :: l).getD pre.length 0 = a := fun a b => by
      rw [List.getD, List.getElem?_append_right (Nat.le_refl _), Nat.sub_self]; rfl
    have eb : ∀ (a b : Nat), (pre ++ a :: b :: l).getD (pre.length + 1) 0 = b := fun a b => by
      rw [List.getD, List.getElem?_append_right (by omega), show pre.length + 1 - pre.length = 1 by omega]; rfl
    have ec : ∀ (i : Nat), i ≠ pre.length → i ≠ pre.length + 1 → (pre ++ y :: x :: l).getD i 0 = (pre ++ x :: y :: l).getD i 0 := fun i h1 h2 => by
      rw [List.getD, List.getD]
      rcases Nat.lt_or_ge i pre.length with h3 | h3
      · rw [List.getElem?_append_left h3, List.getElem?_append_left h3]
      · obtain ⟨d, rfl⟩ : ∃ d, i = pre.length + (d + 2) := ⟨i - pre.length - 2, by omega⟩
        rw [List.getElem?_append_right (by omega), List.getElem?_append_right (by omega), Nat.add_sub_cancel_left]; rfl
    have e1 : sub A (pre ++ x :: y :: l) cs = setr (setr (sub A (pre ++ x :: y :: l) cs) pre.length (sub A (pre ++ x :: y :: l) cs pre.length)) (pre.length + 1) (sub A (pre ++ x :: y :: l) cs (pre.length + 1)) := by rw [set_self, set_self]
    have e2 : sub A (pre ++ y :: x :: l) cs = setr (setr (sub A (pre ++ x :: y :: l) cs) pre.length (sub A (pre ++ x :: y :: l) cs (pre.length + 1))) (pre.length + 1) (sub A (pre ++ x :: y :: l) cs pre.length) := by
      funext i j
      unfold setr
      by_cases h2 : i = pre.length + 1
      · rw [if_pos h2, h2]; unfold sub; rw [eb, ea]
      · rw [if_neg h2]
        by_cases h1 : i = pre.length
        · rw [if_pos h1, h1]; unfold sub; rw [ea, eb]
        · rw [if_neg h1]; unfold sub; rw [ec i h1 h2]
    unfold mn at h0 ⊢
    rw [hlen, e2, hR.swap _ (by omega) hp (by omega), ← e1, h0]; rfl
  | trans _ _ ih1 ih2 => exact fun pre k => ih2 pre (ih1 pre k)
end Go.Dt
namespace Go.Hp
open Go.Dt
/-! ### a row's first number that isn't 0 -/
/-! ### what rows span -/
def SpZ (R W : Nat) (A : MatF) (v : Nat → Int) : Prop := ∃ c : Nat → Int, ∀ k, k < W → v k = sm R fun i => c i * A i k
theorem sm_pick1 {R i : Nat} (f : Nat → Int) (hi : i < R) : (sm R fun j => (if j = i then 1 else 0) * f j) = f i := by
 rw [sm_one (c := i) hi (fun j _ hj => by simp [hj])]; simp
theorem SpZ.row {R W : Nat} (A : MatF) {i : Nat} (hi : i < R) : SpZ R W A (A i) := ⟨fun j => if j = i then 1 else 0, fun k _ => (sm_pick1 (fun j => A j k) hi).symm⟩
theorem SpZ.congr {R W : Nat} {A : MatF} {u v : Nat → Int} (h : SpZ R W A u) (e : ∀ k, k < W → v k = u k) : SpZ R W A v := by
 obtain ⟨c, hc⟩ := h
 exact ⟨c, fun k hk => (e k hk).trans (hc k hk)⟩
theorem SpZ.comb {R W : Nat} {A : MatF} {u v : Nat → Int} (x y : Int) (h : SpZ R W A u) (k : SpZ R W A v) : SpZ R W A fun j => x * u j + y * v j := by
 obtain ⟨c, hc⟩ := h
 obtain ⟨d, hd⟩ := k
 refine ⟨fun i => x * c i + y * d i, fun j hj => ?_⟩
 show x * u j + y * v j = _
 rw [hc j hj, hd j hj, ← sm_lin]
 exact sm_congr fun i _ => by grind
theorem SpZ.zero {R W : Nat} (A : MatF) : SpZ R W A fun _ => 0 := ⟨fun _ => 0, fun k _ => by rw [sm_zero fun i _ => Int.zero_mul _]⟩
theorem SpZ.sum {R W : Nat} {A : MatF} (c : Nat → Int) (u : Nat → Nat → Int) : ∀ m : Nat, (∀ i, i < m → SpZ R W A (u i)) → SpZ R W A fun k => sm m fun i => c i * u i k
 | 0, _ => SpZ.zero A
 | m + 1, h => ((SpZ.sum c u m fun i hi => h i (by omega)).comb 1 (c m) (h m (by omega))).congr fun k _ => by show sm m _ + _ = _; rw [Int.one_mul]
theorem SpZ.trans {R R' W : Nat} {A B : MatF} {v : Nat → Int} (h : SpZ R W A v) (hA : ∀ i, i < R → SpZ R' W B (A i)) : SpZ R' W B v := by
 obtain ⟨c, hc⟩ := h
 exact (SpZ.sum c A R hA).congr hc
theorem SpZ.mono {R W W' : Nat} {A : MatF} {v : Nat → Int} (h : SpZ R W A v) (hW : W' ≤ W) : SpZ R W' A v := by
 obtain ⟨c, hc⟩ := h
 exact ⟨c, fun k hk => hc k (by omega)⟩
/-! ### Hermite's form -/
theorem first_of {p : Nat → Prop} : ∀ n, (∃ i, i < n ∧ p i) → ∃ i, i < n ∧ p i ∧ ∀ j, j < i → ¬ p j
  | 0, ⟨i, hi, _⟩ => absurd hi (Nat.not_lt_zero _)
  | n + 1, h => by
    by_cases h1 : ∃ i, i < n ∧ p i
    · obtain ⟨i, h2, h3, h4⟩ := first_of n h1
      exact ⟨i, by omega, h3, h4⟩
    · obtain ⟨i, hi, hp⟩ := h
      have : i = n := by
        rcases Nat.lt_or_ge i n with h2 | h2
        · exact absurd ⟨i, h2, hp⟩ h1
        · omega
      subst this
      exact ⟨i, by omega, hp, fun j hj hpj => h1 ⟨j, hj, hpj⟩⟩
end Go.Hp
namespace Go.Hn
open Go.Nt Go.Pz Go.Mz Go.En
def mx2 (x : Int) (p : List Int) (y : Int) (q : List Int) : List Int := (List.range p.length).map fun k => x * cf p k + y * cf q k
def xgg (a b : Int) : Int := (Nat.gcd a.natAbs b.natAbs : Nat)
def xgx (a b : Int) : Int := if b = 0 then sgn a else xg a b
def xgy (a b : Int) : Int := if b = 0 then 0 else (xgg a b - xg a b * a).tdiv b
/-! ### the steps -/
def jn (rs : List (List Int)) (t i col : Nat) : List (List Int) :=
 if xgg (cf (rs.getD t []) col) (cf (rs.getD i []) col) = 0 then rs else
 (rs.set t (mx2 (xgx (cf (rs.getD t []) col) (cf (rs.getD i []) col)) (rs.getD t []) (xgy (cf (rs.getD t []) col) (cf (rs.getD i []) col)) (rs.getD i []))).set i
  (mx2 (-((cf (rs.getD i []) col).tdiv (xgg (cf (rs.getD t []) col) (cf (rs.getD i []) col)))) (rs.getD t []) ((cf (rs.getD t []) col).tdiv (xgg (cf (rs.getD t []) col) (cf (rs.getD i []) col))) (rs.getD i []))
theorem lt_of_some {α : Type} {l : List α} {i : Nat} {x : α} (h : l[i]? = some x) : i < l.length := by
 rcases Nat.lt_or_ge i l.length with h1 | h1
 ·exact h1
 ·rw [List.getElem?_eq_none h1] at h; cases h
def jns (rs : List (List Int)) (t col : Nat) : Nat → List (List Int)
 | 0 => rs
 | n + 1 => jn (jns rs t col n) t (t + 1 + n) col
def rd (rs : List (List Int)) (t i col : Nat) : List (List Int) := rs.set i (mx2 1 (rs.getD i []) (-(cf (rs.getD i []) col / cf (rs.getD t []) col)) (rs.getD t []))
def rds (rs : List (List Int)) (t col : Nat) : Nat → List (List Int)
 | 0 => rs
 | n + 1 => rd (rds rs t col n) t n col
def hsg (rs : List (List Int)) (t col : Nat) : List (List Int) := if cf (rs.getD t []) col < 0 then rs.set t (mx2 (-1) (rs.getD t []) 0 (rs.getD t [])) else rs
structure HS where
 rows : List (List Int)
 top : Nat
def hjs (s : HS) (col : Nat) : List (List Int) := jns s.rows s.top col (s.rows.length - (s.top + 1))
def hcol (s : HS) (col : Nat) : HS := if cf ((hjs s col).getD s.top []) col = 0 then ⟨hjs s col, s.top⟩ else ⟨rds (hsg (hjs s col) s.top col) s.top col s.top, s.top + 1⟩
def hred (s : HS) : Nat → HS
 | 0 => s
 | c + 1 => if (hred s c).top < (hred s c).rows.length then hcol (hred s c) c else hred s c
def row0 (C R : Nat) (L : List Int) (i : Nat) : List Int := (List.range (C + R)).map fun k => if k < C then cf L (i * C + k) else if k = C + i then 1 else 0
def rows0 (C R : Nat) (L : List Int) (n : Nat) : List (List Int) := (List.range n).map (row0 C R L)
def hrm (R C : Nat) (L : List Int) : HS := hred ⟨rows0 C R L R, 0⟩ C
/-! ### sizes -/
/-! ### how great the numbers get -/
/-! ### parts of rows, put together -/
def flatP (lo hi : Nat) (rs : List (List Int)) : List Int := rs.flatMap fun r => (r.take hi).drop lo
end Go.Hn
namespace Go.En
open Go.RowKit
section
variable {E : Env} {P : Program} {Γ : Ctx} {M : Mem} {ty : TypeId} {pos : String} {after : Array Edge}
 {ops : Array Oper} {Q : Exit → Act → World → Prop} {rest : List Oper}
def OKY (E : Env) (P : Program) (Γ : Ctx) (M : Mem) (o : Oper) (S : VP) : Prop :=
 ∀ a w F, Sat E Γ M a w F → ∃ v, (∀ w', (execOp a.eval o).run P w' = .ok (.value v) w') ∧ S.h w F v
theorem OKY.mv {d : Option Tmp} {x : Operand} {S : VP} (h : Has E Γ M x S) : OKY E P Γ M ⟨d, .move x, ty, pos, after, none⟩ S := fun a w F s => ⟨_, fun _ => rfl, h a w F s⟩
theorem OKY.as {d : Option Tmp} {x : Operand} {S : VP} (h : Has E Γ M x S) : OKY E P Γ M ⟨d, .assign x, ty, pos, after, none⟩ S := fun a w F s => ⟨_, fun _ => rfl, h a w F s⟩
theorem OKY.ext {d : Option Tmp} {x : Operand} {Ss : List VP} {S : VP} {i : Nat} (hx : Has E Γ M x (isTup Ss)) (hi : Ss[i]? = some S) : OKY E P Γ M ⟨d, .extract x i, ty, pos, after, none⟩ S := fun a w F s => by
 obtain ⟨vs, e, h⟩ := hx a w F s
 obtain ⟨v, hv, hS⟩ := h.get i S hi
 exact ⟨v, fun w' => by simp only [execOp, e]; simp [Instr.extract, hv, go_sem], hS⟩
theorem OKY.nilc {d : Option Tmp} {x : Operand} {b o : Nat} (h : Has E Γ M x (isPtr b o)) : OKY E P Γ M ⟨d, .nilCheck x, ty, pos, after, none⟩ (isPtr b o) := fun a w F s => by
 have e : a.eval x = .pointer (some ⟨b, o, none⟩) := h a w F s
 exact ⟨.pointer (some ⟨b, o, none⟩), fun w' => by simp only [execOp, e]; rfl, rfl⟩
theorem OK1.nilc {d : Option Tmp} {gd : Option (Nat × Bool)} {x : Operand} {b o : Nat} (h : Has E Γ M x (isPtr b o)) : OK1 E P Γ M ⟨d, .nilCheck x, ty, pos, after, gd⟩ (isPtr b o) := .run fun a w F s => by
 have e : a.eval x = .pointer (some ⟨b, o, none⟩) := h a w F s
 exact ⟨.pointer (some ⟨b, o, none⟩), by simp only [execOp, e]; rfl, rfl⟩
theorem OK1.nilcP {d : Option Tmp} {gd : Option (Nat × Bool)} {x : Operand} {Ss : List VP} (h : Has E Γ M x (PtrL Ss)) : OK1 E P Γ M ⟨d, .nilCheck x, ty, pos, after, gd⟩ (PtrL Ss) := .run fun a w F s => by
 have h1 := h a w F s
 obtain ⟨b, o, e, _⟩ := id h1
 exact ⟨.pointer (some ⟨b, o, none⟩), by simp only [execOp, e]; rfl, e ▸ h1⟩
theorem OKY.fieldAddr {d : Option Tmp} {x : Operand} {b off i o n : Nat} {g : Bool} {T T' : TypeId} (hx : Has E Γ M x (isPtr b off)) (hf : fldB P T i = some (o, T')) (ht : tyB P T' = some (n + 1, g)) :
    OKY E P Γ M ⟨d, .fieldAddr T x i, ty, pos, after, none⟩ (isPtr b (off + o)) := fun a w F s => by
    have h1 : a.eval x = .pointer (some ⟨b, off, none⟩) := hx a w F s
    refine ⟨_, fun w' => ?_, rfl⟩
    unfold fldB at hf
    cases hu : P.underlying T with
    | none => simp [hu] at hf
    | some dd =>
      rw [hu] at hf
      cases dd <;> simp at hf
      rename_i fs
      obtain ⟨f, hf1, hf2, hf3⟩ := hf
      subst hf2 hf3
      simp only [execOp, h1, Instr.fieldAt, Instr.sureAddr, fieldPlace, Sem.run_bind, Sem.run_pure, Result.andThen_ok, run_under hu, run_size ht, hf1]
      simp [add_mk]
def arrOf (n : Nat) (bs : List Nat) : Array Bool := bs.foldl (fun acc i => acc.setIfInBounds i true) (Array.replicate n false)
theorem arrOf_snoc (n : Nat) (bs : List Nat) (i : Nat) : arrOf n (bs ++ [i]) = (arrOf n bs).setIfInBounds i true := by unfold arrOf; rw [List.foldl_append]; rfl
theorem arrOf_size (n : Nat) (bs : List Nat) : (arrOf n bs).size = n := by
 unfold arrOf
 suffices h : ∀ (bs : List Nat) (acc : Array Bool), acc.size = n → (bs.foldl (fun acc i => acc.setIfInBounds i true) acc).size = n by exact h bs _ (by simp)
 intro bs
 induction bs with
 | nil => intro acc h; exact h
 | cons b bs ih => intro acc h; exact ih _ (by simp [h])
def DrB (E : Env) (P : Program) (l : List Oper) (Γ : Ctx) (M : Mem) (Q : Exit → Act → World → Prop) (bs : List Nat) : Prop :=
 ∀ a w F, Sat E Γ M a w F → wpAny P .any l.toArray Q (l.length - bs.length) (arrOf l.length bs) a w
theorem Tri.dry {id : Nat} {l : List Oper} (hm : P.follows .mixedOrders = true) (h : DrB E P l Γ M Q []) : Tri E P (.region id l.toArray true) Γ M Q := by
 intro a w F s
 refine wp_region_any hm ?_
 have := h a _ F (s.adv (Adv.drew w F))
 simpa [arrOf] using this
theorem DrB.take {l : List Oper} {bs : List Nat} {i d : Nat} {o : Oper} {S : VP} (hi : l[i]? = some o) (hd : o.dst = some d) (hg : o.guard = none) (hn : Nat.blt d E.n = true) (hs : Region.noSelect l.toArray = true)
  (hf : Region.free .any l.toArray (arrOf l.length bs) i = true) (hr : (Region.ready .any l.toArray (arrOf l.length bs)).contains i = true) (hl : Nat.blt bs.length l.length = true) (hQ : ∀ c a w v, Q (.panic c) (Act.put a (some d) v) w → Q (.panic c) a w)
  (hok : OKY E P Γ M o S) (k : DrB E P l ((d, S) :: Γ) M Q (bs ++ [i])) : DrB E P l Γ M Q bs := by
 intro a w F s
 obtain ⟨v, hv, hS⟩ := hok a w F s
 have hd' : d < E.n := by simpa [Nat.blt_eq] using hn
 have hl' : bs.length < l.length := by simpa [Nat.blt_eq] using hl
 have hk := k (a.put (some d) v) w F (s.put hd' hS)
 obtain ⟨f, hfu⟩ : ∃ f, l.length - bs.length = f + 1 := ⟨l.length - bs.length - 1, by omega⟩
 rw [hfu]
 refine wpAny_take (i := i) (oi := o) (v := v) (by simpa using hi) hs hf hr (fun c a w h => hQ c a w v (by rw [hd] at h; exact h)) (.inl ⟨by simp [Region.wanted, hg], hv⟩) ?_
 rw [hd, ← arrOf_snoc]
 rw [List.length_append, List.length_singleton, show l.length - (bs.length + 1) = f by omega] at hk
 exact hk
theorem DrB.tk {l : List Oper} {bs : List Nat} {d : Nat} {o : Oper} {S : VP} (i : Nat) (hi : l[i]? = some o) (hd : o.dst = some d) (hg : o.guard = none) (hn : Nat.blt d E.n = true) (hok : OKY E P Γ M o S) (k : DrB E P l ((d, S) :: Γ) M Q (bs ++ [i])) (hs : Region.noSelect l.toArray = true := by kernel_rfl) (hf : Region.free .any l.toArray (arrOf l.length bs) i = true := by kernel_rfl) (hr : (Region.ready .any l.toArray (arrOf l.length bs)).contains i = true := by kernel_rfl) (hl : Nat.blt bs.length l.length = true := by kernel_rfl) (hQ : ∀ c a w v, Q (.panic c) (Act.put a (some d) v) w → Q (.panic c) a w := by exact fun _ _ _ _ h => h) : DrB E P l Γ M Q bs :=
 DrB.take hi hd hg hn hs hf hr hl hQ hok k
def freeB (l : List Oper) (i : Nat) : Bool := match l[i]? with
 | none => false
 | some oi => (List.range l.length).all fun j => j == i || (((masks l [])[i]?).getD 0).testBit j || match l[j]? with
   | some oj => oj.after.any (fun e => Region.binds .any e && e.on == i) || oi.apart l.toArray oj
   | none => true
inductive DrL (E : Env) (P : Program) (l : List Oper) (Γ : Ctx) (M : Mem) (es : List Nat) : List Nat → List VP → Prop
 | nil : DrL E P l Γ M es [] []
 | snoc {i d : Nat} {az : List Nat} {Ss : List VP} {S : VP} {o : Oper} (Δ : Ctx) : DrL E P l Γ M es az Ss → l[i]? = some o → o.dst = some d → Nat.blt d E.n = true →
   (∀ t S, look Δ t = some S → (∃ (k j : Nat) (oj : Oper), az[k]? = some j ∧ (((masks l [])[i]?).getD 0).testBit j = true ∧ l[j]? = some oj ∧ oj.dst = some t ∧ Ss[k]? = some S) ∨ look Γ t = some S) →
   OKG E P l.toArray Δ M o S → (es.contains i = true → OKY E P Δ M o S ∧ o.guard = none) → DrL E P l Γ M es (az ++ [i]) (Ss ++ [S])
theorem DrL.at {l : List Oper} {es az : List Nat} {Ss : List VP} (h : DrL E P l Γ M es az Ss) : Ss.length = az.length ∧ ∀ (k i : Nat), az[k]? = some i → ∃ (o : Oper) (d : Nat) (S : VP) (Δ : Ctx), l[i]? = some o ∧ o.dst = some d ∧ d < E.n ∧ Ss[k]? = some S ∧
    (∀ t S, look Δ t = some S → (∃ (k j : Nat) (oj : Oper), az[k]? = some j ∧ (((masks l [])[i]?).getD 0).testBit j = true ∧ l[j]? = some oj ∧ oj.dst = some t ∧ Ss[k]? = some S) ∨ look Γ t = some S) ∧ OKG E P l.toArray Δ M o S ∧ (es.contains i = true → OKY E P Δ M o S ∧ o.guard = none) := by
  induction h with
  | nil => exact ⟨rfl, fun k i hk => by simp at hk⟩
  | @snoc i d az Ss S o Δ h0 h1 h2 h3 h4 h5 h6 ih =>
    obtain ⟨ih1, ih2⟩ := ih
    have up : ∀ {β : Type} (xs : List β) (x : β) (j : Nat) (T : β), xs[j]? = some T → (xs ++ [x])[j]? = some T := fun xs x j T hT => by
      have : j < xs.length := by
        rcases Nat.lt_or_ge j xs.length with h | h
        · exact h
        · rw [List.getElem?_eq_none h] at hT; cases hT
      rw [List.getElem?_append_left this]; exact hT
    refine ⟨by simp [ih1], fun k i' hk => ?_⟩
    by_cases e : k = az.length
    · subst e
      rw [List.getElem?_append_right (Nat.le_refl _), Nat.sub_self] at hk
      obtain rfl : i = i' := by simpa using hk
      refine ⟨o, d, S, Δ, h1, h2, by simpa [Nat.blt_eq] using h3, by rw [List.getElem?_append_right (by omega)]; simp [ih1], fun t T hT => ?_, h5, h6⟩
      rcases h4 t T hT with ⟨k, j, oj, b0, b1, b2, b3, b4⟩ | h
      · exact .inl ⟨k, j, oj, up _ _ _ _ b0, b1, b2, b3, up _ _ _ _ b4⟩
      · exact .inr h
    · have hkl : k < az.length := by
        rcases Nat.lt_or_ge k az.length with h | h
        · exact h
        · rw [List.getElem?_eq_none (by simp; omega)] at hk; cases hk
      rw [List.getElem?_append_left hkl] at hk
      obtain ⟨o', d', S', Δ', a1, a2, a3, a4, a5, a6⟩ := ih2 k i' hk
      refine ⟨o', d', S', Δ', a1, a2, a3, up _ _ _ _ a4, fun t T hT => ?_, a6⟩
      rcases a5 t T hT with ⟨k, j, oj, b0, b1, b2, b3, b4⟩ | h
      · exact .inl ⟨k, j, oj, up _ _ _ _ b0, b1, b2, b3, up _ _ _ _ b4⟩
      · exact .inr h
def backB (l : List Oper) : Bool := (List.range l.length).all fun i => match l[i]? with
 | none => true
 | some o => o.after.toList.all fun e => !Region.binds .any e || Nat.blt e.on i
def partB (n : Nat) (bs az ts : List Nat) : Bool := (List.range n).all fun i => bs.contains i || az.contains i || ts.contains i
def aheadB (l : List Oper) (az : List Nat) : List Nat → Bool
 | [] => true
 | t :: ts => (az.all fun j => (((masks l [])[t]?).getD 0).testBit j) && aheadB l (az ++ [t]) ts
def disjB (bs az ts : List Nat) : Bool := (ts.all fun t => !bs.contains t && !az.contains t) && (az.all fun t => !bs.contains t)
def nodupB : List Nat → Bool
 | [] => true
 | t :: ts => !ts.contains t && nodupB ts
def inB (n : Nat) (ts : List Nat) : Bool := ts.all fun t => Nat.blt t n
def apartL (l : List Oper) (az : List Nat) (Γ : Ctx) : Bool := az.all fun i => match (l[i]?).bind (·.dst) with
  | none => true
  | some d => (Γ.all fun p => !Nat.beq p.1 d) && az.all fun j => Nat.beq i j || match (l[j]?).bind (·.dst) with
    | none => true
    | some e => !Nat.beq d e
theorem backB_spec {l : List Oper} (h : backB l = true) : ∀ (i : Nat) (o : Oper), l[i]? = some o → ∀ e ∈ o.after, Region.binds .any e = true → e.on < i := by
 intro i o ho e he hb
 have hi : i < l.length := by
  rcases Nat.lt_or_ge i l.length with h' | h'
  ·exact h'
  ·rw [List.getElem?_eq_none h'] at ho; cases ho
 have := List.all_eq_true.1 h i (by simpa using hi)
 rw [ho] at this
 have h2 := List.all_eq_true.1 this e (by simpa using he)
 rw [hb] at h2
 simpa [Nat.blt_eq] using h2
theorem phaseT {l : List Oper} (hback : backB l = true) : ∀ (ts : List Nat) (pre : List Nat), aheadB l pre ts = true → nodupB ts = true → inB l.length ts = true →
    ∀ (fuel : Nat) (listed : Array Bool) (a : Act) (w : World), ts.length ≤ fuel → listed.size = l.length → (∀ j, j < l.length → j ∉ ts → listed.getD j false = true) → (∀ j, j ∈ ts → listed.getD j false = false) → (∀ t ∈ ts, t ∉ pre) →
    Closed l (fun j => listed.getD j false = true) → wpList P l.toArray Q (ts.filterMap fun i => l[i]?) a w → wpAny P .any l.toArray Q fuel listed a w := by
  have hsp := backB_spec hback
  have gd : ∀ (listed : Array Bool) j, j < listed.size → listed.getD j true = listed.getD j false := fun listed j hj => by simp [hj]
  intro ts
  induction ts with
  | nil =>
    intro pre _ _ _ fuel listed a w hf hsz hall _ _ hc hl
    refine wpAny_done ?_ hl fuel
    cases hr : Region.ready .any l.toArray listed with
    | nil => rfl
    | cons j js =>
      have hj : j ∈ Region.ready .any l.toArray listed := by rw [hr]; simp
      rw [mem_ready] at hj
      obtain ⟨g1, o, g2, _⟩ := hj
      have g2' : l[j]? = some o := by simpa using g2
      have hjl : j < l.length := by
        rcases Nat.lt_or_ge j l.length with h' | h'
        · exact h'
        · rw [List.getElem?_eq_none h'] at g2'; cases g2'
      rw [gd listed j (by omega), hall j hjl (by simp)] at g1; cases g1
  | cons t ts ih =>
    intro pre hah hnd hin fuel listed a w hf hsz hall hun hpre hc hl
    simp only [aheadB, Bool.and_eq_true] at hah
    simp only [nodupB, Bool.and_eq_true, Bool.not_eq_true'] at hnd
    simp only [inB, List.all_cons, Bool.and_eq_true] at hin
    have htl : t < l.length := by simpa [Nat.blt_eq] using hin.1
    have htn : t ∉ ts := by have := hnd.1; simpa using this
    obtain ⟨f, rfl⟩ : ∃ f, fuel = f + 1 := ⟨fuel - 1, by simp at hf; omega⟩
    have hot : l[t]? = some l[t] := List.getElem?_eq_getElem htl
    -- what the tail's later ones stand behind
    have later : ∀ (ts' : List Nat) (pre' : List Nat), aheadB l pre' ts' = true → ∀ u ∈ ts', ∀ j ∈ pre', (((masks l [])[u]?).getD 0).testBit j = true := by
      intro ts'
      induction ts' with
      | nil => intro pre' _ u hu; cases hu
      | cons x xs ihx =>
        intro pre' h u hu j hj
        simp only [aheadB, Bool.and_eq_true] at h
        rcases List.mem_cons.1 hu with rfl | hu
        · exact List.all_eq_true.1 h.1 j hj
        · exact ihx _ h.2 u hu j (List.mem_append_left _ hj)
    have honly : ∀ j, j ∈ Region.ready .any l.toArray listed → j = t := by
      intro j hj
      rw [mem_ready] at hj
      obtain ⟨g1, o, g2, g3⟩ := hj
      have g2' : l[j]? = some o := by simpa using g2
      have hjl : j < l.length := by
        rcases Nat.lt_or_ge j l.length with h' | h'
        · exact h'
        · rw [List.getElem?_eq_none h'] at g2'; cases g2'
      refine Classical.byContradiction fun hne => ?_
      have hjt : j ∈ t :: ts := by
        refine Classical.byContradiction fun hno => ?_
        rw [gd listed j (by omega), hall j hjl hno] at g1; cases g1
      have hjts : j ∈ ts := by rcases List.mem_cons.1 hjt with h | h; exact absurd h hne; exact h
      have hbit := later ts _ hah.2 j hjts t (by simp)
      have hmask : j < (masks l []).length := by rw [masks_len]; simpa using hjl
      rw [List.getElem?_eq_getElem hmask] at hbit
      have := reach hc j o g2' g3 t _ (List.getElem?_eq_getElem hmask) (by simpa using hbit)
      have h0 := hun t (by simp)
      have h1 : listed.getD t false = true := this
      rw [h1] at h0; cases h0
    have hready : t ∈ Region.ready .any l.toArray listed := by
      rw [mem_ready]
      refine ⟨by rw [gd listed t (by omega)]; exact hun t (by simp), l[t], by simp [htl], fun e he hb => ?_⟩
      -- an edge of t leads to what is listed
      have hlt := hsp t _ hot e he hb
      refine hall e.on (by omega) fun hmem => ?_
      rcases List.mem_cons.1 hmem with h | h
      · omega
      · -- a later one of the tail would stand behind t, and t behind it
        have hbit := later ts _ hah.2 e.on h t (by simp)
        have hmask : e.on < (masks l []).length := by rw [masks_len]; simp; omega
        rw [List.getElem?_eq_getElem hmask] at hbit
        -- masks lead back
        have hm : ∀ (i : Nat) (m : Nat), (masks l [])[i]? = some m → ∀ j, m.testBit j = true → j < i := by
          intro i m hm j hj
          have hil : i < l.length := by
            rcases Nat.lt_or_ge i l.length with h' | h'
            · exact h'
            · rw [List.getElem?_eq_none (by rw [masks_len]; simp; omega)] at hm; cases hm
          have := reach (l := l) (L := fun j => j < i) (fun i' o' ho' hi' e' he' hb' => Nat.lt_trans (hsp i' o' ho' e' he' hb') hi') i _ (List.getElem?_eq_getElem hil) (fun e' he' hb' => hsp i _ (List.getElem?_eq_getElem hil) e' he' hb') j m hm hj
          exact this
        have := hm e.on _ (List.getElem?_eq_getElem hmask) t (by simpa using hbit)
        omega
    rw [List.filterMap_cons, hot] at hl
    refine any_one (i := t) honly hready hot hl fun a w hl' => ?_
    refine ih (pre ++ [t]) hah.2 hnd.2 hin.2 f _ a w (by simp at hf; omega) (by simp [hsz]) (fun j hj hjn => ?_) (fun j hj => ?_) (fun u hu hmem => ?_) ?_ hl'
    · by_cases e : j = t
      · subst e; simp [hsz, htl]
      · exact getD_set_true (hall j hj (by simp [e, hjn]))
    · have hne : t ≠ j := fun e => htn (e ▸ hj)
      rw [getD_set_ne false hne]; exact hun j (by simp [hj])
    · rcases List.mem_append.1 hmem with h | h
      · exact hpre u (by simp [hu]) h
      · obtain rfl : u = t := by simpa using h
        exact htn hu
    · intro i o ho hL e he hb
      by_cases ei : i = t
      · subst ei
        rw [mem_ready] at hready
        obtain ⟨_, o', ho', hall'⟩ := hready
        have h1 : l[i]? = some o' := by simpa using ho'
        rw [ho] at h1; obtain rfl := Option.some.inj h1
        exact getD_set_true (hall' e he hb)
      · exact getD_set_true (hc i o ho (by
          have hL' : (listed.setIfInBounds t true).getD i false = true := hL
          rwa [getD_set_ne false (fun h => ei h.symm)] at hL') e he hb)
def DoneL (l : List Oper) (az : List Nat) (Ss : List VP) (L : Nat → Prop) (a : Act) (w : World) (F : Blk) : Prop :=
 ∀ (k j : Nat) (o : Oper) (d : Nat) (S : VP), az[k]? = some j → L j → l[j]? = some o → o.dst = some d → Ss[k]? = some S → S.h w F (a.tmps.getD d undef)
def dctxL (l : List Oper) : List Nat → List VP → Ctx
  | i :: az, S :: Ss => match (l[i]?).bind (·.dst) with
    | some d => (d, S) :: dctxL l az Ss
    | none => dctxL l az Ss
  | _, _ => []
theorem look_dctxL {l : List Oper} : ∀ (az : List Nat) (Ss : List VP) (t : Nat) (S : VP), look (dctxL l az Ss) t = some S → ∃ (k j : Nat) (o : Oper), az[k]? = some j ∧ l[j]? = some o ∧ o.dst = some t ∧ Ss[k]? = some S
  | [], Ss, t, S, h => by simp [dctxL, look] at h
  | i :: az, [], t, S, h => by simp [dctxL, look] at h
  | i :: az, S0 :: Ss, t, S, h => by
    simp only [dctxL] at h
    cases hd : (l[i]?).bind (·.dst) with
    | none => rw [hd] at h; obtain ⟨k, j, o, a, b, c, d⟩ := look_dctxL az Ss t S h; exact ⟨k + 1, j, o, by simpa using a, b, c, by simpa using d⟩
    | some dd =>
      rw [hd] at h
      simp only [look] at h
      cases hb : Nat.beq dd t with
      | false => rw [hb] at h; obtain ⟨k, j, o, a, b, c, d⟩ := look_dctxL az Ss t S h; exact ⟨k + 1, j, o, by simpa using a, b, c, by simpa using d⟩
      | true =>
        rw [hb] at h; simp at h; subst h
        obtain rfl := Nat.eq_of_beq_eq_true hb
        cases ho : l[i]? with
        | none => rw [ho] at hd; cases hd
        | some o => rw [ho] at hd; exact ⟨0, i, o, rfl, ho, by simpa using hd, rfl⟩
theorem nodup_at : ∀ {az : List Nat}, nodupB az = true → ∀ {k k' j : Nat}, az[k]? = some j → az[k']? = some j → k = k'
  | [], _, k, k', j, h, _ => by simp at h
  | a :: az, hn, k, k', j, h, h' => by
    simp only [nodupB, Bool.and_eq_true, Bool.not_eq_true'] at hn
    have hna : a ∉ az := by have := hn.1; simpa using this
    cases k with
    | zero =>
      cases k' with
      | zero => rfl
      | succ k' =>
        exfalso
        have e : a = j := by simpa using h
        exact hna (e ▸ List.mem_of_getElem? (show az[k']? = some j by simpa using h'))
    | succ k =>
      cases k' with
      | zero =>
        exfalso
        have e : a = j := by simpa using h'
        exact hna (e ▸ List.mem_of_getElem? (show az[k]? = some j by simpa using h))
      | succ k' => rw [nodup_at hn.2 (show az[k]? = some j by simpa using h) (show az[k']? = some j by simpa using h')]
def eagerB (l : List Oper) (es az ts : List Nat) : Bool := es.all fun i => az.contains i && freeB l i && match l[i]? with
 | none => true
 | some o => o.after.toList.all fun e => !Region.binds .any e || !ts.contains e.on
theorem phaseL {l : List Oper} {bs es az ts : List Nat} {Ss : List VP} (hD : DrL E P l Γ M es az Ss) (hsel : Region.noSelect l.toArray = true) (heg : eagerB l es az ts = true) (hQ : ∀ c a w d v, Q (.panic c) (Act.put a (some d) v) w → Q (.panic c) a w) (hap : apartL l az Γ = true) (hback : backB l = true) (hpart : partB l.length bs az ts = true) (hdis : disjB bs az ts = true) (hah : aheadB l (az.filter fun i => !es.contains i) ts = true) (hnd : nodupB ts = true) (hna : nodupB az = true) (hin : inB l.length ts = true)
    (k : Ops E P l.toArray Q (ts.filterMap fun i => l[i]?) (dctxL l az Ss ++ Γ) M) :
    ∀ (fuel : Nat) (listed : Array Bool) (a : Act) (w : World) (F : Blk), listed.toList.countP (· == false) ≤ fuel → listed.size = l.length → (∀ j, j ∈ bs → j < l.length → listed.getD j false = true) → (∀ j, j ∈ ts → listed.getD j false = false) →
    Closed l (fun j => listed.getD j false = true) → Sat E Γ M a w F → DoneL l az Ss (fun j => listed.getD j false = true) a w F → wpAny P .any l.toArray Q fuel listed a w := by
  obtain ⟨hlen, hat⟩ := hD.at
  have hsp := backB_spec hback
  have gd : ∀ (listed : Array Bool) j, j < listed.size → listed.getD j true = listed.getD j false := fun listed j hj => by simp [hj]
  have hcase : ∀ i, i < l.length → i ∈ bs ∨ i ∈ az ∨ i ∈ ts := by
    intro i hi
    have := List.all_eq_true.1 hpart i (by simpa using hi)
    simp only [Bool.or_eq_true, List.contains_iff_mem] at this
    rcases this with (h | h) | h
    · exact .inl h
    · exact .inr (.inl h)
    · exact .inr (.inr h)
  simp only [disjB, Bool.and_eq_true, List.all_eq_true, Bool.not_eq_true', Bool.and_eq_true] at hdis
  have hta : ∀ t ∈ ts, t ∉ az := fun t ht => by have := (hdis.1 t ht).2; simpa using this
  have hapart : ∀ i d, i ∈ az → (l[i]?).bind (·.dst) = some d → (∀ t S, look Γ t = some S → t ≠ d) ∧ ∀ j e, j ∈ az → j ≠ i → (l[j]?).bind (·.dst) = some e → e ≠ d := by
    intro i d hi hd
    have h1 := List.all_eq_true.1 hap i hi
    rw [hd] at h1
    simp only [Bool.and_eq_true] at h1
    refine ⟨look_none h1.1, fun j e hj hne he => ?_⟩
    have h2 := List.all_eq_true.1 h1.2 j hj
    rw [he] at h2
    simp only [Bool.or_eq_true, Bool.not_eq_true'] at h2
    rcases h2 with h2 | h2
    · exact absurd (Nat.eq_of_beq_eq_true h2).symm hne
    · exact fun e' => Nat.ne_of_beq_eq_false h2 e'.symm
  have later : ∀ (ts' : List Nat) (pre' : List Nat), aheadB l pre' ts' = true → ∀ u ∈ ts', ∀ j ∈ pre', (((masks l [])[u]?).getD 0).testBit j = true := by
    intro ts'
    induction ts' with
    | nil => intro pre' _ u hu; cases hu
    | cons x xs ihx =>
      intro pre' h u hu j hj
      simp only [aheadB, Bool.and_eq_true] at h
      rcases List.mem_cons.1 hu with rfl | hu
      · exact List.all_eq_true.1 h.1 j hj
      · exact ihx _ h.2 u hu j (List.mem_append_left _ hj)
  have hfin : ∀ (listed : Array Bool) (a : Act) (w : World) (F : Blk), listed.size = l.length → (∀ j, j ∈ bs → j < l.length → listed.getD j false = true) → (∀ j, j ∈ ts → listed.getD j false = false) → (∀ j, j ∈ az → j < l.length → listed.getD j false = true) →
      Closed l (fun j => listed.getD j false = true) → Sat E Γ M a w F → DoneL l az Ss (fun j => listed.getD j false = true) a w F → ∀ fuel, listed.toList.countP (· == false) ≤ fuel → wpAny P .any l.toArray Q fuel listed a w := by
    intro listed a w F hsz hb ht ha hc s hdone fuel hcnt
    refine phaseT hback ts _ hah hnd hin fuel listed a w ?_ hsz (fun j hj hn => ?_) ht (fun t ht hm => hta t ht (List.mem_filter.1 hm).1) hc (k a w F (s.wider ?_))
    · -- the tail's places are all unlisted
      refine Nat.le_trans ?_ hcnt
      have hinj : ∀ (ts' : List Nat), nodupB ts' = true → inB l.length ts' = true → (∀ j, j ∈ ts' → listed.getD j false = false) → ts'.length ≤ listed.toList.countP (· == false) := by
        intro ts' hnd' hin' hun'
        have e : listed.toList.countP (· == false) = ((List.range l.length).filter fun i => listed.getD i true == false).length := by
          rw [← List.countP_eq_length_filter]
          have : listed.toList = (List.range l.length).map fun i => listed.getD i true := by
            apply List.ext_getElem
            · simp [hsz]
            · intro i h1 h2
              have hi : i < listed.size := by simpa using h1
              simp [hi]
          rw [this, List.countP_map]; rfl
        rw [e]
        have hsub : ts' ⊆ (List.range l.length).filter fun i => listed.getD i true == false := by
          intro j hj
          have hjl : j < l.length := by
            have := List.all_eq_true.1 hin' j hj
            simpa [Nat.blt_eq] using this
          rw [List.mem_filter]
          refine ⟨by simpa using hjl, ?_⟩
          rw [gd listed j (by omega), hun' j hj]; rfl
        have hnodup : ts'.Nodup := by
          clear hun' hsub hin'
          induction ts' with
          | nil => exact List.nodup_nil
          | cons x xs ih =>
            simp only [nodupB, Bool.and_eq_true, Bool.not_eq_true'] at hnd'
            exact List.nodup_cons.2 ⟨by have := hnd'.1; simpa using this, ih hnd'.2⟩
        exact hnodup.length_le_of_subset hsub
      exact hinj ts hnd hin ht
    · rcases hcase j hj with h | h | h
      · exact hb j h hj
      · exact ha j h hj
      · exact absurd h hn
    · intro t S hlook
      rw [look_append] at hlook
      cases hl : look (dctxL l az Ss) t with
      | none => rw [hl] at hlook; exact s.slots t S (by simpa using hlook)
      | some S' =>
        rw [hl] at hlook
        obtain rfl : S' = S := by simpa using hlook
        obtain ⟨k', j, o, h1, h2, h3, h4⟩ := look_dctxL _ _ _ _ hl
        have hjl : j < l.length := by
          rcases Nat.lt_or_ge j l.length with h' | h'
          · exact h'
          · rw [List.getElem?_eq_none h'] at h2; cases h2
        exact hdone k' j o t S' h1 (ha j (List.mem_of_getElem? h1) hjl) h2 h3 h4
  intro fuel
  induction fuel with
  | zero =>
    intro listed a w F hcnt hsz hb ht hc s hdone
    refine hfin listed a w F hsz hb ht (fun j hj hjl => ?_) hc s hdone 0 hcnt
    have h0 : listed.toList.countP (· == false) = 0 := by omega
    rw [List.countP_eq_zero] at h0
    have hlt : j < listed.size := by omega
    have := h0 listed[j] (by simp)
    simp [hlt]
    simpa using this
  | succ fuel ih =>
    intro listed a w F hcnt hsz hb ht hc s hdone
    have hupd : ∀ (i ki : Nat) (o : Oper) (d : Nat) (S : VP), l[i]? = some o → i ∈ az → az[ki]? = some i → o.dst = some d → d < E.n → Ss[ki]? = some S → listed.getD i true = false → (∀ e ∈ o.after, Region.binds .any e = true → listed.getD e.on false = true) →
        ∀ v w' F', Adv w F w' F' → S.h w' F' v → wpAny P .any l.toArray Q fuel (listed.setIfInBounds i true) (a.put (some d) v) w' := by
      intro i ki o d S g2' hias hki a2 a3 a4 g1 g3 v w' F' ad hv
      have hil : i < l.length := by
        rcases Nat.lt_or_ge i l.length with h' | h'
        · exact h'
        · rw [List.getElem?_eq_none h'] at g2'; cases g2'
      have hbind : (l[i]?).bind (·.dst) = some d := by rw [g2']; exact a2
      obtain ⟨ap1, ap2⟩ := hapart i d hias hbind
      have s1 := s.adv ad
      refine ih _ _ w' F' ?_ (by simp [hsz]) (fun j hj hjl => getD_set_true (hb j hj hjl)) (fun j hj => ?_) ?_ (s1.putOut a3 v ap1) ?_
      · have hlt : i < listed.toList.length := by simp; omega
        have hli : listed.toList[i] = false := by
          have : i < listed.size := by omega
          simp [this] at g1; simpa using g1
        rw [Array.toList_setIfInBounds, List.countP_set hlt]
        rw [hli]
        have hpos : 0 < listed.toList.countP (· == false) := List.countP_pos_iff.2 ⟨false, by rw [← hli]; exact List.getElem_mem _, rfl⟩
        simp only [beq_self_eq_true, if_true]
        show _ - 1 + 0 ≤ fuel
        omega
      · have hne : i ≠ j := fun e => hta j hj (e ▸ hias)
        rw [getD_set_ne false hne]; exact ht j hj
      · intro j oj hj hL e he hbb
        by_cases ek : j = i
        · subst ek
          rw [g2'] at hj; obtain rfl := Option.some.inj hj
          exact getD_set_true (g3 e he hbb)
        · exact getD_set_true (hc j oj hj (by
            have hL' : (listed.setIfInBounds i true).getD j false = true := hL
            rwa [getD_set_ne false (fun h => ek h.symm)] at hL') e he hbb)
      · intro k' j oj dj Sj hkj hL hj hdj hSj
        rw [getD_put (by rw [s1.size]; exact a3)]
        by_cases ek : j = i
        · subst ek
          rw [g2'] at hj; obtain rfl := Option.some.inj hj
          rw [a2] at hdj; obtain rfl := Option.some.inj hdj
          rw [if_pos rfl]
          obtain rfl := nodup_at hna hkj hki
          rw [a4] at hSj; obtain rfl := Option.some.inj hSj
          exact hv
        · have hjas : j ∈ az := List.mem_of_getElem? hkj
          have hne := ap2 j dj hjas ek (by rw [hj]; exact hdj)
          rw [if_neg (fun e => hne e.symm)]
          refine Sj.mono _ _ _ _ _ (hdone k' j oj dj Sj hkj ?_ hj hdj hSj) (ad.same s.flt) ad.sub
          have hL' : (listed.setIfInBounds i true).getD j false = true := hL
          rwa [getD_set_ne false (fun h => ek h.symm)] at hL'
    have hctx : ∀ (i : Nat) (o : Oper) (Δ : Ctx), l[i]? = some o → i < l.length → (∀ e ∈ o.after, Region.binds .any e = true → listed.getD e.on false = true) →
        (∀ t S, look Δ t = some S → (∃ (k j : Nat) (oj : Oper), az[k]? = some j ∧ (((masks l [])[i]?).getD 0).testBit j = true ∧ l[j]? = some oj ∧ oj.dst = some t ∧ Ss[k]? = some S) ∨ look Γ t = some S) → Sat E Δ M a w F := by
      intro i o Δ g2' hil g3 a6
      have hmask : i < (masks l []).length := by rw [masks_len]; simpa using hil
      exact s.wider (fun t S' hlk => by
        rcases a6 t S' hlk with ⟨k', j, oj, b00, b0, b1, b2, b3⟩ | h
        · rw [List.getElem?_eq_getElem hmask] at b0
          exact hdone k' j oj t S' b00 (reach hc i o g2' g3 j _ (List.getElem?_eq_getElem hmask) (by simpa using b0)) b1 b2 b3
        · exact s.slots t S' h)
    by_cases heag : ∃ e, e ∈ es ∧ e ∈ Region.ready .any l.toArray listed
    · -- one that reads no memory is ready: it is taken
      obtain ⟨i, hie, hir⟩ := heag
      have hi0 := hir
      rw [mem_ready] at hi0
      obtain ⟨g1, o, g2, g3⟩ := hi0
      have g2' : l[i]? = some o := by simpa using g2
      have hil : i < l.length := by
        rcases Nat.lt_or_ge i l.length with h' | h'
        · exact h'
        · rw [List.getElem?_eq_none h'] at g2'; cases g2'
      have he1 := List.all_eq_true.1 heg i hie
      simp only [Bool.and_eq_true] at he1
      have hias : i ∈ az := List.contains_iff_mem.1 he1.1.1
      obtain ⟨ki, hki⟩ := List.mem_iff_getElem?.1 hias
      obtain ⟨o', d, S, Δ, a1, a2, a3, a4, a6, a7, a8⟩ := hat ki i hki
      rw [g2'] at a1; obtain rfl := Option.some.inj a1
      obtain ⟨hy, hgd⟩ := a8 (List.contains_iff_mem.2 hie)
      obtain ⟨v, hv, hS⟩ := hy a w F (hctx i o Δ g2' hil g3 a6)
      have hfr : ∀ j oj, l.toArray[j]? = some oj → j ≠ i → listed.getD j true = false → (∀ e ∈ oj.after, Region.binds .any e = true → e.on ≠ i) → o.apart l.toArray oj = true := by
        intro j oj hj hne hun hno
        have hj' : l[j]? = some oj := by simpa using hj
        have hjl : j < l.length := by
          rcases Nat.lt_or_ge j l.length with h' | h'
          · exact h'
          · rw [List.getElem?_eq_none h'] at hj'; cases hj'
        have hf := he1.1.2
        unfold freeB at hf
        rw [g2'] at hf
        have h1 := List.all_eq_true.1 hf j (by simpa using hjl)
        rw [hj'] at h1
        simp only [Bool.or_eq_true, beq_iff_eq, hne, false_or] at h1
        rcases h1 with h1 | h1 | h1
        · exfalso
          have hmask : i < (masks l []).length := by rw [masks_len]; simpa using hil
          rw [List.getElem?_eq_getElem hmask] at h1
          have := reach hc i o g2' g3 j _ (List.getElem?_eq_getElem hmask) (by simpa using h1)
          rw [gd listed j (by omega)] at hun
          have h3 : listed.getD j false = true := this
          rw [h3] at hun; cases hun
        · obtain ⟨e, he, hb'⟩ := Array.any_eq_true'.1 h1
          simp only [Bool.and_eq_true, beq_iff_eq] at hb'
          exact absurd hb'.2 (hno e he hb'.1)
        · exact h1
      refine wpAny_first g2 (Region.noSelect_spec hsel) (fun c a w h => hQ c a w d v (by rw [a2] at h; exact h)) fuel listed a w hfr hir (.inl ⟨by simp [Region.wanted, hgd], hv⟩) ?_
      rw [a2]
      exact hupd i ki o d S g2' hias hki a2 a3 a4 g1 g3 v w F (Adv.refl _ _) hS
    by_cases hall : ∀ j, j ∈ az → j < l.length → listed.getD j false = true
    · exact hfin listed a w F hsz hb ht hall hc s hdone _ hcnt
    · have hex : ∃ j, j < l.length ∧ listed.getD j true = false := by
        refine Classical.byContradiction fun hno => hall fun j hj hjl => ?_
        rw [← gd listed j (by omega)]
        cases hbb : listed.getD j true with
        | true => rfl
        | false => exact absurd ⟨j, hjl, hbb⟩ hno
      refine ⟨fun hr => ?_, fun i hi => ?_⟩
      · obtain ⟨j, ⟨hj1, hj2⟩, hmin⟩ := exists_least hex
        have : j ∈ Region.ready .any l.toArray listed := by
          rw [mem_ready]
          refine ⟨hj2, l[j], by simp [hj1], fun e he hbb => ?_⟩
          have hlt := hsp j _ (List.getElem?_eq_getElem hj1) e he hbb
          cases hb2 : listed.getD e.on true with
          | true => rw [gd listed e.on (by omega)] at hb2; exact hb2
          | false => have := hmin e.on ⟨by omega, hb2⟩; omega
        rw [hr] at this; simp at this
      · have hi' := hi
        rw [mem_ready] at hi
        obtain ⟨g1, o, g2, g3⟩ := hi
        have g2' : l[i]? = some o := by simpa using g2
        have hil : i < l.length := by
          rcases Nat.lt_or_ge i l.length with h' | h'
          · exact h'
          · rw [List.getElem?_eq_none h'] at g2'; cases g2'
        have hmask : i < (masks l []).length := by rw [masks_len]; simpa using hil
        have hias : i ∈ az := by
          rcases hcase i hil with h | h | h
          · rw [gd listed i (by omega), hb i h hil] at g1; cases g1
          · exact h
          · exfalso
            have hna' : ∀ j, j ∈ az → j < l.length → es.contains j = false → listed.getD j false = true := by
              intro j hj hjl hje
              have hbit := later ts _ hah i h j (List.mem_filter.2 ⟨hj, by rw [hje]; rfl⟩)
              rw [List.getElem?_eq_getElem hmask] at hbit
              exact reach hc i o g2' g3 j _ (List.getElem?_eq_getElem hmask) (by simpa using hbit)
            refine hall fun j hj hjl => ?_
            refine Classical.byContradiction fun hno => ?_
            -- the least of the eager ones that are not listed is ready
            have hex2 : ∃ q, (q ∈ az ∧ q < l.length) ∧ listed.getD q false = false := ⟨j, ⟨hj, hjl⟩, by cases hbb : listed.getD j false with | true => exact absurd hbb hno | false => rfl⟩
            obtain ⟨q, ⟨⟨hq1, hq2⟩, hq3⟩, hqmin⟩ := exists_least hex2
            have hqe : es.contains q = true := by
              cases hbb : es.contains q with
              | true => rfl
              | false => rw [hna' q hq1 hq2 hbb] at hq3; cases hq3
            have hqe' := List.contains_iff_mem.1 hqe
            refine heag ⟨q, hqe', ?_⟩
            rw [mem_ready]
            refine ⟨by rw [gd listed q (by omega)]; exact hq3, l[q], by simp [hq2], fun e he hbb => ?_⟩
            have hlt := hsp q _ (List.getElem?_eq_getElem hq2) e he hbb
            have he1 := List.all_eq_true.1 heg q hqe'
            simp only [Bool.and_eq_true] at he1
            have he2 := he1.2
            rw [List.getElem?_eq_getElem hq2] at he2
            have he3 := List.all_eq_true.1 he2 e (by simpa using he)
            rw [hbb] at he3
            simp only [Bool.not_true, Bool.false_or, Bool.not_eq_true'] at he3
            rcases hcase e.on (by omega) with h' | h' | h'
            · exact hb e.on h' (by omega)
            · cases hb2 : listed.getD e.on false with
              | true => rfl
              | false => have := hqmin e.on ⟨⟨h', by omega⟩, hb2⟩; omega
            · rw [List.contains_iff_mem.2 h'] at he3; cases he3
        obtain ⟨ki, hki⟩ := List.mem_iff_getElem?.1 hias
        obtain ⟨o', d, S, Δ, a1, a2, a3, a4, a6, a7, _⟩ := hat ki i hki
        rw [g2'] at a1; obtain rfl := Option.some.inj a1
        have hstep := a7 a w F (hctx i o Δ g2' hil g3 a6) (wpAny P .any l.toArray Q fuel (listed.setIfInBounds i true)) Q
        have hgo : ∀ v w' F', Adv w F w' F' → S.h w' F' v → wpAny P .any l.toArray Q fuel (listed.setIfInBounds i true) (a.put o.dst v) w' := by
          intro v w' F' ad hv
          rw [a2]
          exact hupd i ki o d S g2' hias hki a2 a3 a4 g1 g3 v w' F' ad hv
        have hres := hstep hgo
        unfold wpOp
        have ho : l.toArray[i]? = some o := by simpa using g2'
        rw [ho]
        exact hres
def DrC (E : Env) (P : Program) (l : List Oper) (Γ : Ctx) (M : Mem) (Q : Exit → Act → World → Prop) (es bs az : List Nat) (Θ : Ctx) : Prop :=
 ∀ Ss, DrL E P l Γ M es az Ss → (∀ t S, look Θ t = some S → ∃ (k j : Nat) (o : Oper), az[k]? = some j ∧ l[j]? = some o ∧ o.dst = some t ∧ Ss[k]? = some S) → DrB E P l Γ M Q bs
theorem DrB.go {l : List Oper} {bs : List Nat} (es : List Nat) (h : DrC E P l Γ M Q es bs [] []) : DrB E P l Γ M Q bs := h [] .nil (fun t S ht => by simp [look] at ht)
def behindL (l : List Oper) (i : Nat) (az ts : List Nat) : Bool :=
 let m := ((masks l [])[i]?).getD 0
 az.all fun j => m.testBit j || match (l[j]?).bind (·.dst) with
  | none => true
  | some d => ts.all fun t => !Nat.beq d t
theorem OKY.g {o : Oper} {S : VP} (hg : o.guard = none) (h : OKY E P Γ M o S) : OKG E P ops Γ M o S := OKG.o hg (.run fun a w F s => by
 obtain ⟨v, hv, hS⟩ := h a w F s
 exact ⟨v, hv w, hS⟩)
theorem DrC.stE {i d : Nat} {l : List Oper} {es bs az : List Nat} {Θ : Ctx} {S : VP} {o : Oper} (ts : List Nat) (h1 : l[i]? = some o) (h2 : o.dst = some d) (h3 : Nat.blt d E.n = true)
    (h4 : behindL l i az ts = true) (h5 : OKG E P l.toArray (keepc ts Θ ++ Γ) M o S) (h6 : es.contains i = true → OKY E P (keepc ts Θ ++ Γ) M o S ∧ o.guard = none) (k : DrC E P l Γ M Q es bs (az ++ [i]) ((d, S) :: Θ)) : DrC E P l Γ M Q es bs az Θ := by
  intro Ss hD hΘ
  obtain ⟨hlen, _⟩ := hD.at
  have up : ∀ {β : Type} (xs : List β) (x : β) (j : Nat) (T : β), xs[j]? = some T → (xs ++ [x])[j]? = some T := fun xs x j T hT => by
    have : j < xs.length := by
      rcases Nat.lt_or_ge j xs.length with h | h
      · exact h
      · rw [List.getElem?_eq_none h] at hT; cases hT
    rw [List.getElem?_append_left this]; exact hT
  refine k (Ss ++ [S]) (.snoc _ hD h1 h2 h3 (fun t S' ht => ?_) h5 h6) (fun t S' ht => ?_)
  · rw [look_append] at ht
    cases hl : look (keepc ts Θ) t with
    | none => rw [hl] at ht; exact .inr (by simpa using ht)
    | some S'' =>
      rw [hl] at ht
      obtain rfl : S'' = S' := by simpa using ht
      obtain ⟨hm, hl2⟩ := look_keepc _ _ _ hl
      obtain ⟨k', j, oj, b0, b1, b2, b3⟩ := hΘ t S'' hl2
      refine .inl ⟨k', j, oj, b0, ?_, b1, b2, b3⟩
      have := List.all_eq_true.1 h4 j (List.mem_of_getElem? b0)
      rw [b1] at this
      simp only [Option.bind_some, b2, Bool.or_eq_true] at this
      rcases this with h | h
      · exact h
      · have := List.all_eq_true.1 h t hm
        simp [Nat.beq_refl] at this
  · simp only [look] at ht
    cases hb : Nat.beq d t with
    | true =>
      rw [hb] at ht; simp at ht; subst ht
      obtain rfl := Nat.eq_of_beq_eq_true hb
      exact ⟨az.length, i, o, by simp, h1, h2, by rw [List.getElem?_append_right (by omega)]; simp [hlen]⟩
    | false =>
      rw [hb] at ht
      obtain ⟨k', j, oj, b0, b1, b2, b3⟩ := hΘ t S' ht
      exact ⟨k', j, oj, up _ _ _ _ b0, b1, b2, up _ _ _ _ b3⟩
theorem DrC.st {i d : Nat} {l : List Oper} {es bs az : List Nat} {Θ : Ctx} {S : VP} {o : Oper} (ts : List Nat) (h1 : l[i]? = some o) (h2 : o.dst = some d) (h3 : Nat.blt d E.n = true)
  (h4 : behindL l i az ts = true) (h0 : es.contains i = false) (h5 : OKG E P l.toArray (keepc ts Θ ++ Γ) M o S) (k : DrC E P l Γ M Q es bs (az ++ [i]) ((d, S) :: Θ)) : DrC E P l Γ M Q es bs az Θ :=
 DrC.stE ts h1 h2 h3 h4 h5 (fun h => by rw [h0] at h; cases h) k
theorem DrC.s {d : Nat} {l : List Oper} {es bs az : List Nat} {Θ : Ctx} {S : VP} {o : Oper} (i : Nat) (ts : List Nat) (h1 : l[i]? = some o) (h2 : o.dst = some d) (h3 : Nat.blt d E.n = true) (h5 : OKG E P l.toArray (keepc ts Θ ++ Γ) M o S) (k : DrC E P l Γ M Q es bs (az ++ [i]) ((d, S) :: Θ)) (h4 : behindL l i az ts = true := by kernel_rfl) (h0 : es.contains i = false := by kernel_rfl) : DrC E P l Γ M Q es bs az Θ :=
 DrC.st ts h1 h2 h3 h4 h0 h5 k
theorem DrC.ea {i d : Nat} {l : List Oper} {es bs az : List Nat} {Θ : Ctx} {S : VP} {o : Oper} (ts : List Nat) (h1 : l[i]? = some o) (h2 : o.dst = some d) (h3 : Nat.blt d E.n = true)
  (h4 : behindL l i az ts = true) (hg : o.guard = none) (h5 : OKY E P (keepc ts Θ ++ Γ) M o S) (k : DrC E P l Γ M Q es bs (az ++ [i]) ((d, S) :: Θ)) : DrC E P l Γ M Q es bs az Θ :=
 DrC.stE ts h1 h2 h3 h4 (OKY.g hg h5) (fun _ => ⟨h5, hg⟩) k
def takenB (l : List Oper) (bs : List Nat) : Bool := (bs.all fun i => match l[i]? with
    | none => true
    | some o => o.after.toList.all fun e => !Region.binds .any e || bs.contains e.on) &&
  ((List.range l.length).all fun i => (arrOf l.length bs).getD i false == bs.contains i) && Nat.ble ((arrOf l.length bs).toList.countP (· == false)) (l.length - bs.length)
theorem DrC.fin {l : List Oper} {es bs az : List Nat} {Θ : Ctx} (ts : List Nat) (hsel : Region.noSelect l.toArray = true) (heg : eagerB l es az ts = true) (hQ : ∀ c a w d v, Q (.panic c) (Act.put a (some d) v) w → Q (.panic c) a w) (htk : takenB l bs = true) (hap : apartL l az Γ = true) (hback : backB l = true) (hpart : partB l.length bs az ts = true) (hdis : disjB bs az ts = true) (hah : aheadB l (az.filter fun i => !es.contains i) ts = true) (hnd : nodupB ts = true) (hna : nodupB az = true) (hin : inB l.length ts = true)
    (k : Ops E P l.toArray Q (ts.filterMap fun i => l[i]?) (Θ ++ Γ) M) : DrC E P l Γ M Q es bs az Θ := by
  intro Ss hD hΘ a w F s
  simp only [takenB, Bool.and_eq_true] at htk
  obtain ⟨⟨t1, t2⟩, t3⟩ := htk
  have hlist : ∀ i, i < l.length → ((arrOf l.length bs).getD i false = true ↔ i ∈ bs) := fun i hi => by
    have := List.all_eq_true.1 t2 i (by simpa using hi)
    have h2 : (arrOf l.length bs).getD i false = bs.contains i := by simpa using this
    rw [h2, List.contains_iff_mem]
  have hsz := arrOf_size l.length bs
  have hout : ∀ i, l.length ≤ i → (arrOf l.length bs).getD i false = false := fun i hi => by
    have : ¬ i < (arrOf l.length bs).size := by omega
    simp [this]
  have hsame : ∀ t S, look (Θ ++ Γ) t = some S → look (dctxL l az Ss ++ Γ) t = some S := by
    intro t S ht
    rw [look_append] at ht
    rw [look_append]
    have hdl : ∀ i d, i ∈ az → (l[i]?).bind (·.dst) = some d → (∀ t S, look Γ t = some S → t ≠ d) ∧ ∀ j e, j ∈ az → j ≠ i → (l[j]?).bind (·.dst) = some e → e ≠ d := by
      intro i d hi hd
      have h1 := List.all_eq_true.1 hap i hi
      rw [hd] at h1
      simp only [Bool.and_eq_true] at h1
      refine ⟨look_none h1.1, fun j e hj hne he => ?_⟩
      have h2 := List.all_eq_true.1 h1.2 j hj
      rw [he] at h2
      simp only [Bool.or_eq_true, Bool.not_eq_true'] at h2
      rcases h2 with h2 | h2
      · exact absurd (Nat.eq_of_beq_eq_true h2).symm hne
      · exact fun e' => Nat.ne_of_beq_eq_false h2 e'.symm
    cases hl : look Θ t with
    | none =>
      rw [hl] at ht
      have ht' : look Γ t = some S := by simpa using ht
      have hno : look (dctxL l az Ss) t = none := by
        cases hd : look (dctxL l az Ss) t with
        | none => rfl
        | some S' =>
          obtain ⟨k', j, o, b0, b1, b2, b3⟩ := look_dctxL _ _ _ _ hd
          exact absurd rfl ((hdl j t (List.mem_of_getElem? b0) (by rw [b1]; exact b2)).1 t S ht')
      rw [hno]; simpa using ht'
    | some S' =>
      rw [hl] at ht
      obtain rfl : S' = S := by simpa using ht
      obtain ⟨k', j, o, b0, b1, b2, b3⟩ := hΘ t S' hl
      have hex : ∀ (as' : List Nat) (Ss' : List VP) (k : Nat), as'[k]? = some j → Ss'[k]? = some S' → nodupB as' = true → (∀ j', j' ∈ as' → j' ≠ j → (l[j']?).bind (·.dst) ≠ some t) → look (dctxL l as' Ss') t = some S' := by
        intro as'
        induction as' with
        | nil => intro Ss' k h; simp at h
        | cons x as' ih =>
          intro Ss' k h1 h2 hn h3
          simp only [nodupB, Bool.and_eq_true, Bool.not_eq_true'] at hn
          have hxn : x ∉ as' := by have := hn.1; simpa using this
          cases Ss' with
          | nil => simp at h2
          | cons T Ss' =>
            cases k with
            | zero =>
              have e1 : x = j := by simpa using h1
              have e2 : T = S' := by simpa using h2
              subst e1; subst e2
              simp only [dctxL, b1, Option.bind_some, b2, look, Nat.beq_refl]
            | succ k =>
              have hjm : j ∈ as' := List.mem_of_getElem? (show as'[k]? = some j by simpa using h1)
              have hxj : x ≠ j := fun e => hxn (e ▸ hjm)
              have hrec := ih Ss' k (by simpa using h1) (by simpa using h2) hn.2 (fun j' hj' hne => h3 j' (by simp [hj']) hne)
              have h0 := h3 x (by simp) hxj
              simp only [dctxL]
              cases hd : (l[x]?).bind (·.dst) with
              | none => exact hrec
              | some d' =>
                simp only [look]
                have hne : Nat.beq d' t = false := by
                  cases hb : Nat.beq d' t with
                  | false => rfl
                  | true => exact absurd (by rw [hd, Nat.eq_of_beq_eq_true hb]) h0
                rw [hne]; exact hrec
      have hlk := hex az Ss k' b0 b3 hna (fun j' hj' hne he' => (hdl j t (List.mem_of_getElem? b0) (by rw [b1]; exact b2)).2 j' t hj' hne he' rfl)
      rw [hlk]; rfl
  refine phaseL (bs := bs) hD hsel heg hQ hap hback hpart hdis hah hnd hna hin (fun a w F s => k a w F (s.wider fun t S ht => s.slots t S (hsame t S ht))) _ _ a w F (Nat.le_of_ble_eq_true t3) hsz (fun j hj hjl => (hlist j hjl).2 hj) (fun j hj => ?_) ?_ s ?_
  · rcases Nat.lt_or_ge j l.length with h | h
    · cases hb : (arrOf l.length bs).getD j false with
      | false => rfl
      | true =>
        exfalso
        simp only [disjB, Bool.and_eq_true, List.all_eq_true, Bool.not_eq_true'] at hdis
        have := (hdis.1 j hj).1
        have hm := (hlist j h).1 hb
        rw [← List.contains_iff_mem, this] at hm; cases hm
    · exact hout j h
  · intro i o ho hL e he hb
    have hil : i < l.length := by
      rcases Nat.lt_or_ge i l.length with h' | h'
      · exact h'
      · rw [List.getElem?_eq_none h'] at ho; cases ho
    have hib := (hlist i hil).1 hL
    have := List.all_eq_true.1 t1 i hib
    rw [ho] at this
    have h2 := List.all_eq_true.1 this e (by simpa using he)
    rw [hb] at h2
    simp only [Bool.not_true, Bool.false_or] at h2
    have hlt := backB_spec hback i o ho e he hb
    exact (hlist e.on (by omega)).2 (List.contains_iff_mem.1 h2)
  · intro k' j o d S hkj hL hj hd hS
    have hjl : j < l.length := by
      rcases Nat.lt_or_ge j l.length with h' | h'
      · exact h'
      · rw [List.getElem?_eq_none h'] at hj; cases hj
    have hjb := (hlist j hjl).1 hL
    exfalso
    simp only [disjB, Bool.and_eq_true, List.all_eq_true, Bool.not_eq_true'] at hdis
    have := hdis.2 j (List.mem_of_getElem? hkj)
    rw [← List.contains_iff_mem, this] at hjb; cases hjb
end
end Go.En
namespace Go.En
open Go.RowKit
section
variable {E : Env} {P : Program} {Γ : Ctx} {M : Mem} {ty : TypeId} {pos : String} {after : Array Edge} {gd : Option (Nat × Bool)} {d : Option Tmp}
 {ops : Array Oper} {Q : Exit → Act → World → Prop} {rest : List Oper} {T T' : TypeId} {x y : Operand} {α : Type} {f : α → VP} {fk : α → List VP} {xs : List α} {k : Nat}
def isPtrG (g : Gr α) (o : Nat) : VP := .pure fun v => ∃ b, g.ob = some b ∧ v = .pointer (some ⟨b, o, none⟩)
instance {g : Gr α} {o : Nat} : One (isPtrG g o) := ⟨fun w F v h => by obtain ⟨b, _, rfl⟩ := h; rfl⟩
instance {g : Gr α} {o : Nat} : Shape (isPtrG g o) [isPtrG g o] := .of_one inferInstance
theorem Has.ptrG {g : Gr α} {o b : Nat} (hob : g.ob = some b) (h : Has E Γ M x (isPtrG g o)) : Has E Γ M x (isPtr b o) := fun a w F s => by
 obtain ⟨b', hb, e⟩ := h a w F s
 obtain rfl : b = b' := by rw [hob] at hb; exact Option.some.inj hb
 exact e
theorem Has.winG {g : Gr α} {n b : Nat} (hob : g.ob = some b) (h : Has E Γ M x (isGr g n)) : Has E Γ M x (isWin b 0 n g.c) := fun a w F s => by
 rcases h a w F s with ⟨h0, _⟩ | ⟨b', hb, e, h1, h2⟩
 ·rw [hob] at h0; cases h0
 ·obtain rfl : b = b' := by rw [hob] at hb; exact Option.some.inj hb
  exact ⟨e, by omega, h2⟩
theorem noneG {g : Gr α} {n : Nat} (hob : g.ob = none) (h : Has E Γ M x (isGr g n)) : ∀ a w F, Sat E Γ M a w F → n = 0 := fun a w F s => by
 rcases h a w F s with ⟨_, h0, _⟩ | ⟨b', hb, _⟩
 ·exact h0
 ·rw [hob] at hb; cases hb
theorem OK1.ixGr {e : TypeId} {n m : Nat} {g : Gr α} {g0 : Bool} {z : Int} (hT : slB P T = some e) (ht : tyB P e = some (m, g0)) (hx : Has E Γ M x (isGr g n)) (hy : Has E Γ M y (isI z)) (h : 0 ≤ z ∧ z < n) :
    OK1 E P Γ M ⟨d, .indexAddr T x y, ty, pos, after, gd⟩ (isPtrG g (z.toNat * m)) := by
  cases hob : g.ob with
  | none =>
    intro a w F s
    have := noneG hob hx a w F s
    omega
  | some b =>
    intro a w F s K Q' hK
    refine OK1.ixWin hT ht (hx.winG hob) hy h a w F s K Q' fun v w' F' ad hv => hK v w' F' ad ?_
    refine ⟨b, hob, ?_⟩
    rw [show z.toNat * m = 0 + z.toNat * m by omega]
    exact hv
theorem OK1.absurdG {o : Oper} {S : VP} {g : Gr α} {j : Nat} (hob : g.ob = none) (hx : Has E Γ M x (isPtrG g j)) : OK1 E P Γ M o S := fun a w F s => by
 obtain ⟨b, hb, _⟩ := hx a w F s
 rw [hob] at hb; cases hb
theorem Ops.absurdG {g : Gr α} {j : Nat} (hob : g.ob = none) (hx : Has E Γ M x (isPtrG g j)) {l : List Oper} : Ops E P ops Q l Γ M := fun a w F s => by
 obtain ⟨b, hb, _⟩ := hx a w F s
 rw [hob] at hb; cases hb
theorem OK1.loadGK {i j : Nat} {g : Gr α} {ys : List α} {y' : α} (hk : ∀ y, (fk y).length = k) (hx : Has E Γ M x (isPtrG g (j * k))) (hM : M[i]? = some (grMK fk g ys)) (hT : tyB P T = some (k, true)) (hS : ys[j]? = some y') :
    OK1 E P Γ M ⟨d, .load T x, ty, pos, after, gd⟩ (Flat (fk y')) := by
  cases hob : g.ob with
  | none => exact OK1.absurdG hob hx
  | some b =>
    refine OK1.loadK (xs := ys ++ g.sp) (i := i) hk (hx.ptrG hob) (by rw [hM]; unfold grMK; rw [hob]) hT ?_
    have hj : j < ys.length := by
      rcases Nat.lt_or_ge j ys.length with h | h
      · exact h
      · rw [List.getElem?_eq_none h] at hS; cases hS
    rw [List.getElem?_append_left hj]; exact hS
theorem OK1.loadGM {i j : Nat} {g : Gr α} {ys : List α} {y' : α} (hx : Has E Γ M x (isPtrG g (j * 1))) (hM : M[i]? = some (grM f g ys)) (hT : tyB P T = some (1, false)) (hS : ys[j]? = some y') :
    OK1 E P Γ M ⟨d, .load T x, ty, pos, after, gd⟩ (f y') := by
  cases hob : g.ob with
  | none => exact OK1.absurdG hob hx
  | some b =>
    rw [Nat.mul_one] at hx
    refine OK1.load1 (i := i) (hx.ptrG hob) (Ss := (ys ++ g.sp).map f) (by rw [hM]; unfold grM; rw [hob]) hT ?_
    have hj : j < ys.length := by
      rcases Nat.lt_or_ge j ys.length with h | h
      · exact h
      · rw [List.getElem?_eq_none h] at hS; cases hS
    rw [List.getElem?_map, List.getElem?_append_left hj, hS]; rfl
theorem Ops.storeGK {i j : Nat} {g0 : Bool} {T : TypeId} {S : VP} {g : Gr α} {ys : List α} {z : α} [sh : Shape S (fk z)] [o1 : Ones (fk z)] (hk : ∀ y, (fk y).length = k) (hx : Has E Γ M x (isPtrG g (j * k))) (hy : Has E Γ M y S)
    (hM : M[i]? = some (grMK fk g ys)) (hT : tyB P T = some (k, g0)) (hl : j < ys.length) {M' : Mem} (hM' : M.set i (grMK fk g (ys.set j z)) = M') (kk : Ops E P ops Q rest Γ M') : Ops E P ops Q (⟨none, .store T x y, ty, pos, after, none⟩ :: rest) Γ M := by
  cases hob : g.ob with
  | none => exact Ops.absurdG hob hx
  | some b =>
    refine .storeK (z := z) (xs := ys ++ g.sp) (i := i) (b := b) (j := j) hk (hx.ptrG hob) hy (by rw [hM]; unfold grMK; rw [hob]) hT (by rw [List.length_append]; omega) (M' := M') ?_ kk
    rw [← hM']
    congr 1
    unfold grMK
    rw [hob, List.set_append_left _ _ hl]
theorem Ops.storeGM {i j : Nat} {T : TypeId} {g : Gr α} {ys : List α} {z : α} [sh : Shape (f z) [f z]] [o1 : One (f z)] (hx : Has E Γ M x (isPtrG g (j * 1))) (hy : Has E Γ M y (f z))
    (hM : M[i]? = some (grM f g ys)) (hT : tyB P T = some (1, false)) (hl : j < ys.length) {M' : Mem} (hM' : M.set i (grM f g (ys.set j z)) = M') (kk : Ops E P ops Q rest Γ M') : Ops E P ops Q (⟨none, .store T x y, ty, pos, after, none⟩ :: rest) Γ M := by
  cases hob : g.ob with
  | none => exact Ops.absurdG hob hx
  | some b =>
    rw [Nat.mul_one] at hx
    refine .storeM (z := z) (xs := ys ++ g.sp) (i := i) (b := b) (off := j) (hx.ptrG hob) hy (by rw [hM]; unfold grM; rw [hob]) hT (by rw [List.length_append]; omega) (M' := M') ?_ kk
    rw [← hM']
    congr 1
    unfold grM
    rw [hob, List.set_append_left _ _ hl]
def nilP : VP := .pure fun v => v = .pointer none
instance : One nilP := ⟨fun w F v h => by rw [show v = .pointer none from h]; rfl⟩
instance : Shape nilP [nilP] := .of_one inferInstance
theorem Has.cP : Has E Γ M (.const (.pointer none)) nilP := fun _ _ _ _ => rfl
theorem Tri.drhS {id : Nat} {l : List Oper} {Ms : Mem} (hs : Ms.Sublist M) (h : DrH E P id l Γ M Ms Q 0 []) : Tri E P (.region id l.toArray true) Γ M Q := h [] .nil (fun t S ht => by simp [look] at ht)
theorem Cv.perm {M' : Mem} (h : M.Perm M') : Cv E Γ M Γ M' := fun a w F s =>
 ⟨F, { s with mem := ⟨(h.pairwise_iff (fun {x y} hxy => by
  rcases hxy with h1 | h1
  ·by_cases h2 : y.1 = none
   ·exact .inl h2
   ·exact .inr (fun e => h2 (e.trans h1))
  ·exact .inr (fun e => h1 e.symm))).1 s.mem.apart, fun b C hb => s.mem.each b C (h.mem_iff.2 hb)⟩ }⟩
/-! ### functions over memory of their caller's -/
structure MemIn (M : Mem) (w : World) (F : Blk) : Prop where
 apart : M.Pairwise (fun x y => x.1 = none ∨ x.1 ≠ y.1)
 each : ∀ (b : Nat) (C : MP), (some b, C) ∈ M → b < w.heap.size ∧ ¬ F b ∧ ∃ o, w.heap[b]? = some o ∧ C.h w F o
def blks (M : Mem) : List Nat := M.filterMap (·.1)
theorem mem_blks {M : Mem} {b : Nat} : b ∈ blks M ↔ ∃ C, (some b, C) ∈ M := by
 unfold blks
 rw [List.mem_filterMap]
 constructor
 ·rintro ⟨⟨k, C⟩, h1, h2⟩
  obtain rfl : k = some b := h2
  exact ⟨C, h1⟩
 ·rintro ⟨C, h⟩; exact ⟨_, h, rfl⟩
def RetX (w : World) (F : Blk) (W : List Nat) (R : VP → Mem → Prop) : Ending → World → Prop := fun e w' => ∃ v S M' F', e = .returned v ∧ R S M' ∧ Keep W w w' ∧ (∀ k, F k → F' k) ∧ (∀ k, F' k → fresh F w w' k) ∧ S.h w' F' v ∧
 M'.Pairwise (fun x y => x.1 = none ∨ x.1 ≠ y.1) ∧ ∀ (b : Nat) (C : MP), (some b, C) ∈ M' → (w.heap.size ≤ b ∨ b ∈ W) ∧ b < w'.heap.size ∧ ¬ F' b ∧ ∃ o, w'.heap[b]? = some o ∧ C.h w' F' o
def CtrX (P : Program) (f : FuncId) (args : List VP) (M : Mem) (R : VP → Mem → Prop) : Prop :=
 Enters P f ∧ ∀ (w : World) (F : Blk) (vs : List Value), (∀ k, F k → k < w.heap.size) → MemIn M w F → All2 args w F vs → Calls P f vs.toArray w (RetX w F (blks M) R)
theorem inBlks {Ma Mb : Mem} (h : Mb.Sublist Ma) : ∀ k, k ∈ blks Mb → ∃ C, (some k, C) ∈ Ma := fun k hk => by
 obtain ⟨C, hC⟩ := mem_blks.1 hk
 exact ⟨C, h.subset hC⟩
theorem CtrX.intro {f : FuncId} {fn : Func} {c : Code} {args : List VP} {M : Mem} {R : VP → Mem → Prop} (hf : P.funcs[f]? = some fn) (hb : fn.body = some c) (hn : (fn.name == "runtime.NumGoroutine") = false) {nt : Nat} (hnt : fn.ntmps = nt)
  (hsz : Nat.ble args.length nt = true) (h : ∀ w F, Tri ⟨w, F, blks M, nt⟩ P c (argsCtx 0 args) M (bodyPost P fn (RetX w F (blks M) R))) : CtrX P f args M R := by
 subst hnt
 refine ⟨⟨fn, hf, by simp [hb], hn⟩, fun w F vs hF hm hargs => ?_⟩
 have hlen := hargs.len
 have hsz' : args.length ≤ fn.ntmps := by simpa using Nat.le_of_ble_eq_true hsz
 refine calls_of_wp hf hb (h w F _ w F ?_)
 refine { defers := rfl, size := ?_, keep := Keep.refl _ _, f0 := fun _ h => h, fnew := fun _ h => .inl h, flt := hF, slots := ?_, mem := ⟨hm.apart, fun k C hk => ?_⟩ }
 ·simp; omega
 ·intro t S ht
  obtain ⟨_, h2⟩ := look_args args 0 t S ht
  obtain ⟨v, hv, hS⟩ := hargs.get t S (by simpa using h2)
  have : (vs.toArray ++ Array.replicate (fn.ntmps - vs.toArray.size) undef).getD t undef = v := by
   have hlt : t < vs.length := by
    rcases Nat.lt_or_ge t vs.length with h | h
    ·exact h
    ·simp [List.getElem?_eq_none h] at hv
   have e : vs[t] = v := by rw [List.getElem?_eq_getElem hlt] at hv; exact Option.some.inj hv
   simp [Array.getElem?_append, hlt, e]
  rw [this]; exact hS
 ·obtain ⟨h1, h2, h3⟩ := hm.each k C hk
  exact ⟨.inr (mem_blks.2 ⟨C, hk⟩), h1, h2, h3⟩
theorem Ops.callX {g : FuncId} {xs : List Operand} {ts : Array TypeId} {args : List VP} {Mp Mr : Mem} {R : VP → Mem → Prop} {d : Nat} (hf : CtrX P g args Mp R) (hp : M.Perm (Mp ++ Mr)) (hx : HasL E Γ M xs args) (hd : Nat.blt d E.n = true)
    (kk : ∀ S M', R S M' → Ops E P ops Q rest ((d, S) :: Γ) (M' ++ Mr)) : Ops E P ops Q (⟨some d, .call ⟨.value (.func g), xs.toArray, ts⟩, ty, pos, after, none⟩ :: rest) Γ M := by
  intro a w F s0
  refine wpList_plain rfl fun K hK => ?_
  unfold Oper.wp
  have hr : (execOp a.eval (⟨some d, .call ⟨.value (.func g), xs.toArray, ts⟩, ty, pos, after, none⟩ : Oper)).run P w = .ok (.enter g (xs.map a.eval).toArray) w := by
    have := run_enter hf.1 (xs.map a.eval).toArray w
    simpa [go_sem] using this
  rw [hr]
  have hargs := hx.all s0
  have s : Sat E Γ (Mp ++ Mr) a w F := by
    obtain ⟨F', h⟩ := (Cv.perm (E := E) (Γ := Γ) hp) a w F s0
    exact { s0 with mem := ⟨h.mem.apart, fun b C hb => s0.mem.each b C (hp.mem_iff.2 hb)⟩ }
  have hapart := List.pairwise_append.1 s.mem.apart
  have hmp : MemIn Mp w F := ⟨hapart.1, fun b C hb => by
    obtain ⟨_, h2, h3, h4⟩ := s.mem.each b C (List.mem_append_left _ hb)
    exact ⟨h2, h3, h4⟩⟩
  refine (hf.2 w F _ s.flt hmp hargs).mono ?_
  rintro e w' ⟨v, S, M', F', rfl, hR, hk, hsub, hnew, hv, hap, heach⟩
  have hd' : d < E.n := by simpa [Nat.blt_eq] using hd
  have hW : ∀ b, b ∈ blks Mp → ¬ F b := fun b hb hF => by
    obtain ⟨C, hC⟩ := mem_blks.1 hb
    exact (hmp.each b C hC).2.1 hF
  have hsame : ∀ b, F b → w'.heap[b]? = w.heap[b]? := fun b hb => hk.block b (s.flt b hb) (fun h => hW b h hb)
  have hown : ∀ b, b ∈ blks Mp → E.w0.heap.size ≤ b ∨ b ∈ E.W := fun b hb => by
    obtain ⟨C, hC⟩ := mem_blks.1 hb
    exact (s.mem.each b C (List.mem_append_left _ hC)).1
  have hrest : ∀ (b : Nat) (C : MP), (some b, C) ∈ Mr → b ∉ blks Mp ∧ b < w.heap.size := fun b C hb => by
    refine ⟨fun h => ?_, (s.mem.each b C (List.mem_append_right _ hb)).2.1⟩
    obtain ⟨C', hC'⟩ := mem_blks.1 h
    have := hapart.2.2 _ hC' _ hb
    rcases this with h | h
    · cases h
    · exact h rfl
  have s' : Sat E Γ (M' ++ Mr) a w' F' := {
    defers := s.defers, size := s.size
    keep := by
      refine ⟨hk.os.trans s.keep.os, hk.tape.trans s.keep.tape, hk.output.trans s.keep.output, Nat.le_trans s.keep.size hk.size, fun k hk0 hkW => ?_⟩
      rw [hk.block k (Nat.lt_of_lt_of_le hk0 s.keep.size) (fun h => by rcases hown k h with h' | h'; omega; exact hkW h')]
      exact s.keep.block k hk0 hkW
    f0 := fun b h => hsub b (s.f0 b h)
    fnew := fun b h => by
      rcases hnew b h with h1 | h1
      · rcases s.fnew b h1 with h2 | h2
        · exact .inl h2
        · exact .inr ⟨h2.1, Nat.lt_of_lt_of_le h2.2 hk.size⟩
      · exact .inr ⟨Nat.le_trans s.keep.size h1.1, h1.2⟩
    flt := fun b h => by
      rcases hnew b h with h1 | h1
      · exact Nat.lt_of_lt_of_le (s.flt b h1) hk.size
      · exact h1.2
    slots := fun t S h => S.mono _ _ _ _ _ (s.slots t S h) hsame hsub
    mem := by
      refine ⟨List.pairwise_append.2 ⟨hap, hapart.2.1, ?_⟩, ?_⟩
      · rintro ⟨k, C⟩ h1 ⟨k', C'⟩ h2
        cases k with
        | none => exact .inl rfl
        | some b =>
          refine .inr fun e => ?_
          subst e
          obtain ⟨g1, _⟩ := heach b C h1
          obtain ⟨g2, g3⟩ := hrest b C' h2
          rcases g1 with g1 | g1
          · omega
          · exact g2 g1
      · intro b C hb
        rcases List.mem_append.1 hb with h | h
        · obtain ⟨g1, g2, g3, g4⟩ := heach b C h
          refine ⟨?_, g2, g3, g4⟩
          rcases g1 with g1 | g1
          · exact .inl (Nat.le_trans s.keep.size g1)
          · exact hown b g1
        · obtain ⟨g1, g2, g3, o, g4, g5⟩ := s.mem.each b C (List.mem_append_right _ h)
          obtain ⟨r1, r2⟩ := hrest b C h
          refine ⟨g1, Nat.lt_of_lt_of_le g2 hk.size, fun hF => ?_, o, (hk.block b g2 r1).trans g4, C.mono _ _ _ _ _ g5 hsame hsub⟩
          rcases hnew b hF with h1 | h1
          · exact g3 h1
          · omega }
  exact hK _ _ (kk S M' hR _ _ _ (s'.put hd' hv))
theorem fin_retX {fn : Func} {R : VP → Mem → Prop} {S : VP} {W : List Nat} {e : Exit} {a : Act} {w : World} {F : Blk} (he : e = .ret ∨ e = .normal) (s : Sat E Γ M a w F) (hw : E.W = W) {v : Value} (hv : (results fn a.tmps).run P w = .ok v w) (hS : S.h w F v) (hR : R S M) :
  bodyPost P fn (RetX E.w0 E.F0 W R) e a w := by
 have hk := s.keep
 rw [hw] at hk
 have hb : a.defers = [] ∧ ∃ v, (results fn a.tmps).run P w = .ok v w ∧ RetX E.w0 E.F0 W R (.returned v) w :=
  ⟨s.defers, _, hv, v, S, M, F, rfl, hR, hk, s.f0, fun k h => (s.fnew k h).imp id id, hS, s.mem.apart, fun b C hb => by
   obtain ⟨g1, g2, g3, g4⟩ := s.mem.each b C hb
   rw [hw] at g1
   exact ⟨g1, g2, g3, g4⟩⟩
 rcases he with rfl | rfl <;> exact hb
theorem rtX1 {fn : Func} {r : ResultVar} {R : VP → Mem → Prop} {S : VP} {W : List Nat} {e : Exit} (he : e = .ret ∨ e = .normal) (hr : fn.results = #[r]) (hw : E.W = W) (h : ResL E P Γ M [r] [S]) (hR : R S M) : At E Γ M (bodyPost P fn (RetX E.w0 E.F0 W R)) e := by
 intro a w F s
 obtain ⟨vs, h1, h2⟩ := run_results hr h s
 match vs, h2 with
 | [v], h2 => exact fin_retX he s hw (by simpa using h1) h2.1 hR
 | [], h2 => exact h2.elim
 | _ :: _ :: _, h2 => exact h2.2.elim
theorem rtX0 {fn : Func} {R : VP → Mem → Prop} {W : List Nat} {e : Exit} (he : e = .ret ∨ e = .normal) (hr : fn.results = #[]) (hw : E.W = W) (hR : R (isTup []) M) : At E Γ M (bodyPost P fn (RetX E.w0 E.F0 W R)) e := by
 intro a w F s
 obtain ⟨vs, h1, h2⟩ := run_results (rs := []) hr .nil s
 cases vs with
 | nil => exact fin_retX he s hw (by simpa using h1) (S := isTup []) ⟨[], rfl, trivial⟩ hR
 | cons => exact h2.elim
theorem rtXN {fn : Func} {rs : List ResultVar} {Rs : List VP} {R : VP → Mem → Prop} {W : List Nat} {e : Exit} (he : e = .ret ∨ e = .normal) (hr : fn.results = rs.toArray) (hn : Nat.beq rs.length 1 = false) (hw : E.W = W) (h : ResL E P Γ M rs Rs) (hR : R (isTup Rs) M) : At E Γ M (bodyPost P fn (RetX E.w0 E.F0 W R)) e := by
 intro a w F s
 obtain ⟨vs, h1, h2⟩ := run_results hr h s
 have hl : Rs.length = rs.length := by
  clear h1 h2 s a w F vs hR
  clear hn hr
  induction h with
  | nil => rfl
  | tmp _ _ ih => simp [ih]
  | cell _ _ _ _ _ _ ih => simp [ih]
  | cell1 _ _ _ _ _ ih => simp [ih]
 have hne : vs.length ≠ 1 := by rw [← h2.len, hl]; exact Nat.ne_of_beq_eq_false hn
 rw [dif_neg hne] at h1
 exact fin_retX (S := isTup Rs) he s hw h1 ⟨vs, rfl, h2⟩ hR
theorem CtrX.toCtr {f : FuncId} {args : List VP} {R : VP → Mem → Prop} {S : VP} (h : CtrX P f args [] R) (hR : ∀ S' M', R S' M' → S' = S) : Ctr P f args S :=
 ⟨h.1, fun w F vs hF hargs => (h.2 w F vs hF ⟨List.Pairwise.nil, by simp⟩ hargs).mono (by
  rintro e w' ⟨v, S', M', F', rfl, hr, hk, hsub, hnew, hv, _⟩
  obtain rfl := hR S' M' hr
  exact ⟨v, rfl, hk, S'.mono _ _ _ _ _ hv (fun _ _ => rfl) hnew⟩)⟩
end
end Go.En
