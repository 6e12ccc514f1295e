/- Drawn regions in which stores into blocks of the call's own stand beside what reads others. -/
import Derived.Test.YtokhpacdgoebpaaMn
namespace Go.En
open Go.RowKit
set_option linter.unusedVariables false
section
variable {E : Env} {P : Program} {Γ : Ctx} {M : Mem} {ty : TypeId} {pos : String} {after : Array Edge} {gd : Option (Nat × Bool)} {d : Option Tmp}
  {ops : Array Oper} {Q : Exit → Act → World → Prop} {rest : List Oper}

theorem Sat.sub {M' : Mem} {a : Act} {w : World} {F : Blk} (s : Sat E Γ M a w F) (h : M'.Sublist M) : Sat E Γ M' a w F :=
  { s with mem := ⟨s.mem.apart.sublist h, fun b C hb => s.mem.each b C (h.subset hb)⟩ }

/-- a step that stores into one of the blocks -/
def StS (E : Env) (P : Program) (Δ : Ctx) (M : Mem) (o : Oper) (M' : Mem) : Prop := o.guard = none ∧ ∀ a w F, Sat E Δ M a w F → ∀ (K : Act → World → Prop) (Q : Exit → Act → World → Prop),
  (∀ w', (∀ b, F b → w'.heap[b]? = w.heap[b]?) → (∀ Γ'', Sat E Γ'' M a w F → Sat E Γ'' M' a w' F) → K a w') → o.wp P a w K Q

theorem StS.store {x y : Operand} {b off i n : Nat} {g : Bool} {T : TypeId} {Ss Ss1 : List VP} {S : VP} [sh : Shape S Ss1] [o1 : Ones Ss1] (hx : Has E Γ M x (isPtr b off)) (hy : Has E Γ M y S)
    (hM : M[i]? = some (some b, cellM Ss)) (hT : tyB P T = some (n, g)) (hn : Nat.beq Ss1.length n = true) (hl : Nat.ble (off + n) Ss.length = true) {Ss' : List VP} {M' : Mem} (hS : Ss.take off ++ Ss1 ++ Ss.drop (off + n) = Ss')
    (hM' : M.set i (some b, cellM Ss') = M') : StS E P Γ M ⟨none, .store T x y, ty, pos, after, none⟩ M' := by
  refine ⟨rfl, fun a w F s K Q hK => ?_⟩
  obtain ⟨o, hb, vs, T', rfl, hv⟩ := mem_at s hM
  have h1 : a.eval x = .pointer (some ⟨b, off, none⟩) := hx a w F s
  have hy' := sh.cells _ _ _ (hy a w F s)
  have hn' : Ss1.length = n := Nat.eq_of_beq_eq_true hn
  have hl' := Nat.le_of_ble_eq_true hl
  have e1 := hv.len
  have e2 := hy'.len
  have hcs : (a.eval y).cells.size = n := by rw [← Array.length_toList, ← e2, hn']
  unfold Oper.wp
  have hr : (execOp a.eval (⟨none, .store T x y, ty, pos, after, none⟩ : Oper)).run P w = .ok .skip (w.setRow b (vs.take off ++ (a.eval y).cells.toList ++ vs.drop (off + n)).toArray) := by
    have h2 := run_storeCells_at P b off T' (a.eval y).cells.toList 0 vs.toArray w hb (by simp; omega) (hy'.one o1.ones)
    simp only [Nat.add_zero, Array.length_toList, hcs] at h2
    simp only [execOp, h1, Instr.storeAt, Instr.sureAddr, storeVar, Sem.run_bind, Sem.run_pure, Result.andThen_ok, run_size hT, hcs]
    simp only [ne_eq, not_true_eq_false, if_false, h2, Result.andThen_ok]
  rw [hr]
  have hF : ∀ k, F k → (w.setRow b (vs.take off ++ (a.eval y).cells.toList ++ vs.drop (off + n)).toArray).heap[k]? = w.heap[k]? := fun k hk => setRow_ne _ _ _ _ (fun e => by
    subst e; exact (s.mem.each k _ (List.mem_of_getElem? hM)).2.2.1 hk)
  refine hK _ hF fun Γ'' s'' => ?_
  rw [← hM']
  refine s''.write hM rfl rfl rfl (setRow_size _ _ _) (fun k hk => setRow_ne _ _ _ _ hk) (setRow_heap _ _ _ _ _ _ hb) ⟨_, T', rfl, ?_⟩
  refine All2.mono hF (fun _ h => h) _ _ ?_
  rw [← hS]
  exact ((hv.take off).append hy').append (hv.drop _)

/-- one store of the row of stores: what it stands behind -/
structure MidAt (E : Env) (P : Program) (l : List Oper) (Γ : Ctx) (Ss : List VP) (n1 m : Nat) (M M' : Mem) : Prop where
  ex : ∃ (o : Oper) (Δ : Ctx), l[n1 + m]? = some o ∧ o.dst = none ∧
    (∀ t S, look Δ t = some S → (∃ (j : Nat) (oj : Oper), (((masks l [])[n1 + m]?).getD 0).testBit j = true ∧ l[j]? = some oj ∧ oj.dst = some t ∧ Ss[j]? = some S) ∨ look Γ t = some S) ∧
    (∀ j, j < m → (((masks l [])[n1 + m]?).getD 0).testBit (n1 + j) = true) ∧ StS E P Δ M o M'

theorem phaseC {l : List Oper} {n1 k : Nat} {Ss : List VP} {Ms : Mem} {f : Nat → Mem} (hD : Dr E P l Γ Ms n1 Ss) (hsub : ∀ m, m ≤ k → Ms.Sublist (f m)) (hmid : ∀ m, m < k → MidAt E P l Γ Ss n1 m (f m) (f (m + 1)))
    (hap : apartB l n1 Γ = true) (htl : tailB l (n1 + k) = true) (hnl : n1 + k ≤ l.length) (kk : Ops E P l.toArray Q (l.drop (n1 + k)) (dctx (l.take n1) Ss ++ Γ) (f k)) :
    ∀ (fuel : Nat) (listed : Array Bool) (a : Act) (w : World) (F : Blk) (m : Nat), m ≤ k → listed.toList.countP (· == false) ≤ fuel → listed.size = l.length →
    (∀ j, n1 + m ≤ j → j < l.length → listed.getD j true = false) → (∀ j, n1 ≤ j → j < n1 + m → listed.getD j true = true) → Closed l (fun j => listed.getD j false = true) → Sat E Γ (f m) a w F → Done l Ss (fun j => listed.getD j false = true) a w F →
    wpAny P .any l.toArray Q fuel listed a w := by
  obtain ⟨hlen, hat⟩ := hD.at
  have hsp := tailB_spec htl
  have gd : ∀ (listed : Array Bool) j, j < listed.size → listed.getD j true = listed.getD j false := fun listed j hj => by simp [hj]
  have hapart : ∀ i d, i < n1 → (l[i]?).bind (·.dst) = some d → (∀ t S, look Γ t = some S → t ≠ d) ∧ ∀ j e, j < n1 → j ≠ i → (l[j]?).bind (·.dst) = some e → e ≠ d := by
    intro i d hi hd
    unfold apartB at hap
    rw [List.all_eq_true] at hap
    have h1 := hap i (by simpa using hi)
    rw [hd] at h1
    simp only [Bool.and_eq_true] at h1
    refine ⟨look_none h1.1, fun j e hj hne he => ?_⟩
    have h2 := List.all_eq_true.1 h1.2 j (by simpa using hj)
    rw [he] at h2
    simp only [Bool.or_eq_true, Bool.not_eq_true'] at h2
    rcases h2 with h2 | h2
    · exact absurd (Nat.eq_of_beq_eq_true h2).symm hne
    · exact fun e' => Nat.ne_of_beq_eq_false h2 e'.symm
  have hend : ∀ (fuel : Nat) (listed : Array Bool) (a : Act) (w : World) (F : Blk) (m : Nat), m ≤ k → listed.toList.countP (· == false) ≤ fuel → listed.size = l.length →
      (∀ j, n1 + m ≤ j → j < l.length → listed.getD j true = false) → Closed l (fun j => listed.getD j false = true) → Sat E Γ (f m) a w F → Done l Ss (fun j => listed.getD j false = true) a w F →
      (∀ j, j < n1 + k → j < l.length → listed.getD j true = true) → wpAny P .any l.toArray Q fuel listed a w := by
    intro fuel listed a w F m hm hcnt hsz htail hc s hdone hall
    obtain rfl : m = k := by
      rcases Nat.lt_or_ge m k with h | h
      · have h1 := htail (n1 + m) (Nat.le_refl _) (by omega)
        have h2 := hall (n1 + m) (by omega) (by omega)
        rw [h1] at h2; cases h2
      · omega
    have hge := count_ge hsz htail
    refine phaseB htl fuel (n1 + m) listed a w (Nat.le_refl _) (by omega) hsz hall htail hc (kk a w F (s.wider ?_))
    intro t S ht
    rw [look_append] at ht
    cases hl : look (dctx (l.take n1) Ss) t with
    | none => rw [hl] at ht; exact s.slots t S (by simpa using ht)
    | some S' =>
      rw [hl] at ht
      obtain rfl : S' = S := by simpa using ht
      obtain ⟨j, o, h1, h2, h3⟩ := look_dctx _ _ _ _ hl
      have hj : j < n1 := by
        rcases Nat.lt_or_ge j n1 with h' | h'
        · exact h'
        · rw [List.getElem?_eq_none (by omega)] at h3; cases h3
      rw [List.getElem?_take_of_lt hj] at h1
      exact hdone j o t S' (by have h4 := hall j (by omega) (by omega); rw [gd listed j (by omega)] at h4; exact h4) h1 h2 h3
  intro fuel
  induction fuel with
  | zero =>
    intro listed a w F m hm hcnt hsz htail hmids hc s hdone
    refine hend 0 listed a w F m hm hcnt hsz htail hc s hdone fun j hj hjl => ?_
    have hlt : j < listed.size := by omega
    have h0 : listed.toList.countP (· == false) = 0 := by omega
    rw [List.countP_eq_zero] at h0
    have := h0 listed[j] (by simp)
    simp [hlt]
    simpa using this
  | succ fuel ih =>
    intro listed a w F m hm hcnt hsz htail hmids hc s hdone
    by_cases hall : ∀ j, j < n1 + k → j < l.length → listed.getD j true = true
    · exact hend _ listed a w F m hm hcnt hsz htail hc s hdone hall
    · have hex : ∃ j, j < n1 + k ∧ listed.getD j true = false := by
        refine Classical.byContradiction fun hno => hall fun j hj _ => ?_
        cases hb : listed.getD j true with
        | true => rfl
        | false => exact absurd ⟨j, hj, hb⟩ hno
      refine ⟨fun hr => ?_, fun i hi => ?_⟩
      · obtain ⟨j, ⟨hj1, hj2⟩, hmin⟩ := exists_least hex
        have : j ∈ Region.ready .any l.toArray listed := by
          rw [mem_ready]
          have hjl : j < l.length := by omega
          refine ⟨hj2, l[j], by simp [hjl], fun e he hb => ?_⟩
          have hlt := hsp.1 j _ (List.getElem?_eq_getElem hjl) e he hb
          cases hbb : listed.getD e.on true with
          | true => rw [gd listed e.on (by omega)] at hbb; exact hbb
          | false => have := hmin e.on ⟨by omega, hbb⟩; omega
        rw [hr] at this; simp at this
      · have hi' := hi
        rw [mem_ready] at hi
        obtain ⟨g1, o, g2, g3⟩ := hi
        have g2' : l[i]? = some o := by simpa using g2
        have hil : i < l.length := by
          rcases Nat.lt_or_ge i l.length with h' | h'
          · exact h'
          · rw [List.getElem?_eq_none h'] at g2'; cases g2'
        have hin : i < n1 + k := by
          rcases Nat.lt_or_ge i (n1 + k) with h' | h'
          · exact h'
          · obtain ⟨j, hj1, hj2⟩ := hex
            obtain ⟨q, hq, hb⟩ := hsp.2 i hil h' j (by omega)
            have := reach hc i o g2' g3 j q hq hb
            have e : listed.getD j false = true := this
            rw [← gd listed j (by omega), hj2] at e; cases e
        have hmask : i < (masks l []).length := by rw [masks_len]; simpa using hil
        have hcount : (listed.setIfInBounds i true).toList.countP (· == false) ≤ fuel := by
          have hlt : i < listed.toList.length := by simp; omega
          have hli : listed.toList[i] = false := by
            have : i < listed.size := by omega
            simp [this] at g1; simpa using g1
          rw [Array.toList_setIfInBounds, List.countP_set hlt]
          rw [hli]
          have hpos : 0 < listed.toList.countP (· == false) := List.countP_pos_iff.2 ⟨false, by rw [← hli]; exact List.getElem_mem _, rfl⟩
          simp only [beq_self_eq_true, if_true]
          show _ - 1 + 0 ≤ fuel
          omega
        have hclosed : Closed l (fun j => (listed.setIfInBounds i true).getD j false = true) := by
          intro j oj hj hL e he hb
          by_cases ek : j = i
          · subst ek
            rw [g2'] at hj; obtain rfl := Option.some.inj hj
            exact getD_set_true (g3 e he hb)
          · exact getD_set_true (hc j oj hj (by
              have hL' : (listed.setIfInBounds i true).getD j false = true := hL
              rwa [getD_set_ne false (fun h => ek h.symm)] at hL') e he hb)
        have hctx : ∀ Δ : Ctx, (∀ t S, look Δ t = some S → (∃ (j : Nat) (oj : Oper), (((masks l [])[i]?).getD 0).testBit j = true ∧ l[j]? = some oj ∧ oj.dst = some t ∧ Ss[j]? = some S) ∨ look Γ t = some S) →
            ∀ t S, look Δ t = some S → S.h w F (a.tmps.getD t undef) := by
          intro Δ a6 t S' ht
          rcases a6 t S' ht with ⟨j, oj, b0, b1, b2, b3⟩ | h
          · rw [List.getElem?_eq_getElem hmask] at b0
            exact hdone j oj t S' (reach hc i o g2' g3 j _ (List.getElem?_eq_getElem hmask) (by simpa using b0)) b1 b2 b3
          · exact s.slots t S' h
        have ho : l.toArray[i]? = some o := by simpa using g2'
        rcases Nat.lt_or_ge i n1 with hin1 | hin1
        · obtain ⟨o', d, S, Δ, a1, a2, a3, a4, a6, a7⟩ := hat i hin1
          rw [g2'] at a1; obtain rfl := Option.some.inj a1
          have hbind : (l[i]?).bind (·.dst) = some d := by rw [g2']; exact a2
          obtain ⟨ap1, ap2⟩ := hapart i d hin1 hbind
          have hsat : Sat E Δ Ms a w F := (s.wider (hctx Δ a6)).sub (hsub m hm)
          have hstep := a7 a w F hsat (wpAny P .any l.toArray Q fuel (listed.setIfInBounds i true)) Q
          have hgo : ∀ v w' F', Adv w F w' F' → S.h w' F' v → wpAny P .any l.toArray Q fuel (listed.setIfInBounds i true) (a.put o.dst v) w' := by
            intro v w' F' ad hv
            rw [a2]
            have s1 := s.adv ad
            refine ih _ _ w' F' m hm hcount (by simp [hsz]) (fun j hj hjl => ?_) (fun j h1 h2 => ?_) hclosed (s1.putOut a3 v ap1) ?_
            · rw [getD_set_ne true (by omega)]; exact htail j hj hjl
            · rw [getD_set_ne true (by omega)]; exact hmids j h1 h2
            · intro j oj dj Sj hL hj hdj hSj
              rw [getD_put (by rw [s1.size]; exact a3)]
              by_cases ek : j = i
              · subst ek
                rw [g2'] at hj; obtain rfl := Option.some.inj hj
                rw [a2] at hdj; obtain rfl := Option.some.inj hdj
                rw [a4] at hSj; obtain rfl := Option.some.inj hSj
                rw [if_pos rfl]; exact hv
              · have hjn : j < n1 := by
                  rcases Nat.lt_or_ge j n1 with h' | h'
                  · exact h'
                  · rw [List.getElem?_eq_none (by omega)] at hSj; cases hSj
                have hne := ap2 j dj hjn ek (by rw [hj]; exact hdj)
                rw [if_neg (fun e => hne e.symm)]
                refine Sj.mono _ _ _ _ _ (hdone j oj dj Sj ?_ hj hdj hSj) (ad.same s.flt) ad.sub
                have hL' : (listed.setIfInBounds i true).getD j false = true := hL
                rwa [getD_set_ne false (fun h => ek h.symm)] at hL'
          have hres := hstep hgo
          unfold wpOp
          rw [ho]
          exact hres
        · -- a store: the next one of the row
          have him : n1 + m ≤ i := by
            rcases Nat.lt_or_ge i (n1 + m) with h | h
            · rw [hmids i hin1 h] at g1; cases g1
            · exact h
          have hieq : i = n1 + m := by
            rcases Nat.lt_or_ge (n1 + m) i with h | h
            · obtain ⟨o', Δ, b1, b2, b3, b4, b5⟩ := (hmid (i - n1) (by omega)).ex
              have hb := b4 m (by omega)
              rw [show n1 + (i - n1) = i by omega, List.getElem?_eq_getElem hmask] at hb
              have := reach hc i o g2' g3 (n1 + m) _ (List.getElem?_eq_getElem hmask) (by simpa using hb)
              have e : listed.getD (n1 + m) false = true := this
              rw [← gd listed (n1 + m) (by omega), htail (n1 + m) (Nat.le_refl _) (by omega)] at e; cases e
            · omega
          subst hieq
          have hmk : m < k := by omega
          obtain ⟨o', Δ, b1, b2, b3, b4, b5, b6⟩ := (hmid m hmk).ex
          rw [g2'] at b1; obtain rfl := Option.some.inj b1
          have hsat : Sat E Δ (f m) a w F := s.wider (hctx Δ b3)
          have hgo : ∀ w', (∀ b, F b → w'.heap[b]? = w.heap[b]?) → (∀ Γ'', Sat E Γ'' (f m) a w F → Sat E Γ'' (f (m + 1)) a w' F) → wpAny P .any l.toArray Q fuel (listed.setIfInBounds (n1 + m) true) a w' := by
            intro w' hF hS
            refine ih _ _ w' F (m + 1) hmk hcount (by simp [hsz]) (fun j hj hjl => ?_) (fun j h1 h2 => ?_) hclosed (hS Γ s) ?_
            · rw [getD_set_ne true (by omega)]; exact htail j (by omega) hjl
            · by_cases e : j = n1 + m
              · subst e
                have : n1 + m < listed.size := by omega
                simp [this]
              · rw [getD_set_ne true (by omega)]; exact hmids j h1 (by omega)
            · intro j oj dj Sj hL hj hdj hSj
              have hjn : j < n1 := by
                rcases Nat.lt_or_ge j n1 with h' | h'
                · exact h'
                · rw [List.getElem?_eq_none (by omega)] at hSj; cases hSj
              refine Sj.mono _ _ _ _ _ (hdone j oj dj Sj ?_ hj hdj hSj) hF (fun _ h => h)
              have hL' : (listed.setIfInBounds (n1 + m) true).getD j false = true := hL
              rwa [getD_set_ne false (by omega)] at hL'
          unfold wpOp
          rw [ho]
          show if Region.wanted o (yielded l.toArray a.tmps) then _ else _
          rw [if_pos (by simp [Region.wanted, b5])]
          exact .inl (b6 a w F hsat _ Q hgo)

/-- step by step: Θ is what the slots written so far hold; what only reads is shown over a part of the memory -/
def DrH (E : Env) (P : Program) (id : Nat) (l : List Oper) (Γ : Ctx) (M Ms : Mem) (Q : Exit → Act → World → Prop) (i : Nat) (Θ : Ctx) : Prop :=
  ∀ Ss, Dr E P l Γ Ms i Ss → (∀ t S, look Θ t = some S → ∃ (j : Nat) (o : Oper), j < i ∧ l[j]? = some o ∧ o.dst = some t ∧ Ss[j]? = some S) → Tri E P (.region id l.toArray true) Γ M Q
def keepM : List Bool → Mem → Mem
  | true :: bs, m :: M => m :: keepM bs M
  | false :: bs, _ :: M => keepM bs M
  | _, _ => []
theorem Tri.drh {id : Nat} {l : List Oper} {Ms : Mem} (bs : List Bool) (e : keepM bs M = Ms) (h : DrH E P id l Γ M Ms Q 0 []) : Tri E P (.region id l.toArray true) Γ M Q := h [] .nil (fun t S ht => by simp [look] at ht)
theorem DrH.st {id i d : Nat} {l : List Oper} {Θ : Ctx} {S : VP} {o : Oper} {Ms : Mem} (ts : List Nat) (h1 : l[i]? = some o) (h2 : o.dst = some d) (h3 : Nat.blt d E.n = true)
    (h4 : behindB l i ts = true) (h5 : OKG E P l.toArray (keepc ts Θ ++ Γ) Ms o S) (k : DrH E P id l Γ M Ms Q (i + 1) ((d, S) :: Θ)) : DrH E P id l Γ M Ms Q i Θ := by
  intro Ss hD hΘ
  obtain ⟨hlen, _⟩ := hD.at
  refine k (Ss ++ [S]) (.snoc _ hD h1 h2 h3 (fun t S' ht => ?_) h5) (fun t S' ht => ?_)
  · rw [look_append] at ht
    cases hl : look (keepc ts Θ) t with
    | none => rw [hl] at ht; exact .inr (by simpa using ht)
    | some S'' =>
      rw [hl] at ht
      obtain rfl : S'' = S' := by simpa using ht
      obtain ⟨hm, hl2⟩ := look_keepc _ _ _ hl
      obtain ⟨j, oj, b0, b1, b2, b3⟩ := hΘ t S'' hl2
      refine .inl ⟨j, oj, ?_, b1, b2, b3⟩
      have := List.all_eq_true.1 h4 j (by simpa using b0)
      rw [b1] at this
      simp only [Option.bind_some, b2, Bool.or_eq_true] at this
      rcases this with h | h
      · exact h
      · have := List.all_eq_true.1 h t hm
        simp [Nat.beq_refl] at this
  · simp only [look] at ht
    cases hb : Nat.beq d t with
    | true =>
      rw [hb] at ht; simp at ht; subst ht
      obtain rfl := Nat.eq_of_beq_eq_true hb
      exact ⟨i, o, by omega, h1, h2, by rw [List.getElem?_append_right (by omega)]; simp [hlen]⟩
    | false =>
      rw [hb] at ht
      obtain ⟨j, oj, b0, b1, b2, b3⟩ := hΘ t S' ht
      exact ⟨j, oj, by omega, b1, b2, by rw [List.getElem?_append_left (by omega)]; exact b3⟩
/-- the stores, one by one -/
def DrM (E : Env) (P : Program) (id : Nat) (l : List Oper) (Γ : Ctx) (M Ms : Mem) (Q : Exit → Act → World → Prop) (n1 : Nat) (Θ : Ctx) (m : Nat) (Mc : Mem) : Prop :=
  ∀ (Ss : List VP) (f : Nat → Mem), Dr E P l Γ Ms n1 Ss → (∀ t S, look Θ t = some S → ∃ (j : Nat) (o : Oper), j < n1 ∧ l[j]? = some o ∧ o.dst = some t ∧ Ss[j]? = some S) → f 0 = M → f m = Mc → (∀ j, j ≤ m → Ms.Sublist (f j)) →
    (∀ j, j < m → MidAt E P l Γ Ss n1 j (f j) (f (j + 1))) → Tri E P (.region id l.toArray true) Γ M Q
theorem DrH.mid {id n : Nat} {l : List Oper} {Θ : Ctx} {Ms : Mem} (hs : Ms.Sublist M) (k : DrM E P id l Γ M Ms Q n Θ 0 M) : DrH E P id l Γ M Ms Q n Θ := by
  intro Ss hD hΘ
  refine k Ss (fun _ => M) hD hΘ rfl rfl (fun j hj => hs) (fun j hj => absurd hj (by omega))
def chainB (l : List Oper) (n1 m : Nat) : Bool := (List.range m).all fun j => (((masks l [])[n1 + m]?).getD 0).testBit (n1 + j)
theorem DrM.st {id n1 m : Nat} {l : List Oper} {Θ : Ctx} {o : Oper} {Ms Mc M' : Mem} (ts : List Nat) (h1 : l[n1 + m]? = some o) (h2 : o.dst = none) (h4 : behindB l (n1 + m) ts = true) (hc : chainB l n1 m = true)
    (h5 : StS E P (keepc ts Θ ++ Γ) Mc o M') (hs : Ms.Sublist M') (k : DrM E P id l Γ M Ms Q n1 Θ (m + 1) M') : DrM E P id l Γ M Ms Q n1 Θ m Mc := by
  intro Ss f hD hΘ hf0 hfm hsub hmid
  refine k Ss (fun j => if j = m + 1 then M' else f j) hD hΘ (by simp [hf0]) (by simp) (fun j hj => ?_) (fun j hj => ?_)
  · show Ms.Sublist (if j = m + 1 then M' else f j)
    split
    · exact hs
    · exact hsub j (by omega)
  · show MidAt E P l Γ Ss n1 j (if j = m + 1 then M' else f j) (if j + 1 = m + 1 then M' else f (j + 1))
    rw [if_neg (by omega)]
    by_cases e : j = m
    · subst e
      rw [if_pos rfl, hfm]
      refine ⟨o, _, h1, h2, fun t S' ht => ?_, fun i hi => ?_, h5⟩
      · rw [look_append] at ht
        cases hl : look (keepc ts Θ) t with
        | none => rw [hl] at ht; exact .inr (by simpa using ht)
        | some S'' =>
          rw [hl] at ht
          obtain rfl : S'' = S' := by simpa using ht
          obtain ⟨hm, hl2⟩ := look_keepc _ _ _ hl
          obtain ⟨i, oj, b0, b1, b2, b3⟩ := hΘ t S'' hl2
          refine .inl ⟨i, oj, ?_, b1, b2, b3⟩
          have := List.all_eq_true.1 h4 i (by simp; omega)
          rw [b1] at this
          simp only [Option.bind_some, b2, Bool.or_eq_true] at this
          rcases this with h | h
          · exact h
          · have := List.all_eq_true.1 h t hm
            simp [Nat.beq_refl] at this
      · exact List.all_eq_true.1 hc i (by simpa using hi)
    · rw [if_neg (by omega)]
      exact hmid j (by omega)
theorem DrM.fin {id n1 m n : Nat} {l : List Oper} {Θ : Ctx} {Ms Mc : Mem} (hm : P.follows .mixedOrders = true) (hn : n = n1 + m) (hap : apartB l n1 Γ = true) (htl : tailB l n = true) (hnl : Nat.ble n l.length = true)
    (k : Ops E P l.toArray Q (l.drop n) (Θ ++ Γ) Mc) : DrM E P id l Γ M Ms Q n1 Θ m Mc := by
  intro Ss f hD hΘ hf0 hfm hsub hmid
  subst hn
  have hnl' := Nat.le_of_ble_eq_true hnl
  have hk : Ops E P l.toArray Q (l.drop (n1 + m)) (dctx (l.take n1) Ss ++ Γ) (f m) := by
    rw [hfm]
    refine fun a w F s => k a w F (s.wider fun t S ht => ?_)
    rw [look_append] at ht
    cases hl : look Θ t with
    | none =>
      rw [hl] at ht
      have ht' : look Γ t = some S := by simpa using ht
      have hno : look (dctx (l.take n1) Ss) t = none := by
        cases hd : look (dctx (l.take n1) Ss) t with
        | none => rfl
        | some S' =>
          obtain ⟨j, o, b1, b2, b3⟩ := look_dctx _ _ _ _ hd
          have hj : j < n1 := by
            rcases Nat.lt_or_ge j n1 with h' | h'
            · exact h'
            · rw [List.getElem?_eq_none (by simp; omega)] at b1; cases b1
          rw [List.getElem?_take_of_lt hj] at b1
          have h1 := List.all_eq_true.1 hap j (by simpa using hj)
          rw [b1] at h1
          simp only [Option.bind_some, b2, Bool.and_eq_true] at h1
          exact absurd rfl (look_none h1.1 t S ht')
      exact s.slots t S (by rw [look_append, hno]; simpa using ht')
    | some S' =>
      rw [hl] at ht
      obtain rfl : S' = S := by simpa using ht
      obtain ⟨j, o, b0, b1, b2, b3⟩ := hΘ t S' hl
      have hex : ∀ (l' : List Oper) (Ss' : List VP) (j : Nat), (l'[j]?).bind (·.dst) = some t → Ss'[j]? = some S' → (∀ j', j' ≠ j → (l'[j']?).bind (·.dst) ≠ some t) → look (dctx l' Ss') t = some S' := by
        intro l'
        induction l' with
        | nil => intro Ss' j h; simp at h
        | cons o' l' ih =>
          intro Ss' j h1 h2 h3
          cases Ss' with
          | nil => simp at h2
          | cons T Ss' =>
            cases j with
            | zero =>
              simp at h1 h2
              subst h2
              simp [dctx, h1, look]
            | succ j =>
              have hrec := ih Ss' j (by simpa using h1) (by simpa using h2) (fun j' hj' => by simpa using h3 (j' + 1) (by omega))
              have h0 := h3 0 (by omega)
              simp at h0
              simp only [dctx]
              cases hd : o'.dst with
              | none => exact hrec
              | some d' =>
                simp only [look]
                have hne : Nat.beq d' t = false := by
                  cases hb : Nat.beq d' t with
                  | false => rfl
                  | true => exact absurd (by rw [hd, Nat.eq_of_beq_eq_true hb]) h0
                rw [hne]; exact hrec
      have hlk := hex (l.take n1) Ss j (by rw [List.getElem?_take_of_lt b0, b1]; exact b2) b3 (fun j' hj' he => by
        have hj'n : j' < n1 := by
          rcases Nat.lt_or_ge j' n1 with h' | h'
          · exact h'
          · rw [List.getElem?_eq_none (by simp; omega)] at he; simp at he
        rw [List.getElem?_take_of_lt hj'n] at he
        have h1 := List.all_eq_true.1 hap j (by simpa using b0)
        rw [b1] at h1
        simp only [Option.bind_some, b2, Bool.and_eq_true] at h1
        have h2 := List.all_eq_true.1 h1.2 j' (by simpa using hj'n)
        rw [he] at h2
        simp only [Bool.or_eq_true, Bool.not_eq_true'] at h2
        rcases h2 with h2 | h2
        · exact hj' (Nat.eq_of_beq_eq_true h2).symm
        · exact Nat.ne_of_beq_eq_false h2 rfl)
      exact s.slots t S' (by rw [look_append, hlk]; rfl)
  intro a w F s
  refine wp_region_any hm ?_
  have s1 := s.adv (Adv.drew w F)
  refine phaseC hD hsub hmid hap htl hnl' hk _ _ a _ F 0 (Nat.zero_le _) ?_ (by simp) (fun j hj hjl => ?_) (fun j h1 h2 => absurd h2 (by omega)) ?_ (hf0 ▸ s1) ?_
  · simp
    exact Nat.le_trans List.countP_le_length (by simp)
  · have : j < l.length := hjl
    simp [this]
  · intro i o hi hL
    simp [Array.getD_eq_getD_getElem?, Array.getElem?_replicate] at hL
    split at hL <;> simp at hL
  · intro j o d S hL
    simp [Array.getD_eq_getD_getElem?, Array.getElem?_replicate] at hL
    split at hL <;> simp at hL
end
end Go.En
