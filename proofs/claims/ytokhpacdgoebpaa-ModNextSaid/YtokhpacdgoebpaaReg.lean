/- Guarded operations; regions whose order is drawn. -/
import Derived.Test.YtokhpacdgoebpaaMem
import Derived.KernelRfl
namespace Go.En
open Go.RowKit
set_option linter.unusedVariables false

theorem gl {g c : Bool} (h : (g && c) = true) : g = true := by cases g <;> simp_all
theorem gr {g c : Bool} (h : (g && c) = true) : c = true := by cases g <;> simp_all
theorem ng {b : Bool} (h : b = false) : (!b) = true := by rw [h]; rfl
theorem nf {b : Bool} (h : (!b) = true) : b = false := by cases b <;> simp_all
theorem ga {g c : Bool} (h : g = true) (k : c = true) : (g && c) = true := by rw [h, k]; rfl
theorem gn {g c : Bool} (h : g = true) (k : c = false) : (g && !c) = true := by rw [h, k]; rfl

section
variable {E : Env} {P : Program} {Γ : Ctx} {M : Mem} {ty : TypeId} {pos : String} {after : Array Edge}
  {ops : Array Oper} {Q : Exit → Act → World → Prop} {rest : List Oper}

theorem get_bool {a : Act} {t : Nat} {b : Bool} (h : a.tmps.getD t undef = .bool b) : a.tmps[t]? = some (.bool b) := by
  simp only [Array.getD_eq_getD_getElem?] at h
  cases e : a.tmps[t]? with
  | none => rw [e] at h; simp [undef] at h
  | some v => rw [e] at h; simp at h; rw [h]
theorem get_undef {a : Act} {t : Nat} (h : a.tmps.getD t undef = undef) : a.tmps[t]? = none ∨ a.tmps[t]? = some undef := by
  simp only [Array.getD_eq_getD_getElem?] at h
  cases e : a.tmps[t]? with
  | none => exact .inl rfl
  | some v => rw [e] at h; simp at h; rw [h]; exact .inr rfl

theorem yielded_bool {a : Act} {j dj : Nat} {b : Bool} (hj : (ops[j]?).bind (·.dst) = some dj) (h : a.tmps.getD dj undef = .bool b) : yielded ops a.tmps j = some b := by
  simp [yielded, hj, get_bool h]
theorem yielded_undef {a : Act} {j dj : Nat} (hj : (ops[j]?).bind (·.dst) = some dj) (h : a.tmps.getD dj undef = undef) : yielded ops a.tmps j = none := by
  rcases get_undef h with e | e <;> simp [yielded, hj, e, undef]

/-- is a guarded operation carried out? -/
theorem wanted_of {a : Act} {w : World} {F : Blk} (s : Sat E Γ M a w F) {o : Oper} {j dj : Nat} {want g c : Bool} (hg : o.guard = some (j, want)) (hj : (ops[j]?).bind (·.dst) = some dj)
    (hs : (G g (isB c)).h w F (a.tmps.getD dj undef)) : Region.wanted o (yielded ops a.tmps) = (g && (c == want)) := by
  simp only [Region.wanted, hg]
  cases hgb : g with
  | true =>
    have : a.tmps.getD dj undef = .bool c := by simpa [G, hgb, isB, VP.pure] using hs
    rw [yielded_bool hj this]; cases c <;> cases want <;> rfl
  | false =>
    have : a.tmps.getD dj undef = undef := by simpa [G, hgb] using hs
    rw [yielded_undef hj this]; cases want <;> rfl

theorem stG {d : Nat} {op : Op} {S : VP} {j dj : Nat} {want g c : Bool} (hj : (ops[j]?).bind (·.dst) = some dj) (hs : ∀ a w F, Sat E Γ M a w F → (G g (isB c)).h w F (a.tmps.getD dj undef))
    (h : (g && (c == want)) = true → OK1 E P Γ M ⟨some d, op, ty, pos, after, some (j, want)⟩ S) (hd : Nat.blt d E.n = true) (k : Ops E P ops Q rest ((d, G (g && (c == want)) S) :: Γ) M) :
    Ops E P ops Q (⟨some d, op, ty, pos, after, some (j, want)⟩ :: rest) Γ M := by
  intro a w F s
  have hd' : d < E.n := by simpa [Nat.blt_eq] using hd
  refine wpList_step fun K hK => ?_
  rw [wanted_of s rfl hj (hs a w F s)]
  by_cases hw : (g && (c == want)) = true
  · rw [if_pos hw]
    refine h hw a w F s K Q ?_
    intro v w' F' ad hv
    exact hK _ _ (k _ _ _ ((s.adv ad).put hd' (by show (if _ then _ else _); rw [if_pos hw]; exact hv)))
  · rw [if_neg hw]
    exact hK _ _ (k _ _ _ (s.put hd' (by show (if _ then _ else _); rw [if_neg hw])))

theorem hasG0 {c : Bool} {dj : Nat} (h : look Γ dj = some (isB c)) : ∀ a w F, Sat E Γ M a w F → (G true (isB c)).h w F (a.tmps.getD dj undef) := fun a w F s => s.slots dj _ h
theorem hasG1 {g c : Bool} {dj : Nat} (h : look Γ dj = some (G g (isB c))) : ∀ a w F, Sat E Γ M a w F → (G g (isB c)).h w F (a.tmps.getD dj undef) := fun a w F s => s.slots dj _ h

theorem e1 {c : Bool} : (true && (c == true)) = c := by cases c <;> rfl
theorem e2 {c : Bool} : (true && (c == false)) = !c := by cases c <;> rfl
theorem e3 {g c : Bool} : (g && (c == true)) = (g && c) := by cases c <;> cases g <;> rfl
theorem e4 {g c : Bool} : (g && (c == false)) = (g && !c) := by cases c <;> cases g <;> rfl

/-- guarded by a test that is not guarded: it must be true | false -/
theorem stT {d : Nat} {op : Op} {S : VP} {j dj : Nat} {c : Bool} (hj : (ops[j]?).bind (·.dst) = some dj) (hs : look Γ dj = some (isB c))
    (h : c = true → OK1 E P Γ M ⟨some d, op, ty, pos, after, some (j, true)⟩ S) (hd : Nat.blt d E.n = true) (k : Ops E P ops Q rest ((d, G c S) :: Γ) M) :
    Ops E P ops Q (⟨some d, op, ty, pos, after, some (j, true)⟩ :: rest) Γ M := by
  refine stG (S := S) hj (hasG0 hs) (fun hw => h (by rwa [e1] at hw)) hd ?_
  rw [e1]; exact k
theorem stF {d : Nat} {op : Op} {S : VP} {j dj : Nat} {c : Bool} (hj : (ops[j]?).bind (·.dst) = some dj) (hs : look Γ dj = some (isB c))
    (h : (!c) = true → OK1 E P Γ M ⟨some d, op, ty, pos, after, some (j, false)⟩ S) (hd : Nat.blt d E.n = true) (k : Ops E P ops Q rest ((d, G (!c) S) :: Γ) M) :
    Ops E P ops Q (⟨some d, op, ty, pos, after, some (j, false)⟩ :: rest) Γ M := by
  refine stG (S := S) hj (hasG0 hs) (fun hw => h (by rwa [e2] at hw)) hd ?_
  rw [e2]; exact k
theorem stGT {d : Nat} {op : Op} {S : VP} {j dj : Nat} {g c : Bool} (hj : (ops[j]?).bind (·.dst) = some dj) (hs : look Γ dj = some (G g (isB c)))
    (h : (g && c) = true → OK1 E P Γ M ⟨some d, op, ty, pos, after, some (j, true)⟩ S) (hd : Nat.blt d E.n = true) (k : Ops E P ops Q rest ((d, G (g && c) S) :: Γ) M) :
    Ops E P ops Q (⟨some d, op, ty, pos, after, some (j, true)⟩ :: rest) Γ M := by
  refine stG (S := S) hj (hasG1 hs) (fun hw => h (by rwa [e3] at hw)) hd ?_
  rw [e3]; exact k
theorem stGF {d : Nat} {op : Op} {S : VP} {j dj : Nat} {g c : Bool} (hj : (ops[j]?).bind (·.dst) = some dj) (hs : look Γ dj = some (G g (isB c)))
    (h : (g && !c) = true → OK1 E P Γ M ⟨some d, op, ty, pos, after, some (j, false)⟩ S) (hd : Nat.blt d E.n = true) (k : Ops E P ops Q rest ((d, G (g && !c) S) :: Γ) M) :
    Ops E P ops Q (⟨some d, op, ty, pos, after, some (j, false)⟩ :: rest) Γ M := by
  refine stG (S := S) hj (hasG1 hs) (fun hw => h (by rwa [e4] at hw)) hd ?_
  rw [e4]; exact k

/-! ### drawn orders -/

def maskOf (ms : List Nat) (o : Oper) : Nat := o.after.toList.foldl (fun acc e => match Region.binds .any e with
  | true => acc ||| 2 ^ e.on ||| ms.getD e.on 0
  | false => acc) 0
def masks : List Oper → List Nat → List Nat
  | [], ms => ms
  | o :: r, ms => masks r (ms ++ [maskOf ms o])

theorem masks_len : ∀ (l : List Oper) (ms : List Nat), (masks l ms).length = ms.length + l.length
  | [], ms => by simp [masks]
  | o :: r, ms => by rw [masks, masks_len r]; simp; omega
theorem masks_old : ∀ (l : List Oper) (ms : List Nat) (i : Nat), i < ms.length → (masks l ms)[i]? = ms[i]?
  | [], ms, i, h => rfl
  | o :: r, ms, i, h => by rw [masks, masks_old r _ i (by simp; omega), List.getElem?_append_left h]
theorem masks_at : ∀ (l : List Oper) (ms : List Nat) (i : Nat) (o : Oper), l[i]? = some o → ∃ ms', ms'.length = ms.length + i ∧ (∀ j, j < ms'.length → ms'[j]? = (masks l ms)[j]?) ∧ (masks l ms)[ms.length + i]? = some (maskOf ms' o)
  | [], ms, i, o, h => by simp at h
  | o' :: r, ms, 0, o, h => by
    simp at h; subst h
    refine ⟨ms, by simp, fun j hj => ?_, ?_⟩
    · rw [masks, masks_old _ _ _ (by simp; omega), List.getElem?_append_left hj]
    · rw [masks, masks_old _ _ _ (by simp)]; simp
  | o' :: r, ms, i + 1, o, h => by
    simp at h
    obtain ⟨ms', h1, h2, h3⟩ := masks_at r (ms ++ [maskOf ms o']) i o h
    refine ⟨ms', by simp at h1; omega, h2, ?_⟩
    rw [masks, ← h3]; simp; congr 1; omega

theorem fold_bit (ms : List Nat) (j : Nat) : ∀ (es : List Edge) (acc : Nat), (es.foldl (fun acc e => match Region.binds .any e with
    | true => acc ||| 2 ^ e.on ||| ms.getD e.on 0
    | false => acc) acc).testBit j = true → acc.testBit j = true ∨ ∃ e ∈ es, Region.binds .any e = true ∧ (e.on = j ∨ (ms.getD e.on 0).testBit j = true)
  | [], acc, h => .inl h
  | e :: es, acc, h => by
    rcases fold_bit ms j es _ h with h1 | ⟨e', h1, h2, h3⟩
    · cases hb : Region.binds .any e with
      | false => simp only [hb] at h1; exact .inl h1
      | true =>
        simp only [hb] at h1
        simp only [Nat.testBit_or, Bool.or_eq_true, Nat.testBit_two_pow] at h1
        rcases h1 with (h1 | h1) | h1
        · exact .inl h1
        · exact .inr ⟨e, by simp, hb, .inl (by simpa using h1)⟩
        · exact .inr ⟨e, by simp, hb, .inr h1⟩
    · exact .inr ⟨e', by simp [h1], h2, h3⟩

/-- what is listed is closed under 'behind' -/
def Closed (l : List Oper) (L : Nat → Prop) : Prop := ∀ i o, l[i]? = some o → L i → ∀ e ∈ o.after, Region.binds .any e = true → L e.on

theorem reach {l : List Oper} {L : Nat → Prop} (hc : Closed l L) : ∀ (i : Nat) (o : Oper), l[i]? = some o → (∀ e ∈ o.after, Region.binds .any e = true → L e.on) → ∀ j m, (masks l [])[i]? = some m → m.testBit j = true → L j := by
  intro i
  induction i using Nat.strongRecOn with
  | _ i ih =>
    intro o ho hd j m hm hj
    obtain ⟨ms', h1, h2, h3⟩ := masks_at l [] i o ho
    simp at h1 h3
    rw [hm] at h3
    obtain rfl : m = maskOf ms' o := Option.some.inj h3
    rcases fold_bit ms' j _ _ hj with h | ⟨e, he, hb, h⟩
    · simp at h
    · have hL := hd e (by simpa using he) hb
      rcases h with rfl | h
      · exact hL
      · have hlt : e.on < ms'.length := by
          rcases Nat.lt_or_ge e.on ms'.length with h' | h'
          · exact h'
          · simp [List.getD, List.getElem?_eq_none h'] at h
        have hol : e.on < l.length := by
          have : i < l.length := by
            rcases Nat.lt_or_ge i l.length with h' | h'
            · exact h'
            · rw [List.getElem?_eq_none h'] at ho; cases ho
          omega
        refine ih e.on (by omega) _ (List.getElem?_eq_getElem hol) (fun e' he' hb' => hc e.on _ (List.getElem?_eq_getElem hol) hL e' he' hb') j (ms'.getD e.on 0) ?_ h
        rw [← h2 e.on hlt]; simp [List.getD, List.getElem?_eq_getElem hlt]

/-- the slots that the first operations write, with what they come to hold -/
def dctx : List Oper → List VP → Ctx
  | o :: r, S :: Ss => match o.dst with
    | some d => (d, S) :: dctx r Ss
    | none => dctx r Ss
  | _, _ => []
/-- one operation of a drawn region, with its guard: what it yields -/
def OKG (E : Env) (P : Program) (ops : Array Oper) (Γ : Ctx) (M : Mem) (o : Oper) (S : VP) : Prop :=
  ∀ a w F, Sat E Γ M a w F → ∀ (K : Act → World → Prop) (Q : Exit → Act → World → Prop), (∀ v w' F', Adv w F w' F' → S.h w' F' v → K (a.put o.dst v) w') →
    if Region.wanted o (yielded ops a.tmps) then o.wp P a w K Q ∨ (o.asks P a w ∧ LetsOut Q) else K (a.put o.dst undef) w

theorem OKG.o {o : Oper} {S : VP} (hg : o.guard = none) (h : OK1 E P Γ M o S) : OKG E P ops Γ M o S := by
  intro a w F s K Q hK
  rw [if_pos (by simp [Region.wanted, hg])]
  exact .inl (h a w F s K Q hK)
theorem OKG.gd {o : Oper} {S : VP} {j dj : Nat} {want g c : Bool} (hg : o.guard = some (j, want)) (hj : (ops[j]?).bind (·.dst) = some dj) (hs : ∀ a w F, Sat E Γ M a w F → (G g (isB c)).h w F (a.tmps.getD dj undef))
    (h : (g && (c == want)) = true → OK1 E P Γ M o S) : OKG E P ops Γ M o (G (g && (c == want)) S) := by
  intro a w F s K Q hK
  rw [wanted_of s hg hj (hs a w F s)]
  by_cases hw : (g && (c == want)) = true
  · rw [if_pos hw]
    exact .inl (h hw a w F s K Q fun v w' F' ad hv => hK v w' F' ad (by show (if _ then _ else _); rw [if_pos hw]; exact hv))
  · rw [if_neg hw]
    exact hK undef w F (Adv.refl _ _) (by show (if _ then _ else _); rw [if_neg hw])
theorem OKG.T {o : Oper} {S : VP} {j dj : Nat} {c : Bool} (hg : o.guard = some (j, true)) (hj : (ops[j]?).bind (·.dst) = some dj) (hs : look Γ dj = some (isB c)) (h : c = true → OK1 E P Γ M o S) : OKG E P ops Γ M o (G c S) := by
  have := OKG.gd (S := S) hg hj (hasG0 hs) (fun hw => h (by rwa [e1] at hw)); rwa [e1] at this
theorem OKG.F {o : Oper} {S : VP} {j dj : Nat} {c : Bool} (hg : o.guard = some (j, false)) (hj : (ops[j]?).bind (·.dst) = some dj) (hs : look Γ dj = some (isB c)) (h : (!c) = true → OK1 E P Γ M o S) : OKG E P ops Γ M o (G (!c) S) := by
  have := OKG.gd (S := S) hg hj (hasG0 hs) (fun hw => h (by rwa [e2] at hw)); rwa [e2] at this
theorem OKG.GT {o : Oper} {S : VP} {j dj : Nat} {g c : Bool} (hg : o.guard = some (j, true)) (hj : (ops[j]?).bind (·.dst) = some dj) (hs : look Γ dj = some (G g (isB c))) (h : (g && c) = true → OK1 E P Γ M o S) : OKG E P ops Γ M o (G (g && c) S) := by
  have := OKG.gd (S := S) hg hj (hasG1 hs) (fun hw => h (by rwa [e3] at hw)); rwa [e3] at this
theorem OKG.GF {o : Oper} {S : VP} {j dj : Nat} {g c : Bool} (hg : o.guard = some (j, false)) (hj : (ops[j]?).bind (·.dst) = some dj) (hs : look Γ dj = some (G g (isB c))) (h : (g && !c) = true → OK1 E P Γ M o S) : OKG E P ops Γ M o (G (g && !c) S) := by
  have := OKG.gd (S := S) hg hj (hasG1 hs) (fun hw => h (by rwa [e4] at hw)); rwa [e4] at this

/-- the first operations, each in a context of what it stands behind -/
inductive Dr (E : Env) (P : Program) (l : List Oper) (Γ : Ctx) (M : Mem) : Nat → List VP → Prop
  | nil : Dr E P l Γ M 0 []
  | snoc {i d : Nat} {Ss : List VP} {S : VP} {o : Oper} (Δ : Ctx) : Dr E P l Γ M i Ss → l[i]? = some o → o.dst = some d → Nat.blt d E.n = true →
      (∀ t S, look Δ t = some S → (∃ (j : Nat) (oj : Oper), (((masks l [])[i]?).getD 0).testBit j = true ∧ l[j]? = some oj ∧ oj.dst = some t ∧ Ss[j]? = some S) ∨ look Γ t = some S) →
      OKG E P l.toArray Δ M o S → Dr E P l Γ M (i + 1) (Ss ++ [S])

theorem look_append : ∀ (A B : Ctx) (t : Nat), look (A ++ B) t = (look A t).or (look B t)
  | [], B, t => by simp [look]
  | (k, S) :: A, B, t => by
    simp only [List.cons_append, look]
    cases Nat.beq k t with
    | true => rfl
    | false => exact look_append A B t

/-- what holds of the slots of those that are listed -/
def Done (l : List Oper) (Ss : List VP) (L : Nat → Prop) (a : Act) (w : World) (F : Blk) : Prop :=
  ∀ j o d S, L j → l[j]? = some o → o.dst = some d → Ss[j]? = some S → S.h w F (a.tmps.getD d undef)

theorem look_dctx : ∀ (l : List Oper) (Ss : List VP) (t : Nat) (S : VP), look (dctx l Ss) t = some S → ∃ (j : Nat) (o : Oper), l[j]? = some o ∧ o.dst = some t ∧ Ss[j]? = some S
  | [], Ss, t, S, h => by simp [dctx, look] at h
  | o :: r, [], t, S, h => by simp [dctx, look] at h
  | o :: r, S0 :: Ss, t, S, h => by
    simp only [dctx] at h
    cases hd : o.dst with
    | none => rw [hd] at h; obtain ⟨j, o', a, b, c⟩ := look_dctx r Ss t S h; exact ⟨j + 1, o', by simpa using a, b, by simpa using c⟩
    | some d =>
      rw [hd] at h
      simp only [look] at h
      cases hb : Nat.beq d t with
      | false => rw [hb] at h; obtain ⟨j, o', a, b, c⟩ := look_dctx r Ss t S h; exact ⟨j + 1, o', by simpa using a, b, by simpa using c⟩
      | true =>
        rw [hb] at h; simp at h; subst h
        obtain rfl := Nat.eq_of_beq_eq_true hb
        exact ⟨0, o, rfl, hd, rfl⟩

theorem Dr.at {l : List Oper} {n : Nat} {Ss : List VP} (h : Dr E P l Γ M n Ss) : Ss.length = n ∧ ∀ i, i < n → ∃ (o : Oper) (d : Nat) (S : VP) (Δ : Ctx), l[i]? = some o ∧ o.dst = some d ∧ d < E.n ∧ Ss[i]? = some S ∧
    (∀ t S, look Δ t = some S → (∃ (j : Nat) (oj : Oper), (((masks l [])[i]?).getD 0).testBit j = true ∧ l[j]? = some oj ∧ oj.dst = some t ∧ Ss[j]? = some S) ∨ look Γ t = some S) ∧ OKG E P l.toArray Δ M o S := by
  induction h with
  | nil => exact ⟨rfl, fun i hi => absurd hi (by omega)⟩
  | @snoc i d Ss S o Δ h0 h1 h2 h3 h4 h5 ih =>
    obtain ⟨ih1, ih2⟩ := ih
    have up : ∀ (j : Nat) (T : VP), Ss[j]? = some T → (Ss ++ [S])[j]? = some T := fun j T hT => by
      have : j < Ss.length := by
        rcases Nat.lt_or_ge j Ss.length with h | h
        · exact h
        · rw [List.getElem?_eq_none h] at hT; cases hT
      rw [List.getElem?_append_left this]; exact hT
    refine ⟨by simp [ih1], fun k hk => ?_⟩
    by_cases e : k = i
    · subst e
      refine ⟨o, d, S, Δ, h1, h2, by simpa [Nat.blt_eq] using h3, by rw [List.getElem?_append_right (by omega)]; simp [ih1], fun t T hT => ?_, h5⟩
      rcases h4 t T hT with ⟨j, oj, b1, b2, b3, b4⟩ | h
      · exact .inl ⟨j, oj, b1, b2, b3, up j T b4⟩
      · exact .inr h
    · obtain ⟨o', d', S', Δ', a1, a2, a3, a4, a5, a6⟩ := ih2 k (by omega)
      refine ⟨o', d', S', Δ', a1, a2, a3, up _ _ a4, fun t T hT => ?_, a6⟩
      rcases a5 t T hT with ⟨j, oj, b1, b2, b3, b4⟩ | h
      · exact .inl ⟨j, oj, b1, b2, b3, up j T b4⟩
      · exact .inr h

/-- distinct slots, none of them known before -/
def apartB (l : List Oper) (n : Nat) (Γ : Ctx) : Bool :=
  (List.range n).all fun i => match (l[i]?).bind (·.dst) with
    | none => true
    | some d => (Γ.all fun p => !Nat.beq p.1 d) && (List.range n).all fun j => Nat.beq i j || match (l[j]?).bind (·.dst) with
      | none => true
      | some e => !Nat.beq d e
/-- the operations behind the first n: each stands behind all that are ahead of it; edges lead back -/
def tailB (l : List Oper) (n : Nat) : Bool := (List.range l.length).all fun i =>
  (match l[i]? with
   | none => true
   | some o => o.after.toList.all fun e => !Region.binds .any e || Nat.blt e.on i) &&
  (Nat.blt i n || (List.range i).all fun j => (((masks l [])[i]?).getD 0).testBit j)

theorem look_none {Γ : Ctx} {d : Nat} (h : (Γ.all fun p => !Nat.beq p.1 d) = true) : ∀ t S, look Γ t = some S → t ≠ d := by
  induction Γ with
  | nil => intro t S h; simp [look] at h
  | cons p Γ ih =>
    obtain ⟨k, S0⟩ := p
    simp only [List.all_cons, Bool.and_eq_true, Bool.not_eq_true'] at h
    intro t S ht
    simp only [look] at ht
    cases hb : Nat.beq k t with
    | true => obtain rfl := Nat.eq_of_beq_eq_true hb; exact Nat.ne_of_beq_eq_false h.1
    | false => rw [hb] at ht; exact ih h.2 t S ht

theorem tailB_spec {l : List Oper} {n : Nat} (h : tailB l n = true) : (∀ (i : Nat) (o : Oper), l[i]? = some o → ∀ e ∈ o.after, Region.binds .any e = true → e.on < i) ∧
    (∀ i, i < l.length → n ≤ i → ∀ j, j < i → ∃ m, (masks l [])[i]? = some m ∧ m.testBit j = true) := by
  unfold tailB at h
  rw [List.all_eq_true] at h
  constructor
  · intro i o ho e he hb
    have hi : i < l.length := by
      rcases Nat.lt_or_ge i l.length with h' | h'
      · exact h'
      · rw [List.getElem?_eq_none h'] at ho; cases ho
    have := h i (by simpa using hi)
    rw [ho] at this
    simp only [Bool.and_eq_true, List.all_eq_true] at this
    have h2 := this.1 e (by simpa using he)
    rw [hb] at h2
    simpa [Nat.blt_eq] using h2
  · intro i hi hn j hj
    have := h i (by simpa using hi)
    simp only [Bool.and_eq_true, Bool.or_eq_true, List.all_eq_true] at this
    rcases this.2 with h1 | h1
    · rw [Nat.blt_eq] at h1; omega
    · have hlen : i < (masks l []).length := by rw [masks_len]; simpa using hi
      refine ⟨_, List.getElem?_eq_getElem hlen, ?_⟩
      have := h1 j (by simpa using hj)
      rw [List.getElem?_eq_getElem hlen] at this
      exact this

theorem phaseB {l : List Oper} {n : Nat} (htl : tailB l n = true) : ∀ (fuel i : Nat) (listed : Array Bool) (a : Act) (w : World), n ≤ i → l.length - i ≤ fuel → listed.size = l.length →
    (∀ j, j < i → j < l.length → listed.getD j true = true) → (∀ j, i ≤ j → j < l.length → listed.getD j true = false) → Closed l (fun j => listed.getD j false = true) →
    wpList P l.toArray Q (l.drop i) a w → wpAny P .any l.toArray Q fuel listed a w := by
  have hsp := tailB_spec htl
  have only : ∀ (i : Nat) (listed : Array Bool), n ≤ i → listed.size = l.length → (∀ j, j < i → j < l.length → listed.getD j true = true) → (∀ j, i ≤ j → j < l.length → listed.getD j true = false) → Closed l (fun j => listed.getD j false = true) →
      ∀ j, j ∈ Region.ready .any l.toArray listed → j = i ∧ i < l.length := by
    intro i listed hn hsz h1 h2 hc j hj
    rw [mem_ready] at hj
    obtain ⟨g1, o, g2, g3⟩ := hj
    have g2' : l[j]? = some o := by simpa using g2
    have hjl : j < l.length := by
      rcases Nat.lt_or_ge j l.length with h' | h'
      · exact h'
      · rw [List.getElem?_eq_none h'] at g2'; cases g2'
    have hge : i ≤ j := by
      rcases Nat.lt_or_ge j i with h' | h'
      · rw [h1 j h' hjl] at g1; cases g1
      · exact h'
    rcases Nat.lt_or_ge i j with h' | h'
    · obtain ⟨m, hm, hb⟩ := hsp.2 j hjl (by omega) i h'
      have := reach hc j o g2' g3 i m hm hb
      have e := h2 i (Nat.le_refl _) (by omega)
      simp only [Array.getD_eq_getD_getElem?] at this e
      have hi : i < listed.size := by omega
      simp [hi] at this e
      rw [this] at e; cases e
    · exact ⟨by omega, by omega⟩
  intro fuel
  induction fuel with
  | zero =>
    intro i listed a w hn hf hsz h1 h2 hc hl
    have hi : l.length ≤ i := by omega
    rw [List.drop_eq_nil_of_le hi] at hl
    refine ⟨?_, hl⟩
    cases hr : Region.ready .any l.toArray listed with
    | nil => rfl
    | cons j js => have := only i listed hn hsz h1 h2 hc j (by rw [hr]; simp); omega
  | succ fuel ih =>
    intro i listed a w hn hf hsz h1 h2 hc hl
    refine ⟨fun hr => ?_, fun j hj => ?_⟩
    · rcases Nat.lt_or_ge i l.length with hi | hi
      · have : i ∈ Region.ready .any l.toArray listed := by
          rw [mem_ready]
          refine ⟨h2 i (Nat.le_refl _) hi, l[i], by simp [hi], fun e he hb => ?_⟩
          have := hsp.1 i _ (List.getElem?_eq_getElem hi) e he hb
          have h3 := h1 e.on this (by omega)
          have : e.on < listed.size := by omega
          simp [this] at h3 ⊢; exact h3
        rw [hr] at this; simp at this
      · rw [List.drop_eq_nil_of_le hi] at hl; exact hl
    · obtain ⟨rfl, hi⟩ := only i listed hn hsz h1 h2 hc j hj
      have hdrop : l.drop j = l[j] :: l.drop (j + 1) := List.drop_eq_getElem_cons hi
      rw [hdrop] at hl
      have hnext : ∀ a w, wpList P l.toArray Q (l.drop (j + 1)) a w → wpAny P .any l.toArray Q fuel (listed.setIfInBounds j true) a w := by
        intro a w hl'
        refine ih (j + 1) _ a w (by omega) (by omega) (by simp [hsz]) (fun k hk hkl => ?_) (fun k hk hkl => ?_) ?_ hl'
        · by_cases e : k = j
          · subst e; simp [hsz, hi]
          · rw [getD_set_ne true (fun h => e h.symm)]; exact h1 k (by omega) hkl
        · rw [getD_set_ne true (by omega)]; exact h2 k (by omega) hkl
        · intro k o hk hL e he hb
          by_cases ek : k = j
          · subst ek
            exact getD_set_true (by
              rw [mem_ready] at hj
              obtain ⟨_, o', ho', hall⟩ := hj
              have : l[k]? = some o' := by simpa using ho'
              rw [hk] at this; obtain rfl := Option.some.inj this
              exact hall e he hb)
          · exact getD_set_true (hc k o hk (by
              have hL' : (listed.setIfInBounds j true).getD k false = true := hL
              rwa [getD_set_ne false (fun h => ek h.symm)] at hL') e he hb)
      have ho : l.toArray[j]? = some l[j] := by simp [hi]
      unfold wpOp
      rw [ho]
      simp only []
      unfold wpList at hl
      split
      · rename_i hw; rw [if_pos hw] at hl; exact hl.imp (Oper.wp_mono hnext) id
      · rename_i hw; rw [if_neg hw] at hl; exact hnext _ _ hl

theorem Sat.putOut {a : Act} {w : World} {F : Blk} (s : Sat E Γ M a w F) {d : Nat} (hd : d < E.n) (v : Value) (h : ∀ t S, look Γ t = some S → t ≠ d) : Sat E Γ M (a.put (some d) v) w F :=
  { defers := s.defers, size := by simp [Act.put, s.size], keep := s.keep, f0 := s.f0, fnew := s.fnew, flt := s.flt, mem := s.mem,
    slots := fun t S' ht => by
      rw [getD_put (by rw [s.size]; exact hd), if_neg (fun e => h t S' ht e.symm)]
      exact s.slots t S' ht }

theorem Sat.wider {Γ' : Ctx} {a : Act} {w : World} {F : Blk} (s : Sat E Γ M a w F) (h : ∀ t S, look Γ' t = some S → S.h w F (a.tmps.getD t undef)) : Sat E Γ' M a w F := { s with slots := h }

theorem count_ge {listed : Array Bool} {n len : Nat} (hsz : listed.size = len) (h : ∀ j, n ≤ j → j < len → listed.getD j true = false) : len - n ≤ listed.toList.countP (· == false) := by
  have h1 : listed.toList.countP (· == false) = (listed.toList.take n).countP (· == false) + (listed.toList.drop n).countP (· == false) := by
    rw [← List.countP_append, List.take_append_drop]
  have h2 : (listed.toList.drop n).countP (· == false) = (listed.toList.drop n).length := by
    rw [List.countP_eq_length]
    intro b hb
    obtain ⟨j, hj, rfl⟩ := List.mem_iff_getElem.1 hb
    simp at hj
    have := h (n + j) (by omega) (by omega)
    have hlt : n + j < listed.size := by omega
    simp [hlt] at this
    simp [this]
  rw [List.length_drop, Array.length_toList, hsz] at h2
  omega

theorem phaseA {l : List Oper} {n : Nat} {Ss : List VP} (hD : Dr E P l Γ M n Ss) (hap : apartB l n Γ = true) (htl : tailB l n = true) (hnl : n ≤ l.length)
    (k : Ops E P l.toArray Q (l.drop n) (dctx (l.take n) Ss ++ Γ) M) :
    ∀ (fuel : Nat) (listed : Array Bool) (a : Act) (w : World) (F : Blk), listed.toList.countP (· == false) ≤ fuel → listed.size = l.length →
    (∀ j, n ≤ j → j < l.length → listed.getD j true = false) → Closed l (fun j => listed.getD j false = true) → Sat E Γ M a w F → Done l Ss (fun j => listed.getD j false = true) a w F →
    wpAny P .any l.toArray Q fuel listed a w := by
  obtain ⟨hlen, hat⟩ := hD.at
  have hsp := tailB_spec htl
  have gd : ∀ (listed : Array Bool) j, j < listed.size → listed.getD j true = listed.getD j false := fun listed j hj => by simp [hj]
  have hapart : ∀ i d, i < n → (l[i]?).bind (·.dst) = some d → (∀ t S, look Γ t = some S → t ≠ d) ∧ ∀ j e, j < n → j ≠ i → (l[j]?).bind (·.dst) = some e → e ≠ d := by
    intro i d hi hd
    unfold apartB at hap
    rw [List.all_eq_true] at hap
    have h1 := hap i (by simpa using hi)
    rw [hd] at h1
    simp only [Bool.and_eq_true] at h1
    refine ⟨look_none h1.1, fun j e hj hne he => ?_⟩
    have h2 := List.all_eq_true.1 h1.2 j (by simpa using hj)
    rw [he] at h2
    simp only [Bool.or_eq_true, Bool.not_eq_true'] at h2
    rcases h2 with h2 | h2
    · exact absurd (Nat.eq_of_beq_eq_true h2).symm hne
    · exact fun e' => Nat.ne_of_beq_eq_false h2 e'.symm
  intro fuel
  induction fuel with
  | zero =>
    intro listed a w F hcnt hsz htail hc s hdone
    have hge := count_ge hsz htail
    have hall : ∀ j, j < n → j < l.length → listed.getD j true = true := by
      intro j hj hjl
      have hlt : j < listed.size := by omega
      have h0 : listed.toList.countP (· == false) = 0 := by omega
      rw [List.countP_eq_zero] at h0
      have := h0 listed[j] (by simp)
      simp [hlt]
      simpa using this
    refine phaseB htl 0 n listed a w (Nat.le_refl _) (by omega) hsz hall htail hc (k a w F (s.wider ?_))
    intro t S ht
    rw [look_append] at ht
    cases hl : look (dctx (l.take n) Ss) t with
    | none => rw [hl] at ht; exact s.slots t S (by simpa using ht)
    | some S' =>
      rw [hl] at ht
      obtain rfl : S' = S := by simpa using ht
      obtain ⟨j, o, h1, h2, h3⟩ := look_dctx _ _ _ _ hl
      have hj : j < n := by
        rcases Nat.lt_or_ge j n with h' | h'
        · exact h'
        · rw [List.getElem?_eq_none (by omega)] at h3; cases h3
      rw [List.getElem?_take_of_lt hj] at h1
      exact hdone j o t S' (by have h4 := hall j hj (by omega); rw [gd listed j (by omega)] at h4; exact h4) h1 h2 h3
  | succ fuel ih =>
    intro listed a w F hcnt hsz htail hc s hdone
    by_cases hall : ∀ j, j < n → j < l.length → listed.getD j true = true
    · have hge := count_ge hsz htail
      refine phaseB htl (fuel + 1) n listed a w (Nat.le_refl _) (by omega) hsz hall htail hc (k a w F (s.wider ?_))
      intro t S ht
      rw [look_append] at ht
      cases hl : look (dctx (l.take n) Ss) t with
      | none => rw [hl] at ht; exact s.slots t S (by simpa using ht)
      | some S' =>
        rw [hl] at ht
        obtain rfl : S' = S := by simpa using ht
        obtain ⟨j, o, h1, h2, h3⟩ := look_dctx _ _ _ _ hl
        have hj : j < n := by
          rcases Nat.lt_or_ge j n with h' | h'
          · exact h'
          · rw [List.getElem?_eq_none (by omega)] at h3; cases h3
        rw [List.getElem?_take_of_lt hj] at h1
        exact hdone j o t S' (by have h4 := hall j hj (by omega); rw [gd listed j (by omega)] at h4; exact h4) h1 h2 h3
    · have hex : ∃ j, j < n ∧ listed.getD j true = false := by
        refine Classical.byContradiction fun hno => hall fun j hj _ => ?_
        cases hb : listed.getD j true with
        | true => rfl
        | false => exact absurd ⟨j, hj, hb⟩ hno
      refine ⟨fun hr => ?_, fun i hi => ?_⟩
      · obtain ⟨j, ⟨hj1, hj2⟩, hmin⟩ := exists_least hex
        have : j ∈ Region.ready .any l.toArray listed := by
          rw [mem_ready]
          have hjl : j < l.length := by omega
          refine ⟨hj2, l[j], by simp [hjl], fun e he hb => ?_⟩
          have hlt := hsp.1 j _ (List.getElem?_eq_getElem hjl) e he hb
          cases hbb : listed.getD e.on true with
          | true => rw [gd listed e.on (by omega)] at hbb; exact hbb
          | false => have := hmin e.on ⟨by omega, hbb⟩; omega
        rw [hr] at this; simp at this
      · have hi' := hi
        rw [mem_ready] at hi
        obtain ⟨g1, o, g2, g3⟩ := hi
        have g2' : l[i]? = some o := by simpa using g2
        have hil : i < l.length := by
          rcases Nat.lt_or_ge i l.length with h' | h'
          · exact h'
          · rw [List.getElem?_eq_none h'] at g2'; cases g2'
        have hin : i < n := by
          rcases Nat.lt_or_ge i n with h' | h'
          · exact h'
          · obtain ⟨j, hj1, hj2⟩ := hex
            obtain ⟨m, hm, hb⟩ := hsp.2 i hil h' j (by omega)
            have := reach hc i o g2' g3 j m hm hb
            have e : listed.getD j false = true := this
            rw [← gd listed j (by omega), hj2] at e; cases e
        obtain ⟨o', d, S, Δ, a1, a2, a3, a4, a6, a7⟩ := hat i hin
        rw [g2'] at a1; obtain rfl := Option.some.inj a1
        have hbind : (l[i]?).bind (·.dst) = some d := by rw [g2']; exact a2
        obtain ⟨ap1, ap2⟩ := hapart i d hin hbind
        have hsat : Sat E Δ M a w F := s.wider (fun t S' ht => by
          rcases a6 t S' ht with ⟨j, oj, b0, b1, b2, b3⟩ | h
          · have hmask : i < (masks l []).length := by rw [masks_len]; simpa using hil
            rw [List.getElem?_eq_getElem hmask] at b0
            exact hdone j oj t S' (reach hc i o g2' g3 j _ (List.getElem?_eq_getElem hmask) (by simpa using b0)) b1 b2 b3
          · exact s.slots t S' h)
        have hstep := a7 a w F hsat (wpAny P .any l.toArray Q fuel (listed.setIfInBounds i true)) Q
        have hgo : ∀ v w' F', Adv w F w' F' → S.h w' F' v → wpAny P .any l.toArray Q fuel (listed.setIfInBounds i true) (a.put o.dst v) w' := by
          intro v w' F' ad hv
          rw [a2]
          have s1 := s.adv ad
          refine ih _ _ w' F' ?_ (by simp [hsz]) (fun j hj hjl => ?_) ?_ (s1.putOut a3 v ap1) ?_
          · have hlt : i < listed.toList.length := by simp; omega
            have hli : listed.toList[i] = false := by
              have : i < listed.size := by omega
              simp [this] at g1; simpa using g1
            rw [Array.toList_setIfInBounds, List.countP_set hlt]
            rw [hli]
            have hpos : 0 < listed.toList.countP (· == false) := List.countP_pos_iff.2 ⟨false, by rw [← hli]; exact List.getElem_mem _, rfl⟩
            simp only [beq_self_eq_true, if_true]
            show _ - 1 + 0 ≤ fuel
            omega
          · rw [getD_set_ne true (by omega)]; exact htail j hj hjl
          · intro j oj hj hL e he hb
            by_cases ek : j = i
            · subst ek
              rw [g2'] at hj; obtain rfl := Option.some.inj hj
              exact getD_set_true (g3 e he hb)
            · exact getD_set_true (hc j oj hj (by
                have hL' : (listed.setIfInBounds i true).getD j false = true := hL
                rwa [getD_set_ne false (fun h => ek h.symm)] at hL') e he hb)
          · intro j oj dj Sj hL hj hdj hSj
            rw [getD_put (by rw [s1.size]; exact a3)]
            by_cases ek : j = i
            · subst ek
              rw [g2'] at hj; obtain rfl := Option.some.inj hj
              rw [a2] at hdj; obtain rfl := Option.some.inj hdj
              rw [a4] at hSj; obtain rfl := Option.some.inj hSj
              rw [if_pos rfl]; exact hv
            · have hjn : j < n := by
                rcases Nat.lt_or_ge j n with h' | h'
                · exact h'
                · rw [List.getElem?_eq_none (by omega)] at hSj; cases hSj
              have hne := ap2 j dj hjn ek (by rw [hj]; exact hdj)
              rw [if_neg (fun e => hne e.symm)]
              refine Sj.mono _ _ _ _ _ (hdone j oj dj Sj ?_ hj hdj hSj) (ad.same s.flt) ad.sub
              have hL' : (listed.setIfInBounds i true).getD j false = true := hL
              rwa [getD_set_ne false (fun h => ek h.symm)] at hL'
        have hres := hstep hgo
        unfold wpOp
        have ho : l.toArray[i]? = some o := by simpa using g2'
        rw [ho]
        exact hres

theorem Tri.drawn {id : Nat} {l : List Oper} {n : Nat} {Ss : List VP} (hm : P.follows .mixedOrders = true) (hD : Dr E P l Γ M n Ss) (hap : apartB l n Γ = true) (htl : tailB l n = true) (hnl : Nat.ble n l.length = true)
    (k : Ops E P l.toArray Q (l.drop n) (dctx (l.take n) Ss ++ Γ) M) : Tri E P (.region id l.toArray true) Γ M Q := by
  intro a w F s
  refine wp_region_any hm ?_
  have s1 := s.adv (Adv.drew w F)
  refine phaseA hD hap htl (Nat.le_of_ble_eq_true hnl) k _ _ a _ F ?_ (by simp) (fun j hj hjl => ?_) ?_ s1 ?_
  · simp
    exact Nat.le_trans List.countP_le_length (by simp)
  · have : j < l.length := hjl
    simp [this]
  · intro i o hi hL
    simp [Array.getD_eq_getD_getElem?, Array.getElem?_replicate] at hL
    split at hL <;> simp at hL
  · intro j o d S hL
    simp [Array.getD_eq_getD_getElem?, Array.getElem?_replicate] at hL
    split at hL <;> simp at hL

/-- the same, step by step: Θ is what the slots written so far hold -/
def DrG (E : Env) (P : Program) (id : Nat) (l : List Oper) (Γ : Ctx) (M : Mem) (Q : Exit → Act → World → Prop) (i : Nat) (Θ : Ctx) : Prop :=
  ∀ Ss, Dr E P l Γ M i Ss → (∀ t S, look Θ t = some S → ∃ (j : Nat) (o : Oper), j < i ∧ l[j]? = some o ∧ o.dst = some t ∧ Ss[j]? = some S) → Tri E P (.region id l.toArray true) Γ M Q
theorem Tri.dr {id : Nat} {l : List Oper} (h : DrG E P id l Γ M Q 0 []) : Tri E P (.region id l.toArray true) Γ M Q := h [] .nil (fun t S ht => by simp [look] at ht)

/-- the slots ts are written by operations that the i-th stands behind -/
def behindB (l : List Oper) (i : Nat) (ts : List Nat) : Bool :=
  let m := ((masks l [])[i]?).getD 0
  (List.range i).all fun j => m.testBit j || match (l[j]?).bind (·.dst) with
    | none => true
    | some d => ts.all fun t => !Nat.beq d t
theorem look_keepc {Θ : Ctx} : ∀ (ts : List Nat) (t : Nat) (S : VP), look (keepc ts Θ) t = some S → t ∈ ts ∧ look Θ t = some S
  | [], t, S, h => by simp [keepc, look] at h
  | u :: ts, t, S, h => by
    simp only [keepc] at h
    cases hu : look Θ u with
    | none => rw [hu] at h; have := look_keepc ts t S h; exact ⟨by simp [this.1], this.2⟩
    | some S0 =>
      rw [hu] at h
      simp only [look] at h
      cases hb : Nat.beq u t with
      | true =>
        rw [hb] at h; simp at h; subst h
        obtain rfl := Nat.eq_of_beq_eq_true hb
        exact ⟨by simp, hu⟩
      | false => rw [hb] at h; have := look_keepc ts t S h; exact ⟨by simp [this.1], this.2⟩

theorem DrG.st {id i d : Nat} {l : List Oper} {Θ : Ctx} {S : VP} {o : Oper} (ts : List Nat) (h1 : l[i]? = some o) (h2 : o.dst = some d) (h3 : Nat.blt d E.n = true)
    (h4 : behindB l i ts = true) (h5 : OKG E P l.toArray (keepc ts Θ ++ Γ) M o S) (k : DrG E P id l Γ M Q (i + 1) ((d, S) :: Θ)) : DrG E P id l Γ M Q i Θ := by
  intro Ss hD hΘ
  obtain ⟨hlen, _⟩ := hD.at
  refine k (Ss ++ [S]) (.snoc _ hD h1 h2 h3 (fun t S' ht => ?_) h5) (fun t S' ht => ?_)
  · rw [look_append] at ht
    cases hl : look (keepc ts Θ) t with
    | none => rw [hl] at ht; exact .inr (by simpa using ht)
    | some S'' =>
      rw [hl] at ht
      obtain rfl : S'' = S' := by simpa using ht
      obtain ⟨hm, hl2⟩ := look_keepc _ _ _ hl
      obtain ⟨j, oj, b0, b1, b2, b3⟩ := hΘ t S'' hl2
      refine .inl ⟨j, oj, ?_, b1, b2, b3⟩
      have := List.all_eq_true.1 h4 j (by simpa using b0)
      rw [b1] at this
      simp only [Option.bind_some, b2, Bool.or_eq_true] at this
      rcases this with h | h
      · exact h
      · have := List.all_eq_true.1 h t hm
        simp [Nat.beq_refl] at this
  · simp only [look] at ht
    cases hb : Nat.beq d t with
    | true =>
      rw [hb] at ht; simp at ht; subst ht
      obtain rfl := Nat.eq_of_beq_eq_true hb
      exact ⟨i, o, by omega, h1, h2, by rw [List.getElem?_append_right (by omega)]; simp [hlen]⟩
    | false =>
      rw [hb] at ht
      obtain ⟨j, oj, b0, b1, b2, b3⟩ := hΘ t S' ht
      exact ⟨j, oj, by omega, b1, b2, by rw [List.getElem?_append_left (by omega)]; exact b3⟩
theorem DrG.fin {id n : Nat} {l : List Oper} {Θ : Ctx} (hm : P.follows .mixedOrders = true) (hap : apartB l n Γ = true) (htl : tailB l n = true) (hnl : Nat.ble n l.length = true)
    (k : Ops E P l.toArray Q (l.drop n) (Θ ++ Γ) M) : DrG E P id l Γ M Q n Θ := by
  intro Ss hD hΘ
  have hnl' := Nat.le_of_ble_eq_true hnl
  refine Tri.drawn hm hD hap htl hnl fun a w F s => k a w F (s.wider fun t S ht => ?_)
  rw [look_append] at ht
  cases hl : look Θ t with
  | none =>
    rw [hl] at ht
    have ht' : look Γ t = some S := by simpa using ht
    have hno : look (dctx (l.take n) Ss) t = none := by
      cases hd : look (dctx (l.take n) Ss) t with
      | none => rfl
      | some S' =>
        obtain ⟨j, o, b1, b2, b3⟩ := look_dctx _ _ _ _ hd
        have hj : j < n := by
          rcases Nat.lt_or_ge j n with h' | h'
          · exact h'
          · rw [List.getElem?_eq_none (by simp; omega)] at b1; cases b1
        rw [List.getElem?_take_of_lt hj] at b1
        have h1 := List.all_eq_true.1 hap j (by simpa using hj)
        rw [b1] at h1
        simp only [Option.bind_some, b2, Bool.and_eq_true] at h1
        exact absurd rfl (look_none h1.1 t S ht')
    exact s.slots t S (by rw [look_append, hno]; simpa using ht')
  | some S' =>
    rw [hl] at ht
    obtain rfl : S' = S := by simpa using ht
    obtain ⟨j, o, b0, b1, b2, b3⟩ := hΘ t S' hl
    -- the slots are apart: so the context of all that are done says the same of it
    have hex : ∀ (l' : List Oper) (Ss' : List VP) (j : Nat), (l'[j]?).bind (·.dst) = some t → Ss'[j]? = some S' → (∀ j', j' ≠ j → (l'[j']?).bind (·.dst) ≠ some t) → look (dctx l' Ss') t = some S' := by
      intro l'
      induction l' with
      | nil => intro Ss' j h; simp at h
      | cons o' l' ih =>
        intro Ss' j h1 h2 h3
        cases Ss' with
        | nil => simp at h2
        | cons T Ss' =>
          cases j with
          | zero =>
            simp at h1 h2
            subst h2
            simp [dctx, h1, look]
          | succ j =>
            have hrec := ih Ss' j (by simpa using h1) (by simpa using h2) (fun j' hj' => by simpa using h3 (j' + 1) (by omega))
            have h0 := h3 0 (by omega)
            simp at h0
            simp only [dctx]
            cases hd : o'.dst with
            | none => exact hrec
            | some d' =>
              simp only [look]
              have hne : Nat.beq d' t = false := by
                cases hb : Nat.beq d' t with
                | false => rfl
                | true => exact absurd (by rw [hd, Nat.eq_of_beq_eq_true hb]) h0
              rw [hne]; exact hrec
    have hlk := hex (l.take n) Ss j (by rw [List.getElem?_take_of_lt b0, b1]; exact b2) b3 (fun j' hj' he => by
      have hj'n : j' < n := by
        rcases Nat.lt_or_ge j' n with h' | h'
        · exact h'
        · rw [List.getElem?_eq_none (by simp; omega)] at he; simp at he
      rw [List.getElem?_take_of_lt hj'n] at he
      have h1 := List.all_eq_true.1 hap j (by simpa using b0)
      rw [b1] at h1
      simp only [Option.bind_some, b2, Bool.and_eq_true] at h1
      have h2 := List.all_eq_true.1 h1.2 j' (by simpa using hj'n)
      rw [he] at h2
      simp only [Bool.or_eq_true, Bool.not_eq_true'] at h2
      rcases h2 with h2 | h2
      · exact hj' (Nat.eq_of_beq_eq_true h2).symm
      · exact Nat.ne_of_beq_eq_false h2 rfl)
    exact s.slots t S' (by rw [look_append, hlk]; rfl)
end
end Go.En
