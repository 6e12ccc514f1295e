/- Slices that grow by append. -/
import Derived.Test.YtokhpacdgoebpaaOw
import Derived.Laws.AppendOwn
namespace Go.En
open Go.RowKit
set_option linter.unusedVariables false
/-- a slice that grows: its block, if it has one, its room, and what stands behind its elements -/
structure Gr (α : Type) where
  ob : Option Nat
  c : Nat
  sp : List α
def Gr.nil {α : Type} : Gr α := ⟨none, 0, []⟩
def isGr {α : Type} (g : Gr α) (n : Nat) : VP := .pure fun v => (g.ob = none ∧ n = 0 ∧ v = .slice none 0 0) ∨ (∃ b, g.ob = some b ∧ v = .slice (some ⟨b, 0, none⟩) n g.c ∧ n + g.sp.length = g.c ∧ g.c ≤ maxLen)
def grM {α : Type} (f : α → VP) (g : Gr α) (ys : List α) : Option Nat × MP := (g.ob, cellM ((ys ++ g.sp).map f))
instance {α : Type} {g : Gr α} {n : Nat} : IsSl (isGr g n) n := ⟨fun w F v h => by
  rcases h with ⟨_, rfl, rfl⟩ | ⟨b, _, rfl, h1, h2⟩
  · exact ⟨_, _, rfl, Nat.le_refl _, by rw [maxLen_eq]; omega⟩
  · exact ⟨_, _, rfl, by omega, h2⟩⟩
instance {α : Type} {g : Gr α} {n : Nat} : Shape (isGr g n) [isGr g n] := .of_one inferInstance
section
variable {E : Env} {P : Program} {Γ : Ctx} {M : Mem} {ty : TypeId} {pos : String} {after : Array Edge} {gd : Option (Nat × Bool)} {d : Option Tmp}
  {ops : Array Oper} {Q : Exit → Act → World → Prop} {rest : List Oper} {T T' : TypeId} {x y : Operand} {α : Type} {f : α → VP} {fk : α → List VP} {xs : List α}

/-- room for a slice that is still to grow -/
theorem Cv.grow0 (f : α → VP) : Cv E Γ M Γ (grM f Gr.nil [] :: M) := fun a w F s =>
  ⟨F, { s with mem := ⟨List.Pairwise.cons (fun x hx => .inl rfl) s.mem.apart, fun b C hb => by
    rcases List.mem_cons.1 hb with e | hb
    · cases e
    · exact s.mem.each b C hb⟩ }⟩
theorem nbeq_self (t : Nat) : Nat.beq t t = true := by simp [Nat.beq_eq]
theorem gr0 {w : World} {F : Blk} : (isGr (Gr.nil : Gr α) 0).h w F (.slice none 0 0) := .inl ⟨rfl, rfl, rfl⟩
theorem Has.cGr : Has E Γ M (.const (.slice none 0 0)) (isGr (Gr.nil : Gr α) 0) := fun _ _ _ _ => gr0
theorem Has.nilGr (h : Has E Γ M x nilS) : Has E Γ M x (isGr (Gr.nil : Gr α) 0) := fun a w F s => by
  have : a.eval x = .slice none 0 0 := h a w F s
  rw [this]; exact gr0
theorem Sat.swap {a : Act} {w : World} {F : Blk} {n i : Nat} {C : MP} (s : Sat E Γ ((some n, C) :: M) a w F) : Sat E Γ (M.set i (some n, C)) a w F := by
  have hp := List.pairwise_cons.1 s.mem.apart
  refine { s with mem := ⟨?_, fun k D hk => ?_⟩ }
  · rw [List.pairwise_iff_getElem]
    intro j k hj hk hjk
    have hp2 := List.pairwise_iff_getElem.1 hp.2 j k (by simpa using hj) (by simpa using hk) hjk
    simp only [List.getElem_set]
    by_cases e1 : i = j
    · subst e1
      have : ¬ i = k := by omega
      simp only [if_true, this, if_false]
      exact hp.1 _ (List.getElem_mem _)
    · by_cases e2 : i = k
      · subst e2
        simp only [e1, if_true, if_false]
        right
        rcases hp.1 _ (List.getElem_mem (by simpa using hj : j < M.length)) with h | h
        · cases h
        · exact fun e => h e.symm
      · simp only [e1, e2, if_false]; exact hp2
  · rcases List.mem_or_eq_of_mem_set hk with h | h
    · exact s.mem.each k D (by simp [h])
    · exact s.mem.each k D (by rw [h]; exact List.mem_cons_self)
theorem set_self {i : Nat} {a : Option Nat × MP} (h : M[i]? = some a) : M.set i a = M := by
  have hi : i < M.length := by
    rcases Nat.lt_or_ge i M.length with h2 | h2
    · exact h2
    · rw [List.getElem?_eq_none h2] at h; cases h
  rw [List.getElem?_eq_getElem hi] at h
  rw [← Option.some.inj h, List.set_getElem_self]

/-- elements appended to a slice that grows -/
theorem Ops.appendG {d i : Nat} {e : TypeId} {g0 : Bool} {z : Value} {u : α} {g : Gr α} {ys zs : List α} (hT : slB P T = some e) (ht : tyB P e = some (0 + 1, g0)) (hz : zeroB P e = some z) (hZ : ∀ w F, All2 [f u] w F z.cells.toList) (h1 : ∀ u, One (f u)) (hby : byLe P e 1024 = true)
    (hx : Has E Γ M x (isGr g ys.length)) (hM : M[i]? = some (grM f g ys)) (hy : Has E Γ M y (SlM f zs)) (hn' : ys.length + zs.length ≤ 4294967296) (h0 : 0 < zs.length) (hd : Nat.blt d E.n = true)
    (k : ∀ g' : Gr α, Ops E P ops Q rest ((d, isGr g' (ys.length + zs.length)) :: Γ) (M.set i (grM f g' (ys ++ zs)))) :
    Ops E P ops Q (⟨some d, .call ⟨.builtin .append, #[x, y], #[T, T]⟩, ty, pos, after, none⟩ :: rest) Γ M := by
  intro a w F s
  refine wpList_plain rfl fun K hK => ?_
  have hd' : d < E.n := by simpa [Nat.blt_eq] using hd
  obtain ⟨a1, cap, e2, g1, g2, g3, g4⟩ := hy a w F s
  have hu := slB_under hT
  obtain ⟨inf, hi, hb⟩ : ∃ i, P.info? e = some i ∧ i.bytes ≤ 1024 := by
    unfold byLe at hby
    cases hi : P.info? e with
    | none => simp [hi] at hby
    | some i => rw [hi] at hby; exact ⟨i, rfl, Nat.le_of_ble_eq_true hby⟩
  have hsz : inf.size = 1 := by
    have := run_size (P := P) (w := w) ht
    simp [sizeOf, typeInfo, go_sem, hi] at this; exact this
  have hzz : inf.zero = some z := by unfold zeroB at hz; rw [hi] at hz; simpa using hz
  have hone : z.cells.size = 1 := by have := (hZ w F).len; simpa using this.symm
  have hzs : ∀ k, (Builtin.zeroCells z.cells k).toList = (List.replicate k z.cells.toList).flatten := fun k => by
    unfold Builtin.zeroCells
    rw [make_flat rfl]
  have hall : ∀ k, All2 ((List.replicate k u).map f) w F ((List.replicate k z.cells.toList).flatten) := by
    intro k
    induction k with
    | zero => trivial
    | succ k ih =>
      rw [List.replicate_succ, List.replicate_succ, List.flatten_cons, List.map_cons]
      exact All2.append (hZ w F) ih
  rcases g4 with g4 | ⟨b1, off, rfl, hF, vs, hv, hc⟩
  · omega
  have hlen := hv.len
  simp only [List.length_map] at hlen
  have hnews : ∀ j u, vs[j]? = some u → w.cell? ((⟨b1, off, none⟩ : Addr).add j) = some u := fun j u hj => by rw [add_mk]; exact hc j u hj
  have hnl : vs.length = zs.length * inf.size := by rw [hsz]; omega
  -- a new row
  have hfresh : ∀ (olds : List Value), All2 (ys.map f) w F olds → ∀ cp, ys.length + zs.length ≤ cp → cp ≤ maxLen →
      K (a.put (some d) (.slice (some ⟨w.heap.size, 0, none⟩) (ys.length + zs.length) cp)) { w with heap := w.heap.push (.cells (olds ++ vs ++ (Builtin.zeroCells z.cells (cp - (ys.length + zs.length))).toList).toArray e), drawn := w.drawn + 1 } := by
    intro olds ho cp h1 h2
    have hcs : All2 ((ys ++ zs ++ List.replicate (cp - (ys.length + zs.length)) u).map f) w F (olds ++ vs ++ (Builtin.zeroCells z.cells (cp - (ys.length + zs.length))).toList) := by
      rw [List.map_append, List.map_append, hzs]; exact All2.append (All2.append ho hv) (hall _)
    have s1 := (s.adv (Adv.drew w F)).alloc (T := e) (All2.mono (w := w) (w' := { w with drawn := w.drawn + 1 }) (fun _ _ => rfl) (fun _ h => h) _ _ hcs)
    refine hK _ _ (k ⟨some w.heap.size, cp, List.replicate (cp - (ys.length + zs.length)) u⟩ _ _ F ((s1.swap (i := i)).put hd' (.inr ⟨_, rfl, rfl, ?_, h2⟩)))
    simp; omega
  unfold Oper.wp
  have hml : ys.length + zs.length ≤ maxLen := by rw [maxLen_eq]; omega
  rcases hx a w F s with ⟨hob, hyl, e1⟩ | ⟨b, hob, e1, hcap, hcm0⟩
  · have hbytes : zs.length * inf.bytes ≤ 281474976710656 := by have := Nat.mul_le_mul (show zs.length ≤ 4294967296 by omega) hb; omega
    have hy0 : ys = [] := List.eq_nil_of_length_eq_zero hyl
    have hr := run_append_nil (P := P) w T ty e inf z hu hi hzz ⟨b1, off, none⟩ zs.length cap vs hnl hnews (by omega) (by omega) hbytes
    have hf := hfresh [] (by rw [hy0]; trivial) (grownCap w zs.length 0 e) (by rw [hyl, Nat.zero_add]; exact grownCap_ge _ _ _ _) (grownCap_le_maxLen _ _ _ _ (by omega))
    rw [hyl, Nat.zero_add, List.nil_append] at hf
    have hr2 : (execOp a.eval (⟨some d, .call ⟨.builtin .append, #[x, y], #[T, T]⟩, ty, pos, after, none⟩ : Oper)).run P w = .ok (.value (.slice (some ⟨w.heap.size, 0, none⟩) zs.length (grownCap w zs.length 0 e))) { w with heap := w.heap.push (.cells (vs ++ (Builtin.zeroCells z.cells (grownCap w zs.length 0 e - zs.length)).toList).toArray e), drawn := w.drawn + 1 } := by
      have earr : vs.toArray ++ Builtin.zeroCells z.cells (grownCap w zs.length 0 e - zs.length) = (vs ++ (Builtin.zeroCells z.cells (grownCap w zs.length 0 e - zs.length)).toList).toArray := by apply Array.ext'; simp
      simp only [execOp, resolve, invoke, builtin, Sem.run_bind]
      rw [← earr]
      simp [e1, e2, Sem.run_bind, hr]
      first | rfl | exact ⟨rfl, rfl⟩ | done
    rw [hr2]
    exact hf
  · have hM' : M[i]? = some (some b, cellM ((ys ++ g.sp).map f)) := by rw [hM]; unfold grM; rw [hob]
    obtain ⟨o, ho, us, T', rfl, hus⟩ := mem_at s hM'
    have husl := hus.len
    simp only [List.length_map, List.length_append] at husl
    rcases Nat.lt_or_ge g.c (ys.length + zs.length) with hg | hg
    · have holds : All2 (ys.map f) w F (us.take ys.length) := by
        have := hus.take ys.length
        rw [List.map_append, List.take_left' (by simp)] at this
        exact this
      have hcell : ∀ j u, (us.take ys.length)[j]? = some u → w.cell? ((⟨b, 0, none⟩ : Addr).add j) = some u := fun j u hj => by
        have hjl : j < ys.length := by
          rcases Nat.lt_or_ge j ys.length with h | h
          · exact h
          · rw [List.getElem?_take_eq_none h] at hj; cases hj
        rw [List.getElem?_take_of_lt hjl] at hj
        rw [add_mk]
        simp only [World.cell?, ho, Nat.zero_add]
        simpa using hj
      have hfit : Builtin.nextslicecap (ys.length + zs.length) g.c * inf.bytes ≤ 281474976710656 := by
        have h1 := nextslicecap_le hg
        have h2 := Nat.mul_le_mul (Nat.le_trans h1 (show 2 * (ys.length + zs.length) ≤ 8589934592 by omega)) hb
        omega
      have hr := run_append_grow (P := P) w T ty e inf z hu hi hzz ⟨b, 0, none⟩ ys.length g.c (us.take ys.length) (by rw [List.length_take, hsz]; omega) hcell ⟨b1, off, none⟩ zs.length cap vs hnl hnews hg (by omega) hfit
      have hf := hfresh _ holds (grownCap w (ys.length + zs.length) g.c e) (grownCap_ge _ _ _ _) (grownCap_le_maxLen _ _ _ _ hml)
      have hr2 : (execOp a.eval (⟨some d, .call ⟨.builtin .append, #[x, y], #[T, T]⟩, ty, pos, after, none⟩ : Oper)).run P w = .ok (.value (.slice (some ⟨w.heap.size, 0, none⟩) (ys.length + zs.length) (grownCap w (ys.length + zs.length) g.c e))) { w with heap := w.heap.push (.cells (us.take ys.length ++ vs ++ (Builtin.zeroCells z.cells (grownCap w (ys.length + zs.length) g.c e - (ys.length + zs.length))).toList).toArray e), drawn := w.drawn + 1 } := by
        have earr : (us.take ys.length).toArray ++ vs.toArray ++ Builtin.zeroCells z.cells (grownCap w (ys.length + zs.length) g.c e - (ys.length + zs.length)) = (us.take ys.length ++ vs ++ (Builtin.zeroCells z.cells (grownCap w (ys.length + zs.length) g.c e - (ys.length + zs.length))).toList).toArray := by apply Array.ext'; simp
        simp only [execOp, resolve, invoke, builtin, Sem.run_bind]
        rw [← earr]
        simp [e1, e2, Sem.run_bind, hr]
        first | rfl | exact ⟨rfl, rfl⟩ | done
      rw [hr2]
      exact hf
    · have hvone : ∀ v ∈ vs, v.oneCell' = true := hv.one (fun S hS => by obtain ⟨u, _, rfl⟩ := List.mem_map.1 hS; exact h1 u)
      have hst := run_storeCells_at P b ys.length T' vs 0 us.toArray w ho (by simp; omega) hvone
      simp only [Nat.add_zero] at hst
      have hfc := run_firstCells_some (P := P) w 1 zs.length ⟨b1, off, none⟩ zs.length cap vs (by omega) hnews
      have hr : (Builtin.append_ #[T, T] ty #[.slice (some ⟨b, 0, none⟩) ys.length g.c, .slice (some ⟨b1, off, none⟩) zs.length cap]).run P w = .ok (.slice (some ⟨b, 0, none⟩) (ys.length + zs.length) g.c) (w.setRow b (us.take ys.length ++ vs ++ us.drop (ys.length + vs.length)).toArray) := by
        have hst' : (storeCells ⟨b, ys.length, none⟩ vs).run P w = .ok () (w.setRow b (us.take ys.length ++ vs ++ us.drop (ys.length + vs.length)).toArray) := by simpa using hst
        simp [Builtin.append_, run_underlying hu, sizeOf, typeInfo, hi, hsz, Builtin.lenOf, hg, hfc, Addr.add_lit, hst']
      have hr2 : (execOp a.eval (⟨some d, .call ⟨.builtin .append, #[x, y], #[T, T]⟩, ty, pos, after, none⟩ : Oper)).run P w = .ok (.value (.slice (some ⟨b, 0, none⟩) (ys.length + zs.length) g.c)) (w.setRow b (us.take ys.length ++ vs ++ us.drop (ys.length + vs.length)).toArray) := by
        simp only [execOp, resolve, invoke, builtin, Sem.run_bind]
        simp [e1, e2, Sem.run_bind, hr]
      rw [hr2]
      have hF : ∀ k, F k → (w.setRow b (us.take ys.length ++ vs ++ us.drop (ys.length + vs.length)).toArray).heap[k]? = w.heap[k]? := fun k hk => setRow_ne _ _ _ _ (fun e => by
        subst e; exact (s.mem.each k _ (List.mem_of_getElem? hM')).2.2.1 hk)
      have hnew : All2 ((ys ++ zs ++ g.sp.drop zs.length).map f) w F (us.take ys.length ++ vs ++ us.drop (ys.length + vs.length)) := by
        have e1 := hus.take ys.length
        rw [List.map_append, List.take_left' (by simp)] at e1
        have e2 := hus.drop (ys.length + vs.length)
        rw [List.map_append, List.drop_append, List.drop_of_length_le (by simp), List.nil_append, List.length_map, ← hlen, Nat.add_sub_cancel_left, ← List.map_drop] at e2
        rw [List.map_append, List.map_append]
        rw [← hlen]
        exact (e1.append hv).append e2
      refine hK _ _ (k ⟨some b, g.c, g.sp.drop zs.length⟩ _ _ F ?_)
      exact (s.write (w' := w.setRow b (us.take ys.length ++ vs ++ us.drop (ys.length + vs.length)).toArray) (C' := cellM ((ys ++ zs ++ g.sp.drop zs.length).map f)) hM' rfl rfl rfl (setRow_size _ _ _) (fun k hk => setRow_ne _ _ _ _ hk) (setRow_heap _ _ _ _ _ _ ho) ⟨_, T', rfl, All2.mono hF (fun _ h => h) _ _ hnew⟩).put hd' (.inr ⟨b, rfl, rfl, by simp; omega, hcm0⟩)

/-- a slice that has grown, handed on -/
theorem Cv.freezeG {t i : Nat} {g : Gr α} {ys : List α} (hW : E.W = []) (ht : look Γ t = some (isGr g ys.length)) (hM : M[i]? = some (grM f g ys)) : Cv E Γ M ((t, SlM f ys) :: Γ) (M.eraseIdx i) := by
  intro a w F s
  rcases id (s.slots t _ ht) with ⟨hob, hyl, e1⟩ | ⟨b, hob, e1, hcap, hcm0⟩
  · refine ⟨F, { s with slots := ?_, mem := ⟨s.mem.apart.sublist (List.eraseIdx_sublist _ _), fun k C hk => s.mem.each k C ((List.eraseIdx_sublist _ _).subset hk)⟩ }⟩
    intro t' S' ht'
    simp only [look] at ht'
    cases hb : Nat.beq t t' with
    | false => rw [hb] at ht'; exact s.slots t' S' ht'
    | true =>
      rw [hb] at ht'
      obtain rfl : SlM f ys = S' := by simpa using ht'
      obtain rfl := Nat.eq_of_beq_eq_true hb
      rw [e1, List.eq_nil_of_length_eq_zero hyl]
      exact nilM _ _
  · have hM' : M[i]? = some (some b, cellM ((ys ++ g.sp).map f)) := by rw [hM]; unfold grM; rw [hob]
    have s2 : Sat E ((t, isWin b 0 ys.length g.c) :: Γ) M a w F := s.wider (fun t' S' ht' => by
      simp only [look] at ht'
      cases hb : Nat.beq t t' with
      | false => rw [hb] at ht'; exact s.slots t' S' ht'
      | true =>
        rw [hb] at ht'
        obtain rfl : isWin b 0 ys.length g.c = S' := by simpa using ht'
        obtain rfl := Nat.eq_of_beq_eq_true hb
        exact ⟨e1, by omega, hcm0⟩)
    have he : ((ys ++ g.sp).drop 0).take ys.length = ys := by rw [List.drop_zero, List.take_left' rfl]
    obtain ⟨F', s3⟩ := Cv.freeze' (Γ := (t, isWin b 0 ys.length g.c) :: Γ) (t := t) (b := b) (n := ys.length) (c := g.c) (o := 0) hW (by simp [look, nbeq_self]) hM' (by simp) he a w F s2
    refine ⟨F', s3.wider fun t' S' ht' => ?_⟩
    simp only [look] at ht'
    refine s3.slots t' S' ?_
    simp only [look]
    cases hb : Nat.beq t t' with
    | false => rw [hb] at ht'; simpa using ht'
    | true => rw [hb] at ht'; simpa using ht'
theorem isGr_eq {g : Gr α} {n n' : Nat} (h : n = n') : isGr g n = isGr g n' := h ▸ rfl
theorem grM_eq {g : Gr α} {ys ys' : List α} {r : Mem} (h : ys = ys') : (grM f g ys :: r : Mem) = grM f g ys' :: r := h ▸ rfl
end
/-- a natural number in an int -/
abbrev isN (n : Nat) : VP := isI (n : Int)
end Go.En
