/- Rules and contracts, part 2 of 6. -/
import Derived.Test.YtlebmedapfncoaaGreatQGramBases1
import Derived.Laws.MathBits
import Derived.ProofKit
import Derived.OpenShut
import Derived.ChangeOld
import Derived.Carry
namespace Go.En
open Go.RowKit
section
variable {E : Env} {P : Program} {Γ : Ctx} {M : Mem} {ty : TypeId} {pos : String} {after : Array Edge} {gd : Option (Nat × Bool)} {d : Option Tmp}
 {ops : Array Oper} {Q : Exit → Act → World → Prop} {rest : List Oper} {T T' : TypeId} {x y : Operand} {α : Type} {f : α → VP} {fk : α → List VP} {xs : List α} {k : Nat}
theorem xS (hk : ∀ y, (fk y).length = k) : ∀ (xs : List α), (xs.flatMap fk).length = xs.length * k
 | [] => by simp
 | a :: l => by rw [List.flatMap_cons, List.length_append, hk, xS hk l, List.length_cons, Nat.succ_mul]; omega
theorem vj (hk : ∀ y, (fk y).length = k) : ∀ (n : Nat) (xs : List α), (xs.flatMap fk).take (n * k) = (xs.take n).flatMap fk
  | 0, xs => by simp
  | n + 1, [] => by simp
  | n + 1, a :: l => by
    rw [List.flatMap_cons, List.take_succ_cons, List.flatMap_cons, Nat.succ_mul, Nat.add_comm, ← hk a, List.take_length_add_append, hk a, vj hk n l]
theorem bF (hk : ∀ y, (fk y).length = k) : ∀ (n : Nat) (xs : List α), (xs.flatMap fk).drop (n * k) = (xs.drop n).flatMap fk
  | 0, xs => by simp
  | n + 1, [] => by simp
  | n + 1, a :: l => by
    rw [List.flatMap_cons, List.drop_succ_cons, Nat.succ_mul, Nat.add_comm, ← hk a, List.drop_length_add_append, hk a, bF hk n l]
theorem re (hk : ∀ y, (fk y).length = k) (l h : Nat) (xs : List α) : ((xs.flatMap fk).take (h * k)).drop (l * k) = ((xs.take h).drop l).flatMap fk := by
 rw [vj hk, bF hk]
theorem yA {n : Nat} {Ss : List VP} {xs : List α} (h1 : n = xs.length) (h2 : Ss = xs.flatMap fk) : SlL k n Ss = SlK k fk xs := by subst h1; subst h2; rfl
theorem All2.rep {z : List VP} {vs : List Value} {w : World} {F : Blk} (h : All2 z w F vs) : ∀ c, All2 ((List.replicate c z).flatten) w F ((List.replicate c vs).flatten)
 | 0 => trivial
 | c + 1 => by rw [List.replicate_succ, List.replicate_succ, List.flatten_cons, List.flatten_cons]; exact All2.append h (All2.rep h c)
theorem bu {u : α} : ∀ c, (List.replicate c u).flatMap fk = (List.replicate c (fk u)).flatten
 | 0 => rfl
 | c + 1 => by rw [List.replicate_succ, List.replicate_succ, List.flatMap_cons, List.flatten_cons, bu c]
theorem Ops.makeK {d : Nat} {e : TypeId} {g : Bool} {z : Value} {n c : Nat} {u : α} (hT : slB P T = some e) (ht : tyB P e = some (k, g)) (hz : qm P e = some z) (hZ : ∀ w F, All2 (fk u) w F z.cells.toList) (hk : ∀ y, (fk y).length = k) (hby : jJ P e 1024 = true)
  (hx : Has E Γ M x (isI (n : Int))) (hy : Has E Γ M y (isI (c : Int))) (hn : n ≤ c ∧ c ≤ 4294967296) (hd : Nat.blt d E.n = true)
  (kk : ∀ b, Ops E P ops Q rest ((d, qR b 0 n c) :: Γ) ((some b, zC ((List.replicate c u).flatMap fk)) :: M)) : Ops E P ops Q (⟨some d, .makeSlice T x y, ty, pos, after, none⟩ :: rest) Γ M := by
 intro a w F s
 refine wpList_plain rfl fun K hK => ?_
 unfold Oper.wp
 have hm : z.cells.size = k := by have := (hZ w F).len; rw [hk] at this; simpa using this.symm
 obtain ⟨i, hi, hb⟩ : ∃ i, P.info? e = some i ∧ i.bytes ≤ 1024 := by
  unfold jJ at hby
  cases hi : P.info? e with
  | none => simp [hi] at hby
  | some i => rw [hi] at hby; exact ⟨i, rfl, Nat.le_of_ble_eq_true hby⟩
 have hr : (execOp a.eval (⟨some d, .makeSlice T x y, ty, pos, after, none⟩ : Oper)).run P w = .ok (.value (.slice (some ⟨w.heap.size, 0, none⟩) n c)) { w with heap := w.heap.push (.cells ((List.replicate c z.cells.toList).flatten).toArray e) } := by
  simp only [execOp, evI hx a w F s, evI hy a w F s, Sem.run_bind, kv hT ht hz hi hb hn.1 hn.2 hm, Result.andThen_ok, Sem.run_pure]
 rw [hr]
 have hall : All2 ((List.replicate c u).flatMap fk) w F ((List.replicate c z.cells.toList).flatten) := by rw [bu]; exact (hZ w F).rep c
 have s1 := s.alloc (T := e) hall
 have hd' : d < E.n := by simpa [Nat.blt_eq] using hd
 exact hK _ _ (kk w.heap.size _ _ F (s1.put hd' ⟨rfl, hn.1, by rw [qM]; omega⟩))
theorem uM (hk : ∀ y, (fk y).length = k) (z : α) : ∀ (j : Nat) (xs : List α), j < xs.length → (xs.flatMap fk).take (j * k) ++ fk z ++ (xs.flatMap fk).drop (j * k + k) = (xs.set j z).flatMap fk
  | j, xs, hj => by
    rw [← Nat.succ_mul, vj hk, bF hk, List.set_eq_take_append_cons_drop, if_pos hj, List.flatMap_append, List.flatMap_cons, List.append_assoc]
theorem Ops.storeK {b i j : Nat} {g : Bool} {T : TypeId} {S : VP} {z : α} [sh : Shape S (fk z)] [o1 : Ones (fk z)] (hk : ∀ y, (fk y).length = k) (hx : Has E Γ M x (qU b (j * k))) (hy : Has E Γ M y S)
  (hM : M[i]? = some (some b, zC (xs.flatMap fk))) (hT : tyB P T = some (k, g)) (hl : j < xs.length) {M' : Mem}
  (hM' : M.set i (some b, zC ((xs.set j z).flatMap fk)) = M') (kk : Ops E P ops Q rest Γ M') : Ops E P ops Q (⟨none, .store T x y, ty, pos, after, none⟩ :: rest) Γ M :=
 Ops.store (Ss1 := fk z) hx hy hM hT (by rw [hk, Nat.beq_eq]) (by
  rw [Nat.ble_eq, xS hk, ← Nat.succ_mul]; exact Nat.mul_le_mul_right k hl) (Ss' := (xs.set j z).flatMap fk) (uM hk z j xs hl) hM' kk
theorem Cv.freezeL {t b o n c i : Nat} {Ss : List VP} (hW : E.W = []) (ht : zP Γ t = some (qR b o n c)) (hM : M[i]? = some (some b, zC Ss)) (hl : o + n * k ≤ Ss.length) : Cv E Γ M ((t, SlL k n ((Ss.drop o).take (n * k))) :: Γ) (M.eraseIdx i) := by
  intro a w F s
  obtain ⟨h1, h2, h3, ob, h4, vs, T', rfl, hv⟩ := s.mem.each b _ (List.mem_of_getElem? hM)
  refine ⟨fun k => F k ∨ k = b, ?_⟩
  have hsub : ∀ k, F k → (F k ∨ k = b) := fun k hk => .inl hk
  have hi : i < M.length := by
    rcases Nat.lt_or_ge i M.length with h | h
    · exact h
    · rw [List.getElem?_eq_none h] at hM; cases hM
  have hMi : M[i] = (some b, zC Ss) := by rw [List.getElem?_eq_getElem hi] at hM; exact Option.some.inj hM
  have hbW : E.w0.heap.size ≤ b := h1.resolve_right (by rw [hW]; simp)
  obtain ⟨e1, e2, e3⟩ := s.slots t _ ht
  · refine { defers := s.defers, size := s.size, keep := s.keep, f0 := fun k hk => .inl (s.f0 k hk), fnew := ?_, flt := ?_, slots := ?_, mem := ⟨s.mem.apart.sublist (List.eraseIdx_sublist _ _), ?_⟩ }
    · rintro k (hk | rfl)
      · exact s.fnew k hk
      · exact .inr ⟨hbW, h2⟩
    · rintro k (hk | rfl)
      · exact s.flt k hk
      · exact h2
    · intro t' S' ht'
      simp only [zP] at ht'
      cases hb : Nat.beq t t' with
      | false => rw [hb] at ht'; exact S'.mono _ _ _ _ _ (s.slots t' S' ht') (fun _ _ => rfl) hsub
      | true =>
        rw [hb] at ht'
        obtain rfl : SlL k n ((Ss.drop o).take (n * k)) = S' := by simpa using ht'
        obtain rfl := Nat.eq_of_beq_eq_true hb
        have hlen : ((Ss.drop o).take (n * k)).length = n * k := by rw [List.length_take, List.length_drop]; omega
        refine ⟨some ⟨b, o, none⟩, c, e1, e2, e3, hlen, ?_⟩
        right
        refine ⟨b, o, rfl, .inr rfl, (vs.drop o).take (n * k), All2.mono (fun _ _ => rfl) hsub _ _ ((hv.drop o).take (n * k)), fun j u hj => ?_⟩
        have hjn : j < n * k := by
          rcases Nat.lt_or_ge j (n * k) with h | h
          · exact h
          · rw [List.getElem?_take_eq_none h] at hj; cases hj
        rw [List.getElem?_take_of_lt hjn, List.getElem?_drop] at hj
        simp [World.cell?, h4, hj]
    · intro k C hk
      obtain ⟨j, hji, hj⟩ := List.mem_eraseIdx_iff_getElem?.1 hk
      obtain ⟨g1, g2, g3, o2, g4, g5⟩ := s.mem.each k C (List.mem_of_getElem? hj)
      have hkb : k ≠ b := by
        intro e; subst e
        have hjl : j < M.length := by
          rcases Nat.lt_or_ge j M.length with h | h
          · exact h
          · rw [List.getElem?_eq_none h] at hj; cases hj
        have hMj : M[j] = (some k, C) := by rw [List.getElem?_eq_getElem hjl] at hj; exact Option.some.inj hj
        rcases Nat.lt_or_gt_of_ne hji with hlt | hlt
        · have hp := List.pairwise_iff_getElem.1 s.mem.apart j i hjl hi hlt
          rw [hMi, hMj] at hp; simp at hp
        · have hp := List.pairwise_iff_getElem.1 s.mem.apart i j hi hjl hlt
          rw [hMi, hMj] at hp; simp at hp
      exact ⟨g1, g2, fun h => h.elim g3 hkb, o2, g4, C.mono _ _ _ _ _ g5 (fun _ _ => rfl) hsub⟩
theorem Cv.freezeK {t b n c i : Nat} {ys : List α} (hk : ∀ y, (fk y).length = k) (hW : E.W = []) (ht : zP Γ t = some (qR b 0 n c)) (hM : M[i]? = some (some b, zC (xs.flatMap fk))) (hl : n ≤ xs.length) (he : xs.take n = ys) :
  Cv E Γ M ((t, SlK k fk ys) :: Γ) (M.eraseIdx i) := by
 have h := Cv.freezeL (E := E) (k := k) hW ht hM (by rw [xS hk, Nat.zero_add]; exact Nat.mul_le_mul_right k hl)
 rw [List.drop_zero, vj hk, he] at h
 rwa [yA (by rw [← he, List.length_take]; omega) rfl] at h
def zz (fk : α → List VP) (g : Gr α) (ys : List α) : Option Nat × MP := (g.ob, zC ((ys ++ g.sp).flatMap fk))
theorem All2.ofFlat {w : World} {F : Blk} {vs : List Value} (hk : ∀ y, (fk y).length = k) (h : All2 (xs.flatMap fk) w F vs) : vs.length = xs.length * k := by
 rw [← h.len, xS hk]
theorem Ops.appendGK {d i : Nat} {e : TypeId} {g0 : Bool} {z : Value} {u : α} {g : Gr α} {ys zs : List α} (hk : ∀ y, (fk y).length = k) (hk0 : 0 < k) (h1 : ∀ u, Ones (fk u)) (hT : slB P T = some e) (ht : tyB P e = some (k, g0)) (hz : qm P e = some z) (hZ : ∀ w F, All2 (fk u) w F z.cells.toList) (hby : jJ P e 1024 = true)
  (hx : Has E Γ M x (zj g ys.length)) (hM : M[i]? = some (zz fk g ys)) (hy : Has E Γ M y (SlK k fk zs)) (hn' : ys.length + zs.length ≤ 4294967296) (h0 : 0 < zs.length) (hd : Nat.blt d E.n = true)
  (kk : ∀ g' : Gr α, Ops E P ops Q rest ((d, zj g' (ys.length + zs.length)) :: Γ) (M.set i (zz fk g' (ys ++ zs)))) :
  Ops E P ops Q (⟨some d, .call ⟨.builtin .append, #[x, y], #[T, T]⟩, ty, pos, after, none⟩ :: rest) Γ M := by
 intro a w F s
 refine wpList_plain rfl fun K hK => ?_
 have hd' : d < E.n := by simpa [Nat.blt_eq] using hd
 obtain ⟨a1, cap, e2, g1, g2, g3, g4⟩ := hy a w F s
 have hu := qg hT
 obtain ⟨inf, hi, hb⟩ : ∃ i, P.info? e = some i ∧ i.bytes ≤ 1024 := by
  unfold jJ at hby
  cases hi : P.info? e with
  | none => simp [hi] at hby
  | some i => rw [hi] at hby; exact ⟨i, rfl, Nat.le_of_ble_eq_true hby⟩
 have hsz : inf.size = k := by
  have := qQ (P := P) (w := w) ht
  simp [sizeOf, typeInfo, go_sem, hi] at this; exact this
 have hzz : inf.zero = some z := by unfold qm at hz; rw [hi] at hz; simpa using hz
 have hone : z.cells.size = k := by have := (hZ w F).len; rw [hk] at this; simpa using this.symm
 have hzs : ∀ k, (Builtin.zeroCells z.cells k).toList = (List.replicate k z.cells.toList).flatten := fun k => by
  unfold Builtin.zeroCells
  rw [vh rfl]
 have hall : ∀ c, All2 ((List.replicate c u).flatMap fk) w F ((List.replicate c z.cells.toList).flatten) := fun c => by rw [bu]; exact (hZ w F).rep c
 rcases g4 with g4 | ⟨b1, off, rfl, hF, vs, hv, hc⟩
 ·omega
 have hlen := hv.ofFlat hk
 have hnews : ∀ j u, vs[j]? = some u → w.cell? ((⟨b1, off, none⟩ : Addr).add j) = some u := fun j u hj => by rw [xF]; exact hc j u hj
 have hnl : vs.length = zs.length * inf.size := by rw [hsz]; exact hlen
 -- a new row
 have hfresh : ∀ (olds : List Value), All2 (ys.flatMap fk) w F olds → ∀ cp, ys.length + zs.length ≤ cp → cp ≤ maxLen →
   K (a.put (some d) (.slice (some ⟨w.heap.size, 0, none⟩) (ys.length + zs.length) cp)) { w with heap := w.heap.push (.cells (olds ++ vs ++ (Builtin.zeroCells z.cells (cp - (ys.length + zs.length))).toList).toArray e), drawn := w.drawn + 1 } := by
  intro olds ho cp h1 h2
  have hcs : All2 ((ys ++ zs ++ List.replicate (cp - (ys.length + zs.length)) u).flatMap fk) w F (olds ++ vs ++ (Builtin.zeroCells z.cells (cp - (ys.length + zs.length))).toList) := by
   rw [List.flatMap_append, List.flatMap_append, hzs]; exact All2.append (All2.append ho hv) (hall _)
  have s1 := (s.adv (Adv.drew w F)).alloc (T := e) (All2.mono (w := w) (w' := { w with drawn := w.drawn + 1 }) (fun _ _ => rfl) (fun _ h => h) _ _ hcs)
  refine hK _ _ (kk ⟨some w.heap.size, cp, List.replicate (cp - (ys.length + zs.length)) u⟩ _ _ F ((s1.swap (i := i)).put hd' (.inr ⟨_, rfl, rfl, ?_, h2⟩)))
  simp; omega
 unfold Oper.wp
 have hml : ys.length + zs.length ≤ maxLen := by rw [qM]; omega
 rcases hx a w F s with ⟨hob, hyl, e1⟩ | ⟨b, hob, e1, hcap, hcm0⟩
 ·have hbytes : zs.length * inf.bytes ≤ 281474976710656 := by have := Nat.mul_le_mul (show zs.length ≤ 4294967296 by omega) hb; omega
  have hy0 : ys = [] := List.eq_nil_of_length_eq_zero hyl
  have hr := run_append_nil (P := P) w T ty e inf z hu hi hzz ⟨b1, off, none⟩ zs.length cap vs hnl hnews (by omega) (by omega) hbytes
  have hf := hfresh [] (by rw [hy0]; trivial) (grownCap w zs.length 0 e) (by rw [hyl, Nat.zero_add]; exact grownCap_ge _ _ _ _) (grownCap_le_maxLen _ _ _ _ (by omega))
  rw [hyl, Nat.zero_add, List.nil_append] at hf
  have hr2 : (execOp a.eval (⟨some d, .call ⟨.builtin .append, #[x, y], #[T, T]⟩, ty, pos, after, none⟩ : Oper)).run P w = .ok (.value (.slice (some ⟨w.heap.size, 0, none⟩) zs.length (grownCap w zs.length 0 e))) { w with heap := w.heap.push (.cells (vs ++ (Builtin.zeroCells z.cells (grownCap w zs.length 0 e - zs.length)).toList).toArray e), drawn := w.drawn + 1 } := by
   have earr : vs.toArray ++ Builtin.zeroCells z.cells (grownCap w zs.length 0 e - zs.length) = (vs ++ (Builtin.zeroCells z.cells (grownCap w zs.length 0 e - zs.length)).toList).toArray := by apply Array.ext'; simp
   simp only [execOp, resolve, invoke, builtin, Sem.run_bind]
   rw [← earr]
   simp [e1, e2, Sem.run_bind, hr]
   first | rfl | exact ⟨rfl, rfl⟩ | done
  rw [hr2]
  exact hf
 ·have hM' : M[i]? = some (some b, zC ((ys ++ g.sp).flatMap fk)) := by rw [hM]; unfold zz; rw [hob]
  obtain ⟨o, ho, us, T', rfl, hus⟩ := wC s hM'
  have husl := hus.ofFlat hk
  rw [List.length_append] at husl
  have hyk : ys.length * k ≤ us.length := by rw [husl]; exact Nat.mul_le_mul_right k (by omega)
  rcases Nat.lt_or_ge g.c (ys.length + zs.length) with hg | hg
  ·have holds : All2 (ys.flatMap fk) w F (us.take (ys.length * k)) := by
    have := hus.take (ys.length * k)
    rwa [vj hk, List.take_left' rfl] at this
   have hcell : ∀ j u, (us.take (ys.length * k))[j]? = some u → w.cell? ((⟨b, 0, none⟩ : Addr).add j) = some u := fun j u hj => by
    have hjl : j < ys.length * k := by
     rcases Nat.lt_or_ge j (ys.length * k) with h | h
     ·exact h
     ·rw [List.getElem?_take_eq_none h] at hj; cases hj
    rw [List.getElem?_take_of_lt hjl] at hj
    rw [xF]
    simp only [World.cell?, ho, Nat.zero_add]
    simpa using hj
   have hfit : Builtin.nextslicecap (ys.length + zs.length) g.c * inf.bytes ≤ 281474976710656 := by
    have h1 := nextslicecap_le hg
    have h2 := Nat.mul_le_mul (Nat.le_trans h1 (show 2 * (ys.length + zs.length) ≤ 8589934592 by omega)) hb
    omega
   have hr := run_append_grow (P := P) w T ty e inf z hu hi hzz ⟨b, 0, none⟩ ys.length g.c (us.take (ys.length * k)) (by rw [List.length_take, hsz]; omega) hcell ⟨b1, off, none⟩ zs.length cap vs hnl hnews hg (by omega) hfit
   have hf := hfresh _ holds (grownCap w (ys.length + zs.length) g.c e) (grownCap_ge _ _ _ _) (grownCap_le_maxLen _ _ _ _ hml)
   have hr2 : (execOp a.eval (⟨some d, .call ⟨.builtin .append, #[x, y], #[T, T]⟩, ty, pos, after, none⟩ : Oper)).run P w = .ok (.value (.slice (some ⟨w.heap.size, 0, none⟩) (ys.length + zs.length) (grownCap w (ys.length + zs.length) g.c e))) { w with heap := w.heap.push (.cells (us.take (ys.length * k) ++ vs ++ (Builtin.zeroCells z.cells (grownCap w (ys.length + zs.length) g.c e - (ys.length + zs.length))).toList).toArray e), drawn := w.drawn + 1 } := by
    have earr : (us.take (ys.length * k)).toArray ++ vs.toArray ++ Builtin.zeroCells z.cells (grownCap w (ys.length + zs.length) g.c e - (ys.length + zs.length)) = (us.take (ys.length * k) ++ vs ++ (Builtin.zeroCells z.cells (grownCap w (ys.length + zs.length) g.c e - (ys.length + zs.length))).toList).toArray := by apply Array.ext'; simp
    simp only [execOp, resolve, invoke, builtin, Sem.run_bind]
    rw [← earr]
    simp [e1, e2, Sem.run_bind, hr]
    first | rfl | exact ⟨rfl, rfl⟩ | done
   rw [hr2]
   exact hf
  ·have hvone : ∀ v ∈ vs, v.oneCell' = true := hv.one (fun S hS => by obtain ⟨u, _, hu⟩ := List.mem_flatMap.1 hS; exact (h1 u).ones S hu)
   have hsum : ys.length * k + vs.length ≤ us.length := by
    rw [hlen, husl, ← Nat.add_mul]; exact Nat.mul_le_mul_right k (by omega)
   have hst := run_storeCells_at P b (ys.length * k) T' vs 0 us.toArray w ho (by simp; omega) hvone
   simp only [Nat.add_zero] at hst
   have hfc := run_firstCells_some (P := P) w k zs.length ⟨b1, off, none⟩ zs.length cap vs (by rw [hlen]) hnews
   have hr : (Builtin.append_ #[T, T] ty #[.slice (some ⟨b, 0, none⟩) ys.length g.c, .slice (some ⟨b1, off, none⟩) zs.length cap]).run P w = .ok (.slice (some ⟨b, 0, none⟩) (ys.length + zs.length) g.c) (w.setRow b (us.take (ys.length * k) ++ vs ++ us.drop (ys.length * k + vs.length)).toArray) := by
    have hst' : (storeCells ⟨b, ys.length * k, none⟩ vs).run P w = .ok () (w.setRow b (us.take (ys.length * k) ++ vs ++ us.drop (ys.length * k + vs.length)).toArray) := by simpa using hst
    simp [Builtin.append_, run_underlying hu, sizeOf, typeInfo, hi, hsz, Builtin.lenOf, hg, hfc, Addr.add_lit, hst']
   have hr2 : (execOp a.eval (⟨some d, .call ⟨.builtin .append, #[x, y], #[T, T]⟩, ty, pos, after, none⟩ : Oper)).run P w = .ok (.value (.slice (some ⟨b, 0, none⟩) (ys.length + zs.length) g.c)) (w.setRow b (us.take (ys.length * k) ++ vs ++ us.drop (ys.length * k + vs.length)).toArray) := by
    simp only [execOp, resolve, invoke, builtin, Sem.run_bind]
    simp [e1, e2, Sem.run_bind, hr]
   rw [hr2]
   have hF : ∀ k', F k' → (w.setRow b (us.take (ys.length * k) ++ vs ++ us.drop (ys.length * k + vs.length)).toArray).heap[k']? = w.heap[k']? := fun k' hk' => xZ _ _ _ _ (fun e => by
    subst e; exact (s.mem.each k' _ (List.mem_of_getElem? hM')).2.2.1 hk')
   have hnew : All2 ((ys ++ zs ++ g.sp.drop zs.length).flatMap fk) w F (us.take (ys.length * k) ++ vs ++ us.drop (ys.length * k + vs.length)) := by
    have e1 := hus.take (ys.length * k)
    rw [vj hk, List.take_left' rfl] at e1
    have e2 := hus.drop (ys.length * k + vs.length)
    rw [hlen, ← Nat.add_mul, bF hk, List.drop_append, List.drop_of_length_le (by omega), List.nil_append, Nat.add_sub_cancel_left] at e2
    rw [List.flatMap_append, List.flatMap_append, hlen, ← Nat.add_mul]
    exact (e1.append hv).append e2
   refine hK _ _ (kk ⟨some b, g.c, g.sp.drop zs.length⟩ _ _ F ?_)
   exact (s.write (w' := w.setRow b (us.take (ys.length * k) ++ vs ++ us.drop (ys.length * k + vs.length)).toArray) (C' := zC ((ys ++ zs ++ g.sp.drop zs.length).flatMap fk)) hM' rfl rfl rfl (vq _ _ _) (fun k hk => xZ _ _ _ _ hk) (setRow_heap _ _ _ _ _ _ ho) ⟨_, T', rfl, All2.mono hF (fun _ h => h) _ _ hnew⟩).put hd' (.inr ⟨b, rfl, rfl, by simp; omega, hcm0⟩)
theorem wB {w : World} {F : Blk} : (SlK k fk ([] : List α)).h w F (.slice none 0 0) := ⟨none, 0, rfl, Nat.le_refl _, by rw [qM]; omega, by simp, .inl rfl⟩
theorem Cv.freezeGK {t i : Nat} {g : Gr α} {ys : List α} (hk : ∀ y, (fk y).length = k) (hW : E.W = []) (ht : zP Γ t = some (zj g ys.length)) (hM : M[i]? = some (zz fk g ys)) : Cv E Γ M ((t, SlK k fk ys) :: Γ) (M.eraseIdx i) := by
  intro a w F s
  rcases id (s.slots t _ ht) with ⟨hob, hyl, e1⟩ | ⟨b, hob, e1, hcap, hcm0⟩
  · refine ⟨F, { s with slots := ?_, mem := ⟨s.mem.apart.sublist (List.eraseIdx_sublist _ _), fun k C hk => s.mem.each k C ((List.eraseIdx_sublist _ _).subset hk)⟩ }⟩
    intro t' S' ht'
    simp only [zP] at ht'
    cases hb : Nat.beq t t' with
    | false => rw [hb] at ht'; exact s.slots t' S' ht'
    | true =>
      rw [hb] at ht'
      obtain rfl : SlK k fk ys = S' := by simpa using ht'
      obtain rfl := Nat.eq_of_beq_eq_true hb
      rw [e1, List.eq_nil_of_length_eq_zero hyl]
      exact wB
  · have hM' : M[i]? = some (some b, zC ((ys ++ g.sp).flatMap fk)) := by rw [hM]; unfold zz; rw [hob]
    have s2 : Sat E ((t, qR b 0 ys.length g.c) :: Γ) M a w F := s.wider (fun t' S' ht' => by
      simp only [zP] at ht'
      cases hb : Nat.beq t t' with
      | false => rw [hb] at ht'; exact s.slots t' S' ht'
      | true =>
        rw [hb] at ht'
        obtain rfl : qR b 0 ys.length g.c = S' := by simpa using ht'
        obtain rfl := Nat.eq_of_beq_eq_true hb
        exact ⟨e1, by omega, hcm0⟩)
    obtain ⟨F', s3⟩ := Cv.freezeK (Γ := (t, qR b 0 ys.length g.c) :: Γ) (t := t) (b := b) (n := ys.length) (c := g.c) hk hW (by simp [zP, aw]) hM' (by simp) (List.take_left' rfl) a w F s2
    refine ⟨F', s3.wider fun t' S' ht' => ?_⟩
    simp only [zP] at ht'
    refine s3.slots t' S' ?_
    simp only [zP]
    cases hb : Nat.beq t t' with
    | false => rw [hb] at ht'; simpa using ht'
    | true => rw [hb] at ht'; simpa using ht'
theorem kU {xs xs' : List α} (h : xs = xs') : SlK k fk xs = SlK k fk xs' := h ▸ rfl
end
end Go.En
namespace Go.En
open Go.RowKit
section
variable {E : Env} {P : Program} {Γ : Ctx} {M : Mem} {ty : TypeId} {pos : String} {after : Array Edge} {gd : Option (Nat × Bool)} {d : Option Tmp}
 {T T' : TypeId} {x y : Operand} {α : Type} {fk : α → List VP} {xs : List α} {k : Nat}
theorem Has.cWK : Has E Γ M (.const (.slice none 0 0)) (SlK k fk ([] : List α)) := fun _ _ _ _ => wB
theorem zAM {n : Nat} : 0 + n * 2 = n * 2 := by omega
theorem OK1.loadK {b i j : Nat} {x' : α} (hk : ∀ y, (fk y).length = k) (hx : Has E Γ M x (qU b (j * k))) (hM : M[i]? = some (some b, zC (xs.flatMap fk))) (hT : tyB P T = some (k, true)) (hS : xs[j]? = some x') :
  OK1 E P Γ M ⟨d, .load T x, ty, pos, after, gd⟩ (zu (fk x')) :=
 OK1.load hx hM hT (by
  have hj : j < xs.length := by
   rcases Nat.lt_or_ge j xs.length with h | h
   ·exact h
   ·rw [List.getElem?_eq_none h] at hS; cases hS
  rw [Nat.ble_eq, xS hk, ← Nat.succ_mul]; exact Nat.mul_le_mul_right k hj) (wc xs j x' (fun y _ => hk y) hS)
theorem Cv.winGr {t b n c i : Nat} (ht : zP Γ t = some (qR b 0 n c)) (hM : M[i]? = some (some b, zC (xs.flatMap fk))) (hn : n ≤ xs.length) (hc : xs.length = c) :
    Cv E Γ M ((t, zj (⟨some b, c, xs.drop n⟩ : Gr α) n) :: Γ) (M.set i (zz fk ⟨some b, c, xs.drop n⟩ (xs.take n))) := fun a w F s => by
  have hset : M.set i (zz fk ⟨some b, c, xs.drop n⟩ (xs.take n)) = M := by
    refine set_self ?_
    rw [hM]; unfold zz; simp only [List.take_append_drop]
  rw [hset]
  refine ⟨F, s.wider fun t' S' ht' => ?_⟩
  simp only [zP] at ht'
  cases hb : Nat.beq t t' with
  | false => rw [hb] at ht'; exact s.slots t' S' ht'
  | true =>
    rw [hb] at ht'
    obtain rfl : zj (⟨some b, c, xs.drop n⟩ : Gr α) n = S' := by simpa using ht'
    obtain rfl := Nat.eq_of_beq_eq_true hb
    obtain ⟨e1, e2, e3⟩ := s.slots _ _ ht
    exact .inr ⟨b, rfl, e1, by show n + (xs.drop n).length = c; rw [List.length_drop]; omega, e3⟩
end
abbrev zc (p : Bool × List Nat) : List VP := [isB p.1, zD p.2]
theorem zL : ∀ p, (zc p).length = 2 := fun _ => rfl
abbrev zHS (xs : List (Bool × List Nat)) : VP := SlK 2 zc xs
end Go.En
namespace Go.En
open Go.RowKit
def bR {ι : Type} (P : Program) (As : ι → List VP) (R : ι → VP) : VP :=
 ⟨fun w F v => ∃ (g : FuncId) (first cap : List Value) (Bs Cs : List VP), v = .func (.func g) first.toArray cap.toArray ∧ (∀ i, Ctr P g (Bs ++ As i ++ Cs) (R i)) ∧ All2 Bs w F first ∧ All2 Cs w F cap,
 fun w w' F F' v h h1 h2 => by
  obtain ⟨g, first, cap, Bs, Cs, e, hC, hB, hc⟩ := h
  exact ⟨g, first, cap, Bs, Cs, e, hC, All2.mono h1 h2 _ _ hB, All2.mono h1 h2 _ _ hc⟩⟩
instance {ι : Type} {P : Program} {As : ι → List VP} {R : ι → VP} : One (bR P As R) := ⟨fun w F v h => by obtain ⟨g, first, cap, Bs, Cs, e, _⟩ := h; rw [e]; rfl⟩
instance {ι : Type} {P : Program} {As : ι → List VP} {R : ι → VP} : Shape (bR P As R) [bR P As R] := .of_one inferInstance
instance {Ss : List VP} : One (aD Ss) := ⟨fun w F v h => by obtain ⟨b, off, e, _⟩ := h; rw [e]; rfl⟩
instance {Ss : List VP} : Shape (aD Ss) [aD Ss] := .of_one inferInstance
section
variable {E : Env} {P : Program} {Γ : Ctx} {M : Mem} {ty : TypeId} {pos : String} {after : Array Edge} {gd : Option (Nat × Bool)} {d : Option Tmp}
 {ops : Array Oper} {Q : Exit → Act → World → Prop} {rest : List Oper} {T T' : TypeId} {x y : Operand} {α ι : Type} {As : ι → List VP} {R : ι → VP}
theorem Has.fn {g : FuncId} (h : ∀ i, Ctr P g (As i) (R i)) : Has E Γ M (.func g) (bR P As R) :=
 fun a w F s => ⟨g, [], [], [], [], rfl, fun i => by rw [List.nil_append, List.append_nil]; exact h i, trivial, trivial⟩
theorem OK1.makeFn {g : FuncId} {xs ys : List Operand} {Bs Cs : List VP} (h : ∀ i, Ctr P g (Bs ++ As i ++ Cs) (R i)) (hx : HasL E Γ M xs Bs) (hy : HasL E Γ M ys Cs) :
  OK1 E P Γ M ⟨d, .makeFunc (.func g) xs.toArray ys.toArray, ty, pos, after, gd⟩ (bR P As R) :=
 .run fun a w F s => by
  refine ⟨.func (.func g) (xs.map a.eval).toArray (ys.map a.eval).toArray, ?_, g, _, _, Bs, Cs, rfl, h, hx.all s, hy.all s⟩
  simp [execOp, Instr.makeFunc, go_sem]
theorem OK1.callV {xs : List Operand} {ts : Array TypeId} (i : ι) (hf : Has E Γ M x (bR P As R)) (hx : HasL E Γ M xs (As i)) :
  OK1 E P Γ M ⟨d, .call ⟨.value x, xs.toArray, ts⟩, ty, pos, after, gd⟩ (R i) := by
 intro a w F s K Q hK
 unfold Oper.wp
 obtain ⟨g, first, cap, Bs, Cs, e, hC, hB, hc⟩ := hf a w F s
 have hr : (execOp a.eval (⟨d, .call ⟨.value x, xs.toArray, ts⟩, ty, pos, after, gd⟩ : Oper)).run P w = .ok (.enter g (first ++ xs.map a.eval ++ cap).toArray) w := by
  have := jM (hC i).1 (first ++ xs.map a.eval ++ cap).toArray w
  simp only [execOp, resolve, Sem.run_bind, e, Deferred.ofValue, Sem.run_pure, Result.andThen_ok, invoke]
  simpa [go_sem] using this
 rw [hr]
 refine ((hC i).2 w F _ s.flt ((hB.append (hx.all s)).append hc)).mono ?_
 rintro e w' ⟨v, rfl, hk, hv⟩
 exact hK v w' _ ⟨hk, fun b hb => .inl hb, fun b hb => hb⟩ hv
theorem Cv.freezeBox {t b i : Nat} {Ss : List VP} (hW : E.W = []) (ht : zP Γ t = some (qU b 0)) (hM : M[i]? = some (some b, zC Ss)) : Cv E Γ M ((t, aD Ss) :: Γ) (M.eraseIdx i) := by
  intro a w F s
  obtain ⟨h1, h2, h3, ob, h4, vs, T', rfl, hv⟩ := s.mem.each b _ (List.mem_of_getElem? hM)
  refine ⟨fun k => F k ∨ k = b, ?_⟩
  have hsub : ∀ k, F k → (F k ∨ k = b) := fun k hk => .inl hk
  have hi : i < M.length := by
    rcases Nat.lt_or_ge i M.length with h | h
    · exact h
    · rw [List.getElem?_eq_none h] at hM; cases hM
  have hMi : M[i] = (some b, zC Ss) := by rw [List.getElem?_eq_getElem hi] at hM; exact Option.some.inj hM
  have hbW : E.w0.heap.size ≤ b := h1.resolve_right (by rw [hW]; simp)
  have e1 : a.tmps.getD t undef = .pointer (some ⟨b, 0, none⟩) := s.slots t _ ht
  refine { defers := s.defers, size := s.size, keep := s.keep, f0 := fun k hk => .inl (s.f0 k hk), fnew := ?_, flt := ?_, slots := ?_, mem := ⟨s.mem.apart.sublist (List.eraseIdx_sublist _ _), ?_⟩ }
  · rintro k (hk | rfl)
    · exact s.fnew k hk
    · exact .inr ⟨hbW, h2⟩
  · rintro k (hk | rfl)
    · exact s.flt k hk
    · exact h2
  · intro t' S' ht'
    simp only [zP] at ht'
    cases hb : Nat.beq t t' with
    | false => rw [hb] at ht'; exact S'.mono _ _ _ _ _ (s.slots t' S' ht') (fun _ _ => rfl) hsub
    | true =>
      rw [hb] at ht'
      obtain rfl : aD Ss = S' := by simpa using ht'
      obtain rfl := Nat.eq_of_beq_eq_true hb
      refine ⟨b, 0, e1, .inr rfl, vs, All2.mono (fun _ _ => rfl) hsub _ _ hv, fun j u hj => ?_⟩
      simp [World.cell?, h4, hj]
  · intro k C hk
    obtain ⟨j, hji, hj⟩ := List.mem_eraseIdx_iff_getElem?.1 hk
    obtain ⟨g1, g2, g3, o2, g4, g5⟩ := s.mem.each k C (List.mem_of_getElem? hj)
    have hkb : k ≠ b := by
      intro e; subst e
      have hjl : j < M.length := by
        rcases Nat.lt_or_ge j M.length with h | h
        · exact h
        · rw [List.getElem?_eq_none h] at hj; cases hj
      have hMj : M[j] = (some k, C) := by rw [List.getElem?_eq_getElem hjl] at hj; exact Option.some.inj hj
      rcases Nat.lt_or_gt_of_ne hji with hlt | hlt
      · have hp := List.pairwise_iff_getElem.1 s.mem.apart j i hjl hi hlt
        rw [hMi, hMj] at hp; simp at hp
      · have hp := List.pairwise_iff_getElem.1 s.mem.apart i j hi hjl hlt
        rw [hMi, hMj] at hp; simp at hp
    exact ⟨g1, g2, fun h => h.elim g3 hkb, o2, g4, C.mono _ _ _ _ _ g5 (fun _ _ => rfl) hsub⟩
end
end Go.En
namespace Go.En
open Go.RowKit
section
variable {E : Env} {P : Program} {Γ : Ctx} {M : Mem} {ty : TypeId} {pos : String} {after : Array Edge} {gd : Option (Nat × Bool)} {d : Option Tmp}
 {ops : Array Oper} {Q : Exit → Act → World → Prop} {rest : List Oper} {T T' : TypeId} {x y : Operand} {α : Type} {f : α → VP} {fk : α → List VP} {xs : List α} {k : Nat}
theorem Sat.freezeB {a : Act} {w : World} {F : Blk} {i b : Nat} {Ss : List VP} (s : Sat E Γ M a w F) (hW : E.W = []) (hM : M[i]? = some (some b, zC Ss)) :
  Sat E Γ (M.eraseIdx i) a w (fun k => F k ∨ k = b) ∧ ∃ vs T', w.heap[b]? = some (.cells (List.toArray vs) T' (0, 0)) ∧ All2 Ss w (fun k => F k ∨ k = b) vs := by
 obtain ⟨h1, h2, h3, ob, h4, vs, T', rfl, hv⟩ := s.mem.each b _ (List.mem_of_getElem? hM)
 have hsub : ∀ k, F k → (F k ∨ k = b) := fun k hk => .inl hk
 have hi : i < M.length := by
  rcases Nat.lt_or_ge i M.length with h | h
  ·exact h
  ·rw [List.getElem?_eq_none h] at hM; cases hM
 have hMi : M[i] = (some b, zC Ss) := by rw [List.getElem?_eq_getElem hi] at hM; exact Option.some.inj hM
 have hbW : E.w0.heap.size ≤ b := h1.resolve_right (by rw [hW]; simp)
 refine ⟨?_, vs, T', h4, All2.mono (fun _ _ => rfl) hsub _ _ hv⟩
 refine { defers := s.defers, size := s.size, keep := s.keep, f0 := fun k hk => .inl (s.f0 k hk), fnew := ?_, flt := ?_, slots := fun t S ht => S.mono _ _ _ _ _ (s.slots t S ht) (fun _ _ => rfl) hsub, mem := ⟨s.mem.apart.sublist (List.eraseIdx_sublist _ _), ?_⟩ }
 ·rintro k (hk | rfl)
  ·exact s.fnew k hk
  ·exact .inr ⟨hbW, h2⟩
 ·rintro k (hk | rfl)
  ·exact s.flt k hk
  ·exact h2
 ·intro k C hk
  obtain ⟨j, hji, hj⟩ := List.mem_eraseIdx_iff_getElem?.1 hk
  obtain ⟨g1, g2, g3, o2, g4, g5⟩ := s.mem.each k C (List.mem_of_getElem? hj)
  have hkb : k ≠ b := by
   intro e; subst e
   have hjl : j < M.length := by
    rcases Nat.lt_or_ge j M.length with h | h
    ·exact h
    ·rw [List.getElem?_eq_none h] at hj; cases hj
   have hMj : M[j] = (some k, C) := by rw [List.getElem?_eq_getElem hjl] at hj; exact Option.some.inj hj
   rcases Nat.lt_or_gt_of_ne hji with hlt | hlt
   ·have hp := List.pairwise_iff_getElem.1 s.mem.apart j i hjl hi hlt
    rw [hMi, hMj] at hp; simp at hp
   ·have hp := List.pairwise_iff_getElem.1 s.mem.apart i j hi hjl hlt
    rw [hMi, hMj] at hp; simp at hp
  exact ⟨g1, g2, fun h => h.elim g3 hkb, o2, g4, C.mono _ _ _ _ _ g5 (fun _ _ => rfl) hsub⟩
theorem Sat.drop1 {a : Act} {w : World} {F : Blk} {i : Nat} (s : Sat E Γ M a w F) : Sat E Γ (M.eraseIdx i) a w F :=
 {s with mem := ⟨s.mem.apart.sublist (List.eraseIdx_sublist _ _), fun k C hk => s.mem.each k C ((List.eraseIdx_sublist _ _).subset hk)⟩ }
theorem Sat.freezeGr {a : Act} {w : World} {F : Blk} {i n : Nat} {g : Gr α} {Ts Us : List VP} (s : Sat E Γ M a w F) (hW : E.W = []) (hM : M[i]? = some (g.ob, zC Ts)) (hl : n * k ≤ Ts.length) (he : Ts.take (n * k) = Us) :
    ∃ F', (∀ b, F b → F' b) ∧ Sat E Γ (M.eraseIdx i) a w F' ∧ ∀ v, (zj g n).h w F v → (SlL k n Us).h w F' v := by
  cases hob : g.ob with
  | none =>
    refine ⟨F, fun _ h => h, s.drop1, ?_⟩
    rintro v (⟨_, rfl, rfl⟩ | ⟨b, hb, _⟩)
    · subst he; exact ⟨none, 0, rfl, Nat.le_refl _, by rw [qM]; omega, by simp, .inl rfl⟩
    · rw [hob] at hb; cases hb
  | some b =>
    rw [hob] at hM
    obtain ⟨s', vs, T', hb, hv⟩ := s.freezeB hW hM
    refine ⟨_, fun _ h => .inl h, s', ?_⟩
    rintro v (⟨h0, _⟩ | ⟨b', hb', rfl, h1, h2⟩)
    · rw [hob] at h0; cases h0
    · obtain rfl : b = b' := by rw [hob] at hb'; exact Option.some.inj hb'
      have hvl := hv.len
      refine ⟨_, _, rfl, by omega, h2, by rw [← he, List.length_take]; omega, .inr ⟨b, 0, rfl, .inr rfl, vs.take (n * k), by rw [← he]; exact hv.take _, fun j u hj => ?_⟩⟩
      have hjn : j < n * k := by
        rcases Nat.lt_or_ge j (n * k) with h | h
        · exact h
        · rw [List.getElem?_take_eq_none h] at hj; cases hj
      rw [List.getElem?_take_of_lt hjn] at hj
      simp [World.cell?, hb, hj]
theorem Sat.memSet {a : Act} {w : World} {F : Blk} {i b : Nat} {C C' : MP} (s : Sat E Γ M a w F) (hM : M[i]? = some (some b, C)) (h : ∀ o, C.h w F o → C'.h w F o) : Sat E Γ (M.set i (some b, C')) a w F := by
 obtain ⟨h1, h2, h3, o, ho, hC⟩ := s.mem.each b C (List.mem_of_getElem? hM)
 exact s.write hM rfl rfl rfl rfl (fun _ _ => rfl) ho (h o hC)
theorem All2.setAt : ∀ {Ss : List VP} {w : World} {F : Blk} {vs : List Value} (o : Nat) {S S' : VP}, All2 Ss w F vs → Ss[o]? = some S → (∀ v, S.h w F v → S'.h w F v) → All2 (Ss.set o S') w F vs
  | [], _, _, _, o, _, _, _, h, _ => by simp at h
  | S0 :: Ss, _, _, v :: vs, 0, S, S', h, e, k => by
    obtain rfl : S0 = S := by simpa using e
    exact ⟨k v h.1, h.2⟩
  | S0 :: Ss, _, _, v :: vs, o + 1, S, S', h, e, k => ⟨h.1, All2.setAt o h.2 (by simpa using e) k⟩
  | _ :: _, _, _, [], _, _, _, h, _, _ => h.elim
theorem Cv.growF {i b o : Nat} {Ss Ts : List VP} (α : Type) (hM : M[i]? = some (some b, zC Ss)) (ho : Ss[o]? = some zw) (hT : Ss.set o (zj (Gr.nil : Gr α) 0) = Ts) : Cv E Γ M Γ ((none, zC []) :: M.set i (some b, zC Ts)) := fun a w F s => by
 have s1 : Sat E Γ (M.set i (some b, zC Ts)) a w F := s.memSet hM fun ob ⟨vs, ty, e, h⟩ => ⟨vs, ty, e, by
  rw [← hT]
  exact h.setAt o ho (fun v hv => by rw [show v = .slice none 0 0 from hv]; exact gr0)⟩
 exact ⟨F, { s1 with mem := ⟨List.Pairwise.cons (fun x hx => .inl rfl) s1.mem.apart, fun b C hb => by
  rcases List.mem_cons.1 hb with e | hb
  ·cases e
  ·exact s1.mem.each b C hb⟩ }⟩
theorem Cv.freezeF {i j b o n : Nat} {g : Gr α} {Ss Ss' Ts Us : List VP} (hW : E.W = []) (hM : M[i]? = some (g.ob, zC Ts)) (hM2 : (M.eraseIdx i)[j]? = some (some b, zC Ss)) (ho : Ss[o]? = some (zj g n)) (hl : n * k ≤ Ts.length) (he : Ts.take (n * k) = Us)
    (hT : Ss.set o (SlL k n Us) = Ss') : Cv E Γ M Γ ((M.eraseIdx i).set j (some b, zC Ss')) := fun a w F s => by
  obtain ⟨F', hsub, s', hv⟩ := s.freezeGr hW hM hl he
  refine ⟨F', ?_⟩
  -- the field's cell as it was known before
  obtain ⟨_, _, _, ob, hob, vs, ty, e, hvs⟩ := s.drop1 (i := i) |>.mem.each b _ (List.mem_of_getElem? hM2)
  obtain ⟨_, _, _, ob2, hob2, vs2, ty2, e2, hvs2⟩ := s'.mem.each b _ (List.mem_of_getElem? hM2)
  have hsame : ∀ o', w.heap[b]? = some o' → o' = ob := fun o' h => by rw [hob] at h; exact (Option.some.inj h).symm
  refine s'.write hM2 rfl rfl rfl rfl (fun _ _ => rfl) hob ⟨vs, ty, e, ?_⟩
  rw [← hT]
  obtain ⟨v, hv1, hv2⟩ := hvs.get o _ ho
  have h3 : All2 Ss w F' vs := All2.mono (fun _ _ => rfl) hsub _ _ hvs
  -- place by place
  have key : ∀ {Ss : List VP} {vs : List Value} (o : Nat), All2 Ss w F' vs → vs[o]? = some v → All2 (Ss.set o (SlL k n Us)) w F' vs := by
    intro Ss
    induction Ss with
    | nil => intro vs o h _; simpa using h
    | cons S0 Ss ih =>
      intro vs o h e
      cases vs with
      | nil => exact h.elim
      | cons u us =>
        cases o with
        | zero =>
          obtain rfl : u = v := by simpa using e
          exact ⟨hv u hv2, h.2⟩
        | succ o => exact ⟨h.1, ih o h.2 (by simpa using e)⟩
  exact key o h3 hv1
theorem uA {g : Gr α} {ys : List α} : (((ys ++ g.sp).map f).take (ys.length * 1)) = ys.map f := by rw [Nat.mul_one, List.map_append, List.take_left' (by simp)]
theorem zBA {g : Gr α} {ys : List α} : ys.length * 1 ≤ ((ys ++ g.sp).map f).length := by simp
theorem aX {g : Gr α} {ys : List α} (hk : ∀ y, (fk y).length = k) : (((ys ++ g.sp).flatMap fk).take (ys.length * k)) = ys.flatMap fk := by rw [vj hk, List.take_left' rfl]
theorem cO {g : Gr α} {ys : List α} (hk : ∀ y, (fk y).length = k) : ys.length * k ≤ ((ys ++ g.sp).flatMap fk).length := by rw [xS hk, List.length_append]; exact Nat.mul_le_mul_right k (by omega)
end
end Go.En
namespace Go.En
open Go.RowKit
section
variable {E : Env} {P : Program} {Γ : Ctx} {M : Mem} {ty : TypeId} {pos : String} {after : Array Edge} {gd : Option (Nat × Bool)} {d : Option Tmp}
 {ops : Array Oper} {Q : Exit → Act → World → Prop} {rest : List Oper} {T T' : TypeId} {x y : Operand} {α : Type} {f : α → VP} {fk : α → List VP} {xs : List α} {k : Nat}
theorem mR {w : World} {e : TypeId} {inf : TypeInfo} {base b2 : Option Addr} {n c c2 : Nat} (hu : P.underlying T = some (.slice e)) (hi : P.info? e = some inf) (hn : n ≤ c) :
  (Builtin.append_ #[T, T] ty #[.slice base n c, .slice b2 0 c2]).run P w = .ok (.slice base n c) w := by
 cases base <;> cases b2 <;> simp [Builtin.append_, run_underlying hu, sizeOf, typeInfo, hi, Builtin.lenOf, Builtin.firstCells, loadCells, loadCellsFrom, storeCells, hn]
theorem Ops.appendGK0 {d i : Nat} {e : TypeId} {g0 : Bool} {z : Value} {u : α} {g : Gr α} {ys zs : List α} (hk : ∀ y, (fk y).length = k) (hk0 : 0 < k) (h1 : ∀ u, Ones (fk u)) (hT : slB P T = some e) (ht : tyB P e = some (k, g0)) (hz : qm P e = some z) (hZ : ∀ w F, All2 (fk u) w F z.cells.toList) (hby : jJ P e 1024 = true)
  (hx : Has E Γ M x (zj g ys.length)) (hM : M[i]? = some (zz fk g ys)) (hy : Has E Γ M y (SlK k fk zs)) (hn' : ys.length + zs.length ≤ 4294967296) (hd : Nat.blt d E.n = true)
  (kk : ∀ g' : Gr α, Ops E P ops Q rest ((d, zj g' (ys.length + zs.length)) :: Γ) (M.set i (zz fk g' (ys ++ zs)))) :
  Ops E P ops Q (⟨some d, .call ⟨.builtin .append, #[x, y], #[T, T]⟩, ty, pos, after, none⟩ :: rest) Γ M := by
 rcases Nat.eq_zero_or_pos zs.length with h0 | h0
 ·obtain rfl : zs = [] := List.eq_nil_of_length_eq_zero h0
  intro a w F s
  refine wpList_plain rfl fun K hK => ?_
  have hd' : d < E.n := by simpa [Nat.blt_eq] using hd
  obtain ⟨a1, cap, e2, g1, g2, g3, g4⟩ := hy a w F s
  have hu := qg hT
  obtain ⟨inf, hi⟩ : ∃ i, P.info? e = some i := by
   unfold jJ at hby
   cases hi : P.info? e with
   | none => simp [hi] at hby
   | some i => exact ⟨i, rfl⟩
  have hset : M.set i (zz fk g (ys ++ [])) = M := set_self (by rw [hM, List.append_nil])
  have kk1 := kk g
  rw [hset] at kk1
  have hval := hx a w F s
  obtain ⟨base, c, e1, hnc⟩ : ∃ base c, a.eval x = .slice base ys.length c ∧ ys.length ≤ c := by
   rcases hval with ⟨_, hyl, e1⟩ | ⟨b, _, e1, h, _⟩
   ·exact ⟨none, 0, by rw [e1, hyl], by omega⟩
   ·exact ⟨_, _, e1, by omega⟩
  have hr := mR (P := P) (T := T) (ty := ty) (w := w) (base := base) (b2 := a1) (n := ys.length) (c := c) (c2 := cap) hu hi hnc
  unfold Oper.wp
  have hr2 : (execOp a.eval (⟨some d, .call ⟨.builtin .append, #[x, y], #[T, T]⟩, ty, pos, after, none⟩ : Oper)).run P w = .ok (.value (.slice base ys.length c)) w := by
   simp only [execOp, resolve, invoke, builtin, Sem.run_bind]
   simp [e1, e2, Sem.run_bind, hr]
  rw [hr2]
  refine hK _ _ (kk1 _ _ F (s.put hd' ?_))
  rw [← e1]; exact hval
 ·exact Ops.appendGK hk hk0 h1 hT ht hz hZ hby hx hM hy hn' h0 hd kk
theorem Cv.winGrK {t b n c i : Nat} {ys : List α} (ht : zP Γ t = some (qR b 0 n c)) (hM : M[i]? = some (some b, zC (xs.flatMap fk))) (hn : n ≤ xs.length) (hc : xs.length = c) (hy : xs.take n = ys) :
  Cv E Γ M ((t, zj (⟨some b, c, xs.drop n⟩ : Gr α) ys.length) :: Γ) (M.set i (zz fk ⟨some b, c, xs.drop n⟩ ys)) := by
 have e : ys.length = n := by rw [← hy, List.length_take]; omega
 rw [e, ← hy]
 exact Cv.winGr ht hM hn hc
theorem Cv.winGrM {t b n c i : Nat} {ys : List α} (ht : zP Γ t = some (qR b 0 n c)) (hM : M[i]? = some (some b, zC (xs.map f))) (hn : n ≤ xs.length) (hc : xs.length = c) (hy : xs.take n = ys) :
    Cv E Γ M ((t, zj (⟨some b, c, xs.drop n⟩ : Gr α) ys.length) :: Γ) (M.set i (grM f ⟨some b, c, xs.drop n⟩ ys)) := fun a w F s => by
  subst hy
  have e : (xs.take n).length = n := by rw [List.length_take]; omega
  rw [e]
  have hset : M.set i (grM f ⟨some b, c, xs.drop n⟩ (xs.take n)) = M := by
    refine set_self ?_
    rw [hM]; unfold grM; simp only [List.take_append_drop]
  rw [hset]
  refine ⟨F, s.wider fun t' S' ht' => ?_⟩
  simp only [zP] at ht'
  cases hb : Nat.beq t t' with
  | false => rw [hb] at ht'; exact s.slots t' S' ht'
  | true =>
    rw [hb] at ht'
    obtain rfl : zj (⟨some b, c, xs.drop n⟩ : Gr α) n = S' := by simpa using ht'
    obtain rfl := Nat.eq_of_beq_eq_true hb
    obtain ⟨e1, e2, e3⟩ := s.slots _ _ ht
    exact .inr ⟨b, rfl, e1, by show n + (xs.drop n).length = c; rw [List.length_drop]; omega, e3⟩
theorem Cv.freezeGn {t i n : Nat} {g : Gr α} {ys : List α} (hW : E.W = []) (ht : zP Γ t = some (zj g n)) (hM : M[i]? = some (grM f g ys)) (hn : n = ys.length) : Cv E Γ M ((t, SlM f ys) :: Γ) (M.eraseIdx i) := by
 subst hn; exact Cv.freezeG hW ht hM
end
end Go.En
namespace Go.En
open Go.RowKit
section
variable {E : Env} {P : Program} {Γ : Ctx} {M : Mem} {ty : TypeId} {pos : String} {after : Array Edge}
 {ops : Array Oper} {Q : Exit → Act → World → Prop} {rest : List Oper}
theorem zBY {l : List Oper} {i fuel : Nat} {o : Oper} {listed : Array Bool} {a : Act} {w : World} (hr : ∀ j, j ∈ Region.ready .any l.toArray listed → j = i) (hi : i ∈ Region.ready .any l.toArray listed) (ho : l[i]? = some o)
  (hl : wpList P l.toArray Q (o :: rest) a w) (hn : ∀ a w, wpList P l.toArray Q rest a w → wpAny P .any l.toArray Q fuel (listed.setIfInBounds i true) a w) : wpAny P .any l.toArray Q (fuel + 1) listed a w := by
 refine ⟨fun h0 => ?_, fun j hj => ?_⟩
 ·rw [h0] at hi; simp at hi
 ·obtain rfl := hr j hj
  have ho' : l.toArray[j]? = some o := by simpa using ho
  unfold wpOp
  rw [ho']
  simp only []
  unfold wpList at hl
  split
  ·rename_i hw; rw [if_pos hw] at hl; exact hl.imp (Oper.wp_mono hn) id
  ·rename_i hw; rw [if_neg hw] at hl; exact hn _ _ hl
end
end Go.En
namespace Go.En
open Go.RowKit
section
variable {E : Env} {P : Program} {Γ : Ctx} {M : Mem} {ty : TypeId} {pos : String} {after : Array Edge}
 {ops : Array Oper} {Q : Exit → Act → World → Prop} {rest : List Oper}
def OKY (E : Env) (P : Program) (Γ : Ctx) (M : Mem) (o : Oper) (S : VP) : Prop :=
 ∀ a w F, Sat E Γ M a w F → ∃ v, (∀ w', (execOp a.eval o).run P w' = .ok (.value v) w') ∧ S.h w F v
theorem OKY.mv {d : Option Tmp} {x : Operand} {S : VP} (h : Has E Γ M x S) : OKY E P Γ M ⟨d, .move x, ty, pos, after, none⟩ S := fun a w F s => ⟨_, fun _ => rfl, h a w F s⟩
theorem OKY.as {d : Option Tmp} {x : Operand} {S : VP} (h : Has E Γ M x S) : OKY E P Γ M ⟨d, .assign x, ty, pos, after, none⟩ S := fun a w F s => ⟨_, fun _ => rfl, h a w F s⟩
theorem OKY.ext {d : Option Tmp} {x : Operand} {Ss : List VP} {S : VP} {i : Nat} (hx : Has E Γ M x (zW Ss)) (hi : Ss[i]? = some S) : OKY E P Γ M ⟨d, .extract x i, ty, pos, after, none⟩ S := fun a w F s => by
 obtain ⟨vs, e, h⟩ := hx a w F s
 obtain ⟨v, hv, hS⟩ := h.get i S hi
 exact ⟨v, fun w' => by simp only [execOp, e]; simp [Instr.extract, hv, go_sem], hS⟩
theorem OKY.nilc {d : Option Tmp} {x : Operand} {b o : Nat} (h : Has E Γ M x (qU b o)) : OKY E P Γ M ⟨d, .nilCheck x, ty, pos, after, none⟩ (qU b o) := fun a w F s => by
 have e : a.eval x = .pointer (some ⟨b, o, none⟩) := h a w F s
 exact ⟨.pointer (some ⟨b, o, none⟩), fun w' => by simp only [execOp, e]; rfl, rfl⟩
theorem OK1.nilc {d : Option Tmp} {gd : Option (Nat × Bool)} {x : Operand} {b o : Nat} (h : Has E Γ M x (qU b o)) : OK1 E P Γ M ⟨d, .nilCheck x, ty, pos, after, gd⟩ (qU b o) := .run fun a w F s => by
 have e : a.eval x = .pointer (some ⟨b, o, none⟩) := h a w F s
 exact ⟨.pointer (some ⟨b, o, none⟩), by simp only [execOp, e]; rfl, rfl⟩
theorem OK1.nilcP {d : Option Tmp} {gd : Option (Nat × Bool)} {x : Operand} {Ss : List VP} (h : Has E Γ M x (aD Ss)) : OK1 E P Γ M ⟨d, .nilCheck x, ty, pos, after, gd⟩ (aD Ss) := .run fun a w F s => by
 have h1 := h a w F s
 obtain ⟨b, o, e, _⟩ := id h1
 exact ⟨.pointer (some ⟨b, o, none⟩), by simp only [execOp, e]; rfl, e ▸ h1⟩
theorem OKY.fieldAddr {d : Option Tmp} {x : Operand} {b off i o n : Nat} {g : Bool} {T T' : TypeId} (hx : Has E Γ M x (qU b off)) (hf : wb P T i = some (o, T')) (ht : tyB P T' = some (n + 1, g)) :
    OKY E P Γ M ⟨d, .fieldAddr T x i, ty, pos, after, none⟩ (qU b (off + o)) := fun a w F s => by
    have h1 : a.eval x = .pointer (some ⟨b, off, none⟩) := hx a w F s
    refine ⟨_, fun w' => ?_, rfl⟩
    unfold wb at hf
    cases hu : P.underlying T with
    | none => simp [hu] at hf
    | some dd =>
      rw [hu] at hf
      cases dd <;> simp at hf
      rename_i fs
      obtain ⟨f, hf1, hf2, hf3⟩ := hf
      subst hf2 hf3
      simp only [execOp, h1, Instr.fieldAt, Instr.sureAddr, fieldPlace, Sem.run_bind, Sem.run_pure, Result.andThen_ok, qT hu, qQ ht, hf1]
      simp [xF]
def xx (n : Nat) (bs : List Nat) : Array Bool := bs.foldl (fun acc i => acc.setIfInBounds i true) (Array.replicate n false)
theorem fi (n : Nat) (bs : List Nat) (i : Nat) : xx n (bs ++ [i]) = (xx n bs).setIfInBounds i true := by unfold xx; rw [List.foldl_append]; rfl
theorem ns (n : Nat) (bs : List Nat) : (xx n bs).size = n := by
 unfold xx
 suffices h : ∀ (bs : List Nat) (acc : Array Bool), acc.size = n → (bs.foldl (fun acc i => acc.setIfInBounds i true) acc).size = n by exact h bs _ (by simp)
 intro bs
 induction bs with
 | nil => intro acc h; exact h
 | cons b bs ih => intro acc h; exact ih _ (by simp [h])
def DrB (E : Env) (P : Program) (l : List Oper) (Γ : Ctx) (M : Mem) (Q : Exit → Act → World → Prop) (bs : List Nat) : Prop :=
 ∀ a w F, Sat E Γ M a w F → wpAny P .any l.toArray Q (l.length - bs.length) (xx l.length bs) a w
theorem Tri.dry {id : Nat} {l : List Oper} (hm : P.follows .mixedOrders = true) (h : DrB E P l Γ M Q []) : Tri E P (.region id l.toArray true) Γ M Q := by
 intro a w F s
 refine wp_region_any hm ?_
 have := h a _ F (s.adv (Adv.drew w F))
 simpa [xx] using this
theorem DrB.take {l : List Oper} {bs : List Nat} {i d : Nat} {o : Oper} {S : VP} (hi : l[i]? = some o) (hd : o.dst = some d) (hg : o.guard = none) (hn : Nat.blt d E.n = true) (hs : Region.noSelect l.toArray = true)
  (hf : Region.free .any l.toArray (xx l.length bs) i = true) (hr : (Region.ready .any l.toArray (xx l.length bs)).contains i = true) (hl : Nat.blt bs.length l.length = true) (hQ : ∀ c a w v, Q (.panic c) (Act.put a (some d) v) w → Q (.panic c) a w)
  (hok : OKY E P Γ M o S) (k : DrB E P l ((d, S) :: Γ) M Q (bs ++ [i])) : DrB E P l Γ M Q bs := by
 intro a w F s
 obtain ⟨v, hv, hS⟩ := hok a w F s
 have hd' : d < E.n := by simpa [Nat.blt_eq] using hn
 have hl' : bs.length < l.length := by simpa [Nat.blt_eq] using hl
 have hk := k (a.put (some d) v) w F (s.put hd' hS)
 obtain ⟨f, hfu⟩ : ∃ f, l.length - bs.length = f + 1 := ⟨l.length - bs.length - 1, by omega⟩
 rw [hfu]
 refine wpAny_take (i := i) (oi := o) (v := v) (by simpa using hi) hs hf hr (fun c a w h => hQ c a w v (by rw [hd] at h; exact h)) (.inl ⟨by simp [Region.wanted, hg], hv⟩) ?_
 rw [hd, ← fi]
 rw [List.length_append, List.length_singleton, show l.length - (bs.length + 1) = f by omega] at hk
 exact hk
theorem DrB.u {l : List Oper} {bs : List Nat} {d : Nat} {o : Oper} {S : VP} (i : Nat) (h : obO E.n l i = some (o, d)) (hok : OKY E P Γ M o S) (k : DrB E P l ((d, S) :: Γ) M Q (bs ++ [i])) (hs : Region.noSelect l.toArray = true := by kernel_rfl) (hf : Region.free .any l.toArray (xx l.length bs) i = true := by kernel_rfl) (hr : (Region.ready .any l.toArray (xx l.length bs)).contains i = true := by kernel_rfl) (hl : Nat.blt bs.length l.length = true := by kernel_rfl) (hQ : ∀ c a w v, Q (.panic c) (Act.put a (some d) v) w → Q (.panic c) a w := by exact fun _ _ _ _ h => h) : DrB E P l Γ M Q bs :=
  let ⟨h1, h2, h3, h4⟩ := cD h
  DrB.take h1 h2 h4 h3 hs hf hr hl hQ hok k
theorem DrB.tk {l : List Oper} {bs : List Nat} {d : Nat} {o : Oper} {S : VP} (i : Nat) (hi : l[i]? = some o) (hd : o.dst = some d) (hg : o.guard = none) (hn : Nat.blt d E.n = true) (hok : OKY E P Γ M o S) (k : DrB E P l ((d, S) :: Γ) M Q (bs ++ [i])) (hs : Region.noSelect l.toArray = true := by kernel_rfl) (hf : Region.free .any l.toArray (xx l.length bs) i = true := by kernel_rfl) (hr : (Region.ready .any l.toArray (xx l.length bs)).contains i = true := by kernel_rfl) (hl : Nat.blt bs.length l.length = true := by kernel_rfl) (hQ : ∀ c a w v, Q (.panic c) (Act.put a (some d) v) w → Q (.panic c) a w := by exact fun _ _ _ _ h => h) : DrB E P l Γ M Q bs :=
 DrB.take hi hd hg hn hs hf hr hl hQ hok k
def zCK (l : List Oper) (i : Nat) : Bool := match l[i]? with
 | none => false
 | some oi => (List.range l.length).all fun j => j == i || (((qV l [])[i]?).getD 0).testBit j || match l[j]? with
   | some oj => oj.after.any (fun e => Region.binds .any e && e.on == i) || oi.apart l.toArray oj
   | none => true
inductive DrL (E : Env) (P : Program) (l : List Oper) (Γ : Ctx) (M : Mem) (es : List Nat) : List Nat → List VP → Prop
 | nil : DrL E P l Γ M es [] []
 | snoc {i d : Nat} {az : List Nat} {Ss : List VP} {S : VP} {o : Oper} (Δ : Ctx) : DrL E P l Γ M es az Ss → l[i]? = some o → o.dst = some d → Nat.blt d E.n = true →
   (∀ t S, zP Δ t = some S → (∃ (k j : Nat) (oj : Oper), az[k]? = some j ∧ (((qV l [])[i]?).getD 0).testBit j = true ∧ l[j]? = some oj ∧ oj.dst = some t ∧ Ss[k]? = some S) ∨ zP Γ t = some S) →
   OKG E P l.toArray Δ M o S → (es.contains i = true → OKY E P Δ M o S ∧ o.guard = none) → DrL E P l Γ M es (az ++ [i]) (Ss ++ [S])
theorem DrL.at {l : List Oper} {es az : List Nat} {Ss : List VP} (h : DrL E P l Γ M es az Ss) : Ss.length = az.length ∧ ∀ (k i : Nat), az[k]? = some i → ∃ (o : Oper) (d : Nat) (S : VP) (Δ : Ctx), l[i]? = some o ∧ o.dst = some d ∧ d < E.n ∧ Ss[k]? = some S ∧
    (∀ t S, zP Δ t = some S → (∃ (k j : Nat) (oj : Oper), az[k]? = some j ∧ (((qV l [])[i]?).getD 0).testBit j = true ∧ l[j]? = some oj ∧ oj.dst = some t ∧ Ss[k]? = some S) ∨ zP Γ t = some S) ∧ OKG E P l.toArray Δ M o S ∧ (es.contains i = true → OKY E P Δ M o S ∧ o.guard = none) := by
  induction h with
  | nil => exact ⟨rfl, fun k i hk => by simp at hk⟩
  | @snoc i d az Ss S o Δ h0 h1 h2 h3 h4 h5 h6 ih =>
    obtain ⟨ih1, ih2⟩ := ih
    have up : ∀ {β : Type} (xs : List β) (x : β) (j : Nat) (T : β), xs[j]? = some T → (xs ++ [x])[j]? = some T := fun xs x j T hT => by
      have : j < xs.length := by
        rcases Nat.lt_or_ge j xs.length with h | h
        · exact h
        · rw [List.getElem?_eq_none h] at hT; cases hT
      rw [List.getElem?_append_left this]; exact hT
    refine ⟨by simp [ih1], fun k i' hk => ?_⟩
    by_cases e : k = az.length
    · subst e
      rw [List.getElem?_append_right (Nat.le_refl _), Nat.sub_self] at hk
      obtain rfl : i = i' := by simpa using hk
      refine ⟨o, d, S, Δ, h1, h2, by simpa [Nat.blt_eq] using h3, by rw [List.getElem?_append_right (by omega)]; simp [ih1], fun t T hT => ?_, h5, h6⟩
      rcases h4 t T hT with ⟨k, j, oj, b0, b1, b2, b3, b4⟩ | h
      · exact .inl ⟨k, j, oj, up _ _ _ _ b0, b1, b2, b3, up _ _ _ _ b4⟩
      · exact .inr h
    · have hkl : k < az.length := by
        rcases Nat.lt_or_ge k az.length with h | h
        · exact h
        · rw [List.getElem?_eq_none (by simp; omega)] at hk; cases hk
      rw [List.getElem?_append_left hkl] at hk
      obtain ⟨o', d', S', Δ', a1, a2, a3, a4, a5, a6⟩ := ih2 k i' hk
      refine ⟨o', d', S', Δ', a1, a2, a3, up _ _ _ _ a4, fun t T hT => ?_, a6⟩
      rcases a5 t T hT with ⟨k, j, oj, b0, b1, b2, b3, b4⟩ | h
      · exact .inl ⟨k, j, oj, up _ _ _ _ b0, b1, b2, b3, up _ _ _ _ b4⟩
      · exact .inr h
def mQ (l : List Oper) : Bool := (List.range l.length).all fun i => match l[i]? with
 | none => true
 | some o => o.after.toList.all fun e => !Region.binds .any e || Nat.blt e.on i
def tG (n : Nat) (bs az ts : List Nat) : Bool := (List.range n).all fun i => bs.contains i || az.contains i || ts.contains i
def wH (l : List Oper) (az : List Nat) : List Nat → Bool
 | [] => true
 | t :: ts => (az.all fun j => (((qV l [])[t]?).getD 0).testBit j) && wH l (az ++ [t]) ts
def hH (bs az ts : List Nat) : Bool := (ts.all fun t => !bs.contains t && !az.contains t) && (az.all fun t => !bs.contains t)
def vK : List Nat → Bool
 | [] => true
 | t :: ts => !ts.contains t && vK ts
def inB (n : Nat) (ts : List Nat) : Bool := ts.all fun t => Nat.blt t n
def nv (l : List Oper) (az : List Nat) (Γ : Ctx) : Bool := az.all fun i => match (l[i]?).bind (·.dst) with
  | none => true
  | some d => (Γ.all fun p => !Nat.beq p.1 d) && az.all fun j => Nat.beq i j || match (l[j]?).bind (·.dst) with
    | none => true
    | some e => !Nat.beq d e
theorem ba {l : List Oper} (h : mQ l = true) : ∀ (i : Nat) (o : Oper), l[i]? = some o → ∀ e ∈ o.after, Region.binds .any e = true → e.on < i := by
 intro i o ho e he hb
 have hi : i < l.length := by
  rcases Nat.lt_or_ge i l.length with h' | h'
  ·exact h'
  ·rw [List.getElem?_eq_none h'] at ho; cases ho
 have := List.all_eq_true.1 h i (by simpa using hi)
 rw [ho] at this
 have h2 := List.all_eq_true.1 this e (by simpa using he)
 rw [hb] at h2
 simpa [Nat.blt_eq] using h2
theorem zDU {l : List Oper} (hback : mQ l = true) : ∀ (ts : List Nat) (pre : List Nat), wH l pre ts = true → vK ts = true → inB l.length ts = true →
    ∀ (fuel : Nat) (listed : Array Bool) (a : Act) (w : World), ts.length ≤ fuel → listed.size = l.length → (∀ j, j < l.length → j ∉ ts → listed.getD j false = true) → (∀ j, j ∈ ts → listed.getD j false = false) → (∀ t ∈ ts, t ∉ pre) →
    jl l (fun j => listed.getD j false = true) → wpList P l.toArray Q (ts.filterMap fun i => l[i]?) a w → wpAny P .any l.toArray Q fuel listed a w := by
  have hsp := ba hback
  have gd : ∀ (listed : Array Bool) j, j < listed.size → listed.getD j true = listed.getD j false := fun listed j hj => by simp [hj]
  intro ts
  induction ts with
  | nil =>
    intro pre _ _ _ fuel listed a w hf hsz hall _ _ hc hl
    refine wpAny_done ?_ hl fuel
    cases hr : Region.ready .any l.toArray listed with
    | nil => rfl
    | cons j js =>
      have hj : j ∈ Region.ready .any l.toArray listed := by rw [hr]; simp
      rw [mem_ready] at hj
      obtain ⟨g1, o, g2, _⟩ := hj
      have g2' : l[j]? = some o := by simpa using g2
      have hjl : j < l.length := by
        rcases Nat.lt_or_ge j l.length with h' | h'
        · exact h'
        · rw [List.getElem?_eq_none h'] at g2'; cases g2'
      rw [gd listed j (by omega), hall j hjl (by simp)] at g1; cases g1
  | cons t ts ih =>
    intro pre hah hnd hin fuel listed a w hf hsz hall hun hpre hc hl
    simp only [wH, Bool.and_eq_true] at hah
    simp only [vK, Bool.and_eq_true, Bool.not_eq_true'] at hnd
    simp only [inB, List.all_cons, Bool.and_eq_true] at hin
    have htl : t < l.length := by simpa [Nat.blt_eq] using hin.1
    have htn : t ∉ ts := by have := hnd.1; simpa using this
    obtain ⟨f, rfl⟩ : ∃ f, fuel = f + 1 := ⟨fuel - 1, by simp at hf; omega⟩
    have hot : l[t]? = some l[t] := List.getElem?_eq_getElem htl
    -- what the tail's later ones stand behind
    have later : ∀ (ts' : List Nat) (pre' : List Nat), wH l pre' ts' = true → ∀ u ∈ ts', ∀ j ∈ pre', (((qV l [])[u]?).getD 0).testBit j = true := by
      intro ts'
      induction ts' with
      | nil => intro pre' _ u hu; cases hu
      | cons x xs ihx =>
        intro pre' h u hu j hj
        simp only [wH, Bool.and_eq_true] at h
        rcases List.mem_cons.1 hu with rfl | hu
        · exact List.all_eq_true.1 h.1 j hj
        · exact ihx _ h.2 u hu j (List.mem_append_left _ hj)
    have honly : ∀ j, j ∈ Region.ready .any l.toArray listed → j = t := by
      intro j hj
      rw [mem_ready] at hj
      obtain ⟨g1, o, g2, g3⟩ := hj
      have g2' : l[j]? = some o := by simpa using g2
      have hjl : j < l.length := by
        rcases Nat.lt_or_ge j l.length with h' | h'
        · exact h'
        · rw [List.getElem?_eq_none h'] at g2'; cases g2'
      refine Classical.byContradiction fun hne => ?_
      have hjt : j ∈ t :: ts := by
        refine Classical.byContradiction fun hno => ?_
        rw [gd listed j (by omega), hall j hjl hno] at g1; cases g1
      have hjts : j ∈ ts := by rcases List.mem_cons.1 hjt with h | h; exact absurd h hne; exact h
      have hbit := later ts _ hah.2 j hjts t (by simp)
      have hmask : j < (qV l []).length := by rw [xP]; simpa using hjl
      rw [List.getElem?_eq_getElem hmask] at hbit
      have := wS hc j o g2' g3 t _ (List.getElem?_eq_getElem hmask) (by simpa using hbit)
      have h0 := hun t (by simp)
      have h1 : listed.getD t false = true := this
      rw [h1] at h0; cases h0
    have hready : t ∈ Region.ready .any l.toArray listed := by
      rw [mem_ready]
      refine ⟨by rw [gd listed t (by omega)]; exact hun t (by simp), l[t], by simp [htl], fun e he hb => ?_⟩
      -- an edge of t leads to what is listed
      have hlt := hsp t _ hot e he hb
      refine hall e.on (by omega) fun hmem => ?_
      rcases List.mem_cons.1 hmem with h | h
      · omega
      · -- a later one of the tail would stand behind t, and t behind it
        have hbit := later ts _ hah.2 e.on h t (by simp)
        have hmask : e.on < (qV l []).length := by rw [xP]; simp; omega
        rw [List.getElem?_eq_getElem hmask] at hbit
        -- qV lead back
        have hm : ∀ (i : Nat) (m : Nat), (qV l [])[i]? = some m → ∀ j, m.testBit j = true → j < i := by
          intro i m hm j hj
          have hil : i < l.length := by
            rcases Nat.lt_or_ge i l.length with h' | h'
            · exact h'
            · rw [List.getElem?_eq_none (by rw [xP]; simp; omega)] at hm; cases hm
          have := wS (l := l) (L := fun j => j < i) (fun i' o' ho' hi' e' he' hb' => Nat.lt_trans (hsp i' o' ho' e' he' hb') hi') i _ (List.getElem?_eq_getElem hil) (fun e' he' hb' => hsp i _ (List.getElem?_eq_getElem hil) e' he' hb') j m hm hj
          exact this
        have := hm e.on _ (List.getElem?_eq_getElem hmask) t (by simpa using hbit)
        omega
    rw [List.filterMap_cons, hot] at hl
    refine zBY (i := t) honly hready hot hl fun a w hl' => ?_
    refine ih (pre ++ [t]) hah.2 hnd.2 hin.2 f _ a w (by simp at hf; omega) (by simp [hsz]) (fun j hj hjn => ?_) (fun j hj => ?_) (fun u hu hmem => ?_) ?_ hl'
    · by_cases e : j = t
      · subst e; simp [hsz, htl]
      · exact getD_set_true (hall j hj (by simp [e, hjn]))
    · have hne : t ≠ j := fun e => htn (e ▸ hj)
      rw [getD_set_ne false hne]; exact hun j (by simp [hj])
    · rcases List.mem_append.1 hmem with h | h
      · exact hpre u (by simp [hu]) h
      · obtain rfl : u = t := by simpa using h
        exact htn hu
    · intro i o ho hL e he hb
      by_cases ei : i = t
      · subst ei
        rw [mem_ready] at hready
        obtain ⟨_, o', ho', hall'⟩ := hready
        have h1 : l[i]? = some o' := by simpa using ho'
        rw [ho] at h1; obtain rfl := Option.some.inj h1
        exact getD_set_true (hall' e he hb)
      · exact getD_set_true (hc i o ho (by
          have hL' : (listed.setIfInBounds t true).getD i false = true := hL
          rwa [getD_set_ne false (fun h => ei h.symm)] at hL') e he hb)
def zCP (l : List Oper) (az : List Nat) (Ss : List VP) (L : Nat → Prop) (a : Act) (w : World) (F : Blk) : Prop :=
 ∀ (k j : Nat) (o : Oper) (d : Nat) (S : VP), az[k]? = some j → L j → l[j]? = some o → o.dst = some d → Ss[k]? = some S → S.h w F (a.tmps.getD d undef)
def ju (l : List Oper) : List Nat → List VP → Ctx
  | i :: az, S :: Ss => match (l[i]?).bind (·.dst) with
    | some d => (d, S) :: ju l az Ss
    | none => ju l az Ss
  | _, _ => []
theorem wu {l : List Oper} : ∀ (az : List Nat) (Ss : List VP) (t : Nat) (S : VP), zP (ju l az Ss) t = some S → ∃ (k j : Nat) (o : Oper), az[k]? = some j ∧ l[j]? = some o ∧ o.dst = some t ∧ Ss[k]? = some S
  | [], Ss, t, S, h => by simp [ju, zP] at h
  | i :: az, [], t, S, h => by simp [ju, zP] at h
  | i :: az, S0 :: Ss, t, S, h => by
    simp only [ju] at h
    cases hd : (l[i]?).bind (·.dst) with
    | none => rw [hd] at h; obtain ⟨k, j, o, a, b, c, d⟩ := wu az Ss t S h; exact ⟨k + 1, j, o, by simpa using a, b, c, by simpa using d⟩
    | some dd =>
      rw [hd] at h
      simp only [zP] at h
      cases hb : Nat.beq dd t with
      | false => rw [hb] at h; obtain ⟨k, j, o, a, b, c, d⟩ := wu az Ss t S h; exact ⟨k + 1, j, o, by simpa using a, b, c, by simpa using d⟩
      | true =>
        rw [hb] at h; simp at h; subst h
        obtain rfl := Nat.eq_of_beq_eq_true hb
        cases ho : l[i]? with
        | none => rw [ho] at hd; cases hd
        | some o => rw [ho] at hd; exact ⟨0, i, o, rfl, ho, by simpa using hd, rfl⟩
theorem lD : ∀ {az : List Nat}, vK az = true → ∀ {k k' j : Nat}, az[k]? = some j → az[k']? = some j → k = k'
  | [], _, k, k', j, h, _ => by simp at h
  | a :: az, hn, k, k', j, h, h' => by
    simp only [vK, Bool.and_eq_true, Bool.not_eq_true'] at hn
    have hna : a ∉ az := by have := hn.1; simpa using this
    cases k with
    | zero =>
      cases k' with
      | zero => rfl
      | succ k' =>
        exfalso
        have e : a = j := by simpa using h
        exact hna (e ▸ List.mem_of_getElem? (show az[k']? = some j by simpa using h'))
    | succ k =>
      cases k' with
      | zero =>
        exfalso
        have e : a = j := by simpa using h'
        exact hna (e ▸ List.mem_of_getElem? (show az[k]? = some j by simpa using h))
      | succ k' => rw [lD hn.2 (show az[k]? = some j by simpa using h) (show az[k']? = some j by simpa using h')]
def nb (l : List Oper) (es az ts : List Nat) : Bool := es.all fun i => az.contains i && zCK l i && match l[i]? with
 | none => true
 | some o => o.after.toList.all fun e => !Region.binds .any e || !ts.contains e.on
theorem zDV {l : List Oper} {bs es az ts : List Nat} {Ss : List VP} (hD : DrL E P l Γ M es az Ss) (hsel : Region.noSelect l.toArray = true) (heg : nb l es az ts = true) (hQ : ∀ c a w d v, Q (.panic c) (Act.put a (some d) v) w → Q (.panic c) a w) (hap : nv l az Γ = true) (hback : mQ l = true) (hpart : tG l.length bs az ts = true) (hdis : hH bs az ts = true) (hah : wH l (az.filter fun i => !es.contains i) ts = true) (hnd : vK ts = true) (hna : vK az = true) (hin : inB l.length ts = true)
    (k : Ops E P l.toArray Q (ts.filterMap fun i => l[i]?) (ju l az Ss ++ Γ) M) :
    ∀ (fuel : Nat) (listed : Array Bool) (a : Act) (w : World) (F : Blk), listed.toList.countP (· == false) ≤ fuel → listed.size = l.length → (∀ j, j ∈ bs → j < l.length → listed.getD j false = true) → (∀ j, j ∈ ts → listed.getD j false = false) →
    jl l (fun j => listed.getD j false = true) → Sat E Γ M a w F → zCP l az Ss (fun j => listed.getD j false = true) a w F → wpAny P .any l.toArray Q fuel listed a w := by
  obtain ⟨hlen, hat⟩ := hD.at
  have hsp := ba hback
  have gd : ∀ (listed : Array Bool) j, j < listed.size → listed.getD j true = listed.getD j false := fun listed j hj => by simp [hj]
  have hcase : ∀ i, i < l.length → i ∈ bs ∨ i ∈ az ∨ i ∈ ts := by
    intro i hi
    have := List.all_eq_true.1 hpart i (by simpa using hi)
    simp only [Bool.or_eq_true, List.contains_iff_mem] at this
    rcases this with (h | h) | h
    · exact .inl h
    · exact .inr (.inl h)
    · exact .inr (.inr h)
  simp only [hH, Bool.and_eq_true, List.all_eq_true, Bool.not_eq_true', Bool.and_eq_true] at hdis
  have hta : ∀ t ∈ ts, t ∉ az := fun t ht => by have := (hdis.1 t ht).2; simpa using this
  have hapart : ∀ i d, i ∈ az → (l[i]?).bind (·.dst) = some d → (∀ t S, zP Γ t = some S → t ≠ d) ∧ ∀ j e, j ∈ az → j ≠ i → (l[j]?).bind (·.dst) = some e → e ≠ d := by
    intro i d hi hd
    have h1 := List.all_eq_true.1 hap i hi
    rw [hd] at h1
    simp only [Bool.and_eq_true] at h1
    refine ⟨jO h1.1, fun j e hj hne he => ?_⟩
    have h2 := List.all_eq_true.1 h1.2 j hj
    rw [he] at h2
    simp only [Bool.or_eq_true, Bool.not_eq_true'] at h2
    rcases h2 with h2 | h2
    · exact absurd (Nat.eq_of_beq_eq_true h2).symm hne
    · exact fun e' => Nat.ne_of_beq_eq_false h2 e'.symm
  have later : ∀ (ts' : List Nat) (pre' : List Nat), wH l pre' ts' = true → ∀ u ∈ ts', ∀ j ∈ pre', (((qV l [])[u]?).getD 0).testBit j = true := by
    intro ts'
    induction ts' with
    | nil => intro pre' _ u hu; cases hu
    | cons x xs ihx =>
      intro pre' h u hu j hj
      simp only [wH, Bool.and_eq_true] at h
      rcases List.mem_cons.1 hu with rfl | hu
      · exact List.all_eq_true.1 h.1 j hj
      · exact ihx _ h.2 u hu j (List.mem_append_left _ hj)
  have hfin : ∀ (listed : Array Bool) (a : Act) (w : World) (F : Blk), listed.size = l.length → (∀ j, j ∈ bs → j < l.length → listed.getD j false = true) → (∀ j, j ∈ ts → listed.getD j false = false) → (∀ j, j ∈ az → j < l.length → listed.getD j false = true) →
      jl l (fun j => listed.getD j false = true) → Sat E Γ M a w F → zCP l az Ss (fun j => listed.getD j false = true) a w F → ∀ fuel, listed.toList.countP (· == false) ≤ fuel → wpAny P .any l.toArray Q fuel listed a w := by
    intro listed a w F hsz hb ht ha hc s hdone fuel hcnt
    refine zDU hback ts _ hah hnd hin fuel listed a w ?_ hsz (fun j hj hn => ?_) ht (fun t ht hm => hta t ht (List.mem_filter.1 hm).1) hc (k a w F (s.wider ?_))
    · -- the tail's places are all unlisted
      refine Nat.le_trans ?_ hcnt
      have hinj : ∀ (ts' : List Nat), vK ts' = true → inB l.length ts' = true → (∀ j, j ∈ ts' → listed.getD j false = false) → ts'.length ≤ listed.toList.countP (· == false) := by
        intro ts' hnd' hin' hun'
        have e : listed.toList.countP (· == false) = ((List.range l.length).filter fun i => listed.getD i true == false).length := by
          rw [← List.countP_eq_length_filter]
          have : listed.toList = (List.range l.length).map fun i => listed.getD i true := by
            apply List.ext_getElem
            · simp [hsz]
            · intro i h1 h2
              have hi : i < listed.size := by simpa using h1
              simp [hi]
          rw [this, List.countP_map]; rfl
        rw [e]
        have hsub : ts' ⊆ (List.range l.length).filter fun i => listed.getD i true == false := by
          intro j hj
          have hjl : j < l.length := by
            have := List.all_eq_true.1 hin' j hj
            simpa [Nat.blt_eq] using this
          rw [List.mem_filter]
          refine ⟨by simpa using hjl, ?_⟩
          rw [gd listed j (by omega), hun' j hj]; rfl
        have hnodup : ts'.Nodup := by
          clear hun' hsub hin'
          induction ts' with
          | nil => exact List.nodup_nil
          | cons x xs ih =>
            simp only [vK, Bool.and_eq_true, Bool.not_eq_true'] at hnd'
            exact List.nodup_cons.2 ⟨by have := hnd'.1; simpa using this, ih hnd'.2⟩
        exact hnodup.length_le_of_subset hsub
      exact hinj ts hnd hin ht
    · rcases hcase j hj with h | h | h
      · exact hb j h hj
      · exact ha j h hj
      · exact absurd h hn
    · intro t S hlook
      rw [zX] at hlook
      cases hl : zP (ju l az Ss) t with
      | none => rw [hl] at hlook; exact s.slots t S (by simpa using hlook)
      | some S' =>
        rw [hl] at hlook
        obtain rfl : S' = S := by simpa using hlook
        obtain ⟨k', j, o, h1, h2, h3, h4⟩ := wu _ _ _ _ hl
        have hjl : j < l.length := by
          rcases Nat.lt_or_ge j l.length with h' | h'
          · exact h'
          · rw [List.getElem?_eq_none h'] at h2; cases h2
        exact hdone k' j o t S' h1 (ha j (List.mem_of_getElem? h1) hjl) h2 h3 h4
  intro fuel
  induction fuel with
  | zero =>
    intro listed a w F hcnt hsz hb ht hc s hdone
    refine hfin listed a w F hsz hb ht (fun j hj hjl => ?_) hc s hdone 0 hcnt
    have h0 : listed.toList.countP (· == false) = 0 := by omega
    rw [List.countP_eq_zero] at h0
    have hlt : j < listed.size := by omega
    have := h0 listed[j] (by simp)
    simp [hlt]
    simpa using this
  | succ fuel ih =>
    intro listed a w F hcnt hsz hb ht hc s hdone
    have hupd : ∀ (i ki : Nat) (o : Oper) (d : Nat) (S : VP), l[i]? = some o → i ∈ az → az[ki]? = some i → o.dst = some d → d < E.n → Ss[ki]? = some S → listed.getD i true = false → (∀ e ∈ o.after, Region.binds .any e = true → listed.getD e.on false = true) →
        ∀ v w' F', Adv w F w' F' → S.h w' F' v → wpAny P .any l.toArray Q fuel (listed.setIfInBounds i true) (a.put (some d) v) w' := by
      intro i ki o d S g2' hias hki a2 a3 a4 g1 g3 v w' F' ad hv
      have hil : i < l.length := by
        rcases Nat.lt_or_ge i l.length with h' | h'
        · exact h'
        · rw [List.getElem?_eq_none h'] at g2'; cases g2'
      have hbind : (l[i]?).bind (·.dst) = some d := by rw [g2']; exact a2
      obtain ⟨ap1, ap2⟩ := hapart i d hias hbind
      have s1 := s.adv ad
      refine ih _ _ w' F' ?_ (by simp [hsz]) (fun j hj hjl => getD_set_true (hb j hj hjl)) (fun j hj => ?_) ?_ (s1.putOut a3 v ap1) ?_
      · have hlt : i < listed.toList.length := by simp; omega
        have hli : listed.toList[i] = false := by
          have : i < listed.size := by omega
          simp [this] at g1; simpa using g1
        rw [Array.toList_setIfInBounds, List.countP_set hlt]
        rw [hli]
        have hpos : 0 < listed.toList.countP (· == false) := List.countP_pos_iff.2 ⟨false, by rw [← hli]; exact List.getElem_mem _, rfl⟩
        simp only [beq_self_eq_true, if_true]
        show _ - 1 + 0 ≤ fuel
        omega
      · have hne : i ≠ j := fun e => hta j hj (e ▸ hias)
        rw [getD_set_ne false hne]; exact ht j hj
      · intro j oj hj hL e he hbb
        by_cases ek : j = i
        · subst ek
          rw [g2'] at hj; obtain rfl := Option.some.inj hj
          exact getD_set_true (g3 e he hbb)
        · exact getD_set_true (hc j oj hj (by
            have hL' : (listed.setIfInBounds i true).getD j false = true := hL
            rwa [getD_set_ne false (fun h => ek h.symm)] at hL') e he hbb)
      · intro k' j oj dj Sj hkj hL hj hdj hSj
        rw [vv (by rw [s1.size]; exact a3)]
        by_cases ek : j = i
        · subst ek
          rw [g2'] at hj; obtain rfl := Option.some.inj hj
          rw [a2] at hdj; obtain rfl := Option.some.inj hdj
          rw [if_pos rfl]
          obtain rfl := lD hna hkj hki
          rw [a4] at hSj; obtain rfl := Option.some.inj hSj
          exact hv
        · have hjas : j ∈ az := List.mem_of_getElem? hkj
          have hne := ap2 j dj hjas ek (by rw [hj]; exact hdj)
          rw [if_neg (fun e => hne e.symm)]
          refine Sj.mono _ _ _ _ _ (hdone k' j oj dj Sj hkj ?_ hj hdj hSj) (ad.same s.flt) ad.sub
          have hL' : (listed.setIfInBounds i true).getD j false = true := hL
          rwa [getD_set_ne false (fun h => ek h.symm)] at hL'
    have hctx : ∀ (i : Nat) (o : Oper) (Δ : Ctx), l[i]? = some o → i < l.length → (∀ e ∈ o.after, Region.binds .any e = true → listed.getD e.on false = true) →
        (∀ t S, zP Δ t = some S → (∃ (k j : Nat) (oj : Oper), az[k]? = some j ∧ (((qV l [])[i]?).getD 0).testBit j = true ∧ l[j]? = some oj ∧ oj.dst = some t ∧ Ss[k]? = some S) ∨ zP Γ t = some S) → Sat E Δ M a w F := by
      intro i o Δ g2' hil g3 a6
      have hmask : i < (qV l []).length := by rw [xP]; simpa using hil
      exact s.wider (fun t S' hlk => by
        rcases a6 t S' hlk with ⟨k', j, oj, b00, b0, b1, b2, b3⟩ | h
        · rw [List.getElem?_eq_getElem hmask] at b0
          exact hdone k' j oj t S' b00 (wS hc i o g2' g3 j _ (List.getElem?_eq_getElem hmask) (by simpa using b0)) b1 b2 b3
        · exact s.slots t S' h)
    by_cases heag : ∃ e, e ∈ es ∧ e ∈ Region.ready .any l.toArray listed
    · -- one that reads no memory is ready: it is taken
      obtain ⟨i, hie, hir⟩ := heag
      have hi0 := hir
      rw [mem_ready] at hi0
      obtain ⟨g1, o, g2, g3⟩ := hi0
      have g2' : l[i]? = some o := by simpa using g2
      have hil : i < l.length := by
        rcases Nat.lt_or_ge i l.length with h' | h'
        · exact h'
        · rw [List.getElem?_eq_none h'] at g2'; cases g2'
      have he1 := List.all_eq_true.1 heg i hie
      simp only [Bool.and_eq_true] at he1
      have hias : i ∈ az := List.contains_iff_mem.1 he1.1.1
      obtain ⟨ki, hki⟩ := List.mem_iff_getElem?.1 hias
      obtain ⟨o', d, S, Δ, a1, a2, a3, a4, a6, a7, a8⟩ := hat ki i hki
      rw [g2'] at a1; obtain rfl := Option.some.inj a1
      obtain ⟨hy, hgd⟩ := a8 (List.contains_iff_mem.2 hie)
      obtain ⟨v, hv, hS⟩ := hy a w F (hctx i o Δ g2' hil g3 a6)
      have hfr : ∀ j oj, l.toArray[j]? = some oj → j ≠ i → listed.getD j true = false → (∀ e ∈ oj.after, Region.binds .any e = true → e.on ≠ i) → o.apart l.toArray oj = true := by
        intro j oj hj hne hun hno
        have hj' : l[j]? = some oj := by simpa using hj
        have hjl : j < l.length := by
          rcases Nat.lt_or_ge j l.length with h' | h'
          · exact h'
          · rw [List.getElem?_eq_none h'] at hj'; cases hj'
        have hf := he1.1.2
        unfold zCK at hf
        rw [g2'] at hf
        have h1 := List.all_eq_true.1 hf j (by simpa using hjl)
        rw [hj'] at h1
        simp only [Bool.or_eq_true, beq_iff_eq, hne, false_or] at h1
        rcases h1 with h1 | h1 | h1
        · exfalso
          have hmask : i < (qV l []).length := by rw [xP]; simpa using hil
          rw [List.getElem?_eq_getElem hmask] at h1
          have := wS hc i o g2' g3 j _ (List.getElem?_eq_getElem hmask) (by simpa using h1)
          rw [gd listed j (by omega)] at hun
          have h3 : listed.getD j false = true := this
          rw [h3] at hun; cases hun
        · obtain ⟨e, he, hb'⟩ := Array.any_eq_true'.1 h1
          simp only [Bool.and_eq_true, beq_iff_eq] at hb'
          exact absurd hb'.2 (hno e he hb'.1)
        · exact h1
      refine wpAny_first g2 (Region.noSelect_spec hsel) (fun c a w h => hQ c a w d v (by rw [a2] at h; exact h)) fuel listed a w hfr hir (.inl ⟨by simp [Region.wanted, hgd], hv⟩) ?_
      rw [a2]
      exact hupd i ki o d S g2' hias hki a2 a3 a4 g1 g3 v w F (Adv.refl _ _) hS
    by_cases hall : ∀ j, j ∈ az → j < l.length → listed.getD j false = true
    · exact hfin listed a w F hsz hb ht hall hc s hdone _ hcnt
    · have hex : ∃ j, j < l.length ∧ listed.getD j true = false := by
        refine Classical.byContradiction fun hno => hall fun j hj hjl => ?_
        rw [← gd listed j (by omega)]
        cases hbb : listed.getD j true with
        | true => rfl
        | false => exact absurd ⟨j, hjl, hbb⟩ hno
      refine ⟨fun hr => ?_, fun i hi => ?_⟩
      · obtain ⟨j, ⟨hj1, hj2⟩, hmin⟩ := exists_least hex
        have : j ∈ Region.ready .any l.toArray listed := by
          rw [mem_ready]
          refine ⟨hj2, l[j], by simp [hj1], fun e he hbb => ?_⟩
          have hlt := hsp j _ (List.getElem?_eq_getElem hj1) e he hbb
          cases hb2 : listed.getD e.on true with
          | true => rw [gd listed e.on (by omega)] at hb2; exact hb2
          | false => have := hmin e.on ⟨by omega, hb2⟩; omega
        rw [hr] at this; simp at this
      · have hi' := hi
        rw [mem_ready] at hi
        obtain ⟨g1, o, g2, g3⟩ := hi
        have g2' : l[i]? = some o := by simpa using g2
        have hil : i < l.length := by
          rcases Nat.lt_or_ge i l.length with h' | h'
          · exact h'
          · rw [List.getElem?_eq_none h'] at g2'; cases g2'
        have hmask : i < (qV l []).length := by rw [xP]; simpa using hil
        have hias : i ∈ az := by
          rcases hcase i hil with h | h | h
          · rw [gd listed i (by omega), hb i h hil] at g1; cases g1
          · exact h
          · exfalso
            have hna' : ∀ j, j ∈ az → j < l.length → es.contains j = false → listed.getD j false = true := by
              intro j hj hjl hje
              have hbit := later ts _ hah i h j (List.mem_filter.2 ⟨hj, by rw [hje]; rfl⟩)
              rw [List.getElem?_eq_getElem hmask] at hbit
              exact wS hc i o g2' g3 j _ (List.getElem?_eq_getElem hmask) (by simpa using hbit)
            refine hall fun j hj hjl => ?_
            refine Classical.byContradiction fun hno => ?_
            -- the least of the eager ones that are not listed is ready
            have hex2 : ∃ q, (q ∈ az ∧ q < l.length) ∧ listed.getD q false = false := ⟨j, ⟨hj, hjl⟩, by cases hbb : listed.getD j false with | true => exact absurd hbb hno | false => rfl⟩
            obtain ⟨q, ⟨⟨hq1, hq2⟩, hq3⟩, hqmin⟩ := exists_least hex2
            have hqe : es.contains q = true := by
              cases hbb : es.contains q with
              | true => rfl
              | false => rw [hna' q hq1 hq2 hbb] at hq3; cases hq3
            have hqe' := List.contains_iff_mem.1 hqe
            refine heag ⟨q, hqe', ?_⟩
            rw [mem_ready]
            refine ⟨by rw [gd listed q (by omega)]; exact hq3, l[q], by simp [hq2], fun e he hbb => ?_⟩
            have hlt := hsp q _ (List.getElem?_eq_getElem hq2) e he hbb
            have he1 := List.all_eq_true.1 heg q hqe'
            simp only [Bool.and_eq_true] at he1
            have he2 := he1.2
            rw [List.getElem?_eq_getElem hq2] at he2
            have he3 := List.all_eq_true.1 he2 e (by simpa using he)
            rw [hbb] at he3
            simp only [Bool.not_true, Bool.false_or, Bool.not_eq_true'] at he3
            rcases hcase e.on (by omega) with h' | h' | h'
            · exact hb e.on h' (by omega)
            · cases hb2 : listed.getD e.on false with
              | true => rfl
              | false => have := hqmin e.on ⟨⟨h', by omega⟩, hb2⟩; omega
            · rw [List.contains_iff_mem.2 h'] at he3; cases he3
        obtain ⟨ki, hki⟩ := List.mem_iff_getElem?.1 hias
        obtain ⟨o', d, S, Δ, a1, a2, a3, a4, a6, a7, _⟩ := hat ki i hki
        rw [g2'] at a1; obtain rfl := Option.some.inj a1
        have hstep := a7 a w F (hctx i o Δ g2' hil g3 a6) (wpAny P .any l.toArray Q fuel (listed.setIfInBounds i true)) Q
        have hgo : ∀ v w' F', Adv w F w' F' → S.h w' F' v → wpAny P .any l.toArray Q fuel (listed.setIfInBounds i true) (a.put o.dst v) w' := by
          intro v w' F' ad hv
          rw [a2]
          exact hupd i ki o d S g2' hias hki a2 a3 a4 g1 g3 v w' F' ad hv
        have hres := hstep hgo
        unfold wpOp
        have ho : l.toArray[i]? = some o := by simpa using g2'
        rw [ho]
        exact hres
def DrC (E : Env) (P : Program) (l : List Oper) (Γ : Ctx) (M : Mem) (Q : Exit → Act → World → Prop) (es bs az : List Nat) (Θ : Ctx) : Prop :=
 ∀ Ss, DrL E P l Γ M es az Ss → (∀ t S, zP Θ t = some S → ∃ (k j : Nat) (o : Oper), az[k]? = some j ∧ l[j]? = some o ∧ o.dst = some t ∧ Ss[k]? = some S) → DrB E P l Γ M Q bs
theorem DrB.go {l : List Oper} {bs : List Nat} (es : List Nat) (h : DrC E P l Γ M Q es bs [] []) : DrB E P l Γ M Q bs := h [] .nil (fun t S ht => by simp [zP] at ht)
def bL (l : List Oper) (i : Nat) (az ts : List Nat) : Bool :=
 let m := ((qV l [])[i]?).getD 0
 az.all fun j => m.testBit j || match (l[j]?).bind (·.dst) with
  | none => true
  | some d => ts.all fun t => !Nat.beq d t
theorem OKY.g {o : Oper} {S : VP} (hg : o.guard = none) (h : OKY E P Γ M o S) : OKG E P ops Γ M o S := OKG.o hg (.run fun a w F s => by
 obtain ⟨v, hv, hS⟩ := h a w F s
 exact ⟨v, hv w, hS⟩)
theorem DrC.stE {i d : Nat} {l : List Oper} {es bs az : List Nat} {Θ : Ctx} {S : VP} {o : Oper} (ts : List Nat) (h1 : l[i]? = some o) (h2 : o.dst = some d) (h3 : Nat.blt d E.n = true)
    (h4 : bL l i az ts = true) (h5 : OKG E P l.toArray (qY ts Θ ++ Γ) M o S) (h6 : es.contains i = true → OKY E P (qY ts Θ ++ Γ) M o S ∧ o.guard = none) (k : DrC E P l Γ M Q es bs (az ++ [i]) ((d, S) :: Θ)) : DrC E P l Γ M Q es bs az Θ := by
  intro Ss hD hΘ
  obtain ⟨hlen, _⟩ := hD.at
  have up : ∀ {β : Type} (xs : List β) (x : β) (j : Nat) (T : β), xs[j]? = some T → (xs ++ [x])[j]? = some T := fun xs x j T hT => by
    have : j < xs.length := by
      rcases Nat.lt_or_ge j xs.length with h | h
      · exact h
      · rw [List.getElem?_eq_none h] at hT; cases hT
    rw [List.getElem?_append_left this]; exact hT
  refine k (Ss ++ [S]) (.snoc _ hD h1 h2 h3 (fun t S' ht => ?_) h5 h6) (fun t S' ht => ?_)
  · rw [zX] at ht
    cases hl : zP (qY ts Θ) t with
    | none => rw [hl] at ht; exact .inr (by simpa using ht)
    | some S'' =>
      rw [hl] at ht
      obtain rfl : S'' = S' := by simpa using ht
      obtain ⟨hm, hl2⟩ := xp _ _ _ hl
      obtain ⟨k', j, oj, b0, b1, b2, b3⟩ := hΘ t S'' hl2
      refine .inl ⟨k', j, oj, b0, ?_, b1, b2, b3⟩
      have := List.all_eq_true.1 h4 j (List.mem_of_getElem? b0)
      rw [b1] at this
      simp only [Option.bind_some, b2, Bool.or_eq_true] at this
      rcases this with h | h
      · exact h
      · have := List.all_eq_true.1 h t hm
        simp [Nat.beq_refl] at this
  · simp only [zP] at ht
    cases hb : Nat.beq d t with
    | true =>
      rw [hb] at ht; simp at ht; subst ht
      obtain rfl := Nat.eq_of_beq_eq_true hb
      exact ⟨az.length, i, o, by simp, h1, h2, by rw [List.getElem?_append_right (by omega)]; simp [hlen]⟩
    | false =>
      rw [hb] at ht
      obtain ⟨k', j, oj, b0, b1, b2, b3⟩ := hΘ t S' ht
      exact ⟨k', j, oj, up _ _ _ _ b0, b1, b2, up _ _ _ _ b3⟩
theorem DrC.st {i d : Nat} {l : List Oper} {es bs az : List Nat} {Θ : Ctx} {S : VP} {o : Oper} (ts : List Nat) (h1 : l[i]? = some o) (h2 : o.dst = some d) (h3 : Nat.blt d E.n = true)
  (h4 : bL l i az ts = true) (h0 : es.contains i = false) (h5 : OKG E P l.toArray (qY ts Θ ++ Γ) M o S) (k : DrC E P l Γ M Q es bs (az ++ [i]) ((d, S) :: Θ)) : DrC E P l Γ M Q es bs az Θ :=
 DrC.stE ts h1 h2 h3 h4 h5 (fun h => by rw [h0] at h; cases h) k
theorem DrC.so {d : Nat} {l : List Oper} {es bs az : List Nat} {Θ : Ctx} {S : VP} {o : Oper} (i : Nat) (ts : List Nat) (h : obO E.n l i = some (o, d)) (h5 : OK1 E P (qY ts Θ ++ Γ) M o S) (k : DrC E P l Γ M Q es bs (az ++ [i]) ((d, S) :: Θ)) (h4 : bL l i az ts = true := by kernel_rfl) (h0 : es.contains i = false := by kernel_rfl) : DrC E P l Γ M Q es bs az Θ :=
  let ⟨h1, h2, h3, hg⟩ := cD h
  DrC.st ts h1 h2 h3 h4 h0 (.o hg h5) k
theorem DrC.m {d : Nat} {l : List Oper} {es bs az : List Nat} {Θ : Ctx} {S : VP} {o : Oper} (i : Nat) (ts : List Nat) (h : omO E.n (qY ts Θ ++ Γ) l i = some (o, d, S)) (k : DrC E P l Γ M Q es bs (az ++ [i]) ((d, S) :: Θ)) (h4 : bL l i az ts = true := by kernel_rfl) (h0 : es.contains i = false := by kernel_rfl) : DrC E P l Γ M Q es bs az Θ :=
  let ⟨h1, h2⟩ := et h
  let ⟨g1, g2, g3, _⟩ := aT h2
  DrC.st ts h1 g1 g3 h4 h0 (.o g2 (.mvo h2)) k
theorem DrC.s {d : Nat} {l : List Oper} {es bs az : List Nat} {Θ : Ctx} {S : VP} {o : Oper} (i : Nat) (ts : List Nat) (h1 : l[i]? = some o) (h2 : o.dst = some d) (h3 : Nat.blt d E.n = true) (h5 : OKG E P l.toArray (qY ts Θ ++ Γ) M o S) (k : DrC E P l Γ M Q es bs (az ++ [i]) ((d, S) :: Θ)) (h4 : bL l i az ts = true := by kernel_rfl) (h0 : es.contains i = false := by kernel_rfl) : DrC E P l Γ M Q es bs az Θ :=
 DrC.st ts h1 h2 h3 h4 h0 h5 k
theorem DrC.ea {i d : Nat} {l : List Oper} {es bs az : List Nat} {Θ : Ctx} {S : VP} {o : Oper} (ts : List Nat) (h1 : l[i]? = some o) (h2 : o.dst = some d) (h3 : Nat.blt d E.n = true)
  (h4 : bL l i az ts = true) (hg : o.guard = none) (h5 : OKY E P (qY ts Θ ++ Γ) M o S) (k : DrC E P l Γ M Q es bs (az ++ [i]) ((d, S) :: Θ)) : DrC E P l Γ M Q es bs az Θ :=
 DrC.stE ts h1 h2 h3 h4 (OKY.g hg h5) (fun _ => ⟨h5, hg⟩) k
def mg (l : List Oper) (bs : List Nat) : Bool := (bs.all fun i => match l[i]? with
    | none => true
    | some o => o.after.toList.all fun e => !Region.binds .any e || bs.contains e.on) &&
  ((List.range l.length).all fun i => (xx l.length bs).getD i false == bs.contains i) && Nat.ble ((xx l.length bs).toList.countP (· == false)) (l.length - bs.length)
theorem DrC.fin {l : List Oper} {es bs az : List Nat} {Θ : Ctx} (ts : List Nat) (hsel : Region.noSelect l.toArray = true) (heg : nb l es az ts = true) (hQ : ∀ c a w d v, Q (.panic c) (Act.put a (some d) v) w → Q (.panic c) a w) (htk : mg l bs = true) (hap : nv l az Γ = true) (hback : mQ l = true) (hpart : tG l.length bs az ts = true) (hdis : hH bs az ts = true) (hah : wH l (az.filter fun i => !es.contains i) ts = true) (hnd : vK ts = true) (hna : vK az = true) (hin : inB l.length ts = true)
    (k : Ops E P l.toArray Q (ts.filterMap fun i => l[i]?) (Θ ++ Γ) M) : DrC E P l Γ M Q es bs az Θ := by
  intro Ss hD hΘ a w F s
  simp only [mg, Bool.and_eq_true] at htk
  obtain ⟨⟨t1, t2⟩, t3⟩ := htk
  have hlist : ∀ i, i < l.length → ((xx l.length bs).getD i false = true ↔ i ∈ bs) := fun i hi => by
    have := List.all_eq_true.1 t2 i (by simpa using hi)
    have h2 : (xx l.length bs).getD i false = bs.contains i := by simpa using this
    rw [h2, List.contains_iff_mem]
  have hsz := ns l.length bs
  have hout : ∀ i, l.length ≤ i → (xx l.length bs).getD i false = false := fun i hi => by
    have : ¬ i < (xx l.length bs).size := by omega
    simp [this]
  have hsame : ∀ t S, zP (Θ ++ Γ) t = some S → zP (ju l az Ss ++ Γ) t = some S := by
    intro t S ht
    rw [zX] at ht
    rw [zX]
    have hdl : ∀ i d, i ∈ az → (l[i]?).bind (·.dst) = some d → (∀ t S, zP Γ t = some S → t ≠ d) ∧ ∀ j e, j ∈ az → j ≠ i → (l[j]?).bind (·.dst) = some e → e ≠ d := by
      intro i d hi hd
      have h1 := List.all_eq_true.1 hap i hi
      rw [hd] at h1
      simp only [Bool.and_eq_true] at h1
      refine ⟨jO h1.1, fun j e hj hne he => ?_⟩
      have h2 := List.all_eq_true.1 h1.2 j hj
      rw [he] at h2
      simp only [Bool.or_eq_true, Bool.not_eq_true'] at h2
      rcases h2 with h2 | h2
      · exact absurd (Nat.eq_of_beq_eq_true h2).symm hne
      · exact fun e' => Nat.ne_of_beq_eq_false h2 e'.symm
    cases hl : zP Θ t with
    | none =>
      rw [hl] at ht
      have ht' : zP Γ t = some S := by simpa using ht
      have hno : zP (ju l az Ss) t = none := by
        cases hd : zP (ju l az Ss) t with
        | none => rfl
        | some S' =>
          obtain ⟨k', j, o, b0, b1, b2, b3⟩ := wu _ _ _ _ hd
          exact absurd rfl ((hdl j t (List.mem_of_getElem? b0) (by rw [b1]; exact b2)).1 t S ht')
      rw [hno]; simpa using ht'
    | some S' =>
      rw [hl] at ht
      obtain rfl : S' = S := by simpa using ht
      obtain ⟨k', j, o, b0, b1, b2, b3⟩ := hΘ t S' hl
      have hex : ∀ (as' : List Nat) (Ss' : List VP) (k : Nat), as'[k]? = some j → Ss'[k]? = some S' → vK as' = true → (∀ j', j' ∈ as' → j' ≠ j → (l[j']?).bind (·.dst) ≠ some t) → zP (ju l as' Ss') t = some S' := by
        intro as'
        induction as' with
        | nil => intro Ss' k h; simp at h
        | cons x as' ih =>
          intro Ss' k h1 h2 hn h3
          simp only [vK, Bool.and_eq_true, Bool.not_eq_true'] at hn
          have hxn : x ∉ as' := by have := hn.1; simpa using this
          cases Ss' with
          | nil => simp at h2
          | cons T Ss' =>
            cases k with
            | zero =>
              have e1 : x = j := by simpa using h1
              have e2 : T = S' := by simpa using h2
              subst e1; subst e2
              simp only [ju, b1, Option.bind_some, b2, zP, Nat.beq_refl]
            | succ k =>
              have hjm : j ∈ as' := List.mem_of_getElem? (show as'[k]? = some j by simpa using h1)
              have hxj : x ≠ j := fun e => hxn (e ▸ hjm)
              have hrec := ih Ss' k (by simpa using h1) (by simpa using h2) hn.2 (fun j' hj' hne => h3 j' (by simp [hj']) hne)
              have h0 := h3 x (by simp) hxj
              simp only [ju]
              cases hd : (l[x]?).bind (·.dst) with
              | none => exact hrec
              | some d' =>
                simp only [zP]
                have hne : Nat.beq d' t = false := by
                  cases hb : Nat.beq d' t with
                  | false => rfl
                  | true => exact absurd (by rw [hd, Nat.eq_of_beq_eq_true hb]) h0
                rw [hne]; exact hrec
      have hlk := hex az Ss k' b0 b3 hna (fun j' hj' hne he' => (hdl j t (List.mem_of_getElem? b0) (by rw [b1]; exact b2)).2 j' t hj' hne he' rfl)
      rw [hlk]; rfl
  refine zDV (bs := bs) hD hsel heg hQ hap hback hpart hdis hah hnd hna hin (fun a w F s => k a w F (s.wider fun t S ht => s.slots t S (hsame t S ht))) _ _ a w F (Nat.le_of_ble_eq_true t3) hsz (fun j hj hjl => (hlist j hjl).2 hj) (fun j hj => ?_) ?_ s ?_
  · rcases Nat.lt_or_ge j l.length with h | h
    · cases hb : (xx l.length bs).getD j false with
      | false => rfl
      | true =>
        exfalso
        simp only [hH, Bool.and_eq_true, List.all_eq_true, Bool.not_eq_true'] at hdis
        have := (hdis.1 j hj).1
        have hm := (hlist j h).1 hb
        rw [← List.contains_iff_mem, this] at hm; cases hm
    · exact hout j h
  · intro i o ho hL e he hb
    have hil : i < l.length := by
      rcases Nat.lt_or_ge i l.length with h' | h'
      · exact h'
      · rw [List.getElem?_eq_none h'] at ho; cases ho
    have hib := (hlist i hil).1 hL
    have := List.all_eq_true.1 t1 i hib
    rw [ho] at this
    have h2 := List.all_eq_true.1 this e (by simpa using he)
    rw [hb] at h2
    simp only [Bool.not_true, Bool.false_or] at h2
    have hlt := ba hback i o ho e he hb
    exact (hlist e.on (by omega)).2 (List.contains_iff_mem.1 h2)
  · intro k' j o d S hkj hL hj hd hS
    have hjl : j < l.length := by
      rcases Nat.lt_or_ge j l.length with h' | h'
      · exact h'
      · rw [List.getElem?_eq_none h'] at hj; cases hj
    have hjb := (hlist j hjl).1 hL
    exfalso
    simp only [hH, Bool.and_eq_true, List.all_eq_true, Bool.not_eq_true'] at hdis
    have := hdis.2 j (List.mem_of_getElem? hkj)
    rw [← List.contains_iff_mem, this] at hjb; cases hjb
theorem DrC.fn {l : List Oper} {es bs az : List Nat} {Θ : Ctx} (ts : List Nat) (k : Ops E P l.toArray Q (ts.filterMap fun i => l[i]?) (Θ ++ Γ) M) (hsel : Region.noSelect l.toArray = true := by kernel_rfl) (heg : nb l es az ts = true := by kernel_rfl) (hQ : ∀ c a w d v, Q (.panic c) (Act.put a (some d) v) w → Q (.panic c) a w := by exact fun _ _ _ _ _ h => h) (htk : mg l bs = true := by kernel_rfl) (hap : nv l az Γ = true := by kernel_rfl) (hback : mQ l = true := by kernel_rfl) (hpart : tG l.length bs az ts = true := by kernel_rfl) (hdis : hH bs az ts = true := by kernel_rfl) (hah : wH l (az.filter fun i => !es.contains i) ts = true := by kernel_rfl) (hnd : vK ts = true := by kernel_rfl) (hna : vK az = true := by kernel_rfl) (hin : inB l.length ts = true := by kernel_rfl) : DrC E P l Γ M Q es bs az Θ :=
  DrC.fin ts hsel heg hQ htk hap hback hpart hdis hah hnd hna hin k
end
end Go.En
namespace Go.En
open Go.RowKit
section
variable {E : Env} {P : Program} {Γ : Ctx} {M : Mem} {ty : TypeId} {pos : String} {after : Array Edge} {gd : Option (Nat × Bool)} {d : Option Tmp}
 {ops : Array Oper} {Q : Exit → Act → World → Prop} {rest : List Oper} {T T' : TypeId} {x y : Operand} {α : Type} {f : α → VP} {fk : α → List VP} {xs : List α} {k : Nat}
def jc (g : Gr α) (o : Nat) : VP := .pure fun v => ∃ b, g.ob = some b ∧ v = .pointer (some ⟨b, o, none⟩)
instance {g : Gr α} {o : Nat} : One (jc g o) := ⟨fun w F v h => by obtain ⟨b, _, rfl⟩ := h; rfl⟩
instance {g : Gr α} {o : Nat} : Shape (jc g o) [jc g o] := .of_one inferInstance
theorem Has.ptrG {g : Gr α} {o b : Nat} (hob : g.ob = some b) (h : Has E Γ M x (jc g o)) : Has E Γ M x (qU b o) := fun a w F s => by
 obtain ⟨b', hb, e⟩ := h a w F s
 obtain rfl : b = b' := by rw [hob] at hb; exact Option.some.inj hb
 exact e
theorem Has.winG {g : Gr α} {n b : Nat} (hob : g.ob = some b) (h : Has E Γ M x (zj g n)) : Has E Γ M x (qR b 0 n g.c) := fun a w F s => by
 rcases h a w F s with ⟨h0, _⟩ | ⟨b', hb, e, h1, h2⟩
 ·rw [hob] at h0; cases h0
 ·obtain rfl : b = b' := by rw [hob] at hb; exact Option.some.inj hb
  exact ⟨e, by omega, h2⟩
theorem zGO {g : Gr α} {n : Nat} (hob : g.ob = none) (h : Has E Γ M x (zj g n)) : ∀ a w F, Sat E Γ M a w F → n = 0 := fun a w F s => by
 rcases h a w F s with ⟨_, h0, _⟩ | ⟨b', hb, _⟩
 ·exact h0
 ·rw [hob] at hb; cases hb
theorem OK1.ixGr {e : TypeId} {n m : Nat} {g : Gr α} {g0 : Bool} {z : Int} (hT : slB P T = some e) (ht : tyB P e = some (m, g0)) (hx : Has E Γ M x (zj g n)) (hy : Has E Γ M y (isI z)) (h : 0 ≤ z ∧ z < n) :
    OK1 E P Γ M ⟨d, .indexAddr T x y, ty, pos, after, gd⟩ (jc g (z.toNat * m)) := by
  cases hob : g.ob with
  | none =>
    intro a w F s
    have := zGO hob hx a w F s
    omega
  | some b =>
    intro a w F s K Q' hK
    refine OK1.ixWin hT ht (hx.winG hob) hy h a w F s K Q' fun v w' F' ad hv => hK v w' F' ad ?_
    refine ⟨b, hob, ?_⟩
    rw [show z.toNat * m = 0 + z.toNat * m by omega]
    exact hv
theorem OK1.absurdG {o : Oper} {S : VP} {g : Gr α} {j : Nat} (hob : g.ob = none) (hx : Has E Γ M x (jc g j)) : OK1 E P Γ M o S := fun a w F s => by
 obtain ⟨b, hb, _⟩ := hx a w F s
 rw [hob] at hb; cases hb
theorem Ops.absurdG {g : Gr α} {j : Nat} (hob : g.ob = none) (hx : Has E Γ M x (jc g j)) {l : List Oper} : Ops E P ops Q l Γ M := fun a w F s => by
 obtain ⟨b, hb, _⟩ := hx a w F s
 rw [hob] at hb; cases hb
theorem OK1.loadGK {i j : Nat} {g : Gr α} {ys : List α} {y' : α} (hk : ∀ y, (fk y).length = k) (hx : Has E Γ M x (jc g (j * k))) (hM : M[i]? = some (zz fk g ys)) (hT : tyB P T = some (k, true)) (hS : ys[j]? = some y') :
    OK1 E P Γ M ⟨d, .load T x, ty, pos, after, gd⟩ (zu (fk y')) := by
  cases hob : g.ob with
  | none => exact OK1.absurdG hob hx
  | some b =>
    refine OK1.loadK (xs := ys ++ g.sp) (i := i) hk (hx.ptrG hob) (by rw [hM]; unfold zz; rw [hob]) hT ?_
    have hj : j < ys.length := by
      rcases Nat.lt_or_ge j ys.length with h | h
      · exact h
      · rw [List.getElem?_eq_none h] at hS; cases hS
    rw [List.getElem?_append_left hj]; exact hS
theorem OK1.loadGM {i j : Nat} {g : Gr α} {ys : List α} {y' : α} (hx : Has E Γ M x (jc g (j * 1))) (hM : M[i]? = some (grM f g ys)) (hT : tyB P T = some (1, false)) (hS : ys[j]? = some y') :
    OK1 E P Γ M ⟨d, .load T x, ty, pos, after, gd⟩ (f y') := by
  cases hob : g.ob with
  | none => exact OK1.absurdG hob hx
  | some b =>
    rw [Nat.mul_one] at hx
    refine OK1.load1 (i := i) (hx.ptrG hob) (Ss := (ys ++ g.sp).map f) (by rw [hM]; unfold grM; rw [hob]) hT ?_
    have hj : j < ys.length := by
      rcases Nat.lt_or_ge j ys.length with h | h
      · exact h
      · rw [List.getElem?_eq_none h] at hS; cases hS
    rw [List.getElem?_map, List.getElem?_append_left hj, hS]; rfl
theorem Ops.storeGK {i j : Nat} {g0 : Bool} {T : TypeId} {S : VP} {g : Gr α} {ys : List α} {z : α} [sh : Shape S (fk z)] [o1 : Ones (fk z)] (hk : ∀ y, (fk y).length = k) (hx : Has E Γ M x (jc g (j * k))) (hy : Has E Γ M y S)
    (hM : M[i]? = some (zz fk g ys)) (hT : tyB P T = some (k, g0)) (hl : j < ys.length) {M' : Mem} (hM' : M.set i (zz fk g (ys.set j z)) = M') (kk : Ops E P ops Q rest Γ M') : Ops E P ops Q (⟨none, .store T x y, ty, pos, after, none⟩ :: rest) Γ M := by
  cases hob : g.ob with
  | none => exact Ops.absurdG hob hx
  | some b =>
    refine .storeK (z := z) (xs := ys ++ g.sp) (i := i) (b := b) (j := j) hk (hx.ptrG hob) hy (by rw [hM]; unfold zz; rw [hob]) hT (by rw [List.length_append]; omega) (M' := M') ?_ kk
    rw [← hM']
    congr 1
    unfold zz
    rw [hob, List.set_append_left _ _ hl]
theorem Ops.storeGM {i j : Nat} {T : TypeId} {g : Gr α} {ys : List α} {z : α} [sh : Shape (f z) [f z]] [o1 : One (f z)] (hx : Has E Γ M x (jc g (j * 1))) (hy : Has E Γ M y (f z))
    (hM : M[i]? = some (grM f g ys)) (hT : tyB P T = some (1, false)) (hl : j < ys.length) {M' : Mem} (hM' : M.set i (grM f g (ys.set j z)) = M') (kk : Ops E P ops Q rest Γ M') : Ops E P ops Q (⟨none, .store T x y, ty, pos, after, none⟩ :: rest) Γ M := by
  cases hob : g.ob with
  | none => exact Ops.absurdG hob hx
  | some b =>
    rw [Nat.mul_one] at hx
    refine .storeM (z := z) (xs := ys ++ g.sp) (i := i) (b := b) (off := j) (hx.ptrG hob) hy (by rw [hM]; unfold grM; rw [hob]) hT (by rw [List.length_append]; omega) (M' := M') ?_ kk
    rw [← hM']
    congr 1
    unfold grM
    rw [hob, List.set_append_left _ _ hl]
def yu : VP := .pure fun v => v = .pointer none
instance : One yu := ⟨fun w F v h => by rw [show v = .pointer none from h]; rfl⟩
instance : Shape yu [yu] := .of_one inferInstance
theorem Has.cP : Has E Γ M (.const (.pointer none)) yu := fun _ _ _ _ => rfl
theorem Tri.drhS {id : Nat} {l : List Oper} {Ms : Mem} (hs : Ms.Sublist M) (h : DrH E P id l Γ M Ms Q 0 []) : Tri E P (.region id l.toArray true) Γ M Q := h [] .nil (fun t S ht => by simp [zP] at ht)
theorem Cv.perm {M' : Mem} (h : M.Perm M') : Cv E Γ M Γ M' := fun a w F s =>
 ⟨F, { s with mem := ⟨(h.pairwise_iff (fun {x y} hxy => by
  rcases hxy with h1 | h1
  ·by_cases h2 : y.1 = none
   ·exact .inl h2
   ·exact .inr (fun e => h2 (e.trans h1))
  ·exact .inr (fun e => h1 e.symm))).1 s.mem.apart, fun b C hb => s.mem.each b C (h.mem_iff.2 hb)⟩ }⟩
/-! ### functions over memory of their caller's -/
structure MemIn (M : Mem) (w : World) (F : Blk) : Prop where
 apart : M.Pairwise (fun x y => x.1 = none ∨ x.1 ≠ y.1)
 each : ∀ (b : Nat) (C : MP), (some b, C) ∈ M → b < w.heap.size ∧ ¬ F b ∧ ∃ o, w.heap[b]? = some o ∧ C.h w F o
def cY (M : Mem) : List Nat := M.filterMap (·.1)
theorem ja {M : Mem} {b : Nat} : b ∈ cY M ↔ ∃ C, (some b, C) ∈ M := by
 unfold cY
 rw [List.mem_filterMap]
 constructor
 ·rintro ⟨⟨k, C⟩, h1, h2⟩
  obtain rfl : k = some b := h2
  exact ⟨C, h1⟩
 ·rintro ⟨C, h⟩; exact ⟨_, h, rfl⟩
def fj (w : World) (F : Blk) (W : List Nat) (R : VP → Mem → Prop) : Ending → World → Prop := fun e w' => ∃ v S M' F', e = .returned v ∧ R S M' ∧ Keep W w w' ∧ (∀ k, F k → F' k) ∧ (∀ k, F' k → wa F w w' k) ∧ S.h w' F' v ∧
 M'.Pairwise (fun x y => x.1 = none ∨ x.1 ≠ y.1) ∧ ∀ (b : Nat) (C : MP), (some b, C) ∈ M' → (w.heap.size ≤ b ∨ b ∈ W) ∧ b < w'.heap.size ∧ ¬ F' b ∧ ∃ o, w'.heap[b]? = some o ∧ C.h w' F' o
def CtrX (P : Program) (f : FuncId) (args : List VP) (M : Mem) (R : VP → Mem → Prop) : Prop :=
 fl P f ∧ ∀ (w : World) (F : Blk) (vs : List Value), (∀ k, F k → k < w.heap.size) → MemIn M w F → All2 args w F vs → Calls P f vs.toArray w (fj w F (cY M) R)
theorem CtrX.intro {f : FuncId} {fn : Func} {c : Code} {args : List VP} {M : Mem} {R : VP → Mem → Prop} (hf : P.funcs[f]? = some fn) (hb : fn.body = some c) (hn : (fn.name == "runtime.NumGoroutine") = false) {nt : Nat} (hnt : fn.ntmps = nt)
  (hsz : Nat.ble args.length nt = true) (h : ∀ w F, Tri ⟨w, F, cY M, nt⟩ P c (vo 0 args) M (bodyPost P fn (fj w F (cY M) R))) : CtrX P f args M R := by
 subst hnt
 refine ⟨⟨fn, hf, by simp [hb], hn⟩, fun w F vs hF hm hargs => ?_⟩
 have hlen := hargs.len
 have hsz' : args.length ≤ fn.ntmps := by simpa using Nat.le_of_ble_eq_true hsz
 refine calls_of_wp hf hb (h w F _ w F ?_)
 refine { defers := rfl, size := ?_, keep := Keep.refl _ _, f0 := fun _ h => h, fnew := fun _ h => .inl h, flt := hF, slots := ?_, mem := ⟨hm.apart, fun k C hk => ?_⟩ }
 ·simp; omega
 ·intro t S ht
  obtain ⟨_, h2⟩ := wW args 0 t S ht
  obtain ⟨v, hv, hS⟩ := hargs.get t S (by simpa using h2)
  have : (vs.toArray ++ Array.replicate (fn.ntmps - vs.toArray.size) undef).getD t undef = v := by
   have hlt : t < vs.length := by
    rcases Nat.lt_or_ge t vs.length with h | h
    ·exact h
    ·simp [List.getElem?_eq_none h] at hv
   have e : vs[t] = v := by rw [List.getElem?_eq_getElem hlt] at hv; exact Option.some.inj hv
   simp [Array.getElem?_append, hlt, e]
  rw [this]; exact hS
 ·obtain ⟨h1, h2, h3⟩ := hm.each k C hk
  exact ⟨.inr (ja.2 ⟨C, hk⟩), h1, h2, h3⟩
theorem CtrX.i {f : FuncId} {fn : Func} {c : Code} {args : List VP} {M : Mem} {R : VP → Mem → Prop} {nt : Nat} (hf : P.funcs[f]? = some fn) (hb : fn.body = some c) (hnt : fn.ntmps = nt)
    (h : ∀ w F, Tri ⟨w, F, cY M, nt⟩ P c (vo 0 args) M (bodyPost P fn (fj w F (cY M) R))) (hn : (fn.name == "runtime.NumGoroutine") = false := by kernel_rfl) (hsz : Nat.ble args.length nt = true := by exact rfl) : CtrX P f args M R := .intro hf hb hn hnt hsz h
theorem Ops.callX {g : FuncId} {xs : List Operand} {ts : Array TypeId} {args : List VP} {Mp Mr : Mem} {R : VP → Mem → Prop} {d : Nat} (hf : CtrX P g args Mp R) (hp : M.Perm (Mp ++ Mr)) (hx : HasL E Γ M xs args) (hd : Nat.blt d E.n = true)
    (kk : ∀ S M', R S M' → Ops E P ops Q rest ((d, S) :: Γ) (M' ++ Mr)) : Ops E P ops Q (⟨some d, .call ⟨.value (.func g), xs.toArray, ts⟩, ty, pos, after, none⟩ :: rest) Γ M := by
  intro a w F s0
  refine wpList_plain rfl fun K hK => ?_
  unfold Oper.wp
  have hr : (execOp a.eval (⟨some d, .call ⟨.value (.func g), xs.toArray, ts⟩, ty, pos, after, none⟩ : Oper)).run P w = .ok (.enter g (xs.map a.eval).toArray) w := by
    have := jM hf.1 (xs.map a.eval).toArray w
    simpa [go_sem] using this
  rw [hr]
  have hargs := hx.all s0
  have s : Sat E Γ (Mp ++ Mr) a w F := by
    obtain ⟨F', h⟩ := (Cv.perm (E := E) (Γ := Γ) hp) a w F s0
    exact { s0 with mem := ⟨h.mem.apart, fun b C hb => s0.mem.each b C (hp.mem_iff.2 hb)⟩ }
  have hapart := List.pairwise_append.1 s.mem.apart
  have hmp : MemIn Mp w F := ⟨hapart.1, fun b C hb => by
    obtain ⟨_, h2, h3, h4⟩ := s.mem.each b C (List.mem_append_left _ hb)
    exact ⟨h2, h3, h4⟩⟩
  refine (hf.2 w F _ s.flt hmp hargs).mono ?_
  rintro e w' ⟨v, S, M', F', rfl, hR, hk, hsub, hnew, hv, hap, heach⟩
  have hd' : d < E.n := by simpa [Nat.blt_eq] using hd
  have hW : ∀ b, b ∈ cY Mp → ¬ F b := fun b hb hF => by
    obtain ⟨C, hC⟩ := ja.1 hb
    exact (hmp.each b C hC).2.1 hF
  have hsame : ∀ b, F b → w'.heap[b]? = w.heap[b]? := fun b hb => hk.block b (s.flt b hb) (fun h => hW b h hb)
  have hown : ∀ b, b ∈ cY Mp → E.w0.heap.size ≤ b ∨ b ∈ E.W := fun b hb => by
    obtain ⟨C, hC⟩ := ja.1 hb
    exact (s.mem.each b C (List.mem_append_left _ hC)).1
  have hrest : ∀ (b : Nat) (C : MP), (some b, C) ∈ Mr → b ∉ cY Mp ∧ b < w.heap.size := fun b C hb => by
    refine ⟨fun h => ?_, (s.mem.each b C (List.mem_append_right _ hb)).2.1⟩
    obtain ⟨C', hC'⟩ := ja.1 h
    have := hapart.2.2 _ hC' _ hb
    rcases this with h | h
    · cases h
    · exact h rfl
  have s' : Sat E Γ (M' ++ Mr) a w' F' := {
    defers := s.defers, size := s.size
    keep := by
      refine ⟨hk.os.trans s.keep.os, hk.tape.trans s.keep.tape, hk.output.trans s.keep.output, Nat.le_trans s.keep.size hk.size, fun k hk0 hkW => ?_⟩
      rw [hk.block k (Nat.lt_of_lt_of_le hk0 s.keep.size) (fun h => by rcases hown k h with h' | h'; omega; exact hkW h')]
      exact s.keep.block k hk0 hkW
    f0 := fun b h => hsub b (s.f0 b h)
    fnew := fun b h => by
      rcases hnew b h with h1 | h1
      · rcases s.fnew b h1 with h2 | h2
        · exact .inl h2
        · exact .inr ⟨h2.1, Nat.lt_of_lt_of_le h2.2 hk.size⟩
      · exact .inr ⟨Nat.le_trans s.keep.size h1.1, h1.2⟩
    flt := fun b h => by
      rcases hnew b h with h1 | h1
      · exact Nat.lt_of_lt_of_le (s.flt b h1) hk.size
      · exact h1.2
    slots := fun t S h => S.mono _ _ _ _ _ (s.slots t S h) hsame hsub
    mem := by
      refine ⟨List.pairwise_append.2 ⟨hap, hapart.2.1, ?_⟩, ?_⟩
      · rintro ⟨k, C⟩ h1 ⟨k', C'⟩ h2
        cases k with
        | none => exact .inl rfl
        | some b =>
          refine .inr fun e => ?_
          subst e
          obtain ⟨g1, _⟩ := heach b C h1
          obtain ⟨g2, g3⟩ := hrest b C' h2
          rcases g1 with g1 | g1
          · omega
          · exact g2 g1
      · intro b C hb
        rcases List.mem_append.1 hb with h | h
        · obtain ⟨g1, g2, g3, g4⟩ := heach b C h
          refine ⟨?_, g2, g3, g4⟩
          rcases g1 with g1 | g1
          · exact .inl (Nat.le_trans s.keep.size g1)
          · exact hown b g1
        · obtain ⟨g1, g2, g3, o, g4, g5⟩ := s.mem.each b C (List.mem_append_right _ h)
          obtain ⟨r1, r2⟩ := hrest b C h
          refine ⟨g1, Nat.lt_of_lt_of_le g2 hk.size, fun hF => ?_, o, (hk.block b g2 r1).trans g4, C.mono _ _ _ _ _ g5 hsame hsub⟩
          rcases hnew b hF with h1 | h1
          · exact g3 h1
          · omega }
  exact hK _ _ (kk S M' hR _ _ _ (s'.put hd' hv))
theorem fS {fn : Func} {R : VP → Mem → Prop} {S : VP} {W : List Nat} {e : Exit} {a : Act} {w : World} {F : Blk} (he : e = .ret ∨ e = .normal) (s : Sat E Γ M a w F) (hw : E.W = W) {v : Value} (hv : (results fn a.tmps).run P w = .ok v w) (hS : S.h w F v) (hR : R S M) :
  bodyPost P fn (fj E.w0 E.F0 W R) e a w := by
 have hk := s.keep
 rw [hw] at hk
 have hb : a.defers = [] ∧ ∃ v, (results fn a.tmps).run P w = .ok v w ∧ fj E.w0 E.F0 W R (.returned v) w :=
  ⟨s.defers, _, hv, v, S, M, F, rfl, hR, hk, s.f0, fun k h => (s.fnew k h).imp id id, hS, s.mem.apart, fun b C hb => by
   obtain ⟨g1, g2, g3, g4⟩ := s.mem.each b C hb
   rw [hw] at g1
   exact ⟨g1, g2, g3, g4⟩⟩
 rcases he with rfl | rfl <;> exact hb
theorem yg {fn : Func} {r : ResultVar} {R : VP → Mem → Prop} {S : VP} {W : List Nat} {e : Exit} (he : e = .ret ∨ e = .normal) (hr : fn.results = #[r]) (hw : E.W = W) (h : ResL E P Γ M [r] [S]) (hR : R S M) : At E Γ M (bodyPost P fn (fj E.w0 E.F0 W R)) e := by
 intro a w F s
 obtain ⟨vs, h1, h2⟩ := qp hr h s
 match vs, h2 with
 | [v], h2 => exact fS he s hw (by simpa using h1) h2.1 hR
 | [], h2 => exact h2.elim
 | _ :: _ :: _, h2 => exact h2.2.elim
theorem zDK {fn : Func} {R : VP → Mem → Prop} {W : List Nat} {e : Exit} (he : e = .ret ∨ e = .normal) (hr : fn.results = #[]) (hw : E.W = W) (hR : R (zW []) M) : At E Γ M (bodyPost P fn (fj E.w0 E.F0 W R)) e := by
 intro a w F s
 obtain ⟨vs, h1, h2⟩ := qp (rs := []) hr .nil s
 cases vs with
 | nil => exact fS he s hw (by simpa using h1) (S := zW []) ⟨[], rfl, trivial⟩ hR
 | cons => exact h2.elim
theorem CtrX.toCtr {f : FuncId} {args : List VP} {R : VP → Mem → Prop} {S : VP} (h : CtrX P f args [] R) (hR : ∀ S' M', R S' M' → S' = S) : Ctr P f args S :=
 ⟨h.1, fun w F vs hF hargs => (h.2 w F vs hF ⟨List.Pairwise.nil, by simp⟩ hargs).mono (by
  rintro e w' ⟨v, S', M', F', rfl, hr, hk, hsub, hnew, hv, _⟩
  obtain rfl := hR S' M' hr
  exact ⟨v, rfl, hk, S'.mono _ _ _ _ _ hv (fun _ _ => rfl) hnew⟩)⟩
end
end Go.En
namespace Go.Nt
abbrev W : Nat := 18446744073709551616
def val : List Nat → Nat
 | [] => 0
 | x :: xs => x + W * val xs
def zQ : Nat → Nat → List Nat
 | 0, _ => []
 | k + 1, n => n % W :: zQ k (n / W)
def zA (n : Nat) : List Nat := if h : n = 0 then [] else n % W :: zA (n / W)
termination_by n
decreasing_by exact Nat.div_lt_self (Nat.pos_of_ne_zero h) (by decide)
def Ok (xs : List Nat) : Prop := ∀ x ∈ xs, x < W
theorem zH : zA 0 = [] := by unfold zA; simp
theorem vf {n : Nat} (h : n ≠ 0) : zA n = n % W :: zA (n / W) := by rw [zA]; simp [h]
theorem ia : (List.length (zA 0)) = 0 := by rw [zH]; rfl
theorem wA {n : Nat} (h : n ≠ 0) : (List.length (zA n)) = (List.length (zA (n / W))) + 1 := by rw [vf h]; rfl
theorem zB (n : Nat) : val (zA n) = n := by
  induction n using Nat.strongRecOn with
  | _ n ih =>
    by_cases h : n = 0
    · subst h; rw [zH]; rfl
    · rw [vf h, val, ih _ (Nat.div_lt_self (Nat.pos_of_ne_zero h) (by decide))]
      have := Nat.mod_add_div n W; omega
theorem aK (n : Nat) : Ok (zA n) := by
  induction n using Nat.strongRecOn with
  | _ n ih =>
    by_cases h : n = 0
    · subst h; rw [zH]; intro x hx; simp at hx
    · rw [vf h]; intro x hx
      rcases List.mem_cons.1 hx with rfl | hx
      · exact Nat.mod_lt _ (by decide)
      · exact ih _ (Nat.div_lt_self (Nat.pos_of_ne_zero h) (by decide)) x hx
theorem zt : ∀ (k n : Nat), (zQ k n).length = k
 | 0, _ => rfl
 | k + 1, n => by simp [zQ, zt k]
theorem jL : ∀ (k n : Nat), Ok (zQ k n)
  | 0, _ => fun x hx => by simp [zQ] at hx
  | k + 1, n => fun x hx => by
    rcases List.mem_cons.1 hx with rfl | hx
    · exact Nat.mod_lt _ (by decide)
    · exact jL k _ x hx
theorem xk : ∀ (k n : Nat), val (zQ k n) = n % W ^ k
  | 0, n => by simp [zQ, val, Nat.mod_one]
  | k + 1, n => by
    rw [zQ, val, xk k, Nat.pow_succ, Nat.mul_comm (W ^ k) W, Nat.mod_mul]
theorem mb {xs : List Nat} (h : Ok xs) : val xs < W ^ xs.length := by
  induction xs with
  | nil => simp [val]
  | cons x xs ih =>
    have h1 := h x (by simp)
    have h2 := ih (fun y hy => h y (by simp [hy]))
    rw [val, List.length_cons, Nat.pow_succ]
    have : W * val xs + W ≤ W * W ^ xs.length := by rw [← Nat.mul_succ]; exact Nat.mul_le_mul_left _ h2
    rw [Nat.mul_comm (W ^ xs.length)]; omega
theorem jT (xs ys : List Nat) : val (xs ++ ys) = val xs + W ^ xs.length * val ys := by
 induction xs with
 | nil => simp [val]
 | cons x xs ih => rw [List.cons_append, val, ih, val, List.length_cons, Nat.pow_succ]; grind
theorem gS {xs ys : List Nat} (h : Ok xs) (k : Ok ys) : Ok (xs ++ ys) := fun x hx => by
 rcases List.mem_append.1 hx with h1 | h1
 ·exact h x h1
 ·exact k x h1
theorem oC : ∀ {xs ys : List Nat}, Ok xs → Ok ys → xs.length = ys.length → val xs = val ys → xs = ys
  | [], [], _, _, _, _ => rfl
  | x :: xs, y :: ys, h1, h2, hl, hv => by
    have hx := h1 x (by simp)
    have hy := h2 y (by simp)
    simp only [val] at hv
    have e : x = y := by
      have := congrArg (· % W) hv
      simp only [Nat.add_mul_mod_self_left] at this
      rwa [Nat.mod_eq_of_lt hx, Nat.mod_eq_of_lt hy] at this
    subst e
    have e2 : val xs = val ys := Nat.eq_of_mul_eq_mul_left (by decide : 0 < W) (by omega)
    rw [oC (fun z hz => h1 z (by simp [hz])) (fun z hz => h2 z (by simp [hz])) (by simpa using hl) e2]
theorem vS {xs : List Nat} {k n : Nat} (h : Ok xs) (hl : xs.length = k) (hv : val xs = n % W ^ k) : xs = zQ k n :=
 oC h (jL _ _) (by rw [hl, zt]) (by rw [hv, xk])
theorem qy (n : Nat) : n < W ^ (List.length (zA n)) := by have := mb (aK n); rwa [zB] at this
theorem aS {n k : Nat} (h : n < W ^ k) : (List.length (zA n)) ≤ k := by
  induction k generalizing n with
  | zero => have : n = 0 := by simpa using h
            subst this; rw [ia]; exact Nat.le_refl _
  | succ k ih =>
    by_cases h0 : n = 0
    · subst h0; rw [ia]; omega
    · rw [wA h0]
      have : n / W < W ^ k := by rw [Nat.div_lt_iff_lt_mul (by decide)]; rwa [Nat.pow_succ] at h
      have := ih this; omega
theorem qI {m n : Nat} (h : m ≤ n) : (List.length (zA m)) ≤ (List.length (zA n)) := aS (Nat.lt_of_le_of_lt h (qy n))
theorem fF {n : Nat} (h : n ≠ 0) : W ^ ((List.length (zA n)) - 1) ≤ n := by
 apply Classical.byContradiction; intro hc
 have := aS (Nat.lt_of_not_le hc)
 have := wA h; omega
theorem cg {xs : List Nat} (h : Ok xs) : (List.length (zA (val xs))) ≤ xs.length := aS (mb h)
def dig (n i : Nat) : Nat := n / W ^ i % W
theorem qr (n i : Nat) : dig n i < W := Nat.mod_lt _ (by decide)
theorem qC (n i : Nat) : (zA n).getD i 0 = dig n i := by
  induction i generalizing n with
  | zero =>
    by_cases h : n = 0
    · subst h; rw [zH]; simp [dig]
    · rw [vf h]; simp [dig]
  | succ i ih =>
    by_cases h : n = 0
    · subst h; rw [zH]; simp [dig]
    · rw [vf h, List.getD_cons_succ, ih, dig, dig, Nat.div_div_eq_div_mul, Nat.pow_succ, Nat.mul_comm W]
theorem uD {xs : List Nat} (h : Ok xs) (i : Nat) : xs.getD i 0 = dig (val xs) i := by
  induction xs generalizing i with
  | nil => simp [dig, val]
  | cons x xs ih =>
    have hx := h x (by simp)
    cases i with
    | zero => simp [dig, val, Nat.mod_eq_of_lt hx]
    | succ i =>
      rw [List.getD_cons_succ, ih (fun y hy => h y (by simp [hy])), dig, dig, val, Nat.pow_succ, Nat.mul_comm (W ^ i), ← Nat.div_div_eq_div_mul]
      rw [Nat.add_mul_div_left _ _ (by decide), Nat.div_eq_of_lt hx, Nat.zero_add]
theorem aL (k n : Nat) : zQ (k + 1) n = zQ k n ++ [dig n k] := by
  induction k generalizing n with
  | zero => simp [zQ, dig]
  | succ k ih =>
    rw [zQ, ih, zQ, List.cons_append, dig, dig, Nat.div_div_eq_div_mul, Nat.pow_succ, Nat.mul_comm W]
theorem wU (n k : Nat) : n % W ^ (k + 1) = n % W ^ k + W ^ k * dig n k := by
 rw [Nat.pow_succ, Nat.mod_mul, dig]
theorem bg (n : Nat) : zA n = zQ ((List.length (zA n))) n := vS (aK n) rfl (by rw [zB, Nat.mod_eq_of_lt (qy n)])
theorem bH {n : Nat} (h : n ≠ 0) : dig n ((List.length (zA n)) - 1) ≠ 0 := by
 intro h0
 have h1 := fF h
 have h2 := qy n
 have e : (List.length (zA n)) - 1 + 1 = (List.length (zA n)) := by have := wA h; omega
 have h3 : n / W ^ ((List.length (zA n)) - 1) < W := by rw [Nat.div_lt_iff_lt_mul (Nat.pow_pos (by decide)), Nat.mul_comm, ← Nat.pow_succ]; rwa [show ((List.length (zA n)) - 1).succ = (List.length (zA n)) from e]
 rw [dig, Nat.mod_eq_of_lt h3] at h0
 have := (Nat.div_eq_zero_iff.1 h0).resolve_left (Nat.ne_of_gt (Nat.pow_pos (by decide)))
 omega
theorem wg {n i : Nat} (h : (List.length (zA n)) ≤ i) : dig n i = 0 := by
 rw [dig, Nat.div_eq_of_lt (Nat.lt_of_lt_of_le (qy n) (Nat.pow_le_pow_right (by decide) h))]; rfl
theorem fq {xs : List Nat} {k : Nat} (h : Ok xs) (hk : k ≤ xs.length) (h0 : ∀ i, k ≤ i → xs.getD i 0 = 0) (ht : k = 0 ∨ xs.getD (k - 1) 0 ≠ 0) : xs.take k = zA (val xs) := by
  have hv : val xs < W ^ k := by
    clear ht
    induction xs generalizing k with
    | nil => simp [val]; exact Nat.pow_pos (by decide)
    | cons x xs ih =>
      cases k with
      | zero =>
        have hx := h0 0 (Nat.le_refl _)
        simp at hx
        have := ih (fun y hy => h y (by simp [hy])) (Nat.zero_le _) (fun i _ => by simpa using h0 (i + 1) (by omega))
        simp at this
        simp [val, hx, this]
      | succ k =>
        have := ih (fun y hy => h y (by simp [hy])) (by simpa using hk) (fun i hi => by simpa using h0 (i + 1) (by omega))
        have hx := h x (by simp)
        rw [val, Nat.pow_succ, Nat.mul_comm (W ^ k)]
        have h3 : W * val xs + W ≤ W * W ^ k := by rw [← Nat.mul_succ]; exact Nat.mul_le_mul_left _ this
        omega
  have hn : (List.length (zA (val xs))) = k := by
    have h1 := aS hv
    rcases ht with rfl | ht
    · omega
    · rcases Nat.lt_or_ge ((List.length (zA (val xs)))) k with h2 | h2
      · exfalso; apply ht; rw [uD h]; exact wg (by omega)
      · omega
  have hok : Ok (xs.take k) := fun x hx => h x (List.mem_of_mem_take hx)
  have htv : val (xs.take k) = val xs := by
    have e := jT (xs.take k) (xs.drop k)
    rw [List.take_append_drop] at e
    have hlen : (xs.take k).length = k := by simp; omega
    rw [hlen] at e
    have hd : val (xs.drop k) = 0 := by
      rcases Nat.eq_zero_or_pos (val (xs.drop k)) with h1 | h1
      · exact h1
      · have := Nat.le_mul_of_pos_right (W ^ k) h1; omega
    rw [hd] at e; omega
  rw [bg, hn]
  exact vS hok (by simp; omega) (by rw [htv, Nat.mod_eq_of_lt hv])
theorem cy {n : Nat} (h : n < W) : zA n = if n = 0 then [] else [n] := by
 by_cases h0 : n = 0
 ·subst h0; rw [zH]; rfl
 ·rw [if_neg h0, vf h0, Nat.mod_eq_of_lt h, Nat.div_eq_of_lt h, zH]
theorem dL {n : Nat} (h : (List.length (zA n)) ≤ 1) : n < W := by
 have := qy n
 have h2 : W ^ (List.length (zA n)) ≤ W ^ 1 := Nat.pow_le_pow_right (by decide) h
 simp at h2; omega
theorem xz (k : Nat) : val (List.replicate k 0) = 0 := by
 induction k with
 | zero => rfl
 | succ k ih => rw [List.replicate_succ, val, ih]; rfl
def aC (m n : Nat) : Int := if m < n then -1 else if n < m then 1 else 0
end Go.Nt
namespace Go.Nt
theorem ol {a b : Nat} (ha : a < 4294967296) (hb : b < 4294967296) : a * b ≤ 18446744065119617025 := by
 have : a * b ≤ 4294967295 * 4294967295 := Nat.mul_le_mul (by omega) (by omega)
 omega
theorem lJ {x y : Nat} (hx : x < 18446744073709551616) (hy : y < 18446744073709551616) :
  x % 2 ^ 32 * (y % 2 ^ 32) ≤ 18446744065119617025 ∧ x / 2 ^ 32 * (y % 2 ^ 32) ≤ 18446744065119617025 ∧ x % 2 ^ 32 * (y / 2 ^ 32) ≤ 18446744065119617025 ∧ x / 2 ^ 32 * (y / 2 ^ 32) ≤ 18446744065119617025 :=
 ⟨ol (by omega) (by omega), ol (by omega) (by omega), ol (by omega) (by omega), ol (by omega) (by omega)⟩
theorem tP (x y : Nat) : x / 2 ^ 32 * (y / 2 ^ 32) + (x / 2 ^ 32 * (y % 2 ^ 32) + x % 2 ^ 32 * (y % 2 ^ 32) / 2 ^ 32) / 2 ^ 32 +
  ((x / 2 ^ 32 * (y % 2 ^ 32) + x % 2 ^ 32 * (y % 2 ^ 32) / 2 ^ 32) % 2 ^ 32 + x % 2 ^ 32 * (y / 2 ^ 32)) / 2 ^ 32 = x * y / 18446744073709551616 := by
 have hx : x = x % 2 ^ 32 + 4294967296 * (x / 2 ^ 32) := by omega
 have hy : y = y % 2 ^ 32 + 4294967296 * (y / 2 ^ 32) := by omega
 generalize x / 2 ^ 32 = x1 at *
 generalize y / 2 ^ 32 = y1 at *
 generalize x % 2 ^ 32 = x0 at *
 generalize y % 2 ^ 32 = y0 at *
 have e : x * y = x0 * y0 + 4294967296 * (x1 * y0 + x0 * y1) + 18446744073709551616 * (x1 * y1) := by rw [hx, hy]; grind
 rw [e]
 generalize x0 * y0 = p at *
 generalize x1 * y0 = q at *
 generalize x0 * y1 = r at *
 generalize x1 * y1 = s at *
 omega
theorem rn {m n : Nat} (h : (List.length (zA m)) = (List.length (zA n))) : m / W ^ (List.length (zA m)) = n / W ^ (List.length (zA m)) := by
 rw [Nat.div_eq_of_lt (qy m), h, Nat.div_eq_of_lt (qy n)]
theorem xK (n k : Nat) (hk : 0 < k) : n / W ^ (k - 1) = W * (n / W ^ k) + dig n (k - 1) := by
 have e : W ^ k = W ^ (k - 1) * W := by rw [← Nat.pow_succ]; congr 1; omega
 rw [e, ← Nat.div_div_eq_div_mul, dig]
 exact (Nat.div_add_mod _ _).symm
theorem uc {m n k : Nat} (hk : 0 < k) (h : m / W ^ k = n / W ^ k) (hd : (zA m).getD (k - 1) 0 = (zA n).getD (k - 1) 0) : m / W ^ (k - 1) = n / W ^ (k - 1) := by
 rw [qC, qC] at hd
 rw [xK m k hk, xK n k hk, h, hd]
theorem gY {m n k : Nat} (h : m / W ^ k < n / W ^ k) : m < n := by
 apply Classical.byContradiction; intro hc
 have := Nat.div_le_div_right (c := W ^ k) (Nat.le_of_not_lt hc); omega
theorem zFL {m n k : Nat} (hk : 0 < k) (h : m / W ^ k = n / W ^ k) (hd : (zA m).getD (k - 1) 0 < (zA n).getD (k - 1) 0) : -1 = aC m n := by
 rw [qC, qC] at hd
 have : m < n := gY (k := k - 1) (by rw [xK m k hk, xK n k hk, h]; omega)
 unfold aC; rw [if_pos this]
theorem zFM {m n k : Nat} (hk : 0 < k) (h : m / W ^ k = n / W ^ k) (hd : (zA n).getD (k - 1) 0 < (zA m).getD (k - 1) 0) : 1 = aC m n := by
 rw [qC, qC] at hd
 have : n < m := gY (k := k - 1) (by rw [xK m k hk, xK n k hk, h]; omega)
 unfold aC; rw [if_neg (by omega), if_pos this]
theorem zFN {m n k : Nat} (h : m / W ^ k = n / W ^ k) (hk : k = 0) : 0 = aC m n := by
 subst hk; simp at h; subst h; simp [aC]
theorem lR {m n : Nat} (h : (List.length (zA m)) < (List.length (zA n))) : m < n := by
 apply Classical.byContradiction; intro hc
 have := qI (Nat.le_of_not_lt hc); omega
theorem nh {m n : Nat} (h : (List.length (zA m)) < (List.length (zA n))) : -1 = aC m n := by unfold aC; rw [if_pos (lR h)]
theorem ni {m n : Nat} (h : (List.length (zA n)) < (List.length (zA m))) : 1 = aC m n := by have := lR h; unfold aC; rw [if_neg (by omega), if_pos this]
end Go.Nt
namespace Go.Nt
def xG (N i m : Nat) : List Nat := zQ i N ++ List.replicate (m - i) 0
theorem bT (N m : Nat) : List.replicate m 0 = xG N 0 m := rfl
theorem ai {N i m : Nat} (h : i ≤ m) : (xG N i m).length = m := by simp [xG, zt]; omega
theorem eK (N m : Nat) : xG N m m = zQ m N := by simp [xG]
theorem wL {N i m d : Nat} (h : i < m) (hd : d = dig N i) : (xG N i m).set i d = xG N (i + 1) m := by
 subst hd
 unfold xG
 rw [List.set_append_right _ _ (by rw [zt]; exact Nat.le_refl _), zt, Nat.sub_self, aL]
 have : m - i = (m - (i + 1)) + 1 := by omega
 rw [this, List.replicate_succ, List.set_cons_zero]
 simp
theorem qj {N k : Nat} (h : N < W ^ k) : zA (val (zQ k N)) = zA N := by rw [xk, Nat.mod_eq_of_lt h]
theorem zy (k : Nat) : 0 < W ^ k := Nat.pow_pos (by decide)
theorem aR {a b : Nat} (h : a ≤ b) : W ^ a ≤ W ^ b := Nat.pow_le_pow_right (by decide) h
theorem vR {n k : Nat} (h : (List.length (zA n)) ≤ k) : n < W ^ k := Nat.lt_of_lt_of_le (qy n) (aR h)
def car (p q i : Nat) : Nat := (p % W ^ i + q % W ^ i) / W ^ i
theorem mJ (p q : Nat) : 0 = car p q 0 := by simp [car, Nat.mod_one]
theorem nn (p q i : Nat) : car p q i ≤ 1 := by
 have h1 := Nat.mod_lt p (zy i)
 have h2 := Nat.mod_lt q (zy i)
 have : car p q i < 2 := by unfold car; rw [Nat.div_lt_iff_lt_mul (zy i)]; omega
 omega
theorem kS (p q i : Nat) : (p + q) / W ^ i = p / W ^ i + q / W ^ i + car p q i := by
 have h1 := Nat.mod_add_div p (W ^ i)
 have h2 := Nat.mod_add_div q (W ^ i)
 have e : p + q = (p % W ^ i + q % W ^ i) + W ^ i * (p / W ^ i + q / W ^ i) := by rw [Nat.mul_add]; omega
 rw [e, Nat.add_mul_div_left _ _ (zy i)]
 unfold car; omega
theorem xT (n i : Nat) : n / W ^ i = W * (n / W ^ (i + 1)) + dig n i := by
 have := xK n (i + 1) (by omega); simpa using this
theorem kT (p q i : Nat) : (dig p i + dig q i + car p q i) % W = dig (p + q) i := by
 rw [show dig (p + q) i = (p + q) / W ^ i % W from rfl, kS]
 unfold dig
 generalize p / W ^ i = a
 generalize q / W ^ i = b
 generalize car p q i = c
 unfold W; omega
theorem pX (p q i : Nat) : (dig p i + dig q i + car p q i) / W = car p q (i + 1) := by
 have h1 := kS p q i
 have h2 := kS p q (i + 1)
 have h3 := xT p i
 have h4 := xT q i
 have h5 := xT (p + q) i
 have h6 := kT p q i
 generalize car p q i = c at *
 generalize car p q (i + 1) = c' at *
 generalize p / W ^ (i + 1) = a' at *
 generalize q / W ^ (i + 1) = b' at *
 generalize (p + q) / W ^ (i + 1) = s' at *
 generalize p / W ^ i = a at *
 generalize q / W ^ i = b at *
 generalize (p + q) / W ^ i = s at *
 unfold W at *; omega
theorem zBZ {p q k : Nat} (hp : p < W ^ k) (hq : q < W ^ k) : car p q k = dig (p + q) k := by
 have h := kS p q k
 rw [Nat.div_eq_of_lt hp, Nat.div_eq_of_lt hq] at h
 have := nn p q k
 unfold dig; rw [h]; simp only [Nat.zero_add]; rw [Nat.mod_eq_of_lt (Nat.lt_of_le_of_lt this (by decide))]
theorem uy {p q k : Nat} (hp : p < W ^ k) (hq : q < W ^ k) : p + q < W ^ (k + 1) := by
 rw [Nat.pow_succ]; generalize W ^ k = w at *; unfold W; omega
def bor (p q i : Nat) : Nat := if p % W ^ i < q % W ^ i then 1 else 0
theorem mO (p q : Nat) : 0 = bor p q 0 := by simp [bor, Nat.mod_one]
theorem kQ (p q i : Nat) : bor p q i ≤ 1 := by unfold bor; split <;> omega
theorem cX (p q i : Nat) : (if dig p i < dig q i + bor p q i then 1 else 0) = bor p q (i + 1) := by
 have h1 := wU p i
 have h2 := wU q i
 have h3 := Nat.mod_lt p (zy i)
 have h4 := Nat.mod_lt q (zy i)
 unfold bor
 rw [h1, h2]
 generalize p % W ^ i = a at *
 generalize q % W ^ i = b at *
 generalize dig p i = x at *
 generalize dig q i = y at *
 generalize W ^ i = w at *
 rcases Nat.lt_trichotomy x y with h | h | h
 ·have : w * x + w ≤ w * y := by rw [← Nat.mul_succ]; exact Nat.mul_le_mul_left _ h
  rw [if_pos (by omega), if_pos (by omega)]
 ·subst h
  by_cases hab : a < b
  ·rw [if_pos hab, if_pos (by omega), if_pos (by omega)]
  ·rw [if_neg hab, if_neg (by omega), if_neg (by omega)]
 ·have : w * y + w ≤ w * x := by rw [← Nat.mul_succ]; exact Nat.mul_le_mul_left _ h
  rw [if_neg (by split <;> omega), if_neg (by omega)]
theorem sQ {p q : Nat} (h : q ≤ p) (i : Nat) : (p - q) / W ^ i + q / W ^ i + bor p q i = p / W ^ i := by
 have h1 := Nat.mod_add_div p (W ^ i)
 have h2 := Nat.mod_add_div q (W ^ i)
 have h3 := Nat.mod_lt p (zy i)
 have h4 := Nat.mod_lt q (zy i)
 have h5 := Nat.mod_add_div (p - q) (W ^ i)
 have h6 := Nat.mod_lt (p - q) (zy i)
 unfold bor
 generalize p % W ^ i = a at *
 generalize q % W ^ i = b at *
 generalize (p - q) % W ^ i = c at *
 generalize p / W ^ i = x at *
 generalize q / W ^ i = y at *
 generalize (p - q) / W ^ i = z at *
 have hw := zy i
 generalize W ^ i = w at *
 have e : c + w * z + (b + w * y) = a + w * x := by omega
 have e2 : c + b + w * (z + y) = a + w * x := by rw [Nat.mul_add]; omega
 split
 ·have hz : w * (z + y) < w * x := by
   apply Classical.byContradiction; intro hc
   have : c + b ≤ a := by omega
   omega
  have h7 : z + y < x := Nat.lt_of_mul_lt_mul_left hz
  have h8 : x ≤ z + y + 1 := by
   apply Classical.byContradiction; intro hc
   have : w * (z + y + 2) ≤ w * x := Nat.mul_le_mul_left _ (by omega)
   rw [Nat.mul_add] at this; omega
  omega
 ·have h7 : z + y < x + 1 := by
   apply Nat.lt_of_mul_lt_mul_left (a := w); rw [Nat.mul_add w x]; omega
  have h8 : x < z + y + 1 := by
   apply Classical.byContradiction; intro hc
   have : w * (z + y + 1) ≤ w * x := Nat.mul_le_mul_left _ (by omega)
   rw [Nat.mul_add w (z + y)] at this
   omega
  omega
theorem oK {p q : Nat} (h : q ≤ p) (i : Nat) : (dig p i + W - dig q i - bor p q i) % W = dig (p - q) i := by
 have h1 := sQ h i
 have h2 := sQ h (i + 1)
 have h3 := xT p i
 have h4 := xT q i
 have h5 := xT (p - q) i
 have h6 := cX p q i
 have h7 := qr (p - q) i
 have h8 := qr p i
 have h9 := qr q i
 have := kQ p q i
 generalize p / W ^ (i + 1) = a' at *
 generalize q / W ^ (i + 1) = b' at *
 generalize (p - q) / W ^ (i + 1) = s' at *
 generalize p / W ^ i = a at *
 generalize q / W ^ i = b at *
 generalize (p - q) / W ^ i = s at *
 generalize bor p q i = e at *
 generalize bor p q (i + 1) = e' at *
 unfold W at *
 split at h6 <;> omega
theorem uI {N i m d k : Nat} (hk : i + 1 = m) (hi : k = i) (hd : d = dig N i) : (((xG N i m).set k d).drop 0).take m = zQ m N := by
 subst hi
 rw [wL (by omega) hd, hk, eK, List.drop_zero]
 exact List.take_of_length_le (by rw [zt]; exact Nat.le_refl _)
theorem gp {N i m : Nat} (hk : i = m) : ((xG N i m).drop 0).take m = zQ m N := by
 subst hk
 rw [eK, List.drop_zero]
 exact List.take_of_length_le (by rw [zt]; exact Nat.le_refl _)
theorem cS {m n : Nat} : aC m n < 0 ↔ m < n := by unfold aC; split <;> (try split) <;> omega
theorem yX {p q k : Nat} (h : p < W ^ k) : p - q < W ^ k := by omega
def mix (k N' N m : Nat) : List Nat := zQ k N' ++ zQ (m - k) (N / W ^ k)
theorem jB {k N' N m : Nat} (h : k ≤ m) : (mix k N' N m).length = m := by simp [mix, zt]; omega
theorem vp : ∀ {k N j : Nat}, j < k → (zQ k N).getD j 0 = dig N j
  | k + 1, N, 0, _ => by simp [zQ, dig]
  | k + 1, N, j + 1, h => by
    rw [zQ, List.getD_cons_succ, vp (by omega), dig, dig, Nat.div_div_eq_div_mul, Nat.pow_succ, Nat.mul_comm W]
theorem lN {k N' N m j : Nat} (h : k ≤ j) (hj : j < m) : (mix k N' N m).getD j 0 = dig N j := by
 unfold mix
 rw [List.getD_eq_getElem?_getD, List.getElem?_append_right (by rw [zt]; exact h), zt, ← List.getD_eq_getElem?_getD, vp (by omega), dig, dig,
  Nat.div_div_eq_div_mul, ← Nat.pow_add]
 congr 3; omega
theorem di {k N' N m d j : Nat} (h : k < m) (hj : j = k) (hd : d = dig N' k) : (mix k N' N m).set j d = mix (k + 1) N' N m := by
 subst hd hj
 unfold mix
 rw [List.set_append_right _ _ (by rw [zt]; exact Nat.le_refl _), zt, Nat.sub_self, aL]
 have : m - j = (m - (j + 1)) + 1 := by omega
 rw [this, zQ, List.set_cons_zero, Nat.div_div_eq_div_mul, ← Nat.pow_succ]
 simp
theorem ma : ∀ {k N N' : Nat}, N % W ^ k = N' % W ^ k → zQ k N = zQ k N'
 | k, N, N', h => vS (jL _ _) (zt _ _) (by rw [xk, h])
theorem fB {k N m : Nat} (h : k ≤ m) : mix k N N m = zQ m N := by
 refine vS ?_ (jB h) ?_
 ·exact gS (jL _ _) (jL _ _)
 ·unfold mix
  rw [jT, xk, xk, zt]
  obtain ⟨j, rfl⟩ : ∃ j, m = k + j := ⟨m - k, by omega⟩
  rw [Nat.add_sub_cancel_left, Nat.pow_add, Nat.mod_mul]
theorem wV {k N' N m : Nat} (h : k ≤ m) (he : N' % W ^ k = N % W ^ k) : zQ m N = mix k N' N m := by
 rw [← fB h]; unfold mix; rw [ma he]
theorem dk {k N' N m : Nat} (h : k ≤ m) (he : N / W ^ k = N' / W ^ k) : mix k N' N m = zQ m N' := by
 rw [← fB h]; unfold mix; rw [he]
def wD (n A x i : Nat) : Nat := (n % W ^ i + A % W ^ i * x) / W ^ i
theorem gW (n A x : Nat) : 0 = wD n A x 0 := by simp [wD, Nat.mod_one]
theorem cF (n A x i : Nat) : wD n A x i ≤ x := by
 have h1 := Nat.mod_lt n (zy i)
 have h2 : A % W ^ i + 1 ≤ W ^ i := Nat.mod_lt A (zy i)
 have h3 := Nat.mul_le_mul_right x h2
 rw [Nat.succ_mul] at h3
 have : wD n A x i < x + 1 := by unfold wD; rw [Nat.div_lt_iff_lt_mul (zy i), Nat.add_mul, Nat.one_mul, Nat.mul_comm x]; omega
 omega
theorem ig (n A x i : Nat) : (n + A * x) / W ^ i = n / W ^ i + A / W ^ i * x + wD n A x i := by
 have h1 := Nat.mod_add_div n (W ^ i)
 have h2 := Nat.mod_add_div A (W ^ i)
 have e : n + A * x = (n % W ^ i + A % W ^ i * x) + W ^ i * (n / W ^ i + A / W ^ i * x) := by
  have : A * x = A % W ^ i * x + W ^ i * (A / W ^ i * x) := by
   rw [← Nat.mul_assoc, ← Nat.add_mul, h2]
  rw [Nat.mul_add, this]; omega
 rw [e, Nat.add_mul_div_left _ _ (zy i)]
 unfold wD; omega
theorem dD (n A x i : Nat) : dig n i + dig A i * x + wD n A x i = dig (n + A * x) i + W * wD n A x (i + 1) := by
 have h1 := ig n A x i
 have h2 := ig n A x (i + 1)
 have h3 := xT n i
 have h4 := xT A i
 have h5 := xT (n + A * x) i
 rw [h4, Nat.add_mul, Nat.mul_assoc] at h1
 generalize A / W ^ (i + 1) * x = a' at *
 generalize dig A i * x = e at *
 generalize (n + A * x) / W ^ (i + 1) = s' at *
 generalize (n + A * x) / W ^ i = s at *
 generalize n / W ^ (i + 1) = b' at *
 generalize n / W ^ i = b at *
 generalize dig (n + A * x) i = t at *
 generalize wD n A x (i + 1) = u at *
 generalize wD n A x i = v at *
 subst h2 h3
 rw [h1, Nat.mul_add, Nat.mul_add] at h5
 omega
theorem vw (N n o i : Nat) (h : N / W ^ o = n) : dig N (o + i) = dig n i := by
 subst h; rw [dig, dig, Nat.div_div_eq_div_mul, ← Nat.pow_add]
theorem bo (N o D : Nat) : (N + W ^ o * D) / W ^ o = N / W ^ o + D := Nat.add_mul_div_left _ _ (zy o)
theorem dB (N o D : Nat) : (N + W ^ o * D) % W ^ o = N % W ^ o := Nat.add_mul_mod_self_left _ _ _
theorem dg {n A x k : Nat} (hn : n < W ^ k) (hA : A < W ^ k) : (n + A * x) / W ^ k = wD n A x k := by
 rw [ig, Nat.div_eq_of_lt hn, Nat.div_eq_of_lt hA]; omega
theorem sk {x y o c t u : Nat} (hx : x < W) (hy : y < W) (ho : o < W) (hc : c < W) (ht : t < W) (he : o + y * x + c = t + W * u) :
  ((x * y % 18446744073709551616 + o) % 18446744073709551616 + c) % 18446744073709551616 = t ∧
   x * y / 18446744073709551616 + (x * y % 18446744073709551616 + o) / 18446744073709551616 + ((x * y % 18446744073709551616 + o) % 18446744073709551616 + c) / 18446744073709551616 = u ∧ u < 18446744073709551616 := by
 have hxy : x * y ≤ 18446744073709551615 * 18446744073709551615 := Nat.mul_le_mul (by unfold W at hx; omega) (by unfold W at hy; omega)
 rw [Nat.mul_comm y x] at he
 generalize x * y = p at *
 unfold W at *
 omega
theorem ci (A B i : Nat) : A * (B % W ^ (i + 1)) = A * (B % W ^ i) + W ^ i * (A * dig B i) := by
 rw [wU, Nat.mul_add]; congr 1; rw [Nat.mul_left_comm]
theorem nE {A B i k : Nat} (hA : A < W ^ k) : A * (B % W ^ i) < W ^ (i + k) := by
 have hB := Nat.mod_lt B (zy i)
 rw [Nat.add_comm, Nat.pow_add]
 exact Nat.mul_lt_mul'' hA hB
theorem mr {N' N m o i : Nat} (h : o + i < m) : (mix (o + i) N' N m).getD (o + i) 0 = dig (N / W ^ o) i := by
 rw [lN (Nat.le_refl _) h, vw _ _ _ _ rfl]
theorem sn {N A x m o i d : Nat} (h : o + i < m) (hd : d = dig (N / W ^ o + A * x) i) : (mix (o + i) (N + W ^ o * (A * x)) N m).set (o + i) d = mix (o + (i + 1)) (N + W ^ o * (A * x)) N m :=
 di h rfl (by rw [hd, vw _ _ _ _ (bo _ _ _)])
theorem jt (N o k : Nat) : N / W ^ (o + k) = N / W ^ o / W ^ k := by rw [Nat.pow_add, Nat.div_div_eq_div_mul]
theorem zDN {N A x m o i k : Nat} (hk : k = i) (hm : o + i + 1 ≤ m) (hn : N / W ^ o < W ^ i) (hA : A < W ^ i) (hx : x < W) :
  (mix (o + i) (N + W ^ o * (A * x)) N m).set (o + k) (wD (N / W ^ o) A x i) = zQ m (N + W ^ o * (A * x)) := by
 subst hk
 have h1 := dg (x := x) hn hA
 have h2 := cF (N / W ^ o) A x k
 rw [sn (by omega) (by rw [dig, h1, Nat.mod_eq_of_lt (by omega)])]
 refine dk (by omega) ?_
 have e1 : N / W ^ (o + (k + 1)) = 0 := by rw [jt]; exact Nat.div_eq_of_lt (Nat.lt_of_lt_of_le hn (aR (Nat.le_succ k)))
 have e2 : (N + W ^ o * (A * x)) / W ^ (o + (k + 1)) = 0 := by
  rw [jt, bo, Nat.pow_succ, ← Nat.div_div_eq_div_mul, h1]; exact Nat.div_eq_of_lt (by omega)
 rw [e1, e2]
theorem tN (A m : Nat) : List.replicate m 0 = zQ m (A * (val [] % W ^ 0)) := by
 refine vS (fun x hx => ?_) (by simp) ?_
 ·rw [List.mem_replicate] at hx; rw [hx.2]; decide
 ·rw [xz]; simp [Nat.mod_one]
theorem rJ (A B m : Nat) : List.replicate m 0 = zQ m (A * (B % W ^ 0)) := by
 rw [tN A m]; simp [Nat.mod_one]
theorem zEH {A B i k : Nat} (hA : A < W ^ k) : A * (B % W ^ i) / W ^ i < W ^ k := by
 rw [Nat.div_lt_iff_lt_mul (zy i), ← Nat.pow_add, Nat.add_comm]; exact nE hA
theorem zEG {A B m : Nat} (h : (List.length (zA A)) + (List.length (zA B)) + 1 = m) : zA (val (zQ m (A * (B % W ^ (List.length (zA B)))))) = zA (A * B) := by
 rw [Nat.mod_eq_of_lt (qy B), qj]
 have h1 := qy A
 have h2 := qy B
 have h3 : A * B < W ^ (List.length (zA A)) * W ^ (List.length (zA B)) := Nat.mul_lt_mul'' h1 h2
 rw [← Nat.pow_add] at h3
 exact Nat.lt_of_lt_of_le h3 (aR (by omega))
end Go.Nt
namespace Go.Nt
theorem zDZ {a b r : Nat} (h : a < 2 ^ r) : a ||| 2 ^ r * b = a + 2 ^ r * b := by
 rw [Nat.or_comm, ← Nat.two_pow_add_eq_or_of_lt h, Nat.add_comm]
theorem ux {a b r : Nat} (h : b < 2 ^ r) : b ||| a * 2 ^ r = b + a * 2 ^ r := by rw [Nat.mul_comm a]; exact zDZ h
theorem cz {r : Nat} (h : r ≤ 64) : 2 ^ (64 - r) * 2 ^ r = W := by
 rw [← Nat.pow_add, Nat.sub_add_cancel h]
theorem av (k : Nat) : 2 ^ k = W ^ (k / 64) * 2 ^ (k % 64) := by
 have : W = 2 ^ 64 := rfl
 rw [this, ← Nat.pow_mul, ← Nat.pow_add]; congr 1; omega
theorem gU {d r : Nat} (h : r ≤ 64) : d * 2 ^ r % W = d % 2 ^ (64 - r) * 2 ^ r := by
 rw [← cz h, Nat.mul_mod_mul_right]
theorem fA {d r : Nat} (h : r ≤ 64) : d % 2 ^ (64 - r) * 2 ^ r + 2 ^ r ≤ W := by
 have : d % 2 ^ (64 - r) + 1 ≤ 2 ^ (64 - r) := Nat.mod_lt _ (Nat.pow_pos (by decide))
 rw [← cz h, ← Nat.succ_mul]; exact Nat.mul_le_mul_right _ this
theorem eV {n d r : Nat} (hr : r ≤ 64) (hn : n < 2 ^ r) : n ||| d * 2 ^ r % W = (n + d * 2 ^ r) % W ∧ (n + d * 2 ^ r) / W = d / 2 ^ (64 - r) := by
 have h1 := gU (d := d) hr
 have h2 := fA (d := d) hr
 have h3 : d * 2 ^ r / W = d / 2 ^ (64 - r) := by rw [← cz hr, Nat.mul_div_mul_right _ _ (Nat.pow_pos (by decide))]
 rw [h1, ux hn]
 rw [← h1] at h2 ⊢
 generalize d * 2 ^ r = D at *
 generalize 2 ^ r = p at *
 rw [← h3]
 clear h1 h3
 unfold W at *
 constructor <;> omega
theorem eW (A k i : Nat) : A % W ^ (i + 1) * 2 ^ k = A % W ^ i * 2 ^ k + W ^ (k / 64 + i) * (dig A i * 2 ^ (k % 64)) := by
 rw [wU, Nat.add_mul]
 congr 1
 rw [av k, Nat.pow_add]
 generalize 2 ^ (k % 64) = r
 generalize W ^ (k / 64) = w
 grind
theorem iS (A k i : Nat) : A % W ^ i * 2 ^ k / W ^ (k / 64 + i) < 2 ^ (k % 64) := by
 have h := Nat.mod_lt A (zy i)
 rw [Nat.div_lt_iff_lt_mul (zy _), av k, Nat.pow_add]
 have hw := zy (k / 64)
 have hr : 0 < 2 ^ (k % 64) := Nat.pow_pos (by decide)
 generalize 2 ^ (k % 64) = r at *
 generalize W ^ (k / 64) = w at *
 have : A % W ^ i * (w * r) < W ^ i * (w * r) := Nat.mul_lt_mul_of_pos_right h (Nat.mul_pos hw hr)
 have e : r * (w * W ^ i) = W ^ i * (w * r) := by grind
 rw [e]; exact this
theorem cc {A k i : Nat} : A % W ^ i * 2 ^ k / W ^ (k / 64 + i) < W :=
 Nat.lt_of_lt_of_le (iS A k i) (by have := Nat.pow_le_pow_right (n := 2) (by decide) (by omega : k % 64 ≤ 64); simpa [W] using this)
theorem yb {A k i m : Nat} (h : k / 64 + i < m) : (zQ m (A % W ^ i * 2 ^ k)).getD (k / 64 + i) 0 = A % W ^ i * 2 ^ k / W ^ (k / 64 + i) := by
 rw [vp h, dig, Nat.mod_eq_of_lt cc]
theorem we (N k : Nat) : N / W ^ (k + 1) = N / W ^ k / W := by rw [Nat.pow_succ, Nat.div_div_eq_div_mul]
theorem aA (n i : Nat) : dig n i = n / W ^ i % W := rfl
theorem mm {A k i : Nat} : (A % W ^ (i + 1) * 2 ^ k) / W ^ (k / 64 + i + 1) = dig A i / 2 ^ (64 - k % 64) := by
 rw [we, eW, bo, (eV (by omega) (iS A k i)).2]
theorem ko {A k i m v : Nat} (h : k / 64 + i < m) (hv : v = A % W ^ i * 2 ^ k / W ^ (k / 64 + i) ||| dig A i * 2 ^ (k % 64) % W) :
  (zQ m (A % W ^ i * 2 ^ k)).set (k / 64 + i) v = mix (k / 64 + i + 1) (A % W ^ (i + 1) * 2 ^ k) (A % W ^ i * 2 ^ k) m := by
 rw [wV (Nat.le_of_lt h) (N' := A % W ^ (i + 1) * 2 ^ k) (by rw [eW, dB]), di h rfl]
 rw [hv, (eV (by omega) (iS A k i)).1, aA (A % W ^ (i + 1) * 2 ^ k), eW, bo]
theorem sb {A k i m : Nat} (h : k / 64 + i < m) (hk : k % 64 = 0) : mix (k / 64 + i + 1) (A % W ^ (i + 1) * 2 ^ k) (A % W ^ i * 2 ^ k) m = zQ m (A % W ^ (i + 1) * 2 ^ k) := by
 refine dk h ?_
 rw [mm, we, Nat.div_eq_of_lt cc, hk, Nat.div_eq_of_lt]
 have := qr A i
 simpa [W] using this
theorem sa {A k i m v j : Nat} (h : k / 64 + i + 1 < m) (hj : j = k / 64 + i + 1) (hk : 0 < k % 64) (hv : v = dig A i / 2 ^ (64 - k % 64)) :
  (mix (k / 64 + i + 1) (A % W ^ (i + 1) * 2 ^ k) (A % W ^ i * 2 ^ k) m).set j v = zQ m (A % W ^ (i + 1) * 2 ^ k) := by
 have h1 : dig A i / 2 ^ (64 - k % 64) < W := Nat.lt_of_le_of_lt (Nat.div_le_self _ _) (qr A i)
 rw [di h hj (by rw [hv, aA (A % W ^ (i + 1) * 2 ^ k), mm, Nat.mod_eq_of_lt h1])]
 refine dk h ?_
 rw [we _ (k / 64 + i + 1), we _ (k / 64 + i + 1), mm, Nat.div_eq_of_lt h1, we, Nat.div_eq_of_lt cc, Nat.zero_div]
theorem sc (A k m : Nat) : List.replicate m 0 = zQ m (A % W ^ 0 * 2 ^ k) := by
 rw [Nat.pow_zero, Nat.mod_one, Nat.zero_mul]
 exact vS (fun x hx => by rw [List.mem_replicate] at hx; rw [hx.2]; decide) (by simp) (by rw [xz]; simp)
theorem ym (k : Nat) : 2 ^ k ≤ W ^ (k / 64 + 1) := by
 rw [av, Nat.pow_succ]
 refine Nat.mul_le_mul_left _ ?_
 have := Nat.pow_le_pow_right (n := 2) (by decide) (by omega : k % 64 ≤ 64); simpa [W] using this
theorem zDI {A k m : Nat} (h : (List.length (zA A)) + k / 64 + 1 = m) : zA (val (zQ m (A % W ^ (List.length (zA A)) * 2 ^ k))) = zA (A * 2 ^ k) := by
 rw [Nat.mod_eq_of_lt (qy A), qj]
 rw [← h, Nat.add_assoc, Nat.pow_add]
 have h1 := qy A
 exact Nat.lt_of_lt_of_le (Nat.mul_lt_mul_of_pos_right h1 (Nat.pow_pos (by decide))) (Nat.mul_le_mul_left _ (ym k))
theorem oP (X i : Nat) {r : Nat} (hr : r ≤ 64) : dig X i / 2 ^ r ||| dig X (i + 1) * 2 ^ (64 - r) % W = dig (X / 2 ^ r) i := by
 have e1 : X / 2 ^ r / W ^ i = X / W ^ i / 2 ^ r := by rw [Nat.div_div_eq_div_mul, Nat.mul_comm, ← Nat.div_div_eq_div_mul]
 have h0 := qr X i
 have e2 := xT X i
 have e3 := xT X (i + 1)
 have e4 := cz hr
 have h4 : 64 - (64 - r) = r := by omega
 have h5 := gU (d := dig X (i + 1)) (r := 64 - r) (by omega)
 rw [show dig (X / 2 ^ r) i = X / 2 ^ r / W ^ i % W from rfl, e1, e2, e3]
 have hp : 0 < 2 ^ r := Nat.pow_pos (by decide)
 have h6 : dig X i / 2 ^ r < 2 ^ (64 - r) := by rw [Nat.div_lt_iff_lt_mul hp, e4]; exact h0
 have h7 := fA (d := dig X (i + 1)) (r := 64 - r) (by omega)
 rw [h5, ux h6, ← h5]
 rw [← h5] at h7
 have e5 : (W * (W * (X / W ^ (i + 1 + 1)) + dig X (i + 1)) + dig X i) / 2 ^ r = dig X i / 2 ^ r + dig X (i + 1) * 2 ^ (64 - r) + W * (X / W ^ (i + 1 + 1) * 2 ^ (64 - r)) := by
  have : W * (W * (X / W ^ (i + 1 + 1)) + dig X (i + 1)) + dig X i = dig X i + 2 ^ r * (2 ^ (64 - r) * (W * (X / W ^ (i + 1 + 1)) + dig X (i + 1))) := by
   rw [← Nat.mul_assoc, Nat.mul_comm (2 ^ r), e4]; omega
  rw [this, Nat.add_mul_div_left _ _ hp]
  generalize 2 ^ (64 - r) = q at *
  generalize X / W ^ (i + 1 + 1) = y
  generalize dig X (i + 1) = z
  generalize dig X i / 2 ^ r = t
  grind
 rw [e5, Nat.add_mul_mod_self_left]
 generalize dig X (i + 1) * 2 ^ (64 - r) = D at *
 generalize dig X i / 2 ^ r = t at *
 generalize 2 ^ (64 - r) = q at *
 clear e1 e2 e3 e4 e5 h5
 unfold W at *
 omega
theorem fV (A w : Nat) : (zA A).drop w = zA (A / W ^ w) := by
  induction w generalizing A with
  | zero => simp
  | succ w ih =>
    by_cases h : A = 0
    · subst h; rw [zH]; simp [zH]
    · rw [vf h, List.drop_succ_cons, ih, Nat.div_div_eq_div_mul, Nat.pow_succ, Nat.mul_comm W]
theorem zED (A w : Nat) : (List.length (zA (A / W ^ w))) = (List.length (zA A)) - w := by rw [← fV]; simp
theorem gz (A k : Nat) : A / W ^ (k / 64) / 2 ^ (k % 64) = A / 2 ^ k := by rw [av k, Nat.div_div_eq_div_mul]
theorem sY {N i m v e : Nat} (h : i < m) (hv : v ||| e = dig N i) : ((xG N i m).set i v).set i ((((xG N i m).set i v).getD i 0) ||| e) = xG N (i + 1) m := by
 have hl : (xG N i m).length = m := ai (by omega)
 have e1 : ((xG N i m).set i v).getD i 0 = v := by
  rw [List.getD_eq_getElem?_getD, List.getElem?_set_self (by rw [hl]; exact h)]; rfl
 rw [e1, List.set_set, wL h hv]
theorem pu {X i m r : Nat} (hr : r < 64) (h : i < m) : ((xG (X / 2 ^ r) i m).set i (dig X i / 2 ^ r)).set i ((((xG (X / 2 ^ r) i m).set i (dig X i / 2 ^ r)).getD i 0) ||| dig X (i + 1) * 2 ^ (64 - r) % W) = xG (X / 2 ^ r) (i + 1) m :=
 sY h (oP X i (by omega))
theorem pw {X i m r : Nat} (hr : r < 64) (h : i < m) (hm : m = (List.length (zA X))) (h0 : 0 < r → m ≤ i + 1) : (xG (X / 2 ^ r) i m).set i (dig X i / 2 ^ r) = xG (X / 2 ^ r) (i + 1) m := by
 refine wL h ?_
 rw [← oP X i (Nat.le_of_lt hr)]
 rcases Nat.eq_zero_or_pos r with h1 | h1
 ·subst h1
  have : dig X (i + 1) * 2 ^ (64 - 0) % W = 0 := by show _ * W % W = 0; exact Nat.mul_mod_left _ _
  rw [this, Nat.or_zero]
 ·rw [wg (n := X) (i := i + 1) (by rw [← hm]; exact h0 h1)]; simp
theorem sZ {A k : Nat} (h : (List.length (zA A)) ≤ k / 64) : [] = zA (A / 2 ^ k) := by
 rw [← gz, Nat.div_eq_of_lt (vR h), Nat.zero_div, zH]
theorem ya {A k m : Nat} (h : m = (List.length (zA (A / W ^ (k / 64))))) : zA (val (zQ m (A / W ^ (k / 64) / 2 ^ (k % 64)))) = zA (A / 2 ^ k) := by
 rw [qj, gz]
 exact Nat.lt_of_le_of_lt (Nat.div_le_self _ _) (h ▸ qy _)
theorem zHL {A k : Nat} (hA : A ≠ 0) : ¬ (zA A ++ List.replicate k 0).getD ((((List.length (zA A)) : Nat) : Int) - 1).toNat 0 = 0 := by
 intro h
 have n1 := wA hA
 have e : ((((List.length (zA A)) : Nat) : Int) - 1).toNat = (List.length (zA A)) - 1 := by omega
 rw [e, List.getD_eq_getElem?_getD, List.getElem?_append_left (by omega), ← List.getD_eq_getElem?_getD, qC] at h
 exact bH hA h
theorem sC {A : Nat} (h : zA A ≠ []) : A ≠ 0 := fun e => h (by rw [e, zH])
end Go.Nt
namespace Go.Nt
theorem ab {x : Nat} (h : x < 18446744073709551616) : bitLen x ≤ 64 := by
 have h1 := (bitLen_spec x).2
 rcases Nat.lt_or_ge 64 (bitLen x) with h2 | h2
 ·have h3 : x ≠ 0 := by intro e; subst e; simp [bitLen] at h2
  have h4 := h1 h3
  have h5 : 2 ^ 64 ≤ 2 ^ (bitLen x - 1) := Nat.pow_le_pow_right (by decide) (by omega)
  omega
 ·exact h2
theorem jk {x : Nat} (h : x ≠ 0) : 0 < bitLen x := by unfold bitLen; rw [if_neg h]; omega
theorem lead {y s : Nat} (hy : y < 18446744073709551616) (h0 : y ≠ 0) (hs : s = 64 - bitLen y) : 9223372036854775808 ≤ y * 2 ^ s ∧ y * 2 ^ s < 18446744073709551616 := by
 have h1 := bitLen_spec y
 have h2 := ab hy
 have h3 := jk h0
 have h4 := h1.2 h0
 constructor
 ·have : 2 ^ (bitLen y - 1) * 2 ^ s ≤ y * 2 ^ s := Nat.mul_le_mul_right _ h4
  rw [← Nat.pow_add, show bitLen y - 1 + s = 63 by omega] at this
  exact this
 ·have : y * 2 ^ s < 2 ^ bitLen y * 2 ^ s := Nat.mul_lt_mul_of_pos_right h1.1 (Nat.pow_pos (by decide))
  rw [← Nat.pow_add, show bitLen y + s = 64 by omega] at this
  exact this
structure Gs (u u1 v1 v0 q r : Nat) : Prop where
 e : u = q * v1 + r
 le : (u * 4294967296 + u1) / (v1 * 4294967296 + v0) ≤ q
 q : q ≤ 4294967297
 r : r < 4294967296
structure Hv (u u1 v1 v0 : Nat) : Prop where
 a : 2147483648 ≤ v1
 b : v1 < 4294967296
 c : v0 < 4294967296
 d : u < v1 * 4294967296 + v0
 f : u1 < 4294967296
theorem Gs.start {u u1 v1 v0 : Nat} (h : Hv u u1 v1 v0) : Gs u u1 v1 v0 (u / v1) (u - u / v1 * v1) := by
 obtain ⟨h1, h2, h3, h4, h5⟩ := h
 have e1 := Nat.div_add_mod u v1
 have e2 := Nat.mod_lt u (show 0 < v1 by omega)
 rw [Nat.mul_comm] at e1
 refine ⟨by omega, ?_, ?_, by omega⟩
 ·rw [Nat.le_div_iff_mul_le (by omega)]
  have h6 := Nat.div_mul_le_self (u * 4294967296 + u1) (v1 * 4294967296 + v0)
  generalize (u * 4294967296 + u1) / (v1 * 4294967296 + v0) = Q at *
  rw [Nat.mul_add, ← Nat.mul_assoc] at h6
  generalize Q * v1 = p at *
  generalize Q * v0 = p' at *
  omega
 ·rcases Nat.lt_or_ge 4294967297 (u / v1) with h6 | h6
  ·have : 4294967298 * v1 ≤ u / v1 * v1 := Nat.mul_le_mul_right _ h6
   omega
  ·exact h6
theorem Gs.next {u u1 v1 v0 q r : Nat} (h : Hv u u1 v1 v0) (g : Gs u u1 v1 v0 q r) (hc : 4294967296 ≤ q ∨ 4294967296 * r + u1 < q * v0) :
  u = (q - 1) * v1 + (r + v1) ∧ (u * 4294967296 + u1) / (v1 * 4294967296 + v0) ≤ q - 1 ∧ q - 1 ≤ 4294967296 ∧ 1 ≤ q := by
 obtain ⟨h1, h2, h3, h4, h5⟩ := h
 obtain ⟨g1, g2, g3, g4⟩ := g
 have hq : 1 ≤ q := by
  rcases hc with hc | hc
  ·omega
  ·rcases Nat.eq_zero_or_pos q with h | h
   ·subst h; omega
   ·exact h
 have hlt : (u * 4294967296 + u1) / (v1 * 4294967296 + v0) < q := by
  rw [Nat.div_lt_iff_lt_mul (by omega), Nat.mul_add, ← Nat.mul_assoc]
  rcases hc with hc | hc
  ·have h6 : 4294967296 * (v1 * 4294967296 + v0) ≤ q * (v1 * 4294967296 + v0) := Nat.mul_le_mul_right _ hc
   rw [Nat.mul_add q, ← Nat.mul_assoc] at h6
   omega
  ·omega
 refine ⟨?_, by omega, by omega, hq⟩
 obtain ⟨k, rfl⟩ : ∃ k, q = k + 1 := ⟨q - 1, by omega⟩
 rw [Nat.succ_mul] at g1
 simp only [Nat.add_sub_cancel]
 omega
theorem Gs.exit {u u1 v1 v0 q r : Nat} (h : Hv u u1 v1 v0) (g : Gs u u1 v1 v0 q r) (hc : q * v0 ≤ 4294967296 * r + u1) : q = (u * 4294967296 + u1) / (v1 * 4294967296 + v0) := by
 obtain ⟨h1, h2, h3, h4, h5⟩ := h
 obtain ⟨g1, g2, g3, g4⟩ := g
 refine Nat.le_antisymm ?_ g2
 rw [Nat.le_div_iff_mul_le (by omega), Nat.mul_add, ← Nat.mul_assoc]
 omega
theorem Gs.exit2 {u u1 v1 v0 q r : Nat} (h : Hv u u1 v1 v0) (g1 : u = q * v1 + r) (g2 : (u * 4294967296 + u1) / (v1 * 4294967296 + v0) ≤ q) (g3 : q ≤ 4294967296) (hr : 4294967296 ≤ r) :
  q = (u * 4294967296 + u1) / (v1 * 4294967296 + v0) := by
 obtain ⟨h1, h2, h3, h4, h5⟩ := h
 refine Nat.le_antisymm ?_ g2
 rw [Nat.le_div_iff_mul_le (by omega), Nat.mul_add, ← Nat.mul_assoc]
 have : q * v0 ≤ 4294967296 * 4294967295 := Nat.mul_le_mul g3 (by omega)
 omega
theorem tM {q v : Nat} (h1 : q < 4294967296) (h2 : v < 4294967296) : q * v < 18446744073709551616 := Nat.mul_lt_mul'' h1 h2
theorem ny {a u p r : Nat} (h : a * 4294967296 + u = p + r) (hr : r < 18446744073709551616) (hp : u < 4294967296) :
  ((a * 4294967296 % 18446744073709551616 + u) % 18446744073709551616 + (18446744073709551616 - p % 18446744073709551616)) % 18446744073709551616 = r := by omega
theorem yJ {q1 q0 : Nat} (h1 : q1 < 4294967296) (h0 : q0 < 4294967296) : (q1 * 4294967296 % 18446744073709551616 + q0) % 18446744073709551616 = q1 * 4294967296 + q0 := by omega
theorem ne (t y : Nat) : t = t / y * y + t % y := by have := Nat.div_add_mod t y; rw [Nat.mul_comm] at this; omega
structure D64 (hi lo y s Y A U1 U0 v1 v0 : Nat) : Prop where
 ks : s ≤ 64
 yl : Y < 18446744073709551616
 un32 : hi * 2 ^ s % 18446744073709551616 ||| lo / 2 ^ (64 - s) = A
 al : A < 18446744073709551616
 kv1 : Y / 4294967296 = v1
 kv0 : Y % 4294967296 = v0
 u1 : lo * 2 ^ s % 18446744073709551616 / 4294967296 = U1
 u0 : lo * 2 ^ s % 18446744073709551616 % 4294967296 = U0
 hv : Hv A U1 v1 v0
 kY : v1 * 4294967296 + v0 = Y
 hv2 : Hv ((A * 4294967296 + U1) % Y) U0 v1 v0
 q1 : (A * 4294967296 + U1) / Y < 4294967296
 q0 : ((A * 4294967296 + U1) % Y * 4294967296 + U0) / Y < 4294967296
 r1 : (A * 4294967296 + U1) % Y < 18446744073709551616
 r0 : ((A * 4294967296 + U1) % Y * 4294967296 + U0) % Y < 18446744073709551616
 quo : (A * 4294967296 + U1) / Y * 4294967296 + ((A * 4294967296 + U1) % Y * 4294967296 + U0) / Y = (hi * 18446744073709551616 + lo) / y
 rem : ((A * 4294967296 + U1) % Y * 4294967296 + U0) % Y / 2 ^ s = (hi * 18446744073709551616 + lo) % y
theorem zGR {u Y n : Nat} (h : u < Y) (h1 : 9223372036854775808 ≤ Y) (h2 : Y < 18446744073709551616) (h3 : n < 4294967296) : Hv u n (Y / 4294967296) (Y % 4294967296) :=
 ⟨by omega, by omega, by omega, by omega, h3⟩
theorem zDE (Y : Nat) : Y / 4294967296 * 4294967296 + Y % 4294967296 = Y := by omega
theorem d64 {hi lo y : Nat} (hlo : lo < 18446744073709551616) (hy : y < 18446744073709551616) (h : hi < y) :
  ∃ s Y A U1 U0 v1 v0, s = 64 - bitLen y ∧ Y = y * 2 ^ s ∧ D64 hi lo y s Y A U1 U0 v1 v0 := by
 obtain ⟨s, hs⟩ : ∃ s, s = 64 - bitLen y := ⟨_, rfl⟩
 have hl := lead hy (by omega) hs
 have hs64 : s ≤ 64 := by omega
 have hp : 0 < 2 ^ s := Nat.pow_pos (by decide)
 have hd : lo / 2 ^ (64 - s) < 2 ^ s := by
  rw [Nat.div_lt_iff_lt_mul (Nat.pow_pos (by decide)), Nat.mul_comm, cz hs64]; exact hlo
 have hsw := eV (d := hi) hs64 hd
 have h1 : hi * 2 ^ s + 2 ^ s ≤ y * 2 ^ s := by rw [← Nat.succ_mul]; exact Nat.mul_le_mul_right _ h
 have h32 : hi * 2 ^ s % 18446744073709551616 ||| lo / 2 ^ (64 - s) = lo / 2 ^ (64 - s) + hi * 2 ^ s := by
  rw [Nat.or_comm]
  refine hsw.1.trans (Nat.mod_eq_of_lt ?_)
  unfold W; omega
 obtain ⟨Y, hY⟩ : ∃ Y, Y = y * 2 ^ s := ⟨_, rfl⟩
 have hlo2 : lo * 2 ^ s / 18446744073709551616 = lo / 2 ^ (64 - s) := by
  have := cz hs64
  rw [show (18446744073709551616 : Nat) = W from rfl, ← this, Nat.mul_div_mul_right _ _ hp]
 have eN : (hi * 18446744073709551616 + lo) * 2 ^ s = (lo / 2 ^ (64 - s) + hi * 2 ^ s) * 18446744073709551616 + lo * 2 ^ s % 18446744073709551616 := by
  have := Nat.div_add_mod (lo * 2 ^ s) 18446744073709551616
  rw [hlo2] at this
  rw [Nat.add_mul, Nat.mul_right_comm, Nat.add_mul]; omega
 have eq1 : (hi * 18446744073709551616 + lo) * 2 ^ s / Y = (hi * 18446744073709551616 + lo) / y := by rw [hY, Nat.mul_div_mul_right _ _ hp]
 have er1 : (hi * 18446744073709551616 + lo) * 2 ^ s % Y = (hi * 18446744073709551616 + lo) % y * 2 ^ s := by rw [hY, Nat.mul_mod_mul_right]
 rw [eN] at eq1 er1
 rw [← hY] at hl h1
 obtain ⟨A, hA⟩ : ∃ A, A = lo / 2 ^ (64 - s) + hi * 2 ^ s := ⟨_, rfl⟩
 rw [← hA] at h32 eq1 er1
 have hAY : A < Y := by omega
 have hn0 : lo * 2 ^ s % 18446744073709551616 < 18446744073709551616 := Nat.mod_lt _ (by decide)
 obtain ⟨n0, hn⟩ : ∃ n0, n0 = lo * 2 ^ s % 18446744073709551616 := ⟨_, rfl⟩
 rw [← hn] at eq1 er1 hn0
 have hT : (A * 4294967296 + n0 / 4294967296) % Y < Y := Nat.mod_lt _ (by omega)
 have eT := Nat.div_add_mod (A * 4294967296 + n0 / 4294967296) Y
 have e3 : A * 18446744073709551616 + n0 = (A * 4294967296 + n0 / 4294967296) % Y * 4294967296 + n0 % 4294967296 + Y * ((A * 4294967296 + n0 / 4294967296) / Y * 4294967296) := by
  rw [← Nat.mul_assoc]; omega
 rw [e3, Nat.add_mul_div_left _ _ (by omega)] at eq1
 rw [e3, Nat.add_mul_mod_self_left] at er1
 have hq1 : (A * 4294967296 + n0 / 4294967296) / Y < 4294967296 := by
  rw [Nat.div_lt_iff_lt_mul (by omega)]; omega
 have hq0 : ((A * 4294967296 + n0 / 4294967296) % Y * 4294967296 + n0 % 4294967296) / Y < 4294967296 := by
  rw [Nat.div_lt_iff_lt_mul (by omega)]; omega
 have hr0 := Nat.mod_lt ((A * 4294967296 + n0 / 4294967296) % Y * 4294967296 + n0 % 4294967296) (by omega : Y > 0)
 have b0 : n0 % 4294967296 < 4294967296 := Nat.mod_lt _ (by decide)
 have b1 : n0 / 4294967296 < 4294967296 := by rw [Nat.div_lt_iff_lt_mul (by decide)]; exact hn0
 refine ⟨s, Y, A, n0 / 4294967296, n0 % 4294967296, Y / 4294967296, Y % 4294967296, hs, hY, ⟨hs64, hl.2, h32, Nat.lt_trans hAY hl.2, rfl, rfl, by rw [hn], by rw [hn], zGR hAY hl.1 hl.2 b1, zDE Y, zGR hT hl.1 hl.2 b0, hq1, hq0, Nat.lt_trans hT hl.2, Nat.lt_trans hr0 hl.2, ?_, ?_⟩⟩
 ·rw [← eq1, Nat.add_comm]
 ·rw [er1, Nat.mul_div_cancel _ hp]
/-! ### division by a word -/
theorem mi (A Q j : Nat) : zA A ++ List.replicate j 0 = mix ((List.length (zA A))) A Q ((List.length (zA A))) ++ List.replicate j 0 := by
 congr 1
 unfold mix
 rw [Nat.sub_self]
 conv => lhs; rw [bg]
 simp [zQ]
theorem lu {xs ys : List Nat} {i : Nat} (h : i < xs.length) : (xs ++ ys).getD i 0 = xs.getD i 0 := by
 rw [List.getD_eq_getElem?_getD, List.getElem?_append_left h, ← List.getD_eq_getElem?_getD]
theorem zAC {k N' N m j : Nat} (h : j < k) : (mix k N' N m).getD j 0 = dig N' j := by
 unfold mix; rw [lu (by rw [zt]; exact h), vp h]
theorem lO {A Q m j k d : Nat} (hk : 0 < k) (hm : k ≤ m) (hd : d = dig Q (k - 1)) : (mix k A Q m ++ List.replicate j 0).set (k - 1) d = mix (k - 1) A Q m ++ List.replicate j 0 := by
 obtain ⟨i, rfl⟩ : ∃ i, k = i + 1 := ⟨k - 1, by omega⟩
 simp only [Nat.add_sub_cancel] at *
 rw [List.set_append_left _ _ (by rw [jB hm]; omega)]
 congr 1
 unfold mix
 rw [List.set_append_left _ _ (by rw [zt]; omega), aL, List.set_append_right _ _ (by rw [zt]; exact Nat.le_refl _), zt, Nat.sub_self, List.set_cons_zero, hd]
 have : m - i = (m - (i + 1)) + 1 := by omega
 rw [this, zQ, Nat.div_div_eq_div_mul, ← Nat.pow_succ]
 simp [dig]
theorem kz {r d x : Nat} (hx : 0 < x) (h : r < x) (hd : d < 18446744073709551616) : (r * 18446744073709551616 + d) / x < 18446744073709551616 := by
 rw [Nat.div_lt_iff_lt_mul hx]; omega
theorem eS {A x k : Nat} (hx : 0 < x) (hk : 0 < k) : (A / W ^ k % x * 18446744073709551616 + dig A (k - 1)) / x = dig (A / x) (k - 1) ∧ (A / W ^ k % x * 18446744073709551616 + dig A (k - 1)) % x = A / W ^ (k - 1) % x := by
 have e := xK A k hk
 have hd := qr A (k - 1)
 have h1 := Nat.div_add_mod (A / W ^ k) x
 have h2 := Nat.mod_lt (A / W ^ k) hx
 have e2 : A / W ^ (k - 1) = (A / W ^ k % x * 18446744073709551616 + dig A (k - 1)) + x * (18446744073709551616 * (A / W ^ k / x)) := by
  rw [e, Nat.mul_left_comm]
  generalize x * (A / W ^ k / x) = p at *
  unfold W at *
  omega
 constructor
 ·rw [aA (A / x), Nat.div_div_eq_div_mul, Nat.mul_comm x, ← Nat.div_div_eq_div_mul, e2, Nat.add_mul_div_left _ _ hx, show W = 18446744073709551616 from rfl, Nat.add_mul_mod_self_left]
  symm
  apply Nat.mod_eq_of_lt
  exact kz hx h2 hd
 ·rw [e2, Nat.add_mul_mod_self_left]
theorem sT {A x j n : Nat} (hn : n = (List.length (zA A))) : ((mix 0 A (A / x) ((List.length (zA A))) ++ List.replicate j 0).drop 0).take n = zQ ((List.length (zA A))) (A / x) := by
 subst hn
 rw [List.drop_zero, List.take_left' (by rw [jB (Nat.zero_le _)])]
 simp [mix, zQ]
theorem ph (A x : Nat) : zA (val (zQ ((List.length (zA A))) (A / x))) = zA (A / x) := qj (Nat.lt_of_le_of_lt (Nat.div_le_self _ _) (qy A))
theorem zEE {A x B : Nat} (h : (List.length (zA A)) ≤ B) : (List.length (zA (A / x % W ^ (List.length (zA A))))) ≤ B := Nat.le_trans (qI (Nat.le_trans (Nat.mod_le _ _) (Nat.div_le_self _ _))) h
theorem wr {A : Nat} (h : zA A = []) : A = 0 := by rw [← zB A, h]; rfl
end Go.Nt
namespace Go.Nt
set_option maxRecDepth 8000
def gss (u2 u1 u0 v1 v0 : Nat) : Nat := min (((u2 * 18446744073709551616 + u1) * 18446744073709551616 + u0) / (v1 * 18446744073709551616 + v0)) 18446744073709551615
structure Gw (u2 u1 u0 v1 v0 q r : Nat) : Prop where
 e : u2 * 18446744073709551616 + u1 = q * v1 + r
 le : gss u2 u1 u0 v1 v0 ≤ q
 q : q ≤ 18446744073709551615
 r : r < 36893488147419103232
theorem zAX {u2 u1 u0 v1 v0 : Nat} (h : v1 < u2) (h0 : v0 < 18446744073709551616) (h1 : 0 < v1) : 18446744073709551615 = gss u2 u1 u0 v1 v0 := by
 unfold gss
 rw [Nat.min_eq_right]
 rw [Nat.le_div_iff_mul_le (by omega)]
 omega
theorem zEO {p p' t u0 w : Nat} (h : p * w + p' ≤ t * w + u0) (h0 : u0 < w) : p ≤ t := by
 apply Nat.le_of_lt_succ
 apply Nat.lt_of_mul_lt_mul_right (a := w)
 rw [Nat.succ_mul]; omega
theorem zEN {p p' r u0 w : Nat} (h : r * w + u0 < p') : (p + r) * w + u0 < p * w + p' := by rw [Nat.add_mul]; omega
theorem Gw.same {u2 u1 u0 v1 v0 : Nat} (h : u2 = v1) (h1 : u1 < 18446744073709551616) (h2 : v1 < 18446744073709551616) : Gw u2 u1 u0 v1 v0 18446744073709551615 (u1 + v1) :=
 ⟨by omega, Nat.min_le_right _ _, Nat.le_refl _, by omega⟩
theorem Gw.start {u2 u1 u0 v1 v0 : Nat} (h : u2 < v1) (h1 : u1 < 18446744073709551616) (h0 : u0 < 18446744073709551616) (h2 : v1 < 18446744073709551616) :
  Gw u2 u1 u0 v1 v0 ((u2 * 18446744073709551616 + u1) / v1) ((u2 * 18446744073709551616 + u1) % v1) := by
 have e1 := ne (u2 * 18446744073709551616 + u1) v1
 have e2 := Nat.mod_lt (u2 * 18446744073709551616 + u1) (show 0 < v1 by omega)
 refine ⟨e1, ?_, ?_, by omega⟩
 ·refine Nat.le_trans (Nat.min_le_left _ _) ?_
  rw [Nat.le_div_iff_mul_le (by omega)]
  have h6 := Nat.div_mul_le_self ((u2 * 18446744073709551616 + u1) * 18446744073709551616 + u0) (v1 * 18446744073709551616 + v0)
  rw [Nat.mul_add, ← Nat.mul_assoc] at h6
  exact zEO h6 h0
 ·exact Nat.le_of_lt_succ (kz (r := u2) (d := u1) (by omega) h h1)
theorem Gw.next {u2 u1 u0 v1 v0 q r : Nat} (h1 : 0 < v1) (h2 : v1 < 18446744073709551616) (g : Gw u2 u1 u0 v1 v0 q r) (hr : r < 18446744073709551616) (hc : r * 18446744073709551616 + u0 < q * v0) :
  Gw u2 u1 u0 v1 v0 (q - 1) (r + v1) ∧ 1 ≤ q := by
 obtain ⟨g1, g2, g3, g4⟩ := g
 have hq : 1 ≤ q := by
  rcases Nat.eq_zero_or_pos q with h | h
  ·subst h; omega
  ·exact h
 have hlt : ((u2 * 18446744073709551616 + u1) * 18446744073709551616 + u0) / (v1 * 18446744073709551616 + v0) < q := by
  rw [Nat.div_lt_iff_lt_mul (by omega), Nat.mul_add, ← Nat.mul_assoc, g1]
  exact zEN hc
 refine ⟨⟨?_, ?_, by omega, by omega⟩, hq⟩
 ·obtain ⟨k, rfl⟩ : ∃ k, q = k + 1 := ⟨q - 1, by omega⟩
  rw [Nat.succ_mul] at g1
  simp only [Nat.add_sub_cancel]
  omega
 ·exact Nat.le_trans (Nat.min_le_left _ _) (by omega)
theorem Gw.exit {u2 u1 u0 v1 v0 q r : Nat} (h1 : 0 < v1) (g : Gw u2 u1 u0 v1 v0 q r) (hc : q * v0 ≤ r * 18446744073709551616 + u0) : q = gss u2 u1 u0 v1 v0 := by
 obtain ⟨g1, g2, g3, g4⟩ := g
 refine Nat.le_antisymm ?_ g2
 refine Nat.le_min.2 ⟨?_, g3⟩
 rw [Nat.le_div_iff_mul_le (by omega), Nat.mul_add, ← Nat.mul_assoc, g1]
 omega
theorem Gw.exit2 {u2 u1 u0 v1 v0 q r : Nat} (h1 : 0 < v1) (g : Gw u2 u1 u0 v1 v0 q r) (h0 : v0 < 18446744073709551616) (hr : 18446744073709551616 ≤ r) : q = gss u2 u1 u0 v1 v0 := by
 refine g.exit h1 ?_
 have : q * v0 ≤ 18446744073709551615 * 18446744073709551615 := Nat.mul_le_mul g.q (by omega)
 omega
theorem oG {p r u0 : Nat} (hr : r < 18446744073709551616) (hu : u0 < 18446744073709551616) : (p / 18446744073709551616 < r ∨ p / 18446744073709551616 = r ∧ p % 18446744073709551616 ≤ u0) ↔ p ≤ r * 18446744073709551616 + u0 := by omega
/-! ### a multiple taken away, in place -/
theorem zBL (i : Nat) : dig 0 i = 0 := by unfold dig; simp
theorem gT (A x i : Nat) : dig A i * x + wD 0 A x i = dig (A * x) i + W * wD 0 A x (i + 1) := by
 have := dD 0 A x i
 rw [zBL, Nat.zero_add, Nat.zero_add] at this; exact this
theorem pn {x y c t u : Nat} (hx : x < W) (hy : y < W) (hc : c < W) (ht : t < W) (he : y * x + c = t + W * u) :
  (x * y % 18446744073709551616 + c + 0) % 18446744073709551616 = t ∧ x * y / 18446744073709551616 + (x * y % 18446744073709551616 + c + 0) / 18446744073709551616 = u ∧ u < 18446744073709551616 := by
 have hxy : x * y ≤ 18446744073709551615 * 18446744073709551615 := Nat.mul_le_mul (by unfold W at hx; omega) (by unfold W at hy; omega)
 rw [Nat.mul_comm y x] at he
 generalize x * y = p at *
 unfold W at *
 omega
theorem pK {X i j : Nat} (h : j < i) : dig (X % W ^ i) j = dig X j := by
 obtain ⟨k, rfl⟩ : ∃ k, i = j + 1 + k := ⟨i - (j + 1), by omega⟩
 rw [dig, dig, Nat.add_assoc, Nat.pow_add, Nat.mod_mul_right_div_self, Nat.pow_add, Nat.pow_one, Nat.mod_mul_right_mod]
theorem en {i k : Nat} (h : i ≤ k) : W ^ k = W ^ i * W ^ (k - i) := by rw [← Nat.pow_add]; congr 1; omega
theorem kK {w k i : Nat} (h : i < k) : dig (w + W ^ k) i = dig w i := by
 rw [dig, dig, en (Nat.le_of_lt h), Nat.add_mul_div_left _ _ (zy i), en (show 1 ≤ k - i by omega), Nat.pow_one, Nat.add_mul_mod_self_left]
theorem kR {w p k i : Nat} (h : i ≤ k) : bor (w + W ^ k) p i = bor w p i := by
 unfold bor; rw [en h, Nat.add_mul_mod_self_left]
def jm (w p k : Nat) : Nat := (w + W ^ k - p) % W ^ k
theorem sG {w p k i : Nat} (hp : p < W ^ k) (h : i < k) : (dig w i + W - dig p i - bor w p i) % W = dig (jm w p k) i := by
 have := oK (p := w + W ^ k) (q := p) (by omega) i
 rw [kK h, kR (Nat.le_of_lt h)] at this
 rw [this, jm, pK h]
theorem zBW {w p k : Nat} (hw : w < W ^ k) (hp : p < W ^ k) : bor w p k = if w < p then 1 else 0 := by
 unfold bor; rw [Nat.mod_eq_of_lt hw, Nat.mod_eq_of_lt hp]
theorem bh (N o D : Nat) : (N % W ^ o + W ^ o * D) / W ^ o = D := by
 rw [Nat.add_mul_div_left _ _ (zy o), Nat.div_eq_of_lt (Nat.mod_lt _ (zy o)), Nat.zero_add]
theorem iJ (N o D : Nat) : (N % W ^ o + W ^ o * D) % W ^ o = N % W ^ o := by rw [Nat.add_mul_mod_self_left, Nat.mod_mod]
theorem iK {N m o i d D : Nat} (h : o + i < m) (hd : d = dig D i) : (mix (o + i) (N % W ^ o + W ^ o * D) N m).set (o + i) d = mix (o + (i + 1)) (N % W ^ o + W ^ o * D) N m :=
 di h rfl (by rw [hd, vw _ _ _ _ (bh _ _ _)])
theorem sF {N m o k D : Nat} (hm : o + k ≤ m) (hn : N / W ^ o < W ^ k) (hD : D < W ^ k) : mix (o + k) (N % W ^ o + W ^ o * D) N m = zQ m (N % W ^ o + W ^ o * D) := by
 refine dk hm ?_
 rw [jt, jt, bh, Nat.div_eq_of_lt hn, Nat.div_eq_of_lt hD]
theorem kj (w p k : Nat) : jm w p k < W ^ k := Nat.mod_lt _ (zy k)
theorem lP {v q k : Nat} (hv : v < W ^ k) (hq : q < W) : wD 0 v q k = dig (v * q) k := by
 have h := dg (n := 0) (x := q) (zy k) hv
 rw [Nat.zero_add] at h
 rw [aA, h, Nat.mod_eq_of_lt (Nat.lt_of_le_of_lt (cF _ _ _ _) hq)]
theorem oB {v q k : Nat} (hv : v < W ^ k) (hq : q < W) : v * q < W ^ (k + 1) := by rw [Nat.pow_succ]; exact Nat.mul_lt_mul'' hv hq
theorem oV {N' N m o i j : Nat} (h : i ≤ j) (hj : o + j < m) : (mix (o + i) N' N m).getD (o + j) 0 = dig (N / W ^ o) j := by
 rw [lN (Nat.add_le_add_left h o) hj, vw _ _ _ _ rfl]
theorem yR {w v q k : Nat} (hv : v < W ^ k) (hq : q < W) : (dig w k + W - wD 0 v q k - bor w (v * q) k) % W = dig (jm w (v * q) (k + 1)) k := by
 rw [lP hv hq]; exact sG (oB hv hq) (Nat.lt_succ_self k)
theorem yS {w v q k : Nat} (hv : v < W ^ k) (hq : q < W) (hw : w < W ^ (k + 1)) : (!decide ((if dig w k < wD 0 v q k + bor w (v * q) k then 1 else 0) = 0)) = decide (w < v * q) := by
 rw [lP hv hq, cX, zBW hw (oB hv hq)]
 by_cases h : w < v * q <;> simp [h]
def fp (w p k : Nat) : Nat := (w + p) % W ^ k
theorem yH (w p k : Nat) : fp w p k < W ^ k := Nat.mod_lt _ (zy k)
theorem sB {w p k i : Nat} (h : i < k) : (dig w i + dig p i + car w p i) % W = dig (fp w p k) i := by rw [kT, fp, pK h]
theorem zBX {w v k : Nat} (hv : v < W ^ k) : (dig w k + car w v k) % W = dig (fp w v (k + 1)) k := by
 have h := sB (w := w) (p := v) (Nat.lt_succ_self k)
 rw [show dig v k = 0 from by rw [dig, Nat.div_eq_of_lt hv]; rfl, Nat.add_zero] at h
 exact h
end Go.Nt
namespace Go.Nt
set_option maxRecDepth 8000
theorem zGB {v k : Nat} (hv : v < W ^ (k + 2)) : v / W ^ k = dig v (k + 1) * 18446744073709551616 + dig v k := by
 have h1 := xT v k
 have h2 : v / W ^ (k + 1) < W := by rw [Nat.div_lt_iff_lt_mul (zy _)]; rwa [Nat.mul_comm, ← Nat.pow_succ]
 rw [h1, aA v (k + 1), Nat.mod_eq_of_lt h2, Nat.mul_comm]
theorem zHM {w k : Nat} (hw : w < W ^ (k + 3)) : w / W ^ k = (dig w (k + 2) * 18446744073709551616 + dig w (k + 1)) * 18446744073709551616 + dig w k := by
 have h1 := xT w k
 rw [h1, zGB (k := k + 1) hw, Nat.mul_comm]
theorem nU {w v k : Nat} (hv : v < W ^ (k + 2)) (hv1 : W ^ (k + 1) ≤ v) (hw : w < v * W) :
  w / v ≤ gss (dig w (k + 2)) (dig w (k + 1)) (dig w k) (dig v (k + 1)) (dig v k) ∧ gss (dig w (k + 2)) (dig w (k + 1)) (dig w k) (dig v (k + 1)) (dig v k) ≤ w / v + 1 := by
 have hv0 : 0 < v := Nat.lt_of_lt_of_le (zy _) hv1
 have hw3 : w < W ^ (k + 3) := Nat.lt_of_lt_of_le hw (by rw [Nat.pow_succ W (k + 2)]; exact Nat.mul_le_mul_right _ (Nat.le_of_lt hv))
 unfold gss
 rw [← zHM hw3, ← zGB hv]
 have hR := zy k
 have hVW : W ≤ v / W ^ k := by rw [Nat.le_div_iff_mul_le hR, Nat.mul_comm, ← Nat.pow_succ]; exact hv1
 have hq : w / v < W := by rw [Nat.div_lt_iff_lt_mul hv0, Nat.mul_comm]; exact hw
 constructor
 ·refine Nat.le_min.2 ⟨?_, by unfold W at hq; omega⟩
  rw [Nat.le_div_iff_mul_le (Nat.lt_of_lt_of_le (by decide) hVW), Nat.le_div_iff_mul_le hR, Nat.mul_assoc]
  exact Nat.le_trans (Nat.mul_le_mul_left _ (Nat.div_mul_le_self v _)) (Nat.div_mul_le_self w v)
 ·generalize hg : min (w / W ^ k / (v / W ^ k)) 18446744073709551615 = g
  have hg1 : g ≤ w / W ^ k / (v / W ^ k) := hg ▸ Nat.min_le_left _ _
  have hg2 : g ≤ 18446744073709551615 := hg ▸ Nat.min_le_right _ _
  rcases Nat.eq_zero_or_pos g with h0 | h0
  ·rw [h0]; exact Nat.zero_le _
  have h1 : g * (v / W ^ k) ≤ w / W ^ k := (Nat.le_div_iff_mul_le (Nat.lt_of_lt_of_le (by decide) hVW)).1 hg1
  have h2 : g * (v / W ^ k) * W ^ k ≤ w := Nat.le_trans (Nat.mul_le_mul_right _ h1) (Nat.div_mul_le_self w _)
  have h3 : v < (v / W ^ k + 1) * W ^ k := by
   have := Nat.div_add_mod v (W ^ k)
   have := Nat.mod_lt v hR
   rw [Nat.add_mul, Nat.mul_comm]; omega
  have h4 : (g - 1) * v ≤ w := by
   have h5 : (g - 1) * v ≤ (g - 1) * ((v / W ^ k + 1) * W ^ k) := Nat.mul_le_mul_left _ (Nat.le_of_lt h3)
   refine Nat.le_trans h5 (Nat.le_trans ?_ h2)
   rw [← Nat.mul_assoc]
   refine Nat.mul_le_mul_right _ ?_
   obtain ⟨t, rfl⟩ : ∃ t, g = t + 1 := ⟨g - 1, by omega⟩
   rw [Nat.add_sub_cancel, Nat.mul_add, Nat.succ_mul, Nat.mul_one]
   have : t ≤ v / W ^ k := Nat.le_trans (by unfold W; omega) hVW
   omega
  have := (Nat.le_div_iff_mul_le hv0).2 h4
  omega
def left (N v k : Nat) : Nat := N % W ^ k + W ^ k * (N / W ^ k % v)
theorem ta {N v k : Nat} (h : N < v * W ^ k) : left N v k = N := by
 have h1 : N / W ^ k < v := by rw [Nat.div_lt_iff_lt_mul (zy k)]; exact h
 unfold left; rw [Nat.mod_eq_of_lt h1, Nat.mod_add_div]
theorem tZ {N v j : Nat} : left N v (j + 1) / W ^ j = N / W ^ (j + 1) % v * 18446744073709551616 + dig N j := by
 unfold left
 rw [wU, Nat.pow_succ, Nat.mul_assoc, Nat.add_assoc, ← Nat.mul_add, bh, Nat.add_comm, Nat.mul_comm W]
theorem lV {N v j : Nat} : left N v (j + 1) % W ^ j = N % W ^ j := by
 unfold left
 rw [wU, Nat.pow_succ, Nat.mul_assoc, Nat.add_assoc, ← Nat.mul_add, Nat.add_mul_mod_self_left, Nat.mod_mod]
theorem rV {N v j : Nat} (hv : 0 < v) : left N v (j + 1) / W ^ j / v = dig (N / v) j ∧ left N v (j + 1) / W ^ j % v = N / W ^ j % v ∧ left N v (j + 1) / W ^ j < v * W := by
 have h := eS (A := N) (x := v) (k := j + 1) hv (by omega)
 rw [tZ]
 simp only [Nat.add_sub_cancel] at h
 refine ⟨h.1, h.2, ?_⟩
 have h1 := Nat.mod_lt (N / W ^ (j + 1)) hv
 have h2 := qr N j
 have h3 : (N / W ^ (j + 1) % v + 1) * W ≤ v * W := Nat.mul_le_mul_right _ h1
 rw [Nat.add_mul, Nat.one_mul] at h3
 show N / W ^ (j + 1) % v * W + _ < _
 omega
theorem po {w v g K : Nat} (hv : 0 < v) (hw : w < K) (h1 : w / v ≤ g) (h : ¬ w < v * g) : g = w / v ∧ (w + K - v * g) % K = w % v := by
 have h2 : g ≤ w / v := (Nat.le_div_iff_mul_le hv).2 (by rw [Nat.mul_comm]; omega)
 obtain rfl : g = w / v := Nat.le_antisymm h2 h1
 refine ⟨rfl, ?_⟩
 have h3 := Nat.div_add_mod w v
 have e : w + K - v * (w / v) = w % v + K := by omega
 rw [e, Nat.add_mod_right, Nat.mod_eq_of_lt (Nat.lt_of_le_of_lt (Nat.mod_le _ _) hw)]
theorem pp {w v g K : Nat} (hv : 0 < v) (hw : w < K) (hg : v * g < K) (h1 : g ≤ w / v + 1) (h : w < v * g) : g - 1 = w / v ∧ 1 ≤ g ∧ ((w + K - v * g) % K + v) % K = w % v := by
 have h2 : w / v < g := by rw [Nat.div_lt_iff_lt_mul hv, Nat.mul_comm]; exact h
 obtain rfl : g = w / v + 1 := Nat.le_antisymm h1 h2
 refine ⟨Nat.add_sub_cancel _ _, Nat.le_add_left _ _, ?_⟩
 have h3 := Nat.div_add_mod w v
 rw [Nat.mul_add, Nat.mul_one] at h hg ⊢
 have h4 := Nat.mod_lt w hv
 have h5 : w + K - (v * (w / v) + v) < K := by omega
 rw [Nat.mod_eq_of_lt h5]
 have e : w + K - (v * (w / v) + v) + v = w % v + K := by omega
 rw [e, Nat.add_mod_right, Nat.mod_eq_of_lt (Nat.lt_of_le_of_lt (Nat.mod_le _ _) hw)]
theorem gV {A Q m k d : Nat} (hk : 0 < k) (hm : k ≤ m) (hd : d = dig Q (k - 1)) : (mix k A Q m).set (k - 1) d = mix (k - 1) A Q m := by
 have := lO (A := A) (j := 0) hk hm hd
 simpa using this
theorem tH (Q t : Nat) : List.replicate t 0 = mix t 0 Q t := by
 have : List.replicate t 0 = zQ t 0 := vS (fun x hx => by rw [List.mem_replicate] at hx; rw [hx.2]; decide) (by simp) (by rw [xz]; simp)
 rw [this]; unfold mix; rw [Nat.sub_self]; simp [zQ]
theorem zDY (Q t : Nat) : mix 0 0 Q t = zQ t Q := by simp [mix, zQ]
theorem zFC {N m j i t : Nat} (ht : t = j + i) (h : t < m) : (zQ m N).getD t 0 = dig (N / W ^ j) i := by
 subst ht; rw [vp h, vw _ _ _ _ rfl]
theorem zBC {v i t : Nat} (ht : t = i) : (zA v).getD t 0 = dig v i := by subst ht; exact qC _ _
structure Rnd (N v j k g : Nat) : Prop where
 hd : 0 < dig v (k + 1)
 hw : left N v (j + 1) / W ^ j < W ^ ((List.length (zA v)) + 1)
 fine : ¬ left N v (j + 1) / W ^ j < v * g → g = dig (N / v) j ∧ left N v (j + 1) % W ^ j + W ^ j * jm (left N v (j + 1) / W ^ j) (v * g) ((List.length (zA v)) + 1) = left N v j
 bk : left N v (j + 1) / W ^ j < v * g → g - 1 = dig (N / v) j ∧ 1 ≤ g ∧ (left N v (j + 1) % W ^ j + W ^ j * jm (left N v (j + 1) / W ^ j) (v * g) ((List.length (zA v)) + 1)) % W ^ j + W ^ j * fp ((left N v (j + 1) % W ^ j + W ^ j * jm (left N v (j + 1) / W ^ j) (v * g) ((List.length (zA v)) + 1)) / W ^ j) v ((List.length (zA v)) + 1) = left N v j
theorem kx {N v j k g : Nat} (hk : (List.length (zA v)) = k + 2) (hg : g = gss (dig (left N v (j + 1) / W ^ j) (k + 2)) (dig (left N v (j + 1) / W ^ j) (k + 1)) (dig (left N v (j + 1) / W ^ j) k) (dig v (k + 1)) (dig v k)) (hgl : g < W) : Rnd N v j k g := by
 have hv0 : v ≠ 0 := by intro e; subst e; rw [ia] at hk; omega
 have hv1 : W ^ (k + 1) ≤ v := by have := fF hv0; rwa [hk] at this
 have hv2 : v < W ^ (k + 2) := by have := qy v; rwa [hk] at this
 have hpos : 0 < v := Nat.pos_of_ne_zero hv0
 obtain ⟨h1, h2, h3⟩ := rV (N := N) (j := j) hpos
 have hgn := nU hv2 hv1 h3
 rw [← hg] at hgn
 have hw : left N v (j + 1) / W ^ j < W ^ ((List.length (zA v)) + 1) := Nat.lt_of_lt_of_le h3 (by rw [hk, Nat.pow_succ W (k + 2)]; exact Nat.mul_le_mul_right _ (Nat.le_of_lt hv2))
 have hvg : v * g < W ^ ((List.length (zA v)) + 1) := oB (qy v) hgl
 refine ⟨?_, hw, fun h => ?_, fun h => ?_⟩
 ·have := bH hv0
  rw [hk] at this
  exact Nat.pos_of_ne_zero this
 ·obtain ⟨e1, e2⟩ := po hpos hw hgn.1 h
  refine ⟨e1.trans h1, ?_⟩
  unfold jm
  rw [e2, lV, h2]; rfl
 ·obtain ⟨e1, e2, e3⟩ := pp hpos hw hvg hgn.2 h
  refine ⟨e1.trans h1, e2, ?_⟩
  rw [iJ, bh, lV]
  unfold jm fp
  rw [e3, h2]; rfl
theorem zEU (u2 u1 u0 v1 v0 : Nat) : gss u2 u1 u0 v1 v0 < 18446744073709551616 := Nat.lt_succ_of_le (Nat.min_le_right _ _)
theorem gE {m a b : Nat} (h : a = b) : zQ m a = zQ m b := by rw [h]
end Go.Nt
namespace Go.Nt
theorem oF {B n : Nat} (hn : (List.length (zA B)) = n + 1) : B / W ^ n = dig B n := by
 have hB : B < W ^ (n + 1) := hn ▸ qy B
 rw [aA, Nat.mod_eq_of_lt]
 rw [Nat.div_lt_iff_lt_mul (zy _), Nat.mul_comm, ← Nat.pow_succ]; exact hB
theorem mo {B k : Nat} (h : B ≠ 0) (hk : k = 64 - bitLen (dig B ((List.length (zA B)) - 1))) : (List.length (zA (B * 2 ^ k))) = (List.length (zA B)) := by
 have hl := lead (qr B ((List.length (zA B)) - 1)) (bH h) hk
 obtain ⟨n, hn⟩ : ∃ n, (List.length (zA B)) = n + 1 := ⟨(List.length (zA B)) - 1, by have := wA h; omega⟩
 have hd := oF hn
 rw [hn, Nat.add_sub_cancel] at hl
 rw [← hd] at hl
 have hk64 : k ≤ 64 := by omega
 have hp : 0 < 2 ^ k := Nat.pow_pos (by decide)
 have h1 : B < (B / W ^ n + 1) * W ^ n := by
  have := Nat.div_add_mod B (W ^ n)
  have := Nat.mod_lt B (zy n)
  rw [Nat.add_mul, Nat.mul_comm (B / W ^ n)]; omega
 have h23 : ∀ t : Nat, t * 2 ^ k < 18446744073709551616 → (t + 1) * 2 ^ k ≤ W := fun t h4 => by
  rw [show (18446744073709551616 : Nat) = W from rfl, ← cz hk64] at h4
  have := Nat.mul_le_mul_right (2 ^ k) (Nat.lt_of_mul_lt_mul_right h4)
  rwa [cz hk64] at this
 have h3 := h23 _ hl.2
 have h4 : B * 2 ^ k < W ^ (n + 1) := by
  calc B * 2 ^ k < (B / W ^ n + 1) * W ^ n * 2 ^ k := Nat.mul_lt_mul_of_pos_right h1 hp
   _ = (B / W ^ n + 1) * 2 ^ k * W ^ n := by rw [Nat.mul_right_comm]
   _ ≤ W * W ^ n := Nat.mul_le_mul_right _ h3
   _ = W ^ (n + 1) := by rw [Nat.pow_succ, Nat.mul_comm]
 have h5 := aS h4
 have h6 := qI (Nat.le_mul_of_pos_right B hp)
 omega
theorem zAL {B k : Nat} (h : B ≠ 0) (hk : k = 64 - bitLen (dig B ((List.length (zA B)) - 1))) : k < 64 := by
 have := jk (bH h); omega
theorem gK {A k : Nat} (hk : k < 64) : (List.length (zA (A * 2 ^ k))) ≤ (List.length (zA A)) + 1 := by
 apply aS
 have h1 := qy A
 have h2 : 2 ^ k ≤ W := by have : 2 ^ k ≤ 2 ^ 64 := Nat.pow_le_pow_right (by decide) (by omega); exact this
 calc A * 2 ^ k < W ^ (List.length (zA A)) * 2 ^ k := Nat.mul_lt_mul_of_pos_right h1 (Nat.pow_pos (by decide))
  _ ≤ W ^ (List.length (zA A)) * W := Nat.mul_le_mul_left _ h2
  _ = W ^ ((List.length (zA A)) + 1) := by rw [Nat.pow_succ]
theorem nf {N m : Nat} (h : (List.length (zA N)) ≤ m) : (List.replicate m 0).take 0 ++ zA N ++ (List.replicate m 0).drop (0 + (List.length (zA N))) = zQ m N := by
 refine vS ?_ ?_ ?_
 ·rw [List.take_zero, List.nil_append]
  refine gS (aK N) (fun x hx => ?_)
  have := List.mem_of_mem_drop hx
  rw [List.mem_replicate] at this
  rw [this.2]; decide
 ·simp; omega
 ·rw [List.take_zero, List.nil_append, jT, List.drop_replicate, xz, Nat.mul_zero, Nat.add_zero, zB, Nat.mod_eq_of_lt (vR h)]
theorem gc {A B : Nat} (hB : B ≠ 0) (h : (List.length (zA B)) ≤ (List.length (zA A)) + 1) : A < B * W ^ ((List.length (zA A)) + 1 - (List.length (zA B))) := by
 have h1 := fF hB
 have hp := wA hB
 calc A < W ^ (List.length (zA A)) := qy A
  _ = W ^ ((List.length (zA B)) - 1) * W ^ ((List.length (zA A)) + 1 - (List.length (zA B))) := by rw [← Nat.pow_add]; congr 1; omega
  _ ≤ B * W ^ ((List.length (zA A)) + 1 - (List.length (zA B))) := Nat.mul_le_mul_right _ h1
structure Dm (A B k : Nat) : Prop where
 k64 : k < 64
 v : (List.length (zA (B * 2 ^ k))) = (List.length (zA B))
 w : (List.length (zA (A * 2 ^ k))) ≤ (List.length (zA A)) + 1
 lt : A * 2 ^ k < B * 2 ^ k * W ^ ((List.length (zA A)) + 1 - (List.length (zA (B * 2 ^ k))))
 le : (List.length (zA B)) ≤ (List.length (zA A))
theorem dm {A B k : Nat} (hB : B ≠ 0) (hle : B ≤ A) (hk : k = 64 - bitLen (dig B ((List.length (zA B)) - 1))) : Dm A B k := by
 have h1 := zAL hB hk
 have h2 := mo hB hk
 have h3 := qI hle
 refine ⟨h1, h2, gK h1, ?_, h3⟩
 rw [h2, Nat.mul_right_comm]
 exact Nat.mul_lt_mul_of_pos_right (gc hB (by omega)) (Nat.pow_pos (by decide))
theorem zFG {A B k m n : Nat} (hB : B ≠ 0) (D : Dm A B k) (hm : m = (List.length (zA A)) + 1) (hn : n = (List.length (zA (B * 2 ^ k)))) : zA (val (zQ (m - n) (A * 2 ^ k / (B * 2 ^ k)))) = zA (A / B) := by
 subst hm; subst hn
 have hp : 0 < 2 ^ k := Nat.pow_pos (by decide)
 rw [Nat.mul_div_mul_right _ _ hp, qj]
 rw [D.v, Nat.div_lt_iff_lt_mul (by omega), Nat.mul_comm]
 exact gc hB (by have := D.le; omega)
theorem zBK {A B k m : Nat} (hB : B ≠ 0) (D : Dm A B k) (hm : m = (List.length (zA A)) + 1) : val (zQ m (left (A * 2 ^ k) (B * 2 ^ k) 0)) / 2 ^ k = A % B := by
 subst hm
 have hp : 0 < 2 ^ k := Nat.pow_pos (by decide)
 have e : left (A * 2 ^ k) (B * 2 ^ k) 0 = A % B * 2 ^ k := by
  unfold left
  rw [Nat.pow_zero, Nat.mod_one, Nat.div_one, Nat.zero_add, Nat.one_mul, Nat.mul_mod_mul_right]
 rw [e, xk, Nat.mod_eq_of_lt, Nat.mul_div_cancel _ hp]
 refine Nat.lt_of_le_of_lt (Nat.mul_le_mul_right _ (Nat.mod_le A B)) (vR D.w)
theorem bP (m N : Nat) : (List.length (zA (val (zQ m N)))) ≤ m := by
 have := cg (jL m N); rwa [zt] at this
/-! ### bits -/
theorem mP {n k : Nat} (h1 : n < 2 ^ k) (h2 : n ≠ 0 → 2 ^ (k - 1) ≤ n) (h0 : n = 0 → k = 0) : bitLen n = k := by
 have h := bitLen_spec n
 by_cases hn : n = 0
 ·rw [h0 hn]; subst hn; rfl
 have a := h.2 hn
 have b := h2 hn
 have c := h.1
 have p := jk hn
 have hk : 0 < k := by
  rcases Nat.eq_zero_or_pos k with e | e
  ·subst e; simp at h1; omega
  ·exact e
 have e1 : bitLen n - 1 < k := (Nat.pow_lt_pow_iff_right (by decide : 1 < 2)).1 (Nat.lt_of_le_of_lt a h1)
 have e2 : k - 1 < bitLen n := (Nat.pow_lt_pow_iff_right (by decide : 1 < 2)).1 (Nat.lt_of_le_of_lt b c)
 omega
theorem zCM (n : Nat) : W ^ n = 2 ^ (64 * n) := by rw [Nat.pow_mul]
theorem nr {A : Nat} (h : A ≠ 0) : 64 * ((List.length (zA A)) - 1) + bitLen (dig A ((List.length (zA A)) - 1)) = bitLen A := by
 obtain ⟨n, hn⟩ : ∃ n, (List.length (zA A)) = n + 1 := ⟨(List.length (zA A)) - 1, by have := wA h; omega⟩
 have hd := oF hn
 have ht := bH h
 rw [hn, Nat.add_sub_cancel] at *
 obtain ⟨t, hte⟩ : ∃ t, t = dig A n := ⟨_, rfl⟩
 rw [← hte] at ht hd ⊢
 have hs := bitLen_spec t
 have hp := jk ht
 have e := Nat.div_add_mod A (W ^ n)
 have hm := Nat.mod_lt A (zy n)
 rw [hd] at e
 generalize A % W ^ n = low at *
 symm
 apply mP
 ·rw [Nat.pow_add, ← zCM]
  have : W ^ n * (t + 1) ≤ W ^ n * 2 ^ bitLen t := Nat.mul_le_mul_left _ hs.1
  rw [Nat.mul_add] at this; omega
 ·intro _
  rw [Nat.add_sub_assoc (by omega), Nat.pow_add, ← zCM]
  have : W ^ n * 2 ^ (bitLen t - 1) ≤ W ^ n * t := Nat.mul_le_mul_left _ (hs.2 ht)
  omega
 ·intro h0; exact absurd h0 h
theorem bK {A : Nat} (h : (List.length (zA A)) = 0) : A = 0 := wr (List.eq_nil_of_length_eq_zero h)
/-! ### powers of two, as zA -/
/-! ### the root -/
end Go.Nt
namespace Go.Nt
abbrev D : Nat := 65536
def zFF : List Nat → Nat
 | [] => 0
 | x :: xs => x + D * zFF xs
end Go.Nt
namespace Go.Nt
def zv (n : Bool) (xs : List Nat) : Int := if n = true then -(val xs : Int) else (val xs : Int)
theorem zK (z : Int) : zv (decide (z < 0)) (zA z.natAbs) = z := by
 unfold zv
 rw [zB]
 by_cases h : z < 0
 ·rw [decide_eq_true h, if_pos rfl]; omega
 ·rw [decide_eq_false h, if_neg (by decide)]; omega
theorem aI (n : Bool) (xs : List Nat) : (zv n xs).natAbs = val xs := by unfold zv; split <;> omega
theorem zCR (n : Bool) (xs : List Nat) : decide (zv n xs < 0) = (n && decide (val xs ≠ 0)) := by
 unfold zv
 cases n
 ·rw [if_neg (by decide), Bool.false_and]; exact decide_eq_false (by omega)
 ·rw [if_pos rfl, Bool.true_and]; exact decide_eq_decide.2 (by omega)
theorem vV (n : Bool) (xs : List Nat) : (List.length (zA (zv n xs).natAbs)) = (List.length (zA (val xs))) := by rw [aI]
theorem eF (xs : List Nat) : zv false xs = (val xs : Int) := by unfold zv; rw [if_neg (by decide)]
theorem zCQ (n : Bool) (xs : List Nat) : zv (!n) xs = - zv n xs := by
 unfold zv; cases n <;> simp
def sgn (z : Int) : Int := if z = 0 then 0 else if z < 0 then -1 else 1
def xB (x y : Int) : Int := if x < y then -1 else if y < x then 1 else 0
theorem kW {m n : Bool} (h : m = n) (xs ys : List Nat) : zv m xs + zv n ys = zv m (zA (val xs + val ys)) := by
 subst h; unfold zv; rw [zB]; cases m <;> simp <;> omega
theorem eG {m n : Bool} (h : m ≠ n) {xs ys : List Nat} (hle : val ys ≤ val xs) : zv m xs + zv n ys = zv m (zA (val xs - val ys)) := by
 unfold zv; rw [zB]; cases m <;> cases n <;> simp at h ⊢ <;> omega
theorem zCS (m n : Bool) (xs ys : List Nat) : zv m xs * zv n ys = zv (!(m == n)) (zA (val xs * val ys)) := by
 unfold zv; rw [zB]; cases m <;> cases n <;> simp [Int.neg_mul, Int.mul_neg]
theorem yD (m n : Bool) (xs ys : List Nat) : (zv m xs).tdiv (zv n ys) = zv (!(m == n)) (zA (val xs / val ys)) := by
 have h : ((val xs : Int)).tdiv (val ys : Int) = ((val xs / val ys : Nat) : Int) := Int.ofNat_tdiv _ _ ▸ rfl
 unfold zv; rw [zB]; cases m <;> cases n <;> simp [Int.neg_tdiv, Int.tdiv_neg, h]
theorem yC (m n : Bool) (xs ys : List Nat) : (zv m xs).tmod (zv n ys) = zv m (zA (val xs % val ys)) := by
 have h : ((val xs : Int)).tmod (val ys : Int) = ((val xs % val ys : Nat) : Int) := Int.ofNat_tmod _ _ ▸ rfl
 unfold zv; rw [zB]; cases m <;> cases n <;> simp [Int.neg_tmod, Int.tmod_neg, h]
end Go.Nt
namespace Go.Nt
theorem jN (a b : Nat) : (List.length (zA (a + b))) ≤ max ((List.length (zA a))) ((List.length (zA b))) + 1 := aS (uy (vR (Nat.le_max_left _ _)) (vR (Nat.le_max_right _ _)))
theorem wT (a b : Nat) : (List.length (zA (a * b))) ≤ (List.length (zA a)) + (List.length (zA b)) := aS (by rw [Nat.pow_add]; exact Nat.mul_lt_mul_of_lt_of_lt (qy a) (qy b))
theorem xn (x y : Int) : (List.length (zA (x + y).natAbs)) ≤ max ((List.length (zA x.natAbs))) ((List.length (zA y.natAbs))) + 1 := Nat.le_trans (qI (Int.natAbs_add_le x y)) (jN _ _)
theorem ey (x y : Int) : (List.length (zA (x - y).natAbs)) ≤ max ((List.length (zA x.natAbs))) ((List.length (zA y.natAbs))) + 1 := by
 have := xn x (-y); rwa [Int.natAbs_neg, ← Int.sub_eq_add_neg] at this
theorem qJ (x y : Int) : (List.length (zA (x * y).natAbs)) ≤ (List.length (zA x.natAbs)) + (List.length (zA y.natAbs)) := by rw [Int.natAbs_mul]; exact wT _ _
theorem jp (x y : Int) : (List.length (zA (x.tdiv y).natAbs)) ≤ (List.length (zA x.natAbs)) := by rw [Int.natAbs_tdiv]; exact qI (Nat.div_le_self _ _)
theorem oe (x y : Int) : (List.length (zA (x.tmod y).natAbs)) ≤ (List.length (zA x.natAbs)) := by rw [Int.natAbs_tmod]; exact qI (Nat.mod_le _ _)
theorem ib : (List.length (zA 1)) = 1 := by rw [cy (by decide)]; rfl
theorem qF {n : Nat} (h : n < 18446744073709551616) : (List.length (zA n)) ≤ 1 := aS (by simpa using h)
/-! ### rests from 0 on -/
theorem bU (a b : Int) : (0 ≤ a.tmod b → a.tdiv b = a / b ∧ a.tmod b = a % b) ∧
  (a.tmod b < 0 → (0 < b → a.tdiv b - 1 = a / b ∧ a.tmod b + b = a % b) ∧ (b < 0 → a.tdiv b + 1 = a / b ∧ a.tmod b - b = a % b)) := by
 rcases Int.lt_trichotomy b 0 with hb | hb | hb
 ·have h1 := Int.emod_nonneg a (show b ≠ 0 by omega)
  have h3 := Int.emod_lt_of_pos a (show 0 < -b by omega)
  rw [Int.emod_neg] at h3
  have h4 := Int.tmod_eq_emod (a := a) (b := b)
  have h5 := Int.tdiv_eq_ediv (a := a) (b := b)
  have h6 := Int.sign_eq_neg_one_of_neg hb
  split at h4
  ·rename_i h; rw [if_pos h] at h5; refine ⟨fun _ => ⟨by omega, by omega⟩, fun h7 => ⟨fun h8 => by omega, fun _ => by omega⟩⟩
  ·rename_i h; rw [if_neg h, h6] at h5
   refine ⟨fun h7 => ?_, fun h7 => ⟨fun h8 => by omega, fun _ => by omega⟩⟩
   omega
 ·subst hb; simp
 ·have h1 := Int.emod_nonneg a (show b ≠ 0 by omega)
  have h3 := Int.emod_lt_of_pos a hb
  have h4 := Int.tmod_eq_emod (a := a) (b := b)
  have h5 := Int.tdiv_eq_ediv (a := a) (b := b)
  have h6 := Int.sign_eq_one_of_pos hb
  split at h4
  ·rename_i h; rw [if_pos h] at h5; refine ⟨fun _ => ⟨by omega, by omega⟩, fun h7 => ⟨fun h8 => by omega, fun _ => by omega⟩⟩
  ·rename_i h; rw [if_neg h, h6] at h5
   refine ⟨fun h7 => ?_, fun h7 => ⟨fun h8 => by omega, fun _ => by omega⟩⟩
   omega
/-! ### the greatest common divisor -/
def cof (a b x next : Int) : Int × Int := if h : b = 0 then (if a < 0 then (-a, -x) else (a, x)) else cof b (a.tmod b) next (x - a.tdiv b * next)
termination_by b.natAbs
decreasing_by
 rw [Int.natAbs_tmod]; exact Nat.mod_lt _ (by omega)
theorem aY (a x next : Int) : cof a 0 x next = if a < 0 then (-a, -x) else (a, x) := by rw [cof, dif_pos rfl]
theorem mF {b : Int} (h : b ≠ 0) (a x next : Int) : cof a b x next = cof b (a.tmod b) next (x - a.tdiv b * next) := by rw [cof, dif_neg h]
structure Cf (A B a b x next : Int) (X Y : Nat) : Prop where
 g : Nat.gcd a.natAbs b.natAbs = Nat.gcd A.natAbs B.natAbs
 d1 : B ∣ a - x * A
 d2 : B ∣ b - next * A
 x : x.natAbs ≤ X
 y : next.natAbs ≤ Y
 s : Y * a.natAbs + X * b.natAbs = B.natAbs
 X1 : X ≤ max 1 B.natAbs
 Y1 : Y ≤ B.natAbs
 a1 : a.natAbs ≤ max A.natAbs B.natAbs
 b1 : b.natAbs ≤ B.natAbs
theorem Cf.start (A B : Int) : Cf A B A B 1 0 1 0 := by
 refine ⟨rfl, ?_, ?_, by decide, by decide, by omega, Nat.le_max_left _ _, Nat.zero_le _, Nat.le_max_left _ _, Nat.le_refl _⟩
 ·rw [Int.one_mul, Int.sub_self]; exact Int.dvd_zero _
 ·rw [Int.zero_mul, Int.sub_zero]; exact Int.dvd_refl _
theorem Cf.step {A B a b x next : Int} {X Y : Nat} (c : Cf A B a b x next X Y) (h : b ≠ 0) : Cf A B b (a.tmod b) next (x - a.tdiv b * next) Y (X + (a.tdiv b).natAbs * Y) := by
 have e1 := Int.tmod_add_mul_tdiv a b
 have e2 : a.natAbs = (a.tdiv b).natAbs * b.natAbs + (a.tmod b).natAbs := by
  rw [Int.natAbs_tdiv, Int.natAbs_tmod, Nat.mul_comm]; exact (Nat.div_add_mod _ _).symm
 have hb : 0 < b.natAbs := by omega
 have hs : (X + (a.tdiv b).natAbs * Y) * b.natAbs + Y * (a.tmod b).natAbs = B.natAbs := by
  rw [← c.s, e2, Nat.add_mul, Nat.mul_add, Nat.mul_right_comm, Nat.mul_comm Y ((a.tdiv b).natAbs * b.natAbs)]
  omega
 refine ⟨?_, c.d2, ?_, c.y, ?_, hs, Nat.le_trans c.Y1 (Nat.le_max_right _ _), ?_, Nat.le_trans c.b1 (Nat.le_max_right _ _), ?_⟩
 ·rw [← c.g, Int.natAbs_tmod, Nat.gcd_comm a.natAbs, Nat.gcd_rec b.natAbs a.natAbs, Nat.gcd_comm]
 ·have e3 : a.tmod b - (x - a.tdiv b * next) * A = (a - x * A) - a.tdiv b * (b - next * A) := by
   rw [Int.sub_mul, Int.mul_sub, Int.mul_assoc, Int.mul_comm (a.tdiv b) b]; omega
  rw [e3]; exact Int.dvd_sub c.d1 (Int.dvd_mul_of_dvd_right c.d2)
 ·refine Nat.le_trans (Int.natAbs_sub_le _ _) ?_
  rw [Int.natAbs_mul]
  exact Nat.add_le_add c.x (Nat.mul_le_mul_left _ c.y)
 ·have h1 := Nat.le_mul_of_pos_right (X + (a.tdiv b).natAbs * Y) hb
  omega
 ·rw [Int.natAbs_tmod]; exact Nat.le_trans (Nat.le_of_lt (Nat.mod_lt _ hb)) c.b1
theorem Cf.fin {A B a x next : Int} {X Y : Nat} (c : Cf A B a 0 x next X Y) : (cof a 0 x next).1 = (Nat.gcd A.natAbs B.natAbs : Nat) ∧ B ∣ (cof a 0 x next).1 - (cof a 0 x next).2 * A ∧ (cof a 0 x next).2.natAbs ≤ max 1 B.natAbs := by
 have hg := c.g
 rw [Int.natAbs_zero, Nat.gcd_zero_right] at hg
 have hx := Nat.le_trans c.x c.X1
 rw [aY]
 by_cases h : a < 0
 ·rw [if_pos h]
  refine ⟨by show -a = _; omega, ?_, by show (-x).natAbs ≤ _; rw [Int.natAbs_neg]; exact hx⟩
  show B ∣ -a - -x * A
  have : -a - -x * A = -(a - x * A) := by rw [Int.neg_mul]; omega
  rw [this]; exact Int.dvd_neg.2 c.d1
 ·rw [if_neg h]
  exact ⟨by show a = _; omega, c.d1, hx⟩
theorem eD (A B : Int) : (cof A B 1 0).1 = (Nat.gcd A.natAbs B.natAbs : Nat) ∧ B ∣ (cof A B 1 0).1 - (cof A B 1 0).2 * A ∧ (cof A B 1 0).2.natAbs ≤ max 1 B.natAbs := by
  have key : ∀ (n : Nat) (a b x next : Int) (X Y : Nat), b.natAbs = n → Cf A B a b x next X Y → (cof a b x next).1 = (Nat.gcd A.natAbs B.natAbs : Nat) ∧ B ∣ (cof a b x next).1 - (cof a b x next).2 * A ∧ (cof a b x next).2.natAbs ≤ max 1 B.natAbs := by
    intro n
    induction n using Nat.strongRecOn with
    | _ n ih =>
      intro a b x next X Y hn c
      by_cases h : b = 0
      · subst h; exact c.fin
      · rw [mF h]
        refine ih (a.tmod b).natAbs ?_ _ _ _ _ _ _ rfl (c.step h)
        rw [Int.natAbs_tmod, ← hn]; exact Nat.mod_lt _ (by omega)
  exact key _ _ _ _ _ _ _ rfl (Cf.start A B)
end Go.Nt
namespace Go.Nt
theorem dT (n : Bool) (xs : List Nat) : zv n xs = 0 ↔ val xs = 0 := by unfold zv; split <;> omega
theorem uJ (m : Bool) (xs : List Nat) : (m && decide (0 < (((List.length (zA (val xs))) : Nat) : Int))) = decide (zv m xs < 0) := by
 rw [zCR]
 congr 1
 apply decide_eq_decide.2
 constructor
 ·intro h e; rw [e, zH] at h; simp at h
 ·intro h; have := wA h; omega
theorem co (m : Bool) (n : Nat) : zv m (zA n) = if m = true then -(n : Int) else (n : Int) := by unfold zv; rw [zB]
theorem tK {x : Int} (h : x < 0) (h2 : -9223372036854775808 ≤ x) : (18446744073709551616 - (x % 18446744073709551616).toNat) % 18446744073709551616 = x.natAbs := by omega
theorem sd {n : Bool} {xs : List Nat} (h : ((bitLen (val xs) : Nat) : Int) = 0) : 0 = sgn (zv n xs) := by
 have h2 : val xs = 0 := by
  rcases Nat.eq_zero_or_pos (val xs) with e | e
  ·exact e
  ·have := jk (x := val xs) (by omega); omega
 unfold sgn; rw [if_pos ((dT n xs).2 h2)]
theorem se {n : Bool} {xs : List Nat} (h : ¬ ((bitLen (val xs) : Nat) : Int) = 0) : (if n = true then -1 else 1) = sgn (zv n xs) := by
 have h2 : val xs ≠ 0 := fun e => h (by rw [e]; rfl)
 cases n
 ·have e : zv false xs = (val xs : Int) := eF xs
  show (1 : Int) = sgn (zv false xs)
  rw [e]; unfold sgn; rw [if_neg (by omega), if_neg (by omega)]
 ·have e : zv true xs = -(val xs : Int) := by unfold zv; rw [if_pos rfl]
  show (-1 : Int) = sgn (zv true xs)
  rw [e]; unfold sgn; rw [if_neg (by omega), if_pos (by omega)]
theorem qS (z : Int) : (sgn z = 0 ∧ z = 0) ∨ (sgn z = -1 ∧ z < 0) ∨ (sgn z = 1 ∧ 0 < z) := by
 unfold sgn; split
 ·exact .inl ⟨rfl, by assumption⟩
 ·split
  ·exact .inr (.inl ⟨rfl, by assumption⟩)
  ·exact .inr (.inr ⟨rfl, by omega⟩)
theorem gL (z : Int) : -1 ≤ sgn z ∧ sgn z ≤ 1 := by rcases qS z with h | h | h <;> omega
theorem zBR {x y : Int} (h : sgn x < sgn y) : -1 = xB x y := by
 have : x < y := by rcases qS x with h1 | h1 | h1 <;> rcases qS y with h2 | h2 | h2 <;> omega
 unfold xB; rw [if_pos this]
theorem zBS {x y : Int} (h : sgn y < sgn x) : 1 = xB x y := by
 have : y < x := by rcases qS x with h1 | h1 | h1 <;> rcases qS y with h2 | h2 | h2 <;> omega
 unfold xB; rw [if_neg (by omega), if_pos this]
theorem fZ (a b : Nat) : (a < b ∧ aC a b = -1) ∨ (b < a ∧ aC a b = 1) ∨ (a = b ∧ aC a b = 0) := by
 unfold aC; split
 ·exact .inl ⟨by assumption, rfl⟩
 ·split
  ·exact .inr (.inl ⟨by assumption, rfl⟩)
  ·exact .inr (.inr ⟨by omega, rfl⟩)
theorem jf (x y : Int) : (x < y ∧ xB x y = -1) ∨ (y < x ∧ xB x y = 1) ∨ (x = y ∧ xB x y = 0) := by
 unfold xB; split
 ·exact .inl ⟨by assumption, rfl⟩
 ·split
  ·exact .inr (.inl ⟨by assumption, rfl⟩)
  ·exact .inr (.inr ⟨by omega, rfl⟩)
theorem ue {m n : Bool} {xs ys : List Nat} (h1 : sgn (zv m xs) < 0) (h2 : ¬ sgn (zv m xs) < sgn (zv n ys)) (h3 : ¬ sgn (zv n ys) < sgn (zv m xs)) : aC (val ys) (val xs) = xB (zv m xs) (zv n ys) := by
 have hx := aI m xs
 have hy := aI n ys
 generalize zv m xs = x at *
 generalize zv n ys = y at *
 rcases qS x with c | c | c <;> rcases qS y with d | d | d <;> rcases fZ (val ys) (val xs) with e | e | e <;> rcases jf x y with f | f | f <;> omega
theorem ud {m n : Bool} {xs ys : List Nat} (h1 : ¬ sgn (zv m xs) < 0) (h2 : ¬ sgn (zv m xs) < sgn (zv n ys)) (h3 : ¬ sgn (zv n ys) < sgn (zv m xs)) : aC (val xs) (val ys) = xB (zv m xs) (zv n ys) := by
 have hx := aI m xs
 have hy := aI n ys
 generalize zv m xs = x at *
 generalize zv n ys = y at *
 rcases qS x with c | c | c <;> rcases qS y with d | d | d <;> rcases fZ (val xs) (val ys) with e | e | e <;> rcases jf x y with f | f | f <;> omega
theorem uf (x y : Int) : decide (xB x y = 0) = decide (x = y) := by
 apply decide_eq_decide.2
 rcases jf x y with h | h | h <;> omega
theorem zDJ (z : Int) : 0 ≤ sgn z ↔ 0 ≤ z := by rcases qS z with h | h | h <;> omega
theorem iT (z : Int) : 0 < sgn z ↔ 0 < z := by rcases qS z with h | h | h <;> omega
theorem xN (z : Int) : sgn z = 0 ↔ z = 0 := by rcases qS z with h | h | h <;> omega
theorem jy (z : Int) : sgn z < 0 ↔ z < 0 := by rcases qS z with h | h | h <;> omega
theorem sz (m n : Bool) (xs ys : List Nat) : zv m (zA (if val ys = 0 then 0 else val xs % val ys)) = if zv n ys = 0 then 0 else (zv m xs).tmod (zv n ys) := by
 by_cases h : val ys = 0
 ·rw [if_pos h, if_pos ((dT n ys).2 h), co]; simp
 ·rw [if_neg h, if_neg (fun e => h ((dT n ys).1 e)), yC]
theorem zGP (n : Bool) (ys : List Nat) : decide (val ys ≠ 0) = decide (zv n ys ≠ 0) := decide_eq_decide.2 (not_congr (dT n ys).symm)
theorem zHD {x y : Int} (h : ¬ y ≠ 0 ∨ 0 ≤ sgn (if y = 0 then 0 else x.tmod y)) : x.tdiv y = x / y ∧ (if y = 0 then 0 else x.tmod y) = (if y = 0 then 0 else x % y) := by
 by_cases hy : y = 0
 ·subst hy; simp
 ·rw [if_neg hy, zDJ] at h
  rw [if_neg hy, if_neg hy]
  exact (bU x y).1 (h.resolve_left (fun e => e hy))
theorem zHC {x y : Int} (h : y ≠ 0 ∧ sgn (if y = 0 then 0 else x.tmod y) < 0) (hp : 0 < sgn y) : x.tdiv y - 1 = x / y ∧ (if y = 0 then 0 else x.tmod y) + y = (if y = 0 then 0 else x % y) := by
 obtain ⟨hy, h⟩ := h
 rw [if_neg hy, jy] at h
 rw [if_neg hy, if_neg hy]
 exact ((bU x y).2 h).1 ((iT y).1 hp)
theorem zHY {x y : Int} (h : y ≠ 0 ∧ sgn (if y = 0 then 0 else x.tmod y) < 0) (hp : sgn y ≤ 0) : x.tdiv y + 1 = x / y ∧ (if y = 0 then 0 else x.tmod y) - y = (if y = 0 then 0 else x % y) := by
 obtain ⟨hy, h⟩ := h
 rw [if_neg hy, jy] at h
 rw [if_neg hy, if_neg hy]
 refine ((bU x y).2 h).2 ?_
 rcases qS y with g | g | g <;> omega
theorem zHB {x y : Int} (h : ¬ y ≠ 0 ∨ ¬ sgn (if y = 0 then 0 else x.tmod y) = 0) : ¬ (y ≠ 0 ∧ x.tmod y = 0) := by
 rintro ⟨h1, h2⟩
 rcases h with h | h
 ·exact h h1
 ·rw [if_neg h1, xN] at h; exact h h2
theorem zFE {x y : Int} (h : y ≠ 0 ∧ sgn (if y = 0 then 0 else x.tmod y) = 0) : y ≠ 0 ∧ x.tmod y = 0 := by
 obtain ⟨h1, h2⟩ := h
 rw [if_neg h1, xN] at h2
 exact ⟨h1, h2⟩
theorem tJ (x y : Int) : (List.length (zA (if y = 0 then 0 else x.tmod y).natAbs)) ≤ (List.length (zA x.natAbs)) := by
 split
 ·rw [Int.natAbs_zero, zH]; exact Nat.zero_le _
 ·exact oe x y
theorem ez : (List.length (zA (1 : Int).natAbs)) = 1 := ib
end Go.Nt
namespace Go.Nt
def dv (n : Bool) (xs : List Nat) : Int := if n = true then -(zFF xs : Int) else (zFF xs : Int)
/-! ### lines of a product -/
end Go.Nt
namespace Go.Nt
def xg (A B : Int) : Int := (cof A B 1 0).2 % ((B.natAbs : Int) / ((Nat.gcd A.natAbs B.natAbs : Nat) : Int))
theorem lv {A B : Int} (h : B ≠ 0) : 0 < Nat.gcd A.natAbs B.natAbs := Nat.gcd_pos_of_pos_right _ (by omega)
theorem yF {A B : Int} (h : B ≠ 0) : (if (cof A B 1 0).1 ≠ 0 ∧ (((B.natAbs : Nat) : Int)).tmod (cof A B 1 0).1 = 0 then (((B.natAbs : Nat) : Int)).tdiv (cof A B 1 0).1 else 0) = (B.natAbs : Int) / ((Nat.gcd A.natAbs B.natAbs : Nat) : Int) := by
 have hg := lv (A := A) h
 rw [(eD A B).1]
 have hd : B.natAbs % Nat.gcd A.natAbs B.natAbs = 0 := Nat.mod_eq_zero_of_dvd (Nat.gcd_dvd_right _ _)
 have h1 : (((B.natAbs : Nat) : Int)).tmod ((Nat.gcd A.natAbs B.natAbs : Nat) : Int) = 0 := by
  rw [← Int.ofNat_tmod, hd]; rfl
 rw [if_pos ⟨by omega, h1⟩, Int.tdiv_eq_ediv_of_nonneg (by omega)]
theorem km {A B : Int} (h : B ≠ 0) : 0 < (B.natAbs : Int) / ((Nat.gcd A.natAbs B.natAbs : Nat) : Int) := by
 have hg := lv (A := A) h
 rw [← Int.natCast_ediv]
 have : 0 < B.natAbs / Nat.gcd A.natAbs B.natAbs := Nat.div_pos (Nat.le_of_dvd (by omega) (Nat.gcd_dvd_right _ _)) hg
 omega
theorem oL (A B : Int) : ((B.natAbs : Int) / ((Nat.gcd A.natAbs B.natAbs : Nat) : Int)).natAbs ≤ B.natAbs := by
 rw [← Int.natCast_ediv, Int.natAbs_natCast]; exact Nat.div_le_self _ _
theorem rz {A B : Int} (h : B ≠ 0) : (xg A B).natAbs ≤ B.natAbs := by
 have h1 := km (A := A) h
 have h2 := oL A B
 have h3 := Int.emod_nonneg (cof A B 1 0).2 (show (B.natAbs : Int) / ((Nat.gcd A.natAbs B.natAbs : Nat) : Int) ≠ 0 by omega)
 have h4 := Int.emod_lt_of_pos (cof A B 1 0).2 h1
 unfold xg; omega
/-! ### powers -/
/-! ### Euclid's steps are few -/
/-! ### the elements of a field -/
theorem toNat_lt {z : Int} {p : Nat} (hp : 0 < p) : (z % (p : Int)).toNat < p := by
 have h1 := Int.emod_nonneg z (show (p : Int) ≠ 0 by omega)
 have h2 := Int.emod_lt_of_pos z (show 0 < (p : Int) by omega)
 omega
end Go.Nt
namespace Go.En
open Go.RowKit Go.Nt
abbrev isZ (z : Int) : VP := zu [isB (decide (z < 0)), SlM isU (zA z.natAbs)]
abbrev zM (k : Nat) (z : Int) : Option Nat × MP := (some k, zC [isB (decide (z < 0)), SlM isU (zA z.natAbs)])
theorem zS {z z' : Int} (h : z = z') : isZ z = isZ z' := h ▸ rfl
theorem te {n : Bool} {xs : List Nat} {z : Int} (h : n = decide (z < 0)) (h2 : xs = zA z.natAbs) : zu [isB n, SlM isU xs] = isZ z := by subst h; subst h2; rfl
theorem zER : zu [isB false, SlM isU []] = isZ 0 := te (by decide) (by rw [Int.natAbs_zero, zH])
section
variable {E : Env} {P : Program} {Γ : Ctx} {M : Mem} {x : Operand}
theorem Has.okZ {n : Bool} {xs : List Nat} (h : Has E Γ M x (zu [isB n, SlM isU xs])) : ∀ a w F, Sat E Γ M a w F → (∀ y ∈ xs, y < 18446744073709551616) ∧ xs.length ≤ 9223372036854775807 := by
 intro a w F s
 obtain ⟨vs, e, hv⟩ := h a w F s
 obtain ⟨v, hv1, hv2⟩ := hv.get 1 (SlM isU xs) rfl
 obtain ⟨ad, cap, e, g1, g2, g3, g4⟩ := hv2
 refine ⟨fun y hy => ?_, by rw [qM] at g2; omega⟩
 obtain ⟨i, hi, rfl⟩ := List.mem_iff_getElem.1 hy
 rcases g4 with g4 | ⟨b, off, _, _, vs, hv, _⟩
 ·omega
 ·obtain ⟨v, _, h2⟩ := hv.get i (isU xs[i]) (by simp [hi])
  exact h2.2
theorem Has.lt2 {a b : Nat} (h : Has E Γ M x (zu [isU a, isU b])) : ∀ ac w F, Sat E Γ M ac w F → a < 18446744073709551616 ∧ b < 18446744073709551616 := by
 intro ac w F s
 obtain ⟨vs, e, hv⟩ := h ac w F s
 obtain ⟨v, hv1, hv2⟩ := hv.get 0 (isU a) rfl
 obtain ⟨v', hv3, hv4⟩ := hv.get 1 (isU b) rfl
 exact ⟨hv2.2, hv4.2⟩
end
end Go.En
namespace Go.Pz
def cf (l : List Int) (i : Nat) : Int := l.getD i 0
theorem um (i : Nat) : cf [] i = 0 := rfl
theorem zBU (a : Int) (l : List Int) : cf (a :: l) 0 = a := rfl
theorem eE (a : Int) (l : List Int) (i : Nat) : cf (a :: l) (i + 1) = cf l i := rfl
theorem vn {l : List Int} {i : Nat} (h : l.length ≤ i) : cf l i = 0 := by
 unfold cf; rw [List.getD, List.getElem?_eq_none h]; rfl
def vz : List Int → List Int
 | [] => []
 | a :: l => if vz l = [] ∧ a = 0 then [] else a :: vz l
theorem bJ : ∀ (l : List Int) (i : Nat), cf (vz l) i = cf l i
  | [], i => rfl
  | a :: l, i => by
    unfold vz
    split
    · rename_i h
      cases i with
      | zero => rw [zBU, h.2]; rfl
      | succ i => rw [eE, ← bJ l i, h.1]; rfl
    · cases i with
      | zero => rfl
      | succ i => rw [eE, eE, bJ l i]
theorem lC {l : List Int} : vz l = [] ↔ ∀ i, cf l i = 0 := by
  constructor
  · intro h i; rw [← bJ, h]; rfl
  · induction l with
    | nil => intro _; rfl
    | cons a l ih =>
      intro h
      unfold vz
      rw [if_pos ⟨ih fun i => h (i + 1), h 0⟩]
def mul (f g : Nat → Int) : Nat → Int
 | 0 => f 0 * g 0
 | n + 1 => f 0 * g (n + 1) + mul (fun i => f (i + 1)) g n
theorem ay {f f' g g' : Nat → Int} (h : ∀ i, f i = f' i) (k : ∀ i, g i = g' i) : ∀ n, mul f g n = mul f' g' n := by
 obtain rfl : f = f' := funext h
 obtain rfl : g = g' := funext k
 intro n; rfl
theorem lH : ∀ (n : Nat) (f g : Nat → Int), mul f g (n + 1) = mul f (fun i => g (i + 1)) n + f (n + 1) * g 0
  | 0, f, g => rfl
  | n + 1, f, g => by
    have h := lH n (fun i => f (i + 1)) g
    show f 0 * g (n + 2) + mul (fun i => f (i + 1)) g (n + 1) = (f 0 * g (n + 2) + mul (fun i => f (i + 1)) (fun i => g (i + 1)) n) + f (n + 2) * g 0
    rw [h]
    show _ = _ + f (n + 1 + 1) * g 0
    exact (Int.add_assoc _ _ _).symm
theorem mul_comm : ∀ (n : Nat) (f g : Nat → Int), mul f g n = mul g f n
  | 0, f, g => Int.mul_comm _ _
  | n + 1, f, g => by
    rw [lH, mul_comm n f, Int.mul_comm (f (n + 1))]
    show _ = g 0 * f (n + 1) + mul (fun i => g (i + 1)) f n
    omega
theorem add_mul (f f' g : Nat → Int)  (n : Nat) : mul (fun i => f i + f' i) g n = mul f g n + mul f' g n := by
    induction n generalizing f f' with
    | zero => exact Int.add_mul _ _ _
    | succ n ih =>
      have h := ih (fun i => f (i + 1)) (fun i => f' (i + 1))
      have e := Int.add_mul (f 0) (f' 0) (g (n + 1))
      show (f 0 + f' 0) * g (n + 1) + mul (fun i => f (i + 1) + f' (i + 1)) g n = _
      rw [h, e]
      show _ = (f 0 * g (n + 1) + mul (fun i => f (i + 1)) g n) + (f' 0 * g (n + 1) + mul (fun i => f' (i + 1)) g n)
      omega
theorem kn (c : Int) (f g : Nat → Int)  (n : Nat) : mul (fun i => c * f i) g n = c * mul f g n := by
    induction n generalizing f with
    | zero => exact Int.mul_assoc _ _ _
    | succ n ih =>
      have h := ih (fun i => f (i + 1))
      show c * f 0 * g (n + 1) + mul (fun i => c * f (i + 1)) g n = c * (f 0 * g (n + 1) + mul (fun i => f (i + 1)) g n)
      rw [h, Int.mul_add, Int.mul_assoc]
theorem mul_add (f g g' : Nat → Int) (n : Nat) : mul f (fun i => g i + g' i) n = mul f g n + mul f g' n := by
 rw [mul_comm, add_mul, mul_comm n g, mul_comm n g']
theorem mul_assoc (f g h : Nat → Int)  (n : Nat) : mul (mul f g) h n = mul f (mul g h) n := by
    induction n generalizing f g with
    | zero => exact Int.mul_assoc _ _ _
    | succ n ih =>
      show f 0 * g 0 * h (n + 1) + mul (fun i => f 0 * g (i + 1) + mul (fun i => f (i + 1)) g i) h n = f 0 * (g 0 * h (n + 1) + mul (fun i => g (i + 1)) h n) + mul (fun i => f (i + 1)) (mul g h) n
      rw [add_mul, kn, ih, Int.mul_add, Int.mul_assoc]
      omega
theorem zero_mul (g : Nat → Int) (n : Nat) : mul (fun _ => 0) g n = 0 := by
 have h := kn 0 (fun _ => 0) g n
 exact h.trans (Int.zero_mul _)
theorem aU : ∀ {n A B : Nat} {f g : Nat → Int}, (∀ i, A ≤ i → f i = 0) → (∀ i, B ≤ i → g i = 0) → A + B ≤ n + 1 → mul f g n = 0
  | n, 0, B, f, g, hf, hg, h => by rw [ay (f' := fun _ => 0) (fun i => hf i (Nat.zero_le _)) (fun _ => rfl), zero_mul]
  | 0, A + 1, B, f, g, hf, hg, h => by
    show f 0 * g 0 = 0
    rw [hg 0 (by omega), Int.mul_zero]
  | n + 1, A + 1, B, f, g, hf, hg, h => by
    show f 0 * g (n + 1) + mul (fun i => f (i + 1)) g n = 0
    rw [aU (A := A) (B := B) (fun i hi => hf (i + 1) (by omega)) hg (by omega), hg (n + 1) (by omega), Int.mul_zero]
    rfl
theorem dg : ∀ {A B : Nat} {f g : Nat → Int}, (∀ i, A < i → f i = 0) → (∀ i, B < i → g i = 0) → mul f g (A + B) = f A * g B
  | 0, 0, f, g, _, _ => rfl
  | 0, B + 1, f, g, hf, hg => by
    rw [Nat.zero_add]
    show f 0 * g (B + 1) + mul (fun i => f (i + 1)) g B = _
    rw [ay (f' := fun _ => 0) (fun i => hf (i + 1) (by omega)) (fun _ => rfl), zero_mul]; omega
  | A + 1, B, f, g, hf, hg => by
    rw [show A + 1 + B = (A + B) + 1 by omega]
    show f 0 * g (A + B + 1) + mul (fun i => f (i + 1)) g (A + B) = _
    rw [dg (fun i hi => hf (i + 1) (by omega)) hg, hg (A + B + 1) (by omega)]
    omega
end Go.Pz
namespace Go.En
open Go.RowKit Go.Nt Go.Pz
abbrev nz (z : Int) : Bool × List Nat := (decide (z < 0), zA z.natAbs)
def zF (xs : List (Bool × List Nat)) : List Int := xs.map fun p => zv p.1 p.2
abbrev isP (l : List Int) : VP := SlK 2 zc (l.map nz)
theorem oc : nz 0 = (false, []) := by
 show (decide ((0 : Int) < 0), zA (Int.natAbs 0)) = (false, [])
 rw [Int.natAbs_zero, zH]; rfl
theorem zT (l : List Int) : zF (l.map nz) = l := by
 unfold zF
 rw [List.map_map]
 conv => rhs; rw [← List.map_id l]
 exact List.map_congr_left fun z _ => zK z
theorem qx (xs : List (Bool × List Nat)) : (zF xs).length = xs.length := by unfold zF; rw [List.length_map]
theorem zv_dflt : zv false [] = 0 := by rw [eF]; rfl
theorem qb (xs : List (Bool × List Nat)) (i : Nat) : cf (zF xs) i = zv (xs.getD i (false, [])).1 (xs.getD i (false, [])).2 := by
 unfold cf zF
 rw [List.getD, List.getD, List.getElem?_map]
 cases xs[i]? with
 | none => exact zv_dflt.symm
 | some p => rfl
theorem gG (xs : List (Bool × List Nat)) (n : Nat) : zF (xs.take n) = (zF xs).take n := by unfold zF; rw [List.map_take]
def fill {β : Type} (l : List β) (i : Nat) (z : β) : List β := l.take i ++ List.replicate (l.length - i) z
theorem cr {β : Type} (l : List β) (z : β) : fill l 0 z = List.replicate l.length z := by simp [fill]
theorem uQ {β : Type} (l : List β) (z : β) : fill l l.length z = l := by simp [fill]
theorem wd {β : Type} (l : List β) (i : Nat) (z : β) (h : i ≤ l.length) : (fill l i z).length = l.length := by
 unfold fill; rw [List.length_append, List.length_take, List.length_replicate]; omega
theorem uP {β : Type} (l : List β) (i : Nat) (z x : β) (h : l[i]? = some x) : (fill l i z).set i x = fill l (i + 1) z := by
 have hi : i < l.length := by
  rcases Nat.lt_or_ge i l.length with h1 | h1
  ·exact h1
  ·rw [List.getElem?_eq_none h1] at h; cases h
 rw [List.getElem?_eq_getElem hi] at h
 unfold fill
 rw [List.set_append_right _ _ (by rw [List.length_take]; omega), List.length_take, Nat.min_eq_left (by omega), Nat.sub_self, show l.length - i = (l.length - (i + 1)) + 1 by omega, List.replicate_succ, List.set_cons_zero,
  List.take_succ_eq_append_getElem hi, List.append_assoc, Option.some.inj h]; rfl
section
variable {E : Env} {P : Program} {Γ : Ctx} {M : Mem} {x : Operand}
end
end Go.En
namespace Go.Pz
theorem vd (n : Nat) (f : Nat → Int) (i : Nat) : cf ((List.range n).map f) i = if i < n then f i else 0 := by
 unfold cf
 rw [List.getD, List.getElem?_map]
 by_cases h : i < n
 ·rw [List.getElem?_range h, if_pos h]; rfl
 ·rw [List.getElem?_eq_none (by simpa using h), if_neg h]; rfl
def uu (op : Int → Int → Int) (a b : List Int) : List Int := vz ((List.range (max a.length b.length)).map fun i => op (cf a i) (cf b i))
theorem pT {op : Int → Int → Int} (h : op 0 0 = 0) (a b : List Int) (i : Nat) : cf (uu op a b) i = op (cf a i) (cf b i) := by
 unfold uu
 rw [bJ, vd]
 split
 ·rfl
 ·rw [vn (l := a) (by omega), vn (l := b) (by omega), h]
def zGN (a b : List Int) : List Int := uu (fun x y => x + y) a b
def zGL (a b : List Int) : List Int := uu (fun x y => x - y) a b
theorem zFP (a b : List Int) (i : Nat) : cf (zGN a b) i = cf a i + cf b i := pT (by rfl) a b i
theorem zFO (a b : List Int) (i : Nat) : cf (zGL a b) i = cf a i - cf b i := pT (by rfl) a b i
def el (a : List Int) (n : Nat) : List Int := List.replicate n 0 ++ a
theorem uj (a : List Int) (n i : Nat) : cf (el a n) i = if i < n then 0 else cf a (i - n) := by
 unfold cf el
 rw [List.getD]
 by_cases h : i < n
 ·rw [List.getElem?_append_left (by simpa using h), if_pos h, List.getElem?_replicate, if_pos h]; rfl
 ·rw [List.getElem?_append_right (by simpa using Nat.le_of_not_lt h), if_neg h, List.length_replicate]; rfl
def rows (f g : Nat → Int) : Nat → Nat → Int
 | 0, _ => 0
 | i + 1, n => rows f g i n + if i ≤ n then f i * g (n - i) else 0
theorem ee (f g : Nat → Int) : ∀ i n, rows f g (i + 1) (n + 1) = f 0 * g (n + 1) + rows (fun j => f (j + 1)) g i n
  | 0, n => by
    show 0 + (if 0 ≤ n + 1 then f 0 * g (n + 1 - 0) else 0) = f 0 * g (n + 1) + 0
    rw [if_pos (Nat.zero_le _), Int.zero_add, Int.add_zero]; rfl
  | i + 1, n => by
    have h := ee f g i n
    show rows f g (i + 1) (n + 1) + (if i + 1 ≤ n + 1 then f (i + 1) * g (n + 1 - (i + 1)) else 0) = f 0 * g (n + 1) + (rows (fun j => f (j + 1)) g i n + if i ≤ n then f (i + 1) * g (n - i) else 0)
    rw [h, Int.add_assoc]
    congr 2
    by_cases hi : i ≤ n
    · rw [if_pos hi, if_pos (by omega), Nat.succ_sub_succ]
    · rw [if_neg hi, if_neg (by omega)]
theorem gN (f g : Nat → Int) : ∀ i, rows f g (i + 1) 0 = f 0 * g 0
  | 0 => by show 0 + (if 0 ≤ 0 then f 0 * g (0 - 0) else 0) = _; rw [if_pos (Nat.le_refl _), Int.zero_add]
  | i + 1 => by
    show rows f g (i + 1) 0 + (if i + 1 ≤ 0 then _ else 0) = _
    rw [gN f g i, if_neg (by omega), Int.add_zero]
theorem lF : ∀ (n : Nat) (f g : Nat → Int), mul f g n = rows f g (n + 1) n
  | 0, f, g => (gN f g 0).symm
  | n + 1, f, g => by
    rw [ee, ← lF n]; rfl
theorem ce (f g : Nat → Int) {A n : Nat} (h : ∀ i, A ≤ i → i ≤ n → f i = 0) : ∀ d, rows f g (A + d) n = rows f g A n
  | 0 => rfl
  | d + 1 => by
    show rows f g (A + d) n + (if A + d ≤ n then f (A + d) * g (n - (A + d)) else 0) = _
    rw [ce f g h d]
    split
    · rename_i hd; rw [h _ (by omega) hd, Int.zero_mul, Int.add_zero]
    · rw [Int.add_zero]
theorem sj {f g : Nat → Int} {A : Nat} (h : ∀ i, A ≤ i → f i = 0) (n : Nat) : rows f g A n = mul f g n := by
 rw [lF]
 rcases Nat.le_total A (n + 1) with h1 | h1
 ·have := ce f g (n := n) (fun i hi _ => h i hi) (n + 1 - A)
  rw [show A + (n + 1 - A) = n + 1 by omega] at this
  exact this.symm
 ·have := ce f g (A := n + 1) (n := n) (fun i hi hn => by omega) (A - (n + 1))
  rwa [show n + 1 + (A - (n + 1)) = A by omega] at this
def zDT (a b : List Int) : List Int := if vz a = [] ∨ vz b = [] then [] else vz ((List.range ((vz a).length + (vz b).length - 1)).map fun n => mul (cf a) (cf b) n)
theorem gi {l : List Int} {i : Nat} (h : (vz l).length ≤ i) : cf l i = 0 := by rw [← bJ]; exact vn h
theorem zBV (a b : List Int) (n : Nat) : cf (zDT a b) n = mul (cf a) (cf b) n := by
 unfold zDT
 split
 ·rename_i h
  rcases h with h | h
  ·rw [ay (f' := fun _ => 0) (lC.1 h) (fun _ => rfl), zero_mul]; rfl
  ·rw [mul_comm, ay (f' := fun _ => 0) (lC.1 h) (fun _ => rfl), zero_mul]; rfl
 ·rename_i h
  rw [bJ, vd]
  split
  ·rfl
  ·have h1 : 0 < (vz a).length := List.length_pos_iff.2 fun e => h (.inl e)
   exact (aU (A := (vz a).length) (B := (vz b).length) (fun i hi => gi hi) (fun i hi => gi hi) (by omega)).symm
def qL (f g : Nat → Int) (i k n : Nat) : Int := rows f g i n + if i ≤ n ∧ n < i + k then f i * g (n - i) else 0
def rowL (f g : Nat → Int) (N i k : Nat) : List Int := (List.range N).map (qL f g i k)
theorem rowL_len (f g : Nat → Int) (N i k : Nat) : (rowL f g N i k).length = N := by unfold rowL; rw [List.length_map, List.length_range]
end Go.Pz
namespace Go.Pz
theorem mul_zero (f : Nat → Int) (n : Nat) : mul f (fun _ => 0) n = 0 := by rw [mul_comm, zero_mul]
end Go.Pz
namespace Go.Pz
open Go.Nt Go.En
def Bd (l : List Int) (K : Nat) : Prop := ∀ i, (List.length (zA (cf l i).natAbs)) ≤ K
theorem Bd.mono {l : List Int} {K L : Nat} (h : Bd l K) (hk : K ≤ L) : Bd l L := fun i => Nat.le_trans (h i) hk
theorem Bd.nil (K : Nat) : Bd [] K := fun i => by rw [um, Int.natAbs_zero, zH]; exact Nat.zero_le _
theorem Bd.add {a b : List Int} {K : Nat} (h : Bd a K) (k : Bd b K) : Bd (zGN a b) (K + 1) := fun i => by
 rw [zFP]
 have := xn (cf a i) (cf b i)
 have := h i
 have := k i
 omega
theorem Bd.sub {a b : List Int} {K : Nat} (h : Bd a K) (k : Bd b K) : Bd (zGL a b) (K + 1) := fun i => by
 rw [zFO]
 have := ey (cf a i) (cf b i)
 have := h i
 have := k i
 omega
theorem Bd.shift {a : List Int} {K : Nat} (h : Bd a K) (n : Nat) : Bd (el a n) K := fun i => by
 rw [uj]
 split
 ·rw [Int.natAbs_zero, zH]; exact Nat.zero_le _
 ·exact h _
theorem oT {a b : List Int} {K L : Nat} (h : Bd a K) (k : Bd b L) : ∀ i n, (List.length (zA (rows (cf a) (cf b) i n).natAbs)) ≤ K + L + i
  | 0, n => by
    show (List.length (zA (Int.natAbs 0))) ≤ _
    rw [Int.natAbs_zero, zH]; exact Nat.zero_le _
  | i + 1, n => by
    show (List.length (zA (rows (cf a) (cf b) i n + if i ≤ n then cf a i * cf b (n - i) else 0).natAbs)) ≤ _
    have h1 := oT h k i n
    have h2 : (List.length (zA (if i ≤ n then cf a i * cf b (n - i) else 0).natAbs)) ≤ K + L := by
      split
      · have := qJ (cf a i) (cf b (n - i))
        have := h i
        have := k (n - i)
        omega
      · rw [Int.natAbs_zero, zH]; exact Nat.zero_le _
    have := xn (rows (cf a) (cf b) i n) (if i ≤ n then cf a i * cf b (n - i) else 0)
    omega
theorem Bd.mul {a b : List Int} {K L : Nat} (h : Bd a K) (k : Bd b L) : Bd (zDT a b) (K + L + a.length) := fun n => by
 rw [zBV, ← sj (A := a.length) (fun i hi => vn hi)]
 exact oT h k _ _
theorem Bd.raw {xs : List (Bool × List Nat)} {K : Nat} (h : Bd (zF xs) K) (i : Nat) : (List.length (zA (val (xs.getD i (false, [])).2))) ≤ K := by
 have := h i
 rwa [qb, vV] at this
end Go.Pz
namespace Go.En
open Go.Nt Go.Pz
def PR (K : Nat) : Type := { p : (Bool × List Nat) × (Bool × List Nat) // (List.length (zA (val p.1.2))) ≤ K ∧ (List.length (zA (val p.2.2))) ≤ K }
theorem ik {b : Option Nat} {l : List (Bool × List Nat)} {i : Nat} {z x : Bool × List Nat} {r : Mem} (h : l[i]? = some x) : ((b, zC (((fill l i z).set i x).flatMap zc)) :: r : Mem) = (b, zC ((fill l (i + 1) z).flatMap zc)) :: r := by rw [uP _ _ _ _ h]
theorem ii {b : Option Nat} {l l' : List (Bool × List Nat)} {r : Mem} (h : l = l') : ((b, zC (l.flatMap zc)) :: r : Mem) = (b, zC (l'.flatMap zc)) :: r := h ▸ rfl
theorem xq {l : List Int} {i : Nat} (h : i < l.length) : l[i]? = some (cf l i) := by
 unfold cf; rw [List.getD, List.getElem?_eq_getElem h]; rfl
theorem rg {β : Type} {l : List β} {i n : Nat} {z : β} (h : i = l.length) (hn : n = l.length) : (fill l i z).take n = l := by
 subst h; subst hn; rw [uQ, List.take_length]
end Go.En
namespace Go.Gf
def ch : Nat → Nat → Nat
 | _, 0 => 1
 | 0, _ + 1 => 0
 | n + 1, k + 1 => ch n k + ch n (k + 1)
def S (a n : Nat) : Nat → Nat
 | 0 => 0
 | m + 1 => S a n m + ch n m * a ^ m
end Go.Gf
namespace Go.Gf
end Go.Gf
namespace Go.Gf
theorem zHU (y : Nat) {k : Nat} (hk : 0 < k) : y / 2 ^ (k - 1) = 2 * (y / 2 ^ k) + y / 2 ^ (k - 1) % 2 := by
 have : y / 2 ^ k = y / 2 ^ (k - 1) / 2 := by
  rw [Nat.div_div_eq_div_mul, ← Nat.pow_succ]; congr 2; omega
 omega
theorem gT {x y p k o : Nat} (hk : 0 < k) (h : o = x * (y / 2 ^ k) % p) (hb : ¬ y / 2 ^ (k - 1) % 2 = 1) : 2 * o % p = x * (y / 2 ^ (k - 1)) % p := by
 have e := zHU y hk
 rw [h, Nat.mul_mod_mod]
 congr 1
 rw [e, show y / 2 ^ (k - 1) % 2 = 0 by omega]; grind
end Go.Gf
namespace Go.Gf
end Go.Gf
namespace Go.Gf
end Go.Gf
namespace Go.Pz
open Go.Gf
theorem cQ {P : Nat → Prop} (h : ¬ ∀ i, P i) : ∃ i, ¬ P i ∧ ∀ k, k < i → P k := by
  obtain ⟨n, hn⟩ : ∃ n, ¬ P n := Classical.byContradiction fun hk => h fun i => Classical.byContradiction fun hi => hk ⟨i, hi⟩
  induction n using Nat.strongRecOn with
  | ind n ih =>
    by_cases hc : ∀ k, k < n → P k
    · exact ⟨n, hn, hc⟩
    · obtain ⟨k, hk⟩ : ∃ k, ¬ (k < n → P k) := Classical.byContradiction fun hk => hc fun i => Classical.byContradiction fun hi => hk ⟨i, hi⟩
      exact ih k (Nat.lt_of_not_le fun hle => hk fun hlt => absurd hlt (by omega)) fun hp => hk fun _ => hp
end Go.Pz
namespace Go.Pz
open Go.Nt Go.En
theorem gK (a : List Int) (n : Nat) : (el a n).length = n + a.length := by unfold el; rw [List.length_append, List.length_replicate]
theorem qO (z : Int) : zv (nz z).1 (nz z).2 = z := zK z
theorem Bd.one {z : Int} {K : Nat} (h : (List.length (zA z.natAbs)) ≤ K) : Bd [z] K := fun i => by
 cases i with
 | zero => exact h
 | succ i => rw [eE, um, Int.natAbs_zero, zH]; exact Nat.zero_le _
theorem Bd.cons {z : Int} {l : List Int} {K : Nat} (h : (List.length (zA z.natAbs)) ≤ K) (k : Bd l K) : Bd (z :: l) K := fun i => by
 cases i with
 | zero => exact h
 | succ i => exact k i
end Go.Pz
namespace Go.En
open Go.Nt Go.Pz
theorem zM0 {k : Nat} {r : Mem} : ((some k, zC [isB false, SlM isU []]) :: r : Mem) = zM k 0 :: r := by
 show _ = (some k, zC [isB (decide ((0 : Int) < 0)), SlM isU (zA (0 : Int).natAbs)]) :: r
 rw [Int.natAbs_zero, zH]; rfl
theorem xc {l : List Int} {i : Nat} (h : i < l.length) : (l.map nz)[i]? = some (nz (cf l i)) := by rw [List.getElem?_map, xq h]; rfl
theorem zFQ {l : List Int} (h : ∀ y ∈ l, -9223372036854775808 ≤ y ∧ y < 9223372036854775808) : Bd l 1 := fun i => by
 rcases Nat.lt_or_ge i l.length with hi | hi
 ·have := h (cf l i) (List.mem_of_getElem? (xq hi))
  exact qF (by omega)
 ·rw [vn hi, Int.natAbs_zero, zH]; exact Nat.zero_le _
end Go.En
namespace Go.Mz
open Go.Pz Go.Nt Go.En
def tab (N C : Nat) (g : Nat → Nat → Int) : List Int := (List.range N).map fun j => g (j / C) (j % C)
theorem qe (N C : Nat) (g : Nat → Nat → Int) : (tab N C g).length = N := by unfold tab; rw [List.length_map, List.length_range]
theorem wz {C i k : Nat} (h : k < C) : (i * C + k) / C = i ∧ (i * C + k) % C = k := by
 have hC : 0 < C := by omega
 constructor
 ·rw [Nat.mul_comm, Nat.mul_add_div hC, Nat.div_eq_of_lt h, Nat.add_zero]
 ·rw [Nat.mul_comm, Nat.mul_add_mod, Nat.mod_eq_of_lt h]
theorem xf {N C i k : Nat} (g : Nat → Nat → Int) (hk : k < C) (hN : i * C + k < N) : cf (tab N C g) (i * C + k) = g i k := by
 unfold tab
 rw [vd, if_pos hN, (wz hk).1, (wz hk).2]
theorem eM {C i k : Nat} (g : Nat → Nat → Int) (hk : k < C) : tab (i * C + k) C g ++ [g i k] = tab (i * C + (k + 1)) C g := by
 unfold tab
 rw [← Nat.add_assoc, List.range_succ, List.map_append, List.map_singleton, (wz hk).1, (wz hk).2]
theorem eO {C i : Nat} (g : Nat → Nat → Int) : tab (i * C + C) C g = tab ((i + 1) * C + 0) C g := by rw [Nat.add_zero, Nat.succ_mul]
theorem qN {R C i k : Nat} (hi : i < R) (hk : k < C) : i * C + k < R * C := by
 have : (i + 1) * C ≤ R * C := Nat.mul_le_mul_right C hi
 rw [Nat.succ_mul] at this; omega
theorem qi {R C : Nat} (hR : R ≤ 64) (hC : C ≤ 64) : R * C ≤ 4096 := Nat.le_trans (Nat.mul_le_mul hR hC) (by decide)
theorem ve {N C K : Nat} {g : Nat → Nat → Int} (h : ∀ i k, (List.length (zA (g i k).natAbs)) ≤ K) : Bd (tab N C g) K := fun i => by
 unfold Go.Mz.tab
 rw [vd]
 split
 ·exact h _ _
 ·rw [Int.natAbs_zero, zH]; exact Nat.zero_le _
def xV (r c : Int) (n : Nat) : Bool := (decide (0 ≤ r) && decide (r ≤ 64)) && (decide (0 ≤ c) && decide (c ≤ 64)) && decide ((n : Int) = r * c)
theorem gv {r c : Int} {n : Nat} : xV r c n = true ↔ ∃ R C : Nat, r = R ∧ c = C ∧ R ≤ 64 ∧ C ≤ 64 ∧ n = R * C := by
 unfold xV
 simp only [Bool.and_eq_true, decide_eq_true_eq]
 constructor
 ·rintro ⟨⟨⟨h1, h2⟩, h3, h4⟩, h5⟩
  refine ⟨r.toNat, c.toNat, by omega, by omega, by omega, by omega, ?_⟩
  have : (n : Int) = (r.toNat * c.toNat : Nat) := by rw [h5, Int.natCast_mul]; congr 1 <;> omega
  omega
 ·rintro ⟨R, C, rfl, rfl, h1, h2, rfl⟩
  exact ⟨⟨⟨by omega, by omega⟩, by omega, by omega⟩, by rw [Int.natCast_mul]⟩
theorem qE {R C n : Nat} (h1 : R ≤ 64) (h2 : C ≤ 64) (h : n = R * C) : xV (R : Int) (C : Int) n = true := gv.2 ⟨R, C, rfl, rfl, h1, h2, h⟩
theorem dh {r c : Int} (h : (0 ≤ r ∧ r ≤ 64) ∧ (0 ≤ c ∧ c ≤ 64)) : 0 ≤ r * c ∧ r * c ≤ 4096 := by
 refine ⟨Int.mul_nonneg h.1.1 h.2.1, ?_⟩
 have h1 : r * c ≤ 64 * c := Int.mul_le_mul_of_nonneg_right h.1.2 h.2.1
 omega
def jG (f g : Nat → Int) : Nat → Int
 | 0 => 0
 | n + 1 => jG f g n + f n * g n
theorem fW {f f' g g' : Nat → Int} : ∀ n, (∀ i, i < n → f i = f' i) → (∀ i, i < n → g i = g' i) → jG f g n = jG f' g' n
  | 0, _, _ => rfl
  | n + 1, h, k => by
    show jG f g n + f n * g n = jG f' g' n + f' n * g' n
    rw [fW n (fun i hi => h i (by omega)) (fun i hi => k i (by omega)), h n (by omega), k n (by omega)]
theorem bG {f g : Nat → Int} {K L : Nat} (h : ∀ i, (List.length (zA (f i).natAbs)) ≤ K) (k : ∀ i, (List.length (zA (g i).natAbs)) ≤ L) : ∀ n, (List.length (zA (jG f g n).natAbs)) ≤ K + L + n
  | 0 => by show (List.length (zA (Int.natAbs 0))) ≤ _; rw [Int.natAbs_zero, zH]; exact Nat.zero_le _
  | n + 1 => by
    have h1 := bG h k n
    have h2 := qJ (f n) (g n)
    have h3 := h n
    have h4 := k n
    have h5 := xn (jG f g n) (f n * g n)
    show (List.length (zA (jG f g n + f n * g n).natAbs)) ≤ _
    omega
end Go.Mz
namespace Go.En
open Go.Nt Go.Pz Go.Mz
abbrev PI (R C : Nat) : Type := { p : Nat × Nat // p.1 < R ∧ p.2 < C }
abbrev zHT (P : Program) (R C : Nat) (f : Nat → Nat → Bool × List Nat) : VP := bR (ι := PI R C) P (fun p => [isI (p.1.1 : Int), isI (p.1.2 : Int)]) (fun p => zu (zc (f p.1.1 p.1.2)))
abbrev isM (r c : Int) (xs : List (Bool × List Nat)) : VP := zu [isI r, isI c, SlK 2 zc xs]
abbrev xQ (R C : Nat) (L : List Int) : VP := zu [isI (R : Int), isI (C : Int), isP L]
abbrev ptM (r c : Int) (xs : List (Bool × List Nat)) : VP := aD [isI r, isI c, SlK 2 zc xs]
abbrev rW : VP := zu [isI 0, isI 0, SlK 2 zc ([] : List (Bool × List Nat))]
theorem bD {R C : Nat} {L L' : List Int} (h : L = L') : xQ R C L = xQ R C L' := h ▸ rfl
theorem kB {α : Type} {fk : α → List VP} {g : Gr α} {ys ys' : List α} {n : Nat} {b : Nat} {A B : VP} {r : Mem} (hn : n = ys'.length) (h : ys = ys') : (zz fk g ys :: (some b, zC [A, B, zj g n]) :: r : Mem) = zz fk g ys' :: (some b, zC [A, B, zj g ys'.length]) :: r := by subst h; subst hn; rfl
theorem zvz (f : Nat → Nat → Int) : (fun i k => zv (nz (f i k)).1 (nz (f i k)).2) = f := by funext i k; exact qO _
end Go.En
namespace Go.En
open Go.Nt Go.Pz Go.Mz
abbrev Row : Type := Gr (Bool × List Nat) × List Int
abbrev qL (r : Row) : VP := zj r.1 (r.2.map nz).length
abbrev qf (r : Row) : Option Nat × MP := zz zc r.1 (r.2.map nz)
def pv (ps : List Nat) : List Int := ps.map fun (n : Nat) => (n : Int)
theorem jz (ps : List Nat) : (pv ps).length = ps.length := List.length_map _
theorem jA {pre : Mem} {rs : List Row} {i : Nat} {r : Row} (h : rs[i]? = some r) : (pre ++ rs.map qf)[pre.length + i]? = some (qf r) := by
 rw [List.getElem?_append_right (by omega), Nat.add_sub_cancel_left, List.getElem?_map, h]; rfl
theorem pi {pre : Mem} {rs : List Row} {i j : Nat} {r : Row} {v : Int} (h : rs[i]? = some r) : (pre ++ rs.map qf).set (pre.length + i) (zz zc r.1 ((r.2.map nz).set j (nz v))) = pre ++ (rs.set i (r.1, r.2.set j v)).map qf := by
 rw [List.set_append_right _ _ (by omega), Nat.add_sub_cancel_left, ← List.map_set, List.map_set (f := qf)]
def rowsOf (R C : Nat) (L : List Int) : List (List Int) := (List.range R).map fun i => (List.range C).map fun k => cf L (i * C + k)
theorem rowsOf_len (R C : Nat) (L : List Int) : (rowsOf R C L).length = R := by unfold rowsOf; rw [List.length_map, List.length_range]
theorem swap_perm {β : Type} {l : List β} {i j : Nat} {a b : β} (hi : l[i]? = some a) (hj : l[j]? = some b) (hne : i ≠ j) : ((l.set i b).set j a).Perm l := by
  have hil : i < l.length := by
    rcases Nat.lt_or_ge i l.length with h | h
    · exact h
    · rw [List.getElem?_eq_none h] at hi; cases hi
  have hjl : j < l.length := by
    rcases Nat.lt_or_ge j l.length with h | h
    · exact h
    · rw [List.getElem?_eq_none h] at hj; cases hj
  have p1 : ∀ (m : List β) (k : Nat) (x : β), m[k]? = some x → m.Perm (x :: m.eraseIdx k) := by
    intro m
    induction m with
    | nil => intro k x h; simp at h
    | cons y m ih =>
      intro k x h
      cases k with
      | zero =>
        obtain rfl : y = x := by simpa using h
        exact List.Perm.refl _
      | succ k => exact ((ih k x (by simpa using h)).cons y).trans (List.Perm.swap x y _)
  have q1 := p1 l i a hi
  have q2 := p1 (l.set i b) i b (List.getElem?_set_self hil)
  rw [List.eraseIdx_set_eq] at q2
  have q3 := p1 (l.set i b) j b (by rw [List.getElem?_set_ne hne]; exact hj)
  have q4 := p1 ((l.set i b).set j a) j a (List.getElem?_set_self (by rw [List.length_set]; exact hjl))
  rw [List.eraseIdx_set_eq] at q4
  have q5 : ((l.set i b).eraseIdx j).Perm (l.eraseIdx i) := (q3.symm.trans q2).cons_inv
  exact q4.trans ((q5.cons a).trans q1.symm)
theorem rD {pre : Mem} {rs rs' : List Row} (h : rs'.Perm rs) : (pre ++ rs.map qf).Perm (pre ++ rs'.map qf) := (h.symm.map qf).append_left pre
def zHG (rs : List Row) (top col : Nat) (odd : Bool) (rs' : List Row) (odd' ok : Bool) : Prop :=
 (ok = false ∧ rs' = rs ∧ odd' = odd ∧ ∀ (j : Nat) (r : Row), top ≤ j → rs[j]? = some r → cf r.2 col = 0) ∨
 (ok = true ∧ ∃ (i : Nat) (r t : Row), top ≤ i ∧ rs[i]? = some r ∧ rs[top]? = some t ∧ cf r.2 col ≠ 0 ∧ (∀ (j : Nat) (r' : Row), top ≤ j → j < i → rs[j]? = some r' → cf r'.2 col = 0) ∧
  rs' = (if i = top then rs else (rs.set i t).set top r) ∧ odd' = if i = top then odd else !odd)
def exQ (x l : Int) : Int := if l ≠ 0 ∧ x.tmod l = 0 then x.tdiv l else 0
def clr (p row : List Int) (col : Nat) (last : Int) (k : Nat) : Int := exQ (cf row k * cf p col - cf row col * cf p k) last
def clrL (p row : List Int) (col : Nat) (last : Int) : List Int := (List.range row.length).map (clr p row col last)
def zEL (p row : List Int) (col : Nat) (last : Int) (k : Nat) : List Int := (clrL p row col last).take k ++ row.drop k
theorem clrL_len (p row : List Int) (col : Nat) (last : Int) : (clrL p row col last).length = row.length := by unfold clrL; rw [List.length_map, List.length_range]
theorem rL (p row : List Int) (col : Nat) (last : Int) : zEL p row col last 0 = row := by unfold zEL; rw [List.take_zero, List.drop_zero]; rfl
theorem iZ (ps : List Nat) (n : Nat) : pv ps ++ [(n : Int)] = pv (ps ++ [n]) := by unfold pv; rw [List.map_append]; rfl
theorem kt {β : Type} {l : List β} {i : Nat} {x : β} (h : l[i]? = some x) : l.set i x = l := by
 have hi : i < l.length := by
  rcases Nat.lt_or_ge i l.length with h' | h'
  ·exact h'
  ·rw [List.getElem?_eq_none h'] at h; cases h
 have e : l[i] = x := by rw [List.getElem?_eq_getElem hi] at h; exact Option.some.inj h
 subst e
 exact List.set_getElem_self hi
theorem zCE {a b c d : Option Nat × MP} {rs rs' : List Row} (h : rs = rs') : (a :: b :: c :: d :: rs.map qf : Mem) = a :: b :: c :: d :: rs'.map qf := h ▸ rfl
theorem wV {rs : List Row} {i col : Nat} {r : Row} {p : List Int} {last : Int} (h : rs[i]? = some r) : rs = rs.set i (r.1, zEL p r.2 col last 0) := by rw [rL]; exact (kt h).symm
theorem oA {pre : Mem} {rs : List Row} {X : Row} {i j : Nat} {v : Int} {L : List Int} (h : (rs.set i X)[i]? = some X) (e : X.2.set j v = L) :
  (pre ++ (rs.set i X).map qf).set (pre.length + i) (zz zc X.1 ((X.2.map nz).set j (nz v))) = pre ++ (rs.set i (X.1, L)).map qf := by
 rw [pi h, e, List.set_set]
theorem oH {gt : Gr Row} {rs : List Row} {i : Nat} {r : Row} {L : List Int} (h : rs[i]? = some r) (hl : L.length = r.2.length) : grM qL gt (rs.set i (r.1, L)) = grM qL gt rs := by
 unfold grM
 have e : (rs.set i (r.1, L)).map qL = rs.map qL := by
  rw [List.map_set]
  refine kt ?_
  rw [List.getElem?_map, h]
  show some (zj r.1 (r.2.map nz).length) = some (zj r.1 (L.map nz).length)
  rw [List.length_map, List.length_map, hl]
 rw [List.map_append, List.map_append, e]
end Go.En
namespace Go.Hn
open Go.Nt Go.Pz Go.Mz Go.En
def mx2 (x : Int) (p : List Int) (y : Int) (q : List Int) : List Int := (List.range p.length).map fun k => x * cf p k + y * cf q k
theorem ax (x : Int) (p : List Int) (y : Int) (q : List Int) : (mx2 x p y q).length = p.length := by unfold mx2; rw [List.length_map, List.length_range]
theorem vl {x : Int} {p : List Int} {y : Int} {q : List Int} (h : q.length = p.length) (k : Nat) : cf (mx2 x p y q) k = x * cf p k + y * cf q k := by
 unfold mx2
 rw [vd]
 split
 ·rfl
 ·rw [vn (l := p) (by omega), vn (l := q) (by omega)]; omega
theorem kV {x y : Int} {p q : List Int} {A B K L N : Nat} (hx : (List.length (zA x.natAbs)) ≤ A) (hp : Bd p K) (hy : (List.length (zA y.natAbs)) ≤ B) (hq : Bd q L) (h1 : A + K + 1 ≤ N) (h2 : B + L + 1 ≤ N) : Bd (mx2 x p y q) N := fun k => by
 unfold mx2
 rw [vd]
 split
 ·have e1 := xn (x * cf p k) (y * cf q k)
  have e2 := qJ x (cf p k)
  have e3 := qJ y (cf q k)
  have e4 := hp k
  have e5 := hq k
  omega
 ·rw [Int.natAbs_zero, zH]; exact Nat.zero_le _
def xgg (a b : Int) : Int := (Nat.gcd a.natAbs b.natAbs : Nat)
def xgx (a b : Int) : Int := if b = 0 then sgn a else xg a b
def xgy (a b : Int) : Int := if b = 0 then 0 else (xgg a b - xg a b * a).tdiv b
theorem zCV (a b : Int) : 0 ≤ xgg a b := Int.natCast_nonneg _
theorem kf {a b : Int} : xgg a b = 0 ↔ a = 0 ∧ b = 0 := by
 unfold xgg
 constructor
 ·intro h
  have h1 : Nat.gcd a.natAbs b.natAbs = 0 := by omega
  have := Nat.gcd_eq_zero_iff.1 h1
  omega
 ·rintro ⟨rfl, rfl⟩; rfl
theorem bf (a b : Int) : xgg a b ∣ a := Int.natAbs_dvd_natAbs.1 (by unfold xgg; rw [Int.natAbs_natCast]; exact Nat.gcd_dvd_left _ _)
theorem ah (a b : Int) : xgg a b ∣ b := Int.natAbs_dvd_natAbs.1 (by unfold xgg; rw [Int.natAbs_natCast]; exact Nat.gcd_dvd_right _ _)
theorem sA {a b : Int} (h : b ≠ 0) : b ∣ xgg a b - xg a b * a := by
 have hc := (eD a b).2.1
 rw [(eD a b).1] at hc
 show b ∣ ((Nat.gcd a.natAbs b.natAbs : Nat) : Int) - xg a b * a
 unfold xg
 obtain ⟨u, hu⟩ := hc
 have hg := bf a b
 have hg2 := ah a b
 obtain ⟨v, hv⟩ := hg
 obtain ⟨w, hw⟩ := hg2
 have hgp : 0 < xgg a b := by
  have := zCV a b
  rcases Int.lt_or_eq_of_le this with h1 | h1
  ·exact h1
  ·exact absurd (kf.1 h1.symm).2 h
 change xgg a b - (cof a b 1 0).2 * a = b * u at hu
 show b ∣ xgg a b - (cof a b 1 0).2 % ((b.natAbs : Int) / xgg a b) * a
 generalize (cof a b 1 0).2 = c at *
 generalize hG : xgg a b = g at *
 have e1 : (b.natAbs : Int) / g = (w.natAbs : Int) := by
  have : (b.natAbs : Int) = g * (w.natAbs : Int) := by
   rw [hw, Int.natAbs_mul, Int.natCast_mul]
   rw [show ((g.natAbs : Nat) : Int) = g by omega]
  rw [this, Int.mul_ediv_cancel_left _ (by omega)]
 rw [e1]
 have e2 := Int.emod_add_mul_ediv c (w.natAbs : Int)
 obtain ⟨s, hs⟩ : ∃ s : Int, (w.natAbs : Int) = w * s := by
  rcases Int.natAbs_eq w with h1 | h1
  ·exact ⟨1, by omega⟩
  ·exact ⟨-1, by omega⟩
 refine ⟨u + s * (c / (w.natAbs : Int)) * v, ?_⟩
 have e3 : c % (w.natAbs : Int) = c - w * s * (c / (w.natAbs : Int)) := by rw [hs] at e2 ⊢; omega
 rw [e3]
 generalize c / (w.natAbs : Int) = t
 have hb : b * (u + s * t * v) = b * u + (g * w) * s * t * v := by rw [← hw]; grind
 rw [hb, ← hu]
 have ha : a = g * v := hv
 grind
theorem gB (a b : Int) : xgx a b * a + xgy a b * b = xgg a b := by
 unfold xgx xgy
 by_cases h : b = 0
 ·rw [if_pos h, if_pos h, h]
  unfold xgg
  rw [show (0 : Int).natAbs = 0 from rfl, Nat.gcd_zero_right]
  rcases qS a with ⟨e, e2⟩ | ⟨e, e2⟩ | ⟨e, e2⟩ <;> rw [e] <;> omega
 ·rw [if_neg h, if_neg h]
  obtain ⟨q, hq⟩ := sA (a := a) h
  rw [hq, Int.mul_tdiv_cancel_left _ h]
  have : b * q = q * b := Int.mul_comm _ _
  omega
theorem zCU {a b : Int} (h : b ≠ 0) : (if b ≠ 0 ∧ (xgg a b - xg a b * a).tmod b = 0 then (xgg a b - xg a b * a).tdiv b else 0) = xgy a b := by
 rw [if_pos ⟨h, Int.tmod_eq_zero_of_dvd (sA h)⟩]
 unfold xgy
 rw [if_neg h]
theorem ry (a b : Int) {K : Nat} (hb : (List.length (zA b.natAbs)) ≤ K) : (List.length (zA (xgx a b).natAbs)) ≤ K + 1 := by
 unfold xgx
 split
 ·have : (List.length (zA (sgn a).natAbs)) ≤ 1 := qF (by have := gL a; omega)
  omega
 ·rename_i h
  exact Nat.le_trans (qI (rz h)) (by omega)
theorem sL {x b : Int} {m : Nat} (hb : b ≠ 0) (h : x.natAbs ≤ b.natAbs * m) : (x.tdiv b).natAbs ≤ m := by
 rw [Int.natAbs_tdiv]
 exact Nat.div_le_of_le_mul h
theorem rx (a b : Int) {K : Nat} (ha : (List.length (zA a.natAbs)) ≤ K) : (List.length (zA (xgy a b).natAbs)) ≤ K + 2 := by
 unfold xgy
 split
 ·rw [Int.natAbs_zero, zH]; exact Nat.zero_le _
 ·rename_i h
  have h1 : ((xgg a b - xg a b * a).tdiv b).natAbs ≤ 1 + a.natAbs := by
   refine sL h ?_
   have e1 := Int.natAbs_sub_le (xgg a b) (xg a b * a)
   have e2 : (xgg a b).natAbs ≤ b.natAbs := by unfold xgg; rw [Int.natAbs_natCast]; exact Nat.gcd_le_right _ (by omega)
   rw [Int.natAbs_mul] at e1
   have e3 := Nat.mul_le_mul_right a.natAbs (rz (A := a) h)
   rw [Nat.mul_add, Nat.mul_one]
   omega
  refine Nat.le_trans (qI h1) (Nat.le_trans (jN _ _) ?_)
  have := ib
  omega
/-! ### the steps -/
def jn (rs : List (List Int)) (t i col : Nat) : List (List Int) :=
 if xgg (cf (rs.getD t []) col) (cf (rs.getD i []) col) = 0 then rs else
 (rs.set t (mx2 (xgx (cf (rs.getD t []) col) (cf (rs.getD i []) col)) (rs.getD t []) (xgy (cf (rs.getD t []) col) (cf (rs.getD i []) col)) (rs.getD i []))).set i
  (mx2 (-((cf (rs.getD i []) col).tdiv (xgg (cf (rs.getD t []) col) (cf (rs.getD i []) col)))) (rs.getD t []) ((cf (rs.getD t []) col).tdiv (xgg (cf (rs.getD t []) col) (cf (rs.getD i []) col))) (rs.getD i []))
theorem xW {α : Type} {l : List α} {i : Nat} {x d : α} (h : l[i]? = some x) : l.getD i d = x := by rw [List.getD, h]; rfl
theorem lt_of_some {α : Type} {l : List α} {i : Nat} {x : α} (h : l[i]? = some x) : i < l.length := by
 rcases Nat.lt_or_ge i l.length with h1 | h1
 ·exact h1
 ·rw [List.getElem?_eq_none h1] at h; cases h
theorem zCG {rs : List (List Int)} {t i col : Nat} {p q : List Int} (hp : rs[t]? = some p) (hq : rs[i]? = some q) (h : xgg (cf p col) (cf q col) = 0) : jn rs t i col = rs := by
 unfold jn
 rw [xW hp, xW hq, if_pos h]
theorem zCH {rs : List (List Int)} {t i col : Nat} {p q : List Int} (hp : rs[t]? = some p) (hq : rs[i]? = some q) (h : ¬ xgg (cf p col) (cf q col) = 0) : jn rs t i col =
  (rs.set t (mx2 (xgx (cf p col) (cf q col)) p (xgy (cf p col) (cf q col)) q)).set i (mx2 (-((cf q col).tdiv (xgg (cf p col) (cf q col)))) p ((cf p col).tdiv (xgg (cf p col) (cf q col))) q) := by
 unfold jn
 rw [xW hp, xW hq, if_neg h]
def jns (rs : List (List Int)) (t col : Nat) : Nat → List (List Int)
 | 0 => rs
 | n + 1 => jn (jns rs t col n) t (t + 1 + n) col
def rd (rs : List (List Int)) (t i col : Nat) : List (List Int) := rs.set i (mx2 1 (rs.getD i []) (-(cf (rs.getD i []) col / cf (rs.getD t []) col)) (rs.getD t []))
def rds (rs : List (List Int)) (t col : Nat) : Nat → List (List Int)
 | 0 => rs
 | n + 1 => rd (rds rs t col n) t n col
def hsg (rs : List (List Int)) (t col : Nat) : List (List Int) := if cf (rs.getD t []) col < 0 then rs.set t (mx2 (-1) (rs.getD t []) 0 (rs.getD t [])) else rs
structure HS where
 rows : List (List Int)
 top : Nat
def hjs (s : HS) (col : Nat) : List (List Int) := jns s.rows s.top col (s.rows.length - (s.top + 1))
def xt (s : HS) (col : Nat) : HS := if cf ((hjs s col).getD s.top []) col = 0 then ⟨hjs s col, s.top⟩ else ⟨rds (hsg (hjs s col) s.top col) s.top col s.top, s.top + 1⟩
def qK (s : HS) : Nat → HS
 | 0 => s
 | c + 1 => if (qK s c).top < (qK s c).rows.length then xt (qK s c) c else qK s c
def wR (C R : Nat) (L : List Int) (i : Nat) : List Int := (List.range (C + R)).map fun k => if k < C then cf L (i * C + k) else if k = C + i then 1 else 0
def qc (C R : Nat) (L : List Int) (n : Nat) : List (List Int) := (List.range n).map (wR C R L)
def hrm (R C : Nat) (L : List Int) : HS := qK ⟨qc C R L R, 0⟩ C
/-! ### sizes -/
theorem nM (rs : List (List Int)) (t i col : Nat) : (jn rs t i col).length = rs.length := by unfold jn; split <;> simp
theorem xO (rs : List (List Int)) (t col : Nat) : ∀ n, (jns rs t col n).length = rs.length
 | 0 => rfl
 | n + 1 => (nM _ _ _ _).trans (xO rs t col n)
theorem zDS (rs : List (List Int)) (t i col : Nat) : (rd rs t i col).length = rs.length := by unfold rd; simp
theorem wq (rs : List (List Int)) (t col : Nat) : ∀ n, (rds rs t col n).length = rs.length
 | 0 => rfl
 | n + 1 => (zDS _ _ _ _).trans (wq rs t col n)
theorem jE (rs : List (List Int)) (t col : Nat) : (hsg rs t col).length = rs.length := by unfold hsg; split <;> simp
theorem wv {rs : List (List Int)} {t col j : Nat} (hj : j < t) : ∀ n, (jns rs t col n)[j]? = rs[j]?
  | 0 => rfl
  | n + 1 => by
    show (jn _ _ _ _)[j]? = _
    unfold jn
    split
    · exact wv hj n
    · rw [List.getElem?_set_ne (by omega), List.getElem?_set_ne (by omega)]; exact wv hj n
theorem dq {rs : List (List Int)} {t col : Nat} : ∀ {n j : Nat}, t + 1 + n ≤ j → (jns rs t col n)[j]? = rs[j]?
  | 0, _, _ => rfl
  | n + 1, j, hj => by
    show (jn _ _ _ _)[j]? = _
    unfold jn
    split
    · exact dq (by omega)
    · rw [List.getElem?_set_ne (by omega), List.getElem?_set_ne (by omega)]; exact dq (by omega)
theorem bv {rs : List (List Int)} {t col : Nat} : ∀ {n j : Nat}, n ≤ j → (rds rs t col n)[j]? = rs[j]?
  | 0, _, _ => rfl
  | n + 1, j, hj => by
    show (rd _ _ _ _)[j]? = _
    unfold rd
    rw [List.getElem?_set_ne (by omega)]; exact bv (by omega)
theorem jw {α : Type} {P : α → Prop} {l : List α} {i : Nat} {x : α} (h : ∀ r ∈ l, P r) (hx : P x) : ∀ r ∈ l.set i x, P r := fun r hr => by
 rcases List.mem_or_eq_of_mem_set hr with h1 | rfl
 ·exact h r h1
 ·exact hx
theorem xL {P : List Int → Prop} {l : List (List Int)} {i : Nat} (h : ∀ r ∈ l, P r) (hi : i < l.length) : P (l.getD i []) := by
 rw [List.getD, List.getElem?_eq_getElem hi]; exact h _ (List.getElem_mem _)
theorem zEP {rs : List (List Int)} {t i col W : Nat} (h : ∀ r ∈ rs, r.length = W) (ht : t < rs.length) : ∀ r ∈ jn rs t i col, r.length = W := by
 unfold jn
 split
 ·exact h
 ·have e := xL h ht
  exact jw (jw h (by rw [ax, e])) (by rw [ax, e])
theorem vZ {rs : List (List Int)} {t col W : Nat} (h : ∀ r ∈ rs, r.length = W) (ht : t < rs.length) : ∀ n, ∀ r ∈ jns rs t col n, r.length = W
 | 0 => h
 | n + 1 => zEP (vZ h ht n) (by rw [xO]; exact ht)
theorem dc {rs : List (List Int)} {t col W : Nat} (h : ∀ r ∈ rs, r.length = W) (ht : t < rs.length) : ∀ n, n ≤ t → ∀ r ∈ rds rs t col n, r.length = W
  | 0, _ => h
  | n + 1, hn => by
    have ih := dc h ht (col := col) n (by omega)
    exact jw ih (by rw [ax]; exact xL ih (by rw [wq]; omega))
theorem dz {rs : List (List Int)} {t col W : Nat} (h : ∀ r ∈ rs, r.length = W) (ht : t < rs.length) : ∀ r ∈ hsg rs t col, r.length = W := by
 unfold hsg
 split
 ·exact jw h (by rw [ax]; exact xL h ht)
 ·exact h
theorem tw (s : HS) (col : Nat) : (xt s col).rows.length = s.rows.length := by
 unfold xt hjs
 split
 ·exact xO _ _ _ _
 ·show (rds _ _ _ _).length = _
  rw [wq, jE, xO]
theorem tu (s : HS) (col : Nat) (h : s.top < s.rows.length) : (xt s col).top ≤ s.rows.length := by
 unfold xt
 split
 ·show s.top ≤ _; omega
 ·show s.top + 1 ≤ _; omega
theorem tv {s : HS} {W : Nat} (col : Nat) (h : s.top < s.rows.length) (hr : ∀ r ∈ s.rows, r.length = W) : ∀ r ∈ (xt s col).rows, r.length = W := by
 unfold xt hjs
 split
 ·exact vZ hr h _
 ·exact dc (dz (vZ hr h _) (by rw [xO]; exact h)) (by rw [jE, xO]; exact h) _ (Nat.le_refl _)
/-! ### how great the numbers get -/
theorem kJ {a b : Int} (hb : 0 < b) {K : Nat} (h : (List.length (zA a.natAbs)) ≤ K) : (List.length (zA (a / b).natAbs)) ≤ K := by
 refine Nat.le_trans (qI ?_) h
 have h1 : 0 ≤ a ∨ a < 0 := by omega
 rcases h1 with h1 | h1
 ·have h2 := Int.ediv_le_self (b := b) (a := a) h1
  have h3 := Int.ediv_nonneg h1 (by omega : 0 ≤ b)
  omega
 ·have h2 : a ≤ a / b := by
   rw [Int.le_ediv_iff_mul_le hb]
   have := Int.mul_le_mul_of_nonneg_left (show (1 : Int) ≤ b by omega) (show 0 ≤ -a by omega)
   rw [Int.neg_mul, Int.neg_mul, Int.mul_one] at this
   omega
  have h3 : a / b < 0 := Int.ediv_neg_of_neg_of_pos h1 hb
  omega
theorem yy {p : List Int} {K : Nat} (h : Bd p K) : Bd (mx2 (-1) p 0 p) K := fun k => by
 unfold mx2
 rw [vd]
 split
 ·rw [show -1 * cf p k + 0 * cf p k = -(cf p k) by omega, Int.natAbs_neg]; exact h k
 ·rw [Int.natAbs_zero, zH]; exact Nat.zero_le _
theorem zGU {rs : List (List Int)} {t i col P K : Nat} (ht : Bd (rs.getD t []) P) (hi : Bd (rs.getD i []) K) (h : ∀ r ∈ rs, Bd r P) : ∀ r ∈ jn rs t i col, Bd r (P + (K + 3)) := by
 unfold jn
 split
 ·exact fun r hr => (h r hr).mono (by omega)
 ·refine jw (jw (fun r hr => (h r hr).mono (by omega)) ?_) ?_
  ·exact kV (ry _ _ (hi col)) ht (rx _ _ (ht col)) hi (by omega) (by omega)
  ·refine kV (A := K) (B := P) ?_ ht ?_ hi (by omega) (by omega)
   ·rw [Int.natAbs_neg]; exact Nat.le_trans (jp _ _) (hi col)
   ·exact Nat.le_trans (jp _ _) (ht col)
theorem jF {rs : List (List Int)} {K : Nat} (h : ∀ r ∈ rs, Bd r K) (i : Nat) : Bd (rs.getD i []) K := by
 rcases Nat.lt_or_ge i rs.length with h1 | h1
 ·exact xL h h1
 ·rw [List.getD, List.getElem?_eq_none h1]; exact Bd.nil K
theorem fJ {rs : List (List Int)} {t col K : Nat} (h : ∀ r ∈ rs, Bd r K) : ∀ n, ∀ r ∈ jns rs t col n, Bd r (K + n * (K + 3))
  | 0 => fun r hr => (h r hr).mono (by omega)
  | n + 1 => fun r hr => by
    have ih := fJ (t := t) (col := col) h n
    have e : (jns rs t col n).getD (t + 1 + n) [] = rs.getD (t + 1 + n) [] := by rw [List.getD, dq (Nat.le_refl _)]; rfl
    refine (zGU (jF ih t) (by rw [e]; exact jF h _) ih r hr).mono ?_
    rw [Nat.succ_mul]; omega
theorem nP {rs : List (List Int)} {t col K : Nat} (h : ∀ r ∈ rs, Bd r K) : ∀ r ∈ hsg rs t col, Bd r K := by
 unfold hsg
 split
 ·exact jw h (yy (jF h t))
 ·exact h
theorem mz {rs : List (List Int)} {t col K P : Nat} (hb : 0 < cf (rs.getD t []) col) (ht : Bd (rs.getD t []) P) (hl : ∀ i, i < t → Bd (rs.getD i []) K) (hP : ∀ r ∈ rs, Bd r P) (hKP : K ≤ P) : ∀ n, n ≤ t → ∀ r ∈ rds rs t col n, Bd r (P + K + 2)
  | 0, _ => fun r hr => (hP r hr).mono (by omega)
  | n + 1, hn => by
    have ih := mz hb ht hl hP hKP n (by omega)
    have e1 : (rds rs t col n).getD t [] = rs.getD t [] := by rw [List.getD, bv (by omega)]; rfl
    have e2 : (rds rs t col n).getD n [] = rs.getD n [] := by rw [List.getD, bv (Nat.le_refl _)]; rfl
    show ∀ r ∈ rd _ _ _ _, _
    unfold rd
    rw [e1, e2]
    have hn2 := hl n (by omega)
    have h1 : (List.length (zA (1 : Int).natAbs)) ≤ 1 := qF (by decide)
    exact jw ih (kV (A := 1) (B := K) h1 hn2 (by rw [Int.natAbs_neg]; exact kJ hb (hn2 col)) ht (by omega) (by omega))
theorem zAW {s : HS} {K : Nat} (col : Nat) (ht : s.top < s.rows.length) (h : ∀ r ∈ s.rows, Bd r K) : ∀ r ∈ (xt s col).rows, Bd r ((K + 3) * (s.rows.length + 2) - 3) := by
 have hm : (K + 3) * (s.rows.length + 2) = K * s.rows.length + 2 * K + 3 * s.rows.length + 6 := by rw [Nat.add_mul, Nat.mul_add, Nat.mul_add]; omega
 have hm2 : (s.rows.length - (s.top + 1)) * (K + 3) ≤ s.rows.length * (K + 3) := Nat.mul_le_mul_right _ (by omega)
 have hm3 : s.rows.length * (K + 3) = K * s.rows.length + 3 * s.rows.length := by rw [Nat.mul_add, Nat.mul_comm s.rows.length K, Nat.mul_comm s.rows.length 3]
 have hj := fJ (t := s.top) (col := col) h (s.rows.length - (s.top + 1))
 unfold xt hjs
 split
 ·exact fun r hr => (hj r hr).mono (by omega)
 ·rename_i h0
  have hg := nP (t := s.top) (col := col) hj
  have htj : s.top < (jns s.rows s.top col (s.rows.length - (s.top + 1))).length := by rw [xO]; exact ht
  have hpos : 0 < cf ((hsg (jns s.rows s.top col (s.rows.length - (s.top + 1))) s.top col).getD s.top []) col := by
   unfold hsg
   split
   ·rename_i h1
    rw [List.getD, List.getElem?_set_self htj]
    show 0 < cf (mx2 _ _ _ _) col
    rw [vl rfl]; omega
   ·rename_i h1; omega
  have hlow : ∀ i, i < s.top → Bd ((hsg (jns s.rows s.top col (s.rows.length - (s.top + 1))) s.top col).getD i []) K := fun i hi => by
   have e : (hsg (jns s.rows s.top col (s.rows.length - (s.top + 1))) s.top col).getD i [] = s.rows.getD i [] := by
    unfold hsg
    split
    ·rw [List.getD, List.getElem?_set_ne (by omega), wv hi]; rfl
    ·rw [List.getD, wv hi]; rfl
   rw [e]; exact jF h i
  exact fun r hr => (mz hpos (jF hg _) hlow hg (by omega) s.top (Nat.le_refl _) r hr).mono (by omega)
theorem oy {rs : List (List Int)} {t col : Nat} {p : List Int} (hp : rs[t]? = some p) (h0 : ¬ cf p col = 0) : 0 < cf ((hsg rs t col).getD t []) col := by
 unfold hsg
 rw [xW hp]
 split
 ·rw [List.getD, List.getElem?_set_self (lt_of_some hp)]
  show 0 < cf (mx2 _ _ _ _) col
  rw [vl rfl]; omega
 ·rw [xW hp]; omega
structure HOk (R W K : Nat) (s : HS) : Prop where
 len : s.rows.length = R
 top : s.top ≤ R
 row : ∀ r ∈ s.rows, r.length = W
 bd : ∀ r ∈ s.rows, Bd r K
theorem jq {R W K : Nat} {s : HS} (h : HOk R W K s) : ∀ c, HOk R W ((K + 3) * (R + 2) ^ c - 3) (qK s c)
  | 0 => ⟨h.len, h.top, h.row, fun r hr => (h.bd r hr).mono (by rw [Nat.pow_zero]; omega)⟩
  | c + 1 => by
    have ih := jq h c
    have hp : 1 ≤ (R + 2) ^ c := Nat.one_le_pow _ _ (by omega)
    have hp2 := Nat.mul_le_mul_left (K + 3) hp
    have e : (K + 3) * (R + 2) ^ (c + 1) = (K + 3) * (R + 2) ^ c * (R + 2) := by rw [Nat.pow_succ, Nat.mul_assoc]
    have e2 : (K + 3) * (R + 2) ^ c ≤ (K + 3) * (R + 2) ^ c * (R + 2) := Nat.le_mul_of_pos_right _ (by omega)
    show HOk R W _ (if _ then _ else _)
    split
    · rename_i ht
      refine ⟨(tw _ _).trans ih.len, ?_, tv c ht ih.row, fun r hr => ?_⟩
      · have := tu (qK s c) c ht; rwa [ih.len] at this
      · have := zAW c ht ih.bd r hr
        rw [ih.len] at this
        refine this.mono ?_
        rw [e, show (K + 3) * (R + 2) ^ c - 3 + 3 = (K + 3) * (R + 2) ^ c by omega]
        exact Nat.le_refl _
    · exact ⟨ih.len, ih.top, ih.row, fun r hr => (ih.bd r hr).mono (by omega)⟩
theorem rX {R W K : Nat} {s : HS} (h : HOk R W K s) {c : Nat} : ∀ {C : Nat}, c ≤ C → ¬ (c < C ∧ (qK s c).top < R) → qK s C = qK s c
  | C, hc, hn => by
    by_cases e : c = C
    · rw [e]
    · have ht : ¬ (qK s c).top < R := fun h2 => hn ⟨by omega, h2⟩
      have key : ∀ n, qK s (c + n) = qK s c := by
        intro n
        induction n with
        | zero => rfl
        | succ n ih =>
          show (if (qK s (c + n)).top < (qK s (c + n)).rows.length then xt (qK s (c + n)) (c + n) else qK s (c + n)) = qK s c
          rw [ih, (jq h c).len, if_neg ht]
      have := key (C - c)
      rwa [show c + (C - c) = C by omega] at this
theorem aO (C R : Nat) (L : List Int) (i : Nat) : (wR C R L i).length = C + R := by unfold wR; rw [List.length_map, List.length_range]
theorem gO (C R : Nat) (L : List Int) (n : Nat) : (qc C R L n).length = n := by unfold qc; rw [List.length_map, List.length_range]
theorem mq (C R : Nat) (L : List Int) (n : Nat) : qc C R L n ++ [wR C R L n] = qc C R L (n + 1) := by unfold qc; rw [List.range_succ, List.map_append]; rfl
theorem yi {C R K : Nat} {L : List Int} (h : Bd L K) (i : Nat) : Bd (wR C R L i) (K + 1) := fun k => by
 unfold wR
 rw [vd]
 have h1 : (List.length (zA (1 : Int).natAbs)) ≤ 1 := qF (by decide)
 have h0 : (List.length (zA (0 : Int).natAbs)) ≤ 0 := by rw [Int.natAbs_zero, zH]; exact Nat.le_refl _
 have := h (i * C + k)
 (repeat' split) <;> omega
theorem vX {R C K : Nat} {L : List Int} (h : Bd L K) : HOk R (C + R) (K + 1) ⟨qc C R L R, 0⟩ where
 len := gO _ _ _ _
 top := Nat.zero_le _
 row r hr := by
  obtain ⟨i, _, rfl⟩ := List.mem_map.1 hr
  exact aO _ _ _ _
 bd r hr := by
  obtain ⟨i, _, rfl⟩ := List.mem_map.1 hr
  exact yi h i
theorem yj {C R : Nat} {L : List Int} {i k : Nat} (h : k < C) : ((wR C R L i).map nz)[k]? = some (nz (cf L (i * C + k))) := by
 rw [List.getElem?_map]
 unfold wR
 rw [List.getElem?_map, List.getElem?_range (by omega)]
 show some (nz (if k < C then _ else _)) = _
 rw [if_pos h]
theorem pz {C R : Nat} {L : List Int} {i n k : Nat} (hi : i < R) (hk : k = C) (hn : n = C + R) : ((fill ((wR C R L i).map nz) k (false, [])).set (C + i) (nz 1)).take n = (wR C R L i).map nz := by
 subst hk
 have hl : ((wR k R L i).map nz).length = k + R := by rw [List.length_map, aO]
 refine List.ext_getElem? fun j => ?_
 rcases Nat.lt_or_ge j (k + R) with hj | hj
 ·rw [List.getElem?_take_of_lt (by omega)]
  have hr : ((wR k R L i).map nz)[j]? = some (nz (if j < k then cf L (i * k + j) else if j = k + i then 1 else 0)) := by
   rw [List.getElem?_map]
   unfold wR
   rw [List.getElem?_map, List.getElem?_range hj]; rfl
  rw [hr]
  by_cases e : j = k + i
  ·subst e
   rw [List.getElem?_set_self (by rw [wd _ _ _ (by omega)]; omega), if_neg (by omega), if_pos rfl]
  ·rw [List.getElem?_set_ne (fun h => e h.symm)]
   unfold fill
   by_cases h2 : j < k
   ·rw [List.getElem?_append_left (by rw [List.length_take]; omega), List.getElem?_take_of_lt h2, hr]
   ·rw [List.getElem?_append_right (by rw [List.length_take]; omega), List.length_take, List.getElem?_replicate, if_pos (by omega), if_neg h2, if_neg e, oc]
 ·rw [List.getElem?_eq_none (by rw [List.length_take]; omega), List.getElem?_eq_none (by omega)]
theorem zGG {rs : List (List Int)} {t i col : Nat} {r b : List Int} (hr : rs[i]? = some r) (hb : rs[t]? = some b) : rd rs t i col = rs.set i (mx2 1 r (-(cf r col / cf b col)) b) := by unfold rd; rw [xW hr, xW hb]
/-! ### parts of rows, put together -/
def xM (lo hi : Nat) (rs : List (List Int)) : List Int := rs.flatMap fun r => (r.take hi).drop lo
theorem fR {lo hi i : Nat} {rs : List (List Int)} {r : List Int} (h : rs[i]? = some r) : xM lo hi (rs.take (i + 1)) = xM lo hi (rs.take i) ++ (r.take hi).drop lo := by
 unfold xM
 rw [List.take_add_one, h, List.flatMap_append]
 simp
theorem gy {lo hi W : Nat} (h1 : lo ≤ hi) (h2 : hi ≤ W) : ∀ {rs : List (List Int)}, (∀ r ∈ rs, r.length = W) → (xM lo hi rs).length = rs.length * (hi - lo)
  | [], _ => by simp [xM]
  | r :: rs, h => by
    have ih := gy h1 h2 (rs := rs) fun r hr => h r (List.mem_cons_of_mem _ hr)
    have hr := h r List.mem_cons_self
    show ((r.take hi).drop lo ++ xM lo hi rs).length = _
    rw [List.length_append, ih, List.length_drop, List.length_take, List.length_cons, Nat.succ_mul]
    omega
theorem gx {lo hi W : Nat} {rs : List (List Int)} (h1 : lo ≤ hi) (h2 : hi ≤ W) (h : ∀ r ∈ rs, r.length = W) : xM lo hi rs = tab (rs.length * (hi - lo)) (hi - lo) fun i k => cf (rs.getD i []) (lo + k) := by
  have key : ∀ n, n ≤ rs.length → xM lo hi (rs.take n) = tab (n * (hi - lo) + 0) (hi - lo) fun i k => cf (rs.getD i []) (lo + k) := by
    intro n
    induction n with
    | zero => intro _; simp [xM, tab]
    | succ n ih =>
      intro hn
      have hr := List.getElem?_eq_getElem (show n < rs.length by omega)
      have hW := h rs[n] (List.getElem_mem _)
      rw [List.take_add_one, hr]
      show (rs.take n ++ [rs[n]]).flatMap _ = _
      rw [List.flatMap_append]
      show xM lo hi (rs.take n) ++ _ = _
      rw [ih (by omega), ← eO]
      have e : ∀ m, m ≤ hi - lo → tab (n * (hi - lo) + 0) (hi - lo) (fun i k => cf (rs.getD i []) (lo + k)) ++ ((rs[n].drop lo).take m) = tab (n * (hi - lo) + m) (hi - lo) fun i k => cf (rs.getD i []) (lo + k) := by
        intro m
        induction m with
        | zero => intro _; simp
        | succ m im =>
          intro hm
          rw [← eM _ (show m < hi - lo by omega), ← im (by omega), List.append_assoc, List.take_add_one, List.getElem?_drop, List.getElem?_eq_getElem (by omega)]
          congr 2
          show [_] = [_]
          rw [xW hr]
          unfold cf
          rw [List.getD, List.getElem?_eq_getElem (by omega)]; rfl
      have e2 := e (hi - lo) (Nat.le_refl _)
      rw [← e2]
      congr 1
      show (rs[n].take hi).drop lo ++ [] = _
      rw [List.append_nil, List.drop_take]
  have := key rs.length (Nat.le_refl _)
  rwa [List.take_length, Nat.add_zero] at this
end Go.Hn
namespace Go.En
open Go.RowKit Go.Nt Go.Pz Go.Mz
section
variable {E : Env} {P : Program} {Γ : Ctx} {M M' : Mem}
theorem cq {fn : Func} {R : VP → Mem → Prop} {S : VP} {W : List Nat} {e : Exit} {a : Act} {w : World} {F : Blk} (hs : M'.Sublist M) (he : e = .ret ∨ e = .normal) (s : Sat E Γ M a w F) (hw : E.W = W) {v : Value} (hv : (results fn a.tmps).run P w = .ok v w) (hS : S.h w F v) (hR : R S M') :
  bodyPost P fn (fj E.w0 E.F0 W R) e a w := fS he (s.sub hs) hw hv hS hR
theorem gM {fn : Func} {r : ResultVar} {R : VP → Mem → Prop} {S : VP} {W : List Nat} {e : Exit} (hs : M'.Sublist M) (he : e = .ret ∨ e = .normal) (hr : fn.results = #[r]) (hw : E.W = W) (h : ResL E P Γ M [r] [S]) (hR : R S M') : At E Γ M (bodyPost P fn (fj E.w0 E.F0 W R)) e := by
 intro a w F s
 obtain ⟨vs, h1, h2⟩ := qp hr h s
 match vs, h2 with
 | [v], h2 => exact cq hs he s hw (by simpa using h1) h2.1 hR
 | [], h2 => exact h2.elim
 | _ :: _ :: _, h2 => exact h2.2.elim
theorem eZ {fn : Func} {R : VP → Mem → Prop} {W : List Nat} {e : Exit} (hs : M'.Sublist M) (he : e = .ret ∨ e = .normal) (hr : fn.results = #[]) (hw : E.W = W) (hR : R (zW []) M') : At E Γ M (bodyPost P fn (fj E.w0 E.F0 W R)) e := by
 intro a w F s
 obtain ⟨vs, h1, h2⟩ := qp (rs := []) hr .nil s
 cases vs with
 | nil => exact cq hs he s hw (by simpa using h1) (S := zW []) ⟨[], rfl, trivial⟩ hR
 | cons => exact h2.elim
theorem OK1.slLHK {ty : TypeId} {pos : String} {after : Array Edge} {gd : Option (Nat × Bool)} {d : Option Tmp} {T : TypeId} {x y y2 : Operand} {α : Type} {fk : α → List VP} {xs : List α} {k : Nat} {e : TypeId} {g : Bool} {z z2 : Int} (hT : slB P T = some e) (ht : tyB P e = some (k, g)) (hk : ∀ y, (fk y).length = k) (hx : Has E Γ M x (SlK k fk xs)) (hy : Has E Γ M y (isI z)) (hy2 : Has E Γ M y2 (isI z2)) (h : 0 ≤ z ∧ z ≤ z2 ∧ z2 ≤ xs.length) :
  OK1 E P Γ M ⟨d, .slice T x (some y) (some y2) none, ty, pos, after, gd⟩ (SlK k fk ((xs.take z2.toNat).drop z.toNat)) :=
 OK1.slG (l := z.toNat) (h := z2.toNat) hT ht hx (fun a w F s cap hc => by
  simp only [Instr.sliceBounds, Option.map_some, evI hy a w F s, evI hy2 a w F s, Sem.run_bind, Sem.run_pure, Result.andThen_ok, vQ (show 0 ≤ z2 by omega) (show z2 ≤ (cap : Int) by omega),
   vQ h.1 (show z ≤ (z2.toNat : Int) by omega)]) (by omega) (by omega)
  (yA (by rw [List.length_drop, List.length_take, Nat.min_eq_left (by omega)]) (by rw [re hk]))
end
section
variable {E : Env} {P : Program} {Γ : Ctx} {M : Mem} {ty : TypeId} {pos : String} {after : Array Edge} {gd : Option (Nat × Bool)} {d : Option Tmp}
 {ops : Array Oper} {Q : Exit → Act → World → Prop} {rest : List Oper} {T T' : TypeId} {x y : Operand} {α : Type} {fk : α → List VP} {xs : List α} {k : Nat}
theorem Ops.eqNilK {d : Nat} {e : TypeId} (hT : slB P T = some e) (hx : Has E Γ M x (SlK k fk xs)) (hd : Nat.blt d E.n = true)
  (kk : ∀ b, (b = true → xs = []) → Ops E P ops Q rest ((d, isB b) :: Γ) M) : Ops E P ops Q (⟨some d, .binOp .eql T x (.const (.slice none 0 0)) T', ty, pos, after, none⟩ :: rest) Γ M := by
 intro a w F s
 refine wpList_plain rfl fun K hK => ?_
 unfold Oper.wp
 obtain ⟨a0, cap, e1, g1, g2, g3, g4⟩ := hx a w F s
 have hu := qg hT
 have key : ∀ n, (Op.equalIn (n + 1) T (.slice a0 xs.length cap) (.slice none 0 0)).run P w = .ok a0.isNone w := by
  intro n
  cases a0 <;> simp [Op.equalIn, Sem.run_bind, qT hu]
 have hq : (Op.equal T (.slice a0 xs.length cap) (.slice none 0 0)).run P w = .ok a0.isNone w := key 9999
 have hr : (execOp a.eval (⟨some d, .binOp .eql T x (.const (.slice none 0 0)) T', ty, pos, after, none⟩ : Oper)).run P w = .ok (.value (.bool a0.isNone)) w := by
  have ec : a.eval (.const (.slice none 0 0)) = .slice none 0 0 := rfl
  simp only [execOp, e1, ec, eqGuard, binOp, Sem.run_bind]
  simp [hq, Sem.run_bind]
 rw [hr]
 have hd' : d < E.n := by simpa [Nat.blt_eq] using hd
 refine hK _ _ (kk a0.isNone (fun h => ?_) _ _ F (s.put hd' rfl))
 rcases g4 with g4 | ⟨b, off, rfl, _⟩
 ·exact List.eq_nil_of_length_eq_zero g4
 ·simp at h
theorem DrB.cv {Γ' : Ctx} {l : List Oper} {bs : List Nat} (c : Cv E Γ M Γ' M) (h : DrB E P l Γ' M Q bs) : DrB E P l Γ M Q bs := fun a w F s => by
 obtain ⟨F', s'⟩ := c a w F s
 exact h a w F' s'
theorem DrB.w {l : List Oper} {bs : List Nat} {Γ' : Ctx} (ts : List Nat) (h : gf Γ ts = some Γ') (k : DrB E P l Γ' M Q bs) : DrB E P l Γ M Q bs := .cv (.wk (.l ts h)) k
theorem OK1.appendZK {e : TypeId} {g : Bool} {z : Value} (hT : slB P T = some e) (ht : tyB P e = some (2, g)) (hz : qm P e = some z) (hby : jJ P e 1024 = true) (hx : Has E Γ M x pf) (hy : Has E Γ M y (SlK 2 fk xs)) (hn : xs.length ≤ 4294967296) :
  OK1 E P Γ M ⟨d, .call ⟨.builtin .append, #[x, y], #[T, T]⟩, ty, pos, after, gd⟩ (SlK 2 fk xs) := OK1.appendZ (m := 1) hT ht hz hby hx hy hn
end
abbrev hw0 (bw : Nat) (gt : Gr (List Int)) (n C top : Nat) : Option Nat × MP := (some bw, zC [zj gt n, isI (C : Int), isI (top : Int)])
abbrev hwM (bw : Nat) (gt : Gr (List Int)) (rs : List (List Int)) (C top : Nat) : Mem := [hw0 bw gt rs.length C top, grM isP gt rs]
theorem fL {bw C n top : Nat} {gt : Gr (List Int)} {rs rs' : List (List Int)} (h : rs = rs') (hn : n = rs'.length) : ([hw0 bw gt n C top, grM isP gt rs] : Mem) = hwM bw gt rs' C top := by subst h; subst hn; rfl
theorem zAP {bw C top' : Nat} {gt : Gr (List Int)} {rs : List (List Int)} {z : Int} (h : z = (top' : Int)) : ([(some bw, zC [zj gt rs.length, isI (C : Int), isI z]), grM isP gt rs] : Mem) = hwM bw gt rs C top' := by subst h; rfl
theorem ww {L L' : List Int} (h : L = L') : isP L = isP L' := h ▸ rfl
end Go.En
namespace Go.Br
open Go.Nt Go.Pz
structure BS where
 rows : List (List Int)
 ps : List Nat
 last : Int
 odd : Bool
def yB (c : Nat) (s s' : BS) : Prop :=
  (s' = s ∧ ∀ (j : Nat) (r : List Int), s.ps.length ≤ j → s.rows[j]? = some r → cf r c = 0) ∨
  ∃ (i : Nat) (r t : List Int) (sw : List (List Int)), s.ps.length ≤ i ∧ s.rows[i]? = some r ∧ s.rows[s.ps.length]? = some t ∧ cf r c ≠ 0 ∧ sw = (if i = s.ps.length then s.rows else (s.rows.set i t).set s.ps.length r) ∧
    s'.rows.length = s.rows.length ∧ (∀ j : Nat, s'.rows[j]? = if s.ps.length < j then (sw[j]?).map (fun row => Go.En.clrL r row c s.last) else sw[j]?) ∧ s'.ps = s.ps ++ [c] ∧ s'.last = cf r c ∧ s'.odd = if i = s.ps.length then s.odd else !s.odd
inductive BRun (s0 : BS) : Nat → BS → Prop
 | zero : BRun s0 0 s0
 | step {c : Nat} {s s' : BS} : BRun s0 c s → yB c s s' → BRun s0 (c + 1) s'
theorem BRun.full {s0 s : BS} {c : Nat} (h : BRun s0 c s) (hf : s.rows.length ≤ s.ps.length) : ∀ d, BRun s0 (c + d) s
 | 0 => h
 | d + 1 => (BRun.full h hf d).step (.inl ⟨rfl, fun j r hj hr => by rw [List.getElem?_eq_none (by omega)] at hr; cases hr⟩)
end Go.Br
namespace Go.En
open Go.Nt Go.Pz Go.Br
structure RunI (s0 : BS) (C K R c : Nat) (rs : List Row) (ps : List Nat) (last : Int) (odd : Bool) : Prop where
 hc : c ≤ C
 hlen : rs.length = R
 hrow : ∀ r ∈ rs, r.2.length = C
 hps : ps.length ≤ R
 hb : ∀ r ∈ rs, Bd r.2 ((K + 1) * 2 ^ ps.length - 1)
 hl : (List.length (zA last.natAbs)) ≤ (K + 1) * 2 ^ ps.length - 1
 run : BRun s0 c ⟨rs.map Prod.snd, ps, last, odd⟩
theorem RunI.no {s0 : BS} {C K R c : Nat} {rs rs2 : List Row} {ps : List Nat} {last : Int} {odd odd2 : Bool} (h : RunI s0 C K R c rs ps last odd) (hc : c < C) (hF : zHG rs ps.length c odd rs2 odd2 false) : RunI s0 C K R (c + 1) rs2 ps last odd2 := by
  rcases hF with ⟨_, rfl, rfl, hz⟩ | ⟨h0, _⟩
  · refine ⟨hc, h.hlen, h.hrow, h.hps, h.hb, h.hl, h.run.step (.inl ⟨rfl, fun j r hj hr => ?_⟩)⟩
    rw [List.getElem?_map] at hr
    cases hq : rs2[j]? with
    | none => rw [hq] at hr; cases hr
    | some q =>
      rw [hq] at hr
      obtain rfl : q.2 = r := by simpa using hr
      exact hz j q hj hq
  · cases h0
theorem RunI.fin {s0 : BS} {C K R c : Nat} {rs : List Row} {ps : List Nat} {last : Int} {odd : Bool} (h : RunI s0 C K R c rs ps last odd) (he : C ≤ c ∨ R ≤ ps.length) : RunI s0 C K R C rs ps last odd := by
 rcases he with he | he
 ·obtain rfl : C = c := Nat.le_antisymm he h.hc
  exact h
 ·refine ⟨Nat.le_refl _, h.hlen, h.hrow, h.hps, h.hb, h.hl, ?_⟩
  have := h.run.full (by show (rs.map Prod.snd).length ≤ ps.length; rw [List.length_map, h.hlen]; exact he) (C - c)
  rwa [show c + (C - c) = C by have := h.hc; omega] at this
theorem lA (M : Mem) : M.Perm (M ++ []) := by rw [List.append_nil]
end Go.En
namespace Go.En
open Go.RowKit Go.Nt Go.Pz
section
variable {E : Env} {P : Program} {Γ : Ctx} {M : Mem}
theorem All2.conv {α : Type} {f g : α → VP} {w : World} {F : Blk} : ∀ {xs : List α} {Us : List VP} {vs : List Value}, (∀ x ∈ xs, ∀ v, (f x).h w F v → (g x).h w F v) → All2 (xs.map f ++ Us) w F vs → All2 (xs.map g ++ Us) w F vs
 | [], Us, vs, _, h => h
 | x :: xs, Us, v :: vs, hc, h => ⟨hc x (by simp) v h.1, All2.conv (fun y hy => hc y (by simp [hy])) h.2⟩
 | _ :: _, _, [], _, h => h.elim
end
end Go.En
namespace Go.En
open Go.RowKit
section
variable {E : Env} {P : Program} {Γ : Ctx} {M : Mem} {ty : TypeId} {pos : String} {after : Array Edge} {gd : Option (Nat × Bool)} {d : Option Tmp}
 {ops : Array Oper} {Q : Exit → Act → World → Prop} {rest : List Oper} {T T' : TypeId} {x y : Operand} {α : Type} {f : α → VP} {xs : List α}
theorem OKY.eq {o : Oper} {S S' : VP} (h : OKY E P Γ M o S) (e : S = S') : OKY E P Γ M o S' := e ▸ h
theorem OKY.addI {d : Option Tmp} {i j : Int} (hx : Has E Γ M x (isI i)) (hy : Has E Γ M y (isI j)) (h1 : -9223372036854775808 ≤ i + j) (h2 : i + j < 9223372036854775808) : OKY E P Γ M ⟨d, .binOp .add T x y T', ty, pos, after, none⟩ (isI (i + j)) := fun a w F s => by
 refine ⟨.int .i64 (i + j), fun w' => ?_, wE h1 h2 w F⟩
 have g1 := evI hx a w F s
 have g2 := evI hy a w F s
 have g3 := bq (P := P) (T := T) .i64 i j w'
 simp only [execOp, g1, g2]
 simp [go_sem, g3]
 exact vW h1 h2
theorem Ops.appendG0 {i : Nat} {e : TypeId} {g0 : Bool} {z : Value} {u : α} {g : Gr α} {ys zs : List α} (hT : slB P T = some e) (ht : tyB P e = some (1, g0)) (hz : qm P e = some z) (hZ : ∀ w F, All2 [f u] w F z.cells.toList) (h1 : ∀ u, One (f u)) (hby : jJ P e 1024 = true)
  (hx : Has E Γ M x (zj g ys.length)) (hM : M[i]? = some (grM f g ys)) (hy : Has E Γ M y (SlM f zs)) (hn' : ys.length + zs.length ≤ 4294967296) {d' : Nat} (hd : Nat.blt d' E.n = true)
  (k : ∀ g' : Gr α, Ops E P ops Q rest ((d', zj g' (ys ++ zs).length) :: Γ) (M.set i (grM f g' (ys ++ zs)))) :
  Ops E P ops Q (⟨some d', .call ⟨.builtin .append, #[x, y], #[T, T]⟩, ty, pos, after, none⟩ :: rest) Γ M := by
 have e1 : ∀ (g : Gr α) (l : List α), zz (fun a => [f a]) g l = grM f g l := fun g l => by unfold zz grM; rw [pG]
 have e2 : (SlK 1 (fun a => [f a]) zs : VP) = SlM f zs := by unfold SlK SlM; rw [pG]
 refine .appendGK0 (k := 1) (fk := fun a => [f a]) (u := u) (g := g) (ys := ys) (zs := zs) (i := i) (fun _ => rfl) (by decide) (fun u => by have := h1 u; exact inferInstance) hT ht hz hZ hby hx (by rw [hM, e1]) (e2 ▸ hy) hn' hd fun g' => ?_
 rw [e1, ← List.length_append]; exact k g'
end
end Go.En
namespace Go.En
open Go.RowKit Go.Nt Go.Pz
section
variable {E : Env} {P : Program} {Γ : Ctx} {M : Mem} {ops : Array Oper} {Q : Exit → Act → World → Prop} {rest : List Oper}
theorem Has.wk {x : Operand} {S S' : VP} (h : Has E Γ M x S) (k : ∀ w F v, S.h w F v → S'.h w F v) : Has E Γ M x S' := fun a w F s => k _ _ _ (h a w F s)
theorem OK1.wk {o : Oper} {S S' : VP} (h : OK1 E P Γ M o S) (k : ∀ w F v, S.h w F v → S'.h w F v) : OK1 E P Γ M o S' := fun a w F s K Q hK => h a w F s K Q fun v w' F' ad hv => hK v w' F' ad (k _ _ _ hv)
theorem OKY.wk {o : Oper} {S S' : VP} (h : OKY E P Γ M o S) (k : ∀ w F v, S.h w F v → S'.h w F v) : OKY E P Γ M o S' := fun a w F s => by
 obtain ⟨v, h1, h2⟩ := h a w F s
 exact ⟨v, h1, k _ _ _ h2⟩
theorem Cv.memEq {M' : Mem} (h : M = M') : Cv E Γ M Γ M' := h ▸ Cv.refl
theorem Cv.winRow {t b n i : Nat} {xs ys : List (Bool × List Nat)} (ht : zP Γ t = some (qR b 0 n n)) (hM : M[i]? = some (some b, zC (xs.flatMap zc))) (hy : xs = ys) (hl : ys.length = n) :
  Cv E Γ M ((t, zj (⟨some b, n, []⟩ : Gr (Bool × List Nat)) ys.length) :: Γ) (M.set i (zz zc ⟨some b, n, []⟩ ys)) := by
 subst hy
 have h := Cv.winGrK (E := E) (fk := zc) (ys := xs) ht hM (by omega) hl (by rw [List.take_of_length_le (by omega)])
 rwa [List.drop_eq_nil_of_le (by omega)] at h
end
end Go.En
namespace Go.En
open Go.Nt Go.Pz Go.Mz
abbrev lw0 (bw N : Nat) (gd : Gr (Bool × List Nat)) (gl gu : Gr Row) (c1 c2 c3 : Nat) (m n : Bool) (ps qs : List Nat) (z : Int) : Option Nat × MP := (some bw, zC [isI (N : Int), zj gd c1, zj gl c2, zj gu c3, isB m, zD ps, isB n, zD qs, isI z])
abbrev lwM (bw N : Nat) (gd : Gr (Bool × List Nat)) (gl gu : Gr Row) (ds : List Int) (ls us : List Row) (m n : Bool) (ps qs : List Nat) (z : Int) : Mem := lw0 bw N gd gl gu (ds.map nz).length ls.length us.length m n ps qs z :: zz zc gd (ds.map nz) :: grM qL gl ls :: grM qL gu us :: (ls ++ us).map qf
theorem lwL {ls us : List Row} {i : Nat} {r : Row} (h : ls[i]? = some r) : (ls ++ us)[i]? = some r := by
 have hi : i < ls.length := by
  rcases Nat.lt_or_ge i ls.length with g | g
  ·exact g
  ·rw [List.getElem?_eq_none g] at h; cases h
 rw [List.getElem?_append_left hi]; exact h
theorem lwU {ls us : List Row} {i : Nat} {r : Row} (h : us[i]? = some r) : (ls ++ us)[ls.length + i]? = some r := by
 rw [List.getElem?_append_right (by omega), Nat.add_sub_cancel_left]; exact h
def smZ (x d : Int) : Bool := decide (xB (((x + x).natAbs : Nat) : Int) d ≤ 0)
def stL (N : Nat) (f g : Nat → Int) (j : Nat) : List Int := (List.range N).map fun k => if k < j then g k else f k
theorem qv (N : Nat) (f g : Nat → Int) (j : Nat) : (stL N f g j).length = N := by unfold stL; rw [List.length_map, List.length_range]
theorem am {N : Nat} {f g : Nat → Int} {j k : Nat} (h : k < N) : (stL N f g j)[k]? = some (if k < j then g k else f k) := by unfold stL; rw [List.getElem?_map, List.getElem?_range h]; rfl
theorem jV {N : Nat} {f g : Nat → Int} {j k : Nat} (h : k < N) : cf (stL N f g j) k = if k < j then g k else f k := by
 have := am (f := f) (g := g) (j := j) h
 rw [xq (by rw [qv]; exact h)] at this
 exact Option.some.inj this
theorem eR {N : Nat} {f g : Nat → Int} {j : Nat} (h : j < N) : ((stL N f g j).map nz)[j]? = some (nz (f j)) := by rw [List.getElem?_map, am h, if_neg (Nat.lt_irrefl j)]; rfl
theorem bn {N : Nat} {f g : Nat → Int} {j : Nat} (h : j < N) : (stL N f g j).set j (g j) = stL N f g (j + 1) := by
 refine List.ext_getElem? fun k => ?_
 rcases Nat.lt_or_ge k N with hk | hk
 ·rw [am hk]
  by_cases e : j = k
  ·subst e
   rw [List.getElem?_set_self (by rw [qv]; exact h), if_pos (Nat.lt_succ_self j)]
  ·rw [List.getElem?_set_ne e, am hk]
   by_cases g1 : k < j
   ·rw [if_pos g1, if_pos (by omega)]
   ·rw [if_neg g1, if_neg (by omega)]
 ·rw [List.getElem?_eq_none (by rw [List.length_set, qv]; exact hk), List.getElem?_eq_none (by rw [qv]; exact hk)]
theorem bm {N : Nat} {q : List Int} (g : Nat → Int) (h : q.length = N) : stL N (cf q) g 0 = q := by
 refine List.ext_getElem? fun k => ?_
 rcases Nat.lt_or_ge k N with hk | hk
 ·rw [am hk, if_neg (Nat.not_lt_zero _), xq (by omega)]
 ·rw [List.getElem?_eq_none (by rw [qv]; exact hk), List.getElem?_eq_none (by omega)]
theorem mp {β : Type} {l : List β} {i : Nat} {a b : β} (h : l[i]? = some a) (e : a = b) : l = l.set i b := by
 subst e
 refine List.ext_getElem? fun k => ?_
 by_cases g : i = k
 ·subst g
  rw [h, List.getElem?_set_self]
  rcases Nat.lt_or_ge i l.length with c | c
  ·exact c
  ·rw [List.getElem?_eq_none c] at h; cases h
 ·rw [List.getElem?_set_ne g]
theorem lwS {ls us : List Row} {i : Nat} (X Y : Row) (hi : i < ls.length) : ((ls ++ us).set (ls.length + i) X).set i Y = ls.set i Y ++ us.set i X := by
 rw [List.set_append_right _ _ (by omega), Nat.add_sub_cancel_left, List.set_append_left _ _ hi]
theorem xb {l : List Int} {k j : Nat} {x : Int} (h : k ≠ j) : cf (l.set k x) j = cf l j := by
 unfold cf
 rw [List.getD_eq_getElem?_getD, List.getD_eq_getElem?_getD, List.getElem?_set_ne h]
theorem zCD {a b c d e : Option Nat × MP} {rs rs' : List Row} (h : rs = rs') : (a :: b :: c :: d :: e :: rs.map qf : Mem) = a :: b :: c :: d :: e :: rs'.map qf := h ▸ rfl
def vY (x d : Int) : Int := (x + x + d) / (d + d)
def fx (N : Nat) (q qk : List Int) (c : Int) : List Int := stL N (cf q) (fun j => cf q j - c * cf qk j) N
def dM (N k : Nat) (r rk : List Int) (c x : Int) : List Int := stL N (cf (r.set k x)) (fun j => cf (r.set k x) j - c * cf rk j) k
def zCO (N i k : Nat) (ds : List Int) (ls us : List Row) (r rk q qk : Row) (ls' us' : List Row) : Prop :=
 (smZ (cf r.2 k) (cf ds (k + 1)) = true ∧ ls' = ls ∧ us' = us) ∨ (smZ (cf r.2 k) (cf ds (k + 1)) = false ∧ ls' = ls.set i (r.1, dM N k r.2 rk.2 (vY (cf r.2 k) (cf ds (k + 1))) (cf r.2 k - vY (cf r.2 k) (cf ds (k + 1)) * cf ds (k + 1))) ∧ us' = us.set i (q.1, fx N q.2 qk.2 (vY (cf r.2 k) (cf ds (k + 1)))))
theorem zEM {bw N : Nat} {gd : Gr (Bool × List Nat)} {gl gu : Gr Row} {ds : List Int} {ls us : List Row} {m n : Bool} {ps qs : List Nat} {z : Int} {i : Nat} {r q : Row} {L U : List Int} (hi : ls[i]? = some r) (ui : us[i]? = some q) (hL : L.length = r.2.length) (hU : U.length = q.2.length) :
  (lw0 bw N gd gl gu (ds.map nz).length ls.length us.length m n ps qs z :: zz zc gd (ds.map nz) :: grM qL gl ls :: grM qL gu us :: (((ls ++ us).set (ls.length + i) (q.1, U)).set i (r.1, L)).map qf : Mem) = lwM bw N gd gl gu ds (ls.set i (r.1, L)) (us.set i (q.1, U)) m n ps qs z := by
 have hil : i < ls.length := by
  rcases Nat.lt_or_ge i ls.length with g | g
  ·exact g
  ·rw [List.getElem?_eq_none g] at hi; cases hi
 rw [lwS _ _ hil]
 unfold lwM
 rw [oH hi hL, oH ui hU, List.length_set, List.length_set]
theorem nw (z : Int) : -9223372036854775808 ≤ IntKind.i64.wrap z ∧ IntKind.i64.wrap z < 9223372036854775808 := by
 simp [IntKind.wrap, IntKind.signed, IntKind.bits]
 omega
section
variable {E : Env} {P : Program} {Γ : Ctx} {M : Mem} {x y : Operand} {d : Option Tmp} {T T' : TypeId} {ty : TypeId} {pos : String} {after : Array Edge} {gd : Option (Nat × Bool)}
theorem OK1.addW {i j : Int} (hx : Has E Γ M x (isI i)) (hy : Has E Γ M y (isI j)) : OK1 E P Γ M ⟨d, .binOp .add T x y T', ty, pos, after, gd⟩ (isI (IntKind.i64.wrap (i + j))) :=
 .bin (evI hx) (evI hy) (bq _ _ _) (fun w F => wE (nw _).1 (nw _).2 w F)
end
end Go.En
namespace Go.En
open Go.RowKit Go.ChangeShapes Go.WideShapes Go.ChangeAt
section
variable {H : Type} {enc : TypeId × Value → H} {P : Program}
theorem bM (hl : laidOutB P = true) {W W' : World} (hb : Below W.heap.size W W') : ∀ {ts : List TypeId} {vs : List Value} {ds : List (DataW H)} {ps : List MemPlace},
    (ts.all fun t => P.readableRec t && decide (t < P.types.size)) = true → DataW.TrodAll enc P W 0 (fun _ => true) true ts vs ds ps → (∀ x ∈ ps, x.block < W.heap.size) →
    DataW.TrodAll enc P W' 0 (fun b => decide (b < W.heap.size)) true ts vs ds ps
  | [], vs, ds, ps, _, h, _ => by
    obtain ⟨rfl, rfl, rfl⟩ := trodAll_nil h; exact trodAll_mk0
  | t :: ts, vs, ds, ps, hr, h, hp => by
    obtain ⟨v, vs', d, ds', p, q, rfl, rfl, rfl, h1, h2⟩ := trodAll_cons h
    simp only [List.all_cons, Bool.and_eq_true] at hr
    exact trodAll_cons_mk (Below.trod hl hr.1.1 (of_decide_eq_true hr.1.2) h1 hb (fun x hx => hp x (by simp [hx]))) (bM hl hb hr.2 h2 (fun x hx => hp x (by simp [hx])))
theorem dA : ∀ {ts : List TypeId} {vs : List Value} {ds : List (DataW H)} {ps : List MemPlace} {W : World} {base : Nat} {sp : Nat → Bool} {hd : Bool}, DataW.TrodAll enc P W base sp hd ts vs ds ps → vs.length = ts.length ∧ ds.length = ts.length
  | [], vs, ds, ps, _, _, _, _, h => by obtain ⟨rfl, rfl, rfl⟩ := trodAll_nil h; exact ⟨rfl, rfl⟩
  | t :: ts, vs, ds, ps, _, _, _, _, h => by
    obtain ⟨v, vs', d, ds', p, q, rfl, rfl, rfl, h1, h2⟩ := trodAll_cons h
    have := dA h2
    exact ⟨by simp [this.1], by simp [this.2]⟩
def zCN (P : Program) (fn : Func) (f : FuncId) : Prop := ∀ (H : Type) (enc : TypeId × Value → H) (W : World) (base : Nat) (args : Array Value) (ds : List (DataW H)) (ps : List MemPlace),
 (∀ (j : Nat) t v, fn.params[j]? = some t → args[j]? = some v → Value.okWide P W .any base t v) → DataW.TrodAll enc P W 0 (fun _ => true) true fn.params.toList args.toList ds ps →
 (∀ x ∈ ps, x.block < W.heap.size) → ∃ Ss, All2 Ss W (fun b => b < W.heap.size) args.toList ∧ Ctr P f Ss (isB true)
theorem tY {C : Checked} {os : Os} {f : FuncId} {fn : Func} {s : ChangeSpec} {conds : List PathCond} {tb : TypeId}
  (own : ownKnob C.prog.godebug = none) (started : os.Started) (noInit : C.prog.inits.idxOf? f = none) (hfn : C.prog.funcs[f]? = some fn)
  (witness : ∃ (w : World) (tape : Tape) (i : Input), w.os = os ∧ (w.forCall tape i).Shaped C.prog ∧ i.vars = [] ∧ Input.okWide C.prog (w.forCall tape i) .any w.heap.size f i ∧
   s.pre6 enc C.prog fn conds false (w.forCall tape i).memory i.args ∧ ({} : Assume).holds C.prog (lone (Frame.enter C.prog f i.args .normal) [] (w.forCall tape i)))
  (hl : laidOutB C.prog = true) (hpar : (fn.params.toList.all fun t => C.prog.readableRec t && decide (t < C.prog.types.size)) = true) (hvars : s.vars = [])
  (hres : fn.resultTypes = #[tb]) (htb : C.prog.underlying tb = some .bool)
  (hs : ∀ ds : List (DataW H), ds.length = fn.params.toList.length → s.fn H ds = { results := [.lit (.bool true)], args := ds }) (hopen : zCN C.prog fn f) :
  ReturnsInHanded {} C os f .any (s.pre6 enc C.prog fn conds false) (s.post enc C.prog fn false true false false) := by
 refine returnsInHanded_of_change (C := C) own started noInit hfn witness ?_
 intro W base args ds gs before hval hW hcnd _
 have hW' := hW
 obtain ⟨p, q, hA0, hV, rfl, hfz, hnd⟩ := hW
 have hA : DataW.TrodAll enc C.prog W 0 (fun _ => true) true fn.params.toList args.toList ds p := hA0
 rw [hvars] at hV
 obtain ⟨rfl, rfl⟩ := trodVars_none hV
 have hlt : ∀ x ∈ p, x.block < W.heap.size := fun x hx => hW'.lt x (by simp [hx])
 obtain ⟨Ss, h1, h2⟩ := hopen H enc W base args ds p hval hA hlt
 have hlen := dA hA
 refine (h2.2 W _ args.toList (fun _ h => h) h1).mono fun e W' => ?_
 rintro ⟨v, rfl, hk, hv⟩
 obtain rfl : v = .bool true := hv
 have bel := hk.below
 refine ⟨_, rfl, _, _, _, [], p, [], hW', ?_, ?_, ?_, ?_, fun h => by cases h⟩
 ·rw [List.append_nil, hs ds hlen.2, hres]
  exact trodAll_mk1 (shut_bool htb _)
 ·rw [List.append_nil, hs ds hlen.2]
  exact bM hl bel hpar hA hlt
 ·rw [List.append_nil, hs ds hlen.2, hvars]; exact hV
 ·exact bel.frame _
theorem zEC {W : World} {base : Nat} {T : TypeId} {k : IntKind} {v : Value} {d : DataW H} {ps : List MemPlace} (hu : P.underlying T = some (.int k)) (hv : Value.okWide P W .any base T v)
  (h : DataW.Trod enc P W 0 (fun _ => true) true T v d ps) : ∃ z, v = .int k z ∧ rng k z := by
 obtain ⟨n, rfl, _, _, hw⟩ := open_int hu hv h
 exact ⟨n, rfl, by simpa [Lit.wf, rng] using hw⟩
theorem zEA {W : World} {base : Nat} {T : TypeId} {k : IntKind} {v : Value} {d : DataW H} {ps : List MemPlace} (hu : P.underlying T = some (.int k)) (hk : k.min = 0) (hv : Value.okWide P W .any base T v)
  (h : DataW.Trod enc P W 0 (fun _ => true) true T v d ps) : ∃ n : Nat, ∀ F, (isK k (n : Int)).h W F v := by
 obtain ⟨z, rfl, h1, h2⟩ := zEC hu hv h
 rw [hk] at h1
 exact ⟨z.toNat, fun F => ⟨by rw [Int.toNat_of_nonneg h1], by rw [Int.toNat_of_nonneg h1]; exact ⟨by rw [hk]; exact h1, h2⟩⟩⟩
theorem zHN {w : World} {sp : Nat → Bool} {fuel : Nat} {T : TypeId} {k : IntKind} {cs : List Value} {x : DataW H × List MemPlace} (hu : P.underlying T = some (.int k)) (h : DataW.trod enc P w 0 sp true fuel T cs = some x) :
  ∃ z, cs = [.int k z] ∧ rng k z := by
 obtain ⟨n, hc, _, hw⟩ := DataW.trod_int hu h
 exact ⟨n, hc, by simpa [Lit.wf, rng] using hw⟩
theorem zGI {w : World} {sp : Nat → Bool} {fuel : Nat} {T : TypeId} {cs : List Value} {x : DataW H × List MemPlace} (hu : P.underlying T = some (.int .i64)) (h : DataW.trod enc P w 0 sp true fuel T cs = some x) :
  ∃ z : Int, cs = [.int .i64 z] ∧ -9223372036854775808 ≤ z ∧ z < 9223372036854775808 := by
 obtain ⟨z, rfl, h1, h2⟩ := zHN hu h
 simp [IntKind.min, IntKind.max, IntKind.signed, IntKind.bits] at h1 h2
 exact ⟨z, rfl, by omega, by omega⟩
theorem aV {α : Type} {p : Nat → α → Prop} : ∀ (n : Nat), (∀ i, i < n → ∃ a, p i a) → ∃ l : List α, l.length = n ∧ ∀ i (h : i < l.length), p i l[i]
  | 0, _ => ⟨[], rfl, fun i h => absurd h (by simp)⟩
  | n + 1, h => by
    obtain ⟨l, h1, h2⟩ := aV n (fun i hi => h i (by omega))
    obtain ⟨a, ha⟩ := h n (by omega)
    refine ⟨l ++ [a], by simp [h1], fun i hi => ?_⟩
    rcases Nat.lt_or_ge i l.length with h3 | h3
    · rw [List.getElem_append_left h3]; exact h2 i h3
    · have : i = n := by simp at hi; omega
      subst this
      rw [List.getElem_append_right h3]; simpa [h1] using ha
theorem ae : ∀ {Ss : List VP} {w : World} {F : Blk} {vs : List Value}, Ss.length = vs.length → (∀ (i : Nat) (S : VP) (v : Value), Ss[i]? = some S → vs[i]? = some v → S.h w F v) → All2 Ss w F vs
 | [], _, _, [], _, _ => trivial
 | S :: Ss, _, _, v :: vs, hl, h => ⟨h 0 S v rfl rfl, ae (by simpa using hl) (fun i S' v' h1 h2 => h (i + 1) S' v' (by simpa using h1) (by simpa using h2))⟩
 | [], _, _, _ :: _, hl, _ => by simp at hl
 | _ :: _, _, _, [], hl, _ => by simp at hl
end
end Go.En
