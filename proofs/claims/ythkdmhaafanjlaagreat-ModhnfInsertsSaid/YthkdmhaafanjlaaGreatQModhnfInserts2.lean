/- Rules and contracts, part 2 of 6. -/
import Derived.Test.YthkdmhaafanjlaaGreatQModhnfInserts1
import Derived.Laws.CopyRow
import Derived.Laws.MathBits
import Derived.Laws.AppendOwn
import Derived.Laws.Small
namespace Go.En
open Go.RowKit
section
variable {E : Env} {P : Program} {Γ : Ctx} {M : Mem} {ty : TypeId} {pos : String} {after : Array Edge} {gd : Option (Nat × Bool)} {d : Option Tmp}
 {ops : Array Oper} {Q : Exit → Act → World → Prop} {rest : List Oper} {T T' : TypeId} {x y : Operand} {α : Type} {f : α → VP} {fk : α → List VP} {xs : List α}
theorem Ops.appendO {d : Nat} {e : TypeId} {g : Bool} {z : Value} {u : α} (hT : slB P T = some e) (ht : tyB P e = some (0 + 1, g)) (hz : zeroB P e = some z) (hZ : ∀ w F, All2 [f u] w F z.cells.toList) (hby : byLe P e 1024 = true) (hx : Has E Γ M x zcap) (hy : Has E Γ M y (SlM f xs)) (hn' : xs.length ≤ 4294967296) (hd : Nat.blt d E.n = true)
    (k0 : xs = [] → Ops E P ops Q rest ((d, SlM f []) :: Γ) M)
    (k1 : xs ≠ [] → ∀ b c j, Ops E P ops Q rest ((d, isWin b 0 xs.length c) :: Γ) ((some b, cellM ((xs ++ List.replicate j u).map f)) :: M)) :
    Ops E P ops Q (⟨some d, .call ⟨.builtin .append, #[x, y], #[T, T]⟩, ty, pos, after, none⟩ :: rest) Γ M := by
  intro a w F s
  refine wpList_plain rfl fun K hK => ?_
  have hd' : d < E.n := by simpa [Nat.blt_eq] using hd
  obtain ⟨a0, e1, ha0⟩ := hx a w F s
  have hn : xs.length ≤ 4294967296 := hn'
  have hS := hy a w F s
  obtain ⟨a1, cap, e2, g1, g2, g3, g4⟩ := id hS
  generalize hlx : xs.length = n at *
  have hu := slB_under hT
  obtain ⟨i, hi, hb⟩ : ∃ i, P.info? e = some i ∧ i.bytes ≤ 1024 := by
    unfold byLe at hby
    cases hi : P.info? e with
    | none => simp [hi] at hby
    | some i => rw [hi] at hby; exact ⟨i, rfl, Nat.le_of_ble_eq_true hby⟩
  have hsz : i.size = 0 + 1 := by
    have := run_size (P := P) (w := w) ht
    simp [sizeOf, typeInfo, go_sem, hi] at this; exact this
  have hzz : i.zero = some z := by unfold zeroB at hz; rw [hi] at hz; simpa using hz
  unfold Oper.wp
  by_cases h0 : n = 0
  · subst h0
    have hr : (execOp a.eval (⟨some d, .call ⟨.builtin .append, #[x, y], #[T, T]⟩, ty, pos, after, none⟩ : Oper)).run P w = .ok (.value (.slice a0 0 0)) w := by
      simp only [execOp, resolve, invoke, builtin, Sem.run_bind]
      have : (Builtin.append_ #[T, T] ty #[.slice a0 0 0, .slice a1 0 cap]).run P w = .ok (.slice a0 0 0) w := by
        cases a0 <;> cases a1 <;> simp [Builtin.append_, run_under hu, Sem.run_bind, run_size ht, Builtin.lenOf, Builtin.firstCells, loadCells, loadCellsFrom, storeCells]
      simp [e1, e2, Sem.run_bind, this]
    rw [hr]
    exact hK _ _ (k0 (List.eq_nil_of_length_eq_zero hlx) _ _ F (s.put hd' ⟨a0, 0, rfl, Nat.le_refl _, by rw [maxLen_eq]; omega, rfl, .inl rfl⟩))
  · rcases g4 with g4 | ⟨b, off, rfl, hF, vs, hv, hc⟩
    · omega
    have hlen := hv.len
    have hnews : ∀ j u, vs[j]? = some u → w.cell? ((⟨b, off, none⟩ : Addr).add j) = some u := fun j u hj => by rw [add_mk]; exact hc j u hj
    have hbytes : n * i.bytes ≤ 281474976710656 := by have := Nat.mul_le_mul hn hb; omega
    have hone : z.cells.size = 1 := by have := (hZ w F).len; simpa using this.symm
    have hzs : ∀ k, (Builtin.zeroCells z.cells k).toList = (List.replicate k z.cells.toList).flatten := fun k => by
      unfold Builtin.zeroCells
      rw [make_flat rfl]
    have hall : ∀ k, All2 ((List.replicate k u).map f) w F ((List.replicate k z.cells.toList).flatten) := by
      intro k
      induction k with
      | zero => trivial
      | succ k ih =>
        rw [List.replicate_succ, List.replicate_succ, List.flatten_cons, List.map_cons]
        exact All2.append (hZ w F) ih
    have hfinish : ∀ cp, n ≤ cp → cp ≤ maxLen → ∀ k,
        K (a.put (some d) (.slice (some ⟨w.heap.size, 0, none⟩) n cp)) { w with heap := w.heap.push (.cells (vs ++ (Builtin.zeroCells z.cells k).toList).toArray e), drawn := w.drawn + 1 } := by
      intro cp h1 h2 k
      have hcs : All2 ((xs ++ List.replicate k u).map f) w F (vs ++ (Builtin.zeroCells z.cells k).toList) := by
        rw [List.map_append, hzs]; exact All2.append hv (hall k)
      have s1 := (s.adv (Adv.drew w F)).alloc (T := e) (All2.mono (w := w) (w' := { w with drawn := w.drawn + 1 }) (fun _ _ => rfl) (fun _ h => h) _ _ hcs)
      exact hK _ _ (k1 (fun h => h0 (by rw [← hlx, h]; rfl)) w.heap.size cp k _ _ F (s1.put hd' ⟨rfl, h1, h2⟩))
    have hcell : vs.length = n * i.size := by rw [← hlen, g3, hsz]
    have hml : n ≤ maxLen := by rw [maxLen_eq]; omega
    have hge := grownCap_ge w n 0 e
    have hcm := grownCap_le_maxLen w n 0 e hml
    have earr : vs.toArray ++ Builtin.zeroCells z.cells (grownCap w n 0 e - n) = (vs ++ (Builtin.zeroCells z.cells (grownCap w n 0 e - n)).toList).toArray := by apply Array.ext'; simp
    rcases ha0 with rfl | ⟨g0, o0, rfl⟩
    · have hr := run_append_nil (P := P) w T ty e i z hu hi hzz ⟨b, off, none⟩ n cap vs hcell hnews (by omega) (by omega) hbytes
      have hr2 : (execOp a.eval (⟨some d, .call ⟨.builtin .append, #[x, y], #[T, T]⟩, ty, pos, after, none⟩ : Oper)).run P w = .ok (.value (.slice (some ⟨w.heap.size, 0, none⟩) n (grownCap w n 0 e))) { w with heap := w.heap.push (.cells (vs ++ (Builtin.zeroCells z.cells (grownCap w n 0 e - n)).toList).toArray e), drawn := w.drawn + 1 } := by
        simp only [execOp, resolve, invoke, builtin, Sem.run_bind]
        rw [← earr]
        simp [e1, e2, Sem.run_bind, hr]
        first | rfl | exact ⟨rfl, rfl⟩ | done
      rw [hr2]
      exact hfinish _ hge hcm _
    · have hr := run_append_grow (P := P) w T ty e i z hu hi hzz ⟨g0, o0, none⟩ 0 0 [] (by simp) (by simp) ⟨b, off, none⟩ n cap vs hcell hnews (by omega) (by omega) (by simp; unfold Builtin.nextslicecap; split <;> omega)
      have hr2 : (execOp a.eval (⟨some d, .call ⟨.builtin .append, #[x, y], #[T, T]⟩, ty, pos, after, none⟩ : Oper)).run P w = .ok (.value (.slice (some ⟨w.heap.size, 0, none⟩) n (grownCap w n 0 e))) { w with heap := w.heap.push (.cells (vs ++ (Builtin.zeroCells z.cells (grownCap w n 0 e - n)).toList).toArray e), drawn := w.drawn + 1 } := by
        simp only [execOp, resolve, invoke, builtin, Sem.run_bind]
        rw [← earr]
        simp [e1, e2, Sem.run_bind, hr]
        first | rfl | exact ⟨rfl, rfl⟩ | done
      rw [hr2]
      exact hfinish _ hge hcm _
def RetO {α : Type} (w : World) (F : Blk) (f : α → VP) (u : α) (xs : List α) : Ending → World → Prop := fun e w' => ∃ v, e = .returned v ∧ Keep [] w w' ∧
 ((xs = [] ∧ (SlM f []).h w' (fresh F w w') v) ∨ (xs ≠ [] ∧ ∃ b c k F', w.heap.size ≤ b ∧ b < w'.heap.size ∧ ¬ F' b ∧ (∀ k, F' k → fresh F w w' k) ∧ (∀ k, F k → F' k) ∧ (isWin b 0 xs.length c).h w' F' v ∧ ∃ o, w'.heap[b]? = some o ∧ (cellM ((xs ++ List.replicate k u).map f)).h w' F' o))
def CtrO {α : Type} (P : Program) (g : FuncId) (args : List VP) (f : α → VP) (u : α) (xs : List α) : Prop :=
 Enters P g ∧ ∀ (w : World) (F : Blk) (vs : List Value), (∀ k, F k → k < w.heap.size) → All2 args w F vs → Calls P g vs.toArray w (RetO w F f u xs)
theorem CtrO.intro {α : Type} {g : FuncId} {fn : Func} {c : Code} {Ss : List VP} {f : α → VP} {u : α} {xs : List α} (hf : P.funcs[g]? = some fn) (hb : fn.body = some c) (hn : (fn.name == "runtime.NumGoroutine") = false) {nt : Nat} (hnt : fn.ntmps = nt)
  (hsz : Nat.ble Ss.length nt = true)
  (h : ∀ w F, Tri ⟨w, F, [], nt⟩ P c (argsCtx 0 Ss) [] (bodyPost P fn (RetO w F f u xs))) : CtrO P g Ss f u xs := by
 subst hnt
 refine ⟨⟨fn, hf, by simp [hb], hn⟩, fun w F vs hF hargs => ?_⟩
 have hlen := hargs.len
 have hsz' : Ss.length ≤ fn.ntmps := by simpa using Nat.le_of_ble_eq_true hsz
 refine calls_of_wp hf hb (h w F _ w F ?_)
 refine { defers := rfl, size := ?_, keep := Keep.refl _ _, f0 := fun _ h => h, fnew := fun _ h => .inl h, flt := hF, slots := ?_, mem := ⟨List.Pairwise.nil, by simp⟩ }
 ·simp; omega
 ·intro t S ht
  obtain ⟨_, h2⟩ := look_args Ss 0 t S ht
  obtain ⟨v, hv, hS⟩ := hargs.get t S (by simpa using h2)
  have : (vs.toArray ++ Array.replicate (fn.ntmps - vs.toArray.size) undef).getD t undef = v := by
   have hlt : t < vs.length := by
    rcases Nat.lt_or_ge t vs.length with h | h
    ·exact h
    ·rw [List.getElem?_eq_none h] at hv; cases hv
   rw [Array.getD_eq_getD_getElem?, Array.getElem?_append_left (by simpa using hlt)]
   simp [hv]
  rw [this]; exact hS
theorem fin_retO {α : Type} {fn : Func} {f : α → VP} {u : α} {xs : List α} {e : Exit} {a : Act} {w : World} {F : Blk} (he : e = .ret ∨ e = .normal) (s : Sat E Γ M a w F) (hw : E.W = []) {v : Value} (hv : (results fn a.tmps).run P w = .ok v w)
  (hR : (xs = [] ∧ (SlM f []).h w F v) ∨ (xs ≠ [] ∧ ∃ b c k i : Nat, M[i]? = some (some b, cellM ((xs ++ List.replicate k u).map f)) ∧ (isWin b 0 xs.length c).h w F v)) :
  bodyPost P fn (RetO E.w0 E.F0 f u xs) e a w := by
 have hk := s.keep
 rw [hw] at hk
 have hsub : ∀ k, F k → fresh E.F0 E.w0 w k := fun k hk => (s.fnew k hk).imp id id
 have hb : a.defers = [] ∧ ∃ v, (results fn a.tmps).run P w = .ok v w ∧ RetO E.w0 E.F0 f u xs (.returned v) w := by
  refine ⟨s.defers, _, hv, _, rfl, hk, ?_⟩
  rcases hR with ⟨h1, h2⟩ | ⟨h1, b, c, k, i, hM, h2⟩
  ·exact .inl ⟨h1, (SlM f []).mono _ _ _ _ _ h2 (fun _ _ => rfl) hsub⟩
  ·obtain ⟨g1, g2, g3, o, g4, g5⟩ := s.mem.each b _ (List.mem_of_getElem? hM)
   exact .inr ⟨h1, b, c, k, F, g1.resolve_right (by rw [hw]; simp), g2, g3, hsub, s.f0, h2, o, g4, g5⟩
 rcases he with rfl | rfl <;> exact hb
theorem rtO0 {α : Type} {fn : Func} {f : α → VP} {u : α} {xs : List α} {r : ResultVar} {e : Exit} (he : e = .ret ∨ e = .normal) (hr : fn.results = #[r]) (hw : E.W = []) (hx : xs = []) (h : ResL E P Γ M [r] [SlM f []]) :
  At E Γ M (bodyPost P fn (RetO E.w0 E.F0 f u xs)) e := by
 intro a w F s
 obtain ⟨vs, h1, h2⟩ := run_results hr h s
 match vs, h2 with
 | [v], h2 => exact fin_retO he s hw (by simpa using h1) (.inl ⟨hx, h2.1⟩)
 | [], h2 => exact h2.elim
 | _ :: _ :: _, h2 => exact h2.2.elim
theorem rtO1 {α : Type} {fn : Func} {f : α → VP} {u : α} {xs : List α} {r : ResultVar} {b c k i : Nat} {e : Exit} (he : e = .ret ∨ e = .normal) (hr : fn.results = #[r]) (hw : E.W = []) (hx : xs ≠ []) (hM : M[i]? = some (some b, cellM ((xs ++ List.replicate k u).map f))) (h : ResL E P Γ M [r] [isWin b 0 xs.length c]) :
  At E Γ M (bodyPost P fn (RetO E.w0 E.F0 f u xs)) e := by
 intro a w F s
 obtain ⟨vs, h1, h2⟩ := run_results hr h s
 match vs, h2 with
 | [v], h2 => exact fin_retO he s hw (by simpa using h1) (.inr ⟨hx, b, c, k, i, hM, h2.1⟩)
 | [], h2 => exact h2.elim
 | _ :: _ :: _, h2 => exact h2.2.elim
theorem Sat.own {a : Act} {w w' : World} {F F' : Blk} (s : Sat E Γ M a w F) (hk : Keep [] w w') {b : Nat} {C : MP} (h1 : w.heap.size ≤ b) (h2 : b < w'.heap.size) (h3 : ¬ F' b) (h4 : ∀ k, F' k → fresh F w w' k) (h5 : ∀ k, F k → F' k)
  {o : Obj} (ho : w'.heap[b]? = some o) (hC : C.h w' F' o) : Sat E Γ ((some b, C) :: M) a w' F' := by
 have ad : Adv w F w' F' := ⟨hk, h5, fun k h => (h4 k h).imp id id⟩
 have s' := s.adv ad
 exact { s' with mem := ⟨by
   refine List.Pairwise.cons ?_ s'.mem.apart
   intro x hx
   obtain ⟨k, D⟩ := x
   cases k with
   | none => exact .inr (by simp)
   | some k => exact .inr (by have := (s.mem.each k D hx).2.1; simp; omega), by
   intro k D hb
   rcases List.mem_cons.1 hb with e | hb
   ·obtain ⟨rfl, rfl⟩ : k = b ∧ D = C := by simpa using e
    exact ⟨.inl (Nat.le_trans s.keep.size h1), h2, h3, o, ho, hC⟩
   ·exact s'.mem.each k D hb⟩ }
theorem Ops.callO {α : Type} {g : FuncId} {zs : List Operand} {ts : Array TypeId} {args : List VP} {f : α → VP} {u : α} {ys : List α} {d : Nat} (hf : CtrO P g args f u ys) (hx : HasL E Γ M zs args) (hd : Nat.blt d E.n = true)
  (k0 : ys = [] → Ops E P ops Q rest ((d, SlM f []) :: Γ) M)
  (k1 : ys ≠ [] → ∀ b c j, Ops E P ops Q rest ((d, isWin b 0 ys.length c) :: Γ) ((some b, cellM ((ys ++ List.replicate j u).map f)) :: M)) :
  Ops E P ops Q (⟨some d, .call ⟨.value (.func g), zs.toArray, ts⟩, ty, pos, after, none⟩ :: rest) Γ M := by
 intro a w F s
 refine wpList_plain rfl fun K hK => ?_
 unfold Oper.wp
 have hr : (execOp a.eval (⟨some d, .call ⟨.value (.func g), zs.toArray, ts⟩, ty, pos, after, none⟩ : Oper)).run P w = .ok (.enter g (zs.map a.eval).toArray) w := by
  have := run_enter hf.1 (zs.map a.eval).toArray w
  simpa [go_sem] using this
 rw [hr]
 refine (hf.2 w F _ s.flt (hx.all s)).mono ?_
 have hd' : d < E.n := by simpa [Nat.blt_eq] using hd
 rintro e w' ⟨v, rfl, hk, ⟨h1, h2⟩ | ⟨h1, b, c, k, F', g1, g2, g3, g4, g5, g6, o, g7, g8⟩⟩
 ·exact hK _ _ (k0 h1 _ _ _ ((s.adv ⟨hk, fun b hb => .inl hb, fun b hb => hb⟩).put hd' h2))
 ·exact hK _ _ (k1 h1 b c k _ _ _ ((s.own hk g1 g2 g3 g4 g5 g7 g8).put hd' g6))
theorem Has.winLe {b o n c : Nat} (h : Has E Γ M x (isWin b o n c)) : ∀ a w F, Sat E Γ M a w F → n ≤ c := fun a w F s => (h a w F s).2.1
theorem OK1.idxStr {d : Option Tmp} {t : ByteArray} {z : Int} {n : Nat} {gd : Option (Nat × Bool)} (hT : P.underlying T = some .string) (hy : Has E Γ M y (isK .u8 z)) (h0 : 0 ≤ z) (h : ∃ hh : z.toNat < t.size, (t[z.toNat]'hh).toNat = n) :
  OK1 E P Γ M ⟨d, .index T (.const (.string t)) y, ty, pos, after, gd⟩ (isK .u8 (n : Int)) :=
 .run fun a w F s => by
  obtain ⟨hh, h⟩ := h
  have h2 := (hy a w F s).1
  refine ⟨.int .u8 (n : Int), ?_, rfl, ?_⟩
  ·have e : t[z.toNat]? = some (t[z.toNat]'hh) := by rw [getElem?_pos t z.toNat hh]
   have e0 : a.eval (.const (.string t)) = .string t := rfl
   simp only [execOp, h2, e0, Instr.index, asIntOf, Sem.run_bind, Sem.run_pure, run_under hT, Result.andThen_ok]
   rw [if_pos h0, e]
   simp only [Sem.run_pure, Result.andThen_ok, h]
  ·have := (t[z.toNat]'hh).toNat_lt
   rw [h] at this
   exact ⟨by show (0 : Int) ≤ _; omega, by show _ ≤ (255 : Int); omega⟩
theorem OK1.convUu8 {S : TypeId} {n : Nat} {d : Option Tmp} {gd : Option (Nat × Bool)} {ds : TypeDesc} (hs : P.underlying S = some ds) (ht : P.underlying T = some (.int .u8)) (hx : Has E Γ M x (isU n)) (h : n < 256) :
  OK1 E P Γ M ⟨d, .convert S T x, ty, pos, after, gd⟩ (isK .u8 (n : Int)) :=
 .conv hs ht (evU hx) (fun w F => by
  have e : IntKind.u8.wrap (n : Int) = n := by
   unfold IntKind.wrap
   simp [IntKind.bits, IntKind.signed]
   omega
  rw [e]
  exact ⟨rfl, by show (0 : Int) ≤ _; omega, by show _ ≤ (255 : Int); omega⟩)
theorem Ops.copyW {d : Nat} {e : TypeId} {g : Bool} {b o n c i : Nat} {ys : List α} {T2 : TypeId} (hT : slB P T = some e) (ht : tyB P e = some (1, g)) (h1 : ∀ u, One (f u)) (hx : Has E Γ M x (isWin b o n c)) (hy : Has E Γ M y (SlM f ys)) (hM : M[i]? = some (some b, cellM (xs.map f)))
  (hl : ys.length ≤ n ∧ o + n ≤ xs.length) (hd : Nat.blt d E.n = true) {M' : Mem} (hM' : M.set i (some b, cellM ((xs.take o ++ ys ++ xs.drop (o + ys.length)).map f)) = M')
  (k : Ops E P ops Q rest ((d, isI (ys.length : Int)) :: Γ) M') : Ops E P ops Q (⟨some d, .call ⟨.builtin .copy, #[x, y], #[T, T2]⟩, ty, pos, after, none⟩ :: rest) Γ M := by
 intro a w F s
 refine wpList_plain rfl fun K hK => ?_
 unfold Oper.wp
 have hd' : d < E.n := by simpa [Nat.blt_eq] using hd
 obtain ⟨e1, e2, e3⟩ := hx a w F s
 obtain ⟨a1, cap, e4, g1, g2, g3, g4⟩ := hy a w F s
 obtain ⟨ob, hb, vs, T', rfl, hv⟩ := mem_at s hM
 have hu := slB_under hT
 have hsz : (P.info? e).map (·.size) = some 1 := by
  have := run_size (P := P) (w := w) ht
  cases hi : P.info? e with
  | none => simp [sizeOf, typeInfo, go_sem, hi] at this
  | some i => simp [sizeOf, typeInfo, go_sem, hi] at this; simp [this]
 have hmin : Nat.min ys.length n = ys.length := Nat.min_eq_left hl.1
 have hvl := hv.len
 simp only [List.length_map] at hvl
 have hI : ∀ {F' : Blk} {w' : World}, (isI (ys.length : Int)).h w' F' (goInt ys.length) := by
  intro F' w'
  refine ⟨rfl, by omega, ?_⟩
  have := maxLen_eq
  omega
 rcases g4 with g4 | ⟨b1, off, rfl, hF1, cs, hcs, hc⟩
 ·have hys : ys = [] := List.eq_nil_of_length_eq_zero g4
  subst hys
  have hrun := run_copy_none (P := P) w T T2 ty e (some ⟨b, o, none⟩) a1 n c 0 cap hu hsz (by simp)
  have hr : (execOp a.eval (⟨some d, .call ⟨.builtin .copy, #[x, y], #[T, T2]⟩, ty, pos, after, none⟩ : Oper)).run P w = .ok (.value (goInt 0)) w := by
   simp only [execOp, resolve, invoke, builtin, Sem.run_bind]
   simp only [List.length_nil] at e4
   simp [e1, e4, Sem.run_bind, hrun]
  rw [hr]
  have hMM : M' = M := by
   rw [← hM']
   simp only [List.append_nil, List.length_nil, Nat.add_zero, List.take_append_drop]
   have hi : i < M.length := by
    rcases Nat.lt_or_ge i M.length with h | h
    ·exact h
    ·rw [List.getElem?_eq_none h] at hM; cases hM
   rw [List.getElem?_eq_getElem hi] at hM
   rw [← Option.some.inj hM, List.set_getElem_self]
  refine hK _ _ (k _ _ F ?_)
  rw [hMM]
  exact s.put hd' hI
 have hlen := hcs.len
 simp only [List.length_map] at hlen
 have hrun := run_copy_row (P := P) w T T2 ty e b o n c ⟨b1, off, none⟩ ys.length cap vs.toArray T' cs hu hsz hb (by rw [← hlen, hmin]) (fun j v hj => by rw [add_mk]; exact hc j v hj) (by simp; omega) (hcs.one (fun S hS => by obtain ⟨u, _, rfl⟩ := List.mem_map.1 hS; exact h1 u))
 rw [← hlen] at hrun
 have hcl := hcs.len
 simp only [List.length_map] at hcl
 have hr : (execOp a.eval (⟨some d, .call ⟨.builtin .copy, #[x, y], #[T, T2]⟩, ty, pos, after, none⟩ : Oper)).run P w = .ok (.value (goInt ys.length)) (w.setRow b (vs.take o ++ cs ++ vs.drop (o + ys.length)).toArray) := by
  simp only [execOp, resolve, invoke, builtin, Sem.run_bind]
  simp [e1, e4, Sem.run_bind, hrun]
 rw [hr]
 refine hK _ _ (k _ _ F ?_)
 rw [← hM']
 refine (s.write (w' := w.setRow b (vs.take o ++ cs ++ vs.drop (o + ys.length)).toArray) (C' := cellM ((xs.take o ++ ys ++ xs.drop (o + ys.length)).map f)) hM rfl rfl rfl (setRow_size _ _ _) (fun k hk => setRow_ne _ _ _ _ hk) (setRow_heap _ _ _ _ _ _ hb) ⟨_, T', rfl, ?_⟩).put hd' hI
 have hF : ∀ k, F k → (w.setRow b (vs.take o ++ cs ++ vs.drop (o + ys.length)).toArray).heap[k]? = w.heap[k]? := fun k hk => setRow_ne _ _ _ _ (fun e => by
  subst e; exact (s.mem.each k _ (List.mem_of_getElem? hM)).2.2.1 hk)
 refine All2.mono hF (fun _ h => h) _ _ ?_
 rw [List.map_append, List.map_append, List.map_take, List.map_drop]
 exact ((hv.take o).append hcs).append (hv.drop _)
theorem mem2_eq {α β : Type} {f : α → VP} {g : β → VP} {b b' : Option Nat} {l l' : List α} {k k' : List β} {r : Mem} (h : l = l') (h2 : k = k') : ((b, cellM (l.map f)) :: (b', cellM (k.map g)) :: r : Mem) = (b, cellM (l'.map f)) :: (b', cellM (k'.map g)) :: r := h ▸ h2 ▸ rfl
end
end Go.En
namespace Go.En
open Go.RowKit
structure Gr (α : Type) where
 ob : Option Nat
 c : Nat
 sp : List α
def Gr.nil {α : Type} : Gr α := ⟨none, 0, []⟩
def isGr {α : Type} (g : Gr α) (n : Nat) : VP := .pure fun v => (g.ob = none ∧ n = 0 ∧ v = .slice none 0 0) ∨ (∃ b, g.ob = some b ∧ v = .slice (some ⟨b, 0, none⟩) n g.c ∧ n + g.sp.length = g.c ∧ g.c ≤ maxLen)
def grM {α : Type} (f : α → VP) (g : Gr α) (ys : List α) : Option Nat × MP := (g.ob, cellM ((ys ++ g.sp).map f))
instance {α : Type} {g : Gr α} {n : Nat} : IsSl (isGr g n) n := ⟨fun w F v h => by
 rcases h with ⟨_, rfl, rfl⟩ | ⟨b, _, rfl, h1, h2⟩
 ·exact ⟨_, _, rfl, Nat.le_refl _, by rw [maxLen_eq]; omega⟩
 ·exact ⟨_, _, rfl, by omega, h2⟩⟩
instance {α : Type} {g : Gr α} {n : Nat} : Shape (isGr g n) [isGr g n] := .of_one inferInstance
section
variable {E : Env} {P : Program} {Γ : Ctx} {M : Mem} {ty : TypeId} {pos : String} {after : Array Edge} {gd : Option (Nat × Bool)} {d : Option Tmp}
 {ops : Array Oper} {Q : Exit → Act → World → Prop} {rest : List Oper} {T T' : TypeId} {x y : Operand} {α : Type} {f : α → VP} {fk : α → List VP} {xs : List α}
theorem Cv.grow0 (f : α → VP) : Cv E Γ M Γ (grM f Gr.nil [] :: M) := fun a w F s =>
 ⟨F, { s with mem := ⟨List.Pairwise.cons (fun x hx => .inl rfl) s.mem.apart, fun b C hb => by
  rcases List.mem_cons.1 hb with e | hb
  ·cases e
  ·exact s.mem.each b C hb⟩ }⟩
theorem nbeq_self (t : Nat) : Nat.beq t t = true := by simp [Nat.beq_eq]
theorem gr0 {w : World} {F : Blk} : (isGr (Gr.nil : Gr α) 0).h w F (.slice none 0 0) := .inl ⟨rfl, rfl, rfl⟩
theorem Has.cGr : Has E Γ M (.const (.slice none 0 0)) (isGr (Gr.nil : Gr α) 0) := fun _ _ _ _ => gr0
theorem Sat.swap {a : Act} {w : World} {F : Blk} {n i : Nat} {C : MP} (s : Sat E Γ ((some n, C) :: M) a w F) : Sat E Γ (M.set i (some n, C)) a w F := by
 have hp := List.pairwise_cons.1 s.mem.apart
 refine { s with mem := ⟨?_, fun k D hk => ?_⟩ }
 ·rw [List.pairwise_iff_getElem]
  intro j k hj hk hjk
  have hp2 := List.pairwise_iff_getElem.1 hp.2 j k (by simpa using hj) (by simpa using hk) hjk
  simp only [List.getElem_set]
  by_cases e1 : i = j
  ·subst e1
   have : ¬ i = k := by omega
   simp only [if_true, this, if_false]
   exact hp.1 _ (List.getElem_mem _)
  ·by_cases e2 : i = k
   ·subst e2
    simp only [e1, if_true, if_false]
    right
    rcases hp.1 _ (List.getElem_mem (by simpa using hj : j < M.length)) with h | h
    ·cases h
    ·exact fun e => h e.symm
   ·simp only [e1, e2, if_false]; exact hp2
 ·rcases List.mem_or_eq_of_mem_set hk with h | h
  ·exact s.mem.each k D (by simp [h])
  ·exact s.mem.each k D (by rw [h]; exact List.mem_cons_self)
theorem set_self {i : Nat} {a : Option Nat × MP} (h : M[i]? = some a) : M.set i a = M := by
 have hi : i < M.length := by
  rcases Nat.lt_or_ge i M.length with h2 | h2
  ·exact h2
  ·rw [List.getElem?_eq_none h2] at h; cases h
 rw [List.getElem?_eq_getElem hi] at h
 rw [← Option.some.inj h, List.set_getElem_self]
theorem Ops.appendG {d i : Nat} {e : TypeId} {g0 : Bool} {z : Value} {u : α} {g : Gr α} {ys zs : List α} (hT : slB P T = some e) (ht : tyB P e = some (0 + 1, g0)) (hz : zeroB P e = some z) (hZ : ∀ w F, All2 [f u] w F z.cells.toList) (h1 : ∀ u, One (f u)) (hby : byLe P e 1024 = true)
    (hx : Has E Γ M x (isGr g ys.length)) (hM : M[i]? = some (grM f g ys)) (hy : Has E Γ M y (SlM f zs)) (hn' : ys.length + zs.length ≤ 4294967296) (h0 : 0 < zs.length) (hd : Nat.blt d E.n = true)
    (k : ∀ g' : Gr α, Ops E P ops Q rest ((d, isGr g' (ys.length + zs.length)) :: Γ) (M.set i (grM f g' (ys ++ zs)))) :
    Ops E P ops Q (⟨some d, .call ⟨.builtin .append, #[x, y], #[T, T]⟩, ty, pos, after, none⟩ :: rest) Γ M := by
  intro a w F s
  refine wpList_plain rfl fun K hK => ?_
  have hd' : d < E.n := by simpa [Nat.blt_eq] using hd
  obtain ⟨a1, cap, e2, g1, g2, g3, g4⟩ := hy a w F s
  have hu := slB_under hT
  obtain ⟨inf, hi, hb⟩ : ∃ i, P.info? e = some i ∧ i.bytes ≤ 1024 := by
    unfold byLe at hby
    cases hi : P.info? e with
    | none => simp [hi] at hby
    | some i => rw [hi] at hby; exact ⟨i, rfl, Nat.le_of_ble_eq_true hby⟩
  have hsz : inf.size = 1 := by
    have := run_size (P := P) (w := w) ht
    simp [sizeOf, typeInfo, go_sem, hi] at this; exact this
  have hzz : inf.zero = some z := by unfold zeroB at hz; rw [hi] at hz; simpa using hz
  have hone : z.cells.size = 1 := by have := (hZ w F).len; simpa using this.symm
  have hzs : ∀ k, (Builtin.zeroCells z.cells k).toList = (List.replicate k z.cells.toList).flatten := fun k => by
    unfold Builtin.zeroCells
    rw [make_flat rfl]
  have hall : ∀ k, All2 ((List.replicate k u).map f) w F ((List.replicate k z.cells.toList).flatten) := by
    intro k
    induction k with
    | zero => trivial
    | succ k ih =>
      rw [List.replicate_succ, List.replicate_succ, List.flatten_cons, List.map_cons]
      exact All2.append (hZ w F) ih
  rcases g4 with g4 | ⟨b1, off, rfl, hF, vs, hv, hc⟩
  · omega
  have hlen := hv.len
  simp only [List.length_map] at hlen
  have hnews : ∀ j u, vs[j]? = some u → w.cell? ((⟨b1, off, none⟩ : Addr).add j) = some u := fun j u hj => by rw [add_mk]; exact hc j u hj
  have hnl : vs.length = zs.length * inf.size := by rw [hsz]; omega
  -- a new row
  have hfresh : ∀ (olds : List Value), All2 (ys.map f) w F olds → ∀ cp, ys.length + zs.length ≤ cp → cp ≤ maxLen →
      K (a.put (some d) (.slice (some ⟨w.heap.size, 0, none⟩) (ys.length + zs.length) cp)) { w with heap := w.heap.push (.cells (olds ++ vs ++ (Builtin.zeroCells z.cells (cp - (ys.length + zs.length))).toList).toArray e), drawn := w.drawn + 1 } := by
    intro olds ho cp h1 h2
    have hcs : All2 ((ys ++ zs ++ List.replicate (cp - (ys.length + zs.length)) u).map f) w F (olds ++ vs ++ (Builtin.zeroCells z.cells (cp - (ys.length + zs.length))).toList) := by
      rw [List.map_append, List.map_append, hzs]; exact All2.append (All2.append ho hv) (hall _)
    have s1 := (s.adv (Adv.drew w F)).alloc (T := e) (All2.mono (w := w) (w' := { w with drawn := w.drawn + 1 }) (fun _ _ => rfl) (fun _ h => h) _ _ hcs)
    refine hK _ _ (k ⟨some w.heap.size, cp, List.replicate (cp - (ys.length + zs.length)) u⟩ _ _ F ((s1.swap (i := i)).put hd' (.inr ⟨_, rfl, rfl, ?_, h2⟩)))
    simp; omega
  unfold Oper.wp
  have hml : ys.length + zs.length ≤ maxLen := by rw [maxLen_eq]; omega
  rcases hx a w F s with ⟨hob, hyl, e1⟩ | ⟨b, hob, e1, hcap, hcm0⟩
  · have hbytes : zs.length * inf.bytes ≤ 281474976710656 := by have := Nat.mul_le_mul (show zs.length ≤ 4294967296 by omega) hb; omega
    have hy0 : ys = [] := List.eq_nil_of_length_eq_zero hyl
    have hr := run_append_nil (P := P) w T ty e inf z hu hi hzz ⟨b1, off, none⟩ zs.length cap vs hnl hnews (by omega) (by omega) hbytes
    have hf := hfresh [] (by rw [hy0]; trivial) (grownCap w zs.length 0 e) (by rw [hyl, Nat.zero_add]; exact grownCap_ge _ _ _ _) (grownCap_le_maxLen _ _ _ _ (by omega))
    rw [hyl, Nat.zero_add, List.nil_append] at hf
    have hr2 : (execOp a.eval (⟨some d, .call ⟨.builtin .append, #[x, y], #[T, T]⟩, ty, pos, after, none⟩ : Oper)).run P w = .ok (.value (.slice (some ⟨w.heap.size, 0, none⟩) zs.length (grownCap w zs.length 0 e))) { w with heap := w.heap.push (.cells (vs ++ (Builtin.zeroCells z.cells (grownCap w zs.length 0 e - zs.length)).toList).toArray e), drawn := w.drawn + 1 } := by
      have earr : vs.toArray ++ Builtin.zeroCells z.cells (grownCap w zs.length 0 e - zs.length) = (vs ++ (Builtin.zeroCells z.cells (grownCap w zs.length 0 e - zs.length)).toList).toArray := by apply Array.ext'; simp
      simp only [execOp, resolve, invoke, builtin, Sem.run_bind]
      rw [← earr]
      simp [e1, e2, Sem.run_bind, hr]
      first | rfl | exact ⟨rfl, rfl⟩ | done
    rw [hr2]
    exact hf
  · have hM' : M[i]? = some (some b, cellM ((ys ++ g.sp).map f)) := by rw [hM]; unfold grM; rw [hob]
    obtain ⟨o, ho, us, T', rfl, hus⟩ := mem_at s hM'
    have husl := hus.len
    simp only [List.length_map, List.length_append] at husl
    rcases Nat.lt_or_ge g.c (ys.length + zs.length) with hg | hg
    · have holds : All2 (ys.map f) w F (us.take ys.length) := by
        have := hus.take ys.length
        rw [List.map_append, List.take_left' (by simp)] at this
        exact this
      have hcell : ∀ j u, (us.take ys.length)[j]? = some u → w.cell? ((⟨b, 0, none⟩ : Addr).add j) = some u := fun j u hj => by
        have hjl : j < ys.length := by
          rcases Nat.lt_or_ge j ys.length with h | h
          · exact h
          · rw [List.getElem?_take_eq_none h] at hj; cases hj
        rw [List.getElem?_take_of_lt hjl] at hj
        rw [add_mk]
        simp only [World.cell?, ho, Nat.zero_add]
        simpa using hj
      have hfit : Builtin.nextslicecap (ys.length + zs.length) g.c * inf.bytes ≤ 281474976710656 := by
        have h1 := nextslicecap_le hg
        have h2 := Nat.mul_le_mul (Nat.le_trans h1 (show 2 * (ys.length + zs.length) ≤ 8589934592 by omega)) hb
        omega
      have hr := run_append_grow (P := P) w T ty e inf z hu hi hzz ⟨b, 0, none⟩ ys.length g.c (us.take ys.length) (by rw [List.length_take, hsz]; omega) hcell ⟨b1, off, none⟩ zs.length cap vs hnl hnews hg (by omega) hfit
      have hf := hfresh _ holds (grownCap w (ys.length + zs.length) g.c e) (grownCap_ge _ _ _ _) (grownCap_le_maxLen _ _ _ _ hml)
      have hr2 : (execOp a.eval (⟨some d, .call ⟨.builtin .append, #[x, y], #[T, T]⟩, ty, pos, after, none⟩ : Oper)).run P w = .ok (.value (.slice (some ⟨w.heap.size, 0, none⟩) (ys.length + zs.length) (grownCap w (ys.length + zs.length) g.c e))) { w with heap := w.heap.push (.cells (us.take ys.length ++ vs ++ (Builtin.zeroCells z.cells (grownCap w (ys.length + zs.length) g.c e - (ys.length + zs.length))).toList).toArray e), drawn := w.drawn + 1 } := by
        have earr : (us.take ys.length).toArray ++ vs.toArray ++ Builtin.zeroCells z.cells (grownCap w (ys.length + zs.length) g.c e - (ys.length + zs.length)) = (us.take ys.length ++ vs ++ (Builtin.zeroCells z.cells (grownCap w (ys.length + zs.length) g.c e - (ys.length + zs.length))).toList).toArray := by apply Array.ext'; simp
        simp only [execOp, resolve, invoke, builtin, Sem.run_bind]
        rw [← earr]
        simp [e1, e2, Sem.run_bind, hr]
        first | rfl | exact ⟨rfl, rfl⟩ | done
      rw [hr2]
      exact hf
    · have hvone : ∀ v ∈ vs, v.oneCell' = true := hv.one (fun S hS => by obtain ⟨u, _, rfl⟩ := List.mem_map.1 hS; exact h1 u)
      have hst := run_storeCells_at P b ys.length T' vs 0 us.toArray w ho (by simp; omega) hvone
      simp only [Nat.add_zero] at hst
      have hfc := run_firstCells_some (P := P) w 1 zs.length ⟨b1, off, none⟩ zs.length cap vs (by omega) hnews
      have hr : (Builtin.append_ #[T, T] ty #[.slice (some ⟨b, 0, none⟩) ys.length g.c, .slice (some ⟨b1, off, none⟩) zs.length cap]).run P w = .ok (.slice (some ⟨b, 0, none⟩) (ys.length + zs.length) g.c) (w.setRow b (us.take ys.length ++ vs ++ us.drop (ys.length + vs.length)).toArray) := by
        have hst' : (storeCells ⟨b, ys.length, none⟩ vs).run P w = .ok () (w.setRow b (us.take ys.length ++ vs ++ us.drop (ys.length + vs.length)).toArray) := by simpa using hst
        simp [Builtin.append_, run_underlying hu, sizeOf, typeInfo, hi, hsz, Builtin.lenOf, hg, hfc, Addr.add_lit, hst']
      have hr2 : (execOp a.eval (⟨some d, .call ⟨.builtin .append, #[x, y], #[T, T]⟩, ty, pos, after, none⟩ : Oper)).run P w = .ok (.value (.slice (some ⟨b, 0, none⟩) (ys.length + zs.length) g.c)) (w.setRow b (us.take ys.length ++ vs ++ us.drop (ys.length + vs.length)).toArray) := by
        simp only [execOp, resolve, invoke, builtin, Sem.run_bind]
        simp [e1, e2, Sem.run_bind, hr]
      rw [hr2]
      have hF : ∀ k, F k → (w.setRow b (us.take ys.length ++ vs ++ us.drop (ys.length + vs.length)).toArray).heap[k]? = w.heap[k]? := fun k hk => setRow_ne _ _ _ _ (fun e => by
        subst e; exact (s.mem.each k _ (List.mem_of_getElem? hM')).2.2.1 hk)
      have hnew : All2 ((ys ++ zs ++ g.sp.drop zs.length).map f) w F (us.take ys.length ++ vs ++ us.drop (ys.length + vs.length)) := by
        have e1 := hus.take ys.length
        rw [List.map_append, List.take_left' (by simp)] at e1
        have e2 := hus.drop (ys.length + vs.length)
        rw [List.map_append, List.drop_append, List.drop_of_length_le (by simp), List.nil_append, List.length_map, ← hlen, Nat.add_sub_cancel_left, ← List.map_drop] at e2
        rw [List.map_append, List.map_append]
        rw [← hlen]
        exact (e1.append hv).append e2
      refine hK _ _ (k ⟨some b, g.c, g.sp.drop zs.length⟩ _ _ F ?_)
      exact (s.write (w' := w.setRow b (us.take ys.length ++ vs ++ us.drop (ys.length + vs.length)).toArray) (C' := cellM ((ys ++ zs ++ g.sp.drop zs.length).map f)) hM' rfl rfl rfl (setRow_size _ _ _) (fun k hk => setRow_ne _ _ _ _ hk) (setRow_heap _ _ _ _ _ _ ho) ⟨_, T', rfl, All2.mono hF (fun _ h => h) _ _ hnew⟩).put hd' (.inr ⟨b, rfl, rfl, by simp; omega, hcm0⟩)
theorem Cv.freezeG {t i : Nat} {g : Gr α} {ys : List α} (hW : E.W = []) (ht : look Γ t = some (isGr g ys.length)) (hM : M[i]? = some (grM f g ys)) : Cv E Γ M ((t, SlM f ys) :: Γ) (M.eraseIdx i) := by
  intro a w F s
  rcases id (s.slots t _ ht) with ⟨hob, hyl, e1⟩ | ⟨b, hob, e1, hcap, hcm0⟩
  · refine ⟨F, { s with slots := ?_, mem := ⟨s.mem.apart.sublist (List.eraseIdx_sublist _ _), fun k C hk => s.mem.each k C ((List.eraseIdx_sublist _ _).subset hk)⟩ }⟩
    intro t' S' ht'
    simp only [look] at ht'
    cases hb : Nat.beq t t' with
    | false => rw [hb] at ht'; exact s.slots t' S' ht'
    | true =>
      rw [hb] at ht'
      obtain rfl : SlM f ys = S' := by simpa using ht'
      obtain rfl := Nat.eq_of_beq_eq_true hb
      rw [e1, List.eq_nil_of_length_eq_zero hyl]
      exact nilM _ _
  · have hM' : M[i]? = some (some b, cellM ((ys ++ g.sp).map f)) := by rw [hM]; unfold grM; rw [hob]
    have s2 : Sat E ((t, isWin b 0 ys.length g.c) :: Γ) M a w F := s.wider (fun t' S' ht' => by
      simp only [look] at ht'
      cases hb : Nat.beq t t' with
      | false => rw [hb] at ht'; exact s.slots t' S' ht'
      | true =>
        rw [hb] at ht'
        obtain rfl : isWin b 0 ys.length g.c = S' := by simpa using ht'
        obtain rfl := Nat.eq_of_beq_eq_true hb
        exact ⟨e1, by omega, hcm0⟩)
    have he : ((ys ++ g.sp).drop 0).take ys.length = ys := by rw [List.drop_zero, List.take_left' rfl]
    obtain ⟨F', s3⟩ := Cv.freeze' (Γ := (t, isWin b 0 ys.length g.c) :: Γ) (t := t) (b := b) (n := ys.length) (c := g.c) (o := 0) hW (by simp [look, nbeq_self]) hM' (by simp) he a w F s2
    refine ⟨F', s3.wider fun t' S' ht' => ?_⟩
    simp only [look] at ht'
    refine s3.slots t' S' ?_
    simp only [look]
    cases hb : Nat.beq t t' with
    | false => rw [hb] at ht'; simpa using ht'
    | true => rw [hb] at ht'; simpa using ht'
theorem isGr_eq {g : Gr α} {n n' : Nat} (h : n = n') : isGr g n = isGr g n' := h ▸ rfl
theorem grM_eq {g : Gr α} {ys ys' : List α} {r : Mem} (h : ys = ys') : (grM f g ys :: r : Mem) = grM f g ys' :: r := h ▸ rfl
end
end Go.En
namespace Go.En
open Go.RowKit
section
variable {E : Env} {P : Program} {Γ : Ctx} {M : Mem} {ty : TypeId} {pos : String} {after : Array Edge} {gd : Option (Nat × Bool)} {d : Option Tmp} {x y : Operand} {ts : Array TypeId} {m n : Int}
theorem OK1.minI (hx : Has E Γ M x (isI m)) (hy : Has E Γ M y (isI n)) : OK1 E P Γ M ⟨d, .call ⟨.builtin .min, #[x, y], ts⟩, ty, pos, after, gd⟩ (isI (if n < m then n else m)) :=
 .run fun a w F s => by
  have e1 := evI hx a w F s
  have e2 := evI hy a w F s
  refine ⟨_, by simp only [execOp, resolve, invoke, builtin, Sem.run_bind]; simp [e1, e2, Sem.run_bind, run_min_int2]; rfl, ?_⟩
  have h1 := (hx a w F s).2
  have h2 := (hy a w F s).2
  split
  ·exact ⟨rfl, h2⟩
  ·exact ⟨rfl, h1⟩
theorem OK1.maxI (hx : Has E Γ M x (isI m)) (hy : Has E Γ M y (isI n)) : OK1 E P Γ M ⟨d, .call ⟨.builtin .max, #[x, y], ts⟩, ty, pos, after, gd⟩ (isI (if m < n then n else m)) :=
 .run fun a w F s => by
  have e1 := evI hx a w F s
  have e2 := evI hy a w F s
  refine ⟨_, by simp only [execOp, resolve, invoke, builtin, Sem.run_bind]; simp [e1, e2, Sem.run_bind, run_max_int2]; rfl, ?_⟩
  have h1 := (hx a w F s).2
  have h2 := (hy a w F s).2
  split
  ·exact ⟨rfl, h2⟩
  ·exact ⟨rfl, h1⟩
end
end Go.En
namespace Go.En
open Go.RowKit
section
variable {E : Env} {P : Program} {Γ : Ctx} {M : Mem} {ty : TypeId} {pos : String} {after : Array Edge} {gd : Option (Nat × Bool)} {d : Option Tmp}
 {ops : Array Oper} {Q : Exit → Act → World → Prop} {rest : List Oper}
theorem Sat.sub {M' : Mem} {a : Act} {w : World} {F : Blk} (s : Sat E Γ M a w F) (h : M'.Sublist M) : Sat E Γ M' a w F :=
 {s with mem := ⟨s.mem.apart.sublist h, fun b C hb => s.mem.each b C (h.subset hb)⟩ }
def StS (E : Env) (P : Program) (Δ : Ctx) (M : Mem) (o : Oper) (M' : Mem) : Prop := o.guard = none ∧ ∀ a w F, Sat E Δ M a w F → ∀ (K : Act → World → Prop) (Q : Exit → Act → World → Prop),
 (∀ w', (∀ b, F b → w'.heap[b]? = w.heap[b]?) → (∀ Γ'', Sat E Γ'' M a w F → Sat E Γ'' M' a w' F) → K a w') → o.wp P a w K Q
theorem StS.store {x y : Operand} {b off i n : Nat} {g : Bool} {T : TypeId} {Ss Ss1 : List VP} {S : VP} [sh : Shape S Ss1] [o1 : Ones Ss1] (hx : Has E Γ M x (isPtr b off)) (hy : Has E Γ M y S)
  (hM : M[i]? = some (some b, cellM Ss)) (hT : tyB P T = some (n, g)) (hn : Nat.beq Ss1.length n = true) (hl : Nat.ble (off + n) Ss.length = true) {Ss' : List VP} {M' : Mem} (hS : Ss.take off ++ Ss1 ++ Ss.drop (off + n) = Ss')
  (hM' : M.set i (some b, cellM Ss') = M') : StS E P Γ M ⟨none, .store T x y, ty, pos, after, none⟩ M' := by
 refine ⟨rfl, fun a w F s K Q hK => ?_⟩
 obtain ⟨o, hb, vs, T', rfl, hv⟩ := mem_at s hM
 have h1 : a.eval x = .pointer (some ⟨b, off, none⟩) := hx a w F s
 have hy' := sh.cells _ _ _ (hy a w F s)
 have hn' : Ss1.length = n := Nat.eq_of_beq_eq_true hn
 have hl' := Nat.le_of_ble_eq_true hl
 have e1 := hv.len
 have e2 := hy'.len
 have hcs : (a.eval y).cells.size = n := by rw [← Array.length_toList, ← e2, hn']
 unfold Oper.wp
 have hr : (execOp a.eval (⟨none, .store T x y, ty, pos, after, none⟩ : Oper)).run P w = .ok .skip (w.setRow b (vs.take off ++ (a.eval y).cells.toList ++ vs.drop (off + n)).toArray) := by
  have h2 := run_storeCells_at P b off T' (a.eval y).cells.toList 0 vs.toArray w hb (by simp; omega) (hy'.one o1.ones)
  simp only [Nat.add_zero, Array.length_toList, hcs] at h2
  simp only [execOp, h1, Instr.storeAt, Instr.sureAddr, storeVar, Sem.run_bind, Sem.run_pure, Result.andThen_ok, run_size hT, hcs]
  simp only [ne_eq, not_true_eq_false, if_false, h2, Result.andThen_ok]
 rw [hr]
 have hF : ∀ k, F k → (w.setRow b (vs.take off ++ (a.eval y).cells.toList ++ vs.drop (off + n)).toArray).heap[k]? = w.heap[k]? := fun k hk => setRow_ne _ _ _ _ (fun e => by
  subst e; exact (s.mem.each k _ (List.mem_of_getElem? hM)).2.2.1 hk)
 refine hK _ hF fun Γ'' s'' => ?_
 rw [← hM']
 refine s''.write hM rfl rfl rfl (setRow_size _ _ _) (fun k hk => setRow_ne _ _ _ _ hk) (setRow_heap _ _ _ _ _ _ hb) ⟨_, T', rfl, ?_⟩
 refine All2.mono hF (fun _ h => h) _ _ ?_
 rw [← hS]
 exact ((hv.take off).append hy').append (hv.drop _)
structure MidAt (E : Env) (P : Program) (l : List Oper) (Γ : Ctx) (Ss : List VP) (n1 m : Nat) (M M' : Mem) : Prop where
 ex : ∃ (o : Oper) (Δ : Ctx), l[n1 + m]? = some o ∧ o.dst = none ∧
  (∀ t S, look Δ t = some S → (∃ (j : Nat) (oj : Oper), (((masks l [])[n1 + m]?).getD 0).testBit j = true ∧ l[j]? = some oj ∧ oj.dst = some t ∧ Ss[j]? = some S) ∨ look Γ t = some S) ∧
  (∀ j, j < m → (((masks l [])[n1 + m]?).getD 0).testBit (n1 + j) = true) ∧ StS E P Δ M o M'
theorem phaseC {l : List Oper} {n1 k : Nat} {Ss : List VP} {Ms : Mem} {f : Nat → Mem} (hD : Dr E P l Γ Ms n1 Ss) (hsub : ∀ m, m ≤ k → Ms.Sublist (f m)) (hmid : ∀ m, m < k → MidAt E P l Γ Ss n1 m (f m) (f (m + 1)))
    (hap : apartB l n1 Γ = true) (htl : tailB l (n1 + k) = true) (hnl : n1 + k ≤ l.length) (kk : Ops E P l.toArray Q (l.drop (n1 + k)) (dctx (l.take n1) Ss ++ Γ) (f k)) :
    ∀ (fuel : Nat) (listed : Array Bool) (a : Act) (w : World) (F : Blk) (m : Nat), m ≤ k → listed.toList.countP (· == false) ≤ fuel → listed.size = l.length →
    (∀ j, n1 + m ≤ j → j < l.length → listed.getD j true = false) → (∀ j, n1 ≤ j → j < n1 + m → listed.getD j true = true) → Closed l (fun j => listed.getD j false = true) → Sat E Γ (f m) a w F → Done l Ss (fun j => listed.getD j false = true) a w F →
    wpAny P .any l.toArray Q fuel listed a w := by
  obtain ⟨hlen, hat⟩ := hD.at
  have hsp := tailB_spec htl
  have gd : ∀ (listed : Array Bool) j, j < listed.size → listed.getD j true = listed.getD j false := fun listed j hj => by simp [hj]
  have hapart : ∀ i d, i < n1 → (l[i]?).bind (·.dst) = some d → (∀ t S, look Γ t = some S → t ≠ d) ∧ ∀ j e, j < n1 → j ≠ i → (l[j]?).bind (·.dst) = some e → e ≠ d := by
    intro i d hi hd
    unfold apartB at hap
    rw [List.all_eq_true] at hap
    have h1 := hap i (by simpa using hi)
    rw [hd] at h1
    simp only [Bool.and_eq_true] at h1
    refine ⟨look_none h1.1, fun j e hj hne he => ?_⟩
    have h2 := List.all_eq_true.1 h1.2 j (by simpa using hj)
    rw [he] at h2
    simp only [Bool.or_eq_true, Bool.not_eq_true'] at h2
    rcases h2 with h2 | h2
    · exact absurd (Nat.eq_of_beq_eq_true h2).symm hne
    · exact fun e' => Nat.ne_of_beq_eq_false h2 e'.symm
  have hend : ∀ (fuel : Nat) (listed : Array Bool) (a : Act) (w : World) (F : Blk) (m : Nat), m ≤ k → listed.toList.countP (· == false) ≤ fuel → listed.size = l.length →
      (∀ j, n1 + m ≤ j → j < l.length → listed.getD j true = false) → Closed l (fun j => listed.getD j false = true) → Sat E Γ (f m) a w F → Done l Ss (fun j => listed.getD j false = true) a w F →
      (∀ j, j < n1 + k → j < l.length → listed.getD j true = true) → wpAny P .any l.toArray Q fuel listed a w := by
    intro fuel listed a w F m hm hcnt hsz htail hc s hdone hall
    obtain rfl : m = k := by
      rcases Nat.lt_or_ge m k with h | h
      · have h1 := htail (n1 + m) (Nat.le_refl _) (by omega)
        have h2 := hall (n1 + m) (by omega) (by omega)
        rw [h1] at h2; cases h2
      · omega
    have hge := count_ge hsz htail
    refine phaseB htl fuel (n1 + m) listed a w (Nat.le_refl _) (by omega) hsz hall htail hc (kk a w F (s.wider ?_))
    intro t S ht
    rw [look_append] at ht
    cases hl : look (dctx (l.take n1) Ss) t with
    | none => rw [hl] at ht; exact s.slots t S (by simpa using ht)
    | some S' =>
      rw [hl] at ht
      obtain rfl : S' = S := by simpa using ht
      obtain ⟨j, o, h1, h2, h3⟩ := look_dctx _ _ _ _ hl
      have hj : j < n1 := by
        rcases Nat.lt_or_ge j n1 with h' | h'
        · exact h'
        · rw [List.getElem?_eq_none (by omega)] at h3; cases h3
      rw [List.getElem?_take_of_lt hj] at h1
      exact hdone j o t S' (by have h4 := hall j (by omega) (by omega); rw [gd listed j (by omega)] at h4; exact h4) h1 h2 h3
  intro fuel
  induction fuel with
  | zero =>
    intro listed a w F m hm hcnt hsz htail hmids hc s hdone
    refine hend 0 listed a w F m hm hcnt hsz htail hc s hdone fun j hj hjl => ?_
    have hlt : j < listed.size := by omega
    have h0 : listed.toList.countP (· == false) = 0 := by omega
    rw [List.countP_eq_zero] at h0
    have := h0 listed[j] (by simp)
    simp [hlt]
    simpa using this
  | succ fuel ih =>
    intro listed a w F m hm hcnt hsz htail hmids hc s hdone
    by_cases hall : ∀ j, j < n1 + k → j < l.length → listed.getD j true = true
    · exact hend _ listed a w F m hm hcnt hsz htail hc s hdone hall
    · have hex : ∃ j, j < n1 + k ∧ listed.getD j true = false := by
        refine Classical.byContradiction fun hno => hall fun j hj _ => ?_
        cases hb : listed.getD j true with
        | true => rfl
        | false => exact absurd ⟨j, hj, hb⟩ hno
      refine ⟨fun hr => ?_, fun i hi => ?_⟩
      · obtain ⟨j, ⟨hj1, hj2⟩, hmin⟩ := exists_least hex
        have : j ∈ Region.ready .any l.toArray listed := by
          rw [mem_ready]
          have hjl : j < l.length := by omega
          refine ⟨hj2, l[j], by simp [hjl], fun e he hb => ?_⟩
          have hlt := hsp.1 j _ (List.getElem?_eq_getElem hjl) e he hb
          cases hbb : listed.getD e.on true with
          | true => rw [gd listed e.on (by omega)] at hbb; exact hbb
          | false => have := hmin e.on ⟨by omega, hbb⟩; omega
        rw [hr] at this; simp at this
      · have hi' := hi
        rw [mem_ready] at hi
        obtain ⟨g1, o, g2, g3⟩ := hi
        have g2' : l[i]? = some o := by simpa using g2
        have hil : i < l.length := by
          rcases Nat.lt_or_ge i l.length with h' | h'
          · exact h'
          · rw [List.getElem?_eq_none h'] at g2'; cases g2'
        have hin : i < n1 + k := by
          rcases Nat.lt_or_ge i (n1 + k) with h' | h'
          · exact h'
          · obtain ⟨j, hj1, hj2⟩ := hex
            obtain ⟨q, hq, hb⟩ := hsp.2 i hil h' j (by omega)
            have := reach hc i o g2' g3 j q hq hb
            have e : listed.getD j false = true := this
            rw [← gd listed j (by omega), hj2] at e; cases e
        have hmask : i < (masks l []).length := by rw [masks_len]; simpa using hil
        have hcount : (listed.setIfInBounds i true).toList.countP (· == false) ≤ fuel := by
          have hlt : i < listed.toList.length := by simp; omega
          have hli : listed.toList[i] = false := by
            have : i < listed.size := by omega
            simp [this] at g1; simpa using g1
          rw [Array.toList_setIfInBounds, List.countP_set hlt]
          rw [hli]
          have hpos : 0 < listed.toList.countP (· == false) := List.countP_pos_iff.2 ⟨false, by rw [← hli]; exact List.getElem_mem _, rfl⟩
          simp only [beq_self_eq_true, if_true]
          show _ - 1 + 0 ≤ fuel
          omega
        have hclosed : Closed l (fun j => (listed.setIfInBounds i true).getD j false = true) := by
          intro j oj hj hL e he hb
          by_cases ek : j = i
          · subst ek
            rw [g2'] at hj; obtain rfl := Option.some.inj hj
            exact getD_set_true (g3 e he hb)
          · exact getD_set_true (hc j oj hj (by
              have hL' : (listed.setIfInBounds i true).getD j false = true := hL
              rwa [getD_set_ne false (fun h => ek h.symm)] at hL') e he hb)
        have hctx : ∀ Δ : Ctx, (∀ t S, look Δ t = some S → (∃ (j : Nat) (oj : Oper), (((masks l [])[i]?).getD 0).testBit j = true ∧ l[j]? = some oj ∧ oj.dst = some t ∧ Ss[j]? = some S) ∨ look Γ t = some S) →
            ∀ t S, look Δ t = some S → S.h w F (a.tmps.getD t undef) := by
          intro Δ a6 t S' ht
          rcases a6 t S' ht with ⟨j, oj, b0, b1, b2, b3⟩ | h
          · rw [List.getElem?_eq_getElem hmask] at b0
            exact hdone j oj t S' (reach hc i o g2' g3 j _ (List.getElem?_eq_getElem hmask) (by simpa using b0)) b1 b2 b3
          · exact s.slots t S' h
        have ho : l.toArray[i]? = some o := by simpa using g2'
        rcases Nat.lt_or_ge i n1 with hin1 | hin1
        · obtain ⟨o', d, S, Δ, a1, a2, a3, a4, a6, a7⟩ := hat i hin1
          rw [g2'] at a1; obtain rfl := Option.some.inj a1
          have hbind : (l[i]?).bind (·.dst) = some d := by rw [g2']; exact a2
          obtain ⟨ap1, ap2⟩ := hapart i d hin1 hbind
          have hsat : Sat E Δ Ms a w F := (s.wider (hctx Δ a6)).sub (hsub m hm)
          have hstep := a7 a w F hsat (wpAny P .any l.toArray Q fuel (listed.setIfInBounds i true)) Q
          have hgo : ∀ v w' F', Adv w F w' F' → S.h w' F' v → wpAny P .any l.toArray Q fuel (listed.setIfInBounds i true) (a.put o.dst v) w' := by
            intro v w' F' ad hv
            rw [a2]
            have s1 := s.adv ad
            refine ih _ _ w' F' m hm hcount (by simp [hsz]) (fun j hj hjl => ?_) (fun j h1 h2 => ?_) hclosed (s1.putOut a3 v ap1) ?_
            · rw [getD_set_ne true (by omega)]; exact htail j hj hjl
            · rw [getD_set_ne true (by omega)]; exact hmids j h1 h2
            · intro j oj dj Sj hL hj hdj hSj
              rw [getD_put (by rw [s1.size]; exact a3)]
              by_cases ek : j = i
              · subst ek
                rw [g2'] at hj; obtain rfl := Option.some.inj hj
                rw [a2] at hdj; obtain rfl := Option.some.inj hdj
                rw [a4] at hSj; obtain rfl := Option.some.inj hSj
                rw [if_pos rfl]; exact hv
              · have hjn : j < n1 := by
                  rcases Nat.lt_or_ge j n1 with h' | h'
                  · exact h'
                  · rw [List.getElem?_eq_none (by omega)] at hSj; cases hSj
                have hne := ap2 j dj hjn ek (by rw [hj]; exact hdj)
                rw [if_neg (fun e => hne e.symm)]
                refine Sj.mono _ _ _ _ _ (hdone j oj dj Sj ?_ hj hdj hSj) (ad.same s.flt) ad.sub
                have hL' : (listed.setIfInBounds i true).getD j false = true := hL
                rwa [getD_set_ne false (fun h => ek h.symm)] at hL'
          have hres := hstep hgo
          unfold wpOp
          rw [ho]
          exact hres
        · -- a store: the next one of the row
          have him : n1 + m ≤ i := by
            rcases Nat.lt_or_ge i (n1 + m) with h | h
            · rw [hmids i hin1 h] at g1; cases g1
            · exact h
          have hieq : i = n1 + m := by
            rcases Nat.lt_or_ge (n1 + m) i with h | h
            · obtain ⟨o', Δ, b1, b2, b3, b4, b5⟩ := (hmid (i - n1) (by omega)).ex
              have hb := b4 m (by omega)
              rw [show n1 + (i - n1) = i by omega, List.getElem?_eq_getElem hmask] at hb
              have := reach hc i o g2' g3 (n1 + m) _ (List.getElem?_eq_getElem hmask) (by simpa using hb)
              have e : listed.getD (n1 + m) false = true := this
              rw [← gd listed (n1 + m) (by omega), htail (n1 + m) (Nat.le_refl _) (by omega)] at e; cases e
            · omega
          subst hieq
          have hmk : m < k := by omega
          obtain ⟨o', Δ, b1, b2, b3, b4, b5, b6⟩ := (hmid m hmk).ex
          rw [g2'] at b1; obtain rfl := Option.some.inj b1
          have hsat : Sat E Δ (f m) a w F := s.wider (hctx Δ b3)
          have hgo : ∀ w', (∀ b, F b → w'.heap[b]? = w.heap[b]?) → (∀ Γ'', Sat E Γ'' (f m) a w F → Sat E Γ'' (f (m + 1)) a w' F) → wpAny P .any l.toArray Q fuel (listed.setIfInBounds (n1 + m) true) a w' := by
            intro w' hF hS
            refine ih _ _ w' F (m + 1) hmk hcount (by simp [hsz]) (fun j hj hjl => ?_) (fun j h1 h2 => ?_) hclosed (hS Γ s) ?_
            · rw [getD_set_ne true (by omega)]; exact htail j (by omega) hjl
            · by_cases e : j = n1 + m
              · subst e
                have : n1 + m < listed.size := by omega
                simp [this]
              · rw [getD_set_ne true (by omega)]; exact hmids j h1 (by omega)
            · intro j oj dj Sj hL hj hdj hSj
              have hjn : j < n1 := by
                rcases Nat.lt_or_ge j n1 with h' | h'
                · exact h'
                · rw [List.getElem?_eq_none (by omega)] at hSj; cases hSj
              refine Sj.mono _ _ _ _ _ (hdone j oj dj Sj ?_ hj hdj hSj) hF (fun _ h => h)
              have hL' : (listed.setIfInBounds (n1 + m) true).getD j false = true := hL
              rwa [getD_set_ne false (by omega)] at hL'
          unfold wpOp
          rw [ho]
          show if Region.wanted o (yielded l.toArray a.tmps) then _ else _
          rw [if_pos (by simp [Region.wanted, b5])]
          exact .inl (b6 a w F hsat _ Q hgo)
def DrH (E : Env) (P : Program) (id : Nat) (l : List Oper) (Γ : Ctx) (M Ms : Mem) (Q : Exit → Act → World → Prop) (i : Nat) (Θ : Ctx) : Prop :=
 ∀ Ss, Dr E P l Γ Ms i Ss → (∀ t S, look Θ t = some S → ∃ (j : Nat) (o : Oper), j < i ∧ l[j]? = some o ∧ o.dst = some t ∧ Ss[j]? = some S) → Tri E P (.region id l.toArray true) Γ M Q
def keepM : List Bool → Mem → Mem
 | true :: bs, m :: M => m :: keepM bs M
 | false :: bs, _ :: M => keepM bs M
 | _, _ => []
theorem Tri.drh {id : Nat} {l : List Oper} {Ms : Mem} (bs : List Bool) (e : keepM bs M = Ms) (h : DrH E P id l Γ M Ms Q 0 []) : Tri E P (.region id l.toArray true) Γ M Q := h [] .nil (fun t S ht => by simp [look] at ht)
theorem DrH.st {id i d : Nat} {l : List Oper} {Θ : Ctx} {S : VP} {o : Oper} {Ms : Mem} (ts : List Nat) (h1 : l[i]? = some o) (h2 : o.dst = some d) (h3 : Nat.blt d E.n = true)
    (h4 : behindB l i ts = true) (h5 : OKG E P l.toArray (keepc ts Θ ++ Γ) Ms o S) (k : DrH E P id l Γ M Ms Q (i + 1) ((d, S) :: Θ)) : DrH E P id l Γ M Ms Q i Θ := by
  intro Ss hD hΘ
  obtain ⟨hlen, _⟩ := hD.at
  refine k (Ss ++ [S]) (.snoc _ hD h1 h2 h3 (fun t S' ht => ?_) h5) (fun t S' ht => ?_)
  · rw [look_append] at ht
    cases hl : look (keepc ts Θ) t with
    | none => rw [hl] at ht; exact .inr (by simpa using ht)
    | some S'' =>
      rw [hl] at ht
      obtain rfl : S'' = S' := by simpa using ht
      obtain ⟨hm, hl2⟩ := look_keepc _ _ _ hl
      obtain ⟨j, oj, b0, b1, b2, b3⟩ := hΘ t S'' hl2
      refine .inl ⟨j, oj, ?_, b1, b2, b3⟩
      have := List.all_eq_true.1 h4 j (by simpa using b0)
      rw [b1] at this
      simp only [Option.bind_some, b2, Bool.or_eq_true] at this
      rcases this with h | h
      · exact h
      · have := List.all_eq_true.1 h t hm
        simp [Nat.beq_refl] at this
  · simp only [look] at ht
    cases hb : Nat.beq d t with
    | true =>
      rw [hb] at ht; simp at ht; subst ht
      obtain rfl := Nat.eq_of_beq_eq_true hb
      exact ⟨i, o, by omega, h1, h2, by rw [List.getElem?_append_right (by omega)]; simp [hlen]⟩
    | false =>
      rw [hb] at ht
      obtain ⟨j, oj, b0, b1, b2, b3⟩ := hΘ t S' ht
      exact ⟨j, oj, by omega, b1, b2, by rw [List.getElem?_append_left (by omega)]; exact b3⟩
theorem DrH.s {id i d : Nat} {l : List Oper} {Θ : Ctx} {S : VP} {o : Oper} {Ms : Mem} (ts : List Nat) (h1 : l[i]? = some o) (h2 : o.dst = some d) (h3 : Nat.blt d E.n = true) (h5 : OKG E P l.toArray (keepc ts Θ ++ Γ) Ms o S) (k : DrH E P id l Γ M Ms Q (i + 1) ((d, S) :: Θ)) (h4 : behindB l i ts = true := by kernel_rfl) : DrH E P id l Γ M Ms Q i Θ :=
 DrH.st ts h1 h2 h3 h4 h5 k
def DrM (E : Env) (P : Program) (id : Nat) (l : List Oper) (Γ : Ctx) (M Ms : Mem) (Q : Exit → Act → World → Prop) (n1 : Nat) (Θ : Ctx) (m : Nat) (Mc : Mem) : Prop :=
  ∀ (Ss : List VP) (f : Nat → Mem), Dr E P l Γ Ms n1 Ss → (∀ t S, look Θ t = some S → ∃ (j : Nat) (o : Oper), j < n1 ∧ l[j]? = some o ∧ o.dst = some t ∧ Ss[j]? = some S) → f 0 = M → f m = Mc → (∀ j, j ≤ m → Ms.Sublist (f j)) →
    (∀ j, j < m → MidAt E P l Γ Ss n1 j (f j) (f (j + 1))) → Tri E P (.region id l.toArray true) Γ M Q
theorem DrH.mid {id n : Nat} {l : List Oper} {Θ : Ctx} {Ms : Mem} (hs : Ms.Sublist M) (k : DrM E P id l Γ M Ms Q n Θ 0 M) : DrH E P id l Γ M Ms Q n Θ := by
 intro Ss hD hΘ
 refine k Ss (fun _ => M) hD hΘ rfl rfl (fun j hj => hs) (fun j hj => absurd hj (by omega))
def chainB (l : List Oper) (n1 m : Nat) : Bool := (List.range m).all fun j => (((masks l [])[n1 + m]?).getD 0).testBit (n1 + j)
theorem DrM.st {id n1 m : Nat} {l : List Oper} {Θ : Ctx} {o : Oper} {Ms Mc M' : Mem} (ts : List Nat) (h1 : l[n1 + m]? = some o) (h2 : o.dst = none) (h4 : behindB l (n1 + m) ts = true) (hc : chainB l n1 m = true)
    (h5 : StS E P (keepc ts Θ ++ Γ) Mc o M') (hs : Ms.Sublist M') (k : DrM E P id l Γ M Ms Q n1 Θ (m + 1) M') : DrM E P id l Γ M Ms Q n1 Θ m Mc := by
  intro Ss f hD hΘ hf0 hfm hsub hmid
  refine k Ss (fun j => if j = m + 1 then M' else f j) hD hΘ (by simp [hf0]) (by simp) (fun j hj => ?_) (fun j hj => ?_)
  · show Ms.Sublist (if j = m + 1 then M' else f j)
    split
    · exact hs
    · exact hsub j (by omega)
  · show MidAt E P l Γ Ss n1 j (if j = m + 1 then M' else f j) (if j + 1 = m + 1 then M' else f (j + 1))
    rw [if_neg (by omega)]
    by_cases e : j = m
    · subst e
      rw [if_pos rfl, hfm]
      refine ⟨o, _, h1, h2, fun t S' ht => ?_, fun i hi => ?_, h5⟩
      · rw [look_append] at ht
        cases hl : look (keepc ts Θ) t with
        | none => rw [hl] at ht; exact .inr (by simpa using ht)
        | some S'' =>
          rw [hl] at ht
          obtain rfl : S'' = S' := by simpa using ht
          obtain ⟨hm, hl2⟩ := look_keepc _ _ _ hl
          obtain ⟨i, oj, b0, b1, b2, b3⟩ := hΘ t S'' hl2
          refine .inl ⟨i, oj, ?_, b1, b2, b3⟩
          have := List.all_eq_true.1 h4 i (by simp; omega)
          rw [b1] at this
          simp only [Option.bind_some, b2, Bool.or_eq_true] at this
          rcases this with h | h
          · exact h
          · have := List.all_eq_true.1 h t hm
            simp [Nat.beq_refl] at this
      · exact List.all_eq_true.1 hc i (by simpa using hi)
    · rw [if_neg (by omega)]
      exact hmid j (by omega)
theorem DrM.fin {id n1 m n : Nat} {l : List Oper} {Θ : Ctx} {Ms Mc : Mem} (hm : P.follows .mixedOrders = true) (hn : n = n1 + m) (hap : apartB l n1 Γ = true) (htl : tailB l n = true) (hnl : Nat.ble n l.length = true)
    (k : Ops E P l.toArray Q (l.drop n) (Θ ++ Γ) Mc) : DrM E P id l Γ M Ms Q n1 Θ m Mc := by
  intro Ss f hD hΘ hf0 hfm hsub hmid
  subst hn
  have hnl' := Nat.le_of_ble_eq_true hnl
  have hk : Ops E P l.toArray Q (l.drop (n1 + m)) (dctx (l.take n1) Ss ++ Γ) (f m) := by
    rw [hfm]
    refine fun a w F s => k a w F (s.wider fun t S ht => ?_)
    rw [look_append] at ht
    cases hl : look Θ t with
    | none =>
      rw [hl] at ht
      have ht' : look Γ t = some S := by simpa using ht
      have hno : look (dctx (l.take n1) Ss) t = none := by
        cases hd : look (dctx (l.take n1) Ss) t with
        | none => rfl
        | some S' =>
          obtain ⟨j, o, b1, b2, b3⟩ := look_dctx _ _ _ _ hd
          have hj : j < n1 := by
            rcases Nat.lt_or_ge j n1 with h' | h'
            · exact h'
            · rw [List.getElem?_eq_none (by simp; omega)] at b1; cases b1
          rw [List.getElem?_take_of_lt hj] at b1
          have h1 := List.all_eq_true.1 hap j (by simpa using hj)
          rw [b1] at h1
          simp only [Option.bind_some, b2, Bool.and_eq_true] at h1
          exact absurd rfl (look_none h1.1 t S ht')
      exact s.slots t S (by rw [look_append, hno]; simpa using ht')
    | some S' =>
      rw [hl] at ht
      obtain rfl : S' = S := by simpa using ht
      obtain ⟨j, o, b0, b1, b2, b3⟩ := hΘ t S' hl
      have hex : ∀ (l' : List Oper) (Ss' : List VP) (j : Nat), (l'[j]?).bind (·.dst) = some t → Ss'[j]? = some S' → (∀ j', j' ≠ j → (l'[j']?).bind (·.dst) ≠ some t) → look (dctx l' Ss') t = some S' := by
        intro l'
        induction l' with
        | nil => intro Ss' j h; simp at h
        | cons o' l' ih =>
          intro Ss' j h1 h2 h3
          cases Ss' with
          | nil => simp at h2
          | cons T Ss' =>
            cases j with
            | zero =>
              simp at h1 h2
              subst h2
              simp [dctx, h1, look]
            | succ j =>
              have hrec := ih Ss' j (by simpa using h1) (by simpa using h2) (fun j' hj' => by simpa using h3 (j' + 1) (by omega))
              have h0 := h3 0 (by omega)
              simp at h0
              simp only [dctx]
              cases hd : o'.dst with
              | none => exact hrec
              | some d' =>
                simp only [look]
                have hne : Nat.beq d' t = false := by
                  cases hb : Nat.beq d' t with
                  | false => rfl
                  | true => exact absurd (by rw [hd, Nat.eq_of_beq_eq_true hb]) h0
                rw [hne]; exact hrec
      have hlk := hex (l.take n1) Ss j (by rw [List.getElem?_take_of_lt b0, b1]; exact b2) b3 (fun j' hj' he => by
        have hj'n : j' < n1 := by
          rcases Nat.lt_or_ge j' n1 with h' | h'
          · exact h'
          · rw [List.getElem?_eq_none (by simp; omega)] at he; simp at he
        rw [List.getElem?_take_of_lt hj'n] at he
        have h1 := List.all_eq_true.1 hap j (by simpa using b0)
        rw [b1] at h1
        simp only [Option.bind_some, b2, Bool.and_eq_true] at h1
        have h2 := List.all_eq_true.1 h1.2 j' (by simpa using hj'n)
        rw [he] at h2
        simp only [Bool.or_eq_true, Bool.not_eq_true'] at h2
        rcases h2 with h2 | h2
        · exact hj' (Nat.eq_of_beq_eq_true h2).symm
        · exact Nat.ne_of_beq_eq_false h2 rfl)
      exact s.slots t S' (by rw [look_append, hlk]; rfl)
  intro a w F s
  refine wp_region_any hm ?_
  have s1 := s.adv (Adv.drew w F)
  refine phaseC hD hsub hmid hap htl hnl' hk _ _ a _ F 0 (Nat.zero_le _) ?_ (by simp) (fun j hj hjl => ?_) (fun j h1 h2 => absurd h2 (by omega)) ?_ (hf0 ▸ s1) ?_
  · simp
    exact Nat.le_trans List.countP_le_length (by simp)
  · have : j < l.length := hjl
    simp [this]
  · intro i o hi hL
    simp [Array.getD_eq_getD_getElem?, Array.getElem?_replicate] at hL
    split at hL <;> simp at hL
  · intro j o d S hL
    simp [Array.getD_eq_getD_getElem?, Array.getElem?_replicate] at hL
    split at hL <;> simp at hL
end
end Go.En
namespace Go.En
open Go.RowKit
section
variable {E : Env} {P : Program} {Γ : Ctx} {M : Mem} {ty : TypeId} {pos : String} {after : Array Edge} {gd : Option (Nat × Bool)} {d : Option Tmp}
 {ops : Array Oper} {Q : Exit → Act → World → Prop} {rest : List Oper}
def isOP (o : Option Nat) : VP := .pure fun v => ∀ b, o = some b → v = .pointer (some ⟨b, 0, none⟩)
def gctx : List Nat → List (Option Nat) → Ctx
 | d :: ds, o :: B => (d, isOP o) :: gctx ds B
 | _, _ => []
def gmem : List MP → List (Option Nat) → Mem
 | C :: Cs, o :: B => (o, C) :: gmem Cs B
 | _, _ => []
theorem Has.op {t b : Nat} (h : look Γ t = some (isOP (some b))) : Has E Γ M (.tmp t) (isPtr b 0) := fun a w F s => s.slots t _ h b rfl
theorem look_gctx_at : ∀ (ds : List Nat) (B : List (Option Nat)) (t : Nat) (S : VP), look (gctx ds B) t = some S → ∃ (j : Nat) (o : Option Nat), ds[j]? = some t ∧ B[j]? = some o ∧ S = isOP o
  | [], B, t, S, h => by simp [gctx, look] at h
  | d :: ds, [], t, S, h => by simp [gctx, look] at h
  | d :: ds, o :: B, t, S, h => by
    simp only [gctx, look] at h
    cases hb : Nat.beq d t with
    | true => rw [hb] at h; simp at h; exact ⟨0, o, by simp [Nat.eq_of_beq_eq_true hb], rfl, h.symm⟩
    | false => rw [hb] at h; obtain ⟨j, o', h1, h2, h3⟩ := look_gctx_at ds B t S h; exact ⟨j + 1, o', by simpa using h1, by simpa using h2, h3⟩
theorem look_gctx (ds : List Nat) (B : List (Option Nat)) (t : Nat) (S : VP) (h : look (gctx ds B) t = some S) : ∃ j : Nat, ds[j]? = some t := by
 obtain ⟨j, o, h1, _⟩ := look_gctx_at ds B t S h; exact ⟨j, h1⟩
theorem look_gctx_set : ∀ (ds : List Nat) (B : List (Option Nat)) (j b : Nat) (t : Nat) (S : VP), look (gctx ds (B.set j (some b))) t = some S → (ds[j]? = some t ∧ S = isOP (some b)) ∨ look (gctx ds B) t = some S
  | [], B, j, b, t, S, h => by simp [gctx, look] at h
  | d :: ds, [], j, b, t, S, h => by simp [gctx, look] at h
  | d :: ds, o :: B, 0, b, t, S, h => by
    simp only [List.set_cons_zero, gctx, look] at h ⊢
    cases hb : Nat.beq d t with
    | true => rw [hb] at h; simp at h; exact .inl ⟨by simp [Nat.eq_of_beq_eq_true hb], h.symm⟩
    | false => rw [hb] at h; exact .inr h
  | d :: ds, o :: B, j + 1, b, t, S, h => by
    simp only [List.set_cons_succ, gctx, look] at h ⊢
    cases hb : Nat.beq d t with
    | true => rw [hb] at h; exact .inr h
    | false =>
      rw [hb] at h
      rcases look_gctx_set ds B j b t S h with h1 | h1
      · exact .inl ⟨by simpa using h1.1, h1.2⟩
      · exact .inr h1
theorem gmem_set : ∀ (Cs : List MP) (B : List (Option Nat)) (q b : Nat) {n : Nat} {M : Mem} {C : MP}, B.length = n → Cs.length = n → Cs[q]? = some C → q < n → (gmem Cs B ++ M).set q (some b, C) = gmem Cs (B.set q (some b)) ++ M
  | [], B, q, b, n, M, C, h1, h2, h3, h4 => by simp at h3
  | C0 :: Cs, [], q, b, n, M, C, h1, h2, h3, h4 => by simp at h1; omega
  | C0 :: Cs, o :: B, 0, b, n, M, C, h1, h2, h3, h4 => by simp at h3; subst h3; rfl
  | C0 :: Cs, o :: B, q + 1, b, n, M, C, h1, h2, h3, h4 => by
    obtain ⟨n, rfl⟩ : ∃ k, n = k + 1 := ⟨n - 1, by omega⟩
    have := gmem_set Cs B q b (n := n) (M := M) (C := C) (by simpa using h1) (by simpa using h2) (by simpa using h3) (by omega)
    simp only [gmem, List.cons_append, List.set_cons_succ, this]
theorem all_some : ∀ {B : List (Option Nat)}, (∀ (j : Nat) (o : Option Nat), B[j]? = some o → o ≠ none) → ∃ bs : List Nat, bs.length = B.length ∧ B = bs.map some
  | [], _ => ⟨[], rfl, rfl⟩
  | none :: B, h => absurd rfl (h 0 none rfl)
  | some b :: B, h => by
    obtain ⟨bs, h1, h2⟩ := all_some (B := B) fun j o hj => h (j + 1) o (by simpa using hj)
    exact ⟨b :: bs, by simp [h1], by rw [h2]; rfl⟩
structure AlAt (E : Env) (P : Program) (l : List Oper) (n0 n1 k : Nat) (ds : List Nat) (Cs : Nat → List MP) (j : Nat) : Prop where
 full : ∃ (d : Nat) (T : TypeId) (z : Value) (Zs : List VP) (ty : TypeId) (pos : String) (after : Array Edge), ds[j]? = some d ∧ l[n0 + j]? = some ⟨some d, .alloc T, ty, pos, after, none⟩ ∧ d < E.n ∧ zeroB P T = some z ∧ (∀ w F, All2 Zs w F z.cells.toList) ∧
  ∀ m, m ≤ k → (Cs m)[j]? = some (cellM Zs) ∨ ∃ m', m' < m ∧ (((masks l [])[n1 + m']?).getD 0).testBit (n0 + j) = true
theorem AlAt.ex {l : List Oper} {n0 n1 k : Nat} {ds : List Nat} {Cs : Nat → List MP} {j : Nat} (h : AlAt E P l n0 n1 k ds Cs j) : ∃ (d : Nat) (T : TypeId) (z : Value) (ty : TypeId) (pos : String) (after : Array Edge), ds[j]? = some d ∧ l[n0 + j]? = some ⟨some d, .alloc T, ty, pos, after, none⟩ ∧ True := by
 obtain ⟨d, T, z, Zs, ty, pos, after, q1, q2, _⟩ := h.full; exact ⟨d, T, z, ty, pos, after, q1, q2, trivial⟩
structure MidD (E : Env) (P : Program) (l : List Oper) (Γ : Ctx) (Ss : List VP) (n1 : Nat) (ds : List Nat) (m : Nat) (Cs : List MP) (M : Mem) (Cs' : List MP) (M' : Mem) : Prop where
 ex : ∃ (o : Oper) (Δ : Ctx) (req : List Nat), l[n1 + m]? = some o ∧ o.dst = none ∧
  (∀ t S, look Δ t = some S → (∃ (j : Nat) (oj : Oper), (((masks l [])[n1 + m]?).getD 0).testBit j = true ∧ l[j]? = some oj ∧ oj.dst = some t ∧ Ss[j]? = some S) ∨ look Γ t = some S) ∧
  (∀ j, j < m → (((masks l [])[n1 + m]?).getD 0).testBit (n1 + j) = true) ∧ (∀ j ∈ req, j < ds.length ∧ (((masks l [])[n1 + m]?).getD 0).testBit (n1 - ds.length + j) = true) ∧
  ∀ B : List (Option Nat), B.length = ds.length → (∀ j ∈ req, ∃ b, B[j]? = some (some b)) → StS E P (Δ ++ gctx ds B) (gmem Cs B ++ M) o (gmem Cs' B ++ M')
theorem phaseD {l : List Oper} {n0 n1 k : Nat} {Ss : List VP} {Ms : Mem} {ds : List Nat} {Cs : Nat → List MP} {f : Nat → Mem} (hn1 : n1 = n0 + ds.length) (hD : Dr E P l Γ Ms n0 Ss) (hsub : ∀ m, m ≤ k → Ms.Sublist (f m)) (hmid : ∀ m, m < k → MidD E P l Γ Ss n1 ds m (Cs m) (f m) (Cs (m + 1)) (f (m + 1)))
    (hCl : ∀ m, m ≤ k → (Cs m).length = ds.length) (hal : ∀ j, j < ds.length → AlAt E P l n0 n1 k ds Cs j)
    (hap : apartB l n1 Γ = true) (htl : tailB l (n1 + k) = true) (hnl : n1 + k ≤ l.length) (kk : ∀ bs : List Nat, bs.length = ds.length → Ops E P l.toArray Q (l.drop (n1 + k)) (dctx (l.take n0) Ss ++ (gctx ds (bs.map some) ++ Γ)) (gmem (Cs k) (bs.map some) ++ f k)) :
    ∀ (fuel : Nat) (listed : Array Bool) (a : Act) (w : World) (F : Blk) (m : Nat) (B : List (Option Nat)), m ≤ k → B.length = ds.length → (∀ j o, B[j]? = some o → (o = none ↔ listed.getD (n0 + j) false = false)) → listed.toList.countP (· == false) ≤ fuel → listed.size = l.length →
    (∀ j, n1 + m ≤ j → j < l.length → listed.getD j true = false) → (∀ j, n1 ≤ j → j < n1 + m → listed.getD j true = true) → Closed l (fun j => listed.getD j false = true) → Sat E (gctx ds B ++ Γ) (gmem (Cs m) B ++ f m) a w F → Done l Ss (fun j => listed.getD j false = true) a w F →
    wpAny P .any l.toArray Q fuel listed a w := by
  obtain ⟨hlen, hat⟩ := hD.at
  have hsp := tailB_spec htl
  have gd : ∀ (listed : Array Bool) j, j < listed.size → listed.getD j true = listed.getD j false := fun listed j hj => by simp [hj]
  have hapart : ∀ i d, i < n1 → (l[i]?).bind (·.dst) = some d → (∀ t S, look Γ t = some S → t ≠ d) ∧ ∀ j e, j < n1 → j ≠ i → (l[j]?).bind (·.dst) = some e → e ≠ d := by
    intro i d hi hd
    unfold apartB at hap
    rw [List.all_eq_true] at hap
    have h1 := hap i (by simpa using hi)
    rw [hd] at h1
    simp only [Bool.and_eq_true] at h1
    refine ⟨look_none h1.1, fun j e hj hne he => ?_⟩
    have h2 := List.all_eq_true.1 h1.2 j (by simpa using hj)
    rw [he] at h2
    simp only [Bool.or_eq_true, Bool.not_eq_true'] at h2
    rcases h2 with h2 | h2
    · exact absurd (Nat.eq_of_beq_eq_true h2).symm hne
    · exact fun e' => Nat.ne_of_beq_eq_false h2 e'.symm
  have hend : ∀ (fuel : Nat) (listed : Array Bool) (a : Act) (w : World) (F : Blk) (m : Nat) (B : List (Option Nat)), m ≤ k → B.length = ds.length → (∀ j o, B[j]? = some o → (o = none ↔ listed.getD (n0 + j) false = false)) → listed.toList.countP (· == false) ≤ fuel → listed.size = l.length →
      (∀ j, n1 + m ≤ j → j < l.length → listed.getD j true = false) → Closed l (fun j => listed.getD j false = true) → Sat E (gctx ds B ++ Γ) (gmem (Cs m) B ++ f m) a w F → Done l Ss (fun j => listed.getD j false = true) a w F →
      (∀ j, j < n1 + k → j < l.length → listed.getD j true = true) → wpAny P .any l.toArray Q fuel listed a w := by
    intro fuel listed a w F m B hm hBl hB hcnt hsz htail hc s hdone hall
    obtain rfl : m = k := by
      rcases Nat.lt_or_ge m k with h | h
      · have h1 := htail (n1 + m) (Nat.le_refl _) (by omega)
        have h2 := hall (n1 + m) (by omega) (by omega)
        rw [h1] at h2; cases h2
      · omega
    have hge := count_ge hsz htail
    obtain ⟨bs, hbl, hbe⟩ := all_some (B := B) (fun j o hj => by
      intro e
      have hjl : j < ds.length := by
        rcases Nat.lt_or_ge j B.length with h | h
        · omega
        · rw [List.getElem?_eq_none h] at hj; cases hj
      have h1 := (hB j o hj).1 e
      have h2 := hall (n0 + j) (by omega) (by omega)
      rw [gd listed (n0 + j) (by omega), h1] at h2; cases h2)
    subst hbe
    refine phaseB htl fuel (n1 + m) listed a w (Nat.le_refl _) (by omega) hsz hall htail hc (kk bs (by simpa using hBl) a w F (s.wider ?_))
    intro t S ht
    rw [look_append] at ht
    cases hl : look (dctx (l.take n0) Ss) t with
    | none => rw [hl] at ht; exact s.slots t S (by simpa using ht)
    | some S' =>
      rw [hl] at ht
      obtain rfl : S' = S := by simpa using ht
      obtain ⟨j, o, h1, h2, h3⟩ := look_dctx _ _ _ _ hl
      have hj : j < n0 := by
        rcases Nat.lt_or_ge j n0 with h' | h'
        · exact h'
        · rw [List.getElem?_eq_none (by omega)] at h3; cases h3
      rw [List.getElem?_take_of_lt hj] at h1
      exact hdone j o t S' (by have h4 := hall j (by omega) (by omega); rw [gd listed j (by omega)] at h4; exact h4) h1 h2 h3
  intro fuel
  induction fuel with
  | zero =>
    intro listed a w F m B hm hBl hB hcnt hsz htail hmids hc s hdone
    refine hend 0 listed a w F m B hm hBl hB hcnt hsz htail hc s hdone fun j hj hjl => ?_
    have hlt : j < listed.size := by omega
    have h0 : listed.toList.countP (· == false) = 0 := by omega
    rw [List.countP_eq_zero] at h0
    have := h0 listed[j] (by simp)
    simp [hlt]
    simpa using this
  | succ fuel ih =>
    intro listed a w F m B hm hBl hB hcnt hsz htail hmids hc s hdone
    by_cases hall : ∀ j, j < n1 + k → j < l.length → listed.getD j true = true
    · exact hend _ listed a w F m B hm hBl hB hcnt hsz htail hc s hdone hall
    · have hex : ∃ j, j < n1 + k ∧ listed.getD j true = false := by
        refine Classical.byContradiction fun hno => hall fun j hj _ => ?_
        cases hb : listed.getD j true with
        | true => rfl
        | false => exact absurd ⟨j, hj, hb⟩ hno
      refine ⟨fun hr => ?_, fun i hi => ?_⟩
      · obtain ⟨j, ⟨hj1, hj2⟩, hmin⟩ := exists_least hex
        have : j ∈ Region.ready .any l.toArray listed := by
          rw [mem_ready]
          have hjl : j < l.length := by omega
          refine ⟨hj2, l[j], by simp [hjl], fun e he hb => ?_⟩
          have hlt := hsp.1 j _ (List.getElem?_eq_getElem hjl) e he hb
          cases hbb : listed.getD e.on true with
          | true => rw [gd listed e.on (by omega)] at hbb; exact hbb
          | false => have := hmin e.on ⟨by omega, hbb⟩; omega
        rw [hr] at this; simp at this
      · have hi' := hi
        rw [mem_ready] at hi
        obtain ⟨g1, o, g2, g3⟩ := hi
        have g2' : l[i]? = some o := by simpa using g2
        have hil : i < l.length := by
          rcases Nat.lt_or_ge i l.length with h' | h'
          · exact h'
          · rw [List.getElem?_eq_none h'] at g2'; cases g2'
        have hin : i < n1 + k := by
          rcases Nat.lt_or_ge i (n1 + k) with h' | h'
          · exact h'
          · obtain ⟨j, hj1, hj2⟩ := hex
            obtain ⟨q, hq, hb⟩ := hsp.2 i hil h' j (by omega)
            have := reach hc i o g2' g3 j q hq hb
            have e : listed.getD j false = true := this
            rw [← gd listed j (by omega), hj2] at e; cases e
        have hmask : i < (masks l []).length := by rw [masks_len]; simpa using hil
        have hcount : (listed.setIfInBounds i true).toList.countP (· == false) ≤ fuel := by
          have hlt : i < listed.toList.length := by simp; omega
          have hli : listed.toList[i] = false := by
            have : i < listed.size := by omega
            simp [this] at g1; simpa using g1
          rw [Array.toList_setIfInBounds, List.countP_set hlt]
          rw [hli]
          have hpos : 0 < listed.toList.countP (· == false) := List.countP_pos_iff.2 ⟨false, by rw [← hli]; exact List.getElem_mem _, rfl⟩
          simp only [beq_self_eq_true, if_true]
          show _ - 1 + 0 ≤ fuel
          omega
        have hclosed : Closed l (fun j => (listed.setIfInBounds i true).getD j false = true) := by
          intro j oj hj hL e he hb
          by_cases ek : j = i
          · subst ek
            rw [g2'] at hj; obtain rfl := Option.some.inj hj
            exact getD_set_true (g3 e he hb)
          · exact getD_set_true (hc j oj hj (by
              have hL' : (listed.setIfInBounds i true).getD j false = true := hL
              rwa [getD_set_ne false (fun h => ek h.symm)] at hL') e he hb)
        have hΓs : ∀ t S, look Γ t = some S → S.h w F (a.tmps.getD t undef) := fun t S ht => by
          refine s.slots t S ?_
          rw [look_append]
          cases hl : look (gctx ds B) t with
          | none => simpa using ht
          | some S' =>
            obtain ⟨j, hj⟩ := look_gctx _ _ _ _ hl
            obtain ⟨ap1, _⟩ := hapart (n0 + j) t (by
              rcases Nat.lt_or_ge j ds.length with h | h
              · omega
              · rw [List.getElem?_eq_none h] at hj; cases hj) (by
              have hjl : j < ds.length := by
                rcases Nat.lt_or_ge j ds.length with h | h
                · exact h
                · rw [List.getElem?_eq_none h] at hj; cases hj
              obtain ⟨d, T, z, ty, pos, after, q1, q2, _⟩ := (hal j hjl).ex
              rw [q2]; rw [hj] at q1; obtain rfl := Option.some.inj q1; rfl)
            exact absurd rfl (ap1 t S ht)
        have hctx : ∀ Δ : Ctx, (∀ t S, look Δ t = some S → (∃ (j : Nat) (oj : Oper), (((masks l [])[i]?).getD 0).testBit j = true ∧ l[j]? = some oj ∧ oj.dst = some t ∧ Ss[j]? = some S) ∨ look Γ t = some S) →
            ∀ t S, look Δ t = some S → S.h w F (a.tmps.getD t undef) := by
          intro Δ a6 t S' ht
          rcases a6 t S' ht with ⟨j, oj, b0, b1, b2, b3⟩ | h
          · rw [List.getElem?_eq_getElem hmask] at b0
            exact hdone j oj t S' (reach hc i o g2' g3 j _ (List.getElem?_eq_getElem hmask) (by simpa using b0)) b1 b2 b3
          · exact hΓs t S' h
        have ho : l.toArray[i]? = some o := by simpa using g2'
        have hBset : ∀ (i' : Nat), i' = i → (∀ j, j < ds.length → n0 + j ≠ i') → ∀ j o, B[j]? = some o → (o = none ↔ (listed.setIfInBounds i true).getD (n0 + j) false = false) := by
          intro i' hi' hne j o' hj
          subst hi'
          have hjl : j < ds.length := by
            rcases Nat.lt_or_ge j B.length with h | h
            · omega
            · rw [List.getElem?_eq_none h] at hj; cases hj
          rw [getD_set_ne false (fun e => hne j hjl e.symm)]
          exact hB j o' hj
        rcases Nat.lt_or_ge i n0 with hin1 | hin1
        · obtain ⟨o', d, S, Δ, a1, a2, a3, a4, a6, a7⟩ := hat i hin1
          rw [g2'] at a1; obtain rfl := Option.some.inj a1
          have hbind : (l[i]?).bind (·.dst) = some d := by rw [g2']; exact a2
          obtain ⟨ap1, ap2⟩ := hapart i d (by omega) hbind
          have ap3 : ∀ t S, look (gctx ds B ++ Γ) t = some S → t ≠ d := fun t S ht => by
            rw [look_append] at ht
            cases hl : look (gctx ds B) t with
            | none => rw [hl] at ht; exact ap1 t S (by simpa using ht)
            | some S' =>
              obtain ⟨j, hj⟩ := look_gctx _ _ _ _ hl
              have hjl : j < ds.length := by
                rcases Nat.lt_or_ge j ds.length with h | h
                · exact h
                · rw [List.getElem?_eq_none h] at hj; cases hj
              obtain ⟨d', T, z, ty, pos, after, q1, q2, _⟩ := (hal j hjl).ex
              rw [hj] at q1; obtain rfl := Option.some.inj q1
              exact ap2 (n0 + j) t (by omega) (by omega) (by rw [q2]; rfl)
          have hsat : Sat E Δ Ms a w F := (s.wider (hctx Δ a6)).sub ((hsub m hm).trans (List.sublist_append_right _ _))
          have hstep := a7 a w F hsat (wpAny P .any l.toArray Q fuel (listed.setIfInBounds i true)) Q
          have hgo : ∀ v w' F', Adv w F w' F' → S.h w' F' v → wpAny P .any l.toArray Q fuel (listed.setIfInBounds i true) (a.put o.dst v) w' := by
            intro v w' F' ad hv
            rw [a2]
            have s1 := s.adv ad
            refine ih _ _ w' F' m B hm hBl (hBset i rfl (fun j _ => by omega)) hcount (by simp [hsz]) (fun j hj hjl => ?_) (fun j h1 h2 => ?_) hclosed (s1.putOut a3 v ap3) ?_
            · rw [getD_set_ne true (by omega)]; exact htail j hj hjl
            · rw [getD_set_ne true (by omega)]; exact hmids j h1 h2
            · intro j oj dj Sj hL hj hdj hSj
              rw [getD_put (by rw [s1.size]; exact a3)]
              by_cases ek : j = i
              · subst ek
                rw [g2'] at hj; obtain rfl := Option.some.inj hj
                rw [a2] at hdj; obtain rfl := Option.some.inj hdj
                rw [a4] at hSj; obtain rfl := Option.some.inj hSj
                rw [if_pos rfl]; exact hv
              · have hjn : j < n0 := by
                  rcases Nat.lt_or_ge j n0 with h' | h'
                  · exact h'
                  · rw [List.getElem?_eq_none (by omega)] at hSj; cases hSj
                have hne := ap2 j dj (by omega) ek (by rw [hj]; exact hdj)
                rw [if_neg (fun e => hne e.symm)]
                refine Sj.mono _ _ _ _ _ (hdone j oj dj Sj ?_ hj hdj hSj) (ad.same s.flt) ad.sub
                have hL' : (listed.setIfInBounds i true).getD j false = true := hL
                rwa [getD_set_ne false (fun h => ek h.symm)] at hL'
          have hres := hstep hgo
          unfold wpOp
          rw [ho]
          exact hres
        · rcases Nat.lt_or_ge i n1 with hin2 | hin2
          · -- a new block
            obtain ⟨q, rfl⟩ : ∃ q, i = n0 + q := ⟨i - n0, by omega⟩
            have hql : q < ds.length := by omega
            obtain ⟨d, T, z, Zs, ty, pos, after, q1, q2, q3, q4, q5, q6⟩ := (hal q hql).full
            rw [g2'] at q2; obtain rfl := Option.some.inj q2
            obtain ⟨ap1, ap2⟩ := hapart (n0 + q) d (by omega) (by rw [g2']; rfl)
            have hBq : B[q]? = some none := by
              have hlt : q < B.length := by omega
              have h1 := (hB q B[q] (List.getElem?_eq_getElem hlt)).2 (by rw [← gd listed (n0 + q) (by omega)]; exact g1)
              rw [List.getElem?_eq_getElem hlt, h1]
            have hCq : (Cs m)[q]? = some (cellM Zs) := by
              rcases q6 m hm with h | ⟨m', hm', hb⟩
              · exact h
              · have hml : n1 + m' < l.length := by omega
                have hL : listed.getD (n1 + m') false = true := by rw [← gd listed (n1 + m') (by omega)]; exact hmids _ (by omega) (by omega)
                have hmk2 : n1 + m' < (masks l []).length := by rw [masks_len]; simpa using hml
                rw [List.getElem?_eq_getElem hmk2] at hb
                have := reach hc (n1 + m') _ (List.getElem?_eq_getElem hml) (fun e he hb' => hc (n1 + m') _ (List.getElem?_eq_getElem hml) hL e he hb') (n0 + q) _ (List.getElem?_eq_getElem hmk2) (by simpa using hb)
                have e : listed.getD (n0 + q) false = true := this
                rw [← gd listed (n0 + q) (by omega), g1] at e; cases e
            unfold wpOp
            rw [ho]
            show if Region.wanted _ (yielded l.toArray a.tmps) then _ else _
            rw [if_pos (by simp [Region.wanted])]
            refine .inl ?_
            unfold Oper.wp
            have hr : (execOp a.eval (⟨some d, .alloc T, ty, pos, after, none⟩ : Oper)).run P w = .ok (.value (.pointer (some ⟨w.heap.size, 0, none⟩))) { w with heap := w.heap.push (.cells z.cells T) } := by
              have := run_zero (w := w) q4
              simp only [execOp, Instr.alloc, newVar, newRow, newObj, Sem.run_bind, this, Result.andThen_ok]
              simp [go_sem]; rfl
            rw [hr]
            show wpAny P .any l.toArray Q fuel (listed.setIfInBounds (n0 + q) true) (a.put (some d) _) _
            have ad : Adv w F { w with heap := w.heap.push (.cells z.cells T) } F := ⟨Keep.alloc _ _ _, fun _ h => h, fun _ h => .inl h⟩
            have s1 := (s.alloc (T := T) (q5 w F)).swap (i := q)
            have hM : (gmem (Cs m) B ++ f m).set q (some w.heap.size, cellM Zs) = gmem (Cs m) (B.set q (some w.heap.size)) ++ f m := gmem_set _ _ _ _ hBl (hCl m hm) hCq hql
            rw [hM] at s1
            refine ih _ _ _ F m (B.set q (some w.heap.size)) hm (by simp [hBl]) (fun j o' hj => ?_) hcount (by simp [hsz]) (fun j hj hjl => ?_) (fun j h1 h2 => ?_) hclosed ?_ ?_
            · by_cases e : j = q
              · subst e
                rw [List.getElem?_set_self (by omega)] at hj
                obtain rfl := Option.some.inj hj
                have : n0 + j < listed.size := by omega
                simp [this]
              · rw [List.getElem?_set_ne (fun h => e h.symm)] at hj
                rw [getD_set_ne false (by omega)]
                exact hB j o' hj
            · rw [getD_set_ne true (by omega)]; exact htail j hj hjl
            · rw [getD_set_ne true (by omega)]; exact hmids j h1 h2
            · have hsz2 : d < a.tmps.size := by rw [s1.size]; exact q3
              have hslots : ∀ t S, look (gctx ds (B.set q (some w.heap.size)) ++ Γ) t = some S → S.h { w with heap := w.heap.push (.cells z.cells T) } F ((a.put (some d) (.pointer (some ⟨w.heap.size, 0, none⟩))).tmps.getD t undef) := by
                intro t S ht
                rw [getD_put hsz2]
                rw [look_append] at ht
                cases hl : look (gctx ds (B.set q (some w.heap.size))) t with
                | none =>
                  rw [hl] at ht
                  have ht' : look Γ t = some S := by simpa using ht
                  rw [if_neg (fun e => ap1 t S ht' e.symm)]
                  exact S.mono _ _ _ _ _ (hΓs t S ht') (ad.same s.flt) ad.sub
                | some S' =>
                  rw [hl] at ht
                  obtain rfl : S' = S := by simpa using ht
                  rcases look_gctx_set _ _ _ _ _ _ hl with ⟨e1, e2⟩ | h
                  · rw [q1] at e1; obtain rfl := Option.some.inj e1
                    rw [if_pos rfl, e2]
                    intro b hb
                    obtain rfl := Option.some.inj hb; rfl
                  · by_cases e : d = t
                    · subst e
                      rw [if_pos rfl]
                      obtain ⟨j, o', h1, h2, h3⟩ := look_gctx_at _ _ _ _ h
                      have hjq : j = q := by
                        refine Classical.byContradiction fun hne => ?_
                        have hjl : j < ds.length := by
                          rcases Nat.lt_or_ge j ds.length with h | h
                          · exact h
                          · rw [List.getElem?_eq_none h] at h1; cases h1
                        obtain ⟨d', T', z', ty', pos', after', r1, r2, _⟩ := (hal j hjl).ex
                        rw [h1] at r1; obtain rfl := Option.some.inj r1
                        exact ap2 (n0 + j) d (by omega) (by omega) (by rw [r2]; rfl) rfl
                      subst hjq
                      rw [hBq] at h2; obtain rfl := Option.some.inj h2
                      rw [h3]
                      intro b hb; cases hb
                    · rw [if_neg e]
                      exact S'.mono _ _ _ _ _ (s.slots t S' (by rw [look_append, h]; rfl)) (ad.same s.flt) ad.sub
              exact { defers := s1.defers, size := by simp [Act.put, s1.size], keep := s1.keep, f0 := s1.f0, fnew := s1.fnew, flt := s1.flt, mem := s1.mem, slots := hslots }
            · intro j oj dj Sj hL hj hdj hSj
              have hjn : j < n0 := by
                rcases Nat.lt_or_ge j n0 with h' | h'
                · exact h'
                · rw [List.getElem?_eq_none (by omega)] at hSj; cases hSj
              have hne := ap2 j dj (by omega) (by omega) (by rw [hj]; exact hdj)
              rw [getD_put (by rw [s1.size]; exact q3), if_neg (fun e => hne e.symm)]
              refine Sj.mono _ _ _ _ _ (hdone j oj dj Sj ?_ hj hdj hSj) (ad.same s.flt) ad.sub
              have hL' : (listed.setIfInBounds (n0 + q) true).getD j false = true := hL
              rwa [getD_set_ne false (by omega)] at hL'
          -- a store: the next one of the row
          have him : n1 + m ≤ i := by
            rcases Nat.lt_or_ge i (n1 + m) with h | h
            · rw [hmids i hin2 h] at g1; cases g1
            · exact h
          have hieq : i = n1 + m := by
            rcases Nat.lt_or_ge (n1 + m) i with h | h
            · obtain ⟨o', Δ, req, b1, b2, b3, b4, b5⟩ := (hmid (i - n1) (by omega)).ex
              have hb := b4 m (by omega)
              rw [show n1 + (i - n1) = i by omega, List.getElem?_eq_getElem hmask] at hb
              have := reach hc i o g2' g3 (n1 + m) _ (List.getElem?_eq_getElem hmask) (by simpa using hb)
              have e : listed.getD (n1 + m) false = true := this
              rw [← gd listed (n1 + m) (by omega), htail (n1 + m) (Nat.le_refl _) (by omega)] at e; cases e
            · omega
          subst hieq
          have hmk : m < k := by omega
          obtain ⟨o', Δ, req, b1, b2, b3, b4, b7, b8⟩ := (hmid m hmk).ex
          rw [g2'] at b1; obtain rfl := Option.some.inj b1
          have hreq : ∀ j ∈ req, ∃ b, B[j]? = some (some b) := fun j hj => by
            obtain ⟨hjl, hb⟩ := b7 j hj
            rw [show n1 - ds.length + j = n0 + j by omega] at hb
            rw [List.getElem?_eq_getElem hmask] at hb
            have hL : listed.getD (n0 + j) false = true := reach hc (n1 + m) o g2' g3 (n0 + j) _ (List.getElem?_eq_getElem hmask) (by simpa using hb)
            have hlt : j < B.length := by omega
            cases hBj : B[j] with
            | none =>
              have := (hB j none (by rw [List.getElem?_eq_getElem hlt, hBj])).1 rfl
              rw [hL] at this; cases this
            | some b => exact ⟨b, by rw [List.getElem?_eq_getElem hlt, hBj]⟩
          obtain ⟨b5, b6⟩ := b8 B hBl hreq
          have hsat : Sat E (Δ ++ gctx ds B) (gmem (Cs m) B ++ f m) a w F := s.wider (fun t S ht => by
            rw [look_append] at ht
            cases hl : look Δ t with
            | some S' =>
              rw [hl] at ht
              obtain rfl : S' = S := by simpa using ht
              exact hctx Δ b3 t S' hl
            | none =>
              rw [hl] at ht
              have ht' : look (gctx ds B) t = some S := by simpa using ht
              exact s.slots t S (by rw [look_append, ht']; rfl))
          have hgo : ∀ w', (∀ b, F b → w'.heap[b]? = w.heap[b]?) → (∀ Γ'', Sat E Γ'' (gmem (Cs m) B ++ f m) a w F → Sat E Γ'' (gmem (Cs (m + 1)) B ++ f (m + 1)) a w' F) → wpAny P .any l.toArray Q fuel (listed.setIfInBounds (n1 + m) true) a w' := by
            intro w' hF hS
            refine ih _ _ w' F (m + 1) B hmk hBl (hBset _ rfl (fun j hj => by omega)) hcount (by simp [hsz]) (fun j hj hjl => ?_) (fun j h1 h2 => ?_) hclosed (hS _ s) ?_
            · rw [getD_set_ne true (by omega)]; exact htail j (by omega) hjl
            · by_cases e : j = n1 + m
              · subst e
                have : n1 + m < listed.size := by omega
                simp [this]
              · rw [getD_set_ne true (by omega)]; exact hmids j h1 (by omega)
            · intro j oj dj Sj hL hj hdj hSj
              have hjn : j < n0 := by
                rcases Nat.lt_or_ge j n0 with h' | h'
                · exact h'
                · rw [List.getElem?_eq_none (by omega)] at hSj; cases hSj
              refine Sj.mono _ _ _ _ _ (hdone j oj dj Sj ?_ hj hdj hSj) hF (fun _ h => h)
              have hL' : (listed.setIfInBounds (n1 + m) true).getD j false = true := hL
              rwa [getD_set_ne false (by omega)] at hL'
          unfold wpOp
          rw [ho]
          show if Region.wanted o (yielded l.toArray a.tmps) then _ else _
          rw [if_pos (by simp [Region.wanted, b5])]
          exact .inl (b6 a w F hsat _ Q hgo)
inductive Als (E : Env) (P : Program) (l : List Oper) : Nat → List Nat → List (List VP) → Prop
 | nil {i : Nat} : Als E P l i [] []
 | cons {i d : Nat} {T : TypeId} {z : Value} {Zs : List VP} {ds : List Nat} {zs : List (List VP)} {ty : TypeId} {pos : String} {after : Array Edge} (h1 : l[i]? = some ⟨some d, .alloc T, ty, pos, after, none⟩) (h2 : Nat.blt d E.n = true)
   (h3 : zeroB P T = some z) (h4 : ∀ w F, All2 Zs w F z.cells.toList) (r : Als E P l (i + 1) ds zs) : Als E P l i (d :: ds) (Zs :: zs)
theorem Als.len {l : List Oper} : ∀ {i : Nat} {ds : List Nat} {zs : List (List VP)}, Als E P l i ds zs → zs.length = ds.length
 | _, _, _, .nil => rfl
 | _, _, _, .cons _ _ _ _ r => congrArg (· + 1) r.len
theorem Als.at {l : List Oper} : ∀ {i : Nat} {ds : List Nat} {zs : List (List VP)}, Als E P l i ds zs → ∀ q, q < ds.length → ∃ (d : Nat) (T : TypeId) (z : Value) (Zs : List VP) (ty : TypeId) (pos : String) (after : Array Edge), ds[q]? = some d ∧ l[i + q]? = some ⟨some d, .alloc T, ty, pos, after, none⟩ ∧ d < E.n ∧ zeroB P T = some z ∧ (∀ w F, All2 Zs w F z.cells.toList) ∧ zs[q]? = some Zs
  | _, _, _, .nil, q, h => by simp at h
  | i, _, _, .cons h1 h2 h3 h4 r, 0, _ => ⟨_, _, _, _, _, _, _, rfl, h1, by simpa [Nat.blt_eq] using h2, h3, h4, rfl⟩
  | i, _, _, .cons h1 h2 h3 h4 r, q + 1, h => by
    obtain ⟨d, T, z, Zs, ty, pos, after, a1, a2, a3, a4, a5, a6⟩ := r.at q (by simpa using h)
    exact ⟨d, T, z, Zs, ty, pos, after, by simpa using a1, by rw [show i + (q + 1) = i + 1 + q by omega]; exact a2, a3, a4, a5, by simpa using a6⟩
def DrN (E : Env) (P : Program) (id : Nat) (l : List Oper) (Γ : Ctx) (M Ms : Mem) (Q : Exit → Act → World → Prop) (n0 n1 : Nat) (ds : List Nat) (zs : List (List VP)) (Θ : Ctx) (m : Nat) (Cs : List MP) (Mc : Mem) : Prop :=
  ∀ (Ss : List VP) (CF : Nat → List MP) (f : Nat → Mem), Dr E P l Γ Ms n0 Ss → (∀ t S, look Θ t = some S → ∃ (j : Nat) (o : Oper), j < n0 ∧ l[j]? = some o ∧ o.dst = some t ∧ Ss[j]? = some S) → n1 = n0 + ds.length → Als E P l n0 ds zs →
    CF 0 = zs.map cellM → f 0 = M → CF m = Cs → f m = Mc → (∀ j, j ≤ m → Ms.Sublist (f j)) → (∀ j, j ≤ m → (CF j).length = ds.length) → (∀ j, j < m → MidD E P l Γ Ss n1 ds j (CF j) (f j) (CF (j + 1)) (f (j + 1))) →
    (∀ q, q < ds.length → ∀ j, j ≤ m → (CF j)[q]? = (zs.map cellM)[q]? ∨ ∃ m', m' < j ∧ (((masks l [])[n1 + m']?).getD 0).testBit (n0 + q) = true) → Tri E P (.region id l.toArray true) Γ M Q
theorem DrH.als {id n0 n1 : Nat} {l : List Oper} {Θ : Ctx} {Ms : Mem} {ds : List Nat} {zs : List (List VP)} {Cs : List MP} (hn : n1 = n0 + ds.length) (ha : Als E P l n0 ds zs) (hs : Ms.Sublist M) (hC : zs.map cellM = Cs) (k : DrN E P id l Γ M Ms Q n0 n1 ds zs Θ 0 Cs M) : DrH E P id l Γ M Ms Q n0 Θ := by
 intro Ss hD hΘ
 subst hC
 refine k Ss (fun _ => zs.map cellM) (fun _ => M) hD hΘ hn ha rfl rfl rfl rfl (fun j hj => hs) (fun j hj => by simp [ha.len]) (fun j hj => absurd hj (by omega)) (fun q hq j hj => .inl rfl)
theorem look_left {A B : Ctx} {t : Nat} {S : VP} (h : look A t = some S) : look (A ++ B) t = some S := by rw [look_append, h]; rfl
theorem Has.up {Δ X : Ctx} {M' : Mem} {y : Operand} {S : VP} (h : Has E Δ [] y S) : Has E (Δ ++ X) M' y S := fun a w F s => h a w F ((s.wider fun t S ht => s.slots t S (look_left ht)).sub (List.nil_sublist _))
theorem gmem_at : ∀ (Cs : List MP) (B : List (Option Nat)) (q : Nat) {o : Option Nat} {C : MP} {M : Mem}, B[q]? = some o → Cs[q]? = some C → (gmem Cs B ++ M)[q]? = some (o, C)
  | [], B, q, o, C, M, h1, h2 => by simp at h2
  | C0 :: Cs, [], q, o, C, M, h1, h2 => by simp at h1
  | C0 :: Cs, o0 :: B, 0, o, C, M, h1, h2 => by simp at h1 h2; subst h1; subst h2; rfl
  | C0 :: Cs, o0 :: B, q + 1, o, C, M, h1, h2 => by
    have := gmem_at Cs B q (M := M) (by simpa using h1) (by simpa using h2)
    simpa [gmem] using this
theorem gmem_setC : ∀ (Cs : List MP) (B : List (Option Nat)) (q : Nat) {o : Option Nat} {C : MP} {M : Mem}, B[q]? = some o → (gmem Cs B ++ M).set q (o, C) = gmem (Cs.set q C) B ++ M ∨ Cs.length ≤ q
  | [], B, q, o, C, M, h1 => .inr (by simp)
  | C0 :: Cs, [], q, o, C, M, h1 => by simp at h1
  | C0 :: Cs, o0 :: B, 0, o, C, M, h1 => by simp at h1; subst h1; exact .inl rfl
  | C0 :: Cs, o0 :: B, q + 1, o, C, M, h1 => by
    rcases gmem_setC Cs B q (C := C) (M := M) (by simpa using h1) with h | h
    · exact .inl (by simp only [gmem, List.cons_append, List.set_cons_succ, h])
    · exact .inr (by simpa using h)
theorem gmem_len : ∀ (Cs : List MP) (B : List (Option Nat)), Cs.length = B.length → (gmem Cs B).length = B.length
 | [], [], _ => rfl
 | [], _ :: _, h => by simp at h
 | _ :: _, [], h => by simp at h
 | C :: Cs, o :: B, h => by simp [gmem, gmem_len Cs B (by simpa using h)]
theorem look_gctx_of : ∀ (ds : List Nat) (B : List (Option Nat)) (q d : Nat) (o : Option Nat), (∀ i, i < q → ds[i]? ≠ some d) → ds[q]? = some d → B[q]? = some o → look (gctx ds B) d = some (isOP o)
  | [], B, q, d, o, h0, h1, h2 => by simp at h1
  | e :: ds, [], q, d, o, h0, h1, h2 => by simp at h2
  | e :: ds, o' :: B, 0, d, o, h0, h1, h2 => by simp at h1 h2; subst h1; subst h2; simp [gctx, look, nbeq_self]
  | e :: ds, o' :: B, q + 1, d, o, h0, h1, h2 => by
    have hne : Nat.beq e d = false := by
      cases hb : Nat.beq e d with
      | false => rfl
      | true => exact absurd (by simp [Nat.eq_of_beq_eq_true hb]) (h0 0 (by omega))
    simp only [gctx, look, hne]
    exact look_gctx_of ds B q d o (fun i hi => by simpa using h0 (i + 1) (by omega)) (by simpa using h1) (by simpa using h2)
theorem DrN.new {id n0 n1 m : Nat} {l : List Oper} {Θ : Ctx} {Ms Mc : Mem} {ds : List Nat} {zs : List (List VP)} {Cs Cs' : List MP} (ts : List Nat) (j : Nat) {dj n : Nat} {g : Bool} {T : TypeId} {y : Operand} {Ss0 Ss1 Ss' : List VP} {S : VP} [sh : Shape S Ss1] [o1 : Ones Ss1]
    (h1 : l[n1 + m]? = some ⟨none, .store T (.tmp dj) y, ty, pos, after, none⟩) (h4 : behindB l (n1 + m) ts = true) (hc : chainB l n1 m = true) (hdj : ds[j]? = some dj) (hfirst : ((List.range j).all fun i => !Nat.beq (ds.getD i 0) dj) = true) (hno : look (keepc ts Θ ++ Γ) dj = none)
    (hb : (((masks l [])[n1 + m]?).getD 0).testBit (n1 - ds.length + j) = true) (hC : Cs[j]? = some (cellM Ss0)) (hy : Has E (keepc ts Θ ++ Γ) [] y S) (hT : tyB P T = some (n, g)) (hn : Nat.beq Ss1.length n = true) (hl : Nat.ble (0 + n) Ss0.length = true)
    (hS : Ss0.take 0 ++ Ss1 ++ Ss0.drop (0 + n) = Ss') (hCs : Cs.set j (cellM Ss') = Cs') (k : DrN E P id l Γ M Ms Q n0 n1 ds zs Θ (m + 1) Cs' Mc) : DrN E P id l Γ M Ms Q n0 n1 ds zs Θ m Cs Mc := by
  intro Ss CF f hD hΘ hn1 hal hC0 hf0 hCm hfm hsub hlen hmid hq
  have hjl : j < ds.length := by
    rcases Nat.lt_or_ge j ds.length with h | h
    · exact h
    · rw [List.getElem?_eq_none h] at hdj; cases hdj
  have hCl : Cs.length = ds.length := by rw [← hCm]; exact hlen m (Nat.le_refl _)
  refine k Ss (fun i => if i = m + 1 then Cs' else CF i) (fun i => if i = m + 1 then Mc else f i) hD hΘ hn1 hal (by simp [hC0]) (by simp [hf0]) (by simp) (by simp) (fun i hi => ?_) (fun i hi => ?_) (fun i hi => ?_) (fun q hql i hi => ?_)
  · show Ms.Sublist (if i = m + 1 then Mc else f i)
    split
    · rw [← hfm]; exact hsub m (Nat.le_refl _)
    · exact hsub i (by omega)
  · show (if i = m + 1 then Cs' else CF i).length = _
    split
    · rw [← hCs, List.length_set, hCl]
    · exact hlen i (by omega)
  · show MidD E P l Γ Ss n1 ds i (if i = m + 1 then Cs' else CF i) (if i = m + 1 then Mc else f i) (if i + 1 = m + 1 then Cs' else CF (i + 1)) (if i + 1 = m + 1 then Mc else f (i + 1))
    rw [if_neg (by omega), if_neg (by omega)]
    by_cases e : i = m
    · subst e
      rw [if_pos rfl, if_pos rfl, hfm, hCm]
      refine ⟨_, keepc ts Θ ++ Γ, [j], h1, rfl, fun t S' ht => ?_, fun i' hi' => ?_, fun j' hj' => ?_, fun B hBl hreq => ?_⟩
      · rw [look_append] at ht
        cases hl2 : look (keepc ts Θ) t with
        | none => rw [hl2] at ht; exact .inr (by simpa using ht)
        | some S'' =>
          rw [hl2] at ht
          obtain rfl : S'' = S' := by simpa using ht
          obtain ⟨hm2, hl3⟩ := look_keepc _ _ _ hl2
          obtain ⟨i', oj, b0, b1, b2, b3⟩ := hΘ t S'' hl3
          refine .inl ⟨i', oj, ?_, b1, b2, b3⟩
          have := List.all_eq_true.1 h4 i' (by simp; omega)
          rw [b1] at this
          simp only [Option.bind_some, b2, Bool.or_eq_true] at this
          rcases this with h | h
          · exact h
          · have := List.all_eq_true.1 h t hm2
            simp [Nat.beq_refl] at this
      · exact List.all_eq_true.1 hc i' (by simpa using hi')
      · obtain rfl : j' = j := by simpa using hj'
        exact ⟨hjl, hb⟩
      · obtain ⟨b, hBj⟩ := hreq j (by simp)
        have hlk : look ((keepc ts Θ ++ Γ) ++ gctx ds B) dj = some (isOP (some b)) := by
          rw [look_append, hno]
          refine look_gctx_of ds B j dj (some b) (fun i' hi' e => ?_) hdj hBj
          have := List.all_eq_true.1 hfirst i' (by simpa using hi')
          rw [List.getD, e] at this
          simp [nbeq_self] at this
        refine StS.store (b := b) (off := 0) (i := j) (Ss := Ss0) (Ss' := Ss') (Has.op hlk) (Has.up hy) (gmem_at _ _ _ hBj hC) hT hn hl hS ?_
        rcases gmem_setC Cs B j (C := cellM Ss') (M := Mc) hBj with h | h
        · rw [h, hCs]
        · omega
    · rw [if_neg (by omega), if_neg (by omega)]
      exact hmid i (by omega)
  · show (if i = m + 1 then Cs' else CF i)[q]? = _ ∨ _
    by_cases e : i = m + 1
    · rw [if_pos e]
      by_cases ej : q = j
      · subst ej
        refine .inr ⟨m, by omega, ?_⟩
        rwa [show n1 - ds.length + q = n0 + q by omega] at hb
      · rw [← hCs, List.getElem?_set_ne (fun h => ej h.symm), ← hCm]
        rcases hq q hql m (Nat.le_refl _) with h | ⟨m', hm', hb'⟩
        · exact .inl h
        · exact .inr ⟨m', by omega, hb'⟩
    · rw [if_neg e]
      exact hq q hql i (by omega)
theorem DrN.old {id n0 n1 m : Nat} {l : List Oper} {Θ : Ctx} {Ms Mc M' : Mem} {ds : List Nat} {zs : List (List VP)} {Cs : List MP} (ts : List Nat) {b off i n : Nat} {g : Bool} {T : TypeId} {x y : Operand} {Ss0 Ss1 Ss' : List VP} {S : VP} [sh : Shape S Ss1] [o1 : Ones Ss1]
    (h1 : l[n1 + m]? = some ⟨none, .store T x y, ty, pos, after, none⟩) (h4 : behindB l (n1 + m) ts = true) (hc : chainB l n1 m = true) (hx : Has E (keepc ts Θ ++ Γ) [] x (isPtr b off)) (hy : Has E (keepc ts Θ ++ Γ) [] y S)
    (hM : Mc[i]? = some (some b, cellM Ss0)) (hT : tyB P T = some (n, g)) (hn : Nat.beq Ss1.length n = true) (hl : Nat.ble (off + n) Ss0.length = true)
    (hS : Ss0.take off ++ Ss1 ++ Ss0.drop (off + n) = Ss') (hM' : Mc.set i (some b, cellM Ss') = M') (hs : Ms.Sublist M') (k : DrN E P id l Γ M Ms Q n0 n1 ds zs Θ (m + 1) Cs M') : DrN E P id l Γ M Ms Q n0 n1 ds zs Θ m Cs Mc := by
  intro Ss CF f hD hΘ hn1 hal hC0 hf0 hCm hfm hsub hlen hmid hq
  have hCl : Cs.length = ds.length := by rw [← hCm]; exact hlen m (Nat.le_refl _)
  refine k Ss (fun i => if i = m + 1 then Cs else CF i) (fun i => if i = m + 1 then M' else f i) hD hΘ hn1 hal (by simp [hC0]) (by simp [hf0]) (by simp) (by simp) (fun i hi => ?_) (fun i hi => ?_) (fun i hi => ?_) (fun q hql i hi => ?_)
  · show Ms.Sublist (if i = m + 1 then M' else f i)
    split
    · exact hs
    · exact hsub i (by omega)
  · show (if i = m + 1 then Cs else CF i).length = _
    split
    · exact hCl
    · exact hlen i (by omega)
  · rename_i i'
    show MidD E P l Γ Ss n1 ds i (if i = m + 1 then Cs else CF i) (if i = m + 1 then M' else f i) (if i + 1 = m + 1 then Cs else CF (i + 1)) (if i + 1 = m + 1 then M' else f (i + 1))
    rw [if_neg (by omega), if_neg (by omega)]
    by_cases e : i = m
    · subst e
      rw [if_pos rfl, if_pos rfl, hfm, hCm]
      refine ⟨_, keepc ts Θ ++ Γ, [], h1, rfl, fun t S' ht => ?_, fun i' hi' => ?_, fun j' hj' => absurd hj' (by simp), fun B hBl hreq => ?_⟩
      · rw [look_append] at ht
        cases hl2 : look (keepc ts Θ) t with
        | none => rw [hl2] at ht; exact .inr (by simpa using ht)
        | some S'' =>
          rw [hl2] at ht
          obtain rfl : S'' = S' := by simpa using ht
          obtain ⟨hm2, hl3⟩ := look_keepc _ _ _ hl2
          obtain ⟨i', oj, b0, b1, b2, b3⟩ := hΘ t S'' hl3
          refine .inl ⟨i', oj, ?_, b1, b2, b3⟩
          have := List.all_eq_true.1 h4 i' (by simp; omega)
          rw [b1] at this
          simp only [Option.bind_some, b2, Bool.or_eq_true] at this
          rcases this with h | h
          · exact h
          · have := List.all_eq_true.1 h t hm2
            simp [Nat.beq_refl] at this
      · exact List.all_eq_true.1 hc i' (by simpa using hi')
      · have hgl := gmem_len Cs B (by omega)
        refine StS.store (b := b) (off := off) (i := B.length + i') (Ss := Ss0) (Ss' := Ss') (Has.up hx) (Has.up hy) ?_ hT hn hl hS ?_
        · rw [List.getElem?_append_right (by omega), hgl, Nat.add_sub_cancel_left]; exact hM
        · rw [List.set_append_right _ _ (by omega), hgl, Nat.add_sub_cancel_left, hM']
    · rw [if_neg (by omega), if_neg (by omega)]
      exact hmid i (by omega)
  · show (if i = m + 1 then Cs else CF i)[q]? = _ ∨ _
    by_cases e : i = m + 1
    · rw [if_pos e, ← hCm]
      rcases hq q hql m (Nat.le_refl _) with h | ⟨m', hm', hb'⟩
      · exact .inl h
      · exact .inr ⟨m', by omega, hb'⟩
    · rw [if_neg e]
      exact hq q hql i (by omega)
theorem DrN.fin {id n0 n1 m n : Nat} {l : List Oper} {Θ : Ctx} {Ms Mc : Mem} {ds : List Nat} {zs : List (List VP)} {Cs : List MP} (hm : P.follows .mixedOrders = true) (hn : n = n1 + m) (hap : apartB l n1 Γ = true) (htl : tailB l n = true) (hnl : Nat.ble n l.length = true)
    (k : ∀ bs : List Nat, bs.length = ds.length → Ops E P l.toArray Q (l.drop n) (Θ ++ (gctx ds (bs.map some) ++ Γ)) (gmem Cs (bs.map some) ++ Mc)) : DrN E P id l Γ M Ms Q n0 n1 ds zs Θ m Cs Mc := by
  intro Ss CF f hD hΘ hn1 hal hC0 hf0 hCm hfm hsub hlen hmid hq
  subst hn
  have hnl' := Nat.le_of_ble_eq_true hnl
  have hap1 : ∀ i d, i < n1 → (l[i]?).bind (·.dst) = some d → (∀ t S, look Γ t = some S → t ≠ d) ∧ ∀ j e, j < n1 → j ≠ i → (l[j]?).bind (·.dst) = some e → e ≠ d := by
    intro i d hi hd
    have h1 := List.all_eq_true.1 hap i (by simpa using hi)
    rw [hd] at h1
    simp only [Bool.and_eq_true] at h1
    refine ⟨look_none h1.1, fun j e hj hne he => ?_⟩
    have h2 := List.all_eq_true.1 h1.2 j (by simpa using hj)
    rw [he] at h2
    simp only [Bool.or_eq_true, Bool.not_eq_true'] at h2
    rcases h2 with h2 | h2
    · exact absurd (Nat.eq_of_beq_eq_true h2).symm hne
    · exact fun e' => Nat.ne_of_beq_eq_false h2 e'.symm
  have hk : ∀ bs : List Nat, bs.length = ds.length → Ops E P l.toArray Q (l.drop (n1 + m)) (dctx (l.take n0) Ss ++ (gctx ds (bs.map some) ++ Γ)) (gmem (CF m) (bs.map some) ++ f m) := by
    intro bs hbs
    rw [hfm, hCm]
    refine fun a w F s => k bs hbs a w F (s.wider fun t S ht => ?_)
    rw [look_append] at ht
    cases hl : look Θ t with
    | none =>
      rw [hl] at ht
      have ht' : look (gctx ds (bs.map some) ++ Γ) t = some S := by simpa using ht
      have hno : look (dctx (l.take n0) Ss) t = none := by
        cases hd : look (dctx (l.take n0) Ss) t with
        | none => rfl
        | some S' =>
          obtain ⟨j, o, b1, b2, b3⟩ := look_dctx _ _ _ _ hd
          have hj : j < n0 := by
            rcases Nat.lt_or_ge j n0 with h' | h'
            · exact h'
            · rw [List.getElem?_eq_none (by simp; omega)] at b1; cases b1
          rw [List.getElem?_take_of_lt hj] at b1
          obtain ⟨p1, p2⟩ := hap1 j t (by omega) (by rw [b1]; exact b2)
          rw [look_append] at ht'
          cases hg : look (gctx ds (bs.map some)) t with
          | none => rw [hg] at ht'; exact absurd rfl (p1 t S (by simpa using ht'))
          | some S'' =>
            obtain ⟨q, hq'⟩ := look_gctx _ _ _ _ hg
            have hql : q < ds.length := by
              rcases Nat.lt_or_ge q ds.length with h | h
              · exact h
              · rw [List.getElem?_eq_none h] at hq'; cases hq'
            obtain ⟨d, T, z, Zs, ty, pos, after, a1, a2, _⟩ := hal.at q hql
            rw [hq'] at a1; obtain rfl := Option.some.inj a1
            exact absurd rfl (p2 (n0 + q) t (by omega) (by omega) (by rw [a2]; rfl))
      exact s.slots t S (by rw [look_append, hno]; simpa using ht')
    | some S' =>
      rw [hl] at ht
      obtain rfl : S' = S := by simpa using ht
      obtain ⟨j, o, b0, b1, b2, b3⟩ := hΘ t S' hl
      have hex : ∀ (l' : List Oper) (Ss' : List VP) (j : Nat), (l'[j]?).bind (·.dst) = some t → Ss'[j]? = some S' → (∀ j', j' ≠ j → (l'[j']?).bind (·.dst) ≠ some t) → look (dctx l' Ss') t = some S' := by
        intro l'
        induction l' with
        | nil => intro Ss' j h; simp at h
        | cons o' l' ih =>
          intro Ss' j h1 h2 h3
          cases Ss' with
          | nil => simp at h2
          | cons T Ss' =>
            cases j with
            | zero =>
              simp at h1 h2
              subst h2
              simp [dctx, h1, look]
            | succ j =>
              have hrec := ih Ss' j (by simpa using h1) (by simpa using h2) (fun j' hj' => by simpa using h3 (j' + 1) (by omega))
              have h0 := h3 0 (by omega)
              simp at h0
              simp only [dctx]
              cases hd : o'.dst with
              | none => exact hrec
              | some d' =>
                simp only [look]
                have hne : Nat.beq d' t = false := by
                  cases hb : Nat.beq d' t with
                  | false => rfl
                  | true => exact absurd (by rw [hd, Nat.eq_of_beq_eq_true hb]) h0
                rw [hne]; exact hrec
      have hlk := hex (l.take n0) Ss j (by rw [List.getElem?_take_of_lt b0, b1]; exact b2) b3 (fun j' hj' he => by
        have hj'n : j' < n0 := by
          rcases Nat.lt_or_ge j' n0 with h' | h'
          · exact h'
          · rw [List.getElem?_eq_none (by simp; omega)] at he; simp at he
        rw [List.getElem?_take_of_lt hj'n] at he
        exact (hap1 j t (by omega) (by rw [b1]; exact b2)).2 j' t (by omega) hj' he rfl)
      exact s.slots t S' (by rw [look_append, hlk]; rfl)
  intro a w F s
  refine wp_region_any hm ?_
  have s1 := s.adv (Adv.drew w F)
  have hzl := hal.len
  refine phaseD hn1 hD hsub hmid hlen (fun q hql => ?_) hap htl hnl' hk _ _ a _ F 0 (List.replicate ds.length none) (Nat.zero_le _) (by simp) (fun j o hj => ?_) ?_ (by simp) (fun j hj hjl => ?_) (fun j h1 h2 => absurd h2 (by omega)) ?_ ?_ ?_
  · obtain ⟨d, T, z, Zs, ty, pos, after, a1, a2, a3, a4, a5, a6⟩ := hal.at q hql
    refine ⟨d, T, z, Zs, ty, pos, after, a1, a2, a3, a4, a5, fun m' hm' => ?_⟩
    have := hq q hql m' hm'
    rw [List.getElem?_map, a6] at this
    simpa using this
  · have hjl : j < ds.length := by
      rcases Nat.lt_or_ge j ds.length with h | h
      · exact h
      · rw [List.getElem?_eq_none (by simpa using h)] at hj; cases hj
    rw [List.getElem?_replicate, if_pos hjl] at hj
    obtain rfl := Option.some.inj hj
    have : n0 + j < l.length := by omega
    simp [this]
  · simp
    exact Nat.le_trans List.countP_le_length (by simp)
  · have : j < l.length := hjl
    simp [this]
  · intro i o hi hL
    simp [Array.getD_eq_getD_getElem?, Array.getElem?_replicate] at hL
    split at hL <;> simp at hL
  · rw [hf0, hC0]
    have hgn : ∀ (Cs : List MP) (k : Nat), ∀ x ∈ gmem Cs (List.replicate k none), x.1 = none := by
      intro Cs
      induction Cs with
      | nil => intro k x hx; simp [gmem] at hx
      | cons C Cs ih =>
        intro k x hx
        cases k with
        | zero => simp [gmem] at hx
        | succ k =>
          rw [List.replicate_succ] at hx
          simp only [gmem, List.mem_cons] at hx
          rcases hx with rfl | hx
          · rfl
          · exact ih k x hx
    have hgc : ∀ (ds : List Nat) (k : Nat) t S, look (gctx ds (List.replicate k none)) t = some S → S = isOP none := by
      intro ds k t S h
      obtain ⟨j, o, h1, h2, h3⟩ := look_gctx_at _ _ _ _ h
      rw [List.getElem?_replicate] at h2
      split at h2
      · obtain rfl := Option.some.inj h2; exact h3
      · cases h2
    refine { s1 with slots := fun t S ht => ?_, mem := ⟨?_, fun b C hb => ?_⟩ }
    · rw [look_append] at ht
      cases hl : look (gctx ds (List.replicate ds.length none)) t with
      | none => rw [hl] at ht; exact s1.slots t S (by simpa using ht)
      | some S' =>
        rw [hl] at ht
        obtain rfl : S' = S := by simpa using ht
        rw [hgc _ _ _ _ hl]
        intro b hb; cases hb
    · rw [List.pairwise_append]
      refine ⟨?_, s1.mem.apart, fun x hx y hy => .inl (hgn _ _ x hx)⟩
      exact List.Pairwise.imp_of_mem (R := fun _ _ => True) (fun hx _ _ => .inl (hgn _ _ _ hx)) (List.pairwise_of_forall (fun _ _ => trivial))
    · rcases List.mem_append.1 hb with h | h
      · have := hgn _ _ _ h; cases this
      · exact s1.mem.each b C h
  · intro j o d S hL
    simp [Array.getD_eq_getD_getElem?, Array.getElem?_replicate] at hL
    split at hL <;> simp at hL
theorem len1 {bs : List Nat} (h : bs.length = 1) : ∃ a, bs = [a] := by match bs, h with | [a], _ => exact ⟨a, rfl⟩
theorem len2 {bs : List Nat} (h : bs.length = 2) : ∃ a b, bs = [a, b] := by match bs, h with | [a, b], _ => exact ⟨a, b, rfl⟩
theorem len3 {bs : List Nat} (h : bs.length = 3) : ∃ a b c, bs = [a, b, c] := by match bs, h with | [a, b, c], _ => exact ⟨a, b, c, rfl⟩
end
end Go.En
namespace Go.En
open Go.RowKit Go.Nt
abbrev isZ (z : Int) : VP := Flat [isB (decide (z < 0)), SlM isU (words z.natAbs)]
abbrev zM (k : Nat) (z : Int) : Option Nat × MP := (some k, cellM [isB (decide (z < 0)), SlM isU (words z.natAbs)])
theorem isZ_eq {z z' : Int} (h : z = z') : isZ z = isZ z' := h ▸ rfl
theorem isZ_of {n : Bool} {xs : List Nat} {z : Int} (h : n = decide (z < 0)) (h2 : xs = words z.natAbs) : Flat [isB n, SlM isU xs] = isZ z := by subst h; subst h2; rfl
theorem isZ0 : Flat [isB false, SlM isU []] = isZ 0 := isZ_of (by decide) (by rw [Int.natAbs_zero, words_zero])
section
variable {E : Env} {P : Program} {Γ : Ctx} {M : Mem} {x : Operand}
theorem Has.okZ {n : Bool} {xs : List Nat} (h : Has E Γ M x (Flat [isB n, SlM isU xs])) : ∀ a w F, Sat E Γ M a w F → (∀ y ∈ xs, y < 18446744073709551616) ∧ xs.length ≤ 9223372036854775807 := by
 intro a w F s
 obtain ⟨vs, e, hv⟩ := h a w F s
 obtain ⟨v, hv1, hv2⟩ := hv.get 1 (SlM isU xs) rfl
 obtain ⟨ad, cap, e, g1, g2, g3, g4⟩ := hv2
 refine ⟨fun y hy => ?_, by rw [maxLen_eq] at g2; omega⟩
 obtain ⟨i, hi, rfl⟩ := List.mem_iff_getElem.1 hy
 rcases g4 with g4 | ⟨b, off, _, _, vs, hv, _⟩
 ·omega
 ·obtain ⟨v, _, h2⟩ := hv.get i (isU xs[i]) (by simp [hi])
  exact h2.2
theorem Has.lt2 {a b : Nat} (h : Has E Γ M x (Flat [isU a, isU b])) : ∀ ac w F, Sat E Γ M ac w F → a < 18446744073709551616 ∧ b < 18446744073709551616 := by
 intro ac w F s
 obtain ⟨vs, e, hv⟩ := h ac w F s
 obtain ⟨v, hv1, hv2⟩ := hv.get 0 (isU a) rfl
 obtain ⟨v', hv3, hv4⟩ := hv.get 1 (isU b) rfl
 exact ⟨hv2.2, hv4.2⟩
theorem zM_eq {k : Nat} {z z' : Int} {r r' : Mem} (h : z = z') (h2 : r = r') : (zM k z :: r : Mem) = zM k z' :: r' := by subst h; subst h2; rfl
end
end Go.En
namespace Go.En
open Go.RowKit
section
variable {E : Env} {P : Program} {Γ : Ctx} {M : Mem} {ty : TypeId} {pos : String} {after : Array Edge} {gd : Option (Nat × Bool)} {d : Option Tmp}
 {ops : Array Oper} {Q : Exit → Act → World → Prop} {rest : List Oper} {T T' : TypeId} {x y : Operand} {α : Type} {f : α → VP} {fk : α → List VP} {xs : List α} {k : Nat}
theorem flat_len (hk : ∀ y, (fk y).length = k) : ∀ (xs : List α), (xs.flatMap fk).length = xs.length * k
 | [] => by simp
 | a :: l => by rw [List.flatMap_cons, List.length_append, hk, flat_len hk l, List.length_cons, Nat.succ_mul]; omega
theorem flat_take (hk : ∀ y, (fk y).length = k) : ∀ (n : Nat) (xs : List α), (xs.flatMap fk).take (n * k) = (xs.take n).flatMap fk
  | 0, xs => by simp
  | n + 1, [] => by simp
  | n + 1, a :: l => by
    rw [List.flatMap_cons, List.take_succ_cons, List.flatMap_cons, Nat.succ_mul, Nat.add_comm, ← hk a, List.take_length_add_append, hk a, flat_take hk n l]
theorem flat_skip (hk : ∀ y, (fk y).length = k) : ∀ (n : Nat) (xs : List α), (xs.flatMap fk).drop (n * k) = (xs.drop n).flatMap fk
  | 0, xs => by simp
  | n + 1, [] => by simp
  | n + 1, a :: l => by
    rw [List.flatMap_cons, List.drop_succ_cons, Nat.succ_mul, Nat.add_comm, ← hk a, List.drop_length_add_append, hk a, flat_skip hk n l]
theorem flat_part (hk : ∀ y, (fk y).length = k) (l h : Nat) (xs : List α) : ((xs.flatMap fk).take (h * k)).drop (l * k) = ((xs.take h).drop l).flatMap fk := by
 rw [flat_take hk, flat_skip hk]
theorem SlK_of {n : Nat} {Ss : List VP} {xs : List α} (h1 : n = xs.length) (h2 : Ss = xs.flatMap fk) : SlL k n Ss = SlK k fk xs := by subst h1; subst h2; rfl
theorem All2.rep {z : List VP} {vs : List Value} {w : World} {F : Blk} (h : All2 z w F vs) : ∀ c, All2 ((List.replicate c z).flatten) w F ((List.replicate c vs).flatten)
 | 0 => trivial
 | c + 1 => by rw [List.replicate_succ, List.replicate_succ, List.flatten_cons, List.flatten_cons]; exact All2.append h (All2.rep h c)
theorem rep_flat {u : α} : ∀ c, (List.replicate c u).flatMap fk = (List.replicate c (fk u)).flatten
 | 0 => rfl
 | c + 1 => by rw [List.replicate_succ, List.replicate_succ, List.flatMap_cons, List.flatten_cons, rep_flat c]
theorem Ops.makeK {d : Nat} {e : TypeId} {g : Bool} {z : Value} {n c : Nat} {u : α} (hT : slB P T = some e) (ht : tyB P e = some (k, g)) (hz : zeroB P e = some z) (hZ : ∀ w F, All2 (fk u) w F z.cells.toList) (hk : ∀ y, (fk y).length = k) (hby : byLe P e 1024 = true)
  (hx : Has E Γ M x (isI (n : Int))) (hy : Has E Γ M y (isI (c : Int))) (hn : n ≤ c ∧ c ≤ 4294967296) (hd : Nat.blt d E.n = true)
  (kk : ∀ b, Ops E P ops Q rest ((d, isWin b 0 n c) :: Γ) ((some b, cellM ((List.replicate c u).flatMap fk)) :: M)) : Ops E P ops Q (⟨some d, .makeSlice T x y, ty, pos, after, none⟩ :: rest) Γ M := by
 intro a w F s
 refine wpList_plain rfl fun K hK => ?_
 unfold Oper.wp
 have hm : z.cells.size = k := by have := (hZ w F).len; rw [hk] at this; simpa using this.symm
 obtain ⟨i, hi, hb⟩ : ∃ i, P.info? e = some i ∧ i.bytes ≤ 1024 := by
  unfold byLe at hby
  cases hi : P.info? e with
  | none => simp [hi] at hby
  | some i => rw [hi] at hby; exact ⟨i, rfl, Nat.le_of_ble_eq_true hby⟩
 have hr : (execOp a.eval (⟨some d, .makeSlice T x y, ty, pos, after, none⟩ : Oper)).run P w = .ok (.value (.slice (some ⟨w.heap.size, 0, none⟩) n c)) { w with heap := w.heap.push (.cells ((List.replicate c z.cells.toList).flatten).toArray e) } := by
  simp only [execOp, evI hx a w F s, evI hy a w F s, Sem.run_bind, run_make hT ht hz hi hb hn.1 hn.2 hm, Result.andThen_ok, Sem.run_pure]
 rw [hr]
 have hall : All2 ((List.replicate c u).flatMap fk) w F ((List.replicate c z.cells.toList).flatten) := by rw [rep_flat]; exact (hZ w F).rep c
 have s1 := s.alloc (T := e) hall
 have hd' : d < E.n := by simpa [Nat.blt_eq] using hd
 exact hK _ _ (kk w.heap.size _ _ F (s1.put hd' ⟨rfl, hn.1, by rw [maxLen_eq]; omega⟩))
theorem flat_set (hk : ∀ y, (fk y).length = k) (z : α) : ∀ (j : Nat) (xs : List α), j < xs.length → (xs.flatMap fk).take (j * k) ++ fk z ++ (xs.flatMap fk).drop (j * k + k) = (xs.set j z).flatMap fk
  | j, xs, hj => by
    rw [← Nat.succ_mul, flat_take hk, flat_skip hk, List.set_eq_take_append_cons_drop, if_pos hj, List.flatMap_append, List.flatMap_cons, List.append_assoc]
theorem Ops.storeK {b i j : Nat} {g : Bool} {T : TypeId} {S : VP} {z : α} [sh : Shape S (fk z)] [o1 : Ones (fk z)] (hk : ∀ y, (fk y).length = k) (hx : Has E Γ M x (isPtr b (j * k))) (hy : Has E Γ M y S)
  (hM : M[i]? = some (some b, cellM (xs.flatMap fk))) (hT : tyB P T = some (k, g)) (hl : j < xs.length) {M' : Mem}
  (hM' : M.set i (some b, cellM ((xs.set j z).flatMap fk)) = M') (kk : Ops E P ops Q rest Γ M') : Ops E P ops Q (⟨none, .store T x y, ty, pos, after, none⟩ :: rest) Γ M :=
 Ops.store (Ss1 := fk z) hx hy hM hT (by rw [hk, Nat.beq_eq]) (by
  rw [Nat.ble_eq, flat_len hk, ← Nat.succ_mul]; exact Nat.mul_le_mul_right k hl) (Ss' := (xs.set j z).flatMap fk) (flat_set hk z j xs hl) hM' kk
theorem Cv.freezeL {t b o n c i : Nat} {Ss : List VP} (hW : E.W = []) (ht : look Γ t = some (isWin b o n c)) (hM : M[i]? = some (some b, cellM Ss)) (hl : o + n * k ≤ Ss.length) : Cv E Γ M ((t, SlL k n ((Ss.drop o).take (n * k))) :: Γ) (M.eraseIdx i) := by
  intro a w F s
  obtain ⟨h1, h2, h3, ob, h4, vs, T', rfl, hv⟩ := s.mem.each b _ (List.mem_of_getElem? hM)
  refine ⟨fun k => F k ∨ k = b, ?_⟩
  have hsub : ∀ k, F k → (F k ∨ k = b) := fun k hk => .inl hk
  have hi : i < M.length := by
    rcases Nat.lt_or_ge i M.length with h | h
    · exact h
    · rw [List.getElem?_eq_none h] at hM; cases hM
  have hMi : M[i] = (some b, cellM Ss) := by rw [List.getElem?_eq_getElem hi] at hM; exact Option.some.inj hM
  have hbW : E.w0.heap.size ≤ b := h1.resolve_right (by rw [hW]; simp)
  obtain ⟨e1, e2, e3⟩ := s.slots t _ ht
  · refine { defers := s.defers, size := s.size, keep := s.keep, f0 := fun k hk => .inl (s.f0 k hk), fnew := ?_, flt := ?_, slots := ?_, mem := ⟨s.mem.apart.sublist (List.eraseIdx_sublist _ _), ?_⟩ }
    · rintro k (hk | rfl)
      · exact s.fnew k hk
      · exact .inr ⟨hbW, h2⟩
    · rintro k (hk | rfl)
      · exact s.flt k hk
      · exact h2
    · intro t' S' ht'
      simp only [look] at ht'
      cases hb : Nat.beq t t' with
      | false => rw [hb] at ht'; exact S'.mono _ _ _ _ _ (s.slots t' S' ht') (fun _ _ => rfl) hsub
      | true =>
        rw [hb] at ht'
        obtain rfl : SlL k n ((Ss.drop o).take (n * k)) = S' := by simpa using ht'
        obtain rfl := Nat.eq_of_beq_eq_true hb
        have hlen : ((Ss.drop o).take (n * k)).length = n * k := by rw [List.length_take, List.length_drop]; omega
        refine ⟨some ⟨b, o, none⟩, c, e1, e2, e3, hlen, ?_⟩
        right
        refine ⟨b, o, rfl, .inr rfl, (vs.drop o).take (n * k), All2.mono (fun _ _ => rfl) hsub _ _ ((hv.drop o).take (n * k)), fun j u hj => ?_⟩
        have hjn : j < n * k := by
          rcases Nat.lt_or_ge j (n * k) with h | h
          · exact h
          · rw [List.getElem?_take_eq_none h] at hj; cases hj
        rw [List.getElem?_take_of_lt hjn, List.getElem?_drop] at hj
        simp [World.cell?, h4, hj]
    · intro k C hk
      obtain ⟨j, hji, hj⟩ := List.mem_eraseIdx_iff_getElem?.1 hk
      obtain ⟨g1, g2, g3, o2, g4, g5⟩ := s.mem.each k C (List.mem_of_getElem? hj)
      have hkb : k ≠ b := by
        intro e; subst e
        have hjl : j < M.length := by
          rcases Nat.lt_or_ge j M.length with h | h
          · exact h
          · rw [List.getElem?_eq_none h] at hj; cases hj
        have hMj : M[j] = (some k, C) := by rw [List.getElem?_eq_getElem hjl] at hj; exact Option.some.inj hj
        rcases Nat.lt_or_gt_of_ne hji with hlt | hlt
        · have hp := List.pairwise_iff_getElem.1 s.mem.apart j i hjl hi hlt
          rw [hMi, hMj] at hp; simp at hp
        · have hp := List.pairwise_iff_getElem.1 s.mem.apart i j hi hjl hlt
          rw [hMi, hMj] at hp; simp at hp
      exact ⟨g1, g2, fun h => h.elim g3 hkb, o2, g4, C.mono _ _ _ _ _ g5 (fun _ _ => rfl) hsub⟩
theorem Cv.freezeK {t b n c i : Nat} {ys : List α} (hk : ∀ y, (fk y).length = k) (hW : E.W = []) (ht : look Γ t = some (isWin b 0 n c)) (hM : M[i]? = some (some b, cellM (xs.flatMap fk))) (hl : n ≤ xs.length) (he : xs.take n = ys) :
  Cv E Γ M ((t, SlK k fk ys) :: Γ) (M.eraseIdx i) := by
 have h := Cv.freezeL (E := E) (k := k) hW ht hM (by rw [flat_len hk, Nat.zero_add]; exact Nat.mul_le_mul_right k hl)
 rw [List.drop_zero, flat_take hk, he] at h
 rwa [SlK_of (by rw [← he, List.length_take]; omega) rfl] at h
def grMK (fk : α → List VP) (g : Gr α) (ys : List α) : Option Nat × MP := (g.ob, cellM ((ys ++ g.sp).flatMap fk))
theorem Cv.grow0K (fk : α → List VP) : Cv E Γ M Γ (grMK fk Gr.nil [] :: M) := fun a w F s =>
 ⟨F, { s with mem := ⟨List.Pairwise.cons (fun x hx => .inl rfl) s.mem.apart, fun b C hb => by
  rcases List.mem_cons.1 hb with e | hb
  ·cases e
  ·exact s.mem.each b C hb⟩ }⟩
theorem All2.ofFlat {w : World} {F : Blk} {vs : List Value} (hk : ∀ y, (fk y).length = k) (h : All2 (xs.flatMap fk) w F vs) : vs.length = xs.length * k := by
 rw [← h.len, flat_len hk]
theorem Ops.appendGK {d i : Nat} {e : TypeId} {g0 : Bool} {z : Value} {u : α} {g : Gr α} {ys zs : List α} (hk : ∀ y, (fk y).length = k) (hk0 : 0 < k) (h1 : ∀ u, Ones (fk u)) (hT : slB P T = some e) (ht : tyB P e = some (k, g0)) (hz : zeroB P e = some z) (hZ : ∀ w F, All2 (fk u) w F z.cells.toList) (hby : byLe P e 1024 = true)
  (hx : Has E Γ M x (isGr g ys.length)) (hM : M[i]? = some (grMK fk g ys)) (hy : Has E Γ M y (SlK k fk zs)) (hn' : ys.length + zs.length ≤ 4294967296) (h0 : 0 < zs.length) (hd : Nat.blt d E.n = true)
  (kk : ∀ g' : Gr α, Ops E P ops Q rest ((d, isGr g' (ys.length + zs.length)) :: Γ) (M.set i (grMK fk g' (ys ++ zs)))) :
  Ops E P ops Q (⟨some d, .call ⟨.builtin .append, #[x, y], #[T, T]⟩, ty, pos, after, none⟩ :: rest) Γ M := by
 intro a w F s
 refine wpList_plain rfl fun K hK => ?_
 have hd' : d < E.n := by simpa [Nat.blt_eq] using hd
 obtain ⟨a1, cap, e2, g1, g2, g3, g4⟩ := hy a w F s
 have hu := slB_under hT
 obtain ⟨inf, hi, hb⟩ : ∃ i, P.info? e = some i ∧ i.bytes ≤ 1024 := by
  unfold byLe at hby
  cases hi : P.info? e with
  | none => simp [hi] at hby
  | some i => rw [hi] at hby; exact ⟨i, rfl, Nat.le_of_ble_eq_true hby⟩
 have hsz : inf.size = k := by
  have := run_size (P := P) (w := w) ht
  simp [sizeOf, typeInfo, go_sem, hi] at this; exact this
 have hzz : inf.zero = some z := by unfold zeroB at hz; rw [hi] at hz; simpa using hz
 have hone : z.cells.size = k := by have := (hZ w F).len; rw [hk] at this; simpa using this.symm
 have hzs : ∀ k, (Builtin.zeroCells z.cells k).toList = (List.replicate k z.cells.toList).flatten := fun k => by
  unfold Builtin.zeroCells
  rw [make_flat rfl]
 have hall : ∀ c, All2 ((List.replicate c u).flatMap fk) w F ((List.replicate c z.cells.toList).flatten) := fun c => by rw [rep_flat]; exact (hZ w F).rep c
 rcases g4 with g4 | ⟨b1, off, rfl, hF, vs, hv, hc⟩
 ·omega
 have hlen := hv.ofFlat hk
 have hnews : ∀ j u, vs[j]? = some u → w.cell? ((⟨b1, off, none⟩ : Addr).add j) = some u := fun j u hj => by rw [add_mk]; exact hc j u hj
 have hnl : vs.length = zs.length * inf.size := by rw [hsz]; exact hlen
 -- a new row
 have hfresh : ∀ (olds : List Value), All2 (ys.flatMap fk) w F olds → ∀ cp, ys.length + zs.length ≤ cp → cp ≤ maxLen →
   K (a.put (some d) (.slice (some ⟨w.heap.size, 0, none⟩) (ys.length + zs.length) cp)) { w with heap := w.heap.push (.cells (olds ++ vs ++ (Builtin.zeroCells z.cells (cp - (ys.length + zs.length))).toList).toArray e), drawn := w.drawn + 1 } := by
  intro olds ho cp h1 h2
  have hcs : All2 ((ys ++ zs ++ List.replicate (cp - (ys.length + zs.length)) u).flatMap fk) w F (olds ++ vs ++ (Builtin.zeroCells z.cells (cp - (ys.length + zs.length))).toList) := by
   rw [List.flatMap_append, List.flatMap_append, hzs]; exact All2.append (All2.append ho hv) (hall _)
  have s1 := (s.adv (Adv.drew w F)).alloc (T := e) (All2.mono (w := w) (w' := { w with drawn := w.drawn + 1 }) (fun _ _ => rfl) (fun _ h => h) _ _ hcs)
  refine hK _ _ (kk ⟨some w.heap.size, cp, List.replicate (cp - (ys.length + zs.length)) u⟩ _ _ F ((s1.swap (i := i)).put hd' (.inr ⟨_, rfl, rfl, ?_, h2⟩)))
  simp; omega
 unfold Oper.wp
 have hml : ys.length + zs.length ≤ maxLen := by rw [maxLen_eq]; omega
 rcases hx a w F s with ⟨hob, hyl, e1⟩ | ⟨b, hob, e1, hcap, hcm0⟩
 ·have hbytes : zs.length * inf.bytes ≤ 281474976710656 := by have := Nat.mul_le_mul (show zs.length ≤ 4294967296 by omega) hb; omega
  have hy0 : ys = [] := List.eq_nil_of_length_eq_zero hyl
  have hr := run_append_nil (P := P) w T ty e inf z hu hi hzz ⟨b1, off, none⟩ zs.length cap vs hnl hnews (by omega) (by omega) hbytes
  have hf := hfresh [] (by rw [hy0]; trivial) (grownCap w zs.length 0 e) (by rw [hyl, Nat.zero_add]; exact grownCap_ge _ _ _ _) (grownCap_le_maxLen _ _ _ _ (by omega))
  rw [hyl, Nat.zero_add, List.nil_append] at hf
  have hr2 : (execOp a.eval (⟨some d, .call ⟨.builtin .append, #[x, y], #[T, T]⟩, ty, pos, after, none⟩ : Oper)).run P w = .ok (.value (.slice (some ⟨w.heap.size, 0, none⟩) zs.length (grownCap w zs.length 0 e))) { w with heap := w.heap.push (.cells (vs ++ (Builtin.zeroCells z.cells (grownCap w zs.length 0 e - zs.length)).toList).toArray e), drawn := w.drawn + 1 } := by
   have earr : vs.toArray ++ Builtin.zeroCells z.cells (grownCap w zs.length 0 e - zs.length) = (vs ++ (Builtin.zeroCells z.cells (grownCap w zs.length 0 e - zs.length)).toList).toArray := by apply Array.ext'; simp
   simp only [execOp, resolve, invoke, builtin, Sem.run_bind]
   rw [← earr]
   simp [e1, e2, Sem.run_bind, hr]
   first | rfl | exact ⟨rfl, rfl⟩ | done
  rw [hr2]
  exact hf
 ·have hM' : M[i]? = some (some b, cellM ((ys ++ g.sp).flatMap fk)) := by rw [hM]; unfold grMK; rw [hob]
  obtain ⟨o, ho, us, T', rfl, hus⟩ := mem_at s hM'
  have husl := hus.ofFlat hk
  rw [List.length_append] at husl
  have hyk : ys.length * k ≤ us.length := by rw [husl]; exact Nat.mul_le_mul_right k (by omega)
  rcases Nat.lt_or_ge g.c (ys.length + zs.length) with hg | hg
  ·have holds : All2 (ys.flatMap fk) w F (us.take (ys.length * k)) := by
    have := hus.take (ys.length * k)
    rwa [flat_take hk, List.take_left' rfl] at this
   have hcell : ∀ j u, (us.take (ys.length * k))[j]? = some u → w.cell? ((⟨b, 0, none⟩ : Addr).add j) = some u := fun j u hj => by
    have hjl : j < ys.length * k := by
     rcases Nat.lt_or_ge j (ys.length * k) with h | h
     ·exact h
     ·rw [List.getElem?_take_eq_none h] at hj; cases hj
    rw [List.getElem?_take_of_lt hjl] at hj
    rw [add_mk]
    simp only [World.cell?, ho, Nat.zero_add]
    simpa using hj
   have hfit : Builtin.nextslicecap (ys.length + zs.length) g.c * inf.bytes ≤ 281474976710656 := by
    have h1 := nextslicecap_le hg
    have h2 := Nat.mul_le_mul (Nat.le_trans h1 (show 2 * (ys.length + zs.length) ≤ 8589934592 by omega)) hb
    omega
   have hr := run_append_grow (P := P) w T ty e inf z hu hi hzz ⟨b, 0, none⟩ ys.length g.c (us.take (ys.length * k)) (by rw [List.length_take, hsz]; omega) hcell ⟨b1, off, none⟩ zs.length cap vs hnl hnews hg (by omega) hfit
   have hf := hfresh _ holds (grownCap w (ys.length + zs.length) g.c e) (grownCap_ge _ _ _ _) (grownCap_le_maxLen _ _ _ _ hml)
   have hr2 : (execOp a.eval (⟨some d, .call ⟨.builtin .append, #[x, y], #[T, T]⟩, ty, pos, after, none⟩ : Oper)).run P w = .ok (.value (.slice (some ⟨w.heap.size, 0, none⟩) (ys.length + zs.length) (grownCap w (ys.length + zs.length) g.c e))) { w with heap := w.heap.push (.cells (us.take (ys.length * k) ++ vs ++ (Builtin.zeroCells z.cells (grownCap w (ys.length + zs.length) g.c e - (ys.length + zs.length))).toList).toArray e), drawn := w.drawn + 1 } := by
    have earr : (us.take (ys.length * k)).toArray ++ vs.toArray ++ Builtin.zeroCells z.cells (grownCap w (ys.length + zs.length) g.c e - (ys.length + zs.length)) = (us.take (ys.length * k) ++ vs ++ (Builtin.zeroCells z.cells (grownCap w (ys.length + zs.length) g.c e - (ys.length + zs.length))).toList).toArray := by apply Array.ext'; simp
    simp only [execOp, resolve, invoke, builtin, Sem.run_bind]
    rw [← earr]
    simp [e1, e2, Sem.run_bind, hr]
    first | rfl | exact ⟨rfl, rfl⟩ | done
   rw [hr2]
   exact hf
  ·have hvone : ∀ v ∈ vs, v.oneCell' = true := hv.one (fun S hS => by obtain ⟨u, _, hu⟩ := List.mem_flatMap.1 hS; exact (h1 u).ones S hu)
   have hsum : ys.length * k + vs.length ≤ us.length := by
    rw [hlen, husl, ← Nat.add_mul]; exact Nat.mul_le_mul_right k (by omega)
   have hst := run_storeCells_at P b (ys.length * k) T' vs 0 us.toArray w ho (by simp; omega) hvone
   simp only [Nat.add_zero] at hst
   have hfc := run_firstCells_some (P := P) w k zs.length ⟨b1, off, none⟩ zs.length cap vs (by rw [hlen]) hnews
   have hr : (Builtin.append_ #[T, T] ty #[.slice (some ⟨b, 0, none⟩) ys.length g.c, .slice (some ⟨b1, off, none⟩) zs.length cap]).run P w = .ok (.slice (some ⟨b, 0, none⟩) (ys.length + zs.length) g.c) (w.setRow b (us.take (ys.length * k) ++ vs ++ us.drop (ys.length * k + vs.length)).toArray) := by
    have hst' : (storeCells ⟨b, ys.length * k, none⟩ vs).run P w = .ok () (w.setRow b (us.take (ys.length * k) ++ vs ++ us.drop (ys.length * k + vs.length)).toArray) := by simpa using hst
    simp [Builtin.append_, run_underlying hu, sizeOf, typeInfo, hi, hsz, Builtin.lenOf, hg, hfc, Addr.add_lit, hst']
   have hr2 : (execOp a.eval (⟨some d, .call ⟨.builtin .append, #[x, y], #[T, T]⟩, ty, pos, after, none⟩ : Oper)).run P w = .ok (.value (.slice (some ⟨b, 0, none⟩) (ys.length + zs.length) g.c)) (w.setRow b (us.take (ys.length * k) ++ vs ++ us.drop (ys.length * k + vs.length)).toArray) := by
    simp only [execOp, resolve, invoke, builtin, Sem.run_bind]
    simp [e1, e2, Sem.run_bind, hr]
   rw [hr2]
   have hF : ∀ k', F k' → (w.setRow b (us.take (ys.length * k) ++ vs ++ us.drop (ys.length * k + vs.length)).toArray).heap[k']? = w.heap[k']? := fun k' hk' => setRow_ne _ _ _ _ (fun e => by
    subst e; exact (s.mem.each k' _ (List.mem_of_getElem? hM')).2.2.1 hk')
   have hnew : All2 ((ys ++ zs ++ g.sp.drop zs.length).flatMap fk) w F (us.take (ys.length * k) ++ vs ++ us.drop (ys.length * k + vs.length)) := by
    have e1 := hus.take (ys.length * k)
    rw [flat_take hk, List.take_left' rfl] at e1
    have e2 := hus.drop (ys.length * k + vs.length)
    rw [hlen, ← Nat.add_mul, flat_skip hk, List.drop_append, List.drop_of_length_le (by omega), List.nil_append, Nat.add_sub_cancel_left] at e2
    rw [List.flatMap_append, List.flatMap_append, hlen, ← Nat.add_mul]
    exact (e1.append hv).append e2
   refine hK _ _ (kk ⟨some b, g.c, g.sp.drop zs.length⟩ _ _ F ?_)
   exact (s.write (w' := w.setRow b (us.take (ys.length * k) ++ vs ++ us.drop (ys.length * k + vs.length)).toArray) (C' := cellM ((ys ++ zs ++ g.sp.drop zs.length).flatMap fk)) hM' rfl rfl rfl (setRow_size _ _ _) (fun k hk => setRow_ne _ _ _ _ hk) (setRow_heap _ _ _ _ _ _ ho) ⟨_, T', rfl, All2.mono hF (fun _ h => h) _ _ hnew⟩).put hd' (.inr ⟨b, rfl, rfl, by simp; omega, hcm0⟩)
theorem nilK {w : World} {F : Blk} : (SlK k fk ([] : List α)).h w F (.slice none 0 0) := ⟨none, 0, rfl, Nat.le_refl _, by rw [maxLen_eq]; omega, by simp, .inl rfl⟩
theorem Cv.freezeGK {t i : Nat} {g : Gr α} {ys : List α} (hk : ∀ y, (fk y).length = k) (hW : E.W = []) (ht : look Γ t = some (isGr g ys.length)) (hM : M[i]? = some (grMK fk g ys)) : Cv E Γ M ((t, SlK k fk ys) :: Γ) (M.eraseIdx i) := by
  intro a w F s
  rcases id (s.slots t _ ht) with ⟨hob, hyl, e1⟩ | ⟨b, hob, e1, hcap, hcm0⟩
  · refine ⟨F, { s with slots := ?_, mem := ⟨s.mem.apart.sublist (List.eraseIdx_sublist _ _), fun k C hk => s.mem.each k C ((List.eraseIdx_sublist _ _).subset hk)⟩ }⟩
    intro t' S' ht'
    simp only [look] at ht'
    cases hb : Nat.beq t t' with
    | false => rw [hb] at ht'; exact s.slots t' S' ht'
    | true =>
      rw [hb] at ht'
      obtain rfl : SlK k fk ys = S' := by simpa using ht'
      obtain rfl := Nat.eq_of_beq_eq_true hb
      rw [e1, List.eq_nil_of_length_eq_zero hyl]
      exact nilK
  · have hM' : M[i]? = some (some b, cellM ((ys ++ g.sp).flatMap fk)) := by rw [hM]; unfold grMK; rw [hob]
    have s2 : Sat E ((t, isWin b 0 ys.length g.c) :: Γ) M a w F := s.wider (fun t' S' ht' => by
      simp only [look] at ht'
      cases hb : Nat.beq t t' with
      | false => rw [hb] at ht'; exact s.slots t' S' ht'
      | true =>
        rw [hb] at ht'
        obtain rfl : isWin b 0 ys.length g.c = S' := by simpa using ht'
        obtain rfl := Nat.eq_of_beq_eq_true hb
        exact ⟨e1, by omega, hcm0⟩)
    obtain ⟨F', s3⟩ := Cv.freezeK (Γ := (t, isWin b 0 ys.length g.c) :: Γ) (t := t) (b := b) (n := ys.length) (c := g.c) hk hW (by simp [look, nbeq_self]) hM' (by simp) (List.take_left' rfl) a w F s2
    refine ⟨F', s3.wider fun t' S' ht' => ?_⟩
    simp only [look] at ht'
    refine s3.slots t' S' ?_
    simp only [look]
    cases hb : Nat.beq t t' with
    | false => rw [hb] at ht'; simpa using ht'
    | true => rw [hb] at ht'; simpa using ht'
theorem grMK_eq {g : Gr α} {ys ys' : List α} {r : Mem} (h : ys = ys') : (grMK fk g ys :: r : Mem) = grMK fk g ys' :: r := h ▸ rfl
theorem SlK_eq {xs xs' : List α} (h : xs = xs') : SlK k fk xs = SlK k fk xs' := h ▸ rfl
end
end Go.En
namespace Go.En
open Go.RowKit
section
variable {E : Env} {P : Program} {Γ : Ctx} {M : Mem} {ty : TypeId} {pos : String} {after : Array Edge} {gd : Option (Nat × Bool)} {d : Option Tmp}
 {T T' : TypeId} {x y : Operand} {α : Type} {fk : α → List VP} {xs : List α} {k : Nat}
theorem Has.cWK : Has E Γ M (.const (.slice none 0 0)) (SlK k fk ([] : List α)) := fun _ _ _ _ => nilK
theorem ixo2 {n : Nat} : 0 + n * 2 = n * 2 := by omega
theorem OK1.loadK {b i j : Nat} {x' : α} (hk : ∀ y, (fk y).length = k) (hx : Has E Γ M x (isPtr b (j * k))) (hM : M[i]? = some (some b, cellM (xs.flatMap fk))) (hT : tyB P T = some (k, true)) (hS : xs[j]? = some x') :
  OK1 E P Γ M ⟨d, .load T x, ty, pos, after, gd⟩ (Flat (fk x')) :=
 OK1.load hx hM hT (by
  have hj : j < xs.length := by
   rcases Nat.lt_or_ge j xs.length with h | h
   ·exact h
   ·rw [List.getElem?_eq_none h] at hS; cases hS
  rw [Nat.ble_eq, flat_len hk, ← Nat.succ_mul]; exact Nat.mul_le_mul_right k hj) (flat_drop xs j x' (fun y _ => hk y) hS)
theorem Cv.winGr {t b n c i : Nat} (ht : look Γ t = some (isWin b 0 n c)) (hM : M[i]? = some (some b, cellM (xs.flatMap fk))) (hn : n ≤ xs.length) (hc : xs.length = c) :
    Cv E Γ M ((t, isGr (⟨some b, c, xs.drop n⟩ : Gr α) n) :: Γ) (M.set i (grMK fk ⟨some b, c, xs.drop n⟩ (xs.take n))) := fun a w F s => by
  have hset : M.set i (grMK fk ⟨some b, c, xs.drop n⟩ (xs.take n)) = M := by
    refine set_self ?_
    rw [hM]; unfold grMK; simp only [List.take_append_drop]
  rw [hset]
  refine ⟨F, s.wider fun t' S' ht' => ?_⟩
  simp only [look] at ht'
  cases hb : Nat.beq t t' with
  | false => rw [hb] at ht'; exact s.slots t' S' ht'
  | true =>
    rw [hb] at ht'
    obtain rfl : isGr (⟨some b, c, xs.drop n⟩ : Gr α) n = S' := by simpa using ht'
    obtain rfl := Nat.eq_of_beq_eq_true hb
    obtain ⟨e1, e2, e3⟩ := s.slots _ _ ht
    exact .inr ⟨b, rfl, e1, by show n + (xs.drop n).length = c; rw [List.length_drop]; omega, e3⟩
end
abbrev zc (p : Bool × List Nat) : List VP := [isB p.1, isWords p.2]
theorem zc_len : ∀ p, (zc p).length = 2 := fun _ => rfl
abbrev isZs (xs : List (Bool × List Nat)) : VP := SlK 2 zc xs
end Go.En
namespace Go.En
open Go.RowKit
def isFun {ι : Type} (P : Program) (As : ι → List VP) (R : ι → VP) : VP :=
 ⟨fun w F v => ∃ (g : FuncId) (first cap : List Value) (Bs Cs : List VP), v = .func (.func g) first.toArray cap.toArray ∧ (∀ i, Ctr P g (Bs ++ As i ++ Cs) (R i)) ∧ All2 Bs w F first ∧ All2 Cs w F cap,
 fun w w' F F' v h h1 h2 => by
  obtain ⟨g, first, cap, Bs, Cs, e, hC, hB, hc⟩ := h
  exact ⟨g, first, cap, Bs, Cs, e, hC, All2.mono h1 h2 _ _ hB, All2.mono h1 h2 _ _ hc⟩⟩
instance {ι : Type} {P : Program} {As : ι → List VP} {R : ι → VP} : One (isFun P As R) := ⟨fun w F v h => by obtain ⟨g, first, cap, Bs, Cs, e, _⟩ := h; rw [e]; rfl⟩
instance {ι : Type} {P : Program} {As : ι → List VP} {R : ι → VP} : Shape (isFun P As R) [isFun P As R] := .of_one inferInstance
instance {Ss : List VP} : One (PtrL Ss) := ⟨fun w F v h => by obtain ⟨b, off, e, _⟩ := h; rw [e]; rfl⟩
instance {Ss : List VP} : Shape (PtrL Ss) [PtrL Ss] := .of_one inferInstance
section
variable {E : Env} {P : Program} {Γ : Ctx} {M : Mem} {ty : TypeId} {pos : String} {after : Array Edge} {gd : Option (Nat × Bool)} {d : Option Tmp}
 {ops : Array Oper} {Q : Exit → Act → World → Prop} {rest : List Oper} {T T' : TypeId} {x y : Operand} {α ι : Type} {As : ι → List VP} {R : ι → VP}
theorem Has.fn {g : FuncId} (h : ∀ i, Ctr P g (As i) (R i)) : Has E Γ M (.func g) (isFun P As R) :=
 fun a w F s => ⟨g, [], [], [], [], rfl, fun i => by rw [List.nil_append, List.append_nil]; exact h i, trivial, trivial⟩
theorem OK1.makeFn {g : FuncId} {xs ys : List Operand} {Bs Cs : List VP} (h : ∀ i, Ctr P g (Bs ++ As i ++ Cs) (R i)) (hx : HasL E Γ M xs Bs) (hy : HasL E Γ M ys Cs) :
  OK1 E P Γ M ⟨d, .makeFunc (.func g) xs.toArray ys.toArray, ty, pos, after, gd⟩ (isFun P As R) :=
 .run fun a w F s => by
  refine ⟨.func (.func g) (xs.map a.eval).toArray (ys.map a.eval).toArray, ?_, g, _, _, Bs, Cs, rfl, h, hx.all s, hy.all s⟩
  simp [execOp, Instr.makeFunc, go_sem]
theorem OK1.callV {xs : List Operand} {ts : Array TypeId} (i : ι) (hf : Has E Γ M x (isFun P As R)) (hx : HasL E Γ M xs (As i)) :
  OK1 E P Γ M ⟨d, .call ⟨.value x, xs.toArray, ts⟩, ty, pos, after, gd⟩ (R i) := by
 intro a w F s K Q hK
 unfold Oper.wp
 obtain ⟨g, first, cap, Bs, Cs, e, hC, hB, hc⟩ := hf a w F s
 have hr : (execOp a.eval (⟨d, .call ⟨.value x, xs.toArray, ts⟩, ty, pos, after, gd⟩ : Oper)).run P w = .ok (.enter g (first ++ xs.map a.eval ++ cap).toArray) w := by
  have := run_enter (hC i).1 (first ++ xs.map a.eval ++ cap).toArray w
  simp only [execOp, resolve, Sem.run_bind, e, Deferred.ofValue, Sem.run_pure, Result.andThen_ok, invoke]
  simpa [go_sem] using this
 rw [hr]
 refine ((hC i).2 w F _ s.flt ((hB.append (hx.all s)).append hc)).mono ?_
 rintro e w' ⟨v, rfl, hk, hv⟩
 exact hK v w' _ ⟨hk, fun b hb => .inl hb, fun b hb => hb⟩ hv
theorem Cv.freezeBox {t b i : Nat} {Ss : List VP} (hW : E.W = []) (ht : look Γ t = some (isPtr b 0)) (hM : M[i]? = some (some b, cellM Ss)) : Cv E Γ M ((t, PtrL Ss) :: Γ) (M.eraseIdx i) := by
  intro a w F s
  obtain ⟨h1, h2, h3, ob, h4, vs, T', rfl, hv⟩ := s.mem.each b _ (List.mem_of_getElem? hM)
  refine ⟨fun k => F k ∨ k = b, ?_⟩
  have hsub : ∀ k, F k → (F k ∨ k = b) := fun k hk => .inl hk
  have hi : i < M.length := by
    rcases Nat.lt_or_ge i M.length with h | h
    · exact h
    · rw [List.getElem?_eq_none h] at hM; cases hM
  have hMi : M[i] = (some b, cellM Ss) := by rw [List.getElem?_eq_getElem hi] at hM; exact Option.some.inj hM
  have hbW : E.w0.heap.size ≤ b := h1.resolve_right (by rw [hW]; simp)
  have e1 : a.tmps.getD t undef = .pointer (some ⟨b, 0, none⟩) := s.slots t _ ht
  refine { defers := s.defers, size := s.size, keep := s.keep, f0 := fun k hk => .inl (s.f0 k hk), fnew := ?_, flt := ?_, slots := ?_, mem := ⟨s.mem.apart.sublist (List.eraseIdx_sublist _ _), ?_⟩ }
  · rintro k (hk | rfl)
    · exact s.fnew k hk
    · exact .inr ⟨hbW, h2⟩
  · rintro k (hk | rfl)
    · exact s.flt k hk
    · exact h2
  · intro t' S' ht'
    simp only [look] at ht'
    cases hb : Nat.beq t t' with
    | false => rw [hb] at ht'; exact S'.mono _ _ _ _ _ (s.slots t' S' ht') (fun _ _ => rfl) hsub
    | true =>
      rw [hb] at ht'
      obtain rfl : PtrL Ss = S' := by simpa using ht'
      obtain rfl := Nat.eq_of_beq_eq_true hb
      refine ⟨b, 0, e1, .inr rfl, vs, All2.mono (fun _ _ => rfl) hsub _ _ hv, fun j u hj => ?_⟩
      simp [World.cell?, h4, hj]
  · intro k C hk
    obtain ⟨j, hji, hj⟩ := List.mem_eraseIdx_iff_getElem?.1 hk
    obtain ⟨g1, g2, g3, o2, g4, g5⟩ := s.mem.each k C (List.mem_of_getElem? hj)
    have hkb : k ≠ b := by
      intro e; subst e
      have hjl : j < M.length := by
        rcases Nat.lt_or_ge j M.length with h | h
        · exact h
        · rw [List.getElem?_eq_none h] at hj; cases hj
      have hMj : M[j] = (some k, C) := by rw [List.getElem?_eq_getElem hjl] at hj; exact Option.some.inj hj
      rcases Nat.lt_or_gt_of_ne hji with hlt | hlt
      · have hp := List.pairwise_iff_getElem.1 s.mem.apart j i hjl hi hlt
        rw [hMi, hMj] at hp; simp at hp
      · have hp := List.pairwise_iff_getElem.1 s.mem.apart i j hi hjl hlt
        rw [hMi, hMj] at hp; simp at hp
    exact ⟨g1, g2, fun h => h.elim g3 hkb, o2, g4, C.mono _ _ _ _ _ g5 (fun _ _ => rfl) hsub⟩
end
end Go.En
namespace Go.En
open Go.RowKit
section
variable {E : Env} {P : Program} {Γ : Ctx} {M : Mem} {ty : TypeId} {pos : String} {after : Array Edge} {gd : Option (Nat × Bool)} {d : Option Tmp}
 {ops : Array Oper} {Q : Exit → Act → World → Prop} {rest : List Oper} {T T' : TypeId} {x y : Operand} {α : Type} {f : α → VP} {fk : α → List VP} {xs : List α} {k : Nat}
theorem Sat.freezeB {a : Act} {w : World} {F : Blk} {i b : Nat} {Ss : List VP} (s : Sat E Γ M a w F) (hW : E.W = []) (hM : M[i]? = some (some b, cellM Ss)) :
  Sat E Γ (M.eraseIdx i) a w (fun k => F k ∨ k = b) ∧ ∃ vs T', w.heap[b]? = some (.cells (List.toArray vs) T' (0, 0)) ∧ All2 Ss w (fun k => F k ∨ k = b) vs := by
 obtain ⟨h1, h2, h3, ob, h4, vs, T', rfl, hv⟩ := s.mem.each b _ (List.mem_of_getElem? hM)
 have hsub : ∀ k, F k → (F k ∨ k = b) := fun k hk => .inl hk
 have hi : i < M.length := by
  rcases Nat.lt_or_ge i M.length with h | h
  ·exact h
  ·rw [List.getElem?_eq_none h] at hM; cases hM
 have hMi : M[i] = (some b, cellM Ss) := by rw [List.getElem?_eq_getElem hi] at hM; exact Option.some.inj hM
 have hbW : E.w0.heap.size ≤ b := h1.resolve_right (by rw [hW]; simp)
 refine ⟨?_, vs, T', h4, All2.mono (fun _ _ => rfl) hsub _ _ hv⟩
 refine { defers := s.defers, size := s.size, keep := s.keep, f0 := fun k hk => .inl (s.f0 k hk), fnew := ?_, flt := ?_, slots := fun t S ht => S.mono _ _ _ _ _ (s.slots t S ht) (fun _ _ => rfl) hsub, mem := ⟨s.mem.apart.sublist (List.eraseIdx_sublist _ _), ?_⟩ }
 ·rintro k (hk | rfl)
  ·exact s.fnew k hk
  ·exact .inr ⟨hbW, h2⟩
 ·rintro k (hk | rfl)
  ·exact s.flt k hk
  ·exact h2
 ·intro k C hk
  obtain ⟨j, hji, hj⟩ := List.mem_eraseIdx_iff_getElem?.1 hk
  obtain ⟨g1, g2, g3, o2, g4, g5⟩ := s.mem.each k C (List.mem_of_getElem? hj)
  have hkb : k ≠ b := by
   intro e; subst e
   have hjl : j < M.length := by
    rcases Nat.lt_or_ge j M.length with h | h
    ·exact h
    ·rw [List.getElem?_eq_none h] at hj; cases hj
   have hMj : M[j] = (some k, C) := by rw [List.getElem?_eq_getElem hjl] at hj; exact Option.some.inj hj
   rcases Nat.lt_or_gt_of_ne hji with hlt | hlt
   ·have hp := List.pairwise_iff_getElem.1 s.mem.apart j i hjl hi hlt
    rw [hMi, hMj] at hp; simp at hp
   ·have hp := List.pairwise_iff_getElem.1 s.mem.apart i j hi hjl hlt
    rw [hMi, hMj] at hp; simp at hp
  exact ⟨g1, g2, fun h => h.elim g3 hkb, o2, g4, C.mono _ _ _ _ _ g5 (fun _ _ => rfl) hsub⟩
theorem Sat.drop1 {a : Act} {w : World} {F : Blk} {i : Nat} (s : Sat E Γ M a w F) : Sat E Γ (M.eraseIdx i) a w F :=
 {s with mem := ⟨s.mem.apart.sublist (List.eraseIdx_sublist _ _), fun k C hk => s.mem.each k C ((List.eraseIdx_sublist _ _).subset hk)⟩ }
theorem Sat.freezeGr {a : Act} {w : World} {F : Blk} {i n : Nat} {g : Gr α} {Ts Us : List VP} (s : Sat E Γ M a w F) (hW : E.W = []) (hM : M[i]? = some (g.ob, cellM Ts)) (hl : n * k ≤ Ts.length) (he : Ts.take (n * k) = Us) :
    ∃ F', (∀ b, F b → F' b) ∧ Sat E Γ (M.eraseIdx i) a w F' ∧ ∀ v, (isGr g n).h w F v → (SlL k n Us).h w F' v := by
  cases hob : g.ob with
  | none =>
    refine ⟨F, fun _ h => h, s.drop1, ?_⟩
    rintro v (⟨_, rfl, rfl⟩ | ⟨b, hb, _⟩)
    · subst he; exact ⟨none, 0, rfl, Nat.le_refl _, by rw [maxLen_eq]; omega, by simp, .inl rfl⟩
    · rw [hob] at hb; cases hb
  | some b =>
    rw [hob] at hM
    obtain ⟨s', vs, T', hb, hv⟩ := s.freezeB hW hM
    refine ⟨_, fun _ h => .inl h, s', ?_⟩
    rintro v (⟨h0, _⟩ | ⟨b', hb', rfl, h1, h2⟩)
    · rw [hob] at h0; cases h0
    · obtain rfl : b = b' := by rw [hob] at hb'; exact Option.some.inj hb'
      have hvl := hv.len
      refine ⟨_, _, rfl, by omega, h2, by rw [← he, List.length_take]; omega, .inr ⟨b, 0, rfl, .inr rfl, vs.take (n * k), by rw [← he]; exact hv.take _, fun j u hj => ?_⟩⟩
      have hjn : j < n * k := by
        rcases Nat.lt_or_ge j (n * k) with h | h
        · exact h
        · rw [List.getElem?_take_eq_none h] at hj; cases hj
      rw [List.getElem?_take_of_lt hjn] at hj
      simp [World.cell?, hb, hj]
theorem Sat.memSet {a : Act} {w : World} {F : Blk} {i b : Nat} {C C' : MP} (s : Sat E Γ M a w F) (hM : M[i]? = some (some b, C)) (h : ∀ o, C.h w F o → C'.h w F o) : Sat E Γ (M.set i (some b, C')) a w F := by
 obtain ⟨h1, h2, h3, o, ho, hC⟩ := s.mem.each b C (List.mem_of_getElem? hM)
 exact s.write hM rfl rfl rfl rfl (fun _ _ => rfl) ho (h o hC)
theorem All2.setAt : ∀ {Ss : List VP} {w : World} {F : Blk} {vs : List Value} (o : Nat) {S S' : VP}, All2 Ss w F vs → Ss[o]? = some S → (∀ v, S.h w F v → S'.h w F v) → All2 (Ss.set o S') w F vs
  | [], _, _, _, o, _, _, _, h, _ => by simp at h
  | S0 :: Ss, _, _, v :: vs, 0, S, S', h, e, k => by
    obtain rfl : S0 = S := by simpa using e
    exact ⟨k v h.1, h.2⟩
  | S0 :: Ss, _, _, v :: vs, o + 1, S, S', h, e, k => ⟨h.1, All2.setAt o h.2 (by simpa using e) k⟩
  | _ :: _, _, _, [], _, _, _, h, _, _ => h.elim
theorem Cv.growF {i b o : Nat} {Ss Ts : List VP} (α : Type) (hM : M[i]? = some (some b, cellM Ss)) (ho : Ss[o]? = some nilS) (hT : Ss.set o (isGr (Gr.nil : Gr α) 0) = Ts) : Cv E Γ M Γ ((none, cellM []) :: M.set i (some b, cellM Ts)) := fun a w F s => by
 have s1 : Sat E Γ (M.set i (some b, cellM Ts)) a w F := s.memSet hM fun ob ⟨vs, ty, e, h⟩ => ⟨vs, ty, e, by
  rw [← hT]
  exact h.setAt o ho (fun v hv => by rw [show v = .slice none 0 0 from hv]; exact gr0)⟩
 exact ⟨F, { s1 with mem := ⟨List.Pairwise.cons (fun x hx => .inl rfl) s1.mem.apart, fun b C hb => by
  rcases List.mem_cons.1 hb with e | hb
  ·cases e
  ·exact s1.mem.each b C hb⟩ }⟩
theorem Cv.freezeF {i j b o n : Nat} {g : Gr α} {Ss Ss' Ts Us : List VP} (hW : E.W = []) (hM : M[i]? = some (g.ob, cellM Ts)) (hM2 : (M.eraseIdx i)[j]? = some (some b, cellM Ss)) (ho : Ss[o]? = some (isGr g n)) (hl : n * k ≤ Ts.length) (he : Ts.take (n * k) = Us)
    (hT : Ss.set o (SlL k n Us) = Ss') : Cv E Γ M Γ ((M.eraseIdx i).set j (some b, cellM Ss')) := fun a w F s => by
  obtain ⟨F', hsub, s', hv⟩ := s.freezeGr hW hM hl he
  refine ⟨F', ?_⟩
  -- the field's cell as it was known before
  obtain ⟨_, _, _, ob, hob, vs, ty, e, hvs⟩ := s.drop1 (i := i) |>.mem.each b _ (List.mem_of_getElem? hM2)
  obtain ⟨_, _, _, ob2, hob2, vs2, ty2, e2, hvs2⟩ := s'.mem.each b _ (List.mem_of_getElem? hM2)
  have hsame : ∀ o', w.heap[b]? = some o' → o' = ob := fun o' h => by rw [hob] at h; exact (Option.some.inj h).symm
  refine s'.write hM2 rfl rfl rfl rfl (fun _ _ => rfl) hob ⟨vs, ty, e, ?_⟩
  rw [← hT]
  obtain ⟨v, hv1, hv2⟩ := hvs.get o _ ho
  have h3 : All2 Ss w F' vs := All2.mono (fun _ _ => rfl) hsub _ _ hvs
  -- place by place
  have key : ∀ {Ss : List VP} {vs : List Value} (o : Nat), All2 Ss w F' vs → vs[o]? = some v → All2 (Ss.set o (SlL k n Us)) w F' vs := by
    intro Ss
    induction Ss with
    | nil => intro vs o h _; simpa using h
    | cons S0 Ss ih =>
      intro vs o h e
      cases vs with
      | nil => exact h.elim
      | cons u us =>
        cases o with
        | zero =>
          obtain rfl : u = v := by simpa using e
          exact ⟨hv u hv2, h.2⟩
        | succ o => exact ⟨h.1, ih o h.2 (by simpa using e)⟩
  exact key o h3 hv1
theorem gr_takeM {g : Gr α} {ys : List α} : (((ys ++ g.sp).map f).take (ys.length * 1)) = ys.map f := by rw [Nat.mul_one, List.map_append, List.take_left' (by simp)]
theorem gr_lenM {g : Gr α} {ys : List α} : ys.length * 1 ≤ ((ys ++ g.sp).map f).length := by simp
theorem gr_takeK {g : Gr α} {ys : List α} (hk : ∀ y, (fk y).length = k) : (((ys ++ g.sp).flatMap fk).take (ys.length * k)) = ys.flatMap fk := by rw [flat_take hk, List.take_left' rfl]
theorem gr_lenK {g : Gr α} {ys : List α} (hk : ∀ y, (fk y).length = k) : ys.length * k ≤ ((ys ++ g.sp).flatMap fk).length := by rw [flat_len hk, List.length_append]; exact Nat.mul_le_mul_right k (by omega)
end
end Go.En
namespace Go.Pz
def cf (l : List Int) (i : Nat) : Int := l.getD i 0
theorem cf_nil (i : Nat) : cf [] i = 0 := rfl
theorem cf_zero (a : Int) (l : List Int) : cf (a :: l) 0 = a := rfl
theorem cf_succ (a : Int) (l : List Int) (i : Nat) : cf (a :: l) (i + 1) = cf l i := rfl
theorem cf_high {l : List Int} {i : Nat} (h : l.length ≤ i) : cf l i = 0 := by
 unfold cf; rw [List.getD, List.getElem?_eq_none h]; rfl
def pnorm : List Int → List Int
 | [] => []
 | a :: l => if pnorm l = [] ∧ a = 0 then [] else a :: pnorm l
theorem cf_norm : ∀ (l : List Int) (i : Nat), cf (pnorm l) i = cf l i
  | [], i => rfl
  | a :: l, i => by
    unfold pnorm
    split
    · rename_i h
      cases i with
      | zero => rw [cf_zero, h.2]; rfl
      | succ i => rw [cf_succ, ← cf_norm l i, h.1]; rfl
    · cases i with
      | zero => rfl
      | succ i => rw [cf_succ, cf_succ, cf_norm l i]
theorem norm_nil {l : List Int} : pnorm l = [] ↔ ∀ i, cf l i = 0 := by
  constructor
  · intro h i; rw [← cf_norm, h]; rfl
  · induction l with
    | nil => intro _; rfl
    | cons a l ih =>
      intro h
      unfold pnorm
      rw [if_pos ⟨ih fun i => h (i + 1), h 0⟩]
def mul (f g : Nat → Int) : Nat → Int
 | 0 => f 0 * g 0
 | n + 1 => f 0 * g (n + 1) + mul (fun i => f (i + 1)) g n
theorem mul_congr {f f' g g' : Nat → Int} (h : ∀ i, f i = f' i) (k : ∀ i, g i = g' i) : ∀ n, mul f g n = mul f' g' n := by
 obtain rfl : f = f' := funext h
 obtain rfl : g = g' := funext k
 intro n; rfl
theorem mul_back : ∀ (n : Nat) (f g : Nat → Int), mul f g (n + 1) = mul f (fun i => g (i + 1)) n + f (n + 1) * g 0
  | 0, f, g => rfl
  | n + 1, f, g => by
    have h := mul_back n (fun i => f (i + 1)) g
    show f 0 * g (n + 2) + mul (fun i => f (i + 1)) g (n + 1) = (f 0 * g (n + 2) + mul (fun i => f (i + 1)) (fun i => g (i + 1)) n) + f (n + 2) * g 0
    rw [h]
    show _ = _ + f (n + 1 + 1) * g 0
    exact (Int.add_assoc _ _ _).symm
theorem mul_comm : ∀ (n : Nat) (f g : Nat → Int), mul f g n = mul g f n
  | 0, f, g => Int.mul_comm _ _
  | n + 1, f, g => by
    rw [mul_back, mul_comm n f, Int.mul_comm (f (n + 1))]
    show _ = g 0 * f (n + 1) + mul (fun i => g (i + 1)) f n
    omega
theorem add_mul (f f' g : Nat → Int)  (n : Nat) : mul (fun i => f i + f' i) g n = mul f g n + mul f' g n := by
    induction n generalizing f f' with
    | zero => exact Int.add_mul _ _ _
    | succ n ih =>
      have h := ih (fun i => f (i + 1)) (fun i => f' (i + 1))
      have e := Int.add_mul (f 0) (f' 0) (g (n + 1))
      show (f 0 + f' 0) * g (n + 1) + mul (fun i => f (i + 1) + f' (i + 1)) g n = _
      rw [h, e]
      show _ = (f 0 * g (n + 1) + mul (fun i => f (i + 1)) g n) + (f' 0 * g (n + 1) + mul (fun i => f' (i + 1)) g n)
      omega
theorem smul_mul (c : Int) (f g : Nat → Int)  (n : Nat) : mul (fun i => c * f i) g n = c * mul f g n := by
    induction n generalizing f with
    | zero => exact Int.mul_assoc _ _ _
    | succ n ih =>
      have h := ih (fun i => f (i + 1))
      show c * f 0 * g (n + 1) + mul (fun i => c * f (i + 1)) g n = c * (f 0 * g (n + 1) + mul (fun i => f (i + 1)) g n)
      rw [h, Int.mul_add, Int.mul_assoc]
theorem mul_add (f g g' : Nat → Int) (n : Nat) : mul f (fun i => g i + g' i) n = mul f g n + mul f g' n := by
 rw [mul_comm, add_mul, mul_comm n g, mul_comm n g']
theorem mul_assoc (f g h : Nat → Int)  (n : Nat) : mul (mul f g) h n = mul f (mul g h) n := by
    induction n generalizing f g with
    | zero => exact Int.mul_assoc _ _ _
    | succ n ih =>
      show f 0 * g 0 * h (n + 1) + mul (fun i => f 0 * g (i + 1) + mul (fun i => f (i + 1)) g i) h n = f 0 * (g 0 * h (n + 1) + mul (fun i => g (i + 1)) h n) + mul (fun i => f (i + 1)) (mul g h) n
      rw [add_mul, smul_mul, ih, Int.mul_add, Int.mul_assoc]
      omega
theorem zero_mul (g : Nat → Int) (n : Nat) : mul (fun _ => 0) g n = 0 := by
 have h := smul_mul 0 (fun _ => 0) g n
 exact h.trans (Int.zero_mul _)
theorem mul_high : ∀ {n A B : Nat} {f g : Nat → Int}, (∀ i, A ≤ i → f i = 0) → (∀ i, B ≤ i → g i = 0) → A + B ≤ n + 1 → mul f g n = 0
  | n, 0, B, f, g, hf, hg, h => by rw [mul_congr (f' := fun _ => 0) (fun i => hf i (Nat.zero_le _)) (fun _ => rfl), zero_mul]
  | 0, A + 1, B, f, g, hf, hg, h => by
    show f 0 * g 0 = 0
    rw [hg 0 (by omega), Int.mul_zero]
  | n + 1, A + 1, B, f, g, hf, hg, h => by
    show f 0 * g (n + 1) + mul (fun i => f (i + 1)) g n = 0
    rw [mul_high (A := A) (B := B) (fun i hi => hf (i + 1) (by omega)) hg (by omega), hg (n + 1) (by omega), Int.mul_zero]
    rfl
theorem mul_top : ∀ {A B : Nat} {f g : Nat → Int}, (∀ i, A < i → f i = 0) → (∀ i, B < i → g i = 0) → mul f g (A + B) = f A * g B
  | 0, 0, f, g, _, _ => rfl
  | 0, B + 1, f, g, hf, hg => by
    rw [Nat.zero_add]
    show f 0 * g (B + 1) + mul (fun i => f (i + 1)) g B = _
    rw [mul_congr (f' := fun _ => 0) (fun i => hf (i + 1) (by omega)) (fun _ => rfl), zero_mul]; omega
  | A + 1, B, f, g, hf, hg => by
    rw [show A + 1 + B = (A + B) + 1 by omega]
    show f 0 * g (A + B + 1) + mul (fun i => f (i + 1)) g (A + B) = _
    rw [mul_top (fun i hi => hf (i + 1) (by omega)) hg, hg (A + B + 1) (by omega)]
    omega
end Go.Pz
namespace Go.En
open Go.RowKit Go.Nt Go.Pz
abbrev nz (z : Int) : Bool × List Nat := (decide (z < 0), words z.natAbs)
def vals (xs : List (Bool × List Nat)) : List Int := xs.map fun p => zv p.1 p.2
abbrev isP (l : List Int) : VP := SlK 2 zc (l.map nz)
theorem nz_zero : nz 0 = (false, []) := by
 show (decide ((0 : Int) < 0), words (Int.natAbs 0)) = (false, [])
 rw [Int.natAbs_zero, words_zero]; rfl
theorem vals_nz (l : List Int) : vals (l.map nz) = l := by
 unfold vals
 rw [List.map_map]
 conv => rhs; rw [← List.map_id l]
 exact List.map_congr_left fun z _ => zv_nf z
theorem vals_len (xs : List (Bool × List Nat)) : (vals xs).length = xs.length := by unfold vals; rw [List.length_map]
theorem zv_dflt : zv false [] = 0 := by rw [zv_false]; rfl
theorem cf_vals (xs : List (Bool × List Nat)) (i : Nat) : cf (vals xs) i = zv (xs.getD i (false, [])).1 (xs.getD i (false, [])).2 := by
 unfold cf vals
 rw [List.getD, List.getD, List.getElem?_map]
 cases xs[i]? with
 | none => exact zv_dflt.symm
 | some p => rfl
theorem vals_take (xs : List (Bool × List Nat)) (n : Nat) : vals (xs.take n) = (vals xs).take n := by unfold vals; rw [List.map_take]
def fill {β : Type} (l : List β) (i : Nat) (z : β) : List β := l.take i ++ List.replicate (l.length - i) z
theorem fill_zero {β : Type} (l : List β) (z : β) : fill l 0 z = List.replicate l.length z := by simp [fill]
theorem fill_all {β : Type} (l : List β) (z : β) : fill l l.length z = l := by simp [fill]
theorem fill_len {β : Type} (l : List β) (i : Nat) (z : β) (h : i ≤ l.length) : (fill l i z).length = l.length := by
 unfold fill; rw [List.length_append, List.length_take, List.length_replicate]; omega
theorem fill_set {β : Type} (l : List β) (i : Nat) (z x : β) (h : l[i]? = some x) : (fill l i z).set i x = fill l (i + 1) z := by
 have hi : i < l.length := by
  rcases Nat.lt_or_ge i l.length with h1 | h1
  ·exact h1
  ·rw [List.getElem?_eq_none h1] at h; cases h
 rw [List.getElem?_eq_getElem hi] at h
 unfold fill
 rw [List.set_append_right _ _ (by rw [List.length_take]; omega), List.length_take, Nat.min_eq_left (by omega), Nat.sub_self, show l.length - i = (l.length - (i + 1)) + 1 by omega, List.replicate_succ, List.set_cons_zero,
  List.take_succ_eq_append_getElem hi, List.append_assoc, Option.some.inj h]; rfl
section
variable {E : Env} {P : Program} {Γ : Ctx} {M : Mem} {x : Operand}
theorem Has.okP {xs : List (Bool × List Nat)} (h : Has E Γ M x (SlK 2 zc xs)) : ∀ a w F, Sat E Γ M a w F → ∀ p ∈ xs, (∀ y ∈ p.2, y < 18446744073709551616) ∧ p.2.length ≤ 9223372036854775807 := by
 intro a w F s p hp
 obtain ⟨ad, cap, e, g1, g2, g3, g4⟩ := h a w F s
 obtain ⟨i, hi, rfl⟩ := List.mem_iff_getElem.1 hp
 rcases g4 with g4 | ⟨b, off, _, _, vs, hv, _⟩
 ·omega
 ·have hd := (hv.drop (i * 2)).take 2
  rw [flat_drop xs i xs[i] (fun y _ => zc_len y) (List.getElem?_eq_getElem hi)] at hd
  obtain ⟨v, _, ad, cap, e, g1, g2, g3, g4⟩ := hd.get 1 (isWords xs[i].2) rfl
  refine ⟨fun y hy => ?_, by rw [maxLen_eq] at g2; omega⟩
  obtain ⟨j, hj, rfl⟩ := List.mem_iff_getElem.1 hy
  rcases g4 with g4 | ⟨b, off, _, _, us, hu, _⟩
  ·omega
  ·obtain ⟨u, _, h2⟩ := hu.get j (isU xs[i].2[j]) (by simp [hj])
   exact h2.2
end
end Go.En
namespace Go.Pz
theorem cf_tab (n : Nat) (f : Nat → Int) (i : Nat) : cf ((List.range n).map f) i = if i < n then f i else 0 := by
 unfold cf
 rw [List.getD, List.getElem?_map]
 by_cases h : i < n
 ·rw [List.getElem?_range h, if_pos h]; rfl
 ·rw [List.getElem?_eq_none (by simpa using h), if_neg h]; rfl
def both (op : Int → Int → Int) (a b : List Int) : List Int := pnorm ((List.range (max a.length b.length)).map fun i => op (cf a i) (cf b i))
theorem cf_both {op : Int → Int → Int} (h : op 0 0 = 0) (a b : List Int) (i : Nat) : cf (both op a b) i = op (cf a i) (cf b i) := by
 unfold both
 rw [cf_norm, cf_tab]
 split
 ·rfl
 ·rw [cf_high (l := a) (by omega), cf_high (l := b) (by omega), h]
def padd (a b : List Int) : List Int := both (fun x y => x + y) a b
def psub (a b : List Int) : List Int := both (fun x y => x - y) a b
theorem cf_add (a b : List Int) (i : Nat) : cf (padd a b) i = cf a i + cf b i := cf_both (by rfl) a b i
theorem cf_sub (a b : List Int) (i : Nat) : cf (psub a b) i = cf a i - cf b i := cf_both (by rfl) a b i
def pshift (a : List Int) (n : Nat) : List Int := List.replicate n 0 ++ a
theorem cf_shift (a : List Int) (n i : Nat) : cf (pshift a n) i = if i < n then 0 else cf a (i - n) := by
 unfold cf pshift
 rw [List.getD]
 by_cases h : i < n
 ·rw [List.getElem?_append_left (by simpa using h), if_pos h, List.getElem?_replicate, if_pos h]; rfl
 ·rw [List.getElem?_append_right (by simpa using Nat.le_of_not_lt h), if_neg h, List.length_replicate]; rfl
def rows (f g : Nat → Int) : Nat → Nat → Int
 | 0, _ => 0
 | i + 1, n => rows f g i n + if i ≤ n then f i * g (n - i) else 0
theorem rows_front (f g : Nat → Int) : ∀ i n, rows f g (i + 1) (n + 1) = f 0 * g (n + 1) + rows (fun j => f (j + 1)) g i n
  | 0, n => by
    show 0 + (if 0 ≤ n + 1 then f 0 * g (n + 1 - 0) else 0) = f 0 * g (n + 1) + 0
    rw [if_pos (Nat.zero_le _), Int.zero_add, Int.add_zero]; rfl
  | i + 1, n => by
    have h := rows_front f g i n
    show rows f g (i + 1) (n + 1) + (if i + 1 ≤ n + 1 then f (i + 1) * g (n + 1 - (i + 1)) else 0) = f 0 * g (n + 1) + (rows (fun j => f (j + 1)) g i n + if i ≤ n then f (i + 1) * g (n - i) else 0)
    rw [h, Int.add_assoc]
    congr 2
    by_cases hi : i ≤ n
    · rw [if_pos hi, if_pos (by omega), Nat.succ_sub_succ]
    · rw [if_neg hi, if_neg (by omega)]
theorem rows_zero (f g : Nat → Int) : ∀ i, rows f g (i + 1) 0 = f 0 * g 0
  | 0 => by show 0 + (if 0 ≤ 0 then f 0 * g (0 - 0) else 0) = _; rw [if_pos (Nat.le_refl _), Int.zero_add]
  | i + 1 => by
    show rows f g (i + 1) 0 + (if i + 1 ≤ 0 then _ else 0) = _
    rw [rows_zero f g i, if_neg (by omega), Int.add_zero]
theorem mul_rows : ∀ (n : Nat) (f g : Nat → Int), mul f g n = rows f g (n + 1) n
  | 0, f, g => (rows_zero f g 0).symm
  | n + 1, f, g => by
    rw [rows_front, ← mul_rows n]; rfl
theorem rows_more (f g : Nat → Int) {A n : Nat} (h : ∀ i, A ≤ i → i ≤ n → f i = 0) : ∀ d, rows f g (A + d) n = rows f g A n
  | 0 => rfl
  | d + 1 => by
    show rows f g (A + d) n + (if A + d ≤ n then f (A + d) * g (n - (A + d)) else 0) = _
    rw [rows_more f g h d]
    split
    · rename_i hd; rw [h _ (by omega) hd, Int.zero_mul, Int.add_zero]
    · rw [Int.add_zero]
theorem rows_all {f g : Nat → Int} {A : Nat} (h : ∀ i, A ≤ i → f i = 0) (n : Nat) : rows f g A n = mul f g n := by
 rw [mul_rows]
 rcases Nat.le_total A (n + 1) with h1 | h1
 ·have := rows_more f g (n := n) (fun i hi _ => h i hi) (n + 1 - A)
  rw [show A + (n + 1 - A) = n + 1 by omega] at this
  exact this.symm
 ·have := rows_more f g (A := n + 1) (n := n) (fun i hi hn => by omega) (A - (n + 1))
  rwa [show n + 1 + (A - (n + 1)) = A by omega] at this
def pmul (a b : List Int) : List Int := if pnorm a = [] ∨ pnorm b = [] then [] else pnorm ((List.range ((pnorm a).length + (pnorm b).length - 1)).map fun n => mul (cf a) (cf b) n)
theorem high_norm {l : List Int} {i : Nat} (h : (pnorm l).length ≤ i) : cf l i = 0 := by rw [← cf_norm]; exact cf_high h
theorem cf_pmul (a b : List Int) (n : Nat) : cf (pmul a b) n = mul (cf a) (cf b) n := by
 unfold pmul
 split
 ·rename_i h
  rcases h with h | h
  ·rw [mul_congr (f' := fun _ => 0) (norm_nil.1 h) (fun _ => rfl), zero_mul]; rfl
  ·rw [mul_comm, mul_congr (f' := fun _ => 0) (norm_nil.1 h) (fun _ => rfl), zero_mul]; rfl
 ·rename_i h
  rw [cf_norm, cf_tab]
  split
  ·rfl
  ·have h1 : 0 < (pnorm a).length := List.length_pos_iff.2 fun e => h (.inl e)
   exact (mul_high (A := (pnorm a).length) (B := (pnorm b).length) (fun i hi => high_norm hi) (fun i hi => high_norm hi) (by omega)).symm
def rowV (f g : Nat → Int) (i k n : Nat) : Int := rows f g i n + if i ≤ n ∧ n < i + k then f i * g (n - i) else 0
end Go.Pz
namespace Go.Pz
theorem mul_zero (f : Nat → Int) (n : Nat) : mul f (fun _ => 0) n = 0 := by rw [mul_comm, zero_mul]
end Go.Pz
namespace Go.Pz
open Go.Nt Go.En
def Bd (l : List Int) (K : Nat) : Prop := ∀ i, (List.length (words (cf l i).natAbs)) ≤ K
theorem Bd.mono {l : List Int} {K L : Nat} (h : Bd l K) (hk : K ≤ L) : Bd l L := fun i => Nat.le_trans (h i) hk
theorem Bd.nil (K : Nat) : Bd [] K := fun i => by rw [cf_nil, Int.natAbs_zero, words_zero]; exact Nat.zero_le _
theorem Bd.add {a b : List Int} {K : Nat} (h : Bd a K) (k : Bd b K) : Bd (padd a b) (K + 1) := fun i => by
 rw [cf_add]
 have := nz_add (cf a i) (cf b i)
 have := h i
 have := k i
 omega
theorem Bd.sub {a b : List Int} {K : Nat} (h : Bd a K) (k : Bd b K) : Bd (psub a b) (K + 1) := fun i => by
 rw [cf_sub]
 have := nz_sub (cf a i) (cf b i)
 have := h i
 have := k i
 omega
theorem Bd.shift {a : List Int} {K : Nat} (h : Bd a K) (n : Nat) : Bd (pshift a n) K := fun i => by
 rw [cf_shift]
 split
 ·rw [Int.natAbs_zero, words_zero]; exact Nat.zero_le _
 ·exact h _
theorem rows_nw {a b : List Int} {K L : Nat} (h : Bd a K) (k : Bd b L) : ∀ i n, (List.length (words (rows (cf a) (cf b) i n).natAbs)) ≤ K + L + i
  | 0, n => by
    show (List.length (words (Int.natAbs 0))) ≤ _
    rw [Int.natAbs_zero, words_zero]; exact Nat.zero_le _
  | i + 1, n => by
    show (List.length (words (rows (cf a) (cf b) i n + if i ≤ n then cf a i * cf b (n - i) else 0).natAbs)) ≤ _
    have h1 := rows_nw h k i n
    have h2 : (List.length (words (if i ≤ n then cf a i * cf b (n - i) else 0).natAbs)) ≤ K + L := by
      split
      · have := nz_mul (cf a i) (cf b (n - i))
        have := h i
        have := k (n - i)
        omega
      · rw [Int.natAbs_zero, words_zero]; exact Nat.zero_le _
    have := nz_add (rows (cf a) (cf b) i n) (if i ≤ n then cf a i * cf b (n - i) else 0)
    omega
theorem Bd.mul {a b : List Int} {K L : Nat} (h : Bd a K) (k : Bd b L) : Bd (pmul a b) (K + L + a.length) := fun n => by
 rw [cf_pmul, ← rows_all (A := a.length) (fun i hi => cf_high hi)]
 exact rows_nw h k _ _
theorem Bd.raw {xs : List (Bool × List Nat)} {K : Nat} (h : Bd (vals xs) K) (i : Nat) : (List.length (words (val (xs.getD i (false, [])).2))) ≤ K := by
 have := h i
 rwa [cf_vals, zv_nw] at this
end Go.Pz
namespace Go.En
open Go.Nt Go.Pz
def PR (K : Nat) : Type := { p : (Bool × List Nat) × (Bool × List Nat) // (List.length (words (val p.1.2))) ≤ K ∧ (List.length (words (val p.2.2))) ≤ K }
theorem memF_eq {b : Option Nat} {l : List (Bool × List Nat)} {i : Nat} {z x : Bool × List Nat} {r : Mem} (h : l[i]? = some x) : ((b, cellM (((fill l i z).set i x).flatMap zc)) :: r : Mem) = (b, cellM ((fill l (i + 1) z).flatMap zc)) :: r := by rw [fill_set _ _ _ _ h]
theorem memZ_eq {b : Option Nat} {l l' : List (Bool × List Nat)} {r : Mem} (h : l = l') : ((b, cellM (l.flatMap zc)) :: r : Mem) = (b, cellM (l'.flatMap zc)) :: r := h ▸ rfl
theorem getElem_cf {l : List Int} {i : Nat} (h : i < l.length) : l[i]? = some (cf l i) := by
 unfold cf; rw [List.getD, List.getElem?_eq_getElem h]; rfl
theorem fill_done {β : Type} {l : List β} {i n : Nat} {z : β} (h : i = l.length) (hn : n = l.length) : (fill l i z).take n = l := by
 subst h; subst hn; rw [fill_all, List.take_length]
end Go.En
namespace Go.Gf
def ch : Nat → Nat → Nat
 | _, 0 => 1
 | 0, _ + 1 => 0
 | n + 1, k + 1 => ch n k + ch n (k + 1)
def S (a n : Nat) : Nat → Nat
 | 0 => 0
 | m + 1 => S a n m + ch n m * a ^ m
end Go.Gf
namespace Go.Gf
end Go.Gf
namespace Go.Gf
theorem half (y : Nat) {k : Nat} (hk : 0 < k) : y / 2 ^ (k - 1) = 2 * (y / 2 ^ k) + y / 2 ^ (k - 1) % 2 := by
 have : y / 2 ^ k = y / 2 ^ (k - 1) / 2 := by
  rw [Nat.div_div_eq_div_mul, ← Nat.pow_succ]; congr 2; omega
 omega
theorem mul_step0 {x y p k o : Nat} (hk : 0 < k) (h : o = x * (y / 2 ^ k) % p) (hb : ¬ y / 2 ^ (k - 1) % 2 = 1) : 2 * o % p = x * (y / 2 ^ (k - 1)) % p := by
 have e := half y hk
 rw [h, Nat.mul_mod_mod]
 congr 1
 rw [e, show y / 2 ^ (k - 1) % 2 = 0 by omega]; grind
end Go.Gf
namespace Go.Gf
end Go.Gf
namespace Go.Gf
end Go.Gf
namespace Go.Pz
open Go.Gf
theorem first_of {P : Nat → Prop} (h : ¬ ∀ i, P i) : ∃ i, ¬ P i ∧ ∀ k, k < i → P k := by
  obtain ⟨n, hn⟩ : ∃ n, ¬ P n := Classical.byContradiction fun hk => h fun i => Classical.byContradiction fun hi => hk ⟨i, hi⟩
  induction n using Nat.strongRecOn with
  | ind n ih =>
    by_cases hc : ∀ k, k < n → P k
    · exact ⟨n, hn, hc⟩
    · obtain ⟨k, hk⟩ : ∃ k, ¬ (k < n → P k) := Classical.byContradiction fun hk => hc fun i => Classical.byContradiction fun hi => hk ⟨i, hi⟩
      exact ih k (Nat.lt_of_not_le fun hle => hk fun hlt => absurd hlt (by omega)) fun hp => hk fun _ => hp
end Go.Pz
namespace Go.Pz
open Go.Nt Go.En
theorem shift_len (a : List Int) (n : Nat) : (pshift a n).length = n + a.length := by unfold pshift; rw [List.length_append, List.length_replicate]
theorem zv_nz (z : Int) : zv (nz z).1 (nz z).2 = z := zv_nf z
theorem Bd.one {z : Int} {K : Nat} (h : (List.length (words z.natAbs)) ≤ K) : Bd [z] K := fun i => by
 cases i with
 | zero => exact h
 | succ i => rw [cf_succ, cf_nil, Int.natAbs_zero, words_zero]; exact Nat.zero_le _
theorem Bd.cons {z : Int} {l : List Int} {K : Nat} (h : (List.length (words z.natAbs)) ≤ K) (k : Bd l K) : Bd (z :: l) K := fun i => by
 cases i with
 | zero => exact h
 | succ i => exact k i
end Go.Pz
namespace Go.En
open Go.Nt Go.Pz
theorem getZ {l : List Int} {i : Nat} (h : i < l.length) : (l.map nz)[i]? = some (nz (cf l i)) := by rw [List.getElem?_map, getElem_cf h]; rfl
theorem bd64 {l : List Int} (h : ∀ y ∈ l, -9223372036854775808 ≤ y ∧ y < 9223372036854775808) : Bd l 1 := fun i => by
 rcases Nat.lt_or_ge i l.length with hi | hi
 ·have := h (cf l i) (List.mem_of_getElem? (getElem_cf hi))
  exact nw_small' (by omega)
 ·rw [cf_high hi, Int.natAbs_zero, words_zero]; exact Nat.zero_le _
end Go.En
namespace Go.En
open Go.RowKit
section
variable {E : Env} {P : Program} {Γ : Ctx} {M : Mem} {ty : TypeId} {pos : String} {after : Array Edge} {gd : Option (Nat × Bool)} {d : Option Tmp}
 {ops : Array Oper} {Q : Exit → Act → World → Prop} {rest : List Oper} {T T' : TypeId} {x y : Operand} {α : Type} {f : α → VP} {fk : α → List VP} {xs : List α} {k : Nat}
theorem append_none {w : World} {e : TypeId} {inf : TypeInfo} {base b2 : Option Addr} {n c c2 : Nat} (hu : P.underlying T = some (.slice e)) (hi : P.info? e = some inf) (hn : n ≤ c) :
  (Builtin.append_ #[T, T] ty #[.slice base n c, .slice b2 0 c2]).run P w = .ok (.slice base n c) w := by
 cases base <;> cases b2 <;> simp [Builtin.append_, run_underlying hu, sizeOf, typeInfo, hi, Builtin.lenOf, Builtin.firstCells, loadCells, loadCellsFrom, storeCells, hn]
theorem Ops.appendGK0 {d i : Nat} {e : TypeId} {g0 : Bool} {z : Value} {u : α} {g : Gr α} {ys zs : List α} (hk : ∀ y, (fk y).length = k) (hk0 : 0 < k) (h1 : ∀ u, Ones (fk u)) (hT : slB P T = some e) (ht : tyB P e = some (k, g0)) (hz : zeroB P e = some z) (hZ : ∀ w F, All2 (fk u) w F z.cells.toList) (hby : byLe P e 1024 = true)
  (hx : Has E Γ M x (isGr g ys.length)) (hM : M[i]? = some (grMK fk g ys)) (hy : Has E Γ M y (SlK k fk zs)) (hn' : ys.length + zs.length ≤ 4294967296) (hd : Nat.blt d E.n = true)
  (kk : ∀ g' : Gr α, Ops E P ops Q rest ((d, isGr g' (ys.length + zs.length)) :: Γ) (M.set i (grMK fk g' (ys ++ zs)))) :
  Ops E P ops Q (⟨some d, .call ⟨.builtin .append, #[x, y], #[T, T]⟩, ty, pos, after, none⟩ :: rest) Γ M := by
 rcases Nat.eq_zero_or_pos zs.length with h0 | h0
 ·obtain rfl : zs = [] := List.eq_nil_of_length_eq_zero h0
  intro a w F s
  refine wpList_plain rfl fun K hK => ?_
  have hd' : d < E.n := by simpa [Nat.blt_eq] using hd
  obtain ⟨a1, cap, e2, g1, g2, g3, g4⟩ := hy a w F s
  have hu := slB_under hT
  obtain ⟨inf, hi⟩ : ∃ i, P.info? e = some i := by
   unfold byLe at hby
   cases hi : P.info? e with
   | none => simp [hi] at hby
   | some i => exact ⟨i, rfl⟩
  have hset : M.set i (grMK fk g (ys ++ [])) = M := set_self (by rw [hM, List.append_nil])
  have kk1 := kk g
  rw [hset] at kk1
  have hval := hx a w F s
  obtain ⟨base, c, e1, hnc⟩ : ∃ base c, a.eval x = .slice base ys.length c ∧ ys.length ≤ c := by
   rcases hval with ⟨_, hyl, e1⟩ | ⟨b, _, e1, h, _⟩
   ·exact ⟨none, 0, by rw [e1, hyl], by omega⟩
   ·exact ⟨_, _, e1, by omega⟩
  have hr := append_none (P := P) (T := T) (ty := ty) (w := w) (base := base) (b2 := a1) (n := ys.length) (c := c) (c2 := cap) hu hi hnc
  unfold Oper.wp
  have hr2 : (execOp a.eval (⟨some d, .call ⟨.builtin .append, #[x, y], #[T, T]⟩, ty, pos, after, none⟩ : Oper)).run P w = .ok (.value (.slice base ys.length c)) w := by
   simp only [execOp, resolve, invoke, builtin, Sem.run_bind]
   simp [e1, e2, Sem.run_bind, hr]
  rw [hr2]
  refine hK _ _ (kk1 _ _ F (s.put hd' ?_))
  rw [← e1]; exact hval
 ·exact Ops.appendGK hk hk0 h1 hT ht hz hZ hby hx hM hy hn' h0 hd kk
theorem Cv.winGrK {t b n c i : Nat} {ys : List α} (ht : look Γ t = some (isWin b 0 n c)) (hM : M[i]? = some (some b, cellM (xs.flatMap fk))) (hn : n ≤ xs.length) (hc : xs.length = c) (hy : xs.take n = ys) :
  Cv E Γ M ((t, isGr (⟨some b, c, xs.drop n⟩ : Gr α) ys.length) :: Γ) (M.set i (grMK fk ⟨some b, c, xs.drop n⟩ ys)) := by
 have e : ys.length = n := by rw [← hy, List.length_take]; omega
 rw [e, ← hy]
 exact Cv.winGr ht hM hn hc
theorem Cv.winGrM {t b n c i : Nat} {ys : List α} (ht : look Γ t = some (isWin b 0 n c)) (hM : M[i]? = some (some b, cellM (xs.map f))) (hn : n ≤ xs.length) (hc : xs.length = c) (hy : xs.take n = ys) :
    Cv E Γ M ((t, isGr (⟨some b, c, xs.drop n⟩ : Gr α) ys.length) :: Γ) (M.set i (grM f ⟨some b, c, xs.drop n⟩ ys)) := fun a w F s => by
  subst hy
  have e : (xs.take n).length = n := by rw [List.length_take]; omega
  rw [e]
  have hset : M.set i (grM f ⟨some b, c, xs.drop n⟩ (xs.take n)) = M := by
    refine set_self ?_
    rw [hM]; unfold grM; simp only [List.take_append_drop]
  rw [hset]
  refine ⟨F, s.wider fun t' S' ht' => ?_⟩
  simp only [look] at ht'
  cases hb : Nat.beq t t' with
  | false => rw [hb] at ht'; exact s.slots t' S' ht'
  | true =>
    rw [hb] at ht'
    obtain rfl : isGr (⟨some b, c, xs.drop n⟩ : Gr α) n = S' := by simpa using ht'
    obtain rfl := Nat.eq_of_beq_eq_true hb
    obtain ⟨e1, e2, e3⟩ := s.slots _ _ ht
    exact .inr ⟨b, rfl, e1, by show n + (xs.drop n).length = c; rw [List.length_drop]; omega, e3⟩
theorem Cv.freezeGn {t i n : Nat} {g : Gr α} {ys : List α} (hW : E.W = []) (ht : look Γ t = some (isGr g n)) (hM : M[i]? = some (grM f g ys)) (hn : n = ys.length) : Cv E Γ M ((t, SlM f ys) :: Γ) (M.eraseIdx i) := by
 subst hn; exact Cv.freezeG hW ht hM
end
end Go.En
namespace Go.En
open Go.RowKit
section
variable {E : Env} {P : Program} {Γ : Ctx} {M : Mem} {ty : TypeId} {pos : String} {after : Array Edge}
 {ops : Array Oper} {Q : Exit → Act → World → Prop} {rest : List Oper}
theorem any_one {l : List Oper} {i fuel : Nat} {o : Oper} {listed : Array Bool} {a : Act} {w : World} (hr : ∀ j, j ∈ Region.ready .any l.toArray listed → j = i) (hi : i ∈ Region.ready .any l.toArray listed) (ho : l[i]? = some o)
  (hl : wpList P l.toArray Q (o :: rest) a w) (hn : ∀ a w, wpList P l.toArray Q rest a w → wpAny P .any l.toArray Q fuel (listed.setIfInBounds i true) a w) : wpAny P .any l.toArray Q (fuel + 1) listed a w := by
 refine ⟨fun h0 => ?_, fun j hj => ?_⟩
 ·rw [h0] at hi; simp at hi
 ·obtain rfl := hr j hj
  have ho' : l.toArray[j]? = some o := by simpa using ho
  unfold wpOp
  rw [ho']
  simp only []
  unfold wpList at hl
  split
  ·rename_i hw; rw [if_pos hw] at hl; exact hl.imp (Oper.wp_mono hn) id
  ·rename_i hw; rw [if_neg hw] at hl; exact hn _ _ hl
end
end Go.En
namespace Go.Mz
open Go.Pz Go.Nt Go.En
def tab (N C : Nat) (g : Nat → Nat → Int) : List Int := (List.range N).map fun j => g (j / C) (j % C)
theorem tab_len (N C : Nat) (g : Nat → Nat → Int) : (tab N C g).length = N := by unfold tab; rw [List.length_map, List.length_range]
theorem divmod {C i k : Nat} (h : k < C) : (i * C + k) / C = i ∧ (i * C + k) % C = k := by
 have hC : 0 < C := by omega
 constructor
 ·rw [Nat.mul_comm, Nat.mul_add_div hC, Nat.div_eq_of_lt h, Nat.add_zero]
 ·rw [Nat.mul_comm, Nat.mul_add_mod, Nat.mod_eq_of_lt h]
theorem cf_tab' {N C i k : Nat} (g : Nat → Nat → Int) (hk : k < C) (hN : i * C + k < N) : cf (tab N C g) (i * C + k) = g i k := by
 unfold tab
 rw [cf_tab, if_pos hN, (divmod hk).1, (divmod hk).2]
theorem tab_succ {C i k : Nat} (g : Nat → Nat → Int) (hk : k < C) : tab (i * C + k) C g ++ [g i k] = tab (i * C + (k + 1)) C g := by
 unfold tab
 rw [← Nat.add_assoc, List.range_succ, List.map_append, List.map_singleton, (divmod hk).1, (divmod hk).2]
theorem tab_next {C i : Nat} (g : Nat → Nat → Int) : tab (i * C + C) C g = tab ((i + 1) * C + 0) C g := by rw [Nat.add_zero, Nat.succ_mul]
theorem place_lt {R C i k : Nat} (hi : i < R) (hk : k < C) : i * C + k < R * C := by
 have : (i + 1) * C ≤ R * C := Nat.mul_le_mul_right C hi
 rw [Nat.succ_mul] at this; omega
theorem side_le {R C : Nat} (hR : R ≤ 64) (hC : C ≤ 64) : R * C ≤ 4096 := Nat.le_trans (Nat.mul_le_mul hR hC) (by decide)
theorem Bd_tab {N C K : Nat} {g : Nat → Nat → Int} (h : ∀ i k, (List.length (words (g i k).natAbs)) ≤ K) : Bd (tab N C g) K := fun i => by
 unfold Go.Mz.tab
 rw [cf_tab]
 split
 ·exact h _ _
 ·rw [Int.natAbs_zero, words_zero]; exact Nat.zero_le _
def formB (r c : Int) (n : Nat) : Bool := (decide (0 ≤ r) && decide (r ≤ 64)) && (decide (0 ≤ c) && decide (c ≤ 64)) && decide ((n : Int) = r * c)
theorem formB_iff {r c : Int} {n : Nat} : formB r c n = true ↔ ∃ R C : Nat, r = R ∧ c = C ∧ R ≤ 64 ∧ C ≤ 64 ∧ n = R * C := by
 unfold formB
 simp only [Bool.and_eq_true, decide_eq_true_eq]
 constructor
 ·rintro ⟨⟨⟨h1, h2⟩, h3, h4⟩, h5⟩
  refine ⟨r.toNat, c.toNat, by omega, by omega, by omega, by omega, ?_⟩
  have : (n : Int) = (r.toNat * c.toNat : Nat) := by rw [h5, Int.natCast_mul]; congr 1 <;> omega
  omega
 ·rintro ⟨R, C, rfl, rfl, h1, h2, rfl⟩
  exact ⟨⟨⟨by omega, by omega⟩, by omega, by omega⟩, by rw [Int.natCast_mul]⟩
theorem formB_true {R C n : Nat} (h1 : R ≤ 64) (h2 : C ≤ 64) (h : n = R * C) : formB (R : Int) (C : Int) n = true := formB_iff.2 ⟨R, C, rfl, rfl, h1, h2, h⟩
theorem mul_bnd {r c : Int} (h : (0 ≤ r ∧ r ≤ 64) ∧ (0 ≤ c ∧ c ≤ 64)) : 0 ≤ r * c ∧ r * c ≤ 4096 := by
 refine ⟨Int.mul_nonneg h.1.1 h.2.1, ?_⟩
 have h1 : r * c ≤ 64 * c := Int.mul_le_mul_of_nonneg_right h.1.2 h.2.1
 omega
end Go.Mz
namespace Go.En
open Go.Nt Go.Pz Go.Mz
abbrev PI (R C : Nat) : Type := { p : Nat × Nat // p.1 < R ∧ p.2 < C }
abbrev isAt (P : Program) (R C : Nat) (f : Nat → Nat → Bool × List Nat) : VP := isFun (ι := PI R C) P (fun p => [isI (p.1.1 : Int), isI (p.1.2 : Int)]) (fun p => Flat (zc (f p.1.1 p.1.2)))
abbrev isM (r c : Int) (xs : List (Bool × List Nat)) : VP := Flat [isI r, isI c, SlK 2 zc xs]
abbrev isMz (R C : Nat) (L : List Int) : VP := Flat [isI (R : Int), isI (C : Int), isP L]
abbrev ptM (r c : Int) (xs : List (Bool × List Nat)) : VP := PtrL [isI r, isI c, SlK 2 zc xs]
abbrev isM0 : VP := Flat [isI 0, isI 0, SlK 2 zc ([] : List (Bool × List Nat))]
theorem isMz_eq {R C : Nat} {L L' : List Int} (h : L = L') : isMz R C L = isMz R C L' := h ▸ rfl
theorem grF_eq {α : Type} {fk : α → List VP} {g : Gr α} {ys ys' : List α} {n : Nat} {b : Nat} {A B : VP} {r : Mem} (hn : n = ys'.length) (h : ys = ys') : (grMK fk g ys :: (some b, cellM [A, B, isGr g n]) :: r : Mem) = grMK fk g ys' :: (some b, cellM [A, B, isGr g ys'.length]) :: r := by subst h; subst hn; rfl
theorem zvz (f : Nat → Nat → Int) : (fun i k => zv (nz (f i k)).1 (nz (f i k)).2) = f := by funext i k; exact zv_nz _
end Go.En
namespace Go.Hn
open Go.Nt Go.Pz Go.Mz Go.En
def mx2 (x : Int) (p : List Int) (y : Int) (q : List Int) : List Int := (List.range p.length).map fun k => x * cf p k + y * cf q k
theorem mx2_len (x : Int) (p : List Int) (y : Int) (q : List Int) : (mx2 x p y q).length = p.length := by unfold mx2; rw [List.length_map, List.length_range]
theorem cf_mx2 {x : Int} {p : List Int} {y : Int} {q : List Int} (h : q.length = p.length) (k : Nat) : cf (mx2 x p y q) k = x * cf p k + y * cf q k := by
 unfold mx2
 rw [cf_tab]
 split
 ·rfl
 ·rw [cf_high (l := p) (by omega), cf_high (l := q) (by omega)]; omega
theorem Bd_mx2 {x y : Int} {p q : List Int} {A B K L N : Nat} (hx : (List.length (words x.natAbs)) ≤ A) (hp : Bd p K) (hy : (List.length (words y.natAbs)) ≤ B) (hq : Bd q L) (h1 : A + K + 1 ≤ N) (h2 : B + L + 1 ≤ N) : Bd (mx2 x p y q) N := fun k => by
 unfold mx2
 rw [cf_tab]
 split
 ·have e1 := nz_add (x * cf p k) (y * cf q k)
  have e2 := nz_mul x (cf p k)
  have e3 := nz_mul y (cf q k)
  have e4 := hp k
  have e5 := hq k
  omega
 ·rw [Int.natAbs_zero, words_zero]; exact Nat.zero_le _
def xgg (a b : Int) : Int := (Nat.gcd a.natAbs b.natAbs : Nat)
def xgx (a b : Int) : Int := if b = 0 then sgn a else xg a b
def xgy (a b : Int) : Int := if b = 0 then 0 else (xgg a b - xg a b * a).tdiv b
theorem xgg_nn (a b : Int) : 0 ≤ xgg a b := Int.natCast_nonneg _
theorem xgg_zero {a b : Int} : xgg a b = 0 ↔ a = 0 ∧ b = 0 := by
 unfold xgg
 constructor
 ·intro h
  have h1 : Nat.gcd a.natAbs b.natAbs = 0 := by omega
  have := Nat.gcd_eq_zero_iff.1 h1
  omega
 ·rintro ⟨rfl, rfl⟩; rfl
theorem xgg_left (a b : Int) : xgg a b ∣ a := Int.natAbs_dvd_natAbs.1 (by unfold xgg; rw [Int.natAbs_natCast]; exact Nat.gcd_dvd_left _ _)
theorem xgg_right (a b : Int) : xgg a b ∣ b := Int.natAbs_dvd_natAbs.1 (by unfold xgg; rw [Int.natAbs_natCast]; exact Nat.gcd_dvd_right _ _)
theorem xg_dvd {a b : Int} (h : b ≠ 0) : b ∣ xgg a b - xg a b * a := by
 have hc := (cof_all a b).2.1
 rw [(cof_all a b).1] at hc
 show b ∣ ((Nat.gcd a.natAbs b.natAbs : Nat) : Int) - xg a b * a
 unfold xg
 obtain ⟨u, hu⟩ := hc
 have hg := xgg_left a b
 have hg2 := xgg_right a b
 obtain ⟨v, hv⟩ := hg
 obtain ⟨w, hw⟩ := hg2
 have hgp : 0 < xgg a b := by
  have := xgg_nn a b
  rcases Int.lt_or_eq_of_le this with h1 | h1
  ·exact h1
  ·exact absurd (xgg_zero.1 h1.symm).2 h
 change xgg a b - (cof a b 1 0).2 * a = b * u at hu
 show b ∣ xgg a b - (cof a b 1 0).2 % ((b.natAbs : Int) / xgg a b) * a
 generalize (cof a b 1 0).2 = c at *
 generalize hG : xgg a b = g at *
 have e1 : (b.natAbs : Int) / g = (w.natAbs : Int) := by
  have : (b.natAbs : Int) = g * (w.natAbs : Int) := by
   rw [hw, Int.natAbs_mul, Int.natCast_mul]
   rw [show ((g.natAbs : Nat) : Int) = g by omega]
  rw [this, Int.mul_ediv_cancel_left _ (by omega)]
 rw [e1]
 have e2 := Int.emod_add_mul_ediv c (w.natAbs : Int)
 obtain ⟨s, hs⟩ : ∃ s : Int, (w.natAbs : Int) = w * s := by
  rcases Int.natAbs_eq w with h1 | h1
  ·exact ⟨1, by omega⟩
  ·exact ⟨-1, by omega⟩
 refine ⟨u + s * (c / (w.natAbs : Int)) * v, ?_⟩
 have e3 : c % (w.natAbs : Int) = c - w * s * (c / (w.natAbs : Int)) := by rw [hs] at e2 ⊢; omega
 rw [e3]
 generalize c / (w.natAbs : Int) = t
 have hb : b * (u + s * t * v) = b * u + (g * w) * s * t * v := by rw [← hw]; grind
 rw [hb, ← hu]
 have ha : a = g * v := hv
 grind
theorem xg_bezout (a b : Int) : xgx a b * a + xgy a b * b = xgg a b := by
 unfold xgx xgy
 by_cases h : b = 0
 ·rw [if_pos h, if_pos h, h]
  unfold xgg
  rw [show (0 : Int).natAbs = 0 from rfl, Nat.gcd_zero_right]
  rcases sgn_cases a with ⟨e, e2⟩ | ⟨e, e2⟩ | ⟨e, e2⟩ <;> rw [e] <;> omega
 ·rw [if_neg h, if_neg h]
  obtain ⟨q, hq⟩ := xg_dvd (a := a) h
  rw [hq, Int.mul_tdiv_cancel_left _ h]
  have : b * q = q * b := Int.mul_comm _ _
  omega
theorem xgy_ex {a b : Int} (h : b ≠ 0) : (if b ≠ 0 ∧ (xgg a b - xg a b * a).tmod b = 0 then (xgg a b - xg a b * a).tdiv b else 0) = xgy a b := by
 rw [if_pos ⟨h, Int.tmod_eq_zero_of_dvd (xg_dvd h)⟩]
 unfold xgy
 rw [if_neg h]
theorem xgx_nw (a b : Int) {K : Nat} (hb : (List.length (words b.natAbs)) ≤ K) : (List.length (words (xgx a b).natAbs)) ≤ K + 1 := by
 unfold xgx
 split
 ·have : (List.length (words (sgn a).natAbs)) ≤ 1 := nw_small' (by have := sgn_range a; omega)
  omega
 ·rename_i h
  exact Nat.le_trans (nw_mono (xg_le h)) (by omega)
theorem tdiv_abs {x b : Int} {m : Nat} (hb : b ≠ 0) (h : x.natAbs ≤ b.natAbs * m) : (x.tdiv b).natAbs ≤ m := by
 rw [Int.natAbs_tdiv]
 exact Nat.div_le_of_le_mul h
theorem xgy_nw (a b : Int) {K : Nat} (ha : (List.length (words a.natAbs)) ≤ K) : (List.length (words (xgy a b).natAbs)) ≤ K + 2 := by
 unfold xgy
 split
 ·rw [Int.natAbs_zero, words_zero]; exact Nat.zero_le _
 ·rename_i h
  have h1 : ((xgg a b - xg a b * a).tdiv b).natAbs ≤ 1 + a.natAbs := by
   refine tdiv_abs h ?_
   have e1 := Int.natAbs_sub_le (xgg a b) (xg a b * a)
   have e2 : (xgg a b).natAbs ≤ b.natAbs := by unfold xgg; rw [Int.natAbs_natCast]; exact Nat.gcd_le_right _ (by omega)
   rw [Int.natAbs_mul] at e1
   have e3 := Nat.mul_le_mul_right a.natAbs (xg_le (A := a) h)
   rw [Nat.mul_add, Nat.mul_one]
   omega
  refine Nat.le_trans (nw_mono h1) (Nat.le_trans (nw_add_le _ _) ?_)
  have := nw_one
  omega
/-! ### the steps -/
def jn (rs : List (List Int)) (t i col : Nat) : List (List Int) :=
 if xgg (cf (rs.getD t []) col) (cf (rs.getD i []) col) = 0 then rs else
 (rs.set t (mx2 (xgx (cf (rs.getD t []) col) (cf (rs.getD i []) col)) (rs.getD t []) (xgy (cf (rs.getD t []) col) (cf (rs.getD i []) col)) (rs.getD i []))).set i
  (mx2 (-((cf (rs.getD i []) col).tdiv (xgg (cf (rs.getD t []) col) (cf (rs.getD i []) col)))) (rs.getD t []) ((cf (rs.getD t []) col).tdiv (xgg (cf (rs.getD t []) col) (cf (rs.getD i []) col))) (rs.getD i []))
theorem getD_of {α : Type} {l : List α} {i : Nat} {x d : α} (h : l[i]? = some x) : l.getD i d = x := by rw [List.getD, h]; rfl
theorem lt_of_some {α : Type} {l : List α} {i : Nat} {x : α} (h : l[i]? = some x) : i < l.length := by
 rcases Nat.lt_or_ge i l.length with h1 | h1
 ·exact h1
 ·rw [List.getElem?_eq_none h1] at h; cases h
theorem jn_no {rs : List (List Int)} {t i col : Nat} {p q : List Int} (hp : rs[t]? = some p) (hq : rs[i]? = some q) (h : xgg (cf p col) (cf q col) = 0) : jn rs t i col = rs := by
 unfold jn
 rw [getD_of hp, getD_of hq, if_pos h]
theorem jn_go {rs : List (List Int)} {t i col : Nat} {p q : List Int} (hp : rs[t]? = some p) (hq : rs[i]? = some q) (h : ¬ xgg (cf p col) (cf q col) = 0) : jn rs t i col =
  (rs.set t (mx2 (xgx (cf p col) (cf q col)) p (xgy (cf p col) (cf q col)) q)).set i (mx2 (-((cf q col).tdiv (xgg (cf p col) (cf q col)))) p ((cf p col).tdiv (xgg (cf p col) (cf q col))) q) := by
 unfold jn
 rw [getD_of hp, getD_of hq, if_neg h]
def jns (rs : List (List Int)) (t col : Nat) : Nat → List (List Int)
 | 0 => rs
 | n + 1 => jn (jns rs t col n) t (t + 1 + n) col
def rd (rs : List (List Int)) (t i col : Nat) : List (List Int) := rs.set i (mx2 1 (rs.getD i []) (-(cf (rs.getD i []) col / cf (rs.getD t []) col)) (rs.getD t []))
def rds (rs : List (List Int)) (t col : Nat) : Nat → List (List Int)
 | 0 => rs
 | n + 1 => rd (rds rs t col n) t n col
def hsg (rs : List (List Int)) (t col : Nat) : List (List Int) := if cf (rs.getD t []) col < 0 then rs.set t (mx2 (-1) (rs.getD t []) 0 (rs.getD t [])) else rs
structure HS where
 rows : List (List Int)
 top : Nat
def hjs (s : HS) (col : Nat) : List (List Int) := jns s.rows s.top col (s.rows.length - (s.top + 1))
def hcol (s : HS) (col : Nat) : HS := if cf ((hjs s col).getD s.top []) col = 0 then ⟨hjs s col, s.top⟩ else ⟨rds (hsg (hjs s col) s.top col) s.top col s.top, s.top + 1⟩
def hred (s : HS) : Nat → HS
 | 0 => s
 | c + 1 => if (hred s c).top < (hred s c).rows.length then hcol (hred s c) c else hred s c
def row0 (C R : Nat) (L : List Int) (i : Nat) : List Int := (List.range (C + R)).map fun k => if k < C then cf L (i * C + k) else if k = C + i then 1 else 0
def rows0 (C R : Nat) (L : List Int) (n : Nat) : List (List Int) := (List.range n).map (row0 C R L)
def hrm (R C : Nat) (L : List Int) : HS := hred ⟨rows0 C R L R, 0⟩ C
/-! ### sizes -/
theorem jn_len (rs : List (List Int)) (t i col : Nat) : (jn rs t i col).length = rs.length := by unfold jn; split <;> simp
theorem jns_len (rs : List (List Int)) (t col : Nat) : ∀ n, (jns rs t col n).length = rs.length
 | 0 => rfl
 | n + 1 => (jn_len _ _ _ _).trans (jns_len rs t col n)
theorem rd_len (rs : List (List Int)) (t i col : Nat) : (rd rs t i col).length = rs.length := by unfold rd; simp
theorem rds_len (rs : List (List Int)) (t col : Nat) : ∀ n, (rds rs t col n).length = rs.length
 | 0 => rfl
 | n + 1 => (rd_len _ _ _ _).trans (rds_len rs t col n)
theorem hsg_len (rs : List (List Int)) (t col : Nat) : (hsg rs t col).length = rs.length := by unfold hsg; split <;> simp
theorem jns_off {rs : List (List Int)} {t col j : Nat} (hj : j < t) : ∀ n, (jns rs t col n)[j]? = rs[j]?
  | 0 => rfl
  | n + 1 => by
    show (jn _ _ _ _)[j]? = _
    unfold jn
    split
    · exact jns_off hj n
    · rw [List.getElem?_set_ne (by omega), List.getElem?_set_ne (by omega)]; exact jns_off hj n
theorem jns_far {rs : List (List Int)} {t col : Nat} : ∀ {n j : Nat}, t + 1 + n ≤ j → (jns rs t col n)[j]? = rs[j]?
  | 0, _, _ => rfl
  | n + 1, j, hj => by
    show (jn _ _ _ _)[j]? = _
    unfold jn
    split
    · exact jns_far (by omega)
    · rw [List.getElem?_set_ne (by omega), List.getElem?_set_ne (by omega)]; exact jns_far (by omega)
theorem rds_off {rs : List (List Int)} {t col : Nat} : ∀ {n j : Nat}, n ≤ j → (rds rs t col n)[j]? = rs[j]?
  | 0, _, _ => rfl
  | n + 1, j, hj => by
    show (rd _ _ _ _)[j]? = _
    unfold rd
    rw [List.getElem?_set_ne (by omega)]; exact rds_off (by omega)
theorem all_set {α : Type} {P : α → Prop} {l : List α} {i : Nat} {x : α} (h : ∀ r ∈ l, P r) (hx : P x) : ∀ r ∈ l.set i x, P r := fun r hr => by
 rcases List.mem_or_eq_of_mem_set hr with h1 | rfl
 ·exact h r h1
 ·exact hx
theorem all_getD {P : List Int → Prop} {l : List (List Int)} {i : Nat} (h : ∀ r ∈ l, P r) (hi : i < l.length) : P (l.getD i []) := by
 rw [List.getD, List.getElem?_eq_getElem hi]; exact h _ (List.getElem_mem _)
theorem jn_row {rs : List (List Int)} {t i col W : Nat} (h : ∀ r ∈ rs, r.length = W) (ht : t < rs.length) : ∀ r ∈ jn rs t i col, r.length = W := by
 unfold jn
 split
 ·exact h
 ·have e := all_getD h ht
  exact all_set (all_set h (by rw [mx2_len, e])) (by rw [mx2_len, e])
theorem jns_row {rs : List (List Int)} {t col W : Nat} (h : ∀ r ∈ rs, r.length = W) (ht : t < rs.length) : ∀ n, ∀ r ∈ jns rs t col n, r.length = W
 | 0 => h
 | n + 1 => jn_row (jns_row h ht n) (by rw [jns_len]; exact ht)
theorem rds_row {rs : List (List Int)} {t col W : Nat} (h : ∀ r ∈ rs, r.length = W) (ht : t < rs.length) : ∀ n, n ≤ t → ∀ r ∈ rds rs t col n, r.length = W
  | 0, _ => h
  | n + 1, hn => by
    have ih := rds_row h ht (col := col) n (by omega)
    exact all_set ih (by rw [mx2_len]; exact all_getD ih (by rw [rds_len]; omega))
theorem hsg_row {rs : List (List Int)} {t col W : Nat} (h : ∀ r ∈ rs, r.length = W) (ht : t < rs.length) : ∀ r ∈ hsg rs t col, r.length = W := by
 unfold hsg
 split
 ·exact all_set h (by rw [mx2_len]; exact all_getD h ht)
 ·exact h
theorem hcol_len (s : HS) (col : Nat) : (hcol s col).rows.length = s.rows.length := by
 unfold hcol hjs
 split
 ·exact jns_len _ _ _ _
 ·show (rds _ _ _ _).length = _
  rw [rds_len, hsg_len, jns_len]
theorem hcol_top (s : HS) (col : Nat) (h : s.top < s.rows.length) : (hcol s col).top ≤ s.rows.length := by
 unfold hcol
 split
 ·show s.top ≤ _; omega
 ·show s.top + 1 ≤ _; omega
theorem hcol_row {s : HS} {W : Nat} (col : Nat) (h : s.top < s.rows.length) (hr : ∀ r ∈ s.rows, r.length = W) : ∀ r ∈ (hcol s col).rows, r.length = W := by
 unfold hcol hjs
 split
 ·exact jns_row hr h _
 ·exact rds_row (hsg_row (jns_row hr h _) (by rw [jns_len]; exact h)) (by rw [hsg_len, jns_len]; exact h) _ (Nat.le_refl _)
/-! ### how great the numbers get -/
theorem div_nw {a b : Int} (hb : 0 < b) {K : Nat} (h : (List.length (words a.natAbs)) ≤ K) : (List.length (words (a / b).natAbs)) ≤ K := by
 refine Nat.le_trans (nw_mono ?_) h
 have h1 : 0 ≤ a ∨ a < 0 := by omega
 rcases h1 with h1 | h1
 ·have h2 := Int.ediv_le_self (b := b) (a := a) h1
  have h3 := Int.ediv_nonneg h1 (by omega : 0 ≤ b)
  omega
 ·have h2 : a ≤ a / b := by
   rw [Int.le_ediv_iff_mul_le hb]
   have := Int.mul_le_mul_of_nonneg_left (show (1 : Int) ≤ b by omega) (show 0 ≤ -a by omega)
   rw [Int.neg_mul, Int.neg_mul, Int.mul_one] at this
   omega
  have h3 : a / b < 0 := Int.ediv_neg_of_neg_of_pos h1 hb
  omega
theorem mx2_neg {p : List Int} {K : Nat} (h : Bd p K) : Bd (mx2 (-1) p 0 p) K := fun k => by
 unfold mx2
 rw [cf_tab]
 split
 ·rw [show -1 * cf p k + 0 * cf p k = -(cf p k) by omega, Int.natAbs_neg]; exact h k
 ·rw [Int.natAbs_zero, words_zero]; exact Nat.zero_le _
theorem jn_bd {rs : List (List Int)} {t i col P K : Nat} (ht : Bd (rs.getD t []) P) (hi : Bd (rs.getD i []) K) (h : ∀ r ∈ rs, Bd r P) : ∀ r ∈ jn rs t i col, Bd r (P + (K + 3)) := by
 unfold jn
 split
 ·exact fun r hr => (h r hr).mono (by omega)
 ·refine all_set (all_set (fun r hr => (h r hr).mono (by omega)) ?_) ?_
  ·exact Bd_mx2 (xgx_nw _ _ (hi col)) ht (xgy_nw _ _ (ht col)) hi (by omega) (by omega)
  ·refine Bd_mx2 (A := K) (B := P) ?_ ht ?_ hi (by omega) (by omega)
   ·rw [Int.natAbs_neg]; exact Nat.le_trans (nz_tdiv _ _) (hi col)
   ·exact Nat.le_trans (nz_tdiv _ _) (ht col)
theorem getD_bd {rs : List (List Int)} {K : Nat} (h : ∀ r ∈ rs, Bd r K) (i : Nat) : Bd (rs.getD i []) K := by
 rcases Nat.lt_or_ge i rs.length with h1 | h1
 ·exact all_getD h h1
 ·rw [List.getD, List.getElem?_eq_none h1]; exact Bd.nil K
theorem jns_bd {rs : List (List Int)} {t col K : Nat} (h : ∀ r ∈ rs, Bd r K) : ∀ n, ∀ r ∈ jns rs t col n, Bd r (K + n * (K + 3))
  | 0 => fun r hr => (h r hr).mono (by omega)
  | n + 1 => fun r hr => by
    have ih := jns_bd (t := t) (col := col) h n
    have e : (jns rs t col n).getD (t + 1 + n) [] = rs.getD (t + 1 + n) [] := by rw [List.getD, jns_far (Nat.le_refl _)]; rfl
    refine (jn_bd (getD_bd ih t) (by rw [e]; exact getD_bd h _) ih r hr).mono ?_
    rw [Nat.succ_mul]; omega
theorem hsg_bd {rs : List (List Int)} {t col K : Nat} (h : ∀ r ∈ rs, Bd r K) : ∀ r ∈ hsg rs t col, Bd r K := by
 unfold hsg
 split
 ·exact all_set h (mx2_neg (getD_bd h t))
 ·exact h
theorem rds_bd {rs : List (List Int)} {t col K P : Nat} (hb : 0 < cf (rs.getD t []) col) (ht : Bd (rs.getD t []) P) (hl : ∀ i, i < t → Bd (rs.getD i []) K) (hP : ∀ r ∈ rs, Bd r P) (hKP : K ≤ P) : ∀ n, n ≤ t → ∀ r ∈ rds rs t col n, Bd r (P + K + 2)
  | 0, _ => fun r hr => (hP r hr).mono (by omega)
  | n + 1, hn => by
    have ih := rds_bd hb ht hl hP hKP n (by omega)
    have e1 : (rds rs t col n).getD t [] = rs.getD t [] := by rw [List.getD, rds_off (by omega)]; rfl
    have e2 : (rds rs t col n).getD n [] = rs.getD n [] := by rw [List.getD, rds_off (Nat.le_refl _)]; rfl
    show ∀ r ∈ rd _ _ _ _, _
    unfold rd
    rw [e1, e2]
    have hn2 := hl n (by omega)
    have h1 : (List.length (words (1 : Int).natAbs)) ≤ 1 := nw_small' (by decide)
    exact all_set ih (Bd_mx2 (A := 1) (B := K) h1 hn2 (by rw [Int.natAbs_neg]; exact div_nw hb (hn2 col)) ht (by omega) (by omega))
theorem hcol_bd {s : HS} {K : Nat} (col : Nat) (ht : s.top < s.rows.length) (h : ∀ r ∈ s.rows, Bd r K) : ∀ r ∈ (hcol s col).rows, Bd r ((K + 3) * (s.rows.length + 2) - 3) := by
 have hm : (K + 3) * (s.rows.length + 2) = K * s.rows.length + 2 * K + 3 * s.rows.length + 6 := by rw [Nat.add_mul, Nat.mul_add, Nat.mul_add]; omega
 have hm2 : (s.rows.length - (s.top + 1)) * (K + 3) ≤ s.rows.length * (K + 3) := Nat.mul_le_mul_right _ (by omega)
 have hm3 : s.rows.length * (K + 3) = K * s.rows.length + 3 * s.rows.length := by rw [Nat.mul_add, Nat.mul_comm s.rows.length K, Nat.mul_comm s.rows.length 3]
 have hj := jns_bd (t := s.top) (col := col) h (s.rows.length - (s.top + 1))
 unfold hcol hjs
 split
 ·exact fun r hr => (hj r hr).mono (by omega)
 ·rename_i h0
  have hg := hsg_bd (t := s.top) (col := col) hj
  have htj : s.top < (jns s.rows s.top col (s.rows.length - (s.top + 1))).length := by rw [jns_len]; exact ht
  have hpos : 0 < cf ((hsg (jns s.rows s.top col (s.rows.length - (s.top + 1))) s.top col).getD s.top []) col := by
   unfold hsg
   split
   ·rename_i h1
    rw [List.getD, List.getElem?_set_self htj]
    show 0 < cf (mx2 _ _ _ _) col
    rw [cf_mx2 rfl]; omega
   ·rename_i h1; omega
  have hlow : ∀ i, i < s.top → Bd ((hsg (jns s.rows s.top col (s.rows.length - (s.top + 1))) s.top col).getD i []) K := fun i hi => by
   have e : (hsg (jns s.rows s.top col (s.rows.length - (s.top + 1))) s.top col).getD i [] = s.rows.getD i [] := by
    unfold hsg
    split
    ·rw [List.getD, List.getElem?_set_ne (by omega), jns_off hi]; rfl
    ·rw [List.getD, jns_off hi]; rfl
   rw [e]; exact getD_bd h i
  exact fun r hr => (rds_bd hpos (getD_bd hg _) hlow hg (by omega) s.top (Nat.le_refl _) r hr).mono (by omega)
theorem hsg_pos {rs : List (List Int)} {t col : Nat} {p : List Int} (hp : rs[t]? = some p) (h0 : ¬ cf p col = 0) : 0 < cf ((hsg rs t col).getD t []) col := by
 unfold hsg
 rw [getD_of hp]
 split
 ·rw [List.getD, List.getElem?_set_self (lt_of_some hp)]
  show 0 < cf (mx2 _ _ _ _) col
  rw [cf_mx2 rfl]; omega
 ·rw [getD_of hp]; omega
structure HOk (R W K : Nat) (s : HS) : Prop where
 len : s.rows.length = R
 top : s.top ≤ R
 row : ∀ r ∈ s.rows, r.length = W
 bd : ∀ r ∈ s.rows, Bd r K
theorem hred_ok {R W K : Nat} {s : HS} (h : HOk R W K s) : ∀ c, HOk R W ((K + 3) * (R + 2) ^ c - 3) (hred s c)
  | 0 => ⟨h.len, h.top, h.row, fun r hr => (h.bd r hr).mono (by rw [Nat.pow_zero]; omega)⟩
  | c + 1 => by
    have ih := hred_ok h c
    have hp : 1 ≤ (R + 2) ^ c := Nat.one_le_pow _ _ (by omega)
    have hp2 := Nat.mul_le_mul_left (K + 3) hp
    have e : (K + 3) * (R + 2) ^ (c + 1) = (K + 3) * (R + 2) ^ c * (R + 2) := by rw [Nat.pow_succ, Nat.mul_assoc]
    have e2 : (K + 3) * (R + 2) ^ c ≤ (K + 3) * (R + 2) ^ c * (R + 2) := Nat.le_mul_of_pos_right _ (by omega)
    show HOk R W _ (if _ then _ else _)
    split
    · rename_i ht
      refine ⟨(hcol_len _ _).trans ih.len, ?_, hcol_row c ht ih.row, fun r hr => ?_⟩
      · have := hcol_top (hred s c) c ht; rwa [ih.len] at this
      · have := hcol_bd c ht ih.bd r hr
        rw [ih.len] at this
        refine this.mono ?_
        rw [e, show (K + 3) * (R + 2) ^ c - 3 + 3 = (K + 3) * (R + 2) ^ c by omega]
        exact Nat.le_refl _
    · exact ⟨ih.len, ih.top, ih.row, fun r hr => (ih.bd r hr).mono (by omega)⟩
theorem hred_stop {R W K : Nat} {s : HS} (h : HOk R W K s) {c : Nat} : ∀ {C : Nat}, c ≤ C → ¬ (c < C ∧ (hred s c).top < R) → hred s C = hred s c
  | C, hc, hn => by
    by_cases e : c = C
    · rw [e]
    · have ht : ¬ (hred s c).top < R := fun h2 => hn ⟨by omega, h2⟩
      have key : ∀ n, hred s (c + n) = hred s c := by
        intro n
        induction n with
        | zero => rfl
        | succ n ih =>
          show (if (hred s (c + n)).top < (hred s (c + n)).rows.length then hcol (hred s (c + n)) (c + n) else hred s (c + n)) = hred s c
          rw [ih, (hred_ok h c).len, if_neg ht]
      have := key (C - c)
      rwa [show c + (C - c) = C by omega] at this
theorem row0_len (C R : Nat) (L : List Int) (i : Nat) : (row0 C R L i).length = C + R := by unfold row0; rw [List.length_map, List.length_range]
theorem rows0_len (C R : Nat) (L : List Int) (n : Nat) : (rows0 C R L n).length = n := by unfold rows0; rw [List.length_map, List.length_range]
theorem rows0_succ (C R : Nat) (L : List Int) (n : Nat) : rows0 C R L n ++ [row0 C R L n] = rows0 C R L (n + 1) := by unfold rows0; rw [List.range_succ, List.map_append]; rfl
theorem row0_bd {C R K : Nat} {L : List Int} (h : Bd L K) (i : Nat) : Bd (row0 C R L i) (K + 1) := fun k => by
 unfold row0
 rw [cf_tab]
 have h1 : (List.length (words (1 : Int).natAbs)) ≤ 1 := nw_small' (by decide)
 have h0 : (List.length (words (0 : Int).natAbs)) ≤ 0 := by rw [Int.natAbs_zero, words_zero]; exact Nat.le_refl _
 have := h (i * C + k)
 (repeat' split) <;> omega
theorem rows0_ok {R C K : Nat} {L : List Int} (h : Bd L K) : HOk R (C + R) (K + 1) ⟨rows0 C R L R, 0⟩ where
 len := rows0_len _ _ _ _
 top := Nat.zero_le _
 row r hr := by
  obtain ⟨i, _, rfl⟩ := List.mem_map.1 hr
  exact row0_len _ _ _ _
 bd r hr := by
  obtain ⟨i, _, rfl⟩ := List.mem_map.1 hr
  exact row0_bd h i
theorem row0_at {C R : Nat} {L : List Int} {i k : Nat} (h : k < C) : ((row0 C R L i).map nz)[k]? = some (nz (cf L (i * C + k))) := by
 rw [List.getElem?_map]
 unfold row0
 rw [List.getElem?_map, List.getElem?_range (by omega)]
 show some (nz (if k < C then _ else _)) = _
 rw [if_pos h]
theorem row0_fill {C R : Nat} {L : List Int} {i n k : Nat} (hi : i < R) (hk : k = C) (hn : n = C + R) : ((fill ((row0 C R L i).map nz) k (false, [])).set (C + i) (nz 1)).take n = (row0 C R L i).map nz := by
 subst hk
 have hl : ((row0 k R L i).map nz).length = k + R := by rw [List.length_map, row0_len]
 refine List.ext_getElem? fun j => ?_
 rcases Nat.lt_or_ge j (k + R) with hj | hj
 ·rw [List.getElem?_take_of_lt (by omega)]
  have hr : ((row0 k R L i).map nz)[j]? = some (nz (if j < k then cf L (i * k + j) else if j = k + i then 1 else 0)) := by
   rw [List.getElem?_map]
   unfold row0
   rw [List.getElem?_map, List.getElem?_range hj]; rfl
  rw [hr]
  by_cases e : j = k + i
  ·subst e
   rw [List.getElem?_set_self (by rw [fill_len _ _ _ (by omega)]; omega), if_neg (by omega), if_pos rfl]
  ·rw [List.getElem?_set_ne (fun h => e h.symm)]
   unfold fill
   by_cases h2 : j < k
   ·rw [List.getElem?_append_left (by rw [List.length_take]; omega), List.getElem?_take_of_lt h2, hr]
   ·rw [List.getElem?_append_right (by rw [List.length_take]; omega), List.length_take, List.getElem?_replicate, if_pos (by omega), if_neg h2, if_neg e, nz_zero]
 ·rw [List.getElem?_eq_none (by rw [List.length_take]; omega), List.getElem?_eq_none (by omega)]
theorem rd_go {rs : List (List Int)} {t i col : Nat} {r b : List Int} (hr : rs[i]? = some r) (hb : rs[t]? = some b) : rd rs t i col = rs.set i (mx2 1 r (-(cf r col / cf b col)) b) := by unfold rd; rw [getD_of hr, getD_of hb]
/-! ### parts of rows, put together -/
def flatP (lo hi : Nat) (rs : List (List Int)) : List Int := rs.flatMap fun r => (r.take hi).drop lo
theorem flatP_succ {lo hi i : Nat} {rs : List (List Int)} {r : List Int} (h : rs[i]? = some r) : flatP lo hi (rs.take (i + 1)) = flatP lo hi (rs.take i) ++ (r.take hi).drop lo := by
 unfold flatP
 rw [List.take_add_one, h, List.flatMap_append]
 simp
theorem flatP_len {lo hi W : Nat} (h1 : lo ≤ hi) (h2 : hi ≤ W) : ∀ {rs : List (List Int)}, (∀ r ∈ rs, r.length = W) → (flatP lo hi rs).length = rs.length * (hi - lo)
  | [], _ => by simp [flatP]
  | r :: rs, h => by
    have ih := flatP_len h1 h2 (rs := rs) fun r hr => h r (List.mem_cons_of_mem _ hr)
    have hr := h r List.mem_cons_self
    show ((r.take hi).drop lo ++ flatP lo hi rs).length = _
    rw [List.length_append, ih, List.length_drop, List.length_take, List.length_cons, Nat.succ_mul]
    omega
theorem flatP_tab {lo hi W : Nat} {rs : List (List Int)} (h1 : lo ≤ hi) (h2 : hi ≤ W) (h : ∀ r ∈ rs, r.length = W) : flatP lo hi rs = tab (rs.length * (hi - lo)) (hi - lo) fun i k => cf (rs.getD i []) (lo + k) := by
  have key : ∀ n, n ≤ rs.length → flatP lo hi (rs.take n) = tab (n * (hi - lo) + 0) (hi - lo) fun i k => cf (rs.getD i []) (lo + k) := by
    intro n
    induction n with
    | zero => intro _; simp [flatP, tab]
    | succ n ih =>
      intro hn
      have hr := List.getElem?_eq_getElem (show n < rs.length by omega)
      have hW := h rs[n] (List.getElem_mem _)
      rw [List.take_add_one, hr]
      show (rs.take n ++ [rs[n]]).flatMap _ = _
      rw [List.flatMap_append]
      show flatP lo hi (rs.take n) ++ _ = _
      rw [ih (by omega), ← tab_next]
      have e : ∀ m, m ≤ hi - lo → tab (n * (hi - lo) + 0) (hi - lo) (fun i k => cf (rs.getD i []) (lo + k)) ++ ((rs[n].drop lo).take m) = tab (n * (hi - lo) + m) (hi - lo) fun i k => cf (rs.getD i []) (lo + k) := by
        intro m
        induction m with
        | zero => intro _; simp
        | succ m im =>
          intro hm
          rw [← tab_succ _ (show m < hi - lo by omega), ← im (by omega), List.append_assoc, List.take_add_one, List.getElem?_drop, List.getElem?_eq_getElem (by omega)]
          congr 2
          show [_] = [_]
          rw [getD_of hr]
          unfold cf
          rw [List.getD, List.getElem?_eq_getElem (by omega)]; rfl
      have e2 := e (hi - lo) (Nat.le_refl _)
      rw [← e2]
      congr 1
      show (rs[n].take hi).drop lo ++ [] = _
      rw [List.append_nil, List.drop_take]
  have := key rs.length (Nat.le_refl _)
  rwa [List.take_length, Nat.add_zero] at this
end Go.Hn
namespace Go.En
open Go.RowKit
section
variable {E : Env} {P : Program} {Γ : Ctx} {M : Mem} {ty : TypeId} {pos : String} {after : Array Edge}
 {ops : Array Oper} {Q : Exit → Act → World → Prop} {rest : List Oper}
def OKY (E : Env) (P : Program) (Γ : Ctx) (M : Mem) (o : Oper) (S : VP) : Prop :=
 ∀ a w F, Sat E Γ M a w F → ∃ v, (∀ w', (execOp a.eval o).run P w' = .ok (.value v) w') ∧ S.h w F v
theorem OKY.mv {d : Option Tmp} {x : Operand} {S : VP} (h : Has E Γ M x S) : OKY E P Γ M ⟨d, .move x, ty, pos, after, none⟩ S := fun a w F s => ⟨_, fun _ => rfl, h a w F s⟩
theorem OKY.as {d : Option Tmp} {x : Operand} {S : VP} (h : Has E Γ M x S) : OKY E P Γ M ⟨d, .assign x, ty, pos, after, none⟩ S := fun a w F s => ⟨_, fun _ => rfl, h a w F s⟩
theorem OKY.ext {d : Option Tmp} {x : Operand} {Ss : List VP} {S : VP} {i : Nat} (hx : Has E Γ M x (isTup Ss)) (hi : Ss[i]? = some S) : OKY E P Γ M ⟨d, .extract x i, ty, pos, after, none⟩ S := fun a w F s => by
 obtain ⟨vs, e, h⟩ := hx a w F s
 obtain ⟨v, hv, hS⟩ := h.get i S hi
 exact ⟨v, fun w' => by simp only [execOp, e]; simp [Instr.extract, hv, go_sem], hS⟩
theorem OKY.nilc {d : Option Tmp} {x : Operand} {b o : Nat} (h : Has E Γ M x (isPtr b o)) : OKY E P Γ M ⟨d, .nilCheck x, ty, pos, after, none⟩ (isPtr b o) := fun a w F s => by
 have e : a.eval x = .pointer (some ⟨b, o, none⟩) := h a w F s
 exact ⟨.pointer (some ⟨b, o, none⟩), fun w' => by simp only [execOp, e]; rfl, rfl⟩
theorem OK1.nilc {d : Option Tmp} {gd : Option (Nat × Bool)} {x : Operand} {b o : Nat} (h : Has E Γ M x (isPtr b o)) : OK1 E P Γ M ⟨d, .nilCheck x, ty, pos, after, gd⟩ (isPtr b o) := .run fun a w F s => by
 have e : a.eval x = .pointer (some ⟨b, o, none⟩) := h a w F s
 exact ⟨.pointer (some ⟨b, o, none⟩), by simp only [execOp, e]; rfl, rfl⟩
theorem OK1.nilcP {d : Option Tmp} {gd : Option (Nat × Bool)} {x : Operand} {Ss : List VP} (h : Has E Γ M x (PtrL Ss)) : OK1 E P Γ M ⟨d, .nilCheck x, ty, pos, after, gd⟩ (PtrL Ss) := .run fun a w F s => by
 have h1 := h a w F s
 obtain ⟨b, o, e, _⟩ := id h1
 exact ⟨.pointer (some ⟨b, o, none⟩), by simp only [execOp, e]; rfl, e ▸ h1⟩
theorem OKY.fieldAddr {d : Option Tmp} {x : Operand} {b off i o n : Nat} {g : Bool} {T T' : TypeId} (hx : Has E Γ M x (isPtr b off)) (hf : fldB P T i = some (o, T')) (ht : tyB P T' = some (n + 1, g)) :
    OKY E P Γ M ⟨d, .fieldAddr T x i, ty, pos, after, none⟩ (isPtr b (off + o)) := fun a w F s => by
    have h1 : a.eval x = .pointer (some ⟨b, off, none⟩) := hx a w F s
    refine ⟨_, fun w' => ?_, rfl⟩
    unfold fldB at hf
    cases hu : P.underlying T with
    | none => simp [hu] at hf
    | some dd =>
      rw [hu] at hf
      cases dd <;> simp at hf
      rename_i fs
      obtain ⟨f, hf1, hf2, hf3⟩ := hf
      subst hf2 hf3
      simp only [execOp, h1, Instr.fieldAt, Instr.sureAddr, fieldPlace, Sem.run_bind, Sem.run_pure, Result.andThen_ok, run_under hu, run_size ht, hf1]
      simp [add_mk]
def arrOf (n : Nat) (bs : List Nat) : Array Bool := bs.foldl (fun acc i => acc.setIfInBounds i true) (Array.replicate n false)
theorem arrOf_snoc (n : Nat) (bs : List Nat) (i : Nat) : arrOf n (bs ++ [i]) = (arrOf n bs).setIfInBounds i true := by unfold arrOf; rw [List.foldl_append]; rfl
theorem arrOf_size (n : Nat) (bs : List Nat) : (arrOf n bs).size = n := by
 unfold arrOf
 suffices h : ∀ (bs : List Nat) (acc : Array Bool), acc.size = n → (bs.foldl (fun acc i => acc.setIfInBounds i true) acc).size = n by exact h bs _ (by simp)
 intro bs
 induction bs with
 | nil => intro acc h; exact h
 | cons b bs ih => intro acc h; exact ih _ (by simp [h])
def DrB (E : Env) (P : Program) (l : List Oper) (Γ : Ctx) (M : Mem) (Q : Exit → Act → World → Prop) (bs : List Nat) : Prop :=
 ∀ a w F, Sat E Γ M a w F → wpAny P .any l.toArray Q (l.length - bs.length) (arrOf l.length bs) a w
theorem Tri.dry {id : Nat} {l : List Oper} (hm : P.follows .mixedOrders = true) (h : DrB E P l Γ M Q []) : Tri E P (.region id l.toArray true) Γ M Q := by
 intro a w F s
 refine wp_region_any hm ?_
 have := h a _ F (s.adv (Adv.drew w F))
 simpa [arrOf] using this
theorem DrB.take {l : List Oper} {bs : List Nat} {i d : Nat} {o : Oper} {S : VP} (hi : l[i]? = some o) (hd : o.dst = some d) (hg : o.guard = none) (hn : Nat.blt d E.n = true) (hs : Region.noSelect l.toArray = true)
  (hf : Region.free .any l.toArray (arrOf l.length bs) i = true) (hr : (Region.ready .any l.toArray (arrOf l.length bs)).contains i = true) (hl : Nat.blt bs.length l.length = true) (hQ : ∀ c a w v, Q (.panic c) (Act.put a (some d) v) w → Q (.panic c) a w)
  (hok : OKY E P Γ M o S) (k : DrB E P l ((d, S) :: Γ) M Q (bs ++ [i])) : DrB E P l Γ M Q bs := by
 intro a w F s
 obtain ⟨v, hv, hS⟩ := hok a w F s
 have hd' : d < E.n := by simpa [Nat.blt_eq] using hn
 have hl' : bs.length < l.length := by simpa [Nat.blt_eq] using hl
 have hk := k (a.put (some d) v) w F (s.put hd' hS)
 obtain ⟨f, hfu⟩ : ∃ f, l.length - bs.length = f + 1 := ⟨l.length - bs.length - 1, by omega⟩
 rw [hfu]
 refine wpAny_take (i := i) (oi := o) (v := v) (by simpa using hi) hs hf hr (fun c a w h => hQ c a w v (by rw [hd] at h; exact h)) (.inl ⟨by simp [Region.wanted, hg], hv⟩) ?_
 rw [hd, ← arrOf_snoc]
 rw [List.length_append, List.length_singleton, show l.length - (bs.length + 1) = f by omega] at hk
 exact hk
theorem DrB.tk {l : List Oper} {bs : List Nat} {d : Nat} {o : Oper} {S : VP} (i : Nat) (hi : l[i]? = some o) (hd : o.dst = some d) (hg : o.guard = none) (hn : Nat.blt d E.n = true) (hok : OKY E P Γ M o S) (k : DrB E P l ((d, S) :: Γ) M Q (bs ++ [i])) (hs : Region.noSelect l.toArray = true := by kernel_rfl) (hf : Region.free .any l.toArray (arrOf l.length bs) i = true := by kernel_rfl) (hr : (Region.ready .any l.toArray (arrOf l.length bs)).contains i = true := by kernel_rfl) (hl : Nat.blt bs.length l.length = true := by kernel_rfl) (hQ : ∀ c a w v, Q (.panic c) (Act.put a (some d) v) w → Q (.panic c) a w := by exact fun _ _ _ _ h => h) : DrB E P l Γ M Q bs :=
 DrB.take hi hd hg hn hs hf hr hl hQ hok k
def freeB (l : List Oper) (i : Nat) : Bool := match l[i]? with
 | none => false
 | some oi => (List.range l.length).all fun j => j == i || (((masks l [])[i]?).getD 0).testBit j || match l[j]? with
   | some oj => oj.after.any (fun e => Region.binds .any e && e.on == i) || oi.apart l.toArray oj
   | none => true
inductive DrL (E : Env) (P : Program) (l : List Oper) (Γ : Ctx) (M : Mem) (es : List Nat) : List Nat → List VP → Prop
 | nil : DrL E P l Γ M es [] []
 | snoc {i d : Nat} {az : List Nat} {Ss : List VP} {S : VP} {o : Oper} (Δ : Ctx) : DrL E P l Γ M es az Ss → l[i]? = some o → o.dst = some d → Nat.blt d E.n = true →
   (∀ t S, look Δ t = some S → (∃ (k j : Nat) (oj : Oper), az[k]? = some j ∧ (((masks l [])[i]?).getD 0).testBit j = true ∧ l[j]? = some oj ∧ oj.dst = some t ∧ Ss[k]? = some S) ∨ look Γ t = some S) →
   OKG E P l.toArray Δ M o S → (es.contains i = true → OKY E P Δ M o S ∧ o.guard = none) → DrL E P l Γ M es (az ++ [i]) (Ss ++ [S])
theorem DrL.at {l : List Oper} {es az : List Nat} {Ss : List VP} (h : DrL E P l Γ M es az Ss) : Ss.length = az.length ∧ ∀ (k i : Nat), az[k]? = some i → ∃ (o : Oper) (d : Nat) (S : VP) (Δ : Ctx), l[i]? = some o ∧ o.dst = some d ∧ d < E.n ∧ Ss[k]? = some S ∧
    (∀ t S, look Δ t = some S → (∃ (k j : Nat) (oj : Oper), az[k]? = some j ∧ (((masks l [])[i]?).getD 0).testBit j = true ∧ l[j]? = some oj ∧ oj.dst = some t ∧ Ss[k]? = some S) ∨ look Γ t = some S) ∧ OKG E P l.toArray Δ M o S ∧ (es.contains i = true → OKY E P Δ M o S ∧ o.guard = none) := by
  induction h with
  | nil => exact ⟨rfl, fun k i hk => by simp at hk⟩
  | @snoc i d az Ss S o Δ h0 h1 h2 h3 h4 h5 h6 ih =>
    obtain ⟨ih1, ih2⟩ := ih
    have up : ∀ {β : Type} (xs : List β) (x : β) (j : Nat) (T : β), xs[j]? = some T → (xs ++ [x])[j]? = some T := fun xs x j T hT => by
      have : j < xs.length := by
        rcases Nat.lt_or_ge j xs.length with h | h
        · exact h
        · rw [List.getElem?_eq_none h] at hT; cases hT
      rw [List.getElem?_append_left this]; exact hT
    refine ⟨by simp [ih1], fun k i' hk => ?_⟩
    by_cases e : k = az.length
    · subst e
      rw [List.getElem?_append_right (Nat.le_refl _), Nat.sub_self] at hk
      obtain rfl : i = i' := by simpa using hk
      refine ⟨o, d, S, Δ, h1, h2, by simpa [Nat.blt_eq] using h3, by rw [List.getElem?_append_right (by omega)]; simp [ih1], fun t T hT => ?_, h5, h6⟩
      rcases h4 t T hT with ⟨k, j, oj, b0, b1, b2, b3, b4⟩ | h
      · exact .inl ⟨k, j, oj, up _ _ _ _ b0, b1, b2, b3, up _ _ _ _ b4⟩
      · exact .inr h
    · have hkl : k < az.length := by
        rcases Nat.lt_or_ge k az.length with h | h
        · exact h
        · rw [List.getElem?_eq_none (by simp; omega)] at hk; cases hk
      rw [List.getElem?_append_left hkl] at hk
      obtain ⟨o', d', S', Δ', a1, a2, a3, a4, a5, a6⟩ := ih2 k i' hk
      refine ⟨o', d', S', Δ', a1, a2, a3, up _ _ _ _ a4, fun t T hT => ?_, a6⟩
      rcases a5 t T hT with ⟨k, j, oj, b0, b1, b2, b3, b4⟩ | h
      · exact .inl ⟨k, j, oj, up _ _ _ _ b0, b1, b2, b3, up _ _ _ _ b4⟩
      · exact .inr h
def backB (l : List Oper) : Bool := (List.range l.length).all fun i => match l[i]? with
 | none => true
 | some o => o.after.toList.all fun e => !Region.binds .any e || Nat.blt e.on i
def partB (n : Nat) (bs az ts : List Nat) : Bool := (List.range n).all fun i => bs.contains i || az.contains i || ts.contains i
def aheadB (l : List Oper) (az : List Nat) : List Nat → Bool
 | [] => true
 | t :: ts => (az.all fun j => (((masks l [])[t]?).getD 0).testBit j) && aheadB l (az ++ [t]) ts
def disjB (bs az ts : List Nat) : Bool := (ts.all fun t => !bs.contains t && !az.contains t) && (az.all fun t => !bs.contains t)
def nodupB : List Nat → Bool
 | [] => true
 | t :: ts => !ts.contains t && nodupB ts
def inB (n : Nat) (ts : List Nat) : Bool := ts.all fun t => Nat.blt t n
def apartL (l : List Oper) (az : List Nat) (Γ : Ctx) : Bool := az.all fun i => match (l[i]?).bind (·.dst) with
  | none => true
  | some d => (Γ.all fun p => !Nat.beq p.1 d) && az.all fun j => Nat.beq i j || match (l[j]?).bind (·.dst) with
    | none => true
    | some e => !Nat.beq d e
theorem backB_spec {l : List Oper} (h : backB l = true) : ∀ (i : Nat) (o : Oper), l[i]? = some o → ∀ e ∈ o.after, Region.binds .any e = true → e.on < i := by
 intro i o ho e he hb
 have hi : i < l.length := by
  rcases Nat.lt_or_ge i l.length with h' | h'
  ·exact h'
  ·rw [List.getElem?_eq_none h'] at ho; cases ho
 have := List.all_eq_true.1 h i (by simpa using hi)
 rw [ho] at this
 have h2 := List.all_eq_true.1 this e (by simpa using he)
 rw [hb] at h2
 simpa [Nat.blt_eq] using h2
theorem phaseT {l : List Oper} (hback : backB l = true) : ∀ (ts : List Nat) (pre : List Nat), aheadB l pre ts = true → nodupB ts = true → inB l.length ts = true →
    ∀ (fuel : Nat) (listed : Array Bool) (a : Act) (w : World), ts.length ≤ fuel → listed.size = l.length → (∀ j, j < l.length → j ∉ ts → listed.getD j false = true) → (∀ j, j ∈ ts → listed.getD j false = false) → (∀ t ∈ ts, t ∉ pre) →
    Closed l (fun j => listed.getD j false = true) → wpList P l.toArray Q (ts.filterMap fun i => l[i]?) a w → wpAny P .any l.toArray Q fuel listed a w := by
  have hsp := backB_spec hback
  have gd : ∀ (listed : Array Bool) j, j < listed.size → listed.getD j true = listed.getD j false := fun listed j hj => by simp [hj]
  intro ts
  induction ts with
  | nil =>
    intro pre _ _ _ fuel listed a w hf hsz hall _ _ hc hl
    refine wpAny_done ?_ hl fuel
    cases hr : Region.ready .any l.toArray listed with
    | nil => rfl
    | cons j js =>
      have hj : j ∈ Region.ready .any l.toArray listed := by rw [hr]; simp
      rw [mem_ready] at hj
      obtain ⟨g1, o, g2, _⟩ := hj
      have g2' : l[j]? = some o := by simpa using g2
      have hjl : j < l.length := by
        rcases Nat.lt_or_ge j l.length with h' | h'
        · exact h'
        · rw [List.getElem?_eq_none h'] at g2'; cases g2'
      rw [gd listed j (by omega), hall j hjl (by simp)] at g1; cases g1
  | cons t ts ih =>
    intro pre hah hnd hin fuel listed a w hf hsz hall hun hpre hc hl
    simp only [aheadB, Bool.and_eq_true] at hah
    simp only [nodupB, Bool.and_eq_true, Bool.not_eq_true'] at hnd
    simp only [inB, List.all_cons, Bool.and_eq_true] at hin
    have htl : t < l.length := by simpa [Nat.blt_eq] using hin.1
    have htn : t ∉ ts := by have := hnd.1; simpa using this
    obtain ⟨f, rfl⟩ : ∃ f, fuel = f + 1 := ⟨fuel - 1, by simp at hf; omega⟩
    have hot : l[t]? = some l[t] := List.getElem?_eq_getElem htl
    -- what the tail's later ones stand behind
    have later : ∀ (ts' : List Nat) (pre' : List Nat), aheadB l pre' ts' = true → ∀ u ∈ ts', ∀ j ∈ pre', (((masks l [])[u]?).getD 0).testBit j = true := by
      intro ts'
      induction ts' with
      | nil => intro pre' _ u hu; cases hu
      | cons x xs ihx =>
        intro pre' h u hu j hj
        simp only [aheadB, Bool.and_eq_true] at h
        rcases List.mem_cons.1 hu with rfl | hu
        · exact List.all_eq_true.1 h.1 j hj
        · exact ihx _ h.2 u hu j (List.mem_append_left _ hj)
    have honly : ∀ j, j ∈ Region.ready .any l.toArray listed → j = t := by
      intro j hj
      rw [mem_ready] at hj
      obtain ⟨g1, o, g2, g3⟩ := hj
      have g2' : l[j]? = some o := by simpa using g2
      have hjl : j < l.length := by
        rcases Nat.lt_or_ge j l.length with h' | h'
        · exact h'
        · rw [List.getElem?_eq_none h'] at g2'; cases g2'
      refine Classical.byContradiction fun hne => ?_
      have hjt : j ∈ t :: ts := by
        refine Classical.byContradiction fun hno => ?_
        rw [gd listed j (by omega), hall j hjl hno] at g1; cases g1
      have hjts : j ∈ ts := by rcases List.mem_cons.1 hjt with h | h; exact absurd h hne; exact h
      have hbit := later ts _ hah.2 j hjts t (by simp)
      have hmask : j < (masks l []).length := by rw [masks_len]; simpa using hjl
      rw [List.getElem?_eq_getElem hmask] at hbit
      have := reach hc j o g2' g3 t _ (List.getElem?_eq_getElem hmask) (by simpa using hbit)
      have h0 := hun t (by simp)
      have h1 : listed.getD t false = true := this
      rw [h1] at h0; cases h0
    have hready : t ∈ Region.ready .any l.toArray listed := by
      rw [mem_ready]
      refine ⟨by rw [gd listed t (by omega)]; exact hun t (by simp), l[t], by simp [htl], fun e he hb => ?_⟩
      -- an edge of t leads to what is listed
      have hlt := hsp t _ hot e he hb
      refine hall e.on (by omega) fun hmem => ?_
      rcases List.mem_cons.1 hmem with h | h
      · omega
      · -- a later one of the tail would stand behind t, and t behind it
        have hbit := later ts _ hah.2 e.on h t (by simp)
        have hmask : e.on < (masks l []).length := by rw [masks_len]; simp; omega
        rw [List.getElem?_eq_getElem hmask] at hbit
        -- masks lead back
        have hm : ∀ (i : Nat) (m : Nat), (masks l [])[i]? = some m → ∀ j, m.testBit j = true → j < i := by
          intro i m hm j hj
          have hil : i < l.length := by
            rcases Nat.lt_or_ge i l.length with h' | h'
            · exact h'
            · rw [List.getElem?_eq_none (by rw [masks_len]; simp; omega)] at hm; cases hm
          have := reach (l := l) (L := fun j => j < i) (fun i' o' ho' hi' e' he' hb' => Nat.lt_trans (hsp i' o' ho' e' he' hb') hi') i _ (List.getElem?_eq_getElem hil) (fun e' he' hb' => hsp i _ (List.getElem?_eq_getElem hil) e' he' hb') j m hm hj
          exact this
        have := hm e.on _ (List.getElem?_eq_getElem hmask) t (by simpa using hbit)
        omega
    rw [List.filterMap_cons, hot] at hl
    refine any_one (i := t) honly hready hot hl fun a w hl' => ?_
    refine ih (pre ++ [t]) hah.2 hnd.2 hin.2 f _ a w (by simp at hf; omega) (by simp [hsz]) (fun j hj hjn => ?_) (fun j hj => ?_) (fun u hu hmem => ?_) ?_ hl'
    · by_cases e : j = t
      · subst e; simp [hsz, htl]
      · exact getD_set_true (hall j hj (by simp [e, hjn]))
    · have hne : t ≠ j := fun e => htn (e ▸ hj)
      rw [getD_set_ne false hne]; exact hun j (by simp [hj])
    · rcases List.mem_append.1 hmem with h | h
      · exact hpre u (by simp [hu]) h
      · obtain rfl : u = t := by simpa using h
        exact htn hu
    · intro i o ho hL e he hb
      by_cases ei : i = t
      · subst ei
        rw [mem_ready] at hready
        obtain ⟨_, o', ho', hall'⟩ := hready
        have h1 : l[i]? = some o' := by simpa using ho'
        rw [ho] at h1; obtain rfl := Option.some.inj h1
        exact getD_set_true (hall' e he hb)
      · exact getD_set_true (hc i o ho (by
          have hL' : (listed.setIfInBounds t true).getD i false = true := hL
          rwa [getD_set_ne false (fun h => ei h.symm)] at hL') e he hb)
def DoneL (l : List Oper) (az : List Nat) (Ss : List VP) (L : Nat → Prop) (a : Act) (w : World) (F : Blk) : Prop :=
 ∀ (k j : Nat) (o : Oper) (d : Nat) (S : VP), az[k]? = some j → L j → l[j]? = some o → o.dst = some d → Ss[k]? = some S → S.h w F (a.tmps.getD d undef)
def dctxL (l : List Oper) : List Nat → List VP → Ctx
  | i :: az, S :: Ss => match (l[i]?).bind (·.dst) with
    | some d => (d, S) :: dctxL l az Ss
    | none => dctxL l az Ss
  | _, _ => []
theorem look_dctxL {l : List Oper} : ∀ (az : List Nat) (Ss : List VP) (t : Nat) (S : VP), look (dctxL l az Ss) t = some S → ∃ (k j : Nat) (o : Oper), az[k]? = some j ∧ l[j]? = some o ∧ o.dst = some t ∧ Ss[k]? = some S
  | [], Ss, t, S, h => by simp [dctxL, look] at h
  | i :: az, [], t, S, h => by simp [dctxL, look] at h
  | i :: az, S0 :: Ss, t, S, h => by
    simp only [dctxL] at h
    cases hd : (l[i]?).bind (·.dst) with
    | none => rw [hd] at h; obtain ⟨k, j, o, a, b, c, d⟩ := look_dctxL az Ss t S h; exact ⟨k + 1, j, o, by simpa using a, b, c, by simpa using d⟩
    | some dd =>
      rw [hd] at h
      simp only [look] at h
      cases hb : Nat.beq dd t with
      | false => rw [hb] at h; obtain ⟨k, j, o, a, b, c, d⟩ := look_dctxL az Ss t S h; exact ⟨k + 1, j, o, by simpa using a, b, c, by simpa using d⟩
      | true =>
        rw [hb] at h; simp at h; subst h
        obtain rfl := Nat.eq_of_beq_eq_true hb
        cases ho : l[i]? with
        | none => rw [ho] at hd; cases hd
        | some o => rw [ho] at hd; exact ⟨0, i, o, rfl, ho, by simpa using hd, rfl⟩
theorem nodup_at : ∀ {az : List Nat}, nodupB az = true → ∀ {k k' j : Nat}, az[k]? = some j → az[k']? = some j → k = k'
  | [], _, k, k', j, h, _ => by simp at h
  | a :: az, hn, k, k', j, h, h' => by
    simp only [nodupB, Bool.and_eq_true, Bool.not_eq_true'] at hn
    have hna : a ∉ az := by have := hn.1; simpa using this
    cases k with
    | zero =>
      cases k' with
      | zero => rfl
      | succ k' =>
        exfalso
        have e : a = j := by simpa using h
        exact hna (e ▸ List.mem_of_getElem? (show az[k']? = some j by simpa using h'))
    | succ k =>
      cases k' with
      | zero =>
        exfalso
        have e : a = j := by simpa using h'
        exact hna (e ▸ List.mem_of_getElem? (show az[k]? = some j by simpa using h))
      | succ k' => rw [nodup_at hn.2 (show az[k]? = some j by simpa using h) (show az[k']? = some j by simpa using h')]
def eagerB (l : List Oper) (es az ts : List Nat) : Bool := es.all fun i => az.contains i && freeB l i && match l[i]? with
 | none => true
 | some o => o.after.toList.all fun e => !Region.binds .any e || !ts.contains e.on
theorem phaseL {l : List Oper} {bs es az ts : List Nat} {Ss : List VP} (hD : DrL E P l Γ M es az Ss) (hsel : Region.noSelect l.toArray = true) (heg : eagerB l es az ts = true) (hQ : ∀ c a w d v, Q (.panic c) (Act.put a (some d) v) w → Q (.panic c) a w) (hap : apartL l az Γ = true) (hback : backB l = true) (hpart : partB l.length bs az ts = true) (hdis : disjB bs az ts = true) (hah : aheadB l (az.filter fun i => !es.contains i) ts = true) (hnd : nodupB ts = true) (hna : nodupB az = true) (hin : inB l.length ts = true)
    (k : Ops E P l.toArray Q (ts.filterMap fun i => l[i]?) (dctxL l az Ss ++ Γ) M) :
    ∀ (fuel : Nat) (listed : Array Bool) (a : Act) (w : World) (F : Blk), listed.toList.countP (· == false) ≤ fuel → listed.size = l.length → (∀ j, j ∈ bs → j < l.length → listed.getD j false = true) → (∀ j, j ∈ ts → listed.getD j false = false) →
    Closed l (fun j => listed.getD j false = true) → Sat E Γ M a w F → DoneL l az Ss (fun j => listed.getD j false = true) a w F → wpAny P .any l.toArray Q fuel listed a w := by
  obtain ⟨hlen, hat⟩ := hD.at
  have hsp := backB_spec hback
  have gd : ∀ (listed : Array Bool) j, j < listed.size → listed.getD j true = listed.getD j false := fun listed j hj => by simp [hj]
  have hcase : ∀ i, i < l.length → i ∈ bs ∨ i ∈ az ∨ i ∈ ts := by
    intro i hi
    have := List.all_eq_true.1 hpart i (by simpa using hi)
    simp only [Bool.or_eq_true, List.contains_iff_mem] at this
    rcases this with (h | h) | h
    · exact .inl h
    · exact .inr (.inl h)
    · exact .inr (.inr h)
  simp only [disjB, Bool.and_eq_true, List.all_eq_true, Bool.not_eq_true', Bool.and_eq_true] at hdis
  have hta : ∀ t ∈ ts, t ∉ az := fun t ht => by have := (hdis.1 t ht).2; simpa using this
  have hapart : ∀ i d, i ∈ az → (l[i]?).bind (·.dst) = some d → (∀ t S, look Γ t = some S → t ≠ d) ∧ ∀ j e, j ∈ az → j ≠ i → (l[j]?).bind (·.dst) = some e → e ≠ d := by
    intro i d hi hd
    have h1 := List.all_eq_true.1 hap i hi
    rw [hd] at h1
    simp only [Bool.and_eq_true] at h1
    refine ⟨look_none h1.1, fun j e hj hne he => ?_⟩
    have h2 := List.all_eq_true.1 h1.2 j hj
    rw [he] at h2
    simp only [Bool.or_eq_true, Bool.not_eq_true'] at h2
    rcases h2 with h2 | h2
    · exact absurd (Nat.eq_of_beq_eq_true h2).symm hne
    · exact fun e' => Nat.ne_of_beq_eq_false h2 e'.symm
  have later : ∀ (ts' : List Nat) (pre' : List Nat), aheadB l pre' ts' = true → ∀ u ∈ ts', ∀ j ∈ pre', (((masks l [])[u]?).getD 0).testBit j = true := by
    intro ts'
    induction ts' with
    | nil => intro pre' _ u hu; cases hu
    | cons x xs ihx =>
      intro pre' h u hu j hj
      simp only [aheadB, Bool.and_eq_true] at h
      rcases List.mem_cons.1 hu with rfl | hu
      · exact List.all_eq_true.1 h.1 j hj
      · exact ihx _ h.2 u hu j (List.mem_append_left _ hj)
  have hfin : ∀ (listed : Array Bool) (a : Act) (w : World) (F : Blk), listed.size = l.length → (∀ j, j ∈ bs → j < l.length → listed.getD j false = true) → (∀ j, j ∈ ts → listed.getD j false = false) → (∀ j, j ∈ az → j < l.length → listed.getD j false = true) →
      Closed l (fun j => listed.getD j false = true) → Sat E Γ M a w F → DoneL l az Ss (fun j => listed.getD j false = true) a w F → ∀ fuel, listed.toList.countP (· == false) ≤ fuel → wpAny P .any l.toArray Q fuel listed a w := by
    intro listed a w F hsz hb ht ha hc s hdone fuel hcnt
    refine phaseT hback ts _ hah hnd hin fuel listed a w ?_ hsz (fun j hj hn => ?_) ht (fun t ht hm => hta t ht (List.mem_filter.1 hm).1) hc (k a w F (s.wider ?_))
    · -- the tail's places are all unlisted
      refine Nat.le_trans ?_ hcnt
      have hinj : ∀ (ts' : List Nat), nodupB ts' = true → inB l.length ts' = true → (∀ j, j ∈ ts' → listed.getD j false = false) → ts'.length ≤ listed.toList.countP (· == false) := by
        intro ts' hnd' hin' hun'
        have e : listed.toList.countP (· == false) = ((List.range l.length).filter fun i => listed.getD i true == false).length := by
          rw [← List.countP_eq_length_filter]
          have : listed.toList = (List.range l.length).map fun i => listed.getD i true := by
            apply List.ext_getElem
            · simp [hsz]
            · intro i h1 h2
              have hi : i < listed.size := by simpa using h1
              simp [hi]
          rw [this, List.countP_map]; rfl
        rw [e]
        have hsub : ts' ⊆ (List.range l.length).filter fun i => listed.getD i true == false := by
          intro j hj
          have hjl : j < l.length := by
            have := List.all_eq_true.1 hin' j hj
            simpa [Nat.blt_eq] using this
          rw [List.mem_filter]
          refine ⟨by simpa using hjl, ?_⟩
          rw [gd listed j (by omega), hun' j hj]; rfl
        have hnodup : ts'.Nodup := by
          clear hun' hsub hin'
          induction ts' with
          | nil => exact List.nodup_nil
          | cons x xs ih =>
            simp only [nodupB, Bool.and_eq_true, Bool.not_eq_true'] at hnd'
            exact List.nodup_cons.2 ⟨by have := hnd'.1; simpa using this, ih hnd'.2⟩
        exact hnodup.length_le_of_subset hsub
      exact hinj ts hnd hin ht
    · rcases hcase j hj with h | h | h
      · exact hb j h hj
      · exact ha j h hj
      · exact absurd h hn
    · intro t S hlook
      rw [look_append] at hlook
      cases hl : look (dctxL l az Ss) t with
      | none => rw [hl] at hlook; exact s.slots t S (by simpa using hlook)
      | some S' =>
        rw [hl] at hlook
        obtain rfl : S' = S := by simpa using hlook
        obtain ⟨k', j, o, h1, h2, h3, h4⟩ := look_dctxL _ _ _ _ hl
        have hjl : j < l.length := by
          rcases Nat.lt_or_ge j l.length with h' | h'
          · exact h'
          · rw [List.getElem?_eq_none h'] at h2; cases h2
        exact hdone k' j o t S' h1 (ha j (List.mem_of_getElem? h1) hjl) h2 h3 h4
  intro fuel
  induction fuel with
  | zero =>
    intro listed a w F hcnt hsz hb ht hc s hdone
    refine hfin listed a w F hsz hb ht (fun j hj hjl => ?_) hc s hdone 0 hcnt
    have h0 : listed.toList.countP (· == false) = 0 := by omega
    rw [List.countP_eq_zero] at h0
    have hlt : j < listed.size := by omega
    have := h0 listed[j] (by simp)
    simp [hlt]
    simpa using this
  | succ fuel ih =>
    intro listed a w F hcnt hsz hb ht hc s hdone
    have hupd : ∀ (i ki : Nat) (o : Oper) (d : Nat) (S : VP), l[i]? = some o → i ∈ az → az[ki]? = some i → o.dst = some d → d < E.n → Ss[ki]? = some S → listed.getD i true = false → (∀ e ∈ o.after, Region.binds .any e = true → listed.getD e.on false = true) →
        ∀ v w' F', Adv w F w' F' → S.h w' F' v → wpAny P .any l.toArray Q fuel (listed.setIfInBounds i true) (a.put (some d) v) w' := by
      intro i ki o d S g2' hias hki a2 a3 a4 g1 g3 v w' F' ad hv
      have hil : i < l.length := by
        rcases Nat.lt_or_ge i l.length with h' | h'
        · exact h'
        · rw [List.getElem?_eq_none h'] at g2'; cases g2'
      have hbind : (l[i]?).bind (·.dst) = some d := by rw [g2']; exact a2
      obtain ⟨ap1, ap2⟩ := hapart i d hias hbind
      have s1 := s.adv ad
      refine ih _ _ w' F' ?_ (by simp [hsz]) (fun j hj hjl => getD_set_true (hb j hj hjl)) (fun j hj => ?_) ?_ (s1.putOut a3 v ap1) ?_
      · have hlt : i < listed.toList.length := by simp; omega
        have hli : listed.toList[i] = false := by
          have : i < listed.size := by omega
          simp [this] at g1; simpa using g1
        rw [Array.toList_setIfInBounds, List.countP_set hlt]
        rw [hli]
        have hpos : 0 < listed.toList.countP (· == false) := List.countP_pos_iff.2 ⟨false, by rw [← hli]; exact List.getElem_mem _, rfl⟩
        simp only [beq_self_eq_true, if_true]
        show _ - 1 + 0 ≤ fuel
        omega
      · have hne : i ≠ j := fun e => hta j hj (e ▸ hias)
        rw [getD_set_ne false hne]; exact ht j hj
      · intro j oj hj hL e he hbb
        by_cases ek : j = i
        · subst ek
          rw [g2'] at hj; obtain rfl := Option.some.inj hj
          exact getD_set_true (g3 e he hbb)
        · exact getD_set_true (hc j oj hj (by
            have hL' : (listed.setIfInBounds i true).getD j false = true := hL
            rwa [getD_set_ne false (fun h => ek h.symm)] at hL') e he hbb)
      · intro k' j oj dj Sj hkj hL hj hdj hSj
        rw [getD_put (by rw [s1.size]; exact a3)]
        by_cases ek : j = i
        · subst ek
          rw [g2'] at hj; obtain rfl := Option.some.inj hj
          rw [a2] at hdj; obtain rfl := Option.some.inj hdj
          rw [if_pos rfl]
          obtain rfl := nodup_at hna hkj hki
          rw [a4] at hSj; obtain rfl := Option.some.inj hSj
          exact hv
        · have hjas : j ∈ az := List.mem_of_getElem? hkj
          have hne := ap2 j dj hjas ek (by rw [hj]; exact hdj)
          rw [if_neg (fun e => hne e.symm)]
          refine Sj.mono _ _ _ _ _ (hdone k' j oj dj Sj hkj ?_ hj hdj hSj) (ad.same s.flt) ad.sub
          have hL' : (listed.setIfInBounds i true).getD j false = true := hL
          rwa [getD_set_ne false (fun h => ek h.symm)] at hL'
    have hctx : ∀ (i : Nat) (o : Oper) (Δ : Ctx), l[i]? = some o → i < l.length → (∀ e ∈ o.after, Region.binds .any e = true → listed.getD e.on false = true) →
        (∀ t S, look Δ t = some S → (∃ (k j : Nat) (oj : Oper), az[k]? = some j ∧ (((masks l [])[i]?).getD 0).testBit j = true ∧ l[j]? = some oj ∧ oj.dst = some t ∧ Ss[k]? = some S) ∨ look Γ t = some S) → Sat E Δ M a w F := by
      intro i o Δ g2' hil g3 a6
      have hmask : i < (masks l []).length := by rw [masks_len]; simpa using hil
      exact s.wider (fun t S' hlk => by
        rcases a6 t S' hlk with ⟨k', j, oj, b00, b0, b1, b2, b3⟩ | h
        · rw [List.getElem?_eq_getElem hmask] at b0
          exact hdone k' j oj t S' b00 (reach hc i o g2' g3 j _ (List.getElem?_eq_getElem hmask) (by simpa using b0)) b1 b2 b3
        · exact s.slots t S' h)
    by_cases heag : ∃ e, e ∈ es ∧ e ∈ Region.ready .any l.toArray listed
    · -- one that reads no memory is ready: it is taken
      obtain ⟨i, hie, hir⟩ := heag
      have hi0 := hir
      rw [mem_ready] at hi0
      obtain ⟨g1, o, g2, g3⟩ := hi0
      have g2' : l[i]? = some o := by simpa using g2
      have hil : i < l.length := by
        rcases Nat.lt_or_ge i l.length with h' | h'
        · exact h'
        · rw [List.getElem?_eq_none h'] at g2'; cases g2'
      have he1 := List.all_eq_true.1 heg i hie
      simp only [Bool.and_eq_true] at he1
      have hias : i ∈ az := List.contains_iff_mem.1 he1.1.1
      obtain ⟨ki, hki⟩ := List.mem_iff_getElem?.1 hias
      obtain ⟨o', d, S, Δ, a1, a2, a3, a4, a6, a7, a8⟩ := hat ki i hki
      rw [g2'] at a1; obtain rfl := Option.some.inj a1
      obtain ⟨hy, hgd⟩ := a8 (List.contains_iff_mem.2 hie)
      obtain ⟨v, hv, hS⟩ := hy a w F (hctx i o Δ g2' hil g3 a6)
      have hfr : ∀ j oj, l.toArray[j]? = some oj → j ≠ i → listed.getD j true = false → (∀ e ∈ oj.after, Region.binds .any e = true → e.on ≠ i) → o.apart l.toArray oj = true := by
        intro j oj hj hne hun hno
        have hj' : l[j]? = some oj := by simpa using hj
        have hjl : j < l.length := by
          rcases Nat.lt_or_ge j l.length with h' | h'
          · exact h'
          · rw [List.getElem?_eq_none h'] at hj'; cases hj'
        have hf := he1.1.2
        unfold freeB at hf
        rw [g2'] at hf
        have h1 := List.all_eq_true.1 hf j (by simpa using hjl)
        rw [hj'] at h1
        simp only [Bool.or_eq_true, beq_iff_eq, hne, false_or] at h1
        rcases h1 with h1 | h1 | h1
        · exfalso
          have hmask : i < (masks l []).length := by rw [masks_len]; simpa using hil
          rw [List.getElem?_eq_getElem hmask] at h1
          have := reach hc i o g2' g3 j _ (List.getElem?_eq_getElem hmask) (by simpa using h1)
          rw [gd listed j (by omega)] at hun
          have h3 : listed.getD j false = true := this
          rw [h3] at hun; cases hun
        · obtain ⟨e, he, hb'⟩ := Array.any_eq_true'.1 h1
          simp only [Bool.and_eq_true, beq_iff_eq] at hb'
          exact absurd hb'.2 (hno e he hb'.1)
        · exact h1
      refine wpAny_first g2 (Region.noSelect_spec hsel) (fun c a w h => hQ c a w d v (by rw [a2] at h; exact h)) fuel listed a w hfr hir (.inl ⟨by simp [Region.wanted, hgd], hv⟩) ?_
      rw [a2]
      exact hupd i ki o d S g2' hias hki a2 a3 a4 g1 g3 v w F (Adv.refl _ _) hS
    by_cases hall : ∀ j, j ∈ az → j < l.length → listed.getD j false = true
    · exact hfin listed a w F hsz hb ht hall hc s hdone _ hcnt
    · have hex : ∃ j, j < l.length ∧ listed.getD j true = false := by
        refine Classical.byContradiction fun hno => hall fun j hj hjl => ?_
        rw [← gd listed j (by omega)]
        cases hbb : listed.getD j true with
        | true => rfl
        | false => exact absurd ⟨j, hjl, hbb⟩ hno
      refine ⟨fun hr => ?_, fun i hi => ?_⟩
      · obtain ⟨j, ⟨hj1, hj2⟩, hmin⟩ := exists_least hex
        have : j ∈ Region.ready .any l.toArray listed := by
          rw [mem_ready]
          refine ⟨hj2, l[j], by simp [hj1], fun e he hbb => ?_⟩
          have hlt := hsp j _ (List.getElem?_eq_getElem hj1) e he hbb
          cases hb2 : listed.getD e.on true with
          | true => rw [gd listed e.on (by omega)] at hb2; exact hb2
          | false => have := hmin e.on ⟨by omega, hb2⟩; omega
        rw [hr] at this; simp at this
      · have hi' := hi
        rw [mem_ready] at hi
        obtain ⟨g1, o, g2, g3⟩ := hi
        have g2' : l[i]? = some o := by simpa using g2
        have hil : i < l.length := by
          rcases Nat.lt_or_ge i l.length with h' | h'
          · exact h'
          · rw [List.getElem?_eq_none h'] at g2'; cases g2'
        have hmask : i < (masks l []).length := by rw [masks_len]; simpa using hil
        have hias : i ∈ az := by
          rcases hcase i hil with h | h | h
          · rw [gd listed i (by omega), hb i h hil] at g1; cases g1
          · exact h
          · exfalso
            have hna' : ∀ j, j ∈ az → j < l.length → es.contains j = false → listed.getD j false = true := by
              intro j hj hjl hje
              have hbit := later ts _ hah i h j (List.mem_filter.2 ⟨hj, by rw [hje]; rfl⟩)
              rw [List.getElem?_eq_getElem hmask] at hbit
              exact reach hc i o g2' g3 j _ (List.getElem?_eq_getElem hmask) (by simpa using hbit)
            refine hall fun j hj hjl => ?_
            refine Classical.byContradiction fun hno => ?_
            -- the least of the eager ones that are not listed is ready
            have hex2 : ∃ q, (q ∈ az ∧ q < l.length) ∧ listed.getD q false = false := ⟨j, ⟨hj, hjl⟩, by cases hbb : listed.getD j false with | true => exact absurd hbb hno | false => rfl⟩
            obtain ⟨q, ⟨⟨hq1, hq2⟩, hq3⟩, hqmin⟩ := exists_least hex2
            have hqe : es.contains q = true := by
              cases hbb : es.contains q with
              | true => rfl
              | false => rw [hna' q hq1 hq2 hbb] at hq3; cases hq3
            have hqe' := List.contains_iff_mem.1 hqe
            refine heag ⟨q, hqe', ?_⟩
            rw [mem_ready]
            refine ⟨by rw [gd listed q (by omega)]; exact hq3, l[q], by simp [hq2], fun e he hbb => ?_⟩
            have hlt := hsp q _ (List.getElem?_eq_getElem hq2) e he hbb
            have he1 := List.all_eq_true.1 heg q hqe'
            simp only [Bool.and_eq_true] at he1
            have he2 := he1.2
            rw [List.getElem?_eq_getElem hq2] at he2
            have he3 := List.all_eq_true.1 he2 e (by simpa using he)
            rw [hbb] at he3
            simp only [Bool.not_true, Bool.false_or, Bool.not_eq_true'] at he3
            rcases hcase e.on (by omega) with h' | h' | h'
            · exact hb e.on h' (by omega)
            · cases hb2 : listed.getD e.on false with
              | true => rfl
              | false => have := hqmin e.on ⟨⟨h', by omega⟩, hb2⟩; omega
            · rw [List.contains_iff_mem.2 h'] at he3; cases he3
        obtain ⟨ki, hki⟩ := List.mem_iff_getElem?.1 hias
        obtain ⟨o', d, S, Δ, a1, a2, a3, a4, a6, a7, _⟩ := hat ki i hki
        rw [g2'] at a1; obtain rfl := Option.some.inj a1
        have hstep := a7 a w F (hctx i o Δ g2' hil g3 a6) (wpAny P .any l.toArray Q fuel (listed.setIfInBounds i true)) Q
        have hgo : ∀ v w' F', Adv w F w' F' → S.h w' F' v → wpAny P .any l.toArray Q fuel (listed.setIfInBounds i true) (a.put o.dst v) w' := by
          intro v w' F' ad hv
          rw [a2]
          exact hupd i ki o d S g2' hias hki a2 a3 a4 g1 g3 v w' F' ad hv
        have hres := hstep hgo
        unfold wpOp
        have ho : l.toArray[i]? = some o := by simpa using g2'
        rw [ho]
        exact hres
def DrC (E : Env) (P : Program) (l : List Oper) (Γ : Ctx) (M : Mem) (Q : Exit → Act → World → Prop) (es bs az : List Nat) (Θ : Ctx) : Prop :=
 ∀ Ss, DrL E P l Γ M es az Ss → (∀ t S, look Θ t = some S → ∃ (k j : Nat) (o : Oper), az[k]? = some j ∧ l[j]? = some o ∧ o.dst = some t ∧ Ss[k]? = some S) → DrB E P l Γ M Q bs
theorem DrB.go {l : List Oper} {bs : List Nat} (es : List Nat) (h : DrC E P l Γ M Q es bs [] []) : DrB E P l Γ M Q bs := h [] .nil (fun t S ht => by simp [look] at ht)
def behindL (l : List Oper) (i : Nat) (az ts : List Nat) : Bool :=
 let m := ((masks l [])[i]?).getD 0
 az.all fun j => m.testBit j || match (l[j]?).bind (·.dst) with
  | none => true
  | some d => ts.all fun t => !Nat.beq d t
theorem OKY.g {o : Oper} {S : VP} (hg : o.guard = none) (h : OKY E P Γ M o S) : OKG E P ops Γ M o S := OKG.o hg (.run fun a w F s => by
 obtain ⟨v, hv, hS⟩ := h a w F s
 exact ⟨v, hv w, hS⟩)
theorem DrC.stE {i d : Nat} {l : List Oper} {es bs az : List Nat} {Θ : Ctx} {S : VP} {o : Oper} (ts : List Nat) (h1 : l[i]? = some o) (h2 : o.dst = some d) (h3 : Nat.blt d E.n = true)
    (h4 : behindL l i az ts = true) (h5 : OKG E P l.toArray (keepc ts Θ ++ Γ) M o S) (h6 : es.contains i = true → OKY E P (keepc ts Θ ++ Γ) M o S ∧ o.guard = none) (k : DrC E P l Γ M Q es bs (az ++ [i]) ((d, S) :: Θ)) : DrC E P l Γ M Q es bs az Θ := by
  intro Ss hD hΘ
  obtain ⟨hlen, _⟩ := hD.at
  have up : ∀ {β : Type} (xs : List β) (x : β) (j : Nat) (T : β), xs[j]? = some T → (xs ++ [x])[j]? = some T := fun xs x j T hT => by
    have : j < xs.length := by
      rcases Nat.lt_or_ge j xs.length with h | h
      · exact h
      · rw [List.getElem?_eq_none h] at hT; cases hT
    rw [List.getElem?_append_left this]; exact hT
  refine k (Ss ++ [S]) (.snoc _ hD h1 h2 h3 (fun t S' ht => ?_) h5 h6) (fun t S' ht => ?_)
  · rw [look_append] at ht
    cases hl : look (keepc ts Θ) t with
    | none => rw [hl] at ht; exact .inr (by simpa using ht)
    | some S'' =>
      rw [hl] at ht
      obtain rfl : S'' = S' := by simpa using ht
      obtain ⟨hm, hl2⟩ := look_keepc _ _ _ hl
      obtain ⟨k', j, oj, b0, b1, b2, b3⟩ := hΘ t S'' hl2
      refine .inl ⟨k', j, oj, b0, ?_, b1, b2, b3⟩
      have := List.all_eq_true.1 h4 j (List.mem_of_getElem? b0)
      rw [b1] at this
      simp only [Option.bind_some, b2, Bool.or_eq_true] at this
      rcases this with h | h
      · exact h
      · have := List.all_eq_true.1 h t hm
        simp [Nat.beq_refl] at this
  · simp only [look] at ht
    cases hb : Nat.beq d t with
    | true =>
      rw [hb] at ht; simp at ht; subst ht
      obtain rfl := Nat.eq_of_beq_eq_true hb
      exact ⟨az.length, i, o, by simp, h1, h2, by rw [List.getElem?_append_right (by omega)]; simp [hlen]⟩
    | false =>
      rw [hb] at ht
      obtain ⟨k', j, oj, b0, b1, b2, b3⟩ := hΘ t S' ht
      exact ⟨k', j, oj, up _ _ _ _ b0, b1, b2, up _ _ _ _ b3⟩
theorem DrC.st {i d : Nat} {l : List Oper} {es bs az : List Nat} {Θ : Ctx} {S : VP} {o : Oper} (ts : List Nat) (h1 : l[i]? = some o) (h2 : o.dst = some d) (h3 : Nat.blt d E.n = true)
  (h4 : behindL l i az ts = true) (h0 : es.contains i = false) (h5 : OKG E P l.toArray (keepc ts Θ ++ Γ) M o S) (k : DrC E P l Γ M Q es bs (az ++ [i]) ((d, S) :: Θ)) : DrC E P l Γ M Q es bs az Θ :=
 DrC.stE ts h1 h2 h3 h4 h5 (fun h => by rw [h0] at h; cases h) k
theorem DrC.s {d : Nat} {l : List Oper} {es bs az : List Nat} {Θ : Ctx} {S : VP} {o : Oper} (i : Nat) (ts : List Nat) (h1 : l[i]? = some o) (h2 : o.dst = some d) (h3 : Nat.blt d E.n = true) (h5 : OKG E P l.toArray (keepc ts Θ ++ Γ) M o S) (k : DrC E P l Γ M Q es bs (az ++ [i]) ((d, S) :: Θ)) (h4 : behindL l i az ts = true := by kernel_rfl) (h0 : es.contains i = false := by kernel_rfl) : DrC E P l Γ M Q es bs az Θ :=
 DrC.st ts h1 h2 h3 h4 h0 h5 k
theorem DrC.ea {i d : Nat} {l : List Oper} {es bs az : List Nat} {Θ : Ctx} {S : VP} {o : Oper} (ts : List Nat) (h1 : l[i]? = some o) (h2 : o.dst = some d) (h3 : Nat.blt d E.n = true)
  (h4 : behindL l i az ts = true) (hg : o.guard = none) (h5 : OKY E P (keepc ts Θ ++ Γ) M o S) (k : DrC E P l Γ M Q es bs (az ++ [i]) ((d, S) :: Θ)) : DrC E P l Γ M Q es bs az Θ :=
 DrC.stE ts h1 h2 h3 h4 (OKY.g hg h5) (fun _ => ⟨h5, hg⟩) k
def takenB (l : List Oper) (bs : List Nat) : Bool := (bs.all fun i => match l[i]? with
    | none => true
    | some o => o.after.toList.all fun e => !Region.binds .any e || bs.contains e.on) &&
  ((List.range l.length).all fun i => (arrOf l.length bs).getD i false == bs.contains i) && Nat.ble ((arrOf l.length bs).toList.countP (· == false)) (l.length - bs.length)
theorem DrC.fin {l : List Oper} {es bs az : List Nat} {Θ : Ctx} (ts : List Nat) (hsel : Region.noSelect l.toArray = true) (heg : eagerB l es az ts = true) (hQ : ∀ c a w d v, Q (.panic c) (Act.put a (some d) v) w → Q (.panic c) a w) (htk : takenB l bs = true) (hap : apartL l az Γ = true) (hback : backB l = true) (hpart : partB l.length bs az ts = true) (hdis : disjB bs az ts = true) (hah : aheadB l (az.filter fun i => !es.contains i) ts = true) (hnd : nodupB ts = true) (hna : nodupB az = true) (hin : inB l.length ts = true)
    (k : Ops E P l.toArray Q (ts.filterMap fun i => l[i]?) (Θ ++ Γ) M) : DrC E P l Γ M Q es bs az Θ := by
  intro Ss hD hΘ a w F s
  simp only [takenB, Bool.and_eq_true] at htk
  obtain ⟨⟨t1, t2⟩, t3⟩ := htk
  have hlist : ∀ i, i < l.length → ((arrOf l.length bs).getD i false = true ↔ i ∈ bs) := fun i hi => by
    have := List.all_eq_true.1 t2 i (by simpa using hi)
    have h2 : (arrOf l.length bs).getD i false = bs.contains i := by simpa using this
    rw [h2, List.contains_iff_mem]
  have hsz := arrOf_size l.length bs
  have hout : ∀ i, l.length ≤ i → (arrOf l.length bs).getD i false = false := fun i hi => by
    have : ¬ i < (arrOf l.length bs).size := by omega
    simp [this]
  have hsame : ∀ t S, look (Θ ++ Γ) t = some S → look (dctxL l az Ss ++ Γ) t = some S := by
    intro t S ht
    rw [look_append] at ht
    rw [look_append]
    have hdl : ∀ i d, i ∈ az → (l[i]?).bind (·.dst) = some d → (∀ t S, look Γ t = some S → t ≠ d) ∧ ∀ j e, j ∈ az → j ≠ i → (l[j]?).bind (·.dst) = some e → e ≠ d := by
      intro i d hi hd
      have h1 := List.all_eq_true.1 hap i hi
      rw [hd] at h1
      simp only [Bool.and_eq_true] at h1
      refine ⟨look_none h1.1, fun j e hj hne he => ?_⟩
      have h2 := List.all_eq_true.1 h1.2 j hj
      rw [he] at h2
      simp only [Bool.or_eq_true, Bool.not_eq_true'] at h2
      rcases h2 with h2 | h2
      · exact absurd (Nat.eq_of_beq_eq_true h2).symm hne
      · exact fun e' => Nat.ne_of_beq_eq_false h2 e'.symm
    cases hl : look Θ t with
    | none =>
      rw [hl] at ht
      have ht' : look Γ t = some S := by simpa using ht
      have hno : look (dctxL l az Ss) t = none := by
        cases hd : look (dctxL l az Ss) t with
        | none => rfl
        | some S' =>
          obtain ⟨k', j, o, b0, b1, b2, b3⟩ := look_dctxL _ _ _ _ hd
          exact absurd rfl ((hdl j t (List.mem_of_getElem? b0) (by rw [b1]; exact b2)).1 t S ht')
      rw [hno]; simpa using ht'
    | some S' =>
      rw [hl] at ht
      obtain rfl : S' = S := by simpa using ht
      obtain ⟨k', j, o, b0, b1, b2, b3⟩ := hΘ t S' hl
      have hex : ∀ (as' : List Nat) (Ss' : List VP) (k : Nat), as'[k]? = some j → Ss'[k]? = some S' → nodupB as' = true → (∀ j', j' ∈ as' → j' ≠ j → (l[j']?).bind (·.dst) ≠ some t) → look (dctxL l as' Ss') t = some S' := by
        intro as'
        induction as' with
        | nil => intro Ss' k h; simp at h
        | cons x as' ih =>
          intro Ss' k h1 h2 hn h3
          simp only [nodupB, Bool.and_eq_true, Bool.not_eq_true'] at hn
          have hxn : x ∉ as' := by have := hn.1; simpa using this
          cases Ss' with
          | nil => simp at h2
          | cons T Ss' =>
            cases k with
            | zero =>
              have e1 : x = j := by simpa using h1
              have e2 : T = S' := by simpa using h2
              subst e1; subst e2
              simp only [dctxL, b1, Option.bind_some, b2, look, Nat.beq_refl]
            | succ k =>
              have hjm : j ∈ as' := List.mem_of_getElem? (show as'[k]? = some j by simpa using h1)
              have hxj : x ≠ j := fun e => hxn (e ▸ hjm)
              have hrec := ih Ss' k (by simpa using h1) (by simpa using h2) hn.2 (fun j' hj' hne => h3 j' (by simp [hj']) hne)
              have h0 := h3 x (by simp) hxj
              simp only [dctxL]
              cases hd : (l[x]?).bind (·.dst) with
              | none => exact hrec
              | some d' =>
                simp only [look]
                have hne : Nat.beq d' t = false := by
                  cases hb : Nat.beq d' t with
                  | false => rfl
                  | true => exact absurd (by rw [hd, Nat.eq_of_beq_eq_true hb]) h0
                rw [hne]; exact hrec
      have hlk := hex az Ss k' b0 b3 hna (fun j' hj' hne he' => (hdl j t (List.mem_of_getElem? b0) (by rw [b1]; exact b2)).2 j' t hj' hne he' rfl)
      rw [hlk]; rfl
  refine phaseL (bs := bs) hD hsel heg hQ hap hback hpart hdis hah hnd hna hin (fun a w F s => k a w F (s.wider fun t S ht => s.slots t S (hsame t S ht))) _ _ a w F (Nat.le_of_ble_eq_true t3) hsz (fun j hj hjl => (hlist j hjl).2 hj) (fun j hj => ?_) ?_ s ?_
  · rcases Nat.lt_or_ge j l.length with h | h
    · cases hb : (arrOf l.length bs).getD j false with
      | false => rfl
      | true =>
        exfalso
        simp only [disjB, Bool.and_eq_true, List.all_eq_true, Bool.not_eq_true'] at hdis
        have := (hdis.1 j hj).1
        have hm := (hlist j h).1 hb
        rw [← List.contains_iff_mem, this] at hm; cases hm
    · exact hout j h
  · intro i o ho hL e he hb
    have hil : i < l.length := by
      rcases Nat.lt_or_ge i l.length with h' | h'
      · exact h'
      · rw [List.getElem?_eq_none h'] at ho; cases ho
    have hib := (hlist i hil).1 hL
    have := List.all_eq_true.1 t1 i hib
    rw [ho] at this
    have h2 := List.all_eq_true.1 this e (by simpa using he)
    rw [hb] at h2
    simp only [Bool.not_true, Bool.false_or] at h2
    have hlt := backB_spec hback i o ho e he hb
    exact (hlist e.on (by omega)).2 (List.contains_iff_mem.1 h2)
  · intro k' j o d S hkj hL hj hd hS
    have hjl : j < l.length := by
      rcases Nat.lt_or_ge j l.length with h' | h'
      · exact h'
      · rw [List.getElem?_eq_none h'] at hj; cases hj
    have hjb := (hlist j hjl).1 hL
    exfalso
    simp only [disjB, Bool.and_eq_true, List.all_eq_true, Bool.not_eq_true'] at hdis
    have := hdis.2 j (List.mem_of_getElem? hkj)
    rw [← List.contains_iff_mem, this] at hjb; cases hjb
end
end Go.En
namespace Go.En
open Go.RowKit
section
variable {E : Env} {P : Program} {Γ : Ctx} {M : Mem} {ty : TypeId} {pos : String} {after : Array Edge} {gd : Option (Nat × Bool)} {d : Option Tmp}
 {ops : Array Oper} {Q : Exit → Act → World → Prop} {rest : List Oper} {T T' : TypeId} {x y : Operand} {α : Type} {f : α → VP} {fk : α → List VP} {xs : List α} {k : Nat}
def isPtrG (g : Gr α) (o : Nat) : VP := .pure fun v => ∃ b, g.ob = some b ∧ v = .pointer (some ⟨b, o, none⟩)
instance {g : Gr α} {o : Nat} : One (isPtrG g o) := ⟨fun w F v h => by obtain ⟨b, _, rfl⟩ := h; rfl⟩
instance {g : Gr α} {o : Nat} : Shape (isPtrG g o) [isPtrG g o] := .of_one inferInstance
theorem Has.ptrG {g : Gr α} {o b : Nat} (hob : g.ob = some b) (h : Has E Γ M x (isPtrG g o)) : Has E Γ M x (isPtr b o) := fun a w F s => by
 obtain ⟨b', hb, e⟩ := h a w F s
 obtain rfl : b = b' := by rw [hob] at hb; exact Option.some.inj hb
 exact e
theorem Has.winG {g : Gr α} {n b : Nat} (hob : g.ob = some b) (h : Has E Γ M x (isGr g n)) : Has E Γ M x (isWin b 0 n g.c) := fun a w F s => by
 rcases h a w F s with ⟨h0, _⟩ | ⟨b', hb, e, h1, h2⟩
 ·rw [hob] at h0; cases h0
 ·obtain rfl : b = b' := by rw [hob] at hb; exact Option.some.inj hb
  exact ⟨e, by omega, h2⟩
theorem noneG {g : Gr α} {n : Nat} (hob : g.ob = none) (h : Has E Γ M x (isGr g n)) : ∀ a w F, Sat E Γ M a w F → n = 0 := fun a w F s => by
 rcases h a w F s with ⟨_, h0, _⟩ | ⟨b', hb, _⟩
 ·exact h0
 ·rw [hob] at hb; cases hb
theorem OK1.ixGr {e : TypeId} {n m : Nat} {g : Gr α} {g0 : Bool} {z : Int} (hT : slB P T = some e) (ht : tyB P e = some (m, g0)) (hx : Has E Γ M x (isGr g n)) (hy : Has E Γ M y (isI z)) (h : 0 ≤ z ∧ z < n) :
    OK1 E P Γ M ⟨d, .indexAddr T x y, ty, pos, after, gd⟩ (isPtrG g (z.toNat * m)) := by
  cases hob : g.ob with
  | none =>
    intro a w F s
    have := noneG hob hx a w F s
    omega
  | some b =>
    intro a w F s K Q' hK
    refine OK1.ixWin hT ht (hx.winG hob) hy h a w F s K Q' fun v w' F' ad hv => hK v w' F' ad ?_
    refine ⟨b, hob, ?_⟩
    rw [show z.toNat * m = 0 + z.toNat * m by omega]
    exact hv
theorem OK1.absurdG {o : Oper} {S : VP} {g : Gr α} {j : Nat} (hob : g.ob = none) (hx : Has E Γ M x (isPtrG g j)) : OK1 E P Γ M o S := fun a w F s => by
 obtain ⟨b, hb, _⟩ := hx a w F s
 rw [hob] at hb; cases hb
theorem Ops.absurdG {g : Gr α} {j : Nat} (hob : g.ob = none) (hx : Has E Γ M x (isPtrG g j)) {l : List Oper} : Ops E P ops Q l Γ M := fun a w F s => by
 obtain ⟨b, hb, _⟩ := hx a w F s
 rw [hob] at hb; cases hb
theorem OK1.loadGK {i j : Nat} {g : Gr α} {ys : List α} {y' : α} (hk : ∀ y, (fk y).length = k) (hx : Has E Γ M x (isPtrG g (j * k))) (hM : M[i]? = some (grMK fk g ys)) (hT : tyB P T = some (k, true)) (hS : ys[j]? = some y') :
    OK1 E P Γ M ⟨d, .load T x, ty, pos, after, gd⟩ (Flat (fk y')) := by
  cases hob : g.ob with
  | none => exact OK1.absurdG hob hx
  | some b =>
    refine OK1.loadK (xs := ys ++ g.sp) (i := i) hk (hx.ptrG hob) (by rw [hM]; unfold grMK; rw [hob]) hT ?_
    have hj : j < ys.length := by
      rcases Nat.lt_or_ge j ys.length with h | h
      · exact h
      · rw [List.getElem?_eq_none h] at hS; cases hS
    rw [List.getElem?_append_left hj]; exact hS
theorem OK1.loadGM {i j : Nat} {g : Gr α} {ys : List α} {y' : α} (hx : Has E Γ M x (isPtrG g (j * 1))) (hM : M[i]? = some (grM f g ys)) (hT : tyB P T = some (1, false)) (hS : ys[j]? = some y') :
    OK1 E P Γ M ⟨d, .load T x, ty, pos, after, gd⟩ (f y') := by
  cases hob : g.ob with
  | none => exact OK1.absurdG hob hx
  | some b =>
    rw [Nat.mul_one] at hx
    refine OK1.load1 (i := i) (hx.ptrG hob) (Ss := (ys ++ g.sp).map f) (by rw [hM]; unfold grM; rw [hob]) hT ?_
    have hj : j < ys.length := by
      rcases Nat.lt_or_ge j ys.length with h | h
      · exact h
      · rw [List.getElem?_eq_none h] at hS; cases hS
    rw [List.getElem?_map, List.getElem?_append_left hj, hS]; rfl
theorem Ops.storeGK {i j : Nat} {g0 : Bool} {T : TypeId} {S : VP} {g : Gr α} {ys : List α} {z : α} [sh : Shape S (fk z)] [o1 : Ones (fk z)] (hk : ∀ y, (fk y).length = k) (hx : Has E Γ M x (isPtrG g (j * k))) (hy : Has E Γ M y S)
    (hM : M[i]? = some (grMK fk g ys)) (hT : tyB P T = some (k, g0)) (hl : j < ys.length) {M' : Mem} (hM' : M.set i (grMK fk g (ys.set j z)) = M') (kk : Ops E P ops Q rest Γ M') : Ops E P ops Q (⟨none, .store T x y, ty, pos, after, none⟩ :: rest) Γ M := by
  cases hob : g.ob with
  | none => exact Ops.absurdG hob hx
  | some b =>
    refine .storeK (z := z) (xs := ys ++ g.sp) (i := i) (b := b) (j := j) hk (hx.ptrG hob) hy (by rw [hM]; unfold grMK; rw [hob]) hT (by rw [List.length_append]; omega) (M' := M') ?_ kk
    rw [← hM']
    congr 1
    unfold grMK
    rw [hob, List.set_append_left _ _ hl]
theorem Ops.storeGM {i j : Nat} {T : TypeId} {g : Gr α} {ys : List α} {z : α} [sh : Shape (f z) [f z]] [o1 : One (f z)] (hx : Has E Γ M x (isPtrG g (j * 1))) (hy : Has E Γ M y (f z))
    (hM : M[i]? = some (grM f g ys)) (hT : tyB P T = some (1, false)) (hl : j < ys.length) {M' : Mem} (hM' : M.set i (grM f g (ys.set j z)) = M') (kk : Ops E P ops Q rest Γ M') : Ops E P ops Q (⟨none, .store T x y, ty, pos, after, none⟩ :: rest) Γ M := by
  cases hob : g.ob with
  | none => exact Ops.absurdG hob hx
  | some b =>
    rw [Nat.mul_one] at hx
    refine .storeM (z := z) (xs := ys ++ g.sp) (i := i) (b := b) (off := j) (hx.ptrG hob) hy (by rw [hM]; unfold grM; rw [hob]) hT (by rw [List.length_append]; omega) (M' := M') ?_ kk
    rw [← hM']
    congr 1
    unfold grM
    rw [hob, List.set_append_left _ _ hl]
def nilP : VP := .pure fun v => v = .pointer none
instance : One nilP := ⟨fun w F v h => by rw [show v = .pointer none from h]; rfl⟩
instance : Shape nilP [nilP] := .of_one inferInstance
theorem Has.cP : Has E Γ M (.const (.pointer none)) nilP := fun _ _ _ _ => rfl
theorem Tri.drhS {id : Nat} {l : List Oper} {Ms : Mem} (hs : Ms.Sublist M) (h : DrH E P id l Γ M Ms Q 0 []) : Tri E P (.region id l.toArray true) Γ M Q := h [] .nil (fun t S ht => by simp [look] at ht)
theorem Cv.perm {M' : Mem} (h : M.Perm M') : Cv E Γ M Γ M' := fun a w F s =>
 ⟨F, { s with mem := ⟨(h.pairwise_iff (fun {x y} hxy => by
  rcases hxy with h1 | h1
  ·by_cases h2 : y.1 = none
   ·exact .inl h2
   ·exact .inr (fun e => h2 (e.trans h1))
  ·exact .inr (fun e => h1 e.symm))).1 s.mem.apart, fun b C hb => s.mem.each b C (h.mem_iff.2 hb)⟩ }⟩
/-! ### functions over memory of their caller's -/
structure MemIn (M : Mem) (w : World) (F : Blk) : Prop where
 apart : M.Pairwise (fun x y => x.1 = none ∨ x.1 ≠ y.1)
 each : ∀ (b : Nat) (C : MP), (some b, C) ∈ M → b < w.heap.size ∧ ¬ F b ∧ ∃ o, w.heap[b]? = some o ∧ C.h w F o
def blks (M : Mem) : List Nat := M.filterMap (·.1)
theorem mem_blks {M : Mem} {b : Nat} : b ∈ blks M ↔ ∃ C, (some b, C) ∈ M := by
 unfold blks
 rw [List.mem_filterMap]
 constructor
 ·rintro ⟨⟨k, C⟩, h1, h2⟩
  obtain rfl : k = some b := h2
  exact ⟨C, h1⟩
 ·rintro ⟨C, h⟩; exact ⟨_, h, rfl⟩
def RetX (w : World) (F : Blk) (W : List Nat) (R : VP → Mem → Prop) : Ending → World → Prop := fun e w' => ∃ v S M' F', e = .returned v ∧ R S M' ∧ Keep W w w' ∧ (∀ k, F k → F' k) ∧ (∀ k, F' k → fresh F w w' k) ∧ S.h w' F' v ∧
 M'.Pairwise (fun x y => x.1 = none ∨ x.1 ≠ y.1) ∧ ∀ (b : Nat) (C : MP), (some b, C) ∈ M' → (w.heap.size ≤ b ∨ b ∈ W) ∧ b < w'.heap.size ∧ ¬ F' b ∧ ∃ o, w'.heap[b]? = some o ∧ C.h w' F' o
def CtrX (P : Program) (f : FuncId) (args : List VP) (M : Mem) (R : VP → Mem → Prop) : Prop :=
 Enters P f ∧ ∀ (w : World) (F : Blk) (vs : List Value), (∀ k, F k → k < w.heap.size) → MemIn M w F → All2 args w F vs → Calls P f vs.toArray w (RetX w F (blks M) R)
theorem CtrX.intro {f : FuncId} {fn : Func} {c : Code} {args : List VP} {M : Mem} {R : VP → Mem → Prop} (hf : P.funcs[f]? = some fn) (hb : fn.body = some c) (hn : (fn.name == "runtime.NumGoroutine") = false) {nt : Nat} (hnt : fn.ntmps = nt)
  (hsz : Nat.ble args.length nt = true) (h : ∀ w F, Tri ⟨w, F, blks M, nt⟩ P c (argsCtx 0 args) M (bodyPost P fn (RetX w F (blks M) R))) : CtrX P f args M R := by
 subst hnt
 refine ⟨⟨fn, hf, by simp [hb], hn⟩, fun w F vs hF hm hargs => ?_⟩
 have hlen := hargs.len
 have hsz' : args.length ≤ fn.ntmps := by simpa using Nat.le_of_ble_eq_true hsz
 refine calls_of_wp hf hb (h w F _ w F ?_)
 refine { defers := rfl, size := ?_, keep := Keep.refl _ _, f0 := fun _ h => h, fnew := fun _ h => .inl h, flt := hF, slots := ?_, mem := ⟨hm.apart, fun k C hk => ?_⟩ }
 ·simp; omega
 ·intro t S ht
  obtain ⟨_, h2⟩ := look_args args 0 t S ht
  obtain ⟨v, hv, hS⟩ := hargs.get t S (by simpa using h2)
  have : (vs.toArray ++ Array.replicate (fn.ntmps - vs.toArray.size) undef).getD t undef = v := by
   have hlt : t < vs.length := by
    rcases Nat.lt_or_ge t vs.length with h | h
    ·exact h
    ·simp [List.getElem?_eq_none h] at hv
   have e : vs[t] = v := by rw [List.getElem?_eq_getElem hlt] at hv; exact Option.some.inj hv
   simp [Array.getElem?_append, hlt, e]
  rw [this]; exact hS
 ·obtain ⟨h1, h2, h3⟩ := hm.each k C hk
  exact ⟨.inr (mem_blks.2 ⟨C, hk⟩), h1, h2, h3⟩
theorem Ops.callX {g : FuncId} {xs : List Operand} {ts : Array TypeId} {args : List VP} {Mp Mr : Mem} {R : VP → Mem → Prop} {d : Nat} (hf : CtrX P g args Mp R) (hp : M.Perm (Mp ++ Mr)) (hx : HasL E Γ M xs args) (hd : Nat.blt d E.n = true)
    (kk : ∀ S M', R S M' → Ops E P ops Q rest ((d, S) :: Γ) (M' ++ Mr)) : Ops E P ops Q (⟨some d, .call ⟨.value (.func g), xs.toArray, ts⟩, ty, pos, after, none⟩ :: rest) Γ M := by
  intro a w F s0
  refine wpList_plain rfl fun K hK => ?_
  unfold Oper.wp
  have hr : (execOp a.eval (⟨some d, .call ⟨.value (.func g), xs.toArray, ts⟩, ty, pos, after, none⟩ : Oper)).run P w = .ok (.enter g (xs.map a.eval).toArray) w := by
    have := run_enter hf.1 (xs.map a.eval).toArray w
    simpa [go_sem] using this
  rw [hr]
  have hargs := hx.all s0
  have s : Sat E Γ (Mp ++ Mr) a w F := by
    obtain ⟨F', h⟩ := (Cv.perm (E := E) (Γ := Γ) hp) a w F s0
    exact { s0 with mem := ⟨h.mem.apart, fun b C hb => s0.mem.each b C (hp.mem_iff.2 hb)⟩ }
  have hapart := List.pairwise_append.1 s.mem.apart
  have hmp : MemIn Mp w F := ⟨hapart.1, fun b C hb => by
    obtain ⟨_, h2, h3, h4⟩ := s.mem.each b C (List.mem_append_left _ hb)
    exact ⟨h2, h3, h4⟩⟩
  refine (hf.2 w F _ s.flt hmp hargs).mono ?_
  rintro e w' ⟨v, S, M', F', rfl, hR, hk, hsub, hnew, hv, hap, heach⟩
  have hd' : d < E.n := by simpa [Nat.blt_eq] using hd
  have hW : ∀ b, b ∈ blks Mp → ¬ F b := fun b hb hF => by
    obtain ⟨C, hC⟩ := mem_blks.1 hb
    exact (hmp.each b C hC).2.1 hF
  have hsame : ∀ b, F b → w'.heap[b]? = w.heap[b]? := fun b hb => hk.block b (s.flt b hb) (fun h => hW b h hb)
  have hown : ∀ b, b ∈ blks Mp → E.w0.heap.size ≤ b ∨ b ∈ E.W := fun b hb => by
    obtain ⟨C, hC⟩ := mem_blks.1 hb
    exact (s.mem.each b C (List.mem_append_left _ hC)).1
  have hrest : ∀ (b : Nat) (C : MP), (some b, C) ∈ Mr → b ∉ blks Mp ∧ b < w.heap.size := fun b C hb => by
    refine ⟨fun h => ?_, (s.mem.each b C (List.mem_append_right _ hb)).2.1⟩
    obtain ⟨C', hC'⟩ := mem_blks.1 h
    have := hapart.2.2 _ hC' _ hb
    rcases this with h | h
    · cases h
    · exact h rfl
  have s' : Sat E Γ (M' ++ Mr) a w' F' := {
    defers := s.defers, size := s.size
    keep := by
      refine ⟨hk.os.trans s.keep.os, hk.tape.trans s.keep.tape, hk.output.trans s.keep.output, Nat.le_trans s.keep.size hk.size, fun k hk0 hkW => ?_⟩
      rw [hk.block k (Nat.lt_of_lt_of_le hk0 s.keep.size) (fun h => by rcases hown k h with h' | h'; omega; exact hkW h')]
      exact s.keep.block k hk0 hkW
    f0 := fun b h => hsub b (s.f0 b h)
    fnew := fun b h => by
      rcases hnew b h with h1 | h1
      · rcases s.fnew b h1 with h2 | h2
        · exact .inl h2
        · exact .inr ⟨h2.1, Nat.lt_of_lt_of_le h2.2 hk.size⟩
      · exact .inr ⟨Nat.le_trans s.keep.size h1.1, h1.2⟩
    flt := fun b h => by
      rcases hnew b h with h1 | h1
      · exact Nat.lt_of_lt_of_le (s.flt b h1) hk.size
      · exact h1.2
    slots := fun t S h => S.mono _ _ _ _ _ (s.slots t S h) hsame hsub
    mem := by
      refine ⟨List.pairwise_append.2 ⟨hap, hapart.2.1, ?_⟩, ?_⟩
      · rintro ⟨k, C⟩ h1 ⟨k', C'⟩ h2
        cases k with
        | none => exact .inl rfl
        | some b =>
          refine .inr fun e => ?_
          subst e
          obtain ⟨g1, _⟩ := heach b C h1
          obtain ⟨g2, g3⟩ := hrest b C' h2
          rcases g1 with g1 | g1
          · omega
          · exact g2 g1
      · intro b C hb
        rcases List.mem_append.1 hb with h | h
        · obtain ⟨g1, g2, g3, g4⟩ := heach b C h
          refine ⟨?_, g2, g3, g4⟩
          rcases g1 with g1 | g1
          · exact .inl (Nat.le_trans s.keep.size g1)
          · exact hown b g1
        · obtain ⟨g1, g2, g3, o, g4, g5⟩ := s.mem.each b C (List.mem_append_right _ h)
          obtain ⟨r1, r2⟩ := hrest b C h
          refine ⟨g1, Nat.lt_of_lt_of_le g2 hk.size, fun hF => ?_, o, (hk.block b g2 r1).trans g4, C.mono _ _ _ _ _ g5 hsame hsub⟩
          rcases hnew b hF with h1 | h1
          · exact g3 h1
          · omega }
  exact hK _ _ (kk S M' hR _ _ _ (s'.put hd' hv))
theorem fin_retX {fn : Func} {R : VP → Mem → Prop} {S : VP} {W : List Nat} {e : Exit} {a : Act} {w : World} {F : Blk} (he : e = .ret ∨ e = .normal) (s : Sat E Γ M a w F) (hw : E.W = W) {v : Value} (hv : (results fn a.tmps).run P w = .ok v w) (hS : S.h w F v) (hR : R S M) :
  bodyPost P fn (RetX E.w0 E.F0 W R) e a w := by
 have hk := s.keep
 rw [hw] at hk
 have hb : a.defers = [] ∧ ∃ v, (results fn a.tmps).run P w = .ok v w ∧ RetX E.w0 E.F0 W R (.returned v) w :=
  ⟨s.defers, _, hv, v, S, M, F, rfl, hR, hk, s.f0, fun k h => (s.fnew k h).imp id id, hS, s.mem.apart, fun b C hb => by
   obtain ⟨g1, g2, g3, g4⟩ := s.mem.each b C hb
   rw [hw] at g1
   exact ⟨g1, g2, g3, g4⟩⟩
 rcases he with rfl | rfl <;> exact hb
theorem rtX1 {fn : Func} {r : ResultVar} {R : VP → Mem → Prop} {S : VP} {W : List Nat} {e : Exit} (he : e = .ret ∨ e = .normal) (hr : fn.results = #[r]) (hw : E.W = W) (h : ResL E P Γ M [r] [S]) (hR : R S M) : At E Γ M (bodyPost P fn (RetX E.w0 E.F0 W R)) e := by
 intro a w F s
 obtain ⟨vs, h1, h2⟩ := run_results hr h s
 match vs, h2 with
 | [v], h2 => exact fin_retX he s hw (by simpa using h1) h2.1 hR
 | [], h2 => exact h2.elim
 | _ :: _ :: _, h2 => exact h2.2.elim
theorem rtX0 {fn : Func} {R : VP → Mem → Prop} {W : List Nat} {e : Exit} (he : e = .ret ∨ e = .normal) (hr : fn.results = #[]) (hw : E.W = W) (hR : R (isTup []) M) : At E Γ M (bodyPost P fn (RetX E.w0 E.F0 W R)) e := by
 intro a w F s
 obtain ⟨vs, h1, h2⟩ := run_results (rs := []) hr .nil s
 cases vs with
 | nil => exact fin_retX he s hw (by simpa using h1) (S := isTup []) ⟨[], rfl, trivial⟩ hR
 | cons => exact h2.elim
theorem rtXN {fn : Func} {rs : List ResultVar} {Rs : List VP} {R : VP → Mem → Prop} {W : List Nat} {e : Exit} (he : e = .ret ∨ e = .normal) (hr : fn.results = rs.toArray) (hn : Nat.beq rs.length 1 = false) (hw : E.W = W) (h : ResL E P Γ M rs Rs) (hR : R (isTup Rs) M) : At E Γ M (bodyPost P fn (RetX E.w0 E.F0 W R)) e := by
 intro a w F s
 obtain ⟨vs, h1, h2⟩ := run_results hr h s
 have hl : Rs.length = rs.length := by
  clear h1 h2 s a w F vs hR
  clear hn hr
  induction h with
  | nil => rfl
  | tmp _ _ ih => simp [ih]
  | cell _ _ _ _ _ _ ih => simp [ih]
  | cell1 _ _ _ _ _ ih => simp [ih]
 have hne : vs.length ≠ 1 := by rw [← h2.len, hl]; exact Nat.ne_of_beq_eq_false hn
 rw [dif_neg hne] at h1
 exact fin_retX (S := isTup Rs) he s hw h1 ⟨vs, rfl, h2⟩ hR
theorem CtrX.toCtr {f : FuncId} {args : List VP} {R : VP → Mem → Prop} {S : VP} (h : CtrX P f args [] R) (hR : ∀ S' M', R S' M' → S' = S) : Ctr P f args S :=
 ⟨h.1, fun w F vs hF hargs => (h.2 w F vs hF ⟨List.Pairwise.nil, by simp⟩ hargs).mono (by
  rintro e w' ⟨v, S', M', F', rfl, hr, hk, hsub, hnew, hv, _⟩
  obtain rfl := hR S' M' hr
  exact ⟨v, rfl, hk, S'.mono _ _ _ _ _ hv (fun _ _ => rfl) hnew⟩)⟩
end
end Go.En
namespace Go.En
open Go.RowKit Go.Nt Go.Pz Go.Mz
section
variable {E : Env} {P : Program} {Γ : Ctx} {M M' : Mem}
theorem fin_retXD {fn : Func} {R : VP → Mem → Prop} {S : VP} {W : List Nat} {e : Exit} {a : Act} {w : World} {F : Blk} (hs : M'.Sublist M) (he : e = .ret ∨ e = .normal) (s : Sat E Γ M a w F) (hw : E.W = W) {v : Value} (hv : (results fn a.tmps).run P w = .ok v w) (hS : S.h w F v) (hR : R S M') :
  bodyPost P fn (RetX E.w0 E.F0 W R) e a w := fin_retX he (s.sub hs) hw hv hS hR
theorem rtX1D {fn : Func} {r : ResultVar} {R : VP → Mem → Prop} {S : VP} {W : List Nat} {e : Exit} (hs : M'.Sublist M) (he : e = .ret ∨ e = .normal) (hr : fn.results = #[r]) (hw : E.W = W) (h : ResL E P Γ M [r] [S]) (hR : R S M') : At E Γ M (bodyPost P fn (RetX E.w0 E.F0 W R)) e := by
 intro a w F s
 obtain ⟨vs, h1, h2⟩ := run_results hr h s
 match vs, h2 with
 | [v], h2 => exact fin_retXD hs he s hw (by simpa using h1) h2.1 hR
 | [], h2 => exact h2.elim
 | _ :: _ :: _, h2 => exact h2.2.elim
theorem rtX0D {fn : Func} {R : VP → Mem → Prop} {W : List Nat} {e : Exit} (hs : M'.Sublist M) (he : e = .ret ∨ e = .normal) (hr : fn.results = #[]) (hw : E.W = W) (hR : R (isTup []) M') : At E Γ M (bodyPost P fn (RetX E.w0 E.F0 W R)) e := by
 intro a w F s
 obtain ⟨vs, h1, h2⟩ := run_results (rs := []) hr .nil s
 cases vs with
 | nil => exact fin_retXD hs he s hw (by simpa using h1) (S := isTup []) ⟨[], rfl, trivial⟩ hR
 | cons => exact h2.elim
theorem OK1.slLHK {ty : TypeId} {pos : String} {after : Array Edge} {gd : Option (Nat × Bool)} {d : Option Tmp} {T : TypeId} {x y y2 : Operand} {α : Type} {fk : α → List VP} {xs : List α} {k : Nat} {e : TypeId} {g : Bool} {z z2 : Int} (hT : slB P T = some e) (ht : tyB P e = some (k, g)) (hk : ∀ y, (fk y).length = k) (hx : Has E Γ M x (SlK k fk xs)) (hy : Has E Γ M y (isI z)) (hy2 : Has E Γ M y2 (isI z2)) (h : 0 ≤ z ∧ z ≤ z2 ∧ z2 ≤ xs.length) :
  OK1 E P Γ M ⟨d, .slice T x (some y) (some y2) none, ty, pos, after, gd⟩ (SlK k fk ((xs.take z2.toNat).drop z.toNat)) :=
 OK1.slG (l := z.toNat) (h := z2.toNat) hT ht hx (fun a w F s cap hc => by
  simp only [Instr.sliceBounds, Option.map_some, evI hy a w F s, evI hy2 a w F s, Sem.run_bind, Sem.run_pure, Result.andThen_ok, run_bound (show 0 ≤ z2 by omega) (show z2 ≤ (cap : Int) by omega),
   run_bound h.1 (show z ≤ (z2.toNat : Int) by omega)]) (by omega) (by omega)
  (SlK_of (by rw [List.length_drop, List.length_take, Nat.min_eq_left (by omega)]) (by rw [flat_part hk]))
end
section
variable {E : Env} {P : Program} {Γ : Ctx} {M : Mem} {ty : TypeId} {pos : String} {after : Array Edge} {gd : Option (Nat × Bool)} {d : Option Tmp}
 {ops : Array Oper} {Q : Exit → Act → World → Prop} {rest : List Oper} {T T' : TypeId} {x y : Operand} {α : Type} {fk : α → List VP} {xs : List α} {k : Nat}
theorem DrB.cv {Γ' : Ctx} {l : List Oper} {bs : List Nat} (c : Cv E Γ M Γ' M) (h : DrB E P l Γ' M Q bs) : DrB E P l Γ M Q bs := fun a w F s => by
 obtain ⟨F', s'⟩ := c a w F s
 exact h a w F' s'
end
abbrev hw0 (bw : Nat) (gt : Gr (List Int)) (n C top : Nat) : Option Nat × MP := (some bw, cellM [isGr gt n, isI (C : Int), isI (top : Int)])
abbrev hwM (bw : Nat) (gt : Gr (List Int)) (rs : List (List Int)) (C top : Nat) : Mem := [hw0 bw gt rs.length C top, grM isP gt rs]
theorem hwM_eq {bw C n top : Nat} {gt : Gr (List Int)} {rs rs' : List (List Int)} (h : rs = rs') (hn : n = rs'.length) : ([hw0 bw gt n C top, grM isP gt rs] : Mem) = hwM bw gt rs' C top := by subst h; subst hn; rfl
theorem hwM_top {bw C top' : Nat} {gt : Gr (List Int)} {rs : List (List Int)} {z : Int} (h : z = (top' : Int)) : ([(some bw, cellM [isGr gt rs.length, isI (C : Int), isI z]), grM isP gt rs] : Mem) = hwM bw gt rs C top' := by subst h; rfl
theorem isPl_eq {L L' : List Int} (h : L = L') : isP L = isP L' := h ▸ rfl
end Go.En
