/- Rows that a call makes and hands on to be written; copies; tables of bytes. -/
import Derived.Test.YtokhpacdgoebpaaAp
import Derived.Laws.CopyRow
import Derived.Laws.MathBits
namespace Go.En
open Go.RowKit
set_option linter.unusedVariables false
section
variable {E : Env} {P : Program} {Γ : Ctx} {M : Mem} {ty : TypeId} {pos : String} {after : Array Edge} {gd : Option (Nat × Bool)} {d : Option Tmp}
  {ops : Array Oper} {Q : Exit → Act → World → Prop} {rest : List Oper} {T T' : TypeId} {x y : Operand} {α : Type} {f : α → VP} {fk : α → List VP} {xs : List α}

/-- what is appended to a slice without room lies in memory of its own, and may be written -/
theorem Ops.appendO {d : Nat} {e : TypeId} {g : Bool} {z : Value} {u : α} (hT : slB P T = some e) (ht : tyB P e = some (0 + 1, g)) (hz : zeroB P e = some z) (hZ : ∀ w F, All2 [f u] w F z.cells.toList) (hby : byLe P e 1024 = true) (hx : Has E Γ M x zcap) (hy : Has E Γ M y (SlM f xs)) (hn' : xs.length ≤ 4294967296) (hd : Nat.blt d E.n = true)
    (k0 : xs = [] → Ops E P ops Q rest ((d, SlM f []) :: Γ) M)
    (k1 : xs ≠ [] → ∀ b c j, Ops E P ops Q rest ((d, isWin b 0 xs.length c) :: Γ) ((some b, cellM ((xs ++ List.replicate j u).map f)) :: M)) :
    Ops E P ops Q (⟨some d, .call ⟨.builtin .append, #[x, y], #[T, T]⟩, ty, pos, after, none⟩ :: rest) Γ M := by
  intro a w F s
  refine wpList_plain rfl fun K hK => ?_
  have hd' : d < E.n := by simpa [Nat.blt_eq] using hd
  obtain ⟨a0, e1, ha0⟩ := hx a w F s
  have hn : xs.length ≤ 4294967296 := hn'
  have hS := hy a w F s
  obtain ⟨a1, cap, e2, g1, g2, g3, g4⟩ := id hS
  generalize hlx : xs.length = n at *
  have hu := slB_under hT
  obtain ⟨i, hi, hb⟩ : ∃ i, P.info? e = some i ∧ i.bytes ≤ 1024 := by
    unfold byLe at hby
    cases hi : P.info? e with
    | none => simp [hi] at hby
    | some i => rw [hi] at hby; exact ⟨i, rfl, Nat.le_of_ble_eq_true hby⟩
  have hsz : i.size = 0 + 1 := by
    have := run_size (P := P) (w := w) ht
    simp [sizeOf, typeInfo, go_sem, hi] at this; exact this
  have hzz : i.zero = some z := by unfold zeroB at hz; rw [hi] at hz; simpa using hz
  unfold Oper.wp
  by_cases h0 : n = 0
  · subst h0
    have hr : (execOp a.eval (⟨some d, .call ⟨.builtin .append, #[x, y], #[T, T]⟩, ty, pos, after, none⟩ : Oper)).run P w = .ok (.value (.slice a0 0 0)) w := by
      simp only [execOp, resolve, invoke, builtin, Sem.run_bind]
      have : (Builtin.append_ #[T, T] ty #[.slice a0 0 0, .slice a1 0 cap]).run P w = .ok (.slice a0 0 0) w := by
        cases a0 <;> cases a1 <;> simp [Builtin.append_, run_under hu, Sem.run_bind, run_size ht, Builtin.lenOf, Builtin.firstCells, loadCells, loadCellsFrom, storeCells]
      simp [e1, e2, Sem.run_bind, this]
    rw [hr]
    exact hK _ _ (k0 (List.eq_nil_of_length_eq_zero hlx) _ _ F (s.put hd' ⟨a0, 0, rfl, Nat.le_refl _, by rw [maxLen_eq]; omega, rfl, .inl rfl⟩))
  · rcases g4 with g4 | ⟨b, off, rfl, hF, vs, hv, hc⟩
    · omega
    have hlen := hv.len
    have hnews : ∀ j u, vs[j]? = some u → w.cell? ((⟨b, off, none⟩ : Addr).add j) = some u := fun j u hj => by rw [add_mk]; exact hc j u hj
    have hbytes : n * i.bytes ≤ 281474976710656 := by have := Nat.mul_le_mul hn hb; omega
    have hone : z.cells.size = 1 := by have := (hZ w F).len; simpa using this.symm
    have hzs : ∀ k, (Builtin.zeroCells z.cells k).toList = (List.replicate k z.cells.toList).flatten := fun k => by
      unfold Builtin.zeroCells
      rw [make_flat rfl]
    have hall : ∀ k, All2 ((List.replicate k u).map f) w F ((List.replicate k z.cells.toList).flatten) := by
      intro k
      induction k with
      | zero => trivial
      | succ k ih =>
        rw [List.replicate_succ, List.replicate_succ, List.flatten_cons, List.map_cons]
        exact All2.append (hZ w F) ih
    have hfinish : ∀ cp, n ≤ cp → cp ≤ maxLen → ∀ k,
        K (a.put (some d) (.slice (some ⟨w.heap.size, 0, none⟩) n cp)) { w with heap := w.heap.push (.cells (vs ++ (Builtin.zeroCells z.cells k).toList).toArray e), drawn := w.drawn + 1 } := by
      intro cp h1 h2 k
      have hcs : All2 ((xs ++ List.replicate k u).map f) w F (vs ++ (Builtin.zeroCells z.cells k).toList) := by
        rw [List.map_append, hzs]; exact All2.append hv (hall k)
      have s1 := (s.adv (Adv.drew w F)).alloc (T := e) (All2.mono (w := w) (w' := { w with drawn := w.drawn + 1 }) (fun _ _ => rfl) (fun _ h => h) _ _ hcs)
      exact hK _ _ (k1 (fun h => h0 (by rw [← hlx, h]; rfl)) w.heap.size cp k _ _ F (s1.put hd' ⟨rfl, h1, h2⟩))
    have hcell : vs.length = n * i.size := by rw [← hlen, g3, hsz]
    have hml : n ≤ maxLen := by rw [maxLen_eq]; omega
    have hge := grownCap_ge w n 0 e
    have hcm := grownCap_le_maxLen w n 0 e hml
    have earr : vs.toArray ++ Builtin.zeroCells z.cells (grownCap w n 0 e - n) = (vs ++ (Builtin.zeroCells z.cells (grownCap w n 0 e - n)).toList).toArray := by apply Array.ext'; simp
    rcases ha0 with rfl | ⟨g0, o0, rfl⟩
    · have hr := run_append_nil (P := P) w T ty e i z hu hi hzz ⟨b, off, none⟩ n cap vs hcell hnews (by omega) (by omega) hbytes
      have hr2 : (execOp a.eval (⟨some d, .call ⟨.builtin .append, #[x, y], #[T, T]⟩, ty, pos, after, none⟩ : Oper)).run P w = .ok (.value (.slice (some ⟨w.heap.size, 0, none⟩) n (grownCap w n 0 e))) { w with heap := w.heap.push (.cells (vs ++ (Builtin.zeroCells z.cells (grownCap w n 0 e - n)).toList).toArray e), drawn := w.drawn + 1 } := by
        simp only [execOp, resolve, invoke, builtin, Sem.run_bind]
        rw [← earr]
        simp [e1, e2, Sem.run_bind, hr]
        first | rfl | exact ⟨rfl, rfl⟩ | done
      rw [hr2]
      exact hfinish _ hge hcm _
    · have hr := run_append_grow (P := P) w T ty e i z hu hi hzz ⟨g0, o0, none⟩ 0 0 [] (by simp) (by simp) ⟨b, off, none⟩ n cap vs hcell hnews (by omega) (by omega) (by simp; unfold Builtin.nextslicecap; split <;> omega)
      have hr2 : (execOp a.eval (⟨some d, .call ⟨.builtin .append, #[x, y], #[T, T]⟩, ty, pos, after, none⟩ : Oper)).run P w = .ok (.value (.slice (some ⟨w.heap.size, 0, none⟩) n (grownCap w n 0 e))) { w with heap := w.heap.push (.cells (vs ++ (Builtin.zeroCells z.cells (grownCap w n 0 e - n)).toList).toArray e), drawn := w.drawn + 1 } := by
        simp only [execOp, resolve, invoke, builtin, Sem.run_bind]
        rw [← earr]
        simp [e1, e2, Sem.run_bind, hr]
        first | rfl | exact ⟨rfl, rfl⟩ | done
      rw [hr2]
      exact hfinish _ hge hcm _

def RetO {α : Type} (w : World) (F : Blk) (f : α → VP) (u : α) (xs : List α) : Ending → World → Prop := fun e w' => ∃ v, e = .returned v ∧ Keep [] w w' ∧
  ((xs = [] ∧ (SlM f []).h w' (fresh F w w') v) ∨ (xs ≠ [] ∧ ∃ b c k F', w.heap.size ≤ b ∧ b < w'.heap.size ∧ ¬ F' b ∧ (∀ k, F' k → fresh F w w' k) ∧ (∀ k, F k → F' k) ∧ (isWin b 0 xs.length c).h w' F' v ∧ ∃ o, w'.heap[b]? = some o ∧ (cellM ((xs ++ List.replicate k u).map f)).h w' F' o))
/-- a function whose result, a row, is the caller's to write -/
def CtrO {α : Type} (P : Program) (g : FuncId) (args : List VP) (f : α → VP) (u : α) (xs : List α) : Prop :=
  Enters P g ∧ ∀ (w : World) (F : Blk) (vs : List Value), (∀ k, F k → k < w.heap.size) → All2 args w F vs → Calls P g vs.toArray w (RetO w F f u xs)
theorem CtrO.intro {α : Type} {g : FuncId} {fn : Func} {c : Code} {Ss : List VP} {f : α → VP} {u : α} {xs : List α} (hf : P.funcs[g]? = some fn) (hb : fn.body = some c) (hn : (fn.name == "runtime.NumGoroutine") = false) {nt : Nat} (hnt : fn.ntmps = nt)
    (hsz : Nat.ble Ss.length nt = true)
    (h : ∀ w F, Tri ⟨w, F, [], nt⟩ P c (argsCtx 0 Ss) [] (bodyPost P fn (RetO w F f u xs))) : CtrO P g Ss f u xs := by
  subst hnt
  refine ⟨⟨fn, hf, by simp [hb], hn⟩, fun w F vs hF hargs => ?_⟩
  have hlen := hargs.len
  have hsz' : Ss.length ≤ fn.ntmps := by simpa using Nat.le_of_ble_eq_true hsz
  refine calls_of_wp hf hb (h w F _ w F ?_)
  refine { defers := rfl, size := ?_, keep := Keep.refl _ _, f0 := fun _ h => h, fnew := fun _ h => .inl h, flt := hF, slots := ?_, mem := ⟨List.Pairwise.nil, by simp⟩ }
  · simp; omega
  · intro t S ht
    obtain ⟨_, h2⟩ := look_args Ss 0 t S ht
    obtain ⟨v, hv, hS⟩ := hargs.get t S (by simpa using h2)
    have : (vs.toArray ++ Array.replicate (fn.ntmps - vs.toArray.size) undef).getD t undef = v := by
      have hlt : t < vs.length := by
        rcases Nat.lt_or_ge t vs.length with h | h
        · exact h
        · rw [List.getElem?_eq_none h] at hv; cases hv
      rw [Array.getD_eq_getD_getElem?, Array.getElem?_append_left (by simpa using hlt)]
      simp [hv]
    rw [this]; exact hS
theorem fin_retO {α : Type} {fn : Func} {f : α → VP} {u : α} {xs : List α} {e : Exit} {a : Act} {w : World} {F : Blk} (he : e = .ret ∨ e = .normal) (s : Sat E Γ M a w F) (hw : E.W = []) {v : Value} (hv : (results fn a.tmps).run P w = .ok v w)
    (hR : (xs = [] ∧ (SlM f []).h w F v) ∨ (xs ≠ [] ∧ ∃ b c k i : Nat, M[i]? = some (some b, cellM ((xs ++ List.replicate k u).map f)) ∧ (isWin b 0 xs.length c).h w F v)) :
    bodyPost P fn (RetO E.w0 E.F0 f u xs) e a w := by
  have hk := s.keep
  rw [hw] at hk
  have hsub : ∀ k, F k → fresh E.F0 E.w0 w k := fun k hk => (s.fnew k hk).imp id id
  have hb : a.defers = [] ∧ ∃ v, (results fn a.tmps).run P w = .ok v w ∧ RetO E.w0 E.F0 f u xs (.returned v) w := by
    refine ⟨s.defers, _, hv, _, rfl, hk, ?_⟩
    rcases hR with ⟨h1, h2⟩ | ⟨h1, b, c, k, i, hM, h2⟩
    · exact .inl ⟨h1, (SlM f []).mono _ _ _ _ _ h2 (fun _ _ => rfl) hsub⟩
    · obtain ⟨g1, g2, g3, o, g4, g5⟩ := s.mem.each b _ (List.mem_of_getElem? hM)
      exact .inr ⟨h1, b, c, k, F, g1.resolve_right (by rw [hw]; simp), g2, g3, hsub, s.f0, h2, o, g4, g5⟩
  rcases he with rfl | rfl <;> exact hb
theorem rtO0 {α : Type} {fn : Func} {f : α → VP} {u : α} {xs : List α} {r : ResultVar} {e : Exit} (he : e = .ret ∨ e = .normal) (hr : fn.results = #[r]) (hw : E.W = []) (hx : xs = []) (h : ResL E P Γ M [r] [SlM f []]) :
    At E Γ M (bodyPost P fn (RetO E.w0 E.F0 f u xs)) e := by
  intro a w F s
  obtain ⟨vs, h1, h2⟩ := run_results hr h s
  match vs, h2 with
  | [v], h2 => exact fin_retO he s hw (by simpa using h1) (.inl ⟨hx, h2.1⟩)
  | [], h2 => exact h2.elim
  | _ :: _ :: _, h2 => exact h2.2.elim
theorem rtO1 {α : Type} {fn : Func} {f : α → VP} {u : α} {xs : List α} {r : ResultVar} {b c k i : Nat} {e : Exit} (he : e = .ret ∨ e = .normal) (hr : fn.results = #[r]) (hw : E.W = []) (hx : xs ≠ []) (hM : M[i]? = some (some b, cellM ((xs ++ List.replicate k u).map f))) (h : ResL E P Γ M [r] [isWin b 0 xs.length c]) :
    At E Γ M (bodyPost P fn (RetO E.w0 E.F0 f u xs)) e := by
  intro a w F s
  obtain ⟨vs, h1, h2⟩ := run_results hr h s
  match vs, h2 with
  | [v], h2 => exact fin_retO he s hw (by simpa using h1) (.inr ⟨hx, b, c, k, i, hM, h2.1⟩)
  | [], h2 => exact h2.elim
  | _ :: _ :: _, h2 => exact h2.2.elim
theorem Sat.own {a : Act} {w w' : World} {F F' : Blk} (s : Sat E Γ M a w F) (hk : Keep [] w w') {b : Nat} {C : MP} (h1 : w.heap.size ≤ b) (h2 : b < w'.heap.size) (h3 : ¬ F' b) (h4 : ∀ k, F' k → fresh F w w' k) (h5 : ∀ k, F k → F' k)
    {o : Obj} (ho : w'.heap[b]? = some o) (hC : C.h w' F' o) : Sat E Γ ((some b, C) :: M) a w' F' := by
  have ad : Adv w F w' F' := ⟨hk, h5, fun k h => (h4 k h).imp id id⟩
  have s' := s.adv ad
  exact { s' with mem := ⟨by
      refine List.Pairwise.cons ?_ s'.mem.apart
      intro x hx
      obtain ⟨k, D⟩ := x
      cases k with
      | none => exact .inr (by simp)
      | some k => exact .inr (by have := (s.mem.each k D hx).2.1; simp; omega), by
      intro k D hb
      rcases List.mem_cons.1 hb with e | hb
      · obtain ⟨rfl, rfl⟩ : k = b ∧ D = C := by simpa using e
        exact ⟨.inl (Nat.le_trans s.keep.size h1), h2, h3, o, ho, hC⟩
      · exact s'.mem.each k D hb⟩ }
theorem Ops.callO {α : Type} {g : FuncId} {zs : List Operand} {ts : Array TypeId} {args : List VP} {f : α → VP} {u : α} {ys : List α} {d : Nat} (hf : CtrO P g args f u ys) (hx : HasL E Γ M zs args) (hd : Nat.blt d E.n = true)
    (k0 : ys = [] → Ops E P ops Q rest ((d, SlM f []) :: Γ) M)
    (k1 : ys ≠ [] → ∀ b c j, Ops E P ops Q rest ((d, isWin b 0 ys.length c) :: Γ) ((some b, cellM ((ys ++ List.replicate j u).map f)) :: M)) :
    Ops E P ops Q (⟨some d, .call ⟨.value (.func g), zs.toArray, ts⟩, ty, pos, after, none⟩ :: rest) Γ M := by
  intro a w F s
  refine wpList_plain rfl fun K hK => ?_
  unfold Oper.wp
  have hr : (execOp a.eval (⟨some d, .call ⟨.value (.func g), zs.toArray, ts⟩, ty, pos, after, none⟩ : Oper)).run P w = .ok (.enter g (zs.map a.eval).toArray) w := by
    have := run_enter hf.1 (zs.map a.eval).toArray w
    simpa [go_sem] using this
  rw [hr]
  refine (hf.2 w F _ s.flt (hx.all s)).mono ?_
  have hd' : d < E.n := by simpa [Nat.blt_eq] using hd
  rintro e w' ⟨v, rfl, hk, ⟨h1, h2⟩ | ⟨h1, b, c, k, F', g1, g2, g3, g4, g5, g6, o, g7, g8⟩⟩
  · exact hK _ _ (k0 h1 _ _ _ ((s.adv ⟨hk, fun b hb => .inl hb, fun b hb => hb⟩).put hd' h2))
  · exact hK _ _ (k1 h1 b c k _ _ _ ((s.own hk g1 g2 g3 g4 g5 g7 g8).put hd' g6))
theorem Has.winLe {b o n c : Nat} (h : Has E Γ M x (isWin b o n c)) : ∀ a w F, Sat E Γ M a w F → n ≤ c := fun a w F s => (h a w F s).2.1

/-- a table of bytes -/
theorem OK1.idxStr {d : Option Tmp} {t : ByteArray} {z : Int} {n : Nat} {gd : Option (Nat × Bool)} (hT : P.underlying T = some .string) (hy : Has E Γ M y (isK .u8 z)) (h0 : 0 ≤ z) (h : ∃ hh : z.toNat < t.size, (t[z.toNat]'hh).toNat = n) :
    OK1 E P Γ M ⟨d, .index T (.const (.string t)) y, ty, pos, after, gd⟩ (isK .u8 (n : Int)) :=
  .run fun a w F s => by
    obtain ⟨hh, h⟩ := h
    have h2 := (hy a w F s).1
    refine ⟨.int .u8 (n : Int), ?_, rfl, ?_⟩
    · have e : t[z.toNat]? = some (t[z.toNat]'hh) := by rw [getElem?_pos t z.toNat hh]
      have e0 : a.eval (.const (.string t)) = .string t := rfl
      simp only [execOp, h2, e0, Instr.index, asIntOf, Sem.run_bind, Sem.run_pure, run_under hT, Result.andThen_ok]
      rw [if_pos h0, e]
      simp only [Sem.run_pure, Result.andThen_ok, h]
    · have := (t[z.toNat]'hh).toNat_lt
      rw [h] at this
      exact ⟨by show (0 : Int) ≤ _; omega, by show _ ≤ (255 : Int); omega⟩
theorem OK1.convUu8 {S : TypeId} {n : Nat} {d : Option Tmp} {gd : Option (Nat × Bool)} {ds : TypeDesc} (hs : P.underlying S = some ds) (ht : P.underlying T = some (.int .u8)) (hx : Has E Γ M x (isU n)) (h : n < 256) :
    OK1 E P Γ M ⟨d, .convert S T x, ty, pos, after, gd⟩ (isK .u8 (n : Int)) :=
  .conv hs ht (evU hx) (fun w F => by
    have e : IntKind.u8.wrap (n : Int) = n := by
      unfold IntKind.wrap
      simp [IntKind.bits, IntKind.signed]
      omega
    rw [e]
    exact ⟨rfl, by show (0 : Int) ≤ _; omega, by show _ ≤ (255 : Int); omega⟩)

/-- a copy into a row of the call's own -/
theorem Ops.copyW {d : Nat} {e : TypeId} {g : Bool} {b o n c i : Nat} {ys : List α} {T2 : TypeId} (hT : slB P T = some e) (ht : tyB P e = some (1, g)) (h1 : ∀ u, One (f u)) (hx : Has E Γ M x (isWin b o n c)) (hy : Has E Γ M y (SlM f ys)) (hM : M[i]? = some (some b, cellM (xs.map f)))
    (hl : ys.length ≤ n ∧ o + n ≤ xs.length) (hd : Nat.blt d E.n = true) {M' : Mem} (hM' : M.set i (some b, cellM ((xs.take o ++ ys ++ xs.drop (o + ys.length)).map f)) = M')
    (k : Ops E P ops Q rest ((d, isI (ys.length : Int)) :: Γ) M') : Ops E P ops Q (⟨some d, .call ⟨.builtin .copy, #[x, y], #[T, T2]⟩, ty, pos, after, none⟩ :: rest) Γ M := by
  intro a w F s
  refine wpList_plain rfl fun K hK => ?_
  unfold Oper.wp
  have hd' : d < E.n := by simpa [Nat.blt_eq] using hd
  obtain ⟨e1, e2, e3⟩ := hx a w F s
  obtain ⟨a1, cap, e4, g1, g2, g3, g4⟩ := hy a w F s
  obtain ⟨ob, hb, vs, T', rfl, hv⟩ := mem_at s hM
  have hu := slB_under hT
  have hsz : (P.info? e).map (·.size) = some 1 := by
    have := run_size (P := P) (w := w) ht
    cases hi : P.info? e with
    | none => simp [sizeOf, typeInfo, go_sem, hi] at this
    | some i => simp [sizeOf, typeInfo, go_sem, hi] at this; simp [this]
  have hmin : Nat.min ys.length n = ys.length := Nat.min_eq_left hl.1
  have hvl := hv.len
  simp only [List.length_map] at hvl
  have hI : ∀ {F' : Blk} {w' : World}, (isI (ys.length : Int)).h w' F' (goInt ys.length) := by
    intro F' w'
    refine ⟨rfl, by omega, ?_⟩
    have := maxLen_eq
    omega
  rcases g4 with g4 | ⟨b1, off, rfl, hF1, cs, hcs, hc⟩
  · have hys : ys = [] := List.eq_nil_of_length_eq_zero g4
    subst hys
    have hrun := run_copy_none (P := P) w T T2 ty e (some ⟨b, o, none⟩) a1 n c 0 cap hu hsz (by simp)
    have hr : (execOp a.eval (⟨some d, .call ⟨.builtin .copy, #[x, y], #[T, T2]⟩, ty, pos, after, none⟩ : Oper)).run P w = .ok (.value (goInt 0)) w := by
      simp only [execOp, resolve, invoke, builtin, Sem.run_bind]
      simp only [List.length_nil] at e4
      simp [e1, e4, Sem.run_bind, hrun]
    rw [hr]
    have hMM : M' = M := by
      rw [← hM']
      simp only [List.append_nil, List.length_nil, Nat.add_zero, List.take_append_drop]
      have hi : i < M.length := by
        rcases Nat.lt_or_ge i M.length with h | h
        · exact h
        · rw [List.getElem?_eq_none h] at hM; cases hM
      rw [List.getElem?_eq_getElem hi] at hM
      rw [← Option.some.inj hM, List.set_getElem_self]
    refine hK _ _ (k _ _ F ?_)
    rw [hMM]
    exact s.put hd' hI
  have hlen := hcs.len
  simp only [List.length_map] at hlen
  have hrun := run_copy_row (P := P) w T T2 ty e b o n c ⟨b1, off, none⟩ ys.length cap vs.toArray T' cs hu hsz hb (by rw [← hlen, hmin]) (fun j v hj => by rw [add_mk]; exact hc j v hj) (by simp; omega) (hcs.one (fun S hS => by obtain ⟨u, _, rfl⟩ := List.mem_map.1 hS; exact h1 u))
  rw [← hlen] at hrun
  have hcl := hcs.len
  simp only [List.length_map] at hcl
  have hr : (execOp a.eval (⟨some d, .call ⟨.builtin .copy, #[x, y], #[T, T2]⟩, ty, pos, after, none⟩ : Oper)).run P w = .ok (.value (goInt ys.length)) (w.setRow b (vs.take o ++ cs ++ vs.drop (o + ys.length)).toArray) := by
    simp only [execOp, resolve, invoke, builtin, Sem.run_bind]
    simp [e1, e4, Sem.run_bind, hrun]
  rw [hr]
  refine hK _ _ (k _ _ F ?_)
  rw [← hM']
  refine (s.write (w' := w.setRow b (vs.take o ++ cs ++ vs.drop (o + ys.length)).toArray) (C' := cellM ((xs.take o ++ ys ++ xs.drop (o + ys.length)).map f)) hM rfl rfl rfl (setRow_size _ _ _) (fun k hk => setRow_ne _ _ _ _ hk) (setRow_heap _ _ _ _ _ _ hb) ⟨_, T', rfl, ?_⟩).put hd' hI
  have hF : ∀ k, F k → (w.setRow b (vs.take o ++ cs ++ vs.drop (o + ys.length)).toArray).heap[k]? = w.heap[k]? := fun k hk => setRow_ne _ _ _ _ (fun e => by
    subst e; exact (s.mem.each k _ (List.mem_of_getElem? hM)).2.2.1 hk)
  refine All2.mono hF (fun _ h => h) _ _ ?_
  rw [List.map_append, List.map_append, List.map_take, List.map_drop]
  exact ((hv.take o).append hcs).append (hv.drop _)
theorem mem2_eq {α β : Type} {f : α → VP} {g : β → VP} {b b' : Option Nat} {l l' : List α} {k k' : List β} {r : Mem} (h : l = l') (h2 : k = k') : ((b, cellM (l.map f)) :: (b', cellM (k.map g)) :: r : Mem) = (b, cellM (l'.map f)) :: (b', cellM (k'.map g)) :: r := h ▸ h2 ▸ rfl
end
end Go.En
