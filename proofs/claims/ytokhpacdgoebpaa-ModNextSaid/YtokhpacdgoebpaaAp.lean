/- Slices appended to; bits of words; slices held against nil. -/
import Derived.Test.YtokhpacdgoebpaaSl
namespace Go.En
open Go.RowKit
set_option linter.unusedVariables false

/-- an empty slice without room -/
def zcap : VP := .pure fun v => ∃ a, v = .slice a 0 0 ∧ (a = none ∨ ∃ g o, a = some ⟨g, o, none⟩)
instance : One zcap := ⟨fun w F v h => by obtain ⟨a, rfl, _⟩ := h; rfl⟩

section
variable {E : Env} {P : Program} {Γ : Ctx} {M : Mem} {ty : TypeId} {pos : String} {after : Array Edge} {gd : Option (Nat × Bool)} {d : Option Tmp}
  {ops : Array Oper} {Q : Exit → Act → World → Prop} {rest : List Oper} {T T' : TypeId} {x y : Operand} {α : Type} {f : α → VP} {fk : α → List VP} {xs : List α}

theorem Has.cW : Has E Γ M (.const (.slice none 0 0)) (SlM f []) := fun _ _ _ _ => ⟨none, 0, rfl, Nat.le_refl _, by rw [maxLen_eq]; omega, rfl, .inl rfl⟩
theorem nilM (w : World) (F : Blk) : (SlM f []).h w F (.slice none 0 0) := ⟨none, 0, rfl, Nat.le_refl _, by rw [maxLen_eq]; omega, rfl, .inl rfl⟩
theorem Has.nilM {x : Operand} (h : Has E Γ M x nilS) : Has E Γ M x (SlM f []) := fun a w F s => by
  have : a.eval x = .slice none 0 0 := h a w F s
  rw [this]; exact En.nilM w F
theorem Has.okW {ws : List Nat} (h : Has E Γ M x (isWords ws)) : ∀ a w F, Sat E Γ M a w F → ∀ y ∈ ws, y < 18446744073709551616 := by
  intro a w F s y hy
  obtain ⟨ad, cap, e, g1, g2, g3, g4⟩ := h a w F s
  obtain ⟨i, hi, rfl⟩ := List.mem_iff_getElem.1 hy
  rcases g4 with g4 | ⟨b, off, _, _, vs, hv, _⟩
  · omega
  · obtain ⟨v, _, h2⟩ := hv.get i (isU ws[i]) (by simp [hi])
    exact h2.2

theorem Ops.buildS0 {d : Nat} {e : TypeId} {m : Nat} {g : Bool} (hT : slB P T = some e) (ht : tyB P e = some (m, g)) (hd : Nat.blt d E.n = true)
    (k : Ops E P ops Q rest ((d, zcap) :: Γ) M) : Ops E P ops Q (⟨some d, .buildSlice T 0 #[], ty, pos, after, none⟩ :: rest) Γ M := by
  intro a w F s
  refine wpList_plain rfl fun K hK => ?_
  unfold Oper.wp
  have hu := slB_under hT
  have hr : (execOp a.eval (⟨some d, .buildSlice T 0 #[], ty, pos, after, none⟩ : Oper)).run P w = .ok (.value (.slice (some ⟨w.heap.size, 0, none⟩) 0 0)) { w with heap := w.heap.push (.cells #[] e) } := by
    simp only [execOp, Instr.buildSlice, Sem.run_bind, run_under hu, Result.andThen_ok, run_size ht]
    have e0 : Array.range 0 = #[] := by apply Array.ext'; simp
    simp [Instr.fill, newRow, Sem.run_bind, e0]
  rw [hr]
  have hd' : d < E.n := by simpa [Nat.blt_eq] using hd
  exact hK _ _ (k _ _ F ((s.adv ⟨Keep.alloc _ _ _, fun _ h => h, fun _ h => .inl h⟩).put hd' ⟨_, rfl, .inr ⟨_, _, rfl⟩⟩))

theorem SlL_new {k n c : Nat} {w : World} {F : Blk} {Ss : List VP} {vs : List Value} {b : Nat} {T0 : TypeId} {fr : Nat × Nat} {more : List Value} (hv : All2 Ss w F vs) (hl : Ss.length = n * k) (hF : F b) (hb : w.heap[b]? = some (.cells (vs ++ more).toArray T0 fr)) (hn : n ≤ c) (hc : c ≤ maxLen) :
    (SlL k n Ss).h w F (.slice (some ⟨b, 0, none⟩) n c) :=
  ⟨_, _, rfl, hn, hc, hl, .inr ⟨b, 0, rfl, hF, vs, hv, fun j u hj => by
    have hjl : j < vs.length := by
      rcases Nat.lt_or_ge j vs.length with h | h
      · exact h
      · rw [List.getElem?_eq_none h] at hj; cases hj
    simp only [World.cell?, hb, Nat.zero_add]
    simp [List.getElem?_append_left hjl, hj]⟩⟩

/-- what is appended to a slice without room lies in memory of its own -/
theorem OK1.appendZ {e : TypeId} {m : Nat} {g : Bool} {z : Value} {n : Nat} {Ss : List VP} (hT : slB P T = some e) (ht : tyB P e = some (m + 1, g)) (hz : zeroB P e = some z) (hby : byLe P e 1024 = true) (hx : Has E Γ M x zcap) (hy : Has E Γ M y (SlL (m + 1) n Ss)) (hn : n ≤ 4294967296) :
    OK1 E P Γ M ⟨d, .call ⟨.builtin .append, #[x, y], #[T, T]⟩, ty, pos, after, gd⟩ (SlL (m + 1) n Ss) := by
  intro a w F s K Q hK
  obtain ⟨a0, e1, ha0⟩ := hx a w F s
  have hS := hy a w F s
  obtain ⟨a1, cap, e2, g1, g2, g3, g4⟩ := id hS
  have hu := slB_under hT
  obtain ⟨i, hi, hb⟩ : ∃ i, P.info? e = some i ∧ i.bytes ≤ 1024 := by
    unfold byLe at hby
    cases hi : P.info? e with
    | none => simp [hi] at hby
    | some i => rw [hi] at hby; exact ⟨i, rfl, Nat.le_of_ble_eq_true hby⟩
  have hsz : i.size = m + 1 := by
    have := run_size (P := P) (w := w) ht
    simp [sizeOf, typeInfo, go_sem, hi] at this; exact this
  have hzz : i.zero = some z := by unfold zeroB at hz; rw [hi] at hz; simpa using hz
  unfold Oper.wp
  by_cases h0 : n = 0
  · subst h0
    have hr : (execOp a.eval (⟨d, .call ⟨.builtin .append, #[x, y], #[T, T]⟩, ty, pos, after, gd⟩ : Oper)).run P w = .ok (.value (.slice a0 0 0)) w := by
      simp only [execOp, resolve, invoke, builtin, Sem.run_bind]
      have : (Builtin.append_ #[T, T] ty #[.slice a0 0 0, .slice a1 0 cap]).run P w = .ok (.slice a0 0 0) w := by
        cases a0 <;> cases a1 <;> simp [Builtin.append_, run_under hu, Sem.run_bind, run_size ht, Builtin.lenOf, Builtin.firstCells, loadCells, loadCellsFrom, storeCells]
      simp [e1, e2, Sem.run_bind, this]
    rw [hr]
    exact hK _ w F (Adv.refl _ _) ⟨a0, 0, rfl, Nat.le_refl _, by rw [maxLen_eq]; omega, g3, .inl rfl⟩
  · rcases g4 with g4 | ⟨b, off, rfl, hF, vs, hv, hc⟩
    · omega
    have hlen := hv.len
    have hnews : ∀ j u, vs[j]? = some u → w.cell? ((⟨b, off, none⟩ : Addr).add j) = some u := fun j u hj => by rw [add_mk]; exact hc j u hj
    have hbytes : n * i.bytes ≤ 281474976710656 := by have := Nat.mul_le_mul hn hb; omega
    have hfinish : ∀ cp, n ≤ cp → cp ≤ maxLen → ∀ zs : List Value,
        K (a.put d (.slice (some ⟨w.heap.size, 0, none⟩) n cp)) { w with heap := w.heap.push (.cells (vs ++ zs).toArray e), drawn := w.drawn + 1 } := by
      intro cp h1 h2 zs
      have ad : Adv w F { w with heap := w.heap.push (.cells (vs ++ zs).toArray e), drawn := w.drawn + 1 } (fun k => F k ∨ k = w.heap.size) :=
        ⟨⟨rfl, rfl, rfl, by simp, fun k hk _ => by simp [Array.getElem?_push, Nat.ne_of_lt hk]⟩, fun _ h => .inl h, fun k h => by
          rcases h with h | h
          · exact .inl h
          · exact .inr ⟨by omega, by simp; omega⟩⟩
      exact hK _ _ _ ad (SlL_new (T0 := e) (fr := (0, 0)) (more := zs) (All2.mono (ad.same s.flt) ad.sub _ _ hv) g3 (.inr rfl) (by simp) h1 h2)
    have hcell : vs.length = n * i.size := by rw [← hlen, g3, hsz]
    have hml : n ≤ maxLen := by rw [maxLen_eq]; omega
    have hge := grownCap_ge w n 0 e
    have hcm := grownCap_le_maxLen w n 0 e hml
    have earr : vs.toArray ++ Builtin.zeroCells z.cells (grownCap w n 0 e - n) = (vs ++ (Builtin.zeroCells z.cells (grownCap w n 0 e - n)).toList).toArray := by apply Array.ext'; simp
    rcases ha0 with rfl | ⟨g0, o0, rfl⟩
    · have hr := run_append_nil (P := P) w T ty e i z hu hi hzz ⟨b, off, none⟩ n cap vs hcell hnews (by omega) (by omega) hbytes
      have hr2 : (execOp a.eval (⟨d, .call ⟨.builtin .append, #[x, y], #[T, T]⟩, ty, pos, after, gd⟩ : Oper)).run P w = .ok (.value (.slice (some ⟨w.heap.size, 0, none⟩) n (grownCap w n 0 e))) { w with heap := w.heap.push (.cells (vs ++ (Builtin.zeroCells z.cells (grownCap w n 0 e - n)).toList).toArray e), drawn := w.drawn + 1 } := by
        simp only [execOp, resolve, invoke, builtin, Sem.run_bind]
        rw [← earr]
        simp [e1, e2, Sem.run_bind, hr]
        first | rfl | exact ⟨rfl, rfl⟩ | done
      rw [hr2]
      exact hfinish _ hge hcm _
    · have hr := run_append_grow (P := P) w T ty e i z hu hi hzz ⟨g0, o0, none⟩ 0 0 [] (by simp) (by simp) ⟨b, off, none⟩ n cap vs hcell hnews (by omega) (by omega) (by simp; unfold Builtin.nextslicecap; split <;> omega)
      have hr2 : (execOp a.eval (⟨d, .call ⟨.builtin .append, #[x, y], #[T, T]⟩, ty, pos, after, gd⟩ : Oper)).run P w = .ok (.value (.slice (some ⟨w.heap.size, 0, none⟩) n (grownCap w n 0 e))) { w with heap := w.heap.push (.cells (vs ++ (Builtin.zeroCells z.cells (grownCap w n 0 e - n)).toList).toArray e), drawn := w.drawn + 1 } := by
        simp only [execOp, resolve, invoke, builtin, Sem.run_bind]
        rw [← earr]
        simp [e1, e2, Sem.run_bind, hr]
        first | rfl | exact ⟨rfl, rfl⟩ | done
      rw [hr2]
      exact hfinish _ hge hcm _
theorem OK1.appendZM {e : TypeId} {g : Bool} {z : Value} (hT : slB P T = some e) (ht : tyB P e = some (1, g)) (hz : zeroB P e = some z) (hby : byLe P e 1024 = true) (hx : Has E Γ M x zcap) (hy : Has E Γ M y (SlM f xs)) (hn : xs.length ≤ 4294967296) :
    OK1 E P Γ M ⟨d, .call ⟨.builtin .append, #[x, y], #[T, T]⟩, ty, pos, after, gd⟩ (SlM f xs) := OK1.appendZ (m := 0) hT ht hz hby hx hy hn

/-- a slice held against nil -/
theorem Ops.eqNil {d : Nat} {e : TypeId} (hT : slB P T = some e) (hx : Has E Γ M x (SlM f xs)) (hd : Nat.blt d E.n = true)
    (k : ∀ b, (b = true → xs = []) → Ops E P ops Q rest ((d, isB b) :: Γ) M) : Ops E P ops Q (⟨some d, .binOp .eql T x (.const (.slice none 0 0)) T', ty, pos, after, none⟩ :: rest) Γ M := by
  intro a w F s
  refine wpList_plain rfl fun K hK => ?_
  unfold Oper.wp
  obtain ⟨a0, cap, e1, g1, g2, g3, g4⟩ := hx a w F s
  have hu := slB_under hT
  have key : ∀ n, (Op.equalIn (n + 1) T (.slice a0 xs.length cap) (.slice none 0 0)).run P w = .ok a0.isNone w := by
    intro n
    cases a0 <;> simp [Op.equalIn, Sem.run_bind, run_under hu]
  have hq : (Op.equal T (.slice a0 xs.length cap) (.slice none 0 0)).run P w = .ok a0.isNone w := key 9999
  have hr : (execOp a.eval (⟨some d, .binOp .eql T x (.const (.slice none 0 0)) T', ty, pos, after, none⟩ : Oper)).run P w = .ok (.value (.bool a0.isNone)) w := by
    have ec : a.eval (.const (.slice none 0 0)) = .slice none 0 0 := rfl
    simp only [execOp, e1, ec, eqGuard, binOp, Sem.run_bind]
    simp [hq, Sem.run_bind]
  rw [hr]
  have hd' : d < E.n := by simpa [Nat.blt_eq] using hd
  refine hK _ _ (k a0.isNone (fun h => ?_) _ _ F (s.put hd' rfl))
  rcases g4 with g4 | ⟨b, off, rfl, _⟩
  · exact List.eq_nil_of_length_eq_zero g4
  · simp at h

/-! ### bits of words -/
def andNot (m n : Nat) : Nat := (BitVec.ofNat 64 m &&& ~~~ (BitVec.ofNat 64 n)).toNat
theorem run_bits (op : BinOp) (m n : Nat) (r : Nat) (hop : op = .and ∨ op = .or ∨ op = .xor ∨ op = .andNot) (hr : (match op with | .and => (BitVec.ofNat 64 m &&& BitVec.ofNat 64 n) | .or => (BitVec.ofNat 64 m ||| BitVec.ofNat 64 n) | .xor => (BitVec.ofNat 64 m ^^^ BitVec.ofNat 64 n) | _ => (BitVec.ofNat 64 m &&& ~~~ (BitVec.ofNat 64 n))).toNat = r) (w : World) :
    (binOp op T (.int .u64 (m : Int)) (.int .u64 (n : Int))).run P w = .ok (.int .u64 (r : Int)) w := by
  have e1 : BitVec.ofInt IntKind.u64.bits (m : Int) = BitVec.ofNat 64 m := by show BitVec.ofInt 64 (m : Int) = _; simp
  have e2 : BitVec.ofInt IntKind.u64.bits (n : Int) = BitVec.ofNat 64 n := by show BitVec.ofInt 64 (n : Int) = _; simp
  have hlt : r < 18446744073709551616 := by rw [← hr]; split <;> exact BitVec.isLt _
  have hw : IntKind.u64.wrap (r : Int) = r := by rw [wrap_u64]; omega
  rcases hop with rfl | rfl | rfl | rfl <;> simp only [binOp, Op.intBits, e1, e2] <;> rw [← hw, ← hr] <;> rfl
variable {m n : Nat}
theorem OK1.andU (hx : Has E Γ M x (isU m)) (hy : Has E Γ M y (isU n)) : OK1 E P Γ M ⟨d, .binOp .and T x y T', ty, pos, after, gd⟩ (isU (m &&& n)) := by
  intro a w F s
  have h1 := (hx a w F s).2
  have h2 := (hy a w F s).2
  have e : (BitVec.ofNat 64 m &&& BitVec.ofNat 64 n).toNat = m &&& n := by simp [BitVec.toNat_and, Nat.mod_eq_of_lt h1, Nat.mod_eq_of_lt h2]
  exact OK1.bin (evU hx) (evU hy) (run_bits .and m n _ (by simp) e) (fun w F => isU_of rfl (Nat.lt_of_le_of_lt Nat.and_le_left h1) w F) a w F s
theorem OK1.orU (hx : Has E Γ M x (isU m)) (hy : Has E Γ M y (isU n)) : OK1 E P Γ M ⟨d, .binOp .or T x y T', ty, pos, after, gd⟩ (isU (m ||| n)) := by
  intro a w F s
  have h1 := (hx a w F s).2
  have h2 := (hy a w F s).2
  have e : (BitVec.ofNat 64 m ||| BitVec.ofNat 64 n).toNat = m ||| n := by simp [BitVec.toNat_or, Nat.mod_eq_of_lt h1, Nat.mod_eq_of_lt h2]
  exact OK1.bin (evU hx) (evU hy) (run_bits .or m n _ (by simp) e) (fun w F => isU_of rfl (by rw [← e]; exact BitVec.isLt _) w F) a w F s
theorem OK1.andNotU (hx : Has E Γ M x (isU m)) (hy : Has E Γ M y (isU n)) : OK1 E P Γ M ⟨d, .binOp .andNot T x y T', ty, pos, after, gd⟩ (isU (andNot m n)) :=
  OK1.bin (evU hx) (evU hy) (run_bits .andNot m n _ (by simp) rfl) (fun w F => isU_of rfl (BitVec.isLt _) w F)
end
end Go.En
namespace Go.En
open Go.RowKit
set_option linter.unusedVariables false
section
variable {E : Env} {P : Program} {Γ : Ctx} {M : Mem} {ty : TypeId} {pos : String} {after : Array Edge} {gd : Option (Nat × Bool)} {d : Option Tmp}
/-- a function of the library that has no body -/
structure IsExt (P : Program) (f : FuncId) (e : Array Value → Sem Value) : Prop where
  ex : ∃ fn, P.funcs[f]? = some fn ∧ (fn.name == "runtime.NumGoroutine") = false ∧ fn.body.isNone = true ∧ Extern.findNext fn = none ∧ Extern.find fn = some e
def subE : Array Value → Sem Value := match Extern.MathBitsCarry.rows with
  | [_, r] => r.2
  | _ => fun _ => pure undef
theorem run_ext {f : FuncId} {e : Array Value → Sem Value} (h : IsExt P f e) (args : Array Value) (w : World) : (callFunc f args).run P w = ((e args).run P w).andThen fun v w' => .ok (.value v) w' := by
  obtain ⟨fn, h1, h2, h3, h4, h5⟩ := h.ex
  have h2' : ¬ fn.name = "runtime.NumGoroutine" := by simpa using h2
  have h3' : fn.body = none := by simpa using h3
  simp [callFunc, go_sem, h1, h2', h3', h4, h5]
theorem OK1.ext3 {f : FuncId} {e : Array Value → Sem Value} {x y z : Operand} {ts : Array TypeId} {l m c : Nat} {S : VP} {v : Value} (h : IsExt P f e) (hx : Has E Γ M x (isU l)) (hy : Has E Γ M y (isU m)) (hz : Has E Γ M z (isU c))
    (hr : ∀ w, (e #[.int .u64 l, .int .u64 m, .int .u64 c]).run P w = .ok v w) (hS : ∀ w F, S.h w F v) : OK1 E P Γ M ⟨d, .call ⟨.value (.func f), #[x, y, z], ts⟩, ty, pos, after, gd⟩ S :=
  .run fun a w F s => ⟨v, by
    have := run_ext h #[.int .u64 l, .int .u64 m, .int .u64 c] w
    rw [hr w] at this
    have e1 := evU hx a w F s
    have e2 := evU hy a w F s
    have e3 := evU hz a w F s
    simp only [execOp, resolve, Deferred.ofValue, invoke, Sem.run_bind]
    have e4 : a.eval (.func f) = .func (.func f) #[] #[] := rfl
    simp [e1, e2, e3, e4, Deferred.ofValue, invoke, this], hS w F⟩
theorem OK1.add64 {f : FuncId} {x y z : Operand} {ts : Array TypeId} {l m c : Nat} (h : IsExt P f add64Entry) (hx : Has E Γ M x (isU l)) (hy : Has E Γ M y (isU m)) (hz : Has E Γ M z (isU c)) (hc : c ≤ 1) (h3 : l < 18446744073709551616 ∧ m < 18446744073709551616) :
    OK1 E P Γ M ⟨d, .call ⟨.value (.func f), #[x, y, z], ts⟩, ty, pos, after, gd⟩ (isTup [isU ((l + m + c) % 18446744073709551616), isU ((l + m + c) / 18446744073709551616)]) :=
  .ext3 h hx hy hz (v := .tuple #[.int .u64 (((l + m + c) % 18446744073709551616 : Nat) : Int), .int .u64 (((l + m + c) / 18446744073709551616 : Nat) : Int)]) (fun w => by
    have : c = 0 ∨ c = 1 := by omega
    rcases this with rfl | rfl <;> rfl)
    (fun w F => ⟨_, rfl, ⟨rfl, Nat.mod_lt _ (by decide)⟩, ⟨rfl, by omega⟩, trivial⟩)
theorem OK1.sub64 {f : FuncId} {x y z : Operand} {ts : Array TypeId} {l m c : Nat} (h : IsExt P f subE) (hx : Has E Γ M x (isU l)) (hy : Has E Γ M y (isU m)) (hz : Has E Γ M z (isU c)) (hc : c ≤ 1) (h3 : l < 18446744073709551616 ∧ m < 18446744073709551616) :
    OK1 E P Γ M ⟨d, .call ⟨.value (.func f), #[x, y, z], ts⟩, ty, pos, after, gd⟩ (isTup [isU ((l + 18446744073709551616 - m - c) % 18446744073709551616), isU (if l < m + c then 1 else 0)]) :=
  .ext3 h hx hy hz (v := .tuple #[.int .u64 (((l + 18446744073709551616 - m - c) % 18446744073709551616 : Nat) : Int), .int .u64 (((if l < m + c then 1 else 0) : Nat) : Int)]) (fun w => by
    have e0 : ∀ k : Nat, k ≤ 1 → (subE #[.int .u64 (l : Int), .int .u64 (m : Int), .int .u64 (k : Int)]).run P w = .ok (Extern.MathBitsCarry.pair ((l + Extern.MathBitsCarry.m64 - m - k) % Extern.MathBitsCarry.m64) (if l < m + k then 1 else 0)) w := by
      intro k hk
      have : k = 0 ∨ k = 1 := by omega
      rcases this with rfl | rfl <;> rfl
    rw [e0 c hc]
    rfl)
    (fun w F => ⟨_, rfl, ⟨rfl, Nat.mod_lt _ (by decide)⟩, ⟨rfl, by split <;> omega⟩, trivial⟩)

theorem OK1.buildS {T e : TypeId} {n m : Nat} {g : Bool} {z : Value} {ps : List (Nat × Operand)} (Z : List VP) {Z' : List VP} {S : VP} (hT : slB P T = some e) (ht : tyB P e = some (m, g)) (hz : zeroB P e = some z) (hZ : ∀ w F, All2 Z w F ((List.replicate n z.cells.toList).flatten)) (hnm : Nat.ble (n * m) 1000 = true) (hn0 : Nat.beq (n * m) 0 = false)
    (h : Parts E Γ M (fun i => some (i * m, m)) Z ps Z') (hl : Nat.beq Z'.length (n * m) = true) (hS : SlL m n Z' = S) : OK1 E P Γ M ⟨d, .buildSlice T n ps.toArray, ty, pos, after, gd⟩ S := by
  intro a w F s K Q hK
  have hu := slB_under hT
  have hnm' := Nat.le_of_ble_eq_true hnm
  have hn0' := Nat.ne_of_beq_eq_false hn0
  have hm : (n * z.cells.size) = n * m := by
    have h1 := (hZ w F).len
    have h2 := Nat.eq_of_beq_eq_true hl
    have h3 : Z'.length = Z.length := by
      clear h1 h2 hK hZ hS hl
      induction h with
      | nil => rfl
      | @cons Z Z' i off k x S0 Ss r sh a1 a2 a3 a4 _ ih =>
        rw [ih, spliceV_eq _ _ _ (by have := Nat.le_of_ble_eq_true a4; have := Nat.eq_of_beq_eq_true a3; omega)]
        have := Nat.le_of_ble_eq_true a4; have := Nat.eq_of_beq_eq_true a3
        simp; omega
    simp at h1
    omega
  have hz0 : z.cells.size = m := by
    rcases Nat.eq_zero_or_pos n with h0 | h0
    · subst h0; simp at hn0'
    · exact Nat.eq_of_mul_eq_mul_left h0 hm
  have hfl : ((Array.range (n * m)).map fun j => z.cells[j % z.cells.size]!) = ((List.replicate n z.cells.toList).flatten).toArray := make_flat hz0
  obtain ⟨cells, h1, h2⟩ := h.fill s ((List.replicate n z.cells.toList).flatten).toArray (by simpa using hZ w F)
  have hr : (execOp a.eval (⟨d, .buildSlice T n ps.toArray, ty, pos, after, gd⟩ : Oper)).run P w = .ok (.value (.slice (some ⟨w.heap.size, 0, none⟩) n n)) { w with heap := w.heap.push (.cells cells e) } := by
    have hmap : (ps.toArray.map fun (p : Nat × Operand) => (p.1, a.eval p.2)).toList = ps.map fun p => (p.1, a.eval p.2) := by simp
    have hbig : ¬ n * m > 2 ^ 24 := by omega
    simp only [execOp, Instr.buildSlice, Sem.run_bind, run_under hu, Result.andThen_ok, run_size ht, if_neg hbig, if_neg hn0', run_zero hz, Sem.run_pure, hmap, hfl, h1, newRow, run_newObj]
  unfold Oper.wp
  rw [hr]
  have ad := alloc_new s (.cells cells e)
  refine hK _ _ _ ad (hS ▸ ?_)
  have h2' := All2.mono (ad.same s.flt) ad.sub _ _ h2
  refine SlL_new (T0 := e) (fr := (0, 0)) (more := []) h2' (Nat.eq_of_beq_eq_true hl) (.inr rfl) (by simp) (Nat.le_refl _) ?_
  rw [maxLen_eq]
  rcases Nat.eq_zero_or_pos m with h0 | h0
  · subst h0; simp at hn0'
  · have := Nat.le_mul_of_pos_right n h0; omega
end
end Go.En
