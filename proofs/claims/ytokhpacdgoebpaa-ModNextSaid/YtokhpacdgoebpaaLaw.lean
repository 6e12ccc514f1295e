/- From a contract to the given statement of a law. -/
import Derived.Test.YtokhpacdgoebpaaRul
import Derived.ProofKit
import Derived.OpenShut
import Derived.ChangeOld
import Derived.Carry
namespace Go.En
open Go.RowKit Go.ChangeShapes Go.WideShapes Go.ChangeAt
set_option linter.unusedVariables false

section
variable {H : Type} {enc : TypeId × Value → H} {P : Program}

theorem trodAll_below (hl : laidOutB P = true) {W W' : World} (hb : Below W.heap.size W W') : ∀ {ts : List TypeId} {vs : List Value} {ds : List (DataW H)} {ps : List MemPlace},
    (ts.all fun t => P.readableRec t && decide (t < P.types.size)) = true → DataW.TrodAll enc P W 0 (fun _ => true) true ts vs ds ps → (∀ x ∈ ps, x.block < W.heap.size) →
    DataW.TrodAll enc P W' 0 (fun b => decide (b < W.heap.size)) true ts vs ds ps
  | [], vs, ds, ps, _, h, _ => by
    obtain ⟨rfl, rfl, rfl⟩ := trodAll_nil h; exact trodAll_mk0
  | t :: ts, vs, ds, ps, hr, h, hp => by
    obtain ⟨v, vs', d, ds', p, q, rfl, rfl, rfl, h1, h2⟩ := trodAll_cons h
    simp only [List.all_cons, Bool.and_eq_true] at hr
    exact trodAll_cons_mk (Below.trod hl hr.1.1 (of_decide_eq_true hr.1.2) h1 hb (fun x hx => hp x (by simp [hx]))) (trodAll_below hl hb hr.2 h2 (fun x hx => hp x (by simp [hx])))

theorem trodAll_len : ∀ {ts : List TypeId} {vs : List Value} {ds : List (DataW H)} {ps : List MemPlace} {W : World} {base : Nat} {sp : Nat → Bool} {hd : Bool}, DataW.TrodAll enc P W base sp hd ts vs ds ps → vs.length = ts.length ∧ ds.length = ts.length
  | [], vs, ds, ps, _, _, _, _, h => by obtain ⟨rfl, rfl, rfl⟩ := trodAll_nil h; exact ⟨rfl, rfl⟩
  | t :: ts, vs, ds, ps, _, _, _, _, h => by
    obtain ⟨v, vs', d, ds', p, q, rfl, rfl, rfl, h1, h2⟩ := trodAll_cons h
    have := trodAll_len h2
    exact ⟨by simp [this.1], by simp [this.2]⟩

/-- what a law's arguments are, as predicates -/
def Opens (P : Program) (fn : Func) (f : FuncId) : Prop := ∀ (H : Type) (enc : TypeId × Value → H) (W : World) (base : Nat) (args : Array Value) (ds : List (DataW H)) (ps : List MemPlace),
  (∀ (j : Nat) t v, fn.params[j]? = some t → args[j]? = some v → Value.okWide P W .any base t v) → DataW.TrodAll enc P W 0 (fun _ => true) true fn.params.toList args.toList ds ps →
  (∀ x ∈ ps, x.block < W.heap.size) → ∃ Ss, All2 Ss W (fun b => b < W.heap.size) args.toList ∧ Ctr P f Ss (isB true)

theorem lift_law {C : Checked} {os : Os} {f : FuncId} {fn : Func} {s : ChangeSpec} {conds : List PathCond} {tb : TypeId}
    (own : ownKnob C.prog.godebug = none) (started : os.Started) (noInit : C.prog.inits.idxOf? f = none) (hfn : C.prog.funcs[f]? = some fn)
    (witness : ∃ (w : World) (tape : Tape) (i : Input), w.os = os ∧ (w.forCall tape i).Shaped C.prog ∧ i.vars = [] ∧ Input.okWide C.prog (w.forCall tape i) .any w.heap.size f i ∧
      s.pre6 enc C.prog fn conds false (w.forCall tape i).memory i.args ∧ ({} : Assume).holds C.prog (lone (Frame.enter C.prog f i.args .normal) [] (w.forCall tape i)))
    (hl : laidOutB C.prog = true) (hpar : (fn.params.toList.all fun t => C.prog.readableRec t && decide (t < C.prog.types.size)) = true) (hvars : s.vars = [])
    (hres : fn.resultTypes = #[tb]) (htb : C.prog.underlying tb = some .bool)
    (hs : ∀ ds : List (DataW H), ds.length = fn.params.toList.length → s.fn H ds = { results := [.lit (.bool true)], args := ds }) (hopen : Opens C.prog fn f) :
    ReturnsInHanded {} C os f .any (s.pre6 enc C.prog fn conds false) (s.post enc C.prog fn false true false false) := by
  refine returnsInHanded_of_change (C := C) own started noInit hfn witness ?_
  intro W base args ds gs before hval hW hcnd _
  have hW' := hW
  obtain ⟨p, q, hA0, hV, rfl, hfz, hnd⟩ := hW
  have hA : DataW.TrodAll enc C.prog W 0 (fun _ => true) true fn.params.toList args.toList ds p := hA0
  rw [hvars] at hV
  obtain ⟨rfl, rfl⟩ := trodVars_none hV
  have hlt : ∀ x ∈ p, x.block < W.heap.size := fun x hx => hW'.lt x (by simp [hx])
  obtain ⟨Ss, h1, h2⟩ := hopen H enc W base args ds p hval hA hlt
  have hlen := trodAll_len hA
  refine (h2.2 W _ args.toList (fun _ h => h) h1).mono fun e W' => ?_
  rintro ⟨v, rfl, hk, hv⟩
  obtain rfl : v = .bool true := hv
  have bel := hk.below
  refine ⟨_, rfl, _, _, _, [], p, [], hW', ?_, ?_, ?_, ?_, fun h => by cases h⟩
  · rw [List.append_nil, hs ds hlen.2, hres]
    exact trodAll_mk1 (shut_bool htb _)
  · rw [List.append_nil, hs ds hlen.2]
    exact trodAll_below hl bel hpar hA hlt
  · rw [List.append_nil, hs ds hlen.2, hvars]; exact hV
  · exact bel.frame _

theorem open_K {W : World} {base : Nat} {T : TypeId} {k : IntKind} {v : Value} {d : DataW H} {ps : List MemPlace} (hu : P.underlying T = some (.int k)) (hv : Value.okWide P W .any base T v)
    (h : DataW.Trod enc P W 0 (fun _ => true) true T v d ps) : ∃ z, v = .int k z ∧ rng k z := by
  obtain ⟨n, rfl, _, _, hw⟩ := open_int hu hv h
  exact ⟨n, rfl, by simpa [Lit.wf, rng] using hw⟩
theorem open_U {W : World} {base : Nat} {T : TypeId} {v : Value} {d : DataW H} {ps : List MemPlace} (hu : P.underlying T = some (.int .u64)) (hv : Value.okWide P W .any base T v)
    (h : DataW.Trod enc P W 0 (fun _ => true) true T v d ps) : ∃ n : Nat, ∀ F, (isU n).h W F v := by
  obtain ⟨z, rfl, h1, h2⟩ := open_K hu hv h
  simp [IntKind.min, IntKind.max, IntKind.signed, IntKind.bits] at h1 h2
  exact ⟨z.toNat, fun F => ⟨by rw [Int.toNat_of_nonneg h1], by omega⟩⟩
theorem open_I {W : World} {base : Nat} {T : TypeId} {v : Value} {d : DataW H} {ps : List MemPlace} (hu : P.underlying T = some (.int .i64)) (hv : Value.okWide P W .any base T v)
    (h : DataW.Trod enc P W 0 (fun _ => true) true T v d ps) : ∃ z : Int, ∀ F, (isI z).h W F v := by
  obtain ⟨z, rfl, h1, h2⟩ := open_K hu hv h
  simp [IntKind.min, IntKind.max, IntKind.signed, IntKind.bits] at h1 h2
  exact ⟨z, fun F => ⟨rfl, by omega, by omega⟩⟩
/-- an unsigned one as a natural -/
theorem open_N {W : World} {base : Nat} {T : TypeId} {k : IntKind} {v : Value} {d : DataW H} {ps : List MemPlace} (hu : P.underlying T = some (.int k)) (hk : k.min = 0) (hv : Value.okWide P W .any base T v)
    (h : DataW.Trod enc P W 0 (fun _ => true) true T v d ps) : ∃ n : Nat, ∀ F, (isK k (n : Int)).h W F v := by
  obtain ⟨z, rfl, h1, h2⟩ := open_K hu hv h
  rw [hk] at h1
  exact ⟨z.toNat, fun F => ⟨by rw [Int.toNat_of_nonneg h1], by rw [Int.toNat_of_nonneg h1]; exact ⟨by rw [hk]; exact h1, h2⟩⟩⟩
theorem open_Kz {W : World} {base : Nat} {T : TypeId} {k : IntKind} {v : Value} {d : DataW H} {ps : List MemPlace} (hu : P.underlying T = some (.int k)) (hv : Value.okWide P W .any base T v)
    (h : DataW.Trod enc P W 0 (fun _ => true) true T v d ps) : ∃ z : Int, ∀ F, (isK k z).h W F v := by
  obtain ⟨z, rfl, h1⟩ := open_K hu hv h
  exact ⟨z, fun F => ⟨rfl, h1⟩⟩

/-- reading: what the cells of a value are -/
theorem rd_K {w : World} {sp : Nat → Bool} {fuel : Nat} {T : TypeId} {k : IntKind} {cs : List Value} {x : DataW H × List MemPlace} (hu : P.underlying T = some (.int k)) (h : DataW.trod enc P w 0 sp true fuel T cs = some x) :
    ∃ z, cs = [.int k z] ∧ rng k z := by
  obtain ⟨n, hc, _, hw⟩ := DataW.trod_int hu h
  exact ⟨n, hc, by simpa [Lit.wf, rng] using hw⟩
theorem rd_U {w : World} {sp : Nat → Bool} {fuel : Nat} {T : TypeId} {cs : List Value} {x : DataW H × List MemPlace} (hu : P.underlying T = some (.int .u64)) (h : DataW.trod enc P w 0 sp true fuel T cs = some x) :
    ∃ n : Nat, cs = [.int .u64 (n : Int)] ∧ n < 18446744073709551616 := by
  obtain ⟨z, rfl, h1, h2⟩ := rd_K hu h
  simp [IntKind.min, IntKind.max, IntKind.signed, IntKind.bits] at h1 h2
  exact ⟨z.toNat, by rw [Int.toNat_of_nonneg h1], by omega⟩
theorem rd_I {w : World} {sp : Nat → Bool} {fuel : Nat} {T : TypeId} {cs : List Value} {x : DataW H × List MemPlace} (hu : P.underlying T = some (.int .i64)) (h : DataW.trod enc P w 0 sp true fuel T cs = some x) :
    ∃ z : Int, cs = [.int .i64 z] ∧ -9223372036854775808 ≤ z ∧ z < 9223372036854775808 := by
  obtain ⟨z, rfl, h1, h2⟩ := rd_K hu h
  simp [IntKind.min, IntKind.max, IntKind.signed, IntKind.bits] at h1 h2
  exact ⟨z, rfl, by omega, by omega⟩
theorem list_of_get {α : Type} {p : Nat → α → Prop} : ∀ (n : Nat), (∀ i, i < n → ∃ a, p i a) → ∃ l : List α, l.length = n ∧ ∀ i (h : i < l.length), p i l[i]
  | 0, _ => ⟨[], rfl, fun i h => absurd h (by simp)⟩
  | n + 1, h => by
    obtain ⟨l, h1, h2⟩ := list_of_get n (fun i hi => h i (by omega))
    obtain ⟨a, ha⟩ := h n (by omega)
    refine ⟨l ++ [a], by simp [h1], fun i hi => ?_⟩
    rcases Nat.lt_or_ge i l.length with h3 | h3
    · rw [List.getElem_append_left h3]; exact h2 i h3
    · have : i = n := by simp at hi; omega
      subst this
      rw [List.getElem_append_right h3]; simpa [h1] using ha
theorem all2_of_get : ∀ {Ss : List VP} {w : World} {F : Blk} {vs : List Value}, Ss.length = vs.length → (∀ (i : Nat) (S : VP) (v : Value), Ss[i]? = some S → vs[i]? = some v → S.h w F v) → All2 Ss w F vs
  | [], _, _, [], _, _ => trivial
  | S :: Ss, _, _, v :: vs, hl, h => ⟨h 0 S v rfl rfl, all2_of_get (by simpa using hl) (fun i S' v' h1 h2 => h (i + 1) S' v' (by simpa using h1) (by simpa using h2))⟩
  | [], _, _, _ :: _, hl, _ => by simp at hl
  | _ :: _, _, _, [], hl, _ => by simp at hl
/-- an array of words -/
theorem open_arrU {W : World} {base n : Nat} {T T' : TypeId} {v : Value} {d : DataW H} {ps : List MemPlace} (hu : P.underlying T = some (.array n T')) (hu' : P.underlying T' = some (.int .u64)) (h1 : P.cellsOf T' = 1) (hc : P.cellsOf T = n)
    (hv : Value.okWide P W .any base T v) (h : DataW.Trod enc P W 0 (fun _ => true) true T v d ps) : ∃ ns : List Nat, ns.length = n ∧ ∀ F, (Flat (ns.map isU)).h W F v := by
  have hv' := hv
  simp only [Value.okWide, hu] at hv'
  obtain ⟨cs, rfl, hsz, _⟩ := hv'
  obtain ⟨fuel, hf⟩ := h
  obtain ⟨xs, m, _, _, hl, hxl, hget⟩ := DataW.trod_array hu hf
  simp [Value.cells] at hl
  obtain ⟨ns, e1, e2⟩ := list_of_get (p := fun i (a : Nat) => cs.toList[i]? = some (.int .u64 (a : Int)) ∧ a < 18446744073709551616) n (fun i hi => by
    have hg := hget i hi
    rw [List.getElem?_eq_getElem (by omega)] at hg
    obtain ⟨a, h2, h3⟩ := rd_U hu' hg
    refine ⟨a, ?_, h3⟩
    rw [h1] at h2
    have hlt : i < cs.toList.length := by simp; omega
    have : ((cs.toList.drop (i * 1)).take 1)[0]? = some (.int .u64 (a : Int)) := by
      have h4 : (cs.toList.drop (i * 1)).take 1 = [.int .u64 (a : Int)] := by simpa [Value.cells] using h2
      rw [h4]; rfl
    rw [List.getElem?_take_of_lt (by omega), List.getElem?_drop] at this
    simpa using this)
  refine ⟨ns, e1, fun F => ⟨cs.toList, by simp, all2_of_get (by simp [e1]; omega) (fun i S v hS hv => ?_)⟩⟩
  rw [List.getElem?_map] at hS
  have hi : i < ns.length := by
    rcases Nat.lt_or_ge i ns.length with h | h
    · exact h
    · rw [List.getElem?_eq_none h] at hS; cases hS
  rw [List.getElem?_eq_getElem hi] at hS
  simp at hS; subst hS
  obtain ⟨h5, h6⟩ := e2 i hi
  rw [hv] at h5
  exact ⟨Option.some.inj h5, h6⟩
theorem open_arrU3 {W : World} {base : Nat} {T T' : TypeId} {v : Value} {d : DataW H} {ps : List MemPlace} (hu : P.underlying T = some (.array 3 T')) (hu' : P.underlying T' = some (.int .u64)) (h1 : P.cellsOf T' = 1) (hc : P.cellsOf T = 3)
    (hv : Value.okWide P W .any base T v) (h : DataW.Trod enc P W 0 (fun _ => true) true T v d ps) : ∃ x : Nat × Nat × Nat, ∀ F, (Flat [isU x.1, isU x.2.1, isU x.2.2]).h W F v := by
  obtain ⟨ns, hn, hF⟩ := open_arrU hu hu' h1 hc hv h
  match ns, hn with
  | [a, b, c], _ => exact ⟨(a, b, c), hF⟩
end
end Go.En
