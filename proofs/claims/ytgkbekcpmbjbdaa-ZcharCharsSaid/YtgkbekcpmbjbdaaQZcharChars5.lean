/- The law ZcharChars, as it is stated, of the given program, for every input; no condition. -/
import Derived.Test.YtgkbekcpmbjbdaaQZcharChars4
import Derived.Test.YtgkbekcpmbjbdaaRows
/- Matrices of whole numbers that a law is handed. -/
namespace Go.En
open Go.RowKit Go.ChangeShapes Go.WideShapes Go.ChangeAt
set_option linter.unusedVariables false
section
variable {H : Type} {enc : TypeId × Value → H} {P : Program}
theorem rd_Zs {W : World} {T e tb ts T' : TypeId} {fuel : Nat} {cs : List Value} {x : DataW H × List MemPlace} (hT : P.underlying T = some (.slice e)) (hfs : fsB P e = some [(tb, 0), (ts, 1)]) (hub : P.underlying tb = some .bool) (hu : P.underlying ts = some (.slice T')) (hu' : P.underlying T' = some (.int .u64)) (hc : P.cellsOf T' = 1) (hcb : P.cellsOf tb = 1) (hcs : P.cellsOf ts = 1) (hce : P.cellsOf e = 2)
    (hf : DataW.trod enc P W 0 (fun _ => true) true fuel T cs = some x) (hps : ∀ y ∈ x.2, y.block < W.heap.size) : ∃ (v : Value) (xs : List (Bool × List Nat)), cs = [v] ∧ (isZs xs).h W (fun b => b < W.heap.size) v := by
  obtain ⟨d, ps⟩ := x
  obtain ⟨fs, hue, hsz, hget⟩ := fsB_spec hfs
  obtain ⟨f0, g0, rfl, e0⟩ := hget 0 tb 0 rfl
  obtain ⟨f1, g1, rfl, e1⟩ := hget 1 ts 1 rfl
  have hfs2 : fs = #[f0, f1] := by
    apply Array.ext'
    have hl : fs.toList.length = 2 := by simpa using hsz
    match hq : fs.toList, hl with
    | [p, q], _ =>
      have a0 : fs.toList[0]? = some f0 := by simpa using g0
      have a1 : fs.toList[1]? = some f1 := by simpa using g1
      rw [hq] at a0 a1
      simp at a0 a1
      rw [a0, a1]
  subst hfs2
  rcases Deep.open_slice_pairs hT hue hce e0 e1 hcb hcs hf with ⟨h1, _⟩ | ⟨a, len, cap, m, n, V0, V1, D0, D1, P0, P1, h1, _, hlc, hcm, hm, hx, hel⟩
  · exact ⟨_, [], h1, nilK⟩
  · simp only [if_true] at hm
    subst m
    have hps' : ∀ i, i < cap → ∀ y ∈ P1 i, y.block < W.heap.size := fun i hi y hy => hps y (by
      have := (Prod.mk.inj hx).2
      rw [this]
      exact List.mem_append_right _ (List.mem_flatMap.2 ⟨i, List.mem_range.2 hi, List.mem_append_right _ hy⟩))
    obtain ⟨l, hl, hgl⟩ := list_of_get (p := fun i (x : Bool × List Nat) => V0 i = .bool x.1 ∧ (isWords x.2).h W (fun b => b < W.heap.size) (V1 i)) len (fun i hi => by
      obtain ⟨_, _, q0, q1⟩ := hel i (by omega)
      obtain ⟨b, hb, _⟩ := DataW.trod_bool hub q0
      obtain ⟨v, ws, hv1, hw⟩ := rd_row hu hu' hc word_of q1 (hps' i (by omega))
      obtain rfl : V1 i = v := by simpa using hv1
      exact ⟨(b, ws), by simpa using hb, hw⟩)
    refine ⟨_, l, h1, some a, cap, by rw [hl], by rw [hl]; exact hlc, hcm, flat_len zc_len l, ?_⟩
    rcases Nat.eq_zero_or_pos len with h0 | h0
    · exact .inl (by omega)
    · have hc0 := (hel 0 (by omega)).1
      have hs : a.spot = none := by
        cases hsp : a.spot with
        | none => rfl
        | some s =>
          simp only [Addr.add, Nat.zero_mul, if_true] at hc0
          unfold World.cell? at hc0
          rw [hsp] at hc0
          split at hc0 <;> simp at hc0
      obtain ⟨b, off, sp⟩ := a
      simp only at hs
      subst hs
      right
      refine ⟨b, off, rfl, ?_, (List.range len).flatMap (fun i => [V0 i, V1 i]), ?_, fun j u hj => ?_⟩
      · have : MemPlace.cell b (off + 0) ∈ ps := by
          have := (Prod.mk.inj hx).2
          rw [this]
          exact List.mem_append_left _ (List.mem_map.2 ⟨0, by simp; omega, rfl⟩)
        exact hps _ this
      · have hlen2 : ((List.range len).flatMap fun i => [V0 i, V1 i]).length = len * 2 := by
          have := flat_len (fk := fun (i : Nat) => [isB true, isB true]) (k := 2) (fun _ => rfl) (List.range len)
          rw [List.length_flatMap] at this ⊢
          simpa using this
        refine all2_of_get (by rw [flat_len zc_len, hlen2, hl]) (fun j S v hS hv => ?_)
        have hz := pair_get (fun p : Bool × List Nat => isB p.1) (fun p => isWords p.2) l j
        rw [show (l.flatMap fun a => [isB a.1, isWords a.2]) = l.flatMap zc from rfl, hS] at hz
        have hw := pair_get V0 V1 (List.range len) j
        rw [hv] at hw
        have hj : j / 2 < l.length := by
          rcases Nat.lt_or_ge (j / 2) l.length with h | h
          · exact h
          · rw [List.getElem?_eq_none h] at hz; cases hz
        rw [List.getElem?_eq_getElem hj] at hz
        rw [List.getElem?_range (by omega)] at hw
        simp only [Option.map_some, Option.some.injEq] at hz hw
        obtain ⟨k1, k2⟩ := hgl (j / 2) hj
        subst hz; subst hw
        by_cases hp : j % 2 = 0
        · rw [if_pos hp, if_pos hp, k1]; rfl
        · rw [if_neg hp, if_neg hp]; exact k2
      · have hw := pair_get V0 V1 (List.range len) j
        rw [hj] at hw
        have hjl : j / 2 < len := by
          rcases Nat.lt_or_ge (j / 2) len with h | h
          · exact h
          · rw [List.getElem?_eq_none (by simpa using h)] at hw; cases hw
        rw [List.getElem?_range hjl] at hw
        simp only [Option.map_some, Option.some.injEq] at hw
        obtain ⟨q0, q1, _, _⟩ := hel (j / 2) (by omega)
        rw [add_mk] at q0
        rw [add_mk] at q1
        by_cases hp : j % 2 = 0
        · rw [if_pos hp] at hw; subst hw
          rw [show off + j = off + j / 2 * 2 by omega]; exact q0
        · rw [if_neg hp] at hw; subst hw
          rw [show off + j = off + (j / 2 * 2 + 1) by omega]; exact q1
/-- two sides and numbers -/
theorem open_M {W : World} {base : Nat} {T ti tm e tb ts T' : TypeId} {v : Value} {d : DataW H} {ps : List MemPlace} (hfM : fsB P T = some [(ti, 0), (ti, 1), (tm, 2)]) (hui : P.underlying ti = some (.int .i64)) (hT : P.underlying tm = some (.slice e)) (hfs : fsB P e = some [(tb, 0), (ts, 1)]) (hub : P.underlying tb = some .bool) (hu : P.underlying ts = some (.slice T')) (hu' : P.underlying T' = some (.int .u64)) (hc : P.cellsOf T' = 1) (hcb : P.cellsOf tb = 1) (hcs : P.cellsOf ts = 1) (hce : P.cellsOf e = 2)
    (hci : P.cellsOf ti = 1) (hcm : P.cellsOf tm = 1) (hcT : P.cellsOf T = 3) (hv : Value.okWide P W .any base T v) (h : DataW.Trod enc P W 0 (fun _ => true) true T v d ps) (hps : ∀ x ∈ ps, x.block < W.heap.size) : ∃ x : Int × Int × List (Bool × List Nat), (isM x.1 x.2.1 x.2.2).h W (fun b => b < W.heap.size) v := by
  obtain ⟨fs, huT, hsz, hget⟩ := fsB_spec hfM
  have hv' := hv
  simp only [Value.okWide, huT] at hv'
  obtain ⟨cs, rfl, _, _⟩ := hv'
  obtain ⟨fuel, hf⟩ := h
  obtain ⟨xs, m, _, hx, hl, hxl, hfe⟩ := DataW.trod_struct huT hf
  simp [Value.cells] at hl hx
  obtain ⟨f0, g0, rfl, e0⟩ := hget 0 ti 0 rfl
  obtain ⟨f1, g1, k1, e1⟩ := hget 1 _ 1 rfl
  obtain ⟨f2, g2, rfl, e2⟩ := hget 2 tm 2 rfl
  have h0 := hfe 0 f0 g0
  have h1 := hfe 1 f1 g1
  have h2 := hfe 2 f2 g2
  rw [List.getElem?_eq_getElem (by rw [hxl, hsz]; simp)] at h0 h1 h2
  rw [e0, hci] at h0
  rw [e1, k1, hci] at h1
  rw [e2, hcm] at h2
  obtain ⟨r, hr, hr1, hr2⟩ := rd_I hui h0
  obtain ⟨c, hc1, hc2, hc3⟩ := rd_I hui h1
  obtain ⟨u, ws, hu1, hw⟩ := rd_Zs hT hfs hub hu hu' hc hcb hcs hce h2 (fun y hy => hps y (by
    rw [hx.2]
    exact List.mem_flatMap.2 ⟨_, List.getElem_mem _, hy⟩))
  refine ⟨(r, c, ws), cs.toList, by simp, ?_⟩
  have hcs2 : cs.toList = [.int .i64 r, .int .i64 c, u] := by
    have hlen : cs.toList.length = 3 := by rw [← hcT]; simpa using hl
    match hq : cs.toList, hlen with
    | [p, q, t], _ =>
      have a1 : [p] = [Value.int .i64 r] := by have := hr; simpa [Value.cells, hq] using this
      have a2 : [q] = [Value.int .i64 c] := by have := hc1; simpa [Value.cells, hq] using this
      have a3 : [t] = [u] := by have := hu1; simpa [Value.cells, hq] using this
      rw [List.cons.inj a1 |>.1, List.cons.inj a2 |>.1, List.cons.inj a3 |>.1]
  rw [hcs2]
  exact ⟨⟨rfl, hr1, hr2⟩, ⟨rfl, hc2, hc3⟩, hw, trivial⟩
end
end Go.En
/- A law of layer 26, as it is stated. -/
namespace Go.Proofs.Ytgkbekcpmbjbdaa
open Go.En Go.RowKit
set_option linter.unusedVariables false
set_option maxRecDepth 10000
open Go.ChangeShapes
open Go.WideShapes
open Go.ChangeAt
open Go.Nt
open Go.Pz
open Go.Mz
theorem opens_ZcharChars : Opens Try.prog Try.f5 5 := by
  intro H enc W base args ds ps hval hA hlt
  rw [Try.params5] at hA hval
  obtain ⟨v0, vs0, d0, ds0, p0, q0, hargs, rfl, rfl, h0, r0⟩ := trodAll_cons hA
  obtain ⟨rfl, rfl, rfl⟩ := trodAll_nil r0
  obtain rfl : args = #[v0] := by cases args; simp_all
  obtain ⟨x0, o0⟩ := open_M fs24 un3 un22 fs44 un4 un42 un59 (by kernel_rfl) (by kernel_rfl) (by kernel_rfl) (by kernel_rfl) (by kernel_rfl) (by kernel_rfl) (by kernel_rfl) (hval 0 24 v0 rfl rfl) h0 (fun x hx => hlt x (by simp [hx]))
  refine ⟨_, ?_, c_ZcharChars x0.1 x0.2.1 x0.2.2⟩
  exact ⟨o0, trivial⟩
theorem zcharChars_said : Rows.ZcharCharsSaid :=
  OpenClaim.holds_of_wide 5 Try.f5 rfl rfl rfl rfl rfl rfl rfl ⟨rfl, rfl, rfl, rfl, rfl⟩ rfl rfl rfl rfl rfl (by kernel_rfl) Try.func5 (by kernel_rfl)
    (of_decide_eq_true (by kernel_rfl)) (by unfold Func.isWrapper; first | (rw [if_pos (by decide +kernel)]; kernel_rfl) | (rw [if_neg (by decide +kernel)]; exact ⟨rfl, rfl⟩))
    (fun os started H enc _ => lift_law (C := Try.checked) (s := Rows.zcharCharsSpec) (by kernel_rfl) started (by kernel_rfl) Try.func5
      (ChangeSpec.witness6 (enc := enc) (C := Try.checked) false ⟨#[], #[.agg #[.int .i64 0, .int .i64 0, .slice none 0 0]], []⟩ 8 (by kernel_rfl) (by kernel_rfl) (by kernel_rfl) (by kernel_rfl))
      (by kernel_rfl) (by kernel_rfl) rfl rfl un4 (fun ds h => by match ds, h with | [d0], _ => rfl) opens_ZcharChars)
#print axioms zcharChars_said
end Go.Proofs.Ytgkbekcpmbjbdaa
