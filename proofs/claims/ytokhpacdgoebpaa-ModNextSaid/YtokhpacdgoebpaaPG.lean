/- Primes stand close: below 2^20 within 200. No program here. -/
import Derived.Test.YtokhpacdgoebpaaGfpM
import Derived.KernelRfl
namespace Go.Gf
/-- the product of 1 to 1024 -/
def F24 : Nat := 541852879605885728307692194468385473800155396353801344448287027068321061207337660373314098413621458671907918845708980753931994165770187368260454133333721939108367528012764993769768292516937891165755680659663747947314518404886677672556125188694335251213677274521963430770133713205796248433128870088436171654690237518390452944732277808402932158722061853806162806063925435310822186848239287130261690914211362251144684713888587881629252104046295315949943900357882410243934315037444113890806181406210863953275235375885018598451582229599654558541242789130902486944298610923153307579131675745146436304024890820442907734561827369030502252796926553072967370990758747793127635104702469889667961462133026237158973227857814631807156427767644064591085076564783456324457736853810336981776080498707767046394272605341416779125697733374568037475186676265961665615884681450263337042522664141862157046825684773360944326737493676674915098953768112945831626643856479027816385730291542667725665642276826058264393884514911976419675509290208592713156362983290989441052732125187249527501314071676405516936190781821236701912295767363117054126589929916482008515781751955466910902838729232224509906388638147771255227782631322385756948819393658889908993670874516860653098411020299853816281564334981847105777839534742531499622103488807584513705769839763993103929665046046121166651345131149513657400869056334867859885025601787284982567787314407216524272262997319791568603629406624740101482697559533155736658800562921274680657285201570401940692285557800611429055755324549794008939849146812639860750085263298820224719585505344773711590656682821041417265040658600683844945104354998812886801316551551714673388323340851763819713591312372548673734783537316341517369387565212899726597964903241208727348690699802996369265070088758384854547542272771024255049902319275830918157448205196421072837204937293516175341957775422453152442280391372407717891661203061040255830055033886790052116025408740454620938384367637886658769912790922323717371343176067483352513629123362885893627132294183565884010418727869354439077085278288558308427090461075019007184933139915558212752392329879780649639075333845719173822840501869570463626600235265587502335595489311637509380219119860471335771652403999403296360245577257963673286654348957325740999710567131623272345766761937651408103999193633908286420510098577454524068106897392493138287362226257920000000000000000000000000000000000000000000000000000000000000000000000000000000000000000000000000000000000000000000000000000000000000000000000000000000000000000000000000000000000000000000000000000000000000000000000000000000000000000000000000000000000000
def F32 : Nat := 263130836933693530167218012160000000
def dvB (F : Nat) : Nat → Bool
  | 0 => true
  | e + 1 => Nat.beq (F % (e + 1)) 0 && dvB F e
theorem dvB_spec {F : Nat} : ∀ {n : Nat}, dvB F n = true → ∀ e, 1 ≤ e → e ≤ n → e ∣ F
  | 0, _, e, h1, h2 => by omega
  | n + 1, h, e, h1, h2 => by
    simp only [dvB, Bool.and_eq_true] at h
    rcases Nat.lt_or_ge e (n + 1) with h3 | h3
    · exact dvB_spec h.2 e h1 (by omega)
    · obtain rfl : e = n + 1 := by omega
      exact Nat.dvd_of_mod_eq_zero (Nat.eq_of_beq_eq_true h.1)
def tst (q : Nat) : Bool := Nat.ble 2 q && ((Nat.blt q 1050625 && Nat.beq (Nat.gcd q F24) 1) || (Nat.blt q 1089 && Nat.beq (Nat.gcd q F32) 1) || (Nat.blt q 36 && Nat.beq (Nat.gcd q 120) 1))
def anyT (a : Nat) : Nat → Bool
  | 0 => false
  | j + 1 => tst (a + j) || anyT a j
def cov : Nat → Bool
  | 0 => true
  | k + 1 => anyT (80 * k + 80) 121 && cov k
theorem noDiv_gcd {q F d : Nat} (h : ∀ e, 1 ≤ e → e ≤ d → e ∣ F) (hg : Nat.gcd q F = 1) : NoDiv q (d + 1) := by
  intro e h1 h2 h3
  have h4 : e ∣ Nat.gcd q F := Nat.dvd_gcd h3 (h e (by omega) (by omega))
  rw [hg] at h4
  have := Nat.le_of_dvd (by decide) h4
  omega
theorem dv24 : dvB F24 1024 = true := by kernel_rfl
theorem dv32 : dvB F32 32 = true := by kernel_rfl
theorem dv5 : dvB 120 5 = true := by kernel_rfl
theorem tst_prime {q : Nat} (h : tst q = true) : pr q = true := by
  unfold tst at h
  simp only [Bool.and_eq_true, Bool.or_eq_true] at h
  obtain ⟨h2, h⟩ := h
  have h2' := Nat.le_of_ble_eq_true h2
  refine pr_iff.2 ?_
  rcases h with (⟨h3, h4⟩ | ⟨h3, h4⟩) | ⟨h3, h4⟩
  · rw [Nat.blt_eq] at h3
    exact ⟨prime_of_noDiv h2' (noDiv_gcd (dvB_spec dv24) (Nat.eq_of_beq_eq_true h4)) (by omega), by omega⟩
  · rw [Nat.blt_eq] at h3
    exact ⟨prime_of_noDiv h2' (noDiv_gcd (dvB_spec dv32) (Nat.eq_of_beq_eq_true h4)) (by omega), by omega⟩
  · rw [Nat.blt_eq] at h3
    exact ⟨prime_of_noDiv h2' (noDiv_gcd (dvB_spec dv5) (Nat.eq_of_beq_eq_true h4)) (by omega), by omega⟩
theorem anyT_spec {a : Nat} : ∀ {j : Nat}, anyT a j = true → ∃ q, a ≤ q ∧ q < a + j ∧ pr q = true
  | 0, h => by cases h
  | j + 1, h => by
    simp only [anyT, Bool.or_eq_true] at h
    rcases h with h | h
    · exact ⟨a + j, by omega, by omega, tst_prime h⟩
    · obtain ⟨q, h1, h2, h3⟩ := anyT_spec h
      exact ⟨q, h1, by omega, h3⟩
theorem cov_spec : ∀ {K : Nat}, cov K = true → ∀ k, k < K → ∃ q, 80 * k + 80 ≤ q ∧ q < 80 * k + 80 + 121 ∧ pr q = true
  | 0, _, k, hk => by omega
  | K + 1, h, k, hk => by
    simp only [cov, Bool.and_eq_true] at h
    rcases Nat.lt_or_ge k K with h1 | h1
    · exact cov_spec h.2 k h1
    · obtain rfl : k = K := by omega
      exact anyT_spec h.1
theorem cov_all : cov 13108 = true := by kernel_rfl
theorem least_of {p : Nat → Bool} : ∀ (d n q : Nat), q = n + d → 0 < d → p q = true → ∃ q', n < q' ∧ q' ≤ q ∧ p q' = true ∧ ∀ k, n < k → k < q' → p k = false
  | 0, n, q, h, h0, _ => by omega
  | d + 1, n, q, h, _, hq => by
    cases hb : p (n + 1) with
    | true => exact ⟨n + 1, by omega, by omega, hb, fun k h1 h2 => by omega⟩
    | false =>
      rcases Nat.eq_zero_or_pos d with h0 | h0
      · subst h0; rw [h] at hq; rw [show n + (0 + 1) = n + 1 by omega] at hq; rw [hb] at hq; cases hq
      · obtain ⟨q', a1, a2, a3, a4⟩ := least_of (p := p) d (n + 1) q (by omega) h0 hq
        refine ⟨q', by omega, a2, a3, fun k h1 h2 => ?_⟩
        rcases Nat.lt_or_ge (n + 1) k with h3 | h3
        · exact a4 k h3 h2
        · obtain rfl : k = n + 1 := by omega
          exact hb
/-- the next prime -/
theorem next_prime {n : Nat} (h : n < 1048576) : ∃ q, n < q ∧ q ≤ n + 200 ∧ pr q = true ∧ ∀ k, n < k → k < q → pr k = false := by
  obtain ⟨q, h1, h2, h3⟩ := cov_spec cov_all (n / 80) (by omega)
  obtain ⟨q', a1, a2, a3, a4⟩ := least_of (p := pr) (q - n) n q (by omega) (by omega) h3
  exact ⟨q', a1, by omega, a3, a4⟩
theorem no_next {n k : Nat} (h : 2147483647 + n < k) : pr k = false := pr_false (.inr (by omega))
theorem pr_lt {q : Nat} (h : pr q = true) : q < 2147483648 := (pr_iff.1 h).2
end Go.Gf
