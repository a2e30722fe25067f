/-
  Prime numbers: Fermat's theorem, Pocklington's test, three primes. Plain laws; no program in sight; no condition beyond each lemma's own.
-/
import GoSem.Core.Value
set_option linter.unusedSimpArgs false
set_option linter.unusedVariables false
namespace Go.Sym.Pr

def IsP (p : Nat) : Prop := 2 ≤ p ∧ ∀ d, d ∣ p → d = 1 ∨ d = p

theorem cop {p a : Nat} (hp : IsP p) (h : ¬ p ∣ a) : Nat.Coprime p a := by
  rcases hp.2 _ (Nat.gcd_dvd_left p a) with h1 | h1
  · exact h1
  · exact absurd (h1 ▸ Nat.gcd_dvd_right p a) h
theorem euclid {p a b : Nat} (hp : IsP p) (h : p ∣ a * b) : p ∣ a ∨ p ∣ b := by
  by_cases ha : p ∣ a
  · exact .inl ha
  · exact .inr ((cop hp ha).dvd_of_dvd_mul_left h)

/-! ### products of lists -/
def prod : List Nat → Nat
  | [] => 1
  | x :: xs => x * prod xs
theorem prod_erase {l : List Nat} {a : Nat} (h : a ∈ l) : prod l = a * prod (l.erase a) := by
  induction l with
  | nil => cases h
  | cons x xs ih =>
    by_cases hx : x = a
    · subst hx; rw [List.erase_cons_head]; rfl
    · rw [List.erase_cons_tail (by simpa using hx)]
      have hm : a ∈ xs := by
        rcases List.mem_cons.1 h with h | h
        · exact absurd h.symm hx
        · exact h
      simp only [prod]
      rw [ih hm, Nat.mul_left_comm]
def fact : Nat → Nat
  | 0 => 1
  | n + 1 => (n + 1) * fact n
/-- so many different numbers from 1 to n, n of them: their product -/
theorem prod_all : ∀ (n : Nat) (l : List Nat), l.Nodup → (∀ x ∈ l, 1 ≤ x ∧ x ≤ n) → l.length ≤ n ∧ (l.length = n → prod l = fact n)
  | 0, l, _, hr => by
    cases l with
    | nil => exact ⟨Nat.le_refl _, fun _ => rfl⟩
    | cons x xs => have := hr x (by simp); omega
  | n + 1, l, hd, hr => by
    by_cases hm : n + 1 ∈ l
    · have hd' : (l.erase (n + 1)).Nodup := hd.erase _
      have hr' : ∀ x ∈ l.erase (n + 1), 1 ≤ x ∧ x ≤ n := fun x hx => by
        have h1 := (List.Nodup.mem_erase_iff hd).1 hx
        have h2 := hr x h1.2
        have := h1.1
        omega
      obtain ⟨h1, h2⟩ := prod_all n _ hd' hr'
      have hl := List.length_erase_of_mem hm
      have hpos : 0 < l.length := List.length_pos_of_mem hm
      refine ⟨by omega, fun he => ?_⟩
      rw [prod_erase hm, h2 (by omega)]; rfl
    · have hr' : ∀ x ∈ l, 1 ≤ x ∧ x ≤ n := fun x hx => by
        have h2 := hr x hx
        have : x ≠ n + 1 := fun e => hm (e ▸ hx)
        omega
      obtain ⟨h1, _⟩ := prod_all n _ hd hr'
      exact ⟨by omega, fun he => by omega⟩

theorem prod_map_mod {p a : Nat} : ∀ l : List Nat, prod (l.map fun x => a * x % p) % p = a ^ l.length * prod l % p
  | [] => by simp [prod]
  | x :: xs => by
    simp only [List.map_cons, prod, List.length_cons]
    rw [Nat.mod_mul_mod, Nat.mul_mod, prod_map_mod xs, ← Nat.mul_mod, Nat.pow_succ]
    congr 1
    simp only [Nat.mul_assoc, Nat.mul_left_comm]
theorem not_dvd_fact {p : Nat} (hp : IsP p) : ∀ n, n < p → ¬ p ∣ fact n
  | 0, _, h => by
    have h1 : p ≤ 1 := Nat.le_of_dvd (by decide) h
    have h2 := hp.1
    omega
  | n + 1, hn, h => by
    rcases euclid hp h with h | h
    · have := Nat.le_of_dvd (by omega) h; omega
    · exact not_dvd_fact hp n (by omega) h

theorem pairwise_ne {f : Nat → Nat} {n : Nat} (h : ∀ i j, i < j → j < n → f i ≠ f j) : ((List.range n).map f).Nodup := by
  refine List.pairwise_map.2 ?_
  refine List.Pairwise.imp_of_mem ?_ (List.pairwise_lt_range (n := n))
  intro i j _ hj hij
  exact h i j hij (List.mem_range.1 hj)

/-- Fermat's theorem -/
theorem fermat {p a : Nat} (hp : IsP p) (ha : ¬ p ∣ a) : a ^ (p - 1) % p = 1 := by
  have hp2 := hp.1
  let L := (List.range (p - 1)).map fun i => i + 1
  have hL : L.length = p - 1 := by simp [L]
  have hLp : prod L = fact (p - 1) := by
    refine (prod_all (p - 1) L ?_ ?_).2 hL
    · exact pairwise_ne fun i j h _ => by omega
    · intro x hx
      obtain ⟨i, hi, rfl⟩ := List.mem_map.1 hx
      have := List.mem_range.1 hi
      omega
  have hM : prod (L.map fun x => a * x % p) = fact (p - 1) := by
    refine (prod_all (p - 1) _ ?_ ?_).2 (by simp [hL])
    · simp only [L, List.map_map]
      refine pairwise_ne fun i j hij hj he => ?_
      have he : a * (i + 1) % p = a * (j + 1) % p := he
      have hd : p ∣ a * (j - i) := by
        have h1 : a * (j + 1) = a * (i + 1) + a * (j - i) := by rw [← Nat.mul_add]; congr 1; omega
        have h2 : (a * (j + 1) - a * (i + 1)) % p = 0 := Nat.sub_mod_eq_zero_of_mod_eq he.symm
        rw [h1, Nat.add_sub_cancel_left] at h2
        exact Nat.dvd_of_mod_eq_zero h2
      rcases euclid hp hd with h | h
      · exact ha h
      · have := Nat.le_of_dvd (by omega) h; omega
    · intro x hx
      obtain ⟨y, hy, rfl⟩ := List.mem_map.1 hx
      obtain ⟨i, hi, rfl⟩ := List.mem_map.1 hy
      have hi := List.mem_range.1 hi
      have hlt : a * (i + 1) % p < p := Nat.mod_lt _ (by omega)
      have hne : a * (i + 1) % p ≠ 0 := fun h0 => by
        rcases euclid hp (Nat.dvd_of_mod_eq_zero h0) with h | h
        · exact ha h
        · have := Nat.le_of_dvd (by omega) h; omega
      omega
  have hmod := prod_map_mod (p := p) (a := a) L
  rw [hM, hL, hLp] at hmod
  -- (p-1)! = a^(p-1) (p-1)!
  have hpos : 1 ≤ a ^ (p - 1) := Nat.pow_pos (Nat.pos_of_ne_zero fun h => ha (h ▸ Nat.dvd_zero p))
  have hd : p ∣ (a ^ (p - 1) - 1) * fact (p - 1) := by
    have h2 : (a ^ (p - 1) * fact (p - 1) - fact (p - 1)) % p = 0 := Nat.sub_mod_eq_zero_of_mod_eq hmod.symm
    rw [Nat.sub_mul, Nat.one_mul]
    exact Nat.dvd_of_mod_eq_zero h2
  rcases euclid hp hd with h | h
  · obtain ⟨c, hc⟩ := h
    have : a ^ (p - 1) = 1 + p * c := by omega
    rw [this, Nat.add_mul_mod_self_left, Nat.mod_eq_of_lt (by omega)]
  · exact absurd h (not_dvd_fact hp (p - 1) (by omega))

/-! ### orders -/
theorem pow_mod_one {r b : Nat} (hr : 2 ≤ r) {m : Nat} (h : b ^ m % r = 1) (k : Nat) : b ^ (m * k) % r = 1 := by
  rw [Nat.pow_mul, Nat.pow_mod, h, Nat.one_pow, Nat.mod_eq_of_lt hr]
theorem pow_gcd {r b : Nat} (hr : 2 ≤ r) (m k : Nat) : b ^ m % r = 1 → b ^ k % r = 1 → b ^ Nat.gcd m k % r = 1 := by
  induction m, k using Nat.gcd.induction with
  | H0 k => intro _ h; rw [Nat.gcd_zero_left]; exact h
  | H1 m k hm ih =>
    intro h1 h2
    rw [Nat.gcd_rec]
    refine ih ?_ h1
    have hk : b ^ k = b ^ (m * (k / m)) * b ^ (k % m) := by rw [← Nat.pow_add, Nat.div_add_mod]
    rw [hk, Nat.mul_mod, pow_mod_one hr h1, Nat.one_mul, Nat.mod_mod] at h2
    exact h2

/-- a prime's divisor of n goes up to 1 -/
theorem order_dvd {n q a r : Nat} (hr : IsP r) (hrn : r ∣ n) (hq : IsP q) (hqn : q ∣ n - 1) (hn : 2 ≤ n) (h1 : a ^ (n - 1) % n = 1) (h2 : Nat.gcd (a ^ ((n - 1) / q) % n + n - 1) n = 1) : q ∣ r - 1 := by
  have hr2 := hr.1
  have hb : (a ^ ((n - 1) / q)) ^ q % r = 1 := by
    rw [← Nat.pow_mul, Nat.div_mul_cancel hqn]
    obtain ⟨c, hc⟩ := hrn
    have h3 := Nat.mod_mod_of_dvd (a ^ (n - 1)) (show r ∣ n from ⟨c, hc⟩)
    rw [h1, Nat.mod_eq_of_lt (show 1 < r by omega)] at h3
    exact h3.symm
  have hne : ¬ a ^ ((n - 1) / q) % r = 1 := fun he => by
    have hd1 : r ∣ a ^ ((n - 1) / q) % n + n - 1 := by
      obtain ⟨c, hc⟩ := hrn
      have h3 := Nat.mod_mod_of_dvd (a ^ ((n - 1) / q)) (show r ∣ n from ⟨c, hc⟩)
      rw [he] at h3
      have h4 : (a ^ ((n - 1) / q) % n) = r * ((a ^ ((n - 1) / q) % n) / r) + 1 := by
        have := Nat.div_add_mod (a ^ ((n - 1) / q) % n) r
        rw [h3] at this; exact this.symm
      refine ⟨(a ^ ((n - 1) / q) % n) / r + c, ?_⟩
      rw [Nat.mul_add, ← hc]; omega
    have := Nat.dvd_gcd hd1 hrn
    rw [h2] at this
    have := Nat.le_of_dvd (by decide) this
    omega
  generalize a ^ ((n - 1) / q) = b at hb hne
  have hrb : ¬ r ∣ b := fun hd => by
    have : b ^ q % r = 0 := by
      have hq2 := hq.1
      obtain ⟨t, rfl⟩ : ∃ t, q = t + 1 := ⟨q - 1, by omega⟩
      rw [Nat.pow_succ]
      exact Nat.mod_eq_zero_of_dvd (Nat.dvd_trans hd (Nat.dvd_mul_left _ _))
    omega
  have hf := fermat hr hrb
  by_cases hd : q ∣ r - 1
  · exact hd
  · have hc := cop hq hd
    have := pow_gcd hr2 q (r - 1) hb hf
    rw [hc, Nat.pow_one] at this
    exact absurd this hne

/-! ### a number that has no small prime divisor -/
theorem prime_dvd : ∀ n, 2 ≤ n → ∃ r, IsP r ∧ r ∣ n := by
  intro n
  induction n using Nat.strongRecOn with
  | _ n ih =>
    intro hn
    by_cases h : ∃ d, d ∣ n ∧ d ≠ 1 ∧ d ≠ n
    · obtain ⟨d, hd, h1, h2⟩ := h
      have hle := Nat.le_of_dvd (by omega) hd
      have h0 : d ≠ 0 := fun e => by subst e; have := Nat.eq_zero_of_zero_dvd hd; omega
      obtain ⟨r, hr, hrd⟩ := ih d (by omega) (by omega)
      exact ⟨r, hr, Nat.dvd_trans hrd hd⟩
    · refine ⟨n, ⟨hn, fun d hd => ?_⟩, Nat.dvd_refl _⟩
      by_cases h1 : d = 1
      · exact .inl h1
      · by_cases h2 : d = n
        · exact .inr h2
        · exact absurd ⟨d, hd, h1, h2⟩ h
theorem prime_of {n F : Nat} (hn : 2 ≤ n) (hF : n < (F + 1) * (F + 1)) (h : ∀ r, IsP r → r ∣ n → F < r) : IsP n := by
  refine ⟨hn, fun d hd => ?_⟩
  by_cases h1 : d = 1
  · exact .inl h1
  · by_cases h2 : d = n
    · exact .inr h2
    · exfalso
      obtain ⟨e, he⟩ := hd
      have hd0 : d ≠ 0 := fun z => by subst z; omega
      have he0 : e ≠ 0 := fun z => by subst z; omega
      have he1 : e ≠ 1 := fun z => by subst z; omega
      obtain ⟨r, hr, hrd⟩ := prime_dvd d (by omega)
      obtain ⟨s, hs, hse⟩ := prime_dvd e (by omega)
      have g1 := h r hr (Nat.dvd_trans hrd ⟨e, he⟩)
      have g2 := h s hs (Nat.dvd_trans hse ⟨d, by rw [he, Nat.mul_comm]⟩)
      have l1 := Nat.le_of_dvd (by omega) hrd
      have l2 := Nat.le_of_dvd (by omega) hse
      have := Nat.mul_le_mul (show F + 1 ≤ d by omega) (show F + 1 ≤ e by omega)
      omega

/-! ### reckoning -/
def pm (n a : Nat) : Nat → Nat → Nat
  | 0, _ => 1 % n
  | f + 1, e => if e = 0 then 1 % n else if e % 2 = 1 then pm n a f (e / 2) * pm n a f (e / 2) % n * a % n else pm n a f (e / 2) * pm n a f (e / 2) % n
theorem pm_eq (n a : Nat) : ∀ f e, e < 2 ^ f → pm n a f e = a ^ e % n
  | 0, e, h => by
    have : e = 0 := by simpa using h
    subst this; rfl
  | f + 1, e, h => by
    have ih := pm_eq n a f (e / 2) (by rw [Nat.pow_succ] at h; omega)
    simp only [pm]
    split
    · rename_i h0; subst h0; rfl
    · rw [ih, ← Nat.mul_mod, ← Nat.pow_add]
      split
      · rename_i h1
        rw [Nat.mod_mul_mod, ← Nat.pow_succ]; congr 2; omega
      · rename_i h1
        congr 2; omega
def ok (n q a : Nat) : Bool := (n - 1) % q == 0 && pm n a 256 (n - 1) == 1 && Nat.gcd (pm n a 256 ((n - 1) / q) + n - 1) n == 1
theorem ok_dvd {n q a r : Nat} (hr : IsP r) (hrn : r ∣ n) (hq : IsP q) (hn : 2 ≤ n) (hs : n < 2 ^ 256) (h : ok n q a = true) : q ∣ r - 1 := by
  unfold ok at h
  simp only [Bool.and_eq_true, beq_iff_eq] at h
  obtain ⟨⟨h0, h1⟩, h2⟩ := h
  have hlt : n - 1 < 2 ^ 256 := by omega
  rw [pm_eq _ _ _ _ hlt] at h1
  rw [pm_eq _ _ _ _ (Nat.lt_of_le_of_lt (Nat.div_le_self _ _) hlt)] at h2
  exact order_dvd hr hrn hq (Nat.dvd_of_mod_eq_zero h0) hn h1 h2
theorem poc1 {n q a : Nat} (hq : IsP q) (hn : 2 ≤ n) (hs : n < 2 ^ 256) (h : ok n q a = true) (hF : n < (q + 1) * (q + 1)) : IsP n :=
  prime_of hn hF fun r hr hrn => by
    have := Nat.le_of_dvd (by have := hr.1; omega) (ok_dvd hr hrn hq hn hs h)
    have := hr.1
    omega
theorem poc2 {n q q' a : Nat} (hq : IsP q) (hq' : IsP q') (hne : q ≠ q') (hn : 2 ≤ n) (hs : n < 2 ^ 256) (h : ok n q a = true) (h' : ok n q' a = true) (hF : n < (q * q' + 1) * (q * q' + 1)) : IsP n :=
  prime_of hn hF fun r hr hrn => by
    have hc : Nat.Coprime q q' := cop hq fun hd => by
      rcases hq'.2 q hd with e | e
      · have := hq.1; omega
      · exact hne e
    have := Nat.le_of_dvd (by have := hr.1; omega) (hc.mul_dvd_of_dvd_of_dvd (ok_dvd hr hrn hq hn hs h) (ok_dvd hr hrn hq' hn hs h'))
    have := hr.1
    omega
/-- small ones, by trial -/
def trial (n : Nat) : Nat → Bool
  | 0 => true
  | k + 1 => (k < 2 || n % k != 0) && trial n k
theorem trial_e {n : Nat} : ∀ {m : Nat}, trial n m = true → ∀ k, 2 ≤ k → k < m → ¬ k ∣ n
  | 0, _, k, _, h => by omega
  | m + 1, h, k, h2, hk => by
    simp only [trial, Bool.and_eq_true, Bool.or_eq_true, decide_eq_true_eq, bne_iff_ne] at h
    rcases Nat.lt_or_eq_of_le (Nat.le_of_lt_succ hk) with hlt | he
    · exact trial_e h.2 k h2 hlt
    · subst he
      intro hd
      rcases h.1 with h | h
      · omega
      · exact h (Nat.mod_eq_zero_of_dvd hd)
theorem small {n : Nat} (m : Nat) (hn : 2 ≤ n) (hm : n < (m + 1) * (m + 1)) (h : trial n (m + 1) = true) : IsP n :=
  prime_of hn hm fun r hr hrn => by
    by_cases hlt : r < m + 1
    · exact absurd hrn (trial_e h r hr.1 hlt)
    · omega
theorem p0_704251 : IsP 704251 := small 839 (by decide) (by decide) (by decide +kernel)
theorem p1_78283 : IsP 78283 := small 279 (by decide) (by decide) (by decide +kernel)
theorem p2_460769 : IsP 46076956964474543 := poc2 (a := 2) p0_704251 p1_78283 (by decide) (by decide) (by decide) (by decide +kernel) (by decide +kernel) (by decide)
theorem p3_3677 : IsP 3677 := small 60 (by decide) (by decide) (by decide +kernel)
theorem p4_197 : IsP 197 := small 14 (by decide) (by decide) (by decide +kernel)
theorem p5_664173 : IsP 66417393611 := poc2 (a := 2) p3_3677 p4_197 (by decide) (by decide) (by decide) (by decide +kernel) (by decide +kernel) (by decide)
theorem p6_112909 : IsP 11290956913871 := poc1 (a := 2) p5_664173 (by decide) (by decide) (by decide +kernel) (by decide)
theorem p7_774023 : IsP 774023187263532362759620327192479577272145303 := poc2 (a := 2) p2_460769 p6_112909 (by decide) (by decide) (by decide) (by decide +kernel) (by decide +kernel) (by decide)
theorem p8_835945 : IsP 835945042244614951780389953367877943453916927241 := poc1 (a := 2) p7_774023 (by decide) (by decide) (by decide +kernel) (by decide)
theorem p9_115792 : IsP 115792089210356248762697446949407573530086143415290314195533631308867097853951 := poc1 (a := 2) p8_835945 (by decide) (by decide) (by decide +kernel) (by decide)
theorem p10_155317 : IsP 155317 := small 394 (by decide) (by decide) (by decide +kernel)
theorem p11_191039 : IsP 191039911 := poc1 (a := 2) p10_155317 (by decide) (by decide) (by decide +kernel) (by decide)
theorem p12_3023 : IsP 3023 := small 54 (by decide) (by decide) (by decide +kernel)
theorem p13_208150 : IsP 208150935158385979 := poc2 (a := 2) p11_191039 p12_3023 (by decide) (by decide) (by decide) (by decide +kernel) (by decide +kernel) (by decide)
theorem p14_262474 : IsP 2624747550333869278416773953 := poc1 (a := 2) p13_208150 (by decide) (by decide) (by decide +kernel) (by decide)
theorem p15_104471 : IsP 104471 := small 323 (by decide) (by decide) (by decide +kernel)
theorem p16_396989 : IsP 3969899 := poc1 (a := 2) p15_104471 (by decide) (by decide) (by decide +kernel) (by decide)
theorem p17_100232 : IsP 1002328039319 := poc1 (a := 2) p16_396989 (by decide) (by decide) (by decide +kernel) (by decide)
theorem p18_115792 : IsP 115792089210356248762697446949407573529996955224135760342422259061068512044369 := poc2 (a := 2) p14_262474 p17_100232 (by decide) (by decide) (by decide) (by decide +kernel) (by decide +kernel) (by decide)
theorem p19_991 : IsP 991 := small 31 (by decide) (by decide) (by decide +kernel)
theorem p20_103 : IsP 103 := small 10 (by decide) (by decide) (by decide +kernel)
theorem p21_857413 : IsP 8574133 := poc2 (a := 2) p19_991 p20_103 (by decide) (by decide) (by decide) (by decide +kernel) (by decide +kernel) (by decide)
theorem p22_127 : IsP 127 := small 11 (by decide) (by decide) (by decide +kernel)
theorem p23_191951 : IsP 1919519569386763 := poc2 (a := 2) p21_857413 p22_127 (by decide) (by decide) (by decide) (by decide +kernel) (by decide +kernel) (by decide)
theorem p24_569003 : IsP 569003 := small 754 (by decide) (by decide) (by decide +kernel)
theorem p25_277332 : IsP 2773320623 := poc1 (a := 2) p24_569003 (by decide) (by decide) (by decide +kernel) (by decide)
theorem p26_721063 : IsP 72106336199 := poc1 (a := 2) p25_277332 (by decide) (by decide) (by decide +kernel) (by decide)
theorem p27_754457 : IsP 75445702479781427272750846543864801 := poc2 (a := 2) p23_191951 p26_721063 (by decide) (by decide) (by decide) (by decide +kernel) (by decide +kernel) (by decide)
theorem p28_430751 : IsP 430751 := small 656 (by decide) (by decide) (by decide +kernel)
theorem p29_4153 : IsP 4153 := small 64 (by decide) (by decide) (by decide +kernel)
theorem p30_317577 : IsP 31757755568855353 := poc2 (a := 2) p28_430751 p29_4153 (by decide) (by decide) (by decide) (by decide +kernel) (by decide +kernel) (by decide)
theorem p31_740582 : IsP 74058212732561358302231226437062788676166966415465897661863160754340907 := poc2 (a := 2) p27_754457 p30_317577 (by decide) (by decide) (by decide) (by decide +kernel) (by decide +kernel) (by decide)
theorem p32_578960 : IsP 57896044618658097711785492504343953926634992332820282019728792003956564819949 := poc1 (a := 2) p31_740582 (by decide) (by decide) (by decide +kernel) (by decide)
theorem isP_P : IsP 115792089210356248762697446949407573530086143415290314195533631308867097853951 := p9_115792
theorem isP_N : IsP 115792089210356248762697446949407573529996955224135760342422259061068512044369 := p18_115792
theorem isP_X : IsP 57896044618658097711785492504343953926634992332820282019728792003956564819949 := p32_578960
end Go.Sym.Pr
