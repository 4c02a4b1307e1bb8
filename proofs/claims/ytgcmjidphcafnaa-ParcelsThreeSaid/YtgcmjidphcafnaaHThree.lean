/- For every input the law ParcelsThree returns true, and each argument reads afterwards as it read before. No condition. -/
import Derived.Test.YtgcmjidphcafnaaB6

set_option linter.unusedSimpArgs false
set_option linter.unusedVariables false
set_option linter.constructorNameAsVariable false

namespace Go.Proofs.Ytgcmjidphcafnaa
open Go Go.Abs

set_option maxHeartbeats 2000000

-- the least sum, the least worst change and the fewest changes

/-- How many parcels change. -/
def manyC (p : Plat) (l : List Int) : Nat := Flow.cnt (fun i => decide (chgF p l i ≠ 0)) p.ps.length

def MinS (p : Plat) (s : Int) : Prop := (∃ l, IsP p l ∧ sumC p l = s) ∧ ∀ l, IsP p l → s ≤ sumC p l
def MinW (p : Plat) (n : Int) : Prop := 0 ≤ n ∧ (∃ l, IsP p l ∧ ∀ i, i < p.ps.length → chgF p l i ≤ n) ∧ ∀ l n', IsP p l → 0 ≤ n' → (∀ i, i < p.ps.length → chgF p l i ≤ n') → n ≤ n'
def MinF (p : Plat) (k : Nat) : Prop := (∃ l, IsP p l ∧ manyC p l ≤ k) ∧ ∀ l, IsP p l → k ≤ manyC p l

theorem chgF_eq (p : Plat) (l : List Int) (i : Nat) : chgF p l i = max ((pcA p i).area - Flow.gi l i) (Flow.gi l i - (pcA p i).area) := rfl

theorem pcA_ok {p : Plat} (hp : PlatOk p) {i : Nat} (hi : i < p.ps.length) : PcOk (pcA p i) := by
  have : pcA p i = p.ps[i] := by simp [pcA, hi]
  rw [this]; exact hp.ps _ (List.getElem_mem hi)

theorem chgF_off {p : Plat} (hp : PlatOk p) {l : List Int} (h : IsP p l) {i : Nat} (hi : i < p.ps.length) : 0 ≤ chgF p l i ∧ chgF p l i ≤ 99 := by
  have h1 := isP_bd h hi
  have hq := pcA_ok hp hi
  unfold PcOk at hq
  unfold lowI highI at h1
  rw [chgF_eq]; omega

theorem fe_even {p : Plat} (hp : PlatOk p) {n : Int} (hn : 0 ≤ n) {l : List Int} : IsP (withP p (fEven n)) l ↔ IsP p l ∧ ∀ i, i < p.ps.length → chgF p l i ≤ n := by
  rw [isP_with (fEven_rc n)]
  constructor
  · rintro ⟨h1, h2, h3⟩
    have key : ∀ i, i < l.length → (lowI (pcA p i) ≤ Flow.gi l i ∧ Flow.gi l i ≤ highI (pcA p i)) ∧ chgF p l i ≤ n := by
      intro i hi
      have := h2 i hi
      have hq := pcA_ok hp (i := i) (by omega)
      unfold PcOk at hq
      rw [chgF_eq]
      unfold lowI highI fEven at this
      unfold lowI highI
      simp only at this
      omega
    exact ⟨⟨h1, fun i hi => (key i hi).1, h3⟩, fun i hi => (key i (by omega)).2⟩
  · rintro ⟨⟨h1, h2, h3⟩, h4⟩
    refine ⟨h1, fun i hi => ?_, h3⟩
    have h2' : lowI (pcA p i) ≤ Flow.gi l i ∧ Flow.gi l i ≤ highI (pcA p i) := h2 i hi
    have h4' := h4 i (by omega)
    rw [chgF_eq] at h4'
    unfold lowI highI at h2'
    unfold lowI highI fEven
    simp only
    omega

theorem fe_few {p : Plat} (hp : PlatOk p) {s : Nat} {l : List Int} : IsP (withP p (fFew s)) l ↔ IsP p l ∧ ∀ i, i < p.ps.length → Nat.testBit s i = false → chgF p l i = 0 := by
  rw [isP_with (fFew_rc s)]
  constructor
  · rintro ⟨h1, h2, h3⟩
    have key : ∀ i, i < l.length → (lowI (pcA p i) ≤ Flow.gi l i ∧ Flow.gi l i ≤ highI (pcA p i)) ∧ (Nat.testBit s i = false → chgF p l i = 0) := by
      intro i hi
      have := h2 i hi
      have hq := pcA_ok hp (i := i) (by omega)
      unfold PcOk at hq
      rw [chgF_eq]
      unfold lowI highI fFew at this
      unfold lowI highI
      simp only at this
      cases hb : Nat.testBit s i with
      | true => rw [hb, if_pos rfl] at this; exact ⟨this, fun h => by simp at h⟩
      | false => rw [hb, if_neg (by simp)] at this; exact ⟨by omega, fun _ => by omega⟩
    exact ⟨⟨h1, fun i hi => (key i hi).1, h3⟩, fun i hi => (key i (by omega)).2⟩
  · rintro ⟨⟨h1, h2, h3⟩, h4⟩
    refine ⟨h1, fun i hi => ?_, h3⟩
    have h2' : lowI (pcA p i) ≤ Flow.gi l i ∧ Flow.gi l i ≤ highI (pcA p i) := h2 i hi
    have h4' := h4 i (by omega)
    have hq := pcA_ok hp (i := i) (by omega)
    unfold PcOk at hq
    rw [chgF_eq] at h4'
    unfold lowI highI at h2'
    unfold lowI highI fFew
    simp only
    cases hb : Nat.testBit s i with
    | true => rw [if_pos rfl]; exact h2'
    | false => rw [if_neg (by simp)]; have := h4' hb; omega

theorem cnt_le' {P Q : Nat → Bool} : ∀ {n m : Nat}, n ≤ m → (∀ x, x < n → P x = true → Q x = true) → Flow.cnt P n ≤ Flow.cnt Q m
  | 0, m, _, _ => by simp [Flow.cnt]
  | n + 1, 0, h, _ => by omega
  | n + 1, m + 1, h, hpq => by
    by_cases e : n = m
    · subst e
      have ih := cnt_le' (Nat.le_refl n) (fun x hx => hpq x (by omega))
      simp only [Flow.cnt]
      have := hpq n (by omega)
      cases hP : P n with
      | true => rw [this hP]; simpa using ih
      | false => simp; omega
    · have ih := cnt_le' (n := n + 1) (m := m) (by omega) hpq
      simp only [Flow.cnt] at ih ⊢
      omega

theorem minW_of {p : Plat} (hp : PlatOk p) {n : Nat} {l : List Int} (h : EvenPost p (some (n, l))) : n < 100 ∧ MinW p n := by
  obtain ⟨h1, h2, h3⟩ := h
  refine ⟨h1, by omega, ⟨l, (fe_even hp (by omega)).1 h2⟩, fun l' n' hl' hn' hb => ?_⟩
  apply Classical.byContradiction
  intro hc
  have hnn : n'.toNat < n := by omega
  refine h3 n'.toNat hnn ⟨l', (fe_even hp (by omega)).2 ⟨hl', fun i hi => ?_⟩⟩
  have := hb i hi
  omega

theorem even_none {p : Plat} (hp : PlatOk p) (h : EvenPost p none) : ¬ Fe p := by
  rintro ⟨l, hl⟩
  exact h 99 (by omega) ⟨l, (fe_even hp (by omega)).2 ⟨hl, fun i hi => (chgF_off hp hl hi).2⟩⟩

theorem few_none' {p : Plat} (hp : PlatOk p) (h : FewPost p none) : ¬ Fe p := by
  rintro ⟨l, hl⟩
  obtain ⟨s, h1, h2⟩ := bits_ex (fun _ => true) p.ps.length
  have h8 := hp.n8
  have hpop : popc s ≤ p.ps.length := by
    unfold popc
    have := cnt_le' (P := fun i => Nat.testBit s i) (Q := fun i => decide (i < p.ps.length)) (Nat.le_refl 8) fun x hx hb => by
      apply Classical.byContradiction
      intro hc
      have : p.ps.length ≤ x := by simpa using hc
      have := Nat.testBit_lt_two_pow (i := x) (x := s) (Nat.lt_of_lt_of_le h1 (Nat.pow_le_pow_right (by omega) this))
      rw [this] at hb; simp at hb
    refine Nat.le_trans this ?_
    have key : ∀ m k, Flow.cnt (fun i => decide (i < k)) m ≤ k := by
      intro m k
      induction m with
      | zero => simp [Flow.cnt]
      | succ m ih =>
        simp only [Flow.cnt]
        by_cases hk : m < k
        · have : ∀ j, j ≤ m → Flow.cnt (fun i => decide (i < k)) j ≤ j := fun j _ => Flow.cnt_le _ j
          have := this m (Nat.le_refl m)
          simp [hk]; omega
        · simp [hk]; omega
    exact key _ _
  exact h (popc s) hpop s h1 ⟨rfl, l, (fe_few hp).2 ⟨hl, fun i hi hb => by rw [h2 i hi] at hb; simp at hb⟩⟩

theorem minF_of {p : Plat} (hp : PlatOk p) {k : Nat} (h : FewPost p (some k)) : k ≤ p.ps.length ∧ MinF p k := by
  obtain ⟨h1, ⟨s, hs, hk, l, hl⟩, h3⟩ := h
  have h8 := hp.n8
  have hl' := (fe_few hp).1 hl
  refine ⟨h1, ⟨l, hl'.1, ?_⟩, fun l' hl2 => ?_⟩
  · rw [← hk]
    refine cnt_le' h8 fun x hx hb => ?_
    cases hb2 : Nat.testBit s x with
    | true => rfl
    | false => have := hl'.2 x hx hb2; simp [this] at hb
  · apply Classical.byContradiction
    intro hc
    obtain ⟨s', e1, e2⟩ := bits_ex (fun i => decide (chgF p l' i ≠ 0)) p.ps.length
    have hp' : popc s' = manyC p l' := by
      unfold popc manyC
      apply Nat.le_antisymm
      · have : ∀ m, p.ps.length ≤ m → Flow.cnt (fun i => Nat.testBit s' i) m = Flow.cnt (fun i => Nat.testBit s' i) p.ps.length := by
          intro m hm
          induction m with
          | zero => rw [Nat.le_zero.1 hm]
          | succ m ih =>
            by_cases e : p.ps.length = m + 1
            · rw [e]
            · have ih := ih (by omega)
              simp only [Flow.cnt]
              have hz : Nat.testBit s' m = false := Nat.testBit_lt_two_pow (Nat.lt_of_lt_of_le e1 (Nat.pow_le_pow_right (by omega) (by omega)))
              simp only [hz]; simpa using ih
        rw [this 8 h8]
        exact cnt_le' (Nat.le_refl _) fun x hx hb => by rw [e2 x hx] at hb; exact hb
      · exact cnt_le' h8 fun x hx hb => by rw [e2 x hx]; exact hb
    refine h3 (manyC p l') (by omega) s' e1 ⟨hp', l', (fe_few hp).2 ⟨hl2, fun i hi hb => ?_⟩⟩
    rw [e2 i hi] at hb
    simpa using hb

theorem sumC_ge {p : Plat} (hp : PlatOk p) {l : List Int} (h : IsP p l) {i : Nat} (hi : i < p.ps.length) : chgF p l i ≤ sumC p l := by
  unfold sumC
  rw [sumTo_eq]
  have key : ∀ m, m ≤ p.ps.length → (0 ≤ Flow.sumN (chgF p l) m ∧ (i < m → chgF p l i ≤ Flow.sumN (chgF p l) m)) := by
    intro m
    induction m with
    | zero => intro _; exact ⟨by simp [Flow.sumN], fun h => by omega⟩
    | succ m ih =>
      intro hm
      have ih := ih (by omega)
      have h1 := chgF_off hp h (i := m) (by omega)
      have h2 := chgF_off hp h hi
      simp only [Flow.sumN]
      refine ⟨by omega, fun hh => ?_⟩
      by_cases e : i = m
      · subst e; omega
      · have := ih.2 (by omega); omega
  exact (key _ (Nat.le_refl _)).2 hi

theorem manyC_le {p : Plat} (hp : PlatOk p) {l : List Int} (h : IsP p l) : (manyC p l : Int) ≤ sumC p l := by
  unfold sumC manyC
  rw [sumTo_eq]
  have key : ∀ m, m ≤ p.ps.length → (Flow.cnt (fun i => decide (chgF p l i ≠ 0)) m : Int) ≤ Flow.sumN (chgF p l) m := by
    intro m
    induction m with
    | zero => intro _; simp [Flow.sumN, Flow.cnt]
    | succ m ih =>
      intro hm
      have ih := ih (by omega)
      have h1 := chgF_off hp h (i := m) (by omega)
      simp only [Flow.sumN, Flow.cnt]
      by_cases e : chgF p l m = 0
      · rw [if_neg (by simp [e])]; omega
      · rw [if_pos (by simp [e])]; omega
  exact key _ (Nat.le_refl _)

theorem sumC_le {p : Plat} {l : List Int} {n : Int} (hb : ∀ i, i < p.ps.length → chgF p l i ≤ n) : sumC p l ≤ p.ps.length * n := by
  unfold sumC
  rw [sumTo_eq]
  have key : ∀ m : Nat, m ≤ p.ps.length → Flow.sumN (chgF p l) m ≤ m * n := by
    intro m
    induction m with
    | zero => intro _; simp [Flow.sumN]
    | succ m ih =>
      intro hm
      have ih := ih (by omega)
      have h1 := hb m (by omega)
      simp only [Flow.sumN]
      have : ((m + 1 : Nat) : Int) * n = m * n + n := by rw [Int.natCast_add, Int.add_mul]; simp
      omega
  exact key _ (Nat.le_refl _)

theorem many_zero {p : Plat} {l : List Int} (h : manyC p l = 0) : ∀ i, i < p.ps.length → chgF p l i = 0 := by
  unfold manyC at h
  have key : ∀ m, Flow.cnt (fun i => decide (chgF p l i ≠ 0)) m = 0 → ∀ i, i < m → chgF p l i = 0 := by
    intro m
    induction m with
    | zero => intro _ i hi; omega
    | succ m ih =>
      intro h i hi
      simp only [Flow.cnt] at h
      by_cases e : chgF p l m = 0
      · by_cases e2 : i = m
        · subst e2; exact e
        · exact ih (by omega) i (by omega)
      · simp [e] at h
  exact key _ h

theorem eq_areas {p : Plat} {l : List Int} (h : IsP p l) (hz : ∀ i, i < p.ps.length → chgF p l i = 0) : l = areasTo p p.ps.length := by
  have hl := h.1
  apply List.ext_getElem?
  intro i
  by_cases hi : i < p.ps.length
  · have := hz i hi
    rw [chgF_eq] at this
    have e : Flow.gi l i = (pcA p i).area := by omega
    have e1 : l[i]? = some (Flow.gi l i) := by simp [Flow.gi, hl, hi]
    rw [e1, e]
    simp [areasTo, pcA, hi]
  · rw [List.getElem?_eq_none (by omega), List.getElem?_eq_none (by rw [areasTo_len p _ (Nat.le_refl _)]; omega)]

theorem areas_zero {p : Plat} {i : Nat} (hi : i < p.ps.length) : chgF p (areasTo p p.ps.length) i = 0 := by
  rw [chgF_eq]
  simp [areasTo, Flow.gi, pcA, hi]

/-- How the three least values hang together. -/
theorem three_law {p : Plat} (hp : PlatOk p) {s n : Int} {k : Nat} (hs : MinS p s) (hw : MinW p n) (hf : MinF p k) (hk : k ≤ p.ps.length) (hn : n ≤ 99) :
    0 ≤ s ∧ 0 ≤ n ∧ n ≤ s ∧ (k : Int) ≤ s ∧ s ≤ n * p.ps.length ∧ s ≤ 792 ∧ (s = 0 ↔ IsP p (areasTo p p.ps.length)) ∧ (n = 0 ↔ IsP p (areasTo p p.ps.length)) ∧ (k = 0 ↔ IsP p (areasTo p p.ps.length)) := by
  have h8 := hp.n8
  obtain ⟨⟨l, hl, hls⟩, hsm⟩ := hs
  obtain ⟨hn0, ⟨l2, hl2, hb2⟩, hwm⟩ := hw
  obtain ⟨⟨l3, hl3, hb3⟩, hfm⟩ := hf
  have hs0 := (sum_bd hp hl).1
  rw [hls] at hs0
  have q1 : n ≤ s := hwm l s hl hs0 fun i hi => by have := sumC_ge hp hl hi; omega
  have q2 : (k : Int) ≤ s := by have := hfm l hl; have := manyC_le hp hl; omega
  have q3 : s ≤ n * p.ps.length := by have := hsm l2 hl2; have := sumC_le hb2; rw [Int.mul_comm]; omega
  have q4 : s ≤ 792 := by
    have h1 : n * (p.ps.length : Int) ≤ 99 * p.ps.length := Int.mul_le_mul_of_nonneg_right hn (by omega)
    omega
  have a1 : IsP p (areasTo p p.ps.length) → s ≤ 0 := fun h => by
    have h1 := hsm _ h
    have h2 := sumC_le (p := p) (l := areasTo p p.ps.length) (n := 0) fun i hi => by rw [areas_zero hi]; omega
    omega
  refine ⟨hs0, hn0, q1, q2, q3, q4, ⟨fun e => ?_, fun h => by have := a1 h; omega⟩, ⟨fun e => ?_, fun h => by have := a1 h; omega⟩, ⟨fun e => ?_, fun h => by have := a1 h; omega⟩⟩
  · have : l = areasTo p p.ps.length := eq_areas hl fun i hi => by
      have := sumC_ge hp hl hi
      have := chgF_off hp hl hi
      omega
    rwa [this] at hl
  · have : l2 = areasTo p p.ps.length := eq_areas hl2 fun i hi => by
      have := hb2 i hi
      have := chgF_off hp hl2 hi
      omega
    rwa [this] at hl2
  · have : l3 = areasTo p p.ps.length := eq_areas hl3 (many_zero (by omega))
    rwa [this] at hl3

/-- The results at a plat that can be settled, and their ends. -/
structure Res4 (p : Plat) (s n : Int) (k : Nat) : Prop where
  hs : MinS p s
  hw : MinW p n
  hf : MinF p k
  n99 : n ≤ 99
  k8 : k ≤ p.ps.length
  p25 : Pure Try.prog 25 [encPlat p] (.tup [encI s, encI 0])
  p37 : Pure Try.prog 37 [encPlat p] (.tup [encI n, encI 0])
  p38 : Pure Try.prog 38 [encPlat p] (.tup [encI k, encI 0])

theorem res4_fe (p : Plat) (hp : PlatOk p) (hpn : p.pn = true → p.ps = []) (hf : Fe p) : ∃ s n k, Res4 p s n k := by
  obtain ⟨l, h1, h2, h3, -⟩ := least_fe p hp hf
  obtain ⟨o, e1, e2⟩ := even_c p hp hpn
  obtain ⟨q, f1, f2⟩ := few_c p hp hpn
  match o, e1, e2 with
  | none, _, e2 => exact absurd hf (even_none hp e2)
  | some (n, l'), e1, e2 =>
    match q, f1, f2 with
    | none, _, f2 => exact absurd hf (few_none' hp f2)
    | some k, f1, f2 =>
      have g1 := minW_of hp e2
      have g2 := minF_of hp f2
      exact ⟨sumC p l, n, k, ⟨⟨l, h1, rfl⟩, h2⟩, g1.2, g2.2, by omega, g2.1, h3, worst37 p n 0 _ (by simp [C.isPure]) e1, f1⟩

theorem res4_no (p : Plat) (hp : PlatOk p) (hpn : p.pn = true → p.ps = []) (hf : ¬ Fe p) :
    Pure Try.prog 25 [encPlat p] (.tup [encI 0, encI 3]) ∧ Pure Try.prog 37 [encPlat p] (.tup [encI 0, encI 3]) ∧ Pure Try.prog 38 [encPlat p] (.tup [encI 0, encI 3]) := by
  have h1 := (least_no p hp hf).1
  obtain ⟨o, e1, e2⟩ := even_c p hp hpn
  obtain ⟨q, f1, f2⟩ := few_c p hp hpn
  match o, e1, e2 with
  | some (n, l'), _, e2 => exact absurd ⟨l', ((fe_even hp (by omega)).1 e2.2.1).1⟩ hf
  | none, e1, e2 =>
    match q, f1, f2 with
    | some k, _, f2 =>
      obtain ⟨_, ⟨s, _, _, l, hl⟩, _⟩ := f2
      exact absurd ⟨l, ((fe_few hp).1 hl).1⟩ hf
    | none, f1, f2 => exact ⟨h1, worst37 p 0 3 _ (by simp [C.isPure, purel]) e1, f1⟩

end Go.Proofs.Ytgcmjidphcafnaa

namespace Go.Proofs.Ytgcmjidphcafnaa
open Go Go.Abs

set_option maxHeartbeats 4000000
set_option maxRecDepth 100000

theorem mapO_two {f : C → Option C} {a b c d : C} (h : f a = some b) (h2 : f c = some d) : mapO f [a, c] = some [b, d] := by simp [mapO, h, h2]
theorem plat_pure1 (p : Plat) : (encPlat p).isPure = true := by simp [C.isPure, purel]


theorem three11 (p : Plat) (hn : NlOk p) : Pure Try.prog 11 [encPlat p] (.bool true) := by
  by_cases hrd : ¬ FarP p ∧ PlatOk p
  · have hp := hrd.2
    obtain ⟨b, hb⟩ : ∃ b : Bool, b = true ↔ IsP p (areasTo p p.ps.length) := ⟨@decide (IsP p (areasTo p p.ps.length)) (Classical.propDecidable _), by simp⟩
    have h8 := hp.n8
    have hr13 := ready_yes hrd
    by_cases hf : Fe p
    · obtain ⟨s, n, kk, R⟩ := res4_fe p hp hn.pn hf
      have h25 := R.p25
      have h37 := R.p37
      have h38 := R.p38
      have hk17 := known_ok
      refine pure_of (fn := Try.f11) [.tmp 2] ⟨Try.func11, rfl, by kernel_rfl⟩ (by kernel_rfl) (by kernel_rfl) (by kernel_rfl) fun x hx hσ => ?_
      repeat refine awp_seq ?_
      refine awp_reg1 (by rw [hx]; kernel_rfl) fun K hK => ?_
      simp (config := { maxSteps := 1000000 }) [ty25]
      refine hK _ ?_
      clear hK K
      first | show AWP _ _ _ _ _ | show ∃ _, _ | skip
      repeat refine awp_seq ?_
      refine awp_reg1 (by rw [hx]; kernel_rfl) fun K hK => ?_
      simp (config := { maxSteps := 1000000 }) [ty25]
      refine callP (hr13) (by first | (simp; done) | (simp [*]; done)) ?_
      simp (config := { maxSteps := 1000000 }) []
      refine hK _ ?_
      clear hK K
      first | show AWP _ _ _ _ _ | show ∃ _, _ | skip
      repeat refine awp_seq ?_
      refine awp_cond (by simp; rfl) (by rw [hx]; simp) (fun hd => ?_) (fun hd => ?_)
      · simp at hd
      clear hd
      refine awp_skip ?_
      first | show AWP _ _ _ _ _ | show ∃ _, _ | skip
      repeat refine awp_seq ?_
      refine awp_reg1 (by rw [hx]; kernel_rfl) fun K hK => ?_
      simp (config := { maxSteps := 1000000 }) [ty25]
      refine callP (h25) (by first | (simp; done) | (simp [*]; done)) ?_
      simp (config := { maxSteps := 1000000 }) []
      refine hK _ ?_
      clear hK K
      first | show AWP _ _ _ _ _ | show ∃ _, _ | skip
      repeat refine awp_seq ?_
      refine awp_reg1 (by rw [hx]; kernel_rfl) fun K hK => ?_
      simp (config := { maxSteps := 1000000 }) [ty25]
      refine callP (h37) (by first | (simp; done) | (simp [*]; done)) ?_
      simp (config := { maxSteps := 1000000 }) []
      refine hK _ ?_
      clear hK K
      first | show AWP _ _ _ _ _ | show ∃ _, _ | skip
      repeat refine awp_seq ?_
      refine awp_reg1 (by rw [hx]; kernel_rfl) fun K hK => ?_
      simp (config := { maxSteps := 1000000 }) [ty25]
      refine callP (h38) (by first | (simp; done) | (simp [*]; done)) ?_
      simp (config := { maxSteps := 1000000 }) []
      refine hK _ ?_
      clear hK K
      first | show AWP _ _ _ _ _ | show ∃ _, _ | skip
      repeat refine awp_seq ?_
      refine awp_reg1 (by rw [hx]; kernel_rfl) fun K hK => ?_
      simp (config := { maxSteps := 1000000 }) [ty30]
      refine callP (hk17) (by first | (simp; done) | (simp [*]; done)) ?_
      simp (config := { maxSteps := 1000000 }) [ty30]
      refine hK _ ?_
      clear hK K
      first | show AWP _ _ _ _ _ | show ∃ _, _ | skip
      repeat refine awp_seq ?_
      refine awp_cond (by simp; rfl) (by rw [hx]; simp) (fun hd => ?_) (fun hd => ?_)
      · simp at hd
      clear hd
      refine awp_skip ?_
      first | show AWP _ _ _ _ _ | show ∃ _, _ | skip
      repeat refine awp_seq ?_
      refine awp_reg1 (by rw [hx]; kernel_rfl) fun K hK => ?_
      simp (config := { maxSteps := 1000000 }) []
      refine hK _ ?_
      clear hK K
      first | show AWP _ _ _ _ _ | show ∃ _, _ | skip
      repeat refine awp_seq ?_
      refine awp_reg1 (by rw [hx]; kernel_rfl) fun K hK => ?_
      simp (config := { maxSteps := 1000000 }) []
      refine hK _ ?_
      clear hK K
      first | show AWP _ _ _ _ _ | show ∃ _, _ | skip
      refine AWP.weak ?_ (wk_nil 9 3001 1 (fu := true) (by simp) (by simp))
      repeat refine awp_seq ?_
      refine awp_block ?_
      refine awp_loop (fun i : Nat => ⟨ofL [(1, .ptr 1 3 0 0), (3, encI s), (4, encI 0), (5, encI n), (7, encI kk), (9, .own 3001 1 0 (areasTo p i).length), (10, encI i)], stoT [(1, 1, .live (obPlat p)), (3001, 3001, .live ⟨(areasTo p i).isEmpty, false, 1, (areasTo p i).map cI⟩)]⟩)
        (fun i => i ≤ p.ps.length) (fun i => p.ps.length - i) 0 (by simp) ?_ ?_
      · refine wk_shape (shp0 hσ (by simp) (by simp) ?_) ?_
        · simp [SlotOk, areasTo]; exact ⟨.same (plat_pure p), .same rfl⟩
        · simp [mtc, mtl, mT, C.isPure, areasTo]
      · intro i hi
        repeat refine awp_seq ?_
        refine awp_reg1 (by rw [hx]; kernel_rfl) fun K hK => ?_
        simp (config := { maxSteps := 1000000 }) [ty25, ty22, ty3]
        refine hK _ ?_
        clear hK K
        first | show AWP _ _ _ _ _ | show ∃ _, _ | skip
        repeat refine awp_seq ?_
        refine awp_cond (by simp; rfl) (by rw [hx]; simp) (fun hc => ?_) (fun hc => ?_)
        · simp at hc
          have hal := areasTo_len p i (by omega)
          have hne : p.ps ≠ [] := by intro h; rw [h] at hc; simp at hc
          refine awp_skip ?_
          first | show AWP _ _ _ _ _ | show ∃ _, _ | skip
          repeat refine awp_seq ?_
          refine awp_block ?_
          repeat refine awp_seq ?_
          refine awp_reg1 (by rw [hx]; kernel_rfl) fun K hK => ?_
          simp (config := { maxSteps := 1000000 }) [ty25, ty22, ty45, ty23, ty3, hc, hne]
          refine ⟨by omega, ?_⟩
          have ea : (areasTo p i).map cI ++ [[C.int IntKind.i64 p.ps[i].area]] = (areasTo p (i + 1)).map cI := by rw [areasTo_succ p i hc]; simp
          have hal2 := areasTo_len p (i + 1) (by omega)
          have hem : (areasTo p (i + 1)).isEmpty = false := by cases h : areasTo p (i + 1) with | nil => rw [h] at hal2; simp at hal2 | cons a b => rfl
          simp [ea, hal]
          refine hK _ ?_
          clear hK K
          first | show AWP _ _ _ _ _ | show ∃ _, _ | skip
          repeat refine awp_seq ?_
          refine awp_reg1 (by rw [hx]; kernel_rfl) fun K hK => ?_
          simp (config := { maxSteps := 1000000 }) [ty3]
          refine hK _ ?_
          clear hK K
          first | show AWP _ _ _ _ _ | show ∃ _, _ | skip
          refine ⟨i + 1, by omega, by omega, ?_⟩
          refine wk_shape (T := [(1, 1, .live (obPlat p)), (3001, 60, .live ⟨(areasTo p (i + 1)).isEmpty, false, 1, (areasTo p (i + 1)).map cI⟩)]) (shp0 hσ (by simp) (by simp) ?_) ?_
          · simp [SlotOk, hem]
            exact ⟨.same (plat_pure p), .same (ints_pure _)⟩
          · simp [mtc, mtl, mT, C.isPure, purel, hal2]
            simp (disch := omega) [wrap_id]
        · simp at hc
          repeat refine awp_seq ?_
          refine awp_exit ?_
          first | show AWP _ _ _ _ _ | show ∃ _, _ | skip
          obtain rfl : i = p.ps.length := by omega
          have hal := areasTo_len p p.ps.length (Nat.le_refl _)
          repeat refine awp_seq ?_
          refine awp_reg1 (by rw [hx]; kernel_rfl) fun K hK => ?_
          simp (config := { maxSteps := 1000000 }) [ty25]
          refine callL (fills35 p ((areasTo p p.ps.length).isEmpty && !false) (areasTo p p.ps.length) (by omega) (by have := hp.r4; omega) (by have := hp.c4; omega) hn.rn hn.cn 0 b (.inr (.inr ⟨by simp [hp], hal, rfl, hb⟩))) ?_ (.inr rfl) ?_
          · refine mapO_two (viewC_self (plat_pure1 p)) (viewC_own (m := (areasTo p p.ps.length).length) (o := ⟨(areasTo p p.ps.length).isEmpty, false, 1, (areasTo p p.ps.length).map cI⟩) rfl rfl (by simp) (ints_pure _))
          simp
          refine hK _ ?_
          clear hK K
          first | show AWP _ _ _ _ _ | show ∃ _, _ | skip
          repeat refine awp_seq ?_
          refine awp_reg1 (by rw [hx]; kernel_rfl) fun K hK => ?_
          simp (config := { maxSteps := 1000000 }) [ty30]
          refine hK _ ?_
          clear hK K
          first | show AWP _ _ _ _ _ | show ∃ _, _ | skip
          repeat refine awp_seq ?_
          refine awp_cond (by simp; rfl) (by rw [hx]; simp) (fun hd => ?_) (fun hd => ?_)
          · simp at hd
          clear hd
          refine awp_skip ?_
          first | show AWP _ _ _ _ _ | show ∃ _, _ | skip
          repeat refine awp_seq ?_
          refine awp_reg1 (by rw [hx]; kernel_rfl) fun K hK => ?_
          simp (config := { maxSteps := 1000000 }) [ty30]
          refine hK _ ?_
          clear hK K
          first | show AWP _ _ _ _ _ | show ∃ _, _ | skip
          repeat refine awp_seq ?_
          refine awp_cond (by simp; rfl) (by rw [hx]; simp) (fun hd => ?_) (fun hd => ?_)
          · simp at hd
          clear hd
          refine awp_skip ?_
          first | show AWP _ _ _ _ _ | show ∃ _, _ | skip
          obtain ⟨g0, g1, g2, g3, g4, g5, g6, g7, g8⟩ := three_law hp R.hs R.hw R.hf R.k8 R.n99
          rw [← hb] at g6 g7 g8
          have hk8 := R.k8
          have u1 : ¬ s < n := by omega
          have m1 : ¬ (if (kk : Int) < if n < s then n else s then (kk : Int) else if n < s then n else s) < 0 := by repeat' split <;> omega
          have m2 : ¬ 792 < (if (if s < n then n else s) < (kk : Int) then (kk : Int) else if s < n then n else s) := by repeat' split <;> omega
          have m3 : ¬ 792 < s := by omega
          have u2 : ¬ s < (kk : Int) := by omega
          have hnl : n * (p.ps.length : Int) ≤ 99 * p.ps.length := Int.mul_le_mul_of_nonneg_right R.n99 (by omega)
          have wnl : IntKind.i64.wrap (n * (p.ps.length : Int)) = n * (p.ps.length : Int) := wrap_id (by omega) (by omega)
          have u3 : ¬ n * (p.ps.length : Int) < s := by omega
          have u4 : ¬ p.ps.length < kk := by omega
          repeat refine awp_seq ?_
          refine awp_reg1 (by rw [hx]; kernel_rfl) fun K hK => ?_
          simp (config := { maxSteps := 1000000 }) [ty25, ty22, ty3, m1, m2, u1, u2, wnl, u3, u4, m3]
          refine hK _ ?_
          clear hK K
          first | show AWP _ _ _ _ _ | show ∃ _, _ | skip
          repeat refine awp_seq ?_
          refine awp_cond (by simp; rfl) (by rw [hx]; simp) (fun he => ?_) (fun he => ?_)
          · simp at he
          clear he
          refine awp_skip ?_
          first | show AWP _ _ _ _ _ | show ∃ _, _ | skip
          cases b with
          | true =>
            have z1 : s = 0 := g6.2 rfl
            have z2 : n = 0 := g7.2 rfl
            have z3 : kk = 0 := g8.2 rfl
            repeat refine awp_seq ?_
            refine awp_reg1 (by rw [hx]; kernel_rfl) fun K hK => ?_
            simp (config := { maxSteps := 1000000 }) [z1, z2, z3, ty3, ty4]
            refine callP (works14) (by first | (simp; done) | (simp [*]; done)) ?_
            simp (config := { maxSteps := 1000000 }) [ty3, ty4]
            refine hK _ ?_
            clear hK K
            first | show AWP _ _ _ _ _ | show ∃ _, _ | skip
            repeat refine awp_seq ?_
            refine awp_ret ?_
            refine And.intro (Or.inr rfl) ?_
            simp [retC, resC, viewC, mapO]
          | false =>
            have z1 : ¬ s = 0 := fun h => by have := g6.1 h; simp at this
            have z2 : ¬ n = 0 := fun h => by have := g7.1 h; simp at this
            have z3 : ¬ (kk : Int) = 0 := fun h => by have := g8.1 (by omega); simp at this
            have z4 : ¬ kk = 0 := by omega
            have y1 : (s == 0) = false := by simpa using z1
            have y2 : (n == 0) = false := by simpa using z2
            have y3 : ((kk : Int) == 0) = false := by simpa using z4
            repeat refine awp_seq ?_
            refine awp_reg1 (by rw [hx]; kernel_rfl) fun K hK => ?_
            simp (config := { maxSteps := 1000000 }) [y1, y2, y3, ty3, ty4]
            refine callP (works14) (by first | (simp; done) | (simp [*]; done)) ?_
            simp (config := { maxSteps := 1000000 }) [ty3, ty4]
            refine hK _ ?_
            clear hK K
            first | show AWP _ _ _ _ _ | show ∃ _, _ | skip
            repeat refine awp_seq ?_
            refine awp_ret ?_
            refine And.intro (Or.inr rfl) ?_
            simp [retC, resC, viewC, mapO]
    · obtain ⟨h25, h37, h38⟩ := res4_no p hp hn.pn hf
      have hk17 := known_none
      refine pure_of (fn := Try.f11) [.tmp 2] ⟨Try.func11, rfl, by kernel_rfl⟩ (by kernel_rfl) (by kernel_rfl) (by kernel_rfl) fun x hx hσ => ?_
      repeat refine awp_seq ?_
      refine awp_reg1 (by rw [hx]; kernel_rfl) fun K hK => ?_
      simp (config := { maxSteps := 1000000 }) [ty25]
      refine hK _ ?_
      clear hK K
      first | show AWP _ _ _ _ _ | show ∃ _, _ | skip
      repeat refine awp_seq ?_
      refine awp_reg1 (by rw [hx]; kernel_rfl) fun K hK => ?_
      simp (config := { maxSteps := 1000000 }) [ty25]
      refine callP (hr13) (by first | (simp; done) | (simp [*]; done)) ?_
      simp (config := { maxSteps := 1000000 }) []
      refine hK _ ?_
      clear hK K
      first | show AWP _ _ _ _ _ | show ∃ _, _ | skip
      repeat refine awp_seq ?_
      refine awp_cond (by simp; rfl) (by rw [hx]; simp) (fun hd => ?_) (fun hd => ?_)
      · simp at hd
      clear hd
      refine awp_skip ?_
      first | show AWP _ _ _ _ _ | show ∃ _, _ | skip
      repeat refine awp_seq ?_
      refine awp_reg1 (by rw [hx]; kernel_rfl) fun K hK => ?_
      simp (config := { maxSteps := 1000000 }) [ty25]
      refine callP (h25) (by first | (simp; done) | (simp [*]; done)) ?_
      simp (config := { maxSteps := 1000000 }) []
      refine hK _ ?_
      clear hK K
      first | show AWP _ _ _ _ _ | show ∃ _, _ | skip
      repeat refine awp_seq ?_
      refine awp_reg1 (by rw [hx]; kernel_rfl) fun K hK => ?_
      simp (config := { maxSteps := 1000000 }) [ty25]
      refine callP (h37) (by first | (simp; done) | (simp [*]; done)) ?_
      simp (config := { maxSteps := 1000000 }) []
      refine hK _ ?_
      clear hK K
      first | show AWP _ _ _ _ _ | show ∃ _, _ | skip
      repeat refine awp_seq ?_
      refine awp_reg1 (by rw [hx]; kernel_rfl) fun K hK => ?_
      simp (config := { maxSteps := 1000000 }) [ty25]
      refine callP (h38) (by first | (simp; done) | (simp [*]; done)) ?_
      simp (config := { maxSteps := 1000000 }) []
      refine hK _ ?_
      clear hK K
      first | show AWP _ _ _ _ _ | show ∃ _, _ | skip
      repeat refine awp_seq ?_
      refine awp_reg1 (by rw [hx]; kernel_rfl) fun K hK => ?_
      simp (config := { maxSteps := 1000000 }) [ty30]
      refine callP (hk17) (by first | (simp; done) | (simp [*]; done)) ?_
      simp (config := { maxSteps := 1000000 }) [ty30]
      refine hK _ ?_
      clear hK K
      first | show AWP _ _ _ _ _ | show ∃ _, _ | skip
      repeat refine awp_seq ?_
      refine awp_cond (by simp; rfl) (by rw [hx]; simp) (fun hd => ?_) (fun hd => ?_)
      · simp at hd
      clear hd
      refine awp_skip ?_
      first | show AWP _ _ _ _ _ | show ∃ _, _ | skip
      repeat refine awp_seq ?_
      refine awp_reg1 (by rw [hx]; kernel_rfl) fun K hK => ?_
      simp (config := { maxSteps := 1000000 }) []
      refine hK _ ?_
      clear hK K
      first | show AWP _ _ _ _ _ | show ∃ _, _ | skip
      repeat refine awp_seq ?_
      refine awp_reg1 (by rw [hx]; kernel_rfl) fun K hK => ?_
      simp (config := { maxSteps := 1000000 }) []
      refine hK _ ?_
      clear hK K
      first | show AWP _ _ _ _ _ | show ∃ _, _ | skip
      refine AWP.weak ?_ (wk_nil 9 3001 1 (fu := true) (by simp) (by simp))
      repeat refine awp_seq ?_
      refine awp_block ?_
      refine awp_loop (fun i : Nat => ⟨ofL [(1, .ptr 1 3 0 0), (3, encI 0), (4, encI 3), (5, encI 0), (7, encI 0), (9, .own 3001 1 0 (areasTo p i).length), (10, encI i)], stoT [(1, 1, .live (obPlat p)), (3001, 3001, .live ⟨(areasTo p i).isEmpty, false, 1, (areasTo p i).map cI⟩)]⟩)
        (fun i => i ≤ p.ps.length) (fun i => p.ps.length - i) 0 (by simp) ?_ ?_
      · refine wk_shape (shp0 hσ (by simp) (by simp) ?_) ?_
        · simp [SlotOk, areasTo]; exact ⟨.same (plat_pure p), .same rfl⟩
        · simp [mtc, mtl, mT, C.isPure, areasTo]
      · intro i hi
        repeat refine awp_seq ?_
        refine awp_reg1 (by rw [hx]; kernel_rfl) fun K hK => ?_
        simp (config := { maxSteps := 1000000 }) [ty25, ty22, ty3]
        refine hK _ ?_
        clear hK K
        first | show AWP _ _ _ _ _ | show ∃ _, _ | skip
        repeat refine awp_seq ?_
        refine awp_cond (by simp; rfl) (by rw [hx]; simp) (fun hc => ?_) (fun hc => ?_)
        · simp at hc
          have hal := areasTo_len p i (by omega)
          have hne : p.ps ≠ [] := by intro h; rw [h] at hc; simp at hc
          refine awp_skip ?_
          first | show AWP _ _ _ _ _ | show ∃ _, _ | skip
          repeat refine awp_seq ?_
          refine awp_block ?_
          repeat refine awp_seq ?_
          refine awp_reg1 (by rw [hx]; kernel_rfl) fun K hK => ?_
          simp (config := { maxSteps := 1000000 }) [ty25, ty22, ty45, ty23, ty3, hc, hne]
          refine ⟨by omega, ?_⟩
          have ea : (areasTo p i).map cI ++ [[C.int IntKind.i64 p.ps[i].area]] = (areasTo p (i + 1)).map cI := by rw [areasTo_succ p i hc]; simp
          have hal2 := areasTo_len p (i + 1) (by omega)
          have hem : (areasTo p (i + 1)).isEmpty = false := by cases h : areasTo p (i + 1) with | nil => rw [h] at hal2; simp at hal2 | cons a b => rfl
          simp [ea, hal]
          refine hK _ ?_
          clear hK K
          first | show AWP _ _ _ _ _ | show ∃ _, _ | skip
          repeat refine awp_seq ?_
          refine awp_reg1 (by rw [hx]; kernel_rfl) fun K hK => ?_
          simp (config := { maxSteps := 1000000 }) [ty3]
          refine hK _ ?_
          clear hK K
          first | show AWP _ _ _ _ _ | show ∃ _, _ | skip
          refine ⟨i + 1, by omega, by omega, ?_⟩
          refine wk_shape (T := [(1, 1, .live (obPlat p)), (3001, 60, .live ⟨(areasTo p (i + 1)).isEmpty, false, 1, (areasTo p (i + 1)).map cI⟩)]) (shp0 hσ (by simp) (by simp) ?_) ?_
          · simp [SlotOk, hem]
            exact ⟨.same (plat_pure p), .same (ints_pure _)⟩
          · simp [mtc, mtl, mT, C.isPure, purel, hal2]
            simp (disch := omega) [wrap_id]
        · simp at hc
          repeat refine awp_seq ?_
          refine awp_exit ?_
          first | show AWP _ _ _ _ _ | show ∃ _, _ | skip
          obtain rfl : i = p.ps.length := by omega
          have hal := areasTo_len p p.ps.length (Nat.le_refl _)
          repeat refine awp_seq ?_
          refine awp_reg1 (by rw [hx]; kernel_rfl) fun K hK => ?_
          simp (config := { maxSteps := 1000000 }) [ty25]
          refine callL (fills35 p ((areasTo p p.ps.length).isEmpty && !false) (areasTo p p.ps.length) (by omega) (by have := hp.r4; omega) (by have := hp.c4; omega) hn.rn hn.cn 0 b (.inr (.inr ⟨by simp [hp], hal, rfl, hb⟩))) ?_ (.inr rfl) ?_
          · refine mapO_two (viewC_self (plat_pure1 p)) (viewC_own (m := (areasTo p p.ps.length).length) (o := ⟨(areasTo p p.ps.length).isEmpty, false, 1, (areasTo p p.ps.length).map cI⟩) rfl rfl (by simp) (ints_pure _))
          simp
          refine hK _ ?_
          clear hK K
          first | show AWP _ _ _ _ _ | show ∃ _, _ | skip
          repeat refine awp_seq ?_
          refine awp_reg1 (by rw [hx]; kernel_rfl) fun K hK => ?_
          simp (config := { maxSteps := 1000000 }) [ty30]
          refine hK _ ?_
          clear hK K
          first | show AWP _ _ _ _ _ | show ∃ _, _ | skip
          repeat refine awp_seq ?_
          refine awp_cond (by simp; rfl) (by rw [hx]; simp) (fun hd => ?_) (fun hd => ?_)
          · simp at hd
          clear hd
          refine awp_skip ?_
          first | show AWP _ _ _ _ _ | show ∃ _, _ | skip
          repeat refine awp_seq ?_
          refine awp_reg1 (by rw [hx]; kernel_rfl) fun K hK => ?_
          simp (config := { maxSteps := 1000000 }) [ty30]
          refine hK _ ?_
          clear hK K
          first | show AWP _ _ _ _ _ | show ∃ _, _ | skip
          repeat refine awp_seq ?_
          refine awp_cond (by simp; rfl) (by rw [hx]; simp) (fun hd => ?_) (fun hd => ?_)
          · have hno : b = false := by cases b with | false => rfl | true => exact absurd ⟨_, hb.1 rfl⟩ hf
            subst hno
            repeat refine awp_seq ?_
            refine awp_reg1 (by rw [hx]; kernel_rfl) fun K hK => ?_
            simp (config := { maxSteps := 1000000 }) []
            refine callP (works14) (by first | (simp; done) | (simp [*]; done)) ?_
            simp (config := { maxSteps := 1000000 }) [ty3, ty4]
            refine hK _ ?_
            clear hK K
            first | show AWP _ _ _ _ _ | show ∃ _, _ | skip
            repeat refine awp_seq ?_
            refine awp_ret ?_
            refine And.intro (Or.inr rfl) ?_
            simp [retC, resC, viewC, mapO]
          · simp at hd
  · have hr13 := ready_no hrd
    refine pure_of (fn := Try.f11) [.tmp 2] ⟨Try.func11, rfl, by kernel_rfl⟩ (by kernel_rfl) (by kernel_rfl) (by kernel_rfl) fun x hx hσ => ?_
    repeat refine awp_seq ?_
    refine awp_reg1 (by rw [hx]; kernel_rfl) fun K hK => ?_
    simp (config := { maxSteps := 1000000 }) [ty25]
    refine hK _ ?_
    clear hK K
    first | show AWP _ _ _ _ _ | show ∃ _, _ | skip
    repeat refine awp_seq ?_
    refine awp_reg1 (by rw [hx]; kernel_rfl) fun K hK => ?_
    simp (config := { maxSteps := 1000000 }) [ty25]
    refine callP (hr13) (by first | (simp; done) | (simp [*]; done)) ?_
    simp (config := { maxSteps := 1000000 }) []
    refine hK _ ?_
    clear hK K
    first | show AWP _ _ _ _ _ | show ∃ _, _ | skip
    repeat refine awp_seq ?_
    refine awp_cond (by simp; rfl) (by rw [hx]; simp) (fun hd => ?_) (fun hd => ?_)
    · repeat refine awp_seq ?_
      refine awp_reg1 (by rw [hx]; kernel_rfl) fun K hK => ?_
      simp (config := { maxSteps := 1000000 }) []
      refine callP (works14) (by first | (simp; done) | (simp [*]; done)) ?_
      simp (config := { maxSteps := 1000000 }) []
      refine hK _ ?_
      clear hK K
      first | show AWP _ _ _ _ _ | show ∃ _, _ | skip
      repeat refine awp_seq ?_
      refine awp_ret ?_
      refine And.intro (Or.inr rfl) ?_
      simp [retC, resC, viewC, mapO]
    · simp at hd

end Go.Proofs.Ytgcmjidphcafnaa

namespace Go.Proofs.Ytgcmjidphcafnaa
open Go Go.Abs
open Go.ChangeShapes Go.WideShapes Go.ChangeAt Go.RowKit

set_option maxRecDepth 100000 in
theorem parcelsThree_lifted (os : Os) (started : os.Started) (H : Type) (enc : TypeId × Value → H) :
    ReturnsInHanded {} Try.checked os 11 .any (Rows.parcelsThreeSpec.pre6 enc Try.prog Try.f11 Rows.parcelsThreeRow.domain false) (Rows.parcelsThreeSpec.post enc Try.prog Try.f11 false true false false) := by
  refine returnsInHanded_of_change (C := Try.checked) J.own started (by kernel_rfl) Try.func11
    (ChangeSpec.witness6 (enc := enc) (C := Try.checked) false ⟨#[], #[.agg #[.slice none 0 0, .slice none 0 0, .slice none 0 0]], []⟩ 8 (by kernel_rfl) (by kernel_rfl) (by kernel_rfl) (by kernel_rfl)) ?_
  intro W base args ds gs before hval hW _ _
  refine law_contract (P := Try.prog) (tb := 4) (by kernel_rfl) J.ub rfl (fun ds hl => ?_) J.laid J.maps J.sized (by kernel_rfl) (by kernel_rfl) (fun cargs hc => ?_) W base args ds gs before hval hW
  · have h2 : ds.length = 1 := hl
    match ds, h2 with
    | [_], _ => rfl
  · rw [Try.params11] at hc
    obtain ⟨p, r, rfl, hn, hc1⟩ := arg25 hc
    obtain rfl := arg_end hc1
    exact three11 p hn

theorem parcelsThree_holds : Rows.ParcelsThreeSaid :=
  OpenClaim.holds_of_wide 11 Try.f11 rfl rfl rfl rfl rfl rfl rfl ⟨rfl, rfl, rfl, rfl, rfl⟩ rfl rfl rfl rfl rfl (by kernel_rfl) Try.func11 (by kernel_rfl)
    (of_decide_eq_true (by kernel_rfl)) (by unfold Func.isWrapper; first | (rw [if_pos (by decide +kernel)]; kernel_rfl) | (rw [if_neg (by decide +kernel)]; exact ⟨rfl, rfl⟩))
    (fun os started H enc _ => parcelsThree_lifted os started H enc)
#print axioms parcelsThree_holds
end Go.Proofs.Ytgcmjidphcafnaa

