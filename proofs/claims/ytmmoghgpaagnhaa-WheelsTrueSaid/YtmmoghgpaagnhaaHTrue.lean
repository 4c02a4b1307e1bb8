/- For every input the law WheelsTrue returns true, and each argument reads afterwards as it read before. No condition. -/
import Derived.Test.YtmmoghgpaagnhaaB5

set_option linter.unusedSimpArgs false
set_option linter.unusedVariables false
set_option linter.constructorNameAsVariable false

namespace Go.Proofs.Ytmmoghgpaagnhaa
open Go Go.Abs

set_option maxHeartbeats 4000000

theorem ready19 (w : Wh) (nl fu : Bool) (l : List Wl) : ∃ b, Pure Try.prog 19 [encWh w, sWl nl fu l] (.bool b) ∧ (b = true → checkI w l = 0 ∧ Near w l) := by
  obtain ⟨f, hF, hf⟩ := far12 w nl fu l
  cases f
  · obtain ⟨h40, hnear⟩ := hf rfl
    by_cases hz : checkI w l = 0
    · refine ⟨true, ?_, fun _ => ⟨hz, hnear hz⟩⟩
      refine pure_of (fn := Try.f19) [.tmp 4] ⟨Try.func19, rfl, by kernel_rfl⟩ (by kernel_rfl) (by kernel_rfl) (by kernel_rfl) fun x hx hσ => ?_
      repeat refine awp_seq ?_
      refine awp_reg1 (by rw [hx]; kernel_rfl) fun K hK => ?_
      simp (config := { maxSteps := 1000000 }) [ty25]
      refine hK _ ?_
      clear hK K
      first | show AWP _ _ _ _ _ | show ∃ _, _ | skip
      repeat refine awp_seq ?_
      refine awp_reg1 (by rw [hx]; kernel_rfl) fun K hK => ?_
      simp (config := { maxSteps := 1000000 }) [ty25]
      refine callP (hF) (by first | (simp; done) | (simp [*]; done)) ?_
      simp (config := { maxSteps := 1000000 }) [ty4, ty25]
      refine callP (ref31 w nl fu l (by omega)) (by first | (simp; done) | (simp [*]; done)) ?_
      simp (config := { maxSteps := 1000000 }) [ty31, hz, ty4]
      refine hK _ ?_
      clear hK K
      first | show AWP _ _ _ _ _ | show ∃ _, _ | skip
      repeat refine awp_seq ?_
      refine awp_ret ?_
      refine And.intro (Or.inr rfl) ?_
      simp [retC, resC, viewC, mapO]
    · refine ⟨false, ?_, by simp⟩
      have hz' : (checkI w l == 0) = false := by simp [hz]
      refine pure_of (fn := Try.f19) [.tmp 4] ⟨Try.func19, rfl, by kernel_rfl⟩ (by kernel_rfl) (by kernel_rfl) (by kernel_rfl) fun x hx hσ => ?_
      repeat refine awp_seq ?_
      refine awp_reg1 (by rw [hx]; kernel_rfl) fun K hK => ?_
      simp (config := { maxSteps := 1000000 }) [ty25]
      refine hK _ ?_
      clear hK K
      first | show AWP _ _ _ _ _ | show ∃ _, _ | skip
      repeat refine awp_seq ?_
      refine awp_reg1 (by rw [hx]; kernel_rfl) fun K hK => ?_
      simp (config := { maxSteps := 1000000 }) [ty25]
      refine callP (hF) (by first | (simp; done) | (simp [*]; done)) ?_
      simp (config := { maxSteps := 1000000 }) [ty4, ty25]
      refine callP (ref31 w nl fu l (by omega)) (by first | (simp; done) | (simp [*]; done)) ?_
      simp (config := { maxSteps := 1000000 }) [ty31, ty4]
      refine hK _ ?_
      clear hK K
      first | show AWP _ _ _ _ _ | show ∃ _, _ | skip
      repeat refine awp_seq ?_
      refine awp_ret ?_
      refine And.intro (Or.inr rfl) ?_
      simp [retC, resC, viewC, mapO, hz']
  · refine ⟨false, ?_, by simp⟩
    refine pure_of (fn := Try.f19) [.tmp 4] ⟨Try.func19, rfl, by kernel_rfl⟩ (by kernel_rfl) (by kernel_rfl) (by kernel_rfl) fun x hx hσ => ?_
    repeat refine awp_seq ?_
    refine awp_reg1 (by rw [hx]; kernel_rfl) fun K hK => ?_
    simp (config := { maxSteps := 1000000 }) [ty25]
    refine hK _ ?_
    clear hK K
    first | show AWP _ _ _ _ _ | show ∃ _, _ | skip
    repeat refine awp_seq ?_
    refine awp_reg1 (by rw [hx]; kernel_rfl) fun K hK => ?_
    simp (config := { maxSteps := 1000000 }) [ty25]
    refine callP (hF) (by first | (simp; done) | (simp [*]; done)) ?_
    simp (config := { maxSteps := 1000000 }) [ty4, ty25]
    refine hK _ ?_
    clear hK K
    first | show AWP _ _ _ _ _ | show ∃ _, _ | skip
    repeat refine awp_seq ?_
    refine awp_ret ?_
    refine And.intro (Or.inr rfl) ?_
    simp [retC, resC, viewC, mapO]

theorem law3 (w : Wh) (nl fu : Bool) (l : List Wl) (a b : Int) : Pure Try.prog 3 [encWh w, sWl nl fu l, .agg [encI a, encI b]] (.bool true) := by
  obtain ⟨f, hF, hf⟩ := far12 w nl fu l
  refine pure_of (fn := Try.f3) [.tmp 6] ⟨Try.func3, rfl, by kernel_rfl⟩ (by kernel_rfl) (by kernel_rfl) (by kernel_rfl) fun x hx hσ => ?_
  repeat refine awp_seq ?_
  refine awp_reg1 (by rw [hx]; kernel_rfl) fun K hK => ?_
  simp (config := { maxSteps := 1000000 }) [ty25, ty28]
  refine hK _ ?_
  clear hK K
  first | show AWP _ _ _ _ _ | show ∃ _, _ | skip
  repeat refine awp_seq ?_
  refine awp_reg1 (by rw [hx]; kernel_rfl) fun K hK => ?_
  simp (config := { maxSteps := 1000000 }) [ty25]
  refine callP (hF) (by first | (simp; done) | (simp [*]; done)) ?_
  simp (config := { maxSteps := 1000000 }) [ty4]
  refine hK _ ?_
  clear hK K
  first | show AWP _ _ _ _ _ | show ∃ _, _ | skip
  cases f
  · repeat refine awp_seq ?_
    refine awp_cond (by simp; rfl) (by rw [hx]; simp) (fun hd => ?_) (fun hd => ?_)
    · simp at hd
    · clear hd
      obtain ⟨h40, _⟩ := hf rfl
      refine awp_skip ?_
      first | show AWP _ _ _ _ _ | show ∃ _, _ | skip
      repeat refine awp_seq ?_
      refine awp_reg1 (by rw [hx]; kernel_rfl) fun K hK => ?_
      simp (config := { maxSteps := 1000000 }) [ty26, ty39]
      refine ⟨by omega, ?_⟩
      refine hK _ ?_
      clear hK K
      first | show AWP _ _ _ _ _ | show ∃ _, _ | skip
      refine AWP.weak ?_ (wk_frz 7 24 (c := sWl false false l) (o := ⟨l.isEmpty, true, 5, l.map cWl⟩) (by simp) (by simp [purel, C.isPure]) (by
        have := fz_own (k := 24) (sz := 5) (n := l.length) (b := false) (o := ⟨l.isEmpty, true, 5, l.map cWl⟩) rfl (by simp) (by simp)
        simpa using this))
      repeat refine awp_seq ?_
      refine awp_reg1 (by rw [hx]; kernel_rfl) fun K hK => ?_
      simp (config := { maxSteps := 1000000 }) [ty25, ty28, ty3]
      refine callP (worst14 w false false l a b (by omega)) (by first | (simp; done) | (simp [*]; done)) ?_
      simp (config := { maxSteps := 1000000 }) [ty3, ty31]
      refine hK _ ?_
      clear hK K
      first | show AWP _ _ _ _ _ | show ∃ _, _ | skip
      repeat refine awp_seq ?_
      refine awp_reg1 (by rw [hx]; kernel_rfl) fun K hK => ?_
      simp (config := { maxSteps := 1000000 }) [ty25, ty28, ty3]
      refine callP (ref15 w nl fu l a b (by omega)) (by first | (simp; done) | (simp [*]; done)) ?_
      simp (config := { maxSteps := 1000000 }) [ty3, ty31]
      refine hK _ ?_
      clear hK K
      first | show AWP _ _ _ _ _ | show ∃ _, _ | skip
      repeat refine awp_seq ?_
      refine awp_reg1 (by rw [hx]; kernel_rfl) fun K hK => ?_
      simp (config := { maxSteps := 1000000 }) [ty25]
      refine callP (next16 w false false l (by omega)) (by first | (simp; done) | (simp [*]; done)) ?_
      simp (config := { maxSteps := 1000000 }) [ty3, ty31]
      refine hK _ ?_
      clear hK K
      first | show AWP _ _ _ _ _ | show ∃ _, _ | skip
      repeat refine awp_seq ?_
      refine awp_reg1 (by rw [hx]; kernel_rfl) fun K hK => ?_
      simp (config := { maxSteps := 1000000 }) [ty25]
      refine callP (ref17 w nl fu l (by omega)) (by first | (simp; done) | (simp [*]; done)) ?_
      simp (config := { maxSteps := 1000000 }) [ty3, ty31]
      refine hK _ ?_
      clear hK K
      first | show AWP _ _ _ _ _ | show ∃ _, _ | skip
      repeat refine awp_seq ?_
      refine awp_reg1 (by rw [hx]; kernel_rfl) fun K hK => ?_
      simp (config := { maxSteps := 1000000 }) [ty3, ty31, ty4]
      refine callP (walks18 false false nl fu l (by omega)) (by first | (simp; done) | (simp [*]; done)) ?_
      simp (config := { maxSteps := 1000000 }) [ty4]
      refine callP (works13) (by first | (simp; done) | (simp [*]; done)) ?_
      simp (config := { maxSteps := 1000000 }) [ty4]
      refine hK _ ?_
      clear hK K
      first | show AWP _ _ _ _ _ | show ∃ _, _ | skip
      repeat refine awp_seq ?_
      refine awp_ret ?_
      refine And.intro (Or.inr rfl) ?_
      simp [retC, resC, viewC, mapO]
  · repeat refine awp_seq ?_
    refine awp_cond (by simp; rfl) (by rw [hx]; simp) (fun hd => ?_) (fun hd => ?_)
    · clear hd
      repeat refine awp_seq ?_
      refine awp_reg1 (by rw [hx]; kernel_rfl) fun K hK => ?_
      simp (config := { maxSteps := 1000000 }) []
      refine callP (works13) (by first | (simp; done) | (simp [*]; done)) ?_
      simp (config := { maxSteps := 1000000 }) []
      refine hK _ ?_
      clear hK K
      first | show AWP _ _ _ _ _ | show ∃ _, _ | skip
      repeat refine awp_seq ?_
      refine awp_ret ?_
      refine And.intro (Or.inr rfl) ?_
      simp [retC, resC, viewC, mapO]
    · simp at hd

end Go.Proofs.Ytmmoghgpaagnhaa

namespace Go.Proofs.Ytmmoghgpaagnhaa
open Go Go.Abs

set_option maxHeartbeats 2000000

-- truths, plainly

theorem open_03 {w : Wh} {l : List Wl} (hz : checkI w l = 0) : openI w l true = 0 ∨ openI w l true = 3 := by
  by_cases h : truthsL w l = []
  · exact .inr (openI_no hz h)
  · exact .inl (openI_yes hz h)

theorem checkI_mk {w : Wh} {l : List Wl} (hw : WhOk w) (hl : ∀ y ∈ l, WlOk w y) (h8 : l.length ≤ 8) : checkI w l = 0 := by
  unfold checkI
  rw [if_neg (by rw [wheelB_iff.2 hw]; simp), if_neg]
  rintro (h | h)
  · omega
  · rw [Bool.eq_false_iff] at h
    exact h (List.all_eq_true.2 fun y hy => walkB_iff.2 (hl y hy))

theorem truth_mem {w : Wh} {l : List Wl} {t : Tr} : t ∈ truthsL w l ↔ t ∈ allT w ∧ (wrongsN w l t : Int) ≤ w.wrong := by
  simp [truthsL, isT]

theorem asc_len : ∀ (l : List Int) (a b : Int), l.Pairwise (· < ·) → (∀ z ∈ l, a ≤ z ∧ z ≤ b) → l.length ≤ (b - a + 1).toNat
  | [], _, _, _, _ => Nat.zero_le _
  | z :: l, a, b, hp, hb => by
    have h1 := List.pairwise_cons.1 hp
    have hz := hb z (by simp)
    have ih := asc_len l (z + 1) b h1.2 fun y hy => by
      have := h1.1 y hy
      have := (hb y (by simp [hy])).2
      omega
    simp only [List.length_cons]
    omega

theorem kinds_lt (f : Tr → Int) (L : List Tr) : (kindsL f L).Pairwise (· < ·) := by
  have h1 := kindsL_sorted f L
  have h2 := kindsL_nodup f L
  exact (h1.and h2).imp fun h => by omega

theorem nums_lt (f : Tr → Int) (w : Wh) (l : List Wl) : (numsI f w l).Pairwise (· < ·) := by
  unfold numsI
  split
  · exact kinds_lt _ _
  · simp

theorem nums_mem {f : Tr → Int} {w : Wh} {l : List Wl} (h : openI w l true = 0) (b : Int) : b ∈ numsI f w l ↔ ∃ t ∈ truthsL w l, f t = b := by
  rw [(numsI_ok h).1]; exact kindsL_mem _ _ _

theorem areas_bd {w : Wh} {l : List Wl} (hn : w.ghigh - w.glow ≤ 25) : (numsI Tr.area w l).length ≤ 26 := by
  by_cases h : openI w l true = 0
  · refine Nat.le_trans (asc_len _ w.glow w.ghigh (nums_lt _ _ _) fun z hz => ?_) (by omega)
    obtain ⟨t, ht, rfl⟩ := (nums_mem h z).1 hz
    exact (allT_mem.1 (truth_mem.1 ht).1).1
  · rw [numsI_zero h]; simp

theorem skews_bd {w : Wh} {l : List Wl} (hn : w.skew ≤ 2) : (numsI Tr.skew w l).length ≤ 5 := by
  by_cases h : openI w l true = 0
  · refine Nat.le_trans (asc_len _ (-w.skew) w.skew (nums_lt _ _ _) fun z hz => ?_) (by omega)
    obtain ⟨t, ht, rfl⟩ := (nums_mem h z).1 hz
    exact (allT_mem.1 (truth_mem.1 ht).1).2
  · rw [numsI_zero h]; simp

theorem nodup_len : ∀ (A B : List Int), A.Nodup → (∀ a ∈ A, a ∈ B) → A.length ≤ B.length
  | [], _, _, _ => Nat.zero_le _
  | a :: A, B, hn, hs => by
    have h1 := List.nodup_cons.1 hn
    have ha := hs a (by simp)
    have ih := nodup_len A (B.erase a) h1.2 fun b hb => by
      have hne : b ≠ a := fun e => h1.1 (e ▸ hb)
      exact (List.mem_erase_of_ne hne).2 (hs b (by simp [hb]))
    rw [List.length_erase_of_mem ha] at ih
    have := List.length_pos_of_mem ha
    simp only [List.length_cons]
    omega

theorem nums_len {f : Tr → Int} {w w' : Wh} {l l' : List Wl} (h : ∀ b ∈ numsI f w l, b ∈ numsI f w' l') : (numsI f w l).length ≤ (numsI f w' l').length :=
  nodup_len _ _ ((nums_lt f w l).imp fun h => Int.ne_of_lt h) h

theorem bound_mem {w : Wh} {l : List Wl} (h : openI w l true = 0) : (∃ t ∈ truthsL w l, t.area = (boundI w l).1) ∧ (∃ t ∈ truthsL w l, t.area = (boundI w l).2) ∧ ∀ t ∈ truthsL w l, (boundI w l).1 ≤ t.area ∧ t.area ≤ (boundI w l).2 := by
  obtain ⟨h0, e1, e2⟩ := bound_known h
  have hs := truthsL_sorted w l
  refine ⟨⟨_, List.getElem_mem h0, e1.symm⟩, ⟨_, List.getElem_mem (show (truthsL w l).length - 1 < (truthsL w l).length by omega), e2.symm⟩, fun t ht => ?_⟩
  obtain ⟨i, hi, rfl⟩ := List.getElem_of_mem ht
  rw [e1, e2]
  constructor
  · by_cases e : i = 0
    · subst e; exact Int.le_refl _
    · exact List.pairwise_iff_getElem.1 hs 0 i h0 hi (by omega)
  · by_cases e : i = (truthsL w l).length - 1
    · subst e; exact Int.le_refl _
    · exact List.pairwise_iff_getElem.1 hs i _ hi (by omega) (by omega)

-- one more walk

theorem wrongs_app (w : Wh) (l : List Wl) (y : Wl) (t : Tr) : wrongsN w (l ++ [y]) t = wrongsN w l t + if rightB w y t then 0 else 1 := by
  unfold wrongsN
  rw [List.countP_append, List.countP_singleton]
  cases rightB w y t <;> simp

theorem truths_app {w : Wh} {l : List Wl} {y : Wl} {t : Tr} (h : t ∈ truthsL w (l ++ [y])) : t ∈ truthsL w l := by
  rw [truth_mem] at *
  refine ⟨h.1, ?_⟩
  have h2 := h.2
  rw [wrongs_app] at h2
  omega

theorem truths_app_len (w : Wh) (l : List Wl) (y : Wl) : (truthsL w (l ++ [y])).length ≤ (truthsL w l).length := by
  unfold truthsL
  rw [← List.countP_eq_length_filter, ← List.countP_eq_length_filter]
  refine List.countP_mono_left fun t _ h => ?_
  simp only [isT, decide_eq_true_eq] at h ⊢
  rw [wrongs_app] at h
  omega

theorem open_app {w : Wh} {l : List Wl} {y : Wl} (hz : checkI w l = 0) (h : openI w (l ++ [y]) true = 0) : openI w l true = 0 := by
  obtain ⟨_, _, hT⟩ := openI_ok h
  obtain ⟨t, ht⟩ := List.exists_mem_of_ne_nil _ hT
  exact openI_yes hz (List.ne_nil_of_mem (truths_app ht))

theorem bound_app {w : Wh} {l : List Wl} {y : Wl} (hz : checkI w l = 0) (h : openI w (l ++ [y]) true = 0) : (boundI w l).1 ≤ (boundI w (l ++ [y])).1 ∧ (boundI w (l ++ [y])).2 ≤ (boundI w l).2 ∧ (boundI w (l ++ [y])).1 ≤ (boundI w (l ++ [y])).2 := by
  have h0 := open_app hz h
  obtain ⟨⟨t1, m1, e1⟩, ⟨t2, m2, e2⟩, h3⟩ := bound_mem h
  obtain ⟨_, _, g3⟩ := bound_mem h0
  have a1 := g3 t1 (truths_app m1)
  have a2 := g3 t2 (truths_app m2)
  have a3 := h3 t1 m1
  omega

theorem many_app {w : Wh} {l : List Wl} {y : Wl} (hz : checkI w l = 0) (h : openI w (l ++ [y]) true = 0) : manyN w (l ++ [y]) ≤ manyN w l := by
  have h0 := open_app hz h
  unfold manyN
  rw [if_pos h, if_pos h0]
  exact truths_app_len _ _ _

-- greater numbers of the wheel

structure Wider (w o : Wh) : Prop where
  full : o.full = w.full
  circle : o.circle = w.circle
  read : w.read ≤ o.read
  slip : w.slip ≤ o.slip
  skew : w.skew ≤ o.skew
  wrong : w.wrong ≤ o.wrong
  low : o.glow ≤ w.glow
  high : w.ghigh ≤ o.ghigh

theorem WlOk.wider {w o : Wh} (h : Wider w o) {y : Wl} (hy : WlOk w y) : WlOk o y := ⟨hy.sense, hy.side, hy.inside, by rw [h.full]; exact hy.start, by rw [h.full]; exact hy.fin⟩

theorem right_wider {w o : Wh} (h : Wider w o) (hw : WhOk w) (ho : WhOk o) {y : Wl} (hy : WlOk w y) {t : Tr} (hr : rightB w y t = true) : rightB o y t = true := by
  obtain ⟨s, f, h1, h2, h3⟩ := (right_iff hw hy).1 hr
  have := h.read
  have := h.slip
  refine (right_iff ho (hy.wider h)).2 ⟨s, f, by omega, by omega, ?_⟩
  rw [h.full, h.circle]
  exact h3

theorem wrongs_wider {w o : Wh} (h : Wider w o) (hw : WhOk w) (ho : WhOk o) {l : List Wl} (hl : ∀ y ∈ l, WlOk w y) (t : Tr) : wrongsN o l t ≤ wrongsN w l t := by
  unfold wrongsN
  refine List.countP_mono_left fun y hy hb => ?_
  simp only [Bool.not_eq_true'] at hb ⊢
  rw [Bool.eq_false_iff] at hb ⊢
  exact fun e => hb (right_wider h hw ho (hl y hy) e)

theorem truth_wider {w o : Wh} (h : Wider w o) (hw : WhOk w) (ho : WhOk o) {l : List Wl} (hl : ∀ y ∈ l, WlOk w y) {t : Tr} (ht : t ∈ truthsL w l) : t ∈ truthsL o l := by
  rw [truth_mem] at *
  have h1 := allT_mem.1 ht.1
  have h2 := wrongs_wider h hw ho hl t
  have := h.low
  have := h.high
  have := h.skew
  have := h.wrong
  refine ⟨allT_mem.2 ⟨⟨by omega, by omega⟩, by omega, by omega⟩, by omega⟩

theorem open_wider {w o : Wh} (h : Wider w o) {l : List Wl} (hz : checkI w l = 0) (hzo : checkI o l = 0) (he : openI w l true = 0) : openI o l true = 0 := by
  obtain ⟨hw, hl, _⟩ := checkI_ok hz
  obtain ⟨ho, _, _⟩ := checkI_ok hzo
  obtain ⟨_, _, hT⟩ := openI_ok he
  obtain ⟨t, ht⟩ := List.exists_mem_of_ne_nil _ hT
  exact openI_yes hzo (List.ne_nil_of_mem (truth_wider h hw ho hl ht))

theorem areas_wider {w o : Wh} (h : Wider w o) {l : List Wl} (hz : checkI w l = 0) (hzo : checkI o l = 0) (he : openI w l true = 0) : ∀ a ∈ numsI Tr.area w l, a ∈ numsI Tr.area o l := by
  obtain ⟨hw, hl, _⟩ := checkI_ok hz
  obtain ⟨ho, _, _⟩ := checkI_ok hzo
  have he' := open_wider h hz hzo he
  intro a ha
  obtain ⟨t, ht, rfl⟩ := (nums_mem he a).1 ha
  exact (nums_mem he' _).2 ⟨t, truth_wider h hw ho hl ht, rfl⟩

-- what cancels

theorem right_all {w : Wh} {l : List Wl} {t : Tr} (h : wrongsN w l t = 0) : ∀ y ∈ l, rightB w y t = true := by
  intro y hy
  unfold wrongsN at h
  rw [List.countP_eq_zero] at h
  have := h y hy
  simpa using this

theorem small_dvd {F z : Int} (hF : 0 < F) (h : F ∣ z) (h1 : -F < z) (h2 : z < F) : z = 0 := by
  obtain ⟨q, rfl⟩ := h
  rcases Int.lt_trichotomy q 0 with hq | hq | hq
  · have : F * q ≤ F * (-1) := Int.mul_le_mul_of_nonneg_left (by omega) (Int.le_of_lt hF)
    omega
  · rw [hq]; simp
  · have : F * 1 ≤ F * q := Int.mul_le_mul_of_nonneg_left (by omega) (Int.le_of_lt hF)
    omega

/-- What two truths and a walk that is right in both say. -/
theorem two_right {w : Wh} (hw : WhOk w) {y : Wl} (hy : WlOk w y) {t u : Tr} (hwide : w.ghigh - w.glow + w.slip + 2 * w.skew + 4 * w.read < w.full)
    (ht : (w.glow ≤ t.area ∧ t.area ≤ w.ghigh) ∧ -w.skew ≤ t.skew ∧ t.skew ≤ w.skew) (hu : (w.glow ≤ u.area ∧ u.area ≤ w.ghigh) ∧ -w.skew ≤ u.skew ∧ u.skew ≤ w.skew) (h1 : rightB w y t = true) (h2 : rightB w y u = true) :
    ∃ e, (t.area - u.area) + (y.sense * y.side) * (t.skew - u.skew) = e ∧ -(w.slip + 4 * w.read) ≤ e ∧ e ≤ w.slip + 4 * w.read := by
  obtain ⟨s1, o1, a1, b1, c1⟩ := (right_iff hw hy).1 h1
  obtain ⟨s2, o2, a2, b2, c2⟩ := (right_iff hw hy).1 h2
  have hd := Int.dvd_sub c1 c2
  have hf := hw.full
  generalize y.inside * w.circle = ci at *
  rcases hy.sense with e | e <;> rcases hy.side with e' | e' <;> rw [e, e'] at hd ⊢
  · have hz := small_dvd (by omega) hd (by omega) (by omega)
    exact ⟨_, rfl, by omega, by omega⟩
  · have hz := small_dvd (by omega) hd (by omega) (by omega)
    exact ⟨_, rfl, by omega, by omega⟩
  · have hz := small_dvd (by omega) hd (by omega) (by omega)
    exact ⟨_, rfl, by omega, by omega⟩
  · have hz := small_dvd (by omega) hd (by omega) (by omega)
    exact ⟨_, rfl, by omega, by omega⟩

theorem cancels {w : Wh} {l : List Wl} (h : openI w l true = 0) (h0 : w.wrong = 0) (hwide : w.ghigh - w.glow + w.slip + 2 * w.skew + 4 * w.read < w.full) {y z : Wl} (hy : y ∈ l) (hz : z ∈ l) (hne : y.sense * y.side ≠ z.sense * z.side) :
    (boundI w l).1 ≤ (boundI w l).2 ∧ (boundI w l).2 - (boundI w l).1 ≤ w.slip + 4 * w.read := by
  obtain ⟨⟨t, m1, e1⟩, ⟨u, m2, e2⟩, h3⟩ := bound_mem h
  obtain ⟨hw, hl, _⟩ := checkI_ok (openI_ok h).1
  have hb := h3 t m1
  have p1 := truth_mem.1 m1
  have p2 := truth_mem.1 m2
  have q1 := right_all (w := w) (l := l) (t := t) (by omega)
  have q2 := right_all (w := w) (l := l) (t := u) (by omega)
  obtain ⟨e, r1, r2, r3⟩ := two_right hw (hl y hy) hwide (allT_mem.1 p2.1) (allT_mem.1 p1.1) (q2 y hy) (q1 y hy)
  obtain ⟨e', r1', r2', r3'⟩ := two_right hw (hl z hz) hwide (allT_mem.1 p2.1) (allT_mem.1 p1.1) (q2 z hz) (q1 z hz)
  rw [← e1, ← e2]
  have hsgn : ∀ x : Wl, WlOk w x → x.sense * x.side = 1 ∨ x.sense * x.side = -1 := by
    intro x hx
    rcases hx.sense with a | a <;> rcases hx.side with b | b <;> rw [a, b] <;> simp
  rcases hsgn y (hl y hy) with a | a <;> rcases hsgn z (hl z hz) with b | b
  · exact absurd (a.trans b.symm) hne
  · rw [a] at r1; rw [b] at r1'
    exact ⟨by omega, by omega⟩
  · rw [a] at r1; rw [b] at r1'
    exact ⟨by omega, by omega⟩
  · exact absurd (a.trans b.symm) hne

end Go.Proofs.Ytmmoghgpaagnhaa

namespace Go.Proofs.Ytmmoghgpaagnhaa
open Go Go.Abs

set_option maxHeartbeats 4000000

theorem eqI2 (a b : Int) : eqInts [.i64, .i64] [encI a, encI b] [encI a, encI b] = some true := by simp [eqInts]

theorem strI_len (w : Wh) (l : List Wl) : (strI w l).length ≤ l.length := by
  unfold strI
  split
  · exact fixTo_len _ _
  · simp

theorem law9 (w : Wh) (nl fu : Bool) (l : List Wl) : Pure Try.prog 9 [encWh w, sWl nl fu l] (.bool true) := by
  obtain ⟨f, hF, hf⟩ := far12 w nl fu l
  have l1 := numsI_len Tr.area w l
  have l2 := numsI_len Tr.skew w l
  have l3 := strI_len w l
  have q2 := eqI2 (boundI w l).1 (boundI w l).2
  refine pure_of (fn := Try.f9) [.tmp 4] ⟨Try.func9, rfl, by kernel_rfl⟩ (by kernel_rfl) (by kernel_rfl) (by kernel_rfl) fun x hx hσ => ?_
  repeat refine awp_seq ?_
  refine awp_reg1 (by rw [hx]; kernel_rfl) fun K hK => ?_
  simp (config := { maxSteps := 1000000 }) [ty25]
  refine hK _ ?_
  clear hK K
  first | show AWP _ _ _ _ _ | show ∃ _, _ | skip
  repeat refine awp_seq ?_
  refine awp_reg1 (by rw [hx]; kernel_rfl) fun K hK => ?_
  simp (config := { maxSteps := 1000000 }) [ty25]
  refine callP (hF) (by first | (simp; done) | (simp [*]; done)) ?_
  simp (config := { maxSteps := 1000000 }) [ty4]
  refine hK _ ?_
  clear hK K
  first | show AWP _ _ _ _ _ | show ∃ _, _ | skip
  cases f
  · repeat refine awp_seq ?_
    refine awp_cond (by simp; rfl) (by rw [hx]; simp) (fun hd => ?_) (fun hd => ?_)
    · simp at hd
    · clear hd
      obtain ⟨h40, _⟩ := hf rfl
      have s1 := same29 (numsI Tr.area w l).isEmpty (numsI Tr.area w l).isEmpty (numsI Tr.area w l).isEmpty false (numsI Tr.area w l) (numsI Tr.area w l) (by omega) (by omega)
      have s2 := same29 (numsI Tr.skew w l).isEmpty (numsI Tr.skew w l).isEmpty (numsI Tr.skew w l).isEmpty (openI w l true != 0) (numsI Tr.skew w l) (numsI Tr.skew w l) (by omega) (by omega)
      have s3 := same29 (strI w l).isEmpty (openI w l true != 0) (strI w l).isEmpty (openI w l true != 0) (strI w l) (strI w l) (by omega) (by omega)
      rw [decide_eq_true rfl] at s1 s2 s3
      have a1 := areas22 w false false l (by omega)
      have a2 := ref34 w nl fu l (by omega)
      have a3 := bound21 w false false l (by omega)
      have a4 := ref35 w nl fu l (by omega)
      have a5 := skews36 w false false l (by omega)
      have a6 := ref37 w nl fu l (by omega)
      have a7 := strange38 w false false l (by omega)
      have a8 := ref39 w nl fu l (by omega)
      have a9 := many20 w false false l (by omega)
      have a10 := ref33 w nl fu l (by omega)
      have a11 := fewest28 w false false l (by omega)
      have a12 := ref32 w nl fu l (by omega)
      have a13 := check30 w false false l (by omega)
      have a14 := ref31 w nl fu l (by omega)
      generalize numsI Tr.area w l = A at *
      generalize numsI Tr.skew w l = S at *
      generalize strI w l = G at *
      generalize openI w l true = e at *
      generalize manyN w l = m at *
      generalize fewestN w l = n at *
      generalize checkI w l = c at *
      generalize (boundI w l).1 = b1 at *
      generalize (boundI w l).2 = b2 at *
      refine awp_skip ?_
      first | show AWP _ _ _ _ _ | show ∃ _, _ | skip
      repeat refine awp_seq ?_
      refine awp_reg1 (by rw [hx]; kernel_rfl) fun K hK => ?_
      simp (config := { maxSteps := 1000000 }) [ty26, ty39]
      refine ⟨by omega, ?_⟩
      refine hK _ ?_
      clear hK K
      first | show AWP _ _ _ _ _ | show ∃ _, _ | skip
      refine AWP.weak ?_ (wk_frz 5 30 (c := sWl false false l) (o := ⟨l.isEmpty, true, 5, l.map cWl⟩) (by simp) (by simp [purel, C.isPure]) (by
        have := fz_own (k := 30) (sz := 5) (n := l.length) (b := false) (o := ⟨l.isEmpty, true, 5, l.map cWl⟩) rfl (by simp) (by simp)
        simpa using this))
      repeat refine awp_seq ?_
      refine awp_drw3 [] [0, 1, 2, 3, 4, 5, 6] (by rw [hx]; kernel_rfl) (by kernel_rfl) (by kernel_rfl) (by kernel_rfl) fun K hK => ?_
      simp (config := { maxSteps := 1000000 }) [ty25, ty31]
      refine callPD (a13) (by first | (simp; done) | (simp [*]; done)) (by simp) ?_
      simp (config := { maxSteps := 1000000 }) [ty25, ty31]
      refine callPD (a14) (by first | (simp; done) | (simp [*]; done)) (by simp) ?_
      simp (config := { maxSteps := 1000000 }) [ty25, ty31]
      refine hK _ ?_
      clear hK K
      first | show AWP _ _ _ _ _ | show ∃ _, _ | skip
      repeat refine awp_seq ?_
      refine awp_cond (by simp; rfl) (by rw [hx]; simp) (fun hd => ?_) (fun hd => ?_)
      · simp at hd
      · clear hd
        refine awp_skip ?_
        first | show AWP _ _ _ _ _ | show ∃ _, _ | skip
        repeat refine awp_seq ?_
        refine awp_reg1 (by rw [hx]; kernel_rfl) fun K hK => ?_
        simp (config := { maxSteps := 1000000 }) [ty25]
        refine callP (a11) (by first | (simp; done) | (simp [*]; done)) ?_
        simp (config := { maxSteps := 1000000 }) [ty3, ty31]
        refine hK _ ?_
        clear hK K
        first | show AWP _ _ _ _ _ | show ∃ _, _ | skip
        repeat refine awp_seq ?_
        refine awp_reg1 (by rw [hx]; kernel_rfl) fun K hK => ?_
        simp (config := { maxSteps := 1000000 }) [ty25]
        refine callP (a12) (by first | (simp; done) | (simp [*]; done)) ?_
        simp (config := { maxSteps := 1000000 }) [ty3, ty31]
        refine hK _ ?_
        clear hK K
        first | show AWP _ _ _ _ _ | show ∃ _, _ | skip
        repeat refine awp_seq ?_
        refine awp_reg1 (by rw [hx]; kernel_rfl) fun K hK => ?_
        simp (config := { maxSteps := 1000000 }) [ty25]
        refine callP (a9) (by first | (simp; done) | (simp [*]; done)) ?_
        simp (config := { maxSteps := 1000000 }) [ty3, ty31]
        refine hK _ ?_
        clear hK K
        first | show AWP _ _ _ _ _ | show ∃ _, _ | skip
        repeat refine awp_seq ?_
        refine awp_reg1 (by rw [hx]; kernel_rfl) fun K hK => ?_
        simp (config := { maxSteps := 1000000 }) [ty25]
        refine callP (a10) (by first | (simp; done) | (simp [*]; done)) ?_
        simp (config := { maxSteps := 1000000 }) [ty3, ty31]
        refine hK _ ?_
        clear hK K
        first | show AWP _ _ _ _ _ | show ∃ _, _ | skip
        repeat refine awp_seq ?_
        refine awp_reg1 (by rw [hx]; kernel_rfl) fun K hK => ?_
        simp (config := { maxSteps := 1000000 }) [ty25]
        refine callP (a1) (by first | (simp; done) | (simp [*]; done)) ?_
        simp (config := { maxSteps := 1000000 }) [ty45, ty31]
        refine hK _ ?_
        clear hK K
        first | show AWP _ _ _ _ _ | show ∃ _, _ | skip
        repeat refine awp_seq ?_
        refine awp_reg1 (by rw [hx]; kernel_rfl) fun K hK => ?_
        simp (config := { maxSteps := 1000000 }) [ty25]
        refine callP (a2) (by first | (simp; done) | (simp [*]; done)) ?_
        simp (config := { maxSteps := 1000000 }) [ty45, ty31]
        refine hK _ ?_
        clear hK K
        first | show AWP _ _ _ _ _ | show ∃ _, _ | skip
        repeat refine awp_seq ?_
        refine awp_reg1 (by rw [hx]; kernel_rfl) fun K hK => ?_
        simp (config := { maxSteps := 1000000 }) [ty3, ty31]
        refine callP (s1) (by first | (simp; done) | (simp [*]; done)) ?_
        simp (config := { maxSteps := 1000000 }) [ty4, ty31]
        refine hK _ ?_
        clear hK K
        first | show AWP _ _ _ _ _ | show ∃ _, _ | skip
        repeat refine awp_seq ?_
        refine awp_cond (by simp; rfl) (by rw [hx]; simp) (fun hd => ?_) (fun hd => ?_)
        · simp at hd
        · clear hd
          refine awp_skip ?_
          first | show AWP _ _ _ _ _ | show ∃ _, _ | skip
          repeat refine awp_seq ?_
          refine awp_reg1 (by rw [hx]; kernel_rfl) fun K hK => ?_
          simp (config := { maxSteps := 1000000 }) [ty25, ty23]
          refine callP (a3) (by first | (simp; done) | (simp [*]; done)) ?_
          simp (config := { maxSteps := 1000000 }) [ty23, ty31]
          refine hK _ ?_
          clear hK K
          first | show AWP _ _ _ _ _ | show ∃ _, _ | skip
          repeat refine awp_seq ?_
          refine awp_reg1 (by rw [hx]; kernel_rfl) fun K hK => ?_
          simp (config := { maxSteps := 1000000 }) [ty25, ty23]
          refine callP (a4) (by first | (simp; done) | (simp [*]; done)) ?_
          simp (config := { maxSteps := 1000000 }) [ty23, ty31]
          refine hK _ ?_
          clear hK K
          first | show AWP _ _ _ _ _ | show ∃ _, _ | skip
          repeat refine awp_seq ?_
          refine awp_reg1 (by rw [hx]; kernel_rfl) fun K hK => ?_
          simp (config := { maxSteps := 1000000 }) [ty25]
          refine callP (a5) (by first | (simp; done) | (simp [*]; done)) ?_
          simp (config := { maxSteps := 1000000 }) [ty45, ty31]
          refine hK _ ?_
          clear hK K
          first | show AWP _ _ _ _ _ | show ∃ _, _ | skip
          repeat refine awp_seq ?_
          refine awp_reg1 (by rw [hx]; kernel_rfl) fun K hK => ?_
          simp (config := { maxSteps := 1000000 }) [ty25]
          refine callP (a6) (by first | (simp; done) | (simp [*]; done)) ?_
          simp (config := { maxSteps := 1000000 }) [ty45, ty31]
          refine hK _ ?_
          clear hK K
          first | show AWP _ _ _ _ _ | show ∃ _, _ | skip
          repeat refine awp_seq ?_
          refine awp_reg1 (by rw [hx]; kernel_rfl) fun K hK => ?_
          simp (config := { maxSteps := 1000000 }) [ty25]
          refine callP (a7) (by first | (simp; done) | (simp [*]; done)) ?_
          simp (config := { maxSteps := 1000000 }) [ty45, ty31]
          refine hK _ ?_
          clear hK K
          first | show AWP _ _ _ _ _ | show ∃ _, _ | skip
          repeat refine awp_seq ?_
          refine awp_reg1 (by rw [hx]; kernel_rfl) fun K hK => ?_
          simp (config := { maxSteps := 1000000 }) [ty25]
          refine callP (a8) (by first | (simp; done) | (simp [*]; done)) ?_
          simp (config := { maxSteps := 1000000 }) [ty45, ty31]
          refine hK _ ?_
          clear hK K
          first | show AWP _ _ _ _ _ | show ∃ _, _ | skip
          have q2' := q2
          simp only [encI] at q2'
          repeat refine awp_seq ?_
          refine awp_reg1 (by rw [hx]; kernel_rfl) fun K hK => ?_
          simp (config := { maxSteps := 1000000 }) [ty23, fe23, q2', ty31, ty4]
          refine callP (s2) (by first | (simp; done) | (simp [*]; done)) ?_
          simp (config := { maxSteps := 1000000 }) [ty4, ty31]
          refine callP (s3) (by first | (simp; done) | (simp [*]; done)) ?_
          simp (config := { maxSteps := 1000000 }) [ty4, ty31]
          refine callP (walks18 false false nl fu l (by omega)) (by first | (simp; done) | (simp [*]; done)) ?_
          simp (config := { maxSteps := 1000000 }) [ty4]
          refine callP (works13) (by first | (simp; done) | (simp [*]; done)) ?_
          simp (config := { maxSteps := 1000000 }) [ty4]
          refine hK _ ?_
          clear hK K
          first | show AWP _ _ _ _ _ | show ∃ _, _ | skip
          repeat refine awp_seq ?_
          refine awp_ret ?_
          refine And.intro (Or.inr rfl) ?_
          simp [retC, resC, viewC, mapO]
  · repeat refine awp_seq ?_
    refine awp_cond (by simp; rfl) (by rw [hx]; simp) (fun hd => ?_) (fun hd => ?_)
    · clear hd
      repeat refine awp_seq ?_
      refine awp_reg1 (by rw [hx]; kernel_rfl) fun K hK => ?_
      simp (config := { maxSteps := 1000000 }) []
      refine callP (works13) (by first | (simp; done) | (simp [*]; done)) ?_
      simp (config := { maxSteps := 1000000 }) []
      refine hK _ ?_
      clear hK K
      first | show AWP _ _ _ _ _ | show ∃ _, _ | skip
      repeat refine awp_seq ?_
      refine awp_ret ?_
      refine And.intro (Or.inr rfl) ?_
      simp [retC, resC, viewC, mapO]
    · simp at hd

end Go.Proofs.Ytmmoghgpaagnhaa

namespace Go.Proofs.Ytmmoghgpaagnhaa
open Go Go.Abs

set_option maxHeartbeats 2000000

-- one walk

theorem noWrong_ok {w : Wh} (hw : WhOk w) : WhOk (noWrong w) := ⟨hw.full, hw.read, hw.slip, hw.skew, hw.circle, hw.guess, by simp [noWrong]⟩
theorem noWrong_walk {w : Wh} {y : Wl} (hy : WlOk w y) : WlOk (noWrong w) y := ⟨hy.sense, hy.side, hy.inside, hy.start, hy.fin⟩
theorem noWrong_all (w : Wh) : allT (noWrong w) = allT w := rfl
theorem noWrong_wrongs (w : Wh) (l : List Wl) (t : Tr) : wrongsN (noWrong w) l t = wrongsN w l t := rfl

theorem none_mem {w : Wh} {l : List Wl} {t : Tr} : t ∈ truthsL (noWrong w) l ↔ t ∈ allT w ∧ ∀ y ∈ l, rightB w y t = true := by
  rw [truth_mem, noWrong_all, noWrong_wrongs]
  constructor
  · rintro ⟨h1, h2⟩
    have h3 : (wrongsN w l t : Int) ≤ 0 := h2
    exact ⟨h1, right_all (by omega)⟩
  · rintro ⟨h1, h2⟩
    refine ⟨h1, ?_⟩
    have : wrongsN w l t = 0 := by
      unfold wrongsN
      rw [List.countP_eq_zero]
      intro y hy
      rw [h2 y hy]; simp
    show (wrongsN w l t : Int) ≤ 0
    omega

theorem none_check {w : Wh} {l : List Wl} (hz : checkI w l = 0) {k : List Wl} (hk : ∀ y ∈ k, y ∈ l) (h8 : k.length ≤ 8) : checkI (noWrong w) k = 0 := by
  obtain ⟨hw, hl, _⟩ := checkI_ok hz
  exact checkI_mk (noWrong_ok hw) (fun y hy => noWrong_walk (hl y (hk y hy))) h8

theorem least_fold_le (w : Wh) (l : List Wl) : ∀ (L : List Tr) (a : Nat), L.foldl (fun a t => min a (wrongsN w l t)) a ≤ a
  | [], a => Nat.le_refl _
  | t :: L, a => by
    simp only [List.foldl_cons]
    exact Nat.le_trans (least_fold_le w l L _) (Nat.min_le_left _ _)

theorem leastN_mem (w : Wh) (l : List Wl) {L : List Tr} {t : Tr} (ht : t ∈ L) : leastN w l L ≤ wrongsN w l t := by
  unfold leastN
  generalize l.length = a
  induction L generalizing a with
  | nil => simp at ht
  | cons u L ih =>
    simp only [List.foldl_cons]
    rcases List.mem_cons.1 ht with rfl | ht
    · exact Nat.le_trans (least_fold_le w l L _) (Nat.min_le_right _ _)
    · exact ih ht _

theorem leastN_att (w : Wh) (l : List Wl) {L : List Tr} (hL : L ≠ []) : ∃ t ∈ L, leastN w l L = wrongsN w l t := by
  have key : ∀ (L : List Tr) (a : Nat), L.foldl (fun a t => min a (wrongsN w l t)) a = a ∨ ∃ t ∈ L, L.foldl (fun a t => min a (wrongsN w l t)) a = wrongsN w l t := by
    intro L
    induction L with
    | nil => intro a; exact .inl rfl
    | cons u L ih =>
      intro a
      simp only [List.foldl_cons]
      rcases ih (min a (wrongsN w l u)) with h | ⟨t, ht, h⟩
      · rw [h]
        by_cases e : a ≤ wrongsN w l u
        · exact .inl (Nat.min_eq_left e)
        · exact .inr ⟨u, by simp, Nat.min_eq_right (by omega)⟩
      · exact .inr ⟨t, by simp [ht], h⟩
  obtain ⟨u, hu⟩ := List.exists_mem_of_ne_nil _ hL
  rcases key L l.length with h | ⟨t, ht, h⟩
  · refine ⟨u, hu, ?_⟩
    have h1 := leastN_mem w l hu
    have h2 := wrongsN_le w l u
    unfold leastN at h1 ⊢
    omega
  · exact ⟨t, ht, h⟩

theorem wrongs_lt {w : Wh} {l : List Wl} {y : Wl} {t : Tr} (hy : y ∈ l) (h : rightB w y t = true) : wrongsN w l t < l.length := by
  have h1 := wrongsN_le w l t
  refine Nat.lt_of_le_of_ne h1 fun e => ?_
  have := (List.countP_eq_length.1 e) y hy
  rw [h] at this
  simp at this

theorem one_fewest {w : Wh} {l : List Wl} (hz : checkI w l = 0) {y : Wl} (hy : y ∈ l) (h : openI (noWrong w) [y] true = 0) : fewestN w l < l.length := by
  obtain ⟨_, _, hT⟩ := openI_ok h
  obtain ⟨t, ht⟩ := List.exists_mem_of_ne_nil _ hT
  obtain ⟨h1, h2⟩ := none_mem.1 ht
  unfold fewestN
  rw [if_pos hz]
  exact Nat.lt_of_le_of_lt (leastN_mem w l h1) (wrongs_lt hy (h2 y (by simp)))

theorem one_open {w : Wh} {l : List Wl} (hz : checkI w l = 0) {y : Wl} (hy : y ∈ l) (h : openI (noWrong w) l true = 0) : openI (noWrong w) [y] true = 0 := by
  obtain ⟨_, _, hT⟩ := openI_ok h
  obtain ⟨t, ht⟩ := List.exists_mem_of_ne_nil _ hT
  obtain ⟨h1, h2⟩ := none_mem.1 ht
  refine openI_yes (none_check hz (k := [y]) (fun z hz => by simp at hz; exact hz ▸ hy) (by simp)) (List.ne_nil_of_mem (none_mem.2 ⟨h1, fun z hz => ?_⟩))
  simp at hz
  exact hz ▸ h2 y hy

theorem one_sub {w : Wh} {l : List Wl} (hz : checkI w l = 0) {y : Wl} (hy : y ∈ l) (h : openI (noWrong w) l true = 0) : ∀ a ∈ numsI Tr.area (noWrong w) l, a ∈ numsI Tr.area (noWrong w) [y] := by
  intro a ha
  obtain ⟨t, ht, rfl⟩ := (nums_mem h a).1 ha
  obtain ⟨h1, h2⟩ := none_mem.1 ht
  refine (nums_mem (one_open hz hy h) _).2 ⟨t, none_mem.2 ⟨h1, fun z hz => ?_⟩, rfl⟩
  simp at hz
  exact hz ▸ h2 y hy

theorem take_one {l : List Wl} {j : Nat} (hj : j < l.length) : (l.drop j).take 1 = [l[j]] := by
  rw [List.drop_eq_getElem_cons hj]; rfl

-- each truth

theorem open_fewest {w : Wh} {l : List Wl} (hz : checkI w l = 0) : openI w l true = 0 ↔ (fewestN w l : Int) ≤ w.wrong := by
  obtain ⟨hw, hl, h8⟩ := checkI_ok hz
  have hp := allT_pos hw
  have hne : allT w ≠ [] := by
    have : 0 < (allT w).length := by rw [allT_len]; exact Nat.mul_pos hp.1 hp.2
    exact List.length_pos_iff.1 this
  have hf : fewestN w l = leastN w l (allT w) := by unfold fewestN; rw [if_pos hz]
  rw [hf]
  constructor
  · intro h
    obtain ⟨_, _, hT⟩ := openI_ok h
    obtain ⟨t, ht⟩ := List.exists_mem_of_ne_nil _ hT
    obtain ⟨h1, h2⟩ := truth_mem.1 ht
    have := leastN_mem w l h1
    omega
  · intro h
    obtain ⟨t, ht, e⟩ := leastN_att w l hne
    exact openI_yes hz (List.ne_nil_of_mem (truth_mem.2 ⟨ht, by omega⟩))

theorem fewest_le {w : Wh} {l : List Wl} : fewestN w l ≤ l.length := by
  unfold fewestN
  split
  · exact leastN_le _ _ _
  · exact Nat.zero_le _

theorem fewest_mem {w : Wh} {l : List Wl} {t : Tr} (ht : t ∈ allT w) : fewestN w l ≤ wrongsN w l t := by
  unfold fewestN
  split
  · exact leastN_mem w l ht
  · exact Nat.zero_le _

end Go.Proofs.Ytmmoghgpaagnhaa

namespace Go.Proofs.Ytmmoghgpaagnhaa
open Go Go.Abs

set_option maxHeartbeats 4000000

theorem fixTo_mem (q : Nat → Bool) (b : Int) : ∀ n, b ∈ fixTo q n → ∃ i, i < n ∧ q i = true ∧ b = i
  | 0, h => by simp at h
  | n + 1, h => by
    simp only [fixTo] at h
    split at h
    · rename_i hq
      rcases List.mem_append.1 h with h | h
      · obtain ⟨i, h1, h2⟩ := fixTo_mem q b n h
        exact ⟨i, by omega, h2⟩
      · simp at h; exact ⟨n, by omega, hq, h⟩
    · obtain ⟨i, h1, h2⟩ := fixTo_mem q b n h
      exact ⟨i, by omega, h2⟩

theorem strI_mem {w : Wh} {l : List Wl} {b : Int} (h : b ∈ strI w l) : ∃ i, ∃ hi : i < l.length, b = i ∧ ∀ t ∈ truthsL w l, rightB w l[i] t = false := by
  unfold strI at h
  split at h
  · obtain ⟨i, h1, h2, h3⟩ := fixTo_mem _ _ _ h
    refine ⟨i, h1, h3, fun t ht => ?_⟩
    rw [strB_at h1, List.all_eq_true] at h2
    simpa using h2 t ht
  · simp at h

theorem truthB_mem {w : Wh} {l : List Wl} {t : Tr} (h : isTruthB w l t = true) : t ∈ truthsL w l := by
  simp [isTruthB, withinB] at h
  exact truth_mem.2 ⟨allT_mem.2 ⟨h.1.1, h.1.2⟩, by simpa [isT] using h.2⟩

theorem law10 (w : Wh) (nl fu : Bool) (l : List Wl) (t : Tr) : Pure Try.prog 10 [encWh w, sWl nl fu l, encTr t] (.bool true) := by
  obtain ⟨f, hF, hf⟩ := ready19 w nl fu l
  refine pure_of (fn := Try.f10) [.tmp 6] ⟨Try.func10, rfl, by kernel_rfl⟩ (by kernel_rfl) (by kernel_rfl) (by kernel_rfl) fun x hx hσ => ?_
  repeat refine awp_seq ?_
  refine awp_reg1 (by rw [hx]; kernel_rfl) fun K hK => ?_
  simp (config := { maxSteps := 1000000 }) [ty25, ty61]
  refine hK _ ?_
  clear hK K
  first | show AWP _ _ _ _ _ | show ∃ _, _ | skip
  repeat refine awp_seq ?_
  refine awp_reg1 (by rw [hx]; kernel_rfl) fun K hK => ?_
  simp (config := { maxSteps := 1000000 }) [ty25]
  refine callP (hF) (by first | (simp; done) | (simp [*]; done)) ?_
  simp (config := { maxSteps := 1000000 }) [ty4]
  refine hK _ ?_
  clear hK K
  first | show AWP _ _ _ _ _ | show ∃ _, _ | skip
  cases f
  · repeat refine awp_seq ?_
    refine awp_cond (by simp; rfl) (by rw [hx]; simp) (fun hd => ?_) (fun hd => ?_)
    · clear hd
      repeat refine awp_seq ?_
      refine awp_reg1 (by rw [hx]; kernel_rfl) fun K hK => ?_
      simp (config := { maxSteps := 1000000 }) []
      refine callP (works13) (by first | (simp; done) | (simp [*]; done)) ?_
      simp (config := { maxSteps := 1000000 }) []
      refine hK _ ?_
      clear hK K
      first | show AWP _ _ _ _ _ | show ∃ _, _ | skip
      repeat refine awp_seq ?_
      refine awp_ret ?_
      refine And.intro (Or.inr rfl) ?_
      simp [retC, resC, viewC, mapO]
    · simp at hd
  · obtain ⟨hz, hN⟩ := hf rfl
    obtain ⟨hw, hl, h8⟩ := checkI_ok hz
    have h4 := hN.len
    have a1 := fewest28 w nl fu l (by omega)
    rw [hz] at a1
    have a2 := areas22 w nl fu l (by omega)
    have hab := areas_bd (l := l) hN.wide
    have hfl := fewest_le (w := w) (l := l)
    have hofe := open_fewest hz
    have hT := ref40 w nl fu l t hw hl (by omega)
    have ho := open_03 hz
    have k1 : ¬ (100 : Int) < (numsI Tr.area w l).length := by omega
    have k1' : ¬ 100 < (numsI Tr.area w l).length := by omega
    have k2 : ¬ (fewestN w l : Int) < 0 := by omega
    have k3 : ¬ (l.length : Int) < fewestN w l := by omega
    have k3' : ¬ l.length < fewestN w l := by omega
    repeat refine awp_seq ?_
    refine awp_cond (by simp; rfl) (by rw [hx]; simp) (fun hd => ?_) (fun hd => ?_)
    · simp at hd
    · clear hd
      refine awp_skip ?_
      first | show AWP _ _ _ _ _ | show ∃ _, _ | skip
      repeat refine awp_seq ?_
      refine awp_reg1 (by rw [hx]; kernel_rfl) fun K hK => ?_
      simp (config := { maxSteps := 1000000 }) [ty25]
      refine callP (a1) (by first | (simp; done) | (simp [*]; done)) ?_
      simp (config := { maxSteps := 1000000 }) [ty3, ty31]
      refine hK _ ?_
      clear hK K
      first | show AWP _ _ _ _ _ | show ∃ _, _ | skip
      repeat refine awp_seq ?_
      refine awp_reg1 (by rw [hx]; kernel_rfl) fun K hK => ?_
      simp (config := { maxSteps := 1000000 }) [ty25]
      refine callP (a2) (by first | (simp; done) | (simp [*]; done)) ?_
      simp (config := { maxSteps := 1000000 }) [ty45, ty31]
      refine hK _ ?_
      clear hK K
      first | show AWP _ _ _ _ _ | show ∃ _, _ | skip
      rcases ho with he | he
      · have hle : (fewestN w l : Int) ≤ w.wrong := hofe.1 he
        rw [he]
        repeat refine awp_seq ?_
        refine awp_reg1 (by rw [hx]; kernel_rfl) fun K hK => ?_
        simp (config := { maxSteps := 1000000 }) [ty31, ty3, ty26, k2, k3, k3']
        refine callP (known23 0) (by first | (simp; done) | (simp [*]; done)) ?_
        simp (config := { maxSteps := 1000000 }) [ty4, ty31, ty25, ty3, ty45, hle, k1, k1']
        refine hK _ ?_
        clear hK K
        first | show AWP _ _ _ _ _ | show ∃ _, _ | skip
        repeat refine awp_seq ?_
        refine awp_cond (by simp [hle, k1, k1', k2, k3, k3']; rfl) (by rw [hx]; simp) (fun hd => ?_) (fun hd => ?_)
        · simp [hle, k1, k1', k2, k3, k3'] at hd
        · clear hd
          refine awp_skip ?_
          first | show AWP _ _ _ _ _ | show ∃ _, _ | skip
          repeat refine awp_seq ?_
          refine awp_reg1 (by rw [hx]; kernel_rfl) fun K hK => ?_
          simp (config := { maxSteps := 1000000 }) [ty25, ty61]
          refine callP (hT) (by first | (simp; done) | (simp [*]; done)) ?_
          simp (config := { maxSteps := 1000000 }) [ty4]
          refine hK _ ?_
          clear hK K
          first | show AWP _ _ _ _ _ | show ∃ _, _ | skip
          cases hB : isTruthB w l t
          · repeat refine awp_seq ?_
            refine awp_cond (by simp [hB]; rfl) (by rw [hx]; simp) (fun hd => ?_) (fun hd => ?_)
            · clear hd
              repeat refine awp_seq ?_
              refine awp_reg1 (by rw [hx]; kernel_rfl) fun K hK => ?_
              simp (config := { maxSteps := 1000000 }) []
              refine callP (works13) (by first | (simp; done) | (simp [*]; done)) ?_
              simp (config := { maxSteps := 1000000 }) []
              refine hK _ ?_
              clear hK K
              first | show AWP _ _ _ _ _ | show ∃ _, _ | skip
              repeat refine awp_seq ?_
              refine awp_ret ?_
              refine And.intro (Or.inr rfl) ?_
              simp [retC, resC, viewC, mapO]
            · simp at hd
          · repeat refine awp_seq ?_
            refine awp_cond (by simp [hB]; rfl) (by rw [hx]; simp) (fun hd => ?_) (fun hd => ?_)
            · simp at hd
            · clear hd
              refine awp_skip ?_
              first | show AWP _ _ _ _ _ | show ∃ _, _ | skip
              have ht := truthB_mem hB
              have hta := (truth_mem.1 ht).1
              have b1 := bound21 w nl fu l (by omega)
              have b2 := skews36 w nl fu l (by omega)
              have b3 := strange38 w nl fu l (by omega)
              rw [he] at b1 b2 b3
              have hsb := skews_bd (l := l) hN.skew
              have hsl := strI_len w l
              have hbm := (bound_mem he).2.2 t ht
              have hfm := fewest_mem (l := l) hta
              have c1 := in41 (numsI Tr.area w l).isEmpty (numsI Tr.area w l).isEmpty (numsI Tr.area w l) t.area (by omega)
              rw [decide_eq_true ((nums_mem he _).2 ⟨t, ht, rfl⟩)] at c1
              have c2 := in41 (numsI Tr.skew w l).isEmpty (numsI Tr.skew w l).isEmpty (numsI Tr.skew w l) t.skew (by omega)
              rw [decide_eq_true ((nums_mem he _).2 ⟨t, ht, rfl⟩)] at c2
              have c3 := ref42 w nl fu l t hw hl (by omega) (allT_ok hw hta)
              have m1 : ¬ (100 : Int) < (numsI Tr.skew w l).length := by omega
              have m1' : ¬ 100 < (numsI Tr.skew w l).length := by omega
              have m2 : ¬ (l.length : Int) < (strI w l).length := by omega
              have m2' : ¬ l.length < (strI w l).length := by omega
              have m3 : ¬ t.area < (boundI w l).1 := by omega
              have m4 : ¬ (boundI w l).2 < t.area := by omega
              have m5 : ¬ (wrongsN w l t : Int) < fewestN w l := by omega
              have m5' : ¬ wrongsN w l t < fewestN w l := by omega
              repeat refine awp_seq ?_
              refine awp_reg1 (by rw [hx]; kernel_rfl) fun K hK => ?_
              simp (config := { maxSteps := 1000000 }) [ty25, ty23]
              refine callP (b1) (by first | (simp; done) | (simp [*]; done)) ?_
              simp (config := { maxSteps := 1000000 }) [ty23, ty31]
              refine hK _ ?_
              clear hK K
              first | show AWP _ _ _ _ _ | show ∃ _, _ | skip
              repeat refine awp_seq ?_
              refine awp_reg1 (by rw [hx]; kernel_rfl) fun K hK => ?_
              simp (config := { maxSteps := 1000000 }) [ty25]
              refine callP (b2) (by first | (simp; done) | (simp [*]; done)) ?_
              simp (config := { maxSteps := 1000000 }) [ty45, ty31]
              refine hK _ ?_
              clear hK K
              first | show AWP _ _ _ _ _ | show ∃ _, _ | skip
              repeat refine awp_seq ?_
              refine awp_reg1 (by rw [hx]; kernel_rfl) fun K hK => ?_
              simp (config := { maxSteps := 1000000 }) [ty25]
              refine callP (b3) (by first | (simp; done) | (simp [*]; done)) ?_
              simp (config := { maxSteps := 1000000 }) [ty45, ty31]
              refine hK _ ?_
              clear hK K
              first | show AWP _ _ _ _ _ | show ∃ _, _ | skip
              refine AWP.weak ?_ (wk_shape (E := [(1, sWl nl fu l), (3, .ptr 3 8 0 0), (5, .ptr 5 2 0 0), (7, encI (fewestN w l)), (9, slI (numsI Tr.area w l)), (10, encI 0), (11, .ptr 11 2 0 0), (12, encI 0), (13, slI (numsI Tr.skew w l)), (14, encI 0), (15, .sl (strI w l).isEmpty false ((strI w l).map cI)), (16, encI 0)])
                (T := [(3, 3, .live (obWh w)), (5, 5, .live (obTr t)), (11, 11, .live ⟨false, false, 2, [[encI (boundI w l).1, encI (boundI w l).2]]⟩)]) (shp0 hσ (by simp) (by simp) ?_) ?_)
              · repeat refine awp_seq ?_
                refine awp_reg1 (by rw [hx]; kernel_rfl) fun K hK => ?_
                simp (config := { maxSteps := 1000000 }) [ty31, ty45, ty26, ty61, ty3, m1, m1', m2, m2']
                refine callP (c1) (by first | (simp; done) | (simp [*]; done)) ?_
                simp (config := { maxSteps := 1000000 }) [ty4, ty61, ty23, ty3, m3, m4]
                refine callP (c2) (by first | (simp; done) | (simp [*]; done)) ?_
                simp (config := { maxSteps := 1000000 }) [ty4, ty25, ty26, ty61]
                refine callP (c3) (by first | (simp; done) | (simp [*]; done)) ?_
                simp (config := { maxSteps := 1000000 }) [ty3, ty4, m5, m5']
                refine hK _ ?_
                clear hK K
                first | show AWP _ _ _ _ _ | show ∃ _, _ | skip
                repeat refine awp_seq ?_
                refine awp_cond (by simp [m5, m5']; rfl) (by rw [hx]; simp) (fun hd => ?_) (fun hd => ?_)
                · simp [m5, m5'] at hd
                · clear hd
                  refine awp_skip ?_
                  first | show AWP _ _ _ _ _ | show ∃ _, _ | skip
                  repeat refine awp_seq ?_
                  refine awp_reg1 (by rw [hx]; kernel_rfl) fun K hK => ?_
                  simp (config := { maxSteps := 1000000 }) []
                  refine hK _ ?_
                  clear hK K
                  first | show AWP _ _ _ _ _ | show ∃ _, _ | skip
                  repeat refine awp_seq ?_
                  refine awp_block ?_
                  refine awp_loop (fun j : Nat => ⟨ofL [(1, sWl nl fu l), (3, .ptr 3 8 0 0), (5, .ptr 5 2 0 0), (15, .sl (strI w l).isEmpty false ((strI w l).map cI)), (17, encI j)], stoT [(3, 3, .live (obWh w)), (5, 5, .live (obTr t))]⟩)
                    (fun j => j ≤ (strI w l).length) (fun j => (strI w l).length - j) 0 (Nat.zero_le _) ?_ ?_
                  · refine wk_shape (shp0 hσ (by simp) (by simp) ?_) ?_
                    · simp [SlotOk] <;> (repeat' (first | exact .same (by simp [purel, C.isPure]) | exact .cons (by simp [mtl, mtc, mT, mH, C.isPure, purel]) (by simp) .nil | refine And.intro ?_ ?_))
                    · simp [mtc, mtl, mT, C.isPure, purel] <;> (try simp (disch := omega) [wrap_id]) <;> (try omega)
                  · intro j hj
                    repeat refine awp_seq ?_
                    refine awp_reg1 (by rw [hx]; kernel_rfl) fun K hK => ?_
                    simp (config := { maxSteps := 1000000 }) [ty45, ty3]
                    refine hK _ ?_
                    clear hK K
                    first | show AWP _ _ _ _ _ | show ∃ _, _ | skip
                    repeat refine awp_seq ?_
                    refine awp_cond (by simp; rfl) (by rw [hx]; simp) (fun hc => ?_) (fun hc => ?_)
                    · simp at hc
                      obtain ⟨i, hi, hAi, hall⟩ := strI_mem (List.getElem_mem hc)
                      have hrt := ref43 w l[i] t hw (hl _ (List.getElem_mem hi)) (allT_ok hw hta)
                      rw [hall t ht] at hrt
                      have o1 : ¬ (i : Int) < 0 := by omega
                      have o2 : ¬ (l.length : Int) ≤ i := by omega
                      have o2' : ¬ l.length ≤ i := by omega
                      refine awp_skip ?_
                      first | show AWP _ _ _ _ _ | show ∃ _, _ | skip
                      repeat refine awp_seq ?_
                      refine awp_block ?_
                      repeat refine awp_seq ?_
                      refine awp_drw3 [] [0, 1, 2, 3, 4, 5, 6, 7, 8, 9, 10, 11, 12, 13, 14, 15, 16, 17, 18, 19, 20, 21, 22, 23, 24, 25] (by rw [hx]; kernel_rfl) (by kernel_rfl) (by kernel_rfl) (by kernel_rfl) fun K hK => ?_
                      simp (config := { maxSteps := 1000000 }) [ty45, ty3, ty26, ty25, ty39, ty61, hc, hAi, o1, o2, o2', hi]
                      refine callPD (hrt) (by first | (simp; done) | (simp [*]; done)) (by simp) ?_
                      simp (config := { maxSteps := 1000000 }) [ty4]
                      refine hK _ ?_
                      clear hK K
                      first | show AWP _ _ _ _ _ | show ∃ _, _ | skip
                      repeat refine awp_seq ?_
                      refine awp_cond (by simp [o1, o2, o2']; rfl) (by rw [hx]; simp) (fun hd => ?_) (fun hd => ?_)
                      · simp at hd
                      · clear hd
                        refine awp_skip ?_
                        first | show AWP _ _ _ _ _ | show ∃ _, _ | skip
                        repeat refine awp_seq ?_
                        refine awp_reg1 (by rw [hx]; kernel_rfl) fun K hK => ?_
                        simp (config := { maxSteps := 1000000 }) [ty3]
                        refine hK _ ?_
                        clear hK K
                        first | show AWP _ _ _ _ _ | show ∃ _, _ | skip
                        rw [wrap_id (by omega) (by omega)]
                        refine ⟨j + 1, by omega, by omega, ?_⟩
                        refine wk_shape (shp0 hσ (by simp) (by simp) ?_) ?_
                        · simp [SlotOk] <;> (repeat' (first | exact .same (by simp [purel, C.isPure]) | exact .cons (by simp [mtl, mtc, mT, mH, C.isPure, purel]) (by simp) .nil | refine And.intro ?_ ?_))
                        · simp [mtc, mtl, mT, C.isPure, purel] <;> (try simp (disch := omega) [wrap_id]) <;> (try omega)
                    · simp at hc
                      repeat refine awp_seq ?_
                      refine awp_exit ?_
                      first | show AWP _ _ _ _ _ | show ∃ _, _ | skip
                      repeat refine awp_seq ?_
                      refine awp_reg1 (by rw [hx]; kernel_rfl) fun K hK => ?_
                      simp (config := { maxSteps := 1000000 }) []
                      refine callP (works13) (by first | (simp; done) | (simp [*]; done)) ?_
                      simp (config := { maxSteps := 1000000 }) []
                      refine hK _ ?_
                      clear hK K
                      first | show AWP _ _ _ _ _ | show ∃ _, _ | skip
                      repeat refine awp_seq ?_
                      refine awp_ret ?_
                      refine And.intro (Or.inr rfl) ?_
                      simp [retC, resC, viewC, mapO]
              · simp [SlotOk]
                exact ⟨.same (by simp [purel, C.isPure]), .same (by simp [purel, C.isPure]), .same (by simp [purel, C.isPure])⟩
              · simp [mtc, mtl, mT, C.isPure, purel]
      · have hle : ¬ (fewestN w l : Int) ≤ w.wrong := fun h => by have := hofe.2 h; omega
        rw [he]
        repeat refine awp_seq ?_
        refine awp_reg1 (by rw [hx]; kernel_rfl) fun K hK => ?_
        simp (config := { maxSteps := 1000000 }) [ty31, ty3, ty26, k2, k3, k3']
        refine callP (known23 3) (by first | (simp; done) | (simp [*]; done)) ?_
        simp (config := { maxSteps := 1000000 }) [ty4, ty31, ty25, ty3, ty45, hle, k1, k1']
        refine hK _ ?_
        clear hK K
        first | show AWP _ _ _ _ _ | show ∃ _, _ | skip
        repeat refine awp_seq ?_
        refine awp_cond (by simp [hle, k1, k1', k2, k3, k3']; rfl) (by rw [hx]; simp) (fun hd => ?_) (fun hd => ?_)
        · simp [hle, k1, k1', k2, k3, k3'] at hd
        · clear hd
          refine awp_skip ?_
          first | show AWP _ _ _ _ _ | show ∃ _, _ | skip
          repeat refine awp_seq ?_
          refine awp_reg1 (by rw [hx]; kernel_rfl) fun K hK => ?_
          simp (config := { maxSteps := 1000000 }) [ty25, ty61]
          refine callP (hT) (by first | (simp; done) | (simp [*]; done)) ?_
          simp (config := { maxSteps := 1000000 }) [ty4]
          refine hK _ ?_
          clear hK K
          first | show AWP _ _ _ _ _ | show ∃ _, _ | skip
          have hB : isTruthB w l t = false := by
            rw [Bool.eq_false_iff]
            intro h
            have := openI_yes hz (List.ne_nil_of_mem (truthB_mem h))
            omega
          repeat refine awp_seq ?_
          refine awp_cond (by simp [hB]; rfl) (by rw [hx]; simp) (fun hd => ?_) (fun hd => ?_)
          · clear hd
            repeat refine awp_seq ?_
            refine awp_reg1 (by rw [hx]; kernel_rfl) fun K hK => ?_
            simp (config := { maxSteps := 1000000 }) []
            refine callP (works13) (by first | (simp; done) | (simp [*]; done)) ?_
            simp (config := { maxSteps := 1000000 }) []
            refine hK _ ?_
            clear hK K
            first | show AWP _ _ _ _ _ | show ∃ _, _ | skip
            repeat refine awp_seq ?_
            refine awp_ret ?_
            refine And.intro (Or.inr rfl) ?_
            simp [retC, resC, viewC, mapO]
          · simp [hB] at hd

end Go.Proofs.Ytmmoghgpaagnhaa

namespace Go.Proofs.Ytmmoghgpaagnhaa
open Go Go.Abs
open Go.ChangeShapes Go.WideShapes Go.ChangeAt Go.RowKit

set_option maxRecDepth 100000 in
theorem wheelsTrue_lifted (os : Os) (started : os.Started) (H : Type) (enc : TypeId × Value → H) :
    ReturnsInHanded {} Try.checked os 10 .any (Rows.wheelsTrueSpec.pre6 enc Try.prog Try.f10 Rows.wheelsTrueRow.domain false) (Rows.wheelsTrueSpec.post enc Try.prog Try.f10 false true false false) := by
  refine returnsInHanded_of_change (C := Try.checked) J.own started (by kernel_rfl) Try.func10
    (ChangeSpec.witness6 (enc := enc) (C := Try.checked) false ⟨#[], #[.agg #[.int .i64 0, .int .i64 0, .int .i64 0, .int .i64 0, .int .i64 0, .int .i64 0, .int .i64 0, .int .i64 0], .slice none 0 0, .agg #[.int .i64 0, .int .i64 0]], []⟩ 8 (by kernel_rfl) (by kernel_rfl) (by kernel_rfl) (by kernel_rfl)) ?_
  intro W base args ds gs before hval hW _ _
  refine law_contract (P := Try.prog) (tb := 4) (by kernel_rfl) J.ub rfl (fun ds hl => ?_) J.laid J.maps J.sized (by kernel_rfl) (by kernel_rfl) (fun cargs hc => ?_) W base args ds gs before hval hW
  · have h2 : ds.length = 3 := hl
    match ds, h2 with
    | [_, _, _], _ => rfl
  · rw [Try.params10] at hc
    obtain ⟨w, r, rfl, hc1⟩ := arg25 hc
    obtain ⟨nl, l, r', rfl, hc2⟩ := arg26 hc1
    obtain ⟨t, r'', rfl, hc3⟩ := arg61 hc2
    obtain rfl := arg_end hc3
    exact law10 w nl false l t

theorem wheelsTrue_holds : Rows.WheelsTrueSaid :=
  OpenClaim.holds_of_wide 10 Try.f10 rfl rfl rfl rfl rfl rfl rfl ⟨rfl, rfl, rfl, rfl, rfl⟩ rfl rfl rfl rfl rfl (by kernel_rfl) Try.func10 (by kernel_rfl)
    (of_decide_eq_true (by kernel_rfl)) (by unfold Func.isWrapper; first | (rw [if_pos (by decide +kernel)]; kernel_rfl) | (rw [if_neg (by decide +kernel)]; exact ⟨rfl, rfl⟩))
    (fun os started H enc _ => wheelsTrue_lifted os started H enc)
#print axioms wheelsTrue_holds
end Go.Proofs.Ytmmoghgpaagnhaa

