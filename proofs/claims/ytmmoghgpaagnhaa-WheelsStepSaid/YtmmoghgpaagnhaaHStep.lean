/- For every input the law WheelsStep returns true, and each argument reads afterwards as it read before. No condition. -/
import Derived.Test.YtmmoghgpaagnhaaB5

set_option linter.unusedSimpArgs false
set_option linter.unusedVariables false
set_option linter.constructorNameAsVariable false

namespace Go.Proofs.Ytmmoghgpaagnhaa
open Go Go.Abs

set_option maxHeartbeats 4000000

theorem ready19 (w : Wh) (nl fu : Bool) (l : List Wl) : ∃ b, Pure Try.prog 19 [encWh w, sWl nl fu l] (.bool b) ∧ (b = true → checkI w l = 0 ∧ Near w l) := by
  obtain ⟨f, hF, hf⟩ := far12 w nl fu l
  cases f
  · obtain ⟨h40, hnear⟩ := hf rfl
    by_cases hz : checkI w l = 0
    · refine ⟨true, ?_, fun _ => ⟨hz, hnear hz⟩⟩
      refine pure_of (fn := Try.f19) [.tmp 4] ⟨Try.func19, rfl, by kernel_rfl⟩ (by kernel_rfl) (by kernel_rfl) (by kernel_rfl) fun x hx hσ => ?_
      repeat refine awp_seq ?_
      refine awp_reg1 (by rw [hx]; kernel_rfl) fun K hK => ?_
      simp (config := { maxSteps := 1000000 }) [ty25]
      refine hK _ ?_
      clear hK K
      first | show AWP _ _ _ _ _ | show ∃ _, _ | skip
      repeat refine awp_seq ?_
      refine awp_reg1 (by rw [hx]; kernel_rfl) fun K hK => ?_
      simp (config := { maxSteps := 1000000 }) [ty25]
      refine callP (hF) (by first | (simp; done) | (simp [*]; done)) ?_
      simp (config := { maxSteps := 1000000 }) [ty4, ty25]
      refine callP (ref31 w nl fu l (by omega)) (by first | (simp; done) | (simp [*]; done)) ?_
      simp (config := { maxSteps := 1000000 }) [ty31, hz, ty4]
      refine hK _ ?_
      clear hK K
      first | show AWP _ _ _ _ _ | show ∃ _, _ | skip
      repeat refine awp_seq ?_
      refine awp_ret ?_
      refine And.intro (Or.inr rfl) ?_
      simp [retC, resC, viewC, mapO]
    · refine ⟨false, ?_, by simp⟩
      have hz' : (checkI w l == 0) = false := by simp [hz]
      refine pure_of (fn := Try.f19) [.tmp 4] ⟨Try.func19, rfl, by kernel_rfl⟩ (by kernel_rfl) (by kernel_rfl) (by kernel_rfl) fun x hx hσ => ?_
      repeat refine awp_seq ?_
      refine awp_reg1 (by rw [hx]; kernel_rfl) fun K hK => ?_
      simp (config := { maxSteps := 1000000 }) [ty25]
      refine hK _ ?_
      clear hK K
      first | show AWP _ _ _ _ _ | show ∃ _, _ | skip
      repeat refine awp_seq ?_
      refine awp_reg1 (by rw [hx]; kernel_rfl) fun K hK => ?_
      simp (config := { maxSteps := 1000000 }) [ty25]
      refine callP (hF) (by first | (simp; done) | (simp [*]; done)) ?_
      simp (config := { maxSteps := 1000000 }) [ty4, ty25]
      refine callP (ref31 w nl fu l (by omega)) (by first | (simp; done) | (simp [*]; done)) ?_
      simp (config := { maxSteps := 1000000 }) [ty31, ty4]
      refine hK _ ?_
      clear hK K
      first | show AWP _ _ _ _ _ | show ∃ _, _ | skip
      repeat refine awp_seq ?_
      refine awp_ret ?_
      refine And.intro (Or.inr rfl) ?_
      simp [retC, resC, viewC, mapO, hz']
  · refine ⟨false, ?_, by simp⟩
    refine pure_of (fn := Try.f19) [.tmp 4] ⟨Try.func19, rfl, by kernel_rfl⟩ (by kernel_rfl) (by kernel_rfl) (by kernel_rfl) fun x hx hσ => ?_
    repeat refine awp_seq ?_
    refine awp_reg1 (by rw [hx]; kernel_rfl) fun K hK => ?_
    simp (config := { maxSteps := 1000000 }) [ty25]
    refine hK _ ?_
    clear hK K
    first | show AWP _ _ _ _ _ | show ∃ _, _ | skip
    repeat refine awp_seq ?_
    refine awp_reg1 (by rw [hx]; kernel_rfl) fun K hK => ?_
    simp (config := { maxSteps := 1000000 }) [ty25]
    refine callP (hF) (by first | (simp; done) | (simp [*]; done)) ?_
    simp (config := { maxSteps := 1000000 }) [ty4, ty25]
    refine hK _ ?_
    clear hK K
    first | show AWP _ _ _ _ _ | show ∃ _, _ | skip
    repeat refine awp_seq ?_
    refine awp_ret ?_
    refine And.intro (Or.inr rfl) ?_
    simp [retC, resC, viewC, mapO]

theorem law3 (w : Wh) (nl fu : Bool) (l : List Wl) (a b : Int) : Pure Try.prog 3 [encWh w, sWl nl fu l, .agg [encI a, encI b]] (.bool true) := by
  obtain ⟨f, hF, hf⟩ := far12 w nl fu l
  refine pure_of (fn := Try.f3) [.tmp 6] ⟨Try.func3, rfl, by kernel_rfl⟩ (by kernel_rfl) (by kernel_rfl) (by kernel_rfl) fun x hx hσ => ?_
  repeat refine awp_seq ?_
  refine awp_reg1 (by rw [hx]; kernel_rfl) fun K hK => ?_
  simp (config := { maxSteps := 1000000 }) [ty25, ty28]
  refine hK _ ?_
  clear hK K
  first | show AWP _ _ _ _ _ | show ∃ _, _ | skip
  repeat refine awp_seq ?_
  refine awp_reg1 (by rw [hx]; kernel_rfl) fun K hK => ?_
  simp (config := { maxSteps := 1000000 }) [ty25]
  refine callP (hF) (by first | (simp; done) | (simp [*]; done)) ?_
  simp (config := { maxSteps := 1000000 }) [ty4]
  refine hK _ ?_
  clear hK K
  first | show AWP _ _ _ _ _ | show ∃ _, _ | skip
  cases f
  · repeat refine awp_seq ?_
    refine awp_cond (by simp; rfl) (by rw [hx]; simp) (fun hd => ?_) (fun hd => ?_)
    · simp at hd
    · clear hd
      obtain ⟨h40, _⟩ := hf rfl
      refine awp_skip ?_
      first | show AWP _ _ _ _ _ | show ∃ _, _ | skip
      repeat refine awp_seq ?_
      refine awp_reg1 (by rw [hx]; kernel_rfl) fun K hK => ?_
      simp (config := { maxSteps := 1000000 }) [ty26, ty39]
      refine ⟨by omega, ?_⟩
      refine hK _ ?_
      clear hK K
      first | show AWP _ _ _ _ _ | show ∃ _, _ | skip
      refine AWP.weak ?_ (wk_frz 7 24 (c := sWl false false l) (o := ⟨l.isEmpty, true, 5, l.map cWl⟩) (by simp) (by simp [purel, C.isPure]) (by
        have := fz_own (k := 24) (sz := 5) (n := l.length) (b := false) (o := ⟨l.isEmpty, true, 5, l.map cWl⟩) rfl (by simp) (by simp)
        simpa using this))
      repeat refine awp_seq ?_
      refine awp_reg1 (by rw [hx]; kernel_rfl) fun K hK => ?_
      simp (config := { maxSteps := 1000000 }) [ty25, ty28, ty3]
      refine callP (worst14 w false false l a b (by omega)) (by first | (simp; done) | (simp [*]; done)) ?_
      simp (config := { maxSteps := 1000000 }) [ty3, ty31]
      refine hK _ ?_
      clear hK K
      first | show AWP _ _ _ _ _ | show ∃ _, _ | skip
      repeat refine awp_seq ?_
      refine awp_reg1 (by rw [hx]; kernel_rfl) fun K hK => ?_
      simp (config := { maxSteps := 1000000 }) [ty25, ty28, ty3]
      refine callP (ref15 w nl fu l a b (by omega)) (by first | (simp; done) | (simp [*]; done)) ?_
      simp (config := { maxSteps := 1000000 }) [ty3, ty31]
      refine hK _ ?_
      clear hK K
      first | show AWP _ _ _ _ _ | show ∃ _, _ | skip
      repeat refine awp_seq ?_
      refine awp_reg1 (by rw [hx]; kernel_rfl) fun K hK => ?_
      simp (config := { maxSteps := 1000000 }) [ty25]
      refine callP (next16 w false false l (by omega)) (by first | (simp; done) | (simp [*]; done)) ?_
      simp (config := { maxSteps := 1000000 }) [ty3, ty31]
      refine hK _ ?_
      clear hK K
      first | show AWP _ _ _ _ _ | show ∃ _, _ | skip
      repeat refine awp_seq ?_
      refine awp_reg1 (by rw [hx]; kernel_rfl) fun K hK => ?_
      simp (config := { maxSteps := 1000000 }) [ty25]
      refine callP (ref17 w nl fu l (by omega)) (by first | (simp; done) | (simp [*]; done)) ?_
      simp (config := { maxSteps := 1000000 }) [ty3, ty31]
      refine hK _ ?_
      clear hK K
      first | show AWP _ _ _ _ _ | show ∃ _, _ | skip
      repeat refine awp_seq ?_
      refine awp_reg1 (by rw [hx]; kernel_rfl) fun K hK => ?_
      simp (config := { maxSteps := 1000000 }) [ty3, ty31, ty4]
      refine callP (walks18 false false nl fu l (by omega)) (by first | (simp; done) | (simp [*]; done)) ?_
      simp (config := { maxSteps := 1000000 }) [ty4]
      refine callP (works13) (by first | (simp; done) | (simp [*]; done)) ?_
      simp (config := { maxSteps := 1000000 }) [ty4]
      refine hK _ ?_
      clear hK K
      first | show AWP _ _ _ _ _ | show ∃ _, _ | skip
      repeat refine awp_seq ?_
      refine awp_ret ?_
      refine And.intro (Or.inr rfl) ?_
      simp [retC, resC, viewC, mapO]
  · repeat refine awp_seq ?_
    refine awp_cond (by simp; rfl) (by rw [hx]; simp) (fun hd => ?_) (fun hd => ?_)
    · clear hd
      repeat refine awp_seq ?_
      refine awp_reg1 (by rw [hx]; kernel_rfl) fun K hK => ?_
      simp (config := { maxSteps := 1000000 }) []
      refine callP (works13) (by first | (simp; done) | (simp [*]; done)) ?_
      simp (config := { maxSteps := 1000000 }) []
      refine hK _ ?_
      clear hK K
      first | show AWP _ _ _ _ _ | show ∃ _, _ | skip
      repeat refine awp_seq ?_
      refine awp_ret ?_
      refine And.intro (Or.inr rfl) ?_
      simp [retC, resC, viewC, mapO]
    · simp at hd

end Go.Proofs.Ytmmoghgpaagnhaa

namespace Go.Proofs.Ytmmoghgpaagnhaa
open Go Go.Abs

set_option maxHeartbeats 2000000

-- truths, plainly

theorem open_03 {w : Wh} {l : List Wl} (hz : checkI w l = 0) : openI w l true = 0 ∨ openI w l true = 3 := by
  by_cases h : truthsL w l = []
  · exact .inr (openI_no hz h)
  · exact .inl (openI_yes hz h)

theorem checkI_mk {w : Wh} {l : List Wl} (hw : WhOk w) (hl : ∀ y ∈ l, WlOk w y) (h8 : l.length ≤ 8) : checkI w l = 0 := by
  unfold checkI
  rw [if_neg (by rw [wheelB_iff.2 hw]; simp), if_neg]
  rintro (h | h)
  · omega
  · rw [Bool.eq_false_iff] at h
    exact h (List.all_eq_true.2 fun y hy => walkB_iff.2 (hl y hy))

theorem truth_mem {w : Wh} {l : List Wl} {t : Tr} : t ∈ truthsL w l ↔ t ∈ allT w ∧ (wrongsN w l t : Int) ≤ w.wrong := by
  simp [truthsL, isT]

theorem asc_len : ∀ (l : List Int) (a b : Int), l.Pairwise (· < ·) → (∀ z ∈ l, a ≤ z ∧ z ≤ b) → l.length ≤ (b - a + 1).toNat
  | [], _, _, _, _ => Nat.zero_le _
  | z :: l, a, b, hp, hb => by
    have h1 := List.pairwise_cons.1 hp
    have hz := hb z (by simp)
    have ih := asc_len l (z + 1) b h1.2 fun y hy => by
      have := h1.1 y hy
      have := (hb y (by simp [hy])).2
      omega
    simp only [List.length_cons]
    omega

theorem kinds_lt (f : Tr → Int) (L : List Tr) : (kindsL f L).Pairwise (· < ·) := by
  have h1 := kindsL_sorted f L
  have h2 := kindsL_nodup f L
  exact (h1.and h2).imp fun h => by omega

theorem nums_lt (f : Tr → Int) (w : Wh) (l : List Wl) : (numsI f w l).Pairwise (· < ·) := by
  unfold numsI
  split
  · exact kinds_lt _ _
  · simp

theorem nums_mem {f : Tr → Int} {w : Wh} {l : List Wl} (h : openI w l true = 0) (b : Int) : b ∈ numsI f w l ↔ ∃ t ∈ truthsL w l, f t = b := by
  rw [(numsI_ok h).1]; exact kindsL_mem _ _ _

theorem areas_bd {w : Wh} {l : List Wl} (hn : w.ghigh - w.glow ≤ 25) : (numsI Tr.area w l).length ≤ 26 := by
  by_cases h : openI w l true = 0
  · refine Nat.le_trans (asc_len _ w.glow w.ghigh (nums_lt _ _ _) fun z hz => ?_) (by omega)
    obtain ⟨t, ht, rfl⟩ := (nums_mem h z).1 hz
    exact (allT_mem.1 (truth_mem.1 ht).1).1
  · rw [numsI_zero h]; simp

theorem skews_bd {w : Wh} {l : List Wl} (hn : w.skew ≤ 2) : (numsI Tr.skew w l).length ≤ 5 := by
  by_cases h : openI w l true = 0
  · refine Nat.le_trans (asc_len _ (-w.skew) w.skew (nums_lt _ _ _) fun z hz => ?_) (by omega)
    obtain ⟨t, ht, rfl⟩ := (nums_mem h z).1 hz
    exact (allT_mem.1 (truth_mem.1 ht).1).2
  · rw [numsI_zero h]; simp

theorem nodup_len : ∀ (A B : List Int), A.Nodup → (∀ a ∈ A, a ∈ B) → A.length ≤ B.length
  | [], _, _, _ => Nat.zero_le _
  | a :: A, B, hn, hs => by
    have h1 := List.nodup_cons.1 hn
    have ha := hs a (by simp)
    have ih := nodup_len A (B.erase a) h1.2 fun b hb => by
      have hne : b ≠ a := fun e => h1.1 (e ▸ hb)
      exact (List.mem_erase_of_ne hne).2 (hs b (by simp [hb]))
    rw [List.length_erase_of_mem ha] at ih
    have := List.length_pos_of_mem ha
    simp only [List.length_cons]
    omega

theorem nums_len {f : Tr → Int} {w w' : Wh} {l l' : List Wl} (h : ∀ b ∈ numsI f w l, b ∈ numsI f w' l') : (numsI f w l).length ≤ (numsI f w' l').length :=
  nodup_len _ _ ((nums_lt f w l).imp fun h => Int.ne_of_lt h) h

theorem bound_mem {w : Wh} {l : List Wl} (h : openI w l true = 0) : (∃ t ∈ truthsL w l, t.area = (boundI w l).1) ∧ (∃ t ∈ truthsL w l, t.area = (boundI w l).2) ∧ ∀ t ∈ truthsL w l, (boundI w l).1 ≤ t.area ∧ t.area ≤ (boundI w l).2 := by
  obtain ⟨h0, e1, e2⟩ := bound_known h
  have hs := truthsL_sorted w l
  refine ⟨⟨_, List.getElem_mem h0, e1.symm⟩, ⟨_, List.getElem_mem (show (truthsL w l).length - 1 < (truthsL w l).length by omega), e2.symm⟩, fun t ht => ?_⟩
  obtain ⟨i, hi, rfl⟩ := List.getElem_of_mem ht
  rw [e1, e2]
  constructor
  · by_cases e : i = 0
    · subst e; exact Int.le_refl _
    · exact List.pairwise_iff_getElem.1 hs 0 i h0 hi (by omega)
  · by_cases e : i = (truthsL w l).length - 1
    · subst e; exact Int.le_refl _
    · exact List.pairwise_iff_getElem.1 hs i _ hi (by omega) (by omega)

-- one more walk

theorem wrongs_app (w : Wh) (l : List Wl) (y : Wl) (t : Tr) : wrongsN w (l ++ [y]) t = wrongsN w l t + if rightB w y t then 0 else 1 := by
  unfold wrongsN
  rw [List.countP_append, List.countP_singleton]
  cases rightB w y t <;> simp

theorem truths_app {w : Wh} {l : List Wl} {y : Wl} {t : Tr} (h : t ∈ truthsL w (l ++ [y])) : t ∈ truthsL w l := by
  rw [truth_mem] at *
  refine ⟨h.1, ?_⟩
  have h2 := h.2
  rw [wrongs_app] at h2
  omega

theorem truths_app_len (w : Wh) (l : List Wl) (y : Wl) : (truthsL w (l ++ [y])).length ≤ (truthsL w l).length := by
  unfold truthsL
  rw [← List.countP_eq_length_filter, ← List.countP_eq_length_filter]
  refine List.countP_mono_left fun t _ h => ?_
  simp only [isT, decide_eq_true_eq] at h ⊢
  rw [wrongs_app] at h
  omega

theorem open_app {w : Wh} {l : List Wl} {y : Wl} (hz : checkI w l = 0) (h : openI w (l ++ [y]) true = 0) : openI w l true = 0 := by
  obtain ⟨_, _, hT⟩ := openI_ok h
  obtain ⟨t, ht⟩ := List.exists_mem_of_ne_nil _ hT
  exact openI_yes hz (List.ne_nil_of_mem (truths_app ht))

theorem bound_app {w : Wh} {l : List Wl} {y : Wl} (hz : checkI w l = 0) (h : openI w (l ++ [y]) true = 0) : (boundI w l).1 ≤ (boundI w (l ++ [y])).1 ∧ (boundI w (l ++ [y])).2 ≤ (boundI w l).2 ∧ (boundI w (l ++ [y])).1 ≤ (boundI w (l ++ [y])).2 := by
  have h0 := open_app hz h
  obtain ⟨⟨t1, m1, e1⟩, ⟨t2, m2, e2⟩, h3⟩ := bound_mem h
  obtain ⟨_, _, g3⟩ := bound_mem h0
  have a1 := g3 t1 (truths_app m1)
  have a2 := g3 t2 (truths_app m2)
  have a3 := h3 t1 m1
  omega

theorem many_app {w : Wh} {l : List Wl} {y : Wl} (hz : checkI w l = 0) (h : openI w (l ++ [y]) true = 0) : manyN w (l ++ [y]) ≤ manyN w l := by
  have h0 := open_app hz h
  unfold manyN
  rw [if_pos h, if_pos h0]
  exact truths_app_len _ _ _

-- greater numbers of the wheel

structure Wider (w o : Wh) : Prop where
  full : o.full = w.full
  circle : o.circle = w.circle
  read : w.read ≤ o.read
  slip : w.slip ≤ o.slip
  skew : w.skew ≤ o.skew
  wrong : w.wrong ≤ o.wrong
  low : o.glow ≤ w.glow
  high : w.ghigh ≤ o.ghigh

theorem WlOk.wider {w o : Wh} (h : Wider w o) {y : Wl} (hy : WlOk w y) : WlOk o y := ⟨hy.sense, hy.side, hy.inside, by rw [h.full]; exact hy.start, by rw [h.full]; exact hy.fin⟩

theorem right_wider {w o : Wh} (h : Wider w o) (hw : WhOk w) (ho : WhOk o) {y : Wl} (hy : WlOk w y) {t : Tr} (hr : rightB w y t = true) : rightB o y t = true := by
  obtain ⟨s, f, h1, h2, h3⟩ := (right_iff hw hy).1 hr
  have := h.read
  have := h.slip
  refine (right_iff ho (hy.wider h)).2 ⟨s, f, by omega, by omega, ?_⟩
  rw [h.full, h.circle]
  exact h3

theorem wrongs_wider {w o : Wh} (h : Wider w o) (hw : WhOk w) (ho : WhOk o) {l : List Wl} (hl : ∀ y ∈ l, WlOk w y) (t : Tr) : wrongsN o l t ≤ wrongsN w l t := by
  unfold wrongsN
  refine List.countP_mono_left fun y hy hb => ?_
  simp only [Bool.not_eq_true'] at hb ⊢
  rw [Bool.eq_false_iff] at hb ⊢
  exact fun e => hb (right_wider h hw ho (hl y hy) e)

theorem truth_wider {w o : Wh} (h : Wider w o) (hw : WhOk w) (ho : WhOk o) {l : List Wl} (hl : ∀ y ∈ l, WlOk w y) {t : Tr} (ht : t ∈ truthsL w l) : t ∈ truthsL o l := by
  rw [truth_mem] at *
  have h1 := allT_mem.1 ht.1
  have h2 := wrongs_wider h hw ho hl t
  have := h.low
  have := h.high
  have := h.skew
  have := h.wrong
  refine ⟨allT_mem.2 ⟨⟨by omega, by omega⟩, by omega, by omega⟩, by omega⟩

theorem open_wider {w o : Wh} (h : Wider w o) {l : List Wl} (hz : checkI w l = 0) (hzo : checkI o l = 0) (he : openI w l true = 0) : openI o l true = 0 := by
  obtain ⟨hw, hl, _⟩ := checkI_ok hz
  obtain ⟨ho, _, _⟩ := checkI_ok hzo
  obtain ⟨_, _, hT⟩ := openI_ok he
  obtain ⟨t, ht⟩ := List.exists_mem_of_ne_nil _ hT
  exact openI_yes hzo (List.ne_nil_of_mem (truth_wider h hw ho hl ht))

theorem areas_wider {w o : Wh} (h : Wider w o) {l : List Wl} (hz : checkI w l = 0) (hzo : checkI o l = 0) (he : openI w l true = 0) : ∀ a ∈ numsI Tr.area w l, a ∈ numsI Tr.area o l := by
  obtain ⟨hw, hl, _⟩ := checkI_ok hz
  obtain ⟨ho, _, _⟩ := checkI_ok hzo
  have he' := open_wider h hz hzo he
  intro a ha
  obtain ⟨t, ht, rfl⟩ := (nums_mem he a).1 ha
  exact (nums_mem he' _).2 ⟨t, truth_wider h hw ho hl ht, rfl⟩

-- what cancels

theorem right_all {w : Wh} {l : List Wl} {t : Tr} (h : wrongsN w l t = 0) : ∀ y ∈ l, rightB w y t = true := by
  intro y hy
  unfold wrongsN at h
  rw [List.countP_eq_zero] at h
  have := h y hy
  simpa using this

theorem small_dvd {F z : Int} (hF : 0 < F) (h : F ∣ z) (h1 : -F < z) (h2 : z < F) : z = 0 := by
  obtain ⟨q, rfl⟩ := h
  rcases Int.lt_trichotomy q 0 with hq | hq | hq
  · have : F * q ≤ F * (-1) := Int.mul_le_mul_of_nonneg_left (by omega) (Int.le_of_lt hF)
    omega
  · rw [hq]; simp
  · have : F * 1 ≤ F * q := Int.mul_le_mul_of_nonneg_left (by omega) (Int.le_of_lt hF)
    omega

/-- What two truths and a walk that is right in both say. -/
theorem two_right {w : Wh} (hw : WhOk w) {y : Wl} (hy : WlOk w y) {t u : Tr} (hwide : w.ghigh - w.glow + w.slip + 2 * w.skew + 4 * w.read < w.full)
    (ht : (w.glow ≤ t.area ∧ t.area ≤ w.ghigh) ∧ -w.skew ≤ t.skew ∧ t.skew ≤ w.skew) (hu : (w.glow ≤ u.area ∧ u.area ≤ w.ghigh) ∧ -w.skew ≤ u.skew ∧ u.skew ≤ w.skew) (h1 : rightB w y t = true) (h2 : rightB w y u = true) :
    ∃ e, (t.area - u.area) + (y.sense * y.side) * (t.skew - u.skew) = e ∧ -(w.slip + 4 * w.read) ≤ e ∧ e ≤ w.slip + 4 * w.read := by
  obtain ⟨s1, o1, a1, b1, c1⟩ := (right_iff hw hy).1 h1
  obtain ⟨s2, o2, a2, b2, c2⟩ := (right_iff hw hy).1 h2
  have hd := Int.dvd_sub c1 c2
  have hf := hw.full
  generalize y.inside * w.circle = ci at *
  rcases hy.sense with e | e <;> rcases hy.side with e' | e' <;> rw [e, e'] at hd ⊢
  · have hz := small_dvd (by omega) hd (by omega) (by omega)
    exact ⟨_, rfl, by omega, by omega⟩
  · have hz := small_dvd (by omega) hd (by omega) (by omega)
    exact ⟨_, rfl, by omega, by omega⟩
  · have hz := small_dvd (by omega) hd (by omega) (by omega)
    exact ⟨_, rfl, by omega, by omega⟩
  · have hz := small_dvd (by omega) hd (by omega) (by omega)
    exact ⟨_, rfl, by omega, by omega⟩

theorem cancels {w : Wh} {l : List Wl} (h : openI w l true = 0) (h0 : w.wrong = 0) (hwide : w.ghigh - w.glow + w.slip + 2 * w.skew + 4 * w.read < w.full) {y z : Wl} (hy : y ∈ l) (hz : z ∈ l) (hne : y.sense * y.side ≠ z.sense * z.side) :
    (boundI w l).1 ≤ (boundI w l).2 ∧ (boundI w l).2 - (boundI w l).1 ≤ w.slip + 4 * w.read := by
  obtain ⟨⟨t, m1, e1⟩, ⟨u, m2, e2⟩, h3⟩ := bound_mem h
  obtain ⟨hw, hl, _⟩ := checkI_ok (openI_ok h).1
  have hb := h3 t m1
  have p1 := truth_mem.1 m1
  have p2 := truth_mem.1 m2
  have q1 := right_all (w := w) (l := l) (t := t) (by omega)
  have q2 := right_all (w := w) (l := l) (t := u) (by omega)
  obtain ⟨e, r1, r2, r3⟩ := two_right hw (hl y hy) hwide (allT_mem.1 p2.1) (allT_mem.1 p1.1) (q2 y hy) (q1 y hy)
  obtain ⟨e', r1', r2', r3'⟩ := two_right hw (hl z hz) hwide (allT_mem.1 p2.1) (allT_mem.1 p1.1) (q2 z hz) (q1 z hz)
  rw [← e1, ← e2]
  have hsgn : ∀ x : Wl, WlOk w x → x.sense * x.side = 1 ∨ x.sense * x.side = -1 := by
    intro x hx
    rcases hx.sense with a | a <;> rcases hx.side with b | b <;> rw [a, b] <;> simp
  rcases hsgn y (hl y hy) with a | a <;> rcases hsgn z (hl z hz) with b | b
  · exact absurd (a.trans b.symm) hne
  · rw [a] at r1; rw [b] at r1'
    exact ⟨by omega, by omega⟩
  · rw [a] at r1; rw [b] at r1'
    exact ⟨by omega, by omega⟩
  · exact absurd (a.trans b.symm) hne

end Go.Proofs.Ytmmoghgpaagnhaa

namespace Go.Proofs.Ytmmoghgpaagnhaa
open Go Go.Abs

set_option maxHeartbeats 4000000


def sgn0 : List Wl → Int
  | [] => 0
  | y :: _ => y.sense * y.side
def btB (l : List Wl) (i : Nat) : Bool := (l.take i).any fun y => decide (y.sense * y.side ≠ sgn0 l)

theorem sgn0_at {l : List Wl} (h : 0 < l.length) : sgn0 l = l[0].sense * l[0].side := by
  cases l with
  | nil => simp at h
  | cons y l => rfl
theorem btB_one (l : List Wl) : btB l 1 = false := by
  cases l with
  | nil => rfl
  | cons y l => simp [btB, sgn0]

theorem law5 (w : Wh) (nl fu : Bool) (l : List Wl) : Pure Try.prog 5 [encWh w, sWl nl fu l] (.bool true) := by
  obtain ⟨f, hF, hf⟩ := ready19 w nl fu l
  refine pure_of (fn := Try.f5) [.tmp 4] ⟨Try.func5, rfl, by kernel_rfl⟩ (by kernel_rfl) (by kernel_rfl) (by kernel_rfl) fun x hx hσ => ?_
  repeat refine awp_seq ?_
  refine awp_reg1 (by rw [hx]; kernel_rfl) fun K hK => ?_
  simp (config := { maxSteps := 1000000 }) [ty25]
  refine hK _ ?_
  clear hK K
  first | show AWP _ _ _ _ _ | show ∃ _, _ | skip
  cases f
  · repeat refine awp_seq ?_
    refine awp_reg1 (by rw [hx]; kernel_rfl) fun K hK => ?_
    simp (config := { maxSteps := 1000000 }) [ty25]
    refine callP (hF) (by first | (simp; done) | (simp [*]; done)) ?_
    simp (config := { maxSteps := 1000000 }) [ty4]
    refine hK _ ?_
    clear hK K
    first | show AWP _ _ _ _ _ | show ∃ _, _ | skip
    repeat refine awp_seq ?_
    refine awp_cond (by simp; rfl) (by rw [hx]; simp) (fun hd => ?_) (fun hd => ?_)
    · clear hd
      repeat refine awp_seq ?_
      refine awp_reg1 (by rw [hx]; kernel_rfl) fun K hK => ?_
      simp (config := { maxSteps := 1000000 }) []
      refine callP (works13) (by first | (simp; done) | (simp [*]; done)) ?_
      simp (config := { maxSteps := 1000000 }) []
      refine hK _ ?_
      clear hK K
      first | show AWP _ _ _ _ _ | show ∃ _, _ | skip
      repeat refine awp_seq ?_
      refine awp_ret ?_
      refine And.intro (Or.inr rfl) ?_
      simp [retC, resC, viewC, mapO]
    · simp at hd
  · obtain ⟨hz, hN⟩ := hf rfl
    obtain ⟨hw, hl, h8⟩ := checkI_ok hz
    have hfu := hw.full
    have hre := hw.read
    have hsl := hw.slip
    have hsk := hw.skew
    have hgu := hw.guess
    have hwr := hw.wrong
    by_cases h0 : 0 < w.wrong
    · repeat refine awp_seq ?_
      refine awp_reg1 (by rw [hx]; kernel_rfl) fun K hK => ?_
      simp (config := { maxSteps := 1000000 }) [ty25]
      refine callP (hF) (by first | (simp; done) | (simp [*]; done)) ?_
      simp (config := { maxSteps := 1000000 }) [ty4, ty25, ty3, h0]
      refine hK _ ?_
      clear hK K
      first | show AWP _ _ _ _ _ | show ∃ _, _ | skip
      repeat refine awp_seq ?_
      refine awp_cond (by simp [h0]; rfl) (by rw [hx]; simp) (fun hd => ?_) (fun hd => ?_)
      · clear hd
        repeat refine awp_seq ?_
        refine awp_reg1 (by rw [hx]; kernel_rfl) fun K hK => ?_
        simp (config := { maxSteps := 1000000 }) []
        refine callP (works13) (by first | (simp; done) | (simp [*]; done)) ?_
        simp (config := { maxSteps := 1000000 }) []
        refine hK _ ?_
        clear hK K
        first | show AWP _ _ _ _ _ | show ∃ _, _ | skip
        repeat refine awp_seq ?_
        refine awp_ret ?_
        refine And.intro (Or.inr rfl) ?_
        simp [retC, resC, viewC, mapO]
      · simp at hd
    · have e1 := wrap_id (z := w.ghigh - w.glow) (by omega) (by omega)
      have e2 := wrap_id (z := w.ghigh - w.glow + w.slip) (by omega) (by omega)
      have e3 := wrap_id (z := 2 * w.skew) (by omega) (by omega)
      have e4 := wrap_id (z := w.ghigh - w.glow + w.slip + 2 * w.skew) (by omega) (by omega)
      have e5 := wrap_id (z := 4 * w.read) (by omega) (by omega)
      have e6 := wrap_id (z := w.ghigh - w.glow + w.slip + 2 * w.skew + 4 * w.read) (by omega) (by omega)
      by_cases hwide : w.full ≤ w.ghigh - w.glow + w.slip + 2 * w.skew + 4 * w.read
      · repeat refine awp_seq ?_
        refine awp_reg1 (by rw [hx]; kernel_rfl) fun K hK => ?_
        simp (config := { maxSteps := 1000000 }) [ty25]
        refine callP (hF) (by first | (simp; done) | (simp [*]; done)) ?_
        simp (config := { maxSteps := 1000000 }) [ty4, ty25, ty23, ty3, h0, e1, e2, e3, e4, e5, e6, hwide]
        refine hK _ ?_
        clear hK K
        first | show AWP _ _ _ _ _ | show ∃ _, _ | skip
        repeat refine awp_seq ?_
        refine awp_cond (by simp [h0, hwide]; rfl) (by rw [hx]; simp) (fun hd => ?_) (fun hd => ?_)
        · clear hd
          repeat refine awp_seq ?_
          refine awp_reg1 (by rw [hx]; kernel_rfl) fun K hK => ?_
          simp (config := { maxSteps := 1000000 }) []
          refine callP (works13) (by first | (simp; done) | (simp [*]; done)) ?_
          simp (config := { maxSteps := 1000000 }) []
          refine hK _ ?_
          clear hK K
          first | show AWP _ _ _ _ _ | show ∃ _, _ | skip
          repeat refine awp_seq ?_
          refine awp_ret ?_
          refine And.intro (Or.inr rfl) ?_
          simp [retC, resC, viewC, mapO]
        · simp [hwide] at hd
      · repeat refine awp_seq ?_
        refine awp_reg1 (by rw [hx]; kernel_rfl) fun K hK => ?_
        simp (config := { maxSteps := 1000000 }) [ty25]
        refine callP (hF) (by first | (simp; done) | (simp [*]; done)) ?_
        simp (config := { maxSteps := 1000000 }) [ty4, ty25, ty23, ty3, h0, e1, e2, e3, e4, e5, e6, hwide]
        refine hK _ ?_
        clear hK K
        first | show AWP _ _ _ _ _ | show ∃ _, _ | skip
        repeat refine awp_seq ?_
        refine awp_cond (by simp [h0, hwide]; rfl) (by rw [hx]; simp) (fun hd => ?_) (fun hd => ?_)
        · simp [hwide] at hd
        · clear hd
          refine awp_skip ?_
          first | show AWP _ _ _ _ _ | show ∃ _, _ | skip
          repeat refine awp_seq ?_
          refine awp_reg1 (by rw [hx]; kernel_rfl) fun K hK => ?_
          simp (config := { maxSteps := 1000000 }) []
          refine hK _ ?_
          clear hK K
          first | show AWP _ _ _ _ _ | show ∃ _, _ | skip
          repeat refine awp_seq ?_
          refine awp_reg1 (by rw [hx]; kernel_rfl) fun K hK => ?_
          simp (config := { maxSteps := 1000000 }) []
          refine hK _ ?_
          clear hK K
          first | show AWP _ _ _ _ _ | show ∃ _, _ | skip
          repeat refine awp_seq ?_
          refine awp_block ?_
          have hsg : ∀ y ∈ l, IntKind.i64.wrap (y.sense * y.side) = y.sense * y.side := by
            intro y hy
            rcases (hl y hy).sense with a | a <;> rcases (hl y hy).side with b | b <;> rw [a, b] <;> decide
          refine awp_loop (fun i : Nat => ⟨ofL [(1, sWl nl fu l), (2, .ptr 2 8 0 0), (5, .bool (btB l i)), (6, encI i)], stoT [(2, 2, .live (obWh w))]⟩)
            (fun i => 1 ≤ i ∧ (i ≤ l.length ∨ i = 1)) (fun i => l.length + 1 - i) 1 ⟨Nat.le_refl _, .inr rfl⟩ ?_ ?_
          · simp only [btB_one]
            refine wk_shape (shp0 hσ (by simp) (by simp) ?_) ?_
            · simp [SlotOk] <;> (repeat' (first | exact .same (by simp [purel, C.isPure]) | exact .cons (by simp [mtl, mtc, mT, mH, C.isPure, purel]) (by simp) .nil | refine And.intro ?_ ?_))
            · simp [mtc, mtl, mT, C.isPure, purel] <;> (try simp (disch := omega) [wrap_id]) <;> (try omega)
          · rintro i ⟨hi1, hi2⟩
            repeat refine awp_seq ?_
            refine awp_reg1 (by rw [hx]; kernel_rfl) fun K hK => ?_
            simp (config := { maxSteps := 1000000 }) [ty26, ty3]
            refine hK _ ?_
            clear hK K
            first | show AWP _ _ _ _ _ | show ∃ _, _ | skip
            repeat refine awp_seq ?_
            refine awp_cond (by simp; rfl) (by rw [hx]; simp) (fun hc => ?_) (fun hc => ?_)
            · simp at hc
              have hpos : 0 < l.length := by omega
              have hs0 := sgn0_at hpos
              have g1 := hsg _ (List.getElem_mem hc)
              have g2 := hsg _ (List.getElem_mem hpos)
              have hwi := wrap_id (z := (i : Int) + 1) (by omega) (by omega)
              have hst : btB l (i + 1) = (btB l i || decide (l[i].sense * l[i].side ≠ l[0].sense * l[0].side)) := by
                unfold btB
                rw [any_step _ hc, hs0]
              refine awp_skip ?_
              first | show AWP _ _ _ _ _ | show ∃ _, _ | skip
              repeat refine awp_seq ?_
              refine awp_block ?_
              cases hb : btB l i
              · rw [hb, Bool.false_or] at hst
                by_cases hq : l[i].sense * l[i].side = l[0].sense * l[0].side
                · rw [decide_eq_false (by simp [hq])] at hst
                  repeat refine awp_seq ?_
                  refine awp_drw3 [] [0, 1, 2, 3, 4, 5, 6, 7, 8, 9, 10, 11, 12, 13, 14, 15, 16, 17, 18, 19, 20, 21, 22, 23, 24] (by rw [hx]; kernel_rfl) (by kernel_rfl) (by kernel_rfl) (by kernel_rfl) fun K hK => ?_
                  simp (config := { maxSteps := 1000000 }) [ty26, ty39, ty3, hc, hpos, g1, g2, hq]
                  refine hK _ ?_
                  clear hK K
                  first | show AWP _ _ _ _ _ | show ∃ _, _ | skip
                  repeat refine awp_seq ?_
                  refine awp_reg1 (by rw [hx]; kernel_rfl) fun K hK => ?_
                  simp (config := { maxSteps := 1000000 }) [ty3]
                  refine hK _ ?_
                  clear hK K
                  first | show AWP _ _ _ _ _ | show ∃ _, _ | skip
                  refine ⟨i + 1, ⟨by omega, .inl (by omega)⟩, by omega, ?_⟩
                  rw [hst]
                  refine wk_shape (shp0 hσ (by simp) (by simp) ?_) ?_
                  · simp [SlotOk] <;> (repeat' (first | exact .same (by simp [purel, C.isPure]) | exact .cons (by simp [mtl, mtc, mT, mH, C.isPure, purel]) (by simp) .nil | refine And.intro ?_ ?_))
                  · simp [mtc, mtl, mT, C.isPure, purel, hwi, g1, g2, hq] <;> (try simp (disch := omega) [wrap_id]) <;> (try omega)
                · rw [decide_eq_true (by simp [hq])] at hst
                  repeat refine awp_seq ?_
                  refine awp_drw3 [] [0, 1, 2, 3, 4, 5, 6, 7, 8, 9, 10, 11, 12, 13, 14, 15, 16, 17, 18, 19, 20, 21, 22, 23, 24] (by rw [hx]; kernel_rfl) (by kernel_rfl) (by kernel_rfl) (by kernel_rfl) fun K hK => ?_
                  simp (config := { maxSteps := 1000000 }) [ty26, ty39, ty3, hc, hpos, g1, g2, hq]
                  refine hK _ ?_
                  clear hK K
                  first | show AWP _ _ _ _ _ | show ∃ _, _ | skip
                  repeat refine awp_seq ?_
                  refine awp_reg1 (by rw [hx]; kernel_rfl) fun K hK => ?_
                  simp (config := { maxSteps := 1000000 }) [ty3]
                  refine hK _ ?_
                  clear hK K
                  first | show AWP _ _ _ _ _ | show ∃ _, _ | skip
                  refine ⟨i + 1, ⟨by omega, .inl (by omega)⟩, by omega, ?_⟩
                  rw [hst]
                  refine wk_shape (shp0 hσ (by simp) (by simp) ?_) ?_
                  · simp [SlotOk] <;> (repeat' (first | exact .same (by simp [purel, C.isPure]) | exact .cons (by simp [mtl, mtc, mT, mH, C.isPure, purel]) (by simp) .nil | refine And.intro ?_ ?_))
                  · simp [mtc, mtl, mT, C.isPure, purel, hwi, g1, g2, hq] <;> (try simp (disch := omega) [wrap_id]) <;> (try omega)
              · rw [hb, Bool.true_or] at hst
                repeat refine awp_seq ?_
                refine awp_drw3 [] [0, 1, 2, 3, 4, 5, 6, 7, 8, 9, 10, 11, 12, 13, 14, 15, 16, 17, 18, 19, 20, 21, 22, 23, 24] (by rw [hx]; kernel_rfl) (by kernel_rfl) (by kernel_rfl) (by kernel_rfl) fun K hK => ?_
                simp (config := { maxSteps := 1000000 }) [ty26, ty39, ty3, hc, hpos, g1, g2]
                refine hK _ ?_
                clear hK K
                first | show AWP _ _ _ _ _ | show ∃ _, _ | skip
                repeat refine awp_seq ?_
                refine awp_reg1 (by rw [hx]; kernel_rfl) fun K hK => ?_
                simp (config := { maxSteps := 1000000 }) [ty3]
                refine hK _ ?_
                clear hK K
                first | show AWP _ _ _ _ _ | show ∃ _, _ | skip
                refine ⟨i + 1, ⟨by omega, .inl (by omega)⟩, by omega, ?_⟩
                rw [hst]
                refine wk_shape (shp0 hσ (by simp) (by simp) ?_) ?_
                · simp [SlotOk] <;> (repeat' (first | exact .same (by simp [purel, C.isPure]) | exact .cons (by simp [mtl, mtc, mT, mH, C.isPure, purel]) (by simp) .nil | refine And.intro ?_ ?_))
                · simp [mtc, mtl, mT, C.isPure, purel, hwi] <;> (try simp (disch := omega) [wrap_id]) <;> (try omega)
            · simp at hc
              repeat refine awp_seq ?_
              refine awp_exit ?_
              first | show AWP _ _ _ _ _ | show ∃ _, _ | skip
              have hbt : btB l i = true → ∃ y ∈ l, ∃ z ∈ l, y.sense * y.side ≠ z.sense * z.side := by
                intro h
                unfold btB at h
                rw [List.any_eq_true] at h
                obtain ⟨y, hy, h2⟩ := h
                have hyl := List.mem_of_mem_take hy
                have hpos := List.length_pos_of_mem hyl
                rw [sgn0_at hpos, decide_eq_true_eq] at h2
                exact ⟨y, hyl, _, List.getElem_mem hpos, h2⟩
              generalize btB l i = B at *
              repeat refine awp_seq ?_
              refine awp_reg1 (by rw [hx]; kernel_rfl) fun K hK => ?_
              simp (config := { maxSteps := 1000000 }) [ty25, ty23]
              refine callP (bound21 w nl fu l (by omega)) (by first | (simp; done) | (simp [*]; done)) ?_
              simp (config := { maxSteps := 1000000 }) [ty25, ty23, ty31]
              refine hK _ ?_
              clear hK K
              first | show AWP _ _ _ _ _ | show ∃ _, _ | skip
              rcases open_03 hz with he | he
              · rw [he]
                repeat refine awp_seq ?_
                refine awp_reg1 (by rw [hx]; kernel_rfl) fun K hK => ?_
                simp (config := { maxSteps := 1000000 }) [ty31]
                refine callP (known23 0) (by first | (simp; done) | (simp [*]; done)) ?_
                simp (config := { maxSteps := 1000000 }) [ty4]
                refine hK _ ?_
                clear hK K
                first | show AWP _ _ _ _ _ | show ∃ _, _ | skip
                repeat refine awp_seq ?_
                refine awp_cond (by simp; rfl) (by rw [hx]; simp) (fun hd => ?_) (fun hd => ?_)
                · simp at hd
                · clear hd
                  refine awp_skip ?_
                  first | show AWP _ _ _ _ _ | show ∃ _, _ | skip
                  cases B
                  · repeat refine awp_seq ?_
                    refine awp_reg1 (by rw [hx]; kernel_rfl) fun K hK => ?_
                    simp (config := { maxSteps := 1000000 }) [ty4, ty31]
                    refine callP (works13) (by first | (simp; done) | (simp [*]; done)) ?_
                    simp (config := { maxSteps := 1000000 }) [ty4]
                    refine hK _ ?_
                    clear hK K
                    first | show AWP _ _ _ _ _ | show ∃ _, _ | skip
                    repeat refine awp_seq ?_
                    refine awp_ret ?_
                    refine And.intro (Or.inr rfl) ?_
                    simp [retC, resC, viewC, mapO]
                  · obtain ⟨y, hy, z, hz', hne⟩ := hbt rfl
                    obtain ⟨c1, c2⟩ := cancels he (by omega) (by omega) hy hz' hne
                    obtain ⟨⟨t1, m1, q1⟩, ⟨t2, m2, q2⟩, _⟩ := bound_mem he
                    have p1 := allT_mem.1 (truth_mem.1 m1).1
                    have p2 := allT_mem.1 (truth_mem.1 m2).1
                    have e7 := wrap_id (z := (boundI w l).2 - (boundI w l).1) (by omega) (by omega)
                    have e8 := wrap_id (z := w.slip + 4 * w.read) (by omega) (by omega)
                    repeat refine awp_seq ?_
                    refine awp_reg1 (by rw [hx]; kernel_rfl) fun K hK => ?_
                    simp (config := { maxSteps := 1000000 }) [ty4, ty31, ty23, ty25, ty3, e5, e7, e8, c1, c2]
                    refine callP (works13) (by first | (simp; done) | (simp [*]; done)) ?_
                    simp (config := { maxSteps := 1000000 }) [ty4]
                    refine hK _ ?_
                    clear hK K
                    first | show AWP _ _ _ _ _ | show ∃ _, _ | skip
                    repeat refine awp_seq ?_
                    refine awp_ret ?_
                    refine And.intro (Or.inr rfl) ?_
                    simp [retC, resC, viewC, mapO]
              · rw [he]
                repeat refine awp_seq ?_
                refine awp_reg1 (by rw [hx]; kernel_rfl) fun K hK => ?_
                simp (config := { maxSteps := 1000000 }) [ty31]
                refine callP (known23 3) (by first | (simp; done) | (simp [*]; done)) ?_
                simp (config := { maxSteps := 1000000 }) [ty4]
                refine hK _ ?_
                clear hK K
                first | show AWP _ _ _ _ _ | show ∃ _, _ | skip
                repeat refine awp_seq ?_
                refine awp_cond (by simp; rfl) (by rw [hx]; simp) (fun hd => ?_) (fun hd => ?_)
                · simp at hd
                · clear hd
                  refine awp_skip ?_
                  first | show AWP _ _ _ _ _ | show ∃ _, _ | skip
                  cases B
                  · repeat refine awp_seq ?_
                    refine awp_reg1 (by rw [hx]; kernel_rfl) fun K hK => ?_
                    simp (config := { maxSteps := 1000000 }) [ty4, ty31]
                    refine callP (works13) (by first | (simp; done) | (simp [*]; done)) ?_
                    simp (config := { maxSteps := 1000000 }) [ty4]
                    refine hK _ ?_
                    clear hK K
                    first | show AWP _ _ _ _ _ | show ∃ _, _ | skip
                    repeat refine awp_seq ?_
                    refine awp_ret ?_
                    refine And.intro (Or.inr rfl) ?_
                    simp [retC, resC, viewC, mapO]
                  · repeat refine awp_seq ?_
                    refine awp_reg1 (by rw [hx]; kernel_rfl) fun K hK => ?_
                    simp (config := { maxSteps := 1000000 }) [ty4, ty31]
                    refine callP (works13) (by first | (simp; done) | (simp [*]; done)) ?_
                    simp (config := { maxSteps := 1000000 }) [ty4]
                    refine hK _ ?_
                    clear hK K
                    first | show AWP _ _ _ _ _ | show ∃ _, _ | skip
                    repeat refine awp_seq ?_
                    refine awp_ret ?_
                    refine And.intro (Or.inr rfl) ?_
                    simp [retC, resC, viewC, mapO]

end Go.Proofs.Ytmmoghgpaagnhaa

namespace Go.Proofs.Ytmmoghgpaagnhaa
open Go Go.Abs

set_option maxHeartbeats 2000000

-- the next walk

theorem maxTo_ge {f : Nat → Nat} : ∀ {n e : Nat}, e < n → f e ≤ maxTo f n
  | n + 1, e, h => by
    simp only [maxTo]
    by_cases he : e = n
    · subst he; omega
    · have := maxTo_ge (f := f) (show e < n by omega)
      omega

/-- Truths in which a walk of a kind is right that ends at e. -/
def leftL (w : Wh) (l : List Wl) (a b : Int) (e : Nat) : List Tr := (truthsL w l).filter (rtB w a b e)

theorem kvE_len (w : Wh) (l : List Wl) (a b : Int) (e : Nat) : (kvE w l a b e (truthsL w l).length).length = (kindsL Tr.area (leftL w l a b e)).length := by
  unfold kvE leftL
  rw [List.take_length, kindsL_len]

theorem worst_le {w : Wh} {l : List Wl} {a b : Int} {m : Nat} (h : ∀ e, e < w.full.toNat → (kindsL Tr.area (leftL w l a b e)).length ≤ m) : worstN w l a b ≤ m := by
  unfold worstN
  have : ∀ n, n ≤ w.full.toNat → maxTo (fun e => (kvE w l a b e (truthsL w l).length).length) n ≤ m := by
    intro n
    induction n with
    | zero => intro _; exact Nat.zero_le _
    | succ n ih =>
      intro hn
      have h1 := ih (by omega)
      have h2 := h n (by omega)
      simp only [maxTo, kvE_len]
      simp only [kvE_len] at h1
      omega
  exact this _ (Nat.le_refl _)

theorem worst_ge {w : Wh} {l : List Wl} {a b : Int} {e : Nat} (he : e < w.full.toNat) : (kindsL Tr.area (leftL w l a b e)).length ≤ worstN w l a b := by
  rw [← kvE_len]
  exact maxTo_ge (f := fun e => (kvE w l a b e (truthsL w l).length).length) he

theorem kinds_sub {f : Tr → Int} {L K : List Tr} (h : ∀ t ∈ L, t ∈ K) : (kindsL f L).length ≤ (kindsL f K).length :=
  nodup_len _ _ (kindsL_nodup f L) fun b hb => by
    obtain ⟨t, ht, e⟩ := (kindsL_mem f L b).1 hb
    exact (kindsL_mem f K b).2 ⟨t, h t ht, e⟩

theorem worst_areas {w : Wh} {l : List Wl} (h : openI w l true = 0) (a b : Int) : worstN w l a b ≤ (numsI Tr.area w l).length := by
  rw [(numsI_ok h).1]
  exact worst_le fun e _ => kinds_sub fun t ht => (List.mem_filter.1 ht).1

/-- A walk with the pole outside, from 0. -/
theorem right_from0 {w : Wh} (hw : WhOk w) {y : Wl} (hy : WlOk w y) (h0 : y.inside = 0) (t : Tr) : rightB w y t = rtB w y.sense y.side ((y.fin - y.start) % w.full).toNat t := by
  have hf := hw.full
  have h1 := Int.emod_nonneg (y.fin - y.start) (show w.full ≠ 0 by omega)
  have h2 := Int.emod_lt_of_pos (y.fin - y.start) (show 0 < w.full by omega)
  have hy' : WlOk w ⟨y.sense, y.side, 0, 0, (((y.fin - y.start) % w.full).toNat : Nat)⟩ := ⟨hy.sense, hy.side, by simp, by simp; omega, by simp; omega⟩
  have hq := Int.emod_add_mul_ediv (y.fin - y.start) w.full
  unfold rtB
  rw [Bool.eq_iff_iff, right_iff hw hy, right_iff hw hy', h0]
  have he : (((((y.fin - y.start) % w.full).toNat : Nat)) : Int) = (y.fin - y.start) % w.full := by omega
  simp only [he, Int.zero_mul, Int.sub_zero]
  constructor
  · rintro ⟨s, o, a1, a2, a3⟩
    refine ⟨s, o, a1, a2, ?_⟩
    have : (y.fin - y.start) % w.full - (y.sense * (t.area - s) + y.side * t.skew + o) = (y.fin - y.start - (y.sense * (t.area - s) + y.side * t.skew + o)) - w.full * ((y.fin - y.start) / w.full) := by omega
    rw [this]
    exact Int.dvd_sub a3 (Int.dvd_mul_right _ _)
  · rintro ⟨s, o, a1, a2, a3⟩
    refine ⟨s, o, a1, a2, ?_⟩
    have : y.fin - y.start - (y.sense * (t.area - s) + y.side * t.skew + o) = ((y.fin - y.start) % w.full - (y.sense * (t.area - s) + y.side * t.skew + o)) + w.full * ((y.fin - y.start) / w.full) := by omega
    rw [this]
    exact Int.dvd_add a3 (Int.dvd_mul_right _ _)

theorem worst_pos {w : Wh} {l : List Wl} (h : openI w l true = 0) {a b : Int} (ha : a = 1 ∨ a = -1) (hb : b = 1 ∨ b = -1) : 1 ≤ worstN w l a b := by
  obtain ⟨hc0, _, hT⟩ := openI_ok h
  obtain ⟨hw, hl, _⟩ := checkI_ok hc0
  obtain ⟨t, ht⟩ := List.exists_mem_of_ne_nil _ hT
  have hf := hw.full
  have hs := hw.slip
  have hr := hw.read
  have h1 := Int.emod_nonneg (a * t.area + b * t.skew) (show w.full ≠ 0 by omega)
  have h2 := Int.emod_lt_of_pos (a * t.area + b * t.skew) (show 0 < w.full by omega)
  have hq := Int.emod_add_mul_ediv (a * t.area + b * t.skew) w.full
  refine Nat.le_trans ?_ (worst_ge (w := w) (l := l) (a := a) (b := b) (e := ((a * t.area + b * t.skew) % w.full).toNat) (by omega))
  have hm : t ∈ leftL w l a b ((a * t.area + b * t.skew) % w.full).toNat := by
    refine List.mem_filter.2 ⟨ht, ?_⟩
    have hy' : WlOk w ⟨a, b, 0, 0, (((a * t.area + b * t.skew) % w.full).toNat : Nat)⟩ := ⟨ha, hb, by simp, by simp; omega, by simp; omega⟩
    have he : (((((a * t.area + b * t.skew) % w.full).toNat : Nat)) : Int) = (a * t.area + b * t.skew) % w.full := by omega
    refine (right_iff hw hy').2 ⟨0, 0, by omega, by omega, ?_⟩
    simp only [he, Int.zero_mul, Int.sub_zero, Int.add_zero]
    exact ⟨-((a * t.area + b * t.skew) / w.full), by rw [Int.mul_neg]; omega⟩
  have := List.length_pos_of_mem ((kindsL_mem Tr.area _ _).2 ⟨t, hm, rfl⟩)
  omega

theorem minTo_le (v : Int × Int → Int) (ks : List (Int × Int)) : ∀ (n i : Nat), i < n → v (minTo v ks n) ≤ v (ks.getD i (0, 0))
  | n + 1, i, h => by
    simp only [minTo]
    by_cases e : i = n
    · subst e
      split
      · exact Int.le_refl _
      · omega
    · have ih := minTo_le v ks n i (by omega)
      split <;> omega

theorem next_le {w : Wh} {l : List Wl} (h : openI w l true = 0) {a b : Int} (ha : a = 1 ∨ a = -1) (hb : b = 1 ∨ b = -1) : worstN w l (nextI w l).1 (nextI w l).2 ≤ worstN w l a b := by
  have hk : nextI w l = minTo (worstV w l) K4 4 := if_pos h
  have h1 : ∀ i, i < 4 → worstV w l (minTo (worstV w l) K4 4) ≤ worstV w l (K4.getD i (0, 0)) := fun i hi => minTo_le _ _ 4 i hi
  rw [hk]
  have key : worstV w l (minTo (worstV w l) K4 4) ≤ worstV w l (a, b) := by
    rcases ha with rfl | rfl <;> rcases hb with rfl | rfl
    · exact h1 0 (by decide)
    · exact h1 1 (by decide)
    · exact h1 2 (by decide)
    · exact h1 3 (by decide)
  have key2 : (worstN w l (minTo (worstV w l) K4 4).1 (minTo (worstV w l) K4 4).2 : Int) ≤ worstN w l a b := key
  omega

theorem next_ones {w : Wh} {l : List Wl} (h : openI w l true = 0) : ((nextI w l).1 = 1 ∨ (nextI w l).1 = -1) ∧ ((nextI w l).2 = 1 ∨ (nextI w l).2 = -1) := by
  have hk : nextI w l = minTo (worstV w l) K4 4 := if_pos h
  rw [hk]
  have := minTo_mem (worstV w l) (show K4 ≠ [] by decide) 4 (by decide)
  generalize minTo (worstV w l) K4 4 = p at *
  simp only [K4, List.mem_cons, List.not_mem_nil, or_false] at this
  rcases this with rfl | rfl | rfl | rfl <;> decide

/-- One more walk with the pole outside. -/
theorem step_len {w : Wh} {l : List Wl} {y : Wl} (hz : checkI w l = 0) (hy : WlOk w y) (h0 : y.inside = 0) (hw0 : w.wrong = 0) : (numsI Tr.area w (l ++ [y])).length ≤ worstN w l y.sense y.side := by
  obtain ⟨hw, hl, h8⟩ := checkI_ok hz
  have hf := hw.full
  by_cases h : openI w (l ++ [y]) true = 0
  · rw [(numsI_ok h).1]
    have h1 := Int.emod_nonneg (y.fin - y.start) (show w.full ≠ 0 by omega)
    have h2 := Int.emod_lt_of_pos (y.fin - y.start) (show 0 < w.full by omega)
    refine Nat.le_trans (kinds_sub fun t ht => ?_) (worst_ge (e := ((y.fin - y.start) % w.full).toNat) (by omega))
    refine List.mem_filter.2 ⟨truths_app ht, ?_⟩
    rw [← right_from0 hw hy h0]
    have := (truth_mem.1 ht).2
    rw [wrongs_app] at this
    cases hb : rightB w y t
    · rw [hb] at this
      simp at this
      omega
    · rfl
  · rw [numsI_zero h]; exact Nat.zero_le _

theorem step_sub {w : Wh} {l : List Wl} {y : Wl} (hz : checkI w l = 0) : ∀ a ∈ numsI Tr.area w (l ++ [y]), a ∈ numsI Tr.area w l := by
  intro a ha
  by_cases h : openI w (l ++ [y]) true = 0
  · obtain ⟨t, ht, rfl⟩ := (nums_mem h a).1 ha
    exact (nums_mem (open_app hz h) _).2 ⟨t, truths_app ht, rfl⟩
  · rw [numsI_zero h] at ha; simp at ha

end Go.Proofs.Ytmmoghgpaagnhaa

namespace Go.Proofs.Ytmmoghgpaagnhaa
open Go Go.Abs

set_option maxHeartbeats 4000000

theorem ones_mk {a : Int} (h : a = 1 ∨ a = -1) : oneB a = true := (oneB_iff a).2 h

theorem law6 (w : Wh) (nl fu : Bool) (l : List Wl) (y : Wl) : Pure Try.prog 6 [encWh w, sWl nl fu l, encWl y] (.bool true) := by
  obtain ⟨f, hF, hf⟩ := ready19 w nl fu l
  refine pure_of (fn := Try.f6) [.tmp 6] ⟨Try.func6, rfl, by kernel_rfl⟩ (by kernel_rfl) (by kernel_rfl) (by kernel_rfl) fun x hx hσ => ?_
  repeat refine awp_seq ?_
  refine awp_reg1 (by rw [hx]; kernel_rfl) fun K hK => ?_
  simp (config := { maxSteps := 1000000 }) [ty25, ty39]
  refine hK _ ?_
  clear hK K
  first | show AWP _ _ _ _ _ | show ∃ _, _ | skip
  cases f
  · repeat refine awp_seq ?_
    refine awp_reg1 (by rw [hx]; kernel_rfl) fun K hK => ?_
    simp (config := { maxSteps := 1000000 }) [ty25]
    refine callP (hF) (by first | (simp; done) | (simp [*]; done)) ?_
    simp (config := { maxSteps := 1000000 }) [ty4]
    refine hK _ ?_
    clear hK K
    first | show AWP _ _ _ _ _ | show ∃ _, _ | skip
    repeat refine awp_seq ?_
    refine awp_cond (by simp; rfl) (by rw [hx]; simp) (fun hd => ?_) (fun hd => ?_)
    · clear hd
      repeat refine awp_seq ?_
      refine awp_reg1 (by rw [hx]; kernel_rfl) fun K hK => ?_
      simp (config := { maxSteps := 1000000 }) []
      refine callP (works13) (by first | (simp; done) | (simp [*]; done)) ?_
      simp (config := { maxSteps := 1000000 }) []
      refine hK _ ?_
      clear hK K
      first | show AWP _ _ _ _ _ | show ∃ _, _ | skip
      repeat refine awp_seq ?_
      refine awp_ret ?_
      refine And.intro (Or.inr rfl) ?_
      simp [retC, resC, viewC, mapO]
    · simp at hd
  · obtain ⟨hz, hN⟩ := hf rfl
    obtain ⟨hw, hl, h8⟩ := checkI_ok hz
    have hfu := hw.full
    have h4 := hN.len
    by_cases h3 : (3 : Int) < l.length
    · repeat refine awp_seq ?_
      refine awp_reg1 (by rw [hx]; kernel_rfl) fun K hK => ?_
      simp (config := { maxSteps := 1000000 }) [ty25]
      refine callP (hF) (by first | (simp; done) | (simp [*]; done)) ?_
      simp (config := { maxSteps := 1000000 }) [ty4, ty26, ty3, h3]
      refine hK _ ?_
      clear hK K
      first | show AWP _ _ _ _ _ | show ∃ _, _ | skip
      repeat refine awp_seq ?_
      refine awp_cond (by simp [h3]; rfl) (by rw [hx]; simp) (fun hd => ?_) (fun hd => ?_)
      · clear hd
        repeat refine awp_seq ?_
        refine awp_reg1 (by rw [hx]; kernel_rfl) fun K hK => ?_
        simp (config := { maxSteps := 1000000 }) []
        refine callP (works13) (by first | (simp; done) | (simp [*]; done)) ?_
        simp (config := { maxSteps := 1000000 }) []
        refine hK _ ?_
        clear hK K
        first | show AWP _ _ _ _ _ | show ∃ _, _ | skip
        repeat refine awp_seq ?_
        refine awp_ret ?_
        refine And.intro (Or.inr rfl) ?_
        simp [retC, resC, viewC, mapO]
      · simp [h3] at hd
    · have hwk := isWalk25 w y (by omega)
      cases hyB : walkB w y
      · rw [hyB] at hwk
        repeat refine awp_seq ?_
        refine awp_reg1 (by rw [hx]; kernel_rfl) fun K hK => ?_
        simp (config := { maxSteps := 1000000 }) [ty25]
        refine callP (hF) (by first | (simp; done) | (simp [*]; done)) ?_
        simp (config := { maxSteps := 1000000 }) [ty4, ty26, ty3, h3, ty25, ty39]
        refine callP (hwk) (by first | (simp; done) | (simp [*]; done)) ?_
        simp (config := { maxSteps := 1000000 }) [ty4]
        refine hK _ ?_
        clear hK K
        first | show AWP _ _ _ _ _ | show ∃ _, _ | skip
        repeat refine awp_seq ?_
        refine awp_cond (by simp [h3]; rfl) (by rw [hx]; simp) (fun hd => ?_) (fun hd => ?_)
        · clear hd
          repeat refine awp_seq ?_
          refine awp_reg1 (by rw [hx]; kernel_rfl) fun K hK => ?_
          simp (config := { maxSteps := 1000000 }) []
          refine callP (works13) (by first | (simp; done) | (simp [*]; done)) ?_
          simp (config := { maxSteps := 1000000 }) []
          refine hK _ ?_
          clear hK K
          first | show AWP _ _ _ _ _ | show ∃ _, _ | skip
          repeat refine awp_seq ?_
          refine awp_ret ?_
          refine And.intro (Or.inr rfl) ?_
          simp [retC, resC, viewC, mapO]
        · simp [h3] at hd
      · rw [hyB] at hwk
        have hy := walkB_iff.1 hyB
        repeat refine awp_seq ?_
        refine awp_reg1 (by rw [hx]; kernel_rfl) fun K hK => ?_
        simp (config := { maxSteps := 1000000 }) [ty25]
        refine callP (hF) (by first | (simp; done) | (simp [*]; done)) ?_
        simp (config := { maxSteps := 1000000 }) [ty4, ty26, ty3, h3, ty25, ty39]
        refine callP (hwk) (by first | (simp; done) | (simp [*]; done)) ?_
        simp (config := { maxSteps := 1000000 }) [ty4]
        refine hK _ ?_
        clear hK K
        first | show AWP _ _ _ _ _ | show ∃ _, _ | skip
        repeat refine awp_seq ?_
        refine awp_cond (by simp [h3]; rfl) (by rw [hx]; simp) (fun hd => ?_) (fun hd => ?_)
        · simp [h3] at hd
        · clear hd
          refine awp_skip ?_
          first | show AWP _ _ _ _ _ | show ∃ _, _ | skip
          have hab := areas_bd (l := l) hN.wide
          have hab1 : ¬ (100 : Int) < (numsI Tr.area w l).length := by omega
          have ho : (oneB y.sense && oneB y.side) = true := by rw [ones_mk hy.sense, ones_mk hy.side]; rfl
          have hW := worst14 w nl fu l y.sense y.side (by omega)
          rw [ho] at hW
          have hWI : worstI w l y.sense y.side = if openI w l true = 0 then worstN w l y.sense y.side else 0 := by unfold worstI; rw [ho]
          repeat refine awp_seq ?_
          refine awp_reg1 (by rw [hx]; kernel_rfl) fun K hK => ?_
          simp (config := { maxSteps := 1000000 }) [ty25]
          refine callP (areas22 w nl fu l (by omega)) (by first | (simp; done) | (simp [*]; done)) ?_
          simp (config := { maxSteps := 1000000 }) [ty45, ty31]
          refine hK _ ?_
          clear hK K
          first | show AWP _ _ _ _ _ | show ∃ _, _ | skip
          repeat refine awp_seq ?_
          refine awp_reg1 (by rw [hx]; kernel_rfl) fun K hK => ?_
          simp (config := { maxSteps := 1000000 }) [ty25]
          refine callP (next16 w nl fu l (by omega)) (by first | (simp; done) | (simp [*]; done)) ?_
          simp (config := { maxSteps := 1000000 }) [ty3, ty31]
          refine hK _ ?_
          clear hK K
          first | show AWP _ _ _ _ _ | show ∃ _, _ | skip
          repeat refine awp_seq ?_
          refine awp_reg1 (by rw [hx]; kernel_rfl) fun K hK => ?_
          simp (config := { maxSteps := 1000000 }) [ty25, ty39, ty3]
          refine callP (hW) (by first | (simp; done) | (simp [*]; done)) ?_
          simp (config := { maxSteps := 1000000 }) [ty3, ty31]
          refine hK _ ?_
          clear hK K
          first | show AWP _ _ _ _ _ | show ∃ _, _ | skip
          rcases open_03 hz with he | he
          · rw [if_pos he] at hWI
            rw [hWI]
            rw [he]
            repeat refine awp_seq ?_
            refine awp_reg1 (by rw [hx]; kernel_rfl) fun K hK => ?_
            simp (config := { maxSteps := 1000000 }) [ty31]
            refine callP (known23 0) (by first | (simp; done) | (simp [*]; done)) ?_
            simp (config := { maxSteps := 1000000 }) [ty4, ty31, ty45, ty3, hab1]
            refine hK _ ?_
            clear hK K
            first | show AWP _ _ _ _ _ | show ∃ _, _ | skip
            repeat refine awp_seq ?_
            refine awp_cond (by simp; rfl) (by rw [hx]; simp) (fun hd => ?_) (fun hd => ?_)
            · simp at hd
            · clear hd
              refine awp_skip ?_
              first | show AWP _ _ _ _ _ | show ∃ _, _ | skip
              repeat refine awp_seq ?_
              refine awp_reg1 (by rw [hx]; kernel_rfl) fun K hK => ?_
              simp (config := { maxSteps := 1000000 }) [ty31]
              refine hK _ ?_
              clear hK K
              first | show AWP _ _ _ _ _ | show ∃ _, _ | skip
              repeat refine awp_seq ?_
              refine awp_cond (by simp; rfl) (by rw [hx]; simp) (fun hd => ?_) (fun hd => ?_)
              · simp at hd
              · clear hd
                refine awp_skip ?_
                first | show AWP _ _ _ _ _ | show ∃ _, _ | skip
                obtain ⟨n1, n2⟩ := next_ones he
                have ho2 : (oneB (nextI w l).1 && oneB (nextI w l).2) = true := by rw [ones_mk n1, ones_mk n2]; rfl
                have hW2 := worst14 w nl fu l (nextI w l).1 (nextI w l).2 (by omega)
                rw [ho2, he] at hW2
                have hWI2 : worstI w l (nextI w l).1 (nextI w l).2 = worstN w l (nextI w l).1 (nextI w l).2 := by unfold worstI; rw [ho2, if_pos he]
                rw [hWI2] at hW2
                repeat refine awp_seq ?_
                refine awp_reg1 (by rw [hx]; kernel_rfl) fun K hK => ?_
                simp (config := { maxSteps := 1000000 }) [ty25]
                refine callP (hW2) (by first | (simp; done) | (simp [*]; done)) ?_
                simp (config := { maxSteps := 1000000 }) [ty3, ty31]
                refine hK _ ?_
                clear hK K
                first | show AWP _ _ _ _ _ | show ∃ _, _ | skip
                have g1 := worst_pos he hy.sense hy.side
                have g2 := worst_areas he y.sense y.side
                have g3 := next_le he hy.sense hy.side
                have k1 : ¬ (worstN w l y.sense y.side : Int) < 1 := by omega
                have k2 : ¬ ((numsI Tr.area w l).length : Int) < worstN w l y.sense y.side := by omega
                have k3 : ¬ (worstN w l y.sense y.side : Int) < worstN w l (nextI w l).1 (nextI w l).2 := by omega
                have k1' : ¬ worstN w l y.sense y.side = 0 := by omega
                have k2' : ¬ (numsI Tr.area w l).length < worstN w l y.sense y.side := by omega
                have k3' : ¬ worstN w l y.sense y.side < worstN w l (nextI w l).1 (nextI w l).2 := by omega
                repeat refine awp_seq ?_
                refine awp_reg1 (by rw [hx]; kernel_rfl) fun K hK => ?_
                simp (config := { maxSteps := 1000000 }) [ty31, ty3, ty45, k1, k2, k3, k1', k2', k3']
                refine hK _ ?_
                clear hK K
                first | show AWP _ _ _ _ _ | show ∃ _, _ | skip
                repeat refine awp_seq ?_
                refine awp_cond (by simp [k1, k2, k3, k1', k2', k3']; rfl) (by rw [hx]; simp) (fun hd => ?_) (fun hd => ?_)
                · simp [k1, k2, k3, k1', k2', k3'] at hd
                · clear hd
                  refine awp_skip ?_
                  first | show AWP _ _ _ _ _ | show ∃ _, _ | skip
                  by_cases hi : 0 < y.inside
                  · repeat refine awp_seq ?_
                    refine awp_reg1 (by rw [hx]; kernel_rfl) fun K hK => ?_
                    simp (config := { maxSteps := 1000000 }) [ty39, ty25, ty3, hi]
                    refine hK _ ?_
                    clear hK K
                    first | show AWP _ _ _ _ _ | show ∃ _, _ | skip
                    repeat refine awp_seq ?_
                    refine awp_cond (by simp [hi]; rfl) (by rw [hx]; simp) (fun hd => ?_) (fun hd => ?_)
                    · clear hd
                      repeat refine awp_seq ?_
                      refine awp_reg1 (by rw [hx]; kernel_rfl) fun K hK => ?_
                      simp (config := { maxSteps := 1000000 }) []
                      refine callP (works13) (by first | (simp; done) | (simp [*]; done)) ?_
                      simp (config := { maxSteps := 1000000 }) []
                      refine hK _ ?_
                      clear hK K
                      first | show AWP _ _ _ _ _ | show ∃ _, _ | skip
                      repeat refine awp_seq ?_
                      refine awp_ret ?_
                      refine And.intro (Or.inr rfl) ?_
                      simp [retC, resC, viewC, mapO]
                    · simp [hi] at hd
                  · by_cases hww : 0 < w.wrong
                    · repeat refine awp_seq ?_
                      refine awp_reg1 (by rw [hx]; kernel_rfl) fun K hK => ?_
                      simp (config := { maxSteps := 1000000 }) [ty39, ty25, ty3, hi, hww]
                      refine hK _ ?_
                      clear hK K
                      first | show AWP _ _ _ _ _ | show ∃ _, _ | skip
                      repeat refine awp_seq ?_
                      refine awp_cond (by simp [hi, hww]; rfl) (by rw [hx]; simp) (fun hd => ?_) (fun hd => ?_)
                      · clear hd
                        repeat refine awp_seq ?_
                        refine awp_reg1 (by rw [hx]; kernel_rfl) fun K hK => ?_
                        simp (config := { maxSteps := 1000000 }) []
                        refine callP (works13) (by first | (simp; done) | (simp [*]; done)) ?_
                        simp (config := { maxSteps := 1000000 }) []
                        refine hK _ ?_
                        clear hK K
                        first | show AWP _ _ _ _ _ | show ∃ _, _ | skip
                        repeat refine awp_seq ?_
                        refine awp_ret ?_
                        refine And.intro (Or.inr rfl) ?_
                        simp [retC, resC, viewC, mapO]
                      · simp [hi, hww] at hd
                    · repeat refine awp_seq ?_
                      refine awp_reg1 (by rw [hx]; kernel_rfl) fun K hK => ?_
                      simp (config := { maxSteps := 1000000 }) [ty39, ty25, ty3, hi, hww]
                      refine hK _ ?_
                      clear hK K
                      first | show AWP _ _ _ _ _ | show ∃ _, _ | skip
                      repeat refine awp_seq ?_
                      refine awp_cond (by simp [hi, hww]; rfl) (by rw [hx]; simp) (fun hd => ?_) (fun hd => ?_)
                      · simp [hi, hww] at hd
                      · clear hd
                        refine awp_skip ?_
                        first | show AWP _ _ _ _ _ | show ∃ _, _ | skip
                        have hi0 : y.inside = 0 := by have := hy.inside; omega
                        have hw0 : w.wrong = 0 := by have := hw.wrong; omega
                        obtain ⟨mo, hmo⟩ : ∃ mo, mo = l ++ [y] := ⟨_, rfl⟩
                        have hmol : mo.length = l.length + 1 := by rw [hmo]; simp
                        have hz2 : checkI w mo = 0 := checkI_mk hw (fun z hz => by
                          rw [hmo] at hz
                          rcases List.mem_append.1 hz with h | h
                          · exact hl z h
                          · simp at h; exact h ▸ hy) (by omega)
                        have hlen := step_len hz hy hi0 hw0
                        have hsub := step_sub (y := y) hz
                        rw [← hmo] at hlen hsub
                        have hlen2 := nums_len (f := Tr.area) hsub
                        have hA := areas22 w false false mo (by omega)
                        have hS := subset24 (numsI Tr.area w mo).isEmpty (numsI Tr.area w mo).isEmpty (numsI Tr.area w l).isEmpty (numsI Tr.area w l).isEmpty _ _ (by omega) (by omega) hsub hlen2
                        have hKn := known23 (openI w mo true)
                        have hK2 : (openI w mo true == 0 || openI w mo true == 3) = true := by
                          rcases open_03 hz2 with h | h <;> rw [h] <;> rfl
                        rw [hK2] at hKn
                        have k4 : ((numsI Tr.area w mo).length : Int) ≤ worstN w l y.sense y.side := by omega
                        refine AWP.weak ?_ (wk_shape (E := [(1, sWl nl fu l), (3, .ptr 3 8 0 0), (5, .ptr 5 5 0 0), (7, slI (numsI Tr.area w l)), (12, encI (worstN w l y.sense y.side))]) (T := [(3, 3, .live (obWh w)), (5, 5, .live (obWl y))]) (shp0 hσ (by simp) (by simp) ?_) ?_)
                        · repeat refine awp_seq ?_
                          refine awp_drw3 [3, 1000, 5006, 10116, 4007] [0, 1, 2, 4, 3, 5, 6, 7, 8, 9, 10, 11, 12] (by rw [hx]; kernel_rfl) (by kernel_rfl) (by kernel_rfl) (by kernel_rfl) fun K hK => ?_
                          simp (config := { maxSteps := 1000000 }) [ty25, ty26, ty39]
                          refine ⟨⟨by omega, by omega⟩, ⟨by omega, by omega⟩, ?_⟩
                          refine doesD (does_frz 119 (args' := [encWh w, sWl false false mo]) (by simp; rfl) ?_ (.cons (.inl rfl) (.cons ?_ .nil)) ?_ hA ?_) ?_
                          · simp [purel, C.isPure]
                          · have := fz_own (k := 119) (sz := 5) (n := l.length + 1) (b := false) (o := ⟨false, true, 5, mo.map cWl⟩) rfl (by simp [hmol]) (by simp)
                            simpa [hmo] using this
                          · simp [purel, C.isPure]
                          · simp [C.isPure, purel]
                          simp [ty45, ty31]
                          refine hK _ ?_
                          clear hK K
                          first | show AWP _ _ _ _ _ | show ∃ _, _ | skip
                          repeat refine awp_seq ?_
                          refine awp_reg1 (by rw [hx]; kernel_rfl) fun K hK => ?_
                          simp (config := { maxSteps := 1000000 }) [ty31]
                          refine callP (hKn) (by first | (simp; done) | (simp [*]; done)) ?_
                          simp (config := { maxSteps := 1000000 }) [ty4, ty31, ty45, ty3, k4, hlen]
                          refine callP (hS) (by first | (simp; done) | (simp [*]; done)) ?_
                          simp (config := { maxSteps := 1000000 }) [ty4]
                          refine callP (works13) (by first | (simp; done) | (simp [*]; done)) ?_
                          simp (config := { maxSteps := 1000000 }) [ty4]
                          refine hK _ ?_
                          clear hK K
                          first | show AWP _ _ _ _ _ | show ∃ _, _ | skip
                          repeat refine awp_seq ?_
                          refine awp_ret ?_
                          refine And.intro (Or.inr rfl) ?_
                          simp [retC, resC, viewC, mapO]
                        · simp [SlotOk]
                          exact ⟨.same (by simp [purel, C.isPure]), .same (by simp [purel, C.isPure])⟩
                        · simp [mtc, mtl, mT, C.isPure, purel]
          · rw [if_neg (by omega)] at hWI
            rw [hWI]
            rw [he]
            repeat refine awp_seq ?_
            refine awp_reg1 (by rw [hx]; kernel_rfl) fun K hK => ?_
            simp (config := { maxSteps := 1000000 }) [ty31]
            refine callP (known23 3) (by first | (simp; done) | (simp [*]; done)) ?_
            simp (config := { maxSteps := 1000000 }) [ty4, ty31, ty45, ty3, hab1]
            refine hK _ ?_
            clear hK K
            first | show AWP _ _ _ _ _ | show ∃ _, _ | skip
            repeat refine awp_seq ?_
            refine awp_cond (by simp; rfl) (by rw [hx]; simp) (fun hd => ?_) (fun hd => ?_)
            · simp at hd
            · clear hd
              refine awp_skip ?_
              first | show AWP _ _ _ _ _ | show ∃ _, _ | skip
              repeat refine awp_seq ?_
              refine awp_reg1 (by rw [hx]; kernel_rfl) fun K hK => ?_
              simp (config := { maxSteps := 1000000 }) [ty31]
              refine hK _ ?_
              clear hK K
              first | show AWP _ _ _ _ _ | show ∃ _, _ | skip
              repeat refine awp_seq ?_
              refine awp_cond (by simp; rfl) (by rw [hx]; simp) (fun hd => ?_) (fun hd => ?_)
              · clear hd
                repeat refine awp_seq ?_
                refine awp_reg1 (by rw [hx]; kernel_rfl) fun K hK => ?_
                simp (config := { maxSteps := 1000000 }) []
                refine callP (works13) (by first | (simp; done) | (simp [*]; done)) ?_
                simp (config := { maxSteps := 1000000 }) []
                refine hK _ ?_
                clear hK K
                first | show AWP _ _ _ _ _ | show ∃ _, _ | skip
                repeat refine awp_seq ?_
                refine awp_ret ?_
                refine And.intro (Or.inr rfl) ?_
                simp [retC, resC, viewC, mapO]
              · simp at hd

end Go.Proofs.Ytmmoghgpaagnhaa

namespace Go.Proofs.Ytmmoghgpaagnhaa
open Go Go.Abs
open Go.ChangeShapes Go.WideShapes Go.ChangeAt Go.RowKit

set_option maxRecDepth 100000 in
theorem wheelsStep_lifted (os : Os) (started : os.Started) (H : Type) (enc : TypeId × Value → H) :
    ReturnsInHanded {} Try.checked os 6 .any (Rows.wheelsStepSpec.pre6 enc Try.prog Try.f6 Rows.wheelsStepRow.domain false) (Rows.wheelsStepSpec.post enc Try.prog Try.f6 false true false false) := by
  refine returnsInHanded_of_change (C := Try.checked) J.own started (by kernel_rfl) Try.func6
    (ChangeSpec.witness6 (enc := enc) (C := Try.checked) false ⟨#[], #[.agg #[.int .i64 0, .int .i64 0, .int .i64 0, .int .i64 0, .int .i64 0, .int .i64 0, .int .i64 0, .int .i64 0], .slice none 0 0, .agg #[.int .i64 0, .int .i64 0, .int .i64 0, .int .i64 0, .int .i64 0]], []⟩ 8 (by kernel_rfl) (by kernel_rfl) (by kernel_rfl) (by kernel_rfl)) ?_
  intro W base args ds gs before hval hW _ _
  refine law_contract (P := Try.prog) (tb := 4) (by kernel_rfl) J.ub rfl (fun ds hl => ?_) J.laid J.maps J.sized (by kernel_rfl) (by kernel_rfl) (fun cargs hc => ?_) W base args ds gs before hval hW
  · have h2 : ds.length = 3 := hl
    match ds, h2 with
    | [_, _, _], _ => rfl
  · rw [Try.params6] at hc
    obtain ⟨w, r, rfl, hc1⟩ := arg25 hc
    obtain ⟨nl, l, r', rfl, hc2⟩ := arg26 hc1
    obtain ⟨y, r'', rfl, hc3⟩ := arg39 hc2
    obtain rfl := arg_end hc3
    exact law6 w nl false l y

theorem wheelsStep_holds : Rows.WheelsStepSaid :=
  OpenClaim.holds_of_wide 6 Try.f6 rfl rfl rfl rfl rfl rfl rfl ⟨rfl, rfl, rfl, rfl, rfl⟩ rfl rfl rfl rfl rfl (by kernel_rfl) Try.func6 (by kernel_rfl)
    (of_decide_eq_true (by kernel_rfl)) (by unfold Func.isWrapper; first | (rw [if_pos (by decide +kernel)]; kernel_rfl) | (rw [if_neg (by decide +kernel)]; exact ⟨rfl, rfl⟩))
    (fun os started H enc _ => wheelsStep_lifted os started H enc)
#print axioms wheelsStep_holds
end Go.Proofs.Ytmmoghgpaagnhaa

