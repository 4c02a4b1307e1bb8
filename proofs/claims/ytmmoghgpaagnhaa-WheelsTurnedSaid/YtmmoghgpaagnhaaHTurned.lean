/- For every input the law WheelsTurned returns true, and each argument reads afterwards as it read before. No condition. -/
import Derived.Test.YtmmoghgpaagnhaaB5

set_option linter.unusedSimpArgs false
set_option linter.unusedVariables false
set_option linter.constructorNameAsVariable false

namespace Go.Proofs.Ytmmoghgpaagnhaa
open Go Go.Abs

set_option maxHeartbeats 4000000

theorem ready19 (w : Wh) (nl fu : Bool) (l : List Wl) : ∃ b, Pure Try.prog 19 [encWh w, sWl nl fu l] (.bool b) ∧ (b = true → checkI w l = 0 ∧ Near w l) := by
  obtain ⟨f, hF, hf⟩ := far12 w nl fu l
  cases f
  · obtain ⟨h40, hnear⟩ := hf rfl
    by_cases hz : checkI w l = 0
    · refine ⟨true, ?_, fun _ => ⟨hz, hnear hz⟩⟩
      refine pure_of (fn := Try.f19) [.tmp 4] ⟨Try.func19, rfl, by kernel_rfl⟩ (by kernel_rfl) (by kernel_rfl) (by kernel_rfl) fun x hx hσ => ?_
      repeat refine awp_seq ?_
      refine awp_reg1 (by rw [hx]; kernel_rfl) fun K hK => ?_
      simp (config := { maxSteps := 1000000 }) [ty25]
      refine hK _ ?_
      clear hK K
      first | show AWP _ _ _ _ _ | show ∃ _, _ | skip
      repeat refine awp_seq ?_
      refine awp_reg1 (by rw [hx]; kernel_rfl) fun K hK => ?_
      simp (config := { maxSteps := 1000000 }) [ty25]
      refine callP (hF) (by first | (simp; done) | (simp [*]; done)) ?_
      simp (config := { maxSteps := 1000000 }) [ty4, ty25]
      refine callP (ref31 w nl fu l (by omega)) (by first | (simp; done) | (simp [*]; done)) ?_
      simp (config := { maxSteps := 1000000 }) [ty31, hz, ty4]
      refine hK _ ?_
      clear hK K
      first | show AWP _ _ _ _ _ | show ∃ _, _ | skip
      repeat refine awp_seq ?_
      refine awp_ret ?_
      refine And.intro (Or.inr rfl) ?_
      simp [retC, resC, viewC, mapO]
    · refine ⟨false, ?_, by simp⟩
      have hz' : (checkI w l == 0) = false := by simp [hz]
      refine pure_of (fn := Try.f19) [.tmp 4] ⟨Try.func19, rfl, by kernel_rfl⟩ (by kernel_rfl) (by kernel_rfl) (by kernel_rfl) fun x hx hσ => ?_
      repeat refine awp_seq ?_
      refine awp_reg1 (by rw [hx]; kernel_rfl) fun K hK => ?_
      simp (config := { maxSteps := 1000000 }) [ty25]
      refine hK _ ?_
      clear hK K
      first | show AWP _ _ _ _ _ | show ∃ _, _ | skip
      repeat refine awp_seq ?_
      refine awp_reg1 (by rw [hx]; kernel_rfl) fun K hK => ?_
      simp (config := { maxSteps := 1000000 }) [ty25]
      refine callP (hF) (by first | (simp; done) | (simp [*]; done)) ?_
      simp (config := { maxSteps := 1000000 }) [ty4, ty25]
      refine callP (ref31 w nl fu l (by omega)) (by first | (simp; done) | (simp [*]; done)) ?_
      simp (config := { maxSteps := 1000000 }) [ty31, ty4]
      refine hK _ ?_
      clear hK K
      first | show AWP _ _ _ _ _ | show ∃ _, _ | skip
      repeat refine awp_seq ?_
      refine awp_ret ?_
      refine And.intro (Or.inr rfl) ?_
      simp [retC, resC, viewC, mapO, hz']
  · refine ⟨false, ?_, by simp⟩
    refine pure_of (fn := Try.f19) [.tmp 4] ⟨Try.func19, rfl, by kernel_rfl⟩ (by kernel_rfl) (by kernel_rfl) (by kernel_rfl) fun x hx hσ => ?_
    repeat refine awp_seq ?_
    refine awp_reg1 (by rw [hx]; kernel_rfl) fun K hK => ?_
    simp (config := { maxSteps := 1000000 }) [ty25]
    refine hK _ ?_
    clear hK K
    first | show AWP _ _ _ _ _ | show ∃ _, _ | skip
    repeat refine awp_seq ?_
    refine awp_reg1 (by rw [hx]; kernel_rfl) fun K hK => ?_
    simp (config := { maxSteps := 1000000 }) [ty25]
    refine callP (hF) (by first | (simp; done) | (simp [*]; done)) ?_
    simp (config := { maxSteps := 1000000 }) [ty4, ty25]
    refine hK _ ?_
    clear hK K
    first | show AWP _ _ _ _ _ | show ∃ _, _ | skip
    repeat refine awp_seq ?_
    refine awp_ret ?_
    refine And.intro (Or.inr rfl) ?_
    simp [retC, resC, viewC, mapO]

theorem law3 (w : Wh) (nl fu : Bool) (l : List Wl) (a b : Int) : Pure Try.prog 3 [encWh w, sWl nl fu l, .agg [encI a, encI b]] (.bool true) := by
  obtain ⟨f, hF, hf⟩ := far12 w nl fu l
  refine pure_of (fn := Try.f3) [.tmp 6] ⟨Try.func3, rfl, by kernel_rfl⟩ (by kernel_rfl) (by kernel_rfl) (by kernel_rfl) fun x hx hσ => ?_
  repeat refine awp_seq ?_
  refine awp_reg1 (by rw [hx]; kernel_rfl) fun K hK => ?_
  simp (config := { maxSteps := 1000000 }) [ty25, ty28]
  refine hK _ ?_
  clear hK K
  first | show AWP _ _ _ _ _ | show ∃ _, _ | skip
  repeat refine awp_seq ?_
  refine awp_reg1 (by rw [hx]; kernel_rfl) fun K hK => ?_
  simp (config := { maxSteps := 1000000 }) [ty25]
  refine callP (hF) (by first | (simp; done) | (simp [*]; done)) ?_
  simp (config := { maxSteps := 1000000 }) [ty4]
  refine hK _ ?_
  clear hK K
  first | show AWP _ _ _ _ _ | show ∃ _, _ | skip
  cases f
  · repeat refine awp_seq ?_
    refine awp_cond (by simp; rfl) (by rw [hx]; simp) (fun hd => ?_) (fun hd => ?_)
    · simp at hd
    · clear hd
      obtain ⟨h40, _⟩ := hf rfl
      refine awp_skip ?_
      first | show AWP _ _ _ _ _ | show ∃ _, _ | skip
      repeat refine awp_seq ?_
      refine awp_reg1 (by rw [hx]; kernel_rfl) fun K hK => ?_
      simp (config := { maxSteps := 1000000 }) [ty26, ty39]
      refine ⟨by omega, ?_⟩
      refine hK _ ?_
      clear hK K
      first | show AWP _ _ _ _ _ | show ∃ _, _ | skip
      refine AWP.weak ?_ (wk_frz 7 24 (c := sWl false false l) (o := ⟨l.isEmpty, true, 5, l.map cWl⟩) (by simp) (by simp [purel, C.isPure]) (by
        have := fz_own (k := 24) (sz := 5) (n := l.length) (b := false) (o := ⟨l.isEmpty, true, 5, l.map cWl⟩) rfl (by simp) (by simp)
        simpa using this))
      repeat refine awp_seq ?_
      refine awp_reg1 (by rw [hx]; kernel_rfl) fun K hK => ?_
      simp (config := { maxSteps := 1000000 }) [ty25, ty28, ty3]
      refine callP (worst14 w false false l a b (by omega)) (by first | (simp; done) | (simp [*]; done)) ?_
      simp (config := { maxSteps := 1000000 }) [ty3, ty31]
      refine hK _ ?_
      clear hK K
      first | show AWP _ _ _ _ _ | show ∃ _, _ | skip
      repeat refine awp_seq ?_
      refine awp_reg1 (by rw [hx]; kernel_rfl) fun K hK => ?_
      simp (config := { maxSteps := 1000000 }) [ty25, ty28, ty3]
      refine callP (ref15 w nl fu l a b (by omega)) (by first | (simp; done) | (simp [*]; done)) ?_
      simp (config := { maxSteps := 1000000 }) [ty3, ty31]
      refine hK _ ?_
      clear hK K
      first | show AWP _ _ _ _ _ | show ∃ _, _ | skip
      repeat refine awp_seq ?_
      refine awp_reg1 (by rw [hx]; kernel_rfl) fun K hK => ?_
      simp (config := { maxSteps := 1000000 }) [ty25]
      refine callP (next16 w false false l (by omega)) (by first | (simp; done) | (simp [*]; done)) ?_
      simp (config := { maxSteps := 1000000 }) [ty3, ty31]
      refine hK _ ?_
      clear hK K
      first | show AWP _ _ _ _ _ | show ∃ _, _ | skip
      repeat refine awp_seq ?_
      refine awp_reg1 (by rw [hx]; kernel_rfl) fun K hK => ?_
      simp (config := { maxSteps := 1000000 }) [ty25]
      refine callP (ref17 w nl fu l (by omega)) (by first | (simp; done) | (simp [*]; done)) ?_
      simp (config := { maxSteps := 1000000 }) [ty3, ty31]
      refine hK _ ?_
      clear hK K
      first | show AWP _ _ _ _ _ | show ∃ _, _ | skip
      repeat refine awp_seq ?_
      refine awp_reg1 (by rw [hx]; kernel_rfl) fun K hK => ?_
      simp (config := { maxSteps := 1000000 }) [ty3, ty31, ty4]
      refine callP (walks18 false false nl fu l (by omega)) (by first | (simp; done) | (simp [*]; done)) ?_
      simp (config := { maxSteps := 1000000 }) [ty4]
      refine callP (works13) (by first | (simp; done) | (simp [*]; done)) ?_
      simp (config := { maxSteps := 1000000 }) [ty4]
      refine hK _ ?_
      clear hK K
      first | show AWP _ _ _ _ _ | show ∃ _, _ | skip
      repeat refine awp_seq ?_
      refine awp_ret ?_
      refine And.intro (Or.inr rfl) ?_
      simp [retC, resC, viewC, mapO]
  · repeat refine awp_seq ?_
    refine awp_cond (by simp; rfl) (by rw [hx]; simp) (fun hd => ?_) (fun hd => ?_)
    · clear hd
      repeat refine awp_seq ?_
      refine awp_reg1 (by rw [hx]; kernel_rfl) fun K hK => ?_
      simp (config := { maxSteps := 1000000 }) []
      refine callP (works13) (by first | (simp; done) | (simp [*]; done)) ?_
      simp (config := { maxSteps := 1000000 }) []
      refine hK _ ?_
      clear hK K
      first | show AWP _ _ _ _ _ | show ∃ _, _ | skip
      repeat refine awp_seq ?_
      refine awp_ret ?_
      refine And.intro (Or.inr rfl) ?_
      simp [retC, resC, viewC, mapO]
    · simp at hd

end Go.Proofs.Ytmmoghgpaagnhaa

namespace Go.Proofs.Ytmmoghgpaagnhaa
open Go Go.Abs

set_option maxHeartbeats 2000000

-- truths, plainly

theorem open_03 {w : Wh} {l : List Wl} (hz : checkI w l = 0) : openI w l true = 0 ∨ openI w l true = 3 := by
  by_cases h : truthsL w l = []
  · exact .inr (openI_no hz h)
  · exact .inl (openI_yes hz h)

theorem checkI_mk {w : Wh} {l : List Wl} (hw : WhOk w) (hl : ∀ y ∈ l, WlOk w y) (h8 : l.length ≤ 8) : checkI w l = 0 := by
  unfold checkI
  rw [if_neg (by rw [wheelB_iff.2 hw]; simp), if_neg]
  rintro (h | h)
  · omega
  · rw [Bool.eq_false_iff] at h
    exact h (List.all_eq_true.2 fun y hy => walkB_iff.2 (hl y hy))

theorem truth_mem {w : Wh} {l : List Wl} {t : Tr} : t ∈ truthsL w l ↔ t ∈ allT w ∧ (wrongsN w l t : Int) ≤ w.wrong := by
  simp [truthsL, isT]

theorem asc_len : ∀ (l : List Int) (a b : Int), l.Pairwise (· < ·) → (∀ z ∈ l, a ≤ z ∧ z ≤ b) → l.length ≤ (b - a + 1).toNat
  | [], _, _, _, _ => Nat.zero_le _
  | z :: l, a, b, hp, hb => by
    have h1 := List.pairwise_cons.1 hp
    have hz := hb z (by simp)
    have ih := asc_len l (z + 1) b h1.2 fun y hy => by
      have := h1.1 y hy
      have := (hb y (by simp [hy])).2
      omega
    simp only [List.length_cons]
    omega

theorem kinds_lt (f : Tr → Int) (L : List Tr) : (kindsL f L).Pairwise (· < ·) := by
  have h1 := kindsL_sorted f L
  have h2 := kindsL_nodup f L
  exact (h1.and h2).imp fun h => by omega

theorem nums_lt (f : Tr → Int) (w : Wh) (l : List Wl) : (numsI f w l).Pairwise (· < ·) := by
  unfold numsI
  split
  · exact kinds_lt _ _
  · simp

theorem nums_mem {f : Tr → Int} {w : Wh} {l : List Wl} (h : openI w l true = 0) (b : Int) : b ∈ numsI f w l ↔ ∃ t ∈ truthsL w l, f t = b := by
  rw [(numsI_ok h).1]; exact kindsL_mem _ _ _

theorem areas_bd {w : Wh} {l : List Wl} (hn : w.ghigh - w.glow ≤ 25) : (numsI Tr.area w l).length ≤ 26 := by
  by_cases h : openI w l true = 0
  · refine Nat.le_trans (asc_len _ w.glow w.ghigh (nums_lt _ _ _) fun z hz => ?_) (by omega)
    obtain ⟨t, ht, rfl⟩ := (nums_mem h z).1 hz
    exact (allT_mem.1 (truth_mem.1 ht).1).1
  · rw [numsI_zero h]; simp

theorem skews_bd {w : Wh} {l : List Wl} (hn : w.skew ≤ 2) : (numsI Tr.skew w l).length ≤ 5 := by
  by_cases h : openI w l true = 0
  · refine Nat.le_trans (asc_len _ (-w.skew) w.skew (nums_lt _ _ _) fun z hz => ?_) (by omega)
    obtain ⟨t, ht, rfl⟩ := (nums_mem h z).1 hz
    exact (allT_mem.1 (truth_mem.1 ht).1).2
  · rw [numsI_zero h]; simp

theorem nodup_len : ∀ (A B : List Int), A.Nodup → (∀ a ∈ A, a ∈ B) → A.length ≤ B.length
  | [], _, _, _ => Nat.zero_le _
  | a :: A, B, hn, hs => by
    have h1 := List.nodup_cons.1 hn
    have ha := hs a (by simp)
    have ih := nodup_len A (B.erase a) h1.2 fun b hb => by
      have hne : b ≠ a := fun e => h1.1 (e ▸ hb)
      exact (List.mem_erase_of_ne hne).2 (hs b (by simp [hb]))
    rw [List.length_erase_of_mem ha] at ih
    have := List.length_pos_of_mem ha
    simp only [List.length_cons]
    omega

theorem nums_len {f : Tr → Int} {w w' : Wh} {l l' : List Wl} (h : ∀ b ∈ numsI f w l, b ∈ numsI f w' l') : (numsI f w l).length ≤ (numsI f w' l').length :=
  nodup_len _ _ ((nums_lt f w l).imp fun h => Int.ne_of_lt h) h

theorem bound_mem {w : Wh} {l : List Wl} (h : openI w l true = 0) : (∃ t ∈ truthsL w l, t.area = (boundI w l).1) ∧ (∃ t ∈ truthsL w l, t.area = (boundI w l).2) ∧ ∀ t ∈ truthsL w l, (boundI w l).1 ≤ t.area ∧ t.area ≤ (boundI w l).2 := by
  obtain ⟨h0, e1, e2⟩ := bound_known h
  have hs := truthsL_sorted w l
  refine ⟨⟨_, List.getElem_mem h0, e1.symm⟩, ⟨_, List.getElem_mem (show (truthsL w l).length - 1 < (truthsL w l).length by omega), e2.symm⟩, fun t ht => ?_⟩
  obtain ⟨i, hi, rfl⟩ := List.getElem_of_mem ht
  rw [e1, e2]
  constructor
  · by_cases e : i = 0
    · subst e; exact Int.le_refl _
    · exact List.pairwise_iff_getElem.1 hs 0 i h0 hi (by omega)
  · by_cases e : i = (truthsL w l).length - 1
    · subst e; exact Int.le_refl _
    · exact List.pairwise_iff_getElem.1 hs i _ hi (by omega) (by omega)

-- one more walk

theorem wrongs_app (w : Wh) (l : List Wl) (y : Wl) (t : Tr) : wrongsN w (l ++ [y]) t = wrongsN w l t + if rightB w y t then 0 else 1 := by
  unfold wrongsN
  rw [List.countP_append, List.countP_singleton]
  cases rightB w y t <;> simp

theorem truths_app {w : Wh} {l : List Wl} {y : Wl} {t : Tr} (h : t ∈ truthsL w (l ++ [y])) : t ∈ truthsL w l := by
  rw [truth_mem] at *
  refine ⟨h.1, ?_⟩
  have h2 := h.2
  rw [wrongs_app] at h2
  omega

theorem truths_app_len (w : Wh) (l : List Wl) (y : Wl) : (truthsL w (l ++ [y])).length ≤ (truthsL w l).length := by
  unfold truthsL
  rw [← List.countP_eq_length_filter, ← List.countP_eq_length_filter]
  refine List.countP_mono_left fun t _ h => ?_
  simp only [isT, decide_eq_true_eq] at h ⊢
  rw [wrongs_app] at h
  omega

theorem open_app {w : Wh} {l : List Wl} {y : Wl} (hz : checkI w l = 0) (h : openI w (l ++ [y]) true = 0) : openI w l true = 0 := by
  obtain ⟨_, _, hT⟩ := openI_ok h
  obtain ⟨t, ht⟩ := List.exists_mem_of_ne_nil _ hT
  exact openI_yes hz (List.ne_nil_of_mem (truths_app ht))

theorem bound_app {w : Wh} {l : List Wl} {y : Wl} (hz : checkI w l = 0) (h : openI w (l ++ [y]) true = 0) : (boundI w l).1 ≤ (boundI w (l ++ [y])).1 ∧ (boundI w (l ++ [y])).2 ≤ (boundI w l).2 ∧ (boundI w (l ++ [y])).1 ≤ (boundI w (l ++ [y])).2 := by
  have h0 := open_app hz h
  obtain ⟨⟨t1, m1, e1⟩, ⟨t2, m2, e2⟩, h3⟩ := bound_mem h
  obtain ⟨_, _, g3⟩ := bound_mem h0
  have a1 := g3 t1 (truths_app m1)
  have a2 := g3 t2 (truths_app m2)
  have a3 := h3 t1 m1
  omega

theorem many_app {w : Wh} {l : List Wl} {y : Wl} (hz : checkI w l = 0) (h : openI w (l ++ [y]) true = 0) : manyN w (l ++ [y]) ≤ manyN w l := by
  have h0 := open_app hz h
  unfold manyN
  rw [if_pos h, if_pos h0]
  exact truths_app_len _ _ _

-- greater numbers of the wheel

structure Wider (w o : Wh) : Prop where
  full : o.full = w.full
  circle : o.circle = w.circle
  read : w.read ≤ o.read
  slip : w.slip ≤ o.slip
  skew : w.skew ≤ o.skew
  wrong : w.wrong ≤ o.wrong
  low : o.glow ≤ w.glow
  high : w.ghigh ≤ o.ghigh

theorem WlOk.wider {w o : Wh} (h : Wider w o) {y : Wl} (hy : WlOk w y) : WlOk o y := ⟨hy.sense, hy.side, hy.inside, by rw [h.full]; exact hy.start, by rw [h.full]; exact hy.fin⟩

theorem right_wider {w o : Wh} (h : Wider w o) (hw : WhOk w) (ho : WhOk o) {y : Wl} (hy : WlOk w y) {t : Tr} (hr : rightB w y t = true) : rightB o y t = true := by
  obtain ⟨s, f, h1, h2, h3⟩ := (right_iff hw hy).1 hr
  have := h.read
  have := h.slip
  refine (right_iff ho (hy.wider h)).2 ⟨s, f, by omega, by omega, ?_⟩
  rw [h.full, h.circle]
  exact h3

theorem wrongs_wider {w o : Wh} (h : Wider w o) (hw : WhOk w) (ho : WhOk o) {l : List Wl} (hl : ∀ y ∈ l, WlOk w y) (t : Tr) : wrongsN o l t ≤ wrongsN w l t := by
  unfold wrongsN
  refine List.countP_mono_left fun y hy hb => ?_
  simp only [Bool.not_eq_true'] at hb ⊢
  rw [Bool.eq_false_iff] at hb ⊢
  exact fun e => hb (right_wider h hw ho (hl y hy) e)

theorem truth_wider {w o : Wh} (h : Wider w o) (hw : WhOk w) (ho : WhOk o) {l : List Wl} (hl : ∀ y ∈ l, WlOk w y) {t : Tr} (ht : t ∈ truthsL w l) : t ∈ truthsL o l := by
  rw [truth_mem] at *
  have h1 := allT_mem.1 ht.1
  have h2 := wrongs_wider h hw ho hl t
  have := h.low
  have := h.high
  have := h.skew
  have := h.wrong
  refine ⟨allT_mem.2 ⟨⟨by omega, by omega⟩, by omega, by omega⟩, by omega⟩

theorem open_wider {w o : Wh} (h : Wider w o) {l : List Wl} (hz : checkI w l = 0) (hzo : checkI o l = 0) (he : openI w l true = 0) : openI o l true = 0 := by
  obtain ⟨hw, hl, _⟩ := checkI_ok hz
  obtain ⟨ho, _, _⟩ := checkI_ok hzo
  obtain ⟨_, _, hT⟩ := openI_ok he
  obtain ⟨t, ht⟩ := List.exists_mem_of_ne_nil _ hT
  exact openI_yes hzo (List.ne_nil_of_mem (truth_wider h hw ho hl ht))

theorem areas_wider {w o : Wh} (h : Wider w o) {l : List Wl} (hz : checkI w l = 0) (hzo : checkI o l = 0) (he : openI w l true = 0) : ∀ a ∈ numsI Tr.area w l, a ∈ numsI Tr.area o l := by
  obtain ⟨hw, hl, _⟩ := checkI_ok hz
  obtain ⟨ho, _, _⟩ := checkI_ok hzo
  have he' := open_wider h hz hzo he
  intro a ha
  obtain ⟨t, ht, rfl⟩ := (nums_mem he a).1 ha
  exact (nums_mem he' _).2 ⟨t, truth_wider h hw ho hl ht, rfl⟩

-- what cancels

theorem right_all {w : Wh} {l : List Wl} {t : Tr} (h : wrongsN w l t = 0) : ∀ y ∈ l, rightB w y t = true := by
  intro y hy
  unfold wrongsN at h
  rw [List.countP_eq_zero] at h
  have := h y hy
  simpa using this

theorem small_dvd {F z : Int} (hF : 0 < F) (h : F ∣ z) (h1 : -F < z) (h2 : z < F) : z = 0 := by
  obtain ⟨q, rfl⟩ := h
  rcases Int.lt_trichotomy q 0 with hq | hq | hq
  · have : F * q ≤ F * (-1) := Int.mul_le_mul_of_nonneg_left (by omega) (Int.le_of_lt hF)
    omega
  · rw [hq]; simp
  · have : F * 1 ≤ F * q := Int.mul_le_mul_of_nonneg_left (by omega) (Int.le_of_lt hF)
    omega

/-- What two truths and a walk that is right in both say. -/
theorem two_right {w : Wh} (hw : WhOk w) {y : Wl} (hy : WlOk w y) {t u : Tr} (hwide : w.ghigh - w.glow + w.slip + 2 * w.skew + 4 * w.read < w.full)
    (ht : (w.glow ≤ t.area ∧ t.area ≤ w.ghigh) ∧ -w.skew ≤ t.skew ∧ t.skew ≤ w.skew) (hu : (w.glow ≤ u.area ∧ u.area ≤ w.ghigh) ∧ -w.skew ≤ u.skew ∧ u.skew ≤ w.skew) (h1 : rightB w y t = true) (h2 : rightB w y u = true) :
    ∃ e, (t.area - u.area) + (y.sense * y.side) * (t.skew - u.skew) = e ∧ -(w.slip + 4 * w.read) ≤ e ∧ e ≤ w.slip + 4 * w.read := by
  obtain ⟨s1, o1, a1, b1, c1⟩ := (right_iff hw hy).1 h1
  obtain ⟨s2, o2, a2, b2, c2⟩ := (right_iff hw hy).1 h2
  have hd := Int.dvd_sub c1 c2
  have hf := hw.full
  generalize y.inside * w.circle = ci at *
  rcases hy.sense with e | e <;> rcases hy.side with e' | e' <;> rw [e, e'] at hd ⊢
  · have hz := small_dvd (by omega) hd (by omega) (by omega)
    exact ⟨_, rfl, by omega, by omega⟩
  · have hz := small_dvd (by omega) hd (by omega) (by omega)
    exact ⟨_, rfl, by omega, by omega⟩
  · have hz := small_dvd (by omega) hd (by omega) (by omega)
    exact ⟨_, rfl, by omega, by omega⟩
  · have hz := small_dvd (by omega) hd (by omega) (by omega)
    exact ⟨_, rfl, by omega, by omega⟩

theorem cancels {w : Wh} {l : List Wl} (h : openI w l true = 0) (h0 : w.wrong = 0) (hwide : w.ghigh - w.glow + w.slip + 2 * w.skew + 4 * w.read < w.full) {y z : Wl} (hy : y ∈ l) (hz : z ∈ l) (hne : y.sense * y.side ≠ z.sense * z.side) :
    (boundI w l).1 ≤ (boundI w l).2 ∧ (boundI w l).2 - (boundI w l).1 ≤ w.slip + 4 * w.read := by
  obtain ⟨⟨t, m1, e1⟩, ⟨u, m2, e2⟩, h3⟩ := bound_mem h
  obtain ⟨hw, hl, _⟩ := checkI_ok (openI_ok h).1
  have hb := h3 t m1
  have p1 := truth_mem.1 m1
  have p2 := truth_mem.1 m2
  have q1 := right_all (w := w) (l := l) (t := t) (by omega)
  have q2 := right_all (w := w) (l := l) (t := u) (by omega)
  obtain ⟨e, r1, r2, r3⟩ := two_right hw (hl y hy) hwide (allT_mem.1 p2.1) (allT_mem.1 p1.1) (q2 y hy) (q1 y hy)
  obtain ⟨e', r1', r2', r3'⟩ := two_right hw (hl z hz) hwide (allT_mem.1 p2.1) (allT_mem.1 p1.1) (q2 z hz) (q1 z hz)
  rw [← e1, ← e2]
  have hsgn : ∀ x : Wl, WlOk w x → x.sense * x.side = 1 ∨ x.sense * x.side = -1 := by
    intro x hx
    rcases hx.sense with a | a <;> rcases hx.side with b | b <;> rw [a, b] <;> simp
  rcases hsgn y (hl y hy) with a | a <;> rcases hsgn z (hl z hz) with b | b
  · exact absurd (a.trans b.symm) hne
  · rw [a] at r1; rw [b] at r1'
    exact ⟨by omega, by omega⟩
  · rw [a] at r1; rw [b] at r1'
    exact ⟨by omega, by omega⟩
  · exact absurd (a.trans b.symm) hne

end Go.Proofs.Ytmmoghgpaagnhaa

namespace Go.Proofs.Ytmmoghgpaagnhaa
open Go Go.Abs

set_option maxHeartbeats 4000000


def sgn0 : List Wl → Int
  | [] => 0
  | y :: _ => y.sense * y.side
def btB (l : List Wl) (i : Nat) : Bool := (l.take i).any fun y => decide (y.sense * y.side ≠ sgn0 l)

theorem sgn0_at {l : List Wl} (h : 0 < l.length) : sgn0 l = l[0].sense * l[0].side := by
  cases l with
  | nil => simp at h
  | cons y l => rfl
theorem btB_one (l : List Wl) : btB l 1 = false := by
  cases l with
  | nil => rfl
  | cons y l => simp [btB, sgn0]

theorem law5 (w : Wh) (nl fu : Bool) (l : List Wl) : Pure Try.prog 5 [encWh w, sWl nl fu l] (.bool true) := by
  obtain ⟨f, hF, hf⟩ := ready19 w nl fu l
  refine pure_of (fn := Try.f5) [.tmp 4] ⟨Try.func5, rfl, by kernel_rfl⟩ (by kernel_rfl) (by kernel_rfl) (by kernel_rfl) fun x hx hσ => ?_
  repeat refine awp_seq ?_
  refine awp_reg1 (by rw [hx]; kernel_rfl) fun K hK => ?_
  simp (config := { maxSteps := 1000000 }) [ty25]
  refine hK _ ?_
  clear hK K
  first | show AWP _ _ _ _ _ | show ∃ _, _ | skip
  cases f
  · repeat refine awp_seq ?_
    refine awp_reg1 (by rw [hx]; kernel_rfl) fun K hK => ?_
    simp (config := { maxSteps := 1000000 }) [ty25]
    refine callP (hF) (by first | (simp; done) | (simp [*]; done)) ?_
    simp (config := { maxSteps := 1000000 }) [ty4]
    refine hK _ ?_
    clear hK K
    first | show AWP _ _ _ _ _ | show ∃ _, _ | skip
    repeat refine awp_seq ?_
    refine awp_cond (by simp; rfl) (by rw [hx]; simp) (fun hd => ?_) (fun hd => ?_)
    · clear hd
      repeat refine awp_seq ?_
      refine awp_reg1 (by rw [hx]; kernel_rfl) fun K hK => ?_
      simp (config := { maxSteps := 1000000 }) []
      refine callP (works13) (by first | (simp; done) | (simp [*]; done)) ?_
      simp (config := { maxSteps := 1000000 }) []
      refine hK _ ?_
      clear hK K
      first | show AWP _ _ _ _ _ | show ∃ _, _ | skip
      repeat refine awp_seq ?_
      refine awp_ret ?_
      refine And.intro (Or.inr rfl) ?_
      simp [retC, resC, viewC, mapO]
    · simp at hd
  · obtain ⟨hz, hN⟩ := hf rfl
    obtain ⟨hw, hl, h8⟩ := checkI_ok hz
    have hfu := hw.full
    have hre := hw.read
    have hsl := hw.slip
    have hsk := hw.skew
    have hgu := hw.guess
    have hwr := hw.wrong
    by_cases h0 : 0 < w.wrong
    · repeat refine awp_seq ?_
      refine awp_reg1 (by rw [hx]; kernel_rfl) fun K hK => ?_
      simp (config := { maxSteps := 1000000 }) [ty25]
      refine callP (hF) (by first | (simp; done) | (simp [*]; done)) ?_
      simp (config := { maxSteps := 1000000 }) [ty4, ty25, ty3, h0]
      refine hK _ ?_
      clear hK K
      first | show AWP _ _ _ _ _ | show ∃ _, _ | skip
      repeat refine awp_seq ?_
      refine awp_cond (by simp [h0]; rfl) (by rw [hx]; simp) (fun hd => ?_) (fun hd => ?_)
      · clear hd
        repeat refine awp_seq ?_
        refine awp_reg1 (by rw [hx]; kernel_rfl) fun K hK => ?_
        simp (config := { maxSteps := 1000000 }) []
        refine callP (works13) (by first | (simp; done) | (simp [*]; done)) ?_
        simp (config := { maxSteps := 1000000 }) []
        refine hK _ ?_
        clear hK K
        first | show AWP _ _ _ _ _ | show ∃ _, _ | skip
        repeat refine awp_seq ?_
        refine awp_ret ?_
        refine And.intro (Or.inr rfl) ?_
        simp [retC, resC, viewC, mapO]
      · simp at hd
    · have e1 := wrap_id (z := w.ghigh - w.glow) (by omega) (by omega)
      have e2 := wrap_id (z := w.ghigh - w.glow + w.slip) (by omega) (by omega)
      have e3 := wrap_id (z := 2 * w.skew) (by omega) (by omega)
      have e4 := wrap_id (z := w.ghigh - w.glow + w.slip + 2 * w.skew) (by omega) (by omega)
      have e5 := wrap_id (z := 4 * w.read) (by omega) (by omega)
      have e6 := wrap_id (z := w.ghigh - w.glow + w.slip + 2 * w.skew + 4 * w.read) (by omega) (by omega)
      by_cases hwide : w.full ≤ w.ghigh - w.glow + w.slip + 2 * w.skew + 4 * w.read
      · repeat refine awp_seq ?_
        refine awp_reg1 (by rw [hx]; kernel_rfl) fun K hK => ?_
        simp (config := { maxSteps := 1000000 }) [ty25]
        refine callP (hF) (by first | (simp; done) | (simp [*]; done)) ?_
        simp (config := { maxSteps := 1000000 }) [ty4, ty25, ty23, ty3, h0, e1, e2, e3, e4, e5, e6, hwide]
        refine hK _ ?_
        clear hK K
        first | show AWP _ _ _ _ _ | show ∃ _, _ | skip
        repeat refine awp_seq ?_
        refine awp_cond (by simp [h0, hwide]; rfl) (by rw [hx]; simp) (fun hd => ?_) (fun hd => ?_)
        · clear hd
          repeat refine awp_seq ?_
          refine awp_reg1 (by rw [hx]; kernel_rfl) fun K hK => ?_
          simp (config := { maxSteps := 1000000 }) []
          refine callP (works13) (by first | (simp; done) | (simp [*]; done)) ?_
          simp (config := { maxSteps := 1000000 }) []
          refine hK _ ?_
          clear hK K
          first | show AWP _ _ _ _ _ | show ∃ _, _ | skip
          repeat refine awp_seq ?_
          refine awp_ret ?_
          refine And.intro (Or.inr rfl) ?_
          simp [retC, resC, viewC, mapO]
        · simp [hwide] at hd
      · repeat refine awp_seq ?_
        refine awp_reg1 (by rw [hx]; kernel_rfl) fun K hK => ?_
        simp (config := { maxSteps := 1000000 }) [ty25]
        refine callP (hF) (by first | (simp; done) | (simp [*]; done)) ?_
        simp (config := { maxSteps := 1000000 }) [ty4, ty25, ty23, ty3, h0, e1, e2, e3, e4, e5, e6, hwide]
        refine hK _ ?_
        clear hK K
        first | show AWP _ _ _ _ _ | show ∃ _, _ | skip
        repeat refine awp_seq ?_
        refine awp_cond (by simp [h0, hwide]; rfl) (by rw [hx]; simp) (fun hd => ?_) (fun hd => ?_)
        · simp [hwide] at hd
        · clear hd
          refine awp_skip ?_
          first | show AWP _ _ _ _ _ | show ∃ _, _ | skip
          repeat refine awp_seq ?_
          refine awp_reg1 (by rw [hx]; kernel_rfl) fun K hK => ?_
          simp (config := { maxSteps := 1000000 }) []
          refine hK _ ?_
          clear hK K
          first | show AWP _ _ _ _ _ | show ∃ _, _ | skip
          repeat refine awp_seq ?_
          refine awp_reg1 (by rw [hx]; kernel_rfl) fun K hK => ?_
          simp (config := { maxSteps := 1000000 }) []
          refine hK _ ?_
          clear hK K
          first | show AWP _ _ _ _ _ | show ∃ _, _ | skip
          repeat refine awp_seq ?_
          refine awp_block ?_
          have hsg : ∀ y ∈ l, IntKind.i64.wrap (y.sense * y.side) = y.sense * y.side := by
            intro y hy
            rcases (hl y hy).sense with a | a <;> rcases (hl y hy).side with b | b <;> rw [a, b] <;> decide
          refine awp_loop (fun i : Nat => ⟨ofL [(1, sWl nl fu l), (2, .ptr 2 8 0 0), (5, .bool (btB l i)), (6, encI i)], stoT [(2, 2, .live (obWh w))]⟩)
            (fun i => 1 ≤ i ∧ (i ≤ l.length ∨ i = 1)) (fun i => l.length + 1 - i) 1 ⟨Nat.le_refl _, .inr rfl⟩ ?_ ?_
          · simp only [btB_one]
            refine wk_shape (shp0 hσ (by simp) (by simp) ?_) ?_
            · simp [SlotOk] <;> (repeat' (first | exact .same (by simp [purel, C.isPure]) | exact .cons (by simp [mtl, mtc, mT, mH, C.isPure, purel]) (by simp) .nil | refine And.intro ?_ ?_))
            · simp [mtc, mtl, mT, C.isPure, purel] <;> (try simp (disch := omega) [wrap_id]) <;> (try omega)
          · rintro i ⟨hi1, hi2⟩
            repeat refine awp_seq ?_
            refine awp_reg1 (by rw [hx]; kernel_rfl) fun K hK => ?_
            simp (config := { maxSteps := 1000000 }) [ty26, ty3]
            refine hK _ ?_
            clear hK K
            first | show AWP _ _ _ _ _ | show ∃ _, _ | skip
            repeat refine awp_seq ?_
            refine awp_cond (by simp; rfl) (by rw [hx]; simp) (fun hc => ?_) (fun hc => ?_)
            · simp at hc
              have hpos : 0 < l.length := by omega
              have hs0 := sgn0_at hpos
              have g1 := hsg _ (List.getElem_mem hc)
              have g2 := hsg _ (List.getElem_mem hpos)
              have hwi := wrap_id (z := (i : Int) + 1) (by omega) (by omega)
              have hst : btB l (i + 1) = (btB l i || decide (l[i].sense * l[i].side ≠ l[0].sense * l[0].side)) := by
                unfold btB
                rw [any_step _ hc, hs0]
              refine awp_skip ?_
              first | show AWP _ _ _ _ _ | show ∃ _, _ | skip
              repeat refine awp_seq ?_
              refine awp_block ?_
              cases hb : btB l i
              · rw [hb, Bool.false_or] at hst
                by_cases hq : l[i].sense * l[i].side = l[0].sense * l[0].side
                · rw [decide_eq_false (by simp [hq])] at hst
                  repeat refine awp_seq ?_
                  refine awp_drw3 [] [0, 1, 2, 3, 4, 5, 6, 7, 8, 9, 10, 11, 12, 13, 14, 15, 16, 17, 18, 19, 20, 21, 22, 23, 24] (by rw [hx]; kernel_rfl) (by kernel_rfl) (by kernel_rfl) (by kernel_rfl) fun K hK => ?_
                  simp (config := { maxSteps := 1000000 }) [ty26, ty39, ty3, hc, hpos, g1, g2, hq]
                  refine hK _ ?_
                  clear hK K
                  first | show AWP _ _ _ _ _ | show ∃ _, _ | skip
                  repeat refine awp_seq ?_
                  refine awp_reg1 (by rw [hx]; kernel_rfl) fun K hK => ?_
                  simp (config := { maxSteps := 1000000 }) [ty3]
                  refine hK _ ?_
                  clear hK K
                  first | show AWP _ _ _ _ _ | show ∃ _, _ | skip
                  refine ⟨i + 1, ⟨by omega, .inl (by omega)⟩, by omega, ?_⟩
                  rw [hst]
                  refine wk_shape (shp0 hσ (by simp) (by simp) ?_) ?_
                  · simp [SlotOk] <;> (repeat' (first | exact .same (by simp [purel, C.isPure]) | exact .cons (by simp [mtl, mtc, mT, mH, C.isPure, purel]) (by simp) .nil | refine And.intro ?_ ?_))
                  · simp [mtc, mtl, mT, C.isPure, purel, hwi, g1, g2, hq] <;> (try simp (disch := omega) [wrap_id]) <;> (try omega)
                · rw [decide_eq_true (by simp [hq])] at hst
                  repeat refine awp_seq ?_
                  refine awp_drw3 [] [0, 1, 2, 3, 4, 5, 6, 7, 8, 9, 10, 11, 12, 13, 14, 15, 16, 17, 18, 19, 20, 21, 22, 23, 24] (by rw [hx]; kernel_rfl) (by kernel_rfl) (by kernel_rfl) (by kernel_rfl) fun K hK => ?_
                  simp (config := { maxSteps := 1000000 }) [ty26, ty39, ty3, hc, hpos, g1, g2, hq]
                  refine hK _ ?_
                  clear hK K
                  first | show AWP _ _ _ _ _ | show ∃ _, _ | skip
                  repeat refine awp_seq ?_
                  refine awp_reg1 (by rw [hx]; kernel_rfl) fun K hK => ?_
                  simp (config := { maxSteps := 1000000 }) [ty3]
                  refine hK _ ?_
                  clear hK K
                  first | show AWP _ _ _ _ _ | show ∃ _, _ | skip
                  refine ⟨i + 1, ⟨by omega, .inl (by omega)⟩, by omega, ?_⟩
                  rw [hst]
                  refine wk_shape (shp0 hσ (by simp) (by simp) ?_) ?_
                  · simp [SlotOk] <;> (repeat' (first | exact .same (by simp [purel, C.isPure]) | exact .cons (by simp [mtl, mtc, mT, mH, C.isPure, purel]) (by simp) .nil | refine And.intro ?_ ?_))
                  · simp [mtc, mtl, mT, C.isPure, purel, hwi, g1, g2, hq] <;> (try simp (disch := omega) [wrap_id]) <;> (try omega)
              · rw [hb, Bool.true_or] at hst
                repeat refine awp_seq ?_
                refine awp_drw3 [] [0, 1, 2, 3, 4, 5, 6, 7, 8, 9, 10, 11, 12, 13, 14, 15, 16, 17, 18, 19, 20, 21, 22, 23, 24] (by rw [hx]; kernel_rfl) (by kernel_rfl) (by kernel_rfl) (by kernel_rfl) fun K hK => ?_
                simp (config := { maxSteps := 1000000 }) [ty26, ty39, ty3, hc, hpos, g1, g2]
                refine hK _ ?_
                clear hK K
                first | show AWP _ _ _ _ _ | show ∃ _, _ | skip
                repeat refine awp_seq ?_
                refine awp_reg1 (by rw [hx]; kernel_rfl) fun K hK => ?_
                simp (config := { maxSteps := 1000000 }) [ty3]
                refine hK _ ?_
                clear hK K
                first | show AWP _ _ _ _ _ | show ∃ _, _ | skip
                refine ⟨i + 1, ⟨by omega, .inl (by omega)⟩, by omega, ?_⟩
                rw [hst]
                refine wk_shape (shp0 hσ (by simp) (by simp) ?_) ?_
                · simp [SlotOk] <;> (repeat' (first | exact .same (by simp [purel, C.isPure]) | exact .cons (by simp [mtl, mtc, mT, mH, C.isPure, purel]) (by simp) .nil | refine And.intro ?_ ?_))
                · simp [mtc, mtl, mT, C.isPure, purel, hwi] <;> (try simp (disch := omega) [wrap_id]) <;> (try omega)
            · simp at hc
              repeat refine awp_seq ?_
              refine awp_exit ?_
              first | show AWP _ _ _ _ _ | show ∃ _, _ | skip
              have hbt : btB l i = true → ∃ y ∈ l, ∃ z ∈ l, y.sense * y.side ≠ z.sense * z.side := by
                intro h
                unfold btB at h
                rw [List.any_eq_true] at h
                obtain ⟨y, hy, h2⟩ := h
                have hyl := List.mem_of_mem_take hy
                have hpos := List.length_pos_of_mem hyl
                rw [sgn0_at hpos, decide_eq_true_eq] at h2
                exact ⟨y, hyl, _, List.getElem_mem hpos, h2⟩
              generalize btB l i = B at *
              repeat refine awp_seq ?_
              refine awp_reg1 (by rw [hx]; kernel_rfl) fun K hK => ?_
              simp (config := { maxSteps := 1000000 }) [ty25, ty23]
              refine callP (bound21 w nl fu l (by omega)) (by first | (simp; done) | (simp [*]; done)) ?_
              simp (config := { maxSteps := 1000000 }) [ty25, ty23, ty31]
              refine hK _ ?_
              clear hK K
              first | show AWP _ _ _ _ _ | show ∃ _, _ | skip
              rcases open_03 hz with he | he
              · rw [he]
                repeat refine awp_seq ?_
                refine awp_reg1 (by rw [hx]; kernel_rfl) fun K hK => ?_
                simp (config := { maxSteps := 1000000 }) [ty31]
                refine callP (known23 0) (by first | (simp; done) | (simp [*]; done)) ?_
                simp (config := { maxSteps := 1000000 }) [ty4]
                refine hK _ ?_
                clear hK K
                first | show AWP _ _ _ _ _ | show ∃ _, _ | skip
                repeat refine awp_seq ?_
                refine awp_cond (by simp; rfl) (by rw [hx]; simp) (fun hd => ?_) (fun hd => ?_)
                · simp at hd
                · clear hd
                  refine awp_skip ?_
                  first | show AWP _ _ _ _ _ | show ∃ _, _ | skip
                  cases B
                  · repeat refine awp_seq ?_
                    refine awp_reg1 (by rw [hx]; kernel_rfl) fun K hK => ?_
                    simp (config := { maxSteps := 1000000 }) [ty4, ty31]
                    refine callP (works13) (by first | (simp; done) | (simp [*]; done)) ?_
                    simp (config := { maxSteps := 1000000 }) [ty4]
                    refine hK _ ?_
                    clear hK K
                    first | show AWP _ _ _ _ _ | show ∃ _, _ | skip
                    repeat refine awp_seq ?_
                    refine awp_ret ?_
                    refine And.intro (Or.inr rfl) ?_
                    simp [retC, resC, viewC, mapO]
                  · obtain ⟨y, hy, z, hz', hne⟩ := hbt rfl
                    obtain ⟨c1, c2⟩ := cancels he (by omega) (by omega) hy hz' hne
                    obtain ⟨⟨t1, m1, q1⟩, ⟨t2, m2, q2⟩, _⟩ := bound_mem he
                    have p1 := allT_mem.1 (truth_mem.1 m1).1
                    have p2 := allT_mem.1 (truth_mem.1 m2).1
                    have e7 := wrap_id (z := (boundI w l).2 - (boundI w l).1) (by omega) (by omega)
                    have e8 := wrap_id (z := w.slip + 4 * w.read) (by omega) (by omega)
                    repeat refine awp_seq ?_
                    refine awp_reg1 (by rw [hx]; kernel_rfl) fun K hK => ?_
                    simp (config := { maxSteps := 1000000 }) [ty4, ty31, ty23, ty25, ty3, e5, e7, e8, c1, c2]
                    refine callP (works13) (by first | (simp; done) | (simp [*]; done)) ?_
                    simp (config := { maxSteps := 1000000 }) [ty4]
                    refine hK _ ?_
                    clear hK K
                    first | show AWP _ _ _ _ _ | show ∃ _, _ | skip
                    repeat refine awp_seq ?_
                    refine awp_ret ?_
                    refine And.intro (Or.inr rfl) ?_
                    simp [retC, resC, viewC, mapO]
              · rw [he]
                repeat refine awp_seq ?_
                refine awp_reg1 (by rw [hx]; kernel_rfl) fun K hK => ?_
                simp (config := { maxSteps := 1000000 }) [ty31]
                refine callP (known23 3) (by first | (simp; done) | (simp [*]; done)) ?_
                simp (config := { maxSteps := 1000000 }) [ty4]
                refine hK _ ?_
                clear hK K
                first | show AWP _ _ _ _ _ | show ∃ _, _ | skip
                repeat refine awp_seq ?_
                refine awp_cond (by simp; rfl) (by rw [hx]; simp) (fun hd => ?_) (fun hd => ?_)
                · simp at hd
                · clear hd
                  refine awp_skip ?_
                  first | show AWP _ _ _ _ _ | show ∃ _, _ | skip
                  cases B
                  · repeat refine awp_seq ?_
                    refine awp_reg1 (by rw [hx]; kernel_rfl) fun K hK => ?_
                    simp (config := { maxSteps := 1000000 }) [ty4, ty31]
                    refine callP (works13) (by first | (simp; done) | (simp [*]; done)) ?_
                    simp (config := { maxSteps := 1000000 }) [ty4]
                    refine hK _ ?_
                    clear hK K
                    first | show AWP _ _ _ _ _ | show ∃ _, _ | skip
                    repeat refine awp_seq ?_
                    refine awp_ret ?_
                    refine And.intro (Or.inr rfl) ?_
                    simp [retC, resC, viewC, mapO]
                  · repeat refine awp_seq ?_
                    refine awp_reg1 (by rw [hx]; kernel_rfl) fun K hK => ?_
                    simp (config := { maxSteps := 1000000 }) [ty4, ty31]
                    refine callP (works13) (by first | (simp; done) | (simp [*]; done)) ?_
                    simp (config := { maxSteps := 1000000 }) [ty4]
                    refine hK _ ?_
                    clear hK K
                    first | show AWP _ _ _ _ _ | show ∃ _, _ | skip
                    repeat refine awp_seq ?_
                    refine awp_ret ?_
                    refine And.intro (Or.inr rfl) ?_
                    simp [retC, resC, viewC, mapO]

end Go.Proofs.Ytmmoghgpaagnhaa

namespace Go.Proofs.Ytmmoghgpaagnhaa
open Go Go.Abs

set_option maxHeartbeats 2000000

-- the turn

theorem open_eq {w : Wh} {l k : List Wl} (h1 : checkI w l = checkI w k) (h2 : truthsL w l = truthsL w k) (is : Bool) : openI w l is = openI w k is := by
  unfold openI; rw [h1, h2]
theorem nums_eq {w : Wh} {l k : List Wl} (h1 : checkI w l = checkI w k) (h2 : truthsL w l = truthsL w k) (f : Tr → Int) : numsI f w l = numsI f w k := by
  unfold numsI; rw [open_eq h1 h2, h2]
theorem many_eq {w : Wh} {l k : List Wl} (h1 : checkI w l = checkI w k) (h2 : truthsL w l = truthsL w k) : manyN w l = manyN w k := by
  unfold manyN; rw [open_eq h1 h2, h2]

theorem truths_eq {w : Wh} {l k : List Wl} (h : ∀ t, wrongsN w l t = wrongsN w k t) : truthsL w l = truthsL w k := by
  unfold truthsL
  congr 1
  funext t
  unfold isT
  rw [h]

def backW (y : Wl) : Wl := ⟨-y.sense, -y.side, y.inside, y.fin, y.start⟩
def laterW (w : Wh) (b : Int) (y : Wl) : Wl := ⟨y.sense, y.side, y.inside, (y.start + b) % w.full, (y.fin + b) % w.full⟩
def laterF (w : Wh) (a b : Int) (i : Nat) (y : Wl) : Wl := if (i : Int) = a then laterW w b y else y

theorem back_ok {w : Wh} {y : Wl} (hy : WlOk w y) : WlOk w (backW y) := by
  refine ⟨?_, ?_, hy.inside, hy.fin, hy.start⟩
  · rcases hy.sense with e | e <;> simp [backW, e]
  · rcases hy.side with e | e <;> simp [backW, e]

theorem later_ok {w : Wh} (hw : WhOk w) {y : Wl} (hy : WlOk w y) (b : Int) : WlOk w (laterW w b y) := by
  have hf := hw.full
  have h1 := Int.emod_nonneg (y.start + b) (show w.full ≠ 0 by omega)
  have h2 := Int.emod_lt_of_pos (y.start + b) (show 0 < w.full by omega)
  have h3 := Int.emod_nonneg (y.fin + b) (show w.full ≠ 0 by omega)
  have h4 := Int.emod_lt_of_pos (y.fin + b) (show 0 < w.full by omega)
  exact ⟨hy.sense, hy.side, hy.inside, by simp only [laterW]; omega, by simp only [laterW]; omega⟩

theorem laterF_ok {w : Wh} (hw : WhOk w) {y : Wl} (hy : WlOk w y) (a b : Int) (i : Nat) : WlOk w (laterF w a b i y) := by
  unfold laterF
  split
  · exact later_ok hw hy b
  · exact hy

theorem right_back {w : Wh} (hw : WhOk w) {y : Wl} (hy : WlOk w y) (t : Tr) : rightB w (backW y) t = rightB w y t := by
  rw [Bool.eq_iff_iff, right_iff hw (back_ok hy), right_iff hw hy]
  simp only [backW]
  have key : ∀ s o : Int, y.start - y.fin - (-y.sense * (t.area - y.inside * w.circle - s) + -y.side * t.skew + o) = -(y.fin - y.start - (y.sense * (t.area - y.inside * w.circle - s) + y.side * t.skew + -o)) := by
    intro s o
    rw [Int.neg_mul, Int.neg_mul]
    omega
  constructor
  · rintro ⟨s, o, a1, a2, a3⟩
    rw [key] at a3
    exact ⟨s, -o, a1, by omega, (Int.dvd_neg).1 a3⟩
  · rintro ⟨s, o, a1, a2, a3⟩
    refine ⟨s, -o, a1, by omega, ?_⟩
    rw [key, Int.neg_neg]
    exact (Int.dvd_neg).2 a3

theorem right_later {w : Wh} (hw : WhOk w) {y : Wl} (hy : WlOk w y) (b : Int) (t : Tr) : rightB w (laterW w b y) t = rightB w y t := by
  rw [Bool.eq_iff_iff, right_iff hw (later_ok hw hy b), right_iff hw hy]
  simp only [laterW]
  have q1 := Int.emod_add_mul_ediv (y.start + b) w.full
  have q2 := Int.emod_add_mul_ediv (y.fin + b) w.full
  have key : ∀ z : Int, (y.fin + b) % w.full - (y.start + b) % w.full - z = (y.fin - y.start - z) - w.full * ((y.fin + b) / w.full - (y.start + b) / w.full) := by
    intro z
    rw [Int.mul_sub]
    omega
  constructor
  · rintro ⟨s, o, a1, a2, a3⟩
    rw [key] at a3
    refine ⟨s, o, a1, a2, ?_⟩
    have := Int.dvd_add a3 (Int.dvd_mul_right w.full ((y.fin + b) / w.full - (y.start + b) / w.full))
    rwa [Int.sub_add_cancel] at this
  · rintro ⟨s, o, a1, a2, a3⟩
    refine ⟨s, o, a1, a2, ?_⟩
    rw [key]
    exact Int.dvd_sub a3 (Int.dvd_mul_right _ _)

theorem wrongs_idx {w : Wh} (f : Nat → Wl → Wl) (t : Tr) (l : List Wl) : (∀ i, ∀ y ∈ l, rightB w (f i y) t = rightB w y t) → wrongsN w (l.mapIdx f) t = wrongsN w l t := by
  induction l using list_rev_ind with
  | h0 => intro _; rfl
  | h1 l y ih =>
    intro h
    rw [List.mapIdx_concat, wrongs_app, wrongs_app, ih fun i z hz => h i z (by simp [hz]), h _ y (by simp)]

theorem check_idx {w : Wh} {f : Nat → Wl → Wl} {l : List Wl} (hz : checkI w l = 0) (h : ∀ i, ∀ y ∈ l, WlOk w (f i y)) : checkI w l = checkI w (l.mapIdx f) := by
  obtain ⟨hw, hl, h8⟩ := checkI_ok hz
  rw [hz, checkI_mk hw (fun y hy => ?_) (by simp; omega)]
  obtain ⟨i, hi, rfl⟩ := List.getElem_of_mem hy
  rw [List.getElem_mapIdx]
  exact h _ _ (List.getElem_mem _)

theorem back_eq {w : Wh} {l : List Wl} (hz : checkI w l = 0) : checkI w l = checkI w (l.mapIdx fun _ y => backW y) ∧ truthsL w l = truthsL w (l.mapIdx fun _ y => backW y) := by
  obtain ⟨hw, hl, _⟩ := checkI_ok hz
  exact ⟨check_idx hz fun _ y hy => back_ok (hl y hy), truths_eq fun t => (wrongs_idx _ t l fun _ y hy => right_back hw (hl y hy) t).symm⟩

theorem later_eq {w : Wh} {l : List Wl} (hz : checkI w l = 0) (a b : Int) : checkI w l = checkI w (l.mapIdx (laterF w a b)) ∧ truthsL w l = truthsL w (l.mapIdx (laterF w a b)) := by
  obtain ⟨hw, hl, _⟩ := checkI_ok hz
  refine ⟨check_idx hz fun i y hy => laterF_ok hw (hl y hy) a b i, truths_eq fun t => (wrongs_idx _ t l fun i y hy => ?_).symm⟩
  unfold laterF
  split
  · exact right_later hw (hl y hy) b t
  · rfl

/-- The walks from one on, and the others behind them. -/
def turnedL (l : List Wl) (c n : Nat) : List Wl := (List.range n).map fun j => l.getD ((j + c) % l.length) ⟨0, 0, 0, 0, 0⟩

theorem turned_perm (l : List Wl) (c : Nat) : (turnedL l c l.length).Perm l := by
  by_cases h0 : l.length = 0
  · have : l = [] := List.eq_nil_of_length_eq_zero h0
    subst this
    exact List.Perm.refl _
  · obtain ⟨r, hr⟩ : ∃ r, r = c % l.length := ⟨_, rfl⟩
    have hrl : r < l.length := by rw [hr]; exact Nat.mod_lt _ (by omega)
    have : turnedL l c l.length = l.drop r ++ l.take r := by
      apply List.ext_getElem
      · simp [turnedL]; omega
      · intro j h1 h2
        have hj : j < l.length := by simpa [turnedL] using h1
        have hm : (j + c) % l.length = (j + r) % l.length := by rw [hr, Nat.add_mod, Nat.add_mod j (c % l.length), Nat.mod_mod]
        simp only [turnedL, List.getElem_map, List.getElem_range, hm]
        by_cases hlt : j + r < l.length
        · rw [Nat.mod_eq_of_lt hlt, List.getElem_append_left (by simp; omega), List.getElem_drop, List.getD_eq_getElem?_getD, List.getElem?_eq_getElem hlt]
          simp [Nat.add_comm]
        · have e1 : (j + r) % l.length = j + r - l.length := by
            rw [Nat.mod_eq_sub_mod (by omega), Nat.mod_eq_of_lt (by omega)]
          rw [e1, List.getElem_append_right (by simp; omega), List.getElem_take, List.getD_eq_getElem?_getD, List.getElem?_eq_getElem (by omega)]
          simp only [Option.getD_some, List.length_drop]
          congr 1
          omega
    rw [this]
    exact List.perm_append_comm.trans (by rw [List.take_append_drop])

theorem turned_eq {w : Wh} {l : List Wl} (hz : checkI w l = 0) (c : Nat) : checkI w l = checkI w (turnedL l c l.length) ∧ truthsL w l = truthsL w (turnedL l c l.length) := by
  obtain ⟨hw, hl, h8⟩ := checkI_ok hz
  have hp := turned_perm l c
  refine ⟨?_, truths_eq fun t => (hp.countP_eq _).symm⟩
  rw [hz, checkI_mk hw (fun y hy => hl y (hp.mem_iff.1 hy)) (by rw [hp.length_eq]; exact h8)]

end Go.Proofs.Ytmmoghgpaagnhaa

namespace Go.Proofs.Ytmmoghgpaagnhaa
open Go Go.Abs

set_option maxHeartbeats 4000000

theorem alike26 (w : Wh) (a1 a2 b1 b2 : Bool) (l k : List Wl) (hn : l.length ≤ 1000) (hm : k.length ≤ 1000) (h1 : checkI w l = checkI w k) (h2 : truthsL w l = truthsL w k) : Pure Try.prog 26 [encWh w, sWl a1 a2 l, sWl b1 b2 k] (.bool true) := by
  have q1 := areas22 w a1 a2 l hn
  have q2 := areas22 w b1 b2 k hm
  have q3 := skews36 w a1 a2 l hn
  have q4 := skews36 w b1 b2 k hm
  have q5 := many20 w a1 a2 l hn
  have q6 := many20 w b1 b2 k hm
  rw [← nums_eq h1 h2, ← open_eq h1 h2] at q2 q4
  rw [← many_eq h1 h2, ← open_eq h1 h2] at q6
  have l1 := numsI_len Tr.area w l
  have l2 := numsI_len Tr.skew w l
  have s1 := same29 (numsI Tr.area w l).isEmpty (numsI Tr.area w l).isEmpty (numsI Tr.area w l).isEmpty (numsI Tr.area w l).isEmpty (numsI Tr.area w l) (numsI Tr.area w l) (by omega) (by omega)
  have s2 := same29 (numsI Tr.skew w l).isEmpty (numsI Tr.skew w l).isEmpty (numsI Tr.skew w l).isEmpty (numsI Tr.skew w l).isEmpty (numsI Tr.skew w l) (numsI Tr.skew w l) (by omega) (by omega)
  rw [decide_eq_true rfl] at s1 s2
  generalize numsI Tr.area w l = A at *
  generalize numsI Tr.skew w l = S at *
  generalize openI w l true = e at *
  generalize manyN w l = m at *
  refine pure_of (fn := Try.f26) [.tmp 6] ⟨Try.func26, rfl, by kernel_rfl⟩ (by kernel_rfl) (by kernel_rfl) (by kernel_rfl) fun x hx hσ => ?_
  repeat refine awp_seq ?_
  refine awp_reg1 (by rw [hx]; kernel_rfl) fun K hK => ?_
  simp (config := { maxSteps := 1000000 }) [ty25]
  refine hK _ ?_
  clear hK K
  first | show AWP _ _ _ _ _ | show ∃ _, _ | skip
  repeat refine awp_seq ?_
  refine awp_reg1 (by rw [hx]; kernel_rfl) fun K hK => ?_
  simp (config := { maxSteps := 1000000 }) [ty25]
  refine callP (q1) (by first | (simp; done) | (simp [*]; done)) ?_
  simp (config := { maxSteps := 1000000 }) [ty45, ty31]
  refine hK _ ?_
  clear hK K
  first | show AWP _ _ _ _ _ | show ∃ _, _ | skip
  repeat refine awp_seq ?_
  refine awp_reg1 (by rw [hx]; kernel_rfl) fun K hK => ?_
  simp (config := { maxSteps := 1000000 }) [ty25]
  refine callP (q2) (by first | (simp; done) | (simp [*]; done)) ?_
  simp (config := { maxSteps := 1000000 }) [ty45, ty31]
  refine hK _ ?_
  clear hK K
  first | show AWP _ _ _ _ _ | show ∃ _, _ | skip
  repeat refine awp_seq ?_
  refine awp_reg1 (by rw [hx]; kernel_rfl) fun K hK => ?_
  simp (config := { maxSteps := 1000000 }) [ty25]
  refine callP (q3) (by first | (simp; done) | (simp [*]; done)) ?_
  simp (config := { maxSteps := 1000000 }) [ty45, ty31]
  refine hK _ ?_
  clear hK K
  first | show AWP _ _ _ _ _ | show ∃ _, _ | skip
  repeat refine awp_seq ?_
  refine awp_reg1 (by rw [hx]; kernel_rfl) fun K hK => ?_
  simp (config := { maxSteps := 1000000 }) [ty25]
  refine callP (q4) (by first | (simp; done) | (simp [*]; done)) ?_
  simp (config := { maxSteps := 1000000 }) [ty45, ty31]
  refine hK _ ?_
  clear hK K
  first | show AWP _ _ _ _ _ | show ∃ _, _ | skip
  repeat refine awp_seq ?_
  refine awp_reg1 (by rw [hx]; kernel_rfl) fun K hK => ?_
  simp (config := { maxSteps := 1000000 }) [ty25]
  refine callP (q5) (by first | (simp; done) | (simp [*]; done)) ?_
  simp (config := { maxSteps := 1000000 }) [ty3, ty31]
  refine hK _ ?_
  clear hK K
  first | show AWP _ _ _ _ _ | show ∃ _, _ | skip
  repeat refine awp_seq ?_
  refine awp_reg1 (by rw [hx]; kernel_rfl) fun K hK => ?_
  simp (config := { maxSteps := 1000000 }) [ty25]
  refine callP (q6) (by first | (simp; done) | (simp [*]; done)) ?_
  simp (config := { maxSteps := 1000000 }) [ty3, ty31]
  refine hK _ ?_
  clear hK K
  first | show AWP _ _ _ _ _ | show ∃ _, _ | skip
  repeat refine awp_seq ?_
  refine awp_reg1 (by rw [hx]; kernel_rfl) fun K hK => ?_
  simp (config := { maxSteps := 1000000 }) [ty45]
  refine callP (s1) (by first | (simp; done) | (simp [*]; done)) ?_
  simp (config := { maxSteps := 1000000 }) [ty4, ty31, ty45]
  refine callP (s2) (by first | (simp; done) | (simp [*]; done)) ?_
  simp (config := { maxSteps := 1000000 }) [ty4, ty31, ty3]
  refine hK _ ?_
  clear hK K
  first | show AWP _ _ _ _ _ | show ∃ _, _ | skip
  repeat refine awp_seq ?_
  refine awp_ret ?_
  refine And.intro (Or.inr rfl) ?_
  simp [retC, resC, viewC, mapO]


@[simp] theorem take_cWl (L : List Wl) : List.take L.length (L.map cWl) = L.map cWl := List.take_of_length_le (by simp)

theorem law7 (w : Wh) (nl fu : Bool) (l : List Wl) (a b c : Int) : Pure Try.prog 7 [encWh w, sWl nl fu l, .agg [encI a, encI b, encI c]] (.bool true) := by
  obtain ⟨f, hF, hf⟩ := ready19 w nl fu l
  refine pure_of (fn := Try.f7) [.tmp 6] ⟨Try.func7, rfl, by kernel_rfl⟩ (by kernel_rfl) (by kernel_rfl) (by kernel_rfl) fun x hx hσ => ?_
  repeat refine awp_seq ?_
  refine awp_reg1 (by rw [hx]; kernel_rfl) fun K hK => ?_
  simp (config := { maxSteps := 1000000 }) [ty25, ty54]
  refine hK _ ?_
  clear hK K
  first | show AWP _ _ _ _ _ | show ∃ _, _ | skip
  cases f
  · repeat refine awp_seq ?_
    refine awp_reg1 (by rw [hx]; kernel_rfl) fun K hK => ?_
    simp (config := { maxSteps := 1000000 }) [ty25]
    refine callP (hF) (by first | (simp; done) | (simp [*]; done)) ?_
    simp (config := { maxSteps := 1000000 }) [ty4]
    refine hK _ ?_
    clear hK K
    first | show AWP _ _ _ _ _ | show ∃ _, _ | skip
    repeat refine awp_seq ?_
    refine awp_cond (by simp; rfl) (by rw [hx]; simp) (fun hd => ?_) (fun hd => ?_)
    · clear hd
      repeat refine awp_seq ?_
      refine awp_reg1 (by rw [hx]; kernel_rfl) fun K hK => ?_
      simp (config := { maxSteps := 1000000 }) []
      refine callP (works13) (by first | (simp; done) | (simp [*]; done)) ?_
      simp (config := { maxSteps := 1000000 }) []
      refine hK _ ?_
      clear hK K
      first | show AWP _ _ _ _ _ | show ∃ _, _ | skip
      repeat refine awp_seq ?_
      refine awp_ret ?_
      refine And.intro (Or.inr rfl) ?_
      simp [retC, resC, viewC, mapO]
    · simp at hd
  · obtain ⟨hz, hN⟩ := hf rfl
    obtain ⟨hw, hl, h8⟩ := checkI_ok hz
    have h4 := hN.len
    have hfu := hw.full
    by_cases g1 : b < 0
    · repeat refine awp_seq ?_
      refine awp_reg1 (by rw [hx]; kernel_rfl) fun K hK => ?_
      simp (config := { maxSteps := 1000000 }) [ty25]
      refine callP (hF) (by first | (simp; done) | (simp [*]; done)) ?_
      simp (config := { maxSteps := 1000000 }) [ty4, ty54, ty3, g1]
      refine hK _ ?_
      clear hK K
      first | show AWP _ _ _ _ _ | show ∃ _, _ | skip
      repeat refine awp_seq ?_
      refine awp_cond (by simp [g1]; rfl) (by rw [hx]; simp) (fun hd => ?_) (fun hd => ?_)
      · clear hd
        repeat refine awp_seq ?_
        refine awp_reg1 (by rw [hx]; kernel_rfl) fun K hK => ?_
        simp (config := { maxSteps := 1000000 }) []
        refine callP (works13) (by first | (simp; done) | (simp [*]; done)) ?_
        simp (config := { maxSteps := 1000000 }) []
        refine hK _ ?_
        clear hK K
        first | show AWP _ _ _ _ _ | show ∃ _, _ | skip
        repeat refine awp_seq ?_
        refine awp_ret ?_
        refine And.intro (Or.inr rfl) ?_
        simp [retC, resC, viewC, mapO]
      · simp [g1] at hd
    · by_cases g2 : 10000 < b
      · repeat refine awp_seq ?_
        refine awp_reg1 (by rw [hx]; kernel_rfl) fun K hK => ?_
        simp (config := { maxSteps := 1000000 }) [ty25]
        refine callP (hF) (by first | (simp; done) | (simp [*]; done)) ?_
        simp (config := { maxSteps := 1000000 }) [ty4, ty54, ty3, g1, g2]
        refine hK _ ?_
        clear hK K
        first | show AWP _ _ _ _ _ | show ∃ _, _ | skip
        repeat refine awp_seq ?_
        refine awp_cond (by simp [g1, g2]; rfl) (by rw [hx]; simp) (fun hd => ?_) (fun hd => ?_)
        · clear hd
          repeat refine awp_seq ?_
          refine awp_reg1 (by rw [hx]; kernel_rfl) fun K hK => ?_
          simp (config := { maxSteps := 1000000 }) []
          refine callP (works13) (by first | (simp; done) | (simp [*]; done)) ?_
          simp (config := { maxSteps := 1000000 }) []
          refine hK _ ?_
          clear hK K
          first | show AWP _ _ _ _ _ | show ∃ _, _ | skip
          repeat refine awp_seq ?_
          refine awp_ret ?_
          refine And.intro (Or.inr rfl) ?_
          simp [retC, resC, viewC, mapO]
        · simp [g1, g2] at hd
      · by_cases g3 : c < 0
        · repeat refine awp_seq ?_
          refine awp_reg1 (by rw [hx]; kernel_rfl) fun K hK => ?_
          simp (config := { maxSteps := 1000000 }) [ty25]
          refine callP (hF) (by first | (simp; done) | (simp [*]; done)) ?_
          simp (config := { maxSteps := 1000000 }) [ty4, ty54, ty3, g1, g2, g3]
          refine hK _ ?_
          clear hK K
          first | show AWP _ _ _ _ _ | show ∃ _, _ | skip
          repeat refine awp_seq ?_
          refine awp_cond (by simp [g1, g2, g3]; rfl) (by rw [hx]; simp) (fun hd => ?_) (fun hd => ?_)
          · clear hd
            repeat refine awp_seq ?_
            refine awp_reg1 (by rw [hx]; kernel_rfl) fun K hK => ?_
            simp (config := { maxSteps := 1000000 }) []
            refine callP (works13) (by first | (simp; done) | (simp [*]; done)) ?_
            simp (config := { maxSteps := 1000000 }) []
            refine hK _ ?_
            clear hK K
            first | show AWP _ _ _ _ _ | show ∃ _, _ | skip
            repeat refine awp_seq ?_
            refine awp_ret ?_
            refine And.intro (Or.inr rfl) ?_
            simp [retC, resC, viewC, mapO]
          · simp [g1, g2, g3] at hd
        · by_cases g4 : 100 < c
          · repeat refine awp_seq ?_
            refine awp_reg1 (by rw [hx]; kernel_rfl) fun K hK => ?_
            simp (config := { maxSteps := 1000000 }) [ty25]
            refine callP (hF) (by first | (simp; done) | (simp [*]; done)) ?_
            simp (config := { maxSteps := 1000000 }) [ty4, ty54, ty3, g1, g2, g3, g4]
            refine hK _ ?_
            clear hK K
            first | show AWP _ _ _ _ _ | show ∃ _, _ | skip
            repeat refine awp_seq ?_
            refine awp_cond (by simp [g1, g2, g3, g4]; rfl) (by rw [hx]; simp) (fun hd => ?_) (fun hd => ?_)
            · clear hd
              repeat refine awp_seq ?_
              refine awp_reg1 (by rw [hx]; kernel_rfl) fun K hK => ?_
              simp (config := { maxSteps := 1000000 }) []
              refine callP (works13) (by first | (simp; done) | (simp [*]; done)) ?_
              simp (config := { maxSteps := 1000000 }) []
              refine hK _ ?_
              clear hK K
              first | show AWP _ _ _ _ _ | show ∃ _, _ | skip
              repeat refine awp_seq ?_
              refine awp_ret ?_
              refine And.intro (Or.inr rfl) ?_
              simp [retC, resC, viewC, mapO]
            · simp [g1, g2, g3, g4] at hd
          · repeat refine awp_seq ?_
            refine awp_reg1 (by rw [hx]; kernel_rfl) fun K hK => ?_
            simp (config := { maxSteps := 1000000 }) [ty25]
            refine callP (hF) (by first | (simp; done) | (simp [*]; done)) ?_
            simp (config := { maxSteps := 1000000 }) [ty4, ty54, ty3, g1, g2, g3, g4]
            refine hK _ ?_
            clear hK K
            first | show AWP _ _ _ _ _ | show ∃ _, _ | skip
            repeat refine awp_seq ?_
            refine awp_cond (by simp [g1, g2, g3, g4]; rfl) (by rw [hx]; simp) (fun hd => ?_) (fun hd => ?_)
            · simp [g1, g2, g3, g4] at hd
            · clear hd
              refine awp_skip ?_
              first | show AWP _ _ _ _ _ | show ∃ _, _ | skip
              obtain ⟨k, rfl⟩ : ∃ k : Nat, c = k := ⟨c.toNat, by omega⟩
              obtain ⟨O1, hO1⟩ : ∃ O1 : Nat → List Wl, O1 = fun i => (l.take i).mapIdx fun _ y => backW y := ⟨_, rfl⟩
              obtain ⟨O2, hO2⟩ : ∃ O2 : Nat → List Wl, O2 = fun i => (l.take i).mapIdx (laterF w a b) := ⟨_, rfl⟩
              obtain ⟨O3, hO3⟩ : ∃ O3 : Nat → List Wl, O3 = fun i => turnedL l k i := ⟨_, rfl⟩
              have z1 : O1 0 = [] := by rw [hO1]; rfl
              have z2 : O2 0 = [] := by rw [hO2]; rfl
              have z3 : O3 0 = [] := by rw [hO3]; rfl
              have s1 : ∀ i (hi : i < l.length), O1 (i + 1) = O1 i ++ [backW l[i]] := fun i hi => by
                rw [hO1]; simp only
                rw [List.take_succ_eq_append_getElem hi, List.mapIdx_concat]
              have s2 : ∀ i (hi : i < l.length), O2 (i + 1) = O2 i ++ [laterF w a b i l[i]] := fun i hi => by
                rw [hO2]; simp only
                rw [List.take_succ_eq_append_getElem hi, List.mapIdx_concat, List.length_take, Nat.min_eq_left (by omega)]
              have s3 : ∀ i (hi : i < l.length), O3 (i + 1) = O3 i ++ [l[(i + k) % l.length]'(Nat.mod_lt _ (by omega))] := fun i hi => by
                rw [hO3]; simp only [turnedL]
                rw [List.range_succ, List.map_append]
                simp only [List.map_cons, List.map_nil]
                rw [List.getD_eq_getElem?_getD, List.getElem?_eq_getElem (Nat.mod_lt _ (by omega))]
                rfl
              have n1 : ∀ i, i ≤ l.length → (O1 i).length = i := fun i hi => by rw [hO1]; simp; omega
              have n2 : ∀ i, i ≤ l.length → (O2 i).length = i := fun i hi => by rw [hO2]; simp; omega
              have n3 : ∀ i, (O3 i).length = i := fun i => by rw [hO3]; simp [turnedL]
              have e1 : checkI w l = checkI w (O1 l.length) ∧ truthsL w l = truthsL w (O1 l.length) := by rw [hO1]; simp only [List.take_length]; exact back_eq hz
              have e2 : checkI w l = checkI w (O2 l.length) ∧ truthsL w l = truthsL w (O2 l.length) := by rw [hO2]; simp only [List.take_length]; exact later_eq hz a b
              have e3 : checkI w l = checkI w (O3 l.length) ∧ truthsL w l = truthsL w (O3 l.length) := by rw [hO3]; exact turned_eq hz k
              clear hO1 hO2 hO3
              repeat refine awp_seq ?_
              refine awp_reg1 (by rw [hx]; kernel_rfl) fun K hK => ?_
              simp (config := { maxSteps := 1000000 }) []
              refine hK _ ?_
              clear hK K
              first | show AWP _ _ _ _ _ | show ∃ _, _ | skip
              repeat refine awp_seq ?_
              refine awp_reg1 (by rw [hx]; kernel_rfl) fun K hK => ?_
              simp (config := { maxSteps := 1000000 }) []
              refine hK _ ?_
              clear hK K
              first | show AWP _ _ _ _ _ | show ∃ _, _ | skip
              repeat refine awp_seq ?_
              refine awp_block ?_
              refine AWP.weak ?_ (wk_nil 7 7 5 (fu := true) (by simp) (by simp))
              refine AWP.weak ?_ (wk_nil 8 8 5 (fu := true) (by simp) (by simp))
              refine AWP.weak ?_ (wk_nil 9 9 5 (fu := true) (by simp) (by simp))
              refine awp_loop (fun i : Nat => ⟨ofL [(1, sWl nl fu l), (3, .ptr 3 8 0 0), (5, .ptr 5 3 0 0), (7, .own 7 5 0 (O1 i).length), (8, .own 8 5 0 (O2 i).length), (9, .own 9 5 0 (O3 i).length), (10, encI i)],
                  stoT [(3, 3, .live (obWh w)), (5, 5, .live ⟨false, false, 3, [[encI a, encI b, encI k]]⟩), (7, 7, .live ⟨(O1 i).isEmpty, false, 5, (O1 i).map cWl⟩), (8, 8, .live ⟨(O2 i).isEmpty, false, 5, (O2 i).map cWl⟩), (9, 9, .live ⟨(O3 i).isEmpty, false, 5, (O3 i).map cWl⟩)]⟩)
                (fun i => i ≤ l.length) (fun i => l.length - i) 0 (Nat.zero_le _) ?_ ?_
              · simp only [z1, z2, z3]
                refine wk_shape (shp0 hσ (by simp) (by simp) ?_) ?_
                · simp [SlotOk] <;> (repeat' (first | exact .same (by simp [purel, C.isPure]) | exact .cons (by simp [mtl, mtc, mT, mH, C.isPure, purel]) (by simp) .nil | refine And.intro ?_ ?_))
                · simp [mtc, mtl, mT, C.isPure, purel] <;> (try simp (disch := omega) [wrap_id]) <;> (try omega)
              · intro i hi
                have m1 := n1 i hi
                have m2 := n2 i hi
                have m3 := n3 i
                repeat refine awp_seq ?_
                refine awp_reg1 (by rw [hx]; kernel_rfl) fun K hK => ?_
                simp (config := { maxSteps := 1000000 }) [ty26, ty3]
                refine hK _ ?_
                clear hK K
                first | show AWP _ _ _ _ _ | show ∃ _, _ | skip
                repeat refine awp_seq ?_
                refine awp_cond (by simp; rfl) (by rw [hx]; simp) (fun hc => ?_) (fun hc => ?_)
                · simp at hc
                  have t1 := s1 i hc
                  have t2 := s2 i hc
                  have t3 := s3 i hc
                  have hy := hl _ (List.getElem_mem hc)
                  have hwi := wrap_id (z := (i : Int) + 1) (by omega) (by omega)
                  refine awp_skip ?_
                  first | show AWP _ _ _ _ _ | show ∃ _, _ | skip
                  repeat refine awp_seq ?_
                  refine awp_block ?_
                  repeat refine awp_seq ?_
                  refine awp_reg1 (by rw [hx]; kernel_rfl) fun K hK => ?_
                  simp (config := { maxSteps := 1000000 }) [ty26, ty39, hc]
                  refine hK _ ?_
                  clear hK K
                  first | show AWP _ _ _ _ _ | show ∃ _, _ | skip
                  have v1 : IntKind.i64.wrap (-l[i].sense) = -l[i].sense := by rcases hy.sense with e | e <;> rw [e] <;> decide
                  have v2 : IntKind.i64.wrap (-l[i].side) = -l[i].side := by rcases hy.side with e | e <;> rw [e] <;> decide
                  repeat refine awp_seq ?_
                  refine awp_reg1 (by rw [hx]; kernel_rfl) fun K hK => ?_
                  simp (config := { maxSteps := 1000000 }) [ty26, ty39, ty3, v1, v2]
                  refine ⟨by omega, ?_⟩
                  refine hK _ ?_
                  clear hK K
                  first | show AWP _ _ _ _ _ | show ∃ _, _ | skip
                  have hmod : (i + k) % l.length < l.length := Nat.mod_lt _ (by omega)
                  have v3 : IntKind.i64.wrap ((i : Int) + k) = (i : Int) + k := wrap_id (by omega) (by omega)
                  have v4 : ((i : Int) + k).tmod l.length = ((i + k) % l.length : Nat) := by
                    rw [Int.tmod_eq_emod_of_nonneg (by omega)]; rfl
                  have v5 : IntKind.i64.wrap (((i + k) % l.length : Nat) : Int) = ((i + k) % l.length : Nat) := wrap_id (by omega) (by omega)
                  have v6 : ¬ l.length = 0 := by omega
                  obtain ⟨q, hq⟩ : ∃ q, q = (i + k) % l.length := ⟨_, rfl⟩
                  have hql : q < l.length := by rw [hq]; exact hmod
                  have t3' : O3 (i + 1) = O3 i ++ [l[q]] := by rw [t3]; congr 2; simp only [hq]
                  rw [← hq] at v4 v5
                  repeat refine awp_seq ?_
                  refine awp_reg1 (by rw [hx]; kernel_rfl) fun K hK => ?_
                  simp (config := { maxSteps := 1000000 }) [ty26, ty39, ty54, ty3, v3, v4, v5, v6, hql]
                  refine ⟨by omega, ?_⟩
                  refine hK _ ?_
                  clear hK K
                  first | show AWP _ _ _ _ _ | show ∃ _, _ | skip
                  refine AWP.weak ?_ (wk_shape (E := [(1, sWl nl fu l), (3, .ptr 3 8 0 0), (5, .ptr 5 3 0 0), (7, .own 7 5 0 (O1 (i + 1)).length), (8, .own 8 5 0 (O2 i).length), (9, .own 9 5 0 (O3 (i + 1)).length), (10, encI i), (11, .ptr 11 5 0 0)])
                    (T := [(3, 3, .live (obWh w)), (5, 5, .live ⟨false, false, 3, [[encI a, encI b, encI k]]⟩), (7, 62, .live ⟨(O1 (i + 1)).isEmpty, false, 5, (O1 (i + 1)).map cWl⟩), (8, 8, .live ⟨(O2 i).isEmpty, false, 5, (O2 i).map cWl⟩), (9, 75, .live ⟨(O3 (i + 1)).isEmpty, false, 5, (O3 (i + 1)).map cWl⟩), (11, 11, .live (obWl l[i]))]) (shp0 hσ (by simp) (by simp) ?_) ?_)
                  · by_cases ha : (i : Int) = a
                    · have t2' : O2 (i + 1) = O2 i ++ [laterW w b l[i]] := by rw [t2, laterF, if_pos ha]
                      subst ha
                      repeat refine awp_seq ?_
                      refine awp_reg1 (by rw [hx]; kernel_rfl) fun K hK => ?_
                      simp (config := { maxSteps := 1000000 }) [ty54, ty3]
                      refine hK _ ?_
                      clear hK K
                      first | show AWP _ _ _ _ _ | show ∃ _, _ | skip
                      repeat refine awp_seq ?_
                      refine awp_cond (by simp; rfl) (by rw [hx]; simp) (fun hd => ?_) (fun hd => ?_)
                      · clear hd
                        have hst := hy.start
                        have hfi := hy.fin
                        have u1 := wrap_id (z := l[i].start + b) (by omega) (by omega)
                        have u2 := wrap_id (z := l[i].fin + b) (by omega) (by omega)
                        have x1 := Int.emod_nonneg (l[i].start + b) (show w.full ≠ 0 by omega)
                        have x2 := Int.emod_lt_of_pos (l[i].start + b) (show 0 < w.full by omega)
                        have x3 := Int.emod_nonneg (l[i].fin + b) (show w.full ≠ 0 by omega)
                        have x4 := Int.emod_lt_of_pos (l[i].fin + b) (show 0 < w.full by omega)
                        have u3 : (l[i].start + b).tmod w.full = (l[i].start + b) % w.full := Int.tmod_eq_emod_of_nonneg (by omega)
                        have u4 : (l[i].fin + b).tmod w.full = (l[i].fin + b) % w.full := Int.tmod_eq_emod_of_nonneg (by omega)
                        have u5 := wrap_id (z := (l[i].start + b) % w.full) (by omega) (by omega)
                        have u6 := wrap_id (z := (l[i].fin + b) % w.full) (by omega) (by omega)
                        have u7 : w.full ≠ 0 := by omega
                        repeat refine awp_seq ?_
                        refine awp_drw3 [1011, 1014, 2017, 2019, 10011] [0, 1, 2, 3, 4, 5, 6, 7, 8, 9, 10, 11, 12, 13, 14, 15, 16, 17, 18, 19] (by rw [hx]; kernel_rfl) (by kernel_rfl) (by kernel_rfl) (by kernel_rfl) fun K hK => ?_
                        simp (config := { maxSteps := 1000000 }) [ty25, ty39, ty54, ty3, u1, u2, u3, u4, u5, u6, u7]
                        refine hK _ ?_
                        clear hK K
                        first | show AWP _ _ _ _ _ | show ∃ _, _ | skip
                        repeat refine awp_seq ?_
                        refine awp_reg1 (by rw [hx]; kernel_rfl) fun K hK => ?_
                        simp (config := { maxSteps := 1000000 }) [ty26, ty39]
                        refine ⟨by omega, ?_⟩
                        refine hK _ ?_
                        clear hK K
                        first | show AWP _ _ _ _ _ | show ∃ _, _ | skip
                        repeat refine awp_seq ?_
                        refine awp_reg1 (by rw [hx]; kernel_rfl) fun K hK => ?_
                        simp (config := { maxSteps := 1000000 }) [ty3]
                        refine hK _ ?_
                        clear hK K
                        first | show AWP _ _ _ _ _ | show ∃ _, _ | skip
                        refine ⟨i + 1, by omega, by omega, ?_⟩
                        refine wk_shape (T := [(3, 3, .live (obWh w)), (5, 5, .live ⟨false, false, 3, [[encI i, encI b, encI k]]⟩), (7, 7, .live ⟨(O1 (i + 1)).isEmpty, false, 5, (O1 (i + 1)).map cWl⟩), (8, 101, .live ⟨(O2 (i + 1)).isEmpty, false, 5, (O2 (i + 1)).map cWl⟩), (9, 9, .live ⟨(O3 (i + 1)).isEmpty, false, 5, (O3 (i + 1)).map cWl⟩)]) (shp0 hσ (by simp) (by simp) ?_) ?_
                        · simp [SlotOk, t2', laterW]
                          exact ⟨.same (by simp [purel, C.isPure]), .same (by simp [purel, C.isPure]), .same (by simp [purel, C.isPure]), .same (by simp [purel, C.isPure]), .same (by simp [purel, C.isPure])⟩
                        · simp [mtc, mtl, mT, C.isPure, purel, t2', hwi]
                      · simp at hd
                    · have t2' : O2 (i + 1) = O2 i ++ [l[i]] := by rw [t2, laterF, if_neg ha]
                      repeat refine awp_seq ?_
                      refine awp_reg1 (by rw [hx]; kernel_rfl) fun K hK => ?_
                      simp (config := { maxSteps := 1000000 }) [ty54, ty3, ha]
                      refine hK _ ?_
                      clear hK K
                      first | show AWP _ _ _ _ _ | show ∃ _, _ | skip
                      repeat refine awp_seq ?_
                      refine awp_cond (by simp [ha]; rfl) (by rw [hx]; simp) (fun hd => ?_) (fun hd => ?_)
                      · simp [ha] at hd
                      · clear hd
                        refine awp_skip ?_
                        first | show AWP _ _ _ _ _ | show ∃ _, _ | skip
                        repeat refine awp_seq ?_
                        refine awp_reg1 (by rw [hx]; kernel_rfl) fun K hK => ?_
                        simp (config := { maxSteps := 1000000 }) [ty26, ty39]
                        refine ⟨by omega, ?_⟩
                        refine hK _ ?_
                        clear hK K
                        first | show AWP _ _ _ _ _ | show ∃ _, _ | skip
                        repeat refine awp_seq ?_
                        refine awp_reg1 (by rw [hx]; kernel_rfl) fun K hK => ?_
                        simp (config := { maxSteps := 1000000 }) [ty3]
                        refine hK _ ?_
                        clear hK K
                        first | show AWP _ _ _ _ _ | show ∃ _, _ | skip
                        refine ⟨i + 1, by omega, by omega, ?_⟩
                        refine wk_shape (T := [(3, 3, .live (obWh w)), (5, 5, .live ⟨false, false, 3, [[encI a, encI b, encI k]]⟩), (7, 7, .live ⟨(O1 (i + 1)).isEmpty, false, 5, (O1 (i + 1)).map cWl⟩), (8, 101, .live ⟨(O2 (i + 1)).isEmpty, false, 5, (O2 (i + 1)).map cWl⟩), (9, 9, .live ⟨(O3 (i + 1)).isEmpty, false, 5, (O3 (i + 1)).map cWl⟩)]) (shp0 hσ (by simp) (by simp) ?_) ?_
                        · simp [SlotOk, t2']
                          exact ⟨.same (by simp [purel, C.isPure]), .same (by simp [purel, C.isPure]), .same (by simp [purel, C.isPure]), .same (by simp [purel, C.isPure]), .same (by simp [purel, C.isPure])⟩
                        · simp [mtc, mtl, mT, C.isPure, purel, t2', hwi]
                  · simp [SlotOk, t1, t3', backW]
                    exact ⟨.same (by simp [purel, C.isPure]), .same (by simp [purel, C.isPure]), .same (by simp [purel, C.isPure]), .same (by simp [purel, C.isPure]), .same (by simp [purel, C.isPure]), .same (by simp [purel, C.isPure])⟩
                  · simp [mtc, mtl, mT, C.isPure, purel, t1, t3', backW]
                · simp at hc
                  repeat refine awp_seq ?_
                  refine awp_exit ?_
                  first | show AWP _ _ _ _ _ | show ∃ _, _ | skip
                  have : i = l.length := by omega
                  subst this
                  have hA1' := alike26 w nl fu (O1 l.length).isEmpty false l (O1 l.length) (by omega) (by omega) e1.1 e1.2
                  have hA2' := alike26 w nl fu (O2 l.length).isEmpty false l (O2 l.length) (by omega) (by omega) e2.1 e2.2
                  have hA3' := alike26 w nl fu (O3 l.length).isEmpty false l (O3 l.length) (by omega) (by omega) e3.1 e3.2
                  generalize O1 l.length = B1 at *
                  generalize O2 l.length = B2 at *
                  generalize O3 l.length = B3 at *
                  repeat refine awp_seq ?_
                  refine awp_reg1 (by rw [hx]; kernel_rfl) fun K hK => ?_
                  simp (config := { maxSteps := 1000000 }) [ty25]
                  refine callL hA1' (by simp [viewL, mapO, viewC, C.isPure, purel]) (.inr rfl) ?_
                  simp [ty4, ty25]
                  refine callL hA2' (by simp [viewL, mapO, viewC, C.isPure, purel]) (.inr rfl) ?_
                  simp [ty4, ty25]
                  refine callL hA3' (by simp [viewL, mapO, viewC, C.isPure, purel]) (.inr rfl) ?_
                  simp [ty4, ty25]
                  refine callP (works13) (by first | (simp; done) | (simp [*]; done)) ?_
                  simp (config := { maxSteps := 1000000 }) [ty4]
                  refine hK _ ?_
                  clear hK K
                  first | show AWP _ _ _ _ _ | show ∃ _, _ | skip
                  repeat refine awp_seq ?_
                  refine awp_ret ?_
                  refine And.intro (Or.inr rfl) ?_
                  simp [retC, resC, viewC, mapO]

end Go.Proofs.Ytmmoghgpaagnhaa

namespace Go.Proofs.Ytmmoghgpaagnhaa
open Go Go.Abs
open Go.ChangeShapes Go.WideShapes Go.ChangeAt Go.RowKit

set_option maxRecDepth 100000 in
theorem wheelsTurned_lifted (os : Os) (started : os.Started) (H : Type) (enc : TypeId × Value → H) :
    ReturnsInHanded {} Try.checked os 7 .any (Rows.wheelsTurnedSpec.pre6 enc Try.prog Try.f7 Rows.wheelsTurnedRow.domain false) (Rows.wheelsTurnedSpec.post enc Try.prog Try.f7 false true false false) := by
  refine returnsInHanded_of_change (C := Try.checked) J.own started (by kernel_rfl) Try.func7
    (ChangeSpec.witness6 (enc := enc) (C := Try.checked) false ⟨#[], #[.agg #[.int .i64 0, .int .i64 0, .int .i64 0, .int .i64 0, .int .i64 0, .int .i64 0, .int .i64 0, .int .i64 0], .slice none 0 0, .agg #[.int .i64 0, .int .i64 0, .int .i64 0]], []⟩ 8 (by kernel_rfl) (by kernel_rfl) (by kernel_rfl) (by kernel_rfl)) ?_
  intro W base args ds gs before hval hW _ _
  refine law_contract (P := Try.prog) (tb := 4) (by kernel_rfl) J.ub rfl (fun ds hl => ?_) J.laid J.maps J.sized (by kernel_rfl) (by kernel_rfl) (fun cargs hc => ?_) W base args ds gs before hval hW
  · have h2 : ds.length = 3 := hl
    match ds, h2 with
    | [_, _, _], _ => rfl
  · rw [Try.params7] at hc
    obtain ⟨w, r, rfl, hc1⟩ := arg25 hc
    obtain ⟨nl, l, r', rfl, hc2⟩ := arg26 hc1
    obtain ⟨a, b, c, r'', rfl, hc3⟩ := arg54 hc2
    obtain rfl := arg_end hc3
    exact law7 w nl false l a b c

theorem wheelsTurned_holds : Rows.WheelsTurnedSaid :=
  OpenClaim.holds_of_wide 7 Try.f7 rfl rfl rfl rfl rfl rfl rfl ⟨rfl, rfl, rfl, rfl, rfl⟩ rfl rfl rfl rfl rfl (by kernel_rfl) Try.func7 (by kernel_rfl)
    (of_decide_eq_true (by kernel_rfl)) (by unfold Func.isWrapper; first | (rw [if_pos (by decide +kernel)]; kernel_rfl) | (rw [if_neg (by decide +kernel)]; exact ⟨rfl, rfl⟩))
    (fun os started H enc _ => wheelsTurned_lifted os started H enc)
#print axioms wheelsTurned_holds
end Go.Proofs.Ytmmoghgpaagnhaa

