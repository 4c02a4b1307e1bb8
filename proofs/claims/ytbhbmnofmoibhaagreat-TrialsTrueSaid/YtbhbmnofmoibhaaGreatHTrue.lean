/- For every input the law TrialsTrue returns true, and each argument reads afterwards as it read before. No condition. -/
import Derived.Test.YtbhbmnofmoibhaaGreatB5

set_option linter.unusedSimpArgs false
set_option linter.unusedVariables false
set_option linter.constructorNameAsVariable false

namespace Go.Proofs.YtbhbmnofmoibhaaGreat
open Go Go.Abs

set_option maxHeartbeats 8000000

-- the copy is answered the same

theorem checksI_copy (w : Wh) : ∀ l : List Ts, checksI w (l.map copyY) = checksI w l
  | [] => rfl
  | y :: l => by
    have ih := checksI_copy w l
    simp only [List.map_cons, checksI, ih]
    rfl
theorem copy_check (t : Ti) : checkT (copyT t) = checkT t := by
  unfold checkT
  have e1 : (copyT t).ts = t.ts.map copyY := rfl
  have e2 : (copyT t).w = t.w := rfl
  have e3 : (copyT t).gain = t.gain := rfl
  rw [e1, e2, e3, List.length_map, List.all_map, checksI_copy]
  have e4 : ((fun x : Ts => areaB x.area) ∘ copyY) = fun x => areaB x.area := rfl
  have e5 : (t.ts.map copyY = []) = (t.ts = []) := by simp
  simp only [e4, e5]
theorem copy_okS (t : Ti) (n : Nat) (k : Tr) : okS (copyT t) n k = okS t n k := by
  unfold okS
  have e1 : (copyT t).ts = t.ts.map copyY := rfl
  rw [e1, List.length_map]
  congr 1
  funext i
  rw [List.getElem?_map]
  cases t.ts[i]? <;> rfl
theorem copy_truths (t : Ti) (n : Nat) : truthsS (copyT t) n = truthsS t n := by
  unfold truthsS
  have : okS (copyT t) n = okS t n := by funext k; exact copy_okS t n k
  rw [this]
  rfl
theorem copy_allS (t : Ti) : allS (copyT t) = allS t := by
  unfold allS
  have e1 : (copyT t).ts = t.ts.map copyY := rfl
  rw [e1, List.length_map]
theorem copy_openT (t : Ti) (is : Bool) : openT (copyT t) is = openT t is := by unfold openT; rw [copy_check, copy_allS, copy_truths]
theorem copy_nums (f : Tr → Int) (t : Ti) (is : Bool) : numsT f (copyT t) is = numsT f t is := by unfold numsT; rw [copy_openT, copy_allS, copy_truths]
theorem copy_ends (f : Tr → Int) (t : Ti) (is : Bool) : endsT f (copyT t) is = endsT f t is := by unfold endsT; rw [copy_nums]
theorem copy_many (t : Ti) : manyT (copyT t) = manyT t := by unfold manyT; rw [copy_openT, copy_allS, copy_truths]
theorem copy_cert (t : Ti) (c : Cl) : certT (copyT t) c = certT t c := by unfold certT; rw [copy_openT, copy_allS, copy_truths]
theorem copy_realE (t : Ti) (s : Int) : realE (copyT t) s = realE t s := by unfold realE; rw [copy_check, copy_openT]
theorem copy_realL (t : Ti) (s : Int) : realL (copyT t) s = realL t s := by unfold realL; rw [copy_realE, copy_nums]
theorem copy_dec (t : Ti) (c : Cl) : decSets (copyT t) c = decSets t c := by
  unfold decSets
  have e1 : (copyT t).ts = t.ts.map copyY := rfl
  rw [e1, List.length_map]
  congr 1
  funext s
  unfold cdB
  rw [copy_truths]
theorem copy_decE (t : Ti) (c : Cl) : decE (copyT t) c = decE t c := by unfold decE; rw [copy_openT, copy_dec]
theorem copy_few (t : Ti) (c : Cl) : fewestT (copyT t) c = fewestT t c := by unfold fewestT; rw [copy_decE, copy_dec]
theorem copy_listS (t : Ti) (s : Nat) : listS (copyT t) s = listS t s := by
  unfold listS
  have e1 : (copyT t).ts = t.ts.map copyY := rfl
  rw [e1, List.length_map]
theorem copy_need (t : Ti) (c : Cl) : neededT (copyT t) c = neededT t c := by unfold neededT; rw [copy_decE, copy_dec, copy_allS, copy_listS]
theorem copy_decide (t : Ti) (c : Cl) : decideT (copyT t) c = decideT t c := by unfold decideT; rw [copy_decE, copy_dec, copy_listS]
theorem copy_len {t : Ti} (h : TiLen t) : TiLen (copyT t) := by
  have e1 : (copyT t).ts = t.ts.map copyY := rfl
  refine ⟨by rw [e1, List.length_map]; exact h.ts, fun y hy => ?_⟩
  rw [e1] at hy
  obtain ⟨z, hz, rfl⟩ := List.mem_map.1 hy
  exact h.l z hz

theorem realL_len (t : Ti) (s : Int) : (realL t s).length ≤ 9001 := by
  unfold realL
  split
  · exact fixTo_len _ _
  · simp

theorem law5 (t : Ti) (a : Int) : Pure Tryz.prog 5 [encTi t, encI a] (.bool true) := by
  obtain ⟨f, hF, hf⟩ := far8 t
  refine pure_of (fn := Tryz.f5) [.tmp 4] ⟨Tryz.func5, rfl, by kernel_rfl⟩ (by kernel_rfl) (by kernel_rfl) (by kernel_rfl) fun x hx hσ => ?_
  (repeat refine awp_seq ?_); refine awp_reg1 (by rw [hx]; kernel_rfl) fun K hK => ?_; simp (maxSteps := 1000000) [ty28]; refine hK _ ?_; clear hK K; (first | show AWP _ _ _ _ _ | show ∃ _, _ | skip)
  (repeat refine awp_seq ?_); refine awp_reg1 (by rw [hx]; kernel_rfl) fun K hK => ?_; simp (maxSteps := 1000000) [ty28]
  refine callP (hF) (by first | (simp; done) | (simp [*]; done)) ?_; simp (maxSteps := 1000000) [ty4]
  refine hK _ ?_; clear hK K; (first | show AWP _ _ _ _ _ | show ∃ _, _ | skip)
  cases f
  · have hn := (hf rfl).len
    have hm := copy_len hn
    have c29 := check29 (copyT t) hm
    rw [copy_check] at c29
    have c31 := many31 (copyT t) hm
    rw [copy_many, copy_openT] at c31
    have c22 := gains22 (copyT t) hm
    rw [copy_nums, copy_openT] at c22
    have c23 := skews23 (copyT t) hm
    rw [copy_nums, copy_openT] at c23
    have c24 := errs24 (copyT t) a hm
    rw [copy_ends, copy_openT] at c24
    have g1 := numsT_len Tr.area t true
    have g2 := numsT_len Tr.skew t true
    have c10 := q_copy10 t hn
    have c18 := l_same18 t hn
    obtain ⟨o, ho⟩ : ∃ o, o = copyT t := ⟨_, rfl⟩
    rw [← ho] at *
    have s1 := same29 (numsT Tr.area t true).isEmpty (numsT Tr.area t true).isEmpty (numsT Tr.area t true).isEmpty false (numsT Tr.area t true) (numsT Tr.area t true) (by omega) (by omega)
    have s2 := same29 (numsT Tr.skew t true).isEmpty (numsT Tr.skew t true).isEmpty (numsT Tr.skew t true).isEmpty (openT t true != 0) (numsT Tr.skew t true) (numsT Tr.skew t true) (by omega) (by omega)
    simp only [decide_true] at s1 s2
    have he2 : ∀ p : Int × Int, eqInts [.i64, .i64] [.int .i64 p.1, .int .i64 p.2] [.int .i64 p.1, .int .i64 p.2] = some true := fun p => by simp [eqInts]
    (repeat refine awp_seq ?_); refine awp_cond (by simp; rfl) (by rw [hx]; simp) (fun hd => ?_) (fun hd => ?_)
    · simp at hd
    · clear hd
      refine awp_skip ?_; (first | show AWP _ _ _ _ _ | show ∃ _, _ | skip)
      (repeat refine awp_seq ?_); refine awp_reg1 (by rw [hx]; kernel_rfl) fun K hK => ?_; simp (maxSteps := 1000000) [ty28]
      refine callP (c10) (by first | (simp; done) | (simp [*]; done)) ?_; simp (maxSteps := 1000000) [ty28]
      refine hK _ ?_; clear hK K; (first | show AWP _ _ _ _ _ | show ∃ _, _ | skip)
      (repeat refine awp_seq ?_); refine awp_drw3 [] [0, 1, 2, 3, 4] (by rw [hx]; kernel_rfl) (by kernel_rfl) (by kernel_rfl) (by kernel_rfl) fun K hK => ?_; simp (maxSteps := 1000000) [ty28]
      refine callPD (c29) (by first | (simp; done) | (simp [*]; done)) (by simp) ?_; simp (maxSteps := 1000000) [ty28]
      refine callPD (q_check30 t hn) (by first | (simp; done) | (simp [*]; done)) (by simp) ?_; simp (maxSteps := 1000000) [ty36]
      refine hK _ ?_; clear hK K; (first | show AWP _ _ _ _ _ | show ∃ _, _ | skip)
      (repeat refine awp_seq ?_); refine awp_cond (by simp; rfl) (by rw [hx]; simp) (fun hd => ?_) (fun hd => ?_)
      · simp at hd
      · clear hd
        refine awp_skip ?_; (first | show AWP _ _ _ _ _ | show ∃ _, _ | skip)
        (repeat refine awp_seq ?_); refine awp_reg1 (by rw [hx]; kernel_rfl) fun K hK => ?_; simp (maxSteps := 1000000) [ty28]
        refine callP (c31) (by first | (simp; done) | (simp [*]; done)) ?_; simp (maxSteps := 1000000) [ty28]
        refine hK _ ?_; clear hK K; (first | show AWP _ _ _ _ _ | show ∃ _, _ | skip)
        (repeat refine awp_seq ?_); refine awp_reg1 (by rw [hx]; kernel_rfl) fun K hK => ?_; simp (maxSteps := 1000000) [ty28]
        refine callP (q_many32 t hn) (by first | (simp; done) | (simp [*]; done)) ?_; simp (maxSteps := 1000000) [ty28]
        refine hK _ ?_; clear hK K; (first | show AWP _ _ _ _ _ | show ∃ _, _ | skip)
        (repeat refine awp_seq ?_); refine awp_reg1 (by rw [hx]; kernel_rfl) fun K hK => ?_; simp (maxSteps := 1000000) [ty28]
        refine callP (c22) (by first | (simp; done) | (simp [*]; done)) ?_; simp (maxSteps := 1000000) [ty28, ty41]
        refine hK _ ?_; clear hK K; (first | show AWP _ _ _ _ _ | show ∃ _, _ | skip)
        (repeat refine awp_seq ?_); refine awp_reg1 (by rw [hx]; kernel_rfl) fun K hK => ?_; simp (maxSteps := 1000000) [ty28]
        refine callP (q_gains33 t hn) (by first | (simp; done) | (simp [*]; done)) ?_; simp (maxSteps := 1000000) [ty28, ty41]
        refine hK _ ?_; clear hK K; (first | show AWP _ _ _ _ _ | show ∃ _, _ | skip)
        (repeat refine awp_seq ?_); refine awp_reg1 (by rw [hx]; kernel_rfl) fun K hK => ?_; simp (maxSteps := 1000000) [ty28]
        refine callP (c23) (by first | (simp; done) | (simp [*]; done)) ?_; simp (maxSteps := 1000000) [ty28, ty41]
        refine hK _ ?_; clear hK K; (first | show AWP _ _ _ _ _ | show ∃ _, _ | skip)
        (repeat refine awp_seq ?_); refine awp_reg1 (by rw [hx]; kernel_rfl) fun K hK => ?_; simp (maxSteps := 1000000) [ty28]
        refine callP (q_skews34 t hn) (by first | (simp; done) | (simp [*]; done)) ?_; simp (maxSteps := 1000000) [ty28, ty41]
        refine hK _ ?_; clear hK K; (first | show AWP _ _ _ _ _ | show ∃ _, _ | skip)
        (repeat refine awp_seq ?_); refine awp_reg1 (by rw [hx]; kernel_rfl) fun K hK => ?_; simp (maxSteps := 1000000) [ty28]
        refine callP (c24) (by first | (simp; done) | (simp [*]; done)) ?_; simp (maxSteps := 1000000) [ty28, ty23]
        refine hK _ ?_; clear hK K; (first | show AWP _ _ _ _ _ | show ∃ _, _ | skip)
        (repeat refine awp_seq ?_); refine awp_reg1 (by rw [hx]; kernel_rfl) fun K hK => ?_; simp (maxSteps := 1000000) [ty28]
        refine callP (q_errs35 t a hn) (by first | (simp; done) | (simp [*]; done)) ?_; simp (maxSteps := 1000000) [ty28, ty23]
        refine hK _ ?_; clear hK K; (first | show AWP _ _ _ _ _ | show ∃ _, _ | skip)
        (repeat refine awp_seq ?_); refine awp_reg1 (by rw [hx]; kernel_rfl) fun K hK => ?_; simp (maxSteps := 1000000) [ty36, ty41, ty3, ty4, ty23, ty28]
        refine callP (s1) (by first | (simp; done) | (simp [*]; done)) ?_; simp (maxSteps := 1000000) [ty36, ty41, ty3, ty4, ty23, ty28]
        refine callP (s2) (by first | (simp; done) | (simp [*]; done)) ?_; simp (maxSteps := 1000000) [ty36, ty41, ty3, ty4, ty23, ty28, fe23, he2]
        refine callP (c18) (by first | (simp; done) | (simp [*]; done)) ?_; simp (maxSteps := 1000000) [ty36, ty41, ty3, ty4, ty23, ty28]
        refine callP (works9) (by first | (simp; done) | (simp [*]; done)) ?_; simp (maxSteps := 1000000) [ty36, ty41, ty3, ty4, ty23, ty28]
        refine hK _ ?_; clear hK K; (first | show AWP _ _ _ _ _ | show ∃ _, _ | skip)
        (repeat refine awp_seq ?_); refine awp_ret ?_; refine And.intro (Or.inr rfl) ?_
        simp [retC, resC, viewC, mapO]
  · (repeat refine awp_seq ?_); refine awp_cond (by simp; rfl) (by rw [hx]; simp) (fun hd => ?_) (fun hd => ?_)
    · (repeat refine awp_seq ?_); refine awp_reg1 (by rw [hx]; kernel_rfl) fun K hK => ?_; simp (maxSteps := 1000000) []
      refine callP (works9) (by first | (simp; done) | (simp [*]; done)) ?_; simp (maxSteps := 1000000) []
      refine hK _ ?_; clear hK K; (first | show AWP _ _ _ _ _ | show ∃ _, _ | skip)
      (repeat refine awp_seq ?_); refine awp_ret ?_; refine And.intro (Or.inr rfl) ?_
      simp [retC, resC, viewC, mapO]
    · simp at hd

end Go.Proofs.YtbhbmnofmoibhaaGreat

namespace Go.Proofs.YtbhbmnofmoibhaaGreat
open Go Go.Abs

set_option maxHeartbeats 8000000

theorem len_bd {lo : Int} {N : Nat} : ∀ {l : List Int}, l.Pairwise (· < ·) → (∀ z ∈ l, lo ≤ z ∧ z < lo + N) → l.length ≤ N
  | [], _, _ => by simp
  | z :: l, h, hb => by
    rw [List.pairwise_cons] at h
    have hz := hb z (by simp)
    obtain ⟨M, hM⟩ : ∃ M : Nat, (M : Int) = lo + N - (z + 1) := ⟨(lo + N - (z + 1)).toNat, by omega⟩
    have ih := len_bd (lo := z + 1) (N := M) h.2 fun y hy => by
      have h1 := h.1 y hy
      have h2 := (hb y (by simp [hy])).2
      omega
    simp only [List.length_cons]
    omega

theorem kindsL_lt (f : Tr → Int) (L : List Tr) : (kindsL f L).Pairwise (· < ·) := by
  have h1 := kindsL_sorted f L
  have h2 := kindsL_nodup f L
  refine (h1.and h2).imp ?_
  rintro a b ⟨h3, h4⟩
  have : a ≠ b := h4
  omega

theorem gains_len (t : Ti) : (numsT Tr.area t true).length ≤ 101 := by
  by_cases h : openT t true = 0
  · have hok := (openT_ok h).1
    rw [(numsT_ok h).1]
    refine len_bd (lo := -50) (kindsL_lt _ _) fun z hz => ?_
    obtain ⟨k, hk, rfl⟩ := (kindsL_mem _ _ _).1 hz
    have := (every_k hok (List.mem_filter.1 hk).1).1
    omega
  · rw [numsT_zero h]; simp
theorem skews_len' (t : Ti) : (numsT Tr.skew t true).length ≤ 41 := by
  by_cases h : openT t true = 0
  · have hok := (openT_ok h).1
    have hs := hok.num.skew
    rw [(numsT_ok h).1]
    refine len_bd (lo := -20) (kindsL_lt _ _) fun z hz => ?_
    obtain ⟨k, hk, rfl⟩ := (kindsL_mem _ _ _).1 hz
    have := allT_mem.1 (List.mem_filter.1 hk).1
    have e3 : (gwT t).skew = t.w.skew := rfl
    rw [e3] at this
    omega
  · rw [numsT_zero h]; simp

theorem ends_mem {f : Tr → Int} {t : Ti} {is : Bool} (h : openT t is = 0) {k : Tr} (hk : k ∈ truthsS t (allS t)) : (endsT f t is).1 ≤ f k ∧ f k ≤ (endsT f t is).2 := by
  have h0 : 0 < (truthsS t (allS t)).length := List.length_pos_of_mem hk
  rw [ends_mnmx h h0]
  exact ⟨(mnT_spec f _ _).2.1 k hk, (mxT_spec f _ _).2.1 k hk⟩

theorem seenA_pos {a g : Int} (ha : 0 ≤ a ∧ a ≤ 9000) (hg : -50 ≤ g ∧ g ≤ 50) : 0 ≤ seenA a g ∧ seenA a g ≤ 9999 := by
  have h1 : a * (-50) ≤ a * g := Int.mul_le_mul_of_nonneg_left hg.1 ha.1
  have h2 := (seenA_bd ha hg).2
  refine ⟨?_, by omega⟩
  unfold seenA
  generalize a * g = n at *
  omega

theorem isTrB_mem {t : Ti} {k : Tr} (h : isTrB t k = true) : k ∈ truthsS t (allS t) := by
  have hk : k ∈ allT (gwT t) := by
    unfold isTrB at h
    simp only [Bool.and_eq_true] at h
    have h1 : -t.gain ≤ k.area ∧ k.area ≤ t.gain := by simpa [withinB] using h.1.1
    have h2 : -t.w.skew ≤ k.skew ∧ k.skew ≤ t.w.skew := by simpa [withinB] using h.1.2
    exact allT_mem.2 ⟨h1, h2⟩
  rw [← truths_filter]
  exact List.mem_filter.2 ⟨hk, h⟩

theorem openT_of {t : Ti} (hz : checkT t = 0) {k : Tr} (hk : k ∈ truthsS t (allS t)) : openT t true = 0 := by
  have : truthsS t (allS t) ≠ [] := List.ne_nil_of_mem hk
  unfold openT
  rw [if_neg (by simpa using hz), if_neg (by decide), if_neg this]

theorem cert_good {t : Ti} {c : Cl} (ho : openT t (classB c) = 0) {k : Tr} (hk : k ∈ truthsS t (allS t)) :
    ((certT t c = 1 ∧ beyB c k = false) ∨ (certT t c = 2 ∧ beyB c k = true) ∨ certT t c = 3) := by
  have e : certT t c = certL (truthsS t (allS t)) c := if_pos ho
  rw [e]
  unfold certL
  split
  · rename_i h
    rw [List.countP_eq_zero] at h
    exact .inl ⟨rfl, by simpa using h k hk⟩
  · split
    · rename_i h
      rw [List.countP_eq_zero] at h
      exact .inr (.inl ⟨rfl, by simpa using h k hk⟩)
    · exact .inr (.inr rfl)


theorem law4 (t : Ti) (k : Tr) (a : Int) (c : Cl) : Pure Tryz.prog 4 [encTi t, .agg [encI k.area, encI k.skew, encI a], encCl c] (.bool true) := by
  obtain ⟨f, hF, hf⟩ := ready19 t
  refine pure_of (fn := Tryz.f4) [.tmp 6] ⟨Tryz.func4, rfl, by kernel_rfl⟩ (by kernel_rfl) (by kernel_rfl) (by kernel_rfl) fun x hx hσ => ?_
  (repeat refine awp_seq ?_); refine awp_reg1 (by rw [hx]; kernel_rfl) fun K hK => ?_; simp (maxSteps := 1000000) [ty28, ty50, ty30]; refine hK _ ?_; clear hK K; (first | show AWP _ _ _ _ _ | show ∃ _, _ | skip)
  cases f
  · (repeat refine awp_seq ?_); refine awp_reg1 (by rw [hx]; kernel_rfl) fun K hK => ?_; simp (maxSteps := 1000000) [ty28]
    refine callP (hF) (by first | (simp; done) | (simp [*]; done)) ?_; simp (maxSteps := 1000000) [ty4]
    refine hK _ ?_; clear hK K; (first | show AWP _ _ _ _ _ | show ∃ _, _ | skip)
    (repeat refine awp_seq ?_); refine awp_cond (by simp; rfl) (by rw [hx]; simp) (fun hd => ?_) (fun hd => ?_)
    · clear hd
      (repeat refine awp_seq ?_); refine awp_reg1 (by rw [hx]; kernel_rfl) fun K hK => ?_; simp (maxSteps := 1000000) []
      refine callP (works9) (by first | (simp; done) | (simp [*]; done)) ?_; simp (maxSteps := 1000000) []
      refine hK _ ?_; clear hK K; (first | show AWP _ _ _ _ _ | show ∃ _, _ | skip)
      (repeat refine awp_seq ?_); refine awp_ret ?_; refine And.intro (Or.inr rfl) ?_
      simp [retC, resC, viewC, mapO]
    · simp at hd
  · obtain ⟨hz, hnear⟩ := hf rfl
    have hn := hnear.len
    have hok := checkT_ok.1 hz
    by_cases ha0 : a < 0
    · (repeat refine awp_seq ?_); refine awp_reg1 (by rw [hx]; kernel_rfl) fun K hK => ?_; simp (maxSteps := 1000000) [ty28]
      refine callP (hF) (by first | (simp; done) | (simp [*]; done)) ?_; simp (maxSteps := 1000000) [ty4, ty50, ty3, ha0]
      refine hK _ ?_; clear hK K; (first | show AWP _ _ _ _ _ | show ∃ _, _ | skip)
      (repeat refine awp_seq ?_); refine awp_cond (by simp [ha0]; rfl) (by rw [hx]; simp) (fun hd => ?_) (fun hd => ?_)
      · clear hd
        (repeat refine awp_seq ?_); refine awp_reg1 (by rw [hx]; kernel_rfl) fun K hK => ?_; simp (maxSteps := 1000000) []
        refine callP (works9) (by first | (simp; done) | (simp [*]; done)) ?_; simp (maxSteps := 1000000) []
        refine hK _ ?_; clear hK K; (first | show AWP _ _ _ _ _ | show ∃ _, _ | skip)
        (repeat refine awp_seq ?_); refine awp_ret ?_; refine And.intro (Or.inr rfl) ?_
        simp [retC, resC, viewC, mapO]
      · simp [ha0] at hd
    by_cases ha1 : 9000 < a
    · (repeat refine awp_seq ?_); refine awp_reg1 (by rw [hx]; kernel_rfl) fun K hK => ?_; simp (maxSteps := 1000000) [ty28]
      refine callP (hF) (by first | (simp; done) | (simp [*]; done)) ?_; simp (maxSteps := 1000000) [ty4, ty50, ty3, ha0, ha1]
      refine hK _ ?_; clear hK K; (first | show AWP _ _ _ _ _ | show ∃ _, _ | skip)
      (repeat refine awp_seq ?_); refine awp_cond (by simp [ha1]; rfl) (by rw [hx]; simp) (fun hd => ?_) (fun hd => ?_)
      · clear hd
        (repeat refine awp_seq ?_); refine awp_reg1 (by rw [hx]; kernel_rfl) fun K hK => ?_; simp (maxSteps := 1000000) []
        refine callP (works9) (by first | (simp; done) | (simp [*]; done)) ?_; simp (maxSteps := 1000000) []
        refine hK _ ?_; clear hK K; (first | show AWP _ _ _ _ _ | show ∃ _, _ | skip)
        (repeat refine awp_seq ?_); refine awp_ret ?_; refine And.intro (Or.inr rfl) ?_
        simp [retC, resC, viewC, mapO]
      · simp [ha1] at hd
    cases hc : classB c
    · (repeat refine awp_seq ?_); refine awp_reg1 (by rw [hx]; kernel_rfl) fun K hK => ?_; simp (maxSteps := 1000000) [ty28]
      refine callP (hF) (by first | (simp; done) | (simp [*]; done)) ?_; simp (maxSteps := 1000000) [ty4, ty50, ty3, ty30, ha0, ha1]
      refine callP (q_isClass20 c) (by first | (simp; done) | (simp [*]; done)) ?_; simp (maxSteps := 1000000) [ty4, hc]
      refine hK _ ?_; clear hK K; (first | show AWP _ _ _ _ _ | show ∃ _, _ | skip)
      (repeat refine awp_seq ?_); refine awp_cond (by simp [hc]; rfl) (by rw [hx]; simp) (fun hd => ?_) (fun hd => ?_)
      · clear hd
        (repeat refine awp_seq ?_); refine awp_reg1 (by rw [hx]; kernel_rfl) fun K hK => ?_; simp (maxSteps := 1000000) []
        refine callP (works9) (by first | (simp; done) | (simp [*]; done)) ?_; simp (maxSteps := 1000000) []
        refine hK _ ?_; clear hK K; (first | show AWP _ _ _ _ _ | show ∃ _, _ | skip)
        (repeat refine awp_seq ?_); refine awp_ret ?_; refine And.intro (Or.inr rfl) ?_
        simp [retC, resC, viewC, mapO]
      · simp [hc] at hd
    cases hk : isTrB t k
    · (repeat refine awp_seq ?_); refine awp_reg1 (by rw [hx]; kernel_rfl) fun K hK => ?_; simp (maxSteps := 1000000) [ty28]
      refine callP (hF) (by first | (simp; done) | (simp [*]; done)) ?_; simp (maxSteps := 1000000) [ty4, ty50, ty3, ty30, ha0, ha1]
      refine callP (q_isClass20 c) (by first | (simp; done) | (simp [*]; done)) ?_; simp (maxSteps := 1000000) [ty4, ty28, ty50, ty48, hc]
      refine callP (q_isTruth21 t k hok hn) (by first | (simp; done) | (simp [*]; done)) ?_; simp (maxSteps := 1000000) [ty4, hk]
      refine hK _ ?_; clear hK K; (first | show AWP _ _ _ _ _ | show ∃ _, _ | skip)
      (repeat refine awp_seq ?_); refine awp_cond (by simp [hk]; rfl) (by rw [hx]; simp) (fun hd => ?_) (fun hd => ?_)
      · clear hd
        (repeat refine awp_seq ?_); refine awp_reg1 (by rw [hx]; kernel_rfl) fun K hK => ?_; simp (maxSteps := 1000000) []
        refine callP (works9) (by first | (simp; done) | (simp [*]; done)) ?_; simp (maxSteps := 1000000) []
        refine hK _ ?_; clear hK K; (first | show AWP _ _ _ _ _ | show ∃ _, _ | skip)
        (repeat refine awp_seq ?_); refine awp_ret ?_; refine And.intro (Or.inr rfl) ?_
        simp [retC, resC, viewC, mapO]
      · simp [hk] at hd
    have hkm := isTrB_mem hk
    have hka := (List.mem_filter.1 hkm).1
    have hkb := every_k hok hka
    have har : 0 ≤ a ∧ a ≤ 9000 := by omega
    have harB : areaB a = true := areaB_iff.2 har
    have ho := openT_of hz hkm
    have hoA : openT t (areaB a) = 0 := by rw [harB]; exact ho
    have hoC : openT t (classB c) = 0 := by rw [hc]; exact ho
    have hcs := (classB_ok hc).1
    have c22 := gains22 t hn
    rw [ho] at c22
    have c23 := skews23 t hn
    rw [ho] at c23
    have c24 := errs24 t a hn
    rw [hoA] at c24
    have c13 := seen13 t a hn
    rw [hoA] at c13
    have c25 := q_seen25 a k.area har hkb.1
    have hsp := seenA_pos har hkb.1
    have hcnt : countB (seenA a k.area) = true := by simp [countB, hsp]
    have hre : realE t (seenA a k.area) = 0 := by unfold realE; rw [if_neg (by simpa using hz), if_neg (by rw [hcnt]; decide)]; exact ho
    have c15 := real15 t (seenA a k.area) hn
    rw [hre] at c15
    have c11 := certify11 t c hn
    rw [hoC] at c11
    have l1 := gains_len t
    have l2 := skews_len' t
    have l3 := realL_len t (seenA a k.area)
    have m1 : k.area ∈ numsT Tr.area t true := by rw [(numsT_ok ho).1, kindsL_mem]; exact ⟨k, hkm, rfl⟩
    have m2 : k.skew ∈ numsT Tr.skew t true := by rw [(numsT_ok ho).1, kindsL_mem]; exact ⟨k, hkm, rfl⟩
    have m3 : a ∈ realL t (seenA a k.area) := by
      unfold realL
      rw [if_pos hre, fixTo_mem]
      refine ⟨a.toNat, by omega, ?_, by omega⟩
      rw [List.any_eq_true]
      refine ⟨k.area, m1, ?_⟩
      rw [show ((a.toNat : Nat) : Int) = a by omega]
      simp
    have e1 := ends_mem (f := fun k => errI k a) hoA hkm
    have e2 := ends_mem (f := fun k => seenA a k.area) hoA hkm
    have h26a := in41 (numsT Tr.area t true).isEmpty (numsT Tr.area t true).isEmpty (numsT Tr.area t true) k.area (by omega)
    rw [decide_eq_true m1] at h26a
    have h26b := in41 (numsT Tr.skew t true).isEmpty (numsT Tr.skew t true).isEmpty (numsT Tr.skew t true) k.skew (by omega)
    rw [decide_eq_true m2] at h26b
    have h26c := in41 (realL t (seenA a k.area)).isEmpty ((0 : Int) != 0) (realL t (seenA a k.area)) a (by omega)
    rw [decide_eq_true m3] at h26c
    have h27a := l_holds27 (endsT (fun k => errI k a) t (areaB a)) (errI k a)
    rw [decide_eq_true e1.1, decide_eq_true e1.2] at h27a
    have h27b := l_holds27 (endsT (fun k => seenA a k.area) t (areaB a)) (seenA a k.area)
    rw [decide_eq_true e2.1, decide_eq_true e2.2] at h27b
    have h28 := q_error28 k a har hkb.1 hkb.2
    have h28c := q_error28 k c.size hcs hkb.1 hkb.2
    have hcg := cert_good hoC hkm
    have n1 : ¬ (200 : Int) < ((numsT Tr.area t true).length : Int) := by omega
    have n2 : ¬ (200 : Int) < ((numsT Tr.skew t true).length : Int) := by omega
    have n3 : ¬ (10000 : Int) < ((realL t (seenA a k.area)).length : Int) := by omega
    have hbey : beyB c k = !(decide (errI k c.size ≤ c.most)) := by
      unfold beyB
      by_cases h : errI k c.size ≤ c.most
      · simp [h]
      · simp [h]; omega
    (repeat refine awp_seq ?_); refine awp_reg1 (by rw [hx]; kernel_rfl) fun K hK => ?_; simp (maxSteps := 1000000) [ty28]
    refine callP (hF) (by first | (simp; done) | (simp [*]; done)) ?_; simp (maxSteps := 1000000) [ty4, ty50, ty3, ty30, ha0, ha1]
    refine callP (q_isClass20 c) (by first | (simp; done) | (simp [*]; done)) ?_; simp (maxSteps := 1000000) [ty4, ty28, ty50, ty48, hc]
    refine callP (q_isTruth21 t k hok hn) (by first | (simp; done) | (simp [*]; done)) ?_; simp (maxSteps := 1000000) [ty4, hk]
    refine hK _ ?_; clear hK K; (first | show AWP _ _ _ _ _ | show ∃ _, _ | skip)
    (repeat refine awp_seq ?_); refine awp_cond (by simp [hk]; rfl) (by rw [hx]; simp) (fun hd => ?_) (fun hd => ?_)
    · simp [hk] at hd
    · clear hd
      refine awp_skip ?_; (first | show AWP _ _ _ _ _ | show ∃ _, _ | skip)
      (repeat refine awp_seq ?_); refine awp_reg1 (by rw [hx]; kernel_rfl) fun K hK => ?_; simp (maxSteps := 1000000) [ty28]
      refine callP (c22) (by first | (simp; done) | (simp [*]; done)) ?_; simp (maxSteps := 1000000) [ty41]
      refine hK _ ?_; clear hK K; (first | show AWP _ _ _ _ _ | show ∃ _, _ | skip)
      (repeat refine awp_seq ?_); refine awp_reg1 (by rw [hx]; kernel_rfl) fun K hK => ?_; simp (maxSteps := 1000000) [ty28]
      refine callP (c23) (by first | (simp; done) | (simp [*]; done)) ?_; simp (maxSteps := 1000000) [ty41]
      refine hK _ ?_; clear hK K; (first | show AWP _ _ _ _ _ | show ∃ _, _ | skip)
      (repeat refine awp_seq ?_); refine awp_reg1 (by rw [hx]; kernel_rfl) fun K hK => ?_; simp (maxSteps := 1000000) [ty28, ty50, ty3]
      refine callP (c24) (by first | (simp; done) | (simp [*]; done)) ?_; simp (maxSteps := 1000000) [ty23]
      refine hK _ ?_; clear hK K; (first | show AWP _ _ _ _ _ | show ∃ _, _ | skip)
      (repeat refine awp_seq ?_); refine awp_reg1 (by rw [hx]; kernel_rfl) fun K hK => ?_; simp (maxSteps := 1000000) [ty28, ty50, ty3]
      refine callP (c13) (by first | (simp; done) | (simp [*]; done)) ?_; simp (maxSteps := 1000000) [ty23]
      refine hK _ ?_; clear hK K; (first | show AWP _ _ _ _ _ | show ∃ _, _ | skip)
      (repeat refine awp_seq ?_); refine awp_reg1 (by rw [hx]; kernel_rfl) fun K hK => ?_; simp (maxSteps := 1000000) [ty50, ty48, ty3]
      refine callP (c25) (by first | (simp; done) | (simp [*]; done)) ?_; simp (maxSteps := 1000000) []
      refine hK _ ?_; clear hK K; (first | show AWP _ _ _ _ _ | show ∃ _, _ | skip)
      (repeat refine awp_seq ?_); refine awp_reg1 (by rw [hx]; kernel_rfl) fun K hK => ?_; simp (maxSteps := 1000000) [ty28]
      refine callP (c15) (by first | (simp; done) | (simp [*]; done)) ?_; simp (maxSteps := 1000000) [ty41]
      refine hK _ ?_; clear hK K; (first | show AWP _ _ _ _ _ | show ∃ _, _ | skip)
      (repeat refine awp_seq ?_); refine awp_reg1 (by rw [hx]; kernel_rfl) fun K hK => ?_; simp (maxSteps := 1000000) [ty28, ty30]
      refine callP (c11) (by first | (simp; done) | (simp [*]; done)) ?_; simp (maxSteps := 1000000) []
      refine hK _ ?_; clear hK K; (first | show AWP _ _ _ _ _ | show ∃ _, _ | skip)
      (repeat refine awp_seq ?_); refine awp_reg1 (by rw [hx]; kernel_rfl) fun K hK => ?_; simp (maxSteps := 1000000) [ty36, ty41, ty3, n1, n2, n3]; refine hK _ ?_; clear hK K; (first | show AWP _ _ _ _ _ | show ∃ _, _ | skip)
      (repeat refine awp_seq ?_); refine awp_cond (by simp [n3]; rfl) (by rw [hx]; simp) (fun hd => ?_) (fun hd => ?_)
      · simp [n3] at hd
      · clear hd
        refine awp_skip ?_; (first | show AWP _ _ _ _ _ | show ∃ _, _ | skip)
        (repeat refine awp_seq ?_); refine awp_drw3 [] [0, 1, 2, 3, 4, 5, 6, 7, 8, 9, 10, 11, 12, 13, 14, 15, 16, 17, 18, 19, 20, 21, 22, 23, 24, 25, 26, 27, 28, 29, 30, 31, 32, 33, 34, 35, 36] (by rw [hx]; kernel_rfl) (by kernel_rfl) (by kernel_rfl) (by kernel_rfl) fun K hK => ?_; simp (maxSteps := 1000000) [ty41, ty50, ty48, ty3, ty4]
        refine callPD (h26a) (by first | (simp; done) | (simp [*]; done)) (by simp) ?_; simp (maxSteps := 1000000) [ty41, ty50, ty48, ty3, ty4]
        refine callPD (h26b) (by first | (simp; done) | (simp [*]; done)) (by simp) ?_; simp (maxSteps := 1000000) [ty41, ty50, ty48, ty3, ty4, ty23]
        refine callPD (h28) (by first | (simp; done) | (simp [*]; done)) (by simp) ?_; simp (maxSteps := 1000000) [ty41, ty50, ty48, ty3, ty4, ty23]
        refine callPD (h27a) (by first | (simp; done) | (simp [*]; done)) (by simp) ?_; simp (maxSteps := 1000000) [ty41, ty50, ty48, ty3, ty4, ty23]
        refine callPD (h27b) (by first | (simp; done) | (simp [*]; done)) (by simp) ?_; simp (maxSteps := 1000000) [ty41, ty50, ty48, ty3, ty4, ty23]
        refine callPD (h26c) (by first | (simp; done) | (simp [*]; done)) (by simp) ?_; simp (maxSteps := 1000000) [ty4]
        refine hK _ ?_; clear hK K; (first | show AWP _ _ _ _ _ | show ∃ _, _ | skip)
        (repeat refine awp_seq ?_); refine awp_cond (by simp; rfl) (by rw [hx]; simp) (fun hd => ?_) (fun hd => ?_)
        · simp at hd
        · clear hd
          refine awp_skip ?_; (first | show AWP _ _ _ _ _ | show ∃ _, _ | skip)
          (repeat refine awp_seq ?_); refine awp_drw3 [] [0, 1, 2, 3, 4, 5, 6, 7, 8] (by rw [hx]; kernel_rfl) (by kernel_rfl) (by kernel_rfl) (by kernel_rfl) fun K hK => ?_; simp (maxSteps := 1000000) [ty50, ty48, ty30, ty3]
          refine callPD (h28c) (by first | (simp; done) | (simp [*]; done)) (by simp) ?_; simp (maxSteps := 1000000) [ty30, ty3]
          refine hK _ ?_; clear hK K; (first | show AWP _ _ _ _ _ | show ∃ _, _ | skip)
          rcases hcg with ⟨g1, g2⟩ | ⟨g1, g2⟩ | g1
          · rw [hbey] at g2
            simp at g2
            rw [g1]
            (repeat refine awp_seq ?_); refine awp_reg1 (by rw [hx]; kernel_rfl) fun K hK => ?_; simp (maxSteps := 1000000) [ty3, ty4, g2]
            refine callP (works9) (by first | (simp; done) | (simp [*]; done)) ?_; simp (maxSteps := 1000000) []
            refine hK _ ?_; clear hK K; (first | show AWP _ _ _ _ _ | show ∃ _, _ | skip)
            (repeat refine awp_seq ?_); refine awp_ret ?_; refine And.intro (Or.inr rfl) ?_
            simp [retC, resC, viewC, mapO]
          · rw [hbey] at g2
            simp at g2
            have g2' : ¬ errI k c.size ≤ c.most := by omega
            rw [g1]
            (repeat refine awp_seq ?_); refine awp_reg1 (by rw [hx]; kernel_rfl) fun K hK => ?_; simp (maxSteps := 1000000) [ty3, ty4, g2']
            refine callP (works9) (by first | (simp; done) | (simp [*]; done)) ?_; simp (maxSteps := 1000000) []
            refine hK _ ?_; clear hK K; (first | show AWP _ _ _ _ _ | show ∃ _, _ | skip)
            (repeat refine awp_seq ?_); refine awp_ret ?_; refine And.intro (Or.inr rfl) ?_
            simp [retC, resC, viewC, mapO]
          · rw [g1]
            (repeat refine awp_seq ?_); refine awp_reg1 (by rw [hx]; kernel_rfl) fun K hK => ?_; simp (maxSteps := 1000000) [ty3, ty4]
            refine callP (works9) (by first | (simp; done) | (simp [*]; done)) ?_; simp (maxSteps := 1000000) []
            refine hK _ ?_; clear hK K; (first | show AWP _ _ _ _ _ | show ∃ _, _ | skip)
            (repeat refine awp_seq ?_); refine awp_ret ?_; refine And.intro (Or.inr rfl) ?_
            simp [retC, resC, viewC, mapO]

end Go.Proofs.YtbhbmnofmoibhaaGreat

namespace Go.Proofs.YtbhbmnofmoibhaaGreat
open Go Go.Abs
open Go.ChangeShapes Go.WideShapes Go.ChangeAt Go.RowKit

set_option maxRecDepth 100000 in
theorem trialsTrue_lifted (os : Os) (started : os.Started) (H : Type) (enc : TypeId × Value → H) :
    ReturnsInHanded {} Tryz.checked os 4 .any (Rows.trialsTrueSpec.pre6 enc Tryz.prog Tryz.f4 Rows.trialsTrueRow.domain false) (Rows.trialsTrueSpec.post enc Tryz.prog Tryz.f4 false true false false) := by
  refine returnsInHanded_of_change (C := Tryz.checked) J.own started (by kernel_rfl) Tryz.func4
    (ChangeSpec.witness6 (enc := enc) (C := Tryz.checked) false ⟨#[], #[.agg #[.int .i64 0, .int .i64 0, .int .i64 0, .int .i64 0, .int .i64 0, .int .i64 0, .int .i64 0, .int .i64 0, .int .i64 0, .slice none 0 0], .agg #[.int .i64 0, .int .i64 0, .int .i64 0], .agg #[.int .i64 0, .int .i64 0]], []⟩ 8 (by kernel_rfl) (by kernel_rfl) (by kernel_rfl) (by kernel_rfl)) ?_
  intro W base args ds gs before hval hW _ _
  refine law_contract (P := Tryz.prog) (tb := 4) (by kernel_rfl) J.ub rfl (fun ds hl => ?_) J.laid J.maps J.sized (by kernel_rfl) (by kernel_rfl) (fun cargs hc => ?_) W base args ds gs before hval hW
  · have h2 : ds.length = 3 := hl
    match ds, h2 with
    | [_, _, _], _ => rfl
  · rw [Tryz.params4] at hc
    obtain ⟨t, r, rfl, hc1⟩ := arg28 hc
    obtain ⟨k, a, r', rfl, hc2⟩ := arg50 hc1
    obtain ⟨c, r'', rfl, hc3⟩ := arg30 hc2
    obtain rfl := arg_end hc3
    exact law4 t k a c

theorem trialsTrue_holds : Rows.TrialsTrueSaid :=
  OpenClaim.holds_of_wide 4 Tryz.f4 rfl rfl rfl rfl rfl rfl rfl ⟨rfl, rfl, rfl, rfl, rfl⟩ rfl rfl rfl rfl rfl (by kernel_rfl) Tryz.func4 (by kernel_rfl)
    (of_decide_eq_true (by kernel_rfl)) (by unfold Func.isWrapper; first | (rw [if_pos (by decide +kernel)]; kernel_rfl) | (rw [if_neg (by decide +kernel)]; exact ⟨rfl, rfl⟩))
    (fun os started H enc _ => trialsTrue_lifted os started H enc)
#print axioms trialsTrue_holds
end Go.Proofs.YtbhbmnofmoibhaaGreat

