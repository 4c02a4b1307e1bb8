/- For every input the law TrialsMore returns true, and each argument reads afterwards as it read before. No condition. -/
import Derived.Test.YtbhbmnofmoibhaaGreatB5

set_option linter.unusedSimpArgs false
set_option linter.unusedVariables false
set_option linter.constructorNameAsVariable false

namespace Go.Proofs.YtbhbmnofmoibhaaGreat
open Go Go.Abs

set_option maxHeartbeats 8000000

theorem l_subset37 (a1 a2 b1 b2 : Bool) (A B : List Int) (hn : A.length ≤ 1000000) (hm : B.length ≤ 1000000) (hs : ∀ a ∈ A, a ∈ B) (hl : A.length ≤ B.length) : Pure Tryz.prog 37 [.sl a1 a2 (A.map cI), .sl b1 b2 (B.map cI)] (.bool true) := by
  refine pure_of (fn := Tryz.f37) [.tmp 4] ⟨Tryz.func37, rfl, by kernel_rfl⟩ (by kernel_rfl) (by kernel_rfl) (by kernel_rfl) fun x hx hσ => ?_
  (repeat refine awp_seq ?_); refine awp_reg1 (by rw [hx]; kernel_rfl) fun K hK => ?_; simp (maxSteps := 1000000) []; refine hK _ ?_; clear hK K; (first | show AWP _ _ _ _ _ | show ∃ _, _ | skip)
  (repeat refine awp_seq ?_); refine awp_reg1 (by rw [hx]; kernel_rfl) fun K hK => ?_; simp (maxSteps := 1000000) []; refine hK _ ?_; clear hK K; (first | show AWP _ _ _ _ _ | show ∃ _, _ | skip)
  (repeat refine awp_seq ?_); refine awp_block ?_
  refine awp_loop (fun i : Nat => ⟨ofL [(0, .sl a1 a2 (A.map cI)), (1, .sl b1 b2 (B.map cI)), (5, encI i)], stoT []⟩)
    (fun i => i ≤ A.length) (fun i => A.length - i) 0 (Nat.zero_le _) ?_ ?_
  · refine wk_shape (shp0 hσ (by simp) (by simp) ?_) ?_
    · simp [SlotOk] <;> (repeat' (first | exact .same (by simp [purel, C.isPure]) | exact .cons (by simp [mtl, mtc, mT, mH, C.isPure, purel]) (by simp) .nil | refine And.intro ?_ ?_))
    · simp [mtc, mtl, mT, C.isPure, purel] <;> (try simp (disch := omega) [wrap_id]) <;> (try omega)
  · rintro i hi
    (repeat refine awp_seq ?_); refine awp_reg1 (by rw [hx]; kernel_rfl) fun K hK => ?_; simp (maxSteps := 1000000) [ty41, ty3]; refine hK _ ?_; clear hK K; (first | show AWP _ _ _ _ _ | show ∃ _, _ | skip)
    (repeat refine awp_seq ?_); refine awp_cond (by simp; rfl) (by rw [hx]; simp) (fun hc => ?_) (fun hc => ?_)
    · simp at hc
      refine awp_skip ?_; (first | show AWP _ _ _ _ _ | show ∃ _, _ | skip)
      (repeat refine awp_seq ?_); refine awp_block ?_
      (repeat refine awp_seq ?_); refine awp_reg1 (by rw [hx]; kernel_rfl) fun K hK => ?_; simp (maxSteps := 1000000) [ty41, ty3, hc]
      have h41 := in41 b1 b2 B A[i] hm
      rw [decide_eq_true (hs _ (List.getElem_mem hc))] at h41
      refine callP (h41) (by first | (simp; done) | (simp [*]; done)) ?_; simp (maxSteps := 1000000) [ty4]
      refine hK _ ?_; clear hK K; (first | show AWP _ _ _ _ _ | show ∃ _, _ | skip)
      (repeat refine awp_seq ?_); refine awp_cond (by simp; rfl) (by rw [hx]; simp) (fun hd => ?_) (fun hd => ?_)
      · simp at hd
      · clear hd
        refine awp_skip ?_; (first | show AWP _ _ _ _ _ | show ∃ _, _ | skip)
        (repeat refine awp_seq ?_); refine awp_reg1 (by rw [hx]; kernel_rfl) fun K hK => ?_; simp (maxSteps := 1000000) [ty3]; refine hK _ ?_; clear hK K; (first | show AWP _ _ _ _ _ | show ∃ _, _ | skip)
        rw [wrap_id (by omega) (by omega)]
        refine ⟨i + 1, by omega, by omega, ?_⟩
        refine wk_shape (shp0 hσ (by simp) (by simp) ?_) ?_
        · simp [SlotOk] <;> (repeat' (first | exact .same (by simp [purel, C.isPure]) | exact .cons (by simp [mtl, mtc, mT, mH, C.isPure, purel]) (by simp) .nil | refine And.intro ?_ ?_))
        · simp [mtc, mtl, mT, C.isPure, purel] <;> (try simp (disch := omega) [wrap_id]) <;> (try omega)
    · simp at hc
      (repeat refine awp_seq ?_); refine awp_exit ?_; (first | show AWP _ _ _ _ _ | show ∃ _, _ | skip)
      (repeat refine awp_seq ?_); refine awp_reg1 (by rw [hx]; kernel_rfl) fun K hK => ?_; simp (maxSteps := 1000000) [ty41, ty3, hl]; refine hK _ ?_; clear hK K; (first | show AWP _ _ _ _ _ | show ∃ _, _ | skip)
      (repeat refine awp_seq ?_); refine awp_ret ?_; refine And.intro (Or.inr rfl) ?_
      simp [retC, resC, viewC, mapO, hl]

-- the copy is answered the same

theorem checksI_copy (w : Wh) : ∀ l : List Ts, checksI w (l.map copyY) = checksI w l
  | [] => rfl
  | y :: l => by
    have ih := checksI_copy w l
    simp only [List.map_cons, checksI, ih]
    rfl
theorem copy_check (t : Ti) : checkT (copyT t) = checkT t := by
  unfold checkT
  have e1 : (copyT t).ts = t.ts.map copyY := rfl
  have e2 : (copyT t).w = t.w := rfl
  have e3 : (copyT t).gain = t.gain := rfl
  rw [e1, e2, e3, List.length_map, List.all_map, checksI_copy]
  have e4 : ((fun x : Ts => areaB x.area) ∘ copyY) = fun x => areaB x.area := rfl
  have e5 : (t.ts.map copyY = []) = (t.ts = []) := by simp
  simp only [e4, e5]
theorem copy_okS (t : Ti) (n : Nat) (k : Tr) : okS (copyT t) n k = okS t n k := by
  unfold okS
  have e1 : (copyT t).ts = t.ts.map copyY := rfl
  rw [e1, List.length_map]
  congr 1
  funext i
  rw [List.getElem?_map]
  cases t.ts[i]? <;> rfl
theorem copy_truths (t : Ti) (n : Nat) : truthsS (copyT t) n = truthsS t n := by
  unfold truthsS
  have : okS (copyT t) n = okS t n := by funext k; exact copy_okS t n k
  rw [this]
  rfl
theorem copy_allS (t : Ti) : allS (copyT t) = allS t := by
  unfold allS
  have e1 : (copyT t).ts = t.ts.map copyY := rfl
  rw [e1, List.length_map]
theorem copy_openT (t : Ti) (is : Bool) : openT (copyT t) is = openT t is := by unfold openT; rw [copy_check, copy_allS, copy_truths]
theorem copy_nums (f : Tr → Int) (t : Ti) (is : Bool) : numsT f (copyT t) is = numsT f t is := by unfold numsT; rw [copy_openT, copy_allS, copy_truths]
theorem copy_ends (f : Tr → Int) (t : Ti) (is : Bool) : endsT f (copyT t) is = endsT f t is := by unfold endsT; rw [copy_nums]
theorem copy_many (t : Ti) : manyT (copyT t) = manyT t := by unfold manyT; rw [copy_openT, copy_allS, copy_truths]
theorem copy_cert (t : Ti) (c : Cl) : certT (copyT t) c = certT t c := by unfold certT; rw [copy_openT, copy_allS, copy_truths]
theorem copy_realE (t : Ti) (s : Int) : realE (copyT t) s = realE t s := by unfold realE; rw [copy_check, copy_openT]
theorem copy_realL (t : Ti) (s : Int) : realL (copyT t) s = realL t s := by unfold realL; rw [copy_realE, copy_nums]
theorem copy_dec (t : Ti) (c : Cl) : decSets (copyT t) c = decSets t c := by
  unfold decSets
  have e1 : (copyT t).ts = t.ts.map copyY := rfl
  rw [e1, List.length_map]
  congr 1
  funext s
  unfold cdB
  rw [copy_truths]
theorem copy_decE (t : Ti) (c : Cl) : decE (copyT t) c = decE t c := by unfold decE; rw [copy_openT, copy_dec]
theorem copy_few (t : Ti) (c : Cl) : fewestT (copyT t) c = fewestT t c := by unfold fewestT; rw [copy_decE, copy_dec]
theorem copy_listS (t : Ti) (s : Nat) : listS (copyT t) s = listS t s := by
  unfold listS
  have e1 : (copyT t).ts = t.ts.map copyY := rfl
  rw [e1, List.length_map]
theorem copy_need (t : Ti) (c : Cl) : neededT (copyT t) c = neededT t c := by unfold neededT; rw [copy_decE, copy_dec, copy_allS, copy_listS]
theorem copy_decide (t : Ti) (c : Cl) : decideT (copyT t) c = decideT t c := by unfold decideT; rw [copy_decE, copy_dec, copy_listS]
theorem copy_len {t : Ti} (h : TiLen t) : TiLen (copyT t) := by
  have e1 : (copyT t).ts = t.ts.map copyY := rfl
  refine ⟨by rw [e1, List.length_map]; exact h.ts, fun y hy => ?_⟩
  rw [e1] at hy
  obtain ⟨z, hz, rfl⟩ := List.mem_map.1 hy
  exact h.l z hz

theorem realL_len (t : Ti) (s : Int) : (realL t s).length ≤ 9001 := by
  unfold realL
  split
  · exact fixTo_len _ _
  · simp

theorem law5 (t : Ti) (a : Int) : Pure Tryz.prog 5 [encTi t, encI a] (.bool true) := by
  obtain ⟨f, hF, hf⟩ := far8 t
  refine pure_of (fn := Tryz.f5) [.tmp 4] ⟨Tryz.func5, rfl, by kernel_rfl⟩ (by kernel_rfl) (by kernel_rfl) (by kernel_rfl) fun x hx hσ => ?_
  (repeat refine awp_seq ?_); refine awp_reg1 (by rw [hx]; kernel_rfl) fun K hK => ?_; simp (maxSteps := 1000000) [ty28]; refine hK _ ?_; clear hK K; (first | show AWP _ _ _ _ _ | show ∃ _, _ | skip)
  (repeat refine awp_seq ?_); refine awp_reg1 (by rw [hx]; kernel_rfl) fun K hK => ?_; simp (maxSteps := 1000000) [ty28]
  refine callP (hF) (by first | (simp; done) | (simp [*]; done)) ?_; simp (maxSteps := 1000000) [ty4]
  refine hK _ ?_; clear hK K; (first | show AWP _ _ _ _ _ | show ∃ _, _ | skip)
  cases f
  · have hn := (hf rfl).len
    have hm := copy_len hn
    have c29 := check29 (copyT t) hm
    rw [copy_check] at c29
    have c31 := many31 (copyT t) hm
    rw [copy_many, copy_openT] at c31
    have c22 := gains22 (copyT t) hm
    rw [copy_nums, copy_openT] at c22
    have c23 := skews23 (copyT t) hm
    rw [copy_nums, copy_openT] at c23
    have c24 := errs24 (copyT t) a hm
    rw [copy_ends, copy_openT] at c24
    have g1 := numsT_len Tr.area t true
    have g2 := numsT_len Tr.skew t true
    have c10 := q_copy10 t hn
    have c18 := l_same18 t hn
    obtain ⟨o, ho⟩ : ∃ o, o = copyT t := ⟨_, rfl⟩
    rw [← ho] at *
    have s1 := same29 (numsT Tr.area t true).isEmpty (numsT Tr.area t true).isEmpty (numsT Tr.area t true).isEmpty false (numsT Tr.area t true) (numsT Tr.area t true) (by omega) (by omega)
    have s2 := same29 (numsT Tr.skew t true).isEmpty (numsT Tr.skew t true).isEmpty (numsT Tr.skew t true).isEmpty (openT t true != 0) (numsT Tr.skew t true) (numsT Tr.skew t true) (by omega) (by omega)
    simp only [decide_true] at s1 s2
    have he2 : ∀ p : Int × Int, eqInts [.i64, .i64] [.int .i64 p.1, .int .i64 p.2] [.int .i64 p.1, .int .i64 p.2] = some true := fun p => by simp [eqInts]
    (repeat refine awp_seq ?_); refine awp_cond (by simp; rfl) (by rw [hx]; simp) (fun hd => ?_) (fun hd => ?_)
    · simp at hd
    · clear hd
      refine awp_skip ?_; (first | show AWP _ _ _ _ _ | show ∃ _, _ | skip)
      (repeat refine awp_seq ?_); refine awp_reg1 (by rw [hx]; kernel_rfl) fun K hK => ?_; simp (maxSteps := 1000000) [ty28]
      refine callP (c10) (by first | (simp; done) | (simp [*]; done)) ?_; simp (maxSteps := 1000000) [ty28]
      refine hK _ ?_; clear hK K; (first | show AWP _ _ _ _ _ | show ∃ _, _ | skip)
      (repeat refine awp_seq ?_); refine awp_drw3 [] [0, 1, 2, 3, 4] (by rw [hx]; kernel_rfl) (by kernel_rfl) (by kernel_rfl) (by kernel_rfl) fun K hK => ?_; simp (maxSteps := 1000000) [ty28]
      refine callPD (c29) (by first | (simp; done) | (simp [*]; done)) (by simp) ?_; simp (maxSteps := 1000000) [ty28]
      refine callPD (q_check30 t hn) (by first | (simp; done) | (simp [*]; done)) (by simp) ?_; simp (maxSteps := 1000000) [ty36]
      refine hK _ ?_; clear hK K; (first | show AWP _ _ _ _ _ | show ∃ _, _ | skip)
      (repeat refine awp_seq ?_); refine awp_cond (by simp; rfl) (by rw [hx]; simp) (fun hd => ?_) (fun hd => ?_)
      · simp at hd
      · clear hd
        refine awp_skip ?_; (first | show AWP _ _ _ _ _ | show ∃ _, _ | skip)
        (repeat refine awp_seq ?_); refine awp_reg1 (by rw [hx]; kernel_rfl) fun K hK => ?_; simp (maxSteps := 1000000) [ty28]
        refine callP (c31) (by first | (simp; done) | (simp [*]; done)) ?_; simp (maxSteps := 1000000) [ty28]
        refine hK _ ?_; clear hK K; (first | show AWP _ _ _ _ _ | show ∃ _, _ | skip)
        (repeat refine awp_seq ?_); refine awp_reg1 (by rw [hx]; kernel_rfl) fun K hK => ?_; simp (maxSteps := 1000000) [ty28]
        refine callP (q_many32 t hn) (by first | (simp; done) | (simp [*]; done)) ?_; simp (maxSteps := 1000000) [ty28]
        refine hK _ ?_; clear hK K; (first | show AWP _ _ _ _ _ | show ∃ _, _ | skip)
        (repeat refine awp_seq ?_); refine awp_reg1 (by rw [hx]; kernel_rfl) fun K hK => ?_; simp (maxSteps := 1000000) [ty28]
        refine callP (c22) (by first | (simp; done) | (simp [*]; done)) ?_; simp (maxSteps := 1000000) [ty28, ty41]
        refine hK _ ?_; clear hK K; (first | show AWP _ _ _ _ _ | show ∃ _, _ | skip)
        (repeat refine awp_seq ?_); refine awp_reg1 (by rw [hx]; kernel_rfl) fun K hK => ?_; simp (maxSteps := 1000000) [ty28]
        refine callP (q_gains33 t hn) (by first | (simp; done) | (simp [*]; done)) ?_; simp (maxSteps := 1000000) [ty28, ty41]
        refine hK _ ?_; clear hK K; (first | show AWP _ _ _ _ _ | show ∃ _, _ | skip)
        (repeat refine awp_seq ?_); refine awp_reg1 (by rw [hx]; kernel_rfl) fun K hK => ?_; simp (maxSteps := 1000000) [ty28]
        refine callP (c23) (by first | (simp; done) | (simp [*]; done)) ?_; simp (maxSteps := 1000000) [ty28, ty41]
        refine hK _ ?_; clear hK K; (first | show AWP _ _ _ _ _ | show ∃ _, _ | skip)
        (repeat refine awp_seq ?_); refine awp_reg1 (by rw [hx]; kernel_rfl) fun K hK => ?_; simp (maxSteps := 1000000) [ty28]
        refine callP (q_skews34 t hn) (by first | (simp; done) | (simp [*]; done)) ?_; simp (maxSteps := 1000000) [ty28, ty41]
        refine hK _ ?_; clear hK K; (first | show AWP _ _ _ _ _ | show ∃ _, _ | skip)
        (repeat refine awp_seq ?_); refine awp_reg1 (by rw [hx]; kernel_rfl) fun K hK => ?_; simp (maxSteps := 1000000) [ty28]
        refine callP (c24) (by first | (simp; done) | (simp [*]; done)) ?_; simp (maxSteps := 1000000) [ty28, ty23]
        refine hK _ ?_; clear hK K; (first | show AWP _ _ _ _ _ | show ∃ _, _ | skip)
        (repeat refine awp_seq ?_); refine awp_reg1 (by rw [hx]; kernel_rfl) fun K hK => ?_; simp (maxSteps := 1000000) [ty28]
        refine callP (q_errs35 t a hn) (by first | (simp; done) | (simp [*]; done)) ?_; simp (maxSteps := 1000000) [ty28, ty23]
        refine hK _ ?_; clear hK K; (first | show AWP _ _ _ _ _ | show ∃ _, _ | skip)
        (repeat refine awp_seq ?_); refine awp_reg1 (by rw [hx]; kernel_rfl) fun K hK => ?_; simp (maxSteps := 1000000) [ty36, ty41, ty3, ty4, ty23, ty28]
        refine callP (s1) (by first | (simp; done) | (simp [*]; done)) ?_; simp (maxSteps := 1000000) [ty36, ty41, ty3, ty4, ty23, ty28]
        refine callP (s2) (by first | (simp; done) | (simp [*]; done)) ?_; simp (maxSteps := 1000000) [ty36, ty41, ty3, ty4, ty23, ty28, fe23, he2]
        refine callP (c18) (by first | (simp; done) | (simp [*]; done)) ?_; simp (maxSteps := 1000000) [ty36, ty41, ty3, ty4, ty23, ty28]
        refine callP (works9) (by first | (simp; done) | (simp [*]; done)) ?_; simp (maxSteps := 1000000) [ty36, ty41, ty3, ty4, ty23, ty28]
        refine hK _ ?_; clear hK K; (first | show AWP _ _ _ _ _ | show ∃ _, _ | skip)
        (repeat refine awp_seq ?_); refine awp_ret ?_; refine And.intro (Or.inr rfl) ?_
        simp [retC, resC, viewC, mapO]
  · (repeat refine awp_seq ?_); refine awp_cond (by simp; rfl) (by rw [hx]; simp) (fun hd => ?_) (fun hd => ?_)
    · (repeat refine awp_seq ?_); refine awp_reg1 (by rw [hx]; kernel_rfl) fun K hK => ?_; simp (maxSteps := 1000000) []
      refine callP (works9) (by first | (simp; done) | (simp [*]; done)) ?_; simp (maxSteps := 1000000) []
      refine hK _ ?_; clear hK K; (first | show AWP _ _ _ _ _ | show ∃ _, _ | skip)
      (repeat refine awp_seq ?_); refine awp_ret ?_; refine And.intro (Or.inr rfl) ?_
      simp [retC, resC, viewC, mapO]
    · simp at hd

end Go.Proofs.YtbhbmnofmoibhaaGreat

namespace Go.Proofs.YtbhbmnofmoibhaaGreat
open Go Go.Abs

set_option maxHeartbeats 8000000

theorem len_bd {lo : Int} {N : Nat} : ∀ {l : List Int}, l.Pairwise (· < ·) → (∀ z ∈ l, lo ≤ z ∧ z < lo + N) → l.length ≤ N
  | [], _, _ => by simp
  | z :: l, h, hb => by
    rw [List.pairwise_cons] at h
    have hz := hb z (by simp)
    obtain ⟨M, hM⟩ : ∃ M : Nat, (M : Int) = lo + N - (z + 1) := ⟨(lo + N - (z + 1)).toNat, by omega⟩
    have ih := len_bd (lo := z + 1) (N := M) h.2 fun y hy => by
      have h1 := h.1 y hy
      have h2 := (hb y (by simp [hy])).2
      omega
    simp only [List.length_cons]
    omega

theorem kindsL_lt (f : Tr → Int) (L : List Tr) : (kindsL f L).Pairwise (· < ·) := by
  have h1 := kindsL_sorted f L
  have h2 := kindsL_nodup f L
  refine (h1.and h2).imp ?_
  rintro a b ⟨h3, h4⟩
  have : a ≠ b := h4
  omega

theorem gains_len (t : Ti) : (numsT Tr.area t true).length ≤ 101 := by
  by_cases h : openT t true = 0
  · have hok := (openT_ok h).1
    rw [(numsT_ok h).1]
    refine len_bd (lo := -50) (kindsL_lt _ _) fun z hz => ?_
    obtain ⟨k, hk, rfl⟩ := (kindsL_mem _ _ _).1 hz
    have := (every_k hok (List.mem_filter.1 hk).1).1
    omega
  · rw [numsT_zero h]; simp
theorem skews_len' (t : Ti) : (numsT Tr.skew t true).length ≤ 41 := by
  by_cases h : openT t true = 0
  · have hok := (openT_ok h).1
    have hs := hok.num.skew
    rw [(numsT_ok h).1]
    refine len_bd (lo := -20) (kindsL_lt _ _) fun z hz => ?_
    obtain ⟨k, hk, rfl⟩ := (kindsL_mem _ _ _).1 hz
    have := allT_mem.1 (List.mem_filter.1 hk).1
    have e3 : (gwT t).skew = t.w.skew := rfl
    rw [e3] at this
    omega
  · rw [numsT_zero h]; simp

theorem ends_mem {f : Tr → Int} {t : Ti} {is : Bool} (h : openT t is = 0) {k : Tr} (hk : k ∈ truthsS t (allS t)) : (endsT f t is).1 ≤ f k ∧ f k ≤ (endsT f t is).2 := by
  have h0 : 0 < (truthsS t (allS t)).length := List.length_pos_of_mem hk
  rw [ends_mnmx h h0]
  exact ⟨(mnT_spec f _ _).2.1 k hk, (mxT_spec f _ _).2.1 k hk⟩

theorem seenA_pos {a g : Int} (ha : 0 ≤ a ∧ a ≤ 9000) (hg : -50 ≤ g ∧ g ≤ 50) : 0 ≤ seenA a g ∧ seenA a g ≤ 9999 := by
  have h1 : a * (-50) ≤ a * g := Int.mul_le_mul_of_nonneg_left hg.1 ha.1
  have h2 := (seenA_bd ha hg).2
  refine ⟨?_, by omega⟩
  unfold seenA
  generalize a * g = n at *
  omega

theorem isTrB_mem {t : Ti} {k : Tr} (h : isTrB t k = true) : k ∈ truthsS t (allS t) := by
  have hk : k ∈ allT (gwT t) := by
    unfold isTrB at h
    simp only [Bool.and_eq_true] at h
    have h1 : -t.gain ≤ k.area ∧ k.area ≤ t.gain := by simpa [withinB] using h.1.1
    have h2 : -t.w.skew ≤ k.skew ∧ k.skew ≤ t.w.skew := by simpa [withinB] using h.1.2
    exact allT_mem.2 ⟨h1, h2⟩
  rw [← truths_filter]
  exact List.mem_filter.2 ⟨hk, h⟩

theorem openT_of {t : Ti} (hz : checkT t = 0) {k : Tr} (hk : k ∈ truthsS t (allS t)) : openT t true = 0 := by
  have : truthsS t (allS t) ≠ [] := List.ne_nil_of_mem hk
  unfold openT
  rw [if_neg (by simpa using hz), if_neg (by decide), if_neg this]

theorem cert_good {t : Ti} {c : Cl} (ho : openT t (classB c) = 0) {k : Tr} (hk : k ∈ truthsS t (allS t)) :
    ((certT t c = 1 ∧ beyB c k = false) ∨ (certT t c = 2 ∧ beyB c k = true) ∨ certT t c = 3) := by
  have e : certT t c = certL (truthsS t (allS t)) c := if_pos ho
  rw [e]
  unfold certL
  split
  · rename_i h
    rw [List.countP_eq_zero] at h
    exact .inl ⟨rfl, by simpa using h k hk⟩
  · split
    · rename_i h
      rw [List.countP_eq_zero] at h
      exact .inr (.inl ⟨rfl, by simpa using h k hk⟩)
    · exact .inr (.inr rfl)


theorem law4 (t : Ti) (k : Tr) (a : Int) (c : Cl) : Pure Tryz.prog 4 [encTi t, .agg [encI k.area, encI k.skew, encI a], encCl c] (.bool true) := by
  obtain ⟨f, hF, hf⟩ := ready19 t
  refine pure_of (fn := Tryz.f4) [.tmp 6] ⟨Tryz.func4, rfl, by kernel_rfl⟩ (by kernel_rfl) (by kernel_rfl) (by kernel_rfl) fun x hx hσ => ?_
  (repeat refine awp_seq ?_); refine awp_reg1 (by rw [hx]; kernel_rfl) fun K hK => ?_; simp (maxSteps := 1000000) [ty28, ty50, ty30]; refine hK _ ?_; clear hK K; (first | show AWP _ _ _ _ _ | show ∃ _, _ | skip)
  cases f
  · (repeat refine awp_seq ?_); refine awp_reg1 (by rw [hx]; kernel_rfl) fun K hK => ?_; simp (maxSteps := 1000000) [ty28]
    refine callP (hF) (by first | (simp; done) | (simp [*]; done)) ?_; simp (maxSteps := 1000000) [ty4]
    refine hK _ ?_; clear hK K; (first | show AWP _ _ _ _ _ | show ∃ _, _ | skip)
    (repeat refine awp_seq ?_); refine awp_cond (by simp; rfl) (by rw [hx]; simp) (fun hd => ?_) (fun hd => ?_)
    · clear hd
      (repeat refine awp_seq ?_); refine awp_reg1 (by rw [hx]; kernel_rfl) fun K hK => ?_; simp (maxSteps := 1000000) []
      refine callP (works9) (by first | (simp; done) | (simp [*]; done)) ?_; simp (maxSteps := 1000000) []
      refine hK _ ?_; clear hK K; (first | show AWP _ _ _ _ _ | show ∃ _, _ | skip)
      (repeat refine awp_seq ?_); refine awp_ret ?_; refine And.intro (Or.inr rfl) ?_
      simp [retC, resC, viewC, mapO]
    · simp at hd
  · obtain ⟨hz, hnear⟩ := hf rfl
    have hn := hnear.len
    have hok := checkT_ok.1 hz
    by_cases ha0 : a < 0
    · (repeat refine awp_seq ?_); refine awp_reg1 (by rw [hx]; kernel_rfl) fun K hK => ?_; simp (maxSteps := 1000000) [ty28]
      refine callP (hF) (by first | (simp; done) | (simp [*]; done)) ?_; simp (maxSteps := 1000000) [ty4, ty50, ty3, ha0]
      refine hK _ ?_; clear hK K; (first | show AWP _ _ _ _ _ | show ∃ _, _ | skip)
      (repeat refine awp_seq ?_); refine awp_cond (by simp [ha0]; rfl) (by rw [hx]; simp) (fun hd => ?_) (fun hd => ?_)
      · clear hd
        (repeat refine awp_seq ?_); refine awp_reg1 (by rw [hx]; kernel_rfl) fun K hK => ?_; simp (maxSteps := 1000000) []
        refine callP (works9) (by first | (simp; done) | (simp [*]; done)) ?_; simp (maxSteps := 1000000) []
        refine hK _ ?_; clear hK K; (first | show AWP _ _ _ _ _ | show ∃ _, _ | skip)
        (repeat refine awp_seq ?_); refine awp_ret ?_; refine And.intro (Or.inr rfl) ?_
        simp [retC, resC, viewC, mapO]
      · simp [ha0] at hd
    by_cases ha1 : 9000 < a
    · (repeat refine awp_seq ?_); refine awp_reg1 (by rw [hx]; kernel_rfl) fun K hK => ?_; simp (maxSteps := 1000000) [ty28]
      refine callP (hF) (by first | (simp; done) | (simp [*]; done)) ?_; simp (maxSteps := 1000000) [ty4, ty50, ty3, ha0, ha1]
      refine hK _ ?_; clear hK K; (first | show AWP _ _ _ _ _ | show ∃ _, _ | skip)
      (repeat refine awp_seq ?_); refine awp_cond (by simp [ha1]; rfl) (by rw [hx]; simp) (fun hd => ?_) (fun hd => ?_)
      · clear hd
        (repeat refine awp_seq ?_); refine awp_reg1 (by rw [hx]; kernel_rfl) fun K hK => ?_; simp (maxSteps := 1000000) []
        refine callP (works9) (by first | (simp; done) | (simp [*]; done)) ?_; simp (maxSteps := 1000000) []
        refine hK _ ?_; clear hK K; (first | show AWP _ _ _ _ _ | show ∃ _, _ | skip)
        (repeat refine awp_seq ?_); refine awp_ret ?_; refine And.intro (Or.inr rfl) ?_
        simp [retC, resC, viewC, mapO]
      · simp [ha1] at hd
    cases hc : classB c
    · (repeat refine awp_seq ?_); refine awp_reg1 (by rw [hx]; kernel_rfl) fun K hK => ?_; simp (maxSteps := 1000000) [ty28]
      refine callP (hF) (by first | (simp; done) | (simp [*]; done)) ?_; simp (maxSteps := 1000000) [ty4, ty50, ty3, ty30, ha0, ha1]
      refine callP (q_isClass20 c) (by first | (simp; done) | (simp [*]; done)) ?_; simp (maxSteps := 1000000) [ty4, hc]
      refine hK _ ?_; clear hK K; (first | show AWP _ _ _ _ _ | show ∃ _, _ | skip)
      (repeat refine awp_seq ?_); refine awp_cond (by simp [hc]; rfl) (by rw [hx]; simp) (fun hd => ?_) (fun hd => ?_)
      · clear hd
        (repeat refine awp_seq ?_); refine awp_reg1 (by rw [hx]; kernel_rfl) fun K hK => ?_; simp (maxSteps := 1000000) []
        refine callP (works9) (by first | (simp; done) | (simp [*]; done)) ?_; simp (maxSteps := 1000000) []
        refine hK _ ?_; clear hK K; (first | show AWP _ _ _ _ _ | show ∃ _, _ | skip)
        (repeat refine awp_seq ?_); refine awp_ret ?_; refine And.intro (Or.inr rfl) ?_
        simp [retC, resC, viewC, mapO]
      · simp [hc] at hd
    cases hk : isTrB t k
    · (repeat refine awp_seq ?_); refine awp_reg1 (by rw [hx]; kernel_rfl) fun K hK => ?_; simp (maxSteps := 1000000) [ty28]
      refine callP (hF) (by first | (simp; done) | (simp [*]; done)) ?_; simp (maxSteps := 1000000) [ty4, ty50, ty3, ty30, ha0, ha1]
      refine callP (q_isClass20 c) (by first | (simp; done) | (simp [*]; done)) ?_; simp (maxSteps := 1000000) [ty4, ty28, ty50, ty48, hc]
      refine callP (q_isTruth21 t k hok hn) (by first | (simp; done) | (simp [*]; done)) ?_; simp (maxSteps := 1000000) [ty4, hk]
      refine hK _ ?_; clear hK K; (first | show AWP _ _ _ _ _ | show ∃ _, _ | skip)
      (repeat refine awp_seq ?_); refine awp_cond (by simp [hk]; rfl) (by rw [hx]; simp) (fun hd => ?_) (fun hd => ?_)
      · clear hd
        (repeat refine awp_seq ?_); refine awp_reg1 (by rw [hx]; kernel_rfl) fun K hK => ?_; simp (maxSteps := 1000000) []
        refine callP (works9) (by first | (simp; done) | (simp [*]; done)) ?_; simp (maxSteps := 1000000) []
        refine hK _ ?_; clear hK K; (first | show AWP _ _ _ _ _ | show ∃ _, _ | skip)
        (repeat refine awp_seq ?_); refine awp_ret ?_; refine And.intro (Or.inr rfl) ?_
        simp [retC, resC, viewC, mapO]
      · simp [hk] at hd
    have hkm := isTrB_mem hk
    have hka := (List.mem_filter.1 hkm).1
    have hkb := every_k hok hka
    have har : 0 ≤ a ∧ a ≤ 9000 := by omega
    have harB : areaB a = true := areaB_iff.2 har
    have ho := openT_of hz hkm
    have hoA : openT t (areaB a) = 0 := by rw [harB]; exact ho
    have hoC : openT t (classB c) = 0 := by rw [hc]; exact ho
    have hcs := (classB_ok hc).1
    have c22 := gains22 t hn
    rw [ho] at c22
    have c23 := skews23 t hn
    rw [ho] at c23
    have c24 := errs24 t a hn
    rw [hoA] at c24
    have c13 := seen13 t a hn
    rw [hoA] at c13
    have c25 := q_seen25 a k.area har hkb.1
    have hsp := seenA_pos har hkb.1
    have hcnt : countB (seenA a k.area) = true := by simp [countB, hsp]
    have hre : realE t (seenA a k.area) = 0 := by unfold realE; rw [if_neg (by simpa using hz), if_neg (by rw [hcnt]; decide)]; exact ho
    have c15 := real15 t (seenA a k.area) hn
    rw [hre] at c15
    have c11 := certify11 t c hn
    rw [hoC] at c11
    have l1 := gains_len t
    have l2 := skews_len' t
    have l3 := realL_len t (seenA a k.area)
    have m1 : k.area ∈ numsT Tr.area t true := by rw [(numsT_ok ho).1, kindsL_mem]; exact ⟨k, hkm, rfl⟩
    have m2 : k.skew ∈ numsT Tr.skew t true := by rw [(numsT_ok ho).1, kindsL_mem]; exact ⟨k, hkm, rfl⟩
    have m3 : a ∈ realL t (seenA a k.area) := by
      unfold realL
      rw [if_pos hre, fixTo_mem]
      refine ⟨a.toNat, by omega, ?_, by omega⟩
      rw [List.any_eq_true]
      refine ⟨k.area, m1, ?_⟩
      rw [show ((a.toNat : Nat) : Int) = a by omega]
      simp
    have e1 := ends_mem (f := fun k => errI k a) hoA hkm
    have e2 := ends_mem (f := fun k => seenA a k.area) hoA hkm
    have h26a := in41 (numsT Tr.area t true).isEmpty (numsT Tr.area t true).isEmpty (numsT Tr.area t true) k.area (by omega)
    rw [decide_eq_true m1] at h26a
    have h26b := in41 (numsT Tr.skew t true).isEmpty (numsT Tr.skew t true).isEmpty (numsT Tr.skew t true) k.skew (by omega)
    rw [decide_eq_true m2] at h26b
    have h26c := in41 (realL t (seenA a k.area)).isEmpty ((0 : Int) != 0) (realL t (seenA a k.area)) a (by omega)
    rw [decide_eq_true m3] at h26c
    have h27a := l_holds27 (endsT (fun k => errI k a) t (areaB a)) (errI k a)
    rw [decide_eq_true e1.1, decide_eq_true e1.2] at h27a
    have h27b := l_holds27 (endsT (fun k => seenA a k.area) t (areaB a)) (seenA a k.area)
    rw [decide_eq_true e2.1, decide_eq_true e2.2] at h27b
    have h28 := q_error28 k a har hkb.1 hkb.2
    have h28c := q_error28 k c.size hcs hkb.1 hkb.2
    have hcg := cert_good hoC hkm
    have n1 : ¬ (200 : Int) < ((numsT Tr.area t true).length : Int) := by omega
    have n2 : ¬ (200 : Int) < ((numsT Tr.skew t true).length : Int) := by omega
    have n3 : ¬ (10000 : Int) < ((realL t (seenA a k.area)).length : Int) := by omega
    have hbey : beyB c k = !(decide (errI k c.size ≤ c.most)) := by
      unfold beyB
      by_cases h : errI k c.size ≤ c.most
      · simp [h]
      · simp [h]; omega
    (repeat refine awp_seq ?_); refine awp_reg1 (by rw [hx]; kernel_rfl) fun K hK => ?_; simp (maxSteps := 1000000) [ty28]
    refine callP (hF) (by first | (simp; done) | (simp [*]; done)) ?_; simp (maxSteps := 1000000) [ty4, ty50, ty3, ty30, ha0, ha1]
    refine callP (q_isClass20 c) (by first | (simp; done) | (simp [*]; done)) ?_; simp (maxSteps := 1000000) [ty4, ty28, ty50, ty48, hc]
    refine callP (q_isTruth21 t k hok hn) (by first | (simp; done) | (simp [*]; done)) ?_; simp (maxSteps := 1000000) [ty4, hk]
    refine hK _ ?_; clear hK K; (first | show AWP _ _ _ _ _ | show ∃ _, _ | skip)
    (repeat refine awp_seq ?_); refine awp_cond (by simp [hk]; rfl) (by rw [hx]; simp) (fun hd => ?_) (fun hd => ?_)
    · simp [hk] at hd
    · clear hd
      refine awp_skip ?_; (first | show AWP _ _ _ _ _ | show ∃ _, _ | skip)
      (repeat refine awp_seq ?_); refine awp_reg1 (by rw [hx]; kernel_rfl) fun K hK => ?_; simp (maxSteps := 1000000) [ty28]
      refine callP (c22) (by first | (simp; done) | (simp [*]; done)) ?_; simp (maxSteps := 1000000) [ty41]
      refine hK _ ?_; clear hK K; (first | show AWP _ _ _ _ _ | show ∃ _, _ | skip)
      (repeat refine awp_seq ?_); refine awp_reg1 (by rw [hx]; kernel_rfl) fun K hK => ?_; simp (maxSteps := 1000000) [ty28]
      refine callP (c23) (by first | (simp; done) | (simp [*]; done)) ?_; simp (maxSteps := 1000000) [ty41]
      refine hK _ ?_; clear hK K; (first | show AWP _ _ _ _ _ | show ∃ _, _ | skip)
      (repeat refine awp_seq ?_); refine awp_reg1 (by rw [hx]; kernel_rfl) fun K hK => ?_; simp (maxSteps := 1000000) [ty28, ty50, ty3]
      refine callP (c24) (by first | (simp; done) | (simp [*]; done)) ?_; simp (maxSteps := 1000000) [ty23]
      refine hK _ ?_; clear hK K; (first | show AWP _ _ _ _ _ | show ∃ _, _ | skip)
      (repeat refine awp_seq ?_); refine awp_reg1 (by rw [hx]; kernel_rfl) fun K hK => ?_; simp (maxSteps := 1000000) [ty28, ty50, ty3]
      refine callP (c13) (by first | (simp; done) | (simp [*]; done)) ?_; simp (maxSteps := 1000000) [ty23]
      refine hK _ ?_; clear hK K; (first | show AWP _ _ _ _ _ | show ∃ _, _ | skip)
      (repeat refine awp_seq ?_); refine awp_reg1 (by rw [hx]; kernel_rfl) fun K hK => ?_; simp (maxSteps := 1000000) [ty50, ty48, ty3]
      refine callP (c25) (by first | (simp; done) | (simp [*]; done)) ?_; simp (maxSteps := 1000000) []
      refine hK _ ?_; clear hK K; (first | show AWP _ _ _ _ _ | show ∃ _, _ | skip)
      (repeat refine awp_seq ?_); refine awp_reg1 (by rw [hx]; kernel_rfl) fun K hK => ?_; simp (maxSteps := 1000000) [ty28]
      refine callP (c15) (by first | (simp; done) | (simp [*]; done)) ?_; simp (maxSteps := 1000000) [ty41]
      refine hK _ ?_; clear hK K; (first | show AWP _ _ _ _ _ | show ∃ _, _ | skip)
      (repeat refine awp_seq ?_); refine awp_reg1 (by rw [hx]; kernel_rfl) fun K hK => ?_; simp (maxSteps := 1000000) [ty28, ty30]
      refine callP (c11) (by first | (simp; done) | (simp [*]; done)) ?_; simp (maxSteps := 1000000) []
      refine hK _ ?_; clear hK K; (first | show AWP _ _ _ _ _ | show ∃ _, _ | skip)
      (repeat refine awp_seq ?_); refine awp_reg1 (by rw [hx]; kernel_rfl) fun K hK => ?_; simp (maxSteps := 1000000) [ty36, ty41, ty3, n1, n2, n3]; refine hK _ ?_; clear hK K; (first | show AWP _ _ _ _ _ | show ∃ _, _ | skip)
      (repeat refine awp_seq ?_); refine awp_cond (by simp [n3]; rfl) (by rw [hx]; simp) (fun hd => ?_) (fun hd => ?_)
      · simp [n3] at hd
      · clear hd
        refine awp_skip ?_; (first | show AWP _ _ _ _ _ | show ∃ _, _ | skip)
        (repeat refine awp_seq ?_); refine awp_drw3 [] [0, 1, 2, 3, 4, 5, 6, 7, 8, 9, 10, 11, 12, 13, 14, 15, 16, 17, 18, 19, 20, 21, 22, 23, 24, 25, 26, 27, 28, 29, 30, 31, 32, 33, 34, 35, 36] (by rw [hx]; kernel_rfl) (by kernel_rfl) (by kernel_rfl) (by kernel_rfl) fun K hK => ?_; simp (maxSteps := 1000000) [ty41, ty50, ty48, ty3, ty4]
        refine callPD (h26a) (by first | (simp; done) | (simp [*]; done)) (by simp) ?_; simp (maxSteps := 1000000) [ty41, ty50, ty48, ty3, ty4]
        refine callPD (h26b) (by first | (simp; done) | (simp [*]; done)) (by simp) ?_; simp (maxSteps := 1000000) [ty41, ty50, ty48, ty3, ty4, ty23]
        refine callPD (h28) (by first | (simp; done) | (simp [*]; done)) (by simp) ?_; simp (maxSteps := 1000000) [ty41, ty50, ty48, ty3, ty4, ty23]
        refine callPD (h27a) (by first | (simp; done) | (simp [*]; done)) (by simp) ?_; simp (maxSteps := 1000000) [ty41, ty50, ty48, ty3, ty4, ty23]
        refine callPD (h27b) (by first | (simp; done) | (simp [*]; done)) (by simp) ?_; simp (maxSteps := 1000000) [ty41, ty50, ty48, ty3, ty4, ty23]
        refine callPD (h26c) (by first | (simp; done) | (simp [*]; done)) (by simp) ?_; simp (maxSteps := 1000000) [ty4]
        refine hK _ ?_; clear hK K; (first | show AWP _ _ _ _ _ | show ∃ _, _ | skip)
        (repeat refine awp_seq ?_); refine awp_cond (by simp; rfl) (by rw [hx]; simp) (fun hd => ?_) (fun hd => ?_)
        · simp at hd
        · clear hd
          refine awp_skip ?_; (first | show AWP _ _ _ _ _ | show ∃ _, _ | skip)
          (repeat refine awp_seq ?_); refine awp_drw3 [] [0, 1, 2, 3, 4, 5, 6, 7, 8] (by rw [hx]; kernel_rfl) (by kernel_rfl) (by kernel_rfl) (by kernel_rfl) fun K hK => ?_; simp (maxSteps := 1000000) [ty50, ty48, ty30, ty3]
          refine callPD (h28c) (by first | (simp; done) | (simp [*]; done)) (by simp) ?_; simp (maxSteps := 1000000) [ty30, ty3]
          refine hK _ ?_; clear hK K; (first | show AWP _ _ _ _ _ | show ∃ _, _ | skip)
          rcases hcg with ⟨g1, g2⟩ | ⟨g1, g2⟩ | g1
          · rw [hbey] at g2
            simp at g2
            rw [g1]
            (repeat refine awp_seq ?_); refine awp_reg1 (by rw [hx]; kernel_rfl) fun K hK => ?_; simp (maxSteps := 1000000) [ty3, ty4, g2]
            refine callP (works9) (by first | (simp; done) | (simp [*]; done)) ?_; simp (maxSteps := 1000000) []
            refine hK _ ?_; clear hK K; (first | show AWP _ _ _ _ _ | show ∃ _, _ | skip)
            (repeat refine awp_seq ?_); refine awp_ret ?_; refine And.intro (Or.inr rfl) ?_
            simp [retC, resC, viewC, mapO]
          · rw [hbey] at g2
            simp at g2
            have g2' : ¬ errI k c.size ≤ c.most := by omega
            rw [g1]
            (repeat refine awp_seq ?_); refine awp_reg1 (by rw [hx]; kernel_rfl) fun K hK => ?_; simp (maxSteps := 1000000) [ty3, ty4, g2']
            refine callP (works9) (by first | (simp; done) | (simp [*]; done)) ?_; simp (maxSteps := 1000000) []
            refine hK _ ?_; clear hK K; (first | show AWP _ _ _ _ _ | show ∃ _, _ | skip)
            (repeat refine awp_seq ?_); refine awp_ret ?_; refine And.intro (Or.inr rfl) ?_
            simp [retC, resC, viewC, mapO]
          · rw [g1]
            (repeat refine awp_seq ?_); refine awp_reg1 (by rw [hx]; kernel_rfl) fun K hK => ?_; simp (maxSteps := 1000000) [ty3, ty4]
            refine callP (works9) (by first | (simp; done) | (simp [*]; done)) ?_; simp (maxSteps := 1000000) []
            refine hK _ ?_; clear hK K; (first | show AWP _ _ _ _ _ | show ∃ _, _ | skip)
            (repeat refine awp_seq ?_); refine awp_ret ?_; refine And.intro (Or.inr rfl) ?_
            simp [retC, resC, viewC, mapO]

end Go.Proofs.YtbhbmnofmoibhaaGreat

namespace Go.Proofs.YtbhbmnofmoibhaaGreat
open Go Go.Abs

set_option maxHeartbeats 8000000

theorem sub_len {α : Type} : ∀ (A B : List α), A.Nodup → (∀ a ∈ A, a ∈ B) → A.length ≤ B.length
  | [], _, _, _ => Nat.zero_le _
  | a :: A, B, hn, hs => by
    have h1 := List.nodup_cons.1 hn
    obtain ⟨P, Q, rfl⟩ := List.append_of_mem (hs a (by simp))
    have ih := sub_len A (P ++ Q) h1.2 fun b hb => by
      have hne : b ≠ a := fun e => h1.1 (e ▸ hb)
      have := hs b (by simp [hb])
      simp [hne] at this
      simp [this]
    simp only [List.length_append, List.length_cons] at ih ⊢
    omega

theorem allT_nodup (w : Wh) : (allT w).Nodup := by
  unfold allT
  rw [List.nodup_iff_pairwise_ne, List.pairwise_map]
  refine List.pairwise_lt_range.imp fun {a b} h e => ?_
  simp only [Tr.mk.injEq] at e
  have e1 : a / nS w = b / nS w := by omega
  have e2 : a % nS w = b % nS w := by omega
  have h1 := Nat.div_add_mod a (nS w)
  have h2 := Nat.div_add_mod b (nS w)
  rw [e1, e2] at h1
  omega

/-- All truths of a trial. -/
abbrev trL (t : Ti) : List Tr := truthsS t (allS t)

theorem trL_mem {t : Ti} {k : Tr} : k ∈ trL t ↔ isTrB t k = true := by
  refine ⟨fun h => ?_, isTrB_mem⟩
  have h' : k ∈ (allT (gwT t)).filter (isTrB t) := by rw [truths_filter]; exact h
  exact (List.mem_filter.1 h').2
theorem trL_nodup (t : Ti) : (trL t).Nodup := (allT_nodup _).filter _

theorem openT_true {t : Ti} (h : checkT t = 0) : openT t true = if trL t = [] then 3 else 0 := by
  unfold openT
  rw [if_neg (by simpa using h), if_neg (by decide)]

theorem ends_some {f : Tr → Int} {t : Ti} {is : Bool} (h : openT t is = 0) : (∃ k ∈ trL t, f k = (endsT f t is).1) ∧ ∃ k ∈ trL t, f k = (endsT f t is).2 := by
  have hne := (numsT_ok (f := f) h).2.2
  unfold endsT
  cases hl : numsT f t is with
  | nil => exact absurd hl hne
  | cons a l =>
    have h1 : a ∈ numsT f t is := by rw [hl]; simp
    have h2 : (a :: l).getLastD 0 ∈ numsT f t is := by
      rw [hl, List.getLastD_eq_getLast?, List.getLast?_eq_some_getLast (by simp), Option.getD_some]
      exact List.getLast_mem _
    exact ⟨(numsT_mem h1).2, (numsT_mem h2).2⟩

theorem ends_sub {f : Tr → Int} {t o : Ti} {is : Bool} (ht : openT t is = 0) (ho : openT o is = 0) (hs : ∀ k ∈ trL o, k ∈ trL t) :
    (endsT f t is).1 ≤ (endsT f o is).1 ∧ (endsT f o is).2 ≤ (endsT f t is).2 := by
  obtain ⟨⟨k1, m1, e1⟩, k2, m2, e2⟩ := ends_some (f := f) ho
  have h1 := (ends_mem (f := f) ht (hs _ m1)).1
  have h2 := (ends_mem (f := f) ht (hs _ m2)).2
  omega

theorem cert_sub {t o : Ti} {c : Cl} (hc : classB c = true) (ht : openT t true = 0) (ho : openT o true = 0) (hs : ∀ k ∈ trL o, k ∈ trL t) : certT t c = 3 ∨ certT o c = certT t c := by
  have et : certT t c = certL (trL t) c := if_pos (by rw [hc]; exact ht)
  have eo : certT o c = certL (trL o) c := if_pos (by rw [hc]; exact ho)
  have hne := (openT_ok ho).2.2
  rw [et, eo]
  unfold certL
  split
  · rename_i h
    rw [List.countP_eq_zero] at h
    right
    rw [if_pos (List.countP_eq_zero.2 fun k hk => h k (hs k hk))]
  · split
    · rename_i h
      rw [List.countP_eq_zero] at h
      right
      have h2 := List.countP_eq_zero.2 fun k hk => h k (hs k hk)
      rw [if_neg ?_, if_pos h2]
      intro h3
      rw [List.countP_eq_zero] at h3
      obtain ⟨k, hk⟩ := List.exists_mem_of_ne_nil _ hne
      have a1 := h k (hs k hk)
      have a2 := h3 k hk
      simp at a1 a2
      rw [a1] at a2
      cases a2
    · exact .inl rfl

theorem nums_sub {f : Tr → Int} {t o : Ti} {is : Bool} (ht : openT t is = 0) (ho : openT o is = 0) (hs : ∀ k ∈ trL o, k ∈ trL t) :
    (∀ z ∈ numsT f o is, z ∈ numsT f t is) ∧ (numsT f o is).length ≤ (numsT f t is).length := by
  have h1 : ∀ z ∈ numsT f o is, z ∈ numsT f t is := by
    intro z hz
    obtain ⟨_, k, hk, e⟩ := numsT_mem hz
    rw [(numsT_ok ht).1, kindsL_mem]
    exact ⟨k, hs k hk, e⟩
  refine ⟨h1, sub_len _ _ ?_ h1⟩
  rw [(numsT_ok ho).1]
  exact kindsL_nodup _ _

theorem many_sub {t o : Ti} (ht : openT t true = 0) (ho : openT o true = 0) (hs : ∀ k ∈ trL o, k ∈ trL t) : manyT o ≤ manyT t := by
  unfold manyT
  rw [if_pos ht, if_pos ho]
  exact sub_len _ _ (trL_nodup o) hs

/-- One test more, in new memory. -/
def addT (t : Ti) (y : Ts) : Ti := { t with nl := false, fu := false, ts := t.ts.map copyY ++ [y] }
/-- A greater gain, in new memory. -/
def wideT (t : Ti) (g : Int) : Ti := { copyT t with gain := t.gain + g }

theorem copy_all (w : Wh) (l : List Ts) (k : Tr) : (l.map copyY).all (fun y => allowB w y k) = l.all fun y => allowB w y k := by
  rw [List.all_map]; rfl

theorem add_sub (t : Ti) (y : Ts) : ∀ k ∈ trL (addT t y), k ∈ trL t := by
  intro k hk
  rw [trL_mem] at hk ⊢
  unfold isTrB at hk ⊢
  have e1 : (addT t y).ts = t.ts.map copyY ++ [y] := rfl
  have e2 : (addT t y).w = t.w := rfl
  have e3 : (addT t y).gain = t.gain := rfl
  rw [e1, e2, e3, List.all_append, copy_all] at hk
  simp only [Bool.and_eq_true] at hk ⊢
  exact ⟨hk.1, hk.2.1⟩

theorem wide_sub (t : Ti) {g : Int} (hg : 0 ≤ g) : ∀ k ∈ trL t, k ∈ trL (wideT t g) := by
  intro k hk
  rw [trL_mem] at hk ⊢
  unfold isTrB at hk ⊢
  have e1 : (wideT t g).ts = t.ts.map copyY := rfl
  have e2 : (wideT t g).w = t.w := rfl
  have e3 : (wideT t g).gain = t.gain + g := rfl
  rw [e1, e2, e3, copy_all]
  simp only [Bool.and_eq_true, withinB, decide_eq_true_eq] at hk ⊢
  refine ⟨⟨⟨?_, ?_⟩, hk.1.2⟩, hk.2⟩ <;> omega

end Go.Proofs.YtbhbmnofmoibhaaGreat

namespace Go.Proofs.YtbhbmnofmoibhaaGreat
open Go Go.Abs

set_option maxHeartbeats 8000000

theorem q_copyE10 (t : Ti) (hl : TiLen t) : Eff Tryz.prog 10 [] [encTi t] (.agg (cTo t (.own 9000 2 0 t.ts.length))) [(9000, ⟨t.ts.isEmpty, false, 2, (t.ts.map copyY).map cTs⟩)] := by
  have hlt := hl.ts
  obtain ⟨U, hU⟩ : ∃ U : Nat → List Ts, ∀ i, U i = (t.ts.take i).map copyY := ⟨_, fun _ => rfl⟩
  have hU0 : U 0 = [] := by rw [hU]; rfl
  have hUl : ∀ i, i ≤ t.ts.length → (U i).length = i := fun i hi => by rw [hU]; simp; omega
  have hUs : ∀ i (hi : i < t.ts.length), U (i + 1) = U i ++ [copyY t.ts[i]] := fun i hi => by rw [hU, hU, List.take_succ_eq_append_getElem hi, List.map_append]; rfl
  have hUn : t.ts.map copyY = U t.ts.length := by rw [hU, List.take_length]
  rw [hUn]
  clear hUn hU
  refine eff_of_body (fn := Tryz.f10) [.cell 2 28] ⟨Tryz.func10, rfl, by kernel_rfl⟩ (by kernel_rfl) (by kernel_rfl) (by kernel_rfl) ?_ ?_ fun x hx hσ => ?_
  · simp [wil, C.wi]
  · simp
  rw [show stoO ([] : List (Nat × Ob)) = freeS from rfl] at hσ ⊢
  (repeat refine awp_seq ?_); refine awp_reg1 (by rw [hx]; kernel_rfl) fun K hK => ?_; simp (maxSteps := 1000000) [ty28]; refine hK _ ?_; clear hK K; (first | show AWP _ _ _ _ _ | show ∃ _, _ | skip)
  (repeat refine awp_seq ?_); refine awp_reg1 (by rw [hx]; kernel_rfl) fun K hK => ?_; simp (maxSteps := 1000000) [ty28]; refine hK _ ?_; clear hK K; (first | show AWP _ _ _ _ _ | show ∃ _, _ | skip)
  (repeat refine awp_seq ?_); refine awp_reg1 (by rw [hx]; kernel_rfl) fun K hK => ?_; simp (maxSteps := 1000000) [ty28, ty26]; refine hK _ ?_; clear hK K; (first | show AWP _ _ _ _ _ | show ∃ _, _ | skip)
  (repeat refine awp_seq ?_); refine awp_reg1 (by rw [hx]; kernel_rfl) fun K hK => ?_; simp (maxSteps := 1000000) []; refine hK _ ?_; clear hK K; (first | show AWP _ _ _ _ _ | show ∃ _, _ | skip)
  (repeat refine awp_seq ?_); refine awp_block ?_
  refine AWP.weak ?_ (wk_nilCell 3 0 9 1000 2 (o := ⟨false, false, 10, [cTo t (.sl true true [])]⟩) (row := cTo t (.sl true true [])) (fu := true) (by simp) rfl rfl rfl (by simp) (by decide))
  refine awp_loop (fun i : Nat => ⟨ofL [(1, .ptr 1 10 0 0), (2, .ptr 2 10 0 0), (3, .ptr 3 10 0 0), (4, encI i)],
      stoT [(1, 1, .live (obTi t)), (2, 2, .live ⟨false, false, 10, [[encI 0, encI 0, encI 0, encI 0, encI 0, encI 0, encI 0, encI 0, encI 0, .sl true true []]]⟩), (3, 3, .live ⟨false, false, 10, [cTo t (.own 1000 2 0 i)]⟩), (1000, 1000, .live ⟨(U i).isEmpty, false, 2, (U i).map cTs⟩)]⟩)
    (fun i => i ≤ t.ts.length) (fun i => t.ts.length - i) 0 (by simp) ?_ ?_
  · refine wk_shape (shp0 hσ (by simp) (by simp) ?_) ?_
    · simp [SlotOk, hU0] <;> (repeat' (first | (refine RowsOk.same ?_; simp [purel, C.isPure]; done) | (refine rowsCons ?_; simp [mtl, mtc, mT, mH, C.isPure, purel]; done) | (refine rowsCons ?_; simp [mtl, mtc, mT, mH, C.isPure, purel]) | refine And.intro ?_ ?_))
    · simp [mtc, mtl, mT, C.isPure, purel, hU0] <;> (try simp (disch := omega) [wrap_id]) <;> (try omega)
  · intro i hi
    have hUi := hUl i hi
    (repeat refine awp_seq ?_); refine awp_reg1 (by rw [hx]; kernel_rfl) fun K hK => ?_; simp (maxSteps := 1000000) [ty28, ty26, ty3]; refine hK _ ?_; clear hK K; (first | show AWP _ _ _ _ _ | show ∃ _, _ | skip)
    (repeat refine awp_seq ?_); refine awp_cond (by simp; rfl) (by rw [hx]; simp) (fun hc => ?_) (fun hc => ?_)
    · simp at hc
      refine awp_skip ?_; (first | show AWP _ _ _ _ _ | show ∃ _, _ | skip)
      (repeat refine awp_seq ?_); refine awp_block ?_
      have hst := hUs i hc
      have hln := hl.l _ (List.getElem_mem hc)
      obtain ⟨y, hy⟩ : ∃ y, y = t.ts[i] := ⟨_, rfl⟩
      generalize hV : U i = V at *
      have hwi : IntKind.i64.wrap ((i : Int) + 1) = ((i + 1 : Nat) : Int) := by rw [wrap_id (by omega) (by omega)]; rfl
      (repeat refine awp_seq ?_); refine awp_drw3 [1001, 1003, 1007, 1010, 1014, 15, 17, 5018, 11000] [0, 1, 2, 3, 4, 5, 6, 7, 8, 9, 10, 11, 12, 13, 14, 15, 16, 17, 18, 19, 20] (by rw [hx]; kernel_rfl) (by kernel_rfl) (by kernel_rfl) (by kernel_rfl) fun K hK => ?_; simp (maxSteps := 1000000) [ty28, ty26, ty3, ty64, ty62, ty93, hc, ← hy]
      refine ⟨⟨by rw [hy]; omega, by rw [hy]; omega⟩, ⟨by omega, by omega, by omega⟩, ?_⟩
      refine hK _ ?_; clear hK K; (first | show AWP _ _ _ _ _ | show ∃ _, _ | skip)
      rw [← hy] at hst
      refine AWP.weak ?_ (wk_frzCell 29 32 i 1 (o := ⟨y.l.isEmpty, true, 5, y.l.map cWl⟩) (oq := ⟨false, false, 2, V.map cTs ++ [[encI y.area, .own 29 5 0 y.l.length]]⟩) (row := [encI y.area, .own 29 5 0 y.l.length]) (c := .own 29 5 0 y.l.length) (c' := sWl false false y.l) (by simp) (by simp [purel, C.isPure]) (by simp) (by decide) rfl
        (by show (V.map cTs ++ [[encI y.area, .own 29 5 0 y.l.length]])[i]? = _
            rw [List.getElem?_append_right (by simp; omega)]
            simp [hUi]) rfl (by
        have := fz_own (k := 29) (sz := 5) (n := y.l.length) (b := false) (o := ⟨y.l.isEmpty, true, 5, y.l.map cWl⟩) rfl (by simp) (by simp)
        simpa using this) rfl)
      have hset : (V.map cTs ++ [[encI y.area, .own 29 5 0 y.l.length]]).set i [encI y.area, sWl false false y.l] = (V ++ [copyY y]).map cTs := by
        rw [set_last _ _ _ (by simp [hUi])]
        simp [copyY]
      simp only [List.set_cons_succ, List.set_cons_zero]
      rw [hset]
      (repeat refine awp_seq ?_); refine awp_reg1 (by rw [hx]; kernel_rfl) fun K hK => ?_; simp (maxSteps := 1000000) [ty3]; refine hK _ ?_; clear hK K; (first | show AWP _ _ _ _ _ | show ∃ _, _ | skip)
      refine ⟨i + 1, by omega, by omega, ?_⟩
      rw [hst, hwi]
      refine wk_shape2 [(1, 1, .live (obTi t)), (2, 2, .live ⟨false, false, 10, [[encI 0, encI 0, encI 0, encI 0, encI 0, encI 0, encI 0, encI 0, encI 0, .sl true true []]]⟩), (3, 3, .live ⟨false, false, 10, [cTo t (.own 1000 2 0 (i + 1))]⟩), (1000, 32, .live ⟨(V ++ [copyY y]).isEmpty, false, 2, (V ++ [copyY y]).map cTs⟩)] (by first | rfl | (simp only [if_pos, if_true]; rfl)) (shp0 hσ (by simp) (by simp) ?_) ?_
      · simp [SlotOk] <;> (repeat' (first | (refine RowsOk.same ?_; simp [purel, C.isPure]; done) | (refine rowsCons ?_; simp [mtl, mtc, mT, mH, C.isPure, purel]; done) | (refine rowsCons ?_; simp [mtl, mtc, mT, mH, C.isPure, purel]) | refine And.intro ?_ ?_))
      · simp [mtc, mtl, mT, C.isPure, purel] <;> (try simp (disch := omega) [wrap_id]) <;> (try omega)
    · simp at hc
      (repeat refine awp_seq ?_); refine awp_exit ?_; (first | show AWP _ _ _ _ _ | show ∃ _, _ | skip)
      have hin : i = t.ts.length := by omega
      rw [hin] at hUi ⊢
      have hem : (U t.ts.length).isEmpty = t.ts.isEmpty := by
        cases h1 : U t.ts.length <;> cases h2 : t.ts <;> rw [h1, h2] at hUi <;> simp at hUi <;> rfl
      generalize U t.ts.length = V at *
      rw [hem]
      (repeat refine awp_seq ?_); refine awp_reg1 (by rw [hx]; kernel_rfl) fun K hK => ?_; simp (maxSteps := 1000000) [ty28]; refine hK _ ?_; clear hK K; (first | show AWP _ _ _ _ _ | show ∃ _, _ | skip)
      (repeat refine awp_seq ?_); refine awp_ret ?_; refine And.intro (Or.inr rfl) ?_
      refine ⟨.agg (cTo t (.own 1000 2 0 t.ts.length)), [(9000, 1000, .live ⟨t.ts.isEmpty, false, 2, V.map cTs⟩)], ?_, shp0 hσ (by simp) (by simp) ?_, ?_, rfl⟩
      · simp [retC, resC, viewC, mapO, ty28]
      · simp [SlotOk]
        exact .same (by simp [purel, C.isPure])
      · simp [mtc, mtl, mT, C.isPure, purel]

end Go.Proofs.YtbhbmnofmoibhaaGreat

namespace Go.Proofs.YtbhbmnofmoibhaaGreat
open Go Go.Abs

set_option maxHeartbeats 8000000
set_option maxRecDepth 4000








theorem law6 (t : Ti) (y : Ts) (g : Int) (c : Cl) : Pure Tryz.prog 6 [encTi t, .agg (cTs y ++ [encI g]), encCl c] (.bool true) := by
  obtain ⟨f, hF, hf⟩ := ready19 t
  refine pure_of (fn := Tryz.f6) [.tmp 6] ⟨Tryz.func6, rfl, by kernel_rfl⟩ (by kernel_rfl) (by kernel_rfl) (by kernel_rfl) fun x hx hσ => ?_
  (repeat refine awp_seq ?_); refine awp_reg1 (by rw [hx]; kernel_rfl) fun K hK => ?_; simp (maxSteps := 1000000) [ty28, ty66, ty30]; refine hK _ ?_; clear hK K; (first | show AWP _ _ _ _ _ | show ∃ _, _ | skip)
  cases f
  · (repeat refine awp_seq ?_); refine awp_reg1 (by rw [hx]; kernel_rfl) fun K hK => ?_; simp (maxSteps := 1000000) [ty28]
    refine callP (hF) (by first | (simp; done) | (simp [*]; done)) ?_; simp (maxSteps := 1000000) [ty4]
    refine hK _ ?_; clear hK K; (first | show AWP _ _ _ _ _ | show ∃ _, _ | skip)
    (repeat refine awp_seq ?_); refine awp_cond (by simp; rfl) (by rw [hx]; simp) (fun hd => ?_) (fun hd => ?_)
    · clear hd
      (repeat refine awp_seq ?_); refine awp_reg1 (by rw [hx]; kernel_rfl) fun K hK => ?_; simp (maxSteps := 1000000) []
      refine callP (works9) (by first | (simp; done) | (simp [*]; done)) ?_; simp (maxSteps := 1000000) []
      refine hK _ ?_; clear hK K; (first | show AWP _ _ _ _ _ | show ∃ _, _ | skip)
      (repeat refine awp_seq ?_); refine awp_ret ?_; refine And.intro (Or.inr rfl) ?_
      simp [retC, resC, viewC, mapO]
    · simp at hd
  obtain ⟨hz, hnear⟩ := hf rfl
  have hn := hnear.len
  have hok := checkT_ok.1 hz
  have hgn := hok.gain
  by_cases h3 : (3 : Int) < (t.ts.length : Int)
  · (repeat refine awp_seq ?_); refine awp_reg1 (by rw [hx]; kernel_rfl) fun K hK => ?_; simp (maxSteps := 1000000) [ty28]
    refine callP (hF) (by first | (simp; done) | (simp [*]; done)) ?_; simp (maxSteps := 1000000) [ty4, ty28, ty26, ty3, h3]
    refine hK _ ?_; clear hK K; (first | show AWP _ _ _ _ _ | show ∃ _, _ | skip)
    (repeat refine awp_seq ?_); refine awp_cond (by simp [h3]; rfl) (by rw [hx]; simp) (fun hd => ?_) (fun hd => ?_)
    · clear hd
      (repeat refine awp_seq ?_); refine awp_reg1 (by rw [hx]; kernel_rfl) fun K hK => ?_; simp (maxSteps := 1000000) []
      refine callP (works9) (by first | (simp; done) | (simp [*]; done)) ?_; simp (maxSteps := 1000000) []
      refine hK _ ?_; clear hK K; (first | show AWP _ _ _ _ _ | show ∃ _, _ | skip)
      (repeat refine awp_seq ?_); refine awp_ret ?_; refine And.intro (Or.inr rfl) ?_
      simp [retC, resC, viewC, mapO]
    · simp [h3] at hd
  by_cases h20 : (20 : Int) < (y.l.length : Int)
  · (repeat refine awp_seq ?_); refine awp_reg1 (by rw [hx]; kernel_rfl) fun K hK => ?_; simp (maxSteps := 1000000) [ty28]
    refine callP (hF) (by first | (simp; done) | (simp [*]; done)) ?_; simp (maxSteps := 1000000) [ty4, ty28, ty26, ty3, ty66, ty64, ty62, h3, h20]
    refine hK _ ?_; clear hK K; (first | show AWP _ _ _ _ _ | show ∃ _, _ | skip)
    (repeat refine awp_seq ?_); refine awp_cond (by simp [h20]; rfl) (by rw [hx]; simp) (fun hd => ?_) (fun hd => ?_)
    · clear hd
      (repeat refine awp_seq ?_); refine awp_reg1 (by rw [hx]; kernel_rfl) fun K hK => ?_; simp (maxSteps := 1000000) []
      refine callP (works9) (by first | (simp; done) | (simp [*]; done)) ?_; simp (maxSteps := 1000000) []
      refine hK _ ?_; clear hK K; (first | show AWP _ _ _ _ _ | show ∃ _, _ | skip)
      (repeat refine awp_seq ?_); refine awp_ret ?_; refine And.intro (Or.inr rfl) ?_
      simp [retC, resC, viewC, mapO]
    · simp [h20] at hd
  cases hc : classB c
  · (repeat refine awp_seq ?_); refine awp_reg1 (by rw [hx]; kernel_rfl) fun K hK => ?_; simp (maxSteps := 1000000) [ty28]
    refine callP (hF) (by first | (simp; done) | (simp [*]; done)) ?_; simp (maxSteps := 1000000) [ty4, ty28, ty26, ty3, ty66, ty64, ty62, ty30, h3, h20]
    refine callP (q_isClass20 c) (by first | (simp; done) | (simp [*]; done)) ?_; simp (maxSteps := 1000000) [ty4, hc]
    refine hK _ ?_; clear hK K; (first | show AWP _ _ _ _ _ | show ∃ _, _ | skip)
    (repeat refine awp_seq ?_); refine awp_cond (by simp [hc]; rfl) (by rw [hx]; simp) (fun hd => ?_) (fun hd => ?_)
    · clear hd
      (repeat refine awp_seq ?_); refine awp_reg1 (by rw [hx]; kernel_rfl) fun K hK => ?_; simp (maxSteps := 1000000) []
      refine callP (works9) (by first | (simp; done) | (simp [*]; done)) ?_; simp (maxSteps := 1000000) []
      refine hK _ ?_; clear hK K; (first | show AWP _ _ _ _ _ | show ∃ _, _ | skip)
      (repeat refine awp_seq ?_); refine awp_ret ?_; refine And.intro (Or.inr rfl) ?_
      simp [retC, resC, viewC, mapO]
    · simp [hc] at hd
  by_cases g0 : g < 0
  · (repeat refine awp_seq ?_); refine awp_reg1 (by rw [hx]; kernel_rfl) fun K hK => ?_; simp (maxSteps := 1000000) [ty28]
    refine callP (hF) (by first | (simp; done) | (simp [*]; done)) ?_; simp (maxSteps := 1000000) [ty4, ty28, ty26, ty3, ty66, ty64, ty62, ty30, h3, h20]
    refine callP (q_isClass20 c) (by first | (simp; done) | (simp [*]; done)) ?_; simp (maxSteps := 1000000) [ty4, hc, ty66, ty3, g0]
    refine hK _ ?_; clear hK K; (first | show AWP _ _ _ _ _ | show ∃ _, _ | skip)
    (repeat refine awp_seq ?_); refine awp_cond (by simp [g0]; rfl) (by rw [hx]; simp) (fun hd => ?_) (fun hd => ?_)
    · clear hd
      (repeat refine awp_seq ?_); refine awp_reg1 (by rw [hx]; kernel_rfl) fun K hK => ?_; simp (maxSteps := 1000000) []
      refine callP (works9) (by first | (simp; done) | (simp [*]; done)) ?_; simp (maxSteps := 1000000) []
      refine hK _ ?_; clear hK K; (first | show AWP _ _ _ _ _ | show ∃ _, _ | skip)
      (repeat refine awp_seq ?_); refine awp_ret ?_; refine And.intro (Or.inr rfl) ?_
      simp [retC, resC, viewC, mapO]
    · simp [g0] at hd
  by_cases g5 : 50 < g
  · (repeat refine awp_seq ?_); refine awp_reg1 (by rw [hx]; kernel_rfl) fun K hK => ?_; simp (maxSteps := 1000000) [ty28]
    refine callP (hF) (by first | (simp; done) | (simp [*]; done)) ?_; simp (maxSteps := 1000000) [ty4, ty28, ty26, ty3, ty66, ty64, ty62, ty30, h3, h20]
    refine callP (q_isClass20 c) (by first | (simp; done) | (simp [*]; done)) ?_; simp (maxSteps := 1000000) [ty4, hc, ty66, ty3, g0, g5]
    refine hK _ ?_; clear hK K; (first | show AWP _ _ _ _ _ | show ∃ _, _ | skip)
    (repeat refine awp_seq ?_); refine awp_cond (by simp [g5]; rfl) (by rw [hx]; simp) (fun hd => ?_) (fun hd => ?_)
    · clear hd
      (repeat refine awp_seq ?_); refine awp_reg1 (by rw [hx]; kernel_rfl) fun K hK => ?_; simp (maxSteps := 1000000) []
      refine callP (works9) (by first | (simp; done) | (simp [*]; done)) ?_; simp (maxSteps := 1000000) []
      refine hK _ ?_; clear hK K; (first | show AWP _ _ _ _ _ | show ∃ _, _ | skip)
      (repeat refine awp_seq ?_); refine awp_ret ?_; refine And.intro (Or.inr rfl) ?_
      simp [retC, resC, viewC, mapO]
    · simp [g5] at hd
  have hA : areaB c.size = true := areaB_iff.2 (classB_ok hc).1
  have c31 := many31 t hn
  have c24 := errs24 t c.size hn
  rw [hA] at c24
  have c11 := certify11 t c hn
  rw [hc] at c11
  have c10 := q_copy10 t hn
  obtain ⟨fo, hO, hfo⟩ := ready19 (addT t y)
  obtain ⟨fw, hW, hfw⟩ := ready19 (wideT t g)
  have hadd : [cTo t (.sl false false ((t.ts.map copyY).map cTs ++ [cTs y]))] = [cTi (addT t y)] := by simp [addT]
  (repeat refine awp_seq ?_); refine awp_reg1 (by rw [hx]; kernel_rfl) fun K hK => ?_; simp (maxSteps := 1000000) [ty28]
  refine callP (hF) (by first | (simp; done) | (simp [*]; done)) ?_; simp (maxSteps := 1000000) [ty4, ty28, ty26, ty3, ty66, ty64, ty62, ty30, h3, h20]
  refine callP (q_isClass20 c) (by first | (simp; done) | (simp [*]; done)) ?_; simp (maxSteps := 1000000) [ty4, hc, ty66, ty3, g0, g5]
  refine hK _ ?_; clear hK K; (first | show AWP _ _ _ _ _ | show ∃ _, _ | skip)
  (repeat refine awp_seq ?_); refine awp_cond (by simp [g5]; rfl) (by rw [hx]; simp) (fun hd => ?_) (fun hd => ?_)
  · simp [g5] at hd
  clear hd
  refine awp_skip ?_; (first | show AWP _ _ _ _ _ | show ∃ _, _ | skip)
  have hwg : IntKind.i64.wrap ((copyT t).gain + g) = t.gain + g := by rw [show (copyT t).gain = t.gain from rfl]; exact wrap_id (by omega) (by omega)
  have hE := openT_true hz
  by_cases hL : trL t = []
  · rw [if_pos hL] at hE
    rw [hE] at c31 c24 c11
    (repeat refine awp_seq ?_); refine awp_reg1 (by rw [hx]; kernel_rfl) fun K hK => ?_; simp (maxSteps := 1000000) [ty28]
    refine callP (c31) (by first | (simp; done) | (simp [*]; done)) ?_; simp (maxSteps := 1000000) [ty28]
    refine hK _ ?_; clear hK K; (first | show AWP _ _ _ _ _ | show ∃ _, _ | skip)
    (repeat refine awp_seq ?_); refine awp_reg1 (by rw [hx]; kernel_rfl) fun K hK => ?_; simp (maxSteps := 1000000) [ty28, ty30, ty3]
    refine callP (c24) (by first | (simp; done) | (simp [*]; done)) ?_; simp (maxSteps := 1000000) [ty28, ty23]
    refine hK _ ?_; clear hK K; (first | show AWP _ _ _ _ _ | show ∃ _, _ | skip)
    (repeat refine awp_seq ?_); refine awp_reg1 (by rw [hx]; kernel_rfl) fun K hK => ?_; simp (maxSteps := 1000000) [ty28, ty30]
    refine callP (c11) (by first | (simp; done) | (simp [*]; done)) ?_; simp (maxSteps := 1000000) [ty28]
    refine hK _ ?_; clear hK K; (first | show AWP _ _ _ _ _ | show ∃ _, _ | skip)
    (repeat refine awp_seq ?_); refine awp_reg1 (by rw [hx]; kernel_rfl) fun K hK => ?_; simp (maxSteps := 1000000) [ty36]
    refine callP (l_isKnown36 3) (by first | (simp; done) | (simp [*]; done)) ?_; simp (maxSteps := 1000000) [ty4, ty36]
    refine hK _ ?_; clear hK K; (first | show AWP _ _ _ _ _ | show ∃ _, _ | skip)
    (repeat refine awp_seq ?_); refine awp_cond (by simp; rfl) (by rw [hx]; simp) (fun hd => ?_) (fun hd => ?_)
    · simp at hd
    clear hd
    refine awp_skip ?_; (first | show AWP _ _ _ _ _ | show ∃ _, _ | skip)
    (repeat refine awp_seq ?_); refine awp_reg1 (by rw [hx]; kernel_rfl) fun K hK => ?_; simp (maxSteps := 1000000) [ty28]
    refine doesL ((q_copyE10 t hn).does ?_ ?_) ?_
    · simp [keysO]
    · simp [keysO]
    simp [ty28]
    refine hK _ ?_; clear hK K; (first | show AWP _ _ _ _ _ | show ∃ _, _ | skip)
    (repeat refine awp_seq ?_); refine awp_reg1 (by rw [hx]; kernel_rfl) fun K hK => ?_; simp (maxSteps := 1000000) [ty28, ty26, ty66, ty64]
    refine ⟨⟨by omega, by omega⟩, ?_⟩
    refine hK _ ?_; clear hK K; (first | show AWP _ _ _ _ _ | show ∃ _, _ | skip)
    have hfz := fz_own (k := 101) (sz := 2) (n := t.ts.length + 1) (b := false) (o := ⟨false, false, 2, (t.ts.map copyY).map cTs ++ [cTs y]⟩) rfl (by simp) (by simp)
    refine AWP.weak ?_ (wk_frzCell 101 13 0 9 (o := ⟨false, false, 2, (t.ts.map copyY).map cTs ++ [cTs y]⟩) (oq := ⟨false, false, 10, [cTo t (.own 101 2 0 (t.ts.length + 1))]⟩) (row := cTo t (.own 101 2 0 (t.ts.length + 1))) (c := .own 101 2 0 (t.ts.length + 1)) (c' := .sl false false ((t.ts.map copyY).map cTs ++ [cTs y])) (by simp) (by simp [purel, C.isPure]) (by simp) (by decide) rfl rfl rfl hfz rfl)
    simp only [List.set_cons_succ, List.set_cons_zero]
    rw [hadd]
    (repeat refine awp_seq ?_); refine awp_reg1 (by rw [hx]; kernel_rfl) fun K hK => ?_; simp (maxSteps := 1000000) [ty28]
    refine callP (hO) (by first | (simp; done) | (simp [*]; done)) ?_; simp (maxSteps := 1000000) [ty4]
    refine hK _ ?_; clear hK K; (first | show AWP _ _ _ _ _ | show ∃ _, _ | skip)
    cases fo
    · (repeat refine awp_seq ?_); refine awp_cond (by simp; rfl) (by rw [hx]; simp) (fun hd => ?_) (fun hd => ?_)
      · simp at hd
      clear hd
      refine awp_skip ?_; (first | show AWP _ _ _ _ _ | show ∃ _, _ | skip)
      (repeat refine awp_seq ?_); refine awp_reg1 (by rw [hx]; kernel_rfl) fun K hK => ?_; simp (maxSteps := 1000000) [ty28]
      refine callP (c10) (by first | (simp; done) | (simp [*]; done)) ?_; simp (maxSteps := 1000000) [ty28]
      refine hK _ ?_; clear hK K; (first | show AWP _ _ _ _ _ | show ∃ _, _ | skip)
      (repeat refine awp_seq ?_); refine awp_reg1 (by rw [hx]; kernel_rfl) fun K hK => ?_; simp (maxSteps := 1000000) [ty28, ty66, ty3, hwg]; refine hK _ ?_; clear hK K; (first | show AWP _ _ _ _ _ | show ∃ _, _ | skip)
      cases fw
      · (repeat refine awp_seq ?_); refine awp_reg1 (by rw [hx]; kernel_rfl) fun K hK => ?_; simp (maxSteps := 1000000) [ty28]
        refine callP (hW) (by first | (simp; done) | (simp [*]; done)) ?_; simp (maxSteps := 1000000) [ty4, ty36]
        refine hK _ ?_; clear hK K; (first | show AWP _ _ _ _ _ | show ∃ _, _ | skip)
        (repeat refine awp_seq ?_); refine awp_cond (by simp; rfl) (by rw [hx]; simp) (fun hd => ?_) (fun hd => ?_)
        · clear hd
          (repeat refine awp_seq ?_); refine awp_reg1 (by rw [hx]; kernel_rfl) fun K hK => ?_; simp (maxSteps := 1000000) []
          refine callP (works9) (by first | (simp; done) | (simp [*]; done)) ?_; simp (maxSteps := 1000000) []
          refine hK _ ?_; clear hK K; (first | show AWP _ _ _ _ _ | show ∃ _, _ | skip)
          (repeat refine awp_seq ?_); refine awp_ret ?_; refine And.intro (Or.inr rfl) ?_
          simp [retC, resC, viewC, mapO]
        · simp at hd
      · (repeat refine awp_seq ?_); refine awp_reg1 (by rw [hx]; kernel_rfl) fun K hK => ?_; simp (maxSteps := 1000000) [ty28]
        refine callP (hW) (by first | (simp; done) | (simp [*]; done)) ?_; simp (maxSteps := 1000000) [ty4, ty36]
        refine hK _ ?_; clear hK K; (first | show AWP _ _ _ _ _ | show ∃ _, _ | skip)
        (repeat refine awp_seq ?_); refine awp_cond (by simp; rfl) (by rw [hx]; simp) (fun hd => ?_) (fun hd => ?_)
        · clear hd
          (repeat refine awp_seq ?_); refine awp_reg1 (by rw [hx]; kernel_rfl) fun K hK => ?_; simp (maxSteps := 1000000) []
          refine callP (works9) (by first | (simp; done) | (simp [*]; done)) ?_; simp (maxSteps := 1000000) []
          refine hK _ ?_; clear hK K; (first | show AWP _ _ _ _ _ | show ∃ _, _ | skip)
          (repeat refine awp_seq ?_); refine awp_ret ?_; refine And.intro (Or.inr rfl) ?_
          simp [retC, resC, viewC, mapO]
        · simp at hd
    · (repeat refine awp_seq ?_); refine awp_cond (by simp; rfl) (by rw [hx]; simp) (fun hd => ?_) (fun hd => ?_)
      · clear hd
        have hLo : trL (addT t y) = [] := List.eq_nil_iff_forall_not_mem.2 fun k hk => by
          have := add_sub t y k hk
          rw [hL] at this
          simp at this
        have hno := (hfo rfl).2.len
        have hE' := openT_true (hfo rfl).1
        rw [if_pos hLo] at hE'
        have d31 := many31 (addT t y) hno
        have d24 := errs24 (addT t y) c.size hno
        rw [hA] at d24
        have d11 := certify11 (addT t y) c hno
        rw [hc] at d11
        rw [hE'] at d31 d24 d11
        (repeat refine awp_seq ?_); refine awp_reg1 (by rw [hx]; kernel_rfl) fun K hK => ?_; simp (maxSteps := 1000000) [ty28]
        refine callP (d31) (by first | (simp; done) | (simp [*]; done)) ?_; simp (maxSteps := 1000000) [ty28]
        refine hK _ ?_; clear hK K; (first | show AWP _ _ _ _ _ | show ∃ _, _ | skip)
        (repeat refine awp_seq ?_); refine awp_reg1 (by rw [hx]; kernel_rfl) fun K hK => ?_; simp (maxSteps := 1000000) [ty28, ty30, ty3]
        refine callP (d24) (by first | (simp; done) | (simp [*]; done)) ?_; simp (maxSteps := 1000000) [ty28, ty23]
        refine hK _ ?_; clear hK K; (first | show AWP _ _ _ _ _ | show ∃ _, _ | skip)
        (repeat refine awp_seq ?_); refine awp_reg1 (by rw [hx]; kernel_rfl) fun K hK => ?_; simp (maxSteps := 1000000) [ty28, ty30]
        refine callP (d11) (by first | (simp; done) | (simp [*]; done)) ?_; simp (maxSteps := 1000000) [ty28]
        refine hK _ ?_; clear hK K; (first | show AWP _ _ _ _ _ | show ∃ _, _ | skip)
        (repeat refine awp_seq ?_); refine awp_reg1 (by rw [hx]; kernel_rfl) fun K hK => ?_; simp (maxSteps := 1000000) [ty36, ty3, ty23]
        refine callP (l_isKnown36 3) (by first | (simp; done) | (simp [*]; done)) ?_; simp (maxSteps := 1000000) [ty4, ty36, ty3, ty23, ty3]
        refine hK _ ?_; clear hK K; (first | show AWP _ _ _ _ _ | show ∃ _, _ | skip)
        (repeat refine awp_seq ?_); refine awp_cond (by simp; rfl) (by rw [hx]; simp) (fun hd => ?_) (fun hd => ?_)
        · simp at hd
        clear hd
        refine awp_skip ?_; (first | show AWP _ _ _ _ _ | show ∃ _, _ | skip)
        (repeat refine awp_seq ?_); refine awp_reg1 (by rw [hx]; kernel_rfl) fun K hK => ?_; simp (maxSteps := 1000000) [ty28]
        refine callP (c10) (by first | (simp; done) | (simp [*]; done)) ?_; simp (maxSteps := 1000000) [ty28]
        refine hK _ ?_; clear hK K; (first | show AWP _ _ _ _ _ | show ∃ _, _ | skip)
        (repeat refine awp_seq ?_); refine awp_reg1 (by rw [hx]; kernel_rfl) fun K hK => ?_; simp (maxSteps := 1000000) [ty28, ty66, ty3, hwg]; refine hK _ ?_; clear hK K; (first | show AWP _ _ _ _ _ | show ∃ _, _ | skip)
        cases fw
        · (repeat refine awp_seq ?_); refine awp_reg1 (by rw [hx]; kernel_rfl) fun K hK => ?_; simp (maxSteps := 1000000) [ty28]
          refine callP (hW) (by first | (simp; done) | (simp [*]; done)) ?_; simp (maxSteps := 1000000) [ty4, ty36]
          refine hK _ ?_; clear hK K; (first | show AWP _ _ _ _ _ | show ∃ _, _ | skip)
          (repeat refine awp_seq ?_); refine awp_cond (by simp; rfl) (by rw [hx]; simp) (fun hd => ?_) (fun hd => ?_)
          · clear hd
            (repeat refine awp_seq ?_); refine awp_reg1 (by rw [hx]; kernel_rfl) fun K hK => ?_; simp (maxSteps := 1000000) []
            refine callP (works9) (by first | (simp; done) | (simp [*]; done)) ?_; simp (maxSteps := 1000000) []
            refine hK _ ?_; clear hK K; (first | show AWP _ _ _ _ _ | show ∃ _, _ | skip)
            (repeat refine awp_seq ?_); refine awp_ret ?_; refine And.intro (Or.inr rfl) ?_
            simp [retC, resC, viewC, mapO]
          · simp at hd
        · (repeat refine awp_seq ?_); refine awp_reg1 (by rw [hx]; kernel_rfl) fun K hK => ?_; simp (maxSteps := 1000000) [ty28]
          refine callP (hW) (by first | (simp; done) | (simp [*]; done)) ?_; simp (maxSteps := 1000000) [ty4, ty36]
          refine hK _ ?_; clear hK K; (first | show AWP _ _ _ _ _ | show ∃ _, _ | skip)
          (repeat refine awp_seq ?_); refine awp_cond (by simp; rfl) (by rw [hx]; simp) (fun hd => ?_) (fun hd => ?_)
          · clear hd
            (repeat refine awp_seq ?_); refine awp_reg1 (by rw [hx]; kernel_rfl) fun K hK => ?_; simp (maxSteps := 1000000) []
            refine callP (works9) (by first | (simp; done) | (simp [*]; done)) ?_; simp (maxSteps := 1000000) []
            refine hK _ ?_; clear hK K; (first | show AWP _ _ _ _ _ | show ∃ _, _ | skip)
            (repeat refine awp_seq ?_); refine awp_ret ?_; refine And.intro (Or.inr rfl) ?_
            simp [retC, resC, viewC, mapO]
          · simp at hd
      · simp at hd
  · rw [if_neg hL] at hE
    rw [hE] at c31 c24 c11
    (repeat refine awp_seq ?_); refine awp_reg1 (by rw [hx]; kernel_rfl) fun K hK => ?_; simp (maxSteps := 1000000) [ty28]
    refine callP (c31) (by first | (simp; done) | (simp [*]; done)) ?_; simp (maxSteps := 1000000) [ty28]
    refine hK _ ?_; clear hK K; (first | show AWP _ _ _ _ _ | show ∃ _, _ | skip)
    (repeat refine awp_seq ?_); refine awp_reg1 (by rw [hx]; kernel_rfl) fun K hK => ?_; simp (maxSteps := 1000000) [ty28, ty30, ty3]
    refine callP (c24) (by first | (simp; done) | (simp [*]; done)) ?_; simp (maxSteps := 1000000) [ty28, ty23]
    refine hK _ ?_; clear hK K; (first | show AWP _ _ _ _ _ | show ∃ _, _ | skip)
    (repeat refine awp_seq ?_); refine awp_reg1 (by rw [hx]; kernel_rfl) fun K hK => ?_; simp (maxSteps := 1000000) [ty28, ty30]
    refine callP (c11) (by first | (simp; done) | (simp [*]; done)) ?_; simp (maxSteps := 1000000) [ty28]
    refine hK _ ?_; clear hK K; (first | show AWP _ _ _ _ _ | show ∃ _, _ | skip)
    (repeat refine awp_seq ?_); refine awp_reg1 (by rw [hx]; kernel_rfl) fun K hK => ?_; simp (maxSteps := 1000000) [ty36]
    refine callP (l_isKnown36 0) (by first | (simp; done) | (simp [*]; done)) ?_; simp (maxSteps := 1000000) [ty4, ty36]
    refine hK _ ?_; clear hK K; (first | show AWP _ _ _ _ _ | show ∃ _, _ | skip)
    (repeat refine awp_seq ?_); refine awp_cond (by simp; rfl) (by rw [hx]; simp) (fun hd => ?_) (fun hd => ?_)
    · simp at hd
    clear hd
    refine awp_skip ?_; (first | show AWP _ _ _ _ _ | show ∃ _, _ | skip)
    (repeat refine awp_seq ?_); refine awp_reg1 (by rw [hx]; kernel_rfl) fun K hK => ?_; simp (maxSteps := 1000000) [ty28]
    refine doesL ((q_copyE10 t hn).does ?_ ?_) ?_
    · simp [keysO]
    · simp [keysO]
    simp [ty28]
    refine hK _ ?_; clear hK K; (first | show AWP _ _ _ _ _ | show ∃ _, _ | skip)
    (repeat refine awp_seq ?_); refine awp_reg1 (by rw [hx]; kernel_rfl) fun K hK => ?_; simp (maxSteps := 1000000) [ty28, ty26, ty66, ty64]
    refine ⟨⟨by omega, by omega⟩, ?_⟩
    refine hK _ ?_; clear hK K; (first | show AWP _ _ _ _ _ | show ∃ _, _ | skip)
    have hfz := fz_own (k := 101) (sz := 2) (n := t.ts.length + 1) (b := false) (o := ⟨false, false, 2, (t.ts.map copyY).map cTs ++ [cTs y]⟩) rfl (by simp) (by simp)
    refine AWP.weak ?_ (wk_frzCell 101 13 0 9 (o := ⟨false, false, 2, (t.ts.map copyY).map cTs ++ [cTs y]⟩) (oq := ⟨false, false, 10, [cTo t (.own 101 2 0 (t.ts.length + 1))]⟩) (row := cTo t (.own 101 2 0 (t.ts.length + 1))) (c := .own 101 2 0 (t.ts.length + 1)) (c' := .sl false false ((t.ts.map copyY).map cTs ++ [cTs y])) (by simp) (by simp [purel, C.isPure]) (by simp) (by decide) rfl rfl rfl hfz rfl)
    simp only [List.set_cons_succ, List.set_cons_zero]
    rw [hadd]
    (repeat refine awp_seq ?_); refine awp_reg1 (by rw [hx]; kernel_rfl) fun K hK => ?_; simp (maxSteps := 1000000) [ty28]
    refine callP (hO) (by first | (simp; done) | (simp [*]; done)) ?_; simp (maxSteps := 1000000) [ty4]
    refine hK _ ?_; clear hK K; (first | show AWP _ _ _ _ _ | show ∃ _, _ | skip)
    cases fo
    · (repeat refine awp_seq ?_); refine awp_cond (by simp; rfl) (by rw [hx]; simp) (fun hd => ?_) (fun hd => ?_)
      · simp at hd
      clear hd
      refine awp_skip ?_; (first | show AWP _ _ _ _ _ | show ∃ _, _ | skip)
      (repeat refine awp_seq ?_); refine awp_reg1 (by rw [hx]; kernel_rfl) fun K hK => ?_; simp (maxSteps := 1000000) [ty28]
      refine callP (c10) (by first | (simp; done) | (simp [*]; done)) ?_; simp (maxSteps := 1000000) [ty28]
      refine hK _ ?_; clear hK K; (first | show AWP _ _ _ _ _ | show ∃ _, _ | skip)
      (repeat refine awp_seq ?_); refine awp_reg1 (by rw [hx]; kernel_rfl) fun K hK => ?_; simp (maxSteps := 1000000) [ty28, ty66, ty3, hwg]; refine hK _ ?_; clear hK K; (first | show AWP _ _ _ _ _ | show ∃ _, _ | skip)
      cases fw
      · (repeat refine awp_seq ?_); refine awp_reg1 (by rw [hx]; kernel_rfl) fun K hK => ?_; simp (maxSteps := 1000000) [ty28]
        refine callP (hW) (by first | (simp; done) | (simp [*]; done)) ?_; simp (maxSteps := 1000000) [ty4, ty36]
        refine hK _ ?_; clear hK K; (first | show AWP _ _ _ _ _ | show ∃ _, _ | skip)
        (repeat refine awp_seq ?_); refine awp_cond (by simp; rfl) (by rw [hx]; simp) (fun hd => ?_) (fun hd => ?_)
        · clear hd
          (repeat refine awp_seq ?_); refine awp_reg1 (by rw [hx]; kernel_rfl) fun K hK => ?_; simp (maxSteps := 1000000) []
          refine callP (works9) (by first | (simp; done) | (simp [*]; done)) ?_; simp (maxSteps := 1000000) []
          refine hK _ ?_; clear hK K; (first | show AWP _ _ _ _ _ | show ∃ _, _ | skip)
          (repeat refine awp_seq ?_); refine awp_ret ?_; refine And.intro (Or.inr rfl) ?_
          simp [retC, resC, viewC, mapO]
        · simp at hd
      · (repeat refine awp_seq ?_); refine awp_reg1 (by rw [hx]; kernel_rfl) fun K hK => ?_; simp (maxSteps := 1000000) [ty28]
        refine callP (hW) (by first | (simp; done) | (simp [*]; done)) ?_; simp (maxSteps := 1000000) [ty4, ty36]
        refine hK _ ?_; clear hK K; (first | show AWP _ _ _ _ _ | show ∃ _, _ | skip)
        (repeat refine awp_seq ?_); refine awp_cond (by simp; rfl) (by rw [hx]; simp) (fun hd => ?_) (fun hd => ?_)
        · simp at hd
        clear hd
        refine awp_skip ?_; (first | show AWP _ _ _ _ _ | show ∃ _, _ | skip)
        have hnw := (hfw rfl).2.len
        have hgw := (checkT_ok.1 (hfw rfl).1).gain
        have hws := wide_sub t (g := g) (by omega)
        have hLw : trL (wideT t g) ≠ [] := by
          obtain ⟨k, hk⟩ := List.exists_mem_of_ne_nil _ hL
          exact List.ne_nil_of_mem (hws k hk)
        have hEw := openT_true (hfw rfl).1
        rw [if_neg hLw] at hEw
        have w31 := many31 (wideT t g) hnw
        rw [hEw] at w31
        have w22 := gains22 (wideT t g) hnw
        rw [hEw] at w22
        have w23 := skews23 (wideT t g) hnw
        rw [hEw] at w23
        have c22 := gains22 t hn
        rw [hE] at c22
        have c23 := skews23 t hn
        rw [hE] at c23
        have k1 := many_sub hEw hE hws
        have k1' : (manyT t : Int) ≤ (manyT (wideT t g) : Int) := by omega
        have k2 := nums_sub (f := Tr.area) hEw hE hws
        have k3 := nums_sub (f := Tr.skew) hEw hE hws
        have a1 := gains_len (wideT t g)
        have a2 := skews_len' (wideT t g)
        have a1' : ((numsT Tr.area (wideT t g) true).length : Int) ≤ 200 := by omega
        have a2' : ((numsT Tr.skew (wideT t g) true).length : Int) ≤ 200 := by omega
        have s1 := l_subset37 (numsT Tr.area t true).isEmpty (numsT Tr.area t true).isEmpty (numsT Tr.area (wideT t g) true).isEmpty (numsT Tr.area (wideT t g) true).isEmpty _ _ (by omega) (by omega) k2.1 k2.2
        have s2 := l_subset37 (numsT Tr.skew t true).isEmpty (numsT Tr.skew t true).isEmpty (numsT Tr.skew (wideT t g) true).isEmpty (numsT Tr.skew (wideT t g) true).isEmpty _ _ (by omega) (by omega) k3.1 k3.2
        (repeat refine awp_seq ?_); refine awp_reg1 (by rw [hx]; kernel_rfl) fun K hK => ?_; simp (maxSteps := 1000000) [ty28]
        refine callP (w31) (by first | (simp; done) | (simp [*]; done)) ?_; simp (maxSteps := 1000000) [ty28]
        refine hK _ ?_; clear hK K; (first | show AWP _ _ _ _ _ | show ∃ _, _ | skip)
        (repeat refine awp_seq ?_); refine awp_reg1 (by rw [hx]; kernel_rfl) fun K hK => ?_; simp (maxSteps := 1000000) [ty28]
        refine callP (c22) (by first | (simp; done) | (simp [*]; done)) ?_; simp (maxSteps := 1000000) [ty28, ty41]
        refine hK _ ?_; clear hK K; (first | show AWP _ _ _ _ _ | show ∃ _, _ | skip)
        (repeat refine awp_seq ?_); refine awp_reg1 (by rw [hx]; kernel_rfl) fun K hK => ?_; simp (maxSteps := 1000000) [ty28]
        refine callP (w22) (by first | (simp; done) | (simp [*]; done)) ?_; simp (maxSteps := 1000000) [ty28, ty41]
        refine hK _ ?_; clear hK K; (first | show AWP _ _ _ _ _ | show ∃ _, _ | skip)
        (repeat refine awp_seq ?_); refine awp_reg1 (by rw [hx]; kernel_rfl) fun K hK => ?_; simp (maxSteps := 1000000) [ty28]
        refine callP (c23) (by first | (simp; done) | (simp [*]; done)) ?_; simp (maxSteps := 1000000) [ty28, ty41]
        refine hK _ ?_; clear hK K; (first | show AWP _ _ _ _ _ | show ∃ _, _ | skip)
        (repeat refine awp_seq ?_); refine awp_reg1 (by rw [hx]; kernel_rfl) fun K hK => ?_; simp (maxSteps := 1000000) [ty28]
        refine callP (w23) (by first | (simp; done) | (simp [*]; done)) ?_; simp (maxSteps := 1000000) [ty28, ty41]
        refine hK _ ?_; clear hK K; (first | show AWP _ _ _ _ _ | show ∃ _, _ | skip)
        (repeat refine awp_seq ?_); refine awp_reg1 (by rw [hx]; kernel_rfl) fun K hK => ?_; simp (maxSteps := 1000000) [ty36, ty41, ty3, ty4, k1', a1', a2']
        refine callP (s1) (by first | (simp; done) | (simp [*]; done)) ?_; simp (maxSteps := 1000000) [ty4, ty41]
        refine callP (s2) (by first | (simp; done) | (simp [*]; done)) ?_; simp (maxSteps := 1000000) [ty4, ty41]
        refine callP (works9) (by first | (simp; done) | (simp [*]; done)) ?_; simp (maxSteps := 1000000) [ty4]
        refine hK _ ?_; clear hK K; (first | show AWP _ _ _ _ _ | show ∃ _, _ | skip)
        (repeat refine awp_seq ?_); refine awp_ret ?_; refine And.intro (Or.inr rfl) ?_
        simp [retC, resC, viewC, mapO]
    · (repeat refine awp_seq ?_); refine awp_cond (by simp; rfl) (by rw [hx]; simp) (fun hd => ?_) (fun hd => ?_)
      · clear hd
        by_cases hLo : trL (addT t y) = []
        · have hno := (hfo rfl).2.len
          have hE' := openT_true (hfo rfl).1
          rw [if_pos hLo] at hE'
          have d31 := many31 (addT t y) hno
          have d24 := errs24 (addT t y) c.size hno
          rw [hA] at d24
          have d11 := certify11 (addT t y) c hno
          rw [hc] at d11
          rw [hE'] at d31 d24 d11
          (repeat refine awp_seq ?_); refine awp_reg1 (by rw [hx]; kernel_rfl) fun K hK => ?_; simp (maxSteps := 1000000) [ty28]
          refine callP (d31) (by first | (simp; done) | (simp [*]; done)) ?_; simp (maxSteps := 1000000) [ty28]
          refine hK _ ?_; clear hK K; (first | show AWP _ _ _ _ _ | show ∃ _, _ | skip)
          (repeat refine awp_seq ?_); refine awp_reg1 (by rw [hx]; kernel_rfl) fun K hK => ?_; simp (maxSteps := 1000000) [ty28, ty30, ty3]
          refine callP (d24) (by first | (simp; done) | (simp [*]; done)) ?_; simp (maxSteps := 1000000) [ty28, ty23]
          refine hK _ ?_; clear hK K; (first | show AWP _ _ _ _ _ | show ∃ _, _ | skip)
          (repeat refine awp_seq ?_); refine awp_reg1 (by rw [hx]; kernel_rfl) fun K hK => ?_; simp (maxSteps := 1000000) [ty28, ty30]
          refine callP (d11) (by first | (simp; done) | (simp [*]; done)) ?_; simp (maxSteps := 1000000) [ty28]
          refine hK _ ?_; clear hK K; (first | show AWP _ _ _ _ _ | show ∃ _, _ | skip)
          (repeat refine awp_seq ?_); refine awp_reg1 (by rw [hx]; kernel_rfl) fun K hK => ?_; simp (maxSteps := 1000000) [ty36, ty3, ty23]
          refine callP (l_isKnown36 3) (by first | (simp; done) | (simp [*]; done)) ?_; simp (maxSteps := 1000000) [ty4, ty36, ty3, ty23, ty3]
          refine hK _ ?_; clear hK K; (first | show AWP _ _ _ _ _ | show ∃ _, _ | skip)
          (repeat refine awp_seq ?_); refine awp_cond (by simp; rfl) (by rw [hx]; simp) (fun hd => ?_) (fun hd => ?_)
          · simp at hd
          clear hd
          refine awp_skip ?_; (first | show AWP _ _ _ _ _ | show ∃ _, _ | skip)
          (repeat refine awp_seq ?_); refine awp_reg1 (by rw [hx]; kernel_rfl) fun K hK => ?_; simp (maxSteps := 1000000) [ty28]
          refine callP (c10) (by first | (simp; done) | (simp [*]; done)) ?_; simp (maxSteps := 1000000) [ty28]
          refine hK _ ?_; clear hK K; (first | show AWP _ _ _ _ _ | show ∃ _, _ | skip)
          (repeat refine awp_seq ?_); refine awp_reg1 (by rw [hx]; kernel_rfl) fun K hK => ?_; simp (maxSteps := 1000000) [ty28, ty66, ty3, hwg]; refine hK _ ?_; clear hK K; (first | show AWP _ _ _ _ _ | show ∃ _, _ | skip)
          cases fw
          · (repeat refine awp_seq ?_); refine awp_reg1 (by rw [hx]; kernel_rfl) fun K hK => ?_; simp (maxSteps := 1000000) [ty28]
            refine callP (hW) (by first | (simp; done) | (simp [*]; done)) ?_; simp (maxSteps := 1000000) [ty4, ty36]
            refine hK _ ?_; clear hK K; (first | show AWP _ _ _ _ _ | show ∃ _, _ | skip)
            (repeat refine awp_seq ?_); refine awp_cond (by simp; rfl) (by rw [hx]; simp) (fun hd => ?_) (fun hd => ?_)
            · clear hd
              (repeat refine awp_seq ?_); refine awp_reg1 (by rw [hx]; kernel_rfl) fun K hK => ?_; simp (maxSteps := 1000000) []
              refine callP (works9) (by first | (simp; done) | (simp [*]; done)) ?_; simp (maxSteps := 1000000) []
              refine hK _ ?_; clear hK K; (first | show AWP _ _ _ _ _ | show ∃ _, _ | skip)
              (repeat refine awp_seq ?_); refine awp_ret ?_; refine And.intro (Or.inr rfl) ?_
              simp [retC, resC, viewC, mapO]
            · simp at hd
          · (repeat refine awp_seq ?_); refine awp_reg1 (by rw [hx]; kernel_rfl) fun K hK => ?_; simp (maxSteps := 1000000) [ty28]
            refine callP (hW) (by first | (simp; done) | (simp [*]; done)) ?_; simp (maxSteps := 1000000) [ty4, ty36]
            refine hK _ ?_; clear hK K; (first | show AWP _ _ _ _ _ | show ∃ _, _ | skip)
            (repeat refine awp_seq ?_); refine awp_cond (by simp; rfl) (by rw [hx]; simp) (fun hd => ?_) (fun hd => ?_)
            · simp at hd
            clear hd
            refine awp_skip ?_; (first | show AWP _ _ _ _ _ | show ∃ _, _ | skip)
            have hnw := (hfw rfl).2.len
            have hgw := (checkT_ok.1 (hfw rfl).1).gain
            have hws := wide_sub t (g := g) (by omega)
            have hLw : trL (wideT t g) ≠ [] := by
              obtain ⟨k, hk⟩ := List.exists_mem_of_ne_nil _ hL
              exact List.ne_nil_of_mem (hws k hk)
            have hEw := openT_true (hfw rfl).1
            rw [if_neg hLw] at hEw
            have w31 := many31 (wideT t g) hnw
            rw [hEw] at w31
            have w22 := gains22 (wideT t g) hnw
            rw [hEw] at w22
            have w23 := skews23 (wideT t g) hnw
            rw [hEw] at w23
            have c22 := gains22 t hn
            rw [hE] at c22
            have c23 := skews23 t hn
            rw [hE] at c23
            have k1 := many_sub hEw hE hws
            have k1' : (manyT t : Int) ≤ (manyT (wideT t g) : Int) := by omega
            have k2 := nums_sub (f := Tr.area) hEw hE hws
            have k3 := nums_sub (f := Tr.skew) hEw hE hws
            have a1 := gains_len (wideT t g)
            have a2 := skews_len' (wideT t g)
            have a1' : ((numsT Tr.area (wideT t g) true).length : Int) ≤ 200 := by omega
            have a2' : ((numsT Tr.skew (wideT t g) true).length : Int) ≤ 200 := by omega
            have s1 := l_subset37 (numsT Tr.area t true).isEmpty (numsT Tr.area t true).isEmpty (numsT Tr.area (wideT t g) true).isEmpty (numsT Tr.area (wideT t g) true).isEmpty _ _ (by omega) (by omega) k2.1 k2.2
            have s2 := l_subset37 (numsT Tr.skew t true).isEmpty (numsT Tr.skew t true).isEmpty (numsT Tr.skew (wideT t g) true).isEmpty (numsT Tr.skew (wideT t g) true).isEmpty _ _ (by omega) (by omega) k3.1 k3.2
            (repeat refine awp_seq ?_); refine awp_reg1 (by rw [hx]; kernel_rfl) fun K hK => ?_; simp (maxSteps := 1000000) [ty28]
            refine callP (w31) (by first | (simp; done) | (simp [*]; done)) ?_; simp (maxSteps := 1000000) [ty28]
            refine hK _ ?_; clear hK K; (first | show AWP _ _ _ _ _ | show ∃ _, _ | skip)
            (repeat refine awp_seq ?_); refine awp_reg1 (by rw [hx]; kernel_rfl) fun K hK => ?_; simp (maxSteps := 1000000) [ty28]
            refine callP (c22) (by first | (simp; done) | (simp [*]; done)) ?_; simp (maxSteps := 1000000) [ty28, ty41]
            refine hK _ ?_; clear hK K; (first | show AWP _ _ _ _ _ | show ∃ _, _ | skip)
            (repeat refine awp_seq ?_); refine awp_reg1 (by rw [hx]; kernel_rfl) fun K hK => ?_; simp (maxSteps := 1000000) [ty28]
            refine callP (w22) (by first | (simp; done) | (simp [*]; done)) ?_; simp (maxSteps := 1000000) [ty28, ty41]
            refine hK _ ?_; clear hK K; (first | show AWP _ _ _ _ _ | show ∃ _, _ | skip)
            (repeat refine awp_seq ?_); refine awp_reg1 (by rw [hx]; kernel_rfl) fun K hK => ?_; simp (maxSteps := 1000000) [ty28]
            refine callP (c23) (by first | (simp; done) | (simp [*]; done)) ?_; simp (maxSteps := 1000000) [ty28, ty41]
            refine hK _ ?_; clear hK K; (first | show AWP _ _ _ _ _ | show ∃ _, _ | skip)
            (repeat refine awp_seq ?_); refine awp_reg1 (by rw [hx]; kernel_rfl) fun K hK => ?_; simp (maxSteps := 1000000) [ty28]
            refine callP (w23) (by first | (simp; done) | (simp [*]; done)) ?_; simp (maxSteps := 1000000) [ty28, ty41]
            refine hK _ ?_; clear hK K; (first | show AWP _ _ _ _ _ | show ∃ _, _ | skip)
            (repeat refine awp_seq ?_); refine awp_reg1 (by rw [hx]; kernel_rfl) fun K hK => ?_; simp (maxSteps := 1000000) [ty36, ty41, ty3, ty4, k1', a1', a2']
            refine callP (s1) (by first | (simp; done) | (simp [*]; done)) ?_; simp (maxSteps := 1000000) [ty4, ty41]
            refine callP (s2) (by first | (simp; done) | (simp [*]; done)) ?_; simp (maxSteps := 1000000) [ty4, ty41]
            refine callP (works9) (by first | (simp; done) | (simp [*]; done)) ?_; simp (maxSteps := 1000000) [ty4]
            refine hK _ ?_; clear hK K; (first | show AWP _ _ _ _ _ | show ∃ _, _ | skip)
            (repeat refine awp_seq ?_); refine awp_ret ?_; refine And.intro (Or.inr rfl) ?_
            simp [retC, resC, viewC, mapO]
        · have hE' := openT_true (hfo rfl).1
          rw [if_neg hLo] at hE'
          have m1 := many_sub hE hE' (add_sub t y)
          have m2 := ends_sub (f := fun k => errI k c.size) hE hE' (add_sub t y)
          have m3 := cert_sub hc hE hE' (add_sub t y)
          have n1 : ¬ manyT t < manyT (addT t y) := by omega
          have n2 : ¬ (endsT (fun k => errI k c.size) (addT t y) true).1 < (endsT (fun k => errI k c.size) t true).1 := by omega
          have n3 : ¬ (endsT (fun k => errI k c.size) t true).2 < (endsT (fun k => errI k c.size) (addT t y) true).2 := by omega
          by_cases m4 : certT t c = 3
          · have hno := (hfo rfl).2.len
            have hE' := openT_true (hfo rfl).1
            rw [if_neg hLo] at hE'
            have d31 := many31 (addT t y) hno
            have d24 := errs24 (addT t y) c.size hno
            rw [hA] at d24
            have d11 := certify11 (addT t y) c hno
            rw [hc] at d11
            rw [hE'] at d31 d24 d11
            (repeat refine awp_seq ?_); refine awp_reg1 (by rw [hx]; kernel_rfl) fun K hK => ?_; simp (maxSteps := 1000000) [ty28]
            refine callP (d31) (by first | (simp; done) | (simp [*]; done)) ?_; simp (maxSteps := 1000000) [ty28]
            refine hK _ ?_; clear hK K; (first | show AWP _ _ _ _ _ | show ∃ _, _ | skip)
            (repeat refine awp_seq ?_); refine awp_reg1 (by rw [hx]; kernel_rfl) fun K hK => ?_; simp (maxSteps := 1000000) [ty28, ty30, ty3]
            refine callP (d24) (by first | (simp; done) | (simp [*]; done)) ?_; simp (maxSteps := 1000000) [ty28, ty23]
            refine hK _ ?_; clear hK K; (first | show AWP _ _ _ _ _ | show ∃ _, _ | skip)
            (repeat refine awp_seq ?_); refine awp_reg1 (by rw [hx]; kernel_rfl) fun K hK => ?_; simp (maxSteps := 1000000) [ty28, ty30]
            refine callP (d11) (by first | (simp; done) | (simp [*]; done)) ?_; simp (maxSteps := 1000000) [ty28]
            refine hK _ ?_; clear hK K; (first | show AWP _ _ _ _ _ | show ∃ _, _ | skip)
            (repeat refine awp_seq ?_); refine awp_reg1 (by rw [hx]; kernel_rfl) fun K hK => ?_; simp (maxSteps := 1000000) [ty36, ty3, ty23]
            refine callP (l_isKnown36 0) (by first | (simp; done) | (simp [*]; done)) ?_; simp (maxSteps := 1000000) [ty4, ty36, ty3, ty23, n1, n2, n3, m4]
            refine hK _ ?_; clear hK K; (first | show AWP _ _ _ _ _ | show ∃ _, _ | skip)
            (repeat refine awp_seq ?_); refine awp_cond (by simp; rfl) (by rw [hx]; simp) (fun hd => ?_) (fun hd => ?_)
            · simp at hd
            clear hd
            refine awp_skip ?_; (first | show AWP _ _ _ _ _ | show ∃ _, _ | skip)
            (repeat refine awp_seq ?_); refine awp_reg1 (by rw [hx]; kernel_rfl) fun K hK => ?_; simp (maxSteps := 1000000) [ty28]
            refine callP (c10) (by first | (simp; done) | (simp [*]; done)) ?_; simp (maxSteps := 1000000) [ty28]
            refine hK _ ?_; clear hK K; (first | show AWP _ _ _ _ _ | show ∃ _, _ | skip)
            (repeat refine awp_seq ?_); refine awp_reg1 (by rw [hx]; kernel_rfl) fun K hK => ?_; simp (maxSteps := 1000000) [ty28, ty66, ty3, hwg]; refine hK _ ?_; clear hK K; (first | show AWP _ _ _ _ _ | show ∃ _, _ | skip)
            cases fw
            · (repeat refine awp_seq ?_); refine awp_reg1 (by rw [hx]; kernel_rfl) fun K hK => ?_; simp (maxSteps := 1000000) [ty28]
              refine callP (hW) (by first | (simp; done) | (simp [*]; done)) ?_; simp (maxSteps := 1000000) [ty4, ty36]
              refine hK _ ?_; clear hK K; (first | show AWP _ _ _ _ _ | show ∃ _, _ | skip)
              (repeat refine awp_seq ?_); refine awp_cond (by simp; rfl) (by rw [hx]; simp) (fun hd => ?_) (fun hd => ?_)
              · clear hd
                (repeat refine awp_seq ?_); refine awp_reg1 (by rw [hx]; kernel_rfl) fun K hK => ?_; simp (maxSteps := 1000000) []
                refine callP (works9) (by first | (simp; done) | (simp [*]; done)) ?_; simp (maxSteps := 1000000) []
                refine hK _ ?_; clear hK K; (first | show AWP _ _ _ _ _ | show ∃ _, _ | skip)
                (repeat refine awp_seq ?_); refine awp_ret ?_; refine And.intro (Or.inr rfl) ?_
                simp [retC, resC, viewC, mapO]
              · simp at hd
            · (repeat refine awp_seq ?_); refine awp_reg1 (by rw [hx]; kernel_rfl) fun K hK => ?_; simp (maxSteps := 1000000) [ty28]
              refine callP (hW) (by first | (simp; done) | (simp [*]; done)) ?_; simp (maxSteps := 1000000) [ty4, ty36]
              refine hK _ ?_; clear hK K; (first | show AWP _ _ _ _ _ | show ∃ _, _ | skip)
              (repeat refine awp_seq ?_); refine awp_cond (by simp; rfl) (by rw [hx]; simp) (fun hd => ?_) (fun hd => ?_)
              · simp at hd
              clear hd
              refine awp_skip ?_; (first | show AWP _ _ _ _ _ | show ∃ _, _ | skip)
              have hnw := (hfw rfl).2.len
              have hgw := (checkT_ok.1 (hfw rfl).1).gain
              have hws := wide_sub t (g := g) (by omega)
              have hLw : trL (wideT t g) ≠ [] := by
                obtain ⟨k, hk⟩ := List.exists_mem_of_ne_nil _ hL
                exact List.ne_nil_of_mem (hws k hk)
              have hEw := openT_true (hfw rfl).1
              rw [if_neg hLw] at hEw
              have w31 := many31 (wideT t g) hnw
              rw [hEw] at w31
              have w22 := gains22 (wideT t g) hnw
              rw [hEw] at w22
              have w23 := skews23 (wideT t g) hnw
              rw [hEw] at w23
              have c22 := gains22 t hn
              rw [hE] at c22
              have c23 := skews23 t hn
              rw [hE] at c23
              have k1 := many_sub hEw hE hws
              have k1' : (manyT t : Int) ≤ (manyT (wideT t g) : Int) := by omega
              have k2 := nums_sub (f := Tr.area) hEw hE hws
              have k3 := nums_sub (f := Tr.skew) hEw hE hws
              have a1 := gains_len (wideT t g)
              have a2 := skews_len' (wideT t g)
              have a1' : ((numsT Tr.area (wideT t g) true).length : Int) ≤ 200 := by omega
              have a2' : ((numsT Tr.skew (wideT t g) true).length : Int) ≤ 200 := by omega
              have s1 := l_subset37 (numsT Tr.area t true).isEmpty (numsT Tr.area t true).isEmpty (numsT Tr.area (wideT t g) true).isEmpty (numsT Tr.area (wideT t g) true).isEmpty _ _ (by omega) (by omega) k2.1 k2.2
              have s2 := l_subset37 (numsT Tr.skew t true).isEmpty (numsT Tr.skew t true).isEmpty (numsT Tr.skew (wideT t g) true).isEmpty (numsT Tr.skew (wideT t g) true).isEmpty _ _ (by omega) (by omega) k3.1 k3.2
              (repeat refine awp_seq ?_); refine awp_reg1 (by rw [hx]; kernel_rfl) fun K hK => ?_; simp (maxSteps := 1000000) [ty28]
              refine callP (w31) (by first | (simp; done) | (simp [*]; done)) ?_; simp (maxSteps := 1000000) [ty28]
              refine hK _ ?_; clear hK K; (first | show AWP _ _ _ _ _ | show ∃ _, _ | skip)
              (repeat refine awp_seq ?_); refine awp_reg1 (by rw [hx]; kernel_rfl) fun K hK => ?_; simp (maxSteps := 1000000) [ty28]
              refine callP (c22) (by first | (simp; done) | (simp [*]; done)) ?_; simp (maxSteps := 1000000) [ty28, ty41]
              refine hK _ ?_; clear hK K; (first | show AWP _ _ _ _ _ | show ∃ _, _ | skip)
              (repeat refine awp_seq ?_); refine awp_reg1 (by rw [hx]; kernel_rfl) fun K hK => ?_; simp (maxSteps := 1000000) [ty28]
              refine callP (w22) (by first | (simp; done) | (simp [*]; done)) ?_; simp (maxSteps := 1000000) [ty28, ty41]
              refine hK _ ?_; clear hK K; (first | show AWP _ _ _ _ _ | show ∃ _, _ | skip)
              (repeat refine awp_seq ?_); refine awp_reg1 (by rw [hx]; kernel_rfl) fun K hK => ?_; simp (maxSteps := 1000000) [ty28]
              refine callP (c23) (by first | (simp; done) | (simp [*]; done)) ?_; simp (maxSteps := 1000000) [ty28, ty41]
              refine hK _ ?_; clear hK K; (first | show AWP _ _ _ _ _ | show ∃ _, _ | skip)
              (repeat refine awp_seq ?_); refine awp_reg1 (by rw [hx]; kernel_rfl) fun K hK => ?_; simp (maxSteps := 1000000) [ty28]
              refine callP (w23) (by first | (simp; done) | (simp [*]; done)) ?_; simp (maxSteps := 1000000) [ty28, ty41]
              refine hK _ ?_; clear hK K; (first | show AWP _ _ _ _ _ | show ∃ _, _ | skip)
              (repeat refine awp_seq ?_); refine awp_reg1 (by rw [hx]; kernel_rfl) fun K hK => ?_; simp (maxSteps := 1000000) [ty36, ty41, ty3, ty4, k1', a1', a2']
              refine callP (s1) (by first | (simp; done) | (simp [*]; done)) ?_; simp (maxSteps := 1000000) [ty4, ty41]
              refine callP (s2) (by first | (simp; done) | (simp [*]; done)) ?_; simp (maxSteps := 1000000) [ty4, ty41]
              refine callP (works9) (by first | (simp; done) | (simp [*]; done)) ?_; simp (maxSteps := 1000000) [ty4]
              refine hK _ ?_; clear hK K; (first | show AWP _ _ _ _ _ | show ∃ _, _ | skip)
              (repeat refine awp_seq ?_); refine awp_ret ?_; refine And.intro (Or.inr rfl) ?_
              simp [retC, resC, viewC, mapO]
          · have m5 := m3.resolve_left m4
            have m6 : (certT t c != 3) = true := by simpa using m4
            have m7 : (certT t c == 3) = false := by simpa using m4
            have hno := (hfo rfl).2.len
            have hE' := openT_true (hfo rfl).1
            rw [if_neg hLo] at hE'
            have d31 := many31 (addT t y) hno
            have d24 := errs24 (addT t y) c.size hno
            rw [hA] at d24
            have d11 := certify11 (addT t y) c hno
            rw [hc] at d11
            rw [hE'] at d31 d24 d11
            (repeat refine awp_seq ?_); refine awp_reg1 (by rw [hx]; kernel_rfl) fun K hK => ?_; simp (maxSteps := 1000000) [ty28]
            refine callP (d31) (by first | (simp; done) | (simp [*]; done)) ?_; simp (maxSteps := 1000000) [ty28]
            refine hK _ ?_; clear hK K; (first | show AWP _ _ _ _ _ | show ∃ _, _ | skip)
            (repeat refine awp_seq ?_); refine awp_reg1 (by rw [hx]; kernel_rfl) fun K hK => ?_; simp (maxSteps := 1000000) [ty28, ty30, ty3]
            refine callP (d24) (by first | (simp; done) | (simp [*]; done)) ?_; simp (maxSteps := 1000000) [ty28, ty23]
            refine hK _ ?_; clear hK K; (first | show AWP _ _ _ _ _ | show ∃ _, _ | skip)
            (repeat refine awp_seq ?_); refine awp_reg1 (by rw [hx]; kernel_rfl) fun K hK => ?_; simp (maxSteps := 1000000) [ty28, ty30]
            refine callP (d11) (by first | (simp; done) | (simp [*]; done)) ?_; simp (maxSteps := 1000000) [ty28]
            refine hK _ ?_; clear hK K; (first | show AWP _ _ _ _ _ | show ∃ _, _ | skip)
            (repeat refine awp_seq ?_); refine awp_reg1 (by rw [hx]; kernel_rfl) fun K hK => ?_; simp (maxSteps := 1000000) [ty36, ty3, ty23]
            refine callP (l_isKnown36 0) (by first | (simp; done) | (simp [*]; done)) ?_; simp (maxSteps := 1000000) [ty4, ty36, ty3, ty23, n1, n2, n3, m4, m5, m6, m7]
            refine hK _ ?_; clear hK K; (first | show AWP _ _ _ _ _ | show ∃ _, _ | skip)
            (repeat refine awp_seq ?_); refine awp_cond (by simp; rfl) (by rw [hx]; simp) (fun hd => ?_) (fun hd => ?_)
            · simp at hd
            clear hd
            refine awp_skip ?_; (first | show AWP _ _ _ _ _ | show ∃ _, _ | skip)
            (repeat refine awp_seq ?_); refine awp_reg1 (by rw [hx]; kernel_rfl) fun K hK => ?_; simp (maxSteps := 1000000) [ty28]
            refine callP (c10) (by first | (simp; done) | (simp [*]; done)) ?_; simp (maxSteps := 1000000) [ty28]
            refine hK _ ?_; clear hK K; (first | show AWP _ _ _ _ _ | show ∃ _, _ | skip)
            (repeat refine awp_seq ?_); refine awp_reg1 (by rw [hx]; kernel_rfl) fun K hK => ?_; simp (maxSteps := 1000000) [ty28, ty66, ty3, hwg]; refine hK _ ?_; clear hK K; (first | show AWP _ _ _ _ _ | show ∃ _, _ | skip)
            cases fw
            · (repeat refine awp_seq ?_); refine awp_reg1 (by rw [hx]; kernel_rfl) fun K hK => ?_; simp (maxSteps := 1000000) [ty28]
              refine callP (hW) (by first | (simp; done) | (simp [*]; done)) ?_; simp (maxSteps := 1000000) [ty4, ty36]
              refine hK _ ?_; clear hK K; (first | show AWP _ _ _ _ _ | show ∃ _, _ | skip)
              (repeat refine awp_seq ?_); refine awp_cond (by simp; rfl) (by rw [hx]; simp) (fun hd => ?_) (fun hd => ?_)
              · clear hd
                (repeat refine awp_seq ?_); refine awp_reg1 (by rw [hx]; kernel_rfl) fun K hK => ?_; simp (maxSteps := 1000000) []
                refine callP (works9) (by first | (simp; done) | (simp [*]; done)) ?_; simp (maxSteps := 1000000) []
                refine hK _ ?_; clear hK K; (first | show AWP _ _ _ _ _ | show ∃ _, _ | skip)
                (repeat refine awp_seq ?_); refine awp_ret ?_; refine And.intro (Or.inr rfl) ?_
                simp [retC, resC, viewC, mapO]
              · simp at hd
            · (repeat refine awp_seq ?_); refine awp_reg1 (by rw [hx]; kernel_rfl) fun K hK => ?_; simp (maxSteps := 1000000) [ty28]
              refine callP (hW) (by first | (simp; done) | (simp [*]; done)) ?_; simp (maxSteps := 1000000) [ty4, ty36]
              refine hK _ ?_; clear hK K; (first | show AWP _ _ _ _ _ | show ∃ _, _ | skip)
              (repeat refine awp_seq ?_); refine awp_cond (by simp; rfl) (by rw [hx]; simp) (fun hd => ?_) (fun hd => ?_)
              · simp at hd
              clear hd
              refine awp_skip ?_; (first | show AWP _ _ _ _ _ | show ∃ _, _ | skip)
              have hnw := (hfw rfl).2.len
              have hgw := (checkT_ok.1 (hfw rfl).1).gain
              have hws := wide_sub t (g := g) (by omega)
              have hLw : trL (wideT t g) ≠ [] := by
                obtain ⟨k, hk⟩ := List.exists_mem_of_ne_nil _ hL
                exact List.ne_nil_of_mem (hws k hk)
              have hEw := openT_true (hfw rfl).1
              rw [if_neg hLw] at hEw
              have w31 := many31 (wideT t g) hnw
              rw [hEw] at w31
              have w22 := gains22 (wideT t g) hnw
              rw [hEw] at w22
              have w23 := skews23 (wideT t g) hnw
              rw [hEw] at w23
              have c22 := gains22 t hn
              rw [hE] at c22
              have c23 := skews23 t hn
              rw [hE] at c23
              have k1 := many_sub hEw hE hws
              have k1' : (manyT t : Int) ≤ (manyT (wideT t g) : Int) := by omega
              have k2 := nums_sub (f := Tr.area) hEw hE hws
              have k3 := nums_sub (f := Tr.skew) hEw hE hws
              have a1 := gains_len (wideT t g)
              have a2 := skews_len' (wideT t g)
              have a1' : ((numsT Tr.area (wideT t g) true).length : Int) ≤ 200 := by omega
              have a2' : ((numsT Tr.skew (wideT t g) true).length : Int) ≤ 200 := by omega
              have s1 := l_subset37 (numsT Tr.area t true).isEmpty (numsT Tr.area t true).isEmpty (numsT Tr.area (wideT t g) true).isEmpty (numsT Tr.area (wideT t g) true).isEmpty _ _ (by omega) (by omega) k2.1 k2.2
              have s2 := l_subset37 (numsT Tr.skew t true).isEmpty (numsT Tr.skew t true).isEmpty (numsT Tr.skew (wideT t g) true).isEmpty (numsT Tr.skew (wideT t g) true).isEmpty _ _ (by omega) (by omega) k3.1 k3.2
              (repeat refine awp_seq ?_); refine awp_reg1 (by rw [hx]; kernel_rfl) fun K hK => ?_; simp (maxSteps := 1000000) [ty28]
              refine callP (w31) (by first | (simp; done) | (simp [*]; done)) ?_; simp (maxSteps := 1000000) [ty28]
              refine hK _ ?_; clear hK K; (first | show AWP _ _ _ _ _ | show ∃ _, _ | skip)
              (repeat refine awp_seq ?_); refine awp_reg1 (by rw [hx]; kernel_rfl) fun K hK => ?_; simp (maxSteps := 1000000) [ty28]
              refine callP (c22) (by first | (simp; done) | (simp [*]; done)) ?_; simp (maxSteps := 1000000) [ty28, ty41]
              refine hK _ ?_; clear hK K; (first | show AWP _ _ _ _ _ | show ∃ _, _ | skip)
              (repeat refine awp_seq ?_); refine awp_reg1 (by rw [hx]; kernel_rfl) fun K hK => ?_; simp (maxSteps := 1000000) [ty28]
              refine callP (w22) (by first | (simp; done) | (simp [*]; done)) ?_; simp (maxSteps := 1000000) [ty28, ty41]
              refine hK _ ?_; clear hK K; (first | show AWP _ _ _ _ _ | show ∃ _, _ | skip)
              (repeat refine awp_seq ?_); refine awp_reg1 (by rw [hx]; kernel_rfl) fun K hK => ?_; simp (maxSteps := 1000000) [ty28]
              refine callP (c23) (by first | (simp; done) | (simp [*]; done)) ?_; simp (maxSteps := 1000000) [ty28, ty41]
              refine hK _ ?_; clear hK K; (first | show AWP _ _ _ _ _ | show ∃ _, _ | skip)
              (repeat refine awp_seq ?_); refine awp_reg1 (by rw [hx]; kernel_rfl) fun K hK => ?_; simp (maxSteps := 1000000) [ty28]
              refine callP (w23) (by first | (simp; done) | (simp [*]; done)) ?_; simp (maxSteps := 1000000) [ty28, ty41]
              refine hK _ ?_; clear hK K; (first | show AWP _ _ _ _ _ | show ∃ _, _ | skip)
              (repeat refine awp_seq ?_); refine awp_reg1 (by rw [hx]; kernel_rfl) fun K hK => ?_; simp (maxSteps := 1000000) [ty36, ty41, ty3, ty4, k1', a1', a2']
              refine callP (s1) (by first | (simp; done) | (simp [*]; done)) ?_; simp (maxSteps := 1000000) [ty4, ty41]
              refine callP (s2) (by first | (simp; done) | (simp [*]; done)) ?_; simp (maxSteps := 1000000) [ty4, ty41]
              refine callP (works9) (by first | (simp; done) | (simp [*]; done)) ?_; simp (maxSteps := 1000000) [ty4]
              refine hK _ ?_; clear hK K; (first | show AWP _ _ _ _ _ | show ∃ _, _ | skip)
              (repeat refine awp_seq ?_); refine awp_ret ?_; refine And.intro (Or.inr rfl) ?_
              simp [retC, resC, viewC, mapO]
      · simp at hd

end Go.Proofs.YtbhbmnofmoibhaaGreat

namespace Go.Proofs.YtbhbmnofmoibhaaGreat
open Go Go.Abs
open Go.ChangeShapes Go.WideShapes Go.ChangeAt Go.RowKit

set_option maxRecDepth 100000 in
theorem trialsMore_lifted (os : Os) (started : os.Started) (H : Type) (enc : TypeId × Value → H) :
    ReturnsInHanded {} Tryz.checked os 6 .any (Rows.trialsMoreSpec.pre6 enc Tryz.prog Tryz.f6 Rows.trialsMoreRow.domain false) (Rows.trialsMoreSpec.post enc Tryz.prog Tryz.f6 false true false false) := by
  refine returnsInHanded_of_change (C := Tryz.checked) J.own started (by kernel_rfl) Tryz.func6
    (ChangeSpec.witness6 (enc := enc) (C := Tryz.checked) false ⟨#[], #[.agg #[.int .i64 0, .int .i64 0, .int .i64 0, .int .i64 0, .int .i64 0, .int .i64 0, .int .i64 0, .int .i64 0, .int .i64 0, .slice none 0 0], .agg #[.int .i64 0, .slice none 0 0, .int .i64 0], .agg #[.int .i64 0, .int .i64 0]], []⟩ 8 (by kernel_rfl) (by kernel_rfl) (by kernel_rfl) (by kernel_rfl)) ?_
  intro W base args ds gs before hval hW _ _
  refine law_contract (P := Tryz.prog) (tb := 4) (by kernel_rfl) J.ub rfl (fun ds hl => ?_) J.laid J.maps J.sized (by kernel_rfl) (by kernel_rfl) (fun cargs hc => ?_) W base args ds gs before hval hW
  · have h2 : ds.length = 3 := hl
    match ds, h2 with
    | [_, _, _], _ => rfl
  · rw [Tryz.params6] at hc
    obtain ⟨t, r, rfl, hc1⟩ := arg28 hc
    obtain ⟨y, g, r', rfl, hc2⟩ := arg66 hc1
    obtain ⟨c, r'', rfl, hc3⟩ := arg30 hc2
    obtain rfl := arg_end hc3
    exact law6 t y g c

theorem trialsMore_holds : Rows.TrialsMoreSaid :=
  OpenClaim.holds_of_wide 6 Tryz.f6 rfl rfl rfl rfl rfl rfl rfl ⟨rfl, rfl, rfl, rfl, rfl⟩ rfl rfl rfl rfl rfl (by kernel_rfl) Tryz.func6 (by kernel_rfl)
    (of_decide_eq_true (by kernel_rfl)) (by unfold Func.isWrapper; first | (rw [if_pos (by decide +kernel)]; kernel_rfl) | (rw [if_neg (by decide +kernel)]; exact ⟨rfl, rfl⟩))
    (fun os started H enc _ => trialsMore_lifted os started H enc)
#print axioms trialsMore_holds
end Go.Proofs.YtbhbmnofmoibhaaGreat

