/- For every input the law TrialsSeen returns true, and each argument reads afterwards as it read before. No condition. -/
import Derived.Test.YtbhbmnofmoibhaaGreatB5

set_option linter.unusedSimpArgs false
set_option linter.unusedVariables false
set_option linter.constructorNameAsVariable false

namespace Go.Proofs.YtbhbmnofmoibhaaGreat
open Go Go.Abs

set_option maxHeartbeats 8000000

-- the copy is answered the same

theorem checksI_copy (w : Wh) : ∀ l : List Ts, checksI w (l.map copyY) = checksI w l
  | [] => rfl
  | y :: l => by
    have ih := checksI_copy w l
    simp only [List.map_cons, checksI, ih]
    rfl
theorem copy_check (t : Ti) : checkT (copyT t) = checkT t := by
  unfold checkT
  have e1 : (copyT t).ts = t.ts.map copyY := rfl
  have e2 : (copyT t).w = t.w := rfl
  have e3 : (copyT t).gain = t.gain := rfl
  rw [e1, e2, e3, List.length_map, List.all_map, checksI_copy]
  have e4 : ((fun x : Ts => areaB x.area) ∘ copyY) = fun x => areaB x.area := rfl
  have e5 : (t.ts.map copyY = []) = (t.ts = []) := by simp
  simp only [e4, e5]
theorem copy_okS (t : Ti) (n : Nat) (k : Tr) : okS (copyT t) n k = okS t n k := by
  unfold okS
  have e1 : (copyT t).ts = t.ts.map copyY := rfl
  rw [e1, List.length_map]
  congr 1
  funext i
  rw [List.getElem?_map]
  cases t.ts[i]? <;> rfl
theorem copy_truths (t : Ti) (n : Nat) : truthsS (copyT t) n = truthsS t n := by
  unfold truthsS
  have : okS (copyT t) n = okS t n := by funext k; exact copy_okS t n k
  rw [this]
  rfl
theorem copy_allS (t : Ti) : allS (copyT t) = allS t := by
  unfold allS
  have e1 : (copyT t).ts = t.ts.map copyY := rfl
  rw [e1, List.length_map]
theorem copy_openT (t : Ti) (is : Bool) : openT (copyT t) is = openT t is := by unfold openT; rw [copy_check, copy_allS, copy_truths]
theorem copy_nums (f : Tr → Int) (t : Ti) (is : Bool) : numsT f (copyT t) is = numsT f t is := by unfold numsT; rw [copy_openT, copy_allS, copy_truths]
theorem copy_ends (f : Tr → Int) (t : Ti) (is : Bool) : endsT f (copyT t) is = endsT f t is := by unfold endsT; rw [copy_nums]
theorem copy_many (t : Ti) : manyT (copyT t) = manyT t := by unfold manyT; rw [copy_openT, copy_allS, copy_truths]
theorem copy_cert (t : Ti) (c : Cl) : certT (copyT t) c = certT t c := by unfold certT; rw [copy_openT, copy_allS, copy_truths]
theorem copy_realE (t : Ti) (s : Int) : realE (copyT t) s = realE t s := by unfold realE; rw [copy_check, copy_openT]
theorem copy_realL (t : Ti) (s : Int) : realL (copyT t) s = realL t s := by unfold realL; rw [copy_realE, copy_nums]
theorem copy_dec (t : Ti) (c : Cl) : decSets (copyT t) c = decSets t c := by
  unfold decSets
  have e1 : (copyT t).ts = t.ts.map copyY := rfl
  rw [e1, List.length_map]
  congr 1
  funext s
  unfold cdB
  rw [copy_truths]
theorem copy_decE (t : Ti) (c : Cl) : decE (copyT t) c = decE t c := by unfold decE; rw [copy_openT, copy_dec]
theorem copy_few (t : Ti) (c : Cl) : fewestT (copyT t) c = fewestT t c := by unfold fewestT; rw [copy_decE, copy_dec]
theorem copy_listS (t : Ti) (s : Nat) : listS (copyT t) s = listS t s := by
  unfold listS
  have e1 : (copyT t).ts = t.ts.map copyY := rfl
  rw [e1, List.length_map]
theorem copy_need (t : Ti) (c : Cl) : neededT (copyT t) c = neededT t c := by unfold neededT; rw [copy_decE, copy_dec, copy_allS, copy_listS]
theorem copy_decide (t : Ti) (c : Cl) : decideT (copyT t) c = decideT t c := by unfold decideT; rw [copy_decE, copy_dec, copy_listS]
theorem copy_len {t : Ti} (h : TiLen t) : TiLen (copyT t) := by
  have e1 : (copyT t).ts = t.ts.map copyY := rfl
  refine ⟨by rw [e1, List.length_map]; exact h.ts, fun y hy => ?_⟩
  rw [e1] at hy
  obtain ⟨z, hz, rfl⟩ := List.mem_map.1 hy
  exact h.l z hz

theorem realL_len (t : Ti) (s : Int) : (realL t s).length ≤ 9001 := by
  unfold realL
  split
  · exact fixTo_len _ _
  · simp

theorem law5 (t : Ti) (a : Int) : Pure Tryz.prog 5 [encTi t, encI a] (.bool true) := by
  obtain ⟨f, hF, hf⟩ := far8 t
  refine pure_of (fn := Tryz.f5) [.tmp 4] ⟨Tryz.func5, rfl, by kernel_rfl⟩ (by kernel_rfl) (by kernel_rfl) (by kernel_rfl) fun x hx hσ => ?_
  (repeat refine awp_seq ?_); refine awp_reg1 (by rw [hx]; kernel_rfl) fun K hK => ?_; simp (maxSteps := 1000000) [ty28]; refine hK _ ?_; clear hK K; (first | show AWP _ _ _ _ _ | show ∃ _, _ | skip)
  (repeat refine awp_seq ?_); refine awp_reg1 (by rw [hx]; kernel_rfl) fun K hK => ?_; simp (maxSteps := 1000000) [ty28]
  refine callP (hF) (by first | (simp; done) | (simp [*]; done)) ?_; simp (maxSteps := 1000000) [ty4]
  refine hK _ ?_; clear hK K; (first | show AWP _ _ _ _ _ | show ∃ _, _ | skip)
  cases f
  · have hn := (hf rfl).len
    have hm := copy_len hn
    have c29 := check29 (copyT t) hm
    rw [copy_check] at c29
    have c31 := many31 (copyT t) hm
    rw [copy_many, copy_openT] at c31
    have c22 := gains22 (copyT t) hm
    rw [copy_nums, copy_openT] at c22
    have c23 := skews23 (copyT t) hm
    rw [copy_nums, copy_openT] at c23
    have c24 := errs24 (copyT t) a hm
    rw [copy_ends, copy_openT] at c24
    have g1 := numsT_len Tr.area t true
    have g2 := numsT_len Tr.skew t true
    have c10 := q_copy10 t hn
    have c18 := l_same18 t hn
    obtain ⟨o, ho⟩ : ∃ o, o = copyT t := ⟨_, rfl⟩
    rw [← ho] at *
    have s1 := same29 (numsT Tr.area t true).isEmpty (numsT Tr.area t true).isEmpty (numsT Tr.area t true).isEmpty false (numsT Tr.area t true) (numsT Tr.area t true) (by omega) (by omega)
    have s2 := same29 (numsT Tr.skew t true).isEmpty (numsT Tr.skew t true).isEmpty (numsT Tr.skew t true).isEmpty (openT t true != 0) (numsT Tr.skew t true) (numsT Tr.skew t true) (by omega) (by omega)
    simp only [decide_true] at s1 s2
    have he2 : ∀ p : Int × Int, eqInts [.i64, .i64] [.int .i64 p.1, .int .i64 p.2] [.int .i64 p.1, .int .i64 p.2] = some true := fun p => by simp [eqInts]
    (repeat refine awp_seq ?_); refine awp_cond (by simp; rfl) (by rw [hx]; simp) (fun hd => ?_) (fun hd => ?_)
    · simp at hd
    · clear hd
      refine awp_skip ?_; (first | show AWP _ _ _ _ _ | show ∃ _, _ | skip)
      (repeat refine awp_seq ?_); refine awp_reg1 (by rw [hx]; kernel_rfl) fun K hK => ?_; simp (maxSteps := 1000000) [ty28]
      refine callP (c10) (by first | (simp; done) | (simp [*]; done)) ?_; simp (maxSteps := 1000000) [ty28]
      refine hK _ ?_; clear hK K; (first | show AWP _ _ _ _ _ | show ∃ _, _ | skip)
      (repeat refine awp_seq ?_); refine awp_drw3 [] [0, 1, 2, 3, 4] (by rw [hx]; kernel_rfl) (by kernel_rfl) (by kernel_rfl) (by kernel_rfl) fun K hK => ?_; simp (maxSteps := 1000000) [ty28]
      refine callPD (c29) (by first | (simp; done) | (simp [*]; done)) (by simp) ?_; simp (maxSteps := 1000000) [ty28]
      refine callPD (q_check30 t hn) (by first | (simp; done) | (simp [*]; done)) (by simp) ?_; simp (maxSteps := 1000000) [ty36]
      refine hK _ ?_; clear hK K; (first | show AWP _ _ _ _ _ | show ∃ _, _ | skip)
      (repeat refine awp_seq ?_); refine awp_cond (by simp; rfl) (by rw [hx]; simp) (fun hd => ?_) (fun hd => ?_)
      · simp at hd
      · clear hd
        refine awp_skip ?_; (first | show AWP _ _ _ _ _ | show ∃ _, _ | skip)
        (repeat refine awp_seq ?_); refine awp_reg1 (by rw [hx]; kernel_rfl) fun K hK => ?_; simp (maxSteps := 1000000) [ty28]
        refine callP (c31) (by first | (simp; done) | (simp [*]; done)) ?_; simp (maxSteps := 1000000) [ty28]
        refine hK _ ?_; clear hK K; (first | show AWP _ _ _ _ _ | show ∃ _, _ | skip)
        (repeat refine awp_seq ?_); refine awp_reg1 (by rw [hx]; kernel_rfl) fun K hK => ?_; simp (maxSteps := 1000000) [ty28]
        refine callP (q_many32 t hn) (by first | (simp; done) | (simp [*]; done)) ?_; simp (maxSteps := 1000000) [ty28]
        refine hK _ ?_; clear hK K; (first | show AWP _ _ _ _ _ | show ∃ _, _ | skip)
        (repeat refine awp_seq ?_); refine awp_reg1 (by rw [hx]; kernel_rfl) fun K hK => ?_; simp (maxSteps := 1000000) [ty28]
        refine callP (c22) (by first | (simp; done) | (simp [*]; done)) ?_; simp (maxSteps := 1000000) [ty28, ty41]
        refine hK _ ?_; clear hK K; (first | show AWP _ _ _ _ _ | show ∃ _, _ | skip)
        (repeat refine awp_seq ?_); refine awp_reg1 (by rw [hx]; kernel_rfl) fun K hK => ?_; simp (maxSteps := 1000000) [ty28]
        refine callP (q_gains33 t hn) (by first | (simp; done) | (simp [*]; done)) ?_; simp (maxSteps := 1000000) [ty28, ty41]
        refine hK _ ?_; clear hK K; (first | show AWP _ _ _ _ _ | show ∃ _, _ | skip)
        (repeat refine awp_seq ?_); refine awp_reg1 (by rw [hx]; kernel_rfl) fun K hK => ?_; simp (maxSteps := 1000000) [ty28]
        refine callP (c23) (by first | (simp; done) | (simp [*]; done)) ?_; simp (maxSteps := 1000000) [ty28, ty41]
        refine hK _ ?_; clear hK K; (first | show AWP _ _ _ _ _ | show ∃ _, _ | skip)
        (repeat refine awp_seq ?_); refine awp_reg1 (by rw [hx]; kernel_rfl) fun K hK => ?_; simp (maxSteps := 1000000) [ty28]
        refine callP (q_skews34 t hn) (by first | (simp; done) | (simp [*]; done)) ?_; simp (maxSteps := 1000000) [ty28, ty41]
        refine hK _ ?_; clear hK K; (first | show AWP _ _ _ _ _ | show ∃ _, _ | skip)
        (repeat refine awp_seq ?_); refine awp_reg1 (by rw [hx]; kernel_rfl) fun K hK => ?_; simp (maxSteps := 1000000) [ty28]
        refine callP (c24) (by first | (simp; done) | (simp [*]; done)) ?_; simp (maxSteps := 1000000) [ty28, ty23]
        refine hK _ ?_; clear hK K; (first | show AWP _ _ _ _ _ | show ∃ _, _ | skip)
        (repeat refine awp_seq ?_); refine awp_reg1 (by rw [hx]; kernel_rfl) fun K hK => ?_; simp (maxSteps := 1000000) [ty28]
        refine callP (q_errs35 t a hn) (by first | (simp; done) | (simp [*]; done)) ?_; simp (maxSteps := 1000000) [ty28, ty23]
        refine hK _ ?_; clear hK K; (first | show AWP _ _ _ _ _ | show ∃ _, _ | skip)
        (repeat refine awp_seq ?_); refine awp_reg1 (by rw [hx]; kernel_rfl) fun K hK => ?_; simp (maxSteps := 1000000) [ty36, ty41, ty3, ty4, ty23, ty28]
        refine callP (s1) (by first | (simp; done) | (simp [*]; done)) ?_; simp (maxSteps := 1000000) [ty36, ty41, ty3, ty4, ty23, ty28]
        refine callP (s2) (by first | (simp; done) | (simp [*]; done)) ?_; simp (maxSteps := 1000000) [ty36, ty41, ty3, ty4, ty23, ty28, fe23, he2]
        refine callP (c18) (by first | (simp; done) | (simp [*]; done)) ?_; simp (maxSteps := 1000000) [ty36, ty41, ty3, ty4, ty23, ty28]
        refine callP (works9) (by first | (simp; done) | (simp [*]; done)) ?_; simp (maxSteps := 1000000) [ty36, ty41, ty3, ty4, ty23, ty28]
        refine hK _ ?_; clear hK K; (first | show AWP _ _ _ _ _ | show ∃ _, _ | skip)
        (repeat refine awp_seq ?_); refine awp_ret ?_; refine And.intro (Or.inr rfl) ?_
        simp [retC, resC, viewC, mapO]
  · (repeat refine awp_seq ?_); refine awp_cond (by simp; rfl) (by rw [hx]; simp) (fun hd => ?_) (fun hd => ?_)
    · (repeat refine awp_seq ?_); refine awp_reg1 (by rw [hx]; kernel_rfl) fun K hK => ?_; simp (maxSteps := 1000000) []
      refine callP (works9) (by first | (simp; done) | (simp [*]; done)) ?_; simp (maxSteps := 1000000) []
      refine hK _ ?_; clear hK K; (first | show AWP _ _ _ _ _ | show ∃ _, _ | skip)
      (repeat refine awp_seq ?_); refine awp_ret ?_; refine And.intro (Or.inr rfl) ?_
      simp [retC, resC, viewC, mapO]
    · simp at hd

end Go.Proofs.YtbhbmnofmoibhaaGreat

namespace Go.Proofs.YtbhbmnofmoibhaaGreat
open Go Go.Abs

set_option maxHeartbeats 8000000

theorem law3 (t : Ti) (c : Cl) (a s : Int) : Pure Tryz.prog 3 [encTi t, encCl c, .agg [encI a, encI s]] (.bool true) := by
  obtain ⟨f, hF, hf⟩ := far8 t
  refine pure_of (fn := Tryz.f3) [.tmp 6] ⟨Tryz.func3, rfl, by kernel_rfl⟩ (by kernel_rfl) (by kernel_rfl) (by kernel_rfl) fun x hx hσ => ?_
  (repeat refine awp_seq ?_); refine awp_reg1 (by rw [hx]; kernel_rfl) fun K hK => ?_; simp (maxSteps := 1000000) [ty28, ty30, ty32]; refine hK _ ?_; clear hK K; (first | show AWP _ _ _ _ _ | show ∃ _, _ | skip)
  (repeat refine awp_seq ?_); refine awp_reg1 (by rw [hx]; kernel_rfl) fun K hK => ?_; simp (maxSteps := 1000000) [ty28]
  refine callP (hF) (by first | (simp; done) | (simp [*]; done)) ?_; simp (maxSteps := 1000000) [ty4]
  refine hK _ ?_; clear hK K; (first | show AWP _ _ _ _ _ | show ∃ _, _ | skip)
  cases f
  · have hn := (hf rfl).len
    have hm := copy_len hn
    have c11 := certify11 (copyT t) c hm
    rw [copy_cert, copy_openT] at c11
    have c13 := seen13 (copyT t) a hm
    rw [copy_ends, copy_openT] at c13
    have c15 := real15 (copyT t) s hm
    rw [copy_realL, copy_realE] at c15
    have g1 := realL_len t s
    have c10 := q_copy10 t hn
    have c18 := l_same18 t hn
    obtain ⟨o, ho⟩ : ∃ o, o = copyT t := ⟨_, rfl⟩
    rw [← ho] at *
    have s1 := same29 (realL t s).isEmpty (realE t s != 0) (realL t s).isEmpty (realE t s != 0) (realL t s) (realL t s) (by omega) (by omega)
    simp only [decide_true] at s1
    have he2 : ∀ p : Int × Int, eqInts [.i64, .i64] [.int .i64 p.1, .int .i64 p.2] [.int .i64 p.1, .int .i64 p.2] = some true := fun p => by simp [eqInts]
    (repeat refine awp_seq ?_); refine awp_cond (by simp; rfl) (by rw [hx]; simp) (fun hd => ?_) (fun hd => ?_)
    · simp at hd
    · clear hd
      refine awp_skip ?_; (first | show AWP _ _ _ _ _ | show ∃ _, _ | skip)
      (repeat refine awp_seq ?_); refine awp_reg1 (by rw [hx]; kernel_rfl) fun K hK => ?_; simp (maxSteps := 1000000) [ty28]
      refine callP (c10) (by first | (simp; done) | (simp [*]; done)) ?_; simp (maxSteps := 1000000) [ty28]
      refine hK _ ?_; clear hK K; (first | show AWP _ _ _ _ _ | show ∃ _, _ | skip)
      (repeat refine awp_seq ?_); refine awp_reg1 (by rw [hx]; kernel_rfl) fun K hK => ?_; simp (maxSteps := 1000000) [ty28, ty30]
      refine callP (c11) (by first | (simp; done) | (simp [*]; done)) ?_; simp (maxSteps := 1000000) [ty28]
      refine hK _ ?_; clear hK K; (first | show AWP _ _ _ _ _ | show ∃ _, _ | skip)
      (repeat refine awp_seq ?_); refine awp_reg1 (by rw [hx]; kernel_rfl) fun K hK => ?_; simp (maxSteps := 1000000) [ty28, ty30]
      refine callP (q_certify12 t c hn) (by first | (simp; done) | (simp [*]; done)) ?_; simp (maxSteps := 1000000) [ty28]
      refine hK _ ?_; clear hK K; (first | show AWP _ _ _ _ _ | show ∃ _, _ | skip)
      (repeat refine awp_seq ?_); refine awp_reg1 (by rw [hx]; kernel_rfl) fun K hK => ?_; simp (maxSteps := 1000000) [ty28, ty32, ty3]
      refine callP (c13) (by first | (simp; done) | (simp [*]; done)) ?_; simp (maxSteps := 1000000) [ty28, ty23]
      refine hK _ ?_; clear hK K; (first | show AWP _ _ _ _ _ | show ∃ _, _ | skip)
      (repeat refine awp_seq ?_); refine awp_reg1 (by rw [hx]; kernel_rfl) fun K hK => ?_; simp (maxSteps := 1000000) [ty28, ty32, ty3]
      refine callP (q_seen14 t a hn) (by first | (simp; done) | (simp [*]; done)) ?_; simp (maxSteps := 1000000) [ty28, ty23]
      refine hK _ ?_; clear hK K; (first | show AWP _ _ _ _ _ | show ∃ _, _ | skip)
      (repeat refine awp_seq ?_); refine awp_reg1 (by rw [hx]; kernel_rfl) fun K hK => ?_; simp (maxSteps := 1000000) [ty28, ty32, ty3]
      refine callP (c15) (by first | (simp; done) | (simp [*]; done)) ?_; simp (maxSteps := 1000000) [ty28, ty41]
      refine hK _ ?_; clear hK K; (first | show AWP _ _ _ _ _ | show ∃ _, _ | skip)
      (repeat refine awp_seq ?_); refine awp_reg1 (by rw [hx]; kernel_rfl) fun K hK => ?_; simp (maxSteps := 1000000) [ty28, ty32, ty3]
      refine callP (q_real16 t s hn) (by first | (simp; done) | (simp [*]; done)) ?_; simp (maxSteps := 1000000) [ty28, ty41]
      refine hK _ ?_; clear hK K; (first | show AWP _ _ _ _ _ | show ∃ _, _ | skip)
      (repeat refine awp_seq ?_); refine awp_reg1 (by rw [hx]; kernel_rfl) fun K hK => ?_; simp (maxSteps := 1000000) [ty36, ty41, ty3, ty4, ty23, ty28, fe23, he2]
      refine callP (s1) (by first | (simp; done) | (simp [*]; done)) ?_; simp (maxSteps := 1000000) [ty36, ty41, ty3, ty4, ty23, ty28]
      refine callP (c18) (by first | (simp; done) | (simp [*]; done)) ?_; simp (maxSteps := 1000000) [ty36, ty41, ty3, ty4, ty23, ty28]
      refine callP (works9) (by first | (simp; done) | (simp [*]; done)) ?_; simp (maxSteps := 1000000) [ty36, ty41, ty3, ty4, ty23, ty28]
      refine hK _ ?_; clear hK K; (first | show AWP _ _ _ _ _ | show ∃ _, _ | skip)
      (repeat refine awp_seq ?_); refine awp_ret ?_; refine And.intro (Or.inr rfl) ?_
      simp [retC, resC, viewC, mapO]
  · (repeat refine awp_seq ?_); refine awp_cond (by simp; rfl) (by rw [hx]; simp) (fun hd => ?_) (fun hd => ?_)
    · (repeat refine awp_seq ?_); refine awp_reg1 (by rw [hx]; kernel_rfl) fun K hK => ?_; simp (maxSteps := 1000000) []
      refine callP (works9) (by first | (simp; done) | (simp [*]; done)) ?_; simp (maxSteps := 1000000) []
      refine hK _ ?_; clear hK K; (first | show AWP _ _ _ _ _ | show ∃ _, _ | skip)
      (repeat refine awp_seq ?_); refine awp_ret ?_; refine And.intro (Or.inr rfl) ?_
      simp [retC, resC, viewC, mapO]
    · simp at hd

end Go.Proofs.YtbhbmnofmoibhaaGreat

namespace Go.Proofs.YtbhbmnofmoibhaaGreat
open Go Go.Abs
open Go.ChangeShapes Go.WideShapes Go.ChangeAt Go.RowKit

set_option maxRecDepth 100000 in
theorem trialsSeen_lifted (os : Os) (started : os.Started) (H : Type) (enc : TypeId × Value → H) :
    ReturnsInHanded {} Tryz.checked os 3 .any (Rows.trialsSeenSpec.pre6 enc Tryz.prog Tryz.f3 Rows.trialsSeenRow.domain false) (Rows.trialsSeenSpec.post enc Tryz.prog Tryz.f3 false true false false) := by
  refine returnsInHanded_of_change (C := Tryz.checked) J.own started (by kernel_rfl) Tryz.func3
    (ChangeSpec.witness6 (enc := enc) (C := Tryz.checked) false ⟨#[], #[.agg #[.int .i64 0, .int .i64 0, .int .i64 0, .int .i64 0, .int .i64 0, .int .i64 0, .int .i64 0, .int .i64 0, .int .i64 0, .slice none 0 0], .agg #[.int .i64 0, .int .i64 0], .agg #[.int .i64 0, .int .i64 0]], []⟩ 8 (by kernel_rfl) (by kernel_rfl) (by kernel_rfl) (by kernel_rfl)) ?_
  intro W base args ds gs before hval hW _ _
  refine law_contract (P := Tryz.prog) (tb := 4) (by kernel_rfl) J.ub rfl (fun ds hl => ?_) J.laid J.maps J.sized (by kernel_rfl) (by kernel_rfl) (fun cargs hc => ?_) W base args ds gs before hval hW
  · have h2 : ds.length = 3 := hl
    match ds, h2 with
    | [_, _, _], _ => rfl
  · rw [Tryz.params3] at hc
    obtain ⟨t, r, rfl, hc1⟩ := arg28 hc
    obtain ⟨c, r', rfl, hc2⟩ := arg30 hc1
    obtain ⟨a, s, r'', rfl, hc3⟩ := arg32 hc2
    obtain rfl := arg_end hc3
    exact law3 t c a s

theorem trialsSeen_holds : Rows.TrialsSeenSaid :=
  OpenClaim.holds_of_wide 3 Tryz.f3 rfl rfl rfl rfl rfl rfl rfl ⟨rfl, rfl, rfl, rfl, rfl⟩ rfl rfl rfl rfl rfl (by kernel_rfl) Tryz.func3 (by kernel_rfl)
    (of_decide_eq_true (by kernel_rfl)) (by unfold Func.isWrapper; first | (rw [if_pos (by decide +kernel)]; kernel_rfl) | (rw [if_neg (by decide +kernel)]; exact ⟨rfl, rfl⟩))
    (fun os started H enc _ => trialsSeen_lifted os started H enc)
#print axioms trialsSeen_holds
end Go.Proofs.YtbhbmnofmoibhaaGreat

