/- The machine of abstract values and the contracts of the functions of the program, which the statements of this seat share. No condition. -/
import Derived.Test.YtbhbmnofmoibhaaGreatB4
import Derived.ProofKit
import Derived.OpenShut
import Derived.ChangeStays
import Derived.Test.YtbhbmnofmoibhaaGreatRows
import Derived.WalkKit

set_option linter.unusedSimpArgs false
set_option linter.unusedVariables false
set_option linter.constructorNameAsVariable false

namespace Go.Proofs.YtbhbmnofmoibhaaGreat
open Go Go.Abs

set_option maxHeartbeats 4000000

def isTrB (t : Ti) (k : Tr) : Bool := withinB k.area (-t.gain) t.gain && withinB k.skew (-t.w.skew) t.w.skew && t.ts.all (fun y => allowB t.w y k)

theorem q_isTruth21 (t : Ti) (k : Tr) (hw : TiOk t) (hl : TiLen t) : Pure Tryz.prog 21 [encTi t, encTr k] (.bool (isTrB t k)) := by
  have hg := hw.gain
  have hs := hw.num.skew
  have h6 := hw.len
  have hwg : IntKind.i64.wrap (-t.gain) = -t.gain := wrap_id (by omega) (by omega)
  have hws : IntKind.i64.wrap (-t.w.skew) = -t.w.skew := wrap_id (by omega) (by omega)
  have c1 := q_within60 k.area (-t.gain) t.gain
  have c2 := q_within60 k.skew (-t.w.skew) t.w.skew
  refine pure_of (fn := Tryz.f21) [.tmp 4] ⟨Tryz.func21, rfl, by kernel_rfl⟩ (by kernel_rfl) (by kernel_rfl) (by kernel_rfl) fun x hx hσ => ?_
  (repeat refine awp_seq ?_); refine awp_reg1 (by rw [hx]; kernel_rfl) fun K hK => ?_; simp (maxSteps := 1000000) [ty28, ty48]; refine hK _ ?_; clear hK K; (first | show AWP _ _ _ _ _ | show ∃ _, _ | skip)
  cases h1 : withinB k.area (-t.gain) t.gain
  · rw [h1] at c1
    (repeat refine awp_seq ?_); refine awp_reg1 (by rw [hx]; kernel_rfl) fun K hK => ?_; simp (maxSteps := 1000000) [ty28, ty48, ty3, hwg]
    refine callP (c1) (by first | (simp; done) | (simp [*]; done)) ?_; simp (maxSteps := 1000000) []
    refine hK _ ?_; clear hK K; (first | show AWP _ _ _ _ _ | show ∃ _, _ | skip)
    (repeat refine awp_seq ?_); refine awp_cond (by simp; rfl) (by rw [hx]; simp) (fun hd => ?_) (fun hd => ?_)
    · clear hd
      (repeat refine awp_seq ?_); refine awp_reg1 (by rw [hx]; kernel_rfl) fun K hK => ?_; simp (maxSteps := 1000000) []; refine hK _ ?_; clear hK K; (first | show AWP _ _ _ _ _ | show ∃ _, _ | skip)
      (repeat refine awp_seq ?_); refine awp_ret ?_; refine And.intro (Or.inr rfl) ?_
      simp [retC, resC, viewC, mapO, isTrB, h1]
    · simp at hd
  · rw [h1] at c1
    have h3 : -t.gain ≤ k.area ∧ k.area ≤ t.gain := by simpa [withinB] using h1
    cases h2 : withinB k.skew (-t.w.skew) t.w.skew
    · rw [h2] at c2
      (repeat refine awp_seq ?_); refine awp_reg1 (by rw [hx]; kernel_rfl) fun K hK => ?_; simp (maxSteps := 1000000) [ty28, ty48, ty3, hwg]
      refine callP (c1) (by first | (simp; done) | (simp [*]; done)) ?_; simp (maxSteps := 1000000) [ty28, ty25, ty48, ty3, hws]
      refine callP (c2) (by first | (simp; done) | (simp [*]; done)) ?_; simp (maxSteps := 1000000) []
      refine hK _ ?_; clear hK K; (first | show AWP _ _ _ _ _ | show ∃ _, _ | skip)
      (repeat refine awp_seq ?_); refine awp_cond (by simp; rfl) (by rw [hx]; simp) (fun hd => ?_) (fun hd => ?_)
      · clear hd
        (repeat refine awp_seq ?_); refine awp_reg1 (by rw [hx]; kernel_rfl) fun K hK => ?_; simp (maxSteps := 1000000) []; refine hK _ ?_; clear hK K; (first | show AWP _ _ _ _ _ | show ∃ _, _ | skip)
        (repeat refine awp_seq ?_); refine awp_ret ?_; refine And.intro (Or.inr rfl) ?_
        simp [retC, resC, viewC, mapO, isTrB, h1, h2]
      · simp at hd
    · rw [h2] at c2
      (repeat refine awp_seq ?_); refine awp_reg1 (by rw [hx]; kernel_rfl) fun K hK => ?_; simp (maxSteps := 1000000) [ty28, ty48, ty3, hwg]
      refine callP (c1) (by first | (simp; done) | (simp [*]; done)) ?_; simp (maxSteps := 1000000) [ty28, ty25, ty48, ty3, hws]
      refine callP (c2) (by first | (simp; done) | (simp [*]; done)) ?_; simp (maxSteps := 1000000) []
      refine hK _ ?_; clear hK K; (first | show AWP _ _ _ _ _ | show ∃ _, _ | skip)
      (repeat refine awp_seq ?_); refine awp_cond (by simp; rfl) (by rw [hx]; simp) (fun hd => ?_) (fun hd => ?_)
      · simp at hd
      · clear hd
        refine awp_skip ?_; (first | show AWP _ _ _ _ _ | show ∃ _, _ | skip)
        (repeat refine awp_seq ?_); refine awp_reg1 (by rw [hx]; kernel_rfl) fun K hK => ?_; simp (maxSteps := 1000000) []; refine hK _ ?_; clear hK K; (first | show AWP _ _ _ _ _ | show ∃ _, _ | skip)
        (repeat refine awp_seq ?_); refine awp_block ?_
        refine awp_loop (fun i : Nat => ⟨ofL [(2, .ptr 2 10 0 0), (3, .ptr 3 2 0 0), (5, encI i)], stoT [(2, 2, .live (obTi t)), (3, 3, .live ⟨false, false, 2, [cTr k]⟩)]⟩)
          (fun i => i ≤ t.ts.length ∧ ∀ j, (h : j < t.ts.length) → j < i → allowB t.w t.ts[j] k = true) (fun i => t.ts.length - i) 0 (by simp) ?_ ?_
        · refine wk_shape (shp0 hσ (by simp) (by simp) ?_) ?_
          · simp [SlotOk] <;> (repeat' (first | exact .same (by simp [purel, C.isPure]) | exact .cons (by simp [mtl, mtc, mT, mH, C.isPure, purel]) (by simp) .nil | refine And.intro ?_ ?_))
          · simp [mtc, mtl, mT, C.isPure, purel] <;> (try simp (disch := omega) [wrap_id]) <;> (try omega)
        · intro i ⟨hi, hj⟩
          (repeat refine awp_seq ?_); refine awp_reg1 (by rw [hx]; kernel_rfl) fun K hK => ?_; simp (maxSteps := 1000000) [ty28, ty26, ty3]; refine hK _ ?_; clear hK K; (first | show AWP _ _ _ _ _ | show ∃ _, _ | skip)
          (repeat refine awp_seq ?_); refine awp_cond (by simp; rfl) (by rw [hx]; simp) (fun hc => ?_) (fun hc => ?_)
          · simp at hc
            refine awp_skip ?_; (first | show AWP _ _ _ _ _ | show ∃ _, _ | skip)
            (repeat refine awp_seq ?_); refine awp_block ?_
            have har := hw.area _ (List.getElem_mem hc)
            have hln := hl.l _ (List.getElem_mem hc)
            have c3 := q_allows61 t t.ts[i] k har hln (by omega)
            (repeat refine awp_seq ?_); refine awp_drw3 [] [0, 1, 2, 3, 4, 5, 6, 7, 8] (by rw [hx]; kernel_rfl) (by kernel_rfl) (by kernel_rfl) (by kernel_rfl) fun K hK => ?_; simp (maxSteps := 1000000) [ty28, ty26, ty64, ty48, hc]
            refine callPD (c3) (by first | (simp; done) | (simp [*]; done)) (by simp) ?_; simp (maxSteps := 1000000) []
            refine hK _ ?_; clear hK K; (first | show AWP _ _ _ _ _ | show ∃ _, _ | skip)
            cases hb : allowB t.w t.ts[i] k
            · (repeat refine awp_seq ?_); refine awp_cond (by simp [hb]; rfl) (by rw [hx]; simp) (fun hd => ?_) (fun hd => ?_)
              · clear hd
                (repeat refine awp_seq ?_); refine awp_reg1 (by rw [hx]; kernel_rfl) fun K hK => ?_; simp (maxSteps := 1000000) []; refine hK _ ?_; clear hK K; (first | show AWP _ _ _ _ _ | show ∃ _, _ | skip)
                (repeat refine awp_seq ?_); refine awp_ret ?_; refine And.intro (Or.inr rfl) ?_
                have : t.ts.all (fun y => allowB t.w y k) = false := by
                  rw [List.all_eq_false]
                  exact ⟨_, List.getElem_mem hc, by rw [hb]; decide⟩
                simp [retC, resC, viewC, mapO, isTrB, h1, h2, this]
              · simp [hb] at hd
            · (repeat refine awp_seq ?_); refine awp_cond (by simp [hb]; rfl) (by rw [hx]; simp) (fun hd => ?_) (fun hd => ?_)
              · simp [hb] at hd
              · clear hd
                refine awp_skip ?_; (first | show AWP _ _ _ _ _ | show ∃ _, _ | skip)
                (repeat refine awp_seq ?_); refine awp_reg1 (by rw [hx]; kernel_rfl) fun K hK => ?_; simp (maxSteps := 1000000) [ty3]; refine hK _ ?_; clear hK K; (first | show AWP _ _ _ _ _ | show ∃ _, _ | skip)
                rw [wrap_id (by omega) (by omega)]
                refine ⟨i + 1, ⟨by omega, fun j h4 h5 => ?_⟩, by omega, ?_⟩
                · by_cases e : j = i
                  · subst e; exact hb
                  · exact hj j h4 (by omega)
                · refine wk_shape (shp0 hσ (by simp) (by simp) ?_) ?_
                  · simp [SlotOk] <;> (repeat' (first | exact .same (by simp [purel, C.isPure]) | exact .cons (by simp [mtl, mtc, mT, mH, C.isPure, purel]) (by simp) .nil | refine And.intro ?_ ?_))
                  · simp [mtc, mtl, mT, C.isPure, purel] <;> (try simp (disch := omega) [wrap_id]) <;> (try omega)
          · simp at hc
            (repeat refine awp_seq ?_); refine awp_exit ?_; (first | show AWP _ _ _ _ _ | show ∃ _, _ | skip)
            have : t.ts.all (fun y => allowB t.w y k) = true := by
              rw [List.all_eq_true]
              intro y hy
              obtain ⟨j, h4, rfl⟩ := List.getElem_of_mem hy
              exact hj j h4 (by omega)
            (repeat refine awp_seq ?_); refine awp_reg1 (by rw [hx]; kernel_rfl) fun K hK => ?_; simp (maxSteps := 1000000) []; refine hK _ ?_; clear hK K; (first | show AWP _ _ _ _ _ | show ∃ _, _ | skip)
            (repeat refine awp_seq ?_); refine awp_ret ?_; refine And.intro (Or.inr rfl) ?_
            simp [retC, resC, viewC, mapO, isTrB, h1, h2, this]

theorem q_check30 (t : Ti) (hn : TiLen t) : Pure Tryz.prog 30 [encTi t] (encI (checkT t)) := by
  have hlt := hn.ts
  refine pure_of (fn := Tryz.f30) [.tmp 2] ⟨Tryz.func30, rfl, by kernel_rfl⟩ (by kernel_rfl) (by kernel_rfl) (by kernel_rfl) fun x hx hσ => ?_
  (repeat refine awp_seq ?_); refine awp_reg1 (by rw [hx]; kernel_rfl) fun K hK => ?_; simp (maxSteps := 1000000) [ty28]; refine hK _ ?_; clear hK K; (first | show AWP _ _ _ _ _ | show ∃ _, _ | skip)
  have c1 := q_within60 t.gain 0 50
  cases h1 : withinB t.gain 0 50
  · rw [h1] at c1
    have hT : checkT t = 90 := by unfold checkT; rw [if_pos (.inl (by simpa [withinB] using h1))]
    (repeat refine awp_seq ?_); refine awp_reg1 (by rw [hx]; kernel_rfl) fun K hK => ?_; simp (maxSteps := 1000000) [ty28, ty3]
    refine callP (c1) (by first | (simp; done) | (simp [*]; done)) ?_; simp (maxSteps := 1000000) []
    refine hK _ ?_; clear hK K; (first | show AWP _ _ _ _ _ | show ∃ _, _ | skip)
    (repeat refine awp_seq ?_); refine awp_cond (by simp; rfl) (by rw [hx]; simp) (fun hd => ?_) (fun hd => ?_)
    · clear hd
      (repeat refine awp_seq ?_); refine awp_reg1 (by rw [hx]; kernel_rfl) fun K hK => ?_; simp (maxSteps := 1000000) []; refine hK _ ?_; clear hK K; (first | show AWP _ _ _ _ _ | show ∃ _, _ | skip)
      (repeat refine awp_seq ?_); refine awp_ret ?_; refine And.intro (Or.inr rfl) ?_
      simp [retC, resC, viewC, mapO, hT]
    · simp at hd
  · rw [h1] at c1
    by_cases h6 : (6 : Int) < (t.ts.length : Int)
    · have hT : checkT t = 90 := by unfold checkT; rw [if_pos (.inr (.inl (by omega)))]
      (repeat refine awp_seq ?_); refine awp_reg1 (by rw [hx]; kernel_rfl) fun K hK => ?_; simp (maxSteps := 1000000) [ty28, ty3]
      refine callP (c1) (by first | (simp; done) | (simp [*]; done)) ?_; simp (maxSteps := 1000000) [ty28, ty26, ty3, h6]
      refine hK _ ?_; clear hK K; (first | show AWP _ _ _ _ _ | show ∃ _, _ | skip)
      (repeat refine awp_seq ?_); refine awp_cond (by simp [h6]; rfl) (by rw [hx]; simp) (fun hd => ?_) (fun hd => ?_)
      · clear hd
        (repeat refine awp_seq ?_); refine awp_reg1 (by rw [hx]; kernel_rfl) fun K hK => ?_; simp (maxSteps := 1000000) []; refine hK _ ?_; clear hK K; (first | show AWP _ _ _ _ _ | show ∃ _, _ | skip)
        (repeat refine awp_seq ?_); refine awp_ret ?_; refine And.intro (Or.inr rfl) ?_
        simp [retC, resC, viewC, mapO, hT]
      · simp [h6] at hd
    · (repeat refine awp_seq ?_); refine awp_reg1 (by rw [hx]; kernel_rfl) fun K hK => ?_; simp (maxSteps := 1000000) [ty28, ty3]
      refine callP (c1) (by first | (simp; done) | (simp [*]; done)) ?_; simp (maxSteps := 1000000) [ty28, ty26, ty3, h6]
      refine hK _ ?_; clear hK K; (first | show AWP _ _ _ _ _ | show ∃ _, _ | skip)
      (repeat refine awp_seq ?_); refine awp_cond (by simp [h6]; rfl) (by rw [hx]; simp) (fun hd => ?_) (fun hd => ?_)
      · simp [h6] at hd
      · clear hd
        refine awp_skip ?_; (first | show AWP _ _ _ _ _ | show ∃ _, _ | skip)
        (repeat refine awp_seq ?_); refine awp_reg1 (by rw [hx]; kernel_rfl) fun K hK => ?_; simp (maxSteps := 1000000) []; refine hK _ ?_; clear hK K; (first | show AWP _ _ _ _ _ | show ∃ _, _ | skip)
        (repeat refine awp_seq ?_); refine awp_block ?_
        refine awp_loop (fun i : Nat => ⟨ofL [(1, .ptr 1 10 0 0), (3, encI i)], stoT [(1, 1, .live (obTi t))]⟩)
          (fun i => i ≤ t.ts.length ∧ ∀ j, (h : j < t.ts.length) → j < i → areaB t.ts[j].area = true) (fun i => t.ts.length - i) 0 (by simp) ?_ ?_
        · refine wk_shape (shp0 hσ (by simp) (by simp) ?_) ?_
          · simp [SlotOk] <;> (repeat' (first | exact .same (by simp [purel, C.isPure]) | exact .cons (by simp [mtl, mtc, mT, mH, C.isPure, purel]) (by simp) .nil | refine And.intro ?_ ?_))
          · simp [mtc, mtl, mT, C.isPure, purel] <;> (try simp (disch := omega) [wrap_id]) <;> (try omega)
        · intro i ⟨hi, hj⟩
          (repeat refine awp_seq ?_); refine awp_reg1 (by rw [hx]; kernel_rfl) fun K hK => ?_; simp (maxSteps := 1000000) [ty28, ty26, ty3]; refine hK _ ?_; clear hK K; (first | show AWP _ _ _ _ _ | show ∃ _, _ | skip)
          (repeat refine awp_seq ?_); refine awp_cond (by simp; rfl) (by rw [hx]; simp) (fun hc => ?_) (fun hc => ?_)
          · simp at hc
            refine awp_skip ?_; (first | show AWP _ _ _ _ _ | show ∃ _, _ | skip)
            (repeat refine awp_seq ?_); refine awp_block ?_
            have c2 := q_within60 t.ts[i].area 0 9000
            cases hb : areaB t.ts[i].area
            · have hb' : withinB t.ts[i].area 0 9000 = false := by simpa [areaB, withinB] using hb
              rw [hb'] at c2
              (repeat refine awp_seq ?_); refine awp_reg1 (by rw [hx]; kernel_rfl) fun K hK => ?_; simp (maxSteps := 1000000) [ty28, ty26, ty64, ty3, hc]
              refine callP (c2) (by first | (simp; done) | (simp [*]; done)) ?_; simp (maxSteps := 1000000) []
              refine hK _ ?_; clear hK K; (first | show AWP _ _ _ _ _ | show ∃ _, _ | skip)
              have hT : checkT t = 90 := by
                have hal : t.ts.all (fun x => areaB x.area) = false := by
                  rw [List.all_eq_false]
                  exact ⟨_, List.getElem_mem hc, by rw [hb]; decide⟩
                unfold checkT; rw [if_pos (.inr (.inr hal))]
              (repeat refine awp_seq ?_); refine awp_cond (by simp; rfl) (by rw [hx]; simp) (fun hd => ?_) (fun hd => ?_)
              · clear hd
                (repeat refine awp_seq ?_); refine awp_reg1 (by rw [hx]; kernel_rfl) fun K hK => ?_; simp (maxSteps := 1000000) []; refine hK _ ?_; clear hK K; (first | show AWP _ _ _ _ _ | show ∃ _, _ | skip)
                (repeat refine awp_seq ?_); refine awp_ret ?_; refine And.intro (Or.inr rfl) ?_
                simp [retC, resC, viewC, mapO, hT]
              · simp at hd
            · have hb' : withinB t.ts[i].area 0 9000 = true := by simpa [areaB, withinB] using hb
              rw [hb'] at c2
              (repeat refine awp_seq ?_); refine awp_reg1 (by rw [hx]; kernel_rfl) fun K hK => ?_; simp (maxSteps := 1000000) [ty28, ty26, ty64, ty3, hc]
              refine callP (c2) (by first | (simp; done) | (simp [*]; done)) ?_; simp (maxSteps := 1000000) []
              refine hK _ ?_; clear hK K; (first | show AWP _ _ _ _ _ | show ∃ _, _ | skip)
              (repeat refine awp_seq ?_); refine awp_cond (by simp; rfl) (by rw [hx]; simp) (fun hd => ?_) (fun hd => ?_)
              · simp at hd
              · clear hd
                refine awp_skip ?_; (first | show AWP _ _ _ _ _ | show ∃ _, _ | skip)
                (repeat refine awp_seq ?_); refine awp_reg1 (by rw [hx]; kernel_rfl) fun K hK => ?_; simp (maxSteps := 1000000) [ty3]; refine hK _ ?_; clear hK K; (first | show AWP _ _ _ _ _ | show ∃ _, _ | skip)
                rw [wrap_id (by omega) (by omega)]
                refine ⟨i + 1, ⟨by omega, fun j h4 h5 => ?_⟩, by omega, ?_⟩
                · by_cases e : j = i
                  · subst e; exact hb
                  · exact hj j h4 (by omega)
                · refine wk_shape (shp0 hσ (by simp) (by simp) ?_) ?_
                  · simp [SlotOk] <;> (repeat' (first | exact .same (by simp [purel, C.isPure]) | exact .cons (by simp [mtl, mtc, mT, mH, C.isPure, purel]) (by simp) .nil | refine And.intro ?_ ?_))
                  · simp [mtc, mtl, mT, C.isPure, purel] <;> (try simp (disch := omega) [wrap_id]) <;> (try omega)
          · simp at hc
            (repeat refine awp_seq ?_); refine awp_exit ?_; (first | show AWP _ _ _ _ _ | show ∃ _, _ | skip)
            have hal : t.ts.all (fun x => areaB x.area) = true := by
              rw [List.all_eq_true]
              intro y hy
              obtain ⟨j, h4, rfl⟩ := List.getElem_of_mem hy
              exact hj j h4 (by omega)
            have hT : checkT t = (if t.ts = [] then checkI t.w [] else checksI t.w t.ts) := by
              unfold checkT; rw [if_neg]
              rintro (h | h | h)
              · have : withinB t.gain 0 50 = false := by simpa [withinB] using h
                rw [h1] at this; cases this
              · omega
              · rw [hal] at h; cases h
            (repeat refine awp_seq ?_); refine awp_reg1 (by rw [hx]; kernel_rfl) fun K hK => ?_; simp (maxSteps := 1000000) []; refine hK _ ?_; clear hK K; (first | show AWP _ _ _ _ _ | show ∃ _, _ | skip)
            (repeat refine awp_seq ?_); refine awp_block ?_
            refine awp_loop (fun i : Nat => ⟨ofL [(1, .ptr 1 10 0 0), (4, encI i)], stoT [(1, 1, .live (obTi t))]⟩)
              (fun i => i ≤ t.ts.length ∧ ∀ j, (h : j < t.ts.length) → j < i → checkI t.w t.ts[j].l = 0) (fun i => t.ts.length - i) 0 (by simp) ?_ ?_
            · refine wk_shape (shp0 hσ (by simp) (by simp) ?_) ?_
              · simp [SlotOk] <;> (repeat' (first | exact .same (by simp [purel, C.isPure]) | exact .cons (by simp [mtl, mtc, mT, mH, C.isPure, purel]) (by simp) .nil | refine And.intro ?_ ?_))
              · simp [mtc, mtl, mT, C.isPure, purel] <;> (try simp (disch := omega) [wrap_id]) <;> (try omega)
            · intro i ⟨hi, hj⟩
              (repeat refine awp_seq ?_); refine awp_reg1 (by rw [hx]; kernel_rfl) fun K hK => ?_; simp (maxSteps := 1000000) [ty28, ty26, ty3]; refine hK _ ?_; clear hK K; (first | show AWP _ _ _ _ _ | show ∃ _, _ | skip)
              (repeat refine awp_seq ?_); refine awp_cond (by simp; rfl) (by rw [hx]; simp) (fun hc => ?_) (fun hc => ?_)
              · simp at hc
                refine awp_skip ?_; (first | show AWP _ _ _ _ _ | show ∃ _, _ | skip)
                (repeat refine awp_seq ?_); refine awp_block ?_
                have h0 : t.ts ≠ [] := by intro e; rw [e] at hc; simp at hc
                (repeat refine awp_seq ?_); refine awp_drw3 [] [0, 1, 2, 3, 4, 5, 6, 7, 8, 9] (by rw [hx]; kernel_rfl) (by kernel_rfl) (by kernel_rfl) (by kernel_rfl) fun K hK => ?_; simp (maxSteps := 1000000) [ty28, ty25, ty26, ty64, ty62, hc]
                refine callPD (ref31 t.w t.ts[i].nl t.ts[i].fu t.ts[i].l (hn.l _ (List.getElem_mem hc))) (by first | (simp; done) | (simp [*]; done)) (by simp) ?_; simp (maxSteps := 1000000) []
                refine hK _ ?_; clear hK K; (first | show AWP _ _ _ _ _ | show ∃ _, _ | skip)
                (repeat refine awp_seq ?_); refine awp_reg1 (by rw [hx]; kernel_rfl) fun K hK => ?_; simp (maxSteps := 1000000) [ty36]; refine hK _ ?_; clear hK K; (first | show AWP _ _ _ _ _ | show ∃ _, _ | skip)
                by_cases hz : checkI t.w t.ts[i].l = 0
                · (repeat refine awp_seq ?_); refine awp_cond (by simp [hz]; rfl) (by rw [hx]; simp) (fun hd => ?_) (fun hd => ?_)
                  · simp at hd
                  · clear hd
                    refine awp_skip ?_; (first | show AWP _ _ _ _ _ | show ∃ _, _ | skip)
                    (repeat refine awp_seq ?_); refine awp_reg1 (by rw [hx]; kernel_rfl) fun K hK => ?_; simp (maxSteps := 1000000) [ty3]; refine hK _ ?_; clear hK K; (first | show AWP _ _ _ _ _ | show ∃ _, _ | skip)
                    rw [wrap_id (by omega) (by omega)]
                    refine ⟨i + 1, ⟨by omega, fun j h4 h5 => ?_⟩, by omega, ?_⟩
                    · by_cases e : j = i
                      · subst e; exact hz
                      · exact hj j h4 (by omega)
                    · refine wk_shape (shp0 hσ (by simp) (by simp) ?_) ?_
                      · simp [SlotOk] <;> (repeat' (first | exact .same (by simp [purel, C.isPure]) | exact .cons (by simp [mtl, mtc, mT, mH, C.isPure, purel]) (by simp) .nil | refine And.intro ?_ ?_))
                      · simp [mtc, mtl, mT, C.isPure, purel] <;> (try simp (disch := omega) [wrap_id]) <;> (try omega)
                · (repeat refine awp_seq ?_); refine awp_cond (by simp [hz]; rfl) (by rw [hx]; simp) (fun hd => ?_) (fun hd => ?_)
                  · clear hd
                    (repeat refine awp_seq ?_); refine awp_reg1 (by rw [hx]; kernel_rfl) fun K hK => ?_; simp (maxSteps := 1000000) []; refine hK _ ?_; clear hK K; (first | show AWP _ _ _ _ _ | show ∃ _, _ | skip)
                    (repeat refine awp_seq ?_); refine awp_ret ?_; refine And.intro (Or.inr rfl) ?_
                    simp [retC, resC, viewC, mapO, hT, h0, checksI_at hc hj hz]
                  · simp [hz] at hd
              · simp at hc
                (repeat refine awp_seq ?_); refine awp_exit ?_; (first | show AWP _ _ _ _ _ | show ∃ _, _ | skip)
                (repeat refine awp_seq ?_); refine awp_reg1 (by rw [hx]; kernel_rfl) fun K hK => ?_; simp (maxSteps := 1000000) [ty28, ty25]
                refine callP (ref31 t.w true true [] (by simp)) (by first | (simp; done) | (simp [*]; done)) ?_; simp (maxSteps := 1000000) []
                refine hK _ ?_; clear hK K; (first | show AWP _ _ _ _ _ | show ∃ _, _ | skip)
                (repeat refine awp_seq ?_); refine awp_ret ?_; refine And.intro (Or.inr rfl) ?_
                have hjj : ∀ j, (h : j < t.ts.length) → checkI t.w t.ts[j].l = 0 := fun j h => hj j h (by omega)
                by_cases h0 : t.ts = []
                · simp [retC, resC, viewC, mapO, hT, h0]
                · have hw0 : checkI t.w [] = 0 := by
                    obtain ⟨y, hy⟩ := List.exists_mem_of_ne_nil _ h0
                    obtain ⟨j, h4, rfl⟩ := List.getElem_of_mem hy
                    have := wheelB_iff.2 (checkI_ok (hjj j h4)).1
                    simp [checkI, this]
                  simp [retC, resC, viewC, mapO, hT, h0, checksI_all hjj, hw0]

theorem testBit_all {n i : Nat} (h : i < n) : (2 ^ n - 1).testBit i = true := by
  rw [Nat.testBit_two_pow_sub_one]; simpa using h

theorem isTrB_okS {t : Ti} {k : Tr} (hk : k ∈ allT (gwT t)) : isTrB t k = okS t (allS t) k := by
  have h1 := allT_mem.1 hk
  have e1 : (gwT t).glow = -t.gain := rfl
  have e2 : (gwT t).ghigh = t.gain := rfl
  have e3 : (gwT t).skew = t.w.skew := rfl
  rw [e1, e2, e3] at h1
  have h2 : isTrB t k = t.ts.all (fun y => allowB t.w y k) := by
    unfold isTrB withinB
    simp [h1]
  rw [h2]
  cases hb : t.ts.all (fun y => allowB t.w y k)
  · rw [List.all_eq_false] at hb
    obtain ⟨y, hy, hb⟩ := hb
    obtain ⟨j, h4, rfl⟩ := List.getElem_of_mem hy
    exact (okS_false h4 (testBit_all h4) (by simpa using hb)).symm
  · rw [List.all_eq_true] at hb
    exact (okS_true fun i hi _ => hb _ (List.getElem_mem hi)).symm

theorem truths_filter (t : Ti) : (allT (gwT t)).filter (isTrB t) = truthsS t (allS t) :=
  List.filter_congr fun k hk => isTrB_okS hk

theorem q_truths79 (t : Ti) (hok : TiOk t) (hl : TiLen t) : Fresh Tryz.prog 79 [encTi t] (obTs (truthsS t (allS t))) := by
  rw [← truths_filter]
  have hs := hok.num.skew
  have hg := hok.gain
  have hA : (nA (gwT t) : Int) = t.gain - -t.gain + 1 := by unfold nA gwT; simp only; omega
  have hS : (nS (gwT t) : Int) = 2 * t.w.skew + 1 := by unfold nS gwT; simp only; omega
  have hwr : IntKind.i64.wrap (-t.w.skew) = -t.w.skew := wrap_id (by omega) (by omega)
  have hwg : IntKind.i64.wrap (-t.gain) = -t.gain := wrap_id (by omega) (by omega)
  have hbA : nA (gwT t) ≤ 101 := by omega
  have hbS : nS (gwT t) ≤ 41 := by omega
  have hNN : nA (gwT t) * nS (gwT t) ≤ 410000 := by
    have : nA (gwT t) * nS (gwT t) ≤ 101 * 41 := Nat.mul_le_mul hbA hbS
    omega
  obtain ⟨U, hU⟩ : ∃ U : Nat → List Tr, ∀ n, U n = (upT (gwT t) n).filter (isTrB t) := ⟨_, fun _ => rfl⟩
  have hst0 : ∀ {a s : Nat} (ha : a < nA (gwT t)) (hs : s < nS (gwT t)), U (a * nS (gwT t) + s + 1) = U (a * nS (gwT t) + s) ++ if isTrB t ⟨-t.gain + a, -t.w.skew + s⟩ then [⟨-t.gain + a, -t.w.skew + s⟩] else [] := fun {a s} ha hs => by
    rw [hU, hU, upT_step ha hs, List.filter_append]
    have e1 : (gwT t).glow = -t.gain := rfl
    have e3 : (gwT t).skew = t.w.skew := rfl
    rw [e1, e3]
    cases hb : isTrB t ⟨-t.gain + a, -t.w.skew + s⟩ <;> simp [hb]
  have hal0 : U (nA (gwT t) * nS (gwT t)) = (allT (gwT t)).filter (isTrB t) := by rw [hU, upT, ← allT_len, List.take_length]
  have hul : ∀ {n}, n ≤ nA (gwT t) * nS (gwT t) → (U n).length ≤ 410000 := fun {n} h => by
    rw [hU]
    refine Nat.le_trans (List.length_filter_le _ _) ?_
    rw [upT_len h]; omega
  have hu0 : U 0 = [] := by rw [hU]; rfl
  rw [← hal0]
  clear hU hal0
  generalize nA (gwT t) = A at *
  generalize nS (gwT t) = S at *
  refine fresh_of (fn := Tryz.f79) [.tmp 2] ⟨Tryz.func79, rfl, by kernel_rfl⟩ (by kernel_rfl) (by kernel_rfl) (by kernel_rfl) fun x hx hσ => ?_
  (repeat refine awp_seq ?_); refine awp_reg1 (by rw [hx]; kernel_rfl) fun K hK => ?_; simp (maxSteps := 1000000) [ty28]; refine hK _ ?_; clear hK K; (first | show AWP _ _ _ _ _ | show ∃ _, _ | skip)
  (repeat refine awp_seq ?_); refine awp_reg1 (by rw [hx]; kernel_rfl) fun K hK => ?_; simp (maxSteps := 1000000) []; refine hK _ ?_; clear hK K; (first | show AWP _ _ _ _ _ | show ∃ _, _ | skip)
  (repeat refine awp_seq ?_); refine awp_reg1 (by rw [hx]; kernel_rfl) fun K hK => ?_; simp (maxSteps := 1000000) [ty28, ty3]; refine hK _ ?_; clear hK K; (first | show AWP _ _ _ _ _ | show ∃ _, _ | skip)
  rw [hwg]
  (repeat refine awp_seq ?_); refine awp_block ?_
  refine AWP.weak ?_ (wk_nil 3 3 2 (fu := true) (by simp) (by simp))
  refine awp_loop (fun a : Nat => ⟨ofL [(1, .ptr 1 10 0 0), (3, .own 3 2 0 (U (a * S)).length), (4, encI (-t.gain + a))], stoT [(1, 1, .live (obTi t)), (3, 3, .live (obTs (U (a * S))))]⟩)
    (fun a => a ≤ A) (fun a => A - a) 0 (by simp) ?_ ?_
  · simp only [Nat.zero_mul, hu0]
    refine wk_shape (shp0 hσ (by simp) (by simp) ?_) ?_
    · simp [SlotOk] <;> (repeat' (first | (refine RowsOk.same ?_; simp [purel, C.isPure]; done) | (refine rowsCons ?_; simp [mtl, mtc, mT, mH, C.isPure, purel]; done) | (refine rowsCons ?_; simp [mtl, mtc, mT, mH, C.isPure, purel]) | refine And.intro ?_ ?_))
    · simp [mtc, mtl, mT, C.isPure, purel] <;> (try simp (disch := omega) [wrap_id]) <;> (try omega)
  · intro a ha
    (repeat refine awp_seq ?_); refine awp_reg1 (by rw [hx]; kernel_rfl) fun K hK => ?_; simp (maxSteps := 1000000) [ty28, ty3]; refine hK _ ?_; clear hK K; (first | show AWP _ _ _ _ _ | show ∃ _, _ | skip)
    (repeat refine awp_seq ?_); refine awp_cond (by simp; rfl) (by rw [hx]; simp) (fun hc => ?_) (fun hc => ?_)
    · simp at hc
      have haA : a < A := by omega
      refine awp_skip ?_; (first | show AWP _ _ _ _ _ | show ∃ _, _ | skip)
      (repeat refine awp_seq ?_); refine awp_block ?_
      (repeat refine awp_seq ?_); refine awp_reg1 (by rw [hx]; kernel_rfl) fun K hK => ?_; simp (maxSteps := 1000000) [ty28, ty25, ty3]; refine hK _ ?_; clear hK K; (first | show AWP _ _ _ _ _ | show ∃ _, _ | skip)
      rw [hwr]
      (repeat refine awp_seq ?_); refine awp_block ?_
      refine awp_loop (fun s : Nat => ⟨ofL [(1, .ptr 1 10 0 0), (3, .own 3 2 0 (U (a * S + s)).length), (4, encI (-t.gain + a)), (5, encI (-t.w.skew + s))], stoT [(1, 1, .live (obTi t)), (3, 3, .live (obTs (U (a * S + s))))]⟩)
        (fun s => s ≤ S) (fun s => S - s) 0 (by simp) ?_ ?_
      · refine wk_shape (shp0 hσ (by simp) (by simp) ?_) ?_
        · simp [SlotOk] <;> (repeat' (first | (refine RowsOk.same ?_; simp [purel, C.isPure]; done) | (refine rowsCons ?_; simp [mtl, mtc, mT, mH, C.isPure, purel]; done) | (refine rowsCons ?_; simp [mtl, mtc, mT, mH, C.isPure, purel]) | refine And.intro ?_ ?_))
        · simp [mtc, mtl, mT, C.isPure, purel] <;> (try simp (disch := omega) [wrap_id]) <;> (try omega)
      · intro s hsS
        have hle : a * S + s ≤ A * S := by
          have : (a + 1) * S ≤ A * S := Nat.mul_le_mul_right _ (by omega)
          rw [Nat.add_mul] at this; omega
        have hlt := hul hle
        (repeat refine awp_seq ?_); refine awp_reg1 (by rw [hx]; kernel_rfl) fun K hK => ?_; simp (maxSteps := 1000000) [ty28, ty25, ty3]; refine hK _ ?_; clear hK K; (first | show AWP _ _ _ _ _ | show ∃ _, _ | skip)
        (repeat refine awp_seq ?_); refine awp_cond (by simp; rfl) (by rw [hx]; simp) (fun hc2 => ?_) (fun hc2 => ?_)
        · simp at hc2
          have hsl : s < S := by omega
          refine awp_skip ?_; (first | show AWP _ _ _ _ _ | show ∃ _, _ | skip)
          (repeat refine awp_seq ?_); refine awp_block ?_
          have hst := hst0 haA hsl
          rw [Nat.add_assoc] at hst
          have hws : IntKind.i64.wrap (-t.w.skew + (s : Int) + 1) = -t.w.skew + ((s + 1 : Nat) : Int) := by rw [wrap_id (by omega) (by omega)]; omega
          generalize hV : U (a * S + s) = V at *
          (repeat refine awp_seq ?_); refine awp_reg1 (by rw [hx]; kernel_rfl) fun K hK => ?_; simp (maxSteps := 1000000) [ty48]; refine hK _ ?_; clear hK K; (first | show AWP _ _ _ _ _ | show ∃ _, _ | skip)
          (repeat refine awp_seq ?_); refine awp_reg1 (by rw [hx]; kernel_rfl) fun K hK => ?_; simp (maxSteps := 1000000) [ty28, ty48]
          refine callP (q_isTruth21 t ⟨-t.gain + a, -t.w.skew + s⟩ hok hl) (by first | (simp; done) | (simp [*]; done)) ?_; simp (maxSteps := 1000000) []
          refine hK _ ?_; clear hK K; (first | show AWP _ _ _ _ _ | show ∃ _, _ | skip)
          cases hb : isTrB t ⟨-t.gain + a, -t.w.skew + s⟩
          · rw [hb] at hst
            simp at hst
            (repeat refine awp_seq ?_); refine awp_cond (by simp [hb]; rfl) (by rw [hx]; simp) (fun hd => ?_) (fun hd => ?_)
            · simp [hb] at hd
            · clear hd
              refine awp_skip ?_; (first | show AWP _ _ _ _ _ | show ∃ _, _ | skip)
              (repeat refine awp_seq ?_); refine awp_reg1 (by rw [hx]; kernel_rfl) fun K hK => ?_; simp (maxSteps := 1000000) [ty3]; refine hK _ ?_; clear hK K; (first | show AWP _ _ _ _ _ | show ∃ _, _ | skip)
              refine ⟨s + 1, by omega, by omega, ?_⟩
              rw [hst, hws]
              refine wk_shape (shp0 hσ (by simp) (by simp) ?_) ?_
              · simp [SlotOk] <;> (repeat' (first | (refine RowsOk.same ?_; simp [purel, C.isPure]; done) | (refine rowsCons ?_; simp [mtl, mtc, mT, mH, C.isPure, purel]; done) | (refine rowsCons ?_; simp [mtl, mtc, mT, mH, C.isPure, purel]) | refine And.intro ?_ ?_))
              · simp [mtc, mtl, mT, C.isPure, purel] <;> (try simp (disch := omega) [wrap_id]) <;> (try omega)
          · rw [hb] at hst
            simp at hst
            (repeat refine awp_seq ?_); refine awp_cond (by simp [hb]; rfl) (by rw [hx]; simp) (fun hd => ?_) (fun hd => ?_)
            · clear hd
              (repeat refine awp_seq ?_); refine awp_reg1 (by rw [hx]; kernel_rfl) fun K hK => ?_; simp (maxSteps := 1000000) [ty48, ty81, ty3]
              refine ⟨by omega, ?_⟩
              refine hK _ ?_; clear hK K; (first | show AWP _ _ _ _ _ | show ∃ _, _ | skip)
              (repeat refine awp_seq ?_); refine awp_reg1 (by rw [hx]; kernel_rfl) fun K hK => ?_; simp (maxSteps := 1000000) [ty3]; refine hK _ ?_; clear hK K; (first | show AWP _ _ _ _ _ | show ∃ _, _ | skip)
              refine ⟨s + 1, by omega, by omega, ?_⟩
              rw [hst, hws]
              refine wk_shape2 [(1, 1, .live (obTi t)), (3, 36, .live (obTs (V ++ [⟨-t.gain + a, -t.w.skew + s⟩])))] (by first | rfl | (simp only [if_pos, if_true]; rfl)) (shp0 hσ (by simp) (by simp) ?_) ?_
              · simp [SlotOk] <;> (repeat' (first | (refine RowsOk.same ?_; simp [purel, C.isPure]; done) | (refine rowsCons ?_; simp [mtl, mtc, mT, mH, C.isPure, purel]; done) | (refine rowsCons ?_; simp [mtl, mtc, mT, mH, C.isPure, purel]) | refine And.intro ?_ ?_))
              · simp [mtc, mtl, mT, C.isPure, purel] <;> (try simp (disch := omega) [wrap_id]) <;> (try omega)
            · simp [hb] at hd
        · simp at hc2
          (repeat refine awp_seq ?_); refine awp_exit ?_; (first | show AWP _ _ _ _ _ | show ∃ _, _ | skip)
          have hsn : s = S := by omega
          (repeat refine awp_seq ?_); refine awp_reg1 (by rw [hx]; kernel_rfl) fun K hK => ?_; simp (maxSteps := 1000000) [ty3]; refine hK _ ?_; clear hK K; (first | show AWP _ _ _ _ _ | show ∃ _, _ | skip)
          rw [wrap_id (by omega) (by omega)]
          have hsa : a * S + s = (a + 1) * S := by rw [hsn, Nat.add_mul, Nat.one_mul]
          rw [hsa]
          refine ⟨a + 1, by omega, by omega, ?_⟩
          refine wk_shape (shp0 hσ (by simp) (by simp) ?_) ?_
          · simp [SlotOk] <;> (repeat' (first | (refine RowsOk.same ?_; simp [purel, C.isPure]; done) | (refine rowsCons ?_; simp [mtl, mtc, mT, mH, C.isPure, purel]; done) | (refine rowsCons ?_; simp [mtl, mtc, mT, mH, C.isPure, purel]) | refine And.intro ?_ ?_))
          · simp [mtc, mtl, mT, C.isPure, purel] <;> (try simp (disch := omega) [wrap_id]) <;> (try omega)
    · simp at hc
      (repeat refine awp_seq ?_); refine awp_exit ?_; (first | show AWP _ _ _ _ _ | show ∃ _, _ | skip)
      have han : a = A := by omega
      rw [han]
      (repeat refine awp_seq ?_); refine awp_reg1 (by rw [hx]; kernel_rfl) fun K hK => ?_; simp (maxSteps := 1000000) []; refine hK _ ?_; clear hK K; (first | show AWP _ _ _ _ _ | show ∃ _, _ | skip)
      (repeat refine awp_seq ?_)
      refine awp_ret ?_
      refine ⟨.inr rfl, .inl ⟨3, ?_, ?_, ?_⟩⟩
      · simp [retC, resC, viewC, mapO]
      · simp
      · simp [purel, C.isPure]

/-- The truths that are known. -/
def knownT (t : Ti) (is : Bool) : List Tr := if openT t is = 0 then truthsS t (allS t) else []

theorem q_known50 (t : Ti) (is : Bool) (hl : TiLen t) : Pure Tryz.prog 50 [encTi t, .bool is] (.tup [slT (knownT t is), encI (openT t is)]) := by
  refine pure_of (fn := Tryz.f50) [.tmp 4, .tmp 5] ⟨Tryz.func50, rfl, by kernel_rfl⟩ (by kernel_rfl) (by kernel_rfl) (by kernel_rfl) fun x hx hσ => ?_
  (repeat refine awp_seq ?_); refine awp_reg1 (by rw [hx]; kernel_rfl) fun K hK => ?_; simp (maxSteps := 1000000) [ty28]; refine hK _ ?_; clear hK K; (first | show AWP _ _ _ _ _ | show ∃ _, _ | skip)
  (repeat refine awp_seq ?_); refine awp_reg1 (by rw [hx]; kernel_rfl) fun K hK => ?_; simp (maxSteps := 1000000) [ty28]
  refine callP (q_check30 t hl) (by first | (simp; done) | (simp [*]; done)) ?_; simp (maxSteps := 1000000) []
  refine hK _ ?_; clear hK K; (first | show AWP _ _ _ _ _ | show ∃ _, _ | skip)
  (repeat refine awp_seq ?_); refine awp_reg1 (by rw [hx]; kernel_rfl) fun K hK => ?_; simp (maxSteps := 1000000) [ty36]; refine hK _ ?_; clear hK K; (first | show AWP _ _ _ _ _ | show ∃ _, _ | skip)
  by_cases hz : checkT t = 0
  · have hok := checkT_ok.1 hz
    (repeat refine awp_seq ?_); refine awp_cond (by simp [hz]; rfl) (by rw [hx]; simp) (fun hd => ?_) (fun hd => ?_)
    · simp at hd
    · clear hd
      refine awp_skip ?_; (first | show AWP _ _ _ _ _ | show ∃ _, _ | skip)
      (repeat refine awp_seq ?_); refine awp_reg1 (by rw [hx]; kernel_rfl) fun K hK => ?_; simp (maxSteps := 1000000) []; refine hK _ ?_; clear hK K; (first | show AWP _ _ _ _ _ | show ∃ _, _ | skip)
      cases is
      · have hE : openT t false = 1 := by simp [openT, hz]
        have hK : knownT t false = [] := by unfold knownT; rw [if_neg (by rw [hE]; decide)]
        (repeat refine awp_seq ?_); refine awp_cond (by simp; rfl) (by rw [hx]; simp) (fun hd => ?_) (fun hd => ?_)
        · clear hd
          (repeat refine awp_seq ?_); refine awp_reg1 (by rw [hx]; kernel_rfl) fun K hK => ?_; simp (maxSteps := 1000000) []; refine hK _ ?_; clear hK K; (first | show AWP _ _ _ _ _ | show ∃ _, _ | skip)
          (repeat refine awp_seq ?_); refine awp_ret ?_; refine And.intro (Or.inr rfl) ?_
          simp [retC, resC, viewC, mapO, hE, hK]
        · simp at hd
      · (repeat refine awp_seq ?_); refine awp_cond (by simp; rfl) (by rw [hx]; simp) (fun hd => ?_) (fun hd => ?_)
        · simp at hd
        · clear hd
          refine awp_skip ?_; (first | show AWP _ _ _ _ _ | show ∃ _, _ | skip)
          (repeat refine awp_seq ?_); refine awp_reg1 (by rw [hx]; kernel_rfl) fun K hK => ?_; simp (maxSteps := 1000000) [ty28]
          refine freshL (q_truths79 t hok hl) (by simp [purel, C.isPure]) rfl ?_
          simp
          refine hK _ ?_; clear hK K; (first | show AWP _ _ _ _ _ | show ∃ _, _ | skip)
          by_cases h0 : truthsS t (allS t) = []
          · have hE : openT t true = 3 := by simp [openT, hz, h0]
            have hK : knownT t true = [] := by unfold knownT; rw [if_neg (by rw [hE]; decide)]
            (repeat refine awp_seq ?_); refine awp_reg1 (by rw [hx]; kernel_rfl) fun K hK => ?_; simp (maxSteps := 1000000) [ty81, ty3, h0]; refine hK _ ?_; clear hK K; (first | show AWP _ _ _ _ _ | show ∃ _, _ | skip)
            (repeat refine awp_seq ?_); refine awp_cond (by simp; rfl) (by rw [hx]; simp) (fun hd => ?_) (fun hd => ?_)
            · (repeat refine awp_seq ?_); refine awp_reg1 (by rw [hx]; kernel_rfl) fun K hK => ?_; simp (maxSteps := 1000000) []; refine hK _ ?_; clear hK K; (first | show AWP _ _ _ _ _ | show ∃ _, _ | skip)
              (repeat refine awp_seq ?_); refine awp_ret ?_; refine And.intro (Or.inr rfl) ?_
              simp [retC, resC, viewC, mapO, hE, hK]
            · simp at hd
          · have hE : openT t true = 0 := by simp [openT, hz, h0]
            have hK : knownT t true = truthsS t (allS t) := by unfold knownT; rw [if_pos hE]
            have hlb : (((truthsS t (allS t)).length : Int) == 0) = false := by
              rw [beq_eq_false_iff_ne]
              intro e; exact h0 (List.eq_nil_of_length_eq_zero (by omega))
            have hem : (truthsS t (allS t)).isEmpty = false := by simpa [List.isEmpty_eq_false_iff] using h0
            (repeat refine awp_seq ?_); refine awp_reg1 (by rw [hx]; kernel_rfl) fun K hK => ?_; simp (maxSteps := 1000000) [ty81, ty3, hlb]; refine hK _ ?_; clear hK K; (first | show AWP _ _ _ _ _ | show ∃ _, _ | skip)
            (repeat refine awp_seq ?_); refine awp_cond (by simp [hlb]; rfl) (by rw [hx]; simp) (fun hd => ?_) (fun hd => ?_)
            · simp [h0] at hd
            · clear hd
              refine awp_skip ?_; (first | show AWP _ _ _ _ _ | show ∃ _, _ | skip)
              (repeat refine awp_seq ?_); refine awp_reg1 (by rw [hx]; kernel_rfl) fun K hK => ?_; simp (maxSteps := 1000000) [ty81]; refine hK _ ?_; clear hK K; (first | show AWP _ _ _ _ _ | show ∃ _, _ | skip)
              (repeat refine awp_seq ?_); refine awp_ret ?_; refine And.intro (Or.inr rfl) ?_
              simp [retC, resC, viewC, mapO, hE, hK, purel, C.isPure, hem]
  · have hE : openT t is = checkT t := by unfold openT; rw [if_pos hz]
    have hK : knownT t is = [] := by unfold knownT; rw [if_neg (by rw [hE]; exact hz)]
    (repeat refine awp_seq ?_); refine awp_cond (by simp [hz]; rfl) (by rw [hx]; simp) (fun hd => ?_) (fun hd => ?_)
    · clear hd
      (repeat refine awp_seq ?_); refine awp_reg1 (by rw [hx]; kernel_rfl) fun K hK => ?_; simp (maxSteps := 1000000) []; refine hK _ ?_; clear hK K; (first | show AWP _ _ _ _ _ | show ∃ _, _ | skip)
      (repeat refine awp_seq ?_); refine awp_ret ?_; refine And.intro (Or.inr rfl) ?_
      simp [retC, resC, viewC, mapO, hE, hK]
    · simp [hz] at hd

end Go.Proofs.YtbhbmnofmoibhaaGreat

namespace Go.Proofs.YtbhbmnofmoibhaaGreat
open Go Go.Abs

set_option maxHeartbeats 4000000

theorem kinds_ends {f : Tr → Int} {L : List Tr} {lo hi : Int} (h1 : ∃ k ∈ L, f k = lo) (h2 : ∀ k ∈ L, lo ≤ f k) (h3 : ∃ k ∈ L, f k = hi) (h4 : ∀ k ∈ L, f k ≤ hi) :
    (kindsL f L).headD 0 = lo ∧ (kindsL f L).getLastD 0 = hi := by
  have hs := kindsL_sorted f L
  have hm := kindsL_mem f L
  have hp : 0 < (kindsL f L).length := by
    obtain ⟨k, hk, e⟩ := h1
    exact List.length_pos_of_mem ((hm lo).2 ⟨k, hk, e⟩)
  obtain ⟨e1, e2⟩ := ends_eq _ hp
  rw [e1, e2]
  have le0 : ∀ b ∈ kindsL f L, (kindsL f L)[0] ≤ b := by
    intro b hb
    obtain ⟨i, hi, rfl⟩ := List.getElem_of_mem hb
    by_cases e : i = 0
    · subst e; exact Int.le_refl _
    · exact List.pairwise_iff_getElem.1 hs 0 i hp hi (by omega)
  have leN : ∀ b ∈ kindsL f L, b ≤ (kindsL f L)[(kindsL f L).length - 1] := by
    intro b hb
    obtain ⟨i, hi, rfl⟩ := List.getElem_of_mem hb
    by_cases e : i = (kindsL f L).length - 1
    · subst e; exact Int.le_refl _
    · exact List.pairwise_iff_getElem.1 hs i _ hi (by omega) (by omega)
  constructor
  · obtain ⟨k, hk, e⟩ := (hm _).1 (List.getElem_mem hp)
    have g1 := h2 k hk
    have g2 := le0 lo ((hm lo).2 h1)
    omega
  · obtain ⟨k, hk, e⟩ := (hm _).1 (List.getElem_mem (show (kindsL f L).length - 1 < (kindsL f L).length by omega))
    have g1 := h4 k hk
    have g2 := leN hi ((hm hi).2 h3)
    omega

theorem certL_alt (L : List Tr) (c : Cl) : certL L c = if L.countP (fun k => !beyB c k) = L.length then 1 else if L.countP (fun k => !beyB c k) = 0 then 2 else 3 := by
  have h : L.countP (beyB c) + L.countP (fun k => !beyB c k) = L.length := by
    have := List.length_eq_countP_add_countP (beyB c) (l := L)
    rw [this]
    congr 1
    exact List.countP_congr fun k _ => by simp
  unfold certL
  generalize L.countP (beyB c) = b at *
  generalize L.countP (fun k => !beyB c k) = g at *
  by_cases h1 : b = 0
  · rw [if_pos h1, if_pos (show g = L.length by omega)]
  · rw [if_neg h1, if_neg (show ¬ g = L.length by omega)]

theorem q_certify51 (nl fu : Bool) (L : List Tr) (c : Cl) (hL : ∀ k ∈ L, (-50 ≤ k.area ∧ k.area ≤ 50) ∧ (-100 ≤ k.skew ∧ k.skew ≤ 100)) (hn : L.length ≤ 410000) (hc0 : 0 ≤ c.size ∧ c.size ≤ 9000) :
    Pure Tryz.prog 51 [.sl nl fu (L.map cTr), encCl c] (encI (certL L c)) := by
  rw [certL_alt]
  obtain ⟨A, hA⟩ : ∃ A : Nat → Nat, ∀ i, A i = (L.take i).countP (fun k => !beyB c k) := ⟨_, fun _ => rfl⟩
  have hA0 : A 0 = 0 := by rw [hA]; rfl
  have hAn : L.countP (fun k => !beyB c k) = A L.length := by rw [hA, List.take_length]
  have hAs : ∀ i (hi : i < L.length), A (i + 1) = A i + if (!beyB c L[i]) = true then 1 else 0 := fun i hi => by rw [hA, hA]; exact count_step _ hi
  have hAl : ∀ i, A i ≤ L.length := fun i => by rw [hA]; exact Nat.le_trans List.countP_le_length (by simp; omega)
  rw [hAn]
  clear hAn hA
  refine pure_of (fn := Tryz.f51) [.tmp 4] ⟨Tryz.func51, rfl, by kernel_rfl⟩ (by kernel_rfl) (by kernel_rfl) (by kernel_rfl) fun x hx hσ => ?_
  (repeat refine awp_seq ?_); refine awp_reg1 (by rw [hx]; kernel_rfl) fun K hK => ?_; simp (maxSteps := 1000000) [ty30]; refine hK _ ?_; clear hK K; (first | show AWP _ _ _ _ _ | show ∃ _, _ | skip)
  (repeat refine awp_seq ?_); refine awp_reg1 (by rw [hx]; kernel_rfl) fun K hK => ?_; simp (maxSteps := 1000000) []; refine hK _ ?_; clear hK K; (first | show AWP _ _ _ _ _ | show ∃ _, _ | skip)
  (repeat refine awp_seq ?_); refine awp_reg1 (by rw [hx]; kernel_rfl) fun K hK => ?_; simp (maxSteps := 1000000) []; refine hK _ ?_; clear hK K; (first | show AWP _ _ _ _ _ | show ∃ _, _ | skip)
  (repeat refine awp_seq ?_); refine awp_block ?_
  refine awp_loop (fun i : Nat => ⟨ofL [(0, .sl nl fu (L.map cTr)), (3, .ptr 3 2 0 0), (5, encI (A i)), (6, encI i)], stoT [(3, 3, .live ⟨false, false, 2, [cCl c]⟩)]⟩)
    (fun i => i ≤ L.length) (fun i => L.length - i) 0 (by simp) ?_ ?_
  · rw [hA0]
    refine wk_shape (shp0 hσ (by simp) (by simp) ?_) ?_
    · simp [SlotOk] <;> (repeat' (first | exact .same (by simp [purel, C.isPure]) | exact .cons (by simp [mtl, mtc, mT, mH, C.isPure, purel]) (by simp) .nil | refine And.intro ?_ ?_))
    · simp [mtc, mtl, mT, C.isPure, purel] <;> (try simp (disch := omega) [wrap_id]) <;> (try omega)
  · intro i hi
    have hAi := hAl i
    (repeat refine awp_seq ?_); refine awp_reg1 (by rw [hx]; kernel_rfl) fun K hK => ?_; simp (maxSteps := 1000000) [ty81, ty3]; refine hK _ ?_; clear hK K; (first | show AWP _ _ _ _ _ | show ∃ _, _ | skip)
    (repeat refine awp_seq ?_); refine awp_cond (by simp; rfl) (by rw [hx]; simp) (fun hc => ?_) (fun hc => ?_)
    · simp at hc
      refine awp_skip ?_; (first | show AWP _ _ _ _ _ | show ∃ _, _ | skip)
      (repeat refine awp_seq ?_); refine awp_block ?_
      have hst := hAs i hc
      have hne : L ≠ [] := by rintro rfl; simp at hc
      have hk := hL _ (List.getElem_mem hc)
      have hwi : IntKind.i64.wrap ((i : Int) + 1) = ((i + 1 : Nat) : Int) := by rw [wrap_id (by omega) (by omega)]; rfl
      (repeat refine awp_seq ?_); refine awp_drw3 [] [0, 1, 2, 3, 4, 5, 6, 7, 8, 9] (by rw [hx]; kernel_rfl) (by kernel_rfl) (by kernel_rfl) (by kernel_rfl) fun K hK => ?_; simp (maxSteps := 1000000) [ty81, ty48, ty30, ty3, hc, hne]
      refine callPD (q_error28 L[i] c.size hc0 hk.1 hk.2) (by first | (simp; done) | (simp [*]; done)) (by simp) ?_; simp (maxSteps := 1000000) [ty30, ty3]
      refine hK _ ?_; clear hK K; (first | show AWP _ _ _ _ _ | show ∃ _, _ | skip)
      cases hb : beyB c L[i]
      · have hb' : errI L[i] c.size ≤ c.most := by simpa [beyB] using hb
        rw [hb] at hst
        simp at hst
        (repeat refine awp_seq ?_); refine awp_cond (by simp [hb']; rfl) (by rw [hx]; simp) (fun hd => ?_) (fun hd => ?_)
        · clear hd
          (repeat refine awp_seq ?_); refine awp_reg1 (by rw [hx]; kernel_rfl) fun K hK => ?_; simp (maxSteps := 1000000) [ty3]; refine hK _ ?_; clear hK K; (first | show AWP _ _ _ _ _ | show ∃ _, _ | skip)
          rw [wrap_id (by omega) (by omega)]
          (repeat refine awp_seq ?_); refine awp_reg1 (by rw [hx]; kernel_rfl) fun K hK => ?_; simp (maxSteps := 1000000) [ty3]; refine hK _ ?_; clear hK K; (first | show AWP _ _ _ _ _ | show ∃ _, _ | skip)
          refine ⟨i + 1, by omega, by omega, ?_⟩
          rw [hst, hwi]
          refine wk_shape (shp0 hσ (by simp) (by simp) ?_) ?_
          · simp [SlotOk] <;> (repeat' (first | exact .same (by simp [purel, C.isPure]) | exact .cons (by simp [mtl, mtc, mT, mH, C.isPure, purel]) (by simp) .nil | refine And.intro ?_ ?_))
          · simp [mtc, mtl, mT, C.isPure, purel] <;> (try simp (disch := omega) [wrap_id]) <;> (try omega)
        · exact absurd hd (by simp [hb'])
      · have hb' : ¬ errI L[i] c.size ≤ c.most := by simpa [beyB] using hb
        rw [hb] at hst
        simp at hst
        (repeat refine awp_seq ?_); refine awp_cond (by simp [hb']; rfl) (by rw [hx]; simp) (fun hd => ?_) (fun hd => ?_)
        · exact absurd hd (by simp [hb'])
        · clear hd
          refine awp_skip ?_; (first | show AWP _ _ _ _ _ | show ∃ _, _ | skip)
          (repeat refine awp_seq ?_); refine awp_reg1 (by rw [hx]; kernel_rfl) fun K hK => ?_; simp (maxSteps := 1000000) [ty3]; refine hK _ ?_; clear hK K; (first | show AWP _ _ _ _ _ | show ∃ _, _ | skip)
          refine ⟨i + 1, by omega, by omega, ?_⟩
          rw [hst, hwi]
          refine wk_shape (shp0 hσ (by simp) (by simp) ?_) ?_
          · simp [SlotOk] <;> (repeat' (first | exact .same (by simp [purel, C.isPure]) | exact .cons (by simp [mtl, mtc, mT, mH, C.isPure, purel]) (by simp) .nil | refine And.intro ?_ ?_))
          · simp [mtc, mtl, mT, C.isPure, purel] <;> (try simp (disch := omega) [wrap_id]) <;> (try omega)
    · simp at hc
      (repeat refine awp_seq ?_); refine awp_exit ?_; (first | show AWP _ _ _ _ _ | show ∃ _, _ | skip)
      have hin : i = L.length := by omega
      rw [hin] at hAi ⊢
      generalize A L.length = a at *
      (repeat refine awp_seq ?_); refine awp_reg1 (by rw [hx]; kernel_rfl) fun K hK => ?_; simp (maxSteps := 1000000) []; refine hK _ ?_; clear hK K; (first | show AWP _ _ _ _ _ | show ∃ _, _ | skip)
      (repeat refine awp_seq ?_); refine awp_block ?_
      by_cases h1 : a = L.length
      · (repeat refine awp_seq ?_); refine awp_reg1 (by rw [hx]; kernel_rfl) fun K hK => ?_; simp (maxSteps := 1000000) [ty81, ty3, h1]; refine hK _ ?_; clear hK K; (first | show AWP _ _ _ _ _ | show ∃ _, _ | skip)
        (repeat refine awp_seq ?_); refine awp_cond (by simp [h1]; rfl) (by rw [hx]; simp) (fun hd => ?_) (fun hd => ?_)
        · clear hd
          (repeat refine awp_seq ?_); refine awp_reg1 (by rw [hx]; kernel_rfl) fun K hK => ?_; simp (maxSteps := 1000000) []; refine hK _ ?_; clear hK K; (first | show AWP _ _ _ _ _ | show ∃ _, _ | skip)
          (repeat refine awp_seq ?_); refine awp_ret ?_; refine And.intro (Or.inr rfl) ?_
          simp [retC, resC, viewC, mapO, h1]
        · simp [h1] at hd
      · have h1' : ((a : Int) == (L.length : Int)) = false := by rw [beq_eq_false_iff_ne]; omega
        (repeat refine awp_seq ?_); refine awp_reg1 (by rw [hx]; kernel_rfl) fun K hK => ?_; simp (maxSteps := 1000000) [ty81, ty3, h1']; refine hK _ ?_; clear hK K; (first | show AWP _ _ _ _ _ | show ∃ _, _ | skip)
        (repeat refine awp_seq ?_); refine awp_cond (by simp [h1']; rfl) (by rw [hx]; simp) (fun hd => ?_) (fun hd => ?_)
        · exact absurd hd (by simp)
        · clear hd
          by_cases h2 : a = 0
          · have h1'' : ¬ 0 = L.length := by omega
            (repeat refine awp_seq ?_); refine awp_reg1 (by rw [hx]; kernel_rfl) fun K hK => ?_; simp (maxSteps := 1000000) [ty3, h2]; refine hK _ ?_; clear hK K; (first | show AWP _ _ _ _ _ | show ∃ _, _ | skip)
            (repeat refine awp_seq ?_); refine awp_cond (by simp [h2]; rfl) (by rw [hx]; simp) (fun hd => ?_) (fun hd => ?_)
            · clear hd
              (repeat refine awp_seq ?_); refine awp_reg1 (by rw [hx]; kernel_rfl) fun K hK => ?_; simp (maxSteps := 1000000) []; refine hK _ ?_; clear hK K; (first | show AWP _ _ _ _ _ | show ∃ _, _ | skip)
              (repeat refine awp_seq ?_); refine awp_ret ?_; refine And.intro (Or.inr rfl) ?_
              simp [retC, resC, viewC, mapO, h1, h2, h1'']
            · simp [h2] at hd
          · have h2' : ((a : Int) == 0) = false := by rw [beq_eq_false_iff_ne]; omega
            (repeat refine awp_seq ?_); refine awp_reg1 (by rw [hx]; kernel_rfl) fun K hK => ?_; simp (maxSteps := 1000000) [ty3, h2']; refine hK _ ?_; clear hK K; (first | show AWP _ _ _ _ _ | show ∃ _, _ | skip)
            (repeat refine awp_seq ?_); refine awp_cond (by simp [h2']; rfl) (by rw [hx]; simp) (fun hd => ?_) (fun hd => ?_)
            · exact absurd hd (by simp)
            · clear hd
              refine awp_skip ?_; (first | show AWP _ _ _ _ _ | show ∃ _, _ | skip)
              (repeat refine awp_seq ?_); refine awp_reg1 (by rw [hx]; kernel_rfl) fun K hK => ?_; simp (maxSteps := 1000000) []; refine hK _ ?_; clear hK K; (first | show AWP _ _ _ _ _ | show ∃ _, _ | skip)
              (repeat refine awp_seq ?_); refine awp_ret ?_; refine And.intro (Or.inr rfl) ?_
              simp [retC, resC, viewC, mapO, h1, h2]

theorem knownT_ok {t : Ti} {is : Bool} (h : openT t is = 0) : knownT t is = truthsS t (allS t) := if_pos h
theorem knownT_bd {t : Ti} {is : Bool} : (knownT t is).length ≤ 410000 ∧ ∀ k ∈ knownT t is, (-50 ≤ k.area ∧ k.area ≤ 50) ∧ (-100 ≤ k.skew ∧ k.skew ≤ 100) := by
  unfold knownT
  split
  · rename_i h
    have hok := (openT_ok h).1
    exact ⟨truthsS_bd _ hok, fun k hk => every_k hok (List.mem_filter.1 hk).1⟩
  · simp

theorem q_certify12 (t : Ti) (c : Cl) (hl : TiLen t) : Pure Tryz.prog 12 [encTi t, encCl c] (.tup [encI (certT t c), encI (openT t (classB c))]) := by
  have hkb := knownT_bd (t := t) (is := classB c)
  refine pure_of (fn := Tryz.f12) [.tmp 4, .tmp 5] ⟨Tryz.func12, rfl, by kernel_rfl⟩ (by kernel_rfl) (by kernel_rfl) (by kernel_rfl) fun x hx hσ => ?_
  (repeat refine awp_seq ?_); refine awp_reg1 (by rw [hx]; kernel_rfl) fun K hK => ?_; simp (maxSteps := 1000000) [ty28, ty30]; refine hK _ ?_; clear hK K; (first | show AWP _ _ _ _ _ | show ∃ _, _ | skip)
  (repeat refine awp_seq ?_); refine awp_drw3 [] [0, 1, 2, 3, 4, 5, 6, 7, 8] (by rw [hx]; kernel_rfl) (by kernel_rfl) (by kernel_rfl) (by kernel_rfl) fun K hK => ?_; simp (maxSteps := 1000000) [ty28, ty30]
  refine callPD (q_isClass20 c) (by first | (simp; done) | (simp [*]; done)) (by simp) ?_; simp (maxSteps := 1000000) []
  refine callPD (q_known50 t (classB c) hl) (by first | (simp; done) | (simp [*]; done)) (by simp) ?_; simp (maxSteps := 1000000) [ty81]
  refine hK _ ?_; clear hK K; (first | show AWP _ _ _ _ _ | show ∃ _, _ | skip)
  (repeat refine awp_seq ?_); refine awp_reg1 (by rw [hx]; kernel_rfl) fun K hK => ?_; simp (maxSteps := 1000000) [ty36]; refine hK _ ?_; clear hK K; (first | show AWP _ _ _ _ _ | show ∃ _, _ | skip)
  by_cases hz : openT t (classB c) = 0
  · have hcl := classB_ok (openT_ok hz).2.1
    rw [knownT_ok hz] at hkb ⊢
    (repeat refine awp_seq ?_); refine awp_cond (by simp [hz]; rfl) (by rw [hx]; simp) (fun hd => ?_) (fun hd => ?_)
    · simp at hd
    · clear hd
      refine awp_skip ?_; (first | show AWP _ _ _ _ _ | show ∃ _, _ | skip)
      (repeat refine awp_seq ?_); refine awp_reg1 (by rw [hx]; kernel_rfl) fun K hK => ?_; simp (maxSteps := 1000000) [ty81, ty30]
      refine callP (q_certify51 _ _ (truthsS t (allS t)) c hkb.2 hkb.1 hcl.1) (by first | (simp; done) | (simp [*]; done)) ?_; simp (maxSteps := 1000000) []
      refine hK _ ?_; clear hK K; (first | show AWP _ _ _ _ _ | show ∃ _, _ | skip)
      (repeat refine awp_seq ?_); refine awp_ret ?_; refine And.intro (Or.inr rfl) ?_
      simp [retC, resC, viewC, mapO, certT, hz]
  · (repeat refine awp_seq ?_); refine awp_cond (by simp [hz]; rfl) (by rw [hx]; simp) (fun hd => ?_) (fun hd => ?_)
    · clear hd
      (repeat refine awp_seq ?_); refine awp_reg1 (by rw [hx]; kernel_rfl) fun K hK => ?_; simp (maxSteps := 1000000) []; refine hK _ ?_; clear hK K; (first | show AWP _ _ _ _ _ | show ∃ _, _ | skip)
      (repeat refine awp_seq ?_); refine awp_ret ?_; refine And.intro (Or.inr rfl) ?_
      simp [retC, resC, viewC, mapO, certT, hz]
    · simp [hz] at hd

theorem many_knownT (t : Ti) : manyT t = (knownT t true).length := by
  unfold manyT knownT
  split <;> rfl

theorem q_many32 (t : Ti) (hl : TiLen t) : Pure Tryz.prog 32 [encTi t] (.tup [encI (manyT t), encI (openT t true)]) := by
  refine pure_of (fn := Tryz.f32) [.tmp 2, .tmp 3] ⟨Tryz.func32, rfl, by kernel_rfl⟩ (by kernel_rfl) (by kernel_rfl) (by kernel_rfl) fun x hx hσ => ?_
  (repeat refine awp_seq ?_); refine awp_reg1 (by rw [hx]; kernel_rfl) fun K hK => ?_; simp (maxSteps := 1000000) [ty28]; refine hK _ ?_; clear hK K; (first | show AWP _ _ _ _ _ | show ∃ _, _ | skip)
  (repeat refine awp_seq ?_); refine awp_reg1 (by rw [hx]; kernel_rfl) fun K hK => ?_; simp (maxSteps := 1000000) [ty28]
  refine callP (q_known50 t true hl) (by first | (simp; done) | (simp [*]; done)) ?_; simp (maxSteps := 1000000) [ty81]
  refine hK _ ?_; clear hK K; (first | show AWP _ _ _ _ _ | show ∃ _, _ | skip)
  (repeat refine awp_seq ?_); refine awp_reg1 (by rw [hx]; kernel_rfl) fun K hK => ?_; simp (maxSteps := 1000000) [ty81]; refine hK _ ?_; clear hK K; (first | show AWP _ _ _ _ _ | show ∃ _, _ | skip)
  (repeat refine awp_seq ?_); refine awp_ret ?_; refine And.intro (Or.inr rfl) ?_
  simp [retC, resC, viewC, mapO, many_knownT]

theorem truthsS_sorted (t : Ti) (n : Nat) : (truthsS t n).Pairwise fun a b => a.area ≤ b.area := (allT_sorted (gwT t)).filter _

theorem gains_nums (t : Ti) : areasR (knownT t true) = numsT Tr.area t true := by
  unfold knownT numsT
  split
  · exact areasR_eq (truthsS_sorted t _)
  · rfl

theorem q_gains33 (t : Ti) (hl : TiLen t) : Pure Tryz.prog 33 [encTi t] (.tup [.sl (numsT Tr.area t true).isEmpty false ((numsT Tr.area t true).map cI), encI (openT t true)]) := by
  have hkb := (knownT_bd (t := t) (is := true)).1
  rw [← gains_nums]
  generalize hL : knownT t true = L at *
  obtain ⟨O, hO⟩ : ∃ O : Nat → List Int, O = fun i => areasR (L.take i) := ⟨_, rfl⟩
  have hO0 : O 0 = [] := by rw [hO]; rfl
  have hOn : areasR L = O L.length := by rw [hO]; simp only [List.take_length]
  have hOs : ∀ i (hi : i < L.length), O (i + 1) = addA (O i) L[i] := fun i hi => by rw [hO]; exact areasR_step hi
  have hOl : ∀ i, (O i).length ≤ L.length := fun i => by rw [hO]; exact Nat.le_trans (areasR_len _) (by simp; omega)
  rw [hOn]
  clear hOn hO
  refine pure_of (fn := Tryz.f33) [.tmp 2, .tmp 3] ⟨Tryz.func33, rfl, by kernel_rfl⟩ (by kernel_rfl) (by kernel_rfl) (by kernel_rfl) fun x hx hσ => ?_
  (repeat refine awp_seq ?_); refine awp_reg1 (by rw [hx]; kernel_rfl) fun K hK => ?_; simp (maxSteps := 1000000) [ty28]; refine hK _ ?_; clear hK K; (first | show AWP _ _ _ _ _ | show ∃ _, _ | skip)
  (repeat refine awp_seq ?_); refine awp_reg1 (by rw [hx]; kernel_rfl) fun K hK => ?_; simp (maxSteps := 1000000) [ty28]
  refine callP (q_known50 t true hl) (by first | (simp; done) | (simp [*]; done)) ?_; simp (maxSteps := 1000000) [ty81]
  refine hK _ ?_; clear hK K; (first | show AWP _ _ _ _ _ | show ∃ _, _ | skip)
  rw [hL]
  (repeat refine awp_seq ?_); refine awp_reg1 (by rw [hx]; kernel_rfl) fun K hK => ?_; simp (maxSteps := 1000000) []; refine hK _ ?_; clear hK K; (first | show AWP _ _ _ _ _ | show ∃ _, _ | skip)
  (repeat refine awp_seq ?_); refine awp_reg1 (by rw [hx]; kernel_rfl) fun K hK => ?_; simp (maxSteps := 1000000) []; refine hK _ ?_; clear hK K; (first | show AWP _ _ _ _ _ | show ∃ _, _ | skip)
  (repeat refine awp_seq ?_); refine awp_block ?_
  refine AWP.weak ?_ (wk_nil 6 6 1 (fu := true) (by simp) (by simp))
  refine awp_loop (fun i : Nat => ⟨ofL [(4, slT L), (5, encI (openT t true)), (6, .own 6 1 0 (O i).length), (7, encI i)], stoT [(6, 6, .live ⟨(O i).isEmpty, false, 1, (O i).map cI⟩)]⟩)
    (fun i => i ≤ L.length) (fun i => L.length - i) 0 (by simp) ?_ ?_
  · rw [hO0]
    refine wk_shape (shp0 hσ (by simp) (by simp) ?_) ?_
    · simp [SlotOk] <;> (repeat' (first | (refine RowsOk.same ?_; simp [purel, C.isPure]; done) | (refine rowsCons ?_; simp [mtl, mtc, mT, mH, C.isPure, purel]; done) | (refine rowsCons ?_; simp [mtl, mtc, mT, mH, C.isPure, purel]) | refine And.intro ?_ ?_))
    · simp [mtc, mtl, mT, C.isPure, purel] <;> (try simp (disch := omega) [wrap_id]) <;> (try omega)
  · intro i hi
    have hOi := hOl i
    (repeat refine awp_seq ?_); refine awp_reg1 (by rw [hx]; kernel_rfl) fun K hK => ?_; simp (maxSteps := 1000000) [ty81, ty3]; refine hK _ ?_; clear hK K; (first | show AWP _ _ _ _ _ | show ∃ _, _ | skip)
    (repeat refine awp_seq ?_); refine awp_cond (by simp; rfl) (by rw [hx]; simp) (fun hc => ?_) (fun hc => ?_)
    · simp at hc
      refine awp_skip ?_; (first | show AWP _ _ _ _ _ | show ∃ _, _ | skip)
      (repeat refine awp_seq ?_); refine awp_block ?_
      have hst := hOs i hc
      have hne : L ≠ [] := by rintro rfl; simp at hc
      have hwi : IntKind.i64.wrap ((i : Int) + 1) = ((i + 1 : Nat) : Int) := by rw [wrap_id (by omega) (by omega)]; rfl
      generalize hV : O i = V at *
      (repeat refine awp_seq ?_); refine awp_reg1 (by rw [hx]; kernel_rfl) fun K hK => ?_; simp (maxSteps := 1000000) [ty81, ty48, ty3, ty41, hc, hne]
      refine callL (q_in74 V.isEmpty false V L[i].area (by omega)) (by simp [viewL, mapO, viewC, C.isPure, purel]) (.inr rfl) ?_
      simp
      refine hK _ ?_; clear hK K; (first | show AWP _ _ _ _ _ | show ∃ _, _ | skip)
      by_cases hb : L[i].area ∈ V
      · have hV1 : O (i + 1) = V := by rw [hst]; unfold addA; rw [if_pos hb]
        (repeat refine awp_seq ?_); refine awp_cond (by simp [hb]; rfl) (by rw [hx]; simp) (fun hd => ?_) (fun hd => ?_)
        · exact absurd hd (by simp [hb])
        · clear hd
          refine awp_skip ?_; (first | show AWP _ _ _ _ _ | show ∃ _, _ | skip)
          (repeat refine awp_seq ?_); refine awp_reg1 (by rw [hx]; kernel_rfl) fun K hK => ?_; simp (maxSteps := 1000000) [ty3]; refine hK _ ?_; clear hK K; (first | show AWP _ _ _ _ _ | show ∃ _, _ | skip)
          refine ⟨i + 1, by omega, by omega, ?_⟩
          rw [hV1, hwi]
          refine wk_shape (shp0 hσ (by simp) (by simp) ?_) ?_
          · simp [SlotOk] <;> (repeat' (first | (refine RowsOk.same ?_; simp [purel, C.isPure]; done) | (refine rowsCons ?_; simp [mtl, mtc, mT, mH, C.isPure, purel]; done) | (refine rowsCons ?_; simp [mtl, mtc, mT, mH, C.isPure, purel]) | refine And.intro ?_ ?_))
          · simp [mtc, mtl, mT, C.isPure, purel] <;> (try simp (disch := omega) [wrap_id]) <;> (try omega)
      · have hV1 : O (i + 1) = V ++ [L[i].area] := by rw [hst]; unfold addA; rw [if_neg hb]
        (repeat refine awp_seq ?_); refine awp_cond (by simp [hb]; rfl) (by rw [hx]; simp) (fun hd => ?_) (fun hd => ?_)
        · clear hd
          (repeat refine awp_seq ?_); refine awp_reg1 (by rw [hx]; kernel_rfl) fun K hK => ?_; simp (maxSteps := 1000000) [ty81, ty48, ty3, ty41, hc, hne]
          refine ⟨by omega, ?_⟩
          refine hK _ ?_; clear hK K; (first | show AWP _ _ _ _ _ | show ∃ _, _ | skip)
          (repeat refine awp_seq ?_); refine awp_reg1 (by rw [hx]; kernel_rfl) fun K hK => ?_; simp (maxSteps := 1000000) [ty3]; refine hK _ ?_; clear hK K; (first | show AWP _ _ _ _ _ | show ∃ _, _ | skip)
          refine ⟨i + 1, by omega, by omega, ?_⟩
          rw [hV1, hwi]
          refine wk_shape2 [(6, 34, .live ⟨(V ++ [L[i].area]).isEmpty, false, 1, (V ++ [L[i].area]).map cI⟩)] (by first | rfl | (simp only [if_pos, if_true]; rfl)) (shp0 hσ (by simp) (by simp) ?_) ?_
          · simp [SlotOk] <;> (repeat' (first | (refine RowsOk.same ?_; simp [purel, C.isPure]; done) | (refine rowsCons ?_; simp [mtl, mtc, mT, mH, C.isPure, purel]; done) | (refine rowsCons ?_; simp [mtl, mtc, mT, mH, C.isPure, purel]) | refine And.intro ?_ ?_))
          · simp [mtc, mtl, mT, C.isPure, purel] <;> (try simp (disch := omega) [wrap_id]) <;> (try omega)
        · exact absurd hd (by simp [hb])
    · simp at hc
      (repeat refine awp_seq ?_); refine awp_exit ?_; (first | show AWP _ _ _ _ _ | show ∃ _, _ | skip)
      have hin : i = L.length := by omega
      rw [hin]
      (repeat refine awp_seq ?_); refine awp_reg1 (by rw [hx]; kernel_rfl) fun K hK => ?_; simp (maxSteps := 1000000) [ty41]; refine hK _ ?_; clear hK K; (first | show AWP _ _ _ _ _ | show ∃ _, _ | skip)
      (repeat refine awp_seq ?_); refine awp_ret ?_; refine And.intro (Or.inr rfl) ?_
      simp [retC, resC, viewC, mapO, purel, C.isPure]

theorem skews_numsT {t : Ti} {is : Bool} (h : openT t is = 0) : skewsR t.w (truthsS t (allS t)) (nS t.w) = numsT Tr.skew t is := by
  have hs := (openT_ok h).1.num.skew
  rw [(numsT_ok h).1]
  refine sorted_eq ((skewsR_lt t.w _ _).imp (fun h => Int.le_of_lt h)) (kindsL_sorted _ _) ((skewsR_lt t.w _ _).imp (fun h => Int.ne_of_lt h)) (kindsL_nodup _ _) fun b => ?_
  rw [skewsR_mem, kindsL_mem]
  constructor
  · rintro ⟨i, h1, h2, rfl⟩
    simp only [skq, List.any_eq_true, decide_eq_true_eq] at h2
    exact h2
  · rintro ⟨k, ht, rfl⟩
    have := allT_mem.1 (List.mem_filter.1 ht).1
    have e3 : (gwT t).skew = t.w.skew := rfl
    rw [e3] at this
    refine ⟨(k.skew + t.w.skew).toNat, by unfold nS; omega, ?_, by omega⟩
    simp only [skq, List.any_eq_true, decide_eq_true_eq]
    exact ⟨k, ht, by omega⟩

theorem q_skews34 (t : Ti) (hl : TiLen t) : Pure Tryz.prog 34 [encTi t] (.tup [.sl (numsT Tr.skew t true).isEmpty (openT t true != 0) ((numsT Tr.skew t true).map cI), encI (openT t true)]) := by
  have hkb := (knownT_bd (t := t) (is := true)).1
  refine pure_of (fn := Tryz.f34) [.tmp 2, .tmp 3] ⟨Tryz.func34, rfl, by kernel_rfl⟩ (by kernel_rfl) (by kernel_rfl) (by kernel_rfl) fun x hx hσ => ?_
  (repeat refine awp_seq ?_); refine awp_reg1 (by rw [hx]; kernel_rfl) fun K hK => ?_; simp (maxSteps := 1000000) [ty28]; refine hK _ ?_; clear hK K; (first | show AWP _ _ _ _ _ | show ∃ _, _ | skip)
  (repeat refine awp_seq ?_); refine awp_reg1 (by rw [hx]; kernel_rfl) fun K hK => ?_; simp (maxSteps := 1000000) [ty28]
  refine callP (q_known50 t true hl) (by first | (simp; done) | (simp [*]; done)) ?_; simp (maxSteps := 1000000) [ty81]
  refine hK _ ?_; clear hK K; (first | show AWP _ _ _ _ _ | show ∃ _, _ | skip)
  (repeat refine awp_seq ?_); refine awp_reg1 (by rw [hx]; kernel_rfl) fun K hK => ?_; simp (maxSteps := 1000000) []; refine hK _ ?_; clear hK K; (first | show AWP _ _ _ _ _ | show ∃ _, _ | skip)
  (repeat refine awp_seq ?_); refine awp_reg1 (by rw [hx]; kernel_rfl) fun K hK => ?_; simp (maxSteps := 1000000) [ty28, ty25, ty3]; refine hK _ ?_; clear hK K; (first | show AWP _ _ _ _ _ | show ∃ _, _ | skip)
  by_cases hz : openT t true = 0
  · rw [← skews_numsT hz]
    rw [knownT_ok hz] at hkb ⊢
    have hs := (openT_ok hz).1.num.skew
    have hS : (nS t.w : Int) = 2 * t.w.skew + 1 := by unfold nS; omega
    generalize hL : truthsS t (allS t) = L at *
    have hwr : IntKind.i64.wrap (-t.w.skew) = -t.w.skew := wrap_id (by omega) (by omega)
    rw [hwr, hz]
    (repeat refine awp_seq ?_); refine awp_block ?_
    refine AWP.weak ?_ (wk_nil 6 6 1 (fu := true) (by simp) (by simp))
    obtain ⟨O, hO⟩ : ∃ O : Nat → List Int, O = fun i => skewsR t.w L i := ⟨_, rfl⟩
    have hOe : ∀ i, skewsR t.w L i = O i := fun i => by rw [hO]
    have hO0 : O 0 = [] := by rw [hO]; rfl
    have hOs : ∀ i, O (i + 1) = if skq t.w L i then O i ++ [-t.w.skew + i] else O i := fun i => by rw [hO]; rfl
    have hOl : ∀ i, (O i).length ≤ i := fun i => by rw [hO]; exact skewsR_len t.w L i
    rw [hOe]
    refine awp_loop (fun i : Nat => ⟨ofL [(1, .ptr 1 10 0 0), (4, slT L), (5, encI 0), (6, .own 6 1 0 (O i).length), (7, encI (-t.w.skew + i))], stoT [(1, 1, .live (obTi t)), (6, 6, .live ⟨(O i).isEmpty, false, 1, (O i).map cI⟩)]⟩)
      (fun i => i ≤ nS t.w) (fun i => nS t.w - i) 0 (Nat.zero_le _) ?_ ?_
    · simp only [hO0]
      refine wk_shape (shp0 hσ (by simp) (by simp) ?_) ?_
      · simp [SlotOk] <;> (repeat' (first | (refine RowsOk.same ?_; simp [purel, C.isPure]; done) | (refine rowsCons ?_; simp [mtl, mtc, mT, mH, C.isPure, purel]; done) | (refine rowsCons ?_; simp [mtl, mtc, mT, mH, C.isPure, purel]) | refine And.intro ?_ ?_))
      · simp [mtc, mtl, mT, C.isPure, purel] <;> (try simp (disch := omega) [wrap_id]) <;> (try omega)
    · intro i hi
      have hOli := hOl i
      have hst := hOs i
      by_cases hq : -t.w.skew + (i : Int) ≤ t.w.skew
      · have hiS : i < nS t.w := by omega
        have hwi := wrap_id (z := -t.w.skew + (i : Int) + 1) (by omega) (by omega)
        have hwi2 : -t.w.skew + (i : Int) + 1 = -t.w.skew + ((i + 1 : Nat) : Int) := by omega
        (repeat refine awp_seq ?_); refine awp_reg1 (by rw [hx]; kernel_rfl) fun K hK => ?_; simp (maxSteps := 1000000) [ty28, ty25, ty3, ty36, hq]; refine hK _ ?_; clear hK K; (first | show AWP _ _ _ _ _ | show ∃ _, _ | skip)
        (repeat refine awp_seq ?_); refine awp_cond (by simp [hq]; rfl) (by rw [hx]; simp) (fun hd => ?_) (fun hd => ?_)
        · clear hd
          refine awp_skip ?_; (first | show AWP _ _ _ _ _ | show ∃ _, _ | skip)
          (repeat refine awp_seq ?_); refine awp_block ?_
          (repeat refine awp_seq ?_); refine awp_reg1 (by rw [hx]; kernel_rfl) fun K hK => ?_; simp (maxSteps := 1000000) []; refine hK _ ?_; clear hK K; (first | show AWP _ _ _ _ _ | show ∃ _, _ | skip)
          generalize hV : O i = V at *
          (repeat refine awp_seq ?_); refine awp_block ?_
          refine awp_loop (fun j : Nat => ⟨ofL [(1, .ptr 1 10 0 0), (4, slT L), (5, encI 0), (6, .own 6 1 0 V.length), (7, encI (-t.w.skew + i)), (8, encI j)], stoT [(1, 1, .live (obTi t)), (6, 6, .live ⟨V.isEmpty, false, 1, V.map cI⟩)]⟩)
            (fun j => j ≤ L.length ∧ ∀ j' (h : j' < L.length), j' < j → L[j'].skew ≠ -t.w.skew + i) (fun j => L.length - j) 0 ⟨Nat.zero_le _, fun j' _ h => by omega⟩ ?_ ?_
          · refine wk_shape (shp0 hσ (by simp) (by simp) ?_) ?_
            · simp [SlotOk] <;> (repeat' (first | (refine RowsOk.same ?_; simp [purel, C.isPure]; done) | (refine rowsCons ?_; simp [mtl, mtc, mT, mH, C.isPure, purel]; done) | (refine rowsCons ?_; simp [mtl, mtc, mT, mH, C.isPure, purel]) | refine And.intro ?_ ?_))
            · simp [mtc, mtl, mT, C.isPure, purel] <;> (try simp (disch := omega) [wrap_id]) <;> (try omega)
          · rintro j ⟨hj, hno⟩
            (repeat refine awp_seq ?_); refine awp_reg1 (by rw [hx]; kernel_rfl) fun K hK => ?_; simp (maxSteps := 1000000) [ty81, ty3]; refine hK _ ?_; clear hK K; (first | show AWP _ _ _ _ _ | show ∃ _, _ | skip)
            (repeat refine awp_seq ?_); refine awp_cond (by simp; rfl) (by rw [hx]; simp) (fun hc2 => ?_) (fun hc2 => ?_)
            · simp at hc2
              refine awp_skip ?_; (first | show AWP _ _ _ _ _ | show ∃ _, _ | skip)
              (repeat refine awp_seq ?_); refine awp_block ?_
              have hne : L ≠ [] := by rintro rfl; simp at hc2
              (repeat refine awp_seq ?_); refine awp_reg1 (by rw [hx]; kernel_rfl) fun K hK => ?_; simp (maxSteps := 1000000) [ty81, ty48, ty3, hc2, hne]; refine hK _ ?_; clear hK K; (first | show AWP _ _ _ _ _ | show ∃ _, _ | skip)
              by_cases hb : L[j].skew = -t.w.skew + i
              · have hq1 : skq t.w L i = true := by
                  simp only [skq, List.any_eq_true, decide_eq_true_eq]
                  exact ⟨_, List.getElem_mem hc2, hb⟩
                rw [hq1, if_pos rfl] at hst
                (repeat refine awp_seq ?_); refine awp_cond (by simp [hb]; rfl) (by rw [hx]; simp) (fun hd => ?_) (fun hd => ?_)
                · clear hd
                  (repeat refine awp_seq ?_); refine awp_reg1 (by rw [hx]; kernel_rfl) fun K hK => ?_; simp (maxSteps := 1000000) [ty41, ty3]
                  refine ⟨by omega, ?_⟩
                  refine hK _ ?_; clear hK K; (first | show AWP _ _ _ _ _ | show ∃ _, _ | skip)
                  (repeat refine awp_seq ?_); refine awp_exit ?_; (first | show AWP _ _ _ _ _ | show ∃ _, _ | skip)
                  (repeat refine awp_seq ?_); refine awp_reg1 (by rw [hx]; kernel_rfl) fun K hK => ?_; simp (maxSteps := 1000000) [ty3]; refine hK _ ?_; clear hK K; (first | show AWP _ _ _ _ _ | show ∃ _, _ | skip)
                  refine ⟨i + 1, by omega, by omega, ?_⟩
                  rw [hwi, hwi2, hst]
                  refine wk_shape2 [(1, 1, .live (obTi t)), (6, 45, .live ⟨(V ++ [-t.w.skew + (i : Int)]).isEmpty, false, 1, (V ++ [-t.w.skew + (i : Int)]).map cI⟩)] (by first | rfl | (simp only [if_pos, if_true]; rfl)) (shp0 hσ (by simp) (by simp) ?_) ?_
                  · simp [SlotOk] <;> (repeat' (first | (refine RowsOk.same ?_; simp [purel, C.isPure]; done) | (refine rowsCons ?_; simp [mtl, mtc, mT, mH, C.isPure, purel]; done) | (refine rowsCons ?_; simp [mtl, mtc, mT, mH, C.isPure, purel]) | refine And.intro ?_ ?_))
                  · simp [mtc, mtl, mT, C.isPure, purel] <;> (try simp (disch := omega) [wrap_id]) <;> (try omega)
                · simp [hb] at hd
              · (repeat refine awp_seq ?_); refine awp_cond (by simp [hb]; rfl) (by rw [hx]; simp) (fun hd => ?_) (fun hd => ?_)
                · simp [hb] at hd
                · clear hd
                  refine awp_skip ?_; (first | show AWP _ _ _ _ _ | show ∃ _, _ | skip)
                  (repeat refine awp_seq ?_); refine awp_reg1 (by rw [hx]; kernel_rfl) fun K hK => ?_; simp (maxSteps := 1000000) [ty3]; refine hK _ ?_; clear hK K; (first | show AWP _ _ _ _ _ | show ∃ _, _ | skip)
                  rw [wrap_id (z := (j : Int) + 1) (by omega) (by omega)]
                  refine ⟨j + 1, ⟨by omega, fun j' h1 h2 => ?_⟩, by omega, ?_⟩
                  · by_cases e : j' = j
                    · subst e; exact hb
                    · exact hno j' h1 (by omega)
                  · refine wk_shape (shp0 hσ (by simp) (by simp) ?_) ?_
                    · simp [SlotOk] <;> (repeat' (first | (refine RowsOk.same ?_; simp [purel, C.isPure]; done) | (refine rowsCons ?_; simp [mtl, mtc, mT, mH, C.isPure, purel]; done) | (refine rowsCons ?_; simp [mtl, mtc, mT, mH, C.isPure, purel]) | refine And.intro ?_ ?_))
                    · simp [mtc, mtl, mT, C.isPure, purel] <;> (try simp (disch := omega) [wrap_id]) <;> (try omega)
            · simp at hc2
              (repeat refine awp_seq ?_); refine awp_exit ?_; (first | show AWP _ _ _ _ _ | show ∃ _, _ | skip)
              have hq1 : skq t.w L i = false := by
                rw [Bool.eq_false_iff]
                intro h
                simp only [skq, List.any_eq_true, decide_eq_true_eq] at h
                obtain ⟨t', ht, e⟩ := h
                obtain ⟨j', h1, rfl⟩ := List.getElem_of_mem ht
                exact hno j' h1 (by omega) e
              rw [hq1, if_neg (by simp)] at hst
              (repeat refine awp_seq ?_); refine awp_reg1 (by rw [hx]; kernel_rfl) fun K hK => ?_; simp (maxSteps := 1000000) [ty3]; refine hK _ ?_; clear hK K; (first | show AWP _ _ _ _ _ | show ∃ _, _ | skip)
              refine ⟨i + 1, by omega, by omega, ?_⟩
              rw [hwi, hwi2, hst]
              refine wk_shape (shp0 hσ (by simp) (by simp) ?_) ?_
              · simp [SlotOk] <;> (repeat' (first | (refine RowsOk.same ?_; simp [purel, C.isPure]; done) | (refine rowsCons ?_; simp [mtl, mtc, mT, mH, C.isPure, purel]; done) | (refine rowsCons ?_; simp [mtl, mtc, mT, mH, C.isPure, purel]) | refine And.intro ?_ ?_))
              · simp [mtc, mtl, mT, C.isPure, purel] <;> (try simp (disch := omega) [wrap_id]) <;> (try omega)
        · exact absurd hd (by simp [hq])
      · (repeat refine awp_seq ?_); refine awp_reg1 (by rw [hx]; kernel_rfl) fun K hK => ?_; simp (maxSteps := 1000000) [ty28, ty25, ty3, ty36, hq]; refine hK _ ?_; clear hK K; (first | show AWP _ _ _ _ _ | show ∃ _, _ | skip)
        (repeat refine awp_seq ?_); refine awp_cond (by simp [hq]; rfl) (by rw [hx]; simp) (fun hd => ?_) (fun hd => ?_)
        · exact absurd hd (by simp [hq])
        · clear hd
          (repeat refine awp_seq ?_); refine awp_exit ?_; (first | show AWP _ _ _ _ _ | show ∃ _, _ | skip)
          have hin : i = nS t.w := by omega
          rw [hin]
          (repeat refine awp_seq ?_); refine awp_reg1 (by rw [hx]; kernel_rfl) fun K hK => ?_; simp (maxSteps := 1000000) [ty41]; refine hK _ ?_; clear hK K; (first | show AWP _ _ _ _ _ | show ∃ _, _ | skip)
          (repeat refine awp_seq ?_); refine awp_ret ?_; refine And.intro (Or.inr rfl) ?_
          simp [retC, resC, viewC, mapO, purel, C.isPure]
  · have hz0 := numsT_zero (f := Tr.skew) hz
    have hzb : (openT t true == 0) = false := by simpa using hz
    (repeat refine awp_seq ?_); refine awp_block ?_
    refine awp_loop (fun _ : Nat => ⟨ofL [(1, .ptr 1 10 0 0), (5, encI (openT t true)), (6, .sl true true []), (7, encI (IntKind.i64.wrap (-t.w.skew)))], stoT [(1, 1, .live (obTi t))]⟩)
      (fun _ => True) (fun _ => 0) 0 trivial ?_ ?_
    · refine wk_shape (shp0 hσ (by simp) (by simp) ?_) ?_
      · simp [SlotOk] <;> (repeat' (first | (refine RowsOk.same ?_; simp [purel, C.isPure]; done) | (refine rowsCons ?_; simp [mtl, mtc, mT, mH, C.isPure, purel]; done) | (refine rowsCons ?_; simp [mtl, mtc, mT, mH, C.isPure, purel]) | refine And.intro ?_ ?_))
      · simp [mtc, mtl, mT, C.isPure, purel] <;> (try simp (disch := omega) [wrap_id]) <;> (try omega)
    · intro i _
      by_cases hq : IntKind.i64.wrap (-t.w.skew) ≤ t.w.skew
      · (repeat refine awp_seq ?_); refine awp_reg1 (by rw [hx]; kernel_rfl) fun K hK => ?_; simp (maxSteps := 1000000) [ty28, ty25, ty3, ty36, hq, hzb]; refine hK _ ?_; clear hK K; (first | show AWP _ _ _ _ _ | show ∃ _, _ | skip)
        (repeat refine awp_seq ?_); refine awp_cond (by simp [hzb]; rfl) (by rw [hx]; simp) (fun hd => ?_) (fun hd => ?_)
        · exact absurd hd (by simp [hzb])
        · clear hd
          (repeat refine awp_seq ?_); refine awp_exit ?_; (first | show AWP _ _ _ _ _ | show ∃ _, _ | skip)
          (repeat refine awp_seq ?_); refine awp_reg1 (by rw [hx]; kernel_rfl) fun K hK => ?_; simp (maxSteps := 1000000) [ty41]; refine hK _ ?_; clear hK K; (first | show AWP _ _ _ _ _ | show ∃ _, _ | skip)
          (repeat refine awp_seq ?_); refine awp_ret ?_; refine And.intro (Or.inr rfl) ?_
          simp [retC, resC, viewC, mapO, hz0, hz]
      · (repeat refine awp_seq ?_); refine awp_reg1 (by rw [hx]; kernel_rfl) fun K hK => ?_; simp (maxSteps := 1000000) [ty28, ty25, ty3, ty36, hq]; refine hK _ ?_; clear hK K; (first | show AWP _ _ _ _ _ | show ∃ _, _ | skip)
        (repeat refine awp_seq ?_); refine awp_cond (by simp [hq]; rfl) (by rw [hx]; simp) (fun hd => ?_) (fun hd => ?_)
        · exact absurd hd (by simp [hq])
        · clear hd
          (repeat refine awp_seq ?_); refine awp_exit ?_; (first | show AWP _ _ _ _ _ | show ∃ _, _ | skip)
          (repeat refine awp_seq ?_); refine awp_reg1 (by rw [hx]; kernel_rfl) fun K hK => ?_; simp (maxSteps := 1000000) [ty41]; refine hK _ ?_; clear hK K; (first | show AWP _ _ _ _ _ | show ∃ _, _ | skip)
          (repeat refine awp_seq ?_); refine awp_ret ?_; refine And.intro (Or.inr rfl) ?_
          simp [retC, resC, viewC, mapO, hz0, hz]

end Go.Proofs.YtbhbmnofmoibhaaGreat

namespace Go.Proofs.YtbhbmnofmoibhaaGreat
open Go Go.Abs

set_option maxHeartbeats 4000000

def mnT (f : Tr → Int) (a : Int) (L : List Tr) : Int := L.foldl (fun x k => if f k < x then f k else x) a
def mxT (f : Tr → Int) (a : Int) (L : List Tr) : Int := L.foldl (fun x k => if x < f k then f k else x) a

theorem mnT_step (f : Tr → Int) (a : Int) {L : List Tr} {i : Nat} (hi : i < L.length) : mnT f a (L.take (i + 1)) = if f L[i] < mnT f a (L.take i) then f L[i] else mnT f a (L.take i) := by
  unfold mnT; rw [List.take_succ_eq_append_getElem hi, List.foldl_append]; rfl
theorem mxT_step (f : Tr → Int) (a : Int) {L : List Tr} {i : Nat} (hi : i < L.length) : mxT f a (L.take (i + 1)) = if mxT f a (L.take i) < f L[i] then f L[i] else mxT f a (L.take i) := by
  unfold mxT; rw [List.take_succ_eq_append_getElem hi, List.foldl_append]; rfl

theorem mnT_spec (f : Tr → Int) : ∀ (L : List Tr) (a : Int), mnT f a L ≤ a ∧ (∀ k ∈ L, mnT f a L ≤ f k) ∧ (mnT f a L = a ∨ ∃ k ∈ L, f k = mnT f a L)
  | [], a => by simp [mnT]
  | k :: L, a => by
    have ih := mnT_spec f L (if f k < a then f k else a)
    have e : mnT f a (k :: L) = mnT f (if f k < a then f k else a) L := rfl
    rw [e]
    obtain ⟨h1, h2, h3⟩ := ih
    refine ⟨by split at h1 <;> rename_i h <;> (first | rw [if_pos h]; omega | rw [if_neg h]; omega), fun q hq => ?_, ?_⟩
    · rcases List.mem_cons.1 hq with rfl | hq
      · split at h1 <;> rename_i h <;> (first | rw [if_pos h]; omega | rw [if_neg h]; omega)
      · exact h2 q hq
    · rcases h3 with h3 | ⟨q, hq, h3⟩
      · by_cases h : f k < a
        · rw [if_pos h] at h3 ⊢
          exact .inr ⟨k, by simp, h3.symm⟩
        · rw [if_neg h] at h3 ⊢
          exact .inl h3
      · exact .inr ⟨q, by simp [hq], h3⟩

theorem mxT_spec (f : Tr → Int) : ∀ (L : List Tr) (a : Int), a ≤ mxT f a L ∧ (∀ k ∈ L, f k ≤ mxT f a L) ∧ (mxT f a L = a ∨ ∃ k ∈ L, f k = mxT f a L)
  | [], a => by simp [mxT]
  | k :: L, a => by
    have ih := mxT_spec f L (if a < f k then f k else a)
    have e : mxT f a (k :: L) = mxT f (if a < f k then f k else a) L := rfl
    rw [e]
    obtain ⟨h1, h2, h3⟩ := ih
    refine ⟨by split at h1 <;> rename_i h <;> (first | rw [if_pos h]; omega | rw [if_neg h]; omega), fun q hq => ?_, ?_⟩
    · rcases List.mem_cons.1 hq with rfl | hq
      · split at h1 <;> rename_i h <;> (first | rw [if_pos h]; omega | rw [if_neg h]; omega)
      · exact h2 q hq
    · rcases h3 with h3 | ⟨q, hq, h3⟩
      · by_cases h : a < f k
        · rw [if_pos h] at h3 ⊢
          exact .inr ⟨k, by simp, h3.symm⟩
        · rw [if_neg h] at h3 ⊢
          exact .inl h3
      · exact .inr ⟨q, by simp [hq], h3⟩

theorem ends_mnmx {f : Tr → Int} {t : Ti} {is : Bool} (h : openT t is = 0) (h0 : 0 < (truthsS t (allS t)).length) :
    endsT f t is = (mnT f (f (truthsS t (allS t))[0]) (truthsS t (allS t)), mxT f (f (truthsS t (allS t))[0]) (truthsS t (allS t))) := by
  unfold endsT
  rw [(numsT_ok h).1]
  generalize truthsS t (allS t) = L at *
  obtain ⟨a1, a2, a3⟩ := mnT_spec f L (f L[0])
  obtain ⟨b1, b2, b3⟩ := mxT_spec f L (f L[0])
  have := kinds_ends (f := f) (L := L) (lo := mnT f (f L[0]) L) (hi := mxT f (f L[0]) L)
    (by rcases a3 with a3 | a3
        · exact ⟨_, List.getElem_mem h0, a3.symm⟩
        · exact a3) a2
    (by rcases b3 with b3 | b3
        · exact ⟨_, List.getElem_mem h0, b3.symm⟩
        · exact b3) b2
  rw [this.1, this.2]

theorem q_errs35 (t : Ti) (a : Int) (hl : TiLen t) : Pure Tryz.prog 35 [encTi t, encI a] (.tup [encSp (endsT (fun k => errI k a) t (areaB a)), encI (openT t (areaB a))]) := by
  have hkb := knownT_bd (t := t) (is := areaB a)
  refine pure_of (fn := Tryz.f35) [.cell 4 23, .tmp 5] ⟨Tryz.func35, rfl, by kernel_rfl⟩ (by kernel_rfl) (by kernel_rfl) (by kernel_rfl) fun x hx hσ => ?_
  (repeat refine awp_seq ?_); refine awp_reg1 (by rw [hx]; kernel_rfl) fun K hK => ?_; simp (maxSteps := 1000000) [ty28, ty23]; refine hK _ ?_; clear hK K; (first | show AWP _ _ _ _ _ | show ∃ _, _ | skip)
  (repeat refine awp_seq ?_); refine awp_drw3 [] [0, 1, 2, 3, 4, 5, 6, 7, 8] (by rw [hx]; kernel_rfl) (by kernel_rfl) (by kernel_rfl) (by kernel_rfl) fun K hK => ?_; simp (maxSteps := 1000000) [ty28]
  refine callPD (q_isArea56 a) (by first | (simp; done) | (simp [*]; done)) (by simp) ?_; simp (maxSteps := 1000000) []
  refine callPD (q_known50 t (areaB a) hl) (by first | (simp; done) | (simp [*]; done)) (by simp) ?_; simp (maxSteps := 1000000) [ty81]
  refine hK _ ?_; clear hK K; (first | show AWP _ _ _ _ _ | show ∃ _, _ | skip)
  (repeat refine awp_seq ?_); refine awp_reg1 (by rw [hx]; kernel_rfl) fun K hK => ?_; simp (maxSteps := 1000000) [ty36]; refine hK _ ?_; clear hK K; (first | show AWP _ _ _ _ _ | show ∃ _, _ | skip)
  by_cases hz : openT t (areaB a) = 0
  · have har := (openT_area hz).2
    have hpos : 0 < (truthsS t (allS t)).length := List.length_pos_iff.2 (openT_ok hz).2.2
    have hends := ends_mnmx (f := fun k => errI k a) hz hpos
    rw [hends]
    rw [knownT_ok hz] at hkb ⊢
    generalize truthsS t (allS t) = L at *
    have hk0 := hkb.2 _ (List.getElem_mem hpos)
    have hbd : ∀ i (h : i < L.length), -1000000 ≤ errI L[i] a ∧ errI L[i] a ≤ 1000000 := fun i h => errI_bd har (hkb.2 _ (List.getElem_mem h)).1 (hkb.2 _ (List.getElem_mem h)).2
    obtain ⟨A, hA⟩ : ∃ A : Nat → Int, ∀ i, A i = mnT (fun k => errI k a) (errI L[0] a) (L.take i) := ⟨_, fun _ => rfl⟩
    obtain ⟨B, hB⟩ : ∃ B : Nat → Int, ∀ i, B i = mxT (fun k => errI k a) (errI L[0] a) (L.take i) := ⟨_, fun _ => rfl⟩
    have hA0 : A 0 = errI L[0] a := by rw [hA]; rfl
    have hB0 : B 0 = errI L[0] a := by rw [hB]; rfl
    have hAs : ∀ i (hi : i < L.length), A (i + 1) = if errI L[i] a < A i then errI L[i] a else A i := fun i hi => by rw [hA, hA]; exact mnT_step _ _ hi
    have hBs : ∀ i (hi : i < L.length), B (i + 1) = if B i < errI L[i] a then errI L[i] a else B i := fun i hi => by rw [hB, hB]; exact mxT_step _ _ hi
    have hAn : mnT (fun k => errI k a) (errI L[0] a) L = A L.length := by rw [hA, List.take_length]
    have hBn : mxT (fun k => errI k a) (errI L[0] a) L = B L.length := by rw [hB, List.take_length]
    simp only [hAn, hBn]
    clear hA hB hAn hBn hends
    have hne : L ≠ [] := by rintro rfl; simp at hpos
    rw [hz]
    (repeat refine awp_seq ?_); refine awp_cond (by simp; rfl) (by rw [hx]; simp) (fun hd => ?_) (fun hd => ?_)
    · simp at hd
    · clear hd
      refine awp_skip ?_; (first | show AWP _ _ _ _ _ | show ∃ _, _ | skip)
      (repeat refine awp_seq ?_); refine awp_drw3 [] [0, 1, 2, 3, 4, 5, 6, 7, 8, 9, 10, 11, 12] (by rw [hx]; kernel_rfl) (by kernel_rfl) (by kernel_rfl) (by kernel_rfl) fun K hK => ?_; simp (maxSteps := 1000000) [ty81, ty48, ty23, ty3, hpos, hne]
      refine callPD (q_error28 L[0] a har hk0.1 hk0.2) (by first | (simp; done) | (simp [*]; done)) (by simp) ?_; simp (maxSteps := 1000000) [ty81, ty48, ty23, ty3, hpos, hne]
      refine callPD (q_error28 L[0] a har hk0.1 hk0.2) (by first | (simp; done) | (simp [*]; done)) (by simp) ?_; simp (maxSteps := 1000000) [ty23]
      refine hK _ ?_; clear hK K; (first | show AWP _ _ _ _ _ | show ∃ _, _ | skip)
      (repeat refine awp_seq ?_); refine awp_reg1 (by rw [hx]; kernel_rfl) fun K hK => ?_; simp (maxSteps := 1000000) []; refine hK _ ?_; clear hK K; (first | show AWP _ _ _ _ _ | show ∃ _, _ | skip)
      rw [← hA0]
      (repeat refine awp_seq ?_); refine awp_block ?_
      refine awp_loop (fun i : Nat => ⟨ofL [(1, encI a), (4, .ptr 4 2 0 0), (6, slT L), (8, .ptr 8 2 0 0), (9, encI i)], stoT [(4, 4, .live ⟨false, false, 2, [[encI 0, encI 0]]⟩), (8, 8, .live ⟨false, false, 2, [[encI (A i), encI (B i)]]⟩)]⟩)
        (fun i => i ≤ L.length) (fun i => L.length - i) 0 (by simp) ?_ ?_
      · rw [hA0, hB0]
        refine wk_shape (shp0 hσ (by simp) (by simp) ?_) ?_
        · simp [SlotOk] <;> (repeat' (first | (refine RowsOk.same ?_; simp [purel, C.isPure]; done) | (refine rowsCons ?_; simp [mtl, mtc, mT, mH, C.isPure, purel]; done) | (refine rowsCons ?_; simp [mtl, mtc, mT, mH, C.isPure, purel]) | refine And.intro ?_ ?_))
        · simp [mtc, mtl, mT, C.isPure, purel] <;> (try simp (disch := omega) [wrap_id]) <;> (try omega)
      · intro i hi
        (repeat refine awp_seq ?_); refine awp_reg1 (by rw [hx]; kernel_rfl) fun K hK => ?_; simp (maxSteps := 1000000) [ty81, ty3]; refine hK _ ?_; clear hK K; (first | show AWP _ _ _ _ _ | show ∃ _, _ | skip)
        (repeat refine awp_seq ?_); refine awp_cond (by simp; rfl) (by rw [hx]; simp) (fun hc => ?_) (fun hc => ?_)
        · simp at hc
          refine awp_skip ?_; (first | show AWP _ _ _ _ _ | show ∃ _, _ | skip)
          (repeat refine awp_seq ?_); refine awp_block ?_
          have hk := hkb.2 _ (List.getElem_mem hc)
          have hsA := hAs i hc
          have hsB := hBs i hc
          have hwi : IntKind.i64.wrap ((i : Int) + 1) = ((i + 1 : Nat) : Int) := by rw [wrap_id (by omega) (by omega)]; rfl
          (repeat refine awp_seq ?_); refine awp_reg1 (by rw [hx]; kernel_rfl) fun K hK => ?_; simp (maxSteps := 1000000) [ty81, ty48, ty3, hc, hne]
          refine callP (q_error28 L[i] a har hk.1 hk.2) (by first | (simp; done) | (simp [*]; done)) ?_; simp (maxSteps := 1000000) []
          refine hK _ ?_; clear hK K; (first | show AWP _ _ _ _ _ | show ∃ _, _ | skip)
          (repeat refine awp_seq ?_); refine awp_reg1 (by rw [hx]; kernel_rfl) fun K hK => ?_; simp (maxSteps := 1000000) [ty23, ty3]; refine hK _ ?_; clear hK K; (first | show AWP _ _ _ _ _ | show ∃ _, _ | skip)
          rw [← hsA, ← hsB]
          (repeat refine awp_seq ?_); refine awp_reg1 (by rw [hx]; kernel_rfl) fun K hK => ?_; simp (maxSteps := 1000000) [ty3]; refine hK _ ?_; clear hK K; (first | show AWP _ _ _ _ _ | show ∃ _, _ | skip)
          refine ⟨i + 1, by omega, by omega, ?_⟩
          rw [hwi]
          refine wk_shape (shp0 hσ (by simp) (by simp) ?_) ?_
          · simp [SlotOk] <;> (repeat' (first | (refine RowsOk.same ?_; simp [purel, C.isPure]; done) | (refine rowsCons ?_; simp [mtl, mtc, mT, mH, C.isPure, purel]; done) | (refine rowsCons ?_; simp [mtl, mtc, mT, mH, C.isPure, purel]) | refine And.intro ?_ ?_))
          · simp [mtc, mtl, mT, C.isPure, purel] <;> (try simp (disch := omega) [wrap_id]) <;> (try omega)
        · simp at hc
          (repeat refine awp_seq ?_); refine awp_exit ?_; (first | show AWP _ _ _ _ _ | show ∃ _, _ | skip)
          have hin : i = L.length := by omega
          rw [hin]
          (repeat refine awp_seq ?_); refine awp_reg1 (by rw [hx]; kernel_rfl) fun K hK => ?_; simp (maxSteps := 1000000) [ty23]; refine hK _ ?_; clear hK K; (first | show AWP _ _ _ _ _ | show ∃ _, _ | skip)
          (repeat refine awp_seq ?_); refine awp_ret ?_; refine And.intro (Or.inr rfl) ?_
          simp [retC, resC, viewC, mapO, ty23]
  · have hz0 := numsT_zero (f := fun k => errI k a) hz
    (repeat refine awp_seq ?_); refine awp_cond (by simp [hz]; rfl) (by rw [hx]; simp) (fun hd => ?_) (fun hd => ?_)
    · clear hd
      (repeat refine awp_seq ?_); refine awp_reg1 (by rw [hx]; kernel_rfl) fun K hK => ?_; simp (maxSteps := 1000000) [ty23, ty36]; refine hK _ ?_; clear hK K; (first | show AWP _ _ _ _ _ | show ∃ _, _ | skip)
      (repeat refine awp_seq ?_); refine awp_ret ?_; refine And.intro (Or.inr rfl) ?_
      simp [retC, resC, viewC, mapO, hz0, endsT, ty23]
    · simp [hz] at hd

theorem seenA_mono {a g h : Int} (ha : 0 ≤ a) (hgh : g ≤ h) : seenA a g ≤ seenA a h := by
  have h1 : a * g ≤ a * h := Int.mul_le_mul_of_nonneg_left hgh ha
  unfold seenA
  generalize a * g = x at *
  generalize a * h = y at *
  omega

theorem ends_seen {t : Ti} {a : Int} {L : List Tr} (h : openT t (areaB a) = 0) (hL : truthsS t (allS t) = L) (h0 : 0 < L.length) (h1 : L.length - 1 < L.length) :
    endsT (fun k => seenA a k.area) t (areaB a) = (seenA a L[0].area, seenA a (L[L.length - 1]'h1).area) := by
  have har := (openT_area h).2
  have hs := truthsS_sorted t (allS t)
  unfold endsT
  rw [(numsT_ok h).1]
  rw [hL] at hs ⊢
  have := kinds_ends (f := fun k => seenA a k.area) (L := L) (lo := seenA a L[0].area) (hi := seenA a L[L.length - 1].area)
    ⟨_, List.getElem_mem h0, rfl⟩ (fun k hk => by
      obtain ⟨i, hi, rfl⟩ := List.getElem_of_mem hk
      refine seenA_mono har.1 ?_
      by_cases e : i = 0
      · subst e; exact Int.le_refl _
      · exact List.pairwise_iff_getElem.1 hs 0 i h0 hi (by omega))
    ⟨_, List.getElem_mem (show L.length - 1 < L.length by omega), rfl⟩ (fun k hk => by
      obtain ⟨i, hi, rfl⟩ := List.getElem_of_mem hk
      refine seenA_mono har.1 ?_
      by_cases e : i = L.length - 1
      · subst e; exact Int.le_refl _
      · exact List.pairwise_iff_getElem.1 hs i (L.length - 1) hi (by omega) (by omega))
  rw [this.1, this.2]

theorem q_seen14 (t : Ti) (a : Int) (hl : TiLen t) : Pure Tryz.prog 14 [encTi t, encI a] (.tup [encSp (endsT (fun k => seenA a k.area) t (areaB a)), encI (openT t (areaB a))]) := by
  have hkb := knownT_bd (t := t) (is := areaB a)
  refine pure_of (fn := Tryz.f14) [.cell 4 23, .tmp 5] ⟨Tryz.func14, rfl, by kernel_rfl⟩ (by kernel_rfl) (by kernel_rfl) (by kernel_rfl) fun x hx hσ => ?_
  (repeat refine awp_seq ?_); refine awp_reg1 (by rw [hx]; kernel_rfl) fun K hK => ?_; simp (maxSteps := 1000000) [ty28, ty23]; refine hK _ ?_; clear hK K; (first | show AWP _ _ _ _ _ | show ∃ _, _ | skip)
  (repeat refine awp_seq ?_); refine awp_drw3 [] [0, 1, 2, 3, 4, 5, 6, 7, 8] (by rw [hx]; kernel_rfl) (by kernel_rfl) (by kernel_rfl) (by kernel_rfl) fun K hK => ?_; simp (maxSteps := 1000000) [ty28]
  refine callPD (q_isArea56 a) (by first | (simp; done) | (simp [*]; done)) (by simp) ?_; simp (maxSteps := 1000000) []
  refine callPD (q_known50 t (areaB a) hl) (by first | (simp; done) | (simp [*]; done)) (by simp) ?_; simp (maxSteps := 1000000) [ty81]
  refine hK _ ?_; clear hK K; (first | show AWP _ _ _ _ _ | show ∃ _, _ | skip)
  (repeat refine awp_seq ?_); refine awp_reg1 (by rw [hx]; kernel_rfl) fun K hK => ?_; simp (maxSteps := 1000000) [ty36]; refine hK _ ?_; clear hK K; (first | show AWP _ _ _ _ _ | show ∃ _, _ | skip)
  by_cases hz : openT t (areaB a) = 0
  · have har := (openT_area hz).2
    have hpos : 0 < (truthsS t (allS t)).length := List.length_pos_iff.2 (openT_ok hz).2.2
    obtain ⟨L, hL⟩ : ∃ L, truthsS t (allS t) = L := ⟨_, rfl⟩
    rw [hL] at hpos
    have hlt : L.length - 1 < L.length := by omega
    have hends := ends_seen hz hL hpos hlt
    rw [hends]
    rw [knownT_ok hz, hL] at hkb ⊢
    have hk0 := hkb.2 _ (List.getElem_mem hpos)
    have hk1 := hkb.2 _ (List.getElem_mem hlt)
    have hne : L ≠ [] := by rintro rfl; simp at hpos
    have hwr : IntKind.i64.wrap ((L.length : Int) - 1) = ((L.length - 1 : Nat) : Int) := by
      rw [wrap_id (by omega) (by omega)]; omega
    rw [hz]
    (repeat refine awp_seq ?_); refine awp_cond (by simp; rfl) (by rw [hx]; simp) (fun hd => ?_) (fun hd => ?_)
    · simp at hd
    · clear hd
      refine awp_skip ?_; (first | show AWP _ _ _ _ _ | show ∃ _, _ | skip)
      (repeat refine awp_seq ?_); refine awp_drw3 [] [0, 1, 2, 3, 4, 5, 6, 7, 8, 9, 10, 11, 12, 13, 14, 15, 16, 17] (by rw [hx]; kernel_rfl) (by kernel_rfl) (by kernel_rfl) (by kernel_rfl) fun K hK => ?_; simp (maxSteps := 1000000) [ty81, ty48, ty23, ty3, hpos, hne]
      refine callPD (q_seen25 a L[0].area har hk0.1) (by first | (simp; done) | (simp [*]; done)) (by simp) ?_; simp (maxSteps := 1000000) [ty81, ty48, ty23, ty3, hwr, hlt, hne]
      refine callPD (q_seen25 a L[L.length - 1].area har hk1.1) (by first | (simp; done) | (simp [*]; done)) (by simp) ?_; simp (maxSteps := 1000000) [ty23]
      refine hK _ ?_; clear hK K; (first | show AWP _ _ _ _ _ | show ∃ _, _ | skip)
      (repeat refine awp_seq ?_); refine awp_ret ?_; refine And.intro (Or.inr rfl) ?_
      simp [retC, resC, viewC, mapO, ty23]
  · have hz0 := numsT_zero (f := fun k => seenA a k.area) hz
    (repeat refine awp_seq ?_); refine awp_cond (by simp [hz]; rfl) (by rw [hx]; simp) (fun hd => ?_) (fun hd => ?_)
    · clear hd
      (repeat refine awp_seq ?_); refine awp_reg1 (by rw [hx]; kernel_rfl) fun K hK => ?_; simp (maxSteps := 1000000) [ty23, ty36]; refine hK _ ?_; clear hK K; (first | show AWP _ _ _ _ _ | show ∃ _, _ | skip)
      (repeat refine awp_seq ?_); refine awp_ret ?_; refine And.intro (Or.inr rfl) ?_
      simp [retC, resC, viewC, mapO, hz0, endsT, ty23]
    · simp [hz] at hd

theorem q_real16 (t : Ti) (s : Int) (hl : TiLen t) : Pure Tryz.prog 16 [encTi t, encI s] (.tup [.sl (realL t s).isEmpty (realE t s != 0) ((realL t s).map cI), encI (realE t s)]) := by
  have c1 := q_within60 s 0 9999
  have hcb : withinB s 0 9999 = countB s := by simp [withinB, countB]
  rw [hcb] at c1
  refine pure_of (fn := Tryz.f16) [.tmp 4, .tmp 5] ⟨Tryz.func16, rfl, by kernel_rfl⟩ (by kernel_rfl) (by kernel_rfl) (by kernel_rfl) fun x hx hσ => ?_
  (repeat refine awp_seq ?_); refine awp_reg1 (by rw [hx]; kernel_rfl) fun K hK => ?_; simp (maxSteps := 1000000) [ty28]; refine hK _ ?_; clear hK K; (first | show AWP _ _ _ _ _ | show ∃ _, _ | skip)
  (repeat refine awp_seq ?_); refine awp_reg1 (by rw [hx]; kernel_rfl) fun K hK => ?_; simp (maxSteps := 1000000) [ty28]
  refine callP (q_gains33 t hl) (by first | (simp; done) | (simp [*]; done)) ?_; simp (maxSteps := 1000000) [ty41]
  refine hK _ ?_; clear hK K; (first | show AWP _ _ _ _ _ | show ∃ _, _ | skip)
  (repeat refine awp_seq ?_); refine awp_reg1 (by rw [hx]; kernel_rfl) fun K hK => ?_; simp (maxSteps := 1000000) [ty28]
  refine callP (q_check30 t hl) (by first | (simp; done) | (simp [*]; done)) ?_; simp (maxSteps := 1000000) []
  refine hK _ ?_; clear hK K; (first | show AWP _ _ _ _ _ | show ∃ _, _ | skip)
  (repeat refine awp_seq ?_); refine awp_reg1 (by rw [hx]; kernel_rfl) fun K hK => ?_; simp (maxSteps := 1000000) [ty36]; refine hK _ ?_; clear hK K; (first | show AWP _ _ _ _ _ | show ∃ _, _ | skip)
  by_cases hz : checkT t = 0
  · (repeat refine awp_seq ?_); refine awp_cond (by simp [hz]; rfl) (by rw [hx]; simp) (fun hd => ?_) (fun hd => ?_)
    · simp at hd
    · clear hd
      refine awp_skip ?_; (first | show AWP _ _ _ _ _ | show ∃ _, _ | skip)
      cases hc : countB s
      · rw [hc] at c1
        have hE : realE t s = 1 := by unfold realE; rw [if_neg (by simpa using hz), if_pos hc]
        have hL : realL t s = [] := by unfold realL; rw [if_neg (by rw [hE]; decide)]
        (repeat refine awp_seq ?_); refine awp_reg1 (by rw [hx]; kernel_rfl) fun K hK => ?_; simp (maxSteps := 1000000) []
        refine callP (c1) (by first | (simp; done) | (simp [*]; done)) ?_; simp (maxSteps := 1000000) []
        refine hK _ ?_; clear hK K; (first | show AWP _ _ _ _ _ | show ∃ _, _ | skip)
        (repeat refine awp_seq ?_); refine awp_cond (by simp; rfl) (by rw [hx]; simp) (fun hd => ?_) (fun hd => ?_)
        · clear hd
          (repeat refine awp_seq ?_); refine awp_reg1 (by rw [hx]; kernel_rfl) fun K hK => ?_; simp (maxSteps := 1000000) []; refine hK _ ?_; clear hK K; (first | show AWP _ _ _ _ _ | show ∃ _, _ | skip)
          (repeat refine awp_seq ?_); refine awp_ret ?_; refine And.intro (Or.inr rfl) ?_
          simp [retC, resC, viewC, mapO, hE, hL]
        · simp at hd
      · rw [hc] at c1
        have hE : realE t s = openT t true := by unfold realE; rw [if_neg (by simpa using hz), if_neg (by rw [hc]; decide)]
        (repeat refine awp_seq ?_); refine awp_reg1 (by rw [hx]; kernel_rfl) fun K hK => ?_; simp (maxSteps := 1000000) []
        refine callP (c1) (by first | (simp; done) | (simp [*]; done)) ?_; simp (maxSteps := 1000000) []
        refine hK _ ?_; clear hK K; (first | show AWP _ _ _ _ _ | show ∃ _, _ | skip)
        (repeat refine awp_seq ?_); refine awp_cond (by simp; rfl) (by rw [hx]; simp) (fun hd => ?_) (fun hd => ?_)
        · simp at hd
        · clear hd
          refine awp_skip ?_; (first | show AWP _ _ _ _ _ | show ∃ _, _ | skip)
          (repeat refine awp_seq ?_); refine awp_reg1 (by rw [hx]; kernel_rfl) fun K hK => ?_; simp (maxSteps := 1000000) [ty36]; refine hK _ ?_; clear hK K; (first | show AWP _ _ _ _ _ | show ∃ _, _ | skip)
          by_cases ho : openT t true = 0
          · obtain ⟨hok, _, hT⟩ := openT_ok ho
            have hL : realL t s = fixTo (fun a => (numsT Tr.area t true).any fun g => seenA a g == s) 9001 := by unfold realL; rw [if_pos (by rw [hE, ho])]
            have hmem : ∀ z ∈ numsT Tr.area t true, -50 ≤ z ∧ z ≤ 50 := fun z hz' => by
              obtain ⟨_, k, hk, rfl⟩ := numsT_mem hz'
              exact (every_k hok (List.mem_filter.1 hk).1).1
            have hln := numsT_len Tr.area t true
            generalize numsT Tr.area t true = G at *
            obtain ⟨A, hA⟩ : ∃ A : Nat → List Int, ∀ i, A i = fixTo (fun a => G.any fun g => seenA a g == s) i := ⟨_, fun _ => rfl⟩
            have hA0 : A 0 = [] := hA 0
            have hAl : ∀ i, (A i).length ≤ i := fun i => by rw [hA]; exact fixTo_len _ _
            have hAs : ∀ i : Nat, A (i + 1) = if (G.any fun g => seenA i g == s) then A i ++ [(i : Int)] else A i := fun i => by rw [hA, hA]; rfl
            rw [← hA] at hL
            clear hA
            rw [hE, ho, hL]
            (repeat refine awp_seq ?_); refine awp_cond (by simp [ho]; rfl) (by rw [hx]; simp) (fun hd => ?_) (fun hd => ?_)
            · simp at hd
            · clear hd
              refine awp_skip ?_; (first | show AWP _ _ _ _ _ | show ∃ _, _ | skip)
              (repeat refine awp_seq ?_); refine awp_reg1 (by rw [hx]; kernel_rfl) fun K hK => ?_; simp (maxSteps := 1000000) [ty41]; refine hK _ ?_; clear hK K; (first | show AWP _ _ _ _ _ | show ∃ _, _ | skip)
              (repeat refine awp_seq ?_); refine awp_reg1 (by rw [hx]; kernel_rfl) fun K hK => ?_; simp (maxSteps := 1000000) [ty3]; refine hK _ ?_; clear hK K; (first | show AWP _ _ _ _ _ | show ∃ _, _ | skip)
              (repeat refine awp_seq ?_); refine awp_block ?_
              refine AWP.weak ?_ (wk_nil 9 9 1 (fu := true) (by simp) (by simp))
              refine awp_loop (fun i : Nat => ⟨ofL [(1, encI s), (6, .sl G.isEmpty false (G.map cI)), (9, .own 9 1 0 (A i).length), (10, encI i)], stoT [(9, 9, .live ⟨(A i).isEmpty, false, 1, (A i).map cI⟩)]⟩)
                (fun i => i ≤ 9001) (fun i => 9001 - i) 0 (by simp) ?_ ?_
              · rw [hA0]
                refine wk_shape (shp0 hσ (by simp) (by simp) ?_) ?_
                · simp [SlotOk] <;> (repeat' (first | (refine RowsOk.same ?_; simp [purel, C.isPure]; done) | (refine rowsCons ?_; simp [mtl, mtc, mT, mH, C.isPure, purel]; done) | (refine rowsCons ?_; simp [mtl, mtc, mT, mH, C.isPure, purel]) | refine And.intro ?_ ?_))
                · simp [mtc, mtl, mT, C.isPure, purel] <;> (try simp (disch := omega) [wrap_id]) <;> (try omega)
              · intro i hi
                have hl := hAl i
                have hst := hAs i
                have hwi : IntKind.i64.wrap ((i : Int) + 1) = ((i + 1 : Nat) : Int) := by rw [wrap_id (by omega) (by omega)]; rfl
                generalize hacc : A i = acc at *
                by_cases hq : (i : Int) ≤ 9000
                · (repeat refine awp_seq ?_); refine awp_reg1 (by rw [hx]; kernel_rfl) fun K hK => ?_; simp (maxSteps := 1000000) [ty3, hq]; refine hK _ ?_; clear hK K; (first | show AWP _ _ _ _ _ | show ∃ _, _ | skip)
                  (repeat refine awp_seq ?_); refine awp_cond (by simp [hq]; rfl) (by rw [hx]; simp) (fun hd => ?_) (fun hd => ?_)
                  · clear hd
                    refine awp_skip ?_; (first | show AWP _ _ _ _ _ | show ∃ _, _ | skip)
                    (repeat refine awp_seq ?_); refine awp_block ?_
                    (repeat refine awp_seq ?_); refine awp_reg1 (by rw [hx]; kernel_rfl) fun K hK => ?_; simp (maxSteps := 1000000) []; refine hK _ ?_; clear hK K; (first | show AWP _ _ _ _ _ | show ∃ _, _ | skip)
                    (repeat refine awp_seq ?_); refine awp_block ?_
                    refine awp_loop (fun j : Nat => ⟨ofL [(1, encI s), (6, .sl G.isEmpty false (G.map cI)), (9, .own 9 1 0 acc.length), (10, encI i), (11, encI j)], stoT [(9, 9, .live ⟨acc.isEmpty, false, 1, acc.map cI⟩)]⟩)
                      (fun j => j ≤ G.length ∧ ∀ j' (h : j' < G.length), j' < j → (seenA i G[j'] == s) = false) (fun j => G.length - j) 0 ⟨Nat.zero_le _, fun j' _ h => by omega⟩ ?_ ?_
                    · refine wk_shape (shp0 hσ (by simp) (by simp) ?_) ?_
                      · simp [SlotOk] <;> (repeat' (first | (refine RowsOk.same ?_; simp [purel, C.isPure]; done) | (refine rowsCons ?_; simp [mtl, mtc, mT, mH, C.isPure, purel]; done) | (refine rowsCons ?_; simp [mtl, mtc, mT, mH, C.isPure, purel]) | refine And.intro ?_ ?_))
                      · simp [mtc, mtl, mT, C.isPure, purel] <;> (try simp (disch := omega) [wrap_id]) <;> (try omega)
                    · rintro j ⟨hj, hno⟩
                      (repeat refine awp_seq ?_); refine awp_reg1 (by rw [hx]; kernel_rfl) fun K hK => ?_; simp (maxSteps := 1000000) [ty41, ty3]; refine hK _ ?_; clear hK K; (first | show AWP _ _ _ _ _ | show ∃ _, _ | skip)
                      (repeat refine awp_seq ?_); refine awp_cond (by simp; rfl) (by rw [hx]; simp) (fun hc2 => ?_) (fun hc2 => ?_)
                      · simp at hc2
                        refine awp_skip ?_; (first | show AWP _ _ _ _ _ | show ∃ _, _ | skip)
                        (repeat refine awp_seq ?_); refine awp_block ?_
                        (repeat refine awp_seq ?_); refine awp_reg1 (by rw [hx]; kernel_rfl) fun K hK => ?_; simp (maxSteps := 1000000) [ty41, ty3, hc2]
                        refine callP (q_seen25 i G[j] ⟨by omega, by omega⟩ (hmem _ (List.getElem_mem hc2))) (by first | (simp; done) | (simp [*]; done)) ?_; simp (maxSteps := 1000000) [ty3]
                        refine hK _ ?_; clear hK K; (first | show AWP _ _ _ _ _ | show ∃ _, _ | skip)
                        cases hb : seenA i G[j] == s
                        · (repeat refine awp_seq ?_); refine awp_cond (by simp [hb]; rfl) (by rw [hx]; simp) (fun hd => ?_) (fun hd => ?_)
                          · exact absurd hd (by simp [hb])
                          · clear hd
                            refine awp_skip ?_; (first | show AWP _ _ _ _ _ | show ∃ _, _ | skip)
                            (repeat refine awp_seq ?_); refine awp_reg1 (by rw [hx]; kernel_rfl) fun K hK => ?_; simp (maxSteps := 1000000) [ty3]; refine hK _ ?_; clear hK K; (first | show AWP _ _ _ _ _ | show ∃ _, _ | skip)
                            rw [wrap_id (z := (j : Int) + 1) (by omega) (by omega)]
                            refine ⟨j + 1, ⟨by omega, fun j' h1 h2 => ?_⟩, by omega, ?_⟩
                            · by_cases e : j' = j
                              · subst e; exact hb
                              · exact hno j' h1 (by omega)
                            · refine wk_shape (shp0 hσ (by simp) (by simp) ?_) ?_
                              · simp [SlotOk] <;> (repeat' (first | (refine RowsOk.same ?_; simp [purel, C.isPure]; done) | (refine rowsCons ?_; simp [mtl, mtc, mT, mH, C.isPure, purel]; done) | (refine rowsCons ?_; simp [mtl, mtc, mT, mH, C.isPure, purel]) | refine And.intro ?_ ?_))
                              · simp [mtc, mtl, mT, C.isPure, purel] <;> (try simp (disch := omega) [wrap_id]) <;> (try omega)
                        · have hany : (G.any fun g => seenA i g == s) = true := List.any_eq_true.2 ⟨_, List.getElem_mem hc2, hb⟩
                          rw [hany] at hst
                          simp at hst
                          (repeat refine awp_seq ?_); refine awp_cond (by simp [hb]; rfl) (by rw [hx]; simp) (fun hd => ?_) (fun hd => ?_)
                          · clear hd
                            (repeat refine awp_seq ?_); refine awp_reg1 (by rw [hx]; kernel_rfl) fun K hK => ?_; simp (maxSteps := 1000000) [ty41, ty3]
                            refine ⟨by omega, ?_⟩
                            refine hK _ ?_; clear hK K; (first | show AWP _ _ _ _ _ | show ∃ _, _ | skip)
                            (repeat refine awp_seq ?_); refine awp_exit ?_; (first | show AWP _ _ _ _ _ | show ∃ _, _ | skip)
                            (repeat refine awp_seq ?_); refine awp_reg1 (by rw [hx]; kernel_rfl) fun K hK => ?_; simp (maxSteps := 1000000) [ty3]; refine hK _ ?_; clear hK K; (first | show AWP _ _ _ _ _ | show ∃ _, _ | skip)
                            refine ⟨i + 1, by omega, by omega, ?_⟩
                            rw [hst, hwi]
                            refine wk_shape2 [(9, 49, .live ⟨(acc ++ [(i : Int)]).isEmpty, false, 1, (acc ++ [(i : Int)]).map cI⟩)] (by first | rfl | (simp only [if_pos, if_true]; rfl)) (shp0 hσ (by simp) (by simp) ?_) ?_
                            · simp [SlotOk] <;> (repeat' (first | (refine RowsOk.same ?_; simp [purel, C.isPure]; done) | (refine rowsCons ?_; simp [mtl, mtc, mT, mH, C.isPure, purel]; done) | (refine rowsCons ?_; simp [mtl, mtc, mT, mH, C.isPure, purel]) | refine And.intro ?_ ?_))
                            · simp [mtc, mtl, mT, C.isPure, purel] <;> (try simp (disch := omega) [wrap_id]) <;> (try omega)
                          · exact absurd hd (by simp [hb])
                      · simp at hc2
                        (repeat refine awp_seq ?_); refine awp_exit ?_; (first | show AWP _ _ _ _ _ | show ∃ _, _ | skip)
                        have hany : (G.any fun g => seenA i g == s) = false := by
                          rw [List.any_eq_false]
                          intro g hg
                          obtain ⟨j', h1, rfl⟩ := List.getElem_of_mem hg
                          rw [hno j' h1 (by omega)]
                          decide
                        rw [hany] at hst
                        simp at hst
                        (repeat refine awp_seq ?_); refine awp_reg1 (by rw [hx]; kernel_rfl) fun K hK => ?_; simp (maxSteps := 1000000) [ty3]; refine hK _ ?_; clear hK K; (first | show AWP _ _ _ _ _ | show ∃ _, _ | skip)
                        refine ⟨i + 1, by omega, by omega, ?_⟩
                        rw [hst, hwi]
                        refine wk_shape (shp0 hσ (by simp) (by simp) ?_) ?_
                        · simp [SlotOk] <;> (repeat' (first | (refine RowsOk.same ?_; simp [purel, C.isPure]; done) | (refine rowsCons ?_; simp [mtl, mtc, mT, mH, C.isPure, purel]; done) | (refine rowsCons ?_; simp [mtl, mtc, mT, mH, C.isPure, purel]) | refine And.intro ?_ ?_))
                        · simp [mtc, mtl, mT, C.isPure, purel] <;> (try simp (disch := omega) [wrap_id]) <;> (try omega)
                  · simp [hq] at hd
                · (repeat refine awp_seq ?_); refine awp_reg1 (by rw [hx]; kernel_rfl) fun K hK => ?_; simp (maxSteps := 1000000) [ty3, hq]; refine hK _ ?_; clear hK K; (first | show AWP _ _ _ _ _ | show ∃ _, _ | skip)
                  (repeat refine awp_seq ?_); refine awp_cond (by simp [hq]; rfl) (by rw [hx]; simp) (fun hd => ?_) (fun hd => ?_)
                  · simp [hq] at hd
                  · clear hd
                    (repeat refine awp_seq ?_); refine awp_exit ?_; (first | show AWP _ _ _ _ _ | show ∃ _, _ | skip)
                    have hin : i = 9001 := by omega
                    rw [← hin, hacc]
                    (repeat refine awp_seq ?_); refine awp_reg1 (by rw [hx]; kernel_rfl) fun K hK => ?_; simp (maxSteps := 1000000) []; refine hK _ ?_; clear hK K; (first | show AWP _ _ _ _ _ | show ∃ _, _ | skip)
                    (repeat refine awp_seq ?_); refine awp_ret ?_; refine And.intro (Or.inr rfl) ?_
                    simp [retC, resC, viewC, mapO, purel, C.isPure]
          · have hL : realL t s = [] := by unfold realL; rw [if_neg (by rw [hE]; exact ho)]
            (repeat refine awp_seq ?_); refine awp_cond (by simp [ho]; rfl) (by rw [hx]; simp) (fun hd => ?_) (fun hd => ?_)
            · clear hd
              (repeat refine awp_seq ?_); refine awp_reg1 (by rw [hx]; kernel_rfl) fun K hK => ?_; simp (maxSteps := 1000000) []; refine hK _ ?_; clear hK K; (first | show AWP _ _ _ _ _ | show ∃ _, _ | skip)
              (repeat refine awp_seq ?_); refine awp_ret ?_; refine And.intro (Or.inr rfl) ?_
              simp [retC, resC, viewC, mapO, hE, hL, ho]
            · simp [ho] at hd
  · have hE : realE t s = checkT t := by unfold realE; rw [if_pos hz]
    have hL : realL t s = [] := by unfold realL; rw [if_neg (by rw [hE]; exact hz)]
    (repeat refine awp_seq ?_); refine awp_cond (by simp [hz]; rfl) (by rw [hx]; simp) (fun hd => ?_) (fun hd => ?_)
    · clear hd
      (repeat refine awp_seq ?_); refine awp_reg1 (by rw [hx]; kernel_rfl) fun K hK => ?_; simp (maxSteps := 1000000) []; refine hK _ ?_; clear hK K; (first | show AWP _ _ _ _ _ | show ∃ _, _ | skip)
      (repeat refine awp_seq ?_); refine awp_ret ?_; refine And.intro (Or.inr rfl) ?_
      simp [retC, resC, viewC, mapO, hE, hL, hz]
    · simp [hz] at hd

end Go.Proofs.YtbhbmnofmoibhaaGreat

namespace Go.Proofs.YtbhbmnofmoibhaaGreat
open Go Go.Abs

set_option maxHeartbeats 4000000

/-- The tests with some numbers. -/
def pickT (t : Ti) (l : List Int) : List Ts := l.filterMap fun z => t.ts[z.toNat]?
/-- A trial with some of its tests. -/
def someT (t : Ti) (l : List Int) : Ti := { t with nl := l.isEmpty, fu := false, ts := pickT t l }

/-- The numbers are those of tests. -/
def InT (t : Ti) (l : List Int) : Prop := ∀ z ∈ l, 0 ≤ z ∧ z < t.ts.length

theorem pickT_len {t : Ti} {l : List Int} (h : InT t l) : (pickT t l).length = l.length := by
  induction l with
  | nil => rfl
  | cons z l ih =>
    have hz := h z (by simp)
    have ih' := ih fun y hy => h y (by simp [hy])
    unfold pickT at ih' ⊢
    rw [List.filterMap_cons, List.getElem?_eq_getElem (show z.toNat < t.ts.length by omega)]
    simp only [List.length_cons, ih']

theorem InT.take {t : Ti} {l : List Int} (h : InT t l) (i : Nat) : InT t (l.take i) := fun z hz => h z (List.mem_of_mem_take hz)

theorem pickT_step {t : Ti} {l : List Int} (h : InT t l) {i : Nat} (hi : i < l.length) (hz : (l[i]).toNat < t.ts.length) : pickT t (l.take (i + 1)) = pickT t (l.take i) ++ [t.ts[(l[i]).toNat]] := by
  unfold pickT
  rw [List.take_succ_eq_append_getElem hi, List.filterMap_append, List.filterMap_cons, List.getElem?_eq_getElem hz]
  rfl

@[simp] abbrev cTo (t : Ti) (c : C) : List C := [encI t.w.full, encI t.w.read, encI t.w.slip, encI t.w.skew, encI t.w.circle, encI t.w.glow, encI t.w.ghigh, encI t.w.wrong, encI t.gain, c]

theorem q_some80 (t : Ti) (nl fu : Bool) (l : List Int) (hl : InT t l) (hn : l.length ≤ 1000) : Pure Tryz.prog 80 [encTi t, .sl nl fu (l.map cI)] (encTi (someT t l)) := by
  obtain ⟨U, hU⟩ : ∃ U : Nat → List Ts, ∀ i, U i = pickT t (l.take i) := ⟨_, fun _ => rfl⟩
  have hU0 : U 0 = [] := by rw [hU]; rfl
  have hUl : ∀ i, i ≤ l.length → (U i).length = i := fun i hi => by rw [hU, pickT_len (hl.take i)]; simp; omega
  have hUs : ∀ i (hi : i < l.length) (hz : (l[i]).toNat < t.ts.length), U (i + 1) = U i ++ [t.ts[(l[i]).toNat]] := fun i hi hz => by rw [hU, hU]; exact pickT_step hl hi hz
  have hUn : pickT t l = U l.length := by rw [hU, List.take_length]
  unfold someT
  rw [hUn]
  clear hUn hU
  refine pure_of (fn := Tryz.f80) [.cell 4 28] ⟨Tryz.func80, rfl, by kernel_rfl⟩ (by kernel_rfl) (by kernel_rfl) (by kernel_rfl) fun x hx hσ => ?_
  (repeat refine awp_seq ?_); refine awp_reg1 (by rw [hx]; kernel_rfl) fun K hK => ?_; simp (maxSteps := 1000000) [ty28]; refine hK _ ?_; clear hK K; (first | show AWP _ _ _ _ _ | show ∃ _, _ | skip)
  (repeat refine awp_seq ?_); refine awp_reg1 (by rw [hx]; kernel_rfl) fun K hK => ?_; simp (maxSteps := 1000000) [ty28]; refine hK _ ?_; clear hK K; (first | show AWP _ _ _ _ _ | show ∃ _, _ | skip)
  (repeat refine awp_seq ?_); refine awp_reg1 (by rw [hx]; kernel_rfl) fun K hK => ?_; simp (maxSteps := 1000000) [ty28, ty26]; refine hK _ ?_; clear hK K; (first | show AWP _ _ _ _ _ | show ∃ _, _ | skip)
  (repeat refine awp_seq ?_); refine awp_reg1 (by rw [hx]; kernel_rfl) fun K hK => ?_; simp (maxSteps := 1000000) []; refine hK _ ?_; clear hK K; (first | show AWP _ _ _ _ _ | show ∃ _, _ | skip)
  (repeat refine awp_seq ?_); refine awp_block ?_
  refine AWP.weak ?_ (wk_nilCell 5 0 9 1000 2 (o := ⟨false, false, 10, [cTo t (.sl true true [])]⟩) (row := cTo t (.sl true true [])) (fu := true) (by simp) rfl rfl rfl (by simp) (by decide))
  refine awp_loop (fun i : Nat => ⟨ofL [(1, .sl nl fu (l.map cI)), (2, .ptr 2 10 0 0), (4, .ptr 4 10 0 0), (5, .ptr 5 10 0 0), (6, encI i)],
      stoT [(2, 2, .live (obTi t)), (4, 4, .live ⟨false, false, 10, [[encI 0, encI 0, encI 0, encI 0, encI 0, encI 0, encI 0, encI 0, encI 0, .sl true true []]]⟩), (5, 5, .live ⟨false, false, 10, [cTo t (.own 1000 2 0 i)]⟩), (1000, 1000, .live ⟨(U i).isEmpty, false, 2, (U i).map cTs⟩)]⟩)
    (fun i => i ≤ l.length) (fun i => l.length - i) 0 (by simp) ?_ ?_
  · refine wk_shape (shp0 hσ (by simp) (by simp) ?_) ?_
    · simp [SlotOk, hU0] <;> (repeat' (first | (refine RowsOk.same ?_; simp [purel, C.isPure]; done) | (refine rowsCons ?_; simp [mtl, mtc, mT, mH, C.isPure, purel]; done) | (refine rowsCons ?_; simp [mtl, mtc, mT, mH, C.isPure, purel]) | refine And.intro ?_ ?_))
    · simp [mtc, mtl, mT, C.isPure, purel, hU0] <;> (try simp (disch := omega) [wrap_id]) <;> (try omega)
  · intro i hi
    have hUi := hUl i hi
    (repeat refine awp_seq ?_); refine awp_reg1 (by rw [hx]; kernel_rfl) fun K hK => ?_; simp (maxSteps := 1000000) [ty41, ty3]; refine hK _ ?_; clear hK K; (first | show AWP _ _ _ _ _ | show ∃ _, _ | skip)
    (repeat refine awp_seq ?_); refine awp_cond (by simp; rfl) (by rw [hx]; simp) (fun hc => ?_) (fun hc => ?_)
    · simp at hc
      refine awp_skip ?_; (first | show AWP _ _ _ _ _ | show ∃ _, _ | skip)
      (repeat refine awp_seq ?_); refine awp_block ?_
      have hz := hl _ (List.getElem_mem hc)
      have hz1 : (l[i]).toNat < t.ts.length := by omega
      have hst := hUs i hc hz1
      generalize hV : U i = V at *
      have hwi : IntKind.i64.wrap ((i : Int) + 1) = ((i + 1 : Nat) : Int) := by rw [wrap_id (by omega) (by omega)]; rfl
      (repeat refine awp_seq ?_); refine awp_drw3 [1001, 1003, 1007, 1009, 5011, 11000] [0, 1, 2, 3, 4, 5, 6, 7, 8, 9, 10, 11, 12, 13] (by rw [hx]; kernel_rfl) (by kernel_rfl) (by kernel_rfl) (by kernel_rfl) fun K hK => ?_; simp (maxSteps := 1000000) [ty28, ty26, ty41, ty3, ty64, hc, hz.1, hz1, hUi]
      refine ⟨by omega, ?_⟩
      refine hK _ ?_; clear hK K; (first | show AWP _ _ _ _ _ | show ∃ _, _ | skip)
      (repeat refine awp_seq ?_); refine awp_reg1 (by rw [hx]; kernel_rfl) fun K hK => ?_; simp (maxSteps := 1000000) [ty3]; refine hK _ ?_; clear hK K; (first | show AWP _ _ _ _ _ | show ∃ _, _ | skip)
      refine ⟨i + 1, by omega, by omega, ?_⟩
      rw [hst, hwi]
      refine wk_shape2 [(2, 2, .live (obTi t)), (4, 4, .live ⟨false, false, 10, [[encI 0, encI 0, encI 0, encI 0, encI 0, encI 0, encI 0, encI 0, encI 0, .sl true true []]]⟩), (5, 5, .live ⟨false, false, 10, [cTo t (.own 1000 2 0 (i + 1))]⟩), (1000, 26, .live ⟨(V ++ [t.ts[(l[i]).toNat]]).isEmpty, false, 2, (V ++ [t.ts[(l[i]).toNat]]).map cTs⟩)] (by first | rfl | (simp only [if_pos, if_true]; rfl)) (shp0 hσ (by simp) (by simp) ?_) ?_
      · simp [SlotOk] <;> (repeat' (first | (refine RowsOk.same ?_; simp [purel, C.isPure]; done) | (refine rowsCons ?_; simp [mtl, mtc, mT, mH, C.isPure, purel]; done) | (refine rowsCons ?_; simp [mtl, mtc, mT, mH, C.isPure, purel]) | refine And.intro ?_ ?_))
      · simp [mtc, mtl, mT, C.isPure, purel] <;> (try simp (disch := omega) [wrap_id]) <;> (try omega)
    · simp at hc
      (repeat refine awp_seq ?_); refine awp_exit ?_; (first | show AWP _ _ _ _ _ | show ∃ _, _ | skip)
      have hin : i = l.length := by omega
      rw [hin] at hUi ⊢
      have hem : (U l.length).isEmpty = l.isEmpty := by
        cases h1 : U l.length <;> cases h2 : l <;> rw [h1, h2] at hUi <;> simp at hUi <;> rfl
      generalize U l.length = V at *
      rw [hem]
      refine AWP.weak ?_ (wk_frzCell 1000 5 0 9 (o := ⟨l.isEmpty, false, 2, V.map cTs⟩) (oq := ⟨false, false, 10, [cTo t (.own 1000 2 0 l.length)]⟩) (row := cTo t (.own 1000 2 0 l.length)) (c := .own 1000 2 0 l.length) (c' := sTs l.isEmpty false V) (by simp) (by simp [purel, C.isPure]) (by simp) (by decide) rfl rfl rfl (fz_own rfl (by simp [hUi]) (by simp)) rfl)
      (repeat refine awp_seq ?_); refine awp_reg1 (by rw [hx]; kernel_rfl) fun K hK => ?_; simp (maxSteps := 1000000) [ty28]; refine hK _ ?_; clear hK K; (first | show AWP _ _ _ _ _ | show ∃ _, _ | skip)
      (repeat refine awp_seq ?_); refine awp_ret ?_; refine And.intro (Or.inr rfl) ?_
      simp [retC, resC, viewC, mapO, ty28]

end Go.Proofs.YtbhbmnofmoibhaaGreat

namespace Go.Proofs.YtbhbmnofmoibhaaGreat
open Go Go.Abs

set_option maxHeartbeats 4000000

/-- What a list of tests is like at a place. -/
def ListAt (n : Nat) (l : List Int) (i : Nat) (h : i < l.length) : Prop := (0 ≤ l[i] ∧ l[i] ≤ (n : Int) - 1) ∧ (∀ _ : 0 < i, l[i - 1] < l[i])
/-- The numbers are those of tests, strictly ascending. -/
def ListOk (n : Nat) (l : List Int) : Prop := ∀ i (h : i < l.length), ListAt n l i h

instance (n : Nat) (l : List Int) (i : Nat) (h : i < l.length) : Decidable (ListAt n l i h) := by unfold ListAt; exact inferInstance
instance (n : Nat) (l : List Int) : Decidable (ListOk n l) := by unfold ListOk; exact inferInstance

theorem q_isList43 (t : Ti) (nl fu : Bool) (l : List Int) (hn : l.length ≤ 1000000) (ht : t.ts.length ≤ 1000) : Pure Tryz.prog 43 [encTi t, .sl nl fu (l.map cI)] (.bool (decide (ListOk t.ts.length l))) := by
  refine pure_of (fn := Tryz.f43) [.tmp 4] ⟨Tryz.func43, rfl, by kernel_rfl⟩ (by kernel_rfl) (by kernel_rfl) (by kernel_rfl) fun x hx hσ => ?_
  (repeat refine awp_seq ?_); refine awp_reg1 (by rw [hx]; kernel_rfl) fun K hK => ?_; simp (maxSteps := 1000000) [ty28]; refine hK _ ?_; clear hK K; (first | show AWP _ _ _ _ _ | show ∃ _, _ | skip)
  (repeat refine awp_seq ?_); refine awp_reg1 (by rw [hx]; kernel_rfl) fun K hK => ?_; simp (maxSteps := 1000000) []; refine hK _ ?_; clear hK K; (first | show AWP _ _ _ _ _ | show ∃ _, _ | skip)
  (repeat refine awp_seq ?_); refine awp_block ?_
  refine awp_loop (fun i : Nat => ⟨ofL [(1, .sl nl fu (l.map cI)), (2, .ptr 2 10 0 0), (5, encI i)], stoT [(2, 2, .live (obTi t))]⟩)
    (fun i => i ≤ l.length ∧ ∀ j (h : j < l.length), j < i → ListAt t.ts.length l j h) (fun i => l.length - i) 0 ⟨Nat.zero_le _, fun j _ h => by omega⟩ ?_ ?_
  · refine wk_shape (shp0 hσ (by simp) (by simp) ?_) ?_
    · simp [SlotOk] <;> (repeat' (first | (refine RowsOk.same ?_; simp [purel, C.isPure]; done) | (refine rowsCons ?_; simp [mtl, mtc, mT, mH, C.isPure, purel]; done) | (refine rowsCons ?_; simp [mtl, mtc, mT, mH, C.isPure, purel]) | refine And.intro ?_ ?_))
    · simp [mtc, mtl, mT, C.isPure, purel] <;> (try simp (disch := omega) [wrap_id]) <;> (try omega)
  · intro i ⟨hi, hj⟩
    (repeat refine awp_seq ?_); refine awp_reg1 (by rw [hx]; kernel_rfl) fun K hK => ?_; simp (maxSteps := 1000000) [ty41, ty3]; refine hK _ ?_; clear hK K; (first | show AWP _ _ _ _ _ | show ∃ _, _ | skip)
    (repeat refine awp_seq ?_); refine awp_cond (by simp; rfl) (by rw [hx]; simp) (fun hc => ?_) (fun hc => ?_)
    · simp at hc
      refine awp_skip ?_; (first | show AWP _ _ _ _ _ | show ∃ _, _ | skip)
      (repeat refine awp_seq ?_); refine awp_block ?_
      have hw1 : IntKind.i64.wrap ((t.ts.length : Int) - 1) = (t.ts.length : Int) - 1 := wrap_id (by omega) (by omega)
      have hwi : IntKind.i64.wrap ((i : Int) + 1) = ((i + 1 : Nat) : Int) := by rw [wrap_id (by omega) (by omega)]; rfl
      have bad : ¬ ListAt t.ts.length l i hc → decide (ListOk t.ts.length l) = false := fun h => by
        rw [decide_eq_false_iff_not]
        exact fun g => h (g i hc)
      have c1 := q_within60 l[i] 0 ((t.ts.length : Int) - 1)
      cases hb : withinB l[i] 0 ((t.ts.length : Int) - 1)
      · rw [hb] at c1
        have hbad := bad (fun h => by simp [withinB] at hb; have := h.1; omega)
        (repeat refine awp_seq ?_); refine awp_drw3 [] [0, 1, 2, 3, 4, 5, 6, 7, 8, 9, 10, 11, 12, 13, 14, 15, 16, 17, 18, 19, 20, 21, 22, 23, 24, 25] (by rw [hx]; kernel_rfl) (by kernel_rfl) (by kernel_rfl) (by kernel_rfl) fun K hK => ?_; simp (maxSteps := 1000000) [ty41, ty3, ty28, ty26, hc, hw1]
        refine callPD (c1) (by first | (simp; done) | (simp [*]; done)) (by simp) ?_; simp (maxSteps := 1000000) []
        refine hK _ ?_; clear hK K; (first | show AWP _ _ _ _ _ | show ∃ _, _ | skip)
        (repeat refine awp_seq ?_); refine awp_cond (by simp; rfl) (by rw [hx]; simp) (fun hd => ?_) (fun hd => ?_)
        · clear hd
          (repeat refine awp_seq ?_); refine awp_reg1 (by rw [hx]; kernel_rfl) fun K hK => ?_; simp (maxSteps := 1000000) []; refine hK _ ?_; clear hK K; (first | show AWP _ _ _ _ _ | show ∃ _, _ | skip)
          (repeat refine awp_seq ?_); refine awp_ret ?_; refine And.intro (Or.inr rfl) ?_
          simp [retC, resC, viewC, mapO, hbad]
        · simp at hd
      · rw [hb] at c1
        have hin : 0 ≤ l[i] ∧ l[i] ≤ (t.ts.length : Int) - 1 := by simpa [withinB] using hb
        by_cases h0 : i = 0
        · subst h0
          (repeat refine awp_seq ?_); refine awp_drw3 [] [0, 1, 2, 3, 4, 5, 6, 7, 8, 9, 10, 11, 12, 13, 14, 15, 16, 17, 18, 19, 20, 21, 22, 23, 24, 25] (by rw [hx]; kernel_rfl) (by kernel_rfl) (by kernel_rfl) (by kernel_rfl) fun K hK => ?_; simp (maxSteps := 1000000) [ty41, ty3, ty28, ty26, hc, hw1]
          refine callPD (c1) (by first | (simp; done) | (simp [*]; done)) (by simp) ?_; simp (maxSteps := 1000000) []
          refine hK _ ?_; clear hK K; (first | show AWP _ _ _ _ _ | show ∃ _, _ | skip)
          (repeat refine awp_seq ?_); refine awp_cond (by simp; rfl) (by rw [hx]; simp) (fun hd => ?_) (fun hd => ?_)
          · exact absurd hd (by simp)
          · clear hd
            refine awp_skip ?_; (first | show AWP _ _ _ _ _ | show ∃ _, _ | skip)
            (repeat refine awp_seq ?_); refine awp_reg1 (by rw [hx]; kernel_rfl) fun K hK => ?_; simp (maxSteps := 1000000) [ty3]; refine hK _ ?_; clear hK K; (first | show AWP _ _ _ _ _ | show ∃ _, _ | skip)
            refine ⟨0 + 1, ⟨by omega, fun j h1 h2 => ?_⟩, by omega, ?_⟩
            · obtain rfl : j = 0 := by omega
              exact ⟨hin, fun h => absurd h (by omega)⟩
            · have hw0 : IntKind.i64.wrap 1 = 1 := by decide
              refine wk_shape (shp0 hσ (by simp) (by simp) ?_) ?_
              · simp [SlotOk, hw0] <;> (repeat' (first | (refine RowsOk.same ?_; simp [purel, C.isPure]; done) | (refine rowsCons ?_; simp [mtl, mtc, mT, mH, C.isPure, purel]; done) | (refine rowsCons ?_; simp [mtl, mtc, mT, mH, C.isPure, purel]) | refine And.intro ?_ ?_))
              · simp [mtc, mtl, mT, C.isPure, purel, hw0] <;> (try simp (disch := omega) [wrap_id]) <;> (try omega)
        · have hp : (0 : Int) < (i : Int) := by omega
          have hp2 : 0 < i := by omega
          have hwm : IntKind.i64.wrap ((i : Int) - 1) = ((i - 1 : Nat) : Int) := by rw [wrap_id (by omega) (by omega)]; omega
          have hlm : i - 1 < l.length := by omega
          by_cases hle : l[i] ≤ l[i - 1]
          · have hbad := bad (fun h => by have := h.2 hp2; omega)
            (repeat refine awp_seq ?_); refine awp_drw3 [] [0, 1, 2, 3, 4, 5, 6, 7, 8, 9, 10, 11, 12, 13, 14, 15, 16, 17, 18, 19, 20, 21, 22, 23, 24, 25] (by rw [hx]; kernel_rfl) (by kernel_rfl) (by kernel_rfl) (by kernel_rfl) fun K hK => ?_; simp (maxSteps := 1000000) [ty41, ty3, ty28, ty26, hc, hw1]
            refine callPD (c1) (by first | (simp; done) | (simp [*]; done)) (by simp) ?_; simp (maxSteps := 1000000) [ty41, ty3, hp, hp2, hwm, hc, hlm, hle]
            refine hK _ ?_; clear hK K; (first | show AWP _ _ _ _ _ | show ∃ _, _ | skip)
            (repeat refine awp_seq ?_); refine awp_cond (by simp; rfl) (by rw [hx]; simp) (fun hd => ?_) (fun hd => ?_)
            · clear hd
              (repeat refine awp_seq ?_); refine awp_reg1 (by rw [hx]; kernel_rfl) fun K hK => ?_; simp (maxSteps := 1000000) []; refine hK _ ?_; clear hK K; (first | show AWP _ _ _ _ _ | show ∃ _, _ | skip)
              (repeat refine awp_seq ?_); refine awp_ret ?_; refine And.intro (Or.inr rfl) ?_
              simp [retC, resC, viewC, mapO, hbad]
            · simp [hle] at hd
          · (repeat refine awp_seq ?_); refine awp_drw3 [] [0, 1, 2, 3, 4, 5, 6, 7, 8, 9, 10, 11, 12, 13, 14, 15, 16, 17, 18, 19, 20, 21, 22, 23, 24, 25] (by rw [hx]; kernel_rfl) (by kernel_rfl) (by kernel_rfl) (by kernel_rfl) fun K hK => ?_; simp (maxSteps := 1000000) [ty41, ty3, ty28, ty26, hc, hw1]
            refine callPD (c1) (by first | (simp; done) | (simp [*]; done)) (by simp) ?_; simp (maxSteps := 1000000) [ty41, ty3, hp, hp2, hwm, hc, hlm, hle]
            refine hK _ ?_; clear hK K; (first | show AWP _ _ _ _ _ | show ∃ _, _ | skip)
            (repeat refine awp_seq ?_); refine awp_cond (by simp; rfl) (by rw [hx]; simp) (fun hd => ?_) (fun hd => ?_)
            · simp [hle] at hd
            · clear hd
              refine awp_skip ?_; (first | show AWP _ _ _ _ _ | show ∃ _, _ | skip)
              (repeat refine awp_seq ?_); refine awp_reg1 (by rw [hx]; kernel_rfl) fun K hK => ?_; simp (maxSteps := 1000000) [ty3]; refine hK _ ?_; clear hK K; (first | show AWP _ _ _ _ _ | show ∃ _, _ | skip)
              refine ⟨i + 1, ⟨by omega, fun j h1 h2 => ?_⟩, by omega, ?_⟩
              · by_cases e : j = i
                · subst e
                  exact ⟨hin, fun _ => by omega⟩
                · exact hj j h1 (by omega)
              · rw [hwi]
                refine wk_shape (shp0 hσ (by simp) (by simp) ?_) ?_
                · simp [SlotOk] <;> (repeat' (first | (refine RowsOk.same ?_; simp [purel, C.isPure]; done) | (refine rowsCons ?_; simp [mtl, mtc, mT, mH, C.isPure, purel]; done) | (refine rowsCons ?_; simp [mtl, mtc, mT, mH, C.isPure, purel]) | refine And.intro ?_ ?_))
                · simp [mtc, mtl, mT, C.isPure, purel] <;> (try simp (disch := omega) [wrap_id]) <;> (try omega)
    · simp at hc
      (repeat refine awp_seq ?_); refine awp_exit ?_; (first | show AWP _ _ _ _ _ | show ∃ _, _ | skip)
      have hok : decide (ListOk t.ts.length l) = true := by
        rw [decide_eq_true_eq]
        exact fun j h => hj j h (by omega)
      (repeat refine awp_seq ?_); refine awp_reg1 (by rw [hx]; kernel_rfl) fun K hK => ?_; simp (maxSteps := 1000000) []; refine hK _ ?_; clear hK K; (first | show AWP _ _ _ _ _ | show ∃ _, _ | skip)
      (repeat refine awp_seq ?_); refine awp_ret ?_; refine And.intro (Or.inr rfl) ?_
      simp [retC, resC, viewC, mapO, hok]

theorem pickT_mem {t : Ti} {l : List Int} {y : Ts} (h : y ∈ pickT t l) : y ∈ t.ts := by
  unfold pickT at h
  obtain ⟨z, _, hz⟩ := List.mem_filterMap.1 h
  exact List.mem_of_getElem? hz

theorem someT_ok {t : Ti} {l : List Int} (h : TiOk t) (hl : (pickT t l).length ≤ 6) : TiOk (someT t l) :=
  ⟨h.gain, hl, fun y hy => h.area y (pickT_mem hy), h.wh, fun y hy => h.chk y (pickT_mem hy)⟩
theorem someT_len {t : Ti} {l : List Int} (h : TiLen t) (hl : (pickT t l).length ≤ 1000) : TiLen (someT t l) := ⟨hl, fun y hy => h.l y (pickT_mem hy)⟩

def decB (t : Ti) (l : List Int) (c : Cl) : Bool := !(certL (truthsS (someT t l) (allS (someT t l))) c == 3)

theorem q_decides44 (t : Ti) (nl fu : Bool) (l : List Int) (c : Cl) (hok : TiOk t) (hl : TiLen t) (hin : InT t l) (hn : l.length ≤ 6) (hc : 0 ≤ c.size ∧ c.size ≤ 9000) :
    Pure Tryz.prog 44 [encTi t, .sl nl fu (l.map cI), encCl c] (.bool (decB t l c)) := by
  have hpl := pickT_len hin
  have hso := someT_ok (l := l) hok (by omega)
  have hsl := someT_len (l := l) hl (by omega)
  have hbd := truthsS_bd (allS (someT t l)) hso
  refine pure_of (fn := Tryz.f44) [.tmp 6] ⟨Tryz.func44, rfl, by kernel_rfl⟩ (by kernel_rfl) (by kernel_rfl) (by kernel_rfl) fun x hx hσ => ?_
  (repeat refine awp_seq ?_); refine awp_reg1 (by rw [hx]; kernel_rfl) fun K hK => ?_; simp (maxSteps := 1000000) [ty28, ty30]; refine hK _ ?_; clear hK K; (first | show AWP _ _ _ _ _ | show ∃ _, _ | skip)
  (repeat refine awp_seq ?_); refine awp_drw3 [3] [0, 1, 2, 4, 3, 5, 6, 7] (by rw [hx]; kernel_rfl) (by kernel_rfl) (by kernel_rfl) (by kernel_rfl) fun K hK => ?_; simp (maxSteps := 1000000) [ty28, ty30]
  refine callPD (q_some80 t nl fu l hin (by omega)) (by first | (simp; done) | (simp [*]; done)) (by simp) ?_; simp (maxSteps := 1000000) [ty28, ty30]
  refine freshD (q_truths79 (someT t l) hso hsl) (by simp [purel, C.isPure]) (by simp) (by simp) ?_
  simp [ty81, ty30]
  refine callD (q_certify51 (truthsS (someT t l) (allS (someT t l))).isEmpty false (truthsS (someT t l) (allS (someT t l))) c (fun k hk => every_k hso (List.mem_filter.1 hk).1) hbd hc) (by simp [viewL, mapO, viewC, C.isPure, purel]) (.inr rfl) (by simp) ?_
  simp [ty3]
  refine hK _ ?_; clear hK K; (first | show AWP _ _ _ _ _ | show ∃ _, _ | skip)
  (repeat refine awp_seq ?_); refine awp_ret ?_; refine And.intro (Or.inr rfl) ?_
  simp [retC, resC, viewC, mapO, decB, bne]

end Go.Proofs.YtbhbmnofmoibhaaGreat

namespace Go.Proofs.YtbhbmnofmoibhaaGreat
open Go Go.Abs

set_option maxHeartbeats 4000000

-- plain laws of sets and lists

theorem fixTo_mem (q : Nat → Bool) (z : Int) : ∀ n, z ∈ fixTo q n ↔ ∃ i, i < n ∧ q i = true ∧ z = i
  | 0 => by simp
  | n + 1 => by
    have ih := fixTo_mem q z n
    simp only [fixTo]
    split
    · rename_i h
      rw [List.mem_append, ih, List.mem_singleton]
      constructor
      · rintro (⟨i, h1, h2, h3⟩ | h1)
        · exact ⟨i, by omega, h2, h3⟩
        · exact ⟨n, by omega, h, h1⟩
      · rintro ⟨i, h1, h2, h3⟩
        by_cases e : i = n
        · subst e; exact .inr h3
        · exact .inl ⟨i, by omega, h2, h3⟩
    · rename_i h
      rw [ih]
      constructor
      · rintro ⟨i, h1, h2, h3⟩; exact ⟨i, by omega, h2, h3⟩
      · rintro ⟨i, h1, h2, h3⟩
        by_cases e : i = n
        · subst e; exact absurd h2 h
        · exact ⟨i, by omega, h2, h3⟩

theorem fixTo_lt (q : Nat → Bool) : ∀ n, (fixTo q n).Pairwise (· < ·)
  | 0 => by simp
  | n + 1 => by
    have ih := fixTo_lt q n
    simp only [fixTo]
    split
    · refine List.pairwise_append.2 ⟨ih, by simp, fun a ha b hb => ?_⟩
      simp at hb
      subst hb
      obtain ⟨i, h1, _, rfl⟩ := (fixTo_mem q a n).1 ha
      omega
    · exact ih

theorem fixTo_count (q : Nat → Bool) : ∀ n, (fixTo q n).length = (List.range n).countP q
  | 0 => rfl
  | n + 1 => by
    have ih := fixTo_count q n
    simp only [fixTo, List.range_succ, List.countP_append, List.countP_singleton]
    split <;> simp_all

theorem countP_range_lt (q : Nat → Bool) {n : Nat} (h : ∀ i, n ≤ i → q i = false) : ∀ m, n ≤ m → (List.range m).countP q = (List.range n).countP q := by
  intro m hm
  obtain ⟨d, rfl⟩ : ∃ d, m = n + d := ⟨m - n, by omega⟩
  clear hm
  induction d with
  | zero => rfl
  | succ d ih =>
    rw [← Nat.add_assoc, List.range_succ, List.countP_append, ih, List.countP_singleton, h _ (by omega)]
    simp

theorem popc_count {s n : Nat} (hs : s < 2 ^ n) (hn : n ≤ 8) : popc s = (List.range n).countP fun i => s.testBit i := by
  unfold popc
  refine countP_range_lt _ (fun i hi => ?_) 8 hn
  exact Nat.testBit_lt_two_pow (Nat.lt_of_lt_of_le hs (Nat.pow_le_pow_right (by decide) hi))

theorem listS_len {t : Ti} {s : Nat} (hs : s < 2 ^ t.ts.length) (hn : t.ts.length ≤ 8) : (listS t s).length = popc s := by
  unfold listS
  rw [fixTo_count, popc_count hs hn]

theorem listS_mem {t : Ti} {s : Nat} {z : Int} : z ∈ listS t s ↔ ∃ i, i < t.ts.length ∧ s.testBit i = true ∧ z = i := fixTo_mem _ _ _

theorem listS_in (t : Ti) (s : Nat) : InT t (listS t s) := fun z hz => by
  obtain ⟨i, h1, _, rfl⟩ := listS_mem.1 hz
  omega

theorem listOk_of {n : Nat} {l : List Int} (h1 : l.Pairwise (· < ·)) (h2 : ∀ z ∈ l, 0 ≤ z ∧ z < n) : ListOk n l := fun i hi => by
  refine ⟨by have := h2 _ (List.getElem_mem hi); omega, fun h0 => ?_⟩
  exact List.pairwise_iff_getElem.1 h1 (i - 1) i (by omega) hi (by omega)

theorem ListOk.lt {n : Nat} {l : List Int} (h : ListOk n l) : l.Pairwise (· < ·) := by
  refine List.pairwise_iff_getElem.2 fun i j hi hj hij => ?_
  obtain ⟨d, rfl⟩ : ∃ d, j = i + 1 + d := ⟨j - i - 1, by omega⟩
  clear hij
  induction d with
  | zero => exact (h (i + 1) hj).2 (by omega)
  | succ d ih =>
    have h1 := ih (by omega)
    have h2 := (h (i + 1 + (d + 1)) hj).2 (by omega)
    simp only [show i + 1 + (d + 1) - 1 = i + 1 + d by omega] at h2
    exact Int.lt_trans h1 h2

theorem listS_ok (t : Ti) (s : Nat) : ListOk t.ts.length (listS t s) := listOk_of (fixTo_lt _ _) (listS_in t s)

theorem okS_iff {t : Ti} {n : Nat} {k : Tr} : okS t n k = true ↔ ∀ i (h : i < t.ts.length), n.testBit i = true → allowB t.w t.ts[i] k = true := by
  constructor
  · intro h i hi hb
    rw [okS, List.all_eq_true] at h
    have := h i (List.mem_range.2 hi)
    rw [List.getElem?_eq_getElem hi, hb] at this
    simpa using this
  · exact okS_true

theorem pickT_all {t : Ti} {l : List Int} (p : Ts → Bool) (h : InT t l) : (∀ y ∈ pickT t l, p y = true) ↔ ∀ z ∈ l, ∀ hz : z.toNat < t.ts.length, p t.ts[z.toNat] = true := by
  constructor
  · intro g z hz hl
    refine g _ (List.mem_filterMap.2 ⟨z, hz, List.getElem?_eq_getElem hl⟩)
  · intro g y hy
    obtain ⟨z, hz, e⟩ := List.mem_filterMap.1 hy
    have := h z hz
    have hl : z.toNat < t.ts.length := by omega
    rw [List.getElem?_eq_getElem hl] at e
    cases e
    exact g z hz hl

/-- The truths of a trial with just some tests. -/
theorem some_set (t : Ti) (s : Nat) : truthsS (someT t (listS t s)) (allS (someT t (listS t s))) = truthsS t s := by
  unfold truthsS
  have hg : gwT (someT t (listS t s)) = gwT t := rfl
  rw [hg]
  refine List.filter_congr fun k hk => ?_
  have hk' : k ∈ allT (gwT (someT t (listS t s))) := hk
  rw [Bool.eq_iff_iff, okS_iff, okS_iff]
  have hall : (∀ i (h : i < (someT t (listS t s)).ts.length), (allS (someT t (listS t s))).testBit i = true → allowB (someT t (listS t s)).w (someT t (listS t s)).ts[i] k = true) ↔ ∀ y ∈ pickT t (listS t s), allowB t.w y k = true := by
    constructor
    · intro h y hy
      obtain ⟨i, hi, rfl⟩ := List.getElem_of_mem hy
      exact h i hi (testBit_all hi)
    · intro h i hi _
      exact h _ (List.getElem_mem hi)
  rw [hall, pickT_all _ (listS_in t s)]
  constructor
  · intro h i hi hb
    have := h i (listS_mem.2 ⟨i, hi, hb, rfl⟩) (by simpa using hi)
    simpa using this
  · intro h z hz hl
    obtain ⟨i, hi, hb, rfl⟩ := listS_mem.1 hz
    simpa using h i hi hb

theorem decB_set (t : Ti) (s : Nat) (c : Cl) : decB t (listS t s) c = cdB t c s := by unfold decB cdB; rw [some_set]

/-- What the sets are that are gathered. -/
theorem decL_spec (cd : Nat → Bool) : ∀ n, (decL cd n = [] ∧ ∀ s, s < n → cd s = false) ∨
    ∃ m, decL cd n ≠ [] ∧ decL cd n = (List.range n).filter (fun s => popc s == m && cd s) ∧ ∀ s, s < n → cd s = true → m ≤ popc s
  | 0 => .inl ⟨rfl, fun s h => absurd h (by omega)⟩
  | n + 1 => by
    have hd : decL cd (n + 1) = decStep cd (decL cd n) n := rfl
    rcases decL_spec cd n with ⟨h1, h2⟩ | ⟨m, h1, h2, h3⟩
    · rw [h1] at hd
      cases hc : cd n
      · left
        refine ⟨by rw [hd]; simp [decStep, hc], fun s hs => ?_⟩
        by_cases e : s = n
        · subst e; exact hc
        · exact h2 s (by omega)
      · right
        refine ⟨popc n, by rw [hd]; simp [decStep, hc], ?_, fun s hs hcs => ?_⟩
        · rw [hd, List.range_succ, List.filter_append]
          have : (List.range n).filter (fun s => popc s == popc n && cd s) = [] := by
            rw [List.filter_eq_nil_iff]
            intro s hs
            rw [h2 s (List.mem_range.1 hs)]
            simp
          rw [this]
          simp [decStep, hc]
        · by_cases e : s = n
          · subst e; exact Nat.le_refl _
          · rw [h2 s (by omega)] at hcs; cases hcs
    · right
      obtain ⟨a, r, har⟩ : ∃ a r, decL cd n = a :: r := by
        cases h : decL cd n with
        | nil => exact absurd h h1
        | cons a r => exact ⟨a, r, rfl⟩
      have ha : a ∈ decL cd n := by rw [har]; simp
      rw [h2, List.mem_filter] at ha
      have ham : popc a = m := by
        have := ha.2
        simp only [Bool.and_eq_true, beq_iff_eq] at this
        exact this.1
      rw [har] at hd
      by_cases g1 : popc a < popc n
      · refine ⟨m, by rw [hd]; simp [decStep, g1], ?_, fun s hs hcs => ?_⟩
        · rw [hd, List.range_succ, List.filter_append, ← h2, har]
          have : (popc n == m) = false := by rw [beq_eq_false_iff_ne]; omega
          simp [decStep, g1, this]
        · by_cases e : s = n
          · subst e; omega
          · exact h3 s (by omega) hcs
      · cases hc : cd n
        · refine ⟨m, by rw [hd]; simp [decStep, g1, hc], ?_, fun s hs hcs => ?_⟩
          · rw [hd, List.range_succ, List.filter_append, ← h2, har]
            simp [decStep, g1, hc]
          · by_cases e : s = n
            · subst e; rw [hc] at hcs; cases hcs
            · exact h3 s (by omega) hcs
        · by_cases g2 : popc n < popc a
          · refine ⟨popc n, by rw [hd]; simp [decStep, g1, hc, g2], ?_, fun s hs hcs => ?_⟩
            · rw [hd, List.range_succ, List.filter_append]
              have : (List.range n).filter (fun s => popc s == popc n && cd s) = [] := by
                rw [List.filter_eq_nil_iff]
                intro s hs h
                simp only [Bool.and_eq_true, beq_iff_eq] at h
                have := h3 s (List.mem_range.1 hs) h.2
                omega
              rw [this]
              simp [decStep, g1, hc, g2]
            · by_cases e : s = n
              · subst e; exact Nat.le_refl _
              · have := h3 s (by omega) hcs; omega
          · refine ⟨m, by rw [hd]; simp [decStep, g1, hc, g2], ?_, fun s hs hcs => ?_⟩
            · rw [hd, List.range_succ, List.filter_append, ← h2, har]
              have : (popc n == m) = true := by rw [beq_iff_eq]; omega
              simp [decStep, g1, hc, g2, this]
            · by_cases e : s = n
              · subst e; omega
              · exact h3 s (by omega) hcs

end Go.Proofs.YtbhbmnofmoibhaaGreat

namespace Go.Proofs.YtbhbmnofmoibhaaGreat
open Go Go.Abs

set_option maxHeartbeats 8000000

theorem shr_nat (b i : Nat) : shiftC .shr .i64 (b : Int) (i : Int) = some (.int .i64 ((b : Int).fdiv (2 ^ min i 64))) := by
  unfold shiftC
  rw [if_neg (by omega)]
  rfl
theorem bit_factI : ∀ s : Fin 64, ∀ i : Fin 8, (andI ((s.val : Int).fdiv (2 ^ min i.val 64)) 1 == 1) = s.val.testBit i.val := by decide +kernel
theorem shl_fact0 : ∀ m : Fin 7, IntKind.i64.wrap (1 * 2 ^ min m.val 64) = ((2 ^ m.val : Nat) : Int) := by decide +kernel
theorem shl_factI {n : Nat} (h : n ≤ 6) : shiftC .shl .i64 1 (n : Int) = some (.int .i64 ((2 ^ n : Nat) : Int)) := by
  have := shl_fact0 ⟨n, by omega⟩
  simp only at this
  unfold shiftC
  rw [if_neg (by omega), ← this]
  rfl
theorem ib_eqI (a b : Int) : intBin .eql .i64 a b = some (.bool (a == b)) := rfl

@[simp] abbrev slF (A : List Int) : C := .sl A.isEmpty false (A.map cI)
/-- The sets of so many tests that decide. -/
def oSet (t : Ti) (c : Cl) (m n : Nat) : List Nat := (List.range n).filter (fun s => popc s == m && cdB t c s)
def rowsF (t : Ti) (S : List Nat) : List (List C) := S.map fun s => [slF (listS t s)]

@[simp] theorem rowsF_len (t : Ti) (S : List Nat) : (rowsF t S).length = S.length := by simp [rowsF]
@[simp] theorem rowsF_pure (t : Ti) (S : List Nat) : (rowsF t S).all purel = true := by simp [rowsF, purel, C.isPure]
theorem rowsF_app (t : Ti) (S : List Nat) (s : Nat) : rowsF t (S ++ [s]) = rowsF t S ++ [[slF (listS t s)]] := by simp [rowsF]

theorem oSet_step (t : Ti) (c : Cl) (m n : Nat) : oSet t c m (n + 1) = oSet t c m n ++ if popc n == m && cdB t c n then [n] else [] := by
  unfold oSet
  rw [List.range_succ, List.filter_append]
  cases h : (popc n == m && cdB t c n) <;> simp [h]
theorem oSet_len (t : Ti) (c : Cl) (m n : Nat) : (oSet t c m n).length ≤ n := Nat.le_trans (List.length_filter_le _ _) (by simp)

/-- The first number of tests with which some sets decide. -/
theorem first_many {t : Ti} {c : Cl} (h : decSets t c ≠ []) (hn : t.ts.length ≤ 8) : ∃ m, m ≤ t.ts.length ∧ oSet t c m (2 ^ t.ts.length) = decSets t c ∧ ∀ m', m' < m → oSet t c m' (2 ^ t.ts.length) = [] := by
  rcases decL_spec (cdB t c) (2 ^ t.ts.length) with ⟨h1, h2⟩ | ⟨m, h1, h2, h3⟩
  · exact absurd h1 h
  · refine ⟨m, ?_, h2.symm, fun m' hm => ?_⟩
    · obtain ⟨a, ha⟩ := List.exists_mem_of_ne_nil _ h1
      have hlt := decL_lt ha
      rw [h2, List.mem_filter] at ha
      have := ha.2
      simp only [Bool.and_eq_true, beq_iff_eq] at this
      rw [← this.1, ← listS_len hlt hn]
      exact fixTo_len _ _
    · unfold oSet
      rw [List.filter_eq_nil_iff]
      intro s hs hq
      simp only [Bool.and_eq_true, beq_iff_eq] at hq
      have := h3 s (List.mem_range.1 hs) hq.2
      omega

theorem none_many {t : Ti} {c : Cl} (h : decSets t c = []) (m : Nat) : oSet t c m (2 ^ t.ts.length) = [] := by
  rcases decL_spec (cdB t c) (2 ^ t.ts.length) with ⟨h1, h2⟩ | ⟨m, h1, h2, h3⟩
  · unfold oSet
    rw [List.filter_eq_nil_iff]
    intro s hs hq
    simp only [Bool.and_eq_true, beq_iff_eq] at hq
    rw [h2 s (List.mem_range.1 hs)] at hq
    cases hq.2
  · exact absurd h h1

/-- Which number of tests ends the search, and whether there is one. -/
theorem search_end (t : Ti) (c : Cl) (hn : t.ts.length ≤ 8) : ∃ M, (M = t.ts.length + 1 ∧ decSets t c = [] ∨ M ≤ t.ts.length ∧ decSets t c ≠ [] ∧ oSet t c M (2 ^ t.ts.length) = decSets t c) ∧ ∀ m', m' < M → oSet t c m' (2 ^ t.ts.length) = [] := by
  by_cases h : decSets t c = []
  · exact ⟨_, .inl ⟨rfl, h⟩, fun m' _ => none_many h m'⟩
  · obtain ⟨m, h1, h2, h3⟩ := first_many h hn
    exact ⟨m, .inr ⟨h1, h, h2⟩, h3⟩

def fewSl (t : Ti) (c : Cl) : C := if decE t c = 0 then .sl false false (rowsF t (decSets t c)) else .sl true true []

theorem q_fewest77 (t : Ti) (c : Cl) (hl : TiLen t) : Pure Tryz.prog 77 [encTi t, encCl c] (.tup [fewSl t c, encI (decE t c)]) := by
  refine pure_of (fn := Tryz.f77) [.tmp 4, .tmp 5] ⟨Tryz.func77, rfl, by kernel_rfl⟩ (by kernel_rfl) (by kernel_rfl) (by kernel_rfl) fun x hx hσ => ?_
  (repeat refine awp_seq ?_); refine awp_reg1 (by rw [hx]; kernel_rfl) fun K hK => ?_; simp (maxSteps := 1000000) [ty28, ty30]; refine hK _ ?_; clear hK K; (first | show AWP _ _ _ _ _ | show ∃ _, _ | skip)
  (repeat refine awp_seq ?_); refine awp_drw3 [] [0, 1, 2, 3, 4, 5, 6, 7, 8] (by rw [hx]; kernel_rfl) (by kernel_rfl) (by kernel_rfl) (by kernel_rfl) fun K hK => ?_; simp (maxSteps := 1000000) [ty28, ty30]
  refine callPD (q_isClass20 c) (by first | (simp; done) | (simp [*]; done)) (by simp) ?_; simp (maxSteps := 1000000) []
  refine callPD (q_known50 t (classB c) hl) (by first | (simp; done) | (simp [*]; done)) (by simp) ?_; simp (maxSteps := 1000000) [ty81]
  refine hK _ ?_; clear hK K; (first | show AWP _ _ _ _ _ | show ∃ _, _ | skip)
  (repeat refine awp_seq ?_); refine awp_reg1 (by rw [hx]; kernel_rfl) fun K hK => ?_; simp (maxSteps := 1000000) [ty36]; refine hK _ ?_; clear hK K; (first | show AWP _ _ _ _ _ | show ∃ _, _ | skip)
  by_cases hz : openT t (classB c) = 0
  · obtain ⟨hok, hcl, hT⟩ := openT_ok hz
    have hcs := (classB_ok hcl).1
    have h6 := hok.len
    obtain ⟨M, hM1, hM2⟩ := search_end t c (by omega)
    have hE : decE t c = if decSets t c = [] then 3 else 0 := by unfold decE; rw [if_neg (by simpa using hz)]
    obtain ⟨N, hN⟩ : ∃ N, N = 2 ^ t.ts.length := ⟨_, rfl⟩
    have hN64 : N ≤ 64 := by rw [hN]; exact Nat.pow_le_pow_right (n := 2) (by decide) h6
    have hshl := shl_factI h6
    rw [← hN] at hM1 hM2 hshl
    (repeat refine awp_seq ?_); refine awp_cond (by simp [hz]; rfl) (by rw [hx]; simp) (fun hd => ?_) (fun hd => ?_)
    · simp at hd
    · clear hd
      refine awp_skip ?_; (first | show AWP _ _ _ _ _ | show ∃ _, _ | skip)
      (repeat refine awp_seq ?_); refine awp_reg1 (by rw [hx]; kernel_rfl) fun K hK => ?_; simp (maxSteps := 1000000) []; refine hK _ ?_; clear hK K; (first | show AWP _ _ _ _ _ | show ∃ _, _ | skip)
      (repeat refine awp_seq ?_); refine awp_block ?_
      refine awp_loop (fun m : Nat => ⟨ofL [(2, .ptr 2 10 0 0), (3, .ptr 3 2 0 0), (8, encI m)], stoT [(2, 2, .live (obTi t)), (3, 3, .live ⟨false, false, 2, [cCl c]⟩)]⟩)
        (fun m => m ≤ M) (fun m => M - m) 0 (Nat.zero_le _) ?_ ?_
      · refine wk_shape (shp0 hσ (by simp) (by simp) ?_) ?_
        · simp [SlotOk] <;> (repeat' (first | (refine RowsOk.same ?_; simp [purel, C.isPure]; done) | (refine rowsCons ?_; simp [mtl, mtc, mT, mH, C.isPure, purel]; done) | (refine rowsCons ?_; simp [mtl, mtc, mT, mH, C.isPure, purel]) | refine And.intro ?_ ?_))
        · simp [mtc, mtl, mT, C.isPure, purel] <;> (try simp (disch := omega) [wrap_id]) <;> (try omega)
      · intro m hm
        have hwm : IntKind.i64.wrap ((m : Int) + 1) = ((m + 1 : Nat) : Int) := by rw [wrap_id (by omega) (by omega)]; rfl
        by_cases hq : (m : Int) ≤ (t.ts.length : Int)
        · (repeat refine awp_seq ?_); refine awp_reg1 (by rw [hx]; kernel_rfl) fun K hK => ?_; simp (maxSteps := 1000000) [ty28, ty26, ty3, hq]; refine hK _ ?_; clear hK K; (first | show AWP _ _ _ _ _ | show ∃ _, _ | skip)
          (repeat refine awp_seq ?_); refine awp_cond (by simp [hq]; rfl) (by rw [hx]; simp) (fun hd => ?_) (fun hd => ?_)
          · clear hd
            refine awp_skip ?_; (first | show AWP _ _ _ _ _ | show ∃ _, _ | skip)
            (repeat refine awp_seq ?_); refine awp_block ?_
            (repeat refine awp_seq ?_); refine awp_reg1 (by rw [hx]; kernel_rfl) fun K hK => ?_; simp (maxSteps := 1000000) []; refine hK _ ?_; clear hK K; (first | show AWP _ _ _ _ _ | show ∃ _, _ | skip)
            (repeat refine awp_seq ?_); refine awp_reg1 (by rw [hx]; kernel_rfl) fun K hK => ?_; simp (maxSteps := 1000000) []; refine hK _ ?_; clear hK K; (first | show AWP _ _ _ _ _ | show ∃ _, _ | skip)
            (repeat refine awp_seq ?_); refine awp_block ?_
            refine AWP.weak ?_ (wk_nil 9 9 1 (fu := true) (by simp) (by simp))
            obtain ⟨O, hO⟩ : ∃ O : Nat → List Nat, ∀ n, O n = oSet t c m n := ⟨_, fun _ => rfl⟩
            have hO0 : O 0 = [] := by rw [hO]; rfl
            have hOs : ∀ n, O (n + 1) = O n ++ if popc n == m && cdB t c n then [n] else [] := fun n => by rw [hO, hO]; exact oSet_step t c m n
            have hOl : ∀ n, (O n).length ≤ n := fun n => by rw [hO]; exact oSet_len t c m n
            have hON : oSet t c m N = O N := (hO N).symm
            refine awp_loop (fun b : Nat => ⟨ofL [(2, .ptr 2 10 0 0), (3, .ptr 3 2 0 0), (8, encI m), (9, .own 9 1 0 (O b).length), (10, encI b)], stoT [(2, 2, .live (obTi t)), (3, 3, .live ⟨false, false, 2, [cCl c]⟩), (9, 9, .live ⟨(O b).isEmpty, false, 1, rowsF t (O b)⟩)]⟩)
              (fun b => b ≤ N) (fun b => N - b) 0 (Nat.zero_le _) ?_ ?_
            · rw [hO0]
              have : rowsF t [] = [] := rfl
              rw [this]
              refine wk_shape (shp0 hσ (by simp) (by simp) ?_) ?_
              · simp [SlotOk] <;> (repeat' (first | (refine RowsOk.same ?_; simp [purel, C.isPure]; done) | (refine rowsCons ?_; simp [mtl, mtc, mT, mH, C.isPure, purel]; done) | (refine rowsCons ?_; simp [mtl, mtc, mT, mH, C.isPure, purel]) | refine And.intro ?_ ?_))
              · simp [mtc, mtl, mT, C.isPure, purel] <;> (try simp (disch := omega) [wrap_id]) <;> (try omega)
            · intro b hb
              have hOb := hOl b
              have hOst := hOs b
              have hwb : IntKind.i64.wrap ((b : Int) + 1) = ((b + 1 : Nat) : Int) := by rw [wrap_id (by omega) (by omega)]; rfl
              have hwl : IntKind.u64.wrap (t.ts.length : Int) = (t.ts.length : Int) := wrapU (by omega) (by omega)
              (repeat refine awp_seq ?_); refine awp_reg1 (by rw [hx]; kernel_rfl) fun K hK => ?_; simp (maxSteps := 1000000) [ty28, ty26, ty3, ty78, hwl, hshl, -shiftC]; refine hK _ ?_; clear hK K; (first | show AWP _ _ _ _ _ | show ∃ _, _ | skip)
              (repeat refine awp_seq ?_); refine awp_cond (by simp; rfl) (by rw [hx]; simp) (fun hc2 => ?_) (fun hc2 => ?_)
              · simp at hc2
                refine awp_skip ?_; (first | show AWP _ _ _ _ _ | show ∃ _, _ | skip)
                (repeat refine awp_seq ?_); refine awp_block ?_
                (repeat refine awp_seq ?_); refine awp_reg1 (by rw [hx]; kernel_rfl) fun K hK => ?_; simp (maxSteps := 1000000) []; refine hK _ ?_; clear hK K; (first | show AWP _ _ _ _ _ | show ∃ _, _ | skip)
                (repeat refine awp_seq ?_); refine awp_reg1 (by rw [hx]; kernel_rfl) fun K hK => ?_; simp (maxSteps := 1000000) []; refine hK _ ?_; clear hK K; (first | show AWP _ _ _ _ _ | show ∃ _, _ | skip)
                generalize hV : O b = V at *
                (repeat refine awp_seq ?_); refine awp_block ?_
                refine AWP.weak ?_ (wk_nil 11 11 1 (fu := true) (by simp) (by simp))
                obtain ⟨A, hA⟩ : ∃ A : Nat → List Int, ∀ i, A i = fixTo (fun i => b.testBit i) i := ⟨_, fun _ => rfl⟩
                have hA0 : A 0 = [] := hA 0
                have hAl : ∀ i, (A i).length ≤ i := fun i => by rw [hA]; exact fixTo_len _ _
                have hAs : ∀ i, A (i + 1) = if b.testBit i then A i ++ [(i : Int)] else A i := fun i => by rw [hA, hA]; rfl
                have hAn : A t.ts.length = listS t b := hA _
                refine awp_loop (fun i : Nat => ⟨ofL [(2, .ptr 2 10 0 0), (3, .ptr 3 2 0 0), (8, encI m), (9, .own 9 1 0 V.length), (10, encI b), (11, .own 11 1 0 (A i).length), (12, encI i)], stoT [(2, 2, .live (obTi t)), (3, 3, .live ⟨false, false, 2, [cCl c]⟩), (9, 9, .live ⟨V.isEmpty, false, 1, rowsF t V⟩), (11, 11, .live ⟨(A i).isEmpty, false, 1, (A i).map cI⟩)]⟩)
                  (fun i => i ≤ t.ts.length) (fun i => t.ts.length - i) 0 (Nat.zero_le _) ?_ ?_
                · rw [hA0]
                  refine wk_shape (shp0 hσ (by simp) (by simp) ?_) ?_
                  · simp [SlotOk] <;> (repeat' (first | (refine RowsOk.same ?_; simp [purel, C.isPure]; done) | (refine rowsCons ?_; simp [mtl, mtc, mT, mH, C.isPure, purel]; done) | (refine rowsCons ?_; simp [mtl, mtc, mT, mH, C.isPure, purel]) | refine And.intro ?_ ?_))
                  · simp [mtc, mtl, mT, C.isPure, purel] <;> (try simp (disch := omega) [wrap_id]) <;> (try omega)
                · intro i hi
                  have hlA := hAl i
                  have hstA := hAs i
                  have hwi : IntKind.i64.wrap ((i : Int) + 1) = ((i + 1 : Nat) : Int) := by rw [wrap_id (by omega) (by omega)]; rfl
                  generalize hacc : A i = acc at *
                  (repeat refine awp_seq ?_); refine awp_reg1 (by rw [hx]; kernel_rfl) fun K hK => ?_; simp (maxSteps := 1000000) [ty28, ty26, ty3]; refine hK _ ?_; clear hK K; (first | show AWP _ _ _ _ _ | show ∃ _, _ | skip)
                  (repeat refine awp_seq ?_); refine awp_cond (by simp; rfl) (by rw [hx]; simp) (fun hc3 => ?_) (fun hc3 => ?_)
                  · simp at hc3
                    refine awp_skip ?_; (first | show AWP _ _ _ _ _ | show ∃ _, _ | skip)
                    (repeat refine awp_seq ?_); refine awp_block ?_
                    have hbit := bit_factI ⟨b, by omega⟩ ⟨i, by omega⟩
                    simp only at hbit
                    have hwu : IntKind.u64.wrap (i : Int) = (i : Int) := wrapU (by omega) (by omega)
                    (repeat refine awp_seq ?_); refine awp_reg1 (by rw [hx]; kernel_rfl) fun K hK => ?_; simp (maxSteps := 1000000) [ty3, ty78, hwu, shr_nat, ib_andI, ib_eqI, hbit, -shiftC, -intBin]; refine hK _ ?_; clear hK K; (first | show AWP _ _ _ _ _ | show ∃ _, _ | skip)
                    cases htb : b.testBit i
                    · rw [htb] at hstA hbit
                      simp at hstA
                      (repeat refine awp_seq ?_); refine awp_cond (by simp [htb, hbit]; rfl) (by rw [hx]; simp) (fun hd => ?_) (fun hd => ?_)
                      · exact absurd hd (by simp [hbit, htb])
                      · clear hd
                        refine awp_skip ?_; (first | show AWP _ _ _ _ _ | show ∃ _, _ | skip)
                        (repeat refine awp_seq ?_); refine awp_reg1 (by rw [hx]; kernel_rfl) fun K hK => ?_; simp (maxSteps := 1000000) [ty3]; refine hK _ ?_; clear hK K; (first | show AWP _ _ _ _ _ | show ∃ _, _ | skip)
                        refine ⟨i + 1, by omega, by omega, ?_⟩
                        rw [hstA, hwi]
                        refine wk_shape (shp0 hσ (by simp) (by simp) ?_) ?_
                        · simp [SlotOk] <;> (repeat' (first | (refine RowsOk.same ?_; simp [purel, C.isPure]; done) | (refine rowsCons ?_; simp [mtl, mtc, mT, mH, C.isPure, purel]; done) | (refine rowsCons ?_; simp [mtl, mtc, mT, mH, C.isPure, purel]) | refine And.intro ?_ ?_))
                        · simp [mtc, mtl, mT, C.isPure, purel] <;> (try simp (disch := omega) [wrap_id]) <;> (try omega)
                    · rw [htb] at hstA hbit
                      simp at hstA
                      (repeat refine awp_seq ?_); refine awp_cond (by simp [htb, hbit]; rfl) (by rw [hx]; simp) (fun hd => ?_) (fun hd => ?_)
                      · clear hd
                        (repeat refine awp_seq ?_); refine awp_reg1 (by rw [hx]; kernel_rfl) fun K hK => ?_; simp (maxSteps := 1000000) [ty41, ty3]
                        refine ⟨by omega, ?_⟩
                        refine hK _ ?_; clear hK K; (first | show AWP _ _ _ _ _ | show ∃ _, _ | skip)
                        (repeat refine awp_seq ?_); refine awp_reg1 (by rw [hx]; kernel_rfl) fun K hK => ?_; simp (maxSteps := 1000000) [ty3]; refine hK _ ?_; clear hK K; (first | show AWP _ _ _ _ _ | show ∃ _, _ | skip)
                        refine ⟨i + 1, by omega, by omega, ?_⟩
                        rw [hstA, hwi]
                        refine wk_shape2 [(2, 2, .live (obTi t)), (3, 3, .live ⟨false, false, 2, [cCl c]⟩), (9, 9, .live ⟨V.isEmpty, false, 1, rowsF t V⟩), (11, 55, .live ⟨(acc ++ [(i : Int)]).isEmpty, false, 1, (acc ++ [(i : Int)]).map cI⟩)] (by first | rfl | (simp only [if_pos, if_true]; rfl)) (shp0 hσ (by simp) (by simp) ?_) ?_
                        · simp [SlotOk] <;> (repeat' (first | (refine RowsOk.same ?_; simp [purel, C.isPure]; done) | (refine rowsCons ?_; simp [mtl, mtc, mT, mH, C.isPure, purel]; done) | (refine rowsCons ?_; simp [mtl, mtc, mT, mH, C.isPure, purel]) | refine And.intro ?_ ?_))
                        · simp [mtc, mtl, mT, C.isPure, purel] <;> (try simp (disch := omega) [wrap_id]) <;> (try omega)
                      · exact absurd hd (by simp [hbit, htb])
                  · simp at hc3
                    (repeat refine awp_seq ?_); refine awp_exit ?_; (first | show AWP _ _ _ _ _ | show ∃ _, _ | skip)
                    have hin : i = t.ts.length := by omega
                    have hlS : acc = listS t b := by rw [← hacc, hin, hAn]
                    have hpc : acc.length = popc b := by rw [hlS]; exact listS_len (by rw [← hN]; omega) (by omega)
                    have hcall := q_decides44 t acc.isEmpty false acc c hok hl (by rw [hlS]; exact listS_in t b) (by omega) hcs
                    have hdec : decB t acc c = cdB t c b := by rw [hlS]; exact decB_set t b c
                    rw [hdec] at hcall
                    refine AWP.weak ?_ (wk_frz 11 11 (c := slF acc) (o := ⟨acc.isEmpty, false, 1, acc.map cI⟩) (by simp) (by simp [purel, C.isPure]) (by
                      have := fz_own (k := 11) (sz := 1) (n := acc.length) (b := acc.isEmpty) (o := ⟨acc.isEmpty, false, 1, acc.map cI⟩) rfl (by simp) (by simp)
                      simpa using this))
                    by_cases hpm : popc b = m
                    · have hpm' : ((acc.length : Int) == (m : Int)) = true := by rw [beq_iff_eq]; omega
                      (repeat refine awp_seq ?_); refine awp_reg1 (by rw [hx]; kernel_rfl) fun K hK => ?_; simp (maxSteps := 1000000) [ty41, ty3, ty28, ty30, hpm']
                      refine callP (hcall) (by first | (simp; done) | (simp [*]; done)) ?_; simp (maxSteps := 1000000) []
                      refine hK _ ?_; clear hK K; (first | show AWP _ _ _ _ _ | show ∃ _, _ | skip)
                      cases hcd : cdB t c b
                      · have hst2 : O (b + 1) = V := by rw [hOst, hcd]; simp
                        (repeat refine awp_seq ?_); refine awp_cond (by simp [hcd]; rfl) (by rw [hx]; simp) (fun hd => ?_) (fun hd => ?_)
                        · exact absurd hd (by simp [hcd])
                        · clear hd
                          refine awp_skip ?_; (first | show AWP _ _ _ _ _ | show ∃ _, _ | skip)
                          (repeat refine awp_seq ?_); refine awp_reg1 (by rw [hx]; kernel_rfl) fun K hK => ?_; simp (maxSteps := 1000000) [ty3]; refine hK _ ?_; clear hK K; (first | show AWP _ _ _ _ _ | show ∃ _, _ | skip)
                          refine ⟨b + 1, by omega, by omega, ?_⟩
                          rw [hst2, hwb]
                          refine wk_shape (shp0 hσ (by simp) (by simp) ?_) ?_
                          · simp [SlotOk] <;> (repeat' (first | (refine RowsOk.same ?_; simp [purel, C.isPure]; done) | (refine rowsCons ?_; simp [mtl, mtc, mT, mH, C.isPure, purel]; done) | (refine rowsCons ?_; simp [mtl, mtc, mT, mH, C.isPure, purel]) | refine And.intro ?_ ?_))
                          · simp [mtc, mtl, mT, C.isPure, purel] <;> (try simp (disch := omega) [wrap_id]) <;> (try omega)
                      · have hst2 : O (b + 1) = V ++ [b] := by rw [hOst, hcd, hpm]; simp
                        have hrf := rowsF_app t V b
                        (repeat refine awp_seq ?_); refine awp_cond (by simp [hcd]; rfl) (by rw [hx]; simp) (fun hd => ?_) (fun hd => ?_)
                        · clear hd
                          (repeat refine awp_seq ?_); refine awp_reg1 (by rw [hx]; kernel_rfl) fun K hK => ?_; simp (maxSteps := 1000000) [ty106, ty41]
                          refine ⟨by omega, ?_⟩
                          refine hK _ ?_; clear hK K; (first | show AWP _ _ _ _ _ | show ∃ _, _ | skip)
                          (repeat refine awp_seq ?_); refine awp_reg1 (by rw [hx]; kernel_rfl) fun K hK => ?_; simp (maxSteps := 1000000) [ty3]; refine hK _ ?_; clear hK K; (first | show AWP _ _ _ _ _ | show ∃ _, _ | skip)
                          refine ⟨b + 1, by omega, by omega, ?_⟩
                          rw [hst2, hwb, hrf, ← hlS]
                          refine wk_shape2 [(2, 2, .live (obTi t)), (3, 3, .live ⟨false, false, 2, [cCl c]⟩), (9, 69, .live ⟨(V ++ [b]).isEmpty, false, 1, rowsF t V ++ [[slF acc]]⟩)] (by first | rfl | (simp only [if_pos, if_true]; rfl)) (shp0 hσ (by simp) (by simp) ?_) ?_
                          · simp [SlotOk] <;> (repeat' (first | (refine RowsOk.same ?_; simp [purel, C.isPure]; done) | (refine rowsCons ?_; simp [mtl, mtc, mT, mH, C.isPure, purel]; done) | (refine rowsCons ?_; simp [mtl, mtc, mT, mH, C.isPure, purel]) | refine And.intro ?_ ?_))
                          · simp [mtc, mtl, mT, C.isPure, purel] <;> (try simp (disch := omega) [wrap_id]) <;> (try omega)
                        · exact absurd hd (by simp [hcd])
                    · have hpm' : ((acc.length : Int) == (m : Int)) = false := by rw [beq_eq_false_iff_ne]; omega
                      have hst2 : O (b + 1) = V := by
                        have : (popc b == m) = false := by rw [beq_eq_false_iff_ne]; exact hpm
                        rw [hOst, this]; simp
                      (repeat refine awp_seq ?_); refine awp_reg1 (by rw [hx]; kernel_rfl) fun K hK => ?_; simp (maxSteps := 1000000) [ty41, ty3, ty28, ty30, hpm']
                      refine hK _ ?_; clear hK K; (first | show AWP _ _ _ _ _ | show ∃ _, _ | skip)
                      (repeat refine awp_seq ?_); refine awp_cond (by simp [hpm']; rfl) (by rw [hx]; simp) (fun hd => ?_) (fun hd => ?_)
                      · exact absurd hd (by simp [hpm'])
                      · clear hd
                        refine awp_skip ?_; (first | show AWP _ _ _ _ _ | show ∃ _, _ | skip)
                        (repeat refine awp_seq ?_); refine awp_reg1 (by rw [hx]; kernel_rfl) fun K hK => ?_; simp (maxSteps := 1000000) [ty3]; refine hK _ ?_; clear hK K; (first | show AWP _ _ _ _ _ | show ∃ _, _ | skip)
                        refine ⟨b + 1, by omega, by omega, ?_⟩
                        rw [hst2, hwb]
                        refine wk_shape (shp0 hσ (by simp) (by simp) ?_) ?_
                        · simp [SlotOk] <;> (repeat' (first | (refine RowsOk.same ?_; simp [purel, C.isPure]; done) | (refine rowsCons ?_; simp [mtl, mtc, mT, mH, C.isPure, purel]; done) | (refine rowsCons ?_; simp [mtl, mtc, mT, mH, C.isPure, purel]) | refine And.intro ?_ ?_))
                        · simp [mtc, mtl, mT, C.isPure, purel] <;> (try simp (disch := omega) [wrap_id]) <;> (try omega)
              · simp at hc2
                (repeat refine awp_seq ?_); refine awp_exit ?_; (first | show AWP _ _ _ _ _ | show ∃ _, _ | skip)
                have hbN : b = N := by omega
                rw [hbN] at hOb ⊢
                have hne : m < M ↔ O N = [] := by
                  constructor
                  · intro h; rw [← hON]; exact hM2 m h
                  · intro h
                    refine Classical.byContradiction fun hge => ?_
                    have e : m = M := by omega
                    rcases hM1 with ⟨h1, _⟩ | ⟨h1, h2, h3⟩
                    · omega
                    · rw [← e, hON, h] at h3
                      exact h2 h3.symm
                generalize hW : O N = V at *
                by_cases hV : V = []
                · have hlt := hne.2 hV
                  rw [hV]
                  have : rowsF t [] = [] := rfl
                  rw [this]
                  (repeat refine awp_seq ?_); refine awp_reg1 (by rw [hx]; kernel_rfl) fun K hK => ?_; simp (maxSteps := 1000000) [ty106, ty3]; refine hK _ ?_; clear hK K; (first | show AWP _ _ _ _ _ | show ∃ _, _ | skip)
                  (repeat refine awp_seq ?_); refine awp_cond (by simp; rfl) (by rw [hx]; simp) (fun hd => ?_) (fun hd => ?_)
                  · simp at hd
                  · clear hd
                    refine awp_skip ?_; (first | show AWP _ _ _ _ _ | show ∃ _, _ | skip)
                    (repeat refine awp_seq ?_); refine awp_reg1 (by rw [hx]; kernel_rfl) fun K hK => ?_; simp (maxSteps := 1000000) [ty3]; refine hK _ ?_; clear hK K; (first | show AWP _ _ _ _ _ | show ∃ _, _ | skip)
                    refine ⟨m + 1, by omega, by omega, ?_⟩
                    rw [hwm]
                    refine wk_shape (shp0 hσ (by simp) (by simp) ?_) ?_
                    · simp [SlotOk] <;> (repeat' (first | (refine RowsOk.same ?_; simp [purel, C.isPure]; done) | (refine rowsCons ?_; simp [mtl, mtc, mT, mH, C.isPure, purel]; done) | (refine rowsCons ?_; simp [mtl, mtc, mT, mH, C.isPure, purel]) | refine And.intro ?_ ?_))
                    · simp [mtc, mtl, mT, C.isPure, purel] <;> (try simp (disch := omega) [wrap_id]) <;> (try omega)
                · have hmM : m = M := by
                    have : ¬ m < M := fun h => hV (hne.1 h)
                    omega
                  have hVpos : (0 : Int) < (V.length : Int) := by
                    have := List.length_pos_iff.2 hV
                    omega
                  have hVd : V = decSets t c ∧ decSets t c ≠ [] := by
                    rcases hM1 with ⟨h1, _⟩ | ⟨h1, h2, h3⟩
                    · omega
                    · exact ⟨by rw [← h3, ← hmM, hON], h2⟩
                  have hE0 : decE t c = 0 := by rw [hE, if_neg hVd.2]
                  have hem : V.isEmpty = false := by simpa [List.isEmpty_eq_false_iff] using hV
                  have hfs : fewSl t c = .sl false false (rowsF t V) := by unfold fewSl; rw [if_pos hE0, hVd.1]
                  rw [hE0, hfs]
                  have htk : List.take V.length (rowsF t V) = rowsF t V := List.take_of_length_le (by simp)
                  have hpu := rowsF_pure t V
                  (repeat refine awp_seq ?_); refine awp_reg1 (by rw [hx]; kernel_rfl) fun K hK => ?_; simp (maxSteps := 1000000) [ty106, ty3, hVpos]; refine hK _ ?_; clear hK K; (first | show AWP _ _ _ _ _ | show ∃ _, _ | skip)
                  (repeat refine awp_seq ?_); refine awp_cond (by simp [hVpos]; rfl) (by rw [hx]; simp) (fun hd => ?_) (fun hd => ?_)
                  · clear hd
                    (repeat refine awp_seq ?_); refine awp_reg1 (by rw [hx]; kernel_rfl) fun K hK => ?_; simp (maxSteps := 1000000) [ty106]; refine hK _ ?_; clear hK K; (first | show AWP _ _ _ _ _ | show ∃ _, _ | skip)
                    (repeat refine awp_seq ?_); refine awp_ret ?_; refine And.intro (Or.inr rfl) ?_
                    refine ⟨_, by simp [retC, resC]; rfl, ?_⟩
                    unfold viewC
                    rw [if_neg (by simp [C.isPure, purel])]
                    simp only [mapO]
                    rw [viewC_own (o := ⟨V.isEmpty, false, 1, rowsF t V⟩) (by simp) rfl (by simp) hpu, viewC_self rfl]
                    simp [hV]
                  · simp [hVpos] at hd
                    exact absurd hd hV
          · simp [hq] at hd
        · have hnil : decSets t c = [] := by
            rcases hM1 with ⟨h1, h2⟩ | ⟨h1, h2, h3⟩
            · exact h2
            · omega
          have hE3 : decE t c = 3 := by rw [hE, if_pos hnil]
          have hfs : fewSl t c = .sl true true [] := by unfold fewSl; rw [if_neg (by rw [hE3]; decide)]
          (repeat refine awp_seq ?_); refine awp_reg1 (by rw [hx]; kernel_rfl) fun K hK => ?_; simp (maxSteps := 1000000) [ty28, ty26, ty3, hq]; refine hK _ ?_; clear hK K; (first | show AWP _ _ _ _ _ | show ∃ _, _ | skip)
          (repeat refine awp_seq ?_); refine awp_cond (by simp [hq]; rfl) (by rw [hx]; simp) (fun hd => ?_) (fun hd => ?_)
          · simp [hq] at hd
          · clear hd
            (repeat refine awp_seq ?_); refine awp_exit ?_; (first | show AWP _ _ _ _ _ | show ∃ _, _ | skip)
            (repeat refine awp_seq ?_); refine awp_reg1 (by rw [hx]; kernel_rfl) fun K hK => ?_; simp (maxSteps := 1000000) []; refine hK _ ?_; clear hK K; (first | show AWP _ _ _ _ _ | show ∃ _, _ | skip)
            (repeat refine awp_seq ?_); refine awp_ret ?_; refine And.intro (Or.inr rfl) ?_
            simp [retC, resC, viewC, mapO, hE3, hfs]
  · have hE : decE t c = openT t (classB c) := by unfold decE; rw [if_pos hz]
    have hfs : fewSl t c = .sl true true [] := by unfold fewSl; rw [if_neg (by rw [hE]; exact hz)]
    (repeat refine awp_seq ?_); refine awp_cond (by simp [hz]; rfl) (by rw [hx]; simp) (fun hd => ?_) (fun hd => ?_)
    · clear hd
      (repeat refine awp_seq ?_); refine awp_reg1 (by rw [hx]; kernel_rfl) fun K hK => ?_; simp (maxSteps := 1000000) []; refine hK _ ?_; clear hK K; (first | show AWP _ _ _ _ _ | show ∃ _, _ | skip)
      (repeat refine awp_seq ?_); refine awp_ret ?_; refine And.intro (Or.inr rfl) ?_
      simp [retC, resC, viewC, mapO, hE, hz, hfs]
    · simp [hz] at hd

end Go.Proofs.YtbhbmnofmoibhaaGreat

namespace Go.Proofs.YtbhbmnofmoibhaaGreat
open Go Go.Abs

set_option maxHeartbeats 8000000

theorem q_fewest39 (t : Ti) (c : Cl) (hl : TiLen t) : Pure Tryz.prog 39 [encTi t, encCl c] (.tup [encI (fewestT t c), encI (decE t c)]) := by
  refine pure_of (fn := Tryz.f39) [.tmp 4, .tmp 5] ⟨Tryz.func39, rfl, by kernel_rfl⟩ (by kernel_rfl) (by kernel_rfl) (by kernel_rfl) fun x hx hσ => ?_
  (repeat refine awp_seq ?_); refine awp_reg1 (by rw [hx]; kernel_rfl) fun K hK => ?_; simp (maxSteps := 1000000) [ty28, ty30]; refine hK _ ?_; clear hK K; (first | show AWP _ _ _ _ _ | show ∃ _, _ | skip)
  (repeat refine awp_seq ?_); refine awp_reg1 (by rw [hx]; kernel_rfl) fun K hK => ?_; simp (maxSteps := 1000000) [ty28, ty30]
  refine callP (q_fewest77 t c hl) (by simp [purel, C.isPure]) ?_
  simp [ty106]
  refine hK _ ?_; clear hK K; (first | show AWP _ _ _ _ _ | show ∃ _, _ | skip)
  (repeat refine awp_seq ?_); refine awp_reg1 (by rw [hx]; kernel_rfl) fun K hK => ?_; simp (maxSteps := 1000000) [ty36]; refine hK _ ?_; clear hK K; (first | show AWP _ _ _ _ _ | show ∃ _, _ | skip)
  by_cases hz : decE t c = 0
  · obtain ⟨hok, hcl, h0⟩ := decE_ok hz
    obtain ⟨a, r, har⟩ := decSets_cons h0
    have hsl : fewSl t c = .sl false false (rowsF t (decSets t c)) := if_pos hz
    have hlt : a < 2 ^ t.ts.length := decL_lt (cd := cdB t c) (by show a ∈ decSets t c; rw [har]; simp)
    have h6 := hok.len
    have hln := listS_len hlt (show t.ts.length ≤ 8 by omega)
    have hrf : rowsF t (a :: r) = [slF (listS t a)] :: rowsF t r := rfl
    (repeat refine awp_seq ?_); refine awp_cond (by simp [hz]; rfl) (by rw [hx]; simp) (fun hd => ?_) (fun hd => ?_)
    · simp at hd
    · clear hd
      refine awp_skip ?_; (first | show AWP _ _ _ _ _ | show ∃ _, _ | skip)
      simp only [hsl, har, hrf]
      (repeat refine awp_seq ?_); refine awp_reg1 (by rw [hx]; kernel_rfl) fun K hK => ?_; simp (maxSteps := 1000000) [ty106, ty41]; refine hK _ ?_; clear hK K; (first | show AWP _ _ _ _ _ | show ∃ _, _ | skip)
      (repeat refine awp_seq ?_); refine awp_ret ?_; refine And.intro (Or.inr rfl) ?_
      simp [retC, resC, viewC, mapO, fewestT, hz, har, hln]
  · (repeat refine awp_seq ?_); refine awp_cond (by simp [hz]; rfl) (by rw [hx]; simp) (fun hd => ?_) (fun hd => ?_)
    · clear hd
      (repeat refine awp_seq ?_); refine awp_reg1 (by rw [hx]; kernel_rfl) fun K hK => ?_; simp (maxSteps := 1000000) []; refine hK _ ?_; clear hK K; (first | show AWP _ _ _ _ _ | show ∃ _, _ | skip)
      (repeat refine awp_seq ?_); refine awp_ret ?_; refine And.intro (Or.inr rfl) ?_
      simp [retC, resC, viewC, mapO, hz, fewestT]
    · simp [hz] at hd

theorem inAll_bit (i : Nat) : ∀ (l : List Nat) (a : Nat), (inAll l a).testBit i = (a.testBit i && l.all fun s => s.testBit i)
  | [], a => by simp [inAll]
  | s :: l, a => by
    have ih := inAll_bit i l (a &&& s)
    have e : inAll (s :: l) a = inAll l (a &&& s) := rfl
    rw [e, ih, Nat.testBit_and, List.all_cons, Bool.and_assoc]

theorem needed_fix (t : Ti) (S : List Nat) : listS t (inAll S (allS t)) = fixTo (fun n => S.all fun s => decide ((n : Int) ∈ listS t s)) t.ts.length := by
  unfold listS
  refine fixTo_congr fun i hi => ?_
  have ha : (allS t).testBit i = true := testBit_all hi
  rw [inAll_bit, ha, Bool.true_and]
  congr 1
  funext s
  rw [Bool.eq_iff_iff, decide_eq_true_eq, fixTo_mem]
  constructor
  · intro h; exact ⟨i, hi, h, rfl⟩
  · rintro ⟨j, hj, h, e⟩
    have : i = j := by omega
    rw [this]; exact h

theorem q_needed41 (t : Ti) (c : Cl) (hl : TiLen t) : Pure Tryz.prog 41 [encTi t, encCl c] (.tup [.sl (neededT t c).isEmpty (decE t c != 0) ((neededT t c).map cI), encI (decE t c)]) := by
  refine pure_of (fn := Tryz.f41) [.tmp 4, .tmp 5] ⟨Tryz.func41, rfl, by kernel_rfl⟩ (by kernel_rfl) (by kernel_rfl) (by kernel_rfl) fun x hx hσ => ?_
  (repeat refine awp_seq ?_); refine awp_reg1 (by rw [hx]; kernel_rfl) fun K hK => ?_; simp (maxSteps := 1000000) [ty28, ty30]; refine hK _ ?_; clear hK K; (first | show AWP _ _ _ _ _ | show ∃ _, _ | skip)
  (repeat refine awp_seq ?_); refine awp_reg1 (by rw [hx]; kernel_rfl) fun K hK => ?_; simp (maxSteps := 1000000) [ty28, ty30]
  refine callP (q_fewest77 t c hl) (by simp [purel, C.isPure]) ?_
  simp [ty106]
  refine hK _ ?_; clear hK K; (first | show AWP _ _ _ _ _ | show ∃ _, _ | skip)
  (repeat refine awp_seq ?_); refine awp_reg1 (by rw [hx]; kernel_rfl) fun K hK => ?_; simp (maxSteps := 1000000) [ty36]; refine hK _ ?_; clear hK K; (first | show AWP _ _ _ _ _ | show ∃ _, _ | skip)
  by_cases hz : decE t c = 0
  · obtain ⟨hok, hcl, h0⟩ := decE_ok hz
    have h6 := hok.len
    have hsl : fewSl t c = .sl false false (rowsF t (decSets t c)) := if_pos hz
    have hdt : neededT t c = fixTo (fun n => (decSets t c).all fun s => decide ((n : Int) ∈ listS t s)) t.ts.length := by
      unfold neededT; rw [if_pos hz, needed_fix]
    have hb := decL_len (cd := cdB t c) (2 ^ t.ts.length)
    have hN : 2 ^ t.ts.length ≤ 64 := Nat.pow_le_pow_right (n := 2) (by decide) h6
    have hb2 : (decSets t c).length ≤ 64 := Nat.le_trans hb hN
    generalize hL : decSets t c = L at *
    obtain ⟨A, hA⟩ : ∃ A : Nat → List Int, ∀ i, A i = fixTo (fun n => L.all fun s => decide ((n : Int) ∈ listS t s)) i := ⟨_, fun _ => rfl⟩
    have hA0 : A 0 = [] := hA 0
    have hAl : ∀ i, (A i).length ≤ i := fun i => by rw [hA]; exact fixTo_len _ _
    have hAs : ∀ i : Nat, A (i + 1) = if (L.all fun s => decide ((i : Int) ∈ listS t s)) then A i ++ [(i : Int)] else A i := fun i => by rw [hA, hA]; rfl
    rw [hdt, ← hA, hz]
    clear hA
    have hrl := rowsF_len t L
    have hrg : ∀ j (h : j < L.length) (h' : j < (rowsF t L).length), (rowsF t L)[j]'h' = [slF (listS t L[j])] := fun j h h' => by simp [rowsF]
    (repeat refine awp_seq ?_); refine awp_cond (by simp [hz]; rfl) (by rw [hx]; simp) (fun hd => ?_) (fun hd => ?_)
    · simp at hd
    · clear hd
      refine awp_skip ?_; (first | show AWP _ _ _ _ _ | show ∃ _, _ | skip)
      simp only [hsl]
      (repeat refine awp_seq ?_); refine awp_reg1 (by rw [hx]; kernel_rfl) fun K hK => ?_; simp (maxSteps := 1000000) []; refine hK _ ?_; clear hK K; (first | show AWP _ _ _ _ _ | show ∃ _, _ | skip)
      (repeat refine awp_seq ?_); refine awp_reg1 (by rw [hx]; kernel_rfl) fun K hK => ?_; simp (maxSteps := 1000000) []; refine hK _ ?_; clear hK K; (first | show AWP _ _ _ _ _ | show ∃ _, _ | skip)
      (repeat refine awp_seq ?_); refine awp_block ?_
      refine AWP.weak ?_ (wk_nil 8 8 1 (fu := true) (by simp) (by simp))
      refine awp_loop (fun i : Nat => ⟨ofL [(2, .ptr 2 10 0 0), (6, .sl false false (rowsF t L)), (8, .own 8 1 0 (A i).length), (9, encI i)], stoT [(2, 2, .live (obTi t)), (8, 8, .live ⟨(A i).isEmpty, false, 1, (A i).map cI⟩)]⟩)
        (fun i => i ≤ t.ts.length) (fun i => t.ts.length - i) 0 (Nat.zero_le _) ?_ ?_
      · rw [hA0]
        refine wk_shape (shp0 hσ (by simp) (by simp) ?_) ?_
        · simp [SlotOk] <;> (repeat' (first | (refine RowsOk.same ?_; simp [purel, C.isPure]; done) | (refine rowsCons ?_; simp [mtl, mtc, mT, mH, C.isPure, purel]; done) | (refine rowsCons ?_; simp [mtl, mtc, mT, mH, C.isPure, purel]) | refine And.intro ?_ ?_))
        · simp [mtc, mtl, mT, C.isPure, purel] <;> (try simp (disch := omega) [wrap_id]) <;> (try omega)
      · intro i hi
        have hlA := hAl i
        have hstA := hAs i
        have hwi : IntKind.i64.wrap ((i : Int) + 1) = ((i + 1 : Nat) : Int) := by rw [wrap_id (by omega) (by omega)]; rfl
        generalize hV : A i = V at *
        have hpu := rowsF_pure t L
        (repeat refine awp_seq ?_); refine awp_reg1 (by rw [hx]; kernel_rfl) fun K hK => ?_; simp (maxSteps := 1000000) [ty28, ty26, ty3]; refine hK _ ?_; clear hK K; (first | show AWP _ _ _ _ _ | show ∃ _, _ | skip)
        (repeat refine awp_seq ?_); refine awp_cond (by simp; rfl) (by rw [hx]; simp) (fun hc => ?_) (fun hc => ?_)
        · simp at hc
          refine awp_skip ?_; (first | show AWP _ _ _ _ _ | show ∃ _, _ | skip)
          (repeat refine awp_seq ?_); refine awp_block ?_
          (repeat refine awp_seq ?_); refine awp_reg1 (by rw [hx]; kernel_rfl) fun K hK => ?_; simp (maxSteps := 1000000) []; refine hK _ ?_; clear hK K; (first | show AWP _ _ _ _ _ | show ∃ _, _ | skip)
          (repeat refine awp_seq ?_); refine awp_reg1 (by rw [hx]; kernel_rfl) fun K hK => ?_; simp (maxSteps := 1000000) []; refine hK _ ?_; clear hK K; (first | show AWP _ _ _ _ _ | show ∃ _, _ | skip)
          (repeat refine awp_seq ?_); refine awp_block ?_
          refine awp_loop (fun j : Nat => ⟨ofL [(2, .ptr 2 10 0 0), (6, .sl false false (rowsF t L)), (8, .own 8 1 0 V.length), (9, encI i), (10, .bool ((L.take j).all fun s => decide ((i : Int) ∈ listS t s))), (11, encI j)], stoT [(2, 2, .live (obTi t)), (8, 8, .live ⟨V.isEmpty, false, 1, V.map cI⟩)]⟩)
            (fun j => j ≤ L.length) (fun j => L.length - j) 0 (Nat.zero_le _) ?_ ?_
          · refine wk_shape (shp0 hσ (by simp) (by simp) ?_) ?_
            · simp [SlotOk] <;> (repeat' (first | (refine RowsOk.same ?_; simp [purel, C.isPure]; done) | (refine rowsCons ?_; simp [mtl, mtc, mT, mH, C.isPure, purel]; done) | (refine rowsCons ?_; simp [mtl, mtc, mT, mH, C.isPure, purel]) | refine And.intro ?_ ?_))
            · simp [mtc, mtl, mT, C.isPure, purel] <;> (try simp (disch := omega) [wrap_id]) <;> (try omega)
          · intro j hj
            have hwj : IntKind.i64.wrap ((j : Int) + 1) = ((j + 1 : Nat) : Int) := by rw [wrap_id (by omega) (by omega)]; rfl
            (repeat refine awp_seq ?_); refine awp_reg1 (by rw [hx]; kernel_rfl) fun K hK => ?_; simp (maxSteps := 1000000) [ty106, ty3, hrl]; refine hK _ ?_; clear hK K; (first | show AWP _ _ _ _ _ | show ∃ _, _ | skip)
            (repeat refine awp_seq ?_); refine awp_cond (by simp; rfl) (by rw [hx]; simp) (fun hc2 => ?_) (fun hc2 => ?_)
            · simp at hc2
              refine awp_skip ?_; (first | show AWP _ _ _ _ _ | show ∃ _, _ | skip)
              (repeat refine awp_seq ?_); refine awp_block ?_
              have hst : ((L.take (j + 1)).all fun s => decide ((i : Int) ∈ listS t s)) = (((L.take j).all fun s => decide ((i : Int) ∈ listS t s)) && decide ((i : Int) ∈ listS t L[j])) := by
                rw [List.take_succ_eq_append_getElem hc2, List.all_append]; simp
              have hll : (listS t L[j]).length ≤ 1000000 := Nat.le_trans (fixTo_len _ _) (by omega)
              have hrgj := hrg j hc2
              cases hb1 : (L.take j).all fun s => decide ((i : Int) ∈ listS t s)
              · rw [hb1, Bool.false_and] at hst
                (repeat refine awp_seq ?_); refine awp_reg1 (by rw [hx]; kernel_rfl) fun K hK => ?_; simp (maxSteps := 1000000) [ty106, ty41]; refine hK _ ?_; clear hK K; (first | show AWP _ _ _ _ _ | show ∃ _, _ | skip)
                (repeat refine awp_seq ?_); refine awp_reg1 (by rw [hx]; kernel_rfl) fun K hK => ?_; simp (maxSteps := 1000000) [ty3]; refine hK _ ?_; clear hK K; (first | show AWP _ _ _ _ _ | show ∃ _, _ | skip)
                refine ⟨j + 1, by omega, by omega, ?_⟩
                rw [hst, hwj]
                refine wk_shape (shp0 hσ (by simp) (by simp) ?_) ?_
                · simp [SlotOk] <;> (repeat' (first | (refine RowsOk.same ?_; simp [purel, C.isPure]; done) | (refine rowsCons ?_; simp [mtl, mtc, mT, mH, C.isPure, purel]; done) | (refine rowsCons ?_; simp [mtl, mtc, mT, mH, C.isPure, purel]) | refine And.intro ?_ ?_))
                · simp [mtc, mtl, mT, C.isPure, purel] <;> (try simp (disch := omega) [wrap_id]) <;> (try omega)
              · rw [hb1, Bool.true_and] at hst
                (repeat refine awp_seq ?_); refine awp_reg1 (by rw [hx]; kernel_rfl) fun K hK => ?_; simp (maxSteps := 1000000) [ty106, ty41, ty3, hrl, hc2, hrgj]
                refine callP (q_in74 (listS t L[j]).isEmpty false (listS t L[j]) i hll) (by first | (simp; done) | (simp [*]; done)) ?_; simp (maxSteps := 1000000) []
                refine hK _ ?_; clear hK K; (first | show AWP _ _ _ _ _ | show ∃ _, _ | skip)
                (repeat refine awp_seq ?_); refine awp_reg1 (by rw [hx]; kernel_rfl) fun K hK => ?_; simp (maxSteps := 1000000) [ty3]; refine hK _ ?_; clear hK K; (first | show AWP _ _ _ _ _ | show ∃ _, _ | skip)
                refine ⟨j + 1, by omega, by omega, ?_⟩
                rw [hst, hwj]
                refine wk_shape (shp0 hσ (by simp) (by simp) ?_) ?_
                · simp [SlotOk] <;> (repeat' (first | (refine RowsOk.same ?_; simp [purel, C.isPure]; done) | (refine rowsCons ?_; simp [mtl, mtc, mT, mH, C.isPure, purel]; done) | (refine rowsCons ?_; simp [mtl, mtc, mT, mH, C.isPure, purel]) | refine And.intro ?_ ?_))
                · simp [mtc, mtl, mT, C.isPure, purel] <;> (try simp (disch := omega) [wrap_id]) <;> (try omega)
            · simp at hc2
              (repeat refine awp_seq ?_); refine awp_exit ?_; (first | show AWP _ _ _ _ _ | show ∃ _, _ | skip)
              have hjn : j = L.length := by omega
              rw [hjn, List.take_length]
              (repeat refine awp_seq ?_); refine awp_reg1 (by rw [hx]; kernel_rfl) fun K hK => ?_; simp (maxSteps := 1000000) []; refine hK _ ?_; clear hK K; (first | show AWP _ _ _ _ _ | show ∃ _, _ | skip)
              cases hb : L.all fun s => decide ((i : Int) ∈ listS t s)
              · rw [hb] at hstA
                simp at hstA
                (repeat refine awp_seq ?_); refine awp_cond (by simp [hb]; rfl) (by rw [hx]; simp) (fun hd => ?_) (fun hd => ?_)
                · exact absurd hd (by simp [hb])
                · clear hd
                  refine awp_skip ?_; (first | show AWP _ _ _ _ _ | show ∃ _, _ | skip)
                  (repeat refine awp_seq ?_); refine awp_reg1 (by rw [hx]; kernel_rfl) fun K hK => ?_; simp (maxSteps := 1000000) [ty3]; refine hK _ ?_; clear hK K; (first | show AWP _ _ _ _ _ | show ∃ _, _ | skip)
                  refine ⟨i + 1, by omega, by omega, ?_⟩
                  rw [hstA, hwi]
                  refine wk_shape (shp0 hσ (by simp) (by simp) ?_) ?_
                  · simp [SlotOk] <;> (repeat' (first | (refine RowsOk.same ?_; simp [purel, C.isPure]; done) | (refine rowsCons ?_; simp [mtl, mtc, mT, mH, C.isPure, purel]; done) | (refine rowsCons ?_; simp [mtl, mtc, mT, mH, C.isPure, purel]) | refine And.intro ?_ ?_))
                  · simp [mtc, mtl, mT, C.isPure, purel] <;> (try simp (disch := omega) [wrap_id]) <;> (try omega)
              · rw [hb] at hstA
                simp at hstA
                (repeat refine awp_seq ?_); refine awp_cond (by simp [hb]; rfl) (by rw [hx]; simp) (fun hd => ?_) (fun hd => ?_)
                · clear hd
                  (repeat refine awp_seq ?_); refine awp_reg1 (by rw [hx]; kernel_rfl) fun K hK => ?_; simp (maxSteps := 1000000) [ty41, ty3]
                  refine ⟨by omega, ?_⟩
                  refine hK _ ?_; clear hK K; (first | show AWP _ _ _ _ _ | show ∃ _, _ | skip)
                  (repeat refine awp_seq ?_); refine awp_reg1 (by rw [hx]; kernel_rfl) fun K hK => ?_; simp (maxSteps := 1000000) [ty3]; refine hK _ ?_; clear hK K; (first | show AWP _ _ _ _ _ | show ∃ _, _ | skip)
                  refine ⟨i + 1, by omega, by omega, ?_⟩
                  rw [hstA, hwi]
                  refine wk_shape2 [(2, 2, .live (obTi t)), (8, 47, .live ⟨(V ++ [(i : Int)]).isEmpty, false, 1, (V ++ [(i : Int)]).map cI⟩)] (by first | rfl | (simp only [if_pos, if_true]; rfl)) (shp0 hσ (by simp) (by simp) ?_) ?_
                  · simp [SlotOk] <;> (repeat' (first | (refine RowsOk.same ?_; simp [purel, C.isPure]; done) | (refine rowsCons ?_; simp [mtl, mtc, mT, mH, C.isPure, purel]; done) | (refine rowsCons ?_; simp [mtl, mtc, mT, mH, C.isPure, purel]) | refine And.intro ?_ ?_))
                  · simp [mtc, mtl, mT, C.isPure, purel] <;> (try simp (disch := omega) [wrap_id]) <;> (try omega)
                · exact absurd hd (by simp [hb])
        · simp at hc
          (repeat refine awp_seq ?_); refine awp_exit ?_; (first | show AWP _ _ _ _ _ | show ∃ _, _ | skip)
          have hin : i = t.ts.length := by omega
          rw [← hin, hV]
          (repeat refine awp_seq ?_); refine awp_reg1 (by rw [hx]; kernel_rfl) fun K hK => ?_; simp (maxSteps := 1000000) [ty41]; refine hK _ ?_; clear hK K; (first | show AWP _ _ _ _ _ | show ∃ _, _ | skip)
          (repeat refine awp_seq ?_); refine awp_ret ?_; refine And.intro (Or.inr rfl) ?_
          simp [retC, resC, viewC, mapO, purel, C.isPure]
  · have hdt : neededT t c = [] := by unfold neededT; rw [if_neg hz]
    (repeat refine awp_seq ?_); refine awp_cond (by simp [hz]; rfl) (by rw [hx]; simp) (fun hd => ?_) (fun hd => ?_)
    · clear hd
      (repeat refine awp_seq ?_); refine awp_reg1 (by rw [hx]; kernel_rfl) fun K hK => ?_; simp (maxSteps := 1000000) []; refine hK _ ?_; clear hK K; (first | show AWP _ _ _ _ _ | show ∃ _, _ | skip)
      (repeat refine awp_seq ?_); refine awp_ret ?_; refine And.intro (Or.inr rfl) ?_
      simp [retC, resC, viewC, mapO, hz, hdt]
    · simp [hz] at hd

end Go.Proofs.YtbhbmnofmoibhaaGreat

namespace Go.Proofs.YtbhbmnofmoibhaaGreat
open Go Go.Abs

set_option maxHeartbeats 8000000

def copyY (y : Ts) : Ts := { y with nl := false, fu := false }
/-- An equal trial in new memory. -/
def copyT (t : Ti) : Ti := { t with nl := t.ts.isEmpty, fu := false, ts := t.ts.map copyY }

theorem set_last {α : Type} (A : List α) (x y : α) {n : Nat} (h : n = A.length) : (A ++ [x]).set n y = A ++ [y] := by
  subst h
  rw [List.set_append_right _ _ (Nat.le_refl _)]
  simp

theorem q_copy10 (t : Ti) (hl : TiLen t) : Pure Tryz.prog 10 [encTi t] (encTi (copyT t)) := by
  have hlt := hl.ts
  obtain ⟨U, hU⟩ : ∃ U : Nat → List Ts, ∀ i, U i = (t.ts.take i).map copyY := ⟨_, fun _ => rfl⟩
  have hU0 : U 0 = [] := by rw [hU]; rfl
  have hUl : ∀ i, i ≤ t.ts.length → (U i).length = i := fun i hi => by rw [hU]; simp; omega
  have hUs : ∀ i (hi : i < t.ts.length), U (i + 1) = U i ++ [copyY t.ts[i]] := fun i hi => by rw [hU, hU, List.take_succ_eq_append_getElem hi, List.map_append]; rfl
  have hUn : t.ts.map copyY = U t.ts.length := by rw [hU, List.take_length]
  unfold copyT
  rw [hUn]
  clear hUn hU
  refine pure_of (fn := Tryz.f10) [.cell 2 28] ⟨Tryz.func10, rfl, by kernel_rfl⟩ (by kernel_rfl) (by kernel_rfl) (by kernel_rfl) fun x hx hσ => ?_
  (repeat refine awp_seq ?_); refine awp_reg1 (by rw [hx]; kernel_rfl) fun K hK => ?_; simp (maxSteps := 1000000) [ty28]; refine hK _ ?_; clear hK K; (first | show AWP _ _ _ _ _ | show ∃ _, _ | skip)
  (repeat refine awp_seq ?_); refine awp_reg1 (by rw [hx]; kernel_rfl) fun K hK => ?_; simp (maxSteps := 1000000) [ty28]; refine hK _ ?_; clear hK K; (first | show AWP _ _ _ _ _ | show ∃ _, _ | skip)
  (repeat refine awp_seq ?_); refine awp_reg1 (by rw [hx]; kernel_rfl) fun K hK => ?_; simp (maxSteps := 1000000) [ty28, ty26]; refine hK _ ?_; clear hK K; (first | show AWP _ _ _ _ _ | show ∃ _, _ | skip)
  (repeat refine awp_seq ?_); refine awp_reg1 (by rw [hx]; kernel_rfl) fun K hK => ?_; simp (maxSteps := 1000000) []; refine hK _ ?_; clear hK K; (first | show AWP _ _ _ _ _ | show ∃ _, _ | skip)
  (repeat refine awp_seq ?_); refine awp_block ?_
  refine AWP.weak ?_ (wk_nilCell 3 0 9 1000 2 (o := ⟨false, false, 10, [cTo t (.sl true true [])]⟩) (row := cTo t (.sl true true [])) (fu := true) (by simp) rfl rfl rfl (by simp) (by decide))
  refine awp_loop (fun i : Nat => ⟨ofL [(1, .ptr 1 10 0 0), (2, .ptr 2 10 0 0), (3, .ptr 3 10 0 0), (4, encI i)],
      stoT [(1, 1, .live (obTi t)), (2, 2, .live ⟨false, false, 10, [[encI 0, encI 0, encI 0, encI 0, encI 0, encI 0, encI 0, encI 0, encI 0, .sl true true []]]⟩), (3, 3, .live ⟨false, false, 10, [cTo t (.own 1000 2 0 i)]⟩), (1000, 1000, .live ⟨(U i).isEmpty, false, 2, (U i).map cTs⟩)]⟩)
    (fun i => i ≤ t.ts.length) (fun i => t.ts.length - i) 0 (by simp) ?_ ?_
  · refine wk_shape (shp0 hσ (by simp) (by simp) ?_) ?_
    · simp [SlotOk, hU0] <;> (repeat' (first | (refine RowsOk.same ?_; simp [purel, C.isPure]; done) | (refine rowsCons ?_; simp [mtl, mtc, mT, mH, C.isPure, purel]; done) | (refine rowsCons ?_; simp [mtl, mtc, mT, mH, C.isPure, purel]) | refine And.intro ?_ ?_))
    · simp [mtc, mtl, mT, C.isPure, purel, hU0] <;> (try simp (disch := omega) [wrap_id]) <;> (try omega)
  · intro i hi
    have hUi := hUl i hi
    (repeat refine awp_seq ?_); refine awp_reg1 (by rw [hx]; kernel_rfl) fun K hK => ?_; simp (maxSteps := 1000000) [ty28, ty26, ty3]; refine hK _ ?_; clear hK K; (first | show AWP _ _ _ _ _ | show ∃ _, _ | skip)
    (repeat refine awp_seq ?_); refine awp_cond (by simp; rfl) (by rw [hx]; simp) (fun hc => ?_) (fun hc => ?_)
    · simp at hc
      refine awp_skip ?_; (first | show AWP _ _ _ _ _ | show ∃ _, _ | skip)
      (repeat refine awp_seq ?_); refine awp_block ?_
      have hst := hUs i hc
      have hln := hl.l _ (List.getElem_mem hc)
      obtain ⟨y, hy⟩ : ∃ y, y = t.ts[i] := ⟨_, rfl⟩
      generalize hV : U i = V at *
      have hwi : IntKind.i64.wrap ((i : Int) + 1) = ((i + 1 : Nat) : Int) := by rw [wrap_id (by omega) (by omega)]; rfl
      (repeat refine awp_seq ?_); refine awp_drw3 [1001, 1003, 1007, 1010, 1014, 15, 17, 5018, 11000] [0, 1, 2, 3, 4, 5, 6, 7, 8, 9, 10, 11, 12, 13, 14, 15, 16, 17, 18, 19, 20] (by rw [hx]; kernel_rfl) (by kernel_rfl) (by kernel_rfl) (by kernel_rfl) fun K hK => ?_; simp (maxSteps := 1000000) [ty28, ty26, ty3, ty64, ty62, ty93, hc, ← hy]
      refine ⟨⟨by rw [hy]; omega, by rw [hy]; omega⟩, ⟨by omega, by omega, by omega⟩, ?_⟩
      refine hK _ ?_; clear hK K; (first | show AWP _ _ _ _ _ | show ∃ _, _ | skip)
      rw [← hy] at hst
      refine AWP.weak ?_ (wk_frzCell 29 32 i 1 (o := ⟨y.l.isEmpty, true, 5, y.l.map cWl⟩) (oq := ⟨false, false, 2, V.map cTs ++ [[encI y.area, .own 29 5 0 y.l.length]]⟩) (row := [encI y.area, .own 29 5 0 y.l.length]) (c := .own 29 5 0 y.l.length) (c' := sWl false false y.l) (by simp) (by simp [purel, C.isPure]) (by simp) (by decide) rfl
        (by show (V.map cTs ++ [[encI y.area, .own 29 5 0 y.l.length]])[i]? = _
            rw [List.getElem?_append_right (by simp; omega)]
            simp [hUi]) rfl (by
        have := fz_own (k := 29) (sz := 5) (n := y.l.length) (b := false) (o := ⟨y.l.isEmpty, true, 5, y.l.map cWl⟩) rfl (by simp) (by simp)
        simpa using this) rfl)
      have hset : (V.map cTs ++ [[encI y.area, .own 29 5 0 y.l.length]]).set i [encI y.area, sWl false false y.l] = (V ++ [copyY y]).map cTs := by
        rw [set_last _ _ _ (by simp [hUi])]
        simp [copyY]
      simp only [List.set_cons_succ, List.set_cons_zero]
      rw [hset]
      (repeat refine awp_seq ?_); refine awp_reg1 (by rw [hx]; kernel_rfl) fun K hK => ?_; simp (maxSteps := 1000000) [ty3]; refine hK _ ?_; clear hK K; (first | show AWP _ _ _ _ _ | show ∃ _, _ | skip)
      refine ⟨i + 1, by omega, by omega, ?_⟩
      rw [hst, hwi]
      refine wk_shape2 [(1, 1, .live (obTi t)), (2, 2, .live ⟨false, false, 10, [[encI 0, encI 0, encI 0, encI 0, encI 0, encI 0, encI 0, encI 0, encI 0, .sl true true []]]⟩), (3, 3, .live ⟨false, false, 10, [cTo t (.own 1000 2 0 (i + 1))]⟩), (1000, 32, .live ⟨(V ++ [copyY y]).isEmpty, false, 2, (V ++ [copyY y]).map cTs⟩)] (by first | rfl | (simp only [if_pos, if_true]; rfl)) (shp0 hσ (by simp) (by simp) ?_) ?_
      · simp [SlotOk] <;> (repeat' (first | (refine RowsOk.same ?_; simp [purel, C.isPure]; done) | (refine rowsCons ?_; simp [mtl, mtc, mT, mH, C.isPure, purel]; done) | (refine rowsCons ?_; simp [mtl, mtc, mT, mH, C.isPure, purel]) | refine And.intro ?_ ?_))
      · simp [mtc, mtl, mT, C.isPure, purel] <;> (try simp (disch := omega) [wrap_id]) <;> (try omega)
    · simp at hc
      (repeat refine awp_seq ?_); refine awp_exit ?_; (first | show AWP _ _ _ _ _ | show ∃ _, _ | skip)
      have hin : i = t.ts.length := by omega
      rw [hin] at hUi ⊢
      have hem : (U t.ts.length).isEmpty = t.ts.isEmpty := by
        cases h1 : U t.ts.length <;> cases h2 : t.ts <;> rw [h1, h2] at hUi <;> simp at hUi <;> rfl
      generalize U t.ts.length = V at *
      rw [hem]
      refine AWP.weak ?_ (wk_frzCell 1000 3 0 9 (o := ⟨t.ts.isEmpty, false, 2, V.map cTs⟩) (oq := ⟨false, false, 10, [cTo t (.own 1000 2 0 t.ts.length)]⟩) (row := cTo t (.own 1000 2 0 t.ts.length)) (c := .own 1000 2 0 t.ts.length) (c' := sTs t.ts.isEmpty false V) (by simp) (by simp [purel, C.isPure]) (by simp) (by decide) rfl rfl rfl (fz_own rfl (by simp [hUi]) (by simp)) rfl)
      (repeat refine awp_seq ?_); refine awp_reg1 (by rw [hx]; kernel_rfl) fun K hK => ?_; simp (maxSteps := 1000000) [ty28]; refine hK _ ?_; clear hK K; (first | show AWP _ _ _ _ _ | show ∃ _, _ | skip)
      (repeat refine awp_seq ?_); refine awp_ret ?_; refine And.intro (Or.inr rfl) ?_
      simp [retC, resC, viewC, mapO, ty28]

end Go.Proofs.YtbhbmnofmoibhaaGreat

namespace Go.Proofs.YtbhbmnofmoibhaaGreat
open Go Go.Abs

set_option maxHeartbeats 4000000

end Go.Proofs.YtbhbmnofmoibhaaGreat

namespace Go.Proofs.YtbhbmnofmoibhaaGreat
open Go Go.Abs

set_option maxHeartbeats 4000000

@[simp] abbrev encP (p : Int × Int) : C := .agg [encI p.1, encI p.2]
def rowsP (v : Int × Int → Int) (ks : List (Int × Int)) : List (List C) := ks.map fun p => [encP p, encI (v p)]
@[simp] theorem rowsP_pure (v : Int × Int → Int) (ks : List (Int × Int)) : (rowsP v ks).all purel = true := by simp [rowsP, purel, C.isPure]
@[simp] theorem rowsP_wil (K : List Nat) (v : Int × Int → Int) (ks : List (Int × Int)) : (rowsP v ks).all (wil K) = true := by simp [rowsP, wil, C.wi]

end Go.Proofs.YtbhbmnofmoibhaaGreat

namespace Go.Proofs.YtbhbmnofmoibhaaGreat
open Go Go.Abs

set_option maxHeartbeats 4000000

end Go.Proofs.YtbhbmnofmoibhaaGreat

namespace Go.Proofs.YtbhbmnofmoibhaaGreat
open Go Go.Abs

set_option maxHeartbeats 4000000

end Go.Proofs.YtbhbmnofmoibhaaGreat

namespace Go.Proofs.YtbhbmnofmoibhaaGreat
open Go Go.Abs

set_option maxHeartbeats 4000000

theorem fe93 : flatEq Tryz.prog 93 = some [.i64, .i64, .i64, .i64, .i64] := by kernel_rfl
theorem fe23 : flatEq Tryz.prog 23 = some [.i64, .i64] := by kernel_rfl

theorem same29 (a1 a2 b1 b2 : Bool) (A B : List Int) (hn : A.length ≤ 1000000) (hm : B.length ≤ 1000000) : Pure Tryz.prog 17 [.sl a1 a2 (A.map cI), .sl b1 b2 (B.map cI)] (.bool (decide (A = B))) := by
  refine pure_of (fn := Tryz.f17) [.tmp 4] ⟨Tryz.func17, rfl, by kernel_rfl⟩ (by kernel_rfl) (by kernel_rfl) (by kernel_rfl) fun x hx hσ => ?_
  (repeat refine awp_seq ?_); refine awp_reg1 (by rw [hx]; kernel_rfl) fun K hK => ?_; simp (maxSteps := 1000000) []; refine hK _ ?_; clear hK K; (first | show AWP _ _ _ _ _ | show ∃ _, _ | skip)
  by_cases hl : A.length = B.length
  · (repeat refine awp_seq ?_); refine awp_reg1 (by rw [hx]; kernel_rfl) fun K hK => ?_; simp (maxSteps := 1000000) [ty41, ty3, hl]; refine hK _ ?_; clear hK K; (first | show AWP _ _ _ _ _ | show ∃ _, _ | skip)
    (repeat refine awp_seq ?_); refine awp_cond (by simp [hl]; rfl) (by rw [hx]; simp) (fun hd => ?_) (fun hd => ?_)
    · simp at hd
    · clear hd
      refine awp_skip ?_; (first | show AWP _ _ _ _ _ | show ∃ _, _ | skip)
      (repeat refine awp_seq ?_); refine awp_reg1 (by rw [hx]; kernel_rfl) fun K hK => ?_; simp (maxSteps := 1000000) []; refine hK _ ?_; clear hK K; (first | show AWP _ _ _ _ _ | show ∃ _, _ | skip)
      (repeat refine awp_seq ?_); refine awp_block ?_
      refine awp_loop (fun i : Nat => ⟨ofL [(0, .sl a1 a2 (A.map cI)), (1, .sl b1 b2 (B.map cI)), (5, encI i)], stoT []⟩)
        (fun i => i ≤ A.length ∧ ∀ j (h1 : j < A.length) (h2 : j < B.length), j < i → A[j] = B[j]) (fun i => A.length - i) 0 ⟨Nat.zero_le _, fun j _ _ h => by omega⟩ ?_ ?_
      · refine wk_shape (shp0 hσ (by simp) (by simp) ?_) ?_
        · simp [SlotOk] <;> (repeat' (first | exact .same (by simp [purel, C.isPure]) | exact .cons (by simp [mtl, mtc, mT, mH, C.isPure, purel]) (by simp) .nil | refine And.intro ?_ ?_))
        · simp [mtc, mtl, mT, C.isPure, purel] <;> (try simp (disch := omega) [wrap_id]) <;> (try omega)
      · rintro i ⟨hi, hj⟩
        (repeat refine awp_seq ?_); refine awp_reg1 (by rw [hx]; kernel_rfl) fun K hK => ?_; simp (maxSteps := 1000000) [ty41, ty3]; refine hK _ ?_; clear hK K; (first | show AWP _ _ _ _ _ | show ∃ _, _ | skip)
        (repeat refine awp_seq ?_); refine awp_cond (by simp; rfl) (by rw [hx]; simp) (fun hc => ?_) (fun hc => ?_)
        · simp at hc
          have hcB : i < B.length := by omega
          refine awp_skip ?_; (first | show AWP _ _ _ _ _ | show ∃ _, _ | skip)
          (repeat refine awp_seq ?_); refine awp_block ?_
          (repeat refine awp_seq ?_); refine awp_drw3 [] [0, 1, 2, 3, 4, 5, 6, 7, 8] (by rw [hx]; kernel_rfl) (by kernel_rfl) (by kernel_rfl) (by kernel_rfl) fun K hK => ?_; simp (maxSteps := 1000000) [ty41, ty3, hc, hcB]; refine hK _ ?_; clear hK K; (first | show AWP _ _ _ _ _ | show ∃ _, _ | skip)
          by_cases hb : A[i] = B[i]
          · (repeat refine awp_seq ?_); refine awp_cond (by simp [hb]; rfl) (by rw [hx]; simp) (fun hd => ?_) (fun hd => ?_)
            · simp [hb] at hd
            · clear hd
              refine awp_skip ?_; (first | show AWP _ _ _ _ _ | show ∃ _, _ | skip)
              (repeat refine awp_seq ?_); refine awp_reg1 (by rw [hx]; kernel_rfl) fun K hK => ?_; simp (maxSteps := 1000000) [ty3]; refine hK _ ?_; clear hK K; (first | show AWP _ _ _ _ _ | show ∃ _, _ | skip)
              rw [wrap_id (by omega) (by omega)]
              refine ⟨i + 1, ⟨by omega, fun j h1 h2 h => ?_⟩, by omega, ?_⟩
              · by_cases e : j = i
                · subst e; exact hb
                · exact hj j h1 h2 (by omega)
              · refine wk_shape (shp0 hσ (by simp) (by simp) ?_) ?_
                · simp [SlotOk] <;> (repeat' (first | exact .same (by simp [purel, C.isPure]) | exact .cons (by simp [mtl, mtc, mT, mH, C.isPure, purel]) (by simp) .nil | refine And.intro ?_ ?_))
                · simp [mtc, mtl, mT, C.isPure, purel] <;> (try simp (disch := omega) [wrap_id]) <;> (try omega)
          · (repeat refine awp_seq ?_); refine awp_cond (by simp [hb]; rfl) (by rw [hx]; simp) (fun hd => ?_) (fun hd => ?_)
            · clear hd
              (repeat refine awp_seq ?_); refine awp_reg1 (by rw [hx]; kernel_rfl) fun K hK => ?_; simp (maxSteps := 1000000) []; refine hK _ ?_; clear hK K; (first | show AWP _ _ _ _ _ | show ∃ _, _ | skip)
              (repeat refine awp_seq ?_); refine awp_ret ?_; refine And.intro (Or.inr rfl) ?_
              have : decide (A = B) = false := by
                rw [decide_eq_false_iff_not]
                rintro rfl
                exact hb rfl
              rw [this]
              simp [retC, resC, viewC, mapO]
            · simp [hb] at hd
        · simp at hc
          (repeat refine awp_seq ?_); refine awp_exit ?_; (first | show AWP _ _ _ _ _ | show ∃ _, _ | skip)
          have : decide (A = B) = true := by
            rw [decide_eq_true_eq]
            exact List.ext_getElem hl fun j h1 h2 => hj j h1 h2 (by omega)
          rw [this]
          (repeat refine awp_seq ?_); refine awp_reg1 (by rw [hx]; kernel_rfl) fun K hK => ?_; simp (maxSteps := 1000000) []; refine hK _ ?_; clear hK K; (first | show AWP _ _ _ _ _ | show ∃ _, _ | skip)
          (repeat refine awp_seq ?_); refine awp_ret ?_; refine And.intro (Or.inr rfl) ?_
          simp [retC, resC, viewC, mapO]
  · have : decide (A = B) = false := by
      rw [decide_eq_false_iff_not]
      rintro rfl
      exact hl rfl
    rw [this]
    (repeat refine awp_seq ?_); refine awp_reg1 (by rw [hx]; kernel_rfl) fun K hK => ?_; simp (maxSteps := 1000000) [ty41, ty3, hl]; refine hK _ ?_; clear hK K; (first | show AWP _ _ _ _ _ | show ∃ _, _ | skip)
    (repeat refine awp_seq ?_); refine awp_cond (by simp [hl]; rfl) (by rw [hx]; simp) (fun hd => ?_) (fun hd => ?_)
    · clear hd
      (repeat refine awp_seq ?_); refine awp_reg1 (by rw [hx]; kernel_rfl) fun K hK => ?_; simp (maxSteps := 1000000) []; refine hK _ ?_; clear hK K; (first | show AWP _ _ _ _ _ | show ∃ _, _ | skip)
      (repeat refine awp_seq ?_); refine awp_ret ?_; refine And.intro (Or.inr rfl) ?_
      simp [retC, resC, viewC, mapO]
    · simp at hd
      exact absurd (by omega) hl

theorem eqI5 (x : Wl) : eqInts [.i64, .i64, .i64, .i64, .i64] (cWl x) (cWl x) = some true := by simp [eqInts]

end Go.Proofs.YtbhbmnofmoibhaaGreat

namespace Go.Proofs.YtbhbmnofmoibhaaGreat
open Go Go.Abs

set_option maxHeartbeats 4000000

def wX : Wh := ⟨100, 0, 0, 2, 0, 40, 60, 0⟩
def yA : Wl := ⟨1, 1, 0, 10, 62⟩
def yB : Wl := ⟨1, -1, 0, 62, 16⟩

theorem example48 : Pure Tryz.prog 81 [] (.tup [encWh wX, sWl false true [yA, yB]]) := by
  refine pure_of (fn := Tryz.f81) [.cell 0 25, .tmp 1] ⟨Tryz.func81, rfl, by kernel_rfl⟩ (by kernel_rfl) (by kernel_rfl) (by kernel_rfl) fun x hx hσ => ?_
  (repeat refine awp_seq ?_); refine awp_reg1 (by rw [hx]; kernel_rfl) fun K hK => ?_; simp (maxSteps := 1000000) [ty25]; refine hK _ ?_; clear hK K; (first | show AWP _ _ _ _ _ | show ∃ _, _ | skip)
  (repeat refine awp_seq ?_); refine awp_reg1 (by rw [hx]; kernel_rfl) fun K hK => ?_; simp (maxSteps := 1000000) [ty25, ty23, ty93, ty62]; refine hK _ ?_; clear hK K; (first | show AWP _ _ _ _ _ | show ∃ _, _ | skip)
  (repeat refine awp_seq ?_); refine awp_ret ?_; refine And.intro (Or.inr rfl) ?_
  simp [retC, resC, viewC, mapO, ty25, wX, yA, yB]

end Go.Proofs.YtbhbmnofmoibhaaGreat

namespace Go.Proofs.YtbhbmnofmoibhaaGreat
open Go Go.Abs

set_option maxHeartbeats 8000000

-- what the laws use: the example, what is far, what is the same

def tX : Ti := ⟨wX, 20, false, true, [⟨1000, false, true, [⟨1, 1, 0, 10, 12⟩]⟩, ⟨1000, false, true, [⟨1, -1, 0, 0, 4⟩]⟩, ⟨2000, false, true, [⟨-1, 1, 0, 50, 43⟩]⟩]⟩

theorem example45 : Pure Tryz.prog 45 [] (encTi tX) := by
  have h := example48
  simp only [encWh, cWh, sWl, cWl, wX, yA, yB, List.map_cons, List.map_nil] at h
  refine pure_of (fn := Tryz.f45) [.cell 0 28] ⟨Tryz.func45, rfl, by kernel_rfl⟩ (by kernel_rfl) (by kernel_rfl) (by kernel_rfl) fun x hx hσ => ?_
  (repeat refine awp_seq ?_); refine awp_reg1 (by rw [hx]; kernel_rfl) fun K hK => ?_; simp (maxSteps := 1000000) [ty28]; refine hK _ ?_; clear hK K; (first | show AWP _ _ _ _ _ | show ∃ _, _ | skip)
  (repeat refine awp_seq ?_); refine awp_reg1 (by rw [hx]; kernel_rfl) fun K hK => ?_; simp (maxSteps := 1000000) [ty25]
  refine callP (h) (by first | (simp; done) | (simp [*]; done)) ?_; simp (maxSteps := 1000000) [ty25, ty62]
  refine hK _ ?_; clear hK K; (first | show AWP _ _ _ _ _ | show ∃ _, _ | skip)
  (repeat refine awp_seq ?_); refine awp_reg1 (by rw [hx]; kernel_rfl) fun K hK => ?_; simp (maxSteps := 1000000) [ty25, ty93, ty62, ty64, ty26, ty28]; refine hK _ ?_; clear hK K; (first | show AWP _ _ _ _ _ | show ∃ _, _ | skip)
  (repeat refine awp_seq ?_); refine awp_ret ?_; refine And.intro (Or.inr rfl) ?_
  simp [retC, resC, viewC, mapO, ty28, tX, wX]

theorem tX_len : TiLen tX := ⟨by decide, by decide⟩
theorem tX_open : openT tX true = 0 := by decide +kernel
theorem tX_gains : numsT Tr.area tX true = [3] := by decide +kernel
def cX : Cl := ⟨1000, 4⟩
theorem tX_class : openT tX (classB cX) = 0 := by decide +kernel
theorem tX_cert : certT tX cX = 1 := by decide +kernel
theorem tX_dec : decE tX cX = 0 := by decide +kernel
theorem tX_few : fewestT tX cX = 2 := by decide +kernel
theorem tX_realE : realE tX 2006 = 0 := by decide +kernel

theorem fixTo_one {q : Nat → Bool} {m : Nat} (h : ∀ i, q i = true ↔ i = m) : ∀ n, fixTo q n = if m < n then [(m : Int)] else []
  | 0 => by simp
  | n + 1 => by
    have ih := fixTo_one h n
    simp only [fixTo, ih]
    by_cases hq : q n = true
    · have := (h n).1 hq
      subst this
      rw [if_pos hq, if_neg (by omega), if_pos (by omega)]
      rfl
    · have hne : n ≠ m := fun e => hq ((h n).2 e)
      rw [if_neg hq]
      by_cases hm : m < n
      · rw [if_pos hm, if_pos (by omega)]
      · rw [if_neg hm, if_neg (by omega)]

theorem tX_real : realL tX 2006 = [2000] := by
  unfold realL
  rw [if_pos tX_realE, tX_gains, fixTo_one (m := 2000)]
  · rfl
  · intro i
    simp only [List.any_cons, List.any_nil, Bool.or_false, beq_iff_eq, seenA]
    omega

theorem works9 : Pure Tryz.prog 9 [] (.bool true) := by
  have h45 := example45
  have hG := gains22 tX tX_len
  rw [tX_open, tX_gains] at hG
  have hC := certify11 tX cX tX_len
  rw [tX_class, tX_cert] at hC
  have hF := fewest38 tX cX tX_len
  rw [tX_dec, tX_few] at hF
  have hR := real15 tX 2006 tX_len
  rw [tX_realE, tX_real] at hR
  have s1 := same29 false false false true [3] [3] (by decide) (by decide)
  have s2 := same29 false false false true [2000] [2000] (by decide) (by decide)
  simp only [decide_true] at s1 s2
  have e0 : ((0 : Int) != 0) = false := by decide
  simp only [slI, List.map_cons, List.map_nil, List.isEmpty_cons, cI, e0] at hG hR s1 s2
  simp only [cX] at hC hF
  generalize tX = t at *
  refine pure_of (fn := Tryz.f9) [.tmp 0] ⟨Tryz.func9, rfl, by kernel_rfl⟩ (by kernel_rfl) (by kernel_rfl) (by kernel_rfl) fun x hx hσ => ?_
  (repeat refine awp_seq ?_); refine awp_reg1 (by rw [hx]; kernel_rfl) fun K hK => ?_; simp (maxSteps := 1000000) []; refine hK _ ?_; clear hK K; (first | show AWP _ _ _ _ _ | show ∃ _, _ | skip)
  (repeat refine awp_seq ?_); refine awp_reg1 (by rw [hx]; kernel_rfl) fun K hK => ?_; simp (maxSteps := 1000000) [ty28]
  refine callP (h45) (by first | (simp; done) | (simp [*]; done)) ?_; simp (maxSteps := 1000000) [ty28]
  refine hK _ ?_; clear hK K; (first | show AWP _ _ _ _ _ | show ∃ _, _ | skip)
  (repeat refine awp_seq ?_); refine awp_reg1 (by rw [hx]; kernel_rfl) fun K hK => ?_; simp (maxSteps := 1000000) [ty28]
  refine callP (hG) (by first | (simp; done) | (simp [*]; done)) ?_; simp (maxSteps := 1000000) [ty41]
  refine hK _ ?_; clear hK K; (first | show AWP _ _ _ _ _ | show ∃ _, _ | skip)
  (repeat refine awp_seq ?_); refine awp_reg1 (by rw [hx]; kernel_rfl) fun K hK => ?_; simp (maxSteps := 1000000) [ty28, ty30]
  refine callP (hC) (by first | (simp; done) | (simp [*]; done)) ?_; simp (maxSteps := 1000000) []
  refine hK _ ?_; clear hK K; (first | show AWP _ _ _ _ _ | show ∃ _, _ | skip)
  (repeat refine awp_seq ?_); refine awp_reg1 (by rw [hx]; kernel_rfl) fun K hK => ?_; simp (maxSteps := 1000000) [ty28, ty30]
  refine callP (hF) (by first | (simp; done) | (simp [*]; done)) ?_; simp (maxSteps := 1000000) []
  refine hK _ ?_; clear hK K; (first | show AWP _ _ _ _ _ | show ∃ _, _ | skip)
  (repeat refine awp_seq ?_); refine awp_reg1 (by rw [hx]; kernel_rfl) fun K hK => ?_; simp (maxSteps := 1000000) [ty28]
  refine callP (hR) (by first | (simp; done) | (simp [*]; done)) ?_; simp (maxSteps := 1000000) [ty41]
  refine hK _ ?_; clear hK K; (first | show AWP _ _ _ _ _ | show ∃ _, _ | skip)
  (repeat refine awp_seq ?_); refine awp_reg1 (by rw [hx]; kernel_rfl) fun K hK => ?_; simp (maxSteps := 1000000) [ty36, ty41, ty3, ty4]
  refine callP (s1) (by first | (simp; done) | (simp [*]; done)) ?_; simp (maxSteps := 1000000) [ty36, ty41, ty3, ty4]
  refine callP (s2) (by first | (simp; done) | (simp [*]; done)) ?_; simp (maxSteps := 1000000) [ty36, ty41, ty3, ty4]
  refine hK _ ?_; clear hK K; (first | show AWP _ _ _ _ _ | show ∃ _, _ | skip)
  (repeat refine awp_seq ?_); refine awp_ret ?_; refine And.intro (Or.inr rfl) ?_
  simp [retC, resC, viewC, mapO]

end Go.Proofs.YtbhbmnofmoibhaaGreat

namespace Go.Proofs.YtbhbmnofmoibhaaGreat
open Go Go.Abs

set_option maxHeartbeats 8000000

theorem fe25 : flatEq Tryz.prog 25 = none := by kernel_rfl
theorem de25 : deepEq Tryz.prog 25 = some [.i64, .i64, .i64, .i64, .i64, .i64, .i64, .i64] := by kernel_rfl

theorem least_ex {p : Nat → Prop} (h : ∃ n, p n) : ∃ n, p n ∧ ∀ m, m < n → ¬ p m := by
  obtain ⟨n, hn⟩ := h
  induction n using Nat.strongRecOn with
  | ind n ih =>
    by_cases g : ∃ m, m < n ∧ p m
    · obtain ⟨m, hm, hp⟩ := g
      exact ih m hm hp
    · exact ⟨n, hn, fun m hm hp => g ⟨m, hm, hp⟩⟩

def mxTo (l : List Ts) : Nat → Int
  | 0 => 0
  | i + 1 => let m := mxTo l i; let n : Int := match l[i]? with | some y => y.l.length | none => 0; if m < n then n else m

theorem mxTo_step {l : List Ts} {i : Nat} (hi : i < l.length) : mxTo l (i + 1) = if mxTo l i < (l[i].l.length : Int) then (l[i].l.length : Int) else mxTo l i := by
  simp only [mxTo, List.getElem?_eq_getElem hi]
theorem mxTo_bd {l : List Ts} (h : ∀ j (hj : j < l.length), l[j].l.length ≤ 20) : ∀ i, 0 ≤ mxTo l i ∧ mxTo l i ≤ 20
  | 0 => by simp [mxTo]
  | i + 1 => by
    have ih := mxTo_bd h i
    by_cases hi : i < l.length
    · have := h i hi
      rw [mxTo_step hi]
      split <;> omega
    · simp only [mxTo, List.getElem?_eq_none (by omega : l.length ≤ i)]
      split <;> omega


/-- What is far enough. -/
def NearT (t : Ti) : Prop := t.ts.length ≤ 20 ∧ ∀ y ∈ t.ts, y.l.length ≤ 20

theorem far8 (t : Ti) : ∃ b, Pure Tryz.prog 8 [encTi t] (.bool b) ∧ (b = false → NearT t) := by
  by_cases h20 : (20 : Int) < t.ts.length
  · refine ⟨true, ?_, by simp⟩
    refine pure_of (fn := Tryz.f8) [.tmp 2] ⟨Tryz.func8, rfl, by kernel_rfl⟩ (by kernel_rfl) (by kernel_rfl) (by kernel_rfl) fun x hx hσ => ?_
    (repeat refine awp_seq ?_); refine awp_reg1 (by rw [hx]; kernel_rfl) fun K hK => ?_; simp (maxSteps := 1000000) [ty28]; refine hK _ ?_; clear hK K; (first | show AWP _ _ _ _ _ | show ∃ _, _ | skip)
    (repeat refine awp_seq ?_); refine awp_reg1 (by rw [hx]; kernel_rfl) fun K hK => ?_; simp (maxSteps := 1000000) [ty28, ty26, ty3, h20]; refine hK _ ?_; clear hK K; (first | show AWP _ _ _ _ _ | show ∃ _, _ | skip)
    (repeat refine awp_seq ?_); refine awp_cond (by simp [h20]; rfl) (by rw [hx]; simp) (fun hd => ?_) (fun hd => ?_)
    · clear hd
      (repeat refine awp_seq ?_); refine awp_reg1 (by rw [hx]; kernel_rfl) fun K hK => ?_; simp (maxSteps := 1000000) []; refine hK _ ?_; clear hK K; (first | show AWP _ _ _ _ _ | show ∃ _, _ | skip)
      (repeat refine awp_seq ?_); refine awp_ret ?_; refine And.intro (Or.inr rfl) ?_
      simp [retC, resC, viewC, mapO]
    · simp at hd
  · by_cases hall : ∀ j (hj : j < t.ts.length), t.ts[j].l.length ≤ 20
    · have hl : TiLen t := ⟨by omega, fun y hy => by
        obtain ⟨j, hj, rfl⟩ := List.getElem_of_mem hy
        have := hall j hj; omega⟩
      have hnear : NearT t := ⟨by omega, fun y hy => by
        obtain ⟨j, hj, rfl⟩ := List.getElem_of_mem hy
        exact hall j hj⟩
      have hmb := mxTo_bd hall
      obtain ⟨M, hM⟩ : ∃ M, (if (if t.w.read < t.w.slip then t.w.slip else t.w.read) < t.w.skew then t.w.skew else if t.w.read < t.w.slip then t.w.slip else t.w.read) = M := ⟨_, rfl⟩
      by_cases hz : checkT t = 0
      · refine ⟨decide (2 < M) || decide (120 < t.w.full) || decide (6 < t.gain) || decide (4 < (t.ts.length : Int)) || decide (2 < mxTo t.ts t.ts.length), ?_, fun _ => hnear⟩
        refine pure_of (fn := Tryz.f8) [.tmp 2] ⟨Tryz.func8, rfl, by kernel_rfl⟩ (by kernel_rfl) (by kernel_rfl) (by kernel_rfl) fun x hx hσ => ?_
        (repeat refine awp_seq ?_); refine awp_reg1 (by rw [hx]; kernel_rfl) fun K hK => ?_; simp (maxSteps := 1000000) [ty28]; refine hK _ ?_; clear hK K; (first | show AWP _ _ _ _ _ | show ∃ _, _ | skip)
        (repeat refine awp_seq ?_); refine awp_reg1 (by rw [hx]; kernel_rfl) fun K hK => ?_; simp (maxSteps := 1000000) [ty28, ty26, ty3, h20]; refine hK _ ?_; clear hK K; (first | show AWP _ _ _ _ _ | show ∃ _, _ | skip)
        (repeat refine awp_seq ?_); refine awp_cond (by simp [h20]; rfl) (by rw [hx]; simp) (fun hd => ?_) (fun hd => ?_)
        · simp at hd
        · clear hd
          refine awp_skip ?_; (first | show AWP _ _ _ _ _ | show ∃ _, _ | skip)
          (repeat refine awp_seq ?_); refine awp_reg1 (by rw [hx]; kernel_rfl) fun K hK => ?_; simp (maxSteps := 1000000) []; refine hK _ ?_; clear hK K; (first | show AWP _ _ _ _ _ | show ∃ _, _ | skip)
          (repeat refine awp_seq ?_); refine awp_reg1 (by rw [hx]; kernel_rfl) fun K hK => ?_; simp (maxSteps := 1000000) []; refine hK _ ?_; clear hK K; (first | show AWP _ _ _ _ _ | show ∃ _, _ | skip)
          (repeat refine awp_seq ?_); refine awp_block ?_
          refine awp_loop (fun i : Nat => ⟨ofL [(1, .ptr 1 10 0 0), (3, encI (mxTo t.ts i)), (4, encI i)], stoT [(1, 1, .live (obTi t))]⟩)
            (fun i => i ≤ t.ts.length) (fun i => t.ts.length - i) 0 (Nat.zero_le _) ?_ ?_
          · refine wk_shape (shp0 hσ (by simp) (by simp) ?_) ?_
            · simp [SlotOk, mxTo] <;> (repeat' (first | (refine RowsOk.same ?_; simp [purel, C.isPure]; done) | (refine rowsCons ?_; simp [mtl, mtc, mT, mH, C.isPure, purel]; done) | (refine rowsCons ?_; simp [mtl, mtc, mT, mH, C.isPure, purel]) | refine And.intro ?_ ?_))
            · simp [mtc, mtl, mT, C.isPure, purel, mxTo] <;> (try simp (disch := omega) [wrap_id]) <;> (try omega)
          · intro i hi
            (repeat refine awp_seq ?_); refine awp_reg1 (by rw [hx]; kernel_rfl) fun K hK => ?_; simp (maxSteps := 1000000) [ty28, ty26, ty3]; refine hK _ ?_; clear hK K; (first | show AWP _ _ _ _ _ | show ∃ _, _ | skip)
            (repeat refine awp_seq ?_); refine awp_cond (by simp; rfl) (by rw [hx]; simp) (fun hc => ?_) (fun hc => ?_)
            · simp at hc
              refine awp_skip ?_; (first | show AWP _ _ _ _ _ | show ∃ _, _ | skip)
              (repeat refine awp_seq ?_); refine awp_block ?_
              have hst := mxTo_step hc
              have hx20 : ¬ (20 : Int) < (t.ts[i].l.length : Int) := by have := hall i hc; omega
              have hwi : IntKind.i64.wrap ((i : Int) + 1) = ((i + 1 : Nat) : Int) := by rw [wrap_id (by omega) (by omega)]; rfl
              (repeat refine awp_seq ?_); refine awp_reg1 (by rw [hx]; kernel_rfl) fun K hK => ?_; simp (maxSteps := 1000000) [ty28, ty26, ty64, ty62, ty3, hc, hx20]; refine hK _ ?_; clear hK K; (first | show AWP _ _ _ _ _ | show ∃ _, _ | skip)
              (repeat refine awp_seq ?_); refine awp_cond (by simp [hx20]; rfl) (by rw [hx]; simp) (fun hd => ?_) (fun hd => ?_)
              · simp [hx20] at hd
              · clear hd
                refine awp_skip ?_; (first | show AWP _ _ _ _ _ | show ∃ _, _ | skip)
                (repeat refine awp_seq ?_); refine awp_reg1 (by rw [hx]; kernel_rfl) fun K hK => ?_; simp (maxSteps := 1000000) [ty28, ty26, ty64, ty62, ty3, hc]; refine hK _ ?_; clear hK K; (first | show AWP _ _ _ _ _ | show ∃ _, _ | skip)
                (repeat refine awp_seq ?_); refine awp_reg1 (by rw [hx]; kernel_rfl) fun K hK => ?_; simp (maxSteps := 1000000) [ty3]; refine hK _ ?_; clear hK K; (first | show AWP _ _ _ _ _ | show ∃ _, _ | skip)
                refine ⟨i + 1, by omega, by omega, ?_⟩
                rw [hst, hwi]
                refine wk_shape (shp0 hσ (by simp) (by simp) ?_) ?_
                · simp [SlotOk] <;> (repeat' (first | (refine RowsOk.same ?_; simp [purel, C.isPure]; done) | (refine rowsCons ?_; simp [mtl, mtc, mT, mH, C.isPure, purel]; done) | (refine rowsCons ?_; simp [mtl, mtc, mT, mH, C.isPure, purel]) | refine And.intro ?_ ?_))
                · simp [mtc, mtl, mT, C.isPure, purel] <;> (try simp (disch := omega) [wrap_id]) <;> (try omega)
            · simp at hc
              (repeat refine awp_seq ?_); refine awp_exit ?_; (first | show AWP _ _ _ _ _ | show ∃ _, _ | skip)
              have hin : i = t.ts.length := by omega
              rw [hin]
              generalize mxTo t.ts t.ts.length = X at *
              by_cases h1 : 2 < M
              · (repeat refine awp_seq ?_); refine awp_reg1 (by rw [hx]; kernel_rfl) fun K hK => ?_; simp (maxSteps := 1000000) [ty28]
                refine callP (q_check30 t hl) (by first | (simp; done) | (simp [*]; done)) ?_; simp (maxSteps := 1000000) [ty36, hz, ty3, ty28, ty25, ty26, hM, h1]
                refine hK _ ?_; clear hK K; (first | show AWP _ _ _ _ _ | show ∃ _, _ | skip)
                (repeat refine awp_seq ?_); refine awp_ret ?_; refine And.intro (Or.inr rfl) ?_
                simp [retC, resC, viewC, mapO, h1]
              · by_cases h2 : 120 < t.w.full
                · (repeat refine awp_seq ?_); refine awp_reg1 (by rw [hx]; kernel_rfl) fun K hK => ?_; simp (maxSteps := 1000000) [ty28]
                  refine callP (q_check30 t hl) (by first | (simp; done) | (simp [*]; done)) ?_; simp (maxSteps := 1000000) [ty36, hz, ty3, ty28, ty25, ty26, hM, h1, h2]
                  refine hK _ ?_; clear hK K; (first | show AWP _ _ _ _ _ | show ∃ _, _ | skip)
                  (repeat refine awp_seq ?_); refine awp_ret ?_; refine And.intro (Or.inr rfl) ?_
                  simp [retC, resC, viewC, mapO, h1, h2]
                · by_cases h3 : 6 < t.gain
                  · (repeat refine awp_seq ?_); refine awp_reg1 (by rw [hx]; kernel_rfl) fun K hK => ?_; simp (maxSteps := 1000000) [ty28]
                    refine callP (q_check30 t hl) (by first | (simp; done) | (simp [*]; done)) ?_; simp (maxSteps := 1000000) [ty36, hz, ty3, ty28, ty25, ty26, hM, h1, h2, h3]
                    refine hK _ ?_; clear hK K; (first | show AWP _ _ _ _ _ | show ∃ _, _ | skip)
                    (repeat refine awp_seq ?_); refine awp_ret ?_; refine And.intro (Or.inr rfl) ?_
                    simp [retC, resC, viewC, mapO, h1, h2, h3]
                  · by_cases h4 : (4 : Int) < (t.ts.length : Int)
                    · (repeat refine awp_seq ?_); refine awp_reg1 (by rw [hx]; kernel_rfl) fun K hK => ?_; simp (maxSteps := 1000000) [ty28]
                      refine callP (q_check30 t hl) (by first | (simp; done) | (simp [*]; done)) ?_; simp (maxSteps := 1000000) [ty36, hz, ty3, ty28, ty25, ty26, hM, h1, h2, h3, h4]
                      refine hK _ ?_; clear hK K; (first | show AWP _ _ _ _ _ | show ∃ _, _ | skip)
                      (repeat refine awp_seq ?_); refine awp_ret ?_; refine And.intro (Or.inr rfl) ?_
                      simp [retC, resC, viewC, mapO, h1, h2, h3, h4]
                    · by_cases h5 : 2 < X
                      · (repeat refine awp_seq ?_); refine awp_reg1 (by rw [hx]; kernel_rfl) fun K hK => ?_; simp (maxSteps := 1000000) [ty28]
                        refine callP (q_check30 t hl) (by first | (simp; done) | (simp [*]; done)) ?_; simp (maxSteps := 1000000) [ty36, hz, ty3, ty28, ty25, ty26, hM, h1, h2, h3, h4, h5]
                        refine hK _ ?_; clear hK K; (first | show AWP _ _ _ _ _ | show ∃ _, _ | skip)
                        (repeat refine awp_seq ?_); refine awp_ret ?_; refine And.intro (Or.inr rfl) ?_
                        simp [retC, resC, viewC, mapO, h1, h2, h3, h4, h5]
                      · (repeat refine awp_seq ?_); refine awp_reg1 (by rw [hx]; kernel_rfl) fun K hK => ?_; simp (maxSteps := 1000000) [ty28]
                        refine callP (q_check30 t hl) (by first | (simp; done) | (simp [*]; done)) ?_; simp (maxSteps := 1000000) [ty36, hz, ty3, ty28, ty25, ty26, hM, h1, h2, h3, h4, h5]
                        refine hK _ ?_; clear hK K; (first | show AWP _ _ _ _ _ | show ∃ _, _ | skip)
                        (repeat refine awp_seq ?_); refine awp_ret ?_; refine And.intro (Or.inr rfl) ?_
                        simp [retC, resC, viewC, mapO, h1, h2, h3, h4, h5]
      · refine ⟨false, ?_, fun _ => hnear⟩
        have hz' : (checkT t == 0) = false := by simpa using hz
        refine pure_of (fn := Tryz.f8) [.tmp 2] ⟨Tryz.func8, rfl, by kernel_rfl⟩ (by kernel_rfl) (by kernel_rfl) (by kernel_rfl) fun x hx hσ => ?_
        (repeat refine awp_seq ?_); refine awp_reg1 (by rw [hx]; kernel_rfl) fun K hK => ?_; simp (maxSteps := 1000000) [ty28]; refine hK _ ?_; clear hK K; (first | show AWP _ _ _ _ _ | show ∃ _, _ | skip)
        (repeat refine awp_seq ?_); refine awp_reg1 (by rw [hx]; kernel_rfl) fun K hK => ?_; simp (maxSteps := 1000000) [ty28, ty26, ty3, h20]; refine hK _ ?_; clear hK K; (first | show AWP _ _ _ _ _ | show ∃ _, _ | skip)
        (repeat refine awp_seq ?_); refine awp_cond (by simp [h20]; rfl) (by rw [hx]; simp) (fun hd => ?_) (fun hd => ?_)
        · simp at hd
        · clear hd
          refine awp_skip ?_; (first | show AWP _ _ _ _ _ | show ∃ _, _ | skip)
          (repeat refine awp_seq ?_); refine awp_reg1 (by rw [hx]; kernel_rfl) fun K hK => ?_; simp (maxSteps := 1000000) []; refine hK _ ?_; clear hK K; (first | show AWP _ _ _ _ _ | show ∃ _, _ | skip)
          (repeat refine awp_seq ?_); refine awp_reg1 (by rw [hx]; kernel_rfl) fun K hK => ?_; simp (maxSteps := 1000000) []; refine hK _ ?_; clear hK K; (first | show AWP _ _ _ _ _ | show ∃ _, _ | skip)
          (repeat refine awp_seq ?_); refine awp_block ?_
          refine awp_loop (fun i : Nat => ⟨ofL [(1, .ptr 1 10 0 0), (3, encI (mxTo t.ts i)), (4, encI i)], stoT [(1, 1, .live (obTi t))]⟩)
            (fun i => i ≤ t.ts.length) (fun i => t.ts.length - i) 0 (Nat.zero_le _) ?_ ?_
          · refine wk_shape (shp0 hσ (by simp) (by simp) ?_) ?_
            · simp [SlotOk, mxTo] <;> (repeat' (first | (refine RowsOk.same ?_; simp [purel, C.isPure]; done) | (refine rowsCons ?_; simp [mtl, mtc, mT, mH, C.isPure, purel]; done) | (refine rowsCons ?_; simp [mtl, mtc, mT, mH, C.isPure, purel]) | refine And.intro ?_ ?_))
            · simp [mtc, mtl, mT, C.isPure, purel, mxTo] <;> (try simp (disch := omega) [wrap_id]) <;> (try omega)
          · intro i hi
            (repeat refine awp_seq ?_); refine awp_reg1 (by rw [hx]; kernel_rfl) fun K hK => ?_; simp (maxSteps := 1000000) [ty28, ty26, ty3]; refine hK _ ?_; clear hK K; (first | show AWP _ _ _ _ _ | show ∃ _, _ | skip)
            (repeat refine awp_seq ?_); refine awp_cond (by simp; rfl) (by rw [hx]; simp) (fun hc => ?_) (fun hc => ?_)
            · simp at hc
              refine awp_skip ?_; (first | show AWP _ _ _ _ _ | show ∃ _, _ | skip)
              (repeat refine awp_seq ?_); refine awp_block ?_
              have hst := mxTo_step hc
              have hx20 : ¬ (20 : Int) < (t.ts[i].l.length : Int) := by have := hall i hc; omega
              have hwi : IntKind.i64.wrap ((i : Int) + 1) = ((i + 1 : Nat) : Int) := by rw [wrap_id (by omega) (by omega)]; rfl
              (repeat refine awp_seq ?_); refine awp_reg1 (by rw [hx]; kernel_rfl) fun K hK => ?_; simp (maxSteps := 1000000) [ty28, ty26, ty64, ty62, ty3, hc, hx20]; refine hK _ ?_; clear hK K; (first | show AWP _ _ _ _ _ | show ∃ _, _ | skip)
              (repeat refine awp_seq ?_); refine awp_cond (by simp [hx20]; rfl) (by rw [hx]; simp) (fun hd => ?_) (fun hd => ?_)
              · simp [hx20] at hd
              · clear hd
                refine awp_skip ?_; (first | show AWP _ _ _ _ _ | show ∃ _, _ | skip)
                (repeat refine awp_seq ?_); refine awp_reg1 (by rw [hx]; kernel_rfl) fun K hK => ?_; simp (maxSteps := 1000000) [ty28, ty26, ty64, ty62, ty3, hc]; refine hK _ ?_; clear hK K; (first | show AWP _ _ _ _ _ | show ∃ _, _ | skip)
                (repeat refine awp_seq ?_); refine awp_reg1 (by rw [hx]; kernel_rfl) fun K hK => ?_; simp (maxSteps := 1000000) [ty3]; refine hK _ ?_; clear hK K; (first | show AWP _ _ _ _ _ | show ∃ _, _ | skip)
                refine ⟨i + 1, by omega, by omega, ?_⟩
                rw [hst, hwi]
                refine wk_shape (shp0 hσ (by simp) (by simp) ?_) ?_
                · simp [SlotOk] <;> (repeat' (first | (refine RowsOk.same ?_; simp [purel, C.isPure]; done) | (refine rowsCons ?_; simp [mtl, mtc, mT, mH, C.isPure, purel]; done) | (refine rowsCons ?_; simp [mtl, mtc, mT, mH, C.isPure, purel]) | refine And.intro ?_ ?_))
                · simp [mtc, mtl, mT, C.isPure, purel] <;> (try simp (disch := omega) [wrap_id]) <;> (try omega)
            · simp at hc
              (repeat refine awp_seq ?_); refine awp_exit ?_; (first | show AWP _ _ _ _ _ | show ∃ _, _ | skip)
              (repeat refine awp_seq ?_); refine awp_reg1 (by rw [hx]; kernel_rfl) fun K hK => ?_; simp (maxSteps := 1000000) [ty28]
              refine callP (q_check30 t hl) (by first | (simp; done) | (simp [*]; done)) ?_; simp (maxSteps := 1000000) [ty36, hz', ty3, ty28]
              refine hK _ ?_; clear hK K; (first | show AWP _ _ _ _ _ | show ∃ _, _ | skip)
              (repeat refine awp_seq ?_); refine awp_ret ?_; refine And.intro (Or.inr rfl) ?_
              simp [retC, resC, viewC, mapO]
    · refine ⟨true, ?_, by simp⟩
      obtain ⟨J, hJ, hJl, hJm⟩ : ∃ J, ∃ hJ : J < t.ts.length, 20 < t.ts[J].l.length ∧ ∀ j (hj : j < t.ts.length), j < J → t.ts[j].l.length ≤ 20 := by
        have hex : ∃ J, ∃ hJ : J < t.ts.length, 20 < t.ts[J].l.length := by
          refine Classical.byContradiction fun h => hall fun j hj => ?_
          exact Classical.byContradiction fun g => h ⟨j, hj, by omega⟩
        obtain ⟨J, ⟨hJ, hJ20⟩, hmin⟩ := least_ex hex
        refine ⟨J, hJ, hJ20, fun j hj hlt => ?_⟩
        exact Classical.byContradiction fun g => hmin j hlt ⟨hj, by omega⟩
      refine pure_of (fn := Tryz.f8) [.tmp 2] ⟨Tryz.func8, rfl, by kernel_rfl⟩ (by kernel_rfl) (by kernel_rfl) (by kernel_rfl) fun x hx hσ => ?_
      (repeat refine awp_seq ?_); refine awp_reg1 (by rw [hx]; kernel_rfl) fun K hK => ?_; simp (maxSteps := 1000000) [ty28]; refine hK _ ?_; clear hK K; (first | show AWP _ _ _ _ _ | show ∃ _, _ | skip)
      (repeat refine awp_seq ?_); refine awp_reg1 (by rw [hx]; kernel_rfl) fun K hK => ?_; simp (maxSteps := 1000000) [ty28, ty26, ty3, h20]; refine hK _ ?_; clear hK K; (first | show AWP _ _ _ _ _ | show ∃ _, _ | skip)
      (repeat refine awp_seq ?_); refine awp_cond (by simp [h20]; rfl) (by rw [hx]; simp) (fun hd => ?_) (fun hd => ?_)
      · simp at hd
      · clear hd
        refine awp_skip ?_; (first | show AWP _ _ _ _ _ | show ∃ _, _ | skip)
        (repeat refine awp_seq ?_); refine awp_reg1 (by rw [hx]; kernel_rfl) fun K hK => ?_; simp (maxSteps := 1000000) []; refine hK _ ?_; clear hK K; (first | show AWP _ _ _ _ _ | show ∃ _, _ | skip)
        (repeat refine awp_seq ?_); refine awp_reg1 (by rw [hx]; kernel_rfl) fun K hK => ?_; simp (maxSteps := 1000000) []; refine hK _ ?_; clear hK K; (first | show AWP _ _ _ _ _ | show ∃ _, _ | skip)
        (repeat refine awp_seq ?_); refine awp_block ?_
        refine awp_loop (fun i : Nat => ⟨ofL [(1, .ptr 1 10 0 0), (3, encI (mxTo t.ts i)), (4, encI i)], stoT [(1, 1, .live (obTi t))]⟩)
          (fun i => i ≤ J) (fun i => J - i) 0 (Nat.zero_le _) ?_ ?_
        · refine wk_shape (shp0 hσ (by simp) (by simp) ?_) ?_
          · simp [SlotOk, mxTo] <;> (repeat' (first | (refine RowsOk.same ?_; simp [purel, C.isPure]; done) | (refine rowsCons ?_; simp [mtl, mtc, mT, mH, C.isPure, purel]; done) | (refine rowsCons ?_; simp [mtl, mtc, mT, mH, C.isPure, purel]) | refine And.intro ?_ ?_))
          · simp [mtc, mtl, mT, C.isPure, purel, mxTo] <;> (try simp (disch := omega) [wrap_id]) <;> (try omega)
        · intro i hi
          have hc : i < t.ts.length := by omega
          (repeat refine awp_seq ?_); refine awp_reg1 (by rw [hx]; kernel_rfl) fun K hK => ?_; simp (maxSteps := 1000000) [ty28, ty26, ty3, hc]; refine hK _ ?_; clear hK K; (first | show AWP _ _ _ _ _ | show ∃ _, _ | skip)
          (repeat refine awp_seq ?_); refine awp_cond (by simp; rfl) (by rw [hx]; simp) (fun hd => ?_) (fun hd => ?_)
          · refine awp_skip ?_; (first | show AWP _ _ _ _ _ | show ∃ _, _ | skip)
            (repeat refine awp_seq ?_); refine awp_block ?_
            by_cases hiJ : i = J
            · have hx20 : (20 : Int) < (t.ts[i].l.length : Int) := by subst hiJ; omega
              (repeat refine awp_seq ?_); refine awp_reg1 (by rw [hx]; kernel_rfl) fun K hK => ?_; simp (maxSteps := 1000000) [ty28, ty26, ty64, ty62, ty3, hc, hx20]; refine hK _ ?_; clear hK K; (first | show AWP _ _ _ _ _ | show ∃ _, _ | skip)
              (repeat refine awp_seq ?_); refine awp_cond (by simp [hx20]; rfl) (by rw [hx]; simp) (fun hd => ?_) (fun hd => ?_)
              · clear hd
                (repeat refine awp_seq ?_); refine awp_reg1 (by rw [hx]; kernel_rfl) fun K hK => ?_; simp (maxSteps := 1000000) []; refine hK _ ?_; clear hK K; (first | show AWP _ _ _ _ _ | show ∃ _, _ | skip)
                (repeat refine awp_seq ?_); refine awp_ret ?_; refine And.intro (Or.inr rfl) ?_
                simp [retC, resC, viewC, mapO]
              · simp [hx20] at hd
            · have hst := mxTo_step hc
              have hx20 : ¬ (20 : Int) < (t.ts[i].l.length : Int) := by have := hJm i hc (by omega); omega
              have hwi : IntKind.i64.wrap ((i : Int) + 1) = ((i + 1 : Nat) : Int) := by rw [wrap_id (by omega) (by omega)]; rfl
              (repeat refine awp_seq ?_); refine awp_reg1 (by rw [hx]; kernel_rfl) fun K hK => ?_; simp (maxSteps := 1000000) [ty28, ty26, ty64, ty62, ty3, hc, hx20]; refine hK _ ?_; clear hK K; (first | show AWP _ _ _ _ _ | show ∃ _, _ | skip)
              (repeat refine awp_seq ?_); refine awp_cond (by simp [hx20]; rfl) (by rw [hx]; simp) (fun hd => ?_) (fun hd => ?_)
              · simp [hx20] at hd
              · clear hd
                refine awp_skip ?_; (first | show AWP _ _ _ _ _ | show ∃ _, _ | skip)
                (repeat refine awp_seq ?_); refine awp_reg1 (by rw [hx]; kernel_rfl) fun K hK => ?_; simp (maxSteps := 1000000) [ty28, ty26, ty64, ty62, ty3, hc]; refine hK _ ?_; clear hK K; (first | show AWP _ _ _ _ _ | show ∃ _, _ | skip)
                (repeat refine awp_seq ?_); refine awp_reg1 (by rw [hx]; kernel_rfl) fun K hK => ?_; simp (maxSteps := 1000000) [ty3]; refine hK _ ?_; clear hK K; (first | show AWP _ _ _ _ _ | show ∃ _, _ | skip)
                refine ⟨i + 1, by omega, by omega, ?_⟩
                rw [hst, hwi]
                refine wk_shape (shp0 hσ (by simp) (by simp) ?_) ?_
                · simp [SlotOk] <;> (repeat' (first | (refine RowsOk.same ?_; simp [purel, C.isPure]; done) | (refine rowsCons ?_; simp [mtl, mtc, mT, mH, C.isPure, purel]; done) | (refine rowsCons ?_; simp [mtl, mtc, mT, mH, C.isPure, purel]) | refine And.intro ?_ ?_))
                · simp [mtc, mtl, mT, C.isPure, purel] <;> (try simp (disch := omega) [wrap_id]) <;> (try omega)
          · exact absurd hd (by simp [hc])

theorem NearT.len {t : Ti} (h : NearT t) : TiLen t := ⟨by have := h.1; omega, fun y hy => by have := h.2 y hy; omega⟩

theorem ready19 (t : Ti) : ∃ b, Pure Tryz.prog 19 [encTi t] (.bool b) ∧ (b = true → checkT t = 0 ∧ NearT t) := by
  obtain ⟨f, hF, hf⟩ := far8 t
  cases f
  · have hn := hf rfl
    by_cases hz : checkT t = 0
    · refine ⟨true, ?_, fun _ => ⟨hz, hn⟩⟩
      refine pure_of (fn := Tryz.f19) [.tmp 2] ⟨Tryz.func19, rfl, by kernel_rfl⟩ (by kernel_rfl) (by kernel_rfl) (by kernel_rfl) fun x hx hσ => ?_
      (repeat refine awp_seq ?_); refine awp_reg1 (by rw [hx]; kernel_rfl) fun K hK => ?_; simp (maxSteps := 1000000) [ty28]; refine hK _ ?_; clear hK K; (first | show AWP _ _ _ _ _ | show ∃ _, _ | skip)
      (repeat refine awp_seq ?_); refine awp_reg1 (by rw [hx]; kernel_rfl) fun K hK => ?_; simp (maxSteps := 1000000) [ty28]
      refine callP (hF) (by first | (simp; done) | (simp [*]; done)) ?_; simp (maxSteps := 1000000) [ty4, ty28]
      refine callP (q_check30 t hn.len) (by first | (simp; done) | (simp [*]; done)) ?_; simp (maxSteps := 1000000) [ty36, hz, ty4]
      refine hK _ ?_; clear hK K; (first | show AWP _ _ _ _ _ | show ∃ _, _ | skip)
      (repeat refine awp_seq ?_); refine awp_ret ?_; refine And.intro (Or.inr rfl) ?_
      simp [retC, resC, viewC, mapO]
    · refine ⟨false, ?_, by simp⟩
      have hz' : (checkT t == 0) = false := by simpa using hz
      refine pure_of (fn := Tryz.f19) [.tmp 2] ⟨Tryz.func19, rfl, by kernel_rfl⟩ (by kernel_rfl) (by kernel_rfl) (by kernel_rfl) fun x hx hσ => ?_
      (repeat refine awp_seq ?_); refine awp_reg1 (by rw [hx]; kernel_rfl) fun K hK => ?_; simp (maxSteps := 1000000) [ty28]; refine hK _ ?_; clear hK K; (first | show AWP _ _ _ _ _ | show ∃ _, _ | skip)
      (repeat refine awp_seq ?_); refine awp_reg1 (by rw [hx]; kernel_rfl) fun K hK => ?_; simp (maxSteps := 1000000) [ty28]
      refine callP (hF) (by first | (simp; done) | (simp [*]; done)) ?_; simp (maxSteps := 1000000) [ty4, ty28]
      refine callP (q_check30 t hn.len) (by first | (simp; done) | (simp [*]; done)) ?_; simp (maxSteps := 1000000) [ty36, ty4]
      refine hK _ ?_; clear hK K; (first | show AWP _ _ _ _ _ | show ∃ _, _ | skip)
      (repeat refine awp_seq ?_); refine awp_ret ?_; refine And.intro (Or.inr rfl) ?_
      simp [retC, resC, viewC, mapO, hz']
  · refine ⟨false, ?_, by simp⟩
    refine pure_of (fn := Tryz.f19) [.tmp 2] ⟨Tryz.func19, rfl, by kernel_rfl⟩ (by kernel_rfl) (by kernel_rfl) (by kernel_rfl) fun x hx hσ => ?_
    (repeat refine awp_seq ?_); refine awp_reg1 (by rw [hx]; kernel_rfl) fun K hK => ?_; simp (maxSteps := 1000000) [ty28]; refine hK _ ?_; clear hK K; (first | show AWP _ _ _ _ _ | show ∃ _, _ | skip)
    (repeat refine awp_seq ?_); refine awp_reg1 (by rw [hx]; kernel_rfl) fun K hK => ?_; simp (maxSteps := 1000000) [ty28]
    refine callP (hF) (by first | (simp; done) | (simp [*]; done)) ?_; simp (maxSteps := 1000000) [ty4, ty28]
    refine hK _ ?_; clear hK K; (first | show AWP _ _ _ _ _ | show ∃ _, _ | skip)
    (repeat refine awp_seq ?_); refine awp_ret ?_; refine And.intro (Or.inr rfl) ?_
    simp [retC, resC, viewC, mapO]

theorem cIs_same (w : Wh) : eqInts [.i64, .i64, .i64, .i64, .i64, .i64, .i64, .i64] [encI w.full, encI w.read, encI w.slip, encI w.skew, encI w.circle, encI w.glow, encI w.ghigh, encI w.wrong] [encI w.full, encI w.read, encI w.slip, encI w.skew, encI w.circle, encI w.glow, encI w.ghigh, encI w.wrong] = some true := by simp [eqInts]

theorem l_same18 (t : Ti) (hl : TiLen t) : Pure Tryz.prog 18 [encTi (copyT t), encTi t] (.bool true) := by
  have hlt := hl.ts
  obtain ⟨s, hs⟩ : ∃ s, s = copyT t := ⟨_, rfl⟩
  have hsw : s.w = t.w := by rw [hs]; rfl
  have hsg : s.gain = t.gain := by rw [hs]; rfl
  have hsl : s.ts.length = t.ts.length := by rw [hs]; simp [copyT]
  have hsy : ∀ i (h : i < t.ts.length), s.ts[i]'(by omega) = copyY t.ts[i] := fun i h => by subst hs; simp [copyT]
  rw [← hs]
  refine pure_of (fn := Tryz.f18) [.tmp 4] ⟨Tryz.func18, rfl, by kernel_rfl⟩ (by kernel_rfl) (by kernel_rfl) (by kernel_rfl) fun x hx hσ => ?_
  (repeat refine awp_seq ?_); refine awp_reg1 (by rw [hx]; kernel_rfl) fun K hK => ?_; simp (maxSteps := 1000000) [ty28]; refine hK _ ?_; clear hK K; (first | show AWP _ _ _ _ _ | show ∃ _, _ | skip)
  have he := cIs_same t.w
  simp only [encI] at he
  (repeat refine awp_seq ?_); refine awp_reg1 (by rw [hx]; kernel_rfl) fun K hK => ?_; simp (maxSteps := 1000000) [ty28, ty25, ty26, ty3, fe25, de25, hsw, hsg, hsl, he]; refine hK _ ?_; clear hK K; (first | show AWP _ _ _ _ _ | show ∃ _, _ | skip)
  (repeat refine awp_seq ?_); refine awp_cond (by simp; rfl) (by rw [hx]; simp) (fun hd => ?_) (fun hd => ?_)
  · simp at hd
  · clear hd
    refine awp_skip ?_; (first | show AWP _ _ _ _ _ | show ∃ _, _ | skip)
    (repeat refine awp_seq ?_); refine awp_reg1 (by rw [hx]; kernel_rfl) fun K hK => ?_; simp (maxSteps := 1000000) []; refine hK _ ?_; clear hK K; (first | show AWP _ _ _ _ _ | show ∃ _, _ | skip)
    (repeat refine awp_seq ?_); refine awp_block ?_
    refine awp_loop (fun i : Nat => ⟨ofL [(2, .ptr 2 10 0 0), (3, .ptr 3 10 0 0), (5, encI i)], stoT [(2, 2, .live (obTi s)), (3, 3, .live (obTi t))]⟩)
      (fun i => i ≤ t.ts.length) (fun i => t.ts.length - i) 0 (Nat.zero_le _) ?_ ?_
    · refine wk_shape (shp0 hσ (by simp) (by simp) ?_) ?_
      · simp [SlotOk, hsw, hsg] <;> (repeat' (first | (refine RowsOk.same ?_; simp [purel, C.isPure]; done) | (refine rowsCons ?_; simp [mtl, mtc, mT, mH, C.isPure, purel]; done) | (refine rowsCons ?_; simp [mtl, mtc, mT, mH, C.isPure, purel]) | refine And.intro ?_ ?_))
      · simp [mtc, mtl, mT, C.isPure, purel, hsw, hsg] <;> (try simp (disch := omega) [wrap_id]) <;> (try omega)
    · intro i hi
      (repeat refine awp_seq ?_); refine awp_reg1 (by rw [hx]; kernel_rfl) fun K hK => ?_; simp (maxSteps := 1000000) [ty28, ty26, ty3, hsl]; refine hK _ ?_; clear hK K; (first | show AWP _ _ _ _ _ | show ∃ _, _ | skip)
      (repeat refine awp_seq ?_); refine awp_cond (by simp; rfl) (by rw [hx]; simp) (fun hc => ?_) (fun hc => ?_)
      · simp at hc
        refine awp_skip ?_; (first | show AWP _ _ _ _ _ | show ∃ _, _ | skip)
        (repeat refine awp_seq ?_); refine awp_block ?_
        have hyi := hsy i hc
        have hci : i < s.ts.length := by omega
        have hln := hl.l _ (List.getElem_mem hc)
        have hwi : IntKind.i64.wrap ((i : Int) + 1) = ((i + 1 : Nat) : Int) := by rw [wrap_id (by omega) (by omega)]; rfl
        obtain ⟨y, hy⟩ : ∃ y, y = t.ts[i] := ⟨_, rfl⟩
        rw [← hy] at hyi hln
        simp only [copyY] at hyi
        have hlen0 : ((y.l.length : Int) != (y.l.length : Int)) = false := by simp
        (repeat refine awp_seq ?_); refine awp_drw3 [] [0, 1, 2, 3, 4, 5, 6, 7, 8, 9, 10, 11, 12, 13, 14, 15, 16, 17, 18, 19, 20, 21, 22, 23, 24, 25, 26, 27, 28, 29] (by rw [hx]; kernel_rfl) (by kernel_rfl) (by kernel_rfl) (by kernel_rfl) fun K hK => ?_; simp (maxSteps := 1000000) [ty28, ty26, ty64, ty62, ty3, hc, hci, hyi, ← hy]; refine hK _ ?_; clear hK K; (first | show AWP _ _ _ _ _ | show ∃ _, _ | skip)
        (repeat refine awp_seq ?_); refine awp_cond (by simp; rfl) (by rw [hx]; simp) (fun hd => ?_) (fun hd => ?_)
        · simp at hd
        · clear hd
          refine awp_skip ?_; (first | show AWP _ _ _ _ _ | show ∃ _, _ | skip)
          (repeat refine awp_seq ?_); refine awp_reg1 (by rw [hx]; kernel_rfl) fun K hK => ?_; simp (maxSteps := 1000000) []; refine hK _ ?_; clear hK K; (first | show AWP _ _ _ _ _ | show ∃ _, _ | skip)
          (repeat refine awp_seq ?_); refine awp_block ?_
          refine awp_loop (fun j : Nat => ⟨ofL [(2, .ptr 2 10 0 0), (3, .ptr 3 10 0 0), (5, encI i), (6, encI j)], stoT [(2, 2, .live (obTi s)), (3, 3, .live (obTi t))]⟩)
            (fun j => j ≤ y.l.length) (fun j => y.l.length - j) 0 (Nat.zero_le _) ?_ ?_
          · refine wk_shape (shp0 hσ (by simp) (by simp) ?_) ?_
            · simp [SlotOk] <;> (repeat' (first | (refine RowsOk.same ?_; simp [purel, C.isPure]; done) | (refine rowsCons ?_; simp [mtl, mtc, mT, mH, C.isPure, purel]; done) | (refine rowsCons ?_; simp [mtl, mtc, mT, mH, C.isPure, purel]) | refine And.intro ?_ ?_))
            · simp [mtc, mtl, mT, C.isPure, purel] <;> (try simp (disch := omega) [wrap_id]) <;> (try omega)
          · intro j hj
            (repeat refine awp_seq ?_); refine awp_reg1 (by rw [hx]; kernel_rfl) fun K hK => ?_; simp (maxSteps := 1000000) [ty28, ty26, ty64, ty62, ty3, hc, hci, hyi, ← hy]; refine hK _ ?_; clear hK K; (first | show AWP _ _ _ _ _ | show ∃ _, _ | skip)
            (repeat refine awp_seq ?_); refine awp_cond (by simp; rfl) (by rw [hx]; simp) (fun hc2 => ?_) (fun hc2 => ?_)
            · simp at hc2
              refine awp_skip ?_; (first | show AWP _ _ _ _ _ | show ∃ _, _ | skip)
              (repeat refine awp_seq ?_); refine awp_block ?_
              have he5 := eqI5 y.l[j]
              simp only [cWl, encI] at he5
              have hwj : IntKind.i64.wrap ((j : Int) + 1) = ((j + 1 : Nat) : Int) := by rw [wrap_id (by omega) (by omega)]; rfl
              (repeat refine awp_seq ?_); refine awp_drw3 [] [0, 1, 2, 3, 4, 5, 6, 7, 8, 9, 10, 11, 12, 13, 14, 15, 16, 17, 18] (by rw [hx]; kernel_rfl) (by kernel_rfl) (by kernel_rfl) (by kernel_rfl) fun K hK => ?_; simp (maxSteps := 1000000) [ty28, ty26, ty64, ty62, ty93, fe93, ty3, hc, hci, hc2, hyi, ← hy, he5]; refine hK _ ?_; clear hK K; (first | show AWP _ _ _ _ _ | show ∃ _, _ | skip)
              (repeat refine awp_seq ?_); refine awp_cond (by simp; rfl) (by rw [hx]; simp) (fun hd => ?_) (fun hd => ?_)
              · simp at hd
              · clear hd
                refine awp_skip ?_; (first | show AWP _ _ _ _ _ | show ∃ _, _ | skip)
                (repeat refine awp_seq ?_); refine awp_reg1 (by rw [hx]; kernel_rfl) fun K hK => ?_; simp (maxSteps := 1000000) [ty3]; refine hK _ ?_; clear hK K; (first | show AWP _ _ _ _ _ | show ∃ _, _ | skip)
                refine ⟨j + 1, by omega, by omega, ?_⟩
                rw [hwj]
                refine wk_shape (shp0 hσ (by simp) (by simp) ?_) ?_
                · simp [SlotOk] <;> (repeat' (first | (refine RowsOk.same ?_; simp [purel, C.isPure]; done) | (refine rowsCons ?_; simp [mtl, mtc, mT, mH, C.isPure, purel]; done) | (refine rowsCons ?_; simp [mtl, mtc, mT, mH, C.isPure, purel]) | refine And.intro ?_ ?_))
                · simp [mtc, mtl, mT, C.isPure, purel] <;> (try simp (disch := omega) [wrap_id]) <;> (try omega)
            · simp at hc2
              (repeat refine awp_seq ?_); refine awp_exit ?_; (first | show AWP _ _ _ _ _ | show ∃ _, _ | skip)
              (repeat refine awp_seq ?_); refine awp_reg1 (by rw [hx]; kernel_rfl) fun K hK => ?_; simp (maxSteps := 1000000) [ty3]; refine hK _ ?_; clear hK K; (first | show AWP _ _ _ _ _ | show ∃ _, _ | skip)
              refine ⟨i + 1, by omega, by omega, ?_⟩
              rw [hwi]
              refine wk_shape (shp0 hσ (by simp) (by simp) ?_) ?_
              · simp [SlotOk] <;> (repeat' (first | (refine RowsOk.same ?_; simp [purel, C.isPure]; done) | (refine rowsCons ?_; simp [mtl, mtc, mT, mH, C.isPure, purel]; done) | (refine rowsCons ?_; simp [mtl, mtc, mT, mH, C.isPure, purel]) | refine And.intro ?_ ?_))
              · simp [mtc, mtl, mT, C.isPure, purel] <;> (try simp (disch := omega) [wrap_id]) <;> (try omega)
      · simp at hc
        (repeat refine awp_seq ?_); refine awp_exit ?_; (first | show AWP _ _ _ _ _ | show ∃ _, _ | skip)
        (repeat refine awp_seq ?_); refine awp_reg1 (by rw [hx]; kernel_rfl) fun K hK => ?_; simp (maxSteps := 1000000) []; refine hK _ ?_; clear hK K; (first | show AWP _ _ _ _ _ | show ∃ _, _ | skip)
        (repeat refine awp_seq ?_); refine awp_ret ?_; refine And.intro (Or.inr rfl) ?_
        simp [retC, resC, viewC, mapO]

theorem l_isKnown36 (e : Int) : Pure Tryz.prog 36 [encI e] (.bool (e == 0 || e == 3)) := by
  refine pure_of (fn := Tryz.f36) [.tmp 2] ⟨Tryz.func36, rfl, by kernel_rfl⟩ (by kernel_rfl) (by kernel_rfl) (by kernel_rfl) fun x hx hσ => ?_
  (repeat refine awp_seq ?_); refine awp_reg1 (by rw [hx]; kernel_rfl) fun K hK => ?_; simp (maxSteps := 1000000) []; refine hK _ ?_; clear hK K; (first | show AWP _ _ _ _ _ | show ∃ _, _ | skip)
  cases h : (e == (0 : Int))
  · (repeat refine awp_seq ?_); refine awp_reg1 (by rw [hx]; kernel_rfl) fun K hK => ?_; simp (maxSteps := 1000000) [ty36, h]; refine hK _ ?_; clear hK K; (first | show AWP _ _ _ _ _ | show ∃ _, _ | skip)
    (repeat refine awp_seq ?_); refine awp_ret ?_; refine And.intro (Or.inr rfl) ?_
    simp [retC, resC, viewC, mapO, h]
  · (repeat refine awp_seq ?_); refine awp_reg1 (by rw [hx]; kernel_rfl) fun K hK => ?_; simp (maxSteps := 1000000) [ty36, h]; refine hK _ ?_; clear hK K; (first | show AWP _ _ _ _ _ | show ∃ _, _ | skip)
    (repeat refine awp_seq ?_); refine awp_ret ?_; refine And.intro (Or.inr rfl) ?_
    simp [retC, resC, viewC, mapO, h]

theorem l_holds27 (p : Int × Int) (n : Int) : Pure Tryz.prog 27 [encSp p, encI n] (.bool (decide (p.1 ≤ n) && decide (n ≤ p.2))) := by
  refine pure_of (fn := Tryz.f27) [.tmp 4] ⟨Tryz.func27, rfl, by kernel_rfl⟩ (by kernel_rfl) (by kernel_rfl) (by kernel_rfl) fun x hx hσ => ?_
  (repeat refine awp_seq ?_); refine awp_reg1 (by rw [hx]; kernel_rfl) fun K hK => ?_; simp (maxSteps := 1000000) [ty23]; refine hK _ ?_; clear hK K; (first | show AWP _ _ _ _ _ | show ∃ _, _ | skip)
  by_cases h : p.1 ≤ n
  · (repeat refine awp_seq ?_); refine awp_reg1 (by rw [hx]; kernel_rfl) fun K hK => ?_; simp (maxSteps := 1000000) [ty23, ty3, h]; refine hK _ ?_; clear hK K; (first | show AWP _ _ _ _ _ | show ∃ _, _ | skip)
    (repeat refine awp_seq ?_); refine awp_ret ?_; refine And.intro (Or.inr rfl) ?_
    simp [retC, resC, viewC, mapO, h]
  · (repeat refine awp_seq ?_); refine awp_reg1 (by rw [hx]; kernel_rfl) fun K hK => ?_; simp (maxSteps := 1000000) [ty23, ty3, h]; refine hK _ ?_; clear hK K; (first | show AWP _ _ _ _ _ | show ∃ _, _ | skip)
    (repeat refine awp_seq ?_); refine awp_ret ?_; refine And.intro (Or.inr rfl) ?_
    simp [retC, resC, viewC, mapO, h]

end Go.Proofs.YtbhbmnofmoibhaaGreat

/- What comes in, as data; and how a law's statement follows from a contract of data. No condition. -/
namespace Go.Abs
open Go.ChangeShapes Go.WideShapes Go.ChangeAt Go.RowKit

/-- The make of a cell. -/
inductive Sh where
  | int (k : IntKind)
  | bool
  | str
  | sl (l : List Sh)

mutual
/-- A value of a make. -/
def Fit : Sh → C → Prop
  | .int k, c => ∃ n, c = .int k n ∧ (Lit.int k n).wf = true
  | .bool, c => ∃ b, c = .bool b
  | .str, c => ∃ s : ByteArray, c = .str s ∧ s.size ≤ maxLen
  | .sl l, c => ∃ nl rows, c = .sl nl false rows ∧ (nl = true → rows = []) ∧ rows.length ≤ maxLen ∧ ∀ row ∈ rows, FitL l row
def FitL : List Sh → List C → Prop
  | [], m => m = []
  | s :: l, m => ∃ c r, m = c :: r ∧ Fit s c ∧ FitL l r
end

def shFs (P : Program) (g : TypeId → Option (List Sh)) : Nat → List Field → Option (List Sh)
  | _, [] => some []
  | o, f :: fs => match g f.type, shFs P g (o + P.cellsOf f.type) fs with
    | some l, some m => if f.offset = o ∧ l.length = P.cellsOf f.type then some (l ++ m) else none
    | _, _ => none

/-- The makes of a type's cells. -/
def shT (P : Program) : Nat → TypeId → Option (List Sh)
  | 0, _ => none
  | n + 1, t => match P.underlying t with
    | some (.int k) => some [.int k]
    | some .bool => some [.bool]
    | some .string => some [.str]
    | some (.slice e) => match shT P n e with
      | some l => if l.length = P.cellsOf e ∧ 0 < l.length then some [.sl l] else none
      | none => none
    | some (.struct fs) => match shFs P (shT P n) 0 fs.toList with
      | some l => if l.length = P.cellsOf t then some l else none
      | none => none
    | _ => none

theorem FitL.len : ∀ {l : List Sh} {m : List C}, FitL l m → m.length = l.length
  | [], m, h => by simp only [FitL] at h; subst h; rfl
  | s :: l, m, h => by
    simp only [FitL] at h
    obtain ⟨c, r, rfl, _, h⟩ := h
    simp [FitL.len h]

theorem FitL.append : ∀ {l l' : List Sh} {m m' : List C}, FitL l m → FitL l' m' → FitL (l ++ l') (m ++ m')
  | [], l', m, m', h, h' => by simp only [FitL] at h; subst h; exact h'
  | s :: l, l', m, m', h, h' => by
    simp only [FitL] at h
    obtain ⟨c, r, rfl, h1, h2⟩ := h
    simp only [List.cons_append, FitL]
    exact ⟨c, r ++ m', rfl, h1, h2.append h'⟩

def anyG : Nat → Prop := fun _ => True

/-- Cells that stand for values. -/
def OpL (W : World) (m : List C) (cs : List Value) : Prop := m.length = cs.length ∧ ∀ (i : Nat) (c : C), m[i]? = some c → PR anyG W c (cs[i]?.getD undef) ∧ c.cell = true

theorem exists_list {α : Type} {Q : Nat → α → Prop} : ∀ {n : Nat}, (∀ i, i < n → ∃ x, Q i x) → ∃ l : List α, l.length = n ∧ ∀ i x, l[i]? = some x → Q i x
  | 0, _ => ⟨[], rfl, by simp⟩
  | n + 1, h => by
    obtain ⟨l, h1, h2⟩ := exists_list (n := n) fun i hi => h i (by omega)
    obtain ⟨x, hx⟩ := h n (by omega)
    refine ⟨l ++ [x], by simp [h1], fun i y hy => ?_⟩
    rcases Nat.lt_or_ge i l.length with hlt | hge
    · rw [List.getElem?_append_left hlt] at hy
      exact h2 i y hy
    · rw [List.getElem?_append_right hge] at hy
      have : i = n := by
        have := (List.getElem?_eq_some_iff.1 hy).1
        simp at this; omega
      subst this
      rw [h1, Nat.sub_self] at hy
      simp at hy
      subst hy; exact hx

section
variable {H : Type} {enc : TypeId × Value → H} {P : Program} {W : World}

theorem spot_of {a : Addr} {q n : Nat} {v : Value} (h : W.cell? ((a.add q).add n) = some v) (h0 : q = 0 ∧ n = 0) : a.spot = none := by
  obtain ⟨rfl, rfl⟩ := h0
  simp only [Addr.add, if_true] at h
  unfold World.cell? at h
  split at h
  · split at h
    · simp at h
    · rename_i hs
      cases hsp : a.spot with
      | none => rfl
      | some z => simp [hsp] at hs
  · simp at h

theorem addr_full {a : Addr} (h : a.spot = none) (q n : Nat) : (a.add q).add n = ⟨a.block, a.off + (q + n), none⟩ := by
  obtain ⟨b, o, s⟩ := a
  simp only at h
  subst h
  rw [addr_add, addr_add, Nat.add_assoc]

theorem cells_at {a : Addr} {n : Nat} {cs : List Value} (h : W.cells? 0 a n = some cs) : cs.length = n ∧ ∀ i, i < n → W.cell? (a.add i) = cs[i]? := by
  unfold World.cells? at h
  rw [if_pos (Nat.zero_le _)] at h
  refine ⟨by simpa using mapM_some_length h, fun i hi => ?_⟩
  exact mapM_some_get h i i (by rw [List.getElem?_range hi])

theorem block_lt {a : Addr} {v : Value} (h : W.cell? a = some v) : a.block < W.heap.size := by
  unfold World.cell? at h
  split at h
  · rename_i hh; exact (Array.getElem?_eq_some_iff.1 hh).1
  · simp at h

/-- WHAT IS READ IS DATA. -/
theorem open_sound : ∀ (n : Nat) {fuel : Nat} {t : TypeId} {cs : List Value} {x : DataW H × List MemPlace} {shs : List Sh}, shT P n t = some shs → DataW.trod enc P W 0 (fun _ => true) true fuel t cs = some x →
    ∃ m, FitL shs m ∧ OpL W m cs
  | 0, _, _, _, _, _, h, _ => by simp [shT] at h
  | n + 1, fuel, t, cs, x, shs, h, ht => by
    unfold shT at h
    split at h
    · rename_i k hk
      simp only [Option.some.injEq] at h
      subst h
      obtain ⟨z, rfl, _, hw⟩ := DataW.trod_int hk ht
      refine ⟨[.int k z], ⟨_, _, rfl, ⟨z, rfl, hw⟩, rfl⟩, rfl, fun i c hi => ?_⟩
      cases i with
      | zero => simp at hi; subst hi; exact ⟨.int _ _, rfl⟩
      | succ i => simp at hi
    · rename_i hk
      simp only [Option.some.injEq] at h
      subst h
      obtain ⟨z, rfl, _⟩ := DataW.trod_bool hk ht
      refine ⟨[.bool z], ⟨_, _, rfl, ⟨z, rfl⟩, rfl⟩, rfl, fun i c hi => ?_⟩
      cases i with
      | zero => simp at hi; subst hi; exact ⟨.bool _, rfl⟩
      | succ i => simp at hi
    · rename_i hk
      simp only [Option.some.injEq] at h
      subst h
      obtain ⟨z, rfl, _, hz⟩ := DataW.trod_string hk ht
      refine ⟨[.str z], ⟨_, _, rfl, ⟨z, rfl, hz⟩, rfl⟩, rfl, fun i c hi => ?_⟩
      cases i with
      | zero => simp at hi; subst hi; exact ⟨.str _, rfl⟩
      | succ i => simp at hi
    · rename_i e hk
      split at h
      · rename_i l hl
        split at h
        · rename_i hc
          obtain ⟨hc1, hc2⟩ := hc
          simp only [Option.some.injEq] at h
          subst h
          have one : ∀ {nl : Bool} {rows : List (List C)} {v : Value}, cs = [v] → (nl = true → rows = []) → rows.length ≤ maxLen → (∀ row ∈ rows, FitL l row) → PR anyG W (.sl nl false rows) v → ∃ m, FitL [.sl l] m ∧ OpL W m cs := by
            intro nl rows v hcs h1 h2 h3 h4
            subst hcs
            refine ⟨[.sl nl false rows], ⟨_, _, rfl, ⟨nl, rows, rfl, h1, h2, h3⟩, rfl⟩, rfl, fun i c hi => ?_⟩
            cases i with
            | zero => simp at hi; subst hi; exact ⟨h4, rfl⟩
            | succ i => simp at hi
          rcases DataW.trod_slice hk ht with ⟨rfl, _⟩ | ⟨a, len, cap, elems, rest, q, _, rfl, _, hb, hlc, hcm, hel, hat, hsp, _⟩
          · exact one rfl (fun _ => rfl) (by simp) (by simp) (.slnil _)
          · obtain ⟨hrl, hrat⟩ := hsp rfl
            by_cases hcap : cap = 0
            · have : len = 0 := by omega
              subst this
              subst hcap
              exact one (nl := false) (rows := []) rfl (by simp) (by simp) (by simp) (.slemp _ _)
            · have hspot : a.spot = none ∧ a.block < W.heap.size := by
                by_cases h0 : len = 0
                · have := hrat 0 (by omega)
                  rw [List.getElem?_eq_getElem (by omega), Option.bind_eq_some_iff] at this
                  obtain ⟨cs0, g1, _⟩ := this
                  obtain ⟨g2, g3⟩ := cells_at g1
                  have g4 := g3 0 (by omega)
                  rw [List.getElem?_eq_getElem (by omega), h0] at g4
                  have hs := spot_of g4 ⟨by simp, rfl⟩
                  refine ⟨hs, ?_⟩
                  have := block_lt g4
                  rw [addr_full hs] at this
                  exact this
                · have := hat 0 (by omega)
                  rw [List.getElem?_eq_getElem (by omega), Option.bind_eq_some_iff] at this
                  obtain ⟨cs0, g1, _⟩ := this
                  obtain ⟨g2, g3⟩ := cells_at g1
                  have g4 := g3 0 (by omega)
                  rw [List.getElem?_eq_getElem (by omega)] at g4
                  have hs := spot_of g4 ⟨by simp, rfl⟩
                  refine ⟨hs, ?_⟩
                  have := block_lt g4
                  rw [addr_full hs] at this
                  exact this
              obtain ⟨hs, hlt⟩ := hspot
              have hrow : ∀ i, i < len → ∃ row, FitL l row ∧ ∀ (j : Nat) (c : C), row[j]? = some c → ∃ v, W.cell? ⟨a.block, a.off + (i * P.cellsOf e + j), none⟩ = some v ∧ PR anyG W c v ∧ c.cell = true := by
                intro i hi
                have h1 := hat i hi
                rw [List.getElem?_eq_getElem (by omega), Option.bind_eq_some_iff] at h1
                obtain ⟨cs0, g1, g2⟩ := h1
                obtain ⟨g3, g4⟩ := cells_at g1
                obtain ⟨row, r1, r2, r3⟩ := open_sound n hl g2
                refine ⟨row, r1, fun j c hj => ?_⟩
                have hjl : j < row.length := (List.getElem?_eq_some_iff.1 hj).1
                have g5 := g4 j (by omega)
                rw [addr_full hs] at g5
                obtain ⟨r4, r5⟩ := r3 j c hj
                rw [List.getElem?_eq_getElem (by omega)] at g5 r4
                exact ⟨_, g5, r4, r5⟩
              obtain ⟨rows, w1, w2⟩ := exists_list hrow
              refine one (nl := false) (rows := rows) rfl (by simp) (by omega) (fun row hr => ?_) ?_
              · obtain ⟨i, hi, rfl⟩ := List.getElem_of_mem hr
                exact (w2 i _ (List.getElem?_eq_getElem hi)).1
              · obtain ⟨b, o, s⟩ := a
                simp only at hs hlt
                subst hs
                refine .sl (sz := P.cellsOf e) (fun i j => (W.cell? ⟨b, o + (i * P.cellsOf e + j), none⟩).getD undef) trivial hlt w1.symm (by simp) (by omega) ?_ ?_ ?_ ?_
                · intro i row hi
                  rw [(w2 i row hi).1.len, hc1]
                · intro i row hi j c hj
                  obtain ⟨v, q1, q2, q3⟩ := (w2 i row hi).2 j c hj
                  simp only at q1
                  rw [q1]; rfl
                · intro i row hi j c hj
                  obtain ⟨v, q1, q2, q3⟩ := (w2 i row hi).2 j c hj
                  exact q3
                · intro i row hi j c hj
                  obtain ⟨v, q1, q2, q3⟩ := (w2 i row hi).2 j c hj
                  simp only at q1
                  rw [q1]; exact q2
        · simp at h
      · simp at h
    · rename_i fs hk
      split at h
      · rename_i l hl
        split at h
        · rename_i hc
          simp only [Option.some.injEq] at h
          subst h
          obtain ⟨xs, q, _, _, hlen, hxl, hf⟩ := DataW.trod_struct hk ht
          have go : ∀ (fl : List Field) (o : Nat) (shs : List Sh), shFs P (shT P n) o fl = some shs → (∀ f ∈ fl, ∃ y, DataW.trod enc P W 0 (fun _ => true) true q f.type ((cs.drop f.offset).take (P.cellsOf f.type)) = some y) → o + shs.length ≤ cs.length →
              ∃ m, FitL shs m ∧ ∀ (i : Nat) (c : C), m[i]? = some c → PR anyG W c (cs[o + i]?.getD undef) ∧ c.cell = true := by
            intro fl
            induction fl with
            | nil =>
              intro o shs h1 _ _
              simp only [shFs, Option.some.injEq] at h1
              subst h1
              exact ⟨[], rfl, by simp⟩
            | cons f fl ih =>
              intro o shs h1 h2 h3
              unfold shFs at h1
              split at h1
              · rename_i l1 l2 e1 e2
                split at h1
                · rename_i hc2
                  obtain ⟨ho, hl1⟩ := hc2
                  simp only [Option.some.injEq] at h1
                  subst h1
                  simp only [List.length_append] at h3
                  obtain ⟨y, hy⟩ := h2 f (by simp)
                  obtain ⟨m1, p1, p2, p3⟩ := open_sound n e1 hy
                  obtain ⟨m2, p4, p5⟩ := ih (o + P.cellsOf f.type) l2 e2 (fun g hg => h2 g (by simp [hg])) (by omega)
                  have hm1 := p1.len
                  refine ⟨m1 ++ m2, p1.append p4, fun i c hi => ?_⟩
                  rcases Nat.lt_or_ge i m1.length with hlt | hge
                  · rw [List.getElem?_append_left hlt] at hi
                    have := p3 i c hi
                    rw [List.getElem?_take_of_lt (by omega), List.getElem?_drop, ho] at this
                    exact this
                  · rw [List.getElem?_append_right hge] at hi
                    have := p5 _ c hi
                    rw [show o + P.cellsOf f.type + (i - m1.length) = o + i by omega] at this
                    exact this
                · simp at h1
              · simp at h1
          obtain ⟨m, m1, m2⟩ := go fs.toList 0 l hl (fun f hfm => by
            obtain ⟨i, hi, rfl⟩ := List.getElem_of_mem hfm
            have := hf i fs.toList[i] (by simp)
            rw [List.getElem?_eq_getElem (by simp at hi; omega)] at this
            exact ⟨_, this⟩) (by omega)
          exact ⟨m, m1, by rw [m1.len]; omega, fun i c hi => by have := m2 i c hi; rwa [Nat.zero_add] at this⟩
        · simp at h
      · simp at h
    · simp at h

def isAggT (P : Program) (t : TypeId) : Bool :=
  match P.underlying t with
  | some (.struct _) => true
  | _ => false

/-- What the parameters stand for. -/
def ArgsFit (P : Program) : List TypeId → List C → Prop
  | [], cs => cs = []
  | t :: ts, cs => ∃ shs m c r, cs = c :: r ∧ shT P 6 t = some shs ∧ FitL shs m ∧ (if isAggT P t then c = .agg m else m = [c]) ∧ ArgsFit P ts r

theorem open_args : ∀ {ts : List TypeId} {vs : List Value} {ds : List (DataW H)} {ps : List MemPlace}, DataW.TrodAll enc P W 0 (fun _ => true) true ts vs ds ps →
    (∀ (j : Nat) t v, ts[j]? = some t → vs[j]? = some v → ∃ base, Value.okWide P W .any base t v) → (ts.all fun t => (shT P 6 t).isSome) = true →
    ∃ cargs, ArgsFit P ts cargs ∧ cargs.length = vs.length ∧ ∀ (i : Nat) (c : C), cargs[i]? = some c → PR anyG W c (vs[i]?.getD undef)
  | [], [], [], _, _, _, _ => ⟨[], rfl, rfl, by simp⟩
  | t :: ts, v :: vs, d :: ds, ps, h, hv, hs => by
    obtain ⟨p, q, ⟨fuel, h1⟩, h2, _⟩ := h
    simp only [List.all_cons, Bool.and_eq_true] at hs
    obtain ⟨hs1, hs2⟩ := hs
    rw [Option.isSome_iff_exists] at hs1
    obtain ⟨shs, hs1⟩ := hs1
    obtain ⟨m, m1, m2, m3⟩ := open_sound 6 hs1 h1
    obtain ⟨cargs, a1, a2, a3⟩ := open_args h2 (fun j t' v' e1 e2 => hv (j + 1) t' v' (by simpa using e1) (by simpa using e2)) hs2
    obtain ⟨base, hok⟩ := hv 0 t v rfl rfl
    have fin : ∀ c, (if isAggT P t then c = .agg m else m = [c]) → PR anyG W c v → ∃ cargs, ArgsFit P (t :: ts) cargs ∧ cargs.length = (v :: vs).length ∧ ∀ (i : Nat) (c : C), cargs[i]? = some c → PR anyG W c ((v :: vs)[i]?.getD undef) := by
      intro c hc hp
      refine ⟨c :: cargs, ⟨shs, m, c, cargs, rfl, hs1, m1, hc, a1⟩, by simp [a2], fun i c' hi => ?_⟩
      cases i with
      | zero => simp at hi; subst hi; simpa using hp
      | succ i => simp at hi ⊢; exact a3 i c' hi
    by_cases hag : isAggT P t = true
    · have hag0 := hag
      unfold isAggT at hag
      split at hag
      · rename_i fs hfs
        obtain ⟨cs, rfl, hcs⟩ := okWide_struct hfs hok
        refine fin (.agg m) (by rw [if_pos hag0]) (.agg (by rw [m2]; simp [Value.cells]) fun i c hi => ?_)
        have := (m3 i c hi).1
        simpa [Value.cells] using this
      · simp at hag
    · have hag0 := hag
      have hone : ∃ sh, shs = [sh] ∧ oneCell v = true := by
        unfold isAggT at hag
        unfold shT at hs1
        split at hs1
        · rename_i k hk
          obtain ⟨n, rfl⟩ := okWide_int hk hok
          exact ⟨_, (by simpa using hs1.symm), rfl⟩
        · rename_i hk
          obtain ⟨n, rfl⟩ := okWide_bool hk hok
          exact ⟨_, (by simpa using hs1.symm), rfl⟩
        · rename_i hk
          obtain ⟨n, rfl⟩ := okWide_string hk hok
          exact ⟨_, (by simpa using hs1.symm), rfl⟩
        · rename_i e hk
          obtain ⟨a, l, cp, rfl⟩ := okWide_slice hk hok
          split at hs1
          · split at hs1
            · exact ⟨_, (by simpa using hs1.symm), rfl⟩
            · simp at hs1
          · simp at hs1
        · rename_i fs hk
          rw [hk] at hag; simp at hag
        · simp at hs1
      obtain ⟨sh, rfl, hov⟩ := hone
      have hm := m1.len
      have hm1 : m.length = 1 := hm
      obtain ⟨c, rfl⟩ := List.length_eq_one_iff.1 hm1
      refine fin c (by rw [if_neg hag0]) ?_
      have := (m3 0 c rfl).1
      rw [cells_one hov] at this
      simpa using this
  | [], _ :: _, _, _, h, _, _ => h.elim
  | [], [], _ :: _, _, h, _, _ => h.elim
  | _ :: _, [], _, _, h, _, _ => h.elim
  | _ :: _, _ :: _, [], _, h, _, _ => h.elim

/-- No slice of things without size. -/
def noEmptyB (P : Program) : Bool := (List.range P.types.size).all fun t => match P.underlying t with
  | some (.slice e) => decide (0 < P.cellsOf e)
  | _ => true

theorem same_of {W' : World} (g : Grew W W') {p : MemPlace} (h : p.block < W.heap.size) : W.sameAt W' p := by
  cases p with
  | cell b off =>
    show W'.cell? _ = W.cell? _
    unfold World.cell?
    rw [g.heap b h]
  | map b => exact g.heap b h

theorem shut_args {W' : World} (hl : laidOutB P = true) (hm : mapsRowed P = true) (hz : noEmptyB P = true) (g : Grew W W') {sp : Nat → Bool} : ∀ {ts : List TypeId} {vs : List Value} {ds : List (DataW H)} {ps : List MemPlace},
    (ts.all fun t => decide (t < P.types.size)) = true → DataW.TrodAll enc P W 0 (fun _ => true) true ts vs ds ps → (∀ p ∈ ps, p.block < W.heap.size) → (∀ p ∈ ps, sp p.block = true) → DataW.TrodAll enc P W' 0 sp true ts vs ds ps
  | [], [], [], _, _, h, _, _ => h
  | t :: ts, v :: vs, d :: ds, ps, ht, h, hb, hs => by
    obtain ⟨p, q, ⟨fuel, h1⟩, h2, rfl⟩ := h
    simp only [List.all_cons, Bool.and_eq_true, decide_eq_true_eq] at ht
    refine ⟨p, q, ⟨fuel, ?_⟩, shut_args hl hm hz g ht.2 h2 (fun r hr => hb r (by simp [hr])) (fun r hr => hs r (by simp [hr])), rfl⟩
    refine DataW.trod_stays (T := (· < P.types.size)) (kids_rows hl hm) (fun {t e} h3 h4 => ?_) (fun h => by simp at h) ht.1 h1 (fun r hr => same_of g (hb r (by simp; exact .inl hr))) (fun r hr => hs r (by simp; exact .inl hr))
    unfold noEmptyB at hz
    rw [List.all_eq_true] at hz
    have := hz t (by simpa using h3)
    rw [h4] at this
    simpa using this
  | [], _ :: _, _, _, _, h, _, _ => h.elim
  | [], [], _ :: _, _, _, h, _, _ => h.elim
  | _ :: _, [], _, _, _, h, _, _ => h.elim
  | _ :: _, _ :: _, [], _, _, h, _, _ => h.elim

theorem kept_of {W' : World} (g : Grew W W') (may : MemPlace → Prop) : W.keptBut W' may := by
  refine ⟨g.os, g.output, fun i hi => ?_⟩
  rw [g.heap i hi]
  cases h : W.heap[i]? with
  | none => trivial
  | some o => cases o <;> simp

/-- A LAW's STATEMENT, from a contract of data. -/
theorem law_contract {f : FuncId} {fn : Func} {s : ChangeSpec} {tb : TypeId} (hrt : fn.resultTypes = #[tb]) (htb : P.underlying tb = some .bool) (hvars : s.vars = [])
    (hspec : ∀ (ds : List (DataW H)), ds.length = fn.params.toList.length → s.fn H ds = { results := [.lit (.bool true)], args := ds })
    (hl : laidOutB P = true) (hm : mapsRowed P = true) (hz : noEmptyB P = true) (ht : (fn.params.toList.all fun t => decide (t < P.types.size)) = true) (hsh : (fn.params.toList.all fun t => (shT P 6 t).isSome) = true)
    (hcall : ∀ cargs, ArgsFit P fn.params.toList cargs → Pure P f cargs (.bool true))
    (W : World) (base : Nat) (args : Array Value) (ds gs : List (DataW H)) (before : List MemPlace) (hval : ∀ (j : Nat) t v, fn.params[j]? = some t → args[j]? = some v → Value.okWide P W .any base t v)
    (hW : DataW.Whole enc P fn.params.toList s.vars false W args.toList ds gs before) :
    Calls P f args W fun e W' => ∃ v, e = .returned v ∧ s.post enc P fn false true false false W args v W' := by
  have hW' := hW
  obtain ⟨p, q, hA, hV, rfl, hfz, hnd⟩ := hW
  rw [hvars] at hV
  obtain ⟨rfl, rfl⟩ := trodVars_none hV
  obtain ⟨cargs, c1, c2, c3⟩ := open_args hA (fun j t v e1 e2 => ⟨base, hval j t v (by simpa using e1) (by simpa using e2)⟩) hsh
  have hlen : ds.length = fn.params.toList.length := by
    have : ∀ {ts : List TypeId} {vs : List Value} {ds : List (DataW H)} {ps : List MemPlace}, DataW.TrodAll enc P W 0 (fun _ => true) true ts vs ds ps → ds.length = ts.length := by
      intro ts
      induction ts with
      | nil => intro vs ds ps h; cases vs <;> cases ds <;> first | rfl | exact h.elim
      | cons t ts ih =>
        intro vs ds ps h
        cases vs with
        | nil => exact h.elim
        | cons v vs =>
          cases ds with
          | nil => exact h.elim
          | cons d ds =>
            obtain ⟨_, _, _, h2, _⟩ := h
            simp [ih h2]
    exact this hA
  refine ((hcall cargs c1).calls anyG W args ⟨by simpa using c2.symm, fun i c hi => by have := c3 i c hi; simpa using this⟩).mono ?_
  rintro e W' ⟨v, rfl, hr, g⟩
  cases hr
  refine ⟨_, rfl, ds, [], p, [], p, [], ?_, ?_, ?_, ?_, kept_of g _, by simp⟩
  · simpa using hW'
  · rw [hspec (ds ++ []) (by simpa using hlen), hrt]
    refine ⟨[], [], ⟨1, ?_⟩, rfl, rfl⟩
    simp [DataW.trod, htb, Value.cells]
  · rw [hspec (ds ++ []) (by simpa using hlen)]
    simp only [List.append_nil]
    have hlt := hW'.lt
    exact shut_args hl hm hz g ht hA (fun r hr => hlt r (by simpa using hr)) (fun r hr => by simpa using hlt r (by simpa using hr))
  · rw [hvars, hspec (ds ++ []) (by simpa using hlen)]
    rfl
end
end Go.Abs

namespace Go.Proofs.YtbhbmnofmoibhaaGreat
open Go Go.Abs

set_option maxHeartbeats 2000000
set_option maxRecDepth 100000

-- what comes in

abbrev i64s (n : Nat) : List Sh := List.replicate n (.int .i64)

theorem rows_map {α : Type} {f : α → List C} : ∀ {rows : List (List C)}, (∀ row ∈ rows, ∃ a, row = f a) → ∃ l : List α, rows = l.map f
  | [], _ => ⟨[], rfl⟩
  | r :: rows, h => by
    obtain ⟨a, rfl⟩ := h r (by simp)
    obtain ⟨l, rfl⟩ := rows_map (rows := rows) fun x hx => h x (by simp [hx])
    exact ⟨a :: l, rfl⟩

theorem fit_app {l : List Sh} : ∀ {n : Nat} {m : List C}, FitL (i64s n ++ l) m → ∃ (zs : List Int) (r : List C), zs.length = n ∧ m = zs.map encI ++ r ∧ FitL l r
  | 0, m, h => ⟨[], m, rfl, rfl, by simpa using h⟩
  | n + 1, m, h => by
    simp only [i64s, List.replicate_succ, List.cons_append, FitL, Fit] at h
    obtain ⟨c, r, rfl, ⟨z, rfl, _⟩, h2⟩ := h
    obtain ⟨zs, r', h3, rfl, h4⟩ := fit_app h2
    exact ⟨z :: zs, r', by simp [h3], rfl, h4⟩

theorem fit_flat {n : Nat} {m : List C} (h : FitL (i64s n) m) : ∃ zs : List Int, zs.length = n ∧ m = zs.map encI := by
  have h' : FitL (i64s n ++ []) m := by simpa using h
  obtain ⟨zs, r, h1, h2, h3⟩ := fit_app h'
  simp only [FitL] at h3
  subst h3
  exact ⟨zs, h1, by simpa using h2⟩

theorem fit_sl {s l : List Sh} {m : List C} (h : FitL (.sl s :: l) m) : ∃ (nl : Bool) (rows r : List (List C)) (m' : List C), m = .sl nl false rows :: m' ∧ (∀ row ∈ rows, FitL s row) ∧ FitL l m' := by
  simp only [FitL, Fit] at h
  obtain ⟨c, r, rfl, ⟨nl, rows, rfl, _, _, h5⟩, h6⟩ := h
  exact ⟨nl, rows, [], r, rfl, h5, h6⟩

theorem arg_agg {t : TypeId} {s : List Sh} (hs : shT Tryz.prog 6 t = some s) (ha : isAggT Tryz.prog t = true) {cs : List C} {ts : List TypeId} (h : ArgsFit Tryz.prog (t :: ts) cs) : ∃ (m r : List C), cs = .agg m :: r ∧ FitL s m ∧ ArgsFit Tryz.prog ts r := by
  simp only [ArgsFit] at h
  obtain ⟨shs, m, c, r, rfl, h1, h2, h3, h4⟩ := h
  rw [hs] at h1
  cases h1
  rw [ha, if_pos rfl] at h3
  subst h3
  exact ⟨m, r, rfl, h2, h4⟩

theorem arg_one {t : TypeId} {s : List Sh} (hs : shT Tryz.prog 6 t = some s) (ha : isAggT Tryz.prog t = false) {cs : List C} {ts : List TypeId} (h : ArgsFit Tryz.prog (t :: ts) cs) : ∃ (c : C) (r : List C), cs = c :: r ∧ FitL s [c] ∧ ArgsFit Tryz.prog ts r := by
  simp only [ArgsFit] at h
  obtain ⟨shs, m, c, r, rfl, h1, h2, h3, h4⟩ := h
  rw [hs] at h1
  cases h1
  rw [ha] at h3
  simp only [Bool.false_eq_true, if_false] at h3
  subst h3
  exact ⟨c, r, rfl, h2, h4⟩

theorem sh28 : shT Tryz.prog 6 28 = some (i64s 9 ++ [.sl [.int .i64, .sl (i64s 5)]]) := by kernel_rfl
theorem ag28 : isAggT Tryz.prog 28 = true := by kernel_rfl
theorem sh3 : shT Tryz.prog 6 3 = some (i64s 1) := by kernel_rfl
theorem ag3 : isAggT Tryz.prog 3 = false := by kernel_rfl

theorem fit_walks {rows : List (List C)} (h : ∀ row ∈ rows, FitL (i64s 5) row) : ∃ l : List Wl, rows = l.map cWl := by
  refine rows_map fun row hr => ?_
  obtain ⟨zs, e1, rfl⟩ := fit_flat (h row hr)
  match zs, e1 with
  | [a, b, c, d, e], _ => exact ⟨⟨a, b, c, d, e⟩, rfl⟩

theorem fit_test {l : List Sh} {m : List C} (h : FitL (.int .i64 :: .sl (i64s 5) :: l) m) : ∃ (y : Ts) (m' : List C), m = cTs y ++ m' ∧ FitL l m' := by
  have h' : FitL (i64s 1 ++ (.sl (i64s 5) :: l)) m := h
  obtain ⟨zs, r, e1, rfl, h2⟩ := fit_app h'
  obtain ⟨nl, rows, _, m', rfl, h3, h4⟩ := fit_sl h2
  obtain ⟨wl, rfl⟩ := fit_walks h3
  match zs, e1 with
  | [a], _ => exact ⟨⟨a, nl, false, wl⟩, m', rfl, h4⟩

theorem arg28 {cs : List C} {ts : List TypeId} (h : ArgsFit Tryz.prog (28 :: ts) cs) : ∃ (t : Ti) (r : List C), cs = encTi t :: r ∧ ArgsFit Tryz.prog ts r := by
  obtain ⟨m, r, rfl, h1, h2⟩ := arg_agg sh28 ag28 h
  obtain ⟨zs, r', e1, rfl, h3⟩ := fit_app h1
  obtain ⟨nl, rows, _, m', rfl, h4, h5⟩ := fit_sl h3
  simp only [FitL] at h5
  subst h5
  obtain ⟨l, rfl⟩ := rows_map (f := cTs) (rows := rows) fun row hr => by
    obtain ⟨y, m', rfl, h6⟩ := fit_test (h4 row hr)
    simp only [FitL] at h6
    subst h6
    exact ⟨y, by simp⟩
  match zs, e1 with
  | [a, b, c, d, e, f, g, i, j], _ => exact ⟨⟨⟨a, b, c, d, e, f, g, i⟩, j, nl, false, l⟩, r, rfl, h2⟩

theorem arg3 {cs : List C} {ts : List TypeId} (h : ArgsFit Tryz.prog (3 :: ts) cs) : ∃ n r, cs = encI n :: r ∧ ArgsFit Tryz.prog ts r := by
  obtain ⟨c, r, rfl, h1, h2⟩ := arg_one sh3 ag3 h
  obtain ⟨zs, e1, e2⟩ := fit_flat h1
  match zs, e1 with
  | [a], _ => simp at e2; subst e2; exact ⟨a, r, rfl, h2⟩

theorem sh30 : shT Tryz.prog 6 30 = some (i64s 2) := by kernel_rfl
theorem ag30 : isAggT Tryz.prog 30 = true := by kernel_rfl
theorem sh32 : shT Tryz.prog 6 32 = some (i64s 2) := by kernel_rfl
theorem ag32 : isAggT Tryz.prog 32 = true := by kernel_rfl
theorem sh50 : shT Tryz.prog 6 50 = some (i64s 3) := by kernel_rfl
theorem ag50 : isAggT Tryz.prog 50 = true := by kernel_rfl
theorem sh66 : shT Tryz.prog 6 66 = some ([.int .i64, .sl (i64s 5)] ++ i64s 1) := by kernel_rfl
theorem ag66 : isAggT Tryz.prog 66 = true := by kernel_rfl

theorem arg30 {cs : List C} {ts : List TypeId} (h : ArgsFit Tryz.prog (30 :: ts) cs) : ∃ (c : Cl) (r : List C), cs = encCl c :: r ∧ ArgsFit Tryz.prog ts r := by
  obtain ⟨m, r, rfl, h1, h2⟩ := arg_agg sh30 ag30 h
  obtain ⟨zs, e1, rfl⟩ := fit_flat h1
  match zs, e1 with
  | [a, b], _ => exact ⟨⟨a, b⟩, r, rfl, h2⟩
theorem arg32 {cs : List C} {ts : List TypeId} (h : ArgsFit Tryz.prog (32 :: ts) cs) : ∃ (a b : Int) (r : List C), cs = .agg [encI a, encI b] :: r ∧ ArgsFit Tryz.prog ts r := by
  obtain ⟨m, r, rfl, h1, h2⟩ := arg_agg sh32 ag32 h
  obtain ⟨zs, e1, rfl⟩ := fit_flat h1
  match zs, e1 with
  | [a, b], _ => exact ⟨a, b, r, rfl, h2⟩
theorem arg50 {cs : List C} {ts : List TypeId} (h : ArgsFit Tryz.prog (50 :: ts) cs) : ∃ (k : Tr) (a : Int) (r : List C), cs = .agg [encI k.area, encI k.skew, encI a] :: r ∧ ArgsFit Tryz.prog ts r := by
  obtain ⟨m, r, rfl, h1, h2⟩ := arg_agg sh50 ag50 h
  obtain ⟨zs, e1, rfl⟩ := fit_flat h1
  match zs, e1 with
  | [a, b, c], _ => exact ⟨⟨a, b⟩, c, r, rfl, h2⟩
theorem arg66 {cs : List C} {ts : List TypeId} (h : ArgsFit Tryz.prog (66 :: ts) cs) : ∃ (y : Ts) (g : Int) (r : List C), cs = .agg (cTs y ++ [encI g]) :: r ∧ ArgsFit Tryz.prog ts r := by
  obtain ⟨m, r, rfl, h1, h2⟩ := arg_agg sh66 ag66 h
  obtain ⟨y, m', rfl, h3⟩ := fit_test h1
  obtain ⟨zs, e1, rfl⟩ := fit_flat h3
  match zs, e1 with
  | [a], _ => exact ⟨y, a, r, rfl, h2⟩

theorem arg_end {cs : List C} (h : ArgsFit Tryz.prog [] cs) : cs = [] := h

end Go.Proofs.YtbhbmnofmoibhaaGreat

/- The facts of the program that every statement's join asks. No condition. -/
namespace Go.Proofs.YtbhbmnofmoibhaaGreat
open Go Go.Abs
open Go.ChangeShapes Go.WideShapes Go.ChangeAt Go.RowKit

theorem J.own : ownKnob Tryz.prog.godebug = none := by kernel_rfl
theorem J.laid : laidOutB Tryz.prog = true := by kernel_rfl
theorem J.maps : mapsRowed Tryz.prog = true := by kernel_rfl
theorem J.sized : noEmptyB Tryz.prog = true := by kernel_rfl
theorem J.ub : Tryz.prog.underlying 4 = some .bool := by kernel_rfl
end Go.Proofs.YtbhbmnofmoibhaaGreat

