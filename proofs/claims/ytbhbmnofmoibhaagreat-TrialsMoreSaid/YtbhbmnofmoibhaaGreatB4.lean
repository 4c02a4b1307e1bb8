/- The machine of abstract values and the contracts of the functions of the program, which the statements of this seat share. No condition. -/
import Derived.Test.YtbhbmnofmoibhaaGreatB3

set_option linter.unusedSimpArgs false
set_option linter.unusedVariables false
set_option linter.constructorNameAsVariable false

namespace Go.Proofs.YtbhbmnofmoibhaaGreat
open Go Go.Abs

set_option maxHeartbeats 4000000

theorem ref42 (w : Wh) (nl fu : Bool) (l : List Wl) (t : Tr) (hw : WhOk w) (hl : ∀ y ∈ l, WlOk w y) (hn : l.length ≤ 1000) (ht : TrOk t) : Pure Tryz.prog 120 [encWh w, sWl nl fu l, encTr t] (encI (wrongsN w l t)) := by
  refine pure_of (fn := Tryz.f120) [.tmp 6] ⟨Tryz.func120, rfl, by kernel_rfl⟩ (by kernel_rfl) (by kernel_rfl) (by kernel_rfl) fun x hx hσ => ?_
  (repeat refine awp_seq ?_); refine awp_reg1 (by rw [hx]; kernel_rfl) fun K hK => ?_; simp (maxSteps := 1000000) [ty25, ty144]; refine hK _ ?_; clear hK K; (first | show AWP _ _ _ _ _ | show ∃ _, _ | skip)
  (repeat refine awp_seq ?_); refine awp_reg1 (by rw [hx]; kernel_rfl) fun K hK => ?_; simp (maxSteps := 1000000) []; refine hK _ ?_; clear hK K; (first | show AWP _ _ _ _ _ | show ∃ _, _ | skip)
  (repeat refine awp_seq ?_); refine awp_reg1 (by rw [hx]; kernel_rfl) fun K hK => ?_; simp (maxSteps := 1000000) []; refine hK _ ?_; clear hK K; (first | show AWP _ _ _ _ _ | show ∃ _, _ | skip)
  (repeat refine awp_seq ?_); refine awp_block ?_
  refine awp_loop (fun i : Nat => ⟨ofL [(1, sWl nl fu l), (3, .ptr 3 8 0 0), (5, .ptr 5 2 0 0), (7, encI (wrongsN w (l.take i) t)), (8, encI i)], stoT [(3, 3, .live (obWh w)), (5, 5, .live (obTr t))]⟩)
    (fun i => i ≤ l.length) (fun i => l.length - i) 0 (by simp) ?_ ?_
  · refine wk_shape (shp0 hσ (by simp) (by simp) ?_) ?_
    · simp [SlotOk] <;> (repeat' (first | exact .same (by simp [purel, C.isPure]) | exact .cons (by simp [mtl, mtc, mT, mH, C.isPure, purel]) (by simp) .nil | refine And.intro ?_ ?_))
    · simp [mtc, mtl, mT, C.isPure, purel, wrongsN] <;> (try simp (disch := omega) [wrap_id]) <;> (try omega)
  · intro i hi
    (repeat refine awp_seq ?_); refine awp_reg1 (by rw [hx]; kernel_rfl) fun K hK => ?_; simp (maxSteps := 1000000) [ty62, ty3]; refine hK _ ?_; clear hK K; (first | show AWP _ _ _ _ _ | show ∃ _, _ | skip)
    (repeat refine awp_seq ?_); refine awp_cond (by simp; rfl) (by rw [hx]; simp) (fun hc => ?_) (fun hc => ?_)
    · simp at hc
      refine awp_skip ?_; (first | show AWP _ _ _ _ _ | show ∃ _, _ | skip)
      (repeat refine awp_seq ?_); refine awp_block ?_
      (repeat refine awp_seq ?_); refine awp_drw3 [] [0, 1, 2, 3, 4, 5, 6, 7] (by rw [hx]; kernel_rfl) (by kernel_rfl) (by kernel_rfl) (by kernel_rfl) fun K hK => ?_; simp (maxSteps := 1000000) [ty25, ty62, ty93, ty144, hc]
      refine callPD (ref43 w l[i] t hw (hl _ (List.getElem_mem hc)) ht) (by first | (simp; done) | (simp [*]; done)) (by simp) ?_; simp (maxSteps := 1000000) [ty4]
      refine hK _ ?_; clear hK K; (first | show AWP _ _ _ _ _ | show ∃ _, _ | skip)
      have hst := wrongsN_step w l t hc
      have hle := wrongsN_le w (l.take i) t
      rw [List.length_take] at hle
      cases hb : rightB w l[i] t
      · rw [hb] at hst
        simp at hst
        (repeat refine awp_seq ?_); refine awp_cond (by simp [hb]; rfl) (by rw [hx]; simp) (fun hd => ?_) (fun hd => ?_)
        · clear hd
          (repeat refine awp_seq ?_); refine awp_reg1 (by rw [hx]; kernel_rfl) fun K hK => ?_; simp (maxSteps := 1000000) [ty3]; refine hK _ ?_; clear hK K; (first | show AWP _ _ _ _ _ | show ∃ _, _ | skip)
          (repeat refine awp_seq ?_); refine awp_reg1 (by rw [hx]; kernel_rfl) fun K hK => ?_; simp (maxSteps := 1000000) [ty3]; refine hK _ ?_; clear hK K; (first | show AWP _ _ _ _ _ | show ∃ _, _ | skip)
          refine ⟨i + 1, by omega, by omega, ?_⟩
          refine wk_shape (shp0 hσ (by simp) (by simp) ?_) ?_
          · simp [SlotOk] <;> (repeat' (first | exact .same (by simp [purel, C.isPure]) | exact .cons (by simp [mtl, mtc, mT, mH, C.isPure, purel]) (by simp) .nil | refine And.intro ?_ ?_))
          · simp [mtc, mtl, mT, C.isPure, purel, hst] <;> (try simp (disch := omega) [wrap_id]) <;> (try omega)
        · simp at hd
      · rw [hb] at hst
        simp at hst
        (repeat refine awp_seq ?_); refine awp_cond (by simp [hb]; rfl) (by rw [hx]; simp) (fun hd => ?_) (fun hd => ?_)
        · simp at hd
        · clear hd
          refine awp_skip ?_; (first | show AWP _ _ _ _ _ | show ∃ _, _ | skip)
          (repeat refine awp_seq ?_); refine awp_reg1 (by rw [hx]; kernel_rfl) fun K hK => ?_; simp (maxSteps := 1000000) [ty3]; refine hK _ ?_; clear hK K; (first | show AWP _ _ _ _ _ | show ∃ _, _ | skip)
          refine ⟨i + 1, by omega, by omega, ?_⟩
          refine wk_shape (shp0 hσ (by simp) (by simp) ?_) ?_
          · simp [SlotOk] <;> (repeat' (first | exact .same (by simp [purel, C.isPure]) | exact .cons (by simp [mtl, mtc, mT, mH, C.isPure, purel]) (by simp) .nil | refine And.intro ?_ ?_))
          · simp [mtc, mtl, mT, C.isPure, purel, hst] <;> (try simp (disch := omega) [wrap_id]) <;> (try omega)
    · simp at hc
      (repeat refine awp_seq ?_); refine awp_exit ?_; (first | show AWP _ _ _ _ _ | show ∃ _, _ | skip)
      (repeat refine awp_seq ?_); refine awp_reg1 (by rw [hx]; kernel_rfl) fun K hK => ?_; simp (maxSteps := 1000000) []; refine hK _ ?_; clear hK K; (first | show AWP _ _ _ _ _ | show ∃ _, _ | skip)
      (repeat refine awp_seq ?_); refine awp_ret ?_; refine And.intro (Or.inr rfl) ?_
      have : i = l.length := by omega
      subst this
      rw [List.take_length]
      simp [retC, resC, viewC, mapO]

def isTruthB (w : Wh) (l : List Wl) (t : Tr) : Bool := withinB t.area w.glow w.ghigh && withinB t.skew (-w.skew) w.skew && isT w l t

theorem ref40 (w : Wh) (nl fu : Bool) (l : List Wl) (t : Tr) (hw : WhOk w) (hl : ∀ y ∈ l, WlOk w y) (hn : l.length ≤ 1000) : Pure Tryz.prog 115 [encWh w, sWl nl fu l, encTr t] (.bool (isTruthB w l t)) := by
  have hs := hw.skew
  have hg := hw.guess
  have hwr : IntKind.i64.wrap (-w.skew) = -w.skew := wrap_id (by omega) (by omega)
  have c1 := within60 t.area w.glow w.ghigh
  have c2 := within60 t.skew (-w.skew) w.skew
  refine pure_of (fn := Tryz.f115) [.tmp 6] ⟨Tryz.func115, rfl, by kernel_rfl⟩ (by kernel_rfl) (by kernel_rfl) (by kernel_rfl) fun x hx hσ => ?_
  (repeat refine awp_seq ?_); refine awp_reg1 (by rw [hx]; kernel_rfl) fun K hK => ?_; simp (maxSteps := 1000000) [ty25, ty144]; refine hK _ ?_; clear hK K; (first | show AWP _ _ _ _ _ | show ∃ _, _ | skip)
  cases h1 : withinB t.area w.glow w.ghigh
  · rw [h1] at c1
    (repeat refine awp_seq ?_); refine awp_drw3 [] [0, 1, 2, 3, 4, 5, 6, 7, 8, 9, 10, 11, 12, 13, 14, 15, 16, 17, 18, 19, 20, 21, 22, 23, 24, 25, 26, 27, 28] (by rw [hx]; kernel_rfl) (by kernel_rfl) (by kernel_rfl) (by kernel_rfl) fun K hK => ?_; simp (maxSteps := 1000000) [ty25, ty144, ty23, ty3]
    refine callPD (c1) (by first | (simp; done) | (simp [*]; done)) (by simp) ?_; simp (maxSteps := 1000000) [ty4]
    refine hK _ ?_; clear hK K; (first | show AWP _ _ _ _ _ | show ∃ _, _ | skip)
    (repeat refine awp_seq ?_); refine awp_ret ?_; refine And.intro (Or.inr rfl) ?_
    simp [retC, resC, viewC, mapO, isTruthB, h1]
  · rw [h1] at c1
    cases h2 : withinB t.skew (-w.skew) w.skew
    · rw [h2] at c2
      (repeat refine awp_seq ?_); refine awp_drw3 [] [0, 1, 2, 3, 4, 5, 6, 7, 8, 9, 10, 11, 12, 13, 14, 15, 16, 17, 18, 19, 20, 21, 22, 23, 24, 25, 26, 27, 28] (by rw [hx]; kernel_rfl) (by kernel_rfl) (by kernel_rfl) (by kernel_rfl) fun K hK => ?_; simp (maxSteps := 1000000) [ty25, ty144, ty23, ty3]
      refine callPD (c1) (by first | (simp; done) | (simp [*]; done)) (by simp) ?_; simp (maxSteps := 1000000) [ty4, ty144, ty25, ty3, hwr]
      refine callPD (c2) (by first | (simp; done) | (simp [*]; done)) (by simp) ?_; simp (maxSteps := 1000000) [ty4]
      refine hK _ ?_; clear hK K; (first | show AWP _ _ _ _ _ | show ∃ _, _ | skip)
      (repeat refine awp_seq ?_); refine awp_ret ?_; refine And.intro (Or.inr rfl) ?_
      simp [retC, resC, viewC, mapO, isTruthB, h1, h2]
    · rw [h2] at c2
      have h3 : w.glow ≤ t.area ∧ t.area ≤ w.ghigh := by simpa [withinB] using h1
      have h4 : -w.skew ≤ t.skew ∧ t.skew ≤ w.skew := by simpa [withinB] using h2
      (repeat refine awp_seq ?_); refine awp_drw3 [] [0, 1, 2, 3, 4, 5, 6, 7, 8, 9, 10, 11, 12, 13, 14, 15, 16, 17, 18, 19, 20, 21, 22, 23, 24, 25, 26, 27, 28] (by rw [hx]; kernel_rfl) (by kernel_rfl) (by kernel_rfl) (by kernel_rfl) fun K hK => ?_; simp (maxSteps := 1000000) [ty25, ty144, ty23, ty3]
      refine callPD (c1) (by first | (simp; done) | (simp [*]; done)) (by simp) ?_; simp (maxSteps := 1000000) [ty4, ty144, ty25, ty3, hwr]
      refine callPD (c2) (by first | (simp; done) | (simp [*]; done)) (by simp) ?_; simp (maxSteps := 1000000) [ty4, ty25, ty62, ty144]
      refine callPD (ref42 w nl fu l t hw hl hn ⟨by omega, by omega⟩) (by first | (simp; done) | (simp [*]; done)) (by simp) ?_; simp (maxSteps := 1000000) [ty4, ty25, ty3]
      refine hK _ ?_; clear hK K; (first | show AWP _ _ _ _ _ | show ∃ _, _ | skip)
      (repeat refine awp_seq ?_); refine awp_ret ?_; refine And.intro (Or.inr rfl) ?_
      simp [retC, resC, viewC, mapO, isTruthB, h1, h2, isT]

theorem isTruthB_all {w : Wh} {l : List Wl} {t : Tr} (ht : t ∈ allT w) : isTruthB w l t = isT w l t := by
  have := allT_mem.1 ht
  simp [isTruthB, withinB, this]

@[simp] abbrev obTs (L : List Tr) : Ob := ⟨L.isEmpty, false, 2, L.map cTr⟩

def upT (w : Wh) (n : Nat) : List Tr := (allT w).take n
@[simp] theorem upT_zero (w : Wh) : upT w 0 = [] := rfl
theorem upT_len {w : Wh} {n : Nat} (h : n ≤ nA w * nS w) : (upT w n).length = n := by rw [upT, List.length_take, allT_len]; omega
theorem upT_step {w : Wh} {a s : Nat} (ha : a < nA w) (hs : s < nS w) : upT w (a * nS w + s + 1) = upT w (a * nS w + s) ++ [⟨w.glow + a, -w.skew + s⟩] := by
  unfold upT
  have h1 : a * nS w + s < (allT w).length := by rw [allT_len]; exact in_rows ha hs
  rw [List.take_succ_eq_append_getElem h1]
  have h2 := allT_get ha hs
  rw [List.getElem?_eq_getElem h1] at h2
  rw [Option.some.inj h2]

theorem ref68 (w : Wh) (hw : WhOk w) : Fresh Tryz.prog 114 [encWh w] (obTs (allT w)) := by
  have hs := hw.skew
  have hg := hw.guess
  have hA : (nA w : Int) = w.ghigh - w.glow + 1 := by unfold nA; omega
  have hS : (nS w : Int) = 2 * w.skew + 1 := by unfold nS; omega
  have hwr : IntKind.i64.wrap (-w.skew) = -w.skew := wrap_id (by omega) (by omega)
  have hbA : nA w ≤ 10000 := by omega
  have hbS : nS w ≤ 41 := by omega
  have hlen := allT_len w
  have hNN : nA w * nS w ≤ 410000 := by
    have : nA w * nS w ≤ 10000 * 41 := Nat.mul_le_mul hbA hbS
    omega
  refine fresh_of (fn := Tryz.f114) [.tmp 2] ⟨Tryz.func114, rfl, by kernel_rfl⟩ (by kernel_rfl) (by kernel_rfl) (by kernel_rfl) fun x hx hσ => ?_
  (repeat refine awp_seq ?_); refine awp_reg1 (by rw [hx]; kernel_rfl) fun K hK => ?_; simp (maxSteps := 1000000) [ty25]; refine hK _ ?_; clear hK K; (first | show AWP _ _ _ _ _ | show ∃ _, _ | skip)
  (repeat refine awp_seq ?_); refine awp_reg1 (by rw [hx]; kernel_rfl) fun K hK => ?_; simp (maxSteps := 1000000) []; refine hK _ ?_; clear hK K; (first | show AWP _ _ _ _ _ | show ∃ _, _ | skip)
  (repeat refine awp_seq ?_); refine awp_reg1 (by rw [hx]; kernel_rfl) fun K hK => ?_; simp (maxSteps := 1000000) [ty25, ty23, ty3]; refine hK _ ?_; clear hK K; (first | show AWP _ _ _ _ _ | show ∃ _, _ | skip)
  (repeat refine awp_seq ?_); refine awp_block ?_
  refine AWP.weak ?_ (wk_nil 3 3 2 (fu := true) (by simp) (by simp))
  refine awp_loop (fun a : Nat => ⟨ofL [(1, .ptr 1 8 0 0), (3, .own 3 2 0 (a * nS w)), (4, encI (w.glow + a))], stoT [(1, 1, .live (obWh w)), (3, 3, .live (obTs (upT w (a * nS w))))]⟩)
    (fun a => a ≤ nA w) (fun a => nA w - a) 0 (by simp) ?_ ?_
  · refine wk_shape (shp0 hσ (by simp) (by simp) ?_) ?_
    · simp [SlotOk] <;> (repeat' (first | exact .same (by simp [purel, C.isPure]) | exact .cons (by simp [mtl, mtc, mT, mH, C.isPure, purel]) (by simp) .nil | refine And.intro ?_ ?_))
    · simp [mtc, mtl, mT, C.isPure, purel] <;> (try simp (disch := omega) [wrap_id]) <;> (try omega)
  · intro a ha
    (repeat refine awp_seq ?_); refine awp_reg1 (by rw [hx]; kernel_rfl) fun K hK => ?_; simp (maxSteps := 1000000) [ty25, ty23, ty3]; refine hK _ ?_; clear hK K; (first | show AWP _ _ _ _ _ | show ∃ _, _ | skip)
    (repeat refine awp_seq ?_); refine awp_cond (by simp; rfl) (by rw [hx]; simp) (fun hc => ?_) (fun hc => ?_)
    · simp at hc
      have haA : a < nA w := by omega
      refine awp_skip ?_; (first | show AWP _ _ _ _ _ | show ∃ _, _ | skip)
      (repeat refine awp_seq ?_); refine awp_block ?_
      (repeat refine awp_seq ?_); refine awp_reg1 (by rw [hx]; kernel_rfl) fun K hK => ?_; simp (maxSteps := 1000000) [ty25, ty3]; refine hK _ ?_; clear hK K; (first | show AWP _ _ _ _ _ | show ∃ _, _ | skip)
      rw [hwr]
      (repeat refine awp_seq ?_); refine awp_block ?_
      refine awp_loop (fun s : Nat => ⟨ofL [(1, .ptr 1 8 0 0), (3, .own 3 2 0 (a * nS w + s)), (4, encI (w.glow + a)), (5, encI (-w.skew + s))], stoT [(1, 1, .live (obWh w)), (3, 3, .live (obTs (upT w (a * nS w + s))))]⟩)
        (fun s => s ≤ nS w) (fun s => nS w - s) 0 (by simp) ?_ ?_
      · refine wk_shape (shp0 hσ (by simp) (by simp) ?_) ?_
        · simp [SlotOk] <;> (repeat' (first | exact .same (by simp [purel, C.isPure]) | exact .cons (by simp [mtl, mtc, mT, mH, C.isPure, purel]) (by simp) .nil | refine And.intro ?_ ?_))
        · simp [mtc, mtl, mT, C.isPure, purel] <;> (try simp (disch := omega) [wrap_id]) <;> (try omega)
      · intro s hsS
        have hle : a * nS w + s ≤ nA w * nS w := by
          have : (a + 1) * nS w ≤ nA w * nS w := Nat.mul_le_mul_right _ (by omega)
          rw [Nat.add_mul] at this; omega
        have hlt := upT_len hle
        (repeat refine awp_seq ?_); refine awp_reg1 (by rw [hx]; kernel_rfl) fun K hK => ?_; simp (maxSteps := 1000000) [ty25, ty3]; refine hK _ ?_; clear hK K; (first | show AWP _ _ _ _ _ | show ∃ _, _ | skip)
        (repeat refine awp_seq ?_); refine awp_cond (by simp; rfl) (by rw [hx]; simp) (fun hc2 => ?_) (fun hc2 => ?_)
        · simp at hc2
          have hsl : s < nS w := by omega
          refine awp_skip ?_; (first | show AWP _ _ _ _ _ | show ∃ _, _ | skip)
          (repeat refine awp_seq ?_); refine awp_block ?_
          have hst := upT_step haA hsl
          (repeat refine awp_seq ?_); refine awp_reg1 (by rw [hx]; kernel_rfl) fun K hK => ?_; simp (maxSteps := 1000000) [ty144, ty140, ty3, hlt]
          refine ⟨by omega, ?_⟩
          refine hK _ ?_; clear hK K; (first | show AWP _ _ _ _ _ | show ∃ _, _ | skip)
          (repeat refine awp_seq ?_); refine awp_reg1 (by rw [hx]; kernel_rfl) fun K hK => ?_; simp (maxSteps := 1000000) [ty3]; refine hK _ ?_; clear hK K; (first | show AWP _ _ _ _ _ | show ∃ _, _ | skip)
          rw [wrap_id (by omega) (by omega)]
          refine ⟨s + 1, by omega, by omega, ?_⟩
          refine wk_shape (T := [(1, 1, .live (obWh w)), (3, 30, .live (obTs (upT w (a * nS w + (s + 1)))))]) (shp0 hσ (by simp) (by simp) ?_) ?_
          · simp [SlotOk, ← Nat.add_assoc, hst]
            exact ⟨.same (by simp [purel, C.isPure]), .same (by simp [purel, C.isPure])⟩
          · simp [mtc, mtl, mT, C.isPure, ← Nat.add_assoc]
            omega
        · simp at hc2
          (repeat refine awp_seq ?_); refine awp_exit ?_; (first | show AWP _ _ _ _ _ | show ∃ _, _ | skip)
          have hsn : s = nS w := by omega
          (repeat refine awp_seq ?_); refine awp_reg1 (by rw [hx]; kernel_rfl) fun K hK => ?_; simp (maxSteps := 1000000) [ty3]; refine hK _ ?_; clear hK K; (first | show AWP _ _ _ _ _ | show ∃ _, _ | skip)
          rw [wrap_id (by omega) (by omega)]
          have hsa : a * nS w + s = (a + 1) * nS w := by rw [hsn, Nat.add_mul, Nat.one_mul]
          rw [hsa]
          refine ⟨a + 1, by omega, by omega, ?_⟩
          refine wk_shape (shp0 hσ (by simp) (by simp) ?_) ?_
          · simp [SlotOk] <;> (repeat' (first | exact .same (by simp [purel, C.isPure]) | exact .cons (by simp [mtl, mtc, mT, mH, C.isPure, purel]) (by simp) .nil | refine And.intro ?_ ?_))
          · simp [mtc, mtl, mT, C.isPure, purel] <;> (try simp (disch := omega) [wrap_id]) <;> (try omega)
    · simp at hc
      (repeat refine awp_seq ?_); refine awp_exit ?_; (first | show AWP _ _ _ _ _ | show ∃ _, _ | skip)
      have han : a = nA w := by omega
      have hal : upT w (a * nS w) = allT w := by rw [upT, han, ← hlen, List.take_length]
      rw [hal]
      (repeat refine awp_seq ?_); refine awp_reg1 (by rw [hx]; kernel_rfl) fun K hK => ?_; simp (maxSteps := 1000000) []; refine hK _ ?_; clear hK K; (first | show AWP _ _ _ _ _ | show ∃ _, _ | skip)
      (repeat refine awp_seq ?_)
      refine awp_ret ?_
      refine ⟨.inr rfl, .inl ⟨3, ?_, ?_, ?_⟩⟩
      · simp [retC, resC, viewC, mapO, hlen, han]
      · simp
      · simp [purel, C.isPure]

end Go.Proofs.YtbhbmnofmoibhaaGreat

namespace Go.Proofs.YtbhbmnofmoibhaaGreat
open Go Go.Abs

set_option maxHeartbeats 4000000

-- trials: all gains with all skews

/-- The wheel whose areas are the gains. -/
def gwT (t : Ti) : Wh := { t.w with glow := -t.gain, ghigh := t.gain }

/-- A trial that is valid as to its numbers. -/
structure TiNum (t : Ti) : Prop where
  gain : 0 ≤ t.gain ∧ t.gain ≤ 50
  skew : 0 ≤ t.w.skew ∧ t.w.skew ≤ 20

@[simp] abbrev obTi (t : Ti) : Ob := ⟨false, false, 10, [cTi t]⟩

theorem every98 (t : Ti) (hw : TiNum t) : Fresh Tryz.prog 98 [encTi t] (obTs (allT (gwT t))) := by
  have hs := hw.skew
  have hg := hw.gain
  have hA : (nA (gwT t) : Int) = t.gain - -t.gain + 1 := by unfold nA gwT; simp only; omega
  have hS : (nS (gwT t) : Int) = 2 * t.w.skew + 1 := by unfold nS gwT; simp only; omega
  have hwr : IntKind.i64.wrap (-t.w.skew) = -t.w.skew := wrap_id (by omega) (by omega)
  have hwg : IntKind.i64.wrap (-t.gain) = -t.gain := wrap_id (by omega) (by omega)
  have hbA : nA (gwT t) ≤ 101 := by omega
  have hbS : nS (gwT t) ≤ 41 := by omega
  have hlen := allT_len (gwT t)
  have hNN : nA (gwT t) * nS (gwT t) ≤ 410000 := by
    have : nA (gwT t) * nS (gwT t) ≤ 101 * 41 := Nat.mul_le_mul hbA hbS
    omega
  have hst0 : ∀ {a s : Nat} (ha : a < nA (gwT t)) (hs : s < nS (gwT t)), upT (gwT t) (a * nS (gwT t) + s + 1) = upT (gwT t) (a * nS (gwT t) + s) ++ [⟨-t.gain + a, -t.w.skew + s⟩] := fun ha hs => upT_step ha hs
  have hal0 : ∀ a, a = nA (gwT t) → upT (gwT t) (a * nS (gwT t)) = allT (gwT t) := fun a ha => by rw [upT, ha, ← hlen, List.take_length]
  have hul : ∀ {n}, n ≤ nA (gwT t) * nS (gwT t) → (upT (gwT t) n).length = n := fun h => upT_len h
  have hu0 : upT (gwT t) 0 = [] := rfl
  generalize hU : upT (gwT t) = U at *
  generalize hAl : allT (gwT t) = Al at *
  generalize nA (gwT t) = A at *
  generalize nS (gwT t) = S at *
  refine fresh_of (fn := Tryz.f98) [.tmp 2] ⟨Tryz.func98, rfl, by kernel_rfl⟩ (by kernel_rfl) (by kernel_rfl) (by kernel_rfl) fun x hx hσ => ?_
  (repeat refine awp_seq ?_); refine awp_reg1 (by rw [hx]; kernel_rfl) fun K hK => ?_; simp (maxSteps := 1000000) [ty28]; refine hK _ ?_; clear hK K; (first | show AWP _ _ _ _ _ | show ∃ _, _ | skip)
  (repeat refine awp_seq ?_); refine awp_reg1 (by rw [hx]; kernel_rfl) fun K hK => ?_; simp (maxSteps := 1000000) [ty28, ty3]; refine hK _ ?_; clear hK K; (first | show AWP _ _ _ _ _ | show ∃ _, _ | skip)
  rw [hwg]
  (repeat refine awp_seq ?_); refine awp_block ?_
  refine AWP.weak ?_ (wk_nil 2 2 2 (fu := true) (by simp) (by simp))
  refine awp_loop (fun a : Nat => ⟨ofL [(1, .ptr 1 10 0 0), (2, .own 2 2 0 (a * S)), (3, encI (-t.gain + a))], stoT [(1, 1, .live (obTi t)), (2, 2, .live (obTs (U (a * S))))]⟩)
    (fun a => a ≤ A) (fun a => A - a) 0 (by simp) ?_ ?_
  · simp only [Nat.zero_mul, hu0]
    refine wk_shape (shp0 hσ (by simp) (by simp) ?_) ?_
    · simp [SlotOk] <;> (repeat' (first | exact .same (by simp [purel, C.isPure]) | exact .cons (by simp [mtl, mtc, mT, mH, C.isPure, purel]) (by simp) .nil | refine And.intro ?_ ?_))
    · simp [mtc, mtl, mT, C.isPure, purel] <;> (try simp (disch := omega) [wrap_id]) <;> (try omega)
  · intro a ha
    (repeat refine awp_seq ?_); refine awp_reg1 (by rw [hx]; kernel_rfl) fun K hK => ?_; simp (maxSteps := 1000000) [ty28, ty3]; refine hK _ ?_; clear hK K; (first | show AWP _ _ _ _ _ | show ∃ _, _ | skip)
    (repeat refine awp_seq ?_); refine awp_cond (by simp; rfl) (by rw [hx]; simp) (fun hc => ?_) (fun hc => ?_)
    · simp at hc
      have haA : a < A := by omega
      refine awp_skip ?_; (first | show AWP _ _ _ _ _ | show ∃ _, _ | skip)
      (repeat refine awp_seq ?_); refine awp_block ?_
      (repeat refine awp_seq ?_); refine awp_reg1 (by rw [hx]; kernel_rfl) fun K hK => ?_; simp (maxSteps := 1000000) [ty28, ty25, ty3]; refine hK _ ?_; clear hK K; (first | show AWP _ _ _ _ _ | show ∃ _, _ | skip)
      rw [hwr]
      (repeat refine awp_seq ?_); refine awp_block ?_
      refine awp_loop (fun s : Nat => ⟨ofL [(1, .ptr 1 10 0 0), (2, .own 2 2 0 (a * S + s)), (3, encI (-t.gain + a)), (4, encI (-t.w.skew + s))], stoT [(1, 1, .live (obTi t)), (2, 2, .live (obTs (U (a * S + s))))]⟩)
        (fun s => s ≤ S) (fun s => S - s) 0 (by simp) ?_ ?_
      · refine wk_shape (shp0 hσ (by simp) (by simp) ?_) ?_
        · simp [SlotOk] <;> (repeat' (first | exact .same (by simp [purel, C.isPure]) | exact .cons (by simp [mtl, mtc, mT, mH, C.isPure, purel]) (by simp) .nil | refine And.intro ?_ ?_))
        · simp [mtc, mtl, mT, C.isPure, purel] <;> (try simp (disch := omega) [wrap_id]) <;> (try omega)
      · intro s hsS
        have hle : a * S + s ≤ A * S := by
          have : (a + 1) * S ≤ A * S := Nat.mul_le_mul_right _ (by omega)
          rw [Nat.add_mul] at this; omega
        have hlt := hul hle
        (repeat refine awp_seq ?_); refine awp_reg1 (by rw [hx]; kernel_rfl) fun K hK => ?_; simp (maxSteps := 1000000) [ty28, ty25, ty3]; refine hK _ ?_; clear hK K; (first | show AWP _ _ _ _ _ | show ∃ _, _ | skip)
        (repeat refine awp_seq ?_); refine awp_cond (by simp; rfl) (by rw [hx]; simp) (fun hc2 => ?_) (fun hc2 => ?_)
        · simp at hc2
          have hsl : s < S := by omega
          refine awp_skip ?_; (first | show AWP _ _ _ _ _ | show ∃ _, _ | skip)
          (repeat refine awp_seq ?_); refine awp_block ?_
          have hst := hst0 haA hsl
          (repeat refine awp_seq ?_); refine awp_reg1 (by rw [hx]; kernel_rfl) fun K hK => ?_; simp (maxSteps := 1000000) [ty88, ty133, ty3, hlt]
          refine ⟨by omega, ?_⟩
          refine hK _ ?_; clear hK K; (first | show AWP _ _ _ _ _ | show ∃ _, _ | skip)
          (repeat refine awp_seq ?_); refine awp_reg1 (by rw [hx]; kernel_rfl) fun K hK => ?_; simp (maxSteps := 1000000) [ty3]; refine hK _ ?_; clear hK K; (first | show AWP _ _ _ _ _ | show ∃ _, _ | skip)
          rw [wrap_id (by omega) (by omega)]
          refine ⟨s + 1, by omega, by omega, ?_⟩
          refine wk_shape (T := [(1, 1, .live (obTi t)), (2, 30, .live (obTs (U (a * S + (s + 1)))))]) (shp0 hσ (by simp) (by simp) ?_) ?_
          · simp [SlotOk, ← Nat.add_assoc, hst]
            exact ⟨.same (by simp [purel, C.isPure]), .same (by simp [purel, C.isPure])⟩
          · simp [mtc, mtl, mT, C.isPure, ← Nat.add_assoc]
            omega
        · simp at hc2
          (repeat refine awp_seq ?_); refine awp_exit ?_; (first | show AWP _ _ _ _ _ | show ∃ _, _ | skip)
          have hsn : s = S := by omega
          (repeat refine awp_seq ?_); refine awp_reg1 (by rw [hx]; kernel_rfl) fun K hK => ?_; simp (maxSteps := 1000000) [ty3]; refine hK _ ?_; clear hK K; (first | show AWP _ _ _ _ _ | show ∃ _, _ | skip)
          rw [wrap_id (by omega) (by omega)]
          have hsa : a * S + s = (a + 1) * S := by rw [hsn, Nat.add_mul, Nat.one_mul]
          rw [hsa]
          refine ⟨a + 1, by omega, by omega, ?_⟩
          refine wk_shape (shp0 hσ (by simp) (by simp) ?_) ?_
          · simp [SlotOk] <;> (repeat' (first | exact .same (by simp [purel, C.isPure]) | exact .cons (by simp [mtl, mtc, mT, mH, C.isPure, purel]) (by simp) .nil | refine And.intro ?_ ?_))
          · simp [mtc, mtl, mT, C.isPure, purel] <;> (try simp (disch := omega) [wrap_id]) <;> (try omega)
    · simp at hc
      (repeat refine awp_seq ?_); refine awp_exit ?_; (first | show AWP _ _ _ _ _ | show ∃ _, _ | skip)
      have han : a = A := by omega
      have hal := hal0 a han
      rw [hal]
      (repeat refine awp_seq ?_); refine awp_reg1 (by rw [hx]; kernel_rfl) fun K hK => ?_; simp (maxSteps := 1000000) []; refine hK _ ?_; clear hK K; (first | show AWP _ _ _ _ _ | show ∃ _, _ | skip)
      (repeat refine awp_seq ?_)
      refine awp_ret ?_
      refine ⟨.inr rfl, .inl ⟨2, ?_, ?_, ?_⟩⟩
      · simp [retC, resC, viewC, mapO, hlen, han]
      · simp
      · simp [purel, C.isPure]

end Go.Proofs.YtbhbmnofmoibhaaGreat

namespace Go.Proofs.YtbhbmnofmoibhaaGreat
open Go Go.Abs

set_option maxHeartbeats 4000000

@[simp] theorem take_cTr (L : List Tr) : List.take L.length (L.map cTr) = L.map cTr := List.take_of_length_le (by simp)

def knownL (w : Wh) (l : List Wl) (is : Bool) : List Tr := if openI w l is = 0 then truthsL w l else []
@[simp] abbrev slT (L : List Tr) : C := .sl L.isEmpty L.isEmpty (L.map cTr)

theorem openI_bad {w : Wh} {l : List Wl} {is : Bool} (h : checkI w l ≠ 0) : openI w l is = checkI w l := by simp [openI, h]
theorem openI_f {w : Wh} {l : List Wl} (h : checkI w l = 0) : openI w l false = 1 := by simp [openI, h]
theorem openI_no {w : Wh} {l : List Wl} (h : checkI w l = 0) (h2 : truthsL w l = []) : openI w l true = 3 := by simp [openI, h, h2]
theorem openI_yes {w : Wh} {l : List Wl} (h : checkI w l = 0) (h2 : truthsL w l ≠ []) : openI w l true = 0 := by simp [openI, h, h2]

theorem filter_step {α : Type} (p : α → Bool) {L : List α} {i : Nat} (hi : i < L.length) : (L.take (i + 1)).filter p = (L.take i).filter p ++ if p L[i] then [L[i]] else [] := by
  rw [List.take_succ_eq_append_getElem hi, List.filter_append]
  cases h : p L[i] <;> simp [h]

theorem ref52 (w : Wh) (nl fu is : Bool) (l : List Wl) (hn : l.length ≤ 1000) : Pure Tryz.prog 104 [encWh w, sWl nl fu l, .bool is] (.tup [slT (knownL w l is), encI (openI w l is)]) := by
  refine pure_of (fn := Tryz.f104) [.tmp 6, .tmp 7] ⟨Tryz.func104, rfl, by kernel_rfl⟩ (by kernel_rfl) (by kernel_rfl) (by kernel_rfl) fun x hx hσ => ?_
  (repeat refine awp_seq ?_); refine awp_reg1 (by rw [hx]; kernel_rfl) fun K hK => ?_; simp (maxSteps := 1000000) [ty25]; refine hK _ ?_; clear hK K; (first | show AWP _ _ _ _ _ | show ∃ _, _ | skip)
  (repeat refine awp_seq ?_); refine awp_reg1 (by rw [hx]; kernel_rfl) fun K hK => ?_; simp (maxSteps := 1000000) [ty25]
  refine callP (ref31 w nl fu l hn) (by first | (simp; done) | (simp [*]; done)) ?_; simp (maxSteps := 1000000) []
  refine hK _ ?_; clear hK K; (first | show AWP _ _ _ _ _ | show ∃ _, _ | skip)
  (repeat refine awp_seq ?_); refine awp_reg1 (by rw [hx]; kernel_rfl) fun K hK => ?_; simp (maxSteps := 1000000) [ty36]; refine hK _ ?_; clear hK K; (first | show AWP _ _ _ _ _ | show ∃ _, _ | skip)
  by_cases hz : checkI w l = 0
  · obtain ⟨hw, hl, h8⟩ := checkI_ok hz
    have hbd := allT_bd hw
    (repeat refine awp_seq ?_); refine awp_cond (by simp [hz]; rfl) (by rw [hx]; simp) (fun hd => ?_) (fun hd => ?_)
    · simp at hd
    · clear hd
      refine awp_skip ?_; (first | show AWP _ _ _ _ _ | show ∃ _, _ | skip)
      (repeat refine awp_seq ?_); refine awp_reg1 (by rw [hx]; kernel_rfl) fun K hK => ?_; simp (maxSteps := 1000000) [ty4]; refine hK _ ?_; clear hK K; (first | show AWP _ _ _ _ _ | show ∃ _, _ | skip)
      cases is
      · have ho := openI_f hz
        (repeat refine awp_seq ?_); refine awp_cond (by simp; rfl) (by rw [hx]; simp) (fun hd => ?_) (fun hd => ?_)
        · clear hd
          (repeat refine awp_seq ?_); refine awp_reg1 (by rw [hx]; kernel_rfl) fun K hK => ?_; simp (maxSteps := 1000000) []; refine hK _ ?_; clear hK K; (first | show AWP _ _ _ _ _ | show ∃ _, _ | skip)
          (repeat refine awp_seq ?_); refine awp_ret ?_; refine And.intro (Or.inr rfl) ?_
          simp [retC, resC, viewC, mapO, knownL, ho]
        · simp at hd
      · (repeat refine awp_seq ?_); refine awp_cond (by simp; rfl) (by rw [hx]; simp) (fun hd => ?_) (fun hd => ?_)
        · simp at hd
        · clear hd
          refine awp_skip ?_; (first | show AWP _ _ _ _ _ | show ∃ _, _ | skip)
          (repeat refine awp_seq ?_); refine awp_reg1 (by rw [hx]; kernel_rfl) fun K hK => ?_; simp (maxSteps := 1000000) []; refine hK _ ?_; clear hK K; (first | show AWP _ _ _ _ _ | show ∃ _, _ | skip)
          (repeat refine awp_seq ?_); refine awp_reg1 (by rw [hx]; kernel_rfl) fun K hK => ?_; simp (maxSteps := 1000000) [ty25]
          refine freshL (ref68 w hw) (by simp [purel, C.isPure]) rfl ?_
          simp
          refine hK _ ?_; clear hK K; (first | show AWP _ _ _ _ _ | show ∃ _, _ | skip)
          (repeat refine awp_seq ?_); refine awp_reg1 (by rw [hx]; kernel_rfl) fun K hK => ?_; simp (maxSteps := 1000000) []; refine hK _ ?_; clear hK K; (first | show AWP _ _ _ _ _ | show ∃ _, _ | skip)
          (repeat refine awp_seq ?_); refine awp_block ?_
          refine AWP.weak ?_ (wk_nil 9 9 2 (fu := true) (by simp) (by simp))
          obtain ⟨O, hO⟩ : ∃ O : Nat → List Tr, O = fun i => ((allT w).take i).filter (isT w l) := ⟨_, rfl⟩
          have hO0 : O 0 = [] := by rw [hO]; rfl
          have hOn : O (allT w).length = truthsL w l := by rw [hO]; simp only [List.take_length]; rfl
          have hOs : ∀ i (hi : i < (allT w).length), O (i + 1) = O i ++ if isT w l (allT w)[i] then [(allT w)[i]] else [] := fun i hi => by
            rw [hO]; exact filter_step _ hi
          have hOl : ∀ i, (O i).length ≤ (allT w).length := fun i => by
            rw [hO]; exact Nat.le_trans (List.length_filter_le _ _) (by simp; omega)
          refine awp_loop (fun i : Nat => ⟨ofL [(1, sWl nl fu l), (3, .ptr 3 8 0 0), (9, .own 9 2 0 (O i).length), (10, .own 21 2 0 (allT w).length), (11, encI i)], stoT [(3, 3, .live (obWh w)), (9, 9, .live (obTs (O i))), (21, 21, .live (obTs (allT w)))]⟩)
            (fun i => i ≤ (allT w).length) (fun i => (allT w).length - i) 0 (by simp) ?_ ?_
          · simp only [hO0]
            refine wk_shape (shp0 hσ (by simp) (by simp) ?_) ?_
            · simp [SlotOk] <;> (repeat' (first | exact .same (by simp [purel, C.isPure]) | exact .cons (by simp [mtl, mtc, mT, mH, C.isPure, purel]) (by simp) .nil | refine And.intro ?_ ?_))
            · simp [mtc, mtl, mT, C.isPure, purel] <;> (try simp (disch := omega) [wrap_id]) <;> (try omega)
          · intro i hi
            have hOli := hOl i
            (repeat refine awp_seq ?_); refine awp_reg1 (by rw [hx]; kernel_rfl) fun K hK => ?_; simp (maxSteps := 1000000) [ty140, ty3]; refine hK _ ?_; clear hK K; (first | show AWP _ _ _ _ _ | show ∃ _, _ | skip)
            (repeat refine awp_seq ?_); refine awp_cond (by simp; rfl) (by rw [hx]; simp) (fun hc => ?_) (fun hc => ?_)
            · simp at hc
              refine awp_skip ?_; (first | show AWP _ _ _ _ _ | show ∃ _, _ | skip)
              (repeat refine awp_seq ?_); refine awp_block ?_
              have hta : (allT w)[i] ∈ allT w := List.getElem_mem hc
              have hne : allT w ≠ [] := List.ne_nil_of_mem hta
              have hst := hOs i hc
              have hwi := wrap_id (z := (i : Int) + 1) (by omega) (by omega)
              have h40 := ref40 w nl fu l (allT w)[i] hw hl hn
              rw [isTruthB_all hta] at h40
              (repeat refine awp_seq ?_); refine awp_drw3 [] [0, 1, 2, 3, 4, 5, 6] (by rw [hx]; kernel_rfl) (by kernel_rfl) (by kernel_rfl) (by kernel_rfl) fun K hK => ?_; simp (maxSteps := 1000000) [ty25, ty62, ty140, ty144, hc, hne]
              refine callPD (h40) (by first | (simp; done) | (simp [*]; done)) (by simp) ?_; simp (maxSteps := 1000000) [ty4]
              refine hK _ ?_; clear hK K; (first | show AWP _ _ _ _ _ | show ∃ _, _ | skip)
              cases hb : isT w l (allT w)[i]
              · rw [hb] at hst
                simp at hst
                (repeat refine awp_seq ?_); refine awp_cond (by simp [hb]; rfl) (by rw [hx]; simp) (fun hd => ?_) (fun hd => ?_)
                · simp at hd
                · clear hd
                  refine awp_skip ?_; (first | show AWP _ _ _ _ _ | show ∃ _, _ | skip)
                  (repeat refine awp_seq ?_); refine awp_reg1 (by rw [hx]; kernel_rfl) fun K hK => ?_; simp (maxSteps := 1000000) [ty3]; refine hK _ ?_; clear hK K; (first | show AWP _ _ _ _ _ | show ∃ _, _ | skip)
                  refine ⟨i + 1, by omega, by omega, ?_⟩
                  rw [hst]
                  refine wk_shape (shp0 hσ (by simp) (by simp) ?_) ?_
                  · simp [SlotOk] <;> (repeat' (first | exact .same (by simp [purel, C.isPure]) | exact .cons (by simp [mtl, mtc, mT, mH, C.isPure, purel]) (by simp) .nil | refine And.intro ?_ ?_))
                  · simp [mtc, mtl, mT, C.isPure, purel, hwi] <;> (try simp (disch := omega) [wrap_id]) <;> (try omega)
              · rw [hb] at hst
                simp at hst
                (repeat refine awp_seq ?_); refine awp_cond (by simp [hb]; rfl) (by rw [hx]; simp) (fun hd => ?_) (fun hd => ?_)
                · clear hd
                  (repeat refine awp_seq ?_); refine awp_reg1 (by rw [hx]; kernel_rfl) fun K hK => ?_; simp (maxSteps := 1000000) [ty140, ty144, hc, hne]
                  refine ⟨by omega, ?_⟩
                  refine hK _ ?_; clear hK K; (first | show AWP _ _ _ _ _ | show ∃ _, _ | skip)
                  (repeat refine awp_seq ?_); refine awp_reg1 (by rw [hx]; kernel_rfl) fun K hK => ?_; simp (maxSteps := 1000000) [ty3]; refine hK _ ?_; clear hK K; (first | show AWP _ _ _ _ _ | show ∃ _, _ | skip)
                  refine ⟨i + 1, by omega, by omega, ?_⟩
                  refine wk_shape (T := [(3, 3, .live (obWh w)), (9, 41, .live (obTs (O (i + 1)))), (21, 21, .live (obTs (allT w)))]) (shp0 hσ (by simp) (by simp) ?_) ?_
                  · simp [SlotOk, hst]
                    exact ⟨.same (by simp [purel, C.isPure]), .same (by simp [purel, C.isPure]), .same (by simp [purel, C.isPure])⟩
                  · simp [mtc, mtl, mT, C.isPure, hst, hwi]
                · simp at hd
            · simp at hc
              (repeat refine awp_seq ?_); refine awp_exit ?_; (first | show AWP _ _ _ _ _ | show ∃ _, _ | skip)
              have : i = (allT w).length := by omega
              rw [this, hOn]
              (repeat refine awp_seq ?_); refine awp_reg1 (by rw [hx]; kernel_rfl) fun K hK => ?_; simp (maxSteps := 1000000) [ty140, ty3]; refine hK _ ?_; clear hK K; (first | show AWP _ _ _ _ _ | show ∃ _, _ | skip)
              by_cases hT : truthsL w l = []
              · have ho := openI_no hz hT
                (repeat refine awp_seq ?_); refine awp_cond (by simp [hT]; rfl) (by rw [hx]; simp) (fun hd => ?_) (fun hd => ?_)
                · clear hd
                  (repeat refine awp_seq ?_); refine awp_reg1 (by rw [hx]; kernel_rfl) fun K hK => ?_; simp (maxSteps := 1000000) []; refine hK _ ?_; clear hK K; (first | show AWP _ _ _ _ _ | show ∃ _, _ | skip)
                  (repeat refine awp_seq ?_); refine awp_ret ?_; refine And.intro (Or.inr rfl) ?_
                  simp [retC, resC, viewC, mapO, knownL, ho]
                · simp [hT] at hd
              · have ho := openI_yes hz hT
                have hlen : (truthsL w l).length ≠ 0 := fun e => hT (List.eq_nil_of_length_eq_zero e)
                (repeat refine awp_seq ?_); refine awp_cond (by simp [hlen]; rfl) (by rw [hx]; simp) (fun hd => ?_) (fun hd => ?_)
                · simp [hlen, hT] at hd
                · clear hd
                  refine awp_skip ?_; (first | show AWP _ _ _ _ _ | show ∃ _, _ | skip)
                  (repeat refine awp_seq ?_); refine awp_reg1 (by rw [hx]; kernel_rfl) fun K hK => ?_; simp (maxSteps := 1000000) []; refine hK _ ?_; clear hK K; (first | show AWP _ _ _ _ _ | show ∃ _, _ | skip)
                  (repeat refine awp_seq ?_); refine awp_ret ?_; refine And.intro (Or.inr rfl) ?_
                  have hk : knownL w l true = truthsL w l := if_pos ho
                  rw [hk]
                  have hne : (truthsL w l).isEmpty = false := by simp [hT]
                  simp [retC, resC, viewC, mapO, hne, ho, purel, C.isPure]
  · have ho := openI_bad (is := is) hz
    (repeat refine awp_seq ?_); refine awp_cond (by simp [hz]; rfl) (by rw [hx]; simp) (fun hd => ?_) (fun hd => ?_)
    · clear hd
      (repeat refine awp_seq ?_); refine awp_reg1 (by rw [hx]; kernel_rfl) fun K hK => ?_; simp (maxSteps := 1000000) []; refine hK _ ?_; clear hK K; (first | show AWP _ _ _ _ _ | show ∃ _, _ | skip)
      (repeat refine awp_seq ?_); refine awp_ret ?_; refine And.intro (Or.inr rfl) ?_
      simp [retC, resC, viewC, mapO, knownL, hz, ho]
    · simp [hz] at hd

end Go.Proofs.YtbhbmnofmoibhaaGreat

namespace Go.Proofs.YtbhbmnofmoibhaaGreat
open Go Go.Abs

set_option maxHeartbeats 4000000

theorem in41 (nl fu : Bool) (A : List Int) (n : Int) (hn : A.length ≤ 1000000) : Pure Tryz.prog 26 [.sl nl fu (A.map cI), encI n] (.bool (decide (n ∈ A))) := by
  refine pure_of (fn := Tryz.f26) [.tmp 4] ⟨Tryz.func26, rfl, by kernel_rfl⟩ (by kernel_rfl) (by kernel_rfl) (by kernel_rfl) fun x hx hσ => ?_
  (repeat refine awp_seq ?_); refine awp_reg1 (by rw [hx]; kernel_rfl) fun K hK => ?_; simp (maxSteps := 1000000) []; refine hK _ ?_; clear hK K; (first | show AWP _ _ _ _ _ | show ∃ _, _ | skip)
  (repeat refine awp_seq ?_); refine awp_reg1 (by rw [hx]; kernel_rfl) fun K hK => ?_; simp (maxSteps := 1000000) []; refine hK _ ?_; clear hK K; (first | show AWP _ _ _ _ _ | show ∃ _, _ | skip)
  (repeat refine awp_seq ?_); refine awp_block ?_
  refine awp_loop (fun i : Nat => ⟨ofL [(0, .sl nl fu (A.map cI)), (1, encI n), (5, encI i)], stoT []⟩)
    (fun i => i ≤ A.length ∧ ∀ j (hj : j < A.length), j < i → A[j] ≠ n) (fun i => A.length - i) 0 ⟨Nat.zero_le _, fun j hj h => by omega⟩ ?_ ?_
  · refine wk_shape (shp0 hσ (by simp) (by simp) ?_) ?_
    · simp [SlotOk] <;> (repeat' (first | exact .same (by simp [purel, C.isPure]) | exact .cons (by simp [mtl, mtc, mT, mH, C.isPure, purel]) (by simp) .nil | refine And.intro ?_ ?_))
    · simp [mtc, mtl, mT, C.isPure, purel] <;> (try simp (disch := omega) [wrap_id]) <;> (try omega)
  · rintro i ⟨hi, hj⟩
    (repeat refine awp_seq ?_); refine awp_reg1 (by rw [hx]; kernel_rfl) fun K hK => ?_; simp (maxSteps := 1000000) [ty41, ty3]; refine hK _ ?_; clear hK K; (first | show AWP _ _ _ _ _ | show ∃ _, _ | skip)
    (repeat refine awp_seq ?_); refine awp_cond (by simp; rfl) (by rw [hx]; simp) (fun hc => ?_) (fun hc => ?_)
    · simp at hc
      refine awp_skip ?_; (first | show AWP _ _ _ _ _ | show ∃ _, _ | skip)
      (repeat refine awp_seq ?_); refine awp_block ?_
      (repeat refine awp_seq ?_); refine awp_reg1 (by rw [hx]; kernel_rfl) fun K hK => ?_; simp (maxSteps := 1000000) [ty41, ty3, hc]; refine hK _ ?_; clear hK K; (first | show AWP _ _ _ _ _ | show ∃ _, _ | skip)
      by_cases hb : A[i] = n
      · (repeat refine awp_seq ?_); refine awp_cond (by simp [hb]; rfl) (by rw [hx]; simp) (fun hd => ?_) (fun hd => ?_)
        · clear hd
          (repeat refine awp_seq ?_); refine awp_reg1 (by rw [hx]; kernel_rfl) fun K hK => ?_; simp (maxSteps := 1000000) []; refine hK _ ?_; clear hK K; (first | show AWP _ _ _ _ _ | show ∃ _, _ | skip)
          (repeat refine awp_seq ?_); refine awp_ret ?_; refine And.intro (Or.inr rfl) ?_
          have : decide (n ∈ A) = true := by
            rw [decide_eq_true_eq]
            exact hb ▸ List.getElem_mem hc
          rw [this]
          simp [retC, resC, viewC, mapO]
        · simp [hb] at hd
      · (repeat refine awp_seq ?_); refine awp_cond (by simp [hb]; rfl) (by rw [hx]; simp) (fun hd => ?_) (fun hd => ?_)
        · simp [hb] at hd
        · clear hd
          refine awp_skip ?_; (first | show AWP _ _ _ _ _ | show ∃ _, _ | skip)
          (repeat refine awp_seq ?_); refine awp_reg1 (by rw [hx]; kernel_rfl) fun K hK => ?_; simp (maxSteps := 1000000) [ty3]; refine hK _ ?_; clear hK K; (first | show AWP _ _ _ _ _ | show ∃ _, _ | skip)
          rw [wrap_id (by omega) (by omega)]
          refine ⟨i + 1, ⟨by omega, fun j hj' h => ?_⟩, by omega, ?_⟩
          · by_cases e : j = i
            · subst e; exact hb
            · exact hj j hj' (by omega)
          · refine wk_shape (shp0 hσ (by simp) (by simp) ?_) ?_
            · simp [SlotOk] <;> (repeat' (first | exact .same (by simp [purel, C.isPure]) | exact .cons (by simp [mtl, mtc, mT, mH, C.isPure, purel]) (by simp) .nil | refine And.intro ?_ ?_))
            · simp [mtc, mtl, mT, C.isPure, purel] <;> (try simp (disch := omega) [wrap_id]) <;> (try omega)
    · simp at hc
      (repeat refine awp_seq ?_); refine awp_exit ?_; (first | show AWP _ _ _ _ _ | show ∃ _, _ | skip)
      have : decide (n ∈ A) = false := by
        rw [decide_eq_false_iff_not]
        intro h
        obtain ⟨j, hj', e⟩ := List.getElem_of_mem h
        exact hj j hj' (by omega) e
      rw [this]
      (repeat refine awp_seq ?_); refine awp_reg1 (by rw [hx]; kernel_rfl) fun K hK => ?_; simp (maxSteps := 1000000) []; refine hK _ ?_; clear hK K; (first | show AWP _ _ _ _ _ | show ∃ _, _ | skip)
      (repeat refine awp_seq ?_); refine awp_ret ?_; refine And.intro (Or.inr rfl) ?_
      simp [retC, resC, viewC, mapO]

/-- Areas as they come, each once. -/
def addA (A : List Int) (t : Tr) : List Int := if t.area ∈ A then A else A ++ [t.area]
def areasR (L : List Tr) : List Int := L.foldl addA []

theorem areasR_step {L : List Tr} {i : Nat} (hi : i < L.length) : areasR (L.take (i + 1)) = addA (areasR (L.take i)) L[i] := by
  unfold areasR
  rw [List.take_succ_eq_append_getElem hi, List.foldl_append]
  rfl

theorem areasR_app (L : List Tr) (t : Tr) : areasR (L ++ [t]) = addA (areasR L) t := by
  unfold areasR; rw [List.foldl_append]; rfl

theorem areasR_len (L : List Tr) : (areasR L).length ≤ L.length := by
  induction L using list_rev_ind with
  | h0 => simp [areasR]
  | h1 L t ih =>
    rw [areasR_app]
    unfold addA
    split <;> simp <;> omega

end Go.Proofs.YtbhbmnofmoibhaaGreat

namespace Go.Proofs.YtbhbmnofmoibhaaGreat
open Go Go.Abs

set_option maxHeartbeats 4000000

-- laws of lists

theorem sorted_eq {A B : List Int} (h1 : A.Pairwise (· ≤ ·)) (h2 : B.Pairwise (· ≤ ·)) (n1 : A.Nodup) (n2 : B.Nodup) (h : ∀ b, b ∈ A ↔ b ∈ B) : A = B := by
  refine List.Perm.eq_of_pairwise (le := fun a b => a ≤ b) (fun a b _ _ h1 h2 => by omega) h1 h2 ((List.perm_ext_iff_of_nodup n1 n2).2 h)

theorem areasR_mem (L : List Tr) (b : Int) : b ∈ areasR L ↔ ∃ t ∈ L, t.area = b := by
  induction L using list_rev_ind with
  | h0 => simp [areasR]
  | h1 L t ih =>
    rw [areasR_app]
    unfold addA
    have : (∃ u ∈ L ++ [t], u.area = b) ↔ (∃ u ∈ L, u.area = b) ∨ t.area = b := by
      simp only [List.mem_append, List.mem_singleton]
      constructor
      · rintro ⟨u, hu | rfl, e⟩
        · exact .inl ⟨u, hu, e⟩
        · exact .inr e
      · rintro (⟨u, hu, e⟩ | e)
        · exact ⟨u, .inl hu, e⟩
        · exact ⟨t, .inr rfl, e⟩
    rw [this]
    split
    · rename_i hm
      constructor
      · exact fun h => .inl (ih.1 h)
      · rintro (h | rfl)
        · exact ih.2 h
        · exact hm
    · simp only [List.mem_append, List.mem_singleton, ih]
      constructor
      · rintro (h | rfl)
        · exact .inl h
        · exact .inr rfl
      · rintro (h | rfl)
        · exact .inl h
        · exact .inr rfl

theorem areasR_nodup (L : List Tr) : (areasR L).Nodup := by
  induction L using list_rev_ind with
  | h0 => simp [areasR]
  | h1 L t ih =>
    rw [areasR_app]
    unfold addA
    split
    · exact ih
    · rename_i hm
      refine List.nodup_append.2 ⟨ih, by simp, fun a ha b hb e => ?_⟩
      simp at hb
      subst hb; subst e
      exact hm ha

theorem areasR_sorted (L : List Tr) (h : L.Pairwise fun a b => a.area ≤ b.area) : (areasR L).Pairwise (· ≤ ·) := by
  induction L using list_rev_ind with
  | h0 => simp [areasR]
  | h1 L t ih =>
    rw [areasR_app]
    have h2 := List.pairwise_append.1 h
    have ih' := ih h2.1
    unfold addA
    split
    · exact ih'
    · refine List.pairwise_append.2 ⟨ih', by simp, fun a ha b hb => ?_⟩
      simp at hb
      subst hb
      obtain ⟨u, hu, rfl⟩ := (areasR_mem L a).1 ha
      exact h2.2.2 u hu t (by simp)

theorem areasR_eq {L : List Tr} (h : L.Pairwise fun a b => a.area ≤ b.area) : areasR L = kindsL Tr.area L :=
  sorted_eq (areasR_sorted L h) (kindsL_sorted _ _) (areasR_nodup L) (kindsL_nodup _ _) fun b => by rw [areasR_mem, kindsL_mem]

theorem allT_sorted (w : Wh) : (allT w).Pairwise fun a b => a.area ≤ b.area := by
  unfold allT
  refine List.pairwise_map.2 ?_
  refine List.Pairwise.imp ?_ List.pairwise_lt_range
  intro i j h
  simp only
  have : i / nS w ≤ j / nS w := Nat.div_le_div_right (Nat.le_of_lt h)
  omega

theorem knownL_bd {w : Wh} {l : List Wl} {is : Bool} : (knownL w l is).length ≤ 410000 := by
  unfold knownL
  split
  · rename_i h
    exact truthsL_bd l (checkI_ok (openI_ok (openI_t h)).1).1
  · simp

end Go.Proofs.YtbhbmnofmoibhaaGreat

namespace Go.Proofs.YtbhbmnofmoibhaaGreat
open Go Go.Abs

set_option maxHeartbeats 4000000

end Go.Proofs.YtbhbmnofmoibhaaGreat

namespace Go.Proofs.YtbhbmnofmoibhaaGreat
open Go Go.Abs

set_option maxHeartbeats 4000000

def skq (w : Wh) (L : List Tr) (i : Nat) : Bool := L.any fun t => decide (t.skew = -w.skew + i)
def skewsR (w : Wh) (L : List Tr) : Nat → List Int
  | 0 => []
  | n + 1 => if skq w L n then skewsR w L n ++ [-w.skew + n] else skewsR w L n
@[simp] theorem skewsR_zero (w : Wh) (L : List Tr) : skewsR w L 0 = [] := rfl

theorem skewsR_len (w : Wh) (L : List Tr) : ∀ n, (skewsR w L n).length ≤ n
  | 0 => Nat.le_refl _
  | n + 1 => by have := skewsR_len w L n; simp only [skewsR]; split <;> simp <;> omega

theorem skewsR_mem (w : Wh) (L : List Tr) (b : Int) : ∀ n, b ∈ skewsR w L n ↔ ∃ i, i < n ∧ skq w L i = true ∧ b = -w.skew + i
  | 0 => by simp
  | n + 1 => by
    have ih := skewsR_mem w L b n
    simp only [skewsR]
    split
    · rename_i h
      rw [List.mem_append, ih, List.mem_singleton]
      constructor
      · rintro (⟨i, h1, h2, h3⟩ | h1)
        · exact ⟨i, by omega, h2, h3⟩
        · exact ⟨n, by omega, h, h1⟩
      · rintro ⟨i, h1, h2, h3⟩
        by_cases e : i = n
        · subst e; exact .inr h3
        · exact .inl ⟨i, by omega, h2, h3⟩
    · rename_i h
      rw [ih]
      constructor
      · rintro ⟨i, h1, h2, h3⟩; exact ⟨i, by omega, h2, h3⟩
      · rintro ⟨i, h1, h2, h3⟩
        by_cases e : i = n
        · subst e; exact absurd h2 h
        · exact ⟨i, by omega, h2, h3⟩

theorem skewsR_lt (w : Wh) (L : List Tr) : ∀ n, (skewsR w L n).Pairwise (· < ·)
  | 0 => by simp
  | n + 1 => by
    have ih := skewsR_lt w L n
    simp only [skewsR]
    split
    · refine List.pairwise_append.2 ⟨ih, by simp, fun a ha b hb => ?_⟩
      simp at hb
      subst hb
      obtain ⟨i, h1, _, rfl⟩ := (skewsR_mem w L a n).1 ha
      omega
    · exact ih

theorem skews_nums (w : Wh) (l : List Wl) (h : openI w l true = 0) : skewsR w (truthsL w l) (nS w) = numsI Tr.skew w l := by
  have hw := (checkI_ok (openI_ok h).1).1
  have hs := hw.skew
  rw [(numsI_ok h).1]
  refine sorted_eq ((skewsR_lt w _ _).imp (fun h => Int.le_of_lt h)) (kindsL_sorted _ _) ((skewsR_lt w _ _).imp (fun h => Int.ne_of_lt h)) (kindsL_nodup _ _) fun b => ?_
  rw [skewsR_mem, kindsL_mem]
  constructor
  · rintro ⟨i, h1, h2, rfl⟩
    simp only [skq, List.any_eq_true, decide_eq_true_eq] at h2
    exact h2
  · rintro ⟨t, ht, rfl⟩
    have := allT_mem.1 (List.mem_filter.1 ht).1
    refine ⟨(t.skew + w.skew).toNat, by unfold nS; omega, ?_, by omega⟩
    simp only [skq, List.any_eq_true, decide_eq_true_eq]
    exact ⟨t, ht, by omega⟩

theorem ref37 (w : Wh) (nl fu : Bool) (l : List Wl) (hn : l.length ≤ 1000) : Pure Tryz.prog 85 [encWh w, sWl nl fu l] (.tup [.sl (numsI Tr.skew w l).isEmpty (openI w l true != 0) ((numsI Tr.skew w l).map cI), encI (openI w l true)]) := by
  have hkb := knownL_bd (w := w) (l := l) (is := true)
  refine pure_of (fn := Tryz.f85) [.tmp 4, .tmp 5] ⟨Tryz.func85, rfl, by kernel_rfl⟩ (by kernel_rfl) (by kernel_rfl) (by kernel_rfl) fun x hx hσ => ?_
  (repeat refine awp_seq ?_); refine awp_reg1 (by rw [hx]; kernel_rfl) fun K hK => ?_; simp (maxSteps := 1000000) [ty25]; refine hK _ ?_; clear hK K; (first | show AWP _ _ _ _ _ | show ∃ _, _ | skip)
  (repeat refine awp_seq ?_); refine awp_reg1 (by rw [hx]; kernel_rfl) fun K hK => ?_; simp (maxSteps := 1000000) [ty25]
  refine callP (ref52 w nl fu true l hn) (by first | (simp; done) | (simp [*]; done)) ?_; simp (maxSteps := 1000000) [ty140]
  refine hK _ ?_; clear hK K; (first | show AWP _ _ _ _ _ | show ∃ _, _ | skip)
  (repeat refine awp_seq ?_); refine awp_reg1 (by rw [hx]; kernel_rfl) fun K hK => ?_; simp (maxSteps := 1000000) [ty36]; refine hK _ ?_; clear hK K; (first | show AWP _ _ _ _ _ | show ∃ _, _ | skip)
  by_cases hz : openI w l true = 0
  · have hk : knownL w l true = truthsL w l := if_pos hz
    rw [← skews_nums w l hz]
    rw [hk] at hkb ⊢
    have hs := (checkI_ok (openI_ok hz).1).1.skew
    have hS : (nS w : Int) = 2 * w.skew + 1 := by unfold nS; omega
    generalize hL : truthsL w l = L at *
    (repeat refine awp_seq ?_); refine awp_cond (by simp [hz]; rfl) (by rw [hx]; simp) (fun hd => ?_) (fun hd => ?_)
    · simp at hd
    · clear hd
      refine awp_skip ?_; (first | show AWP _ _ _ _ _ | show ∃ _, _ | skip)
      (repeat refine awp_seq ?_); refine awp_reg1 (by rw [hx]; kernel_rfl) fun K hK => ?_; simp (maxSteps := 1000000) []; refine hK _ ?_; clear hK K; (first | show AWP _ _ _ _ _ | show ∃ _, _ | skip)
      have hwr : IntKind.i64.wrap (-w.skew) = -w.skew := wrap_id (by omega) (by omega)
      (repeat refine awp_seq ?_); refine awp_reg1 (by rw [hx]; kernel_rfl) fun K hK => ?_; simp (maxSteps := 1000000) [ty25, ty3, hwr]; refine hK _ ?_; clear hK K; (first | show AWP _ _ _ _ _ | show ∃ _, _ | skip)
      (repeat refine awp_seq ?_); refine awp_block ?_
      refine AWP.weak ?_ (wk_nil 8 8 1 (fu := true) (by simp) (by simp))
      obtain ⟨O, hO⟩ : ∃ O : Nat → List Int, O = fun i => skewsR w L i := ⟨_, rfl⟩
      have hOe : ∀ i, skewsR w L i = O i := fun i => by rw [hO]
      have hO0 : O 0 = [] := by rw [hO]; rfl
      have hOs : ∀ i, O (i + 1) = if skq w L i then O i ++ [-w.skew + i] else O i := fun i => by rw [hO]; rfl
      have hOl : ∀ i, (O i).length ≤ i := fun i => by rw [hO]; exact skewsR_len w L i
      rw [hOe]
      refine awp_loop (fun i : Nat => ⟨ofL [(2, .ptr 2 8 0 0), (6, slT L), (8, .own 8 1 0 (O i).length), (9, encI (-w.skew + i))], stoT [(2, 2, .live (obWh w)), (8, 8, .live ⟨(O i).isEmpty, false, 1, (O i).map cI⟩)]⟩)
        (fun i => i ≤ nS w) (fun i => nS w - i) 0 (Nat.zero_le _) ?_ ?_
      · simp only [hO0]
        refine wk_shape (shp0 hσ (by simp) (by simp) ?_) ?_
        · simp [SlotOk] <;> (repeat' (first | exact .same (by simp [purel, C.isPure]) | exact .cons (by simp [mtl, mtc, mT, mH, C.isPure, purel]) (by simp) .nil | refine And.intro ?_ ?_))
        · simp [mtc, mtl, mT, C.isPure, purel] <;> (try simp (disch := omega) [wrap_id]) <;> (try omega)
      · intro i hi
        have hOli := hOl i
        (repeat refine awp_seq ?_); refine awp_reg1 (by rw [hx]; kernel_rfl) fun K hK => ?_; simp (maxSteps := 1000000) [ty25, ty3]; refine hK _ ?_; clear hK K; (first | show AWP _ _ _ _ _ | show ∃ _, _ | skip)
        (repeat refine awp_seq ?_); refine awp_cond (by simp; rfl) (by rw [hx]; simp) (fun hc => ?_) (fun hc => ?_)
        · simp at hc
          have hiS : i < nS w := by omega
          have hst := hOs i
          have hwi := wrap_id (z := -w.skew + (i : Int) + 1) (by omega) (by omega)
          refine awp_skip ?_; (first | show AWP _ _ _ _ _ | show ∃ _, _ | skip)
          (repeat refine awp_seq ?_); refine awp_block ?_
          (repeat refine awp_seq ?_); refine awp_reg1 (by rw [hx]; kernel_rfl) fun K hK => ?_; simp (maxSteps := 1000000) []; refine hK _ ?_; clear hK K; (first | show AWP _ _ _ _ _ | show ∃ _, _ | skip)
          (repeat refine awp_seq ?_); refine awp_block ?_
          refine awp_loop (fun j : Nat => ⟨ofL [(2, .ptr 2 8 0 0), (6, slT L), (8, .own 8 1 0 (O i).length), (9, encI (-w.skew + i)), (10, encI j)], stoT [(2, 2, .live (obWh w)), (8, 8, .live ⟨(O i).isEmpty, false, 1, (O i).map cI⟩)]⟩)
            (fun j => j ≤ L.length ∧ ∀ j' (h : j' < L.length), j' < j → L[j'].skew ≠ -w.skew + i) (fun j => L.length - j) 0 ⟨Nat.zero_le _, fun j' _ h => by omega⟩ ?_ ?_
          · refine wk_shape (shp0 hσ (by simp) (by simp) ?_) ?_
            · simp [SlotOk] <;> (repeat' (first | exact .same (by simp [purel, C.isPure]) | exact .cons (by simp [mtl, mtc, mT, mH, C.isPure, purel]) (by simp) .nil | refine And.intro ?_ ?_))
            · simp [mtc, mtl, mT, C.isPure, purel] <;> (try simp (disch := omega) [wrap_id]) <;> (try omega)
          · rintro j ⟨hj, hno⟩
            (repeat refine awp_seq ?_); refine awp_reg1 (by rw [hx]; kernel_rfl) fun K hK => ?_; simp (maxSteps := 1000000) [ty140, ty3]; refine hK _ ?_; clear hK K; (first | show AWP _ _ _ _ _ | show ∃ _, _ | skip)
            (repeat refine awp_seq ?_); refine awp_cond (by simp; rfl) (by rw [hx]; simp) (fun hc2 => ?_) (fun hc2 => ?_)
            · simp at hc2
              refine awp_skip ?_; (first | show AWP _ _ _ _ _ | show ∃ _, _ | skip)
              (repeat refine awp_seq ?_); refine awp_block ?_
              have hne : L ≠ [] := by rintro rfl; simp at hc2
              (repeat refine awp_seq ?_); refine awp_reg1 (by rw [hx]; kernel_rfl) fun K hK => ?_; simp (maxSteps := 1000000) [ty140, ty144, ty3, hc2, hne]; refine hK _ ?_; clear hK K; (first | show AWP _ _ _ _ _ | show ∃ _, _ | skip)
              by_cases hb : L[j].skew = -w.skew + i
              · (repeat refine awp_seq ?_); refine awp_cond (by simp [hb]; rfl) (by rw [hx]; simp) (fun hd => ?_) (fun hd => ?_)
                · clear hd
                  have hq : skq w L i = true := by
                    simp only [skq, List.any_eq_true, decide_eq_true_eq]
                    exact ⟨_, List.getElem_mem hc2, hb⟩
                  rw [hq, if_pos rfl] at hst
                  (repeat refine awp_seq ?_); refine awp_reg1 (by rw [hx]; kernel_rfl) fun K hK => ?_; simp (maxSteps := 1000000) [ty41, ty3]
                  refine ⟨by omega, ?_⟩
                  refine hK _ ?_; clear hK K; (first | show AWP _ _ _ _ _ | show ∃ _, _ | skip)
                  (repeat refine awp_seq ?_); refine awp_exit ?_; (first | show AWP _ _ _ _ _ | show ∃ _, _ | skip)
                  (repeat refine awp_seq ?_); refine awp_reg1 (by rw [hx]; kernel_rfl) fun K hK => ?_; simp (maxSteps := 1000000) [ty3]; refine hK _ ?_; clear hK K; (first | show AWP _ _ _ _ _ | show ∃ _, _ | skip)
                  refine ⟨i + 1, by omega, by omega, ?_⟩
                  refine wk_shape (T := [(2, 2, .live (obWh w)), (8, 45, .live ⟨(O (i + 1)).isEmpty, false, 1, (O (i + 1)).map cI⟩)]) (shp0 hσ (by simp) (by simp) ?_) ?_
                  · simp [SlotOk, hst]
                    exact ⟨.same (by simp [purel, C.isPure]), .same (by simp [purel, C.isPure])⟩
                  · simp [mtc, mtl, mT, C.isPure, purel, hst, hwi]
                    omega
                · simp [hb] at hd
              · (repeat refine awp_seq ?_); refine awp_cond (by simp [hb]; rfl) (by rw [hx]; simp) (fun hd => ?_) (fun hd => ?_)
                · simp [hb] at hd
                · clear hd
                  refine awp_skip ?_; (first | show AWP _ _ _ _ _ | show ∃ _, _ | skip)
                  (repeat refine awp_seq ?_); refine awp_reg1 (by rw [hx]; kernel_rfl) fun K hK => ?_; simp (maxSteps := 1000000) [ty3]; refine hK _ ?_; clear hK K; (first | show AWP _ _ _ _ _ | show ∃ _, _ | skip)
                  rw [wrap_id (z := (j : Int) + 1) (by omega) (by omega)]
                  refine ⟨j + 1, ⟨by omega, fun j' h1 h2 => ?_⟩, by omega, ?_⟩
                  · by_cases e : j' = j
                    · subst e; exact hb
                    · exact hno j' h1 (by omega)
                  · refine wk_shape (shp0 hσ (by simp) (by simp) ?_) ?_
                    · simp [SlotOk] <;> (repeat' (first | exact .same (by simp [purel, C.isPure]) | exact .cons (by simp [mtl, mtc, mT, mH, C.isPure, purel]) (by simp) .nil | refine And.intro ?_ ?_))
                    · simp [mtc, mtl, mT, C.isPure, purel] <;> (try simp (disch := omega) [wrap_id]) <;> (try omega)
            · simp at hc2
              (repeat refine awp_seq ?_); refine awp_exit ?_; (first | show AWP _ _ _ _ _ | show ∃ _, _ | skip)
              have hq : skq w L i = false := by
                rw [Bool.eq_false_iff]
                intro h
                simp only [skq, List.any_eq_true, decide_eq_true_eq] at h
                obtain ⟨t, ht, e⟩ := h
                obtain ⟨j', h1, rfl⟩ := List.getElem_of_mem ht
                exact hno j' h1 (by omega) e
              rw [hq, if_neg (by simp)] at hst
              (repeat refine awp_seq ?_); refine awp_reg1 (by rw [hx]; kernel_rfl) fun K hK => ?_; simp (maxSteps := 1000000) [ty3]; refine hK _ ?_; clear hK K; (first | show AWP _ _ _ _ _ | show ∃ _, _ | skip)
              refine ⟨i + 1, by omega, by omega, ?_⟩
              rw [hst]
              refine wk_shape (shp0 hσ (by simp) (by simp) ?_) ?_
              · simp [SlotOk] <;> (repeat' (first | exact .same (by simp [purel, C.isPure]) | exact .cons (by simp [mtl, mtc, mT, mH, C.isPure, purel]) (by simp) .nil | refine And.intro ?_ ?_))
              · simp [mtc, mtl, mT, C.isPure, purel, hwi] <;> (try simp (disch := omega) [wrap_id]) <;> (try omega)
        · simp at hc
          (repeat refine awp_seq ?_); refine awp_exit ?_; (first | show AWP _ _ _ _ _ | show ∃ _, _ | skip)
          have : i = nS w := by omega
          rw [this]
          (repeat refine awp_seq ?_); refine awp_reg1 (by rw [hx]; kernel_rfl) fun K hK => ?_; simp (maxSteps := 1000000) []; refine hK _ ?_; clear hK K; (first | show AWP _ _ _ _ _ | show ∃ _, _ | skip)
          (repeat refine awp_seq ?_); refine awp_ret ?_; refine And.intro (Or.inr rfl) ?_
          simp [retC, resC, viewC, mapO, purel, C.isPure, hz]
  · have hz0 := numsI_zero (f := Tr.skew) hz
    (repeat refine awp_seq ?_); refine awp_cond (by simp [hz]; rfl) (by rw [hx]; simp) (fun hd => ?_) (fun hd => ?_)
    · clear hd
      (repeat refine awp_seq ?_); refine awp_reg1 (by rw [hx]; kernel_rfl) fun K hK => ?_; simp (maxSteps := 1000000) []; refine hK _ ?_; clear hK K; (first | show AWP _ _ _ _ _ | show ∃ _, _ | skip)
      (repeat refine awp_seq ?_); refine awp_ret ?_; refine And.intro (Or.inr rfl) ?_
      simp [retC, resC, viewC, mapO, hz0, hz]
    · simp [hz] at hd

end Go.Proofs.YtbhbmnofmoibhaaGreat

namespace Go.Proofs.YtbhbmnofmoibhaaGreat
open Go Go.Abs

set_option maxHeartbeats 4000000

-- trials: what a test allows

def oneW (w : Wh) (n : Int) : Wh := { w with glow := n, ghigh := n }
/-- The skews that a test tells with a gain. -/
def tellA (w : Wh) (y : Ts) (g : Int) : List Int := numsI Tr.skew (oneW w (seenA y.area g)) y.l
/-- Whether a test allows a gain and a skew. -/
def allowB (w : Wh) (y : Ts) (k : Tr) : Bool := decide (k.skew ∈ tellA w y k.area)
def rowK (k : Tr) : List C := [.agg [encI k.area, encI k.skew], encI 1]

theorem numsI_sorted (f : Tr → Int) (w : Wh) (l : List Wl) : (numsI f w l).Pairwise (· ≤ ·) ∧ (numsI f w l).Nodup := by
  unfold numsI
  split
  · exact ⟨kindsL_sorted _ _, kindsL_nodup _ _⟩
  · simp

theorem numsI_skew {w : Wh} {l : List Wl} {s : Int} (h : s ∈ numsI Tr.skew w l) : -w.skew ≤ s ∧ s ≤ w.skew := by
  unfold numsI at h
  split at h
  · obtain ⟨t, ht, rfl⟩ := (kindsL_mem _ _ _).1 h
    exact (allT_mem.1 (List.mem_filter.1 ht).1).2
  · simp at h

theorem upT_row {w : Wh} {a : Nat} (ha : a < nA w) : ∀ {s : Nat}, s ≤ nS w → upT w (a * nS w + s) = upT w (a * nS w) ++ (List.range s).map fun i => ⟨w.glow + a, -w.skew + (i : Nat)⟩
  | 0, _ => by simp
  | s + 1, hs => by
    rw [← Nat.add_assoc, upT_step ha (by omega), upT_row ha (by omega), List.range_succ, List.map_append, List.append_assoc]
    rfl

/-- What a test allows of the first truths. -/
def rowsA (t : Ti) (y : Ts) (n : Nat) : List Tr := (upT (gwT t) n).filter (allowB t.w y)

theorem rowsA_step (t : Ti) (y : Ts) {a : Nat} (ha : a < nA (gwT t)) : rowsA t y ((a + 1) * nS (gwT t)) = rowsA t y (a * nS (gwT t)) ++ (tellA t.w y (-t.gain + a)).map fun s => ⟨-t.gain + a, s⟩ := by
  unfold rowsA
  rw [Nat.add_mul, Nat.one_mul, upT_row ha (Nat.le_refl _), List.filter_append]
  congr 1
  have h1 : ((List.range (nS (gwT t))).map fun i => (⟨(gwT t).glow + a, -(gwT t).skew + (i : Nat)⟩ : Tr)) = ((List.range (nS (gwT t))).map fun i => -(gwT t).skew + ((i : Nat) : Int)).map fun s => ⟨-t.gain + a, s⟩ := by
    rw [List.map_map]
    rfl
  rw [h1, List.filter_map]
  congr 1
  have hs := numsI_sorted Tr.skew (oneW t.w (seenA y.area (-t.gain + a))) y.l
  have hsk : (gwT t).skew = t.w.skew := rfl
  have hlt : ((List.range (nS (gwT t))).map fun i => -(gwT t).skew + ((i : Nat) : Int)).Pairwise (· < ·) := by
    rw [List.pairwise_map]
    exact List.pairwise_lt_range.imp (by intro a b h; omega)
  refine sorted_eq ((hlt.imp (by intro a b h; omega)).filter _) hs.1 ((List.Pairwise.imp (by intro a b h e; omega) hlt : List.Nodup _).filter _) hs.2 fun b => ?_
  rw [List.mem_filter]
  simp only [Function.comp, allowB, decide_eq_true_eq]
  constructor
  · exact fun h => h.2
  · intro h
    refine ⟨?_, h⟩
    have h2 := numsI_skew h
    have h3 : (oneW t.w (seenA y.area (-t.gain + a))).skew = t.w.skew := rfl
    rw [h3] at h2
    rw [List.mem_map]
    refine ⟨(b + t.w.skew).toNat, ?_, ?_⟩
    · rw [List.mem_range]
      unfold nS
      rw [hsk]
      omega
    · rw [hsk]
      omega

theorem findK_none (k : Tr) : ∀ (L : List Tr) (i : Nat), k ∉ L → findC (.flat [.i64, .i64]) (.agg [encI k.area, encI k.skew]) (L.map rowK) i = some none
  | [], i, _ => rfl
  | y :: L, i, h => by
    simp only [List.mem_cons, not_or] at h
    have h1 : (decide (k.area = y.area) && decide (k.skew = y.skew)) = false := by
      cases e : (decide (k.area = y.area) && decide (k.skew = y.skew)) with
      | false => rfl
      | true =>
        simp only [Bool.and_eq_true, decide_eq_true_eq] at e
        obtain ⟨a, b⟩ := k
        obtain ⟨c, d⟩ := y
        simp only at e
        exact absurd (by rw [e.1, e.2]) h.1
    have h2 := findK_none k L (i + 1) h.2
    simp only [encI] at h2
    simp [rowK, findC, sameC, eqInts, h1, h2]

theorem rowsA_lt {t : Ti} {y : Ts} {a : Nat} (ha : a < nA (gwT t)) {k : Tr} (h : k ∈ rowsA t y (a * nS (gwT t))) : k.area < -t.gain + a := by
  have h1 := (List.mem_filter.1 h).1
  unfold upT at h1
  obtain ⟨i, hi, rfl⟩ := List.getElem_of_mem h1
  have hi2 : i < a * nS (gwT t) := by simp only [List.length_take] at hi; omega
  have hpos : 0 < nS (gwT t) := Nat.pos_of_ne_zero fun e => by rw [e] at hi2; simp at hi2
  rw [List.getElem_take]
  simp only [allT, List.getElem_map, List.getElem_range]
  have h3 : i / nS (gwT t) < a := by rw [Nat.div_lt_iff_lt_mul hpos]; exact hi2
  generalize i / nS (gwT t) = q at *
  have h4 : (gwT t).glow = -t.gain := rfl
  rw [h4]
  omega

/-- The new key is not there. -/
theorem rowsA_new {t : Ti} {y : Ts} {a i : Nat} (ha : a < nA (gwT t)) (hi : i < (tellA t.w y (-t.gain + a)).length) :
    (⟨-t.gain + a, (tellA t.w y (-t.gain + a))[i]⟩ : Tr) ∉ rowsA t y (a * nS (gwT t)) ++ ((tellA t.w y (-t.gain + a)).take i).map fun s => (⟨-t.gain + a, s⟩ : Tr) := by
  intro h
  rcases List.mem_append.1 h with h | h
  · have := rowsA_lt ha h
    simp only at this
    omega
  · rw [List.mem_map] at h
    obtain ⟨s, h1, h2⟩ := h
    have h3 : s = (tellA t.w y (-t.gain + a))[i] := by injection h2
    have hn := (numsI_sorted Tr.skew (oneW t.w (seenA y.area (-t.gain + a))) y.l).2
    obtain ⟨j, hj, e⟩ := List.getElem_of_mem h1
    rw [List.getElem_take] at e
    have hj2 : j < i := by simp only [List.length_take] at hj; omega
    have := (List.getElem_inj hn).1 (e.trans h3)
    omega

end Go.Proofs.YtbhbmnofmoibhaaGreat

namespace Go.Proofs.YtbhbmnofmoibhaaGreat
open Go Go.Abs

set_option maxHeartbeats 4000000

theorem fe88 : flatEq Tryz.prog 88 = some [.i64, .i64] := by kernel_rfl

@[simp] abbrev obK (L : List Tr) : Ob := ⟨false, false, 0, L.map rowK⟩

@[simp] theorem rowK_pure (k : Tr) : purel (rowK k) = true := rfl

/-- The wheel as it stands ahead of a round. -/
def wst (t : Ti) (y : Ts) (a : Nat) : Wh := if a = 0 then t.w else oneW t.w (seenA y.area (-t.gain + ((a - 1 : Nat) : Int)))

@[simp] theorem wst_full (t : Ti) (y : Ts) (a : Nat) : (wst t y a).full = t.w.full := by unfold wst; split <;> rfl
@[simp] theorem wst_read (t : Ti) (y : Ts) (a : Nat) : (wst t y a).read = t.w.read := by unfold wst; split <;> rfl
@[simp] theorem wst_slip (t : Ti) (y : Ts) (a : Nat) : (wst t y a).slip = t.w.slip := by unfold wst; split <;> rfl
@[simp] theorem wst_skew (t : Ti) (y : Ts) (a : Nat) : (wst t y a).skew = t.w.skew := by unfold wst; split <;> rfl
@[simp] theorem wst_circle (t : Ti) (y : Ts) (a : Nat) : (wst t y a).circle = t.w.circle := by unfold wst; split <;> rfl
@[simp] theorem wst_wrong (t : Ti) (y : Ts) (a : Nat) : (wst t y a).wrong = t.w.wrong := by unfold wst; split <;> rfl
theorem skewsA (w : Wh) (y : Ts) (g : Int) (hn : y.l.length ≤ 1000) : Pure Tryz.prog 103 [.agg [encI w.full, encI w.read, encI w.slip, encI w.skew, encI w.circle, encI (seenA y.area g), encI (seenA y.area g), encI w.wrong], sWl y.nl y.fu y.l] (.tup [slI (tellA w y g), encI (openI (oneW w (seenA y.area g)) y.l true)]) :=
  skews36 (oneW w (seenA y.area g)) y.nl y.fu y.l hn

theorem allowed82 (t : Ti) (y : Ts) (hw : TiNum t) (ha : 0 ≤ y.area ∧ y.area ≤ 9000) (hn : y.l.length ≤ 1000) : Pure Tryz.prog 82 [encTi t, encTs y] (.md false ((allT (gwT t)).filter (allowB t.w y) |>.map rowK)) := by
  have hs := hw.skew
  have hg := hw.gain
  have hA : (nA (gwT t) : Int) = t.gain - -t.gain + 1 := by unfold nA gwT; simp only; omega
  have hS : (nS (gwT t) : Int) = 2 * t.w.skew + 1 := by unfold nS gwT; simp only; omega
  have hwg : IntKind.i64.wrap (-t.gain) = -t.gain := wrap_id (by omega) (by omega)
  have hlen := allT_len (gwT t)
  have hfin : rowsA t y (nA (gwT t) * nS (gwT t)) = (allT (gwT t)).filter (allowB t.w y) := by unfold rowsA upT; rw [← hlen, List.take_length]
  have h0 : rowsA t y (0 * nS (gwT t)) = [] := by simp [rowsA]
  rw [← hfin]
  refine pure_of (fn := Tryz.f82) [.tmp 4] ⟨Tryz.func82, rfl, by kernel_rfl⟩ (by kernel_rfl) (by kernel_rfl) (by kernel_rfl) fun x hx hσ => ?_
  (repeat refine awp_seq ?_); refine awp_reg1 (by rw [hx]; kernel_rfl) fun K hK => ?_; simp (maxSteps := 1000000) [ty28, ty64, ty117]; refine hK _ ?_; clear hK K; (first | show AWP _ _ _ _ _ | show ∃ _, _ | skip)
  (repeat refine awp_seq ?_); refine awp_reg1 (by rw [hx]; kernel_rfl) fun K hK => ?_; simp (maxSteps := 1000000) [ty117]; refine hK _ ?_; clear hK K; (first | show AWP _ _ _ _ _ | show ∃ _, _ | skip)
  (repeat refine awp_seq ?_); refine awp_reg1 (by rw [hx]; kernel_rfl) fun K hK => ?_; simp (maxSteps := 1000000) [ty28, ty25]; refine hK _ ?_; clear hK K; (first | show AWP _ _ _ _ _ | show ∃ _, _ | skip)
  (repeat refine awp_seq ?_); refine awp_reg1 (by rw [hx]; kernel_rfl) fun K hK => ?_; simp (maxSteps := 1000000) [ty28, ty3]; refine hK _ ?_; clear hK K; (first | show AWP _ _ _ _ _ | show ∃ _, _ | skip)
  rw [hwg]
  (repeat refine awp_seq ?_); refine awp_block ?_
  refine awp_loop (fun a : Nat => ⟨ofL [(2, .ptr 2 10 0 0), (3, .ptr 3 2 0 0), (5, .mp 13), (6, .ptr 6 8 0 0), (7, encI (-t.gain + a))], stoT [(2, 2, .live (obTi t)), (3, 3, .live ⟨false, false, 2, [cTs y]⟩), (13, 13, .live (obK (rowsA t y (a * nS (gwT t))))), (6, 6, .live (obWh (wst t y a)))]⟩)
    (fun a => a ≤ nA (gwT t)) (fun a => nA (gwT t) - a) 0 (by simp) ?_ ?_
  · rw [h0]
    simp only [wst, if_true]
    refine wk_shape (shp0 hσ (by simp) (by simp) ?_) ?_
    · simp [SlotOk] <;> (repeat' (first | exact .same (by simp [purel, C.isPure]) | exact .cons (by simp [mtl, mtc, mT, mH, C.isPure, purel]) (by simp) .nil | refine And.intro ?_ ?_))
    · simp [mtc, mtl, mT, C.isPure, purel] <;> (try simp (disch := omega) [wrap_id]) <;> (try omega)
  · intro a haA
    (repeat refine awp_seq ?_); refine awp_reg1 (by rw [hx]; kernel_rfl) fun K hK => ?_; simp (maxSteps := 1000000) [ty28, ty3]; refine hK _ ?_; clear hK K; (first | show AWP _ _ _ _ _ | show ∃ _, _ | skip)
    (repeat refine awp_seq ?_); refine awp_cond (by simp; rfl) (by rw [hx]; simp) (fun hc => ?_) (fun hc => ?_)
    · simp at hc
      have hlt : a < nA (gwT t) := by omega
      refine awp_skip ?_; (first | show AWP _ _ _ _ _ | show ∃ _, _ | skip)
      (repeat refine awp_seq ?_); refine awp_block ?_
      (repeat refine awp_seq ?_); refine awp_reg1 (by rw [hx]; kernel_rfl) fun K hK => ?_; simp (maxSteps := 1000000) [ty64, ty3]
      refine callP (seen55 y.area (-t.gain + a) ha (by omega)) (by first | (simp; done) | (simp [*]; done)) ?_; simp (maxSteps := 1000000) [ty3]
      refine hK _ ?_; clear hK K; (first | show AWP _ _ _ _ _ | show ∃ _, _ | skip)
      (repeat refine awp_seq ?_); refine awp_reg1 (by rw [hx]; kernel_rfl) fun K hK => ?_; simp (maxSteps := 1000000) [ty3, ty23, ty25]; refine hK _ ?_; clear hK K; (first | show AWP _ _ _ _ _ | show ∃ _, _ | skip)
      (repeat refine awp_seq ?_); refine awp_reg1 (by rw [hx]; kernel_rfl) fun K hK => ?_; simp (maxSteps := 1000000) [ty25, ty64, ty62]
      refine callP (skewsA t.w y (-t.gain + a) hn) (by first | (simp; done) | (simp [*]; done)) ?_; simp (maxSteps := 1000000) [ty41, ty36]
      refine hK _ ?_; clear hK K; (first | show AWP _ _ _ _ _ | show ∃ _, _ | skip)
      have hnew := fun i (hi : i < (tellA t.w y (-t.gain + a)).length) => findK_none _ _ 0 (rowsA_new (y := y) hlt hi)
      have hstep := rowsA_step t y hlt
      have hlen := numsI_len Tr.skew (oneW t.w (seenA y.area (-t.gain + a))) y.l
      have hTl : tellA t.w y (-t.gain + a) = numsI Tr.skew (oneW t.w (seenA y.area (-t.gain + a))) y.l := rfl
      rw [← hTl] at hlen
      clear hTl
      generalize tellA t.w y (-t.gain + a) = T at *
      generalize hV : rowsA t y (a * nS (gwT t)) = V at *
      obtain ⟨Lf, hLf⟩ : ∃ Lf : Nat → List Tr, ∀ i, Lf i = V ++ (T.take i).map fun s => (⟨-t.gain + a, s⟩ : Tr) := ⟨_, fun _ => rfl⟩
      have hL0 : Lf 0 = V := by rw [hLf]; simp
      have hLn : Lf T.length = rowsA t y ((a + 1) * nS (gwT t)) := by rw [hLf, hstep, List.take_length]
      have hLs : ∀ i (hi : i < T.length), Lf (i + 1) = Lf i ++ [⟨-t.gain + a, T[i]⟩] := fun i hi => by
        rw [hLf, hLf, List.take_succ_eq_append_getElem hi, List.map_append, ← List.append_assoc]; rfl
      have hLk : ∀ i (hi : i < T.length), findC (.flat [.i64, .i64]) (.agg [encI (-t.gain + a), encI T[i]]) ((Lf i).map rowK) 0 = some none := fun i hi => by
        rw [hLf]; exact hnew i hi
      clear hLf hnew hstep
      (repeat refine awp_seq ?_); refine awp_reg1 (by rw [hx]; kernel_rfl) fun K hK => ?_; simp (maxSteps := 1000000) [ty41]; refine hK _ ?_; clear hK K; (first | show AWP _ _ _ _ _ | show ∃ _, _ | skip)
      (repeat refine awp_seq ?_); refine awp_block ?_
      refine awp_loop (fun i : Nat => ⟨ofL [(2, .ptr 2 10 0 0), (3, .ptr 3 2 0 0), (5, .mp 13), (6, .ptr 6 8 0 0), (7, encI (-t.gain + a)), (40, slI T), (41, encI T.length), (42, encI i)], stoT [(2, 2, .live (obTi t)), (3, 3, .live ⟨false, false, 2, [cTs y]⟩), (13, 13, .live (obK (Lf i))), (6, 6, .live (obWh (wst t y (a + 1))))]⟩)
        (fun i => i ≤ T.length) (fun i => T.length - i) 0 (by simp) ?_ ?_
      · simp only [hL0]
        refine wk_shape (shp0 hσ (by simp) (by simp) ?_) ?_
        · simp [SlotOk] <;> (repeat' (first | exact .same (by simp [purel, C.isPure]) | exact .cons (by simp [mtl, mtc, mT, mH, C.isPure, purel]) (by simp) .nil | refine And.intro ?_ ?_))
        · simp [mtc, mtl, mT, C.isPure, purel] <;> (try simp (disch := omega) [wrap_id]) <;> (try omega)
      · intro i hi
        (repeat refine awp_seq ?_); refine awp_reg1 (by rw [hx]; kernel_rfl) fun K hK => ?_; simp (maxSteps := 1000000) [ty3]; refine hK _ ?_; clear hK K; (first | show AWP _ _ _ _ _ | show ∃ _, _ | skip)
        (repeat refine awp_seq ?_); refine awp_cond (by simp; rfl) (by rw [hx]; simp) (fun hc2 => ?_) (fun hc2 => ?_)
        · simp at hc2
          have hit : i < T.length := by omega
          have hfi := hLk i hit
          have hsd := hLs i hit
          simp only [encI] at hfi
          refine awp_skip ?_; (first | show AWP _ _ _ _ _ | show ∃ _, _ | skip)
          (repeat refine awp_seq ?_); refine awp_block ?_
          (repeat refine awp_seq ?_); refine awp_reg1 (by rw [hx]; kernel_rfl) fun K hK => ?_; simp (maxSteps := 1000000) [ty41, ty3, hit]; refine hK _ ?_; clear hK K; (first | show AWP _ _ _ _ _ | show ∃ _, _ | skip)
          (repeat refine awp_seq ?_); refine awp_drw3 [7004] [0, 1, 2, 3, 4, 5, 6, 7, 8] (by rw [hx]; kernel_rfl) (by kernel_rfl) (by kernel_rfl) (by kernel_rfl) fun K hK => ?_; simp (maxSteps := 1000000) [ty117, ty88, fe88, ty3, eqInts, hfi]; refine hK _ ?_; clear hK K; (first | show AWP _ _ _ _ _ | show ∃ _, _ | skip)
          (repeat refine awp_seq ?_); refine awp_reg1 (by rw [hx]; kernel_rfl) fun K hK => ?_; simp (maxSteps := 1000000) [ty3]; refine hK _ ?_; clear hK K; (first | show AWP _ _ _ _ _ | show ∃ _, _ | skip)
          rw [wrap_id (by omega) (by omega)]
          refine ⟨i + 1, by omega, by omega, ?_⟩
          simp only [hsd]
          have hwr : IntKind.i64.wrap 1 = 1 := by decide
          refine wk_shape (shp0 hσ (by simp) (by simp) ?_) ?_
          · simp [SlotOk] <;> (repeat' (first | exact .same (by simp [purel, C.isPure]) | exact .cons (by simp [mtl, mtc, mT, mH, C.isPure, purel]) (by simp) .nil | refine And.intro ?_ ?_))
          · simp [mtc, mtl, mT, C.isPure, purel, hwr] <;> (try simp (disch := omega) [wrap_id]) <;> (try omega)
        · simp at hc2
          (repeat refine awp_seq ?_); refine awp_exit ?_; (first | show AWP _ _ _ _ _ | show ∃ _, _ | skip)
          have hiT : i = T.length := by omega
          rw [hiT, hLn]
          (repeat refine awp_seq ?_); refine awp_reg1 (by rw [hx]; kernel_rfl) fun K hK => ?_; simp (maxSteps := 1000000) [ty3]; refine hK _ ?_; clear hK K; (first | show AWP _ _ _ _ _ | show ∃ _, _ | skip)
          rw [wrap_id (by omega) (by omega)]
          refine ⟨a + 1, by omega, by omega, ?_⟩
          refine wk_shape (shp0 hσ (by simp) (by simp) ?_) ?_
          · simp [SlotOk] <;> (repeat' (first | exact .same (by simp [purel, C.isPure]) | exact .cons (by simp [mtl, mtc, mT, mH, C.isPure, purel]) (by simp) .nil | refine And.intro ?_ ?_))
          · simp [mtc, mtl, mT, C.isPure, purel] <;> (try simp (disch := omega) [wrap_id]) <;> (try omega)
    · simp at hc
      (repeat refine awp_seq ?_); refine awp_exit ?_; (first | show AWP _ _ _ _ _ | show ∃ _, _ | skip)
      have han : a = nA (gwT t) := by omega
      (repeat refine awp_seq ?_); refine awp_reg1 (by rw [hx]; kernel_rfl) fun K hK => ?_; simp (maxSteps := 1000000) [ty117]; refine hK _ ?_; clear hK K; (first | show AWP _ _ _ _ _ | show ∃ _, _ | skip)
      (repeat refine awp_seq ?_); refine awp_ret ?_; refine And.intro (Or.inr rfl) ?_
      rw [han]
      simp [retC, resC, viewC, mapO]

end Go.Proofs.YtbhbmnofmoibhaaGreat

namespace Go.Proofs.YtbhbmnofmoibhaaGreat
open Go Go.Abs

set_option maxHeartbeats 4000000


theorem check29 (t : Ti) (hn : TiLen t) : Pure Tryz.prog 29 [encTi t] (encI (checkT t)) := by
  have hlt := hn.ts
  refine pure_of (fn := Tryz.f29) [.tmp 2] ⟨Tryz.func29, rfl, by kernel_rfl⟩ (by kernel_rfl) (by kernel_rfl) (by kernel_rfl) fun x hx hσ => ?_
  (repeat refine awp_seq ?_); refine awp_reg1 (by rw [hx]; kernel_rfl) fun K hK => ?_; simp (maxSteps := 1000000) [ty28]; refine hK _ ?_; clear hK K; (first | show AWP _ _ _ _ _ | show ∃ _, _ | skip)
  (repeat refine awp_seq ?_); refine awp_reg1 (by rw [hx]; kernel_rfl) fun K hK => ?_; simp (maxSteps := 1000000) []; refine hK _ ?_; clear hK K; (first | show AWP _ _ _ _ _ | show ∃ _, _ | skip)
  cases hg : (decide (0 ≤ t.gain) && decide (t.gain ≤ 50))
  · have hT : checkT t = 90 := by unfold checkT; rw [if_pos (.inl hg)]
    (repeat refine awp_seq ?_); refine awp_reg1 (by rw [hx]; kernel_rfl) fun K hK => ?_; simp (maxSteps := 1000000) [ty28, ty3]
    refine callP (within69 t.gain 0 50) (by first | (simp; done) | (simp [*]; done)) ?_; simp (maxSteps := 1000000) [hg, ty3]
    refine hK _ ?_; clear hK K; (first | show AWP _ _ _ _ _ | show ∃ _, _ | skip)
    · (repeat refine awp_seq ?_); refine awp_cond (by simp [hg]; rfl) (by rw [hx]; simp) (fun hd => ?_) (fun hd => ?_)
      · clear hd
        (repeat refine awp_seq ?_); refine awp_reg1 (by rw [hx]; kernel_rfl) fun K hK => ?_; simp (maxSteps := 1000000) []; refine hK _ ?_; clear hK K; (first | show AWP _ _ _ _ _ | show ∃ _, _ | skip)
        (repeat refine awp_seq ?_); refine awp_ret ?_; refine And.intro (Or.inr rfl) ?_
        simp [retC, resC, viewC, mapO, hT]
      · simp [hg] at hd
  · by_cases h6 : (6 : Int) < (t.ts.length : Int)
    · have hT : checkT t = 90 := by unfold checkT; rw [if_pos (.inr (.inl (by omega)))]
      (repeat refine awp_seq ?_); refine awp_reg1 (by rw [hx]; kernel_rfl) fun K hK => ?_; simp (maxSteps := 1000000) [ty28, ty3]
      refine callP (within69 t.gain 0 50) (by first | (simp; done) | (simp [*]; done)) ?_; simp (maxSteps := 1000000) [hg, ty3, ty28, ty26, h6]
      refine hK _ ?_; clear hK K; (first | show AWP _ _ _ _ _ | show ∃ _, _ | skip)
      · (repeat refine awp_seq ?_); refine awp_cond (by simp [h6]; rfl) (by rw [hx]; simp) (fun hd => ?_) (fun hd => ?_)
        · clear hd
          (repeat refine awp_seq ?_); refine awp_reg1 (by rw [hx]; kernel_rfl) fun K hK => ?_; simp (maxSteps := 1000000) []; refine hK _ ?_; clear hK K; (first | show AWP _ _ _ _ _ | show ∃ _, _ | skip)
          (repeat refine awp_seq ?_); refine awp_ret ?_; refine And.intro (Or.inr rfl) ?_
          simp [retC, resC, viewC, mapO, hT]
        · simp [h6] at hd
    · cases ha : t.ts.all (fun x => areaB x.area)
      · have hT : checkT t = 90 := by unfold checkT; rw [if_pos (.inr (.inr ha))]
        (repeat refine awp_seq ?_); refine awp_reg1 (by rw [hx]; kernel_rfl) fun K hK => ?_; simp (maxSteps := 1000000) [ty28, ty3]
        refine callP (within69 t.gain 0 50) (by first | (simp; done) | (simp [*]; done)) ?_; simp (maxSteps := 1000000) [hg, ty3, ty28, ty26, h6]
        refine callP (contains70 t.nl t.fu t.ts hlt) (by first | (simp; done) | (simp [*]; done)) ?_; simp (maxSteps := 1000000) [ha]
        refine hK _ ?_; clear hK K; (first | show AWP _ _ _ _ _ | show ∃ _, _ | skip)
        · (repeat refine awp_seq ?_); refine awp_cond (by simp [ha]; rfl) (by rw [hx]; simp) (fun hd => ?_) (fun hd => ?_)
          · clear hd
            (repeat refine awp_seq ?_); refine awp_reg1 (by rw [hx]; kernel_rfl) fun K hK => ?_; simp (maxSteps := 1000000) []; refine hK _ ?_; clear hK K; (first | show AWP _ _ _ _ _ | show ∃ _, _ | skip)
            (repeat refine awp_seq ?_); refine awp_ret ?_; refine And.intro (Or.inr rfl) ?_
            simp [retC, resC, viewC, mapO, hT]
          · simp [ha] at hd
      · have hT : checkT t = (if t.ts = [] then checkI t.w [] else checksI t.w t.ts) := by
          unfold checkT; rw [if_neg]
          rintro (h1 | h1 | h1)
          · rw [hg] at h1; cases h1
          · omega
          · rw [ha] at h1; cases h1
        (repeat refine awp_seq ?_); refine awp_reg1 (by rw [hx]; kernel_rfl) fun K hK => ?_; simp (maxSteps := 1000000) [ty28, ty3]
        refine callP (within69 t.gain 0 50) (by first | (simp; done) | (simp [*]; done)) ?_; simp (maxSteps := 1000000) [hg, ty3, ty28, ty26, h6]
        refine callP (contains70 t.nl t.fu t.ts hlt) (by first | (simp; done) | (simp [*]; done)) ?_; simp (maxSteps := 1000000) [ha]
        refine hK _ ?_; clear hK K; (first | show AWP _ _ _ _ _ | show ∃ _, _ | skip)
        (repeat refine awp_seq ?_); refine awp_cond (by simp [ha]; rfl) (by rw [hx]; simp) (fun hd => ?_) (fun hd => ?_)
        · simp [ha] at hd
        · clear hd
          refine awp_skip ?_; (first | show AWP _ _ _ _ _ | show ∃ _, _ | skip)
          by_cases h0 : t.ts = []
          · have h0' : (t.ts.length : Int) = 0 := by rw [h0]; rfl
            (repeat refine awp_seq ?_); refine awp_reg1 (by rw [hx]; kernel_rfl) fun K hK => ?_; simp (maxSteps := 1000000) [ty28, ty26, ty3, h0']; refine hK _ ?_; clear hK K; (first | show AWP _ _ _ _ _ | show ∃ _, _ | skip)
            (repeat refine awp_seq ?_); refine awp_cond (by simp [h0']; rfl) (by rw [hx]; simp) (fun hd => ?_) (fun hd => ?_)
            · clear hd
              (repeat refine awp_seq ?_); refine awp_reg1 (by rw [hx]; kernel_rfl) fun K hK => ?_; simp (maxSteps := 1000000) [ty28, ty25]
              refine callP (check30 t.w true true [] (by simp)) (by first | (simp; done) | (simp [*]; done)) ?_; simp (maxSteps := 1000000) []
              refine hK _ ?_; clear hK K; (first | show AWP _ _ _ _ _ | show ∃ _, _ | skip)
              (repeat refine awp_seq ?_); refine awp_ret ?_; refine And.intro (Or.inr rfl) ?_
              simp [retC, resC, viewC, mapO, hT, h0]
            · simp [h0'] at hd
          · have h0' : ((t.ts.length : Int) == 0) = false := by
              rw [beq_eq_false_iff_ne]
              intro e; exact h0 (List.eq_nil_of_length_eq_zero (by omega))
            (repeat refine awp_seq ?_); refine awp_reg1 (by rw [hx]; kernel_rfl) fun K hK => ?_; simp (maxSteps := 1000000) [ty28, ty26, ty3, h0']; refine hK _ ?_; clear hK K; (first | show AWP _ _ _ _ _ | show ∃ _, _ | skip)
            (repeat refine awp_seq ?_); refine awp_cond (by simp [h0']; rfl) (by rw [hx]; simp) (fun hd => ?_) (fun hd => ?_)
            · simp [h0'] at hd
            · clear hd
              refine awp_skip ?_; (first | show AWP _ _ _ _ _ | show ∃ _, _ | skip)
              (repeat refine awp_seq ?_); refine awp_reg1 (by rw [hx]; kernel_rfl) fun K hK => ?_; simp (maxSteps := 1000000) [ty28, ty26]; refine hK _ ?_; clear hK K; (first | show AWP _ _ _ _ _ | show ∃ _, _ | skip)
              (repeat refine awp_seq ?_); refine awp_block ?_
              refine awp_loop (fun i : Nat => ⟨ofL [(1, .ptr 1 10 0 0), (31, sTs t.nl t.fu t.ts), (32, encI t.ts.length), (33, encI i)], stoT [(1, 1, .live (obTi t))]⟩)
                (fun i => i ≤ t.ts.length ∧ ∀ j, (h : j < t.ts.length) → j < i → checkI t.w t.ts[j].l = 0) (fun i => t.ts.length - i) 0 (by simp) ?_ ?_
              · refine wk_shape (shp0 hσ (by simp) (by simp) ?_) ?_
                · simp [SlotOk] <;> (repeat' (first | exact .same (by simp [purel, C.isPure]) | exact .cons (by simp [mtl, mtc, mT, mH, C.isPure, purel]) (by simp) .nil | refine And.intro ?_ ?_))
                · simp [mtc, mtl, mT, C.isPure, purel] <;> (try simp (disch := omega) [wrap_id]) <;> (try omega)
              · intro i ⟨hi, hj⟩
                (repeat refine awp_seq ?_); refine awp_reg1 (by rw [hx]; kernel_rfl) fun K hK => ?_; simp (maxSteps := 1000000) [ty3]; refine hK _ ?_; clear hK K; (first | show AWP _ _ _ _ _ | show ∃ _, _ | skip)
                (repeat refine awp_seq ?_); refine awp_cond (by simp; rfl) (by rw [hx]; simp) (fun hc1 => ?_) (fun hc1 => ?_)
                · simp at hc1
                  refine awp_skip ?_; (first | show AWP _ _ _ _ _ | show ∃ _, _ | skip)
                  (repeat refine awp_seq ?_); refine awp_block ?_
                  (repeat refine awp_seq ?_); refine awp_reg1 (by rw [hx]; kernel_rfl) fun K hK => ?_; simp (maxSteps := 1000000) [ty26, ty64, hc1]; refine hK _ ?_; clear hK K; (first | show AWP _ _ _ _ _ | show ∃ _, _ | skip)
                  (repeat refine awp_seq ?_); refine awp_reg1 (by rw [hx]; kernel_rfl) fun K hK => ?_; simp (maxSteps := 1000000) [ty28, ty25, ty64, ty62]
                  refine callP (check30 t.w t.ts[i].nl t.ts[i].fu t.ts[i].l (hn.l _ (List.getElem_mem hc1))) (by first | (simp; done) | (simp [*]; done)) ?_; simp (maxSteps := 1000000) []
                  refine hK _ ?_; clear hK K; (first | show AWP _ _ _ _ _ | show ∃ _, _ | skip)
                  (repeat refine awp_seq ?_); refine awp_reg1 (by rw [hx]; kernel_rfl) fun K hK => ?_; simp (maxSteps := 1000000) [ty36]; refine hK _ ?_; clear hK K; (first | show AWP _ _ _ _ _ | show ∃ _, _ | skip)
                  by_cases hz : checkI t.w t.ts[i].l = 0
                  · (repeat refine awp_seq ?_); refine awp_cond (by simp [hz]; rfl) (by rw [hx]; simp) (fun hd => ?_) (fun hd => ?_)
                    · simp at hd
                    · clear hd
                      refine awp_skip ?_; (first | show AWP _ _ _ _ _ | show ∃ _, _ | skip)
                      (repeat refine awp_seq ?_); refine awp_reg1 (by rw [hx]; kernel_rfl) fun K hK => ?_; simp (maxSteps := 1000000) [ty3]; refine hK _ ?_; clear hK K; (first | show AWP _ _ _ _ _ | show ∃ _, _ | skip)
                      refine ⟨i + 1, ⟨by omega, fun j h1 h2 => ?_⟩, by omega, ?_⟩
                      · by_cases hji : j = i
                        · subst hji; assumption
                        · exact hj j h1 (by omega)
                      · refine wk_shape (shp0 hσ (by simp) (by simp) ?_) ?_
                        · simp [SlotOk] <;> (repeat' (first | exact .same (by simp [purel, C.isPure]) | exact .cons (by simp [mtl, mtc, mT, mH, C.isPure, purel]) (by simp) .nil | refine And.intro ?_ ?_))
                        · simp [mtc, mtl, mT, C.isPure, purel] <;> (try simp (disch := omega) [wrap_id]) <;> (try omega)
                  · (repeat refine awp_seq ?_); refine awp_cond (by simp [hz]; rfl) (by rw [hx]; simp) (fun hd => ?_) (fun hd => ?_)
                    · clear hd
                      (repeat refine awp_seq ?_); refine awp_reg1 (by rw [hx]; kernel_rfl) fun K hK => ?_; simp (maxSteps := 1000000) []; refine hK _ ?_; clear hK K; (first | show AWP _ _ _ _ _ | show ∃ _, _ | skip)
                      (repeat refine awp_seq ?_); refine awp_ret ?_; refine And.intro (Or.inr rfl) ?_
                      simp [retC, resC, viewC, mapO, hT, h0, checksI_at hc1 hj hz]
                    · simp [hz] at hd
                · simp at hc1
                  (repeat refine awp_seq ?_); refine awp_exit ?_; (first | show AWP _ _ _ _ _ | show ∃ _, _ | skip)
                  (repeat refine awp_seq ?_); refine awp_reg1 (by rw [hx]; kernel_rfl) fun K hK => ?_; simp (maxSteps := 1000000) []; refine hK _ ?_; clear hK K; (first | show AWP _ _ _ _ _ | show ∃ _, _ | skip)
                  (repeat refine awp_seq ?_); refine awp_ret ?_; refine And.intro (Or.inr rfl) ?_
                  simp [retC, resC, viewC, mapO, hT, h0, checksI_all (fun j h => hj j h (by omega))]

/-- What a trial that is valid is like. -/
structure TiOk (t : Ti) : Prop where
  gain : 0 ≤ t.gain ∧ t.gain ≤ 50
  len : t.ts.length ≤ 6
  area : ∀ x ∈ t.ts, 0 ≤ x.area ∧ x.area ≤ 9000
  wh : WhOk t.w
  chk : ∀ x ∈ t.ts, checkI t.w x.l = 0

theorem checksI_zero {w : Wh} {l : List Ts} (h : checksI w l = 0) : ∀ x ∈ l, checkI w x.l = 0 := by
  induction l with
  | nil => simp
  | cons x l ih =>
    unfold checksI at h
    split at h
    · contradiction
    · rename_i h0
      intro y hy
      rcases List.mem_cons.1 hy with rfl | hy
      · exact Classical.byContradiction fun e => h0 e
      · exact ih h y hy

theorem checkT_ok {t : Ti} : checkT t = 0 ↔ TiOk t := by
  constructor
  · intro h
    unfold checkT at h
    split at h
    · omega
    · rename_i h1
      simp only [not_or, Bool.not_eq_false, Bool.and_eq_true, decide_eq_true_eq] at h1
      obtain ⟨h1, h2, h3⟩ := h1
      have hch : ∀ x ∈ t.ts, checkI t.w x.l = 0 := by
        split at h
        · rename_i h4; rw [h4]; simp
        · exact checksI_zero h
      have hwh : WhOk t.w := by
        split at h
        · exact (checkI_ok h).1
        · rename_i h4
          obtain ⟨x, hx⟩ := List.exists_mem_of_ne_nil _ h4
          exact (checkI_ok (hch x hx)).1
      refine ⟨h1, by omega, fun x hx => ?_, hwh, hch⟩
      rw [List.all_eq_true] at h3
      have := h3 x hx
      simpa [areaB] using this
  · intro h
    unfold checkT
    rw [if_neg]
    · split
      · have := h.wh
        have h2 : wheelB t.w = true := wheelB_iff.2 this
        simp [checkI, h2]
      · exact checksI_all fun j hj => h.chk _ (List.getElem_mem hj)
    · rintro (h1 | h1 | h1)
      · have := h.gain
        simp [this] at h1
      · have := h.len; omega
      · have : t.ts.all (fun x => areaB x.area) = true := by
          rw [List.all_eq_true]
          intro x hx
          have := h.area x hx
          simp [areaB, this]
        rw [this] at h1; cases h1

theorem TiOk.num {t : Ti} (h : TiOk t) : TiNum t := ⟨h.gain, by have := h.wh.skew; omega⟩

end Go.Proofs.YtbhbmnofmoibhaaGreat

namespace Go.Proofs.YtbhbmnofmoibhaaGreat
open Go Go.Abs

set_option maxHeartbeats 4000000

theorem bit_fact6 : ∀ s : Fin 64, ∀ i : Fin 8, ((IntKind.u64).wrap ((((s.val : Int).fdiv (2 ^ min i.val IntKind.u64.bits) % 2 ^ IntKind.u64.bits).toNat &&& 1 % 2 ^ IntKind.u64.bits : Nat) : Int) == 1) = Nat.testBit s.val i.val := by
  decide +kernel

theorem has99 (s i : Nat) (hs : s < 64) (hi : i < 8) : Pure Tryz.prog 99 [.int .u64 s, encI i] (.bool (s.testBit i)) := by
  have := bit_fact6 ⟨s, hs⟩ ⟨i, hi⟩
  simp only at this
  have h0 : (0 : Int) ≤ i := by omega
  have h1 : ¬ (i : Int) < 0 := by omega
  refine pure_of (fn := Tryz.f99) [.tmp 4] ⟨Tryz.func99, rfl, by kernel_rfl⟩ (by kernel_rfl) (by kernel_rfl) (by kernel_rfl) fun x hx hσ => ?_
  (repeat refine awp_seq ?_); refine awp_reg1 (by rw [hx]; kernel_rfl) fun K hK => ?_; simp (maxSteps := 1000000) []; refine hK _ ?_; clear hK K; (first | show AWP _ _ _ _ _ | show ∃ _, _ | skip)
  (repeat refine awp_seq ?_); refine awp_reg1 (by rw [hx]; kernel_rfl) fun K hK => ?_; simp (maxSteps := 1000000) [ty79, ty3, h0, h1]; refine hK _ ?_; clear hK K; (first | show AWP _ _ _ _ _ | show ∃ _, _ | skip)
  rw [this]
  (repeat refine awp_seq ?_); refine awp_ret ?_; refine And.intro (Or.inr rfl) ?_
  simp [retC, resC, viewC, mapO]

/-- Whether a truth is allowed by those tests that a set has. -/
def okS (t : Ti) (n : Nat) (k : Tr) : Bool := (List.range t.ts.length).all fun i => !n.testBit i || (match t.ts[i]? with | some y => allowB t.w y k | none => true)
/-- The truths if just some tests were made. -/
def truthsS (t : Ti) (n : Nat) : List Tr := (allT (gwT t)).filter (okS t n)
/-- What a test allows, as a map's rows. -/
def alR (t : Ti) (y : Ts) : List (List C) := ((allT (gwT t)).filter (allowB t.w y)).map rowK

@[simp] abbrev cFile (t : Ti) (nl fu : Bool) : List C := [encI t.w.full, encI t.w.read, encI t.w.slip, encI t.w.skew, encI t.w.circle, encI t.w.glow, encI t.w.ghigh, encI t.w.wrong, encI t.gain, sTs t.nl t.fu t.ts, .sl nl fu (t.ts.map fun y => [.md false (alR t y)])]
@[simp] abbrev encFile (t : Ti) (nl fu : Bool) : C := .ip (cFile t nl fu) 0

theorem findK (k : Tr) : ∀ (L : List Tr) (i : Nat), (k ∈ L ∧ ∃ j, findC (.flat [.i64, .i64]) (.agg [.int .i64 k.area, .int .i64 k.skew]) (L.map rowK) i = some (some (j, .int .i64 1))) ∨ (k ∉ L ∧ findC (.flat [.i64, .i64]) (.agg [.int .i64 k.area, .int .i64 k.skew]) (L.map rowK) i = some none)
  | [], i => .inr ⟨by simp, rfl⟩
  | y :: L, i => by
    by_cases h : k = y
    · subst h
      refine .inl ⟨by simp, i, ?_⟩
      simp [rowK, findC, sameC, eqInts]
    · have h1 : (decide (k.area = y.area) && decide (k.skew = y.skew)) = false := by
        cases e : (decide (k.area = y.area) && decide (k.skew = y.skew)) with
        | false => rfl
        | true =>
          simp only [Bool.and_eq_true, decide_eq_true_eq] at e
          obtain ⟨a, b⟩ := k
          obtain ⟨c, d⟩ := y
          simp only at e
          exact absurd (by rw [e.1, e.2]) h
      have hs : findC (.flat [.i64, .i64]) (.agg [.int .i64 k.area, .int .i64 k.skew]) ((y :: L).map rowK) i = findC (.flat [.i64, .i64]) (.agg [.int .i64 k.area, .int .i64 k.skew]) (L.map rowK) (i + 1) := by
        simp [rowK, findC, sameC, eqInts, h1]
      rw [hs]
      rcases findK k L (i + 1) with ⟨h2, h3⟩ | ⟨h2, h3⟩
      · exact .inl ⟨by simp [h2], h3⟩
      · exact .inr ⟨by simp [h2, h], h3⟩

theorem findAl (t : Ti) (y : Ts) {k : Tr} (hk : k ∈ allT (gwT t)) : (allowB t.w y k = true ∧ ∃ j, findC (.flat [.i64, .i64]) (.agg [.int .i64 k.area, .int .i64 k.skew]) (alR t y) 0 = some (some (j, .int .i64 1))) ∨
    (allowB t.w y k = false ∧ findC (.flat [.i64, .i64]) (.agg [.int .i64 k.area, .int .i64 k.skew]) (alR t y) 0 = some none) := by
  rcases findK k ((allT (gwT t)).filter (allowB t.w y)) 0 with ⟨h1, h2⟩ | ⟨h1, h2⟩
  · exact .inl ⟨(List.mem_filter.1 h1).2, h2⟩
  · refine .inr ⟨?_, h2⟩
    rw [Bool.eq_false_iff]
    intro e
    exact h1 (List.mem_filter.2 ⟨hk, e⟩)

theorem okS_true {t : Ti} {n : Nat} {k : Tr} (h : ∀ i, (hi : i < t.ts.length) → n.testBit i = true → allowB t.w t.ts[i] k = true) : okS t n k = true := by
  unfold okS
  rw [List.all_eq_true]
  intro i hi
  rw [List.mem_range] at hi
  rw [List.getElem?_eq_getElem hi]
  cases hb : n.testBit i
  · rfl
  · simp [h i hi hb]

theorem okS_false {t : Ti} {n : Nat} {k : Tr} {i : Nat} (hi : i < t.ts.length) (hb : n.testBit i = true) (h : allowB t.w t.ts[i] k = false) : okS t n k = false := by
  unfold okS
  rw [List.all_eq_false]
  refine ⟨i, List.mem_range.2 hi, ?_⟩
  rw [List.getElem?_eq_getElem hi]
  simp [hb, h]

end Go.Proofs.YtbhbmnofmoibhaaGreat

namespace Go.Proofs.YtbhbmnofmoibhaaGreat
open Go Go.Abs

set_option maxHeartbeats 4000000

theorem every_bd {t : Ti} (hw : TiNum t) : (allT (gwT t)).length ≤ 410000 := by
  have hs := hw.skew
  have hg := hw.gain
  have hA : (nA (gwT t) : Int) = t.gain - -t.gain + 1 := by unfold nA gwT; simp only; omega
  have hS : (nS (gwT t) : Int) = 2 * t.w.skew + 1 := by unfold nS gwT; simp only; omega
  rw [allT_len]
  have : nA (gwT t) * nS (gwT t) ≤ 101 * 41 := Nat.mul_le_mul (by omega) (by omega)
  omega

theorem it_tr (t : Ti) (nl fu : Bool) (n : Nat) (hw : TiOk t) (hn : n < 64) : ItC Tryz.prog 1000000 97 [] [.ip [encFile t nl fu] 0, .ip [.int .u64 n] 0] (itTr (truthsS t n)) := by
  have hlen6 := hw.len
  have hbd := every_bd hw.num
  refine it_of (fn := Tryz.f97) [] ⟨Tryz.func97, rfl, by kernel_rfl⟩ (by kernel_rfl) (by kernel_rfl) (by kernel_rfl) fun x hx q ks fam stop hrnd hstop hfam hσ hY => ?_; rw [stg_hiS hfam]
  rw [show (itTr (truthsS t n)).length = (truthsS t n).length by simp] at hstop ⊢
  have hmem : ∀ i (h : i < (allT (gwT t)).length), (allT (gwT t))[i] ∈ allT (gwT t) := fun i h => List.getElem_mem h
  have hgetS : ∀ i (h : i < (allT (gwT t)).length), okS t n (allT (gwT t))[i] = true → (itTr (truthsS t n))[((allT (gwT t)).take i).countP (okS t n)]? = some [encTr (allT (gwT t))[i]] := fun i h hb => by
    have := filter_get (okS t n) h hb
    simp [truthsS, this]
  have hstep0 := fun i (h : i < (allT (gwT t)).length) => count_step (okS t n) h
  have hfull : ((allT (gwT t)).take (allT (gwT t)).length).countP (okS t n) = (truthsS t n).length := by
    rw [List.take_length, List.countP_eq_length_filter]; rfl
  have hmono := fun i => count_mono (okS t n) (allT (gwT t)) (a := i) (b := (allT (gwT t)).length)
  have hfind := fun i (h : i < (allT (gwT t)).length) (y : Ts) => findAl t y (hmem i h)
  have hev := every98 t hw.num
  clear hmem
  obtain ⟨L, hL⟩ : ∃ L, L = allT (gwT t) := ⟨_, rfl⟩
  obtain ⟨j, hj⟩ : ∃ j : Nat → Nat, ∀ i, ((allT (gwT t)).take i).countP (okS t n) = j i := ⟨_, fun _ => rfl⟩
  simp only [hj] at hgetS hstep0 hfull hmono
  rw [← hL] at hev hbd
  simp only [← hL] at hgetS hstep0 hfull hmono hfind
  refine awp_scope ?_
  (repeat refine awp_seq ?_)
  refine awp_label ?_
  (repeat refine awp_seq ?_); refine awp_reg1 (by rw [hx]; kernel_rfl) fun K hK => ?_; simp (maxSteps := 1000000) [ty74, ty116, ty28]
  refine freshL hev (by simp [purel, C.isPure]) (by simp) ?_
  simp [ty133]
  refine hK _ ?_; clear hK K; (first | show AWP _ _ _ _ _ | show ∃ _, _ | skip)
  (repeat refine awp_seq ?_); refine awp_block ?_
  refine awp_loop (fun i : Nat => ⟨ofL [(0, .fn (.yield q) [] []), (1, .ip [encFile t nl fu] 0), (2, .ip [.int .u64 n] 0), (12, .own 12 2 0 L.length), (13, encI L.length), (14, encI i)], hiS 1000000 (stoT [(12, 12, .live (obTs L))]) (stg 1000000 fam stop (j i))⟩)
    (fun i => i ≤ L.length ∧ j i ≤ stop) (fun i => L.length - i) 0 ?_ ?_ ?_
  · refine ⟨Nat.zero_le _, ?_⟩
    rw [← hj]; simp
  · have : j 0 = 0 := by rw [← hj]; simp
    rw [this]
    refine wk_shapeH hfam ?_ (by simp) (by simp) (by simp) ?_ (hx_stg hfam hσ) ?_
    · intro k hk
      have hne : ∀ n : Nat, n < 1000 → k ≠ n := fun n hn => by omega
      simp [upd, hk, hne]
    · simp [SlotOk] <;> (repeat' (first | exact .same (by simp [purel, C.isPure]) | exact .cons (by simp [mtl, mtc, mT, mH, C.isPure, purel]) (by simp) .nil | refine And.intro ?_ ?_))
    · simp [mtc, mtl, mH, mT, C.isPure, purel] <;> (try simp (disch := omega) [wrap_id]) <;> (try omega)
  · intro i ⟨hi, hst⟩
    (repeat refine awp_seq ?_); refine awp_reg1 (by rw [hx]; kernel_rfl) fun K hK => ?_; simp (maxSteps := 1000000) [ty3]; refine hK _ ?_; clear hK K; (first | show AWP _ _ _ _ _ | show ∃ _, _ | skip)
    (repeat refine awp_seq ?_); refine awp_cond (by simp; rfl) (by rw [hx]; simp) (fun hc => ?_) (fun hc => ?_)
    · simp at hc
      refine awp_skip ?_; (first | show AWP _ _ _ _ _ | show ∃ _, _ | skip)
      (repeat refine awp_seq ?_); refine awp_block ?_
      have hji := hstep0 i hc
      have hne : L ≠ [] := by intro e; rw [e] at hc; simp at hc
      have hf := hfind i hc
      have hgs := hgetS i hc
      (repeat refine awp_seq ?_); refine awp_reg1 (by rw [hx]; kernel_rfl) fun K hK => ?_; simp (maxSteps := 1000000) [ty133, ty88, hc, hne]; refine hK _ ?_; clear hK K; (first | show AWP _ _ _ _ _ | show ∃ _, _ | skip)
      (repeat refine awp_seq ?_); refine awp_reg1 (by rw [hx]; kernel_rfl) fun K hK => ?_; simp (maxSteps := 1000000) [ty74, ty116, ty114]; refine hK _ ?_; clear hK K; (first | show AWP _ _ _ _ _ | show ∃ _, _ | skip)
      generalize hk : L[i] = k at *
      (repeat refine awp_seq ?_); refine awp_block ?_
      refine awp_loop (fun a : Nat => ⟨ofL [(0, .fn (.yield q) [] []), (1, .ip [encFile t nl fu] 0), (2, .ip [.int .u64 n] 0), (5, .ptr 5 2 0 0), (12, .own 12 2 0 L.length), (13, encI L.length), (14, encI i), (21, .sl nl fu (t.ts.map fun y => [.md false (alR t y)])), (22, encI t.ts.length), (23, encI a)],
          hiS 1000000 (stoT [(5, 5, .live ⟨false, false, 2, [cTr k]⟩), (12, 12, .live (obTs L))]) (stg 1000000 fam stop (j i))⟩)
        (fun a => a ≤ t.ts.length ∧ ∀ b, (h : b < t.ts.length) → b < a → n.testBit b = true → allowB t.w t.ts[b] k = true) (fun a => t.ts.length - a) 0 (by simp) ?_ ?_
      · refine wk_shapeH hfam ?_ (by simp) (by simp) (by simp) ?_ (hx_stg hfam hσ) ?_
        · intro k hk
          have hne : ∀ n : Nat, n < 1000 → k ≠ n := fun n hn => by omega
          simp [upd, hk, hne]
        · simp [SlotOk] <;> (repeat' (first | exact .same (by simp [purel, C.isPure]) | exact .cons (by simp [mtl, mtc, mT, mH, C.isPure, purel]) (by simp) .nil | refine And.intro ?_ ?_))
        · simp [mtc, mtl, mH, mT, C.isPure, purel] <;> (try simp (disch := omega) [wrap_id]) <;> (try omega)
      · intro a ⟨ha, hab⟩
        (repeat refine awp_seq ?_); refine awp_reg1 (by rw [hx]; kernel_rfl) fun K hK => ?_; simp (maxSteps := 1000000) [ty3]; refine hK _ ?_; clear hK K; (first | show AWP _ _ _ _ _ | show ∃ _, _ | skip)
        (repeat refine awp_seq ?_); refine awp_cond (by simp; rfl) (by rw [hx]; simp) (fun hc1 => ?_) (fun hc1 => ?_)
        · simp at hc1
          refine awp_skip ?_; (first | show AWP _ _ _ _ _ | show ∃ _, _ | skip)
          (repeat refine awp_seq ?_); refine awp_block ?_
          (repeat refine awp_seq ?_); refine awp_reg1 (by rw [hx]; kernel_rfl) fun K hK => ?_; simp (maxSteps := 1000000) [ty114, ty117, hc1]; refine hK _ ?_; clear hK K; (first | show AWP _ _ _ _ _ | show ∃ _, _ | skip)
          cases hb : n.testBit a
          · (repeat refine awp_seq ?_); refine awp_reg1 (by rw [hx]; kernel_rfl) fun K hK => ?_; simp (maxSteps := 1000000) [ty79]
            refine callP (has99 n a hn (by omega)) (by first | (simp; done) | (simp [*]; done)) ?_; simp (maxSteps := 1000000) [hb]
            refine hK _ ?_; clear hK K; (first | show AWP _ _ _ _ _ | show ∃ _, _ | skip)
            (repeat refine awp_seq ?_); refine awp_cond (by simp; rfl) (by rw [hx]; simp) (fun hd => ?_) (fun hd => ?_)
            · simp at hd
            · clear hd
              refine awp_skip ?_; (first | show AWP _ _ _ _ _ | show ∃ _, _ | skip)
              (repeat refine awp_seq ?_); refine awp_reg1 (by rw [hx]; kernel_rfl) fun K hK => ?_; simp (maxSteps := 1000000) [ty3]; refine hK _ ?_; clear hK K; (first | show AWP _ _ _ _ _ | show ∃ _, _ | skip)
              refine ⟨a + 1, ⟨by omega, fun b h1 h2 h3 => ?_⟩, by omega, ?_⟩
              · by_cases hba : b = a
                · subst hba; rw [hb] at h3; cases h3
                · exact hab b h1 (by omega) h3
              · refine wk_shapeH hfam ?_ (by simp) (by simp) (by simp) ?_ (hx_stg hfam hσ) ?_
                · intro k hk
                  have hne : ∀ n : Nat, n < 1000 → k ≠ n := fun n hn => by omega
                  simp [upd, hk, hne]
                · simp [SlotOk] <;> (repeat' (first | exact .same (by simp [purel, C.isPure]) | exact .cons (by simp [mtl, mtc, mT, mH, C.isPure, purel]) (by simp) .nil | refine And.intro ?_ ?_))
                · simp [mtc, mtl, mH, mT, C.isPure, purel] <;> (try simp (disch := omega) [wrap_id]) <;> (try omega)
          · rcases hf t.ts[a] with ⟨h1, z, h2⟩ | ⟨h1, h2⟩
            · (repeat refine awp_seq ?_); refine awp_reg1 (by rw [hx]; kernel_rfl) fun K hK => ?_; simp (maxSteps := 1000000) [ty79]
              refine callP (has99 n a hn (by omega)) (by first | (simp; done) | (simp [*]; done)) ?_; simp (maxSteps := 1000000) [hb, ty117, ty88, fe88, ty3, eqInts, h2]
              refine hK _ ?_; clear hK K; (first | show AWP _ _ _ _ _ | show ∃ _, _ | skip)
              (repeat refine awp_seq ?_); refine awp_cond (by simp; rfl) (by rw [hx]; simp) (fun hd => ?_) (fun hd => ?_)
              · simp at hd
              · clear hd
                refine awp_skip ?_; (first | show AWP _ _ _ _ _ | show ∃ _, _ | skip)
                (repeat refine awp_seq ?_); refine awp_reg1 (by rw [hx]; kernel_rfl) fun K hK => ?_; simp (maxSteps := 1000000) [ty3]; refine hK _ ?_; clear hK K; (first | show AWP _ _ _ _ _ | show ∃ _, _ | skip)
                refine ⟨a + 1, ⟨by omega, fun b h1' h2' h3 => ?_⟩, by omega, ?_⟩
                · by_cases hba : b = a
                  · subst hba; exact h1
                  · exact hab b h1' (by omega) h3
                · refine wk_shapeH hfam ?_ (by simp) (by simp) (by simp) ?_ (hx_stg hfam hσ) ?_
                  · intro k hk
                    have hne : ∀ n : Nat, n < 1000 → k ≠ n := fun n hn => by omega
                    simp [upd, hk, hne]
                  · simp [SlotOk] <;> (repeat' (first | exact .same (by simp [purel, C.isPure]) | exact .cons (by simp [mtl, mtc, mT, mH, C.isPure, purel]) (by simp) .nil | refine And.intro ?_ ?_))
                  · simp [mtc, mtl, mH, mT, C.isPure, purel] <;> (try simp (disch := omega) [wrap_id]) <;> (try omega)
            · have hok := okS_false hc1 hb h1
              rw [hok] at hji
              simp at hji
              (repeat refine awp_seq ?_); refine awp_reg1 (by rw [hx]; kernel_rfl) fun K hK => ?_; simp (maxSteps := 1000000) [ty79]
              refine callP (has99 n a hn (by omega)) (by first | (simp; done) | (simp [*]; done)) ?_; simp (maxSteps := 1000000) [hb, ty117, ty88, fe88, ty3, eqInts, h2]
              refine hK _ ?_; clear hK K; (first | show AWP _ _ _ _ _ | show ∃ _, _ | skip)
              (repeat refine awp_seq ?_); refine awp_cond (by simp; rfl) (by rw [hx]; simp) (fun hd => ?_) (fun hd => ?_)
              · clear hd
                (repeat refine awp_seq ?_); refine awp_exit ?_; (first | show AWP _ _ _ _ _ | show ∃ _, _ | skip)
                (repeat refine awp_seq ?_); refine awp_reg1 (by rw [hx]; kernel_rfl) fun K hK => ?_; simp (maxSteps := 1000000) [ty3]; refine hK _ ?_; clear hK K; (first | show AWP _ _ _ _ _ | show ∃ _, _ | skip)
                rw [wrap_id (by omega) (by omega)]
                refine ⟨i + 1, ⟨by omega, by omega⟩, by omega, ?_⟩
                rw [hji]
                refine wk_shapeH hfam ?_ (by simp) (by simp) (by simp) ?_ (hx_stg hfam hσ) ?_
                · intro k hk
                  have hne : ∀ n : Nat, n < 1000 → k ≠ n := fun n hn => by omega
                  simp [upd, hk, hne]
                · simp [SlotOk] <;> (repeat' (first | exact .same (by simp [purel, C.isPure]) | exact .cons (by simp [mtl, mtc, mT, mH, C.isPure, purel]) (by simp) .nil | refine And.intro ?_ ?_))
                · simp [mtc, mtl, mH, mT, C.isPure, purel] <;> (try simp (disch := omega) [wrap_id]) <;> (try omega)
              · simp at hd
        · simp at hc1
          (repeat refine awp_seq ?_); refine awp_exit ?_; (first | show AWP _ _ _ _ _ | show ∃ _, _ | skip)
          have hok : okS t n k = true := okS_true fun b hb1 hb2 => hab b hb1 (by omega) hb2
          rw [hok] at hji
          simp at hji
          (repeat refine awp_seq ?_); refine awp_reg1 (by rw [hx]; kernel_rfl) fun K hK => ?_; simp (maxSteps := 1000000) [ty88]
          refine yieldL hY hst (hgs hok) (by intro k hk; have hne : ∀ n : Nat, n < 1000 → k ≠ n := fun n hn => by omega
                                             simp [upd, hk, hne]) ?_
          simp
          refine hK _ ?_; clear hK K; (first | show AWP _ _ _ _ _ | show ∃ _, _ | skip)
          (repeat refine awp_seq ?_); refine awp_cond (by simp; rfl) (by rw [hx]; simp) (fun hd => ?_) (fun hd => ?_)
          · simp at hd
            (repeat refine awp_seq ?_); refine awp_ret ?_; refine And.intro (Or.inr rfl) ?_
            refine ⟨⟨_, rfl⟩, ?_⟩
            have : finI stop (truthsS t n).length = j i + 1 := by
              have := hmono (i + 1)
              unfold finI; rw [if_pos (by omega)]; omega
            rw [this]
            exact wk_endH hfam hσ (fun k hk => by show (if 1000000 ≤ k then _ else _) = _; rw [if_pos hk])
          · simp at hd
            refine awp_skip ?_; (first | show AWP _ _ _ _ _ | show ∃ _, _ | skip)
            (repeat refine awp_seq ?_); refine awp_reg1 (by rw [hx]; kernel_rfl) fun K hK => ?_; simp (maxSteps := 1000000) [ty3]; refine hK _ ?_; clear hK K; (first | show AWP _ _ _ _ _ | show ∃ _, _ | skip)
            rw [wrap_id (by omega) (by omega)]
            refine ⟨i + 1, ⟨by omega, by omega⟩, by omega, ?_⟩
            rw [hji]
            refine wk_shapeH hfam ?_ (by simp) (by simp) (by simp) ?_ (hx_stg hfam hσ) ?_
            · intro k hk
              have hne : ∀ n : Nat, n < 1000 → k ≠ n := fun n hn => by omega
              simp [upd, hk, hne]
            · simp [SlotOk] <;> (repeat' (first | exact .same (by simp [purel, C.isPure]) | exact .cons (by simp [mtl, mtc, mT, mH, C.isPure, purel]) (by simp) .nil | refine And.intro ?_ ?_))
            · simp [mtc, mtl, mH, mT, C.isPure, purel] <;> (try simp (disch := omega) [wrap_id]) <;> (try omega)
    · simp at hc
      (repeat refine awp_seq ?_); refine awp_exit ?_; (first | show AWP _ _ _ _ _ | show ∃ _, _ | skip)
      have hin : i = L.length := by omega
      refine ⟨by simp, ⟨_, rfl⟩, ?_⟩
      have : finI stop (truthsS t n).length = j i := by
        rw [hin, hfull]
        unfold finI; rw [hin, hfull] at hst; rw [if_neg (by omega)]
      rw [this]
      exact wk_endH hfam hσ (fun k hk => by show (if 1000000 ≤ k then _ else _) = _; rw [if_pos hk])

end Go.Proofs.YtbhbmnofmoibhaaGreat

/- A slice of an array that is an object: the array becomes an object of its elements. No condition. -/
namespace Go.Abs
section
variable {P : Program} {x : Ctx} {ρ : Nat → Nat} {σ : Nat → Slot} {w : World}

end
end Go.Abs

/- An object becomes data for good. No condition. -/
namespace Go.Abs
section
variable {x : Ctx}

/-- A slot's object becomes data. -/
theorem wk_frz {env : Nat → C} {σ : Nat → Slot} (t k : Nat) {c : C} {o : Ob} (hk : σ k = .live o) (hp : o.rows.all purel = true) (hc : FzC k o (env t) c) : Wk x ⟨env, σ⟩ ⟨upd env t c, upd σ k .dead⟩ := by
  intro ρ a w hs
  obtain ⟨hK, hF, hmap⟩ := hs.toFrm.freeze hk hp
  have h2 := hs.change hK hF
  refine ⟨ρ, { hF with nt := hs.nt, defers := h2.defers, inr := hs.inr, env := fun q hq => ?_ }⟩
  by_cases e : q = t
  · subst e
    simp only [upd_same]
    exact hmap _ _ _ hc (hs.env q hq)
  · simp only [upd_ne _ _ e]
    exact h2.env q hq

end
end Go.Abs

namespace Go.Proofs.YtbhbmnofmoibhaaGreat
open Go Go.Abs

set_option maxHeartbeats 4000000

/-- The set of all tests. -/
def allS (t : Ti) : Nat := 2 ^ t.ts.length - 1

theorem shl_fact : ∀ m : Fin 7, IntKind.u64.wrap (IntKind.u64.wrap (1 * 2 ^ min m.val IntKind.u64.bits) - 1) = ((2 ^ m.val - 1 : Nat) : Int) := by decide +kernel

theorem allS_lt {t : Ti} (h : t.ts.length ≤ 6) : allS t < 64 := by
  unfold allS
  have : 2 ^ t.ts.length ≤ 2 ^ 6 := Nat.pow_le_pow_right (by decide) h
  have : 0 < 2 ^ t.ts.length := Nat.pow_pos (by decide)
  omega

theorem all49 (t : Ti) (nl fu : Bool) (h : t.ts.length ≤ 6) : Pure Tryz.prog 49 [encFile t nl fu] (.int .u64 (allS t)) := by
  have := shl_fact ⟨t.ts.length, by omega⟩
  simp only at this
  have h0 : (0 : Int) ≤ (t.ts.length : Int) := by omega
  have h1 : ¬ (t.ts.length : Int) < 0 := by omega
  simp at this
  refine pure_of (fn := Tryz.f49) [.tmp 2] ⟨Tryz.func49, rfl, by kernel_rfl⟩ (by kernel_rfl) (by kernel_rfl) (by kernel_rfl) fun x hx hσ => ?_
  (repeat refine awp_seq ?_); refine awp_reg1 (by rw [hx]; kernel_rfl) fun K hK => ?_; simp (maxSteps := 1000000) []; refine hK _ ?_; clear hK K; (first | show AWP _ _ _ _ _ | show ∃ _, _ | skip)
  (repeat refine awp_seq ?_); refine awp_reg1 (by rw [hx]; kernel_rfl) fun K hK => ?_; simp (maxSteps := 1000000) [ty74, ty116, ty28, ty26, ty79, ty3, h0, h1]; refine hK _ ?_; clear hK K; (first | show AWP _ _ _ _ _ | show ∃ _, _ | skip)
  rw [this]
  (repeat refine awp_seq ?_); refine awp_ret ?_; refine And.intro (Or.inr rfl) ?_
  simp [retC, resC, viewC, mapO, allS]

theorem truths73 (t : Ti) (nl fu : Bool) (n : Nat) : Pure Tryz.prog 73 [encFile t nl fu, .int .u64 n] (.fn (.func 97) [] [.ip [encFile t nl fu] 0, .ip [.int .u64 n] 0]) := by
  refine pure_of (fn := Tryz.f73) [.tmp 4] ⟨Tryz.func73, rfl, by kernel_rfl⟩ (by kernel_rfl) (by kernel_rfl) (by kernel_rfl) fun x hx hσ => ?_
  (repeat refine awp_seq ?_); refine awp_reg1 (by rw [hx]; kernel_rfl) fun K hK => ?_; simp (maxSteps := 1000000) [ty74, ty79]; refine hK _ ?_; clear hK K; (first | show AWP _ _ _ _ _ | show ∃ _, _ | skip)
  (repeat refine awp_seq ?_); refine awp_reg1 (by rw [hx]; kernel_rfl) fun K hK => ?_; simp (maxSteps := 1000000) []; refine hK _ ?_; clear hK K; (first | show AWP _ _ _ _ _ | show ∃ _, _ | skip)
  (repeat refine awp_seq ?_); refine awp_ret ?_; refine And.intro (Or.inr rfl) ?_
  simp [retC, resC, viewC, mapO]

/-- What open answers. -/
def openT (t : Ti) (is : Bool) : Int := if checkT t ≠ 0 then checkT t else if is = false then 1 else if truthsS t (allS t) = [] then 3 else 0

theorem openT_ok {t : Ti} {is : Bool} (h : openT t is = 0) : TiOk t ∧ is = true ∧ truthsS t (allS t) ≠ [] := by
  unfold openT at h
  split at h
  · contradiction
  · rename_i h1
    split at h
    · omega
    · split at h
      · omega
      · rename_i h2 h3
        exact ⟨checkT_ok.1 (Classical.byContradiction fun e => h1 e), by simpa using h2, h3⟩

@[simp] abbrev encF (t : Ti) : C := encFile t t.ts.isEmpty false
@[simp] abbrev o1 (c : C) : Ob := ⟨false, false, 1, [[c]]⟩
@[simp] abbrev cFo (t : Ti) (c : C) : List C := [encI t.w.full, encI t.w.read, encI t.w.slip, encI t.w.skew, encI t.w.circle, encI t.w.glow, encI t.w.ghigh, encI t.w.wrong, encI t.gain, sTs t.nl t.fu t.ts, c]
def upA (t : Ti) (i : Nat) : List (List C) := (t.ts.take i).map fun y => [.md false (alR t y)]

@[simp] theorem upA_len {t : Ti} {i : Nat} (h : i ≤ t.ts.length) : (upA t i).length = i := by simp [upA]; omega
theorem upA_step {t : Ti} {i : Nat} (h : i < t.ts.length) : upA t (i + 1) = upA t i ++ [[.md false (alR t t.ts[i])]] := by
  unfold upA; rw [List.take_succ_eq_append_getElem h, List.map_append]; rfl
theorem upA_zero (t : Ti) : upA t 0 = [] := rfl
theorem upA_all (t : Ti) : upA t t.ts.length = t.ts.map fun y => [.md false (alR t y)] := by unfold upA; rw [List.take_length]
@[simp] theorem upA_pure (t : Ti) (i : Nat) : (upA t i).all purel = true := all_purel_map fun _ => rfl
theorem upA_nil (t : Ti) {i : Nat} (h : i ≤ t.ts.length) : (upA t i).isEmpty = (i == 0) := by
  have := upA_len h
  cases h2 : upA t i <;> rw [h2] at this <;> simp at this <;> simp <;> omega

theorem open46 (t : Ti) (is : Bool) (hl : TiLen t) : Pure Tryz.prog 46 [encTi t, .bool is] (.tup [if openT t is = 0 then encF t else .pnil, encI (openT t is)]) := by
  refine pure_of (fn := Tryz.f46) [.cell 4 74, .cell 5 36] ⟨Tryz.func46, rfl, by kernel_rfl⟩ (by kernel_rfl) (by kernel_rfl) (by kernel_rfl) fun x hx hσ => ?_
  (repeat refine awp_seq ?_); refine awp_reg1 (by rw [hx]; kernel_rfl) fun K hK => ?_; simp (maxSteps := 1000000) [ty28, ty74, ty36]; refine hK _ ?_; clear hK K; (first | show AWP _ _ _ _ _ | show ∃ _, _ | skip)
  (repeat refine awp_seq ?_); refine awp_reg1 (by rw [hx]; kernel_rfl) fun K hK => ?_; simp (maxSteps := 1000000) [ty28]
  refine callP (check29 t hl) (by first | (simp; done) | (simp [*]; done)) ?_; simp (maxSteps := 1000000) []
  refine hK _ ?_; clear hK K; (first | show AWP _ _ _ _ _ | show ∃ _, _ | skip)
  (repeat refine awp_seq ?_); refine awp_reg1 (by rw [hx]; kernel_rfl) fun K hK => ?_; simp (maxSteps := 1000000) [ty36]; refine hK _ ?_; clear hK K; (first | show AWP _ _ _ _ _ | show ∃ _, _ | skip)
  by_cases hz : checkT t = 0
  · have hok := checkT_ok.1 hz
    have hlen := hok.len
    (repeat refine awp_seq ?_); refine awp_cond (by simp [hz]; rfl) (by rw [hx]; simp) (fun hd => ?_) (fun hd => ?_)
    · simp at hd
    · clear hd
      refine awp_skip ?_; (first | show AWP _ _ _ _ _ | show ∃ _, _ | skip)
      (repeat refine awp_seq ?_); refine awp_reg1 (by rw [hx]; kernel_rfl) fun K hK => ?_; simp (maxSteps := 1000000) []; refine hK _ ?_; clear hK K; (first | show AWP _ _ _ _ _ | show ∃ _, _ | skip)
      cases is
      · (repeat refine awp_seq ?_); refine awp_cond (by simp; rfl) (by rw [hx]; simp) (fun hd => ?_) (fun hd => ?_)
        · clear hd
          (repeat refine awp_seq ?_); refine awp_reg1 (by rw [hx]; kernel_rfl) fun K hK => ?_; simp (maxSteps := 1000000) [ty74, ty36]; refine hK _ ?_; clear hK K; (first | show AWP _ _ _ _ _ | show ∃ _, _ | skip)
          (repeat refine awp_seq ?_); refine awp_ret ?_; refine And.intro (Or.inr rfl) ?_
          simp [retC, resC, viewC, mapO, ty74, ty36, openT, hz]
        · simp at hd
      · (repeat refine awp_seq ?_); refine awp_cond (by simp; rfl) (by rw [hx]; simp) (fun hd => ?_) (fun hd => ?_)
        · simp at hd
        · clear hd
          refine awp_skip ?_; (first | show AWP _ _ _ _ _ | show ∃ _, _ | skip)
          (repeat refine awp_seq ?_); refine awp_reg1 (by rw [hx]; kernel_rfl) fun K hK => ?_; simp (maxSteps := 1000000) [ty28, ty116, ty74]; refine hK _ ?_; clear hK K; (first | show AWP _ _ _ _ _ | show ∃ _, _ | skip)
          (repeat refine awp_seq ?_); refine awp_reg1 (by rw [hx]; kernel_rfl) fun K hK => ?_; simp (maxSteps := 1000000) [ty28, ty26]; refine hK _ ?_; clear hK K; (first | show AWP _ _ _ _ _ | show ∃ _, _ | skip)
          (repeat refine awp_seq ?_); refine awp_block ?_
          refine AWP.weak ?_ (wk_nilCell 19 0 10 1000 1 (o := ⟨false, false, 11, [cFo t (.sl true true [])]⟩) (row := cFo t (.sl true true [])) (fu := true) (by simp) rfl rfl rfl (by simp) (by decide))
          refine awp_loop (fun i : Nat => ⟨ofL [(2, .ptr 2 10 0 0), (4, .ptr 4 1 0 0), (5, .ptr 5 1 0 0), (7, .ptr 7 1 0 0), (21, sTs t.nl t.fu t.ts), (22, encI t.ts.length), (23, encI i)],
              stoT [(2, 2, .live (obTi t)), (4, 4, .live (o1 .pnil)), (5, 5, .live (o1 (encI 0))), (7, 7, .live (o1 (.ptr 19 11 0 0))), (19, 19, .live ⟨false, false, 11, [cFo t (.own 1000 1 0 i)]⟩), (1000, 1000, .live ⟨i == 0, false, 1, upA t i⟩)]⟩)
            (fun i => i ≤ t.ts.length) (fun i => t.ts.length - i) 0 (by simp) ?_ ?_
          · refine wk_shape (shp0 hσ (by simp) (by simp) ?_) ?_
            · simp [SlotOk, upA_zero] <;> (repeat' (first | (refine RowsOk.same ?_; simp [purel, C.isPure]; done) | (refine rowsCons ?_; simp [mtl, mtc, mT, mH, C.isPure, purel]; done) | (refine rowsCons ?_; simp [mtl, mtc, mT, mH, C.isPure, purel]) | refine And.intro ?_ ?_))
            · simp [mtc, mtl, mT, C.isPure, purel, upA_zero] <;> (try simp (disch := omega) [wrap_id]) <;> (try omega)
          · intro i hi
            (repeat refine awp_seq ?_); refine awp_reg1 (by rw [hx]; kernel_rfl) fun K hK => ?_; simp (maxSteps := 1000000) [ty3]; refine hK _ ?_; clear hK K; (first | show AWP _ _ _ _ _ | show ∃ _, _ | skip)
            (repeat refine awp_seq ?_); refine awp_cond (by simp; rfl) (by rw [hx]; simp) (fun hc1 => ?_) (fun hc1 => ?_)
            · simp at hc1
              refine awp_skip ?_; (first | show AWP _ _ _ _ _ | show ∃ _, _ | skip)
              (repeat refine awp_seq ?_); refine awp_block ?_
              (repeat refine awp_seq ?_); refine awp_reg1 (by rw [hx]; kernel_rfl) fun K hK => ?_; simp (maxSteps := 1000000) [ty26, ty64, hc1]; refine hK _ ?_; clear hK K; (first | show AWP _ _ _ _ _ | show ∃ _, _ | skip)
              have hu := upA_len hi
              have hst := upA_step hc1
              have har := hok.area _ (List.getElem_mem hc1)
              have hln := hl.l _ (List.getElem_mem hc1)
              (repeat refine awp_seq ?_); refine awp_drw3 [1000, 1001, 1004, 1005, 1006, 5009, 11000] [0, 1, 2, 3, 4, 5, 6, 7, 8, 9, 10, 11, 12] (by rw [hx]; kernel_rfl) (by kernel_rfl) (by kernel_rfl) (by kernel_rfl) fun K hK => ?_; simp (maxSteps := 1000000) [ty74, ty116, ty114, ty28, ty64]
              refine callPD (allowed82 t t.ts[i] hok.num har hln) (by first | (simp; done) | (simp [*]; done)) (by simp) ?_; simp (maxSteps := 1000000) [ty114, ty117, ty74, ty116, hu]
              refine ⟨by omega, ?_⟩
              refine hK _ ?_; clear hK K; (first | show AWP _ _ _ _ _ | show ∃ _, _ | skip)
              (repeat refine awp_seq ?_); refine awp_reg1 (by rw [hx]; kernel_rfl) fun K hK => ?_; simp (maxSteps := 1000000) [ty3]; refine hK _ ?_; clear hK K; (first | show AWP _ _ _ _ _ | show ∃ _, _ | skip)
              rw [wrap_id (by omega) (by omega)]
              refine ⟨i + 1, by omega, by omega, ?_⟩
              refine wk_shape2 [(2, 2, .live (obTi t)), (4, 4, .live (o1 .pnil)), (5, 5, .live (o1 (encI 0))), (7, 7, .live (o1 (.ptr 19 11 0 0))), (19, 19, .live ⟨false, false, 11, [cFo t (.own 1000 1 0 (i + 1))]⟩), (1000, 36, .live ⟨i + 1 == 0, false, 1, upA t (i + 1)⟩)] (by first | rfl | (simp only [if_pos, if_true, hst]; rfl)) (shp0 hσ (by simp) (by simp) ?_) ?_
              · simp [SlotOk, hst] <;> (repeat' (first | (refine RowsOk.same ?_; simp [purel, C.isPure]; done) | (refine rowsCons ?_; simp [mtl, mtc, mT, mH, C.isPure, purel]; done) | (refine rowsCons ?_; simp [mtl, mtc, mT, mH, C.isPure, purel]) | refine And.intro ?_ ?_))
              · simp [mtc, mtl, mT, C.isPure, purel, hst] <;> (try simp (disch := omega) [wrap_id]) <;> (try omega)
            · simp at hc1
              (repeat refine awp_seq ?_); refine awp_exit ?_; (first | show AWP _ _ _ _ _ | show ∃ _, _ | skip)
              have hin : i = t.ts.length := by omega
              have hall := upA_all t
              have hnil := upA_nil t (Nat.le_refl _)
              have hup := upA_pure t t.ts.length
              rw [hin]
              have hemp : (t.ts.length == 0) = t.ts.isEmpty := by cases t.ts <;> rfl
              rw [hemp]
              refine AWP.weak ?_ (wk_frzCell 1000 19 0 10 (o := ⟨t.ts.isEmpty, false, 1, upA t t.ts.length⟩) (oq := ⟨false, false, 11, [cFo t (.own 1000 1 0 t.ts.length)]⟩) (row := cFo t (.own 1000 1 0 t.ts.length)) (c := .own 1000 1 0 t.ts.length) (c' := .sl t.ts.isEmpty false (t.ts.map fun y => [.md false (alR t y)])) (by simp) hup (by simp) (by decide) rfl rfl rfl (by
                rw [← hall]; exact fz_own rfl (by simp) (by simp)) rfl)
              refine AWP.weak ?_ (wk_frzCell 19 7 0 0 (o := ⟨false, false, 11, [cFile t t.ts.isEmpty false]⟩) (oq := o1 (.ptr 19 11 0 0)) (row := [.ptr 19 11 0 0]) (c := .ptr 19 11 0 0) (c' := encF t) (by simp) (by simp [purel, C.isPure]) (by simp) (by decide) rfl rfl rfl (fz_ptr rfl rfl rfl) rfl)
              (repeat refine awp_seq ?_); refine awp_drw3 [] [0, 1, 2, 3] (by rw [hx]; kernel_rfl) (by kernel_rfl) (by kernel_rfl) (by kernel_rfl) fun K hK => ?_; simp (maxSteps := 1000000) [ty74]
              refine callPD (all49 t t.ts.isEmpty false hlen) (by first | (simp; done) | (simp [*]; done)) (by simp) ?_; simp (maxSteps := 1000000) [ty79]
              refine callPD (truths73 t t.ts.isEmpty false (allS t)) (by first | (simp; done) | (simp [*]; done)) (by simp) ?_; simp (maxSteps := 1000000) []
              refine hK _ ?_; clear hK K; (first | show AWP _ _ _ _ _ | show ∃ _, _ | skip)
              (repeat refine awp_seq ?_)
              refine awp_block ?_
              refine awp_range0 1000000 [1000004, 1000005, 1000007] (fun i => if i = 0 then [(1000004, 1000004, .live (o1 .pnil)), (1000005, 1000005, .live (o1 (encI 0))), (1000007, 1000007, .live (o1 (encF t)))] else [(1000004, 1000004, .live (o1 (encF t))), (1000005, 1000005, .live (o1 (encI 0))), (1000007, 1000007, .live (o1 (encF t)))]) (itTr (truthsS t (allS t))) 0 .ret
                [(4, .ptr 1000004 1 0 0), (5, .ptr 1000005 1 0 0), (7, .ptr 1000007 1 0 0), (43, .fn (.func 97) [] [.ip [encF t] 0, .ip [.int .u64 (allS t)] 0])] [(4, .ptr 1000004 1 0 0), (5, .ptr 1000005 1 0 0), (7, .ptr 1000007 1 0 0)]
                (first := []) (caps := [.ip [encF t] 0, .ip [.int .u64 (allS t)] 0]) ?_ hσ (by simp) (by rw [hx]; decide) ⟨rfl, by simp [purel, C.isPure]⟩ (it_tr t t.ts.isEmpty false (allS t) hok (allS_lt hlen)) (Nat.zero_le _) (by simp) (by simp) ?_ ?_ ?_ ?_ ?_ ?_ ?_ ?_
              · refine wk_shape2 [(1000004, 4, .live (o1 .pnil)), (1000005, 5, .live (o1 (encI 0))), (1000007, 7, .live (o1 (encF t)))] (by first | rfl | (simp only [if_pos, if_true]; rfl)) (shp0 hσ (by simp) (by simp) ?_) ?_
                · simp [SlotOk] <;> (repeat' (first | (refine RowsOk.same ?_; simp [purel, C.isPure]; done) | (refine rowsCons ?_; simp [mtl, mtc, mT, mH, C.isPure, purel]; done) | (refine rowsCons ?_; simp [mtl, mtc, mT, mH, C.isPure, purel]) | refine And.intro ?_ ?_))
                · simp [mtc, mtl, mT, C.isPure, purel] <;> (try simp (disch := omega) [wrap_id]) <;> (try omega)
              · intro i; split <;> simp
              · intro i; split <;> simp [wil, C.wi]
              · simp [C.wi, wil]
              · simp [C.wi, wil]
              · intro args ha
                obtain ⟨y, hy, rfl⟩ := List.mem_map.1 ha
                simp [purel, C.isPure]
              · intro i args hit hi y y2 hy1 hy2 hyσ hy
                obtain rfl : i = 0 := by omega
                obtain ⟨y, hy', rfl⟩ := itTr_get hit
                have hx := hy2.trans hx
                simp only [if_true, Nat.zero_add, if_neg (show ¬ 1 = 0 by decide)]
                refine awp_skip ?_
                refine ⟨by simp, ?_⟩
                (repeat refine awp_seq ?_); refine awp_block ?_
                (repeat refine awp_seq ?_); refine awp_reg1 (by rw [hx]; kernel_rfl) fun K hK => ?_; simp (maxSteps := 1000000) [ty74, ty36, putPs]; refine hK _ ?_; clear hK K; (first | show AWP _ _ _ _ _ | show ∃ _, _ | skip)
                refine awp_ret ?_
                refine ⟨rfl, ?_⟩
                refine wk_round (E := []) [(1000000, 1000000, .gh), (1000004, 1000004, .live (o1 (encF t))), (1000005, 1000005, .live (o1 (encI 0))), (1000007, 1000007, .live (o1 (encF t)))] (by first | rfl | (simp <;> rfl)) hy (by simp [mT]) (by simp) (by simp) ?_ (by simp)
                · simp [SlotOk] <;> (repeat' (first | (refine RowsOk.same ?_; simp [purel, C.isPure]; done) | (refine rowsCons ?_; simp [mtl, mtc, mT, mH, C.isPure, purel]; done) | (refine rowsCons ?_; simp [mtl, mtc, mT, mH, C.isPure, purel]) | refine And.intro ?_ ?_)) <;> (try simp (disch := omega) [wrap_id]) <;> (try omega)
              · intro he s' hs'
                refine AWP.weak ?_ hs'
                have hT : truthsS t (allS t) = [] := List.eq_nil_of_length_eq_zero (by simpa using he.symm)
                rw [← he, if_pos rfl]
                (repeat refine awp_seq ?_); refine awp_reg1 (by rw [hx]; kernel_rfl) fun K hK => ?_; simp (maxSteps := 1000000) [ty74, ty36]; refine hK _ ?_; clear hK K; (first | show AWP _ _ _ _ _ | show ∃ _, _ | skip)
                (repeat refine awp_seq ?_); refine awp_ret ?_; refine And.intro (Or.inr rfl) ?_
                simp [retC, resC, viewC, mapO, ty74, ty36, openT, hz, hT]
              · intro hlt
                have hT : truthsS t (allS t) ≠ [] := by
                  intro e; rw [e] at hlt; simp at hlt
                rw [if_neg (by omega)]
                refine awp_ret ?_
                refine ⟨.inr rfl, ?_⟩
                simp [retC, resC, viewC, mapO, ty74, ty36, openT, hz, hT]
  · (repeat refine awp_seq ?_); refine awp_cond (by simp [hz]; rfl) (by rw [hx]; simp) (fun hd => ?_) (fun hd => ?_)
    · clear hd
      (repeat refine awp_seq ?_); refine awp_reg1 (by rw [hx]; kernel_rfl) fun K hK => ?_; simp (maxSteps := 1000000) [ty74, ty36]; refine hK _ ?_; clear hK K; (first | show AWP _ _ _ _ _ | show ∃ _, _ | skip)
      (repeat refine awp_seq ?_); refine awp_ret ?_; refine And.intro (Or.inr rfl) ?_
      simp [retC, resC, viewC, mapO, ty74, ty36, openT, hz]
    · simp [hz] at hd

end Go.Proofs.YtbhbmnofmoibhaaGreat

namespace Go.Proofs.YtbhbmnofmoibhaaGreat
open Go Go.Abs

set_option maxHeartbeats 4000000

theorem truthsS_bd {t : Ti} (n : Nat) (hw : TiOk t) : (truthsS t n).length ≤ 410000 := Nat.le_trans (List.length_filter_le _ _) (every_bd hw.num)

def manyT (t : Ti) : Nat := if openT t true = 0 then (truthsS t (allS t)).length else 0

theorem truthsA (t : Ti) (nl fu : Bool) (hw : TiOk t) : ItC Tryz.prog 1000000 97 [] [.ip [encFile t nl fu] 0, .ip [.int .u64 (allS t)] 0] (itTr (truthsS t (allS t))) := it_tr t nl fu (allS t) hw (allS_lt hw.len)

theorem many31 (t : Ti) (hl : TiLen t) : Pure Tryz.prog 31 [encTi t] (.tup [encI (manyT t), encI (openT t true)]) := by
  refine pure_of (fn := Tryz.f31) [.tmp 2, .tmp 3] ⟨Tryz.func31, rfl, by kernel_rfl⟩ (by kernel_rfl) (by kernel_rfl) (by kernel_rfl) fun x hx hσ => ?_
  (repeat refine awp_seq ?_); refine awp_reg1 (by rw [hx]; kernel_rfl) fun K hK => ?_; simp (maxSteps := 1000000) [ty28]; refine hK _ ?_; clear hK K; (first | show AWP _ _ _ _ _ | show ∃ _, _ | skip)
  (repeat refine awp_seq ?_); refine awp_reg1 (by rw [hx]; kernel_rfl) fun K hK => ?_; simp (maxSteps := 1000000) [ty28]
  refine callP (open46 t true hl) (by first | (simp; done) | (simp [*]; done)) ?_; simp (maxSteps := 1000000) [ty74]
  refine hK _ ?_; clear hK K; (first | show AWP _ _ _ _ _ | show ∃ _, _ | skip)
  (repeat refine awp_seq ?_); refine awp_reg1 (by rw [hx]; kernel_rfl) fun K hK => ?_; simp (maxSteps := 1000000) [ty36]; refine hK _ ?_; clear hK K; (first | show AWP _ _ _ _ _ | show ∃ _, _ | skip)
  by_cases hz : openT t true = 0
  · obtain ⟨hok, _, hT⟩ := openT_ok hz
    have hbd := truthsS_bd (allS t) hok
    (repeat refine awp_seq ?_); refine awp_cond (by simp [hz]; rfl) (by rw [hx]; simp) (fun hd => ?_) (fun hd => ?_)
    · simp at hd
    · clear hd
      refine awp_skip ?_; (first | show AWP _ _ _ _ _ | show ∃ _, _ | skip)
      (repeat refine awp_seq ?_); refine awp_reg1 (by rw [hx]; kernel_rfl) fun K hK => ?_; simp (maxSteps := 1000000) [ty3]; refine hK _ ?_; clear hK K; (first | show AWP _ _ _ _ _ | show ∃ _, _ | skip)
      simp only [hz, if_true]
      (repeat refine awp_seq ?_); refine awp_reg1 (by rw [hx]; kernel_rfl) fun K hK => ?_; simp (maxSteps := 1000000) [ty74]
      refine callP (all49 t t.ts.isEmpty false hok.len) (by first | (simp; done) | (simp [*]; done)) ?_; simp (maxSteps := 1000000) [ty79]
      refine callP (truths73 t t.ts.isEmpty false (allS t)) (by first | (simp; done) | (simp [*]; done)) ?_; simp (maxSteps := 1000000) []
      refine hK _ ?_; clear hK K; (first | show AWP _ _ _ _ _ | show ∃ _, _ | skip)
      (repeat refine awp_seq ?_); refine awp_block ?_
      refine awp_range0 1000000 [1000006] (fun i => F1 1000006 i) (itTr (truthsS t (allS t))) (truthsS t (allS t)).length .ret
        [(6, .ptr 1000006 1 0 0), (18, .fn (.func 97) [] [.ip [encF t] 0, .ip [.int .u64 (allS t)] 0])] [(6, .ptr 1000006 1 0 0)]
        (first := []) (caps := [.ip [encF t] 0, .ip [.int .u64 (allS t)] 0]) ?_ hσ (by simp) (by rw [hx]; decide) ⟨rfl, by simp [purel, C.isPure]⟩ (truthsA t _ _ hok) (by simp) (by simp) (by simp) (fun i => by simp) (fun i => by simp [wil, C.wi]) (by simp [C.wi, wil]) (by simp [C.wi, wil]) ?_ ?_ ?_ ?_
      · refine wk_shape2 [(1000006, 6, .live ⟨false, false, 1, [[encI 0]]⟩)] (by first | rfl | (simp only [if_pos, if_true]; rfl)) (shp0 hσ (by simp) (by simp) ?_) ?_
        · simp [SlotOk] <;> (repeat' (first | (refine RowsOk.same ?_; simp [purel, C.isPure]; done) | (refine rowsCons ?_; simp [mtl, mtc, mT, mH, C.isPure, purel]; done) | (refine rowsCons ?_; simp [mtl, mtc, mT, mH, C.isPure, purel]) | refine And.intro ?_ ?_))
        · simp [mtc, mtl, mT, C.isPure, purel] <;> (try simp (disch := omega) [wrap_id]) <;> (try omega)
      · intro args ha
        obtain ⟨y, hy, rfl⟩ := List.mem_map.1 ha
        simp [purel, C.isPure]
      · intro i args hit hi y y2 hy1 hy2 hyσ hy
        obtain ⟨k, ht, rfl⟩ := itTr_get hit
        have hi' := (List.getElem?_eq_some_iff.1 ht).1
        have hx := hy2.trans hx
        refine awp_skip ?_
        refine ⟨by simp, ?_⟩
        (repeat refine awp_seq ?_); refine awp_block ?_
        (repeat refine awp_seq ?_); refine awp_reg1 (by rw [hx]; kernel_rfl) fun K hK => ?_; simp (maxSteps := 1000000) [ty3, putPs]; refine hK _ ?_; clear hK K; (first | show AWP _ _ _ _ _ | show ∃ _, _ | skip)
        rw [wrap_id (by omega) (by omega)]
        refine ⟨by rw [if_neg (by omega)], ?_⟩
        refine wk_round (E := []) [(1000000, 1000000, .gh), (1000006, 1000006, .live ⟨false, false, 1, [[encI (i + 1)]]⟩)] (by first | rfl | (simp <;> rfl)) hy (by simp [mT]) (by simp) (by simp) ?_ (by simp)
        · simp [SlotOk] <;> (repeat' (first | (refine RowsOk.same ?_; simp [purel, C.isPure]; done) | (refine rowsCons ?_; simp [mtl, mtc, mT, mH, C.isPure, purel]; done) | (refine rowsCons ?_; simp [mtl, mtc, mT, mH, C.isPure, purel]) | refine And.intro ?_ ?_)) <;> (try simp (disch := omega) [wrap_id]) <;> (try omega)
      · intro he s' hs'
        refine AWP.weak ?_ hs'
        (repeat refine awp_seq ?_); refine awp_reg1 (by rw [hx]; kernel_rfl) fun K hK => ?_; simp (maxSteps := 1000000) [ty3]; refine hK _ ?_; clear hK K; (first | show AWP _ _ _ _ _ | show ∃ _, _ | skip)
        (repeat refine awp_seq ?_); refine awp_ret ?_; refine And.intro (Or.inr rfl) ?_
        simp [retC, resC, viewC, mapO, manyT, hz]
      · intro hlt
        simp at hlt
  · (repeat refine awp_seq ?_); refine awp_cond (by simp [hz]; rfl) (by rw [hx]; simp) (fun hd => ?_) (fun hd => ?_)
    · clear hd
      (repeat refine awp_seq ?_); refine awp_reg1 (by rw [hx]; kernel_rfl) fun K hK => ?_; simp (maxSteps := 1000000) []; refine hK _ ?_; clear hK K; (first | show AWP _ _ _ _ _ | show ∃ _, _ | skip)
      (repeat refine awp_seq ?_); refine awp_ret ?_; refine And.intro (Or.inr rfl) ?_
      simp [retC, resC, viewC, mapO, manyT, hz]
    · simp [hz] at hd

/-- The numbers that truths have. -/
def numsT (f : Tr → Int) (t : Ti) (is : Bool) : List Int := if openT t is = 0 then kindsL f (truthsS t (allS t)) else []

theorem numsT_zero {f : Tr → Int} {t : Ti} {is : Bool} (h : openT t is ≠ 0) : numsT f t is = [] := if_neg h
theorem numsT_ok {f : Tr → Int} {t : Ti} {is : Bool} (h : openT t is = 0) : numsT f t is = kindsL f (truthsS t (allS t)) ∧ (numsT f t is).isEmpty = false ∧ numsT f t is ≠ [] := by
  have h2 : numsT f t is = kindsL f (truthsS t (allS t)) := if_pos h
  obtain ⟨_, _, hT⟩ := openT_ok h
  have h3 : numsT f t is ≠ [] := by
    rw [h2]
    intro e
    rcases List.exists_mem_of_ne_nil _ hT with ⟨y, hy⟩
    have := (kindsL_mem f (truthsS t (allS t)) (f y)).2 ⟨y, hy, rfl⟩
    rw [e] at this
    simp at this
  exact ⟨h2, by simpa [List.isEmpty_eq_false_iff] using h3, h3⟩

theorem numsT_len (f : Tr → Int) (t : Ti) (is : Bool) : (numsT f t is).length ≤ 410000 := by
  unfold numsT
  split
  · rename_i h
    obtain ⟨hok, _, hT⟩ := openT_ok h
    have := truthsS_bd (allS t) hok
    have h2 := kvOf_len f (truthsS t (allS t))
    rw [kindsL_len]; omega
  · simp

@[simp] abbrev Fk (g : FuncId) (caps : List C) (kv : List (Int × Int)) : List (Nat × Nat × Slot) := [(1000005, 1000005, .live (o1 (.fn (.func g) [] caps))), (1000010, 1000010, .live (o1 (.mp 1000021))), (1000021, 1000021, .live (mapOb kv))]

theorem kinds62 (t : Ti) (is : Bool) (g : FuncId) (caps : List C) (f : Tr → Int) (hl : TiLen t) (hcp : purel caps = true) (hf : openT t is = 0 → ∀ k ∈ allT (gwT t), Pure Tryz.prog g (encTr k :: caps) (encI (f k)))
    (hfb : openT t is = 0 → ∀ k ∈ allT (gwT t), -1000000 ≤ f k ∧ f k ≤ 1000000) :
    Pure Tryz.prog 62 [encTi t, .bool is, .fn (.func g) [] caps] (.tup [slI (numsT f t is), encI (openT t is)]) := by
  refine pure_of (fn := Tryz.f62) [.tmp 6, .tmp 7] ⟨Tryz.func62, rfl, by kernel_rfl⟩ (by kernel_rfl) (by kernel_rfl) (by kernel_rfl) fun x hx hσ => ?_
  (repeat refine awp_seq ?_); refine awp_reg1 (by rw [hx]; kernel_rfl) fun K hK => ?_; simp (maxSteps := 1000000) [ty28, ty89]; refine hK _ ?_; clear hK K; (first | show AWP _ _ _ _ _ | show ∃ _, _ | skip)
  (repeat refine awp_seq ?_); refine awp_reg1 (by rw [hx]; kernel_rfl) fun K hK => ?_; simp (maxSteps := 1000000) [ty28]
  refine callP (open46 t is hl) (by first | (simp; done) | (simp [*]; done)) ?_; simp (maxSteps := 1000000) [ty74]
  refine hK _ ?_; clear hK K; (first | show AWP _ _ _ _ _ | show ∃ _, _ | skip)
  (repeat refine awp_seq ?_); refine awp_reg1 (by rw [hx]; kernel_rfl) fun K hK => ?_; simp (maxSteps := 1000000) [ty36]; refine hK _ ?_; clear hK K; (first | show AWP _ _ _ _ _ | show ∃ _, _ | skip)
  by_cases hz : openT t is = 0
  · obtain ⟨hok, _, hT⟩ := openT_ok hz
    have hbd := truthsS_bd (allS t) hok
    have hne := numsT_ok (f := f) hz
    replace hf := hf hz
    replace hfb := hfb hz
    have hwil : ∀ K, wil K caps = true := fun K => purel_wil K caps hcp
    (repeat refine awp_seq ?_); refine awp_cond (by simp [hz]; rfl) (by rw [hx]; simp) (fun hd => ?_) (fun hd => ?_)
    · simp at hd
    · clear hd
      refine awp_skip ?_; (first | show AWP _ _ _ _ _ | show ∃ _, _ | skip)
      (repeat refine awp_seq ?_); refine awp_reg1 (by rw [hx]; kernel_rfl) fun K hK => ?_; simp (maxSteps := 1000000) [ty122]; refine hK _ ?_; clear hK K; (first | show AWP _ _ _ _ _ | show ∃ _, _ | skip)
      simp only [hz, if_true]
      (repeat refine awp_seq ?_); refine awp_reg1 (by rw [hx]; kernel_rfl) fun K hK => ?_; simp (maxSteps := 1000000) [ty74]
      refine callP (all49 t t.ts.isEmpty false hok.len) (by first | (simp; done) | (simp [*]; done)) ?_; simp (maxSteps := 1000000) [ty79]
      refine callP (truths73 t t.ts.isEmpty false (allS t)) (by first | (simp; done) | (simp [*]; done)) ?_; simp (maxSteps := 1000000) []
      refine hK _ ?_; clear hK K; (first | show AWP _ _ _ _ _ | show ∃ _, _ | skip)
      (repeat refine awp_seq ?_); refine awp_block ?_
      refine awp_range0 1000000 [1000005, 1000010, 1000021] (fun i => Fk g caps (kvOf f ((truthsS t (allS t)).take i))) (itTr (truthsS t (allS t))) (truthsS t (allS t)).length .ret
        [(5, .ptr 1000005 1 0 0), (10, .ptr 1000010 1 0 0), (25, .fn (.func 97) [] [.ip [encF t] 0, .ip [.int .u64 (allS t)] 0])] [(5, .ptr 1000005 1 0 0), (10, .ptr 1000010 1 0 0)]
        (first := []) (caps := [.ip [encF t] 0, .ip [.int .u64 (allS t)] 0]) ?_ hσ (by simp) (by rw [hx]; decide) ⟨rfl, by simp [purel, C.isPure]⟩ (truthsA t _ _ hok) (by simp) (by simp) (by simp) (fun i => by simp) (fun i p hp => by
          simp only [Fk, List.mem_cons, List.not_mem_nil, or_false] at hp
          rcases hp with rfl | rfl | rfl
          · exact ⟨_, rfl, by simp [wil, C.wi, hwil], by simp⟩
          · exact ⟨_, rfl, by simp [wil, C.wi], by simp⟩
          · exact ⟨_, rfl, rowsII_wil _ _, rowsII_cell _⟩) (by simp [C.wi, wil]) (by simp [C.wi, wil]) ?_ ?_ ?_ ?_
      · refine wk_shape2 [(1000005, 5, .live (o1 (.fn (.func g) [] caps))), (1000010, 10, .live (o1 (.mp 1000021))), (1000021, 21, .live (mapOb []))] rfl (shp0 hσ (by simp) (by simp) ?_) ?_
        · simp [SlotOk]
          exact ⟨.same (by simp [purel, C.isPure, hcp]), .cons (by simp [mtl, mtc, mT]) (by simp) .nil⟩
        · simp [mtc, mtl, mT, C.isPure, purel]
      · intro args ha
        obtain ⟨k, ht, rfl⟩ := List.mem_map.1 ha
        simp [purel, C.isPure]
      · intro i args hit hi y y2 hy1 hy2 hyσ hy
        obtain ⟨k, ht, rfl⟩ := itTr_get hit
        have hi' := (List.getElem?_eq_some_iff.1 ht).1
        have hti : (truthsS t (allS t))[i] = k := (List.getElem?_eq_some_iff.1 ht).2
        have hta : k ∈ allT (gwT t) := (List.mem_filter.1 (List.mem_of_getElem? ht)).1
        have hst := kvOf_step f hi'
        rw [hti] at hst
        have hcb := (kvOf_facts f ((truthsS t (allS t)).take i)).2.2
        have hx0 := hx
        have hx := hy1.trans hx0
        (repeat refine awp_seq ?_); refine awp_reg1 (by rw [hx]; kernel_rfl) fun K hK => ?_; simp (maxSteps := 1000000) [ty88, putPs]; refine hK _ ?_; clear hK K; (first | show AWP _ _ _ _ _ | show ∃ _, _ | skip)
        refine ⟨by simp, ?_⟩
        have hx := hy2.trans hx0
        (repeat refine awp_seq ?_); refine awp_block ?_
        generalize hkv : kvOf f ((truthsS t (allS t)).take i) = kv at *
        have hcall := hf k hta
        rcases find_bump (f k) kv 0 with ⟨j, n, h1, h2, h3⟩ | ⟨h1, h2⟩
        · rw [Nat.zero_add] at h1
          have hnb := hcb _ h3
          rw [List.length_take] at hnb
          simp only at hnb
          (repeat refine awp_seq ?_); refine awp_drw3 [] [0, 1, 2, 3, 4, 5, 6] (by rw [hx]; kernel_rfl) (by kernel_rfl) (by kernel_rfl) (by kernel_rfl) fun K hK => ?_; simp (maxSteps := 1000000) [ty122, ty89, ty88, ty3]
          refine callPD hcall (by simp [purel, C.isPure, hcp]) (by simp) ?_
          simp [ty122, ty89, ty88, ty3, h1]
          refine hK _ ?_; clear hK K; (first | show AWP _ _ _ _ _ | show ∃ _, _ | skip)
          have hwr : IntKind.i64.wrap (n + 1) = n + 1 := wrap_id (by omega) (by omega)
          have h2' : (rowsII kv).set j [C.int .i64 (f k), C.int .i64 (n + 1)] = rowsII (bump kv (f k)) := h2
          rw [hwr, h2']
          rw [hst]
          refine ⟨by rw [if_neg (by omega)], ?_⟩
          refine wk_round (E := []) [(1000000, 1000000, .gh), (1000005, 1000005, .live (o1 (.fn (.func g) [] caps))), (1000010, 1000010, .live (o1 (.mp 1000021))), (1000021, 1000021, .live (mapOb (bump kv (f k))))] rfl hy (by simp [mT]) (by simp) (by simp) ?_ (by simp)
          simp [SlotOk]
          exact ⟨.same (by simp [purel, C.isPure, hcp]), .cons (by simp [mtl, mtc, mT]) (by simp) .nil, .same (rowsII_pure _)⟩
        · (repeat refine awp_seq ?_); refine awp_drw3 [] [0, 1, 2, 3, 4, 5, 6] (by rw [hx]; kernel_rfl) (by kernel_rfl) (by kernel_rfl) (by kernel_rfl) fun K hK => ?_; simp (maxSteps := 1000000) [ty122, ty89, ty88, ty3]
          refine callPD hcall (by simp [purel, C.isPure, hcp]) (by simp) ?_
          simp [ty122, ty89, ty88, ty3, h1]
          refine hK _ ?_; clear hK K; (first | show AWP _ _ _ _ _ | show ∃ _, _ | skip)
          have hwr : IntKind.i64.wrap 1 = 1 := by decide
          have h2' : rowsII kv ++ [[C.int .i64 (f k), C.int .i64 1]] = rowsII (bump kv (f k)) := h2
          rw [hwr, h2', hst]
          refine ⟨by rw [if_neg (by omega)], ?_⟩
          refine wk_round (E := []) [(1000000, 1000000, .gh), (1000005, 1000005, .live (o1 (.fn (.func g) [] caps))), (1000010, 1000010, .live (o1 (.mp 1000021))), (1000021, 1000021, .live (mapOb (bump kv (f k))))] rfl hy (by simp [mT]) (by simp) (by simp) ?_ (by simp)
          simp [SlotOk]
          exact ⟨.same (by simp [purel, C.isPure, hcp]), .cons (by simp [mtl, mtc, mT]) (by simp) .nil, .same (rowsII_pure _)⟩
      · intro he s' hs'
        refine AWP.weak ?_ hs'
        have hf3 := kvOf_facts f (truthsS t (allS t))
        have hkb : ∀ p ∈ (kvOf f (truthsS t (allS t))).map (fun p => (p.1, encI p.2)), -1000000000 ≤ p.1 ∧ p.1 ≤ 1000000000 := by
          intro p hp
          obtain ⟨q, hq, rfl⟩ := List.mem_map.1 hp
          obtain ⟨k, hk, e⟩ := (hf3.1 q.1).1 (List.mem_map.2 ⟨q, hq, rfl⟩)
          have := hfb k (List.mem_filter.1 hk).1
          simp only
          omega
        have hlen : (kvOf f (truthsS t (allS t))).length ≤ 10000000 := by
          have := kvOf_len f (truthsS t (allS t))
          omega
        have hkeq : ((kvOf f (truthsS t (allS t))).map (fun p => (p.1, encI p.2))).map (·.1) = (kvOf f (truthsS t (allS t))).map (·.1) := by simp
        have hrl : (itTr (truthsS t (allS t))).length = (truthsS t (allS t)).length := he.symm
        rw [hrl, List.take_length]
        (repeat refine awp_seq ?_); refine awp_reg1 (by rw [hx]; kernel_rfl) fun K hK => ?_; simp (maxSteps := 1000000) [ty122]
        refine doesL (keys78 1000021 34 (o := mapOb (kvOf f (truthsS t (allS t)))) rfl rfl rfl rfl) ?_
        simp
        refine doesL (sorted77 1000021 34 35 (em := false) ((kvOf f (truthsS t (allS t))).map (fun p => (p.1, encI p.2))) ?_ rfl rfl ?_ hkb ?_) ?_
        · rw [← rowsII_KV]; rfl
        · rw [hkeq]; exact hf3.2.1
        · simpa using hlen
        rw [hkeq]
        simp
        refine hK _ ?_; clear hK K; (first | show AWP _ _ _ _ _ | show ∃ _, _ | skip)
        (repeat refine awp_seq ?_); refine awp_ret ?_; refine And.intro (Or.inr rfl) ?_
        have hem := kindsL_empty f (truthsS t (allS t))
        have hln := kindsL_len f (truthsS t (allS t))
        rw [hne.1] at *
        have hk : sortI ((kvOf f (truthsS t (allS t))).map (·.1)) = kindsL f (truthsS t (allS t)) := rfl
        rw [hk]
        rw [hne.2.1] at hem
        refine ⟨_, by simp [retC, resC]; rfl, ?_⟩
        unfold viewC
        rw [if_neg (by simp [C.isPure, purel])]
        simp only [mapO]
        rw [viewC_own (o := ⟨(kvOf f (truthsS t (allS t))).isEmpty, false, 1, (kindsL f (truthsS t (allS t))).map cI⟩) (by simp) rfl (by simp [hln]) (by simp [purel, C.isPure]), viewC_self rfl]
        simp [hz, ← hem, hne.2.1]
      · intro hlt
        simp at hlt
  · have hz0 := numsT_zero (f := f) hz
    (repeat refine awp_seq ?_); refine awp_cond (by simp [hz]; rfl) (by rw [hx]; simp) (fun hd => ?_) (fun hd => ?_)
    · clear hd
      (repeat refine awp_seq ?_); refine awp_reg1 (by rw [hx]; kernel_rfl) fun K hK => ?_; simp (maxSteps := 1000000) []; refine hK _ ?_; clear hK K; (first | show AWP _ _ _ _ _ | show ∃ _, _ | skip)
      (repeat refine awp_seq ?_); refine awp_ret ?_; refine And.intro (Or.inr rfl) ?_
      simp [retC, resC, viewC, mapO, hz0]
    · simp [hz] at hd

end Go.Proofs.YtbhbmnofmoibhaaGreat

namespace Go.Proofs.YtbhbmnofmoibhaaGreat
open Go Go.Abs

set_option maxHeartbeats 4000000

theorem gain63 (k : Tr) : Pure Tryz.prog 63 [encTr k] (encI k.area) := by
  refine pure_of (fn := Tryz.f63) [.tmp 2] ⟨Tryz.func63, rfl, by kernel_rfl⟩ (by kernel_rfl) (by kernel_rfl) (by kernel_rfl) fun x hx hσ => ?_
  (repeat refine awp_seq ?_); refine awp_reg1 (by rw [hx]; kernel_rfl) fun K hK => ?_; simp (maxSteps := 1000000) [ty88]; refine hK _ ?_; clear hK K; (first | show AWP _ _ _ _ _ | show ∃ _, _ | skip)
  (repeat refine awp_seq ?_); refine awp_reg1 (by rw [hx]; kernel_rfl) fun K hK => ?_; simp (maxSteps := 1000000) [ty88, ty3]; refine hK _ ?_; clear hK K; (first | show AWP _ _ _ _ _ | show ∃ _, _ | skip)
  (repeat refine awp_seq ?_); refine awp_ret ?_; refine And.intro (Or.inr rfl) ?_
  simp [retC, resC, viewC, mapO]
theorem skew64 (k : Tr) : Pure Tryz.prog 64 [encTr k] (encI k.skew) := by
  refine pure_of (fn := Tryz.f64) [.tmp 2] ⟨Tryz.func64, rfl, by kernel_rfl⟩ (by kernel_rfl) (by kernel_rfl) (by kernel_rfl) fun x hx hσ => ?_
  (repeat refine awp_seq ?_); refine awp_reg1 (by rw [hx]; kernel_rfl) fun K hK => ?_; simp (maxSteps := 1000000) [ty88]; refine hK _ ?_; clear hK K; (first | show AWP _ _ _ _ _ | show ∃ _, _ | skip)
  (repeat refine awp_seq ?_); refine awp_reg1 (by rw [hx]; kernel_rfl) fun K hK => ?_; simp (maxSteps := 1000000) [ty88, ty3]; refine hK _ ?_; clear hK K; (first | show AWP _ _ _ _ _ | show ∃ _, _ | skip)
  (repeat refine awp_seq ?_); refine awp_ret ?_; refine And.intro (Or.inr rfl) ?_
  simp [retC, resC, viewC, mapO]
theorem err65 (k : Tr) (a : Int) (ha : 0 ≤ a ∧ a ≤ 9000) (hg : -50 ≤ k.area ∧ k.area ≤ 50) (hk : -100 ≤ k.skew ∧ k.skew ≤ 100) : Pure Tryz.prog 65 [encTr k, .ip [encI a] 0] (encI (errI k a)) := by
  refine pure_of (fn := Tryz.f65) [.tmp 3] ⟨Tryz.func65, rfl, by kernel_rfl⟩ (by kernel_rfl) (by kernel_rfl) (by kernel_rfl) fun x hx hσ => ?_
  (repeat refine awp_seq ?_); refine awp_reg1 (by rw [hx]; kernel_rfl) fun K hK => ?_; simp (maxSteps := 1000000) [ty88]; refine hK _ ?_; clear hK K; (first | show AWP _ _ _ _ _ | show ∃ _, _ | skip)
  (repeat refine awp_seq ?_); refine awp_reg1 (by rw [hx]; kernel_rfl) fun K hK => ?_; simp (maxSteps := 1000000) [ty88, ty3]
  refine callP (err66 k a ha hg hk) (by first | (simp; done) | (simp [*]; done)) ?_; simp (maxSteps := 1000000) []
  refine hK _ ?_; clear hK K; (first | show AWP _ _ _ _ _ | show ∃ _, _ | skip)
  (repeat refine awp_seq ?_); refine awp_ret ?_; refine And.intro (Or.inr rfl) ?_
  simp [retC, resC, viewC, mapO]
theorem seen54 (k : Tr) (a : Int) (ha : 0 ≤ a ∧ a ≤ 9000) (hg : -50 ≤ k.area ∧ k.area ≤ 50) : Pure Tryz.prog 54 [encTr k, .ip [encI a] 0] (encI (seenA a k.area)) := by
  refine pure_of (fn := Tryz.f54) [.tmp 3] ⟨Tryz.func54, rfl, by kernel_rfl⟩ (by kernel_rfl) (by kernel_rfl) (by kernel_rfl) fun x hx hσ => ?_
  (repeat refine awp_seq ?_); refine awp_reg1 (by rw [hx]; kernel_rfl) fun K hK => ?_; simp (maxSteps := 1000000) [ty88]; refine hK _ ?_; clear hK K; (first | show AWP _ _ _ _ _ | show ∃ _, _ | skip)
  (repeat refine awp_seq ?_); refine awp_reg1 (by rw [hx]; kernel_rfl) fun K hK => ?_; simp (maxSteps := 1000000) [ty88, ty3]
  refine callP (seen55 a k.area ha hg) (by first | (simp; done) | (simp [*]; done)) ?_; simp (maxSteps := 1000000) []
  refine hK _ ?_; clear hK K; (first | show AWP _ _ _ _ _ | show ∃ _, _ | skip)
  (repeat refine awp_seq ?_); refine awp_ret ?_; refine And.intro (Or.inr rfl) ?_
  simp [retC, resC, viewC, mapO]

theorem every_k {t : Ti} (hw : TiOk t) {k : Tr} (h : k ∈ allT (gwT t)) : (-50 ≤ k.area ∧ k.area ≤ 50) ∧ (-100 ≤ k.skew ∧ k.skew ≤ 100) := by
  have h1 := allT_mem.1 h
  have h2 := hw.gain
  have h3 := hw.num.skew
  have e1 : (gwT t).glow = -t.gain := rfl
  have e2 : (gwT t).ghigh = t.gain := rfl
  have e3 : (gwT t).skew = t.w.skew := rfl
  rw [e1, e2, e3] at h1
  omega

theorem errI_bd {k : Tr} {a : Int} (ha : 0 ≤ a ∧ a ≤ 9000) (hg : -50 ≤ k.area ∧ k.area ≤ 50) (hk : -100 ≤ k.skew ∧ k.skew ≤ 100) : -1000000 ≤ errI k a ∧ errI k a ≤ 1000000 := by
  have := seenA_bd ha hg
  unfold errI absI
  split <;> split <;> omega

theorem areaB_iff {n : Int} : areaB n = true ↔ 0 ≤ n ∧ n ≤ 9000 := by simp [areaB]


theorem gains22 (t : Ti) (hl : TiLen t) : Pure Tryz.prog 22 [encTi t] (.tup [slI (numsT Tr.area t true), encI (openT t true)]) := by
  refine pure_of (fn := Tryz.f22) [.tmp 2, .tmp 3] ⟨Tryz.func22, rfl, by kernel_rfl⟩ (by kernel_rfl) (by kernel_rfl) (by kernel_rfl) fun x hx hσ => ?_
  (repeat refine awp_seq ?_); refine awp_reg1 (by rw [hx]; kernel_rfl) fun K hK => ?_; simp (maxSteps := 1000000) [ty28]; refine hK _ ?_; clear hK K; (first | show AWP _ _ _ _ _ | show ∃ _, _ | skip)
  (repeat refine awp_seq ?_); refine awp_reg1 (by rw [hx]; kernel_rfl) fun K hK => ?_; simp (maxSteps := 1000000) [ty28]
  refine callP (kinds62 t true 63 [] Tr.area hl rfl (fun h k hk => gain63 k) (fun h k hk => by have := every_k (openT_ok h).1 hk; omega)) (by first | (simp; done) | (simp [*]; done)) ?_; simp (maxSteps := 1000000) []
  refine hK _ ?_; clear hK K; (first | show AWP _ _ _ _ _ | show ∃ _, _ | skip)
  (repeat refine awp_seq ?_); refine awp_ret ?_; refine And.intro (Or.inr rfl) ?_
  simp [retC, resC, viewC, mapO]
theorem skews23 (t : Ti) (hl : TiLen t) : Pure Tryz.prog 23 [encTi t] (.tup [slI (numsT Tr.skew t true), encI (openT t true)]) := by
  refine pure_of (fn := Tryz.f23) [.tmp 2, .tmp 3] ⟨Tryz.func23, rfl, by kernel_rfl⟩ (by kernel_rfl) (by kernel_rfl) (by kernel_rfl) fun x hx hσ => ?_
  (repeat refine awp_seq ?_); refine awp_reg1 (by rw [hx]; kernel_rfl) fun K hK => ?_; simp (maxSteps := 1000000) [ty28]; refine hK _ ?_; clear hK K; (first | show AWP _ _ _ _ _ | show ∃ _, _ | skip)
  (repeat refine awp_seq ?_); refine awp_reg1 (by rw [hx]; kernel_rfl) fun K hK => ?_; simp (maxSteps := 1000000) [ty28]
  refine callP (kinds62 t true 64 [] Tr.skew hl rfl (fun h k hk => skew64 k) (fun h k hk => by have := every_k (openT_ok h).1 hk; omega)) (by first | (simp; done) | (simp [*]; done)) ?_; simp (maxSteps := 1000000) []
  refine hK _ ?_; clear hK K; (first | show AWP _ _ _ _ _ | show ∃ _, _ | skip)
  (repeat refine awp_seq ?_); refine awp_ret ?_; refine And.intro (Or.inr rfl) ?_
  simp [retC, resC, viewC, mapO]

def endsT (f : Tr → Int) (t : Ti) (is : Bool) : Int × Int := ((numsT f t is).headD 0, (numsT f t is).getLastD 0)
@[simp] abbrev encSp (p : Int × Int) : C := .agg [encI p.1, encI p.2]

theorem ends52 (t : Ti) (is : Bool) (g : FuncId) (caps : List C) (f : Tr → Int) (hl : TiLen t) (hcp : purel caps = true) (hf : openT t is = 0 → ∀ k ∈ allT (gwT t), Pure Tryz.prog g (encTr k :: caps) (encI (f k)))
    (hfb : openT t is = 0 → ∀ k ∈ allT (gwT t), -1000000 ≤ f k ∧ f k ≤ 1000000) :
    Pure Tryz.prog 52 [encTi t, .bool is, .fn (.func g) [] caps] (.tup [encSp (endsT f t is), encI (openT t is)]) := by
  refine pure_of (fn := Tryz.f52) [.cell 6 23, .tmp 7] ⟨Tryz.func52, rfl, by kernel_rfl⟩ (by kernel_rfl) (by kernel_rfl) (by kernel_rfl) fun x hx hσ => ?_
  (repeat refine awp_seq ?_); refine awp_reg1 (by rw [hx]; kernel_rfl) fun K hK => ?_; simp (maxSteps := 1000000) [ty28, ty23]; refine hK _ ?_; clear hK K; (first | show AWP _ _ _ _ _ | show ∃ _, _ | skip)
  (repeat refine awp_seq ?_); refine awp_reg1 (by rw [hx]; kernel_rfl) fun K hK => ?_; simp (maxSteps := 1000000) [ty28]
  refine callP (kinds62 t is g caps f hl hcp hf hfb) (by simp [purel, C.isPure, hcp]) ?_
  simp [ty41]
  refine hK _ ?_; clear hK K; (first | show AWP _ _ _ _ _ | show ∃ _, _ | skip)
  (repeat refine awp_seq ?_); refine awp_reg1 (by rw [hx]; kernel_rfl) fun K hK => ?_; simp (maxSteps := 1000000) [ty36]; refine hK _ ?_; clear hK K; (first | show AWP _ _ _ _ _ | show ∃ _, _ | skip)
  by_cases hz : openT t is = 0
  · (repeat refine awp_seq ?_); refine awp_cond (by simp [hz]; rfl) (by rw [hx]; simp) (fun hd => ?_) (fun hd => ?_)
    · simp at hd
    · clear hd
      refine awp_skip ?_; (first | show AWP _ _ _ _ _ | show ∃ _, _ | skip)
      obtain ⟨h1, h2, h3⟩ := numsT_ok (f := f) hz
      have hpos : 0 < (numsT f t is).length := List.length_pos_iff.2 h3
      have hlb := numsT_len f t is
      have hb : (endsT f t is).1 = (numsT f t is)[0] ∧ (endsT f t is).2 = (numsT f t is)[(numsT f t is).length - 1] := ends_eq _ hpos
      have hwr : IntKind.i64.wrap ((numsT f t is).length - 1) = ((numsT f t is).length - 1 : Nat) := by
        rw [wrap_id (by omega) (by omega)]; omega
      have hlt : (numsT f t is).length - 1 < (numsT f t is).length := by omega
      (repeat refine awp_seq ?_); refine awp_drw3 [] [0, 1, 2, 3, 4, 5, 6, 7, 8, 9, 10, 11] (by rw [hx]; kernel_rfl) (by kernel_rfl) (by kernel_rfl) (by kernel_rfl) fun K hK => ?_; simp (maxSteps := 1000000) [ty41, ty3, ty23, hpos, hwr, hlt]; refine hK _ ?_; clear hK K; (first | show AWP _ _ _ _ _ | show ∃ _, _ | skip)
      (repeat refine awp_seq ?_); refine awp_ret ?_; refine And.intro (Or.inr rfl) ?_
      simp [retC, resC, viewC, mapO, ty23, hz, hb]
  · have hz0 := numsT_zero (f := f) hz
    (repeat refine awp_seq ?_); refine awp_cond (by simp [hz]; rfl) (by rw [hx]; simp) (fun hd => ?_) (fun hd => ?_)
    · clear hd
      (repeat refine awp_seq ?_); refine awp_reg1 (by rw [hx]; kernel_rfl) fun K hK => ?_; simp (maxSteps := 1000000) [ty23, ty36]; refine hK _ ?_; clear hK K; (first | show AWP _ _ _ _ _ | show ∃ _, _ | skip)
      (repeat refine awp_seq ?_); refine awp_ret ?_; refine And.intro (Or.inr rfl) ?_
      simp [retC, resC, viewC, mapO, hz0, endsT, ty23]
    · simp [hz] at hd

theorem openT_area {t : Ti} {a : Int} (h : openT t (areaB a) = 0) : TiOk t ∧ 0 ≤ a ∧ a ≤ 9000 := ⟨(openT_ok h).1, areaB_iff.1 (openT_ok h).2.1⟩


theorem errs24 (t : Ti) (a : Int) (hl : TiLen t) : Pure Tryz.prog 24 [encTi t, encI a] (.tup [encSp (endsT (fun k => errI k a) t (areaB a)), encI (openT t (areaB a))]) := by
  refine pure_of (fn := Tryz.f24) [.cell 4 23, .tmp 5] ⟨Tryz.func24, rfl, by kernel_rfl⟩ (by kernel_rfl) (by kernel_rfl) (by kernel_rfl) fun x hx hσ => ?_
  (repeat refine awp_seq ?_); refine awp_reg1 (by rw [hx]; kernel_rfl) fun K hK => ?_; simp (maxSteps := 1000000) [ty28, ty3, ty23]; refine hK _ ?_; clear hK K; (first | show AWP _ _ _ _ _ | show ∃ _, _ | skip)
  (repeat refine awp_seq ?_); refine awp_drw3 [] [0, 1, 2, 3, 4, 5, 6, 7, 8] (by rw [hx]; kernel_rfl) (by kernel_rfl) (by kernel_rfl) (by kernel_rfl) fun K hK => ?_; simp (maxSteps := 1000000) [ty28, ty3]
  refine callPD (isArea53 a) (by first | (simp; done) | (simp [*]; done)) (by simp) ?_; simp (maxSteps := 1000000) []
  refine callD (ends52 t (areaB a) 65 [.ip [encI a] 0] (fun k => errI k a) hl (by simp [purel, C.isPure]) (fun h k hk => err65 k a (openT_area h).2 (every_k (openT_area h).1 hk).1 (every_k (openT_area h).1 hk).2) (fun h k hk => errI_bd (openT_area h).2 (every_k (openT_area h).1 hk).1 (every_k (openT_area h).1 hk).2)) (by simp [viewL, mapO, viewC, C.isPure, purel]) (.inr rfl) (by simp) ?_
  simp [ty23]
  refine hK _ ?_; clear hK K; (first | show AWP _ _ _ _ _ | show ∃ _, _ | skip)
  (repeat refine awp_seq ?_); refine awp_ret ?_; refine And.intro (Or.inr rfl) ?_
  simp [retC, resC, viewC, mapO, ty23]
theorem seen13 (t : Ti) (a : Int) (hl : TiLen t) : Pure Tryz.prog 13 [encTi t, encI a] (.tup [encSp (endsT (fun k => seenA a k.area) t (areaB a)), encI (openT t (areaB a))]) := by
  refine pure_of (fn := Tryz.f13) [.cell 4 23, .tmp 5] ⟨Tryz.func13, rfl, by kernel_rfl⟩ (by kernel_rfl) (by kernel_rfl) (by kernel_rfl) fun x hx hσ => ?_
  (repeat refine awp_seq ?_); refine awp_reg1 (by rw [hx]; kernel_rfl) fun K hK => ?_; simp (maxSteps := 1000000) [ty28, ty3, ty23]; refine hK _ ?_; clear hK K; (first | show AWP _ _ _ _ _ | show ∃ _, _ | skip)
  (repeat refine awp_seq ?_); refine awp_drw3 [] [0, 1, 2, 3, 4, 5, 6, 7, 8] (by rw [hx]; kernel_rfl) (by kernel_rfl) (by kernel_rfl) (by kernel_rfl) fun K hK => ?_; simp (maxSteps := 1000000) [ty28, ty3]
  refine callPD (isArea53 a) (by first | (simp; done) | (simp [*]; done)) (by simp) ?_; simp (maxSteps := 1000000) []
  refine callD (ends52 t (areaB a) 54 [.ip [encI a] 0] (fun k => seenA a k.area) hl (by simp [purel, C.isPure]) (fun h k hk => seen54 k a (openT_area h).2 (every_k (openT_area h).1 hk).1) (fun h k hk => by have := seenA_bd (openT_area h).2 (every_k (openT_area h).1 hk).1; omega)) (by simp [viewL, mapO, viewC, C.isPure, purel]) (.inr rfl) (by simp) ?_
  simp [ty23]
  refine hK _ ?_; clear hK K; (first | show AWP _ _ _ _ _ | show ∃ _, _ | skip)
  (repeat refine awp_seq ?_); refine awp_ret ?_; refine And.intro (Or.inr rfl) ?_
  simp [retC, resC, viewC, mapO, ty23]

def countB (n : Int) : Bool := decide (0 ≤ n) && decide (n ≤ 9999)

theorem isCount57 (n : Int) : Pure Tryz.prog 57 [encI n] (.bool (countB n)) := by
  refine pure_of (fn := Tryz.f57) [.tmp 2] ⟨Tryz.func57, rfl, by kernel_rfl⟩ (by kernel_rfl) (by kernel_rfl) (by kernel_rfl) fun x hx hσ => ?_
  (repeat refine awp_seq ?_); refine awp_reg1 (by rw [hx]; kernel_rfl) fun K hK => ?_; simp (maxSteps := 1000000) []; refine hK _ ?_; clear hK K; (first | show AWP _ _ _ _ _ | show ∃ _, _ | skip)
  (repeat refine awp_seq ?_); refine awp_reg1 (by rw [hx]; kernel_rfl) fun K hK => ?_; simp (maxSteps := 1000000) []
  refine callP (within69 n 0 9999) (by first | (simp; done) | (simp [*]; done)) ?_; simp (maxSteps := 1000000) []
  refine hK _ ?_; clear hK K; (first | show AWP _ _ _ _ _ | show ∃ _, _ | skip)
  (repeat refine awp_seq ?_); refine awp_ret ?_; refine And.intro (Or.inr rfl) ?_
  simp [retC, resC, viewC, mapO, countB]

/-- Where the first number is that has a property. -/
def firstP (p : Int → Bool) (l : List Int) : Int := if l.any p then (l.findIdx p : Nat) else -1

theorem firstP_at {p : Int → Bool} {l : List Int} {i : Nat} (hi : i < l.length) (h0 : ∀ j, (h : j < l.length) → j < i → p l[j] = false) (h1 : p l[i] = true) : firstP p l = i := by
  unfold firstP
  rw [if_pos (List.any_eq_true.2 ⟨_, List.getElem_mem hi, h1⟩), List.findIdx_eq hi |>.2 ⟨h1, fun j hj => h0 j (by omega) hj⟩]
theorem firstP_none {p : Int → Bool} {l : List Int} (h : ∀ j, (h : j < l.length) → p l[j] = false) : firstP p l = -1 := by
  unfold firstP
  rw [if_neg]
  intro e
  obtain ⟨x, hx, h1⟩ := List.any_eq_true.1 e
  obtain ⟨j, hj, rfl⟩ := List.getElem_of_mem hx
  rw [h j hj] at h1
  cases h1
theorem firstP_any (p : Int → Bool) (l : List Int) : decide (0 ≤ firstP p l) = l.any p := by
  unfold firstP
  cases l.any p <;> simp

theorem index83 (nl fu : Bool) (l : List Int) (g : FuncId) (caps : List C) (p : Int → Bool) (hcp : purel caps = true) (hn : l.length ≤ 1000000) (hp : ∀ z ∈ l, Pure Tryz.prog g (encI z :: caps) (.bool (p z))) :
    Pure Tryz.prog 83 [.sl nl fu (l.map cI), .fn (.func g) [] caps] (encI (firstP p l)) := by
  refine pure_of (fn := Tryz.f83) [.tmp 4] ⟨Tryz.func83, rfl, by kernel_rfl⟩ (by kernel_rfl) (by kernel_rfl) (by kernel_rfl) fun x hx hσ => ?_
  (repeat refine awp_seq ?_); refine awp_reg1 (by rw [hx]; kernel_rfl) fun K hK => ?_; simp (maxSteps := 1000000) []; refine hK _ ?_; clear hK K; (first | show AWP _ _ _ _ _ | show ∃ _, _ | skip)
  (repeat refine awp_seq ?_); refine awp_reg1 (by rw [hx]; kernel_rfl) fun K hK => ?_; simp (maxSteps := 1000000) [ty41]; refine hK _ ?_; clear hK K; (first | show AWP _ _ _ _ _ | show ∃ _, _ | skip)
  (repeat refine awp_seq ?_); refine awp_block ?_
  refine awp_loop (fun i : Nat => ⟨ofL [(0, .sl nl fu (l.map cI)), (1, .fn (.func g) [] caps), (7, encI l.length), (8, encI i)], stoT []⟩)
    (fun i => i ≤ l.length ∧ ∀ j, (h : j < l.length) → j < i → p l[j] = false) (fun i => l.length - i) 0 (by simp) ?_ ?_
  · refine wk_shape (shp0 hσ (by simp) (by simp) ?_) ?_
    · simp [SlotOk]
    · simp [mtc, mtl, mT, C.isPure, purel, hcp]
      exact mtl_pure _ _ hcp
  · intro i ⟨hi, hj⟩
    (repeat refine awp_seq ?_); refine awp_reg1 (by rw [hx]; kernel_rfl) fun K hK => ?_; simp (maxSteps := 1000000) [ty3]; refine hK _ ?_; clear hK K; (first | show AWP _ _ _ _ _ | show ∃ _, _ | skip)
    (repeat refine awp_seq ?_); refine awp_cond (by simp; rfl) (by rw [hx]; simp) (fun hc => ?_) (fun hc => ?_)
    · simp at hc
      refine awp_skip ?_; (first | show AWP _ _ _ _ _ | show ∃ _, _ | skip)
      (repeat refine awp_seq ?_); refine awp_block ?_
      (repeat refine awp_seq ?_); refine awp_reg1 (by rw [hx]; kernel_rfl) fun K hK => ?_; simp (maxSteps := 1000000) []; refine hK _ ?_; clear hK K; (first | show AWP _ _ _ _ _ | show ∃ _, _ | skip)
      (repeat refine awp_seq ?_); refine awp_reg1 (by rw [hx]; kernel_rfl) fun K hK => ?_; simp (maxSteps := 1000000) [ty41, ty3, hc]
      refine callP (hp _ (List.getElem_mem hc)) (by simp [purel, C.isPure, hcp]) ?_
      simp
      refine hK _ ?_; clear hK K; (first | show AWP _ _ _ _ _ | show ∃ _, _ | skip)
      cases hb : p l[i]
      · (repeat refine awp_seq ?_); refine awp_cond (by simp [hb]; rfl) (by rw [hx]; simp) (fun hd => ?_) (fun hd => ?_)
        · simp at hd
        · clear hd
          refine awp_skip ?_; (first | show AWP _ _ _ _ _ | show ∃ _, _ | skip)
          (repeat refine awp_seq ?_); refine awp_reg1 (by rw [hx]; kernel_rfl) fun K hK => ?_; simp (maxSteps := 1000000) [ty3]; refine hK _ ?_; clear hK K; (first | show AWP _ _ _ _ _ | show ∃ _, _ | skip)
          refine ⟨i + 1, ⟨by omega, fun j h1 h2 => ?_⟩, by omega, ?_⟩
          · by_cases hji : j = i
            · subst hji; assumption
            · exact hj j h1 (by omega)
          · refine wk_shape (shp0 hσ (by simp) (by simp) ?_) ?_
            · simp [SlotOk]
            · simp [mtc, mtl, mT, C.isPure, purel, hcp]
              rw [wrap_id (by omega) (by omega)]
              exact ⟨mtl_pure _ _ hcp, rfl⟩
      · (repeat refine awp_seq ?_); refine awp_cond (by simp [hb]; rfl) (by rw [hx]; simp) (fun hd => ?_) (fun hd => ?_)
        · clear hd
          (repeat refine awp_seq ?_); refine awp_reg1 (by rw [hx]; kernel_rfl) fun K hK => ?_; simp (maxSteps := 1000000) []; refine hK _ ?_; clear hK K; (first | show AWP _ _ _ _ _ | show ∃ _, _ | skip)
          (repeat refine awp_seq ?_); refine awp_ret ?_; refine And.intro (Or.inr rfl) ?_
          rw [firstP_at hc hj hb]
          simp [retC, resC, viewC, mapO]
        · simp at hd
    · simp at hc
      (repeat refine awp_seq ?_); refine awp_exit ?_; (first | show AWP _ _ _ _ _ | show ∃ _, _ | skip)
      (repeat refine awp_seq ?_); refine awp_reg1 (by rw [hx]; kernel_rfl) fun K hK => ?_; simp (maxSteps := 1000000) []; refine hK _ ?_; clear hK K; (first | show AWP _ _ _ _ _ | show ∃ _, _ | skip)
      (repeat refine awp_seq ?_); refine awp_ret ?_; refine And.intro (Or.inr rfl) ?_
      rw [firstP_none fun j h => hj j h (by omega)]
      simp [retC, resC, viewC, mapO]

theorem contains58 (nl fu : Bool) (l : List Int) (g : FuncId) (caps : List C) (p : Int → Bool) (hcp : purel caps = true) (hn : l.length ≤ 1000000) (hp : ∀ z ∈ l, Pure Tryz.prog g (encI z :: caps) (.bool (p z))) :
    Pure Tryz.prog 58 [.sl nl fu (l.map cI), .fn (.func g) [] caps] (.bool (l.any p)) := by
  refine pure_of (fn := Tryz.f58) [.tmp 4] ⟨Tryz.func58, rfl, by kernel_rfl⟩ (by kernel_rfl) (by kernel_rfl) (by kernel_rfl) fun x hx hσ => ?_
  (repeat refine awp_seq ?_); refine awp_reg1 (by rw [hx]; kernel_rfl) fun K hK => ?_; simp (maxSteps := 1000000) []; refine hK _ ?_; clear hK K; (first | show AWP _ _ _ _ _ | show ∃ _, _ | skip)
  (repeat refine awp_seq ?_); refine awp_reg1 (by rw [hx]; kernel_rfl) fun K hK => ?_; simp (maxSteps := 1000000) []
  refine callP (index83 nl fu l g caps p hcp hn hp) (by simp [purel, C.isPure, hcp]) ?_
  simp [ty3]
  refine hK _ ?_; clear hK K; (first | show AWP _ _ _ _ _ | show ∃ _, _ | skip)
  (repeat refine awp_seq ?_); refine awp_ret ?_; refine And.intro (Or.inr rfl) ?_
  simp [retC, resC, viewC, mapO]
  exact firstP_any p l

end Go.Proofs.YtbhbmnofmoibhaaGreat

namespace Go.Proofs.YtbhbmnofmoibhaaGreat
open Go Go.Abs

set_option maxHeartbeats 4000000

/-- A class. -/
structure Cl where
  size : Int
  most : Int

@[simp] abbrev cCl (c : Cl) : List C := [encI c.size, encI c.most]
@[simp] abbrev encCl (c : Cl) : C := .agg (cCl c)
def classB (c : Cl) : Bool := areaB c.size && countB c.most

theorem isClass47 (c : Cl) : Pure Tryz.prog 47 [encCl c] (.bool (classB c)) := by
  refine pure_of (fn := Tryz.f47) [.tmp 2] ⟨Tryz.func47, rfl, by kernel_rfl⟩ (by kernel_rfl) (by kernel_rfl) (by kernel_rfl) fun x hx hσ => ?_
  (repeat refine awp_seq ?_); refine awp_reg1 (by rw [hx]; kernel_rfl) fun K hK => ?_; simp (maxSteps := 1000000) [ty30]; refine hK _ ?_; clear hK K; (first | show AWP _ _ _ _ _ | show ∃ _, _ | skip)
  cases h : areaB c.size
  · (repeat refine awp_seq ?_); refine awp_reg1 (by rw [hx]; kernel_rfl) fun K hK => ?_; simp (maxSteps := 1000000) [ty30, ty3]
    refine callP (isArea53 c.size) (by first | (simp; done) | (simp [*]; done)) ?_; simp (maxSteps := 1000000) [h, ty30, ty3]
    refine hK _ ?_; clear hK K; (first | show AWP _ _ _ _ _ | show ∃ _, _ | skip)
    (repeat refine awp_seq ?_); refine awp_ret ?_; refine And.intro (Or.inr rfl) ?_
    simp [retC, resC, viewC, mapO, classB, h]
  · (repeat refine awp_seq ?_); refine awp_reg1 (by rw [hx]; kernel_rfl) fun K hK => ?_; simp (maxSteps := 1000000) [ty30, ty3]
    refine callP (isArea53 c.size) (by first | (simp; done) | (simp [*]; done)) ?_; simp (maxSteps := 1000000) [h, ty30, ty3]
    refine callP (isCount57 c.most) (by first | (simp; done) | (simp [*]; done)) ?_; simp (maxSteps := 1000000) [ty30, ty3]
    refine hK _ ?_; clear hK K; (first | show AWP _ _ _ _ _ | show ∃ _, _ | skip)
    (repeat refine awp_seq ?_); refine awp_ret ?_; refine And.intro (Or.inr rfl) ?_
    simp [retC, resC, viewC, mapO, classB, h]

/-- Whether it errs beyond a class in a truth. -/
def beyB (c : Cl) (k : Tr) : Bool := decide (c.most < errI k c.size)
/-- What truths say of a class. -/
def certL (L : List Tr) (c : Cl) : Int := if L.countP (beyB c) = 0 then 1 else if L.countP (fun k => !beyB c k) = 0 then 2 else 3

@[simp] abbrev Fc (c : Cl) (a b : Int) : List (Nat × Nat × Slot) := [(1000004, 1000004, .live ⟨false, false, 2, [cCl c]⟩), (1000007, 1000007, .live (o1 (encI a))), (1000008, 1000008, .live (o1 (encI b)))]

theorem certify48 (t : Ti) (nl fu : Bool) (c : Cl) (n : Nat) (hok : TiOk t) (hn : n < 64) (hc : 0 ≤ c.size ∧ c.size ≤ 9000) : Pure Tryz.prog 48 [encFile t nl fu, encCl c, .int .u64 n] (encI (certL (truthsS t n) c)) := by
  have hbd := truthsS_bd n hok
  refine pure_of (fn := Tryz.f48) [.tmp 6] ⟨Tryz.func48, rfl, by kernel_rfl⟩ (by kernel_rfl) (by kernel_rfl) (by kernel_rfl) fun x hx hσ => ?_
  (repeat refine awp_seq ?_); refine awp_reg1 (by rw [hx]; kernel_rfl) fun K hK => ?_; simp (maxSteps := 1000000) [ty30]; refine hK _ ?_; clear hK K; (first | show AWP _ _ _ _ _ | show ∃ _, _ | skip)
  (repeat refine awp_seq ?_); refine awp_reg1 (by rw [hx]; kernel_rfl) fun K hK => ?_; simp (maxSteps := 1000000) [ty3]; refine hK _ ?_; clear hK K; (first | show AWP _ _ _ _ _ | show ∃ _, _ | skip)
  (repeat refine awp_seq ?_); refine awp_reg1 (by rw [hx]; kernel_rfl) fun K hK => ?_; simp (maxSteps := 1000000) [ty74, ty79]
  refine callP (truths73 t nl fu n) (by first | (simp; done) | (simp [*]; done)) ?_; simp (maxSteps := 1000000) []
  refine hK _ ?_; clear hK K; (first | show AWP _ _ _ _ _ | show ∃ _, _ | skip)
  (repeat refine awp_seq ?_); refine awp_block ?_
  obtain ⟨A, hA⟩ : ∃ A : Nat → Nat, ∀ i, A i = ((truthsS t n).take i).countP (fun k => !beyB c k) := ⟨_, fun _ => rfl⟩
  obtain ⟨B, hB⟩ : ∃ B : Nat → Nat, ∀ i, B i = ((truthsS t n).take i).countP (beyB c) := ⟨_, fun _ => rfl⟩
  have hAl : ∀ i, A i ≤ (truthsS t n).length := fun i => by rw [hA]; exact Nat.le_trans List.countP_le_length (by simp; omega)
  have hBl : ∀ i, B i ≤ (truthsS t n).length := fun i => by rw [hB]; exact Nat.le_trans List.countP_le_length (by simp; omega)
  have hA0 : A 0 = 0 := by rw [hA]; rfl
  have hB0 : B 0 = 0 := by rw [hB]; rfl
  refine awp_range0 1000000 [1000004, 1000007, 1000008] (fun i => Fc c (A i) (B i)) (itTr (truthsS t n)) (truthsS t n).length .ret
    [(4, .ptr 1000004 2 0 0), (7, .ptr 1000007 1 0 0), (8, .ptr 1000008 1 0 0), (12, .fn (.func 97) [] [.ip [encFile t nl fu] 0, .ip [.int .u64 n] 0])] [(4, .ptr 1000004 2 0 0), (7, .ptr 1000007 1 0 0), (8, .ptr 1000008 1 0 0)]
    (first := []) (caps := [.ip [encFile t nl fu] 0, .ip [.int .u64 n] 0]) ?_ hσ (by simp) (by rw [hx]; decide) ⟨rfl, by simp [purel, C.isPure]⟩ (it_tr t nl fu n hok hn) (by simp) (by simp) (by simp) (fun i => by simp) (fun i => by simp [wil, C.wi]) (by simp [C.wi, wil]) (by simp [C.wi, wil]) ?_ ?_ ?_ ?_
  · refine wk_shape2 [(1000004, 4, .live ⟨false, false, 2, [cCl c]⟩), (1000007, 7, .live (o1 (encI (A 0)))), (1000008, 8, .live (o1 (encI (B 0))))] (by first | rfl | (simp only [if_pos, if_true, hA0, hB0]; rfl)) (shp0 hσ (by simp) (by simp) ?_) ?_
    · simp [SlotOk, hA0, hB0] <;> (repeat' (first | (refine RowsOk.same ?_; simp [purel, C.isPure]; done) | (refine rowsCons ?_; simp [mtl, mtc, mT, mH, C.isPure, purel]; done) | (refine rowsCons ?_; simp [mtl, mtc, mT, mH, C.isPure, purel]) | refine And.intro ?_ ?_))
    · simp [mtc, mtl, mT, C.isPure, purel, hA0, hB0] <;> (try simp (disch := omega) [wrap_id]) <;> (try omega)
  · intro args ha
    obtain ⟨y, hy, rfl⟩ := List.mem_map.1 ha
    simp [purel, C.isPure]
  · intro i args hit hi y y2 hy1 hy2 hyσ hy
    obtain ⟨k, ht, rfl⟩ := itTr_get hit
    have hi' := (List.getElem?_eq_some_iff.1 ht).1
    have hti : (truthsS t n)[i] = k := (List.getElem?_eq_some_iff.1 ht).2
    have hta : k ∈ allT (gwT t) := (List.mem_filter.1 (List.mem_of_getElem? ht)).1
    have hk := every_k hok hta
    have hsA := count_step (fun k => !beyB c k) hi'
    have hsB := count_step (beyB c) hi'
    rw [← hA, ← hA, hti] at hsA
    rw [← hB, ← hB, hti] at hsB
    have hAi := hAl i
    have hBi := hBl i
    have hx0 := hx
    have hx := hy1.trans hx0
    (repeat refine awp_seq ?_); refine awp_reg1 (by rw [hx]; kernel_rfl) fun K hK => ?_; simp (maxSteps := 1000000) [ty88, putPs]; refine hK _ ?_; clear hK K; (first | show AWP _ _ _ _ _ | show ∃ _, _ | skip)
    refine ⟨by simp, ?_⟩
    have hx := hy2.trans hx0
    (repeat refine awp_seq ?_); refine awp_block ?_
    (repeat refine awp_seq ?_); refine awp_drw3 [] [0, 1, 2, 3, 4, 5, 6] (by rw [hx]; kernel_rfl) (by kernel_rfl) (by kernel_rfl) (by kernel_rfl) fun K hK => ?_; simp (maxSteps := 1000000) [ty88, ty30, ty3]
    refine callPD (err66 k c.size hc hk.1 hk.2) (by first | (simp; done) | (simp [*]; done)) (by simp) ?_; simp (maxSteps := 1000000) [ty30, ty3]
    refine hK _ ?_; clear hK K; (first | show AWP _ _ _ _ _ | show ∃ _, _ | skip)
    cases hb : beyB c k
    · have hb' : ¬ c.most < errI k c.size := by simpa [beyB] using hb
      rw [hb] at hsA hsB
      simp at hsA hsB
      (repeat refine awp_seq ?_); refine awp_cond (by simp [hb']; rfl) (by rw [hx]; simp) (fun hd => ?_) (fun hd => ?_)
      · exact absurd hd (by simp)
      · clear hd
        (repeat refine awp_seq ?_); refine awp_reg1 (by rw [hx]; kernel_rfl) fun K hK => ?_; simp (maxSteps := 1000000) [ty3]; refine hK _ ?_; clear hK K; (first | show AWP _ _ _ _ _ | show ∃ _, _ | skip)
        rw [wrap_id (by omega) (by omega)]
        refine ⟨by rw [if_neg (by omega)], ?_⟩
        rw [hsA, hsB]
        refine wk_round (E := []) [(1000000, 1000000, .gh), (1000004, 1000004, .live ⟨false, false, 2, [cCl c]⟩), (1000007, 1000007, .live (o1 (encI (A i + 1 : Nat)))), (1000008, 1000008, .live (o1 (encI (B i))))] (by first | rfl | (simp <;> rfl)) hy (by simp [mT]) (by simp) (by simp) ?_ (by simp)
        · simp [SlotOk] <;> (repeat' (first | (refine RowsOk.same ?_; simp [purel, C.isPure]; done) | (refine rowsCons ?_; simp [mtl, mtc, mT, mH, C.isPure, purel]; done) | (refine rowsCons ?_; simp [mtl, mtc, mT, mH, C.isPure, purel]) | refine And.intro ?_ ?_)) <;> (try simp (disch := omega) [wrap_id]) <;> (try omega)
    · have hb' : c.most < errI k c.size := by simpa [beyB] using hb
      rw [hb] at hsA hsB
      simp at hsA hsB
      (repeat refine awp_seq ?_); refine awp_cond (by simp [hb']; rfl) (by rw [hx]; simp) (fun hd => ?_) (fun hd => ?_)
      · clear hd
        (repeat refine awp_seq ?_); refine awp_reg1 (by rw [hx]; kernel_rfl) fun K hK => ?_; simp (maxSteps := 1000000) [ty3]; refine hK _ ?_; clear hK K; (first | show AWP _ _ _ _ _ | show ∃ _, _ | skip)
        rw [wrap_id (by omega) (by omega)]
        refine ⟨by rw [if_neg (by omega)], ?_⟩
        rw [hsA, hsB]
        refine wk_round (E := []) [(1000000, 1000000, .gh), (1000004, 1000004, .live ⟨false, false, 2, [cCl c]⟩), (1000007, 1000007, .live (o1 (encI (A i)))), (1000008, 1000008, .live (o1 (encI (B i + 1 : Nat))))] (by first | rfl | (simp <;> rfl)) hy (by simp [mT]) (by simp) (by simp) ?_ (by simp)
        · simp [SlotOk] <;> (repeat' (first | (refine RowsOk.same ?_; simp [purel, C.isPure]; done) | (refine rowsCons ?_; simp [mtl, mtc, mT, mH, C.isPure, purel]; done) | (refine rowsCons ?_; simp [mtl, mtc, mT, mH, C.isPure, purel]) | refine And.intro ?_ ?_)) <;> (try simp (disch := omega) [wrap_id]) <;> (try omega)
      · exact absurd hd (by simp)
  · intro he s' hs'
    refine AWP.weak ?_ hs'
    have hl : (itTr (truthsS t n)).length = (truthsS t n).length := he.symm
    rw [hl]
    have hAe : A (truthsS t n).length = (truthsS t n).countP (fun k => !beyB c k) := by rw [hA, List.take_length]
    have hBe : B (truthsS t n).length = (truthsS t n).countP (beyB c) := by rw [hB, List.take_length]
    generalize A (truthsS t n).length = a at *
    generalize B (truthsS t n).length = b at *
    (repeat refine awp_seq ?_); refine awp_block ?_
    (repeat refine awp_seq ?_); refine awp_reg1 (by rw [hx]; kernel_rfl) fun K hK => ?_; simp (maxSteps := 1000000) [ty3]; refine hK _ ?_; clear hK K; (first | show AWP _ _ _ _ _ | show ∃ _, _ | skip)
    by_cases hb0 : b = 0
    · (repeat refine awp_seq ?_); refine awp_cond (by simp [hb0]; rfl) (by rw [hx]; simp) (fun hd => ?_) (fun hd => ?_)
      · clear hd
        (repeat refine awp_seq ?_); refine awp_reg1 (by rw [hx]; kernel_rfl) fun K hK => ?_; simp (maxSteps := 1000000) []; refine hK _ ?_; clear hK K; (first | show AWP _ _ _ _ _ | show ∃ _, _ | skip)
        (repeat refine awp_seq ?_); refine awp_ret ?_; refine And.intro (Or.inr rfl) ?_
        simp [retC, resC, viewC, mapO, certL, ← hBe, hb0]
      · simp [hb0] at hd
    · have hb0' : ((b : Int) == 0) = false := by rw [beq_eq_false_iff_ne]; omega
      (repeat refine awp_seq ?_); refine awp_cond (by simp [hb0']; rfl) (by rw [hx]; simp) (fun hd => ?_) (fun hd => ?_)
      · simp [hb0] at hd
      · clear hd
        (repeat refine awp_seq ?_); refine awp_reg1 (by rw [hx]; kernel_rfl) fun K hK => ?_; simp (maxSteps := 1000000) [ty3]; refine hK _ ?_; clear hK K; (first | show AWP _ _ _ _ _ | show ∃ _, _ | skip)
        by_cases ha0 : a = 0
        · (repeat refine awp_seq ?_); refine awp_cond (by simp [ha0]; rfl) (by rw [hx]; simp) (fun hd => ?_) (fun hd => ?_)
          · clear hd
            (repeat refine awp_seq ?_); refine awp_reg1 (by rw [hx]; kernel_rfl) fun K hK => ?_; simp (maxSteps := 1000000) []; refine hK _ ?_; clear hK K; (first | show AWP _ _ _ _ _ | show ∃ _, _ | skip)
            (repeat refine awp_seq ?_); refine awp_ret ?_; refine And.intro (Or.inr rfl) ?_
            simp [retC, resC, viewC, mapO, certL, ← hBe, ← hAe, hb0, ha0]
          · simp [ha0] at hd
        · have ha0' : ((a : Int) == 0) = false := by rw [beq_eq_false_iff_ne]; omega
          (repeat refine awp_seq ?_); refine awp_cond (by simp [ha0']; rfl) (by rw [hx]; simp) (fun hd => ?_) (fun hd => ?_)
          · simp [ha0] at hd
          · clear hd
            refine awp_skip ?_; (first | show AWP _ _ _ _ _ | show ∃ _, _ | skip)
            (repeat refine awp_seq ?_); refine awp_reg1 (by rw [hx]; kernel_rfl) fun K hK => ?_; simp (maxSteps := 1000000) []; refine hK _ ?_; clear hK K; (first | show AWP _ _ _ _ _ | show ∃ _, _ | skip)
            (repeat refine awp_seq ?_); refine awp_ret ?_; refine And.intro (Or.inr rfl) ?_
            simp [retC, resC, viewC, mapO, certL, ← hBe, ← hAe, hb0, ha0]
  · intro hlt
    simp at hlt

def certT (t : Ti) (c : Cl) : Int := if openT t (classB c) = 0 then certL (truthsS t (allS t)) c else 0

theorem classB_ok {c : Cl} (h : classB c = true) : (0 ≤ c.size ∧ c.size ≤ 9000) ∧ 0 ≤ c.most ∧ c.most ≤ 9999 := by
  simp only [classB, Bool.and_eq_true] at h
  exact ⟨areaB_iff.1 h.1, by simpa [countB] using h.2⟩

theorem certify11 (t : Ti) (c : Cl) (hl : TiLen t) : Pure Tryz.prog 11 [encTi t, encCl c] (.tup [encI (certT t c), encI (openT t (classB c))]) := by
  refine pure_of (fn := Tryz.f11) [.tmp 4, .tmp 5] ⟨Tryz.func11, rfl, by kernel_rfl⟩ (by kernel_rfl) (by kernel_rfl) (by kernel_rfl) fun x hx hσ => ?_
  (repeat refine awp_seq ?_); refine awp_reg1 (by rw [hx]; kernel_rfl) fun K hK => ?_; simp (maxSteps := 1000000) [ty28, ty30]; refine hK _ ?_; clear hK K; (first | show AWP _ _ _ _ _ | show ∃ _, _ | skip)
  (repeat refine awp_seq ?_); refine awp_drw3 [] [0, 1, 2, 3, 4, 5, 6, 7, 8] (by rw [hx]; kernel_rfl) (by kernel_rfl) (by kernel_rfl) (by kernel_rfl) fun K hK => ?_; simp (maxSteps := 1000000) [ty28, ty30]
  refine callPD (isClass47 c) (by first | (simp; done) | (simp [*]; done)) (by simp) ?_; simp (maxSteps := 1000000) []
  refine callPD (open46 t (classB c) hl) (by first | (simp; done) | (simp [*]; done)) (by simp) ?_; simp (maxSteps := 1000000) [ty74]
  refine hK _ ?_; clear hK K; (first | show AWP _ _ _ _ _ | show ∃ _, _ | skip)
  (repeat refine awp_seq ?_); refine awp_reg1 (by rw [hx]; kernel_rfl) fun K hK => ?_; simp (maxSteps := 1000000) [ty36]; refine hK _ ?_; clear hK K; (first | show AWP _ _ _ _ _ | show ∃ _, _ | skip)
  by_cases hz : openT t (classB c) = 0
  · obtain ⟨hok, hcl, hT⟩ := openT_ok hz
    (repeat refine awp_seq ?_); refine awp_cond (by simp [hz]; rfl) (by rw [hx]; simp) (fun hd => ?_) (fun hd => ?_)
    · simp at hd
    · clear hd
      refine awp_skip ?_; (first | show AWP _ _ _ _ _ | show ∃ _, _ | skip)
      simp only [hz, if_true]
      (repeat refine awp_seq ?_); refine awp_drw3 [] [0, 1, 2, 3, 4, 5, 6] (by rw [hx]; kernel_rfl) (by kernel_rfl) (by kernel_rfl) (by kernel_rfl) fun K hK => ?_; simp (maxSteps := 1000000) [ty74, ty30]
      refine callPD (all49 t t.ts.isEmpty false hok.len) (by first | (simp; done) | (simp [*]; done)) (by simp) ?_; simp (maxSteps := 1000000) [ty79]
      refine callPD (certify48 t t.ts.isEmpty false c (allS t) hok (allS_lt hok.len) (classB_ok hcl).1) (by first | (simp; done) | (simp [*]; done)) (by simp) ?_; simp (maxSteps := 1000000) []
      refine hK _ ?_; clear hK K; (first | show AWP _ _ _ _ _ | show ∃ _, _ | skip)
      (repeat refine awp_seq ?_); refine awp_ret ?_; refine And.intro (Or.inr rfl) ?_
      simp [retC, resC, viewC, mapO, certT, hz]
  · (repeat refine awp_seq ?_); refine awp_cond (by simp [hz]; rfl) (by rw [hx]; simp) (fun hd => ?_) (fun hd => ?_)
    · clear hd
      (repeat refine awp_seq ?_); refine awp_reg1 (by rw [hx]; kernel_rfl) fun K hK => ?_; simp (maxSteps := 1000000) []; refine hK _ ?_; clear hK K; (first | show AWP _ _ _ _ _ | show ∃ _, _ | skip)
      (repeat refine awp_seq ?_); refine awp_ret ?_; refine And.intro (Or.inr rfl) ?_
      simp [retC, resC, viewC, mapO, certT, hz]
    · simp [hz] at hd

end Go.Proofs.YtbhbmnofmoibhaaGreat

namespace Go.Proofs.YtbhbmnofmoibhaaGreat
open Go Go.Abs

set_option maxHeartbeats 4000000

def andU (a b : Int) : Int := IntKind.u64.wrap (BitVec.ofInt IntKind.u64.bits a &&& BitVec.ofInt IntKind.u64.bits b).toNat
def addU (a b : Int) : Int := IntKind.u64.wrap (a + b)
def shrU (a : Int) (b : Nat) : Int := a.fdiv (2 ^ (min b IntKind.u64.bits))
def andI (a b : Int) : Int := IntKind.i64.wrap (BitVec.ofInt IntKind.i64.bits a &&& BitVec.ofInt IntKind.i64.bits b).toNat

theorem ib_and (a b : Int) : intBin .and .u64 a b = some (.int .u64 (andU a b)) := rfl
theorem ib_add (a b : Int) : intBin .add .u64 a b = some (.int .u64 (addU a b)) := rfl
theorem ib_andI (a b : Int) : intBin .and .i64 a b = some (.int .i64 (andI a b)) := rfl
theorem sh_1 (a : Int) : shiftC .shr .u64 a 1 = some (.int .u64 (shrU a 1)) := rfl
theorem sh_2 (a : Int) : shiftC .shr .u64 a 2 = some (.int .u64 (shrU a 2)) := rfl
theorem sh_4 (a : Int) : shiftC .shr .u64 a 4 = some (.int .u64 (shrU a 4)) := rfl
theorem sh_8 (a : Int) : shiftC .shr .u64 a 8 = some (.int .u64 (shrU a 8)) := rfl
theorem sh_16 (a : Int) : shiftC .shr .u64 a 16 = some (.int .u64 (shrU a 16)) := rfl
theorem sh_32 (a : Int) : shiftC .shr .u64 a 32 = some (.int .u64 (shrU a 32)) := rfl

def p1 (x : Int) : Int := addU (andU (shrU x 1) 6148914691236517205) (andU x 6148914691236517205)
def p2 (x : Int) : Int := addU (andU (shrU x 2) 3689348814741910323) (andU x 3689348814741910323)
def p3 (x : Int) : Int := andU (addU (shrU x 4) x) 1085102592571150095
def p4 (x : Int) (n : Nat) : Int := addU x (shrU x n)
def popI (x : Int) : Int := andI (IntKind.i64.wrap (p4 (p4 (p4 (p3 (p2 (p1 x))) 8) 16) 32)) 127

/-- How many bits a number has. -/
def popc (s : Nat) : Nat := (List.range 8).countP fun i => s.testBit i

theorem pop_fact : ∀ s : Fin 256, popI s.val = (popc s.val : Int) := by decide +kernel

theorem ones102 (s : Nat) (hs : s < 256) : Pure Tryz.prog 102 [.int .u64 s] (encI (popc s)) := by
  have e := pop_fact ⟨s, hs⟩
  simp only at e
  refine pure_of (fn := Tryz.f102) [.tmp 2] ⟨Tryz.func102, rfl, by kernel_rfl⟩ (by kernel_rfl) (by kernel_rfl) (by kernel_rfl) fun x hx hσ => ?_
  (repeat refine awp_seq ?_); refine awp_reg1 (by rw [hx]; kernel_rfl) fun K hK => ?_; simp (maxSteps := 1000000) []; refine hK _ ?_; clear hK K; (first | show AWP _ _ _ _ _ | show ∃ _, _ | skip)
  (repeat refine awp_seq ?_); refine awp_reg1 (by rw [hx]; kernel_rfl) fun K hK => ?_; simp (maxSteps := 1000000) [ty139, ib_and, ib_add, sh_1, -intBin, -shiftC]; refine hK _ ?_; clear hK K; (first | show AWP _ _ _ _ _ | show ∃ _, _ | skip)
  (repeat refine awp_seq ?_); refine awp_reg1 (by rw [hx]; kernel_rfl) fun K hK => ?_; simp (maxSteps := 1000000) [ty139, ib_and, ib_add, sh_2, -intBin, -shiftC]; refine hK _ ?_; clear hK K; (first | show AWP _ _ _ _ _ | show ∃ _, _ | skip)
  (repeat refine awp_seq ?_); refine awp_reg1 (by rw [hx]; kernel_rfl) fun K hK => ?_; simp (maxSteps := 1000000) [ty139, ib_and, ib_add, sh_4, -intBin, -shiftC]; refine hK _ ?_; clear hK K; (first | show AWP _ _ _ _ _ | show ∃ _, _ | skip)
  (repeat refine awp_seq ?_); refine awp_reg1 (by rw [hx]; kernel_rfl) fun K hK => ?_; simp (maxSteps := 1000000) [ty139, ib_and, ib_add, sh_8, -intBin, -shiftC]; refine hK _ ?_; clear hK K; (first | show AWP _ _ _ _ _ | show ∃ _, _ | skip)
  (repeat refine awp_seq ?_); refine awp_reg1 (by rw [hx]; kernel_rfl) fun K hK => ?_; simp (maxSteps := 1000000) [ty139, ib_and, ib_add, sh_16, -intBin, -shiftC]; refine hK _ ?_; clear hK K; (first | show AWP _ _ _ _ _ | show ∃ _, _ | skip)
  (repeat refine awp_seq ?_); refine awp_reg1 (by rw [hx]; kernel_rfl) fun K hK => ?_; simp (maxSteps := 1000000) [ty139, ib_and, ib_add, sh_32, -intBin, -shiftC]; refine hK _ ?_; clear hK K; (first | show AWP _ _ _ _ _ | show ∃ _, _ | skip)
  (repeat refine awp_seq ?_); refine awp_reg1 (by rw [hx]; kernel_rfl) fun K hK => ?_; simp (maxSteps := 1000000) [ty139, ty3, ib_andI, -intBin, -shiftC]; refine hK _ ?_; clear hK K; (first | show AWP _ _ _ _ _ | show ∃ _, _ | skip)
  (repeat refine awp_seq ?_); refine awp_ret ?_; refine And.intro (Or.inr rfl) ?_
  simp [retC, resC, viewC, mapO]
  rw [← e]
  rfl

theorem ones76 (s : Nat) (hs : s < 256) : Pure Tryz.prog 76 [.int .u64 s] (encI (popc s)) := by
  refine pure_of (fn := Tryz.f76) [.tmp 2] ⟨Tryz.func76, rfl, by kernel_rfl⟩ (by kernel_rfl) (by kernel_rfl) (by kernel_rfl) fun x hx hσ => ?_
  (repeat refine awp_seq ?_); refine awp_reg1 (by rw [hx]; kernel_rfl) fun K hK => ?_; simp (maxSteps := 1000000) []; refine hK _ ?_; clear hK K; (first | show AWP _ _ _ _ _ | show ∃ _, _ | skip)
  (repeat refine awp_seq ?_); refine awp_cond (by simp; rfl) (by rw [hx]; simp) (fun h => ?_) (fun h => ?_)
  · simp at h
  · refine awp_skip ?_; (first | show AWP _ _ _ _ _ | show ∃ _, _ | skip)
    (repeat refine awp_seq ?_); refine awp_reg1 (by rw [hx]; kernel_rfl) fun K hK => ?_; simp (maxSteps := 1000000) []
    refine callP (ones102 s hs) (by first | (simp; done) | (simp [*]; done)) ?_; simp (maxSteps := 1000000) []
    refine hK _ ?_; clear hK K; (first | show AWP _ _ _ _ _ | show ∃ _, _ | skip)
    (repeat refine awp_seq ?_); refine awp_ret ?_; refine And.intro (Or.inr rfl) ?_
    simp [retC, resC, viewC, mapO]

/-- One more set: the lists with as few tests as can decide. -/
def decStep (cd : Nat → Bool) (acc : List Nat) (s : Nat) : List Nat :=
  match acc with
  | [] => if cd s then [s] else []
  | a :: r => if popc a < popc s then a :: r else if cd s then (if popc s < popc a then [s] else a :: r ++ [s]) else a :: r
def decL (cd : Nat → Bool) : Nat → List Nat
  | 0 => []
  | n + 1 => decStep cd (decL cd n) n

theorem decL_lt {cd : Nat → Bool} : ∀ {n s : Nat}, s ∈ decL cd n → s < n
  | 0, s, h => by simp [decL] at h
  | n + 1, s, h => by
    unfold decL decStep at h
    have ih : ∀ s, s ∈ decL cd n → s < n := fun s => decL_lt
    split at h
    · split at h
      · simp at h; omega
      · simp at h
    · rename_i a r he
      rw [he] at ih
      split at h
      · have := ih s h; omega
      · split at h
        · split at h
          · simp at h; omega
          · rcases List.mem_append.1 h with h | h
            · have := ih s h; omega
            · simp at h; omega
        · have := ih s h; omega

theorem decL_len {cd : Nat → Bool} : ∀ n : Nat, (decL cd n).length ≤ n
  | 0 => by simp [decL]
  | n + 1 => by
    have ih := decL_len (cd := cd) n
    unfold decL decStep
    split
    · split <;> simp
    · rename_i a r he
      rw [he] at ih
      simp at ih
      split
      · simp; omega
      · split
        · split
          · simp
          · simp; omega
        · simp; omega

@[simp] abbrev cU (s : Nat) : List C := [.int .u64 s]
@[simp] abbrev obU (l : List Nat) : Ob := ⟨l.isEmpty, false, 1, l.map cU⟩

/-- Whether some tests decide a class. -/
def cdB (t : Ti) (c : Cl) (s : Nat) : Bool := !(certL (truthsS t s) c == 3)
def decSets (t : Ti) (c : Cl) : List Nat := decL (cdB t c) (2 ^ t.ts.length)

theorem allS_succ (t : Ti) : allS t + 1 = 2 ^ t.ts.length := by
  unfold allS
  have : 0 < 2 ^ t.ts.length := Nat.pow_pos (by decide)
  omega

theorem wrapu_id {z : Int} (h1 : 0 ≤ z) (h2 : z < 18446744073709551616) : IntKind.u64.wrap z = z := by
  rw [IntKind.wrap_u64]; omega

theorem wrapU {n : Int} (h0 : 0 ≤ n) (h1 : n ≤ 1000000) : IntKind.u64.wrap n = n := wrapu_id h0 (by omega)

theorem deciding100 (t : Ti) (nl fu : Bool) (c : Cl) (hok : TiOk t) (hc : 0 ≤ c.size ∧ c.size ≤ 9000) : Fresh Tryz.prog 100 [encFile t nl fu, encCl c] (obU (decSets t c)) := by
  have hN : 2 ^ t.ts.length ≤ 64 := Nat.pow_le_pow_right (n := 2) (by decide) hok.len
  have hall := allS_succ t
  obtain ⟨N, hNe⟩ : ∃ N, N = 2 ^ t.ts.length := ⟨_, rfl⟩
  have hcs : ∀ s, s < N → Pure Tryz.prog 48 [encFile t nl fu, encCl c, .int .u64 s] (encI (certL (truthsS t s) c)) := fun s hs => certify48 t nl fu c s hok (by omega) hc
  have hw1 : IntKind.u64.wrap ((allS t : Int) + 1) = (N : Int) := by rw [wrapU (by omega) (by omega)]; omega
  obtain ⟨cd, hcd⟩ : ∃ cd : Nat → Bool, ∀ s, cd s = !(certL (truthsS t s) c == 3) := ⟨_, fun _ => rfl⟩
  have hds : decSets t c = decL cd N := by
    unfold decSets; rw [← hNe]
    have : cdB t c = cd := by funext s; rw [hcd]; rfl
    rw [this]
  rw [hds]
  refine fresh_of (fn := Tryz.f100) [.tmp 4] ⟨Tryz.func100, rfl, by kernel_rfl⟩ (by kernel_rfl) (by kernel_rfl) (by kernel_rfl) fun x hx hσ => ?_
  (repeat refine awp_seq ?_); refine awp_reg1 (by rw [hx]; kernel_rfl) fun K hK => ?_; simp (maxSteps := 1000000) [ty30, ty102]; refine hK _ ?_; clear hK K; (first | show AWP _ _ _ _ _ | show ∃ _, _ | skip)
  (repeat refine awp_seq ?_); refine awp_reg1 (by rw [hx]; kernel_rfl) fun K hK => ?_; simp (maxSteps := 1000000) [ty74, ty79]
  refine callP (all49 t nl fu hok.len) (by first | (simp; done) | (simp [*]; done)) ?_; simp (maxSteps := 1000000) [ty79]
  rw [hw1]
  refine hK _ ?_; clear hK K; (first | show AWP _ _ _ _ _ | show ∃ _, _ | skip)
  (repeat refine awp_seq ?_); refine awp_block ?_
  refine AWP.weak ?_ (wk_nil 4 4 1 (fu := true) (by simp) (by simp))
  refine awp_loop (fun i : Nat => ⟨ofL [(0, encFile t nl fu), (3, .ptr 3 2 0 0), (4, .own 4 1 0 (decL cd i).length), (9, .int .u64 N), (10, .int .u64 i)], stoT [(3, 3, .live ⟨false, false, 2, [cCl c]⟩), (4, 4, .live (obU (decL cd i)))]⟩)
    (fun i => i ≤ N) (fun i => N - i) 0 (by simp) ?_ ?_
  · simp only [decL]
    refine wk_shape (shp0 hσ (by simp) (by simp) ?_) ?_
    · simp [SlotOk] <;> (repeat' (first | (refine RowsOk.same ?_; simp [purel, C.isPure]; done) | (refine rowsCons ?_; simp [mtl, mtc, mT, mH, C.isPure, purel]; done) | (refine rowsCons ?_; simp [mtl, mtc, mT, mH, C.isPure, purel]) | refine And.intro ?_ ?_))
    · simp [mtc, mtl, mT, C.isPure, purel] <;> (try simp (disch := omega) [wrap_id]) <;> (try omega)
  · intro i hi
    have hnext : decL cd (i + 1) = decStep cd (decL cd i) i := rfl
    have hlen := decL_len (cd := cd) i
    have hlt := fun s => decL_lt (cd := cd) (n := i) (s := s)
    have hcdi := hcd i
    have hwi : IntKind.u64.wrap ((i : Int) + 1) = ((i + 1 : Nat) : Int) := by rw [wrapU (by omega) (by omega)]; rfl
    generalize hacc : decL cd i = acc at *
    (repeat refine awp_seq ?_); refine awp_reg1 (by rw [hx]; kernel_rfl) fun K hK => ?_; simp (maxSteps := 1000000) [ty79]; refine hK _ ?_; clear hK K; (first | show AWP _ _ _ _ _ | show ∃ _, _ | skip)
    (repeat refine awp_seq ?_); refine awp_cond (by simp; rfl) (by rw [hx]; simp) (fun hq => ?_) (fun hq => ?_)
    · simp at hq
      have hci := hcs i hq
      refine awp_skip ?_; (first | show AWP _ _ _ _ _ | show ∃ _, _ | skip)
      (repeat refine awp_seq ?_); refine awp_block ?_
      (repeat refine awp_seq ?_); refine awp_reg1 (by rw [hx]; kernel_rfl) fun K hK => ?_; simp (maxSteps := 1000000) []; refine hK _ ?_; clear hK K; (first | show AWP _ _ _ _ _ | show ∃ _, _ | skip)
      (repeat refine awp_seq ?_); refine awp_reg1 (by rw [hx]; kernel_rfl) fun K hK => ?_; simp (maxSteps := 1000000) []
      refine callP (ones76 i (by omega)) (by first | (simp; done) | (simp [*]; done)) ?_; simp (maxSteps := 1000000) []
      refine hK _ ?_; clear hK K; (first | show AWP _ _ _ _ _ | show ∃ _, _ | skip)
      cases acc with
      | nil =>
        (repeat refine awp_seq ?_); refine awp_reg1 (by rw [hx]; kernel_rfl) fun K hK => ?_; simp (maxSteps := 1000000) [ty102, ty79, ty3, ty30]
        refine callP (hci) (by first | (simp; done) | (simp [*]; done)) ?_; simp (maxSteps := 1000000) [ty3]
        refine hK _ ?_; clear hK K; (first | show AWP _ _ _ _ _ | show ∃ _, _ | skip)
        cases hb : cd i
        · have hb2 : (certL (truthsS t i) c == 3) = true := by rw [hb] at hcdi; cases h : (certL (truthsS t i) c == 3) <;> rw [h] at hcdi <;> simp at hcdi <;> rfl
          have hnx : decL cd (i + 1) = [] := by rw [hnext]; simp [decStep, hb]
          (repeat refine awp_seq ?_); refine awp_cond (by simp [hb2]; rfl) (by rw [hx]; simp) (fun hd => ?_) (fun hd => ?_)
          · clear hd
            (repeat refine awp_seq ?_); refine awp_exit ?_; (first | show AWP _ _ _ _ _ | show ∃ _, _ | skip)
            (repeat refine awp_seq ?_); refine awp_reg1 (by rw [hx]; kernel_rfl) fun K hK => ?_; simp (maxSteps := 1000000) [ty79]; refine hK _ ?_; clear hK K; (first | show AWP _ _ _ _ _ | show ∃ _, _ | skip)
            refine ⟨i + 1, by omega, by omega, ?_⟩
            rw [hnx, hwi]
            refine wk_shape (shp0 hσ (by simp) (by simp) ?_) ?_
            · simp [SlotOk] <;> (repeat' (first | (refine RowsOk.same ?_; simp [purel, C.isPure]; done) | (refine rowsCons ?_; simp [mtl, mtc, mT, mH, C.isPure, purel]; done) | (refine rowsCons ?_; simp [mtl, mtc, mT, mH, C.isPure, purel]) | refine And.intro ?_ ?_))
            · simp [mtc, mtl, mT, C.isPure, purel] <;> (try simp (disch := omega) [wrap_id]) <;> (try omega)
          · simp [hb2] at hd
        · have hb2 : (certL (truthsS t i) c == 3) = false := by rw [hb] at hcdi; cases h : (certL (truthsS t i) c == 3) <;> rw [h] at hcdi <;> simp at hcdi <;> rfl
          have hnx : decL cd (i + 1) = [i] := by rw [hnext]; simp [decStep, hb]
          (repeat refine awp_seq ?_); refine awp_cond (by simp [hb2]; rfl) (by rw [hx]; simp) (fun hd => ?_) (fun hd => ?_)
          · simp [hb2] at hd
          · clear hd
            refine awp_skip ?_; (first | show AWP _ _ _ _ _ | show ∃ _, _ | skip)
            (repeat refine awp_seq ?_); refine awp_reg1 (by rw [hx]; kernel_rfl) fun K hK => ?_; simp (maxSteps := 1000000) [ty102, ty79, ty3]; refine hK _ ?_; clear hK K; (first | show AWP _ _ _ _ _ | show ∃ _, _ | skip)
            (repeat refine awp_seq ?_); refine awp_cond (by simp; rfl) (by rw [hx]; simp) (fun hd => ?_) (fun hd => ?_)
            · simp at hd
            · clear hd
              refine awp_skip ?_; (first | show AWP _ _ _ _ _ | show ∃ _, _ | skip)
              (repeat refine awp_seq ?_); refine awp_reg1 (by rw [hx]; kernel_rfl) fun K hK => ?_; simp (maxSteps := 1000000) [ty102, ty79, ty3]; refine hK _ ?_; clear hK K; (first | show AWP _ _ _ _ _ | show ∃ _, _ | skip)
              (repeat refine awp_seq ?_); refine awp_reg1 (by rw [hx]; kernel_rfl) fun K hK => ?_; simp (maxSteps := 1000000) [ty79]; refine hK _ ?_; clear hK K; (first | show AWP _ _ _ _ _ | show ∃ _, _ | skip)
              refine ⟨i + 1, by omega, by omega, ?_⟩
              rw [hnx, hwi]
              refine wk_shape2 [(3, 3, .live ⟨false, false, 2, [cCl c]⟩), (4, 47, .live (obU [i]))] (by first | rfl | (simp only [if_pos, if_true]; rfl)) (shp0 hσ (by simp) (by simp) ?_) ?_
              · simp [SlotOk] <;> (repeat' (first | (refine RowsOk.same ?_; simp [purel, C.isPure]; done) | (refine rowsCons ?_; simp [mtl, mtc, mT, mH, C.isPure, purel]; done) | (refine rowsCons ?_; simp [mtl, mtc, mT, mH, C.isPure, purel]) | refine And.intro ?_ ?_))
              · simp [mtc, mtl, mT, C.isPure, purel] <;> (try simp (disch := omega) [wrap_id]) <;> (try omega)
      | cons a r =>
        have ha : a < i := hlt a (by simp)
        have hpos : (0 : Int) < (r.length : Int) + 1 := by omega
        have hlr : r.length + 1 ≤ i := by simpa using hlen
        by_cases hp : popc a < popc i
        · have hnx : decL cd (i + 1) = a :: r := by rw [hnext]; simp [decStep, hp]
          (repeat refine awp_seq ?_); refine awp_reg1 (by rw [hx]; kernel_rfl) fun K hK => ?_; simp (maxSteps := 1000000) [ty102, ty79, ty3, ty30, hpos]
          refine callP (ones76 a (by omega)) (by first | (simp; done) | (simp [*]; done)) ?_; simp (maxSteps := 1000000) [ty3, hp]
          refine hK _ ?_; clear hK K; (first | show AWP _ _ _ _ _ | show ∃ _, _ | skip)
          (repeat refine awp_seq ?_); refine awp_cond (by simp [hp]; rfl) (by rw [hx]; simp) (fun hd => ?_) (fun hd => ?_)
          · clear hd
            (repeat refine awp_seq ?_); refine awp_exit ?_; (first | show AWP _ _ _ _ _ | show ∃ _, _ | skip)
            (repeat refine awp_seq ?_); refine awp_reg1 (by rw [hx]; kernel_rfl) fun K hK => ?_; simp (maxSteps := 1000000) [ty79]; refine hK _ ?_; clear hK K; (first | show AWP _ _ _ _ _ | show ∃ _, _ | skip)
            refine ⟨i + 1, by omega, by omega, ?_⟩
            rw [hnx, hwi]
            refine wk_shape (shp0 hσ (by simp) (by simp) ?_) ?_
            · simp [SlotOk] <;> (repeat' (first | (refine RowsOk.same ?_; simp [purel, C.isPure]; done) | (refine rowsCons ?_; simp [mtl, mtc, mT, mH, C.isPure, purel]; done) | (refine rowsCons ?_; simp [mtl, mtc, mT, mH, C.isPure, purel]) | refine And.intro ?_ ?_))
            · simp [mtc, mtl, mT, C.isPure, purel] <;> (try simp (disch := omega) [wrap_id]) <;> (try omega)
          · simp [hp] at hd
        · cases hb : cd i
          · have hb2 : (certL (truthsS t i) c == 3) = true := by rw [hb] at hcdi; cases h : (certL (truthsS t i) c == 3) <;> rw [h] at hcdi <;> simp at hcdi <;> rfl
            have hnx : decL cd (i + 1) = a :: r := by rw [hnext]; simp [decStep, hp, hb]
            (repeat refine awp_seq ?_); refine awp_reg1 (by rw [hx]; kernel_rfl) fun K hK => ?_; simp (maxSteps := 1000000) [ty102, ty79, ty3, ty30, hpos]
            refine callP (ones76 a (by omega)) (by first | (simp; done) | (simp [*]; done)) ?_; simp (maxSteps := 1000000) [ty3, hp, ty30]
            refine callP (hci) (by first | (simp; done) | (simp [*]; done)) ?_; simp (maxSteps := 1000000) [ty3]
            refine hK _ ?_; clear hK K; (first | show AWP _ _ _ _ _ | show ∃ _, _ | skip)
            (repeat refine awp_seq ?_); refine awp_cond (by simp [hb2]; rfl) (by rw [hx]; simp) (fun hd => ?_) (fun hd => ?_)
            · clear hd
              (repeat refine awp_seq ?_); refine awp_exit ?_; (first | show AWP _ _ _ _ _ | show ∃ _, _ | skip)
              (repeat refine awp_seq ?_); refine awp_reg1 (by rw [hx]; kernel_rfl) fun K hK => ?_; simp (maxSteps := 1000000) [ty79]; refine hK _ ?_; clear hK K; (first | show AWP _ _ _ _ _ | show ∃ _, _ | skip)
              refine ⟨i + 1, by omega, by omega, ?_⟩
              rw [hnx, hwi]
              refine wk_shape (shp0 hσ (by simp) (by simp) ?_) ?_
              · simp [SlotOk] <;> (repeat' (first | (refine RowsOk.same ?_; simp [purel, C.isPure]; done) | (refine rowsCons ?_; simp [mtl, mtc, mT, mH, C.isPure, purel]; done) | (refine rowsCons ?_; simp [mtl, mtc, mT, mH, C.isPure, purel]) | refine And.intro ?_ ?_))
              · simp [mtc, mtl, mT, C.isPure, purel] <;> (try simp (disch := omega) [wrap_id]) <;> (try omega)
            · simp [hb2] at hd
          · have hb2 : (certL (truthsS t i) c == 3) = false := by rw [hb] at hcdi; cases h : (certL (truthsS t i) c == 3) <;> rw [h] at hcdi <;> simp at hcdi <;> rfl
            (repeat refine awp_seq ?_); refine awp_reg1 (by rw [hx]; kernel_rfl) fun K hK => ?_; simp (maxSteps := 1000000) [ty102, ty79, ty3, ty30, hpos]
            refine callP (ones76 a (by omega)) (by first | (simp; done) | (simp [*]; done)) ?_; simp (maxSteps := 1000000) [ty3, hp, ty30]
            refine callP (hci) (by first | (simp; done) | (simp [*]; done)) ?_; simp (maxSteps := 1000000) [ty3]
            refine hK _ ?_; clear hK K; (first | show AWP _ _ _ _ _ | show ∃ _, _ | skip)
            (repeat refine awp_seq ?_); refine awp_cond (by simp [hb2]; rfl) (by rw [hx]; simp) (fun hd => ?_) (fun hd => ?_)
            · simp [hb2] at hd
            · clear hd
              refine awp_skip ?_; (first | show AWP _ _ _ _ _ | show ∃ _, _ | skip)
              by_cases hp2 : popc i < popc a
              · have hnx : decL cd (i + 1) = [i] := by rw [hnext]; simp [decStep, hp, hb, hp2]
                (repeat refine awp_seq ?_); refine awp_reg1 (by rw [hx]; kernel_rfl) fun K hK => ?_; simp (maxSteps := 1000000) [ty102, ty79, ty3, hpos]
                refine callP (ones76 a (by omega)) (by first | (simp; done) | (simp [*]; done)) ?_; simp (maxSteps := 1000000) [ty3, hp2]
                refine hK _ ?_; clear hK K; (first | show AWP _ _ _ _ _ | show ∃ _, _ | skip)
                (repeat refine awp_seq ?_); refine awp_cond (by simp [hp2]; rfl) (by rw [hx]; simp) (fun hd => ?_) (fun hd => ?_)
                · clear hd
                  (repeat refine awp_seq ?_); refine awp_reg1 (by rw [hx]; kernel_rfl) fun K hK => ?_; simp (maxSteps := 1000000) []; refine hK _ ?_; clear hK K; (first | show AWP _ _ _ _ _ | show ∃ _, _ | skip)
                  (repeat refine awp_seq ?_); refine awp_reg1 (by rw [hx]; kernel_rfl) fun K hK => ?_; simp (maxSteps := 1000000) [ty102, ty79, ty3]; refine hK _ ?_; clear hK K; (first | show AWP _ _ _ _ _ | show ∃ _, _ | skip)
                  (repeat refine awp_seq ?_); refine awp_reg1 (by rw [hx]; kernel_rfl) fun K hK => ?_; simp (maxSteps := 1000000) [ty79]; refine hK _ ?_; clear hK K; (first | show AWP _ _ _ _ _ | show ∃ _, _ | skip)
                  refine ⟨i + 1, by omega, by omega, ?_⟩
                  rw [hnx, hwi]
                  refine wk_shape2 [(3, 3, .live ⟨false, false, 2, [cCl c]⟩), (4, 47, .live (obU [i]))] (by first | rfl | (simp only [if_pos, if_true]; rfl)) (shp0 hσ (by simp) (by simp) ?_) ?_
                  · simp [SlotOk] <;> (repeat' (first | (refine RowsOk.same ?_; simp [purel, C.isPure]; done) | (refine rowsCons ?_; simp [mtl, mtc, mT, mH, C.isPure, purel]; done) | (refine rowsCons ?_; simp [mtl, mtc, mT, mH, C.isPure, purel]) | refine And.intro ?_ ?_))
                  · simp [mtc, mtl, mT, C.isPure, purel] <;> (try simp (disch := omega) [wrap_id]) <;> (try omega)
                · simp [hp2] at hd
              · have hnx : decL cd (i + 1) = a :: r ++ [i] := by rw [hnext]; simp [decStep, hp, hb, hp2]
                (repeat refine awp_seq ?_); refine awp_reg1 (by rw [hx]; kernel_rfl) fun K hK => ?_; simp (maxSteps := 1000000) [ty102, ty79, ty3, hpos]
                refine callP (ones76 a (by omega)) (by first | (simp; done) | (simp [*]; done)) ?_; simp (maxSteps := 1000000) [ty3, hp2]
                refine hK _ ?_; clear hK K; (first | show AWP _ _ _ _ _ | show ∃ _, _ | skip)
                (repeat refine awp_seq ?_); refine awp_cond (by simp [hp2]; rfl) (by rw [hx]; simp) (fun hd => ?_) (fun hd => ?_)
                · simp [hp2] at hd
                · clear hd
                  refine awp_skip ?_; (first | show AWP _ _ _ _ _ | show ∃ _, _ | skip)
                  (repeat refine awp_seq ?_); refine awp_reg1 (by rw [hx]; kernel_rfl) fun K hK => ?_; simp (maxSteps := 1000000) [ty102, ty79, ty3]
                  refine ⟨by omega, ?_⟩
                  refine hK _ ?_; clear hK K; (first | show AWP _ _ _ _ _ | show ∃ _, _ | skip)
                  (repeat refine awp_seq ?_); refine awp_reg1 (by rw [hx]; kernel_rfl) fun K hK => ?_; simp (maxSteps := 1000000) [ty79]; refine hK _ ?_; clear hK K; (first | show AWP _ _ _ _ _ | show ∃ _, _ | skip)
                  refine ⟨i + 1, by omega, by omega, ?_⟩
                  rw [hnx, hwi]
                  refine wk_shape2 [(3, 3, .live ⟨false, false, 2, [cCl c]⟩), (4, 47, .live (obU (a :: r ++ [i])))] (by first | rfl | (simp only [if_pos, if_true]; rfl)) (shp0 hσ (by simp) (by simp) ?_) ?_
                  · simp [SlotOk] <;> (repeat' (first | (refine RowsOk.same ?_; simp [purel, C.isPure]; done) | (refine rowsCons ?_; simp [mtl, mtc, mT, mH, C.isPure, purel]; done) | (refine rowsCons ?_; simp [mtl, mtc, mT, mH, C.isPure, purel]) | refine And.intro ?_ ?_))
                  · simp [mtc, mtl, mT, C.isPure, purel] <;> (try simp (disch := omega) [wrap_id]) <;> (try omega)
    · simp at hq
      (repeat refine awp_seq ?_); refine awp_exit ?_; (first | show AWP _ _ _ _ _ | show ∃ _, _ | skip)
      have hin : i = N := by omega
      (repeat refine awp_seq ?_); refine awp_reg1 (by rw [hx]; kernel_rfl) fun K hK => ?_; simp (maxSteps := 1000000) []; refine hK _ ?_; clear hK K; (first | show AWP _ _ _ _ _ | show ∃ _, _ | skip)
      (repeat refine awp_seq ?_)
      refine awp_ret ?_
      refine ⟨.inr rfl, .inl ⟨4, ?_, ?_, ?_⟩⟩
      · simp [retC, resC, viewC, mapO, hacc, ← hin]
      · simp [hacc, ← hin]
      · simp [purel, C.isPure]

end Go.Proofs.YtbhbmnofmoibhaaGreat

namespace Go.Proofs.YtbhbmnofmoibhaaGreat
open Go Go.Abs

set_option maxHeartbeats 4000000

@[simp] theorem take_mapLen {α : Type} (f : α → List C) (l : List α) : List.take l.length (l.map f) = l.map f := List.take_of_length_le (by simp)

/-- The tests of a set. -/
def listS (t : Ti) (s : Nat) : List Int := fixTo (fun i => s.testBit i) t.ts.length

theorem list78 (t : Ti) (nl fu : Bool) (s : Nat) (hs : s < 64) (hok : TiOk t) : Fresh Tryz.prog 78 [encFile t nl fu, .int .u64 s] ⟨(listS t s).isEmpty, false, 1, (listS t s).map cI⟩ := by
  have h6 := hok.len
  unfold listS
  obtain ⟨A, hA⟩ : ∃ A : Nat → List Int, ∀ i, A i = fixTo (fun i => s.testBit i) i := ⟨_, fun _ => rfl⟩
  have hA0 : A 0 = [] := hA 0
  have hAl : ∀ i, (A i).length ≤ i := fun i => by rw [hA]; exact fixTo_len _ _
  have hAs : ∀ i, A (i + 1) = if s.testBit i then A i ++ [(i : Int)] else A i := fun i => by rw [hA, hA]; rfl
  rw [← hA]
  refine fresh_of (fn := Tryz.f78) [.tmp 4] ⟨Tryz.func78, rfl, by kernel_rfl⟩ (by kernel_rfl) (by kernel_rfl) (by kernel_rfl) fun x hx hσ => ?_
  (repeat refine awp_seq ?_); refine awp_reg1 (by rw [hx]; kernel_rfl) fun K hK => ?_; simp (maxSteps := 1000000) [ty41]; refine hK _ ?_; clear hK K; (first | show AWP _ _ _ _ _ | show ∃ _, _ | skip)
  (repeat refine awp_seq ?_); refine awp_reg1 (by rw [hx]; kernel_rfl) fun K hK => ?_; simp (maxSteps := 1000000) [ty74, ty116, ty28, ty26]; refine hK _ ?_; clear hK K; (first | show AWP _ _ _ _ _ | show ∃ _, _ | skip)
  (repeat refine awp_seq ?_); refine awp_block ?_
  refine AWP.weak ?_ (wk_nil 4 4 1 (fu := true) (by simp) (by simp))
  refine awp_loop (fun i : Nat => ⟨ofL [(0, encFile t nl fu), (1, .int .u64 s), (4, .own 4 1 0 (A i).length), (11, encI t.ts.length), (12, encI i)], stoT [(4, 4, .live ⟨(A i).isEmpty, false, 1, (A i).map cI⟩)]⟩)
    (fun i => i ≤ t.ts.length) (fun i => t.ts.length - i) 0 (by simp) ?_ ?_
  · rw [hA0]
    refine wk_shape (shp0 hσ (by simp) (by simp) ?_) ?_
    · simp [SlotOk] <;> (repeat' (first | (refine RowsOk.same ?_; simp [purel, C.isPure]; done) | (refine rowsCons ?_; simp [mtl, mtc, mT, mH, C.isPure, purel]; done) | (refine rowsCons ?_; simp [mtl, mtc, mT, mH, C.isPure, purel]) | refine And.intro ?_ ?_))
    · simp [mtc, mtl, mT, C.isPure, purel] <;> (try simp (disch := omega) [wrap_id]) <;> (try omega)
  · intro i hi
    have hl := hAl i
    have hst := hAs i
    have hwi : IntKind.i64.wrap ((i : Int) + 1) = ((i + 1 : Nat) : Int) := by rw [wrap_id (by omega) (by omega)]; rfl
    generalize hacc : A i = acc at *
    (repeat refine awp_seq ?_); refine awp_reg1 (by rw [hx]; kernel_rfl) fun K hK => ?_; simp (maxSteps := 1000000) [ty3]; refine hK _ ?_; clear hK K; (first | show AWP _ _ _ _ _ | show ∃ _, _ | skip)
    (repeat refine awp_seq ?_); refine awp_cond (by simp; rfl) (by rw [hx]; simp) (fun hq => ?_) (fun hq => ?_)
    · simp at hq
      refine awp_skip ?_; (first | show AWP _ _ _ _ _ | show ∃ _, _ | skip)
      (repeat refine awp_seq ?_); refine awp_block ?_
      (repeat refine awp_seq ?_); refine awp_reg1 (by rw [hx]; kernel_rfl) fun K hK => ?_; simp (maxSteps := 1000000) []; refine hK _ ?_; clear hK K; (first | show AWP _ _ _ _ _ | show ∃ _, _ | skip)
      cases hb : s.testBit i
      · rw [hb] at hst
        simp at hst
        (repeat refine awp_seq ?_); refine awp_reg1 (by rw [hx]; kernel_rfl) fun K hK => ?_; simp (maxSteps := 1000000) []
        refine callP (has99 s i hs (by omega)) (by first | (simp; done) | (simp [*]; done)) ?_; simp (maxSteps := 1000000) [hb]
        refine hK _ ?_; clear hK K; (first | show AWP _ _ _ _ _ | show ∃ _, _ | skip)
        (repeat refine awp_seq ?_); refine awp_cond (by simp; rfl) (by rw [hx]; simp) (fun hd => ?_) (fun hd => ?_)
        · simp at hd
        · refine awp_skip ?_; (first | show AWP _ _ _ _ _ | show ∃ _, _ | skip)
          (repeat refine awp_seq ?_); refine awp_reg1 (by rw [hx]; kernel_rfl) fun K hK => ?_; simp (maxSteps := 1000000) [ty3]; refine hK _ ?_; clear hK K; (first | show AWP _ _ _ _ _ | show ∃ _, _ | skip)
          refine ⟨i + 1, by omega, by omega, ?_⟩
          rw [hst, hwi]
          refine wk_shape (shp0 hσ (by simp) (by simp) ?_) ?_
          · simp [SlotOk] <;> (repeat' (first | (refine RowsOk.same ?_; simp [purel, C.isPure]; done) | (refine rowsCons ?_; simp [mtl, mtc, mT, mH, C.isPure, purel]; done) | (refine rowsCons ?_; simp [mtl, mtc, mT, mH, C.isPure, purel]) | refine And.intro ?_ ?_))
          · simp [mtc, mtl, mT, C.isPure, purel] <;> (try simp (disch := omega) [wrap_id]) <;> (try omega)
      · rw [hb] at hst
        simp at hst
        (repeat refine awp_seq ?_); refine awp_reg1 (by rw [hx]; kernel_rfl) fun K hK => ?_; simp (maxSteps := 1000000) []
        refine callP (has99 s i hs (by omega)) (by first | (simp; done) | (simp [*]; done)) ?_; simp (maxSteps := 1000000) [hb]
        refine hK _ ?_; clear hK K; (first | show AWP _ _ _ _ _ | show ∃ _, _ | skip)
        (repeat refine awp_seq ?_); refine awp_cond (by simp; rfl) (by rw [hx]; simp) (fun hd => ?_) (fun hd => ?_)
        · (repeat refine awp_seq ?_); refine awp_reg1 (by rw [hx]; kernel_rfl) fun K hK => ?_; simp (maxSteps := 1000000) [ty41, ty3]
          refine ⟨by omega, ?_⟩
          refine hK _ ?_; clear hK K; (first | show AWP _ _ _ _ _ | show ∃ _, _ | skip)
          (repeat refine awp_seq ?_); refine awp_reg1 (by rw [hx]; kernel_rfl) fun K hK => ?_; simp (maxSteps := 1000000) [ty3]; refine hK _ ?_; clear hK K; (first | show AWP _ _ _ _ _ | show ∃ _, _ | skip)
          refine ⟨i + 1, by omega, by omega, ?_⟩
          rw [hst, hwi]
          refine wk_shape2 [(4, 21, .live ⟨(acc ++ [(i : Int)]).isEmpty, false, 1, (acc ++ [(i : Int)]).map cI⟩)] (by first | rfl | (simp only [if_pos, if_true]; rfl)) (shp0 hσ (by simp) (by simp) ?_) ?_
          · simp [SlotOk] <;> (repeat' (first | (refine RowsOk.same ?_; simp [purel, C.isPure]; done) | (refine rowsCons ?_; simp [mtl, mtc, mT, mH, C.isPure, purel]; done) | (refine rowsCons ?_; simp [mtl, mtc, mT, mH, C.isPure, purel]) | refine And.intro ?_ ?_))
          · simp [mtc, mtl, mT, C.isPure, purel] <;> (try simp (disch := omega) [wrap_id]) <;> (try omega)
        · simp at hd
    · simp at hq
      (repeat refine awp_seq ?_); refine awp_exit ?_; (first | show AWP _ _ _ _ _ | show ∃ _, _ | skip)
      have hin : i = t.ts.length := by omega
      rw [← hin] at *
      (repeat refine awp_seq ?_); refine awp_reg1 (by rw [hx]; kernel_rfl) fun K hK => ?_; simp (maxSteps := 1000000) []; refine hK _ ?_; clear hK K; (first | show AWP _ _ _ _ _ | show ∃ _, _ | skip)
      (repeat refine awp_seq ?_)
      refine awp_ret ?_
      refine ⟨.inr rfl, .inl ⟨4, ?_, ?_, ?_⟩⟩
      · simp [retC, resC, viewC, mapO, hacc]
      · simp [hacc]
      · simp [purel, C.isPure]

/-- The error of a class that is to be decided. -/
def decE (t : Ti) (c : Cl) : Int := if openT t (classB c) ≠ 0 then openT t (classB c) else if decSets t c = [] then 3 else 0
def decSl (t : Ti) (c : Cl) : C := if decE t c = 0 then .sl false false ((decSets t c).map cU) else .sl true true []

theorem decE_ok {t : Ti} {c : Cl} (h : decE t c = 0) : TiOk t ∧ classB c = true ∧ decSets t c ≠ [] := by
  unfold decE at h
  split at h
  · contradiction
  · rename_i h1
    obtain ⟨a, b, _⟩ := openT_ok (Classical.byContradiction fun e => h1 e)
    split at h
    · omega
    · exact ⟨a, b, by assumption⟩

theorem decided75 (t : Ti) (c : Cl) (hl : TiLen t) : Pure Tryz.prog 75 [encTi t, encCl c] (.tup [if decE t c = 0 then encF t else .pnil, decSl t c, encI (decE t c)]) := by
  refine pure_of (fn := Tryz.f75) [.tmp 4, .tmp 5, .tmp 6] ⟨Tryz.func75, rfl, by kernel_rfl⟩ (by kernel_rfl) (by kernel_rfl) (by kernel_rfl) fun x hx hσ => ?_
  (repeat refine awp_seq ?_); refine awp_reg1 (by rw [hx]; kernel_rfl) fun K hK => ?_; simp (maxSteps := 1000000) [ty28, ty30]; refine hK _ ?_; clear hK K; (first | show AWP _ _ _ _ _ | show ∃ _, _ | skip)
  (repeat refine awp_seq ?_); refine awp_drw3 [] [0, 1, 2, 3, 4, 5, 6, 7, 8] (by rw [hx]; kernel_rfl) (by kernel_rfl) (by kernel_rfl) (by kernel_rfl) fun K hK => ?_; simp (maxSteps := 1000000) [ty28, ty30]
  refine callPD (isClass47 c) (by first | (simp; done) | (simp [*]; done)) (by simp) ?_; simp (maxSteps := 1000000) []
  refine callPD (open46 t (classB c) hl) (by first | (simp; done) | (simp [*]; done)) (by simp) ?_; simp (maxSteps := 1000000) [ty74]
  refine hK _ ?_; clear hK K; (first | show AWP _ _ _ _ _ | show ∃ _, _ | skip)
  (repeat refine awp_seq ?_); refine awp_reg1 (by rw [hx]; kernel_rfl) fun K hK => ?_; simp (maxSteps := 1000000) [ty36]; refine hK _ ?_; clear hK K; (first | show AWP _ _ _ _ _ | show ∃ _, _ | skip)
  by_cases hz : openT t (classB c) = 0
  · obtain ⟨hok, hcl, hT⟩ := openT_ok hz
    (repeat refine awp_seq ?_); refine awp_cond (by simp [hz]; rfl) (by rw [hx]; simp) (fun hd => ?_) (fun hd => ?_)
    · simp at hd
    · clear hd
      refine awp_skip ?_; (first | show AWP _ _ _ _ _ | show ∃ _, _ | skip)
      simp only [hz, if_true]
      (repeat refine awp_seq ?_); refine awp_reg1 (by rw [hx]; kernel_rfl) fun K hK => ?_; simp (maxSteps := 1000000) [ty74, ty30]
      refine freshL (deciding100 t t.ts.isEmpty false c hok (classB_ok hcl).1) (by simp [purel, C.isPure]) rfl ?_
      simp
      refine hK _ ?_; clear hK K; (first | show AWP _ _ _ _ _ | show ∃ _, _ | skip)
      by_cases h0 : decSets t c = []
      · have hE : decE t c = 3 := by unfold decE; rw [if_neg (by simpa using hz), if_pos h0]
        (repeat refine awp_seq ?_); refine awp_reg1 (by rw [hx]; kernel_rfl) fun K hK => ?_; simp (maxSteps := 1000000) [ty102, ty3, h0]; refine hK _ ?_; clear hK K; (first | show AWP _ _ _ _ _ | show ∃ _, _ | skip)
        (repeat refine awp_seq ?_); refine awp_cond (by simp; rfl) (by rw [hx]; simp) (fun hd => ?_) (fun hd => ?_)
        · (repeat refine awp_seq ?_); refine awp_reg1 (by rw [hx]; kernel_rfl) fun K hK => ?_; simp (maxSteps := 1000000) []; refine hK _ ?_; clear hK K; (first | show AWP _ _ _ _ _ | show ∃ _, _ | skip)
          (repeat refine awp_seq ?_); refine awp_ret ?_; refine And.intro (Or.inr rfl) ?_
          simp [retC, resC, viewC, mapO, hE, decSl]
        · simp at hd
      · have hE : decE t c = 0 := by unfold decE; rw [if_neg (by simpa using hz), if_neg h0]
        have hlb : (((decSets t c).length : Int) == 0) = false := by
          rw [beq_eq_false_iff_ne]
          intro e; exact h0 (List.eq_nil_of_length_eq_zero (by omega))
        have hem : (decSets t c).isEmpty = false := by simpa [List.isEmpty_eq_false_iff] using h0
        (repeat refine awp_seq ?_); refine awp_reg1 (by rw [hx]; kernel_rfl) fun K hK => ?_; simp (maxSteps := 1000000) [ty102, ty3, hlb]; refine hK _ ?_; clear hK K; (first | show AWP _ _ _ _ _ | show ∃ _, _ | skip)
        (repeat refine awp_seq ?_); refine awp_cond (by simp [hlb]; rfl) (by rw [hx]; simp) (fun hd => ?_) (fun hd => ?_)
        · simp [h0] at hd
        · clear hd
          refine awp_skip ?_; (first | show AWP _ _ _ _ _ | show ∃ _, _ | skip)
          (repeat refine awp_seq ?_); refine awp_reg1 (by rw [hx]; kernel_rfl) fun K hK => ?_; simp (maxSteps := 1000000) [ty74, ty102]; refine hK _ ?_; clear hK K; (first | show AWP _ _ _ _ _ | show ∃ _, _ | skip)
          (repeat refine awp_seq ?_); refine awp_ret ?_; refine And.intro (Or.inr rfl) ?_
          simp [retC, resC, viewC, mapO, hE, decSl, purel, C.isPure, h0]
  · have hE : decE t c = openT t (classB c) := by unfold decE; rw [if_pos hz]
    (repeat refine awp_seq ?_); refine awp_cond (by simp [hz]; rfl) (by rw [hx]; simp) (fun hd => ?_) (fun hd => ?_)
    · clear hd
      (repeat refine awp_seq ?_); refine awp_reg1 (by rw [hx]; kernel_rfl) fun K hK => ?_; simp (maxSteps := 1000000) []; refine hK _ ?_; clear hK K; (first | show AWP _ _ _ _ _ | show ∃ _, _ | skip)
      (repeat refine awp_seq ?_); refine awp_ret ?_; refine And.intro (Or.inr rfl) ?_
      simp [retC, resC, viewC, mapO, hE, hz, decSl]
    · simp [hz] at hd

def fewestT (t : Ti) (c : Cl) : Int := if decE t c = 0 then popc ((decSets t c).headD 0) else 0

theorem decSets_lt {t : Ti} {c : Cl} {s : Nat} (hok : TiOk t) (h : s ∈ decSets t c) : s < 64 := by
  have h1 := decL_lt h
  have h2 : 2 ^ t.ts.length ≤ 64 := Nat.pow_le_pow_right (n := 2) (by decide) hok.len
  omega

theorem decSets_cons {t : Ti} {c : Cl} (h : decSets t c ≠ []) : ∃ a r, decSets t c = a :: r := by
  cases h2 : decSets t c with
  | nil => exact absurd h2 h
  | cons a r => exact ⟨a, r, rfl⟩

theorem fewest38 (t : Ti) (c : Cl) (hl : TiLen t) : Pure Tryz.prog 38 [encTi t, encCl c] (.tup [encI (fewestT t c), encI (decE t c)]) := by
  refine pure_of (fn := Tryz.f38) [.tmp 4, .tmp 5] ⟨Tryz.func38, rfl, by kernel_rfl⟩ (by kernel_rfl) (by kernel_rfl) (by kernel_rfl) fun x hx hσ => ?_
  (repeat refine awp_seq ?_); refine awp_reg1 (by rw [hx]; kernel_rfl) fun K hK => ?_; simp (maxSteps := 1000000) [ty28, ty30]; refine hK _ ?_; clear hK K; (first | show AWP _ _ _ _ _ | show ∃ _, _ | skip)
  (repeat refine awp_seq ?_); refine awp_reg1 (by rw [hx]; kernel_rfl) fun K hK => ?_; simp (maxSteps := 1000000) [ty28, ty30]
  refine callP (decided75 t c hl) (by simp [purel, C.isPure]) ?_
  simp [ty102, ty74]
  refine hK _ ?_; clear hK K; (first | show AWP _ _ _ _ _ | show ∃ _, _ | skip)
  (repeat refine awp_seq ?_); refine awp_reg1 (by rw [hx]; kernel_rfl) fun K hK => ?_; simp (maxSteps := 1000000) [ty36]; refine hK _ ?_; clear hK K; (first | show AWP _ _ _ _ _ | show ∃ _, _ | skip)
  by_cases hz : decE t c = 0
  · obtain ⟨hok, hcl, h0⟩ := decE_ok hz
    obtain ⟨a, r, har⟩ := decSets_cons h0
    have ha := decSets_lt (c := c) hok (s := a) (by rw [har]; simp)
    have hsl : decSl t c = .sl false false ((decSets t c).map cU) := if_pos hz
    (repeat refine awp_seq ?_); refine awp_cond (by simp [hz]; rfl) (by rw [hx]; simp) (fun hd => ?_) (fun hd => ?_)
    · simp at hd
    · clear hd
      refine awp_skip ?_; (first | show AWP _ _ _ _ _ | show ∃ _, _ | skip)
      simp only [hsl, har]
      (repeat refine awp_seq ?_); refine awp_reg1 (by rw [hx]; kernel_rfl) fun K hK => ?_; simp (maxSteps := 1000000) [ty102, ty79]
      refine callP (ones76 a (by omega)) (by first | (simp; done) | (simp [*]; done)) ?_; simp (maxSteps := 1000000) []
      refine hK _ ?_; clear hK K; (first | show AWP _ _ _ _ _ | show ∃ _, _ | skip)
      (repeat refine awp_seq ?_); refine awp_ret ?_; refine And.intro (Or.inr rfl) ?_
      simp [retC, resC, viewC, mapO, fewestT, hz, har]
  · (repeat refine awp_seq ?_); refine awp_cond (by simp [hz]; rfl) (by rw [hx]; simp) (fun hd => ?_) (fun hd => ?_)
    · clear hd
      (repeat refine awp_seq ?_); refine awp_reg1 (by rw [hx]; kernel_rfl) fun K hK => ?_; simp (maxSteps := 1000000) []; refine hK _ ?_; clear hK K; (first | show AWP _ _ _ _ _ | show ∃ _, _ | skip)
      (repeat refine awp_seq ?_); refine awp_ret ?_; refine And.intro (Or.inr rfl) ?_
      simp [retC, resC, viewC, mapO, hz, fewestT]
    · simp [hz] at hd


def decideT (t : Ti) (c : Cl) : List Int := if decE t c = 0 then listS t ((decSets t c).headD 0) else []

theorem decide42 (t : Ti) (c : Cl) (hl : TiLen t) : Pure Tryz.prog 42 [encTi t, encCl c] (.tup [.sl (decideT t c).isEmpty (decE t c != 0) ((decideT t c).map cI), encI (decE t c)]) := by
  refine pure_of (fn := Tryz.f42) [.tmp 4, .tmp 5] ⟨Tryz.func42, rfl, by kernel_rfl⟩ (by kernel_rfl) (by kernel_rfl) (by kernel_rfl) fun x hx hσ => ?_
  (repeat refine awp_seq ?_); refine awp_reg1 (by rw [hx]; kernel_rfl) fun K hK => ?_; simp (maxSteps := 1000000) [ty28, ty30]; refine hK _ ?_; clear hK K; (first | show AWP _ _ _ _ _ | show ∃ _, _ | skip)
  (repeat refine awp_seq ?_); refine awp_reg1 (by rw [hx]; kernel_rfl) fun K hK => ?_; simp (maxSteps := 1000000) [ty28, ty30]
  refine callP (decided75 t c hl) (by simp [purel, C.isPure]) ?_
  simp [ty102, ty74]
  refine hK _ ?_; clear hK K; (first | show AWP _ _ _ _ _ | show ∃ _, _ | skip)
  (repeat refine awp_seq ?_); refine awp_reg1 (by rw [hx]; kernel_rfl) fun K hK => ?_; simp (maxSteps := 1000000) [ty36]; refine hK _ ?_; clear hK K; (first | show AWP _ _ _ _ _ | show ∃ _, _ | skip)
  by_cases hz : decE t c = 0
  · obtain ⟨hok, hcl, h0⟩ := decE_ok hz
    obtain ⟨a, r, har⟩ := decSets_cons h0
    have ha := decSets_lt (c := c) hok (s := a) (by rw [har]; simp)
    have hsl : decSl t c = .sl false false ((decSets t c).map cU) := if_pos hz
    have hdt : decideT t c = listS t a := by unfold decideT; rw [if_pos hz, har]; rfl
    (repeat refine awp_seq ?_); refine awp_cond (by simp [hz]; rfl) (by rw [hx]; simp) (fun hd => ?_) (fun hd => ?_)
    · simp at hd
    · clear hd
      refine awp_skip ?_; (first | show AWP _ _ _ _ _ | show ∃ _, _ | skip)
      simp only [hsl, har, hz, if_true]
      (repeat refine awp_seq ?_); refine awp_reg1 (by rw [hx]; kernel_rfl) fun K hK => ?_; simp (maxSteps := 1000000) [ty102, ty79, ty74]
      refine freshL (list78 t t.ts.isEmpty false a ha hok) (by simp [purel, C.isPure]) rfl ?_
      simp
      refine hK _ ?_; clear hK K; (first | show AWP _ _ _ _ _ | show ∃ _, _ | skip)
      (repeat refine awp_seq ?_); refine awp_ret ?_; refine And.intro (Or.inr rfl) ?_
      rw [hdt]
      simp [retC, resC, viewC, mapO, purel, C.isPure]
  · have hdt : decideT t c = [] := by unfold decideT; rw [if_neg hz]
    (repeat refine awp_seq ?_); refine awp_cond (by simp [hz]; rfl) (by rw [hx]; simp) (fun hd => ?_) (fun hd => ?_)
    · clear hd
      (repeat refine awp_seq ?_); refine awp_reg1 (by rw [hx]; kernel_rfl) fun K hK => ?_; simp (maxSteps := 1000000) []; refine hK _ ?_; clear hK K; (first | show AWP _ _ _ _ _ | show ∃ _, _ | skip)
      (repeat refine awp_seq ?_); refine awp_ret ?_; refine And.intro (Or.inr rfl) ?_
      simp [retC, resC, viewC, mapO, hz, hdt]
    · simp [hz] at hd

theorem and_fact : ∀ a b : Fin 64, IntKind.u64.wrap (BitVec.ofInt IntKind.u64.bits a.val &&& BitVec.ofInt IntKind.u64.bits b.val).toNat = ((a.val &&& b.val : Nat) : Int) := by decide +kernel

theorem andU_eq {a b : Nat} (ha : a < 64) (hb : b < 64) : andU a b = ((a &&& b : Nat) : Int) := and_fact ⟨a, ha⟩ ⟨b, hb⟩

/-- The tests that are in each set. -/
def inAll (l : List Nat) (a : Nat) : Nat := l.foldl (fun x y => x &&& y) a

theorem inAll_lt {a : Nat} (ha : a < 64) : ∀ (l : List Nat), inAll l a < 64 := by
  intro l
  have : ∀ (l : List Nat) (a : Nat), a < 64 → inAll l a < 64 := by
    intro l
    induction l with
    | nil => intro a h; exact h
    | cons x l ih => intro a h; exact ih _ (Nat.lt_of_le_of_lt Nat.and_le_left h)
  exact this l a ha

theorem inAll_step {l : List Nat} {a i : Nat} (hi : i < l.length) : inAll (l.take (i + 1)) a = inAll (l.take i) a &&& l[i] := by
  unfold inAll
  rw [List.take_succ_eq_append_getElem hi, List.foldl_append]
  rfl

def neededT (t : Ti) (c : Cl) : List Int := if decE t c = 0 then listS t (inAll (decSets t c) (allS t)) else []

theorem needed40 (t : Ti) (c : Cl) (hl : TiLen t) : Pure Tryz.prog 40 [encTi t, encCl c] (.tup [.sl (neededT t c).isEmpty (decE t c != 0) ((neededT t c).map cI), encI (decE t c)]) := by
  refine pure_of (fn := Tryz.f40) [.tmp 4, .tmp 5] ⟨Tryz.func40, rfl, by kernel_rfl⟩ (by kernel_rfl) (by kernel_rfl) (by kernel_rfl) fun x hx hσ => ?_
  (repeat refine awp_seq ?_); refine awp_reg1 (by rw [hx]; kernel_rfl) fun K hK => ?_; simp (maxSteps := 1000000) [ty28, ty30]; refine hK _ ?_; clear hK K; (first | show AWP _ _ _ _ _ | show ∃ _, _ | skip)
  (repeat refine awp_seq ?_); refine awp_reg1 (by rw [hx]; kernel_rfl) fun K hK => ?_; simp (maxSteps := 1000000) [ty28, ty30]
  refine callP (decided75 t c hl) (by simp [purel, C.isPure]) ?_
  simp [ty102, ty74]
  refine hK _ ?_; clear hK K; (first | show AWP _ _ _ _ _ | show ∃ _, _ | skip)
  (repeat refine awp_seq ?_); refine awp_reg1 (by rw [hx]; kernel_rfl) fun K hK => ?_; simp (maxSteps := 1000000) [ty36]; refine hK _ ?_; clear hK K; (first | show AWP _ _ _ _ _ | show ∃ _, _ | skip)
  by_cases hz : decE t c = 0
  · obtain ⟨hok, hcl, h0⟩ := decE_ok hz
    have hlt := fun s => decSets_lt (c := c) hok (s := s)
    have hsl : decSl t c = .sl false false ((decSets t c).map cU) := if_pos hz
    have hdt : neededT t c = listS t (inAll (decSets t c) (allS t)) := by unfold neededT; rw [if_pos hz]
    have ha0 := allS_lt hok.len
    have hb := decL_len (cd := cdB t c) (2 ^ t.ts.length)
    have hN : 2 ^ t.ts.length ≤ 64 := Nat.pow_le_pow_right (n := 2) (by decide) hok.len
    have hb2 : (decSets t c).length ≤ 64 := Nat.le_trans hb hN
    generalize hL : decSets t c = L at *
    (repeat refine awp_seq ?_); refine awp_cond (by simp [hz]; rfl) (by rw [hx]; simp) (fun hd => ?_) (fun hd => ?_)
    · simp at hd
    · clear hd
      refine awp_skip ?_; (first | show AWP _ _ _ _ _ | show ∃ _, _ | skip)
      simp only [hsl, hz, if_true]
      (repeat refine awp_seq ?_); refine awp_reg1 (by rw [hx]; kernel_rfl) fun K hK => ?_; simp (maxSteps := 1000000) [ty74]
      refine callP (all49 t t.ts.isEmpty false hok.len) (by first | (simp; done) | (simp [*]; done)) ?_; simp (maxSteps := 1000000) [ty79]
      refine hK _ ?_; clear hK K; (first | show AWP _ _ _ _ _ | show ∃ _, _ | skip)
      (repeat refine awp_seq ?_); refine awp_reg1 (by rw [hx]; kernel_rfl) fun K hK => ?_; simp (maxSteps := 1000000) [ty102]; refine hK _ ?_; clear hK K; (first | show AWP _ _ _ _ _ | show ∃ _, _ | skip)
      (repeat refine awp_seq ?_); refine awp_block ?_
      refine awp_loop (fun i : Nat => ⟨ofL [(6, encF t), (9, .int .u64 (inAll (L.take i) (allS t))), (24, .sl false false (L.map cU)), (25, encI L.length), (26, encI i)], stoT []⟩)
        (fun i => i ≤ L.length) (fun i => L.length - i) 0 (by simp) ?_ ?_
      · refine wk_shape (shp0 hσ (by simp) (by simp) ?_) ?_
        · simp [SlotOk] <;> (repeat' (first | exact .same (by simp [purel, C.isPure]) | exact .cons (by simp [mtl, mtc, mT, mH, C.isPure, purel]) (by simp) .nil | refine And.intro ?_ ?_))
        · simp [mtc, mtl, mT, C.isPure, purel, inAll] <;> (try simp (disch := omega) [wrap_id]) <;> (try omega)
      · intro i hi
        (repeat refine awp_seq ?_); refine awp_reg1 (by rw [hx]; kernel_rfl) fun K hK => ?_; simp (maxSteps := 1000000) [ty3]; refine hK _ ?_; clear hK K; (first | show AWP _ _ _ _ _ | show ∃ _, _ | skip)
        (repeat refine awp_seq ?_); refine awp_cond (by simp; rfl) (by rw [hx]; simp) (fun hq => ?_) (fun hq => ?_)
        · simp at hq
          have hst := inAll_step (a := allS t) hq
          have h1 := inAll_lt ha0 (L.take i)
          have h2 := hlt L[i] (List.getElem_mem hq)
          have hand := andU_eq h1 h2
          refine awp_skip ?_; (first | show AWP _ _ _ _ _ | show ∃ _, _ | skip)
          (repeat refine awp_seq ?_); refine awp_block ?_
          (repeat refine awp_seq ?_); refine awp_reg1 (by rw [hx]; kernel_rfl) fun K hK => ?_; simp (maxSteps := 1000000) [ty102, ty79, hq]; refine hK _ ?_; clear hK K; (first | show AWP _ _ _ _ _ | show ∃ _, _ | skip)
          (repeat refine awp_seq ?_); refine awp_reg1 (by rw [hx]; kernel_rfl) fun K hK => ?_; simp (maxSteps := 1000000) [ty79, ib_and, hand, -intBin]; refine hK _ ?_; clear hK K; (first | show AWP _ _ _ _ _ | show ∃ _, _ | skip)
          (repeat refine awp_seq ?_); refine awp_reg1 (by rw [hx]; kernel_rfl) fun K hK => ?_; simp (maxSteps := 1000000) [ty3]; refine hK _ ?_; clear hK K; (first | show AWP _ _ _ _ _ | show ∃ _, _ | skip)
          rw [wrap_id (by omega) (by omega)]
          refine ⟨i + 1, by omega, by omega, ?_⟩
          rw [hst]
          refine wk_shape (shp0 hσ (by simp) (by simp) ?_) ?_
          · simp [SlotOk] <;> (repeat' (first | exact .same (by simp [purel, C.isPure]) | exact .cons (by simp [mtl, mtc, mT, mH, C.isPure, purel]) (by simp) .nil | refine And.intro ?_ ?_))
          · simp [mtc, mtl, mT, C.isPure, purel] <;> (try simp (disch := omega) [wrap_id]) <;> (try omega)
        · simp at hq
          (repeat refine awp_seq ?_); refine awp_exit ?_; (first | show AWP _ _ _ _ _ | show ∃ _, _ | skip)
          have hin : i = L.length := by omega
          rw [hin, List.take_length]
          (repeat refine awp_seq ?_); refine awp_reg1 (by rw [hx]; kernel_rfl) fun K hK => ?_; simp (maxSteps := 1000000) [ty74, ty79]
          refine freshL (list78 t t.ts.isEmpty false (inAll L (allS t)) (inAll_lt ha0 _) hok) (by simp [purel, C.isPure]) rfl ?_
          simp
          refine hK _ ?_; clear hK K; (first | show AWP _ _ _ _ _ | show ∃ _, _ | skip)
          (repeat refine awp_seq ?_); refine awp_ret ?_; refine And.intro (Or.inr rfl) ?_
          rw [hdt]
          simp [retC, resC, viewC, mapO, purel, C.isPure]
  · have hdt : neededT t c = [] := by unfold neededT; rw [if_neg hz]
    (repeat refine awp_seq ?_); refine awp_cond (by simp [hz]; rfl) (by rw [hx]; simp) (fun hd => ?_) (fun hd => ?_)
    · clear hd
      (repeat refine awp_seq ?_); refine awp_reg1 (by rw [hx]; kernel_rfl) fun K hK => ?_; simp (maxSteps := 1000000) []; refine hK _ ?_; clear hK K; (first | show AWP _ _ _ _ _ | show ∃ _, _ | skip)
      (repeat refine awp_seq ?_); refine awp_ret ?_; refine And.intro (Or.inr rfl) ?_
      simp [retC, resC, viewC, mapO, hz, hdt]
    · simp [hz] at hd

theorem real59 (g a s : Int) (ha : 0 ≤ a ∧ a ≤ 9000) (hg : -50 ≤ g ∧ g ≤ 50) : Pure Tryz.prog 59 [encI g, .ip [encI a] 0, .ip [encI s] 0] (.bool (seenA a g == s)) := by
  refine pure_of (fn := Tryz.f59) [.tmp 4] ⟨Tryz.func59, rfl, by kernel_rfl⟩ (by kernel_rfl) (by kernel_rfl) (by kernel_rfl) fun x hx hσ => ?_
  (repeat refine awp_seq ?_); refine awp_reg1 (by rw [hx]; kernel_rfl) fun K hK => ?_; simp (maxSteps := 1000000) []; refine hK _ ?_; clear hK K; (first | show AWP _ _ _ _ _ | show ∃ _, _ | skip)
  (repeat refine awp_seq ?_); refine awp_drw3 [] [0, 1, 2, 3, 4, 5] (by rw [hx]; kernel_rfl) (by kernel_rfl) (by kernel_rfl) (by kernel_rfl) fun K hK => ?_; simp (maxSteps := 1000000) [ty3]
  refine callPD (seen55 a g ha hg) (by first | (simp; done) | (simp [*]; done)) (by simp) ?_; simp (maxSteps := 1000000) [ty3]
  refine hK _ ?_; clear hK K; (first | show AWP _ _ _ _ _ | show ∃ _, _ | skip)
  (repeat refine awp_seq ?_); refine awp_ret ?_; refine And.intro (Or.inr rfl) ?_
  simp [retC, resC, viewC, mapO]

def realE (t : Ti) (s : Int) : Int := if checkT t ≠ 0 then checkT t else if countB s = false then 1 else openT t true
def realL (t : Ti) (s : Int) : List Int := if realE t s = 0 then fixTo (fun a => (numsT Tr.area t true).any fun g => seenA a g == s) 9001 else []

theorem numsT_mem {f : Tr → Int} {t : Ti} {is : Bool} {z : Int} (h : z ∈ numsT f t is) : openT t is = 0 ∧ ∃ k ∈ truthsS t (allS t), f k = z := by
  unfold numsT at h
  split at h
  · rename_i h0
    exact ⟨h0, (kindsL_mem _ _ _).1 h⟩
  · simp at h

theorem real15 (t : Ti) (s : Int) (hl : TiLen t) : Pure Tryz.prog 15 [encTi t, encI s] (.tup [.sl (realL t s).isEmpty (realE t s != 0) ((realL t s).map cI), encI (realE t s)]) := by
  refine pure_of (fn := Tryz.f15) [.tmp 4, .tmp 5] ⟨Tryz.func15, rfl, by kernel_rfl⟩ (by kernel_rfl) (by kernel_rfl) (by kernel_rfl) fun x hx hσ => ?_
  (repeat refine awp_seq ?_); refine awp_reg1 (by rw [hx]; kernel_rfl) fun K hK => ?_; simp (maxSteps := 1000000) [ty28, ty3]; refine hK _ ?_; clear hK K; (first | show AWP _ _ _ _ _ | show ∃ _, _ | skip)
  (repeat refine awp_seq ?_); refine awp_reg1 (by rw [hx]; kernel_rfl) fun K hK => ?_; simp (maxSteps := 1000000) [ty28]
  refine callP (check29 t hl) (by first | (simp; done) | (simp [*]; done)) ?_; simp (maxSteps := 1000000) []
  refine hK _ ?_; clear hK K; (first | show AWP _ _ _ _ _ | show ∃ _, _ | skip)
  (repeat refine awp_seq ?_); refine awp_reg1 (by rw [hx]; kernel_rfl) fun K hK => ?_; simp (maxSteps := 1000000) [ty36]; refine hK _ ?_; clear hK K; (first | show AWP _ _ _ _ _ | show ∃ _, _ | skip)
  by_cases hz : checkT t = 0
  · (repeat refine awp_seq ?_); refine awp_cond (by simp [hz]; rfl) (by rw [hx]; simp) (fun hd => ?_) (fun hd => ?_)
    · simp at hd
    · clear hd
      refine awp_skip ?_; (first | show AWP _ _ _ _ _ | show ∃ _, _ | skip)
      (repeat refine awp_seq ?_); refine awp_reg1 (by rw [hx]; kernel_rfl) fun K hK => ?_; simp (maxSteps := 1000000) [ty3]
      refine callP (isCount57 s) (by first | (simp; done) | (simp [*]; done)) ?_; simp (maxSteps := 1000000) []
      refine hK _ ?_; clear hK K; (first | show AWP _ _ _ _ _ | show ∃ _, _ | skip)
      cases hc : countB s
      · have hE : realE t s = 1 := by unfold realE; rw [if_neg (by simpa using hz), if_pos hc]
        have hL : realL t s = [] := by unfold realL; rw [if_neg (by rw [hE]; decide)]
        (repeat refine awp_seq ?_); refine awp_cond (by simp [hc]; rfl) (by rw [hx]; simp) (fun hd => ?_) (fun hd => ?_)
        · clear hd
          (repeat refine awp_seq ?_); refine awp_reg1 (by rw [hx]; kernel_rfl) fun K hK => ?_; simp (maxSteps := 1000000) []; refine hK _ ?_; clear hK K; (first | show AWP _ _ _ _ _ | show ∃ _, _ | skip)
          (repeat refine awp_seq ?_); refine awp_ret ?_; refine And.intro (Or.inr rfl) ?_
          simp [retC, resC, viewC, mapO, hE, hL]
        · simp at hd
      · have hE : realE t s = openT t true := by unfold realE; rw [if_neg (by simpa using hz), if_neg (by rw [hc]; decide)]
        (repeat refine awp_seq ?_); refine awp_cond (by simp [hc]; rfl) (by rw [hx]; simp) (fun hd => ?_) (fun hd => ?_)
        · simp at hd
        · clear hd
          refine awp_skip ?_; (first | show AWP _ _ _ _ _ | show ∃ _, _ | skip)
          (repeat refine awp_seq ?_); refine awp_reg1 (by rw [hx]; kernel_rfl) fun K hK => ?_; simp (maxSteps := 1000000) [ty28]
          refine callP (gains22 t hl) (by first | (simp; done) | (simp [*]; done)) ?_; simp (maxSteps := 1000000) []
          refine hK _ ?_; clear hK K; (first | show AWP _ _ _ _ _ | show ∃ _, _ | skip)
          (repeat refine awp_seq ?_); refine awp_reg1 (by rw [hx]; kernel_rfl) fun K hK => ?_; simp (maxSteps := 1000000) [ty36]; refine hK _ ?_; clear hK K; (first | show AWP _ _ _ _ _ | show ∃ _, _ | skip)
          by_cases ho : openT t true = 0
          · obtain ⟨hok, _, hT⟩ := openT_ok ho
            have hL : realL t s = fixTo (fun a => (numsT Tr.area t true).any fun g => seenA a g == s) 9001 := by unfold realL; rw [if_pos (by rw [hE, ho])]
            have hmem : ∀ z ∈ numsT Tr.area t true, -50 ≤ z ∧ z ≤ 50 := fun z hz' => by
              obtain ⟨_, k, hk, rfl⟩ := numsT_mem hz'
              exact (every_k hok (List.mem_filter.1 hk).1).1
            have hln := numsT_len Tr.area t true
            generalize numsT Tr.area t true = G at *
            obtain ⟨A, hA⟩ : ∃ A : Nat → List Int, ∀ i, A i = fixTo (fun a => G.any fun g => seenA a g == s) i := ⟨_, fun _ => rfl⟩
            have hA0 : A 0 = [] := hA 0
            have hAl : ∀ i, (A i).length ≤ i := fun i => by rw [hA]; exact fixTo_len _ _
            have hAs : ∀ i : Nat, A (i + 1) = if (G.any fun g => seenA i g == s) then A i ++ [(i : Int)] else A i := fun i => by rw [hA, hA]; rfl
            rw [← hA] at hL
            clear hA
            rw [hE, ho, hL]
            (repeat refine awp_seq ?_); refine awp_cond (by simp [ho]; rfl) (by rw [hx]; simp) (fun hd => ?_) (fun hd => ?_)
            · simp at hd
            · clear hd
              refine awp_skip ?_; (first | show AWP _ _ _ _ _ | show ∃ _, _ | skip)
              (repeat refine awp_seq ?_); refine awp_reg1 (by rw [hx]; kernel_rfl) fun K hK => ?_; simp (maxSteps := 1000000) [ty41]; refine hK _ ?_; clear hK K; (first | show AWP _ _ _ _ _ | show ∃ _, _ | skip)
              (repeat refine awp_seq ?_); refine awp_reg1 (by rw [hx]; kernel_rfl) fun K hK => ?_; simp (maxSteps := 1000000) [ty3]; refine hK _ ?_; clear hK K; (first | show AWP _ _ _ _ _ | show ∃ _, _ | skip)
              (repeat refine awp_seq ?_); refine awp_block ?_
              refine AWP.weak ?_ (wk_nil 9 9 1 (fu := true) (by simp) (by simp))
              refine awp_loop (fun i : Nat => ⟨ofL [(3, .ptr 3 1 0 0), (7, slI G), (9, .own 9 1 0 (A i).length), (27, encI i)], stoT [(3, 3, .live (o1 (encI s))), (9, 9, .live ⟨(A i).isEmpty, false, 1, (A i).map cI⟩)]⟩)
                (fun i => i ≤ 9001) (fun i => 9001 - i) 0 (by simp) ?_ ?_
              · rw [hA0]
                refine wk_shape (shp0 hσ (by simp) (by simp) ?_) ?_
                · simp [SlotOk] <;> (repeat' (first | (refine RowsOk.same ?_; simp [purel, C.isPure]; done) | (refine rowsCons ?_; simp [mtl, mtc, mT, mH, C.isPure, purel]; done) | (refine rowsCons ?_; simp [mtl, mtc, mT, mH, C.isPure, purel]) | refine And.intro ?_ ?_))
                · simp [mtc, mtl, mT, C.isPure, purel] <;> (try simp (disch := omega) [wrap_id]) <;> (try omega)
              · intro i hi
                have hl := hAl i
                have hst := hAs i
                have hwi : IntKind.i64.wrap ((i : Int) + 1) = ((i + 1 : Nat) : Int) := by rw [wrap_id (by omega) (by omega)]; rfl
                generalize hacc : A i = acc at *
                by_cases hq : (i : Int) < 9001
                · (repeat refine awp_seq ?_); refine awp_reg1 (by rw [hx]; kernel_rfl) fun K hK => ?_; simp (maxSteps := 1000000) [ty3, hq]; refine hK _ ?_; clear hK K; (first | show AWP _ _ _ _ _ | show ∃ _, _ | skip)
                  (repeat refine awp_seq ?_); refine awp_cond (by simp [hq]; rfl) (by rw [hx]; simp) (fun hd => ?_) (fun hd => ?_)
                  · clear hd
                    refine awp_skip ?_; (first | show AWP _ _ _ _ _ | show ∃ _, _ | skip)
                    (repeat refine awp_seq ?_); refine awp_block ?_
                    (repeat refine awp_seq ?_); refine awp_reg1 (by rw [hx]; kernel_rfl) fun K hK => ?_; simp (maxSteps := 1000000) [ty3]; refine hK _ ?_; clear hK K; (first | show AWP _ _ _ _ _ | show ∃ _, _ | skip)
                    (repeat refine awp_seq ?_); refine awp_reg1 (by rw [hx]; kernel_rfl) fun K hK => ?_; simp (maxSteps := 1000000) []
                    refine callL (contains58 G.isEmpty G.isEmpty G 59 [.ip [encI i] 0, .ip [encI s] 0] (fun g => seenA i g == s) (by simp [purel, C.isPure]) (by omega) (fun z hz' => real59 z i s ⟨by omega, by omega⟩ (hmem z hz'))) (by simp [viewL, mapO, viewC, C.isPure, purel]) (.inr rfl) ?_
                    simp
                    refine hK _ ?_; clear hK K; (first | show AWP _ _ _ _ _ | show ∃ _, _ | skip)
                    cases hb : G.any fun g => seenA i g == s
                    · rw [hb] at hst
                      simp at hst
                      (repeat refine awp_seq ?_); refine awp_cond (by simp [hb]; rfl) (by rw [hx]; simp) (fun hd => ?_) (fun hd => ?_)
                      · simp [hb] at hd
                      · refine awp_skip ?_; (first | show AWP _ _ _ _ _ | show ∃ _, _ | skip)
                        (repeat refine awp_seq ?_); refine awp_reg1 (by rw [hx]; kernel_rfl) fun K hK => ?_; simp (maxSteps := 1000000) [ty3]; refine hK _ ?_; clear hK K; (first | show AWP _ _ _ _ _ | show ∃ _, _ | skip)
                        refine ⟨i + 1, by omega, by omega, ?_⟩
                        rw [hst, hwi]
                        refine wk_shape (shp0 hσ (by simp) (by simp) ?_) ?_
                        · simp [SlotOk] <;> (repeat' (first | (refine RowsOk.same ?_; simp [purel, C.isPure]; done) | (refine rowsCons ?_; simp [mtl, mtc, mT, mH, C.isPure, purel]; done) | (refine rowsCons ?_; simp [mtl, mtc, mT, mH, C.isPure, purel]) | refine And.intro ?_ ?_))
                        · simp [mtc, mtl, mT, C.isPure, purel] <;> (try simp (disch := omega) [wrap_id]) <;> (try omega)
                    · rw [hb] at hst
                      simp at hst
                      (repeat refine awp_seq ?_); refine awp_cond (by simp [hb]; rfl) (by rw [hx]; simp) (fun hd => ?_) (fun hd => ?_)
                      · clear hd
                        (repeat refine awp_seq ?_); refine awp_reg1 (by rw [hx]; kernel_rfl) fun K hK => ?_; simp (maxSteps := 1000000) [ty41, ty3]
                        refine ⟨by omega, ?_⟩
                        refine hK _ ?_; clear hK K; (first | show AWP _ _ _ _ _ | show ∃ _, _ | skip)
                        (repeat refine awp_seq ?_); refine awp_reg1 (by rw [hx]; kernel_rfl) fun K hK => ?_; simp (maxSteps := 1000000) [ty3]; refine hK _ ?_; clear hK K; (first | show AWP _ _ _ _ _ | show ∃ _, _ | skip)
                        refine ⟨i + 1, by omega, by omega, ?_⟩
                        rw [hst, hwi]
                        refine wk_shape2 [(3, 3, .live (o1 (encI s))), (9, 36, .live ⟨(acc ++ [(i : Int)]).isEmpty, false, 1, (acc ++ [(i : Int)]).map cI⟩)] (by first | rfl | (simp only [if_pos, if_true]; rfl)) (shp0 hσ (by simp) (by simp) ?_) ?_
                        · simp [SlotOk] <;> (repeat' (first | (refine RowsOk.same ?_; simp [purel, C.isPure]; done) | (refine rowsCons ?_; simp [mtl, mtc, mT, mH, C.isPure, purel]; done) | (refine rowsCons ?_; simp [mtl, mtc, mT, mH, C.isPure, purel]) | refine And.intro ?_ ?_))
                        · simp [mtc, mtl, mT, C.isPure, purel] <;> (try simp (disch := omega) [wrap_id]) <;> (try omega)
                      · simp [hb] at hd
                  · simp [hq] at hd
                · (repeat refine awp_seq ?_); refine awp_reg1 (by rw [hx]; kernel_rfl) fun K hK => ?_; simp (maxSteps := 1000000) [ty3, hq]; refine hK _ ?_; clear hK K; (first | show AWP _ _ _ _ _ | show ∃ _, _ | skip)
                  (repeat refine awp_seq ?_); refine awp_cond (by simp [hq]; rfl) (by rw [hx]; simp) (fun hd => ?_) (fun hd => ?_)
                  · simp [hq] at hd
                  · clear hd
                    (repeat refine awp_seq ?_); refine awp_exit ?_; (first | show AWP _ _ _ _ _ | show ∃ _, _ | skip)
                    have hin : i = 9001 := by omega
                    rw [← hin, hacc]
                    (repeat refine awp_seq ?_); refine awp_reg1 (by rw [hx]; kernel_rfl) fun K hK => ?_; simp (maxSteps := 1000000) []; refine hK _ ?_; clear hK K; (first | show AWP _ _ _ _ _ | show ∃ _, _ | skip)
                    (repeat refine awp_seq ?_); refine awp_ret ?_; refine And.intro (Or.inr rfl) ?_
                    simp [retC, resC, viewC, mapO, purel, C.isPure]
          · have hL : realL t s = [] := by unfold realL; rw [if_neg (by rw [hE]; exact ho)]
            (repeat refine awp_seq ?_); refine awp_cond (by simp [ho]; rfl) (by rw [hx]; simp) (fun hd => ?_) (fun hd => ?_)
            · clear hd
              (repeat refine awp_seq ?_); refine awp_reg1 (by rw [hx]; kernel_rfl) fun K hK => ?_; simp (maxSteps := 1000000) []; refine hK _ ?_; clear hK K; (first | show AWP _ _ _ _ _ | show ∃ _, _ | skip)
              (repeat refine awp_seq ?_); refine awp_ret ?_; refine And.intro (Or.inr rfl) ?_
              simp [retC, resC, viewC, mapO, hE, hL, ho]
            · simp [ho] at hd
  · have hE : realE t s = checkT t := by unfold realE; rw [if_pos hz]
    have hL : realL t s = [] := by unfold realL; rw [if_neg (by rw [hE]; exact hz)]
    (repeat refine awp_seq ?_); refine awp_cond (by simp [hz]; rfl) (by rw [hx]; simp) (fun hd => ?_) (fun hd => ?_)
    · clear hd
      (repeat refine awp_seq ?_); refine awp_reg1 (by rw [hx]; kernel_rfl) fun K hK => ?_; simp (maxSteps := 1000000) []; refine hK _ ?_; clear hK K; (first | show AWP _ _ _ _ _ | show ∃ _, _ | skip)
      (repeat refine awp_seq ?_); refine awp_ret ?_; refine And.intro (Or.inr rfl) ?_
      simp [retC, resC, viewC, mapO, hE, hL, hz]
    · simp [hz] at hd

end Go.Proofs.YtbhbmnofmoibhaaGreat

namespace Go.Proofs.YtbhbmnofmoibhaaGreat
open Go Go.Abs

set_option maxHeartbeats 4000000

-- the reference of the trials: what is valid, what a truth is

theorem q_within60 (n lo hi : Int) : Pure Tryz.prog 60 [encI n, encI lo, encI hi] (.bool (withinB n lo hi)) := by
  refine pure_of (fn := Tryz.f60) [.tmp 6] ⟨Tryz.func60, rfl, by kernel_rfl⟩ (by kernel_rfl) (by kernel_rfl) (by kernel_rfl) fun x hx hσ => ?_
  (repeat refine awp_seq ?_); refine awp_reg1 (by rw [hx]; kernel_rfl) fun K hK => ?_; simp (maxSteps := 1000000) []; refine hK _ ?_; clear hK K; (first | show AWP _ _ _ _ _ | show ∃ _, _ | skip)
  (repeat refine awp_seq ?_); refine awp_reg1 (by rw [hx]; kernel_rfl) fun K hK => ?_; simp (maxSteps := 1000000) []
  refine callP (within79 n lo hi) (by first | (simp; done) | (simp [*]; done)) ?_; simp (maxSteps := 1000000) []
  refine hK _ ?_; clear hK K; (first | show AWP _ _ _ _ _ | show ∃ _, _ | skip)
  (repeat refine awp_seq ?_); refine awp_ret ?_; refine And.intro (Or.inr rfl) ?_
  simp [retC, resC, viewC, mapO]

theorem q_in74 (nl fu : Bool) (A : List Int) (n : Int) (hn : A.length ≤ 1000000) : Pure Tryz.prog 74 [.sl nl fu (A.map cI), encI n] (.bool (decide (n ∈ A))) := by
  refine pure_of (fn := Tryz.f74) [.tmp 4] ⟨Tryz.func74, rfl, by kernel_rfl⟩ (by kernel_rfl) (by kernel_rfl) (by kernel_rfl) fun x hx hσ => ?_
  (repeat refine awp_seq ?_); refine awp_reg1 (by rw [hx]; kernel_rfl) fun K hK => ?_; simp (maxSteps := 1000000) []; refine hK _ ?_; clear hK K; (first | show AWP _ _ _ _ _ | show ∃ _, _ | skip)
  (repeat refine awp_seq ?_); refine awp_reg1 (by rw [hx]; kernel_rfl) fun K hK => ?_; simp (maxSteps := 1000000) []
  refine callP (in41 nl fu A n hn) (by first | (simp; done) | (simp [*]; done)) ?_; simp (maxSteps := 1000000) []
  refine hK _ ?_; clear hK K; (first | show AWP _ _ _ _ _ | show ∃ _, _ | skip)
  (repeat refine awp_seq ?_); refine awp_ret ?_; refine And.intro (Or.inr rfl) ?_
  simp [retC, resC, viewC, mapO]

theorem q_size67 (n : Int) (hn : -1000000 ≤ n ∧ n ≤ 1000000) : Pure Tryz.prog 67 [encI n] (encI (absI n)) := by
  have h1 : IntKind.i64.wrap (-n) = -n := wrap_id (by omega) (by omega)
  have e : (if n < -n then -n else n) = absI n := by unfold absI; split <;> split <;> omega
  refine pure_of (fn := Tryz.f67) [.tmp 2] ⟨Tryz.func67, rfl, by kernel_rfl⟩ (by kernel_rfl) (by kernel_rfl) (by kernel_rfl) fun x hx hσ => ?_
  (repeat refine awp_seq ?_); refine awp_reg1 (by rw [hx]; kernel_rfl) fun K hK => ?_; simp (maxSteps := 1000000) []; refine hK _ ?_; clear hK K; (first | show AWP _ _ _ _ _ | show ∃ _, _ | skip)
  (repeat refine awp_seq ?_); refine awp_reg1 (by rw [hx]; kernel_rfl) fun K hK => ?_; simp (maxSteps := 1000000) [ty3, h1, e]; refine hK _ ?_; clear hK K; (first | show AWP _ _ _ _ _ | show ∃ _, _ | skip)
  (repeat refine awp_seq ?_); refine awp_ret ?_; refine And.intro (Or.inr rfl) ?_
  simp [retC, resC, viewC, mapO]

theorem q_isArea56 (n : Int) : Pure Tryz.prog 56 [encI n] (.bool (areaB n)) := by
  refine pure_of (fn := Tryz.f56) [.tmp 2] ⟨Tryz.func56, rfl, by kernel_rfl⟩ (by kernel_rfl) (by kernel_rfl) (by kernel_rfl) fun x hx hσ => ?_
  (repeat refine awp_seq ?_); refine awp_reg1 (by rw [hx]; kernel_rfl) fun K hK => ?_; simp (maxSteps := 1000000) []; refine hK _ ?_; clear hK K; (first | show AWP _ _ _ _ _ | show ∃ _, _ | skip)
  (repeat refine awp_seq ?_); refine awp_reg1 (by rw [hx]; kernel_rfl) fun K hK => ?_; simp (maxSteps := 1000000) []
  refine callP (q_within60 n 0 9000) (by first | (simp; done) | (simp [*]; done)) ?_; simp (maxSteps := 1000000) []
  refine hK _ ?_; clear hK K; (first | show AWP _ _ _ _ _ | show ∃ _, _ | skip)
  (repeat refine awp_seq ?_); refine awp_ret ?_; refine And.intro (Or.inr rfl) ?_
  simp [retC, resC, viewC, mapO, areaB, withinB]

theorem q_isClass20 (c : Cl) : Pure Tryz.prog 20 [encCl c] (.bool (classB c)) := by
  refine pure_of (fn := Tryz.f20) [.tmp 2] ⟨Tryz.func20, rfl, by kernel_rfl⟩ (by kernel_rfl) (by kernel_rfl) (by kernel_rfl) fun x hx hσ => ?_
  (repeat refine awp_seq ?_); refine awp_reg1 (by rw [hx]; kernel_rfl) fun K hK => ?_; simp (maxSteps := 1000000) [ty30]; refine hK _ ?_; clear hK K; (first | show AWP _ _ _ _ _ | show ∃ _, _ | skip)
  cases h : areaB c.size
  · (repeat refine awp_seq ?_); refine awp_reg1 (by rw [hx]; kernel_rfl) fun K hK => ?_; simp (maxSteps := 1000000) [ty30, ty3]
    refine callP (q_isArea56 c.size) (by first | (simp; done) | (simp [*]; done)) ?_; simp (maxSteps := 1000000) [h, ty30, ty3]
    refine hK _ ?_; clear hK K; (first | show AWP _ _ _ _ _ | show ∃ _, _ | skip)
    (repeat refine awp_seq ?_); refine awp_ret ?_; refine And.intro (Or.inr rfl) ?_
    simp [retC, resC, viewC, mapO, classB, h]
  · (repeat refine awp_seq ?_); refine awp_reg1 (by rw [hx]; kernel_rfl) fun K hK => ?_; simp (maxSteps := 1000000) [ty30, ty3]
    refine callP (q_isArea56 c.size) (by first | (simp; done) | (simp [*]; done)) ?_; simp (maxSteps := 1000000) [h, ty30, ty3]
    refine callP (q_within60 c.most 0 9999) (by first | (simp; done) | (simp [*]; done)) ?_; simp (maxSteps := 1000000) [ty30, ty3]
    refine hK _ ?_; clear hK K; (first | show AWP _ _ _ _ _ | show ∃ _, _ | skip)
    (repeat refine awp_seq ?_); refine awp_ret ?_; refine And.intro (Or.inr rfl) ?_
    simp [retC, resC, viewC, mapO, classB, h, countB, withinB]

theorem q_seen25 (a g : Int) (ha : 0 ≤ a ∧ a ≤ 9000) (hg : -50 ≤ g ∧ g ≤ 50) : Pure Tryz.prog 25 [encI a, encI g] (encI (seenA a g)) := by
  have hb := mul_bd ha hg
  have hd : seenA a g = a + a * g / 1000 := rfl
  have hbd := seenA_bd ha hg
  generalize hn : a * g = n at *
  have hwn : IntKind.i64.wrap n = n := wrap_id (by omega) (by omega)
  have hq : n.tdiv 1000 = if 0 ≤ n then n / 1000 else -(-n / 1000) := by
    split
    · exact Int.tdiv_eq_ediv_of_nonneg (by omega)
    · have := Int.neg_tdiv (a := -n) (b := 1000)
      rw [Int.neg_neg] at this
      rw [this, Int.tdiv_eq_ediv_of_nonneg (by omega)]
  obtain ⟨q, hqe⟩ : ∃ q, q = n.tdiv 1000 := ⟨_, rfl⟩
  rw [← hqe] at hq
  have hqb : -1000 ≤ q ∧ q ≤ 1000 := by split at hq <;> omega
  have h2 : IntKind.i64.wrap q = q := wrap_id (by omega) (by omega)
  have h3 : IntKind.i64.wrap (q * 1000) = q * 1000 := wrap_id (by omega) (by omega)
  refine pure_of (fn := Tryz.f25) [.tmp 4] ⟨Tryz.func25, rfl, by kernel_rfl⟩ (by kernel_rfl) (by kernel_rfl) (by kernel_rfl) fun x hx hσ => ?_
  (repeat refine awp_seq ?_); refine awp_reg1 (by rw [hx]; kernel_rfl) fun K hK => ?_; simp (maxSteps := 1000000) []; refine hK _ ?_; clear hK K; (first | show AWP _ _ _ _ _ | show ∃ _, _ | skip)
  (repeat refine awp_seq ?_); refine awp_reg1 (by rw [hx]; kernel_rfl) fun K hK => ?_; simp (maxSteps := 1000000) [ty3, hn, hwn, ← hqe, h2]; refine hK _ ?_; clear hK K; (first | show AWP _ _ _ _ _ | show ∃ _, _ | skip)
  by_cases h0 : n < q * 1000
  · (repeat refine awp_seq ?_); refine awp_reg1 (by rw [hx]; kernel_rfl) fun K hK => ?_; simp (maxSteps := 1000000) [ty3, hn, hwn, h3, h0]; refine hK _ ?_; clear hK K; (first | show AWP _ _ _ _ _ | show ∃ _, _ | skip)
    (repeat refine awp_seq ?_); refine awp_cond (by simp [h0]; rfl) (by rw [hx]; simp) (fun hc => ?_) (fun hc => ?_)
    · clear hc
      have h4 : IntKind.i64.wrap (q - 1) = q - 1 := wrap_id (by omega) (by omega)
      have h5 : a + (q - 1) = seenA a g := by rw [hd]; split at hq <;> omega
      have h6 : IntKind.i64.wrap (seenA a g) = seenA a g := wrap_id (by omega) (by omega)
      (repeat refine awp_seq ?_); refine awp_reg1 (by rw [hx]; kernel_rfl) fun K hK => ?_; simp (maxSteps := 1000000) [ty3, h4]; refine hK _ ?_; clear hK K; (first | show AWP _ _ _ _ _ | show ∃ _, _ | skip)
      (repeat refine awp_seq ?_); refine awp_reg1 (by rw [hx]; kernel_rfl) fun K hK => ?_; simp (maxSteps := 1000000) [ty3, h5, h6]; refine hK _ ?_; clear hK K; (first | show AWP _ _ _ _ _ | show ∃ _, _ | skip)
      (repeat refine awp_seq ?_); refine awp_ret ?_; refine And.intro (Or.inr rfl) ?_
      simp [retC, resC, viewC, mapO]
    · simp [h0] at hc
  · (repeat refine awp_seq ?_); refine awp_reg1 (by rw [hx]; kernel_rfl) fun K hK => ?_; simp (maxSteps := 1000000) [ty3, hn, hwn, h3, h0]; refine hK _ ?_; clear hK K; (first | show AWP _ _ _ _ _ | show ∃ _, _ | skip)
    (repeat refine awp_seq ?_); refine awp_cond (by simp [h0]; rfl) (by rw [hx]; simp) (fun hc => ?_) (fun hc => ?_)
    · simp [h0] at hc
    · clear hc
      refine awp_skip ?_; (first | show AWP _ _ _ _ _ | show ∃ _, _ | skip)
      have h5 : a + q = seenA a g := by rw [hd]; split at hq <;> omega
      have h6 : IntKind.i64.wrap (seenA a g) = seenA a g := wrap_id (by omega) (by omega)
      (repeat refine awp_seq ?_); refine awp_reg1 (by rw [hx]; kernel_rfl) fun K hK => ?_; simp (maxSteps := 1000000) [ty3, h5, h6]; refine hK _ ?_; clear hK K; (first | show AWP _ _ _ _ _ | show ∃ _, _ | skip)
      (repeat refine awp_seq ?_); refine awp_ret ?_; refine And.intro (Or.inr rfl) ?_
      simp [retC, resC, viewC, mapO]

theorem q_error28 (k : Tr) (a : Int) (ha : 0 ≤ a ∧ a ≤ 9000) (hg : -50 ≤ k.area ∧ k.area ≤ 50) (hk : -100 ≤ k.skew ∧ k.skew ≤ 100) : Pure Tryz.prog 28 [encTr k, encI a] (encI (errI k a)) := by
  have hb := seenA_bd ha hg
  have he := errI_bd ha hg hk
  have hd : errI k a = absI (seenA a k.area - a) + absI k.skew := rfl
  have h1 : IntKind.i64.wrap (seenA a k.area - a) = seenA a k.area - a := wrap_id (by omega) (by omega)
  have h2 : IntKind.i64.wrap (errI k a) = errI k a := wrap_id (by omega) (by omega)
  refine pure_of (fn := Tryz.f28) [.tmp 4] ⟨Tryz.func28, rfl, by kernel_rfl⟩ (by kernel_rfl) (by kernel_rfl) (by kernel_rfl) fun x hx hσ => ?_
  (repeat refine awp_seq ?_); refine awp_reg1 (by rw [hx]; kernel_rfl) fun K hK => ?_; simp (maxSteps := 1000000) [ty48]; refine hK _ ?_; clear hK K; (first | show AWP _ _ _ _ _ | show ∃ _, _ | skip)
  (repeat refine awp_seq ?_); refine awp_drw3 [] [0, 1, 2, 3, 4, 5, 6, 7, 8, 9, 10, 11] (by rw [hx]; kernel_rfl) (by kernel_rfl) (by kernel_rfl) (by kernel_rfl) fun K hK => ?_; simp (maxSteps := 1000000) [ty48, ty3]
  refine callPD (q_seen25 a k.area ha hg) (by first | (simp; done) | (simp [*]; done)) (by simp) ?_; simp (maxSteps := 1000000) [ty3, h1]
  refine callPD (q_size67 (seenA a k.area - a) (by omega)) (by first | (simp; done) | (simp [*]; done)) (by simp) ?_; simp (maxSteps := 1000000) [ty48, ty3]
  refine callPD (q_size67 k.skew (by omega)) (by first | (simp; done) | (simp [*]; done)) (by simp) ?_; simp (maxSteps := 1000000) [ty3, ← hd, h2]
  refine hK _ ?_; clear hK K; (first | show AWP _ _ _ _ _ | show ∃ _, _ | skip)
  (repeat refine awp_seq ?_); refine awp_ret ?_; refine And.intro (Or.inr rfl) ?_
  simp [retC, resC, viewC, mapO]

theorem q_of86 (w : Wh) (n : Int) : Pure Tryz.prog 86 [encWh w, encI n] (encWh (oneW w n)) := by
  refine pure_of (fn := Tryz.f86) [.cell 4 25] ⟨Tryz.func86, rfl, by kernel_rfl⟩ (by kernel_rfl) (by kernel_rfl) (by kernel_rfl) fun x hx hσ => ?_
  (repeat refine awp_seq ?_); refine awp_reg1 (by rw [hx]; kernel_rfl) fun K hK => ?_; simp (maxSteps := 1000000) [ty25]; refine hK _ ?_; clear hK K; (first | show AWP _ _ _ _ _ | show ∃ _, _ | skip)
  (repeat refine awp_seq ?_); refine awp_reg1 (by rw [hx]; kernel_rfl) fun K hK => ?_; simp (maxSteps := 1000000) [ty25, ty23]; refine hK _ ?_; clear hK K; (first | show AWP _ _ _ _ _ | show ∃ _, _ | skip)
  (repeat refine awp_seq ?_); refine awp_reg1 (by rw [hx]; kernel_rfl) fun K hK => ?_; simp (maxSteps := 1000000) [ty25]; refine hK _ ?_; clear hK K; (first | show AWP _ _ _ _ _ | show ∃ _, _ | skip)
  (repeat refine awp_seq ?_); refine awp_ret ?_; refine And.intro (Or.inr rfl) ?_
  simp [retC, resC, viewC, mapO, ty25, oneW]

theorem tellA_zero {w : Wh} {y : Ts} {g : Int} (h : openI (oneW w (seenA y.area g)) y.l true ≠ 0) : tellA w y g = [] := numsI_zero h

theorem q_allows61 (t : Ti) (y : Ts) (k : Tr) (ha : 0 ≤ y.area ∧ y.area ≤ 9000) (hn : y.l.length ≤ 1000) (hg : -50 ≤ k.area ∧ k.area ≤ 50) : Pure Tryz.prog 61 [encTi t, encTs y, encTr k] (.bool (allowB t.w y k)) := by
  have hlen := numsI_len Tr.skew (oneW t.w (seenA y.area k.area)) y.l
  refine pure_of (fn := Tryz.f61) [.tmp 6] ⟨Tryz.func61, rfl, by kernel_rfl⟩ (by kernel_rfl) (by kernel_rfl) (by kernel_rfl) fun x hx hσ => ?_
  (repeat refine awp_seq ?_); refine awp_reg1 (by rw [hx]; kernel_rfl) fun K hK => ?_; simp (maxSteps := 1000000) [ty28, ty64, ty48]; refine hK _ ?_; clear hK K; (first | show AWP _ _ _ _ _ | show ∃ _, _ | skip)
  (repeat refine awp_seq ?_); refine awp_drw3 [] [0, 1, 2, 3, 4, 5, 6, 7, 8, 9, 10, 11, 12, 13, 14, 15] (by rw [hx]; kernel_rfl) (by kernel_rfl) (by kernel_rfl) (by kernel_rfl) fun K hK => ?_; simp (maxSteps := 1000000) [ty28, ty25, ty64, ty3, ty48]
  refine callPD (q_seen25 y.area k.area ha hg) (by first | (simp; done) | (simp [*]; done)) (by simp) ?_; simp (maxSteps := 1000000) [ty25, ty28]
  refine callPD (q_of86 t.w (seenA y.area k.area)) (by first | (simp; done) | (simp [*]; done)) (by simp) ?_; simp (maxSteps := 1000000) [ty64, ty62]
  refine callPD (ref37 (oneW t.w (seenA y.area k.area)) y.nl y.fu y.l hn) (by first | (simp; done) | (simp [*]; done)) (by simp) ?_; simp (maxSteps := 1000000) [ty41]
  refine hK _ ?_; clear hK K; (first | show AWP _ _ _ _ _ | show ∃ _, _ | skip)
  by_cases hz : openI (oneW t.w (seenA y.area k.area)) y.l true = 0
  · (repeat refine awp_seq ?_); refine awp_reg1 (by rw [hx]; kernel_rfl) fun K hK => ?_; simp (maxSteps := 1000000) [ty36, ty48, ty3, ty41, hz]
    refine callP (q_in74 _ _ (numsI Tr.skew (oneW t.w (seenA y.area k.area)) y.l) k.skew (by omega)) (by first | (simp; done) | (simp [*]; done)) ?_; simp (maxSteps := 1000000) [ty4]
    refine hK _ ?_; clear hK K; (first | show AWP _ _ _ _ _ | show ∃ _, _ | skip)
    (repeat refine awp_seq ?_); refine awp_ret ?_; refine And.intro (Or.inr rfl) ?_
    simp [retC, resC, viewC, mapO, allowB, tellA]
    exact decide_eq_decide.2 Iff.rfl
  · have hz' : (openI (oneW t.w (seenA y.area k.area)) y.l true == 0) = false := by simpa using hz
    have h0 := tellA_zero (w := t.w) (y := y) (g := k.area) hz
    (repeat refine awp_seq ?_); refine awp_reg1 (by rw [hx]; kernel_rfl) fun K hK => ?_; simp (maxSteps := 1000000) [ty36, ty48, ty3, ty41, hz']; refine hK _ ?_; clear hK K; (first | show AWP _ _ _ _ _ | show ∃ _, _ | skip)
    (repeat refine awp_seq ?_); refine awp_ret ?_; refine And.intro (Or.inr rfl) ?_
    simp [retC, resC, viewC, mapO, allowB, h0]

end Go.Proofs.YtbhbmnofmoibhaaGreat

