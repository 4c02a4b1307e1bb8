/- For every input the law WearBlame returns true, and each argument reads afterwards as it read before. No condition. -/
import Derived.Test.YtknoachjpoibaaaGreatB6

set_option linter.unusedSimpArgs false
set_option linter.unusedVariables false
set_option linter.constructorNameAsVariable false

namespace Go.Proofs.YtknoachjpoibaaaGreat
open Go Go.Abs

set_option maxHeartbeats 16000000
set_option maxRecDepth 20000





theorem law11 (w : Ws) (x : As) : Pure Tryz.prog 11 [encWs w, encAs x] (.bool true) := by
 obtain ⟨f, hF, hf⟩ := ready13 w
 cases f
 ·refine pure_of (fn := Tryz.f11) [.tmp 4] ⟨Tryz.func11, rfl, by kernel_rfl⟩ (by kernel_rfl) (by kernel_rfl) (by kernel_rfl) fun x hx hσ => ?_
  (repeat refine awp_seq ?_); refine awp_reg1 (by rw [hx]; kernel_rfl) fun K hK => ?_; simp (maxSteps := 1000000) [ty28, ty47]; refine hK _ ?_; clear hK K; (first | show AWP _ _ _ _ _ | show ∃ _, _ | skip)
  (repeat refine awp_seq ?_); refine awp_reg1 (by rw [hx]; kernel_rfl) fun K hK => ?_; simp (maxSteps := 1000000) [ty28, ty47]
  refine callP (hF) (by first | (simp; done) | (simp [*]; done)) ?_; simp (maxSteps := 1000000) [ty4]
  refine hK _ ?_; clear hK K; (first | show AWP _ _ _ _ _ | show ∃ _, _ | skip)
  (repeat refine awp_seq ?_); refine awp_cond (by simp [hf]; rfl) (by rw [hx]; simp) (fun hd => ?_) (fun hd => ?_)
  ·clear hd
   (repeat refine awp_seq ?_); refine awp_reg1 (by rw [hx]; kernel_rfl) fun K hK => ?_; simp (maxSteps := 1000000) []
   refine callP (works15) (by first | (simp; done) | (simp [*]; done)) ?_; simp (maxSteps := 1000000) []
   refine hK _ ?_; clear hK K; (first | show AWP _ _ _ _ _ | show ∃ _, _ | skip)
   (repeat refine awp_seq ?_); refine awp_ret ?_; refine And.intro (Or.inr rfl) ?_
   simp [retC, resC, viewC, mapO]
  ·simp [hf] at hd
 ·obtain ⟨hck, hnear⟩ := hf rfl
  have hok := checkW_ok.1 hck
  have hlen := hnear.len
  have hsm := hnear.small hck
  have hla := hok.last
  have hgn := hok.num.gain
  have hasx := isAsk21 w x
  cases hk : askB w x
  ·rw [hk] at hasx
   refine pure_of (fn := Tryz.f11) [.tmp 4] ⟨Tryz.func11, rfl, by kernel_rfl⟩ (by kernel_rfl) (by kernel_rfl) (by kernel_rfl) fun x hx hσ => ?_
   (repeat refine awp_seq ?_); refine awp_reg1 (by rw [hx]; kernel_rfl) fun K hK => ?_; simp (maxSteps := 1000000) [ty28, ty47]; refine hK _ ?_; clear hK K; (first | show AWP _ _ _ _ _ | show ∃ _, _ | skip)
   (repeat refine awp_seq ?_); refine awp_reg1 (by rw [hx]; kernel_rfl) fun K hK => ?_; simp (maxSteps := 1000000) [ty28, ty47]
   refine callP (hF) (by first | (simp; done) | (simp [*]; done)) ?_; simp (maxSteps := 1000000) [ty4, ty28, ty47]
   refine callP (hasx) (by first | (simp; done) | (simp [*]; done)) ?_; simp (maxSteps := 1000000) [ty4]
   refine hK _ ?_; clear hK K; (first | show AWP _ _ _ _ _ | show ∃ _, _ | skip)
   (repeat refine awp_seq ?_); refine awp_cond (by simp [hk]; rfl) (by rw [hx]; simp) (fun hd => ?_) (fun hd => ?_)
   ·clear hd
    (repeat refine awp_seq ?_); refine awp_reg1 (by rw [hx]; kernel_rfl) fun K hK => ?_; simp (maxSteps := 1000000) []
    refine callP (works15) (by first | (simp; done) | (simp [*]; done)) ?_; simp (maxSteps := 1000000) []
    refine hK _ ?_; clear hK K; (first | show AWP _ _ _ _ _ | show ∃ _, _ | skip)
    (repeat refine awp_seq ?_); refine awp_ret ?_; refine And.intro (Or.inr rfl) ?_
    simp [retC, resC, viewC, mapO]
   ·simp [hk] at hd
  ·rw [hk] at hasx
   by_cases h0 : x.seen < 0
   ·refine pure_of (fn := Tryz.f11) [.tmp 4] ⟨Tryz.func11, rfl, by kernel_rfl⟩ (by kernel_rfl) (by kernel_rfl) (by kernel_rfl) fun x hx hσ => ?_
    (repeat refine awp_seq ?_); refine awp_reg1 (by rw [hx]; kernel_rfl) fun K hK => ?_; simp (maxSteps := 1000000) [ty28, ty47]; refine hK _ ?_; clear hK K; (first | show AWP _ _ _ _ _ | show ∃ _, _ | skip)
    (repeat refine awp_seq ?_); refine awp_reg1 (by rw [hx]; kernel_rfl) fun K hK => ?_; simp (maxSteps := 1000000) [ty28, ty47]
    refine callP (hF) (by first | (simp; done) | (simp [*]; done)) ?_; simp (maxSteps := 1000000) [ty4, ty28, ty47]
    refine callP (hasx) (by first | (simp; done) | (simp [*]; done)) ?_; simp (maxSteps := 1000000) [ty4, ty47, ty3, h0]
    refine hK _ ?_; clear hK K; (first | show AWP _ _ _ _ _ | show ∃ _, _ | skip)
    (repeat refine awp_seq ?_); refine awp_cond (by simp [h0]; rfl) (by rw [hx]; simp) (fun hd => ?_) (fun hd => ?_)
    ·clear hd
     (repeat refine awp_seq ?_); refine awp_reg1 (by rw [hx]; kernel_rfl) fun K hK => ?_; simp (maxSteps := 1000000) []
     refine callP (works15) (by first | (simp; done) | (simp [*]; done)) ?_; simp (maxSteps := 1000000) []
     refine hK _ ?_; clear hK K; (first | show AWP _ _ _ _ _ | show ∃ _, _ | skip)
     (repeat refine awp_seq ?_); refine awp_ret ?_; refine And.intro (Or.inr rfl) ?_
     simp [retC, resC, viewC, mapO]
    ·simp [h0] at hd
   ·by_cases h9 : 9999 < x.seen
    ·refine pure_of (fn := Tryz.f11) [.tmp 4] ⟨Tryz.func11, rfl, by kernel_rfl⟩ (by kernel_rfl) (by kernel_rfl) (by kernel_rfl) fun x hx hσ => ?_
     (repeat refine awp_seq ?_); refine awp_reg1 (by rw [hx]; kernel_rfl) fun K hK => ?_; simp (maxSteps := 1000000) [ty28, ty47]; refine hK _ ?_; clear hK K; (first | show AWP _ _ _ _ _ | show ∃ _, _ | skip)
     (repeat refine awp_seq ?_); refine awp_reg1 (by rw [hx]; kernel_rfl) fun K hK => ?_; simp (maxSteps := 1000000) [ty28, ty47]
     refine callP (hF) (by first | (simp; done) | (simp [*]; done)) ?_; simp (maxSteps := 1000000) [ty4, ty28, ty47]
     refine callP (hasx) (by first | (simp; done) | (simp [*]; done)) ?_; simp (maxSteps := 1000000) [ty4, ty47, ty3, h0, h9]
     refine hK _ ?_; clear hK K; (first | show AWP _ _ _ _ _ | show ∃ _, _ | skip)
     (repeat refine awp_seq ?_); refine awp_cond (by simp [h9]; rfl) (by rw [hx]; simp) (fun hd => ?_) (fun hd => ?_)
     ·clear hd
      (repeat refine awp_seq ?_); refine awp_reg1 (by rw [hx]; kernel_rfl) fun K hK => ?_; simp (maxSteps := 1000000) []
      refine callP (works15) (by first | (simp; done) | (simp [*]; done)) ?_; simp (maxSteps := 1000000) []
      refine hK _ ?_; clear hK K; (first | show AWP _ _ _ _ _ | show ∃ _, _ | skip)
      (repeat refine awp_seq ?_); refine awp_ret ?_; refine And.intro (Or.inr rfl) ?_
      simp [retC, resC, viewC, mapO]
     ·simp [h9] at hd
    ·simp only [askB, Bool.and_eq_true, decide_eq_true_eq] at hk
     obtain ⟨⟨⟨⟨k1, k2⟩, k3⟩, k4⟩, k5⟩ := hk
     have hda : dayB w x.a = true := by simp [dayB]; omega
     have har : areaB x.area = true := by simp [areaB]; omega
     have har0 : areaB 0 = true := rfl
     have hcs : countB x.seen = true := by simp [countB]; omega
     have hcs0 : countB 0 = true := rfl
     have c1 := w_blame50 w x.a x.area x.seen hlen
     have c2 := w_real48 w x.a x.seen hlen
     have c3 := w_blame50 w x.a 0 0 hlen
     have c4 := w_errs46 w x.a x.area hlen
     have c5 := w_doubt25 w hlen
     have hkk := isKnown17 (openW w true)
     simp only [hda, har, har0, hcs, hcs0, Bool.and_self] at c1 c2 c3 c4
     have hRl : (realW w x.a x.seen).length ≤ 9001 := by
      unfold realW; split
      ·exact fixTo_len _ _
      ·simp
     rcases openW_known hck with hz | hz
     ·have hcan := (openW_ok hz).2.2
      have g1 : blameW w x.a x.area x.seen = blameL (onC (co w (gl w)) x.a []) x.area x.seen := by unfold blameW; rw [hda, har, hcs]; exact if_pos hz
      have g2 : realW w x.a x.seen = fixTo (fun a => (onC (co w (gl w)) x.a []).any fun g => seenA a g == x.seen) 9001 := by unfold realW; rw [hda, hcs]; exact if_pos hz
      have g3 : blameW w x.a 0 0 = 1 := by unfold blameW; rw [hda]; exact (if_pos hz).trans blame_zero
      have g4 : errW w x.a x.area = (mnI (errL (co w (gl w)) x.a x.area), mxI (errL (co w (gl w)) x.a x.area)) := by unfold errW; rw [hda, har]; exact if_pos hz
      have g5 : doubtW w = doubtC (co w (gl w)) [] := if_pos hz
      have hneA : onC (co w (gl w)) x.a [] ≠ [] := by
       have := on_ne_nil hcan (d := x.a.toNat) (by simp only; omega)
       rw [show ((x.a.toNat : Nat) : Int) = x.a by omega] at this
       exact this
      have hbl := blame_any hneA x.area x.seen
      have hrm := real_mem (onC (co w (gl w)) x.a []) x.seen (a := x.area) ⟨by omega, by omega⟩
      have hds := doubt_one hcan (by simp only; omega)
      have hin := l_in45 (realW w x.a x.seen).isEmpty false (realW w x.a x.seen) x.area (by omega)
      rw [g2, hrm] at hin
      have hem : ((onC (co w (gl w)) x.a []).any fun g => seenA x.area g == x.seen) = true → mnI (errL (co w (gl w)) x.a x.area) ≤ x.seen - x.area ∧ x.seen - x.area ≤ mxI (errL (co w (gl w)) x.a x.area) := fun h => by
       obtain ⟨g, hg, hs⟩ := List.any_eq_true.1 h
       rw [beq_iff_eq] at hs
       refine mnx_bd ?_
       unfold errL
       exact List.mem_map.2 ⟨g, hg, by rw [hs]⟩
      rw [g2] at hRl
      rw [g1, hz] at c1
      rw [g2, hz] at c2
      rw [g3, hz] at c3
      rw [g4, hz] at c4
      rw [g5, hz] at c5
      rw [hz] at hkk
      have hon : ∀ d : Nat, (d : Int) ≤ w.last → Pure Tryz.prog 18 [encWs w, encI d] (.tup [slI (onC (co w (gl w)) (d : Nat) []), encI 0]) := fun d hd => by
       have h := w_on18 w d hlen
       have hdd : dayB w (d : Nat) = true := by simp [dayB]; omega
       rw [hdd, hz] at h
       have e : onW w (d : Nat) = onC (co w (gl w)) (d : Nat) [] := by unfold onW; rw [hdd, if_pos hz]
       rw [e] at h
       exact h
      have hne : ∀ d : Nat, (d : Int) ≤ w.last → onC (co w (gl w)) (d : Nat) [] ≠ [] := fun d hd => on_ne_nil hcan (by simp only; omega)
      have hlb : ∀ d : Nat, (onC (co w (gl w)) (d : Nat) []).length ≤ 100 := fun d => by
       have := List.length_filter_le (onB (co w (gl w)) (d : Nat) []) (seqI (-w.gain) w.gain)
       have h2 : (seqI (-w.gain) w.gain).length = (w.gain - -w.gain + 1).toNat := seqN_len _ _
       unfold onC
       simp only
       omega
      simp only at hds
      clear g1 g2 g3 g4 g5 hrm hneA
      obtain ⟨s, hs⟩ : ∃ s : Int × Int, (mnI (errL (co w (gl w)) x.a x.area), mxI (errL (co w (gl w)) x.a x.area)) = s := ⟨_, rfl⟩
      rw [hs] at c4
      have hs1 : mnI (errL (co w (gl w)) x.a x.area) = s.1 := by rw [← hs]
      have hs2 : mxI (errL (co w (gl w)) x.a x.area) = s.2 := by rw [← hs]
      rw [hs1, hs2] at hem
      clear hs hs1 hs2
      generalize blameL (onC (co w (gl w)) x.a []) x.area x.seen = n at *
      generalize fixTo (fun a => (onC (co w (gl w)) x.a []).any fun g => seenA a g == x.seen) 9001 = R at *
      generalize ((onC (co w (gl w)) x.a []).any fun g => seenA x.area g == x.seen) = bb at *
      generalize doubtC (co w (gl w)) [] = dt at *
      obtain ⟨⟨n1, n2⟩, n3⟩ := hbl
      have m1 : ¬ n < 1 := by omega
      have m2 : ¬ 3 < n := by omega
      have m3 : ¬ (10000 : Int) < R.length := by omega
      have w1 : IntKind.i64.wrap (x.seen - x.area) = x.seen - x.area := wrap_id (by omega) (by omega)
      have e0 : ((0 : Int) != 0) = false := by decide
      rw [e0] at c2
      have hbne : ∀ b : Bool, (b != b) = false := fun b => by cases b <;> rfl
      have fin : ∀ b : Bool, b = bb → Pure Tryz.prog 11 [encWs w, encAs x] (.bool true) := by
       intro b hb
       subst hb
       have m4 : b = true → ¬ x.seen - x.area < s.1 ∧ ¬ s.2 < x.seen - x.area := fun h => by have := hem h; omega
       refine pure_of (fn := Tryz.f11) [.tmp 4] ⟨Tryz.func11, rfl, by kernel_rfl⟩ (by kernel_rfl) (by kernel_rfl) (by kernel_rfl) fun x hx hσ => ?_
       (repeat refine awp_seq ?_); refine awp_reg1 (by rw [hx]; kernel_rfl) fun K hK => ?_; simp (maxSteps := 1000000) [ty28, ty47]; refine hK _ ?_; clear hK K; (first | show AWP _ _ _ _ _ | show ∃ _, _ | skip)
       (repeat refine awp_seq ?_); refine awp_reg1 (by rw [hx]; kernel_rfl) fun K hK => ?_; simp (maxSteps := 1000000) [ty28, ty47]
       refine callP (hF) (by first | (simp; done) | (simp [*]; done)) ?_; simp (maxSteps := 1000000) [ty4, ty28, ty47]
       refine callP (hasx) (by first | (simp; done) | (simp [*]; done)) ?_; simp (maxSteps := 1000000) [ty4, ty47, ty3, h0, h9]
       refine hK _ ?_; clear hK K; (first | show AWP _ _ _ _ _ | show ∃ _, _ | skip)
       repeat refine awp_seq ?_
       refine awp_cond (by simp [h9]; rfl) (by rw [hx]; simp) (fun hd => absurd hd (by simp [h9])) (fun hd => ?_)
       clear hd
       refine awp_skip ?_; (first | show AWP _ _ _ _ _ | show ∃ _, _ | skip)
       (repeat refine awp_seq ?_); refine awp_reg1 (by rw [hx]; kernel_rfl) fun K hK => ?_; simp (maxSteps := 1000000) [ty28, ty47, ty3]
       refine callP (c1) (by first | (simp; done) | (simp [*]; done)) ?_; simp (maxSteps := 1000000) [ty3]
       refine hK _ ?_; clear hK K; (first | show AWP _ _ _ _ _ | show ∃ _, _ | skip)
       (repeat refine awp_seq ?_); refine awp_reg1 (by rw [hx]; kernel_rfl) fun K hK => ?_; simp (maxSteps := 1000000) [ty28, ty47, ty3]
       refine callP (c2) (by first | (simp; done) | (simp [*]; done)) ?_; simp (maxSteps := 1000000) [ty29]
       refine hK _ ?_; clear hK K; (first | show AWP _ _ _ _ _ | show ∃ _, _ | skip)
       (repeat refine awp_seq ?_); refine awp_reg1 (by rw [hx]; kernel_rfl) fun K hK => ?_; simp (maxSteps := 1000000) [ty28, ty47, ty3]
       refine callP (c3) (by first | (simp; done) | (simp [*]; done)) ?_; simp (maxSteps := 1000000) []
       refine hK _ ?_; clear hK K; (first | show AWP _ _ _ _ _ | show ∃ _, _ | skip)
       (repeat refine awp_seq ?_); refine awp_reg1 (by rw [hx]; kernel_rfl) fun K hK => ?_; simp (maxSteps := 1000000) [ty28, ty47, ty3, ty23]
       refine callP (c4) (by first | (simp; done) | (simp [*]; done)) ?_; simp (maxSteps := 1000000) [ty23]
       refine hK _ ?_; clear hK K; (first | show AWP _ _ _ _ _ | show ∃ _, _ | skip)
       (repeat refine awp_seq ?_); refine awp_reg1 (by rw [hx]; kernel_rfl) fun K hK => ?_; simp (maxSteps := 1000000) [ty28]
       refine callP (c5) (by first | (simp; done) | (simp [*]; done)) ?_; simp (maxSteps := 1000000) []
       refine hK _ ?_; clear hK K; (first | show AWP _ _ _ _ _ | show ∃ _, _ | skip)
       (repeat refine awp_seq ?_); refine awp_reg1 (by rw [hx]; kernel_rfl) fun K hK => ?_; simp (maxSteps := 1000000) [ty37]
       refine callP (hkk) (by first | (simp; done) | (simp [*]; done)) ?_; simp (maxSteps := 1000000) [ty4, ty37, ty29, ty3, m3]
       refine hK _ ?_; clear hK K; (first | show AWP _ _ _ _ _ | show ∃ _, _ | skip)
       repeat refine awp_seq ?_
       refine awp_cond (by simp [m3]; rfl) (by rw [hx]; simp) (fun hd => absurd hd (by simp [m3])) (fun hd => ?_)
       clear hd
       refine awp_skip ?_; (first | show AWP _ _ _ _ _ | show ∃ _, _ | skip)
       (repeat refine awp_seq ?_); refine awp_reg1 (by rw [hx]; kernel_rfl) fun K hK => ?_; simp (maxSteps := 1000000) [ty37]; refine hK _ ?_; clear hK K; (first | show AWP _ _ _ _ _ | show ∃ _, _ | skip)
       repeat refine awp_seq ?_
       refine awp_cond (by simp [m3]; rfl) (by rw [hx]; simp) (fun hd => absurd hd (by simp [m3])) (fun hd => ?_)
       clear hd
       refine awp_skip ?_; (first | show AWP _ _ _ _ _ | show ∃ _, _ | skip)
       cases b
       ·(repeat refine awp_seq ?_); refine awp_reg1 (by rw [hx]; kernel_rfl) fun K hK => ?_; simp (maxSteps := 1000000) [ty3, ty4, m1, m2, n3, ty47]
        refine callP (hin) (by first | (simp; done) | (simp [*]; done)) ?_; simp (maxSteps := 1000000) [ty3, ty4, n3, ty47, hbne]
        refine hK _ ?_; clear hK K; (first | show AWP _ _ _ _ _ | show ∃ _, _ | skip)
        repeat refine awp_seq ?_
        refine awp_cond (by simp [m2]; rfl) (by rw [hx]; simp) (fun hd => absurd hd (by simp [m2])) (fun hd => ?_)
        clear hd
        refine awp_skip ?_; (first | show AWP _ _ _ _ _ | show ∃ _, _ | skip)
        (repeat refine awp_seq ?_); refine awp_reg1 (by rw [hx]; kernel_rfl) fun K hK => ?_; simp (maxSteps := 1000000) [ty4]; refine hK _ ?_; clear hK K; (first | show AWP _ _ _ _ _ | show ∃ _, _ | skip)
        (repeat refine awp_seq ?_); refine awp_reg1 (by rw [hx]; kernel_rfl) fun K hK => ?_; simp (maxSteps := 1000000) [ty3]; refine hK _ ?_; clear hK K; (first | show AWP _ _ _ _ _ | show ∃ _, _ | skip)
        (repeat refine awp_seq ?_); refine awp_block ?_
        refine awp_loop (fun i : Nat => ⟨ofL [(2, .ptr 2 13 0 0), (13, encI dt), (15, .bool ((List.range i).all fun d => (onC (co w (gl w)) (d : Nat) []).length == 1)), (16, encI i)], stoT [(2, 2, .live (obWs w))]⟩)
         (fun i => (i : Int) ≤ w.last + 1) (fun i => (w.last + 1).toNat - i) 0 (by show ((0 : Nat) : Int) ≤ w.last + 1; omega) ?_ ?_
        ·simp only [List.range_zero, List.all_nil]
         refine wk_shape (shp0 hσ (by simp) (by simp) ?_) ?_
         ·simp [SlotOk] <;> (repeat' (first | exact .same (by simp [purel, C.isPure]) | exact .cons (by simp [mtl, mtc, mT, mH, C.isPure, purel]) (by simp) .nil | refine And.intro ?_ ?_))
         ·simp [mtc, mtl, mT, C.isPure, purel] <;> (try simp (disch := omega) [wrap_id]) <;> (try omega)
        ·intro i hi
         have hwi : IntKind.i64.wrap ((i : Int) + 1) = (i : Int) + 1 := wrap_id (by omega) (by omega)
         by_cases hil : (i : Int) ≤ w.last
         ·(repeat refine awp_seq ?_); refine awp_reg1 (by rw [hx]; kernel_rfl) fun K hK => ?_; simp (maxSteps := 1000000) [ty28, ty3, hil]; refine hK _ ?_; clear hK K; (first | show AWP _ _ _ _ _ | show ∃ _, _ | skip)
          (repeat refine awp_seq ?_); refine awp_cond (by simp [hil]; rfl) (by rw [hx]; simp) (fun hc => ?_) (fun hc => ?_)
          ·clear hc
           refine awp_skip ?_; (first | show AWP _ _ _ _ _ | show ∃ _, _ | skip)
           (repeat refine awp_seq ?_); refine awp_block ?_
           have hon1 := hon i hil
           have hne1 := hne i hil
           have hlb1 := hlb i
           have hst : (List.range (i + 1)).all (fun d => (onC (co w (gl w)) (d : Nat) []).length == 1) = ((List.range i).all (fun d => (onC (co w (gl w)) (d : Nat) []).length == 1) && ((onC (co w (gl w)) (i : Nat) []).length == 1)) := by
            rw [List.range_succ, List.all_append]; simp
           generalize onC (co w (gl w)) (i : Nat) [] = L at *
           have hp1 : 0 < L.length := List.length_pos_iff.2 hne1
           have q1 : ((L.length : Int) == 0) = false := by rw [beq_eq_false_iff_ne]; omega
           have q2 : ¬ (100 : Int) < L.length := by omega
           have q3 : ((L.length : Int) == 1) = (L.length == 1) := by rw [Bool.eq_iff_iff, beq_iff_eq, beq_iff_eq]; omega
           (repeat refine awp_seq ?_); refine awp_reg1 (by rw [hx]; kernel_rfl) fun K hK => ?_; simp (maxSteps := 1000000) [ty28, ty3]
           refine callP (hon1) (by first | (simp; done) | (simp [*]; done)) ?_; simp (maxSteps := 1000000) [ty29]
           refine hK _ ?_; clear hK K; (first | show AWP _ _ _ _ _ | show ∃ _, _ | skip)
           (repeat refine awp_seq ?_); refine awp_reg1 (by rw [hx]; kernel_rfl) fun K hK => ?_; simp (maxSteps := 1000000) [ty37, ty29, ty3, ty4, q1, q2]; refine hK _ ?_; clear hK K; (first | show AWP _ _ _ _ _ | show ∃ _, _ | skip)
           repeat refine awp_seq ?_
           refine awp_cond (by simp [q2]; rfl) (by rw [hx]; simp) (fun hd => absurd hd (by simp [q2])) (fun hd => ?_)
           clear hd
           refine awp_skip ?_; (first | show AWP _ _ _ _ _ | show ∃ _, _ | skip)
           cases hpre : (List.range i).all (fun d => (onC (co w (gl w)) (d : Nat) []).length == 1)
           ·rw [hpre] at hst
            simp only [Bool.false_and] at hst
            (repeat refine awp_seq ?_); refine awp_reg1 (by rw [hx]; kernel_rfl) fun K hK => ?_; simp (maxSteps := 1000000) [ty29, ty3, ty4]; refine hK _ ?_; clear hK K; (first | show AWP _ _ _ _ _ | show ∃ _, _ | skip)
            (repeat refine awp_seq ?_); refine awp_reg1 (by rw [hx]; kernel_rfl) fun K hK => ?_; simp (maxSteps := 1000000) [ty3, hwi]; refine hK _ ?_; clear hK K; (first | show AWP _ _ _ _ _ | show ∃ _, _ | skip)
            refine ⟨i + 1, by omega, by omega, ?_⟩
            rw [hst]
            refine wk_shape (shp0 hσ (by simp) (by simp) ?_) ?_
            ·simp [SlotOk] <;> (repeat' (first | exact .same (by simp [purel, C.isPure]) | exact .cons (by simp [mtl, mtc, mT, mH, C.isPure, purel]) (by simp) .nil | refine And.intro ?_ ?_))
            ·simp [mtc, mtl, mT, C.isPure, purel] <;> (try simp (disch := omega) [wrap_id]) <;> (try omega)
           ·rw [hpre] at hst
            simp only [Bool.true_and] at hst
            rw [← q3] at hst
            (repeat refine awp_seq ?_); refine awp_reg1 (by rw [hx]; kernel_rfl) fun K hK => ?_; simp (maxSteps := 1000000) [ty29, ty3, ty4]; refine hK _ ?_; clear hK K; (first | show AWP _ _ _ _ _ | show ∃ _, _ | skip)
            (repeat refine awp_seq ?_); refine awp_reg1 (by rw [hx]; kernel_rfl) fun K hK => ?_; simp (maxSteps := 1000000) [ty3, hwi]; refine hK _ ?_; clear hK K; (first | show AWP _ _ _ _ _ | show ∃ _, _ | skip)
            refine ⟨i + 1, by omega, by omega, ?_⟩
            rw [hst]
            refine wk_shape (shp0 hσ (by simp) (by simp) ?_) ?_
            ·simp [SlotOk] <;> (repeat' (first | exact .same (by simp [purel, C.isPure]) | exact .cons (by simp [mtl, mtc, mT, mH, C.isPure, purel]) (by simp) .nil | refine And.intro ?_ ?_))
            ·simp [mtc, mtl, mT, C.isPure, purel] <;> (try simp (disch := omega) [wrap_id]) <;> (try omega)
          ·simp [hil] at hc
         ·(repeat refine awp_seq ?_); refine awp_reg1 (by rw [hx]; kernel_rfl) fun K hK => ?_; simp (maxSteps := 1000000) [ty28, ty3, hil]; refine hK _ ?_; clear hK K; (first | show AWP _ _ _ _ _ | show ∃ _, _ | skip)
          (repeat refine awp_seq ?_); refine awp_cond (by simp [hil]; rfl) (by rw [hx]; simp) (fun hc => ?_) (fun hc => ?_)
          ·simp [hil] at hc
          ·clear hc
           (repeat refine awp_seq ?_); refine awp_exit ?_; (first | show AWP _ _ _ _ _ | show ∃ _, _ | skip)
           have hiN : i = w.last.toNat + 1 := by omega
           rw [hiN, ← hds]
           have hbe : ∀ b : Bool, (b == b) = true := fun b => by cases b <;> rfl
           (repeat refine awp_seq ?_); refine awp_reg1 (by rw [hx]; kernel_rfl) fun K hK => ?_; simp (maxSteps := 1000000) [ty3, ty4, hbe]
           refine callP (works15) (by first | (simp; done) | (simp [*]; done)) ?_; simp (maxSteps := 1000000) [ty4]
           refine hK _ ?_; clear hK K; (first | show AWP _ _ _ _ _ | show ∃ _, _ | skip)
           (repeat refine awp_seq ?_); refine awp_ret ?_; refine And.intro (Or.inr rfl) ?_
           simp [retC, resC, viewC, mapO]
       ·obtain ⟨m5, m6⟩ := m4 rfl
        (repeat refine awp_seq ?_); refine awp_reg1 (by rw [hx]; kernel_rfl) fun K hK => ?_; simp (maxSteps := 1000000) [ty3, ty4, m1, m2, n3, ty47]
        refine callP (hin) (by first | (simp; done) | (simp [*]; done)) ?_; simp (maxSteps := 1000000) [ty3, ty4, n3, ty47, ty23, hbne, w1, m5, m6]
        refine hK _ ?_; clear hK K; (first | show AWP _ _ _ _ _ | show ∃ _, _ | skip)
        repeat refine awp_seq ?_
        refine awp_cond (by simp [m2]; rfl) (by rw [hx]; simp) (fun hd => absurd hd (by simp [m2])) (fun hd => ?_)
        clear hd
        refine awp_skip ?_; (first | show AWP _ _ _ _ _ | show ∃ _, _ | skip)
        (repeat refine awp_seq ?_); refine awp_reg1 (by rw [hx]; kernel_rfl) fun K hK => ?_; simp (maxSteps := 1000000) [ty4]; refine hK _ ?_; clear hK K; (first | show AWP _ _ _ _ _ | show ∃ _, _ | skip)
        (repeat refine awp_seq ?_); refine awp_reg1 (by rw [hx]; kernel_rfl) fun K hK => ?_; simp (maxSteps := 1000000) [ty3]; refine hK _ ?_; clear hK K; (first | show AWP _ _ _ _ _ | show ∃ _, _ | skip)
        (repeat refine awp_seq ?_); refine awp_block ?_
        refine awp_loop (fun i : Nat => ⟨ofL [(2, .ptr 2 13 0 0), (13, encI dt), (15, .bool ((List.range i).all fun d => (onC (co w (gl w)) (d : Nat) []).length == 1)), (16, encI i)], stoT [(2, 2, .live (obWs w))]⟩)
         (fun i => (i : Int) ≤ w.last + 1) (fun i => (w.last + 1).toNat - i) 0 (by show ((0 : Nat) : Int) ≤ w.last + 1; omega) ?_ ?_
        ·simp only [List.range_zero, List.all_nil]
         refine wk_shape (shp0 hσ (by simp) (by simp) ?_) ?_
         ·simp [SlotOk] <;> (repeat' (first | exact .same (by simp [purel, C.isPure]) | exact .cons (by simp [mtl, mtc, mT, mH, C.isPure, purel]) (by simp) .nil | refine And.intro ?_ ?_))
         ·simp [mtc, mtl, mT, C.isPure, purel] <;> (try simp (disch := omega) [wrap_id]) <;> (try omega)
        ·intro i hi
         have hwi : IntKind.i64.wrap ((i : Int) + 1) = (i : Int) + 1 := wrap_id (by omega) (by omega)
         by_cases hil : (i : Int) ≤ w.last
         ·(repeat refine awp_seq ?_); refine awp_reg1 (by rw [hx]; kernel_rfl) fun K hK => ?_; simp (maxSteps := 1000000) [ty28, ty3, hil]; refine hK _ ?_; clear hK K; (first | show AWP _ _ _ _ _ | show ∃ _, _ | skip)
          (repeat refine awp_seq ?_); refine awp_cond (by simp [hil]; rfl) (by rw [hx]; simp) (fun hc => ?_) (fun hc => ?_)
          ·clear hc
           refine awp_skip ?_; (first | show AWP _ _ _ _ _ | show ∃ _, _ | skip)
           (repeat refine awp_seq ?_); refine awp_block ?_
           have hon1 := hon i hil
           have hne1 := hne i hil
           have hlb1 := hlb i
           have hst : (List.range (i + 1)).all (fun d => (onC (co w (gl w)) (d : Nat) []).length == 1) = ((List.range i).all (fun d => (onC (co w (gl w)) (d : Nat) []).length == 1) && ((onC (co w (gl w)) (i : Nat) []).length == 1)) := by
            rw [List.range_succ, List.all_append]; simp
           generalize onC (co w (gl w)) (i : Nat) [] = L at *
           have hp1 : 0 < L.length := List.length_pos_iff.2 hne1
           have q1 : ((L.length : Int) == 0) = false := by rw [beq_eq_false_iff_ne]; omega
           have q2 : ¬ (100 : Int) < L.length := by omega
           have q3 : ((L.length : Int) == 1) = (L.length == 1) := by rw [Bool.eq_iff_iff, beq_iff_eq, beq_iff_eq]; omega
           (repeat refine awp_seq ?_); refine awp_reg1 (by rw [hx]; kernel_rfl) fun K hK => ?_; simp (maxSteps := 1000000) [ty28, ty3]
           refine callP (hon1) (by first | (simp; done) | (simp [*]; done)) ?_; simp (maxSteps := 1000000) [ty29]
           refine hK _ ?_; clear hK K; (first | show AWP _ _ _ _ _ | show ∃ _, _ | skip)
           (repeat refine awp_seq ?_); refine awp_reg1 (by rw [hx]; kernel_rfl) fun K hK => ?_; simp (maxSteps := 1000000) [ty37, ty29, ty3, ty4, q1, q2]; refine hK _ ?_; clear hK K; (first | show AWP _ _ _ _ _ | show ∃ _, _ | skip)
           repeat refine awp_seq ?_
           refine awp_cond (by simp [q2]; rfl) (by rw [hx]; simp) (fun hd => absurd hd (by simp [q2])) (fun hd => ?_)
           clear hd
           refine awp_skip ?_; (first | show AWP _ _ _ _ _ | show ∃ _, _ | skip)
           cases hpre : (List.range i).all (fun d => (onC (co w (gl w)) (d : Nat) []).length == 1)
           ·rw [hpre] at hst
            simp only [Bool.false_and] at hst
            (repeat refine awp_seq ?_); refine awp_reg1 (by rw [hx]; kernel_rfl) fun K hK => ?_; simp (maxSteps := 1000000) [ty29, ty3, ty4]; refine hK _ ?_; clear hK K; (first | show AWP _ _ _ _ _ | show ∃ _, _ | skip)
            (repeat refine awp_seq ?_); refine awp_reg1 (by rw [hx]; kernel_rfl) fun K hK => ?_; simp (maxSteps := 1000000) [ty3, hwi]; refine hK _ ?_; clear hK K; (first | show AWP _ _ _ _ _ | show ∃ _, _ | skip)
            refine ⟨i + 1, by omega, by omega, ?_⟩
            rw [hst]
            refine wk_shape (shp0 hσ (by simp) (by simp) ?_) ?_
            ·simp [SlotOk] <;> (repeat' (first | exact .same (by simp [purel, C.isPure]) | exact .cons (by simp [mtl, mtc, mT, mH, C.isPure, purel]) (by simp) .nil | refine And.intro ?_ ?_))
            ·simp [mtc, mtl, mT, C.isPure, purel] <;> (try simp (disch := omega) [wrap_id]) <;> (try omega)
           ·rw [hpre] at hst
            simp only [Bool.true_and] at hst
            rw [← q3] at hst
            (repeat refine awp_seq ?_); refine awp_reg1 (by rw [hx]; kernel_rfl) fun K hK => ?_; simp (maxSteps := 1000000) [ty29, ty3, ty4]; refine hK _ ?_; clear hK K; (first | show AWP _ _ _ _ _ | show ∃ _, _ | skip)
            (repeat refine awp_seq ?_); refine awp_reg1 (by rw [hx]; kernel_rfl) fun K hK => ?_; simp (maxSteps := 1000000) [ty3, hwi]; refine hK _ ?_; clear hK K; (first | show AWP _ _ _ _ _ | show ∃ _, _ | skip)
            refine ⟨i + 1, by omega, by omega, ?_⟩
            rw [hst]
            refine wk_shape (shp0 hσ (by simp) (by simp) ?_) ?_
            ·simp [SlotOk] <;> (repeat' (first | exact .same (by simp [purel, C.isPure]) | exact .cons (by simp [mtl, mtc, mT, mH, C.isPure, purel]) (by simp) .nil | refine And.intro ?_ ?_))
            ·simp [mtc, mtl, mT, C.isPure, purel] <;> (try simp (disch := omega) [wrap_id]) <;> (try omega)
          ·simp [hil] at hc
         ·(repeat refine awp_seq ?_); refine awp_reg1 (by rw [hx]; kernel_rfl) fun K hK => ?_; simp (maxSteps := 1000000) [ty28, ty3, hil]; refine hK _ ?_; clear hK K; (first | show AWP _ _ _ _ _ | show ∃ _, _ | skip)
          (repeat refine awp_seq ?_); refine awp_cond (by simp [hil]; rfl) (by rw [hx]; simp) (fun hc => ?_) (fun hc => ?_)
          ·simp [hil] at hc
          ·clear hc
           (repeat refine awp_seq ?_); refine awp_exit ?_; (first | show AWP _ _ _ _ _ | show ∃ _, _ | skip)
           have hiN : i = w.last.toNat + 1 := by omega
           rw [hiN, ← hds]
           have hbe : ∀ b : Bool, (b == b) = true := fun b => by cases b <;> rfl
           (repeat refine awp_seq ?_); refine awp_reg1 (by rw [hx]; kernel_rfl) fun K hK => ?_; simp (maxSteps := 1000000) [ty3, ty4, hbe]
           refine callP (works15) (by first | (simp; done) | (simp [*]; done)) ?_; simp (maxSteps := 1000000) [ty4]
           refine hK _ ?_; clear hK K; (first | show AWP _ _ _ _ _ | show ∃ _, _ | skip)
           (repeat refine awp_seq ?_); refine awp_ret ?_; refine And.intro (Or.inr rfl) ?_
           simp [retC, resC, viewC, mapO]
      exact fin _ rfl
     ·rw [hz] at c1 c2 c3 c4 c5 hkk
      have m3 : ¬ (10000 : Int) < (realW w x.a x.seen).length := by omega
      have e0 : ((3 : Int) != 0) = true := by decide
      rw [e0] at c2
      generalize realW w x.a x.seen = R at *
      refine pure_of (fn := Tryz.f11) [.tmp 4] ⟨Tryz.func11, rfl, by kernel_rfl⟩ (by kernel_rfl) (by kernel_rfl) (by kernel_rfl) fun x hx hσ => ?_
      (repeat refine awp_seq ?_); refine awp_reg1 (by rw [hx]; kernel_rfl) fun K hK => ?_; simp (maxSteps := 1000000) [ty28, ty47]; refine hK _ ?_; clear hK K; (first | show AWP _ _ _ _ _ | show ∃ _, _ | skip)
      (repeat refine awp_seq ?_); refine awp_reg1 (by rw [hx]; kernel_rfl) fun K hK => ?_; simp (maxSteps := 1000000) [ty28, ty47]
      refine callP (hF) (by first | (simp; done) | (simp [*]; done)) ?_; simp (maxSteps := 1000000) [ty4, ty28, ty47]
      refine callP (hasx) (by first | (simp; done) | (simp [*]; done)) ?_; simp (maxSteps := 1000000) [ty4, ty47, ty3, h0, h9]
      refine hK _ ?_; clear hK K; (first | show AWP _ _ _ _ _ | show ∃ _, _ | skip)
      repeat refine awp_seq ?_
      refine awp_cond (by simp [h9]; rfl) (by rw [hx]; simp) (fun hd => absurd hd (by simp [h9])) (fun hd => ?_)
      clear hd
      refine awp_skip ?_; (first | show AWP _ _ _ _ _ | show ∃ _, _ | skip)
      (repeat refine awp_seq ?_); refine awp_reg1 (by rw [hx]; kernel_rfl) fun K hK => ?_; simp (maxSteps := 1000000) [ty28, ty47, ty3]
      refine callP (c1) (by first | (simp; done) | (simp [*]; done)) ?_; simp (maxSteps := 1000000) [ty3]
      refine hK _ ?_; clear hK K; (first | show AWP _ _ _ _ _ | show ∃ _, _ | skip)
      (repeat refine awp_seq ?_); refine awp_reg1 (by rw [hx]; kernel_rfl) fun K hK => ?_; simp (maxSteps := 1000000) [ty28, ty47, ty3]
      refine callP (c2) (by first | (simp; done) | (simp [*]; done)) ?_; simp (maxSteps := 1000000) [ty29]
      refine hK _ ?_; clear hK K; (first | show AWP _ _ _ _ _ | show ∃ _, _ | skip)
      (repeat refine awp_seq ?_); refine awp_reg1 (by rw [hx]; kernel_rfl) fun K hK => ?_; simp (maxSteps := 1000000) [ty28, ty47, ty3]
      refine callP (c3) (by first | (simp; done) | (simp [*]; done)) ?_; simp (maxSteps := 1000000) []
      refine hK _ ?_; clear hK K; (first | show AWP _ _ _ _ _ | show ∃ _, _ | skip)
      (repeat refine awp_seq ?_); refine awp_reg1 (by rw [hx]; kernel_rfl) fun K hK => ?_; simp (maxSteps := 1000000) [ty28, ty47, ty3, ty23]
      refine callP (c4) (by first | (simp; done) | (simp [*]; done)) ?_; simp (maxSteps := 1000000) [ty23]
      refine hK _ ?_; clear hK K; (first | show AWP _ _ _ _ _ | show ∃ _, _ | skip)
      (repeat refine awp_seq ?_); refine awp_reg1 (by rw [hx]; kernel_rfl) fun K hK => ?_; simp (maxSteps := 1000000) [ty28]
      refine callP (c5) (by first | (simp; done) | (simp [*]; done)) ?_; simp (maxSteps := 1000000) []
      refine hK _ ?_; clear hK K; (first | show AWP _ _ _ _ _ | show ∃ _, _ | skip)
      (repeat refine awp_seq ?_); refine awp_reg1 (by rw [hx]; kernel_rfl) fun K hK => ?_; simp (maxSteps := 1000000) [ty37]
      refine callP (hkk) (by first | (simp; done) | (simp [*]; done)) ?_; simp (maxSteps := 1000000) [ty4, ty37, ty29, ty3, m3]
      refine hK _ ?_; clear hK K; (first | show AWP _ _ _ _ _ | show ∃ _, _ | skip)
      repeat refine awp_seq ?_
      refine awp_cond (by simp [m3]; rfl) (by rw [hx]; simp) (fun hd => absurd hd (by simp [m3])) (fun hd => ?_)
      clear hd
      refine awp_skip ?_; (first | show AWP _ _ _ _ _ | show ∃ _, _ | skip)
      (repeat refine awp_seq ?_); refine awp_reg1 (by rw [hx]; kernel_rfl) fun K hK => ?_; simp (maxSteps := 1000000) [ty37]; refine hK _ ?_; clear hK K; (first | show AWP _ _ _ _ _ | show ∃ _, _ | skip)
      (repeat refine awp_seq ?_); refine awp_cond (by simp [m3]; rfl) (by rw [hx]; simp) (fun hd => ?_) (fun hd => ?_)
      ·clear hd
       (repeat refine awp_seq ?_); refine awp_reg1 (by rw [hx]; kernel_rfl) fun K hK => ?_; simp (maxSteps := 1000000) []
       refine callP (works15) (by first | (simp; done) | (simp [*]; done)) ?_; simp (maxSteps := 1000000) []
       refine hK _ ?_; clear hK K; (first | show AWP _ _ _ _ _ | show ∃ _, _ | skip)
       (repeat refine awp_seq ?_); refine awp_ret ?_; refine And.intro (Or.inr rfl) ?_
       simp [retC, resC, viewC, mapO]
      ·simp [m3] at hd

open Go.ChangeShapes Go.WideShapes Go.ChangeAt Go.RowKit

set_option maxRecDepth 100000 in
theorem wearBlame_lifted (os : Os) (started : os.Started) (H : Type) (enc : TypeId × Value → H) :
  ReturnsInHanded {} Tryz.checked os 11 .any (Rows.wearBlameSpec.pre6 enc Tryz.prog Tryz.f11 Rows.wearBlameRow.domain false) (Rows.wearBlameSpec.post enc Tryz.prog Tryz.f11 false true false false) := by
 refine returnsInHanded_of_change (C := Tryz.checked) J.own started (by kernel_rfl) Tryz.func11
  (ChangeSpec.witness6 (enc := enc) (C := Tryz.checked) false ⟨#[], #[.agg #[.int .i64 0, .int .i64 0, .int .i64 0, .int .i64 0, .int .i64 0, .int .i64 0, .int .i64 0, .int .i64 0, .int .i64 0, .int .i64 0, .int .i64 0, .slice none 0 0, .int .i64 0], .agg #[.int .i64 0, .int .i64 0, .int .i64 0, .int .i64 0]], []⟩ 8 (by kernel_rfl) (by kernel_rfl) (by kernel_rfl) (by kernel_rfl)) ?_
 intro W base args ds gs before hval hW _ _
 refine law_contract (P := Tryz.prog) (tb := 4) (by kernel_rfl) J.ub rfl (fun ds hl => ?_) J.laid J.maps J.sized (by kernel_rfl) (by kernel_rfl) (fun cargs hc => ?_) W base args ds gs before hval hW
 ·have h2 : ds.length = 2 := hl
  match ds, h2 with
  | [_, _], _ => rfl
 ·rw [Tryz.params11] at hc
  obtain ⟨w, r, rfl, hc1⟩ := argWear hc
  obtain ⟨x, r1, rfl, hc2⟩ := argAsk hc1
  obtain rfl := arg_end hc2
  exact law11 w x

theorem wearBlame_holds : Rows.WearBlameSaid :=
 OpenClaim.holds_of_wide 11 Tryz.f11 rfl rfl rfl rfl rfl rfl rfl ⟨rfl, rfl, rfl, rfl, rfl⟩ rfl rfl rfl rfl rfl (by kernel_rfl) Tryz.func11 (by kernel_rfl)
  (of_decide_eq_true (by kernel_rfl)) (by unfold Func.isWrapper; first | (rw [if_pos (by decide +kernel)]; kernel_rfl) | (rw [if_neg (by decide +kernel)]; exact ⟨rfl, rfl⟩))
  (fun os started H enc _ => wearBlame_lifted os started H enc)
#print axioms wearBlame_holds
end Go.Proofs.YtknoachjpoibaaaGreat

