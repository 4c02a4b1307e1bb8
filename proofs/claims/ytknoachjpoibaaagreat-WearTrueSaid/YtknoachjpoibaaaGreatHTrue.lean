/- For every input the law WearTrue returns true, and each argument reads afterwards as it read before. No condition. -/
import Derived.Test.YtknoachjpoibaaaGreatB6

set_option linter.unusedSimpArgs false
set_option linter.unusedVariables false
set_option linter.constructorNameAsVariable false

namespace Go.Proofs.YtknoachjpoibaaaGreat
open Go Go.Abs

set_option maxHeartbeats 16000000
set_option maxRecDepth 20000




theorem law12 (w : Ws) (nl fu : Bool) (l : List Int) (x : As) : Pure Tryz.prog 12 [encWs w, .sl nl fu (l.map cI), encAs x] (.bool true) := by
 obtain ⟨f, hF, hf⟩ := ready13 w
 cases f
 ·refine ZF (fn := Tryz.f12) [.tmp 6] ⟨Tryz.func12, rfl, by kernel_rfl⟩ fun x hx hσ => ?_
  (repeat refine ZQ ?_); refine ZR fun K hK => ?_; simp (maxSteps := 1000000) [ty28, ty47]; refine hK _ ?_; clear hK K
  (repeat refine ZQ ?_); refine ZR fun K hK => ?_; simp (maxSteps := 1000000) [ty28, ty47]
  refine ZP (hF) ?_; simp (maxSteps := 1000000) [ty4]
  refine hK _ ?_; clear hK K
  (repeat refine ZQ ?_); refine ZC (hc := by simp [hf]; rfl) (fun hd => ?_) (fun hd => ?_)
  ·clear hd
   (repeat refine ZQ ?_); refine ZR fun K hK => ?_; simp (maxSteps := 1000000)
   refine ZP (works15) ?_; simp (maxSteps := 1000000)
   refine hK _ ?_; clear hK K
   (repeat refine ZQ ?_); refine awp_ret ?_; refine And.intro (Or.inr rfl) ?_
   simp [retC, resC, viewC, mapO]
  ·simp [hf] at hd
 ·obtain ⟨hck, hnear⟩ := hf rfl
  have hok := checkW_ok.1 hck
  have hlen := hnear.len
  have hsm := hnear.small hck
  have hla := hok.last
  have hgn := hok.num.gain
  have hasx := isAsk21 w x
  by_cases h40 : (40 : Int) < l.length
  ·refine ZF (fn := Tryz.f12) [.tmp 6] ⟨Tryz.func12, rfl, by kernel_rfl⟩ fun x hx hσ => ?_
   (repeat refine ZQ ?_); refine ZR fun K hK => ?_; simp (maxSteps := 1000000) [ty28, ty47]; refine hK _ ?_; clear hK K
   (repeat refine ZQ ?_); refine ZR fun K hK => ?_; simp (maxSteps := 1000000) [ty28, ty47]
   refine ZP (hF) ?_; simp (maxSteps := 1000000) [ty4, ty29, ty3, h40]
   refine hK _ ?_; clear hK K
   (repeat refine ZQ ?_); refine ZC (hc := by simp [h40]; rfl) (fun hd => ?_) (fun hd => ?_)
   ·clear hd
    (repeat refine ZQ ?_); refine ZR fun K hK => ?_; simp (maxSteps := 1000000)
    refine ZP (works15) ?_; simp (maxSteps := 1000000)
    refine hK _ ?_; clear hK K
    (repeat refine ZQ ?_); refine awp_ret ?_; refine And.intro (Or.inr rfl) ?_
    simp [retC, resC, viewC, mapO]
   ·simp [h40] at hd
  ·have htr := q_isTruth20 w nl fu l hlen hok (by omega)
   cases hk : askB w x
   ·rw [hk] at hasx
    refine ZF (fn := Tryz.f12) [.tmp 6] ⟨Tryz.func12, rfl, by kernel_rfl⟩ fun x hx hσ => ?_
    (repeat refine ZQ ?_); refine ZR fun K hK => ?_; simp (maxSteps := 1000000) [ty28, ty47]; refine hK _ ?_; clear hK K
    (repeat refine ZQ ?_); refine ZR fun K hK => ?_; simp (maxSteps := 1000000) [ty28, ty47]
    refine ZP (hF) ?_; simp (maxSteps := 1000000) [ty4, ty29, ty3, h40, ty28, ty47]
    refine ZP (hasx) ?_; simp (maxSteps := 1000000) [ty4]
    refine hK _ ?_; clear hK K
    (repeat refine ZQ ?_); refine ZC (hc := by simp [hk]; rfl) (fun hd => ?_) (fun hd => ?_)
    ·clear hd
     (repeat refine ZQ ?_); refine ZR fun K hK => ?_; simp (maxSteps := 1000000)
     refine ZP (works15) ?_; simp (maxSteps := 1000000)
     refine hK _ ?_; clear hK K
     (repeat refine ZQ ?_); refine awp_ret ?_; refine And.intro (Or.inr rfl) ?_
     simp [retC, resC, viewC, mapO]
    ·simp [hk] at hd
   ·rw [hk] at hasx
    cases ht : isTruB w l
    ·rw [ht] at htr
     refine ZF (fn := Tryz.f12) [.tmp 6] ⟨Tryz.func12, rfl, by kernel_rfl⟩ fun x hx hσ => ?_
     (repeat refine ZQ ?_); refine ZR fun K hK => ?_; simp (maxSteps := 1000000) [ty28, ty47]; refine hK _ ?_; clear hK K
     (repeat refine ZQ ?_); refine ZR fun K hK => ?_; simp (maxSteps := 1000000) [ty28, ty47]
     refine ZP (hF) ?_; simp (maxSteps := 1000000) [ty4, ty29, ty3, h40, ty28, ty47]
     refine ZP (hasx) ?_; simp (maxSteps := 1000000) [ty4, ty28]
     refine ZP (htr) ?_; simp (maxSteps := 1000000) [ty4]
     refine hK _ ?_; clear hK K
     (repeat refine ZQ ?_); refine ZC (hc := by simp [ht]; rfl) (fun hd => ?_) (fun hd => ?_)
     ·clear hd
      (repeat refine ZQ ?_); refine ZR fun K hK => ?_; simp (maxSteps := 1000000)
      refine ZP (works15) ?_; simp (maxSteps := 1000000)
      refine hK _ ?_; clear hK K
      (repeat refine ZQ ?_); refine awp_ret ?_; refine And.intro (Or.inr rfl) ?_
      simp [retC, resC, viewC, mapO]
     ·simp [ht] at hd
    ·rw [ht] at htr
     simp only [askB, Bool.and_eq_true, decide_eq_true_eq] at hk
     obtain ⟨⟨⟨⟨k1, k2⟩, k3⟩, k4⟩, k5⟩ := hk
     obtain ⟨t1, t2⟩ := (isTruB_iff hok).1 ht
     have hcan : canC (co w (gl w)) [] = true := (can_nil _).2 ⟨_, t2⟩
     have hz : openW w true = 0 := openW_true' hck hcan
     obtain ⟨a, ha⟩ : ∃ a : Nat, x.a = a := ⟨x.a.toNat, by omega⟩
     obtain ⟨b, hb⟩ : ∃ b : Nat, x.b = b := ⟨x.b.toNat, by omega⟩
     have hal : a < l.length := by omega
     have hbl : b < l.length := by omega
     have hrga := alC_bd (t2.1.1 a (by simp only; omega))
     have hrgb := alC_bd (t2.1.1 b (by simp only; omega))
     rw [pF_at hal] at hrga
     rw [pF_at hbl] at hrgb
     simp only at hrga hrgb
     have hm0 : l[a] ∈ onC (co w (gl w)) (a : Nat) [] := (on_nil _ a (by simp only; omega) _).2 ⟨_, t2, pF_at hal⟩
     have hdr := drift_has t2 (show a ≤ b by omega) (by simp only; omega)
     rw [pF_at hal, pF_at hbl] at hdr
     obtain ⟨sn, hsn⟩ : ∃ sn, seenA x.area l[a] = sn := ⟨_, rfl⟩
     have hsnb : 0 ≤ sn ∧ sn ≤ 9999 := by
      have h1 : -27000 ≤ x.area * l[a] ∧ x.area * l[a] ≤ 27000 := by
       constructor
       ·have : x.area * (-3) ≤ x.area * l[a] := Int.mul_le_mul_of_nonneg_left (by omega) k4
        omega
       ·have : x.area * l[a] ≤ x.area * 3 := Int.mul_le_mul_of_nonneg_left (by omega) k4
        omega
      have h2 : x.area * (-3) ≤ x.area * l[a] := Int.mul_le_mul_of_nonneg_left (by omega) k4
      rw [← hsn]
      unfold seenA
      generalize x.area * l[a] = m at *
      omega
     have hcal := q_seen25 x.area l[a] ⟨k4, k5⟩ (by omega)
     rw [hsn] at hcal
     have hda : dayB w x.a = true := by simp [dayB]; omega
     have hdb : dayB w x.b = true := by simp [dayB]; omega
     have hab : isAB w x.a x.b = true := by unfold isAB; rw [hda, hdb, decide_eq_true k2]; rfl
     have har : areaB x.area = true := by simp [areaB]; omega
     have hcs : countB sn = true := by simp [countB]; omega
     have c1 := w_on18 w x.a hlen
     have c2 := w_drift22 w x.a x.b hlen
     have c3 := w_errs46 w x.a x.area hlen
     have c4 := w_real48 w x.a sn hlen
     have c5 := w_blame50 w x.a x.area sn hlen
     have c6 := fewest33 w hlen
     have c7 := w_strange28 w hlen
     have e0 : ((0 : Int) != 0) = false := by decide
     simp only [hda, hab, har, hcs, Bool.and_self, hz, hck, e0] at c1 c2 c3 c4 c5 c6 c7
     have g1 : onW w x.a = onC (co w (gl w)) x.a [] := by unfold onW; rw [hda]; exact if_pos hz
     have g2 : driftW w x.a x.b = driftL (co w (gl w)) x.a x.b := by unfold driftW; rw [hab]; exact if_pos hz
     have g3 : errW w x.a x.area = (mnI (errL (co w (gl w)) x.a x.area), mxI (errL (co w (gl w)) x.a x.area)) := by unfold errW; rw [hda, har]; exact if_pos hz
     have g4 : realW w x.a sn = fixTo (fun y => (onC (co w (gl w)) x.a []).any fun g => seenA y g == sn) 9001 := by unfold realW; rw [hda, hcs]; exact if_pos hz
     have g5 : blameW w x.a x.area sn = blameL (onC (co w (gl w)) x.a []) x.area sn := by unfold blameW; rw [hda, har, hcs]; exact if_pos hz
     have g6 : fewW w = fewC (co w (gl w)) [] := if_pos hck
     have g7 : strangeW w = fixTo (strW w) w.vs.length := if_pos hz
     have hany : ((onC (co w (gl w)) x.a []).any fun g => seenA x.area g == sn) = true := List.any_eq_true.2 ⟨l[a], by rw [ha]; exact hm0, by rw [hsn]; simp⟩
     have hneA : onC (co w (gl w)) x.a [] ≠ [] := by rw [ha]; exact List.ne_nil_of_mem hm0
     have hbl1 := blame_any hneA x.area sn
     have hrm := real_mem (onC (co w (gl w)) x.a []) sn (a := x.area) ⟨by omega, by omega⟩
     rw [hany] at hbl1 hrm
     have hem := mnx_bd (L := errL (co w (gl w)) x.a x.area) (z := sn - x.area) (by
      unfold errL
      exact List.mem_map.2 ⟨l[a], by rw [ha]; exact hm0, by rw [hsn]⟩)
     have hfl := few_le hok ht
     have hsf := strange_few hok t2
     have hwr := q_wrongs53 w nl fu l hlen fun v hv => by
      obtain ⟨i, hi, rfl⟩ := List.getElem_of_mem hv
      have := hok.day i hi; omega
     have hRl : (realW w x.a sn).length ≤ 9001 := by
      rw [g4]; exact fixTo_len _ _
     have hSl : (strangeW w).length ≤ w.vs.length := by rw [g7]; exact fixTo_len _ _
     have hOl : (onW w x.a).length ≤ 100 := by
      rw [g1]
      have := List.length_filter_le (onB (co w (gl w)) x.a []) (seqI (-w.gain) w.gain)
      have h2 : (seqI (-w.gain) w.gain).length = (w.gain - -w.gain + 1).toNat := seqN_len _ _
      unfold onC
      simp only
      omega
     have hi1 := l_in45 (onW w x.a).isEmpty (onW w x.a).isEmpty (onW w x.a) l[a] (by omega)
     rw [decide_eq_true (show l[a] ∈ onW w x.a by rw [g1, ha]; exact hm0)] at hi1
     have hi2 := l_in45 (realW w x.a sn).isEmpty false (realW w x.a sn) x.area (by omega)
     rw [show decide (x.area ∈ realW w x.a sn) = true by rw [g4]; exact hrm] at hi2
     rw [← ha, ← hb, ← g2] at hdr
     rw [← g6] at hfl
     rw [← g7] at hsf
     rw [← g5] at hbl1
     have hem' : (errW w x.a x.area).1 ≤ sn - x.area ∧ sn - x.area ≤ (errW w x.a x.area).2 := by rw [g3]; exact hem
     clear g1 g2 g3 g4 g5 g6 g7 hany hneA hrm hem hm0 t2 hcan htr
     have htr := q_isTruth20 w nl fu l hlen hok (by omega)
     rw [ht] at htr
     generalize onW w x.a = L1 at *
     generalize driftW w x.a x.b = s1 at *
     generalize errW w x.a x.area = s2 at *
     generalize realW w x.a sn = R at *
     generalize blameW w x.a x.area sn = n at *
     generalize fewW w = fw at *
     generalize strangeW w = Q at *
     generalize wrL (gl w) (pF l) = wl at *
     obtain ⟨⟨n1, n2⟩, n3⟩ := hbl1
     have n3' : n ≠ 2 := by simpa using n3
     have hi0 : 0 ≤ x.a ∧ x.a.toNat < l.length := by omega
     have hi0b : 0 ≤ x.b ∧ x.b.toNat < l.length := by omega
     have hta : x.a.toNat = a := by omega
     have htb : x.b.toNat = b := by omega
     have w1 : IntKind.i64.wrap (l[a] - l[b]) = l[a] - l[b] := wrap_id (by omega) (by omega)
     have w2 : IntKind.i64.wrap (sn - x.area) = sn - x.area := wrap_id (by omega) (by omega)
     have m1 : ¬ (100 : Int) < L1.length := by omega
     have m2 : ¬ (10000 : Int) < R.length := by omega
     have m3 : ¬ (w.vs.length : Int) < Q.length := by omega
     have p1 : ¬ l[a] - l[b] < s1.1 := by omega
     have p2 : ¬ s1.2 < l[a] - l[b] := by omega
     have p3 : ¬ sn - x.area < s2.1 := by omega
     have p4 : ¬ s2.2 < sn - x.area := by omega
     have p5 : ¬ fw < 0 := by omega
     have p6 : ¬ (wl : Int) < fw := by omega
     have p7 : (Q.length : Int) ≤ wl := by omega
     have p8 : (n != 1) = false ∨ ((n != 1) = true ∧ (n != 3) = false) := by
      by_cases e : n = 1
      ·subst e; exact .inl rfl
      ·obtain rfl : n = 3 := by omega
       exact .inr ⟨rfl, rfl⟩
     simp only [encP] at c2
     refine ZF (fn := Tryz.f12) [.tmp 6] ⟨Tryz.func12, rfl, by kernel_rfl⟩ fun x hx hσ => ?_
     (repeat refine ZQ ?_); refine ZR fun K hK => ?_; simp (maxSteps := 1000000) [ty28, ty47]; refine hK _ ?_; clear hK K
     (repeat refine ZQ ?_); refine ZR fun K hK => ?_; simp (maxSteps := 1000000) [ty28, ty47]
     refine ZP (hF) ?_; simp (maxSteps := 1000000) [ty4, ty29, ty3, h40, ty28, ty47]
     refine ZP (hasx) ?_; simp (maxSteps := 1000000) [ty4, ty28]
     refine ZP (htr) ?_; simp (maxSteps := 1000000) [ty4]
     refine hK _ ?_; clear hK K; (first | show AWP _ _ _ _ _ | show ∃ _, _ | skip)
     repeat refine awp_seq ?_
     refine awp_cond (by simp [p5]; rfl) (by rw [hx]; simp) (fun hd => absurd hd (by simp [p5])) (fun hd => ?_)
     clear hd
     refine awp_skip ?_
     (repeat refine ZQ ?_); refine ZD [] [0, 1, 2, 3, 4, 5, 6, 7, 8] fun K hK => ?_; simp (maxSteps := 1000000) [ty47, ty29, ty3, hi0.1, hta, hal]
     refine ZE (hcal) ?_; simp (maxSteps := 1000000)
     refine hK _ ?_; clear hK K
     (repeat refine ZQ ?_); refine ZR fun K hK => ?_; simp (maxSteps := 1000000) [ty28, ty47, ty3]
     refine ZP (c1) ?_; simp (maxSteps := 1000000) [ty29]
     refine hK _ ?_; clear hK K
     (repeat refine ZQ ?_); refine ZR fun K hK => ?_; simp (maxSteps := 1000000) [ty28, ty47, ty3, ty23]
     refine ZP (c2) ?_; simp (maxSteps := 1000000) [ty23]
     refine hK _ ?_; clear hK K
     (repeat refine ZQ ?_); refine ZR fun K hK => ?_; simp (maxSteps := 1000000) [ty28, ty47, ty3, ty23]
     refine ZP (c3) ?_; simp (maxSteps := 1000000) [ty23]
     refine hK _ ?_; clear hK K
     (repeat refine ZQ ?_); refine ZR fun K hK => ?_; simp (maxSteps := 1000000) [ty28, ty47, ty3]
     refine ZP (c4) ?_; simp (maxSteps := 1000000) [ty29]
     refine hK _ ?_; clear hK K
     (repeat refine ZQ ?_); refine ZR fun K hK => ?_; simp (maxSteps := 1000000) [ty28, ty47, ty3]
     refine ZP (c5) ?_; simp (maxSteps := 1000000)
     refine hK _ ?_; clear hK K
     (repeat refine ZQ ?_); refine ZR fun K hK => ?_; simp (maxSteps := 1000000) [ty28]
     refine ZP (c6) ?_; simp (maxSteps := 1000000)
     refine hK _ ?_; clear hK K
     (repeat refine ZQ ?_); refine ZR fun K hK => ?_; simp (maxSteps := 1000000) [ty28]
     refine ZP (c7) ?_; simp (maxSteps := 1000000) [ty29]
     refine hK _ ?_; clear hK K
     (repeat refine ZQ ?_); refine ZR fun K hK => ?_; simp (maxSteps := 1000000) [ty37, ty29, ty28, ty26, ty3, ty4, m1, m2, m3]; refine hK _ ?_; clear hK K; (first | show AWP _ _ _ _ _ | show ∃ _, _ | skip)
     repeat refine awp_seq ?_
     refine awp_cond (by simp [m3]; rfl) (by rw [hx]; simp) (fun hd => absurd hd (by simp [m3])) (fun hd => ?_)
     clear hd
     refine awp_skip ?_
     (repeat refine ZQ ?_); refine ZD [] [0, 1, 2, 3, 4, 5, 6, 7, 8, 9, 10, 11] fun K hK => ?_; simp (maxSteps := 1000000) [ty47, ty29, ty3, hi0.1, hi0b.1, hta, htb, hal, hbl, w1]; refine hK _ ?_; clear hK K; (first | show AWP _ _ _ _ _ | show ∃ _, _ | skip)
     rcases p8 with p8 | ⟨p8, p9⟩
     ·(repeat refine ZQ ?_); refine ZR fun K hK => ?_; simp (maxSteps := 1000000) [ty47, ty29, ty3, hi0.1, hta, hal]
      refine ZP (hi1) ?_; simp (maxSteps := 1000000) [ty4, ty23, ty47, ty3, p1, p2, p3, p4, w2]
      refine ZP (hi2) ?_; simp (maxSteps := 1000000) [ty4, ty3, ty28, p5, p8]
      refine ZP (hwr) ?_; simp (maxSteps := 1000000) [ty4, ty3, p6]
      refine hK _ ?_; clear hK K; (first | show AWP _ _ _ _ _ | show ∃ _, _ | skip)
      repeat refine awp_seq ?_
      refine awp_cond (by simp [p6]; rfl) (by rw [hx]; simp) (fun hd => absurd hd (by simp [p6])) (fun hd => ?_)
      clear hd
      refine awp_skip ?_
      (repeat refine ZQ ?_); refine ZR fun K hK => ?_; simp (maxSteps := 1000000) [ty29, ty28, ty3]
      refine ZP (hwr) ?_; simp (maxSteps := 1000000) [ty3, ty4, p7]
      refine ZP (works15) ?_; simp (maxSteps := 1000000) [ty4]
      refine hK _ ?_; clear hK K
      (repeat refine ZQ ?_); refine awp_ret ?_; refine And.intro (Or.inr rfl) ?_
      simp [retC, resC, viewC, mapO]
     ·(repeat refine ZQ ?_); refine ZR fun K hK => ?_; simp (maxSteps := 1000000) [ty47, ty29, ty3, hi0.1, hta, hal]
      refine ZP (hi1) ?_; simp (maxSteps := 1000000) [ty4, ty23, ty47, ty3, p1, p2, p3, p4, w2]
      refine ZP (hi2) ?_; simp (maxSteps := 1000000) [ty4, ty3, ty28, p5, p8, p9]
      refine ZP (hwr) ?_; simp (maxSteps := 1000000) [ty4, ty3, p6]
      refine hK _ ?_; clear hK K; (first | show AWP _ _ _ _ _ | show ∃ _, _ | skip)
      repeat refine awp_seq ?_
      refine awp_cond (by simp [p6]; rfl) (by rw [hx]; simp) (fun hd => absurd hd (by simp [p6])) (fun hd => ?_)
      clear hd
      refine awp_skip ?_
      (repeat refine ZQ ?_); refine ZR fun K hK => ?_; simp (maxSteps := 1000000) [ty29, ty28, ty3]
      refine ZP (hwr) ?_; simp (maxSteps := 1000000) [ty3, ty4, p7]
      refine ZP (works15) ?_; simp (maxSteps := 1000000) [ty4]
      refine hK _ ?_; clear hK K
      (repeat refine ZQ ?_); refine awp_ret ?_; refine And.intro (Or.inr rfl) ?_
      simp [retC, resC, viewC, mapO]

open Go.ChangeShapes Go.WideShapes Go.ChangeAt Go.RowKit

set_option maxRecDepth 100000 in
theorem wearTrue_lifted (os : Os) (started : os.Started) (H : Type) (enc : TypeId × Value → H) :
  ReturnsInHanded {} Tryz.checked os 12 .any (Rows.wearTrueSpec.pre6 enc Tryz.prog Tryz.f12 Rows.wearTrueRow.domain false) (Rows.wearTrueSpec.post enc Tryz.prog Tryz.f12 false true false false) := by
 refine returnsInHanded_of_change (C := Tryz.checked) J.own started (by kernel_rfl) Tryz.func12
  (ChangeSpec.witness6 (enc := enc) (C := Tryz.checked) false ⟨#[], #[.agg #[.int .i64 0, .int .i64 0, .int .i64 0, .int .i64 0, .int .i64 0, .int .i64 0, .int .i64 0, .int .i64 0, .int .i64 0, .int .i64 0, .int .i64 0, .slice none 0 0, .int .i64 0], .slice none 0 0, .agg #[.int .i64 0, .int .i64 0, .int .i64 0, .int .i64 0]], []⟩ 8 (by kernel_rfl) (by kernel_rfl) (by kernel_rfl) (by kernel_rfl)) ?_
 intro W base args ds gs before hval hW _ _
 refine law_contract (P := Tryz.prog) (tb := 4) (by kernel_rfl) J.ub rfl (fun ds hl => ?_) J.laid J.maps J.sized (by kernel_rfl) (by kernel_rfl) (fun cargs hc => ?_) W base args ds gs before hval hW
 ·have h2 : ds.length = 3 := hl
  match ds, h2 with
  | [_, _, _], _ => rfl
 ·rw [Tryz.params12] at hc
  obtain ⟨w, r, rfl, hc1⟩ := argWear hc
  obtain ⟨nl, l, r1, rfl, hc2⟩ := argInts hc1
  obtain ⟨x, r2, rfl, hc3⟩ := argAsk hc2
  obtain rfl := arg_end hc3
  exact law12 w nl false l x

theorem wearTrue_holds : Rows.WearTrueSaid :=
 OpenClaim.holds_of_wide 12 Tryz.f12 rfl rfl rfl rfl rfl rfl rfl ⟨rfl, rfl, rfl, rfl, rfl⟩ rfl rfl rfl rfl rfl (by kernel_rfl) Tryz.func12 (by kernel_rfl)
  (of_decide_eq_true (by kernel_rfl)) (by unfold Func.isWrapper; first | (rw [if_pos (by decide +kernel)]; kernel_rfl) | (rw [if_neg (by decide +kernel)]; exact ⟨rfl, rfl⟩))
  (fun os started H enc _ => wearTrue_lifted os started H enc)
#print axioms wearTrue_holds
end Go.Proofs.YtknoachjpoibaaaGreat

