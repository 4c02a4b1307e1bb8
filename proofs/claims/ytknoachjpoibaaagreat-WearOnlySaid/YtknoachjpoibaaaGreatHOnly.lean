/- For every input the law WearOnly returns true, and each argument reads afterwards as it read before. No condition. -/
import Derived.Test.YtknoachjpoibaaaGreatB6

set_option linter.unusedSimpArgs false
set_option linter.unusedVariables false
set_option linter.constructorNameAsVariable false

namespace Go.Proofs.YtknoachjpoibaaaGreat
open Go Go.Abs

set_option maxHeartbeats 16000000



theorem law4 (w : Ws) (x : As) : Pure Tryz.prog 4 [encWs w, encAs x] (.bool true) := by
 obtain ⟨f, hF, hf⟩ := ready13 w
 cases f
 ·refine pure_of (fn := Tryz.f4) [.tmp 4] ⟨Tryz.func4, rfl, by kernel_rfl⟩ (by kernel_rfl) (by kernel_rfl) (by kernel_rfl) fun x hx hσ => ?_
  (repeat refine awp_seq ?_); refine awp_reg1 (by rw [hx]; kernel_rfl) fun K hK => ?_; simp (maxSteps := 1000000) [ty28, ty47]; refine hK _ ?_; clear hK K; (first | show AWP _ _ _ _ _ | show ∃ _, _ | skip)
  (repeat refine awp_seq ?_); refine awp_reg1 (by rw [hx]; kernel_rfl) fun K hK => ?_; simp (maxSteps := 1000000) [ty28, ty47]
  refine callP (hF) (by first | (simp; done) | (simp [*]; done)) ?_; simp (maxSteps := 1000000) [ty4]
  refine hK _ ?_; clear hK K; (first | show AWP _ _ _ _ _ | show ∃ _, _ | skip)
  (repeat refine awp_seq ?_); refine awp_cond (by simp [hf]; rfl) (by rw [hx]; simp) (fun hd => ?_) (fun hd => ?_)
  ·clear hd
   (repeat refine awp_seq ?_); refine awp_reg1 (by rw [hx]; kernel_rfl) fun K hK => ?_; simp (maxSteps := 1000000) []
   refine callP (works15) (by first | (simp; done) | (simp [*]; done)) ?_; simp (maxSteps := 1000000) []
   refine hK _ ?_; clear hK K; (first | show AWP _ _ _ _ _ | show ∃ _, _ | skip)
   (repeat refine awp_seq ?_); refine awp_ret ?_; refine And.intro (Or.inr rfl) ?_
   simp [retC, resC, viewC, mapO]
  ·simp [hf] at hd
 ·obtain ⟨hck, hnear⟩ := hf rfl
  have hok := checkW_ok.1 hck
  have hlen := hnear.len
  have hsm := hnear.small hck
  have hla := hok.last
  have hgn := hok.num.gain
  have hdr := hok.drop
  have hasx := isAsk21 w x
  cases hk : askB w x
  ·rw [hk] at hasx
   refine pure_of (fn := Tryz.f4) [.tmp 4] ⟨Tryz.func4, rfl, by kernel_rfl⟩ (by kernel_rfl) (by kernel_rfl) (by kernel_rfl) fun x hx hσ => ?_
   (repeat refine awp_seq ?_); refine awp_reg1 (by rw [hx]; kernel_rfl) fun K hK => ?_; simp (maxSteps := 1000000) [ty28, ty47]; refine hK _ ?_; clear hK K; (first | show AWP _ _ _ _ _ | show ∃ _, _ | skip)
   (repeat refine awp_seq ?_); refine awp_reg1 (by rw [hx]; kernel_rfl) fun K hK => ?_; simp (maxSteps := 1000000) [ty28, ty47]
   refine callP (hF) (by first | (simp; done) | (simp [*]; done)) ?_; simp (maxSteps := 1000000) [ty4, ty28, ty47]
   refine callP (hasx) (by first | (simp; done) | (simp [*]; done)) ?_; simp (maxSteps := 1000000) [ty4]
   refine hK _ ?_; clear hK K; (first | show AWP _ _ _ _ _ | show ∃ _, _ | skip)
   (repeat refine awp_seq ?_); refine awp_cond (by simp [hk]; rfl) (by rw [hx]; simp) (fun hd => ?_) (fun hd => ?_)
   ·clear hd
    (repeat refine awp_seq ?_); refine awp_reg1 (by rw [hx]; kernel_rfl) fun K hK => ?_; simp (maxSteps := 1000000) []
    refine callP (works15) (by first | (simp; done) | (simp [*]; done)) ?_; simp (maxSteps := 1000000) []
    refine hK _ ?_; clear hK K; (first | show AWP _ _ _ _ _ | show ∃ _, _ | skip)
    (repeat refine awp_seq ?_); refine awp_ret ?_; refine And.intro (Or.inr rfl) ?_
    simp [retC, resC, viewC, mapO]
   ·simp [hk] at hd
  ·rw [hk] at hasx
   simp only [askB, Bool.and_eq_true, decide_eq_true_eq] at hk
   obtain ⟨⟨⟨⟨k1, k2⟩, k3⟩, k4⟩, k5⟩ := hk
   have hda : dayB w x.a = true := by simp [dayB]; omega
   have hdb : dayB w x.b = true := by simp [dayB]; omega
   have hisab : isAB w x.a x.b = true := by unfold isAB; rw [hda, hdb, decide_eq_true k2]; rfl
   have hdrf := w_drift22 w x.a x.b hlen
   rw [hisab] at hdrf
   have hkk := isKnown17 (openW w true)
   rcases openW_known hck with hz | hz
   ·have hcan := (openW_ok hz).2.2
    have hbd := drift_bd hok hcan k1 k2 k3
    have hT : driftW w x.a x.b = driftL (co w (gl w)) x.a x.b := by unfold driftW; rw [hisab, if_pos hz]
    rw [hT, hz] at hdrf
    rw [hz] at hkk
    have hon : ∀ d : Nat, (d : Int) ≤ w.last → Pure Tryz.prog 18 [encWs w, encI d] (.tup [slI (onC (co w (gl w)) (d : Nat) []), encI 0]) := fun d hd => by
     have h := w_on18 w d hlen
     have hdd : dayB w (d : Nat) = true := by simp [dayB]; omega
     rw [hdd, hz] at h
     have e : onW w (d : Nat) = onC (co w (gl w)) (d : Nat) [] := by unfold onW; rw [hdd, if_pos hz]
     rw [e] at h
     exact h
    have hne : ∀ d : Nat, (d : Int) ≤ w.last → onC (co w (gl w)) (d : Nat) [] ≠ [] := fun d hd => on_ne_nil hcan (by simp only; omega)
    have hlb : ∀ d : Nat, (onC (co w (gl w)) (d : Nat) []).length ≤ 100 := fun d => by
     have := List.length_filter_le (onB (co w (gl w)) (d : Nat) []) (seqI (-w.gain) w.gain)
     have h2 : (seqI (-w.gain) w.gain).length = (w.gain - -w.gain + 1).toNat := seqN_len _ _
     unfold onC
     simp only
     omega
    have hrg : ∀ d : Nat, ∀ z ∈ onC (co w (gl w)) (d : Nat) [], -50 ≤ z ∧ z ≤ 50 := fun d z hz' => by
     have h1 := onC_bd hz'
     simp only at h1
     omega
    have hwe : ∀ d : Nat, (d : Int) + 1 ≤ w.last → _ := fun d hd => on_wears hcan (d := d) (by simp only; omega)
    simp only at hwe
    obtain ⟨s, hs⟩ : ∃ s, driftL (co w (gl w)) x.a x.b = s := ⟨_, rfl⟩
    rw [hs] at hbd hdrf
    clear hs hT
    obtain ⟨lo, hi⟩ := s
    simp only [encP] at hdrf hbd
    have hmb : 0 ≤ w.drop * (x.b - x.a) ∧ w.drop * (x.b - x.a) ≤ 10 * 30 := by
     constructor
     ·exact Int.mul_nonneg hdr.1 (by omega)
     ·exact Int.mul_le_mul hdr.2 (by omega) (by omega) (by omega)
    have w1 : IntKind.i64.wrap (x.b - x.a) = x.b - x.a := wrap_id (by omega) (by omega)
    have w2 : IntKind.i64.wrap (w.drop * (x.b - x.a)) = w.drop * (x.b - x.a) := wrap_id (by omega) (by omega)
    have n1 : ¬ lo < 0 := by omega
    have n2 : ¬ hi < lo := by omega
    have n3 : ¬ w.drop * (x.b - x.a) < hi := by omega
    refine pure_of (fn := Tryz.f4) [.tmp 4] ⟨Tryz.func4, rfl, by kernel_rfl⟩ (by kernel_rfl) (by kernel_rfl) (by kernel_rfl) fun x hx hσ => ?_
    (repeat refine awp_seq ?_); refine awp_reg1 (by rw [hx]; kernel_rfl) fun K hK => ?_; simp (maxSteps := 1000000) [ty28, ty47]; refine hK _ ?_; clear hK K; (first | show AWP _ _ _ _ _ | show ∃ _, _ | skip)
    (repeat refine awp_seq ?_); refine awp_reg1 (by rw [hx]; kernel_rfl) fun K hK => ?_; simp (maxSteps := 1000000) [ty28, ty47]
    refine callP (hF) (by first | (simp; done) | (simp [*]; done)) ?_; simp (maxSteps := 1000000) [ty4, ty28, ty47]
    refine callP (hasx) (by first | (simp; done) | (simp [*]; done)) ?_; simp (maxSteps := 1000000) [ty4]
    refine hK _ ?_; clear hK K; (first | show AWP _ _ _ _ _ | show ∃ _, _ | skip)
    repeat refine awp_seq ?_
    refine awp_cond (by simp [n1]; rfl) (by rw [hx]; simp) (fun hd => absurd hd (by simp [n1])) (fun hd => ?_)
    clear hd
    refine awp_skip ?_; (first | show AWP _ _ _ _ _ | show ∃ _, _ | skip)
    (repeat refine awp_seq ?_); refine awp_reg1 (by rw [hx]; kernel_rfl) fun K hK => ?_; simp (maxSteps := 1000000) [ty28, ty47, ty3, ty23]
    refine callP (hdrf) (by first | (simp; done) | (simp [*]; done)) ?_; simp (maxSteps := 1000000) [ty23]
    refine hK _ ?_; clear hK K; (first | show AWP _ _ _ _ _ | show ∃ _, _ | skip)
    (repeat refine awp_seq ?_); refine awp_reg1 (by rw [hx]; kernel_rfl) fun K hK => ?_; simp (maxSteps := 1000000) [ty37]
    refine callP (hkk) (by first | (simp; done) | (simp [*]; done)) ?_; simp (maxSteps := 1000000) [ty4]
    refine hK _ ?_; clear hK K; (first | show AWP _ _ _ _ _ | show ∃ _, _ | skip)
    repeat refine awp_seq ?_
    refine awp_cond (by simp [n1]; rfl) (by rw [hx]; simp) (fun hd => absurd hd (by simp [n1])) (fun hd => ?_)
    clear hd
    refine awp_skip ?_; (first | show AWP _ _ _ _ _ | show ∃ _, _ | skip)
    (repeat refine awp_seq ?_); refine awp_reg1 (by rw [hx]; kernel_rfl) fun K hK => ?_; simp (maxSteps := 1000000) [ty37]; refine hK _ ?_; clear hK K; (first | show AWP _ _ _ _ _ | show ∃ _, _ | skip)
    repeat refine awp_seq ?_
    refine awp_cond (by simp [n1]; rfl) (by rw [hx]; simp) (fun hd => absurd hd (by simp [n1])) (fun hd => ?_)
    clear hd
    refine awp_skip ?_; (first | show AWP _ _ _ _ _ | show ∃ _, _ | skip)
    (repeat refine awp_seq ?_); refine awp_reg1 (by rw [hx]; kernel_rfl) fun K hK => ?_; simp (maxSteps := 1000000) [ty23, ty28, ty47, ty3, ty4, n1, n2, w1, w2, n3]; refine hK _ ?_; clear hK K; (first | show AWP _ _ _ _ _ | show ∃ _, _ | skip)
    repeat refine awp_seq ?_
    refine awp_cond (by simp [n3]; rfl) (by rw [hx]; simp) (fun hd => absurd hd (by simp [n3])) (fun hd => ?_)
    clear hd
    refine awp_skip ?_; (first | show AWP _ _ _ _ _ | show ∃ _, _ | skip)
    (repeat refine awp_seq ?_); refine awp_reg1 (by rw [hx]; kernel_rfl) fun K hK => ?_; simp (maxSteps := 1000000) [ty3]; refine hK _ ?_; clear hK K; (first | show AWP _ _ _ _ _ | show ∃ _, _ | skip)
    (repeat refine awp_seq ?_); refine awp_block ?_
    refine awp_loop (fun i : Nat => ⟨ofL [(2, .ptr 2 13 0 0), (7, encI i)], stoT [(2, 2, .live (obWs w))]⟩)
     (fun i => (i : Int) ≤ w.last) (fun i => w.last.toNat - i) 0 (by show ((0 : Nat) : Int) ≤ w.last; omega) ?_ ?_
    ·refine wk_shape (shp0 hσ (by simp) (by simp) ?_) ?_
     ·simp [SlotOk] <;> (repeat' (first | exact .same (by simp [purel, C.isPure]) | exact .cons (by simp [mtl, mtc, mT, mH, C.isPure, purel]) (by simp) .nil | refine And.intro ?_ ?_))
     ·simp [mtc, mtl, mT, C.isPure, purel] <;> (try simp (disch := omega) [wrap_id]) <;> (try omega)
    ·intro i hi
     have hwi : IntKind.i64.wrap ((i : Int) + 1) = (i : Int) + 1 := wrap_id (by omega) (by omega)
     (repeat refine awp_seq ?_); refine awp_reg1 (by rw [hx]; kernel_rfl) fun K hK => ?_; simp (maxSteps := 1000000) [ty28, ty3, hi]; refine hK _ ?_; clear hK K; (first | show AWP _ _ _ _ _ | show ∃ _, _ | skip)
     (repeat refine awp_seq ?_); refine awp_cond (by simp [hi]; rfl) (by rw [hx]; simp) (fun hc => ?_) (fun hc => ?_)
     ·clear hc
      refine awp_skip ?_; (first | show AWP _ _ _ _ _ | show ∃ _, _ | skip)
      (repeat refine awp_seq ?_); refine awp_block ?_
      have hon1 := hon i hi
      have hne1 := hne i hi
      have hlb1 := hlb i
      have hrg1 := hrg i
      have hwe1 := hwe i
      generalize onC (co w (gl w)) (i : Nat) [] = L at *
      have hp1 : 0 < L.length := List.length_pos_iff.2 hne1
      have q1 : ((L.length : Int) == 0) = false := by rw [beq_eq_false_iff_ne]; omega
      have q2 : ¬ (100 : Int) < L.length := by omega
      (repeat refine awp_seq ?_); refine awp_reg1 (by rw [hx]; kernel_rfl) fun K hK => ?_; simp (maxSteps := 1000000) [ty28, ty3]
      refine callP (hon1) (by first | (simp; done) | (simp [*]; done)) ?_; simp (maxSteps := 1000000) [ty29]
      refine hK _ ?_; clear hK K; (first | show AWP _ _ _ _ _ | show ∃ _, _ | skip)
      (repeat refine awp_seq ?_); refine awp_reg1 (by rw [hx]; kernel_rfl) fun K hK => ?_; simp (maxSteps := 1000000) [ty37, ty29, ty3, ty4, q1, q2]; refine hK _ ?_; clear hK K; (first | show AWP _ _ _ _ _ | show ∃ _, _ | skip)
      repeat refine awp_seq ?_
      refine awp_cond (by simp [q2]; rfl) (by rw [hx]; simp) (fun hd => absurd hd (by simp [q2])) (fun hd => ?_)
      clear hd
      refine awp_skip ?_; (first | show AWP _ _ _ _ _ | show ∃ _, _ | skip)
      by_cases hil : (i : Int) = w.last
      ·have hil' : ((i : Int) == w.last) = true := by simpa using hil
       (repeat refine awp_seq ?_); refine awp_reg1 (by rw [hx]; kernel_rfl) fun K hK => ?_; simp (maxSteps := 1000000) [ty28, ty3, hil']; refine hK _ ?_; clear hK K; (first | show AWP _ _ _ _ _ | show ∃ _, _ | skip)
       (repeat refine awp_seq ?_); refine awp_cond (by simp [hil']; rfl) (by rw [hx]; simp) (fun hd => ?_) (fun hd => ?_)
       ·clear hd
        (repeat refine awp_seq ?_); refine awp_exit ?_; (first | show AWP _ _ _ _ _ | show ∃ _, _ | skip)
        (repeat refine awp_seq ?_); refine awp_reg1 (by rw [hx]; kernel_rfl) fun K hK => ?_; simp (maxSteps := 1000000) []
        refine callP (works15) (by first | (simp; done) | (simp [*]; done)) ?_; simp (maxSteps := 1000000) []
        refine hK _ ?_; clear hK K; (first | show AWP _ _ _ _ _ | show ∃ _, _ | skip)
        (repeat refine awp_seq ?_); refine awp_ret ?_; refine And.intro (Or.inr rfl) ?_
        simp [retC, resC, viewC, mapO]
       ·simp [hil'] at hd
      ·have hil' : ((i : Int) == w.last) = false := by simpa using hil
       (repeat refine awp_seq ?_); refine awp_reg1 (by rw [hx]; kernel_rfl) fun K hK => ?_; simp (maxSteps := 1000000) [ty28, ty3, hil']; refine hK _ ?_; clear hK K; (first | show AWP _ _ _ _ _ | show ∃ _, _ | skip)
       repeat refine awp_seq ?_
       refine awp_cond (by simp [hil']; rfl) (by rw [hx]; simp) (fun hd => absurd hd (by simp [hil'])) (fun hd => ?_)
       clear hd
       refine awp_skip ?_; (first | show AWP _ _ _ _ _ | show ∃ _, _ | skip)
       have hi1 : ((i + 1 : Nat) : Int) ≤ w.last := by omega
       have hon2 := hon (i + 1) hi1
       have hne2 := hne (i + 1) hi1
       have hlb2 := hlb (i + 1)
       have hrg2 := hrg (i + 1)
       have hwe2 := hwe1 (by omega)
       have hcast : ((i + 1 : Nat) : Int) = (i : Int) + 1 := by omega
       rw [hcast] at hon2 hne2 hlb2 hrg2 hwe2
       generalize onC (co w (gl w)) ((i : Int) + 1) [] = K2 at *
       have hp2 : 0 < K2.length := List.length_pos_iff.2 hne2
       have q3 : ((K2.length : Int) == 0) = false := by rw [beq_eq_false_iff_ne]; omega
       have q4 : ¬ (100 : Int) < K2.length := by omega
       obtain ⟨e1, e2⟩ := ends_at hp1
       obtain ⟨e3, e4⟩ := ends_at hp2
       rw [← e1, ← e2, ← e3, ← e4] at hwe2
       have b1 := hrg1 _ (List.getElem_mem hp1)
       have b2 := hrg1 _ (List.getElem_mem (show L.length - 1 < L.length by omega))
       have b3 := hrg2 _ (List.getElem_mem hp2)
       have b4 := hrg2 _ (List.getElem_mem (show K2.length - 1 < K2.length by omega))
       have hm1 : IntKind.i64.wrap ((L.length : Int) - 1) = ((L.length - 1 : Nat) : Int) := by rw [wrap_id (by omega) (by omega)]; omega
       have hm2 : IntKind.i64.wrap ((K2.length : Int) - 1) = ((K2.length - 1 : Nat) : Int) := by rw [wrap_id (by omega) (by omega)]; omega
       have hlt1 : L.length - 1 < L.length := by omega
       have hlt2 : K2.length - 1 < K2.length := by omega
       have u1 : IntKind.i64.wrap (L[0] - K2[0]) = L[0] - K2[0] := wrap_id (by omega) (by omega)
       have u2 : IntKind.i64.wrap (L[L.length - 1] - K2[K2.length - 1]) = L[L.length - 1] - K2[K2.length - 1] := wrap_id (by omega) (by omega)
       have v1 : ¬ L[0] - K2[0] < 0 := by omega
       have v2 : ¬ w.drop < L[0] - K2[0] := by omega
       have v3 : ¬ L[L.length - 1] - K2[K2.length - 1] < 0 := by omega
       have v4 : ¬ w.drop < L[L.length - 1] - K2[K2.length - 1] := by omega
       (repeat refine awp_seq ?_); refine awp_reg1 (by rw [hx]; kernel_rfl) fun K hK => ?_; simp (maxSteps := 1000000) [ty28, ty3, hwi]
       refine callP (hon2) (by first | (simp; done) | (simp [*]; done)) ?_; simp (maxSteps := 1000000) [ty29]
       refine hK _ ?_; clear hK K; (first | show AWP _ _ _ _ _ | show ∃ _, _ | skip)
       (repeat refine awp_seq ?_); refine awp_reg1 (by rw [hx]; kernel_rfl) fun K hK => ?_; simp (maxSteps := 1000000) [ty37, ty29, ty3, ty4, q3, q4]; refine hK _ ?_; clear hK K; (first | show AWP _ _ _ _ _ | show ∃ _, _ | skip)
       repeat refine awp_seq ?_
       refine awp_cond (by simp [q4]; rfl) (by rw [hx]; simp) (fun hd => absurd hd (by simp [q4])) (fun hd => ?_)
       clear hd
       refine awp_skip ?_; (first | show AWP _ _ _ _ _ | show ∃ _, _ | skip)
       (repeat refine awp_seq ?_); refine awp_drw3 [] [0, 1, 2, 3, 4, 5, 6, 7, 8, 9, 10, 11, 12, 13, 14, 15, 16, 17, 18, 19, 20, 21] (by rw [hx]; kernel_rfl) (by kernel_rfl) (by kernel_rfl) (by kernel_rfl) fun K hK => ?_; simp (maxSteps := 1000000) [ty29, ty3, hp1, hp2, hm1, hm2, hlt1, hlt2, u1, u2]; refine hK _ ?_; clear hK K; (first | show AWP _ _ _ _ _ | show ∃ _, _ | skip)
       (repeat refine awp_seq ?_); refine awp_reg1 (by rw [hx]; kernel_rfl) fun K hK => ?_; simp (maxSteps := 1000000) [ty28, ty3, ty4, v1, v2, v3, v4]; refine hK _ ?_; clear hK K; (first | show AWP _ _ _ _ _ | show ∃ _, _ | skip)
       repeat refine awp_seq ?_
       refine awp_cond (by simp [v4]; rfl) (by rw [hx]; simp) (fun hd => absurd hd (by simp [v4])) (fun hd => ?_)
       clear hd
       refine awp_skip ?_; (first | show AWP _ _ _ _ _ | show ∃ _, _ | skip)
       (repeat refine awp_seq ?_); refine awp_reg1 (by rw [hx]; kernel_rfl) fun K hK => ?_; simp (maxSteps := 1000000) [ty3, hwi]; refine hK _ ?_; clear hK K; (first | show AWP _ _ _ _ _ | show ∃ _, _ | skip)
       refine ⟨i + 1, by omega, by omega, ?_⟩
       refine wk_shape (shp0 hσ (by simp) (by simp) ?_) ?_
       ·simp [SlotOk] <;> (repeat' (first | exact .same (by simp [purel, C.isPure]) | exact .cons (by simp [mtl, mtc, mT, mH, C.isPure, purel]) (by simp) .nil | refine And.intro ?_ ?_))
       ·simp [mtc, mtl, mT, C.isPure, purel] <;> (try simp (disch := omega) [wrap_id]) <;> (try omega)
     ·simp [hi] at hc
   ·rw [hz] at hdrf hkk
    have n1 : ¬ (1 : Int) < 0 := by omega
    refine pure_of (fn := Tryz.f4) [.tmp 4] ⟨Tryz.func4, rfl, by kernel_rfl⟩ (by kernel_rfl) (by kernel_rfl) (by kernel_rfl) fun x hx hσ => ?_
    (repeat refine awp_seq ?_); refine awp_reg1 (by rw [hx]; kernel_rfl) fun K hK => ?_; simp (maxSteps := 1000000) [ty28, ty47]; refine hK _ ?_; clear hK K; (first | show AWP _ _ _ _ _ | show ∃ _, _ | skip)
    (repeat refine awp_seq ?_); refine awp_reg1 (by rw [hx]; kernel_rfl) fun K hK => ?_; simp (maxSteps := 1000000) [ty28, ty47]
    refine callP (hF) (by first | (simp; done) | (simp [*]; done)) ?_; simp (maxSteps := 1000000) [ty4, ty28, ty47]
    refine callP (hasx) (by first | (simp; done) | (simp [*]; done)) ?_; simp (maxSteps := 1000000) [ty4]
    refine hK _ ?_; clear hK K; (first | show AWP _ _ _ _ _ | show ∃ _, _ | skip)
    repeat refine awp_seq ?_
    refine awp_cond (by simp [n1]; rfl) (by rw [hx]; simp) (fun hd => absurd hd (by simp [n1])) (fun hd => ?_)
    clear hd
    refine awp_skip ?_; (first | show AWP _ _ _ _ _ | show ∃ _, _ | skip)
    (repeat refine awp_seq ?_); refine awp_reg1 (by rw [hx]; kernel_rfl) fun K hK => ?_; simp (maxSteps := 1000000) [ty28, ty47, ty3, ty23]
    refine callP (hdrf) (by first | (simp; done) | (simp [*]; done)) ?_; simp (maxSteps := 1000000) [ty23]
    refine hK _ ?_; clear hK K; (first | show AWP _ _ _ _ _ | show ∃ _, _ | skip)
    (repeat refine awp_seq ?_); refine awp_reg1 (by rw [hx]; kernel_rfl) fun K hK => ?_; simp (maxSteps := 1000000) [ty37]
    refine callP (hkk) (by first | (simp; done) | (simp [*]; done)) ?_; simp (maxSteps := 1000000) [ty4]
    refine hK _ ?_; clear hK K; (first | show AWP _ _ _ _ _ | show ∃ _, _ | skip)
    repeat refine awp_seq ?_
    refine awp_cond (by simp [n1]; rfl) (by rw [hx]; simp) (fun hd => absurd hd (by simp [n1])) (fun hd => ?_)
    clear hd
    refine awp_skip ?_; (first | show AWP _ _ _ _ _ | show ∃ _, _ | skip)
    (repeat refine awp_seq ?_); refine awp_reg1 (by rw [hx]; kernel_rfl) fun K hK => ?_; simp (maxSteps := 1000000) [ty37]; refine hK _ ?_; clear hK K; (first | show AWP _ _ _ _ _ | show ∃ _, _ | skip)
    (repeat refine awp_seq ?_); refine awp_cond (by simp [hz]; rfl) (by rw [hx]; simp) (fun hd => ?_) (fun hd => ?_)
    ·clear hd
     (repeat refine awp_seq ?_); refine awp_reg1 (by rw [hx]; kernel_rfl) fun K hK => ?_; simp (maxSteps := 1000000) []
     refine callP (works15) (by first | (simp; done) | (simp [*]; done)) ?_; simp (maxSteps := 1000000) []
     refine hK _ ?_; clear hK K; (first | show AWP _ _ _ _ _ | show ∃ _, _ | skip)
     (repeat refine awp_seq ?_); refine awp_ret ?_; refine And.intro (Or.inr rfl) ?_
     simp [retC, resC, viewC, mapO]
    ·simp [hz] at hd

open Go.ChangeShapes Go.WideShapes Go.ChangeAt Go.RowKit

set_option maxRecDepth 100000 in
theorem wearOnly_lifted (os : Os) (started : os.Started) (H : Type) (enc : TypeId × Value → H) :
  ReturnsInHanded {} Tryz.checked os 4 .any (Rows.wearOnlySpec.pre6 enc Tryz.prog Tryz.f4 Rows.wearOnlyRow.domain false) (Rows.wearOnlySpec.post enc Tryz.prog Tryz.f4 false true false false) := by
 refine returnsInHanded_of_change (C := Tryz.checked) J.own started (by kernel_rfl) Tryz.func4
  (ChangeSpec.witness6 (enc := enc) (C := Tryz.checked) false ⟨#[], #[.agg #[.int .i64 0, .int .i64 0, .int .i64 0, .int .i64 0, .int .i64 0, .int .i64 0, .int .i64 0, .int .i64 0, .int .i64 0, .int .i64 0, .int .i64 0, .slice none 0 0, .int .i64 0], .agg #[.int .i64 0, .int .i64 0, .int .i64 0, .int .i64 0]], []⟩ 8 (by kernel_rfl) (by kernel_rfl) (by kernel_rfl) (by kernel_rfl)) ?_
 intro W base args ds gs before hval hW _ _
 refine law_contract (P := Tryz.prog) (tb := 4) (by kernel_rfl) J.ub rfl (fun ds hl => ?_) J.laid J.maps J.sized (by kernel_rfl) (by kernel_rfl) (fun cargs hc => ?_) W base args ds gs before hval hW
 ·have h2 : ds.length = 2 := hl
  match ds, h2 with
  | [_, _], _ => rfl
 ·rw [Tryz.params4] at hc
  obtain ⟨w, r, rfl, hc1⟩ := argWear hc
  obtain ⟨x, r1, rfl, hc2⟩ := argAsk hc1
  obtain rfl := arg_end hc2
  exact law4 w x

theorem wearOnly_holds : Rows.WearOnlySaid :=
 OpenClaim.holds_of_wide 4 Tryz.f4 rfl rfl rfl rfl rfl rfl rfl ⟨rfl, rfl, rfl, rfl, rfl⟩ rfl rfl rfl rfl rfl (by kernel_rfl) Tryz.func4 (by kernel_rfl)
  (of_decide_eq_true (by kernel_rfl)) (by unfold Func.isWrapper; first | (rw [if_pos (by decide +kernel)]; kernel_rfl) | (rw [if_neg (by decide +kernel)]; exact ⟨rfl, rfl⟩))
  (fun os started H enc _ => wearOnly_lifted os started H enc)
#print axioms wearOnly_holds
end Go.Proofs.YtknoachjpoibaaaGreat

