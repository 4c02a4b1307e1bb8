/- For every input the law WearVisit returns true, and each argument reads afterwards as it read before. No condition. -/
import Derived.Test.YtknoachjpoibaaaGreatB6

set_option linter.unusedSimpArgs false
set_option linter.unusedVariables false
set_option linter.constructorNameAsVariable false

namespace Go.Proofs.YtknoachjpoibaaaGreat
open Go Go.Abs

set_option maxHeartbeats 16000000
set_option maxRecDepth 20000












theorem law6 (w : Ws) (v : Int) (x : As) : Pure Tryz.prog 6 [encWs w, encI v, encAs x] (.bool true) := by
 obtain ⟨f, hF, hf⟩ := ready13 w
 cases f
 ·refine pure_of (fn := Tryz.f6) [.tmp 6] ⟨Tryz.func6, rfl, by kernel_rfl⟩ (by kernel_rfl) (by kernel_rfl) (by kernel_rfl) fun x hx hσ => ?_
  (repeat refine awp_seq ?_); refine awp_reg1 (by rw [hx]; kernel_rfl) fun K hK => ?_; simp (maxSteps := 1000000) [ty28, ty47]; refine hK _ ?_; clear hK K; (first | show AWP _ _ _ _ _ | show ∃ _, _ | skip)
  (repeat refine awp_seq ?_); refine awp_reg1 (by rw [hx]; kernel_rfl) fun K hK => ?_; simp (maxSteps := 1000000) [ty28, ty47]
  refine callP (hF) (by first | (simp; done) | (simp [*]; done)) ?_; simp (maxSteps := 1000000) [ty4]
  refine hK _ ?_; clear hK K; (first | show AWP _ _ _ _ _ | show ∃ _, _ | skip)
  (repeat refine awp_seq ?_); refine awp_cond (by simp [hf]; rfl) (by rw [hx]; simp) (fun hd => ?_) (fun hd => ?_)
  ·clear hd
   (repeat refine awp_seq ?_); refine awp_reg1 (by rw [hx]; kernel_rfl) fun K hK => ?_; simp (maxSteps := 1000000) []
   refine callP (works15) (by first | (simp; done) | (simp [*]; done)) ?_; simp (maxSteps := 1000000) []
   refine hK _ ?_; clear hK K; (first | show AWP _ _ _ _ _ | show ∃ _, _ | skip)
   (repeat refine awp_seq ?_); refine awp_ret ?_; refine And.intro (Or.inr rfl) ?_
   simp [retC, resC, viewC, mapO]
  ·simp [hf] at hd
 ·obtain ⟨hck, hnear⟩ := hf rfl
  have hok := checkW_ok.1 hck
  have hlen := hnear.len
  have hsm := hnear.small hck
  have hla := hok.last
  have hgn := hok.num.gain
  have hasx := isAsk21 w x
  cases hk : askB w x
  ·rw [hk] at hasx
   refine pure_of (fn := Tryz.f6) [.tmp 6] ⟨Tryz.func6, rfl, by kernel_rfl⟩ (by kernel_rfl) (by kernel_rfl) (by kernel_rfl) fun x hx hσ => ?_
   (repeat refine awp_seq ?_); refine awp_reg1 (by rw [hx]; kernel_rfl) fun K hK => ?_; simp (maxSteps := 1000000) [ty28, ty47]; refine hK _ ?_; clear hK K; (first | show AWP _ _ _ _ _ | show ∃ _, _ | skip)
   (repeat refine awp_seq ?_); refine awp_reg1 (by rw [hx]; kernel_rfl) fun K hK => ?_; simp (maxSteps := 1000000) [ty28, ty47]
   refine callP (hF) (by first | (simp; done) | (simp [*]; done)) ?_; simp (maxSteps := 1000000) [ty4, ty28, ty47]
   refine callP (hasx) (by first | (simp; done) | (simp [*]; done)) ?_; simp (maxSteps := 1000000) [ty4]
   refine hK _ ?_; clear hK K; (first | show AWP _ _ _ _ _ | show ∃ _, _ | skip)
   (repeat refine awp_seq ?_); refine awp_cond (by simp [hk]; rfl) (by rw [hx]; simp) (fun hd => ?_) (fun hd => ?_)
   ·clear hd
    (repeat refine awp_seq ?_); refine awp_reg1 (by rw [hx]; kernel_rfl) fun K hK => ?_; simp (maxSteps := 1000000) []
    refine callP (works15) (by first | (simp; done) | (simp [*]; done)) ?_; simp (maxSteps := 1000000) []
    refine hK _ ?_; clear hK K; (first | show AWP _ _ _ _ _ | show ∃ _, _ | skip)
    (repeat refine awp_seq ?_); refine awp_ret ?_; refine And.intro (Or.inr rfl) ?_
    simp [retC, resC, viewC, mapO]
   ·simp [hk] at hd
  ·rw [hk] at hasx
   simp only [askB, Bool.and_eq_true, decide_eq_true_eq] at hk
   obtain ⟨⟨⟨⟨k1, k2⟩, k3⟩, k4⟩, k5⟩ := hk
   have hcp := q_copy23 w hlen
   have hbl : WsLen (bareW w) := ⟨by simp [bareW], fun v hv => by simp [bareW] at hv⟩
   have hbo : openW (bareW w) true = 0 := openW_true' (bare_check hok) (bare_can hok)
   have hdb : dayB (bareW w) x.a = true := by show (decide (0 ≤ x.a) && decide (x.a ≤ w.last)) = true; simp; omega
   have c1 := w_on18 (bareW w) x.a hbl
   have c2 := w_doubt25 (bareW w) hbl
   have g1 : onW (bareW w) x.a = seqI (-w.gain) w.gain := by
    unfold onW
    rw [hdb, if_pos hbo]
    have := bare_on hok (d := x.a.toNat) (by omega)
    rw [show ((x.a.toNat : Nat) : Int) = x.a by omega] at this
    exact this
   have g2 : doubtW (bareW w) = 2 * w.gain * (w.last + 1) := (if_pos hbo).trans (bare_doubt hok)
   rw [g1, hdb, hbo] at c1
   rw [g2, hbo] at c2
   obtain ⟨_, s2, s3⟩ := seqI_span hgn.1
   generalize seqI (-w.gain) w.gain = L at *
   have hLl : (L.length : Int) = 2 * w.gain + 1 := by omega
   have hmb : 0 ≤ 2 * w.gain * (w.last + 1) ∧ 2 * w.gain * (w.last + 1) ≤ 100 * 31 := ⟨Int.mul_nonneg (by omega) (by omega), Int.mul_le_mul (by omega) (by omega) (by omega) (by omega)⟩
   have w1 : IntKind.i64.wrap (2 * w.gain) = 2 * w.gain := wrap_id (by omega) (by omega)
   have w2 : IntKind.i64.wrap (2 * w.gain + 1) = 2 * w.gain + 1 := wrap_id (by omega) (by omega)
   have w3 : IntKind.i64.wrap (w.last + 1) = w.last + 1 := wrap_id (by omega) (by omega)
   have w4 : IntKind.i64.wrap (2 * w.gain * (w.last + 1)) = 2 * w.gain * (w.last + 1) := wrap_id (by omega) (by omega)
   have q1 : ((L.length : Int) != 2 * w.gain + 1) = false := by rw [hLl]; simp
   simp only [bareW, encWs, cWs, sVs, List.map_nil] at c1 c2
   simp only [copyW] at hcp
   generalize w.vs.map copyV = vc at *
   by_cases hin : (0 ≤ v ∧ v < w.vs.length) ∧ w.wrong ≤ 0
   ·obtain ⟨⟨i1, i2⟩, i3⟩ := hin
    have hw0 : w.wrong = 0 := by have := hok.wrong; omega
    obtain ⟨i, hi⟩ : ∃ i : Nat, v = i := ⟨v.toNat, by omega⟩
    have hil : i < w.vs.length := by omega
    have hti : v.toNat = i := by omega
    have hch := hok.chk _ (List.getElem_mem hil)
    have hdi := hok.day i hil
    have d1 := gains22 (tiV w w.vs[i]) (hlen.l _ (List.getElem_mem hil))
    have d2 := w_on18 w w.vs[i].day hlen
    have d3 := w_strange28 w hlen
    have hdd : dayB w w.vs[i].day = true := by simp [dayB]; omega
    rw [hdd] at d2
    have hkT := openT_known hch
    have hkW := openW_known hck
    have kk1 := isKnown17 (openT (tiV w w.vs[i]) true)
    have kk2 := isKnown17 (openW w true)
    have hb1 : (openT (tiV w w.vs[i]) true == 0 || openT (tiV w w.vs[i]) true == 3) = true := by rcases hkT with h | h <;> rw [h] <;> rfl
    have hb2 : (openW w true == 0 || openW w true == 3) = true := by rcases hkW with h | h <;> rw [h] <;> rfl
    rw [hb1] at kk1
    rw [hb2] at kk2
    have hnl := nums_len hch
    have hol : (onW w w.vs[i].day).length ≤ 101 := by
     unfold onW; split
     ·exact onC_len _ _ _ hgn
     ·simp
    have m1 : ¬ (200 : Int) < (numsT Tr.area (tiV w w.vs[i]) true).length := by omega
    have m2 : ¬ (200 : Int) < (onW w w.vs[i].day).length := by omega
    have m3 : (openW w true != openW w true) = false := by simp
    have hz0 : openW w true = 0 → openT (tiV w w.vs[i]) true = 0 ∧ (∀ z ∈ onW w w.vs[i].day, z ∈ numsT Tr.area (tiV w w.vs[i]) true) ∧ (onW w w.vs[i].day).length ≤ (numsT Tr.area (tiV w w.vs[i]) true).length ∧ strangeW w = [] := fun hz => by
     obtain ⟨_, _, hcan⟩ := openW_ok hz
     have e1 : onW w w.vs[i].day = onC (co w (gl w)) w.vs[i].day [] := by unfold onW; rw [hdd, if_pos hz]
     have e2 : strangeW w = fixTo (strW w) w.vs.length := if_pos hz
     have hsub := visit_sub hok hw0 hil
     refine ⟨?_, by rw [e1]; exact hsub, ?_, by rw [e2]; exact no_strange hok hw0 hcan⟩
     ·obtain ⟨p, hp⟩ := (can_nil _).1 hcan
      have hm := all_right hok hw0 hp hil
      exact (numsT_mem hm).1
     ·rw [e1]
      exact sub_len _ _ ((onC_sorted _ _ _).imp fun h => by omega) hsub
    generalize numsT Tr.area (tiV w w.vs[i]) true = U at *
    generalize openT (tiV w w.vs[i]) true = eT at *
    generalize onW w w.vs[i].day = M at *
    generalize strangeW w = Q at *
    generalize openW w true = eW at *
    have n1 : ¬ v < 0 := by omega
    have n2 : ¬ (w.vs.length : Int) ≤ v := by omega
    have n3 : ¬ 0 < w.wrong := by omega
    refine pure_of (fn := Tryz.f6) [.tmp 6] ⟨Tryz.func6, rfl, by kernel_rfl⟩ (by kernel_rfl) (by kernel_rfl) (by kernel_rfl) fun x hx hσ => ?_
    (repeat refine awp_seq ?_); refine awp_reg1 (by rw [hx]; kernel_rfl) fun K hK => ?_; simp (maxSteps := 1000000) [ty28, ty47]; refine hK _ ?_; clear hK K; (first | show AWP _ _ _ _ _ | show ∃ _, _ | skip)
    (repeat refine awp_seq ?_); refine awp_reg1 (by rw [hx]; kernel_rfl) fun K hK => ?_; simp (maxSteps := 1000000) [ty28, ty47]
    refine callP (hF) (by first | (simp; done) | (simp [*]; done)) ?_; simp (maxSteps := 1000000) [ty4, ty28, ty47]
    refine callP (hasx) (by first | (simp; done) | (simp [*]; done)) ?_; simp (maxSteps := 1000000) [ty4]
    refine hK _ ?_; clear hK K; (first | show AWP _ _ _ _ _ | show ∃ _, _ | skip)
    repeat refine awp_seq ?_
    refine awp_cond (by simp [hmb]; rfl) (by rw [hx]; simp) (fun hd => absurd hd (by simp [hmb])) (fun hd => ?_)
    clear hd
    refine awp_skip ?_; (first | show AWP _ _ _ _ _ | show ∃ _, _ | skip)
    (repeat refine awp_seq ?_); refine awp_reg1 (by rw [hx]; kernel_rfl) fun K hK => ?_; simp (maxSteps := 1000000) [ty28]
    refine callP (hcp) (by first | (simp; done) | (simp [*]; done)) ?_; simp (maxSteps := 1000000) [ty28]
    refine hK _ ?_; clear hK K; (first | show AWP _ _ _ _ _ | show ∃ _, _ | skip)
    (repeat refine awp_seq ?_); refine awp_reg1 (by rw [hx]; kernel_rfl) fun K hK => ?_; simp (maxSteps := 1000000) [ty28, ty26]; refine hK _ ?_; clear hK K; (first | show AWP _ _ _ _ _ | show ∃ _, _ | skip)
    (repeat refine awp_seq ?_); refine awp_reg1 (by rw [hx]; kernel_rfl) fun K hK => ?_; simp (maxSteps := 1000000) [ty28, ty47, ty3]
    refine callP (c1) (by first | (simp; done) | (simp [*]; done)) ?_; simp (maxSteps := 1000000) [ty29]
    refine hK _ ?_; clear hK K; (first | show AWP _ _ _ _ _ | show ∃ _, _ | skip)
    (repeat refine awp_seq ?_); refine awp_reg1 (by rw [hx]; kernel_rfl) fun K hK => ?_; simp (maxSteps := 1000000) [ty28]
    refine callP (c2) (by first | (simp; done) | (simp [*]; done)) ?_; simp (maxSteps := 1000000) [ty3]
    refine hK _ ?_; clear hK K; (first | show AWP _ _ _ _ _ | show ∃ _, _ | skip)
    (repeat refine awp_seq ?_); refine awp_reg1 (by rw [hx]; kernel_rfl) fun K hK => ?_; simp (maxSteps := 1000000) [ty37, ty29, ty28, ty3, ty4, w1, w2, w3, w4, q1]; refine hK _ ?_; clear hK K; (first | show AWP _ _ _ _ _ | show ∃ _, _ | skip)
    repeat refine awp_seq ?_
    refine awp_cond (by simp [q1]; rfl) (by rw [hx]; simp) (fun hd => absurd hd (by simp [q1])) (fun hd => ?_)
    clear hd
    refine awp_skip ?_; (first | show AWP _ _ _ _ _ | show ∃ _, _ | skip)
    (repeat refine awp_seq ?_); refine awp_reg1 (by rw [hx]; kernel_rfl) fun K hK => ?_; simp (maxSteps := 1000000) [ty3]; refine hK _ ?_; clear hK K; (first | show AWP _ _ _ _ _ | show ∃ _, _ | skip)
    (repeat refine awp_seq ?_); refine awp_block ?_
    refine awp_loop (fun j : Nat => ⟨ofL [(1, encI v), (3, .ptr 3 13 0 0), (8, slI L), (12, encI j)], stoT [(3, 3, .live (obWs w))]⟩)
     (fun j => j ≤ L.length) (fun j => L.length - j) 0 (Nat.zero_le _) ?_ ?_
    rotate_left
    ·intro j hj
     by_cases hc : j < L.length
     ·have hwj : IntKind.i64.wrap ((j : Int) + 1) = ((j + 1 : Nat) : Int) := by rw [wrap_id (by omega) (by omega)]; rfl
      have hwk : IntKind.i64.wrap ((j : Int) - w.gain) = (j : Int) - w.gain := wrap_id (by omega) (by omega)
      have hlj := s3 j hc
      have hc' : (j : Int) < L.length := by omega
      (repeat refine awp_seq ?_); refine awp_reg1 (by rw [hx]; kernel_rfl) fun K hK => ?_; simp (maxSteps := 1000000) [ty29, ty3, hc]; refine hK _ ?_; clear hK K; (first | show AWP _ _ _ _ _ | show ∃ _, _ | skip)
      (repeat refine awp_seq ?_); refine awp_cond (by simp [hc]; rfl) (by rw [hx]; simp) (fun hd => ?_) (fun hd => ?_)
      ·clear hd
       refine awp_skip ?_; (first | show AWP _ _ _ _ _ | show ∃ _, _ | skip)
       (repeat refine awp_seq ?_); refine awp_block ?_
       (repeat refine awp_seq ?_); refine awp_drw3 [] [0, 1, 2, 3, 4, 5, 6, 7, 8] (by rw [hx]; kernel_rfl) (by kernel_rfl) (by kernel_rfl) (by kernel_rfl) fun K hK => ?_; simp (maxSteps := 1000000) [ty29, ty28, ty3, hc, hlj, hwk]; refine hK _ ?_; clear hK K; (first | show AWP _ _ _ _ _ | show ∃ _, _ | skip)
       (repeat refine awp_seq ?_); refine awp_cond (by simp; rfl) (by rw [hx]; simp) (fun hd => ?_) (fun hd => ?_)
       ·simp at hd
       ·clear hd
        refine awp_skip ?_; (first | show AWP _ _ _ _ _ | show ∃ _, _ | skip)
        (repeat refine awp_seq ?_); refine awp_reg1 (by rw [hx]; kernel_rfl) fun K hK => ?_; simp (maxSteps := 1000000) [ty3]; refine hK _ ?_; clear hK K; (first | show AWP _ _ _ _ _ | show ∃ _, _ | skip)
        refine ⟨j + 1, by omega, by omega, ?_⟩
        rw [hwj]
        refine wk_shape (shp0 hσ (by simp) (by simp) ?_) ?_
        ·simp [SlotOk] <;> (repeat' (first | exact .same (by simp [purel, C.isPure]) | exact .cons (by simp [mtl, mtc, mT, mH, C.isPure, purel]) (by simp) .nil | refine And.intro ?_ ?_))
        ·simp [mtc, mtl, mT, C.isPure, purel] <;> (try simp (disch := omega) [wrap_id]) <;> (try omega)
      ·simp [hc] at hd
     ·(repeat refine awp_seq ?_); refine awp_reg1 (by rw [hx]; kernel_rfl) fun K hK => ?_; simp (maxSteps := 1000000) [ty29, ty3, hc]; refine hK _ ?_; clear hK K; (first | show AWP _ _ _ _ _ | show ∃ _, _ | skip)
      (repeat refine awp_seq ?_); refine awp_cond (by simp [hc]; rfl) (by rw [hx]; simp) (fun hd => ?_) (fun hd => ?_)
      ·simp [hc] at hd
      ·clear hd
       (repeat refine awp_seq ?_); refine awp_exit ?_; (first | show AWP _ _ _ _ _ | show ∃ _, _ | skip)
       (repeat refine awp_seq ?_); refine awp_reg1 (by rw [hx]; kernel_rfl) fun K hK => ?_; simp (maxSteps := 1000000) [ty28, ty26, ty3, ty4, n1, n2, n3]; refine hK _ ?_; clear hK K; (first | show AWP _ _ _ _ _ | show ∃ _, _ | skip)
       repeat refine awp_seq ?_
       refine awp_cond (by simp [n3]; rfl) (by rw [hx]; simp) (fun hd => absurd hd (by simp [n3])) (fun hd => ?_)
       clear hd
       refine awp_skip ?_; (first | show AWP _ _ _ _ _ | show ∃ _, _ | skip)
       (repeat refine awp_seq ?_); refine awp_drw3 [] [0, 1, 2, 3, 4, 5, 6, 7, 8, 9, 10, 11, 12, 13] (by rw [hx]; kernel_rfl) (by kernel_rfl) (by kernel_rfl) (by kernel_rfl) fun K hK => ?_; simp (maxSteps := 1000000) [ty28, ty26, ty53, ty51, ty3, i1, hti, hil]
       refine callPD (q_trialOf27 w w.vs[i].nl w.vs[i].fu w.vs[i].ts) (by first | (simp; done) | (simp [*]; done)) (by simp) ?_; simp (maxSteps := 1000000) [ty62]
       refine callPD (d1) (by first | (simp; done) | (simp [*]; done)) (by simp) ?_; simp (maxSteps := 1000000) [ty29]
       refine hK _ ?_; clear hK K; (first | show AWP _ _ _ _ _ | show ∃ _, _ | skip)
       (repeat refine awp_seq ?_); refine awp_drw3 [] [0, 1, 2, 3, 4, 5, 6, 7, 8, 9, 10, 11, 12] (by rw [hx]; kernel_rfl) (by kernel_rfl) (by kernel_rfl) (by kernel_rfl) fun K hK => ?_; simp (maxSteps := 1000000) [ty28, ty26, ty53, ty3, i1, hti, hil]
       refine callPD (d2) (by first | (simp; done) | (simp [*]; done)) (by simp) ?_; simp (maxSteps := 1000000) [ty29]
       refine hK _ ?_; clear hK K; (first | show AWP _ _ _ _ _ | show ∃ _, _ | skip)
       (repeat refine awp_seq ?_); refine awp_reg1 (by rw [hx]; kernel_rfl) fun K hK => ?_; simp (maxSteps := 1000000) [ty28]
       refine callP (d3) (by first | (simp; done) | (simp [*]; done)) ?_; simp (maxSteps := 1000000) [ty29]
       refine hK _ ?_; clear hK K; (first | show AWP _ _ _ _ _ | show ∃ _, _ | skip)
       (repeat refine awp_seq ?_); refine awp_reg1 (by rw [hx]; kernel_rfl) fun K hK => ?_; simp (maxSteps := 1000000) [ty37]
       refine callP (kk1) (by first | (simp; done) | (simp [*]; done)) ?_; simp (maxSteps := 1000000) [ty4, ty37]
       refine callP (kk2) (by first | (simp; done) | (simp [*]; done)) ?_; simp (maxSteps := 1000000) [ty4, ty37, ty29, ty3, m1, m2, m3]
       refine hK _ ?_; clear hK K; (first | show AWP _ _ _ _ _ | show ∃ _, _ | skip)
       repeat refine awp_seq ?_
       refine awp_cond (by simp [m2]; rfl) (by rw [hx]; simp) (fun hd => absurd hd (by simp [m2])) (fun hd => ?_)
       clear hd
       refine awp_skip ?_; (first | show AWP _ _ _ _ _ | show ∃ _, _ | skip)
       rcases hkW with e0 | e0
       ·obtain ⟨z1, z2, z3, z4⟩ := hz0 e0
        have hsb := l_subset29 M.isEmpty M.isEmpty U.isEmpty U.isEmpty M U (by omega) (by omega) z2 z3
        subst e0
        subst z1
        subst z4
        (repeat refine awp_seq ?_); refine awp_reg1 (by rw [hx]; kernel_rfl) fun K hK => ?_; simp (maxSteps := 1000000) [ty37, ty4, ty29, ty3]
        refine callP (hsb) (by first | (simp; done) | (simp [*]; done)) ?_; simp (maxSteps := 1000000) [ty4, ty29, ty3]
        refine callP (works15) (by first | (simp; done) | (simp [*]; done)) ?_; simp (maxSteps := 1000000) [ty4]
        refine hK _ ?_; clear hK K; (first | show AWP _ _ _ _ _ | show ∃ _, _ | skip)
        (repeat refine awp_seq ?_); refine awp_ret ?_; refine And.intro (Or.inr rfl) ?_
        simp [retC, resC, viewC, mapO]
       ·subst e0
        (repeat refine awp_seq ?_); refine awp_reg1 (by rw [hx]; kernel_rfl) fun K hK => ?_; simp (maxSteps := 1000000) [ty37, ty4, ty29, ty3]
        refine callP (works15) (by first | (simp; done) | (simp [*]; done)) ?_; simp (maxSteps := 1000000) [ty4]
        refine hK _ ?_; clear hK K; (first | show AWP _ _ _ _ _ | show ∃ _, _ | skip)
        (repeat refine awp_seq ?_); refine awp_ret ?_; refine And.intro (Or.inr rfl) ?_
        simp [retC, resC, viewC, mapO]
    ·refine wk_shape (shp0 hσ (by simp) (by simp) ?_) ?_
     ·simp [SlotOk] <;> (repeat' (first | exact .same (by simp [purel, C.isPure]) | exact .cons (by simp [mtl, mtc, mT, mH, C.isPure, purel]) (by simp) .nil | refine And.intro ?_ ?_))
     ·simp [mtc, mtl, mT, C.isPure, purel] <;> (try simp (disch := omega) [wrap_id]) <;> (try omega)
   ·by_cases n1 : v < 0
    ·refine pure_of (fn := Tryz.f6) [.tmp 6] ⟨Tryz.func6, rfl, by kernel_rfl⟩ (by kernel_rfl) (by kernel_rfl) (by kernel_rfl) fun x hx hσ => ?_
     (repeat refine awp_seq ?_); refine awp_reg1 (by rw [hx]; kernel_rfl) fun K hK => ?_; simp (maxSteps := 1000000) [ty28, ty47]; refine hK _ ?_; clear hK K; (first | show AWP _ _ _ _ _ | show ∃ _, _ | skip)
     (repeat refine awp_seq ?_); refine awp_reg1 (by rw [hx]; kernel_rfl) fun K hK => ?_; simp (maxSteps := 1000000) [ty28, ty47]
     refine callP (hF) (by first | (simp; done) | (simp [*]; done)) ?_; simp (maxSteps := 1000000) [ty4, ty28, ty47]
     refine callP (hasx) (by first | (simp; done) | (simp [*]; done)) ?_; simp (maxSteps := 1000000) [ty4]
     refine hK _ ?_; clear hK K; (first | show AWP _ _ _ _ _ | show ∃ _, _ | skip)
     repeat refine awp_seq ?_
     refine awp_cond (by simp [hmb]; rfl) (by rw [hx]; simp) (fun hd => absurd hd (by simp [hmb])) (fun hd => ?_)
     clear hd
     refine awp_skip ?_; (first | show AWP _ _ _ _ _ | show ∃ _, _ | skip)
     (repeat refine awp_seq ?_); refine awp_reg1 (by rw [hx]; kernel_rfl) fun K hK => ?_; simp (maxSteps := 1000000) [ty28]
     refine callP (hcp) (by first | (simp; done) | (simp [*]; done)) ?_; simp (maxSteps := 1000000) [ty28]
     refine hK _ ?_; clear hK K; (first | show AWP _ _ _ _ _ | show ∃ _, _ | skip)
     (repeat refine awp_seq ?_); refine awp_reg1 (by rw [hx]; kernel_rfl) fun K hK => ?_; simp (maxSteps := 1000000) [ty28, ty26]; refine hK _ ?_; clear hK K; (first | show AWP _ _ _ _ _ | show ∃ _, _ | skip)
     (repeat refine awp_seq ?_); refine awp_reg1 (by rw [hx]; kernel_rfl) fun K hK => ?_; simp (maxSteps := 1000000) [ty28, ty47, ty3]
     refine callP (c1) (by first | (simp; done) | (simp [*]; done)) ?_; simp (maxSteps := 1000000) [ty29]
     refine hK _ ?_; clear hK K; (first | show AWP _ _ _ _ _ | show ∃ _, _ | skip)
     (repeat refine awp_seq ?_); refine awp_reg1 (by rw [hx]; kernel_rfl) fun K hK => ?_; simp (maxSteps := 1000000) [ty28]
     refine callP (c2) (by first | (simp; done) | (simp [*]; done)) ?_; simp (maxSteps := 1000000) [ty3]
     refine hK _ ?_; clear hK K; (first | show AWP _ _ _ _ _ | show ∃ _, _ | skip)
     (repeat refine awp_seq ?_); refine awp_reg1 (by rw [hx]; kernel_rfl) fun K hK => ?_; simp (maxSteps := 1000000) [ty37, ty29, ty28, ty3, ty4, w1, w2, w3, w4, q1]; refine hK _ ?_; clear hK K; (first | show AWP _ _ _ _ _ | show ∃ _, _ | skip)
     repeat refine awp_seq ?_
     refine awp_cond (by simp [q1]; rfl) (by rw [hx]; simp) (fun hd => absurd hd (by simp [q1])) (fun hd => ?_)
     clear hd
     refine awp_skip ?_; (first | show AWP _ _ _ _ _ | show ∃ _, _ | skip)
     (repeat refine awp_seq ?_); refine awp_reg1 (by rw [hx]; kernel_rfl) fun K hK => ?_; simp (maxSteps := 1000000) [ty3]; refine hK _ ?_; clear hK K; (first | show AWP _ _ _ _ _ | show ∃ _, _ | skip)
     (repeat refine awp_seq ?_); refine awp_block ?_
     refine awp_loop (fun j : Nat => ⟨ofL [(1, encI v), (3, .ptr 3 13 0 0), (8, slI L), (12, encI j)], stoT [(3, 3, .live (obWs w))]⟩)
      (fun j => j ≤ L.length) (fun j => L.length - j) 0 (Nat.zero_le _) ?_ ?_
     rotate_left
     ·intro j hj
      by_cases hc : j < L.length
      ·have hwj : IntKind.i64.wrap ((j : Int) + 1) = ((j + 1 : Nat) : Int) := by rw [wrap_id (by omega) (by omega)]; rfl
       have hwk : IntKind.i64.wrap ((j : Int) - w.gain) = (j : Int) - w.gain := wrap_id (by omega) (by omega)
       have hlj := s3 j hc
       have hc' : (j : Int) < L.length := by omega
       (repeat refine awp_seq ?_); refine awp_reg1 (by rw [hx]; kernel_rfl) fun K hK => ?_; simp (maxSteps := 1000000) [ty29, ty3, hc]; refine hK _ ?_; clear hK K; (first | show AWP _ _ _ _ _ | show ∃ _, _ | skip)
       (repeat refine awp_seq ?_); refine awp_cond (by simp [hc]; rfl) (by rw [hx]; simp) (fun hd => ?_) (fun hd => ?_)
       ·clear hd
        refine awp_skip ?_; (first | show AWP _ _ _ _ _ | show ∃ _, _ | skip)
        (repeat refine awp_seq ?_); refine awp_block ?_
        (repeat refine awp_seq ?_); refine awp_drw3 [] [0, 1, 2, 3, 4, 5, 6, 7, 8] (by rw [hx]; kernel_rfl) (by kernel_rfl) (by kernel_rfl) (by kernel_rfl) fun K hK => ?_; simp (maxSteps := 1000000) [ty29, ty28, ty3, hc, hlj, hwk]; refine hK _ ?_; clear hK K; (first | show AWP _ _ _ _ _ | show ∃ _, _ | skip)
        (repeat refine awp_seq ?_); refine awp_cond (by simp; rfl) (by rw [hx]; simp) (fun hd => ?_) (fun hd => ?_)
        ·simp at hd
        ·clear hd
         refine awp_skip ?_; (first | show AWP _ _ _ _ _ | show ∃ _, _ | skip)
         (repeat refine awp_seq ?_); refine awp_reg1 (by rw [hx]; kernel_rfl) fun K hK => ?_; simp (maxSteps := 1000000) [ty3]; refine hK _ ?_; clear hK K; (first | show AWP _ _ _ _ _ | show ∃ _, _ | skip)
         refine ⟨j + 1, by omega, by omega, ?_⟩
         rw [hwj]
         refine wk_shape (shp0 hσ (by simp) (by simp) ?_) ?_
         ·simp [SlotOk] <;> (repeat' (first | exact .same (by simp [purel, C.isPure]) | exact .cons (by simp [mtl, mtc, mT, mH, C.isPure, purel]) (by simp) .nil | refine And.intro ?_ ?_))
         ·simp [mtc, mtl, mT, C.isPure, purel] <;> (try simp (disch := omega) [wrap_id]) <;> (try omega)
       ·simp [hc] at hd
      ·(repeat refine awp_seq ?_); refine awp_reg1 (by rw [hx]; kernel_rfl) fun K hK => ?_; simp (maxSteps := 1000000) [ty29, ty3, hc]; refine hK _ ?_; clear hK K; (first | show AWP _ _ _ _ _ | show ∃ _, _ | skip)
       (repeat refine awp_seq ?_); refine awp_cond (by simp [hc]; rfl) (by rw [hx]; simp) (fun hd => ?_) (fun hd => ?_)
       ·simp [hc] at hd
       ·clear hd
        (repeat refine awp_seq ?_); refine awp_exit ?_; (first | show AWP _ _ _ _ _ | show ∃ _, _ | skip)
        (repeat refine awp_seq ?_); refine awp_reg1 (by rw [hx]; kernel_rfl) fun K hK => ?_; simp (maxSteps := 1000000) [ty28, ty26, ty3, ty4, n1]; refine hK _ ?_; clear hK K; (first | show AWP _ _ _ _ _ | show ∃ _, _ | skip)
        (repeat refine awp_seq ?_); refine awp_cond (by simp [n1]; rfl) (by rw [hx]; simp) (fun hd => ?_) (fun hd => ?_)
        ·clear hd
         (repeat refine awp_seq ?_); refine awp_reg1 (by rw [hx]; kernel_rfl) fun K hK => ?_; simp (maxSteps := 1000000) []
         refine callP (works15) (by first | (simp; done) | (simp [*]; done)) ?_; simp (maxSteps := 1000000) []
         refine hK _ ?_; clear hK K; (first | show AWP _ _ _ _ _ | show ∃ _, _ | skip)
         (repeat refine awp_seq ?_); refine awp_ret ?_; refine And.intro (Or.inr rfl) ?_
         simp [retC, resC, viewC, mapO]
        ·simp [n1] at hd
     ·refine wk_shape (shp0 hσ (by simp) (by simp) ?_) ?_
      ·simp [SlotOk] <;> (repeat' (first | exact .same (by simp [purel, C.isPure]) | exact .cons (by simp [mtl, mtc, mT, mH, C.isPure, purel]) (by simp) .nil | refine And.intro ?_ ?_))
      ·simp [mtc, mtl, mT, C.isPure, purel] <;> (try simp (disch := omega) [wrap_id]) <;> (try omega)
    ·by_cases n2 : (w.vs.length : Int) ≤ v
     ·refine pure_of (fn := Tryz.f6) [.tmp 6] ⟨Tryz.func6, rfl, by kernel_rfl⟩ (by kernel_rfl) (by kernel_rfl) (by kernel_rfl) fun x hx hσ => ?_
      (repeat refine awp_seq ?_); refine awp_reg1 (by rw [hx]; kernel_rfl) fun K hK => ?_; simp (maxSteps := 1000000) [ty28, ty47]; refine hK _ ?_; clear hK K; (first | show AWP _ _ _ _ _ | show ∃ _, _ | skip)
      (repeat refine awp_seq ?_); refine awp_reg1 (by rw [hx]; kernel_rfl) fun K hK => ?_; simp (maxSteps := 1000000) [ty28, ty47]
      refine callP (hF) (by first | (simp; done) | (simp [*]; done)) ?_; simp (maxSteps := 1000000) [ty4, ty28, ty47]
      refine callP (hasx) (by first | (simp; done) | (simp [*]; done)) ?_; simp (maxSteps := 1000000) [ty4]
      refine hK _ ?_; clear hK K; (first | show AWP _ _ _ _ _ | show ∃ _, _ | skip)
      repeat refine awp_seq ?_
      refine awp_cond (by simp [hmb]; rfl) (by rw [hx]; simp) (fun hd => absurd hd (by simp [hmb])) (fun hd => ?_)
      clear hd
      refine awp_skip ?_; (first | show AWP _ _ _ _ _ | show ∃ _, _ | skip)
      (repeat refine awp_seq ?_); refine awp_reg1 (by rw [hx]; kernel_rfl) fun K hK => ?_; simp (maxSteps := 1000000) [ty28]
      refine callP (hcp) (by first | (simp; done) | (simp [*]; done)) ?_; simp (maxSteps := 1000000) [ty28]
      refine hK _ ?_; clear hK K; (first | show AWP _ _ _ _ _ | show ∃ _, _ | skip)
      (repeat refine awp_seq ?_); refine awp_reg1 (by rw [hx]; kernel_rfl) fun K hK => ?_; simp (maxSteps := 1000000) [ty28, ty26]; refine hK _ ?_; clear hK K; (first | show AWP _ _ _ _ _ | show ∃ _, _ | skip)
      (repeat refine awp_seq ?_); refine awp_reg1 (by rw [hx]; kernel_rfl) fun K hK => ?_; simp (maxSteps := 1000000) [ty28, ty47, ty3]
      refine callP (c1) (by first | (simp; done) | (simp [*]; done)) ?_; simp (maxSteps := 1000000) [ty29]
      refine hK _ ?_; clear hK K; (first | show AWP _ _ _ _ _ | show ∃ _, _ | skip)
      (repeat refine awp_seq ?_); refine awp_reg1 (by rw [hx]; kernel_rfl) fun K hK => ?_; simp (maxSteps := 1000000) [ty28]
      refine callP (c2) (by first | (simp; done) | (simp [*]; done)) ?_; simp (maxSteps := 1000000) [ty3]
      refine hK _ ?_; clear hK K; (first | show AWP _ _ _ _ _ | show ∃ _, _ | skip)
      (repeat refine awp_seq ?_); refine awp_reg1 (by rw [hx]; kernel_rfl) fun K hK => ?_; simp (maxSteps := 1000000) [ty37, ty29, ty28, ty3, ty4, w1, w2, w3, w4, q1]; refine hK _ ?_; clear hK K; (first | show AWP _ _ _ _ _ | show ∃ _, _ | skip)
      repeat refine awp_seq ?_
      refine awp_cond (by simp [q1]; rfl) (by rw [hx]; simp) (fun hd => absurd hd (by simp [q1])) (fun hd => ?_)
      clear hd
      refine awp_skip ?_; (first | show AWP _ _ _ _ _ | show ∃ _, _ | skip)
      (repeat refine awp_seq ?_); refine awp_reg1 (by rw [hx]; kernel_rfl) fun K hK => ?_; simp (maxSteps := 1000000) [ty3]; refine hK _ ?_; clear hK K; (first | show AWP _ _ _ _ _ | show ∃ _, _ | skip)
      (repeat refine awp_seq ?_); refine awp_block ?_
      refine awp_loop (fun j : Nat => ⟨ofL [(1, encI v), (3, .ptr 3 13 0 0), (8, slI L), (12, encI j)], stoT [(3, 3, .live (obWs w))]⟩)
       (fun j => j ≤ L.length) (fun j => L.length - j) 0 (Nat.zero_le _) ?_ ?_
      rotate_left
      ·intro j hj
       by_cases hc : j < L.length
       ·have hwj : IntKind.i64.wrap ((j : Int) + 1) = ((j + 1 : Nat) : Int) := by rw [wrap_id (by omega) (by omega)]; rfl
        have hwk : IntKind.i64.wrap ((j : Int) - w.gain) = (j : Int) - w.gain := wrap_id (by omega) (by omega)
        have hlj := s3 j hc
        have hc' : (j : Int) < L.length := by omega
        (repeat refine awp_seq ?_); refine awp_reg1 (by rw [hx]; kernel_rfl) fun K hK => ?_; simp (maxSteps := 1000000) [ty29, ty3, hc]; refine hK _ ?_; clear hK K; (first | show AWP _ _ _ _ _ | show ∃ _, _ | skip)
        (repeat refine awp_seq ?_); refine awp_cond (by simp [hc]; rfl) (by rw [hx]; simp) (fun hd => ?_) (fun hd => ?_)
        ·clear hd
         refine awp_skip ?_; (first | show AWP _ _ _ _ _ | show ∃ _, _ | skip)
         (repeat refine awp_seq ?_); refine awp_block ?_
         (repeat refine awp_seq ?_); refine awp_drw3 [] [0, 1, 2, 3, 4, 5, 6, 7, 8] (by rw [hx]; kernel_rfl) (by kernel_rfl) (by kernel_rfl) (by kernel_rfl) fun K hK => ?_; simp (maxSteps := 1000000) [ty29, ty28, ty3, hc, hlj, hwk]; refine hK _ ?_; clear hK K; (first | show AWP _ _ _ _ _ | show ∃ _, _ | skip)
         (repeat refine awp_seq ?_); refine awp_cond (by simp; rfl) (by rw [hx]; simp) (fun hd => ?_) (fun hd => ?_)
         ·simp at hd
         ·clear hd
          refine awp_skip ?_; (first | show AWP _ _ _ _ _ | show ∃ _, _ | skip)
          (repeat refine awp_seq ?_); refine awp_reg1 (by rw [hx]; kernel_rfl) fun K hK => ?_; simp (maxSteps := 1000000) [ty3]; refine hK _ ?_; clear hK K; (first | show AWP _ _ _ _ _ | show ∃ _, _ | skip)
          refine ⟨j + 1, by omega, by omega, ?_⟩
          rw [hwj]
          refine wk_shape (shp0 hσ (by simp) (by simp) ?_) ?_
          ·simp [SlotOk] <;> (repeat' (first | exact .same (by simp [purel, C.isPure]) | exact .cons (by simp [mtl, mtc, mT, mH, C.isPure, purel]) (by simp) .nil | refine And.intro ?_ ?_))
          ·simp [mtc, mtl, mT, C.isPure, purel] <;> (try simp (disch := omega) [wrap_id]) <;> (try omega)
        ·simp [hc] at hd
       ·(repeat refine awp_seq ?_); refine awp_reg1 (by rw [hx]; kernel_rfl) fun K hK => ?_; simp (maxSteps := 1000000) [ty29, ty3, hc]; refine hK _ ?_; clear hK K; (first | show AWP _ _ _ _ _ | show ∃ _, _ | skip)
        (repeat refine awp_seq ?_); refine awp_cond (by simp [hc]; rfl) (by rw [hx]; simp) (fun hd => ?_) (fun hd => ?_)
        ·simp [hc] at hd
        ·clear hd
         (repeat refine awp_seq ?_); refine awp_exit ?_; (first | show AWP _ _ _ _ _ | show ∃ _, _ | skip)
         (repeat refine awp_seq ?_); refine awp_reg1 (by rw [hx]; kernel_rfl) fun K hK => ?_; simp (maxSteps := 1000000) [ty28, ty26, ty3, ty4, n1, n2]; refine hK _ ?_; clear hK K; (first | show AWP _ _ _ _ _ | show ∃ _, _ | skip)
         (repeat refine awp_seq ?_); refine awp_cond (by simp [n2]; rfl) (by rw [hx]; simp) (fun hd => ?_) (fun hd => ?_)
         ·clear hd
          (repeat refine awp_seq ?_); refine awp_reg1 (by rw [hx]; kernel_rfl) fun K hK => ?_; simp (maxSteps := 1000000) []
          refine callP (works15) (by first | (simp; done) | (simp [*]; done)) ?_; simp (maxSteps := 1000000) []
          refine hK _ ?_; clear hK K; (first | show AWP _ _ _ _ _ | show ∃ _, _ | skip)
          (repeat refine awp_seq ?_); refine awp_ret ?_; refine And.intro (Or.inr rfl) ?_
          simp [retC, resC, viewC, mapO]
         ·simp [n2] at hd
      ·refine wk_shape (shp0 hσ (by simp) (by simp) ?_) ?_
       ·simp [SlotOk] <;> (repeat' (first | exact .same (by simp [purel, C.isPure]) | exact .cons (by simp [mtl, mtc, mT, mH, C.isPure, purel]) (by simp) .nil | refine And.intro ?_ ?_))
       ·simp [mtc, mtl, mT, C.isPure, purel] <;> (try simp (disch := omega) [wrap_id]) <;> (try omega)
     ·have n3 : 0 < w.wrong := by omega
      refine pure_of (fn := Tryz.f6) [.tmp 6] ⟨Tryz.func6, rfl, by kernel_rfl⟩ (by kernel_rfl) (by kernel_rfl) (by kernel_rfl) fun x hx hσ => ?_
      (repeat refine awp_seq ?_); refine awp_reg1 (by rw [hx]; kernel_rfl) fun K hK => ?_; simp (maxSteps := 1000000) [ty28, ty47]; refine hK _ ?_; clear hK K; (first | show AWP _ _ _ _ _ | show ∃ _, _ | skip)
      (repeat refine awp_seq ?_); refine awp_reg1 (by rw [hx]; kernel_rfl) fun K hK => ?_; simp (maxSteps := 1000000) [ty28, ty47]
      refine callP (hF) (by first | (simp; done) | (simp [*]; done)) ?_; simp (maxSteps := 1000000) [ty4, ty28, ty47]
      refine callP (hasx) (by first | (simp; done) | (simp [*]; done)) ?_; simp (maxSteps := 1000000) [ty4]
      refine hK _ ?_; clear hK K; (first | show AWP _ _ _ _ _ | show ∃ _, _ | skip)
      repeat refine awp_seq ?_
      refine awp_cond (by simp [hmb]; rfl) (by rw [hx]; simp) (fun hd => absurd hd (by simp [hmb])) (fun hd => ?_)
      clear hd
      refine awp_skip ?_; (first | show AWP _ _ _ _ _ | show ∃ _, _ | skip)
      (repeat refine awp_seq ?_); refine awp_reg1 (by rw [hx]; kernel_rfl) fun K hK => ?_; simp (maxSteps := 1000000) [ty28]
      refine callP (hcp) (by first | (simp; done) | (simp [*]; done)) ?_; simp (maxSteps := 1000000) [ty28]
      refine hK _ ?_; clear hK K; (first | show AWP _ _ _ _ _ | show ∃ _, _ | skip)
      (repeat refine awp_seq ?_); refine awp_reg1 (by rw [hx]; kernel_rfl) fun K hK => ?_; simp (maxSteps := 1000000) [ty28, ty26]; refine hK _ ?_; clear hK K; (first | show AWP _ _ _ _ _ | show ∃ _, _ | skip)
      (repeat refine awp_seq ?_); refine awp_reg1 (by rw [hx]; kernel_rfl) fun K hK => ?_; simp (maxSteps := 1000000) [ty28, ty47, ty3]
      refine callP (c1) (by first | (simp; done) | (simp [*]; done)) ?_; simp (maxSteps := 1000000) [ty29]
      refine hK _ ?_; clear hK K; (first | show AWP _ _ _ _ _ | show ∃ _, _ | skip)
      (repeat refine awp_seq ?_); refine awp_reg1 (by rw [hx]; kernel_rfl) fun K hK => ?_; simp (maxSteps := 1000000) [ty28]
      refine callP (c2) (by first | (simp; done) | (simp [*]; done)) ?_; simp (maxSteps := 1000000) [ty3]
      refine hK _ ?_; clear hK K; (first | show AWP _ _ _ _ _ | show ∃ _, _ | skip)
      (repeat refine awp_seq ?_); refine awp_reg1 (by rw [hx]; kernel_rfl) fun K hK => ?_; simp (maxSteps := 1000000) [ty37, ty29, ty28, ty3, ty4, w1, w2, w3, w4, q1]; refine hK _ ?_; clear hK K; (first | show AWP _ _ _ _ _ | show ∃ _, _ | skip)
      repeat refine awp_seq ?_
      refine awp_cond (by simp [q1]; rfl) (by rw [hx]; simp) (fun hd => absurd hd (by simp [q1])) (fun hd => ?_)
      clear hd
      refine awp_skip ?_; (first | show AWP _ _ _ _ _ | show ∃ _, _ | skip)
      (repeat refine awp_seq ?_); refine awp_reg1 (by rw [hx]; kernel_rfl) fun K hK => ?_; simp (maxSteps := 1000000) [ty3]; refine hK _ ?_; clear hK K; (first | show AWP _ _ _ _ _ | show ∃ _, _ | skip)
      (repeat refine awp_seq ?_); refine awp_block ?_
      refine awp_loop (fun j : Nat => ⟨ofL [(1, encI v), (3, .ptr 3 13 0 0), (8, slI L), (12, encI j)], stoT [(3, 3, .live (obWs w))]⟩)
       (fun j => j ≤ L.length) (fun j => L.length - j) 0 (Nat.zero_le _) ?_ ?_
      rotate_left
      ·intro j hj
       by_cases hc : j < L.length
       ·have hwj : IntKind.i64.wrap ((j : Int) + 1) = ((j + 1 : Nat) : Int) := by rw [wrap_id (by omega) (by omega)]; rfl
        have hwk : IntKind.i64.wrap ((j : Int) - w.gain) = (j : Int) - w.gain := wrap_id (by omega) (by omega)
        have hlj := s3 j hc
        have hc' : (j : Int) < L.length := by omega
        (repeat refine awp_seq ?_); refine awp_reg1 (by rw [hx]; kernel_rfl) fun K hK => ?_; simp (maxSteps := 1000000) [ty29, ty3, hc]; refine hK _ ?_; clear hK K; (first | show AWP _ _ _ _ _ | show ∃ _, _ | skip)
        (repeat refine awp_seq ?_); refine awp_cond (by simp [hc]; rfl) (by rw [hx]; simp) (fun hd => ?_) (fun hd => ?_)
        ·clear hd
         refine awp_skip ?_; (first | show AWP _ _ _ _ _ | show ∃ _, _ | skip)
         (repeat refine awp_seq ?_); refine awp_block ?_
         (repeat refine awp_seq ?_); refine awp_drw3 [] [0, 1, 2, 3, 4, 5, 6, 7, 8] (by rw [hx]; kernel_rfl) (by kernel_rfl) (by kernel_rfl) (by kernel_rfl) fun K hK => ?_; simp (maxSteps := 1000000) [ty29, ty28, ty3, hc, hlj, hwk]; refine hK _ ?_; clear hK K; (first | show AWP _ _ _ _ _ | show ∃ _, _ | skip)
         (repeat refine awp_seq ?_); refine awp_cond (by simp; rfl) (by rw [hx]; simp) (fun hd => ?_) (fun hd => ?_)
         ·simp at hd
         ·clear hd
          refine awp_skip ?_; (first | show AWP _ _ _ _ _ | show ∃ _, _ | skip)
          (repeat refine awp_seq ?_); refine awp_reg1 (by rw [hx]; kernel_rfl) fun K hK => ?_; simp (maxSteps := 1000000) [ty3]; refine hK _ ?_; clear hK K; (first | show AWP _ _ _ _ _ | show ∃ _, _ | skip)
          refine ⟨j + 1, by omega, by omega, ?_⟩
          rw [hwj]
          refine wk_shape (shp0 hσ (by simp) (by simp) ?_) ?_
          ·simp [SlotOk] <;> (repeat' (first | exact .same (by simp [purel, C.isPure]) | exact .cons (by simp [mtl, mtc, mT, mH, C.isPure, purel]) (by simp) .nil | refine And.intro ?_ ?_))
          ·simp [mtc, mtl, mT, C.isPure, purel] <;> (try simp (disch := omega) [wrap_id]) <;> (try omega)
        ·simp [hc] at hd
       ·(repeat refine awp_seq ?_); refine awp_reg1 (by rw [hx]; kernel_rfl) fun K hK => ?_; simp (maxSteps := 1000000) [ty29, ty3, hc]; refine hK _ ?_; clear hK K; (first | show AWP _ _ _ _ _ | show ∃ _, _ | skip)
        (repeat refine awp_seq ?_); refine awp_cond (by simp [hc]; rfl) (by rw [hx]; simp) (fun hd => ?_) (fun hd => ?_)
        ·simp [hc] at hd
        ·clear hd
         (repeat refine awp_seq ?_); refine awp_exit ?_; (first | show AWP _ _ _ _ _ | show ∃ _, _ | skip)
         (repeat refine awp_seq ?_); refine awp_reg1 (by rw [hx]; kernel_rfl) fun K hK => ?_; simp (maxSteps := 1000000) [ty28, ty26, ty3, ty4, n1, n2, n3]; refine hK _ ?_; clear hK K; (first | show AWP _ _ _ _ _ | show ∃ _, _ | skip)
         (repeat refine awp_seq ?_); refine awp_cond (by simp [n3]; rfl) (by rw [hx]; simp) (fun hd => ?_) (fun hd => ?_)
         ·clear hd
          (repeat refine awp_seq ?_); refine awp_reg1 (by rw [hx]; kernel_rfl) fun K hK => ?_; simp (maxSteps := 1000000) []
          refine callP (works15) (by first | (simp; done) | (simp [*]; done)) ?_; simp (maxSteps := 1000000) []
          refine hK _ ?_; clear hK K; (first | show AWP _ _ _ _ _ | show ∃ _, _ | skip)
          (repeat refine awp_seq ?_); refine awp_ret ?_; refine And.intro (Or.inr rfl) ?_
          simp [retC, resC, viewC, mapO]
         ·simp [n3] at hd
      ·refine wk_shape (shp0 hσ (by simp) (by simp) ?_) ?_
       ·simp [SlotOk] <;> (repeat' (first | exact .same (by simp [purel, C.isPure]) | exact .cons (by simp [mtl, mtc, mT, mH, C.isPure, purel]) (by simp) .nil | refine And.intro ?_ ?_))
       ·simp [mtc, mtl, mT, C.isPure, purel] <;> (try simp (disch := omega) [wrap_id]) <;> (try omega)

open Go.ChangeShapes Go.WideShapes Go.ChangeAt Go.RowKit

set_option maxRecDepth 100000 in
theorem wearVisit_lifted (os : Os) (started : os.Started) (H : Type) (enc : TypeId × Value → H) :
  ReturnsInHanded {} Tryz.checked os 6 .any (Rows.wearVisitSpec.pre6 enc Tryz.prog Tryz.f6 Rows.wearVisitRow.domain false) (Rows.wearVisitSpec.post enc Tryz.prog Tryz.f6 false true false false) := by
 refine returnsInHanded_of_change (C := Tryz.checked) J.own started (by kernel_rfl) Tryz.func6
  (ChangeSpec.witness6 (enc := enc) (C := Tryz.checked) false ⟨#[], #[.agg #[.int .i64 0, .int .i64 0, .int .i64 0, .int .i64 0, .int .i64 0, .int .i64 0, .int .i64 0, .int .i64 0, .int .i64 0, .int .i64 0, .int .i64 0, .slice none 0 0, .int .i64 0], .int .i64 0, .agg #[.int .i64 0, .int .i64 0, .int .i64 0, .int .i64 0]], []⟩ 8 (by kernel_rfl) (by kernel_rfl) (by kernel_rfl) (by kernel_rfl)) ?_
 intro W base args ds gs before hval hW _ _
 refine law_contract (P := Tryz.prog) (tb := 4) (by kernel_rfl) J.ub rfl (fun ds hl => ?_) J.laid J.maps J.sized (by kernel_rfl) (by kernel_rfl) (fun cargs hc => ?_) W base args ds gs before hval hW
 ·have h2 : ds.length = 3 := hl
  match ds, h2 with
  | [_, _, _], _ => rfl
 ·rw [Tryz.params6] at hc
  obtain ⟨w, r, rfl, hc1⟩ := argWear hc
  obtain ⟨v, r1, rfl, hc2⟩ := argInt hc1
  obtain ⟨x, r2, rfl, hc3⟩ := argAsk hc2
  obtain rfl := arg_end hc3
  exact law6 w v x

theorem wearVisit_holds : Rows.WearVisitSaid :=
 OpenClaim.holds_of_wide 6 Tryz.f6 rfl rfl rfl rfl rfl rfl rfl ⟨rfl, rfl, rfl, rfl, rfl⟩ rfl rfl rfl rfl rfl (by kernel_rfl) Tryz.func6 (by kernel_rfl)
  (of_decide_eq_true (by kernel_rfl)) (by unfold Func.isWrapper; first | (rw [if_pos (by decide +kernel)]; kernel_rfl) | (rw [if_neg (by decide +kernel)]; exact ⟨rfl, rfl⟩))
  (fun os started H enc _ => wearVisit_lifted os started H enc)
#print axioms wearVisit_holds
end Go.Proofs.YtknoachjpoibaaaGreat

