/- For every input the law WearDue returns true, and each argument reads afterwards as it read before. No condition. -/
import Derived.Test.YtknoachjpoibaaaGreatB6

set_option linter.unusedSimpArgs false
set_option linter.unusedVariables false
set_option linter.constructorNameAsVariable false

namespace Go.Proofs.YtknoachjpoibaaaGreat
open Go Go.Abs

set_option maxHeartbeats 16000000

-- THE THEOREM OF THE DAY TO COME BACK






theorem awp_mid {P : Program} {x : Ctx} {a b : Code} {s : AS} {Q : Exit → AS → Prop} (m : AS) (h1 : AWP P x a s (nextQ (fun s' => Wk x s' m) Q)) (h2 : AWP P x b m Q) : AWP P x (.seq a b) s Q := by
 refine awp_seq (AWP.mono h1 ?_)
 intro e s' h
 cases e with
 | normal => exact AWP.weak h2 h
 | _ => exact h

theorem l_class14 (k : Cl) : Pure Tryz.prog 14 [encCl k] (.bool (classB k)) := q_isClass20 k

theorem law3 (w : Ws) (nl fu : Bool) (l : List Int) (k : Cl) (m : Int) : Pure Tryz.prog 3 [encWs w, .sl nl fu (l.map cI), .agg [encI k.size, encI k.most, encI m]] (.bool true) := by
 obtain ⟨f, hF, hf⟩ := ready13 w
 have hcl := l_class14 k
 cases f
 ·refine ZF (fn := Tryz.f3) [.tmp 6] ⟨Tryz.func3, rfl, by kernel_rfl⟩ fun x hx hσ => ?_
  (repeat refine ZQ ?_); refine ZR fun K hK => ?_; simp (maxSteps := 1000000) [ty28, ty33]; refine hK _ ?_; clear hK K
  (repeat refine ZQ ?_); refine ZR fun K hK => ?_; simp (maxSteps := 1000000) [ty28, ty33]
  refine ZP (hF) ?_; simp (maxSteps := 1000000) [ty4]
  refine hK _ ?_; clear hK K
  (repeat refine ZQ ?_); refine ZC (hc := by simp [hf]; rfl) (fun hd => ?_) (fun hd => ?_)
  ·clear hd
   (repeat refine ZQ ?_); refine ZR fun K hK => ?_; simp (maxSteps := 1000000)
   refine ZP (works15) ?_; simp (maxSteps := 1000000)
   refine hK _ ?_; clear hK K
   (repeat refine ZQ ?_); refine awp_ret ?_; refine And.intro (Or.inr rfl) ?_
   simp [retC, resC, viewC, mapO]
  ·simp [hf] at hd
 ·obtain ⟨hck, hnear⟩ := hf rfl
  have hok := checkW_ok.1 hck
  have hlen := hnear.len
  have hsm := hnear.small hck
  have hla := hok.last
  have hgn := hok.num.gain
  by_cases h40 : (40 : Int) < l.length
  ·refine ZF (fn := Tryz.f3) [.tmp 6] ⟨Tryz.func3, rfl, by kernel_rfl⟩ fun x hx hσ => ?_
   (repeat refine ZQ ?_); refine ZR fun K hK => ?_; simp (maxSteps := 1000000) [ty28, ty33]; refine hK _ ?_; clear hK K
   (repeat refine ZQ ?_); refine ZR fun K hK => ?_; simp (maxSteps := 1000000) [ty28, ty33]
   refine ZP (hF) ?_; simp (maxSteps := 1000000) [ty4, ty29, ty3, h40]
   refine hK _ ?_; clear hK K
   (repeat refine ZQ ?_); refine ZC (hc := by simp [h40]; rfl) (fun hd => ?_) (fun hd => ?_)
   ·clear hd
    (repeat refine ZQ ?_); refine ZR fun K hK => ?_; simp (maxSteps := 1000000)
    refine ZP (works15) ?_; simp (maxSteps := 1000000)
    refine hK _ ?_; clear hK K
    (repeat refine ZQ ?_); refine awp_ret ?_; refine And.intro (Or.inr rfl) ?_
    simp [retC, resC, viewC, mapO]
   ·simp [h40] at hd
  ·cases hk : classB k
   ·rw [hk] at hcl
    refine ZF (fn := Tryz.f3) [.tmp 6] ⟨Tryz.func3, rfl, by kernel_rfl⟩ fun x hx hσ => ?_
    (repeat refine ZQ ?_); refine ZR fun K hK => ?_; simp (maxSteps := 1000000) [ty28, ty33]; refine hK _ ?_; clear hK K
    (repeat refine ZQ ?_); refine ZR fun K hK => ?_; simp (maxSteps := 1000000) [ty28, ty33]
    refine ZP (hF) ?_; simp (maxSteps := 1000000) [ty4, ty29, ty3, h40, ty33, ty31]
    refine ZP (hcl) ?_; simp (maxSteps := 1000000) [ty4]
    refine hK _ ?_; clear hK K
    (repeat refine ZQ ?_); refine ZC (hc := by simp [hk]; rfl) (fun hd => ?_) (fun hd => ?_)
    ·clear hd
     (repeat refine ZQ ?_); refine ZR fun K hK => ?_; simp (maxSteps := 1000000)
     refine ZP (works15) ?_; simp (maxSteps := 1000000)
     refine hK _ ?_; clear hK K
     (repeat refine ZQ ?_); refine awp_ret ?_; refine And.intro (Or.inr rfl) ?_
     simp [retC, resC, viewC, mapO]
    ·simp [hk] at hd
   ·rw [hk] at hcl
    by_cases h0 : m < 0
    ·refine ZF (fn := Tryz.f3) [.tmp 6] ⟨Tryz.func3, rfl, by kernel_rfl⟩ fun x hx hσ => ?_
     (repeat refine ZQ ?_); refine ZR fun K hK => ?_; simp (maxSteps := 1000000) [ty28, ty33]; refine hK _ ?_; clear hK K
     (repeat refine ZQ ?_); refine ZR fun K hK => ?_; simp (maxSteps := 1000000) [ty28, ty33]
     refine ZP (hF) ?_; simp (maxSteps := 1000000) [ty4, ty29, ty3, h40, ty33, ty31]
     refine ZP (hcl) ?_; simp (maxSteps := 1000000) [ty4, ty33, ty3, h0]
     refine hK _ ?_; clear hK K
     (repeat refine ZQ ?_); refine ZC (hc := by simp [h0]; rfl) (fun hd => ?_) (fun hd => ?_)
     ·clear hd
      (repeat refine ZQ ?_); refine ZR fun K hK => ?_; simp (maxSteps := 1000000)
      refine ZP (works15) ?_; simp (maxSteps := 1000000)
      refine hK _ ?_; clear hK K
      (repeat refine ZQ ?_); refine awp_ret ?_; refine And.intro (Or.inr rfl) ?_
      simp [retC, resC, viewC, mapO]
     ·simp [h0] at hd
    ·by_cases h9 : 9999 < m
     ·refine ZF (fn := Tryz.f3) [.tmp 6] ⟨Tryz.func3, rfl, by kernel_rfl⟩ fun x hx hσ => ?_
      (repeat refine ZQ ?_); refine ZR fun K hK => ?_; simp (maxSteps := 1000000) [ty28, ty33]; refine hK _ ?_; clear hK K
      (repeat refine ZQ ?_); refine ZR fun K hK => ?_; simp (maxSteps := 1000000) [ty28, ty33]
      refine ZP (hF) ?_; simp (maxSteps := 1000000) [ty4, ty29, ty3, h40, ty33, ty31]
      refine ZP (hcl) ?_; simp (maxSteps := 1000000) [ty4, ty33, ty3, h0, h9]
      refine hK _ ?_; clear hK K
      (repeat refine ZQ ?_); refine ZC (hc := by simp [h9]; rfl) (fun hd => ?_) (fun hd => ?_)
      ·clear hd
       (repeat refine ZQ ?_); refine ZR fun K hK => ?_; simp (maxSteps := 1000000)
       refine ZP (works15) ?_; simp (maxSteps := 1000000)
       refine hK _ ?_; clear hK K
       (repeat refine ZQ ?_); refine awp_ret ?_; refine And.intro (Or.inr rfl) ?_
       simp [retC, resC, viewC, mapO]
      ·simp [h9] at hd
     ·have hkb : (0 ≤ k.size ∧ k.size ≤ 9000) ∧ 0 ≤ k.most ∧ k.most ≤ 9999 := by
       have : (areaB k.size && countB k.most) = true := hk
       simpa [areaB, countB] using this
      have hkn := dueE_known hck hk
      have hd16 := w_due16 w k hlen
      have hkk := isKnown17 (dueE w k)
      have hon := fun n => w_on18 w n hlen
      obtain ⟨k2, hk2⟩ : ∃ k2 : Cl, k2 = ⟨k.size, k.most + m⟩ := ⟨_, rfl⟩
      have hw2 : IntKind.i64.wrap (k.most + m) = k.most + m := wrap_id (by omega) (by omega)
      have hcl2 := l_class14 k2
      have hd2 := w_due16 w k2 hlen
      have hkk2 := isKnown17 (dueE w k2)
      have hkn2 : classB k2 = true → dueE w k2 = 0 ∨ dueE w k2 = 3 := fun h => dueE_known hck h
      have hwd : dueE w k2 = 0 → dueE w k = 0 ∧ dueV w k ≤ dueV w k2 := fun h => by rw [hk2] at h ⊢; exact due_wide (by omega) hk h
      have hk2s : k2.size = k.size := by rw [hk2]
      have hk2m : k2.most = k.most + m := by rw [hk2]
      have htr := q_isTruth20 w nl fu l hlen hok (by omega)
      have hbf := fun (d : Nat) (hd : d < l.length) (ht : isTruB w l = true) => due_before hok hk ht hd
      have hby := fun g hg => q_beyond19 k g hkb.1 hg
      have hlb : isTruB w l = true → ∀ d (hd : d < l.length), -50 ≤ l[d] ∧ l[d] ≤ 50 := fun ht d hd => by
       obtain ⟨h1, h2⟩ := (isTruB_iff hok).1 ht
       have := alC_bd (h2.1.1 d (by simp only; omega))
       rw [pF_at hd] at this
       simp only at this
       omega
      have hd0 : dueE w k = 0 → (0 ≤ dueV w k ∧ dueV w k ≤ w.last) ∧ openW w (dayB w (dueV w k)) = 0 ∧ (onW w (dueV w k) ≠ [] ∧ (onW w (dueV w k)).length ≤ 100 ∧ (∀ z ∈ onW w (dueV w k), -w.gain ≤ z ∧ z ≤ w.gain) ∧ (onW w (dueV w k)).any (byC k) = true) := fun h => by
       obtain ⟨h1, n, h2, h3⟩ := dueE_zero h
       obtain ⟨g1, g2, g3⟩ := due_some h2
       simp only at g1
       obtain ⟨_, _, hcan⟩ := openW_ok h1
       have hdb : dayB w (dueV w k) = true := by rw [h3]; simp [dayB]; omega
       have hop : openW w (dayB w (dueV w k)) = 0 := by rw [hdb]; exact openW_true' hck hcan
       have hoe : onW w (dueV w k) = onC (co w (gl w)) (n : Nat) [] := by unfold onW; rw [if_pos hop, h3]
       refine ⟨by rw [h3]; omega, hop, ?_⟩
       rw [hoe]
       refine ⟨?_, ?_, fun z hz => ?_, g2⟩
       ·intro e; rw [e] at g2; simp at g2
       ·have := List.length_filter_le (onB (co w (gl w)) (n : Nat) []) (seqI (-w.gain) w.gain)
        have h2 : (seqI (-w.gain) w.gain).length = (w.gain - -w.gain + 1).toNat := seqN_len _ _
        unfold onC
        simp only
        omega
       ·have := onC_bd hz; simpa using this
      simp only [encCl, cCl, hk2s, hk2m] at hcl2 hd2
      generalize hE : dueE w k = E at *
      generalize hV : dueV w k = V at *
      generalize dueE w k2 = E2 at *
      generalize dueV w k2 = V2 at *
      have hkb2 : (E == 0 || E == 3) = true := by rcases hkn with h | h <;> rw [h] <;> rfl
      rw [hkb2] at hkk
      refine ZF (fn := Tryz.f3) [.tmp 6] ⟨Tryz.func3, rfl, by kernel_rfl⟩ fun x hx hσ => ?_
      (repeat refine ZQ ?_); refine ZR fun K hK => ?_; simp (maxSteps := 1000000) [ty28, ty33]; refine hK _ ?_; clear hK K
      (repeat refine ZQ ?_); refine ZR fun K hK => ?_; simp (maxSteps := 1000000) [ty28, ty33]
      refine ZP (hF) ?_; simp (maxSteps := 1000000) [ty4, ty29, ty3, h40, ty33, ty31]
      refine ZP (hcl) ?_; simp (maxSteps := 1000000) [ty4, ty33, ty3, h0, h9]
      refine hK _ ?_; clear hK K; (first | show AWP _ _ _ _ _ | show ∃ _, _ | skip)
      repeat refine awp_seq ?_
      refine awp_cond (by simp [h9]; rfl) (by rw [hx]; simp) (fun hd => absurd hd (by simp [h9])) (fun hd => ?_)
      clear hd
      refine awp_skip ?_
      (repeat refine ZQ ?_); refine ZR fun K hK => ?_; simp (maxSteps := 1000000) [ty28, ty33, ty31]
      refine ZP (hd16) ?_; simp (maxSteps := 1000000)
      refine hK _ ?_; clear hK K
      refine awp_mid ⟨ofL [(1, .sl nl fu (l.map cI)), (3, .ptr 3 13 0 0), (5, .ptr 5 3 0 0), (7, encI V), (8, encI E)], stoT [(3, 3, .live (obWs w)), (5, 5, .live ⟨false, false, 3, [[encI k.size, encI k.most, encI m]]⟩)]⟩ ?_ ?_
      ·(repeat refine ZQ ?_); refine ZR fun K hK => ?_; simp (maxSteps := 1000000) [ty37, ty28, ty3]
       refine ZP (hkk) ?_; simp (maxSteps := 1000000) [ty4, ty37, ty28, ty3]
       cases hE0 : E == 0
       ·simp [hE0]
        refine hK _ ?_; clear hK K; (first | show AWP _ _ _ _ _ | show ∃ _, _ | skip)
        repeat refine awp_seq ?_
        refine awp_cond (by simp [hE0]; rfl) (by rw [hx]; simp) (fun hd => absurd hd (by simp [hE0])) (fun hd => ?_)
        clear hd
        refine awp_skip ?_; (first | show AWP _ _ _ _ _ | show ∃ _, _ | skip)
        exact ZW
       ·have hEz : E = 0 := by simpa using hE0
        obtain ⟨hv, _⟩ := hd0 hEz
        have q1 : ¬ V < 0 := by omega
        have q2 : ¬ w.last < V := by omega
        simp [hE0, q1, q2, ty28, ty3]
        refine hK _ ?_; clear hK K; (first | show AWP _ _ _ _ _ | show ∃ _, _ | skip)
        repeat refine awp_seq ?_
        refine awp_cond (by simp [q2]; rfl) (by rw [hx]; simp) (fun hd => absurd hd (by simp [q2])) (fun hd => ?_)
        clear hd
        refine awp_skip ?_; (first | show AWP _ _ _ _ _ | show ∃ _, _ | skip)
        exact ZW
      refine awp_mid ⟨ofL [(1, .sl nl fu (l.map cI)), (3, .ptr 3 13 0 0), (5, .ptr 5 3 0 0), (7, encI V), (8, encI E)], stoT [(3, 3, .live (obWs w)), (5, 5, .live ⟨false, false, 3, [[encI k.size, encI k.most, encI m]]⟩)]⟩ ?_ ?_
      ·cases hE0 : E == 0
       ·(repeat refine ZQ ?_); refine ZR fun K hK => ?_; simp (maxSteps := 1000000) [ty37, hE0]; refine hK _ ?_; clear hK K; (first | show AWP _ _ _ _ _ | show ∃ _, _ | skip)
        repeat refine awp_seq ?_
        refine awp_cond (by simp [hE0]; rfl) (by rw [hx]; simp) (fun hd => absurd hd (by simp [hE0])) (fun hd => ?_)
        clear hd
        refine awp_skip ?_; (first | show AWP _ _ _ _ _ | show ∃ _, _ | skip)
        exact ZW
       ·have hEz : E = 0 := by simpa using hE0
        obtain ⟨hv, hop, hne, hl100, hrng, hany⟩ := hd0 hEz
        (repeat refine ZQ ?_); refine ZR fun K hK => ?_; simp (maxSteps := 1000000) [ty37, hE0]; refine hK _ ?_; clear hK K
        (repeat refine ZQ ?_); refine ZC (fun hd => ?_) (fun hd => ?_)
        ·clear hd
         have honV := hon V
         rw [hop] at honV
         generalize onW w V = L at *
         have hLp : 0 < L.length := List.length_pos_iff.2 hne
         have q3 : ((L.length : Int) == 0) = false := by rw [beq_eq_false_iff_ne]; omega
         have q4 : ¬ (100 : Int) < L.length := by omega
         have hwg : IntKind.i64.wrap (-w.gain) = -w.gain := wrap_id (by omega) (by omega)
         (repeat refine ZQ ?_); refine ZR fun K hK => ?_; simp (maxSteps := 1000000) [ty28, ty3]
         refine ZP (honV) ?_; simp (maxSteps := 1000000) [ty29]
         refine hK _ ?_; clear hK K
         (repeat refine ZQ ?_); refine ZR fun K hK => ?_; simp (maxSteps := 1000000) [ty37, ty29, ty3, q3, q4]; refine hK _ ?_; clear hK K; (first | show AWP _ _ _ _ _ | show ∃ _, _ | skip)
         repeat refine awp_seq ?_
         refine awp_cond (by simp [q4]; rfl) (by rw [hx]; simp) (fun hd => absurd hd (by simp [q4])) (fun hd => ?_)
         clear hd
         refine awp_skip ?_
         (repeat refine ZQ ?_); refine ZR fun K hK => ?_; simp (maxSteps := 1000000) [ty4]; refine hK _ ?_; clear hK K
         (repeat refine ZQ ?_); refine ZR fun K hK => ?_; simp (maxSteps := 1000000) [ty3]; refine hK _ ?_; clear hK K
         (repeat refine ZQ ?_); refine awp_block ?_
         refine awp_loop (fun i : Nat => ⟨ofL [(1, .sl nl fu (l.map cI)), (3, .ptr 3 13 0 0), (5, .ptr 5 3 0 0), (7, encI V), (8, encI E), (9, slI L), (11, .bool ((L.take i).any (byC k))), (12, encI i)], stoT [(3, 3, .live (obWs w)), (5, 5, .live ⟨false, false, 3, [[encI k.size, encI k.most, encI m]]⟩)]⟩)
          (fun i => i ≤ L.length) (fun i => L.length - i) 0 (Nat.zero_le _) ?_ ?_
         ·simp only [List.take_zero, List.any_nil]
          exact ZW
         ·intro i hi
          (repeat refine ZQ ?_); refine ZR fun K hK => ?_; simp (maxSteps := 1000000) [ty29, ty3]; refine hK _ ?_; clear hK K
          (repeat refine ZQ ?_); refine ZC (fun hc => ?_) (fun hc => ?_)
          ·simp at hc
           have hwi : IntKind.i64.wrap ((i : Int) + 1) = ((i + 1 : Nat) : Int) := by rw [wrap_id (by omega) (by omega)]; rfl
           have hrg := hrng _ (List.getElem_mem hc)
           have hst : (L.take (i + 1)).any (byC k) = ((L.take i).any (byC k) || byC k L[i]) := by
            rw [List.take_succ_eq_append_getElem hc, List.any_append]; simp
           have hbi := hby L[i] (by omega)
           have p1 : ¬ L[i] < -w.gain := by omega
           have p2 : ¬ w.gain < L[i] := by omega
           refine awp_skip ?_
           (repeat refine ZQ ?_); refine awp_block ?_
           (repeat refine ZQ ?_); refine ZD [] [0, 1, 2, 3, 4, 5, 6, 7, 8, 9, 10, 11, 12, 13, 14, 15, 16] fun K hK => ?_; simp (maxSteps := 1000000) [ty29, ty28, ty3, hc, hwg, p1, p2]; refine hK _ ?_; clear hK K; (first | show AWP _ _ _ _ _ | show ∃ _, _ | skip)
           repeat refine awp_seq ?_
           refine awp_cond (by simp [p2]; rfl) (by rw [hx]; simp) (fun hd => absurd hd (by simp [p2])) (fun hd => ?_)
           clear hd
           refine awp_skip ?_; (first | show AWP _ _ _ _ _ | show ∃ _, _ | skip)
           cases hpre : (L.take i).any (byC k)
           ·rw [hpre] at hst
            simp only [Bool.false_or] at hst
            (repeat refine ZQ ?_); refine ZD [] [0, 1, 2, 3, 4, 5, 6, 7, 8, 9, 10] fun K hK => ?_; simp (maxSteps := 1000000) [ty33, ty31, ty29, ty3, ty4, hc]
            refine ZE (hbi) ?_; simp (maxSteps := 1000000) [ty4]
            refine hK _ ?_; clear hK K
            (repeat refine ZQ ?_); refine ZR fun K hK => ?_; simp (maxSteps := 1000000) [ty3]; refine hK _ ?_; clear hK K; (first | show AWP _ _ _ _ _ | show ∃ _, _ | skip)
            refine ⟨i + 1, by omega, by omega, ?_⟩
            rw [hst, hwi]
            exact ZW
           ·rw [hpre] at hst
            simp only [Bool.true_or] at hst
            (repeat refine ZQ ?_); refine ZD [] [0, 1, 2, 3, 4, 5, 6, 7, 8, 9, 10] fun K hK => ?_; simp (maxSteps := 1000000) [ty33, ty31, ty29, ty3, ty4, hc]; refine hK _ ?_; clear hK K
            (repeat refine ZQ ?_); refine ZR fun K hK => ?_; simp (maxSteps := 1000000) [ty3]; refine hK _ ?_; clear hK K; (first | show AWP _ _ _ _ _ | show ∃ _, _ | skip)
            refine ⟨i + 1, by omega, by omega, ?_⟩
            rw [hst, hwi]
            exact ZW
          ·simp at hc
           (repeat refine ZQ ?_); refine awp_exit ?_; (first | show AWP _ _ _ _ _ | show ∃ _, _ | skip)
           have hiL : i = L.length := by omega
           rw [hiL, List.take_length, hany]
           (repeat refine ZQ ?_); refine ZR fun K hK => ?_; simp (maxSteps := 1000000) [ty4]; refine hK _ ?_; clear hK K
           (repeat refine ZQ ?_); refine ZC (fun hd => ?_) (fun hd => ?_)
           ·simp at hd
           ·clear hd
            refine awp_skip ?_; (first | show AWP _ _ _ _ _ | show ∃ _, _ | skip)
            exact ZW
        ·simp at hd
      (repeat refine ZQ ?_); refine ZR fun K hK => ?_; simp (maxSteps := 1000000) [ty33, ty31, ty3, hw2]; refine hK _ ?_; clear hK K
      refine awp_mid ⟨ofL [(1, .sl nl fu (l.map cI)), (3, .ptr 3 13 0 0), (5, .ptr 5 3 0 0), (7, encI V), (8, encI E)], stoT [(3, 3, .live (obWs w)), (5, 5, .live ⟨false, false, 3, [[encI k.size, encI k.most, encI m]]⟩)]⟩ ?_ ?_
      ·cases hb2 : classB k2
       ·rw [hb2] at hcl2
        (repeat refine ZQ ?_); refine ZR fun K hK => ?_; simp (maxSteps := 1000000) [ty31]
        refine ZP (hcl2) ?_; simp (maxSteps := 1000000) [ty4]
        refine hK _ ?_; clear hK K
        (repeat refine ZQ ?_); refine ZC (fun hd => ?_) (fun hd => ?_)
        ·simp at hd
        ·clear hd
         refine awp_skip ?_; (first | show AWP _ _ _ _ _ | show ∃ _, _ | skip)
         exact ZW
       ·rw [hb2] at hcl2
        (repeat refine ZQ ?_); refine ZR fun K hK => ?_; simp (maxSteps := 1000000) [ty31]
        refine ZP (hcl2) ?_; simp (maxSteps := 1000000) [ty4]
        refine hK _ ?_; clear hK K
        (repeat refine ZQ ?_); refine ZC (fun hd => ?_) (fun hd => ?_)
        ·clear hd
         rcases hkn2 hb2 with e2 | e2
         ·obtain ⟨w1, w2⟩ := hwd e2
          have w1' : (E != 0) = false := by rw [w1]; rfl
          have w2' : ¬ V2 < V := by omega
          rw [e2] at hkk2 hd2
          (repeat refine ZQ ?_); refine ZR fun K hK => ?_; simp (maxSteps := 1000000) [ty28, ty31]
          refine ZP (hd2) ?_; simp (maxSteps := 1000000)
          refine hK _ ?_; clear hK K
          (repeat refine ZQ ?_); refine ZR fun K hK => ?_; simp (maxSteps := 1000000) [ty37]
          refine ZP (hkk2) ?_; simp (maxSteps := 1000000) [ty4, ty37, ty3, w1', w2']
          refine hK _ ?_; clear hK K
          (repeat refine ZQ ?_); refine ZC (hc := by simp [w2']; rfl) (fun hd => ?_) (fun hd => ?_)
          ·simp [w2'] at hd
          ·clear hd
           refine awp_skip ?_; (first | show AWP _ _ _ _ _ | show ∃ _, _ | skip)
           exact ZW
         ·rw [e2] at hkk2 hd2
          (repeat refine ZQ ?_); refine ZR fun K hK => ?_; simp (maxSteps := 1000000) [ty28, ty31]
          refine ZP (hd2) ?_; simp (maxSteps := 1000000)
          refine hK _ ?_; clear hK K
          (repeat refine ZQ ?_); refine ZR fun K hK => ?_; simp (maxSteps := 1000000) [ty37]
          refine ZP (hkk2) ?_; simp (maxSteps := 1000000) [ty4, ty37, ty3]
          refine hK _ ?_; clear hK K
          (repeat refine ZQ ?_); refine ZC (fun hd => ?_) (fun hd => ?_)
          ·simp at hd
          ·clear hd
           refine awp_skip ?_; (first | show AWP _ _ _ _ _ | show ∃ _, _ | skip)
           exact ZW
        ·simp at hd
      ·cases ht : isTruB w l
       ·rw [ht] at htr
        (repeat refine ZQ ?_); refine ZR fun K hK => ?_; simp (maxSteps := 1000000) [ty28, ty29]
        refine ZP (htr) ?_; simp (maxSteps := 1000000) [ty4]
        refine hK _ ?_; clear hK K
        (repeat refine ZQ ?_); refine ZC (fun hd => ?_) (fun hd => ?_)
        ·clear hd
         (repeat refine ZQ ?_); refine ZR fun K hK => ?_; simp (maxSteps := 1000000)
         refine ZP (works15) ?_; simp (maxSteps := 1000000)
         refine hK _ ?_; clear hK K
         (repeat refine ZQ ?_); refine awp_ret ?_; refine And.intro (Or.inr rfl) ?_
         simp [retC, resC, viewC, mapO]
        ·simp at hd
       ·rw [ht] at htr hbf hlb
        (repeat refine ZQ ?_); refine ZR fun K hK => ?_; simp (maxSteps := 1000000) [ty28, ty29]
        refine ZP (htr) ?_; simp (maxSteps := 1000000) [ty4]
        refine hK _ ?_; clear hK K
        (repeat refine ZQ ?_); refine ZC (fun hd => ?_) (fun hd => ?_)
        ·simp at hd
        ·clear hd
         refine awp_skip ?_
         (repeat refine ZQ ?_); refine ZR fun K hK => ?_; simp (maxSteps := 1000000) [ty3]; refine hK _ ?_; clear hK K
         (repeat refine ZQ ?_); refine awp_block ?_
         refine awp_loop (fun i : Nat => ⟨ofL [(1, .sl nl fu (l.map cI)), (5, .ptr 5 3 0 0), (7, encI V), (8, encI E), (16, encI i)], stoT [(5, 5, .live ⟨false, false, 3, [[encI k.size, encI k.most, encI m]]⟩)]⟩)
          (fun i => i ≤ l.length) (fun i => l.length - i) 0 (Nat.zero_le _) ?_ ?_
         ·exact Zw
         ·intro i hi
          by_cases hil : (i : Int) < l.length
          ·have hil' : i < l.length := by omega
           have hwi : IntKind.i64.wrap ((i : Int) + 1) = ((i + 1 : Nat) : Int) := by rw [wrap_id (by omega) (by omega)]; rfl
           have hgb := hlb rfl i hil'
           have hcal := hby l[i] (by omega)
           by_cases hgo : E = 0 → (i : Int) < V
           ·rw [hbf i hil' rfl hgo] at hcal
            cases hE1 : E == 0
            ·have hE2 : (E != 0) = true := by unfold bne; rw [hE1]; rfl
             (repeat refine ZQ ?_); refine ZR fun K hK => ?_; simp (maxSteps := 1000000) [ty29, ty3, ty4, ty37, hil, hil', hE2]; refine hK _ ?_; clear hK K
             (repeat refine ZQ ?_); refine ZC (fun hd => ?_) (fun hd => ?_)
             ·clear hd
              refine awp_skip ?_
              (repeat refine ZQ ?_); refine awp_block ?_
              (repeat refine ZQ ?_); refine ZD [] [0, 1, 2, 3, 4, 5, 6] fun K hK => ?_; simp (maxSteps := 1000000) [ty33, ty31, ty29, ty3, hil, hil']
              refine ZE (hcal) ?_; simp (maxSteps := 1000000) [ty4]
              refine hK _ ?_; clear hK K
              (repeat refine ZQ ?_); refine ZC (fun hd => ?_) (fun hd => ?_)
              ·simp at hd
              ·clear hd
               refine awp_skip ?_
               (repeat refine ZQ ?_); refine ZR fun K hK => ?_; simp (maxSteps := 1000000) [ty3]; refine hK _ ?_; clear hK K; (first | show AWP _ _ _ _ _ | show ∃ _, _ | skip)
               refine ⟨i + 1, by omega, by omega, ?_⟩
               rw [hwi]
               exact Zw
             ·simp at hd
            ·have hiV : (i : Int) < V := hgo (by simpa using hE1)
             have hE2 : (E != 0) = false := by unfold bne; rw [hE1]; rfl
             (repeat refine ZQ ?_); refine ZR fun K hK => ?_; simp (maxSteps := 1000000) [ty29, ty3, ty4, ty37, hil, hil', hE2, hiV]; refine hK _ ?_; clear hK K
             (repeat refine ZQ ?_); refine ZC (hc := by simp [hiV]; rfl) (fun hd => ?_) (fun hd => ?_)
             ·clear hd
              refine awp_skip ?_
              (repeat refine ZQ ?_); refine awp_block ?_
              (repeat refine ZQ ?_); refine ZD [] [0, 1, 2, 3, 4, 5, 6] fun K hK => ?_; simp (maxSteps := 1000000) [ty33, ty31, ty29, ty3, hil, hil']
              refine ZE (hcal) ?_; simp (maxSteps := 1000000) [ty4]
              refine hK _ ?_; clear hK K
              (repeat refine ZQ ?_); refine ZC (fun hd => ?_) (fun hd => ?_)
              ·simp at hd
              ·clear hd
               refine awp_skip ?_
               (repeat refine ZQ ?_); refine ZR fun K hK => ?_; simp (maxSteps := 1000000) [ty3]; refine hK _ ?_; clear hK K; (first | show AWP _ _ _ _ _ | show ∃ _, _ | skip)
               refine ⟨i + 1, by omega, by omega, ?_⟩
               rw [hwi]
               exact Zw
             ·simp [hiV] at hd
           ·have hE1 : (E == 0) = true := by
             rw [beq_iff_eq]; exact Classical.byContradiction fun e => hgo fun h => absurd h e
            have hiV : ¬ (i : Int) < V := fun h => hgo fun _ => h
            have hE2 : (E != 0) = false := by unfold bne; rw [hE1]; rfl
            (repeat refine ZQ ?_); refine ZR fun K hK => ?_; simp (maxSteps := 1000000) [ty29, ty3, ty4, ty37, hil, hil', hE2, hiV]; refine hK _ ?_; clear hK K
            (repeat refine ZQ ?_); refine ZC (hc := by simp [hiV]; rfl) (fun hd => ?_) (fun hd => ?_)
            ·simp [hiV] at hd
            ·clear hd
             (repeat refine ZQ ?_); refine awp_exit ?_
             (repeat refine ZQ ?_); refine ZR fun K hK => ?_; simp (maxSteps := 1000000)
             refine ZP (works15) ?_; simp (maxSteps := 1000000)
             refine hK _ ?_; clear hK K
             (repeat refine ZQ ?_); refine awp_ret ?_; refine And.intro (Or.inr rfl) ?_
             simp [retC, resC, viewC, mapO]
          ·(repeat refine ZQ ?_); refine ZR fun K hK => ?_; simp (maxSteps := 1000000) [ty29, ty3, ty4, ty37, hil]; refine hK _ ?_; clear hK K
           (repeat refine ZQ ?_); refine ZC (hc := by simp [hil]; rfl) (fun hd => ?_) (fun hd => ?_)
           ·simp [hil] at hd
           ·clear hd
            (repeat refine ZQ ?_); refine awp_exit ?_
            (repeat refine ZQ ?_); refine ZR fun K hK => ?_; simp (maxSteps := 1000000)
            refine ZP (works15) ?_; simp (maxSteps := 1000000)
            refine hK _ ?_; clear hK K
            (repeat refine ZQ ?_); refine awp_ret ?_; refine And.intro (Or.inr rfl) ?_
            simp [retC, resC, viewC, mapO]

open Go.ChangeShapes Go.WideShapes Go.ChangeAt Go.RowKit

set_option maxRecDepth 100000 in
theorem wearDue_lifted (os : Os) (started : os.Started) (H : Type) (enc : TypeId × Value → H) :
  ReturnsInHanded {} Tryz.checked os 3 .any (Rows.wearDueSpec.pre6 enc Tryz.prog Tryz.f3 Rows.wearDueRow.domain false) (Rows.wearDueSpec.post enc Tryz.prog Tryz.f3 false true false false) := by
 refine returnsInHanded_of_change (C := Tryz.checked) J.own started (by kernel_rfl) Tryz.func3
  (ChangeSpec.witness6 (enc := enc) (C := Tryz.checked) false ⟨#[], #[.agg #[.int .i64 0, .int .i64 0, .int .i64 0, .int .i64 0, .int .i64 0, .int .i64 0, .int .i64 0, .int .i64 0, .int .i64 0, .int .i64 0, .int .i64 0, .slice none 0 0, .int .i64 0], .slice none 0 0, .agg #[.int .i64 0, .int .i64 0, .int .i64 0]], []⟩ 8 (by kernel_rfl) (by kernel_rfl) (by kernel_rfl) (by kernel_rfl)) ?_
 intro W base args ds gs before hval hW _ _
 refine law_contract (P := Tryz.prog) (tb := 4) (by kernel_rfl) J.ub rfl (fun ds hl => ?_) J.laid J.maps J.sized (by kernel_rfl) (by kernel_rfl) (fun cargs hc => ?_) W base args ds gs before hval hW
 ·have h2 : ds.length = 3 := hl
  match ds, h2 with
  | [_, _, _], _ => rfl
 ·rw [Tryz.params3] at hc
  obtain ⟨w, r, rfl, hc1⟩ := argWear hc
  obtain ⟨nl, l, r1, rfl, hc2⟩ := argInts hc1
  obtain ⟨k, m, r2, rfl, hc3⟩ := argLater hc2
  obtain rfl := arg_end hc3
  exact law3 w nl false l k m

theorem wearDue_holds : Rows.WearDueSaid :=
 OpenClaim.holds_of_wide 3 Tryz.f3 rfl rfl rfl rfl rfl rfl rfl ⟨rfl, rfl, rfl, rfl, rfl⟩ rfl rfl rfl rfl rfl (by kernel_rfl) Tryz.func3 (by kernel_rfl)
  (of_decide_eq_true (by kernel_rfl)) (by unfold Func.isWrapper; first | (rw [if_pos (by decide +kernel)]; kernel_rfl) | (rw [if_neg (by decide +kernel)]; exact ⟨rfl, rfl⟩))
  (fun os started H enc _ => wearDue_lifted os started H enc)
#print axioms wearDue_holds
end Go.Proofs.YtknoachjpoibaaaGreat

