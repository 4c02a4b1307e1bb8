/- For every input the law ParcelsFills returns true, and each argument reads afterwards as it read before. No condition. -/
import Derived.Test.YtgcmjidphcafnaaB6

set_option linter.unusedSimpArgs false
set_option linter.unusedVariables false
set_option linter.constructorNameAsVariable false

namespace Go.Proofs.Ytgcmjidphcafnaa
open Go Go.Abs

set_option maxHeartbeats 4000000
set_option maxRecDepth 100000


theorem three11 (p : Plat) (hn : NlOk p) : Pure Try.prog 11 [encPlat p] (.bool true) := by
  by_cases hrd : ¬ FarP p ∧ PlatOk p
  · have hp := hrd.2
    obtain ⟨b, hb⟩ : ∃ b : Bool, b = true ↔ IsP p (areasTo p p.ps.length) := ⟨@decide (IsP p (areasTo p p.ps.length)) (Classical.propDecidable _), by simp⟩
    have h8 := hp.n8
    have hr13 := ready_yes hrd
    by_cases hf : Fe p
    · obtain ⟨s, n, kk, R⟩ := res4_fe p hp hn.pn hf
      have h25 := R.p25
      have h37 := R.p37
      have h38 := R.p38
      have hk17 := known_ok
      refine pure_of (fn := Try.f11) [.tmp 2] ⟨Try.func11, rfl, by kernel_rfl⟩ (by kernel_rfl) (by kernel_rfl) (by kernel_rfl) fun x hx hσ => ?_
      repeat refine awp_seq ?_
      refine awp_reg1 (by rw [hx]; kernel_rfl) fun K hK => ?_
      simp (config := { maxSteps := 1000000 }) [ty25]
      refine hK _ ?_
      clear hK K
      first | show AWP _ _ _ _ _ | show ∃ _, _ | skip
      repeat refine awp_seq ?_
      refine awp_reg1 (by rw [hx]; kernel_rfl) fun K hK => ?_
      simp (config := { maxSteps := 1000000 }) [ty25]
      refine callP (hr13) (by first | (simp; done) | (simp [*]; done)) ?_
      simp (config := { maxSteps := 1000000 }) []
      refine hK _ ?_
      clear hK K
      first | show AWP _ _ _ _ _ | show ∃ _, _ | skip
      repeat refine awp_seq ?_
      refine awp_cond (by simp; rfl) (by rw [hx]; simp) (fun hd => ?_) (fun hd => ?_)
      · simp at hd
      clear hd
      refine awp_skip ?_
      first | show AWP _ _ _ _ _ | show ∃ _, _ | skip
      repeat refine awp_seq ?_
      refine awp_reg1 (by rw [hx]; kernel_rfl) fun K hK => ?_
      simp (config := { maxSteps := 1000000 }) [ty25]
      refine callP (h25) (by first | (simp; done) | (simp [*]; done)) ?_
      simp (config := { maxSteps := 1000000 }) []
      refine hK _ ?_
      clear hK K
      first | show AWP _ _ _ _ _ | show ∃ _, _ | skip
      repeat refine awp_seq ?_
      refine awp_reg1 (by rw [hx]; kernel_rfl) fun K hK => ?_
      simp (config := { maxSteps := 1000000 }) [ty25]
      refine callP (h37) (by first | (simp; done) | (simp [*]; done)) ?_
      simp (config := { maxSteps := 1000000 }) []
      refine hK _ ?_
      clear hK K
      first | show AWP _ _ _ _ _ | show ∃ _, _ | skip
      repeat refine awp_seq ?_
      refine awp_reg1 (by rw [hx]; kernel_rfl) fun K hK => ?_
      simp (config := { maxSteps := 1000000 }) [ty25]
      refine callP (h38) (by first | (simp; done) | (simp [*]; done)) ?_
      simp (config := { maxSteps := 1000000 }) []
      refine hK _ ?_
      clear hK K
      first | show AWP _ _ _ _ _ | show ∃ _, _ | skip
      repeat refine awp_seq ?_
      refine awp_reg1 (by rw [hx]; kernel_rfl) fun K hK => ?_
      simp (config := { maxSteps := 1000000 }) [ty30]
      refine callP (hk17) (by first | (simp; done) | (simp [*]; done)) ?_
      simp (config := { maxSteps := 1000000 }) [ty30]
      refine hK _ ?_
      clear hK K
      first | show AWP _ _ _ _ _ | show ∃ _, _ | skip
      repeat refine awp_seq ?_
      refine awp_cond (by simp; rfl) (by rw [hx]; simp) (fun hd => ?_) (fun hd => ?_)
      · simp at hd
      clear hd
      refine awp_skip ?_
      first | show AWP _ _ _ _ _ | show ∃ _, _ | skip
      repeat refine awp_seq ?_
      refine awp_reg1 (by rw [hx]; kernel_rfl) fun K hK => ?_
      simp (config := { maxSteps := 1000000 }) []
      refine hK _ ?_
      clear hK K
      first | show AWP _ _ _ _ _ | show ∃ _, _ | skip
      repeat refine awp_seq ?_
      refine awp_reg1 (by rw [hx]; kernel_rfl) fun K hK => ?_
      simp (config := { maxSteps := 1000000 }) []
      refine hK _ ?_
      clear hK K
      first | show AWP _ _ _ _ _ | show ∃ _, _ | skip
      refine AWP.weak ?_ (wk_nil 9 3001 1 (fu := true) (by simp) (by simp))
      repeat refine awp_seq ?_
      refine awp_block ?_
      refine awp_loop (fun i : Nat => ⟨ofL [(1, .ptr 1 3 0 0), (3, encI s), (4, encI 0), (5, encI n), (7, encI kk), (9, .own 3001 1 0 (areasTo p i).length), (10, encI i)], stoT [(1, 1, .live (obPlat p)), (3001, 3001, .live ⟨(areasTo p i).isEmpty, false, 1, (areasTo p i).map cI⟩)]⟩)
        (fun i => i ≤ p.ps.length) (fun i => p.ps.length - i) 0 (by simp) ?_ ?_
      · refine wk_shape (shp0 hσ (by simp) (by simp) ?_) ?_
        · simp [SlotOk, areasTo]; exact ⟨.same (plat_pure p), .same rfl⟩
        · simp [mtc, mtl, mT, C.isPure, areasTo]
      · intro i hi
        repeat refine awp_seq ?_
        refine awp_reg1 (by rw [hx]; kernel_rfl) fun K hK => ?_
        simp (config := { maxSteps := 1000000 }) [ty25, ty22, ty3]
        refine hK _ ?_
        clear hK K
        first | show AWP _ _ _ _ _ | show ∃ _, _ | skip
        repeat refine awp_seq ?_
        refine awp_cond (by simp; rfl) (by rw [hx]; simp) (fun hc => ?_) (fun hc => ?_)
        · simp at hc
          have hal := areasTo_len p i (by omega)
          have hne : p.ps ≠ [] := by intro h; rw [h] at hc; simp at hc
          refine awp_skip ?_
          first | show AWP _ _ _ _ _ | show ∃ _, _ | skip
          repeat refine awp_seq ?_
          refine awp_block ?_
          repeat refine awp_seq ?_
          refine awp_reg1 (by rw [hx]; kernel_rfl) fun K hK => ?_
          simp (config := { maxSteps := 1000000 }) [ty25, ty22, ty45, ty23, ty3, hc, hne]
          refine ⟨by omega, ?_⟩
          have ea : (areasTo p i).map cI ++ [[C.int IntKind.i64 p.ps[i].area]] = (areasTo p (i + 1)).map cI := by rw [areasTo_succ p i hc]; simp
          have hal2 := areasTo_len p (i + 1) (by omega)
          have hem : (areasTo p (i + 1)).isEmpty = false := by cases h : areasTo p (i + 1) with | nil => rw [h] at hal2; simp at hal2 | cons a b => rfl
          simp [ea, hal]
          refine hK _ ?_
          clear hK K
          first | show AWP _ _ _ _ _ | show ∃ _, _ | skip
          repeat refine awp_seq ?_
          refine awp_reg1 (by rw [hx]; kernel_rfl) fun K hK => ?_
          simp (config := { maxSteps := 1000000 }) [ty3]
          refine hK _ ?_
          clear hK K
          first | show AWP _ _ _ _ _ | show ∃ _, _ | skip
          refine ⟨i + 1, by omega, by omega, ?_⟩
          refine wk_shape (T := [(1, 1, .live (obPlat p)), (3001, 60, .live ⟨(areasTo p (i + 1)).isEmpty, false, 1, (areasTo p (i + 1)).map cI⟩)]) (shp0 hσ (by simp) (by simp) ?_) ?_
          · simp [SlotOk, hem]
            exact ⟨.same (plat_pure p), .same (ints_pure _)⟩
          · simp [mtc, mtl, mT, C.isPure, purel, hal2]
            simp (disch := omega) [wrap_id]
        · simp at hc
          repeat refine awp_seq ?_
          refine awp_exit ?_
          first | show AWP _ _ _ _ _ | show ∃ _, _ | skip
          obtain rfl : i = p.ps.length := by omega
          have hal := areasTo_len p p.ps.length (Nat.le_refl _)
          repeat refine awp_seq ?_
          refine awp_reg1 (by rw [hx]; kernel_rfl) fun K hK => ?_
          simp (config := { maxSteps := 1000000 }) [ty25]
          refine callL (fills35 p ((areasTo p p.ps.length).isEmpty && !false) (areasTo p p.ps.length) (by omega) (by have := hp.r4; omega) (by have := hp.c4; omega) hn.rn hn.cn 0 b (.inr (.inr ⟨by simp [hp], hal, rfl, hb⟩))) ?_ (.inr rfl) ?_
          · refine mapO_two (viewC_self (plat_pure1 p)) (viewC_own (m := (areasTo p p.ps.length).length) (o := ⟨(areasTo p p.ps.length).isEmpty, false, 1, (areasTo p p.ps.length).map cI⟩) rfl rfl (by simp) (ints_pure _))
          simp
          refine hK _ ?_
          clear hK K
          first | show AWP _ _ _ _ _ | show ∃ _, _ | skip
          repeat refine awp_seq ?_
          refine awp_reg1 (by rw [hx]; kernel_rfl) fun K hK => ?_
          simp (config := { maxSteps := 1000000 }) [ty30]
          refine hK _ ?_
          clear hK K
          first | show AWP _ _ _ _ _ | show ∃ _, _ | skip
          repeat refine awp_seq ?_
          refine awp_cond (by simp; rfl) (by rw [hx]; simp) (fun hd => ?_) (fun hd => ?_)
          · simp at hd
          clear hd
          refine awp_skip ?_
          first | show AWP _ _ _ _ _ | show ∃ _, _ | skip
          repeat refine awp_seq ?_
          refine awp_reg1 (by rw [hx]; kernel_rfl) fun K hK => ?_
          simp (config := { maxSteps := 1000000 }) [ty30]
          refine hK _ ?_
          clear hK K
          first | show AWP _ _ _ _ _ | show ∃ _, _ | skip
          repeat refine awp_seq ?_
          refine awp_cond (by simp; rfl) (by rw [hx]; simp) (fun hd => ?_) (fun hd => ?_)
          · simp at hd
          clear hd
          refine awp_skip ?_
          first | show AWP _ _ _ _ _ | show ∃ _, _ | skip
          obtain ⟨g0, g1, g2, g3, g4, g5, g6, g7, g8⟩ := three_law hp R.hs R.hw R.hf R.k8 R.n99
          rw [← hb] at g6 g7 g8
          have hk8 := R.k8
          have u1 : ¬ s < n := by omega
          have m1 : ¬ (if (kk : Int) < if n < s then n else s then (kk : Int) else if n < s then n else s) < 0 := by repeat' split <;> omega
          have m2 : ¬ 792 < (if (if s < n then n else s) < (kk : Int) then (kk : Int) else if s < n then n else s) := by repeat' split <;> omega
          have m3 : ¬ 792 < s := by omega
          have u2 : ¬ s < (kk : Int) := by omega
          have hnl : n * (p.ps.length : Int) ≤ 99 * p.ps.length := Int.mul_le_mul_of_nonneg_right R.n99 (by omega)
          have wnl : IntKind.i64.wrap (n * (p.ps.length : Int)) = n * (p.ps.length : Int) := wrap_id (by omega) (by omega)
          have u3 : ¬ n * (p.ps.length : Int) < s := by omega
          have u4 : ¬ p.ps.length < kk := by omega
          repeat refine awp_seq ?_
          refine awp_reg1 (by rw [hx]; kernel_rfl) fun K hK => ?_
          simp (config := { maxSteps := 1000000 }) [ty25, ty22, ty3, m1, m2, u1, u2, wnl, u3, u4, m3]
          refine hK _ ?_
          clear hK K
          first | show AWP _ _ _ _ _ | show ∃ _, _ | skip
          repeat refine awp_seq ?_
          refine awp_cond (by simp; rfl) (by rw [hx]; simp) (fun he => ?_) (fun he => ?_)
          · simp at he
          clear he
          refine awp_skip ?_
          first | show AWP _ _ _ _ _ | show ∃ _, _ | skip
          cases b with
          | true =>
            have z1 : s = 0 := g6.2 rfl
            have z2 : n = 0 := g7.2 rfl
            have z3 : kk = 0 := g8.2 rfl
            repeat refine awp_seq ?_
            refine awp_reg1 (by rw [hx]; kernel_rfl) fun K hK => ?_
            simp (config := { maxSteps := 1000000 }) [z1, z2, z3, ty3, ty4]
            refine callP (works14) (by first | (simp; done) | (simp [*]; done)) ?_
            simp (config := { maxSteps := 1000000 }) [ty3, ty4]
            refine hK _ ?_
            clear hK K
            first | show AWP _ _ _ _ _ | show ∃ _, _ | skip
            repeat refine awp_seq ?_
            refine awp_ret ?_
            refine And.intro (Or.inr rfl) ?_
            simp [retC, resC, viewC, mapO]
          | false =>
            have z1 : ¬ s = 0 := fun h => by have := g6.1 h; simp at this
            have z2 : ¬ n = 0 := fun h => by have := g7.1 h; simp at this
            have z3 : ¬ (kk : Int) = 0 := fun h => by have := g8.1 (by omega); simp at this
            have z4 : ¬ kk = 0 := by omega
            have y1 : (s == 0) = false := by simpa using z1
            have y2 : (n == 0) = false := by simpa using z2
            have y3 : ((kk : Int) == 0) = false := by simpa using z4
            repeat refine awp_seq ?_
            refine awp_reg1 (by rw [hx]; kernel_rfl) fun K hK => ?_
            simp (config := { maxSteps := 1000000 }) [y1, y2, y3, ty3, ty4]
            refine callP (works14) (by first | (simp; done) | (simp [*]; done)) ?_
            simp (config := { maxSteps := 1000000 }) [ty3, ty4]
            refine hK _ ?_
            clear hK K
            first | show AWP _ _ _ _ _ | show ∃ _, _ | skip
            repeat refine awp_seq ?_
            refine awp_ret ?_
            refine And.intro (Or.inr rfl) ?_
            simp [retC, resC, viewC, mapO]
    · obtain ⟨h25, h37, h38⟩ := res4_no p hp hn.pn hf
      have hk17 := known_none
      refine pure_of (fn := Try.f11) [.tmp 2] ⟨Try.func11, rfl, by kernel_rfl⟩ (by kernel_rfl) (by kernel_rfl) (by kernel_rfl) fun x hx hσ => ?_
      repeat refine awp_seq ?_
      refine awp_reg1 (by rw [hx]; kernel_rfl) fun K hK => ?_
      simp (config := { maxSteps := 1000000 }) [ty25]
      refine hK _ ?_
      clear hK K
      first | show AWP _ _ _ _ _ | show ∃ _, _ | skip
      repeat refine awp_seq ?_
      refine awp_reg1 (by rw [hx]; kernel_rfl) fun K hK => ?_
      simp (config := { maxSteps := 1000000 }) [ty25]
      refine callP (hr13) (by first | (simp; done) | (simp [*]; done)) ?_
      simp (config := { maxSteps := 1000000 }) []
      refine hK _ ?_
      clear hK K
      first | show AWP _ _ _ _ _ | show ∃ _, _ | skip
      repeat refine awp_seq ?_
      refine awp_cond (by simp; rfl) (by rw [hx]; simp) (fun hd => ?_) (fun hd => ?_)
      · simp at hd
      clear hd
      refine awp_skip ?_
      first | show AWP _ _ _ _ _ | show ∃ _, _ | skip
      repeat refine awp_seq ?_
      refine awp_reg1 (by rw [hx]; kernel_rfl) fun K hK => ?_
      simp (config := { maxSteps := 1000000 }) [ty25]
      refine callP (h25) (by first | (simp; done) | (simp [*]; done)) ?_
      simp (config := { maxSteps := 1000000 }) []
      refine hK _ ?_
      clear hK K
      first | show AWP _ _ _ _ _ | show ∃ _, _ | skip
      repeat refine awp_seq ?_
      refine awp_reg1 (by rw [hx]; kernel_rfl) fun K hK => ?_
      simp (config := { maxSteps := 1000000 }) [ty25]
      refine callP (h37) (by first | (simp; done) | (simp [*]; done)) ?_
      simp (config := { maxSteps := 1000000 }) []
      refine hK _ ?_
      clear hK K
      first | show AWP _ _ _ _ _ | show ∃ _, _ | skip
      repeat refine awp_seq ?_
      refine awp_reg1 (by rw [hx]; kernel_rfl) fun K hK => ?_
      simp (config := { maxSteps := 1000000 }) [ty25]
      refine callP (h38) (by first | (simp; done) | (simp [*]; done)) ?_
      simp (config := { maxSteps := 1000000 }) []
      refine hK _ ?_
      clear hK K
      first | show AWP _ _ _ _ _ | show ∃ _, _ | skip
      repeat refine awp_seq ?_
      refine awp_reg1 (by rw [hx]; kernel_rfl) fun K hK => ?_
      simp (config := { maxSteps := 1000000 }) [ty30]
      refine callP (hk17) (by first | (simp; done) | (simp [*]; done)) ?_
      simp (config := { maxSteps := 1000000 }) [ty30]
      refine hK _ ?_
      clear hK K
      first | show AWP _ _ _ _ _ | show ∃ _, _ | skip
      repeat refine awp_seq ?_
      refine awp_cond (by simp; rfl) (by rw [hx]; simp) (fun hd => ?_) (fun hd => ?_)
      · simp at hd
      clear hd
      refine awp_skip ?_
      first | show AWP _ _ _ _ _ | show ∃ _, _ | skip
      repeat refine awp_seq ?_
      refine awp_reg1 (by rw [hx]; kernel_rfl) fun K hK => ?_
      simp (config := { maxSteps := 1000000 }) []
      refine hK _ ?_
      clear hK K
      first | show AWP _ _ _ _ _ | show ∃ _, _ | skip
      repeat refine awp_seq ?_
      refine awp_reg1 (by rw [hx]; kernel_rfl) fun K hK => ?_
      simp (config := { maxSteps := 1000000 }) []
      refine hK _ ?_
      clear hK K
      first | show AWP _ _ _ _ _ | show ∃ _, _ | skip
      refine AWP.weak ?_ (wk_nil 9 3001 1 (fu := true) (by simp) (by simp))
      repeat refine awp_seq ?_
      refine awp_block ?_
      refine awp_loop (fun i : Nat => ⟨ofL [(1, .ptr 1 3 0 0), (3, encI 0), (4, encI 3), (5, encI 0), (7, encI 0), (9, .own 3001 1 0 (areasTo p i).length), (10, encI i)], stoT [(1, 1, .live (obPlat p)), (3001, 3001, .live ⟨(areasTo p i).isEmpty, false, 1, (areasTo p i).map cI⟩)]⟩)
        (fun i => i ≤ p.ps.length) (fun i => p.ps.length - i) 0 (by simp) ?_ ?_
      · refine wk_shape (shp0 hσ (by simp) (by simp) ?_) ?_
        · simp [SlotOk, areasTo]; exact ⟨.same (plat_pure p), .same rfl⟩
        · simp [mtc, mtl, mT, C.isPure, areasTo]
      · intro i hi
        repeat refine awp_seq ?_
        refine awp_reg1 (by rw [hx]; kernel_rfl) fun K hK => ?_
        simp (config := { maxSteps := 1000000 }) [ty25, ty22, ty3]
        refine hK _ ?_
        clear hK K
        first | show AWP _ _ _ _ _ | show ∃ _, _ | skip
        repeat refine awp_seq ?_
        refine awp_cond (by simp; rfl) (by rw [hx]; simp) (fun hc => ?_) (fun hc => ?_)
        · simp at hc
          have hal := areasTo_len p i (by omega)
          have hne : p.ps ≠ [] := by intro h; rw [h] at hc; simp at hc
          refine awp_skip ?_
          first | show AWP _ _ _ _ _ | show ∃ _, _ | skip
          repeat refine awp_seq ?_
          refine awp_block ?_
          repeat refine awp_seq ?_
          refine awp_reg1 (by rw [hx]; kernel_rfl) fun K hK => ?_
          simp (config := { maxSteps := 1000000 }) [ty25, ty22, ty45, ty23, ty3, hc, hne]
          refine ⟨by omega, ?_⟩
          have ea : (areasTo p i).map cI ++ [[C.int IntKind.i64 p.ps[i].area]] = (areasTo p (i + 1)).map cI := by rw [areasTo_succ p i hc]; simp
          have hal2 := areasTo_len p (i + 1) (by omega)
          have hem : (areasTo p (i + 1)).isEmpty = false := by cases h : areasTo p (i + 1) with | nil => rw [h] at hal2; simp at hal2 | cons a b => rfl
          simp [ea, hal]
          refine hK _ ?_
          clear hK K
          first | show AWP _ _ _ _ _ | show ∃ _, _ | skip
          repeat refine awp_seq ?_
          refine awp_reg1 (by rw [hx]; kernel_rfl) fun K hK => ?_
          simp (config := { maxSteps := 1000000 }) [ty3]
          refine hK _ ?_
          clear hK K
          first | show AWP _ _ _ _ _ | show ∃ _, _ | skip
          refine ⟨i + 1, by omega, by omega, ?_⟩
          refine wk_shape (T := [(1, 1, .live (obPlat p)), (3001, 60, .live ⟨(areasTo p (i + 1)).isEmpty, false, 1, (areasTo p (i + 1)).map cI⟩)]) (shp0 hσ (by simp) (by simp) ?_) ?_
          · simp [SlotOk, hem]
            exact ⟨.same (plat_pure p), .same (ints_pure _)⟩
          · simp [mtc, mtl, mT, C.isPure, purel, hal2]
            simp (disch := omega) [wrap_id]
        · simp at hc
          repeat refine awp_seq ?_
          refine awp_exit ?_
          first | show AWP _ _ _ _ _ | show ∃ _, _ | skip
          obtain rfl : i = p.ps.length := by omega
          have hal := areasTo_len p p.ps.length (Nat.le_refl _)
          repeat refine awp_seq ?_
          refine awp_reg1 (by rw [hx]; kernel_rfl) fun K hK => ?_
          simp (config := { maxSteps := 1000000 }) [ty25]
          refine callL (fills35 p ((areasTo p p.ps.length).isEmpty && !false) (areasTo p p.ps.length) (by omega) (by have := hp.r4; omega) (by have := hp.c4; omega) hn.rn hn.cn 0 b (.inr (.inr ⟨by simp [hp], hal, rfl, hb⟩))) ?_ (.inr rfl) ?_
          · refine mapO_two (viewC_self (plat_pure1 p)) (viewC_own (m := (areasTo p p.ps.length).length) (o := ⟨(areasTo p p.ps.length).isEmpty, false, 1, (areasTo p p.ps.length).map cI⟩) rfl rfl (by simp) (ints_pure _))
          simp
          refine hK _ ?_
          clear hK K
          first | show AWP _ _ _ _ _ | show ∃ _, _ | skip
          repeat refine awp_seq ?_
          refine awp_reg1 (by rw [hx]; kernel_rfl) fun K hK => ?_
          simp (config := { maxSteps := 1000000 }) [ty30]
          refine hK _ ?_
          clear hK K
          first | show AWP _ _ _ _ _ | show ∃ _, _ | skip
          repeat refine awp_seq ?_
          refine awp_cond (by simp; rfl) (by rw [hx]; simp) (fun hd => ?_) (fun hd => ?_)
          · simp at hd
          clear hd
          refine awp_skip ?_
          first | show AWP _ _ _ _ _ | show ∃ _, _ | skip
          repeat refine awp_seq ?_
          refine awp_reg1 (by rw [hx]; kernel_rfl) fun K hK => ?_
          simp (config := { maxSteps := 1000000 }) [ty30]
          refine hK _ ?_
          clear hK K
          first | show AWP _ _ _ _ _ | show ∃ _, _ | skip
          repeat refine awp_seq ?_
          refine awp_cond (by simp; rfl) (by rw [hx]; simp) (fun hd => ?_) (fun hd => ?_)
          · have hno : b = false := by cases b with | false => rfl | true => exact absurd ⟨_, hb.1 rfl⟩ hf
            subst hno
            repeat refine awp_seq ?_
            refine awp_reg1 (by rw [hx]; kernel_rfl) fun K hK => ?_
            simp (config := { maxSteps := 1000000 }) []
            refine callP (works14) (by first | (simp; done) | (simp [*]; done)) ?_
            simp (config := { maxSteps := 1000000 }) [ty3, ty4]
            refine hK _ ?_
            clear hK K
            first | show AWP _ _ _ _ _ | show ∃ _, _ | skip
            repeat refine awp_seq ?_
            refine awp_ret ?_
            refine And.intro (Or.inr rfl) ?_
            simp [retC, resC, viewC, mapO]
          · simp at hd
  · have hr13 := ready_no hrd
    refine pure_of (fn := Try.f11) [.tmp 2] ⟨Try.func11, rfl, by kernel_rfl⟩ (by kernel_rfl) (by kernel_rfl) (by kernel_rfl) fun x hx hσ => ?_
    repeat refine awp_seq ?_
    refine awp_reg1 (by rw [hx]; kernel_rfl) fun K hK => ?_
    simp (config := { maxSteps := 1000000 }) [ty25]
    refine hK _ ?_
    clear hK K
    first | show AWP _ _ _ _ _ | show ∃ _, _ | skip
    repeat refine awp_seq ?_
    refine awp_reg1 (by rw [hx]; kernel_rfl) fun K hK => ?_
    simp (config := { maxSteps := 1000000 }) [ty25]
    refine callP (hr13) (by first | (simp; done) | (simp [*]; done)) ?_
    simp (config := { maxSteps := 1000000 }) []
    refine hK _ ?_
    clear hK K
    first | show AWP _ _ _ _ _ | show ∃ _, _ | skip
    repeat refine awp_seq ?_
    refine awp_cond (by simp; rfl) (by rw [hx]; simp) (fun hd => ?_) (fun hd => ?_)
    · repeat refine awp_seq ?_
      refine awp_reg1 (by rw [hx]; kernel_rfl) fun K hK => ?_
      simp (config := { maxSteps := 1000000 }) []
      refine callP (works14) (by first | (simp; done) | (simp [*]; done)) ?_
      simp (config := { maxSteps := 1000000 }) []
      refine hK _ ?_
      clear hK K
      first | show AWP _ _ _ _ _ | show ∃ _, _ | skip
      repeat refine awp_seq ?_
      refine awp_ret ?_
      refine And.intro (Or.inr rfl) ?_
      simp [retC, resC, viewC, mapO]
    · simp at hd

end Go.Proofs.Ytgcmjidphcafnaa

namespace Go.Proofs.Ytgcmjidphcafnaa
open Go Go.Abs

set_option maxHeartbeats 4000000
set_option maxRecDepth 100000

theorem same32 (n1 f1 n2 f2 : Bool) (l : List Int) (hl : l.length ≤ 1000) : Pure Try.prog 32 [.sl n1 f1 (l.map cI), .sl n2 f2 (l.map cI)] (.bool true) := by
  refine pure_of (fn := Try.f32) [.tmp 4] ⟨Try.func32, rfl, by kernel_rfl⟩ (by kernel_rfl) (by kernel_rfl) (by kernel_rfl) fun x hx hσ => ?_
  repeat refine awp_seq ?_
  refine awp_reg1 (by rw [hx]; kernel_rfl) fun K hK => ?_
  simp (config := { maxSteps := 1000000 }) []
  refine hK _ ?_
  clear hK K
  first | show AWP _ _ _ _ _ | show ∃ _, _ | skip
  repeat refine awp_seq ?_
  refine awp_reg1 (by rw [hx]; kernel_rfl) fun K hK => ?_
  simp (config := { maxSteps := 1000000 }) [ty23, ty3]
  refine hK _ ?_
  clear hK K
  first | show AWP _ _ _ _ _ | show ∃ _, _ | skip
  repeat refine awp_seq ?_
  refine awp_cond (by simp; rfl) (by rw [hx]; simp) (fun hd => ?_) (fun hd => ?_)
  · simp at hd
  clear hd
  refine awp_skip ?_
  first | show AWP _ _ _ _ _ | show ∃ _, _ | skip
  repeat refine awp_seq ?_
  refine awp_reg1 (by rw [hx]; kernel_rfl) fun K hK => ?_
  simp (config := { maxSteps := 1000000 }) []
  refine hK _ ?_
  clear hK K
  first | show AWP _ _ _ _ _ | show ∃ _, _ | skip
  repeat refine awp_seq ?_
  refine awp_block ?_
  refine awp_loop (fun i : Nat => ⟨ofL [(0, .sl n1 f1 (l.map cI)), (1, .sl n2 f2 (l.map cI)), (5, encI i)], stoT []⟩)
    (fun i => i ≤ l.length) (fun i => l.length - i) 0 (by simp) ?_ ?_
  · refine wk_shape (shp0 hσ (by simp) (by simp) ?_) ?_
    · simp [SlotOk] <;> (repeat' (first | exact .same (by simp [purel, C.isPure]) | refine And.intro ?_ ?_))
    · simp [mtc, mtl, mT, C.isPure, purel] <;> (try simp (disch := omega) [wrap_id])
  · intro i hi
    repeat refine awp_seq ?_
    refine awp_reg1 (by rw [hx]; kernel_rfl) fun K hK => ?_
    simp (config := { maxSteps := 1000000 }) [ty23, ty3]
    refine hK _ ?_
    clear hK K
    first | show AWP _ _ _ _ _ | show ∃ _, _ | skip
    repeat refine awp_seq ?_
    refine awp_cond (by simp; rfl) (by rw [hx]; simp) (fun hc => ?_) (fun hc => ?_)
    · simp at hc
      refine awp_skip ?_
      first | show AWP _ _ _ _ _ | show ∃ _, _ | skip
      repeat refine awp_seq ?_
      refine awp_block ?_
      repeat refine awp_seq ?_
      refine awp_drw3 [] [0, 1, 2, 3, 4, 5, 6, 7, 8] (by rw [hx]; kernel_rfl) (by kernel_rfl) (by kernel_rfl) (by kernel_rfl) fun K hK => ?_
      simp (config := { maxSteps := 1000000 }) [ty23, ty3, hc]
      refine hK _ ?_
      clear hK K
      first | show AWP _ _ _ _ _ | show ∃ _, _ | skip
      repeat refine awp_seq ?_
      refine awp_cond (by simp; rfl) (by rw [hx]; simp) (fun hd => ?_) (fun hd => ?_)
      · simp at hd
      clear hd
      refine awp_skip ?_
      first | show AWP _ _ _ _ _ | show ∃ _, _ | skip
      repeat refine awp_seq ?_
      refine awp_reg1 (by rw [hx]; kernel_rfl) fun K hK => ?_
      simp (config := { maxSteps := 1000000 }) [ty3]
      refine hK _ ?_
      clear hK K
      first | show AWP _ _ _ _ _ | show ∃ _, _ | skip
      refine ⟨i + 1, by omega, by omega, ?_⟩
      refine wk_shape (shp0 hσ (by simp) (by simp) ?_) ?_
      · simp [SlotOk] <;> (repeat' (first | exact .same (by simp [purel, C.isPure]) | refine And.intro ?_ ?_))
      · simp [mtc, mtl, mT, C.isPure, purel] <;> (try simp (disch := omega) [wrap_id])
    · simp at hc
      repeat refine awp_seq ?_
      refine awp_exit ?_
      first | show AWP _ _ _ _ _ | show ∃ _, _ | skip
      repeat refine awp_seq ?_
      refine awp_reg1 (by rw [hx]; kernel_rfl) fun K hK => ?_
      simp (config := { maxSteps := 1000000 }) []
      refine hK _ ?_
      clear hK K
      first | show AWP _ _ _ _ _ | show ∃ _, _ | skip
      repeat refine awp_seq ?_
      refine awp_ret ?_
      refine And.intro (Or.inr rfl) ?_
      simp [retC, resC, viewC, mapO]

theorem same27 (p : Plat) (a b c : Bool) (h0 : p.ps.length ≤ 1000) (h1 : p.rows.length ≤ 1000) (h2 : p.cols.length ≤ 1000) : Pure Try.prog 27 [encPlat ⟨a, b, c, p.ps, p.rows, p.cols⟩, encPlat p] (.bool true) := by
  have s1 := same32 b false p.rn false p.rows h1
  have s2 := same32 c false p.cn false p.cols h2
  refine pure_of (fn := Try.f27) [.tmp 4] ⟨Try.func27, rfl, by kernel_rfl⟩ (by kernel_rfl) (by kernel_rfl) (by kernel_rfl) fun x hx hσ => ?_
  repeat refine awp_seq ?_
  refine awp_reg1 (by rw [hx]; kernel_rfl) fun K hK => ?_
  simp (config := { maxSteps := 1000000 }) [ty25]
  refine hK _ ?_
  clear hK K
  first | show AWP _ _ _ _ _ | show ∃ _, _ | skip
  repeat refine awp_seq ?_
  refine awp_reg1 (by rw [hx]; kernel_rfl) fun K hK => ?_
  simp (config := { maxSteps := 1000000 }) [ty25, ty22, ty23, ty3]
  refine callP (s1) (by first | (simp; done) | (simp [*]; done)) ?_
  simp (config := { maxSteps := 1000000 }) [ty25, ty22, ty23, ty3]
  refine callP (s2) (by first | (simp; done) | (simp [*]; done)) ?_
  simp (config := { maxSteps := 1000000 }) [ty25, ty22, ty23, ty3]
  refine hK _ ?_
  clear hK K
  first | show AWP _ _ _ _ _ | show ∃ _, _ | skip
  repeat refine awp_seq ?_
  refine awp_cond (by simp; rfl) (by rw [hx]; simp) (fun hd => ?_) (fun hd => ?_)
  · simp at hd
  clear hd
  refine awp_skip ?_
  first | show AWP _ _ _ _ _ | show ∃ _, _ | skip
  repeat refine awp_seq ?_
  refine awp_reg1 (by rw [hx]; kernel_rfl) fun K hK => ?_
  simp (config := { maxSteps := 1000000 }) []
  refine hK _ ?_
  clear hK K
  first | show AWP _ _ _ _ _ | show ∃ _, _ | skip
  repeat refine awp_seq ?_
  refine awp_block ?_
  refine awp_loop (fun i : Nat => ⟨ofL [(2, .ptr 2 3 0 0), (3, .ptr 3 3 0 0), (5, encI i)], stoT [(2, 2, .live (obPlat ⟨a, b, c, p.ps, p.rows, p.cols⟩)), (3, 3, .live (obPlat p))]⟩)
    (fun i => i ≤ p.ps.length) (fun i => p.ps.length - i) 0 (by simp) ?_ ?_
  · refine wk_shape (shp0 hσ (by simp) (by simp) ?_) ?_
    · simp [SlotOk]
      exact ⟨.same (plat_pure ⟨a, b, c, p.ps, p.rows, p.cols⟩), .same (plat_pure p)⟩
    · simp [mtc, mtl, mT, C.isPure, purel]
  · intro i hi
    repeat refine awp_seq ?_
    refine awp_reg1 (by rw [hx]; kernel_rfl) fun K hK => ?_
    simp (config := { maxSteps := 1000000 }) [ty25, ty22, ty3]
    refine hK _ ?_
    clear hK K
    first | show AWP _ _ _ _ _ | show ∃ _, _ | skip
    repeat refine awp_seq ?_
    refine awp_cond (by simp; rfl) (by rw [hx]; simp) (fun hc => ?_) (fun hc => ?_)
    · simp at hc
      have hne : p.ps ≠ [] := by intro h; rw [h] at hc; simp at hc
      refine awp_skip ?_
      first | show AWP _ _ _ _ _ | show ∃ _, _ | skip
      repeat refine awp_seq ?_
      refine awp_block ?_
      repeat refine awp_seq ?_
      refine awp_drw3 [] [0, 1, 2, 3, 4, 5, 6, 7, 8, 9, 10] (by rw [hx]; kernel_rfl) (by kernel_rfl) (by kernel_rfl) (by kernel_rfl) fun K hK => ?_
      simp (config := { maxSteps := 1000000 }) [ty25, ty22, ty45, ty3, hc, hne, fe45, eqInts]
      refine hK _ ?_
      clear hK K
      first | show AWP _ _ _ _ _ | show ∃ _, _ | skip
      repeat refine awp_seq ?_
      refine awp_cond (by simp; rfl) (by rw [hx]; simp) (fun hd => ?_) (fun hd => ?_)
      · simp at hd
      clear hd
      refine awp_skip ?_
      first | show AWP _ _ _ _ _ | show ∃ _, _ | skip
      repeat refine awp_seq ?_
      refine awp_reg1 (by rw [hx]; kernel_rfl) fun K hK => ?_
      simp (config := { maxSteps := 1000000 }) [ty3]
      refine hK _ ?_
      clear hK K
      first | show AWP _ _ _ _ _ | show ∃ _, _ | skip
      refine ⟨i + 1, by omega, by omega, ?_⟩
      refine wk_shape (T := [(2, 2, .live (obPlat ⟨a, b, c, p.ps, p.rows, p.cols⟩)), (3, 3, .live (obPlat p))]) (shp0 hσ (by simp) (by simp) ?_) ?_
      · simp [SlotOk]
        exact ⟨.same (plat_pure ⟨a, b, c, p.ps, p.rows, p.cols⟩), .same (plat_pure p)⟩
      · simp [mtc, mtl, mT, C.isPure, purel]
        simp (disch := omega) [wrap_id]
    · simp at hc
      repeat refine awp_seq ?_
      refine awp_exit ?_
      first | show AWP _ _ _ _ _ | show ∃ _, _ | skip
      repeat refine awp_seq ?_
      refine awp_reg1 (by rw [hx]; kernel_rfl) fun K hK => ?_
      simp (config := { maxSteps := 1000000 }) []
      refine hK _ ?_
      clear hK K
      first | show AWP _ _ _ _ _ | show ∃ _, _ | skip
      repeat refine awp_seq ?_
      refine awp_ret ?_
      refine And.intro (Or.inr rfl) ?_
      simp [retC, resC, viewC, mapO]

theorem ok_cp {p : Plat} : PlatOk (cpP p.ps p.rows p.cols) ↔ PlatOk p :=
  ⟨fun h => ⟨h.n8, h.r4, h.c4, h.rows, h.cols, h.ps, h.rr, h.cc⟩, fun h => ⟨h.n8, h.r4, h.c4, h.rows, h.cols, h.ps, h.rr, h.cc⟩⟩

open Classical in
theorem encF_ex (p : Plat) (l : List Int) : ∃ e b, encFills p l (decide (PlatOk p)) e b ∧ encFills (cpP p.ps p.rows p.cols) l (decide (PlatOk (cpP p.ps p.rows p.cols))) e b := by
  have hd : decide (PlatOk (cpP p.ps p.rows p.cols)) = decide (PlatOk p) := by rw [decide_eq_decide]; exact ok_cp
  rw [hd]
  by_cases h : PlatOk p
  · by_cases hl : l.length = p.ps.length
    · exact ⟨0, decide (IsP p l), .inr (.inr ⟨by simp [h], hl, rfl, by simp⟩), .inr (.inr ⟨by simp [h], hl, rfl, by simp; exact Iff.rfl⟩)⟩
    · exact ⟨1, false, .inr (.inl ⟨by simp [h], hl, rfl, rfl⟩), .inr (.inl ⟨by simp [h], hl, rfl, rfl⟩)⟩
  · exact ⟨60, false, .inl ⟨by simp [h], rfl, rfl⟩, .inl ⟨by simp [h], rfl, rfl⟩⟩

open Classical in
theorem fills7 (p : Plat) (hn : NlOk p) (nl : Bool) (l : List Int) : Pure Try.prog 7 [encPlat p, .sl nl false (l.map cI)] (.bool true) := by
  by_cases hfar : FarP p
  · have hf := far26 p true (by simp [hfar])
    refine pure_of (fn := Try.f7) [.tmp 4] ⟨Try.func7, rfl, by kernel_rfl⟩ (by kernel_rfl) (by kernel_rfl) (by kernel_rfl) fun x hx hσ => ?_
    repeat refine awp_seq ?_
    refine awp_reg1 (by rw [hx]; kernel_rfl) fun K hK => ?_
    simp (config := { maxSteps := 1000000 }) [ty25]
    refine hK _ ?_
    clear hK K
    first | show AWP _ _ _ _ _ | show ∃ _, _ | skip
    repeat refine awp_seq ?_
    refine awp_reg1 (by rw [hx]; kernel_rfl) fun K hK => ?_
    simp (config := { maxSteps := 1000000 }) [ty25, ty23, ty3]
    refine callP (hf) (by first | (simp; done) | (simp [*]; done)) ?_
    simp (config := { maxSteps := 1000000 }) [ty25, ty23, ty3]
    refine hK _ ?_
    clear hK K
    first | show AWP _ _ _ _ _ | show ∃ _, _ | skip
    repeat refine awp_seq ?_
    refine awp_cond (by simp; rfl) (by rw [hx]; simp) (fun hd => ?_) (fun hd => ?_)
    · repeat refine awp_seq ?_
      refine awp_reg1 (by rw [hx]; kernel_rfl) fun K hK => ?_
      simp (config := { maxSteps := 1000000 }) []
      refine callP (works14) (by first | (simp; done) | (simp [*]; done)) ?_
      simp (config := { maxSteps := 1000000 }) []
      refine hK _ ?_
      clear hK K
      first | show AWP _ _ _ _ _ | show ∃ _, _ | skip
      repeat refine awp_seq ?_
      refine awp_ret ?_
      refine And.intro (Or.inr rfl) ?_
      simp [retC, resC, viewC, mapO]
    · simp at hd
  · have hf := far26 p false (by simp [hfar])
    have h0 : p.ps.length ≤ 40 ∧ p.rows.length ≤ 40 ∧ p.cols.length ≤ 40 := by unfold FarP at hfar; simp only [not_or, Nat.not_lt] at hfar; exact hfar.1
    by_cases hl : l.length ≤ 40
    · have g1 : ¬ ((40 : Int) < l.length) := by omega
      have g2 : ¬ (40 < l.length) := by omega
      have hcp := copy24 p (by omega) (by omega) (by omega)
      refine pure_of (fn := Try.f7) [.tmp 4] ⟨Try.func7, rfl, by kernel_rfl⟩ (by kernel_rfl) (by kernel_rfl) (by kernel_rfl) fun x hx hσ => ?_
      repeat refine awp_seq ?_
      refine awp_reg1 (by rw [hx]; kernel_rfl) fun K hK => ?_
      simp (config := { maxSteps := 1000000 }) [ty25]
      refine hK _ ?_
      clear hK K
      first | show AWP _ _ _ _ _ | show ∃ _, _ | skip
      repeat refine awp_seq ?_
      refine awp_reg1 (by rw [hx]; kernel_rfl) fun K hK => ?_
      simp (config := { maxSteps := 1000000 }) [ty25, ty23, ty3, g1, g2]
      refine callP (hf) (by first | (simp; done) | (simp [*]; done)) ?_
      simp (config := { maxSteps := 1000000 }) [ty25, ty23, ty3, g1, g2]
      refine hK _ ?_
      clear hK K
      first | show AWP _ _ _ _ _ | show ∃ _, _ | skip
      repeat refine awp_seq ?_
      refine awp_cond (by simp; rfl) (by rw [hx]; simp) (fun hd => ?_) (fun hd => ?_)
      · simp at hd
      clear hd
      refine awp_skip ?_
      first | show AWP _ _ _ _ _ | show ∃ _, _ | skip
      repeat refine awp_seq ?_
      refine awp_reg1 (by rw [hx]; kernel_rfl) fun K hK => ?_
      simp (config := { maxSteps := 1000000 }) [ty25, ty23, ty3]
      refine makesL 5001 hcp ?_ ?_
      · intro q h1 h2
        have e1 : q ≠ 2 := by omega
        simp [e1]
      simp [ty25, ty23, ty3]
      refine ⟨by omega, ?_⟩
      refine hK _ ?_
      clear hK K
      first | show AWP _ _ _ _ _ | show ∃ _, _ | skip
      refine AWP.weak (t := ⟨ofL [(1, .sl nl false (l.map cI)), (2, .ptr 2 3 0 0), (5, .ptr 5 3 0 0), (6, .own 23 1 0 l.length)],
        stoT [(2, 2, .live (obPlat p)), (5, 5, .live (platBox 5001 p)), (23, 23, .live (clOb l true)), (5001, 5001, .live (pcsOb true p.ps)), (5002, 5002, .live (clOb p.rows true)), (5003, 5003, .live (clOb p.cols true))]⟩) ?_ ?_
      rotate_left
      · refine wk_shape (shp0 hσ (by simp) (by simp) ?_) ?_
        · simp [SlotOk]
          refine ⟨.same (plat_pure p), rowsOk_box (by simp [mtc, mT]) (by simp [mtc, mT]) (by simp [mtc, mT]) rfl rfl rfl, .same (ints_pure _), .same (pcs_pure _), .same (ints_pure _), .same (ints_pure _)⟩
        · simp [mtc, mtl, mT, C.isPure, purel]
      have c33 := check33 (cpP p.ps p.rows p.cols) (by simp; omega) (by simp; omega) (by simp; omega)
      have c34 := check34 p (by omega) (by omega) (by omega)
      have eif : (if PlatOk (cpP p.ps p.rows p.cols) then (0 : Int) else 60) = if PlatOk p then 0 else 60 := by
        by_cases h : PlatOk p
        · rw [if_pos h, if_pos (ok_cp.2 h)]
        · rw [if_neg h, if_neg (fun h' => h (ok_cp.1 h'))]
      rw [eif] at c33
      obtain ⟨ck, hck⟩ : ∃ ck, ck = (if PlatOk p then (0 : Int) else 60) := ⟨_, rfl⟩
      rw [← hck] at c33 c34
      repeat refine awp_seq ?_
      refine awp_drw3 [] [0, 1, 2, 3, 4] (by rw [hx]; kernel_rfl) (by kernel_rfl) (by kernel_rfl) (by kernel_rfl) fun K hK => ?_
      simp (config := { maxSteps := 1000000 }) [ty25]
      refine callD c33 ?_ (.inr rfl) (by simp) ?_
      · refine mapO_one (viewC_plat rfl rfl rfl (by simp) rfl rfl)
      simp [ty25]
      refine callPD (c34) (by first | (simp; done) | (simp [*]; done)) (by simp) ?_
      simp (config := { maxSteps := 1000000 }) [ty25, ty30]
      refine hK _ ?_
      clear hK K
      first | show AWP _ _ _ _ _ | show ∃ _, _ | skip
      repeat refine awp_seq ?_
      refine awp_cond (by simp; rfl) (by rw [hx]; simp) (fun hd => ?_) (fun hd => ?_)
      · simp at hd
      clear hd
      refine awp_skip ?_
      first | show AWP _ _ _ _ _ | show ∃ _, _ | skip
      obtain ⟨e, b, hF, hFc⟩ := encF_ex p l
      repeat refine awp_seq ?_
      refine awp_reg1 (by rw [hx]; kernel_rfl) fun K hK => ?_
      simp (config := { maxSteps := 1000000 }) [ty25]
      refine callL (fills35 (cpP p.ps p.rows p.cols) (l.isEmpty && !true) l (by simp; omega) (by simp; omega) (by simp; omega) (by simp) (by simp) e b hFc) ?_ (.inr rfl) ?_
      · refine mapO_two (viewC_plat rfl rfl rfl (by simp) rfl rfl) (viewC_own (m := l.length) (o := clOb l true) rfl rfl (by simp) (ints_pure _))
      simp
      refine hK _ ?_
      clear hK K
      first | show AWP _ _ _ _ _ | show ∃ _, _ | skip
      have h36 := fills36 p nl l (by omega) (by omega) (by omega) (by omega) e b hF
      repeat refine awp_seq ?_
      refine awp_reg1 (by rw [hx]; kernel_rfl) fun K hK => ?_
      simp (config := { maxSteps := 1000000 }) [ty25]
      refine callP (h36) (by first | (simp; done) | (simp [*]; done)) ?_
      simp (config := { maxSteps := 1000000 }) []
      refine hK _ ?_
      clear hK K
      first | show AWP _ _ _ _ _ | show ∃ _, _ | skip
      repeat refine awp_seq ?_
      refine awp_reg1 (by rw [hx]; kernel_rfl) fun K hK => ?_
      simp (config := { maxSteps := 1000000 }) [ty25, ty4, ty30]
      refine callL (same27 p false false false (by omega) (by omega) (by omega)) ?_ (.inr rfl) ?_
      · refine mapO_two (viewC_plat rfl rfl rfl (by simp) rfl rfl) (viewC_self (plat_pure1 p))
      simp [ty25]
      refine callL (same32 (l.isEmpty && !true) false nl false l (by omega)) ?_ (.inr rfl) ?_
      · refine mapO_two (viewC_own (m := l.length) (o := clOb l true) rfl rfl (by simp) (ints_pure _)) (viewC_self (by simp [C.isPure]))
      simp [ty25]
      refine callP (works14) (by first | (simp; done) | (simp [*]; done)) ?_
      simp (config := { maxSteps := 1000000 }) []
      refine hK _ ?_
      clear hK K
      first | show AWP _ _ _ _ _ | show ∃ _, _ | skip
      repeat refine awp_seq ?_
      refine awp_ret ?_
      refine And.intro (Or.inr rfl) ?_
      simp [retC, resC, viewC, mapO]
    · have g1 : ((40 : Int) < l.length) := by omega
      have g2 : (40 < l.length) := by omega
      refine pure_of (fn := Try.f7) [.tmp 4] ⟨Try.func7, rfl, by kernel_rfl⟩ (by kernel_rfl) (by kernel_rfl) (by kernel_rfl) fun x hx hσ => ?_
      repeat refine awp_seq ?_
      refine awp_reg1 (by rw [hx]; kernel_rfl) fun K hK => ?_
      simp (config := { maxSteps := 1000000 }) [ty25]
      refine hK _ ?_
      clear hK K
      first | show AWP _ _ _ _ _ | show ∃ _, _ | skip
      repeat refine awp_seq ?_
      refine awp_reg1 (by rw [hx]; kernel_rfl) fun K hK => ?_
      simp (config := { maxSteps := 1000000 }) [ty25, ty23, ty3, g1, g2]
      refine callP (hf) (by first | (simp; done) | (simp [*]; done)) ?_
      simp (config := { maxSteps := 1000000 }) [ty25, ty23, ty3, g1, g2]
      refine hK _ ?_
      clear hK K
      first | show AWP _ _ _ _ _ | show ∃ _, _ | skip
      repeat refine awp_seq ?_
      refine awp_cond (by simp; rfl) (by rw [hx]; simp) (fun hd => ?_) (fun hd => ?_)
      · repeat refine awp_seq ?_
        refine awp_reg1 (by rw [hx]; kernel_rfl) fun K hK => ?_
        simp (config := { maxSteps := 1000000 }) []
        refine callP (works14) (by first | (simp; done) | (simp [*]; done)) ?_
        simp (config := { maxSteps := 1000000 }) []
        refine hK _ ?_
        clear hK K
        first | show AWP _ _ _ _ _ | show ∃ _, _ | skip
        repeat refine awp_seq ?_
        refine awp_ret ?_
        refine And.intro (Or.inr rfl) ?_
        simp [retC, resC, viewC, mapO]
      · simp at hd

end Go.Proofs.Ytgcmjidphcafnaa

namespace Go.Proofs.Ytgcmjidphcafnaa
open Go Go.Abs
open Go.ChangeShapes Go.WideShapes Go.ChangeAt Go.RowKit

set_option maxRecDepth 100000 in
theorem parcelsFills_lifted (os : Os) (started : os.Started) (H : Type) (enc : TypeId × Value → H) :
    ReturnsInHanded {} Try.checked os 7 .any (Rows.parcelsFillsSpec.pre6 enc Try.prog Try.f7 Rows.parcelsFillsRow.domain false) (Rows.parcelsFillsSpec.post enc Try.prog Try.f7 false true false false) := by
  refine returnsInHanded_of_change (C := Try.checked) J.own started (by kernel_rfl) Try.func7
    (ChangeSpec.witness6 (enc := enc) (C := Try.checked) false ⟨#[], #[.agg #[.slice none 0 0, .slice none 0 0, .slice none 0 0], .slice none 0 0], []⟩ 8 (by kernel_rfl) (by kernel_rfl) (by kernel_rfl) (by kernel_rfl)) ?_
  intro W base args ds gs before hval hW _ _
  refine law_contract (P := Try.prog) (tb := 4) (by kernel_rfl) J.ub rfl (fun ds hl => ?_) J.laid J.maps J.sized (by kernel_rfl) (by kernel_rfl) (fun cargs hc => ?_) W base args ds gs before hval hW
  · have h2 : ds.length = 2 := hl
    match ds, h2 with
    | [_, _], _ => rfl
  · rw [Try.params7] at hc
    obtain ⟨p, r, rfl, hn, hc1⟩ := arg25 hc
    obtain ⟨nl, l, r, rfl, hnl, hc2⟩ := arg23 hc1
    obtain rfl := arg_end hc2
    exact fills7 p hn nl l

theorem parcelsFills_holds : Rows.ParcelsFillsSaid :=
  OpenClaim.holds_of_wide 7 Try.f7 rfl rfl rfl rfl rfl rfl rfl ⟨rfl, rfl, rfl, rfl, rfl⟩ rfl rfl rfl rfl rfl (by kernel_rfl) Try.func7 (by kernel_rfl)
    (of_decide_eq_true (by kernel_rfl)) (by unfold Func.isWrapper; first | (rw [if_pos (by decide +kernel)]; kernel_rfl) | (rw [if_neg (by decide +kernel)]; exact ⟨rfl, rfl⟩))
    (fun os started H enc _ => parcelsFills_lifted os started H enc)
#print axioms parcelsFills_holds
end Go.Proofs.Ytgcmjidphcafnaa

